/- Texts laid together: PolP, PolW, LinW, Ref06i, RWithW, Ref07P, Ref07Q, KitP, KitW, RefBP, RefBQ, RefBL, RightW, PutW, RowW, TakeW, ReadW, WriteW, R10aW. -/
import Derived.Test.YtnakabnmjnfpcaaDoorCardTellsBQCrcP
import Derived.Test.YtnakabnmjnfpcaaDoorCardTellsBQVarint
import Derived.Test.YtnakabnmjnfpcaaDoorCardTellsBQCheck
import Derived.Test.YtnakabnmjnfpcaaDoorCardTellsBQRef01
import Derived.Test.YtnakabnmjnfpcaaDoorCardTellsBQRef06f
import Derived.Test.YtnakabnmjnfpcaaDoorCardTellsBQRWith
import Derived.Test.YtnakabnmjnfpcaaDoorCardTellsBQBlkR
import Derived.Test.YtnakabnmjnfpcaaDoorCardTellsBZ2
namespace Go.Proofs.YtnakabnmjnfpcaaDoor
open Go.RowKit
theorem ownsRow_cut {w : World} {base n m c size : Nat} {e : TypeId} {A : Option Addr} {xs : List Value} (h : w.ownsRow base e size (.slice A n c) n xs) (hm : m ≤ n) : w.ownsRow base e size (.slice A m c) m (xs.take (m * size)) := by
  have hms : m * size ≤ n * size := Nat.mul_le_mul_right _ hm
  refine ⟨by rw [List.length_take, h.1]; omega, ?_⟩
  rcases h.2 with ⟨hv, hn⟩ | ⟨g, cap, cur, hv, hb, hg, h1, h2, h3, h4⟩
  · injection hv with a1 a2 a3
    subst a1; subst a3; subst hn
    have : m = 0 := by omega
    subst this
    exact .inl ⟨rfl, rfl⟩
  · injection hv with a1 a2 a3
    subst a1; subst a3
    refine .inr ⟨g, c, cur, rfl, hb, hg, by omega, h2, h3, ?_⟩
    rw [← h4, List.take_take]
    congr 1
    omega
section
variable {W w : World} {fs : List Fact}
theorem Mem.cutRow (h : Mem W w fs) {i n m c size : Nat} {e : TypeId} {A : Option Addr} {xs ys : List Value} (hi : fs[i]? = some (.row (.slice A n c) n xs e size)) (hm : m ≤ n) (hy : xs.take (m * size) = ys) : Mem W w (fs.set i (.row (.slice A m c) m ys e size)) := by
  subst hy
  have hb := h.holds _ (List.mem_of_getElem? hi)
  exact h.turn hi h.below (fun _ _ _ => rfl) (ownsRow_cut hb hm) (fun g' hg' => .inl (by cases A <;> exact hg'))
end
theorem ei_pol : EI Tryd.prog 159 3 (.int .i64 0) 1 8 := ⟨by kernel_rfl, by kernel_rfl, rfl, by omega⟩
/-- A row of coefficients of the call's own. -/
def PolIs (w : World) (l : List Nat) (r : Ending) (w' : World) : Prop :=
  (∃ A c, r = .returned (.slice A l.length c) ∧ w'.ownsRow w.heap.size 3 1 (.slice A l.length c) l.length (l.map I64v) ∧ l.length ≤ c) ∧ Below w.heap.size w w'
/-- What Divide returns: the remainder; the dividend itself where it is the smaller one. -/
def DivIs (w : World) (A : Option Addr) (c : Nat) (a b : List Nat) (r : Ending) (w' : World) : Prop :=
  (∃ vq X c', r = .returned (.tuple #[vq, .slice X (divR (a.length + 1) a b).length c']) ∧ (a.length < b.length → X = A ∧ c' = c) ∧ (b.length ≤ a.length → w'.ownsRow w.heap.size 3 1 (.slice X (divR (a.length + 1) a b).length c') (divR (a.length + 1) a b).length ((divR (a.length + 1) a b).map I64v) ∧ (divR (a.length + 1) a b).length ≤ c')) ∧ Below w.heap.size w w'
def P01 (l : List Nat) : Prop := ∀ x ∈ l, x < 2
def Tr (l : List Nat) : Prop := 0 < l.length → l.getD (l.length - 1) 0 ≠ 0
theorem getD01 {l : List Nat} (h : P01 l) (k : Nat) : l.getD k 0 < 2 := by
  rw [List.getD_eq_getElem?_getD]
  cases hk : l[k]? with
  | none => simp
  | some x => exact h x (List.mem_of_getElem? hk)
theorem take_pred {l : List Nat} {k : Nat} (h : 0 < k) (hk : k ≤ l.length) : l.take k = l.take (k - 1) ++ [l.getD (k - 1) 0] := by
  obtain ⟨j, rfl⟩ : ∃ j, k = j + 1 := ⟨k - 1, by omega⟩
  rw [Nat.add_sub_cancel, List.take_succ_eq_append_getElem (by omega), List.getD_eq_getElem?_getD, List.getElem?_eq_getElem (by omega)]
  rfl
theorem trim_step {l : List Nat} {k : Nat} (h : 0 < k) (hk : k ≤ l.length) (h0 : l.getD (k - 1) 0 = 0) (ht : trimL (l.take k) = trimL l) : trimL (l.take (k - 1)) = trimL l := by
  rw [← ht, take_pred h hk, h0, trimL_snoc0]
theorem trim_stop {l : List Nat} {k : Nat} (hk : k ≤ l.length) (h0 : 0 < k → l.getD (k - 1) 0 ≠ 0) (ht : trimL (l.take k) = trimL l) : trimL l = l.take k := by
  rw [← ht]
  by_cases h : 0 < k
  · rw [take_pred h hk, trimL_snoc (h0 h)]
  · have : k = 0 := by omega
    subst this
    rfl
theorem trim_pre (l : List Nat) : trimL l <+: l := by
  have h := List.dropWhile_suffix (l := l.reverse) (· == 0)
  have := List.reverse_prefix.2 h
  rwa [List.reverse_reverse] at this
theorem trim_take (l : List Nat) : l.take (trimL l).length = trimL l := (List.prefix_iff_eq_take.1 (trim_pre l)).symm
theorem trim_len (l : List Nat) : (trimL l).length ≤ l.length := (trim_pre l).length_le
theorem trim_take_map (l : List Nat) : (l.map I64v).take ((trimL l).length * 1) = (trimL l).map I64v := by rw [Nat.mul_one, ← List.map_take, trim_take]
theorem trim01 {l : List Nat} (h : P01 l) : P01 (trimL l) := fun x hx => h x ((trim_pre l).sublist.mem hx)
theorem trimTr : ∀ (n : Nat) (l : List Nat), l.length = n → Tr (trimL l)
  | 0, l, h => by
    rw [List.length_eq_zero_iff] at h
    subst h
    intro h; simp [trimL] at h
  | n + 1, l, h => by
    have e := take_pred (l := l) (k := l.length) (by omega) (by omega)
    rw [List.take_length] at e
    by_cases h0 : l.getD (l.length - 1) 0 = 0
    · rw [e, h0, trimL_snoc0]
      exact trimTr n _ (by rw [List.length_take]; omega)
    · rw [e, trimL_snoc h0, ← e]
      intro _
      exact h0
theorem trimTr' (l : List Nat) : Tr (trimL l) := trimTr _ l rfl
theorem range_map_succ (f : Nat → Nat) (k : Nat) : (List.range (k + 1)).map f = (List.range k).map f ++ [f k] := by rw [List.range_succ, List.map_append]; rfl
def polyUp (p k : Nat) : List Nat := (List.range k).map fun i => p / 2 ^ i % 2
theorem polyUp_succ (p k : Nat) : polyUp p (k + 1) = polyUp p k ++ [p / 2 ^ k % 2] := range_map_succ _ _
theorem polyUp_len (p k : Nat) : (polyUp p k).length = k := by unfold polyUp; rw [List.length_map, List.length_range]
def sumUp (a b : List Nat) (s k : Nat) : List Nat := (List.range k).map (sumAt a b s)
theorem sumUp_succ (a b : List Nat) (s k : Nat) : sumUp a b s (k + 1) = sumUp a b s k ++ [sumAt a b s k] := range_map_succ _ _
theorem sumUp_len (a b : List Nat) (s k : Nat) : (sumUp a b s k).length = k := by unfold sumUp; rw [List.length_map, List.length_range]
theorem sumUp_all (a b : List Nat) (s : Nat) : trimL (sumUp a b s (max a.length (b.length + s))) = sumL a b s := rfl
theorem getD_off {l : List Nat} {k : Nat} (h : l.length ≤ k) : l.getD k 0 = 0 := by rw [List.getD_eq_getElem?_getD, List.getElem?_eq_none h]; rfl
theorem sumAtA {a b : List Nat} {s k : Nat} (h1 : s ≤ k) (h2 : k - s < b.length) : sumAt a b s k = (a.getD k 0 + b.getD (k - s) 0) % 2 := if_pos ⟨h1, h2⟩
theorem sumAtB {a b : List Nat} {s k : Nat} (h1 : s ≤ k) (h2 : k - s < b.length) (h3 : a.length ≤ k) : sumAt a b s k = (0 + b.getD (k - s) 0) % 2 := by rw [sumAtA h1 h2, getD_off h3]
theorem sumAtC {a b : List Nat} {s k : Nat} (h : ¬ (s ≤ k ∧ k - s < b.length)) : sumAt a b s k = a.getD k 0 := if_neg h
theorem sumAtD {a b : List Nat} {s k : Nat} (h : ¬ (s ≤ k ∧ k - s < b.length)) (h3 : a.length ≤ k) : sumAt a b s k = 0 := by rw [sumAtC h, getD_off h3]
theorem sumAt01 {a b : List Nat} (ha : P01 a) (s i : Nat) : sumAt a b s i < 2 := by
  unfold sumAt
  split
  · omega
  · exact getD01 ha i
theorem sum01 {a b : List Nat} (ha : P01 a) (s : Nat) : P01 (sumL a b s) := by
  unfold sumL
  apply trim01
  intro x hx
  obtain ⟨i, _, rfl⟩ := List.mem_map.1 hx
  exact sumAt01 ha s i
theorem sumTr (a b : List Nat) (s : Nat) : Tr (sumL a b s) := trimTr' _
theorem sum_len (a b : List Nat) (s : Nat) : (sumL a b s).length ≤ max a.length (b.length + s) := by
  unfold sumL
  refine Nat.le_trans (trim_len _) ?_
  rw [List.length_map, List.length_range]
  exact Nat.le_refl _
theorem sum_less {a b : List Nat} (ha : P01 a) (hb : P01 b) (hta : Tr a) (htb : Tr b) (h0 : 0 < b.length) (h : b.length ≤ a.length) : (sumL a b (a.length - b.length)).length < a.length := by
  have e : max a.length (b.length + (a.length - b.length)) = (a.length - 1) + 1 := by omega
  have h1 := hta (by omega)
  have h2 := htb h0
  have h3 := getD01 ha (a.length - 1)
  have h4 := getD01 hb (b.length - 1)
  unfold sumL
  rw [e, range_map_succ]
  have hz : sumAt a b (a.length - b.length) (a.length - 1) = 0 := by
    unfold sumAt
    rw [if_pos ⟨by omega, by omega⟩, show a.length - 1 - (a.length - b.length) = b.length - 1 by omega]
    omega
  rw [hz, trimL_snoc0]
  refine Nat.lt_of_le_of_lt (trim_len _) ?_
  rw [List.length_map, List.length_range]
  omega
theorem div_fuel {b : List Nat} (hb : P01 b) (htb : Tr b) (h0 : 0 < b.length) : ∀ (n : Nat) (a : List Nat), a.length = n → P01 a → Tr a → ∀ f g, a.length < f → a.length < g → divR f a b = divR g a b := by
  intro n
  induction n using Nat.strongRecOn with
  | _ n ih =>
    intro a hn ha hta f g hf hg
    obtain ⟨f, rfl⟩ : ∃ j, f = j + 1 := ⟨f - 1, by omega⟩
    obtain ⟨g, rfl⟩ : ∃ j, g = j + 1 := ⟨g - 1, by omega⟩
    rw [divR, divR]
    split
    · rename_i h
      have hl := sum_less ha hb hta htb h0 h
      exact ih _ (by omega) _ rfl (sum01 ha _) (sumTr _ _ _) f g (by omega) (by omega)
    · rfl
/-- A round of the division. -/
theorem div_step {a0 a b : List Nat} (hb : P01 b) (htb : Tr b) (h0 : 0 < b.length) (ha : P01 a) (hta : Tr a) (h : b.length ≤ a.length) (he : divR (a.length + 1) a b = divR (a0.length + 1) a0 b) :
    divR ((sumL a b (a.length - b.length)).length + 1) (sumL a b (a.length - b.length)) b = divR (a0.length + 1) a0 b := by
  have hl := sum_less ha hb hta htb h0 h
  have e : divR (a.length + 1) a b = divR a.length (sumL a b (a.length - b.length)) b := by rw [divR, if_pos h]
  rw [← he, e]
  exact div_fuel hb htb h0 _ _ rfl (sum01 ha _) (sumTr _ _ _) _ _ (by omega) (by omega)
theorem div_stop {a b : List Nat} (h : ¬ b.length ≤ a.length) : divR (a.length + 1) a b = a := by rw [divR, if_neg h]
theorem poly01 (p : Nat) : P01 (polyOf p) := by
  unfold polyOf
  apply trim01
  intro x hx
  obtain ⟨i, _, rfl⟩ := List.mem_map.1 hx
  omega
theorem bits01 (p : Nat) : P01 (bitsOf p) := by
  unfold bitsOf
  apply trim01
  intro x hx
  obtain ⟨i, _, rfl⟩ := List.mem_map.1 hx
  split <;> omega
theorem polyTr (p : Nat) : Tr (polyOf p) := trimTr' _
theorem bitsTr (p : Nat) : Tr (bitsOf p) := trimTr' _
theorem gen_len : genP.length = 33 := by decide +kernel
theorem bits_len (p : Nat) : (bitsOf p).length ≤ 40 := by
  unfold bitsOf
  refine Nat.le_trans (trim_len _) ?_
  rw [List.length_map, List.length_range]
  exact Nat.le_refl _
theorem div_len {b : List Nat} (h0 : 0 < b.length) (hb : P01 b) (htb : Tr b) : ∀ (n : Nat) (a : List Nat), a.length = n → P01 a → Tr a → (divR (a.length + 1) a b).length < b.length := by
  intro n
  induction n using Nat.strongRecOn with
  | _ n ih =>
    intro a hn ha hta
    by_cases h : b.length ≤ a.length
    · have hl := sum_less ha hb hta htb h0 h
      have hs := div_step hb htb h0 ha hta h rfl
      rw [← hs]
      exact ih _ (by omega) _ rfl (sum01 ha _) (sumTr _ _ _)
    · rw [div_stop h]; omega
def linR (y : Nat) : List Nat := divR ((bitsOf y).length + 1) (bitsOf y) genP
theorem linR_len (y : Nat) : (linR y).length ≤ 32 := by
  have h := div_len (b := genP) (by rw [gen_len]; decide) (poly01 _) (polyTr _) _ (bitsOf y) rfl (bits01 _) (bitsTr _)
  rw [gen_len] at h
  exact Nat.le_of_lt_succ h
theorem linR_is (y : Nat) : remNum (linR y) = refLin y := by
  unfold refLin linR
  have := bits_len y
  rw [div_fuel (b := genP) (poly01 _) (polyTr _) (by rw [gen_len]; decide) _ (bitsOf y) rfl (bits01 _) (bitsTr _) ((bitsOf y).length + 1) 41 (by omega) (by omega)]
def remUp (r : List Nat) (k : Nat) : Nat := ((List.range k).map fun k => if r.getD k 0 = 1 then 2 ^ (31 - k) else 0).sum
theorem remUp_succ (r : List Nat) (k : Nat) : remUp r (k + 1) = remUp r k + if r.getD k 0 = 1 then 2 ^ (31 - k) else 0 := by
  unfold remUp
  rw [range_map_succ, List.sum_append]
  simp
theorem remUp_lt (r : List Nat) : ∀ k, k ≤ 32 → remUp r k + 2 ^ (32 - k) ≤ 4294967296
  | 0, _ => by show 0 + 2 ^ 32 ≤ _; decide
  | k + 1, h => by
    have ih := remUp_lt r k (by omega)
    rw [remUp_succ]
    have e1 : (2 : Nat) ^ (32 - k) = 2 ^ (32 - (k + 1)) * 2 := by rw [show 32 - k = (32 - (k + 1)) + 1 by omega, Nat.pow_succ]
    have e2 : (2 : Nat) ^ (31 - k) = 2 ^ (32 - (k + 1)) := by rw [show 31 - k = 32 - (k + 1) by omega]
    split <;> omega
theorem remUp_all (r : List Nat) : remUp r r.length = remNum r := rfl
def bitsUp (y k : Nat) : List Nat := (List.range 40).map fun i => if 40 - k ≤ i then y / 2 ^ (39 - i) % 2 else 0
theorem bitsUp_len (y k : Nat) : (bitsUp y k).length = 40 := by unfold bitsUp; rw [List.length_map, List.length_range]
theorem bitsUp_get (y k : Nat) {i : Nat} (h : i < 40) : (bitsUp y k)[i]? = some (if 40 - k ≤ i then y / 2 ^ (39 - i) % 2 else 0) := by
  unfold bitsUp
  rw [List.getElem?_map, List.getElem?_range h]
  rfl
theorem bitsUp_zero (y : Nat) : bitsUp y 0 = List.replicate 40 0 := by
  apply List.ext_getElem?
  intro i
  by_cases h : i < 40
  · rw [bitsUp_get y 0 h, if_neg (by omega), List.getElem?_replicate, if_pos h]
  · rw [List.getElem?_eq_none (by rw [bitsUp_len]; omega), List.getElem?_eq_none (by rw [List.length_replicate]; omega)]
theorem bitsUp_succ {y k : Nat} (hk : k < 8) : (bitsUp y k).set (39 - k) (y / 2 ^ k % 2) = bitsUp y (k + 1) := by
  apply List.ext_getElem?
  intro i
  by_cases h : i < 40
  · rw [List.getElem?_set, bitsUp_get y (k + 1) h]
    by_cases hi : 39 - k = i
    · rw [if_pos hi, if_pos (by rw [bitsUp_len]; omega), if_pos (by omega), show 39 - i = k by omega]
    · rw [if_neg hi, bitsUp_get y k h]
      by_cases h2 : 40 - k ≤ i
      · rw [if_pos h2, if_pos (by omega)]
      · rw [if_neg h2, if_neg (by omega)]
  · rw [List.getElem?_eq_none (by rw [List.length_set, bitsUp_len]; omega), List.getElem?_eq_none (by rw [bitsUp_len]; omega)]
theorem bitsUp_all (y : Nat) : trimL (bitsUp y 8) = bitsOf y := rfl
theorem pow31 (k : Nat) : 1 * 2 ^ (31 - k) ≤ 4294967295 := by
  have : (2 : Nat) ^ (31 - k) ≤ 2 ^ 31 := Nat.pow_le_pow_right (by decide) (by omega)
  omega
theorem remStep (r : List Nat) {k : Nat} (h : k < 32) : remUp r k + 1 * 2 ^ (31 - k) ≤ 4294967295 := by
  have h1 := remUp_lt r k (by omega)
  have e1 : (2 : Nat) ^ (32 - k) = 2 ^ (31 - k) * 2 := by rw [show 32 - k = (31 - k) + 1 by omega, Nat.pow_succ]
  have : 0 < (2 : Nat) ^ (31 - k) := Nat.pow_pos (by decide)
  omega
theorem linR_zero : linR 0 = [] := by decide +kernel
def waUp (l : List Nat) (k : Nat) : List Nat := (l.take k).flatMap vbytes
theorem waUp_succ {l : List Nat} {k : Nat} (h : k < l.length) : waUp l (k + 1) = waUp l k ++ vbytes (l.getD k 0) := by
  unfold waUp
  rw [take_pred (by omega) (by omega), Nat.add_sub_cancel, List.flatMap_append]
  simp
theorem waUp_len (l : List Nat) (k : Nat) : (waUp l k).length ≤ 10 * k := by
  unfold waUp
  have h := flat_length (l.take k)
  rw [List.length_take] at h
  omega
theorem bits_pos : ∀ y, y < 256 → y ≠ 0 → 33 ≤ (bitsOf y).length := by decide +kernel
end Go.Proofs.YtnakabnmjnfpcaaDoor

set_option linter.all false
namespace Go.Proofs.YtnakabnmjnfpcaaDoor
open Go.RowKit
set_option maxRecDepth 100000 in
set_option maxHeartbeats 4000000 in
theorem trim_any (A : Option Addr) (n c : Nat) (l : List Nat) (w : World) (hr : Rd w w.heap.size 1 A n (l.map I64v)) (hln : l.length = n) (hn : n ≤ 140737488355328) (hc : n ≤ c) :
    Calls Tryd.prog 105 #[.slice A n c] w (Is w (.slice A (trimL l).length c)) := by
 refine calls_enter (vs := [.slice A n c]) Tryd.func105 rfl rfl (by kernel_rfl) (σ0 := [(0, .slice A n c)]) rfl ?_
 intro a HF
 have HM := Mem.start w
 refine wp_seq (from_start ?_)
 refine fp HF 1 0 [(2, .slice none 0 0)] ?_; clear HF; intro a HF
 refine from_done rfl ?_
 refine wp_seq (wp_block ?_)
 refine loop_nat (fun mS aS wS => ∃ (k : Nat), (k ≤ n) ∧ (trimL (l.take k) = trimL l) ∧ mS = 0 + k ∧ Fr aS 21 [] [(2, .slice none 0 0), (0, .slice A k c)] ∧ Mem w wS []) (m := 0 + n) ⟨n, Nat.le_refl _, by rw [List.take_of_length_le (by omega)], rfl, HF.sub (by kernel_rfl), HM.picks [] (by decide) rfl⟩ ?_
 clear HF HM; rintro mS a w_ ⟨k, hk, ht, rfl, HF, HM⟩
 refine wp_seq (wp_seq (from_start ?_))
 refine fp HF 1 0 [(3, .slice A k c)] ?_; clear HF; intro a HF
 refine fy HF HM 1 rfl rfl rfl (Yl.len rfl rfl (by kernel_rfl)) ?_; clear HF; intro a HF
 refine fp HF 2 2 [(6, .bool (decide ((k : Int) > (0 : Int)))), (5, .bool (decide ((k : Int) > (0 : Int))))] ?_; clear HF; intro a HF
 rcases Bool.eq_false_or_eq_true (decide ((k : Int) > (0 : Int))) with hb6 | hb6
 ·have HF := HF.on 6 hb6
  have hd6 := of_decide_eq_true hb6
  have hk0 : 0 < k := by omega
  obtain ⟨gA, oA, rfl, _⟩ := hr.some_at (Nat.lt_of_le_of_lt (Nat.zero_le _) (show 0 < n from by omega)) (by decide)
  refine fp HF 2 4 [(8, .slice (some ⟨gA, oA, none⟩) k c), (7, .slice (some ⟨gA, oA, none⟩) k c)] ?_; clear HF; intro a HF
  refine fy HF HM 6 rfl rfl rfl (Yl.len rfl rfl (by kernel_rfl)) ?_; clear HF; intro a HF
  refine fp HF 1 7 [(10, vI (IntKind.i64.wrap ((k : Int) - 1)))] ?_; clear HF; intro a HF
  replace HF := HF.as (t := 10) (u := vI (k - 1 : Nat)) rfl (i64_nat (by omega) (by omega))
  refine fy HF HM 8 rfl rfl rfl (v := vP gA (oA + (k - 1) * 1)) ((Yl.indexAddr (ad := ⟨gA, oA, none⟩) (y := k - 1) (sz := 1) rfl rfl rfl (by omega) (by kernel_rfl)).as (by rw [Addr.add_mid])) ?_; clear HF; intro a HF
  refine fy HF HM 9 rfl rfl rfl (v := vI (l.getD (k - 1) 0)) (Yl.load1 rfl rfl (by kernel_rfl) (fun _ h => (h.old hr).oneAt1 (k := (k - 1)) (map_at (F := I64v) (k := (k - 1)) (x := (l.getD (k - 1) 0)) ((getD_at 0 (k := (k - 1)) (by first | omega | (simp; omega))))))) ?_; clear HF; intro a HF
  refine fp HF 2 10 [(14, .bool (((l.getD (k - 1) 0) : Int) == (0 : Int))), (13, .bool (((l.getD (k - 1) 0) : Int) == (0 : Int)))] ?_; clear HF; intro a HF
  refine from_done rfl ?_
  rcases Bool.eq_false_or_eq_true (((l.getD (k - 1) 0) : Int) == (0 : Int)) with hb14 | hb14
  ·have HF := HF.on 14 hb14
   have hd14 := eq_of_beq hb14
   refine cond_true HF rfl (wp_skip (wp_block (from_start ?_)))
   refine fp HF 2 0 [(16, .slice (some ⟨gA, oA, none⟩) k c), (15, .slice (some ⟨gA, oA, none⟩) k c)] ?_; clear HF; intro a HF
   refine fy HF HM 2 rfl rfl rfl (Yl.len rfl rfl (by kernel_rfl)) ?_; clear HF; intro a HF
   refine fp HF 1 3 [(18, vI (IntKind.i64.wrap ((k : Int) - 1)))] ?_; clear HF; intro a HF
   replace HF := HF.as (t := 18) (u := vI (k - 1 : Nat)) rfl (i64_nat (by omega) (by omega))
   refine fy HF HM 4 rfl rfl rfl (v := .slice (some ⟨gA, oA, none⟩) (k - 1) c) (Yl.sliceUpto ei_pol (j := k - 1) rfl rfl rfl (by omega)) ?_; clear HF; intro a HF
   refine fp HF 1 5 [(0, .slice (some ⟨gA, oA, none⟩) (k - 1) c)] ?_; clear HF; intro a HF
   refine from_done rfl ?_
   replace HF := HF.to [(0, .slice (some ⟨gA, oA, none⟩) (k - 1) c), (14, .bool true), (2, .slice none 0 0)]
   exact ⟨_, (by omega), (k - 1), by omega, trim_step (by omega) (by omega) (by omega) ht, rfl, HF.sub (by kernel_rfl), HM.picks [] (by decide) rfl⟩
  ·have HF := HF.on 14 hb14
   have hd14 := ne_of_beq_false hb14
   refine cond_false HF rfl (wp_exit (wp_seq (from_start ?_)))
   refine fp HF 2 0 [(2, .slice (some ⟨gA, oA, none⟩) k c), (20, .slice (some ⟨gA, oA, none⟩) k c)] ?_; clear HF; intro a HF
   refine from_done rfl ?_
   refine wp_ret ?_
   exact ret1 rfl HF (.tmp HF rfl) (⟨by rw [trim_stop (k := k) (by omega) (fun _ => by omega) ht, List.length_take, Nat.min_eq_left (by omega)], HM.below⟩)
 ·have HF := HF.on 6 hb6
  have hd6 := of_decide_eq_false hb6
  refine fp HF 8 4 [(14, .bool false), (13, undef), (12, undef), (11, undef), (10, undef), (9, undef), (8, undef), (7, undef)] ?_; clear HF; intro a HF
  refine from_done rfl ?_
  refine cond_false HF rfl (wp_exit (wp_seq (from_start ?_)))
  refine fp HF 2 0 [(2, .slice A k c), (20, .slice A k c)] ?_; clear HF; intro a HF
  refine from_done rfl ?_
  refine wp_ret ?_
  exact ret1 rfl HF (.tmp HF rfl) (⟨by rw [trim_stop (k := k) (by omega) (fun _ => by omega) ht, List.length_take, Nat.min_eq_left (by omega)], HM.below⟩)
set_option maxRecDepth 100000 in
set_option maxHeartbeats 4000000 in
theorem polof_any (p : Nat) (hp : p < 18446744073709551616) (w : World) :
    Calls Tryd.prog 102 #[.int .u64 (p : Int)] w (PolIs w (polyOf p)) := by
 refine calls_enter (vs := [vQ p]) Tryd.func102 rfl rfl (by kernel_rfl) (σ0 := [(0, vQ p)]) rfl ?_
 intro a HF
 have HM := Mem.start w
 refine wp_seq (from_start ?_)
 refine fp HF 1 0 [(2, .slice none 0 0)] ?_; clear HF; intro a HF
 refine from_done rfl ?_
 refine wp_seq (from_start ?_)
 refine fp HF 1 0 [(3, .slice none 0 0)] ?_; clear HF; intro a HF
 refine from_done rfl ?_
 replace HM := HM.nil 3 1
 refine wp_seq (wp_seq (from_start ?_))
 refine fp HF 1 0 [(4, vI 0)] ?_; clear HF; intro a HF
 refine from_done rfl ?_
 refine wp_block ?_
 refine loop_nat (fun mS aS wS => ∃ (k : Nat) (Ak : Option Addr) (ck : Nat), (k ≤ 64) ∧ (k ≤ ck) ∧ mS = 64 - k ∧ Fr aS 19 [] [(4, vI k), (3, .slice Ak k ck), (2, .slice none 0 0), (0, vQ p)] ∧ Mem w wS [.row (.slice Ak k ck) k ((polyUp p k).map I64v) 3 1]) (m := 64 - 0) ⟨0, none, 0, by omega, Nat.le_refl _, rfl, HF.sub (by kernel_rfl), HM.picks [0] (by decide) rfl⟩ ?_
 clear HF HM; rintro mS a w_ ⟨k, Ak, ck, hk, hck, rfl, HF, HM⟩
 refine wp_seq (wp_seq (from_start ?_))
 refine fp HF 2 0 [(6, .bool (decide ((k : Int) < (64 : Int)))), (5, vI k)] ?_; clear HF; intro a HF
 refine from_done rfl ?_
 rcases Bool.eq_false_or_eq_true (decide ((k : Int) < (64 : Int))) with hb6 | hb6
 ·have HF := HF.on 6 hb6
  have hd6 := of_decide_eq_true hb6
  refine cond_true HF rfl (wp_skip (wp_seq (wp_block (from_start ?_))))
  refine fp HF 3 0 [(11, vI k), (10, vQ p), (9, .slice Ak k ck)] ?_; clear HF; intro a HF
  refine fy HF HM 3 rfl rfl rfl (v := vQ (p / 2 ^ k : Nat)) (Yl.shrN (m := p) (n := k) rfl rfl rfl (by show _ ≤ 64; omega)) ?_; clear HF; intro a HF
  refine fp HF 1 4 [(13, vQ (Int.tmod ((p / 2 ^ k : Nat) : Int) 2))] ?_; clear HF; intro a HF
  replace HF := HF.as (t := 13) (u := vQ ((p / 2 ^ k) % 2 : Nat)) rfl (tmod_nat .u64 _ 2)
  refine fp HF 1 5 [(14, vI (IntKind.i64.wrap (((p / 2 ^ k) % 2 : Nat) : Int)))] ?_; clear HF; intro a HF
  replace HF := HF.as (t := 14) (u := vI ((p / 2 ^ k) % 2 : Nat)) rfl (i64_nat rfl (by omega))
  refine from_op HF (i := 6) rfl rfl ?_
  refine e_slice HF HM (vs := [(0, vI ((p / 2 ^ k) % 2 : Nat))]) (cs := #[vI ((p / 2 ^ k) % 2 : Nat)]) rfl ei_pol (by decide) rfl (by kernel_rfl) rfl (by decide) ?_
  clear HF HM; intro a w15 g15 HF HM
  refine from_op HF (i := 7) rfl rfl ?_
  refine e_append HF HM (i := 1) rfl ei_pol rfl rfl rfl (news := [I64v ((p / 2 ^ k) % 2)]) (HM.rdBlk (i := 0) (n := 1) (size := 1) rfl rfl) (by simp [Value.oneCell', I64v]) (by omega) (by omega) rfl (by decide) ?_
  clear HF HM; intro a w16 A16 c16 HF HM hc16
  refine fp HF 1 8 [(3, .slice A16 (k + 1) c16)] ?_; clear HF; intro a HF
  refine from_done rfl ?_
  replace HM := HM.picks (fs' := [.row (.slice A16 (k + 1) c16) (k + 1) (((polyUp p k).map I64v) ++ [I64v ((p / 2 ^ k) % 2)]) 3 1]) [1] (by decide) rfl
  have hnA16 : k + 1 = k + 1 := rfl
  replace HM := HM.reRow (i := 0) (ys := (polyUp p (k + 1)).map I64v) rfl hnA16 (by rw [polyUp_succ]; simp)
  rw [hnA16] at hc16
  replace HF := HF.as (t := 3) (u := .slice A16 (k + 1) c16) rfl (by rw [hnA16])
  replace HF := HF.as (t := 16) (u := .slice A16 (k + 1) c16) rfl (by rw [hnA16])
  refine from_start ?_
  refine fp HF 2 0 [(8, vI (IntKind.i64.wrap ((k : Int) + 1))), (7, vI k)] ?_; clear HF; intro a HF
  replace HF := HF.as (t := 8) (u := vI (k + 1 : Nat)) rfl (i64_nat (by omega) (by omega))
  refine fp HF 1 2 [(4, vI (k + 1 : Nat))] ?_; clear HF; intro a HF
  refine from_done rfl ?_
  replace HF := HF.to [(4, vI (k + 1 : Nat)), (16, .slice A16 (k + 1) c16), (3, .slice A16 (k + 1) c16), (6, .bool true), (2, .slice none 0 0), (0, vQ p)]
  exact ⟨_, (by omega), k + 1, A16, c16, by omega, hc16, rfl, HF.sub (by kernel_rfl), HM.picks [0] (by decide) rfl⟩
 ·have HF := HF.on 6 hb6
  have hd6 := of_decide_eq_false hb6
  obtain rfl : k = 64 := by omega
  refine cond_false HF rfl (wp_exit (wp_seq (from_start ?_)))
  refine fp HF 1 0 [(17, .slice Ak 64 ck)] ?_; clear HF; intro a HF
  refine from_op HF (i := 1) rfl rfl ?_
  refine e_call HF (vs := [.slice Ak 64 ck]) rfl (by kernel_rfl) (by kernel_rfl) rfl (by decide) (trim_any _ _ _ (polyUp p 64) _ (HM.rd (i := 0) rfl) (polyUp_len p 64) (by omega) (by omega)) ?_
  rintro _ w18 ⟨rfl, hbw⟩
  refine ⟨_, rfl, ?_⟩
  replace HM := HM.call hbw
  clear HF; intro a HF
  have htl18 := trim_len (polyUp p 64)
  have hle18 : (trimL (polyUp p 64)).length ≤ 64 := by rw [polyUp_len p 64] at htl18; exact htl18
  replace HM := HM.cutRow (i := 0) rfl hle18 (trim_take_map (polyUp p 64))
  refine fp HF 1 2 [(2, .slice Ak ((trimL (polyUp p 64)).length) ck)] ?_; clear HF; intro a HF
  refine from_done rfl ?_
  refine wp_ret ?_
  exact ret1 rfl HF (.tmp HF rfl) (⟨⟨_, _, rfl, HM.own (i := 0) rfl, by show (trimL (polyUp p 64)).length ≤ _; omega⟩, HM.below⟩)
set_option maxRecDepth 100000 in
set_option maxHeartbeats 4000000 in
theorem polsum_any (A A2 : Option Addr) (c c2 : Nat) (p q : List Nat) (s : Nat) (w : World) (h1 : P01 p) (h2 : P01 q) (hr : Rd w w.heap.size 1 A p.length (p.map I64v)) (hr2 : Rd w w.heap.size 1 A2 q.length (q.map I64v)) (hp : p.length ≤ 1000000) (hq : q.length + s ≤ 1000000) :
    Calls Tryd.prog 104 #[.slice A p.length c, .slice A2 q.length c2, .int .i64 (s : Int)] w (PolIs w (sumL p q s)) := by
 refine calls_enter (vs := [.slice A p.length c, .slice A2 q.length c2, vI s]) Tryd.func104 rfl rfl (by kernel_rfl) (σ0 := [(0, .slice A p.length c), (1, .slice A2 q.length c2), (2, vI s)]) rfl ?_
 intro a HF
 have HM := Mem.start w
 refine wp_seq (from_start ?_)
 refine fp HF 1 0 [(6, .slice none 0 0)] ?_; clear HF; intro a HF
 refine from_done rfl ?_
 refine wp_seq (from_start ?_)
 refine fp HF 1 0 [(7, .slice none 0 0)] ?_; clear HF; intro a HF
 refine from_done rfl ?_
 replace HM := HM.nil 3 1
 refine wp_seq (wp_seq (from_start ?_))
 refine fp HF 1 0 [(8, vI 0)] ?_; clear HF; intro a HF
 refine from_done rfl ?_
 refine wp_block ?_
 refine loop_nat (fun mS aS wS => ∃ (k : Nat) (Ak : Option Addr) (ck : Nat), (k ≤ (max p.length (q.length + s))) ∧ (k ≤ ck) ∧ mS = (max p.length (q.length + s)) - k ∧ Fr aS 58 [] [(8, vI k), (7, .slice Ak k ck), (6, .slice none 0 0), (0, .slice A p.length c), (1, .slice A2 q.length c2), (2, vI s)] ∧ Mem w wS [.row (.slice Ak k ck) k ((sumUp p q s k).map I64v) 3 1]) (m := (max p.length (q.length + s)) - 0) ⟨0, none, 0, Nat.zero_le _, Nat.le_refl _, rfl, HF.sub (by kernel_rfl), HM.picks [0] (by decide) rfl⟩ ?_
 clear HF HM; rintro mS a w_ ⟨k, Ak, ck, hk, hck, rfl, HF, HM⟩
 refine wp_seq (wp_seq (from_start ?_))
 refine fp HF 2 0 [(11, .slice A p.length c), (10, vI k)] ?_; clear HF; intro a HF
 refine fy HF HM 2 rfl rfl rfl (Yl.len rfl rfl (by kernel_rfl)) ?_; clear HF; intro a HF
 refine fp HF 2 3 [(14, .bool (decide ((k : Int) < (p.length : Int)))), (13, .bool (decide ((k : Int) < (p.length : Int))))] ?_; clear HF; intro a HF
 rcases Bool.eq_false_or_eq_true (decide ((k : Int) < (p.length : Int))) with hb14 | hb14
 ·have HF := HF.on 14 hb14
  have hd14 := of_decide_eq_true hb14
  refine fp HF 7 5 [(21, .bool true), (20, undef), (19, undef), (18, undef), (17, undef), (16, undef), (15, undef)] ?_; clear HF; intro a HF
  refine from_done rfl ?_
  refine cond_true HF rfl (wp_skip (wp_seq (wp_block (wp_seq (from_start ?_)))))
  refine fp HF 1 0 [(9, vI 0)] ?_; clear HF; intro a HF
  refine from_done rfl ?_
  refine wp_seq (wp_seq (from_start ?_))
  refine fp HF 2 0 [(25, .slice A p.length c), (24, vI k)] ?_; clear HF; intro a HF
  refine fy HF HM 2 rfl rfl rfl (Yl.len rfl rfl (by kernel_rfl)) ?_; clear HF; intro a HF
  refine fp HF 1 3 [(27, .bool (decide ((k : Int) < (p.length : Int))))] ?_; clear HF; intro a HF
  refine from_done rfl ?_
  rcases Bool.eq_false_or_eq_true (decide ((k : Int) < (p.length : Int))) with hb27 | hb27
  ·have HF := HF.on 27 hb27
   have hd27 := of_decide_eq_true hb27
   refine cond_true HF rfl (from_start ?_)
   refine fp HF 2 0 [(29, vI k), (28, .slice A p.length c)] ?_; clear HF; intro a HF
   obtain ⟨gA, oA, rfl, _⟩ := hr.some_at (Nat.lt_of_le_of_lt (Nat.zero_le _) (show k < p.length from by omega)) (by decide)
   refine fy HF HM 2 rfl rfl rfl (v := vP gA (oA + k * 1)) ((Yl.indexAddr (ad := ⟨gA, oA, none⟩) (y := k) (sz := 1) rfl rfl rfl (by omega) (by kernel_rfl)).as (by rw [Addr.add_mid])) ?_; clear HF; intro a HF
   have hx54 := getD_lt h1 (k := k) (by first | omega | (simp; omega))
   refine fy HF HM 3 rfl rfl rfl (v := vI (p.getD k 0)) (Yl.load1 rfl rfl (by kernel_rfl) (fun _ h => (h.old hr).oneAt1 (k := k) (map_at (F := I64v) (k := k) (x := (p.getD k 0)) ((getD_at 0 (k := k) (by first | omega | (simp; omega))))))) ?_; clear HF; intro a HF
   refine fp HF 1 4 [(9, vI (p.getD k 0))] ?_; clear HF; intro a HF
   refine from_done rfl ?_
   replace HF := HF.to [(9, vI (p.getD k 0)), (27, .bool true), (21, .bool true), (8, vI k), (7, .slice Ak k ck), (6, .slice none 0 0), (0, .slice (some ⟨gA, oA, none⟩) p.length c), (1, .slice A2 q.length c2), (2, vI s)]
   refine wp_seq (wp_seq (from_start ?_))
   refine fp HF 4 0 [(35, .bool (decide ((k : Int) ≥ (s : Int)))), (34, .bool (decide ((k : Int) ≥ (s : Int)))), (33, vI s), (32, vI k)] ?_; clear HF; intro a HF
   rcases Bool.eq_false_or_eq_true (decide ((k : Int) ≥ (s : Int))) with hb35 | hb35
   ·have HF := HF.on 35 hb35
    have hd35 := of_decide_eq_true hb35
    refine fp HF 3 4 [(38, vI (IntKind.i64.wrap ((k : Int) - (s : Int)))), (37, vI s), (36, vI k)] ?_; clear HF; intro a HF
    replace HF := HF.as (t := 38) (u := vI (k - s : Nat)) rfl (i64_nat (by omega) (by omega))
    refine fp HF 1 7 [(39, .slice A2 q.length c2)] ?_; clear HF; intro a HF
    refine fy HF HM 8 rfl rfl rfl (Yl.len rfl rfl (by kernel_rfl)) ?_; clear HF; intro a HF
    refine fp HF 2 9 [(42, .bool (decide (((k - s : Nat) : Int) < (q.length : Int)))), (41, .bool (decide (((k - s : Nat) : Int) < (q.length : Int))))] ?_; clear HF; intro a HF
    refine from_done rfl ?_
    rcases Bool.eq_false_or_eq_true (decide (((k - s : Nat) : Int) < (q.length : Int))) with hb42 | hb42
    ·have HF := HF.on 42 hb42
     have hd42 := of_decide_eq_true hb42
     refine cond_true HF rfl (from_start ?_)
     refine fp HF 5 0 [(47, vI (IntKind.i64.wrap ((k : Int) - (s : Int)))), (46, vI s), (45, vI k), (44, .slice A2 q.length c2), (43, vI (p.getD k 0))] ?_; clear HF; intro a HF
     replace HF := HF.as (t := 47) (u := vI (k - s : Nat)) rfl (i64_nat (by omega) (by omega))
     obtain ⟨gA2, oA2, rfl, _⟩ := hr2.some_at (Nat.lt_of_le_of_lt (Nat.zero_le _) (show k - s < q.length from by omega)) (by decide)
     refine fy HF HM 5 rfl rfl rfl (v := vP gA2 (oA2 + (k - s) * 1)) ((Yl.indexAddr (ad := ⟨gA2, oA2, none⟩) (y := k - s) (sz := 1) rfl rfl rfl (by omega) (by kernel_rfl)).as (by rw [Addr.add_mid])) ?_; clear HF; intro a HF
     have hx81 := getD_lt h2 (k := (k - s)) (by first | omega | (simp; omega))
     refine fy HF HM 6 rfl rfl rfl (v := vI (q.getD (k - s) 0)) (Yl.load1 rfl rfl (by kernel_rfl) (fun _ h => (h.old hr2).oneAt1 (k := (k - s)) (map_at (F := I64v) (k := (k - s)) (x := (q.getD (k - s) 0)) ((getD_at 0 (k := (k - s)) (by first | omega | (simp; omega))))))) ?_; clear HF; intro a HF
     refine fp HF 1 7 [(50, vI (IntKind.i64.wrap (((p.getD k 0) : Int) + ((q.getD (k - s) 0) : Int))))] ?_; clear HF; intro a HF
     replace HF := HF.as (t := 50) (u := vI ((p.getD k 0) + (q.getD (k - s) 0) : Nat)) rfl (i64_nat (by omega) (by omega))
     refine fp HF 1 8 [(51, vI (Int.tmod (((p.getD k 0) + (q.getD (k - s) 0) : Nat) : Int) 2))] ?_; clear HF; intro a HF
     replace HF := HF.as (t := 51) (u := vI (((p.getD k 0) + (q.getD (k - s) 0)) % 2 : Nat)) rfl (tmod_nat .i64 _ 2)
     refine fp HF 1 9 [(9, vI (((p.getD k 0) + (q.getD (k - s) 0)) % 2 : Nat))] ?_; clear HF; intro a HF
     refine from_done rfl ?_
     replace HF := HF.to [(9, vI (((p.getD k 0) + (q.getD (k - s) 0)) % 2 : Nat)), (42, .bool true), (27, .bool true), (21, .bool true), (8, vI k), (7, .slice Ak k ck), (6, .slice none 0 0), (0, .slice (some ⟨gA, oA, none⟩) p.length c), (1, .slice (some ⟨gA2, oA2, none⟩) q.length c2), (2, vI s)]
     refine from_start ?_
     refine fp HF 2 0 [(53, vI (((p.getD k 0) + (q.getD (k - s) 0)) % 2 : Nat)), (52, .slice Ak k ck)] ?_; clear HF; intro a HF
     refine from_op HF (i := 2) rfl rfl ?_
     refine e_slice HF HM (vs := [(0, vI (((p.getD k 0) + (q.getD (k - s) 0)) % 2 : Nat))]) (cs := #[vI (((p.getD k 0) + (q.getD (k - s) 0)) % 2 : Nat)]) rfl ei_pol (by decide) rfl (by kernel_rfl) rfl (by decide) ?_
     clear HF HM; intro a w54 g54 HF HM
     refine from_op HF (i := 3) rfl rfl ?_
     refine e_append HF HM (i := 1) rfl ei_pol rfl rfl rfl (news := [I64v (((p.getD k 0) + (q.getD (k - s) 0)) % 2)]) (HM.rdBlk (i := 0) (n := 1) (size := 1) rfl rfl) (by simp [Value.oneCell', I64v]) (by omega) (by omega) rfl (by decide) ?_
     clear HF HM; intro a w55 A55 c55 HF HM hc55
     refine fp HF 1 4 [(7, .slice A55 (k + 1) c55)] ?_; clear HF; intro a HF
     refine from_done rfl ?_
     replace HM := HM.picks (fs' := [.row (.slice A55 (k + 1) c55) (k + 1) (((sumUp p q s k).map I64v) ++ [I64v (((p.getD k 0) + (q.getD (k - s) 0)) % 2)]) 3 1]) [1] (by decide) rfl
     have hnA55 : k + 1 = k + 1 := rfl
     replace HM := HM.reRow (i := 0) (ys := (sumUp p q s (k + 1)).map I64v) rfl hnA55 (by rw [sumUp_succ, sumAtA (by omega) (by omega)]; simp)
     rw [hnA55] at hc55
     replace HF := HF.as (t := 7) (u := .slice A55 (k + 1) c55) rfl (by rw [hnA55])
     replace HF := HF.as (t := 55) (u := .slice A55 (k + 1) c55) rfl (by rw [hnA55])
     refine from_start ?_
     refine fp HF 2 0 [(23, vI (IntKind.i64.wrap ((k : Int) + 1))), (22, vI k)] ?_; clear HF; intro a HF
     replace HF := HF.as (t := 23) (u := vI (k + 1 : Nat)) rfl (i64_nat (by omega) (by omega))
     refine fp HF 1 2 [(8, vI (k + 1 : Nat))] ?_; clear HF; intro a HF
     refine from_done rfl ?_
     exact ⟨_, (by omega), k + 1, A55, c55, by omega, hc55, rfl, HF.sub (by kernel_rfl), HM.picks [0] (by decide) rfl⟩
    ·have HF := HF.on 42 hb42
     have hd42 := of_decide_eq_false hb42
     refine cond_false HF rfl (wp_skip (from_start ?_))
     refine fp HF 2 0 [(53, vI (p.getD k 0)), (52, .slice Ak k ck)] ?_; clear HF; intro a HF
     refine from_op HF (i := 2) rfl rfl ?_
     refine e_slice HF HM (vs := [(0, vI (p.getD k 0))]) (cs := #[vI (p.getD k 0)]) rfl ei_pol (by decide) rfl (by kernel_rfl) rfl (by decide) ?_
     clear HF HM; intro a w54 g54 HF HM
     refine from_op HF (i := 3) rfl rfl ?_
     refine e_append HF HM (i := 1) rfl ei_pol rfl rfl rfl (news := [I64v (p.getD k 0)]) (HM.rdBlk (i := 0) (n := 1) (size := 1) rfl rfl) (by simp [Value.oneCell', I64v]) (by omega) (by omega) rfl (by decide) ?_
     clear HF HM; intro a w55 A55 c55 HF HM hc55
     refine fp HF 1 4 [(7, .slice A55 (k + 1) c55)] ?_; clear HF; intro a HF
     refine from_done rfl ?_
     replace HF := HF.to [(7, .slice A55 (k + 1) c55), (42, .bool false), (9, vI (p.getD k 0)), (27, .bool true), (21, .bool true), (8, vI k), (6, .slice none 0 0), (0, .slice (some ⟨gA, oA, none⟩) p.length c), (1, .slice A2 q.length c2), (2, vI s)]
     replace HM := HM.picks (fs' := [.row (.slice A55 (k + 1) c55) (k + 1) (((sumUp p q s k).map I64v) ++ [I64v (p.getD k 0)]) 3 1]) [1] (by decide) rfl
     have hnA55 : k + 1 = k + 1 := rfl
     replace HM := HM.reRow (i := 0) (ys := (sumUp p q s (k + 1)).map I64v) rfl hnA55 (by rw [sumUp_succ, sumAtC (by omega)]; simp)
     rw [hnA55] at hc55
     replace HF := HF.as (t := 7) (u := .slice A55 (k + 1) c55) rfl (by rw [hnA55])
     refine from_start ?_
     refine fp HF 2 0 [(23, vI (IntKind.i64.wrap ((k : Int) + 1))), (22, vI k)] ?_; clear HF; intro a HF
     replace HF := HF.as (t := 23) (u := vI (k + 1 : Nat)) rfl (i64_nat (by omega) (by omega))
     refine fp HF 1 2 [(8, vI (k + 1 : Nat))] ?_; clear HF; intro a HF
     refine from_done rfl ?_
     exact ⟨_, (by omega), k + 1, A55, c55, by omega, hc55, rfl, HF.sub (by kernel_rfl), HM.picks [0] (by decide) rfl⟩
   ·have HF := HF.on 35 hb35
    have hd35 := of_decide_eq_false hb35
    refine fp HF 7 4 [(42, .bool false), (41, undef), (40, undef), (39, undef), (38, undef), (37, undef), (36, undef)] ?_; clear HF; intro a HF
    refine from_done rfl ?_
    refine cond_false HF rfl (wp_skip (from_start ?_))
    refine fp HF 2 0 [(53, vI (p.getD k 0)), (52, .slice Ak k ck)] ?_; clear HF; intro a HF
    refine from_op HF (i := 2) rfl rfl ?_
    refine e_slice HF HM (vs := [(0, vI (p.getD k 0))]) (cs := #[vI (p.getD k 0)]) rfl ei_pol (by decide) rfl (by kernel_rfl) rfl (by decide) ?_
    clear HF HM; intro a w54 g54 HF HM
    refine from_op HF (i := 3) rfl rfl ?_
    refine e_append HF HM (i := 1) rfl ei_pol rfl rfl rfl (news := [I64v (p.getD k 0)]) (HM.rdBlk (i := 0) (n := 1) (size := 1) rfl rfl) (by simp [Value.oneCell', I64v]) (by omega) (by omega) rfl (by decide) ?_
    clear HF HM; intro a w55 A55 c55 HF HM hc55
    refine fp HF 1 4 [(7, .slice A55 (k + 1) c55)] ?_; clear HF; intro a HF
    refine from_done rfl ?_
    replace HM := HM.picks (fs' := [.row (.slice A55 (k + 1) c55) (k + 1) (((sumUp p q s k).map I64v) ++ [I64v (p.getD k 0)]) 3 1]) [1] (by decide) rfl
    have hnA55 : k + 1 = k + 1 := rfl
    replace HM := HM.reRow (i := 0) (ys := (sumUp p q s (k + 1)).map I64v) rfl hnA55 (by rw [sumUp_succ, sumAtC (by omega)]; simp)
    rw [hnA55] at hc55
    replace HF := HF.as (t := 7) (u := .slice A55 (k + 1) c55) rfl (by rw [hnA55])
    replace HF := HF.as (t := 55) (u := .slice A55 (k + 1) c55) rfl (by rw [hnA55])
    refine from_start ?_
    refine fp HF 2 0 [(23, vI (IntKind.i64.wrap ((k : Int) + 1))), (22, vI k)] ?_; clear HF; intro a HF
    replace HF := HF.as (t := 23) (u := vI (k + 1 : Nat)) rfl (i64_nat (by omega) (by omega))
    refine fp HF 1 2 [(8, vI (k + 1 : Nat))] ?_; clear HF; intro a HF
    refine from_done rfl ?_
    replace HF := HF.to [(8, vI (k + 1 : Nat)), (55, .slice A55 (k + 1) c55), (7, .slice A55 (k + 1) c55), (42, .bool false), (9, vI (p.getD k 0)), (27, .bool true), (21, .bool true), (6, .slice none 0 0), (0, .slice (some ⟨gA, oA, none⟩) p.length c), (1, .slice A2 q.length c2), (2, vI s)]
    exact ⟨_, (by omega), k + 1, A55, c55, by omega, hc55, rfl, HF.sub (by kernel_rfl), HM.picks [0] (by decide) rfl⟩
  ·have HF := HF.on 27 hb27
   have hd27 := of_decide_eq_false hb27
   omega
 ·have HF := HF.on 14 hb14
  have hd14 := of_decide_eq_false hb14
  refine fp HF 2 5 [(16, .slice A2 q.length c2), (15, vI k)] ?_; clear HF; intro a HF
  refine fy HF HM 7 rfl rfl rfl (Yl.len rfl rfl (by kernel_rfl)) ?_; clear HF; intro a HF
  refine fp HF 2 8 [(19, vI (IntKind.i64.wrap ((q.length : Int) + (s : Int)))), (18, vI s)] ?_; clear HF; intro a HF
  replace HF := HF.as (t := 19) (u := vI (q.length + s : Nat)) rfl (i64_nat (by omega) (by omega))
  refine fp HF 2 10 [(21, .bool (decide ((k : Int) < ((q.length + s : Nat) : Int)))), (20, .bool (decide ((k : Int) < ((q.length + s : Nat) : Int))))] ?_; clear HF; intro a HF
  refine from_done rfl ?_
  rcases Bool.eq_false_or_eq_true (decide ((k : Int) < ((q.length + s : Nat) : Int))) with hb21 | hb21
  ·have HF := HF.on 21 hb21
   have hd21 := of_decide_eq_true hb21
   refine cond_true HF rfl (wp_skip (wp_seq (wp_block (wp_seq (from_start ?_)))))
   refine fp HF 1 0 [(9, vI 0)] ?_; clear HF; intro a HF
   refine from_done rfl ?_
   refine wp_seq (wp_seq (from_start ?_))
   refine fp HF 2 0 [(25, .slice A p.length c), (24, vI k)] ?_; clear HF; intro a HF
   refine fy HF HM 2 rfl rfl rfl (Yl.len rfl rfl (by kernel_rfl)) ?_; clear HF; intro a HF
   refine fp HF 1 3 [(27, .bool (decide ((k : Int) < (p.length : Int))))] ?_; clear HF; intro a HF
   refine from_done rfl ?_
   replace HF := HF.to [(27, .bool (decide ((k : Int) < (p.length : Int)))), (9, vI 0), (21, .bool true), (8, vI k), (7, .slice Ak k ck), (6, .slice none 0 0), (0, .slice A p.length c), (1, .slice A2 q.length c2), (2, vI s)]
   rcases Bool.eq_false_or_eq_true (decide ((k : Int) < (p.length : Int))) with hb27 | hb27
   ·have HF := HF.on 27 hb27
    have hd27 := of_decide_eq_true hb27
    omega
   ·have HF := HF.on 27 hb27
    have hd27 := of_decide_eq_false hb27
    refine cond_false HF rfl (wp_skip (wp_seq (wp_seq (from_start ?_))))
    refine fp HF 4 0 [(35, .bool (decide ((k : Int) ≥ (s : Int)))), (34, .bool (decide ((k : Int) ≥ (s : Int)))), (33, vI s), (32, vI k)] ?_; clear HF; intro a HF
    rcases Bool.eq_false_or_eq_true (decide ((k : Int) ≥ (s : Int))) with hb35 | hb35
    ·have HF := HF.on 35 hb35
     have hd35 := of_decide_eq_true hb35
     refine fp HF 3 4 [(38, vI (IntKind.i64.wrap ((k : Int) - (s : Int)))), (37, vI s), (36, vI k)] ?_; clear HF; intro a HF
     replace HF := HF.as (t := 38) (u := vI (k - s : Nat)) rfl (i64_nat (by omega) (by omega))
     refine fp HF 1 7 [(39, .slice A2 q.length c2)] ?_; clear HF; intro a HF
     refine fy HF HM 8 rfl rfl rfl (Yl.len rfl rfl (by kernel_rfl)) ?_; clear HF; intro a HF
     refine fp HF 2 9 [(42, .bool (decide (((k - s : Nat) : Int) < (q.length : Int)))), (41, .bool (decide (((k - s : Nat) : Int) < (q.length : Int))))] ?_; clear HF; intro a HF
     refine from_done rfl ?_
     rcases Bool.eq_false_or_eq_true (decide (((k - s : Nat) : Int) < (q.length : Int))) with hb42 | hb42
     ·have HF := HF.on 42 hb42
      have hd42 := of_decide_eq_true hb42
      refine cond_true HF rfl (from_start ?_)
      refine fp HF 5 0 [(47, vI (IntKind.i64.wrap ((k : Int) - (s : Int)))), (46, vI s), (45, vI k), (44, .slice A2 q.length c2), (43, vI 0)] ?_; clear HF; intro a HF
      replace HF := HF.as (t := 47) (u := vI (k - s : Nat)) rfl (i64_nat (by omega) (by omega))
      obtain ⟨gA2, oA2, rfl, _⟩ := hr2.some_at (Nat.lt_of_le_of_lt (Nat.zero_le _) (show k - s < q.length from by omega)) (by decide)
      refine fy HF HM 5 rfl rfl rfl (v := vP gA2 (oA2 + (k - s) * 1)) ((Yl.indexAddr (ad := ⟨gA2, oA2, none⟩) (y := k - s) (sz := 1) rfl rfl rfl (by omega) (by kernel_rfl)).as (by rw [Addr.add_mid])) ?_; clear HF; intro a HF
      have hx227 := getD_lt h2 (k := (k - s)) (by first | omega | (simp; omega))
      refine fy HF HM 6 rfl rfl rfl (v := vI (q.getD (k - s) 0)) (Yl.load1 rfl rfl (by kernel_rfl) (fun _ h => (h.old hr2).oneAt1 (k := (k - s)) (map_at (F := I64v) (k := (k - s)) (x := (q.getD (k - s) 0)) ((getD_at 0 (k := (k - s)) (by first | omega | (simp; omega))))))) ?_; clear HF; intro a HF
      refine fp HF 1 7 [(50, vI (IntKind.i64.wrap (0 + ((q.getD (k - s) 0) : Int))))] ?_; clear HF; intro a HF
      replace HF := HF.as (t := 50) (u := vI (0 + (q.getD (k - s) 0) : Nat)) rfl (i64_nat (by omega) (by omega))
      refine fp HF 1 8 [(51, vI (Int.tmod ((0 + (q.getD (k - s) 0) : Nat) : Int) 2))] ?_; clear HF; intro a HF
      replace HF := HF.as (t := 51) (u := vI ((0 + (q.getD (k - s) 0)) % 2 : Nat)) rfl (tmod_nat .i64 _ 2)
      refine fp HF 1 9 [(9, vI ((0 + (q.getD (k - s) 0)) % 2 : Nat))] ?_; clear HF; intro a HF
      refine from_done rfl ?_
      replace HF := HF.to [(9, vI ((0 + (q.getD (k - s) 0)) % 2 : Nat)), (42, .bool true), (27, .bool false), (21, .bool true), (8, vI k), (7, .slice Ak k ck), (6, .slice none 0 0), (0, .slice A p.length c), (1, .slice (some ⟨gA2, oA2, none⟩) q.length c2), (2, vI s)]
      refine from_start ?_
      refine fp HF 2 0 [(53, vI ((0 + (q.getD (k - s) 0)) % 2 : Nat)), (52, .slice Ak k ck)] ?_; clear HF; intro a HF
      refine from_op HF (i := 2) rfl rfl ?_
      refine e_slice HF HM (vs := [(0, vI ((0 + (q.getD (k - s) 0)) % 2 : Nat))]) (cs := #[vI ((0 + (q.getD (k - s) 0)) % 2 : Nat)]) rfl ei_pol (by decide) rfl (by kernel_rfl) rfl (by decide) ?_
      clear HF HM; intro a w54 g54 HF HM
      refine from_op HF (i := 3) rfl rfl ?_
      refine e_append HF HM (i := 1) rfl ei_pol rfl rfl rfl (news := [I64v ((0 + (q.getD (k - s) 0)) % 2)]) (HM.rdBlk (i := 0) (n := 1) (size := 1) rfl rfl) (by simp [Value.oneCell', I64v]) (by omega) (by omega) rfl (by decide) ?_
      clear HF HM; intro a w55 A55 c55 HF HM hc55
      refine fp HF 1 4 [(7, .slice A55 (k + 1) c55)] ?_; clear HF; intro a HF
      refine from_done rfl ?_
      replace HM := HM.picks (fs' := [.row (.slice A55 (k + 1) c55) (k + 1) (((sumUp p q s k).map I64v) ++ [I64v ((0 + (q.getD (k - s) 0)) % 2)]) 3 1]) [1] (by decide) rfl
      have hnA55 : k + 1 = k + 1 := rfl
      replace HM := HM.reRow (i := 0) (ys := (sumUp p q s (k + 1)).map I64v) rfl hnA55 (by rw [sumUp_succ, sumAtB (by omega) (by omega) (by omega)]; simp)
      rw [hnA55] at hc55
      replace HF := HF.as (t := 7) (u := .slice A55 (k + 1) c55) rfl (by rw [hnA55])
      replace HF := HF.as (t := 55) (u := .slice A55 (k + 1) c55) rfl (by rw [hnA55])
      refine from_start ?_
      refine fp HF 2 0 [(23, vI (IntKind.i64.wrap ((k : Int) + 1))), (22, vI k)] ?_; clear HF; intro a HF
      replace HF := HF.as (t := 23) (u := vI (k + 1 : Nat)) rfl (i64_nat (by omega) (by omega))
      refine fp HF 1 2 [(8, vI (k + 1 : Nat))] ?_; clear HF; intro a HF
      refine from_done rfl ?_
      exact ⟨_, (by omega), k + 1, A55, c55, by omega, hc55, rfl, HF.sub (by kernel_rfl), HM.picks [0] (by decide) rfl⟩
     ·have HF := HF.on 42 hb42
      have hd42 := of_decide_eq_false hb42
      refine cond_false HF rfl (wp_skip (from_start ?_))
      refine fp HF 2 0 [(53, vI 0), (52, .slice Ak k ck)] ?_; clear HF; intro a HF
      refine from_op HF (i := 2) rfl rfl ?_
      refine e_slice HF HM (vs := [(0, vI 0)]) (cs := #[vI 0]) rfl ei_pol (by decide) rfl (by kernel_rfl) rfl (by decide) ?_
      clear HF HM; intro a w54 g54 HF HM
      refine from_op HF (i := 3) rfl rfl ?_
      refine e_append HF HM (i := 1) rfl ei_pol rfl rfl rfl (news := [I64v 0]) (HM.rdBlk (i := 0) (n := 1) (size := 1) rfl rfl) (by simp [Value.oneCell', I64v]) (by omega) (by omega) rfl (by decide) ?_
      clear HF HM; intro a w55 A55 c55 HF HM hc55
      refine fp HF 1 4 [(7, .slice A55 (k + 1) c55)] ?_; clear HF; intro a HF
      refine from_done rfl ?_
      replace HF := HF.to [(7, .slice A55 (k + 1) c55), (42, .bool false), (27, .bool false), (9, vI 0), (21, .bool true), (8, vI k), (6, .slice none 0 0), (0, .slice A p.length c), (1, .slice A2 q.length c2), (2, vI s)]
      replace HM := HM.picks (fs' := [.row (.slice A55 (k + 1) c55) (k + 1) (((sumUp p q s k).map I64v) ++ [I64v 0]) 3 1]) [1] (by decide) rfl
      have hnA55 : k + 1 = k + 1 := rfl
      replace HM := HM.reRow (i := 0) (ys := (sumUp p q s (k + 1)).map I64v) rfl hnA55 (by rw [sumUp_succ, sumAtD (by omega) (by omega)]; simp)
      rw [hnA55] at hc55
      replace HF := HF.as (t := 7) (u := .slice A55 (k + 1) c55) rfl (by rw [hnA55])
      refine from_start ?_
      refine fp HF 2 0 [(23, vI (IntKind.i64.wrap ((k : Int) + 1))), (22, vI k)] ?_; clear HF; intro a HF
      replace HF := HF.as (t := 23) (u := vI (k + 1 : Nat)) rfl (i64_nat (by omega) (by omega))
      refine fp HF 1 2 [(8, vI (k + 1 : Nat))] ?_; clear HF; intro a HF
      refine from_done rfl ?_
      exact ⟨_, (by omega), k + 1, A55, c55, by omega, hc55, rfl, HF.sub (by kernel_rfl), HM.picks [0] (by decide) rfl⟩
    ·have HF := HF.on 35 hb35
     have hd35 := of_decide_eq_false hb35
     refine fp HF 7 4 [(42, .bool false), (41, undef), (40, undef), (39, undef), (38, undef), (37, undef), (36, undef)] ?_; clear HF; intro a HF
     refine from_done rfl ?_
     refine cond_false HF rfl (wp_skip (from_start ?_))
     refine fp HF 2 0 [(53, vI 0), (52, .slice Ak k ck)] ?_; clear HF; intro a HF
     refine from_op HF (i := 2) rfl rfl ?_
     refine e_slice HF HM (vs := [(0, vI 0)]) (cs := #[vI 0]) rfl ei_pol (by decide) rfl (by kernel_rfl) rfl (by decide) ?_
     clear HF HM; intro a w54 g54 HF HM
     refine from_op HF (i := 3) rfl rfl ?_
     refine e_append HF HM (i := 1) rfl ei_pol rfl rfl rfl (news := [I64v 0]) (HM.rdBlk (i := 0) (n := 1) (size := 1) rfl rfl) (by simp [Value.oneCell', I64v]) (by omega) (by omega) rfl (by decide) ?_
     clear HF HM; intro a w55 A55 c55 HF HM hc55
     refine fp HF 1 4 [(7, .slice A55 (k + 1) c55)] ?_; clear HF; intro a HF
     refine from_done rfl ?_
     replace HF := HF.to [(7, .slice A55 (k + 1) c55), (42, .bool false), (27, .bool false), (9, vI 0), (21, .bool true), (8, vI k), (6, .slice none 0 0), (0, .slice A p.length c), (1, .slice A2 q.length c2), (2, vI s)]
     replace HM := HM.picks (fs' := [.row (.slice A55 (k + 1) c55) (k + 1) (((sumUp p q s k).map I64v) ++ [I64v 0]) 3 1]) [1] (by decide) rfl
     have hnA55 : k + 1 = k + 1 := rfl
     replace HM := HM.reRow (i := 0) (ys := (sumUp p q s (k + 1)).map I64v) rfl hnA55 (by rw [sumUp_succ, sumAtD (by omega) (by omega)]; simp)
     rw [hnA55] at hc55
     replace HF := HF.as (t := 7) (u := .slice A55 (k + 1) c55) rfl (by rw [hnA55])
     refine from_start ?_
     refine fp HF 2 0 [(23, vI (IntKind.i64.wrap ((k : Int) + 1))), (22, vI k)] ?_; clear HF; intro a HF
     replace HF := HF.as (t := 23) (u := vI (k + 1 : Nat)) rfl (i64_nat (by omega) (by omega))
     refine fp HF 1 2 [(8, vI (k + 1 : Nat))] ?_; clear HF; intro a HF
     refine from_done rfl ?_
     exact ⟨_, (by omega), k + 1, A55, c55, by omega, hc55, rfl, HF.sub (by kernel_rfl), HM.picks [0] (by decide) rfl⟩
  ·have HF := HF.on 21 hb21
   have hd21 := of_decide_eq_false hb21
   have hkM : k = (max p.length (q.length + s)) := by omega
   refine cond_false HF rfl (wp_exit (wp_seq (from_start ?_)))
   refine fp HF 1 0 [(56, .slice Ak k ck)] ?_; clear HF; intro a HF
   refine from_op HF (i := 1) rfl rfl ?_
   refine e_call HF (vs := [.slice Ak k ck]) rfl (by kernel_rfl) (by kernel_rfl) rfl (by decide) (trim_any _ _ _ (sumUp p q s k) _ (HM.rd (i := 0) rfl) (sumUp_len p q s k) (by omega) (by omega)) ?_
   rintro _ w57 ⟨rfl, hbw⟩
   refine ⟨_, rfl, ?_⟩
   replace HM := HM.call hbw
   clear HF; intro a HF
   have htl57 := trim_len (sumUp p q s k)
   have hle57 : (trimL (sumUp p q s k)).length ≤ k := by rw [sumUp_len p q s k] at htl57; exact htl57
   replace HM := HM.cutRow (i := 0) rfl hle57 (trim_take_map (sumUp p q s k))
   refine fp HF 1 2 [(6, .slice Ak ((trimL (sumUp p q s k)).length) ck)] ?_; clear HF; intro a HF
   refine from_done rfl ?_
   replace HF := HF.to [(6, .slice Ak ((trimL (sumUp p q s k)).length) ck), (21, .bool false), (8, vI k), (7, .slice Ak k ck), (0, .slice A p.length c), (1, .slice A2 q.length c2), (2, vI s)]
   refine wp_ret ?_
   exact ret1 rfl HF (.tmp HF rfl) (by rw [← sumUp_all p q s, ← hkM]; exact ⟨⟨_, _, rfl, HM.own (i := 0) rfl, by omega⟩, HM.below⟩)
theorem one01 : P01 [1] := by intro x hx; simp at hx; omega
theorem divIs_of {w w' : World} {A X Xr : Option Addr} {c ca cr : Nat} {p q al xr : List Nat} {vq : Value} (hR : divR (p.length + 1) p q = al) (hX : (X = A ∧ ca = c ∧ al = p) ∨ (X = Xr ∧ ca = cr ∧ al = xr ∧ q.length ≤ p.length))
    (hO : w'.ownsRow w.heap.size 3 1 (.slice Xr xr.length cr) xr.length (xr.map I64v)) (hcr : xr.length ≤ cr) (hless : al.length < q.length) (hb : Below w.heap.size w w') :
    DivIs w A c p q (.returned (.tuple #[vq, .slice X al.length ca])) w' := by
  unfold DivIs
  rw [hR]
  refine ⟨⟨vq, X, ca, rfl, ?_, ?_⟩, hb⟩
  · intro h
    rcases hX with ⟨h1, h2, _⟩ | ⟨_, _, _, h4⟩
    · exact ⟨h1, h2⟩
    · omega
  · intro h
    rcases hX with ⟨_, _, h3⟩ | ⟨rfl, rfl, rfl, _⟩
    · subst h3; omega
    · exact ⟨hO, hcr⟩
set_option maxRecDepth 100000 in
set_option maxHeartbeats 4000000 in
theorem divide_any (A A2 : Option Addr) (c c2 : Nat) (p q : List Nat) (w : World) (h1 : P01 p) (h2 : P01 q) (t1 : Tr p) (t2 : Tr q) (h0 : 0 < q.length) (hr : Rd w w.heap.size 1 A p.length (p.map I64v)) (hr2 : Rd w w.heap.size 1 A2 q.length (q.map I64v)) (hp : p.length ≤ 100000) (hq : q.length ≤ 100000) :
    Calls Tryd.prog 100 #[.slice A p.length c, .slice A2 q.length c2] w (DivIs w A c p q) := by
 refine calls_enter (vs := [.slice A p.length c, .slice A2 q.length c2]) Tryd.func100 rfl rfl (by kernel_rfl) (σ0 := [(0, .slice A p.length c), (1, .slice A2 q.length c2)]) rfl ?_
 intro a HF
 have HM := Mem.start w
 refine wp_seq (from_start ?_)
 refine fp HF 2 0 [(5, .slice none 0 0), (4, .slice none 0 0)] ?_; clear HF; intro a HF
 refine from_done rfl ?_
 refine wp_seq (from_start ?_)
 refine fp HF 1 0 [(6, .slice none 0 0)] ?_; clear HF; intro a HF
 refine from_done rfl ?_
 replace HM := (HM.nil 3 1).nil 3 1
 refine wp_seq (wp_block ?_)
 refine loop_nat (fun mS aS wS => ∃ (al : List Nat) (X : Option Addr) (ca : Nat) (Xr : Option Addr) (xr : List Nat) (cr : Nat) (ql : List Nat) (Aq : Option Addr) (cq : Nat), (P01 al) ∧ (Tr al) ∧ (al.length ≤ p.length) ∧ (divR (al.length + 1) al q = divR (p.length + 1) p q) ∧ ((X = A ∧ ca = c ∧ al = p) ∨ (X = Xr ∧ ca = cr ∧ al = xr ∧ q.length ≤ p.length)) ∧ (P01 ql) ∧ (ql.length ≤ p.length + 1) ∧ (xr.length ≤ cr) ∧ mS = al.length ∧ Fr aS 28 [] [(6, .slice Aq ql.length cq), (5, .slice none 0 0), (4, .slice none 0 0), (0, .slice X al.length ca), (1, .slice A2 q.length c2)] ∧ Mem w wS [.row (.slice Aq ql.length cq) ql.length (ql.map I64v) 3 1, .row (.slice Xr xr.length cr) xr.length (xr.map I64v) 3 1]) (m := p.length) ⟨p, A, c, none, [], 0, [], none, 0, h1, t1, Nat.le_refl _, rfl, .inl ⟨rfl, rfl, rfl⟩, (by intro x hx; cases hx), Nat.zero_le _, Nat.le_refl _, rfl, HF.sub (by kernel_rfl), HM.picks [0, 1] (by decide) rfl⟩ ?_
 clear HF HM; rintro mS a w_ ⟨al, X, ca, Xr, xr, cr, ql, Aq, cq, ha1, hat, hal, hdv, hX, hq1, hql, hcr, rfl, HF, HM⟩
 refine wp_seq (wp_seq (from_start ?_))
 refine fp HF 1 0 [(8, .slice X al.length ca)] ?_; clear HF; intro a HF
 refine fy HF HM 1 rfl rfl rfl (Yl.len rfl rfl (by kernel_rfl)) ?_; clear HF; intro a HF
 refine fp HF 1 2 [(10, .slice A2 q.length c2)] ?_; clear HF; intro a HF
 refine fy HF HM 3 rfl rfl rfl (Yl.len rfl rfl (by kernel_rfl)) ?_; clear HF; intro a HF
 refine fp HF 1 4 [(12, .bool (decide ((al.length : Int) ≥ (q.length : Int))))] ?_; clear HF; intro a HF
 refine from_done rfl ?_
 rcases Bool.eq_false_or_eq_true (decide ((al.length : Int) ≥ (q.length : Int))) with hb12 | hb12
 ·have HF := HF.on 12 hb12
  have hd12 := of_decide_eq_true hb12
  have hless := sum_less ha1 h2 hat t2 h0 (by omega)
  refine cond_true HF rfl (wp_skip (wp_block (wp_seq (from_start ?_))))
  refine fp HF 1 0 [(13, .slice X al.length ca)] ?_; clear HF; intro a HF
  refine fy HF HM 1 rfl rfl rfl (Yl.len rfl rfl (by kernel_rfl)) ?_; clear HF; intro a HF
  refine fp HF 1 2 [(15, .slice A2 q.length c2)] ?_; clear HF; intro a HF
  refine fy HF HM 3 rfl rfl rfl (Yl.len rfl rfl (by kernel_rfl)) ?_; clear HF; intro a HF
  refine fp HF 1 4 [(17, vI (IntKind.i64.wrap ((al.length : Int) - (q.length : Int))))] ?_; clear HF; intro a HF
  replace HF := HF.as (t := 17) (u := vI (al.length - q.length : Nat)) rfl (i64_nat (by omega) (by omega))
  refine fp HF 1 5 [(7, vI (al.length - q.length : Nat))] ?_; clear HF; intro a HF
  refine from_done rfl ?_
  refine wp_seq (from_start ?_)
  refine fp HF 1 0 [(18, .slice Aq ql.length cq)] ?_; clear HF; intro a HF
  refine from_op HF (i := 1) rfl rfl ?_
  refine e_slice HF HM (vs := [(0, vI 1)]) (cs := #[vI 1]) rfl ei_pol (by decide) rfl (by kernel_rfl) rfl (by decide) ?_
  clear HF HM; intro a w19 g19 HF HM
  refine fp HF 1 2 [(20, vI (al.length - q.length : Nat))] ?_; clear HF; intro a HF
  refine from_op HF (i := 3) rfl rfl ?_
  refine e_call HF (vs := [.slice Aq ql.length cq, vS g19 1 1, vI (al.length - q.length : Nat)]) rfl (by kernel_rfl) (by kernel_rfl) rfl (by decide) (polsum_any _ _ _ _ ql [1] (al.length - q.length) _ hq1 one01 (HM.rd (i := 1) rfl) (HM.rdBlk (i := 0) (n := 1) (size := 1) rfl rfl) (by omega) (by simp only [List.length_singleton]; omega)) ?_
  rintro _ w21 ⟨⟨A21, c21, rfl, ho, hc21⟩, hbw⟩
  refine ⟨_, rfl, ?_⟩
  replace HM := HM.callRow hbw ho
  clear HF; intro a HF
  refine fp HF 1 4 [(6, .slice A21 ((sumL ql [1] (al.length - q.length)).length) c21)] ?_; clear HF; intro a HF
  refine from_done rfl ?_
  replace HM := HM.picks (fs' := [.row (.slice A21 ((sumL ql [1] (al.length - q.length)).length) c21) ((sumL ql [1] (al.length - q.length)).length) ((sumL ql [1] (al.length - q.length)).map I64v) 3 1, .row (.slice Xr xr.length cr) xr.length (xr.map I64v) 3 1]) [0, 3] (by decide) rfl
  refine from_start ?_
  refine fp HF 3 0 [(24, vI (al.length - q.length : Nat)), (23, .slice A2 q.length c2), (22, .slice X al.length ca)] ?_; clear HF; intro a HF
  refine from_op HF (i := 3) rfl rfl ?_
  refine e_call HF (vs := [.slice X al.length ca, .slice A2 q.length c2, vI (al.length - q.length : Nat)]) rfl (by kernel_rfl) (by kernel_rfl) rfl (by decide) (polsum_any _ _ _ _ al q (al.length - q.length) _ ha1 h2 (by rcases hX with ⟨rfl, rfl, rfl⟩ | ⟨rfl, rfl, rfl, _⟩ <;> first | exact HM.old hr | exact HM.rd (i := 1) rfl) (HM.old hr2) (by omega) (by omega)) ?_
  rintro _ w25 ⟨⟨A25, c25, rfl, ho, hc25⟩, hbw⟩
  refine ⟨_, rfl, ?_⟩
  replace HM := HM.callRow hbw ho
  clear HF; intro a HF
  refine fp HF 1 4 [(0, .slice A25 ((sumL al q (al.length - q.length)).length) c25)] ?_; clear HF; intro a HF
  refine from_done rfl ?_
  replace HF := HF.to [(0, .slice A25 ((sumL al q (al.length - q.length)).length) c25), (6, .slice A21 ((sumL ql [1] (al.length - q.length)).length) c21), (7, vI (al.length - q.length : Nat)), (12, .bool true), (5, .slice none 0 0), (4, .slice none 0 0), (1, .slice A2 q.length c2)]
  exact ⟨_, hless, (sumL al q (al.length - q.length)), A25, c25, A25, (sumL al q (al.length - q.length)), c25, (sumL ql [1] (al.length - q.length)), A21, c21, sum01 ha1 _, sumTr _ _ _, by omega, div_step h2 t2 h0 ha1 hat (by omega) hdv, .inr ⟨rfl, rfl, rfl, by omega⟩, sum01 hq1 _, by have := sum_len ql [1] (al.length - q.length); simp only [List.length_singleton] at this; omega, hc25, rfl, HF.sub (by kernel_rfl), HM.picks [1, 0] (by decide) rfl⟩
 ·have HF := HF.on 12 hb12
  have hd12 := of_decide_eq_false hb12
  refine cond_false HF rfl (wp_exit (wp_seq (from_start ?_)))
  refine fp HF 4 0 [(5, .slice X al.length ca), (4, .slice Aq ql.length cq), (27, .slice X al.length ca), (26, .slice Aq ql.length cq)] ?_; clear HF; intro a HF
  refine from_done rfl ?_
  refine wp_ret ?_
  have hR : divR (p.length + 1) p q = al := by rw [← hdv, div_stop (by omega)]
  exact ret2 rfl HF (.tmp HF rfl) (.tmp HF rfl) (divIs_of hR hX (HM.own (i := 1) rfl) hcr (by omega) HM.below)
end Go.Proofs.YtnakabnmjnfpcaaDoor

set_option linter.all false
namespace Go.Proofs.YtnakabnmjnfpcaaDoor
open Go.RowKit
set_option maxRecDepth 100000 in
set_option maxHeartbeats 4000000 in
theorem bits_any (A : Option Addr) (c y : Nat) (hy : y < 256) (w : World) (hr : Rd w w.heap.size 1 A 1 ([y].map B8)) :
    Calls Tryd.prog 101 #[.slice A 1 c] w (PolIs w (bitsOf y)) := by
 refine calls_enter (vs := [.slice A 1 c]) Tryd.func101 rfl rfl (by kernel_rfl) (σ0 := [(0, .slice A 1 c)]) rfl ?_
 intro a HF
 have HM := Mem.start w
 refine wp_seq (from_start ?_)
 refine fp HF 1 0 [(2, .slice none 0 0)] ?_; clear HF; intro a HF
 refine from_done rfl ?_
 refine wp_seq (from_start ?_)
 refine fp HF 1 0 [(6, .slice A 1 c)] ?_; clear HF; intro a HF
 refine fy HF HM 1 rfl rfl rfl (Yl.len rfl rfl (by kernel_rfl)) ?_; clear HF; intro a HF
 refine fp HF 2 2 [(3, vI 8), (8, vI 8)] ?_; clear HF; intro a HF
 refine from_done rfl ?_
 refine wp_seq (from_start ?_)
 refine fp HF 2 0 [(10, vI 40), (9, vI 8)] ?_; clear HF; intro a HF
 refine from_op HF (i := 2) rfl rfl ?_
 refine e_makeN HF HM (m := 40) rfl ei_pol rfl rfl (by omega) (by omega) rfl (by decide) ?_
 clear HF HM; intro a w11 g11 HF HM
 refine fp HF 1 3 [(4, vS g11 40 40)] ?_; clear HF; intro a HF
 refine from_done rfl ?_
 have hnsomeg110none : 40 = 40 := rfl
 replace HM := HM.reRow (i := 0) (ys := (bitsUp y 0).map I64v) rfl hnsomeg110none (by rw [bitsUp_zero]; kernel_rfl)
 replace HF := HF.as (t := 4) (u := vS g11 40 40) rfl (by rw [hnsomeg110none])
 replace HF := HF.as (t := 11) (u := vS g11 40 40) rfl (by rw [hnsomeg110none])
 refine wp_seq (wp_seq (from_start ?_))
 refine fp HF 1 0 [(5, vI 0)] ?_; clear HF; intro a HF
 refine from_done rfl ?_
 refine wp_block ?_
 refine loop_nat (fun mS aS wS => ∃ (k : Nat), (k ≤ 8) ∧ mS = 8 - k ∧ Fr aS 52 [] [(5, vI k), (11, vS g11 40 40), (4, vS g11 40 40), (3, vI 8), (2, .slice none 0 0), (0, .slice A 1 c)] ∧ Mem w wS [.row (vS g11 40 40) 40 ((bitsUp y k).map I64v) 3 1]) (m := 8 - 0) ⟨0, by omega, rfl, HF.sub (by kernel_rfl), HM.picks [0] (by decide) rfl⟩ ?_
 clear HF HM; rintro mS a w_ ⟨k, hk, rfl, HF, HM⟩
 refine wp_seq (wp_seq (from_start ?_))
 refine fp HF 3 0 [(14, .bool (decide ((k : Int) < (8 : Int)))), (13, vI 8), (12, vI k)] ?_; clear HF; intro a HF
 refine from_done rfl ?_
 rcases Bool.eq_false_or_eq_true (decide ((k : Int) < (8 : Int))) with hb14 | hb14
 ·have HF := HF.on 14 hb14
  have hd14 := of_decide_eq_true hb14
  have hk8 : k < 8 := by omega
  refine cond_true HF rfl (wp_skip (wp_seq (wp_block (from_start ?_))))
  refine fp HF 6 0 [(22, vI (IntKind.i64.wrap (39 - (k : Int)))), (21, vI k), (20, vI 39), (19, vI 40), (18, vI 8), (17, vS g11 40 40)] ?_; clear HF; intro a HF
  replace HF := HF.as (t := 22) (u := vI (39 - k : Nat)) rfl (i64_nat (by omega) (by omega))
  refine fp HF 3 6 [(25, vI (IntKind.i64.wrap (Int.tdiv (k : Int) 8))), (24, vI k), (23, .slice A 1 c)] ?_; clear HF; intro a HF
  replace HF := HF.as (t := 25) (u := vI (k / 8 : Nat)) rfl (tdiv_nat .i64 8 (by show _ ≤ 9223372036854775807; omega))
  obtain ⟨gA, oA, rfl, _⟩ := hr.some_at (Nat.lt_of_le_of_lt (Nat.zero_le _) (show k / 8 < 1 from by omega)) (by decide)
  refine fy HF HM 9 rfl rfl rfl (v := vP gA (oA + (k / 8) * 1)) ((Yl.indexAddr (ad := ⟨gA, oA, none⟩) (y := k / 8) (sz := 1) rfl rfl rfl (by omega) (by kernel_rfl)).as (by rw [Addr.add_mid])) ?_; clear HF; intro a HF
  refine fy HF HM 10 rfl rfl rfl (v := vB ([y].getD (k / 8) 0)) (Yl.load1 rfl rfl (by kernel_rfl) (fun _ h => (h.old hr).oneAt1 (k := (k / 8)) (map_at (F := B8) (k := (k / 8)) (x := ([y].getD (k / 8) 0)) ((getD_at 0 (k := (k / 8)) (by first | omega | (simp; omega))))))) ?_; clear HF; intro a HF
  replace HF := HF.as (t := 27) (u := vB y) rfl (by rw [show k / 8 = 0 by omega]; rfl)
  refine fp HF 2 11 [(29, vI (Int.tmod (k : Int) 8)), (28, vI k)] ?_; clear HF; intro a HF
  replace HF := HF.as (t := 29) (u := vI (k % 8 : Nat)) rfl (tmod_nat .i64 _ 8)
  refine fy HF HM 13 rfl rfl rfl (v := vB (y / 2 ^ (k % 8) : Nat)) (Yl.shrN (m := y) (n := (k % 8)) rfl rfl rfl (by show _ ≤ 8; omega)) ?_; clear HF; intro a HF
  refine fp HF 1 14 [(31, vB (Int.tmod ((y / 2 ^ (k % 8) : Nat) : Int) 2))] ?_; clear HF; intro a HF
  replace HF := HF.as (t := 31) (u := vB ((y / 2 ^ (k % 8)) % 2 : Nat)) rfl (tmod_nat .u8 _ 2)
  refine fp HF 1 15 [(32, vI (IntKind.i64.wrap (((y / 2 ^ (k % 8)) % 2 : Nat) : Int)))] ?_; clear HF; intro a HF
  replace HF := HF.as (t := 32) (u := vI ((y / 2 ^ (k % 8)) % 2 : Nat)) rfl (i64_nat rfl (by omega))
  refine fy HF HM 16 rfl rfl rfl (v := vP g11 ((39 - k) * 1)) ((Yl.indexAddr (ad := ⟨g11, 0, none⟩) (y := 39 - k) (sz := 1) rfl rfl rfl (by omega) (by kernel_rfl)).as (by rw [Addr.add_mid, Nat.zero_add])) ?_; clear HF; intro a HF
  refine from_op HF (i := 17) rfl rfl ?_
  refine e_storeRow HF HM (i := 0) rfl rfl rfl rfl (by kernel_rfl) rfl rfl (by rw [List.length_map, bitsUp_len]; omega) ?_
  clear HM; intro w6_17 HM
  replace HM := HM.asRow (i := 0) (ys := (bitsUp y (k + 1)).map I64v) rfl ((putAt_one I64v (bitsUp y k) (39 - k) (y / 2 ^ (k % 8) % 2) (by rw [bitsUp_len]; omega)).trans (by rw [show k % 8 = k by omega, bitsUp_succ (by omega)]))
  refine from_done rfl ?_
  replace HF := HF.to [(14, .bool true), (5, vI k), (11, vS g11 40 40), (4, vS g11 40 40), (3, vI 8), (2, .slice none 0 0), (0, .slice (some ⟨gA, oA, none⟩) 1 c)]
  refine from_start ?_
  refine fp HF 2 0 [(16, vI (IntKind.i64.wrap ((k : Int) + 1))), (15, vI k)] ?_; clear HF; intro a HF
  replace HF := HF.as (t := 16) (u := vI (k + 1 : Nat)) rfl (i64_nat (by omega) (by omega))
  refine fp HF 1 2 [(5, vI (k + 1 : Nat))] ?_; clear HF; intro a HF
  refine from_done rfl ?_
  exact ⟨_, (by omega), k + 1, by omega, rfl, HF.sub (by kernel_rfl), HM.picks [0] (by decide) rfl⟩
 ·have HF := HF.on 14 hb14
  have hd14 := of_decide_eq_false hb14
  obtain rfl : k = 8 := by omega
  refine cond_false HF rfl (wp_exit (wp_seq (wp_block ?_)))
  refine loop_nat (fun mS aS wS => ∃ (j : Nat), (j ≤ 40) ∧ (trimL ((bitsUp y 8).take j) = trimL (bitsUp y 8)) ∧ mS = 0 + j ∧ Fr aS 52 [] [(14, .bool false), (5, vI 8), (11, vS g11 40 40), (4, vS g11 j 40), (3, vI 8), (2, .slice none 0 0), (0, .slice A 1 c)] ∧ Mem w wS [.row (vS g11 40 40) 40 ((bitsUp y 8).map I64v) 3 1]) (m := 0 + 40) ⟨40, by omega, by rw [List.take_of_length_le (by rw [bitsUp_len]; omega)], rfl, HF.sub (by kernel_rfl), HM.picks [0] (by decide) rfl⟩ ?_
  clear HF HM; rintro mS a w_ ⟨j, hj, ht, rfl, HF, HM⟩
  have hbl := bitsUp_len y 8
  refine wp_seq (wp_seq (from_start ?_))
  refine fp HF 1 0 [(34, vS g11 j 40)] ?_; clear HF; intro a HF
  refine fy HF HM 1 rfl rfl rfl (Yl.len rfl rfl (by kernel_rfl)) ?_; clear HF; intro a HF
  refine fp HF 2 2 [(37, .bool (decide ((j : Int) > (0 : Int)))), (36, .bool (decide ((j : Int) > (0 : Int))))] ?_; clear HF; intro a HF
  rcases Bool.eq_false_or_eq_true (decide ((j : Int) > (0 : Int))) with hb37 | hb37
  ·have HF := HF.on 37 hb37
   have hd37 := of_decide_eq_true hb37
   have hj0 : 0 < j := by omega
   refine fp HF 2 4 [(39, vS g11 j 40), (38, vS g11 j 40)] ?_; clear HF; intro a HF
   refine fy HF HM 6 rfl rfl rfl (Yl.len rfl rfl (by kernel_rfl)) ?_; clear HF; intro a HF
   refine fp HF 1 7 [(41, vI (IntKind.i64.wrap ((j : Int) - 1)))] ?_; clear HF; intro a HF
   replace HF := HF.as (t := 41) (u := vI (j - 1 : Nat)) rfl (i64_nat (by omega) (by omega))
   refine fy HF HM 8 rfl rfl rfl (v := vP g11 ((j - 1) * 1)) ((Yl.indexAddr (ad := ⟨g11, 0, none⟩) (y := j - 1) (sz := 1) rfl rfl rfl (by omega) (by kernel_rfl)).as (by rw [Addr.add_mid, Nat.zero_add])) ?_; clear HF; intro a HF
   refine fy HF HM 9 rfl rfl rfl (v := vI ((bitsUp y 8).getD (j - 1) 0)) (Yl.load1 rfl rfl (by kernel_rfl) (fun _ h => h.rowOne (i := 0) rfl (k := (j - 1)) (map_at (F := I64v) (k := (j - 1)) (x := ((bitsUp y 8).getD (j - 1) 0)) ((getD_at 0 (k := (j - 1)) (by first | omega | (simp; omega))))))) ?_; clear HF; intro a HF
   refine fp HF 2 10 [(45, .bool ((((bitsUp y 8).getD (j - 1) 0) : Int) == (0 : Int))), (44, .bool ((((bitsUp y 8).getD (j - 1) 0) : Int) == (0 : Int)))] ?_; clear HF; intro a HF
   refine from_done rfl ?_
   rcases Bool.eq_false_or_eq_true ((((bitsUp y 8).getD (j - 1) 0) : Int) == (0 : Int)) with hb45 | hb45
   ·have HF := HF.on 45 hb45
    have hd45 := eq_of_beq hb45
    refine cond_true HF rfl (wp_skip (wp_block (from_start ?_)))
    refine fp HF 2 0 [(47, vS g11 j 40), (46, vS g11 j 40)] ?_; clear HF; intro a HF
    refine fy HF HM 2 rfl rfl rfl (Yl.len rfl rfl (by kernel_rfl)) ?_; clear HF; intro a HF
    refine fp HF 1 3 [(49, vI (IntKind.i64.wrap ((j : Int) - 1)))] ?_; clear HF; intro a HF
    replace HF := HF.as (t := 49) (u := vI (j - 1 : Nat)) rfl (i64_nat (by omega) (by omega))
    refine fy HF HM 4 rfl rfl rfl (v := vS g11 (j - 1) 40) (Yl.sliceUpto ei_pol (j := j - 1) rfl rfl rfl (by omega)) ?_; clear HF; intro a HF
    refine fp HF 1 5 [(4, vS g11 (j - 1) 40)] ?_; clear HF; intro a HF
    refine from_done rfl ?_
    replace HF := HF.to [(4, vS g11 (j - 1) 40), (45, .bool true), (14, .bool false), (5, vI 8), (11, vS g11 40 40), (3, vI 8), (2, .slice none 0 0), (0, .slice A 1 c)]
    exact ⟨_, (by omega), (j - 1), by omega, trim_step (by omega) (by omega) (by omega) ht, rfl, HF.sub (by kernel_rfl), HM.picks [0] (by decide) rfl⟩
   ·have HF := HF.on 45 hb45
    have hd45 := ne_of_beq_false hb45
    refine cond_false HF rfl (wp_exit (wp_seq (from_start ?_)))
    refine fp HF 2 0 [(2, vS g11 j 40), (51, vS g11 j 40)] ?_; clear HF; intro a HF
    refine from_done rfl ?_
    refine wp_ret ?_
    have hjt := trim_stop (l := bitsUp y 8) (k := j) (by omega) (fun _ => by omega) ht
    have hjl : (bitsOf y).length = j := by rw [← bitsUp_all, hjt, List.length_take]; omega
    have HM2 := HM.cutRow (i := 0) (m := (bitsOf y).length) (ys := (bitsOf y).map I64v) rfl (by omega) (by rw [Nat.mul_one, ← List.map_take, hjl, ← hjt]; rfl)
    exact ret1 rfl HF (.tmp HF rfl) (⟨⟨some ⟨g11, 0, none⟩, 40, by rw [hjl], HM2.own (i := 0) rfl, by omega⟩, HM.below⟩)
  ·have HF := HF.on 37 hb37
   have hd37 := of_decide_eq_false hb37
   refine fp HF 8 4 [(45, .bool false), (44, undef), (43, undef), (42, undef), (41, undef), (40, undef), (39, undef), (38, undef)] ?_; clear HF; intro a HF
   refine from_done rfl ?_
   refine cond_false HF rfl (wp_exit (wp_seq (from_start ?_)))
   refine fp HF 2 0 [(2, vS g11 j 40), (51, vS g11 j 40)] ?_; clear HF; intro a HF
   refine from_done rfl ?_
   refine wp_ret ?_
   have hjt := trim_stop (l := bitsUp y 8) (k := j) (by omega) (fun _ => by omega) ht
   have hjl : (bitsOf y).length = j := by rw [← bitsUp_all, hjt, List.length_take]; omega
   have HM2 := HM.cutRow (i := 0) (m := (bitsOf y).length) (ys := (bitsOf y).map I64v) rfl (by omega) (by rw [Nat.mul_one, ← List.map_take, hjl, ← hjt]; rfl)
   exact ret1 rfl HF (.tmp HF rfl) (⟨⟨some ⟨g11, 0, none⟩, 40, by rw [hjl], HM2.own (i := 0) rfl, by omega⟩, HM.below⟩)
theorem ofgen_any (w : World) : Calls Tryd.prog 102 #[.int .u64 4374732215] w (PolIs w genP) := polof_any 4374732215 (by decide) w
theorem genlen : 0 < genP.length := by rw [gen_len]; decide
set_option maxRecDepth 100000 in
set_option maxHeartbeats 4000000 in
theorem linear_zero (A : Option Addr) (c : Nat) (w : World) (hr : Rd w w.heap.size 1 A 1 ([0].map B8)) :
    Calls Tryd.prog 89 #[.slice A 1 c] w (Is w (.int .u32 (crcT 0 : Int))) := by
 refine calls_enter (vs := [.slice A 1 c]) Tryd.func89 rfl rfl (by kernel_rfl) (σ0 := [(0, .slice A 1 c)]) rfl ?_
 intro a HF
 have HM := Mem.start w
 refine wp_seq (from_start ?_)
 refine fp HF 1 0 [(2, vW 0)] ?_; clear HF; intro a HF
 refine from_done rfl ?_
 refine wp_seq (from_start ?_)
 refine fp HF 1 0 [(8, .slice A 1 c)] ?_; clear HF; intro a HF
 refine from_op HF (i := 1) rfl rfl ?_
 refine e_call HF (vs := [.slice A 1 c]) rfl (by kernel_rfl) (by kernel_rfl) rfl (by decide) (bits_any _ _ 0 (by omega) _ (HM.old hr)) ?_
 rintro _ w9 ⟨⟨A9, c9, rfl, ho, hc9⟩, hbw⟩
 refine ⟨_, rfl, ?_⟩
 replace HM := HM.callRow hbw ho
 clear HF; intro a HF
 refine from_op HF (i := 2) rfl rfl ?_
 refine e_call HF (vs := [vQ 4374732215]) rfl (by kernel_rfl) (by kernel_rfl) rfl (by decide) (ofgen_any _) ?_
 rintro _ w10 ⟨⟨A10, c10, rfl, ho, hc10⟩, hbw⟩
 refine ⟨_, rfl, ?_⟩
 replace HM := HM.callRow hbw ho
 clear HF; intro a HF
 refine from_op HF (i := 3) rfl rfl ?_
 refine e_call HF (vs := [.slice A9 ((bitsOf 0).length) c9, .slice A10 ((genP).length) c10]) rfl (by kernel_rfl) (by kernel_rfl) rfl (by decide) (divide_any _ _ _ _ (bitsOf 0) genP _ (bits01 _) (poly01 _) (bitsTr _) (polyTr _) genlen (HM.rd (i := 1) rfl) (HM.rd (i := 0) rfl) (by have := bits_len 0; omega) (by rw [gen_len]; decide)) ?_
 rintro _ w11 ⟨⟨vq, X, cX, rfl, hd1, hd2⟩, hbw⟩
 refine ⟨_, rfl, ?_⟩
 replace HM := HM.call hbw
 clear HF; intro a HF
 refine fp HF 5 4 [(4, .slice X ((linR 0).length) cX), (3, vq), (13, .slice X ((linR 0).length) cX), (12, vq), (7, .tuple #[vq, .slice X ((linR 0).length) cX])] ?_; clear HF; intro a HF
 refine from_done rfl ?_
 replace HM := HM.picks (fs' := []) [] (by decide) rfl
 have hl32 := linR_len 0
 have hl0 : (linR 0).length = 0 := by rw [linR_zero]; rfl
 refine wp_seq (from_start ?_)
 refine fp HF 1 0 [(5, vW 0)] ?_; clear HF; intro a HF
 refine from_done rfl ?_
 refine wp_seq (wp_seq (from_start ?_))
 refine fp HF 1 0 [(6, vI 0)] ?_; clear HF; intro a HF
 refine from_done rfl ?_
 refine wp_block ?_
 refine loop_nat (fun mS aS wS => ∃ (k : Nat), (k ≤ (linR 0).length) ∧ mS = (linR 0).length - k ∧ Fr aS 31 [] [(6, vI k), (5, vW (remUp (linR 0) k)), (4, .slice X ((linR 0).length) cX), (2, vW 0)] ∧ Mem w wS []) (m := (linR 0).length - 0) ⟨0, Nat.zero_le _, rfl, HF.sub (by kernel_rfl), HM.picks [] (by decide) rfl⟩ ?_
 clear HF HM; rintro mS a w_ ⟨k, hk, rfl, HF, HM⟩
 refine wp_seq (wp_seq (from_start ?_))
 refine fp HF 2 0 [(15, .slice X ((linR 0).length) cX), (14, vI k)] ?_; clear HF; intro a HF
 refine fy HF HM 2 rfl rfl rfl (Yl.len rfl rfl (by kernel_rfl)) ?_; clear HF; intro a HF
 refine fp HF 1 3 [(17, .bool (decide ((k : Int) < (((linR 0).length : Nat) : Int))))] ?_; clear HF; intro a HF
 refine from_done rfl ?_
 rcases Bool.eq_false_or_eq_true (decide ((k : Int) < (((linR 0).length : Nat) : Int))) with hb17 | hb17
 ·have HF := HF.on 17 hb17
  have hd17 := of_decide_eq_true hb17
  omega
 ·have HF := HF.on 17 hb17
  have hd17 := of_decide_eq_false hb17
  refine cond_false HF rfl (wp_exit (wp_seq (from_start ?_)))
  refine fp HF 2 0 [(2, vW (remUp (linR 0) k)), (30, vW (remUp (linR 0) k))] ?_; clear HF; intro a HF
  refine from_done rfl ?_
  refine wp_ret ?_
  exact ret1 rfl HF (.tmp HF rfl) (⟨by rw [show k = (linR 0).length by omega, remUp_all, linR_is, refLin_eq 0 (by omega)], HM.below⟩)
set_option maxRecDepth 100000 in
set_option maxHeartbeats 4000000 in
theorem linear_pos (A : Option Addr) (c y : Nat) (hy : y < 256) (hy0 : y ≠ 0) (w : World) (hr : Rd w w.heap.size 1 A 1 ([y].map B8)) :
    Calls Tryd.prog 89 #[.slice A 1 c] w (Is w (.int .u32 (crcT y : Int))) := by
 refine calls_enter (vs := [.slice A 1 c]) Tryd.func89 rfl rfl (by kernel_rfl) (σ0 := [(0, .slice A 1 c)]) rfl ?_
 intro a HF
 have HM := Mem.start w
 refine wp_seq (from_start ?_)
 refine fp HF 1 0 [(2, vW 0)] ?_; clear HF; intro a HF
 refine from_done rfl ?_
 refine wp_seq (from_start ?_)
 refine fp HF 1 0 [(8, .slice A 1 c)] ?_; clear HF; intro a HF
 refine from_op HF (i := 1) rfl rfl ?_
 refine e_call HF (vs := [.slice A 1 c]) rfl (by kernel_rfl) (by kernel_rfl) rfl (by decide) (bits_any _ _ y (by omega) _ (HM.old hr)) ?_
 rintro _ w9 ⟨⟨A9, c9, rfl, ho, hc9⟩, hbw⟩
 refine ⟨_, rfl, ?_⟩
 replace HM := HM.callRow hbw ho
 clear HF; intro a HF
 refine from_op HF (i := 2) rfl rfl ?_
 refine e_call HF (vs := [vQ 4374732215]) rfl (by kernel_rfl) (by kernel_rfl) rfl (by decide) (ofgen_any _) ?_
 rintro _ w10 ⟨⟨A10, c10, rfl, ho, hc10⟩, hbw⟩
 refine ⟨_, rfl, ?_⟩
 replace HM := HM.callRow hbw ho
 clear HF; intro a HF
 refine from_op HF (i := 3) rfl rfl ?_
 refine e_call HF (vs := [.slice A9 ((bitsOf y).length) c9, .slice A10 ((genP).length) c10]) rfl (by kernel_rfl) (by kernel_rfl) rfl (by decide) (divide_any _ _ _ _ (bitsOf y) genP _ (bits01 _) (poly01 _) (bitsTr _) (polyTr _) genlen (HM.rd (i := 1) rfl) (HM.rd (i := 0) rfl) (by have := bits_len y; omega) (by rw [gen_len]; decide)) ?_
 rintro _ w11 ⟨⟨vq, X, cX, rfl, hd1, hd2⟩, hbw⟩
 obtain ⟨ho, hcX⟩ := hd2 (by rw [gen_len]; exact bits_pos y hy hy0)
 refine ⟨_, rfl, ?_⟩
 replace HM := HM.callRow hbw ho
 clear HF; intro a HF
 refine fp HF 5 4 [(4, .slice X ((linR y).length) cX), (3, vq), (13, .slice X ((linR y).length) cX), (12, vq), (7, .tuple #[vq, .slice X ((linR y).length) cX])] ?_; clear HF; intro a HF
 refine from_done rfl ?_
 replace HM := HM.picks (fs' := [.row (.slice X ((linR y).length) cX) ((linR y).length) ((linR y).map I64v) 3 1]) [0] (by decide) rfl
 have hl32 := linR_len y
 refine wp_seq (from_start ?_)
 refine fp HF 1 0 [(5, vW 0)] ?_; clear HF; intro a HF
 refine from_done rfl ?_
 refine wp_seq (wp_seq (from_start ?_))
 refine fp HF 1 0 [(6, vI 0)] ?_; clear HF; intro a HF
 refine from_done rfl ?_
 refine wp_block ?_
 refine loop_nat (fun mS aS wS => ∃ (k : Nat), (k ≤ (linR y).length) ∧ mS = (linR y).length - k ∧ Fr aS 31 [] [(6, vI k), (5, vW (remUp (linR y) k)), (4, .slice X ((linR y).length) cX), (2, vW 0)] ∧ Mem w wS [.row (.slice X ((linR y).length) cX) ((linR y).length) ((linR y).map I64v) 3 1]) (m := (linR y).length - 0) ⟨0, Nat.zero_le _, rfl, HF.sub (by kernel_rfl), HM.picks [0] (by decide) rfl⟩ ?_
 clear HF HM; rintro mS a w_ ⟨k, hk, rfl, HF, HM⟩
 refine wp_seq (wp_seq (from_start ?_))
 refine fp HF 2 0 [(15, .slice X ((linR y).length) cX), (14, vI k)] ?_; clear HF; intro a HF
 refine fy HF HM 2 rfl rfl rfl (Yl.len rfl rfl (by kernel_rfl)) ?_; clear HF; intro a HF
 refine fp HF 1 3 [(17, .bool (decide ((k : Int) < (((linR y).length : Nat) : Int))))] ?_; clear HF; intro a HF
 refine from_done rfl ?_
 rcases Bool.eq_false_or_eq_true (decide ((k : Int) < (((linR y).length : Nat) : Int))) with hb17 | hb17
 ·have HF := HF.on 17 hb17
  have hd17 := of_decide_eq_true hb17
  have hk31 : k < 32 := by omega
  refine cond_true HF rfl (wp_skip (wp_seq (wp_block (wp_seq (from_start ?_)))))
  refine fp HF 2 0 [(21, vI k), (20, .slice X ((linR y).length) cX)] ?_; clear HF; intro a HF
  obtain ⟨gX, rfl⟩ := own_some (HM.own (i := 0) rfl) (Nat.lt_of_le_of_lt (Nat.zero_le _) (show k < (linR y).length from by omega))
  refine fy HF HM 2 rfl rfl rfl (v := vP gX (k * 1)) ((Yl.indexAddr (ad := ⟨gX, 0, none⟩) (y := k) (sz := 1) rfl rfl rfl (by omega) (by kernel_rfl)).as (by rw [Addr.add_mid, Nat.zero_add])) ?_; clear HF; intro a HF
  refine fy HF HM 3 rfl rfl rfl (v := vI ((linR y).getD k 0)) (Yl.load1 rfl rfl (by kernel_rfl) (fun _ h => h.rowOne (i := 0) rfl (k := k) (map_at (F := I64v) (k := k) (x := ((linR y).getD k 0)) ((getD_at 0 (k := k) (by first | omega | (simp; omega))))))) ?_; clear HF; intro a HF
  refine fp HF 1 4 [(24, .bool ((((linR y).getD k 0) : Int) == (1 : Int)))] ?_; clear HF; intro a HF
  refine from_done rfl ?_
  rcases Bool.eq_false_or_eq_true ((((linR y).getD k 0) : Int) == (1 : Int)) with hb24 | hb24
  ·have HF := HF.on 24 hb24
   have hd24 := eq_of_beq hb24
   have hrs := remStep (linR y) hk31
   refine cond_true HF rfl (from_start ?_)
   refine fp HF 3 0 [(27, vI (IntKind.i64.wrap (31 - (k : Int)))), (26, vI k), (25, vW (remUp (linR y) k))] ?_; clear HF; intro a HF
   replace HF := HF.as (t := 27) (u := vI (31 - k : Nat)) rfl (i64_nat (by omega) (by omega))
   refine fy HF HM 3 rfl rfl rfl (v := vW (1 * 2 ^ (31 - k) : Nat)) (Yl.shlN (m := 1) (n := (31 - k)) rfl rfl rfl (by show _ ≤ 32; omega) (pow31 k)) ?_; clear HF; intro a HF
   refine fp HF 1 4 [(29, vW (IntKind.u32.wrap ((remUp (linR y) k : Int) + ((1 * 2 ^ (31 - k) : Nat) : Int))))] ?_; clear HF; intro a HF
   replace HF := HF.as (t := 29) (u := vW (remUp (linR y) (k + 1))) rfl (u32_nat (by rw [remUp_succ, if_pos (by omega)]; omega) (by rw [remUp_succ, if_pos (by omega)]; omega))
   refine fp HF 1 5 [(5, vW (remUp (linR y) (k + 1)))] ?_; clear HF; intro a HF
   refine from_done rfl ?_
   replace HF := HF.to [(5, vW (remUp (linR y) (k + 1))), (24, .bool true), (17, .bool true), (6, vI k), (4, vS gX ((linR y).length) cX), (2, vW 0)]
   refine from_start ?_
   refine fp HF 2 0 [(19, vI (IntKind.i64.wrap ((k : Int) + 1))), (18, vI k)] ?_; clear HF; intro a HF
   replace HF := HF.as (t := 19) (u := vI (k + 1 : Nat)) rfl (i64_nat (by omega) (by omega))
   refine fp HF 1 2 [(6, vI (k + 1 : Nat))] ?_; clear HF; intro a HF
   refine from_done rfl ?_
   exact ⟨_, (by omega), k + 1, by omega, rfl, HF.sub (by kernel_rfl), HM.picks [0] (by decide) rfl⟩
  ·have HF := HF.on 24 hb24
   have hd24 := ne_of_beq_false hb24
   replace HF := HF.as (t := 5) (u := .int .u32 (remUp (linR y) (k + 1) : Int)) rfl (by rw [remUp_succ, if_neg (by omega), Nat.add_zero])
   refine cond_false HF rfl (wp_skip (from_start ?_))
   refine fp HF 2 0 [(19, vI (IntKind.i64.wrap ((k : Int) + 1))), (18, vI k)] ?_; clear HF; intro a HF
   replace HF := HF.as (t := 19) (u := vI (k + 1 : Nat)) rfl (i64_nat (by omega) (by omega))
   refine fp HF 1 2 [(6, vI (k + 1 : Nat))] ?_; clear HF; intro a HF
   refine from_done rfl ?_
   exact ⟨_, (by omega), k + 1, by omega, rfl, HF.sub (by kernel_rfl), HM.picks [0] (by decide) rfl⟩
 ·have HF := HF.on 17 hb17
  have hd17 := of_decide_eq_false hb17
  refine cond_false HF rfl (wp_exit (wp_seq (from_start ?_)))
  refine fp HF 2 0 [(2, vW (remUp (linR y) k)), (30, vW (remUp (linR y) k))] ?_; clear HF; intro a HF
  refine from_done rfl ?_
  refine wp_ret ?_
  exact ret1 rfl HF (.tmp HF rfl) (⟨by rw [show k = (linR y).length by omega, remUp_all, linR_is, refLin_eq y (by omega)], HM.below⟩)
theorem linear_any (A : Option Addr) (c y : Nat) (hy : y < 256) (w : World) (hr : Rd w w.heap.size 1 A 1 ([y].map B8)) : Calls Tryd.prog 89 #[.slice A 1 c] w (Is w (.int .u32 (crcT y : Int))) := by
  by_cases h : y = 0
  · subst h; exact linear_zero A c w hr
  · exact linear_pos A c y hy h w hr
set_option maxRecDepth 100000 in
set_option maxHeartbeats 4000000 in
theorem upd04_any (c : Nat) (hc : c < 4294967296) (A : Option Addr) (n cp : Nat) (l : List Nat) (w : World) (hr : Rd w w.heap.size 1 A n (l.map B8)) (hln : l.length = n) (hn : n ≤ 1000000000) (hl : ∀ b ∈ l, b < 256) :
    Calls Tryd.prog 75 #[.int .u32 (c : Int), .slice A n cp] w (Is w (.int .u32 ((4294967295 - crcRun (4294967295 - c) l : Nat) : Int))) := by
 refine calls_enter (vs := [vW c, .slice A n cp]) Tryd.func75 rfl rfl (by kernel_rfl) (σ0 := [(0, vW c), (1, .slice A n cp)]) rfl ?_
 intro a HF
 have HM := Mem.start w
 refine wp_seq (from_start ?_)
 refine fp HF 1 0 [(4, vW 0)] ?_; clear HF; intro a HF
 refine from_done rfl ?_
 refine wp_seq (from_start ?_)
 refine fp HF 2 0 [(7, vW (IntKind.u32.wrap (4294967295 - (c : Int)))), (6, vW c)] ?_; clear HF; intro a HF
 replace HF := HF.as (t := 7) (u := vW (4294967295 - c : Nat)) rfl (u32_nat (by omega) (by omega))
 refine fp HF 1 2 [(0, vW (4294967295 - c : Nat))] ?_; clear HF; intro a HF
 refine from_done rfl ?_
 refine wp_seq (wp_seq (from_start ?_))
 refine fp HF 1 0 [(5, vI 0)] ?_; clear HF; intro a HF
 refine from_done rfl ?_
 refine wp_block ?_
 refine loop_nat (fun mS aS wS => ∃ (k : Nat), (k ≤ n) ∧ mS = n - k ∧ Fr aS 29 [] [(5, vI k), (0, vW (crcRun (4294967295 - c) (l.take k))), (4, vW 0), (1, .slice A n cp)] ∧ Mem w wS []) (m := n - 0) ⟨0, Nat.zero_le _, rfl, HF.sub (by kernel_rfl), HM.picks [] (by decide) rfl⟩ ?_
 clear HF HM; rintro mS a w_ ⟨k, hk, rfl, HF, HM⟩
 have hcr := crcRun_lt (l.take k) (c := 4294967295 - c) (by omega) (take_lt hl k)
 refine wp_seq (wp_seq (from_start ?_))
 refine fp HF 2 0 [(9, .slice A n cp), (8, vI k)] ?_; clear HF; intro a HF
 refine fy HF HM 2 rfl rfl rfl (Yl.len rfl rfl (by kernel_rfl)) ?_; clear HF; intro a HF
 refine fp HF 1 3 [(11, .bool (decide ((k : Int) < (n : Int))))] ?_; clear HF; intro a HF
 refine from_done rfl ?_
 rcases Bool.eq_false_or_eq_true (decide ((k : Int) < (n : Int))) with hb11 | hb11
 ·have HF := HF.on 11 hb11
  have hd11 := of_decide_eq_true hb11
  have hk11 : k < n := by omega
  have hxk := getD_lt hl (k := k) (by omega)
  have hy8 : (crcRun (4294967295 - c) (l.take k) % 256 ^^^ l.getD k 0) < 256 := Nat.xor_lt_two_pow (n := 8) (by omega) (by omega)
  refine cond_true HF rfl (wp_skip (wp_seq (wp_block (from_start ?_))))
  refine fp HF 2 0 [(15, vW (IntKind.u32.wrap (Int.tdiv (crcRun (4294967295 - c) (l.take k) : Int) 256))), (14, vW (crcRun (4294967295 - c) (l.take k)))] ?_; clear HF; intro a HF
  replace HF := HF.as (t := 15) (u := vW ((crcRun (4294967295 - c) (l.take k)) / 256 : Nat)) rfl (tdiv_nat .u32 256 (by show _ ≤ 4294967295; omega))
  refine fp HF 2 2 [(17, vW (Int.tmod (crcRun (4294967295 - c) (l.take k) : Int) 256)), (16, vW (crcRun (4294967295 - c) (l.take k)))] ?_; clear HF; intro a HF
  replace HF := HF.as (t := 17) (u := vW ((crcRun (4294967295 - c) (l.take k)) % 256 : Nat)) rfl (tmod_nat .u32 _ 256)
  refine fp HF 1 4 [(18, vB (IntKind.u8.wrap (((crcRun (4294967295 - c) (l.take k)) % 256 : Nat) : Int)))] ?_; clear HF; intro a HF
  replace HF := HF.as (t := 18) (u := vB (crcRun (4294967295 - c) (l.take k) % 256 : Nat)) rfl ((u8_mod (crcRun (4294967295 - c) (l.take k) % 256)).trans (by rw [Nat.mod_mod]))
  refine fp HF 2 5 [(20, vI k), (19, .slice A n cp)] ?_; clear HF; intro a HF
  obtain ⟨gA, oA, rfl, _⟩ := hr.some_at (Nat.lt_of_le_of_lt (Nat.zero_le _) (show k < n from by omega)) (by decide)
  refine fy HF HM 7 rfl rfl rfl (v := vP gA (oA + k * 1)) ((Yl.indexAddr (ad := ⟨gA, oA, none⟩) (y := k) (sz := 1) rfl rfl rfl (by omega) (by kernel_rfl)).as (by rw [Addr.add_mid])) ?_; clear HF; intro a HF
  have hx49 := getD_lt hl (k := k) (by first | omega | (simp; omega))
  refine fy HF HM 8 rfl rfl rfl (v := vB (l.getD k 0)) (Yl.load1 rfl rfl (by kernel_rfl) (fun _ h => (h.old hr).oneAt1 (k := k) (map_at (F := B8) (k := k) (x := (l.getD k 0)) ((getD_at 0 (k := k) (by first | omega | (simp; omega))))))) ?_; clear HF; intro a HF
  refine fp HF 1 9 [(23, vB (IntKind.u8.wrap (BitVec.ofInt (IntKind.u8).bits ((crcRun (4294967295 - c) (l.take k) % 256 : Nat) : Int) ^^^ BitVec.ofInt (IntKind.u8).bits ((l.getD k 0) : Int)).toNat))] ?_; clear HF; intro a HF
  replace HF := HF.as (t := 23) (u := vB ((crcRun (4294967295 - c) (l.take k) % 256) ^^^ (l.getD k 0) : Nat)) rfl (xor_u8 (m := crcRun (4294967295 - c) (l.take k) % 256) (n := (l.getD k 0)) (by omega) (by omega))
  refine from_op HF (i := 10) rfl rfl ?_
  refine e_slice HF HM (vs := [(0, vB ((crcRun (4294967295 - c) (l.take k) % 256) ^^^ (l.getD k 0) : Nat))]) (cs := #[vB ((crcRun (4294967295 - c) (l.take k) % 256) ^^^ (l.getD k 0) : Nat)]) rfl ei_u8 (by decide) rfl (by kernel_rfl) rfl (by decide) ?_
  clear HF HM; intro a w24 g24 HF HM
  refine from_op HF (i := 11) rfl rfl ?_
  refine e_call HF (vs := [vS g24 1 1]) rfl (by kernel_rfl) (by kernel_rfl) rfl (by decide) (linear_any _ _ (crcRun (4294967295 - c) (l.take k) % 256 ^^^ l.getD k 0) hy8 _ (HM.rdBlk (i := 0) (n := 1) (size := 1) rfl rfl)) ?_
  rintro _ w25 ⟨rfl, hbw⟩
  refine ⟨_, rfl, ?_⟩
  replace HM := HM.call hbw
  clear HF; intro a HF
  refine fp HF 1 12 [(26, vW (IntKind.u32.wrap (BitVec.ofInt (IntKind.u32).bits (((crcRun (4294967295 - c) (l.take k)) / 256 : Nat) : Int) ^^^ BitVec.ofInt (IntKind.u32).bits (crcT (crcRun (4294967295 - c) (l.take k) % 256 ^^^ l.getD k 0) : Int)).toNat))] ?_; clear HF; intro a HF
  replace HF := HF.as (t := 26) (u := vW (crcRun (4294967295 - c) (l.take (k + 1)))) rfl (by have h := xor_u32 (m := (crcRun (4294967295 - c) (l.take k)) / 256) (n := crcT (crcRun (4294967295 - c) (l.take k) % 256 ^^^ l.getD k 0)) (by omega) (crcT_lt (by omega)); rw [crcRun_take (by omega), byteStep_table]; exact h)
  refine fp HF 1 13 [(0, vW (crcRun (4294967295 - c) (l.take (k + 1))))] ?_; clear HF; intro a HF
  refine from_done rfl ?_
  replace HF := HF.to [(0, vW (crcRun (4294967295 - c) (l.take (k + 1)))), (11, .bool true), (5, vI k), (4, vW 0), (1, .slice (some ⟨gA, oA, none⟩) n cp)]
  replace HM := HM.picks (fs' := []) [] (by decide) rfl
  refine from_start ?_
  refine fp HF 2 0 [(13, vI (IntKind.i64.wrap ((k : Int) + 1))), (12, vI k)] ?_; clear HF; intro a HF
  replace HF := HF.as (t := 13) (u := vI (k + 1 : Nat)) rfl (i64_nat (by omega) (by omega))
  refine fp HF 1 2 [(5, vI (k + 1 : Nat))] ?_; clear HF; intro a HF
  refine from_done rfl ?_
  exact ⟨_, (by omega), k + 1, by omega, rfl, HF.sub (by kernel_rfl), HM.picks [] (by decide) rfl⟩
 ·have HF := HF.on 11 hb11
  have hd11 := of_decide_eq_false hb11
  refine cond_false HF rfl (wp_exit (wp_seq (from_start ?_)))
  refine fp HF 2 0 [(28, vW (IntKind.u32.wrap (4294967295 - (crcRun (4294967295 - c) (l.take k) : Int)))), (27, vW (crcRun (4294967295 - c) (l.take k)))] ?_; clear HF; intro a HF
  replace HF := HF.as (t := 28) (u := vW (4294967295 - (crcRun (4294967295 - c) (l.take k)) : Nat)) rfl (u32_nat (by omega) (by omega))
  refine fp HF 1 2 [(4, vW (4294967295 - (crcRun (4294967295 - c) (l.take k)) : Nat))] ?_; clear HF; intro a HF
  refine from_done rfl ?_
  refine wp_ret ?_
  exact ret1 rfl HF (.tmp HF rfl) (⟨by rw [List.take_of_length_le (by omega)], HM.below⟩)
set_option maxRecDepth 100000 in
set_option maxHeartbeats 4000000 in
theorem sum04_any (A : Option Addr) (n cp : Nat) (l : List Nat) (w : World) (hr : Rd w w.heap.size 1 A n (l.map B8)) (hln : l.length = n) (hn : n ≤ 1000000000) (hl : ∀ b ∈ l, b < 256) :
    Calls Tryd.prog 58 #[.slice A n cp] w (Is w (.int .u32 (crcSum l : Int))) := by
 refine calls_enter (vs := [.slice A n cp]) Tryd.func58 rfl rfl (by kernel_rfl) (σ0 := [(0, .slice A n cp)]) rfl ?_
 intro a HF
 have HM := Mem.start w
 refine wp_seq (from_start ?_)
 refine fp HF 1 0 [(2, vW 0)] ?_; clear HF; intro a HF
 refine from_done rfl ?_
 refine wp_seq (from_start ?_)
 refine fp HF 1 0 [(3, .slice A n cp)] ?_; clear HF; intro a HF
 refine from_op HF (i := 1) rfl rfl ?_
 refine e_call HF (vs := [vW 0, .slice A n cp]) rfl (by kernel_rfl) (by kernel_rfl) rfl (by decide) (upd04_any 0 (by decide) _ _ _ l _ (HM.old hr) hln hn hl) ?_
 rintro _ w4 ⟨rfl, hbw⟩
 refine ⟨_, rfl, ?_⟩
 replace HM := HM.call hbw
 clear HF; intro a HF
 refine fp HF 1 2 [(2, vW (crcSum l))] ?_; clear HF; intro a HF
 refine from_done rfl ?_
 refine wp_ret ?_
 exact ret1 rfl HF (.tmp HF rfl) (⟨rfl, HM.below⟩)
set_option maxRecDepth 100000 in
set_option maxHeartbeats 4000000 in
theorem seal04_any (A : Option Addr) (n cp : Nat) (l : List Nat) (w : World) (hr : Rd w w.heap.size 1 A n (l.map B8)) (hln : l.length = n) (hn : n ≤ 100000000) (hl : ∀ b ∈ l, b < 256) :
    Calls Tryd.prog 35 #[.slice A n cp] w (BytesOne w (sealL l)) := by
 refine calls_enter (vs := [.slice A n cp]) Tryd.func35 rfl rfl (by kernel_rfl) (σ0 := [(0, .slice A n cp)]) rfl ?_
 intro a HF
 have HM := Mem.start w
 refine wp_seq (from_start ?_)
 refine fp HF 1 0 [(2, .slice none 0 0)] ?_; clear HF; intro a HF
 refine from_done rfl ?_
 refine wp_seq (from_start ?_)
 refine fp HF 1 0 [(4, .slice A n cp)] ?_; clear HF; intro a HF
 refine from_op HF (i := 1) rfl rfl ?_
 refine e_call HF (vs := [.slice A n cp]) rfl (by kernel_rfl) (by kernel_rfl) rfl (by decide) (sum04_any _ _ _ l _ (HM.old hr) hln (by omega) hl) ?_
 rintro _ w5 ⟨rfl, hbw⟩
 refine ⟨_, rfl, ?_⟩
 replace HM := HM.call hbw
 clear HF; intro a HF
 refine fp HF 1 2 [(3, vW (crcSum l))] ?_; clear HF; intro a HF
 refine from_done rfl ?_
 have hcs := crcSum_lt l
 refine wp_seq (from_start ?_)
 refine from_op HF (i := 0) rfl rfl ?_
 refine e_slice0 HF HM rfl ei_u8 rfl (by decide) ?_
 clear HF HM; intro a w6 g6 HF HM
 refine fp HF 1 1 [(7, .slice A n cp)] ?_; clear HF; intro a HF
 refine from_op HF (i := 2) rfl rfl ?_
 refine e_append HF HM (i := 0) rfl ei_u8 rfl rfl rfl (news := (l.map B8)) (HM.old hr) (one_B8 _) (by omega) (by omega) rfl (by decide) ?_
 clear HF HM; intro a w8 A8 c8 HF HM hc8
 refine fp HF 2 3 [(10, vW (Int.tmod (crcSum l : Int) 256)), (9, vW (crcSum l))] ?_; clear HF; intro a HF
 replace HF := HF.as (t := 10) (u := vW ((crcSum l) % 256 : Nat)) rfl (tmod_nat .u32 _ 256)
 refine fp HF 1 5 [(11, vB (IntKind.u8.wrap (((crcSum l) % 256 : Nat) : Int)))] ?_; clear HF; intro a HF
 replace HF := HF.as (t := 11) (u := vB (crcSum l % 256 : Nat)) rfl ((u8_mod (crcSum l % 256)).trans (by rw [Nat.mod_mod]))
 refine fp HF 2 6 [(13, vW (IntKind.u32.wrap (Int.tdiv (crcSum l : Int) 256))), (12, vW (crcSum l))] ?_; clear HF; intro a HF
 replace HF := HF.as (t := 13) (u := vW ((crcSum l) / 256 : Nat)) rfl (tdiv_nat .u32 256 (by show _ ≤ 4294967295; omega))
 refine fp HF 1 8 [(14, vW (Int.tmod (((crcSum l) / 256 : Nat) : Int) 256))] ?_; clear HF; intro a HF
 replace HF := HF.as (t := 14) (u := vW (((crcSum l) / 256) % 256 : Nat)) rfl (tmod_nat .u32 _ 256)
 refine fp HF 1 9 [(15, vB (IntKind.u8.wrap ((((crcSum l) / 256) % 256 : Nat) : Int)))] ?_; clear HF; intro a HF
 replace HF := HF.as (t := 15) (u := vB (crcSum l / 256 % 256 : Nat)) rfl ((u8_mod (crcSum l / 256 % 256)).trans (by rw [Nat.mod_mod]))
 refine fp HF 2 10 [(17, vW (IntKind.u32.wrap (Int.tdiv (crcSum l : Int) 65536))), (16, vW (crcSum l))] ?_; clear HF; intro a HF
 replace HF := HF.as (t := 17) (u := vW ((crcSum l) / 65536 : Nat)) rfl (tdiv_nat .u32 65536 (by show _ ≤ 4294967295; omega))
 refine fp HF 1 12 [(18, vW (Int.tmod (((crcSum l) / 65536 : Nat) : Int) 256))] ?_; clear HF; intro a HF
 replace HF := HF.as (t := 18) (u := vW (((crcSum l) / 65536) % 256 : Nat)) rfl (tmod_nat .u32 _ 256)
 refine fp HF 1 13 [(19, vB (IntKind.u8.wrap ((((crcSum l) / 65536) % 256 : Nat) : Int)))] ?_; clear HF; intro a HF
 replace HF := HF.as (t := 19) (u := vB (crcSum l / 65536 % 256 : Nat)) rfl ((u8_mod (crcSum l / 65536 % 256)).trans (by rw [Nat.mod_mod]))
 refine fp HF 2 14 [(21, vW (IntKind.u32.wrap (Int.tdiv (crcSum l : Int) 16777216))), (20, vW (crcSum l))] ?_; clear HF; intro a HF
 replace HF := HF.as (t := 21) (u := vW ((crcSum l) / 16777216 : Nat)) rfl (tdiv_nat .u32 16777216 (by show _ ≤ 4294967295; omega))
 refine fp HF 1 16 [(22, vB (IntKind.u8.wrap (((crcSum l) / 16777216 : Nat) : Int)))] ?_; clear HF; intro a HF
 replace HF := HF.as (t := 22) (u := vB (((crcSum l) / 16777216) % 256 : Nat)) rfl (u8_mod ((crcSum l) / 16777216))
 refine from_op HF (i := 17) rfl rfl ?_
 refine e_slice HF HM (vs := [(0, vB (crcSum l % 256 : Nat)), (1, vB (crcSum l / 256 % 256 : Nat)), (2, vB (crcSum l / 65536 % 256 : Nat)), (3, vB (((crcSum l) / 16777216) % 256 : Nat))]) (cs := #[vB (crcSum l % 256 : Nat), vB (crcSum l / 256 % 256 : Nat), vB (crcSum l / 65536 % 256 : Nat), vB (((crcSum l) / 16777216) % 256 : Nat)]) rfl ei_u8 (by decide) rfl (by kernel_rfl) rfl (by decide) ?_
 clear HF HM; intro a w23 g23 HF HM
 refine from_op HF (i := 18) rfl rfl ?_
 refine e_append HF HM (i := 1) rfl ei_u8 rfl rfl rfl (news := ((le4 (crcSum l)).map B8)) (HM.rdBlk (i := 0) (n := 4) (size := 1) rfl rfl) (one_B8 _) (by omega) (by omega) rfl (by decide) ?_
 clear HF HM; intro a w24 A24 c24 HF HM hc24
 refine fp HF 1 19 [(2, .slice A24 (0 + n + 4) c24)] ?_; clear HF; intro a HF
 refine from_done rfl ?_
 replace HF := HF.to [(2, .slice A24 (0 + n + 4) c24), (0, .slice A n cp)]
 replace HM := HM.picks (fs' := [.row (.slice A24 (0 + n + 4) c24) (0 + n + 4) (([] ++ (l.map B8)) ++ ((le4 (crcSum l)).map B8)) 5 1]) [1] (by decide) rfl
 have hnA24 : 0 + n + 4 = (sealL l).length := by rw [seal_len]; omega
 replace HM := HM.reRow (i := 0) (ys := (sealL l).map B8) rfl hnA24 (by simp [sealL])
 rw [hnA24] at hc24
 replace HF := HF.as (t := 2) (u := .slice A24 ((sealL l).length) c24) rfl (by rw [hnA24])
 refine wp_ret ?_
 exact ret1 rfl HF (.tmp HF rfl) (⟨⟨_, _, rfl, HM.own (i := 0) rfl, hc24⟩, HM.below⟩)
theorem write01_is (x : Nat) (w : World) (hx : x < 18446744073709551616) : Calls Tryd.prog 49 #[.int .u64 (x : Int)] w (BytesOne w (vbytes x)) :=
  (write01_any x w hx).mono fun e w' ⟨v, h1, h2, h3⟩ => by
    obtain ⟨A, c, rfl, hc⟩ := own_slice h2
    exact ⟨⟨A, c, h1, h2, hc⟩, h3⟩
set_option maxRecDepth 100000 in
set_option maxHeartbeats 4000000 in
theorem wall01_any (A : Option Addr) (n c : Nat) (l : List Nat) (w : World) (hr : Rd w w.heap.size 1 A n (l.map U64)) (hln : l.length = n) (hl : ∀ x ∈ l, x < 18446744073709551616) (hn : n ≤ 1000000) :
    Calls Tryd.prog 50 #[.slice A n c] w (BytesOne w (l.flatMap vbytes)) := by
 refine calls_enter (vs := [.slice A n c]) Tryd.func50 rfl rfl (by kernel_rfl) (σ0 := [(0, .slice A n c)]) rfl ?_
 intro a HF
 have HM := Mem.start w
 refine wp_seq (from_start ?_)
 refine fp HF 1 0 [(2, .slice none 0 0)] ?_; clear HF; intro a HF
 refine from_done rfl ?_
 refine wp_seq (from_start ?_)
 refine fp HF 1 0 [(3, .slice none 0 0)] ?_; clear HF; intro a HF
 refine from_done rfl ?_
 replace HM := HM.nil 5 1
 refine wp_seq (wp_seq (from_start ?_))
 refine fp HF 1 0 [(4, vI 0)] ?_; clear HF; intro a HF
 refine from_done rfl ?_
 refine wp_block ?_
 refine loop_nat (fun mS aS wS => ∃ (k : Nat) (Ak : Option Addr) (ck : Nat), (k ≤ n) ∧ ((waUp l k).length ≤ ck) ∧ mS = n - k ∧ Fr aS 19 [] [(4, vI k), (3, .slice Ak ((waUp l k).length) ck), (2, .slice none 0 0), (0, .slice A n c)] ∧ Mem w wS [.row (.slice Ak ((waUp l k).length) ck) ((waUp l k).length) ((waUp l k).map B8) 5 1]) (m := n - 0) ⟨0, none, 0, Nat.zero_le _, Nat.le_refl _, rfl, HF.sub (by kernel_rfl), HM.picks [0] (by decide) rfl⟩ ?_
 clear HF HM; rintro mS a w_ ⟨k, Ak, ck, hk, hck, rfl, HF, HM⟩
 refine wp_seq (wp_seq (from_start ?_))
 refine fp HF 2 0 [(6, .slice A n c), (5, vI k)] ?_; clear HF; intro a HF
 refine fy HF HM 2 rfl rfl rfl (Yl.len rfl rfl (by kernel_rfl)) ?_; clear HF; intro a HF
 refine fp HF 1 3 [(8, .bool (decide ((k : Int) < (n : Int))))] ?_; clear HF; intro a HF
 refine from_done rfl ?_
 rcases Bool.eq_false_or_eq_true (decide ((k : Int) < (n : Int))) with hb8 | hb8
 ·have HF := HF.on 8 hb8
  have hd8 := of_decide_eq_true hb8
  have hk8 : k < n := by omega
  refine cond_true HF rfl (wp_skip (wp_seq (wp_block (from_start ?_))))
  refine fp HF 3 0 [(13, vI k), (12, .slice A n c), (11, .slice Ak ((waUp l k).length) ck)] ?_; clear HF; intro a HF
  obtain ⟨gA, oA, rfl, _⟩ := hr.some_at (Nat.lt_of_le_of_lt (Nat.zero_le _) (show k < n from by omega)) (by decide)
  refine fy HF HM 3 rfl rfl rfl (v := vP gA (oA + k * 1)) ((Yl.indexAddr (ad := ⟨gA, oA, none⟩) (y := k) (sz := 1) rfl rfl rfl (by omega) (by kernel_rfl)).as (by rw [Addr.add_mid])) ?_; clear HF; intro a HF
  have hx39 := getD_lt hl (k := k) (by first | omega | (simp; omega))
  refine fy HF HM 4 rfl rfl rfl (v := vQ (l.getD k 0)) (Yl.load1 rfl rfl (by kernel_rfl) (fun _ h => (h.old hr).oneAt1 (k := k) (map_at (F := U64) (k := k) (x := (l.getD k 0)) ((getD_at 0 (k := k) (by first | omega | (simp; omega))))))) ?_; clear HF; intro a HF
  refine from_op HF (i := 5) rfl rfl ?_
  refine e_call HF (vs := [vQ (l.getD k 0)]) rfl (by kernel_rfl) (by kernel_rfl) rfl (by decide) (write01_is (l.getD k 0) _ (hl _ (getD_mem 0 (by omega)))) ?_
  rintro _ w16 ⟨⟨A16, c16, rfl, ho, hc16⟩, hbw⟩
  refine ⟨_, rfl, ?_⟩
  replace HM := HM.callRow hbw ho
  clear HF; intro a HF
  refine from_op HF (i := 6) rfl rfl ?_
  refine e_append HF HM (i := 1) rfl ei_u8 rfl rfl rfl (news := ((vbytes (l.getD k 0)).map B8)) (HM.rd (i := 0) rfl) (one_B8 _) (by have := waUp_len l k; have := vbytes_length (l.getD k 0); omega) (by have := waUp_len l k; have := vbytes_length (l.getD k 0); omega) rfl (by decide) ?_
  clear HF HM; intro a w17 A17 c17 HF HM hc17
  refine fp HF 1 7 [(3, .slice A17 (((waUp l k).length) + (((vbytes (l.getD k 0))).length)) c17)] ?_; clear HF; intro a HF
  refine from_done rfl ?_
  replace HM := HM.picks (fs' := [.row (.slice A17 (((waUp l k).length) + (((vbytes (l.getD k 0))).length)) c17) (((waUp l k).length) + (((vbytes (l.getD k 0))).length)) (((waUp l k).map B8) ++ ((vbytes (l.getD k 0)).map B8)) 5 1]) [1] (by decide) rfl
  have hnA17 : ((waUp l k).length) + (((vbytes (l.getD k 0))).length) = (waUp l (k + 1)).length := by rw [waUp_succ (by omega)]; simp
  replace HM := HM.reRow (i := 0) (ys := (waUp l (k + 1)).map B8) rfl hnA17 (by rw [waUp_succ (by omega)]; simp)
  rw [hnA17] at hc17
  replace HF := HF.as (t := 3) (u := .slice A17 ((waUp l (k + 1)).length) c17) rfl (by rw [hnA17])
  replace HF := HF.as (t := 17) (u := .slice A17 ((waUp l (k + 1)).length) c17) rfl (by rw [hnA17])
  refine from_start ?_
  refine fp HF 2 0 [(10, vI (IntKind.i64.wrap ((k : Int) + 1))), (9, vI k)] ?_; clear HF; intro a HF
  replace HF := HF.as (t := 10) (u := vI (k + 1 : Nat)) rfl (i64_nat (by omega) (by omega))
  refine fp HF 1 2 [(4, vI (k + 1 : Nat))] ?_; clear HF; intro a HF
  refine from_done rfl ?_
  replace HF := HF.to [(4, vI (k + 1 : Nat)), (17, .slice A17 ((waUp l (k + 1)).length) c17), (3, .slice A17 ((waUp l (k + 1)).length) c17), (8, .bool true), (2, .slice none 0 0), (0, .slice (some ⟨gA, oA, none⟩) n c)]
  exact ⟨_, (by omega), k + 1, A17, c17, by omega, hc17, rfl, HF.sub (by kernel_rfl), HM.picks [0] (by decide) rfl⟩
 ·have HF := HF.on 8 hb8
  have hd8 := of_decide_eq_false hb8
  have hkn : k = n := by omega
  have hwa : waUp l k = l.flatMap vbytes := by unfold waUp; rw [List.take_of_length_le (by omega)]
  refine cond_false HF rfl (wp_exit (wp_seq (from_start ?_)))
  refine fp HF 2 0 [(2, .slice Ak ((waUp l k).length) ck), (18, .slice Ak ((waUp l k).length) ck)] ?_; clear HF; intro a HF
  refine from_done rfl ?_
  refine wp_ret ?_
  exact ret1 rfl HF (.tmp HF rfl) (bytesOne_row (HM.own (i := 0) rfl) hck (by rw [hwa]) hwa HM.below)
end Go.Proofs.YtnakabnmjnfpcaaDoor

namespace Go.Proofs.YtnakabnmjnfpcaaDoor
open Go.RowKit
end Go.Proofs.YtnakabnmjnfpcaaDoor

set_option linter.all false
namespace Go.Proofs.YtnakabnmjnfpcaaDoor
open Go.RowKit
end Go.Proofs.YtnakabnmjnfpcaaDoor

namespace Go.Proofs.YtnakabnmjnfpcaaDoor
open Go.RowKit
theorem ei_rev : EI Tryd.prog 37 65 (.agg Ev.zero.cells) 11 80 := ⟨by kernel_rfl, by kernel_rfl, rfl, by omega⟩
/-- The record as far as k values are written. -/
def putUp (b : Bs) (e : Ev) (k : Nat) : List Nat := [e.kind] ++ vbytes (e.seq - b.seq).toNat ++ vbytes (e.time - b.time).toNat ++ (e.vals.take k).flatMap vbytes
theorem putUp_zero (b : Bs) (e : Ev) : putUp b e 0 = [e.kind] ++ vbytes (e.seq - b.seq).toNat ++ vbytes (e.time - b.time).toNat := by simp [putUp]
theorem putUp_succ {b : Bs} {e : Ev} {k x : Nat} (h : e.vals[k]? = some x) : putUp b e (k + 1) = putUp b e k ++ vbytes x := by
  unfold putUp
  rw [List.take_add_one, h]
  simp
theorem putUp_all (b : Bs) (e : Ev) : putUp b e e.vals.length = recBytes b e := by
  unfold putUp recBytes recNums
  rw [List.take_length]
  simp
theorem putUp_len (b : Bs) (e : Ev) (k : Nat) : (putUp b e k).length ≤ 61 := by
  unfold putUp
  simp only [List.length_append, List.length_cons, List.length_nil]
  have h1 := vbytes_length (e.seq - b.seq).toNat
  have h2 := vbytes_length (e.time - b.time).toNat
  have h3 : ∀ l : List Nat, (l.flatMap vbytes).length ≤ l.length * 10 := by
    intro l
    induction l with
    | nil => simp
    | cons x r ih => rw [List.flatMap_cons, List.length_append, List.length_cons]; have := vbytes_length x; omega
  have h4 := h3 (e.vals.take k)
  have h5 := vals_len e
  rw [List.length_take] at h4
  omega
theorem rowGo_next {l : List Ev} {k : Nat} {e : Ev} (hk : l[k]? = some e) : rowGo (prevOf l k) k (l.drop k) = if e.check ≠ 0 then ((k : Int), e.check) else if (prevOf l k).all (fun q => e.after q) = false then ((k : Int), 71) else rowGo (prevOf l (k + 1)) (k + 1) (l.drop (k + 1)) := by
  obtain ⟨hl, he⟩ := List.getElem?_eq_some_iff.1 hk
  rw [List.drop_eq_getElem_cons hl, he, show prevOf l (k + 1) = some e from hk]
  rfl
end Go.Proofs.YtnakabnmjnfpcaaDoor

namespace Go.Proofs.YtnakabnmjnfpcaaDoor
open Go.RowKit
theorem bytesIs_none {w w' : World} {b : Bs} {l : List Ev} {er : Nat} (h : writeErr b l = er) (he : er ≠ 0) (hb : Below w.heap.size w w') : BytesIs w (writeErr b l) (writeOut b l) (.returned (.tuple #[.slice none 0 0, .int .i64 (er : Int)])) w' := by
  have ho : writeOut b l = [] := by unfold writeOut; rw [if_neg (by omega)]
  rw [ho, h]
  exact ⟨⟨none, 0, rfl, World.ownsRow_nil _ _ _ _, Nat.le_refl _⟩, hb⟩
theorem writeErr_row {b : Bs} {l : List Ev} (h : (rowR l).2 ≠ 0) : writeErr b l = (rowR l).2 := by unfold writeErr; rw [if_pos h]
theorem writeErr_base {b : Bs} {l : List Ev} (h : (rowR l).2 = 0) (hb : ¬ b.right = true) : writeErr b l = 70 := by unfold writeErr; rw [if_neg (by omega), if_neg (by simp [hb])]
theorem recsSnoc7 : ∀ (l : List Ev) (b : Bs) (e : Ev), recs b (l ++ [e]) = recs b l ++ recBytes (match l.getLast? with | some q => q.at | none => b) e
  | [], b, e => by simp [recs]
  | x :: l, b, e => by
    rw [List.cons_append, recs, recs, recsSnoc7 l x.at e, List.append_assoc]
    congr 2
    cases l with
    | nil => rfl
    | cons y r => simp only [List.getLast?_cons, Option.getD_some]
def writeUp (b : Bs) (l : List Ev) (k : Nat) : List Nat := recs b (l.take k)
theorem recsLen7 : ∀ (l : List Ev) (b : Bs), (recs b l).length ≤ 61 * l.length
  | [], _ => by simp [recs]
  | e :: l, b => by
    rw [recs, List.length_append, List.length_cons]
    have h1 := recsLen7 l e.at
    have h2 := rec_len b e
    omega
theorem writeUp_len (b : Bs) (l : List Ev) (k : Nat) : (writeUp b l k).length ≤ 61 * k := by
  have h1 := recsLen7 (l.take k) b
  have h2 : (l.take k).length ≤ k := by rw [List.length_take]; omega
  unfold writeUp
  omega
theorem putOut_le (b : Bs) (e : Ev) : (putOut b e).length ≤ 61 := by
  unfold putOut
  split
  · exact rec_len b e
  · simp
/-- What is known when k records are written. -/
structure WriteAt (b : Bs) (l : List Ev) (k : Nat) (bk : Bs) : Prop where
  base : bk = baseAt b l k
  head : 0 < k → l.head?.all b.behind = true
theorem WriteAt.start (b : Bs) (l : List Ev) : WriteAt b l 0 b := ⟨rfl, fun h => by omega⟩
section
variable {b bk : Bs} {l : List Ev} {k : Nat} {e : Ev}
theorem WriteAt.bad (h : WriteAt b l k bk) (hr : (rowR l).2 = 0) (hb : b.right = true) (hk : l[k]? = some e) (hp : putErr bk e ≠ 0) : k = 0 := by
  rcases Nat.eq_zero_or_pos k with h0 | h0
  · exact h0
  · obtain ⟨hl, he⟩ := List.getElem?_eq_some_iff.1 hk
    have := put_good hr hb (h.head h0) k hl
    rw [he, ← h.base] at this
    exact absurd this hp
theorem WriteAt.fail (h : WriteAt b l k bk) (hr : (rowR l).2 = 0) (hb : b.right = true) (hk : l[k]? = some e) (h0 : k = 0) (hp : putErr bk e ≠ 0) : writeErr b l = putErr bk e := by
  subst h0
  have hbk : bk = b := h.base
  subst hbk
  obtain ⟨g1, _, _⟩ := rowGo_good l none 0 hr
  have hc := g1 e (List.mem_of_getElem? hk)
  have hbh : ¬ bk.behind e = true := by
    intro h1
    unfold putErr at hp
    rw [if_neg (by simp [hc]), if_pos ⟨hb, h1⟩] at hp
    exact hp rfl
  have hh : l.head? = some e := by rw [List.head?_eq_getElem?]; exact hk
  unfold writeErr putErr
  rw [if_neg (by omega), if_neg (by simp [hh, hbh]), if_neg (by simp [hc]), if_neg (by simp [hbh])]
theorem WriteAt.up (h : WriteAt b l k bk) (hk : l[k]? = some e) (hp : putErr bk e = 0) : writeUp b l (k + 1) = writeUp b l k ++ putOut bk e := by
  obtain ⟨hl, he⟩ := List.getElem?_eq_some_iff.1 hk
  unfold writeUp putOut
  rw [List.take_add_one, hk, if_pos hp, h.base]
  show recs b (l.take k ++ [e]) = _
  rw [recsSnoc7]
  congr 2
  cases k with
  | zero => simp [baseAt]
  | succ j =>
    rw [show (l.take (j + 1)).getLast? = l[j]? from by rw [List.getLast?_take]; simp [List.getElem?_eq_getElem (show j < l.length by omega)]]
    rfl
theorem WriteAt.next (h : WriteAt b l k bk) (hk : l[k]? = some e) (hp : putErr bk e = 0) : WriteAt b l (k + 1) e.at := by
  refine ⟨by show e.at = (match l[k]? with | some e => e.at | none => b); rw [hk], fun _ => ?_⟩
  rcases Nat.eq_zero_or_pos k with h0 | h0
  · subst h0
    have hbk : bk = b := h.base
    subst hbk
    have hh : l.head? = some e := by rw [List.head?_eq_getElem?]; exact hk
    rw [hh]
    unfold putErr at hp
    split at hp
    · omega
    · split at hp
      · rename_i h1; exact h1.2
      · omega
  · exact h.head h0
theorem WriteAt.done {w w' : World} {n c : Nat} {A : Option Addr} (h : WriteAt b l n bk) (hr : (rowR l).2 = 0) (hb : b.right = true) (hln : l.length = n) (ho : w'.ownsRow w.heap.size 5 1 (.slice A (writeUp b l n).length c) (writeUp b l n).length ((writeUp b l n).map B8)) (hc : (writeUp b l n).length ≤ c) (hw : Below w.heap.size w w') :
    BytesIs w (writeErr b l) (writeOut b l) (.returned (.tuple #[.slice A (writeUp b l n).length c, .int .i64 0])) w' := by
  have hh : l.head?.all b.behind = true := by
    rcases Nat.eq_zero_or_pos n with h0 | h0
    · subst h0; rw [List.length_eq_zero_iff.1 hln]; rfl
    · exact h.head h0
  have he : writeErr b l = 0 := by unfold writeErr; rw [if_neg (by omega), if_pos ⟨hb, hh⟩]
  have hout : writeOut b l = writeUp b l n := by unfold writeOut writeUp; rw [if_pos he, ← hln, List.take_length]
  rw [he, hout]
  exact ⟨⟨A, c, rfl, ho, hc⟩, hw⟩
end
/-- What is known when some events are read. -/
structure ReadJn (b : Bs) (cpu : Nat) (m : Nat) (l : List Nat) (es : List Ev) (u : Nat) (bk : Bs) : Prop where
  fits : u ≤ l.length
  most : es.length ≤ u
  few : es.length ≤ m
  last : ∀ q, es.getLast? = some q → bk = q.at
  said : readGo cpu m b none l = joinE es u (readGo cpu (m - es.length) bk es.getLast? (l.drop u))
section
variable {b bk : Bs} {cpu m u L er : Nat} {l : List Nat} {es : List Ev} {e : Ev}
theorem ReadJn.start (b : Bs) (cpu m : Nat) (l : List Nat) : ReadJn b cpu m l [] 0 b := ⟨Nat.zero_le _, Nat.le_refl _, Nat.zero_le _, fun q h => by simp at h, (joinE_nil cpu m b none l).symm⟩
theorem ReadJn.bad (h : ReadJn b cpu m l es u bk) (hm : es.length < m) (hq : takeR bk cpu (l.drop u) = (e, L, er)) (he : er ≠ 0) : readGo cpu m b none l = ([], 0, er) := by
  rw [h.said, show m - es.length = (m - es.length - 1) + 1 by omega]
  exact joinE_bad hq he es u
theorem ReadJn.same (h : ReadJn b cpu m l es u bk) (hm : es.length < m) (hq : takeR bk cpu (l.drop u) = (e, L, 0)) (he : es.getLast?.any (fun q => decide (e.seq = q.seq)) = true) : readGo cpu m b none l = ([], 0, 71) := by
  rw [h.said, show m - es.length = (m - es.length - 1) + 1 by omega]
  exact joinE_same hq he es u
theorem ReadJn.next (h : ReadJn b cpu m l es u bk) (hm : es.length < m) (hq : takeR bk cpu (l.drop u) = (e, L, 0)) (he : es.getLast?.any (fun q => decide (e.seq = q.seq)) = false) : ReadJn b cpu m l (es ++ [e]) (u + L) e.at := by
  have h1 := takeR_len bk cpu (l.drop u)
  rw [hq, List.length_drop] at h1
  simp only at h1
  have h2 := h1.2 trivial
  have h3 := h.fits
  have h4 := h.most
  refine ⟨by omega, by simp; omega, by simp; omega, fun q hq => ?_, ?_⟩
  · simp at hq; rw [hq]
  · rw [h.said, show m - es.length = (m - es.length - 1) + 1 by omega, joinE_good hq he es u, List.drop_drop]
    simp [Nat.sub_sub]
theorem ReadJn.done (h : ReadJn b cpu m l es u bk) (hm : m ≤ es.length) : readGo cpu m b none l = (es, u, 0) := by
  rw [h.said, show m - es.length = 0 by omega]
  simp [readGo, joinE]
end
end Go.Proofs.YtnakabnmjnfpcaaDoor

namespace Go.Proofs.YtnakabnmjnfpcaaDoor
open Go.RowKit
end Go.Proofs.YtnakabnmjnfpcaaDoor

set_option linter.all false
namespace Go.Proofs.YtnakabnmjnfpcaaDoor
open Go.RowKit
end Go.Proofs.YtnakabnmjnfpcaaDoor

namespace Go.Proofs.YtnakabnmjnfpcaaDoor
open Go.RowKit
theorem chainCpu {cpu : Nat} : ∀ (l : List Ev) (p : Option Ev) (b : Bs), Chain cpu p b l → ∀ e ∈ l, e.cpu = cpu
  | [], _, _, _, e, he => by cases he
  | x :: r, p, b, h, e, he => by
    obtain ⟨h1, h2, h3, h4⟩ := h
    rcases List.mem_cons.1 he with rfl | he
    · exact h2
    · exact chainCpu r (some x) x.at h4 e he
theorem chainTake {cpu : Nat} : ∀ (l : List Ev) (p : Option Ev) (b : Bs) (k : Nat), Chain cpu p b l → Chain cpu p b (l.take k)
  | [], _, _, k, _ => by rw [List.take_nil]; trivial
  | _ :: _, _, _, 0, _ => trivial
  | e :: r, _, _, k + 1, h => ⟨h.1, h.2.1, h.2.2.1, chainTake r (some e) e.at k h.2.2.2⟩
theorem fits_two {b : Bk} (h : b.kind = 2) : b.fits = decide (1 ≤ b.next ∧ b.next ≤ 281474976710657 ∧ b.cpu = 0 ∧ b.lost = 0 ∧ b.evs.length = 0) := by
  unfold Bk.fits; rw [if_neg (by omega), if_pos h]; rfl
theorem fits_bad {b : Bk} (h2 : b.kind ≠ 2) (h : b.kind ≠ 1 ∨ 63 < b.cpu ∨ b.lost < 0 ∨ 281474976710656 < b.lost ∨ b.next ≠ 0 ∨ (b.lost = 0 ∧ b.evs.length = 0)) : b.fits = false := by
  unfold Bk.fits
  by_cases h1 : b.kind = 1
  · rw [if_pos h1]
    unfold Bk.fitsE
    rw [decide_eq_false_iff_not]
    rintro ⟨a1, a2, a3, a4, a5, a6⟩
    rcases h with h | h | h | h | h | ⟨h, h'⟩
    · exact h h1
    · omega
    · omega
    · omega
    · exact h a5
    · rw [headOk_nil h', decide_eq_true_eq] at a6
      omega
  · rw [if_neg h1, if_neg h2]
theorem fits_cpu {b : Bk} (hok : b.Ok) (h2 : b.kind ≠ 2) {k : Nat} (hk : k < b.evs.length) (h : (b.evs.getD k Ev.zero).cpu ≠ b.cpu) : b.fits = false := by
  rw [Bool.eq_false_iff]
  intro hf
  obtain ⟨h1, hE⟩ := fits_evs hf h2
  obtain ⟨e, r, g⟩ := fits_row hok hE (by omega)
  exact h (chainCpu _ _ _ g.chain _ (getD_mem Ev.zero hk))
theorem fits_rows {b : Bk} (h1 : b.kind = 1) (h2 : b.cpu ≤ 63) (h3 : 0 ≤ b.lost) (h4 : b.lost ≤ 281474976710656) (h5 : b.next = 0) (h6 : ¬ (b.lost = 0 ∧ b.evs.length = 0)) (hall : ∀ k, k < b.evs.length → (b.evs.getD k Ev.zero).cpu = b.cpu) :
    b.fits = decide ((rowR b.evs).2 = 0) := by
  have hh : b.headOk = true := by
    by_cases h : b.evs.length = 0
    · rw [headOk_nil h, decide_eq_true_eq]; omega
    · rw [headOk_cons h, decide_eq_true_eq]; exact hall 0 (by omega)
  unfold Bk.fits
  rw [if_pos h1]
  unfold Bk.fitsE
  rw [Bool.eq_iff_iff, decide_eq_true_eq, decide_eq_true_eq]
  exact ⟨fun h => h.1, fun h => ⟨h, by omega, h3, h4, h5, hh⟩⟩
def Bk.upto (b : Bk) (n : Nat) : Bk := ⟨b.kind, b.cpu, b.lost, b.next, b.evs.take n⟩
theorem upto_ok {b : Bk} (hok : b.Ok) (n : Nat) : (b.upto n).Ok := ⟨hok.kind, hok.cpu, hok.lost, hok.next, fun e he => hok.evs e (List.mem_of_mem_take he)⟩
theorem upto_len {b : Bk} {n : Nat} (h : n ≤ b.evs.length) : (b.upto n).evs.length = n := by show (b.evs.take n).length = n; rw [List.length_take]; omega
theorem upto_fits {b : Bk} (hok : b.Ok) (h : b.fits = true) {n : Nat} (h1 : 0 < n) (h2 : n ≤ b.evs.length) : (b.upto n).fits = true := by
  have hk : b.kind ≠ 2 := fun h2 => by
    have := fits_end h h2
    unfold Bk.fitsN at this
    rw [decide_eq_true_eq] at this
    omega
  obtain ⟨k1, hE⟩ := fits_evs h hk
  obtain ⟨e, r, g⟩ := fits_row hok hE (by omega)
  unfold Bk.fitsE at hE
  rw [decide_eq_true_eq] at hE
  obtain ⟨a1, a2, a3, a4, a5, a6⟩ := hE
  have hw := (write_fwd g.right (chainTake _ _ _ n g.chain)).1
  rw [fits_rows (b := b.upto n) k1 (by show b.cpu ≤ 63; omega) a3 a4 a5 (by rw [upto_len h2]; omega), decide_eq_true_eq]
  · show (rowR (b.evs.take n)).2 = 0
    rw [hw]
  · intro k hk
    exact chainCpu _ _ _ (chainTake _ _ _ n g.chain) _ (getD_mem Ev.zero hk)
theorem upto_len' {b : Bk} (hk : b.kind = 1) {n : Nat} (h1 : 0 < n) (h2 : n ≤ b.evs.length) : 12 + (b.upto n).body.length = b.sz n + (vbytes n).length := by
  have hb : (b.upto n).base = b.base := by
    unfold Bk.base Bk.upto
    cases hl : b.evs with
    | nil => simp
    | cons e r =>
      cases n with
      | zero => omega
      | succ j => rfl
  have hl2 := upto_len h2
  unfold Bk.body Bk.sz
  rw [if_neg (by show ¬ b.kind = 2; omega), hb]
  simp only [hl2]
  rw [if_neg (by omega)]
  show 12 + (vbytes b.cpu ++ vbytes b.lost.toNat ++ vbytes n ++ (vbytes b.base.seq.toNat ++ vbytes b.base.time.toNat ++ recs b.base (b.evs.take n))).length = _
  simp only [List.length_append]
  omega
theorem grpMono : ∀ (f x y : Nat), x ≤ y → (grp f x).length ≤ (grp f y).length
  | 0, x, y, _ => by simp [grp]
  | f + 1, x, y, h => by
    rcases Nat.lt_or_ge x 128 with h1 | h1
    · rw [grp_one f x h1]
      rcases Nat.lt_or_ge y 128 with h2 | h2
      · rw [grp_one f y h2]; simp
      · rw [grp_more f y h2]; simp
    · rw [grp_more f x h1, grp_more f y (by omega)]
      have := grpMono f (x / 128) (y / 128) (Nat.div_le_div_right h)
      simp only [List.length_cons]
      omega
theorem vbytesMono {x y : Nat} (h : x ≤ y) : (vbytes x).length ≤ (vbytes y).length := by unfold vbytes; rw [List.length_map, List.length_map]; exact grpMono 10 x y h
theorem szMono {b : Bk} {i j : Nat} (h : i ≤ j) : b.sz i ≤ b.sz j := by
  induction h with
  | refl => exact Nat.le_refl _
  | @step j _ ih =>
    refine Nat.le_trans ih ?_
    rcases Nat.lt_or_ge j b.evs.length with h1 | h1
    · rw [sz_succ h1]; omega
    · unfold Bk.sz
      rw [List.take_of_length_le h1, List.take_of_length_le (by omega : b.evs.length ≤ j + 1)]
      omega
theorem big_mono {b : Bk} {i j : Nat} (h : i ≤ j) (hj : b.big j = false) : b.big i = false := by
  unfold Bk.big at hj ⊢
  rw [decide_eq_false_iff_not] at hj ⊢
  have h1 := szMono (b := b) h
  have h2 := vbytesMono h
  omega
theorem fillN_ref {b : Bk} {n : Nat} (hn : n ≤ b.evs.length) (h1 : 0 < n → b.big n = false) (h2 : ∀ m, n < m → m ≤ b.evs.length → b.big m = true) : b.fillN = n := by
  have hno : ∀ i, i < n → b.big (i + 1) = false := fun i hi => big_mono (by omega) (h1 (by omega))
  rcases Nat.lt_or_ge n b.evs.length with h | h
  · exact fillN_at h hno (h2 _ (by omega) (by omega))
  · have : n = b.evs.length := by omega
    subst this
    exact fillN_all hno
end Go.Proofs.YtnakabnmjnfpcaaDoor

namespace Go.Proofs.YtnakabnmjnfpcaaDoor
open Go.RowKit
theorem si_rbk : SI Tryd.prog 39 5 := ⟨by kernel_rfl, by kernel_rfl⟩
theorem body_two {b : Bk} (hk : b.kind = 2) : vbytes b.next.toNat = b.body := by unfold Bk.body; rw [if_pos hk]
theorem body_none {b : Bk} (hk : b.kind ≠ 2) (h : b.evs.length = 0) : [b.cpu, b.lost.toNat, b.evs.length].flatMap vbytes = b.body := by
  unfold Bk.body
  rw [if_neg hk, if_pos h]
  simp
theorem body_rows {b : Bk} (hk : b.kind ≠ 2) (h : b.evs.length ≠ 0) : [b.cpu, b.lost.toNat, b.evs.length].flatMap vbytes ++ [(b.evs.getD 0 Ev.zero).seq.toNat, (b.evs.getD 0 Ev.zero).time.toNat].flatMap vbytes ++ recs b.base b.evs = b.body := by
  unfold Bk.body
  rw [if_neg hk, if_neg h, base_getD]
  simp
theorem raw10 (b : Bk) : ((#[Value.int .u8 (((b.body.length + 12) % 256 : Nat) : Int), .int .u8 (((b.body.length + 12) / 256 % 256 : Nat) : Int), .int .u8 (((b.body.length + 12) / 65536 % 256 : Nat) : Int), .int .u8 (((b.body.length + 12) / 16777216 % 256 : Nat) : Int), .int .u8 113, .int .u8 116, .int .u8 1, .int .u8 (b.kind : Int)] : Array Value).toList ++ b.body.map B8) = b.raw.map B8 := by
  unfold Bk.raw le4
  rw [Nat.add_comm 12]
  rfl
theorem bk_ok {w w' : World} {b : Bk} {A : Option Addr} {c : Nat} (h : b.err = 0) (ho : w'.ownsRow w.heap.size 5 1 (.slice A (sealL b.raw).length c) (sealL b.raw).length ((sealL b.raw).map B8)) (hc : (sealL b.raw).length ≤ c) (hb : Below w.heap.size w w') :
    BytesIs w b.err b.out (.returned (.tuple #[.slice A (sealL b.raw).length c, .int .i64 0])) w' :=
  BytesIs.as (er := 0) (R := sealL b.raw) ⟨⟨A, c, rfl, ho, hc⟩, hb⟩ h.symm (bk_out h).symm
/-- A block read, with events of the call's own. -/
def RBlkIs (w : World) (b : Bk) (r : Ending) (w' : World) : Prop :=
  (∃ A c, r = .returned (.agg (b.cells A c)) ∧ w'.ownsRow w.heap.size 65 11 (.slice A b.evs.length c) b.evs.length (b.evs.flatMap evL) ∧ b.evs.length ≤ c) ∧ Below w.heap.size w w'
end Go.Proofs.YtnakabnmjnfpcaaDoor

namespace Go.Proofs.YtnakabnmjnfpcaaDoor
open Go.RowKit
/-- The first k changed. -/
def updUp {α : Type} (f : α → α) (l : List α) (k : Nat) : List α := (l.take k).map f ++ l.drop k
theorem updUp_len {α : Type} (f : α → α) (l : List α) (k : Nat) : (updUp f l k).length = l.length := by
  unfold updUp
  rw [List.length_append, List.length_map, List.length_take, List.length_drop]
  omega
theorem updUp_zero {α : Type} (f : α → α) (l : List α) : updUp f l 0 = l := by simp [updUp]
theorem updUp_at {α : Type} (f : α → α) (l : List α) {k : Nat} (d : α) (h : k < l.length) : (updUp f l k)[k]? = some (l.getD k d) := by
  unfold updUp
  rw [List.getElem?_append_right (by rw [List.length_map, List.length_take]; omega), List.length_map, List.length_take, Nat.min_eq_left (by omega), Nat.sub_self, List.getElem?_drop, List.getD_eq_getElem?_getD, Nat.add_zero, List.getElem?_eq_getElem h]
  rfl
theorem updUp_getD {α : Type} (f : α → α) (l : List α) {k : Nat} (d : α) (h : k < l.length) : (updUp f l k).getD k d = l.getD k d := by
  rw [List.getD_eq_getElem?_getD, updUp_at f l d h]; rfl
theorem updUp_succ {α : Type} (f : α → α) (l : List α) {k : Nat} (d : α) (h : k < l.length) : (updUp f l k).set k (f (l.getD k d)) = updUp f l (k + 1) := by
  unfold updUp
  have hk : (l.take k).length = k := by rw [List.length_take]; omega
  have hd : l.drop k = l.getD k d :: l.drop (k + 1) := by
    rw [List.getD_eq_getElem?_getD, List.getElem?_eq_getElem h]
    exact List.drop_eq_getElem_cons h
  have ht : l.take (k + 1) = l.take k ++ [l.getD k d] := by
    rw [List.take_succ_eq_append_getElem h, List.getD_eq_getElem?_getD, List.getElem?_eq_getElem h]
    rfl
  rw [List.set_append, if_neg (by rw [List.length_map]; omega), List.length_map, hk, Nat.sub_self, hd, List.set_cons_zero, ht, List.map_append, List.append_assoc]
  rfl
def incB (x : Nat) : Nat := (x + 1) % 256
theorem evTake_succ {l : List Ev} {k : Nat} (h : k < l.length) : (l.take (k + 1)).flatMap evL = (l.take k).flatMap evL ++ evL (l.getD k Ev.zero) := by
  rw [List.take_succ_eq_append_getElem h, List.getD_eq_getElem?_getD, List.getElem?_eq_getElem h, List.flatMap_append]
  simp
theorem ev_ones (l : List Ev) : ∀ v ∈ l.flatMap evL, v.oneCell' = true := by
  intro v hv
  obtain ⟨e, _, hv⟩ := List.mem_flatMap.1 hv
  exact ev_one e v hv
/-- A block with events of the call's own. -/
def LBlkIs (w : World) (b : Bk) (r : Ending) (w' : World) : Prop :=
  (∃ A c, r = .returned (.agg (b.cells A c)) ∧ w'.ownsRow w.heap.size 46 11 (.slice A b.evs.length c) b.evs.length (b.evs.flatMap evL) ∧ b.evs.length ≤ c) ∧ Below w.heap.size w w'
end Go.Proofs.YtnakabnmjnfpcaaDoor

set_option linter.all false
namespace Go.Proofs.YtnakabnmjnfpcaaDoor
open Go.RowKit
set_option maxRecDepth 100000 in
set_option maxHeartbeats 4000000 in
theorem right07_any (b : Bs) (w : World) : Calls Tryd.prog 68 #[.agg b.cells] w (BoolPost w b.right) := by
 refine calls_enter (vs := [.agg b.cells]) Tryd.func68 rfl rfl (by kernel_rfl) (σ0 := [(0, .agg b.cells)]) rfl ?_
 intro a HF
 have HM := Mem.start w
 refine wp_seq (from_start ?_)
 refine from_op HF (i := 0) rfl rfl ?_
 refine e_box HF HM (cs := b.cells) rfl rfl rfl rfl (by decide) ?_
 clear HF HM; intro a w1 g1 HF HM
 refine fp HF 1 1 [(2, .bool false)] ?_; clear HF; intro a HF
 refine from_done rfl ?_
 refine wp_seq (from_start ?_)
 refine fp HF 1 0 [(3, vP g1 0)] ?_; clear HF; intro a HF
 refine fy HF HM 1 rfl rfl rfl (v := vI b.seq) (Yl.load1 rfl rfl (by kernel_rfl) (fun _ h => h.cell (i := 0) rfl (rfl))) ?_; clear HF; intro a HF
 refine fp HF 2 2 [(6, .bool (decide ((b.seq : Int) ≥ (1 : Int)))), (5, .bool (decide ((b.seq : Int) ≥ (1 : Int))))] ?_; clear HF; intro a HF
 rcases Bool.eq_false_or_eq_true (decide ((b.seq : Int) ≥ (1 : Int))) with hb6 | hb6
 ·have HF := HF.on 6 hb6
  refine fp HF 1 4 [(7, vP g1 0)] ?_; clear HF; intro a HF
  refine fy HF HM 5 rfl rfl rfl (v := vI b.seq) (Yl.load1 rfl rfl (by kernel_rfl) (fun _ h => h.cell (i := 0) rfl (rfl))) ?_; clear HF; intro a HF
  refine fp HF 3 6 [(11, .bool (decide ((b.seq : Int) ≤ (281474976710656 : Int)))), (10, .bool (decide ((b.seq : Int) ≤ (281474976710656 : Int)))), (9, .bool (decide ((b.seq : Int) ≤ (281474976710656 : Int))))] ?_; clear HF; intro a HF
  rcases Bool.eq_false_or_eq_true (decide ((b.seq : Int) ≤ (281474976710656 : Int))) with hb11 | hb11
  ·have HF := HF.on 11 hb11
   refine fp HF 1 9 [(12, vP g1 1)] ?_; clear HF; intro a HF
   refine fy HF HM 10 rfl rfl rfl (v := vI b.time) (Yl.load1 rfl rfl (by kernel_rfl) (fun _ h => h.cell (i := 0) rfl (rfl))) ?_; clear HF; intro a HF
   refine fp HF 3 11 [(16, .bool (decide ((b.time : Int) ≥ (0 : Int)))), (15, .bool (decide ((b.time : Int) ≥ (0 : Int)))), (14, .bool (decide ((b.time : Int) ≥ (0 : Int))))] ?_; clear HF; intro a HF
   rcases Bool.eq_false_or_eq_true (decide ((b.time : Int) ≥ (0 : Int))) with hb16 | hb16
   ·have HF := HF.on 16 hb16
    refine fp HF 1 14 [(17, vP g1 1)] ?_; clear HF; intro a HF
    refine fy HF HM 15 rfl rfl rfl (v := vI b.time) (Yl.load1 rfl rfl (by kernel_rfl) (fun _ h => h.cell (i := 0) rfl (rfl))) ?_; clear HF; intro a HF
    refine fp HF 3 16 [(2, .bool (decide ((b.time : Int) ≤ (281474976710656 : Int)))), (20, .bool (decide ((b.time : Int) ≤ (281474976710656 : Int)))), (19, .bool (decide ((b.time : Int) ≤ (281474976710656 : Int))))] ?_; clear HF; intro a HF
    refine from_done rfl ?_
    replace HF := HF.to [(2, .bool (decide ((b.time : Int) ≤ (281474976710656 : Int))))]
    replace HM := HM.picks (fs' := []) [] (by decide) rfl
    refine wp_ret ?_
    exact ret1 rfl HF (.tmp HF rfl) (⟨congrArg (fun b => Ending.returned (.bool b)) (by unfold Bs.right; rw [Bool.eq_iff_iff]; (try simp at hb6); (try simp at hb11); (try simp at hb16); (try simp); (try omega)), HM.below⟩)
   ·have HF := HF.on 16 hb16
    refine fp HF 5 14 [(2, .bool false), (20, .bool false), (19, undef), (18, undef), (17, undef)] ?_; clear HF; intro a HF
    refine from_done rfl ?_
    replace HF := HF.to [(2, .bool false)]
    replace HM := HM.picks (fs' := []) [] (by decide) rfl
    refine wp_ret ?_
    exact ret1 rfl HF (.tmp HF rfl) (⟨congrArg (fun b => Ending.returned (.bool b)) (by unfold Bs.right; rw [Bool.eq_iff_iff]; (try simp at hb6); (try simp at hb11); (try simp at hb16); (try simp); (try omega)), HM.below⟩)
  ·have HF := HF.on 11 hb11
   refine fp HF 10 9 [(2, .bool false), (20, .bool false), (19, undef), (18, undef), (17, undef), (16, .bool false), (15, .bool false), (14, undef), (13, undef), (12, undef)] ?_; clear HF; intro a HF
   refine from_done rfl ?_
   replace HF := HF.to [(2, .bool false)]
   replace HM := HM.picks (fs' := []) [] (by decide) rfl
   refine wp_ret ?_
   exact ret1 rfl HF (.tmp HF rfl) (⟨congrArg (fun b => Ending.returned (.bool b)) (by unfold Bs.right; rw [Bool.eq_iff_iff]; (try simp at hb6); (try simp at hb11); (try simp); (try omega)), HM.below⟩)
 ·have HF := HF.on 6 hb6
  refine fp HF 15 4 [(2, .bool false), (20, .bool false), (19, undef), (18, undef), (17, undef), (16, .bool false), (15, .bool false), (14, undef), (13, undef), (12, undef), (11, .bool false), (10, .bool false), (9, undef), (8, undef), (7, undef)] ?_; clear HF; intro a HF
  refine from_done rfl ?_
  replace HF := HF.to [(2, .bool false)]
  replace HM := HM.picks (fs' := []) [] (by decide) rfl
  refine wp_ret ?_
  exact ret1 rfl HF (.tmp HF rfl) (⟨congrArg (fun b => Ending.returned (.bool b)) (by unfold Bs.right; rw [Bool.eq_iff_iff]; (try simp at hb6); (try simp); (try omega)), HM.below⟩)
end Go.Proofs.YtnakabnmjnfpcaaDoor

set_option linter.all false
namespace Go.Proofs.YtnakabnmjnfpcaaDoor
open Go.RowKit
theorem u64_sub {x y : Int} (h : y ≤ x) (h2 : x - y < 9223372036854775808) : IntKind.u64.wrap (IntKind.i64.wrap (x - y)) = ((x - y).toNat : Int) := by
  rw [IntWalk.i64_in _ (by omega), IntKind.wrap_u64]; omega
theorem putErr_good {b : Bs} {e : Ev} (h : e.check = 0) (h2 : b.right = true ∧ b.behind e = true) : putErr b e = 0 := by unfold putErr; rw [if_neg (by simp [h]), if_pos h2]
theorem putOut_good {b : Bs} {e : Ev} (h : e.check = 0) (h2 : b.right = true ∧ b.behind e = true) : putOut b e = recBytes b e := by unfold putOut; rw [if_pos (putErr_good h h2)]
theorem putOut_bad {b : Bs} {e : Ev} (h : putErr b e ≠ 0) : putOut b e = [] := by unfold putOut; rw [if_neg h]
theorem vals_64 {e : Ev} (he : e.Ok) : ∀ x ∈ e.vals, x < 18446744073709551616 := by
  intro x hx
  unfold Ev.vals at hx
  obtain ⟨i, _, rfl⟩ := List.mem_map.1 hx
  have h1 := he.task.2; have h2 := he.group.2; have h3 := he.to.2; have h4 := he.weight.2; have h5 := he.ticks.2; have h6 := he.mask; have h7 := he.got.2
  unfold Ev.fld
  split <;> omega
set_option maxRecDepth 100000 in
set_option maxHeartbeats 4000000 in
theorem put07_any (b : Bs) (e : Ev) (he : e.Ok) (w : World) : Calls Tryd.prog 70 #[.agg b.cells, .agg e.cells] w (BytesIs w (putErr b e) (putOut b e)) := by
 refine calls_enter (vs := [.agg b.cells, .agg e.cells]) Tryd.func70 rfl rfl (by kernel_rfl) (σ0 := [(0, .agg b.cells), (1, .agg e.cells)]) rfl ?_
 intro a HF
 have HM := Mem.start w
 refine wp_seq (from_start ?_)
 refine from_op HF (i := 0) rfl rfl ?_
 refine e_box HF HM (cs := b.cells) rfl rfl rfl rfl (by decide) ?_
 clear HF HM; intro a w2 g2 HF HM
 refine from_op HF (i := 1) rfl rfl ?_
 refine e_box HF HM (cs := e.cells) rfl rfl rfl rfl (by decide) ?_
 clear HF HM; intro a w3 g3 HF HM
 refine fp HF 2 2 [(5, vI 0), (4, .slice none 0 0)] ?_; clear HF; intro a HF
 refine from_done rfl ?_
 refine wp_seq (from_start ?_)
 refine fy HF HM 0 rfl rfl rfl (v := .agg e.cells) (Yl.loadS rfl rfl ⟨(by kernel_rfl), (by kernel_rfl)⟩ rfl (fun _ h => range_of_block (h.blk (i := 0) rfl))) ?_; clear HF; intro a HF
 refine from_op HF (i := 1) rfl rfl ?_
 refine e_call HF (vs := [.agg e.cells]) rfl (by kernel_rfl) (by kernel_rfl) rfl (by decide) (values06_any e he _) ?_
 rintro _ w12 ⟨⟨v, rfl, ho⟩, hbw⟩
 obtain ⟨A12, c12, rfl, hc12⟩ := own_slice ho
 refine ⟨_, rfl, ?_⟩
 replace HM := HM.callRow hbw ho
 clear HF; intro a HF
 refine fp HF 5 2 [(7, vI e.check), (6, .slice A12 e.outVals.length c12), (14, vI e.check), (13, .slice A12 e.outVals.length c12), (10, .tuple #[.slice A12 e.outVals.length c12, vI e.check])] ?_; clear HF; intro a HF
 refine from_done rfl ?_
 refine wp_seq (wp_seq (from_start ?_))
 refine fp HF 2 0 [(16, .bool ((e.check : Int) != (0 : Int))), (15, vI e.check)] ?_; clear HF; intro a HF
 refine from_done rfl ?_
 rcases Bool.eq_false_or_eq_true ((e.check : Int) != (0 : Int)) with hb16 | hb16
 ·have HF := HF.on 16 hb16
  have hbad : e.check ≠ 0 := by rw [bne_iff_ne] at hb16; omega
  refine cond_true HF rfl (wp_seq (from_start ?_))
  refine fp HF 3 0 [(5, vI e.check), (4, .slice none 0 0), (17, vI e.check)] ?_; clear HF; intro a HF
  refine from_done rfl ?_
  refine wp_ret ?_
  exact ret2 rfl HF (.tmp HF rfl) (.tmp HF rfl) (⟨⟨none, 0, by rw [putOut_bad (by rw [show putErr b e = e.check from by unfold putErr; rw [if_pos hbad]]; exact hbad), show putErr b e = e.check from by unfold putErr; rw [if_pos hbad]]; rfl, by rw [putOut_bad (by rw [show putErr b e = e.check from by unfold putErr; rw [if_pos hbad]]; exact hbad)]; exact World.ownsRow_nil _ _ _ _, by rw [putOut_bad (by rw [show putErr b e = e.check from by unfold putErr; rw [if_pos hbad]]; exact hbad)]; exact Nat.le_refl _⟩, HM.below⟩)
 ·have HF := HF.on 16 hb16
  have hgood : e.check = 0 := by rw [bne_eq_false_iff_eq] at hb16; omega
  have hov : e.outVals = e.vals := by unfold Ev.outVals; rw [if_pos hgood]
  obtain ⟨_, _, _, q1, q2, q3, q4⟩ := ok_vals hgood
  have hvl := vals_len e
  rw [← hov] at hvl
  have hx64 := vals_64 he
  refine cond_false HF rfl (wp_skip (wp_seq ?_))
  refine cut_seq (fun aS wS => Fr aS 70 [] [(34, .bool (!(b.right && b.behind e))), (16, .bool false), (7, vI e.check), (6, .slice A12 e.outVals.length c12), (5, vI 0), (4, .slice none 0 0), (3, vP g3 0), (2, vP g2 0)] ∧ Mem w wS [.row (.slice A12 e.outVals.length c12) e.outVals.length (e.outVals.map U64) 44 1, .blk g3 e.cells 65, .blk g2 b.cells 89]) ?_ ?_
  ·
   refine from_start ?_
   refine fy HF HM 0 rfl rfl rfl (v := .agg b.cells) (Yl.loadS rfl rfl ⟨(by kernel_rfl), (by kernel_rfl)⟩ rfl (fun _ h => range_of_block (h.blk (i := 2) rfl))) ?_; clear HF; intro a HF
   refine from_op HF (i := 1) rfl rfl ?_
   refine e_call HF (vs := [.agg b.cells]) rfl (by kernel_rfl) (by kernel_rfl) rfl (by decide) (right07_any b _) ?_
   rintro _ w19 ⟨rfl, hbw⟩
   refine ⟨_, rfl, ?_⟩
   replace HM := HM.call hbw
   clear HF; intro a HF
   refine fp HF 2 2 [(21, .bool (!b.right)), (20, .bool (!b.right))] ?_; clear HF; intro a HF
   rcases Bool.eq_false_or_eq_true (!b.right) with hb21 | hb21
   ·have HF := HF.on 21 hb21
    refine fp HF 13 4 [(34, .bool true), (33, undef), (32, undef), (31, undef), (30, undef), (29, undef), (28, .bool true), (27, .bool true), (26, undef), (25, undef), (24, undef), (23, undef), (22, undef)] ?_; clear HF; intro a HF
    refine from_done rfl ?_
    replace HF := HF.to [(34, .bool true), (16, .bool false), (7, vI e.check), (6, .slice A12 e.outVals.length c12), (5, vI 0), (4, .slice none 0 0), (3, vP g3 0), (2, vP g2 0)]
    have HF := HF.as (t := 34) (u := .bool (!(b.right && b.behind e))) rfl (congrArg Value.bool (by unfold Bs.behind; (try simp at hb16); (try simp at hb21); rw [Bool.eq_iff_iff]; (try simp [hb16, hb21]); (try omega)))
    exact ⟨HF.sub (by kernel_rfl), HM.picks [0, 1, 2] (by decide) rfl⟩
   ·have HF := HF.on 21 hb21
    refine fp HF 1 4 [(22, vP g3 0)] ?_; clear HF; intro a HF
    refine fy HF HM 5 rfl rfl rfl (v := vI e.seq) (Yl.load1 rfl rfl (by kernel_rfl) (fun _ h => h.cell (i := 1) rfl (rfl))) ?_; clear HF; intro a HF
    refine fp HF 1 6 [(24, vP g2 0)] ?_; clear HF; intro a HF
    refine fy HF HM 7 rfl rfl rfl (v := vI b.seq) (Yl.load1 rfl rfl (by kernel_rfl) (fun _ h => h.cell (i := 2) rfl (rfl))) ?_; clear HF; intro a HF
    refine fp HF 3 8 [(28, .bool (decide ((e.seq : Int) < (b.seq : Int)))), (27, .bool (decide ((e.seq : Int) < (b.seq : Int)))), (26, .bool (decide ((e.seq : Int) < (b.seq : Int))))] ?_; clear HF; intro a HF
    rcases Bool.eq_false_or_eq_true (decide ((e.seq : Int) < (b.seq : Int))) with hb28 | hb28
    ·have HF := HF.on 28 hb28
     refine fp HF 6 11 [(34, .bool true), (33, undef), (32, undef), (31, undef), (30, undef), (29, undef)] ?_; clear HF; intro a HF
     refine from_done rfl ?_
     replace HF := HF.to [(34, .bool true), (16, .bool false), (7, vI e.check), (6, .slice A12 e.outVals.length c12), (5, vI 0), (4, .slice none 0 0), (3, vP g3 0), (2, vP g2 0)]
     have HF := HF.as (t := 34) (u := .bool (!(b.right && b.behind e))) rfl (congrArg Value.bool (by unfold Bs.behind; (try simp at hb16); (try simp at hb21); (try simp at hb28); rw [Bool.eq_iff_iff]; (try simp [hb16, hb21, hb28]); (try omega)))
     exact ⟨HF.sub (by kernel_rfl), HM.picks [0, 1, 2] (by decide) rfl⟩
    ·have HF := HF.on 28 hb28
     refine fp HF 1 11 [(29, vP g3 1)] ?_; clear HF; intro a HF
     refine fy HF HM 12 rfl rfl rfl (v := vI e.time) (Yl.load1 rfl rfl (by kernel_rfl) (fun _ h => h.cell (i := 1) rfl (rfl))) ?_; clear HF; intro a HF
     refine fp HF 1 13 [(31, vP g2 1)] ?_; clear HF; intro a HF
     refine fy HF HM 14 rfl rfl rfl (v := vI b.time) (Yl.load1 rfl rfl (by kernel_rfl) (fun _ h => h.cell (i := 2) rfl (rfl))) ?_; clear HF; intro a HF
     refine fp HF 2 15 [(34, .bool (decide ((e.time : Int) < (b.time : Int)))), (33, .bool (decide ((e.time : Int) < (b.time : Int))))] ?_; clear HF; intro a HF
     refine from_done rfl ?_
     replace HF := HF.to [(34, .bool (decide ((e.time : Int) < (b.time : Int)))), (16, .bool false), (7, vI e.check), (6, .slice A12 e.outVals.length c12), (5, vI 0), (4, .slice none 0 0), (3, vP g3 0), (2, vP g2 0)]
     have HF := HF.as (t := 34) (u := .bool (!(b.right && b.behind e))) rfl (congrArg Value.bool (by unfold Bs.behind; (try simp at hb16); (try simp at hb21); (try simp at hb28); rw [Bool.eq_iff_iff]; (try simp [hb16, hb21, hb28]); (try omega)))
     exact ⟨HF.sub (by kernel_rfl), HM.picks [0, 1, 2] (by decide) rfl⟩
  clear HF HM; rintro a w4 ⟨HF, HM⟩
  rcases Bool.eq_false_or_eq_true (!(b.right && b.behind e)) with hb34 | hb34
  ·have HF := HF.on 34 hb34
   have hrb : ¬ (b.right = true ∧ b.behind e = true) := by intro h; rw [h.1, h.2] at hb34; cases hb34
   refine cond_true HF rfl (wp_seq (from_start ?_))
   refine fp HF 2 0 [(5, vI 70), (4, .slice none 0 0)] ?_; clear HF; intro a HF
   refine from_done rfl ?_
   refine wp_ret ?_
   exact ret2 rfl HF (.tmp HF rfl) (.tmp HF rfl) (⟨⟨none, 0, by rw [putOut_bad (by rw [show putErr b e = 70 from by unfold putErr; rw [if_neg (by simp [hgood]), if_neg hrb]]; decide), show putErr b e = 70 from by unfold putErr; rw [if_neg (by simp [hgood]), if_neg hrb]]; rfl, by rw [putOut_bad (by rw [show putErr b e = 70 from by unfold putErr; rw [if_neg (by simp [hgood]), if_neg hrb]]; decide)]; exact World.ownsRow_nil _ _ _ _, by rw [putOut_bad (by rw [show putErr b e = 70 from by unfold putErr; rw [if_neg (by simp [hgood]), if_neg hrb]]; decide)]; exact Nat.le_refl _⟩, HM.below⟩)
  ·have HF := HF.on 34 hb34
   have hrb : b.right = true ∧ b.behind e = true := by simpa using hb34
   have hbr := hrb.1
   have hbb := hrb.2
   unfold Bs.right at hbr
   unfold Bs.behind at hbb
   simp only [decide_eq_true_eq] at hbr hbb
   refine cond_false HF rfl (wp_skip (wp_seq (from_start ?_)))
   refine fp HF 1 0 [(35, vP g3 3)] ?_; clear HF; intro a HF
   refine fy HF HM 1 rfl rfl rfl (v := vB e.kind) (Yl.load1 rfl rfl (by kernel_rfl) (fun _ h => h.cell (i := 1) rfl (rfl))) ?_; clear HF; intro a HF
   refine from_op HF (i := 2) rfl rfl ?_
   refine e_slice HF HM (vs := [(0, vB e.kind)]) (cs := #[vB e.kind]) rfl ei_u8 (by decide) rfl (by kernel_rfl) rfl (by decide) ?_
   clear HF HM; intro a w37 g37 HF HM
   refine fp HF 1 3 [(8, vS g37 1 1)] ?_; clear HF; intro a HF
   refine from_done rfl ?_
   refine wp_seq (from_start ?_)
   refine fp HF 2 0 [(39, vP g3 0), (38, vS g37 1 1)] ?_; clear HF; intro a HF
   refine fy HF HM 2 rfl rfl rfl (v := vI e.seq) (Yl.load1 rfl rfl (by kernel_rfl) (fun _ h => h.cell (i := 2) rfl (rfl))) ?_; clear HF; intro a HF
   refine fp HF 1 3 [(41, vP g2 0)] ?_; clear HF; intro a HF
   refine fy HF HM 4 rfl rfl rfl (v := vI b.seq) (Yl.load1 rfl rfl (by kernel_rfl) (fun _ h => h.cell (i := 3) rfl (rfl))) ?_; clear HF; intro a HF
   refine fp HF 2 5 [(44, vQ (IntKind.u64.wrap (IntKind.i64.wrap (e.seq - b.seq)))), (43, vI (IntKind.i64.wrap (e.seq - b.seq)))] ?_; clear HF; intro a HF
   replace HF := HF.as (t := 44) (u := vQ ((e.seq - b.seq).toNat)) rfl (by rw [u64_sub (by omega) (by omega)])
   refine from_op HF (i := 7) rfl rfl ?_
   refine e_call HF (vs := [vQ ((e.seq - b.seq).toNat)]) rfl (by kernel_rfl) (by kernel_rfl) rfl (by decide) (write01_any ((e.seq - b.seq).toNat) _ (by omega)) ?_
   rintro _ w45 ⟨v, rfl, ho, hbw⟩
   obtain ⟨A45, c45, rfl, hc45⟩ := own_slice ho
   have hl45 := vbytes_length ((e.seq - b.seq).toNat)
   refine ⟨_, rfl, ?_⟩
   replace HM := HM.callRow hbw ho
   clear HF; intro a HF
   refine from_op HF (i := 8) rfl rfl ?_
   replace HM := HM.blkRow (i := 1) (n := 1) (size := 1) rfl rfl (by decide)
   refine e_append HF HM (i := 1) rfl ei_u8 rfl rfl rfl (news := ((vbytes ((e.seq - b.seq).toNat)).map B8)) (HM.rd (i := 0) rfl) (one_B8 _) (by omega) (by omega) rfl (by decide) ?_
   clear HF HM; intro a w46 A46 c46 HF HM hc46
   refine fp HF 1 9 [(8, .slice A46 (1 + ((vbytes ((e.seq - b.seq).toNat)).length)) c46)] ?_; clear HF; intro a HF
   refine from_done rfl ?_
   replace HM := HM.picks (fs' := [.row (.slice A46 (1 + ((vbytes ((e.seq - b.seq).toNat)).length)) c46) (1 + ((vbytes ((e.seq - b.seq).toNat)).length)) (((#[vB e.kind]).toList) ++ ((vbytes ((e.seq - b.seq).toNat)).map B8)) 5 1, .row (.slice A12 e.outVals.length c12) e.outVals.length (e.outVals.map U64) 44 1, .blk g3 e.cells 65, .blk g2 b.cells 89]) [1, 2, 3, 4] (by decide) rfl
   refine wp_seq (from_start ?_)
   refine fp HF 2 0 [(48, vP g3 1), (47, .slice A46 (1 + ((vbytes ((e.seq - b.seq).toNat)).length)) c46)] ?_; clear HF; intro a HF
   refine fy HF HM 2 rfl rfl rfl (v := vI e.time) (Yl.load1 rfl rfl (by kernel_rfl) (fun _ h => h.cell (i := 2) rfl (rfl))) ?_; clear HF; intro a HF
   refine fp HF 1 3 [(50, vP g2 1)] ?_; clear HF; intro a HF
   refine fy HF HM 4 rfl rfl rfl (v := vI b.time) (Yl.load1 rfl rfl (by kernel_rfl) (fun _ h => h.cell (i := 3) rfl (rfl))) ?_; clear HF; intro a HF
   refine fp HF 2 5 [(53, vQ (IntKind.u64.wrap (IntKind.i64.wrap (e.time - b.time)))), (52, vI (IntKind.i64.wrap (e.time - b.time)))] ?_; clear HF; intro a HF
   replace HF := HF.as (t := 53) (u := vQ ((e.time - b.time).toNat)) rfl (by rw [u64_sub (by omega) (by omega)])
   refine from_op HF (i := 7) rfl rfl ?_
   refine e_call HF (vs := [vQ ((e.time - b.time).toNat)]) rfl (by kernel_rfl) (by kernel_rfl) rfl (by decide) (write01_any ((e.time - b.time).toNat) _ (by omega)) ?_
   rintro _ w54 ⟨v, rfl, ho, hbw⟩
   obtain ⟨A54, c54, rfl, hc54⟩ := own_slice ho
   have hl54 := vbytes_length ((e.time - b.time).toNat)
   refine ⟨_, rfl, ?_⟩
   replace HM := HM.callRow hbw ho
   clear HF; intro a HF
   refine from_op HF (i := 8) rfl rfl ?_
   refine e_append HF HM (i := 1) rfl ei_u8 rfl rfl rfl (news := ((vbytes ((e.time - b.time).toNat)).map B8)) (HM.rd (i := 0) rfl) (one_B8 _) (by omega) (by omega) rfl (by decide) ?_
   clear HF HM; intro a w55 A55 c55 HF HM hc55
   refine fp HF 1 9 [(8, .slice A55 ((1 + ((vbytes ((e.seq - b.seq).toNat)).length)) + ((vbytes ((e.time - b.time).toNat)).length)) c55)] ?_; clear HF; intro a HF
   refine from_done rfl ?_
   replace HF := HF.to [(8, .slice A55 ((1 + ((vbytes ((e.seq - b.seq).toNat)).length)) + ((vbytes ((e.time - b.time).toNat)).length)) c55), (34, .bool false), (16, .bool false), (7, vI e.check), (6, .slice A12 e.outVals.length c12), (5, vI 0), (4, .slice none 0 0), (3, vP g3 0), (2, vP g2 0)]
   replace HM := HM.picks (fs' := [.row (.slice A55 ((1 + ((vbytes ((e.seq - b.seq).toNat)).length)) + ((vbytes ((e.time - b.time).toNat)).length)) c55) ((1 + ((vbytes ((e.seq - b.seq).toNat)).length)) + ((vbytes ((e.time - b.time).toNat)).length)) ((((#[vB e.kind]).toList) ++ ((vbytes ((e.seq - b.seq).toNat)).map B8)) ++ ((vbytes ((e.time - b.time).toNat)).map B8)) 5 1, .row (.slice A12 e.outVals.length c12) e.outVals.length (e.outVals.map U64) 44 1, .blk g3 e.cells 65, .blk g2 b.cells 89]) [1, 2, 3, 4] (by decide) rfl
   have hn55 : (1 + ((vbytes ((e.seq - b.seq).toNat)).length)) + ((vbytes ((e.time - b.time).toNat)).length) = (putUp b e 0).length := by rw [putUp_zero]; simp; try omega
   rw [hn55] at HM hc55
   rw [show (((#[vB e.kind]).toList) ++ ((vbytes ((e.seq - b.seq).toNat)).map B8)) ++ ((vbytes ((e.time - b.time).toNat)).map B8) = (putUp b e 0).map B8 from by simp [putUp_zero, B8]] at HM
   replace HF := HF.as (t := 8) (u := .slice A55 ((putUp b e 0).length) c55) rfl (by rw [hn55])
   refine wp_seq (wp_seq (from_start ?_))
   refine fp HF 1 0 [(9, vI 0)] ?_; clear HF; intro a HF
   refine from_done rfl ?_
   refine wp_block ?_
   refine loop_nat (fun mS aS wS => ∃ (k : Nat) (Ak : Option Addr) (ck : Nat), (k ≤ e.outVals.length) ∧ ((putUp b e k).length ≤ ck) ∧ mS = e.outVals.length - k ∧ Fr aS 70 [] [(9, vI k), (8, .slice Ak ((putUp b e k).length) ck), (34, .bool false), (16, .bool false), (7, vI e.check), (6, .slice A12 e.outVals.length c12), (5, vI 0), (4, .slice none 0 0), (3, vP g3 0), (2, vP g2 0)] ∧ Mem w wS [.row (.slice Ak ((putUp b e k).length) ck) ((putUp b e k).length) ((putUp b e k).map B8) 5 1, .row (.slice A12 e.outVals.length c12) e.outVals.length (e.outVals.map U64) 44 1, .blk g3 e.cells 65, .blk g2 b.cells 89]) (m := e.outVals.length - 0) ⟨0, A55, c55, Nat.zero_le _, hc55, rfl, HF.sub (by kernel_rfl), HM.picks [0, 1, 2, 3] (by decide) rfl⟩ ?_
   clear HF HM; rintro mS a w_ ⟨k, Ak, ck, hk, hck, rfl, HF, HM⟩
   refine wp_seq (wp_seq (from_start ?_))
   refine fp HF 2 0 [(57, .slice A12 e.outVals.length c12), (56, vI k)] ?_; clear HF; intro a HF
   refine fy HF HM 2 rfl rfl rfl (Yl.len rfl rfl (by kernel_rfl)) ?_; clear HF; intro a HF
   refine fp HF 1 3 [(59, .bool (decide ((k : Int) < (e.outVals.length : Int))))] ?_; clear HF; intro a HF
   refine from_done rfl ?_
   rcases Bool.eq_false_or_eq_true (decide ((k : Int) < (e.outVals.length : Int))) with hb59 | hb59
   ·have HF := HF.on 59 hb59
    have hk59 : k < e.outVals.length := by simp only [decide_eq_true_eq] at hb59; omega
    obtain ⟨x, hx⟩ : ∃ x, e.vals[k]? = some x := ⟨_, List.getElem?_eq_getElem (by rw [← hov]; exact hk59)⟩
    have hpl := putUp_len b e k
    refine cond_true HF rfl (wp_skip (wp_seq (wp_block (from_start ?_))))
    refine fp HF 3 0 [(64, vI k), (63, .slice A12 e.outVals.length c12), (62, .slice Ak ((putUp b e k).length) ck)] ?_; clear HF; intro a HF
    obtain ⟨gA12, rfl⟩ := own_some (HM.own (i := 1) rfl) (Nat.lt_of_le_of_lt (Nat.zero_le _) (show k < e.outVals.length from hk59))
    refine fy HF HM 3 rfl rfl rfl (v := vP gA12 (k * 1)) ((Yl.indexAddr (ad := ⟨gA12, 0, none⟩) (y := k) (sz := 1) rfl rfl rfl (hk59) (by kernel_rfl)).as (by rw [Addr.add_mid, Nat.zero_add])) ?_; clear HF; intro a HF
    refine fy HF HM 4 rfl rfl rfl (v := vQ x) (Yl.load1 rfl rfl (by kernel_rfl) (fun _ h => h.rowOne (i := 1) rfl (k := k) (map_at (F := U64) (k := k) (x := x) (by rw [hov]; exact hx)))) ?_; clear HF; intro a HF
    refine from_op HF (i := 5) rfl rfl ?_
    refine e_call HF (vs := [vQ x]) rfl (by kernel_rfl) (by kernel_rfl) rfl (by decide) (write01_any x _ (hx64 _ (List.mem_of_getElem? hx))) ?_
    rintro _ w67 ⟨v, rfl, ho, hbw⟩
    obtain ⟨A67, c67, rfl, hc67⟩ := own_slice ho
    have hl67 := vbytes_length x
    refine ⟨_, rfl, ?_⟩
    replace HM := HM.callRow hbw ho
    clear HF; intro a HF
    refine from_op HF (i := 6) rfl rfl ?_
    refine e_append HF HM (i := 1) rfl ei_u8 rfl rfl rfl (news := ((vbytes x).map B8)) (HM.rd (i := 0) rfl) (one_B8 _) (by omega) (by omega) rfl (by decide) ?_
    clear HF HM; intro a w68 A68 c68 HF HM hc68
    refine fp HF 1 7 [(8, .slice A68 (((putUp b e k).length) + ((vbytes x).length)) c68)] ?_; clear HF; intro a HF
    refine from_done rfl ?_
    replace HM := HM.picks (fs' := [.row (.slice A68 (((putUp b e k).length) + ((vbytes x).length)) c68) (((putUp b e k).length) + ((vbytes x).length)) (((putUp b e k).map B8) ++ ((vbytes x).map B8)) 5 1, .row (vS gA12 e.outVals.length c12) e.outVals.length (e.outVals.map U64) 44 1, .blk g3 e.cells 65, .blk g2 b.cells 89]) [1, 2, 3, 4] (by decide) rfl
    have hn68 : ((putUp b e k).length) + ((vbytes x).length) = (putUp b e (k + 1)).length := by rw [putUp_succ hx]; simp
    rw [hn68] at HM hc68
    rw [show ((putUp b e k).map B8) ++ ((vbytes x).map B8) = (putUp b e (k + 1)).map B8 from by rw [putUp_succ hx, List.map_append]] at HM
    replace HF := HF.as (t := 8) (u := .slice A68 ((putUp b e (k + 1)).length) c68) rfl (by rw [hn68])
    replace HF := HF.as (t := 68) (u := .slice A68 ((putUp b e (k + 1)).length) c68) rfl (by rw [hn68])
    refine from_start ?_
    refine fp HF 2 0 [(61, vI (IntKind.i64.wrap ((k : Int) + 1))), (60, vI k)] ?_; clear HF; intro a HF
    replace HF := HF.as (t := 61) (u := vI (k + 1 : Nat)) rfl (by rw [IntWalk.i64_in _ (by omega)]; simp)
    refine fp HF 1 2 [(9, vI (k + 1 : Nat))] ?_; clear HF; intro a HF
    refine from_done rfl ?_
    replace HF := HF.to [(9, vI (k + 1 : Nat)), (68, .slice A68 ((putUp b e (k + 1)).length) c68), (8, .slice A68 ((putUp b e (k + 1)).length) c68), (59, .bool true), (34, .bool false), (16, .bool false), (7, vI e.check), (6, vS gA12 e.outVals.length c12), (5, vI 0), (4, .slice none 0 0), (3, vP g3 0), (2, vP g2 0)]
    exact ⟨_, (by omega), k + 1, A68, c68, hk59, hc68, rfl, HF.sub (by kernel_rfl), HM.picks [0, 1, 2, 3] (by decide) rfl⟩
   ·have HF := HF.on 59 hb59
    obtain rfl : k = e.vals.length := by rw [hov] at hb59 hk; simp only [decide_eq_false_iff_not] at hb59; omega
    refine cond_false HF rfl (wp_exit (wp_seq (from_start ?_)))
    refine fp HF 3 0 [(5, vI 0), (4, .slice Ak ((putUp b e e.vals.length).length) ck), (69, .slice Ak ((putUp b e e.vals.length).length) ck)] ?_; clear HF; intro a HF
    refine from_done rfl ?_
    refine wp_ret ?_
    exact ret2 rfl HF (.tmp HF rfl) (.tmp HF rfl) (⟨⟨Ak, ck, by rw [putOut_good hgood hrb, putErr_good hgood hrb, ← putUp_all]; rfl, by rw [putOut_good hgood hrb, ← putUp_all]; exact HM.own (i := 0) rfl, by rw [putOut_good hgood hrb, ← putUp_all]; exact hck⟩, HM.below⟩)
end Go.Proofs.YtnakabnmjnfpcaaDoor

set_option linter.all false
namespace Go.Proofs.YtnakabnmjnfpcaaDoor
open Go.RowKit
set_option maxRecDepth 100000 in
set_option maxHeartbeats 4000000 in
theorem row07_any (A : Option Addr) (n c : Nat) (l : List Ev) (hok : ∀ e ∈ l, e.Ok) (w : World) (hr : Rd w w.heap.size 11 A n (l.flatMap evL)) (hn : n ≤ 140737488355328) (hln : l.length = n) :
    Calls Tryd.prog 62 #[.slice A n c] w (RowPost w (rowR l)) := by
 refine calls_enter (vs := [.slice A n c]) Tryd.func62 rfl rfl (by kernel_rfl) (σ0 := [(0, .slice A n c)]) rfl ?_
 intro a HF
 have HM := Mem.start w
 refine wp_seq (from_start ?_)
 refine fp HF 2 0 [(3, vI 0), (2, vI 0)] ?_; clear HF; intro a HF
 refine from_done rfl ?_
 refine wp_seq (wp_seq (from_start ?_))
 refine fp HF 1 0 [(4, vI 0)] ?_; clear HF; intro a HF
 refine from_done rfl ?_
 refine wp_block ?_
 refine loop_nat (fun mS aS wS => ∃ (k : Nat), (k ≤ n) ∧ (rowR l = rowGo (prevOf l k) k (l.drop k)) ∧ mS = n - k ∧ Fr aS 66 [] [(4, vI k), (3, vI 0), (2, vI 0), (0, .slice A n c)] ∧ Mem w wS []) (m := n - 0) ⟨0, Nat.zero_le _, rfl, rfl, HF.sub (by kernel_rfl), HM.picks [] (by decide) rfl⟩ ?_
 clear HF HM; rintro mS a w_ ⟨k, hk, hj, rfl, HF, HM⟩
 refine wp_seq (wp_seq (from_start ?_))
 refine fp HF 2 0 [(7, .slice A n c), (6, vI k)] ?_; clear HF; intro a HF
 refine fy HF HM 2 rfl rfl rfl (Yl.len rfl rfl (by kernel_rfl)) ?_; clear HF; intro a HF
 refine fp HF 1 3 [(9, .bool (decide ((k : Int) < (n : Int))))] ?_; clear HF; intro a HF
 refine from_done rfl ?_
 rcases Bool.eq_false_or_eq_true (decide ((k : Int) < (n : Int))) with hb9 | hb9
 ·have HF := HF.on 9 hb9
  have hk9 : k < n := by simp at hb9; omega
  obtain ⟨e, hke⟩ : ∃ e, l[k]? = some e := ⟨_, List.getElem?_eq_getElem (by omega)⟩
  have hgo := rowGo_next hke
  refine cond_true HF rfl (wp_skip (wp_seq (wp_block (wp_seq (wp_seq (from_start ?_))))))
  refine fp HF 2 0 [(13, vI k), (12, .slice A n c)] ?_; clear HF; intro a HF
  obtain ⟨gA, oA, rfl, _⟩ := hr.some_at (Nat.lt_of_le_of_lt (Nat.zero_le _) (show k < n from hk9)) (by decide)
  refine fy HF HM 2 rfl rfl rfl (v := vP gA (oA + k * 11)) ((Yl.indexAddr (ad := ⟨gA, oA, none⟩) (y := k) (sz := 11) rfl rfl rfl (hk9) (by kernel_rfl)).as (by rw [Addr.add_mid])) ?_; clear HF; intro a HF
  refine fy HF HM 3 rfl rfl rfl (v := .agg e.cells) (Yl.loadS rfl rfl ⟨(by kernel_rfl), (by kernel_rfl)⟩ rfl (fun _ h => (h.old hr).structAt evL_len (hke))) ?_; clear HF; intro a HF
  refine from_op HF (i := 4) rfl rfl ?_
  refine e_call HF (vs := [.agg e.cells]) rfl (by kernel_rfl) (by kernel_rfl) rfl (by decide) (check06_any e (hok e (List.mem_of_getElem? hke)) _) ?_
  rintro _ w16 ⟨rfl, hbw⟩
  refine ⟨_, rfl, ?_⟩
  replace HM := HM.call hbw
  clear HF; intro a HF
  refine fp HF 1 5 [(5, vI e.check)] ?_; clear HF; intro a HF
  refine from_done rfl ?_
  refine wp_seq (from_start ?_)
  refine fp HF 2 0 [(18, .bool ((e.check : Int) != (0 : Int))), (17, vI e.check)] ?_; clear HF; intro a HF
  refine from_done rfl ?_
  rcases Bool.eq_false_or_eq_true ((e.check : Int) != (0 : Int)) with hb18 | hb18
  ·have HF := HF.on 18 hb18
   have hcb : e.check ≠ 0 := by rw [bne_iff_ne] at hb18; omega
   rw [if_pos hcb] at hgo
   refine cond_true HF rfl (wp_seq (from_start ?_))
   refine fp HF 4 0 [(3, vI e.check), (2, vI k), (20, vI e.check), (19, vI k)] ?_; clear HF; intro a HF
   refine from_done rfl ?_
   refine wp_ret ?_
   exact ret2 rfl HF (.tmp HF rfl) (.tmp HF rfl) (⟨by rw [hj, hgo]; (try rfl), HM.below⟩)
  ·have HF := HF.on 18 hb18
   have hcg : ¬ e.check ≠ 0 := by rw [bne_eq_false_iff_eq] at hb18; omega
   rw [if_neg hcg] at hgo
   refine cond_false HF rfl (wp_skip ?_)
   refine cut_seq (fun aS wS => Fr aS 66 [] [(64, .bool (!(prevOf l k).all (fun q => e.after q))), (18, .bool false), (5, vI e.check), (9, .bool true), (4, vI k), (3, vI 0), (2, vI 0), (0, .slice (some ⟨gA, oA, none⟩) n c)] ∧ Mem w wS []) ?_ ?_
   ·
    refine any_start (by kernel_rfl) (fun wS => Mem w wS []) [] ?_
    replace HM := HM.drew
    have HS := HM.picks (fs' := []) [] (by decide) rfl
    refine ap HF (fun _ => HS) [0, 1, 2] #[true, true, true, false, false, false, false, false, false, false, false, false, false, false, false, false, false, false, false, false, false, false, false, false, false, false, false, false, false, false, false, false, false, false, false, false, false, false, false, false, false, false, false, false] [(23, .bool (decide ((k : Int) > (0 : Int)))), (22, .bool (decide ((k : Int) > (0 : Int)))), (21, vI k)] ?_; clear HF; intro a HF
    rcases Bool.eq_false_or_eq_true (decide ((k : Int) > (0 : Int))) with hb23 | hb23
    ·have HF := HF.on 23 hb23
     have hk0 : 0 < k := by simp at hb23; omega
     obtain ⟨q, hq⟩ : ∃ q, l[k - 1]? = some q := ⟨_, List.getElem?_eq_getElem (by omega)⟩
     have hpv : prevOf l k = some q := by rw [← hq, show k = (k - 1) + 1 by omega]; rfl
     refine ap HF (fun _ => HS) [3, 4, 8, 9] #[true, true, true, true, true, false, false, false, true, true, false, false, false, false, false, false, false, false, false, false, false, false, false, false, false, false, false, false, false, false, false, false, false, false, false, false, false, false, false, false, false, false, false, false] [(30, vI k), (29, .slice (some ⟨gA, oA, none⟩) n c), (25, vI k), (24, .slice (some ⟨gA, oA, none⟩) n c)] ?_; clear HF; intro a HF
     refine ay HF HS 5 rfl rfl rfl (v := vP gA (oA + k * 11)) ((Yl.indexAddr (ad := ⟨gA, oA, none⟩) (y := k) (sz := 11) rfl rfl rfl (hk9) (by kernel_rfl)).as (by rw [Addr.add_mid])) ?_; clear HF; intro a HF
     refine ap HF (fun _ => HS) [6] #[true, true, true, true, true, true, true, false, true, true, false, false, false, false, false, false, false, false, false, false, false, false, false, false, false, false, false, false, false, false, false, false, false, false, false, false, false, false, false, false, false, false, false, false] [(27, vP gA (oA + k * 11 + 2))] ?_; clear HF; intro a HF
     refine ay HF HS 7 rfl rfl rfl (v := vB e.cpu) (Yl.load1 rfl rfl (by kernel_rfl) (fun _ h => (h.old hr).partAt evL_len (k := k) (j := 2) (x := e) (hke) rfl)) ?_; clear HF; intro a HF
     refine any_pure HF (fun _ => HS) (i := 10) rfl rfl (d := 31) rfl (by decide) (by kernel_rfl) (fun _ _ _ h => h) (v := vI (IntKind.i64.wrap ((k : Int) - 1))) (fun _ => Yl.pure (by kernel_rfl)) ?_; clear HF; intro a HF
     replace HF := HF.as (t := 31) (u := vI (k - 1 : Nat)) rfl (by rw [IntWalk.i64_in _ (by omega)]; congr 1; omega)
     refine ay HF HS 11 rfl rfl rfl (v := vP gA (oA + (k - 1) * 11)) ((Yl.indexAddr (ad := ⟨gA, oA, none⟩) (y := (k - 1)) (sz := 11) rfl rfl rfl (by omega) (by kernel_rfl)).as (by rw [Addr.add_mid])) ?_; clear HF; intro a HF
     refine ap HF (fun _ => HS) [12] #[true, true, true, true, true, true, true, true, true, true, true, true, true, false, false, false, false, false, false, false, false, false, false, false, false, false, false, false, false, false, false, false, false, false, false, false, false, false, false, false, false, false, false, false] [(33, vP gA (oA + (k - 1) * 11 + 2))] ?_; clear HF; intro a HF
     refine ay HF HS 13 rfl rfl rfl (v := vB q.cpu) (Yl.load1 rfl rfl (by kernel_rfl) (fun _ h => (h.old hr).partAt evL_len (k := (k - 1)) (j := 2) (x := q) (hq) rfl)) ?_; clear HF; intro a HF
     refine ap HF (fun _ => HS) [14, 15] #[true, true, true, true, true, true, true, true, true, true, true, true, true, true, true, true, false, false, false, false, false, false, false, false, false, false, false, false, false, false, false, false, false, false, false, false, false, false, false, false, false, false, false, false] [(36, .bool ((e.cpu : Int) != (q.cpu : Int))), (35, .bool ((e.cpu : Int) != (q.cpu : Int)))] ?_; clear HF; intro a HF
     rcases Bool.eq_false_or_eq_true ((e.cpu : Int) != (q.cpu : Int)) with hb36 | hb36
     ·have HF := HF.on 36 hb36
      refine ap HF (fun _ => HS) [16, 17, 18, 19, 20, 21, 22, 23, 24, 25, 26, 27, 28, 29, 30, 31, 32, 33, 34, 35, 36, 37, 38, 39, 40, 41, 42, 43] #[true, true, true, true, true, true, true, true, true, true, true, true, true, true, true, true, true, true, true, true, true, true, true, true, true, true, true, true, true, true, true, true, true, true, true, true, true, true, true, true, true, true, true, true] [(64, .bool true), (63, .bool true), (62, undef), (61, undef), (60, undef), (59, undef), (58, undef), (57, undef), (56, undef), (55, undef), (54, undef), (53, undef), (52, undef), (51, undef), (50, .bool true), (49, .bool true), (48, undef), (47, undef), (46, undef), (45, undef), (44, undef), (43, undef), (42, undef), (41, undef), (40, undef), (39, undef), (38, undef), (37, undef)] ?_; clear HF; intro a HF
      refine any_done (by kernel_rfl) ?_
      replace HF := HF.to [(64, .bool true), (18, .bool false), (5, vI e.check), (9, .bool true), (4, vI k), (3, vI 0), (2, vI 0), (0, .slice (some ⟨gA, oA, none⟩) n c)]
      have HF := HF.as (t := 64) (u := .bool (!(prevOf l k).all (fun q => e.after q))) rfl (congrArg Value.bool (by rw [hpv]; (try simp at hb9); (try simp at hb18); (try simp at hb23); (try simp at hb36); rw [Bool.eq_iff_iff]; simp [Ev.after]; try omega))
      exact ⟨HF.sub (by kernel_rfl), HM.picks [] (by decide) rfl⟩
     ·have HF := HF.on 36 hb36
      refine ap HF (fun _ => HS) [16, 17, 21, 22] #[true, true, true, true, true, true, true, true, true, true, true, true, true, true, true, true, true, true, false, false, false, true, true, false, false, false, false, false, false, false, false, false, false, false, false, false, false, false, false, false, false, false, false, false] [(43, vI k), (42, .slice (some ⟨gA, oA, none⟩) n c), (38, vI k), (37, .slice (some ⟨gA, oA, none⟩) n c)] ?_; clear HF; intro a HF
      refine ay HF HS 18 rfl rfl rfl (v := vP gA (oA + k * 11)) ((Yl.indexAddr (ad := ⟨gA, oA, none⟩) (y := k) (sz := 11) rfl rfl rfl (hk9) (by kernel_rfl)).as (by rw [Addr.add_mid])) ?_; clear HF; intro a HF
      refine ap HF (fun _ => HS) [19] #[true, true, true, true, true, true, true, true, true, true, true, true, true, true, true, true, true, true, true, true, false, true, true, false, false, false, false, false, false, false, false, false, false, false, false, false, false, false, false, false, false, false, false, false] [(40, vP gA (oA + k * 11))] ?_; clear HF; intro a HF
      refine ay HF HS 20 rfl rfl rfl (v := vI e.seq) (Yl.load1 rfl rfl (by kernel_rfl) (fun _ h => (by have := (h.old hr).partAt evL_len (k := k) (j := 0) (x := e) (hke) rfl; simpa using this))) ?_; clear HF; intro a HF
      refine any_pure HF (fun _ => HS) (i := 23) rfl rfl (d := 44) rfl (by decide) (by kernel_rfl) (fun _ _ _ h => h) (v := vI (IntKind.i64.wrap ((k : Int) - 1))) (fun _ => Yl.pure (by kernel_rfl)) ?_; clear HF; intro a HF
      replace HF := HF.as (t := 44) (u := vI (k - 1 : Nat)) rfl (by rw [IntWalk.i64_in _ (by omega)]; congr 1; omega)
      refine ay HF HS 24 rfl rfl rfl (v := vP gA (oA + (k - 1) * 11)) ((Yl.indexAddr (ad := ⟨gA, oA, none⟩) (y := (k - 1)) (sz := 11) rfl rfl rfl (by omega) (by kernel_rfl)).as (by rw [Addr.add_mid])) ?_; clear HF; intro a HF
      refine ap HF (fun _ => HS) [25] #[true, true, true, true, true, true, true, true, true, true, true, true, true, true, true, true, true, true, true, true, true, true, true, true, true, true, false, false, false, false, false, false, false, false, false, false, false, false, false, false, false, false, false, false] [(46, vP gA (oA + (k - 1) * 11))] ?_; clear HF; intro a HF
      refine ay HF HS 26 rfl rfl rfl (v := vI q.seq) (Yl.load1 rfl rfl (by kernel_rfl) (fun _ h => (by have := (h.old hr).partAt evL_len (k := (k - 1)) (j := 0) (x := q) (hq) rfl; simpa using this))) ?_; clear HF; intro a HF
      refine ap HF (fun _ => HS) [27, 28, 29] #[true, true, true, true, true, true, true, true, true, true, true, true, true, true, true, true, true, true, true, true, true, true, true, true, true, true, true, true, true, true, false, false, false, false, false, false, false, false, false, false, false, false, false, false] [(50, .bool (decide ((e.seq : Int) ≤ (q.seq : Int)))), (49, .bool (decide ((e.seq : Int) ≤ (q.seq : Int)))), (48, .bool (decide ((e.seq : Int) ≤ (q.seq : Int))))] ?_; clear HF; intro a HF
      rcases Bool.eq_false_or_eq_true (decide ((e.seq : Int) ≤ (q.seq : Int))) with hb50 | hb50
      ·have HF := HF.on 50 hb50
       refine ap HF (fun _ => HS) [30, 31, 32, 33, 34, 35, 36, 37, 38, 39, 40, 41, 42, 43] #[true, true, true, true, true, true, true, true, true, true, true, true, true, true, true, true, true, true, true, true, true, true, true, true, true, true, true, true, true, true, true, true, true, true, true, true, true, true, true, true, true, true, true, true] [(64, .bool true), (63, .bool true), (62, undef), (61, undef), (60, undef), (59, undef), (58, undef), (57, undef), (56, undef), (55, undef), (54, undef), (53, undef), (52, undef), (51, undef)] ?_; clear HF; intro a HF
       refine any_done (by kernel_rfl) ?_
       replace HF := HF.to [(64, .bool true), (18, .bool false), (5, vI e.check), (9, .bool true), (4, vI k), (3, vI 0), (2, vI 0), (0, .slice (some ⟨gA, oA, none⟩) n c)]
       have HF := HF.as (t := 64) (u := .bool (!(prevOf l k).all (fun q => e.after q))) rfl (congrArg Value.bool (by rw [hpv]; (try simp at hb9); (try simp at hb18); (try simp at hb23); (try simp at hb36); (try simp at hb50); rw [Bool.eq_iff_iff]; simp [Ev.after]; try omega))
       exact ⟨HF.sub (by kernel_rfl), HM.picks [] (by decide) rfl⟩
      ·have HF := HF.on 50 hb50
       refine ap HF (fun _ => HS) [30, 31, 35, 36] #[true, true, true, true, true, true, true, true, true, true, true, true, true, true, true, true, true, true, true, true, true, true, true, true, true, true, true, true, true, true, true, true, false, false, false, true, true, false, false, false, false, false, false, false] [(57, vI k), (56, .slice (some ⟨gA, oA, none⟩) n c), (52, vI k), (51, .slice (some ⟨gA, oA, none⟩) n c)] ?_; clear HF; intro a HF
       refine ay HF HS 32 rfl rfl rfl (v := vP gA (oA + k * 11)) ((Yl.indexAddr (ad := ⟨gA, oA, none⟩) (y := k) (sz := 11) rfl rfl rfl (hk9) (by kernel_rfl)).as (by rw [Addr.add_mid])) ?_; clear HF; intro a HF
       refine ap HF (fun _ => HS) [33] #[true, true, true, true, true, true, true, true, true, true, true, true, true, true, true, true, true, true, true, true, true, true, true, true, true, true, true, true, true, true, true, true, true, true, false, true, true, false, false, false, false, false, false, false] [(54, vP gA (oA + k * 11 + 1))] ?_; clear HF; intro a HF
       refine ay HF HS 34 rfl rfl rfl (v := vI e.time) (Yl.load1 rfl rfl (by kernel_rfl) (fun _ h => (h.old hr).partAt evL_len (k := k) (j := 1) (x := e) (hke) rfl)) ?_; clear HF; intro a HF
       refine any_pure HF (fun _ => HS) (i := 37) rfl rfl (d := 58) rfl (by decide) (by kernel_rfl) (fun _ _ _ h => h) (v := vI (IntKind.i64.wrap ((k : Int) - 1))) (fun _ => Yl.pure (by kernel_rfl)) ?_; clear HF; intro a HF
       replace HF := HF.as (t := 58) (u := vI (k - 1 : Nat)) rfl (by rw [IntWalk.i64_in _ (by omega)]; congr 1; omega)
       refine ay HF HS 38 rfl rfl rfl (v := vP gA (oA + (k - 1) * 11)) ((Yl.indexAddr (ad := ⟨gA, oA, none⟩) (y := (k - 1)) (sz := 11) rfl rfl rfl (by omega) (by kernel_rfl)).as (by rw [Addr.add_mid])) ?_; clear HF; intro a HF
       refine ap HF (fun _ => HS) [39] #[true, true, true, true, true, true, true, true, true, true, true, true, true, true, true, true, true, true, true, true, true, true, true, true, true, true, true, true, true, true, true, true, true, true, true, true, true, true, true, true, false, false, false, false] [(60, vP gA (oA + (k - 1) * 11 + 1))] ?_; clear HF; intro a HF
       refine ay HF HS 40 rfl rfl rfl (v := vI q.time) (Yl.load1 rfl rfl (by kernel_rfl) (fun _ h => (h.old hr).partAt evL_len (k := (k - 1)) (j := 1) (x := q) (hq) rfl)) ?_; clear HF; intro a HF
       refine ap HF (fun _ => HS) [41, 42, 43] #[true, true, true, true, true, true, true, true, true, true, true, true, true, true, true, true, true, true, true, true, true, true, true, true, true, true, true, true, true, true, true, true, true, true, true, true, true, true, true, true, true, true, true, true] [(64, .bool (decide ((e.time : Int) < (q.time : Int)))), (63, .bool (decide ((e.time : Int) < (q.time : Int)))), (62, .bool (decide ((e.time : Int) < (q.time : Int))))] ?_; clear HF; intro a HF
       refine any_done (by kernel_rfl) ?_
       replace HF := HF.to [(64, .bool (decide ((e.time : Int) < (q.time : Int)))), (18, .bool false), (5, vI e.check), (9, .bool true), (4, vI k), (3, vI 0), (2, vI 0), (0, .slice (some ⟨gA, oA, none⟩) n c)]
       have HF := HF.as (t := 64) (u := .bool (!(prevOf l k).all (fun q => e.after q))) rfl (congrArg Value.bool (by rw [hpv]; (try simp at hb9); (try simp at hb18); (try simp at hb23); (try simp at hb36); (try simp at hb50); rw [Bool.eq_iff_iff]; simp [Ev.after]; try omega))
       exact ⟨HF.sub (by kernel_rfl), HM.picks [] (by decide) rfl⟩
    ·have HF := HF.on 23 hb23
     have hpv : prevOf l k = none := by rw [show k = 0 by simp at hb23; omega]; rfl
     refine ap HF (fun _ => HS) [3, 4, 5, 6, 7, 8, 9, 10, 11, 12, 13, 14, 15, 16, 17, 18, 19, 20, 21, 22, 23, 24, 25, 26, 27, 28, 29, 30, 31, 32, 33, 34, 35, 36, 37, 38, 39, 40, 41, 42, 43] #[true, true, true, true, true, true, true, true, true, true, true, true, true, true, true, true, true, true, true, true, true, true, true, true, true, true, true, true, true, true, true, true, true, true, true, true, true, true, true, true, true, true, true, true] [(64, .bool false), (63, undef), (62, undef), (61, undef), (60, undef), (59, undef), (58, undef), (57, undef), (56, undef), (55, undef), (54, undef), (53, undef), (52, undef), (51, undef), (50, undef), (49, undef), (48, undef), (47, undef), (46, undef), (45, undef), (44, undef), (43, undef), (42, undef), (41, undef), (40, undef), (39, undef), (38, undef), (37, undef), (36, undef), (35, undef), (34, undef), (33, undef), (32, undef), (31, undef), (30, undef), (29, undef), (28, undef), (27, undef), (26, undef), (25, undef), (24, undef)] ?_; clear HF; intro a HF
     refine any_done (by kernel_rfl) ?_
     replace HF := HF.to [(64, .bool false), (18, .bool false), (5, vI e.check), (9, .bool true), (4, vI k), (3, vI 0), (2, vI 0), (0, .slice (some ⟨gA, oA, none⟩) n c)]
     have HF := HF.as (t := 64) (u := .bool (!(prevOf l k).all (fun q => e.after q))) rfl (congrArg Value.bool (by rw [hpv]; (try simp at hb9); (try simp at hb18); (try simp at hb23); rw [Bool.eq_iff_iff]; simp [Ev.after]; try omega))
     exact ⟨HF.sub (by kernel_rfl), HM.picks [] (by decide) rfl⟩
   clear HF HM; rintro a w7 ⟨HF, HM⟩
   rcases Bool.eq_false_or_eq_true (!(prevOf l k).all (fun q => e.after q)) with hb64 | hb64
   ·have HF := HF.on 64 hb64
    rw [if_pos (by simpa using hb64)] at hgo
    refine cond_true HF rfl (wp_seq (from_start ?_))
    refine fp HF 3 0 [(3, vI 71), (2, vI k), (65, vI k)] ?_; clear HF; intro a HF
    refine from_done rfl ?_
    refine wp_ret ?_
    exact ret2 rfl HF (.tmp HF rfl) (.tmp HF rfl) (⟨by rw [hj, hgo]; (try rfl), HM.below⟩)
   ·have HF := HF.on 64 hb64
    rw [if_neg (by simpa using hb64)] at hgo
    refine cond_false HF rfl (wp_skip (from_start ?_))
    refine fp HF 2 0 [(11, vI (IntKind.i64.wrap ((k : Int) + 1))), (10, vI k)] ?_; clear HF; intro a HF
    replace HF := HF.as (t := 11) (u := vI (k + 1 : Nat)) rfl (by rw [IntWalk.i64_in _ (by omega)]; simp)
    refine fp HF 1 2 [(4, vI (k + 1 : Nat))] ?_; clear HF; intro a HF
    refine from_done rfl ?_
    exact ⟨_, (by omega), k + 1, by omega, hj.trans hgo, rfl, HF.sub (by kernel_rfl), HM.picks [] (by decide) rfl⟩
 ·have HF := HF.on 9 hb9
  have hk9 : k = n := by simp at hb9; omega
  refine cond_false HF rfl (wp_exit (wp_seq (from_start ?_)))
  refine fp HF 2 0 [(3, vI 0), (2, vI (-1))] ?_; clear HF; intro a HF
  refine from_done rfl ?_
  refine wp_ret ?_
  exact ret2 rfl HF (.tmp HF rfl) (.tmp HF rfl) (⟨by rw [hj, hk9, List.drop_eq_nil_of_le (by omega)]; cases prevOf l n <;> rfl, HM.below⟩)
end Go.Proofs.YtnakabnmjnfpcaaDoor

set_option linter.all false
namespace Go.Proofs.YtnakabnmjnfpcaaDoor
open Go.RowKit
end Go.Proofs.YtnakabnmjnfpcaaDoor

set_option linter.all false
namespace Go.Proofs.YtnakabnmjnfpcaaDoor
open Go.RowKit
end Go.Proofs.YtnakabnmjnfpcaaDoor

set_option linter.all false
namespace Go.Proofs.YtnakabnmjnfpcaaDoor
open Go.RowKit
set_option maxRecDepth 100000 in
set_option maxHeartbeats 4000000 in
theorem write07_any (b : Bs) (A : Option Addr) (n c : Nat) (l : List Ev) (hok : ∀ e ∈ l, e.Ok) (w : World) (hr : Rd w w.heap.size 11 A n (l.flatMap evL)) (hn : n ≤ 1000000000) (hn47 : n ≤ 140737488355328) (hln : l.length = n) :
    Calls Tryd.prog 51 #[.agg b.cells, .slice A n c] w (BytesIs w (writeErr b l) (writeOut b l)) := by
 refine calls_enter (vs := [.agg b.cells, .slice A n c]) Tryd.func51 rfl rfl (by kernel_rfl) (σ0 := [(0, .agg b.cells), (1, .slice A n c)]) rfl ?_
 intro a HF
 have HM := Mem.start w
 refine wp_seq (from_start ?_)
 refine from_op HF (i := 0) rfl rfl ?_
 refine e_box HF HM (cs := b.cells) rfl rfl rfl rfl (by decide) ?_
 clear HF HM; intro a w2 g2 HF HM
 refine fp HF 2 1 [(5, vI 0), (4, .slice none 0 0)] ?_; clear HF; intro a HF
 refine from_done rfl ?_
 refine wp_seq (wp_seq (from_start ?_))
 refine fp HF 1 0 [(13, .slice A n c)] ?_; clear HF; intro a HF
 refine from_op HF (i := 1) rfl rfl ?_
 refine e_call HF (vs := [.slice A n c]) rfl (by kernel_rfl) (by kernel_rfl) rfl (by decide) (row07_any _ _ _ l hok _ (HM.old hr) hn47 hln) ?_
 rintro _ w14 ⟨rfl, hbw⟩
 refine ⟨_, rfl, ?_⟩
 replace HM := HM.call hbw
 clear HF; intro a HF
 refine fp HF 5 2 [(7, vI ((rowR l).2)), (6, vI ((rowR l).1)), (16, vI ((rowR l).2)), (15, vI ((rowR l).1)), (12, .tuple #[vI ((rowR l).1), vI ((rowR l).2)])] ?_; clear HF; intro a HF
 refine from_done rfl ?_
 refine wp_seq (from_start ?_)
 refine fp HF 2 0 [(18, .bool (((rowR l).2 : Int) != (0 : Int))), (17, vI ((rowR l).2))] ?_; clear HF; intro a HF
 refine from_done rfl ?_
 rcases Bool.eq_false_or_eq_true (((rowR l).2 : Int) != (0 : Int)) with hb18 | hb18
 ·have HF := HF.on 18 hb18
  have hr0 : (rowR l).2 ≠ 0 := by rw [bne_iff_ne] at hb18; omega
  refine cond_true HF rfl (wp_seq (from_start ?_))
  refine fp HF 3 0 [(5, vI ((rowR l).2)), (4, .slice none 0 0), (19, vI ((rowR l).2))] ?_; clear HF; intro a HF
  refine from_done rfl ?_
  refine wp_ret ?_
  exact ret2 rfl HF (.tmp HF rfl) (.tmp HF rfl) (bytesIs_none (writeErr_row hr0) (hr0) HM.below)
 ·have HF := HF.on 18 hb18
  have hr0 : (rowR l).2 = 0 := by rw [bne_eq_false_iff_eq] at hb18; omega
  refine cond_false HF rfl (wp_skip (wp_seq (wp_seq (from_start ?_))))
  refine fy HF HM 0 rfl rfl rfl (v := .agg b.cells) (Yl.loadS rfl rfl ⟨(by kernel_rfl), (by kernel_rfl)⟩ rfl (fun _ h => range_of_block (h.blk (i := 0) rfl))) ?_; clear HF; intro a HF
  refine from_op HF (i := 1) rfl rfl ?_
  refine e_call HF (vs := [.agg b.cells]) rfl (by kernel_rfl) (by kernel_rfl) rfl (by decide) (right07_any b _) ?_
  rintro _ w21 ⟨rfl, hbw⟩
  refine ⟨_, rfl, ?_⟩
  replace HM := HM.call hbw
  clear HF; intro a HF
  refine fp HF 1 2 [(22, .bool (!b.right))] ?_; clear HF; intro a HF
  refine from_done rfl ?_
  rcases Bool.eq_false_or_eq_true (!b.right) with hb22 | hb22
  ·have HF := HF.on 22 hb22
   have hrf : ¬ b.right = true := by simpa using hb22
   refine cond_true HF rfl (wp_seq (from_start ?_))
   refine fp HF 2 0 [(5, vI 70), (4, .slice none 0 0)] ?_; clear HF; intro a HF
   refine from_done rfl ?_
   refine wp_ret ?_
   exact ret2 rfl HF (.tmp HF rfl) (.tmp HF rfl) (bytesIs_none (writeErr_base hr0 hrf) (by decide) HM.below)
  ·have HF := HF.on 22 hb22
   have hrt : b.right = true := by simpa using hb22
   refine cond_false HF rfl (wp_skip (wp_seq (from_start ?_)))
   refine fp HF 1 0 [(8, .slice none 0 0)] ?_; clear HF; intro a HF
   refine from_done rfl ?_
   replace HM := HM.nil 5 1
   refine wp_seq (wp_seq (from_start ?_))
   refine fp HF 1 0 [(9, vI 0)] ?_; clear HF; intro a HF
   refine from_done rfl ?_
   refine wp_block ?_
   refine loop_nat (fun mS aS wS => ∃ (k : Nat) (bk : Bs) (Ak : Option Addr) (ck : Nat), (k ≤ n) ∧ (WriteAt b l k bk) ∧ ((writeUp b l k).length ≤ ck) ∧ mS = n - k ∧ Fr aS 56 [] [(9, vI k), (8, .slice Ak ((writeUp b l k).length) ck), (22, .bool false), (18, .bool false), (7, vI ((rowR l).2)), (5, vI 0), (4, .slice none 0 0), (2, vP g2 0), (1, .slice A n c)] ∧ Mem w wS [.row (.slice Ak ((writeUp b l k).length) ck) ((writeUp b l k).length) ((writeUp b l k).map B8) 5 1, .blk g2 bk.cells 89]) (m := n - 0) ⟨0, b, none, 0, Nat.zero_le _, WriteAt.start b l, Nat.le_refl _, rfl, HF.sub (by kernel_rfl), HM.picks [0, 1] (by decide) rfl⟩ ?_
   clear HF HM; rintro mS a w_ ⟨k, bk, Ak, ck, hk, hat, hck, rfl, HF, HM⟩
   refine wp_seq (wp_seq (from_start ?_))
   refine fp HF 2 0 [(24, .slice A n c), (23, vI k)] ?_; clear HF; intro a HF
   refine fy HF HM 2 rfl rfl rfl (Yl.len rfl rfl (by kernel_rfl)) ?_; clear HF; intro a HF
   refine fp HF 1 3 [(26, .bool (decide ((k : Int) < (n : Int))))] ?_; clear HF; intro a HF
   refine from_done rfl ?_
   rcases Bool.eq_false_or_eq_true (decide ((k : Int) < (n : Int))) with hb26 | hb26
   ·have HF := HF.on 26 hb26
    have hk26 : k < n := by simp at hb26; omega
    obtain ⟨e, hke⟩ : ∃ e, l[k]? = some e := ⟨_, List.getElem?_eq_getElem (by omega)⟩
    have hpl := putOut_le bk e
    have hwl := writeUp_len b l k
    refine cond_true HF rfl (wp_skip (wp_seq (wp_block (wp_seq ?_))))
    refine any_start (by kernel_rfl) (fun wS => Mem w wS [.row (.slice Ak ((writeUp b l k).length) ck) ((writeUp b l k).length) ((writeUp b l k).map B8) 5 1, .blk g2 bk.cells 89]) [] ?_
    replace HM := HM.drew
    have HS := HM.picks (fs' := [.row (.slice Ak ((writeUp b l k).length) ck) ((writeUp b l k).length) ((writeUp b l k).map B8) 5 1, .blk g2 bk.cells 89]) [0, 1] (by decide) rfl
    refine ap HF (fun _ => HS) [1, 2] #[false, true, true, false, false, false, false, false, false, false, false] [(32, vI k), (31, .slice A n c)] ?_; clear HF; intro a HF
    refine ay HF HS 0 rfl rfl rfl (v := .agg bk.cells) (Yl.loadS rfl rfl ⟨(by kernel_rfl), (by kernel_rfl)⟩ rfl (fun _ h => range_of_block (h.blk (i := 1) rfl))) ?_; clear HF; intro a HF
    obtain ⟨gA, oA, rfl, _⟩ := hr.some_at (Nat.lt_of_le_of_lt (Nat.zero_le _) (show k < n from hk26)) (by decide)
    refine ay HF HS 3 rfl rfl rfl (v := vP gA (oA + k * 11)) ((Yl.indexAddr (ad := ⟨gA, oA, none⟩) (y := k) (sz := 11) rfl rfl rfl (hk26) (by kernel_rfl)).as (by rw [Addr.add_mid])) ?_; clear HF; intro a HF
    refine ay HF HS 4 rfl rfl rfl (v := .agg e.cells) (Yl.loadS rfl rfl ⟨(by kernel_rfl), (by kernel_rfl)⟩ rfl (fun _ h => (h.old hr).structAt evL_len (hke))) ?_; clear HF; intro a HF
    refine any_all [5] (by kernel_rfl) rfl ?_
    refine all_cons ?_ all_nil
    refine any_op HF (i := 5) rfl rfl ?_
    refine e_call HF (vs := [.agg bk.cells, .agg e.cells]) rfl (by kernel_rfl) (by kernel_rfl) rfl (by decide) (put07_any bk e (hok e (List.mem_of_getElem? hke)) _) ?_
    rintro _ w35 ⟨⟨A35, c35, rfl, ho, hc35⟩, hbw⟩
    refine ⟨_, rfl, ?_⟩
    replace HM := HM.callRow hbw ho
    clear HF; intro a HF
    refine keepS (HM.picks [1, 2] (by decide) rfl) (fun HS => ?_)
    refine ap HF (fun _ => HS) [6, 7, 8, 9, 10] #[true, true, true, true, true, true, true, true, true, true, true] [(11, vI (putErr bk e)), (10, .slice A35 ((putOut bk e).length) c35), (37, vI (putErr bk e)), (36, .slice A35 ((putOut bk e).length) c35), (29, .tuple #[.slice A35 ((putOut bk e).length) c35, vI (putErr bk e)])] ?_; clear HF; intro a HF
    refine any_done (by kernel_rfl) ?_
    refine wp_seq (wp_seq (from_start ?_))
    refine fp HF 2 0 [(39, .bool ((putErr bk e : Int) != (0 : Int))), (38, vI (putErr bk e))] ?_; clear HF; intro a HF
    refine from_done rfl ?_
    rcases Bool.eq_false_or_eq_true ((putErr bk e : Int) != (0 : Int)) with hb39 | hb39
    ·have HF := HF.on 39 hb39
     have hpe : putErr bk e ≠ 0 := by rw [bne_iff_ne] at hb39; omega
     have hk00 : k = 0 := hat.bad hr0 hrt hke hpe
     have hend := hat.fail hr0 hrt hke hk00 hpe
     refine cond_true HF rfl (wp_seq (from_start ?_))
     refine fp HF 3 0 [(5, vI (putErr bk e)), (4, .slice none 0 0), (40, vI (putErr bk e))] ?_; clear HF; intro a HF
     refine from_done rfl ?_
     replace HF := HF.to [(5, vI (putErr bk e)), (4, .slice none 0 0), (39, .bool true), (11, vI (putErr bk e)), (10, .slice A35 ((putOut bk e).length) c35), (26, .bool true), (9, vI k), (8, .slice Ak ((writeUp b l k).length) ck), (22, .bool false), (18, .bool false), (7, vI ((rowR l).2)), (2, vP g2 0), (1, .slice (some ⟨gA, oA, none⟩) n c)]
     refine wp_ret ?_
     exact ret2 rfl HF (.tmp HF rfl) (.tmp HF rfl) (bytesIs_none (hend) (hpe) HM.below)
    ·have HF := HF.on 39 hb39
     have hpe : putErr bk e = 0 := by rw [bne_eq_false_iff_eq] at hb39; omega
     have hup := hat.up hke hpe
     have hnx := hat.next hke hpe
     refine cond_false HF rfl (wp_skip (wp_seq (from_start ?_)))
     refine fp HF 2 0 [(42, .slice A35 ((putOut bk e).length) c35), (41, .slice Ak ((writeUp b l k).length) ck)] ?_; clear HF; intro a HF
     refine from_op HF (i := 2) rfl rfl ?_
     refine e_append HF HM (i := 1) rfl ei_u8 rfl rfl rfl (news := ((putOut bk e).map B8)) (HM.rd (i := 0) rfl) (one_B8 _) (by omega) (by omega) rfl (by decide) ?_
     clear HF HM; intro a w43 A43 c43 HF HM hc43
     refine fp HF 1 3 [(8, .slice A43 (((writeUp b l k).length) + ((putOut bk e).length)) c43)] ?_; clear HF; intro a HF
     refine from_done rfl ?_
     replace HF := HF.to [(8, .slice A43 (((writeUp b l k).length) + ((putOut bk e).length)) c43), (39, .bool false), (11, vI (putErr bk e)), (10, .slice A35 ((putOut bk e).length) c35), (26, .bool true), (9, vI k), (22, .bool false), (18, .bool false), (7, vI ((rowR l).2)), (5, vI 0), (4, .slice none 0 0), (2, vP g2 0), (1, .slice (some ⟨gA, oA, none⟩) n c)]
     have hnA43 : ((writeUp b l k).length) + ((putOut bk e).length) = (writeUp b l (k + 1)).length := by rw [hup]; simp
     replace HM := HM.reRow (i := 1) (ys := (writeUp b l (k + 1)).map B8) rfl hnA43 (by rw [hup]; simp)
     rw [hnA43] at hc43
     replace HF := HF.as (t := 8) (u := .slice A43 ((writeUp b l (k + 1)).length) c43) rfl (by rw [hnA43])
     refine any_start (by kernel_rfl) (fun wS => Mem w wS [.row (.slice A35 ((putOut bk e).length) c35) ((putOut bk e).length) ((putOut bk e).map B8) 5 1, .row (.slice A43 ((writeUp b l (k + 1)).length) c43) ((writeUp b l (k + 1)).length) ((writeUp b l (k + 1)).map B8) 5 1, .blk g2 bk.cells 89]) [11] ?_
     replace HM := HM.drew
     have HS := HM.picks (fs' := [.row (.slice A35 ((putOut bk e).length) c35) ((putOut bk e).length) ((putOut bk e).map B8) 5 1, .row (.slice A43 ((writeUp b l (k + 1)).length) c43) ((writeUp b l (k + 1)).length) ((writeUp b l (k + 1)).map B8) 5 1, .blk g2 bk.cells 89]) [0, 1, 2] (by decide) rfl
     refine ap HF (fun _ => HS) [0, 1, 5, 6] #[true, true, false, false, false, true, true, false, false, false, false, false] [(50, vI k), (49, .slice (some ⟨gA, oA, none⟩) n c), (45, vI k), (44, .slice (some ⟨gA, oA, none⟩) n c)] ?_; clear HF; intro a HF
     refine ay HF HS 2 rfl rfl rfl (v := vP gA (oA + k * 11)) ((Yl.indexAddr (ad := ⟨gA, oA, none⟩) (y := k) (sz := 11) rfl rfl rfl (hk26) (by kernel_rfl)).as (by rw [Addr.add_mid])) ?_; clear HF; intro a HF
     refine ap HF (fun _ => HS) [3] #[true, true, true, true, false, true, true, false, false, false, false, false] [(47, vP gA (oA + k * 11))] ?_; clear HF; intro a HF
     refine ay HF HS 4 rfl rfl rfl (v := vI e.seq) (Yl.load1 rfl rfl (by kernel_rfl) (fun _ h => (by have := (h.old hr).partAt evL_len (k := k) (j := 0) (x := e) (hke) rfl; simpa using this))) ?_; clear HF; intro a HF
     refine ay HF HS 7 rfl rfl rfl (v := vP gA (oA + k * 11)) ((Yl.indexAddr (ad := ⟨gA, oA, none⟩) (y := k) (sz := 11) rfl rfl rfl (hk26) (by kernel_rfl)).as (by rw [Addr.add_mid])) ?_; clear HF; intro a HF
     refine ap HF (fun _ => HS) [8] #[true, true, true, true, true, true, true, true, true, false, false, false] [(52, vP gA (oA + k * 11 + 1))] ?_; clear HF; intro a HF
     refine ay HF HS 9 rfl rfl rfl (v := vI e.time) (Yl.load1 rfl rfl (by kernel_rfl) (fun _ h => (h.old hr).partAt evL_len (k := k) (j := 1) (x := e) (hke) rfl)) ?_; clear HF; intro a HF
     refine ay HF HS 10 rfl rfl rfl (v := .agg e.at.cells) ((Yl.build (vs := [(0, vI e.seq), (1, vI e.time)]) rfl (by kernel_rfl) (by kernel_rfl))) ?_; clear HF; intro a HF
     refine any_all [11] (by kernel_rfl) rfl ?_
     refine all_cons ?_ all_nil
     refine any_op HF (i := 11) rfl rfl ?_
     refine e_storeAll HF HM (i := 2) (cs := bk.cells) (ds := e.at.cells) rfl rfl rfl rfl ⟨(by kernel_rfl), (by kernel_rfl)⟩ rfl rfl (bs_one e.at) rfl ?_
     clear HM; intro w14_11 HM
     refine noS (by kernel_rfl) ?_
     refine any_done (by kernel_rfl) ?_
     refine from_start ?_
     refine fp HF 2 0 [(28, vI (IntKind.i64.wrap ((k : Int) + 1))), (27, vI k)] ?_; clear HF; intro a HF
     replace HF := HF.as (t := 28) (u := vI (k + 1 : Nat)) rfl (by rw [IntWalk.i64_in _ (by omega)]; simp)
     refine fp HF 1 2 [(9, vI (k + 1 : Nat))] ?_; clear HF; intro a HF
     refine from_done rfl ?_
     exact ⟨_, (by omega), k + 1, e.at, A43, c43, by omega, hnx, hc43, rfl, HF.sub (by kernel_rfl), HM.picks [1, 2] (by decide) rfl⟩
   ·have HF := HF.on 26 hb26
    obtain rfl : n = k := by simp at hb26; omega
    refine cond_false HF rfl (wp_exit (wp_seq (from_start ?_)))
    refine fp HF 3 0 [(5, vI 0), (4, .slice Ak ((writeUp b l n).length) ck), (55, .slice Ak ((writeUp b l n).length) ck)] ?_; clear HF; intro a HF
    refine from_done rfl ?_
    refine wp_ret ?_
    exact ret2 rfl HF (.tmp HF rfl) (.tmp HF rfl) (hat.done hr0 hrt hln (HM.own (i := 0) rfl) hck HM.below)
end Go.Proofs.YtnakabnmjnfpcaaDoor

set_option linter.all false
namespace Go.Proofs.YtnakabnmjnfpcaaDoor
open Go.RowKit
set_option maxRecDepth 100000 in
set_option maxHeartbeats 4000000 in
theorem fits10_any (b : Bk) (hok : b.Ok) (A : Option Addr) (c : Nat) (w : World) (hr : Rd w w.heap.size 11 A b.evs.length (b.evs.flatMap evL)) (hn : b.evs.length ≤ 1000000) :
    Calls Tryd.prog 40 #[.agg (b.cells A c)] w (Is w (.bool b.fits)) := by
 refine calls_enter (vs := [.agg (b.cells A c)]) Tryd.func40 rfl rfl (by kernel_rfl) (σ0 := [(0, .agg (b.cells A c))]) rfl ?_
 intro a HF
 have HM := Mem.start w
 refine wp_seq (from_start ?_)
 refine from_op HF (i := 0) rfl rfl ?_
 refine e_box HF HM (cs := (b.cells A c)) rfl rfl rfl rfl (by decide) ?_
 clear HF HM; intro a w1 g1 HF HM
 refine fp HF 1 1 [(2, .bool false)] ?_; clear HF; intro a HF
 refine from_done rfl ?_
 refine wp_seq (wp_seq (from_start ?_))
 refine fp HF 1 0 [(6, vP g1 0)] ?_; clear HF; intro a HF
 refine fy HF HM 1 rfl rfl rfl (v := vB b.kind) (Yl.load1 rfl rfl (by kernel_rfl) (fun _ h => h.cell (i := 0) rfl (rfl))) ?_; clear HF; intro a HF
 refine fp HF 1 2 [(8, .bool ((b.kind : Int) == (2 : Int)))] ?_; clear HF; intro a HF
 refine from_done rfl ?_
 rcases Bool.eq_false_or_eq_true ((b.kind : Int) == (2 : Int)) with hb8 | hb8
 ·have HF := HF.on 8 hb8
  have hd8 := eq_of_beq hb8
  refine cond_true HF rfl (wp_seq (from_start ?_))
  refine fp HF 1 0 [(9, vP g1 3)] ?_; clear HF; intro a HF
  refine fy HF HM 1 rfl rfl rfl (v := vI b.next) (Yl.load1 rfl rfl (by kernel_rfl) (fun _ h => h.cell (i := 0) rfl (rfl))) ?_; clear HF; intro a HF
  refine fp HF 2 2 [(12, .bool (decide ((b.next : Int) ≥ (1 : Int)))), (11, .bool (decide ((b.next : Int) ≥ (1 : Int))))] ?_; clear HF; intro a HF
  rcases Bool.eq_false_or_eq_true (decide ((b.next : Int) ≥ (1 : Int))) with hb12 | hb12
  ·have HF := HF.on 12 hb12
   have hd12 := of_decide_eq_true hb12
   refine fp HF 1 4 [(13, vP g1 3)] ?_; clear HF; intro a HF
   refine fy HF HM 5 rfl rfl rfl (v := vI b.next) (Yl.load1 rfl rfl (by kernel_rfl) (fun _ h => h.cell (i := 0) rfl (rfl))) ?_; clear HF; intro a HF
   refine fp HF 3 6 [(17, .bool (decide ((b.next : Int) ≤ (281474976710657 : Int)))), (16, .bool (decide ((b.next : Int) ≤ (281474976710657 : Int)))), (15, .bool (decide ((b.next : Int) ≤ (281474976710657 : Int))))] ?_; clear HF; intro a HF
   rcases Bool.eq_false_or_eq_true (decide ((b.next : Int) ≤ (281474976710657 : Int))) with hb17 | hb17
   ·have HF := HF.on 17 hb17
    have hd17 := of_decide_eq_true hb17
    refine fp HF 1 9 [(18, vP g1 1)] ?_; clear HF; intro a HF
    refine fy HF HM 10 rfl rfl rfl (v := vB b.cpu) (Yl.load1 rfl rfl (by kernel_rfl) (fun _ h => h.cell (i := 0) rfl (rfl))) ?_; clear HF; intro a HF
    refine fp HF 3 11 [(22, .bool ((b.cpu : Int) == (0 : Int))), (21, .bool ((b.cpu : Int) == (0 : Int))), (20, .bool ((b.cpu : Int) == (0 : Int)))] ?_; clear HF; intro a HF
    rcases Bool.eq_false_or_eq_true ((b.cpu : Int) == (0 : Int)) with hb22 | hb22
    ·have HF := HF.on 22 hb22
     have hd22 := eq_of_beq hb22
     refine fp HF 1 14 [(23, vP g1 2)] ?_; clear HF; intro a HF
     refine fy HF HM 15 rfl rfl rfl (v := vI b.lost) (Yl.load1 rfl rfl (by kernel_rfl) (fun _ h => h.cell (i := 0) rfl (rfl))) ?_; clear HF; intro a HF
     refine fp HF 3 16 [(27, .bool ((b.lost : Int) == (0 : Int))), (26, .bool ((b.lost : Int) == (0 : Int))), (25, .bool ((b.lost : Int) == (0 : Int)))] ?_; clear HF; intro a HF
     rcases Bool.eq_false_or_eq_true ((b.lost : Int) == (0 : Int)) with hb27 | hb27
     ·have HF := HF.on 27 hb27
      have hd27 := eq_of_beq hb27
      refine fp HF 1 19 [(28, vP g1 4)] ?_; clear HF; intro a HF
      refine fy HF HM 20 rfl rfl rfl (v := .slice A b.evs.length c) (Yl.load1 rfl rfl (by kernel_rfl) (fun _ h => h.cell (i := 0) rfl (rfl))) ?_; clear HF; intro a HF
      refine fy HF HM 21 rfl rfl rfl (Yl.len rfl rfl (by kernel_rfl)) ?_; clear HF; intro a HF
      refine fp HF 3 22 [(2, .bool ((b.evs.length : Int) == (0 : Int))), (32, .bool ((b.evs.length : Int) == (0 : Int))), (31, .bool ((b.evs.length : Int) == (0 : Int)))] ?_; clear HF; intro a HF
      refine from_done rfl ?_
      replace HF := HF.to [(2, .bool ((b.evs.length : Int) == (0 : Int))), (8, .bool true), (1, vP g1 0)]
      refine wp_ret ?_
      exact ret1 rfl HF (.tmp HF rfl) (⟨congrArg (fun x => Ending.returned (.bool x)) (by rw [fits_two (by omega), Bool.eq_iff_iff, beq_iff_eq, decide_eq_true_eq]; omega), HM.below⟩)
     ·have HF := HF.on 27 hb27
      have hd27 := ne_of_beq_false hb27
      refine fp HF 6 19 [(2, .bool false), (32, .bool false), (31, undef), (30, undef), (29, undef), (28, undef)] ?_; clear HF; intro a HF
      refine from_done rfl ?_
      replace HF := HF.to [(2, .bool false), (8, .bool true), (1, vP g1 0)]
      refine wp_ret ?_
      exact ret1 rfl HF (.tmp HF rfl) (⟨by rw [fits_two (by omega), decide_eq_false (by omega)], HM.below⟩)
    ·have HF := HF.on 22 hb22
     have hd22 := ne_of_beq_false hb22
     refine fp HF 11 14 [(2, .bool false), (32, .bool false), (31, undef), (30, undef), (29, undef), (28, undef), (27, .bool false), (26, .bool false), (25, undef), (24, undef), (23, undef)] ?_; clear HF; intro a HF
     refine from_done rfl ?_
     replace HF := HF.to [(2, .bool false), (8, .bool true), (1, vP g1 0)]
     refine wp_ret ?_
     exact ret1 rfl HF (.tmp HF rfl) (⟨by rw [fits_two (by omega), decide_eq_false (by omega)], HM.below⟩)
   ·have HF := HF.on 17 hb17
    have hd17 := of_decide_eq_false hb17
    refine fp HF 16 9 [(2, .bool false), (32, .bool false), (31, undef), (30, undef), (29, undef), (28, undef), (27, .bool false), (26, .bool false), (25, undef), (24, undef), (23, undef), (22, .bool false), (21, .bool false), (20, undef), (19, undef), (18, undef)] ?_; clear HF; intro a HF
    refine from_done rfl ?_
    replace HF := HF.to [(2, .bool false), (8, .bool true), (1, vP g1 0)]
    refine wp_ret ?_
    exact ret1 rfl HF (.tmp HF rfl) (⟨by rw [fits_two (by omega), decide_eq_false (by omega)], HM.below⟩)
  ·have HF := HF.on 12 hb12
   have hd12 := of_decide_eq_false hb12
   refine fp HF 21 4 [(2, .bool false), (32, .bool false), (31, undef), (30, undef), (29, undef), (28, undef), (27, .bool false), (26, .bool false), (25, undef), (24, undef), (23, undef), (22, .bool false), (21, .bool false), (20, undef), (19, undef), (18, undef), (17, .bool false), (16, .bool false), (15, undef), (14, undef), (13, undef)] ?_; clear HF; intro a HF
   refine from_done rfl ?_
   replace HF := HF.to [(2, .bool false), (8, .bool true), (1, vP g1 0)]
   refine wp_ret ?_
   exact ret1 rfl HF (.tmp HF rfl) (⟨by rw [fits_two (by omega), decide_eq_false (by omega)], HM.below⟩)
 ·have HF := HF.on 8 hb8
  have hd8 := ne_of_beq_false hb8
  refine cond_false HF rfl (wp_skip (wp_seq (wp_seq (from_start ?_))))
  refine fp HF 1 0 [(33, vP g1 0)] ?_; clear HF; intro a HF
  refine fy HF HM 1 rfl rfl rfl (v := vB b.kind) (Yl.load1 rfl rfl (by kernel_rfl) (fun _ h => h.cell (i := 0) rfl (rfl))) ?_; clear HF; intro a HF
  refine fp HF 2 2 [(36, .bool ((b.kind : Int) != (1 : Int))), (35, .bool ((b.kind : Int) != (1 : Int)))] ?_; clear HF; intro a HF
  rcases Bool.eq_false_or_eq_true ((b.kind : Int) != (1 : Int)) with hb36 | hb36
  ·have HF := HF.on 36 hb36
   have hd36 := bne_iff_ne.1 hb36
   refine fp HF 30 4 [(66, .bool true), (65, undef), (64, undef), (63, undef), (62, undef), (61, undef), (60, undef), (59, undef), (58, undef), (57, undef), (56, .bool true), (55, .bool true), (54, undef), (53, undef), (52, undef), (51, .bool true), (50, .bool true), (49, undef), (48, undef), (47, undef), (46, .bool true), (45, .bool true), (44, undef), (43, undef), (42, undef), (41, .bool true), (40, .bool true), (39, undef), (38, undef), (37, undef)] ?_; clear HF; intro a HF
   refine from_done rfl ?_
   replace HF := HF.to [(66, .bool true), (8, .bool false), (2, .bool false), (1, vP g1 0)]
   refine cond_true HF rfl (wp_seq (from_start ?_))
   refine fp HF 1 0 [(2, .bool false)] ?_; clear HF; intro a HF
   refine from_done rfl ?_
   refine wp_ret ?_
   exact ret1 rfl HF (.tmp HF rfl) (⟨by rw [fits_bad (by omega) (by omega)], HM.below⟩)
  ·have HF := HF.on 36 hb36
   have hd36 := bne_eq_false_iff_eq.1 hb36
   refine fp HF 1 4 [(37, vP g1 1)] ?_; clear HF; intro a HF
   refine fy HF HM 5 rfl rfl rfl (v := vB b.cpu) (Yl.load1 rfl rfl (by kernel_rfl) (fun _ h => h.cell (i := 0) rfl (rfl))) ?_; clear HF; intro a HF
   refine fp HF 3 6 [(41, .bool (decide ((b.cpu : Int) > (63 : Int)))), (40, .bool (decide ((b.cpu : Int) > (63 : Int)))), (39, .bool (decide ((b.cpu : Int) > (63 : Int))))] ?_; clear HF; intro a HF
   rcases Bool.eq_false_or_eq_true (decide ((b.cpu : Int) > (63 : Int))) with hb41 | hb41
   ·have HF := HF.on 41 hb41
    have hd41 := of_decide_eq_true hb41
    refine fp HF 25 9 [(66, .bool true), (65, undef), (64, undef), (63, undef), (62, undef), (61, undef), (60, undef), (59, undef), (58, undef), (57, undef), (56, .bool true), (55, .bool true), (54, undef), (53, undef), (52, undef), (51, .bool true), (50, .bool true), (49, undef), (48, undef), (47, undef), (46, .bool true), (45, .bool true), (44, undef), (43, undef), (42, undef)] ?_; clear HF; intro a HF
    refine from_done rfl ?_
    replace HF := HF.to [(66, .bool true), (8, .bool false), (2, .bool false), (1, vP g1 0)]
    refine cond_true HF rfl (wp_seq (from_start ?_))
    refine fp HF 1 0 [(2, .bool false)] ?_; clear HF; intro a HF
    refine from_done rfl ?_
    refine wp_ret ?_
    exact ret1 rfl HF (.tmp HF rfl) (⟨by rw [fits_bad (by omega) (by omega)], HM.below⟩)
   ·have HF := HF.on 41 hb41
    have hd41 := of_decide_eq_false hb41
    refine fp HF 1 9 [(42, vP g1 2)] ?_; clear HF; intro a HF
    refine fy HF HM 10 rfl rfl rfl (v := vI b.lost) (Yl.load1 rfl rfl (by kernel_rfl) (fun _ h => h.cell (i := 0) rfl (rfl))) ?_; clear HF; intro a HF
    refine fp HF 3 11 [(46, .bool (decide ((b.lost : Int) < (0 : Int)))), (45, .bool (decide ((b.lost : Int) < (0 : Int)))), (44, .bool (decide ((b.lost : Int) < (0 : Int))))] ?_; clear HF; intro a HF
    rcases Bool.eq_false_or_eq_true (decide ((b.lost : Int) < (0 : Int))) with hb46 | hb46
    ·have HF := HF.on 46 hb46
     have hd46 := of_decide_eq_true hb46
     refine fp HF 20 14 [(66, .bool true), (65, undef), (64, undef), (63, undef), (62, undef), (61, undef), (60, undef), (59, undef), (58, undef), (57, undef), (56, .bool true), (55, .bool true), (54, undef), (53, undef), (52, undef), (51, .bool true), (50, .bool true), (49, undef), (48, undef), (47, undef)] ?_; clear HF; intro a HF
     refine from_done rfl ?_
     replace HF := HF.to [(66, .bool true), (8, .bool false), (2, .bool false), (1, vP g1 0)]
     refine cond_true HF rfl (wp_seq (from_start ?_))
     refine fp HF 1 0 [(2, .bool false)] ?_; clear HF; intro a HF
     refine from_done rfl ?_
     refine wp_ret ?_
     exact ret1 rfl HF (.tmp HF rfl) (⟨by rw [fits_bad (by omega) (by omega)], HM.below⟩)
    ·have HF := HF.on 46 hb46
     have hd46 := of_decide_eq_false hb46
     refine fp HF 1 14 [(47, vP g1 2)] ?_; clear HF; intro a HF
     refine fy HF HM 15 rfl rfl rfl (v := vI b.lost) (Yl.load1 rfl rfl (by kernel_rfl) (fun _ h => h.cell (i := 0) rfl (rfl))) ?_; clear HF; intro a HF
     refine fp HF 3 16 [(51, .bool (decide ((b.lost : Int) > (281474976710656 : Int)))), (50, .bool (decide ((b.lost : Int) > (281474976710656 : Int)))), (49, .bool (decide ((b.lost : Int) > (281474976710656 : Int))))] ?_; clear HF; intro a HF
     rcases Bool.eq_false_or_eq_true (decide ((b.lost : Int) > (281474976710656 : Int))) with hb51 | hb51
     ·have HF := HF.on 51 hb51
      have hd51 := of_decide_eq_true hb51
      refine fp HF 15 19 [(66, .bool true), (65, undef), (64, undef), (63, undef), (62, undef), (61, undef), (60, undef), (59, undef), (58, undef), (57, undef), (56, .bool true), (55, .bool true), (54, undef), (53, undef), (52, undef)] ?_; clear HF; intro a HF
      refine from_done rfl ?_
      replace HF := HF.to [(66, .bool true), (8, .bool false), (2, .bool false), (1, vP g1 0)]
      refine cond_true HF rfl (wp_seq (from_start ?_))
      refine fp HF 1 0 [(2, .bool false)] ?_; clear HF; intro a HF
      refine from_done rfl ?_
      refine wp_ret ?_
      exact ret1 rfl HF (.tmp HF rfl) (⟨by rw [fits_bad (by omega) (by omega)], HM.below⟩)
     ·have HF := HF.on 51 hb51
      have hd51 := of_decide_eq_false hb51
      refine fp HF 1 19 [(52, vP g1 3)] ?_; clear HF; intro a HF
      refine fy HF HM 20 rfl rfl rfl (v := vI b.next) (Yl.load1 rfl rfl (by kernel_rfl) (fun _ h => h.cell (i := 0) rfl (rfl))) ?_; clear HF; intro a HF
      refine fp HF 3 21 [(56, .bool ((b.next : Int) != (0 : Int))), (55, .bool ((b.next : Int) != (0 : Int))), (54, .bool ((b.next : Int) != (0 : Int)))] ?_; clear HF; intro a HF
      rcases Bool.eq_false_or_eq_true ((b.next : Int) != (0 : Int)) with hb56 | hb56
      ·have HF := HF.on 56 hb56
       have hd56 := bne_iff_ne.1 hb56
       refine fp HF 10 24 [(66, .bool true), (65, undef), (64, undef), (63, undef), (62, undef), (61, undef), (60, undef), (59, undef), (58, undef), (57, undef)] ?_; clear HF; intro a HF
       refine from_done rfl ?_
       replace HF := HF.to [(66, .bool true), (8, .bool false), (2, .bool false), (1, vP g1 0)]
       refine cond_true HF rfl (wp_seq (from_start ?_))
       refine fp HF 1 0 [(2, .bool false)] ?_; clear HF; intro a HF
       refine from_done rfl ?_
       refine wp_ret ?_
       exact ret1 rfl HF (.tmp HF rfl) (⟨by rw [fits_bad (by omega) (by omega)], HM.below⟩)
      ·have HF := HF.on 56 hb56
       have hd56 := bne_eq_false_iff_eq.1 hb56
       refine fp HF 1 24 [(57, vP g1 2)] ?_; clear HF; intro a HF
       refine fy HF HM 25 rfl rfl rfl (v := vI b.lost) (Yl.load1 rfl rfl (by kernel_rfl) (fun _ h => h.cell (i := 0) rfl (rfl))) ?_; clear HF; intro a HF
       refine fp HF 2 26 [(60, .bool ((b.lost : Int) == (0 : Int))), (59, .bool ((b.lost : Int) == (0 : Int)))] ?_; clear HF; intro a HF
       rcases Bool.eq_false_or_eq_true ((b.lost : Int) == (0 : Int)) with hb60 | hb60
       ·have HF := HF.on 60 hb60
        have hd60 := eq_of_beq hb60
        refine fp HF 1 28 [(61, vP g1 4)] ?_; clear HF; intro a HF
        refine fy HF HM 29 rfl rfl rfl (v := .slice A b.evs.length c) (Yl.load1 rfl rfl (by kernel_rfl) (fun _ h => h.cell (i := 0) rfl (rfl))) ?_; clear HF; intro a HF
        refine fy HF HM 30 rfl rfl rfl (Yl.len rfl rfl (by kernel_rfl)) ?_; clear HF; intro a HF
        refine fp HF 3 31 [(66, .bool ((b.evs.length : Int) == (0 : Int))), (65, .bool ((b.evs.length : Int) == (0 : Int))), (64, .bool ((b.evs.length : Int) == (0 : Int)))] ?_; clear HF; intro a HF
        refine from_done rfl ?_
        replace HF := HF.to [(66, .bool ((b.evs.length : Int) == (0 : Int))), (8, .bool false), (2, .bool false), (1, vP g1 0)]
        rcases Bool.eq_false_or_eq_true ((b.evs.length : Int) == (0 : Int)) with hb66 | hb66
        ·have HF := HF.on 66 hb66
         have hd66 := eq_of_beq hb66
         refine cond_true HF rfl (wp_seq (from_start ?_))
         refine fp HF 1 0 [(2, .bool false)] ?_; clear HF; intro a HF
         refine from_done rfl ?_
         refine wp_ret ?_
         exact ret1 rfl HF (.tmp HF rfl) (⟨by rw [fits_bad (by omega) (by omega)], HM.below⟩)
        ·have HF := HF.on 66 hb66
         have hd66 := ne_of_beq_false hb66
         refine cond_false HF rfl (wp_skip (wp_seq (wp_seq (from_start ?_))))
         refine fp HF 1 0 [(3, vI 0)] ?_; clear HF; intro a HF
         refine from_done rfl ?_
         refine wp_block ?_
         refine loop_nat (fun mS aS wS => ∃ (k : Nat), (k ≤ b.evs.length) ∧ (∀ i, i < k → (b.evs.getD i Ev.zero).cpu = b.cpu) ∧ mS = b.evs.length - k ∧ Fr aS 91 [] [(3, vI k), (66, .bool false), (8, .bool false), (2, .bool false), (1, vP g1 0)] ∧ Mem w wS [.blk g1 (b.cells A c) 39]) (m := b.evs.length - 0) ⟨0, Nat.zero_le _, fun i hi => absurd hi (Nat.not_lt_zero _), rfl, HF.sub (by kernel_rfl), HM.picks [0] (by decide) rfl⟩ ?_
         clear HF HM; rintro mS a w_ ⟨k, hk, hall, rfl, HF, HM⟩
         refine wp_seq (wp_seq (from_start ?_))
         refine fp HF 2 0 [(68, vP g1 4), (67, vI k)] ?_; clear HF; intro a HF
         refine fy HF HM 2 rfl rfl rfl (v := .slice A b.evs.length c) (Yl.load1 rfl rfl (by kernel_rfl) (fun _ h => h.cell (i := 0) rfl (rfl))) ?_; clear HF; intro a HF
         refine fy HF HM 3 rfl rfl rfl (Yl.len rfl rfl (by kernel_rfl)) ?_; clear HF; intro a HF
         refine fp HF 1 4 [(71, .bool (decide ((k : Int) < (b.evs.length : Int))))] ?_; clear HF; intro a HF
         refine from_done rfl ?_
         rcases Bool.eq_false_or_eq_true (decide ((k : Int) < (b.evs.length : Int))) with hb71 | hb71
         ·have HF := HF.on 71 hb71
          have hd71 := of_decide_eq_true hb71
          refine cond_true HF rfl (wp_skip (wp_seq (wp_block (wp_seq ?_))))
          refine any_start (by kernel_rfl) (fun wS => Mem w wS [.blk g1 (b.cells A c) 39]) [] ?_
          replace HM := HM.drew
          have HS := HM.picks (fs' := [.blk g1 (b.cells A c) 39]) [0] (by decide) rfl
          refine ap HF (fun _ => HS) [0, 2, 6] #[true, false, true, false, false, false, true, false, false] [(80, vP g1 1), (76, vI k), (74, vP g1 4)] ?_; clear HF; intro a HF
          refine ay HF HS 1 rfl rfl rfl (v := .slice A b.evs.length c) (Yl.load1 rfl rfl (by kernel_rfl) (fun _ h => h.cell (i := 0) rfl (rfl))) ?_; clear HF; intro a HF
          obtain ⟨gA, oA, rfl, _⟩ := hr.some_at (Nat.lt_of_le_of_lt (Nat.zero_le _) (show k < b.evs.length from by omega)) (by decide)
          refine ay HF HS 3 rfl rfl rfl (v := vP gA (oA + k * 11)) ((Yl.indexAddr (ad := ⟨gA, oA, none⟩) (y := k) (sz := 11) rfl rfl rfl (by omega) (by kernel_rfl)).as (by rw [Addr.add_mid])) ?_; clear HF; intro a HF
          refine ap HF (fun _ => HS) [4] #[true, true, true, true, true, false, true, false, false] [(78, vP gA (oA + k * 11 + 2))] ?_; clear HF; intro a HF
          refine ay HF HS 5 rfl rfl rfl (v := vB ((b.evs.getD k Ev.zero).cpu)) (Yl.load1 rfl rfl (by kernel_rfl) (fun _ h => (h.old hr).partAt evL_len (k := k) (j := 2) (x := (b.evs.getD k Ev.zero)) ((getD_at Ev.zero (k := k) (by first | omega | (simp; omega)))) rfl)) ?_; clear HF; intro a HF
          refine ay HF HS 7 rfl rfl rfl (v := vB b.cpu) (Yl.load1 rfl rfl (by kernel_rfl) (fun _ h => h.cell (i := 0) rfl (rfl))) ?_; clear HF; intro a HF
          refine ap HF (fun _ => HS) [8] #[true, true, true, true, true, true, true, true, true] [(82, .bool (((b.evs.getD k Ev.zero).cpu : Int) != (b.cpu : Int)))] ?_; clear HF; intro a HF
          refine any_done (by kernel_rfl) ?_
          rcases Bool.eq_false_or_eq_true (((b.evs.getD k Ev.zero).cpu : Int) != (b.cpu : Int)) with hb82 | hb82
          ·have HF := HF.on 82 hb82
           have hd82 := bne_iff_ne.1 hb82
           refine cond_true HF rfl (wp_seq (from_start ?_))
           refine fp HF 1 0 [(2, .bool false)] ?_; clear HF; intro a HF
           refine from_done rfl ?_
           refine wp_ret ?_
           exact ret1 rfl HF (.tmp HF rfl) (⟨by rw [fits_cpu hok (by omega) (k := k) (by omega) (by omega)], HM.below⟩)
          ·have HF := HF.on 82 hb82
           have hd82 := bne_eq_false_iff_eq.1 hb82
           refine cond_false HF rfl (wp_skip (from_start ?_))
           refine fp HF 2 0 [(73, vI (IntKind.i64.wrap ((k : Int) + 1))), (72, vI k)] ?_; clear HF; intro a HF
           replace HF := HF.as (t := 73) (u := vI (k + 1 : Nat)) rfl (i64_nat (by omega) (by omega))
           refine fp HF 1 2 [(3, vI (k + 1 : Nat))] ?_; clear HF; intro a HF
           refine from_done rfl ?_
           replace HF := HF.to [(3, vI (k + 1 : Nat)), (82, .bool false), (71, .bool true), (66, .bool false), (8, .bool false), (2, .bool false), (1, vP g1 0)]
           exact ⟨_, (by omega), k + 1, by omega, fun i hi => (Nat.lt_succ_iff_lt_or_eq.1 hi).elim (hall i) (fun h => by subst h; omega), rfl, HF.sub (by kernel_rfl), HM.picks [0] (by decide) rfl⟩
         ·have HF := HF.on 71 hb71
          have hd71 := of_decide_eq_false hb71
          refine cond_false HF rfl (wp_exit (wp_seq (from_start ?_)))
          refine fp HF 1 0 [(84, vP g1 4)] ?_; clear HF; intro a HF
          refine fy HF HM 1 rfl rfl rfl (v := .slice A b.evs.length c) (Yl.load1 rfl rfl (by kernel_rfl) (fun _ h => h.cell (i := 0) rfl (rfl))) ?_; clear HF; intro a HF
          refine from_op HF (i := 2) rfl rfl ?_
          refine e_call HF (vs := [.slice A b.evs.length c]) rfl (by kernel_rfl) (by kernel_rfl) rfl (by decide) (row07_any _ _ _ b.evs hok.evs _ (HM.old hr) (by omega) rfl) ?_
          rintro _ w86 ⟨rfl, hbw⟩
          refine ⟨_, rfl, ?_⟩
          replace HM := HM.call hbw
          clear HF; intro a HF
          refine fp HF 5 3 [(5, vI ((rowR b.evs).2)), (4, vI ((rowR b.evs).1)), (88, vI ((rowR b.evs).2)), (87, vI ((rowR b.evs).1)), (83, .tuple #[vI ((rowR b.evs).1), vI ((rowR b.evs).2)])] ?_; clear HF; intro a HF
          refine from_done rfl ?_
          refine wp_seq (from_start ?_)
          refine fp HF 3 0 [(2, .bool (((rowR b.evs).2 : Int) == (0 : Int))), (90, .bool (((rowR b.evs).2 : Int) == (0 : Int))), (89, vI ((rowR b.evs).2))] ?_; clear HF; intro a HF
          refine from_done rfl ?_
          refine wp_ret ?_
          exact ret1 rfl HF (.tmp HF rfl) (⟨congrArg (fun x => Ending.returned (.bool x)) (by rw [fits_rows (by omega) (by omega) (by omega) (by omega) (by omega) (by omega) (fun i hi => hall i (by omega)), Bool.eq_iff_iff, beq_iff_eq, decide_eq_true_eq]; omega), HM.below⟩)
       ·have HF := HF.on 60 hb60
        have hd60 := ne_of_beq_false hb60
        refine fp HF 6 28 [(66, .bool false), (65, .bool false), (64, undef), (63, undef), (62, undef), (61, undef)] ?_; clear HF; intro a HF
        refine from_done rfl ?_
        replace HF := HF.to [(66, .bool false), (8, .bool false), (2, .bool false), (1, vP g1 0)]
        refine cond_false HF rfl (wp_skip (wp_seq (wp_seq (from_start ?_))))
        refine fp HF 1 0 [(3, vI 0)] ?_; clear HF; intro a HF
        refine from_done rfl ?_
        refine wp_block ?_
        refine loop_nat (fun mS aS wS => ∃ (k : Nat), (k ≤ b.evs.length) ∧ (∀ i, i < k → (b.evs.getD i Ev.zero).cpu = b.cpu) ∧ mS = b.evs.length - k ∧ Fr aS 91 [] [(3, vI k), (66, .bool false), (8, .bool false), (2, .bool false), (1, vP g1 0)] ∧ Mem w wS [.blk g1 (b.cells A c) 39]) (m := b.evs.length - 0) ⟨0, Nat.zero_le _, fun i hi => absurd hi (Nat.not_lt_zero _), rfl, HF.sub (by kernel_rfl), HM.picks [0] (by decide) rfl⟩ ?_
        clear HF HM; rintro mS a w_ ⟨k, hk, hall, rfl, HF, HM⟩
        refine wp_seq (wp_seq (from_start ?_))
        refine fp HF 2 0 [(68, vP g1 4), (67, vI k)] ?_; clear HF; intro a HF
        refine fy HF HM 2 rfl rfl rfl (v := .slice A b.evs.length c) (Yl.load1 rfl rfl (by kernel_rfl) (fun _ h => h.cell (i := 0) rfl (rfl))) ?_; clear HF; intro a HF
        refine fy HF HM 3 rfl rfl rfl (Yl.len rfl rfl (by kernel_rfl)) ?_; clear HF; intro a HF
        refine fp HF 1 4 [(71, .bool (decide ((k : Int) < (b.evs.length : Int))))] ?_; clear HF; intro a HF
        refine from_done rfl ?_
        rcases Bool.eq_false_or_eq_true (decide ((k : Int) < (b.evs.length : Int))) with hb71 | hb71
        ·have HF := HF.on 71 hb71
         have hd71 := of_decide_eq_true hb71
         refine cond_true HF rfl (wp_skip (wp_seq (wp_block (wp_seq ?_))))
         refine any_start (by kernel_rfl) (fun wS => Mem w wS [.blk g1 (b.cells A c) 39]) [] ?_
         replace HM := HM.drew
         have HS := HM.picks (fs' := [.blk g1 (b.cells A c) 39]) [0] (by decide) rfl
         refine ap HF (fun _ => HS) [0, 2, 6] #[true, false, true, false, false, false, true, false, false] [(80, vP g1 1), (76, vI k), (74, vP g1 4)] ?_; clear HF; intro a HF
         refine ay HF HS 1 rfl rfl rfl (v := .slice A b.evs.length c) (Yl.load1 rfl rfl (by kernel_rfl) (fun _ h => h.cell (i := 0) rfl (rfl))) ?_; clear HF; intro a HF
         obtain ⟨gA, oA, rfl, _⟩ := hr.some_at (Nat.lt_of_le_of_lt (Nat.zero_le _) (show k < b.evs.length from by omega)) (by decide)
         refine ay HF HS 3 rfl rfl rfl (v := vP gA (oA + k * 11)) ((Yl.indexAddr (ad := ⟨gA, oA, none⟩) (y := k) (sz := 11) rfl rfl rfl (by omega) (by kernel_rfl)).as (by rw [Addr.add_mid])) ?_; clear HF; intro a HF
         refine ap HF (fun _ => HS) [4] #[true, true, true, true, true, false, true, false, false] [(78, vP gA (oA + k * 11 + 2))] ?_; clear HF; intro a HF
         refine ay HF HS 5 rfl rfl rfl (v := vB ((b.evs.getD k Ev.zero).cpu)) (Yl.load1 rfl rfl (by kernel_rfl) (fun _ h => (h.old hr).partAt evL_len (k := k) (j := 2) (x := (b.evs.getD k Ev.zero)) ((getD_at Ev.zero (k := k) (by first | omega | (simp; omega)))) rfl)) ?_; clear HF; intro a HF
         refine ay HF HS 7 rfl rfl rfl (v := vB b.cpu) (Yl.load1 rfl rfl (by kernel_rfl) (fun _ h => h.cell (i := 0) rfl (rfl))) ?_; clear HF; intro a HF
         refine ap HF (fun _ => HS) [8] #[true, true, true, true, true, true, true, true, true] [(82, .bool (((b.evs.getD k Ev.zero).cpu : Int) != (b.cpu : Int)))] ?_; clear HF; intro a HF
         refine any_done (by kernel_rfl) ?_
         rcases Bool.eq_false_or_eq_true (((b.evs.getD k Ev.zero).cpu : Int) != (b.cpu : Int)) with hb82 | hb82
         ·have HF := HF.on 82 hb82
          have hd82 := bne_iff_ne.1 hb82
          refine cond_true HF rfl (wp_seq (from_start ?_))
          refine fp HF 1 0 [(2, .bool false)] ?_; clear HF; intro a HF
          refine from_done rfl ?_
          refine wp_ret ?_
          exact ret1 rfl HF (.tmp HF rfl) (⟨by rw [fits_cpu hok (by omega) (k := k) (by omega) (by omega)], HM.below⟩)
         ·have HF := HF.on 82 hb82
          have hd82 := bne_eq_false_iff_eq.1 hb82
          refine cond_false HF rfl (wp_skip (from_start ?_))
          refine fp HF 2 0 [(73, vI (IntKind.i64.wrap ((k : Int) + 1))), (72, vI k)] ?_; clear HF; intro a HF
          replace HF := HF.as (t := 73) (u := vI (k + 1 : Nat)) rfl (i64_nat (by omega) (by omega))
          refine fp HF 1 2 [(3, vI (k + 1 : Nat))] ?_; clear HF; intro a HF
          refine from_done rfl ?_
          replace HF := HF.to [(3, vI (k + 1 : Nat)), (82, .bool false), (71, .bool true), (66, .bool false), (8, .bool false), (2, .bool false), (1, vP g1 0)]
          exact ⟨_, (by omega), k + 1, by omega, fun i hi => (Nat.lt_succ_iff_lt_or_eq.1 hi).elim (hall i) (fun h => by subst h; omega), rfl, HF.sub (by kernel_rfl), HM.picks [0] (by decide) rfl⟩
        ·have HF := HF.on 71 hb71
         have hd71 := of_decide_eq_false hb71
         refine cond_false HF rfl (wp_exit (wp_seq (from_start ?_)))
         refine fp HF 1 0 [(84, vP g1 4)] ?_; clear HF; intro a HF
         refine fy HF HM 1 rfl rfl rfl (v := .slice A b.evs.length c) (Yl.load1 rfl rfl (by kernel_rfl) (fun _ h => h.cell (i := 0) rfl (rfl))) ?_; clear HF; intro a HF
         refine from_op HF (i := 2) rfl rfl ?_
         refine e_call HF (vs := [.slice A b.evs.length c]) rfl (by kernel_rfl) (by kernel_rfl) rfl (by decide) (row07_any _ _ _ b.evs hok.evs _ (HM.old hr) (by omega) rfl) ?_
         rintro _ w86 ⟨rfl, hbw⟩
         refine ⟨_, rfl, ?_⟩
         replace HM := HM.call hbw
         clear HF; intro a HF
         refine fp HF 5 3 [(5, vI ((rowR b.evs).2)), (4, vI ((rowR b.evs).1)), (88, vI ((rowR b.evs).2)), (87, vI ((rowR b.evs).1)), (83, .tuple #[vI ((rowR b.evs).1), vI ((rowR b.evs).2)])] ?_; clear HF; intro a HF
         refine from_done rfl ?_
         refine wp_seq (from_start ?_)
         refine fp HF 3 0 [(2, .bool (((rowR b.evs).2 : Int) == (0 : Int))), (90, .bool (((rowR b.evs).2 : Int) == (0 : Int))), (89, vI ((rowR b.evs).2))] ?_; clear HF; intro a HF
         refine from_done rfl ?_
         refine wp_ret ?_
         exact ret1 rfl HF (.tmp HF rfl) (⟨congrArg (fun x => Ending.returned (.bool x)) (by rw [fits_rows (by omega) (by omega) (by omega) (by omega) (by omega) (by omega) (fun i hi => hall i (by omega)), Bool.eq_iff_iff, beq_iff_eq, decide_eq_true_eq]; omega), HM.below⟩)
set_option maxRecDepth 100000 in
set_option maxHeartbeats 4000000 in
theorem bytes10_any (b : Bk) (hok : b.Ok) (A : Option Addr) (c : Nat) (w : World) (hr : Rd w w.heap.size 11 A b.evs.length (b.evs.flatMap evL)) (hn : b.evs.length ≤ 1000000) (hf : b.fits = true) :
    Calls Tryd.prog 31 #[.agg (b.cells A c)] w (BytesOne w b.raw) := by
 refine calls_enter (vs := [.agg (b.cells A c)]) Tryd.func31 rfl rfl (by kernel_rfl) (σ0 := [(0, .agg (b.cells A c))]) rfl ?_
 intro a HF
 have HM := Mem.start w
 refine wp_seq (from_start ?_)
 refine from_op HF (i := 0) rfl rfl ?_
 refine e_box HF HM (cs := (b.cells A c)) rfl rfl rfl rfl (by decide) ?_
 clear HF HM; intro a w1 g1 HF HM
 refine fp HF 1 1 [(2, .slice none 0 0)] ?_; clear HF; intro a HF
 refine from_done rfl ?_
 refine wp_seq (from_start ?_)
 refine fp HF 1 0 [(3, .slice none 0 0)] ?_; clear HF; intro a HF
 refine from_done rfl ?_
 refine wp_seq (wp_seq (from_start ?_))
 refine fp HF 1 0 [(9, vP g1 0)] ?_; clear HF; intro a HF
 refine fy HF HM 1 rfl rfl rfl (v := vB b.kind) (Yl.load1 rfl rfl (by kernel_rfl) (fun _ h => h.cell (i := 0) rfl (rfl))) ?_; clear HF; intro a HF
 refine fp HF 1 2 [(11, .bool ((b.kind : Int) == (2 : Int)))] ?_; clear HF; intro a HF
 refine from_done rfl ?_
 rcases Bool.eq_false_or_eq_true ((b.kind : Int) == (2 : Int)) with hb11 | hb11
 ·have HF := HF.on 11 hb11
  have hd11 := eq_of_beq hb11
  have hbl := body_length b
  have hk2 : b.kind = 2 := by omega
  obtain ⟨n1, n2, n3, n4, n5⟩ := fits_next hf hk2
  refine cond_true HF rfl (from_start ?_)
  refine fp HF 1 0 [(12, vP g1 3)] ?_; clear HF; intro a HF
  refine fy HF HM 1 rfl rfl rfl (v := vI b.next) (Yl.load1 rfl rfl (by kernel_rfl) (fun _ h => h.cell (i := 0) rfl (rfl))) ?_; clear HF; intro a HF
  refine fp HF 1 2 [(14, vQ (IntKind.u64.wrap b.next))] ?_; clear HF; intro a HF
  replace HF := HF.as (t := 14) (u := vQ b.next.toNat) rfl (u64_nat (by omega) (by omega))
  refine from_op HF (i := 3) rfl rfl ?_
  refine e_call HF (vs := [vQ b.next.toNat]) rfl (by kernel_rfl) (by kernel_rfl) rfl (by decide) (write01_is b.next.toNat _ (by omega)) ?_
  rintro _ w15 ⟨⟨A15, c15, rfl, ho, hc15⟩, hbw⟩
  refine ⟨_, rfl, ?_⟩
  replace HM := HM.callRow hbw ho
  clear HF; intro a HF
  refine fp HF 1 4 [(3, .slice A15 (((vbytes b.next.toNat)).length) c15)] ?_; clear HF; intro a HF
  refine from_done rfl ?_
  refine wp_seq (wp_seq (from_start ?_))
  refine fp HF 1 0 [(28, vP g1 4)] ?_; clear HF; intro a HF
  refine fy HF HM 1 rfl rfl rfl (v := .slice A b.evs.length c) (Yl.load1 rfl rfl (by kernel_rfl) (fun _ h => h.cell (i := 1) rfl (rfl))) ?_; clear HF; intro a HF
  refine fy HF HM 2 rfl rfl rfl (Yl.len rfl rfl (by kernel_rfl)) ?_; clear HF; intro a HF
  refine fp HF 1 3 [(31, .bool (decide ((b.evs.length : Int) > (0 : Int))))] ?_; clear HF; intro a HF
  refine from_done rfl ?_
  have hb31 : (decide ((b.evs.length : Int) > (0 : Int))) = false := by rw [decide_eq_false (by omega)]
  have HF := HF.as (t := 31) (u := .bool false) rfl (by rw [hb31])
  have hnA15 : ((vbytes b.next.toNat)).length = b.body.length := by rw [body_two hk2]
  replace HM := HM.reRow (i := 0) (ys := b.body.map B8) rfl hnA15 (by rw [body_two hk2])
  replace HF := HF.as (t := 3) (u := .slice A15 b.body.length c15) rfl (by rw [hnA15])
  replace HF := HF.as (t := 15) (u := .slice A15 b.body.length c15) rfl (by rw [hnA15])
  refine cond_false HF rfl (wp_skip (wp_seq (from_start ?_)))
  refine fp HF 1 0 [(60, .slice A15 b.body.length c15)] ?_; clear HF; intro a HF
  refine fy HF HM 1 rfl rfl rfl (Yl.len rfl rfl (by kernel_rfl)) ?_; clear HF; intro a HF
  refine fp HF 1 2 [(62, vI (IntKind.i64.wrap ((b.body.length : Int) + 12)))] ?_; clear HF; intro a HF
  replace HF := HF.as (t := 62) (u := vI (b.body.length + 12 : Nat)) rfl (i64_nat (by omega) (by omega))
  refine fp HF 1 3 [(7, vI (b.body.length + 12 : Nat))] ?_; clear HF; intro a HF
  refine from_done rfl ?_
  replace HF := HF.to [(7, vI (b.body.length + 12 : Nat)), (15, .slice A15 b.body.length c15), (3, .slice A15 b.body.length c15), (31, .bool false), (11, .bool true), (2, .slice none 0 0), (1, vP g1 0)]
  have hbl := body_length b
  refine wp_seq (from_start ?_)
  refine fp HF 2 0 [(64, vI (Int.tmod ((b.body.length + 12 : Nat) : Int) 256)), (63, vI (b.body.length + 12 : Nat))] ?_; clear HF; intro a HF
  replace HF := HF.as (t := 64) (u := vI ((b.body.length + 12) % 256 : Nat)) rfl (tmod_nat .i64 _ 256)
  refine fp HF 1 2 [(65, vB (IntKind.u8.wrap (((b.body.length + 12) % 256 : Nat) : Int)))] ?_; clear HF; intro a HF
  replace HF := HF.as (t := 65) (u := vB ((b.body.length + 12) % 256 : Nat)) rfl ((u8_mod ((b.body.length + 12) % 256)).trans (by rw [Nat.mod_mod]))
  refine fp HF 2 3 [(67, vI (IntKind.i64.wrap (Int.tdiv ((b.body.length + 12 : Nat) : Int) 256))), (66, vI (b.body.length + 12 : Nat))] ?_; clear HF; intro a HF
  replace HF := HF.as (t := 67) (u := vI ((b.body.length + 12) / 256 : Nat)) rfl (tdiv_nat .i64 256 (by show _ ≤ 9223372036854775807; omega))
  refine fp HF 1 5 [(68, vI (Int.tmod (((b.body.length + 12) / 256 : Nat) : Int) 256))] ?_; clear HF; intro a HF
  replace HF := HF.as (t := 68) (u := vI (((b.body.length + 12) / 256) % 256 : Nat)) rfl (tmod_nat .i64 _ 256)
  refine fp HF 1 6 [(69, vB (IntKind.u8.wrap ((((b.body.length + 12) / 256) % 256 : Nat) : Int)))] ?_; clear HF; intro a HF
  replace HF := HF.as (t := 69) (u := vB (((b.body.length + 12) / 256) % 256 : Nat)) rfl ((u8_mod (((b.body.length + 12) / 256) % 256)).trans (by rw [Nat.mod_mod]))
  refine fp HF 2 7 [(71, vI (IntKind.i64.wrap (Int.tdiv ((b.body.length + 12 : Nat) : Int) 65536))), (70, vI (b.body.length + 12 : Nat))] ?_; clear HF; intro a HF
  replace HF := HF.as (t := 71) (u := vI ((b.body.length + 12) / 65536 : Nat)) rfl (tdiv_nat .i64 65536 (by show _ ≤ 9223372036854775807; omega))
  refine fp HF 1 9 [(72, vI (Int.tmod (((b.body.length + 12) / 65536 : Nat) : Int) 256))] ?_; clear HF; intro a HF
  replace HF := HF.as (t := 72) (u := vI (((b.body.length + 12) / 65536) % 256 : Nat)) rfl (tmod_nat .i64 _ 256)
  refine fp HF 1 10 [(73, vB (IntKind.u8.wrap ((((b.body.length + 12) / 65536) % 256 : Nat) : Int)))] ?_; clear HF; intro a HF
  replace HF := HF.as (t := 73) (u := vB (((b.body.length + 12) / 65536) % 256 : Nat)) rfl ((u8_mod (((b.body.length + 12) / 65536) % 256)).trans (by rw [Nat.mod_mod]))
  refine fp HF 2 11 [(75, vI (IntKind.i64.wrap (Int.tdiv ((b.body.length + 12 : Nat) : Int) 16777216))), (74, vI (b.body.length + 12 : Nat))] ?_; clear HF; intro a HF
  replace HF := HF.as (t := 75) (u := vI ((b.body.length + 12) / 16777216 : Nat)) rfl (tdiv_nat .i64 16777216 (by show _ ≤ 9223372036854775807; omega))
  refine fp HF 1 13 [(76, vB (IntKind.u8.wrap (((b.body.length + 12) / 16777216 : Nat) : Int)))] ?_; clear HF; intro a HF
  replace HF := HF.as (t := 76) (u := vB (((b.body.length + 12) / 16777216) % 256 : Nat)) rfl (u8_mod ((b.body.length + 12) / 16777216))
  refine fp HF 1 14 [(77, vP g1 0)] ?_; clear HF; intro a HF
  refine fy HF HM 15 rfl rfl rfl (v := vB b.kind) (Yl.load1 rfl rfl (by kernel_rfl) (fun _ h => h.cell (i := 1) rfl (rfl))) ?_; clear HF; intro a HF
  refine from_op HF (i := 16) rfl rfl ?_
  refine e_slice HF HM (vs := [(0, vB ((b.body.length + 12) % 256 : Nat)), (1, vB (((b.body.length + 12) / 256) % 256 : Nat)), (2, vB (((b.body.length + 12) / 65536) % 256 : Nat)), (3, vB (((b.body.length + 12) / 16777216) % 256 : Nat)), (4, vB 113), (5, vB 116), (6, vB 1), (7, vB b.kind)]) (cs := #[vB ((b.body.length + 12) % 256 : Nat), vB (((b.body.length + 12) / 256) % 256 : Nat), vB (((b.body.length + 12) / 65536) % 256 : Nat), vB (((b.body.length + 12) / 16777216) % 256 : Nat), vB 113, vB 116, vB 1, vB b.kind]) rfl ei_u8 (by decide) rfl (by kernel_rfl) rfl (by decide) ?_
  clear HF HM; intro a w79 g79 HF HM
  refine fp HF 1 17 [(8, vS g79 8 8)] ?_; clear HF; intro a HF
  refine from_done rfl ?_
  replace HF := HF.to [(8, vS g79 8 8), (15, .slice A15 b.body.length c15), (3, .slice A15 b.body.length c15), (31, .bool false), (11, .bool true), (2, .slice none 0 0), (1, vP g1 0)]
  refine wp_seq (from_start ?_)
  refine fp HF 2 0 [(81, .slice A15 b.body.length c15), (80, vS g79 8 8)] ?_; clear HF; intro a HF
  refine from_op HF (i := 2) rfl rfl ?_
  replace HM := HM.blkRow (i := 0) (n := 8) (size := 1) rfl rfl (by decide)
  refine e_append HF HM (i := 0) rfl ei_u8 rfl rfl rfl (news := (b.body.map B8)) (HM.rd (i := 1) rfl) (one_B8 _) (by omega) (by omega) rfl (by decide) ?_
  clear HF HM; intro a w82 A82 c82 HF HM hc82
  refine fp HF 1 3 [(2, .slice A82 (8 + b.body.length) c82)] ?_; clear HF; intro a HF
  refine from_done rfl ?_
  have hnA82 : 8 + b.body.length = b.raw.length := by rw [raw_length]
  replace HM := HM.reRow (i := 0) (ys := b.raw.map B8) rfl hnA82 (raw10 b)
  rw [hnA82] at hc82
  replace HF := HF.as (t := 2) (u := .slice A82 b.raw.length c82) rfl (by rw [hnA82])
  replace HF := HF.as (t := 82) (u := .slice A82 b.raw.length c82) rfl (by rw [hnA82])
  refine wp_ret ?_
  exact ret1 rfl HF (.tmp HF rfl) (⟨⟨_, _, rfl, HM.own (i := 0) rfl, hc82⟩, HM.below⟩)
 ·have HF := HF.on 11 hb11
  have hd11 := ne_of_beq_false hb11
  have hbl := body_length b
  have hk2 : b.kind ≠ 2 := by omega
  obtain ⟨m0, m1, m2, m3, m4⟩ := fits_lost hf hk2
  refine cond_false HF rfl (from_start ?_)
  refine fp HF 1 0 [(16, vP g1 1)] ?_; clear HF; intro a HF
  refine fy HF HM 1 rfl rfl rfl (v := vB b.cpu) (Yl.load1 rfl rfl (by kernel_rfl) (fun _ h => h.cell (i := 0) rfl (rfl))) ?_; clear HF; intro a HF
  refine fp HF 1 2 [(18, vQ (IntKind.u64.wrap (b.cpu : Int)))] ?_; clear HF; intro a HF
  replace HF := HF.as (t := 18) (u := vQ b.cpu) rfl (u64_nat rfl (by omega))
  refine fp HF 1 3 [(19, vP g1 2)] ?_; clear HF; intro a HF
  refine fy HF HM 4 rfl rfl rfl (v := vI b.lost) (Yl.load1 rfl rfl (by kernel_rfl) (fun _ h => h.cell (i := 0) rfl (rfl))) ?_; clear HF; intro a HF
  refine fp HF 1 5 [(21, vQ (IntKind.u64.wrap b.lost))] ?_; clear HF; intro a HF
  replace HF := HF.as (t := 21) (u := vQ b.lost.toNat) rfl (u64_nat (by omega) (by omega))
  refine fp HF 1 6 [(22, vP g1 4)] ?_; clear HF; intro a HF
  refine fy HF HM 7 rfl rfl rfl (v := .slice A b.evs.length c) (Yl.load1 rfl rfl (by kernel_rfl) (fun _ h => h.cell (i := 0) rfl (rfl))) ?_; clear HF; intro a HF
  refine fy HF HM 8 rfl rfl rfl (Yl.len rfl rfl (by kernel_rfl)) ?_; clear HF; intro a HF
  refine fp HF 1 9 [(25, vQ (IntKind.u64.wrap (b.evs.length : Int)))] ?_; clear HF; intro a HF
  replace HF := HF.as (t := 25) (u := vQ b.evs.length) rfl (u64_nat rfl (by omega))
  refine from_op HF (i := 10) rfl rfl ?_
  refine e_slice HF HM (vs := [(0, vQ b.cpu), (1, vQ b.lost.toNat), (2, vQ b.evs.length)]) (cs := #[vQ b.cpu, vQ b.lost.toNat, vQ b.evs.length]) rfl ei_u64 (by decide) rfl (by kernel_rfl) rfl (by decide) ?_
  clear HF HM; intro a w26 g26 HF HM
  refine from_op HF (i := 11) rfl rfl ?_
  refine e_call HF (vs := [vS g26 3 3]) rfl (by kernel_rfl) (by kernel_rfl) rfl (by decide) (wall01_any _ 3 _ [b.cpu, b.lost.toNat, b.evs.length] _ (HM.rdBlk (i := 0) (n := 3) (size := 1) rfl rfl) rfl (by intro x hx; simp only [List.mem_cons, List.not_mem_nil, or_false] at hx; omega) (by omega)) ?_
  rintro _ w27 ⟨⟨A27, c27, rfl, ho, hc27⟩, hbw⟩
  refine ⟨_, rfl, ?_⟩
  replace HM := HM.callRow hbw ho
  clear HF; intro a HF
  have hfl27 := flat_length [b.cpu, b.lost.toNat, b.evs.length]
  simp only [List.length_cons, List.length_nil] at hfl27
  refine fp HF 1 12 [(3, .slice A27 ((([b.cpu, b.lost.toNat, b.evs.length].flatMap vbytes)).length) c27)] ?_; clear HF; intro a HF
  refine from_done rfl ?_
  replace HF := HF.to [(3, .slice A27 ((([b.cpu, b.lost.toNat, b.evs.length].flatMap vbytes)).length) c27), (11, .bool false), (2, .slice none 0 0), (1, vP g1 0)]
  replace HM := HM.picks (fs' := [.row (.slice A27 ((([b.cpu, b.lost.toNat, b.evs.length].flatMap vbytes)).length) c27) ((([b.cpu, b.lost.toNat, b.evs.length].flatMap vbytes)).length) (([b.cpu, b.lost.toNat, b.evs.length].flatMap vbytes).map B8) 5 1, .blk g1 (b.cells A c) 39]) [0, 2] (by decide) rfl
  refine wp_seq (wp_seq (from_start ?_))
  refine fp HF 1 0 [(28, vP g1 4)] ?_; clear HF; intro a HF
  refine fy HF HM 1 rfl rfl rfl (v := .slice A b.evs.length c) (Yl.load1 rfl rfl (by kernel_rfl) (fun _ h => h.cell (i := 1) rfl (rfl))) ?_; clear HF; intro a HF
  refine fy HF HM 2 rfl rfl rfl (Yl.len rfl rfl (by kernel_rfl)) ?_; clear HF; intro a HF
  refine fp HF 1 3 [(31, .bool (decide ((b.evs.length : Int) > (0 : Int))))] ?_; clear HF; intro a HF
  refine from_done rfl ?_
  rcases Bool.eq_false_or_eq_true (decide ((b.evs.length : Int) > (0 : Int))) with hb31 | hb31
  ·have HF := HF.on 31 hb31
   have hd31 := of_decide_eq_true hb31
   obtain ⟨b1, b2, b3, b4⟩ : 0 ≤ (b.evs.getD 0 Ev.zero).seq ∧ (b.evs.getD 0 Ev.zero).seq ≤ 281474976710656 ∧ 0 ≤ (b.evs.getD 0 Ev.zero).time ∧ (b.evs.getD 0 Ev.zero).time ≤ 281474976710656 := by have hbd := base_bnd hok hf hk2 (by omega); rw [base_getD] at hbd; exact hbd
   have hw07 := fits_write hok (fits_evs hf hk2).2 (by omega)
   refine cond_true HF rfl (wp_seq (from_start ?_))
   refine fp HF 1 0 [(32, vP g1 4)] ?_; clear HF; intro a HF
   refine fy HF HM 1 rfl rfl rfl (v := .slice A b.evs.length c) (Yl.load1 rfl rfl (by kernel_rfl) (fun _ h => h.cell (i := 1) rfl (rfl))) ?_; clear HF; intro a HF
   obtain ⟨gA, oA, rfl, _⟩ := hr.some_at (Nat.lt_of_le_of_lt (Nat.zero_le _) (show 0 < b.evs.length from by omega)) (by decide)
   refine fy HF HM 2 rfl rfl rfl (v := vP gA oA) (Yl.indexAddr (ad := ⟨gA, oA, none⟩) (y := 0) (sz := 11) rfl rfl rfl (by omega) (by kernel_rfl)) ?_; clear HF; intro a HF
   refine fy HF HM 3 rfl rfl rfl (v := .agg ((b.evs.getD 0 Ev.zero).cells)) (Yl.loadS rfl rfl ⟨(by kernel_rfl), (by kernel_rfl)⟩ rfl (fun _ h => (h.old hr).structAt evL_len ((getD_at Ev.zero (k := 0) (by first | omega | (simp; omega)))))) ?_; clear HF; intro a HF
   refine from_op HF (i := 4) rfl rfl ?_
   refine e_alloc HF HM (cs := #[vI 0, vI 0, vB 0, vB 0, vI 0, vI 0, vI 0, vI 0, vI 0, vQ 0, vI 0]) rfl (by kernel_rfl) rfl (by decide) ?_
   clear HF HM; intro a w4 g4 HF HM
   refine from_op HF (i := 5) rfl rfl ?_
   refine e_storeAll HF HM (i := 0) (cs := #[vI 0, vI 0, vB 0, vB 0, vI 0, vI 0, vI 0, vI 0, vI 0, vQ 0, vI 0]) (ds := (b.evs.getD 0 Ev.zero).cells) rfl rfl rfl rfl ⟨(by kernel_rfl), (by kernel_rfl)⟩ rfl rfl (ev_one (b.evs.getD 0 Ev.zero)) rfl ?_
   clear HM; intro w6_5 HM
   refine from_done rfl ?_
   refine wp_seq (from_start ?_)
   refine fp HF 2 0 [(37, vP g4 0), (36, .slice A27 ((([b.cpu, b.lost.toNat, b.evs.length].flatMap vbytes)).length) c27)] ?_; clear HF; intro a HF
   refine fy HF HM 2 rfl rfl rfl (v := vI ((b.evs.getD 0 Ev.zero).seq)) (Yl.load1 rfl rfl (by kernel_rfl) (fun _ h => h.cell (i := 0) rfl (rfl))) ?_; clear HF; intro a HF
   refine fp HF 1 3 [(39, vQ (IntKind.u64.wrap ((b.evs.getD 0 Ev.zero).seq)))] ?_; clear HF; intro a HF
   replace HF := HF.as (t := 39) (u := vQ (((b.evs.getD 0 Ev.zero).seq).toNat : Nat)) rfl (u64_nat (by omega) (by omega))
   refine fp HF 1 4 [(40, vP g4 1)] ?_; clear HF; intro a HF
   refine fy HF HM 5 rfl rfl rfl (v := vI ((b.evs.getD 0 Ev.zero).time)) (Yl.load1 rfl rfl (by kernel_rfl) (fun _ h => h.cell (i := 0) rfl (rfl))) ?_; clear HF; intro a HF
   refine fp HF 1 6 [(42, vQ (IntKind.u64.wrap ((b.evs.getD 0 Ev.zero).time)))] ?_; clear HF; intro a HF
   replace HF := HF.as (t := 42) (u := vQ (((b.evs.getD 0 Ev.zero).time).toNat : Nat)) rfl (u64_nat (by omega) (by omega))
   refine from_op HF (i := 7) rfl rfl ?_
   refine e_slice HF HM (vs := [(0, vQ (((b.evs.getD 0 Ev.zero).seq).toNat : Nat)), (1, vQ (((b.evs.getD 0 Ev.zero).time).toNat : Nat))]) (cs := #[vQ (((b.evs.getD 0 Ev.zero).seq).toNat : Nat), vQ (((b.evs.getD 0 Ev.zero).time).toNat : Nat)]) rfl ei_u64 (by decide) rfl (by kernel_rfl) rfl (by decide) ?_
   clear HF HM; intro a w43 g43 HF HM
   refine from_op HF (i := 8) rfl rfl ?_
   refine e_call HF (vs := [vS g43 2 2]) rfl (by kernel_rfl) (by kernel_rfl) rfl (by decide) (wall01_any _ 2 _ [(b.evs.getD 0 Ev.zero).seq.toNat, (b.evs.getD 0 Ev.zero).time.toNat] _ (HM.rdBlk (i := 0) (n := 2) (size := 1) rfl rfl) rfl (by intro x hx; simp only [List.mem_cons, List.not_mem_nil, or_false] at hx; omega) (by omega)) ?_
   rintro _ w44 ⟨⟨A44, c44, rfl, ho, hc44⟩, hbw⟩
   refine ⟨_, rfl, ?_⟩
   replace HM := HM.callRow hbw ho
   clear HF; intro a HF
   have hfl44 := flat_length [(b.evs.getD 0 Ev.zero).seq.toNat, (b.evs.getD 0 Ev.zero).time.toNat]
   simp only [List.length_cons, List.length_nil] at hfl44
   refine from_op HF (i := 9) rfl rfl ?_
   refine e_append HF HM (i := 3) rfl ei_u8 rfl rfl rfl (news := (([(b.evs.getD 0 Ev.zero).seq.toNat, (b.evs.getD 0 Ev.zero).time.toNat].flatMap vbytes).map B8)) (HM.rd (i := 0) rfl) (one_B8 _) (by omega) (by omega) rfl (by decide) ?_
   clear HF HM; intro a w45 A45 c45 HF HM hc45
   refine fp HF 1 10 [(3, .slice A45 (((([b.cpu, b.lost.toNat, b.evs.length].flatMap vbytes)).length) + ((([(b.evs.getD 0 Ev.zero).seq.toNat, (b.evs.getD 0 Ev.zero).time.toNat].flatMap vbytes)).length)) c45)] ?_; clear HF; intro a HF
   refine from_done rfl ?_
   replace HF := HF.to [(3, .slice A45 (((([b.cpu, b.lost.toNat, b.evs.length].flatMap vbytes)).length) + ((([(b.evs.getD 0 Ev.zero).seq.toNat, (b.evs.getD 0 Ev.zero).time.toNat].flatMap vbytes)).length)) c45), (4, vP g4 0), (31, .bool true), (11, .bool false), (2, .slice none 0 0), (1, vP g1 0)]
   replace HM := HM.picks (fs' := [.blk g4 ((b.evs.getD 0 Ev.zero).cells) 65, .row (.slice A45 (((([b.cpu, b.lost.toNat, b.evs.length].flatMap vbytes)).length) + ((([(b.evs.getD 0 Ev.zero).seq.toNat, (b.evs.getD 0 Ev.zero).time.toNat].flatMap vbytes)).length)) c45) (((([b.cpu, b.lost.toNat, b.evs.length].flatMap vbytes)).length) + ((([(b.evs.getD 0 Ev.zero).seq.toNat, (b.evs.getD 0 Ev.zero).time.toNat].flatMap vbytes)).length)) ((([b.cpu, b.lost.toNat, b.evs.length].flatMap vbytes).map B8) ++ (([(b.evs.getD 0 Ev.zero).seq.toNat, (b.evs.getD 0 Ev.zero).time.toNat].flatMap vbytes).map B8)) 5 1, .blk g1 (b.cells (some ⟨gA, oA, none⟩) c) 39]) [2, 3, 4] (by decide) rfl
   refine wp_seq (from_start ?_)
   refine fp HF 1 0 [(47, vP g4 0)] ?_; clear HF; intro a HF
   refine fy HF HM 1 rfl rfl rfl (v := vI ((b.evs.getD 0 Ev.zero).seq)) (Yl.load1 rfl rfl (by kernel_rfl) (fun _ h => h.cell (i := 0) rfl (rfl))) ?_; clear HF; intro a HF
   refine fp HF 1 2 [(49, vP g4 1)] ?_; clear HF; intro a HF
   refine fy HF HM 3 rfl rfl rfl (v := vI ((b.evs.getD 0 Ev.zero).time)) (Yl.load1 rfl rfl (by kernel_rfl) (fun _ h => h.cell (i := 0) rfl (rfl))) ?_; clear HF; intro a HF
   refine fy HF HM 4 rfl rfl rfl (v := .agg ((⟨(b.evs.getD 0 Ev.zero).seq, (b.evs.getD 0 Ev.zero).time⟩ : Bs).cells)) ((Yl.build (vs := [(0, vI ((b.evs.getD 0 Ev.zero).seq)), (1, vI ((b.evs.getD 0 Ev.zero).time))]) rfl (by kernel_rfl) (by kernel_rfl))) ?_; clear HF; intro a HF
   refine fp HF 1 5 [(52, vP g1 4)] ?_; clear HF; intro a HF
   refine fy HF HM 6 rfl rfl rfl (v := .slice (some ⟨gA, oA, none⟩) b.evs.length c) (Yl.load1 rfl rfl (by kernel_rfl) (fun _ h => h.cell (i := 2) rfl (rfl))) ?_; clear HF; intro a HF
   refine from_op HF (i := 7) rfl rfl ?_
   refine e_call HF (vs := [.agg ((⟨(b.evs.getD 0 Ev.zero).seq, (b.evs.getD 0 Ev.zero).time⟩ : Bs).cells), .slice (some ⟨gA, oA, none⟩) b.evs.length c]) rfl (by kernel_rfl) (by kernel_rfl) rfl (by decide) ((write07_any ⟨(b.evs.getD 0 Ev.zero).seq, (b.evs.getD 0 Ev.zero).time⟩ _ _ _ b.evs hok.evs _ (HM.old hr) (by omega) (by omega) rfl).mono (fun _ _ h => h.as (er' := 0) (R' := recs b.base b.evs) (by rw [← base_getD]; exact hw07.1) (by rw [← base_getD]; exact hw07.2))) ?_
   rintro _ w54 ⟨⟨A54, c54, rfl, ho, hc54⟩, hbw⟩
   refine ⟨_, rfl, ?_⟩
   replace HM := HM.callRow hbw ho
   clear HF; intro a HF
   have hrl := recsLenB b.evs b.base
   refine fp HF 5 8 [(6, vI 0), (5, .slice A54 (((recs b.base b.evs)).length) c54), (56, vI 0), (55, .slice A54 (((recs b.base b.evs)).length) c54), (46, .tuple #[.slice A54 (((recs b.base b.evs)).length) c54, vI 0])] ?_; clear HF; intro a HF
   refine from_done rfl ?_
   refine from_start ?_
   refine fp HF 2 0 [(58, .slice A54 (((recs b.base b.evs)).length) c54), (57, .slice A45 (((([b.cpu, b.lost.toNat, b.evs.length].flatMap vbytes)).length) + ((([(b.evs.getD 0 Ev.zero).seq.toNat, (b.evs.getD 0 Ev.zero).time.toNat].flatMap vbytes)).length)) c45)] ?_; clear HF; intro a HF
   refine from_op HF (i := 2) rfl rfl ?_
   refine e_append HF HM (i := 2) rfl ei_u8 rfl rfl rfl (news := ((recs b.base b.evs).map B8)) (HM.rd (i := 0) rfl) (one_B8 _) (by omega) (by omega) rfl (by decide) ?_
   clear HF HM; intro a w59 A59 c59 HF HM hc59
   refine fp HF 1 3 [(3, .slice A59 ((((([b.cpu, b.lost.toNat, b.evs.length].flatMap vbytes)).length) + ((([(b.evs.getD 0 Ev.zero).seq.toNat, (b.evs.getD 0 Ev.zero).time.toNat].flatMap vbytes)).length)) + (((recs b.base b.evs)).length)) c59)] ?_; clear HF; intro a HF
   refine from_done rfl ?_
   replace HF := HF.to [(3, .slice A59 ((((([b.cpu, b.lost.toNat, b.evs.length].flatMap vbytes)).length) + ((([(b.evs.getD 0 Ev.zero).seq.toNat, (b.evs.getD 0 Ev.zero).time.toNat].flatMap vbytes)).length)) + (((recs b.base b.evs)).length)) c59), (4, vP g4 0), (31, .bool true), (11, .bool false), (2, .slice none 0 0), (1, vP g1 0)]
   replace HM := HM.picks (fs' := [.blk g4 ((b.evs.getD 0 Ev.zero).cells) 65, .row (.slice A59 ((((([b.cpu, b.lost.toNat, b.evs.length].flatMap vbytes)).length) + ((([(b.evs.getD 0 Ev.zero).seq.toNat, (b.evs.getD 0 Ev.zero).time.toNat].flatMap vbytes)).length)) + (((recs b.base b.evs)).length)) c59) ((((([b.cpu, b.lost.toNat, b.evs.length].flatMap vbytes)).length) + ((([(b.evs.getD 0 Ev.zero).seq.toNat, (b.evs.getD 0 Ev.zero).time.toNat].flatMap vbytes)).length)) + (((recs b.base b.evs)).length)) (((([b.cpu, b.lost.toNat, b.evs.length].flatMap vbytes).map B8) ++ (([(b.evs.getD 0 Ev.zero).seq.toNat, (b.evs.getD 0 Ev.zero).time.toNat].flatMap vbytes).map B8)) ++ ((recs b.base b.evs).map B8)) 5 1, .blk g1 (b.cells (some ⟨gA, oA, none⟩) c) 39]) [1, 2, 3] (by decide) rfl
   have hnA59 : (((([b.cpu, b.lost.toNat, b.evs.length].flatMap vbytes)).length) + ((([(b.evs.getD 0 Ev.zero).seq.toNat, (b.evs.getD 0 Ev.zero).time.toNat].flatMap vbytes)).length)) + (((recs b.base b.evs)).length) = b.body.length := by have h := congrArg List.length (body_rows hk2 (by omega)); rw [List.length_append, List.length_append] at h; omega
   replace HM := HM.reRow (i := 1) (ys := b.body.map B8) rfl hnA59 (by rw [← body_rows hk2 (by omega)]; simp)
   rw [hnA59] at hc59
   replace HF := HF.as (t := 3) (u := .slice A59 b.body.length c59) rfl (by rw [hnA59])
   refine wp_seq (from_start ?_)
   refine fp HF 1 0 [(60, .slice A59 b.body.length c59)] ?_; clear HF; intro a HF
   refine fy HF HM 1 rfl rfl rfl (Yl.len rfl rfl (by kernel_rfl)) ?_; clear HF; intro a HF
   refine fp HF 1 2 [(62, vI (IntKind.i64.wrap ((b.body.length : Int) + 12)))] ?_; clear HF; intro a HF
   replace HF := HF.as (t := 62) (u := vI (b.body.length + 12 : Nat)) rfl (i64_nat (by omega) (by omega))
   refine fp HF 1 3 [(7, vI (b.body.length + 12 : Nat))] ?_; clear HF; intro a HF
   refine from_done rfl ?_
   have hbl := body_length b
   refine wp_seq (from_start ?_)
   refine fp HF 2 0 [(64, vI (Int.tmod ((b.body.length + 12 : Nat) : Int) 256)), (63, vI (b.body.length + 12 : Nat))] ?_; clear HF; intro a HF
   replace HF := HF.as (t := 64) (u := vI ((b.body.length + 12) % 256 : Nat)) rfl (tmod_nat .i64 _ 256)
   refine fp HF 1 2 [(65, vB (IntKind.u8.wrap (((b.body.length + 12) % 256 : Nat) : Int)))] ?_; clear HF; intro a HF
   replace HF := HF.as (t := 65) (u := vB ((b.body.length + 12) % 256 : Nat)) rfl ((u8_mod ((b.body.length + 12) % 256)).trans (by rw [Nat.mod_mod]))
   refine fp HF 2 3 [(67, vI (IntKind.i64.wrap (Int.tdiv ((b.body.length + 12 : Nat) : Int) 256))), (66, vI (b.body.length + 12 : Nat))] ?_; clear HF; intro a HF
   replace HF := HF.as (t := 67) (u := vI ((b.body.length + 12) / 256 : Nat)) rfl (tdiv_nat .i64 256 (by show _ ≤ 9223372036854775807; omega))
   refine fp HF 1 5 [(68, vI (Int.tmod (((b.body.length + 12) / 256 : Nat) : Int) 256))] ?_; clear HF; intro a HF
   replace HF := HF.as (t := 68) (u := vI (((b.body.length + 12) / 256) % 256 : Nat)) rfl (tmod_nat .i64 _ 256)
   refine fp HF 1 6 [(69, vB (IntKind.u8.wrap ((((b.body.length + 12) / 256) % 256 : Nat) : Int)))] ?_; clear HF; intro a HF
   replace HF := HF.as (t := 69) (u := vB (((b.body.length + 12) / 256) % 256 : Nat)) rfl ((u8_mod (((b.body.length + 12) / 256) % 256)).trans (by rw [Nat.mod_mod]))
   refine fp HF 2 7 [(71, vI (IntKind.i64.wrap (Int.tdiv ((b.body.length + 12 : Nat) : Int) 65536))), (70, vI (b.body.length + 12 : Nat))] ?_; clear HF; intro a HF
   replace HF := HF.as (t := 71) (u := vI ((b.body.length + 12) / 65536 : Nat)) rfl (tdiv_nat .i64 65536 (by show _ ≤ 9223372036854775807; omega))
   refine fp HF 1 9 [(72, vI (Int.tmod (((b.body.length + 12) / 65536 : Nat) : Int) 256))] ?_; clear HF; intro a HF
   replace HF := HF.as (t := 72) (u := vI (((b.body.length + 12) / 65536) % 256 : Nat)) rfl (tmod_nat .i64 _ 256)
   refine fp HF 1 10 [(73, vB (IntKind.u8.wrap ((((b.body.length + 12) / 65536) % 256 : Nat) : Int)))] ?_; clear HF; intro a HF
   replace HF := HF.as (t := 73) (u := vB (((b.body.length + 12) / 65536) % 256 : Nat)) rfl ((u8_mod (((b.body.length + 12) / 65536) % 256)).trans (by rw [Nat.mod_mod]))
   refine fp HF 2 11 [(75, vI (IntKind.i64.wrap (Int.tdiv ((b.body.length + 12 : Nat) : Int) 16777216))), (74, vI (b.body.length + 12 : Nat))] ?_; clear HF; intro a HF
   replace HF := HF.as (t := 75) (u := vI ((b.body.length + 12) / 16777216 : Nat)) rfl (tdiv_nat .i64 16777216 (by show _ ≤ 9223372036854775807; omega))
   refine fp HF 1 13 [(76, vB (IntKind.u8.wrap (((b.body.length + 12) / 16777216 : Nat) : Int)))] ?_; clear HF; intro a HF
   replace HF := HF.as (t := 76) (u := vB (((b.body.length + 12) / 16777216) % 256 : Nat)) rfl (u8_mod ((b.body.length + 12) / 16777216))
   refine fp HF 1 14 [(77, vP g1 0)] ?_; clear HF; intro a HF
   refine fy HF HM 15 rfl rfl rfl (v := vB b.kind) (Yl.load1 rfl rfl (by kernel_rfl) (fun _ h => h.cell (i := 2) rfl (rfl))) ?_; clear HF; intro a HF
   refine from_op HF (i := 16) rfl rfl ?_
   refine e_slice HF HM (vs := [(0, vB ((b.body.length + 12) % 256 : Nat)), (1, vB (((b.body.length + 12) / 256) % 256 : Nat)), (2, vB (((b.body.length + 12) / 65536) % 256 : Nat)), (3, vB (((b.body.length + 12) / 16777216) % 256 : Nat)), (4, vB 113), (5, vB 116), (6, vB 1), (7, vB b.kind)]) (cs := #[vB ((b.body.length + 12) % 256 : Nat), vB (((b.body.length + 12) / 256) % 256 : Nat), vB (((b.body.length + 12) / 65536) % 256 : Nat), vB (((b.body.length + 12) / 16777216) % 256 : Nat), vB 113, vB 116, vB 1, vB b.kind]) rfl ei_u8 (by decide) rfl (by kernel_rfl) rfl (by decide) ?_
   clear HF HM; intro a w79 g79 HF HM
   refine fp HF 1 17 [(8, vS g79 8 8)] ?_; clear HF; intro a HF
   refine from_done rfl ?_
   replace HF := HF.to [(8, vS g79 8 8), (3, .slice A59 b.body.length c59), (4, vP g4 0), (31, .bool true), (11, .bool false), (2, .slice none 0 0), (1, vP g1 0)]
   refine wp_seq (from_start ?_)
   refine fp HF 2 0 [(81, .slice A59 b.body.length c59), (80, vS g79 8 8)] ?_; clear HF; intro a HF
   refine from_op HF (i := 2) rfl rfl ?_
   replace HM := HM.blkRow (i := 0) (n := 8) (size := 1) rfl rfl (by decide)
   refine e_append HF HM (i := 0) rfl ei_u8 rfl rfl rfl (news := (b.body.map B8)) (HM.rd (i := 2) rfl) (one_B8 _) (by omega) (by omega) rfl (by decide) ?_
   clear HF HM; intro a w82 A82 c82 HF HM hc82
   refine fp HF 1 3 [(2, .slice A82 (8 + b.body.length) c82)] ?_; clear HF; intro a HF
   refine from_done rfl ?_
   have hnA82 : 8 + b.body.length = b.raw.length := by rw [raw_length]
   replace HM := HM.reRow (i := 0) (ys := b.raw.map B8) rfl hnA82 (raw10 b)
   rw [hnA82] at hc82
   replace HF := HF.as (t := 2) (u := .slice A82 b.raw.length c82) rfl (by rw [hnA82])
   replace HF := HF.as (t := 82) (u := .slice A82 b.raw.length c82) rfl (by rw [hnA82])
   refine wp_ret ?_
   exact ret1 rfl HF (.tmp HF rfl) (⟨⟨_, _, rfl, HM.own (i := 0) rfl, hc82⟩, HM.below⟩)
  ·have HF := HF.on 31 hb31
   have hd31 := of_decide_eq_false hb31
   have hnA27 : (([b.cpu, b.lost.toNat, b.evs.length].flatMap vbytes)).length = b.body.length := by rw [body_none hk2 (by omega)]
   replace HM := HM.reRow (i := 0) (ys := b.body.map B8) rfl hnA27 (by rw [body_none hk2 (by omega)])
   replace HF := HF.as (t := 3) (u := .slice A27 b.body.length c27) rfl (by rw [hnA27])
   refine cond_false HF rfl (wp_skip (wp_seq (from_start ?_)))
   refine fp HF 1 0 [(60, .slice A27 b.body.length c27)] ?_; clear HF; intro a HF
   refine fy HF HM 1 rfl rfl rfl (Yl.len rfl rfl (by kernel_rfl)) ?_; clear HF; intro a HF
   refine fp HF 1 2 [(62, vI (IntKind.i64.wrap ((b.body.length : Int) + 12)))] ?_; clear HF; intro a HF
   replace HF := HF.as (t := 62) (u := vI (b.body.length + 12 : Nat)) rfl (i64_nat (by omega) (by omega))
   refine fp HF 1 3 [(7, vI (b.body.length + 12 : Nat))] ?_; clear HF; intro a HF
   refine from_done rfl ?_
   have hbl := body_length b
   refine wp_seq (from_start ?_)
   refine fp HF 2 0 [(64, vI (Int.tmod ((b.body.length + 12 : Nat) : Int) 256)), (63, vI (b.body.length + 12 : Nat))] ?_; clear HF; intro a HF
   replace HF := HF.as (t := 64) (u := vI ((b.body.length + 12) % 256 : Nat)) rfl (tmod_nat .i64 _ 256)
   refine fp HF 1 2 [(65, vB (IntKind.u8.wrap (((b.body.length + 12) % 256 : Nat) : Int)))] ?_; clear HF; intro a HF
   replace HF := HF.as (t := 65) (u := vB ((b.body.length + 12) % 256 : Nat)) rfl ((u8_mod ((b.body.length + 12) % 256)).trans (by rw [Nat.mod_mod]))
   refine fp HF 2 3 [(67, vI (IntKind.i64.wrap (Int.tdiv ((b.body.length + 12 : Nat) : Int) 256))), (66, vI (b.body.length + 12 : Nat))] ?_; clear HF; intro a HF
   replace HF := HF.as (t := 67) (u := vI ((b.body.length + 12) / 256 : Nat)) rfl (tdiv_nat .i64 256 (by show _ ≤ 9223372036854775807; omega))
   refine fp HF 1 5 [(68, vI (Int.tmod (((b.body.length + 12) / 256 : Nat) : Int) 256))] ?_; clear HF; intro a HF
   replace HF := HF.as (t := 68) (u := vI (((b.body.length + 12) / 256) % 256 : Nat)) rfl (tmod_nat .i64 _ 256)
   refine fp HF 1 6 [(69, vB (IntKind.u8.wrap ((((b.body.length + 12) / 256) % 256 : Nat) : Int)))] ?_; clear HF; intro a HF
   replace HF := HF.as (t := 69) (u := vB (((b.body.length + 12) / 256) % 256 : Nat)) rfl ((u8_mod (((b.body.length + 12) / 256) % 256)).trans (by rw [Nat.mod_mod]))
   refine fp HF 2 7 [(71, vI (IntKind.i64.wrap (Int.tdiv ((b.body.length + 12 : Nat) : Int) 65536))), (70, vI (b.body.length + 12 : Nat))] ?_; clear HF; intro a HF
   replace HF := HF.as (t := 71) (u := vI ((b.body.length + 12) / 65536 : Nat)) rfl (tdiv_nat .i64 65536 (by show _ ≤ 9223372036854775807; omega))
   refine fp HF 1 9 [(72, vI (Int.tmod (((b.body.length + 12) / 65536 : Nat) : Int) 256))] ?_; clear HF; intro a HF
   replace HF := HF.as (t := 72) (u := vI (((b.body.length + 12) / 65536) % 256 : Nat)) rfl (tmod_nat .i64 _ 256)
   refine fp HF 1 10 [(73, vB (IntKind.u8.wrap ((((b.body.length + 12) / 65536) % 256 : Nat) : Int)))] ?_; clear HF; intro a HF
   replace HF := HF.as (t := 73) (u := vB (((b.body.length + 12) / 65536) % 256 : Nat)) rfl ((u8_mod (((b.body.length + 12) / 65536) % 256)).trans (by rw [Nat.mod_mod]))
   refine fp HF 2 11 [(75, vI (IntKind.i64.wrap (Int.tdiv ((b.body.length + 12 : Nat) : Int) 16777216))), (74, vI (b.body.length + 12 : Nat))] ?_; clear HF; intro a HF
   replace HF := HF.as (t := 75) (u := vI ((b.body.length + 12) / 16777216 : Nat)) rfl (tdiv_nat .i64 16777216 (by show _ ≤ 9223372036854775807; omega))
   refine fp HF 1 13 [(76, vB (IntKind.u8.wrap (((b.body.length + 12) / 16777216 : Nat) : Int)))] ?_; clear HF; intro a HF
   replace HF := HF.as (t := 76) (u := vB (((b.body.length + 12) / 16777216) % 256 : Nat)) rfl (u8_mod ((b.body.length + 12) / 16777216))
   refine fp HF 1 14 [(77, vP g1 0)] ?_; clear HF; intro a HF
   refine fy HF HM 15 rfl rfl rfl (v := vB b.kind) (Yl.load1 rfl rfl (by kernel_rfl) (fun _ h => h.cell (i := 1) rfl (rfl))) ?_; clear HF; intro a HF
   refine from_op HF (i := 16) rfl rfl ?_
   refine e_slice HF HM (vs := [(0, vB ((b.body.length + 12) % 256 : Nat)), (1, vB (((b.body.length + 12) / 256) % 256 : Nat)), (2, vB (((b.body.length + 12) / 65536) % 256 : Nat)), (3, vB (((b.body.length + 12) / 16777216) % 256 : Nat)), (4, vB 113), (5, vB 116), (6, vB 1), (7, vB b.kind)]) (cs := #[vB ((b.body.length + 12) % 256 : Nat), vB (((b.body.length + 12) / 256) % 256 : Nat), vB (((b.body.length + 12) / 65536) % 256 : Nat), vB (((b.body.length + 12) / 16777216) % 256 : Nat), vB 113, vB 116, vB 1, vB b.kind]) rfl ei_u8 (by decide) rfl (by kernel_rfl) rfl (by decide) ?_
   clear HF HM; intro a w79 g79 HF HM
   refine fp HF 1 17 [(8, vS g79 8 8)] ?_; clear HF; intro a HF
   refine from_done rfl ?_
   replace HF := HF.to [(8, vS g79 8 8), (3, .slice A27 b.body.length c27), (31, .bool false), (11, .bool false), (2, .slice none 0 0), (1, vP g1 0)]
   refine wp_seq (from_start ?_)
   refine fp HF 2 0 [(81, .slice A27 b.body.length c27), (80, vS g79 8 8)] ?_; clear HF; intro a HF
   refine from_op HF (i := 2) rfl rfl ?_
   replace HM := HM.blkRow (i := 0) (n := 8) (size := 1) rfl rfl (by decide)
   refine e_append HF HM (i := 0) rfl ei_u8 rfl rfl rfl (news := (b.body.map B8)) (HM.rd (i := 1) rfl) (one_B8 _) (by omega) (by omega) rfl (by decide) ?_
   clear HF HM; intro a w82 A82 c82 HF HM hc82
   refine fp HF 1 3 [(2, .slice A82 (8 + b.body.length) c82)] ?_; clear HF; intro a HF
   refine from_done rfl ?_
   have hnA82 : 8 + b.body.length = b.raw.length := by rw [raw_length]
   replace HM := HM.reRow (i := 0) (ys := b.raw.map B8) rfl hnA82 (raw10 b)
   rw [hnA82] at hc82
   replace HF := HF.as (t := 2) (u := .slice A82 b.raw.length c82) rfl (by rw [hnA82])
   replace HF := HF.as (t := 82) (u := .slice A82 b.raw.length c82) rfl (by rw [hnA82])
   refine wp_ret ?_
   exact ret1 rfl HF (.tmp HF rfl) (⟨⟨_, _, rfl, HM.own (i := 0) rfl, hc82⟩, HM.below⟩)
set_option maxRecDepth 100000 in
set_option maxHeartbeats 4000000 in
theorem check10_any (b : Bk) (hok : b.Ok) (A : Option Addr) (c : Nat) (w : World) (hr : Rd w w.heap.size 11 A b.evs.length (b.evs.flatMap evL)) (hn : b.evs.length ≤ 1000000) :
    Calls Tryd.prog 30 #[.agg (b.cells A c)] w (Is w (.int .i64 (b.err : Int))) := by
 refine calls_enter (vs := [.agg (b.cells A c)]) Tryd.func30 rfl rfl (by kernel_rfl) (σ0 := [(0, .agg (b.cells A c))]) rfl ?_
 intro a HF
 have HM := Mem.start w
 refine wp_seq (from_start ?_)
 refine from_op HF (i := 0) rfl rfl ?_
 refine e_box HF HM (cs := (b.cells A c)) rfl rfl rfl rfl (by decide) ?_
 clear HF HM; intro a w1 g1 HF HM
 refine fp HF 1 1 [(2, vI 0)] ?_; clear HF; intro a HF
 refine from_done rfl ?_
 refine wp_seq (wp_seq (from_start ?_))
 refine fy HF HM 0 rfl rfl rfl (v := .agg (b.cells A c)) (Yl.loadS rfl rfl si_rbk rfl (fun _ h => range_of_block (h.blk (i := 0) rfl))) ?_; clear HF; intro a HF
 refine from_op HF (i := 1) rfl rfl ?_
 refine e_call HF (vs := [.agg (b.cells A c)]) rfl (by kernel_rfl) (by kernel_rfl) rfl (by decide) (fits10_any b hok A c _ (HM.old hr) hn) ?_
 rintro _ w4 ⟨rfl, hbw⟩
 refine ⟨_, rfl, ?_⟩
 replace HM := HM.call hbw
 clear HF; intro a HF
 refine fp HF 1 2 [(5, .bool (!b.fits))] ?_; clear HF; intro a HF
 refine from_done rfl ?_
 rcases Bool.eq_false_or_eq_true (!b.fits) with hb5 | hb5
 ·have HF := HF.on 5 hb5
  have hf : b.fits = false := by simpa using hb5
  refine cond_true HF rfl (wp_seq (from_start ?_))
  refine fp HF 1 0 [(2, vI 107)] ?_; clear HF; intro a HF
  refine from_done rfl ?_
  refine wp_ret ?_
  exact ret1 rfl HF (.tmp HF rfl) (⟨by rw [show b.err = 107 from by unfold Bk.err; rw [if_pos hf]]; rfl, HM.below⟩)
 ·have HF := HF.on 5 hb5
  have hf : b.fits = true := by simpa using hb5
  refine cond_false HF rfl (wp_skip (wp_seq (wp_seq (from_start ?_))))
  refine fy HF HM 0 rfl rfl rfl (v := .agg (b.cells A c)) (Yl.loadS rfl rfl si_rbk rfl (fun _ h => range_of_block (h.blk (i := 0) rfl))) ?_; clear HF; intro a HF
  refine from_op HF (i := 1) rfl rfl ?_
  refine e_call HF (vs := [.agg (b.cells A c)]) rfl (by kernel_rfl) (by kernel_rfl) rfl (by decide) (bytes10_any b (hok) A c _ (HM.old hr) (hn) (hf)) ?_
  rintro _ w7 ⟨⟨A7, c7, rfl, ho, hc7⟩, hbw⟩
  refine ⟨_, rfl, ?_⟩
  replace HM := HM.callRow hbw ho
  clear HF; intro a HF
  have hrw7 := raw_length b
  have hbl7 := body_length b
  refine fy HF HM 2 rfl rfl rfl (Yl.len rfl rfl (by kernel_rfl)) ?_; clear HF; intro a HF
  refine fp HF 1 3 [(9, vI (IntKind.i64.wrap ((((b.raw).length : Nat) : Int) + 4)))] ?_; clear HF; intro a HF
  replace HF := HF.as (t := 9) (u := vI ((b.raw).length + 4 : Nat)) rfl (i64_nat (by omega) (by omega))
  refine fp HF 1 4 [(10, .bool (decide ((((b.raw).length + 4 : Nat) : Int) > (4096 : Int))))] ?_; clear HF; intro a HF
  refine from_done rfl ?_
  replace HM := HM.picks (fs' := [.blk g1 (b.cells A c) 39]) [1] (by decide) rfl
  rcases Bool.eq_false_or_eq_true (decide ((((b.raw).length + 4 : Nat) : Int) > (4096 : Int))) with hb10 | hb10
  ·have HF := HF.on 10 hb10
   have hd10 := of_decide_eq_true hb10
   refine cond_true HF rfl (wp_seq (from_start ?_))
   refine fp HF 1 0 [(2, vI 3)] ?_; clear HF; intro a HF
   refine from_done rfl ?_
   refine wp_ret ?_
   exact ret1 rfl HF (.tmp HF rfl) (⟨by rw [show b.err = 3 from by unfold Bk.err; rw [if_neg (by rw [hf]; decide), if_pos (by omega)]]; rfl, HM.below⟩)
  ·have HF := HF.on 10 hb10
   have hd10 := of_decide_eq_false hb10
   refine cond_false HF rfl (wp_skip (wp_seq (from_start ?_)))
   refine fp HF 1 0 [(2, vI 0)] ?_; clear HF; intro a HF
   refine from_done rfl ?_
   refine wp_ret ?_
   exact ret1 rfl HF (.tmp HF rfl) (⟨by rw [show b.err = 0 from by unfold Bk.err; rw [if_neg (by rw [hf]; decide), if_neg (by omega)]]; rfl, HM.below⟩)
set_option maxRecDepth 100000 in
set_option maxHeartbeats 4000000 in
theorem write10_any (b : Bk) (hok : b.Ok) (A : Option Addr) (c : Nat) (w : World) (hr : Rd w w.heap.size 11 A b.evs.length (b.evs.flatMap evL)) (hn : b.evs.length ≤ 1000000) :
    Calls Tryd.prog 21 #[.agg (b.cells A c)] w (BytesIs w b.err b.out) := by
 refine calls_enter (vs := [.agg (b.cells A c)]) Tryd.func21 rfl rfl (by kernel_rfl) (σ0 := [(0, .agg (b.cells A c))]) rfl ?_
 intro a HF
 have HM := Mem.start w
 refine wp_seq (from_start ?_)
 refine from_op HF (i := 0) rfl rfl ?_
 refine e_box HF HM (cs := (b.cells A c)) rfl rfl rfl rfl (by decide) ?_
 clear HF HM; intro a w1 g1 HF HM
 refine fp HF 2 1 [(3, vI 0), (2, .slice none 0 0)] ?_; clear HF; intro a HF
 refine from_done rfl ?_
 refine wp_seq (wp_seq (from_start ?_))
 refine fy HF HM 0 rfl rfl rfl (v := .agg (b.cells A c)) (Yl.loadS rfl rfl si_rbk rfl (fun _ h => range_of_block (h.blk (i := 0) rfl))) ?_; clear HF; intro a HF
 refine from_op HF (i := 1) rfl rfl ?_
 refine e_call HF (vs := [.agg (b.cells A c)]) rfl (by kernel_rfl) (by kernel_rfl) rfl (by decide) (check10_any b hok A c _ (HM.old hr) hn) ?_
 rintro _ w6 ⟨rfl, hbw⟩
 refine ⟨_, rfl, ?_⟩
 replace HM := HM.call hbw
 clear HF; intro a HF
 refine fp HF 1 2 [(4, vI b.err)] ?_; clear HF; intro a HF
 refine from_done rfl ?_
 refine wp_seq (from_start ?_)
 refine fp HF 2 0 [(8, .bool ((b.err : Int) != (0 : Int))), (7, vI b.err)] ?_; clear HF; intro a HF
 refine from_done rfl ?_
 rcases Bool.eq_false_or_eq_true ((b.err : Int) != (0 : Int)) with hb8 | hb8
 ·have HF := HF.on 8 hb8
  have hd8 := bne_iff_ne.1 hb8
  have he : b.err ≠ 0 := by omega
  refine cond_true HF rfl (wp_seq (from_start ?_))
  refine fp HF 3 0 [(3, vI b.err), (2, .slice none 0 0), (9, vI b.err)] ?_; clear HF; intro a HF
  refine from_done rfl ?_
  refine wp_ret ?_
  exact ret2 rfl HF (.tmp HF rfl) (.tmp HF rfl) (bk_nil rfl he HM.below)
 ·have HF := HF.on 8 hb8
  have hd8 := bne_eq_false_iff_eq.1 hb8
  have he : b.err = 0 := by omega
  obtain ⟨hf, hbb⟩ := err_zero he
  refine cond_false HF rfl (wp_skip (wp_seq (from_start ?_)))
  refine fy HF HM 0 rfl rfl rfl (v := .agg (b.cells A c)) (Yl.loadS rfl rfl si_rbk rfl (fun _ h => range_of_block (h.blk (i := 0) rfl))) ?_; clear HF; intro a HF
  refine from_op HF (i := 1) rfl rfl ?_
  refine e_call HF (vs := [.agg (b.cells A c)]) rfl (by kernel_rfl) (by kernel_rfl) rfl (by decide) (bytes10_any b (hok) A c _ (HM.old hr) (hn) (hf)) ?_
  rintro _ w11 ⟨⟨A11, c11, rfl, ho, hc11⟩, hbw⟩
  refine ⟨_, rfl, ?_⟩
  replace HM := HM.callRow hbw ho
  clear HF; intro a HF
  have hrw11 := raw_length b
  have hbl11 := body_length b
  refine from_op HF (i := 2) rfl rfl ?_
  refine e_call HF (vs := [.slice A11 ((b.raw).length) c11]) rfl (by kernel_rfl) (by kernel_rfl) rfl (by decide) (seal04_any _ _ _ b.raw _ (HM.rd (i := 0) rfl) rfl (by omega) (raw_lt hok)) ?_
  rintro _ w12 ⟨⟨A12, c12, rfl, ho, hc12⟩, hbw⟩
  refine ⟨_, rfl, ?_⟩
  replace HM := HM.callRow hbw ho
  clear HF; intro a HF
  refine fp HF 2 3 [(3, vI 0), (2, .slice A12 (((sealL b.raw)).length) c12)] ?_; clear HF; intro a HF
  refine from_done rfl ?_
  replace HM := HM.picks (fs' := [.row (.slice A12 (((sealL b.raw)).length) c12) (((sealL b.raw)).length) ((sealL b.raw).map B8) 5 1, .blk g1 (b.cells A c) 39]) [0, 2] (by decide) rfl
  refine wp_ret ?_
  exact ret2 rfl HF (.tmp HF rfl) (.tmp HF rfl) (bk_ok he (HM.own (i := 0) rfl) hc12 HM.below)
end Go.Proofs.YtnakabnmjnfpcaaDoor

