/- Parts. -/
import Derived.Test.YtfeheccoijnbaaaDoorQsDoorE
import Derived.Test.YtfeheccoijnbaaaDoorQsMade
import Derived.Test.YtfeheccoijnbaaaDoorQsZ2
set_option linter.all false
set_option maxRecDepth 100000
set_option maxHeartbeats 8000000
namespace Go.Proofs.YtfeheccoijnbaaaDoor
open Go.RowKit
def It.zero : It := ⟨Ev.zero, 0⟩
theorem si_it : SI Tryd.prog 47 12 := ⟨by kernel_rfl, by kernel_rfl⟩
theorem ei_it : EI Tryd.prog 22 47 (.agg It.zero.cells) 12 88 := ⟨by kernel_rfl, by kernel_rfl, rfl, by omega⟩
theorem qd7 : EI Tryd.prog 35 41 (.agg #[.int .u8 0, .int .u8 0, .int .i64 0, .int .i64 0, .slice none 0 0]) 5 48 := ⟨by kernel_rfl, by kernel_rfl, rfl, by omega⟩
theorem qvm (x : It) : ∀ v ∈ x.cells.toList, v.oneCell' = true := by intro v hv; simp [It.cells] at hv; rcases hv with rfl | rfl | rfl | rfl | rfl | rfl | rfl | rfl | rfl | rfl | rfl | rfl <;> rfl
section
variable {P : Program} {S : World → Prop} {σ : List (Nat × Value)} {o : Oper}
theorem Yl.qyb {t e : TypeId} {z : Value} {size bytes : Nat} (ei : EI P t e z size bytes) {x lo hi mx : Operand} {A : Option Addr} {m c i j q : Nat} {k k' k2 : IntKind} (hop : o.op = .slice t x (some lo) (some hi) (some mx)) (hx : look σ x = some (.slice A m c)) (hl : look σ lo = some (.int k (i : Int))) (hh : look σ hi = some (.int k' (j : Int))) (hm : look σ mx = some (.int k2 (q : Int))) (hij : i ≤ j) (hj : j ≤ q) (hq : q ≤ c) :
  Yl P S σ o (.slice (if q = i then A else A.map (·.add (i * size))) (j - i) (q - i)) := fun a n D HF w hS => by
 obtain ⟨inf, hinf, _, hs, _⟩ := info_parts ei.hi
 have e1 : (Instr.sliceAt t (.slice A m c) (some (.int k (i : Int))) (some (.int k' (j : Int))) (some (.int k2 (q : Int)))).run P w = .ok (.slice (if q = i then A else A.map (·.add (i * size))) (j - i) (q - i)) w := by
  subst hs
  simp [Instr.sliceAt, run_underlying ei.ht, Instr.slice, Instr.sliceBounds, Instr.sliceBound, asIntOf, hij, hj, hq, sizeOf, typeInfo, hinf]
 unfold execOp
 simp only [hop, HF.eval hx, HF.eval hl, HF.eval hh, HF.eval hm, Option.map_some, Sem.run_bind, e1, Result.andThen_ok]
 rfl
end
theorem qkz {α : Type} (f : α → List Value) (sz : Nat) (hf : ∀ x, (f x).length = sz) : ∀ (l : List α) (k : Nat), (l.flatMap f).take (k * sz) = (l.take k).flatMap f
 | [], _ => by simp
 | _ :: _, 0 => by simp
 | x :: l, k + 1 => by
  rw [List.flatMap_cons, List.take_succ_cons, List.flatMap_cons, List.take_append, List.take_of_length_le (by rw [hf, Nat.succ_mul]; omega), hf, ← qkz f sz hf l k]
  congr 2
  rw [Nat.succ_mul]; omega
theorem qk0 {α : Type} (f : α → List Value) (sz : Nat) (hf : ∀ x, (f x).length = sz) : ∀ (l : List α) (k : Nat), (l.flatMap f).drop (k * sz) = (l.drop k).flatMap f
 | [], _ => by simp
 | _ :: _, 0 => by simp
 | x :: l, k + 1 => by
  rw [List.flatMap_cons, List.drop_succ_cons, List.drop_append, List.drop_of_length_le (by rw [hf, Nat.succ_mul]; omega), hf, ← qk0 f sz hf l k, List.nil_append]
  congr 1
  rw [Nat.succ_mul]; omega
theorem Rd.qs3 {α : Type} {f : α → List Value} {sz : Nat} (hf : ∀ x, (f x).length = sz) {w : World} {B k : Nat} {A : Option Addr} {l : List α} (h : Rd w B sz A l.length (l.flatMap f)) (hk : k ≤ l.length) : Rd w B sz A k ((l.take k).flatMap f) := by
 have h1 := h.upto hk
 rwa [qkz f sz hf] at h1
theorem Rd.qyg {α : Type} {f : α → List Value} {sz : Nat} (hf : ∀ x, (f x).length = sz) {w : World} {B k c : Nat} {A : Option Addr} {l : List α} (h : Rd w B sz A l.length (l.flatMap f)) (hk : k ≤ l.length) (hc : l.length ≤ c) : Rd w B sz (if c = k then A else A.map (·.add (k * sz))) (l.drop k).length ((l.drop k).flatMap f) := by
 have h1 := h.from hk hc
 rwa [qk0 f sz hf, ← List.length_drop] at h1
theorem qd0 {α : Type} {l : List α} {k : Nat} (d : α) (h : k < l.length) : l.take (k + 1) = l.take k ++ [l.getD k d] := by
 rw [List.take_succ_eq_append_getElem h, List.getD_eq_getElem?_getD, List.getElem?_eq_getElem h]
 rfl
theorem qor {l : List It} {k : Nat} (h : k < l.length) : (evsI (l.take (k + 1))).flatMap evL = (evsI (l.take k)).flatMap evL ++ evL (l.getD k It.zero).e := by
 rw [qd0 It.zero h]
 unfold evsI
 rw [List.map_append, List.flatMap_append]
 simp
theorem qos {l : List It} {k : Nat} (h : k < l.length) : (befI (l.take (k + 1))).map I64i = (befI (l.take k)).map I64i ++ [I64i (l.getD k It.zero).before] := by
 rw [qd0 It.zero h]
 unfold befI
 rw [List.map_append, List.map_append]
 rfl
theorem qni (l : List It) : (befI l).length = l.length := by unfold befI; rw [List.length_map]
theorem qwl {l : List It} (h : ∀ x ∈ l, x.Ok) : ∀ e ∈ evsI l, e.Ok := fun e he => by
 unfold evsI at he
 obtain ⟨x, hx, rfl⟩ := List.mem_map.1 he
 exact (h x hx).e
theorem qui (l : List Int) : ∀ v ∈ l.map I64i, v.oneCell' = true := by
 intro v hv
 obtain ⟨_, _, rfl⟩ := List.mem_map.1 hv
 rfl
theorem qcc {α : Type} {l : List α} {k : Nat} (d : α) (h : k < l.length) : l.drop k = l.getD k d :: l.drop (k + 1) := by
 rw [List.drop_eq_getElem_cons h, List.getD_eq_getElem?_getD, List.getElem?_eq_getElem h]
 rfl
theorem qr1 {xs : List Int} {k : Nat} {r : Int} (h : k < xs.length) : qbp r (xs.drop k) = (decide (0 ≤ xs.getD k 0 ∧ xs.getD k 0 ≤ r) && qbp (r - xs.getD k 0) (xs.drop (k + 1))) := by
 rw [qcc 0 h, qbp]
theorem qot {cpu : Nat} {l : List It} (h : 0 < l.length) : cpuOk cpu l = decide ((l.getD 0 It.zero).e.cpu = cpu) := by
 cases l with
 | nil => cases h
 | cons x r => rfl
theorem qr2 {cpu : Nat} {l : List It} (h : l.length = 0) : cpuOk cpu l = true := by
 cases l with
 | nil => rfl
 | cons x r => cases h
theorem qmd {cpu : Nat} {l : List It} {opn : Int} (h : (rowR (evsI l)).2 ≠ 0) : qac cpu l opn = false := by
 unfold qac
 rw [decide_eq_false h, Bool.false_and]
theorem qgb {cpu : Nat} {l : List It} {opn : Int} (h : qbp qdi (opn :: befI l) = false) : qac cpu l opn = false := by
 unfold qac
 rw [h, Bool.false_and, Bool.and_false]
theorem qii {cpu : Nat} {l : List It} {opn : Int} (h1 : (rowR (evsI l)).2 = 0) (h2 : qbp qdi (opn :: befI l) = true) : qac cpu l opn = cpuOk cpu l := by
 unfold qac
 rw [h2, decide_eq_true h1, Bool.true_and, Bool.true_and]
theorem qhe {l : List It} {k j : Nat} (hj : j < k) (hk : k ≤ l.length) : sumI (befI (l.take (j + 1))) = sumI (befI (l.take j)) + (befI (l.take k)).getD j 0 := by
 rw [qd0 It.zero (by omega : j < l.length)]
 unfold befI
 rw [List.map_append, qjg]
 have h1 : (List.map It.before (l.take k)).getD j 0 = (l.getD j It.zero).before := by
  rw [List.getD_eq_getElem?_getD, List.getElem?_map, List.getElem?_take, if_pos hj, List.getD_eq_getElem?_getD, List.getElem?_eq_getElem (by omega)]
  rfl
 rw [h1]
 simp [sumI]
theorem GoodI.part {cpu : Nat} {l : List It} {opn : Int} (h : GoodI cpu l opn) (j : Nat) : 0 ≤ sumI (befI (l.take j)) ∧ sumI (befI (l.take j)) + opn ≤ 281474976710656 := by
 have h1 := qfx l j
 have h2 := qb1 (l := l.take j) (fun x hx => h.bef x (List.mem_of_mem_take hx))
 have h3 := qb1 (l := l.drop j) (fun x hx => h.bef x (List.mem_of_mem_drop hx))
 have h4 := h.sum
 omega
theorem qk1 {cpu : Nat} {l : List It} {opn : Int} {k : Nat} (hk : k ≤ l.length) {lo : Int} (hlo : lo = (ofB cpu l opn k).lost) (A : Option Addr) (c : Nat) : #[.int .u8 1, .int .u8 (cpu : Int), .int .i64 lo, .int .i64 0, .slice A k c] = (ofB cpu l opn k).cells A c := by
 subst hlo
 unfold Bk.cells
 rw [qej hk]
 rfl
theorem qwm {cpu : Nat} {l : List It} {opn : Int} {k : Nat} (h : k = l.length) : (ofB cpu l opn k).lost = sumI (befI (l.take k)) + opn := by
 show _ + (if k = l.length then opn else 0) = _
 rw [if_pos h]
theorem qwn {cpu : Nat} {l : List It} {opn : Int} {k : Nat} (h : k ≠ l.length) : (ofB cpu l opn k).lost = sumI (befI (l.take k)) := by
 show _ + (if k = l.length then opn else 0) = _
 rw [if_neg h, Int.add_zero]
end Go.Proofs.YtfeheccoijnbaaaDoor
namespace Go.Proofs.YtfeheccoijnbaaaDoor
open Go.RowKit Go.ChangeShapes Go.WideShapes Go.ChangeAt
section
variable {H : Type} {enc : TypeId × Value → H} {P : Program} {W : World} {sp : Nat → Bool} {held : Bool}
theorem flat_get {sz : Nat} : ∀ (css : List (List Value)), (∀ l ∈ css, l.length = sz) → ∀ p u, (css.flatMap id)[p]? = some u → ∃ i j, ∃ hi : i < css.length, j < sz ∧ p = i * sz + j ∧ css[i][j]? = some u := by
 intro css
 induction css with
 | nil => intro _ p u h; simp at h
 | cons l r ih =>
  intro h p u hu
  have hll := h l (by simp)
  rw [List.flatMap_cons] at hu
  by_cases hp : p < sz
  ·rw [List.getElem?_append_left (by simp only [id]; omega)] at hu
   exact ⟨0, p, by simp, hp, by omega, hu⟩
  ·rw [List.getElem?_append_right (by simp only [id]; omega)] at hu
   simp only [id] at hu
   rw [hll] at hu
   obtain ⟨i, j, hi, hj, hpj, hu'⟩ := ih (fun y hy => h y (by simp [hy])) _ u hu
   exact ⟨i + 1, j, by simp; omega, hj, by rw [Nat.succ_mul]; omega, by simpa using hu'⟩
theorem qr3 {sz : Nat} : ∀ (css : List (List Value)), (∀ l ∈ css, l.length = sz) → (css.flatMap id).length = css.length * sz := by
 intro css
 induction css with
 | nil => simp
 | cons l r ih => intro h; rw [List.flatMap_cons, List.length_append, ih (fun y hy => h y (by simp [hy])), List.length_cons, Nat.succ_mul]; have := h l (by simp); simp only [id]; omega
theorem qij {α : Type} (f : α → List Value) (Ok : α → Prop) {t e : TypeId} {sz : Nat} (ht : P.underlying t = some (.slice e)) (hsz : P.cellsOf e = sz) (h0 : 0 < sz) (hf : ∀ x, (f x).length = sz)
  (hE : ∀ m l y, DataW.trod enc P W 0 sp held m e l = some y → ∃ x, f x = l ∧ Ok x) {fuel : Nat} {cs : List Value} {x : DataW H × List MemPlace} (h : DataW.trod enc P W 0 sp held fuel t cs = some x) :
  ∃ (A : Option Addr) (c : Nat) (l : List α), cs = [.slice A l.length c] ∧ l.length ≤ c ∧ c ≤ maxLen ∧ (∀ x ∈ l, Ok x) ∧ Rd W W.heap.size sz A l.length (l.flatMap f) := by
 rcases DataW.trod_slice ht h with ⟨hc, _⟩ | ⟨a, len, cap, elems, rest, m, _, hc, _, _, hl, hm, hlen, hel, _⟩
 ·exact ⟨none, 0, [], hc, Nat.le_refl _, by unfold maxLen; omega, by simp, Rd.nil⟩
 ·have hall : ∀ i, i < len → ∃ x : α, W.cells? 0 (a.add (i * sz)) sz = some (f x) ∧ Ok x := by
   intro i hi
   have h1 := hel i hi
   rw [hsz, List.getElem?_eq_getElem (by omega : i < elems.length)] at h1
   obtain ⟨l, h2, h3⟩ := Option.bind_eq_some_iff.1 h1
   obtain ⟨x, rfl, hx⟩ := hE _ _ _ h3
   exact ⟨x, h2, hx⟩
  have key : ∀ k, k ≤ len → ∃ xs : List α, xs.length = k ∧ ∀ i (hi : i < xs.length), W.cells? 0 (a.add (i * sz)) sz = some (f xs[i]) ∧ Ok xs[i] := by
   intro k
   induction k with
   | zero => intro _; exact ⟨[], rfl, fun i hi => by simp at hi⟩
   | succ k ih =>
    intro hk
    obtain ⟨xs, h1, h2⟩ := ih (by omega)
    obtain ⟨x, h3, h4⟩ := hall k (by omega)
    refine ⟨xs ++ [x], by simp [h1], fun i hi => ?_⟩
    by_cases hik : i < xs.length
    ·rw [List.getElem_append_left hik]; exact h2 i hik
    ·obtain rfl : i = xs.length := by simp at hi; omega
     rw [List.getElem_append_right (Nat.le_refl _)]
     simp only [Nat.sub_self, List.getElem_cons_zero, h1]
     exact ⟨h3, h4⟩
  obtain ⟨xs, h1, h2⟩ := key len (Nat.le_refl _)
  have hfm : xs.flatMap f = (xs.map f).flatMap id := by rw [List.flatMap_map]; rfl
  have hll : ∀ l ∈ xs.map f, l.length = sz := fun l hl' => by obtain ⟨x, _, rfl⟩ := List.mem_map.1 hl'; exact hf x
  have hat : ∀ i (hi : i < xs.length) j, j < sz → W.cell? (a.add (i * sz + j)) = (f xs[i])[j]? := by
   intro i hi j hj
   have := (World.cells?_some (h2 i hi).1).2.2 j hj
   rwa [qjr] at this
  refine ⟨some a, cap, xs, by rw [hc, h1], by omega, hm, fun x hx => by obtain ⟨i, hi, rfl⟩ := List.getElem_of_mem hx; exact (h2 i hi).2, ⟨by rw [hfm, qr3 _ hll, List.length_map], fun hn => ⟨a, rfl, ?_, ?_⟩⟩⟩
  ·have h3 := hat 0 hn 0 h0
   have h4 := hf xs[0]
   rw [List.getElem?_eq_getElem (by omega)] at h3
   have := World.block_lt_of_cell? W _ h3
   simpa [Addr.add] using this
  ·intro p u hu
   rw [hfm] at hu
   obtain ⟨i, j, hi, hj, rfl, hu'⟩ := flat_get _ hll p u hu
   rw [List.length_map] at hi
   rw [hat i hi j hj, ← hu', List.getElem_map]
end
section
variable {H : Type} {enc : TypeId × Value → H} {W : World} {b0 : Nat} {v : Value} {d : DataW H} {p : List MemPlace}
end
end Go.Proofs.YtfeheccoijnbaaaDoor
namespace Go.Proofs.YtfeheccoijnbaaaDoor
open Go.RowKit
def qq : Nat → List Nat → List Bk × Nat × Nat
 | 0, _ => ([], 0, 0)
 | f + 1, l => if l.length = 0 then ([], 0, 0) else
  if (readB l).2.2 ≠ 0 then ([], 0, (readB l).2.2) else
   ((readB l).1 :: (qq f (l.drop (readB l).2.1)).1, (readB l).2.1 + (qq f (l.drop (readB l).2.1)).2.1, (qq f (l.drop (readB l).2.1)).2.2)
def qa7 (l : List Nat) : List Bk × Nat × Nat := if 524288 < l.length then ([], 0, 3) else qq l.length l
theorem qhh {f : Nat} {l : List Nat} (h : l.length = 0) : qq f l = ([], 0, 0) := by
 cases f with
 | zero => rfl
 | succ f => rw [qq, if_pos h]
theorem qek {f : Nat} {l : List Nat} {b : Bk} {m er : Nat} (hf : 0 < f) (h : 0 < l.length) (hq : readB l = (b, m, er)) (he : er ≠ 0) : qq f l = ([], 0, er) := by
 cases f with
 | zero => omega
 | succ f => rw [qq, if_neg (by omega), if_pos (by rw [hq]; exact he), hq]
theorem qdl {f : Nat} {l : List Nat} {b : Bk} {m : Nat} (hf : 0 < f) (h : 0 < l.length) (hq : readB l = (b, m, 0)) : qq f l = (b :: (qq (f - 1) (l.drop m)).1, m + (qq (f - 1) (l.drop m)).2.1, (qq (f - 1) (l.drop m)).2.2) := by
 cases f with
 | zero => omega
 | succ f => rw [qq, if_neg (by omega), if_neg (by rw [hq]; exact fun h => h rfl), hq]; rfl
def qfy (W : World) (lp : Nat) (Inv : List Nat → List Fact → Prop) (Stop : List Fact → Prop) : Prop :=
 ∀ (rest : List Nat) (F fr : List Fact) (w : World) (A : Option Addr) (c : Nat) (b : Bk) (m er : Nat), Inv rest F → readB rest = (b, m, er) → 0 < rest.length → (∀ x ∈ rest, x < 256) → b.evs.length ≤ c → Mem W w (.row (.slice A b.evs.length c) b.evs.length (b.evs.flatMap evL) 45 11 :: (F ++ fr)) →
  YieldAt Fence.wide 0 Tryd.prog lp #[.agg #[.int .u8 (b.kind : Int), .int .u8 (b.cpu : Int), .int .i64 b.lost, .int .i64 b.next, .slice A b.evs.length c, .int .i64 (m : Int)], .int .i64 (er : Int)] w fun e w' => ∃ F', Mem W w' (F' ++ fr) ∧ ((er = 0 ∧ e = .returned (.bool true) ∧ Inv (rest.drop m) F') ∨ (er ≠ 0 ∧ e = .returned (.bool false) ∧ Stop F'))
def qr5 (W : World) (Inv : List Nat → List Fact → Prop) (Stop : List Fact → Prop) (r : Ending) (w' : World) : Prop := ∃ v, r = .returned v ∧ ∃ F', Mem W w' F' ∧ (Inv [] F' ∨ Stop F')
theorem qhv {W : World} {fr : List Fact} {er : Nat} {I S : List Fact → Prop} : ∀ (e : Ending) (w' : World), (∃ F', Mem W w' (F' ++ fr) ∧ ((er = 0 ∧ e = .returned (.bool true) ∧ I F') ∨ (er ≠ 0 ∧ e = .returned (.bool false) ∧ S F'))) → ∃ v, e = .returned v
 | _, _, ⟨_, _, .inl ⟨_, h, _⟩⟩ => ⟨_, h⟩
 | _, _, ⟨_, _, .inr ⟨_, h, _⟩⟩ => ⟨_, h⟩
theorem Rd.qyh {w : World} {B k c : Nat} {A : Option Addr} {l : List Nat} (h : Rd w B 1 A l.length (l.map B8)) (hk : k ≤ l.length) (hc : l.length ≤ c) : Rd w B 1 (if c = k then A else A.map (·.add (k * 1))) (l.drop k).length ((l.drop k).map B8) := by
 rw [List.length_drop]
 exact h.qnx hk hc
theorem qd1 (A : Option Addr) (n c : Nat) (l : List It) (w : World) (hr : Rd w w.heap.size 12 A n (l.flatMap itL)) (hln : l.length = n) (hn : n ≤ 1000000) :
    Calls Tryd.prog 36 #[.slice A n c] w fun r w' => (∃ A c, r = .returned (.slice A n c) ∧ w'.ownsRow w.heap.size 45 11 (.slice A n c) n ((evsI l).flatMap evL) ∧ n ≤ c) ∧ Below w.heap.size w w' := by
 refine qg (vs := [.slice A n c]) Tryd.func36 rfl rfl (by kernel_rfl) (σ0 := [(0, .slice A n c)]) rfl ?_
 intro a HF
 have HM := Mem.start w
 refine wp_seq (qa ?_)
 refine fp HF 1 0 [(2, .slice none 0 0)] fun a HF => ?_
 refine qb rfl (wp_seq (qa ?_))
 refine fp HF 1 0 [(3, .slice none 0 0)] fun a HF => ?_
 refine qb rfl ?_
 replace HM := HM.nil 45 11
 refine wp_seq (wp_seq (qa ?_))
 refine fp HF 1 0 [(6, .slice A n c)] fun a HF => ?_
 refine fy HF HM 1 rfl rfl rfl (Yl.len rfl rfl (by kernel_rfl)) fun a HF => ?_
 refine fp HF 1 2 [(8, vI 0)] fun a HF => ?_
 refine qb rfl (wp_block ?_)
 refine zr (fun mS aS wS => ∃ (k : Nat) (Ak : Option Addr) (ck : Nat), (k ≤ n) ∧ (k ≤ ck) ∧ mS = n - k ∧ Fr aS 19 [] [(8, vI k), (7, vI n), (6, .slice A n c), (3, .slice Ak k ck), (2, .slice none 0 0)] ∧ Mem w wS [.row (.slice Ak k ck) k ((evsI (l.take k)).flatMap evL) 45 11]) (m := n - 0) ⟨0, none, 0, Nat.zero_le _, Nat.le_refl _, rfl, HF.sub (by kernel_rfl), HM.picks [0] (by decide) rfl⟩ ?_
 clear HF HM; rintro mS a w_ ⟨k, Ak, ck, hk, hck, rfl, HF, HM⟩
 refine wp_seq (qa ?_)
 refine fp HF 1 0 [(9, .bool (decide ((k : Int) < (n : Int))))] fun a HF => ?_
 refine qb rfl (wp_seq ?_)
 rcases HF.tf 9 rfl with ⟨hb9, HF⟩ | ⟨hb9, HF⟩
 ·
  have hd9 := of_decide_eq_true hb9
  have hk9 : k < n := by omega
  refine qf HF rfl (wp_skip (wp_seq (wp_block (wp_seq (qa ?_)))))
  obtain ⟨gA, oA, rfl, _⟩ := hr.qaq (Nat.lt_of_le_of_lt (Nat.zero_le _) (show k < n from by omega)) (by decide)
  refine fy HF HM 0 rfl rfl rfl (v := vP gA (oA + k * 12)) (Yl.ix gA oA k 12 rfl rfl rfl) fun a HF => ?_
  refine fy HF HM 1 rfl rfl rfl (v := .agg ((l.getD k It.zero).cells)) (Yl.zh rfl rfl si_it rfl (fun _ h => (h.old hr).qca qc3 ((getD_at It.zero (k := k) (by first | omega | (simp; omega)))))) fun a HF => ?_
  refine fo HF 2 rfl rfl ?_
  refine qr HF HM (cs := #[vI 0, vI 0, vB 0, vB 0, vI 0, vI 0, vI 0, vI 0, vI 0, vQ 0, vI 0, vI 0]) rfl (by kernel_rfl) rfl (by decide) ?_
  clear HF HM; intro a w5 g5 HF HM
  refine fo HF 3 rfl rfl ?_
  refine e_sa HF HM 0 rfl rfl rfl rfl rfl si_it rfl rfl (qvm (l.getD k It.zero)) ?_
  clear HM; intro w4_3 HM
  refine qb rfl (qa ?_)
  refine fp HF 2 0 [(13, vP g5 0), (12, .slice Ak k ck)] fun a HF => ?_
  refine fy HF HM 2 rfl rfl rfl (v := .agg #[vI ((l.getD k It.zero).e.seq), vI ((l.getD k It.zero).e.time), vB ((l.getD k It.zero).e.cpu), vB ((l.getD k It.zero).e.kind), vI ((l.getD k It.zero).e.task), vI ((l.getD k It.zero).e.group), vI ((l.getD k It.zero).e.to), vI ((l.getD k It.zero).e.weight), vI ((l.getD k It.zero).e.ticks), vQ ((l.getD k It.zero).e.mask), vI ((l.getD k It.zero).e.got)]) (Yl.zh rfl rfl ⟨(by kernel_rfl), (by kernel_rfl)⟩ rfl (fun _ h => h.sub (i := 0) rfl 0 rfl)) fun a HF => ?_
  refine fo HF 3 rfl rfl ?_
  refine qap HF HM (vs := [(0, .agg #[vI ((l.getD k It.zero).e.seq), vI ((l.getD k It.zero).e.time), vB ((l.getD k It.zero).e.cpu), vB ((l.getD k It.zero).e.kind), vI ((l.getD k It.zero).e.task), vI ((l.getD k It.zero).e.group), vI ((l.getD k It.zero).e.to), vI ((l.getD k It.zero).e.weight), vI ((l.getD k It.zero).e.ticks), vQ ((l.getD k It.zero).e.mask), vI ((l.getD k It.zero).e.got)])]) (cs := #[vI ((l.getD k It.zero).e.seq), vI ((l.getD k It.zero).e.time), vB ((l.getD k It.zero).e.cpu), vB ((l.getD k It.zero).e.kind), vI ((l.getD k It.zero).e.task), vI ((l.getD k It.zero).e.group), vI ((l.getD k It.zero).e.to), vI ((l.getD k It.zero).e.weight), vI ((l.getD k It.zero).e.ticks), vQ ((l.getD k It.zero).e.mask), vI ((l.getD k It.zero).e.got)]) rfl ei_ev (by decide) rfl (by kernel_rfl) rfl (by decide) ?_
  clear HF HM; intro a w15 g15 HF HM
  refine fo HF 4 rfl rfl ?_
  refine zq HF HM (i := 2) rfl ei_ev rfl rfl rfl (news := (evL (l.getD k It.zero).e)) (HM.rdBlk (i := 0) (n := 1) (size := 11) rfl rfl) (qaf _) (by omega) (by omega) rfl (by decide) ?_
  clear HF HM; intro a w16 A16 c16 HF HM hc16
  rw [show ((evsI (l.take k)).flatMap evL) ++ (evL (l.getD k It.zero).e) = ((evsI (l.take (k + 1))).flatMap evL) from by rw [qor (by omega)]] at HM
  refine fp HF 1 5 [(3, .slice A16 (k + 1) c16)] fun a HF => ?_
  refine qb rfl (qa ?_)
  refine fp HF 1 0 [(17, vI (IntKind.i64.wrap ((k : Int) + 1)))] fun a HF => ?_
  replace HF := HF.sp 17 (vI (k + 1 : Nat)) rfl (ql (by omega) (by omega))
  refine fp HF 1 1 [(8, vI (k + 1 : Nat))] fun a HF => ?_
  refine qb rfl ?_
  exact ⟨_, (by omega), k + 1, A16, c16, by omega, hc16, rfl, HF.sub (by kernel_rfl), HM.picks [2] (by decide) rfl⟩
 have hd9 := of_decide_eq_false hb9
 have hkn : k = n := by omega
 refine qe HF rfl (wp_exit (wp_seq (qa ?_)))
 refine fp HF 2 0 [(2, .slice Ak k ck)] fun a HF => ?_
 refine qb rfl (wp_ret ?_)
 exact ret1 rfl HF (.tmp HF rfl) (⟨⟨Ak, ck, by rw [hkn], by have h := HM.own (i := 0) rfl; rw [hkn, List.take_of_length_le (by omega)] at h; exact h, by omega⟩, HM.below⟩)
theorem qip (A : Option Addr) (n c : Nat) (l : List It) (w : World) (hr : Rd w w.heap.size 12 A n (l.flatMap itL)) (hln : l.length = n) (hn : n ≤ 1000000) :
    Calls Tryd.prog 37 #[.slice A n c] w fun r w' => (∃ A c, r = .returned (.slice A n c) ∧ w'.ownsRow w.heap.size 3 1 (.slice A n c) n ((befI l).map I64i) ∧ n ≤ c) ∧ Below w.heap.size w w' := by
 refine qg (vs := [.slice A n c]) Tryd.func37 rfl rfl (by kernel_rfl) (σ0 := [(0, .slice A n c)]) rfl ?_
 intro a HF
 have HM := Mem.start w
 refine wp_seq (qa ?_)
 refine fp HF 1 0 [(2, .slice none 0 0)] fun a HF => ?_
 refine qb rfl (wp_seq (qa ?_))
 refine fp HF 1 0 [(3, .slice none 0 0)] fun a HF => ?_
 refine qb rfl ?_
 replace HM := HM.nil 3 1
 refine wp_seq (wp_seq (qa ?_))
 refine fp HF 1 0 [(6, .slice A n c)] fun a HF => ?_
 refine fy HF HM 1 rfl rfl rfl (Yl.len rfl rfl (by kernel_rfl)) fun a HF => ?_
 refine fp HF 1 2 [(8, vI 0)] fun a HF => ?_
 refine qb rfl (wp_block ?_)
 refine zr (fun mS aS wS => ∃ (k : Nat) (Ak : Option Addr) (ck : Nat), (k ≤ n) ∧ (k ≤ ck) ∧ mS = n - k ∧ Fr aS 19 [] [(8, vI k), (7, vI n), (6, .slice A n c), (3, .slice Ak k ck), (2, .slice none 0 0)] ∧ Mem w wS [.row (.slice Ak k ck) k ((befI (l.take k)).map I64i) 3 1]) (m := n - 0) ⟨0, none, 0, Nat.zero_le _, Nat.le_refl _, rfl, HF.sub (by kernel_rfl), HM.picks [0] (by decide) rfl⟩ ?_
 clear HF HM; rintro mS a w_ ⟨k, Ak, ck, hk, hck, rfl, HF, HM⟩
 refine wp_seq (qa ?_)
 refine fp HF 1 0 [(9, .bool (decide ((k : Int) < (n : Int))))] fun a HF => ?_
 refine qb rfl (wp_seq ?_)
 rcases HF.tf 9 rfl with ⟨hb9, HF⟩ | ⟨hb9, HF⟩
 ·
  have hd9 := of_decide_eq_true hb9
  have hk9 : k < n := by omega
  refine qf HF rfl (wp_skip (wp_seq (wp_block (wp_seq (qa ?_)))))
  obtain ⟨gA, oA, rfl, _⟩ := hr.qaq (Nat.lt_of_le_of_lt (Nat.zero_le _) (show k < n from by omega)) (by decide)
  refine fy HF HM 0 rfl rfl rfl (v := vP gA (oA + k * 12)) (Yl.ix gA oA k 12 rfl rfl rfl) fun a HF => ?_
  refine fy HF HM 1 rfl rfl rfl (v := .agg ((l.getD k It.zero).cells)) (Yl.zh rfl rfl si_it rfl (fun _ h => (h.old hr).qca qc3 ((getD_at It.zero (k := k) (by first | omega | (simp; omega)))))) fun a HF => ?_
  refine fo HF 2 rfl rfl ?_
  refine qr HF HM (cs := #[vI 0, vI 0, vB 0, vB 0, vI 0, vI 0, vI 0, vI 0, vI 0, vQ 0, vI 0, vI 0]) rfl (by kernel_rfl) rfl (by decide) ?_
  clear HF HM; intro a w5 g5 HF HM
  refine fo HF 3 rfl rfl ?_
  refine e_sa HF HM 0 rfl rfl rfl rfl rfl si_it rfl rfl (qvm (l.getD k It.zero)) ?_
  clear HM; intro w4_3 HM
  refine qb rfl (qa ?_)
  refine fp HF 2 0 [(13, vP g5 11), (12, .slice Ak k ck)] fun a HF => ?_
  refine fy HF HM 2 rfl rfl rfl (v := vI ((l.getD k It.zero).before)) (Yl.qh rfl rfl (by kernel_rfl) (fun _ h => h.cell (i := 0) rfl (rfl))) fun a HF => ?_
  refine fo HF 3 rfl rfl ?_
  refine qap HF HM (vs := [(0, vI ((l.getD k It.zero).before))]) (cs := #[vI ((l.getD k It.zero).before)]) rfl qms (by decide) rfl (by kernel_rfl) rfl (by decide) ?_
  clear HF HM; intro a w15 g15 HF HM
  refine fo HF 4 rfl rfl ?_
  refine zq HF HM (i := 2) rfl qms rfl rfl rfl (news := [I64i (l.getD k It.zero).before]) (HM.rdBlk (i := 0) (n := 1) (size := 1) rfl rfl) (by intro v hv; simp at hv; subst hv; rfl) (by omega) (by omega) rfl (by decide) ?_
  clear HF HM; intro a w16 A16 c16 HF HM hc16
  rw [show ((befI (l.take k)).map I64i) ++ [I64i (l.getD k It.zero).before] = ((befI (l.take (k + 1))).map I64i) from by rw [qos (by omega)]] at HM
  refine fp HF 1 5 [(3, .slice A16 (k + 1) c16)] fun a HF => ?_
  refine qb rfl (qa ?_)
  refine fp HF 1 0 [(17, vI (IntKind.i64.wrap ((k : Int) + 1)))] fun a HF => ?_
  replace HF := HF.sp 17 (vI (k + 1 : Nat)) rfl (ql (by omega) (by omega))
  refine fp HF 1 1 [(8, vI (k + 1 : Nat))] fun a HF => ?_
  refine qb rfl ?_
  exact ⟨_, (by omega), k + 1, A16, c16, by omega, hc16, rfl, HF.sub (by kernel_rfl), HM.picks [2] (by decide) rfl⟩
 have hd9 := of_decide_eq_false hb9
 have hkn : k = n := by omega
 refine qe HF rfl (wp_exit (wp_seq (qa ?_)))
 refine fp HF 2 0 [(2, .slice Ak k ck)] fun a HF => ?_
 refine qb rfl (wp_ret ?_)
 exact ret1 rfl HF (.tmp HF rfl) (⟨⟨Ak, ck, by rw [hkn], by have h := HM.own (i := 0) rfl; rw [hkn, List.take_of_length_le (by omega)] at h; exact h, by omega⟩, HM.below⟩)
theorem qmn (cpu : Nat) (A : Option Addr) (n c : Nat) (l : List It) (opn : Int) (hok : ∀ x ∈ l, x.Ok) (ho : I64 opn) (B : Nat) (w : World) (hL : LaidX B w) (hB : B ≤ w.heap.size) (hr : Rd w w.heap.size 12 A n (l.flatMap itL)) (hln : l.length = n) (hn : n ≤ 1000000) :
    Calls Tryd.prog 34 #[.int .u8 (cpu : Int), .slice A n c, .int .i64 opn] w (Is w (.bool (qac cpu l opn))) := by
 refine qg (vs := [vB cpu, .slice A n c, vI opn]) Tryd.func34 rfl rfl (by kernel_rfl) (σ0 := [(0, vB cpu), (1, .slice A n c), (2, vI opn)]) rfl ?_
 intro a HF
 have HM := Mem.start w
 refine wp_seq (qa ?_)
 refine fp HF 1 0 [(6, .bool false)] fun a HF => ?_
 refine qb rfl (wp_seq (wp_seq (qa ?_)))
 refine fp HF 1 0 [(13, .slice A n c)] fun a HF => ?_
 refine fo HF 1 rfl rfl ?_
 refine e_cl HF [.slice A n c] rfl rfl (qd1 A n c l _ (HM.old hr) (hln) (by omega)) ?_
 rintro _ w14 ⟨⟨A14, c14, rfl, ho, hc14⟩, hbw⟩
 refine ⟨_, rfl, ?_⟩
 replace HM := HM.callRow hbw ho
 clear HF; intro a HF
 refine fo HF 2 rfl rfl ?_
 refine e_cl HF [.slice A14 n c14] rfl rfl (qvc A14 n c14 (evsI l) (qwl hok) B _ (hL.mem HM hB).laid (HM.le hB) (HM.rd (i := 0) rfl) (by omega) (i := (rowR (evsI l)).1) (er := (rowR (evsI l)).2) rfl) ?_
 rintro _ w15 ⟨rfl, hbw⟩
 refine ⟨_, rfl, ?_⟩
 replace HM := HM.call hbw
 clear HF; intro a HF
 refine fp HF 5 3 [(8, vI ((rowR (evsI l)).2))] fun a HF => ?_
 refine qb rfl (wp_seq (qa ?_))
 refine fp HF 2 0 [(19, .bool (((rowR (evsI l)).2 : Int) != (0 : Int)))] fun a HF => ?_
 refine qb rfl ?_
 rcases HF.tf 19 rfl with ⟨hb19, HF⟩ | ⟨hb19, HF⟩
 ·
  have hd19 := bne_iff_ne.1 hb19
  refine qf HF rfl (wp_seq (qa ?_))
  refine fp HF 1 0 [(6, .bool false)] fun a HF => ?_
  refine qb rfl (wp_ret ?_)
  replace HM := HM.picks (fs' := []) [] (by decide) rfl
  exact ret1 rfl HF (.tmp HF rfl) (⟨by rw [qmd (by omega)], HM.below⟩)
 have hd19 := bne_eq_false_iff_eq.1 hb19
 refine qe HF rfl (wp_skip (wp_seq (qa ?_)))
 refine fp HF 1 0 [(9, vI 281474976710656)] fun a HF => ?_
 refine qb rfl (wp_seq (wp_seq (qa ?_)))
 refine fp HF 1 0 [(20, vI opn)] fun a HF => ?_
 refine fo HF 1 rfl rfl ?_
 refine qap HF HM (vs := [(0, vI opn)]) (cs := #[vI opn]) rfl qms (by decide) rfl (by kernel_rfl) rfl (by decide) ?_
 clear HF HM; intro a w21 g21 HF HM
 refine fp HF 1 2 [(22, .slice A n c)] fun a HF => ?_
 refine fo HF 3 rfl rfl ?_
 refine e_cl HF [.slice A n c] rfl rfl (qip A n c l _ (HM.old hr) (hln) (by omega)) ?_
 rintro _ w23 ⟨⟨A23, c23, rfl, ho, hc23⟩, hbw⟩
 refine ⟨_, rfl, ?_⟩
 replace HM := HM.callRow hbw ho
 clear HF; intro a HF
 refine fo HF 4 rfl rfl ?_
 replace HM := HM.blkRow (i := 1) (n := 1) (size := 1) rfl rfl (by decide)
 refine zq HF HM (i := 1) rfl qms rfl rfl rfl (news := ((befI l).map I64i)) (HM.rd (i := 0) rfl) (qui _) (by omega) (by omega) rfl (by decide) ?_
 clear HF HM; intro a w24 A24 c24 HF HM hc24
 rw [show ((#[vI opn]).toList) ++ ((befI l).map I64i) = (opn :: befI l).map I64i from rfl] at HM
 refine fy HF HM 5 rfl rfl rfl (Yl.len rfl rfl (by kernel_rfl)) fun a HF => ?_
 refine fp HF 1 6 [(26, vI 0)] fun a HF => ?_
 refine qb rfl ?_
 have hxl : (opn :: befI l).length = 1 + n := by rw [List.length_cons, qni]; omega
 refine wp_block ?_
 replace HM := HM.picks (fs' := [.row (.slice A24 (1 + n) c24) (1 + n) ((opn :: befI l).map I64i) 3 1]) [1] (by decide) rfl
 refine zr (fun mS aS wS => ∃ (k : Nat) (r : Int), (k ≤ 1 + n) ∧ (0 ≤ r) ∧ (r ≤ 281474976710656) ∧ (qbp qdi (opn :: befI l) = qbp r ((opn :: befI l).drop k)) ∧ mS = 1 + n - k ∧ Fr aS 53 [] [(26, vI k), (25, vI (1 + n : Nat)), (24, .slice A24 (1 + n) c24), (9, vI r), (19, .bool false), (6, .bool false), (0, vB cpu), (1, .slice A n c)] ∧ Mem w wS [.row (.slice A24 (1 + n) c24) (1 + n) ((opn :: befI l).map I64i) 3 1]) (m := 1 + n - 0) ⟨0, 281474976710656, Nat.zero_le _, by omega, Int.le_refl _, rfl, rfl, HF.sub (by kernel_rfl), HM.picks [0] (by decide) rfl⟩ ?_
 clear HF HM; rintro mS a w_ ⟨k, r, hk, hr0, hr1, hroom, rfl, HF, HM⟩
 refine wp_seq (qa ?_)
 refine fp HF 1 0 [(27, .bool (decide ((k : Int) < ((1 + n : Nat) : Int))))] fun a HF => ?_
 refine qb rfl (wp_seq ?_)
 rcases HF.tf 27 rfl with ⟨hb27, HF⟩ | ⟨hb27, HF⟩
 ·
  have hd27 := of_decide_eq_true hb27
  have hk27 : k < 1 + n := by omega
  have hat := qr1 (xs := opn :: befI l) (k := k) (r := r) (by omega)
  refine qf HF rfl (wp_skip (wp_seq (wp_block (wp_seq (qa ?_)))))
  obtain ⟨gA24, rfl⟩ := qb6 (HM.own (i := 0) rfl) (Nat.lt_of_le_of_lt (Nat.zero_le _) (show k < 1 + n from by omega))
  refine fy HF HM 0 rfl rfl rfl (v := vP gA24 (k * 1)) (Yl.ix0 gA24 k 1 rfl rfl rfl) fun a HF => ?_
  refine fy HF HM 1 rfl rfl rfl (v := vI ((opn :: befI l).getD k 0)) (Yl.qh rfl rfl (by kernel_rfl) (fun _ h => h.qs0 (i := 0) rfl (k := k) (qaw (F := I64i) (k := k) (x := ((opn :: befI l).getD k 0)) ((getD_at 0 (k := k) (by first | omega | (simp; omega))))))) fun a HF => ?_
  refine fp HF 1 2 [(11, vI ((opn :: befI l).getD k 0))] fun a HF => ?_
  refine qb rfl (wp_seq (wp_seq (qa ?_)))
  refine fp HF 3 0 [(32, .bool (decide ((((opn :: befI l).getD k 0) : Int) < (0 : Int))))] fun a HF => ?_
  rcases HF.tf 32 rfl with ⟨hb32, HF⟩ | ⟨hb32, HF⟩
  ·
   have hd32 := of_decide_eq_true hb32
   refine fp HF 4 3 [(36, .bool true)] fun a HF => ?_
   refine qb rfl (qf HF rfl (wp_seq (qa ?_)))
   refine fp HF 1 0 [(6, .bool false)] fun a HF => ?_
   refine qb rfl (wp_ret ?_)
   exact ret1 rfl HF (.tmp HF rfl) (⟨by rw [qgb (by rw [hroom, hat, decide_eq_false (by omega), Bool.false_and])], HM.below⟩)
  have hd32 := of_decide_eq_false hb32
  refine fp HF 4 3 [(36, .bool (decide ((((opn :: befI l).getD k 0) : Int) > (r : Int))))] fun a HF => ?_
  refine qb rfl ?_
  rcases HF.tf 36 rfl with ⟨hb36, HF⟩ | ⟨hb36, HF⟩
  ·
   have hd36 := of_decide_eq_true hb36
   refine qf HF rfl (wp_seq (qa ?_))
   refine fp HF 1 0 [(6, .bool false)] fun a HF => ?_
   refine qb rfl (wp_ret ?_)
   exact ret1 rfl HF (.tmp HF rfl) (⟨by rw [qgb (by rw [hroom, hat, decide_eq_false (by omega), Bool.false_and])], HM.below⟩)
  have hd36 := of_decide_eq_false hb36
  have hat2 : qbp qdi (opn :: befI l) = qbp (r - ((opn :: befI l).getD k 0)) ((opn :: befI l).drop (k + 1)) := by rw [hroom, hat, decide_eq_true ⟨by omega, by omega⟩, Bool.true_and]
  refine qe HF rfl (wp_skip (qa ?_))
  refine fp HF 3 0 [(39, vI (IntKind.i64.wrap (r - ((opn :: befI l).getD k 0))))] fun a HF => ?_
  replace HF := HF.sp 39 (vI (r - ((opn :: befI l).getD k 0))) rfl (qm2 ⟨by omega, by omega⟩)
  refine fp HF 1 3 [(9, vI (r - ((opn :: befI l).getD k 0)))] fun a HF => ?_
  refine qb rfl (qa ?_)
  refine fp HF 1 0 [(40, vI (IntKind.i64.wrap ((k : Int) + 1)))] fun a HF => ?_
  replace HF := HF.sp 40 (vI (k + 1 : Nat)) rfl (ql (by omega) (by omega))
  refine fp HF 1 1 [(26, vI (k + 1 : Nat))] fun a HF => ?_
  refine qb rfl ?_
  exact ⟨_, (by omega), k + 1, (r - ((opn :: befI l).getD k 0)), by omega, by omega, by omega, hat2, rfl, HF.sub (by kernel_rfl), HM.picks [0] (by decide) rfl⟩
 have hd27 := of_decide_eq_false hb27
 have hkn : k = 1 + n := by omega
 have hrt : qbp qdi (opn :: befI l) = true := by rw [hroom, List.drop_of_length_le (by omega)]; rfl
 refine qe HF rfl (wp_exit (wp_seq (qa ?_)))
 refine fp HF 1 0 [(41, .slice A n c)] fun a HF => ?_
 refine fy HF HM 1 rfl rfl rfl (Yl.len rfl rfl (by kernel_rfl)) fun a HF => ?_
 refine fp HF 2 2 [(44, .bool ((n : Int) == (0 : Int)))] fun a HF => ?_
 rcases HF.tf 44 rfl with ⟨hb44, HF⟩ | ⟨hb44, HF⟩
 ·
  have hd44 := eq_of_beq hb44
  refine fp HF 9 4 [(6, .bool true)] fun a HF => ?_
  refine qb rfl (wp_ret ?_)
  exact ret1 rfl HF (.tmp HF rfl) (⟨by rw [qii (by omega) hrt, qr2 (by omega)], HM.below⟩)
 have hd44 := ne_of_beq_false hb44
 refine fp HF 1 4 [(45, .slice A n c)] fun a HF => ?_
 obtain ⟨gA, oA, rfl, _⟩ := hr.qaq (Nat.lt_of_le_of_lt (Nat.zero_le _) (show 0 < n from by omega)) (by decide)
 refine fy HF HM 5 rfl rfl rfl (v := vP gA oA) (Yl.indexAddr (ad := ⟨gA, oA, none⟩) (y := 0) (sz := 12) rfl rfl rfl (by omega) (by kernel_rfl)) fun a HF => ?_
 refine fp HF 2 6 [(48, vP gA (oA + 2))] fun a HF => ?_
 refine fy HF HM 8 rfl rfl rfl (v := vB ((l.getD 0 It.zero).e.cpu)) (Yl.qh rfl rfl (by kernel_rfl) (fun _ h => (h.old hr).partAt qc3 (k := 0) (j := 2) (x := (l.getD 0 It.zero)) ((getD_at It.zero (k := 0) (by first | omega | (simp; omega)))) rfl)) fun a HF => ?_
 refine fp HF 4 9 [(6, .bool (((l.getD 0 It.zero).e.cpu : Int) == (cpu : Int)))] fun a HF => ?_
 refine qb rfl (wp_ret ?_)
 exact ret1 rfl HF (.tmp HF rfl) (⟨by rw [qii (by omega) hrt, qot (by omega)]; congr 2; rw [Bool.eq_iff_iff, beq_iff_eq, decide_eq_true_eq]; omega, HM.below⟩)
theorem qnq (cpu : Nat) (A : Option Addr) (n c : Nat) (l : List It) (opn : Int) (k : Nat) (hG : GoodI cpu l opn) (hk : k ≤ n) (g1 g2 g3 : Nat) (w : World) (hg1 : w.heap[g1]? = some (.cells #[.int .u8 (cpu : Int)] 5 (0, 0))) (hg2 : w.heap[g2]? = some (.cells #[.slice A n c] 22 (0, 0))) (hg3 : w.heap[g3]? = some (.cells #[.int .i64 opn] 3 (0, 0))) (hr : Rd w w.heap.size 12 A l.length (l.flatMap itL)) (hc : n ≤ c) (hln : l.length = n) (hn : n ≤ 1000000) :
    Calls Tryd.prog 35 #[.int .i64 (k : Int), .pointer (some ⟨g1, 0, none⟩), .pointer (some ⟨g2, 0, none⟩), .pointer (some ⟨g3, 0, none⟩)] w (qx5 w (ofB cpu l opn k)) := by
 refine qg (vs := [vI k, vP g1 0, vP g2 0, vP g3 0]) Tryd.func35 rfl rfl (by kernel_rfl) (σ0 := [(0, vI k), (1, vP g1 0), (2, vP g2 0), (3, vP g3 0)]) rfl ?_
 intro a HF
 have HM := Mem.start w
 refine wp_seq (qa ?_)
 refine fo HF 0 rfl rfl ?_
 refine qr HF HM (cs := #[vB 0, vB 0, vI 0, vI 0, .slice none 0 0]) rfl (by kernel_rfl) rfl (by decide) ?_
 clear HF HM; intro a w5 g5 HF HM
 refine qb rfl ?_
 refine qa4 (fun aS wS => ∃ (A13 : Option Addr) (c13 : Nat) (g6 : Nat), Fr aS 40 [] [(6, vP g6 0), (5, vP g5 0), (0, vI k), (2, vP g2 0), (3, vP g3 0)] ∧ Mem w wS [.blk g6 #[vB 1, vB cpu, vI 0, vI 0, .slice A13 k c13] 41, .row (.slice A13 k c13) k ((evsI (l.take k)).flatMap evL) 45 11, .blk g5 #[vB 0, vB 0, vI 0, vI 0, .slice none 0 0] 41] ∧ (k ≤ c13)) ?_ ?_
 ·
  refine qag HM [.blk g5 #[vB 0, vB 0, vI 0, vI 0, .slice none 0 0] 41] [0] [7] fun HM HS => ?_
  refine ap HF (fun _ => HS) [2] #[false, false, true, false, false, false, false, false] [(11, vI k)] fun a HF => ?_
  refine ay HF HS 0 rfl rfl rfl (v := vB cpu) (Yl.qh rfl rfl (by kernel_rfl) (fun _ h => h.zf hg1 rfl)) fun a HF => ?_
  refine ay HF HS 1 rfl rfl rfl (v := .slice A n c) (Yl.qh rfl rfl (by kernel_rfl) (fun _ h => h.zf hg2 rfl)) fun a HF => ?_
  refine ay HF HS 3 rfl rfl rfl (v := .slice A k c) (Yl.qa8 ei_it (j := k) rfl rfl rfl (by omega)) fun a HF => ?_
  refine qi [4, 6] (by kernel_rfl) rfl ?_
  refine all_cons ?_ ?_
  ·refine qk HF (i := 4) rfl rfl ?_
   refine e_cl HF [.slice A k c] rfl rfl (qd1 A k c (l.take k) _ (HM.old (Rd.qs3 qc3 hr (by omega))) (by rw [List.length_take]; omega) (by omega)) ?_
   rintro _ w13 ⟨⟨A13, c13, rfl, ho, hc13⟩, hbw⟩
   refine ⟨_, rfl, ?_⟩
   replace HM := HM.callRow hbw ho
   clear HF; intro a HF
   refine keepS (HM.picks [1] (by decide) rfl) (fun HS => ?_)
   refine ay HF HS 5 rfl rfl rfl (v := .agg #[vB 1, vB cpu, vI 0, vI 0, .slice A13 k c13]) (Yl.build (vs := [(0, vB 1), (1, vB cpu), (4, .slice A13 k c13)]) rfl (by kernel_rfl) (by kernel_rfl)) fun a HF => ?_
   refine qi [6] (by kernel_rfl) rfl ?_
   refine all_cons ?_ all_nil
   refine qk HF (i := 6) rfl rfl ?_
   refine qr HF HM (cs := #[vB 0, vB 0, vI 0, vI 0, .slice none 0 0]) rfl (by kernel_rfl) rfl (by decide) ?_
   clear HF HM; intro a w6 g6 HF HM
   refine keepS (HM.picks [2] (by decide) rfl) (fun HS => ?_)
   refine qi [7] (by kernel_rfl) rfl ?_
   refine all_cons ?_ all_nil
   refine qk HF (i := 7) rfl rfl ?_
   refine e_sa HF HM 0 rfl rfl rfl rfl rfl si_bk rfl rfl (by simp [Value.oneCell']) ?_
   clear HM; intro w1_7 HM
   refine noS (by kernel_rfl) ?_
   refine qn (by kernel_rfl) ?_
   exact ⟨A13, c13, g6, HF.sub (by kernel_rfl), HM.picks [0, 1, 2] (by decide) rfl, hc13⟩
  refine all_cons ?_ all_nil
  refine qk HF (i := 6) rfl rfl ?_
  refine qr HF HM (cs := #[vB 0, vB 0, vI 0, vI 0, .slice none 0 0]) rfl (by kernel_rfl) rfl (by decide) ?_
  clear HF HM; intro a w6 g6 HF HM
  refine keepS (HM.picks [1] (by decide) rfl) (fun HS => ?_)
  refine qi [4] (by kernel_rfl) rfl ?_
  refine all_cons ?_ all_nil
  refine qk HF (i := 4) rfl rfl ?_
  refine e_cl HF [.slice A k c] rfl rfl (qd1 A k c (l.take k) _ (HM.old (Rd.qs3 qc3 hr (by omega))) (by rw [List.length_take]; omega) (by omega)) ?_
  rintro _ w13 ⟨⟨A13, c13, rfl, ho, hc13⟩, hbw⟩
  refine ⟨_, rfl, ?_⟩
  replace HM := HM.callRow hbw ho
  clear HF; intro a HF
  refine keepS (HM.picks [2] (by decide) rfl) (fun HS => ?_)
  refine ay HF HS 5 rfl rfl rfl (v := .agg #[vB 1, vB cpu, vI 0, vI 0, .slice A13 k c13]) (Yl.build (vs := [(0, vB 1), (1, vB cpu), (4, .slice A13 k c13)]) rfl (by kernel_rfl) (by kernel_rfl)) fun a HF => ?_
  refine qi [7] (by kernel_rfl) rfl ?_
  refine all_cons ?_ all_nil
  refine qk HF (i := 7) rfl rfl ?_
  refine e_sa HF HM 1 rfl rfl rfl rfl rfl si_bk rfl rfl (by simp [Value.oneCell']) ?_
  clear HM; intro w1_7 HM
  refine noS (by kernel_rfl) ?_
  refine qn (by kernel_rfl) ?_
  exact ⟨A13, c13, g6, HF.sub (by kernel_rfl), HM.picks [1, 0, 2] (by decide) rfl, hc13⟩
 clear HF HM; rintro a w1 ⟨A13, c13, g6, HF, HM, hc13⟩
 refine wp_seq (wp_seq (qa ?_))
 refine fy HF HM 0 rfl rfl rfl (v := .slice A n c) (Yl.qh rfl rfl (by kernel_rfl) (fun _ h => h.zf hg2 rfl)) fun a HF => ?_
 refine fp HF 1 1 [(16, vI k)] fun a HF => ?_
 refine fy HF HM 2 rfl rfl rfl (v := .slice A k c) (Yl.qa8 ei_it (j := k) rfl rfl rfl (by omega)) fun a HF => ?_
 refine fo HF 3 rfl rfl ?_
 refine e_cl HF [.slice A k c] rfl rfl (qip A k c (l.take k) _ (HM.old (Rd.qs3 qc3 hr (by omega))) (by rw [List.length_take]; omega) (by omega)) ?_
 rintro _ w18 ⟨⟨A18, c18, rfl, ho, hc18⟩, hbw⟩
 refine ⟨_, rfl, ?_⟩
 replace HM := HM.callRow hbw ho
 clear HF; intro a HF
 refine fy HF HM 4 rfl rfl rfl (Yl.len rfl rfl (by kernel_rfl)) fun a HF => ?_
 refine fp HF 1 5 [(20, vI 0)] fun a HF => ?_
 refine qb rfl ?_
 have hbl : (befI (l.take k)).length = k := by rw [qni, List.length_take]; omega
 refine wp_block ?_
 refine zr (fun mS aS wS => ∃ (j : Nat), (j ≤ k) ∧ mS = k - j ∧ Fr aS 40 [] [(20, vI j), (19, vI k), (18, .slice A18 k c18), (6, vP g6 0), (5, vP g5 0), (0, vI k), (2, vP g2 0), (3, vP g3 0)] ∧ Mem w wS [.row (.slice A18 k c18) k ((befI (l.take k)).map I64i) 3 1, .blk g6 #[vB 1, vB cpu, vI (sumI (befI (l.take j))), vI 0, .slice A13 k c13] 41, .row (.slice A13 k c13) k ((evsI (l.take k)).flatMap evL) 45 11, .blk g5 #[vB 0, vB 0, vI 0, vI 0, .slice none 0 0] 41]) (m := k - 0) ⟨0, Nat.zero_le _, rfl, HF.sub (by kernel_rfl), HM.picks [0, 1, 2, 3] (by decide) rfl⟩ ?_
 clear HF HM; rintro mS a w_ ⟨j, hj, rfl, HF, HM⟩
 refine wp_seq (qa ?_)
 refine fp HF 1 0 [(21, .bool (decide ((j : Int) < (k : Int))))] fun a HF => ?_
 refine qb rfl (wp_seq ?_)
 rcases HF.tf 21 rfl with ⟨hb21, HF⟩ | ⟨hb21, HF⟩
 ·
  have hd21 := of_decide_eq_true hb21
  have hj21 : j < k := by omega
  have ho0 := hG.o0
  have hp0 := hG.part j
  have hp1 := hG.part (j + 1)
  have hps := qhe (l := l) (k := k) (j := j) (by omega) (by omega)
  refine qf HF rfl (wp_skip (wp_seq (wp_block (wp_seq (qa ?_)))))
  obtain ⟨gA18, rfl⟩ := qb6 (HM.own (i := 0) rfl) (Nat.lt_of_le_of_lt (Nat.zero_le _) (show j < k from by omega))
  refine fy HF HM 0 rfl rfl rfl (v := vP gA18 (j * 1)) (Yl.ix0 gA18 j 1 rfl rfl rfl) fun a HF => ?_
  refine fy HF HM 1 rfl rfl rfl (v := vI ((befI (l.take k)).getD j 0)) (Yl.qh rfl rfl (by kernel_rfl) (fun _ h => h.qs0 (i := 0) rfl (k := j) (qaw (F := I64i) (k := j) (x := ((befI (l.take k)).getD j 0)) ((getD_at 0 (k := j) (by first | omega | (simp; omega))))))) fun a HF => ?_
  refine fp HF 1 2 [(8, vI ((befI (l.take k)).getD j 0))] fun a HF => ?_
  refine qb rfl (qa ?_)
  refine fp HF 1 0 [(24, vP g6 2)] fun a HF => ?_
  refine fy HF HM 1 rfl rfl rfl (Yl.qh rfl rfl (by kernel_rfl) (fun _ h => h.cell (i := 1) rfl rfl)) fun a HF => ?_
  refine fp HF 2 2 [(27, vI (IntKind.i64.wrap ((sumI (befI (l.take j))) + ((befI (l.take k)).getD j 0))))] fun a HF => ?_
  replace HF := HF.sp 27 (vI (sumI (befI (l.take (j + 1))))) rfl (by rw [qhe (k := k) (by omega) (by omega)]; exact qm2 ⟨by omega, by omega⟩)
  refine fp HF 1 4 [(28, vP g6 2)] fun a HF => ?_
  refine fo HF 5 rfl rfl ?_
  refine qp HF HM (i := 1) rfl rfl rfl rfl (by kernel_rfl) rfl rfl (by simp) ?_
  clear HM; intro w5_5 HM
  refine qb rfl (qa ?_)
  refine fp HF 1 0 [(29, vI (IntKind.i64.wrap ((j : Int) + 1)))] fun a HF => ?_
  replace HF := HF.sp 29 (vI (j + 1 : Nat)) rfl (ql (by omega) (by omega))
  refine fp HF 1 1 [(20, vI (j + 1 : Nat))] fun a HF => ?_
  refine qb rfl ?_
  exact ⟨_, (by omega), j + 1, by omega, rfl, HF.sub (by kernel_rfl), HM.picks [0, 1, 2, 3] (by decide) rfl⟩
 have hd21 := of_decide_eq_false hb21
 obtain rfl : j = k := by omega
 have hp0 := hG.part j
 have ho0 := hG.o0
 refine qe HF rfl (wp_exit (wp_seq (wp_seq (qa ?_))))
 refine fp HF 1 0 [(30, vI j)] fun a HF => ?_
 refine fy HF HM 1 rfl rfl rfl (v := .slice A n c) (Yl.qh rfl rfl (by kernel_rfl) (fun _ h => h.zf hg2 rfl)) fun a HF => ?_
 refine fy HF HM 2 rfl rfl rfl (Yl.len rfl rfl (by kernel_rfl)) fun a HF => ?_
 refine fp HF 1 3 [(33, .bool ((j : Int) == (n : Int)))] fun a HF => ?_
 refine qb rfl ?_
 rcases HF.tf 33 rfl with ⟨hb33, HF⟩ | ⟨hb33, HF⟩
 ·
  have hd33 := eq_of_beq hb33
  have hlo := qwm (cpu := cpu) (opn := opn) (l := l) (k := j) (by omega)
  refine qf HF rfl (qa ?_)
  refine fp HF 1 0 [(34, vP g6 2)] fun a HF => ?_
  refine fy HF HM 1 rfl rfl rfl (Yl.qh rfl rfl (by kernel_rfl) (fun _ h => h.cell (i := 1) rfl rfl)) fun a HF => ?_
  refine fy HF HM 2 rfl rfl rfl (v := vI opn) (Yl.qh rfl rfl (by kernel_rfl) (fun _ h => h.zf hg3 rfl)) fun a HF => ?_
  refine fp HF 1 3 [(37, vI (IntKind.i64.wrap ((sumI (befI (l.take j))) + opn)))] fun a HF => ?_
  replace HF := HF.sp 37 (vI ((sumI (befI (l.take j))) + opn)) rfl (qm2 ⟨by omega, by omega⟩)
  refine fp HF 1 4 [(38, vP g6 2)] fun a HF => ?_
  refine fo HF 5 rfl rfl ?_
  refine qp HF HM (i := 1) rfl rfl rfl rfl (by kernel_rfl) rfl rfl (by simp) ?_
  clear HM; intro w8_5 HM
  refine qb rfl (wp_seq (qa ?_))
  refine fy HF HM 0 rfl rfl rfl (v := .agg #[vB 1, vB cpu, vI ((sumI (befI (l.take j))) + opn), vI 0, .slice A13 j c13]) (Yl.zh rfl rfl si_bk rfl (fun _ h => qd (h.blk (i := 1) rfl))) fun a HF => ?_
  refine fo HF 1 rfl rfl ?_
  refine e_sa HF HM 3 rfl rfl rfl rfl rfl si_bk rfl rfl (by simp [Value.oneCell']) ?_
  clear HM; intro w9_1 HM
  refine qb rfl (wp_ret ?_)
  exact ret1 rfl HF (.cellS (i := 3) HF HM rfl rfl si_bk rfl) (⟨⟨A13, c13, by rw [← qk1 (by omega) (by rw [hlo])], by rw [qej (by omega)]; exact HM.own (i := 2) rfl, by rw [qej (by omega)]; omega⟩, HM.below⟩)
 have hd33 := ne_of_beq_false hb33
 have hlo := qwn (cpu := cpu) (opn := opn) (l := l) (k := j) (by omega)
 refine qe HF rfl (wp_skip (wp_seq (qa ?_)))
 refine fy HF HM 0 rfl rfl rfl (v := .agg #[vB 1, vB cpu, vI (sumI (befI (l.take j))), vI 0, .slice A13 j c13]) (Yl.zh rfl rfl si_bk rfl (fun _ h => qd (h.blk (i := 1) rfl))) fun a HF => ?_
 refine fo HF 1 rfl rfl ?_
 refine e_sa HF HM 3 rfl rfl rfl rfl rfl si_bk rfl rfl (by simp [Value.oneCell']) ?_
 clear HM; intro w9_1 HM
 refine qb rfl (wp_ret ?_)
 exact ret1 rfl HF (.cellS (i := 3) HF HM rfl rfl si_bk rfl) (⟨⟨A13, c13, by rw [← qk1 (by omega) (by rw [hlo])], by rw [qej (by omega)]; exact HM.own (i := 2) rfl, by rw [qej (by omega)]; omega⟩, HM.below⟩)
theorem qlf (A : Option Addr) (n c : Nat) (l : List It) (w : World) (hr : Rd w w.heap.size 12 A n (l.flatMap itL)) (hln : l.length = n) (hn : n ≤ 1000000) :
  Calls Tryd.prog 36 #[.slice A n c] w fun r w' => (∃ A c, r = .returned (.slice A (evsI l).length c) ∧ w'.ownsRow w.heap.size 45 11 (.slice A (evsI l).length c) (evsI l).length ((evsI l).flatMap evL) ∧ (evsI l).length ≤ c) ∧ Below w.heap.size w w' := by
 have e : (evsI l).length = n := by rw [qe7]; exact hln
 rw [e]
 exact qd1 A n c l w hr hln hn
theorem qux (b : Bk) (hok : b.Ok) (hf : b.fits = true) (A : Option Addr) (c B : Nat) (w : World) (hL : LaidX B w) (hB : B ≤ w.heap.size) (hr : Rd w w.heap.size 11 A b.evs.length (b.evs.flatMap evL)) (hn : b.evs.length ≤ 1000000) :
  Calls Tryd.prog 38 #[.agg (b.cells A c)] w (Is w (.tuple #[.int .i64 (b.qd3 : Int), .int .i64 0])) := by
 have h := qso b hok A c B w hL hB hr hn
 unfold Bk.fill at h
 rwa [if_neg (by rw [hf]; decide)] at h
theorem qsp (cpu : Nat) (hcpu : cpu < 256) (A : Option Addr) (n c : Nat) (l : List It) (opn limit : Int) (hok : ∀ x ∈ l, x.Ok) (ho : I64 opn) (hlm : I64 limit) (B : Nat) (w : World) (hL : LaidX B w) (hB : B ≤ w.heap.size) (hr : Rd w w.heap.size 12 A n (l.flatMap itL)) (hc : n ≤ c) (hln : l.length = n) (hn : n ≤ 1000000) :
    Calls Tryd.prog 12 #[.int .u8 (cpu : Int), .slice A n c, .int .i64 opn, .int .i64 limit] w (qga 45 41 w (cutS cpu l opn limit).2 (cutS cpu l opn limit).1) := by
 subst hln
 refine qg (vs := [vB cpu, .slice A l.length c, vI opn, vI limit]) Tryd.func12 rfl rfl (by kernel_rfl) (σ0 := [(0, vB cpu), (1, .slice A l.length c), (2, vI opn), (3, vI limit)]) rfl ?_
 intro a HF
 have HM := Mem.start w
 refine wp_seq (qa ?_)
 refine fo HF 0 rfl rfl ?_
 refine e_box HF HM (cs := #[vB cpu]) rfl rfl rfl rfl (by decide) ?_
 clear HF HM; intro a w4 g4 HF HM
 refine fo HF 1 rfl rfl ?_
 refine e_box HF HM (cs := #[.slice A l.length c]) rfl rfl rfl rfl (by decide) ?_
 clear HF HM; intro a w5 g5 HF HM
 refine fo HF 2 rfl rfl ?_
 refine e_box HF HM (cs := #[vI opn]) rfl rfl rfl rfl (by decide) ?_
 clear HF HM; intro a w6 g6 HF HM
 refine fp HF 2 3 [(9, vI 0), (8, .slice none 0 0)] fun a HF => ?_
 refine qb rfl (wp_seq (wp_block (wp_seq (qa ?_))))
 refine fy HF HM 0 rfl rfl rfl (Yl.qh rfl rfl (by kernel_rfl) (fun _ h => h.cell (i := 2) rfl rfl)) fun a HF => ?_
 refine fp HF 2 1 [(17, .bool (decide ((cpu : Int) ≥ (64 : Int))))] fun a HF => ?_
 rcases HF.tf 17 rfl with ⟨hb17, HF⟩ | ⟨hb17, HF⟩
 ·
  have hd17 := of_decide_eq_true hb17
  refine fp HF 8 3 [(14, .bool true)] fun a HF => ?_
  refine qb rfl (qf HF rfl (wp_seq (qa ?_)))
  refine fp HF 2 0 [(9, vI 2), (8, .slice none 0 0)] fun a HF => ?_
  refine qb rfl (wp_ret ?_)
  exact ret2 rfl HF (.tmp HF rfl) (.tmp HF rfl) (by rw [qji (by omega)]; exact qdx HM rfl)
 have hd17 := of_decide_eq_false hb17
 refine fp HF 4 3 [(21, .bool (decide ((limit : Int) < (1 : Int))))] fun a HF => ?_
 rcases HF.tf 21 rfl with ⟨hb21, HF⟩ | ⟨hb21, HF⟩
 ·
  have hd21 := of_decide_eq_true hb21
  refine fp HF 4 7 [(14, .bool true)] fun a HF => ?_
  refine qb rfl (qf HF rfl (wp_seq (qa ?_)))
  refine fp HF 2 0 [(9, vI 2), (8, .slice none 0 0)] fun a HF => ?_
  refine qb rfl (wp_ret ?_)
  exact ret2 rfl HF (.tmp HF rfl) (.tmp HF rfl) (by rw [qji (by omega)]; exact qdx HM rfl)
 have hd21 := of_decide_eq_false hb21
 refine fp HF 4 7 [(14, .bool (decide ((limit : Int) > (4096 : Int))))] fun a HF => ?_
 refine qb rfl ?_
 rcases HF.tf 14 rfl with ⟨hb14, HF⟩ | ⟨hb14, HF⟩
 ·
  have hd14 := of_decide_eq_true hb14
  refine qf HF rfl (wp_seq (qa ?_))
  refine fp HF 2 0 [(9, vI 2), (8, .slice none 0 0)] fun a HF => ?_
  refine qb rfl (wp_ret ?_)
  exact ret2 rfl HF (.tmp HF rfl) (.tmp HF rfl) (by rw [qji (by omega)]; exact qdx HM rfl)
 have hd14 := of_decide_eq_false hb14
 refine qe HF rfl (wp_seq (qa ?_))
 refine fy HF HM 0 rfl rfl rfl (Yl.qh rfl rfl (by kernel_rfl) (fun _ h => h.cell (i := 2) rfl rfl)) fun a HF => ?_
 refine fy HF HM 1 rfl rfl rfl (Yl.qh rfl rfl (by kernel_rfl) (fun _ h => h.cell (i := 1) rfl rfl)) fun a HF => ?_
 refine fy HF HM 2 rfl rfl rfl (Yl.qh rfl rfl (by kernel_rfl) (fun _ h => h.cell (i := 0) rfl rfl)) fun a HF => ?_
 refine fo HF 3 rfl rfl ?_
 refine e_is HF HM [vB cpu, .slice A l.length c, vI opn] (.bool (qac cpu l opn)) rfl rfl (qmn cpu A l.length c l opn hok ho B _ (hL.mem HM hB) (HM.le hB) (HM.old hr) rfl (by omega)) fun w29 hbw HM a HF => ?_
 refine fp HF 2 4 [(25, .bool (!(qac cpu l opn)))] fun a HF => ?_
 refine qb rfl ?_
 rcases HF.tf 25 rfl with ⟨hb25, HF⟩ | ⟨hb25, HF⟩
 ·
  have hbad : qac cpu l opn = false := by simpa using hb25
  refine qf HF rfl (wp_seq (qa ?_))
  refine fp HF 2 0 [(9, vI 110), (8, .slice none 0 0)] fun a HF => ?_
  refine qb rfl (wp_ret ?_)
  exact ret2 rfl HF (.tmp HF rfl) (.tmp HF rfl) (by rw [qoq (by omega) hbad]; exact qdx HM rfl)
 have hgood : qac cpu l opn = true := by simpa using hb25
 have hG := GoodI.of (by omega) hok hgood
 refine qe HF rfl (wp_seq (qa ?_))
 refine fy HF HM 0 rfl rfl rfl (Yl.qh rfl rfl (by kernel_rfl) (fun _ h => h.cell (i := 1) rfl rfl)) fun a HF => ?_
 refine fy HF HM 1 rfl rfl rfl (Yl.len rfl rfl (by kernel_rfl)) fun a HF => ?_
 refine fp HF 2 2 [(35, .bool ((l.length : Int) == (0 : Int)))] fun a HF => ?_
 rcases HF.tf 35 rfl with ⟨hb35, HF⟩ | ⟨hb35, HF⟩
 ·
  have hd35 := eq_of_beq hb35
  refine fy HF HM 4 rfl rfl rfl (Yl.qh rfl rfl (by kernel_rfl) (fun _ h => h.cell (i := 0) rfl rfl)) fun a HF => ?_
  refine fp HF 3 5 [(31, .bool ((opn : Int) == (0 : Int)))] fun a HF => ?_
  refine qb rfl ?_
  rcases HF.tf 31 rfl with ⟨hb31, HF⟩ | ⟨hb31, HF⟩
  ·
   have hd31 := eq_of_beq hb31
   refine qf HF rfl (wp_seq (qa ?_))
   refine fp HF 2 0 [(9, vI 0), (8, .slice none 0 0)] fun a HF => ?_
   refine qb rfl (wp_ret ?_)
   exact ret2 rfl HF (.tmp HF rfl) (.tmp HF rfl) (by rw [qry (by omega) hgood (by omega) (by omega)]; exact qdx HM rfl)
  have hd31 := ne_of_beq_false hb31
  refine qe HF rfl (wp_seq (qa ?_))
  refine fy HF HM 0 rfl rfl rfl (Yl.qh rfl rfl (by kernel_rfl) (fun _ h => h.cell (i := 1) rfl rfl)) fun a HF => ?_
  refine fy HF HM 1 rfl rfl rfl (Yl.len rfl rfl (by kernel_rfl)) fun a HF => ?_
  refine fp HF 2 2 [(39, .bool ((l.length : Int) == (0 : Int)))] fun a HF => ?_
  refine qb rfl ?_
  rcases HF.tf 39 rfl with ⟨hb39, HF⟩ | ⟨hb39, HF⟩
  ·
   have hd39 := eq_of_beq hb39
   refine qf HF rfl (wp_seq (qa ?_))
   refine fy HF HM 0 rfl rfl rfl (Yl.qh rfl rfl (by kernel_rfl) (fun _ h => h.cell (i := 2) rfl rfl)) fun a HF => ?_
   refine fy HF HM 1 rfl rfl rfl (Yl.qh rfl rfl (by kernel_rfl) (fun _ h => h.cell (i := 0) rfl rfl)) fun a HF => ?_
   refine fy HF HM 2 rfl rfl rfl (v := .agg #[vB 1, vB cpu, vI opn, vI 0, .slice none 0 0]) (Yl.build (vs := [(0, vB 1), (1, vB cpu), (2, vI opn)]) rfl (by kernel_rfl) (by kernel_rfl)) fun a HF => ?_
   refine fo HF 3 rfl rfl ?_
   refine qap HF HM (vs := [(0, .agg #[vB 1, vB cpu, vI opn, vI 0, .slice none 0 0])]) (cs := #[vB 1, vB cpu, vI opn, vI 0, .slice none 0 0]) rfl qd7 (by decide) rfl (by kernel_rfl) rfl (by decide) ?_
   clear HF HM; intro a w46 g46 HF HM
   refine fp HF 2 4 [(9, vI 0), (8, vS g46 1 1)] fun a HF => ?_
   refine qb rfl (wp_ret ?_)
   exact ret2 rfl HF (.tmp HF rfl) (.tmp HF rfl) (by rw [qrz (by omega) hgood (by omega) (by omega)]; exact qt4 HM (i := 0) rfl)
  have hd39 := ne_of_beq_false hb39
  exfalso; omega
 have hd35 := ne_of_beq_false hb35
 refine fp HF 4 4 [(31, .bool false)] fun a HF => ?_
 refine qb rfl (qe HF rfl (wp_seq (qa ?_)))
 refine fy HF HM 0 rfl rfl rfl (Yl.qh rfl rfl (by kernel_rfl) (fun _ h => h.cell (i := 1) rfl rfl)) fun a HF => ?_
 refine fy HF HM 1 rfl rfl rfl (Yl.len rfl rfl (by kernel_rfl)) fun a HF => ?_
 refine fp HF 2 2 [(39, .bool ((l.length : Int) == (0 : Int)))] fun a HF => ?_
 refine qb rfl ?_
 rcases HF.tf 39 rfl with ⟨hb39, HF⟩ | ⟨hb39, HF⟩
 ·
  have hd39 := eq_of_beq hb39
  exfalso; omega
 have hd39 := ne_of_beq_false hb39
 refine qe HF rfl (wp_skip (wp_seq (qa ?_)))
 refine fy HF HM 0 rfl rfl rfl (v := .func (.func 35) #[] #[vP g4 0, vP g5 0, vP g6 0]) (Yl.makeFunc (fst := []) (caps := [vP g4 0, vP g5 0, vP g6 0]) rfl rfl rfl) fun a HF => ?_
 refine fp HF 1 1 [(10, .func (.func 35) #[] #[vP g4 0, vP g5 0, vP g6 0])] fun a HF => ?_
 refine qb rfl (wp_seq (qa ?_))
 refine fp HF 1 0 [(11, .slice none 0 0)] fun a HF => ?_
 refine qb rfl ?_
 obtain ⟨lim, rfl⟩ : ∃ k : Nat, limit = (k : Int) := ⟨limit.toNat, by omega⟩
 replace HM := HM.nil 41 5
 replace HM : Mem w _ (.row (.slice none 0 0) 0 [] 41 5 :: .blk g6 #[vI opn] 3 :: .blk g5 #[.slice A l.length c] 22 :: .blk g4 #[vB cpu] 5 :: hbF 45 []) := HM
 refine wp_seq (wp_block ?_)
 refine zr (fun mS aS wS => ∃ (r : List It) (X : Option Addr) (cc : Nat) (q : List Hb) (f : Nat) (Ao : Option Addr) (co : Nat), (Rd w w.heap.size 12 X r.length (r.flatMap itL)) ∧ (r.length ≤ cc) ∧ (GoodI cpu r opn) ∧ (r.length ≤ l.length) ∧ (r.length ≤ f) ∧ (q.map Hb.b ++ cutGo cpu opn lim f r = cutGo cpu opn lim l.length l) ∧ (q.length ≤ co) ∧ (q.length + r.length ≤ l.length) ∧ mS = r.length ∧ Fr aS 87 [] [(11, .slice Ao q.length co), (10, .func (.func 35) #[] #[vP g4 0, vP g5 0, vP g6 0]), (39, .bool false), (31, .bool false), (25, .bool false), (14, .bool false), (9, vI 0), (8, .slice none 0 0), (6, vP g6 0), (5, vP g5 0), (4, vP g4 0), (3, vI lim)] ∧ Mem w wS (.row (.slice Ao q.length co) q.length (q.flatMap hbL) 41 5 :: .blk g6 #[vI opn] 3 :: .blk g5 #[.slice X r.length cc] 22 :: .blk g4 #[vB cpu] 5 :: hbF 45 q)) (m := l.length) ⟨l, A, c, [], l.length, none, 0, hr, by omega, hG, by omega, Nat.le_refl _, List.nil_append _, Nat.le_refl _, by simp, rfl, HF.sub (by kernel_rfl), HM.picksT 4 [0, 1, 2, 3] (by decide) (by decide) rfl⟩ ?_
 clear HF HM; rintro mS a w_ ⟨r, X, cc, q, f, Ao, co, hX, hcc, hGr, hrn, hf, hq, hco, hql, rfl, HF, HM⟩
 refine wp_seq (wp_seq (qa ?_))
 refine fy HF HM 0 rfl rfl rfl (Yl.qh rfl rfl (by kernel_rfl) (fun _ h => h.cell (i := 2) rfl rfl)) fun a HF => ?_
 refine fy HF HM 1 rfl rfl rfl (Yl.len rfl rfl (by kernel_rfl)) fun a HF => ?_
 refine fp HF 1 2 [(50, .bool (decide ((r.length : Int) > (0 : Int))))] fun a HF => ?_
 refine qb rfl ?_
 rcases HF.tf 50 rfl with ⟨hb50, HF⟩ | ⟨hb50, HF⟩
 ·
  have hd50 := of_decide_eq_true hb50
  have hr0 : 0 < r.length := by omega
  obtain ⟨m0, hm0⟩ : ∃ m, m = min r.length lim := ⟨_, rfl⟩
  obtain ⟨hmf, hmo, hmb, hmp, hma⟩ := qih hGr (m := m0) (by omega) (by omega)
  have hml : (mostB cpu r m0).evs.length = m0 := by show (evsI (r.take m0)).length = m0; rw [qe7, List.length_take]; omega
  have hcf := qrw hGr (limit := lim) (by omega) hr0
  rw [← hm0] at hcf
  obtain ⟨hcp, hcl, hce⟩ := quh hGr (limit := lim) (by omega) hr0
  have hst := qop (cpu := cpu) (limit := lim) (opn := opn) hr0 (f := f) (by omega)
  refine qf HF rfl (wp_skip (wp_block (wp_seq (qa ?_))))
  refine fy HF HM 0 rfl rfl rfl (Yl.qh rfl rfl (by kernel_rfl) (fun _ h => h.cell (i := 2) rfl rfl)) fun a HF => ?_
  refine fy HF HM 1 rfl rfl rfl (Yl.len rfl rfl (by kernel_rfl)) fun a HF => ?_
  refine fp HF 1 2 [(53, vI lim)] fun a HF => ?_
  refine fy HF HM 3 rfl rfl rfl (v := vI (if (lim : Int) < (r.length : Int) then (lim : Int) else (r.length : Int))) (Yl.min rfl rfl rfl) fun a HF => ?_
  replace HF := HF.sp 54 (vI m0) rfl (by rw [hm0]; congr 1; split <;> omega)
  refine fp HF 1 4 [(12, vI m0)] fun a HF => ?_
  refine qb rfl ?_
  refine qa4 (fun aS wS => ∃ (A59 : Option Addr) (c59 : Nat) (g13 : Nat), Fr aS 87 [] [(13, vP g13 0), (12, vI m0), (50, .bool true), (11, .slice Ao q.length co), (10, .func (.func 35) #[] #[vP g4 0, vP g5 0, vP g6 0]), (39, .bool false), (31, .bool false), (25, .bool false), (14, .bool false), (9, vI 0), (8, .slice none 0 0), (6, vP g6 0), (5, vP g5 0), (4, vP g4 0), (3, vI lim)] ∧ Mem w wS (.blk g13 #[vB 1, vB cpu, vI 0, vI 0, .slice A59 ((evsI (r.take m0)).length) c59] 41 :: .row (.slice A59 ((evsI (r.take m0)).length) c59) ((evsI (r.take m0)).length) ((evsI (r.take m0)).flatMap evL) 45 11 :: .row (.slice Ao q.length co) q.length (q.flatMap hbL) 41 5 :: .blk g6 #[vI opn] 3 :: .blk g5 #[.slice X r.length cc] 22 :: .blk g4 #[vB cpu] 5 :: hbF 45 q) ∧ ((evsI (r.take m0)).length ≤ c59)) ?_ ?_
  ·
   refine qja HM (.row (.slice Ao q.length co) q.length (q.flatMap hbL) 41 5 :: .blk g6 #[vI opn] 3 :: .blk g5 #[.slice X r.length cc] 22 :: .blk g4 #[vB cpu] 5 :: hbF 45 q) 4 [0, 1, 2, 3] [7] fun HM HS => ?_
   refine ap HF (fun _ => HS) [2] #[false, false, true, false, false, false, false, false] [(57, vI m0)] fun a HF => ?_
   refine ay HF HS 0 rfl rfl rfl (Yl.qh rfl rfl (by kernel_rfl) (fun _ h => h.cell (i := 3) rfl rfl)) fun a HF => ?_
   refine ay HF HS 1 rfl rfl rfl (Yl.qh rfl rfl (by kernel_rfl) (fun _ h => h.cell (i := 2) rfl rfl)) fun a HF => ?_
   refine ay HF HS 3 rfl rfl rfl (v := .slice X m0 cc) (Yl.qa8 ei_it (j := m0) rfl rfl rfl (by omega)) fun a HF => ?_
   refine qi [4, 6] (by kernel_rfl) rfl ?_
   refine all_cons ?_ ?_
   ·refine qk HF (i := 4) rfl rfl ?_
    refine e_cl HF [.slice X m0 cc] rfl rfl (qlf X m0 cc (r.take m0) _ (HM.old (Rd.qs3 qc3 hX (by omega))) (by rw [List.length_take]; omega) (by omega)) ?_
    rintro _ w59 ⟨⟨A59, c59, rfl, ho, hc59⟩, hbw⟩
    refine ⟨_, rfl, ?_⟩
    replace HM := HM.callRow hbw ho
    clear HF; intro a HF
    refine keepS (HM.picksT 5 [1, 2, 3, 4] (by decide) (by decide) rfl) (fun HS => ?_)
    refine ay HF HS 5 rfl rfl rfl (v := .agg #[vB 1, vB cpu, vI 0, vI 0, .slice A59 ((evsI (r.take m0)).length) c59]) (Yl.build (vs := [(0, vB 1), (1, vB cpu), (4, .slice A59 ((evsI (r.take m0)).length) c59)]) rfl (by kernel_rfl) (by kernel_rfl)) fun a HF => ?_
    refine qi [6] (by kernel_rfl) rfl ?_
    refine all_cons ?_ all_nil
    refine qk HF (i := 6) rfl rfl ?_
    refine qr HF HM (cs := #[vB 0, vB 0, vI 0, vI 0, .slice none 0 0]) rfl (by kernel_rfl) rfl (by decide) ?_
    clear HF HM; intro a w13 g13 HF HM
    refine keepS (HM.picksT 6 [2, 3, 4, 5] (by decide) (by decide) rfl) (fun HS => ?_)
    refine qi [7] (by kernel_rfl) rfl ?_
    refine all_cons ?_ all_nil
    refine qk HF (i := 7) rfl rfl ?_
    refine e_sa HF HM 0 rfl rfl rfl rfl rfl si_bk rfl rfl (by simp [Value.oneCell']) ?_
    clear HM; intro w13_7 HM
    refine noS (by kernel_rfl) ?_
    refine qn (by kernel_rfl) ?_
    exact ⟨A59, c59, g13, HF.sub (by kernel_rfl), HM.picksT 6 [0, 1, 2, 3, 4, 5] (by decide) (by decide) rfl, hc59⟩
   refine all_cons ?_ all_nil
   refine qk HF (i := 6) rfl rfl ?_
   refine qr HF HM (cs := #[vB 0, vB 0, vI 0, vI 0, .slice none 0 0]) rfl (by kernel_rfl) rfl (by decide) ?_
   clear HF HM; intro a w13 g13 HF HM
   refine keepS (HM.picksT 5 [1, 2, 3, 4] (by decide) (by decide) rfl) (fun HS => ?_)
   refine qi [4] (by kernel_rfl) rfl ?_
   refine all_cons ?_ all_nil
   refine qk HF (i := 4) rfl rfl ?_
   refine e_cl HF [.slice X m0 cc] rfl rfl (qlf X m0 cc (r.take m0) _ (HM.old (Rd.qs3 qc3 hX (by omega))) (by rw [List.length_take]; omega) (by omega)) ?_
   rintro _ w59 ⟨⟨A59, c59, rfl, ho, hc59⟩, hbw⟩
   refine ⟨_, rfl, ?_⟩
   replace HM := HM.callRow hbw ho
   clear HF; intro a HF
   refine keepS (HM.picksT 6 [2, 3, 4, 5] (by decide) (by decide) rfl) (fun HS => ?_)
   refine ay HF HS 5 rfl rfl rfl (v := .agg #[vB 1, vB cpu, vI 0, vI 0, .slice A59 ((evsI (r.take m0)).length) c59]) (Yl.build (vs := [(0, vB 1), (1, vB cpu), (4, .slice A59 ((evsI (r.take m0)).length) c59)]) rfl (by kernel_rfl) (by kernel_rfl)) fun a HF => ?_
   refine qi [7] (by kernel_rfl) rfl ?_
   refine all_cons ?_ all_nil
   refine qk HF (i := 7) rfl rfl ?_
   refine e_sa HF HM 1 rfl rfl rfl rfl rfl si_bk rfl rfl (by simp [Value.oneCell']) ?_
   clear HM; intro w13_7 HM
   refine noS (by kernel_rfl) ?_
   refine qn (by kernel_rfl) ?_
   exact ⟨A59, c59, g13, HF.sub (by kernel_rfl), HM.picksT 6 [1, 0, 2, 3, 4, 5] (by decide) (by decide) rfl, hc59⟩
  clear HF HM; rintro a w13 ⟨A59, c59, g13, HF, HM, hc59⟩
  refine wp_seq (qa ?_)
  refine fy HF HM 0 rfl rfl rfl (v := .agg #[vB 1, vB cpu, vI 0, vI 0, .slice A59 ((evsI (r.take m0)).length) c59]) (Yl.zh rfl rfl si_bk rfl (fun _ h => qd (h.blk (i := 0) rfl))) fun a HF => ?_
  refine fo HF 1 rfl rfl ?_
  refine e_is HF HM [.agg #[vB 1, vB cpu, vI 0, vI 0, .slice A59 ((evsI (r.take m0)).length) c59]] (.tuple #[vI ((mostB cpu r m0).qd3), vI 0]) rfl rfl (qux (mostB cpu r m0) hmo hmf A59 c59 B _ (hL.mem HM hB) (HM.le hB) (HM.rd (i := 1) rfl) (by rw [hml]; omega)) fun w63 hbw HM a HF => ?_
  refine fp HF 4 2 [(12, vI ((mostB cpu r m0).qd3))] fun a HF => ?_
  refine qb rfl (wp_seq (wp_block ?_))
  refine zr (fun mS aS wS => ∃ (m : Nat), (m ≤ r.length) ∧ (cutN cpu r opn lim ≤ m) ∧ (cutN cpu r opn lim = qal (fun n => decide ((ofB cpu r opn n).err = 0)) m) ∧ mS = 0 + m ∧ Fr aS 87 [] [(12, vI m), (13, vP g13 0), (50, .bool true), (11, .slice Ao q.length co), (10, .func (.func 35) #[] #[vP g4 0, vP g5 0, vP g6 0]), (39, .bool false), (31, .bool false), (25, .bool false), (14, .bool false), (9, vI 0), (8, .slice none 0 0), (6, vP g6 0), (5, vP g5 0), (4, vP g4 0), (3, vI lim)] ∧ Mem w wS (.blk g13 #[vB 1, vB cpu, vI 0, vI 0, .slice A59 ((evsI (r.take m0)).length) c59] 41 :: .row (.slice A59 ((evsI (r.take m0)).length) c59) ((evsI (r.take m0)).length) ((evsI (r.take m0)).flatMap evL) 45 11 :: .row (.slice Ao q.length co) q.length (q.flatMap hbL) 41 5 :: .blk g6 #[vI opn] 3 :: .blk g5 #[.slice X r.length cc] 22 :: .blk g4 #[vB cpu] 5 :: hbF 45 q)) (m := 0 + ((mostB cpu r m0).qd3)) ⟨(mostB cpu r m0).qd3, by omega, by rw [hcf]; exact qdj _ _, hcf, rfl, HF.sub (by kernel_rfl), HM.picksT 6 [0, 1, 2, 3, 4, 5] (by decide) (by decide) rfl⟩ ?_
  clear HF HM; rintro mS a w_ ⟨m, hm, hmc, hdn, rfl, HF, HM⟩
  refine wp_seq (wp_seq (qa ?_))
  refine fp HF 2 0 [(67, vI m), (66, .func (.func 35) #[] #[vP g4 0, vP g5 0, vP g6 0])] fun a HF => ?_
  refine fo HF 2 rfl rfl ?_
  refine qcb HF (f := 35) (vs := [vI m]) (fst := []) (caps := [vP g4 0, vP g5 0, vP g6 0]) rfl rfl rfl (by kernel_rfl) rfl (by decide) (qnq cpu X r.length cc r opn m hGr (by omega) g4 g5 g6 _ (HM.blk (i := 5) rfl) (HM.blk (i := 4) rfl) (HM.blk (i := 3) rfl) (HM.old hX) hcc rfl (by omega)) ?_
  rintro _ w68 ⟨⟨A68, c68, rfl, ho, hc68⟩, hbw⟩
  refine ⟨_, rfl, ?_⟩
  replace HM := HM.callRow hbw ho
  clear HF; intro a HF
  refine fo HF 3 rfl rfl ?_
  refine e_is HF HM [.agg ((ofB cpu r opn m).cells A68 c68)] (vI ((ofB cpu r opn m).err)) rfl rfl (qro (ofB cpu r opn m) (qxx hGr m) A68 c68 B _ (hL.mem HM hB) (HM.le hB) (HM.rd (i := 0) rfl) (by rw [qej (by omega)]; omega) rfl) fun w69 hbw HM a HF => ?_
  refine fp HF 1 4 [(70, .bool (((ofB cpu r opn m).err : Int) != (0 : Int)))] fun a HF => ?_
  refine qb rfl ?_
  rcases HF.tf 70 rfl with ⟨hb70, HF⟩ | ⟨hb70, HF⟩
  ·
   have hd70 := bne_iff_ne.1 hb70
   have hdd := qmb (p := (fun n => decide ((ofB cpu r opn n).err = 0))) (m := m) (by rw [decide_eq_false_iff_not]; omega) (by omega)
   have hle := qdj (fun n => decide ((ofB cpu r opn n).err = 0)) (m - 1)
   refine qf HF rfl (wp_skip (wp_block (qa ?_)))
   refine fp HF 2 0 [(72, vI (IntKind.i64.wrap ((m : Int) - 1)))] fun a HF => ?_
   replace HF := HF.sp 72 (vI (m - 1 : Nat)) rfl (ql (by omega) (by omega))
   refine fp HF 1 2 [(12, vI (m - 1 : Nat))] fun a HF => ?_
   refine qb rfl ?_
   exact ⟨_, (by omega), (m - 1), by omega, by rw [hdn, hdd]; exact hle, hdn.trans hdd, rfl, HF.sub (by kernel_rfl), HM.picksT 7 [1, 2, 3, 4, 5, 6] (by decide) (by decide) rfl⟩
  have hd70 := bne_eq_false_iff_eq.1 hb70
  have hhere := qmc (p := (fun n => decide ((ofB cpu r opn n).err = 0))) (m := m) (by rw [decide_eq_true_eq]; omega)
  rw [hdn, hhere] at hst
  refine qe HF rfl (wp_exit (wp_seq (qa ?_)))
  refine fp HF 3 0 [(75, vI m), (74, .func (.func 35) #[] #[vP g4 0, vP g5 0, vP g6 0]), (73, .slice Ao q.length co)] fun a HF => ?_
  refine fo HF 3 rfl rfl ?_
  refine qcb HF (f := 35) (vs := [vI m]) (fst := []) (caps := [vP g4 0, vP g5 0, vP g6 0]) rfl rfl rfl (by kernel_rfl) rfl (by decide) (qnq cpu X r.length cc r opn m hGr (by omega) g4 g5 g6 _ (HM.blk (i := 6) rfl) (HM.blk (i := 5) rfl) (HM.blk (i := 4) rfl) (HM.old hX) hcc rfl (by omega)) ?_
  rintro _ w76 ⟨⟨A76, c76, rfl, ho, hc76⟩, hbw⟩
  refine ⟨_, rfl, ?_⟩
  replace HM := HM.callRow hbw ho
  clear HF; intro a HF
  refine fo HF 4 rfl rfl ?_
  refine qap HF HM (vs := [(0, .agg ((ofB cpu r opn m).cells A76 c76))]) (cs := ((ofB cpu r opn m).cells A76 c76)) rfl qd7 (by decide) rfl (by kernel_rfl) rfl (by decide) ?_
  clear HF HM; intro a w77 g77 HF HM
  refine fo HF 5 rfl rfl ?_
  refine zq HF HM (i := 5) rfl qd7 rfl rfl rfl (news := (hbL (⟨ofB cpu r opn m, A76, c76⟩ : Hb))) (HM.rdBlk (i := 0) (n := 1) (size := 5) rfl rfl) (qba _ _ _) (by omega) (by omega) rfl (by decide) ?_
  clear HF HM; intro a w78 A78 c78 HF HM hc78
  refine fp HF 1 6 [(11, .slice A78 (q.length + 1) c78)] fun a HF => ?_
  refine qb rfl ?_
  have hnA78 : q.length + 1 = (q ++ [(⟨ofB cpu r opn m, A76, c76⟩ : Hb)]).length := by rw [List.length_append]; rfl
  replace HM := HM.reRow (i := 5) (ys := (q ++ [(⟨ofB cpu r opn m, A76, c76⟩ : Hb)]).flatMap hbL) rfl hnA78 (by rw [List.flatMap_append, List.flatMap_cons, List.flatMap_nil, List.append_nil])
  rw [hnA78] at hc78
  replace HF := HF.as (t := 11) (u := .slice A78 ((q ++ [(⟨ofB cpu r opn m, A76, c76⟩ : Hb)]).length) c78) rfl (by rw [hnA78])
  replace HF := HF.as (t := 78) (u := .slice A78 ((q ++ [(⟨ofB cpu r opn m, A76, c76⟩ : Hb)]).length) c78) rfl (by rw [hnA78])
  replace HM := Mem.qyf (a := [.blk g77 ((ofB cpu r opn m).cells A76 c76) 41, .row (.slice A68 ((ofB cpu r opn m).evs.length) c68) ((ofB cpu r opn m).evs.length) ((ofB cpu r opn m).evs.flatMap evL) 45 11, .blk g13 #[vB 1, vB cpu, vI 0, vI 0, .slice A59 ((evsI (r.take m0)).length) c59] 41, .row (.slice A59 ((evsI (r.take m0)).length) c59) ((evsI (r.take m0)).length) ((evsI (r.take m0)).flatMap evL) 45 11, .row (.slice A78 ((q ++ [(⟨ofB cpu r opn m, A76, c76⟩ : Hb)]).length) c78) ((q ++ [(⟨ofB cpu r opn m, A76, c76⟩ : Hb)]).length) ((q ++ [(⟨ofB cpu r opn m, A76, c76⟩ : Hb)]).flatMap hbL) 41 5, .blk g6 #[vI opn] 3, .blk g5 #[.slice X r.length cc] 22, .blk g4 #[vB cpu] 5]) (q := q) (HM.picksT (fs' := (.row (.slice A76 ((ofB cpu r opn m).evs.length) c76) ((ofB cpu r opn m).evs.length) ((ofB cpu r opn m).evs.flatMap evL) 45 11 :: .blk g77 ((ofB cpu r opn m).cells A76 c76) 41 :: .row (.slice A68 ((ofB cpu r opn m).evs.length) c68) ((ofB cpu r opn m).evs.length) ((ofB cpu r opn m).evs.flatMap evL) 45 11 :: .blk g13 #[vB 1, vB cpu, vI 0, vI 0, .slice A59 ((evsI (r.take m0)).length) c59] 41 :: .row (.slice A59 ((evsI (r.take m0)).length) c59) ((evsI (r.take m0)).length) ((evsI (r.take m0)).flatMap evL) 45 11 :: .row (.slice A78 ((q ++ [(⟨ofB cpu r opn m, A76, c76⟩ : Hb)]).length) c78) ((q ++ [(⟨ofB cpu r opn m, A76, c76⟩ : Hb)]).length) ((q ++ [(⟨ofB cpu r opn m, A76, c76⟩ : Hb)]).flatMap hbL) 41 5 :: .blk g6 #[vI opn] 3 :: .blk g5 #[.slice X r.length cc] 22 :: .blk g4 #[vB cpu] 5 :: hbF 45 q)) 9 [1, 0, 2, 3, 4, 5, 6, 7, 8] (by decide) (by decide) rfl) rfl
  replace HM : Mem w _ (.blk g77 ((ofB cpu r opn m).cells A76 c76) 41 :: .row (.slice A68 ((ofB cpu r opn m).evs.length) c68) ((ofB cpu r opn m).evs.length) ((ofB cpu r opn m).evs.flatMap evL) 45 11 :: .blk g13 #[vB 1, vB cpu, vI 0, vI 0, .slice A59 ((evsI (r.take m0)).length) c59] 41 :: .row (.slice A59 ((evsI (r.take m0)).length) c59) ((evsI (r.take m0)).length) ((evsI (r.take m0)).flatMap evL) 45 11 :: .row (.slice A78 ((q ++ [(⟨ofB cpu r opn m, A76, c76⟩ : Hb)]).length) c78) ((q ++ [(⟨ofB cpu r opn m, A76, c76⟩ : Hb)]).length) ((q ++ [(⟨ofB cpu r opn m, A76, c76⟩ : Hb)]).flatMap hbL) 41 5 :: .blk g6 #[vI opn] 3 :: .blk g5 #[.slice X r.length cc] 22 :: .blk g4 #[vB cpu] 5 :: hbF 45 (q ++ [(⟨ofB cpu r opn m, A76, c76⟩ : Hb)])) := HM
  refine qa ?_
  refine fy HF HM 0 rfl rfl rfl (Yl.qh rfl rfl (by kernel_rfl) (fun _ h => h.cell (i := 6) rfl rfl)) fun a HF => ?_
  refine fp HF 1 1 [(80, vI m)] fun a HF => ?_
  refine fy HF HM 2 rfl rfl rfl (Yl.qh rfl rfl (by kernel_rfl) (fun _ h => h.cell (i := 6) rfl rfl)) fun a HF => ?_
  refine fy HF HM 3 rfl rfl rfl (Yl.len rfl rfl (by kernel_rfl)) fun a HF => ?_
  refine fy HF HM 4 rfl rfl rfl (Yl.qh rfl rfl (by kernel_rfl) (fun _ h => h.cell (i := 6) rfl rfl)) fun a HF => ?_
  refine fy HF HM 5 rfl rfl rfl (Yl.len rfl rfl (by kernel_rfl)) fun a HF => ?_
  refine fy HF HM 6 rfl rfl rfl (v := .slice (if r.length = m then X else X.map (·.add (m * 12))) (r.length - m) (r.length - m)) (Yl.qyb ei_it (i := m) (j := r.length) (q := r.length) rfl rfl rfl rfl rfl (by omega) (by omega) (by omega)) fun a HF => ?_
  replace HF := HF.sp 85 (.slice (if r.length = m then X else X.map (·.add (m * 12))) ((r.drop m).length) ((r.drop m).length)) rfl (by rw [List.length_drop])
  refine fo HF 7 rfl rfl ?_
  refine qp HF HM (i := 6) rfl rfl rfl rfl (by kernel_rfl) rfl rfl (by simp) ?_
  clear HM; intro w18_7 HM
  refine qb rfl ?_
  exact ⟨_, (by rw [List.length_drop]; omega), (r.drop m), if r.length = m then X else X.map (·.add (m * 12)), (r.drop m).length, (q ++ [(⟨ofB cpu r opn m, A76, c76⟩ : Hb)]), (f - 1), A78, c78, Rd.qyg qc3 hX (by omega) (Nat.le_refl _), Nat.le_refl _, hGr.drop m, by rw [List.length_drop]; omega, by rw [List.length_drop]; omega, by rw [← hq, hst, List.map_append, List.append_assoc]; rfl, hc78, by rw [List.length_append, List.length_drop, List.length_singleton]; omega, rfl, HF.sub (by kernel_rfl), HM.picksT 8 [4, 5, 6, 7] (by decide) (by decide) rfl⟩
 have hd50 := of_decide_eq_false hb50
 have hq2 : q.map Hb.b = cutGo cpu opn lim l.length l := by rw [← hq, qrx (by omega), List.append_nil]
 refine qe HF rfl (wp_exit (wp_seq (qa ?_)))
 refine fp HF 3 0 [(9, vI 0), (8, .slice Ao q.length co)] fun a HF => ?_
 refine qb rfl (wp_ret ?_)
 replace HM := HM.picksT (fs' := (.row (.slice Ao q.length co) q.length (q.flatMap hbL) 41 5 :: hbF 45 q)) 4 [0] (by decide) (by decide) rfl
 exact ret2 rfl HF (.tmp HF rfl) (.tmp HF rfl) (by rw [qr0 (by omega) hgood (by omega), ← hq2]; exact qrg HM hco)
theorem qsn : SI Tryd.prog 102 6 := ⟨by kernel_rfl, by kernel_rfl⟩
theorem qiq (W w : World) (gb lp B : Nat) (A : Option Addr) (c : Nat) (l : List Nat) (Inv : List Nat → List Fact → Prop) (Stop : List Fact → Prop) (F0 : List Fact) (hL : LaidX B W) (hB : B ≤ W.heap.size) (hr : Rd W W.heap.size 1 A l.length (l.map B8)) (hc : l.length ≤ c) (hl : ∀ b ∈ l, b < 256) (hn : l.length ≤ 100000000)
    (hy : qfy W lp Inv Stop) (hI0 : Inv l F0) (HM : Mem W w (.blk gb #[.slice A l.length c] 54 :: F0)) :
    Calls Tryd.prog 60 (.func (.yield lp) #[] #[] :: [.pointer (some ⟨gb, 0, none⟩)]).toArray w (qr5 W Inv Stop) := by
 refine qg (vs := [.func (.yield lp) #[] #[], vP gb 0]) Tryd.func60 rfl rfl (by kernel_rfl) (σ0 := [(0, .func (.yield lp) #[] #[]), (1, vP gb 0)]) rfl ?_
 intro a HF
 refine wp_block ?_
 refine zr (fun mS aS wS => ∃ (rest : List Nat) (X : Option Addr) (cc : Nat) (F : List Fact), (Inv rest F) ∧ (Rd W W.heap.size 1 X rest.length (rest.map B8)) ∧ (rest.length ≤ cc) ∧ (∀ b ∈ rest, b < 256) ∧ (rest.length ≤ l.length) ∧ mS = rest.length ∧ Fr aS 29 [] [(0, .func (.yield lp) #[] #[]), (1, vP gb 0)] ∧ Mem W wS (.blk gb #[.slice X rest.length cc] 54 :: F)) (m := l.length) ⟨l, A, c, F0, hI0, hr, hc, hl, Nat.le_refl _, rfl, HF.sub (by kernel_rfl), HM.picksT 1 [0] (by decide) (by decide) rfl⟩ ?_
 clear HF HM; rintro mS a w_ ⟨rest, X, cc, F, hI, hX, hcc, hrl, hrn, rfl, HF, HM⟩
 refine wp_seq (wp_seq (qa ?_))
 refine fy HF HM 0 rfl rfl rfl (Yl.qh rfl rfl (by kernel_rfl) (fun _ h => h.cell (i := 0) rfl rfl)) fun a HF => ?_
 refine fy HF HM 1 rfl rfl rfl (Yl.len rfl rfl (by kernel_rfl)) fun a HF => ?_
 refine fp HF 1 2 [(8, .bool (decide ((rest.length : Int) > (0 : Int))))] fun a HF => ?_
 refine qb rfl ?_
 rcases HF.tf 8 rfl with ⟨hb8, HF⟩ | ⟨hb8, HF⟩
 ·
  have hd8 := of_decide_eq_true hb8
  have hne : 0 < rest.length := by omega
  obtain ⟨b, m, er, hq⟩ : ∃ b m er, readB rest = (b, m, er) := ⟨_, _, _, rfl⟩
  refine qf HF rfl (wp_skip (wp_block (wp_seq (qa ?_))))
  refine fy HF HM 0 rfl rfl rfl (Yl.qh rfl rfl (by kernel_rfl) (fun _ h => h.cell (i := 0) rfl rfl)) fun a HF => ?_
  refine fo HF 1 rfl rfl ?_
  refine e_cl HF [.slice X rest.length cc] rfl rfl (qjd X rest.length cc rest B _ (hL.mem HM hB) (HM.le hB) (HM.old hX) hcc rfl (by omega) hrl hq) ?_
  rintro _ w11 ⟨⟨A11, c11, rfl, ho, hc11⟩, hbw⟩
  refine ⟨_, rfl, ?_⟩
  replace HM := HM.callRow hbw ho
  clear HF; intro a HF
  refine fp HF 4 2 [(14, vI er), (13, vI m), (12, .agg (b.cells A11 c11))] fun a HF => ?_
  refine fo HF 6 rfl rfl ?_
  refine qr HF HM (cs := #[vB 0, vB 0, vI 0, vI 0, .slice none 0 0]) rfl (by kernel_rfl) rfl (by decide) ?_
  clear HF HM; intro a w3 g3 HF HM
  refine fo HF 7 rfl rfl ?_
  refine e_sa HF HM 0 rfl rfl rfl rfl rfl si_bk rfl rfl (qba _ _ _) ?_
  clear HM; intro w1_7 HM
  refine fp HF 2 8 [(5, vI er), (4, vI m)] fun a HF => ?_
  refine qb rfl (wp_seq (wp_seq ?_))
  refine qk3 (i := 5) ?_
  refine fp HF 1 0 [(15, .func (.yield lp) #[] #[])] fun a HF => ?_
  refine fy HF HM 1 rfl rfl rfl (v := .agg (b.cells A11 c11)) (Yl.zh rfl rfl si_bk rfl (fun _ h => qd (h.blk (i := 0) rfl))) fun a HF => ?_
  refine fp HF 1 2 [(17, vI m)] fun a HF => ?_
  refine fy HF HM 3 rfl rfl rfl (v := .agg #[vB b.kind, vB b.cpu, vI b.lost, vI b.next, .slice A11 b.evs.length c11, vI m]) (Yl.build (vs := [(0, .agg (b.cells A11 c11)), (1, vI m)]) rfl (by kernel_rfl) (by kernel_rfl)) fun a HF => ?_
  refine fp HF 1 4 [(19, vI er)] fun a HF => ?_
  refine qb rfl ?_
  refine quj HF (i := 5) (vs := [.agg #[vB b.kind, vB b.cpu, vI b.lost, vI b.next, .slice A11 b.evs.length c11, vI m], vI er]) rfl rfl rfl rfl rfl rfl (by decide) (hy rest F _ _ A11 c11 b m er hI hq hne hrl hc11 (Mem.qw1 (es := [.blk g3 (b.cells A11 c11) 41, .blk gb #[.slice X rest.length cc] 54]) (HM.picksT (fs' := (.row (.slice A11 b.evs.length c11) b.evs.length (b.evs.flatMap evL) 45 11 :: .blk g3 (b.cells A11 c11) 41 :: .blk gb #[.slice X rest.length cc] 54 :: F)) 3 [1, 0, 2] (by decide) (by decide) rfl))) qhv ?_
  clear HF HM; rintro v w20 a ⟨F2, HM, (⟨he, hv, hI2⟩ | ⟨he, hv, hS2⟩)⟩ HF <;> injection hv with hv <;> subst hv
  ·
   replace HM : Mem W w20 (.blk g3 (b.cells A11 c11) 41 :: .blk gb #[.slice X rest.length cc] 54 :: F2) := Mem.qs4 (es := [.blk g3 (b.cells A11 c11) 41, .blk gb #[.slice X rest.length cc] 54]) HM
   have hq0 := hq; rw [he] at hq0; have hof := qgj hrl hq0; have hm13 := hof.least; have hml := hof.len; have hst : (rest.drop m).length < rest.length := by rw [List.length_drop]; omega
   refine fp HF 4 6 [(24, .bool ((er : Int) != (0 : Int))), (22, .bool false)] fun a HF => ?_
   replace HF := HF.sp 24 (.bool false) rfl (by rw [he]; simp)
   refine fp HF 1 10 [(25, .bool false)] fun a HF => ?_
   refine qb rfl (qe HF rfl (wp_skip (qa ?_)))
   refine fy HF HM 0 rfl rfl rfl (Yl.qh rfl rfl (by kernel_rfl) (fun _ h => h.cell (i := 1) rfl rfl)) fun a HF => ?_
   refine fp HF 1 1 [(27, vI m)] fun a HF => ?_
   refine fy HF HM 2 rfl rfl rfl (v := .slice (if cc = m then X else X.map (·.add (m * 1))) (rest.length - m) (cc - m)) (Yl.sliceFrom ei_u8 (j := m) rfl rfl rfl (by omega)) fun a HF => ?_
   replace HF := HF.sp 28 (.slice (if cc = m then X else X.map (·.add (m * 1))) ((rest.drop m).length) (cc - m)) rfl (by rw [List.length_drop])
   refine fo HF 3 rfl rfl ?_
   refine qp HF HM (i := 1) rfl rfl rfl rfl (by kernel_rfl) rfl rfl (by simp) ?_
   clear HM; intro w3_3 HM
   refine qb rfl ?_
   exact ⟨_, hst, (rest.drop m), if cc = m then X else X.map (·.add (m * 1)), cc - m, F2, hI2, Rd.qyh hX hml hcc, by rw [List.length_drop]; omega, qa6 hrl m, by omega, rfl, HF.sub (by kernel_rfl), HM.picksT 2 [1] (by decide) (by decide) rfl⟩
  ·
   replace HM : Mem W w20 (.blk g3 (b.cells A11 c11) 41 :: .blk gb #[.slice X rest.length cc] 54 :: F2) := Mem.qs4 (es := [.blk g3 (b.cells A11 c11) 41, .blk gb #[.slice X rest.length cc] 54]) HM
   refine fp HF 5 6 [(25, .bool true)] fun a HF => ?_
   refine qb rfl (qf HF rfl (wp_ret ?_))
   exact ret0 rfl HF (⟨_, rfl, F2, Mem.qny [.blk g3 (b.cells A11 c11) 41, .blk gb #[.slice X rest.length cc] 54] HM, .inr hS2⟩)
 have hd8 := of_decide_eq_false hb8
 have hr0 : rest = [] := List.length_eq_zero_iff.1 (by omega)
 refine qe HF rfl (wp_exit ?_)
 subst hr0
 exact norm0 rfl HF (⟨_, rfl, F, Mem.qny [.blk gb #[.slice X ([] : List Nat).length cc] 54] HM, .inl hI⟩)
theorem qld (A : Option Addr) (n c : Nat) (w : World) :
    Calls Tryd.prog 42 #[.slice A n c] w fun r w' => ∃ g, r = .returned (.func (.func 60) #[] #[.pointer (some ⟨g, 0, none⟩)]) ∧ Mem w w' [.blk g #[.slice A n c] 54] := by
 refine qg (vs := [.slice A n c]) Tryd.func42 rfl rfl (by kernel_rfl) (σ0 := [(0, .slice A n c)]) rfl ?_
 intro a HF
 have HM := Mem.start w
 refine wp_seq (qa ?_)
 refine fo HF 0 rfl rfl ?_
 refine e_box HF HM (cs := #[.slice A n c]) rfl rfl rfl rfl (by decide) ?_
 clear HF HM; intro a w1 g1 HF HM
 refine fp HF 1 1 [(2, .nilFunc)] fun a HF => ?_
 refine qb rfl (wp_seq (qa ?_))
 refine fy HF HM 0 rfl rfl rfl (v := .func (.func 60) #[] #[vP g1 0]) (Yl.makeFunc (fst := []) (caps := [vP g1 0]) rfl rfl rfl) fun a HF => ?_
 refine fp HF 1 1 [(2, .func (.func 60) #[] #[vP g1 0])] fun a HF => ?_
 refine qb rfl (wp_ret ?_)
 exact ret1 rfl HF (.tmp HF rfl) (⟨_, rfl, HM⟩)
theorem qww (A : Option Addr) (c : Nat) (l : List Nat) (BB : Nat) (w : World) (hL : LaidX BB w) (hB : BB ≤ w.heap.size) (hr : Rd w w.heap.size 1 A l.length (l.map B8)) (hc : l.length ≤ c) (hl : ∀ b ∈ l, b < 256) (hn : l.length ≤ 100000000) :
    Calls Tryd.prog 22 #[.slice A l.length c] w (Is w (.tuple #[.int .i64 ((qa7 l).1.length : Int), .int .i64 ((qa7 l).2.1 : Int), .int .i64 ((qa7 l).2.2 : Int)])) := by
 refine qe8 (vs := [.slice A l.length c]) Tryd.func22 rfl rfl (by kernel_rfl) (σ0 := [(0, .slice A l.length c)]) rfl ?_
 intro a HF
 have HM := Mem.start w
 refine wp_seq (qa ?_)
 refine fo HF 0 rfl rfl ?_
 refine qr HF HM (cs := #[vI 0]) rfl (by kernel_rfl) rfl (by decide) ?_
 clear HF HM; intro a w2 g2 HF HM
 refine fo HF 1 rfl rfl ?_
 refine qr HF HM (cs := #[vI 0]) rfl (by kernel_rfl) rfl (by decide) ?_
 clear HF HM; intro a w3 g3 HF HM
 refine fo HF 2 rfl rfl ?_
 refine qr HF HM (cs := #[vI 0]) rfl (by kernel_rfl) rfl (by decide) ?_
 clear HF HM; intro a w4 g4 HF HM
 refine qb rfl (wp_seq (wp_seq (qa ?_)))
 refine fp HF 1 0 [(9, .slice A l.length c)] fun a HF => ?_
 refine fy HF HM 1 rfl rfl rfl (Yl.len rfl rfl (by kernel_rfl)) fun a HF => ?_
 refine fp HF 1 2 [(11, .bool (decide ((l.length : Int) > (524288 : Int))))] fun a HF => ?_
 refine qb rfl ?_
 rcases HF.tf 11 rfl with ⟨hb11, HF⟩ | ⟨hb11, HF⟩
 ·
  have hd11 := of_decide_eq_true hb11
  refine qf HF rfl (wp_seq (qa ?_))
  refine fo HF 0 rfl rfl ?_
  refine qp HF HM (i := 2) rfl rfl rfl rfl (by kernel_rfl) rfl rfl (by simp) ?_
  clear HM; intro w2_0 HM
  refine fo HF 1 rfl rfl ?_
  refine qp HF HM (i := 1) rfl rfl rfl rfl (by kernel_rfl) rfl rfl (by simp) ?_
  clear HM; intro w2_1 HM
  refine fo HF 2 rfl rfl ?_
  refine qp HF HM (i := 0) rfl rfl rfl rfl (by kernel_rfl) rfl rfl (by simp) ?_
  clear HM; intro w2_2 HM
  refine qb rfl (wp_ret ?_)
  refine qvo ?_
  exact ret3 rfl HF (.cell1 (i := 2) HF HM rfl rfl (by kernel_rfl) rfl) (.cell1 (i := 1) HF HM rfl rfl (by kernel_rfl) rfl) (.cell1 (i := 0) HF HM rfl rfl (by kernel_rfl) rfl) (⟨by rw [show qa7 l = ([], 0, 3) from if_pos (by omega)]; rfl, HM.below⟩)
 have hd11 := of_decide_eq_false hb11
 refine qe HF rfl (wp_skip (wp_seq (qa ?_)))
 refine fo HF 0 rfl rfl ?_
 refine qr HF HM (cs := #[vI 0]) rfl (by kernel_rfl) rfl (by decide) ?_
 clear HF HM; intro a w5 g5 HF HM
 refine fo HF 1 rfl rfl ?_
 refine qr HF HM (cs := #[vI 0]) rfl (by kernel_rfl) rfl (by decide) ?_
 clear HF HM; intro a w6 g6 HF HM
 refine fo HF 2 rfl rfl ?_
 refine qp HF HM (i := 1) rfl rfl rfl rfl (by kernel_rfl) rfl rfl (by simp) ?_
 clear HM; intro w3_2 HM
 refine fo HF 3 rfl rfl ?_
 refine qp HF HM (i := 0) rfl rfl rfl rfl (by kernel_rfl) rfl rfl (by simp) ?_
 clear HM; intro w3_3 HM
 refine qb rfl (wp_seq (wp_seq (qa ?_)))
 refine fp HF 1 0 [(12, .slice A l.length c)] fun a HF => ?_
 refine fo HF 1 rfl rfl ?_
 refine e_cl HF [.slice A l.length c] rfl rfl (qld A l.length c _) ?_
 rintro _ w13 ⟨gp, rfl, hm⟩
 refine ⟨_, rfl, ?_⟩
 replace HM := HM.join hm
 clear HF; intro a HF
 refine qb rfl (wp_block ?_)
 refine qvn HF HM (fun F => ∃ (k : Nat) (p : Nat) (f : Nat), (([] : List Nat).length ≤ f) ∧ ((qq l.length l).1.length = k + (qq f ([] : List Nat)).1.length) ∧ ((qq l.length l).2.1 = p + (qq f ([] : List Nat)).2.1) ∧ ((qq l.length l).2.2 = (qq f ([] : List Nat)).2.2) ∧ (k + ([] : List Nat).length ≤ l.length) ∧ (p + ([] : List Nat).length ≤ l.length) ∧ F = [.blk g6 #[vI p] 3, .blk g5 #[vI k] 3, .blk g4 #[vI 0] 36, .blk g3 #[vI 0] 3, .blk g2 #[vI 0] 3]) (fun c F => c = .ret ∧ ∃ (k : Nat) (p : Nat) (e : Nat), ((qq l.length l).1.length = k) ∧ ((qq l.length l).2.1 = p) ∧ ((qq l.length l).2.2 = e) ∧ F = [.blk g6 #[vI p] 3, .blk g5 #[vI k] 3, .blk g4 #[vI e] 36, .blk g3 #[vI p] 3, .blk g2 #[vI k] 3]) rfl (by kernel_rfl) ?_ ?_ ?_
 ·
  clear HF HM; intro lp B rec w1 hrec HM
  have hy : qfy w lp (fun rest F => ∃ (k : Nat) (p : Nat) (f : Nat), (rest.length ≤ f) ∧ ((qq l.length l).1.length = k + (qq f rest).1.length) ∧ ((qq l.length l).2.1 = p + (qq f rest).2.1) ∧ ((qq l.length l).2.2 = (qq f rest).2.2) ∧ (k + rest.length ≤ l.length) ∧ (p + rest.length ≤ l.length) ∧ F = (.obj lp (.loop (rec .ready none)) :: .obj B (.deferred (some [])) :: [.blk g6 #[vI p] 3, .blk g5 #[vI k] 3, .blk g4 #[vI 0] 36, .blk g3 #[vI 0] 3, .blk g2 #[vI 0] 3])) (fun F => ∃ (k : Nat) (p : Nat) (e : Nat), ((qq l.length l).1.length = k) ∧ ((qq l.length l).2.1 = p) ∧ ((qq l.length l).2.2 = e) ∧ F = (.obj lp (.loop (rec .done (some .ret))) :: .obj B (.deferred (some [])) :: [.blk g6 #[vI p] 3, .blk g5 #[vI k] 3, .blk g4 #[vI e] 36, .blk g3 #[vI p] 3, .blk g2 #[vI k] 3])) := by
   rintro rest F fr w3 A9 c9 b m er ⟨k, p, f, hf, hk, hp, he, hkn, hpn, rfl⟩ hq hne hrl hcb HM
   replace HM := HM.picksT (fs' := (.obj lp (.loop (rec .ready none)) :: .row (.slice A9 b.evs.length c9) b.evs.length (b.evs.flatMap evL) 45 11 :: .obj B (.deferred (some [])) :: .blk g6 #[vI p] 3 :: .blk g5 #[vI k] 3 :: .blk g4 #[vI 0] 36 :: .blk g3 #[vI 0] 3 :: .blk g2 #[vI 0] 3 :: fr)) 8 [1, 0, 2, 3, 4, 5, 6, 7] (by decide) (by decide) rfl
   refine qgd (v1 := .agg #[.int .u8 (b.kind : Int), .int .u8 (b.cpu : Int), .int .i64 b.lost, .int .i64 b.next, .slice A9 b.evs.length c9, .int .i64 (m : Int)]) (v2 := vI er) hrec HM (by decide) (by decide) fun a HF => ?_
   refine wpIn_seq ?_
   refine zl ?_
   refine fo HF 0 rfl rfl ?_
   refine qr HF HM (cs := #[vB 0, vB 0, vI 0, vI 0, .slice none 0 0, vI 0]) rfl (by kernel_rfl) rfl (by decide) ?_
   clear HF HM; intro a w7 g7 HF HM
   refine fo HF 1 rfl rfl ?_
   refine e_sa HF HM 0 rfl rfl rfl rfl rfl qsn rfl rfl (by simp [Value.oneCell']) ?_
   clear HM; intro w5_1 HM
   refine qb rfl ?_
   refine zl ?_
   refine fp HF 1 0 [(8, vI er)] fun a HF => ?_
   refine qb rfl ?_
   refine ⟨(.blk g7 #[.int .u8 (b.kind : Int), .int .u8 (b.cpu : Int), .int .i64 b.lost, .int .i64 b.next, .slice A9 b.evs.length c9, .int .i64 (m : Int)] 102 :: .row (.slice A9 b.evs.length c9) b.evs.length (b.evs.flatMap evL) 45 11 :: .obj B (.deferred (some [])) :: .blk g6 #[vI p] 3 :: .blk g5 #[vI k] 3 :: .blk g4 #[vI 0] 36 :: .blk g3 #[vI 0] 3 :: .blk g2 #[vI 0] 3 :: fr), HM.picksT (fs' := (.obj lp (.loop (rec .ready none)) :: .blk g7 #[.int .u8 (b.kind : Int), .int .u8 (b.cpu : Int), .int .i64 b.lost, .int .i64 b.next, .slice A9 b.evs.length c9, .int .i64 (m : Int)] 102 :: .row (.slice A9 b.evs.length c9) b.evs.length (b.evs.flatMap evL) 45 11 :: .obj B (.deferred (some [])) :: .blk g6 #[vI p] 3 :: .blk g5 #[vI k] 3 :: .blk g4 #[vI 0] 36 :: .blk g3 #[vI 0] 3 :: .blk g2 #[vI 0] 3 :: fr)) 9 [1, 0, 2, 3, 4, 5, 6, 7, 8] (by decide) (by decide) rfl, fun w4 HM => ?_⟩
   refine wpIn_block ?_
   refine wpIn_seq ?_
   refine wpIn_seq ?_
   refine zl ?_
   refine fp HF 2 0 [(17, .bool ((er : Int) != (0 : Int)))] fun a HF => ?_
   refine qb rfl ?_
   rcases HF.tf 17 rfl with ⟨hb17, HF⟩ | ⟨hb17, HF⟩
   ·
    have hd17 := bne_iff_ne.1 hb17
    have hg := qek (f := f) (by omega) hne hq (by omega)
    rw [hg] at hk hp he
    simp only [List.length_nil, Nat.add_zero] at hk hp
    refine qhg HF rfl ?_
    refine wpIn_seq ?_
    refine qr4 HM (.obj lp (.loop (rec .busy none)) :: .blk g7 #[.int .u8 (b.kind : Int), .int .u8 (b.cpu : Int), .int .i64 b.lost, .int .i64 b.next, .slice A9 b.evs.length c9, .int .i64 (m : Int)] 102 :: .row (.slice A9 b.evs.length c9) b.evs.length (b.evs.flatMap evL) 45 11 :: .obj B (.deferred (some [])) :: .blk g6 #[vI p] 3 :: .blk g5 #[vI k] 3 :: .blk g4 #[vI 0] 36 :: .blk g3 #[vI 0] 3 :: fr) 9 [0, 1, 2, 3, 4, 5, 6, 7] [4, 5] fun HM HS => ?_
    refine ap HF (fun _ => HS) [2] #[false, false, true, false, false, false] [(20, vI er)] fun a HF => ?_
    refine ay HF HS 0 rfl rfl rfl (Yl.qh rfl rfl (by kernel_rfl) (fun _ h => h.cell (i := 5) rfl rfl)) fun a HF => ?_
    refine ay HF HS 1 rfl rfl rfl (Yl.qh rfl rfl (by kernel_rfl) (fun _ h => h.cell (i := 4) rfl rfl)) fun a HF => ?_
    refine qi [3] (by kernel_rfl) rfl ?_
    refine all_cons ?_ all_nil
    refine qk HF (i := 3) rfl rfl ?_
    refine qp HF HM (i := 8) rfl rfl rfl rfl (by kernel_rfl) rfl rfl (by simp) ?_
    clear HM; intro w8_3 HM
    refine keepS (HM.picksT 9 [0, 1, 2, 3, 4, 5, 6, 7] (by decide) (by decide) rfl) (fun HS => ?_)
    refine qi [4] (by kernel_rfl) rfl ?_
    refine all_cons ?_ all_nil
    refine qk HF (i := 4) rfl rfl ?_
    refine qp HF HM (i := 7) rfl rfl rfl rfl (by kernel_rfl) rfl rfl (by simp) ?_
    clear HM; intro w8_4 HM
    refine noS (by kernel_rfl) ?_
    refine qi [5] (by kernel_rfl) rfl ?_
    refine all_cons ?_ all_nil
    refine qk HF (i := 5) rfl rfl ?_
    refine qp HF HM (i := 6) rfl rfl rfl rfl (by kernel_rfl) rfl rfl (by simp) ?_
    clear HM; intro w8_5 HM
    refine noS (by kernel_rfl) ?_
    refine qn (by kernel_rfl) ?_
    refine wpIn_ret ?_
    refine ⟨(.obj B (.deferred (some [])) :: .blk g6 #[vI p] 3 :: .blk g5 #[vI k] 3 :: .blk g4 #[vI er] 36 :: .blk g3 #[vI p] 3 :: .blk g2 #[vI k] 3 :: fr), HM.picksT (fs' := (.obj lp (.loop (rec .busy none)) :: .obj B (.deferred (some [])) :: .blk g6 #[vI p] 3 :: .blk g5 #[vI k] 3 :: .blk g4 #[vI er] 36 :: .blk g3 #[vI p] 3 :: .blk g2 #[vI k] 3 :: fr)) 9 [0, 3, 4, 5, 6, 7, 8] (by decide) (by decide) rfl, fun w5 HM => ?_⟩
    exact ⟨(.obj lp (.loop (rec .done (some .ret))) :: .obj B (.deferred (some [])) :: .blk g6 #[vI p] 3 :: .blk g5 #[vI k] 3 :: .blk g4 #[vI er] 36 :: .blk g3 #[vI p] 3 :: .blk g2 #[vI k] 3 :: []), HM, .inr ⟨(by omega), rfl, k, p, er, hk, hp, he, rfl⟩⟩
   have hd17 := bne_eq_false_iff_eq.1 hb17
   have he0 : er = 0 := by omega
   have hq0 := hq
   rw [he0] at hq0
   have hg := qdl (f := f) (by omega) hne hq0
   have hof := qgj hrl hq0
   have hm13 := hof.least
   have hml := hof.len
   rw [hg] at hk hp he
   dsimp only at hk hp he
   rw [List.length_cons] at hk
   refine qgc HF rfl ?_
   refine wpIn_skip ?_
   refine wpIn_seq ?_
   refine zl ?_
   refine fy HF HM 0 rfl rfl rfl (Yl.qh rfl rfl (by kernel_rfl) (fun _ h => h.cell (i := 5) rfl rfl)) fun a HF => ?_
   refine fp HF 1 1 [(22, vI (IntKind.i64.wrap ((k : Int) + 1)))] fun a HF => ?_
   replace HF := HF.sp 22 (vI (k + 1 : Nat)) rfl (ql (by omega) (by omega))
   refine fo HF 2 rfl rfl ?_
   refine qp HF HM (i := 5) rfl rfl rfl rfl (by kernel_rfl) rfl rfl (by simp) ?_
   clear HM; intro w9_2 HM
   refine qb rfl ?_
   refine zl ?_
   refine fy HF HM 0 rfl rfl rfl (Yl.qh rfl rfl (by kernel_rfl) (fun _ h => h.cell (i := 4) rfl rfl)) fun a HF => ?_
   refine fp HF 1 1 [(24, vP g7 5)] fun a HF => ?_
   refine fy HF HM 2 rfl rfl rfl (v := vI m) (Yl.qh rfl rfl (by kernel_rfl) (fun _ h => h.cell (i := 1) rfl (rfl))) fun a HF => ?_
   refine fp HF 1 3 [(26, vI (IntKind.i64.wrap ((p : Int) + (m : Int))))] fun a HF => ?_
   replace HF := HF.sp 26 (vI (p + m : Nat)) rfl (ql (by omega) (by omega))
   refine fo HF 4 rfl rfl ?_
   refine qp HF HM (i := 4) rfl rfl rfl rfl (by kernel_rfl) rfl rfl (by simp) ?_
   clear HM; intro w10_4 HM
   refine qb rfl ?_
   refine ⟨(.obj B (.deferred (some [])) :: .blk g6 #[vI (p + m : Nat)] 3 :: .blk g5 #[vI (k + 1 : Nat)] 3 :: .blk g4 #[vI 0] 36 :: .blk g3 #[vI 0] 3 :: .blk g2 #[vI 0] 3 :: fr), HM.picksT (fs' := (.obj lp (.loop (rec .busy none)) :: .obj B (.deferred (some [])) :: .blk g6 #[vI (p + m : Nat)] 3 :: .blk g5 #[vI (k + 1 : Nat)] 3 :: .blk g4 #[vI 0] 36 :: .blk g3 #[vI 0] 3 :: .blk g2 #[vI 0] 3 :: fr)) 9 [0, 3, 4, 5, 6, 7, 8] (by decide) (by decide) rfl, fun w5 HM => ?_⟩
   exact ⟨(.obj lp (.loop (rec .ready none)) :: .obj B (.deferred (some [])) :: .blk g6 #[vI (p + m : Nat)] 3 :: .blk g5 #[vI (k + 1 : Nat)] 3 :: .blk g4 #[vI 0] 36 :: .blk g3 #[vI 0] 3 :: .blk g2 #[vI 0] 3 :: []), HM, .inl ⟨(by omega), rfl, k + 1, p + m, (f - 1), by rw [List.length_drop]; omega, by omega, by omega, he, by rw [List.length_drop]; omega, by rw [List.length_drop]; omega, rfl⟩⟩
  refine (qiq w w1 gp lp BB A c l _ _ _ hL hB hr hc hl (by omega) hy ⟨0, 0, l.length, Nat.le_refl _, (Nat.zero_add _).symm, (Nat.zero_add _).symm, rfl, by omega, by omega, rfl⟩ (HM.picks [2, 0, 1, 3, 4, 5, 6, 7] (by decide) rfl)).mono ?_
  rintro r w2 ⟨v, rfl, F2, HM2, (⟨k, p, f, hf, hk, hp, he, hkn, hpn, rfl⟩ | ⟨k, p, e, hk, hp, he, rfl⟩)⟩
  ·exact ⟨v, rfl, .inl ⟨_, ⟨k, p, f, hf, hk, hp, he, hkn, hpn, rfl⟩, HM2⟩⟩
  ·exact ⟨v, rfl, .inr ⟨.ret, _, ⟨rfl, k, p, e, hk, hp, he, rfl⟩, HM2⟩⟩
 ·
  clear HF HM; rintro B a w6 _ ⟨k, p, f, hf, hk, hp, he, hkn, hpn, rfl⟩ HF HM
  have hz := qhh (f := f) (l := []) rfl
  rw [hz] at hk hp he
  simp only [List.length_nil, Nat.add_zero] at hk hp
  refine wp_seq ?_
  refine qag HM [.obj B (.deferred (some [])), .blk g6 #[vI p] 3, .blk g5 #[vI k] 3, .blk g4 #[vI 0] 36, .blk g3 #[vI 0] 3] [0, 1, 2, 3, 4] [3, 4] fun HM HS => ?_
  refine ay HF HS 0 rfl rfl rfl (Yl.qh rfl rfl (by kernel_rfl) (fun _ h => h.cell (i := 2) rfl rfl)) fun a HF => ?_
  refine ay HF HS 1 rfl rfl rfl (Yl.qh rfl rfl (by kernel_rfl) (fun _ h => h.cell (i := 1) rfl rfl)) fun a HF => ?_
  refine qi [2] (by kernel_rfl) rfl ?_
  refine all_cons ?_ all_nil
  refine qk HF (i := 2) rfl rfl ?_
  refine qp HF HM (i := 5) rfl rfl rfl rfl (by kernel_rfl) rfl rfl (by simp) ?_
  clear HM; intro w11_2 HM
  refine keepS (HM.picks [0, 1, 2, 3, 4] (by decide) rfl) (fun HS => ?_)
  refine qi [3] (by kernel_rfl) rfl ?_
  refine all_cons ?_ all_nil
  refine qk HF (i := 3) rfl rfl ?_
  refine qp HF HM (i := 4) rfl rfl rfl rfl (by kernel_rfl) rfl rfl (by simp) ?_
  clear HM; intro w11_3 HM
  refine noS (by kernel_rfl) ?_
  refine qi [4] (by kernel_rfl) rfl ?_
  refine all_cons ?_ all_nil
  refine qk HF (i := 4) rfl rfl ?_
  refine qp HF HM (i := 3) rfl rfl rfl rfl (by kernel_rfl) rfl rfl (by simp) ?_
  clear HM; intro w11_4 HM
  refine noS (by kernel_rfl) ?_
  refine qn (by kernel_rfl) ?_
  refine wp_ret ?_
  refine qjk HF HM (i := 0) rfl fun a w7 HF HM => ?_
  exact ret3 rfl HF (.cell1 (i := 5) HF HM rfl rfl (by kernel_rfl) rfl) (.cell1 (i := 4) HF HM rfl rfl (by kernel_rfl) rfl) (.cell1 (i := 3) HF HM rfl rfl (by kernel_rfl) rfl) (⟨by rw [show qa7 l = qq l.length l from if_neg (by omega), hk, hp, he]; rfl, HM.below⟩)
 ·
  clear HF HM; rintro _ B a w6 _ ⟨rfl, k, p, e, hk, hp, he, rfl⟩ HF HM
  refine wp_ret ?_
  refine qjk HF HM (i := 0) rfl fun a w7 HF HM => ?_
  exact ret3 rfl HF (.cell1 (i := 5) HF HM rfl rfl (by kernel_rfl) rfl) (.cell1 (i := 4) HF HM rfl rfl (by kernel_rfl) rfl) (.cell1 (i := 3) HF HM rfl rfl (by kernel_rfl) rfl) (⟨by rw [show qa7 l = qq l.length l from if_neg (by omega), hk, hp, he]; rfl, HM.below⟩)
def outsL (bs : List Bk) : List Nat := bs.flatMap Bk.out
def errL : List Bk → Nat
 | [] => 0
 | b :: t => if b.err = 0 then errL t else b.err
def zz (bs : List Bk) : List Nat × Nat := if errL bs ≠ 0 then ([], errL bs) else if 524288 < (outsL bs).length then ([], 3) else (outsL bs, 0)
theorem qou {bs : List Bk} (h : errL bs ≠ 0) : zz bs = ([], errL bs) := by unfold zz; rw [if_pos h]
theorem qmf {bs : List Bk} (h : errL bs = 0) (h2 : 524288 < (outsL bs).length) : zz bs = ([], 3) := by unfold zz; rw [if_neg (by omega), if_pos h2]
theorem qr8 {bs : List Bk} (h : errL bs = 0) (h2 : ¬ 524288 < (outsL bs).length) : zz bs = (outsL bs, 0) := by unfold zz; rw [if_neg (by omega), if_neg h2]
theorem qov (bs : List Bk) : (zz bs).1.length ≤ 524288 := by
 unfold zz
 split
 ·exact Nat.zero_le _
 ·split
  ·exact Nat.zero_le _
  ·dsimp only; omega
theorem qxy {q : List Hb} {k : Nat} (h : k < q.length) : errL ((q.drop k).map Hb.b) = if (q.getD k Hb.zero).b.err = 0 then errL ((q.drop (k + 1)).map Hb.b) else (q.getD k Hb.zero).b.err := by
 rw [qcc Hb.zero h, List.map_cons, errL]
theorem qvp {q : List Hb} {k : Nat} (h : k < q.length) : outsL ((q.take (k + 1)).map Hb.b) = outsL ((q.take k).map Hb.b) ++ (q.getD k Hb.zero).b.out := by
 unfold outsL
 rw [qd0 Hb.zero h, List.map_append, List.flatMap_append]
 simp
theorem qul (bs : List Bk) : (outsL bs).length ≤ 4096 * bs.length := by
 unfold outsL
 induction bs with
 | nil => exact Nat.zero_le _
 | cons b t ih =>
  rw [List.flatMap_cons, List.length_append, List.length_cons]
  have := qfu b
  omega
theorem qr9 {q : List Hb} (k : Nat) : (outsL ((q.take k).map Hb.b)).length ≤ 4096 * q.length := by
 have h := qul ((q.take k).map Hb.b)
 rw [List.length_map, List.length_take] at h
 have : min k q.length ≤ q.length := Nat.min_le_right _ _
 omega
theorem qk4 (a b : List Bk) : outsL (a ++ b) = outsL a ++ outsL b := by unfold outsL; rw [List.flatMap_append]
def qbb (out : List Nat) (bs : List Bk) : List Nat × Nat := if (zz bs).2 ≠ 0 then (out, (zz bs).2) else if 524288 < out.length + (zz bs).1.length then (out, 3) else (out ++ (zz bs).1, 0)
theorem qow {out : List Nat} {bs : List Bk} (h : (zz bs).2 ≠ 0) : qbb out bs = (out, (zz bs).2) := by unfold qbb; rw [if_pos h]
theorem qmg {out : List Nat} {bs : List Bk} (h : (zz bs).2 = 0) (h2 : 524288 < out.length + (zz bs).1.length) : qbb out bs = (out, 3) := by unfold qbb; rw [if_neg (by omega), if_pos h2]
theorem qsa {out : List Nat} {bs : List Bk} (h : (zz bs).2 = 0) (h2 : ¬ 524288 < out.length + (zz bs).1.length) : qbb out bs = (out ++ (zz bs).1, 0) := by unfold qbb; rw [if_neg (by omega), if_neg h2]
def endB (next : Int) : Bk := ⟨2, 0, 0, next, []⟩
theorem qwo {next : Int} (h : I64 next) : (endB next).Ok := ⟨by show 2 < 256; decide, by show 0 < 256; decide, by show I64 0; unfold I64; decide, h, by intro e he; cases he⟩
def nextR (l : List Nat) (p : Nat) : Bk × Nat × Nat := if p = l.length then (Bk.zero, 0, 6) else readB (l.drop p)
def readAll (l : List Nat) : List Bk × Nat := if (qa7 l).2.2 ≠ 0 then ([], (qa7 l).2.2) else ((qa7 l).1, 0)
theorem qk5 {l : List Nat} (h : 524288 < l.length) : readAll l = ([], 3) := by unfold readAll qa7; rw [if_pos h]; rfl
theorem qmh {l : List Nat} {e : Nat} (h : ¬ 524288 < l.length) (he : (qq l.length l).2.2 = e) (hen : e ≠ 0) : readAll l = ([], e) := by unfold readAll qa7; rw [if_neg h, if_pos (by omega), he]
theorem qox {l : List Nat} (h : ¬ 524288 < l.length) (he : (qq l.length l).2.2 = 0) : readAll l = ((qq l.length l).1, 0) := by unfold readAll qa7; rw [if_neg h, if_neg (by omega)]
section
variable {W w : World} {fs : List Fact} {t bt : TypeId}
theorem Mem.reBlk (h : Mem W w fs) {i g : Nat} {cs ds : Array Value} {t : TypeId} (hi : fs[i]? = some (.blk g cs t)) (he : cs = ds) : Mem W w (fs.set i (.blk g ds t)) := by
 subst he
 obtain ⟨hl, h2⟩ := List.getElem?_eq_some_iff.1 hi
 rw [← h2, List.set_getElem_self]
 exact h
theorem qik {w w' : World} {p : List Nat × Nat} {er : Nat} {n : Int} (hb : Below w.heap.size w w') (he : p = ([], er)) (hn : n = er) : qa5 w p.2 p.1 (.returned (.tuple #[.slice none 0 0, .int .i64 n])) w' := by
 subst he; subst hn
 exact ⟨⟨none, 0, rfl, World.ownsRow_nil _ _ _ _, Nat.le_refl _⟩, hb⟩
theorem qk6 {p : List Bk × Nat} {er : Nat} {n : Int} (h : Mem W w fs) (he : p = ([], er)) (hn : n = er) : qga t bt W p.2 p.1 (.returned (.tuple #[.slice none 0 0, .int .i64 n])) w := by
 subst he; exact qdx h hn
end
section
variable {W w w' : World} {fs gs : List Fact} {f g1 g2 : Fact}
end
def WrIs (W : World) (tw : TypeId) (g : Nat) (lim : Int) (out : List Nat) (fs : List Fact) (v : Value) (r : Ending) (w' : World) : Prop :=
 r = .returned v ∧ ∃ A c, out.length ≤ c ∧ Mem W w' (.blk g #[.int .i64 lim, .slice A out.length c] tw :: .row (.slice A out.length c) out.length (out.map B8) 5 1 :: fs)
theorem WrIs.as {W w' : World} {tw : TypeId} {g : Nat} {lim : Int} {out out' : List Nat} {fs : List Fact} {v v' : Value} {r : Ending} (h : WrIs W tw g lim out fs v r w') (h1 : out = out') (h2 : v = v') : WrIs W tw g lim out' fs v' r w' := by subst h1; subst h2; exact h
theorem qmi {out R : List Nat} {bs : List Bk} {er : Nat} (h : zz bs = (R, er)) (he : er ≠ 0) : qbb out bs = (out, er) := by have h1 := qow (out := out) (bs := bs) (by rw [h]; exact he); rw [h] at h1; exact h1
theorem qk7 {out R : List Nat} {bs : List Bk} {er : Nat} (h : zz bs = (R, er)) (he : er = 0) (h2 : 524288 < out.length + R.length) : qbb out bs = (out, 3) := qmg (by rw [h]; exact he) (by rw [h]; exact h2)
theorem qoy {out R : List Nat} {bs : List Bk} {er : Nat} (h : zz bs = (R, er)) (he : er = 0) (h2 : ¬ 524288 < out.length + R.length) : qbb out bs = (out ++ R, 0) := by have h1 := qsa (out := out) (bs := bs) (by rw [h]; exact he) (by rw [h]; exact h2); rw [h] at h1; exact h1
theorem qjl {W w' : World} {tw : TypeId} {g c : Nat} {lim n : Int} {A : Option Addr} {out : List Nat} {er : Nat} {fs : List Fact} {p : List Nat × Nat} (h : p = (out, er)) (hn : n = er) (hc : out.length ≤ c) (hm : Mem W w' (.blk g #[.int .i64 lim, .slice A out.length c] tw :: .row (.slice A out.length c) out.length (out.map B8) 5 1 :: fs)) : WrIs W tw g lim p.1 fs (.int .i64 (p.2 : Int)) (.returned (.int .i64 n)) w' := by
 subst h; subst hn
 exact ⟨rfl, A, c, hc, hm⟩
section
variable {W w w' : World} {fs gs : List Fact} {f1 f2 : Fact}
end
theorem qoz {l : List Nat} {b : Bk} {m er : Nat} (hl : ∀ x ∈ l, x < 256) (h : readB l = (b, m, er)) : m ≤ l.length := by
 by_cases he : er = 0
 ·subst he; exact (qgj hl h).len
 ·have := (qrl h he).2; omega
theorem qsb {l : List Nat} {p : Nat} {b : Bk} {m er : Nat} (hl : ∀ x ∈ l, x < 256) (hp : p ≤ l.length) (h : nextR l p = (b, m, er)) : p + m ≤ l.length := by
 unfold nextR at h
 split at h
 ·injection h with _ h; injection h with h _; omega
 ·have := qoz (qa6 hl p) h
  rw [List.length_drop] at this
  omega
def qvq (W : World) (tr : TypeId) (g p : Nat) (l : List Nat) (A : Option Addr) (c : Nat) (fs : List Fact) (q : Bk × Nat × Nat) (r : Ending) (w' : World) : Prop :=
 ∃ A' c', r = .returned (.tuple #[.agg (q.1.cells A' c'), .int .i64 (q.2.2 : Int)]) ∧ q.1.evs.length ≤ c' ∧ Mem W w' (.row (.slice A' q.1.evs.length c') q.1.evs.length (q.1.evs.flatMap evL) 45 11 :: .blk g #[.bool true, .int .i64 ((p + q.2.1 : Nat) : Int), .slice A l.length c] tr :: .row (.slice A l.length c) l.length (l.map B8) 5 1 :: fs)
theorem qk8 {W w' : World} {tr : TypeId} {g p c c' m er : Nat} {l : List Nat} {A A' : Option Addr} {fs : List Fact} {q : Bk × Nat × Nat} {b : Bk} (h : q = (b, m, er)) {n : Int} (hn : n = er) (hc : b.evs.length ≤ c') (hm : Mem W w' (.row (.slice A' b.evs.length c') b.evs.length (b.evs.flatMap evL) 45 11 :: .blk g #[.bool true, .int .i64 ((p + m : Nat) : Int), .slice A l.length c] tr :: .row (.slice A l.length c) l.length (l.map B8) 5 1 :: fs)) :
  qvq W tr g p l A c fs q (.returned (.tuple #[.agg (b.cells A' c'), .int .i64 n])) w' := by
 subst h; subst hn
 exact ⟨A', c', rfl, hc, hm⟩
theorem Rd.qw2 {w : World} {B : Nat} {l : List Nat} (h : Rd w B 1 none l.length (l.map B8)) : l = [] := by
 rcases Nat.eq_zero_or_pos l.length with h0 | h0
 ·exact List.length_eq_zero_iff.1 h0
 ·obtain ⟨a, ha, _⟩ := h.row h0
  cases ha
theorem LaidX.mem2 {B : Nat} {W w w' : World} {fs gs : List Fact} (h : LaidX B w) (HW : Mem W w fs) (HM : Mem W w' gs) (hB : B ≤ W.heap.size) : LaidX B w' := h.qad fun p hp => by
 rw [HM.below.cell (by omega), HW.below.cell (by omega)]
theorem Mem.qyj {W w : World} {a b : List Fact} {t : TypeId} {q : List Hb} (h : Mem W w (a ++ (hbF t q ++ b))) : HbRd w q := h.hbRd fun _ hf => List.mem_append_right _ (List.mem_append_left _ hf)
def pick9 : Ev := { Ev.zero with seq := 9, time := 340, cpu := 2, kind := 6 }
def exI : List It := [⟨tickE, 3⟩, ⟨pick9, 0⟩]
theorem qwx : pick9.Ok := ⟨⟨by decide, by decide⟩, ⟨by decide, by decide⟩, by decide, by decide, ⟨by decide, by decide⟩, ⟨by decide, by decide⟩, ⟨by decide, by decide⟩, ⟨by decide, by decide⟩, ⟨by decide, by decide⟩, by decide, ⟨by decide, by decide⟩⟩
theorem qvt : ∀ x ∈ exI, x.Ok := by
 intro x hx
 simp only [exI, List.mem_cons, List.not_mem_nil, or_false] at hx
 rcases hx with rfl | rfl
 ·exact ⟨qxv, by show I64 3; unfold I64; decide⟩
 ·exact ⟨qwx, by show I64 0; unfold I64; decide⟩
theorem sa1 : cutS 2 exI 2 1 = ([⟨1, 2, 3, 0, [tickE]⟩, ⟨1, 2, 2, 0, [pick9]⟩], 0) := by decide +kernel
theorem sa2 : cutS 2 exI 2 2 = ([⟨1, 2, 5, 0, [tickE, pick9]⟩], 0) := by decide +kernel
theorem sa3 : cutS 2 [] 0 1 = ([], 0) := by decide +kernel
theorem sa4 : cutS 2 [] 2 1 = ([⟨1, 2, 2, 0, []⟩], 0) := by decide +kernel
theorem sa5 : qbb [] [endB 0] = ([], 107) := by decide +kernel
theorem sa6 : qbb [] [endB 7] = (awX, 0) := by decide +kernel
theorem sa7 : qa7 (awX ++ [1]) = ([⟨2, 0, 0, 7, []⟩], 13, 100) := by decide +kernel
theorem sa8 : nextR awX 0 = (⟨2, 0, 0, 7, []⟩, 13, 0) := by decide +kernel
theorem sa9 : nextR awX 13 = (Bk.zero, 0, 6) := by decide +kernel
theorem qwy : ∀ b ∈ awX ++ [1], b < 256 := by decide
theorem map1 {q : List Hb} {b : Bk} (h : q.map Hb.b = [b]) : ∃ x, q = [x] ∧ x.b = b := by
 cases q with
 | nil => cases h
 | cons x r =>
  cases r with
  | nil => injection h with h _; exact ⟨x, rfl, h⟩
  | cons y r => injection h with _ h; cases h
theorem map2 {q : List Hb} {b d : Bk} (h : q.map Hb.b = [b, d]) : ∃ x y, q = [x, y] ∧ x.b = b ∧ y.b = d := by
 cases q with
 | nil => cases h
 | cons x r =>
  injection h with h1 h2
  obtain ⟨y, rfl, h3⟩ := map1 h2
  exact ⟨x, y, rfl, h1, h3⟩
structure Ss where
 cpu : Nat
 b : Bs
 l : List Sm
 bef : List Nat
 opn : Nat
structure Ss.Ok (x : Ss) : Prop where
 cpu : x.cpu < 256
 b : x.b.Ok
 l : ∀ y ∈ x.l, y.Ok
 bef : ∀ y ∈ x.bef, y < 4294967296
 opn : x.opn < 4294967296
def Ss.cells (x : Ss) (A : Option Addr) (c : Nat) (A2 : Option Addr) (c2 : Nat) : Array Value := #[.int .u8 (x.cpu : Int), .int .i64 x.b.seq, .int .i64 x.b.time, .slice A x.l.length c, .slice A2 x.bef.length c2, .int .u32 (x.opn : Int)]
def W32 (y : Nat) : Value := .int .u32 (y : Int)
def befAt (bef : List Nat) (i : Nat) : Nat := if bef.length = 0 then 0 else bef.getD (i % bef.length) 0
def qxz (bef : List Nat) (es : List Ev) (n : Nat) : List It := (List.range n).map fun i => ⟨es.getD i Ev.zero, (befAt bef i : Int)⟩
def Ss.es (x : Ss) : List Ev := madeL x.cpu x.b x.l
def Ss.items (x : Ss) : List It := qxz x.bef x.es x.es.length
end Go.Proofs.YtfeheccoijnbaaaDoor
namespace Go.Proofs.YtfeheccoijnbaaaDoor
open Go.RowKit Go.ChangeShapes Go.WideShapes Go.ChangeAt
def qml : List Go.IntKind := [.u8, .u8, .u32, .u32, .u32, .u32, .u32, .u32, .u32, .u32, .u64]
theorem qsg : qet Tryd.prog 124 qml = true := by kernel_rfl
theorem qo4 : Tryd.prog.underlying 27 = some (.slice 124) := by kernel_rfl
theorem qsh {cs : List Value} (hl : cs.length = qml.length) (h : ∀ (i : Nat) (k : Go.IntKind), qml[i]? = some k → ∃ z : Int, cs[i]? = some (Value.int k z) ∧ (Lit.int k z).wf = true) : ∃ x : Sm, smL x = cs ∧ x.Ok := by
 obtain ⟨z0, h0, w0⟩ := h 0 .u8 rfl
 have w0 := u8_wf w0
 obtain ⟨z1, h1, w1⟩ := h 1 .u8 rfl
 have w1 := u8_wf w1
 obtain ⟨z2, h2, w2⟩ := h 2 .u32 rfl
 have w2 := qeu w2
 obtain ⟨z3, h3, w3⟩ := h 3 .u32 rfl
 have w3 := qeu w3
 obtain ⟨z4, h4, w4⟩ := h 4 .u32 rfl
 have w4 := qeu w4
 obtain ⟨z5, h5, w5⟩ := h 5 .u32 rfl
 have w5 := qeu w5
 obtain ⟨z6, h6, w6⟩ := h 6 .u32 rfl
 have w6 := qeu w6
 obtain ⟨z7, h7, w7⟩ := h 7 .u32 rfl
 have w7 := qeu w7
 obtain ⟨z8, h8, w8⟩ := h 8 .u32 rfl
 have w8 := qeu w8
 obtain ⟨z9, h9, w9⟩ := h 9 .u32 rfl
 have w9 := qeu w9
 obtain ⟨z10, h10, w10⟩ := h 10 .u64 rfl
 have w10 := qxh w10
 refine ⟨⟨z0.toNat, z1.toNat, z2.toNat, z3.toNat, z4.toNat, z5.toNat, z6.toNat, z7.toNat, z8.toNat, z9.toNat, z10.toNat⟩, ?_, ⟨by show z0.toNat < _; omega, by show z1.toNat < _; omega, by show z2.toNat < _; omega, by show z3.toNat < _; omega, by show z4.toNat < _; omega, by show z5.toNat < _; omega, by show z6.toNat < _; omega, by show z7.toNat < _; omega, by show z8.toNat < _; omega, by show z9.toNat < _; omega, by show z10.toNat < _; omega⟩⟩
 refine qqe (by rw [hl]; rfl) fun i hi => ?_
 have hi' : i < 11 := by rw [hl] at hi; exact hi
 have hc : i = 0 ∨ i = 1 ∨ i = 2 ∨ i = 3 ∨ i = 4 ∨ i = 5 ∨ i = 6 ∨ i = 7 ∨ i = 8 ∨ i = 9 ∨ i = 10 := by omega
 rcases hc with rfl | rfl | rfl | rfl | rfl | rfl | rfl | rfl | rfl | rfl | rfl
 ·rw [h0]; show some (Value.int .u8 ((z0.toNat : Nat) : Int)) = _; rw [Int.toNat_of_nonneg w0.1]
 ·rw [h1]; show some (Value.int .u8 ((z1.toNat : Nat) : Int)) = _; rw [Int.toNat_of_nonneg w1.1]
 ·rw [h2]; show some (Value.int .u32 ((z2.toNat : Nat) : Int)) = _; rw [Int.toNat_of_nonneg w2.1]
 ·rw [h3]; show some (Value.int .u32 ((z3.toNat : Nat) : Int)) = _; rw [Int.toNat_of_nonneg w3.1]
 ·rw [h4]; show some (Value.int .u32 ((z4.toNat : Nat) : Int)) = _; rw [Int.toNat_of_nonneg w4.1]
 ·rw [h5]; show some (Value.int .u32 ((z5.toNat : Nat) : Int)) = _; rw [Int.toNat_of_nonneg w5.1]
 ·rw [h6]; show some (Value.int .u32 ((z6.toNat : Nat) : Int)) = _; rw [Int.toNat_of_nonneg w6.1]
 ·rw [h7]; show some (Value.int .u32 ((z7.toNat : Nat) : Int)) = _; rw [Int.toNat_of_nonneg w7.1]
 ·rw [h8]; show some (Value.int .u32 ((z8.toNat : Nat) : Int)) = _; rw [Int.toNat_of_nonneg w8.1]
 ·rw [h9]; show some (Value.int .u32 ((z9.toNat : Nat) : Int)) = _; rw [Int.toNat_of_nonneg w9.1]
 ·rw [h10]; show some (Value.int .u64 ((z10.toNat : Nat) : Int)) = _; rw [Int.toNat_of_nonneg w10.1]
section
variable {H : Type} {enc : TypeId × Value → H} {W : World} {b0 : Nat} {v : Value} {d : DataW H} {p : List MemPlace}
theorem qws : Tryd.prog.underlying 32 = some (.int .u16) := by kernel_rfl
set_option maxRecDepth 100000 in
theorem qwt (hval : Value.okWide Tryd.prog W .any b0 32 v) (h : DataW.Trod enc Tryd.prog W 0 (fun _ => true) true 32 v d p) : ∃ m : Nat, v = .int .u16 (m : Int) ∧ m < 65536 := by
 obtain ⟨m, rfl, _, _, wf⟩ := open_int qws hval h
 have := qxg wf
 exact ⟨m.toNat, by rw [Int.toNat_of_nonneg this.1], by omega⟩
theorem qun : Tryd.prog.cellsOf 124 = 11 := by kernel_rfl
theorem qwu {fuel : Nat} {cs : List Value} {x : DataW H × List MemPlace} (hf : DataW.trod enc Tryd.prog W 0 (fun _ => true) true fuel 124 cs = some x) : ∃ e : Sm, smL e = cs ∧ e.Ok := by
 obtain ⟨h1, h2⟩ := qgt qsg hf
 exact qsh h1 h2
theorem qup {fuel : Nat} {cs : List Value} {x : DataW H × List MemPlace} (hf : DataW.trod enc Tryd.prog W 0 (fun _ => true) true fuel 27 cs = some x) :
  ∃ (A : Option Addr) (c : Nat) (l : List Sm), cs = [.slice A l.length c] ∧ l.length ≤ c ∧ c ≤ maxLen ∧ (∀ x ∈ l, x.Ok) ∧ Rd W W.heap.size 11 A l.length (l.flatMap smL) :=
 qij smL Sm.Ok qo4 qun (by decide) qfz (fun _ _ _ h => qwu h) hf
theorem qsi : Tryd.prog.cellsOf 29 = 1 := by kernel_rfl
theorem qsj : Tryd.prog.cellsOf 27 = 1 := by kernel_rfl
theorem quq {fuel : Nat} {cs : List Value} {x : DataW H × List MemPlace} (hf : DataW.trod enc Tryd.prog W 0 (fun _ => true) true fuel 29 cs = some x) : ∃ e : Nat, [W32 e] = cs ∧ e < 4294967296 := by
 obtain ⟨z, e1, _, w1⟩ := DataW.trod_int qq7 hf
 have := qeu w1
 exact ⟨z.toNat, by rw [e1]; show [Value.int .u32 ((z.toNat : Nat) : Int)] = _; rw [Int.toNat_of_nonneg this.1], by omega⟩
theorem qwv {cs : List Value} {a b c d e f : Value} (hl : cs.length = 6) (h0 : cs[0]? = some a) (h1 : cs[1]? = some b) (h2 : cs[2]? = some c) (h3 : cs[3]? = some d) (h4 : cs[4]? = some e) (h5 : cs[5]? = some f) : cs = [a, b, c, d, e, f] := by
 refine qqe hl fun i hi => ?_
 have hi' : i < 6 := hi
 have hc : i = 0 ∨ i = 1 ∨ i = 2 ∨ i = 3 ∨ i = 4 ∨ i = 5 := by omega
 rcases hc with rfl | rfl | rfl | rfl | rfl | rfl <;> assumption
structure SsIn (W : World) (x : Ss) (A : Option Addr) (c : Nat) (A2 : Option Addr) (c2 : Nat) : Prop where
 ok : x.Ok
 hc : x.l.length ≤ c
 hm : c ≤ maxLen
 hc2 : x.bef.length ≤ c2
 hm2 : c2 ≤ maxLen
 rd : Rd W W.heap.size 11 A x.l.length (x.l.flatMap smL)
 rd2 : Rd W W.heap.size 1 A2 x.bef.length (x.bef.map W32)
end
end Go.Proofs.YtfeheccoijnbaaaDoor
namespace Go.Proofs.YtfeheccoijnbaaaDoor
open Go.RowKit
theorem qf0 {b : Bk} (h : b.err = 0) : 13 ≤ b.out.length := by rw [qdz h]; have := qne b; omega
theorem qio : ∀ (bs : List Bk) (rest : List Nat) (f : Nat), (∀ b ∈ bs, b.Ok ∧ b.err = 0) → (outsL bs ++ rest).length ≤ f →
  rest.length ≤ f - bs.length ∧ qq f (outsL bs ++ rest) = (bs ++ (qq (f - bs.length) rest).1, (outsL bs).length + (qq (f - bs.length) rest).2.1, (qq (f - bs.length) rest).2.2)
 | [], rest, f, _, hf => by
  refine ⟨hf, ?_⟩
  show qq f rest = _
  simp [outsL]
 | b :: t, rest, f, h, hf => by
  obtain ⟨hb, he⟩ := h b List.mem_cons_self
  have hp := qf0 he
  have e : outsL (b :: t) ++ rest = b.out ++ (outsL t ++ rest) := by unfold outsL; rw [List.flatMap_cons, List.append_assoc]
  rw [e] at hf ⊢
  rw [List.length_append] at hf
  obtain ⟨i1, i2⟩ := qio t rest (f - 1) (fun x hx => h x (List.mem_cons_of_mem _ hx)) (by omega)
  refine ⟨by rw [List.length_cons]; omega, ?_⟩
  rw [qdl (by omega) (by rw [List.length_append]; omega) (qng hb he _), List.drop_left, i2]
  have e2 : f - 1 - t.length = f - (t.length + 1) := by omega
  have e3 : outsL (b :: t) = b.out ++ outsL t := by unfold outsL; rw [List.flatMap_cons]
  rw [List.length_cons, e2, e3, List.length_append, Nat.add_assoc]
  rfl
theorem qo5 {bs : List Bk} {X : List Nat} {b : Bk} {m er : Nat} (h : ∀ b ∈ bs, b.Ok ∧ b.err = 0) (hX : 0 < X.length) (hq : readB X = (b, m, er)) (he : er ≠ 0) (hl : (outsL bs ++ X).length ≤ 524288) : qa7 (outsL bs ++ X) = (bs, (outsL bs).length, er) := by
 obtain ⟨h0, h1⟩ := qio bs X (outsL bs ++ X).length h (Nat.le_refl _)
 rw [qek (by omega) hX hq he, List.append_nil] at h1
 unfold qa7
 rw [if_neg (by omega), h1]
 rfl
theorem qo6 {l : List Nat} {bs : List Bk} {p er : Nat} (h : qa7 l = (bs, p, er)) (he : er ≠ 0) : readAll l = ([], er) := by unfold readAll; rw [h, if_pos he]
theorem qur {bs : List Bk} {k : Nat} (h : k < bs.length) : outsL bs = outsL (bs.take k) ++ ((bs.getD k Bk.zero).out ++ outsL (bs.drop (k + 1))) := by
 have e : bs = bs.take k ++ (bs.getD k Bk.zero :: bs.drop (k + 1)) := by rw [← qcc Bk.zero h, List.take_append_drop]
 have h1 : outsL bs = outsL (bs.take k ++ (bs.getD k Bk.zero :: bs.drop (k + 1))) := by rw [← e]
 rw [h1, qk4]
 rfl
theorem qus {bs : List Bk} {X : List Nat} {k : Nat} (h : ∀ b ∈ bs, b.Ok ∧ b.err = 0) (hk : k < bs.length) : nextR (outsL bs ++ X) (outsL (bs.take k)).length = (bs.getD k Bk.zero, (bs.getD k Bk.zero).out.length, 0) := by
 obtain ⟨hb, he⟩ := h _ (zt Bk.zero hk)
 have e := qur hk
 have hp := qf0 he
 unfold nextR
 rw [if_neg (by rw [e]; simp only [List.length_append]; omega), e, List.append_assoc, List.drop_left, List.append_assoc]
 exact qng hb he _
theorem qd8 {bs : List Bk} {k : Nat} (h : k < bs.length) : outsL (bs.take (k + 1)) = outsL (bs.take k) ++ (bs.getD k Bk.zero).out := by
 unfold outsL
 rw [qd0 Bk.zero h, List.flatMap_append]
 simp
theorem qjo {b : Bk} (h : b.err = 0) (hl : ∀ x ∈ b.out, x < 256) {p : Nat} (hp : p < 8 * b.out.length) : zk (flipL b.out p) = false := by
 refine qmr hl (qnu hl p) (qcp _ _) (qph h) ?_
 rw [qsv hl (by omega), ← Nat.xor_assoc, Nat.xor_self, Nat.zero_xor]
 have e : 8 * b.out.length = p + (8 * b.out.length - p) := by omega
 have h2 := qlj p (8 * b.out.length - p) 1
 rw [Nat.mul_one, ← e] at h2
 rw [h2]
 exact qlk _ (by decide) (by decide)
theorem qsw {b : Bk} (h : b.err = 0) {p : Nat} (h32 : 32 ≤ p) (t : List Nat) : lenR (flipL b.out p ++ t) = (b.out.length, 0) := by
 have h13 := qf0 h
 have h4 := qfu b
 have hfl := qcp b.out p
 have e : num4 (flipL b.out p ++ t) = b.out.length := by
  rw [← qnf h t]
  refine qll fun j hj => ?_
  rw [List.getD_eq_getElem?_getD, List.getD_eq_getElem?_getD, List.getElem?_append_left (by omega), List.getElem?_append_left (by omega), ← List.getD_eq_getElem?_getD, ← List.getD_eq_getElem?_getD]
  exact qpg (by omega)
 unfold lenR
 rw [if_neg (by rw [List.length_append]; omega), e, if_neg (by omega), if_neg (by rw [List.length_append]; omega)]
theorem qsx {b : Bk} (h : b.err = 0) (hl : ∀ x ∈ b.out, x < 256) {p : Nat} (h32 : 32 ≤ p) (hp : p < 8 * b.out.length) (t : List Nat) : readB (flipL b.out p ++ t) = (Bk.zero, 0, 102) := by
 unfold readB
 rw [qsw h h32 t, if_neg (fun h => h rfl)]
 have e : (flipL b.out p ++ t).take b.out.length = flipL b.out p := by rw [← qcp b.out p, List.take_left]
 have hb : blkOf (flipL b.out p) = (none, 102) := by unfold blkOf; rw [if_pos (qjo h hl hp)]
 dsimp only
 rw [e, hb]
def mixL (bs : List Bk) (k p i : Nat) : List Nat := (List.range i).flatMap fun j => if j = k then flipL (bs.getD j Bk.zero).out p else (bs.getD j Bk.zero).out
theorem qdm (bs : List Bk) (k p i : Nat) : mixL bs k p (i + 1) = mixL bs k p i ++ (if i = k then flipL (bs.getD i Bk.zero).out p else (bs.getD i Bk.zero).out) := by
 unfold mixL
 rw [List.range_succ, List.flatMap_append]
 simp
theorem qjp {bs : List Bk} {k p : Nat} : ∀ {i : Nat}, i ≤ k → i ≤ bs.length → mixL bs k p i = outsL (bs.take i)
 | 0, _, _ => rfl
 | i + 1, h, hl => by rw [qdm, qjp (by omega) (by omega), if_neg (by omega), ← qd8 (by omega)]
theorem qlm {bs : List Bk} {k p : Nat} (hk : k < bs.length) : ∀ {i : Nat}, k < i → i ≤ bs.length → ∃ t, mixL bs k p i = outsL (bs.take k) ++ (flipL (bs.getD k Bk.zero).out p ++ t)
 | 0, h, _ => by omega
 | i + 1, h, hl => by
  rw [qdm]
  by_cases he : i = k
  ·subst he
   rw [if_pos rfl, qjp (Nat.le_refl _) (by omega)]
   exact ⟨[], by rw [List.append_nil]⟩
  ·obtain ⟨t, ht⟩ := qlm hk (i := i) (p := p) (by omega) (by omega)
   rw [if_neg he, ht]
   exact ⟨t ++ (bs.getD i Bk.zero).out, by rw [List.append_assoc, List.append_assoc]⟩
theorem qgl {bs : List Bk} {k p : Nat} : ∀ i, (mixL bs k p i).length ≤ 4096 * i
 | 0 => Nat.zero_le _
 | i + 1 => by
  have h1 := qgl (bs := bs) (k := k) (p := p) i
  have h2 := qfu (bs.getD i Bk.zero)
  rw [qdm, List.length_append]
  split
  ·rw [qcp]; omega
  ·omega
theorem qnw {bs : List Bk} {k p : Nat} (h : ∀ b ∈ bs, b.Ok) : ∀ i, i ≤ bs.length → ∀ x ∈ mixL bs k p i, x < 256
 | 0, _, x, hx => by cases hx
 | i + 1, hi, x, hx => by
  rw [qdm] at hx
  have ho := qrd (h _ (zt Bk.zero (by omega : i < bs.length)))
  rcases List.mem_append.1 hx with hx | hx
  ·exact qnw h i (by omega) x hx
  ·split at hx
   ·exact qnu ho p x hx
   ·exact ho x hx
theorem qsy {bs : List Bk} {k p : Nat} (h : ∀ b ∈ bs, b.Ok ∧ b.err = 0) (hk : k < bs.length) (h6 : bs.length ≤ 6) (h32 : 32 ≤ p) (hp : p < 8 * (bs.getD k Bk.zero).out.length) :
  qa7 (mixL bs k p bs.length) = (bs.take k, (outsL (bs.take k)).length, 102) ∧ (∀ j, j < k → nextR (mixL bs k p bs.length) (outsL (bs.take j)).length = (bs.getD j Bk.zero, (bs.getD j Bk.zero).out.length, 0)) ∧ nextR (mixL bs k p bs.length) (outsL (bs.take k)).length = (Bk.zero, 0, 102) ∧ (outsL (bs.take k)).length ≤ (mixL bs k p bs.length).length := by
 obtain ⟨t, ht⟩ := qlm (p := p) hk hk (Nat.le_refl _)
 obtain ⟨hb, he⟩ := h _ (zt Bk.zero hk)
 have hlen := qgl (bs := bs) (k := k) (p := p) bs.length
 have hq := qsx he (qrd hb) h32 hp t
 have h0 : 0 < (flipL (bs.getD k Bk.zero).out p ++ t).length := by rw [List.length_append, qcp]; have := qf0 he; omega
 have htk : ∀ b ∈ bs.take k, b.Ok ∧ b.err = 0 := fun b hb => h b (List.mem_of_mem_take hb)
 rw [ht] at hlen ⊢
 refine ⟨qo5 htk h0 hq (by decide) (by omega), fun j hj => ?_, ?_, by rw [List.length_append]; omega⟩
 ·have h1 := qus (X := flipL (bs.getD k Bk.zero).out p ++ t) (k := j) htk (by rw [List.length_take]; omega)
  rw [List.take_take, Nat.min_eq_left (by omega)] at h1
  have e : (bs.take k).getD j Bk.zero = bs.getD j Bk.zero := by rw [List.getD_eq_getElem?_getD, List.getElem?_take, if_pos hj, ← List.getD_eq_getElem?_getD]
  rwa [e] at h1
 ·unfold nextR
  rw [if_neg (by rw [List.length_append]; omega), List.drop_left, hq]
section
variable {W w : World} {a b c : List Fact} {t : TypeId} {q : List Hb}
end
instance itDec : DecidableEq It := fun ⟨a, b⟩ ⟨c, d⟩ => decidable_of_iff (a = c ∧ b = d) (by rw [It.mk.injEq])
structure Sbm where
 x : Sb
 A : Option Addr
 c : Nat
def Sbm.zero : Sbm := ⟨⟨false, 0, 0, ⟨0, 0⟩, []⟩, none, 0⟩
def sbmL (h : Sbm) : List Value := (h.x.cells h.A h.c).toList
theorem qnn (h : Sbm) : (sbmL h).length = 6 := rfl
structure SbmIn (W : World) (h : Sbm) : Prop where
 ok : h.x.Ok
 hc : h.x.l.length ≤ h.c
 hm : h.x.l.length ≤ 9223372036854775807
 rd : Rd W W.heap.size 11 h.A h.x.l.length (h.x.l.flatMap smL)
theorem qx4 : EI Tryd.prog 60 62 (.agg (Sbm.zero.x.cells none 0)) 6 48 := ⟨by kernel_rfl, by kernel_rfl, rfl, by omega⟩
def qco (l : List Sbm) : List Bk := l.map fun h => h.x.made
theorem qo7 {l : List Sbm} {k : Nat} (h : k < l.length) : qco (l.take (k + 1)) = qco (l.take k) ++ [(l.getD k Sbm.zero).x.made] := by
 unfold qco
 rw [qd0 Sbm.zero h, List.map_append]
 rfl
theorem qo8 {W : World} {l : List Sbm} (h : ∀ x ∈ l, SbmIn W x) : ∀ b ∈ qco l, b.Ok ∧ b.err = 0 := fun b hb => by
 unfold qco at hb
 obtain ⟨x, hx, rfl⟩ := List.mem_map.1 hb
 have := qlc (h x hx).ok
 exact ⟨this.1, this.2.1⟩
theorem qsk {W : World} {l : List Sbm} (h : ∀ x ∈ l, SbmIn W x) : ∀ b ∈ qco l, b.evs.length ≤ 1000000 := fun b hb => by
 unfold qco at hb
 obtain ⟨x, hx, rfl⟩ := List.mem_map.1 hb
 have := (qlc (h x hx).ok).2.2
 omega
theorem qsl (l : List Sbm) : (qco l).length = l.length := by unfold qco; rw [List.length_map]
theorem hb_at {q : List Hb} {bs : List Bk} (hq : q.map Hb.b = bs) {k : Nat} (hk : k < bs.length) : (q.getD k Hb.zero).b = bs.getD k Bk.zero := by
 subst hq
 rw [List.length_map] at hk
 rw [List.getD_eq_getElem?_getD, List.getElem?_eq_getElem hk, List.getD_eq_getElem?_getD, List.getElem?_map, List.getElem?_eq_getElem hk]
 rfl
theorem qno {W : World} {l : List Sbm} (h : ∀ x ∈ l, SbmIn W x) (k : Nat) : ∀ x ∈ l.take k, SbmIn W x := fun x hx => h x (List.mem_of_mem_take hx)
end Go.Proofs.YtfeheccoijnbaaaDoor
namespace Go.Proofs.YtfeheccoijnbaaaDoor
open Go.RowKit Go.ChangeShapes Go.WideShapes Go.ChangeAt
section
variable {H : Type} {enc : TypeId × Value → H} {W : World} {b0 : Nat} {v : Value} {d : DataW H} {p : List MemPlace}
theorem quu : Tryd.prog.underlying 4 = some .bool := by kernel_rfl
theorem qo9 : Tryd.prog.cellsOf 4 = 1 := by kernel_rfl
theorem sb_f0 : fieldAt Tryd.prog 62 0 0 4 = true := by kernel_rfl
theorem sb_f1 : fieldAt Tryd.prog 62 1 1 5 = true := by kernel_rfl
theorem sb_f2 : fieldAt Tryd.prog 62 2 2 29 = true := by kernel_rfl
theorem sb_f3 : fieldAt Tryd.prog 62 3 3 26 = true := by kernel_rfl
theorem sb_f4 : fieldAt Tryd.prog 62 4 5 27 = true := by kernel_rfl
theorem qnp : Tryd.prog.cellsOf 62 = 6 := by kernel_rfl
theorem qsm : Tryd.prog.underlying 60 = some (.slice 62) := by kernel_rfl
set_option maxRecDepth 100000 in
theorem quv {fuel : Nat} {cs : List Value} {y : DataW H × List MemPlace} (hf : DataW.trod enc Tryd.prog W 0 (fun _ => true) true fuel 62 cs = some y) : ∃ x : Sbm, sbmL x = cs ∧ SbmIn W x := by
 obtain ⟨hl, _, y0, g0⟩ := qbl sb_f0 hf
 obtain ⟨_, _, y1, g1⟩ := qbl sb_f1 hf
 obtain ⟨_, _, y2, g2⟩ := qbl sb_f2 hf
 obtain ⟨_, _, y3, g3⟩ := qbl sb_f3 hf
 obtain ⟨_, _, y4, g4⟩ := qbl sb_f4 hf
 rw [qnp] at hl
 obtain ⟨e, e0, _⟩ := DataW.trod_bool quu g0
 obtain ⟨cpu, e1, _, w1⟩ := DataW.trod_int qqd g1
 obtain ⟨lo, e2, w2⟩ := quq g2
 obtain ⟨_, h0⟩ := qgt qqf g3
 obtain ⟨s, hs0, ws⟩ := h0 0 .i64 rfl
 obtain ⟨t, ht0, wt⟩ := h0 1 .i64 rfl
 obtain ⟨A, c, l, e4, k1, k2, k3, k4⟩ := qup g4
 rw [qo9] at e0
 rw [qth] at e1
 rw [qsi] at e2
 rw [qsj] at e4
 have a0 := qct e0
 have a1 := qct e1
 have a2 := qct e2.symm
 have a4 := qct e4
 rw [qn7, List.getElem?_take, List.getElem?_drop] at hs0 ht0
 simp only [Nat.reduceLT, if_true] at hs0 ht0
 have u1 := u8_wf w1
 refine ⟨⟨⟨e, cpu.toNat, lo, ⟨s, t⟩, l⟩, A, c⟩, ?_, ⟨⟨by show cpu.toNat < 256; omega, w2, ⟨qu8 ws, qu8 wt⟩, k3⟩, k1, by unfold maxLen at k2; show l.length ≤ _; omega, k4⟩⟩
 refine ((qwv hl a0 a1 a2 hs0 ht0 a4).trans ?_).symm
 show _ = [Value.bool e, .int .u8 ((cpu.toNat : Nat) : Int), .int .u32 (lo : Int), .int .i64 s, .int .i64 t, .slice A l.length c]
 rw [Int.toNat_of_nonneg u1.1]
 rfl
set_option maxRecDepth 100000 in
theorem quw (hval : Value.okWide Tryd.prog W .any b0 60 v) (h : DataW.Trod enc Tryd.prog W 0 (fun _ => true) true 60 v d p) :
  ∃ (A : Option Addr) (c : Nat) (l : List Sbm), v = .slice A l.length c ∧ l.length ≤ c ∧ c ≤ maxLen ∧ (∀ x ∈ l, SbmIn W x) ∧ Rd W W.heap.size 6 A l.length (l.flatMap sbmL) := by
 obtain ⟨a0, len, cap, rfl⟩ := okWide_slice qsm hval
 obtain ⟨fuel, hf⟩ := h
 obtain ⟨A, c, l, hcs, h1⟩ := qij sbmL (SbmIn W) qsm qnp (by decide) qnn (fun _ _ _ h => quv h) hf
 simp only [Value.cells, List.cons.injEq, and_true, Value.slice.injEq] at hcs
 obtain ⟨rfl, rfl, rfl⟩ := hcs
 exact ⟨_, _, l, rfl, h1⟩
end
end Go.Proofs.YtfeheccoijnbaaaDoor
namespace Go.Proofs.YtfeheccoijnbaaaDoor
open Go.RowKit
theorem qmm (A : Option Addr) (c : Nat) (l : List Nat) (BB : Nat) (w : World) (hL : LaidX BB w) (hB : BB ≤ w.heap.size) (hr : Rd w w.heap.size 1 A l.length (l.map B8)) (hc : l.length ≤ c) (hl : ∀ b ∈ l, b < 256) (hn : l.length ≤ 100000000) :
    Calls Tryd.prog 21 #[.slice A l.length c] w (qga 45 41 w (readAll l).2 (readAll l).1) := by
 refine qe8 (vs := [.slice A l.length c]) Tryd.func21 rfl rfl (by kernel_rfl) (σ0 := [(0, .slice A l.length c)]) rfl ?_
 intro a HF
 have HM := Mem.start w
 refine wp_seq (qa ?_)
 refine fo HF 0 rfl rfl ?_
 refine qr HF HM (cs := #[.slice none 0 0]) rfl (by kernel_rfl) rfl (by decide) ?_
 clear HF HM; intro a w2 g2 HF HM
 refine fo HF 1 rfl rfl ?_
 refine qr HF HM (cs := #[vI 0]) rfl (by kernel_rfl) rfl (by decide) ?_
 clear HF HM; intro a w3 g3 HF HM
 refine qb rfl (wp_seq (wp_seq (qa ?_)))
 refine fp HF 1 0 [(7, .slice A l.length c)] fun a HF => ?_
 refine fy HF HM 1 rfl rfl rfl (Yl.len rfl rfl (by kernel_rfl)) fun a HF => ?_
 refine fp HF 1 2 [(9, .bool (decide ((l.length : Int) > (524288 : Int))))] fun a HF => ?_
 refine qb rfl ?_
 rcases HF.tf 9 rfl with ⟨hb9, HF⟩ | ⟨hb9, HF⟩
 ·
  have hd9 := of_decide_eq_true hb9
  refine qf HF rfl (wp_seq (qa ?_))
  refine fo HF 0 rfl rfl ?_
  refine qp HF HM (i := 1) rfl rfl rfl rfl (by kernel_rfl) rfl rfl (by simp) ?_
  clear HM; intro w2_0 HM
  refine fo HF 1 rfl rfl ?_
  refine qp HF HM (i := 0) rfl rfl rfl rfl (by kernel_rfl) rfl rfl (by simp) ?_
  clear HM; intro w2_1 HM
  refine qb rfl (wp_ret ?_)
  refine qvo ?_
  exact ret2 rfl HF (.cell1 (i := 1) HF HM rfl rfl (by kernel_rfl) rfl) (.cell1 (i := 0) HF HM rfl rfl (by kernel_rfl) rfl) (qk6 HM (qk5 (by omega)) rfl)
 have hd9 := of_decide_eq_false hb9
 refine qe HF rfl (wp_skip (wp_seq (qa ?_)))
 refine fo HF 0 rfl rfl ?_
 refine qr HF HM (cs := #[.slice none 0 0]) rfl (by kernel_rfl) rfl (by decide) ?_
 clear HF HM; intro a w4 g4 HF HM
 refine qb rfl (wp_seq (wp_seq (qa ?_)))
 refine fp HF 1 0 [(10, .slice A l.length c)] fun a HF => ?_
 refine fo HF 1 rfl rfl ?_
 refine e_cl HF [.slice A l.length c] rfl rfl (qld A l.length c _) ?_
 rintro _ w11 ⟨gp, rfl, hm⟩
 refine ⟨_, rfl, ?_⟩
 replace HM := HM.join hm
 clear HF; intro a HF
 refine qb rfl ?_
 replace HM := HM.nil 41 5
 replace HM : Mem w _ (.row (.slice none 0 0) 0 [] 41 5 :: .blk gp #[.slice A l.length c] 54 :: .blk g4 #[.slice none 0 0] 35 :: .blk g3 #[vI 0] 36 :: .blk g2 #[.slice none 0 0] 35 :: hbF 45 []) := HM
 refine wp_block ?_
 refine qvn HF HM (fun F => ∃ (q : List Hb) (f : Nat) (Ao : Option Addr) (co : Nat), (([] : List Nat).length ≤ f) ∧ (q.map Hb.b ++ (qq f ([] : List Nat)).1 = (qq l.length l).1) ∧ ((qq l.length l).2.2 = (qq f ([] : List Nat)).2.2) ∧ (q.length ≤ co) ∧ (q.length + ([] : List Nat).length ≤ l.length) ∧ F = (.row (.slice Ao q.length co) q.length (q.flatMap hbL) 41 5 :: .blk g4 #[.slice Ao q.length co] 35 :: .blk g3 #[vI 0] 36 :: .blk g2 #[.slice none 0 0] 35 :: hbF 45 q)) (fun c F => c = .ret ∧ ∃ (q : List Hb) (e : Nat), (e ≠ 0) ∧ ((qq l.length l).2.2 = e) ∧ F = (.blk g3 #[vI e] 36 :: .blk g2 #[.slice none 0 0] 35 :: hbF 45 q)) rfl (by kernel_rfl) ?_ ?_ ?_
 ·
  clear HF HM; intro lp B rec w1 hrec HM
  have hy : qfy w lp (fun rest F => ∃ (q : List Hb) (f : Nat) (Ao : Option Addr) (co : Nat), (rest.length ≤ f) ∧ (q.map Hb.b ++ (qq f rest).1 = (qq l.length l).1) ∧ ((qq l.length l).2.2 = (qq f rest).2.2) ∧ (q.length ≤ co) ∧ (q.length + rest.length ≤ l.length) ∧ F = (.obj lp (.loop (rec .ready none)) :: .obj B (.deferred (some [])) :: (.row (.slice Ao q.length co) q.length (q.flatMap hbL) 41 5 :: .blk g4 #[.slice Ao q.length co] 35 :: .blk g3 #[vI 0] 36 :: .blk g2 #[.slice none 0 0] 35 :: hbF 45 q))) (fun F => ∃ (q : List Hb) (e : Nat), (e ≠ 0) ∧ ((qq l.length l).2.2 = e) ∧ F = (.obj lp (.loop (rec .done (some .ret))) :: .obj B (.deferred (some [])) :: (.blk g3 #[vI e] 36 :: .blk g2 #[.slice none 0 0] 35 :: hbF 45 q))) := by
   rintro rest F fr w3 A9 c9 b m er ⟨q, f, Ao, co, hf, hk, he, hco, hql, rfl⟩ hq hne hrl hcb HM
   replace HM := HM.picksT (fs' := (.obj lp (.loop (rec .ready none)) :: .row (.slice A9 b.evs.length c9) b.evs.length (b.evs.flatMap evL) 45 11 :: .obj B (.deferred (some [])) :: .row (.slice Ao q.length co) q.length (q.flatMap hbL) 41 5 :: .blk g4 #[.slice Ao q.length co] 35 :: .blk g3 #[vI 0] 36 :: .blk g2 #[.slice none 0 0] 35 :: (hbF 45 q ++ (fr)))) 7 [1, 0, 2, 3, 4, 5, 6] (by decide) (by decide) rfl
   refine qgd (v1 := .agg #[.int .u8 (b.kind : Int), .int .u8 (b.cpu : Int), .int .i64 b.lost, .int .i64 b.next, .slice A9 b.evs.length c9, .int .i64 (m : Int)]) (v2 := vI er) hrec HM (by decide) (by decide) fun a HF => ?_
   refine wpIn_seq ?_
   refine zl ?_
   refine fo HF 0 rfl rfl ?_
   refine qr HF HM (cs := #[vB 0, vB 0, vI 0, vI 0, .slice none 0 0, vI 0]) rfl (by kernel_rfl) rfl (by decide) ?_
   clear HF HM; intro a w5 g5 HF HM
   refine fo HF 1 rfl rfl ?_
   refine e_sa HF HM 0 rfl rfl rfl rfl rfl qsn rfl rfl (by simp [Value.oneCell']) ?_
   clear HM; intro w5_1 HM
   refine qb rfl ?_
   refine zl ?_
   refine fp HF 1 0 [(6, vI er)] fun a HF => ?_
   refine qb rfl ?_
   refine ⟨(.blk g5 #[.int .u8 (b.kind : Int), .int .u8 (b.cpu : Int), .int .i64 b.lost, .int .i64 b.next, .slice A9 b.evs.length c9, .int .i64 (m : Int)] 102 :: .row (.slice A9 b.evs.length c9) b.evs.length (b.evs.flatMap evL) 45 11 :: .obj B (.deferred (some [])) :: .row (.slice Ao q.length co) q.length (q.flatMap hbL) 41 5 :: .blk g4 #[.slice Ao q.length co] 35 :: .blk g3 #[vI 0] 36 :: .blk g2 #[.slice none 0 0] 35 :: (hbF 45 q ++ (fr))), HM.picksT (fs' := (.obj lp (.loop (rec .ready none)) :: .blk g5 #[.int .u8 (b.kind : Int), .int .u8 (b.cpu : Int), .int .i64 b.lost, .int .i64 b.next, .slice A9 b.evs.length c9, .int .i64 (m : Int)] 102 :: .row (.slice A9 b.evs.length c9) b.evs.length (b.evs.flatMap evL) 45 11 :: .obj B (.deferred (some [])) :: .row (.slice Ao q.length co) q.length (q.flatMap hbL) 41 5 :: .blk g4 #[.slice Ao q.length co] 35 :: .blk g3 #[vI 0] 36 :: .blk g2 #[.slice none 0 0] 35 :: (hbF 45 q ++ (fr)))) 8 [1, 0, 2, 3, 4, 5, 6, 7] (by decide) (by decide) rfl, fun w4 HM => ?_⟩
   refine wpIn_block ?_
   refine wpIn_seq ?_
   refine wpIn_seq ?_
   refine zl ?_
   refine fp HF 2 0 [(15, .bool ((er : Int) != (0 : Int)))] fun a HF => ?_
   refine qb rfl ?_
   rcases HF.tf 15 rfl with ⟨hb15, HF⟩ | ⟨hb15, HF⟩
   ·
    have hd15 := bne_iff_ne.1 hb15
    have hg := qek (f := f) (by omega) hne hq (by omega)
    rw [hg] at he
    refine qhg HF rfl ?_
    refine wpIn_seq ?_
    refine zl ?_
    refine fp HF 1 0 [(16, vI er)] fun a HF => ?_
    refine fo HF 1 rfl rfl ?_
    refine qp HF HM (i := 7) rfl rfl rfl rfl (by kernel_rfl) rfl rfl (by simp) ?_
    clear HM; intro w8_1 HM
    refine fo HF 2 rfl rfl ?_
    refine qp HF HM (i := 6) rfl rfl rfl rfl (by kernel_rfl) rfl rfl (by simp) ?_
    clear HM; intro w8_2 HM
    refine qb rfl ?_
    refine wpIn_ret ?_
    refine ⟨(.obj B (.deferred (some [])) :: .blk g3 #[vI er] 36 :: .blk g2 #[.slice none 0 0] 35 :: (hbF 45 q ++ (fr))), HM.picksT (fs' := (.obj lp (.loop (rec .busy none)) :: .obj B (.deferred (some [])) :: .blk g3 #[vI er] 36 :: .blk g2 #[.slice none 0 0] 35 :: (hbF 45 q ++ (fr)))) 8 [0, 3, 6, 7] (by decide) (by decide) rfl, fun w5 HM => ?_⟩
    exact ⟨(.obj lp (.loop (rec .done (some .ret))) :: .obj B (.deferred (some [])) :: .blk g3 #[vI er] 36 :: .blk g2 #[.slice none 0 0] 35 :: hbF 45 q), HM, .inr ⟨(by omega), rfl, q, er, by omega, he, rfl⟩⟩
   have hd15 := bne_eq_false_iff_eq.1 hb15
   have he0 : er = 0 := by omega
   have hq0 := hq
   rw [he0] at hq0
   have hg := qdl (f := f) (by omega) hne hq0
   have hof := qgj hrl hq0
   have hm13 := hof.least
   have hml := hof.len
   rw [hg] at hk he
   dsimp only at hk he
   refine qgc HF rfl ?_
   refine wpIn_skip ?_
   refine zl ?_
   refine fy HF HM 0 rfl rfl rfl (Yl.qh rfl rfl (by kernel_rfl) (fun _ h => h.cell (i := 5) rfl rfl)) fun a HF => ?_
   refine fp HF 1 1 [(18, vP g5 0)] fun a HF => ?_
   refine fy HF HM 2 rfl rfl rfl (v := .agg #[vB b.kind, vB b.cpu, vI b.lost, vI b.next, .slice A9 b.evs.length c9]) (Yl.zh rfl rfl si_bk rfl (fun _ h => h.sub (i := 1) rfl 0 rfl)) fun a HF => ?_
   refine fo HF 3 rfl rfl ?_
   refine qap HF HM (vs := [(0, .agg #[vB b.kind, vB b.cpu, vI b.lost, vI b.next, .slice A9 b.evs.length c9])]) (cs := #[vB b.kind, vB b.cpu, vI b.lost, vI b.next, .slice A9 b.evs.length c9]) rfl qd7 (by decide) rfl (by kernel_rfl) rfl (by decide) ?_
   clear HF HM; intro a w20 g20 HF HM
   refine fo HF 4 rfl rfl ?_
   refine zq HF HM (i := 5) rfl qd7 rfl rfl rfl (news := (hbL (⟨b, A9, c9⟩ : Hb))) (HM.rdBlk (i := 0) (n := 1) (size := 5) rfl rfl) (qba _ _ _) (by omega) (by omega) rfl (by decide) ?_
   clear HF HM; intro a w21 A21 c21 HF HM hc21
   refine fo HF 5 rfl rfl ?_
   refine qp HF HM (i := 6) rfl rfl rfl rfl (by kernel_rfl) rfl rfl (by simp) ?_
   clear HM; intro w9_5 HM
   refine qb rfl ?_
   have hnA21 : q.length + 1 = (q ++ [(⟨b, A9, c9⟩ : Hb)]).length := by rw [List.length_append]; rfl
   replace HM := HM.reRow (i := 5) (ys := (q ++ [(⟨b, A9, c9⟩ : Hb)]).flatMap hbL) rfl hnA21 (by rw [List.flatMap_append, List.flatMap_cons, List.flatMap_nil, List.append_nil])
   rw [hnA21] at hc21
   replace HF := HF.as (t := 21) (u := .slice A21 ((q ++ [(⟨b, A9, c9⟩ : Hb)]).length) c21) rfl (by rw [hnA21])
   replace HM := HM.reBlk (i := 6) (ds := #[.slice A21 (q ++ [(⟨b, A9, c9⟩ : Hb)]).length c21]) rfl (by rw [hnA21]; rfl)
   replace HM := Mem.toHb (a := [.blk g20 #[vB b.kind, vB b.cpu, vI b.lost, vI b.next, .slice A9 b.evs.length c9] 41, .obj lp (.loop (rec .busy none)), .blk g5 #[.int .u8 (b.kind : Int), .int .u8 (b.cpu : Int), .int .i64 b.lost, .int .i64 b.next, .slice A9 b.evs.length c9, .int .i64 (m : Int)] 102, .obj B (.deferred (some [])), .row (.slice A21 ((q ++ [(⟨b, A9, c9⟩ : Hb)]).length) c21) ((q ++ [(⟨b, A9, c9⟩ : Hb)]).length) ((q ++ [(⟨b, A9, c9⟩ : Hb)]).flatMap hbL) 41 5, .blk g4 #[.slice A21 ((q ++ [(⟨b, A9, c9⟩ : Hb)]).length) c21] 35, .blk g3 #[vI 0] 36, .blk g2 #[.slice none 0 0] 35]) (q := q) (b := fr) (HM.picksT (fs' := (.row (.slice A9 b.evs.length c9) b.evs.length (b.evs.flatMap evL) 45 11 :: .blk g20 #[vB b.kind, vB b.cpu, vI b.lost, vI b.next, .slice A9 b.evs.length c9] 41 :: .obj lp (.loop (rec .busy none)) :: .blk g5 #[.int .u8 (b.kind : Int), .int .u8 (b.cpu : Int), .int .i64 b.lost, .int .i64 b.next, .slice A9 b.evs.length c9, .int .i64 (m : Int)] 102 :: .obj B (.deferred (some [])) :: .row (.slice A21 ((q ++ [(⟨b, A9, c9⟩ : Hb)]).length) c21) ((q ++ [(⟨b, A9, c9⟩ : Hb)]).length) ((q ++ [(⟨b, A9, c9⟩ : Hb)]).flatMap hbL) 41 5 :: .blk g4 #[.slice A21 ((q ++ [(⟨b, A9, c9⟩ : Hb)]).length) c21] 35 :: .blk g3 #[vI 0] 36 :: .blk g2 #[.slice none 0 0] 35 :: (hbF 45 q ++ (fr)))) 9 [3, 0, 1, 2, 4, 5, 6, 7, 8] (by decide) (by decide) rfl)
   replace HM : Mem w _ (.blk g20 #[vB b.kind, vB b.cpu, vI b.lost, vI b.next, .slice A9 b.evs.length c9] 41 :: .obj lp (.loop (rec .busy none)) :: .blk g5 #[.int .u8 (b.kind : Int), .int .u8 (b.cpu : Int), .int .i64 b.lost, .int .i64 b.next, .slice A9 b.evs.length c9, .int .i64 (m : Int)] 102 :: .obj B (.deferred (some [])) :: .row (.slice A21 ((q ++ [(⟨b, A9, c9⟩ : Hb)]).length) c21) ((q ++ [(⟨b, A9, c9⟩ : Hb)]).length) ((q ++ [(⟨b, A9, c9⟩ : Hb)]).flatMap hbL) 41 5 :: .blk g4 #[.slice A21 ((q ++ [(⟨b, A9, c9⟩ : Hb)]).length) c21] 35 :: .blk g3 #[vI 0] 36 :: .blk g2 #[.slice none 0 0] 35 :: (hbF 45 (q ++ [(⟨b, A9, c9⟩ : Hb)]) ++ (fr))) := HM
   refine ⟨(.obj B (.deferred (some [])) :: .row (.slice A21 ((q ++ [(⟨b, A9, c9⟩ : Hb)]).length) c21) ((q ++ [(⟨b, A9, c9⟩ : Hb)]).length) ((q ++ [(⟨b, A9, c9⟩ : Hb)]).flatMap hbL) 41 5 :: .blk g4 #[.slice A21 ((q ++ [(⟨b, A9, c9⟩ : Hb)]).length) c21] 35 :: .blk g3 #[vI 0] 36 :: .blk g2 #[.slice none 0 0] 35 :: (hbF 45 (q ++ [(⟨b, A9, c9⟩ : Hb)]) ++ (fr))), HM.picksT (fs' := (.obj lp (.loop (rec .busy none)) :: .obj B (.deferred (some [])) :: .row (.slice A21 ((q ++ [(⟨b, A9, c9⟩ : Hb)]).length) c21) ((q ++ [(⟨b, A9, c9⟩ : Hb)]).length) ((q ++ [(⟨b, A9, c9⟩ : Hb)]).flatMap hbL) 41 5 :: .blk g4 #[.slice A21 ((q ++ [(⟨b, A9, c9⟩ : Hb)]).length) c21] 35 :: .blk g3 #[vI 0] 36 :: .blk g2 #[.slice none 0 0] 35 :: (hbF 45 (q ++ [(⟨b, A9, c9⟩ : Hb)]) ++ (fr)))) 8 [1, 3, 4, 5, 6, 7] (by decide) (by decide) rfl, fun w5 HM => ?_⟩
   exact ⟨(.obj lp (.loop (rec .ready none)) :: .obj B (.deferred (some [])) :: .row (.slice A21 ((q ++ [(⟨b, A9, c9⟩ : Hb)]).length) c21) ((q ++ [(⟨b, A9, c9⟩ : Hb)]).length) ((q ++ [(⟨b, A9, c9⟩ : Hb)]).flatMap hbL) 41 5 :: .blk g4 #[.slice A21 ((q ++ [(⟨b, A9, c9⟩ : Hb)]).length) c21] 35 :: .blk g3 #[vI 0] 36 :: .blk g2 #[.slice none 0 0] 35 :: hbF 45 (q ++ [(⟨b, A9, c9⟩ : Hb)])), HM, .inl ⟨(by omega), rfl, (q ++ [(⟨b, A9, c9⟩ : Hb)]), (f - 1), A21, c21, by rw [List.length_drop]; omega, by rw [← hk, List.map_append, List.append_assoc]; rfl, he, hc21, by rw [List.length_append, List.length_drop, List.length_singleton]; omega, rfl⟩⟩
  refine (qiq w w1 gp lp BB A c l _ _ _ hL hB hr hc hl (by omega) hy ⟨[], l.length, none, 0, Nat.le_refl _, List.nil_append _, rfl, Nat.le_refl _, by simp, rfl⟩ (HM.picksT 7 [3, 0, 1, 2, 4, 5, 6] (by decide) (by decide) rfl)).mono ?_
  rintro r w2 ⟨v, rfl, F2, HM2, (⟨q, f, Ao, co, hf, hk, he, hco, hql, rfl⟩ | ⟨q, e, hen, he, rfl⟩)⟩
  ·exact ⟨v, rfl, .inl ⟨_, ⟨q, f, Ao, co, hf, hk, he, hco, hql, rfl⟩, HM2⟩⟩
  ·exact ⟨v, rfl, .inr ⟨.ret, _, ⟨rfl, q, e, hen, he, rfl⟩, HM2⟩⟩
 ·
  clear HF HM; rintro B a w6 _ ⟨q, f, Ao, co, hf, hk, he, hco, hql, rfl⟩ HF HM
  have hz := qhh (f := f) (l := []) rfl
  rw [hz] at hk he
  dsimp only at hk he
  rw [List.append_nil] at hk
  refine wp_seq (qa ?_)
  refine fy HF HM 0 rfl rfl rfl (Yl.qh rfl rfl (by kernel_rfl) (fun _ h => h.cell (i := 2) rfl rfl)) fun a HF => ?_
  refine fo HF 1 rfl rfl ?_
  refine qp HF HM (i := 4) rfl rfl rfl rfl (by kernel_rfl) rfl rfl (by simp) ?_
  clear HM; intro w10_1 HM
  refine fo HF 2 rfl rfl ?_
  refine qp HF HM (i := 3) rfl rfl rfl rfl (by kernel_rfl) rfl rfl (by simp) ?_
  clear HM; intro w10_2 HM
  refine qb rfl (wp_ret ?_)
  refine qjk HF HM (i := 0) rfl fun a w7 HF HM => ?_
  exact ret2 rfl HF (.cell1 (i := 4) HF HM rfl rfl (by kernel_rfl) rfl) (.cell1 (i := 3) HF HM rfl rfl (by kernel_rfl) rfl) (by rw [qox (by omega) he, ← hk]; exact qrg (HM.picksT (fs' := (.row (.slice Ao q.length co) q.length (q.flatMap hbL) 41 5 :: hbF 45 q)) 5 [1] (by decide) (by decide) rfl) hco)
 ·
  clear HF HM; rintro _ B a w6 _ ⟨rfl, q, e, hen, he, rfl⟩ HF HM
  refine wp_ret ?_
  refine qjk HF HM (i := 0) rfl fun a w7 HF HM => ?_
  exact ret2 rfl HF (.cell1 (i := 2) HF HM rfl rfl (by kernel_rfl) rfl) (.cell1 (i := 1) HF HM rfl rfl (by kernel_rfl) rfl) (qk6 HM (qmh (by omega) he hen) rfl)
theorem qmo (A : Option Addr) (c : Nat) (q : List Hb) (B : Nat) (w : World) (hL : LaidX B w) (hB : B ≤ w.heap.size) (hr : Rd w w.heap.size 5 A q.length (q.flatMap hbL)) (hQ : HbRd w q) (hok : ∀ h ∈ q, h.b.Ok) (hev : ∀ h ∈ q, h.b.evs.length ≤ 1000000) (hn : q.length ≤ 1000000) :
    Calls Tryd.prog 20 #[.slice A q.length c] w (qa5 w (zz (q.map Hb.b)).2 (zz (q.map Hb.b)).1) := by
 refine qg (vs := [.slice A q.length c]) Tryd.func20 rfl rfl (by kernel_rfl) (σ0 := [(0, .slice A q.length c)]) rfl ?_
 intro a HF
 have HM := Mem.start w
 refine wp_seq (qa ?_)
 refine fp HF 2 0 [(3, vI 0), (2, .slice none 0 0)] fun a HF => ?_
 refine qb rfl (wp_seq (qa ?_))
 refine fp HF 1 0 [(4, .slice none 0 0)] fun a HF => ?_
 refine qb rfl (wp_seq (qa ?_))
 refine fp HF 1 0 [(5, .bool false)] fun a HF => ?_
 refine qb rfl ?_
 replace HM := HM.nil 5 1
 refine wp_seq (wp_seq (qa ?_))
 refine fp HF 1 0 [(10, .slice A q.length c)] fun a HF => ?_
 refine fy HF HM 1 rfl rfl rfl (Yl.len rfl rfl (by kernel_rfl)) fun a HF => ?_
 refine fp HF 1 2 [(12, vI 0)] fun a HF => ?_
 refine qb rfl (wp_block ?_)
 refine zr (fun mS aS wS => ∃ (k : Nat) (lg : Bool) (R : List Nat) (Ao : Option Addr) (co : Nat), (k ≤ q.length) ∧ (errL (q.map Hb.b) = errL ((q.drop k).map Hb.b)) ∧ (lg = decide (524288 < (outsL ((q.take k).map Hb.b)).length)) ∧ (lg = false → R = outsL ((q.take k).map Hb.b)) ∧ (R.length ≤ 524288) ∧ (R.length ≤ co) ∧ mS = q.length - k ∧ Fr aS 41 [] [(12, vI k), (11, vI q.length), (10, .slice A q.length c), (5, .bool lg), (4, .slice Ao R.length co), (3, vI 0), (2, .slice none 0 0)] ∧ Mem w wS [.row (.slice Ao R.length co) R.length (R.map B8) 5 1]) (m := q.length - 0) ⟨0, false, [], none, 0, Nat.zero_le _, by rw [List.drop_zero], rfl, by intro _; rfl, by simp, Nat.le_refl _, rfl, HF.sub (by kernel_rfl), HM.picks [0] (by decide) rfl⟩ ?_
 clear HF HM; rintro mS a w_ ⟨k, lg, R, Ao, co, hk, her, hlg, hR, hRl, hco, rfl, HF, HM⟩
 refine wp_seq (qa ?_)
 refine fp HF 1 0 [(13, .bool (decide ((k : Int) < (q.length : Int))))] fun a HF => ?_
 refine qb rfl (wp_seq ?_)
 rcases HF.tf 13 rfl with ⟨hb13, HF⟩ | ⟨hb13, HF⟩
 ·
  have hd13 := of_decide_eq_true hb13
  have hk13 : k < q.length := by omega
  have hat := qxy hk13
  have hoq := congrArg List.length (qvp hk13)
  rw [List.length_append] at hoq
  have hol := qfu (q.getD k Hb.zero).b
  have htk := qr9 (q := q) k
  refine qf HF rfl (wp_skip (wp_seq (wp_block (wp_seq (qa ?_)))))
  obtain ⟨gA, oA, rfl, _⟩ := hr.qaq (Nat.lt_of_le_of_lt (Nat.zero_le _) (show k < q.length from by omega)) (by decide)
  refine fy HF HM 0 rfl rfl rfl (v := vP gA (oA + k * 5)) (Yl.ix gA oA k 5 rfl rfl rfl) fun a HF => ?_
  refine fy HF HM 1 rfl rfl rfl (v := .agg ((q.getD k Hb.zero).b.cells (q.getD k Hb.zero).A (q.getD k Hb.zero).c)) (Yl.zh rfl rfl si_bk rfl (fun _ h => (h.old hr).qca qei ((getD_at Hb.zero (k := k) (by first | omega | (simp; omega)))))) fun a HF => ?_
  refine fo HF 2 rfl rfl ?_
  refine qr HF HM (cs := #[vB 0, vB 0, vI 0, vI 0, .slice none 0 0]) rfl (by kernel_rfl) rfl (by decide) ?_
  clear HF HM; intro a w7 g7 HF HM
  refine fo HF 3 rfl rfl ?_
  refine e_sa HF HM 0 rfl rfl rfl rfl rfl si_bk rfl rfl (qba _ _ _) ?_
  clear HM; intro w5_3 HM
  refine qb rfl (wp_seq (qa ?_))
  refine fy HF HM 0 rfl rfl rfl (v := .agg ((q.getD k Hb.zero).b.cells (q.getD k Hb.zero).A (q.getD k Hb.zero).c)) (Yl.zh rfl rfl si_bk rfl (fun _ h => qd (h.blk (i := 0) rfl))) fun a HF => ?_
  refine fo HF 1 rfl rfl ?_
  refine e_cl HF [.agg ((q.getD k Hb.zero).b.cells (q.getD k Hb.zero).A (q.getD k Hb.zero).c)] rfl rfl (qku (q.getD k Hb.zero).b (hok _ (zt Hb.zero hk13)) ((q.getD k Hb.zero).A) (q.getD k Hb.zero).c B _ (hL.mem HM hB) (HM.le hB) (HM.old (hQ.at hk13)) (hev _ (zt Hb.zero hk13)) rfl rfl) ?_
  rintro _ w18 ⟨⟨A18, c18, rfl, ho, hc18⟩, hbw⟩
  refine ⟨_, rfl, ?_⟩
  replace HM := HM.callRow hbw ho
  clear HF; intro a HF
  refine fp HF 5 2 [(9, vI ((q.getD k Hb.zero).b.err)), (8, .slice A18 ((q.getD k Hb.zero).b.out.length) c18)] fun a HF => ?_
  refine qb rfl (wp_seq (wp_seq (qa ?_)))
  refine fp HF 2 0 [(22, .bool (((q.getD k Hb.zero).b.err : Int) != (0 : Int)))] fun a HF => ?_
  refine qb rfl ?_
  rcases HF.tf 22 rfl with ⟨hb22, HF⟩ | ⟨hb22, HF⟩
  ·
   have hd22 := bne_iff_ne.1 hb22
   have hE : errL (q.map Hb.b) = (q.getD k Hb.zero).b.err := by rw [her, hat, if_neg (by omega)]
   refine qf HF rfl (wp_seq (qa ?_))
   refine fp HF 3 0 [(3, vI ((q.getD k Hb.zero).b.err)), (2, .slice none 0 0)] fun a HF => ?_
   refine qb rfl (wp_ret ?_)
   exact ret2 rfl HF (.tmp HF rfl) (.tmp HF rfl) (qik HM.below (qou (by rw [hE]; omega)) (by rw [hE]))
  have hd22 := bne_eq_false_iff_eq.1 hb22
  have hE : errL (q.map Hb.b) = errL ((q.drop (k + 1)).map Hb.b) := by rw [her, hat, if_pos (by omega)]
  refine qe HF rfl (wp_skip (wp_seq (qa ?_)))
  refine fp HF 2 0 [(25, .bool lg)] fun a HF => ?_
  rcases HF.tf 25 rfl with ⟨hb25, HF⟩ | ⟨hb25, HF⟩
  ·
   have hlong : 524288 < (outsL ((q.take k).map Hb.b)).length := of_decide_eq_true (hlg.symm.trans hb25)
   refine fp HF 8 2 [(5, .bool true)] fun a HF => ?_
   refine qb rfl (wp_seq (qa ?_))
   refine fp HF 2 0 [(34, .bool false)] fun a HF => ?_
   refine qb rfl (qe HF rfl (wp_skip (qa ?_)))
   refine fp HF 1 0 [(38, vI (IntKind.i64.wrap ((k : Int) + 1)))] fun a HF => ?_
   replace HF := HF.sp 38 (vI (k + 1 : Nat)) rfl (ql (by omega) (by omega))
   refine fp HF 1 1 [(12, vI (k + 1 : Nat))] fun a HF => ?_
   refine qb rfl ?_
   exact ⟨_, (by omega), k + 1, true, R, Ao, co, by omega, hE, (decide_eq_true (by omega)).symm, (by intro h; cases h), hRl, hco, rfl, HF.sub (by kernel_rfl), HM.picks [2] (by decide) rfl⟩
  have hlong : ¬ 524288 < (outsL ((q.take k).map Hb.b)).length := of_decide_eq_false (hlg.symm.trans hb25)
  have hRe := hR hb25
  have hRl2 : R.length = (outsL ((q.take k).map Hb.b)).length := by rw [hRe]
  refine fp HF 1 2 [(26, .slice Ao R.length co)] fun a HF => ?_
  refine fy HF HM 3 rfl rfl rfl (Yl.len rfl rfl (by kernel_rfl)) fun a HF => ?_
  refine fp HF 1 4 [(28, .slice A18 ((q.getD k Hb.zero).b.out.length) c18)] fun a HF => ?_
  refine fy HF HM 5 rfl rfl rfl (Yl.len rfl rfl (by kernel_rfl)) fun a HF => ?_
  refine fp HF 1 6 [(30, vI (IntKind.i64.wrap ((R.length : Int) + (((q.getD k Hb.zero).b.out.length : Nat) : Int))))] fun a HF => ?_
  replace HF := HF.sp 30 (vI (R.length + ((q.getD k Hb.zero).b.out.length) : Nat)) rfl (ql (by omega) (by omega))
  refine fp HF 3 7 [(5, .bool (decide (((R.length + ((q.getD k Hb.zero).b.out.length) : Nat) : Int) > (524288 : Int))))] fun a HF => ?_
  refine qb rfl (wp_seq (qa ?_))
  refine fp HF 2 0 [(34, .bool (!(decide (((R.length + ((q.getD k Hb.zero).b.out.length) : Nat) : Int) > (524288 : Int)))))] fun a HF => ?_
  refine qb rfl ?_
  rcases HF.tf 34 rfl with ⟨hb34, HF⟩ | ⟨hb34, HF⟩
  ·
   have hd34 := of_decide_eq_false ((Bool.not_eq_true' _).mp hb34)
   replace HF := HF.on 5 ((Bool.not_eq_true' _).mp hb34)
   refine qf HF rfl (qa ?_)
   refine fp HF 2 0 [(36, .slice A18 ((q.getD k Hb.zero).b.out.length) c18), (35, .slice Ao R.length co)] fun a HF => ?_
   refine fo HF 2 rfl rfl ?_
   refine zq HF HM (i := 2) rfl ei_u8 rfl rfl rfl (news := ((q.getD k Hb.zero).b.out.map B8)) (HM.rd (i := 0) rfl) (qd5 _) (by omega) (by omega) rfl (by decide) ?_
   clear HF HM; intro a w37 A37 c37 HF HM hc37
   rw [show (R.map B8) ++ ((q.getD k Hb.zero).b.out.map B8) = (R ++ (q.getD k Hb.zero).b.out).map B8 from by rw [List.map_append]] at HM
   refine fp HF 1 3 [(4, .slice A37 (R.length + ((q.getD k Hb.zero).b.out.length)) c37)] fun a HF => ?_
   refine qb rfl ?_
   have hnA37 : R.length + ((q.getD k Hb.zero).b.out.length) = (R ++ (q.getD k Hb.zero).b.out).length := by rw [List.length_append]
   replace HM := HM.reRow (i := 2) (ys := (R ++ (q.getD k Hb.zero).b.out).map B8) rfl hnA37 (rfl)
   rw [hnA37] at hc37
   replace HF := HF.as (t := 4) (u := .slice A37 ((R ++ (q.getD k Hb.zero).b.out).length) c37) rfl (by rw [hnA37])
   replace HF := HF.as (t := 37) (u := .slice A37 ((R ++ (q.getD k Hb.zero).b.out).length) c37) rfl (by rw [hnA37])
   refine qa ?_
   refine fp HF 1 0 [(38, vI (IntKind.i64.wrap ((k : Int) + 1)))] fun a HF => ?_
   replace HF := HF.sp 38 (vI (k + 1 : Nat)) rfl (ql (by omega) (by omega))
   refine fp HF 1 1 [(12, vI (k + 1 : Nat))] fun a HF => ?_
   refine qb rfl ?_
   exact ⟨_, (by omega), k + 1, false, (R ++ (q.getD k Hb.zero).b.out), A37, c37, by omega, hE, (decide_eq_false (by omega)).symm, (by intro _; rw [hRe, qvp hk13]), (by rw [List.length_append]; omega), hc37, rfl, HF.sub (by kernel_rfl), HM.picks [2] (by decide) rfl⟩
  have hd34 := of_decide_eq_true ((Bool.not_eq_false' _).mp hb34)
  replace HF := HF.on 5 ((Bool.not_eq_false' _).mp hb34)
  refine qe HF rfl (wp_skip (qa ?_))
  refine fp HF 1 0 [(38, vI (IntKind.i64.wrap ((k : Int) + 1)))] fun a HF => ?_
  replace HF := HF.sp 38 (vI (k + 1 : Nat)) rfl (ql (by omega) (by omega))
  refine fp HF 1 1 [(12, vI (k + 1 : Nat))] fun a HF => ?_
  refine qb rfl ?_
  exact ⟨_, (by omega), k + 1, true, R, Ao, co, by omega, hE, (decide_eq_true (by omega)).symm, (by intro h; cases h), hRl, hco, rfl, HF.sub (by kernel_rfl), HM.picks [2] (by decide) rfl⟩
 have hd13 := of_decide_eq_false hb13
 have hkn : k = q.length := by omega
 have hdn : errL (q.map Hb.b) = 0 := by rw [her, List.drop_of_length_le (by omega)]; rfl
 have htn : q.take k = q := List.take_of_length_le (by omega)
 rw [htn] at hlg hR
 refine qe HF rfl (wp_exit (wp_seq (wp_seq (qa ?_))))
 refine fp HF 1 0 [(39, .bool lg)] fun a HF => ?_
 refine qb rfl ?_
 rcases HF.tf 39 rfl with ⟨hb39, HF⟩ | ⟨hb39, HF⟩
 ·
  have hlong : 524288 < (outsL (q.map Hb.b)).length := of_decide_eq_true (hlg.symm.trans hb39)
  refine qf HF rfl (wp_seq (qa ?_))
  refine fp HF 2 0 [(3, vI 3), (2, .slice none 0 0)] fun a HF => ?_
  refine qb rfl (wp_ret ?_)
  exact ret2 rfl HF (.tmp HF rfl) (.tmp HF rfl) (qik HM.below (qmf hdn hlong) rfl)
 have hlong : ¬ 524288 < (outsL (q.map Hb.b)).length := of_decide_eq_false (hlg.symm.trans hb39)
 have hRe := hR hb39
 refine qe HF rfl (wp_skip (wp_seq (qa ?_)))
 refine fp HF 3 0 [(3, vI 0), (2, .slice Ao R.length co)] fun a HF => ?_
 refine qb rfl (wp_ret ?_)
 exact ret2 rfl HF (.tmp HF rfl) (.tmp HF rfl) (by rw [qr8 hdn hlong, ← hRe]; exact ⟨⟨Ao, co, rfl, HM.own (i := 0) rfl, hco⟩, HM.below⟩)
theorem qpa (g : Nat) (lim : Int) (A : Option Addr) (n c : Nat) (w : World) (hg : w.heap[g]? = some (.cells #[.int .i64 lim, .slice A n c] 95 (0, 0))) :
    Calls Tryd.prog 39 #[.pointer (some ⟨g, 0, none⟩)] w (Is w (.bool (lim == 0))) := by
 refine qg (vs := [vP g 0]) Tryd.func39 rfl rfl (by kernel_rfl) (σ0 := [(0, vP g 0)]) rfl ?_
 intro a HF
 have HM := Mem.start w
 refine wp_seq (qa ?_)
 refine fp HF 1 0 [(2, .bool false)] fun a HF => ?_
 refine qb rfl (wp_seq (qa ?_))
 refine fp HF 1 0 [(3, vP g 0)] fun a HF => ?_
 refine fy HF HM 1 rfl rfl rfl (v := .bool false) (Yl.qnz rfl rfl rfl) fun a HF => ?_
 refine fp HF 2 2 [(6, vP g 0), (5, .bool false)] fun a HF => ?_
 refine fy HF HM 4 rfl rfl rfl (v := vP g 0) (Yl.nilCheck rfl rfl) fun a HF => ?_
 refine fp HF 1 5 [(8, vP g 0)] fun a HF => ?_
 refine fy HF HM 6 rfl rfl rfl (v := vI lim) (Yl.qh rfl rfl (by kernel_rfl) (fun _ h => h.zf hg rfl)) fun a HF => ?_
 refine fp HF 3 7 [(2, .bool ((lim : Int) == (0 : Int)))] fun a HF => ?_
 refine qb rfl (wp_ret ?_)
 exact ret1 rfl HF (.tmp HF rfl) (⟨rfl, HM.below⟩)
theorem qhj (g : Nat) (lim : Int) (A : Option Addr) (n c : Nat) (w : World) (hg : w.heap[g]? = some (.cells #[.int .i64 lim, .slice A n c] 95 (0, 0))) (hlim : lim ≠ 0) :
  Calls Tryd.prog 39 #[.pointer (some ⟨g, 0, none⟩)] w (Is w (.bool false)) := by
 have h := qpa g lim A n c w hg
 rwa [beq_false_of_ne hlim] at h
theorem qlg (A : Option Addr) (c : Nat) (l : List Nat) (w : World) (hr : Rd w w.heap.size 1 A l.length (l.map B8)) (hn : l.length ≤ 100000000) :
    Calls Tryd.prog 41 #[.slice A l.length c] w (qah w l) := by
 refine qg (vs := [.slice A l.length c]) Tryd.func41 rfl rfl (by kernel_rfl) (σ0 := [(0, .slice A l.length c)]) rfl ?_
 intro a HF
 have HM := Mem.start w
 refine wp_seq (qa ?_)
 refine fp HF 1 0 [(2, .slice none 0 0)] fun a HF => ?_
 refine qb rfl (wp_seq (wp_seq (qa ?_)))
 refine fp HF 1 0 [(3, .slice A l.length c)] fun a HF => ?_
 refine fy HF HM 1 rfl rfl rfl (v := .bool A.isNone) (Yl.qyi rfl rfl rfl) fun a HF => ?_
 refine qb rfl ?_
 rcases HF.tf 4 rfl with ⟨hb4, HF⟩ | ⟨hb4, HF⟩
 ·
  obtain rfl : A = none := by cases A with | none => rfl | some a => cases hb4
  obtain rfl : l = [] := hr.qw2
  refine qf HF rfl (wp_seq (qa ?_))
  refine fp HF 1 0 [(2, .slice none 0 0)] fun a HF => ?_
  refine qb rfl (wp_ret ?_)
  exact ret1 rfl HF (.tmp HF rfl) (⟨⟨none, 0, rfl, World.ownsRow_nil _ _ _ _, Nat.le_refl _⟩, HM.below⟩)
 refine qe HF rfl (wp_skip (wp_seq (qa ?_)))
 refine fo HF 0 rfl rfl ?_
 refine qtj HF HM rfl ei_u8 rfl (by decide) ?_
 clear HF HM; intro a w5 g5 HF HM
 refine fp HF 1 1 [(6, .slice A l.length c)] fun a HF => ?_
 refine fo HF 2 rfl rfl ?_
 refine zq HF HM (i := 0) rfl ei_u8 rfl rfl rfl (news := (l.map B8)) (HM.old hr) (qd5 _) (by omega) (by omega) rfl (by decide) ?_
 clear HF HM; intro a w7 A7 c7 HF HM hc7
 refine fp HF 1 3 [(2, .slice A7 (0 + l.length) c7)] fun a HF => ?_
 refine qb rfl (wp_ret ?_)
 exact ret1 rfl HF (.tmp HF rfl) (⟨⟨A7, c7, by rw [Nat.zero_add], by have h := HM.own (i := 0) rfl; rwa [Nat.zero_add, List.nil_append] at h, by omega⟩, HM.below⟩)
def NewIs (w : World) (lim : Int) (r : Ending) (w' : World) : Prop := ((lim < 1 ∨ 4096 < lim) ∧ Is w (.tuple #[.pointer none, .int .i64 2]) r w') ∨ (¬ (lim < 1 ∨ 4096 < lim) ∧ ∃ g, r = .returned (.tuple #[.pointer (some ⟨g, 0, none⟩), .int .i64 0]) ∧ Mem w w' [.blk g #[.int .i64 lim, .slice none 0 0] 95])
theorem qnr {w w' : World} {lim : Int} (h : lim < 1 ∨ 4096 < lim) (hb : Below w.heap.size w w') : NewIs w lim (.returned (.tuple #[.pointer none, .int .i64 2])) w' := .inl ⟨h, rfl, hb⟩
theorem quy {w w' : World} {lim : Int} {g : Nat} (h : ¬ (lim < 1 ∨ 4096 < lim)) (hm : Mem w w' [.blk g #[.int .i64 lim, .slice none 0 0] 95]) : NewIs w lim (.returned (.tuple #[.pointer (some ⟨g, 0, none⟩), .int .i64 0])) w' := .inr ⟨h, g, rfl, hm⟩
theorem qsq (lim : Int) (hl : I64 lim) (w : World) :
    Calls Tryd.prog 14 #[.int .i64 lim] w (NewIs w lim) := by
 refine qg (vs := [vI lim]) Tryd.func14 rfl rfl (by kernel_rfl) (σ0 := [(0, vI lim)]) rfl ?_
 intro a HF
 have HM := Mem.start w
 refine wp_seq (qa ?_)
 refine fp HF 2 0 [(3, vI 0), (2, .pointer none)] fun a HF => ?_
 refine qb rfl (wp_seq (wp_seq (qa ?_)))
 refine fp HF 3 0 [(6, .bool (decide ((lim : Int) < (1 : Int))))] fun a HF => ?_
 rcases HF.tf 6 rfl with ⟨hb6, HF⟩ | ⟨hb6, HF⟩
 ·
  have hd6 := of_decide_eq_true hb6
  refine fp HF 3 3 [(9, .bool true)] fun a HF => ?_
  refine qb rfl (qf HF rfl (wp_seq (qa ?_)))
  refine fp HF 2 0 [(3, vI 2), (2, .pointer none)] fun a HF => ?_
  refine qb rfl (wp_ret ?_)
  exact ret2 rfl HF (.tmp HF rfl) (.tmp HF rfl) (qnr (by omega) HM.below)
 have hd6 := of_decide_eq_false hb6
 refine fp HF 3 3 [(9, .bool (decide ((lim : Int) > (4096 : Int))))] fun a HF => ?_
 refine qb rfl ?_
 rcases HF.tf 9 rfl with ⟨hb9, HF⟩ | ⟨hb9, HF⟩
 ·
  have hd9 := of_decide_eq_true hb9
  refine qf HF rfl (wp_seq (qa ?_))
  refine fp HF 2 0 [(3, vI 2), (2, .pointer none)] fun a HF => ?_
  refine qb rfl (wp_ret ?_)
  exact ret2 rfl HF (.tmp HF rfl) (.tmp HF rfl) (qnr (by omega) HM.below)
 have hd9 := of_decide_eq_false hb9
 refine qe HF rfl (wp_skip (wp_seq (qa ?_)))
 refine fp HF 1 0 [(10, vI lim)] fun a HF => ?_
 refine fy HF HM 1 rfl rfl rfl (v := .agg #[vI lim, .slice none 0 0]) (Yl.build (vs := [(0, vI lim)]) rfl (by kernel_rfl) (by kernel_rfl)) fun a HF => ?_
 refine fo HF 2 rfl rfl ?_
 refine e_box HF HM (cs := #[vI lim, .slice none 0 0]) rfl rfl rfl rfl (by decide) ?_
 clear HF HM; intro a w12 g12 HF HM
 refine fp HF 2 3 [(3, vI 0), (2, vP g12 0)] fun a HF => ?_
 refine qb rfl (wp_ret ?_)
 exact ret2 rfl HF (.tmp HF rfl) (.tmp HF rfl) (quy (by omega) (HM.picks [0] (by decide) rfl))
theorem qpb (A : Option Addr) (c : Nat) (q : List Hb) (B : Nat) (w : World) (hL : LaidX B w) (hB : B ≤ w.heap.size) (hr : Rd w w.heap.size 5 A q.length (q.flatMap hbL)) (hQ : HbRd w q) (hok : ∀ h ∈ q, h.b.Ok) (hev : ∀ h ∈ q, h.b.evs.length ≤ 1000000) (hn : q.length ≤ 1000000) {R : List Nat} {er : Nat} (h : zz (q.map Hb.b) = (R, er)) :
  Calls Tryd.prog 20 #[.slice A q.length c] w (qa5 w er R) := by
 have h1 := qmo A c q B w hL hB hr hQ hok hev hn
 rw [h] at h1
 exact h1
theorem qlh (W w : World) (g : Nat) (lim : Int) (A : Option Addr) (c : Nat) (out : List Nat) (fs : List Fact) (HW : Mem W w (.blk g #[.int .i64 lim, .slice A out.length c] 95 :: .row (.slice A out.length c) out.length (out.map B8) 5 1 :: fs)) (hc : out.length ≤ c) (hout : out.length ≤ 524288) (A2 : Option Addr) (c2 : Nat) (q : List Hb) (B : Nat) (hL : LaidX B w) (hBW : B ≤ W.heap.size) (hr : Rd w w.heap.size 5 A2 q.length (q.flatMap hbL)) (hQ : HbRd w q) (hok : ∀ h ∈ q, h.b.Ok) (hev : ∀ h ∈ q, h.b.evs.length ≤ 1000000) (hn : q.length ≤ 1000000) :
    Calls Tryd.prog 40 #[.pointer (some ⟨g, 0, none⟩), .slice A2 q.length c2] w (WrIs W 95 g lim (qbb out (q.map Hb.b)).1 fs (.int .i64 ((qbb out (q.map Hb.b)).2 : Int))) := by
 have hg := HW.blk (i := 0) rfl
 have hB := Nat.le_trans hBW HW.size
 have hrA := HW.rd (i := 1) rfl
 refine qg (vs := [vP g 0, .slice A2 q.length c2]) Tryd.func40 rfl rfl (by kernel_rfl) (σ0 := [(0, vP g 0), (1, .slice A2 q.length c2)]) rfl ?_
 intro a HF
 have HM := Mem.start w
 refine wp_seq (qa ?_)
 refine fp HF 1 0 [(4, vI 0)] fun a HF => ?_
 refine qb rfl ?_
 obtain ⟨R, er, hws⟩ : ∃ R er, zz (q.map Hb.b) = (R, er) := ⟨_, _, rfl⟩
 have hRl : R.length ≤ 524288 := by have h := qov (q.map Hb.b); rw [hws] at h; exact h
 refine wp_seq (qa ?_)
 refine fp HF 1 0 [(8, .slice A2 q.length c2)] fun a HF => ?_
 refine fo HF 1 rfl rfl ?_
 refine e_cl HF [.slice A2 q.length c2] rfl rfl (qpb A2 c2 q B _ (hL.mem HM hB) (HM.le hB) (HM.old hr) (HbRd.old hQ HM) hok hev hn hws) ?_
 rintro _ w9 ⟨⟨A9, c9, rfl, ho, hc9⟩, hbw⟩
 refine ⟨_, rfl, ?_⟩
 replace HM := HM.callRow hbw ho
 clear HF; intro a HF
 refine fp HF 5 2 [(6, vI er), (5, .slice A9 R.length c9)] fun a HF => ?_
 refine qb rfl (wp_seq (wp_seq (qa ?_)))
 refine fp HF 2 0 [(13, .bool ((er : Int) != (0 : Int)))] fun a HF => ?_
 refine qb rfl ?_
 rcases HF.tf 13 rfl with ⟨hb13, HF⟩ | ⟨hb13, HF⟩
 ·
  have hd13 := bne_iff_ne.1 hb13
  refine qf HF rfl (wp_seq (qa ?_))
  refine fp HF 2 0 [(4, vI er)] fun a HF => ?_
  refine qb rfl (wp_ret ?_)
  exact ret1 rfl HF (.tmp HF rfl) (qjl (qmi hws (by omega)) rfl hc (HW.call HM.below))
 have hd13 := bne_eq_false_iff_eq.1 hb13
 refine qe HF rfl (wp_skip (wp_seq (wp_seq (qa ?_))))
 refine fp HF 1 0 [(15, vP g 0)] fun a HF => ?_
 refine fy HF HM 1 rfl rfl rfl (v := vP g 0) (Yl.nilCheck rfl rfl) fun a HF => ?_
 refine fp HF 1 2 [(17, vP g 1)] fun a HF => ?_
 refine fy HF HM 3 rfl rfl rfl (v := .slice A out.length c) (Yl.qh rfl rfl (by kernel_rfl) (fun _ h => h.zf hg rfl)) fun a HF => ?_
 refine fy HF HM 4 rfl rfl rfl (Yl.len rfl rfl (by kernel_rfl)) fun a HF => ?_
 refine fp HF 1 5 [(20, .slice A9 R.length c9)] fun a HF => ?_
 refine fy HF HM 6 rfl rfl rfl (Yl.len rfl rfl (by kernel_rfl)) fun a HF => ?_
 refine fp HF 1 7 [(22, vI (IntKind.i64.wrap ((out.length : Int) + (R.length : Int))))] fun a HF => ?_
 replace HF := HF.sp 22 (vI (out.length + R.length : Nat)) rfl (ql (by omega) (by omega))
 refine fp HF 1 8 [(23, .bool (decide (((out.length + R.length : Nat) : Int) > (524288 : Int))))] fun a HF => ?_
 refine qb rfl ?_
 rcases HF.tf 23 rfl with ⟨hb23, HF⟩ | ⟨hb23, HF⟩
 ·
  have hd23 := of_decide_eq_true hb23
  refine qf HF rfl (wp_seq (qa ?_))
  refine fp HF 1 0 [(4, vI 3)] fun a HF => ?_
  refine qb rfl (wp_ret ?_)
  exact ret1 rfl HF (.tmp HF rfl) (qjl (qk7 hws (by omega) (by omega)) rfl hc (HW.call HM.below))
 have hd23 := of_decide_eq_false hb23
 replace HM : Mem W _ (.row (.slice A9 R.length c9) R.length (R.map B8) 5 1 :: .blk g #[vI lim, .slice A out.length c] 95 :: .row (.slice A out.length c) out.length (out.map B8) 5 1 :: fs) := HW.join HM
 refine qe HF rfl (wp_skip (wp_seq (qa ?_)))
 refine fp HF 2 0 [(25, vP g 0), (24, vP g 0)] fun a HF => ?_
 refine fy HF HM 2 rfl rfl rfl (v := vP g 0) (Yl.nilCheck rfl rfl) fun a HF => ?_
 refine fp HF 1 3 [(27, vP g 1)] fun a HF => ?_
 refine fy HF HM 4 rfl rfl rfl (Yl.qh rfl rfl (by kernel_rfl) (fun _ h => h.cell (i := 1) rfl rfl)) fun a HF => ?_
 refine fp HF 1 5 [(29, .slice A9 R.length c9)] fun a HF => ?_
 refine fo HF 6 rfl rfl ?_
 refine zq HF HM (i := 2) rfl ei_u8 rfl rfl rfl (news := (R.map B8)) (HM.rd (i := 0) rfl) (qd5 _) (by omega) (by omega) rfl (by decide) ?_
 clear HF HM; intro a w30 A30 c30 HF HM hc30
 rw [show (out.map B8) ++ (R.map B8) = (out ++ R).map B8 from by rw [List.map_append]] at HM
 refine fy HF HM 7 rfl rfl rfl (v := vP g 0) (Yl.nilCheck rfl rfl) fun a HF => ?_
 refine fp HF 1 8 [(32, vP g 1)] fun a HF => ?_
 refine fo HF 9 rfl rfl ?_
 refine qp HF HM (i := 1) rfl rfl rfl rfl (by kernel_rfl) rfl rfl (by simp) ?_
 clear HM; intro w6_9 HM
 refine qb rfl ?_
 have hnA30 : out.length + R.length = (out ++ R).length := by rw [List.length_append]
 replace HM := HM.reRow (i := 2) (ys := (out ++ R).map B8) rfl hnA30 (rfl)
 rw [hnA30] at hc30
 replace HF := HF.as (t := 30) (u := .slice A30 ((out ++ R).length) c30) rfl (by rw [hnA30])
 replace HM := HM.reBlk (i := 1) (ds := #[.int .i64 lim, .slice A30 (out ++ R).length c30]) rfl (by rw [hnA30]; rfl)
 refine wp_seq (qa ?_)
 refine fp HF 1 0 [(4, vI 0)] fun a HF => ?_
 refine qb rfl (wp_ret ?_)
 exact ret1 rfl HF (.tmp HF rfl) (qjl (qoy hws (by omega) (by omega)) rfl hc30 (HM.picksT 3 [1, 2] (by decide) (by decide) rfl))
theorem qmp (W w : World) (g : Nat) (lim : Int) (A : Option Addr) (c : Nat) (out : List Nat) (fs : List Fact) (HW : Mem W w (.blk g #[.int .i64 lim, .slice A out.length c] 95 :: .row (.slice A out.length c) out.length (out.map B8) 5 1 :: fs)) (hc : out.length ≤ c) (hout : out.length ≤ 524288) (A2 : Option Addr) (c2 : Nat) (q : List Hb) (B : Nat) (hL : LaidX B w) (hBW : B ≤ W.heap.size) (hr : Rd w w.heap.size 5 A2 q.length (q.flatMap hbL)) (hQ : HbRd w q) (hok : ∀ h ∈ q, h.b.Ok) (hev : ∀ h ∈ q, h.b.evs.length ≤ 1000000) (hn : q.length ≤ 1000000) {o2 : List Nat} {we : Nat} (h : qbb out (q.map Hb.b) = (o2, we)) :
  Calls Tryd.prog 40 #[.pointer (some ⟨g, 0, none⟩), .slice A2 q.length c2] w (WrIs W 95 g lim o2 fs (.int .i64 (we : Int))) := by
 have h1 := qlh W w g lim A c out fs HW hc hout A2 c2 q B hL hBW hr hQ hok hev hn
 rw [h] at h1
 exact h1
theorem qgk (cpu : Nat) (hcpu : cpu < 256) (A : Option Addr) (n c : Nat) (l : List It) (opn limit : Int) (hok : ∀ x ∈ l, x.Ok) (ho : I64 opn) (hlm : I64 limit) (B : Nat) (w : World) (hL : LaidX B w) (hB : B ≤ w.heap.size) (hr : Rd w w.heap.size 12 A n (l.flatMap itL)) (hc : n ≤ c) (hln : l.length = n) (hn : n ≤ 1000000) {bs : List Bk} {ce : Nat} (h : cutS cpu l opn limit = (bs, ce)) :
  Calls Tryd.prog 12 #[.int .u8 (cpu : Int), .slice A n c, .int .i64 opn, .int .i64 limit] w (qga 45 41 w ce bs) := by
 have h1 := qsp cpu hcpu A n c l opn limit hok ho hlm B w hL hB hr hc hln hn
 rw [h] at h1
 exact h1
theorem qsr (W w : World) (g : Nat) (lim : Int) (A : Option Addr) (c : Nat) (out : List Nat) (fs : List Fact) (HW : Mem W w (.blk g #[.int .i64 lim, .slice A out.length c] 95 :: .row (.slice A out.length c) out.length (out.map B8) 5 1 :: fs)) (hc : out.length ≤ c) (hout : out.length ≤ 524288) (hlim : lim ≠ 0) (next : Int) (hnx : I64 next) (B : Nat) (hL : LaidX B w) (hBW : B ≤ W.heap.size) :
    Calls Tryd.prog 15 #[.pointer (some ⟨g, 0, none⟩), .int .i64 next] w (WrIs W 95 g lim (qbb out [endB next]).1 fs (.int .i64 ((qbb out [endB next]).2 : Int))) := by
 have hg := HW.blk (i := 0) rfl
 have hB := Nat.le_trans hBW HW.size
 have hrA := HW.rd (i := 1) rfl
 refine qg (vs := [vP g 0, vI next]) Tryd.func15 rfl rfl (by kernel_rfl) (σ0 := [(0, vP g 0), (1, vI next)]) rfl ?_
 intro a HF
 have HM := Mem.start w
 refine wp_seq (qa ?_)
 refine fp HF 1 0 [(4, vI 0)] fun a HF => ?_
 refine qb rfl (wp_seq (wp_seq (qa ?_)))
 refine fp HF 1 0 [(5, vP g 0)] fun a HF => ?_
 refine fo HF 1 rfl rfl ?_
 refine e_is HF HM [vP g 0] (.bool false) rfl rfl (qhj g lim A out.length c _ (HM.oldBlk hg) hlim) fun w6 hbw HM a HF => ?_
 refine qb rfl ?_
 replace HM : Mem W _ (.blk g #[vI lim, .slice A out.length c] 95 :: .row (.slice A out.length c) out.length (out.map B8) 5 1 :: fs) := HW.join HM
 obtain ⟨o2, we, hww⟩ : ∃ o2 we, qbb out [endB next] = (o2, we) := ⟨_, _, rfl⟩
 refine qe HF rfl (wp_skip (wp_seq (qa ?_)))
 refine fp HF 2 0 [(8, vI next), (7, vP g 0)] fun a HF => ?_
 refine fy HF HM 2 rfl rfl rfl (v := .agg #[vB 2, vB 0, vI 0, vI next, .slice none 0 0]) (Yl.build (vs := [(0, vB 2), (3, vI next)]) rfl (by kernel_rfl) (by kernel_rfl)) fun a HF => ?_
 refine fo HF 3 rfl rfl ?_
 refine qap HF HM (vs := [(0, .agg #[vB 2, vB 0, vI 0, vI next, .slice none 0 0])]) (cs := #[vB 2, vB 0, vI 0, vI next, .slice none 0 0]) rfl qd7 (by decide) rfl (by kernel_rfl) rfl (by decide) ?_
 clear HF HM; intro a w10 g10 HF HM
 refine fo HF 4 rfl rfl ?_
 refine e_cl HF [vP g 0, vS g10 1 1] rfl rfl (qmp W _ g lim A c out _ (HM.picksT 3 [1, 2, 0] (by decide) (by decide) rfl) hc hout _ 1 [⟨endB next, none, 0⟩] B (hL.mem2 HW HM hBW) hBW (HM.rdBlk (i := 0) (n := 1) (size := 5) rfl rfl) (by intro x hx; rw [List.mem_singleton] at hx; subst hx; exact Rd.nil) (by intro x hx; rw [List.mem_singleton] at hx; subst hx; exact qwo hnx) (by intro x hx; rw [List.mem_singleton] at hx; subst hx; exact Nat.zero_le _) (by show 1 ≤ 1000000; decide) hww) ?_
 rintro _ w11 ⟨rfl, A11, c11, hc11, HM2⟩
 refine ⟨_, rfl, ?_⟩
 replace HM := HM2
 clear HF; intro a HF
 refine fp HF 1 5 [(4, vI we)] fun a HF => ?_
 refine qb rfl (wp_ret ?_)
 exact ret1 rfl HF (.tmp HF rfl) (qjl hww rfl hc11 (HM.picksT 3 [0, 1] (by decide) (by decide) rfl))
theorem qhk (g : Nat) (lim : Int) (A : Option Addr) (c : Nat) (out : List Nat) (w : World) (hg : w.heap[g]? = some (.cells #[.int .i64 lim, .slice A out.length c] 95 (0, 0))) (hrA : Rd w w.heap.size 1 A out.length (out.map B8)) (hout : out.length ≤ 524288) (hlim : lim ≠ 0) :
    Calls Tryd.prog 16 #[.pointer (some ⟨g, 0, none⟩)] w (qah w out) := by
 refine qg (vs := [vP g 0]) Tryd.func16 rfl rfl (by kernel_rfl) (σ0 := [(0, vP g 0)]) rfl ?_
 intro a HF
 have HM := Mem.start w
 refine wp_seq (qa ?_)
 refine fp HF 1 0 [(2, .slice none 0 0)] fun a HF => ?_
 refine qb rfl (wp_seq (wp_seq (qa ?_)))
 refine fp HF 1 0 [(3, vP g 0)] fun a HF => ?_
 refine fo HF 1 rfl rfl ?_
 refine e_is HF HM [vP g 0] (.bool false) rfl rfl (qhj g lim A out.length c _ (HM.oldBlk hg) hlim) fun w4 hbw HM a HF => ?_
 refine qb rfl (qe HF rfl (wp_skip (wp_seq (qa ?_))))
 refine fp HF 1 0 [(5, vP g 0)] fun a HF => ?_
 refine fy HF HM 1 rfl rfl rfl (v := vP g 0) (Yl.nilCheck rfl rfl) fun a HF => ?_
 refine fp HF 1 2 [(7, vP g 1)] fun a HF => ?_
 refine fy HF HM 3 rfl rfl rfl (v := .slice A out.length c) (Yl.qh rfl rfl (by kernel_rfl) (fun _ h => h.zf hg rfl)) fun a HF => ?_
 refine fo HF 4 rfl rfl ?_
 refine e_cl HF [.slice A out.length c] rfl rfl (qlg A c out _ (HM.old hrA) (by omega)) ?_
 rintro _ w9 ⟨⟨A9, c9, rfl, ho, hc9⟩, hbw⟩
 refine ⟨_, rfl, ?_⟩
 replace HM := HM.callRow hbw ho
 clear HF; intro a HF
 refine fp HF 1 5 [(2, .slice A9 out.length c9)] fun a HF => ?_
 refine qb rfl (wp_ret ?_)
 exact ret1 rfl HF (.tmp HF rfl) (⟨⟨_, _, rfl, HM.own (i := 0) rfl, hc9⟩, HM.below⟩)
theorem qss (g : Nat) (lim : Int) (A : Option Addr) (c : Nat) (out : List Nat) (w : World) (hg : w.heap[g]? = some (.cells #[.int .i64 lim, .slice A out.length c] 95 (0, 0))) (hlim : lim ≠ 0) :
    Calls Tryd.prog 18 #[.pointer (some ⟨g, 0, none⟩)] w (Is w (.int .i64 (out.length : Int))) := by
 refine qg (vs := [vP g 0]) Tryd.func18 rfl rfl (by kernel_rfl) (σ0 := [(0, vP g 0)]) rfl ?_
 intro a HF
 have HM := Mem.start w
 refine wp_seq (qa ?_)
 refine fp HF 1 0 [(2, vI 0)] fun a HF => ?_
 refine qb rfl (wp_seq (wp_seq (qa ?_)))
 refine fp HF 1 0 [(3, vP g 0)] fun a HF => ?_
 refine fo HF 1 rfl rfl ?_
 refine e_is HF HM [vP g 0] (.bool false) rfl rfl (qhj g lim A out.length c _ (HM.oldBlk hg) hlim) fun w4 hbw HM a HF => ?_
 refine qb rfl (qe HF rfl (wp_skip (wp_seq (qa ?_))))
 refine fp HF 1 0 [(5, vP g 0)] fun a HF => ?_
 refine fy HF HM 1 rfl rfl rfl (v := vP g 0) (Yl.nilCheck rfl rfl) fun a HF => ?_
 refine fp HF 1 2 [(7, vP g 1)] fun a HF => ?_
 refine fy HF HM 3 rfl rfl rfl (v := .slice A out.length c) (Yl.qh rfl rfl (by kernel_rfl) (fun _ h => h.zf hg rfl)) fun a HF => ?_
 refine fy HF HM 4 rfl rfl rfl (Yl.len rfl rfl (by kernel_rfl)) fun a HF => ?_
 refine fp HF 1 5 [(2, vI out.length)] fun a HF => ?_
 refine qb rfl (wp_ret ?_)
 exact ret1 rfl HF (.tmp HF rfl) (⟨rfl, HM.below⟩)
def qx6 (w : World) (l : List Nat) (r : Ending) (w' : World) : Prop := ∃ g A c, r = .returned (.pointer (some ⟨g, 0, none⟩)) ∧ l.length ≤ c ∧ Mem w w' [.blk g #[.bool true, .int .i64 0, .slice A l.length c] 108, .row (.slice A l.length c) l.length (l.map B8) 5 1]
theorem Mem.skip {W w : World} {f : Fact} {fs : List Fact} (h : Mem W w (f :: fs)) : Mem W w fs := h.tail
theorem qir (A : Option Addr) (c : Nat) (l : List Nat) (w : World) (hr : Rd w w.heap.size 1 A l.length (l.map B8)) (hn : l.length ≤ 100000000) :
    Calls Tryd.prog 25 #[.slice A l.length c] w (qx6 w l) := by
 refine qg (vs := [.slice A l.length c]) Tryd.func25 rfl rfl (by kernel_rfl) (σ0 := [(0, .slice A l.length c)]) rfl ?_
 intro a HF
 have HM := Mem.start w
 refine wp_seq (qa ?_)
 refine fp HF 1 0 [(2, .pointer none)] fun a HF => ?_
 refine qb rfl (wp_seq (qa ?_))
 refine fp HF 1 0 [(3, .slice A l.length c)] fun a HF => ?_
 refine fo HF 1 rfl rfl ?_
 refine e_cl HF [.slice A l.length c] rfl rfl (qlg A c l _ (HM.old hr) hn) ?_
 rintro _ w4 ⟨⟨A4, c4, rfl, ho, hc4⟩, hbw⟩
 refine ⟨_, rfl, ?_⟩
 replace HM := HM.callRow hbw ho
 clear HF; intro a HF
 refine fy HF HM 2 rfl rfl rfl (v := .agg #[.bool true, vI 0, .slice A4 l.length c4]) (Yl.build (vs := [(0, .bool true), (2, .slice A4 l.length c4)]) rfl (by kernel_rfl) (by kernel_rfl)) fun a HF => ?_
 refine fo HF 3 rfl rfl ?_
 refine e_box HF HM (cs := #[.bool true, vI 0, .slice A4 l.length c4]) rfl rfl rfl rfl (by decide) ?_
 clear HF HM; intro a w6 g6 HF HM
 refine fp HF 1 4 [(2, vP g6 0)] fun a HF => ?_
 refine qb rfl (wp_ret ?_)
 exact ret1 rfl HF (.tmp HF rfl) (⟨g6, A4, c4, rfl, hc4, HM⟩)
theorem qge (g p : Nat) (A : Option Addr) (c : Nat) (l : List Nat) (w : World) (hg : w.heap[g]? = some (.cells #[.bool true, .int .i64 (p : Int), .slice A l.length c] 108 (0, 0))) :
    Calls Tryd.prog 27 #[.pointer (some ⟨g, 0, none⟩)] w (Is w (.int .i64 (p : Int))) := by
 refine qg (vs := [vP g 0]) Tryd.func27 rfl rfl (by kernel_rfl) (σ0 := [(0, vP g 0)]) rfl ?_
 intro a HF
 have HM := Mem.start w
 refine wp_seq (qa ?_)
 refine fp HF 1 0 [(2, vI 0)] fun a HF => ?_
 refine qb rfl (wp_seq (wp_seq (qa ?_)))
 refine fp HF 1 0 [(3, vP g 0)] fun a HF => ?_
 refine fy HF HM 1 rfl rfl rfl (v := .bool false) (Yl.qnz rfl rfl rfl) fun a HF => ?_
 refine qb rfl (qe HF rfl (wp_skip (wp_seq (qa ?_))))
 refine fp HF 1 0 [(5, vP g 0)] fun a HF => ?_
 refine fy HF HM 1 rfl rfl rfl (v := vP g 0) (Yl.nilCheck rfl rfl) fun a HF => ?_
 refine fp HF 1 2 [(7, vP g 1)] fun a HF => ?_
 refine fy HF HM 3 rfl rfl rfl (v := vI p) (Yl.qh rfl rfl (by kernel_rfl) (fun _ h => h.zf hg rfl)) fun a HF => ?_
 refine fp HF 1 4 [(2, vI p)] fun a HF => ?_
 refine qb rfl (wp_ret ?_)
 exact ret1 rfl HF (.tmp HF rfl) (⟨rfl, HM.below⟩)
theorem qpc (W w : World) (g p : Nat) (A : Option Addr) (c : Nat) (l : List Nat) (fs : List Fact) (HW : Mem W w (.blk g #[.bool true, .int .i64 (p : Int), .slice A l.length c] 108 :: .row (.slice A l.length c) l.length (l.map B8) 5 1 :: fs)) (hp : p ≤ l.length) (hc : l.length ≤ c) (hl : ∀ b ∈ l, b < 256) (hn : l.length ≤ 100000000) (B : Nat) (hL : LaidX B w) (hBW : B ≤ W.heap.size) :
    Calls Tryd.prog 26 #[.pointer (some ⟨g, 0, none⟩)] w (qvq W 108 g p l A c fs (nextR l p)) := by
 have hg := HW.blk (i := 0) rfl
 have hrA := HW.rd (i := 1) rfl
 have hB := Nat.le_trans hBW HW.size
 refine qg (vs := [vP g 0]) Tryd.func26 rfl rfl (by kernel_rfl) (σ0 := [(0, vP g 0)]) rfl ?_
 intro a HF
 have HM := Mem.start w
 refine wp_seq (qa ?_)
 refine fo HF 0 rfl rfl ?_
 refine qr HF HM (cs := #[vB 0, vB 0, vI 0, vI 0, .slice none 0 0]) rfl (by kernel_rfl) rfl (by decide) ?_
 clear HF HM; intro a w2 g2 HF HM
 refine fp HF 1 1 [(3, vI 0)] fun a HF => ?_
 refine qb rfl (wp_seq (wp_seq (qa ?_)))
 refine fp HF 1 0 [(7, vP g 0)] fun a HF => ?_
 refine fy HF HM 1 rfl rfl rfl (v := .bool false) (Yl.qnz rfl rfl rfl) fun a HF => ?_
 refine fp HF 2 2 [(10, vP g 0), (9, .bool false)] fun a HF => ?_
 refine fy HF HM 4 rfl rfl rfl (v := vP g 0) (Yl.nilCheck rfl rfl) fun a HF => ?_
 refine fp HF 1 5 [(12, vP g 0)] fun a HF => ?_
 refine fy HF HM 6 rfl rfl rfl (v := .bool true) (Yl.qh rfl rfl (by kernel_rfl) (fun _ h => h.zf hg rfl)) fun a HF => ?_
 refine fp HF 2 7 [(15, .bool false)] fun a HF => ?_
 refine qb rfl (qe HF rfl (wp_skip (wp_seq (wp_seq ?_))))
 refine qag HM [.blk g2 #[vB 0, vB 0, vI 0, vI 0, .slice none 0 0] 41] [0] [] fun HM HS => ?_
 refine ap HF (fun _ => HS) [0, 4] #[true, false, false, false, true, false, false, false, false, false] [(21, vP g 0), (17, vP g 0)] fun a HF => ?_
 refine ay HF HS 1 rfl rfl rfl (v := vP g 0) (Yl.nilCheck rfl rfl) fun a HF => ?_
 refine ap HF (fun _ => HS) [2] #[true, true, true, false, true, false, false, false, false, false] [(19, vP g 1)] fun a HF => ?_
 refine ay HF HS 3 rfl rfl rfl (v := vI p) (Yl.qh rfl rfl (by kernel_rfl) (fun _ h => h.zf hg rfl)) fun a HF => ?_
 refine ay HF HS 5 rfl rfl rfl (v := vP g 0) (Yl.nilCheck rfl rfl) fun a HF => ?_
 refine ap HF (fun _ => HS) [6] #[true, true, true, true, true, true, true, false, false, false] [(23, vP g 2)] fun a HF => ?_
 refine ay HF HS 7 rfl rfl rfl (v := .slice A l.length c) (Yl.qh rfl rfl (by kernel_rfl) (fun _ h => h.zf hg rfl)) fun a HF => ?_
 refine ay HF HS 8 rfl rfl rfl (Yl.len rfl rfl (by kernel_rfl)) fun a HF => ?_
 refine ap HF (fun _ => HS) [9] #[true, true, true, true, true, true, true, true, true, true] [(26, .bool ((p : Int) == (l.length : Int)))] fun a HF => ?_
 refine qn (by kernel_rfl) ?_
 rcases HF.tf 26 rfl with ⟨hb26, HF⟩ | ⟨hb26, HF⟩
 ·
  have hd26 := eq_of_beq hb26
  have hpl : p = l.length := by omega
  have hz : nextR l p = (Bk.zero, 0, 6) := if_pos hpl
  refine qf HF rfl (wp_seq (qa ?_))
  refine fy HF HM 0 rfl rfl rfl (v := .agg #[vB 0, vB 0, vI 0, vI 0, .slice none 0 0]) (Yl.build (vs := []) rfl (by kernel_rfl) (by kernel_rfl)) fun a HF => ?_
  refine fo HF 1 rfl rfl ?_
  refine e_sa HF HM 0 rfl rfl rfl rfl rfl si_bk rfl rfl (by simp [Value.oneCell']) ?_
  clear HM; intro w4_1 HM
  refine fp HF 1 2 [(3, vI 6)] fun a HF => ?_
  refine qb rfl (wp_ret ?_)
  exact ret2 rfl HF (.cellS (i := 0) HF HM rfl rfl si_bk rfl) (.tmp HF rfl) (by have HM := HW.join HM; exact qk8 (b := Bk.zero) (A' := none) (c' := 0) hz rfl (Nat.le_refl _) (Mem.nil (Mem.skip HM) _ _))
 have hd26 := ne_of_beq_false hb26
 have hpl : p ≠ l.length := by omega
 obtain ⟨b, m, er, hq⟩ : ∃ b m er, readB (l.drop p) = (b, m, er) := ⟨_, _, _, rfl⟩
 have hz : nextR l p = (b, m, er) := (if_neg hpl).trans hq
 have hpm := qsb hl hp hz
 refine qe HF rfl (wp_skip ?_)
 refine qa4 (fun aS wS => ∃ (A38 : Option Addr) (c38 : Nat) (g4 : Nat), Fr aS 52 [] [(6, vI er), (5, vI m), (4, vP g4 0), (26, .bool false), (15, .bool false), (3, vI 0), (2, vP g2 0), (0, vP g 0)] ∧ Mem w wS [.blk g4 (b.cells A38 c38) 41, .row (.slice A38 b.evs.length c38) b.evs.length (b.evs.flatMap evL) 45 11, .blk g2 #[vB 0, vB 0, vI 0, vI 0, .slice none 0 0] 41] ∧ (b.evs.length ≤ c38)) ?_ ?_
 ·
  refine qag HM [.blk g2 #[vB 0, vB 0, vI 0, vI 0, .slice none 0 0] 41] [0] [15] fun HM HS => ?_
  refine ap HF (fun _ => HS) [0, 4] #[true, false, false, false, true, false, false, false, false, false, false, false, false, false, false, false, false, false] [(33, vP g 0), (29, vP g 0)] fun a HF => ?_
  refine ay HF HS 1 rfl rfl rfl (v := vP g 0) (Yl.nilCheck rfl rfl) fun a HF => ?_
  refine ap HF (fun _ => HS) [2] #[true, true, true, false, true, false, false, false, false, false, false, false, false, false, false, false, false, false] [(31, vP g 2)] fun a HF => ?_
  refine ay HF HS 3 rfl rfl rfl (v := .slice A l.length c) (Yl.qh rfl rfl (by kernel_rfl) (fun _ h => h.zf hg rfl)) fun a HF => ?_
  refine ay HF HS 5 rfl rfl rfl (v := vP g 0) (Yl.nilCheck rfl rfl) fun a HF => ?_
  refine ap HF (fun _ => HS) [6] #[true, true, true, true, true, true, true, false, false, false, false, false, false, false, false, false, false, false] [(35, vP g 1)] fun a HF => ?_
  refine ay HF HS 7 rfl rfl rfl (v := vI p) (Yl.qh rfl rfl (by kernel_rfl) (fun _ h => h.zf hg rfl)) fun a HF => ?_
  refine ay HF HS 8 rfl rfl rfl (v := .slice (if c = p then A else A.map (·.add (p * 1))) (l.length - p) (c - p)) (Yl.sliceFrom ei_u8 (j := p) rfl rfl rfl (by omega)) fun a HF => ?_
  refine qi [9, 14] (by kernel_rfl) rfl ?_
  refine all_cons ?_ ?_
  ·refine qk HF (i := 9) rfl rfl ?_
   refine e_cl HF [.slice (if c = p then A else A.map (·.add (p * 1))) (l.length - p) (c - p)] rfl rfl (qjd (if c = p then A else A.map (·.add (p * 1))) (l.length - p) (c - p) (l.drop p) B _ (hL.mem HM hB) (HM.le hB) (HM.old (hrA.qnx hp hc)) (by omega) (by rw [List.length_drop]) (by omega) (qa6 hl p) hq) ?_
   rintro _ w38 ⟨⟨A38, c38, rfl, ho, hc38⟩, hbw⟩
   refine ⟨_, rfl, ?_⟩
   replace HM := HM.callRow hbw ho
   clear HF; intro a HF
   refine keepS (HM.picks [1] (by decide) rfl) (fun HS => ?_)
   refine ap HF (fun _ => HS) [10, 11, 12, 13] #[true, true, true, true, true, true, true, true, true, true, true, true, true, true, false, false, false, false] [(41, vI er), (40, vI m), (39, .agg (b.cells A38 c38))] fun a HF => ?_
   refine qi [14] (by kernel_rfl) rfl ?_
   refine all_cons ?_ all_nil
   refine qk HF (i := 14) rfl rfl ?_
   refine qr HF HM (cs := #[vB 0, vB 0, vI 0, vI 0, .slice none 0 0]) rfl (by kernel_rfl) rfl (by decide) ?_
   clear HF HM; intro a w4 g4 HF HM
   refine keepS (HM.picks [2] (by decide) rfl) (fun HS => ?_)
   refine qi [15] (by kernel_rfl) rfl ?_
   refine all_cons ?_ all_nil
   refine qk HF (i := 15) rfl rfl ?_
   refine e_sa HF HM 0 rfl rfl rfl rfl rfl si_bk rfl rfl (qba _ _ _) ?_
   clear HM; intro w5_15 HM
   refine noS (by kernel_rfl) ?_
   refine ap HF (pastS (by kernel_rfl)) [16, 17] #[true, true, true, true, true, true, true, true, true, true, true, true, true, true, true, true, true, true] [(6, vI er), (5, vI m)] fun a HF => ?_
   refine qn (by kernel_rfl) ?_
   exact ⟨A38, c38, g4, HF.sub (by kernel_rfl), HM.picks [0, 1, 2] (by decide) rfl, hc38⟩
  refine all_cons ?_ all_nil
  refine qk HF (i := 14) rfl rfl ?_
  refine qr HF HM (cs := #[vB 0, vB 0, vI 0, vI 0, .slice none 0 0]) rfl (by kernel_rfl) rfl (by decide) ?_
  clear HF HM; intro a w4 g4 HF HM
  refine keepS (HM.picks [1] (by decide) rfl) (fun HS => ?_)
  refine qi [9] (by kernel_rfl) rfl ?_
  refine all_cons ?_ all_nil
  refine qk HF (i := 9) rfl rfl ?_
  refine e_cl HF [.slice (if c = p then A else A.map (·.add (p * 1))) (l.length - p) (c - p)] rfl rfl (qjd (if c = p then A else A.map (·.add (p * 1))) (l.length - p) (c - p) (l.drop p) B _ (hL.mem HM hB) (HM.le hB) (HM.old (hrA.qnx hp hc)) (by omega) (by rw [List.length_drop]) (by omega) (qa6 hl p) hq) ?_
  rintro _ w38 ⟨⟨A38, c38, rfl, ho, hc38⟩, hbw⟩
  refine ⟨_, rfl, ?_⟩
  replace HM := HM.callRow hbw ho
  clear HF; intro a HF
  refine keepS (HM.picks [2] (by decide) rfl) (fun HS => ?_)
  refine ap HF (fun _ => HS) [10, 11, 12, 13] #[true, true, true, true, true, true, true, true, true, true, true, true, true, true, true, false, false, false] [(41, vI er), (40, vI m), (39, .agg (b.cells A38 c38))] fun a HF => ?_
  refine qi [15] (by kernel_rfl) rfl ?_
  refine all_cons ?_ all_nil
  refine qk HF (i := 15) rfl rfl ?_
  refine e_sa HF HM 1 rfl rfl rfl rfl rfl si_bk rfl rfl (qba _ _ _) ?_
  clear HM; intro w5_15 HM
  refine noS (by kernel_rfl) ?_
  refine ap HF (pastS (by kernel_rfl)) [16, 17] #[true, true, true, true, true, true, true, true, true, true, true, true, true, true, true, true, true, true] [(6, vI er), (5, vI m)] fun a HF => ?_
  refine qn (by kernel_rfl) ?_
  exact ⟨A38, c38, g4, HF.sub (by kernel_rfl), HM.picks [1, 0, 2] (by decide) rfl, hc38⟩
 clear HF HM; rintro a w5 ⟨A38, c38, g4, HF, HM, hc38⟩
 skip
 ·
  replace HM : Mem W _ (.blk g4 (b.cells A38 c38) 41 :: .row (.slice A38 b.evs.length c38) b.evs.length (b.evs.flatMap evL) 45 11 :: .blk g2 #[vB 0, vB 0, vI 0, vI 0, .slice none 0 0] 41 :: .blk g #[.bool true, vI p, .slice A l.length c] 108 :: .row (.slice A l.length c) l.length (l.map B8) 5 1 :: fs) := HW.join HM
  refine wp_seq (qa ?_)
  refine fp HF 1 0 [(42, vP g 0)] fun a HF => ?_
  refine fy HF HM 1 rfl rfl rfl (v := vP g 0) (Yl.nilCheck rfl rfl) fun a HF => ?_
  refine fp HF 1 2 [(44, vP g 1)] fun a HF => ?_
  refine fy HF HM 3 rfl rfl rfl (Yl.qh rfl rfl (by kernel_rfl) (fun _ h => h.cell (i := 3) rfl rfl)) fun a HF => ?_
  refine fp HF 2 4 [(47, vI (IntKind.i64.wrap ((p : Int) + (m : Int))))] fun a HF => ?_
  replace HF := HF.sp 47 (vI (p + m : Nat)) rfl (ql (by omega) (by omega))
  refine fy HF HM 6 rfl rfl rfl (v := vP g 0) (Yl.nilCheck rfl rfl) fun a HF => ?_
  refine fp HF 1 7 [(49, vP g 1)] fun a HF => ?_
  refine fo HF 8 rfl rfl ?_
  refine qp HF HM (i := 3) rfl rfl rfl rfl (by kernel_rfl) rfl rfl (by simp) ?_
  clear HM; intro w6_8 HM
  refine qb rfl (wp_seq (qa ?_))
  refine fy HF HM 0 rfl rfl rfl (v := .agg (b.cells A38 c38)) (Yl.zh rfl rfl si_bk rfl (fun _ h => qd (h.blk (i := 0) rfl))) fun a HF => ?_
  refine fp HF 1 1 [(51, vI er)] fun a HF => ?_
  refine fo HF 2 rfl rfl ?_
  refine e_sa HF HM 2 rfl rfl rfl rfl rfl si_bk rfl rfl (qba _ _ _) ?_
  clear HM; intro w7_2 HM
  refine fp HF 1 3 [(3, vI er)] fun a HF => ?_
  refine qb rfl (wp_ret ?_)
  exact ret2 rfl HF (.cellS (i := 2) HF HM rfl rfl si_bk rfl) (.tmp HF rfl) (qk8 hz rfl hc38 (HM.picksT 5 [1, 3, 4] (by decide) (by decide) rfl))
theorem quz (lim : Int) (w : World) (h : 1 ≤ lim ∧ lim ≤ 4096) : Calls Tryd.prog 14 #[.int .i64 lim] w fun r w' => ∃ g, r = .returned (.tuple #[.pointer (some ⟨g, 0, none⟩), .int .i64 0]) ∧ Mem w w' [.blk g #[.int .i64 lim, .slice none 0 0] 95] :=
 (qsq lim (by unfold I64; omega) w).mono fun r w' h1 => by
  rcases h1 with ⟨h2, _⟩ | ⟨_, h2⟩
  ·omega
  ·exact h2
theorem qns (W w : World) (g : Nat) (lim : Int) (A : Option Addr) (c : Nat) (out : List Nat) (fs : List Fact) (HW : Mem W w (.blk g #[.int .i64 lim, .slice A out.length c] 95 :: .row (.slice A out.length c) out.length (out.map B8) 5 1 :: fs)) (hc : out.length ≤ c) (hout : out.length ≤ 524288) (hlim : lim ≠ 0) (next : Int) (hnx : I64 next) (B : Nat) (hL : LaidX B w) (hBW : B ≤ W.heap.size) {o2 : List Nat} {we : Nat} (h : qbb out [endB next] = (o2, we)) :
  Calls Tryd.prog 15 #[.pointer (some ⟨g, 0, none⟩), .int .i64 next] w (WrIs W 95 g lim o2 fs (.int .i64 (we : Int))) := by
 have h1 := qsr W w g lim A c out fs HW hc hout hlim next hnx B hL hBW
 rw [h] at h1
 exact h1
theorem qu0 (g : Nat) (lim : Int) (A : Option Addr) (c : Nat) (out : List Nat) (w : World) (hg : w.heap[g]? = some (.cells #[.int .i64 lim, .slice A out.length c] 95 (0, 0))) (hlim : lim ≠ 0) {n : Nat} (h : out.length = n) :
  Calls Tryd.prog 18 #[.pointer (some ⟨g, 0, none⟩)] w (Is w (.int .i64 (n : Int))) := by
 have h1 := qss g lim A c out w hg hlim
 rw [h] at h1
 exact h1
theorem qfb (W w : World) (g p : Nat) (A : Option Addr) (c : Nat) (l : List Nat) (fs : List Fact) (HW : Mem W w (.blk g #[.bool true, .int .i64 (p : Int), .slice A l.length c] 108 :: .row (.slice A l.length c) l.length (l.map B8) 5 1 :: fs)) (hp : p ≤ l.length) (hc : l.length ≤ c) (hl : ∀ b ∈ l, b < 256) (hn : l.length ≤ 100000000) (B : Nat) (hL : LaidX B w) (hBW : B ≤ W.heap.size) {b : Bk} {m er : Nat} (h : nextR l p = (b, m, er)) {p2 : Nat} (h2 : p + m = p2 := by rfl) :
  Calls Tryd.prog 26 #[.pointer (some ⟨g, 0, none⟩)] w fun r w' => ∃ A' c', r = .returned (.tuple #[.agg (b.cells A' c'), .int .i64 (er : Int)]) ∧ b.evs.length ≤ c' ∧ Mem W w' (.row (.slice A' b.evs.length c') b.evs.length (b.evs.flatMap evL) 45 11 :: .blk g #[.bool true, .int .i64 ((p2 : Nat) : Int), .slice A l.length c] 108 :: .row (.slice A l.length c) l.length (l.map B8) 5 1 :: fs) := by
 have h1 := qpc W w g p A c l fs HW hp hc hl hn B hL hBW
 subst h2
 rw [h] at h1
 exact h1
theorem qst (A : Option Addr) (n c : Nat) (l : List Nat) (B : Nat) (w : World) (hL : LaidX B w) (hB : B ≤ w.heap.size) (hr : Rd w w.heap.size 1 A n (l.map B8)) (hc : n ≤ c) (hl : ∀ b ∈ l, b < 256) (hln : l.length = n) (hn : n ≤ 100000000) {bs : List Bk} {p er : Nat} (h : qa7 l = (bs, p, er)) :
  Calls Tryd.prog 22 #[.slice A n c] w (Is w (.tuple #[.int .i64 (bs.length : Int), .int .i64 (p : Int), .int .i64 (er : Int)])) := by
 subst hln
 have h1 := qww A c l B w hL hB hr hc hl hn
 rw [h] at h1
 exact h1
theorem qfc (w : World) : Calls Tryd.prog 32 #[] w fun r w' => ∃ g, r = .returned (.slice (some ⟨g, 0, none⟩) 2 2) ∧ w'.ownsRow w.heap.size 47 12 (.slice (some ⟨g, 0, none⟩) 2 2) 2 (exI.flatMap itL) ∧ Below w.heap.size w w' := by
 refine qg (vs := []) Tryd.func32 rfl rfl (by kernel_rfl) (σ0 := []) rfl ?_
 intro a HF
 have HM := Mem.start w
 refine wp_seq (qa ?_)
 refine fp HF 1 0 [(0, .slice none 0 0)] fun a HF => ?_
 refine qb rfl (wp_seq (qa ?_))
 refine fy HF HM 0 rfl rfl rfl (v := .agg #[vI 5, vI 340, vB 2, vB 5, vI 0, vI 0, vI 0, vI 0, vI 40, vQ 0, vI 7]) (Yl.build (vs := [(0, vI 5), (1, vI 340), (2, vB 2), (3, vB 5), (8, vI 40), (10, vI 7)]) rfl (by kernel_rfl) (by kernel_rfl)) fun a HF => ?_
 refine fy HF HM 1 rfl rfl rfl (v := .agg #[vI 5, vI 340, vB 2, vB 5, vI 0, vI 0, vI 0, vI 0, vI 40, vQ 0, vI 7, vI 3]) (Yl.build (vs := [(0, .agg #[vI 5, vI 340, vB 2, vB 5, vI 0, vI 0, vI 0, vI 0, vI 40, vQ 0, vI 7]), (1, vI 3)]) rfl (by kernel_rfl) (by kernel_rfl)) fun a HF => ?_
 refine fy HF HM 2 rfl rfl rfl (v := .agg #[vI 9, vI 340, vB 2, vB 6, vI 0, vI 0, vI 0, vI 0, vI 0, vQ 0, vI 0]) (Yl.build (vs := [(0, vI 9), (1, vI 340), (2, vB 2), (3, vB 6)]) rfl (by kernel_rfl) (by kernel_rfl)) fun a HF => ?_
 refine fy HF HM 3 rfl rfl rfl (v := .agg #[vI 9, vI 340, vB 2, vB 6, vI 0, vI 0, vI 0, vI 0, vI 0, vQ 0, vI 0, vI 0]) (Yl.build (vs := [(0, .agg #[vI 9, vI 340, vB 2, vB 6, vI 0, vI 0, vI 0, vI 0, vI 0, vQ 0, vI 0])]) rfl (by kernel_rfl) (by kernel_rfl)) fun a HF => ?_
 refine fo HF 4 rfl rfl ?_
 refine qap HF HM (vs := [(0, .agg #[vI 5, vI 340, vB 2, vB 5, vI 0, vI 0, vI 0, vI 0, vI 40, vQ 0, vI 7, vI 3]), (1, .agg #[vI 9, vI 340, vB 2, vB 6, vI 0, vI 0, vI 0, vI 0, vI 0, vQ 0, vI 0, vI 0])]) (cs := #[vI 5, vI 340, vB 2, vB 5, vI 0, vI 0, vI 0, vI 0, vI 40, vQ 0, vI 7, vI 3, vI 9, vI 340, vB 2, vB 6, vI 0, vI 0, vI 0, vI 0, vI 0, vQ 0, vI 0, vI 0]) rfl ei_it (by decide) rfl (by kernel_rfl) rfl (by decide) ?_
 clear HF HM; intro a w5 g5 HF HM
 refine fp HF 1 5 [(0, vS g5 2 2)] fun a HF => ?_
 refine qb rfl (wp_ret ?_)
 exact ret1 rfl HF (.tmp HF rfl) (⟨g5, rfl, (HM.blkRow (i := 0) (n := 2) (size := 12) rfl rfl (by decide)).own (i := 0) rfl, HM.below⟩)
theorem qpd (B : Nat) (w : World) (hL : LaidX B w) (hB : B ≤ w.heap.size) : Calls Tryd.prog 10 #[] w (Is w (.bool true)) := by
 refine qg (vs := []) Tryd.func10 rfl rfl (by kernel_rfl) (σ0 := []) rfl ?_
 intro a HF
 have HM := Mem.start w
 refine wp_seq (qa ?_)
 refine fp HF 1 0 [(0, .bool false)] fun a HF => ?_
 refine qb rfl (wp_seq (qa ?_))
 refine fo HF 0 rfl rfl ?_
 refine e_cl HF [] rfl rfl (qfc _) ?_
 rintro _ w20 ⟨g20, rfl, ho, hbw⟩
 refine ⟨_, rfl, ?_⟩
 replace HM := HM.callRow hbw ho
 clear HF; intro a HF
 refine fo HF 1 rfl rfl ?_
 refine e_cl HF [vB 2, vS g20 2 2, vI 2, vI 1] rfl rfl (qgk 2 (by decide) (some ⟨g20, 0, none⟩) 2 2 exI 2 1 qvt (by unfold I64; decide) (by unfold I64; decide) B _ (hL.mem HM hB) (HM.le hB) (HM.rd (i := 0) rfl) (by decide) rfl (by decide) sa1) ?_
 rintro _ w21 ⟨A21, c21, q21, rfl, hq21, hc21, hm⟩
 obtain ⟨x1, x2, rfl, hex1, hex2⟩ := map2 hq21
 refine ⟨_, rfl, ?_⟩
 replace HM := HM.callRow hm.below (hm.own (i := 0) rfl)
 clear HF; intro a HF
 refine fp HF 5 2 [(2, vI 0), (1, .slice A21 2 c21)] fun a HF => ?_
 refine qb rfl (wp_seq (qa ?_))
 refine fo HF 0 rfl rfl ?_
 refine e_cl HF [] rfl rfl (qfc _) ?_
 rintro _ w25 ⟨g25, rfl, ho, hbw⟩
 refine ⟨_, rfl, ?_⟩
 replace HM := HM.callRow hbw ho
 clear HF; intro a HF
 refine fo HF 1 rfl rfl ?_
 refine e_cl HF [vB 2, vS g25 2 2, vI 2, vI 2] rfl rfl (qgk 2 (by decide) (some ⟨g25, 0, none⟩) 2 2 exI 2 2 qvt (by unfold I64; decide) (by unfold I64; decide) B _ (hL.mem HM hB) (HM.le hB) (HM.rd (i := 0) rfl) (by decide) rfl (by decide) sa2) ?_
 rintro _ w26 ⟨A26, c26, q26, rfl, hq26, hc26, hm⟩
 obtain ⟨x3, rfl, hex3⟩ := map1 hq26
 refine ⟨_, rfl, ?_⟩
 replace HM := HM.callRow hm.below (hm.own (i := 0) rfl)
 clear HF; intro a HF
 refine fp HF 5 2 [(4, vI 0), (3, .slice A26 1 c26)] fun a HF => ?_
 refine qb rfl (wp_seq (qa ?_))
 refine fo HF 0 rfl rfl ?_
 refine e_cl HF [vB 2, .slice none 0 0, vI 0, vI 1] rfl rfl (qgk 2 (by decide) none 0 0 [] 0 1 (by intro x hx; cases hx) (by unfold I64; decide) (by unfold I64; decide) B _ (hL.mem HM hB) (HM.le hB) (Rd.nil) (by decide) rfl (by decide) sa3) ?_
 rintro _ w30 ⟨A30, c30, q30, rfl, hq30, hc30, hm⟩
 obtain rfl := List.map_eq_nil_iff.1 hq30
 refine ⟨_, rfl, ?_⟩
 replace HM := HM.callRow hm.below (hm.own (i := 0) rfl)
 clear HF; intro a HF
 refine fp HF 5 1 [(6, vI 0), (5, .slice A30 0 c30)] fun a HF => ?_
 refine qb rfl (wp_seq (qa ?_))
 refine fo HF 0 rfl rfl ?_
 refine e_cl HF [vB 2, .slice none 0 0, vI 2, vI 1] rfl rfl (qgk 2 (by decide) none 0 0 [] 2 1 (by intro x hx; cases hx) (by unfold I64; decide) (by unfold I64; decide) B _ (hL.mem HM hB) (HM.le hB) (Rd.nil) (by decide) rfl (by decide) sa4) ?_
 rintro _ w34 ⟨A34, c34, q34, rfl, hq34, hc34, hm⟩
 obtain ⟨x4, rfl, hex4⟩ := map1 hq34
 refine ⟨_, rfl, ?_⟩
 replace HM := HM.callRow hm.below (hm.own (i := 0) rfl)
 clear HF; intro a HF
 refine fp HF 5 1 [(8, vI 0), (7, .slice A34 1 c34)] fun a HF => ?_
 refine qb rfl (wp_seq (wp_seq (qa ?_)))
 refine fp HF 10 0 [(46, .slice A21 2 c21), (45, .bool false)] fun a HF => ?_
 refine fy HF HM 10 rfl rfl rfl (Yl.len rfl rfl (by kernel_rfl)) fun a HF => ?_
 refine fp HF 4 11 [(51, .slice A21 2 c21), (50, .bool false)] fun a HF => ?_
 obtain ⟨gA21, rfl⟩ := qb6 (HM.own (i := 4) rfl) (Nat.lt_of_le_of_lt (Nat.zero_le _) (show 0 < 2 from by decide))
 refine fy HF HM 15 rfl rfl rfl (v := vP gA21 0) (Yl.indexAddr (ad := ⟨gA21, 0, none⟩) (y := 0) (sz := 5) rfl rfl rfl (by decide) (by kernel_rfl)) fun a HF => ?_
 refine fp HF 1 16 [(53, vP gA21 2)] fun a HF => ?_
 refine fy HF HM 17 rfl rfl rfl (v := vI x1.b.lost) (Yl.qh rfl rfl (by kernel_rfl) (fun _ h => h.qem qei (i := 4) rfl (k := 0) (off := 2) (x := x1) (rfl) rfl)) fun a HF => ?_
 replace HF := HF.sp 54 (vI 3) rfl (by rw [hex1])
 refine fp HF 4 18 [(58, vS gA21 2 c21), (57, .bool false)] fun a HF => ?_
 refine fy HF HM 22 rfl rfl rfl (v := vP gA21 5) (Yl.indexAddr (ad := ⟨gA21, 0, none⟩) (y := 1) (sz := 5) rfl rfl rfl (by decide) (by kernel_rfl)) fun a HF => ?_
 refine fp HF 1 23 [(60, vP gA21 7)] fun a HF => ?_
 refine fy HF HM 24 rfl rfl rfl (v := vI x2.b.lost) (Yl.qh rfl rfl (by kernel_rfl) (fun _ h => h.qem qei (i := 4) rfl (k := 1) (off := 2) (x := x2) (rfl) rfl)) fun a HF => ?_
 replace HF := HF.sp 61 (vI 2) rfl (by rw [hex2])
 refine fp HF 4 25 [(65, .slice A26 1 c26), (64, .bool false)] fun a HF => ?_
 refine fy HF HM 29 rfl rfl rfl (Yl.len rfl rfl (by kernel_rfl)) fun a HF => ?_
 refine fp HF 4 30 [(70, .slice A26 1 c26), (69, .bool false)] fun a HF => ?_
 obtain ⟨gA26, rfl⟩ := qb6 (HM.own (i := 2) rfl) (Nat.lt_of_le_of_lt (Nat.zero_le _) (show 0 < 1 from by decide))
 refine fy HF HM 34 rfl rfl rfl (v := vP gA26 0) (Yl.indexAddr (ad := ⟨gA26, 0, none⟩) (y := 0) (sz := 5) rfl rfl rfl (by decide) (by kernel_rfl)) fun a HF => ?_
 refine fp HF 1 35 [(72, vP gA26 2)] fun a HF => ?_
 refine fy HF HM 36 rfl rfl rfl (v := vI x3.b.lost) (Yl.qh rfl rfl (by kernel_rfl) (fun _ h => h.qem qei (i := 2) rfl (k := 0) (off := 2) (x := x3) (rfl) rfl)) fun a HF => ?_
 replace HF := HF.sp 73 (vI 5) rfl (by rw [hex3])
 refine fp HF 4 37 [(77, vS gA26 1 c26), (76, .bool false)] fun a HF => ?_
 refine fy HF HM 41 rfl rfl rfl (v := vP gA26 0) (Yl.indexAddr (ad := ⟨gA26, 0, none⟩) (y := 0) (sz := 5) rfl rfl rfl (by decide) (by kernel_rfl)) fun a HF => ?_
 refine fp HF 1 42 [(79, vP gA26 4)] fun a HF => ?_
 refine fy HF HM 43 rfl rfl rfl (v := .slice x3.A x3.b.evs.length x3.c) (Yl.qh rfl rfl (by kernel_rfl) (fun _ h => h.qem qei (i := 2) rfl (k := 0) (off := 4) (x := x3) (rfl) rfl)) fun a HF => ?_
 replace HF := HF.sp 80 (.slice x3.A 2 x3.c) rfl (by rw [hex3]; rfl)
 refine fy HF HM 44 rfl rfl rfl (Yl.len rfl rfl (by kernel_rfl)) fun a HF => ?_
 refine fp HF 4 45 [(85, .slice A30 0 c30), (84, .bool false)] fun a HF => ?_
 refine fy HF HM 49 rfl rfl rfl (Yl.len rfl rfl (by kernel_rfl)) fun a HF => ?_
 refine fp HF 4 50 [(90, .slice A34 1 c34), (89, .bool false)] fun a HF => ?_
 refine fy HF HM 54 rfl rfl rfl (Yl.len rfl rfl (by kernel_rfl)) fun a HF => ?_
 refine fp HF 4 55 [(95, .slice A34 1 c34), (94, .bool false)] fun a HF => ?_
 obtain ⟨gA34, rfl⟩ := qb6 (HM.own (i := 0) rfl) (Nat.lt_of_le_of_lt (Nat.zero_le _) (show 0 < 1 from by decide))
 refine fy HF HM 59 rfl rfl rfl (v := vP gA34 0) (Yl.indexAddr (ad := ⟨gA34, 0, none⟩) (y := 0) (sz := 5) rfl rfl rfl (by decide) (by kernel_rfl)) fun a HF => ?_
 refine fp HF 1 60 [(97, vP gA34 2)] fun a HF => ?_
 refine fy HF HM 61 rfl rfl rfl (v := vI x4.b.lost) (Yl.qh rfl rfl (by kernel_rfl) (fun _ h => h.qem qei (i := 0) rfl (k := 0) (off := 2) (x := x4) (rfl) rfl)) fun a HF => ?_
 replace HF := HF.sp 98 (vI 2) rfl (by rw [hex4])
 refine fp HF 2 62 [(100, .bool false)] fun a HF => ?_
 refine qb rfl ?_
 replace HF := HF.to [(100, .bool false), (0, .bool false)]
 refine qe HF rfl (wp_skip (wp_seq (qa ?_)))
 refine fo HF 0 rfl rfl ?_
 refine e_cl HF [vI 9] rfl rfl (quz 9 _ (by decide)) ?_
 rintro _ w102 ⟨gw102, rfl, hm⟩
 refine ⟨_, rfl, ?_⟩
 replace HM := (HM.join hm).nil 5 1
 clear HF; intro a HF
 refine fp HF 5 1 [(10, vI 0), (9, vP gw102 0)] fun a HF => ?_
 refine qb rfl (wp_seq (wp_seq (qa ?_)))
 refine fp HF 4 0 [(108, vP gw102 0), (107, .bool false)] fun a HF => ?_
 refine fy HF HM 4 rfl rfl rfl (v := .bool false) (Yl.qnz rfl rfl rfl) fun a HF => ?_
 refine fp HF 3 5 [(112, vP gw102 0), (111, .bool false)] fun a HF => ?_
 refine fo HF 8 rfl rfl ?_
 refine e_cl HF [vP gw102 0, vI 0] rfl rfl (qns (o2 := []) (we := 107) _ _ gw102 9 none 0 [] _ (HM.picks [1, 0, 2, 3, 4, 5, 6, 7] (by decide) rfl) (by first | exact Nat.le_refl _ | omega | exact Nat.zero_le _) (by first | decide | omega) (by decide) 0 (by unfold I64; decide) B (hL.mem HM hB) hB sa5) ?_
 rintro _ w113 ⟨rfl, A113, c113, hc113, HM2⟩
 refine ⟨_, rfl, ?_⟩
 replace HM := HM2
 clear HF; intro a HF
 refine fp HF 4 9 [(117, vP gw102 0), (116, .bool false)] fun a HF => ?_
 refine fo HF 13 rfl rfl ?_
 refine e_cl HF [vP gw102 0, vI 7] rfl rfl (qns (o2 := awX) (we := 0) _ _ gw102 9 A113 c113 [] _ (HM.picks [0, 1, 2, 3, 4, 5, 6, 7] (by decide) rfl) (by first | exact Nat.le_refl _ | omega | exact Nat.zero_le _) (by first | decide | omega) (by decide) 7 (by unfold I64; decide) B (hL.mem HM hB) hB sa6) ?_
 rintro _ w118 ⟨rfl, A118, c118, hc118, HM2⟩
 refine ⟨_, rfl, ?_⟩
 replace HM := HM2
 clear HF; intro a HF
 refine fp HF 4 14 [(122, vP gw102 0), (121, .bool false)] fun a HF => ?_
 refine fo HF 18 rfl rfl ?_
 refine e_cl HF [vP gw102 0] rfl rfl (qu0 gw102 9 A118 c118 awX _ (HM.blk (i := 0) rfl) (by decide) rfl) ?_
 rintro _ w123 ⟨rfl, hbw⟩
 refine ⟨_, rfl, ?_⟩
 replace HM := HM.call hbw
 clear HF; intro a HF
 refine fp HF 2 19 [(125, .bool false)] fun a HF => ?_
 refine qb rfl (qe HF rfl (wp_skip (wp_seq (qa ?_))))
 refine fp HF 1 0 [(127, vP gw102 0)] fun a HF => ?_
 refine fo HF 1 rfl rfl ?_
 refine e_cl HF [vP gw102 0] rfl rfl (qhk gw102 9 A118 c118 awX _ (HM.blk (i := 0) rfl) (HM.rd (i := 1) rfl) (by first | decide | omega) (by decide)) ?_
 rintro _ w128 ⟨⟨A128, c128, rfl, ho, hc128⟩, hbw⟩
 refine ⟨_, rfl, ?_⟩
 replace HM := HM.callRow hbw ho
 clear HF; intro a HF
 refine fo HF 2 rfl rfl ?_
 refine qap HF HM (vs := [(0, vB 1)]) (cs := #[vB 1]) rfl ei_u8 (by decide) rfl (by kernel_rfl) rfl (by decide) ?_
 clear HF HM; intro a w129 g129 HF HM
 refine fo HF 3 rfl rfl ?_
 refine zq HF HM (i := 1) rfl ei_u8 rfl rfl rfl (news := ([1].map B8)) (HM.rdBlk (i := 0) (n := 1) (size := 1) rfl rfl) (qd5 _) (by decide) (by decide) rfl (by decide) ?_
 clear HF HM; intro a w130 A130 c130 HF HM hc130
 rw [show (awX.map B8) ++ ([1].map B8) = (awX ++ [1]).map B8 from by rw [List.map_append]] at HM
 refine fo HF 4 rfl rfl ?_
 refine e_is HF HM [.slice A130 14 c130] (.tuple #[vI 1, vI 13, vI 100]) rfl rfl (qst A130 14 c130 (awX ++ [1]) B _ (hL.mem HM hB) (HM.le hB) (HM.rd (i := 1) rfl) hc130 qwy rfl (by decide) sa7) fun w131 hbw HM a HF => ?_
 refine fp HF 7 5 [(13, vI 100), (12, vI 13), (11, vI 1)] fun a HF => ?_
 refine qb rfl (wp_seq (qa ?_))
 refine fp HF 1 0 [(135, vP gw102 0)] fun a HF => ?_
 refine fo HF 1 rfl rfl ?_
 refine e_cl HF [vP gw102 0] rfl rfl (qhk gw102 9 A118 c118 awX _ (HM.blk (i := 2) rfl) (HM.rd (i := 3) rfl) (by first | decide | omega) (by decide)) ?_
 rintro _ w136 ⟨⟨A136, c136, rfl, ho, hc136⟩, hbw⟩
 refine ⟨_, rfl, ?_⟩
 replace HM := HM.callRow hbw ho
 clear HF; intro a HF
 refine fo HF 2 rfl rfl ?_
 refine e_cl HF [.slice A136 awX.length c136] rfl rfl (qir A136 c136 awX _ (HM.rd (i := 0) rfl) (by decide)) ?_
 rintro _ w137 ⟨g137, A137, c137, rfl, hc137, hm⟩
 refine ⟨_, rfl, ?_⟩
 replace HM := HM.join hm
 clear HF; intro a HF
 refine fp HF 1 3 [(14, vP g137 0)] fun a HF => ?_
 refine qb rfl (wp_seq (qa ?_))
 refine fp HF 1 0 [(139, vP g137 0)] fun a HF => ?_
 refine fo HF 1 rfl rfl ?_
 refine e_cl HF [vP g137 0] rfl rfl (qfb _ _ g137 0 A137 c137 awX _ (HM.picks [0, 1, 2, 3, 4, 5, 6, 7, 8, 9, 10, 11, 12] (by decide) rfl) (by decide) (by first | exact Nat.le_refl _ | omega | exact Nat.zero_le _) qvl (by decide) B (hL.mem HM hB) hB (sa8) (p2 := 13) (rfl)) ?_
 rintro _ w140 ⟨A140, c140, rfl, hc140, HM2⟩
 refine ⟨_, rfl, ?_⟩
 replace HM := HM2
 clear HF; intro a HF
 refine fp HF 3 2 [(142, vI 0), (141, .agg #[vB 2, vB 0, vI 0, vI 7, .slice A140 0 c140])] fun a HF => ?_
 refine fo HF 5 rfl rfl ?_
 refine qr HF HM (cs := #[vB 0, vB 0, vI 0, vI 0, .slice none 0 0]) rfl (by kernel_rfl) rfl (by decide) ?_
 clear HF HM; intro a w15 g15 HF HM
 refine fo HF 6 rfl rfl ?_
 refine e_sa HF HM 0 rfl rfl rfl rfl rfl si_bk rfl rfl (by simp [Value.oneCell']) ?_
 clear HM; intro w12_6 HM
 refine fp HF 1 7 [(16, vI 0)] fun a HF => ?_
 refine qb rfl (wp_seq (qa ?_))
 refine fp HF 1 0 [(144, vP g137 0)] fun a HF => ?_
 refine fo HF 1 rfl rfl ?_
 refine e_cl HF [vP g137 0] rfl rfl (qfb _ _ g137 13 A137 c137 awX _ (HM.picks [2, 3, 0, 1, 4, 5, 6, 7, 8, 9, 10, 11, 12, 13, 14] (by decide) rfl) (by decide) (by first | exact Nat.le_refl _ | omega | exact Nat.zero_le _) qvl (by decide) B (hL.mem HM hB) hB (sa9) (p2 := 13) (rfl)) ?_
 rintro _ w145 ⟨A145, c145, rfl, hc145, HM2⟩
 refine ⟨_, rfl, ?_⟩
 replace HM := HM2
 clear HF; intro a HF
 refine fp HF 3 2 [(147, vI 6), (146, .agg #[vB 0, vB 0, vI 0, vI 0, .slice A145 0 c145])] fun a HF => ?_
 refine fo HF 5 rfl rfl ?_
 refine qr HF HM (cs := #[vB 0, vB 0, vI 0, vI 0, .slice none 0 0]) rfl (by kernel_rfl) rfl (by decide) ?_
 clear HF HM; intro a w17 g17 HF HM
 refine fo HF 6 rfl rfl ?_
 refine e_sa HF HM 0 rfl rfl rfl rfl rfl si_bk rfl rfl (by simp [Value.oneCell']) ?_
 clear HM; intro w13_6 HM
 refine fp HF 1 7 [(18, vI 6)] fun a HF => ?_
 refine qb rfl (wp_seq (qa ?_))
 refine fp HF 16 0 [(163, vP g15 3), (162, .bool true)] fun a HF => ?_
 refine fy HF HM 16 rfl rfl rfl (Yl.qh rfl rfl (by kernel_rfl) (fun _ h => h.cell (i := 4) rfl rfl)) fun a HF => ?_
 refine fp HF 8 17 [(172, vP g137 0), (171, .bool true)] fun a HF => ?_
 refine fo HF 25 rfl rfl ?_
 refine e_is HF HM [vP g137 0] (vI 13) rfl rfl (qge g137 13 A137 c137 awX _ (HM.blk (i := 2) rfl)) fun w173 hbw HM a HF => ?_
 refine fp HF 3 26 [(0, .bool true)] fun a HF => ?_
 refine qb rfl ?_
 replace HF := HF.to [(0, .bool true), (15, vP g15 0), (14, vP g137 0), (125, .bool false), (9, vP gw102 0), (100, .bool false)]
 refine wp_ret ?_
 exact ret1 rfl HF (.tmp HF rfl) (⟨rfl, HM.below⟩)
theorem qpi (A : Option Addr) (n c : Nat) (l : List Nat) (BB : Nat) (w : World) (hL : LaidX BB w) (hB : BB ≤ w.heap.size) (hr : Rd w w.heap.size 1 A n (l.map B8)) (hc : n ≤ c) (hl : ∀ b ∈ l, b < 256) (hln : l.length = n) (hn : n ≤ 100000000) {bs : List Bk} {er : Nat} (h : readAll l = (bs, er)) :
  Calls Tryd.prog 21 #[.slice A n c] w (qga 45 41 w er bs) := by
 subst hln
 have h1 := qmm A c l BB w hL hB hr hc hl hn
 rw [h] at h1
 exact h1
theorem reads_nil : qa7 [] = ([], 0, 0) := rfl
theorem qu1 {l : List Sbm} {m i : Nat} (hm : m ≤ l.length) (h : i < m) : (qco (l.take m)).getD i Bk.zero = (l.getD i Sbm.zero).x.made := by
 unfold qco
 rw [List.getD_eq_getElem?_getD, List.getElem?_map, List.getElem?_take, if_pos h, List.getD_eq_getElem?_getD, List.getElem?_eq_getElem (by omega)]
 rfl
theorem qu2 (bs : List Bk) (j k : Nat) (h : j ≤ k) : (outsL (bs.take j)).length ≤ (outsL (bs.take k)).length := by
 have e : bs.take k = bs.take j ++ (bs.take k).drop j := by
  have h1 := List.take_append_drop j (bs.take k)
  rw [List.take_take, Nat.min_eq_left h] at h1
  exact h1.symm
 rw [e, qk4, List.length_append]
 omega
theorem qhm (A : Option Addr) (c : Nat) (l : List Sbm) (wh bt : Nat) (hwh : wh < 256) (hbt : bt < 65536) (B : Nat) (w : World) (hL : LaidX B w) (hB : B ≤ w.heap.size) (hr : Rd w w.heap.size 6 A l.length (l.flatMap sbmL)) (hc : l.length ≤ c) (hi : ∀ x ∈ l, SbmIn w x) (hn : l.length ≤ 9223372036854775807) :
    Calls Tryd.prog 7 #[.slice A l.length c, .int .u8 (wh : Int), .int .u16 (bt : Int)] w (Is w (.bool true)) := by
 refine qg (vs := [.slice A l.length c, vB wh, .int .u16 bt]) Tryd.func7 rfl rfl (by kernel_rfl) (σ0 := [(0, .slice A l.length c), (1, vB wh), (2, .int .u16 bt)]) rfl ?_
 intro a HF
 have HM := Mem.start w
 refine wp_seq (qa ?_)
 refine fp HF 1 0 [(6, .bool false)] fun a HF => ?_
 refine qb rfl ?_
 obtain ⟨m, hm⟩ : ∃ m, m = min l.length 6 := ⟨_, rfl⟩
 obtain ⟨bs, hbs⟩ : ∃ z, z = qco (l.take m) := ⟨_, rfl⟩
 have hg : ∀ x ∈ bs, x.Ok ∧ x.err = 0 := by rw [hbs]; exact qo8 (qno hi m)
 have hge : ∀ x ∈ bs, x.evs.length ≤ 1000000 := by rw [hbs]; exact qsk (qno hi m)
 have hbl : bs.length = m := by rw [hbs, qsl, List.length_take]; omega
 refine wp_seq (wp_seq (qa ?_))
 refine fo HF 0 rfl rfl ?_
 refine e_is HF HM [] (.bool true) rfl rfl (qpd B _ (hL.mem HM hB) (HM.le hB)) fun w31 hbw HM a HF => ?_
 refine fp HF 1 1 [(32, .bool false)] fun a HF => ?_
 refine qb rfl (qe HF rfl (wp_skip (wp_seq (qa ?_))))
 refine fp HF 2 0 [(34, .slice A l.length c), (33, .slice A l.length c)] fun a HF => ?_
 refine fy HF HM 2 rfl rfl rfl (Yl.len rfl rfl (by kernel_rfl)) fun a HF => ?_
 refine fy HF HM 3 rfl rfl rfl (v := vI (if (6 : Int) < (l.length : Int) then 6 else (l.length : Int))) (Yl.min rfl rfl rfl) fun a HF => ?_
 replace HF := HF.sp 36 (vI m) rfl (by rw [hm]; congr 1; split <;> omega)
 refine fy HF HM 4 rfl rfl rfl (v := .slice A m c) (Yl.qa8 qx4 (j := m) rfl rfl rfl (by omega)) fun a HF => ?_
 refine fp HF 1 5 [(0, .slice A m c)] fun a HF => ?_
 refine qb rfl (wp_seq (wp_seq (qa ?_)))
 refine fp HF 1 0 [(38, .slice A m c)] fun a HF => ?_
 refine fy HF HM 1 rfl rfl rfl (Yl.len rfl rfl (by kernel_rfl)) fun a HF => ?_
 refine fp HF 1 2 [(40, .bool ((m : Int) == (0 : Int)))] fun a HF => ?_
 refine qb rfl ?_
 rcases HF.tf 40 rfl with ⟨hb40, HF⟩ | ⟨hb40, HF⟩
 ·
  have hd40 := eq_of_beq hb40
  refine qf HF rfl (wp_seq (qa ?_))
  refine fo HF 0 rfl rfl ?_
  refine e_is HF HM [.slice none 0 0] (.tuple #[vI 0, vI 0, vI 0]) rfl rfl (qst (bs := []) (p := 0) (er := 0) none 0 0 [] B _ (hL.mem HM hB) (HM.le hB) Rd.nil (Nat.le_refl _) (by intro x hx; cases hx) rfl (by decide) reads_nil) fun w42 hbw HM a HF => ?_
  refine fp HF 7 1 [(9, vI 0), (8, vI 0), (7, vI 0)] fun a HF => ?_
  refine qb rfl (wp_seq (qa ?_))
  refine fp HF 11 0 [(6, .bool true)] fun a HF => ?_
  refine qb rfl (wp_ret ?_)
  exact ret1 rfl HF (.tmp HF rfl) (⟨rfl, HM.below⟩)
 have hd40 := ne_of_beq_false hb40
 have hm0 : 0 < m := by omega
 refine qe HF rfl (wp_skip (wp_seq (qa ?_)))
 refine fp HF 2 0 [(57, vI (IntKind.i64.wrap (wh : Int)))] fun a HF => ?_
 replace HF := HF.sp 57 (vI wh) rfl (ql rfl (by omega))
 refine fp HF 1 2 [(58, .slice A m c)] fun a HF => ?_
 refine fy HF HM 3 rfl rfl rfl (Yl.len rfl rfl (by kernel_rfl)) fun a HF => ?_
 refine fy HF HM 4 rfl rfl rfl (v := vI (wh % m : Nat)) (Yl.remN (m := wh) (n := m) rfl rfl rfl (by omega)) fun a HF => ?_
 refine fp HF 1 5 [(10, vI (wh % m : Nat))] fun a HF => ?_
 refine qb rfl ?_
 obtain ⟨kk, hkk⟩ : ∃ z, z = wh % m := ⟨_, rfl⟩
 have hkm : kk < m := by rw [hkk]; exact Nat.mod_lt _ hm0
 replace HF := HF.as (t := 10) (u := .int .i64 (kk : Int)) rfl (by rw [hkk])
 obtain ⟨pp, hpp⟩ : ∃ z, z = (32 + bt % (8 * (bs.getD kk Bk.zero).out.length - 32)) := ⟨_, rfl⟩
 have hko := hg _ (zt Bk.zero (show kk < bs.length by omega))
 have hk13 := qf0 hko.2
 have hk40 := qfu (bs.getD kk Bk.zero)
 have hp32 : 32 ≤ pp := by rw [hpp]; omega
 have hp8 : pp < 8 * (bs.getD kk Bk.zero).out.length := by rw [hpp]; have := Nat.mod_lt bt (show 0 < 8 * (bs.getD kk Bk.zero).out.length - 32 by omega); omega
 obtain ⟨hrs, hnx, hny, hat⟩ := qsy hg (show kk < bs.length by omega) (by omega) hp32 hp8
 have hml := qgl (bs := bs) (k := kk) (p := pp) bs.length
 have hmb := qnw (k := kk) (p := pp) (fun x hx => (hg x hx).1) bs.length (Nat.le_refl _)
 rw [hbl] at hrs hnx hny hat hml hmb
 refine wp_seq (qa ?_)
 refine fp HF 1 0 [(11, .slice none 0 0)] fun a HF => ?_
 refine qb rfl ?_
 replace HM := HM.nil 5 1
 refine wp_seq (qa ?_)
 refine fp HF 1 0 [(12, .slice none 0 0)] fun a HF => ?_
 refine qb rfl ?_
 replace HM := HM.nil 41 5
 replace HM : Mem w _ (.row (.slice none 0 0) 0 [] 41 5 :: .row (.slice none 0 0) 0 [] 5 1 :: (hbF 45 [] ++ ([]))) := HM
 refine wp_seq (qa ?_)
 refine fp HF 1 0 [(13, vI 0)] fun a HF => ?_
 refine qb rfl (wp_seq (wp_seq (qa ?_)))
 refine fp HF 1 0 [(61, .slice A m c)] fun a HF => ?_
 refine fy HF HM 1 rfl rfl rfl (Yl.len rfl rfl (by kernel_rfl)) fun a HF => ?_
 refine fp HF 1 2 [(63, vI 0)] fun a HF => ?_
 refine qb rfl (wp_block ?_)
 refine zr (fun mS aS wS => ∃ (i : Nat) (z : Nat) (q : List Hb) (Ao : Option Addr) (co : Nat) (Ab : Option Addr) (cb : Nat), (i ≤ m) ∧ (z = if kk < i then (outsL (bs.take kk)).length else 0) ∧ (q.map Hb.b = qco (l.take i)) ∧ (q.length = i) ∧ (q.length ≤ co) ∧ ((mixL bs kk pp i).length ≤ cb) ∧ mS = m - i ∧ Fr aS 184 [] [(63, vI i), (62, vI m), (61, .slice A m c), (13, vI z), (12, .slice Ao q.length co), (11, .slice Ab ((mixL bs kk pp i).length) cb), (10, vI kk), (40, .bool false), (0, .slice A m c), (32, .bool false), (6, .bool false), (2, .int .u16 bt)] ∧ Mem w wS (.row (.slice Ao q.length co) q.length (q.flatMap hbL) 41 5 :: .row (.slice Ab ((mixL bs kk pp i).length) cb) ((mixL bs kk pp i).length) ((mixL bs kk pp i).map B8) 5 1 :: (hbF 45 q ++ ([])))) (m := m - 0) ⟨0, 0, [], none, 0, none, 0, Nat.zero_le _, rfl, rfl, rfl, Nat.le_refl _, Nat.le_refl _, rfl, HF.sub (by kernel_rfl), HM.picksT 2 [0, 1] (by decide) (by decide) rfl⟩ ?_
 clear HF HM; rintro mS a w_ ⟨i, z, q, Ao, co, Ab, cb, him, hz, hq, hql, hco, hcb, rfl, HF, HM⟩
 refine wp_seq (qa ?_)
 refine fp HF 1 0 [(64, .bool (decide ((i : Int) < (m : Int))))] fun a HF => ?_
 refine qb rfl (wp_seq ?_)
 rcases HF.tf 64 rfl with ⟨hb64, HF⟩ | ⟨hb64, HF⟩
 ·
  have hd64 := of_decide_eq_true hb64
  have hi64 : i < m := by omega
  have hix := hi _ (zt Sbm.zero (show i < l.length by omega))
  have hdb : bs.getD i Bk.zero = (l.getD i Sbm.zero).x.made := by rw [hbs]; exact qu1 (by omega) (by omega)
  have hdi : (l.getD i Sbm.zero).x.made.Ok ∧ (l.getD i Sbm.zero).x.made.err = 0 := by rw [← hdb]; exact hg _ (zt Bk.zero (by omega))
  have hde : (l.getD i Sbm.zero).x.made.evs.length ≤ 1000000 := by rw [← hdb]; exact hge _ (zt Bk.zero (by omega))
  have hd13 := qf0 hdi.2
  have hd40 := qfu (l.getD i Sbm.zero).x.made
  have hdl := qrd hdi.1
  have hts := qo7 (l := l) (k := i) (by omega)
  have hms := qdm bs kk pp i
  have hmi := qgl (bs := bs) (k := kk) (p := pp) i
  refine qf HF rfl (wp_skip (wp_seq (wp_block (wp_seq (qa ?_)))))
  refine fp HF 1 0 [(65, vI i)] fun a HF => ?_
  obtain ⟨gA, oA, rfl, _⟩ := hr.qaq (by omega) (by decide)
  refine fy HF HM 1 rfl rfl rfl (v := vP gA (oA + i * 6)) (Yl.ix gA oA i 6 rfl rfl rfl) fun a HF => ?_
  refine fy HF HM 2 rfl rfl rfl (v := .agg ((l.getD i Sbm.zero).x.cells (l.getD i Sbm.zero).A (l.getD i Sbm.zero).c)) (Yl.zh rfl rfl si_sb rfl (fun _ h => (h.old hr).qca qnn ((getD_at Sbm.zero (by omega))))) fun a HF => ?_
  refine fo HF 3 rfl rfl ?_
  refine qr HF HM (cs := #[.bool false, vB 0, vW 0, vI 0, vI 0, .slice none 0 0]) rfl (by kernel_rfl) rfl (by decide) ?_
  clear HF HM; intro a w15 g15 HF HM
  refine fp HF 1 4 [(14, vI i)] fun a HF => ?_
  refine fo HF 5 rfl rfl ?_
  refine e_sa HF HM 0 rfl rfl rfl rfl rfl si_sb rfl rfl (qx2 _ _ _) ?_
  clear HM; intro w13_5 HM
  refine qb rfl (wp_seq (qa ?_))
  refine fy HF HM 0 rfl rfl rfl (v := .agg ((l.getD i Sbm.zero).x.cells (l.getD i Sbm.zero).A (l.getD i Sbm.zero).c)) (Yl.zh rfl rfl si_sb rfl (fun _ h => qd (h.blk (i := 0) rfl))) fun a HF => ?_
  refine fo HF 1 rfl rfl ?_
  refine e_cl HF [.agg ((l.getD i Sbm.zero).x.cells (l.getD i Sbm.zero).A (l.getD i Sbm.zero).c)] rfl rfl (qsz (l.getD i Sbm.zero).x hix.ok (l.getD i Sbm.zero).A (l.getD i Sbm.zero).c _ (HM.old hix.rd) hix.hc hix.hm) ?_
  rintro _ w69 ⟨⟨A69, c69, rfl, ho, hc69⟩, hbw⟩
  refine ⟨_, rfl, ?_⟩
  replace HM := HM.callRow hbw ho
  clear HF; intro a HF
  refine fo HF 2 rfl rfl ?_
  refine qr HF HM (cs := #[vB 0, vB 0, vI 0, vI 0, .slice none 0 0]) rfl (by kernel_rfl) rfl (by decide) ?_
  clear HF HM; intro a w16 g16 HF HM
  refine fo HF 3 rfl rfl ?_
  refine e_sa HF HM 0 rfl rfl rfl rfl rfl si_bk rfl rfl (qba _ _ _) ?_
  clear HM; intro w14_3 HM
  refine qb rfl (wp_seq (qa ?_))
  refine fy HF HM 0 rfl rfl rfl (v := .agg ((l.getD i Sbm.zero).x.made.cells A69 c69)) (Yl.zh rfl rfl si_bk rfl (fun _ h => qd (h.blk (i := 0) rfl))) fun a HF => ?_
  refine fo HF 1 rfl rfl ?_
  refine e_cl HF [.agg ((l.getD i Sbm.zero).x.made.cells A69 c69)] rfl rfl (qku ((l.getD i Sbm.zero).x.made) hdi.1 A69 c69 B _ (hL.mem HM hB) (HM.le hB) (HM.rd (i := 1) rfl) (hde) (hdi.2) (rfl)) ?_
  rintro _ w72 ⟨⟨A72, c72, rfl, ho, hc72⟩, hbw⟩
  refine ⟨_, rfl, ?_⟩
  replace HM := HM.callRow hbw ho
  clear HF; intro a HF
  refine fp HF 5 2 [(18, vI 0), (17, .slice A72 (((l.getD i Sbm.zero).x.made.out).length) c72)] fun a HF => ?_
  refine qb rfl (wp_seq (wp_seq (qa ?_)))
  refine fp HF 4 0 [(78, .slice A72 (((l.getD i Sbm.zero).x.made.out).length) c72), (77, .bool false)] fun a HF => ?_
  refine fy HF HM 4 rfl rfl rfl (Yl.len rfl rfl (by kernel_rfl)) fun a HF => ?_
  refine fp HF 1 5 [(80, .bool (decide (((((l.getD i Sbm.zero).x.made.out).length : Nat) : Int) < (13 : Int))))] fun a HF => ?_
  replace HF := HF.sp 80 (.bool false) rfl (by rw [decide_eq_false (by omega)])
  refine fp HF 1 6 [(81, .bool false)] fun a HF => ?_
  refine qb rfl (qe HF rfl (wp_skip ?_))
  refine qa4 (fun aS wS => ∃ (fl : List Nat) (z2 : Nat) (Aw : Option Addr) (cw : Nat), Fr aS 184 [] [(81, .bool false), (18, vI 0), (17, .slice Aw ((l.getD i Sbm.zero).x.made.out.length) cw), (16, vP g16 0), (14, vI i), (15, vP g15 0), (64, .bool true), (63, vI i), (62, vI m), (61, .slice (some ⟨gA, oA, none⟩) m c), (13, vI z2), (12, .slice Ao q.length co), (11, .slice Ab ((mixL bs kk pp i).length) cb), (10, vI kk), (40, .bool false), (0, .slice (some ⟨gA, oA, none⟩) m c), (32, .bool false), (6, .bool false), (2, .int .u16 bt)] ∧ Mem w wS (.row (.slice Aw ((l.getD i Sbm.zero).x.made.out.length) cw) (((l.getD i Sbm.zero).x.made.out).length) (fl.map B8) 5 1 :: .blk g16 ((l.getD i Sbm.zero).x.made.cells A69 c69) 41 :: .row (.slice A69 ((l.getD i Sbm.zero).x.made.evs.length) c69) ((l.getD i Sbm.zero).x.made.evs.length) ((l.getD i Sbm.zero).x.made.evs.flatMap evL) 45 11 :: .blk g15 ((l.getD i Sbm.zero).x.cells (l.getD i Sbm.zero).A (l.getD i Sbm.zero).c) 62 :: .row (.slice Ao q.length co) q.length (q.flatMap hbL) 41 5 :: .row (.slice Ab ((mixL bs kk pp i).length) cb) ((mixL bs kk pp i).length) ((mixL bs kk pp i).map B8) 5 1 :: (hbF 45 q ++ ([]))) ∧ ((if i = kk then flipL (bs.getD i Bk.zero).out pp else (bs.getD i Bk.zero).out) = fl) ∧ (z2 = if kk < i + 1 then (outsL (bs.take kk)).length else 0) ∧ ((l.getD i Sbm.zero).x.made.out.length ≤ cw) ∧ (fl.length = (l.getD i Sbm.zero).x.made.out.length)) ?_ ?_
  ·
   refine wp_seq (qa ?_)
   refine fp HF 3 0 [(84, .bool ((i : Int) == (kk : Int)))] fun a HF => ?_
   refine qb rfl ?_
   rcases HF.tf 84 rfl with ⟨hb84, HF⟩ | ⟨hb84, HF⟩
   ·
    have hd84 := eq_of_beq hb84
    have hik : i = kk := by omega
    have hpe : (32 + bt % (8 * (l.getD i Sbm.zero).x.made.out.length - 32)) = pp := by rw [hpp, ← hik, hdb]
    have hp8d : pp < 8 * (l.getD i Sbm.zero).x.made.out.length := by rw [← hdb, hik]; exact hp8
    have hbt2 := qnt pp
    have hgd := qit hdl (pp / 8)
    have hmlow : mixL bs kk pp i = outsL (bs.take kk) := by rw [hik]; exact qjp (Nat.le_refl _) (by omega)
    refine qf HF rfl (wp_seq (qa ?_))
    refine fp HF 2 0 [(86, vI (IntKind.i64.wrap (bt : Int)))] fun a HF => ?_
    replace HF := HF.sp 86 (vI bt) rfl (ql rfl (by omega))
    refine fp HF 1 2 [(87, .slice A72 (((l.getD i Sbm.zero).x.made.out).length) c72)] fun a HF => ?_
    refine fy HF HM 3 rfl rfl rfl (Yl.len rfl rfl (by kernel_rfl)) fun a HF => ?_
    refine fp HF 1 4 [(89, vI (IntKind.i64.wrap (8 * ((((l.getD i Sbm.zero).x.made.out).length : Nat) : Int))))] fun a HF => ?_
    replace HF := HF.sp 89 (vI (8 * (((l.getD i Sbm.zero).x.made.out).length) : Nat)) rfl (ql (by omega) (by omega))
    refine fp HF 1 5 [(90, vI (IntKind.i64.wrap (((8 * (((l.getD i Sbm.zero).x.made.out).length) : Nat) : Int) - 32)))] fun a HF => ?_
    replace HF := HF.sp 90 (vI (8 * (((l.getD i Sbm.zero).x.made.out).length) - 32 : Nat)) rfl (ql (by omega) (by omega))
    refine fy HF HM 6 rfl rfl rfl (v := vI (bt % (8 * (((l.getD i Sbm.zero).x.made.out).length) - 32) : Nat)) (Yl.remN (m := bt) (n := (8 * (((l.getD i Sbm.zero).x.made.out).length) - 32)) rfl rfl rfl (by omega)) fun a HF => ?_
    refine fp HF 1 7 [(92, vI (IntKind.i64.wrap (32 + ((bt % (8 * (((l.getD i Sbm.zero).x.made.out).length) - 32) : Nat) : Int))))] fun a HF => ?_
    replace HF := HF.sp 92 (vI pp) rfl (by rw [← hpe]; exact ql (by omega) (by omega))
    refine fp HF 1 8 [(19, vI pp)] fun a HF => ?_
    refine qb rfl (wp_seq ?_)
    refine qja HM (.row (.slice A72 (((l.getD i Sbm.zero).x.made.out).length) c72) (((l.getD i Sbm.zero).x.made.out).length) (((l.getD i Sbm.zero).x.made.out).map B8) 5 1 :: .blk g16 ((l.getD i Sbm.zero).x.made.cells A69 c69) 41 :: .row (.slice A69 ((l.getD i Sbm.zero).x.made.evs.length) c69) ((l.getD i Sbm.zero).x.made.evs.length) ((l.getD i Sbm.zero).x.made.evs.flatMap evL) 45 11 :: .blk g15 ((l.getD i Sbm.zero).x.cells (l.getD i Sbm.zero).A (l.getD i Sbm.zero).c) 62 :: .row (.slice Ao q.length co) q.length (q.flatMap hbL) 41 5 :: .row (.slice Ab ((mixL bs kk pp i).length) cb) ((mixL bs kk pp i).length) ((mixL bs kk pp i).map B8) 5 1 :: (hbF 45 q ++ ([]))) 6 [0, 1, 2, 3, 4, 5] [10] fun HM HS => ?_
    refine ap HF (fun _ => HS) [0, 1, 5] #[true, true, false, false, false, true, false, false, false, false, false] [(98, vI pp), (94, vI pp), (93, .slice A72 (((l.getD i Sbm.zero).x.made.out).length) c72)] fun a HF => ?_
    refine qo HF (fun _ => HS) (i := 2) rfl rfl (d := 95) rfl (by decide) (by kernel_rfl) (fun _ _ _ h => h) (v := vI (IntKind.i64.wrap (Int.tdiv (pp : Int) 8))) (fun _ => Yl.pure (by kernel_rfl)) fun a HF => ?_
    replace HF := HF.sp 95 (vI (pp / 8 : Nat)) rfl (qtk .i64 8 (by show _ ≤ 9223372036854775807; omega))
    obtain ⟨gA72, rfl⟩ := qb6 (HM.own (i := 0) rfl) (Nat.lt_of_le_of_lt (Nat.zero_le _) (show pp / 8 < ((l.getD i Sbm.zero).x.made.out).length from by omega))
    refine ay HF HS 3 rfl rfl rfl (v := vP gA72 ((pp / 8) * 1)) (Yl.ix0 gA72 (pp / 8) 1 rfl rfl rfl) fun a HF => ?_
    refine ay HF HS 4 rfl rfl rfl (v := vB (((l.getD i Sbm.zero).x.made.out).getD (pp / 8) 0)) (Yl.qh rfl rfl (by kernel_rfl) (fun _ h => h.qs0 (i := 0) rfl (k := (pp / 8)) (qaw (F := B8) (k := (pp / 8)) (x := (((l.getD i Sbm.zero).x.made.out).getD (pp / 8) 0)) ((getD_at 0 (k := (pp / 8)) (by first | omega | (simp; omega))))))) fun a HF => ?_
    refine qo HF (fun _ => HS) (i := 6) rfl rfl (d := 99) rfl (by decide) (by kernel_rfl) (fun _ _ _ h => h) (v := vI (Int.tmod (pp : Int) 8)) (fun _ => Yl.pure (by kernel_rfl)) fun a HF => ?_
    replace HF := HF.sp 99 (vI (pp % 8 : Nat)) rfl (qas .i64 _ 8)
    refine ay HF HS 7 rfl rfl rfl (v := vB (1 * 2 ^ (pp % 8) : Nat)) (Yl.shlN (m := 1) (n := (pp % 8)) rfl rfl rfl (by show _ ≤ 8; omega) (by have := qnt pp; show _ ≤ 255; omega)) fun a HF => ?_
    refine qo HF (fun _ => HS) (i := 8) rfl rfl (d := 101) rfl (by decide) (by kernel_rfl) (fun _ _ _ h => h) (v := vB (IntKind.u8.wrap (BitVec.ofInt (IntKind.u8).bits ((((l.getD i Sbm.zero).x.made.out).getD (pp / 8) 0) : Int) ^^^ BitVec.ofInt (IntKind.u8).bits ((1 * 2 ^ (pp % 8) : Nat) : Int)).toNat)) (fun _ => Yl.pure (by kernel_rfl)) fun a HF => ?_
    replace HF := HF.sp 101 (vB ((((l.getD i Sbm.zero).x.made.out).getD (pp / 8) 0) ^^^ (1 * 2 ^ (pp % 8)) : Nat)) rfl (qxk (m := (((l.getD i Sbm.zero).x.made.out).getD (pp / 8) 0)) (n := 1 * 2 ^ (pp % 8)) (by omega) (by omega))
    refine ay HF HS 9 rfl rfl rfl (v := vP gA72 ((pp / 8) * 1)) (Yl.ix0 gA72 (pp / 8) 1 rfl rfl rfl) fun a HF => ?_
    refine qi [10] (by kernel_rfl) rfl ?_
    refine all_cons ?_ all_nil
    refine qk HF (i := 10) rfl rfl ?_
    refine qn9 HF HM (i := 0) rfl rfl rfl rfl (by kernel_rfl) rfl rfl (by simp only [List.length_map]; omega) ?_
    clear HM; intro w20_10 HM
    replace HM := HM.asRow (i := 0) (ys := (flipL (l.getD i Sbm.zero).x.made.out pp).map B8) rfl ((qqm B8 _ (pp / 8) _ (by omega)).trans (by rw [Nat.one_mul]; rfl))
    refine noS (by kernel_rfl) ?_
    refine qn (by kernel_rfl) ?_
    refine qa ?_
    refine fp HF 1 0 [(103, .slice Ab ((mixL bs kk pp i).length) cb)] fun a HF => ?_
    refine fy HF HM 1 rfl rfl rfl (Yl.len rfl rfl (by kernel_rfl)) fun a HF => ?_
    refine fp HF 1 2 [(13, vI ((mixL bs kk pp i).length : Nat))] fun a HF => ?_
    refine qb rfl ?_
    exact ⟨(flipL (l.getD i Sbm.zero).x.made.out pp), (mixL bs kk pp i).length, some ⟨gA72, 0, none⟩, c72, HF.sub (by kernel_rfl), HM.picksT 6 [0, 1, 2, 3, 4, 5] (by decide) (by decide) rfl, by rw [if_pos hik, hdb], by rw [if_pos (by omega), hmlow], hc72, qcp _ _⟩
   have hd84 := ne_of_beq_false hb84
   have hik : i ≠ kk := by omega
   refine qe HF rfl (wp_skip ?_)
   exact ⟨(l.getD i Sbm.zero).x.made.out, z, A72, c72, HF.sub (by kernel_rfl), HM.picksT 6 [0, 1, 2, 3, 4, 5] (by decide) (by decide) rfl, by rw [if_neg hik, hdb], by rw [hz]; split <;> split <;> omega, hc72, rfl⟩
  clear HF HM; rintro a wW ⟨fl, z2, Aw, cw, HF, HM, hfl, hz2, hcw, hfll⟩
  refine qja HM (.row (.slice Aw ((l.getD i Sbm.zero).x.made.out.length) cw) (((l.getD i Sbm.zero).x.made.out).length) (fl.map B8) 5 1 :: .blk g16 ((l.getD i Sbm.zero).x.made.cells A69 c69) 41 :: .row (.slice A69 ((l.getD i Sbm.zero).x.made.evs.length) c69) ((l.getD i Sbm.zero).x.made.evs.length) ((l.getD i Sbm.zero).x.made.evs.flatMap evL) 45 11 :: .blk g15 ((l.getD i Sbm.zero).x.cells (l.getD i Sbm.zero).A (l.getD i Sbm.zero).c) 62 :: (hbF 45 q ++ ([]))) 6 [0, 1, 2, 3] [] fun HM HS => ?_
  refine ap HF (fun _ => HS) [0, 1, 3] #[true, true, false, true, false, false, false, false, false] [(108, .slice Ao q.length co), (106, .slice Aw ((l.getD i Sbm.zero).x.made.out.length) cw), (105, .slice Ab ((mixL bs kk pp i).length) cb)] fun a HF => ?_
  refine ay HF HS 4 rfl rfl rfl (v := .agg ((l.getD i Sbm.zero).x.made.cells A69 c69)) (Yl.zh rfl rfl si_bk rfl (fun _ h => qd (h.blk (i := 1) rfl))) fun a HF => ?_
  refine qi [2, 5] (by kernel_rfl) rfl ?_
  refine all_cons ?_ ?_
  ·refine qk HF (i := 2) rfl rfl ?_
   refine zq HF HM (i := 5) rfl ei_u8 rfl rfl rfl (news := (fl.map B8)) (HM.rd (i := 0) rfl) (qd5 _) (by omega) (by omega) rfl (by decide) ?_
   clear HF HM; intro a w107 A107 c107 HF HM hc107
   rw [show ((mixL bs kk pp i).map B8) ++ (fl.map B8) = (mixL bs kk pp (i + 1)).map B8 from by rw [hms, hfl, List.map_append]] at HM
   refine keepS (HM.picksT 6 [0, 1, 2, 3] (by decide) (by decide) rfl) (fun HS => ?_)
   refine qi [5] (by kernel_rfl) rfl ?_
   refine all_cons ?_ all_nil
   refine qk HF (i := 5) rfl rfl ?_
   refine qap HF HM (vs := [(0, .agg ((l.getD i Sbm.zero).x.made.cells A69 c69))]) (cs := ((l.getD i Sbm.zero).x.made.cells A69 c69)) rfl qd7 (by decide) rfl (by kernel_rfl) rfl (by decide) ?_
   clear HF HM; intro a w110 g110 HF HM
   refine keepS (HM.picksT 7 [1, 2, 3, 4] (by decide) (by decide) rfl) (fun HS => ?_)
   refine qi [6] (by kernel_rfl) rfl ?_
   refine all_cons ?_ all_nil
   refine qk HF (i := 6) rfl rfl ?_
   refine zq HF HM (i := 5) rfl qd7 rfl rfl rfl (news := (hbL (⟨(l.getD i Sbm.zero).x.made, A69, c69⟩ : Hb))) (HM.rdBlk (i := 0) (n := 1) (size := 5) rfl rfl) (qba _ _ _) (by omega) (by omega) rfl (by decide) ?_
   clear HF HM; intro a w111 A111 c111 HF HM hc111
   refine keepS (HM.picksT 7 [1, 2, 3, 4] (by decide) (by decide) rfl) (fun HS => ?_)
   refine ap HF (fun _ => HS) [7, 8] #[true, true, true, true, true, true, true, true, true] [(12, .slice A111 (q.length + 1) c111), (11, .slice A107 ((mixL bs kk pp i).length + (l.getD i Sbm.zero).x.made.out.length) c107)] fun a HF => ?_
   refine qn (by kernel_rfl) ?_
   have hnA107 : (mixL bs kk pp i).length + (l.getD i Sbm.zero).x.made.out.length = (mixL bs kk pp (i + 1)).length := by rw [hms, hfl, List.length_append, hfll]
   replace HM := HM.reRow (i := 6) (ys := (mixL bs kk pp (i + 1)).map B8) rfl hnA107 (rfl)
   rw [hnA107] at hc107
   replace HF := HF.as (t := 11) (u := .slice A107 ((mixL bs kk pp (i + 1)).length) c107) rfl (by rw [hnA107])
   replace HF := HF.as (t := 107) (u := .slice A107 ((mixL bs kk pp (i + 1)).length) c107) rfl (by rw [hnA107])
   have hnA111 : q.length + 1 = (q ++ [(⟨(l.getD i Sbm.zero).x.made, A69, c69⟩ : Hb)]).length := by rw [List.length_append]; rfl
   replace HM := HM.reRow (i := 5) (ys := (q ++ [(⟨(l.getD i Sbm.zero).x.made, A69, c69⟩ : Hb)]).flatMap hbL) rfl hnA111 (by rw [List.flatMap_append, List.flatMap_cons, List.flatMap_nil, List.append_nil])
   rw [hnA111] at hc111
   replace HF := HF.as (t := 12) (u := .slice A111 ((q ++ [(⟨(l.getD i Sbm.zero).x.made, A69, c69⟩ : Hb)]).length) c111) rfl (by rw [hnA111])
   replace HF := HF.as (t := 111) (u := .slice A111 ((q ++ [(⟨(l.getD i Sbm.zero).x.made, A69, c69⟩ : Hb)]).length) c111) rfl (by rw [hnA111])
   replace HM := Mem.toHb (a := [.blk g110 ((l.getD i Sbm.zero).x.made.cells A69 c69) 41, .row (.slice Aw ((l.getD i Sbm.zero).x.made.out.length) cw) (((l.getD i Sbm.zero).x.made.out).length) (fl.map B8) 5 1, .blk g16 ((l.getD i Sbm.zero).x.made.cells A69 c69) 41, .blk g15 ((l.getD i Sbm.zero).x.cells (l.getD i Sbm.zero).A (l.getD i Sbm.zero).c) 62, .row (.slice A111 ((q ++ [(⟨(l.getD i Sbm.zero).x.made, A69, c69⟩ : Hb)]).length) c111) ((q ++ [(⟨(l.getD i Sbm.zero).x.made, A69, c69⟩ : Hb)]).length) ((q ++ [(⟨(l.getD i Sbm.zero).x.made, A69, c69⟩ : Hb)]).flatMap hbL) 41 5, .row (.slice A107 ((mixL bs kk pp (i + 1)).length) c107) ((mixL bs kk pp (i + 1)).length) ((mixL bs kk pp (i + 1)).map B8) 5 1]) (q := q) (b := []) (HM.picksT (fs' := (.row (.slice A69 ((l.getD i Sbm.zero).x.made.evs.length) c69) ((l.getD i Sbm.zero).x.made.evs.length) ((l.getD i Sbm.zero).x.made.evs.flatMap evL) 45 11 :: .blk g110 ((l.getD i Sbm.zero).x.made.cells A69 c69) 41 :: .row (.slice Aw ((l.getD i Sbm.zero).x.made.out.length) cw) (((l.getD i Sbm.zero).x.made.out).length) (fl.map B8) 5 1 :: .blk g16 ((l.getD i Sbm.zero).x.made.cells A69 c69) 41 :: .blk g15 ((l.getD i Sbm.zero).x.cells (l.getD i Sbm.zero).A (l.getD i Sbm.zero).c) 62 :: .row (.slice A111 ((q ++ [(⟨(l.getD i Sbm.zero).x.made, A69, c69⟩ : Hb)]).length) c111) ((q ++ [(⟨(l.getD i Sbm.zero).x.made, A69, c69⟩ : Hb)]).length) ((q ++ [(⟨(l.getD i Sbm.zero).x.made, A69, c69⟩ : Hb)]).flatMap hbL) 41 5 :: .row (.slice A107 ((mixL bs kk pp (i + 1)).length) c107) ((mixL bs kk pp (i + 1)).length) ((mixL bs kk pp (i + 1)).map B8) 5 1 :: (hbF 45 q ++ ([])))) 7 [3, 0, 1, 2, 4, 5, 6] (by decide) (by decide) rfl)
   replace HM : Mem w _ (.blk g110 ((l.getD i Sbm.zero).x.made.cells A69 c69) 41 :: .row (.slice Aw ((l.getD i Sbm.zero).x.made.out.length) cw) (((l.getD i Sbm.zero).x.made.out).length) (fl.map B8) 5 1 :: .blk g16 ((l.getD i Sbm.zero).x.made.cells A69 c69) 41 :: .blk g15 ((l.getD i Sbm.zero).x.cells (l.getD i Sbm.zero).A (l.getD i Sbm.zero).c) 62 :: .row (.slice A111 ((q ++ [(⟨(l.getD i Sbm.zero).x.made, A69, c69⟩ : Hb)]).length) c111) ((q ++ [(⟨(l.getD i Sbm.zero).x.made, A69, c69⟩ : Hb)]).length) ((q ++ [(⟨(l.getD i Sbm.zero).x.made, A69, c69⟩ : Hb)]).flatMap hbL) 41 5 :: .row (.slice A107 ((mixL bs kk pp (i + 1)).length) c107) ((mixL bs kk pp (i + 1)).length) ((mixL bs kk pp (i + 1)).map B8) 5 1 :: (hbF 45 (q ++ [(⟨(l.getD i Sbm.zero).x.made, A69, c69⟩ : Hb)]) ++ ([]))) := HM
   refine qa ?_
   refine fp HF 1 0 [(112, vI (IntKind.i64.wrap ((i : Int) + 1)))] fun a HF => ?_
   replace HF := HF.sp 112 (vI (i + 1 : Nat)) rfl (ql (by omega) (by omega))
   refine fp HF 1 1 [(63, vI (i + 1 : Nat))] fun a HF => ?_
   refine qb rfl ?_
   exact ⟨_, (by omega), i + 1, z2, (q ++ [(⟨(l.getD i Sbm.zero).x.made, A69, c69⟩ : Hb)]), A111, c111, A107, c107, by omega, hz2, by rw [hts, List.map_append, hq]; rfl, by rw [List.length_append, hql]; rfl, hc111, hc107, rfl, HF.sub (by kernel_rfl), HM.picksT 6 [4, 5] (by decide) (by decide) rfl⟩
  refine all_cons ?_ all_nil
  refine qk HF (i := 5) rfl rfl ?_
  refine qap HF HM (vs := [(0, .agg ((l.getD i Sbm.zero).x.made.cells A69 c69))]) (cs := ((l.getD i Sbm.zero).x.made.cells A69 c69)) rfl qd7 (by decide) rfl (by kernel_rfl) rfl (by decide) ?_
  clear HF HM; intro a w110 g110 HF HM
  refine keepS (HM.picksT 7 [1, 2, 3, 4] (by decide) (by decide) rfl) (fun HS => ?_)
  refine qi [2] (by kernel_rfl) rfl ?_
  refine all_cons ?_ all_nil
  refine qk HF (i := 2) rfl rfl ?_
  refine zq HF HM (i := 6) rfl ei_u8 rfl rfl rfl (news := (fl.map B8)) (HM.rd (i := 1) rfl) (qd5 _) (by omega) (by omega) rfl (by decide) ?_
  clear HF HM; intro a w107 A107 c107 HF HM hc107
  rw [show ((mixL bs kk pp i).map B8) ++ (fl.map B8) = (mixL bs kk pp (i + 1)).map B8 from by rw [hms, hfl, List.map_append]] at HM
  refine keepS (HM.picksT 7 [1, 2, 3, 4] (by decide) (by decide) rfl) (fun HS => ?_)
  refine qi [6] (by kernel_rfl) rfl ?_
  refine all_cons ?_ all_nil
  refine qk HF (i := 6) rfl rfl ?_
  refine zq HF HM (i := 5) rfl qd7 rfl rfl rfl (news := (hbL (⟨(l.getD i Sbm.zero).x.made, A69, c69⟩ : Hb))) (HM.rdBlk (i := 0) (n := 1) (size := 5) rfl rfl) (qba _ _ _) (by omega) (by omega) rfl (by decide) ?_
  clear HF HM; intro a w111 A111 c111 HF HM hc111
  refine keepS (HM.picksT 7 [1, 2, 3, 4] (by decide) (by decide) rfl) (fun HS => ?_)
  refine ap HF (fun _ => HS) [7, 8] #[true, true, true, true, true, true, true, true, true] [(12, .slice A111 (q.length + 1) c111), (11, .slice A107 ((mixL bs kk pp i).length + (l.getD i Sbm.zero).x.made.out.length) c107)] fun a HF => ?_
  refine qn (by kernel_rfl) ?_
  have hnA107 : (mixL bs kk pp i).length + (l.getD i Sbm.zero).x.made.out.length = (mixL bs kk pp (i + 1)).length := by rw [hms, hfl, List.length_append, hfll]
  replace HM := HM.reRow (i := 6) (ys := (mixL bs kk pp (i + 1)).map B8) rfl hnA107 (rfl)
  rw [hnA107] at hc107
  replace HF := HF.as (t := 11) (u := .slice A107 ((mixL bs kk pp (i + 1)).length) c107) rfl (by rw [hnA107])
  replace HF := HF.as (t := 107) (u := .slice A107 ((mixL bs kk pp (i + 1)).length) c107) rfl (by rw [hnA107])
  have hnA111 : q.length + 1 = (q ++ [(⟨(l.getD i Sbm.zero).x.made, A69, c69⟩ : Hb)]).length := by rw [List.length_append]; rfl
  replace HM := HM.reRow (i := 5) (ys := (q ++ [(⟨(l.getD i Sbm.zero).x.made, A69, c69⟩ : Hb)]).flatMap hbL) rfl hnA111 (by rw [List.flatMap_append, List.flatMap_cons, List.flatMap_nil, List.append_nil])
  rw [hnA111] at hc111
  replace HF := HF.as (t := 12) (u := .slice A111 ((q ++ [(⟨(l.getD i Sbm.zero).x.made, A69, c69⟩ : Hb)]).length) c111) rfl (by rw [hnA111])
  replace HF := HF.as (t := 111) (u := .slice A111 ((q ++ [(⟨(l.getD i Sbm.zero).x.made, A69, c69⟩ : Hb)]).length) c111) rfl (by rw [hnA111])
  replace HM := Mem.toHb (a := [.blk g110 ((l.getD i Sbm.zero).x.made.cells A69 c69) 41, .row (.slice Aw ((l.getD i Sbm.zero).x.made.out.length) cw) (((l.getD i Sbm.zero).x.made.out).length) (fl.map B8) 5 1, .blk g16 ((l.getD i Sbm.zero).x.made.cells A69 c69) 41, .blk g15 ((l.getD i Sbm.zero).x.cells (l.getD i Sbm.zero).A (l.getD i Sbm.zero).c) 62, .row (.slice A111 ((q ++ [(⟨(l.getD i Sbm.zero).x.made, A69, c69⟩ : Hb)]).length) c111) ((q ++ [(⟨(l.getD i Sbm.zero).x.made, A69, c69⟩ : Hb)]).length) ((q ++ [(⟨(l.getD i Sbm.zero).x.made, A69, c69⟩ : Hb)]).flatMap hbL) 41 5, .row (.slice A107 ((mixL bs kk pp (i + 1)).length) c107) ((mixL bs kk pp (i + 1)).length) ((mixL bs kk pp (i + 1)).map B8) 5 1]) (q := q) (b := []) (HM.picksT (fs' := (.row (.slice A69 ((l.getD i Sbm.zero).x.made.evs.length) c69) ((l.getD i Sbm.zero).x.made.evs.length) ((l.getD i Sbm.zero).x.made.evs.flatMap evL) 45 11 :: .blk g110 ((l.getD i Sbm.zero).x.made.cells A69 c69) 41 :: .row (.slice Aw ((l.getD i Sbm.zero).x.made.out.length) cw) (((l.getD i Sbm.zero).x.made.out).length) (fl.map B8) 5 1 :: .blk g16 ((l.getD i Sbm.zero).x.made.cells A69 c69) 41 :: .blk g15 ((l.getD i Sbm.zero).x.cells (l.getD i Sbm.zero).A (l.getD i Sbm.zero).c) 62 :: .row (.slice A111 ((q ++ [(⟨(l.getD i Sbm.zero).x.made, A69, c69⟩ : Hb)]).length) c111) ((q ++ [(⟨(l.getD i Sbm.zero).x.made, A69, c69⟩ : Hb)]).length) ((q ++ [(⟨(l.getD i Sbm.zero).x.made, A69, c69⟩ : Hb)]).flatMap hbL) 41 5 :: .row (.slice A107 ((mixL bs kk pp (i + 1)).length) c107) ((mixL bs kk pp (i + 1)).length) ((mixL bs kk pp (i + 1)).map B8) 5 1 :: (hbF 45 q ++ ([])))) 7 [3, 0, 1, 2, 4, 5, 6] (by decide) (by decide) rfl)
  replace HM : Mem w _ (.blk g110 ((l.getD i Sbm.zero).x.made.cells A69 c69) 41 :: .row (.slice Aw ((l.getD i Sbm.zero).x.made.out.length) cw) (((l.getD i Sbm.zero).x.made.out).length) (fl.map B8) 5 1 :: .blk g16 ((l.getD i Sbm.zero).x.made.cells A69 c69) 41 :: .blk g15 ((l.getD i Sbm.zero).x.cells (l.getD i Sbm.zero).A (l.getD i Sbm.zero).c) 62 :: .row (.slice A111 ((q ++ [(⟨(l.getD i Sbm.zero).x.made, A69, c69⟩ : Hb)]).length) c111) ((q ++ [(⟨(l.getD i Sbm.zero).x.made, A69, c69⟩ : Hb)]).length) ((q ++ [(⟨(l.getD i Sbm.zero).x.made, A69, c69⟩ : Hb)]).flatMap hbL) 41 5 :: .row (.slice A107 ((mixL bs kk pp (i + 1)).length) c107) ((mixL bs kk pp (i + 1)).length) ((mixL bs kk pp (i + 1)).map B8) 5 1 :: (hbF 45 (q ++ [(⟨(l.getD i Sbm.zero).x.made, A69, c69⟩ : Hb)]) ++ ([]))) := HM
  refine qa ?_
  refine fp HF 1 0 [(112, vI (IntKind.i64.wrap ((i : Int) + 1)))] fun a HF => ?_
  replace HF := HF.sp 112 (vI (i + 1 : Nat)) rfl (ql (by omega) (by omega))
  refine fp HF 1 1 [(63, vI (i + 1 : Nat))] fun a HF => ?_
  refine qb rfl ?_
  exact ⟨_, (by omega), i + 1, z2, (q ++ [(⟨(l.getD i Sbm.zero).x.made, A69, c69⟩ : Hb)]), A111, c111, A107, c107, by omega, hz2, by rw [hts, List.map_append, hq]; rfl, by rw [List.length_append, hql]; rfl, hc111, hc107, rfl, HF.sub (by kernel_rfl), HM.picksT 6 [4, 5] (by decide) (by decide) rfl⟩
 have hd64 := of_decide_eq_false hb64
 have him2 : i = m := by omega
 subst him2
 have hqb : q.map Hb.b = bs := by rw [hq, hbs]
 have hz3 : z = (outsL (bs.take kk)).length := by rw [hz, if_pos hkm]
 refine qe HF rfl (wp_exit (wp_seq (qa ?_)))
 refine fp HF 1 0 [(114, .slice Ab ((mixL bs kk pp i).length) cb)] fun a HF => ?_
 refine fo HF 1 rfl rfl ?_
 refine e_is HF HM [.slice Ab ((mixL bs kk pp i).length) cb] (.tuple #[vI ((bs.take kk).length), vI ((outsL (bs.take kk)).length), vI 102]) rfl rfl (qst (bs := bs.take kk) (p := (outsL (bs.take kk)).length) (er := 102) Ab ((mixL bs kk pp i).length) cb (mixL bs kk pp i) B _ (hL.mem HM hB) (HM.le hB) (HM.rd (i := 1) rfl) hcb hmb rfl (by omega) hrs) fun w115 hbw HM a HF => ?_
 refine fp HF 7 2 [(22, vI 102), (21, vI ((outsL (bs.take kk)).length)), (20, vI ((bs.take kk).length))] fun a HF => ?_
 refine qb rfl (wp_seq (qa ?_))
 refine fp HF 1 0 [(120, .slice Ab ((mixL bs kk pp i).length) cb)] fun a HF => ?_
 refine fo HF 1 rfl rfl ?_
 refine e_cl HF [.slice Ab ((mixL bs kk pp i).length) cb] rfl rfl (qpi (bs := []) (er := 102) Ab ((mixL bs kk pp i).length) cb (mixL bs kk pp i) B _ (hL.mem HM hB) (HM.le hB) (HM.rd (i := 1) rfl) hcb hmb rfl (by omega) (qo6 hrs (by decide))) ?_
 rintro _ w121 ⟨A121, c121, q121, rfl, hq121, hc121, hm121⟩
 obtain rfl := List.map_eq_nil_iff.1 hq121
 refine ⟨_, rfl, ?_⟩
 replace HM := HM.call hm121.below
 clear HF; intro a HF
 refine fp HF 5 2 [(24, vI 102), (23, .slice A121 0 c121)] fun a HF => ?_
 refine qb rfl (wp_seq (wp_seq (qa ?_)))
 refine fp HF 3 0 [(126, .bool (((bs.take kk).length : Int) != (kk : Int)))] fun a HF => ?_
 replace HF := HF.sp 126 (.bool false) rfl (by rw [List.length_take, Nat.min_eq_left (by omega)]; simp)
 refine fp HF 4 3 [(130, .bool (((outsL (bs.take kk)).length : Int) != (z : Int))), (127, .bool false)] fun a HF => ?_
 replace HF := HF.sp 130 (.bool false) rfl (by rw [hz3]; simp)
 refine fp HF 11 7 [(141, .slice A121 0 c121), (140, .bool false)] fun a HF => ?_
 refine fy HF HM 18 rfl rfl rfl (Yl.len rfl rfl (by kernel_rfl)) fun a HF => ?_
 refine fp HF 2 19 [(144, .bool false)] fun a HF => ?_
 refine qb rfl (qe HF rfl (wp_skip (wp_seq (qa ?_))))
 refine fp HF 1 0 [(145, .slice Ab ((mixL bs kk pp i).length) cb)] fun a HF => ?_
 refine fo HF 1 rfl rfl ?_
 refine e_cl HF [.slice Ab ((mixL bs kk pp i).length) cb] rfl rfl (qir Ab cb (mixL bs kk pp i) _ (HM.rd (i := 1) rfl) (by omega)) ?_
 rintro _ w146 ⟨g146, A146, c146, rfl, hc146, hm⟩
 refine ⟨_, rfl, ?_⟩
 replace HM := HM.join hm
 clear HF; intro a HF
 refine fp HF 1 2 [(25, vP g146 0)] fun a HF => ?_
 refine qb rfl ?_
 replace HM := HM.reBlk (i := 0) (ds := #[.bool true, vI ((outsL (bs.take 0)).length : Nat), .slice A146 ((mixL bs kk pp i).length) c146]) rfl rfl
 refine wp_seq (wp_seq (qa ?_))
 refine fp HF 2 0 [(148, vI 0), (147, vI kk)] fun a HF => ?_
 refine qb rfl (wp_block ?_)
 refine zr (fun mS aS wS => ∃ (j : Nat), (j ≤ kk) ∧ mS = kk - j ∧ Fr aS 184 [] [(148, vI j), (147, vI kk), (25, vP g146 0), (144, .bool false), (64, .bool false), (63, vI i), (62, vI i), (61, .slice A i c), (13, vI z), (12, .slice Ao q.length co), (11, .slice Ab ((mixL bs kk pp i).length) cb), (10, vI kk), (40, .bool false), (0, .slice A i c), (32, .bool false), (6, .bool false), (2, .int .u16 bt)] ∧ Mem w wS (.blk g146 #[.bool true, vI ((outsL (bs.take j)).length : Nat), .slice A146 ((mixL bs kk pp i).length) c146] 108 :: .row (.slice A146 ((mixL bs kk pp i).length) c146) ((mixL bs kk pp i).length) ((mixL bs kk pp i).map B8) 5 1 :: .row (.slice Ao q.length co) q.length (q.flatMap hbL) 41 5 :: .row (.slice Ab ((mixL bs kk pp i).length) cb) ((mixL bs kk pp i).length) ((mixL bs kk pp i).map B8) 5 1 :: (hbF 45 q ++ ([])))) (m := kk - 0) ⟨0, Nat.zero_le _, rfl, HF.sub (by kernel_rfl), HM.picksT 4 [0, 1, 2, 3] (by decide) (by decide) rfl⟩ ?_
 clear HF HM; rintro mS a w_ ⟨j, hj, rfl, HF, HM⟩
 refine wp_seq (qa ?_)
 refine fp HF 1 0 [(149, .bool (decide ((j : Int) < (kk : Int))))] fun a HF => ?_
 refine qb rfl (wp_seq ?_)
 rcases HF.tf 149 rfl with ⟨hb149, HF⟩ | ⟨hb149, HF⟩
 ·
  have hd149 := of_decide_eq_true hb149
  have hj149 : j < kk := by omega
  have hbj : (q.getD j Hb.zero).b = bs.getD j Bk.zero := hb_at hqb (by omega)
  have hje : (bs.getD j Bk.zero).evs.length ≤ 1000000 := hge _ (zt Bk.zero (by omega))
  have hpj : (outsL (bs.take j)).length ≤ (mixL bs kk pp i).length := by have h1 := qu2 bs j kk (by omega); omega
  refine qf HF rfl (wp_skip (wp_seq (wp_block (wp_seq (qa ?_)))))
  refine fp HF 2 0 [(26, vI j)] fun a HF => ?_
  refine qb rfl (wp_seq (qa ?_))
  refine fp HF 1 0 [(152, vP g146 0)] fun a HF => ?_
  refine fo HF 1 rfl rfl ?_
  refine e_cl HF [vP g146 0] rfl rfl (qfb _ _ g146 ((outsL (bs.take j)).length) A146 c146 (mixL bs kk pp i) _ (HM.picksT 4 [0, 1, 2, 3] (by decide) (by decide) rfl) (hpj) (by first | exact Nat.le_refl _ | omega | exact Nat.zero_le _) hmb (by omega) B (hL.mem HM hB) hB (hnx j hj149) (p2 := (outsL (bs.take (j + 1))).length) (by rw [qd8 (by omega), List.length_append])) ?_
  rintro _ w153 ⟨A153, c153, rfl, hc153, HM2⟩
  refine ⟨_, rfl, ?_⟩
  replace HM := HM2
  clear HF; intro a HF
  refine fp HF 3 2 [(155, vI 0), (154, .agg ((bs.getD j Bk.zero).cells A153 c153))] fun a HF => ?_
  refine fo HF 5 rfl rfl ?_
  refine qr HF HM (cs := #[vB 0, vB 0, vI 0, vI 0, .slice none 0 0]) rfl (by kernel_rfl) rfl (by decide) ?_
  clear HF HM; intro a w27 g27 HF HM
  refine fo HF 6 rfl rfl ?_
  refine e_sa HF HM 0 rfl rfl rfl rfl rfl si_bk rfl rfl (qba _ _ _) ?_
  clear HM; intro w32_6 HM
  refine fp HF 1 7 [(28, vI 0)] fun a HF => ?_
  refine qb rfl (wp_seq ?_)
  refine qja HM (.blk g27 ((bs.getD j Bk.zero).cells A153 c153) 41 :: .row (.slice A153 ((bs.getD j Bk.zero).evs.length) c153) ((bs.getD j Bk.zero).evs.length) ((bs.getD j Bk.zero).evs.flatMap evL) 45 11 :: .blk g146 #[.bool true, vI ((outsL (bs.take (j + 1))).length : Nat), .slice A146 ((mixL bs kk pp i).length) c146] 108 :: .row (.slice A146 ((mixL bs kk pp i).length) c146) ((mixL bs kk pp i).length) ((mixL bs kk pp i).map B8) 5 1 :: .row (.slice Ao q.length co) q.length (q.flatMap hbL) 41 5 :: .row (.slice Ab ((mixL bs kk pp i).length) cb) ((mixL bs kk pp i).length) ((mixL bs kk pp i).map B8) 5 1 :: (hbF 45 q ++ ([]))) 6 [0, 1, 2, 3, 4, 5] [] fun HM HS => ?_
  refine ap HF (fun _ => HS) [0, 1, 2, 4, 5] #[true, true, true, false, true, true, false, false, false, false, false] [(161, vI j), (160, .slice Ao q.length co), (158, .bool false)] fun a HF => ?_
  refine ay HF HS 3 rfl rfl rfl (v := .agg ((bs.getD j Bk.zero).cells A153 c153)) (Yl.zh rfl rfl si_bk rfl (fun _ h => qd (h.blk (i := 0) rfl))) fun a HF => ?_
  obtain ⟨gAo, rfl⟩ := qb6 (HM.own (i := 4) rfl) (Nat.lt_of_le_of_lt (Nat.zero_le _) (show j < q.length from by omega))
  refine ay HF HS 6 rfl rfl rfl (v := vP gAo (j * 5)) (Yl.ix0 gAo j 5 rfl rfl rfl) fun a HF => ?_
  refine ay HF HS 7 rfl rfl rfl (v := .agg ((q.getD j Hb.zero).b.cells (q.getD j Hb.zero).A (q.getD j Hb.zero).c)) (Yl.zh rfl rfl si_bk rfl (fun _ h => h.qs1 qei (i := 4) rfl ((getD_at Hb.zero (by rw [hql]; omega))))) fun a HF => ?_
  refine qi [8] (by kernel_rfl) rfl ?_
  refine all_cons ?_ all_nil
  refine qk HF (i := 8) rfl rfl ?_
  refine e_is HF HM [.agg ((bs.getD j Bk.zero).cells A153 c153), .agg ((q.getD j Hb.zero).b.cells (q.getD j Hb.zero).A (q.getD j Hb.zero).c)] (.bool (decide (bs.getD j Bk.zero = (q.getD j Hb.zero).b))) rfl rfl (qt9 (bs.getD j Bk.zero) (q.getD j Hb.zero).b A153 ((q.getD j Hb.zero).A) c153 (q.getD j Hb.zero).c _ (HM.rd (i := 1) rfl) (HbRd.at (Mem.qyj (a := [.blk g27 ((bs.getD j Bk.zero).cells A153 c153) 41, .row (.slice A153 ((bs.getD j Bk.zero).evs.length) c153) ((bs.getD j Bk.zero).evs.length) ((bs.getD j Bk.zero).evs.flatMap evL) 45 11, .blk g146 #[.bool true, vI ((outsL (bs.take (j + 1))).length : Nat), .slice A146 ((mixL bs kk pp i).length) c146] 108, .row (.slice A146 ((mixL bs kk pp i).length) c146) ((mixL bs kk pp i).length) ((mixL bs kk pp i).map B8) 5 1, .row (vS gAo q.length co) q.length (q.flatMap hbL) 41 5, .row (.slice Ab ((mixL bs kk pp i).length) cb) ((mixL bs kk pp i).length) ((mixL bs kk pp i).map B8) 5 1]) HM) (by rw [hql]; omega)) hje) fun w164 hbw HM a HF => ?_
  refine keepS (HM.picksT 6 [0, 1, 2, 3, 4, 5] (by decide) (by decide) rfl) (fun HS => ?_)
  refine qo HF (fun _ => HS) (i := 9) rfl rfl (d := 165) rfl (by decide) (by kernel_rfl) (fun _ _ _ h => h) (v := .bool (!(decide (bs.getD j Bk.zero = (q.getD j Hb.zero).b)))) (fun _ => Yl.pure (by kernel_rfl)) fun a HF => ?_
  replace HF := HF.sp 165 (.bool false) rfl (by rw [decide_eq_true hbj.symm]; rfl)
  refine ap HF (fun _ => HS) [10] #[true, true, true, true, true, true, true, true, true, true, true] [(166, .bool false)] fun a HF => ?_
  refine qn (by kernel_rfl) ?_
  refine qe HF rfl (wp_skip (qa ?_))
  refine fp HF 1 0 [(167, vI (IntKind.i64.wrap ((j : Int) + 1)))] fun a HF => ?_
  replace HF := HF.sp 167 (vI (j + 1 : Nat)) rfl (ql (by omega) (by omega))
  refine fp HF 1 1 [(148, vI (j + 1 : Nat))] fun a HF => ?_
  refine qb rfl ?_
  exact ⟨_, (by omega), j + 1, by omega, rfl, HF.sub (by kernel_rfl), HM.picksT 6 [2, 3, 4, 5] (by decide) (by decide) rfl⟩
 have hd149 := of_decide_eq_false hb149
 have hjk : j = kk := by omega
 subst hjk
 refine qe HF rfl (wp_exit (wp_seq (wp_seq (qa ?_))))
 refine fp HF 1 0 [(168, vI 0)] fun a HF => ?_
 refine qb rfl (wp_block ?_)
 refine zr (fun mS aS wS => ∃ (r : Nat), (r ≤ 2) ∧ mS = 2 - r ∧ Fr aS 184 [] [(168, vI r), (149, .bool false), (148, vI j), (147, vI j), (25, vP g146 0), (144, .bool false), (64, .bool false), (63, vI i), (62, vI i), (61, .slice A i c), (13, vI z), (12, .slice Ao q.length co), (11, .slice Ab ((mixL bs j pp i).length) cb), (10, vI j), (40, .bool false), (0, .slice A i c), (32, .bool false), (6, .bool false), (2, .int .u16 bt)] ∧ Mem w wS (.blk g146 #[.bool true, vI ((outsL (bs.take j)).length : Nat), .slice A146 ((mixL bs j pp i).length) c146] 108 :: .row (.slice A146 ((mixL bs j pp i).length) c146) ((mixL bs j pp i).length) ((mixL bs j pp i).map B8) 5 1 :: .row (.slice Ao q.length co) q.length (q.flatMap hbL) 41 5 :: .row (.slice Ab ((mixL bs j pp i).length) cb) ((mixL bs j pp i).length) ((mixL bs j pp i).map B8) 5 1 :: (hbF 45 q ++ ([])))) (m := 2 - 0) ⟨0, by decide, rfl, HF.sub (by kernel_rfl), HM.picksT 4 [0, 1, 2, 3] (by decide) (by decide) rfl⟩ ?_
 clear HF HM; rintro mS a w_ ⟨r, hr2, rfl, HF, HM⟩
 refine wp_seq (qa ?_)
 refine fp HF 1 0 [(169, .bool (decide ((r : Int) < (2 : Int))))] fun a HF => ?_
 refine qb rfl (wp_seq ?_)
 rcases HF.tf 169 rfl with ⟨hb169, HF⟩ | ⟨hb169, HF⟩
 ·
  have hd169 := of_decide_eq_true hb169
  refine qf HF rfl (wp_skip (wp_seq (wp_block (wp_seq (qa ?_)))))
  refine fp HF 1 0 [(171, vP g146 0)] fun a HF => ?_
  refine fo HF 1 rfl rfl ?_
  refine e_cl HF [vP g146 0] rfl rfl (qfb _ _ g146 ((outsL (bs.take j)).length) A146 c146 (mixL bs j pp i) _ (HM.picksT 4 [0, 1, 2, 3] (by decide) (by decide) rfl) (hat) (by first | exact Nat.le_refl _ | omega | exact Nat.zero_le _) hmb (by omega) B (hL.mem HM hB) hB (hny) (p2 := (outsL (bs.take j)).length) (rfl)) ?_
  rintro _ w172 ⟨A172, c172, rfl, hc172, HM2⟩
  refine ⟨_, rfl, ?_⟩
  replace HM := HM2
  clear HF; intro a HF
  refine fp HF 3 2 [(174, vI 102), (173, .agg #[vB 0, vB 0, vI 0, vI 0, .slice A172 0 c172])] fun a HF => ?_
  refine fo HF 5 rfl rfl ?_
  refine qr HF HM (cs := #[vB 0, vB 0, vI 0, vI 0, .slice none 0 0]) rfl (by kernel_rfl) rfl (by decide) ?_
  clear HF HM; intro a w29 g29 HF HM
  refine fo HF 6 rfl rfl ?_
  refine e_sa HF HM 0 rfl rfl rfl rfl rfl si_bk rfl rfl (by simp [Value.oneCell']) ?_
  clear HM; intro w38_6 HM
  refine fp HF 1 7 [(30, vI 102)] fun a HF => ?_
  refine qb rfl (wp_seq (qa ?_))
  refine fp HF 4 0 [(178, vP g146 0), (177, .bool false)] fun a HF => ?_
  refine fo HF 4 rfl rfl ?_
  refine e_is HF HM [vP g146 0] (vI ((outsL (bs.take j)).length : Nat)) rfl rfl (qge g146 ((outsL (bs.take j)).length) A146 c146 (mixL bs j pp i) _ (HM.blk (i := 2) rfl)) fun w179 hbw HM a HF => ?_
  refine fp HF 2 5 [(181, .bool ((((outsL (bs.take j)).length : Nat) : Int) != (z : Int)))] fun a HF => ?_
  replace HF := HF.sp 181 (.bool false) rfl (by rw [hz3]; simp)
  refine fp HF 1 7 [(182, .bool false)] fun a HF => ?_
  refine qb rfl (qe HF rfl (wp_skip (qa ?_)))
  refine fp HF 1 0 [(183, vI (IntKind.i64.wrap ((r : Int) + 1)))] fun a HF => ?_
  replace HF := HF.sp 183 (vI (r + 1 : Nat)) rfl (ql (by omega) (by omega))
  refine fp HF 1 1 [(168, vI (r + 1 : Nat))] fun a HF => ?_
  refine qb rfl ?_
  exact ⟨_, (by omega), r + 1, by omega, rfl, HF.sub (by kernel_rfl), HM.picksT 6 [2, 3, 4, 5] (by decide) (by decide) rfl⟩
 have hd169 := of_decide_eq_false hb169
 refine qe HF rfl (wp_exit (wp_seq (qa ?_)))
 refine fp HF 1 0 [(6, .bool true)] fun a HF => ?_
 refine qb rfl (wp_ret ?_)
 exact ret1 rfl HF (.tmp HF rfl) (⟨rfl, HM.below⟩)
end Go.Proofs.YtfeheccoijnbaaaDoor
