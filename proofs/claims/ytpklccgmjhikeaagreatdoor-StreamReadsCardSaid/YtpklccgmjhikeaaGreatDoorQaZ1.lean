/- Parts. -/
import Derived.Test.YtpklccgmjhikeaaGreatDoorQaSep4
import Derived.Deep.DeepAppendWide
import Derived.Deep.Upon
import Derived.MapKept
import Derived.IntWalk
import Derived.Maps.RangeRun
import Derived.Test.YtpklccgmjhikeaaGreatDoorQaRnd
import Derived.RangeFuncLeaves
import Derived.Test.YtpklccgmjhikeaaGreatDoorQaConv
import Derived.Lib.AppendZeros
import Derived.Test.YtpklccgmjhikeaaGreatDoorQaVarint
import Derived.Test.YtpklccgmjhikeaaGreatDoorQaCrcP
import Derived.Test.YtpklccgmjhikeaaGreatDoorQaNum
import Derived.Test.YtpklccgmjhikeaaGreatDoorQaOneWay
import Derived.Test.YtpklccgmjhikeaaGreatDoorQaBack
import Derived.ChangeKeysEq
import Derived.Laws.StructEq
import Derived.Deep.AppendSrc
import Derived.Test.YtpklccgmjhikeaaGreatDoorQaDoor
import Derived.Test.YtpklccgmjhikeaaGreatDoorRows
set_option linter.all false
set_option maxRecDepth 100000
set_option maxHeartbeats 1000000
namespace Go.Proofs.YtpklccgmjhikeaaGreatDoor
open Go.RowKit
section
variable {P : Program} {Q : Exit → Act → World → Prop} {a : Act} {W w : World} {n d : Nat} {D : List Deferred} {σ : List (Nat × Value)} {o : Oper} {v : Value} {K : Act → World → Prop} {fs : List Fact}
theorem q2d {base : Nat} {e : TypeId} {size m : Nat} {xs : List Value} (h : w.ownsRow base e size v m xs) (hm : 0 < m) : ∃ g c, v = .slice (some ⟨g, 0, none⟩) m c ∧ m ≤ c := by
 rcases h.2 with ⟨_, h2⟩ | ⟨g, cap, cur, h1, _, _, h2, _⟩
 ·omega
 ·exact ⟨g, cap, h1, h2⟩
theorem qaa {base : Nat} {e : TypeId} {size m : Nat} {xs : List Value} (h : w.ownsRow base e size v m xs) : ∃ A c, v = .slice A m c ∧ m ≤ c := by
 rcases h.2 with ⟨h1, h2⟩ | ⟨g, cap, cur, h1, _, _, h2, _⟩
 ·subst h2; exact ⟨_, _, h1, Nat.le_refl _⟩
 ·exact ⟨_, cap, h1, h2⟩
theorem qn (Z : Fr a n D σ) (HM : Mem W w fs) {s x : Operand} {t e : TypeId} {z : Value} {size bytes i m0 m c B : Nat} {A : Option Addr} {xs news : List Value} (hop : o.op = .call { callee := .builtin .append, args := #[s, x], argTypes := #[t, t] }) (ei : EI P t e z size bytes)
  (hs : look σ s = some v) (hx : look σ x = some (.slice A m c)) (hi : fs[i]? = some (.row v m0 xs e size)) (hr : Rd w B size A m news) (h1 : ∀ u ∈ news, u.oneCell' = true) (hb : (m0 + m) * bytes ≤ 140737488355328) (h63 : m0 + m ≤ 9223372036854775807)
  (hd : o.dst = some d) (hdn : d < n) (k : ∀ a' w' A' c', Fr a' n D ((d, .slice A' (m0 + m) c') :: σ) → Mem W w' (fs.set i (.row (.slice A' (m0 + m) c') (m0 + m) (xs ++ news) e size)) → m0 + m ≤ c' → K a' w') : o.wp P a w K Q :=
 qh6 hop ei (HM.own hi) (Z.eval hs) hr (Z.eval hx) h1 hb h63 HM.size fun A' c' w' ho hg hbl => by
  rw [hd]
  refine k _ _ _ _ (Z.put hdn _) (HM.append hi ho hg hbl) ?_
  rcases ho.2 with ⟨h2, h3⟩ | ⟨g, cap, cur, h2, _, _, h3, _⟩
  ·omega
  ·injection h2 with _ _ h4; omega
theorem qif {t e : TypeId} {z : Value} {size bytes : Nat} (ei : EI P t e z size bytes) (ty : TypeId) {v : Value} {m0 : Nat} {xs : List Value} {base : Nat} (hown : w.ownsRow base e size v m0 xs)
  {B : Nat} {A : Option Addr} {m c : Nat} {news : List Value} (hr : Rd w B size A m news) (h1 : ∀ u ∈ news, u.oneCell' = true)
  (hb : ((m0 + m) + (m0 + m) / 4 + 192) * bytes ≤ 281474976710656) (h63 : m0 + m ≤ 9223372036854775807) (hbase : base ≤ w.heap.size) :
  ∃ A' c' w', (Builtin.append_ #[t, t] ty #[v, .slice A m c]).run P w = .ok (.slice A' (m0 + m) c') w' ∧ w'.ownsRow base e size (.slice A' (m0 + m) c') (m0 + m) (xs ++ news) ∧ w.grownBy w' v.ownBlock ∧
   ((Value.slice A' (m0 + m) c').ownBlock = v.ownBlock ∨ (Value.slice A' (m0 + m) c').ownBlock = some w.heap.size) := by
 by_cases hA : A = none ∨ m = 0
 ·have hm : m = 0 := by
   rcases hA with h | h
   ·rcases Nat.eq_zero_or_pos m with h0 | h0
    ·exact h0
    ·obtain ⟨ad, h2, _⟩ := hr.row h0
     rw [h] at h2; cases h2
   ·exact h
  subst hm
  have hn : news = [] := List.eq_nil_of_length_eq_zero (by simpa using hr.len)
  subst hn
  obtain ⟨A', c', rfl, _⟩ := qaa hown
  refine ⟨A', c', w, ?_, by simpa using hown, World.grownBy.refl w _, .inl rfl⟩
  cases A with
  | none => exact qe9 ei ty hown c
  | some ad =>
   obtain ⟨i, hi, _⟩ := info_parts ei.hi
   rcases hown.2 with ⟨h2, h3⟩ | ⟨g, cap, cur, h2, _, _, hnc, _⟩
   ·injection h2 with h2 h4 h5
    subst h2; subst h4; subst h5
    simp [Builtin.append_, run_underlying ei.ht, sizeOf, typeInfo, hi, Builtin.lenOf, Builtin.firstCells, loadCells, loadCellsFrom]
   ·injection h2 with h2 h4 h5
    subst h2; subst h5
    simp [Builtin.append_, run_underlying ei.ht, sizeOf, typeInfo, hi, Builtin.lenOf, Builtin.firstCells, hnc, storeCells, loadCells, loadCellsFrom]
 ·have hm : 0 < m := by
   rcases Nat.eq_zero_or_pos m with h | h
   ·exact absurd (.inr h) hA
   ·exact h
  obtain ⟨ad, hAe, _, hcells⟩ := hr.row hm
  subst hAe
  obtain ⟨i, hi, hz, hsz, hby⟩ := info_parts ei.hi
  obtain ⟨v', w', hrun, h2, h3, _⟩ := run_append_own_wide (P := P) w base t ty e i z size bytes ei.ht hi hz hsz hby ei.hz ei.hs v m0 xs hown ad m c news hr.len hcells h1 (by unfold maxLen; exact h63) hb hbase
  obtain ⟨A', c', rfl, _⟩ := qaa h2
  refine ⟨A', c', w', hrun, h2, h3, ?_⟩
  rcases hown.2 with ⟨rfl, rfl⟩ | ⟨g, cap, cur, rfl, hbg, hg, hnc, hcm, hcs, htake⟩
  ·have hx : xs = [] := List.eq_nil_of_length_eq_zero (by simpa using hown.1)
   subst hx
   have hr2 := run_append_nil (P := P) w t ty e i z ei.ht hi hz ad m c news (by rw [hsz]; exact hr.len) hcells om om (by rw [hby]; have hb' := hb; simp only [Nat.zero_add] at hb'; exact Nat.le_trans (Nat.mul_le_mul_right _ om) hb')
   rw [hrun] at hr2
   injection hr2 with hr2 _
   injection hr2 with hr2 _ _
   exact .inr (by rw [hr2]; rfl)
  ·by_cases hroom : m0 + m ≤ cap
   ·have hfit : m0 * i.size + news.length ≤ cur.size := by rw [hsz, hr.len, hcs, ← Nat.add_mul]; exact Nat.mul_le_mul_right _ hroom
    have hr2 := run_append_room (P := P) w t ty e i ei.ht hi g m0 cap cur hg ad m c news (by rw [hsz]; exact hr.len) hcells h1 hroom hfit
    rw [hrun] at hr2
    injection hr2 with hr2 _
    injection hr2 with hr2 _ _
    exact .inl (by rw [hr2]; rfl)
   ·have holds : ∀ j u, xs[j]? = some u → w.cell? ((⟨g, 0, none⟩ : Addr).add j) = some u := hown.cells (g := g) rfl
    have hr2 := run_append_grow (P := P) w t ty e i z ei.ht hi hz ⟨g, 0, none⟩ m0 cap xs (by rw [hsz]; exact hown.1) holds ad m c news (by rw [hsz]; exact hr.len) hcells om om (growslice_fits_wide om (by rw [hby]; exact hb))
    rw [hrun] at hr2
    injection hr2 with hr2 _
    injection hr2 with hr2 _ _
    exact .inr (by rw [hr2]; rfl)
theorem qlc (Z : Fr a n D σ) (HM : Mem W w fs) {s x : Operand} {t e : TypeId} {z : Value} {size bytes i m0 m c B : Nat} {A : Option Addr} {xs news : List Value} (hop : o.op = .call { callee := .builtin .append, args := #[s, x], argTypes := #[t, t] }) (ei : EI P t e z size bytes)
  (hs : look σ s = some v) (hx : look σ x = some (.slice A m c)) (hi : fs[i]? = some (.row v m0 xs e size)) (hr : Rd w B size A m news) (h1 : ∀ u ∈ news, u.oneCell' = true) (hb : ((m0 + m) + (m0 + m) / 4 + 192) * bytes ≤ 281474976710656) (h63 : m0 + m ≤ 9223372036854775807)
  (hd : o.dst = some d) (hdn : d < n) (k : ∀ a' w' A' c', Fr a' n D ((d, .slice A' (m0 + m) c') :: σ) → Mem W w' (fs.set i (.row (.slice A' (m0 + m) c') (m0 + m) (xs ++ news) e size)) → m0 + m ≤ c' → K a' w') : o.wp P a w K Q := by
 obtain ⟨A', c', w', hrun, ho, hg, hbl⟩ := qif (P := P) ei o.type (HM.own hi) hr h1 (c := c) hb h63 HM.size
 unfold Oper.wp execOp
 simp only [hop, resolve, invoke, builtin, Sem.run_bind, Sem.run_pure, Result.andThen_ok, List.map_toArray, List.map_cons, List.map_nil, Z.eval hs, Z.eval hx, hrun]
 rw [Oper.upon_value, hd]
 refine k _ _ _ _ (Z.put hdn _) (HM.append hi ho hg hbl) ?_
 rcases ho.2 with ⟨h2, h3⟩ | ⟨g, cap, cur, h2, _, _, h3, _⟩
 ·omega
 ·injection h2 with _ _ h4; omega
def qdn (σ : List (Nat × Value)) : List (Nat × Operand) → Option (List (Nat × Value))
 | [] => some []
 | (i, x) :: r => match look σ x, qdn σ r with
  | some v, some vs => some ((i, v) :: vs)
  | _, _ => none
theorem qhj (Z : Fr a n D σ) : ∀ {ps : List (Nat × Operand)} {vs : List (Nat × Value)}, qdn σ ps = some vs → ps.map (fun p => (p.1, a.eval p.2)) = vs
 | [], vs, h => by cases h; rfl
 | (i, x) :: r, vs, h => by
  unfold qdn at h
  split at h
  ·rename_i v us hx hr
   injection h with h
   subst h
   rw [List.map_cons, Z.eval hx, qhj Z hr]
  ·cases h
theorem qhk (Z : Fr a n D σ) {ps : Array (Nat × Operand)} {vs : List (Nat × Value)} (h : qdn σ ps.toList = some vs) : ps.map (fun p => (p.1, a.eval p.2)) = vs.toArray := by
 rw [← qhj Z h, ← Array.toList_map, Array.toArray_toList]
def qgz (z : Array Value) (m : Nat) : Array Value := (Array.range m).map (z[· % z.size]!)
theorem q0y (Z : Fr a n D σ) (HM : Mem W w fs) {t len e : Nat} {ps : Array (Nat × Operand)} {vs : List (Nat × Value)} {z : Value} {size bytes : Nat} {cs : Array Value} (hop : o.op = .buildSlice t len ps) (ei : EI P t e z size bytes) (hl : decide (0 < len ∧ len * size ≤ 16777216) = true) (hv : qdn σ ps.toList = some vs)
  (hf : Instr.fill (fun i => some (i * size, size)) (qgz z.cells (len * size)) vs = some cs) (hd : o.dst = some d) (hdn : d < n)
  (k : ∀ a' w' g, Fr a' n D ((d, .slice (some ⟨g, 0, none⟩) len len) :: σ) → Mem W w' (.blk g cs e :: fs) → K a' w') : o.wp P a w K Q := by
 obtain ⟨i, hi, hz, hsz, _⟩ := info_parts ei.hi
 have hpos := ei.hs
 simp only [decide_eq_true_eq] at hl
 have h0 : ¬ len * size = 0 := by
  have := Nat.mul_pos hl.1 hpos
  omega
 have h2 : ¬ len * size > 2 ^ 24 := by omega
 have hrun : (execOp a.eval o).run P w = .ok (.value (.slice (some ⟨w.heap.size, 0, none⟩) len len)) (w.alloc (.cells cs e)) := by
  unfold execOp
  have hpm := qhk Z hv
  unfold qgz at hf
  simp only [hop]
  have e1 : (Instr.buildSlice t len (ps.map fun p => (p.1, a.eval p.2))).run P w = .ok (.slice (some ⟨w.heap.size, 0, none⟩) len len) (w.alloc (.cells cs e)) := by
   rw [hpm]
   unfold Instr.buildSlice
   simp only [Sem.run_bind, run_underlying ei.ht, Result.andThen_ok, sizeOf, typeInfo, program, Sem.run, hi, Sem.run_pure, hsz, if_neg h2, if_neg h0, zeroValue, hz, hf, newRow, newObj]
   rfl
  simp only [Sem.run_bind, Sem.run_pure]
  show ((Instr.buildSlice t len (ps.map fun p => (p.1, a.eval p.2))).run P w).andThen _ = _
  rw [e1]
  rfl
 unfold Oper.wp
 rw [hrun, Oper.upon_value, hd]
 exact k _ _ _ (Z.put hdn _) (HM.alloc cs e)
theorem Mem.ql4 (h : Mem W w fs) {i g m c : Nat} {e : TypeId} {size : Nat} {xs : List Value} (hi : fs[i]? = some (.row (.slice (some ⟨g, 0, none⟩) m c) m xs e size)) (off : Nat) {ys : List Value} (hy : ∀ j u, ys[j]? = some u → xs[off + j]? = some u) : w.rangeAt g off ys := fun j u hu => by
 have ho := h.own hi
 have := ho.cells (g := g) rfl (off + j) u (hy j u hu)
 rw [Addr.add_mid, Nat.zero_add] at this
 exact this
theorem Mem.q24 (h : Mem W w fs) {i g m c : Nat} {e : TypeId} {size : Nat} {xs : List Value} (hi : fs[i]? = some (.row (.slice (some ⟨g, 0, none⟩) m c) m xs e size)) : w.rangeAt g 0 xs := h.ql4 hi 0 (fun j u hu => by rw [Nat.zero_add]; exact hu)
theorem qp6 (Z : Fr a n D σ) (HM : Mem W w fs) {t e : Nat} {z : Value} {size bytes : Nat} (hop : o.op = .buildSlice t 0 #[]) (ei : EI P t e z size bytes) (hd : o.dst = some d) (hdn : d < n)
  (k : ∀ a' w' g, Fr a' n D ((d, .slice (some ⟨g, 0, none⟩) 0 0) :: σ) → Mem W w' (.row (.slice (some ⟨g, 0, none⟩) 0 0) 0 [] e size :: fs) → K a' w') : o.wp P a w K Q := by
 obtain ⟨i, hi, hz, hsz, _⟩ := info_parts ei.hi
 have hrun : (execOp a.eval o).run P w = .ok (.value (.slice (some ⟨w.heap.size, 0, none⟩) 0 0)) (w.alloc (.cells #[] e)) := by
  unfold execOp
  simp only [hop]
  have e1 : (Instr.buildSlice t 0 #[]).run P w = .ok (.slice (some ⟨w.heap.size, 0, none⟩) 0 0) (w.alloc (.cells #[] e)) := by
   unfold Instr.buildSlice
   simp only [Sem.run_bind, run_underlying ei.ht, Result.andThen_ok, sizeOf, typeInfo, program, Sem.run, hi, Sem.run_pure, newRow, newObj]
   simp [Instr.fill, show Array.range 0 = #[] from rfl]
   rfl
  simp only [Sem.run_bind, Sem.run_pure, List.map_toArray, List.map_nil]
  show ((Instr.buildSlice t 0 #[]).run P w).andThen _ = _
  rw [e1]
  rfl
 unfold Oper.wp
 rw [hrun, Oper.upon_value, hd]
 refine k _ _ w.heap.size (Z.put hdn _) ?_
 have := (HM.alloc #[] e).blkRow (i := 0) (size := size) (n := 0) rfl (by simp) om
 exact this
def qev : Nat → List Value → List (Nat × Value)
 | _, [] => []
 | i, v :: r => (i, v) :: qev (i + 1) r
theorem qec : ∀ (vs : List Value) (i t : Nat) (v : Value), (qev i vs).lookup t = some v → i ≤ t ∧ vs[t - i]? = some v
 | [], _, _, _, h => by cases h
 | u :: r, i, t, v, h => by
  rw [qev, List.lookup_cons] at h
  split at h
  ·rename_i e
   rw [beq_iff_eq] at e
   subst e
   exact ⟨Nat.le_refl _, by simpa using h⟩
  ·obtain ⟨h1, h2⟩ := qec r (i + 1) t v h
   refine ⟨by omega, ?_⟩
   rw [show t - i = (t - (i + 1)) + 1 by omega, List.getElem?_cons_succ]
   exact h2
theorem qbp {f N : Nat} {fn : Func} {c : Code} {vs : List Value} {R : Ending → World → Prop} (hf : P.funcs[f]? = some fn) (hb : fn.body = some c) (hn : fn.ntmps = N) (hl : decide (vs.length ≤ N) = true) {σ0 : List (Nat × Value)} (h0 : qev 0 vs = σ0)
  (k : ∀ a, Fr a N [] σ0 → c.wp P (bodyPost P fn R) a w) : Calls P f vs.toArray w R := by
 subst h0
 rw [decide_eq_true_eq] at hl
 refine calls_of_wp hf hb (k _ ⟨by simp [hn]; omega, rfl, fun t v hv => ?_⟩)
 obtain ⟨_, h1⟩ := qec vs 0 t v hv
 rw [Nat.sub_zero] at h1
 have hlt := (List.getElem?_eq_some_iff.1 h1).1
 simp only [Array.getD_eq_getD_getElem?, Array.getElem?_append, List.size_toArray, if_pos hlt]
 simp [h1]
def qf3 (tmps : Array Value) : ResultVar → Sem Value
 | .tmp t => pure (tmps.getD t undef)
 | .cell b t => do loadVar t (← asAddr (tmps.getD b undef))
def qbh (P : Program) (a : Act) (w : World) (r : ResultVar) (v : Value) : Prop := (qf3 a.tmps r).run P w = .ok v w
theorem qdo (fn : Func) (tmps : Array Value) : results fn tmps = (do
 let vs ← fn.results.mapM (qf3 tmps)
 pure (if h : vs.size = 1 then vs[0] else .tuple vs)) := by
 unfold results
 have : qf3 tmps = (fun | .tmp t => pure (tmps.getD t undef) | .cell a t => do loadVar t (← asAddr (tmps.getD a undef))) := by
  funext r; cases r <;> rfl
 rw [this]
 rfl
theorem qbh.tmp {t : Nat} (Z : Fr a n D σ) (h : σ.lookup t = some v) : qbh P a w (.tmp t) v := by
 unfold qbh qf3
 simp only [Z.slot t v h]
 rfl
theorem qbh.cellS {b i g m : Nat} {t tb : TypeId} {cs : Array Value} (Z : Fr a n D σ) (HM : Mem W w fs) (h : σ.lookup b = some (.pointer (some ⟨g, 0, none⟩))) (hi : fs[i]? = some (.blk g cs tb)) (si : SI P t m) (hm : cs.size = m) : qbh P a w (.cell b t) (.agg cs) := by
 obtain ⟨ds, hu, hd⟩ := si.desc
 have hl := run_loadVar_mid (P := P) w g 0 t cs.toList ds (qb (HM.blk hi)) hu hd (by rw [si.size, ← hm]; simp)
 unfold qbh qf3
 simp only [Z.slot b _ h]
 simp [asAddr, hl]
theorem qbh.cell1 {b i g : Nat} {t tb : TypeId} {cs : Array Value} (Z : Fr a n D σ) (HM : Mem W w fs) (h : σ.lookup b = some (.pointer (some ⟨g, 0, none⟩))) (hi : fs[i]? = some (.blk g cs tb)) (ht : isOne P t = true) (hc : cs[0]? = some v) : qbh P a w (.cell b t) v := by
 unfold qbh qf3
 simp only [Z.slot b _ h]
 simp [asAddr, loadVar, qf2 ht, load, Sem.run, HM.cell hi hc]
section
variable {fn : Func} {R : Ending → World → Prop}
theorem ret1 {r1 : ResultVar} {v1 : Value} (hr : fn.results = #[r1]) (Z : Fr a n [] σ) (h1 : qbh P a w r1 v1) (hR : R (.returned v1) w) : bodyPost P fn R .ret a w :=
 bodyPost_ret (v := v1) (by
  unfold qbh at h1
  rw [qdo, hr]
  generalize qf3 a.tmps = f at *
  simp [h1]) Z.defers hR
theorem ret2 {r1 r2 : ResultVar} {v1 v2 : Value} (hr : fn.results = #[r1, r2]) (Z : Fr a n [] σ) (h1 : qbh P a w r1 v1) (h2 : qbh P a w r2 v2) (hR : R (.returned (.tuple #[v1, v2])) w) : bodyPost P fn R .ret a w :=
 bodyPost_ret (v := .tuple #[v1, v2]) (by
  unfold qbh at h1 h2
  rw [qdo, hr]
  generalize qf3 a.tmps = f at *
  simp [h1, h2]) Z.defers hR
theorem ret3 {r1 r2 r3 : ResultVar} {v1 v2 v3 : Value} (hr : fn.results = #[r1, r2, r3]) (Z : Fr a n [] σ) (h1 : qbh P a w r1 v1) (h2 : qbh P a w r2 v2) (h3 : qbh P a w r3 v3) (hR : R (.returned (.tuple #[v1, v2, v3])) w) : bodyPost P fn R .ret a w :=
 bodyPost_ret (v := .tuple #[v1, v2, v3]) (by
  unfold qbh at h1 h2 h3
  rw [qdo, hr]
  generalize qf3 a.tmps = f at *
  simp [h1, h2, h3]) Z.defers hR
end
theorem qtw {c : Operand} {x y : Code} (Z : Fr a n D σ) (hc : look σ c = some (.bool true)) (h : x.wp P Q a w) : (Code.cond c x y).wp P Q a w := wp_cond_true (Z.eval hc) h
theorem qrh {c : Operand} {x y : Code} (Z : Fr a n D σ) (hc : look σ c = some (.bool false)) (h : y.wp P Q a w) : (Code.cond c x y).wp P Q a w := wp_cond_false (Z.eval hc) h
theorem Fr.as {u : Value} {t : Nat} (h : Fr a n D σ) (hl : σ.lookup t = some v) (e : v = u) : Fr a n D ((t, u) :: σ) := by
 subst e
 refine ⟨h.size, h.defers, fun s x hx => ?_⟩
 rw [List.lookup_cons] at hx
 split at hx
 ·rename_i hs
  rw [beq_iff_eq] at hs
  subst hs
  injection hx with hx
  subst hx
  exact h.slot s v hl
 ·exact h.slot s x hx
theorem zk {x y : Code} (R : Act → World → Prop) (h : x.wp P (Exit.then R Q) a w) (k : ∀ a w, R a w → y.wp P Q a w) : (Code.seq x y).wp P Q a w :=
 wp_seq (Code.wp_mono (fun e a w hq => by cases e <;> first | exact k _ _ hq | exact hq) h)
theorem qi {c : Code} (J : Nat → Act → World → Prop) {m : Nat} (h0 : J m a w) (round : ∀ k a w, J k a w → c.wp P (Exit.then (fun a' w' => ∃ k', k' < k ∧ J k' a' w') Q) a w) : (Code.loop c).wp P Q a w := by
 intro b ks cs
 have key : ∀ m a w, J m a w → ∃ e a' w', Q e a' w' ∧ Arrives P (lone (b.at a (.code c :: .inLoop c :: ks)) cs w) b ks cs e a' w' := by
  intro m
  induction m using Nat.strongRecOn with
  | _ m ih =>
   intro a w hJ
   obtain ⟨e, a1, w1, hq, harr⟩ := round m a w hJ b (.inLoop c :: ks) cs
   cases e with
   | normal =>
    obtain ⟨m', hlt, hJ'⟩ := hq
    obtain ⟨e2, a2, w2, hq2, harr2⟩ := ih m' hlt a1 w1 hJ'
    exact ⟨e2, a2, w2, hq2, .of_steps (Steps.trans harr (.one step_inLoop)) harr2⟩
   | exit id => exact ⟨_, a1, w1, hq, .pass (x := .inLoop c) rfl (fun _ _ => .inl (by simp)) harr⟩
   | goto l => exact ⟨_, a1, w1, hq, .pass (x := .inLoop c) rfl (fun _ _ => .inl (by simp)) harr⟩
   | ret => exact ⟨_, a1, w1, hq, .pass (x := .inLoop c) rfl (fun _ _ => .inl (by simp)) harr⟩
   | panic ch => exact ⟨_, a1, w1, hq, .pass (x := .inLoop c) rfl (fun _ _ => .inl (by simp)) harr⟩
   | outgrown => exact ⟨_, a1, w1, hq, .pass (x := .inLoop c) rfl (fun _ _ => .inl (by simp)) harr⟩
 obtain ⟨e, a', w', hq, harr⟩ := key m a w h0
 exact ⟨e, a', w', hq, .of_steps (.one step_loop) harr⟩
end
def putAt (xs : List Value) (off : Nat) (vs : List Value) : List Value := xs.take off ++ vs ++ xs.drop (off + vs.length)
theorem qig {xs : List Value} {off : Nat} {vs : List Value} (h : off + vs.length ≤ xs.length) : (putAt xs off vs).length = xs.length := by
 unfold putAt
 simp only [List.length_append, List.length_take, List.length_drop]
 omega
theorem qmq {xs : List Value} {off : Nat} {vs : List Value} (h : off + vs.length ≤ xs.length) (j : Nat) : (putAt xs off vs)[j]? = if off ≤ j ∧ j < off + vs.length then vs[j - off]? else xs[j]? := by
 unfold putAt
 have h1 : (xs.take off).length = off := by rw [List.length_take]; omega
 rw [List.append_assoc]
 rcases Nat.lt_or_ge j off with h2 | h2
 ·rw [if_neg om, List.getElem?_append_left om, List.getElem?_take, if_pos h2]
 ·rw [List.getElem?_append_right om, h1]
  rcases Nat.lt_or_ge j (off + vs.length) with h3 | h3
  ·rw [if_pos ⟨h2, h3⟩, List.getElem?_append_left om]
  ·rw [if_neg om, List.getElem?_append_right om, List.getElem?_drop]
   congr 1
   omega
theorem qg0 {w : World} {g : Nat} {cur : Array Value} {e : TypeId} (hb : w.heap[g]? = some (.cells cur e (0, 0))) (off : Nat) (vs : List Value) (hl : off + vs.length ≤ cur.size) :
  (w.setCells g off vs).heap[g]? = some (.cells (putAt cur.toList off vs).toArray e (0, 0)) := by
 have h1 : cur = (cur.toList.take off ++ (cur.toList.drop off).take vs.length ++ cur.toList.drop (off + vs.length)).toArray := by
  apply Array.toList_inj.1
  simp only [List.append_assoc]
  rw [← List.drop_drop, List.take_append_drop, List.take_append_drop]
 have h2 := qb6 g e vs w (cur.toList.take off) (cur.toList.drop (off + vs.length)) ((cur.toList.drop off).take vs.length) (by rw [← h1]; exact hb) (by simp only [List.length_take, List.length_drop, Array.length_toList]; omega)
 rw [List.length_take, Array.length_toList, Nat.min_eq_left om] at h2
 exact h2
section
variable {P : Program} {Q : Exit → Act → World → Prop} {a : Act} {W w : World} {n d : Nat} {D : List Deferred} {σ : List (Nat × Value)} {o : Oper} {v : Value} {K : Act → World → Prop} {fs : List Fact}
theorem Mem.rowSet (h : Mem W w fs) {i g m c : Nat} {e : TypeId} {size : Nat} {xs : List Value} (hi : fs[i]? = some (.row (.slice (some ⟨g, 0, none⟩) m c) m xs e size)) {off : Nat} {vs : List Value} (hl : off + vs.length ≤ xs.length) :
  Mem W (w.setCells g off vs) (fs.set i (.row (.slice (some ⟨g, 0, none⟩) m c) m (putAt xs off vs) e size)) := by
 have ho := h.own hi
 obtain ⟨hlen, h2⟩ := ho
 rcases h2 with ⟨h3, _⟩ | ⟨g', cap, cur, hv, hb, hg, hnc, hcm, hcs, ht⟩
 ·cases h3
 ·injection hv with hv hv2 hv3
  injection hv with hv
  injection hv with hv
  subst hv; subst hv3
  have hcur : m * size ≤ cur.size := by rw [hcs]; exact Nat.mul_le_mul_right _ hnc
  refine h.turn hi (below_setCells h.below hb off vs) (fun k hk hne => zz _ _ _ _ _ (fun e => hne (by rw [e]; rfl))) ?_ (fun g' hg' => .inl hg')
  refine ⟨by rw [qig hl]; exact hlen, .inr ⟨g, c, _, rfl, hb, qg0 hg off vs om, hnc, hcm, ?_, ?_⟩⟩
  ·rw [List.size_toArray, qig (by simpa using (by omega : off + vs.length ≤ cur.size)), Array.length_toList, hcs]
  ·show (putAt cur.toList off vs).take (m * size) = putAt xs off vs
   subst ht
   have hl' : off + vs.length ≤ cur.toList.length ∧ off + vs.length ≤ m * size := by
    rw [List.length_take, Array.length_toList] at hl
    rw [Array.length_toList]
    omega
   apply List.ext_getElem?
   intro j
   rw [qmq hl, List.getElem?_take, List.getElem?_take, qmq hl'.1]
   by_cases h3 : off ≤ j ∧ j < off + vs.length
   ·rw [if_pos h3, if_pos om, if_pos h3]
   ·rw [if_neg h3, if_neg h3]
theorem qjk (h : Mem W w fs) {i g m c : Nat} {e : TypeId} {size : Nat} {xs : List Value} (hi : fs[i]? = some (.row (.slice (some ⟨g, 0, none⟩) m c) m xs e size)) (off k : Nat) (hl : off + k ≤ xs.length) : w.there g off k := by
 have ho := h.own hi
 obtain ⟨hlen, h2⟩ := ho
 rcases h2 with ⟨h3, _⟩ | ⟨g', cap, cur, hv, hb, hg, hnc, hcm, hcs, ht⟩
 ·cases h3
 ·injection hv with hv hv2 hv3
  injection hv with hv
  injection hv with hv
  subst hv; subst hv3
  have hcur : m * size ≤ cur.size := by rw [hcs]; exact Nat.mul_le_mul_right _ hnc
  exact zc hg off k om
theorem qjz (Z : Fr a n D σ) (HM : Mem W w fs) {t : TypeId} {x y : Operand} {i g off m c : Nat} {xs : List Value} {e : TypeId} {size : Nat} (hop : o.op = .store t x y) (hd : o.dst = none) (hx : look σ x = some (.pointer (some ⟨g, off, none⟩))) (hy : look σ y = some v) (hs : (P.info? t).map (·.size) = some 1) (hv : v.oneCell' = true)
  (hi : fs[i]? = some (.row (.slice (some ⟨g, 0, none⟩) m c) m xs e size)) (ho : off < xs.length) (k : ∀ w', Mem W w' (fs.set i (.row (.slice (some ⟨g, 0, none⟩) m c) m (putAt xs off [v]) e size)) → K a w') : o.wp P a w K Q := by
 have ht := qjk HM hi off 1 om 0 om
 rw [Nat.add_zero] at ht
 obtain ⟨u, hu⟩ := Option.isSome_iff_exists.1 ht.1
 unfold Oper.wp execOp
 simp only [hop, Z.eval hx, Z.eval hy, Sem.run_bind, qdm hs hv hu ht.2, Result.andThen_ok, Sem.run_pure, Oper.upon_skip, hd]
 exact k _ (HM.rowSet hi (vs := [v]) ho)
theorem Mem.asRow (h : Mem W w fs) {i m : Nat} {e : TypeId} {size : Nat} {xs ys : List Value} (hi : fs[i]? = some (.row v m xs e size)) (he : xs = ys) : Mem W w (fs.set i (.row v m ys e size)) := by
 subst he
 obtain ⟨hl, hg⟩ := List.getElem?_eq_some_iff.1 hi
 rw [← hg, List.set_getElem_self]
 exact h
end
theorem qj0 {α : Type} (f : α → List Value) (sz : Nat) (hf : ∀ x, (f x).length = sz) : ∀ (l : List α) (k : Nat) (x : α), k < l.length → putAt (l.flatMap f) (k * sz) (f x) = (l.set k x).flatMap f
 | [], k, x, h => by simp at h
 | y :: r, 0, x, h => by
  unfold putAt
  rw [Nat.zero_mul, Nat.zero_add, hf, List.flatMap_cons, List.set_cons_zero, List.flatMap_cons, List.take_zero, List.nil_append, List.drop_append_of_le_length (by rw [hf]; exact Nat.le_refl _), List.drop_of_length_le (by rw [hf]; exact Nat.le_refl _), List.nil_append]
 | y :: r, k + 1, x, h => by
  have ih := qj0 f sz hf r k x (by simpa using h)
  unfold putAt at ih ⊢
  rw [List.flatMap_cons, List.set_cons_succ, List.flatMap_cons, ← ih, Nat.succ_mul]
  have e1 : (f y ++ r.flatMap f).take (k * sz + sz) = f y ++ (r.flatMap f).take (k * sz) := by
   rw [List.take_append, List.take_of_length_le (by rw [hf]; omega), hf, Nat.add_sub_cancel]
  have e2 : (f y ++ r.flatMap f).drop (k * sz + sz + (f x).length) = (r.flatMap f).drop (k * sz + (f x).length) := by
   rw [List.drop_append, List.drop_of_length_le (by rw [hf]; omega), List.nil_append, hf y]
   congr 1
   omega
  rw [e1, e2]
  simp only [List.append_assoc]
theorem Mem.qfu {W w : World} {fs : List Fact} (h : Mem W w fs) {α : Type} {f : α → List Value} {sz : Nat} (hf : ∀ x, (f x).length = sz) {i g m c : Nat} {e : TypeId} {l : List α} (hi : fs[i]? = some (.row (.slice (some ⟨g, 0, none⟩) m c) m (l.flatMap f) e sz)) {k off : Nat} {x : α} {v : Value} (hk : l[k]? = some x) (hv : (f x)[off]? = some v) : w.cell? ⟨g, k * sz + off, none⟩ = some v := by
 obtain ⟨hl, he⟩ := List.getElem?_eq_some_iff.1 hk
 have ho : off < sz := by have := (List.getElem?_eq_some_iff.1 hv).1; rwa [hf] at this
 have := h.ql4 hi (k * sz + off) (ys := [v]) (fun j u hu => by
  cases j with
  | zero =>
   injection hu with hu
   subst hu
   rw [Nat.add_zero, qgs f sz hf l k off hl ho, he]
   exact hv
  | succ j => cases hu)
 exact this 0 v rfl
section
variable {w : World} {B size n : Nat} {A : Option Addr} {xs : List Value} {g o : Nat}
theorem Rd.qt (h : Rd w B size A n xs) (hn : 0 < n) (hs : 0 < size) : ∃ g o, A = some ⟨g, o, none⟩ ∧ g < B := by
 obtain ⟨ad, rfl, hb, hc⟩ := h.row hn
 have hl := h.len
 have h1 : n * size ≥ 1 * 1 := Nat.mul_le_mul hn hs
 have hsp := qma (hc 0 _ (List.getElem?_eq_getElem om))
 have hs' : ad.spot = none := by simpa [Addr.add] using hsp
 obtain ⟨g, o, sp⟩ := ad
 cases hs'
 exact ⟨g, o, rfl, hb⟩
theorem Rd.range (h : Rd w B size (some ⟨g, o, none⟩) n xs) : w.rangeAt g o xs := fun j u hu => by
 have hj := (List.getElem?_eq_some_iff.1 hu).1
 rcases Nat.eq_zero_or_pos n with rfl | hn
 ·have := h.len; omega
 ·obtain ⟨ad, e, hb, hc⟩ := h.row hn
  injection e with e
  subst e
  have := hc j u hu
  rwa [Addr.add_mid] at this
theorem Rd.qfd (h : Rd w B 1 (some ⟨g, o, none⟩) n xs) {k : Nat} {u : Value} (hu : xs[k]? = some u) : w.cell? ⟨g, o + k * 1, none⟩ = some u := by rw [Nat.mul_one]; exact h.range k u hu
theorem Rd.qah {α : Type} {f : α → List Value} (hf : ∀ x, (f x).length = size) {l : List α} (h : Rd w B size (some ⟨g, o, none⟩) n (l.flatMap f)) {k : Nat} {x : α} (hk : l[k]? = some x) : w.rangeAt g (o + k * size) (f x) := fun j u hu => by
 obtain ⟨hl, he⟩ := List.getElem?_eq_some_iff.1 hk
 have hj : j < size := by have := (List.getElem?_eq_some_iff.1 hu).1; rwa [hf] at this
 have h1 := h.range (k * size + j) u ((qgs f size hf l k j hl hj).trans (by rw [he]; exact hu))
 rw [← Nat.add_assoc] at h1
 exact h1
theorem Rd.partAt {α : Type} {f : α → List Value} (hf : ∀ x, (f x).length = size) {l : List α} (h : Rd w B size (some ⟨g, o, none⟩) n (l.flatMap f)) {k j : Nat} {x : α} {u : Value} (hk : l[k]? = some x) (hu : (f x)[j]? = some u) : w.cell? ⟨g, o + k * size + j, none⟩ = some u := h.qah hf hk j u hu
end
section
variable {W w : World} {fs : List Fact}
theorem Mem.qk0 (h : Mem W w fs) {i g m c : Nat} {e : TypeId} {xs : List Value} (hi : fs[i]? = some (.row (.slice (some ⟨g, 0, none⟩) m c) m xs e 1)) {k : Nat} {u : Value} (hu : xs[k]? = some u) : w.cell? ⟨g, k * 1, none⟩ = some u := by
 have h1 := h.q24 hi k u hu
 rwa [Nat.zero_add, ← Nat.mul_one k] at h1
theorem Mem.reRow (h : Mem W w fs) {i n n' : Nat} {A : Option Addr} {c size : Nat} {e : TypeId} {xs ys : List Value} (hi : fs[i]? = some (.row (.slice A n c) n xs e size)) (hn : n = n') (hx : xs = ys) : Mem W w (fs.set i (.row (.slice A n' c) n' ys e size)) := by
 subst hn; subst hx
 obtain ⟨hl, he⟩ := List.getElem?_eq_some_iff.1 hi
 rw [← he, List.set_getElem_self]
 exact h
end
theorem qbi {α : Type} {F : α → Value} {l : List α} {k : Nat} {x : α} (h : l[k]? = some x) : (l.map F)[k]? = some (F x) := by rw [List.getElem?_map, h]; rfl
theorem qmr {s : ByteArray} {b : Bool} (h : s.toList.isEmpty = b) : (s.toList == (ByteArray.mk #[]).toList) = b := by
 rw [← h, show (ByteArray.mk #[]).toList = [] from by rw [ByteArray.toList_eq]]
 cases s.toList <;> rfl
section
variable {P : Program} {Q : Exit → Act → World → Prop} {a : Act} {W w : World} {n d : Nat} {D : List Deferred} {σ : List (Nat × Value)} {o : Oper} {K : Act → World → Prop} {fs : List Fact}
theorem qtx (Z : Fr a n D σ) (HM : Mem W w fs) {t e : Nat} {l c : Operand} {z : Value} {size bytes m : Nat} {kl kc : IntKind} (hop : o.op = .makeSlice t l c) (ei : EI P t e z size bytes) (hl : look σ l = some (.int kl 0)) (hc : look σ c = some (.int kc (m : Int))) (hb : bytes * m ≤ 281474976710656) (h63 : m ≤ 9223372036854775807) (hd : o.dst = some d) (hdn : d < n)
  (k : ∀ a' w' g, Fr a' n D ((d, .slice (some ⟨g, 0, none⟩) 0 m) :: σ) → Mem W w' (.row (.slice (some ⟨g, 0, none⟩) 0 m) 0 [] e size :: fs) → K a' w') : o.wp P a w K Q := by
 obtain ⟨i, hi, hz, hsz, hby⟩ := info_parts ei.hi
 obtain ⟨w', hrun, hown, hgr⟩ := run_make_own (P := P) w w.heap.size t e i z size ei.ht hi hz hsz kl kc m (by rw [hby]; exact hb) h63 (Nat.le_refl _)
 have e1 : (execOp a.eval o).run P w = .ok (.value (.slice (some ⟨w.heap.size, 0, none⟩) 0 m)) w' := by
  unfold execOp
  simp only [hop, Z.eval hl, Z.eval hc, Sem.run_bind]
  rw [hrun]
  rfl
 unfold Oper.wp
 rw [e1, Oper.upon_value, hd]
 exact k _ _ _ (Z.put hdn _) (HM.callRow ((Below.refl _ _).grown hgr (Nat.le_refl _) (fun _ h => by cases h)) hown)
theorem q0z (Z : Fr a n D σ) (HM : Mem W w fs) {t e : Nat} {l c : Operand} {z : Value} {size bytes m : Nat} {kl kc : IntKind} (hop : o.op = .makeSlice t l c) (ei : EI P t e z size bytes) (hl : look σ l = some (.int kl (m : Int))) (hc : look σ c = some (.int kc (m : Int))) (hb : bytes * m ≤ 281474976710656) (h63 : m ≤ 9223372036854775807) (hd : o.dst = some d) (hdn : d < n)
  (k : ∀ a' w' g, Fr a' n D ((d, .slice (some ⟨g, 0, none⟩) m m) :: σ) → Mem W w' (.row (.slice (some ⟨g, 0, none⟩) m m) m (madeCells z.cells (m * size)).toList e size :: fs) → K a' w') : o.wp P a w K Q := by
 obtain ⟨i, hi, hz, hsz, hby⟩ := info_parts ei.hi
 obtain ⟨w', hrun, hown, hgr⟩ := run_make_full (P := P) w w.heap.size t e i z size ei.ht hi hz hsz kl kc m (by rw [hby]; exact hb) h63 (Nat.le_refl _)
 have e1 : (execOp a.eval o).run P w = .ok (.value (.slice (some ⟨w.heap.size, 0, none⟩) m m)) w' := by
  unfold execOp
  simp only [hop, Z.eval hl, Z.eval hc, Sem.run_bind]
  rw [hrun]
  rfl
 unfold Oper.wp
 rw [e1, Oper.upon_value, hd]
 exact k _ _ _ (Z.put hdn _) (HM.callRow ((Below.refl _ _).grown hgr (Nat.le_refl _) (fun _ h => by cases h)) hown)
end
theorem Rd.pre {w : World} {B n m : Nat} {A : Option Addr} {l r : List Nat} (h : Rd w B 1 A m ((l ++ r).map B8)) (hl : l.length = n) (hm : n ≤ m) : Rd w B 1 A n (l.map B8) := by
 have h1 := h.upto hm
 rwa [Nat.mul_one, List.map_append, List.take_append_of_le_length (by simp [hl]), List.take_of_length_le (by simp [hl])] at h1
theorem Mem.sub {W w : World} {fs : List Fact} (h : Mem W w fs) {i g : Nat} {cs : Array Value} {t : TypeId} (hi : fs[i]? = some (.blk g cs t)) (off : Nat) {ds : Array Value} (he : (cs.toList.drop off).take ds.size = ds.toList) : w.rangeAt g off ds.toList := fun j u hu => by
 have hr : w.rangeAt g 0 cs.toList := qb (h.blk hi)
 have hc : cs.toList[off + j]? = some u := by
  rw [← he, List.getElem?_take] at hu
  split at hu
  ·rwa [List.getElem?_drop] at hu
  ·cases hu
 have := hr (off + j) u hc
 rwa [Nat.zero_add] at this
theorem qty {α : Type} (F : α → Value) (l : List α) (k : Nat) (x : α) (hk : k < l.length) : putAt (l.map F) (k * 1) [F x] = (l.set k x).map F := by
 have h1 : ∀ l : List α, l.map F = l.flatMap fun x => [F x] := fun l => by induction l with
  | nil => rfl
  | cons a r ih => rw [List.map_cons, List.flatMap_cons, ih]; rfl
 rw [h1, h1, ← qj0 (fun x => [F x]) 1 (fun _ => rfl) l k x hk]
section
variable {P : Program} {S : World → Prop} {σ : List (Nat × Value)} {o : Oper}
end
theorem Rd.toB8 {w : World} {B n k : Nat} {A : Option Addr} {l : List Nat} (h : Rd w B 1 A n (l.map B8)) (hk : k ≤ n) : Rd w B 1 A k ((l.take k).map B8) := by
 have h1 := h.upto hk
 rwa [Nat.mul_one, ← List.map_take] at h1
def I64i (x : Int) : Value := .int .i64 x
theorem Mem.q0n {W w : World} {fs fs' : List Fact} (h : Mem W w fs) (n : Nat) (is : List Nat) (hn : is.Nodup) (hlt : (is.all (· < n)) = true) (he : Go.Proofs.YtpklccgmjhikeaaGreatDoor.picks fs is ++ fs.drop n = fs') : Mem W w fs' := by
 subst he
 refine ⟨h.below, fun f hf => ?_, List.pairwise_append.2 ⟨qbw h.apart hn, ?_, ?_⟩⟩
 ·rcases List.mem_append.1 hf with hf | hf
  ·obtain ⟨j, _, hj⟩ := List.mem_filterMap.1 hf
   exact h.holds f (List.mem_of_getElem? hj)
  ·exact h.holds f (List.mem_of_mem_drop hf)
 ·exact h.apart.sublist (List.drop_sublist _ _)
 ·intro f hf g hg
  obtain ⟨j, hj, hjf⟩ := List.mem_filterMap.1 hf
  have hjn : j < n := by simpa using List.all_eq_true.1 hlt j hj
  obtain ⟨i, hi, hig⟩ := List.getElem_of_mem hg
  rw [List.getElem_drop] at hig
  rw [List.length_drop] at hi
  obtain ⟨hjl, hje⟩ := List.getElem?_eq_some_iff.1 hjf
  have := List.pairwise_iff_getElem.1 h.apart j (n + i) hjl om om
  rwa [hje, hig] at this
end Go.Proofs.YtpklccgmjhikeaaGreatDoor
namespace Go.Proofs.YtpklccgmjhikeaaGreatDoor
open Go.RowKit Go.MapKept
section
variable {P : Program} {Q : Exit → Act → World → Prop} {a : Act} {W w : World} {n d : Nat} {D : List Deferred} {σ : List (Nat × Value)} {o : Oper} {K : Act → World → Prop} {fs : List Fact} {S : World → Prop}
theorem Mem.objAt (h : Mem W w fs) {i g : Nat} {ob : Obj} (hi : fs[i]? = some (.obj g ob)) : w.heap[g]? = some ob := (h.holds _ (List.mem_of_getElem? hi)).2
theorem Mem.setObj (h : Mem W w fs) {i g : Nat} {ob : Obj} (hi : fs[i]? = some (.obj g ob)) (ob' : Obj) : Mem W { w with heap := w.heap.setIfInBounds g ob' } (fs.set i (.obj g ob')) := by
 have hb := h.holds _ (List.mem_of_getElem? hi)
 have hlt := zt hb.2
 have hother : ∀ k, k ≠ g → (w.heap.setIfInBounds g ob')[k]? = w.heap[k]? := fun k hk => Array.getElem?_setIfInBounds_ne (Ne.symm hk)
 refine h.turn hi ⟨h.below.os, h.below.tape, h.below.output, by simpa using h.below.size, fun k hk => ?_⟩ (fun k _ hne => hother k (fun e => hne (by rw [e]; rfl))) ⟨hb.1, ?_⟩ (fun g' hg' => .inl hg')
 ·have := hb.1
  exact (hother k om).trans (h.below.block k hk)
 ·show (w.heap.setIfInBounds g ob')[g]? = some ob'
  rw [Array.getElem?_setIfInBounds_self]
  simp [hlt]
theorem qtz (Z : Fr a n D σ) (HM : Mem W w fs) {t : TypeId} (hop : o.op = .makeMap t none) (hd : o.dst = some d) (hdn : d < n)
  (k : ∀ a' w' g, Fr a' n D ((d, .map (some g)) :: σ) → Mem W w' (.obj g (.map #[] 0) :: fs) → K a' w') : o.wp P a w K Q := by
 have e1 : (execOp a.eval o).run P w = .ok (.value (.map (some w.heap.size))) (w.alloc (.map #[] 0)) := by
  unfold execOp
  simp only [hop, Sem.run_bind]
  rfl
 unfold Oper.wp
 rw [e1, Oper.upon_value, hd]
 exact k _ _ _ (Z.put hdn _) (HM.allocObj _)
theorem qp7 (Z : Fr a n D σ) (HM : Mem W w fs) {t kt et : TypeId} {kd : TypeDesc} {m x y : Operand} {i g clock : Nat} {es : Array MapEntry} {key val : Value} (hop : o.op = .mapUpdate t m x y ∨ o.op = .insert t m x y) (hd : o.dst = none) (ht : P.underlying t = some (.map kt et)) (hk : P.underlying kt = some kd)
  (hm : look σ m = some (.map (some g))) (hx : look σ x = some key) (hy : look σ y = some val) (hi : fs[i]? = some (.obj g (.map es clock))) (hkey : IsKey kd key) (hf : Instr.findNow kd key es.toList 0 = some none)
  (k : ∀ w', Mem W w' (fs.set i (.obj g (.map (es.push { key, val, born := clock }) (clock + 1)))) → K a w') : o.wp P a w K Q := by
 have hb := HM.objAt hi
 have e1 : (Instr.mapUpdate t (.map (some g)) key val).run P w = .ok () { w with heap := w.heap.setIfInBounds g (.map (es.push { key, val, born := clock }) (clock + 1)) } := by
  unfold Instr.mapUpdate
  simp only [Sem.run_bind, run_underlying ht, Result.andThen_ok, MapKept.run_getObj_map hb, run_checkKey hk hkey, run_findKey hk hf, MapKept.run_setObj_map _ hb]
 unfold Oper.wp execOp
 rcases hop with hop | hop <;> simp only [hop, Z.eval hm, Z.eval hx, Z.eval hy, Sem.run_bind, e1, Result.andThen_ok, Sem.run_pure, Oper.upon_skip, hd]
 ·exact k _ (HM.setObj hi _)
 ·exact k _ (HM.setObj hi _)
theorem Yl.qob {t kt et : TypeId} {kd : TypeDesc} {m x : Operand} {g clock j : Nat} {es : Array MapEntry} {key v : Value} (hop : o.op = .lookup t m x false) (ht : P.underlying t = some (.map kt et)) (hk : P.underlying kt = some kd) (hm : look σ m = some (.map (some g))) (hx : look σ x = some key) (hb : ∀ w, S w → w.heap[g]? = some (.map es clock)) (hkey : IsKey kd key) (hf : Instr.findNow kd key es.toList 0 = some (some (j, v))) :
  Yl P S σ o v := fun a n D Z w hS => by
 have e1 : (Instr.lookup t (.map (some g)) key false).run P w = .ok v w := by
  unfold Instr.lookup
  simp only [Sem.run_bind, run_underlying ht, Result.andThen_ok, MapKept.run_getObj_map (hb w hS), Sem.run_pure, run_checkKey hk hkey, run_findKey hk hf]
  rfl
 unfold execOp
 simp only [hop, Z.eval hm, Z.eval hx, Sem.run_bind, e1, Result.andThen_ok, Sem.run_pure]
theorem Yl.qs3 {t kt et : TypeId} {kd : TypeDesc} {m x : Operand} {g clock : Nat} {es : Array MapEntry} {key z : Value} (hop : o.op = .lookup t m x false) (ht : P.underlying t = some (.map kt et)) (hk : P.underlying kt = some kd) (hm : look σ m = some (.map (some g))) (hx : look σ x = some key) (hb : ∀ w, S w → w.heap[g]? = some (.map es clock)) (hkey : IsKey kd key) (hf : Instr.findNow kd key es.toList 0 = some none) (hz : (P.info? et).bind (·.zero) = some z) :
  Yl P S σ o z := fun a n D Z w hS => by
 obtain ⟨inf, hi, hiz⟩ := Option.bind_eq_some_iff.1 hz
 have e1 : (Instr.lookup t (.map (some g)) key false).run P w = .ok z w := by
  unfold Instr.lookup
  simp only [Sem.run_bind, run_underlying ht, Result.andThen_ok, MapKept.run_getObj_map (hb w hS), Sem.run_pure, run_checkKey hk hkey, run_findKey hk hf, zeroValue, typeInfo, program, Sem.run, hi, hiz]
  rfl
 unfold execOp
 simp only [hop, Z.eval hm, Z.eval hx, Sem.run_bind, e1, Result.andThen_ok, Sem.run_pure]
theorem Yl.makeFunc {fn : Fn} {xs ys : Array Operand} {fst caps : List Value} (hop : o.op = .makeFunc fn xs ys) (hx : looks σ xs.toList = some fst) (hy : looks σ ys.toList = some caps) : Yl P S σ o (.func fn fst.toArray caps.toArray) := fun a n D Z w hS => by
 have e1 : xs.map a.eval = fst.toArray := by
  have := qc7 Z hx
  rw [← this, ← Array.toList_map, Array.toArray_toList]
 have e2 : ys.map a.eval = caps.toArray := by
  have := qc7 Z hy
  rw [← this, ← Array.toList_map, Array.toArray_toList]
 unfold execOp
 simp only [hop, Instr.makeFunc, Sem.run_bind, Sem.run_pure, Result.andThen_ok]
 show Result.ok (Next.value (.func fn (Array.map a.eval xs) (Array.map a.eval ys))) w = _
 rw [e1, e2]
theorem qcy (Z : Fr a n D σ) {fo : Operand} {f : FuncId} {xs : Array Operand} {ts : Array TypeId} {vs fst caps : List Value} {R : Ending → World → Prop} (hop : o.op = .call { callee := .value fo, args := xs, argTypes := ts }) (hfo : look σ fo = some (.func (.func f) fst.toArray caps.toArray)) (hv : looks σ xs.toList = some vs) (hf : callable P f = true) (hd : o.dst = some d) (hdn : d < n)
  (hC : Calls P f (fst ++ vs ++ caps).toArray w R) (k : ∀ e w', R e w' → ∃ v, e = .returned v ∧ ∀ a', Fr a' n D ((d, v) :: σ) → K a' w') : o.wp P a w K Q := by
 have e1 : xs.map a.eval = vs.toArray := by
  have := qc7 Z hv
  rw [← this, ← Array.toList_map, Array.toArray_toList]
 unfold Oper.wp execOp
 simp only [hop, resolve, Z.eval hfo, Deferred.ofValue, invoke, Sem.run_bind, Sem.run_pure, Result.andThen_ok]
 have e3 : fst.toArray ++ Array.map a.eval xs ++ caps.toArray = (fst ++ vs ++ caps).toArray := by simp [e1]
 show Oper.upon P o a K Q (((callFunc f (fst.toArray ++ Array.map a.eval xs ++ caps.toArray)).run P w))
 rw [e3, qeb hf, Oper.upon_enter]
 refine hC.mono fun e w' he => ?_
 obtain ⟨v, rfl, h2⟩ := k e w' he
 show K (a.put o.dst v) w'
 rw [hd]
 exact h2 _ (Z.put hdn v)
end
end Go.Proofs.YtpklccgmjhikeaaGreatDoor
namespace Go.Proofs.YtpklccgmjhikeaaGreatDoor
open Go.RowKit
def mostN : Go.IntKind → Nat
 | .i8 => 127 | .i16 => 32767 | .i32 => 2147483647 | .i64 => 9223372036854775807
 | .u8 => 255 | .u16 => 65535 | .u32 => 4294967295 | .u64 => 18446744073709551615
theorem qbx (k : Go.IntKind) {m : Nat} (h : m ≤ mostN k) : Go.IntKind.wrap k (m : Int) = (m : Int) := by
 cases k <;> simp only [mostN] at h
 ·exact IntWalk.i8_in _ om
 ·exact IntWalk.i16_in _ om
 ·exact IntWalk.i32_in _ om
 ·exact IntWalk.i64_in _ om
 ·exact IntWalk.u8_in _ om
 ·exact IntWalk.u16_in _ om
 ·exact IntWalk.u32_in _ om
 ·exact IntWalk.u64_in _ om
theorem qap {x : Int} {m : Nat} (h : x = (m : Int)) (hb : m ≤ 9223372036854775807) : Value.int .i64 (Go.IntKind.i64.wrap x) = .int .i64 (m : Int) := by subst h; rw [qbx .i64 hb]
theorem qcm {x : Int} {m : Nat} (h : x = (m : Int)) (hb : m ≤ 18446744073709551615) : Value.int .u64 (Go.IntKind.u64.wrap x) = .int .u64 (m : Int) := by subst h; rw [qbx .u64 hb]
theorem qg1 {x : Int} {m : Nat} (h : x = (m : Int)) (hb : m ≤ 4294967295) : Value.int .u32 (Go.IntKind.u32.wrap x) = .int .u32 (m : Int) := by subst h; rw [qbx .u32 hb]
theorem q2e {x : Int} {m : Nat} (h : x = (m : Int)) (hb : m ≤ 255) : Value.int .u8 (Go.IntKind.u8.wrap x) = .int .u8 (m : Int) := by subst h; rw [qbx .u8 hb]
theorem qa9 (m : Nat) : Value.int .u8 (Go.IntKind.u8.wrap (m : Int)) = .int .u8 ((m % 256 : Nat) : Int) := by
 rw [Go.IntKind.wrap_u8]; simp
theorem qae (k : Go.IntKind) (m n : Nat) : Value.int k (Int.tmod (m : Int) (n : Int)) = .int k ((m % n : Nat) : Int) := by rw [Int.tmod_eq_emod_of_nonneg om]; rfl
theorem qbf (k : Go.IntKind) {m : Nat} (n : Nat) (h : m ≤ mostN k) : Value.int k (Go.IntKind.wrap k (Int.tdiv (m : Int) (n : Int))) = .int k ((m / n : Nat) : Int) := by
 rw [Int.tdiv_eq_ediv_of_nonneg om, show ((m : Int) / (n : Int)) = ((m / n : Nat) : Int) from rfl, qbx k (Nat.le_trans (Nat.div_le_self _ _) h)]
theorem qdp (k : Go.IntKind) (m : Nat) {j : Nat} {p : Int} {q : Nat} (hp : p = (j : Int)) (hq : 2 ^ (min p.toNat k.bits) = q) : Value.int k (Int.fdiv (m : Int) (2 ^ (min p.toNat k.bits))) = .int k ((m / q : Nat) : Int) := by
 subst hp; subst hq
 congr 1
 rw [Int.fdiv_eq_ediv_of_nonneg _ (by exact_mod_cast Nat.zero_le _)]
 norm_cast
theorem qc8 (w : Nat) {m : Nat} (h : m < 2 ^ w) : (BitVec.ofInt w (m : Int)).toNat = m := by
 rw [BitVec.toNat_ofInt]
 have : ((m : Int) % ((2 ^ w : Nat) : Int)) = (m : Int) := Int.emod_eq_of_lt om (by exact_mod_cast h)
 rw [this]; rfl
theorem q00 (k : Go.IntKind) {m n : Nat} (hm : m < 2 ^ k.bits) (hn : n < 2 ^ k.bits) (hr : m &&& n ≤ mostN k) : Value.int k (Go.IntKind.wrap k (BitVec.ofInt k.bits (m : Int) &&& BitVec.ofInt k.bits (n : Int)).toNat) = .int k ((m &&& n : Nat) : Int) := by
 rw [BitVec.toNat_and, qc8 _ hm, qc8 _ hn, qbx k hr]
theorem qzv (k : Go.IntKind) {m n : Nat} (hm : m < 2 ^ k.bits) (hn : n < 2 ^ k.bits) (hr : m ||| n ≤ mostN k) : Value.int k (Go.IntKind.wrap k (BitVec.ofInt k.bits (m : Int) ||| BitVec.ofInt k.bits (n : Int)).toNat) = .int k ((m ||| n : Nat) : Int) := by
 rw [BitVec.toNat_or, qc8 _ hm, qc8 _ hn, qbx k hr]
theorem qt0 (k : Go.IntKind) {m n : Nat} (hm : m < 2 ^ k.bits) (hn : n < 2 ^ k.bits) (hr : m ^^^ n ≤ mostN k) : Value.int k (Go.IntKind.wrap k (BitVec.ofInt k.bits (m : Int) ^^^ BitVec.ofInt k.bits (n : Int)).toNat) = .int k ((m ^^^ n : Nat) : Int) := by
 rw [BitVec.toNat_xor, qc8 _ hm, qc8 _ hn, qbx k hr]
theorem qxo (k : Go.IntKind) {m j n : Nat} (hn : n = 2 ^ j - 1) (hj : 2 ^ j - 1 ≤ mostN k) (hm : m < 2 ^ k.bits) (hn2 : n < 2 ^ k.bits) : Value.int k (Go.IntKind.wrap k (BitVec.ofInt k.bits (m : Int) &&& BitVec.ofInt k.bits (n : Int)).toNat) = .int k ((m % 2 ^ j : Nat) : Int) := by
 subst hn
 have h := Nat.and_two_pow_sub_one_eq_mod m j
 rw [q00 k hm hn2 (by rw [h]; have := Nat.mod_lt m (Nat.two_pow_pos j); omega), h]
theorem q2f {m n : Nat} (hm : m < 256) (hn : n < 256) : Value.int .u8 (Go.IntKind.u8.wrap (BitVec.ofInt Go.IntKind.u8.bits (m : Int) ^^^ BitVec.ofInt Go.IntKind.u8.bits (n : Int)).toNat) = .int .u8 ((m ^^^ n : Nat) : Int) :=
 qt0 .u8 (by show m < 256; omega) (by show n < 256; omega) (by have h : m ^^^ n < 256 := Nat.xor_lt_two_pow (n := 8) (by simpa using hm) (by simpa using hn); show _ ≤ 255; omega)
theorem q2g {m n : Nat} (hm : m < 4294967296) (hn : n < 4294967296) : Value.int .u32 (Go.IntKind.u32.wrap (BitVec.ofInt Go.IntKind.u32.bits (m : Int) ||| BitVec.ofInt Go.IntKind.u32.bits (n : Int)).toNat) = .int .u32 ((m ||| n : Nat) : Int) :=
 qzv .u32 (by show m < 4294967296; omega) (by show n < 4294967296; omega) (by have h : m ||| n < 4294967296 := Nat.or_lt_two_pow (n := 32) (by simpa using hm) (by simpa using hn); show _ ≤ 4294967295; omega)
theorem qih {m n : Nat} (hm : m < 4294967296) (hn : n < 4294967296) : Value.int .u32 (Go.IntKind.u32.wrap (BitVec.ofInt Go.IntKind.u32.bits (m : Int) ^^^ BitVec.ofInt Go.IntKind.u32.bits (n : Int)).toNat) = .int .u32 ((m ^^^ n : Nat) : Int) :=
 qt0 .u32 (by show m < 4294967296; omega) (by show n < 4294967296; omega) (by have h : m ^^^ n < 4294967296 := Nat.xor_lt_two_pow (n := 32) (by simpa using hm) (by simpa using hn); show _ ≤ 4294967295; omega)
theorem qp8 {m j n : Nat} (hn : n = 2 ^ j - 1) (hn2 : n < 4294967296) (hm : m < 4294967296) : Value.int .u32 (Go.IntKind.u32.wrap (BitVec.ofInt Go.IntKind.u32.bits (m : Int) &&& BitVec.ofInt Go.IntKind.u32.bits (n : Int)).toNat) = .int .u32 ((m % 2 ^ j : Nat) : Int) :=
 qxo .u32 hn (by rw [← hn]; show n ≤ 4294967295; omega) (by show m < 4294967296; omega) (by show n < 4294967296; omega)
theorem q2h {m n : Nat} (hm : m < 9223372036854775808) (hn : n < 9223372036854775808) : Value.int .i64 (Go.IntKind.i64.wrap (BitVec.ofInt Go.IntKind.i64.bits (m : Int) ||| BitVec.ofInt Go.IntKind.i64.bits (n : Int)).toNat) = .int .i64 ((m ||| n : Nat) : Int) :=
 qzv .i64 (by show m < 18446744073709551616; omega) (by show n < 18446744073709551616; omega) (by have h : m ||| n < 9223372036854775808 := Nat.or_lt_two_pow (n := 63) (by simpa using hm) (by simpa using hn); show _ ≤ 9223372036854775807; omega)
theorem getD_at {α : Type} {l : List α} {k : Nat} (d : α) (h : k < l.length) : l[k]? = some (l.getD k d) := by
 rw [List.getD_eq_getElem?_getD, List.getElem?_eq_getElem h]; rfl
theorem qa5 {α : Type} {l : List α} {k : Nat} (d : α) (h : k < l.length) : l.getD k d ∈ l := List.mem_of_getElem? (getD_at d h)
theorem getD_lt {l : List Nat} {m : Nat} (hl : ∀ b ∈ l, b < m) {k : Nat} (h : k < l.length) : l.getD k 0 < m := hl _ (qa5 0 h)
end Go.Proofs.YtpklccgmjhikeaaGreatDoor
namespace Go.Proofs.YtpklccgmjhikeaaGreatDoor
open Go.RowKit Go.MapKept
def entOf (p : Nat × Nat) (b : Nat) : MapEntry := { key := .int .i64 (p.1 : Int), val := .int .i64 (p.2 : Int), born := b }
def entsF : Nat → List (Nat × Nat) → List MapEntry
 | _, [] => []
 | b, p :: l => entOf p b :: entsF (b + 1) l
def mapA (l : List (Nat × Nat)) : Array MapEntry := (entsF 0 l).toArray
section
variable {P : Program} {Q : Exit → Act → World → Prop} {a : Act} {W w : World} {n d : Nat} {D : List Deferred} {σ : List (Nat × Value)} {o : Oper} {K : Act → World → Prop} {fs : List Fact} {S : World → Prop}
end
structure Counted (l : List (Nat × Nat)) (seen : Array Nat) (c : Nat) : Prop where
 odd : (c : Int) % 2 = seenSum (mapA l).toList seen % 2
 few : c + (leftOf (mapA l) seen).size ≤ l.length
end Go.Proofs.YtpklccgmjhikeaaGreatDoor
namespace Go.Proofs.YtpklccgmjhikeaaGreatDoor
open Go.RowKit
section
variable {W w w' : World} {fs gs fs' : List Fact}
theorem Mem.perm (h : Mem W w fs) (hp : fs.Perm fs') : Mem W w fs' :=
 ⟨h.below, fun f hf => h.holds f (hp.mem_iff.2 hf), (hp.pairwise_iff (fun {_ _} hab => hab.symm)).1 h.apart⟩
theorem Mem.subl (h : Mem W w fs) (hs : fs'.Sublist fs) : Mem W w fs' :=
 ⟨h.below, fun f hf => h.holds f (hs.subset hf), h.apart.sublist hs⟩
theorem Fact.holds.base {b b' : Nat} {f : Fact} (h : f.holds b w) (hb : b' ≤ b) : f.holds b' w := by
 cases f with
 | blk g cs t => exact ⟨Nat.le_trans hb h.1, h.2⟩
 | obj g o => exact ⟨Nat.le_trans hb h.1, h.2⟩
 | row v n xs e size => exact qeq h hb
theorem Mem.join (h : Mem W w fs) (k : Mem w w' gs) : Mem W w' (gs ++ fs) := by
 have hf := h.call k.below
 refine ⟨hf.below, ?_, ?_⟩
 ·intro f hm
  rcases List.mem_append.1 hm with hm | hm
  ·exact (k.holds f hm).base h.size
  ·exact hf.holds f hm
 ·refine List.pairwise_append.2 ⟨k.apart, h.apart, ?_⟩
  intro f hfm g hgm x hx hgx
  have h1 := ((k.holds f hfm).lt hx).1
  have h2 := ((h.holds g hgm).lt hgx).2
  omega
theorem Mem.q3c {A : Option Addr} {n c : Nat} {xs : List Value} {e : TypeId} {size : Nat} (h : Mem W w fs) (hf : Fact.row (.slice A n c) n xs e size ∈ fs) : Rd w w.heap.size size A n xs := by
 obtain ⟨i, hi⟩ := List.mem_iff_getElem?.1 hf
 exact h.rd hi
structure Own where
 A : Option Addr
 n : Nat
 c : Nat
 xs : List Value
def Own.fact (e : TypeId) (size : Nat) (p : Own) : Fact := .row (.slice p.A p.n p.c) p.n p.xs e size
def ownsF (e : TypeId) (size : Nat) (ps : List Own) : List Fact := ps.map (Own.fact e size)
end
section
variable {P : Program} {ops : Array Oper} {Q : Exit → Act → World → Prop} {a : Act} {w : World}
end
section
variable {P : Program} {ops : Array Oper} {Q : Exit → Act → World → Prop} {a : Act} {W w : World} {l n N i d : Nat} {D : List Deferred} {σ σ' : List (Nat × Value)} {K : Act → World → Prop} {fs : List Fact} {o : Oper}
theorem qiu (hQ : ¬ LetsOut Q) : ∀ (os : List Oper), (∀ o ∈ os, ∀ c, o.op ≠ .defer c) → ∀ a w, wpList P ops Q os a w → wpListIn (Fence.wide.inRound l) 0 P ops Q os a w
 | [], _, _, _, h => h
 | o :: os, hos, a, w, h => by
  unfold wpList at h
  unfold wpListIn
  split at h
  ·rename_i hw
   rw [if_pos hw]
   exact qmi (hos o List.mem_cons_self) hQ (fun a w h => qiu hQ os (fun o ho => hos o (List.mem_cons_of_mem _ ho)) a w h) h
  ·rename_i hw
   rw [if_neg hw]
   exact ⟨fun _ _ => trivial, qiu hQ os (fun o ho => hos o (List.mem_cons_of_mem _ ho)) _ _ h⟩
theorem zo {id : Nat} (h : qg P ops Q 0 a w) (hd : qia ops = true := by kernel_rfl) (hQ : ¬ LetsOut Q := by intro ⟨_, _, h⟩; exact h) : (Code.region id ops false).wpIn (Fence.wide.inRound l) 0 P Q a w :=
 wpIn_region_list (qiu hQ _ (fun o ho => by
  obtain ⟨j, hj⟩ := List.mem_iff_getElem?.1 ho
  exact qjw hd (i := j) (by simpa using hj)) a w (by simpa [qg] using h))
theorem qus {id : Nat} (HM : Mem W w fs) (fs' : List Fact) (m : Nat) (is ex : List Nat) (h : Mem W w.drew fs → Mem W w.drew fs' → qj P .any ops Q (fun wS => Mem W wS fs') ex ops.size (Array.replicate ops.size false) a w.drew)
  (hm : P.follows .mixedOrders = true := by kernel_rfl) (hn : is.Nodup := by decide) (hlt : (is.all (· < m)) = true := by decide) (he : picks fs is ++ fs.drop m = fs' := by rfl) (hd : qia ops = true := by kernel_rfl) (hQ : ¬ LetsOut Q := by intro ⟨_, _, h⟩; exact h) : (Code.region id ops true).wpIn (Fence.wide.inRound l) 0 P Q a w :=
 wpIn_region_any hm (qfz hd hQ _ _ _ _ (qdl _ _ _ _ (h HM.drew (HM.drew.q0n m is hn hlt he))))
theorem qiv {F : Fence} {c : Operand} {x y : Code} (Z : Fr a n D σ) (hc : look σ c = some (.bool true)) (h : x.wpIn F 0 P Q a w) : (Code.cond c x y).wpIn F 0 P Q a w := wpIn_cond_true (Z.eval hc) h
theorem qhn {F : Fence} {c : Operand} {x y : Code} (Z : Fr a n D σ) (hc : look σ c = some (.bool false)) (h : y.wpIn F 0 P Q a w) : (Code.cond c x y).wpIn F 0 P Q a w := wpIn_cond_false (Z.eval hc) h
def qco (fn : FuncId) (tmps : Array Value) (ps : Array Tmp) (assign body : Code) (D : Nat) (st : LoopState) (pe : Option Code) : Loop := { state := st, pending := pe, fn, tmps, params := ps, assign, body, defers := D }
def roundEnd (W : World) (l : Nat) (rec : LoopState → Option Code → Loop) (R : Ending → World → Prop) : Exit → Act → World → Prop
 | .normal, _, w => ∃ F, Mem W w (.obj l (.loop (rec .busy none)) :: F) ∧ ∀ w', Mem W w' (.obj l (.loop (rec .ready none)) :: F) → R (.returned (.bool true)) w'
 | .ret, _, w => ∃ F, Mem W w (.obj l (.loop (rec .busy none)) :: F) ∧ ∀ w', Mem W w' (.obj l (.loop (rec .done (some .ret))) :: F) → R (.returned (.bool false)) w'
 | .exit id, _, w => ∃ F, Mem W w (.obj l (.loop (rec .busy none)) :: F) ∧ ∀ w', Mem W w' (.obj l (.loop (rec .done (some (.exit id)))) :: F) → R (.returned (.bool false)) w'
 | _, _, _ => False
theorem qov {fn : FuncId} {tmps : Array Value} {ps : Array Tmp} {assign body : Code} {B : Nat} {args : Array Value} {F : List Fact} {R : Ending → World → Prop} (HM : Mem W w (.obj l (.loop (qco fn tmps ps assign body B .ready none)) :: F)) (hs : args.size = ps.size)
  (h : assign.wpIn (Fence.wide.inRound l) 0 P (Exit.then (fun a1 w1 => ∃ F1, Mem W w1 (.obj l (.loop (qco fn tmps ps assign body B .ready none)) :: F1) ∧ ∀ w2, Mem W w2 (.obj l (.loop (qco fn tmps ps assign body B .busy none)) :: F1) → body.wpIn (Fence.wide.inRound l) 0 P (roundEnd W l (qco fn tmps ps assign body B) R) a1 w2) (fun _ _ _ => False))
   { tmps := (ps.zip args).foldl (fun t (p, v) => t.setIfInBounds p v) tmps, defers := [] } w) : YieldAt Fence.wide 0 P l args w R := by
 have hl := HM.objAt (i := 0) rfl
 refine ⟨fn, _, assign, body, run_yield hl hs, roundIn_of_wpIn trivial (wpIn_mono h ?_)⟩
 rintro e a1 w1 hq
 cases e with
 | normal =>
  obtain ⟨F1, h1, h2⟩ := hq
  refine ⟨_, run_beginRound (h1.objAt (i := 0) rfl) rfl, ?_⟩
  refine wpIn_mono (h2 _ (h1.setObj (i := 0) rfl _)) ?_
  rintro e a2 w2 hq
  cases e with
  | normal =>
   obtain ⟨F2, h3, h4⟩ := hq
   exact ⟨_, _, run_endRound none (h3.objAt (i := 0) rfl), h4 _ (h3.setObj (i := 0) rfl _)⟩
  | ret =>
   obtain ⟨F2, h3, h4⟩ := hq
   exact ⟨_, _, run_endRound (some .ret) (h3.objAt (i := 0) rfl), h4 _ (h3.setObj (i := 0) rfl _)⟩
  | exit id =>
   obtain ⟨F2, h3, h4⟩ := hq
   exact ⟨_, _, run_endRound (some (.exit id)) (h3.objAt (i := 0) rfl), h4 _ (h3.setObj (i := 0) rfl _)⟩
  | goto t => exact hq.elim
  | panic c => exact hq.elim
  | outgrown => exact hq.elim
 | exit id => exact hq.elim
 | goto t => exact hq.elim
 | ret => exact hq.elim
 | panic c => exact hq.elim
 | outgrown => exact hq.elim
theorem Fr.zip2 {tmps : Array Value} {p1 p2 : Nat} {v1 v2 : Value} (h : Fr { tmps := tmps, defers := [] } n D σ) (h1 : p1 < n) (h2 : p2 < n) : Fr { tmps := (#[p1, p2].zip #[v1, v2]).foldl (fun t (p, v) => t.setIfInBounds p v) tmps, defers := [] } n D ((p2, v2) :: (p1, v1) :: σ) := by
 have h3 := (h.put h1 v1).put h2 v2
 simpa [Act.put] using h3
theorem qho {rec : LoopState → Option Code → Loop} {assign body : Code} {B p1 p2 : Nat} {v1 v2 : Value} {F : List Fact} {R : Ending → World → Prop} (hrec : ∃ fn tmps, rec = qco fn tmps #[p1, p2] assign body B ∧ Fr { tmps := tmps, defers := [] } n [] σ) (HM : Mem W w (.obj l (.loop (rec .ready none)) :: F)) (h1 : p1 < n) (h2 : p2 < n)
  (h : ∀ a, Fr a n [] ((p2, v2) :: (p1, v1) :: σ) → assign.wpIn (Fence.wide.inRound l) 0 P (Exit.then (fun a1 w1 => ∃ F1, Mem W w1 (.obj l (.loop (rec .ready none)) :: F1) ∧ ∀ w2, Mem W w2 (.obj l (.loop (rec .busy none)) :: F1) → body.wpIn (Fence.wide.inRound l) 0 P (roundEnd W l rec R) a1 w2) (fun _ _ _ => False)) a w) : YieldAt Fence.wide 0 P l #[v1, v2] w R := by
 obtain ⟨fn, tmps, rfl, Z⟩ := hrec
 exact qov HM rfl (h _ (Z.zip2 h1 h2))
theorem qqe {a : Act} {w : World} {K K' : Act → World → Prop} (hQ : ¬ LetsOut Q) (hK : ∀ a w, K a w → K' a w) (h : o.wp P a w K Q ∨ (o.asks P a w ∧ LetsOut Q)) : o.wpIn Fence.wide 0 P a w K' Q := by
 rcases h with h | h
 ·refine ⟨fun _ _ => trivial, ?_⟩
  rw [show Fence.wide.round = none from rfl, Oper.semAt_none]
  unfold Oper.wp at h
  generalize (execOp a.eval o).run P w = r at h
  cases r with
  | ok x w' =>
   cases x with
   | value v => exact hK _ _ h
   | skip => exact hK _ _ h
   | defer d => exact hK _ _ h
   | enter f args =>
    refine ⟨fun h => by simp [Fence.wide] at h, ?_⟩
    show CallsIn Fence.wide 0 P f args w' _
    refine (callsIn_wide.2 h).mono ?_
    intro e w'' he
    cases e with
    | returned v => exact hK _ _ he
    | panicked c => exact he
    | outgrown => exact he
   | row r args =>
    refine ⟨fun h => by simp [Fence.wide] at h, fun c cs _ => ?_⟩
    obtain ⟨v, w'', h1, h2⟩ := (h : Rows P r args w' _) c cs
    exact ⟨v, w'', hK _ _ h1, stepsIn_wide.2 h2⟩
   | _ => exact (h : False).elim
  | halt hh w' =>
   cases hh with
   | panic v => exact h
   | _ => exact (h : False).elim
 ·exact absurd h.2 hQ
theorem qlh (hQ : ¬ LetsOut Q) : ∀ (os : List Oper) (a : Act) (w : World), wpList P ops Q os a w → wpListIn Fence.wide 0 P ops Q os a w
 | [], _, _, h => h
 | o :: os, a, w, h => by
  unfold wpList at h
  unfold wpListIn
  split at h
  ·rename_i hw
   rw [if_pos hw]
   exact qqe hQ (fun a w h => qlh hQ os a w h) h
  ·rename_i hw
   rw [if_neg hw]
   exact ⟨fun _ _ => trivial, qlh hQ os _ _ h⟩
theorem qm1 {pre : Array Oper} (hQ : ¬ LetsOut Q) (K : Act → World → Prop) (os2 : List Oper) (hK : ∀ a w, K a w → wpListIn Fence.wide 0 P ops Q os2 a w) : ∀ (os : List Oper), (∀ o ∈ os, o.guard = none) → ∀ a w, wpList P pre (Exit.then K Q) os a w → wpListIn Fence.wide 0 P ops Q (os ++ os2) a w
 | [], _, a, w, h => hK a w h
 | o :: os, hg, a, w, h => by
  have h1 : ∀ x, Region.wanted o x = true := fun x => by unfold Region.wanted; rw [hg o List.mem_cons_self]
  unfold wpList at h
  rw [if_pos (h1 _)] at h
  show if Region.wanted o (yielded ops a.tmps) = true then _ else _
  rw [if_pos (h1 _)]
  have h2 := qqe (Q := Exit.then K Q) (K' := wpListIn Fence.wide 0 P ops Q (os ++ os2)) (fun ⟨a, w, h⟩ => hQ ⟨a, w, h⟩) (fun a w h => qm1 hQ K os2 hK os (fun o ho => hg o (List.mem_cons_of_mem _ ho)) a w h) h
  refine ⟨h2.1, ?_⟩
  have h3 := h2.2
  generalize (o.semAt Fence.wide.round a.eval).run P w = r at h3
  cases r with
  | ok x w' =>
   cases x with
   | enter f args =>
    refine ⟨h3.1, h3.2.mono ?_⟩
    intro e w'' he
    cases e with
    | returned v => exact he
    | panicked c => exact he
    | outgrown => exact he
   | round l f tmps assign body =>
    refine ⟨h3.1, h3.2.mono ?_⟩
    intro e w'' he
    cases e with
    | returned v => exact he
    | panicked c => exact he
    | outgrown => exact he
   | _ => exact h3
  | halt hh w' =>
   cases hh with
   | panic v => exact h3
   | _ => exact h3
theorem qm2 {id i : Nat} (h : qg P (ops.toList.take i).toArray (Exit.then (fun a w => ∃ o, ops[i]? = some o ∧ o.guard = none ∧ o.wpIn Fence.wide 0 P a w (wpListIn Fence.wide 0 P ops Q (ops.toList.drop (i + 1))) Q) Q) 0 a w) (hg : ((ops.toList.take i).all fun o => o.guard.isNone) = true := by kernel_rfl) (hQ : ¬ LetsOut Q := by intro ⟨_, _, h⟩; obtain ⟨_, h, _⟩ := h; cases h) : (Code.region id ops false).wp P Q a w := by
 refine wpIn_wide.1 (wpIn_region_list (n := 0) ?_)
 have h0 : wpList P (ops.toList.take i).toArray (Exit.then (fun a w => ∃ o, ops[i]? = some o ∧ o.guard = none ∧ o.wpIn Fence.wide 0 P a w (wpListIn Fence.wide 0 P ops Q (ops.toList.drop (i + 1))) Q) Q) (ops.toList.take i) a w := by simpa [qg] using h
 have h1 := qm1 (ops := ops) hQ _ (ops.toList.drop i) (fun a w ⟨o, ho, hn, h⟩ => by
  obtain ⟨hl, he⟩ := Array.getElem?_eq_some_iff.1 ho
  rw [List.drop_eq_getElem_cons (by simpa using hl), Array.getElem_toList, he]
  unfold wpListIn
  rw [if_pos (by unfold Region.wanted; rw [hn])]
  exact h) (ops.toList.take i) (fun o ho => by
  have := List.all_eq_true.1 hg o ho
  simpa using this) a w h0
 rwa [List.take_append_drop] at h1
theorem Mem.q1x {r : Fact} {es F : List Fact} (h : Mem W w (r :: (es ++ F))) : Mem W w (r :: (F ++ es)) := h.perm (List.Perm.cons _ List.perm_append_comm)
theorem Mem.qw8 {es F : List Fact} (h : Mem W w (F ++ es)) : Mem W w (es ++ F) := h.perm List.perm_append_comm
theorem Mem.qrb (es : List Fact) {F : List Fact} (h : Mem W w (es ++ F)) : Mem W w F := h.subl (List.sublist_append_right es F)
theorem qyf (Z : Fr a n D σ) {fo : Operand} {xs : Array Operand} {ts : Array TypeId} {vs : List Value} {R : Ending → World → Prop} (ho : ops[i]? = some o) (hn : o.guard = none) (hop : o.op = .call { callee := .value fo, args := xs, argTypes := ts }) (hfo : look σ fo = some (.func (.yield l) #[] #[])) (hv : looks σ xs.toList = some vs) (hd : o.dst = some d) (hdn : d < n)
  (hy : YieldAt Fence.wide 0 P l vs.toArray w R) (hR : ∀ e w', R e w' → ∃ v, e = .returned v) (k : ∀ v w' a', R (.returned v) w' → Fr a' n D ((d, v) :: σ) → qg P ops Q (i + 1) a' w') (hQ : ¬ LetsOut Q := by intro ⟨_, _, h⟩; obtain ⟨_, h, _⟩ := h; cases h) :
  ∃ o, ops[i]? = some o ∧ o.guard = none ∧ o.wpIn Fence.wide 0 P a w (wpListIn Fence.wide 0 P ops Q (ops.toList.drop (i + 1))) Q := by
 refine ⟨o, ho, hn, fun _ _ => trivial, ?_⟩
 have e1 : xs.map a.eval = vs.toArray := by
  have := qc7 Z hv
  rw [← this, ← Array.toList_map, Array.toArray_toList]
 obtain ⟨fn, tmps, assign, body, h1, h2⟩ := hy
 rw [show Fence.wide.round = none from rfl, Oper.semAt_none]
 unfold execOp
 simp only [hop, resolve, Z.eval hfo, Deferred.ofValue, invoke, Sem.run_bind, Sem.run_pure, Result.andThen_ok]
 have e2 : (#[] : Array Value) ++ Array.map a.eval xs ++ #[] = vs.toArray := by simp [e1]
 show Oper.uponIn Fence.wide 0 P o a _ Q ((Instr.yield l (#[] ++ Array.map a.eval xs ++ #[])).run P w)
 rw [e2, h1]
 refine ⟨fun h => by simp [Fence.wide] at h, h2.mono ?_⟩
 intro e w' he
 obtain ⟨v, rfl⟩ := hR e w' he
 show wpListIn Fence.wide 0 P ops Q (ops.toList.drop (i + 1)) (a.put o.dst v) w'
 rw [hd]
 exact qlh hQ _ _ _ (k v w' _ he (Z.put hdn v))
theorem qz2 {g : Operand} {ps : Array Tmp} {assign body : Code} {gf : Nat} {caps : List Value} (Z : Fr a n [] σ) (HM : Mem W w fs) (J : List Fact → Prop) (X : Code → List Fact → Prop) (hg : look σ g = some (.func (.func gf) #[] caps.toArray)) (hcl : callable P gf = true)
  (hit : ∀ (l B : Nat) (rec : LoopState → Option Code → Loop) (w1 : World), (∃ fn tmps, rec = qco fn tmps ps assign body B ∧ Fr { tmps := tmps, defers := [] } n [] σ) → Mem W w1 (.obj l (.loop (rec .ready none)) :: .obj B (.deferred (some [])) :: fs) →
   Calls P gf (.func (.yield l) #[] #[] :: caps).toArray w1 fun r w' => ∃ v, r = .returned v ∧ ((∃ F, J F ∧ Mem W w' (.obj l (.loop (rec .ready none)) :: .obj B (.deferred (some [])) :: F)) ∨ ∃ c F, X c F ∧ Mem W w' (.obj l (.loop (rec .done (some c))) :: .obj B (.deferred (some [])) :: F)))
  (hdone : ∀ (B : Nat) (a' : Act) (w' : World) (F : List Fact), J F → Fr a' n [{ target := .collected B, args := #[] }] σ → Mem W w' (.obj B (.deferred (some [])) :: F) → Q .normal a' w')
  (hstop : ∀ (c : Code) (B : Nat) (a' : Act) (w' : World) (F : List Fact), X c F → Fr a' n [{ target := .collected B, args := #[] }] σ → Mem W w' (.obj B (.deferred (some [])) :: F) → c.wp P Q a' w') :
  (Code.rangeFunc g ps assign body).wp P Q a w := by
 refine (wpIn_wide (n := 0)).1 (wpIn_rangeFunc ?_)
 intro fn _
 show ∃ l mark w₁ d w₁' f args w₂, (Instr.enterLoop fn a.tmps ps assign body none).run P w = .ok (l, mark) w₁ ∧ _
 have h1 := (HM.allocObj (.deferred (some []))).allocObj (.loop (qco fn a.tmps ps assign body w.heap.size .ready none))
 rw [World.size_alloc] at h1
 have HF1 : Fr { tmps := a.tmps, defers := [] } n [] σ := ⟨Z.size, rfl, Z.slot⟩
 have HF2 : Fr { a with defers := { target := .collected w.heap.size, args := #[] } :: a.defers } n [{ target := .collected w.heap.size, args := #[] }] σ := ⟨Z.size, by show _ :: a.defers = _; rw [Z.defers], Z.slot⟩
 have hE : (Instr.enterLoop fn a.tmps ps assign body none).run P w = .ok (w.heap.size + 1, [{ target := .collected w.heap.size, args := #[] }]) ((w.alloc (.deferred (some []))).alloc (.loop (qco fn a.tmps ps assign body w.heap.size .ready none))) := run_enterLoop_outer _ _ _ _ _
 generalize (w.alloc (.deferred (some []))).alloc (.loop (qco fn a.tmps ps assign body w.heap.size .ready none)) = W1 at h1 hE
 refine ⟨w.heap.size + 1, [{ target := .collected w.heap.size, args := #[] }], W1, { target := .fn (.func gf) caps.toArray, args := #[.func (.yield (w.heap.size + 1)) #[] #[]] }, W1, gf, #[.func (.yield (w.heap.size + 1)) #[] #[]] ++ caps.toArray, W1, hE, ?_, fun _ _ => trivial, ?_, fun h => by simp [Fence.wide] at h, ?_⟩
 ·simp only [resolve, Z.eval hg]
  simp [go_sem]
 ·simp [invoke, go_sem, qeb hcl]
 ·have e : (#[.func (.yield (w.heap.size + 1)) #[] #[]] ++ caps.toArray : Array Value) = (.func (.yield (w.heap.size + 1)) #[] #[] :: caps).toArray := by simp
  rw [e]
  refine callsIn_wide.2 ((hit _ _ _ _ ⟨fn, a.tmps, rfl, HF1⟩ h1).mono ?_)
  rintro e w' ⟨v, rfl, (⟨F, hJ, hM⟩ | ⟨c, F, hX, hM⟩)⟩
  ·have h2 := run_endLoop (P := P) (hM.objAt (i := 0) rfl) (by simp [qco])
   exact ⟨none, _, h2, hdone _ _ _ F hJ HF2 (hM.setObj (i := 0) rfl _).tail⟩
  ·have h2 := run_endLoop (P := P) (hM.objAt (i := 0) rfl) (by simp [qco])
   exact ⟨some c, _, h2, wpIn_wide.2 (hstop c _ _ _ F hX HF2 (hM.setObj (i := 0) rfl _).tail)⟩
def bodyM (P : Program) (fn : Func) (R : Ending → World → Prop) : Exit → Act → World → Prop
 | .normal, a, w | .ret, a, w => LeavesInM Fence.wide 0 P fn a.tmps R a.defers .returning w
 | _, _, _ => False
theorem qf9 {f N : Nat} {fn : Func} {c : Code} {vs : List Value} {R : Ending → World → Prop} (hf : P.funcs[f]? = some fn) (hb : fn.body = some c) (hn : fn.ntmps = N) (hl : decide (vs.length ≤ N) = true) {σ0 : List (Nat × Value)} (h0 : qev 0 vs = σ0)
  (k : ∀ a, Fr a N [] σ0 → c.wp P (bodyM P fn R) a w) : Calls P f vs.toArray w R := by
 subst h0
 rw [decide_eq_true_eq] at hl
 refine (callsIn_wide (n := 0)).1 (callsIn_of_wp_marks hf hb trivial (wpIn_wide.2 (Code.wp_mono (fun e a w h => by cases e <;> first | exact h | exact (h : False).elim) (k _ ⟨by simp [hn]; omega, rfl, fun t v hv => ?_⟩))) rfl)
 obtain ⟨_, h1⟩ := qec vs 0 t v hv
 rw [Nat.sub_zero] at h1
 have hlt := (List.getElem?_eq_some_iff.1 h1).1
 simp only [Array.getD_eq_getD_getElem?, Array.getElem?_append, List.size_toArray, if_pos hlt]
 simp [h1]
section
variable {fn : Func} {R : Ending → World → Prop}
theorem qz3 (h : bodyPost P fn R .ret a w) : bodyM P fn R .ret a w := by
 obtain ⟨hd, v, hr, hR⟩ := h
 show LeavesInM Fence.wide 0 P fn a.tmps R a.defers .returning w
 rw [hd]
 exact ⟨v, hr, hR⟩
theorem qli {B : Nat} (Z : Fr a n [{ target := .collected B, args := #[] }] σ) (HM : Mem W w fs) (hi : fs[i]? = some (.obj B (.deferred (some [])))) (h : ∀ (a' : Act) (w' : World), Fr a' n [] σ → Mem W w' (fs.set i (.obj B (.deferred none))) → bodyPost P fn R .ret a' w') : bodyM P fn R .ret a w := by
 obtain ⟨_, v, hr, hR⟩ := h { tmps := a.tmps, defers := [] } _ ⟨Z.size, rfl, Z.slot⟩ (HM.setObj hi (.deferred none))
 show LeavesInM Fence.wide 0 P fn a.tmps R a.defers .returning w
 rw [Z.defers]
 exact ⟨fun h => (nomatch h), .inl ⟨B, _, rfl, run_takeDeferred (HM.objAt hi), v, hr, hR⟩⟩
theorem ret0 (hr : fn.results = #[]) (Z : Fr a n [] σ) (hR : R (.returned (.tuple #[])) w) : bodyPost P fn R .ret a w :=
 bodyPost_ret (v := .tuple #[]) (by
  rw [qdo, hr]
  simp) Z.defers hR
theorem norm0 (hr : fn.results = #[]) (Z : Fr a n [] σ) (hR : R (.returned (.tuple #[])) w) : bodyPost P fn R .normal a w := ret0 hr Z hR
end
end
theorem Yl.str {S : World → Prop} {σ : List (Nat × Value)} {o : Oper} {x : Operand} {A : Option Addr} {n c : Nat} {l : List Nat} (hop : o.op = .convert 22 9 x) (hx : look σ x = some (.slice A n c)) (hr : ∀ w, S w → Rd w w.heap.size 1 A n (l.map B8)) : Yl Tryz.prog S σ o (.string (bstr l)) := fun a m D Z w hS => by
 unfold execOp
 simp [hop, Z.eval hx, q0x (hr w hS)]
theorem qba (l : List Nat) : ∀ u ∈ l.map B8, u.oneCell' = true := by
 intro u hu
 obtain ⟨x, _, rfl⟩ := List.mem_map.1 hu
 rfl
theorem Rd.qhx {w : World} {B n k cap : Nat} {A : Option Addr} {l : List Nat} (h : Rd w B 1 A n (l.map B8)) (hk : k ≤ n) (hc : n ≤ cap) : Rd w B 1 (if cap = k then A else A.map (·.add (k * 1))) (n - k) ((l.drop k).map B8) := by
 have h1 := h.from hk hc
 rw [List.map_drop]
 have e : (l.map B8).drop (k * 1) = (l.map B8).drop k := by rw [Nat.mul_one]
 rw [← e]
 exact h1
theorem Laid.mem {B : Nat} {W w : World} {fs : List Fact} (h : Laid B W) (hM : Mem W w fs) (hB : B ≤ W.heap.size) : Laid B w := h.below hM.below hB
theorem Mem.le {W w : World} {fs : List Fact} (h : Mem W w fs) {B : Nat} (hB : B ≤ W.heap.size) : B ≤ w.heap.size := Nat.le_trans hB h.size
theorem qp9 {x : Int} (h : -9223372036854775808 ≤ x ∧ x ≤ 9223372036854775807) : Value.int .i64 (IntKind.i64.wrap x) = .int .i64 x := by rw [IntWalk.i64_in x h]
def qaq (w : World) (er : Nat) (R : List Nat) (r : Ending) (w' : World) : Prop :=
 (∃ A c, r = .returned (.tuple #[.slice A R.length c, .int .i64 (er : Int)]) ∧ w'.ownsRow w.heap.size 5 1 (.slice A R.length c) R.length (R.map B8) ∧ R.length ≤ c) ∧ Below w.heap.size w w'
theorem BytesPost.is {w w' : World} {r : Ending} {er er' : Nat} {R R' : List Nat} (h : BytesPost w er R r w') (h1 : er = er') (h2 : R = R') : qaq w er' R' r w' := by
 subst h1; subst h2
 obtain ⟨⟨v, rfl, ho⟩, hb⟩ := h
 obtain ⟨A, c, rfl, hc⟩ := qaa ho
 exact ⟨⟨A, c, rfl, ho, hc⟩, hb⟩
theorem qxp (b : Bs) (A : Option Addr) (n c : Nat) (l : List Ev) (hok : ∀ e ∈ l, e.Ok) (B : Nat) (w : World) (hL : Laid B w) (hB : B ≤ w.heap.size) (hr : Rd w w.heap.size 11 A n (l.flatMap evL)) (hn : n ≤ 1000000000000) {er : Nat} {R : List Nat} (h1 : qv b l = er) (h2 : zg b l = R) :
  Calls Tryz.prog 100 #[.agg b.cells, .slice A n c] w (qaq w er R) :=
 (qtn b A n c l hok B w hL hB hr hn).mono fun _ _ h => h.is h1 h2
section
variable {P : Program} {S : World → Prop} {σ : List (Nat × Value)} {o : Oper} {t e : TypeId} {z : Value} {size bytes : Nat}
theorem Yl.sliceFrom (ei : EI P t e z size bytes) {x lo : Operand} {A : Option Addr} {m c j : Nat} {k : IntKind} (hop : o.op = .slice t x (some lo) none none) (hx : look σ x = some (.slice A m c)) (hl : look σ lo = some (.int k (j : Int))) (hj : j ≤ m) :
  Yl P S σ o (.slice (if c = j then A else A.map (·.add (j * size))) (m - j) (c - j)) := fun a n D Z w hS => by
 unfold execOp
 simp only [hop, Z.eval hx, Z.eval hl, Option.map_some, Option.map_none, Sem.run_bind, Sem.run_pure, qfa (P := P) ei hj, Result.andThen_ok]
theorem Yl.zl (ei : EI P t e z size bytes) {x hi : Operand} {A : Option Addr} {m c j : Nat} {k : IntKind} (hop : o.op = .slice t x none (some hi) none) (hx : look σ x = some (.slice A m c)) (hl : look σ hi = some (.int k (j : Int))) (hj : j ≤ c) :
  Yl P S σ o (.slice A j c) := fun a n D Z w hS => by
 unfold execOp
 simp only [hop, Z.eval hx, Z.eval hl, Option.map_some, Option.map_none, Sem.run_bind, Sem.run_pure, qji (P := P) ei hj, Result.andThen_ok]
end
section
variable {P : Program} {S : World → Prop} {σ : List (Nat × Value)} {o : Oper}
def placesOf (P : Program) : List Field → Option (List (Nat × Nat))
 | [] => some []
 | f :: r => match P.info? f.type, placesOf P r with
  | some i, some l => some ((f.offset, i.size) :: l)
  | _, _ => none
theorem qhl : ∀ {fs : List Field} {l : List (Nat × Nat)}, placesOf P fs = some l → ∀ w, (fs.mapM fun f => (do pure (f.offset, ← sizeOf f.type) : Sem (Nat × Nat))).run P w = .ok l w
 | [], l, h, w => by cases h; rfl
 | f :: r, l, h, w => by
  unfold placesOf at h
  split at h
  ·rename_i i l' hi hr
   injection h with h
   subst h
   simp [List.mapM_cons, sizeOf, typeInfo, hi]
   have := qhl hr w
   simp [sizeOf, typeInfo] at this
   simp [this]
  ·cases h
def qj1 (P : Program) (t : TypeId) (vs : List (Nat × Value)) : Option (Array Value) := match P.underlying t, qbo P t with
 | some (.struct fs), some z => match placesOf P fs.toList with
  | some l => Instr.fill (l.toArray[·]?) z vs
  | none => none
 | _, _ => none
theorem Yl.build {t : TypeId} {ps : Array (Nat × Operand)} {vs : List (Nat × Value)} {cs : Array Value} (hop : o.op = .build t ps) (hv : qdn σ ps.toList = some vs) (hb : qj1 P t vs = some cs) : Yl P S σ o (.agg cs) := fun a n D Z w hS => by
 have hpm := qhk Z hv
 have e1 : (Instr.build t (ps.map fun p => (p.1, a.eval p.2))).run P w = .ok (.agg cs) w := by
  rw [hpm]
  unfold qj1 at hb
  split at hb
  ·rename_i fs z hu hz
   split at hb
   ·rename_i l hl
    unfold qbo at hz
    obtain ⟨zv, hz1, rfl⟩ := Option.map_eq_some_iff.1 hz
    obtain ⟨i, hi, hz2⟩ := Option.bind_eq_some_iff.1 hz1
    have hm : (fs.mapM fun f => (do Pure.pure (f.offset, ← sizeOf f.type) : Sem (Nat × Nat))).run P w = .ok l.toArray w := by
     rw [← Array.toArray_toList (xs := fs), List.mapM_toArray]
     simp only [Sem.run_map, qhl hl]
     rfl
    unfold Instr.build
    simp only [Sem.run_bind, zeroValue, typeInfo, program, Sem.run, hi, hz2, Sem.run_pure, Result.andThen_ok, run_underlying hu, hm, hb]
   ·cases hb
  ·cases hb
 unfold execOp
 simp only [hop, Sem.run_bind, Sem.run_pure]
 show ((Instr.build t (ps.map fun p => (p.1, a.eval p.2))).run P w).andThen _ = _
 rw [e1]
 rfl
end
theorem qaf {w : World} {base : Nat} {e : TypeId} {size n c : Nat} {A : Option Addr} {xs : List Value} (h : w.ownsRow base e size (.slice A n c) n xs) (hn : 0 < n) : ∃ g, A = some ⟨g, 0, none⟩ := by
 obtain ⟨g, c', h1, _⟩ := q2d h hn
 injection h1 with h1 _ _
 exact ⟨g, h1⟩
theorem Mem.qw6 {W w : World} {fs : List Fact} (h : Mem W w fs) {α : Type} {f : α → List Value} {sz : Nat} (hf : ∀ x, (f x).length = sz) {i g m c : Nat} {e : TypeId} {l : List α} (hi : fs[i]? = some (.row (.slice (some ⟨g, 0, none⟩) m c) m (l.flatMap f) e sz)) {k : Nat} {x : α} (hk : l[k]? = some x) : w.rangeAt g (k * sz) (f x) :=
 h.ql4 hi (k * sz) fun j u hu => by
  obtain ⟨hl, he⟩ := List.getElem?_eq_some_iff.1 hk
  have hj : j < sz := by have := (List.getElem?_eq_some_iff.1 hu).1; rwa [hf] at this
  rw [qgs f sz hf l k j hl hj, he]
  exact hu
theorem qzw (A : Option Addr) (n c : Nat) (l : List Ev) (hok : ∀ e ∈ l, e.Ok) (B : Nat) (w : World) (hL : Laid B w) (hB : B ≤ w.heap.size) (hr : Rd w w.heap.size 11 A n (l.flatMap evL)) (hn : n ≤ 140737488355328) {i : Int} {er : Nat} (h : rowR l = (i, er)) :
  Calls Tryz.prog 71 #[.slice A n c] w fun r w' => r = .returned (.tuple #[.int .i64 i, .int .i64 (er : Int)]) ∧ Below w.heap.size w w' :=
 (qgu A n c l hok B w hL hB hr hn).mono fun _ _ p => ⟨by rw [p.ret, h], p.below⟩
theorem q01 (b : Bs) (e : Ev) (he : e.Ok) (B : Nat) (w : World) (hL : Laid B w) (hB : B ≤ w.heap.size) {L er : Nat} (h1 : (qan b e).length = L) (h2 : qz b e = er) :
  Calls Tryz.prog 75 #[.agg b.cells, .agg e.cells] w fun r w' => r = .returned (.tuple #[.int .i64 (L : Int), .int .i64 (er : Int)]) ∧ Below w.heap.size w w' :=
 (qxh b e he B w hL hB).mono fun _ _ p => ⟨by rw [p.1, h1, h2], p.2⟩
theorem q02 (b : Bs) (cpu : Nat) (hcpu : cpu < 256) (A : Option Addr) (n c : Nat) (m : Int) (hm : I64 m) (l : List Nat) (B : Nat) (w : World) (hL : Laid B w) (hB : B ≤ w.heap.size) (hr : Rd w w.heap.size 1 A n (l.map B8)) (hc : n ≤ c) (hl : ∀ b ∈ l, b < 256) (hn : n ≤ 200000000000000) (hlim : qtp m l) {es : List Ev} {L er : Nat} (h : readR b cpu m l = (es, L, er)) :
  Calls Tryz.prog 89 #[.agg b.cells, .int .u8 (cpu : Int), .int .i64 m, .slice A n c] w fun r w' => (∃ A c, r = .returned (.tuple #[.slice A es.length c, .int .i64 (L : Int), .int .i64 (er : Int)]) ∧ w'.ownsRow w.heap.size 35 11 (.slice A es.length c) es.length (es.flatMap evL) ∧ es.length ≤ c) ∧ Below w.heap.size w w' :=
 (qtq b cpu hcpu A n c m hm l B w hL hB hr hc hl hn hlim).mono fun r w' p => by
  rw [h] at p
  obtain ⟨⟨v, rfl, ho⟩, hb⟩ := p
  obtain ⟨A, c, rfl, hc⟩ := qaa ho
  exact ⟨⟨A, c, rfl, ho, hc⟩, hb⟩
section
variable {P : Program} {S : World → Prop} {σ : List (Nat × Value)} {o : Oper} {v : Value}
def qg2 (P : Program) (t : TypeId) : Bool := match P.underlying t with
 | some (.func _ _ _) => true
 | _ => false
theorem qri {t : TypeId} {f : Fn} {xs ys : Array Value} (ht : qg2 P t = true) (w : World) : (Op.equal t (.func f xs ys) .nilFunc).run P w = .ok false w := by
 unfold qg2 at ht
 split at ht
 ·rename_i hu
  show (Op.equalIn (9999 + 1) t (.func f xs ys) .nilFunc).run P w = _
  unfold Op.equalIn
  simp only [Sem.run_bind, run_underlying hu, Result.andThen_ok]
  rfl
 ·cases ht
theorem qt1 {t : TypeId} (ht : qg2 P t = true) (w : World) : (Op.equal t .nilFunc .nilFunc).run P w = .ok true w := by
 unfold qg2 at ht
 split at ht
 ·rename_i hu
  show (Op.equalIn (9999 + 1) t .nilFunc .nilFunc).run P w = _
  unfold Op.equalIn
  simp only [Sem.run_bind, run_underlying hu, Result.andThen_ok]
  rfl
 ·cases ht
theorem Yl.qw7 {t u : TypeId} {x y : Operand} {f : Fn} {xs ys : Array Value} (hop : o.op = .binOp .neq t x y u) (hx : look σ x = some (.func f xs ys)) (hy : look σ y = some .nilFunc) (ht : qg2 P t = true) : Yl P S σ o (.bool true) := fun a n D Z w hS => by
 unfold execOp
 have e : (binOp .neq t (.func f xs ys) .nilFunc).run P w = .ok (.bool true) w := by
  show ((do Pure.pure (.bool (!(← Op.equal t (.func f xs ys) .nilFunc))) : Sem Value)).run P w = _
  simp [qri ht]
 simp only [hop, Z.eval hx, Z.eval hy, Sem.run_bind, qao (P := P) .neq t x y (a := .func f xs ys) rfl, Result.andThen_ok, e, Sem.run_pure]
theorem Yl.q25 {t u : TypeId} {x y : Operand} (hop : o.op = .binOp .neq t x y u) (hx : look σ x = some .nilFunc) (hy : look σ y = some .nilFunc) (ht : qg2 P t = true) : Yl P S σ o (.bool false) := fun a n D Z w hS => by
 unfold execOp
 have e : (binOp .neq t .nilFunc .nilFunc).run P w = .ok (.bool false) w := by
  show ((do Pure.pure (.bool (!(← Op.equal t .nilFunc .nilFunc))) : Sem Value)).run P w = _
  simp [qt1 ht]
 simp only [hop, Z.eval hx, Z.eval hy, Sem.run_bind, qao (P := P) .neq t x y (a := .nilFunc) rfl, Result.andThen_ok, e, Sem.run_pure]
theorem Yl.q27 {t : TypeId} {x : Operand} {m : Nat} (hop : o.op = .unOp .xor t x) (hx : look σ x = some (.int .u32 (m : Int))) (hm : m < 4294967296) : Yl P S σ o (.int .u32 ((m ^^^ 4294967295 : Nat) : Int)) := fun a n D Z w hS => by
 have h1 := qih (m := 4294967295) (n := m) de hm
 rw [Nat.xor_comm] at h1
 unfold execOp
 simp only [hop, Z.eval hx, Op.unary]
 rw [← h1]
 rfl
def qt2 (P : Program) (t : TypeId) : Option (Nat × Nat) := match P.underlying t with
 | some (.array n e) => (P.info? e).map fun i => (n, i.size)
 | _ => none
theorem Yl.qe8 {t : TypeId} {x ix : Operand} {ad : Addr} {m y sz : Nat} {k : IntKind} (hop : o.op = .indexAddr t x ix) (hx : look σ x = some (.pointer (some ad))) (hi : look σ ix = some (.int k (y : Int))) (he : qt2 P t = some (m, sz)) (hy : y < m) : Yl P S σ o (.pointer (some (ad.add (y * sz)))) := fun a n D Z w hS => by
 unfold qt2 at he
 split at he
 ·rename_i m' e hu
  obtain ⟨i, hi', he⟩ := Option.map_eq_some_iff.1 he
  injection he with h1 h2
  subst h1; subst h2
  unfold execOp
  simp [hop, Z.eval hx, Z.eval hi, Instr.indexAt, asIntOf, run_underlying hu, hy, sizeOf, typeInfo, hi', Instr.sureAddr]
 ·cases he
theorem Yl.qk1 {t e : TypeId} {z : Value} {size bytes : Nat} (ei : EI P t e z size bytes) {x lo hi : Operand} {A : Option Addr} {m c i j : Nat} {k k' : IntKind} (hop : o.op = .slice t x (some lo) (some hi) none) (hx : look σ x = some (.slice A m c)) (hl : look σ lo = some (.int k (i : Int))) (hh : look σ hi = some (.int k' (j : Int))) (hij : i ≤ j) (hj : j ≤ c) :
  Yl P S σ o (.slice (if c = i then A else A.map (·.add (i * size))) (j - i) (c - i)) := fun a n D Z w hS => by
 obtain ⟨inf, hinf, _, hs, _⟩ := info_parts ei.hi
 have hi' : i ≤ c := Nat.le_trans hij hj
 have e1 : (Instr.sliceAt t (.slice A m c) (some (.int k (i : Int))) (some (.int k' (j : Int))) none).run P w = .ok (.slice (if c = i then A else A.map (·.add (i * size))) (j - i) (c - i)) w := by
  subst hs
  simp [Instr.sliceAt, run_underlying ei.ht, Instr.slice, Instr.sliceBounds, Instr.sliceBound, asIntOf, hij, hj, sizeOf, typeInfo, hinf]
 unfold execOp
 simp only [hop, Z.eval hx, Z.eval hl, Z.eval hh, Option.map_some, Option.map_none, Sem.run_bind, e1, Result.andThen_ok]
 rfl
def qzx (P : Program) (t : TypeId) : Option Nat := match P.underlying t with
 | some (.array n _) => some n
 | _ => none
theorem Yl.arrayAt {t : TypeId} {x : Operand} {A : Option Addr} {m c k : Nat} (hop : o.op = .sliceToArrayPointer t x) (hx : look σ x = some (.slice A m c)) (ht : qzx P t = some k) (hk : k ≤ m) : Yl P S σ o (.pointer A) := fun a n D Z w hS => by
 unfold qzx at ht
 split at ht
 ·rename_i m' e hu
  injection ht with ht; subst ht
  unfold execOp
  simp [hop, Z.eval hx, Instr.arrayAt, run_underlying hu, Nat.not_lt.2 hk]
 ·cases ht
end
theorem Rd.mid {w : World} {B size n c i j : Nat} {A : Option Addr} {xs : List Value} (h : Rd w B size A n xs) (hij : i ≤ j) (hj : j ≤ n) (hc : n ≤ c) :
  Rd w B size (if c = i then A else A.map (·.add (i * size))) (j - i) ((xs.take (j * size)).drop (i * size)) := by
 have h1 := h.from (k := i) (cap := c) om hc
 have h2 := h1.upto (k := j - i) om
 rw [List.drop_take, ← Nat.sub_mul]
 exact h2
theorem Rd.qjp {w : World} {B n c i j : Nat} {A : Option Addr} {l : List Nat} (h : Rd w B 1 A n (l.map B8)) (hij : i ≤ j) (hj : j ≤ n) (hc : n ≤ c) :
  Rd w B 1 (if c = i then A else A.map (·.add (i * 1))) (j - i) (((l.take j).drop i).map B8) := by
 have h1 := h.mid hij hj hc
 rw [Nat.mul_one, Nat.mul_one, ← List.map_take, ← List.map_drop] at h1
 rw [Nat.mul_one]
 exact h1
section
variable {W w : World} {fs : List Fact}
theorem Mem.oldBlk (h : Mem W w fs) {g : Nat} {ob : Obj} (hb : W.heap[g]? = some ob) : w.heap[g]? = some ob := (h.below.block g (zt hb)).trans hb
theorem Mem.zh (h : Mem W w fs) {g off : Nat} {cs : Array Value} {t : TypeId} {v : Value} (hb : W.heap[g]? = some (.cells cs t (0, 0))) (hc : cs[off]? = some v) : w.cell? ⟨g, off, none⟩ = some v := by
 simp [World.cell?, h.oldBlk hb, hc]
end
section
variable {P : Program} {S : World → Prop} {σ : List (Nat × Value)} {o : Oper}
theorem Yl.q29 {t e : TypeId} {z : Value} {size bytes : Nat} (ei : EI P t e z size bytes) {x lo hi mx : Operand} {A : Option Addr} {m c i j q : Nat} {k k' k2 : IntKind} (hop : o.op = .slice t x (some lo) (some hi) (some mx)) (hx : look σ x = some (.slice A m c)) (hl : look σ lo = some (.int k (i : Int))) (hh : look σ hi = some (.int k' (j : Int))) (hm : look σ mx = some (.int k2 (q : Int))) (hij : i ≤ j) (hj : j ≤ q) (hq : q ≤ c) :
  Yl P S σ o (.slice (if q = i then A else A.map (·.add (i * size))) (j - i) (q - i)) := fun a n D Z w hS => by
 obtain ⟨inf, hinf, _, hs, _⟩ := info_parts ei.hi
 have e1 : (Instr.sliceAt t (.slice A m c) (some (.int k (i : Int))) (some (.int k' (j : Int))) (some (.int k2 (q : Int)))).run P w = .ok (.slice (if q = i then A else A.map (·.add (i * size))) (j - i) (q - i)) w := by
  subst hs
  simp [Instr.sliceAt, run_underlying ei.ht, Instr.slice, Instr.sliceBounds, Instr.sliceBound, asIntOf, hij, hj, hq, sizeOf, typeInfo, hinf]
 unfold execOp
 simp only [hop, Z.eval hx, Z.eval hl, Z.eval hh, Z.eval hm, Option.map_some, Sem.run_bind, e1, Result.andThen_ok]
 rfl
end
theorem qnb {α : Type} (f : α → List Value) (sz : Nat) (hf : ∀ x, (f x).length = sz) : ∀ (l : List α) (k : Nat), (l.flatMap f).take (k * sz) = (l.take k).flatMap f
 | [], _ => by simp
 | _ :: _, 0 => by simp
 | x :: l, k + 1 => by
  rw [List.flatMap_cons, List.take_succ_cons, List.flatMap_cons, List.take_append, List.take_of_length_le (by rw [hf, Nat.succ_mul]; omega), hf, ← qnb f sz hf l k]
  congr 2
  rw [Nat.succ_mul]; omega
theorem qnc {α : Type} (f : α → List Value) (sz : Nat) (hf : ∀ x, (f x).length = sz) : ∀ (l : List α) (k : Nat), (l.flatMap f).drop (k * sz) = (l.drop k).flatMap f
 | [], _ => by simp
 | _ :: _, 0 => by simp
 | x :: l, k + 1 => by
  rw [List.flatMap_cons, List.drop_succ_cons, List.drop_append, List.drop_of_length_le (by rw [hf, Nat.succ_mul]; omega), hf, ← qnc f sz hf l k, List.nil_append]
  congr 1
  rw [Nat.succ_mul]; omega
theorem Rd.qw9 {α : Type} {f : α → List Value} {sz : Nat} (hf : ∀ x, (f x).length = sz) {w : World} {B k : Nat} {A : Option Addr} {l : List α} (h : Rd w B sz A l.length (l.flatMap f)) (hk : k ≤ l.length) : Rd w B sz A k ((l.take k).flatMap f) := by
 have h1 := h.upto hk
 rwa [qnb f sz hf] at h1
theorem Rd.q3f {α : Type} {f : α → List Value} {sz : Nat} (hf : ∀ x, (f x).length = sz) {w : World} {B k c : Nat} {A : Option Addr} {l : List α} (h : Rd w B sz A l.length (l.flatMap f)) (hk : k ≤ l.length) (hc : l.length ≤ c) : Rd w B sz (if c = k then A else A.map (·.add (k * sz))) (l.drop k).length ((l.drop k).flatMap f) := by
 have h1 := h.from hk hc
 rwa [qnc f sz hf, ← List.length_drop] at h1
theorem qh3 {α : Type} {l : List α} {k : Nat} (d : α) (h : k < l.length) : l.take (k + 1) = l.take k ++ [l.getD k d] := by
 rw [List.take_succ_eq_append_getElem h, List.getD_eq_getElem?_getD, List.getElem?_eq_getElem h]
 rfl
section
variable {P : Program} {Q : Exit → Act → World → Prop} {a : Act} {W w : World} {n d : Nat} {D : List Deferred} {σ : List (Nat × Value)} {o : Oper} {K : Act → World → Prop} {fs : List Fact} {S : World → Prop}
theorem Yl.cap {x : Operand} {t : TypeId} {A : Option Addr} {m c : Nat} (hop : o.op = .call { callee := .builtin .cap, args := #[x], argTypes := #[t] }) (hx : look σ x = some (.slice A m c)) (ht : isSl P t = true) : Yl P S σ o (.int .i64 (c : Int)) := fun a n D Z w hS => by
 unfold isSl at ht
 split at ht
 ·rename_i e hu
  unfold execOp
  simp [hop, resolve, invoke, builtin, Z.eval hx, Builtin.cap_, run_underlying hu, goInt]
 ·cases ht
theorem qld (Z : Fr a n D σ) (HM : Mem W w fs) {s x : Operand} {t tn e : TypeId} {z : Value} {size bytes m : Nat} {kn k : IntKind} (hop : o.op = .call { callee := .builtin .append, args := #[s, x], argTypes := #[t, tn] }) (ei : EI P t e z size bytes) (htn : P.underlying tn = some (.int kn))
  (hs : look σ s = some (.slice none 0 0)) (hx : look σ x = some (.int k (m : Int))) (h0 : 0 < m) (h63 : m ≤ 4611686018427387904) (hb : m * bytes ≤ 281474976710656)
  (hd : o.dst = some d) (hdn : d < n) (kk : ∀ a' w' g c', Fr a' n D ((d, .slice (some ⟨g, 0, none⟩) m c') :: σ) → Mem W w' (.row (.slice (some ⟨g, 0, none⟩) m c') m (Builtin.zeroCells z.cells m).toList e size :: fs) → m ≤ c' → K a' w') : o.wp P a w K Q := by
 obtain ⟨i, hi, hz, hsz, hby⟩ := info_parts ei.hi
 have hr := Lib.run_append_nil_zeros (P := P) w t tn o.type e i z k kn ei.ht htn hi hz m h0 (by rw [hsz]; exact ei.hs) om (by rw [hby]; exact hb)
 have h1 : m ≤ grownCap w m 0 e := grownCap_ge w m 0 e
 have h2 : grownCap w m 0 e ≤ maxLen := grownCap_le_maxLen w m 0 e (by unfold maxLen; omega)
 have hzl : (Builtin.zeroCells z.cells m).size = m * size := by rw [size_zeroCells, ei.hz]
 have hown : (w.drew.alloc (.cells (Builtin.zeroCells z.cells m ++ Builtin.zeroCells z.cells (grownCap w m 0 e - m)) e)).ownsRow w.heap.size e size (.slice (some ⟨w.heap.size, 0, none⟩) m (grownCap w m 0 e)) m (Builtin.zeroCells z.cells m).toList := by
  refine ⟨by simpa using hzl, .inr ⟨w.heap.size, _, _, rfl, Nat.le_refl _, World.alloc_heap_new w.drew _, h1, h2, ?_, ?_⟩⟩
  ·rw [Array.size_append, hzl, size_zeroCells, ei.hz, ← Nat.add_mul]
   congr 1
   omega
  ·rw [Array.toList_append, ← hzl, ← Array.length_toList]
   exact List.take_left
 unfold Oper.wp execOp
 simp only [hop, resolve, invoke, builtin, Sem.run_bind, Sem.run_pure, Result.andThen_ok, List.map_toArray, List.map_cons, List.map_nil, Z.eval hs, Z.eval hx, hr]
 rw [Oper.upon_value, hd]
 exact kk _ _ w.heap.size _ (Z.put hdn _) (HM.callRow ((Below.refl _ _).drew.alloc (by simp) _) hown) h1
theorem Mem.shrink (h : Mem W w fs) {i m k c size : Nat} {A : Option Addr} {e : TypeId} {xs : List Value} (hi : fs[i]? = some (.row (.slice A m c) m xs e size)) (hk : k ≤ m) (hA : A = none → k = 0 ∧ c = 0) : Mem W w (fs.set i (.row (.slice A k c) k (xs.take (k * size)) e size)) := by
 have ho := h.own hi
 refine h.turn hi h.below (fun _ _ _ => rfl) ?_ (fun g' hg' => .inl (by cases A <;> exact hg'))
 refine ⟨by rw [List.length_take, ho.1]; exact Nat.min_eq_left (Nat.mul_le_mul_right _ hk), ?_⟩
 rcases ho.2 with ⟨h1, h2⟩ | ⟨g, cap, cur, h1, h2, h3, h4, h5, h6, h7⟩
 ·injection h1 with h1 _ _
  obtain ⟨rfl, rfl⟩ := hA h1
  subst h1
  exact .inl ⟨rfl, rfl⟩
 ·injection h1 with h1 _ h8
  subst h1; subst h8
  refine .inr ⟨g, c, cur, rfl, h2, h3, by omega, h5, h6, ?_⟩
  rw [← h7, List.take_take, Nat.min_eq_left (Nat.mul_le_mul_right _ hk)]
end
theorem qzy {m n j : Nat} (hm : m < 2 ^ j) : m ||| n * 2 ^ j = m + n * 2 ^ j := by
 have := Nat.two_pow_add_eq_or_of_lt hm n
 rw [Nat.or_comm, Nat.mul_comm n, ← this, Nat.add_comm]
theorem qle {m n j p : Nat} (hp : 2 ^ j = p) (hm : m < p) (hb : m + n * p < 4294967296) : Value.int .u32 (Go.IntKind.u32.wrap (BitVec.ofInt Go.IntKind.u32.bits (m : Int) ||| BitVec.ofInt Go.IntKind.u32.bits ((n * p : Nat) : Int)).toNat) = .int .u32 ((m + n * p : Nat) : Int) := by
 subst hp
 have h := q2g (m := m) (n := n * 2 ^ j) om om
 rw [qzy hm] at h
 exact h
theorem qxq {m n j p : Nat} (hp : 2 ^ j = p) (hm : n < p) (hb : m * p + n < 9223372036854775808) : Value.int .i64 (Go.IntKind.i64.wrap (BitVec.ofInt Go.IntKind.i64.bits ((m * p : Nat) : Int) ||| BitVec.ofInt Go.IntKind.i64.bits (n : Int)).toNat) = .int .i64 ((m * p + n : Nat) : Int) := by
 subst hp
 have h := q2h (m := m * 2 ^ j) (n := n) om om
 rw [Nat.or_comm, qzy hm, Nat.add_comm] at h
 exact h
structure Part where
 A : Option Addr
 c : Nat
 l : List Nat
def Part.val (p : Part) : Value := .slice p.A p.l.length p.c
theorem qc9 {l : List Part} {k : Nat} {d : Part} (h : k < l.length) : (l.take (k + 1)).flatMap (·.l) = (l.take k).flatMap (·.l) ++ (l.getD k d).l := by
 rw [List.take_add_one, getD_at d h]; simp
theorem qf4 {l : List Part} (k : Nat) : ((l.take k).flatMap (·.l)).length ≤ (l.flatMap (·.l)).length := by
 conv => rhs; rw [← List.take_append_drop k l]
 rw [List.flatMap_append, List.length_append]
 omega
def le4 (n : Nat) : List Nat := [n % 256, n / 256 % 256, n / 65536 % 256, n / 16777216 % 256]
def sealL (l : List Nat) : List Nat := l ++ le4 (qk l)
def num4 (l : List Nat) : Nat := l.getD 0 0 + 256 * l.getD 1 0 + 65536 * l.getD 2 0 + 16777216 * l.getD 3 0
def qar (l : List Nat) : Bool := decide (4 ≤ l.length ∧ qk (l.take (l.length - 4)) = num4 (l.drop (l.length - 4)))
theorem qin (k : Nat) (h : k < 16) : qbq.getD k 0 < 4294967296 := by
 have : ∀ k, k < 16 → qbq.getD k 0 < 4294967296 := by decide
 exact this k h
def Is (w : World) (v : Value) (r : Ending) (w' : World) : Prop := r = .returned v ∧ Below w.heap.size w w'
def zr (w : World) (R : List Nat) (r : Ending) (w' : World) : Prop :=
 (∃ A c, r = .returned (.slice A R.length c) ∧ w'.ownsRow w.heap.size 5 1 (.slice A R.length c) R.length (R.map B8) ∧ R.length ≤ c) ∧ Below w.heap.size w w'
theorem zr.as {w w' : World} {R R' : List Nat} {r : Ending} (h : zr w R r w') (e : R = R') : zr w R' r w' := e ▸ h
theorem qhm {w w' : World} {R xs : List Nat} {n c : Nat} {A : Option Addr} (ho : w'.ownsRow w.heap.size 5 1 (.slice A n c) n (xs.map B8)) (hc : n ≤ c) (hn : n = R.length) (hx : xs = R) (hb : Below w.heap.size w w') : zr w R (.returned (.slice A n c)) w' := by
 subst hx; subst hn
 exact ⟨⟨A, c, rfl, ho, hc⟩, hb⟩
theorem qrl {x : Nat} {w : World} (hx : x < 18446744073709551616) : Calls Tryz.prog 93 #[.slice none 0 0, .int .u64 (x : Int)] w (zr w (vbytes x)) :=
 (qte x w w.heap.size (.slice none 0 0) 0 [] hx (World.ownsRow_nil _ _ _ _) (Nat.le_refl _) om).mono fun e w' ⟨v, h1, h2, h3, _⟩ => by
  rw [Nat.zero_add, List.nil_append] at h2
  obtain ⟨A, c, rfl, hc⟩ := qaa h2
  exact ⟨⟨A, c, h1, h2, hc⟩, (Below.refl _ _).grown h3 (Nat.le_refl _) (fun g hg => by cases hg)⟩
theorem qul (A : Option Addr) (n c : Nat) (ls : List Nat) (w : World) (hr : Rd w w.heap.size 1 A n (ls.map U64)) (hls : ∀ x ∈ ls, x < 18446744073709551616) (hn : 10 * n ≤ 140737488355000) :
  Calls Tryz.prog 74 #[.slice A n c] w (zr w (ls.flatMap vbytes)) :=
 (qhg A n c ls w hr hls hn).mono fun e w' ⟨v, h1, h2, h3⟩ => by
  obtain ⟨A, c, rfl, hc⟩ := qaa h2
  exact ⟨⟨A, c, h1, h2, hc⟩, h3⟩
theorem qor (c : Nat) (l : List Nat) (x : Nat) : qu c (l ++ [x]) = qdr (qu c l) x := by unfold qu; rw [List.foldl_append]; rfl
theorem qio {c k : Nat} {l : List Nat} (h : k < l.length) : qu c (l.take (k + 1)) = qdr (qu c (l.take k)) (l.getD k 0) := by
 rw [List.take_add_one, getD_at 0 h]; exact qor _ _ _
theorem zu {l : List Nat} {m : Nat} (h : ∀ b ∈ l, b < m) (k : Nat) : ∀ b ∈ l.take k, b < m := fun b hb => h b (List.mem_of_mem_take hb)
theorem zw {l : List Nat} {m : Nat} (h : ∀ b ∈ l, b < m) (k : Nat) : ∀ b ∈ l.drop k, b < m := fun b hb => h b (List.mem_of_mem_drop hb)
theorem q2k {c : Nat} (h : c < 4294967296) : nib c < 4294967296 := qf7 om (qin _ om)
theorem qip (l : List Nat) : qk l < 4294967296 := by unfold qk; omega
theorem qz0 (n : Nat) : ∀ b ∈ le4 n, b < 256 := by intro b hb; simp [le4] at hb; omega
theorem qum (n : Nat) : (le4 n).length = 4 := rfl
theorem qhz (l : List Nat) : (sealL l).length = l.length + 4 := by unfold sealL; rw [List.length_append, qum]
theorem q03 {l : List Nat} (hl : ∀ b ∈ l, b < 256) : ∀ b ∈ sealL l, b < 256 := by
 intro b hb
 rcases List.mem_append.1 hb with h | h
 ·exact hl b h
 ·exact qz0 _ b h
theorem qqb : ∀ {l : List Nat}, (∀ x ∈ l, x < 256) → 4 ≤ l.length → le4 (num4 l) = l.take 4
 | a :: b :: c :: d :: r, hl, _ => by
  have ha := hl a (by simp)
  have hb := hl b (by simp)
  have hc := hl c (by simp)
  have hd := hl d (by simp)
  simp [le4, num4]
  omega
 | [], _, h => by simp at h
 | [_], _, h => by simp at h
 | [_, _], _, h => by simp at h
 | [_, _, _], _, h => by simp at h
theorem qyb {n : Nat} (h : n < 4294967296) (r : List Nat) : num4 (le4 n ++ r) = n := by simp [num4, le4]; omega
theorem qyc {l : List Nat} (hl : ∀ x ∈ l, x < 256) (h : 4 ≤ l.length) : le4 (num4 (l.drop (l.length - 4))) = l.drop (l.length - 4) := by
 have h1 : (l.drop (l.length - 4)).length = 4 := by rw [List.length_drop]; omega
 rw [qqb (zw hl _) om, List.take_of_length_le om]
theorem qun {l : List Nat} (hl : ∀ x ∈ l, x < 256) (h : qar l = true) : sealL (l.take (l.length - 4)) = l := by
 unfold qar at h
 rw [decide_eq_true_eq] at h
 unfold sealL
 rw [h.2, qyc hl h.1, List.take_append_drop]
theorem qos {l : List Nat} : qar (sealL l) = true := by
 have hlt : qk l < 4294967296 := qip l
 have e : (sealL l).length - 4 = l.length := by rw [qhz]; omega
 unfold qar
 rw [decide_eq_true_eq, e]
 unfold sealL
 refine ⟨by rw [List.length_append, qum]; omega, ?_⟩
 rw [List.take_left, List.drop_left]
 have := qyb hlt []
 rw [List.append_nil] at this
 exact this.symm
theorem qcn (x : Nat) : ∀ b ∈ vbytes x, b < 256 := by
 intro b hb
 unfold vbytes at hb
 obtain ⟨p, hp, rfl⟩ := List.mem_map.1 hb
 have := qtd 10 x p hp
 unfold vbyte
 split <;> omega
theorem qot {l m : List Nat} (hl : ∀ b ∈ l, b < 256) (hm : ∀ b ∈ m, b < 256) : ((bstr l).toList == (bstr m).toList) = decide (l = m) := by
 rw [Bool.eq_iff_iff, beq_iff_eq, decide_eq_true_eq]
 constructor
 ·intro h
  refine qxl hl hm ?_
  rw [ByteArray.toList_eq, ByteArray.toList_eq] at h
  cases hx : bstr l; cases hy : bstr m
  rw [hx, hy] at h
  simpa using h
 ·rintro rfl; rfl
structure Bk where
 kind : Nat
 cpu : Nat
 lost : Int
 next : Int
 evs : List Ev
structure Bk.Ok (b : Bk) : Prop where
 kind : b.kind < 256
 cpu : b.cpu < 256
 lost : I64 b.lost
 next : I64 b.next
 evs : ∀ e ∈ b.evs, e.Ok
def Bk.zero : Bk := ⟨0, 0, 0, 0, []⟩
def Bk.qjg (b : Bk) : Bool := match b.evs with
 | [] => decide (0 < b.lost)
 | e :: _ => decide (e.cpu = b.cpu)
def Bk.qdf (b : Bk) : Bool := decide ((rowR b.evs).2 = 0 ∧ b.cpu < 64 ∧ 0 ≤ b.lost ∧ b.lost ≤ 281474976710656 ∧ b.next = 0 ∧ b.qjg = true)
def Bk.qhe (b : Bk) : Bool := decide (1 ≤ b.next ∧ b.next ≤ 281474976710657 ∧ b.cpu = 0 ∧ b.lost = 0 ∧ b.evs.length = 0)
def Bk.fits (b : Bk) : Bool := if b.kind = 1 then b.qdf else if b.kind = 2 then b.qhe else false
def Bk.base (b : Bk) : Bs := (b.evs.headD Ev.zero).at
def Bk.body (b : Bk) : List Nat :=
 if b.kind = 2 then vbytes b.next.toNat
 else vbytes b.cpu ++ vbytes b.lost.toNat ++ vbytes b.evs.length ++ (if b.evs.length = 0 then [] else vbytes b.base.seq.toNat ++ vbytes b.base.time.toNat ++ recs b.base b.evs)
def Bk.raw (b : Bk) : List Nat := le4 (12 + b.body.length) ++ [113, 116, 1, b.kind] ++ b.body
def Bk.err (b : Bk) : Nat := if b.fits = false then 107 else if 4096 < 12 + b.body.length then 3 else 0
def Bk.out (b : Bk) : List Nat := if b.err = 0 then sealL b.raw else []
def lenR (l : List Nat) : Nat × Nat := if l.length < 4 then (0, 100) else if num4 l < 13 ∨ 4096 < num4 l then (0, 101) else if l.length < num4 l then (0, 100) else (num4 l, 0)
def tkOk (most : Nat) (l : List Nat) : Bool := decide ((vread l).2.2 = 0 ∧ (vread l).1 ≤ most)
def qa (l : List Nat) : List Nat := l.drop (vread l).2.1
def tkVal (most : Nat) (l : List Nat) : Nat := if most < (vread l).1 then most else (vread l).1
def qav (l : List Nat) : Option Bk :=
 if tkOk 281474976710657 l = true ∧ (qa l).length = 0 ∧ Bk.fits ⟨2, 0, 0, tkVal 281474976710657 l, []⟩ = true then some ⟨2, 0, 0, tkVal 281474976710657 l, []⟩ else none
def qab (cpu lost : Nat) (l : List Nat) (q : List Ev × Nat × Nat) : Option Bk :=
 if q.2.2 = 0 ∧ (q.1.headD Ev.zero).seq = tkVal 281474976710656 l ∧ (q.1.headD Ev.zero).time = tkVal 281474976710656 (qa l) ∧ tkOk 281474976710656 l = true ∧ tkOk 281474976710656 (qa l) = true ∧ ((qa (qa l)).drop q.2.1).length = 0 ∧ Bk.fits ⟨1, cpu, lost, 0, q.1⟩ = true then some ⟨1, cpu, lost, 0, q.1⟩ else none
def qcv (l : List Nat) : Bool := tkOk 63 l && tkOk 281474976710656 (qa l) && tkOk 4096 (qa (qa l))
def zf (l : List Nat) : Option Bk :=
 if qcv l = true ∧ 0 < tkVal 4096 (qa (qa l)) then
  qab (tkVal 63 l) (tkVal 281474976710656 (qa l)) (qa (qa (qa l)))
   (readR ⟨tkVal 281474976710656 (qa (qa (qa l))), tkVal 281474976710656 (qa (qa (qa (qa l))))⟩ (tkVal 63 l) (tkVal 4096 (qa (qa l))) (qa (qa (qa (qa (qa l))))))
 else if qcv l = true ∧ (qa (qa (qa l))).length = 0 ∧ Bk.fits ⟨1, tkVal 63 l, tkVal 281474976710656 (qa l), 0, []⟩ = true then some ⟨1, tkVal 63 l, tkVal 281474976710656 (qa l), 0, []⟩ else none
def qda (kind : Nat) (l : List Nat) : Option Bk := if kind = 2 then qav l else zf l
def blkOf (l : List Nat) : Option Bk × Nat :=
 if qar l = false then (none, 102)
 else if ¬ (l.getD 4 0 = 113 ∧ l.getD 5 0 = 116) then (none, 103)
 else if l.getD 6 0 ≠ 1 then (none, 104)
 else if l.getD 7 0 ≠ 1 ∧ l.getD 7 0 ≠ 2 then (none, 105)
 else match qda (l.getD 7 0) ((l.take (l.length - 4)).drop 8) with
  | none => (none, 106)
  | some b => (some b, 0)
def readB (l : List Nat) : Bk × Nat × Nat :=
 if (lenR l).2 ≠ 0 then (Bk.zero, 0, (lenR l).2)
 else match (blkOf (l.take (lenR l).1)).1 with
  | some b => (b, (lenR l).1, 0)
  | none => (Bk.zero, 0, (blkOf (l.take (lenR l).1)).2)
theorem qds {most : Nat} {l : List Nat} (hl : ∀ x ∈ l, x < 256) (h : tkOk most l = true) : ∃ x m, vread l = (x, m, 0) ∧ tkVal most l = x ∧ x ≤ most ∧ vbytes x = l.take m ∧ qa l = l.drop m ∧ vbytes x ++ qa l = l := by
 unfold tkOk at h
 rw [decide_eq_true_eq] at h
 refine ⟨(vread l).1, (vread l).2.1, by rw [← h.1], by unfold tkVal; rw [if_neg om], h.2, ?_, rfl, ?_⟩
 ·exact qg3 hl (by rw [← h.1])
 ·have := qg3 hl (show vread l = ((vread l).1, (vread l).2.1, 0) by rw [← h.1])
  rw [this]
  exact List.take_append_drop _ _
theorem zi {l : List Nat} (hl : ∀ x ∈ l, x < 256) : ∀ x ∈ qa l, x < 256 := fun x hx => hl x (List.mem_of_mem_drop hx)
theorem tk_of {most x : Nat} (rest : List Nat) (h : x ≤ most) (h64 : x < 18446744073709551616) : tkOk most (vbytes x ++ rest) = true ∧ tkVal most (vbytes x ++ rest) = x ∧ qa (vbytes x ++ rest) = rest := by
 unfold tkOk tkVal qa
 rw [qik rest h64]
 refine ⟨by simp [h], by simp; omega, by simp⟩
theorem qh0 {b : Bk} (h : b.fits = true) (hk : b.kind = 2) : b.qhe = true := by unfold Bk.fits at h; rwa [if_neg om, if_pos hk] at h
theorem qcw {b : Bk} (h : b.fits = true) (hk : b.kind ≠ 2) : b.kind = 1 ∧ b.qdf = true := by
 unfold Bk.fits at h
 split at h
 ·rename_i h1; exact ⟨h1, h⟩
 ·cases h
theorem qmz (b : Bs) (e : Ev) : 1 ≤ (zb b e).length := by unfold zb; simp
theorem qup (b : Bs) (e : Ev) : (zb b e).length ≤ 61 := by
 unfold zb zp
 have h1 := qd (e.seq - b.seq).toNat
 have h2 := qd (e.time - b.time).toNat
 have h3 := qad e.vals
 have h4 : e.vals.length ≤ 4 := by unfold Ev.vals; rw [List.length_map]; exact qay _
 simp only [List.length_cons, List.flatMap_cons, List.length_append]
 omega
theorem qf8 : ∀ (l : List Ev) (b : Bs), (recs b l).length ≤ 61 * l.length
 | [], _ => by simp [recs]
 | e :: r, b => by
  have h1 := qup b e
  have h2 := qf8 r e.at
  rw [recs, List.length_append, List.length_cons]
  omega
theorem quq : ∀ (l : List Ev) (b : Bs), l.length ≤ (recs b l).length
 | [], _ => by simp
 | e :: r, b => by
  have := quq r e.at
  have := qmz b e
  rw [recs, List.length_cons, List.length_append]
  omega
theorem q2l {b : Bk} (hk : b.kind ≠ 2) : b.evs.length ≤ b.body.length := by
 unfold Bk.body
 rw [if_neg hk]
 split
 ·omega
 ·have := quq b.evs b.base
  simp only [List.length_append]
  omega
theorem qee {cpu : Nat} : ∀ (es : List Ev) (p : Option Ev) (b : Bs) (i : Nat), (∀ e ∈ es, e.Ok) → b.right = true → (∀ e ∈ es.head?, b.behind e = true ∧ e.cpu = cpu) → (∀ q, p = some q → b = q.at ∧ q.cpu = cpu) → (rowGo p i es).2 = 0 → Chain cpu p b es
 | [], _, _, _, _, _, _, _, _ => trivial
 | e :: r, p, b, i, hok, hb, hh, hp, h => by
  rw [rowGo] at h
  split at h
  ·rename_i h1; exact absurd h h1
  ·rename_i h1
   split at h
   ·cases h
   ·rename_i h2
    have hc : e.check = 0 := by omega
    obtain ⟨g1, g2⟩ := hh e (by simp)
    refine ⟨⟨hb, hc, hok e (by simp), g1⟩, g2, ?_, ?_⟩
    ·intro q hq
     subst hq
     simp [Ev.after] at h2
     omega
    ·refine qee r (some e) e.at (i + 1) (fun x hx => hok x (by simp [hx])) (qhy hc) ?_ (fun q hq => by injection hq with hq; subst hq; exact ⟨rfl, g2⟩) h
     intro x hx
     cases r with
     | nil => cases hx
     | cons y r =>
      simp at hx
      subst hx
      rw [rowGo] at h
      split at h
      ·rename_i h3; exact absurd h h3
      ·split at h
       ·cases h
       ·rename_i h4
        simp [Ev.after] at h4
        refine ⟨?_, by omega⟩
        unfold Bs.behind Ev.at
        rw [decide_eq_true_eq]
        exact ⟨by show e.seq ≤ y.seq; omega, h4.2.2⟩
theorem qqc {l : List Ev} {e : Ev} (h : (rowR l).2 = 0) (he : l.head? = some e) : e.check = 0 := by
 cases l with
 | nil => cases he
 | cons x r =>
  injection he with he
  subst he
  unfold rowR at h
  rw [rowGo] at h
  split at h
  ·rename_i h1; exact absurd h h1
  ·omega
theorem qiq (e : Ev) : e.at.behind e = true := by unfold Bs.behind Ev.at; rw [decide_eq_true_eq]; exact ⟨Int.le_refl _, Int.le_refl _⟩
structure EvsFit (b : Bk) (e : Ev) (r : List Ev) : Prop where
 evs : b.evs = e :: r
 cpu : e.cpu = b.cpu
 base : b.base = e.at
 check : e.check = 0
 right : e.at.right = true
 chain : Chain b.cpu none e.at b.evs
theorem qex {b : Bk} (hok : b.Ok) (h : b.qdf = true) (hn : b.evs.length ≠ 0) : ∃ e r, EvsFit b e r := by
 unfold Bk.qdf at h
 rw [decide_eq_true_eq] at h
 obtain ⟨h1, h2, h3, h4, h5, h6⟩ := h
 cases hev : b.evs with
 | nil => rw [hev] at hn; simp at hn
 | cons e r =>
  have hc : e.check = 0 := qqc h1 (by rw [hev]; rfl)
  have hcpu : e.cpu = b.cpu := by unfold Bk.qjg at h6; rw [hev] at h6; simpa using h6
  refine ⟨e, r, hev, hcpu, by unfold Bk.base; rw [hev]; rfl, hc, qhy hc, ?_⟩
  refine qee b.evs none e.at 0 hok.evs (qhy hc) ?_ (fun q hq => by cases hq) h1
  intro x hx
  rw [hev] at hx
  simp at hx
  subst hx
  exact ⟨qiq _, hcpu⟩
theorem qj5 {b : Bk} (hok : b.Ok) (h : b.qdf = true) (hn : b.evs.length ≠ 0) : qv b.base b.evs = 0 ∧ zg b.base b.evs = recs b.base b.evs := by
 obtain ⟨e, r, g⟩ := qex hok h hn
 rw [g.base]
 obtain ⟨_, h1, h2⟩ := qmu g.right g.chain
 exact ⟨h1, h2⟩
theorem qz1 {e : Ev} (h : e.at.right = true) : ((e.seq.toNat : Nat) : Int) = e.seq ∧ ((e.time.toNat : Nat) : Int) = e.time ∧ e.seq.toNat ≤ 281474976710656 ∧ e.time.toNat ≤ 281474976710656 := by
 unfold Bs.right Ev.at at h
 rw [decide_eq_true_eq] at h
 obtain ⟨h1, h2, h3, h4⟩ := h
 have h1 : 1 ≤ e.seq := h1
 have h2 : e.seq ≤ 281474976710656 := h2
 have h3 : 0 ≤ e.time := h3
 have h4 : e.time ≤ 281474976710656 := h4
 omega
theorem qur {b : Bk} (h1 : b.kind = 1) (h2 : b.next = 0) (l : Nat) (hl : (l : Int) = b.lost) : (⟨1, b.cpu, (l : Int), 0, b.evs⟩ : Bk) = b := by
 cases b
 simp only at h1 h2 hl
 subst h1; subst h2; rw [hl]
theorem qrm {b : Bk} (hok : b.Ok) (h : b.fits = true) (hn : b.evs.length ≤ 4096) : qda b.kind b.body = some b := by
 unfold qda
 split
 ·rename_i hk
  have hf := h
  have h := qh0 h hk
  unfold Bk.qhe at h
  rw [decide_eq_true_eq] at h
  obtain ⟨h1, h2, h3, h4, h5⟩ := h
  have hx : ((b.next.toNat : Nat) : Int) = b.next := by omega
  have he : (⟨2, 0, 0, ((b.next.toNat : Nat) : Int), []⟩ : Bk) = b := by
   rw [hx]
   cases b
   simp only at hk h3 h4 h5
   rw [List.length_eq_zero_iff] at h5
   subst hk; subst h3; subst h4; subst h5; rfl
  unfold Bk.body qav
  rw [if_pos hk]
  obtain ⟨t1, t2, t3⟩ := tk_of (most := 281474976710657) (x := b.next.toNat) [] om om
  rw [List.append_nil] at t1 t2 t3
  rw [t1, t2, t3, he, hf]
  simp
 ·rename_i hk
  obtain ⟨hk1, hE⟩ := qcw h hk
  have hE' := hE
  unfold Bk.qdf at hE'
  rw [decide_eq_true_eq] at hE'
  obtain ⟨h1, h2, h3, h4, h5, h6⟩ := hE'
  have hlost : ((b.lost.toNat : Nat) : Int) = b.lost := by omega
  have heta := qur hk1 h5 b.lost.toNat hlost
  unfold Bk.body zf
  rw [if_neg hk]
  simp only [List.append_assoc]
  generalize hR : (if b.evs.length = 0 then [] else vbytes b.base.seq.toNat ++ (vbytes b.base.time.toNat ++ recs b.base b.evs)) = R
  obtain ⟨a1, a2, a3⟩ := tk_of (most := 63) (x := b.cpu) (vbytes b.lost.toNat ++ (vbytes b.evs.length ++ R)) om om
  obtain ⟨b1, b2, b3⟩ := tk_of (most := 281474976710656) (x := b.lost.toNat) (vbytes b.evs.length ++ R) om om
  obtain ⟨c1, c2, c3⟩ := tk_of (most := 4096) (x := b.evs.length) R hn om
  unfold qcv
  rw [a3, b3, c3, a1, a2, b1, b2, c1, c2]
  by_cases h0 : b.evs.length = 0
  ·rw [if_pos h0] at hR
   subst hR
   rw [if_neg om, if_pos]
   ·rw [List.length_eq_zero_iff] at h0
    rw [h0] at heta
    rw [heta]
   ·refine ⟨rfl, rfl, ?_⟩
    rw [List.length_eq_zero_iff] at h0
    rw [h0] at heta
    rw [heta]; exact h
  ·rw [if_neg h0] at hR
   obtain ⟨e, r, g⟩ := qex hok hE h0
   obtain ⟨n1, n2, n3, n4⟩ := qz1 g.right
   rw [g.base] at hR
   subst hR
   obtain ⟨d1, d2, d3⟩ := tk_of (most := 281474976710656) (x := e.at.seq.toNat) (vbytes e.at.time.toNat ++ recs e.at b.evs) n3 (by have := n3; show e.seq.toNat < _; omega)
   obtain ⟨e1, e2, e3⟩ := tk_of (most := 281474976710656) (x := e.at.time.toNat) (recs e.at b.evs) n4 (by have := n4; show e.time.toNat < _; omega)
   have hb : (⟨((e.at.seq.toNat : Nat) : Int), ((e.at.time.toNat : Nat) : Int)⟩ : Bs) = e.at := by
    show (⟨((e.seq.toNat : Nat) : Int), ((e.time.toNat : Nat) : Int)⟩ : Bs) = ⟨e.seq, e.time⟩
    rw [n1, n2]
   have hq := qmv g.right g.chain []
   rw [List.append_nil] at hq
   rw [if_pos ⟨rfl, by omega⟩]
   unfold qab
   rw [d3, d2, e2, e3, d1, e1, hb, hq, if_pos]
   ·rw [heta]
   ·refine ⟨rfl, ?_, ?_, rfl, rfl, by simp, by rw [heta]; exact h⟩
    ·rw [g.evs]; exact n1.symm
    ·rw [g.evs]; exact n2.symm
theorem qef {x : Nat} (h : x ≤ 281474976710657) : I64 (x : Int) := by unfold I64; omega
theorem qj6 {k : Nat} (hk : k = 1 ∨ k = 2) {l : List Nat} (hl : ∀ x ∈ l, x < 256) {b : Bk} (h : qda k l = some b) : b.kind = k ∧ b.Ok ∧ b.fits = true ∧ b.body = l ∧ b.evs.length ≤ 4096 := by
 unfold qda at h
 split at h
 ·rename_i hk2
  unfold qav at h
  split at h
  ·rename_i hc
   obtain ⟨c1, c2, c3⟩ := hc
   obtain ⟨x, m, v1, v2, v3, v4, v5, v6⟩ := qds hl c1
   injection h with h
   subst h
   rw [v2] at c3 ⊢
   refine ⟨hk2.symm, ⟨by show 2 < 256; decide, by show 0 < 256; decide, by unfold I64; simp, qef v3, by simp⟩, c3, ?_, by simp⟩
   rw [List.length_eq_zero_iff] at c2
   rw [c2, List.append_nil] at v6
   unfold Bk.body
   rw [if_pos rfl]
   simpa using v6
  ·cases h
 ·rename_i hk2
  have hk1 : k = 1 := by omega
  unfold zf at h
  split at h
  ·rename_i hc
   obtain ⟨c1, c2⟩ := hc
   unfold qcv at c1
   simp only [Bool.and_eq_true] at c1
   obtain ⟨⟨c1, c3⟩, c4⟩ := c1
   obtain ⟨x1, m1, _, u1, u2, _, _, u3⟩ := qds hl c1
   have hl1 := zi hl
   obtain ⟨x2, m2, _, u4, u5, _, _, u6⟩ := qds hl1 c3
   have hl2 := zi hl1
   obtain ⟨x3, m3, _, u7, u8, _, _, u9⟩ := qds hl2 c4
   have hl3 := zi hl2
   rw [u1, u4, u7] at h
   rw [u7] at c2
   generalize qa (qa (qa l)) = l3 at h u9 hl3
   unfold qab at h
   split at h
   ·rename_i hd
    obtain ⟨d1, d2, d3, d4, d5, d6, d7⟩ := hd
    obtain ⟨y1, _, _, w1, w2, _, _, w3⟩ := qds hl3 d4
    have hl4 := zi hl3
    obtain ⟨y2, _, _, w4, w5, _, _, w6⟩ := qds hl4 d5
    have hl5 := zi hl4
    rw [w1, w4] at h d1 d2 d3 d6 d7
    generalize qa (qa l3) = l5 at h w6 hl5 d1 d2 d3 d6 d7
    generalize hq : readR ⟨(y1 : Int), (y2 : Int)⟩ x1 (x3 : Int) l5 = q at h d1 d2 d3 d6 d7
    obtain ⟨es, u, er⟩ := q
    simp only at h d1 d2 d3 d6 d7
    subst d1
    injection h with h
    subst h
    obtain ⟨r1, r2, r3, r4, r5⟩ := qew om hl5 hq
    have hes : es.length = x3 := by omega
    refine ⟨hk1.symm, ⟨by show 1 < 256; decide, by show x1 < 256; omega, qef (by show x2 ≤ _; omega), by unfold I64; simp, fun e he => (r5 e he).1⟩, d7, ?_, by show es.length ≤ 4096; omega⟩
    have hu : l5.take u = l5 := List.take_of_length_le (by rw [List.length_drop] at d6; omega)
    rw [hu] at r3
    have hrecs : recs ⟨(y1 : Int), (y2 : Int)⟩ es = l5 := by
     unfold zg at r3
     rw [if_pos r2] at r3
     exact r3
    unfold Bk.body
    rw [if_neg (by show ¬ 1 = 2; omega)]
    show vbytes x1 ++ vbytes ((x2 : Int)).toNat ++ vbytes es.length ++ (if es.length = 0 then [] else vbytes (Bk.base ⟨1, x1, x2, 0, es⟩).seq.toNat ++ vbytes (Bk.base ⟨1, x1, x2, 0, es⟩).time.toNat ++ recs (Bk.base ⟨1, x1, x2, 0, es⟩) es) = l
    have hbase : Bk.base ⟨1, x1, x2, 0, es⟩ = ⟨(y1 : Int), (y2 : Int)⟩ := by
     unfold Bk.base Ev.at
     show (⟨(es.headD Ev.zero).seq, (es.headD Ev.zero).time⟩ : Bs) = _
     rw [d2, d3]
    rw [hbase, hrecs, if_neg om, hes, Int.toNat_natCast, ← u3, ← u6, ← u9, ← w3, ← w6]
    simp
   ·cases h
  ·split at h
   ·rename_i hc0 hc
    obtain ⟨c1, c2, c3⟩ := hc
    have c0 : ¬ 0 < tkVal 4096 (qa (qa l)) := fun hh => hc0 ⟨c1, hh⟩
    unfold qcv at c1
    simp only [Bool.and_eq_true] at c1
    obtain ⟨⟨c1, c5⟩, c4⟩ := c1
    obtain ⟨x1, m1, _, u1, u2, _, _, u3⟩ := qds hl c1
    have hl1 := zi hl
    obtain ⟨x2, m2, _, u4, u5, _, _, u6⟩ := qds hl1 c5
    have hl2 := zi hl1
    obtain ⟨x3, m3, _, u7, u8, _, _, u9⟩ := qds hl2 c4
    rw [u1, u4] at h c3
    rw [u7] at c0
    obtain rfl : x3 = 0 := by omega
    injection h with h
    subst h
    refine ⟨hk1.symm, ⟨by show 1 < 256; decide, by show x1 < 256; omega, qef (by show x2 ≤ _; omega), by unfold I64; simp, by simp⟩, c3, ?_, by simp⟩
    rw [List.length_eq_zero_iff] at c2
    rw [c2, List.append_nil] at u9
    unfold Bk.body
    rw [if_neg (by show ¬ 1 = 2; omega)]
    show vbytes x1 ++ vbytes ((x2 : Int)).toNat ++ vbytes 0 ++ [] = l
    rw [Int.toNat_natCast, ← u3, ← u6, ← u9]
    simp
   ·cases h
def numsR : Nat → List Nat → List Nat × List Nat
 | 0, l => ([], l)
 | k + 1, l => if (vread l).2.2 = 0 then ((vread l).1 :: (numsR k (qa l)).1, (numsR k (qa l)).2) else ([], l)
def looseEnd (l : List Nat) : Bk := ⟨2, 0, 0, if (numsR 1 l).1.length = 1 then wrap64 ((numsR 1 l).1.getD 0 0 : Int) else 0, []⟩
def qag (cpu n : Nat) (l : List Nat) : List Ev :=
 if 0 < n ∧ n ≤ 4096 ∧ (numsR 2 l).1.length = 2 then (readR ⟨wrap64 ((numsR 2 l).1.getD 0 0 : Int), wrap64 ((numsR 2 l).1.getD 1 0 : Int)⟩ cpu n (numsR 2 l).2).1 else []
def qdv (k : Nat) (l : List Nat) : Bk :=
 if (numsR 3 l).1.length < 3 then ⟨k, 0, 0, 0, []⟩
 else ⟨k, (numsR 3 l).1.getD 0 0 % 256, wrap64 ((numsR 3 l).1.getD 1 0 : Int), 0, qag ((numsR 3 l).1.getD 0 0 % 256) ((numsR 3 l).1.getD 2 0) (numsR 3 l).2⟩
def loose (k : Nat) (l : List Nat) : Bk := if k = 2 then looseEnd l else qdv k l
def refOf (l : List Nat) : Option Bk × Nat :=
 if qar l = false then (none, 102)
 else if ¬ (l.getD 4 0 = 113 ∧ l.getD 5 0 = 116) then (none, 103)
 else if l.getD 6 0 ≠ 1 then (none, 104)
 else if l.getD 7 0 ≠ 1 ∧ l.getD 7 0 ≠ 2 then (none, 105)
 else if (loose (l.getD 7 0) ((l.take (l.length - 4)).drop 8)).err ≠ 0 ∨ (loose (l.getD 7 0) ((l.take (l.length - 4)).drop 8)).raw ≠ l.take (l.length - 4) then (none, 106)
 else (some (loose (l.getD 7 0) ((l.take (l.length - 4)).drop 8)), 0)
theorem qcg {x k : Nat} (rest : List Nat) (h : x < 18446744073709551616) : numsR (k + 1) (vbytes x ++ rest) = (x :: (numsR k rest).1, (numsR k rest).2) := by
 obtain ⟨_, _, h3⟩ := tk_of (most := x) rest (Nat.le_refl _) h
 rw [numsR, h3, qik rest h]
 simp
theorem qe0 : ∀ (k : Nat) (l : List Nat), (∀ b ∈ l, b < 256) → ∀ b ∈ (numsR k l).2, b < 256
 | 0, l, hl => hl
 | k + 1, l, hl => by
  rw [numsR]
  split
  ·exact qe0 k _ (zi hl)
  ·exact hl
theorem qh1 {x : Nat} (h : x ≤ 281474976710657) : wrap64 (x : Int) = (x : Int) := by unfold wrap64; omega
theorem qo1 {l r : List Nat} {x : Nat} (h : numsR 1 l = ([x], r)) : looseEnd l = ⟨2, 0, 0, wrap64 (x : Int), []⟩ := by unfold looseEnd; rw [h]; simp
theorem qo2 {k a b c : Nat} {l r : List Nat} (h : numsR 3 l = ([a, b, c], r)) : qdv k l = ⟨k, a % 256, wrap64 (b : Int), 0, qag (a % 256) c r⟩ := by unfold qdv; rw [h]; simp
theorem qo3 {cpu n x y : Nat} {l r : List Nat} (h : numsR 2 l = ([x, y], r)) (h1 : 0 < n) (h2 : n ≤ 4096) : qag cpu n l = (readR ⟨wrap64 (x : Int), wrap64 (y : Int)⟩ cpu n r).1 := by unfold qag; rw [h, if_pos ⟨h1, h2, rfl⟩]; simp
theorem qrv {b : Bk} (hok : b.Ok) (h : b.fits = true) (hn : b.evs.length ≤ 4096) : loose b.kind b.body = b := by
 unfold loose
 split
 ·rename_i hk
  have h := qh0 h hk
  unfold Bk.qhe at h
  rw [decide_eq_true_eq] at h
  obtain ⟨h1, h2, h3, h4, h5⟩ := h
  have hx : ((b.next.toNat : Nat) : Int) = b.next := by omega
  unfold Bk.body
  rw [if_pos hk]
  have hq := qcg (x := b.next.toNat) (k := 0) [] om
  rw [List.append_nil] at hq
  rw [qo1 hq, qh1 om, hx]
  cases b
  simp only at hk h3 h4 h5
  rw [List.length_eq_zero_iff] at h5
  subst hk; subst h3; subst h4; subst h5; rfl
 ·rename_i hk
  obtain ⟨hk1, hE⟩ := qcw h hk
  have hE' := hE
  unfold Bk.qdf at hE'
  rw [decide_eq_true_eq] at hE'
  obtain ⟨h1, h2, h3, h4, h5, h6⟩ := hE'
  have hlost : ((b.lost.toNat : Nat) : Int) = b.lost := by omega
  have heta := qur hk1 h5 b.lost.toNat hlost
  unfold Bk.body
  rw [if_neg hk]
  simp only [List.append_assoc]
  generalize hR : (if b.evs.length = 0 then [] else vbytes b.base.seq.toNat ++ (vbytes b.base.time.toNat ++ recs b.base b.evs)) = R
  have hq : numsR 3 (vbytes b.cpu ++ (vbytes b.lost.toNat ++ (vbytes b.evs.length ++ R))) = ([b.cpu, b.lost.toNat, b.evs.length], R) := by
   rw [qcg _ om, qcg _ om, qcg _ om]
   rfl
  rw [qo2 hq, Nat.mod_eq_of_lt om, qh1 om]
  have hrow : qag b.cpu b.evs.length R = b.evs := by
   by_cases h0 : b.evs.length = 0
   ·unfold qag
    rw [if_neg om]
    exact (List.length_eq_zero_iff.1 h0).symm
   ·rw [if_neg h0] at hR
    obtain ⟨e, r, g⟩ := qex hok hE h0
    obtain ⟨n1, n2, n3, n4⟩ := qz1 g.right
    rw [g.base] at hR
    subst hR
    have hq2 : numsR 2 (vbytes e.at.seq.toNat ++ (vbytes e.at.time.toNat ++ recs e.at b.evs)) = ([e.at.seq.toNat, e.at.time.toNat], recs e.at b.evs) := by
     rw [qcg _ (by have := n3; show e.seq.toNat < _; omega), qcg _ (by have := n4; show e.time.toNat < _; omega)]
     rfl
    rw [qo3 hq2 om hn, qh1 (x := e.at.seq.toNat) (show e.seq.toNat ≤ _ by omega), qh1 (x := e.at.time.toNat) (show e.time.toNat ≤ _ by omega)]
    rw [show ((e.at.seq.toNat : Nat) : Int) = e.seq from n1, show ((e.at.time.toNat : Nat) : Int) = e.time from n2]
    have hq3 := qmv g.right g.chain []
    rw [List.append_nil] at hq3
    exact congrArg (·.1) hq3
  rw [hrow, hk1]
  exact heta
theorem qkc (x : Int) : I64 (wrap64 x) := by unfold wrap64 I64; omega
theorem qyo {b : Bs} {cpu : Nat} {m : Int} {l : List Nat} (hcpu : cpu < 256) (hl : ∀ x ∈ l, x < 256) : ∀ e ∈ (readR b cpu m l).1, e.Ok := by
 intro e he
 by_cases h : (readR b cpu m l).2.2 = 0
 ·obtain ⟨_, _, _, _, r5⟩ := qew hcpu hl (show readR b cpu m l = ((readR b cpu m l).1, (readR b cpu m l).2.1, 0) by rw [← h])
  exact (r5 e he).1
 ·rw [(qt7 h).1] at he
  cases he
theorem qll {k : Nat} (hk : k = 1 ∨ k = 2) {l : List Nat} (hl : ∀ x ∈ l, x < 256) : (loose k l).Ok ∧ (loose k l).kind = k := by
 have h0 : I64 0 := by unfold I64; omega
 unfold loose
 split
 ·rename_i h2
  refine ⟨⟨by show 2 < 256; decide, by show 0 < 256; decide, h0, ?_, by intro e he; cases he⟩, h2.symm⟩
  unfold looseEnd
  dsimp only
  split
  ·exact qkc _
  ·exact h0
 ·unfold qdv
  split
  ·exact ⟨⟨by show k < 256; omega, by show 0 < 256; decide, h0, h0, by intro e he; cases he⟩, rfl⟩
  ·refine ⟨⟨by show k < 256; omega, Nat.mod_lt _ de, qkc _, h0, ?_⟩, rfl⟩
   show ∀ e ∈ qag _ _ _, e.Ok
   intro e he
   unfold qag at he
   split at he
   ·exact qyo (Nat.mod_lt _ de) (qe0 2 _ (qe0 3 _ hl)) e he
   ·cases he
theorem take8 : ∀ {l : List Nat} {n : Nat}, 8 ≤ n → n ≤ l.length → l.take n = l.take 4 ++ [l.getD 4 0, l.getD 5 0, l.getD 6 0, l.getD 7 0] ++ (l.take n).drop 8
 | a :: b :: c :: d :: e :: f :: g :: h :: r, n, h1, h2 => by
  obtain ⟨m, rfl⟩ : ∃ m, n = m + 8 := ⟨n - 8, by omega⟩
  simp
 | [], _, _, h => by simp at h; omega
 | [_], _, _, h => by simp at h; omega
 | [_, _], _, _, h => by simp at h; omega
 | [_, _, _], _, _, h => by simp at h; omega
 | [_, _, _, _], _, _, h => by simp at h; omega
 | [_, _, _, _, _], _, _, h => by simp at h; omega
 | [_, _, _, _, _, _], _, _, h => by simp at h; omega
 | [_, _, _, _, _, _, _], _, _, h => by simp at h; omega
theorem qyp (b : Bk) : b.raw.drop 8 = b.body := by unfold Bk.raw; rfl
theorem qqi {l : List Nat} (hl : ∀ x ∈ l, x < 256) (hn : num4 l = l.length) (h13 : 13 ≤ l.length) {b : Bk} (h4 : l.getD 4 0 = 113) (h5 : l.getD 5 0 = 116) (h6 : l.getD 6 0 = 1) (h7 : l.getD 7 0 = b.kind) (hb : b.body = (l.take (l.length - 4)).drop 8) : b.raw = l.take (l.length - 4) := by
 rw [take8 om om, ← hb, h4, h5, h6, h7, ← qqb hl om, hn]
 unfold Bk.raw
 have : b.body.length = l.length - 12 := by rw [hb, List.length_drop, List.length_take]; omega
 rw [show 12 + b.body.length = l.length by omega]
theorem qrw {l : List Nat} (hl : ∀ x ∈ l, x < 256) (hn : num4 l = l.length) (h13 : 13 ≤ l.length) (h4096 : l.length ≤ 4096) : refOf l = blkOf l := by
 unfold refOf blkOf
 split
 ·rfl
 ·split
  ·rfl
  ·rename_i h45
   split
   ·rfl
   ·rename_i h6
    split
    ·rfl
    ·rename_i h7
     have hk : l.getD 7 0 = 1 ∨ l.getD 7 0 = 2 := by omega
     have h45 : l.getD 4 0 = 113 ∧ l.getD 5 0 = 116 := Decidable.of_not_not h45
     have h6 : l.getD 6 0 = 1 := by omega
     have hbl : ∀ x ∈ (l.take (l.length - 4)).drop 8, x < 256 := fun x hx => hl x (List.mem_of_mem_take (List.mem_of_mem_drop hx))
     have hlen : ((l.take (l.length - 4)).drop 8).length = l.length - 12 := by rw [List.length_drop, List.length_take]; omega
     cases hp : qda (l.getD 7 0) ((l.take (l.length - 4)).drop 8) with
     | some b =>
      obtain ⟨b1, b2, b3, b4, b5⟩ := qj6 hk hbl hp
      have hloose := qrv b2 b3 b5
      rw [b1, b4] at hloose
      rw [hloose]
      have herr : b.err = 0 := by
       unfold Bk.err
       rw [if_neg (by simp [b3]), if_neg (by rw [b4, hlen]; omega)]
      rw [if_neg]
      intro hh
      rcases hh with hh | hh
      ·exact hh herr
      ·exact hh (qqi hl hn h13 h45.1 h45.2 h6 b1.symm b4)
     | none =>
      rw [if_pos]
      obtain ⟨l1, l2⟩ := qll hk hbl
      generalize hb : loose (l.getD 7 0) ((l.take (l.length - 4)).drop 8) = b at l1 l2
      by_cases he : b.err = 0
      ·right
       intro hraw
       have hbody : b.body = (l.take (l.length - 4)).drop 8 := by rw [← qyp, hraw]
       have hfit : b.fits = true := by
        unfold Bk.err at he
        split at he
        ·cases he
        ·rename_i hf; simpa using hf
       have h8 : b.evs.length ≤ 4096 := by
        by_cases hk2 : b.kind = 2
        ·have := qh0 hfit hk2
         unfold Bk.qhe at this
         rw [decide_eq_true_eq] at this
         omega
        ·have := q2l hk2
         rw [hbody, hlen] at this
         omega
       have := qrm l1 hfit h8
       rw [l2, hbody, hp] at this
       cases this
      ·exact .inl he
def refB (l : List Nat) : Bk × Nat × Nat :=
 if (lenR l).2 ≠ 0 then (Bk.zero, 0, (lenR l).2)
 else match (refOf (l.take (lenR l).1)).1 with
  | some b => (b, (lenR l).1, 0)
  | none => (Bk.zero, 0, (refOf (l.take (lenR l).1)).2)
theorem qlm {l : List Nat} (h : (lenR l).2 = 0) : num4 l = (lenR l).1 ∧ 13 ≤ (lenR l).1 ∧ (lenR l).1 ≤ 4096 ∧ (lenR l).1 ≤ l.length := by
 unfold lenR at h ⊢
 split at h
 ·cases h
 ·split at h
  ·cases h
  ·split at h
   ·cases h
   ·rename_i h1 h2 h3
    rw [if_neg h1, if_neg h2, if_neg h3]
    omega
theorem qm7 {l : List Nat} {n : Nat} (h : 4 ≤ n) : num4 (l.take n) = num4 l := by
 have : ∀ i, i < 4 → (l.take n).getD i 0 = l.getD i 0 := fun i hi => by
  rw [List.getD_eq_getElem?_getD, List.getD_eq_getElem?_getD, List.getElem?_take, if_pos om]
 unfold num4
 rw [this 0 om, this 1 om, this 2 om, this 3 om]
theorem qo4 {l : List Nat} (hl : ∀ x ∈ l, x < 256) : refB l = readB l := by
 unfold refB readB
 split
 ·rfl
 ·rename_i h
  obtain ⟨h1, h2, h3, h4⟩ := qlm (show (lenR l).2 = 0 by omega)
  rw [qrw (fun x hx => hl x (List.mem_of_mem_take hx)) (by rw [qm7 om, List.length_take]; omega) (by rw [List.length_take]; omega) (by rw [List.length_take]; omega)] <;> (generalize blkOf (l.take (lenR l).1) = q; rcases q with ⟨_ | b, e⟩ <;> rfl)
set_option linter.all false
def qu8 (P : Program) (t : TypeId) : Bool := match P.underlying t with
 | some (.array n e) => n == 2 && (P.cellsOf e == 1 && (isOne P e && match P.underlying e with
  | some (.int _) => true
  | _ => false))
 | _ => false
theorem qyn {P : Program} {t : TypeId} (ht : qu8 P t = true) {k : Go.IntKind} (a b c d : Int) (w : World) :
  (Op.equal t (.agg #[.int k a, .int k b]) (.agg #[.int k c, .int k d])).run P w = .ok (a == c && b == d) w := by
 unfold qu8 at ht
 split at ht
 ·rename_i n e hu
  simp only [Bool.and_eq_true, beq_iff_eq] at ht
  obtain ⟨h1, h2, h3, h4⟩ := ht
  subst h1
  split at h4
  ·rename_i k' hk
   obtain ⟨i, hi⟩ := info_of_underlying hk
   show (Op.equalIn (9999 + 1) t _ _).run P w = _
   rw [run_equalIn_array w 9999 _ _ hu hi, h2]
   have hp : ∀ (xs : Array Value) (j : Nat) (v : Value), xs[j]? = some v → (part e xs j).run P w = .ok v w := fun xs j v h => by
    unfold part
    simp [qf2 h3, h]
   have he : ∀ x y, (Op.equalIn 9999 e (.int k x) (.int k y)).run P w = .ok (x == y) w := fun x y => run_equalIn_int w 9998 e k k' x y hk
   show (Op.eqItems 9999 e 1 _ _ [0, 1]).run P w = _
   have p1 : (part e #[.int k a, .int k b] 0).run P w = .ok (.int k a) w := hp _ _ _ rfl
   have p2 : (part e #[.int k c, .int k d] 0).run P w = .ok (.int k c) w := hp _ _ _ rfl
   have p3 : (part e #[.int k a, .int k b] 1).run P w = .ok (.int k b) w := hp _ _ _ rfl
   have p4 : (part e #[.int k c, .int k d] 1).run P w = .ok (.int k d) w := hp _ _ _ rfl
   have q1 := he a c
   have q2 := he b d
   generalize (9999 : Nat) = dd at q1 q2 ⊢
   simp only [Op.eqItems, Sem.run_bind, Nat.zero_mul, Nat.one_mul, p1, p2, q1, Result.andThen_ok]
   cases h5 : (a == c) <;> cases h6 : (b == d) <;> simp [p3, p4, q2, h6]
  ·cases h4
 ·cases ht
section
variable {P : Program} {S : World → Prop} {σ : List (Nat × Value)} {o : Oper}
theorem qm6 {t : TypeId} (hg : P.eqGuardType P.depth t = false) (op : BinOp) (x y : Operand) (a b : Array Value) (w : World) : (eqGuard op t x y (.agg a) (.agg b)).run P w = .ok () w := by
 unfold eqGuard
 cases op <;> simp <;> simp [hg]
theorem Yl.q1y {t u : TypeId} {p q : Operand} {k : Go.IntKind} {a b c d : Int} (hop : o.op = .binOp .neq t p q u) (hx : look σ p = some (.agg #[.int k a, .int k b])) (hy : look σ q = some (.agg #[.int k c, .int k d])) (ht : qu8 P t = true) (hg : P.eqGuardType P.depth t = false) : Yl P S σ o (.bool (!(a == c && b == d))) := fun ac n D Z w hS => by
 unfold execOp
 have e : (binOp .neq t (.agg #[.int k a, .int k b]) (.agg #[.int k c, .int k d])).run P w = .ok (.bool (!(a == c && b == d))) w := by
  show ((do Pure.pure (.bool (!(← Op.equal t (.agg #[.int k a, .int k b]) (.agg #[.int k c, .int k d])))) : Sem Value)).run P w = _
  simp [qyn ht]
 simp only [hop, Z.eval hx, Z.eval hy, Sem.run_bind, qm6 hg, Result.andThen_ok, e, Sem.run_pure]
end
theorem q2n {w : World} {B n g o k : Nat} {l : List Nat} (h : Rd w B 1 (some ⟨g, o, none⟩) n (l.map B8)) (hk : k + 2 ≤ l.length) : w.rangeAt g (o + k) (#[B8 (l.getD k 0), B8 (l.getD (k + 1) 0)] : Array Value).toList := fun j v hv => by
 have hr := h.range
 rw [Nat.add_assoc]
 refine hr (k + j) v ?_
 rcases j with _ | _ | j
 ·simp at hv
  rw [Nat.add_zero, ← hv]
  exact qbi (getD_at 0 om)
 ·simp at hv
  rw [← hv]
  exact qbi (getD_at 0 om)
 ·simp at hv
section
variable {P : Program} {S : World → Prop} {σ : List (Nat × Value)} {o : Oper}
theorem Yl.shrN {t u : TypeId} {x y : Operand} {k k' : Go.IntKind} {m n : Nat} (hop : o.op = .binOp .shr t x y u) (hx : look σ x = some (.int k (m : Int))) (hy : look σ y = some (.int k' (n : Int))) (hn : n ≤ k.bits) : Yl P S σ o (.int k ((m / 2 ^ n : Nat) : Int)) := fun a N D Z w hS => by
 have hb : qd9 .shr (.int k (m : Int)) (.int k' (n : Int)) = some (.int k ((m / 2 ^ n : Nat) : Int)) := by
  show (if (n : Int) < 0 then none else some (Value.int k (Int.fdiv (m : Int) (2 ^ (Min.min (n : Int).toNat k.bits))))) = _
  rw [if_neg om]
  exact congrArg some (qdp k m (j := n) rfl (by rw [Int.toNat_natCast, Nat.min_eq_left hn]))
 unfold execOp
 simp [hop, Z.eval hx, Z.eval hy, qao (P := P) .shr t x y (a := .int k (m : Int)) rfl, qes hb t]
theorem Yl.shlN {t u : TypeId} {x y : Operand} {k k' : Go.IntKind} {m n : Nat} (hop : o.op = .binOp .shl t x y u) (hx : look σ x = some (.int k (m : Int))) (hy : look σ y = some (.int k' (n : Int))) (hn : n ≤ k.bits) (hm : m * 2 ^ n ≤ mostN k) : Yl P S σ o (.int k ((m * 2 ^ n : Nat) : Int)) := fun a N D Z w hS => by
 have hb : qd9 .shl (.int k (m : Int)) (.int k' (n : Int)) = some (.int k ((m * 2 ^ n : Nat) : Int)) := by
  show (if (n : Int) < 0 then none else some (Value.int k (k.wrap ((m : Int) * 2 ^ (Min.min (n : Int).toNat k.bits))))) = _
  rw [if_neg om]
  have e : (m : Int) * 2 ^ (Min.min (n : Int).toNat k.bits) = ((m * 2 ^ n : Nat) : Int) := by rw [Int.toNat_natCast, Nat.min_eq_left hn]; norm_cast
  rw [e, qbx k hm]
 unfold execOp
 simp [hop, Z.eval hx, Z.eval hy, qao (P := P) .shl t x y (a := .int k (m : Int)) rfl, qes hb t]
end
section
variable {P : Program} {S : World → Prop} {σ : List (Nat × Value)} {o : Oper} {v : Value}
def qut (P : Program) (t : TypeId) : Bool := match P.underlying t with
 | some (.pointer _) => true
 | _ => false
theorem quu {t : TypeId} {a : Option Addr} (ht : qut P t = true) (w : World) : (Op.equal t (.pointer a) (.pointer none)).run P w = .ok a.isNone w := by
 unfold qut at ht
 split at ht
 ·rename_i hu
  show (Op.equalIn (9999 + 1) t (.pointer a) (.pointer none)).run P w = _
  unfold Op.equalIn
  cases a <;> simp only [Sem.run_bind, run_underlying hu, Result.andThen_ok] <;> rfl
 ·cases ht
theorem qyg {t : TypeId} {a : Option Addr} {m c m' c' : Nat} (ht : isSl P t = true) (w : World) : (Op.equal t (.slice a m c) (.slice none m' c')).run P w = .ok a.isNone w := by
 unfold isSl at ht
 split at ht
 ·rename_i hu
  show (Op.equalIn (9999 + 1) t (.slice a m c) (.slice none m' c')).run P w = _
  unfold Op.equalIn
  cases a <;> simp only [Sem.run_bind, run_underlying hu, Result.andThen_ok] <;> rfl
 ·cases ht
theorem Yl.qoc {b : Bool} {t u : TypeId} {x y : Operand} {a : Option Addr} (hop : o.op = .binOp .eql t x y u) (hx : look σ x = some (.pointer a)) (hy : look σ y = some (.pointer none)) (hb : a.isNone = b := by rfl) (ht : qut P t = true := by kernel_rfl) : Yl P S σ o (.bool b) := fun _ n D Z w hS => by
 subst hb
 unfold execOp
 have e : (binOp .eql t (.pointer a) (.pointer none)).run P w = .ok (.bool a.isNone) w := by
  show ((do Pure.pure (.bool (← Op.equal t (.pointer a) (.pointer none))) : Sem Value)).run P w = _
  simp [quu ht]
 simp only [hop, Z.eval hx, Z.eval hy, Sem.run_bind, qao (P := P) .eql t x y (a := .pointer a) rfl, Result.andThen_ok, e, Sem.run_pure]
theorem Yl.q3d {b : Bool} {t u : TypeId} {x y : Operand} {a : Option Addr} {m c m' c' : Nat} (hop : o.op = .binOp .eql t x y u) (hx : look σ x = some (.slice a m c)) (hy : look σ y = some (.slice none m' c')) (hb : a.isNone = b := by rfl) (ht : isSl P t = true := by kernel_rfl) : Yl P S σ o (.bool b) := fun _ n D Z w hS => by
 subst hb
 unfold execOp
 have e : (binOp .eql t (.slice a m c) (.slice none m' c')).run P w = .ok (.bool a.isNone) w := by
  show ((do Pure.pure (.bool (← Op.equal t (.slice a m c) (.slice none m' c'))) : Sem Value)).run P w = _
  simp [qyg ht]
 simp only [hop, Z.eval hx, Z.eval hy, Sem.run_bind, qao (P := P) .eql t x y (a := .slice a m c) rfl, Result.andThen_ok, e, Sem.run_pure]
theorem Yl.nilCheck {x : Operand} {p : Addr} (hop : o.op = .nilCheck x) (hx : look σ x = some (.pointer (some p))) : Yl P S σ o (.pointer (some p)) := fun _ n D Z w hS => by
 unfold execOp
 simp only [hop, Z.eval hx]
 rfl
end
section
variable {P : Program} {S : World → Prop} {σ : List (Nat × Value)} {o : Oper} {b : Bool}
end
section
variable {P : Program} {ops : Array Oper} {Q : Exit → Act → World → Prop} {a : Act} {W w : World} {n i j d fuel : Nat} {D : List Deferred} {σ σ' : List (Nat × Value)} {o : Oper} {v : Value} {md : Region.Mode} {S : World → Prop} {K : Act → World → Prop} {listed : Array Bool} {fs fs' : List Fact} {ex : List Nat}
theorem Yl.o1 {α : Type} {F : α → Value} {l : List α} {g of m : Nat} {t : TypeId} {x : Operand} (hr : Rd W W.heap.size 1 (some ⟨g, of, none⟩) m (l.map F)) (kk : Nat) (dd : α) (hk : kk < l.length) (hop : o.op = .load t x) (hx : look σ x = some (.pointer (some ⟨g, of + kk * 1, none⟩))) (ht : isOne P t = true := by kernel_rfl) (hv : F (l.getD kk dd) = v := by exact rfl) : Yl P (fun wS => Mem W wS fs) σ o v := by
 subst hv
 exact Yl.qx hop hx ht fun _ h => (h.old hr).qfd (k := kk) (qbi (getD_at dd hk))
theorem Yl.r1 {α : Type} {F : α → Value} {l : List α} {g m c : Nat} {t e : TypeId} {x : Operand} (j kk : Nat) (dd : α) (hk : kk < l.length) (hop : o.op = .load t x) (hx : look σ x = some (.pointer (some ⟨g, kk * 1, none⟩))) (hi : fs[j]? = some (.row (.slice (some ⟨g, 0, none⟩) m c) m (l.map F) e 1)) (ht : isOne P t = true := by kernel_rfl) (hv : F (l.getD kk dd) = v := by exact rfl) : Yl P (fun wS => Mem W wS fs) σ o v := by
 subst hv
 exact Yl.qx hop hx ht fun _ h => h.qk0 hi (qbi (getD_at dd hk))
def bt (n : Nat) (l : List Nat) : Array Bool := ((List.range n).map fun i => !l.contains i).toArray
def bf (n : Nat) (l : List Nat) : Array Bool := ((List.range n).map fun i => l.contains i).toArray
theorem s_az (Z : Fr a n D σ) (hS : S w) (i : Nat) (ho : ops[i]? = some o) (hy : Yl P S σ o v) (k : ∀ a', Fr a' n D ((d, v) :: σ) → qj P md ops Q S ex fuel (listed.setIfInBounds i true) a' w) (hw : wantB ops σ o = some true := by exact rfl) (hd : o.dst = some d := by exact rfl)
  (hdn : d < n := by decide) (hok : qhi md ops ex listed i = true := by kernel_rfl) (hQ : ∀ c (a : Act) w, Q (.panic c) (a.put o.dst v) w → Q (.panic c) a w := by intro _ _ _ h; exact h) : qj P md ops Q S ex (fuel + 1) listed a w := qmp Z hS ho hw hd hdn hok hQ hy k
theorem s_ac {t : TypeId} {x : Operand} {g off : Nat} {cs : Array Value} {tb : TypeId} (Z : Fr a n D σ) (hS : Mem W w fs) (i j : Nat) (k : ∀ a', Fr a' n D ((d, v) :: σ) → qj P md ops Q (fun wS => Mem W wS fs) ex fuel (listed.setIfInBounds i true) a' w) (ho : ops[i]? = some o := by exact rfl) (hop : o.op = .load t x := by exact rfl) (hx : look σ x = some (.pointer (some ⟨g, off, none⟩)) := by exact rfl) (hi : fs[j]? = some (.blk g cs tb) := by exact rfl) (hv : cs[off]? = some v := by exact rfl) (hw : wantB ops σ o = some true := by exact rfl) (hd : o.dst = some d := by exact rfl)
  (ht : isOne P t = true := by kernel_rfl) (hdn : d < n := by decide) (hok : qhi md ops ex listed i = true := by kernel_rfl) (hQ : ∀ c (a : Act) w, Q (.panic c) (a.put o.dst v) w → Q (.panic c) a w := by intro _ _ _ h; exact h) : qj P md ops Q (fun wS => Mem W wS fs) ex (fuel + 1) listed a w := qmp Z hS ho hw hd hdn hok hQ (Yl.qx hop hx ht fun _ h => h.cell hi hv) k
theorem s_al {t : TypeId} {x : Operand} {A : Option Addr} {m c : Nat} (Z : Fr a n D σ) (hS : S w) (i : Nat) (k : ∀ a', Fr a' n D ((d, .int .i64 (m : Int)) :: σ) → qj P md ops Q S ex fuel (listed.setIfInBounds i true) a' w) (ho : ops[i]? = some o := by exact rfl) (hop : o.op = .call { callee := .builtin .len, args := #[x], argTypes := #[t] } := by exact rfl) (hx : look σ x = some (.slice A m c) := by exact rfl) (hw : wantB ops σ o = some true := by exact rfl) (hd : o.dst = some d := by exact rfl)
  (ht : isSl P t = true := by kernel_rfl) (hdn : d < n := by decide) (hok : qhi md ops ex listed i = true := by kernel_rfl) (hQ : ∀ c (a : Act) w, Q (.panic c) (a.put o.dst (.int .i64 (m : Int))) w → Q (.panic c) a w := by intro _ _ _ h; exact h) : qj P md ops Q S ex (fuel + 1) listed a w := qmp Z hS ho hw hd hdn hok hQ (Yl.len hop hx ht) k
theorem s_on (Z : Fr a n D σ) (i : Nat) (ho : ops[i]? = some o) (h : o.wp P a w (fun a' w' => (pastB ex (listed.setIfInBounds i true) = false → S w') ∧ qj P md ops Q S ex fuel (listed.setIfInBounds i true) a' w') Q) (hr : Region.ready md ops listed = [i] := by kernel_rfl) (hw : wantB ops σ o = some true := by exact rfl) : qj P md ops Q S ex (fuel + 1) listed a w := qcl [i] hr rfl (all_cons (qa8 Z ho hw h) all_nil)
theorem s_ek {f : FuncId} {xs : Array Operand} {ts : Array TypeId} {V : Option Addr → Nat → Value} {m sz : Nat} {e : TypeId} {ys : List Value} (Z : Fr a n D σ) (HM : Mem W w fs) (vs : List Value) (hC : Calls P f vs.toArray w (fun r w' => (∃ A c, r = .returned (V A c) ∧ w'.ownsRow w.heap.size e sz (.slice A m c) m ys ∧ m ≤ c) ∧ Below w.heap.size w w'))
  (k : ∀ A c w', m ≤ c → Mem W w' (.row (.slice A m c) m ys e sz :: fs) → ∀ a', Fr a' n D ((d, V A c) :: σ) → K a' w') (hop : o.op = .call { callee := .value (.func f), args := xs, argTypes := ts } := by exact rfl) (hd : o.dst = some d := by exact rfl) (hv : looks σ xs.toList = some vs := by kernel_rfl) (hf : callable P f = true := by kernel_rfl) (hdn : d < n := by decide) : o.wp P a w K Q :=
 e_cl Z vs hop hd hC (fun e w' ⟨⟨A, c, h1, h2, h3⟩, h4⟩ => ⟨_, h1, fun a' Z => k A c w' h3 (HM.callRow h4 h2) a' Z⟩) hv hf hdn
theorem s_ce {f N : Nat} {fn : Func} {c : Code} {R : Ending → World → Prop} (hf : P.funcs[f]? = some fn) (vs : List Value) (σ0 : List (Nat × Value)) (k : ∀ a, Fr a N [] σ0 → c.wp P (bodyPost P fn R) a w) (hb : fn.body = some c := by exact rfl) (hn : fn.ntmps = N := by exact rfl) (hl : decide (vs.length ≤ N) = true := by kernel_rfl) (h0 : qev 0 vs = σ0 := by exact rfl) : Calls P f vs.toArray w R := qbp hf hb hn hl h0 k
theorem Mem.pk (h : Mem W w fs) (is : List Nat) (hn : is.Nodup := by decide) (he : Go.Proofs.YtpklccgmjhikeaaGreatDoor.picks fs is = fs' := by exact rfl) : Mem W w fs' := h.picks is hn he
theorem Mem.pt (h : Mem W w fs) (n : Nat) (is : List Nat) (hn : is.Nodup := by decide) (hlt : (is.all (· < n)) = true := by decide) (he : Go.Proofs.YtpklccgmjhikeaaGreatDoor.picks fs is ++ fs.drop n = fs' := by exact rfl) : Mem W w fs' := h.q0n n is hn hlt he
theorem s_ea (Z : Fr a n D σ) (HM : Mem W w fs) {e : TypeId} (cs : Array Value) (k : ∀ a' w' g, Fr a' n D ((d, .pointer (some ⟨g, 0, none⟩)) :: σ) → Mem W w' (.blk g cs e :: fs) → K a' w') (hop : o.op = .alloc e := by exact rfl) (hz : qbo P e = some cs := by kernel_rfl) (hd : o.dst = some d := by exact rfl) (hdn : d < n := by decide) : o.wp P a w K Q := qon Z HM hop hz hd hdn k
theorem s_es (Z : Fr a n D σ) (HM : Mem W w fs) (i : Nat) {t : TypeId} {x y : Operand} {g off : Nat} {cs : Array Value} {tb : TypeId} (k : ∀ w', Mem W w' (fs.set i (.blk g (cs.setIfInBounds off v) tb)) → K a w') (hop : o.op = .store t x y := by exact rfl) (hd : o.dst = none := by exact rfl) (hx : look σ x = some (.pointer (some ⟨g, off, none⟩)) := by exact rfl) (hy : look σ y = some v := by exact rfl) (hs : (P.info? t).map (·.size) = some 1 := by kernel_rfl) (hv : v.oneCell' = true := by exact rfl) (hi : fs[i]? = some (.blk g cs tb) := by exact rfl) (ho : off < cs.size := by simp) : o.wp P a w K Q := qtv Z HM hop hd hx hy hs hv hi ho k
theorem s_el {t len e : Nat} {ps : Array (Nat × Operand)} {z : Value} {size bytes : Nat} (Z : Fr a n D σ) (HM : Mem W w fs) (ei : EI P t e z size bytes) (vs : List (Nat × Value)) (cs : Array Value) (k : ∀ a' w' g, Fr a' n D ((d, .slice (some ⟨g, 0, none⟩) len len) :: σ) → Mem W w' (.blk g cs e :: fs) → K a' w') (hop : o.op = .buildSlice t len ps := by exact rfl) (hl : decide (0 < len ∧ len * size ≤ 16777216) = true := by decide) (hv : qdn σ ps.toList = some vs := by exact rfl)
  (hf : Instr.fill (fun i => some (i * size, size)) (qgz z.cells (len * size)) vs = some cs := by kernel_rfl) (hd : o.dst = some d := by exact rfl) (hdn : d < n := by decide) : o.wp P a w K Q := q0y Z HM hop ei hl hv hf hd hdn k
section
variable {fn : Func} {R : Ending → World → Prop} {t1 t2 t3 : Nat} {v1 v2 v3 : Value}
theorem s_rt1 (hr : fn.results = #[.tmp t1]) (Z : Fr a n [] σ) (h1 : σ.lookup t1 = some v1) (hR : R (.returned v1) w) : bodyPost P fn R .ret a w := ret1 hr Z (.tmp Z h1) hR
theorem s_rt2 (hr : fn.results = #[.tmp t1, .tmp t2]) (Z : Fr a n [] σ) (h1 : σ.lookup t1 = some v1) (h2 : σ.lookup t2 = some v2) (hR : R (.returned (.tuple #[v1, v2])) w) : bodyPost P fn R .ret a w := ret2 hr Z (.tmp Z h1) (.tmp Z h2) hR
theorem s_rt3 (hr : fn.results = #[.tmp t1, .tmp t2, .tmp t3]) (Z : Fr a n [] σ) (h1 : σ.lookup t1 = some v1) (h2 : σ.lookup t2 = some v2) (h3 : σ.lookup t3 = some v3) (hR : R (.returned (.tuple #[v1, v2, v3])) w) : bodyPost P fn R .ret a w := ret3 hr Z (.tmp Z h1) (.tmp Z h2) (.tmp Z h3) hR
end
end
section
variable {α : Type}
inductive At : List α → α → Prop
 | z {a : α} {l : List α} : At (a :: l) a
 | s {a b : α} {l : List α} (h : At l a) : At (b :: l) a
inductive Upd (a b : α) : List α → List α → Prop
 | z {l : List α} : Upd a b (a :: l) (b :: l)
 | s {c : α} {l m : List α} (h : Upd a b l m) : Upd a b (c :: l) (c :: m)
inductive Sel : List α → List α → Prop
 | n {l : List α} : Sel l l
 | t {a : α} {l m : List α} (h : Sel l m) : Sel (a :: l) (a :: m)
 | f {a : α} {l m : List α} (h : Sel l m) : Sel (a :: l) m
theorem At.get {l : List α} {a : α} (h : At l a) : ∃ i : Nat, l[i]? = some a := by
 induction h with
 | z => exact ⟨0, rfl⟩
 | s _ ih => obtain ⟨i, hi⟩ := ih; exact ⟨i + 1, by simpa using hi⟩
theorem Upd.get {a b : α} {l m : List α} (h : Upd a b l m) : ∃ i : Nat, l[i]? = some a ∧ m = l.set i b := by
 induction h with
 | z => exact ⟨0, rfl, rfl⟩
 | s _ ih => obtain ⟨i, hi, rfl⟩ := ih; exact ⟨i + 1, by simpa using hi, rfl⟩
theorem Sel.sub {l m : List α} (h : Sel l m) : m.Sublist l := by
 induction h with
 | n => exact List.Sublist.refl _
 | t _ ih => exact ih.cons₂ _
 | f _ ih => exact ih.cons _
variable {a b x1 x2 x3 x4 x5 x6 x7 x8 x9 y1 y2 : α} {l m : List α}
theorem O0 : At (a :: l) a := .z
theorem O1 : At (x1 :: a :: l) a := .s .z
theorem O2 : At (x1 :: x2 :: a :: l) a := .s O1
theorem O3 : At (x1 :: x2 :: x3 :: a :: l) a := .s O2
theorem O4 : At (x1 :: x2 :: x3 :: x4 :: a :: l) a := .s O3
theorem O5 : At (x1 :: x2 :: x3 :: x4 :: x5 :: a :: l) a := .s O4
theorem O6 : At (x1 :: x2 :: x3 :: x4 :: x5 :: x6 :: a :: l) a := .s O5
theorem O0' : Upd a b (a :: l) (b :: l) := .z
theorem O1' : Upd a b (x1 :: a :: l) (x1 :: b :: l) := .s .z
theorem O2' : Upd a b (x1 :: x2 :: a :: l) (x1 :: x2 :: b :: l) := .s O1'
theorem O3' : Upd a b (x1 :: x2 :: x3 :: a :: l) (x1 :: x2 :: x3 :: b :: l) := .s O2'
theorem O4' : Upd a b (x1 :: x2 :: x3 :: x4 :: a :: l) (x1 :: x2 :: x3 :: x4 :: b :: l) := .s O3'
theorem O5' : Upd a b (x1 :: x2 :: x3 :: x4 :: x5 :: a :: l) (x1 :: x2 :: x3 :: x4 :: x5 :: b :: l) := .s O4'
theorem O6' : Upd a b (x1 :: x2 :: x3 :: x4 :: x5 :: x6 :: a :: l) (x1 :: x2 :: x3 :: x4 :: x5 :: x6 :: b :: l) := .s O5'
theorem O7' : Upd a b (x1 :: x2 :: x3 :: x4 :: x5 :: x6 :: x7 :: a :: l) (x1 :: x2 :: x3 :: x4 :: x5 :: x6 :: x7 :: b :: l) := .s O6'
end
def nth {α : Type} : List α → Nat → Option α
 | [], _ => none
 | x :: _, 0 => some x
 | _ :: r, n + 1 => nth r n
theorem quv {α : Type} : ∀ (l : List α) (i : Nat), nth l i = l[i]?
 | [], _ => rfl
 | _ :: _, 0 => rfl
 | _ :: r, n + 1 => by rw [List.getElem?_cons_succ]; exact quv r n
theorem qlj {α : Type} {l : Array α} {i : Nat} {x : α} (h : nth l.toList i = some x) : l[i]? = some x := by
 rw [quv] at h; simpa using h
def mostO : Go.IntKind → Option Nat
 | .i8 => some 127 | .i16 => some 32767 | .i32 => some 2147483647 | .i64 => some 9223372036854775807
 | .u8 => some 255 | .u16 => some 65535 | .u32 => some 4294967295 | .u64 => some 18446744073709551615
theorem qdb {k : Go.IntKind} {B m : Nat} (hB : mostO k = some B) (h : m ≤ B) : Go.IntKind.wrap k (m : Int) = (m : Int) :=
 qbx k (Nat.le_trans h (by cases k <;> (injection hB with hB; subst hB; exact Nat.le_refl _)))
section
variable {P : Program} {ops o2 : Array Oper} {Q : Exit → Act → World → Prop} {a : Act} {W w : World} {n i j d d2 : Nat} {D : List Deferred} {σ σ' : List (Nat × Value)} {o o' : Oper} {op : Op} {v v1 v2 v3 : Value} {X : Act → World → Prop} {fs fs' : List Fact} {p q : Nat × Value}
def JJ (W w : World) (n : Nat) (D : List Deferred) (σ : List (Nat × Value)) (fs : List Fact) (X : Act → World → Prop) : Prop := ∀ a, Fr a n D σ → Mem W w fs → X a w
theorem Jb (Z : Fr a n D σ) (HM : Mem W w fs) (h : JJ W w n D σ fs X) : X a w := h a Z HM
theorem Fr.dropN {xs : List (Nat × Value)} (h : Fr a n D (q :: (xs ++ σ))) (hn : (xs.all fun p => p.1 == q.1 || (σ.lookup p.1).isNone) = true) : Fr a n D (q :: σ) := by
 refine ⟨h.size, h.defers, fun t v hv => h.slot t v ?_⟩
 obtain ⟨q1, q2⟩ := q
 simp only [List.lookup_cons] at hv ⊢
 split at hv
 ·exact hv
 ·rename_i e
  rw [qc6]
  cases hl : xs.lookup t with
  | none => exact hv
  | some u =>
   exfalso
   obtain ⟨r, hr, hrt⟩ := qdk (qbe hl)
   have := List.all_eq_true.1 hn r hr
   rw [hrt, Bool.or_eq_true] at this
   rcases this with h1 | h1
   ·simp only [e] at h1; cases h1
   ·rw [hv] at h1; cases h1
theorem Fr.dropT {xs : List (Nat × Value)} (h : Fr a n D (xs ++ σ)) (hn : (xs.all fun p => (σ.lookup p.1).isNone) = true) : Fr a n D σ := by
 refine ⟨h.size, h.defers, fun t v hv => h.slot t v ?_⟩
 rw [qc6]
 cases hl : xs.lookup t with
 | none => exact hv
 | some u =>
  exfalso
  obtain ⟨r, hr, hrt⟩ := qdk (qbe hl)
  have := List.all_eq_true.1 hn r hr
  rw [hrt, hv] at this
  cases this
section
variable {p1 p2 p3 p4 p5 p6 p7 p8 : Nat × Value}
theorem Jd1 (h : ([p1].all fun p => p.1 == q.1 || (σ.lookup p.1).isNone) = true := by kernel_rfl) (k : JJ W w n D (q :: σ) fs X) : JJ W w n D (q :: p1 :: σ) fs X := fun a Z => k a (Z.dropN (xs := [p1]) h)
theorem Jd2 (h : ([p1, p2].all fun p => p.1 == q.1 || (σ.lookup p.1).isNone) = true := by kernel_rfl) (k : JJ W w n D (q :: σ) fs X) : JJ W w n D (q :: p1 :: p2 :: σ) fs X := fun a Z => k a (Z.dropN (xs := [p1, p2]) h)
theorem Jd3 (h : ([p1, p2, p3].all fun p => p.1 == q.1 || (σ.lookup p.1).isNone) = true := by kernel_rfl) (k : JJ W w n D (q :: σ) fs X) : JJ W w n D (q :: p1 :: p2 :: p3 :: σ) fs X := fun a Z => k a (Z.dropN (xs := [p1, p2, p3]) h)
theorem Jd4 (h : ([p1, p2, p3, p4].all fun p => p.1 == q.1 || (σ.lookup p.1).isNone) = true := by kernel_rfl) (k : JJ W w n D (q :: σ) fs X) : JJ W w n D (q :: p1 :: p2 :: p3 :: p4 :: σ) fs X := fun a Z => k a (Z.dropN (xs := [p1, p2, p3, p4]) h)
theorem Jd5 (h : ([p1, p2, p3, p4, p5].all fun p => p.1 == q.1 || (σ.lookup p.1).isNone) = true := by kernel_rfl) (k : JJ W w n D (q :: σ) fs X) : JJ W w n D (q :: p1 :: p2 :: p3 :: p4 :: p5 :: σ) fs X := fun a Z => k a (Z.dropN (xs := [p1, p2, p3, p4, p5]) h)
theorem Jd6 (h : ([p1, p2, p3, p4, p5, p6].all fun p => p.1 == q.1 || (σ.lookup p.1).isNone) = true := by kernel_rfl) (k : JJ W w n D (q :: σ) fs X) : JJ W w n D (q :: p1 :: p2 :: p3 :: p4 :: p5 :: p6 :: σ) fs X := fun a Z => k a (Z.dropN (xs := [p1, p2, p3, p4, p5, p6]) h)
theorem Jt1 (h : ([p1].all fun p => (σ.lookup p.1).isNone) = true := by kernel_rfl) (k : JJ W w n D σ fs X) : JJ W w n D (p1 :: σ) fs X := fun a Z => k a (Z.dropT (xs := [p1]) h)
theorem Jt2 (h : ([p1, p2].all fun p => (σ.lookup p.1).isNone) = true := by kernel_rfl) (k : JJ W w n D σ fs X) : JJ W w n D (p1 :: p2 :: σ) fs X := fun a Z => k a (Z.dropT (xs := [p1, p2]) h)
theorem Jt3 (h : ([p1, p2, p3].all fun p => (σ.lookup p.1).isNone) = true := by kernel_rfl) (k : JJ W w n D σ fs X) : JJ W w n D (p1 :: p2 :: p3 :: σ) fs X := fun a Z => k a (Z.dropT (xs := [p1, p2, p3]) h)
theorem Jt4 (h : ([p1, p2, p3, p4].all fun p => (σ.lookup p.1).isNone) = true := by kernel_rfl) (k : JJ W w n D σ fs X) : JJ W w n D (p1 :: p2 :: p3 :: p4 :: σ) fs X := fun a Z => k a (Z.dropT (xs := [p1, p2, p3, p4]) h)
theorem Jt5 (h : ([p1, p2, p3, p4, p5].all fun p => (σ.lookup p.1).isNone) = true := by kernel_rfl) (k : JJ W w n D σ fs X) : JJ W w n D (p1 :: p2 :: p3 :: p4 :: p5 :: σ) fs X := fun a Z => k a (Z.dropT (xs := [p1, p2, p3, p4, p5]) h)
theorem Jt6 (h : ([p1, p2, p3, p4, p5, p6].all fun p => (σ.lookup p.1).isNone) = true := by kernel_rfl) (k : JJ W w n D σ fs X) : JJ W w n D (p1 :: p2 :: p3 :: p4 :: p5 :: p6 :: σ) fs X := fun a Z => k a (Z.dropT (xs := [p1, p2, p3, p4, p5, p6]) h)
end
theorem Mem.sel (h : Mem W w fs) (m : Sel fs fs') : Mem W w fs' := ⟨h.below, fun f hf => h.holds f (m.sub.subset hf), h.apart.sublist m.sub⟩
theorem JM (m : Sel fs fs') (k : JJ W w n D σ fs' X) : JJ W w n D σ fs X := fun a Z HM => k a Z (HM.sel m)
def opW (ops : Array Oper) (σ : List (Nat × Value)) (n i : Nat) : Option (Nat × Op) := match ops[i]? with
 | some o => match wantB ops σ o, o.dst with
  | some true, some d => if d < n then some (d, o.op) else none
  | _, _ => none
 | none => none
theorem qga (h : opW ops σ n i = some (d, op)) : ∃ o, ops[i]? = some o ∧ wantB ops σ o = some true ∧ o.dst = some d ∧ d < n ∧ o.op = op := by
 unfold opW at h
 split at h
 ·rename_i o ho
  split at h
  ·rename_i d' hw hd
   split at h
   ·rename_i hdn
    injection h with h
    injection h with h1 h2
    subst h1; subst h2
    exact ⟨o, ho, hw, hd, hdn, rfl⟩
   ·cases h
  ·cases h
 ·cases h
theorem JJ.yl (h : opW ops σ n i = some (d, op)) (hy : ∀ o : Oper, o.op = op → Yl P (fun wS => Mem W wS fs) σ o v) (k : JJ W w n D ((d, v) :: σ) fs (qg P ops Q (i + 1))) : JJ W w n D σ fs (qg P ops Q i) := by
 obtain ⟨o, ho, hw, hd, hdn, he⟩ := qga h
 exact fun _ Z HM => qom (S := fun wS => Mem W wS fs) Z HM ho hw hd hdn (hy o he) fun a Z => k a Z HM
theorem JJ.eff (h : opW ops σ n i = some (d, op)) (k : ∀ (o : Oper) a, o.op = op → o.dst = some d → d < n → Fr a n D σ → Mem W w fs → o.wp P a w (qg P ops Q (i + 1)) Q) : JJ W w n D σ fs (qg P ops Q i) := by
 obtain ⟨o, ho, hw, hd, hdn, he⟩ := qga h
 exact fun a Z HM => qid Z ho hw (k o a he hd hdn Z HM)
theorem Jp (m : Nat) (h : qa1 P ops n m i σ = some σ' := by exact rfl) (k : JJ W w n D σ' fs (qg P ops Q (i + m))) : JJ W w n D σ fs (qg P ops Q i) :=
 fun _ Z HM => qfh m i Z h rfl fun a' HF' => k a' HF' HM
theorem Jv (m : Nat) (new : List (Nat × Value)) (h : (qa1 P ops n m i σ).map (fun s => (thin s σ new, new.map fun p => s.lookup p.1)) = some (true, new.map fun p => some p.2) := by kernel_rfl) (k : JJ W w n D (new ++ σ) fs (qg P ops Q (i + m))) : JJ W w n D σ fs (qg P ops Q i) :=
 fun _ Z HM => fp Z m i new (fun a' HF' => k a' HF' HM) h
theorem Jf (off : Nat) {s f g b : Nat} {x : Operand} (h : opW ops σ n i = some (d, .fieldAddr s x f) := by exact rfl) (hx : look σ x = some (.pointer (some ⟨g, b, none⟩)) := by exact rfl) (hf : qet P s f = some off := by kernel_rfl) (k : JJ W w n D ((d, .pointer (some ⟨g, b + off, none⟩)) :: σ) fs (qg P ops Q (i + 1))) : JJ W w n D σ fs (qg P ops Q i) :=
 JJ.yl h (fun o ho => Yl.pure (by rw [ho]; simp only [qb7, hx, hf]; rw [Addr.add_mid])) k
theorem Jc {g off : Nat} {x : Operand} {t tb : TypeId} {cs : Array Value} (O : At fs (.blk g cs tb)) (h : opW ops σ n i = some (d, .load t x) := by exact rfl) (hx : look σ x = some (.pointer (some ⟨g, off, none⟩)) := by exact rfl) (hv : nth cs.toList off = some v := by exact rfl) (ht : isOne P t = true := by kernel_rfl) (k : JJ W w n D ((d, v) :: σ) fs (qg P ops Q (i + 1))) : JJ W w n D σ fs (qg P ops Q i) :=
 JJ.yl h (fun o ho => Yl.qx ho hx ht fun _ h => let ⟨_, hi⟩ := O.get; h.cell hi (qlj hv)) k
theorem Jg (off : Nat) {s f g b : Nat} {x : Operand} {t tb : TypeId} {cs : Array Value} (O : At fs (.blk g cs tb)) (h : opW ops σ n i = some (d, .fieldAddr s x f) := by exact rfl) (hx : look σ x = some (.pointer (some ⟨g, b, none⟩)) := by exact rfl) (h2 : opW ops ((d, .pointer (some ⟨g, b + off, none⟩)) :: σ) n (i + 1) = some (d2, .load t (.tmp d)) := by exact rfl) (hv : nth cs.toList (b + off) = some v := by exact rfl)
 (hk : (isOne P t && (qet P s f == some off && (d2 == d || (σ.lookup d).isNone))) = true := by kernel_rfl) (k : JJ W w n D ((d2, v) :: σ) fs (qg P ops Q (i + 2))) : JJ W w n D σ fs (qg P ops Q i) := by
 simp only [Bool.and_eq_true, beq_iff_eq] at hk
 refine Jf off h hx hk.2.1 (Jc O h2 ?_ hv hk.1 (Jd1 (by simpa [Bool.beq_comm] using hk.2.2) k))
 simp [look]
theorem Jl {x : Operand} {t : TypeId} {A : Option Addr} {m c : Nat} (h : opW ops σ n i = some (d, .call { callee := .builtin .len, args := #[x], argTypes := #[t] }) := by exact rfl) (hx : look σ x = some (.slice A m c) := by exact rfl) (ht : isSl P t = true := by kernel_rfl) (k : JJ W w n D ((d, .int .i64 (m : Int)) :: σ) fs (qg P ops Q (i + 1))) : JJ W w n D σ fs (qg P ops Q i) :=
 JJ.yl h (fun o ho => Yl.len ho hx ht) k
theorem Jn {x : Operand} {p : Addr} (h : opW ops σ n i = some (d, .nilCheck x) := by exact rfl) (hx : look σ x = some (.pointer (some p)) := by exact rfl) (k : JJ W w n D ((d, .pointer (some p)) :: σ) fs (qg P ops Q (i + 1))) : JJ W w n D σ fs (qg P ops Q i) :=
 JJ.yl h (fun o ho => Yl.nilCheck ho hx) k
theorem Jx {x : Operand} {e : Nat} {vs : Array Value} (h : opW ops σ n i = some (d, .extract x e) := by exact rfl) (hx : look σ x = some (.tuple vs) := by exact rfl) (hv : nth vs.toList e = some v := by exact rfl) (k : JJ W w n D ((d, v) :: σ) fs (qg P ops Q (i + 1))) : JJ W w n D σ fs (qg P ops Q i) :=
 JJ.yl h (fun o ho => Yl.pure (by rw [ho]; simp only [qb7, hx]; exact qlj hv)) k
theorem Jy (ho : ops[i]? = some o := by exact rfl) (hw : wantB ops σ o = some true := by exact rfl) (hd : o.dst = some d := by exact rfl) (hdn : d < n := by decide) (h : Yl P (fun wS => Mem W wS fs) σ o v) (k : JJ W w n D ((d, v) :: σ) fs (qg P ops Q (i + 1))) : JJ W w n D σ fs (qg P ops Q i) :=
 fun _ Z HM => qom (S := fun wS => Mem W wS fs) Z HM ho hw hd hdn h fun a Z => k a Z HM
theorem Jo (u : Value) (h : v = u) (k : JJ W w n D ((d, u) :: σ) fs X) : JJ W w n D ((d, v) :: σ) fs X := by subst h; exact k
section
variable {x y : Operand} {t t2 : TypeId} {k : Go.IntKind} {m p B : Nat}
theorem JJ.bin {bo : BinOp} {u : Value} {a1 a2 : Value} (h : opW ops σ n i = some (d, .binOp bo t x y t2)) (hx : look σ x = some a1) (hy : look σ y = some a2) (hn : qmm a1 = true) (hb : qd9 bo a1 a2 = some v) (e : v = u) (K : JJ W w n D ((d, u) :: σ) fs (qg P ops Q (i + 1))) : JJ W w n D σ fs (qg P ops Q i) := by
 subst e
 exact JJ.yl h (fun o ho => Yl.pure (by rw [ho]; simp only [qb7, hx, hy, hn, if_true]; exact hb)) K
theorem quw (k : Go.IntKind) (a b : Int) : qd9 .add (.int k a) (.int k b) = some (.int k (k.wrap (a + b))) := by simp [qd9, qp4]
theorem qux (k : Go.IntKind) (a b : Int) : qd9 .sub (.int k a) (.int k b) = some (.int k (k.wrap (a - b))) := by simp [qd9, qp4]
theorem Ja (h : opW ops σ n i = some (d, .binOp .add t x y t2) := by exact rfl) (hx : look σ x = some (.int k (m : Int)) := by exact rfl) (hy : look σ y = some (.int k (p : Int)) := by exact rfl) (hB : mostO k = some B := by exact rfl) (hb : m + p ≤ B := by omega) (K : JJ W w n D ((d, .int k ((m + p : Nat) : Int)) :: σ) fs (qg P ops Q (i + 1))) : JJ W w n D σ fs (qg P ops Q i) :=
 JJ.bin h hx hy rfl (quw _ _ _) (by rw [show ((m : Int) + (p : Int)) = ((m + p : Nat) : Int) from rfl, qdb hB hb]) K
theorem JaK (p : Nat) {z : Int} (h : opW ops σ n i = some (d, .binOp .add t x y t2) := by exact rfl) (hx : look σ x = some (.int k (m : Int)) := by exact rfl) (hy : look σ y = some (.int k z) := by exact rfl) (hz : z = (p : Int) := by exact rfl) (hB : mostO k = some B := by exact rfl) (hb : m + p ≤ B := by omega) (K : JJ W w n D ((d, .int k ((m + p : Nat) : Int)) :: σ) fs (qg P ops Q (i + 1))) : JJ W w n D σ fs (qg P ops Q i) := by
 subst hz; exact Ja h hx hy hB hb K
theorem Js (h : opW ops σ n i = some (d, .binOp .sub t x y t2) := by exact rfl) (hx : look σ x = some (.int k (m : Int)) := by exact rfl) (hy : look σ y = some (.int k (p : Int)) := by exact rfl) (hB : mostO k = some B := by exact rfl) (hb : p ≤ m ∧ m - p ≤ B := by omega) (K : JJ W w n D ((d, .int k ((m - p : Nat) : Int)) :: σ) fs (qg P ops Q (i + 1))) : JJ W w n D σ fs (qg P ops Q i) :=
 JJ.bin h hx hy rfl (qux _ _ _) (by rw [show ((m : Int) - (p : Int)) = ((m - p : Nat) : Int) by omega, qdb hB hb.2]) K
theorem JsK (p : Nat) {z : Int} (h : opW ops σ n i = some (d, .binOp .sub t x y t2) := by exact rfl) (hx : look σ x = some (.int k (m : Int)) := by exact rfl) (hy : look σ y = some (.int k z) := by exact rfl) (hz : z = (p : Int) := by exact rfl) (hB : mostO k = some B := by exact rfl) (hb : p ≤ m ∧ m - p ≤ B := by omega) (K : JJ W w n D ((d, .int k ((m - p : Nat) : Int)) :: σ) fs (qg P ops Q (i + 1))) : JJ W w n D σ fs (qg P ops Q i) := by
 subst hz; exact Js h hx hy hB hb K
def intK (P : Program) (s t : TypeId) : Option Go.IntKind := match P.underlying s, P.underlying t with
 | some _, some (.int k) => some k
 | _, _ => none
theorem Jw (k : Go.IntKind) {k0 : Go.IntKind} (h : opW ops σ n i = some (d, .convert t t2 x) := by exact rfl) (hx : look σ x = some (.int k0 (m : Int)) := by exact rfl) (hk : intK P t t2 = some k := by kernel_rfl) (hB : mostO k = some B := by exact rfl) (hb : m ≤ B := by omega) (K : JJ W w n D ((d, .int k (m : Int)) :: σ) fs (qg P ops Q (i + 1))) : JJ W w n D σ fs (qg P ops Q i) := by
 refine JJ.yl h (fun o ho => Yl.pure (by
  rw [ho]
  unfold intK at hk
  split at hk
  ·rename_i q1 q2 h1 h2
   injection hk with hk
   subst hk
   simp only [qb7, h1, h2, hx, qdb hB hb]
  ·cases hk)) K
end
theorem Ji {p : Prop} {inst : Decidable p} (h1 : p → JJ W w n D ((d, .bool true) :: σ) fs X) (h2 : ¬ p → JJ W w n D ((d, .bool false) :: σ) fs X) : JJ W w n D ((d, .bool (@decide p inst)) :: σ) fs X := by
 by_cases h : p
 ·rw [decide_eq_true h]; exact h1 h
 ·rw [decide_eq_false h]; exact h2 h
theorem Je {α : Type} {ib : BEq α} [LawfulBEq α] {x y : α} (h1 : x = y → JJ W w n D ((d, .bool true) :: σ) fs X) (h2 : x ≠ y → JJ W w n D ((d, .bool false) :: σ) fs X) : JJ W w n D ((d, .bool (x == y)) :: σ) fs X := by
 cases h : x == y
 ·exact h2 (ne_of_beq_false h)
 ·exact h1 (eq_of_beq h)
theorem Jh {α : Type} {ib : BEq α} [LawfulBEq α] {x y : α} (h1 : x ≠ y → JJ W w n D ((d, .bool true) :: σ) fs X) (h2 : x = y → JJ W w n D ((d, .bool false) :: σ) fs X) : JJ W w n D ((d, .bool (x != y)) :: σ) fs X := by
 cases h : x != y
 ·exact h2 (bne_eq_false_iff_eq.1 h)
 ·exact h1 (bne_iff_ne.1 h)
theorem Ju {b : Bool} (h1 : b = true → JJ W w n D ((d, .bool true) :: σ) fs X) (h2 : b = false → JJ W w n D ((d, .bool false) :: σ) fs X) : JJ W w n D ((d, .bool b) :: σ) fs X := by
 cases b
 ·exact h2 rfl
 ·exact h1 rfl
theorem Jr {id : Nat} {c : Code} {Q' : Exit → Act → World → Prop} (hi : ops.size = i := by exact rfl) (h : ∀ a w, Q' .normal a w = Code.wp P (.seq (.region id o2 false) c) Q a w := by exact fun _ _ => rfl) (k : JJ W w n D σ fs (qg P o2 (Exit.then (Code.wp P c Q) Q) 0)) : JJ W w n D σ fs (qg P ops Q' i) :=
 fun a Z HM => qic hi (by rw [h]; exact wp_seq (qa7 (k a Z HM)))
theorem Jq (hi : ops.size = i := by exact rfl) (k : JJ W w n D σ fs (Q .normal)) : JJ W w n D σ fs (qg P ops Q i) := fun a Z HM => qic hi (k a Z HM)
theorem Jj {c : Code} {Q' : Exit → Act → World → Prop} (hi : ops.size = i := by exact rfl) (h : ∀ a w, Q' .normal a w = Code.wp P c Q a w := by exact fun _ _ => rfl) (k : JJ W w n D σ fs (Code.wp P c Q)) : JJ W w n D σ fs (qg P ops Q' i) := fun a Z HM => qic hi (by rw [h]; exact k a Z HM)
theorem JR {id : Nat} (k : JJ W w n D σ fs (qg P ops Q 0)) : JJ W w n D σ fs (Code.wp P (.region id ops false) Q) := fun a Z HM => qa7 (k a Z HM)
theorem JQ {c c2 : Code} (k : JJ W w n D σ fs (Code.wp P c (Exit.then (Code.wp P c2 Q) Q))) : JJ W w n D σ fs (Code.wp P (.seq c c2) Q) := fun a Z HM => wp_seq (k a Z HM)
theorem JP {id : Nat} {c : Code} (k : JJ W w n D σ fs (qg P ops (Exit.then (Code.wp P c Q) Q) 0)) : JJ W w n D σ fs (Code.wp P (.seq (.region id ops false) c) Q) := fun a Z HM => wp_seq (qa7 (k a Z HM))
theorem JG {Y : Act → World → Prop} {c : Code} (h : ∀ a w, Y a w = Code.wp P c Q a w := by exact fun _ _ => rfl) (k : JJ W w n D σ fs (Code.wp P c Q)) : JJ W w n D σ fs Y := fun a Z HM => by rw [h]; exact k a Z HM
theorem JS' {c : Code} {Q' : Exit → Act → World → Prop} (h : ∀ a w, Q' .normal a w = Code.wp P c Q a w := by exact fun _ _ => rfl) (k : JJ W w n D σ fs (Code.wp P c Q)) : JJ W w n D σ fs (Code.wp P .skip Q') := fun a Z HM => wp_skip (by rw [h]; exact k a Z HM)
theorem JT {c : Operand} {x y : Code} (hc : look σ c = some (.bool true) := by exact rfl) (k : JJ W w n D σ fs (Code.wp P x Q)) : JJ W w n D σ fs (Code.wp P (.cond c x y) Q) := fun a Z HM => qtw Z hc (k a Z HM)
theorem JF {c : Operand} {x y : Code} (hc : look σ c = some (.bool false) := by exact rfl) (k : JJ W w n D σ fs (Code.wp P y Q)) : JJ W w n D σ fs (Code.wp P (.cond c x y) Q) := fun a Z HM => qrh Z hc (k a Z HM)
theorem JB {id : Nat} {c : Code} (k : JJ W w n D σ fs (Code.wp P c (Exit.inBlock id Q))) : JJ W w n D σ fs (Code.wp P (.block id c) Q) := fun a Z HM => wp_block (k a Z HM)
theorem JS (k : JJ W w n D σ fs (Q .normal)) : JJ W w n D σ fs (Code.wp P .skip Q) := fun a Z HM => wp_skip (k a Z HM)
theorem JX {id : Nat} (k : JJ W w n D σ fs (Q (.exit id))) : JJ W w n D σ fs (Code.wp P (.exit id) Q) := fun a Z HM => wp_exit (k a Z HM)
theorem JZ (k : JJ W w n D σ fs (Q .ret)) : JJ W w n D σ fs (Code.wp P .ret Q) := fun a Z HM => wp_ret (k a Z HM)
section
variable {fn : Func} {R : Ending → World → Prop} {t1 t2 t3 : Nat}
theorem Jz1 (hX : ∀ a w, bodyPost P fn R .ret a w → X a w := by exact fun _ _ h => h) (hr : fn.results = #[.tmp t1] := by exact rfl) (h1 : σ.lookup t1 = some v1 := by exact rfl) (hR : Mem W w fs → R (.returned v1) w) : JJ W w n [] σ fs X := fun _ Z HM => hX _ _ (s_rt1 hr Z h1 (hR HM))
theorem JY1 (hX : ∀ a w, bodyPost P fn R .ret a w → X a w := by exact fun _ _ h => h) (hr : fn.results = #[.tmp t1] := by exact rfl) (h1 : σ.lookup t1 = some v1 := by exact rfl) (hR : Mem W w fs → R (.returned v1) w := by exact fun M => ⟨rfl, M.below⟩) : JJ W w n [] σ fs X := fun _ Z HM => hX _ _ (s_rt1 hr Z h1 (hR HM))
theorem Jz2 (hX : ∀ a w, bodyPost P fn R .ret a w → X a w := by exact fun _ _ h => h) (hr : fn.results = #[.tmp t1, .tmp t2] := by exact rfl) (h1 : σ.lookup t1 = some v1 := by exact rfl) (h2 : σ.lookup t2 = some v2 := by exact rfl) (hR : Mem W w fs → R (.returned (.tuple #[v1, v2])) w) : JJ W w n [] σ fs X := fun _ Z HM => hX _ _ (s_rt2 hr Z h1 h2 (hR HM))
theorem Jz3 (hX : ∀ a w, bodyPost P fn R .ret a w → X a w := by exact fun _ _ h => h) (hr : fn.results = #[.tmp t1, .tmp t2, .tmp t3] := by exact rfl) (h1 : σ.lookup t1 = some v1 := by exact rfl) (h2 : σ.lookup t2 = some v2 := by exact rfl) (h3 : σ.lookup t3 = some v3 := by exact rfl) (hR : Mem W w fs → R (.returned (.tuple #[v1, v2, v3])) w) : JJ W w n [] σ fs X := fun _ Z HM => hX _ _ (s_rt3 hr Z h1 h2 h3 (hR HM))
end
theorem JA (cs : Array Value) {e : TypeId} (h : opW ops σ n i = some (d, .alloc e) := by exact rfl) (hz : qbo P e = some cs := by kernel_rfl) (k : ∀ w' g, JJ W w' n D ((d, .pointer (some ⟨g, 0, none⟩)) :: σ) (.blk g cs e :: fs) (qg P ops Q (i + 1))) : JJ W w n D σ fs (qg P ops Q i) :=
 JJ.eff h fun _ _ he hd hdn Z HM => qon Z HM he hz hd hdn fun a w' g Z HM => k w' g a Z HM
theorem JE {cs : Array Value} {e : TypeId} {x : Operand} (h : opW ops σ n i = some (d, .box e x) := by exact rfl) (hx : look σ x = some (.agg cs) := by exact rfl) (k : ∀ w' g, JJ W w' n D ((d, .pointer (some ⟨g, 0, none⟩)) :: σ) (.blk g cs e :: fs) (qg P ops Q (i + 1))) : JJ W w n D σ fs (qg P ops Q i) :=
 JJ.eff h fun _ _ he hd hdn Z HM => e_box Z HM he hx rfl hd hdn fun a w' g Z HM => k w' g a Z HM
theorem Je1 {e : TypeId} {x : Operand} (h : opW ops σ n i = some (d, .box e x) := by exact rfl) (hx : look σ x = some v := by exact rfl) (hc : v.cells = #[v] := by exact rfl) (k : ∀ w' g, JJ W w' n D ((d, .pointer (some ⟨g, 0, none⟩)) :: σ) (.blk g #[v] e :: fs) (qg P ops Q (i + 1))) : JJ W w n D σ fs (qg P ops Q i) :=
 JJ.eff h fun _ _ he hd hdn Z HM => e_box Z HM he hx hc hd hdn fun a w' g Z HM => k w' g a Z HM
theorem JW {t : TypeId} {x y : Operand} {g off : Nat} {l m : List Value} {v0 : Value} {tb : TypeId} (O : Upd (.blk g l.toArray tb) (.blk g m.toArray tb) fs fs') (U : Upd v0 v l m) (ho : ops[i]? = some o := by exact rfl) (hop : o.op = .store t x y := by exact rfl) (hw : wantB ops σ o = some true := by exact rfl) (hd : o.dst = none := by exact rfl) (hx : look σ x = some (.pointer (some ⟨g, off, none⟩)) := by exact rfl) (hy : look σ y = some v := by exact rfl) (hs : (P.info? t).map (·.size) = some 1 := by kernel_rfl) (hv : v.oneCell' = true := by exact rfl)
 (hu : m = l.set off v := by exact rfl) (hl : Nat.blt off l.length = true := by exact rfl) (k : ∀ w', JJ W w' n D σ fs' (qg P ops Q (i + 1))) : JJ W w n D σ fs (qg P ops Q i) := by
 obtain ⟨j, hj, rfl⟩ := O.get
 refine fun a Z HM => qid Z ho hw (qtv Z HM hop hd hx hy hs hv hj (by simpa using hl) fun w' HM => k w' a Z ?_)
 subst hu
 simpa using HM
theorem JV {t : TypeId} {x y : Operand} {g m : Nat} {cs ds : Array Value} {tb : TypeId} (si : SI P t m) (O : Upd (.blk g cs tb) (.blk g ds tb) fs fs') (ho : ops[i]? = some o := by exact rfl) (hop : o.op = .store t x y := by exact rfl) (hw : wantB ops σ o = some true := by exact rfl) (hd : o.dst = none := by exact rfl) (hx : look σ x = some (.pointer (some ⟨g, 0, none⟩)) := by exact rfl) (hy : look σ y = some (.agg ds) := by exact rfl)
 (hc : cs.size = m := by exact rfl) (hm : ds.size = m := by exact rfl) (h1 : ∀ u ∈ ds.toList, u.oneCell' = true := by simp [Value.oneCell']) (k : ∀ w', JJ W w' n D σ fs' (qg P ops Q (i + 1))) : JJ W w n D σ fs (qg P ops Q i) := by
 obtain ⟨j, hj, rfl⟩ := O.get
 exact fun a Z HM => qid Z ho hw (qjy Z HM hop hd hx hy si hc hm h1 hj fun w' HM => k w' a Z HM)
theorem JI {f : FuncId} {xs : Array Operand} {ts : Array TypeId} {vs : List Value} (h0 : opW ops σ n i = some (d, .call { callee := .value (.func f), args := xs, argTypes := ts }) := by exact rfl) (hv : looks σ xs.toList = some vs := by exact rfl) (h : Mem W w fs → Calls P f vs.toArray w (fun r w' => r = .returned v ∧ Below w.heap.size w w')) (hf : callable P f = true := by kernel_rfl)
 (k : ∀ w', Below w.heap.size w w' → JJ W w' n D ((d, v) :: σ) fs (qg P ops Q (i + 1))) : JJ W w n D σ fs (qg P ops Q i) :=
 JJ.eff h0 fun _ _ he hd hdn Z HM => qie Z he hv hf hd hdn (h HM) fun _ w' ⟨h1, h2⟩ => ⟨v, h1, fun a Z => k w' h2 a Z (HM.call h2)⟩
theorem JL {f : FuncId} {xs : Array Operand} {ts : Array TypeId} {vs : List Value} {R : Ending → World → Prop} (h0 : opW ops σ n i = some (d, .call { callee := .value (.func f), args := xs, argTypes := ts }) := by exact rfl) (hv : looks σ xs.toList = some vs := by exact rfl) (h : Mem W w fs → Calls P f vs.toArray w R) (hf : callable P f = true := by kernel_rfl)
 (k : Mem W w fs → ∀ r w', R r w' → ∃ v, r = .returned v ∧ ∃ fs', Mem W w' fs' ∧ JJ W w' n D ((d, v) :: σ) fs' (qg P ops Q (i + 1))) : JJ W w n D σ fs (qg P ops Q i) :=
 JJ.eff h0 fun _ _ he hd hdn Z HM => qie Z he hv hf hd hdn (h HM) fun r w' hr => let ⟨v, h1, _, h3, h4⟩ := k HM r w' hr; ⟨v, h1, fun a Z => h4 a Z h3⟩
theorem JK {f : FuncId} {xs : Array Operand} {ts : Array TypeId} {vs : List Value} {V : Option Addr → Nat → Value} {m sz : Nat} {e : TypeId} {ys : List Value} (h0 : opW ops σ n i = some (d, .call { callee := .value (.func f), args := xs, argTypes := ts }) := by exact rfl) (hv : looks σ xs.toList = some vs := by exact rfl) (h : Mem W w fs → Calls P f vs.toArray w (fun r w' => (∃ A c, r = .returned (V A c) ∧ w'.ownsRow w.heap.size e sz (.slice A m c) m ys ∧ m ≤ c) ∧ Below w.heap.size w w')) (hf : callable P f = true := by kernel_rfl)
 (k : ∀ A c w', m ≤ c → JJ W w' n D ((d, V A c) :: σ) (.row (.slice A m c) m ys e sz :: fs) (qg P ops Q (i + 1))) : JJ W w n D σ fs (qg P ops Q i) :=
 JJ.eff h0 fun _ _ he hd hdn Z HM => qie Z he hv hf hd hdn (h HM) fun r w' ⟨⟨A, c, h1, h2, h3⟩, h4⟩ => ⟨_, h1, fun a Z => k A c w' h3 a Z (HM.callRow h4 h2)⟩
theorem JO {f : FuncId} {xs : Array Operand} {ts : Array TypeId} {vs : List Value} (h0 : opW ops σ n i = some (d, .call { callee := .value (.func f), args := xs, argTypes := ts }) := by exact rfl) (hv : looks σ xs.toList = some vs := by exact rfl) (h : Mem W w fs → Calls P f vs.toArray w (fun r w' => r = .returned v ∧ Mem W w' fs')) (hf : callable P f = true := by kernel_rfl)
 (k : ∀ w', JJ W w' n D ((d, v) :: σ) fs' (qg P ops Q (i + 1))) : JJ W w n D σ fs (qg P ops Q i) :=
 JJ.eff h0 fun _ _ he hd hdn Z HM => qie Z he hv hf hd hdn (h HM) fun r w' ⟨h1, h2⟩ => ⟨v, h1, fun a Z => k w' a Z h2⟩
theorem JH {p : Prop} (h : p) (k : p → JJ W w n D σ fs X) : JJ W w n D σ fs X := k h
section
variable {f N : Nat} {fn : Func} {c : Code} {R : Ending → World → Prop} {u1 u2 u3 u4 u5 u6 u7 u8 : Value}
theorem JN0 (hf : P.funcs[f]? = some fn) (N : Nat) (hn : fn.ntmps = N := by exact rfl) (hb : fn.body = some c := by exact rfl) (hl : decide (0 ≤ N) = true := by kernel_rfl) (k : JJ w w N [] [] [] (Code.wp P c (bodyPost P fn R))) : Calls P f #[] w R :=
 qbp (vs := []) hf hb hn hl rfl fun a Z => k a Z (Mem.start w)
theorem JN1 (hf : P.funcs[f]? = some fn) (N : Nat) (hn : fn.ntmps = N := by exact rfl) (hb : fn.body = some c := by exact rfl) (hl : decide (1 ≤ N) = true := by kernel_rfl) (k : JJ w w N [] [(0, u1)] [] (Code.wp P c (bodyPost P fn R))) : Calls P f #[u1] w R :=
 qbp (vs := [u1]) hf hb hn hl rfl fun a Z => k a Z (Mem.start w)
theorem JN2 (hf : P.funcs[f]? = some fn) (N : Nat) (hn : fn.ntmps = N := by exact rfl) (hb : fn.body = some c := by exact rfl) (hl : decide (2 ≤ N) = true := by kernel_rfl) (k : JJ w w N [] [(0, u1), (1, u2)] [] (Code.wp P c (bodyPost P fn R))) : Calls P f #[u1, u2] w R :=
 qbp (vs := [u1, u2]) hf hb hn hl rfl fun a Z => k a Z (Mem.start w)
theorem JN3 (hf : P.funcs[f]? = some fn) (N : Nat) (hn : fn.ntmps = N := by exact rfl) (hb : fn.body = some c := by exact rfl) (hl : decide (3 ≤ N) = true := by kernel_rfl) (k : JJ w w N [] [(0, u1), (1, u2), (2, u3)] [] (Code.wp P c (bodyPost P fn R))) : Calls P f #[u1, u2, u3] w R :=
 qbp (vs := [u1, u2, u3]) hf hb hn hl rfl fun a Z => k a Z (Mem.start w)
theorem JN4 (hf : P.funcs[f]? = some fn) (N : Nat) (hn : fn.ntmps = N := by exact rfl) (hb : fn.body = some c := by exact rfl) (hl : decide (4 ≤ N) = true := by kernel_rfl) (k : JJ w w N [] [(0, u1), (1, u2), (2, u3), (3, u4)] [] (Code.wp P c (bodyPost P fn R))) : Calls P f #[u1, u2, u3, u4] w R :=
 qbp (vs := [u1, u2, u3, u4]) hf hb hn hl rfl fun a Z => k a Z (Mem.start w)
end
end
section
variable {P : Program} {ops o2 : Array Oper} {Q : Exit → Act → World → Prop} {a : Act} {W w : World} {n d d2 fuel : Nat} {D : List Deferred} {σ σ' : List (Nat × Value)} {o o' : Oper} {op : Op} {v v1 v2 v3 : Value} {X : Act → World → Prop} {fs gs fs' : List Fact} {md : Region.Mode} {listed : Array Bool} {ex : List Nat} {S : World → Prop}
def VV (W w : World) (n : Nat) (D : List Deferred) (σ : List (Nat × Value)) (fs gs : List Fact) (X : Act → World → Prop) : Prop := ∀ a, Fr a n D σ → Mem W w fs → Mem W w gs → X a w
theorem Vb (Z : Fr a n D σ) (HM : Mem W w fs) (HS : Mem W w gs) (h : VV W w n D σ fs gs X) : X a w := h a Z HM HS
def setT (l : Array Bool) (is : List Nat) : Array Bool := is.foldl (fun l i => l.setIfInBounds i true) l
theorem Vs (m : Sel fs gs) (ex : List Nat) {id f0 : Nat} (hf : ops.size = f0 := by exact rfl) (hm : P.follows .mixedOrders = true := by kernel_rfl) (k : ∀ w', VV W w' n D σ fs gs (qj P .any ops Q (fun wS => Mem W wS gs) ex f0 (Array.replicate ops.size false))) : JJ W w n D σ fs (Code.wp P (.region id ops true) Q) :=
 fun a Z HM => qtu hm (fun wS => Mem W wS gs) ex (by have h := k w.drew a Z HM.drew (HM.drew.sel m); subst hf; exact h)
theorem Vd (hr : Region.ready md ops listed = [] := by kernel_rfl) (k : JJ W w n D σ fs (Q .normal)) : VV W w n D σ fs gs (qj P md ops Q S ex fuel listed) := fun a Z HM _ => qh hr (k a Z HM)
def qg5 (P : Program) (ops : Array Oper) (n : Nat) : List Nat → List (Nat × Value) → Option (List (Nat × Value))
 | [], σ => some σ
 | i :: is, σ => match qcu P ops n i σ with
  | some σ' => qg5 P ops n is σ'
  | none => none
def okSel (md : Region.Mode) (ops : Array Oper) (ex : List Nat) : List Nat → Array Bool → Bool
 | [], _ => true
 | i :: is, l => qb8 md ops ex l i && okSel md ops ex is (l.setIfInBounds i true)
theorem qfj : ∀ (is : List Nat) {l : Array Bool} {σ σ' : List (Nat × Value)}, qg5 P ops n is σ = some σ' → okSel md ops ex is l = true → qce P md ops n ex is l σ = some (setT l is, σ')
 | [], _, _, _, h, _ => by injection h with h; subst h; rfl
 | i :: is, l, σ, σ', h, hk => by
  unfold qg5 at h
  unfold okSel at hk
  rw [Bool.and_eq_true] at hk
  split at h
  ·rename_i s hs
   unfold qce
   rw [if_pos hk.1, hs]
   exact qfj is h hk.2
  ·cases h
theorem Vp (is : List Nat) (h : qg5 P ops n is σ = some σ' := by exact rfl) (hk : okSel md ops ex is listed = true := by kernel_rfl) (hQ : ∀ c (a : Act) d v w, Q (.panic c) (a.put d v) w → Q (.panic c) a w := by intro _ _ d _ _ h; cases d <;> exact h)
 (k : VV W w n D σ' fs gs (qj P md ops Q S ex fuel (setT listed is))) (hS : ∀ w, Mem W w gs → S w := by exact fun _ h => h) : VV W w n D σ fs gs (qj P md ops Q S ex (fuel + is.length) listed) :=
 fun a Z HM HS => qeu hQ is Z (fun _ => hS _ HS) (qfj is h hk) fun a Z => k a Z HM HS
theorem Vq (is : List Nat) (new : List (Nat × Value)) (h : (qg5 P ops n is σ).map (fun s => (thin s σ new, new.map fun p => s.lookup p.1)) = some (true, new.map fun p => some p.2) := by kernel_rfl) (hk : okSel md ops ex is listed = true := by kernel_rfl) (hQ : ∀ c (a : Act) d v w, Q (.panic c) (a.put d v) w → Q (.panic c) a w := by intro _ _ d _ _ h; cases d <;> exact h)
 (k : VV W w n D (new ++ σ) fs gs (qj P md ops Q (fun wS => Mem W wS gs) ex fuel (setT listed is))) : VV W w n D σ fs gs (qj P md ops Q (fun wS => Mem W wS gs) ex (fuel + is.length) listed) := by
 cases hs : qg5 P ops n is σ with
 | none => rw [hs] at h; cases h
 | some s =>
  rw [hs] at h
  injection h with h
  injection h with h1 h2
  have hA := qfj is hs hk
  obtain ⟨full, hf⟩ := qea is hA
  exact fun a Z HM HS => qeu hQ is Z (fun _ => HS) hA fun a Z => k a (Z.thin hf h1 h2) HM HS
section
variable {i : Nat}
theorem VV.yl (h : opW ops σ n i = some (d, op)) (hk : qhi md ops ex listed i = true) (hQ : ∀ c (a : Act) v w, Q (.panic c) (a.put (some d) v) w → Q (.panic c) a w) (hy : ∀ o : Oper, o.op = op → Yl P (fun wS => Mem W wS gs) σ o v)
 (k : VV W w n D ((d, v) :: σ) fs gs (qj P md ops Q (fun wS => Mem W wS gs) ex fuel (listed.setIfInBounds i true))) : VV W w n D σ fs gs (qj P md ops Q (fun wS => Mem W wS gs) ex (fuel + 1) listed) := by
 obtain ⟨o, ho, hw, hd, hdn, he⟩ := qga h
 exact fun a Z HM HS => qmp Z HS ho hw hd hdn hk (fun c a w => by rw [hd]; exact hQ c a v w) (hy o he) fun a Z => k a Z HM HS
theorem VV.pu (h : opW ops σ n i = some (d, op)) (hk : qb8 md ops ex listed i = true) (hQ : ∀ c (a : Act) v w, Q (.panic c) (a.put (some d) v) w → Q (.panic c) a w) (hy : ∀ o : Oper, o.op = op → ∀ S', Yl P S' σ o v)
 (k : VV W w n D ((d, v) :: σ) fs gs (qj P md ops Q (fun wS => Mem W wS gs) ex fuel (listed.setIfInBounds i true))) : VV W w n D σ fs gs (qj P md ops Q (fun wS => Mem W wS gs) ex (fuel + 1) listed) := by
 obtain ⟨o, ho, hw, hd, hdn, he⟩ := qga h
 exact fun a Z HM HS => qcd Z (fun _ => HS) ho hw hd hdn hk (fun c a w => by rw [hd]; exact hQ c a v w) (hy o he) fun a Z => k a Z HM HS
theorem VV.eff (h : opW ops σ n i = some (d, op)) (hr : Region.ready md ops listed = [i]) (k : ∀ (o : Oper) a, o.op = op → o.dst = some d → d < n → Fr a n D σ → Mem W w fs → o.wp P a w (fun a' w' => (pastB ex (listed.setIfInBounds i true) = false → Mem W w' gs) ∧ qj P md ops Q (fun wS => Mem W wS gs) ex fuel (listed.setIfInBounds i true) a' w') Q) : VV W w n D σ fs gs (qj P md ops Q (fun wS => Mem W wS gs) ex (fuel + 1) listed) := by
 obtain ⟨o, ho, hw, hd, hdn, he⟩ := qga h
 exact fun a Z HM _ => qcl [i] hr rfl (all_cons (qa8 Z ho hw (k o a he hd hdn Z HM)) all_nil)
end
theorem Vf (i off : Nat) {s f g b : Nat} {x : Operand} (h : opW ops σ n i = some (d, .fieldAddr s x f) := by exact rfl) (hx : look σ x = some (.pointer (some ⟨g, b, none⟩)) := by exact rfl) (hf : (qet P s f == some off && qb8 md ops ex listed i) = true := by kernel_rfl) (hQ : ∀ c (a : Act) v w, Q (.panic c) (a.put (some d) v) w → Q (.panic c) a w := by exact fun _ _ _ _ h => h)
 (k : VV W w n D ((d, .pointer (some ⟨g, b + off, none⟩)) :: σ) fs gs (qj P md ops Q (fun wS => Mem W wS gs) ex fuel (listed.setIfInBounds i true))) : VV W w n D σ fs gs (qj P md ops Q (fun wS => Mem W wS gs) ex (fuel + 1) listed) := by
 rw [Bool.and_eq_true, beq_iff_eq] at hf
 exact VV.pu h hf.2 hQ (fun o ho _ => Yl.pure (by rw [ho]; simp only [qb7, hx, hf.1]; rw [Addr.add_mid])) k
theorem Vc (i : Nat) {g off : Nat} {x : Operand} {t tb : TypeId} {cs : Array Value} (O : At gs (.blk g cs tb)) (h : opW ops σ n i = some (d, .load t x) := by exact rfl) (hx : look σ x = some (.pointer (some ⟨g, off, none⟩)) := by exact rfl) (hv : nth cs.toList off = some v := by exact rfl) (ht : (isOne P t && qhi md ops ex listed i) = true := by kernel_rfl) (hQ : ∀ c (a : Act) v w, Q (.panic c) (a.put (some d) v) w → Q (.panic c) a w := by exact fun _ _ _ _ h => h)
 (k : VV W w n D ((d, v) :: σ) fs gs (qj P md ops Q (fun wS => Mem W wS gs) ex fuel (listed.setIfInBounds i true))) : VV W w n D σ fs gs (qj P md ops Q (fun wS => Mem W wS gs) ex (fuel + 1) listed) := by
 rw [Bool.and_eq_true] at ht
 exact VV.yl h ht.2 hQ (fun o ho => Yl.qx ho hx ht.1 fun _ h => let ⟨_, hi⟩ := O.get; h.cell hi (qlj hv)) k
theorem Vl (i : Nat) {x : Operand} {t : TypeId} {A : Option Addr} {m c : Nat} (h : opW ops σ n i = some (d, .call { callee := .builtin .len, args := #[x], argTypes := #[t] }) := by exact rfl) (hx : look σ x = some (.slice A m c) := by exact rfl) (ht : (isSl P t && qb8 md ops ex listed i) = true := by kernel_rfl) (hQ : ∀ c (a : Act) v w, Q (.panic c) (a.put (some d) v) w → Q (.panic c) a w := by exact fun _ _ _ _ h => h)
 (k : VV W w n D ((d, .int .i64 (m : Int)) :: σ) fs gs (qj P md ops Q (fun wS => Mem W wS gs) ex fuel (listed.setIfInBounds i true))) : VV W w n D σ fs gs (qj P md ops Q (fun wS => Mem W wS gs) ex (fuel + 1) listed) := by
 rw [Bool.and_eq_true] at ht
 exact VV.pu h ht.2 hQ (fun o ho _ => Yl.len ho hx ht.1) k
theorem Vn (i : Nat) {x : Operand} {p : Addr} (h : opW ops σ n i = some (d, .nilCheck x) := by exact rfl) (hx : look σ x = some (.pointer (some p)) := by exact rfl) (ht : qb8 md ops ex listed i = true := by kernel_rfl) (hQ : ∀ c (a : Act) v w, Q (.panic c) (a.put (some d) v) w → Q (.panic c) a w := by exact fun _ _ _ _ h => h)
 (k : VV W w n D ((d, .pointer (some p)) :: σ) fs gs (qj P md ops Q (fun wS => Mem W wS gs) ex fuel (listed.setIfInBounds i true))) : VV W w n D σ fs gs (qj P md ops Q (fun wS => Mem W wS gs) ex (fuel + 1) listed) :=
 VV.pu h ht hQ (fun o ho _ => Yl.nilCheck ho hx) k
theorem Vx (i : Nat) {x : Operand} {e : Nat} {vs : Array Value} (h : opW ops σ n i = some (d, .extract x e) := by exact rfl) (hx : look σ x = some (.tuple vs) := by exact rfl) (hv : nth vs.toList e = some v := by exact rfl) (ht : qb8 md ops ex listed i = true := by kernel_rfl) (hQ : ∀ c (a : Act) v w, Q (.panic c) (a.put (some d) v) w → Q (.panic c) a w := by exact fun _ _ _ _ h => h)
 (k : VV W w n D ((d, v) :: σ) fs gs (qj P md ops Q (fun wS => Mem W wS gs) ex fuel (listed.setIfInBounds i true))) : VV W w n D σ fs gs (qj P md ops Q (fun wS => Mem W wS gs) ex (fuel + 1) listed) :=
 VV.pu h ht hQ (fun o ho _ => Yl.pure (by rw [ho]; simp only [qb7, hx]; exact qlj hv)) k
theorem Vy (i : Nat) (ho : ops[i]? = some o := by exact rfl) (hw : wantB ops σ o = some true := by exact rfl) (hd : o.dst = some d := by exact rfl) (hdn : d < n := by decide) (h : Yl P (fun wS => Mem W wS gs) σ o v) (ht : qhi md ops ex listed i = true := by kernel_rfl) (hQ : ∀ c (a : Act) w, Q (.panic c) (a.put o.dst v) w → Q (.panic c) a w := by exact fun _ _ _ h => h)
 (k : VV W w n D ((d, v) :: σ) fs gs (qj P md ops Q (fun wS => Mem W wS gs) ex fuel (listed.setIfInBounds i true))) : VV W w n D σ fs gs (qj P md ops Q (fun wS => Mem W wS gs) ex (fuel + 1) listed) :=
 fun a Z HM HS => qmp Z HS ho hw hd hdn ht hQ h fun a Z => k a Z HM HS
theorem Vo (u : Value) (h : v = u) (k : VV W w n D ((d, u) :: σ) fs gs X) : VV W w n D ((d, v) :: σ) fs gs X := by subst h; exact k
theorem VH {p : Prop} (h : p) (k : p → VV W w n D σ fs gs X) : VV W w n D σ fs gs X := k h
section
variable {x y : Operand} {t t2 : TypeId} {k : Go.IntKind} {m p B : Nat}
theorem VV.bin (i : Nat) {bo : BinOp} {u : Value} {a1 a2 : Value} (h : opW ops σ n i = some (d, .binOp bo t x y t2)) (hx : look σ x = some a1) (hy : look σ y = some a2) (ht : qb8 md ops ex listed i = true) (hQ : ∀ c (a : Act) v w, Q (.panic c) (a.put (some d) v) w → Q (.panic c) a w) (hn : qmm a1 = true) (hb : qd9 bo a1 a2 = some v) (e : v = u)
 (K : VV W w n D ((d, u) :: σ) fs gs (qj P md ops Q (fun wS => Mem W wS gs) ex fuel (listed.setIfInBounds i true))) : VV W w n D σ fs gs (qj P md ops Q (fun wS => Mem W wS gs) ex (fuel + 1) listed) := by
 subst e
 exact VV.pu h ht hQ (fun o ho _ => Yl.pure (by rw [ho]; simp only [qb7, hx, hy, hn, if_true]; exact hb)) K
theorem Va (i : Nat) (h : opW ops σ n i = some (d, .binOp .add t x y t2) := by exact rfl) (hx : look σ x = some (.int k (m : Int)) := by exact rfl) (hy : look σ y = some (.int k (p : Int)) := by exact rfl) (hB : mostO k = some B := by exact rfl) (hb : m + p ≤ B := by omega) (ht : qb8 md ops ex listed i = true := by kernel_rfl) (hQ : ∀ c (a : Act) v w, Q (.panic c) (a.put (some d) v) w → Q (.panic c) a w := by exact fun _ _ _ _ h => h)
 (K : VV W w n D ((d, .int k ((m + p : Nat) : Int)) :: σ) fs gs (qj P md ops Q (fun wS => Mem W wS gs) ex fuel (listed.setIfInBounds i true))) : VV W w n D σ fs gs (qj P md ops Q (fun wS => Mem W wS gs) ex (fuel + 1) listed) :=
 VV.bin i h hx hy ht hQ rfl (quw _ _ _) (by rw [show ((m : Int) + (p : Int)) = ((m + p : Nat) : Int) from rfl, qdb hB hb]) K
theorem VaK (i p : Nat) {z : Int} (h : opW ops σ n i = some (d, .binOp .add t x y t2) := by exact rfl) (hx : look σ x = some (.int k (m : Int)) := by exact rfl) (hy : look σ y = some (.int k z) := by exact rfl) (hz : z = (p : Int) := by exact rfl) (hB : mostO k = some B := by exact rfl) (hb : m + p ≤ B := by omega) (ht : qb8 md ops ex listed i = true := by kernel_rfl) (hQ : ∀ c (a : Act) v w, Q (.panic c) (a.put (some d) v) w → Q (.panic c) a w := by exact fun _ _ _ _ h => h)
 (K : VV W w n D ((d, .int k ((m + p : Nat) : Int)) :: σ) fs gs (qj P md ops Q (fun wS => Mem W wS gs) ex fuel (listed.setIfInBounds i true))) : VV W w n D σ fs gs (qj P md ops Q (fun wS => Mem W wS gs) ex (fuel + 1) listed) := by
 subst hz; exact Va i h hx hy hB hb ht hQ K
theorem VsK (i p : Nat) {z : Int} (h : opW ops σ n i = some (d, .binOp .sub t x y t2) := by exact rfl) (hx : look σ x = some (.int k (m : Int)) := by exact rfl) (hy : look σ y = some (.int k z) := by exact rfl) (hz : z = (p : Int) := by exact rfl) (hB : mostO k = some B := by exact rfl) (hb : p ≤ m ∧ m - p ≤ B := by omega) (ht : qb8 md ops ex listed i = true := by kernel_rfl) (hQ : ∀ c (a : Act) v w, Q (.panic c) (a.put (some d) v) w → Q (.panic c) a w := by exact fun _ _ _ _ h => h)
 (K : VV W w n D ((d, .int k ((m - p : Nat) : Int)) :: σ) fs gs (qj P md ops Q (fun wS => Mem W wS gs) ex fuel (listed.setIfInBounds i true))) : VV W w n D σ fs gs (qj P md ops Q (fun wS => Mem W wS gs) ex (fuel + 1) listed) := by
 subst hz
 exact VV.bin i h hx hy ht hQ rfl (qux _ _ _) (by rw [show ((m : Int) - (p : Int)) = ((m - p : Nat) : Int) by omega, qdb hB hb.2]) K
theorem Vw (i : Nat) (k : Go.IntKind) {k0 : Go.IntKind} (h : opW ops σ n i = some (d, .convert t t2 x) := by exact rfl) (hx : look σ x = some (.int k0 (m : Int)) := by exact rfl) (hk : (intK P t t2 == some k && qb8 md ops ex listed i) = true := by kernel_rfl) (hB : mostO k = some B := by exact rfl) (hb : m ≤ B := by omega) (hQ : ∀ c (a : Act) v w, Q (.panic c) (a.put (some d) v) w → Q (.panic c) a w := by exact fun _ _ _ _ h => h)
 (K : VV W w n D ((d, .int k (m : Int)) :: σ) fs gs (qj P md ops Q (fun wS => Mem W wS gs) ex fuel (listed.setIfInBounds i true))) : VV W w n D σ fs gs (qj P md ops Q (fun wS => Mem W wS gs) ex (fuel + 1) listed) := by
 rw [Bool.and_eq_true, beq_iff_eq] at hk
 obtain ⟨hk, ht⟩ := hk
 refine VV.pu h ht hQ (fun o ho _ => Yl.pure (by
  rw [ho]
  unfold intK at hk
  split at hk
  ·rename_i q1 q2 h1 h2
   injection hk with hk
   subst hk
   simp only [qb7, h1, h2, hx, qdb hB hb]
  ·cases hk)) K
end
theorem VA (i : Nat) (m : Sel fs gs) (cs : Array Value) {e : TypeId} (h : opW ops σ n i = some (d, .alloc e) := by exact rfl) (hz : qbo P e = some cs := by kernel_rfl) (hr : Region.ready md ops listed = [i] := by kernel_rfl)
 (k : ∀ w' g, VV W w' n D ((d, .pointer (some ⟨g, 0, none⟩)) :: σ) (.blk g cs e :: fs) gs (qj P md ops Q (fun wS => Mem W wS gs) ex fuel (listed.setIfInBounds i true))) : VV W w n D σ fs gs (qj P md ops Q (fun wS => Mem W wS gs) ex (fuel + 1) listed) :=
 VV.eff h hr fun _ _ he hd hdn Z HM => qon Z HM he hz hd hdn fun a w' g Z HM => ⟨fun _ => HM.sel (.f m), k w' g a Z HM (HM.sel (.f m))⟩
theorem VI (i : Nat) (m : Sel fs gs) {f : FuncId} {xs : Array Operand} {ts : Array TypeId} {vs : List Value} (h0 : opW ops σ n i = some (d, .call { callee := .value (.func f), args := xs, argTypes := ts }) := by exact rfl) (hv : looks σ xs.toList = some vs := by exact rfl) (h : Mem W w fs → Calls P f vs.toArray w (fun r w' => r = .returned v ∧ Below w.heap.size w w')) (hf : callable P f = true := by kernel_rfl) (hr : Region.ready md ops listed = [i] := by kernel_rfl)
 (k : ∀ w', Below w.heap.size w w' → VV W w' n D ((d, v) :: σ) fs gs (qj P md ops Q (fun wS => Mem W wS gs) ex fuel (listed.setIfInBounds i true))) : VV W w n D σ fs gs (qj P md ops Q (fun wS => Mem W wS gs) ex (fuel + 1) listed) :=
 VV.eff h0 hr fun _ _ he hd hdn Z HM => qie Z he hv hf hd hdn (h HM) fun _ w' ⟨h1, h2⟩ => ⟨v, h1, fun a Z => ⟨fun _ => (HM.call h2).sel m, k w' h2 a Z (HM.call h2) ((HM.call h2).sel m)⟩⟩
theorem VK (i : Nat) (m : Sel fs gs) {f : FuncId} {xs : Array Operand} {ts : Array TypeId} {vs : List Value} {V : Option Addr → Nat → Value} {l sz : Nat} {e : TypeId} {ys : List Value} (h0 : opW ops σ n i = some (d, .call { callee := .value (.func f), args := xs, argTypes := ts }) := by exact rfl) (hv : looks σ xs.toList = some vs := by exact rfl) (h : Mem W w fs → Calls P f vs.toArray w (fun r w' => (∃ A c, r = .returned (V A c) ∧ w'.ownsRow w.heap.size e sz (.slice A l c) l ys ∧ l ≤ c) ∧ Below w.heap.size w w')) (hf : callable P f = true := by kernel_rfl) (hr : Region.ready md ops listed = [i] := by kernel_rfl)
 (k : ∀ A c w', l ≤ c → VV W w' n D ((d, V A c) :: σ) (.row (.slice A l c) l ys e sz :: fs) gs (qj P md ops Q (fun wS => Mem W wS gs) ex fuel (listed.setIfInBounds i true))) : VV W w n D σ fs gs (qj P md ops Q (fun wS => Mem W wS gs) ex (fuel + 1) listed) :=
 VV.eff h0 hr fun _ _ he hd hdn Z HM => qie Z he hv hf hd hdn (h HM) fun r w' ⟨⟨A, c, h1, h2, h3⟩, h4⟩ => ⟨_, h1, fun a Z => ⟨fun _ => (HM.callRow h4 h2).sel (.f m), k A c w' h3 a Z (HM.callRow h4 h2) ((HM.callRow h4 h2).sel (.f m))⟩⟩
end
section
variable {P : Program} {S : World → Prop} {σ : List (Nat × Value)} {o : Oper}
end
section
variable {P : Program} {Q : Exit → Act → World → Prop} {W : World} {a : Act} {w : World} {n d : Nat} {D : List Deferred} {σ : List (Nat × Value)} {fs : List Fact} {o : Oper} {K : Act → World → Prop}
end
def SizeJ (w : World) (k : Nat) (W : World) : Prop := W.heap[w.heap.size]? = some (.cells #[.int .i64 (k : Int)] 3 (0, 0)) ∧ w.grownBy W none ∧ w.heap.size + 2 ≤ W.heap.size
def SizeA (w : World) (x k : Nat) (a' : Act) (_ : World) : Prop :=
 ∃ p, (grp 10 x)[k]? = some p ∧ a' = { tmps := #[.int .u64 (x : Int), undef, .int .i64 0, .pointer (some ⟨w.heap.size, 0, none⟩), .int .u64 (x : Int), .func (.func 113) #[] #[.pointer (some ⟨w.heap.size + 1, 0, none⟩)], .int .u8 (p.1 : Int), .bool p.2, undef, undef, undef], defers := [] }
theorem qys {W : World} {g : Nat} {x y : Value} {t : TypeId} (h : W.heap[g]? = some (.cells #[x] t (0, 0))) : (W.setCell ⟨g, 0, none⟩ y).heap[g]? = some (.cells #[y] t (0, 0)) := by
 simp [World.setCell, Array.getElem?_modify, h]
set_option maxRecDepth 100000 in
set_option maxHeartbeats 400000 in
theorem qve (x : Nat) (w : World) (hx : x < 18446744073709551616) :
  Calls Tryz.prog 76 #[.int .u64 (x : Int)] w fun e w' => e = .returned (.int .i64 ((vbytes x).length : Int)) ∧ Below w.heap.size w w' := by
 refine callsIn_wide.1 (callsIn_of_wp_marks (n := 0) Tryz.func76 rfl trivial ?_ rfl)
 simp only [Tryz.ntmps76, List.size_toArray, List.length_cons, List.length_nil, Nat.reduceAdd, Nat.reduceSub, Array.replicate_succ, Array.replicate_zero, List.push_toArray, List.append_toArray, List.nil_append, List.cons_append]
 gi_wp2_with (refine ⟨trivial, rfl, ?_⟩; refine (callsIn_wide.2 (qjt x _)).mono ?_; rintro e w' ⟨rfl, rfl⟩)
 obtain ⟨W0, hW0⟩ : ∃ W0, W0 = (w.alloc (.cells #[.int .i64 0] 3)).alloc (.cells #[.int .u64 (x : Int)] 33) := ⟨_, rfl⟩
 have hsz : W0.heap.size = w.heap.size + 2 := by rw [hW0]; simp
 have hlen := qc2 10 x
 have hbx : W0.heap[w.heap.size]? = some (.cells #[.int .i64 0] 3 (0, 0)) := by
  subst hW0
  exact (Below.heap_alloc _ _ _ (by simp)).trans (World.alloc_heap_new w _)
 have hgr : w.grownBy W0 none := by subst hW0; exact (World.grownBy_alloc w _ _).trans (World.grownBy_alloc _ _ _)
 have hxc : W0.cell? ⟨w.heap.size + 1, 0, none⟩ = some (.int .u64 (x : Int)) := by subst hW0; have := World.cell?_alloc_new (w.alloc (.cells #[.int .i64 0] 3)) #[.int .u64 (x : Int)] 33 0; rw [World.size_alloc] at this; exact this
 have hxf : W0.frozen? ⟨w.heap.size + 1, 0, none⟩ = false := by subst hW0; have := World.frozen?_alloc_new (w.alloc (.cells #[.int .i64 0] 3)) #[.int .u64 (x : Int)] 33 0; rw [World.size_alloc] at this; exact this
 rw [← hW0]
 clear hW0
 refine qk2 rfl (enters_of Tryz.func113 kr rfl) (qhf (w.heap.size + 1) x W0 hx hxc hxf) (by intro y hy; obtain ⟨p, _, rfl⟩ := List.mem_map.1 hy; rfl) (by simp [hsz])
  (fun _ b => b = w.heap.size) (SizeJ w) (fun _ _ _ => False) ?hJ ?hJx ?hJ0 ?hJx0 ?hTd ?hN ?h0 (SizeA w x) ?hA ?hassign ?hbody ?hdone ?hstop
 case hJ =>
  rintro k W W' ⟨hb, hg, hs⟩ hk
  have h1 : w.heap.size ∉ [w.heap.size + 1] := by simp
  exact ⟨⟨hk.obj _ _ hb rfl h1, Keep.grown hg hk om (by simp), Nat.le_trans hs hk.size⟩, fun b h => h⟩
 case hJx => exact fun _ _ _ _ h _ => h.elim
 case hJ0 => rintro k W ⟨_, _, hs⟩; omega
 case hJx0 => exact fun _ _ _ h => h.elim
 case hTd => rintro k W b ⟨hb, _⟩ rfl; exact ⟨_, hb, rfl⟩
 case hN => rintro b rfl ht; omega
 case h0 => exact ⟨hbx, hgr, by omega⟩
 case hA => exact fun _ _ _ _ h _ => h
 case hassign =>
  rintro l k hk W _
  simp only [List.getElem_map, encG]
  have hp : (grp 10 x)[k]? = some ((grp 10 x)[k]'(by simpa using hk)) := List.getElem?_eq_getElem _
  generalize (grp 10 x)[k]'(by simpa using hk) = p at hp
  gi_wp2
  exact ⟨Chg.refl _ _, p, hp, by simp⟩
 case hbody =>
  rintro l k a' W hk hl hr ⟨p, hp, rfl⟩ ⟨hb, hg, hs⟩
  have hc : W.cell? ⟨w.heap.size, 0, none⟩ = some (.int .i64 (k : Int)) := by simp [World.cell?, hb]
  have hf : W.frozen? ⟨w.heap.size, 0, none⟩ = false := by simp [World.frozen?, hb]
  have hkl : k < (grp 10 x).length := by simpa using hk
  have hki : (k : Int) ≤ 10 := by omega
  have HB := hide hb
  have HG := hide hg
  clear hp hr hb hg hbx hgr
  gi_wp2
  rw [Oper.semAt_eq _ _ _ (by intro c h; cases h)]
  have e1 : ∀ (ρ : Operand → Value) (o : Oper), o.op = .load 3 (.tmp 3) → ρ (.tmp 3) = .pointer (some ⟨w.heap.size, 0, none⟩) → (execOp ρ o).run Tryz.prog W = .ok (.value (.int .i64 (k : Int))) W := fun ρ o h1 h2 => by
   have hone : (isAgg 3).run Tryz.prog W = .ok false W := by kernel_rfl
   unfold execOp
   simp [h1, h2, Instr.loadAt, Instr.sureAddr, loadVar, hone, load, Sem.run, hc]
  rw [e1 _ _ rfl rfl, Oper.uponIn_value]
  gi_wp2
  rw [Oper.semAt_eq _ _ _ (by intro c h; cases h)]
  have e2 : ∀ (ρ : Operand → Value) (o : Oper), o.op = .binOp .add 3 (.tmp 8) (.const (.int .i64 1)) 3 → ρ (.tmp 8) = .int .i64 (k : Int) → ρ (.const (.int .i64 1)) = .int .i64 1 → (execOp ρ o).run Tryz.prog W = .ok (.value (.int .i64 ((k : Int) + 1))) W := fun ρ o h1 h2 h3 => by
   unfold execOp
   have e : IntKind.i64.wrap ((k : Int) + 1) = (k : Int) + 1 := IntWalk.i64_in _ om
   have eb : (binOp .add 3 (.int .i64 (k : Int)) (.int .i64 1)).run Tryz.prog W = .ok (.int .i64 ((k : Int) + 1)) W := by rw [qes (P := Tryz.prog) (v := .int .i64 (IntKind.i64.wrap ((k : Int) + 1))) rfl 3 W, e]
   simp only [h1, h2, h3, Sem.run_bind, qao (P := Tryz.prog) .add 3 (.tmp 8) (.const (.int .i64 1)) (a := .int .i64 (k : Int)) rfl, Result.andThen_ok, eb, Sem.run_pure]
  rw [e2 _ _ rfl rfl rfl, Oper.uponIn_value]
  gi_wp2
  rw [Oper.semAt_eq _ _ _ (by intro c h; cases h)]
  have e3 : ∀ (ρ : Operand → Value) (o : Oper), o.op = .store 3 (.tmp 3) (.tmp 9) → ρ (.tmp 3) = .pointer (some ⟨w.heap.size, 0, none⟩) → ρ (.tmp 9) = .int .i64 ((k : Int) + 1) → (execOp ρ o).run Tryz.prog W = .ok .skip (W.setCell ⟨w.heap.size, 0, none⟩ (.int .i64 ((k : Int) + 1))) := fun ρ o h1 h2 h3 => by
   unfold execOp
   simp only [h1, h2, h3, Sem.run_bind, qdm (P := Tryz.prog) (t := 3) (v := .int .i64 ((k : Int) + 1)) kr rfl hc hf, Result.andThen_ok, Sem.run_pure]
  rw [e3 _ _ rfl rfl rfl, Oper.uponIn_skip]
  gi_wp2
  have hst : ChgT (fun _ b => b = w.heap.size) W (W.setCell ⟨w.heap.size, 0, none⟩ (.int .i64 ((k : Int) + 1))) :=
   ⟨rfl, rfl, rfl, by simp [World.setCell], fun b _ hT => Below.heap_setCell _ _ _ _ hT, fun b h => .inl h⟩
  refine ⟨hst, ?_, ?_, by have := hst.size; omega⟩
  ·exact qys HB.out
  ·exact hst.grown HG.out (fun b hb1 hb2 => by omega)
 case hdone =>
  rintro D W hD ⟨hb, hg, hs⟩ hK
  have HG := hide hg
  have hc : W.cell? ⟨w.heap.size, 0, none⟩ = some (.int .i64 (((grp 10 x).map encG).length : Int)) := by simp [World.cell?, hb]
  have hkp : Keep W0.heap.size [] W (W.putObj D (.deferred none)) := Keep.putObj W _ hK rfl hD
  clear hb hg hbx hgr
  gi_wp2
  refine ⟨by simp, .inl ⟨_, _, rfl, run_takeDeferred hK, ?_⟩⟩
  refine ⟨_, results_tmp rfl _ _ _, ?_, ?_⟩
  ·simp [vbytes]
  ·exact (Below.refl _ _).grown (Keep.grown HG.out hkp om (by simp)) (Nat.le_refl _) (fun _ h => by cases h)
 case hstop => exact fun _ _ _ _ _ _ _ h _ => h.elim
def intAt (xs : Array Value) (i : Nat) : Int := match xs[i]? with
 | some (.int _ n) => n
 | _ => 0
def qlf (P : Program) (f : Field) (i : Nat) : Bool := f.name != "_" && (f.offset == i && (isOne P f.type && match P.underlying f.type with
 | some (.int _) => true
 | _ => false))
theorem qf5 {P : Program} (d : Nat) (xs ys : Array Value) : ∀ (fs : List Field) (i : Nat) (w : World), (∀ j, j < fs.length → ∃ f k a b, fs[j]? = some f ∧ qlf P f (i + j) = true ∧ xs[i + j]? = some (.int k a) ∧ ys[i + j]? = some (.int k b)) →
  (Op.eqFields (d + 1) xs ys fs).run P w = .ok ((List.range fs.length).all fun j => intAt xs (i + j) == intAt ys (i + j)) w
 | [], i, w, _ => rfl
 | f :: fs, i, w, h => by
  obtain ⟨f', k, a, b, hf, hb, hx, hy⟩ := h 0 (by simp)
  simp only [List.getElem?_cons_zero, Option.some.injEq] at hf
  subst hf
  simp only [qlf, Bool.and_eq_true, bne_iff_ne, beq_iff_eq, Nat.add_zero] at hb
  obtain ⟨h1, h2, h3, h4⟩ := hb
  rw [Nat.add_zero] at hx hy
  have ih := qf5 d xs ys fs (i + 1) w (fun j hj => by
   obtain ⟨f, k, a, b, hf, hb, hx, hy⟩ := h (j + 1) (by simpa using hj)
   refine ⟨f, k, a, b, by simpa using hf, ?_, ?_, ?_⟩
   ·rw [show i + 1 + j = i + (j + 1) by omega]; exact hb
   ·rw [show i + 1 + j = i + (j + 1) by omega]; exact hx
   ·rw [show i + 1 + j = i + (j + 1) by omega]; exact hy)
  have hu : ∃ k', P.underlying f.type = some (.int k') := by
   split at h4
   ·rename_i k' hk; exact ⟨k', hk⟩
   ·cases h4
  obtain ⟨k', hu⟩ := hu
  have hxi : intAt xs i = a := by simp [intAt, hx]
  have hyi : intAt ys i = b := by simp [intAt, hy]
  have e : (List.range (f :: fs).length).all (fun j => intAt xs (i + j) == intAt ys (i + j)) = ((a == b) && (List.range fs.length).all fun j => intAt xs (i + 1 + j) == intAt ys (i + 1 + j)) := by
   rw [List.length_cons, List.range_succ_eq_map, List.all_cons, Nat.add_zero, hxi, hyi, List.all_map]
   congr 2
   funext j
   simp only [Function.comp_apply, Nat.succ_eq_add_one]
   rw [show i + (j + 1) = i + 1 + j by omega]
  rw [e]
  unfold Op.eqFields
  rw [if_pos h1]
  simp only [Sem.run_bind, part, qf2 h3, Result.andThen_ok, Bool.false_eq_true, if_false, h2, hx, hy, Sem.run_pure, run_equalIn_int w d f.type k k' a b hu]
  cases hab : (a == b)
  ·simp
  ·simp [ih]
def qf6 (P : Program) (t : TypeId) : Bool := !P.stoodInHeld t && (!P.eqGuardType P.depth t && ((P.fieldsOf t).size == 11 && ((List.range 11).all fun i => match (P.fieldsOf t).toList[i]? with
 | some f => qlf P f i
 | none => false)))
theorem qoo {P : Program} {t : TypeId} (h : (P.fieldsOf t).size = 11) : P.underlying t = some (.struct (P.fieldsOf t)) := by
 unfold Program.fieldsOf at h ⊢
 split at h
 ·rename_i fs hu; rw [hu]
 ·cases h
theorem qt3 (e : Ev) : ∀ i, i < 11 → ∃ k, e.cells[i]? = some (.int k (intAt e.cells i)) ∧ ∀ e' : Ev, e'.cells[i]? = some (.int k (intAt e'.cells i)) := by
 intro i hi
 have h : i = 0 ∨ i = 1 ∨ i = 2 ∨ i = 3 ∨ i = 4 ∨ i = 5 ∨ i = 6 ∨ i = 7 ∨ i = 8 ∨ i = 9 ∨ i = 10 := by omega
 rcases h with rfl | rfl | rfl | rfl | rfl | rfl | rfl | rfl | rfl | rfl | rfl <;> exact ⟨_, rfl, fun _ => rfl⟩
instance evDec : DecidableEq Ev := fun ⟨a0, a1, a2, a3, a4, a5, a6, a7, a8, a9, a10⟩ ⟨b0, b1, b2, b3, b4, b5, b6, b7, b8, b9, b10⟩ =>
 decidable_of_iff (a0 = b0 ∧ a1 = b1 ∧ a2 = b2 ∧ a3 = b3 ∧ a4 = b4 ∧ a5 = b5 ∧ a6 = b6 ∧ a7 = b7 ∧ a8 = b8 ∧ a9 = b9 ∧ a10 = b10) (by rw [Ev.mk.injEq])
theorem q2i (x y : Ev) : ((List.range 11).all fun j => intAt x.cells (0 + j) == intAt y.cells (0 + j)) = decide (x = y) := by
 rw [Bool.eq_iff_iff, decide_eq_true_eq]
 constructor
 ·intro h
  have g : ∀ j, j < 11 → intAt x.cells j = intAt y.cells j := fun j hj => by
   have := List.all_eq_true.1 h j (List.mem_range.2 hj)
   simpa using this
  obtain ⟨a0, a1, a2, a3, a4, a5, a6, a7, a8, a9, a10⟩ := x
  obtain ⟨b0, b1, b2, b3, b4, b5, b6, b7, b8, b9, b10⟩ := y
  have g0 : a0 = b0 := g 0 de
  have g1 : a1 = b1 := g 1 de
  have g2 : (a2 : Int) = b2 := g 2 de
  have g3 : (a3 : Int) = b3 := g 3 de
  have g4 : a4 = b4 := g 4 de
  have g5 : a5 = b5 := g 5 de
  have g6 : a6 = b6 := g 6 de
  have g7 : a7 = b7 := g 7 de
  have g8 : a8 = b8 := g 8 de
  have g9 : (a9 : Int) = b9 := g 9 de
  have g10 : a10 = b10 := g 10 de
  have g2' : a2 = b2 := by omega
  have g3' : a3 = b3 := by omega
  have g9' : a9 = b9 := by omega
  subst g0 g1 g2' g3' g4 g5 g6 g7 g8 g9' g10
  rfl
 ·rintro rfl
  simp
theorem qxr {P : Program} {t : TypeId} (ht : qf6 P t = true) (x y : Ev) (w : World) : (Op.equal t (.agg x.cells) (.agg y.cells)).run P w = .ok (decide (x = y)) w := by
 simp only [qf6, Bool.and_eq_true, Bool.not_eq_true', beq_iff_eq] at ht
 obtain ⟨h1, _, h3, h4⟩ := ht
 unfold Op.equal
 rw [show Op.maxDepth = 9998 + 1 + 1 from rfl, run_equalIn_struct w 9999 t _ _ (qoo h3) h1, qf5 9998 _ _ _ 0 w]
 ·rw [Array.length_toList, h3, q2i]
 ·intro j hj
  rw [Array.length_toList, h3] at hj
  have := List.all_eq_true.1 h4 j (List.mem_range.2 hj)
  split at this
  ·rename_i f hf
   obtain ⟨k, hk, hk'⟩ := qt3 x j hj
   rw [Nat.zero_add]
   exact ⟨f, k, _, _, hf, this, hk, hk' y⟩
  ·cases this
theorem qrj {P : Program} {t : TypeId} (ht : qf6 P t = true) (op : BinOp) (x y : Operand) (a b : Array Value) (w : World) : (eqGuard op t x y (.agg a) (.agg b)).run P w = .ok () w := by
 simp only [qf6, Bool.and_eq_true, Bool.not_eq_true', beq_iff_eq] at ht
 obtain ⟨_, h2, _⟩ := ht
 unfold eqGuard
 cases op <;> simp <;> simp [h2]
section
variable {P : Program} {S : World → Prop} {σ : List (Nat × Value)} {o : Oper}
theorem Yl.q28 {t u : TypeId} {p q : Operand} {x y : Ev} (hop : o.op = .binOp .neq t p q u) (hx : look σ p = some (.agg x.cells)) (hy : look σ q = some (.agg y.cells)) (ht : qf6 P t = true) : Yl P S σ o (.bool (!decide (x = y))) := fun a n D Z w hS => by
 unfold execOp
 have e : (binOp .neq t (.agg x.cells) (.agg y.cells)).run P w = .ok (.bool (!decide (x = y))) w := by
  show ((do Pure.pure (.bool (!(← Op.equal t (.agg x.cells) (.agg y.cells)))) : Sem Value)).run P w = _
  simp [qxr ht]
 simp only [hop, Z.eval hx, Z.eval hy, Sem.run_bind, qrj ht, Result.andThen_ok, e, Sem.run_pure]
end
def Bk.cells (b : Bk) (A : Option Addr) (c : Nat) : Array Value := #[.int .u8 (b.kind : Int), .int .u8 (b.cpu : Int), .int .i64 b.lost, .int .i64 b.next, .slice A b.evs.length c]
theorem qas (b : Bk) (A : Option Addr) (c : Nat) : ∀ v ∈ (b.cells A c).toList, v.oneCell' = true := by intro v hv; simp [Bk.cells] at hv; rcases hv with rfl | rfl | rfl | rfl | rfl <;> rfl
theorem si_bk : SI Tryz.prog 60 5 := ⟨by kernel_rfl, by kernel_rfl⟩
theorem ei_bb : EI Tryz.prog 201 22 (.slice none 0 0) 1 24 := ⟨by kernel_rfl, by kernel_rfl, rfl, by omega⟩
theorem si_a2 : SI Tryz.prog 136 2 := ⟨by kernel_rfl, by kernel_rfl⟩
structure LaidX (B : Nat) (w : World) : Prop where
 laid : Laid B w
 halves : ∀ k, k < 16 → w.cell? ⟨2, k, none⟩ = some (.int .u32 ((qbq.getD k 0 : Nat) : Int))
 big3 : 2 < B
 magic0 : w.cell? ⟨0, 0, none⟩ = some (.int .u8 113)
 magic1 : w.cell? ⟨0, 1, none⟩ = some (.int .u8 116)
 big4 : 0 < B
theorem LaidX.qal {B : Nat} {w w' : World} (h : LaidX B w) (hk : ∀ p : Addr, p.block < B → w'.cell? p = w.cell? p) : LaidX B w' :=
 ⟨h.laid.qal hk, fun k hk' => (hk _ h.big3).trans (h.halves k hk'), h.big3, (hk _ h.big4).trans h.magic0, (hk _ h.big4).trans h.magic1, h.big4⟩
theorem LaidX.mem {B : Nat} {W w : World} {fs : List Fact} (h : LaidX B W) (hM : Mem W w fs) (hB : B ≤ W.heap.size) : LaidX B w := h.qal fun _ hp => hM.below.cell om
theorem LaidX.below {B B' : Nat} {w w' : World} (h : LaidX B w) (hb : Below B' w w') (hB : B ≤ B') : LaidX B w' := h.qal fun p hp => hb.cell om
theorem qqd {B : Nat} {W w : World} {fs : List Fact} (h : LaidX B W) (hM : Mem W w fs) (hB : B ≤ W.heap.size) {k : Nat} (hk : k < 16) : w.cell? ⟨2, k * 1, none⟩ = some (.int .u32 ((qbq.getD k 0 : Nat) : Int)) := by
 rw [Nat.mul_one]; exact (h.mem hM hB).halves k hk
theorem qyd {B : Nat} {W w : World} {fs : List Fact} (h : LaidX B W) (hM : Mem W w fs) (hB : B ≤ W.heap.size) : w.rangeAt 0 0 (#[Value.int .u8 113, .int .u8 116] : Array Value).toList := fun j v hv => by
 have h1 := (h.mem hM hB).magic0
 have h2 := (h.mem hM hB).magic1
 rcases j with _ | _ | j
 ·simp at hv; subst hv; exact h1
 ·simp at hv; subst hv; exact h2
 ·simp at hv
theorem qir {b : Bk} (h : b.evs.length ≠ 0) : b.qjg = decide ((b.evs.getD 0 Ev.zero).cpu = b.cpu) := by
 unfold Bk.qjg
 cases hb : b.evs with
 | nil => rw [hb] at h; simp at h
 | cons e r => rfl
theorem qg4 {b : Bk} (h : b.evs.length = 0) : b.qjg = decide (0 < b.lost) := by
 unfold Bk.qjg
 rw [List.length_eq_zero_iff] at h
 rw [h]
theorem qeg (b : Bk) : b.base = ⟨(b.evs.getD 0 Ev.zero).seq, (b.evs.getD 0 Ev.zero).time⟩ := by
 unfold Bk.base Ev.at
 cases b.evs <;> rfl
theorem q2m (k : Nat) : k = 1 ∨ k = 2 ∨ (k ≠ 1 ∧ k ≠ 2) := by omega
theorem qlg {b : Bk} (hok : b.Ok) (h : b.fits = true) (hk : b.kind ≠ 2) (hn : b.evs.length ≠ 0) : 0 ≤ b.base.seq ∧ b.base.seq ≤ 281474976710656 ∧ 0 ≤ b.base.time ∧ b.base.time ≤ 281474976710656 := by
 obtain ⟨e, r, g⟩ := qex hok (qcw h hk).2 hn
 have := g.right
 rw [← g.base] at this
 have h4 : 1 ≤ b.base.seq ∧ b.base.seq ≤ 281474976710656 ∧ 0 ≤ b.base.time ∧ b.base.time ≤ 281474976710656 := by simpa [Bs.right] using this
 omega
theorem qis {b : Bk} (h : b.fits = true) (hk : b.kind ≠ 2) : b.kind = 1 ∧ 0 ≤ b.lost ∧ b.lost ≤ 281474976710656 ∧ b.cpu < 64 ∧ b.next = 0 := by
 obtain ⟨h1, h2⟩ := qcw h hk
 unfold Bk.qdf at h2
 rw [decide_eq_true_eq] at h2
 omega
theorem qit {b : Bk} (h : b.fits = true) (hk : b.kind = 2) : 1 ≤ b.next ∧ b.next ≤ 281474976710657 ∧ b.cpu = 0 ∧ b.lost = 0 ∧ b.evs.length = 0 := by
 have h2 := qh0 h hk
 unfold Bk.qhe at h2
 rw [decide_eq_true_eq] at h2
 exact h2
end Go.Proofs.YtpklccgmjhikeaaGreatDoor
namespace Go.Proofs.YtpklccgmjhikeaaGreatDoor
open Go.RowKit Go.ChangeShapes Go.WideShapes
theorem qye {W : World} {fuel : Nat} {cs : List Value} {zs : List Nat} {p : List MemPlace}
  (h : DataW.trod (fun _ => ()) Tryz.prog W 0 (fun _ => true) false fuel 25 cs = some (.slice (zs.map fun z : Nat => .lit (.int .i64 (z : Int))) [], p)) :
  ∃ A c, cs = [.slice A zs.length c] ∧ Rd W W.heap.size 1 A zs.length (zs.map I64v) := by
 obtain ⟨a, cap, hcs, hl, hall⟩ := open_row (e := 3) kr kr h
 have hcell : ∀ i z, zs[i]? = some z → W.cell? (a.add i) = some (I64v z) := by
  intro i z hz
  obtain ⟨v, n, q, hc, ht⟩ := hall i (.lit (.int .i64 (z : Int))) (by rw [List.getElem?_map, hz]; rfl)
  obtain ⟨z', e1, e2, _⟩ := DataW.trod_int (k := .i64) kr ht
  injection e1 with e1
  injection e2 with e2
  subst e1
  simp only [DataW.lit.injEq, Lit.int.injEq, true_and] at e2
  rw [hc, ← e2]
  rfl
 refine ⟨some a, cap, by rw [hcs, List.length_map], by simp, fun hn => ⟨a, rfl, ?_, ?_⟩⟩
 ·cases zs with
  | nil => simp at hn
  | cons z zs =>
   have := World.block_lt_of_cell? W _ (hcell 0 z rfl)
   simpa [Addr.add] using this
 ·intro j u hu
  rw [List.getElem?_map] at hu
  cases hz : zs[j]? with
  | none => simp [hz] at hu
  | some z => rw [hz] at hu; cases hu; exact hcell j z hz
theorem qou {W : World} (h : laidMetH Tryz.prog Rows.streamReadsRow.laid W) : Laid W.heap.size W := by
 rw [MakeChecks.laidMetH_plain _ _ _ kr] at h
 obtain ⟨g1, t1, cs1, f1, p1, hg1, ht1, hv1, hd1⟩ := Lib.laidMet.reads h (n := "quantum/event.fields") (d := Rows.laid_quantum_event_fields) (List.mem_cons_self ..)
 obtain ⟨g2, t2, cs2, f2, p2, hg2, ht2, hv2, hd2⟩ := Lib.laidMet.reads h (n := "quantum/event.uses") (d := Rows.laid_quantum_event_uses) (List.mem_cons_of_mem _ (List.mem_cons_self ..))
 have gg1 : Tryz.prog.globalNamed "quantum/event.fields" = some 3 := by kernel_rfl
 have gg2 : Tryz.prog.globalNamed "quantum/event.uses" = some 1 := by kernel_rfl
 obtain rfl := Option.some.inj (gg1.symm.trans hg1)
 obtain rfl := Option.some.inj (gg2.symm.trans hg2)
 have ty1 : (Tryz.prog.globals[3]?).map (·.type) = some 227 := by kernel_rfl
 have ty2 : (Tryz.prog.globals[1]?).map (·.type) = some 182 := by kernel_rfl
 obtain rfl := Option.some.inj (ty1.symm.trans ht1)
 obtain rfl := Option.some.inj (ty2.symm.trans ht2)
 have one1 : Tryz.prog.cellsOf 9 = 1 := by kernel_rfl
 have one2 : Tryz.prog.cellsOf 25 = 1 := by kernel_rfl
 have c1 : ∀ i v, cs1.toList[i]? = some v → W.cell? ⟨3, i, none⟩ = some v := fun i v hv => by
  rw [World.var?_cell gg1 hv1 i]; simpa using hv
 have c2 : ∀ i v, cs2.toList[i]? = some v → W.cell? ⟨1, i, none⟩ = some v := fun i v hv => by
  rw [World.var?_cell gg2 hv2 i]; simpa using hv
 have at1 : ∀ (cs : List Value) (i : Nat) (v : Value), (cs.drop (i * 1)).take 1 = [v] → cs[i]? = some v := by
  intro cs i v h
  have := congrArg (·[0]?) h
  simpa [List.getElem?_take, List.getElem?_drop] using this
 have str : ∀ i, i < 7 → ∃ s : ByteArray, W.cell? ⟨3, i, none⟩ = some (.string s) := by
  intro i hi
  obtain ⟨f', d, q, _, ht⟩ := Lib.array_elem (n := 7) (e := 9) kr hd1 i hi
  rw [one1] at ht
  obtain ⟨s, hs, _⟩ := DataW.trod_string kr ht
  exact ⟨s, c1 i _ (at1 _ _ _ hs)⟩
 have row : ∀ k, k < 11 → ∃ A c, W.cell? ⟨1, k, none⟩ = some (.slice A (usesL k).length c) ∧ Rd W W.heap.size 1 A (usesL k).length ((usesL k).map I64v) := by
  intro k hk
  obtain ⟨f', d, q, hd, ht⟩ := Lib.array_elem (n := 11) (e := 25) kr hd2 k hk
  rw [one2] at ht
  by_cases h0 : k = 0
  ·subst h0
   simp only [List.getElem?_cons_zero, Option.some.injEq] at hd
   subst hd
   rcases DataW.trod_slice (e := 3) kr ht with ⟨hc, _⟩ | ⟨a, len, cap, elems, rest, n, _, _, hx, _⟩
   ·exact ⟨none, 0, c2 0 _ (at1 _ _ _ hc), Rd.nil⟩
   ·simp at hx
  ·have hd' : d = .slice ((usesL k).map fun z : Nat => .lit (.int .i64 (z : Int))) [] := by
    have hk' : k = 1 ∨ k = 2 ∨ k = 3 ∨ k = 4 ∨ k = 5 ∨ k = 6 ∨ k = 7 ∨ k = 8 ∨ k = 9 ∨ k = 10 := by omega
    rcases hk' with rfl | rfl | rfl | rfl | rfl | rfl | rfl | rfl | rfl | rfl <;> exact (Option.some.inj hd).symm
   subst hd'
   obtain ⟨A, c, hc, hr⟩ := qye ht
   exact ⟨A, c, c2 k _ (at1 _ _ _ hc), hr⟩
 refine ⟨row, ?_, str, ?_⟩
 ·obtain ⟨A, c, h1, _⟩ := row 0 om
  exact World.block_lt_of_cell? W _ h1
 ·obtain ⟨s, h1⟩ := str 0 om
  exact World.block_lt_of_cell? W _ h1
theorem q04 : Tryz.prog.underlying 120 = some (.int .u32) := by kernel_rfl
set_option maxRecDepth 100000 in
theorem qm0 {W : World} (h : laidMetH Tryz.prog Rows.streamReadsRow.laid W) : LaidX W.heap.size W := by
 have hl := qou h
 rw [MakeChecks.laidMetH_plain _ _ _ kr] at h
 obtain ⟨g1, t1, cs1, f1, p1, hg1, ht1, hv1, hd1⟩ := Lib.laidMet.reads h (n := "quantum/crc.halves") (d := Rows.laid_quantum_crc_halves) (List.mem_cons_of_mem _ (List.mem_cons_of_mem _ (List.mem_cons_self ..)))
 obtain ⟨g2, t2, cs2, f2, p2, hg2, ht2, hv2, hd2⟩ := Lib.laidMet.reads h (n := "quantum/block.magic") (d := Rows.laid_quantum_block_magic) (List.mem_cons_of_mem _ (List.mem_cons_of_mem _ (List.mem_cons_of_mem _ (List.mem_cons_self ..))))
 have gg1 : Tryz.prog.globalNamed "quantum/crc.halves" = some 2 := by kernel_rfl
 have gg2 : Tryz.prog.globalNamed "quantum/block.magic" = some 0 := by kernel_rfl
 obtain rfl := Option.some.inj (gg1.symm.trans hg1)
 obtain rfl := Option.some.inj (gg2.symm.trans hg2)
 have ty1 : (Tryz.prog.globals[2]?).map (·.type) = some 222 := by kernel_rfl
 have ty2 : (Tryz.prog.globals[0]?).map (·.type) = some 136 := by kernel_rfl
 obtain rfl := Option.some.inj (ty1.symm.trans ht1)
 obtain rfl := Option.some.inj (ty2.symm.trans ht2)
 have one1 : Tryz.prog.cellsOf 120 = 1 := by kernel_rfl
 have one2 : Tryz.prog.cellsOf 5 = 1 := by kernel_rfl
 have c1 : ∀ i v, cs1.toList[i]? = some v → W.cell? ⟨2, i, none⟩ = some v := fun i v hv => by
  rw [World.var?_cell gg1 hv1 i]; simpa using hv
 have c2 : ∀ i v, cs2.toList[i]? = some v → W.cell? ⟨0, i, none⟩ = some v := fun i v hv => by
  rw [World.var?_cell gg2 hv2 i]; simpa using hv
 have at1 : ∀ (cs : List Value) (i : Nat) (v : Value), (cs.drop (i * 1)).take 1 = [v] → cs[i]? = some v := by
  intro cs i v h
  have := congrArg (·[0]?) h
  simpa [List.getElem?_take, List.getElem?_drop] using this
 have hal : ∀ k, k < 16 → W.cell? ⟨2, k, none⟩ = some (.int .u32 ((qbq.getD k 0 : Nat) : Int)) := by
  intro k hk
  obtain ⟨f', d, q, hd, ht⟩ := Lib.array_elem (n := 16) (e := 120) kr hd1 k hk
  rw [one1] at ht
  have hdk : d = .lit (.int .u32 ((qbq.getD k 0 : Nat) : Int)) := by
   have hk' : k = 0 ∨ k = 1 ∨ k = 2 ∨ k = 3 ∨ k = 4 ∨ k = 5 ∨ k = 6 ∨ k = 7 ∨ k = 8 ∨ k = 9 ∨ k = 10 ∨ k = 11 ∨ k = 12 ∨ k = 13 ∨ k = 14 ∨ k = 15 := by omega
   rcases hk' with rfl | rfl | rfl | rfl | rfl | rfl | rfl | rfl | rfl | rfl | rfl | rfl | rfl | rfl | rfl | rfl <;> exact (Option.some.inj hd).symm
  subst hdk
  obtain ⟨z, e1, e2, _⟩ := DataW.trod_int q04 ht
  have e2 := congrArg Prod.fst e2
  simp only [DataW.lit.injEq, Lit.int.injEq, true_and] at e2
  exact c1 k _ (by rw [at1 _ _ _ e1, ← e2])
 have mag : ∀ k, k < 2 → W.cell? ⟨0, k, none⟩ = some (.int .u8 (([113, 116].getD k 0 : Nat) : Int)) := by
  intro k hk
  obtain ⟨f', d, q, hd, ht⟩ := Lib.array_elem (n := 2) (e := 5) kr hd2 k hk
  rw [one2] at ht
  have hdk : d = .lit (.int .u8 (([113, 116].getD k 0 : Nat) : Int)) := by
   have hk' : k = 0 ∨ k = 1 := by omega
   rcases hk' with rfl | rfl <;> exact (Option.some.inj hd).symm
  subst hdk
  obtain ⟨z, e1, e2, _⟩ := DataW.trod_int qzt ht
  have e2 := congrArg Prod.fst e2
  simp only [DataW.lit.injEq, Lit.int.injEq, true_and] at e2
  exact c2 k _ (by rw [at1 _ _ _ e1, ← e2])
 exact ⟨hl, hal, World.block_lt_of_cell? W _ (hal 0 om), mag 0 om, mag 1 om, World.block_lt_of_cell? W _ (mag 0 om)⟩
end Go.Proofs.YtpklccgmjhikeaaGreatDoor
namespace Go.Proofs.YtpklccgmjhikeaaGreatDoor
open Go.RowKit
theorem qyh (n : Nat) (hn : n ≤ 1000000000000) (w : World) :
    Calls Tryz.prog 122 #[vN, vI n] w fun r w' => (∃ A c, r = .returned (.slice A 0 c) ∧ w'.ownsRow w.heap.size 5 1 (.slice A 0 c) 0 []) ∧ Below w.heap.size w w' := by
 refine (JN2 Tryz.func122 27) ?_
 refine (JP∘Jp 1∘Jj∘JQ∘JP∘Jp 2∘Jd1∘Jj) (Ju (fun hb6 => ?_) fun hb6 => ?_)
 ·
  intro a Z HM
  have hd6 := of_decide_eq_true hb6
  omega
 intro a Z HM
 have hd6 := of_decide_eq_false hb6
 refine Jb Z HM ((JF∘JS'∘JQ∘JP∘Jp 2∘Jy (h:=by exact Yl.cap rfl rfl kr)∘Jp 1∘Jl∘Jv 2 [(14, vI (IntKind.i64.wrap ((n : Int) - 0)))]∘Jo (vI n) (by exact qap om om)∘Jp 1∘Jd6∘Jr∘Jp 2∘Jd1∘Jj) (Ji (fun hd16 => ?_) fun hd16 => ?_))
 ·
  refine (JT∘JR∘Jp 2∘Jy (h:=by exact Yl.cap rfl rfl kr)∘Jy (v := vN) (h:=by exact Yl.zl ei_u8 (j := 0) rfl rfl rfl om)∘Jp 1) fun a Z HM => ?_
  refine fo Z 5 rfl rfl ?_
  refine qld Z HM (kn := .i64) (m := n) rfl ei_u8 kr rfl rfl om om om rfl de ?_
  clear Z HM; intro a w22 g22 c22 Z HM hc22
  refine Jb Z HM ((Jp 1∘Jl∘Jy (v := vS g22 0 c22) (h:=by exact Yl.zl ei_u8 (j := 0) rfl rfl rfl om)∘Jp 1∘Jd6∘Jq) fun a Z HM => ?_)
  replace HM := (HM.shrink (i := 0) (k := 0) rfl (Nat.zero_le _) (fun h => by cases h)).asRow (i := 0) (ys := []) rfl (by simp)
  exact Jb Z HM ((JG∘JP∘Jp 2∘Jd1∘Jj∘JZ∘Jz1) fun HM => by exact ⟨⟨_, _, rfl, HM.own (i := 0) rfl⟩, HM.below⟩)
 exact (JF∘JS'∘JP∘Jp 2∘Jd1∘Jj∘JZ∘Jz1) fun HM => by exact ⟨⟨_, _, rfl, World.ownsRow_nil _ _ _ _⟩, HM.below⟩
theorem qrn (A : Option Addr) (n c : Nat) (ps : List Part) (w : World) (hr : Rd w w.heap.size 1 A n (ps.map Part.val)) (hln : ps.length = n) (hn : n ≤ 1000000) (hps : ∀ p ∈ ps, Rd w w.heap.size 1 p.A p.l.length (p.l.map B8)) (htot : (ps.flatMap (·.l)).length ≤ 1000000000000) :
    Calls Tryz.prog 101 #[.slice A n c] w (zr w (ps.flatMap (·.l))) := by
 refine (JN1 Tryz.func101 36) ?_
 refine (JP∘Jp 1∘Jr∘Jp 1∘Jj∘JQ∘JP∘Jp 1∘Jl∘Jp 1∘Jj∘JB) fun a Z HM => ?_
 refine qi (fun mS aS wS => ∃ (k : Nat), (k ≤ n) ∧ mS = n - k ∧ Fr aS 36 [] [(11, vI k), (10, vI n), (9, .slice A n c), (3, vI (((ps.take k).flatMap (·.l)).length)), (2, vN), (0, .slice A n c)] ∧ Mem w wS []) (m := n - 0) ⟨0, Nat.zero_le _, rfl, Z.sub kr, HM.pk []⟩ ?_
 clear Z HM; rintro mS a w_ ⟨k, hk, rfl, Z, HM⟩
 have hpk := qf4 (l := ps) k
 have hpk1 := qf4 (l := ps) (k + 1)
 refine Jb Z HM ((JP∘Jp 1∘Jj∘JQ) (Ju (fun hb12 => ?_) fun hb12 => ?_))
 ·
  intro a Z HM
  have hd12 := of_decide_eq_true hb12
  have hk12 : k < n := by omega
  refine Jb Z HM ((JT∘JS'∘JQ∘JB∘JP) ?_)
  repeat (first | clear Z | clear HM)
  intro a Z HM
  obtain ⟨gA, oA, rfl, _⟩ := hr.qt (Nat.lt_of_le_of_lt (Nat.zero_le _) (show k < n from by omega)) de
  refine Jb Z HM ((Jy (v := vP gA (oA + k * 1)) (h:=by exact Yl.ix gA oA k 1 rfl rfl rfl)∘Jy (v := .slice ((ps.getD k (⟨none, 0, []⟩ : Part)).A) ((ps.getD k (⟨none, 0, []⟩ : Part)).l.length) ((ps.getD k (⟨none, 0, []⟩ : Part)).c)) (h:=by exact Yl.qx rfl rfl kr (fun _ h => (h.old hr).qfd (k := k) (qbi (F := Part.val) (k := k) (x := (ps.getD k (⟨none, 0, []⟩ : Part))) ((getD_at (⟨none, 0, []⟩ : Part) (k := k) (by first | omega | (simp; omega)))))))∘Jp 1∘Jd2∘Jr∘Jp 2∘Jl∘Jp 1∘Jo (vI (((ps.take (k + 1)).flatMap (·.l)).length)) (by exact qap (by rw [qc9 (d := (⟨none, 0, []⟩ : Part)) om, List.length_append]; omega) (by have := qf4 (l := ps) (k + 1); omega))∘Jp 1∘Jd4∘Jr∘Jp 2∘Jd1∘Jj) (Ju (fun hb20 => ?_) fun hb20 => ?_))
  ·
   intro a Z HM
   have hd20 := of_decide_eq_true hb20
   omega
  intro a Z HM
  have hd20 := of_decide_eq_false hb20
  refine Jb Z HM ((JF∘JS'∘JR∘JaK 1∘Jp 1∘Jd1∘Jq) fun a Z HM => ?_)
  exact ⟨_, om, k + 1, by omega, rfl, Z.sub kr, HM.pk []⟩
 intro a Z HM
 have hd12 := of_decide_eq_false hb12
 revert HM; revert a; repeat (first | clear Z | clear HM)
 intro a Z HM
 obtain rfl : n = k := by omega
 refine Jb Z HM ((JF∘JX∘JG∘JP∘Jp 1∘JL (h:=by exact fun HM => qyh _ om _)) ?_)
 rintro HM _ w24 ⟨⟨A24, c24, rfl, ho⟩, hbw⟩
 refine ⟨_, rfl, _, HM.callRow hbw ho, ?_⟩
 refine (Jp 1∘Jd2∘Jj∘JQ∘JP∘Jp 1∘Jl∘Jp 1∘Jj∘JB) fun a Z HM => ?_
 refine qi (fun mS aS wS => ∃ (k : Nat) (Ak : Option Addr) (ck : Nat), (k ≤ n) ∧ (((ps.take k).flatMap (·.l)).length ≤ ck) ∧ mS = n - k ∧ Fr aS 36 [] [(27, vI k), (26, vI n), (25, .slice A n c), (6, .slice Ak (((ps.take k).flatMap (·.l)).length) ck), (12, .bool false), (11, vI n), (10, vI n), (9, .slice A n c), (3, vI (((ps.take n).flatMap (·.l)).length)), (2, vN), (0, .slice A n c)] ∧ Mem w wS [.row (.slice Ak (((ps.take k).flatMap (·.l)).length) ck) (((ps.take k).flatMap (·.l)).length) (((ps.take k).flatMap (·.l)).map B8) 5 1]) (m := n - 0) ⟨0, A24, c24, Nat.zero_le _, Nat.zero_le _, rfl, Z.sub kr, HM.pk [0]⟩ ?_
 clear Z HM; rintro mS a w_ ⟨k, Ak, ck, hk, hck, rfl, Z, HM⟩
 refine Jb Z HM ((JP∘Jp 1∘Jj∘JQ) (Ju (fun hb28 => ?_) fun hb28 => ?_))
 ·
  intro a Z HM
  have hd28 := of_decide_eq_true hb28
  have hk28 : k < n := by omega
  refine Jb Z HM ((JT∘JS'∘JQ∘JB∘JP) ?_)
  repeat (first | clear Z | clear HM)
  intro a Z HM
  obtain ⟨gA, oA, rfl, _⟩ := hr.qt (Nat.lt_of_le_of_lt (Nat.zero_le _) (show k < n from by omega)) de
  refine Jb Z HM ((Jy (v := vP gA (oA + k * 1)) (h:=by exact Yl.ix gA oA k 1 rfl rfl rfl)∘Jy (v := .slice ((ps.getD k (⟨none, 0, []⟩ : Part)).A) ((ps.getD k (⟨none, 0, []⟩ : Part)).l.length) ((ps.getD k (⟨none, 0, []⟩ : Part)).c)) (h:=by exact Yl.qx rfl rfl kr (fun _ h => (h.old hr).qfd (k := k) (qbi (F := Part.val) (k := k) (x := (ps.getD k (⟨none, 0, []⟩ : Part))) ((getD_at (⟨none, 0, []⟩ : Part) (k := k) (by first | omega | (simp; omega)))))))∘Jp 1∘Jd2∘Jj∘JR∘Jp 2) fun a Z HM => ?_)
  refine fo Z 2 rfl rfl (qn Z HM (i := 0) rfl ei_u8 rfl rfl rfl (news := ((ps.getD k (⟨none, 0, []⟩ : Part)).l.map B8)) (HM.old (hps _ (qa5 _ om))) (qba _) (by have := qf4 (l := ps) (k + 1); rw [qc9 (d := (⟨none, 0, []⟩ : Part)) om, List.length_append] at this; omega) (by have := qf4 (l := ps) (k + 1); rw [qc9 (d := (⟨none, 0, []⟩ : Part)) om, List.length_append] at this; omega) rfl de ?_)
  clear Z HM; intro a w33 A33 c33 Z HM hc33
  refine Jb Z HM ((Jp 1∘Jd3∘Jq) fun a Z HM => ?_)
  have hnA33 : ((ps.take k).flatMap (·.l)).length + (ps.getD k (⟨none, 0, []⟩ : Part)).l.length = ((ps.take (k + 1)).flatMap (·.l)).length := by rw [qc9 (d := (⟨none, 0, []⟩ : Part)) om, List.length_append]
  replace HM := HM.reRow (i := 0) (ys := ((ps.take (k + 1)).flatMap (·.l)).map B8) rfl hnA33 (by rw [qc9 (d := (⟨none, 0, []⟩ : Part)) om, List.map_append])
  rw [hnA33] at hc33
  replace Z := Z.sp 6 (.slice A33 (((ps.take (k + 1)).flatMap (·.l)).length) c33) rfl (by rw [hnA33])
  refine Jb Z HM ((JG∘JR∘JaK 1∘Jp 1∘Jd1∘Jq) fun a Z HM => ?_)
  exact ⟨_, om, k + 1, A33, c33, by omega, hc33, rfl, Z.sub kr, HM.pk [0]⟩
 intro a Z HM
 have hd28 := of_decide_eq_false hb28
 revert HM; revert a; repeat (first | clear Z | clear HM)
 intro a Z HM
 obtain rfl : n = k := by omega
 exact Jb Z HM ((JF∘JX∘JG∘JP∘Jp 2∘Jd1∘Jj∘JZ∘Jz1) fun HM => qhm (HM.own (i := 0) rfl) hck (by rw [List.take_of_length_le om]) (by rw [List.take_of_length_le om]) HM.below)
theorem qm3 {a b : List Ev} {k : Nat} (h : a.take k = b.take k) (ha : k < a.length) (hb : k < b.length) (he : a.getD k Ev.zero = b.getD k Ev.zero) : a.take (k + 1) = b.take (k + 1) := by
 rw [List.take_add_one, List.take_add_one, getD_at Ev.zero ha, getD_at Ev.zero hb, h, he]
theorem qow {a b : List Ev} {k : Nat} (h : a.take k = b.take k) (ha : a.length ≤ k) (hb : b.length ≤ k) : a = b := by
 rwa [List.take_of_length_le ha, List.take_of_length_le hb] at h
theorem quy (A A2 : Option Addr) (n m c c2 : Nat) (es gs : List Ev) (w : World) (hr : Rd w w.heap.size 11 A n (es.flatMap evL)) (hr2 : Rd w w.heap.size 11 A2 m (gs.flatMap evL)) (hla : es.length = n) (hlb : gs.length = m) (hn : n ≤ 1000000000000) :
    Calls Tryz.prog 45 #[.slice A n c, .slice A2 m c2] w (Is w (.bool (decide (es = gs)))) := by
 refine (JN2 Tryz.func45 26) ?_
 refine (JP∘Jp 1∘Jj∘JQ∘JP∘Jp 1∘Jl∘Jp 1∘Jl∘Jp 1∘Jd4∘Jj) (Jh (fun hd10 => ?_) fun hd10 => ?_)
 ·
  exact (JT∘JP∘Jp 1∘Jj∘JZ∘Jz1) fun HM => by exact ⟨by rw [decide_eq_false (fun h => by rw [h] at hla; omega)], HM.below⟩
 refine (JF∘JS'∘JQ∘JP∘Jp 1∘Jl∘Jp 1∘Jj∘JB) fun a Z HM => ?_
 refine qi (fun mS aS wS => ∃ (k : Nat), (k ≤ n) ∧ (es.take k = gs.take k) ∧ mS = n - k ∧ Fr aS 26 [] [(13, vI k), (12, vI n), (10, .bool false), (4, .bool false), (0, .slice A n c), (1, .slice A2 m c2)] ∧ Mem w wS []) (m := n - 0) ⟨0, Nat.zero_le _, rfl, rfl, Z.sub kr, HM.pk []⟩ ?_
 clear Z HM; rintro mS a w_ ⟨k, hk, heq, rfl, Z, HM⟩
 refine Jb Z HM ((JP∘Jp 1∘Jj∘JQ) (Ju (fun hb14 => ?_) fun hb14 => ?_))
 ·
  intro a Z HM
  have hd14 := of_decide_eq_true hb14
  have hk14 : k < n := by omega
  refine Jb Z HM ((JT∘JS'∘JQ∘JB∘JP∘Jp 2∘Jd1∘Jj) fun a Z HM => ?_)
  refine wp_seq ?_
  refine Jb Z HM ((Vs .n []) fun wd6 => (Vp [0, 1, 4, 5]) ?_)
  repeat (first | clear Z | clear HM | clear HS)
  intro a Z HM HS
  obtain ⟨gA, oA, rfl, _⟩ := hr.qt (Nat.lt_of_le_of_lt (Nat.zero_le _) (show k < n from by omega)) de
  refine Vb Z HM HS ((Vy 2 (v := vP gA (oA + k * 11)) (h:=by exact Yl.ix gA oA k 11 rfl rfl rfl)∘Vy 3 (v := .agg ((es.getD k Ev.zero).cells)) (h:=by exact Yl.qr rfl rfl ⟨kr, kr⟩ rfl (fun _ h => (h.old hr).qah qw ((getD_at Ev.zero (k := k) (by first | omega | (simp; omega))))))) ?_)
  repeat (first | clear Z | clear HM | clear HS)
  intro a Z HM HS
  obtain ⟨gA2, oA2, rfl, _⟩ := hr2.qt (Nat.lt_of_le_of_lt (Nat.zero_le _) (show k < m from by omega)) de
  refine Vb Z HM HS ((Vy 6 (v := vP gA2 (oA2 + k * 11)) (h:=by exact Yl.ix gA2 oA2 k 11 rfl rfl rfl)∘Vy 7 (v := .agg ((gs.getD k Ev.zero).cells)) (h:=by exact Yl.qr rfl rfl ⟨kr, kr⟩ rfl (fun _ h => (h.old hr2).qah qw ((getD_at Ev.zero (k := k) (by first | omega | (simp; omega))))))∘Vy 8 (v := .bool (!(decide ((es.getD k Ev.zero) = (gs.getD k Ev.zero))))) (h:=by exact Yl.q28 (x := (es.getD k Ev.zero)) (y := (gs.getD k Ev.zero)) rfl rfl rfl kr)∘Vd∘Jd6) (Ju (fun hb24 => ?_) fun hb24 => ?_))
  ·
   intro a Z HM
   have hd24 := of_decide_eq_false ((Bool.not_eq_true' _).mp hb24)
   exact Jb Z HM ((JT∘JP∘Jp 1∘Jj∘JZ∘Jz1) fun HM => by exact ⟨by rw [decide_eq_false (fun h => by rw [h] at hb24; simp at hb24)], HM.below⟩)
  intro a Z HM
  have hd24 := of_decide_eq_true ((Bool.not_eq_false' _).mp hb24)
  refine Jb Z HM ((JF∘JS'∘JR∘JaK 1∘Jp 1∘Jd1∘Jq) fun a Z HM => ?_)
  exact ⟨_, om, k + 1, by omega, qm3 heq om om (by simpa using hb24), rfl, Z.sub kr, HM.pk []⟩
 intro a Z HM
 have hd14 := of_decide_eq_false hb14
 have hkn : k = n := by omega
 exact Jb Z HM ((JF∘JX∘JG∘JP∘Jp 1∘Jj∘JZ∘Jz1) fun HM => by exact ⟨by rw [decide_eq_true (qow heq om om)], HM.below⟩)
theorem qro (c : Nat) (hc : c < 4294967296) (A : Option Addr) (n cp : Nat) (l : List Nat) (B : Nat) (w : World) (hL : LaidX B w) (hB : B ≤ w.heap.size) (hr : Rd w w.heap.size 1 A n (l.map B8)) (hln : l.length = n) (hn : n ≤ 140737488355328) (hl : ∀ b ∈ l, b < 256) :
    Calls Tryz.prog 125 #[vW c, .slice A n cp] w (Is w (vW (qu c l : Int))) := by
 refine (JN2 Tryz.func125 33) ?_
 refine (JP∘Jp 1∘Jj∘JQ∘JP∘Jp 1∘Jl∘Jp 1∘Jj∘JB) fun a Z HM => ?_
 refine qi (fun mS aS wS => ∃ (k : Nat), (k ≤ n) ∧ mS = n - k ∧ Fr aS 33 [] [(9, vI k), (8, vI n), (7, .slice A n cp), (4, vW 0), (0, vW (qu c (l.take k)))] ∧ Mem w wS []) (m := n - 0) ⟨0, Nat.zero_le _, rfl, Z.sub kr, HM.pk []⟩ ?_
 clear Z HM; rintro mS a w_ ⟨k, hk, rfl, Z, HM⟩
 have hcr := qed (l.take k) hc (zu hl k)
 refine Jb Z HM ((JP∘Jp 1∘Jj∘JQ) (Ju (fun hb10 => ?_) fun hb10 => ?_))
 ·
  intro a Z HM
  have hd10 := of_decide_eq_true hb10
  refine Jb Z HM ((JT∘JS'∘JQ∘JB∘JP) ?_)
  repeat (first | clear Z | clear HM)
  intro a Z HM
  obtain ⟨gA, oA, rfl, _⟩ := hr.qt (Nat.lt_of_le_of_lt (Nat.zero_le _) (show k < n from by omega)) de
  refine Jb Z HM ((Jy (v := vP gA (oA + k * 1)) (h:=by exact Yl.ix gA oA k 1 rfl rfl rfl)∘JH (getD_lt hl (k := k) (by first | omega | (simp; omega)))) fun hx1 => (Jy (v := vB (l.getD k 0)) (h:=by exact Yl.o1 hr k 0 (by first | omega | (simp; omega)) rfl rfl)∘Jp 1∘Jd2∘Jr∘Jp 2∘Jw .u32∘Jp 1∘Jo (vW ((qu c (l.take k)) ^^^ (l.getD k 0) : Nat)) (by exact qih (m := qu c (l.take k)) (n := (l.getD k 0)) om om)∘Jp 1∘Jd4∘Jq) fun a Z HM => ?_)
  have hy := qf7 hcr (show l.getD k 0 < 4294967296 by omega)
  refine Jb Z HM ((JG∘JP∘Jp 2∘Jo (vW (((qu c (l.take k)) ^^^ (l.getD k 0)) / 16 : Nat)) (by exact qdp .u32 ((qu c (l.take k)) ^^^ (l.getD k 0)) (j := 4) (q := 16) rfl rfl)∘Jp 2∘Jo (vW (((qu c (l.take k)) ^^^ (l.getD k 0)) % 16 : Nat)) (by exact qp8 (n := 15) (j := 4) rfl de om)∘Jy (v := vP 2 ((((qu c (l.take k)) ^^^ (l.getD k 0)) % 16) * 1)) (h:=by exact (Yl.qe8 (ad := ⟨2, 0, none⟩) (m := 16) (y := ((qu c (l.take k)) ^^^ (l.getD k 0)) % 16) (sz := 1) rfl rfl rfl kr om).as (by rw [Addr.add_mid, Nat.zero_add]))∘Jy (v := vW (qbq.getD (((qu c (l.take k)) ^^^ (l.getD k 0)) % 16) 0)) (h:=by exact Yl.qx rfl rfl kr (fun _ h => qqd hL h hB (k := (((qu c (l.take k)) ^^^ (l.getD k 0)) % 16)) om))∘Jp 1∘Jo (vW (nib (qu c (l.take k) ^^^ l.getD k 0))) (by have h := qih (m := (qu c (l.take k) ^^^ l.getD k 0) / 16) (n := qbq.getD ((qu c (l.take k) ^^^ l.getD k 0) % 16) 0) om (qin _ om); exact h)∘Jp 1∘Jd6∘Jq) fun a Z HM => ?_)
  have hz := q2k hy
  refine Jb Z HM ((JG∘JR∘Jp 2∘Jo (vW ((nib (qu c (l.take k) ^^^ l.getD k 0)) / 16 : Nat)) (by exact qdp .u32 (nib (qu c (l.take k) ^^^ l.getD k 0)) (j := 4) (q := 16) rfl rfl)∘Jp 2∘Jo (vW ((nib (qu c (l.take k) ^^^ l.getD k 0)) % 16 : Nat)) (by exact qp8 (n := 15) (j := 4) rfl de om)∘Jy (v := vP 2 (((nib (qu c (l.take k) ^^^ l.getD k 0)) % 16) * 1)) (h:=by exact (Yl.qe8 (ad := ⟨2, 0, none⟩) (m := 16) (y := (nib (qu c (l.take k) ^^^ l.getD k 0)) % 16) (sz := 1) rfl rfl rfl kr om).as (by rw [Addr.add_mid, Nat.zero_add]))∘Jy (v := vW (qbq.getD ((nib (qu c (l.take k) ^^^ l.getD k 0)) % 16) 0)) (h:=by exact Yl.qx rfl rfl kr (fun _ h => qqd hL h hB (k := ((nib (qu c (l.take k) ^^^ l.getD k 0)) % 16)) om))∘Jp 1∘Jo (vW (qu c (l.take (k + 1)))) (by have h := qih (m := nib (qu c (l.take k) ^^^ l.getD k 0) / 16) (n := qbq.getD (nib (qu c (l.take k) ^^^ l.getD k 0) % 16) 0) om (qin _ om); rw [qio om]; exact h)∘Jp 1∘Jd6∘Jj∘JR∘JaK 1∘Jp 1∘Jd1∘Jq) fun a Z HM => ?_)
  exact ⟨_, om, k + 1, by omega, rfl, Z.sub kr, HM.pk []⟩
 intro a Z HM
 have hd10 := of_decide_eq_false hb10
 revert HM; revert a; repeat (first | clear Z | clear HM)
 intro a Z HM
 obtain rfl : n = k := by omega
 exact Jb Z HM ((JF∘JX∘JG∘JP∘Jp 2∘Jd1∘Jj∘JZ∘Jz1) fun HM => by exact ⟨by rw [List.take_of_length_le om], HM.below⟩)
theorem qrp (c : Nat) (hc0 : c < 4294967296) (A : Option Addr) (n cp : Nat) (l : List Nat) (B : Nat) (w : World) (hL : LaidX B w) (hB : B ≤ w.heap.size) (hr : Rd w w.heap.size 1 A n (l.map B8)) (hln : l.length = n) (hn : n ≤ 140737488355328) (hl : ∀ b ∈ l, b < 256) :
    Calls Tryz.prog 104 #[vW c, .slice A n cp] w (Is w (vW ((qu (c ^^^ 4294967295) l ^^^ 4294967295 : Nat) : Int))) := by
 refine (JN2 Tryz.func104 10) ?_
 refine (JP∘Jp 1∘Jq) fun a Z HM => ?_
 have hc := qf7 hc0 (show 4294967295 < 4294967296 by decide)
 have hcr := qed l hc hl
 exact Jb Z HM ((JG∘JP∘Jp 1∘Jy (v := vW (c ^^^ 4294967295 : Nat)) (h:=by exact Yl.q27 (m := c) rfl rfl om)∘Jp 1∘JI (h:=by exact fun HM => qro _ hc _ _ _ l B _ (hL.mem HM hB) (HM.le hB) (HM.old hr) hln hn hl)) fun w8 hbw => (Jy (v := vW ((qu (c ^^^ 4294967295) l) ^^^ 4294967295 : Nat)) (h:=by exact Yl.q27 (m := qu (c ^^^ 4294967295) l) rfl rfl om)∘Jp 1∘Jd5∘Jj∘JZ) JY1)
theorem qj7 (A : Option Addr) (n cp : Nat) (l : List Nat) (B : Nat) (w : World) (hL : LaidX B w) (hB : B ≤ w.heap.size) (hr : Rd w w.heap.size 1 A n (l.map B8)) (hln : l.length = n) (hn : n ≤ 140737488355328) (hl : ∀ b ∈ l, b < 256) :
    Calls Tryz.prog 86 #[.slice A n cp] w (Is w (vW (qk l : Int))) := by
 refine (JN1 Tryz.func86 5) ?_
 refine (JP∘Jp 1∘Jr∘Jp 1∘JL (h:=by exact fun HM => qrp 0 de _ _ _ l B _ (hL.mem HM hB) (HM.le hB) (HM.old hr) hln hn hl)) ?_
 rintro HM _ w4 ⟨rfl, hbw⟩
 rw [show (qu (0 ^^^ 4294967295) l ^^^ 4294967295 : Nat) = qk l from qx0 (qed l de hl)]
 refine ⟨_, rfl, _, HM.call hbw, ?_⟩
 exact (Jp 1∘Jd2∘Jj∘JZ) JY1
theorem q05 {w w' : World} {l : List Nat} {n c : Nat} {A : Option Addr} (hln : l.length = n) (ho : w'.ownsRow w.heap.size 5 1 (.slice A (0 + n + 4) c) (0 + n + 4) ([] ++ l.map B8 ++ (le4 (qk l)).map B8)) (hc : 0 + n + 4 ≤ c) (hb : Below w.heap.size w w') : qaq w 0 (sealL l) (.returned (.tuple #[.slice A (0 + n + 4) c, vI 0])) w' := by
 have e : 0 + n + 4 = (sealL l).length := by rw [qhz]; omega
 rw [e] at ho hc ⊢
 refine ⟨⟨A, c, rfl, ?_, hc⟩, hb⟩
 have e2 : ([] ++ l.map B8 ++ (le4 (qk l)).map B8) = (sealL l).map B8 := by simp [sealL]
 rw [e2] at ho
 exact ho
theorem qyi (A : Option Addr) (n cp : Nat) (l : List Nat) (B : Nat) (w : World) (hL : LaidX B w) (hB : B ≤ w.heap.size) (hr : Rd w w.heap.size 1 A n (l.map B8)) (hln : l.length = n) (hn : n ≤ 16777216) (hl : ∀ b ∈ l, b < 256) :
    Calls Tryz.prog 83 #[.slice A n cp] w (qaq w 0 (sealL l)) := by
 refine (JN1 Tryz.func83 31) ?_
 refine (JP∘Jp 2∘Jj∘JQ∘JP∘Jp 1∘Jl∘Jp 1∘Jd2∘Jj) (Ju (fun hb8 => ?_) fun hb8 => ?_)
 ·
  intro a Z HM
  have hd8 := of_decide_eq_true hb8
  omega
 intro a Z HM
 have hd8 := of_decide_eq_false hb8
 refine Jb Z HM ((JF∘JS'∘JP∘Jp 1∘JI (h:=by exact fun HM => qj7 _ _ _ l B _ (hL.mem HM hB) (HM.le hB) (HM.old hr) (hln) om (hl))) fun w10 hbw => (Jp 1∘Jd2∘Jq) fun a Z HM => ?_)
 have hcs := qip l
 refine Jb Z HM ((JG∘JP∘Jp 1∘Jl∘JaK 4) fun a Z HM => ?_)
 refine fo Z 3 rfl rfl ?_
 refine qtx Z HM (m := (n + 4)) rfl ei_u8 rfl rfl om om rfl de ?_
 clear Z HM; intro a w14 g14 Z HM
 refine Jb Z HM ((Jp 1) fun a Z HM => ?_)
 refine fo Z 5 rfl rfl (qn Z HM (i := 0) rfl ei_u8 rfl rfl rfl (news := (l.map B8)) (HM.old hr) (qba _) om om rfl de ?_)
 clear Z HM; intro a w16 A16 c16 Z HM hc16
 refine Jb Z HM ((Jp 1∘Jd6∘Jr∘Jp 2∘Jv 1 [(19, vB (IntKind.u8.wrap (qk l : Int)))]∘Jo (vB ((qk l) % 256 : Nat)) (by exact qa9 (qk l))∘Jp 2∘Jo (vW ((qk l) / 256 : Nat)) (by exact qdp .u32 (qk l) (j := 8) (q := 256) rfl rfl)∘Jv 1 [(22, vB (IntKind.u8.wrap (((qk l) / 256 : Nat) : Int)))]∘Jo (vB (((qk l) / 256) % 256 : Nat)) (by exact qa9 ((qk l) / 256))∘Jp 2∘Jo (vW ((qk l) / 65536 : Nat)) (by exact qdp .u32 (qk l) (j := 16) (q := 65536) rfl rfl)∘Jv 1 [(25, vB (IntKind.u8.wrap (((qk l) / 65536 : Nat) : Int)))]∘Jo (vB (((qk l) / 65536) % 256 : Nat)) (by exact qa9 ((qk l) / 65536))∘Jp 2∘Jo (vW ((qk l) / 16777216 : Nat)) (by exact qdp .u32 (qk l) (j := 24) (q := 16777216) rfl rfl)∘Jv 1 [(28, vB (IntKind.u8.wrap (((qk l) / 16777216 : Nat) : Int)))]∘Jo (vB (((qk l) / 16777216) % 256 : Nat)) (by exact qa9 ((qk l) / 16777216))) fun a Z HM => ?_)
 refine fo Z 12 rfl rfl (s_el Z HM ei_u8 [(0, vB ((qk l) % 256 : Nat)), (1, vB (((qk l) / 256) % 256 : Nat)), (2, vB (((qk l) / 65536) % 256 : Nat)), (3, vB (((qk l) / 16777216) % 256 : Nat))] #[vB ((qk l) % 256 : Nat), vB (((qk l) / 256) % 256 : Nat), vB (((qk l) / 65536) % 256 : Nat), vB (((qk l) / 16777216) % 256 : Nat)] ?_)
 clear Z HM; intro a w29 g29 Z HM
 refine fo Z 13 rfl rfl (qn Z HM (i := 1) rfl ei_u8 rfl rfl rfl (news := ((le4 (qk l)).map B8)) (HM.rdBlk (i := 0) (n := 4) (size := 1) rfl rfl) (qba _) om om rfl de ?_)
 clear Z HM; intro a w30 A30 c30 Z HM hc30
 exact Jb Z HM ((Jp 2∘Jj∘JZ∘JM (.f .n)∘Jz2) fun HM => q05 hln (HM.own (i := 0) rfl) hc30 HM.below)
theorem qrq {l : List Nat} {n : Nat} (hln : l.length = n) (h : 4 ≤ n) : (((qk (l.take (n - 4)) : Nat) : Int) == ((l.getD (n - 4) 0 + l.getD (n - 4 + 1) 0 * 256 + l.getD (n - 4 + 2) 0 * 65536 + l.getD (n - 4 + 3) 0 * 16777216 : Nat) : Int)) = qar l := by
 subst hln
 have hd : ∀ i, (l.drop (l.length - 4)).getD i 0 = l.getD (l.length - 4 + i) 0 := fun i => by rw [List.getD_eq_getElem?_getD, List.getElem?_drop, ← List.getD_eq_getElem?_getD]
 unfold qar num4
 rw [hd, hd, hd, hd, Bool.eq_iff_iff, beq_iff_eq, decide_eq_true_eq]
 simp only [Nat.add_zero]
 constructor
 ·intro h1; exact ⟨h, by omega⟩
 ·intro h1; have := h1.2; omega
theorem qhp {l : List Nat} {n : Nat} (hln : l.length = n) (h : n < 4) : qar l = false := by unfold qar; rw [decide_eq_false]; omega
def numUp (l : List Nat) : Nat → Nat
 | 0 => 0
 | k + 1 => numUp l k * 256 + l.getD (3 - k) 0
theorem qm4 (l : List Nat) : numUp l 4 = num4 l := by simp [numUp, num4]; omega
theorem qqf {l : List Nat} (hl : ∀ b ∈ l, b < 256) (hn : 4 ≤ l.length) : ∀ k, k ≤ 4 → numUp l k < 256 ^ k
 | 0, _ => by show 0 < 1; decide
 | k + 1, h => by
  have h1 := qqf hl hn k om
  have h2 := getD_lt hl (k := 3 - k) om
  rw [numUp, Nat.pow_succ]
  omega
theorem qox {l : List Nat} (hl : ∀ b ∈ l, b < 256) (hn : 4 ≤ l.length) {k : Nat} (h : k ≤ 4) : numUp l k < 4294967296 := by
 have h1 := qqf hl hn k h
 have h2 : (256 : Nat) ^ k ≤ 256 ^ 4 := Nat.pow_le_pow_right de h
 omega
theorem qrr (A : Option Addr) (n cp : Nat) (l : List Nat) (B : Nat) (w : World) (hL : LaidX B w) (hB : B ≤ w.heap.size) (hr : Rd w w.heap.size 1 A n (l.map B8)) (hc : n ≤ cp) (hln : l.length = n) (hn : n ≤ 140737488355328) (hl : ∀ b ∈ l, b < 256) :
    Calls Tryz.prog 69 #[.slice A n cp] w (Is w (.bool (qar l))) := by
 refine (JN1 Tryz.func69 43) ?_
 refine (JP∘Jp 1∘Jr∘Jp 1∘Jl∘Jp 1∘Jo (vI ((n : Int) - 4)) (by exact qp9 ⟨by omega, by omega⟩)∘Jp 1∘Jd3∘Jj∘JQ∘JP∘Jp 2∘Jd1∘Jj) (Ju (fun hb8 => ?_) fun hb8 => ?_)
 ·
  intro a Z HM
  have hd8 := of_decide_eq_true hb8
  exact Jb Z HM ((JT∘JP∘Jp 1∘Jj∘JZ∘Jz1) fun HM => by exact ⟨by rw [qhp hln om], HM.below⟩)
 intro a Z HM
 have hd8 := of_decide_eq_false hb8
 replace Z := Z.sp 3 (vI ((n - 4 : Nat) : Int)) rfl (by congr 1; omega)
 refine Jb Z HM ((JF∘JS') fun a Z HM => ?_)
 refine wp_seq ?_
 refine Jb Z HM ((Vs .n []) fun wd4 => (Vp [0, 1, 4, 5, 9, 10, 17, 18, 25, 26]∘Vy 2 (v := .slice A (n - 4) cp) (h:=by exact Yl.zl ei_u8 (j := n - 4) rfl rfl rfl om)) ?_)
 repeat (first | clear Z | clear HM | clear HS)
 intro a Z HM HS
 obtain ⟨gA, oA, rfl, _⟩ := hr.qt (Nat.lt_of_le_of_lt (Nat.zero_le _) (show n - 4 < n from by omega)) de
 exact Vb Z HM HS ((Vy 6 (v := vP gA (oA + (n - 4) * 1)) (h:=by exact Yl.ix gA oA (n - 4) 1 rfl rfl rfl)∘VH (getD_lt hl (k := (n - 4)) (by first | omega | (simp; omega)))) fun hx17 => (Vy 7 (v := vB (l.getD (n - 4) 0)) (h:=by exact Yl.o1 hr (n - 4) 0 (by first | omega | (simp; omega)) rfl rfl)∘Vw 8 .u32∘VaK 11 1∘Vy 12 (v := vP gA (oA + ((n - 4) + 1) * 1)) (h:=by exact Yl.ix gA oA ((n - 4) + 1) 1 rfl rfl rfl)∘VH (getD_lt hl (k := ((n - 4) + 1)) (by first | omega | (simp; omega)))) fun hx18 => (Vy 13 (v := vB (l.getD ((n - 4) + 1) 0)) (h:=by exact Yl.o1 hr ((n - 4) + 1) 0 (by first | omega | (simp; omega)) rfl rfl)∘Vw 14 .u32∘Vp [15]∘Vo (vW ((l.getD ((n - 4) + 1) 0) * 256 : Nat)) (by exact qg1 (by rw [show (2 : Int) ^ (min (8 : Int).toNat (IntKind.u32).bits) = 256 from rfl]; omega) om)∘Vp [16]∘Vo (vW (l.getD (n - 4) 0 + l.getD (n - 4 + 1) 0 * 256 : Nat)) (by exact qle (m := l.getD (n - 4) 0) (n := l.getD (n - 4 + 1) 0) (j := 8) (p := 256) rfl om om)∘VaK 19 2∘Vy 20 (v := vP gA (oA + ((n - 4) + 2) * 1)) (h:=by exact Yl.ix gA oA ((n - 4) + 2) 1 rfl rfl rfl)∘VH (getD_lt hl (k := ((n - 4) + 2)) (by first | omega | (simp; omega)))) fun hx19 => (Vy 21 (v := vB (l.getD ((n - 4) + 2) 0)) (h:=by exact Yl.o1 hr ((n - 4) + 2) 0 (by first | omega | (simp; omega)) rfl rfl)∘Vw 22 .u32∘Vp [23]∘Vo (vW ((l.getD ((n - 4) + 2) 0) * 65536 : Nat)) (by exact qg1 (by rw [show (2 : Int) ^ (min (16 : Int).toNat (IntKind.u32).bits) = 65536 from rfl]; omega) om)∘Vp [24]∘Vo (vW (l.getD (n - 4) 0 + l.getD (n - 4 + 1) 0 * 256 + l.getD (n - 4 + 2) 0 * 65536 : Nat)) (by exact qle (m := l.getD (n - 4) 0 + l.getD (n - 4 + 1) 0 * 256) (n := l.getD (n - 4 + 2) 0) (j := 16) (p := 65536) rfl om om)∘VaK 27 3∘Vy 28 (v := vP gA (oA + ((n - 4) + 3) * 1)) (h:=by exact Yl.ix gA oA ((n - 4) + 3) 1 rfl rfl rfl)∘VH (getD_lt hl (k := ((n - 4) + 3)) (by first | omega | (simp; omega)))) fun hx20 => (Vy 29 (v := vB (l.getD ((n - 4) + 3) 0)) (h:=by exact Yl.o1 hr ((n - 4) + 3) 0 (by first | omega | (simp; omega)) rfl rfl)∘Vw 30 .u32∘Vp [31]∘Vo (vW ((l.getD ((n - 4) + 3) 0) * 16777216 : Nat)) (by exact qg1 (by rw [show (2 : Int) ^ (min (24 : Int).toNat (IntKind.u32).bits) = 16777216 from rfl]; omega) om)∘Vp [32]∘Vo (vW (l.getD (n - 4) 0 + l.getD (n - 4 + 1) 0 * 256 + l.getD (n - 4 + 2) 0 * 65536 + l.getD (n - 4 + 3) 0 * 16777216 : Nat)) (by exact qle (m := l.getD (n - 4) 0 + l.getD (n - 4 + 1) 0 * 256 + l.getD (n - 4 + 2) 0 * 65536) (n := l.getD (n - 4 + 3) 0) (j := 24) (p := 16777216) rfl om om)∘VI 3 .n (h:=by exact fun HM => qj7 _ _ _ (l.take (n - 4)) B _ (hL.mem HM hB) (HM.le hB) ((HM.old hr).toB8 om) (by rw [List.length_take]; omega) om (zu hl _))) fun w12 hbw => (Vp [33, 34]∘Vd∘Jd6∘JZ∘Jz1) fun HM => by exact ⟨by rw [qrq hln om], HM.below⟩)
theorem qfb {w w' : World} {l : List Nat} {n e : Nat} (h : lenR l = (n, e)) (hb : Below w.heap.size w w') : Is w (.tuple #[vI ((lenR l).1 : Int), vI ((lenR l).2 : Int)]) (.returned (.tuple #[vI n, vI e])) w' := by rw [h]; exact ⟨rfl, hb⟩
theorem qrs (A : Option Addr) (n cp : Nat) (l : List Nat) (w : World) (hr : Rd w w.heap.size 1 A n (l.map B8)) (hln : l.length = n) (hn : n ≤ 9223372036854775807) (hl : ∀ b ∈ l, b < 256) :
    Calls Tryz.prog 68 #[.slice A n cp] w (Is w (.tuple #[vI ((lenR l).1 : Int), vI ((lenR l).2 : Int)])) := by
 refine (JN1 Tryz.func68 34) ?_
 refine (JP∘Jp 2∘Jj∘JQ∘JP∘Jp 1∘Jl∘Jp 1∘Jd2∘Jj) (Ji (fun hd8 => ?_) fun hd8 => ?_)
 ·
  exact (JT∘JP∘Jp 2∘Jj∘JZ∘Jz2) fun HM => qfb (by unfold lenR; rw [if_pos om]) HM.below
 refine (JF∘JS'∘JP∘Jp 1∘Jj∘JQ∘JP∘Jp 1∘Jj∘JB) fun a Z HM => ?_
 refine qi (fun mS aS wS => ∃ (k : Nat), (k ≤ 4) ∧ mS = 4 - k ∧ Fr aS 34 [] [(5, vI (3 - (k : Int))), (4, vI (numUp l k)), (8, .bool false), (3, vI 0), (2, vI 0), (0, .slice A n cp)] ∧ Mem w wS []) (m := 4 - 0) ⟨0, Nat.zero_le _, rfl, Z.sub kr, HM.pk []⟩ ?_
 clear Z HM; rintro mS a w_ ⟨k, hk, rfl, Z, HM⟩
 have hu := qox hl om hk
 refine Jb Z HM ((JQ∘JP∘Jp 2∘Jd1∘Jj) (Ju (fun hb10 => ?_) fun hb10 => ?_))
 ·
  intro a Z HM
  have hd10 := of_decide_eq_true hb10
  have hk3 : k ≤ 3 := by omega
  refine Jb Z HM ((JT∘JS'∘JQ∘JB∘JR∘Jp 2∘Jo (vI ((numUp l k) * 256 : Nat)) (by exact qap (by rw [show (2 : Int) ^ (min (8 : Int).toNat (IntKind.i64).bits) = 256 from rfl]; omega) om)∘Jp 2∘Jo (vI (3 - k : Nat)) (by congr 1; omega)) ?_)
  repeat (first | clear Z | clear HM)
  intro a Z HM
  obtain ⟨gA, oA, rfl, _⟩ := hr.qt (Nat.lt_of_le_of_lt (Nat.zero_le _) (show 3 - k < n from by omega)) de
  refine Jb Z HM ((Jy (v := vP gA (oA + (3 - k) * 1)) (h:=by exact Yl.ix gA oA (3 - k) 1 rfl rfl rfl)∘JH (getD_lt hl (k := (3 - k)) (by first | omega | (simp; omega)))) fun hx1 => (Jy (v := vB (l.getD (3 - k) 0)) (h:=by exact Yl.o1 hr (3 - k) 0 (by first | omega | (simp; omega)) rfl rfl)∘Jw .i64∘Jp 1∘Jo (vI (numUp l (k + 1))) (by have h := qxq (m := numUp l k) (n := l.getD (3 - k) 0) (j := 8) (p := 256) rfl om om; exact h)∘Jp 1∘Jd6∘Jj∘JR∘Jp 2∘Jo (vI (3 - ((k + 1 : Nat) : Int))) (by rw [IntWalk.i64_in _ om]; congr 1; omega)∘Jp 1∘Jd2∘Jq) fun a Z HM => ?_)
  exact ⟨_, om, k + 1, by omega, rfl, Z.sub kr, HM.pk []⟩
 intro a Z HM
 have hd10 := of_decide_eq_false hb10
 revert HM; revert a; repeat (first | clear Z | clear HM)
 intro a Z HM
 obtain rfl : k = 4 := by omega
 replace Z := Z.sp 4 (vI (num4 l : Int)) rfl (by rw [qm4])
 rw [qm4] at hu
 refine Jb Z HM ((JF∘JX∘JG∘JQ∘JB∘JP∘Jp 3) (Ji (fun hd24 => ?_) fun hd24 => ?_))
 ·
  exact (Jp 4∘Jd6∘Jj∘JT∘JP∘Jp 2∘Jj∘JZ∘Jz2) fun HM => qfb (by unfold lenR; rw [if_neg om, if_pos om]) HM.below
 refine (Jp 4∘Jd6∘Jj) (Ji (fun hd21 => ?_) fun hd21 => ?_)
 ·
  exact (JT∘JP∘Jp 2∘Jj∘JZ∘Jz2) fun HM => qfb (by unfold lenR; rw [if_neg om, if_pos om]) HM.below
 refine (JF∘JP∘Jp 2∘Jl∘Jp 2∘Jd4∘Jj) (Ji (fun hd28 => ?_) fun hd28 => ?_)
 ·
  exact (JT∘JP∘Jp 2∘Jj∘JZ∘Jz2) fun HM => qfb (by unfold lenR; rw [if_neg om, if_neg om, if_pos om]) HM.below
 exact (JF∘JS'∘JP∘Jp 3∘Jj∘JZ∘Jz2) fun HM => qfb (by unfold lenR; rw [if_neg om, if_neg om, if_neg om]) HM.below
theorem quz (g : Nat) (b : Bk) (hok : b.Ok) (A : Option Addr) (c B : Nat) (w : World) (hL : LaidX B w) (hB : B ≤ w.heap.size) (hr : Rd w w.heap.size 11 A b.evs.length (b.evs.flatMap evL)) (hn : b.evs.length ≤ 1000000) (hb : w.heap[g]? = some (.cells (b.cells A c) 60 (0, 0))) :
    Calls Tryz.prog 91 #[vP g 0] w (Is w (.bool b.qdf)) := by
 refine (JN1 Tryz.func91 47) ?_
 refine (JP∘Jp 1∘Jj∘JQ∘JP∘Jf 4∘Jy (v := .slice A b.evs.length c) (h:=by exact Yl.qx rfl rfl kr (fun _ h => h.zh hb rfl))∘JL (h:=by exact fun HM => qzw A b.evs.length c b.evs hok.evs B _ (hL.mem HM hB).laid (HM.le hB) (HM.old hr) om (i := (rowR b.evs).1) (er := (rowR b.evs).2) rfl)) ?_
 rintro HM _ w7 ⟨rfl, hbw⟩
 refine ⟨_, rfl, _, HM.call hbw, ?_⟩
 refine (Jp 1∘Jx∘Jx∘Jp 2∘Jd6∘Jr∘Jp 3) (Jh (fun hd12 => ?_) fun hd12 => ?_)
 ·
  exact (Jv 19 [(31, .bool true)]∘Jd5∘Jj∘JT∘JP∘Jp 1∘Jj∘JZ∘Jz1) fun HM => by exact ⟨by rw [show b.qdf = false from decide_eq_false om], HM.below⟩
 refine (Jf 1∘Jy (v := vB b.cpu) (h:=by exact Yl.qx rfl rfl kr (fun _ h => h.zh hb rfl))∘Jp 3) (Ji (fun hd17 => ?_) fun hd17 => ?_)
 ·
  exact (Jv 14 [(31, .bool true)]∘Jd6∘Jj∘JT∘JP∘Jp 1∘Jj∘JZ∘Jz1) fun HM => by exact ⟨by rw [show b.qdf = false from decide_eq_false om], HM.below⟩
 refine (Jf 2∘Jy (v := vI b.lost) (h:=by exact Yl.qx rfl rfl kr (fun _ h => h.zh hb rfl))∘Jp 3) (Ji (fun hd22 => ?_) fun hd22 => ?_)
 ·
  exact (Jv 9 [(31, .bool true)]∘Jd6∘Jj∘JT∘JP∘Jp 1∘Jj∘JZ∘Jz1) fun HM => by exact ⟨by rw [show b.qdf = false from decide_eq_false om], HM.below⟩
 refine (Jf 2∘Jy (v := vI b.lost) (h:=by exact Yl.qx rfl rfl kr (fun _ h => h.zh hb rfl))∘Jp 3) (Ji (fun hd27 => ?_) fun hd27 => ?_)
 ·
  exact (Jp 4∘Jd6∘Jj∘JT∘JP∘Jp 1∘Jj∘JZ∘Jz1) fun HM => by exact ⟨by rw [show b.qdf = false from decide_eq_false om], HM.below⟩
 refine (Jf 3∘Jy (v := vI b.next) (h:=by exact Yl.qx rfl rfl kr (fun _ h => h.zh hb rfl))∘Jp 2∘Jd6∘Jj) (Jh (fun hd31 => ?_) fun hd31 => ?_)
 ·
  exact (JT∘JP∘Jp 1∘Jj∘JZ∘Jz1) fun HM => by exact ⟨by rw [show b.qdf = false from decide_eq_false om], HM.below⟩
 refine (JF∘JS'∘JQ∘JP∘Jf 4∘Jy (v := .slice A b.evs.length c) (h:=by exact Yl.qx rfl rfl kr (fun _ h => h.zh hb rfl))∘Jl∘Jp 1∘Jd3∘Jj) (Je (fun hd35 => ?_) fun hd35 => ?_)
 ·
  exact (JT∘JP∘Jf 2∘Jy (v := vI b.lost) (h:=by exact Yl.qx rfl rfl kr (fun _ h => h.zh hb rfl))∘Jp 2∘Jd3∘Jj∘JZ∘Jz1) fun HM => by exact ⟨by rw [Bool.eq_iff_iff.2 (show (decide ((b.lost : Int) > (0 : Int))) = true ↔ b.qdf = true by unfold Bk.qdf; rw [qg4 om]; simp only [decide_eq_true_eq, beq_iff_eq]; omega)], HM.below⟩
 refine (JF∘JS') fun a Z HM => ?_
 refine wp_seq ?_
 refine Jb Z HM ((Vs .n []) fun wd6 => (Vf 0 4∘Vf 5 1∘Vy 1 (v := .slice A b.evs.length c) (h:=by exact Yl.qx rfl rfl kr (fun _ h => h.zh hb rfl))) ?_)
 repeat (first | clear Z | clear HM | clear HS)
 intro a Z HM HS
 obtain ⟨gA, oA, rfl, _⟩ := hr.qt (Nat.lt_of_le_of_lt (Nat.zero_le _) (show 0 < b.evs.length from by omega)) de
 exact Vb Z HM HS ((Vy 2 (v := vP gA oA) (h:=by exact Yl.indexAddr (ad := ⟨gA, oA, none⟩) (y := 0) (sz := 11) rfl rfl rfl om kr)∘Vf 3 2∘Vy 4 (v := vB ((b.evs.getD 0 Ev.zero).cpu)) (h:=by exact Yl.qx rfl rfl kr (fun _ h => (h.old hr).partAt qw (k := 0) (j := 2) (x := (b.evs.getD 0 Ev.zero)) ((getD_at Ev.zero (k := 0) (by first | omega | (simp; omega)))) rfl))∘Vy 6 (v := vB b.cpu) (h:=by exact Yl.qx rfl rfl kr (fun _ h => h.zh hb rfl))∘Vp [7, 8]∘Vd∘Jd6∘JZ∘Jz1) fun HM => by exact ⟨by rw [Bool.eq_iff_iff.2 (show (((b.evs.getD 0 Ev.zero).cpu : Int) == (b.cpu : Int)) = true ↔ b.qdf = true by unfold Bk.qdf; rw [qir om]; simp only [decide_eq_true_eq, beq_iff_eq]; omega)], HM.below⟩)
theorem qu0 (g : Nat) (b : Bk) (A : Option Addr) (c : Nat) (w : World) (hb : w.heap[g]? = some (.cells (b.cells A c) 60 (0, 0))) :
    Calls Tryz.prog 92 #[vP g 0] w (Is w (.bool b.qhe)) := by
 refine (JN1 Tryz.func92 26) ?_
 refine (JP∘Jp 1∘Jr∘Jf 3∘Jy (v := vI b.next) (h:=by exact Yl.qx rfl rfl kr (fun _ h => h.zh hb rfl))∘Jp 2) (Ji (fun hd5 => ?_) fun hd5 => ?_)
 ·
  refine (Jf 3∘Jy (v := vI b.next) (h:=by exact Yl.qx rfl rfl kr (fun _ h => h.zh hb rfl))∘Jp 3) (Ji (fun hd10 => ?_) fun hd10 => ?_)
  ·
   refine (Jf 1∘Jy (v := vB b.cpu) (h:=by exact Yl.qx rfl rfl kr (fun _ h => h.zh hb rfl))∘Jp 3) (Je (fun hd15 => ?_) fun hd15 => ?_)
   ·
    refine (Jf 2∘Jy (v := vI b.lost) (h:=by exact Yl.qx rfl rfl kr (fun _ h => h.zh hb rfl))∘Jp 3) (Je (fun hd20 => ?_) fun hd20 => ?_)
    ·
     exact (Jf 4∘Jy (v := .slice A b.evs.length c) (h:=by exact Yl.qx rfl rfl kr (fun _ h => h.zh hb rfl))∘Jl∘Jp 3∘Jd6∘Jj∘JZ∘Jz1) fun HM => by exact ⟨by rw [Bool.eq_iff_iff.2 (show ((b.evs.length : Int) == (0 : Int)) = true ↔ b.qhe = true by unfold Bk.qhe; simp only [decide_eq_true_eq, beq_iff_eq]; omega)], HM.below⟩
    exact (Jp 6∘Jd6∘Jj∘JZ∘Jz1) fun HM => by exact ⟨by rw [show b.qhe = false from decide_eq_false om], HM.below⟩
   exact (Jv 11 [(1, .bool false)]∘Jd6∘Jj∘JZ∘Jz1) fun HM => by exact ⟨by rw [show b.qhe = false from decide_eq_false om], HM.below⟩
  exact (Jv 16 [(1, .bool false)]∘Jd6∘Jj∘JZ∘Jz1) fun HM => by exact ⟨by rw [show b.qhe = false from decide_eq_false om], HM.below⟩
 exact (Jv 21 [(1, .bool false)]∘Jd4∘Jj∘JZ∘Jz1) fun HM => by exact ⟨by rw [show b.qhe = false from decide_eq_false om], HM.below⟩
theorem qey (b : Bk) (hok : b.Ok) (A : Option Addr) (c B : Nat) (w : World) (hL : LaidX B w) (hB : B ≤ w.heap.size) (hr : Rd w w.heap.size 11 A b.evs.length (b.evs.flatMap evL)) (hn : b.evs.length ≤ 1000000) :
    Calls Tryz.prog 72 #[.agg (b.cells A c)] w (Is w (.bool b.fits)) := by
 refine (JN1 Tryz.func72 19) ?_
 refine (JP∘JE) fun w1 g1 => (Jp 1∘Jr) fun a Z HM => ?_
 refine fo Z 0 rfl rfl ?_
 refine qtz Z HM rfl rfl de ?_
 clear Z HM; intro a w5 g5 Z HM
 refine Jb Z HM ((Jy (v := .func (.func 91) #[] #[vP g1 0]) (h:=by exact Yl.makeFunc (fst := []) (caps := [vP g1 0]) rfl rfl rfl)) fun a Z HM => ?_)
 refine fo Z 2 rfl rfl ?_
 refine qp7 Z HM (i := 0) (kt := 5) (et := 24) (kd := .int .u8) (Or.inr rfl) rfl kr kr rfl rfl rfl rfl (by first | trivial | rfl) (rfl) fun w1_2 HM => ?_
 refine Jb Z HM ((Jy (v := .func (.func 92) #[] #[vP g1 0]) (h:=by exact Yl.makeFunc (fst := []) (caps := [vP g1 0]) rfl rfl rfl)) fun a Z HM => ?_)
 refine fo Z 4 rfl rfl ?_
 refine qp7 Z HM (i := 0) (kt := 5) (et := 24) (kd := .int .u8) (Or.inr rfl) rfl kr kr rfl rfl rfl rfl (by first | trivial | rfl) (rfl) fun w1_4 HM => ?_
 refine Jb Z HM ((Jp 2∘Jd4∘Jq) fun a Z HM => ?_)
 rcases q2m b.kind with hk | hk | ⟨hk, hk2⟩
 ·
  refine Jb Z HM ((JG∘JP∘Jp 1∘Jg 0 O1∘Jy (v := .func (.func 91) #[] #[vP g1 0]) (h:=by exact Yl.qob (kt := 5) (et := 24) (kd := .int .u8) (j := 0) (es := (#[].push { key := vB 1, val := .func (.func 91) #[] #[vP g1 0], born := 0 }).push { key := vB 2, val := .func (.func 92) #[] #[vP g1 0], born := 0 + 1 }) (clock := 0 + 1 + 1) rfl kr kr rfl rfl (fun _ h => h.objAt (i := 0) rfl) (by first | trivial | rfl) (by rw [hk]; rfl))∘Jp 1∘Jd4∘Jr∘Jp 1∘Jy (v := .bool true) (h:=by exact Yl.qw7 rfl rfl rfl kr)∘Jp 2) fun a Z HM => ?_)
  refine fo Z 4 rfl rfl ?_
  refine qcy Z (f := 91) (vs := []) (fst := []) (caps := [vP g1 0]) rfl rfl rfl kr rfl de (quz _ b hok A c B _ (hL.mem HM hB) (HM.le hB) (HM.old hr) hn (HM.blk (i := 1) rfl)) ?_
  rintro _ w17 ⟨rfl, hbw⟩
  refine ⟨_, rfl, ?_⟩
  replace HM := HM.call hbw
  clear Z; intro a Z
  exact Jb Z HM ((Jp 2∘Jd6∘Jj∘JZ∘JM (.f .n)∘Jz1) fun HM => by exact ⟨by unfold Bk.fits; rw [if_pos hk], HM.below⟩)
 ·
  refine Jb Z HM ((JG∘JP∘Jp 1∘Jg 0 O1∘Jy (v := .func (.func 92) #[] #[vP g1 0]) (h:=by exact Yl.qob (kt := 5) (et := 24) (kd := .int .u8) (j := 1) (es := (#[].push { key := vB 1, val := .func (.func 91) #[] #[vP g1 0], born := 0 }).push { key := vB 2, val := .func (.func 92) #[] #[vP g1 0], born := 0 + 1 }) (clock := 0 + 1 + 1) rfl kr kr rfl rfl (fun _ h => h.objAt (i := 0) rfl) (by first | trivial | rfl) (by rw [hk]; rfl))∘Jp 1∘Jd4∘Jr∘Jp 1∘Jy (v := .bool true) (h:=by exact Yl.qw7 rfl rfl rfl kr)∘Jp 2) fun a Z HM => ?_)
  refine fo Z 4 rfl rfl ?_
  refine qcy Z (f := 92) (vs := []) (fst := []) (caps := [vP g1 0]) rfl rfl rfl kr rfl de (qu0 _ b A c _ (HM.blk (i := 1) rfl)) ?_
  rintro _ w17 ⟨rfl, hbw⟩
  refine ⟨_, rfl, ?_⟩
  replace HM := HM.call hbw
  clear Z; intro a Z
  exact Jb Z HM ((Jp 2∘Jd6∘Jj∘JZ∘JM (.f .n)∘Jz1) fun HM => by exact ⟨by unfold Bk.fits; rw [if_neg om, if_pos hk], HM.below⟩)
 ·
  exact Jb Z HM ((JG∘JP∘Jp 1∘Jg 0 O1∘Jy (v := .nilFunc) (h:=by exact Yl.qs3 (kt := 5) (et := 24) (kd := .int .u8) (es := (#[].push { key := vB 1, val := .func (.func 91) #[] #[vP g1 0], born := 0 }).push { key := vB 2, val := .func (.func 92) #[] #[vP g1 0], born := 0 + 1 }) (clock := 0 + 1 + 1) rfl kr kr rfl rfl (fun _ h => h.objAt (i := 0) rfl) (by first | trivial | rfl) (by have e1 : ((b.kind : Int) == 1) = false := (by rw [beq_eq_false_iff_ne]; omega); have e2 : ((b.kind : Int) == 2) = false := (by rw [beq_eq_false_iff_ne]; omega); simp [Instr.findNow, Instr.sameNow, e1, e2]) kr)∘Jp 1∘Jd4∘Jr∘Jp 1∘Jy (v := .bool false) (h:=by exact Yl.q25 rfl rfl rfl kr)∘Jp 5∘Jd6∘Jj∘JZ∘JM (.f .n)∘Jz1) fun HM => by exact ⟨by unfold Bk.fits; rw [if_neg hk, if_neg hk2], HM.below⟩)
theorem qqg (b : Bk) (A : Option Addr) (c : Nat) (w : World) (hr : Rd w w.heap.size 11 A b.evs.length (b.evs.flatMap evL)) (h0 : b.evs.length ≠ 0) :
    Calls Tryz.prog 73 #[.agg (b.cells A c)] w (Is w (.agg b.base.cells)) := by
 refine (JN1 Tryz.func73 14) ?_
 refine (JP∘JE) fun w1 g1 => (JA #[vI 0, vI 0]) fun w2 g2 => (Jj) fun a Z HM => ?_
 refine wp_seq ?_
 refine Jb Z HM ((Vs .n [11]) fun wd1 => (Vf 0 4∘Vf 5 4∘Vc 1 O1) ?_)
 repeat (first | clear Z | clear HM | clear HS)
 intro a Z HM HS
 obtain ⟨gA, oA, rfl, _⟩ := hr.qt (Nat.lt_of_le_of_lt (Nat.zero_le _) (show 0 < b.evs.length from by omega)) de
 refine Vb Z HM HS ((Vy 2 (v := vP gA oA) (h:=by exact Yl.indexAddr (ad := ⟨gA, oA, none⟩) (y := 0) (sz := 11) rfl rfl rfl om kr)∘Vf 3 0∘Vy 4 (v := vI ((b.evs.getD 0 Ev.zero).seq)) (h:=by exact Yl.qx rfl rfl kr (fun _ h => (by have := (h.old hr).partAt qw (k := 0) (j := 0) (x := (b.evs.getD 0 Ev.zero)) ((getD_at Ev.zero (k := 0) (by first | omega | (simp; omega)))) rfl; simpa using this)))∘Vc 6 O1∘Vy 7 (v := vP gA oA) (h:=by exact Yl.indexAddr (ad := ⟨gA, oA, none⟩) (y := 0) (sz := 11) rfl rfl rfl om kr)∘Vf 8 1∘Vy 9 (v := vI ((b.evs.getD 0 Ev.zero).time)) (h:=by exact Yl.qx rfl rfl kr (fun _ h => (h.old hr).partAt qw (k := 0) (j := 1) (x := (b.evs.getD 0 Ev.zero)) ((getD_at Ev.zero (k := 0) (by first | omega | (simp; omega)))) rfl))∘Vy 10 (v := .agg #[vI ((b.evs.getD 0 Ev.zero).seq), vI ((b.evs.getD 0 Ev.zero).time)]) (h:=by exact Yl.build (vs := [(0, vI ((b.evs.getD 0 Ev.zero).seq)), (1, vI ((b.evs.getD 0 Ev.zero).time))]) rfl kr kr)) fun a Z HM HS => ?_)
 refine s_on Z 11 rfl (e_sa Z HM 0 rfl rfl rfl rfl rfl ⟨kr, kr⟩ rfl rfl (by simp [Value.oneCell']) fun w1_11 HM => ?_)
 refine noS kr ?_
 refine qh kr ?_
 refine Jb Z HM ((JM (.t (.f .n))∘JZ) fun a Z HM => ?_)
 exact ret1 rfl Z (.cellS (i := 0) Z HM rfl rfl ⟨kr, kr⟩ rfl) (⟨by rw [qeg]; rfl, HM.below⟩)
theorem qg6 (x : Nat) (hx : x < 18446744073709551616) (w : World) :
    Calls Tryz.prog 99 #[vQ x] w (zr w (vbytes x)) := by
 refine (JN1 Tryz.func99 5) ?_
 exact (JP∘Jp 1∘Jr∘Jp 1∘JK (h:=by exact fun HM => qrl hx)) fun A4 c4 w4 hc4 => (Jp 1∘Jd2∘Jj∘JZ∘Jz1) fun HM => by exact ⟨⟨_, _, rfl, HM.own (i := 0) rfl, hc4⟩, HM.below⟩
theorem all4 {w : World} {a b c d : Part} (ha : Rd w w.heap.size 1 a.A a.l.length (a.l.map B8)) (hb : Rd w w.heap.size 1 b.A b.l.length (b.l.map B8)) (hc : Rd w w.heap.size 1 c.A c.l.length (c.l.map B8)) (hd : Rd w w.heap.size 1 d.A d.l.length (d.l.map B8)) : ∀ p ∈ [a, b, c, d], Rd w w.heap.size 1 p.A p.l.length (p.l.map B8) := by
 intro p hp
 simp only [List.mem_cons, List.not_mem_nil, or_false] at hp
 rcases hp with rfl | rfl | rfl | rfl
 ·exact ha
 ·exact hb
 ·exact hc
 ·exact hd
theorem qyj (b : Bk) (hok : b.Ok) (A : Option Addr) (c B : Nat) (w : World) (hL : LaidX B w) (hB : B ≤ w.heap.size) (hr : Rd w w.heap.size 11 A b.evs.length (b.evs.flatMap evL)) (hn : b.evs.length ≤ 1000000) (hf : b.fits = true) :
    Calls Tryz.prog 82 #[.agg (b.cells A c)] w (zr w b.body) := by
 have hcpu := hok.cpu
 refine (JN1 Tryz.func82 52) ?_
 refine (JP∘JE) fun w1 g1 => (Jp 1∘Jj∘JQ∘JP∘Jg 0 O0∘Jp 1∘Jd1∘Jj) (Ju (fun hb9 => ?_) fun hb9 => ?_)
 ·
  intro a Z HM
  have hd9 := eq_of_beq hb9
  have hk : b.kind = 2 := by omega
  obtain ⟨n1, n2, n3, n4, n5⟩ := qit hf hk
  exact Jb Z HM ((JT∘JP∘Jg 3 O0∘Jv 1 [(12, vQ (IntKind.u64.wrap b.next))]∘Jo (vQ b.next.toNat) (by exact qcm om om)∘JK (h:=by exact fun HM => qg6 b.next.toNat om _)) fun A13 c13 w13 hc13 => (Jp 1∘Jd3∘Jj∘JZ∘Jz1) fun HM => by exact zr.as ⟨⟨_, _, rfl, HM.own (i := 0) rfl, hc13⟩, HM.below⟩ (by unfold Bk.body; rw [if_pos hk]))
 intro a Z HM
 have hd9 := ne_of_beq_false hb9
 have hk : b.kind ≠ 2 := by omega
 obtain ⟨m0, m1, m2, m3, m4⟩ := qis hf hk
 refine Jb Z HM ((JF∘JS'∘JP∘Jg 1 O0∘Jw .u64∘Jg 2 O0∘Jv 1 [(19, vQ (IntKind.u64.wrap b.lost))]∘Jo (vQ b.lost.toNat) (by exact qcm om om)∘Jg 4 O0∘Jl∘Jw .u64) fun a Z HM => ?_)
 refine fo Z 10 rfl rfl (s_el Z HM qc0 [(0, vQ b.cpu), (1, vQ b.lost.toNat), (2, vQ b.evs.length)] #[vQ b.cpu, vQ b.lost.toNat, vQ b.evs.length] ?_)
 clear Z HM; intro a w24 g24 Z HM
 refine Jb Z HM ((JK (h:=by exact fun HM => qul _ 3 _ [b.cpu, b.lost.toNat, b.evs.length] _ (HM.rdBlk (i := 0) (n := 3) (size := 1) rfl rfl) (by intro x hx; simp only [List.mem_cons, List.not_mem_nil, or_false] at hx; omega) om)) fun A25 c25 w25 hc25 => (Jp 1∘Jd6∘Jj∘JQ∘JP∘Jg 4 O2∘Jl∘Jp 1∘Jd2∘Jj) (Ju (fun hb29 => ?_) fun hb29 => ?_))
 ·
  intro a Z HM
  have hd29 := eq_of_beq hb29
  exact Jb Z HM ((JT∘JP∘Jp 2∘Jd1∘Jj∘JZ∘JM (.t (.f .n))∘Jz1) fun HM => by exact zr.as ⟨⟨_, _, rfl, HM.own (i := 0) rfl, hc25⟩, HM.below⟩ (by unfold Bk.body; rw [if_neg hk, if_pos om]; simp))
 intro a Z HM
 have hd29 := ne_of_beq_false hb29
 have hw := qj5 hok (qcw hf hk).2 om
 obtain ⟨q1, q2, q3, q4⟩ := qlg hok hf hk om
 refine Jb Z HM ((JF∘JS'∘JP∘Jy (v := .agg (b.cells A c)) (h:=by exact Yl.qr rfl rfl si_bk rfl (fun _ h => qb (h.blk (i := 2) rfl)))∘JI (h:=by exact fun HM => qqg b A c _ (HM.old hr) om)) fun w32 hbw => (JA #[vI 0, vI 0]) fun w4 g4 => (JV ⟨kr, kr⟩ O0' (h1:=by exact qp0 b.base)) fun w6_3 => (Jd2∘Jr∘Jy (v := .agg b.base.cells) (h:=by exact Yl.qr rfl rfl ⟨kr, kr⟩ rfl (fun _ h => qb (h.blk (i := 0) rfl)))∘Jg 4 O3∘JK (h:=by exact fun HM => qxp b.base A b.evs.length c b.evs hok.evs B _ (hL.mem HM hB).laid (HM.le hB) (HM.old hr) om hw.1 hw.2)) fun A37 c37 w37 hc37 => (Jp 1∘Jx∘Jx∘Jp 2∘Jt1∘Jj) fun a Z HM => ?_)
 refine wp_seq ?_
 refine Jb Z HM ((Vs .n []) fun wd8 => (Vp [0]∘Vf 1 0∘Vf 5 1∘Vp [9]∘Vc 2 O1∘Vq [3] [(43, vQ (IntKind.u64.wrap b.base.seq))]∘Vo (vQ b.base.seq.toNat) (by exact qcm om om)∘Vc 6 O1∘Vq [7] [(47, vQ (IntKind.u64.wrap b.base.time))]∘Vo (vQ b.base.time.toNat) (by exact qcm om om)∘VK 4 .n (h:=by exact fun HM => qg6 b.base.seq.toNat om _)) fun A44 c44 w44 hc44 => (VK 8 (.f .n) (h:=by exact fun HM => qg6 b.base.time.toNat om _)) fun A48 c48 w48 hc48 => fun a Z HM HS => ?_)
 refine s_on Z 10 rfl (s_el Z HM ei_bb [(0, .slice A25 (([b.cpu, b.lost.toNat, b.evs.length].flatMap vbytes).length) c25), (1, .slice A44 ((vbytes b.base.seq.toNat).length) c44), (2, .slice A48 ((vbytes b.base.time.toNat).length) c48), (3, .slice A37 ((recs b.base b.evs).length) c37)] #[.slice A25 (([b.cpu, b.lost.toNat, b.evs.length].flatMap vbytes).length) c25, .slice A44 ((vbytes b.base.seq.toNat).length) c44, .slice A48 ((vbytes b.base.time.toNat).length) c48, .slice A37 ((recs b.base b.evs).length) c37] ?_)
 clear Z HM; intro a w50 g50 Z HM
 refine keepS (HM.pk [3, 4, 5, 6, 7]) (fun HS => ?_)
 have hps := all4 (a := ⟨A25, c25, [b.cpu, b.lost.toNat, b.evs.length].flatMap vbytes⟩) (b := ⟨A44, c44, vbytes b.base.seq.toNat⟩) (c := ⟨A48, c48, vbytes b.base.time.toNat⟩) (d := ⟨A37, c37, recs b.base b.evs⟩) (HM.rd (i := 5) rfl) (HM.rd (i := 2) rfl) (HM.rd (i := 1) rfl) (HM.rd (i := 3) rfl)
 exact Vb Z HM HS ((VK 11 (.f (.f (.f .n))) (h:=by exact fun HM => (qrn _ 4 _ [⟨A25, c25, [b.cpu, b.lost.toNat, b.evs.length].flatMap vbytes⟩, ⟨A44, c44, vbytes b.base.seq.toNat⟩, ⟨A48, c48, vbytes b.base.time.toNat⟩, ⟨A37, c37, recs b.base b.evs⟩] _ (HM.rdBlk (i := 0) (n := 4) (size := 1) rfl rfl) rfl om hps (by have h1 := qad [b.cpu, b.lost.toNat, b.evs.length]; have h2 := qd b.base.seq.toNat; have h3 := qd b.base.time.toNat; have h4 := qf8 b.evs b.base; simp only [List.flatMap_cons, List.flatMap_nil, List.length_append, List.append_nil, List.length_cons, List.length_nil] at h1 ⊢; omega)).mono (fun _ _ h => h.as (R' := vbytes b.cpu ++ vbytes b.lost.toNat ++ vbytes b.evs.length ++ (vbytes b.base.seq.toNat ++ vbytes b.base.time.toNat ++ recs b.base b.evs)) (by simp)))) fun A51 c51 w51 hc51 => (Vp [12]∘Vd∘Jd6∘JM (.t (.f (.f (.f (.f (.t (.t (.f .n))))))))∘JZ∘Jz1) fun HM => by exact zr.as ⟨⟨_, _, rfl, HM.own (i := 0) rfl, hc51⟩, HM.below⟩ (by unfold Bk.body; rw [if_neg hk, if_neg om]))
end Go.Proofs.YtpklccgmjhikeaaGreatDoor
