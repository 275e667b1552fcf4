/- Parts. -/
import Derived.RangeFuncLeaves
import Derived.IntWalk
import Derived.Lib.AppendZeros
import Derived.ChangeKeysEq
import Derived.Laws.StructEq
import Derived.Deep.AppendSrc
import Derived.Test.YtfeheccoijnbaaaDoorQVarint
import Derived.Test.YtfeheccoijnbaaaDoorRows
import Derived.Test.YtfeheccoijnbaaaDoorQZ1
set_option linter.all false
set_option maxRecDepth 100000
set_option maxHeartbeats 8000000
namespace Go.Proofs.YtfeheccoijnbaaaDoor
open Go.RowKit
section
variable {P : Program} {ops : Array Oper} {Q : Exit → Act → World → Prop} {a : Act} {W w : World} {l n N i d : Nat} {D : List Deferred} {σ σ' : List (Nat × Value)} {K : Act → World → Prop} {fs : List Fact} {o : Oper}
theorem qhl (hQ : ¬ LetsOut Q) : ∀ (os : List Oper), (∀ o ∈ os, ∀ c, o.op ≠ .defer c) → ∀ a w, wpList P ops Q os a w → wpListIn (Fence.wide.inRound l) 0 P ops Q os a w
 | [], _, _, _, h => h
 | o :: os, hos, a, w, h => by
  unfold wpList at h
  unfold wpListIn
  split at h
  ·rename_i hw
   rw [if_pos hw]
   exact qj4 (hos o List.mem_cons_self) hQ (fun a w h => qhl hQ os (fun o ho => hos o (List.mem_cons_of_mem _ ho)) a w h) h
  ·rename_i hw
   rw [if_neg hw]
   exact ⟨fun _ _ => trivial, qhl hQ os (fun o ho => hos o (List.mem_cons_of_mem _ ho)) _ _ h⟩
theorem qbs {id : Nat} (h : qak P ops Q 0 a w) (hd : qgr ops = true := by kernel_rfl) (hQ : ¬ LetsOut Q := by intro ⟨_, _, h⟩; exact h) : (Code.region id ops false).wpIn (Fence.wide.inRound l) 0 P Q a w :=
 wpIn_region_list (qhl hQ _ (fun o ho => by
  obtain ⟨j, hj⟩ := List.mem_iff_getElem?.1 ho
  exact qh4 hd (i := j) (by simpa using hj)) a w (by simpa [qak] using h))
theorem qrw {id : Nat} (HM : Mem W w fs) (fs' : List Fact) (m : Nat) (is ex : List Nat) (h : Mem W w.drew fs → Mem W w.drew fs' → qap P .any ops Q (fun wS => Mem W wS fs') ex ops.size (Array.replicate ops.size false) a w.drew)
  (hm : P.follows .mixedOrders = true := by kernel_rfl) (hn : is.Nodup := by decide) (hlt : (is.all (· < m)) = true := by decide) (he : picks fs is ++ fs.drop m = fs' := by rfl) (hd : qgr ops = true := by kernel_rfl) (hQ : ¬ LetsOut Q := by intro ⟨_, _, h⟩; exact h) : (Code.region id ops true).wpIn (Fence.wide.inRound l) 0 P Q a w :=
 wpIn_region_any hm (qet hd hQ _ _ _ _ (qc2 _ _ _ _ (h HM.drew (HM.drew.picksT m is hn hlt he))))
theorem qmi {F : Fence} {c : Operand} {x y : Code} (HF : Fr a n D σ) (hc : look σ c = some (.bool true)) (h : x.wpIn F 0 P Q a w) : (Code.cond c x y).wpIn F 0 P Q a w := wpIn_cond_true (HF.eval hc) h
theorem qk8 {F : Fence} {c : Operand} {x y : Code} (HF : Fr a n D σ) (hc : look σ c = some (.bool false)) (h : y.wpIn F 0 P Q a w) : (Code.cond c x y).wpIn F 0 P Q a w := wpIn_cond_false (HF.eval hc) h
def qcb (fn : FuncId) (tmps : Array Value) (ps : Array Tmp) (assign body : Code) (D : Nat) (st : LoopState) (pe : Option Code) : Loop := { state := st, pending := pe, fn, tmps, params := ps, assign, body, defers := D }
def roundEnd (W : World) (l : Nat) (rec : LoopState → Option Code → Loop) (R : Ending → World → Prop) : Exit → Act → World → Prop
 | .normal, _, w => ∃ F, Mem W w (.obj l (.loop (rec .busy none)) :: F) ∧ ∀ w', Mem W w' (.obj l (.loop (rec .ready none)) :: F) → R (.returned (.bool true)) w'
 | .ret, _, w => ∃ F, Mem W w (.obj l (.loop (rec .busy none)) :: F) ∧ ∀ w', Mem W w' (.obj l (.loop (rec .done (some .ret))) :: F) → R (.returned (.bool false)) w'
 | .exit id, _, w => ∃ F, Mem W w (.obj l (.loop (rec .busy none)) :: F) ∧ ∀ w', Mem W w' (.obj l (.loop (rec .done (some (.exit id)))) :: F) → R (.returned (.bool false)) w'
 | _, _, _ => False
theorem qmj {fn : FuncId} {tmps : Array Value} {ps : Array Tmp} {assign body : Code} {B : Nat} {args : Array Value} {F : List Fact} {R : Ending → World → Prop} (HM : Mem W w (.obj l (.loop (qcb fn tmps ps assign body B .ready none)) :: F)) (hs : args.size = ps.size)
  (h : assign.wpIn (Fence.wide.inRound l) 0 P (Exit.then (fun a1 w1 => ∃ F1, Mem W w1 (.obj l (.loop (qcb fn tmps ps assign body B .ready none)) :: F1) ∧ ∀ w2, Mem W w2 (.obj l (.loop (qcb fn tmps ps assign body B .busy none)) :: F1) → body.wpIn (Fence.wide.inRound l) 0 P (roundEnd W l (qcb fn tmps ps assign body B) R) a1 w2) (fun _ _ _ => False))
   { tmps := (ps.zip args).foldl (fun t (p, v) => t.setIfInBounds p v) tmps, defers := [] } w) : YieldAt Fence.wide 0 P l args w R := by
 have hl := HM.objAt (i := 0) rfl
 refine ⟨fn, _, assign, body, run_yield hl hs, roundIn_of_wpIn trivial (wpIn_mono h ?_)⟩
 rintro e a1 w1 hq
 cases e with
 | normal =>
  obtain ⟨F1, h1, h2⟩ := hq
  refine ⟨_, run_beginRound (h1.objAt (i := 0) rfl) rfl, ?_⟩
  refine wpIn_mono (h2 _ (h1.setObj (i := 0) rfl _)) ?_
  rintro e a2 w2 hq
  cases e with
  | normal =>
   obtain ⟨F2, h3, h4⟩ := hq
   exact ⟨_, _, run_endRound none (h3.objAt (i := 0) rfl), h4 _ (h3.setObj (i := 0) rfl _)⟩
  | ret =>
   obtain ⟨F2, h3, h4⟩ := hq
   exact ⟨_, _, run_endRound (some .ret) (h3.objAt (i := 0) rfl), h4 _ (h3.setObj (i := 0) rfl _)⟩
  | exit id =>
   obtain ⟨F2, h3, h4⟩ := hq
   exact ⟨_, _, run_endRound (some (.exit id)) (h3.objAt (i := 0) rfl), h4 _ (h3.setObj (i := 0) rfl _)⟩
  | goto t => exact hq.elim
  | panic c => exact hq.elim
  | outgrown => exact hq.elim
 | exit id => exact hq.elim
 | goto t => exact hq.elim
 | ret => exact hq.elim
 | panic c => exact hq.elim
 | outgrown => exact hq.elim
theorem Fr.zip2 {tmps : Array Value} {p1 p2 : Nat} {v1 v2 : Value} (h : Fr { tmps := tmps, defers := [] } n D σ) (h1 : p1 < n) (h2 : p2 < n) : Fr { tmps := (#[p1, p2].zip #[v1, v2]).foldl (fun t (p, v) => t.setIfInBounds p v) tmps, defers := [] } n D ((p2, v2) :: (p1, v1) :: σ) := by
 have h3 := (h.put h1 v1).put h2 v2
 simpa [Act.put] using h3
theorem qk9 {rec : LoopState → Option Code → Loop} {assign body : Code} {B p1 p2 : Nat} {v1 v2 : Value} {F : List Fact} {R : Ending → World → Prop} (hrec : ∃ fn tmps, rec = qcb fn tmps #[p1, p2] assign body B ∧ Fr { tmps := tmps, defers := [] } n [] σ) (HM : Mem W w (.obj l (.loop (rec .ready none)) :: F)) (h1 : p1 < n) (h2 : p2 < n)
  (h : ∀ a, Fr a n [] ((p2, v2) :: (p1, v1) :: σ) → assign.wpIn (Fence.wide.inRound l) 0 P (Exit.then (fun a1 w1 => ∃ F1, Mem W w1 (.obj l (.loop (rec .ready none)) :: F1) ∧ ∀ w2, Mem W w2 (.obj l (.loop (rec .busy none)) :: F1) → body.wpIn (Fence.wide.inRound l) 0 P (roundEnd W l rec R) a1 w2) (fun _ _ _ => False)) a w) : YieldAt Fence.wide 0 P l #[v1, v2] w R := by
 obtain ⟨fn, tmps, rfl, HF⟩ := hrec
 exact qmj HM rfl (h _ (HF.zip2 h1 h2))
theorem qnp {a : Act} {w : World} {K K' : Act → World → Prop} (hQ : ¬ LetsOut Q) (hK : ∀ a w, K a w → K' a w) (h : o.wp P a w K Q ∨ (o.asks P a w ∧ LetsOut Q)) : o.wpIn Fence.wide 0 P a w K' Q := by
 rcases h with h | h
 ·refine ⟨fun _ _ => trivial, ?_⟩
  rw [show Fence.wide.round = none from rfl, Oper.semAt_none]
  unfold Oper.wp at h
  generalize (execOp a.eval o).run P w = r at h
  cases r with
  | ok x w' =>
   cases x with
   | value v => exact hK _ _ h
   | skip => exact hK _ _ h
   | defer d => exact hK _ _ h
   | enter f args =>
    refine ⟨fun h => by simp [Fence.wide] at h, ?_⟩
    show CallsIn Fence.wide 0 P f args w' _
    refine (callsIn_wide.2 h).mono ?_
    intro e w'' he
    cases e with
    | returned v => exact hK _ _ he
    | panicked c => exact he
    | outgrown => exact he
   | row r args =>
    refine ⟨fun h => by simp [Fence.wide] at h, fun c cs _ => ?_⟩
    obtain ⟨v, w'', h1, h2⟩ := (h : Rows P r args w' _) c cs
    exact ⟨v, w'', hK _ _ h1, stepsIn_wide.2 h2⟩
   | _ => exact (h : False).elim
  | halt hh w' =>
   cases hh with
   | panic v => exact h
   | _ => exact (h : False).elim
 ·exact absurd h.2 hQ
theorem qjp (hQ : ¬ LetsOut Q) : ∀ (os : List Oper) (a : Act) (w : World), wpList P ops Q os a w → wpListIn Fence.wide 0 P ops Q os a w
 | [], _, _, h => h
 | o :: os, a, w, h => by
  unfold wpList at h
  unfold wpListIn
  split at h
  ·rename_i hw
   rw [if_pos hw]
   exact qnp hQ (fun a w h => qjp hQ os a w h) h
  ·rename_i hw
   rw [if_neg hw]
   exact ⟨fun _ _ => trivial, qjp hQ os _ _ h⟩
theorem qla {pre : Array Oper} (hQ : ¬ LetsOut Q) (K : Act → World → Prop) (os2 : List Oper) (hK : ∀ a w, K a w → wpListIn Fence.wide 0 P ops Q os2 a w) : ∀ (os : List Oper), (∀ o ∈ os, o.guard = none) → ∀ a w, wpList P pre (Exit.then K Q) os a w → wpListIn Fence.wide 0 P ops Q (os ++ os2) a w
 | [], _, a, w, h => hK a w h
 | o :: os, hg, a, w, h => by
  have h1 : ∀ x, Region.wanted o x = true := fun x => by unfold Region.wanted; rw [hg o List.mem_cons_self]
  unfold wpList at h
  rw [if_pos (h1 _)] at h
  show if Region.wanted o (yielded ops a.tmps) = true then _ else _
  rw [if_pos (h1 _)]
  have h2 := qnp (Q := Exit.then K Q) (K' := wpListIn Fence.wide 0 P ops Q (os ++ os2)) (fun ⟨a, w, h⟩ => hQ ⟨a, w, h⟩) (fun a w h => qla hQ K os2 hK os (fun o ho => hg o (List.mem_cons_of_mem _ ho)) a w h) h
  refine ⟨h2.1, ?_⟩
  have h3 := h2.2
  generalize (o.semAt Fence.wide.round a.eval).run P w = r at h3
  cases r with
  | ok x w' =>
   cases x with
   | enter f args =>
    refine ⟨h3.1, h3.2.mono ?_⟩
    intro e w'' he
    cases e with
    | returned v => exact he
    | panicked c => exact he
    | outgrown => exact he
   | round l f tmps assign body =>
    refine ⟨h3.1, h3.2.mono ?_⟩
    intro e w'' he
    cases e with
    | returned v => exact he
    | panicked c => exact he
    | outgrown => exact he
   | _ => exact h3
  | halt hh w' =>
   cases hh with
   | panic v => exact h3
   | _ => exact h3
theorem qlb {id i : Nat} (h : qak P (ops.toList.take i).toArray (Exit.then (fun a w => ∃ o, ops[i]? = some o ∧ o.guard = none ∧ o.wpIn Fence.wide 0 P a w (wpListIn Fence.wide 0 P ops Q (ops.toList.drop (i + 1))) Q) Q) 0 a w) (hg : ((ops.toList.take i).all fun o => o.guard.isNone) = true := by kernel_rfl) (hQ : ¬ LetsOut Q := by intro ⟨_, _, h⟩; obtain ⟨_, h, _⟩ := h; cases h) : (Code.region id ops false).wp P Q a w := by
 refine wpIn_wide.1 (wpIn_region_list (n := 0) ?_)
 have h0 : wpList P (ops.toList.take i).toArray (Exit.then (fun a w => ∃ o, ops[i]? = some o ∧ o.guard = none ∧ o.wpIn Fence.wide 0 P a w (wpListIn Fence.wide 0 P ops Q (ops.toList.drop (i + 1))) Q) Q) (ops.toList.take i) a w := by simpa [qak] using h
 have h1 := qla (ops := ops) hQ _ (ops.toList.drop i) (fun a w ⟨o, ho, hn, h⟩ => by
  obtain ⟨hl, he⟩ := Array.getElem?_eq_some_iff.1 ho
  rw [List.drop_eq_getElem_cons (by simpa using hl), Array.getElem_toList, he]
  unfold wpListIn
  rw [if_pos (by unfold Region.wanted; rw [hn])]
  exact h) (ops.toList.take i) (fun o ho => by
  have := List.all_eq_true.1 hg o ho
  simpa using this) a w h0
 rwa [List.take_append_drop] at h1
theorem Mem.qvl {r : Fact} {es F : List Fact} (h : Mem W w (r :: (es ++ F))) : Mem W w (r :: (F ++ es)) := h.perm (List.Perm.cons _ List.perm_append_comm)
theorem Mem.qsg {es F : List Fact} (h : Mem W w (F ++ es)) : Mem W w (es ++ F) := h.perm List.perm_append_comm
theorem Mem.qnu (es : List Fact) {F : List Fact} (h : Mem W w (es ++ F)) : Mem W w F := h.subl (List.sublist_append_right es F)
theorem qtp (HF : Fr a n D σ) {fo : Operand} {xs : Array Operand} {ts : Array TypeId} {vs : List Value} {R : Ending → World → Prop} (ho : ops[i]? = some o) (hn : o.guard = none) (hop : o.op = .call { callee := .value fo, args := xs, argTypes := ts }) (hfo : look σ fo = some (.func (.yield l) #[] #[])) (hv : looks σ xs.toList = some vs) (hd : o.dst = some d) (hdn : d < n)
  (hy : YieldAt Fence.wide 0 P l vs.toArray w R) (hR : ∀ e w', R e w' → ∃ v, e = .returned v) (k : ∀ v w' a', R (.returned v) w' → Fr a' n D ((d, v) :: σ) → qak P ops Q (i + 1) a' w') (hQ : ¬ LetsOut Q := by intro ⟨_, _, h⟩; obtain ⟨_, h, _⟩ := h; cases h) :
  ∃ o, ops[i]? = some o ∧ o.guard = none ∧ o.wpIn Fence.wide 0 P a w (wpListIn Fence.wide 0 P ops Q (ops.toList.drop (i + 1))) Q := by
 refine ⟨o, ho, hn, fun _ _ => trivial, ?_⟩
 have e1 : xs.map a.eval = vs.toArray := by
  have := qcr HF hv
  rw [← this, ← Array.toList_map, Array.toArray_toList]
 obtain ⟨fn, tmps, assign, body, h1, h2⟩ := hy
 rw [show Fence.wide.round = none from rfl, Oper.semAt_none]
 unfold execOp
 simp only [hop, resolve, HF.eval hfo, Deferred.ofValue, invoke, Sem.run_bind, Sem.run_pure, Result.andThen_ok]
 have e2 : (#[] : Array Value) ++ Array.map a.eval xs ++ #[] = vs.toArray := by simp [e1]
 show Oper.uponIn Fence.wide 0 P o a _ Q ((Instr.yield l (#[] ++ Array.map a.eval xs ++ #[])).run P w)
 rw [e2, h1]
 refine ⟨fun h => by simp [Fence.wide] at h, h2.mono ?_⟩
 intro e w' he
 obtain ⟨v, rfl⟩ := hR e w' he
 show wpListIn Fence.wide 0 P ops Q (ops.toList.drop (i + 1)) (a.put o.dst v) w'
 rw [hd]
 exact qjp hQ _ _ _ (k v w' _ he (HF.put hdn v))
theorem qwi {g : Operand} {ps : Array Tmp} {assign body : Code} {gf : Nat} {caps : List Value} (HF : Fr a n [] σ) (HM : Mem W w fs) (J : List Fact → Prop) (X : Code → List Fact → Prop) (hg : look σ g = some (.func (.func gf) #[] caps.toArray)) (hcl : callable P gf = true)
  (hit : ∀ (l B : Nat) (rec : LoopState → Option Code → Loop) (w1 : World), (∃ fn tmps, rec = qcb fn tmps ps assign body B ∧ Fr { tmps := tmps, defers := [] } n [] σ) → Mem W w1 (.obj l (.loop (rec .ready none)) :: .obj B (.deferred (some [])) :: fs) →
   Calls P gf (.func (.yield l) #[] #[] :: caps).toArray w1 fun r w' => ∃ v, r = .returned v ∧ ((∃ F, J F ∧ Mem W w' (.obj l (.loop (rec .ready none)) :: .obj B (.deferred (some [])) :: F)) ∨ ∃ c F, X c F ∧ Mem W w' (.obj l (.loop (rec .done (some c))) :: .obj B (.deferred (some [])) :: F)))
  (hdone : ∀ (B : Nat) (a' : Act) (w' : World) (F : List Fact), J F → Fr a' n [{ target := .collected B, args := #[] }] σ → Mem W w' (.obj B (.deferred (some [])) :: F) → Q .normal a' w')
  (hstop : ∀ (c : Code) (B : Nat) (a' : Act) (w' : World) (F : List Fact), X c F → Fr a' n [{ target := .collected B, args := #[] }] σ → Mem W w' (.obj B (.deferred (some [])) :: F) → c.wp P Q a' w') :
  (Code.rangeFunc g ps assign body).wp P Q a w := by
 refine (wpIn_wide (n := 0)).1 (wpIn_rangeFunc ?_)
 intro fn _
 show ∃ l mark w₁ d w₁' f args w₂, (Instr.enterLoop fn a.tmps ps assign body none).run P w = .ok (l, mark) w₁ ∧ _
 have h1 := (HM.allocObj (.deferred (some []))).allocObj (.loop (qcb fn a.tmps ps assign body w.heap.size .ready none))
 rw [World.size_alloc] at h1
 have HF1 : Fr { tmps := a.tmps, defers := [] } n [] σ := ⟨HF.size, rfl, HF.slot⟩
 have HF2 : Fr { a with defers := { target := .collected w.heap.size, args := #[] } :: a.defers } n [{ target := .collected w.heap.size, args := #[] }] σ := ⟨HF.size, by show _ :: a.defers = _; rw [HF.defers], HF.slot⟩
 have hE : (Instr.enterLoop fn a.tmps ps assign body none).run P w = .ok (w.heap.size + 1, [{ target := .collected w.heap.size, args := #[] }]) ((w.alloc (.deferred (some []))).alloc (.loop (qcb fn a.tmps ps assign body w.heap.size .ready none))) := run_enterLoop_outer _ _ _ _ _
 generalize (w.alloc (.deferred (some []))).alloc (.loop (qcb fn a.tmps ps assign body w.heap.size .ready none)) = W1 at h1 hE
 refine ⟨w.heap.size + 1, [{ target := .collected w.heap.size, args := #[] }], W1, { target := .fn (.func gf) caps.toArray, args := #[.func (.yield (w.heap.size + 1)) #[] #[]] }, W1, gf, #[.func (.yield (w.heap.size + 1)) #[] #[]] ++ caps.toArray, W1, hE, ?_, fun _ _ => trivial, ?_, fun h => by simp [Fence.wide] at h, ?_⟩
 ·simp only [resolve, HF.eval hg]
  simp [go_sem]
 ·simp [invoke, go_sem, qdk hcl]
 ·have e : (#[.func (.yield (w.heap.size + 1)) #[] #[]] ++ caps.toArray : Array Value) = (.func (.yield (w.heap.size + 1)) #[] #[] :: caps).toArray := by simp
  rw [e]
  refine callsIn_wide.2 ((hit _ _ _ _ ⟨fn, a.tmps, rfl, HF1⟩ h1).mono ?_)
  rintro e w' ⟨v, rfl, (⟨F, hJ, hM⟩ | ⟨c, F, hX, hM⟩)⟩
  ·have h2 := run_endLoop (P := P) (hM.objAt (i := 0) rfl) (by simp [qcb])
   exact ⟨none, _, h2, hdone _ _ _ F hJ HF2 (hM.setObj (i := 0) rfl _).tail⟩
  ·have h2 := run_endLoop (P := P) (hM.objAt (i := 0) rfl) (by simp [qcb])
   exact ⟨some c, _, h2, wpIn_wide.2 (hstop c _ _ _ F hX HF2 (hM.setObj (i := 0) rfl _).tail)⟩
def bodyM (P : Program) (fn : Func) (R : Ending → World → Prop) : Exit → Act → World → Prop
 | .normal, a, w | .ret, a, w => LeavesInM Fence.wide 0 P fn a.tmps R a.defers .returning w
 | _, _, _ => False
theorem qjq {f N : Nat} {fn : Func} {c : Code} {vs : List Value} {R : Ending → World → Prop} (hf : P.funcs[f]? = some fn) (hb : fn.body = some c) (hn : fn.ntmps = N) (hl : decide (vs.length ≤ N) = true) {σ0 : List (Nat × Value)} (h0 : qex 0 vs = σ0)
  (k : ∀ a, Fr a N [] σ0 → c.wp P (bodyM P fn R) a w) : Calls P f vs.toArray w R := by
 subst h0
 rw [decide_eq_true_eq] at hl
 refine (callsIn_wide (n := 0)).1 (callsIn_of_wp_marks hf hb trivial (wpIn_wide.2 (Code.wp_mono (fun e a w h => by cases e <;> first | exact h | exact (h : False).elim) (k _ ⟨by simp [hn]; omega, rfl, fun t v hv => ?_⟩))) rfl)
 obtain ⟨_, h1⟩ := qdl vs 0 t v hv
 rw [Nat.sub_zero] at h1
 have hlt := (List.getElem?_eq_some_iff.1 h1).1
 simp only [Array.getD_eq_getD_getElem?, Array.getElem?_append, List.size_toArray, if_pos hlt]
 simp [h1]
section
variable {fn : Func} {R : Ending → World → Prop}
theorem qwj (h : bodyPost P fn R .ret a w) : bodyM P fn R .ret a w := by
 obtain ⟨hd, v, hr, hR⟩ := h
 show LeavesInM Fence.wide 0 P fn a.tmps R a.defers .returning w
 rw [hd]
 exact ⟨v, hr, hR⟩
theorem qrx {B : Nat} (HF : Fr a n [{ target := .collected B, args := #[] }] σ) (HM : Mem W w fs) (hi : fs[i]? = some (.obj B (.deferred (some [])))) (h : ∀ (a' : Act) (w' : World), Fr a' n [] σ → Mem W w' (fs.set i (.obj B (.deferred none))) → bodyPost P fn R .ret a' w') : bodyM P fn R .ret a w := by
 obtain ⟨_, v, hr, hR⟩ := h { tmps := a.tmps, defers := [] } _ ⟨HF.size, rfl, HF.slot⟩ (HM.setObj hi (.deferred none))
 show LeavesInM Fence.wide 0 P fn a.tmps R a.defers .returning w
 rw [HF.defers]
 exact ⟨fun h => (nomatch h), .inl ⟨B, _, rfl, run_takeDeferred (HM.objAt hi), v, hr, hR⟩⟩
theorem ret0 (hr : fn.results = #[]) (HF : Fr a n [] σ) (hR : R (.returned (.tuple #[])) w) : bodyPost P fn R .ret a w :=
 bodyPost_ret (v := .tuple #[]) (by
  rw [qc5, hr]
  simp) HF.defers hR
theorem norm0 (hr : fn.results = #[]) (HF : Fr a n [] σ) (hR : R (.returned (.tuple #[])) w) : bodyPost P fn R .normal a w := ret0 hr HF hR
end
end
theorem Yl.str {S : World → Prop} {σ : List (Nat × Value)} {o : Oper} {x : Operand} {A : Option Addr} {n c : Nat} {l : List Nat} (hop : o.op = .convert 54 9 x) (hx : look σ x = some (.slice A n c)) (hr : ∀ w, S w → Rd w w.heap.size 1 A n (l.map B8)) : Yl Tryd.prog S σ o (.string (bstr l)) := fun a m D HF w hS => by
 unfold execOp
 simp [hop, HF.eval hx, qus (hr w hS)]
theorem qbp (l : List Nat) : ∀ u ∈ l.map B8, u.oneCell' = true := by
 intro u hu
 obtain ⟨x, _, rfl⟩ := List.mem_map.1 hu
 rfl
theorem Rd.qnt {w : World} {B n k cap : Nat} {A : Option Addr} {l : List Nat} (h : Rd w B 1 A n (l.map B8)) (hk : k ≤ n) (hc : n ≤ cap) : Rd w B 1 (if cap = k then A else A.map (·.add (k * 1))) (n - k) ((l.drop k).map B8) := by
 have h1 := h.from hk hc
 rw [List.map_drop]
 have e : (l.map B8).drop (k * 1) = (l.map B8).drop k := by rw [Nat.mul_one]
 rw [← e]
 exact h1
theorem Laid.mem {B : Nat} {W w : World} {fs : List Fact} (h : Laid B W) (hM : Mem W w fs) (hB : B ≤ W.heap.size) : Laid B w := h.below hM.below hB
theorem Mem.le {W w : World} {fs : List Fact} (h : Mem W w fs) {B : Nat} (hB : B ≤ W.heap.size) : B ≤ w.heap.size := Nat.le_trans hB h.size
theorem qf8 {x : Int} (h : -9223372036854775808 ≤ x ∧ x ≤ 9223372036854775807) : Value.int .i64 (IntKind.i64.wrap x) = .int .i64 x := by rw [IntWalk.i64_in x h]
def qar (w : World) (er : Nat) (R : List Nat) (r : Ending) (w' : World) : Prop :=
 (∃ A c, r = .returned (.tuple #[.slice A R.length c, .int .i64 (er : Int)]) ∧ w'.ownsRow w.heap.size 5 1 (.slice A R.length c) R.length (R.map B8) ∧ R.length ≤ c) ∧ Below w.heap.size w w'
theorem BytesPost.is {w w' : World} {r : Ending} {er er' : Nat} {R R' : List Nat} (h : BytesPost w er R r w') (h1 : er = er') (h2 : R = R') : qar w er' R' r w' := by
 subst h1; subst h2
 obtain ⟨⟨v, rfl, ho⟩, hb⟩ := h
 obtain ⟨A, c, rfl, hc⟩ := qa6 ho
 exact ⟨⟨A, c, rfl, ho, hc⟩, hb⟩
theorem qsu (b : Bs) (A : Option Addr) (n c : Nat) (l : List Ev) (hok : ∀ e ∈ l, e.Ok) (B : Nat) (w : World) (hL : Laid B w) (hB : B ≤ w.heap.size) (hr : Rd w w.heap.size 11 A n (l.flatMap evL)) (hn : n ≤ 1000000000000) {er : Nat} {R : List Nat} (h1 : qv b l = er) (h2 : zi b l = R) :
  Calls Tryd.prog 64 #[.agg b.cells, .slice A n c] w (qar w er R) :=
 (qpz b A n c l hok B w hL hB hr hn).mono fun _ _ h => h.is h1 h2
section
variable {P : Program} {S : World → Prop} {σ : List (Nat × Value)} {o : Oper} {t e : TypeId} {z : Value} {size bytes : Nat}
theorem Yl.sliceFrom (ei : EI P t e z size bytes) {x lo : Operand} {A : Option Addr} {m c j : Nat} {k : IntKind} (hop : o.op = .slice t x (some lo) none none) (hx : look σ x = some (.slice A m c)) (hl : look σ lo = some (.int k (j : Int))) (hj : j ≤ m) :
  Yl P S σ o (.slice (if c = j then A else A.map (·.add (j * size))) (m - j) (c - j)) := fun a n D HF w hS => by
 unfold execOp
 simp only [hop, HF.eval hx, HF.eval hl, Option.map_some, Option.map_none, Sem.run_bind, Sem.run_pure, qec (P := P) ei hj, Result.andThen_ok]
theorem Yl.qcc (ei : EI P t e z size bytes) {x hi : Operand} {A : Option Addr} {m c j : Nat} {k : IntKind} (hop : o.op = .slice t x none (some hi) none) (hx : look σ x = some (.slice A m c)) (hl : look σ hi = some (.int k (j : Int))) (hj : j ≤ c) :
  Yl P S σ o (.slice A j c) := fun a n D HF w hS => by
 unfold execOp
 simp only [hop, HF.eval hx, HF.eval hl, Option.map_some, Option.map_none, Sem.run_bind, Sem.run_pure, qhu (P := P) ei hj, Result.andThen_ok]
end
section
variable {P : Program} {S : World → Prop} {σ : List (Nat × Value)} {o : Oper}
def placesOf (P : Program) : List Field → Option (List (Nat × Nat))
 | [] => some []
 | f :: r => match P.info? f.type, placesOf P r with
  | some i, some l => some ((f.offset, i.size) :: l)
  | _, _ => none
theorem qf9 : ∀ {fs : List Field} {l : List (Nat × Nat)}, placesOf P fs = some l → ∀ w, (fs.mapM fun f => (do pure (f.offset, ← sizeOf f.type) : Sem (Nat × Nat))).run P w = .ok l w
 | [], l, h, w => by cases h; rfl
 | f :: r, l, h, w => by
  unfold placesOf at h
  split at h
  ·rename_i i l' hi hr
   injection h with h
   subst h
   simp [List.mapM_cons, sizeOf, typeInfo, hi]
   have := qf9 hr w
   simp [sizeOf, typeInfo] at this
   simp [this]
  ·cases h
def qia (P : Program) (t : TypeId) (vs : List (Nat × Value)) : Option (Array Value) := match P.underlying t, qdw P t with
 | some (.struct fs), some z => match placesOf P fs.toList with
  | some l => Instr.fill (l.toArray[·]?) z vs
  | none => none
 | _, _ => none
theorem Yl.build {t : TypeId} {ps : Array (Nat × Operand)} {vs : List (Nat × Value)} {cs : Array Value} (hop : o.op = .build t ps) (hv : qdx σ ps.toList = some vs) (hb : qia P t vs = some cs) : Yl P S σ o (.agg cs) := fun a n D HF w hS => by
 have hpm := qf7 HF hv
 have e1 : (Instr.build t (ps.map fun p => (p.1, a.eval p.2))).run P w = .ok (.agg cs) w := by
  rw [hpm]
  unfold qia at hb
  split at hb
  ·rename_i fs z hu hz
   split at hb
   ·rename_i l hl
    unfold qdw at hz
    obtain ⟨zv, hz1, rfl⟩ := Option.map_eq_some_iff.1 hz
    obtain ⟨i, hi, hz2⟩ := Option.bind_eq_some_iff.1 hz1
    have hm : (fs.mapM fun f => (do Pure.pure (f.offset, ← sizeOf f.type) : Sem (Nat × Nat))).run P w = .ok l.toArray w := by
     rw [← Array.toArray_toList (xs := fs), List.mapM_toArray]
     simp only [Sem.run_map, qf9 hl]
     rfl
    unfold Instr.build
    simp only [Sem.run_bind, zeroValue, typeInfo, program, Sem.run, hi, hz2, Sem.run_pure, Result.andThen_ok, run_underlying hu, hm, hb]
   ·cases hb
  ·cases hb
 unfold execOp
 simp only [hop, Sem.run_bind, Sem.run_pure]
 show ((Instr.build t (ps.map fun p => (p.1, a.eval p.2))).run P w).andThen _ = _
 rw [e1]
 rfl
end
theorem qbl {w : World} {base : Nat} {e : TypeId} {size n c : Nat} {A : Option Addr} {xs : List Value} (h : w.ownsRow base e size (.slice A n c) n xs) (hn : 0 < n) : ∃ g, A = some ⟨g, 0, none⟩ := by
 obtain ⟨g, c', h1, _⟩ := qv1 h hn
 injection h1 with h1 _ _
 exact ⟨g, h1⟩
theorem Mem.qsd {W w : World} {fs : List Fact} (h : Mem W w fs) {α : Type} {f : α → List Value} {sz : Nat} (hf : ∀ x, (f x).length = sz) {i g m c : Nat} {e : TypeId} {l : List α} (hi : fs[i]? = some (.row (.slice (some ⟨g, 0, none⟩) m c) m (l.flatMap f) e sz)) {k : Nat} {x : α} (hk : l[k]? = some x) : w.rangeAt g (k * sz) (f x) :=
 h.qjs hi (k * sz) fun j u hu => by
  obtain ⟨hl, he⟩ := List.getElem?_eq_some_iff.1 hk
  have hj : j < sz := by have := (List.getElem?_eq_some_iff.1 hu).1; rwa [hf] at this
  rw [qek f sz hf l k j hl hj, he]
  exact hu
theorem qt6 (A : Option Addr) (n c : Nat) (l : List Ev) (hok : ∀ e ∈ l, e.Ok) (B : Nat) (w : World) (hL : Laid B w) (hB : B ≤ w.heap.size) (hr : Rd w w.heap.size 11 A n (l.flatMap evL)) (hn : n ≤ 140737488355328) {i : Int} {er : Nat} (h : rowR l = (i, er)) :
  Calls Tryd.prog 55 #[.slice A n c] w fun r w' => r = .returned (.tuple #[.int .i64 i, .int .i64 (er : Int)]) ∧ Below w.heap.size w w' :=
 (qfk A n c l hok B w hL hB hr hn).mono fun _ _ p => ⟨by rw [p.ret, h], p.below⟩
theorem qux (b : Bs) (e : Ev) (he : e.Ok) (B : Nat) (w : World) (hL : Laid B w) (hB : B ≤ w.heap.size) {L er : Nat} (h1 : (zy b e).length = L) (h2 : qx b e = er) :
  Calls Tryd.prog 58 #[.agg b.cells, .agg e.cells] w fun r w' => r = .returned (.tuple #[.int .i64 (L : Int), .int .i64 (er : Int)]) ∧ Below w.heap.size w w' :=
 (qso b e he B w hL hB).mono fun _ _ p => ⟨by rw [p.1, h1, h2], p.2⟩
theorem quy (b : Bs) (cpu : Nat) (hcpu : cpu < 256) (A : Option Addr) (n c : Nat) (m : Int) (hm : I64 m) (l : List Nat) (B : Nat) (w : World) (hL : Laid B w) (hB : B ≤ w.heap.size) (hr : Rd w w.heap.size 1 A n (l.map B8)) (hc : n ≤ c) (hl : ∀ b ∈ l, b < 256) (hn : n ≤ 200000000000000) (hlim : qp1 m l) {es : List Ev} {L er : Nat} (h : readR b cpu m l = (es, L, er)) :
  Calls Tryd.prog 84 #[.agg b.cells, .int .u8 (cpu : Int), .int .i64 m, .slice A n c] w fun r w' => (∃ A c, r = .returned (.tuple #[.slice A es.length c, .int .i64 (L : Int), .int .i64 (er : Int)]) ∧ w'.ownsRow w.heap.size 45 11 (.slice A es.length c) es.length (es.flatMap evL) ∧ es.length ≤ c) ∧ Below w.heap.size w w' :=
 (qp2 b cpu hcpu A n c m hm l B w hL hB hr hc hl hn hlim).mono fun r w' p => by
  rw [h] at p
  obtain ⟨⟨v, rfl, ho⟩, hb⟩ := p
  obtain ⟨A, c, rfl, hc⟩ := qa6 ho
  exact ⟨⟨A, c, rfl, ho, hc⟩, hb⟩
section
variable {P : Program} {S : World → Prop} {σ : List (Nat × Value)} {o : Oper} {v : Value}
def qfr (P : Program) (t : TypeId) : Bool := match P.underlying t with
 | some (.func _ _ _) => true
 | _ => false
theorem qn6 {t : TypeId} {f : Fn} {xs ys : Array Value} (ht : qfr P t = true) (w : World) : (Op.equal t (.func f xs ys) .nilFunc).run P w = .ok false w := by
 unfold qfr at ht
 split at ht
 ·rename_i hu
  show (Op.equalIn (9999 + 1) t (.func f xs ys) .nilFunc).run P w = _
  unfold Op.equalIn
  simp only [Sem.run_bind, run_underlying hu, Result.andThen_ok]
  rfl
 ·cases ht
theorem qqg {t : TypeId} (ht : qfr P t = true) (w : World) : (Op.equal t .nilFunc .nilFunc).run P w = .ok true w := by
 unfold qfr at ht
 split at ht
 ·rename_i hu
  show (Op.equalIn (9999 + 1) t .nilFunc .nilFunc).run P w = _
  unfold Op.equalIn
  simp only [Sem.run_bind, run_underlying hu, Result.andThen_ok]
  rfl
 ·cases ht
theorem Yl.qse {t u : TypeId} {x y : Operand} {f : Fn} {xs ys : Array Value} (hop : o.op = .binOp .neq t x y u) (hx : look σ x = some (.func f xs ys)) (hy : look σ y = some .nilFunc) (ht : qfr P t = true) : Yl P S σ o (.bool true) := fun a n D HF w hS => by
 unfold execOp
 have e : (binOp .neq t (.func f xs ys) .nilFunc).run P w = .ok (.bool true) w := by
  show ((do Pure.pure (.bool (!(← Op.equal t (.func f xs ys) .nilFunc))) : Sem Value)).run P w = _
  simp [qn6 ht]
 simp only [hop, HF.eval hx, HF.eval hy, Sem.run_bind, qbd (P := P) .neq t x y (a := .func f xs ys) rfl, Result.andThen_ok, e, Sem.run_pure]
theorem Yl.qwp {t u : TypeId} {x y : Operand} (hop : o.op = .binOp .neq t x y u) (hx : look σ x = some .nilFunc) (hy : look σ y = some .nilFunc) (ht : qfr P t = true) : Yl P S σ o (.bool false) := fun a n D HF w hS => by
 unfold execOp
 have e : (binOp .neq t .nilFunc .nilFunc).run P w = .ok (.bool false) w := by
  show ((do Pure.pure (.bool (!(← Op.equal t .nilFunc .nilFunc))) : Sem Value)).run P w = _
  simp [qqg ht]
 simp only [hop, HF.eval hx, HF.eval hy, Sem.run_bind, qbd (P := P) .neq t x y (a := .nilFunc) rfl, Result.andThen_ok, e, Sem.run_pure]
theorem Yl.qwq {t : TypeId} {x : Operand} {m : Nat} (hop : o.op = .unOp .xor t x) (hx : look σ x = some (.int .u32 (m : Int))) (hm : m < 4294967296) : Yl P S σ o (.int .u32 ((m ^^^ 4294967295 : Nat) : Int)) := fun a n D HF w hS => by
 have h1 := qjc (m := 4294967295) (n := m) (by decide) hm
 rw [Nat.xor_comm] at h1
 unfold execOp
 simp only [hop, HF.eval hx, Op.unary]
 rw [← h1]
 rfl
def qqh (P : Program) (t : TypeId) : Option (Nat × Nat) := match P.underlying t with
 | some (.array n e) => (P.info? e).map fun i => (n, i.size)
 | _ => none
theorem Yl.qea {t : TypeId} {x ix : Operand} {ad : Addr} {m y sz : Nat} {k : IntKind} (hop : o.op = .indexAddr t x ix) (hx : look σ x = some (.pointer (some ad))) (hi : look σ ix = some (.int k (y : Int))) (he : qqh P t = some (m, sz)) (hy : y < m) : Yl P S σ o (.pointer (some (ad.add (y * sz)))) := fun a n D HF w hS => by
 unfold qqh at he
 split at he
 ·rename_i m' e hu
  obtain ⟨i, hi', he⟩ := Option.map_eq_some_iff.1 he
  injection he with h1 h2
  subst h1; subst h2
  unfold execOp
  simp [hop, HF.eval hx, HF.eval hi, Instr.indexAt, asIntOf, run_underlying hu, hy, sizeOf, typeInfo, hi', Instr.sureAddr]
 ·cases he
theorem Yl.qlm {t e : TypeId} {z : Value} {size bytes : Nat} (ei : EI P t e z size bytes) {x lo hi : Operand} {A : Option Addr} {m c i j : Nat} {k k' : IntKind} (hop : o.op = .slice t x (some lo) (some hi) none) (hx : look σ x = some (.slice A m c)) (hl : look σ lo = some (.int k (i : Int))) (hh : look σ hi = some (.int k' (j : Int))) (hij : i ≤ j) (hj : j ≤ c) :
  Yl P S σ o (.slice (if c = i then A else A.map (·.add (i * size))) (j - i) (c - i)) := fun a n D HF w hS => by
 obtain ⟨inf, hinf, _, hs, _⟩ := info_parts ei.hi
 have hi' : i ≤ c := Nat.le_trans hij hj
 have e1 : (Instr.sliceAt t (.slice A m c) (some (.int k (i : Int))) (some (.int k' (j : Int))) none).run P w = .ok (.slice (if c = i then A else A.map (·.add (i * size))) (j - i) (c - i)) w := by
  subst hs
  simp [Instr.sliceAt, run_underlying ei.ht, Instr.slice, Instr.sliceBounds, Instr.sliceBound, asIntOf, hij, hj, sizeOf, typeInfo, hinf]
 unfold execOp
 simp only [hop, HF.eval hx, HF.eval hl, HF.eval hh, Option.map_some, Option.map_none, Sem.run_bind, e1, Result.andThen_ok]
 rfl
def qt7 (P : Program) (t : TypeId) : Option Nat := match P.underlying t with
 | some (.array n _) => some n
 | _ => none
theorem Yl.arrayAt {t : TypeId} {x : Operand} {A : Option Addr} {m c k : Nat} (hop : o.op = .sliceToArrayPointer t x) (hx : look σ x = some (.slice A m c)) (ht : qt7 P t = some k) (hk : k ≤ m) : Yl P S σ o (.pointer A) := fun a n D HF w hS => by
 unfold qt7 at ht
 split at ht
 ·rename_i m' e hu
  injection ht with ht; subst ht
  unfold execOp
  simp [hop, HF.eval hx, Instr.arrayAt, run_underlying hu, Nat.not_lt.2 hk]
 ·cases ht
end
theorem Rd.mid {w : World} {B size n c i j : Nat} {A : Option Addr} {xs : List Value} (h : Rd w B size A n xs) (hij : i ≤ j) (hj : j ≤ n) (hc : n ≤ c) :
  Rd w B size (if c = i then A else A.map (·.add (i * size))) (j - i) ((xs.take (j * size)).drop (i * size)) := by
 have h1 := h.from (k := i) (cap := c) (by omega) hc
 have h2 := h1.upto (k := j - i) (by omega)
 rw [List.drop_take, ← Nat.sub_mul]
 exact h2
theorem Rd.qln {w : World} {B n c i j : Nat} {A : Option Addr} {l : List Nat} (h : Rd w B 1 A n (l.map B8)) (hij : i ≤ j) (hj : j ≤ n) (hc : n ≤ c) :
  Rd w B 1 (if c = i then A else A.map (·.add (i * 1))) (j - i) (((l.take j).drop i).map B8) := by
 have h1 := h.mid hij hj hc
 rw [Nat.mul_one, Nat.mul_one, ← List.map_take, ← List.map_drop] at h1
 rw [Nat.mul_one]
 exact h1
section
variable {W w : World} {fs : List Fact}
theorem Mem.oldBlk (h : Mem W w fs) {g : Nat} {ob : Obj} (hb : W.heap[g]? = some ob) : w.heap[g]? = some ob := (h.below.block g (zx hb)).trans hb
theorem Mem.zk (h : Mem W w fs) {g off : Nat} {cs : Array Value} {t : TypeId} {v : Value} (hb : W.heap[g]? = some (.cells cs t (0, 0))) (hc : cs[off]? = some v) : w.cell? ⟨g, off, none⟩ = some v := by
 simp [World.cell?, h.oldBlk hb, hc]
end
section
variable {P : Program} {Q : Exit → Act → World → Prop} {a : Act} {W w : World} {n d : Nat} {D : List Deferred} {σ : List (Nat × Value)} {o : Oper} {K : Act → World → Prop} {fs : List Fact} {S : World → Prop}
theorem Yl.cap {x : Operand} {t : TypeId} {A : Option Addr} {m c : Nat} (hop : o.op = .call { callee := .builtin .cap, args := #[x], argTypes := #[t] }) (hx : look σ x = some (.slice A m c)) (ht : isSl P t = true) : Yl P S σ o (.int .i64 (c : Int)) := fun a n D HF w hS => by
 unfold isSl at ht
 split at ht
 ·rename_i e hu
  unfold execOp
  simp [hop, resolve, invoke, builtin, HF.eval hx, Builtin.cap_, run_underlying hu, goInt]
 ·cases ht
theorem qjd (HF : Fr a n D σ) (HM : Mem W w fs) {s x : Operand} {t tn e : TypeId} {z : Value} {size bytes m : Nat} {kn k : IntKind} (hop : o.op = .call { callee := .builtin .append, args := #[s, x], argTypes := #[t, tn] }) (ei : EI P t e z size bytes) (htn : P.underlying tn = some (.int kn))
  (hs : look σ s = some (.slice none 0 0)) (hx : look σ x = some (.int k (m : Int))) (h0 : 0 < m) (h63 : m ≤ 4611686018427387904) (hb : m * bytes ≤ 281474976710656)
  (hd : o.dst = some d) (hdn : d < n) (kk : ∀ a' w' g c', Fr a' n D ((d, .slice (some ⟨g, 0, none⟩) m c') :: σ) → Mem W w' (.row (.slice (some ⟨g, 0, none⟩) m c') m (Builtin.zeroCells z.cells m).toList e size :: fs) → m ≤ c' → K a' w') : o.wp P a w K Q := by
 obtain ⟨i, hi, hz, hsz, hby⟩ := info_parts ei.hi
 have hr := Lib.run_append_nil_zeros (P := P) w t tn o.type e i z k kn ei.ht htn hi hz m h0 (by rw [hsz]; exact ei.hs) (by omega) (by rw [hby]; exact hb)
 have h1 : m ≤ grownCap w m 0 e := grownCap_ge w m 0 e
 have h2 : grownCap w m 0 e ≤ maxLen := grownCap_le_maxLen w m 0 e (by unfold maxLen; omega)
 have hzl : (Builtin.zeroCells z.cells m).size = m * size := by rw [size_zeroCells, ei.hz]
 have hown : (w.drew.alloc (.cells (Builtin.zeroCells z.cells m ++ Builtin.zeroCells z.cells (grownCap w m 0 e - m)) e)).ownsRow w.heap.size e size (.slice (some ⟨w.heap.size, 0, none⟩) m (grownCap w m 0 e)) m (Builtin.zeroCells z.cells m).toList := by
  refine ⟨by simpa using hzl, .inr ⟨w.heap.size, _, _, rfl, Nat.le_refl _, World.alloc_heap_new w.drew _, h1, h2, ?_, ?_⟩⟩
  ·rw [Array.size_append, hzl, size_zeroCells, ei.hz, ← Nat.add_mul]
   congr 1
   omega
  ·rw [Array.toList_append, ← hzl, ← Array.length_toList]
   exact List.take_left
 unfold Oper.wp execOp
 simp only [hop, resolve, invoke, builtin, Sem.run_bind, Sem.run_pure, Result.andThen_ok, List.map_toArray, List.map_cons, List.map_nil, HF.eval hs, HF.eval hx, hr]
 rw [Oper.upon_value, hd]
 exact kk _ _ w.heap.size _ (HF.put hdn _) (HM.callRow ((Below.refl _ _).drew.alloc (by simp) _) hown) h1
theorem Mem.shrink (h : Mem W w fs) {i m k c size : Nat} {A : Option Addr} {e : TypeId} {xs : List Value} (hi : fs[i]? = some (.row (.slice A m c) m xs e size)) (hk : k ≤ m) (hA : A = none → k = 0 ∧ c = 0) : Mem W w (fs.set i (.row (.slice A k c) k (xs.take (k * size)) e size)) := by
 have ho := h.own hi
 refine h.turn hi h.below (fun _ _ _ => rfl) ?_ (fun g' hg' => .inl (by cases A <;> exact hg'))
 refine ⟨by rw [List.length_take, ho.1]; exact Nat.min_eq_left (Nat.mul_le_mul_right _ hk), ?_⟩
 rcases ho.2 with ⟨h1, h2⟩ | ⟨g, cap, cur, h1, h2, h3, h4, h5, h6, h7⟩
 ·injection h1 with h1 _ _
  obtain ⟨rfl, rfl⟩ := hA h1
  subst h1
  exact .inl ⟨rfl, rfl⟩
 ·injection h1 with h1 _ h8
  subst h1; subst h8
  refine .inr ⟨g, c, cur, rfl, h2, h3, by omega, h5, h6, ?_⟩
  rw [← h7, List.take_take, Nat.min_eq_left (Nat.mul_le_mul_right _ hk)]
end
theorem qt8 {m n j : Nat} (hm : m < 2 ^ j) : m ||| n * 2 ^ j = m + n * 2 ^ j := by
 have := Nat.two_pow_add_eq_or_of_lt hm n
 rw [Nat.or_comm, Nat.mul_comm n, ← this, Nat.add_comm]
theorem qje {m n j p : Nat} (hp : 2 ^ j = p) (hm : m < p) (hb : m + n * p < 4294967296) : Value.int .u32 (Go.IntKind.u32.wrap (BitVec.ofInt Go.IntKind.u32.bits (m : Int) ||| BitVec.ofInt Go.IntKind.u32.bits ((n * p : Nat) : Int)).toNat) = .int .u32 ((m + n * p : Nat) : Int) := by
 subst hp
 have h := qv3 (m := m) (n := n * 2 ^ j) (by omega) (by omega)
 rw [qt8 hm] at h
 exact h
theorem qsv {m n j p : Nat} (hp : 2 ^ j = p) (hm : n < p) (hb : m * p + n < 9223372036854775808) : Value.int .i64 (Go.IntKind.i64.wrap (BitVec.ofInt Go.IntKind.i64.bits ((m * p : Nat) : Int) ||| BitVec.ofInt Go.IntKind.i64.bits (n : Int)).toNat) = .int .i64 ((m * p + n : Nat) : Int) := by
 subst hp
 have h := qv4 (m := m * 2 ^ j) (n := n) (by omega) (by omega)
 rw [Nat.or_comm, qt8 hm, Nat.add_comm] at h
 exact h
structure Part where
 A : Option Addr
 c : Nat
 l : List Nat
def Part.val (p : Part) : Value := .slice p.A p.l.length p.c
theorem qct {l : List Part} {k : Nat} {d : Part} (h : k < l.length) : (l.take (k + 1)).flatMap (·.l) = (l.take k).flatMap (·.l) ++ (l.getD k d).l := by
 rw [List.take_add_one, getD_at d h]; simp
theorem qe0 {l : List Part} (k : Nat) : ((l.take k).flatMap (·.l)).length ≤ (l.flatMap (·.l)).length := by
 conv => rhs; rw [← List.take_append_drop k l]
 rw [List.flatMap_append, List.length_append]
 omega
set_option linter.all false
def qqy (P : Program) (t : TypeId) : Bool := match P.underlying t with
 | some (.array n e) => n == 2 && (P.cellsOf e == 1 && (isOne P e && match P.underlying e with
  | some (.int _) => true
  | _ => false))
 | _ => false
theorem qtb {P : Program} {t : TypeId} (ht : qqy P t = true) {k : Go.IntKind} (a b c d : Int) (w : World) :
  (Op.equal t (.agg #[.int k a, .int k b]) (.agg #[.int k c, .int k d])).run P w = .ok (a == c && b == d) w := by
 unfold qqy at ht
 split at ht
 ·rename_i n e hu
  simp only [Bool.and_eq_true, beq_iff_eq] at ht
  obtain ⟨h1, h2, h3, h4⟩ := ht
  subst h1
  split at h4
  ·rename_i k' hk
   obtain ⟨i, hi⟩ := info_of_underlying hk
   show (Op.equalIn (9999 + 1) t _ _).run P w = _
   rw [run_equalIn_array w 9999 _ _ hu hi, h2]
   have hp : ∀ (xs : Array Value) (j : Nat) (v : Value), xs[j]? = some v → (part e xs j).run P w = .ok v w := fun xs j v h => by
    unfold part
    simp [qew h3, h]
   have he : ∀ x y, (Op.equalIn 9999 e (.int k x) (.int k y)).run P w = .ok (x == y) w := fun x y => run_equalIn_int w 9998 e k k' x y hk
   show (Op.eqItems 9999 e 1 _ _ [0, 1]).run P w = _
   have p1 : (part e #[.int k a, .int k b] 0).run P w = .ok (.int k a) w := hp _ _ _ rfl
   have p2 : (part e #[.int k c, .int k d] 0).run P w = .ok (.int k c) w := hp _ _ _ rfl
   have p3 : (part e #[.int k a, .int k b] 1).run P w = .ok (.int k b) w := hp _ _ _ rfl
   have p4 : (part e #[.int k c, .int k d] 1).run P w = .ok (.int k d) w := hp _ _ _ rfl
   have q1 := he a c
   have q2 := he b d
   generalize (9999 : Nat) = dd at q1 q2 ⊢
   simp only [Op.eqItems, Sem.run_bind, Nat.zero_mul, Nat.one_mul, p1, p2, q1, Result.andThen_ok]
   cases h5 : (a == c) <;> cases h6 : (b == d) <;> simp [p3, p4, q2, h6]
  ·cases h4
 ·cases ht
section
variable {P : Program} {S : World → Prop} {σ : List (Nat × Value)} {o : Oper}
theorem qkk {t : TypeId} (hg : P.eqGuardType P.depth t = false) (op : BinOp) (x y : Operand) (a b : Array Value) (w : World) : (eqGuard op t x y (.agg a) (.agg b)).run P w = .ok () w := by
 unfold eqGuard
 cases op <;> simp <;> simp [hg]
theorem Yl.qvk {t u : TypeId} {p q : Operand} {k : Go.IntKind} {a b c d : Int} (hop : o.op = .binOp .neq t p q u) (hx : look σ p = some (.agg #[.int k a, .int k b])) (hy : look σ q = some (.agg #[.int k c, .int k d])) (ht : qqy P t = true) (hg : P.eqGuardType P.depth t = false) : Yl P S σ o (.bool (!(a == c && b == d))) := fun ac n D HF w hS => by
 unfold execOp
 have e : (binOp .neq t (.agg #[.int k a, .int k b]) (.agg #[.int k c, .int k d])).run P w = .ok (.bool (!(a == c && b == d))) w := by
  show ((do Pure.pure (.bool (!(← Op.equal t (.agg #[.int k a, .int k b]) (.agg #[.int k c, .int k d])))) : Sem Value)).run P w = _
  simp [qtb ht]
 simp only [hop, HF.eval hx, HF.eval hy, Sem.run_bind, qkk hg, Result.andThen_ok, e, Sem.run_pure]
end
theorem qwa {w : World} {B n g o k : Nat} {l : List Nat} (h : Rd w B 1 (some ⟨g, o, none⟩) n (l.map B8)) (hk : k + 2 ≤ l.length) : w.rangeAt g (o + k) (#[B8 (l.getD k 0), B8 (l.getD (k + 1) 0)] : Array Value).toList := fun j v hv => by
 have hr := h.range
 rw [Nat.add_assoc]
 refine hr (k + j) v ?_
 rcases j with _ | _ | j
 ·simp at hv
  rw [Nat.add_zero, ← hv]
  exact qaw (getD_at 0 (by omega))
 ·simp at hv
  rw [← hv]
  exact qaw (getD_at 0 (by omega))
 ·simp at hv
section
variable {P : Program} {S : World → Prop} {σ : List (Nat × Value)} {o : Oper}
end
section
variable {P : Program} {S : World → Prop} {σ : List (Nat × Value)} {o : Oper} {v : Value}
def qr1 (P : Program) (t : TypeId) : Bool := match P.underlying t with
 | some (.pointer _) => true
 | _ => false
theorem qr2 {t : TypeId} {a : Option Addr} (ht : qr1 P t = true) (w : World) : (Op.equal t (.pointer a) (.pointer none)).run P w = .ok a.isNone w := by
 unfold qr1 at ht
 split at ht
 ·rename_i hu
  show (Op.equalIn (9999 + 1) t (.pointer a) (.pointer none)).run P w = _
  unfold Op.equalIn
  cases a <;> simp only [Sem.run_bind, run_underlying hu, Result.andThen_ok] <;> rfl
 ·cases ht
theorem qtr {t : TypeId} {a : Option Addr} {m c m' c' : Nat} (ht : isSl P t = true) (w : World) : (Op.equal t (.slice a m c) (.slice none m' c')).run P w = .ok a.isNone w := by
 unfold isSl at ht
 split at ht
 ·rename_i hu
  show (Op.equalIn (9999 + 1) t (.slice a m c) (.slice none m' c')).run P w = _
  unfold Op.equalIn
  cases a <;> simp only [Sem.run_bind, run_underlying hu, Result.andThen_ok] <;> rfl
 ·cases ht
theorem Yl.qnv {b : Bool} {t u : TypeId} {x y : Operand} {a : Option Addr} (hop : o.op = .binOp .eql t x y u) (hx : look σ x = some (.pointer a)) (hy : look σ y = some (.pointer none)) (hb : a.isNone = b := by rfl) (ht : qr1 P t = true := by kernel_rfl) : Yl P S σ o (.bool b) := fun _ n D HF w hS => by
 subst hb
 unfold execOp
 have e : (binOp .eql t (.pointer a) (.pointer none)).run P w = .ok (.bool a.isNone) w := by
  show ((do Pure.pure (.bool (← Op.equal t (.pointer a) (.pointer none))) : Sem Value)).run P w = _
  simp [qr2 ht]
 simp only [hop, HF.eval hx, HF.eval hy, Sem.run_bind, qbd (P := P) .eql t x y (a := .pointer a) rfl, Result.andThen_ok, e, Sem.run_pure]
theorem Yl.qw1 {b : Bool} {t u : TypeId} {x y : Operand} {a : Option Addr} {m c m' c' : Nat} (hop : o.op = .binOp .eql t x y u) (hx : look σ x = some (.slice a m c)) (hy : look σ y = some (.slice none m' c')) (hb : a.isNone = b := by rfl) (ht : isSl P t = true := by kernel_rfl) : Yl P S σ o (.bool b) := fun _ n D HF w hS => by
 subst hb
 unfold execOp
 have e : (binOp .eql t (.slice a m c) (.slice none m' c')).run P w = .ok (.bool a.isNone) w := by
  show ((do Pure.pure (.bool (← Op.equal t (.slice a m c) (.slice none m' c'))) : Sem Value)).run P w = _
  simp [qtr ht]
 simp only [hop, HF.eval hx, HF.eval hy, Sem.run_bind, qbd (P := P) .eql t x y (a := .slice a m c) rfl, Result.andThen_ok, e, Sem.run_pure]
theorem Yl.nilCheck {x : Operand} {p : Addr} (hop : o.op = .nilCheck x) (hx : look σ x = some (.pointer (some p))) : Yl P S σ o (.pointer (some p)) := fun _ n D HF w hS => by
 unfold execOp
 simp only [hop, HF.eval hx]
 rfl
end
def partV (P : Program) (t : TypeId) (cs : Array Value) (off : Nat) : Option Value :=
 match P.underlying t, P.info? t with
 | some (.struct _), some i => some (.agg (cs.extract off (off + i.size)))
 | some (.int _), _ => cs[off]?
 | some .bool, _ => cs[off]?
 | some .string, _ => cs[off]?
 | _, _ => none
def qc9 (P : Program) (eq : TypeId → Value → Value → Option Bool) (xs ys : Array Value) : List Field → Option Bool
 | [] => some true
 | f :: fs => if f.name = "_" then none else
  match partV P f.type xs f.offset, partV P f.type ys f.offset with
  | some a, some b => match eq f.type a b, qc9 P eq xs ys fs with
   | some r, some s => some (r && s)
   | _, _ => none
  | _, _ => none
def qau (P : Program) : Nat → TypeId → Value → Value → Option Bool
 | 0, _, _, _ => none
 | d + 1, t, x, y => match P.underlying t, x, y with
  | some (.int _), .int k a, .int k' b => if k = k' then some (a == b) else none
  | some .bool, .bool a, .bool b => some (a == b)
  | some .string, .string a, .string b => some (a.toList == b.toList)
  | some (.struct fs), .agg xs, .agg ys => if P.stoodInHeld t then none else qc9 P (qau P d) xs ys fs.toList
  | _, _, _ => none
theorem qle {P : Program} {t : TypeId} {cs : Array Value} {off : Nat} {v : Value} (h : partV P t cs off = some v) (w : World) : (part t cs off).run P w = .ok v w := by
 unfold partV at h
 split at h
 ·rename_i fs i hu hi
  injection h with h; subst h
  simp [part, isAgg, run_underlying hu, sizeOf, typeInfo, hi]
 ·rename_i k _ hu
  simp [part, isAgg, run_underlying hu, h]
 ·rename_i _ hu
  simp [part, isAgg, run_underlying hu, h]
 ·rename_i _ hu
  simp [part, isAgg, run_underlying hu, h]
 ·cases h
theorem qge {P : Program} {d : Nat} (ih : ∀ (t : TypeId) (x y : Value) (b : Bool), qau P d t x y = some b → ∀ w, (Op.equalIn d t x y).run P w = .ok b w) {xs ys : Array Value} : ∀ (fs : List Field) (b : Bool), qc9 P (qau P d) xs ys fs = some b → ∀ w, (Op.eqFields d xs ys fs).run P w = .ok b w
 | [], b, h, w => by
  injection h with h; subst h; rfl
 | f :: fs, b, h, w => by
  unfold qc9 at h
  split at h
  ·cases h
  ·rename_i hn
   split at h
   ·rename_i p q hp hq
    split at h
    ·rename_i r s hr hs
     injection h with h; subst h
     unfold Op.eqFields
     rw [if_pos hn]
     simp only [Sem.run_bind, qle hp, qle hq, ih _ _ _ _ hr, Result.andThen_ok]
     cases r
     ·simp
     ·simp [qge ih fs s hs w]
    ·cases h
   ·cases h
theorem qhm {P : Program} : ∀ (d : Nat) (t : TypeId) (x y : Value) (b : Bool), qau P d t x y = some b → ∀ w, (Op.equalIn d t x y).run P w = .ok b w
 | 0, _, _, _, _, h, _ => by cases h
 | d + 1, t, x, y, b, h, w => by
  unfold qau at h
  split at h
  ·rename_i k' k a k2 b' hu
   split at h
   ·rename_i hk; subst hk; injection h with h; subst h; exact run_equalIn_int w d t _ _ _ _ hu
   ·cases h
  ·rename_i a b' hu; injection h with h; subst h; exact run_equalIn_bool' w d t _ _ hu
  ·rename_i a b' hu; injection h with h; subst h; exact run_equalIn_string w d t _ _ hu
  ·rename_i fs xs ys hu
   split at h
   ·cases h
   ·rename_i hs
    have hf : P.fieldsOf t = fs := by unfold Program.fieldsOf; rw [hu]
    rw [run_equalIn_struct w d t xs ys (by rw [hu, hf]) (by simpa using hs), hf]
    exact qge (qhm d) _ _ h w
  ·cases h
theorem qgf {P : Program} : ∀ (d : Nat) (t : TypeId) (x y : Value) (b : Bool), qau P d t x y = some b → qau P (d + 1) t x y = some b
 | 0, _, _, _, _, h => by cases h
 | d + 1, t, x, y, b, h => by
  have hf : ∀ (fs : List Field) (xs ys : Array Value) (b : Bool), qc9 P (qau P d) xs ys fs = some b → qc9 P (qau P (d + 1)) xs ys fs = some b := by
   intro fs
   induction fs with
   | nil => intro xs ys b h; exact h
   | cons f fs ih =>
    intro xs ys b h
    unfold qc9 at h ⊢
    split at h
    ·cases h
    ·rename_i hn
     rw [if_neg hn]
     split at h
     ·rename_i p q hp hq
      split at h
      ·rename_i r s hr hs
       injection h with h; subst h
       simp only [qgf d _ _ _ _ hr, ih _ _ _ hs]
      ·cases h
     ·cases h
  unfold qau at h ⊢
  split at h
  ·rename_i hu; (try simp only [hu]); exact h
  ·rename_i hu; (try simp only [hu]); exact h
  ·rename_i hu; (try simp only [hu]); exact h
  ·rename_i fs xs ys hu
   (try simp only [hu])
   split at h
   ·cases h
   ·rename_i hs
    rw [if_neg hs]
    exact hf _ _ _ _ h
  ·cases h
theorem qiw {P : Program} {d : Nat} {t : TypeId} {x y : Value} {b : Bool} (h : qau P d t x y = some b) : ∀ k, qau P (d + k) t x y = some b
 | 0 => h
 | k + 1 => qgf _ _ _ _ _ (qiw h k)
section
variable {P : Program} {S : World → Prop} {σ : List (Nat × Value)} {o : Oper} {b : Bool}
theorem qmn {t : TypeId} {xs ys : Array Value} {d : Nat} (h : qau P d t (.agg xs) (.agg ys) = some b) (hd : d ≤ 10000) (w : World) : (Op.equal t (.agg xs) (.agg ys)).run P w = .ok b w := by
 unfold Op.equal
 have h2 := qiw h (10000 - d)
 rw [show d + (10000 - d) = 10000 by omega] at h2
 exact qhm _ _ _ _ _ h2 w
theorem qmo {t : TypeId} (hm : P.eqGuardType P.depth t = false) (op : BinOp) (x y : Operand) (a c : Array Value) (w : World) : (eqGuard op t x y (.agg a) (.agg c)).run P w = .ok () w := run_eqGuard_agg w op t x y a c hm
theorem Yl.qwv {t u : TypeId} {p q : Operand} {xs ys : Array Value} {d : Nat} (hop : o.op = .binOp .neq t p q u) (hx : look σ p = some (.agg xs)) (hy : look σ q = some (.agg ys)) (h : qau P d t (.agg xs) (.agg ys) = some b) (hd : d ≤ 10000 := by decide) (hm : P.eqGuardType P.depth t = false := by kernel_rfl) : Yl P S σ o (.bool !b) := fun a n D HF w hS => by
 unfold execOp
 have e : (binOp .neq t (.agg xs) (.agg ys)).run P w = .ok (.bool !b) w := by
  show ((do Pure.pure (.bool (!(← Op.equal t (.agg xs) (.agg ys)))) : Sem Value)).run P w = _
  simp [qmn h hd]
 simp only [hop, HF.eval hx, HF.eval hy, Sem.run_bind, qmo hm, Result.andThen_ok, e, Sem.run_pure]
end
section
variable {P : Program} {S : World → Prop} {σ : List (Nat × Value)} {o : Oper}
end
section
variable {P : Program} {Q : Exit → Act → World → Prop} {W : World} {a : Act} {w : World} {n d : Nat} {D : List Deferred} {σ : List (Nat × Value)} {fs : List Fact} {o : Oper} {K : Act → World → Prop}
end
def SizeJ (w : World) (k : Nat) (W : World) : Prop := W.heap[w.heap.size]? = some (.cells #[.int .i64 (k : Int)] 3 (0, 0)) ∧ w.grownBy W none ∧ w.heap.size + 2 ≤ W.heap.size
def SizeA (w : World) (x k : Nat) (a' : Act) (_ : World) : Prop :=
 ∃ p, (grp 10 x)[k]? = some p ∧ a' = { tmps := #[.int .u64 (x : Int), undef, .int .i64 0, .pointer (some ⟨w.heap.size, 0, none⟩), .int .u64 (x : Int), .func (.func 93) #[] #[.pointer (some ⟨w.heap.size + 1, 0, none⟩)], .int .u8 (p.1 : Int), .bool p.2, undef, undef, undef], defers := [] }
theorem qte {W : World} {g : Nat} {x y : Value} {t : TypeId} (h : W.heap[g]? = some (.cells #[x] t (0, 0))) : (W.setCell ⟨g, 0, none⟩ y).heap[g]? = some (.cells #[y] t (0, 0)) := by
 simp [World.setCell, Array.getElem?_modify, h]
set_option maxRecDepth 100000 in
set_option maxHeartbeats 400000 in
theorem qq6 (x : Nat) (w : World) (hx : x < 18446744073709551616) :
  Calls Tryd.prog 59 #[.int .u64 (x : Int)] w fun e w' => e = .returned (.int .i64 ((vbytes x).length : Int)) ∧ Below w.heap.size w w' := by
 refine callsIn_wide.1 (callsIn_of_wp_marks (n := 0) Tryd.func59 rfl trivial ?_ rfl)
 simp only [Tryd.ntmps59, List.size_toArray, List.length_cons, List.length_nil, Nat.reduceAdd, Nat.reduceSub, Array.replicate_succ, Array.replicate_zero, List.push_toArray, List.append_toArray, List.nil_append, List.cons_append]
 gi_wp2_with (refine ⟨trivial, rfl, ?_⟩; refine (callsIn_wide.2 (qh2 x _)).mono ?_; rintro e w' ⟨rfl, rfl⟩)
 obtain ⟨W0, hW0⟩ : ∃ W0, W0 = (w.alloc (.cells #[.int .i64 0] 3)).alloc (.cells #[.int .u64 (x : Int)] 43) := ⟨_, rfl⟩
 have hsz : W0.heap.size = w.heap.size + 2 := by rw [hW0]; simp
 have hlen := qcm 10 x
 have hbx : W0.heap[w.heap.size]? = some (.cells #[.int .i64 0] 3 (0, 0)) := by
  subst hW0
  exact (Below.heap_alloc _ _ _ (by simp)).trans (World.alloc_heap_new w _)
 have hgr : w.grownBy W0 none := by subst hW0; exact (World.grownBy_alloc w _ _).trans (World.grownBy_alloc _ _ _)
 have hxc : W0.cell? ⟨w.heap.size + 1, 0, none⟩ = some (.int .u64 (x : Int)) := by subst hW0; have := World.cell?_alloc_new (w.alloc (.cells #[.int .i64 0] 3)) #[.int .u64 (x : Int)] 43 0; rw [World.size_alloc] at this; exact this
 have hxf : W0.frozen? ⟨w.heap.size + 1, 0, none⟩ = false := by subst hW0; have := World.frozen?_alloc_new (w.alloc (.cells #[.int .i64 0] 3)) #[.int .u64 (x : Int)] 43 0; rw [World.size_alloc] at this; exact this
 rw [← hW0]
 clear hW0
 refine qi0 rfl (enters_of Tryd.func93 (by kernel_rfl) rfl) (qf1 (w.heap.size + 1) x W0 hx hxc hxf) (by intro y hy; obtain ⟨p, _, rfl⟩ := List.mem_map.1 hy; rfl) (by simp [hsz])
  (fun _ b => b = w.heap.size) (SizeJ w) (fun _ _ _ => False) ?hJ ?hJx ?hJ0 ?hJx0 ?hTd ?hN ?h0 (SizeA w x) ?hA ?hassign ?hbody ?hdone ?hstop
 case hJ =>
  rintro k W W' ⟨hb, hg, hs⟩ hk
  have h1 : w.heap.size ∉ [w.heap.size + 1] := by simp
  exact ⟨⟨hk.obj _ _ hb rfl h1, Keep.grown hg hk (by omega) (by simp), Nat.le_trans hs hk.size⟩, fun b h => h⟩
 case hJx => exact fun _ _ _ _ h _ => h.elim
 case hJ0 => rintro k W ⟨_, _, hs⟩; omega
 case hJx0 => exact fun _ _ _ h => h.elim
 case hTd => rintro k W b ⟨hb, _⟩ rfl; exact ⟨_, hb, rfl⟩
 case hN => rintro b rfl ht; omega
 case h0 => exact ⟨hbx, hgr, by omega⟩
 case hA => exact fun _ _ _ _ h _ => h
 case hassign =>
  rintro l k hk W _
  simp only [List.getElem_map, encG]
  have hp : (grp 10 x)[k]? = some ((grp 10 x)[k]'(by simpa using hk)) := List.getElem?_eq_getElem _
  generalize (grp 10 x)[k]'(by simpa using hk) = p at hp
  gi_wp2
  exact ⟨Chg.refl _ _, p, hp, by simp⟩
 case hbody =>
  rintro l k a' W hk hl hr ⟨p, hp, rfl⟩ ⟨hb, hg, hs⟩
  have hc : W.cell? ⟨w.heap.size, 0, none⟩ = some (.int .i64 (k : Int)) := by simp [World.cell?, hb]
  have hf : W.frozen? ⟨w.heap.size, 0, none⟩ = false := by simp [World.frozen?, hb]
  have hkl : k < (grp 10 x).length := by simpa using hk
  have hki : (k : Int) ≤ 10 := by omega
  have HB := hide hb
  have HG := hide hg
  clear hp hr hb hg hbx hgr
  gi_wp2
  rw [Oper.semAt_eq _ _ _ (by intro c h; cases h)]
  have e1 : ∀ (ρ : Operand → Value) (o : Oper), o.op = .load 3 (.tmp 3) → ρ (.tmp 3) = .pointer (some ⟨w.heap.size, 0, none⟩) → (execOp ρ o).run Tryd.prog W = .ok (.value (.int .i64 (k : Int))) W := fun ρ o h1 h2 => by
   have hone : (isAgg 3).run Tryd.prog W = .ok false W := by kernel_rfl
   unfold execOp
   simp [h1, h2, Instr.loadAt, Instr.sureAddr, loadVar, hone, load, Sem.run, hc]
  rw [e1 _ _ rfl rfl, Oper.uponIn_value]
  gi_wp2
  rw [Oper.semAt_eq _ _ _ (by intro c h; cases h)]
  have e2 : ∀ (ρ : Operand → Value) (o : Oper), o.op = .binOp .add 3 (.tmp 8) (.const (.int .i64 1)) 3 → ρ (.tmp 8) = .int .i64 (k : Int) → ρ (.const (.int .i64 1)) = .int .i64 1 → (execOp ρ o).run Tryd.prog W = .ok (.value (.int .i64 ((k : Int) + 1))) W := fun ρ o h1 h2 h3 => by
   unfold execOp
   have e : IntKind.i64.wrap ((k : Int) + 1) = (k : Int) + 1 := IntWalk.i64_in _ (by omega)
   have eb : (binOp .add 3 (.int .i64 (k : Int)) (.int .i64 1)).run Tryd.prog W = .ok (.int .i64 ((k : Int) + 1)) W := by rw [qh6 (P := Tryd.prog) (v := .int .i64 (IntKind.i64.wrap ((k : Int) + 1))) rfl 3 W, e]
   simp only [h1, h2, h3, Sem.run_bind, qbd (P := Tryd.prog) .add 3 (.tmp 8) (.const (.int .i64 1)) (a := .int .i64 (k : Int)) rfl, Result.andThen_ok, eb, Sem.run_pure]
  rw [e2 _ _ rfl rfl rfl, Oper.uponIn_value]
  gi_wp2
  rw [Oper.semAt_eq _ _ _ (by intro c h; cases h)]
  have e3 : ∀ (ρ : Operand → Value) (o : Oper), o.op = .store 3 (.tmp 3) (.tmp 9) → ρ (.tmp 3) = .pointer (some ⟨w.heap.size, 0, none⟩) → ρ (.tmp 9) = .int .i64 ((k : Int) + 1) → (execOp ρ o).run Tryd.prog W = .ok .skip (W.setCell ⟨w.heap.size, 0, none⟩ (.int .i64 ((k : Int) + 1))) := fun ρ o h1 h2 h3 => by
   unfold execOp
   simp only [h1, h2, h3, Sem.run_bind, qc4 (P := Tryd.prog) (t := 3) (v := .int .i64 ((k : Int) + 1)) (by kernel_rfl) rfl hc hf, Result.andThen_ok, Sem.run_pure]
  rw [e3 _ _ rfl rfl rfl, Oper.uponIn_skip]
  gi_wp2
  have hst : ChgT (fun _ b => b = w.heap.size) W (W.setCell ⟨w.heap.size, 0, none⟩ (.int .i64 ((k : Int) + 1))) :=
   ⟨rfl, rfl, rfl, by simp [World.setCell], fun b _ hT => Below.heap_setCell _ _ _ _ hT, fun b h => .inl h⟩
  refine ⟨hst, ?_, ?_, by have := hst.size; omega⟩
  ·exact qte HB.out
  ·exact hst.grown HG.out (fun b hb1 hb2 => by omega)
 case hdone =>
  rintro D W hD ⟨hb, hg, hs⟩ hK
  have HG := hide hg
  have hc : W.cell? ⟨w.heap.size, 0, none⟩ = some (.int .i64 (((grp 10 x).map encG).length : Int)) := by simp [World.cell?, hb]
  have hkp : Keep W0.heap.size [] W (W.putObj D (.deferred none)) := Keep.putObj W _ hK rfl hD
  clear hb hg hbx hgr
  gi_wp2
  refine ⟨by simp, .inl ⟨_, _, rfl, run_takeDeferred hK, ?_⟩⟩
  refine ⟨_, results_tmp rfl _ _ _, ?_, ?_⟩
  ·simp [vbytes]
  ·exact (Below.refl _ _).grown (Keep.grown HG.out hkp (by omega) (by simp)) (Nat.le_refl _) (fun _ h => by cases h)
 case hstop => exact fun _ _ _ _ _ _ _ h _ => h.elim
def intAt (xs : Array Value) (i : Nat) : Int := match xs[i]? with
 | some (.int _ n) => n
 | _ => 0
def qjf (P : Program) (f : Field) (i : Nat) : Bool := f.name != "_" && (f.offset == i && (isOne P f.type && match P.underlying f.type with
 | some (.int _) => true
 | _ => false))
theorem qe1 {P : Program} (d : Nat) (xs ys : Array Value) : ∀ (fs : List Field) (i : Nat) (w : World), (∀ j, j < fs.length → ∃ f k a b, fs[j]? = some f ∧ qjf P f (i + j) = true ∧ xs[i + j]? = some (.int k a) ∧ ys[i + j]? = some (.int k b)) →
  (Op.eqFields (d + 1) xs ys fs).run P w = .ok ((List.range fs.length).all fun j => intAt xs (i + j) == intAt ys (i + j)) w
 | [], i, w, _ => rfl
 | f :: fs, i, w, h => by
  obtain ⟨f', k, a, b, hf, hb, hx, hy⟩ := h 0 (by simp)
  simp only [List.getElem?_cons_zero, Option.some.injEq] at hf
  subst hf
  simp only [qjf, Bool.and_eq_true, bne_iff_ne, beq_iff_eq, Nat.add_zero] at hb
  obtain ⟨h1, h2, h3, h4⟩ := hb
  rw [Nat.add_zero] at hx hy
  have ih := qe1 d xs ys fs (i + 1) w (fun j hj => by
   obtain ⟨f, k, a, b, hf, hb, hx, hy⟩ := h (j + 1) (by simpa using hj)
   refine ⟨f, k, a, b, by simpa using hf, ?_, ?_, ?_⟩
   ·rw [show i + 1 + j = i + (j + 1) by omega]; exact hb
   ·rw [show i + 1 + j = i + (j + 1) by omega]; exact hx
   ·rw [show i + 1 + j = i + (j + 1) by omega]; exact hy)
  have hu : ∃ k', P.underlying f.type = some (.int k') := by
   split at h4
   ·rename_i k' hk; exact ⟨k', hk⟩
   ·cases h4
  obtain ⟨k', hu⟩ := hu
  have hxi : intAt xs i = a := by simp [intAt, hx]
  have hyi : intAt ys i = b := by simp [intAt, hy]
  have e : (List.range (f :: fs).length).all (fun j => intAt xs (i + j) == intAt ys (i + j)) = ((a == b) && (List.range fs.length).all fun j => intAt xs (i + 1 + j) == intAt ys (i + 1 + j)) := by
   rw [List.length_cons, List.range_succ_eq_map, List.all_cons, Nat.add_zero, hxi, hyi, List.all_map]
   congr 2
   funext j
   simp only [Function.comp_apply, Nat.succ_eq_add_one]
   rw [show i + (j + 1) = i + 1 + j by omega]
  rw [e]
  unfold Op.eqFields
  rw [if_pos h1]
  simp only [Sem.run_bind, part, qew h3, Result.andThen_ok, Bool.false_eq_true, if_false, h2, hx, hy, Sem.run_pure, run_equalIn_int w d f.type k k' a b hu]
  cases hab : (a == b)
  ·simp
  ·simp [ih]
def qe2 (P : Program) (t : TypeId) : Bool := !P.stoodInHeld t && (!P.eqGuardType P.depth t && ((P.fieldsOf t).size == 11 && ((List.range 11).all fun i => match (P.fieldsOf t).toList[i]? with
 | some f => qjf P f i
 | none => false)))
theorem ql0 {P : Program} {t : TypeId} (h : (P.fieldsOf t).size = 11) : P.underlying t = some (.struct (P.fieldsOf t)) := by
 unfold Program.fieldsOf at h ⊢
 split at h
 ·rename_i fs hu; rw [hu]
 ·cases h
theorem qqi (e : Ev) : ∀ i, i < 11 → ∃ k, e.cells[i]? = some (.int k (intAt e.cells i)) ∧ ∀ e' : Ev, e'.cells[i]? = some (.int k (intAt e'.cells i)) := by
 intro i hi
 have h : i = 0 ∨ i = 1 ∨ i = 2 ∨ i = 3 ∨ i = 4 ∨ i = 5 ∨ i = 6 ∨ i = 7 ∨ i = 8 ∨ i = 9 ∨ i = 10 := by omega
 rcases h with rfl | rfl | rfl | rfl | rfl | rfl | rfl | rfl | rfl | rfl | rfl <;> exact ⟨_, rfl, fun _ => rfl⟩
instance evDec : DecidableEq Ev := fun ⟨a0, a1, a2, a3, a4, a5, a6, a7, a8, a9, a10⟩ ⟨b0, b1, b2, b3, b4, b5, b6, b7, b8, b9, b10⟩ =>
 decidable_of_iff (a0 = b0 ∧ a1 = b1 ∧ a2 = b2 ∧ a3 = b3 ∧ a4 = b4 ∧ a5 = b5 ∧ a6 = b6 ∧ a7 = b7 ∧ a8 = b8 ∧ a9 = b9 ∧ a10 = b10) (by rw [Ev.mk.injEq])
theorem qv5 (x y : Ev) : ((List.range 11).all fun j => intAt x.cells (0 + j) == intAt y.cells (0 + j)) = decide (x = y) := by
 rw [Bool.eq_iff_iff, decide_eq_true_eq]
 constructor
 ·intro h
  have g : ∀ j, j < 11 → intAt x.cells j = intAt y.cells j := fun j hj => by
   have := List.all_eq_true.1 h j (List.mem_range.2 hj)
   simpa using this
  obtain ⟨a0, a1, a2, a3, a4, a5, a6, a7, a8, a9, a10⟩ := x
  obtain ⟨b0, b1, b2, b3, b4, b5, b6, b7, b8, b9, b10⟩ := y
  have g0 : a0 = b0 := g 0 (by decide)
  have g1 : a1 = b1 := g 1 (by decide)
  have g2 : (a2 : Int) = b2 := g 2 (by decide)
  have g3 : (a3 : Int) = b3 := g 3 (by decide)
  have g4 : a4 = b4 := g 4 (by decide)
  have g5 : a5 = b5 := g 5 (by decide)
  have g6 : a6 = b6 := g 6 (by decide)
  have g7 : a7 = b7 := g 7 (by decide)
  have g8 : a8 = b8 := g 8 (by decide)
  have g9 : (a9 : Int) = b9 := g 9 (by decide)
  have g10 : a10 = b10 := g 10 (by decide)
  have g2' : a2 = b2 := by omega
  have g3' : a3 = b3 := by omega
  have g9' : a9 = b9 := by omega
  subst g0 g1 g2' g3' g4 g5 g6 g7 g8 g9' g10
  rfl
 ·rintro rfl
  simp
theorem qsw {P : Program} {t : TypeId} (ht : qe2 P t = true) (x y : Ev) (w : World) : (Op.equal t (.agg x.cells) (.agg y.cells)).run P w = .ok (decide (x = y)) w := by
 simp only [qe2, Bool.and_eq_true, Bool.not_eq_true', beq_iff_eq] at ht
 obtain ⟨h1, _, h3, h4⟩ := ht
 unfold Op.equal
 rw [show Op.maxDepth = 9998 + 1 + 1 from rfl, run_equalIn_struct w 9999 t _ _ (ql0 h3) h1, qe1 9998 _ _ _ 0 w]
 ·rw [Array.length_toList, h3, qv5]
 ·intro j hj
  rw [Array.length_toList, h3] at hj
  have := List.all_eq_true.1 h4 j (List.mem_range.2 hj)
  split at this
  ·rename_i f hf
   obtain ⟨k, hk, hk'⟩ := qqi x j hj
   rw [Nat.zero_add]
   exact ⟨f, k, _, _, hf, this, hk, hk' y⟩
  ·cases this
theorem qn7 {P : Program} {t : TypeId} (ht : qe2 P t = true) (op : BinOp) (x y : Operand) (a b : Array Value) (w : World) : (eqGuard op t x y (.agg a) (.agg b)).run P w = .ok () w := by
 simp only [qe2, Bool.and_eq_true, Bool.not_eq_true', beq_iff_eq] at ht
 obtain ⟨_, h2, _⟩ := ht
 unfold eqGuard
 cases op <;> simp <;> simp [h2]
section
variable {P : Program} {S : World → Prop} {σ : List (Nat × Value)} {o : Oper}
theorem Yl.qwy {t u : TypeId} {p q : Operand} {x y : Ev} (hop : o.op = .binOp .neq t p q u) (hx : look σ p = some (.agg x.cells)) (hy : look σ q = some (.agg y.cells)) (ht : qe2 P t = true) : Yl P S σ o (.bool (!decide (x = y))) := fun a n D HF w hS => by
 unfold execOp
 have e : (binOp .neq t (.agg x.cells) (.agg y.cells)).run P w = .ok (.bool (!decide (x = y))) w := by
  show ((do Pure.pure (.bool (!(← Op.equal t (.agg x.cells) (.agg y.cells)))) : Sem Value)).run P w = _
  simp [qsw ht]
 simp only [hop, HF.eval hx, HF.eval hy, Sem.run_bind, qn7 ht, Result.andThen_ok, e, Sem.run_pure]
end
def Bk.cells (b : Bk) (A : Option Addr) (c : Nat) : Array Value := #[.int .u8 (b.kind : Int), .int .u8 (b.cpu : Int), .int .i64 b.lost, .int .i64 b.next, .slice A b.evs.length c]
theorem qbv (b : Bk) (A : Option Addr) (c : Nat) : ∀ v ∈ (b.cells A c).toList, v.oneCell' = true := by intro v hv; simp [Bk.cells] at hv; rcases hv with rfl | rfl | rfl | rfl | rfl <;> rfl
theorem si_bk : SI Tryd.prog 41 5 := ⟨by kernel_rfl, by kernel_rfl⟩
theorem ei_bb : EI Tryd.prog 154 54 (.slice none 0 0) 1 24 := ⟨by kernel_rfl, by kernel_rfl, rfl, by omega⟩
theorem si_a2 : SI Tryd.prog 105 2 := ⟨by kernel_rfl, by kernel_rfl⟩
structure LaidX (B : Nat) (w : World) : Prop where
 laid : Laid B w
 halves : ∀ k, k < 16 → w.cell? ⟨2, k, none⟩ = some (.int .u32 ((qa2.getD k 0 : Nat) : Int))
 big3 : 2 < B
 magic0 : w.cell? ⟨0, 0, none⟩ = some (.int .u8 113)
 magic1 : w.cell? ⟨0, 1, none⟩ = some (.int .u8 116)
 big4 : 0 < B
theorem LaidX.qao {B : Nat} {w w' : World} (h : LaidX B w) (hk : ∀ p : Addr, p.block < B → w'.cell? p = w.cell? p) : LaidX B w' :=
 ⟨h.laid.qao hk, fun k hk' => (hk _ h.big3).trans (h.halves k hk'), h.big3, (hk _ h.big4).trans h.magic0, (hk _ h.big4).trans h.magic1, h.big4⟩
theorem LaidX.mem {B : Nat} {W w : World} {fs : List Fact} (h : LaidX B W) (hM : Mem W w fs) (hB : B ≤ W.heap.size) : LaidX B w := h.qao fun _ hp => hM.below.cell (by omega)
theorem LaidX.below {B B' : Nat} {w w' : World} (h : LaidX B w) (hb : Below B' w w') (hB : B ≤ B') : LaidX B w' := h.qao fun p hp => hb.cell (by omega)
theorem qgy (k : Nat) (h : k < 16) : qa2.getD k 0 < 4294967296 := by
 have : ∀ k, k < 16 → qa2.getD k 0 < 4294967296 := by decide
 exact this k h
theorem qm9 {B : Nat} {W w : World} {fs : List Fact} (h : LaidX B W) (hM : Mem W w fs) (hB : B ≤ W.heap.size) {k : Nat} (hk : k < 16) : w.cell? ⟨2, k * 1, none⟩ = some (.int .u32 ((qa2.getD k 0 : Nat) : Int)) := by
 rw [Nat.mul_one]; exact (h.mem hM hB).halves k hk
theorem qs2 {B : Nat} {W w : World} {fs : List Fact} (h : LaidX B W) (hM : Mem W w fs) (hB : B ≤ W.heap.size) : w.rangeAt 0 0 (#[Value.int .u8 113, .int .u8 116] : Array Value).toList := fun j v hv => by
 have h1 := (h.mem hM hB).magic0
 have h2 := (h.mem hM hB).magic1
 rcases j with _ | _ | j
 ·simp at hv; subst hv; exact h1
 ·simp at hv; subst hv; exact h2
 ·simp at hv
def Is (w : World) (v : Value) (r : Ending) (w' : World) : Prop := r = .returned v ∧ Below w.heap.size w w'
def zz (w : World) (R : List Nat) (r : Ending) (w' : World) : Prop :=
 (∃ A c, r = .returned (.slice A R.length c) ∧ w'.ownsRow w.heap.size 5 1 (.slice A R.length c) R.length (R.map B8) ∧ R.length ≤ c) ∧ Below w.heap.size w w'
theorem zz.as {w w' : World} {R R' : List Nat} {r : Ending} (h : zz w R r w') (e : R = R') : zz w R' r w' := e ▸ h
theorem qga {w w' : World} {R xs : List Nat} {n c : Nat} {A : Option Addr} (ho : w'.ownsRow w.heap.size 5 1 (.slice A n c) n (xs.map B8)) (hc : n ≤ c) (hn : n = R.length) (hx : xs = R) (hb : Below w.heap.size w w') : zz w R (.returned (.slice A n c)) w' := by
 subst hx; subst hn
 exact ⟨⟨A, c, rfl, ho, hc⟩, hb⟩
theorem qoa {x : Nat} {w : World} (hx : x < 18446744073709551616) : Calls Tryd.prog 74 #[.slice none 0 0, .int .u64 (x : Int)] w (zz w (vbytes x)) :=
 (qpm x w w.heap.size (.slice none 0 0) 0 [] hx (World.ownsRow_nil _ _ _ _) (Nat.le_refl _) (by omega)).mono fun e w' ⟨v, h1, h2, h3, _⟩ => by
  rw [Nat.zero_add, List.nil_append] at h2
  obtain ⟨A, c, rfl, hc⟩ := qa6 h2
  exact ⟨⟨A, c, h1, h2, hc⟩, (Below.refl _ _).grown h3 (Nat.le_refl _) (fun g hg => by cases hg)⟩
theorem qqo (A : Option Addr) (n c : Nat) (ls : List Nat) (w : World) (hr : Rd w w.heap.size 1 A n (ls.map U64)) (hls : ∀ x ∈ ls, x < 18446744073709551616) (hn : 10 * n ≤ 140737488355000) :
  Calls Tryd.prog 57 #[.slice A n c] w (zz w (ls.flatMap vbytes)) :=
 (qf2 A n c ls w hr hls hn).mono fun e w' ⟨v, h1, h2, h3⟩ => by
  obtain ⟨A, c, rfl, hc⟩ := qa6 h2
  exact ⟨⟨A, c, h1, h2, hc⟩, h3⟩
theorem qgz {b : Bk} (h : b.evs.length ≠ 0) : b.qhq = decide ((b.evs.getD 0 Ev.zero).cpu = b.cpu) := by
 unfold Bk.qhq
 cases hb : b.evs with
 | nil => rw [hb] at h; simp at h
 | cons e r => rfl
theorem qfu {b : Bk} (h : b.evs.length = 0) : b.qhq = decide (0 < b.lost) := by
 unfold Bk.qhq
 rw [List.length_eq_zero_iff] at h
 rw [h]
theorem qdp (b : Bk) : b.base = ⟨(b.evs.getD 0 Ev.zero).seq, (b.evs.getD 0 Ev.zero).time⟩ := by
 unfold Bk.base Ev.at
 cases b.evs <;> rfl
theorem qv6 (k : Nat) : k = 1 ∨ k = 2 ∨ (k ≠ 1 ∧ k ≠ 2) := by omega
theorem qjh {b : Bk} (hok : b.Ok) (h : b.fits = true) (hk : b.kind ≠ 2) (hn : b.evs.length ≠ 0) : 0 ≤ b.base.seq ∧ b.base.seq ≤ 281474976710656 ∧ 0 ≤ b.base.time ∧ b.base.time ≤ 281474976710656 := by
 obtain ⟨e, r, g⟩ := qgh hok (qd2 h hk).2 hn
 have := g.right
 rw [← g.base] at this
 have h4 : 1 ≤ b.base.seq ∧ b.base.seq ≤ 281474976710656 ∧ 0 ≤ b.base.time ∧ b.base.time ≤ 281474976710656 := by simpa [Bs.right] using this
 omega
theorem qg0 {b : Bk} (h : b.fits = true) (hk : b.kind ≠ 2) : b.kind = 1 ∧ 0 ≤ b.lost ∧ b.lost ≤ 281474976710656 ∧ b.cpu < 64 ∧ b.next = 0 := by
 obtain ⟨h1, h2⟩ := qd2 h hk
 unfold Bk.qdb at h2
 rw [decide_eq_true_eq] at h2
 omega
theorem qg1 {b : Bk} (h : b.fits = true) (hk : b.kind = 2) : 1 ≤ b.next ∧ b.next ≤ 281474976710657 ∧ b.cpu = 0 ∧ b.lost = 0 ∧ b.evs.length = 0 := by
 have h2 := qs1 h hk
 unfold Bk.qhr at h2
 rw [decide_eq_true_eq] at h2
 exact h2
theorem ql4 (c : Nat) (l : List Nat) (x : Nat) : qu c (l ++ [x]) = qd1 (qu c l) x := by unfold qu; rw [List.foldl_append]; rfl
theorem ql5 {c k : Nat} {l : List Nat} (h : k < l.length) : qu c (l.take (k + 1)) = qd1 (qu c (l.take k)) (l.getD k 0) := by
 rw [List.take_add_one, getD_at 0 h]; exact ql4 _ _ _
theorem qbe {l : List Nat} {m : Nat} (h : ∀ b ∈ l, b < m) (k : Nat) : ∀ b ∈ l.take k, b < m := fun b hb => h b (List.mem_of_mem_take hb)
theorem qa7 {l : List Nat} {m : Nat} (h : ∀ b ∈ l, b < m) (k : Nat) : ∀ b ∈ l.drop k, b < m := fun b hb => h b (List.mem_of_mem_drop hb)
theorem qv7 {c : Nat} (h : c < 4294967296) : nib c < 4294967296 := qe3 (by omega) (qgy _ (by omega))
theorem qqp (l : List Nat) : zc l < 4294967296 := by unfold zc; omega
theorem qv8 (n : Nat) : ∀ b ∈ le4 n, b < 256 := by intro b hb; simp [le4] at hb; omega
theorem qu0 (n : Nat) : (le4 n).length = 4 := rfl
theorem qna (l : List Nat) : (sealL l).length = l.length + 4 := by unfold sealL; rw [List.length_append, qu0]
end Go.Proofs.YtfeheccoijnbaaaDoor
namespace Go.Proofs.YtfeheccoijnbaaaDoor
open Go.RowKit Go.ChangeShapes Go.WideShapes
theorem qs3 {W : World} {fuel : Nat} {cs : List Value} {zs : List Nat} {p : List MemPlace}
  (h : DataW.trod (fun _ => ()) Tryd.prog W 0 (fun _ => true) false fuel 49 cs = some (.slice (zs.map fun z : Nat => .lit (.int .i64 (z : Int))) [], p)) :
  ∃ A c, cs = [.slice A zs.length c] ∧ Rd W W.heap.size 1 A zs.length (zs.map I64v) := by
 obtain ⟨a, cap, hcs, hl, hall⟩ := open_row (e := 3) (by kernel_rfl) (by kernel_rfl) h
 have hcell : ∀ i z, zs[i]? = some z → W.cell? (a.add i) = some (I64v z) := by
  intro i z hz
  obtain ⟨v, n, q, hc, ht⟩ := hall i (.lit (.int .i64 (z : Int))) (by rw [List.getElem?_map, hz]; rfl)
  obtain ⟨z', e1, e2, _⟩ := DataW.trod_int (k := .i64) (by kernel_rfl) ht
  injection e1 with e1
  injection e2 with e2
  subst e1
  simp only [DataW.lit.injEq, Lit.int.injEq, true_and] at e2
  rw [hc, ← e2]
  rfl
 refine ⟨some a, cap, by rw [hcs, List.length_map], by simp, fun hn => ⟨a, rfl, ?_, ?_⟩⟩
 ·cases zs with
  | nil => simp at hn
  | cons z zs =>
   have := World.block_lt_of_cell? W _ (hcell 0 z rfl)
   simpa [Addr.add] using this
 ·intro j u hu
  rw [List.getElem?_map] at hu
  cases hz : zs[j]? with
  | none => simp [hz] at hu
  | some z => rw [hz] at hu; cases hu; exact hcell j z hz
theorem ql6 {W : World} (h : laidMetH Tryd.prog Rows.streamCutsRow.laid W) : Laid W.heap.size W := by
 rw [MakeChecks.laidMetH_plain _ _ _ (by kernel_rfl)] at h
 obtain ⟨g1, t1, cs1, f1, p1, hg1, ht1, hv1, hd1⟩ := Lib.laidMet.reads h (n := "quantum/event.fields") (d := Rows.laid_quantum_event_fields) (List.mem_cons_self ..)
 obtain ⟨g2, t2, cs2, f2, p2, hg2, ht2, hv2, hd2⟩ := Lib.laidMet.reads h (n := "quantum/event.uses") (d := Rows.laid_quantum_event_uses) (List.mem_cons_of_mem _ (List.mem_cons_self ..))
 have gg1 : Tryd.prog.globalNamed "quantum/event.fields" = some 3 := by kernel_rfl
 have gg2 : Tryd.prog.globalNamed "quantum/event.uses" = some 1 := by kernel_rfl
 obtain rfl := Option.some.inj (gg1.symm.trans hg1)
 obtain rfl := Option.some.inj (gg2.symm.trans hg2)
 have ty1 : (Tryd.prog.globals[3]?).map (·.type) = some 208 := by kernel_rfl
 have ty2 : (Tryd.prog.globals[1]?).map (·.type) = some 166 := by kernel_rfl
 obtain rfl := Option.some.inj (ty1.symm.trans ht1)
 obtain rfl := Option.some.inj (ty2.symm.trans ht2)
 have one1 : Tryd.prog.cellsOf 9 = 1 := by kernel_rfl
 have one2 : Tryd.prog.cellsOf 49 = 1 := by kernel_rfl
 have c1 : ∀ i v, cs1.toList[i]? = some v → W.cell? ⟨3, i, none⟩ = some v := fun i v hv => by
  rw [World.var?_cell gg1 hv1 i]; simpa using hv
 have c2 : ∀ i v, cs2.toList[i]? = some v → W.cell? ⟨1, i, none⟩ = some v := fun i v hv => by
  rw [World.var?_cell gg2 hv2 i]; simpa using hv
 have at1 : ∀ (cs : List Value) (i : Nat) (v : Value), (cs.drop (i * 1)).take 1 = [v] → cs[i]? = some v := by
  intro cs i v h
  have := congrArg (·[0]?) h
  simpa [List.getElem?_take, List.getElem?_drop] using this
 have str : ∀ i, i < 7 → ∃ s : ByteArray, W.cell? ⟨3, i, none⟩ = some (.string s) := by
  intro i hi
  obtain ⟨f', d, q, _, ht⟩ := Lib.array_elem (n := 7) (e := 9) (by kernel_rfl) hd1 i hi
  rw [one1] at ht
  obtain ⟨s, hs, _⟩ := DataW.trod_string (by kernel_rfl) ht
  exact ⟨s, c1 i _ (at1 _ _ _ hs)⟩
 have row : ∀ k, k < 11 → ∃ A c, W.cell? ⟨1, k, none⟩ = some (.slice A (usesL k).length c) ∧ Rd W W.heap.size 1 A (usesL k).length ((usesL k).map I64v) := by
  intro k hk
  obtain ⟨f', d, q, hd, ht⟩ := Lib.array_elem (n := 11) (e := 49) (by kernel_rfl) hd2 k hk
  rw [one2] at ht
  by_cases h0 : k = 0
  ·subst h0
   simp only [List.getElem?_cons_zero, Option.some.injEq] at hd
   subst hd
   rcases DataW.trod_slice (e := 3) (by kernel_rfl) ht with ⟨hc, _⟩ | ⟨a, len, cap, elems, rest, n, _, _, hx, _⟩
   ·exact ⟨none, 0, c2 0 _ (at1 _ _ _ hc), Rd.nil⟩
   ·simp at hx
  ·have hd' : d = .slice ((usesL k).map fun z : Nat => .lit (.int .i64 (z : Int))) [] := by
    have hk' : k = 1 ∨ k = 2 ∨ k = 3 ∨ k = 4 ∨ k = 5 ∨ k = 6 ∨ k = 7 ∨ k = 8 ∨ k = 9 ∨ k = 10 := by omega
    rcases hk' with rfl | rfl | rfl | rfl | rfl | rfl | rfl | rfl | rfl | rfl <;> exact (Option.some.inj hd).symm
   subst hd'
   obtain ⟨A, c, hc, hr⟩ := qs3 ht
   exact ⟨A, c, c2 k _ (at1 _ _ _ hc), hr⟩
 refine ⟨row, ?_, str, ?_⟩
 ·obtain ⟨A, c, h1, _⟩ := row 0 (by omega)
  exact World.block_lt_of_cell? W _ h1
 ·obtain ⟨s, h1⟩ := str 0 (by omega)
  exact World.block_lt_of_cell? W _ h1
theorem qu1 : Tryd.prog.underlying 29 = some (.int .u32) := by kernel_rfl
set_option maxRecDepth 100000 in
theorem qkf {W : World} (h : laidMetH Tryd.prog Rows.streamCutsRow.laid W) : LaidX W.heap.size W := by
 have hl := ql6 h
 rw [MakeChecks.laidMetH_plain _ _ _ (by kernel_rfl)] at h
 obtain ⟨g1, t1, cs1, f1, p1, hg1, ht1, hv1, hd1⟩ := Lib.laidMet.reads h (n := "quantum/crc.halves") (d := Rows.laid_quantum_crc_halves) (List.mem_cons_of_mem _ (List.mem_cons_of_mem _ (List.mem_cons_self ..)))
 obtain ⟨g2, t2, cs2, f2, p2, hg2, ht2, hv2, hd2⟩ := Lib.laidMet.reads h (n := "quantum/block.magic") (d := Rows.laid_quantum_block_magic) (List.mem_cons_of_mem _ (List.mem_cons_of_mem _ (List.mem_cons_of_mem _ (List.mem_cons_self ..))))
 have gg1 : Tryd.prog.globalNamed "quantum/crc.halves" = some 2 := by kernel_rfl
 have gg2 : Tryd.prog.globalNamed "quantum/block.magic" = some 0 := by kernel_rfl
 obtain rfl := Option.some.inj (gg1.symm.trans hg1)
 obtain rfl := Option.some.inj (gg2.symm.trans hg2)
 have ty1 : (Tryd.prog.globals[2]?).map (·.type) = some 196 := by kernel_rfl
 have ty2 : (Tryd.prog.globals[0]?).map (·.type) = some 105 := by kernel_rfl
 obtain rfl := Option.some.inj (ty1.symm.trans ht1)
 obtain rfl := Option.some.inj (ty2.symm.trans ht2)
 have one1 : Tryd.prog.cellsOf 29 = 1 := by kernel_rfl
 have one2 : Tryd.prog.cellsOf 5 = 1 := by kernel_rfl
 have c1 : ∀ i v, cs1.toList[i]? = some v → W.cell? ⟨2, i, none⟩ = some v := fun i v hv => by
  rw [World.var?_cell gg1 hv1 i]; simpa using hv
 have c2 : ∀ i v, cs2.toList[i]? = some v → W.cell? ⟨0, i, none⟩ = some v := fun i v hv => by
  rw [World.var?_cell gg2 hv2 i]; simpa using hv
 have at1 : ∀ (cs : List Value) (i : Nat) (v : Value), (cs.drop (i * 1)).take 1 = [v] → cs[i]? = some v := by
  intro cs i v h
  have := congrArg (·[0]?) h
  simpa [List.getElem?_take, List.getElem?_drop] using this
 have hal : ∀ k, k < 16 → W.cell? ⟨2, k, none⟩ = some (.int .u32 ((qa2.getD k 0 : Nat) : Int)) := by
  intro k hk
  obtain ⟨f', d, q, hd, ht⟩ := Lib.array_elem (n := 16) (e := 29) (by kernel_rfl) hd1 k hk
  rw [one1] at ht
  have hdk : d = .lit (.int .u32 ((qa2.getD k 0 : Nat) : Int)) := by
   have hk' : k = 0 ∨ k = 1 ∨ k = 2 ∨ k = 3 ∨ k = 4 ∨ k = 5 ∨ k = 6 ∨ k = 7 ∨ k = 8 ∨ k = 9 ∨ k = 10 ∨ k = 11 ∨ k = 12 ∨ k = 13 ∨ k = 14 ∨ k = 15 := by omega
   rcases hk' with rfl | rfl | rfl | rfl | rfl | rfl | rfl | rfl | rfl | rfl | rfl | rfl | rfl | rfl | rfl | rfl <;> exact (Option.some.inj hd).symm
  subst hdk
  obtain ⟨z, e1, e2, _⟩ := DataW.trod_int qu1 ht
  have e2 := congrArg Prod.fst e2
  simp only [DataW.lit.injEq, Lit.int.injEq, true_and] at e2
  exact c1 k _ (by rw [at1 _ _ _ e1, ← e2])
 have mag : ∀ k, k < 2 → W.cell? ⟨0, k, none⟩ = some (.int .u8 (([113, 116].getD k 0 : Nat) : Int)) := by
  intro k hk
  obtain ⟨f', d, q, hd, ht⟩ := Lib.array_elem (n := 2) (e := 5) (by kernel_rfl) hd2 k hk
  rw [one2] at ht
  have hdk : d = .lit (.int .u8 (([113, 116].getD k 0 : Nat) : Int)) := by
   have hk' : k = 0 ∨ k = 1 := by omega
   rcases hk' with rfl | rfl <;> exact (Option.some.inj hd).symm
  subst hdk
  obtain ⟨z, e1, e2, _⟩ := DataW.trod_int qt1 ht
  have e2 := congrArg Prod.fst e2
  simp only [DataW.lit.injEq, Lit.int.injEq, true_and] at e2
  exact c2 k _ (by rw [at1 _ _ _ e1, ← e2])
 exact ⟨hl, hal, World.block_lt_of_cell? W _ (hal 0 (by omega)), mag 0 (by omega), mag 1 (by omega), World.block_lt_of_cell? W _ (mag 0 (by omega))⟩
end Go.Proofs.YtfeheccoijnbaaaDoor
namespace Go.Proofs.YtfeheccoijnbaaaDoor
open Go.RowKit
theorem qs4 (n : Nat) (hn : n ≤ 1000000000000) (w : World) :
    Calls Tryd.prog 80 #[.slice none 0 0, .int .i64 (n : Int)] w fun r w' => (∃ A c, r = .returned (.slice A 0 c) ∧ w'.ownsRow w.heap.size 5 1 (.slice A 0 c) 0 []) ∧ Below w.heap.size w w' := by
 refine qg (vs := [.slice none 0 0, vI n]) Tryd.func80 rfl rfl (by kernel_rfl) (σ0 := [(0, .slice none 0 0), (1, vI n)]) rfl ?_
 intro a HF
 have HM := Mem.start w
 refine wp_seq (qa ?_)
 refine fp HF 1 0 [(4, .slice none 0 0)] fun a HF => ?_
 refine qb rfl (wp_seq (wp_seq (qa ?_)))
 refine fp HF 2 0 [(6, .bool (decide ((n : Int) < (0 : Int))))] fun a HF => ?_
 refine qb rfl ?_
 rcases HF.tf 6 rfl with ⟨hb6, HF⟩ | ⟨hb6, HF⟩
 ·
  have hd6 := of_decide_eq_true hb6
  omega
 have hd6 := of_decide_eq_false hb6
 refine qd HF rfl (wp_skip (wp_seq (wp_seq (qa ?_))))
 refine fp HF 2 0 [(9, .slice none 0 0), (8, vI n)] fun a HF => ?_
 refine fy HF HM 2 rfl rfl rfl (Yl.cap rfl rfl (by kernel_rfl)) fun a HF => ?_
 refine fp HF 1 3 [(11, .slice none 0 0)] fun a HF => ?_
 refine fy HF HM 4 rfl rfl rfl (Yl.len rfl rfl (by kernel_rfl)) fun a HF => ?_
 refine fp HF 2 5 [(14, vI (IntKind.i64.wrap ((n : Int) - 0)))] fun a HF => ?_
 replace HF := HF.sp 14 (vI n) rfl (qo (by omega) (by omega))
 refine fp HF 1 7 [(1, vI n)] fun a HF => ?_
 refine qb rfl (wp_seq (qa ?_))
 refine fp HF 2 0 [(16, .bool (decide ((n : Int) > (0 : Int))))] fun a HF => ?_
 refine qb rfl ?_
 rcases HF.tf 16 rfl with ⟨hb16, HF⟩ | ⟨hb16, HF⟩
 ·
  have hd16 := of_decide_eq_true hb16
  refine qe HF rfl (qa ?_)
  refine fp HF 2 0 [(18, .slice none 0 0), (17, .slice none 0 0)] fun a HF => ?_
  refine fy HF HM 2 rfl rfl rfl (Yl.cap rfl rfl (by kernel_rfl)) fun a HF => ?_
  refine fy HF HM 3 rfl rfl rfl (v := .slice none 0 0) (Yl.qcc ei_u8 (j := 0) rfl rfl rfl (by omega)) fun a HF => ?_
  refine fp HF 1 4 [(21, vI n)] fun a HF => ?_
  refine fo HF 5 rfl rfl ?_
  refine qjd HF HM (kn := .i64) (m := n) rfl ei_u8 (by kernel_rfl) rfl rfl (by omega) (by omega) (by omega) rfl (by decide) ?_
  clear HF HM; intro a w22 g22 c22 HF HM hc22
  refine fp HF 1 6 [(23, .slice none 0 0)] fun a HF => ?_
  refine fy HF HM 7 rfl rfl rfl (Yl.len rfl rfl (by kernel_rfl)) fun a HF => ?_
  refine fy HF HM 8 rfl rfl rfl (v := vS g22 0 c22) (Yl.qcc ei_u8 (j := 0) rfl rfl rfl (by omega)) fun a HF => ?_
  refine fp HF 1 9 [(0, vS g22 0 c22)] fun a HF => ?_
  refine qb rfl ?_
  replace HM := (HM.shrink (i := 0) (k := 0) rfl (Nat.zero_le _) (fun h => by cases h)).asRow (i := 0) (ys := []) rfl (by simp)
  refine wp_seq (qa ?_)
  refine fp HF 2 0 [(4, vS g22 0 c22)] fun a HF => ?_
  refine qb rfl (wp_ret ?_)
  exact ret1 rfl HF (.tmp HF rfl) (⟨⟨_, _, rfl, HM.own (i := 0) rfl⟩, HM.below⟩)
 have hd16 := of_decide_eq_false hb16
 refine qd HF rfl (wp_skip (wp_seq (qa ?_)))
 refine fp HF 2 0 [(4, .slice none 0 0)] fun a HF => ?_
 refine qb rfl (wp_ret ?_)
 exact ret1 rfl HF (.tmp HF rfl) (⟨⟨_, _, rfl, World.ownsRow_nil _ _ _ _⟩, HM.below⟩)
theorem qob (A : Option Addr) (n c : Nat) (ps : List Part) (w : World) (hr : Rd w w.heap.size 1 A n (ps.map Part.val)) (hln : ps.length = n) (hn : n ≤ 1000000) (hps : ∀ p ∈ ps, Rd w w.heap.size 1 p.A p.l.length (p.l.map B8)) (htot : (ps.flatMap (·.l)).length ≤ 1000000000000) :
    Calls Tryd.prog 65 #[.slice A n c] w (zz w (ps.flatMap (·.l))) := by
 refine qg (vs := [.slice A n c]) Tryd.func65 rfl rfl (by kernel_rfl) (σ0 := [(0, .slice A n c)]) rfl ?_
 intro a HF
 have HM := Mem.start w
 refine wp_seq (qa ?_)
 refine fp HF 1 0 [(2, .slice none 0 0)] fun a HF => ?_
 refine qb rfl (wp_seq (qa ?_))
 refine fp HF 1 0 [(3, vI 0)] fun a HF => ?_
 refine qb rfl (wp_seq (wp_seq (qa ?_)))
 refine fp HF 1 0 [(9, .slice A n c)] fun a HF => ?_
 refine fy HF HM 1 rfl rfl rfl (Yl.len rfl rfl (by kernel_rfl)) fun a HF => ?_
 refine fp HF 1 2 [(11, vI 0)] fun a HF => ?_
 refine qb rfl (wp_block ?_)
 refine qs (fun mS aS wS => ∃ (k : Nat), (k ≤ n) ∧ mS = n - k ∧ Fr aS 36 [] [(11, vI k), (10, vI n), (9, .slice A n c), (3, vI (((ps.take k).flatMap (·.l)).length)), (2, .slice none 0 0), (0, .slice A n c)] ∧ Mem w wS []) (m := n - 0) ⟨0, Nat.zero_le _, rfl, HF.sub (by kernel_rfl), HM.picks [] (by decide) rfl⟩ ?_
 clear HF HM; rintro mS a w_ ⟨k, hk, rfl, HF, HM⟩
 have hpk := qe0 (l := ps) k
 have hpk1 := qe0 (l := ps) (k + 1)
 refine wp_seq (qa ?_)
 refine fp HF 1 0 [(12, .bool (decide ((k : Int) < (n : Int))))] fun a HF => ?_
 refine qb rfl (wp_seq ?_)
 rcases HF.tf 12 rfl with ⟨hb12, HF⟩ | ⟨hb12, HF⟩
 ·
  have hd12 := of_decide_eq_true hb12
  have hk12 : k < n := by omega
  refine qe HF rfl (wp_skip (wp_seq (wp_block (wp_seq (qa ?_)))))
  obtain ⟨gA, oA, rfl, _⟩ := hr.zm (Nat.lt_of_le_of_lt (Nat.zero_le _) (show k < n from by omega)) (by decide)
  refine fy HF HM 0 rfl rfl rfl (v := vP gA (oA + k * 1)) (Yl.ix gA oA k 1 rfl rfl rfl) fun a HF => ?_
  refine fy HF HM 1 rfl rfl rfl (v := .slice ((ps.getD k (⟨none, 0, []⟩ : Part)).A) ((ps.getD k (⟨none, 0, []⟩ : Part)).l.length) ((ps.getD k (⟨none, 0, []⟩ : Part)).c)) (Yl.qh rfl rfl (by kernel_rfl) (fun _ h => (h.old hr).qbw (k := k) (qaw (F := Part.val) (k := k) (x := (ps.getD k (⟨none, 0, []⟩ : Part))) ((getD_at (⟨none, 0, []⟩ : Part) (k := k) (by first | omega | (simp; omega))))))) fun a HF => ?_
  refine fp HF 1 2 [(5, .slice ((ps.getD k (⟨none, 0, []⟩ : Part)).A) ((ps.getD k (⟨none, 0, []⟩ : Part)).l.length) ((ps.getD k (⟨none, 0, []⟩ : Part)).c))] fun a HF => ?_
  refine qb rfl (wp_seq (qa ?_))
  refine fp HF 2 0 [(16, .slice ((ps.getD k (⟨none, 0, []⟩ : Part)).A) ((ps.getD k (⟨none, 0, []⟩ : Part)).l.length) ((ps.getD k (⟨none, 0, []⟩ : Part)).c)), (15, vI (((ps.take k).flatMap (·.l)).length))] fun a HF => ?_
  refine fy HF HM 2 rfl rfl rfl (Yl.len rfl rfl (by kernel_rfl)) fun a HF => ?_
  refine fp HF 1 3 [(18, vI (IntKind.i64.wrap ((((ps.take k).flatMap (·.l)).length : Int) + (((ps.getD k (⟨none, 0, []⟩ : Part)).l.length : Nat) : Int))))] fun a HF => ?_
  replace HF := HF.sp 18 (vI (((ps.take (k + 1)).flatMap (·.l)).length)) rfl (qo (by rw [qct (d := (⟨none, 0, []⟩ : Part)) (by omega), List.length_append]; omega) (by have := qe0 (l := ps) (k + 1); omega))
  refine fp HF 1 4 [(3, vI (((ps.take (k + 1)).flatMap (·.l)).length))] fun a HF => ?_
  refine qb rfl (wp_seq (qa ?_))
  refine fp HF 2 0 [(20, .bool (decide ((((ps.take (k + 1)).flatMap (·.l)).length : Int) < (0 : Int))))] fun a HF => ?_
  refine qb rfl ?_
  rcases HF.tf 20 rfl with ⟨hb20, HF⟩ | ⟨hb20, HF⟩
  ·
   have hd20 := of_decide_eq_true hb20
   omega
  have hd20 := of_decide_eq_false hb20
  refine qd HF rfl (wp_skip (qa ?_))
  refine fp HF 1 0 [(22, vI (IntKind.i64.wrap ((k : Int) + 1)))] fun a HF => ?_
  replace HF := HF.sp 22 (vI (k + 1 : Nat)) rfl (qo (by omega) (by omega))
  refine fp HF 1 1 [(11, vI (k + 1 : Nat))] fun a HF => ?_
  refine qb rfl ?_
  exact ⟨_, (by omega), k + 1, by omega, rfl, HF.sub (by kernel_rfl), HM.picks [] (by decide) rfl⟩
 have hd12 := of_decide_eq_false hb12
 obtain rfl : n = k := by omega
 refine qd HF rfl (wp_exit (wp_seq (qa ?_)))
 refine fp HF 1 0 [(23, vI (((ps.take n).flatMap (·.l)).length))] fun a HF => ?_
 refine fo HF 1 rfl rfl ?_
 refine e_cl HF [.slice none 0 0, vI (((ps.take n).flatMap (·.l)).length)] rfl rfl (qs4 _ (by omega) _) ?_
 rintro _ w24 ⟨⟨A24, c24, rfl, ho⟩, hbw⟩
 refine ⟨_, rfl, ?_⟩
 replace HM := HM.callRow hbw ho
 clear HF; intro a HF
 refine fp HF 1 2 [(6, .slice A24 0 c24)] fun a HF => ?_
 refine qb rfl (wp_seq (wp_seq (qa ?_)))
 refine fp HF 1 0 [(25, .slice A n c)] fun a HF => ?_
 refine fy HF HM 1 rfl rfl rfl (Yl.len rfl rfl (by kernel_rfl)) fun a HF => ?_
 refine fp HF 1 2 [(27, vI 0)] fun a HF => ?_
 refine qb rfl (wp_block ?_)
 refine qs (fun mS aS wS => ∃ (k : Nat) (Ak : Option Addr) (ck : Nat), (k ≤ n) ∧ (((ps.take k).flatMap (·.l)).length ≤ ck) ∧ mS = n - k ∧ Fr aS 36 [] [(27, vI k), (26, vI n), (25, .slice A n c), (6, .slice Ak (((ps.take k).flatMap (·.l)).length) ck), (12, .bool false), (11, vI n), (10, vI n), (9, .slice A n c), (3, vI (((ps.take n).flatMap (·.l)).length)), (2, .slice none 0 0), (0, .slice A n c)] ∧ Mem w wS [.row (.slice Ak (((ps.take k).flatMap (·.l)).length) ck) (((ps.take k).flatMap (·.l)).length) (((ps.take k).flatMap (·.l)).map B8) 5 1]) (m := n - 0) ⟨0, A24, c24, Nat.zero_le _, Nat.zero_le _, rfl, HF.sub (by kernel_rfl), HM.picks [0] (by decide) rfl⟩ ?_
 clear HF HM; rintro mS a w_ ⟨k, Ak, ck, hk, hck, rfl, HF, HM⟩
 refine wp_seq (qa ?_)
 refine fp HF 1 0 [(28, .bool (decide ((k : Int) < (n : Int))))] fun a HF => ?_
 refine qb rfl (wp_seq ?_)
 rcases HF.tf 28 rfl with ⟨hb28, HF⟩ | ⟨hb28, HF⟩
 ·
  have hd28 := of_decide_eq_true hb28
  have hk28 : k < n := by omega
  refine qe HF rfl (wp_skip (wp_seq (wp_block (wp_seq (qa ?_)))))
  obtain ⟨gA, oA, rfl, _⟩ := hr.zm (Nat.lt_of_le_of_lt (Nat.zero_le _) (show k < n from by omega)) (by decide)
  refine fy HF HM 0 rfl rfl rfl (v := vP gA (oA + k * 1)) (Yl.ix gA oA k 1 rfl rfl rfl) fun a HF => ?_
  refine fy HF HM 1 rfl rfl rfl (v := .slice ((ps.getD k (⟨none, 0, []⟩ : Part)).A) ((ps.getD k (⟨none, 0, []⟩ : Part)).l.length) ((ps.getD k (⟨none, 0, []⟩ : Part)).c)) (Yl.qh rfl rfl (by kernel_rfl) (fun _ h => (h.old hr).qbw (k := k) (qaw (F := Part.val) (k := k) (x := (ps.getD k (⟨none, 0, []⟩ : Part))) ((getD_at (⟨none, 0, []⟩ : Part) (k := k) (by first | omega | (simp; omega))))))) fun a HF => ?_
  refine fp HF 1 2 [(8, .slice ((ps.getD k (⟨none, 0, []⟩ : Part)).A) ((ps.getD k (⟨none, 0, []⟩ : Part)).l.length) ((ps.getD k (⟨none, 0, []⟩ : Part)).c))] fun a HF => ?_
  refine qb rfl (qa ?_)
  refine fp HF 2 0 [(32, .slice ((ps.getD k (⟨none, 0, []⟩ : Part)).A) ((ps.getD k (⟨none, 0, []⟩ : Part)).l.length) ((ps.getD k (⟨none, 0, []⟩ : Part)).c)), (31, .slice Ak (((ps.take k).flatMap (·.l)).length) ck)] fun a HF => ?_
  refine fo HF 2 rfl rfl ?_
  refine qz HF HM (i := 0) rfl ei_u8 rfl rfl rfl (news := ((ps.getD k (⟨none, 0, []⟩ : Part)).l.map B8)) (HM.old (hps _ (qaz _ (by omega)))) (qbp _) (by have := qe0 (l := ps) (k + 1); rw [qct (d := (⟨none, 0, []⟩ : Part)) (by omega), List.length_append] at this; omega) (by have := qe0 (l := ps) (k + 1); rw [qct (d := (⟨none, 0, []⟩ : Part)) (by omega), List.length_append] at this; omega) rfl (by decide) ?_
  clear HF HM; intro a w33 A33 c33 HF HM hc33
  refine fp HF 1 3 [(6, .slice A33 (((ps.take k).flatMap (·.l)).length + (ps.getD k (⟨none, 0, []⟩ : Part)).l.length) c33)] fun a HF => ?_
  refine qb rfl ?_
  have hnA33 : ((ps.take k).flatMap (·.l)).length + (ps.getD k (⟨none, 0, []⟩ : Part)).l.length = ((ps.take (k + 1)).flatMap (·.l)).length := by rw [qct (d := (⟨none, 0, []⟩ : Part)) (by omega), List.length_append]
  replace HM := HM.reRow (i := 0) (ys := ((ps.take (k + 1)).flatMap (·.l)).map B8) rfl hnA33 (by rw [qct (d := (⟨none, 0, []⟩ : Part)) (by omega), List.map_append])
  rw [hnA33] at hc33
  replace HF := HF.as (t := 6) (u := .slice A33 (((ps.take (k + 1)).flatMap (·.l)).length) c33) rfl (by rw [hnA33])
  replace HF := HF.as (t := 33) (u := .slice A33 (((ps.take (k + 1)).flatMap (·.l)).length) c33) rfl (by rw [hnA33])
  refine qa ?_
  refine fp HF 1 0 [(34, vI (IntKind.i64.wrap ((k : Int) + 1)))] fun a HF => ?_
  replace HF := HF.sp 34 (vI (k + 1 : Nat)) rfl (qo (by omega) (by omega))
  refine fp HF 1 1 [(27, vI (k + 1 : Nat))] fun a HF => ?_
  refine qb rfl ?_
  exact ⟨_, (by omega), k + 1, A33, c33, by omega, hc33, rfl, HF.sub (by kernel_rfl), HM.picks [0] (by decide) rfl⟩
 have hd28 := of_decide_eq_false hb28
 obtain rfl : n = k := by omega
 refine qd HF rfl (wp_exit (wp_seq (qa ?_)))
 refine fp HF 2 0 [(2, .slice Ak (((ps.take n).flatMap (·.l)).length) ck)] fun a HF => ?_
 refine qb rfl (wp_ret ?_)
 exact ret1 rfl HF (.tmp HF rfl) (qga (HM.own (i := 0) rfl) hck (by rw [List.take_of_length_le (by omega)]) (by rw [List.take_of_length_le (by omega)]) HM.below)
theorem qoc (c : Nat) (hc : c < 4294967296) (A : Option Addr) (n cp : Nat) (l : List Nat) (B : Nat) (w : World) (hL : LaidX B w) (hB : B ≤ w.heap.size) (hr : Rd w w.heap.size 1 A n (l.map B8)) (hln : l.length = n) (hn : n ≤ 140737488355328) (hl : ∀ b ∈ l, b < 256) :
    Calls Tryd.prog 94 #[.int .u32 (c : Int), .slice A n cp] w (Is w (.int .u32 (qu c l : Int))) := by
 refine qg (vs := [vW c, .slice A n cp]) Tryd.func94 rfl rfl (by kernel_rfl) (σ0 := [(0, vW c), (1, .slice A n cp)]) rfl ?_
 intro a HF
 have HM := Mem.start w
 refine wp_seq (qa ?_)
 refine fp HF 1 0 [(4, vW 0)] fun a HF => ?_
 refine qb rfl (wp_seq (wp_seq (qa ?_)))
 refine fp HF 1 0 [(7, .slice A n cp)] fun a HF => ?_
 refine fy HF HM 1 rfl rfl rfl (Yl.len rfl rfl (by kernel_rfl)) fun a HF => ?_
 refine fp HF 1 2 [(9, vI 0)] fun a HF => ?_
 refine qb rfl (wp_block ?_)
 refine qs (fun mS aS wS => ∃ (k : Nat), (k ≤ n) ∧ mS = n - k ∧ Fr aS 33 [] [(9, vI k), (8, vI n), (7, .slice A n cp), (4, vW 0), (0, vW (qu c (l.take k)))] ∧ Mem w wS []) (m := n - 0) ⟨0, Nat.zero_le _, rfl, HF.sub (by kernel_rfl), HM.picks [] (by decide) rfl⟩ ?_
 clear HF HM; rintro mS a w_ ⟨k, hk, rfl, HF, HM⟩
 have hcr := qe4 (l.take k) hc (qbe hl k)
 refine wp_seq (qa ?_)
 refine fp HF 1 0 [(10, .bool (decide ((k : Int) < (n : Int))))] fun a HF => ?_
 refine qb rfl (wp_seq ?_)
 rcases HF.tf 10 rfl with ⟨hb10, HF⟩ | ⟨hb10, HF⟩
 ·
  have hd10 := of_decide_eq_true hb10
  refine qe HF rfl (wp_skip (wp_seq (wp_block (wp_seq (qa ?_)))))
  obtain ⟨gA, oA, rfl, _⟩ := hr.zm (Nat.lt_of_le_of_lt (Nat.zero_le _) (show k < n from by omega)) (by decide)
  refine fy HF HM 0 rfl rfl rfl (v := vP gA (oA + k * 1)) (Yl.ix gA oA k 1 rfl rfl rfl) fun a HF => ?_
  have hx34 := getD_lt hl (k := k) (by first | omega | (simp; omega))
  refine fy HF HM 1 rfl rfl rfl (v := vB (l.getD k 0)) (Yl.qh rfl rfl (by kernel_rfl) (fun _ h => (h.old hr).qbw (k := k) (qaw (F := B8) (k := k) (x := (l.getD k 0)) ((getD_at 0 (k := k) (by first | omega | (simp; omega))))))) fun a HF => ?_
  refine fp HF 1 2 [(6, vB (l.getD k 0))] fun a HF => ?_
  refine qb rfl (wp_seq (qa ?_))
  refine fp HF 3 0 [(15, vW (IntKind.u32.wrap ((l.getD k 0) : Int))), (13, vW (qu c (l.take k)))] fun a HF => ?_
  replace HF := HF.sp 15 (vW (l.getD k 0)) rfl (qdm rfl (by omega))
  refine fp HF 1 3 [(16, vW (IntKind.u32.wrap (BitVec.ofInt (IntKind.u32).bits (qu c (l.take k) : Int) ^^^ BitVec.ofInt (IntKind.u32).bits ((l.getD k 0) : Int)).toNat))] fun a HF => ?_
  replace HF := HF.sp 16 (vW ((qu c (l.take k)) ^^^ (l.getD k 0) : Nat)) rfl (qjc (m := qu c (l.take k)) (n := (l.getD k 0)) (by omega) (by omega))
  refine fp HF 1 4 [(0, vW ((qu c (l.take k)) ^^^ (l.getD k 0) : Nat))] fun a HF => ?_
  refine qb rfl ?_
  have hy := qe3 hcr (show l.getD k 0 < 4294967296 by omega)
  refine wp_seq (qa ?_)
  refine fp HF 2 0 [(18, vW (Int.fdiv (((qu c (l.take k)) ^^^ (l.getD k 0) : Nat) : Int) (2 ^ (min (4 : Int).toNat (IntKind.u32).bits))))] fun a HF => ?_
  replace HF := HF.sp 18 (vW (((qu c (l.take k)) ^^^ (l.getD k 0)) / 16 : Nat)) rfl (qd0 .u32 ((qu c (l.take k)) ^^^ (l.getD k 0)) (j := 4) (q := 16) rfl rfl)
  refine fp HF 2 2 [(20, vW (IntKind.u32.wrap (BitVec.ofInt (IntKind.u32).bits (((qu c (l.take k)) ^^^ (l.getD k 0) : Nat) : Int) &&& BitVec.ofInt (IntKind.u32).bits 15).toNat))] fun a HF => ?_
  replace HF := HF.sp 20 (vW (((qu c (l.take k)) ^^^ (l.getD k 0)) % 16 : Nat)) rfl (qm6 (n := 15) (j := 4) rfl (by decide) (by omega))
  refine fy HF HM 4 rfl rfl rfl (v := vP 2 ((((qu c (l.take k)) ^^^ (l.getD k 0)) % 16) * 1)) ((Yl.qea (ad := ⟨2, 0, none⟩) (m := 16) (y := ((qu c (l.take k)) ^^^ (l.getD k 0)) % 16) (sz := 1) rfl rfl rfl (by kernel_rfl) (by omega)).as (by rw [Addr.add_mid, Nat.zero_add])) fun a HF => ?_
  refine fy HF HM 5 rfl rfl rfl (v := vW (qa2.getD (((qu c (l.take k)) ^^^ (l.getD k 0)) % 16) 0)) (Yl.qh rfl rfl (by kernel_rfl) (fun _ h => qm9 hL h hB (k := (((qu c (l.take k)) ^^^ (l.getD k 0)) % 16)) (by omega))) fun a HF => ?_
  refine fp HF 1 6 [(23, vW (IntKind.u32.wrap (BitVec.ofInt (IntKind.u32).bits ((((qu c (l.take k)) ^^^ (l.getD k 0)) / 16 : Nat) : Int) ^^^ BitVec.ofInt (IntKind.u32).bits (qa2.getD (((qu c (l.take k)) ^^^ (l.getD k 0)) % 16) 0 : Int)).toNat))] fun a HF => ?_
  replace HF := HF.sp 23 (vW (nib (qu c (l.take k) ^^^ l.getD k 0))) rfl (by have h := qjc (m := (qu c (l.take k) ^^^ l.getD k 0) / 16) (n := qa2.getD ((qu c (l.take k) ^^^ l.getD k 0) % 16) 0) (by omega) (qgy _ (by omega)); exact h)
  refine fp HF 1 7 [(0, vW (nib (qu c (l.take k) ^^^ l.getD k 0)))] fun a HF => ?_
  refine qb rfl ?_
  have hz := qv7 hy
  refine qa ?_
  refine fp HF 2 0 [(25, vW (Int.fdiv (nib (qu c (l.take k) ^^^ l.getD k 0) : Int) (2 ^ (min (4 : Int).toNat (IntKind.u32).bits))))] fun a HF => ?_
  replace HF := HF.sp 25 (vW ((nib (qu c (l.take k) ^^^ l.getD k 0)) / 16 : Nat)) rfl (qd0 .u32 (nib (qu c (l.take k) ^^^ l.getD k 0)) (j := 4) (q := 16) rfl rfl)
  refine fp HF 2 2 [(27, vW (IntKind.u32.wrap (BitVec.ofInt (IntKind.u32).bits (nib (qu c (l.take k) ^^^ l.getD k 0) : Int) &&& BitVec.ofInt (IntKind.u32).bits 15).toNat))] fun a HF => ?_
  replace HF := HF.sp 27 (vW ((nib (qu c (l.take k) ^^^ l.getD k 0)) % 16 : Nat)) rfl (qm6 (n := 15) (j := 4) rfl (by decide) (by omega))
  refine fy HF HM 4 rfl rfl rfl (v := vP 2 (((nib (qu c (l.take k) ^^^ l.getD k 0)) % 16) * 1)) ((Yl.qea (ad := ⟨2, 0, none⟩) (m := 16) (y := (nib (qu c (l.take k) ^^^ l.getD k 0)) % 16) (sz := 1) rfl rfl rfl (by kernel_rfl) (by omega)).as (by rw [Addr.add_mid, Nat.zero_add])) fun a HF => ?_
  refine fy HF HM 5 rfl rfl rfl (v := vW (qa2.getD ((nib (qu c (l.take k) ^^^ l.getD k 0)) % 16) 0)) (Yl.qh rfl rfl (by kernel_rfl) (fun _ h => qm9 hL h hB (k := ((nib (qu c (l.take k) ^^^ l.getD k 0)) % 16)) (by omega))) fun a HF => ?_
  refine fp HF 1 6 [(30, vW (IntKind.u32.wrap (BitVec.ofInt (IntKind.u32).bits (((nib (qu c (l.take k) ^^^ l.getD k 0)) / 16 : Nat) : Int) ^^^ BitVec.ofInt (IntKind.u32).bits (qa2.getD ((nib (qu c (l.take k) ^^^ l.getD k 0)) % 16) 0 : Int)).toNat))] fun a HF => ?_
  replace HF := HF.sp 30 (vW (qu c (l.take (k + 1)))) rfl (by have h := qjc (m := nib (qu c (l.take k) ^^^ l.getD k 0) / 16) (n := qa2.getD (nib (qu c (l.take k) ^^^ l.getD k 0) % 16) 0) (by omega) (qgy _ (by omega)); rw [ql5 (by omega)]; exact h)
  refine fp HF 1 7 [(0, vW (qu c (l.take (k + 1))))] fun a HF => ?_
  refine qb rfl (qa ?_)
  refine fp HF 1 0 [(31, vI (IntKind.i64.wrap ((k : Int) + 1)))] fun a HF => ?_
  replace HF := HF.sp 31 (vI (k + 1 : Nat)) rfl (qo (by omega) (by omega))
  refine fp HF 1 1 [(9, vI (k + 1 : Nat))] fun a HF => ?_
  refine qb rfl ?_
  exact ⟨_, (by omega), k + 1, by omega, rfl, HF.sub (by kernel_rfl), HM.picks [] (by decide) rfl⟩
 have hd10 := of_decide_eq_false hb10
 obtain rfl : n = k := by omega
 refine qd HF rfl (wp_exit (wp_seq (qa ?_)))
 refine fp HF 2 0 [(4, vW (qu c (l.take n)))] fun a HF => ?_
 refine qb rfl (wp_ret ?_)
 exact ret1 rfl HF (.tmp HF rfl) (⟨by rw [List.take_of_length_le (by omega)], HM.below⟩)
theorem qod (c : Nat) (hc0 : c < 4294967296) (A : Option Addr) (n cp : Nat) (l : List Nat) (B : Nat) (w : World) (hL : LaidX B w) (hB : B ≤ w.heap.size) (hr : Rd w w.heap.size 1 A n (l.map B8)) (hln : l.length = n) (hn : n ≤ 140737488355328) (hl : ∀ b ∈ l, b < 256) :
    Calls Tryd.prog 81 #[.int .u32 (c : Int), .slice A n cp] w (Is w (.int .u32 ((qu (c ^^^ 4294967295) l ^^^ 4294967295 : Nat) : Int))) := by
 refine qg (vs := [vW c, .slice A n cp]) Tryd.func81 rfl rfl (by kernel_rfl) (σ0 := [(0, vW c), (1, .slice A n cp)]) rfl ?_
 intro a HF
 have HM := Mem.start w
 refine wp_seq (qa ?_)
 refine fp HF 1 0 [(4, vW 0)] fun a HF => ?_
 refine qb rfl ?_
 have hc := qe3 hc0 (show 4294967295 < 4294967296 by decide)
 have hcr := qe4 l hc hl
 refine wp_seq (qa ?_)
 refine fp HF 1 0 [(5, vW c)] fun a HF => ?_
 refine fy HF HM 1 rfl rfl rfl (v := vW (c ^^^ 4294967295 : Nat)) (Yl.qwq (m := c) rfl rfl (by omega)) fun a HF => ?_
 refine fp HF 1 2 [(7, .slice A n cp)] fun a HF => ?_
 refine fo HF 3 rfl rfl ?_
 refine e_is HF HM [vW (c ^^^ 4294967295 : Nat), .slice A n cp] (vW (qu (c ^^^ 4294967295) l)) rfl rfl (qoc _ hc _ _ _ l B _ (hL.mem HM hB) (HM.le hB) (HM.old hr) hln hn hl) fun w8 hbw HM a HF => ?_
 refine fy HF HM 4 rfl rfl rfl (v := vW ((qu (c ^^^ 4294967295) l) ^^^ 4294967295 : Nat)) (Yl.qwq (m := qu (c ^^^ 4294967295) l) rfl rfl (by omega)) fun a HF => ?_
 refine fp HF 1 5 [(4, vW ((qu (c ^^^ 4294967295) l) ^^^ 4294967295 : Nat))] fun a HF => ?_
 refine qb rfl (wp_ret ?_)
 exact ret1 rfl HF (.tmp HF rfl) (⟨rfl, HM.below⟩)
theorem qid (A : Option Addr) (n cp : Nat) (l : List Nat) (B : Nat) (w : World) (hL : LaidX B w) (hB : B ≤ w.heap.size) (hr : Rd w w.heap.size 1 A n (l.map B8)) (hln : l.length = n) (hn : n ≤ 140737488355328) (hl : ∀ b ∈ l, b < 256) :
    Calls Tryd.prog 66 #[.slice A n cp] w (Is w (.int .u32 (zc l : Int))) := by
 refine qg (vs := [.slice A n cp]) Tryd.func66 rfl rfl (by kernel_rfl) (σ0 := [(0, .slice A n cp)]) rfl ?_
 intro a HF
 have HM := Mem.start w
 refine wp_seq (qa ?_)
 refine fp HF 1 0 [(2, vW 0)] fun a HF => ?_
 refine qb rfl (wp_seq (qa ?_))
 refine fp HF 1 0 [(3, .slice A n cp)] fun a HF => ?_
 refine fo HF 1 rfl rfl ?_
 refine e_cl HF [vW 0, .slice A n cp] rfl rfl (qod 0 (by decide) _ _ _ l B _ (hL.mem HM hB) (HM.le hB) (HM.old hr) hln hn hl) ?_
 rintro _ w4 ⟨rfl, hbw⟩
 rw [show (qu (0 ^^^ 4294967295) l ^^^ 4294967295 : Nat) = zc l from qs0 (qe4 l (by decide) hl)]
 refine ⟨_, rfl, ?_⟩
 replace HM := HM.call hbw
 clear HF; intro a HF
 refine fp HF 1 2 [(2, vW (zc l))] fun a HF => ?_
 refine qb rfl (wp_ret ?_)
 exact ret1 rfl HF (.tmp HF rfl) (⟨rfl, HM.below⟩)
theorem qu2 {w w' : World} {l : List Nat} {n c : Nat} {A : Option Addr} (hln : l.length = n) (ho : w'.ownsRow w.heap.size 5 1 (.slice A (0 + n + 4) c) (0 + n + 4) ([] ++ l.map B8 ++ (le4 (zc l)).map B8)) (hc : 0 + n + 4 ≤ c) (hb : Below w.heap.size w w') : qar w 0 (sealL l) (.returned (.tuple #[.slice A (0 + n + 4) c, .int .i64 0])) w' := by
 have e : 0 + n + 4 = (sealL l).length := by rw [qna]; omega
 rw [e] at ho hc ⊢
 refine ⟨⟨A, c, rfl, ?_, hc⟩, hb⟩
 have e2 : ([] ++ l.map B8 ++ (le4 (zc l)).map B8) = (sealL l).map B8 := by simp [sealL]
 rw [e2] at ho
 exact ho
theorem qs5 (A : Option Addr) (n cp : Nat) (l : List Nat) (B : Nat) (w : World) (hL : LaidX B w) (hB : B ≤ w.heap.size) (hr : Rd w w.heap.size 1 A n (l.map B8)) (hln : l.length = n) (hn : n ≤ 16777216) (hl : ∀ b ∈ l, b < 256) :
    Calls Tryd.prog 46 #[.slice A n cp] w (qar w 0 (sealL l)) := by
 refine qg (vs := [.slice A n cp]) Tryd.func46 rfl rfl (by kernel_rfl) (σ0 := [(0, .slice A n cp)]) rfl ?_
 intro a HF
 have HM := Mem.start w
 refine wp_seq (qa ?_)
 refine fp HF 2 0 [(3, vI 0), (2, .slice none 0 0)] fun a HF => ?_
 refine qb rfl (wp_seq (wp_seq (qa ?_)))
 refine fp HF 1 0 [(6, .slice A n cp)] fun a HF => ?_
 refine fy HF HM 1 rfl rfl rfl (Yl.len rfl rfl (by kernel_rfl)) fun a HF => ?_
 refine fp HF 1 2 [(8, .bool (decide ((n : Int) > (16777216 : Int))))] fun a HF => ?_
 refine qb rfl ?_
 rcases HF.tf 8 rfl with ⟨hb8, HF⟩ | ⟨hb8, HF⟩
 ·
  have hd8 := of_decide_eq_true hb8
  omega
 have hd8 := of_decide_eq_false hb8
 refine qd HF rfl (wp_skip (wp_seq (qa ?_)))
 refine fp HF 1 0 [(9, .slice A n cp)] fun a HF => ?_
 refine fo HF 1 rfl rfl ?_
 refine e_is HF HM [.slice A n cp] (vW (zc l)) rfl rfl (qid _ _ _ l B _ (hL.mem HM hB) (HM.le hB) (HM.old hr) (hln) (by omega) (hl)) fun w10 hbw HM a HF => ?_
 refine fp HF 1 2 [(4, vW (zc l))] fun a HF => ?_
 refine qb rfl ?_
 have hcs := qqp l
 refine wp_seq (qa ?_)
 refine fp HF 1 0 [(11, .slice A n cp)] fun a HF => ?_
 refine fy HF HM 1 rfl rfl rfl (Yl.len rfl rfl (by kernel_rfl)) fun a HF => ?_
 refine fp HF 1 2 [(13, vI (IntKind.i64.wrap ((n : Int) + 4)))] fun a HF => ?_
 replace HF := HF.sp 13 (vI (n + 4 : Nat)) rfl (qo (by omega) (by omega))
 refine fo HF 3 rfl rfl ?_
 refine quu HF HM (m := (n + 4)) rfl ei_u8 rfl rfl (by omega) (by omega) rfl (by decide) ?_
 clear HF HM; intro a w14 g14 HF HM
 refine fp HF 1 4 [(15, .slice A n cp)] fun a HF => ?_
 refine fo HF 5 rfl rfl ?_
 refine qz HF HM (i := 0) rfl ei_u8 rfl rfl rfl (news := (l.map B8)) (HM.old hr) (qbp _) (by omega) (by omega) rfl (by decide) ?_
 clear HF HM; intro a w16 A16 c16 HF HM hc16
 refine fp HF 1 6 [(5, .slice A16 (0 + n) c16)] fun a HF => ?_
 refine qb rfl (wp_seq (qa ?_))
 refine fp HF 3 0 [(19, vB (IntKind.u8.wrap (zc l : Int))), (17, .slice A16 (0 + n) c16)] fun a HF => ?_
 replace HF := HF.sp 19 (vB ((zc l) % 256 : Nat)) rfl (qcg (zc l))
 refine fp HF 2 3 [(21, vW (Int.fdiv (zc l : Int) (2 ^ (min (8 : Int).toNat (IntKind.u32).bits))))] fun a HF => ?_
 replace HF := HF.sp 21 (vW ((zc l) / 256 : Nat)) rfl (qd0 .u32 (zc l) (j := 8) (q := 256) rfl rfl)
 refine fp HF 1 5 [(22, vB (IntKind.u8.wrap (((zc l) / 256 : Nat) : Int)))] fun a HF => ?_
 replace HF := HF.sp 22 (vB (((zc l) / 256) % 256 : Nat)) rfl (qcg ((zc l) / 256))
 refine fp HF 2 6 [(24, vW (Int.fdiv (zc l : Int) (2 ^ (min (16 : Int).toNat (IntKind.u32).bits))))] fun a HF => ?_
 replace HF := HF.sp 24 (vW ((zc l) / 65536 : Nat)) rfl (qd0 .u32 (zc l) (j := 16) (q := 65536) rfl rfl)
 refine fp HF 1 8 [(25, vB (IntKind.u8.wrap (((zc l) / 65536 : Nat) : Int)))] fun a HF => ?_
 replace HF := HF.sp 25 (vB (((zc l) / 65536) % 256 : Nat)) rfl (qcg ((zc l) / 65536))
 refine fp HF 2 9 [(27, vW (Int.fdiv (zc l : Int) (2 ^ (min (24 : Int).toNat (IntKind.u32).bits))))] fun a HF => ?_
 replace HF := HF.sp 27 (vW ((zc l) / 16777216 : Nat)) rfl (qd0 .u32 (zc l) (j := 24) (q := 16777216) rfl rfl)
 refine fp HF 1 11 [(28, vB (IntKind.u8.wrap (((zc l) / 16777216 : Nat) : Int)))] fun a HF => ?_
 replace HF := HF.sp 28 (vB (((zc l) / 16777216) % 256 : Nat)) rfl (qcg ((zc l) / 16777216))
 refine fo HF 12 rfl rfl ?_
 refine zp HF HM (vs := [(0, vB ((zc l) % 256 : Nat)), (1, vB (((zc l) / 256) % 256 : Nat)), (2, vB (((zc l) / 65536) % 256 : Nat)), (3, vB (((zc l) / 16777216) % 256 : Nat))]) (cs := #[vB ((zc l) % 256 : Nat), vB (((zc l) / 256) % 256 : Nat), vB (((zc l) / 65536) % 256 : Nat), vB (((zc l) / 16777216) % 256 : Nat)]) rfl ei_u8 (by decide) rfl (by kernel_rfl) rfl (by decide) ?_
 clear HF HM; intro a w29 g29 HF HM
 refine fo HF 13 rfl rfl ?_
 refine qz HF HM (i := 1) rfl ei_u8 rfl rfl rfl (news := ((le4 (zc l)).map B8)) (HM.rdBlk (i := 0) (n := 4) (size := 1) rfl rfl) (qbp _) (by omega) (by omega) rfl (by decide) ?_
 clear HF HM; intro a w30 A30 c30 HF HM hc30
 refine fp HF 2 14 [(3, vI 0), (2, .slice A30 (0 + n + 4) c30)] fun a HF => ?_
 refine qb rfl (wp_ret ?_)
 replace HM := HM.picks (fs' := [.row (.slice A30 (0 + n + 4) c30) (0 + n + 4) (([] ++ (l.map B8)) ++ ((le4 (zc l)).map B8)) 5 1]) [1] (by decide) rfl
 exact ret2 rfl HF (.tmp HF rfl) (.tmp HF rfl) (qu2 hln (HM.own (i := 0) rfl) hc30 HM.below)
theorem qoe {l : List Nat} {n : Nat} (hln : l.length = n) (h : 4 ≤ n) : (((zc (l.take (n - 4)) : Nat) : Int) == ((l.getD (n - 4) 0 + l.getD (n - 4 + 1) 0 * 256 + l.getD (n - 4 + 2) 0 * 65536 + l.getD (n - 4 + 3) 0 * 16777216 : Nat) : Int)) = qbu l := by
 subst hln
 have hd : ∀ i, (l.drop (l.length - 4)).getD i 0 = l.getD (l.length - 4 + i) 0 := fun i => by rw [List.getD_eq_getElem?_getD, List.getElem?_drop, ← List.getD_eq_getElem?_getD]
 unfold qbu num4
 rw [hd, hd, hd, hd, Bool.eq_iff_iff, beq_iff_eq, decide_eq_true_eq]
 simp only [Nat.add_zero]
 constructor
 ·intro h1; exact ⟨h, by omega⟩
 ·intro h1; have := h1.2; omega
theorem qkg {l : List Nat} {n : Nat} (hln : l.length = n) (h : n < 4) : qbu l = false := by unfold qbu; rw [decide_eq_false]; omega
def numUp (l : List Nat) : Nat → Nat
 | 0 => 0
 | k + 1 => numUp l k * 256 + l.getD (3 - k) 0
theorem qkh (l : List Nat) : numUp l 4 = num4 l := by simp [numUp, num4]; omega
theorem qnb {l : List Nat} (hl : ∀ b ∈ l, b < 256) (hn : 4 ≤ l.length) : ∀ k, k ≤ 4 → numUp l k < 256 ^ k
 | 0, _ => by show 0 < 1; decide
 | k + 1, h => by
  have h1 := qnb hl hn k (by omega)
  have h2 := getD_lt hl (k := 3 - k) (by omega)
  rw [numUp, Nat.pow_succ]
  omega
theorem ql7 {l : List Nat} (hl : ∀ b ∈ l, b < 256) (hn : 4 ≤ l.length) {k : Nat} (h : k ≤ 4) : numUp l k < 4294967296 := by
 have h1 := qnb hl hn k h
 have h2 : (256 : Nat) ^ k ≤ 256 ^ 4 := Nat.pow_le_pow_right (by decide) h
 omega
theorem qof (A : Option Addr) (n cp : Nat) (l : List Nat) (B : Nat) (w : World) (hL : LaidX B w) (hB : B ≤ w.heap.size) (hr : Rd w w.heap.size 1 A n (l.map B8)) (hc : n ≤ cp) (hln : l.length = n) (hn : n ≤ 140737488355328) (hl : ∀ b ∈ l, b < 256) :
    Calls Tryd.prog 68 #[.slice A n cp] w (Is w (.bool (qbu l))) := by
 refine qg (vs := [.slice A n cp]) Tryd.func68 rfl rfl (by kernel_rfl) (σ0 := [(0, .slice A n cp)]) rfl ?_
 intro a HF
 have HM := Mem.start w
 refine wp_seq (qa ?_)
 refine fp HF 1 0 [(2, .bool false)] fun a HF => ?_
 refine qb rfl (wp_seq (qa ?_))
 refine fp HF 1 0 [(4, .slice A n cp)] fun a HF => ?_
 refine fy HF HM 1 rfl rfl rfl (Yl.len rfl rfl (by kernel_rfl)) fun a HF => ?_
 refine fp HF 1 2 [(6, vI (IntKind.i64.wrap ((n : Int) - 4)))] fun a HF => ?_
 replace HF := HF.sp 6 (vI ((n : Int) - 4)) rfl (qf8 ⟨by omega, by omega⟩)
 refine fp HF 1 3 [(3, vI ((n : Int) - 4))] fun a HF => ?_
 refine qb rfl (wp_seq (wp_seq (qa ?_)))
 refine fp HF 2 0 [(8, .bool (decide (((n : Int) - 4 : Int) < (0 : Int))))] fun a HF => ?_
 refine qb rfl ?_
 rcases HF.tf 8 rfl with ⟨hb8, HF⟩ | ⟨hb8, HF⟩
 ·
  have hd8 := of_decide_eq_true hb8
  refine qe HF rfl (wp_seq (qa ?_))
  refine fp HF 1 0 [(2, .bool false)] fun a HF => ?_
  refine qb rfl (wp_ret ?_)
  exact ret1 rfl HF (.tmp HF rfl) (⟨by rw [qkg hln (by omega)], HM.below⟩)
 have hd8 := of_decide_eq_false hb8
 replace HF := HF.as (t := 3) (u := .int .i64 ((n - 4 : Nat) : Int)) rfl (by congr 1; omega)
 refine qd HF rfl (wp_skip (wp_seq ?_))
 refine qac HM [] [] [] fun HM HS => ?_
 refine ap HF (fun _ => HS) [0, 1, 4, 5, 9, 10, 17, 18, 25, 26] #[true, true, false, false, true, true, false, false, false, true, true, false, false, false, false, false, false, true, true, false, false, false, false, false, false, true, true, false, false, false, false, false, false, false, false] [(35, vI (n - 4 : Nat)), (34, .slice A n cp), (27, vI (n - 4 : Nat)), (26, .slice A n cp), (19, vI (n - 4 : Nat)), (18, .slice A n cp), (14, vI (n - 4 : Nat)), (13, .slice A n cp), (10, vI (n - 4 : Nat)), (9, .slice A n cp)] fun a HF => ?_
 refine ay HF HS 2 rfl rfl rfl (v := .slice A (n - 4) cp) (Yl.qcc ei_u8 (j := n - 4) rfl rfl rfl (by omega)) fun a HF => ?_
 obtain ⟨gA, oA, rfl, _⟩ := hr.zm (Nat.lt_of_le_of_lt (Nat.zero_le _) (show n - 4 < n from by omega)) (by decide)
 refine ay HF HS 6 rfl rfl rfl (v := vP gA (oA + (n - 4) * 1)) (Yl.ix gA oA (n - 4) 1 rfl rfl rfl) fun a HF => ?_
 have hx40 := getD_lt hl (k := (n - 4)) (by first | omega | (simp; omega))
 refine ay HF HS 7 rfl rfl rfl (v := vB (l.getD (n - 4) 0)) (Yl.qh rfl rfl (by kernel_rfl) (fun _ h => (h.old hr).qbw (k := (n - 4)) (qaw (F := B8) (k := (n - 4)) (x := (l.getD (n - 4) 0)) ((getD_at 0 (k := (n - 4)) (by first | omega | (simp; omega))))))) fun a HF => ?_
 refine zg HF (fun _ => HS) (i := 8) rfl rfl (d := 17) rfl (by decide) (by kernel_rfl) (fun _ _ _ h => h) (v := vW (IntKind.u32.wrap ((l.getD (n - 4) 0) : Int))) (fun _ => Yl.pure (by kernel_rfl)) fun a HF => ?_
 replace HF := HF.sp 17 (vW (l.getD (n - 4) 0)) rfl (qdm rfl (by omega))
 refine zg HF (fun _ => HS) (i := 11) rfl rfl (d := 20) rfl (by decide) (by kernel_rfl) (fun _ _ _ h => h) (v := vI (IntKind.i64.wrap (((n - 4 : Nat) : Int) + 1))) (fun _ => Yl.pure (by kernel_rfl)) fun a HF => ?_
 replace HF := HF.sp 20 (vI ((n - 4) + 1 : Nat)) rfl (qo (by omega) (by omega))
 refine ay HF HS 12 rfl rfl rfl (v := vP gA (oA + ((n - 4) + 1) * 1)) (Yl.ix gA oA ((n - 4) + 1) 1 rfl rfl rfl) fun a HF => ?_
 have hx47 := getD_lt hl (k := ((n - 4) + 1)) (by first | omega | (simp; omega))
 refine ay HF HS 13 rfl rfl rfl (v := vB (l.getD ((n - 4) + 1) 0)) (Yl.qh rfl rfl (by kernel_rfl) (fun _ h => (h.old hr).qbw (k := ((n - 4) + 1)) (qaw (F := B8) (k := ((n - 4) + 1)) (x := (l.getD ((n - 4) + 1) 0)) ((getD_at 0 (k := ((n - 4) + 1)) (by first | omega | (simp; omega))))))) fun a HF => ?_
 refine zg HF (fun _ => HS) (i := 14) rfl rfl (d := 23) rfl (by decide) (by kernel_rfl) (fun _ _ _ h => h) (v := vW (IntKind.u32.wrap ((l.getD ((n - 4) + 1) 0) : Int))) (fun _ => Yl.pure (by kernel_rfl)) fun a HF => ?_
 replace HF := HF.sp 23 (vW (l.getD ((n - 4) + 1) 0)) rfl (qdm rfl (by omega))
 refine zg HF (fun _ => HS) (i := 15) rfl rfl (d := 24) rfl (by decide) (by kernel_rfl) (fun _ _ _ h => h) (v := vW (IntKind.u32.wrap (((l.getD ((n - 4) + 1) 0) : Int) * 2 ^ (min (8 : Int).toNat (IntKind.u32).bits)))) (fun _ => Yl.pure (by kernel_rfl)) fun a HF => ?_
 replace HF := HF.sp 24 (vW ((l.getD ((n - 4) + 1) 0) * 256 : Nat)) rfl (qdm (by rw [show (2 : Int) ^ (min (8 : Int).toNat (IntKind.u32).bits) = 256 from rfl]; omega) (by omega))
 refine zg HF (fun _ => HS) (i := 16) rfl rfl (d := 25) rfl (by decide) (by kernel_rfl) (fun _ _ _ h => h) (v := vW (IntKind.u32.wrap (BitVec.ofInt (IntKind.u32).bits ((l.getD (n - 4) 0) : Int) ||| BitVec.ofInt (IntKind.u32).bits (((l.getD ((n - 4) + 1) 0) * 256 : Nat) : Int)).toNat)) (fun _ => Yl.pure (by kernel_rfl)) fun a HF => ?_
 replace HF := HF.sp 25 (vW (l.getD (n - 4) 0 + l.getD (n - 4 + 1) 0 * 256 : Nat)) rfl (qje (m := l.getD (n - 4) 0) (n := l.getD (n - 4 + 1) 0) (j := 8) (p := 256) rfl (by omega) (by omega))
 refine zg HF (fun _ => HS) (i := 19) rfl rfl (d := 28) rfl (by decide) (by kernel_rfl) (fun _ _ _ h => h) (v := vI (IntKind.i64.wrap (((n - 4 : Nat) : Int) + 2))) (fun _ => Yl.pure (by kernel_rfl)) fun a HF => ?_
 replace HF := HF.sp 28 (vI ((n - 4) + 2 : Nat)) rfl (qo (by omega) (by omega))
 refine ay HF HS 20 rfl rfl rfl (v := vP gA (oA + ((n - 4) + 2) * 1)) (Yl.ix gA oA ((n - 4) + 2) 1 rfl rfl rfl) fun a HF => ?_
 have hx58 := getD_lt hl (k := ((n - 4) + 2)) (by first | omega | (simp; omega))
 refine ay HF HS 21 rfl rfl rfl (v := vB (l.getD ((n - 4) + 2) 0)) (Yl.qh rfl rfl (by kernel_rfl) (fun _ h => (h.old hr).qbw (k := ((n - 4) + 2)) (qaw (F := B8) (k := ((n - 4) + 2)) (x := (l.getD ((n - 4) + 2) 0)) ((getD_at 0 (k := ((n - 4) + 2)) (by first | omega | (simp; omega))))))) fun a HF => ?_
 refine zg HF (fun _ => HS) (i := 22) rfl rfl (d := 31) rfl (by decide) (by kernel_rfl) (fun _ _ _ h => h) (v := vW (IntKind.u32.wrap ((l.getD ((n - 4) + 2) 0) : Int))) (fun _ => Yl.pure (by kernel_rfl)) fun a HF => ?_
 replace HF := HF.sp 31 (vW (l.getD ((n - 4) + 2) 0)) rfl (qdm rfl (by omega))
 refine zg HF (fun _ => HS) (i := 23) rfl rfl (d := 32) rfl (by decide) (by kernel_rfl) (fun _ _ _ h => h) (v := vW (IntKind.u32.wrap (((l.getD ((n - 4) + 2) 0) : Int) * 2 ^ (min (16 : Int).toNat (IntKind.u32).bits)))) (fun _ => Yl.pure (by kernel_rfl)) fun a HF => ?_
 replace HF := HF.sp 32 (vW ((l.getD ((n - 4) + 2) 0) * 65536 : Nat)) rfl (qdm (by rw [show (2 : Int) ^ (min (16 : Int).toNat (IntKind.u32).bits) = 65536 from rfl]; omega) (by omega))
 refine zg HF (fun _ => HS) (i := 24) rfl rfl (d := 33) rfl (by decide) (by kernel_rfl) (fun _ _ _ h => h) (v := vW (IntKind.u32.wrap (BitVec.ofInt (IntKind.u32).bits ((l.getD (n - 4) 0 + l.getD (n - 4 + 1) 0 * 256 : Nat) : Int) ||| BitVec.ofInt (IntKind.u32).bits (((l.getD ((n - 4) + 2) 0) * 65536 : Nat) : Int)).toNat)) (fun _ => Yl.pure (by kernel_rfl)) fun a HF => ?_
 replace HF := HF.sp 33 (vW (l.getD (n - 4) 0 + l.getD (n - 4 + 1) 0 * 256 + l.getD (n - 4 + 2) 0 * 65536 : Nat)) rfl (qje (m := l.getD (n - 4) 0 + l.getD (n - 4 + 1) 0 * 256) (n := l.getD (n - 4 + 2) 0) (j := 16) (p := 65536) rfl (by omega) (by omega))
 refine zg HF (fun _ => HS) (i := 27) rfl rfl (d := 36) rfl (by decide) (by kernel_rfl) (fun _ _ _ h => h) (v := vI (IntKind.i64.wrap (((n - 4 : Nat) : Int) + 3))) (fun _ => Yl.pure (by kernel_rfl)) fun a HF => ?_
 replace HF := HF.sp 36 (vI ((n - 4) + 3 : Nat)) rfl (qo (by omega) (by omega))
 refine ay HF HS 28 rfl rfl rfl (v := vP gA (oA + ((n - 4) + 3) * 1)) (Yl.ix gA oA ((n - 4) + 3) 1 rfl rfl rfl) fun a HF => ?_
 have hx69 := getD_lt hl (k := ((n - 4) + 3)) (by first | omega | (simp; omega))
 refine ay HF HS 29 rfl rfl rfl (v := vB (l.getD ((n - 4) + 3) 0)) (Yl.qh rfl rfl (by kernel_rfl) (fun _ h => (h.old hr).qbw (k := ((n - 4) + 3)) (qaw (F := B8) (k := ((n - 4) + 3)) (x := (l.getD ((n - 4) + 3) 0)) ((getD_at 0 (k := ((n - 4) + 3)) (by first | omega | (simp; omega))))))) fun a HF => ?_
 refine zg HF (fun _ => HS) (i := 30) rfl rfl (d := 39) rfl (by decide) (by kernel_rfl) (fun _ _ _ h => h) (v := vW (IntKind.u32.wrap ((l.getD ((n - 4) + 3) 0) : Int))) (fun _ => Yl.pure (by kernel_rfl)) fun a HF => ?_
 replace HF := HF.sp 39 (vW (l.getD ((n - 4) + 3) 0)) rfl (qdm rfl (by omega))
 refine zg HF (fun _ => HS) (i := 31) rfl rfl (d := 40) rfl (by decide) (by kernel_rfl) (fun _ _ _ h => h) (v := vW (IntKind.u32.wrap (((l.getD ((n - 4) + 3) 0) : Int) * 2 ^ (min (24 : Int).toNat (IntKind.u32).bits)))) (fun _ => Yl.pure (by kernel_rfl)) fun a HF => ?_
 replace HF := HF.sp 40 (vW ((l.getD ((n - 4) + 3) 0) * 16777216 : Nat)) rfl (qdm (by rw [show (2 : Int) ^ (min (24 : Int).toNat (IntKind.u32).bits) = 16777216 from rfl]; omega) (by omega))
 refine zg HF (fun _ => HS) (i := 32) rfl rfl (d := 41) rfl (by decide) (by kernel_rfl) (fun _ _ _ h => h) (v := vW (IntKind.u32.wrap (BitVec.ofInt (IntKind.u32).bits ((l.getD (n - 4) 0 + l.getD (n - 4 + 1) 0 * 256 + l.getD (n - 4 + 2) 0 * 65536 : Nat) : Int) ||| BitVec.ofInt (IntKind.u32).bits (((l.getD ((n - 4) + 3) 0) * 16777216 : Nat) : Int)).toNat)) (fun _ => Yl.pure (by kernel_rfl)) fun a HF => ?_
 replace HF := HF.sp 41 (vW (l.getD (n - 4) 0 + l.getD (n - 4 + 1) 0 * 256 + l.getD (n - 4 + 2) 0 * 65536 + l.getD (n - 4 + 3) 0 * 16777216 : Nat)) rfl (qje (m := l.getD (n - 4) 0 + l.getD (n - 4 + 1) 0 * 256 + l.getD (n - 4 + 2) 0 * 65536) (n := l.getD (n - 4 + 3) 0) (j := 24) (p := 16777216) rfl (by omega) (by omega))
 refine qj [3] (by kernel_rfl) rfl ?_
 refine all_cons ?_ all_nil
 refine qn HF (i := 3) rfl rfl ?_
 refine e_is HF HM [.slice (some ⟨gA, oA, none⟩) (n - 4) cp] (vW (zc (l.take (n - 4)))) rfl rfl (qid _ _ _ (l.take (n - 4)) B _ (hL.mem HM hB) (HM.le hB) ((HM.old hr).toB8 (by omega)) (by rw [List.length_take]; omega) (by omega) (qbe hl _)) fun w12 hbw HM a HF => ?_
 refine keepS (HM.picks [] (by decide) rfl) (fun HS => ?_)
 refine ap HF (fun _ => HS) [33, 34] #[true, true, true, true, true, true, true, true, true, true, true, true, true, true, true, true, true, true, true, true, true, true, true, true, true, true, true, true, true, true, true, true, true, true, true] [(2, .bool ((zc (l.take (n - 4)) : Int) == ((l.getD (n - 4) 0 + l.getD (n - 4 + 1) 0 * 256 + l.getD (n - 4 + 2) 0 * 65536 + l.getD (n - 4 + 3) 0 * 16777216 : Nat) : Int)))] fun a HF => ?_
 refine ql (by kernel_rfl) ?_
 replace HF := HF.to [(2, .bool ((zc (l.take (n - 4)) : Int) == ((l.getD (n - 4) 0 + l.getD (n - 4 + 1) 0 * 256 + l.getD (n - 4 + 2) 0 * 65536 + l.getD (n - 4 + 3) 0 * 16777216 : Nat) : Int))), (3, vI (n - 4 : Nat)), (8, .bool false), (0, .slice (some ⟨gA, oA, none⟩) n cp)]
 refine wp_ret ?_
 exact ret1 rfl HF (.tmp HF rfl) (⟨by rw [qoe hln (by omega)], HM.below⟩)
theorem qki {w w' : World} {l : List Nat} {n e : Nat} (h : lenR l = (n, e)) (hb : Below w.heap.size w w') : Is w (.tuple #[.int .i64 ((lenR l).1 : Int), .int .i64 ((lenR l).2 : Int)]) (.returned (.tuple #[.int .i64 (n : Int), .int .i64 (e : Int)])) w' := by rw [h]; exact ⟨rfl, hb⟩
theorem qog (A : Option Addr) (n cp : Nat) (l : List Nat) (w : World) (hr : Rd w w.heap.size 1 A n (l.map B8)) (hln : l.length = n) (hn : n ≤ 9223372036854775807) (hl : ∀ b ∈ l, b < 256) :
    Calls Tryd.prog 67 #[.slice A n cp] w (Is w (.tuple #[.int .i64 ((lenR l).1 : Int), .int .i64 ((lenR l).2 : Int)])) := by
 refine qg (vs := [.slice A n cp]) Tryd.func67 rfl rfl (by kernel_rfl) (σ0 := [(0, .slice A n cp)]) rfl ?_
 intro a HF
 have HM := Mem.start w
 refine wp_seq (qa ?_)
 refine fp HF 2 0 [(3, vI 0), (2, vI 0)] fun a HF => ?_
 refine qb rfl (wp_seq (wp_seq (qa ?_)))
 refine fp HF 1 0 [(6, .slice A n cp)] fun a HF => ?_
 refine fy HF HM 1 rfl rfl rfl (Yl.len rfl rfl (by kernel_rfl)) fun a HF => ?_
 refine fp HF 1 2 [(8, .bool (decide ((n : Int) < (4 : Int))))] fun a HF => ?_
 refine qb rfl ?_
 rcases HF.tf 8 rfl with ⟨hb8, HF⟩ | ⟨hb8, HF⟩
 ·
  have hd8 := of_decide_eq_true hb8
  refine qe HF rfl (wp_seq (qa ?_))
  refine fp HF 2 0 [(3, vI 100), (2, vI 0)] fun a HF => ?_
  refine qb rfl (wp_ret ?_)
  exact ret2 rfl HF (.tmp HF rfl) (.tmp HF rfl) (qki (by unfold lenR; rw [if_pos (by omega)]) HM.below)
 have hd8 := of_decide_eq_false hb8
 refine qd HF rfl (wp_skip (wp_seq (qa ?_)))
 refine fp HF 1 0 [(4, vI 0)] fun a HF => ?_
 refine qb rfl (wp_seq (wp_seq (qa ?_)))
 refine fp HF 1 0 [(5, vI 3)] fun a HF => ?_
 refine qb rfl (wp_block ?_)
 refine qs (fun mS aS wS => ∃ (k : Nat), (k ≤ 4) ∧ mS = 4 - k ∧ Fr aS 34 [] [(5, vI (3 - (k : Int))), (4, vI (numUp l k)), (8, .bool false), (3, vI 0), (2, vI 0), (0, .slice A n cp)] ∧ Mem w wS []) (m := 4 - 0) ⟨0, Nat.zero_le _, rfl, HF.sub (by kernel_rfl), HM.picks [] (by decide) rfl⟩ ?_
 clear HF HM; rintro mS a w_ ⟨k, hk, rfl, HF, HM⟩
 have hu := ql7 hl (by omega) hk
 refine wp_seq (wp_seq (qa ?_))
 refine fp HF 2 0 [(10, .bool (decide (3 - (k : Int) ≥ (0 : Int))))] fun a HF => ?_
 refine qb rfl ?_
 rcases HF.tf 10 rfl with ⟨hb10, HF⟩ | ⟨hb10, HF⟩
 ·
  have hd10 := of_decide_eq_true hb10
  have hk3 : k ≤ 3 := by omega
  refine qe HF rfl (wp_skip (wp_seq (wp_block (qa ?_))))
  refine fp HF 2 0 [(14, vI (IntKind.i64.wrap ((numUp l k : Int) * 2 ^ (min (8 : Int).toNat (IntKind.i64).bits))))] fun a HF => ?_
  replace HF := HF.sp 14 (vI ((numUp l k) * 256 : Nat)) rfl (qo (by rw [show (2 : Int) ^ (min (8 : Int).toNat (IntKind.i64).bits) = 256 from rfl]; omega) (by omega))
  refine fp HF 2 2 [(16, vI (3 - (k : Int))), (15, .slice A n cp)] fun a HF => ?_
  replace HF := HF.sp 16 (vI (3 - k : Nat)) rfl (by congr 1; omega)
  obtain ⟨gA, oA, rfl, _⟩ := hr.zm (Nat.lt_of_le_of_lt (Nat.zero_le _) (show 3 - k < n from by omega)) (by decide)
  refine fy HF HM 4 rfl rfl rfl (v := vP gA (oA + (3 - k) * 1)) (Yl.ix gA oA (3 - k) 1 rfl rfl rfl) fun a HF => ?_
  have hx60 := getD_lt hl (k := (3 - k)) (by first | omega | (simp; omega))
  refine fy HF HM 5 rfl rfl rfl (v := vB (l.getD (3 - k) 0)) (Yl.qh rfl rfl (by kernel_rfl) (fun _ h => (h.old hr).qbw (k := (3 - k)) (qaw (F := B8) (k := (3 - k)) (x := (l.getD (3 - k) 0)) ((getD_at 0 (k := (3 - k)) (by first | omega | (simp; omega))))))) fun a HF => ?_
  refine fp HF 1 6 [(19, vI (IntKind.i64.wrap ((l.getD (3 - k) 0) : Int)))] fun a HF => ?_
  replace HF := HF.sp 19 (vI (l.getD (3 - k) 0)) rfl (qo rfl (by omega))
  refine fp HF 1 7 [(20, vI (IntKind.i64.wrap (BitVec.ofInt (IntKind.i64).bits (((numUp l k) * 256 : Nat) : Int) ||| BitVec.ofInt (IntKind.i64).bits ((l.getD (3 - k) 0) : Int)).toNat))] fun a HF => ?_
  replace HF := HF.sp 20 (vI (numUp l (k + 1))) rfl (by have h := qsv (m := numUp l k) (n := l.getD (3 - k) 0) (j := 8) (p := 256) rfl (by omega) (by omega); exact h)
  refine fp HF 1 8 [(4, vI (numUp l (k + 1)))] fun a HF => ?_
  refine qb rfl (qa ?_)
  refine fp HF 2 0 [(12, vI (IntKind.i64.wrap ((3 - (k : Int)) - 1)))] fun a HF => ?_
  replace HF := HF.sp 12 (vI (3 - ((k + 1 : Nat) : Int))) rfl (by rw [IntWalk.i64_in _ (by omega)]; congr 1; omega)
  refine fp HF 1 2 [(5, vI (3 - ((k + 1 : Nat) : Int)))] fun a HF => ?_
  refine qb rfl ?_
  exact ⟨_, (by omega), k + 1, by omega, rfl, HF.sub (by kernel_rfl), HM.picks [] (by decide) rfl⟩
 have hd10 := of_decide_eq_false hb10
 obtain rfl : k = 4 := by omega
 replace HF := HF.as (t := 4) (u := .int .i64 (num4 l : Int)) rfl (by rw [qkh])
 rw [qkh] at hu
 refine qd HF rfl (wp_exit (wp_seq (wp_block (wp_seq (qa ?_)))))
 refine fp HF 3 0 [(24, .bool (decide ((num4 l : Int) < (13 : Int))))] fun a HF => ?_
 rcases HF.tf 24 rfl with ⟨hb24, HF⟩ | ⟨hb24, HF⟩
 ·
  have hd24 := of_decide_eq_true hb24
  refine fp HF 4 3 [(21, .bool true)] fun a HF => ?_
  refine qb rfl (qe HF rfl (wp_seq (qa ?_)))
  refine fp HF 2 0 [(3, vI 101), (2, vI 0)] fun a HF => ?_
  refine qb rfl (wp_ret ?_)
  exact ret2 rfl HF (.tmp HF rfl) (.tmp HF rfl) (qki (by unfold lenR; rw [if_neg (by omega), if_pos (by omega)]) HM.below)
 have hd24 := of_decide_eq_false hb24
 refine fp HF 4 3 [(21, .bool (decide ((num4 l : Int) > (4096 : Int))))] fun a HF => ?_
 refine qb rfl ?_
 rcases HF.tf 21 rfl with ⟨hb21, HF⟩ | ⟨hb21, HF⟩
 ·
  have hd21 := of_decide_eq_true hb21
  refine qe HF rfl (wp_seq (qa ?_))
  refine fp HF 2 0 [(3, vI 101), (2, vI 0)] fun a HF => ?_
  refine qb rfl (wp_ret ?_)
  exact ret2 rfl HF (.tmp HF rfl) (.tmp HF rfl) (qki (by unfold lenR; rw [if_neg (by omega), if_pos (by omega)]) HM.below)
 have hd21 := of_decide_eq_false hb21
 refine qd HF rfl (wp_seq (qa ?_))
 refine fp HF 2 0 [(30, .slice A n cp), (29, vI (num4 l))] fun a HF => ?_
 refine fy HF HM 2 rfl rfl rfl (Yl.len rfl rfl (by kernel_rfl)) fun a HF => ?_
 refine fp HF 2 3 [(28, .bool (decide ((num4 l : Int) > (n : Int))))] fun a HF => ?_
 refine qb rfl ?_
 rcases HF.tf 28 rfl with ⟨hb28, HF⟩ | ⟨hb28, HF⟩
 ·
  have hd28 := of_decide_eq_true hb28
  refine qe HF rfl (wp_seq (qa ?_))
  refine fp HF 2 0 [(3, vI 100), (2, vI 0)] fun a HF => ?_
  refine qb rfl (wp_ret ?_)
  exact ret2 rfl HF (.tmp HF rfl) (.tmp HF rfl) (qki (by unfold lenR; rw [if_neg (by omega), if_neg (by omega), if_pos (by omega)]) HM.below)
 have hd28 := of_decide_eq_false hb28
 refine qd HF rfl (wp_skip (wp_seq (qa ?_)))
 refine fp HF 3 0 [(3, vI 0), (2, vI (num4 l))] fun a HF => ?_
 refine qb rfl (wp_ret ?_)
 exact ret2 rfl HF (.tmp HF rfl) (.tmp HF rfl) (qki (by unfold lenR; rw [if_neg (by omega), if_neg (by omega), if_neg (by omega)]) HM.below)
theorem qqr (g : Nat) (b : Bk) (hok : b.Ok) (A : Option Addr) (c B : Nat) (w : World) (hL : LaidX B w) (hB : B ≤ w.heap.size) (hr : Rd w w.heap.size 11 A b.evs.length (b.evs.flatMap evL)) (hn : b.evs.length ≤ 1000000) (hb : w.heap[g]? = some (.cells (b.cells A c) 41 (0, 0))) :
    Calls Tryd.prog 61 #[.pointer (some ⟨g, 0, none⟩)] w (Is w (.bool b.qdb)) := by
 refine qg (vs := [vP g 0]) Tryd.func61 rfl rfl (by kernel_rfl) (σ0 := [(0, vP g 0)]) rfl ?_
 intro a HF
 have HM := Mem.start w
 refine wp_seq (qa ?_)
 refine fp HF 1 0 [(1, .bool false)] fun a HF => ?_
 refine qb rfl (wp_seq (wp_seq (qa ?_)))
 refine fp HF 1 0 [(5, vP g 4)] fun a HF => ?_
 refine fy HF HM 1 rfl rfl rfl (v := .slice A b.evs.length c) (Yl.qh rfl rfl (by kernel_rfl) (fun _ h => h.zk hb rfl)) fun a HF => ?_
 refine fo HF 2 rfl rfl ?_
 refine e_cl HF [.slice A b.evs.length c] rfl rfl (qt6 A b.evs.length c b.evs hok.evs B _ (hL.mem HM hB).laid (HM.le hB) (HM.old hr) (by omega) (i := (rowR b.evs).1) (er := (rowR b.evs).2) rfl) ?_
 rintro _ w7 ⟨rfl, hbw⟩
 refine ⟨_, rfl, ?_⟩
 replace HM := HM.call hbw
 clear HF; intro a HF
 refine fp HF 5 3 [(3, vI ((rowR b.evs).2))] fun a HF => ?_
 refine qb rfl (wp_seq (qa ?_))
 refine fp HF 3 0 [(12, .bool (((rowR b.evs).2 : Int) != (0 : Int)))] fun a HF => ?_
 rcases HF.tf 12 rfl with ⟨hb12, HF⟩ | ⟨hb12, HF⟩
 ·
  have hd12 := bne_iff_ne.1 hb12
  refine fp HF 19 3 [(31, .bool true)] fun a HF => ?_
  refine qb rfl (qe HF rfl (wp_seq (qa ?_)))
  refine fp HF 1 0 [(1, .bool false)] fun a HF => ?_
  refine qb rfl (wp_ret ?_)
  exact ret1 rfl HF (.tmp HF rfl) (⟨by rw [show b.qdb = false from decide_eq_false (by omega)], HM.below⟩)
 have hd12 := bne_eq_false_iff_eq.1 hb12
 refine fp HF 1 3 [(13, vP g 1)] fun a HF => ?_
 refine fy HF HM 4 rfl rfl rfl (v := vB b.cpu) (Yl.qh rfl rfl (by kernel_rfl) (fun _ h => h.zk hb rfl)) fun a HF => ?_
 refine fp HF 3 5 [(17, .bool (decide ((b.cpu : Int) ≥ (64 : Int))))] fun a HF => ?_
 rcases HF.tf 17 rfl with ⟨hb17, HF⟩ | ⟨hb17, HF⟩
 ·
  have hd17 := of_decide_eq_true hb17
  refine fp HF 14 8 [(31, .bool true)] fun a HF => ?_
  refine qb rfl (qe HF rfl (wp_seq (qa ?_)))
  refine fp HF 1 0 [(1, .bool false)] fun a HF => ?_
  refine qb rfl (wp_ret ?_)
  exact ret1 rfl HF (.tmp HF rfl) (⟨by rw [show b.qdb = false from decide_eq_false (by omega)], HM.below⟩)
 have hd17 := of_decide_eq_false hb17
 refine fp HF 1 8 [(18, vP g 2)] fun a HF => ?_
 refine fy HF HM 9 rfl rfl rfl (v := vI b.lost) (Yl.qh rfl rfl (by kernel_rfl) (fun _ h => h.zk hb rfl)) fun a HF => ?_
 refine fp HF 3 10 [(22, .bool (decide ((b.lost : Int) < (0 : Int))))] fun a HF => ?_
 rcases HF.tf 22 rfl with ⟨hb22, HF⟩ | ⟨hb22, HF⟩
 ·
  have hd22 := of_decide_eq_true hb22
  refine fp HF 9 13 [(31, .bool true)] fun a HF => ?_
  refine qb rfl (qe HF rfl (wp_seq (qa ?_)))
  refine fp HF 1 0 [(1, .bool false)] fun a HF => ?_
  refine qb rfl (wp_ret ?_)
  exact ret1 rfl HF (.tmp HF rfl) (⟨by rw [show b.qdb = false from decide_eq_false (by omega)], HM.below⟩)
 have hd22 := of_decide_eq_false hb22
 refine fp HF 1 13 [(23, vP g 2)] fun a HF => ?_
 refine fy HF HM 14 rfl rfl rfl (v := vI b.lost) (Yl.qh rfl rfl (by kernel_rfl) (fun _ h => h.zk hb rfl)) fun a HF => ?_
 refine fp HF 3 15 [(27, .bool (decide ((b.lost : Int) > (281474976710656 : Int))))] fun a HF => ?_
 rcases HF.tf 27 rfl with ⟨hb27, HF⟩ | ⟨hb27, HF⟩
 ·
  have hd27 := of_decide_eq_true hb27
  refine fp HF 4 18 [(31, .bool true)] fun a HF => ?_
  refine qb rfl (qe HF rfl (wp_seq (qa ?_)))
  refine fp HF 1 0 [(1, .bool false)] fun a HF => ?_
  refine qb rfl (wp_ret ?_)
  exact ret1 rfl HF (.tmp HF rfl) (⟨by rw [show b.qdb = false from decide_eq_false (by omega)], HM.below⟩)
 have hd27 := of_decide_eq_false hb27
 refine fp HF 1 18 [(28, vP g 3)] fun a HF => ?_
 refine fy HF HM 19 rfl rfl rfl (v := vI b.next) (Yl.qh rfl rfl (by kernel_rfl) (fun _ h => h.zk hb rfl)) fun a HF => ?_
 refine fp HF 2 20 [(31, .bool ((b.next : Int) != (0 : Int)))] fun a HF => ?_
 refine qb rfl ?_
 rcases HF.tf 31 rfl with ⟨hb31, HF⟩ | ⟨hb31, HF⟩
 ·
  have hd31 := bne_iff_ne.1 hb31
  refine qe HF rfl (wp_seq (qa ?_))
  refine fp HF 1 0 [(1, .bool false)] fun a HF => ?_
  refine qb rfl (wp_ret ?_)
  exact ret1 rfl HF (.tmp HF rfl) (⟨by rw [show b.qdb = false from decide_eq_false (by omega)], HM.below⟩)
 have hd31 := bne_eq_false_iff_eq.1 hb31
 refine qd HF rfl (wp_skip (wp_seq (wp_seq (qa ?_))))
 refine fp HF 1 0 [(32, vP g 4)] fun a HF => ?_
 refine fy HF HM 1 rfl rfl rfl (v := .slice A b.evs.length c) (Yl.qh rfl rfl (by kernel_rfl) (fun _ h => h.zk hb rfl)) fun a HF => ?_
 refine fy HF HM 2 rfl rfl rfl (Yl.len rfl rfl (by kernel_rfl)) fun a HF => ?_
 refine fp HF 1 3 [(35, .bool ((b.evs.length : Int) == (0 : Int)))] fun a HF => ?_
 refine qb rfl ?_
 rcases HF.tf 35 rfl with ⟨hb35, HF⟩ | ⟨hb35, HF⟩
 ·
  have hd35 := eq_of_beq hb35
  refine qe HF rfl (wp_seq (qa ?_))
  refine fp HF 1 0 [(36, vP g 2)] fun a HF => ?_
  refine fy HF HM 1 rfl rfl rfl (v := vI b.lost) (Yl.qh rfl rfl (by kernel_rfl) (fun _ h => h.zk hb rfl)) fun a HF => ?_
  refine fp HF 2 2 [(1, .bool (decide ((b.lost : Int) > (0 : Int))))] fun a HF => ?_
  refine qb rfl (wp_ret ?_)
  exact ret1 rfl HF (.tmp HF rfl) (⟨by rw [Bool.eq_iff_iff.2 (show (decide ((b.lost : Int) > (0 : Int))) = true ↔ b.qdb = true by unfold Bk.qdb; rw [qfu (by omega)]; simp only [decide_eq_true_eq, beq_iff_eq]; omega)], HM.below⟩)
 have hd35 := ne_of_beq_false hb35
 refine qd HF rfl (wp_skip (wp_seq ?_))
 refine qac HM [] [] [] fun HM HS => ?_
 refine ap HF (fun _ => HS) [0, 5] #[true, false, false, false, false, true, false, false, false] [(44, vP g 1), (39, vP g 4)] fun a HF => ?_
 refine ay HF HS 1 rfl rfl rfl (v := .slice A b.evs.length c) (Yl.qh rfl rfl (by kernel_rfl) (fun _ h => h.zk hb rfl)) fun a HF => ?_
 obtain ⟨gA, oA, rfl, _⟩ := hr.zm (Nat.lt_of_le_of_lt (Nat.zero_le _) (show 0 < b.evs.length from by omega)) (by decide)
 refine ay HF HS 2 rfl rfl rfl (v := vP gA oA) (Yl.indexAddr (ad := ⟨gA, oA, none⟩) (y := 0) (sz := 11) rfl rfl rfl (by omega) (by kernel_rfl)) fun a HF => ?_
 refine ap HF (fun _ => HS) [3] #[true, true, true, true, false, true, false, false, false] [(42, vP gA (oA + 2))] fun a HF => ?_
 refine ay HF HS 4 rfl rfl rfl (v := vB ((b.evs.getD 0 Ev.zero).cpu)) (Yl.qh rfl rfl (by kernel_rfl) (fun _ h => (h.old hr).partAt qy (k := 0) (j := 2) (x := (b.evs.getD 0 Ev.zero)) ((getD_at Ev.zero (k := 0) (by first | omega | (simp; omega)))) rfl)) fun a HF => ?_
 refine ay HF HS 6 rfl rfl rfl (v := vB b.cpu) (Yl.qh rfl rfl (by kernel_rfl) (fun _ h => h.zk hb rfl)) fun a HF => ?_
 refine ap HF (fun _ => HS) [7, 8] #[true, true, true, true, true, true, true, true, true] [(1, .bool (((b.evs.getD 0 Ev.zero).cpu : Int) == (b.cpu : Int)))] fun a HF => ?_
 refine ql (by kernel_rfl) ?_
 refine wp_ret ?_
 exact ret1 rfl HF (.tmp HF rfl) (⟨by rw [Bool.eq_iff_iff.2 (show (((b.evs.getD 0 Ev.zero).cpu : Int) == (b.cpu : Int)) = true ↔ b.qdb = true by unfold Bk.qdb; rw [qgz (by omega)]; simp only [decide_eq_true_eq, beq_iff_eq]; omega)], HM.below⟩)
theorem qqs (g : Nat) (b : Bk) (A : Option Addr) (c : Nat) (w : World) (hb : w.heap[g]? = some (.cells (b.cells A c) 41 (0, 0))) :
    Calls Tryd.prog 62 #[.pointer (some ⟨g, 0, none⟩)] w (Is w (.bool b.qhr)) := by
 refine qg (vs := [vP g 0]) Tryd.func62 rfl rfl (by kernel_rfl) (σ0 := [(0, vP g 0)]) rfl ?_
 intro a HF
 have HM := Mem.start w
 refine wp_seq (qa ?_)
 refine fp HF 1 0 [(1, .bool false)] fun a HF => ?_
 refine qb rfl (wp_seq (qa ?_))
 refine fp HF 1 0 [(2, vP g 3)] fun a HF => ?_
 refine fy HF HM 1 rfl rfl rfl (v := vI b.next) (Yl.qh rfl rfl (by kernel_rfl) (fun _ h => h.zk hb rfl)) fun a HF => ?_
 refine fp HF 2 2 [(5, .bool (decide ((b.next : Int) ≥ (1 : Int))))] fun a HF => ?_
 rcases HF.tf 5 rfl with ⟨hb5, HF⟩ | ⟨hb5, HF⟩
 ·
  have hd5 := of_decide_eq_true hb5
  refine fp HF 1 4 [(6, vP g 3)] fun a HF => ?_
  refine fy HF HM 5 rfl rfl rfl (v := vI b.next) (Yl.qh rfl rfl (by kernel_rfl) (fun _ h => h.zk hb rfl)) fun a HF => ?_
  refine fp HF 3 6 [(10, .bool (decide ((b.next : Int) ≤ (281474976710657 : Int))))] fun a HF => ?_
  rcases HF.tf 10 rfl with ⟨hb10, HF⟩ | ⟨hb10, HF⟩
  ·
   have hd10 := of_decide_eq_true hb10
   refine fp HF 1 9 [(11, vP g 1)] fun a HF => ?_
   refine fy HF HM 10 rfl rfl rfl (v := vB b.cpu) (Yl.qh rfl rfl (by kernel_rfl) (fun _ h => h.zk hb rfl)) fun a HF => ?_
   refine fp HF 3 11 [(15, .bool ((b.cpu : Int) == (0 : Int)))] fun a HF => ?_
   rcases HF.tf 15 rfl with ⟨hb15, HF⟩ | ⟨hb15, HF⟩
   ·
    have hd15 := eq_of_beq hb15
    refine fp HF 1 14 [(16, vP g 2)] fun a HF => ?_
    refine fy HF HM 15 rfl rfl rfl (v := vI b.lost) (Yl.qh rfl rfl (by kernel_rfl) (fun _ h => h.zk hb rfl)) fun a HF => ?_
    refine fp HF 3 16 [(20, .bool ((b.lost : Int) == (0 : Int)))] fun a HF => ?_
    rcases HF.tf 20 rfl with ⟨hb20, HF⟩ | ⟨hb20, HF⟩
    ·
     have hd20 := eq_of_beq hb20
     refine fp HF 1 19 [(21, vP g 4)] fun a HF => ?_
     refine fy HF HM 20 rfl rfl rfl (v := .slice A b.evs.length c) (Yl.qh rfl rfl (by kernel_rfl) (fun _ h => h.zk hb rfl)) fun a HF => ?_
     refine fy HF HM 21 rfl rfl rfl (Yl.len rfl rfl (by kernel_rfl)) fun a HF => ?_
     refine fp HF 3 22 [(1, .bool ((b.evs.length : Int) == (0 : Int)))] fun a HF => ?_
     refine qb rfl (wp_ret ?_)
     exact ret1 rfl HF (.tmp HF rfl) (⟨by rw [Bool.eq_iff_iff.2 (show ((b.evs.length : Int) == (0 : Int)) = true ↔ b.qhr = true by unfold Bk.qhr; simp only [decide_eq_true_eq, beq_iff_eq]; omega)], HM.below⟩)
    have hd20 := ne_of_beq_false hb20
    refine fp HF 6 19 [(1, .bool false)] fun a HF => ?_
    refine qb rfl (wp_ret ?_)
    exact ret1 rfl HF (.tmp HF rfl) (⟨by rw [show b.qhr = false from decide_eq_false (by omega)], HM.below⟩)
   have hd15 := ne_of_beq_false hb15
   refine fp HF 11 14 [(1, .bool false)] fun a HF => ?_
   refine qb rfl (wp_ret ?_)
   exact ret1 rfl HF (.tmp HF rfl) (⟨by rw [show b.qhr = false from decide_eq_false (by omega)], HM.below⟩)
  have hd10 := of_decide_eq_false hb10
  refine fp HF 16 9 [(1, .bool false)] fun a HF => ?_
  refine qb rfl (wp_ret ?_)
  exact ret1 rfl HF (.tmp HF rfl) (⟨by rw [show b.qhr = false from decide_eq_false (by omega)], HM.below⟩)
 have hd5 := of_decide_eq_false hb5
 refine fp HF 21 4 [(1, .bool false)] fun a HF => ?_
 refine qb rfl (wp_ret ?_)
 exact ret1 rfl HF (.tmp HF rfl) (⟨by rw [show b.qhr = false from decide_eq_false (by omega)], HM.below⟩)
theorem qd3 (b : Bk) (hok : b.Ok) (A : Option Addr) (c B : Nat) (w : World) (hL : LaidX B w) (hB : B ≤ w.heap.size) (hr : Rd w w.heap.size 11 A b.evs.length (b.evs.flatMap evL)) (hn : b.evs.length ≤ 1000000) :
    Calls Tryd.prog 44 #[.agg (b.cells A c)] w (Is w (.bool b.fits)) := by
 refine qg (vs := [.agg (b.cells A c)]) Tryd.func44 rfl rfl (by kernel_rfl) (σ0 := [(0, .agg (b.cells A c))]) rfl ?_
 intro a HF
 have HM := Mem.start w
 refine wp_seq (qa ?_)
 refine fo HF 0 rfl rfl ?_
 refine e_box HF HM (cs := (b.cells A c)) rfl rfl rfl rfl (by decide) ?_
 clear HF HM; intro a w1 g1 HF HM
 refine fp HF 1 1 [(2, .bool false)] fun a HF => ?_
 refine qb rfl (wp_seq (qa ?_))
 refine fo HF 0 rfl rfl ?_
 refine qqf HF HM rfl rfl (by decide) ?_
 clear HF HM; intro a w5 g5 HF HM
 refine fy HF HM 1 rfl rfl rfl (v := .func (.func 61) #[] #[vP g1 0]) (Yl.makeFunc (fst := []) (caps := [vP g1 0]) rfl rfl rfl) fun a HF => ?_
 refine fo HF 2 rfl rfl ?_
 refine qm5 HF HM (i := 0) (kt := 5) (et := 24) (kd := .int .u8) (Or.inr rfl) rfl (by kernel_rfl) (by kernel_rfl) rfl rfl rfl rfl (by first | trivial | rfl) (rfl) ?_
 clear HM; intro w1_2 HM
 refine fy HF HM 3 rfl rfl rfl (v := .func (.func 62) #[] #[vP g1 0]) (Yl.makeFunc (fst := []) (caps := [vP g1 0]) rfl rfl rfl) fun a HF => ?_
 refine fo HF 4 rfl rfl ?_
 refine qm5 HF HM (i := 0) (kt := 5) (et := 24) (kd := .int .u8) (Or.inr rfl) rfl (by kernel_rfl) (by kernel_rfl) rfl rfl rfl rfl (by first | trivial | rfl) (rfl) ?_
 clear HM; intro w1_4 HM
 refine fp HF 2 5 [(3, .map (some g5))] fun a HF => ?_
 refine qb rfl ?_
 rcases qv6 b.kind with hk | hk | ⟨hk, hk2⟩
 ·
  refine wp_seq (qa ?_)
  refine fp HF 2 0 [(10, vP g1 0), (9, .map (some g5))] fun a HF => ?_
  refine fy HF HM 2 rfl rfl rfl (v := vB b.kind) (Yl.qh rfl rfl (by kernel_rfl) (fun _ h => h.cell (i := 1) rfl (rfl))) fun a HF => ?_
  refine fy HF HM 3 rfl rfl rfl (v := .func (.func 61) #[] #[vP g1 0]) (Yl.qll (kt := 5) (et := 24) (kd := .int .u8) (j := 0) (es := (#[].push { key := vB 1, val := .func (.func 61) #[] #[vP g1 0], born := 0 }).push { key := vB 2, val := .func (.func 62) #[] #[vP g1 0], born := 0 + 1 }) (clock := 0 + 1 + 1) rfl (by kernel_rfl) (by kernel_rfl) rfl rfl (fun _ h => h.objAt (i := 0) rfl) (by first | trivial | rfl) (by rw [hk]; rfl)) fun a HF => ?_
  refine fp HF 1 4 [(4, .func (.func 61) #[] #[vP g1 0])] fun a HF => ?_
  refine qb rfl (wp_seq (qa ?_))
  refine fp HF 1 0 [(13, .func (.func 61) #[] #[vP g1 0])] fun a HF => ?_
  refine fy HF HM 1 rfl rfl rfl (v := .bool true) (Yl.qse rfl rfl rfl (by kernel_rfl)) fun a HF => ?_
  refine fp HF 2 2 [(16, .func (.func 61) #[] #[vP g1 0]), (15, .bool true)] fun a HF => ?_
  refine fo HF 4 rfl rfl ?_
  refine qck HF (f := 61) (vs := []) (fst := []) (caps := [vP g1 0]) rfl rfl rfl (by kernel_rfl) rfl (by decide) (qqr _ b hok A c B _ (hL.mem HM hB) (HM.le hB) (HM.old hr) hn (HM.blk (i := 1) rfl)) ?_
  rintro _ w17 ⟨rfl, hbw⟩
  refine ⟨_, rfl, ?_⟩
  replace HM := HM.call hbw
  clear HF; intro a HF
  refine fp HF 2 5 [(2, .bool b.qdb)] fun a HF => ?_
  refine qb rfl (wp_ret ?_)
  replace HM := HM.picks (fs' := [.blk g1 (b.cells A c) 41]) [1] (by decide) rfl
  exact ret1 rfl HF (.tmp HF rfl) (⟨by unfold Bk.fits; rw [if_pos hk], HM.below⟩)
 ·
  refine wp_seq (qa ?_)
  refine fp HF 2 0 [(10, vP g1 0), (9, .map (some g5))] fun a HF => ?_
  refine fy HF HM 2 rfl rfl rfl (v := vB b.kind) (Yl.qh rfl rfl (by kernel_rfl) (fun _ h => h.cell (i := 1) rfl (rfl))) fun a HF => ?_
  refine fy HF HM 3 rfl rfl rfl (v := .func (.func 62) #[] #[vP g1 0]) (Yl.qll (kt := 5) (et := 24) (kd := .int .u8) (j := 1) (es := (#[].push { key := vB 1, val := .func (.func 61) #[] #[vP g1 0], born := 0 }).push { key := vB 2, val := .func (.func 62) #[] #[vP g1 0], born := 0 + 1 }) (clock := 0 + 1 + 1) rfl (by kernel_rfl) (by kernel_rfl) rfl rfl (fun _ h => h.objAt (i := 0) rfl) (by first | trivial | rfl) (by rw [hk]; rfl)) fun a HF => ?_
  refine fp HF 1 4 [(4, .func (.func 62) #[] #[vP g1 0])] fun a HF => ?_
  refine qb rfl (wp_seq (qa ?_))
  refine fp HF 1 0 [(13, .func (.func 62) #[] #[vP g1 0])] fun a HF => ?_
  refine fy HF HM 1 rfl rfl rfl (v := .bool true) (Yl.qse rfl rfl rfl (by kernel_rfl)) fun a HF => ?_
  refine fp HF 2 2 [(16, .func (.func 62) #[] #[vP g1 0]), (15, .bool true)] fun a HF => ?_
  refine fo HF 4 rfl rfl ?_
  refine qck HF (f := 62) (vs := []) (fst := []) (caps := [vP g1 0]) rfl rfl rfl (by kernel_rfl) rfl (by decide) (qqs _ b A c _ (HM.blk (i := 1) rfl)) ?_
  rintro _ w17 ⟨rfl, hbw⟩
  refine ⟨_, rfl, ?_⟩
  replace HM := HM.call hbw
  clear HF; intro a HF
  refine fp HF 2 5 [(2, .bool b.qhr)] fun a HF => ?_
  refine qb rfl (wp_ret ?_)
  replace HM := HM.picks (fs' := [.blk g1 (b.cells A c) 41]) [1] (by decide) rfl
  exact ret1 rfl HF (.tmp HF rfl) (⟨by unfold Bk.fits; rw [if_neg (by omega), if_pos hk], HM.below⟩)
 ·
  refine wp_seq (qa ?_)
  refine fp HF 2 0 [(10, vP g1 0), (9, .map (some g5))] fun a HF => ?_
  refine fy HF HM 2 rfl rfl rfl (v := vB b.kind) (Yl.qh rfl rfl (by kernel_rfl) (fun _ h => h.cell (i := 1) rfl (rfl))) fun a HF => ?_
  refine fy HF HM 3 rfl rfl rfl (v := .nilFunc) (Yl.qpb (kt := 5) (et := 24) (kd := .int .u8) (es := (#[].push { key := vB 1, val := .func (.func 61) #[] #[vP g1 0], born := 0 }).push { key := vB 2, val := .func (.func 62) #[] #[vP g1 0], born := 0 + 1 }) (clock := 0 + 1 + 1) rfl (by kernel_rfl) (by kernel_rfl) rfl rfl (fun _ h => h.objAt (i := 0) rfl) (by first | trivial | rfl) (by have e1 : ((b.kind : Int) == 1) = false := (by rw [beq_eq_false_iff_ne]; omega); have e2 : ((b.kind : Int) == 2) = false := (by rw [beq_eq_false_iff_ne]; omega); simp [Instr.findNow, Instr.sameNow, e1, e2]) (by kernel_rfl)) fun a HF => ?_
  refine fp HF 1 4 [(4, .nilFunc)] fun a HF => ?_
  refine qb rfl (wp_seq (qa ?_))
  refine fp HF 1 0 [(13, .nilFunc)] fun a HF => ?_
  refine fy HF HM 1 rfl rfl rfl (v := .bool false) (Yl.qwp rfl rfl rfl (by kernel_rfl)) fun a HF => ?_
  refine fp HF 5 2 [(2, .bool false)] fun a HF => ?_
  refine qb rfl (wp_ret ?_)
  replace HM := HM.picks (fs' := [.blk g1 (b.cells A c) 41]) [1] (by decide) rfl
  exact ret1 rfl HF (.tmp HF rfl) (⟨by unfold Bk.fits; rw [if_neg hk, if_neg hk2], HM.below⟩)
theorem qnc (b : Bk) (A : Option Addr) (c : Nat) (w : World) (hr : Rd w w.heap.size 11 A b.evs.length (b.evs.flatMap evL)) (h0 : b.evs.length ≠ 0) :
    Calls Tryd.prog 56 #[.agg (b.cells A c)] w (Is w (.agg b.base.cells)) := by
 refine qg (vs := [.agg (b.cells A c)]) Tryd.func56 rfl rfl (by kernel_rfl) (σ0 := [(0, .agg (b.cells A c))]) rfl ?_
 intro a HF
 have HM := Mem.start w
 refine wp_seq (qa ?_)
 refine fo HF 0 rfl rfl ?_
 refine e_box HF HM (cs := (b.cells A c)) rfl rfl rfl rfl (by decide) ?_
 clear HF HM; intro a w1 g1 HF HM
 refine fo HF 1 rfl rfl ?_
 refine qq HF HM (cs := #[vI 0, vI 0]) rfl (by kernel_rfl) rfl (by decide) ?_
 clear HF HM; intro a w2 g2 HF HM
 refine qb rfl (wp_seq ?_)
 refine qac HM [.blk g2 #[vI 0, vI 0] 26, .blk g1 (b.cells A c) 41] [0, 1] [11] fun HM HS => ?_
 refine ap HF (fun _ => HS) [0, 5] #[true, false, false, false, false, true, false, false, false, false, false, false] [(8, vP g1 4), (3, vP g1 4)] fun a HF => ?_
 refine ay HF HS 1 rfl rfl rfl (v := .slice A b.evs.length c) (Yl.qh rfl rfl (by kernel_rfl) (fun _ h => h.cell (i := 1) rfl (rfl))) fun a HF => ?_
 obtain ⟨gA, oA, rfl, _⟩ := hr.zm (Nat.lt_of_le_of_lt (Nat.zero_le _) (show 0 < b.evs.length from by omega)) (by decide)
 refine ay HF HS 2 rfl rfl rfl (v := vP gA oA) (Yl.indexAddr (ad := ⟨gA, oA, none⟩) (y := 0) (sz := 11) rfl rfl rfl (by omega) (by kernel_rfl)) fun a HF => ?_
 refine ap HF (fun _ => HS) [3] #[true, true, true, true, false, true, false, false, false, false, false, false] [(6, vP gA oA)] fun a HF => ?_
 refine ay HF HS 4 rfl rfl rfl (v := vI ((b.evs.getD 0 Ev.zero).seq)) (Yl.qh rfl rfl (by kernel_rfl) (fun _ h => (by have := (h.old hr).partAt qy (k := 0) (j := 0) (x := (b.evs.getD 0 Ev.zero)) ((getD_at Ev.zero (k := 0) (by first | omega | (simp; omega)))) rfl; simpa using this))) fun a HF => ?_
 refine ay HF HS 6 rfl rfl rfl (v := .slice (some ⟨gA, oA, none⟩) b.evs.length c) (Yl.qh rfl rfl (by kernel_rfl) (fun _ h => h.cell (i := 1) rfl (rfl))) fun a HF => ?_
 refine ay HF HS 7 rfl rfl rfl (v := vP gA oA) (Yl.indexAddr (ad := ⟨gA, oA, none⟩) (y := 0) (sz := 11) rfl rfl rfl (by omega) (by kernel_rfl)) fun a HF => ?_
 refine ap HF (fun _ => HS) [8] #[true, true, true, true, true, true, true, true, true, false, false, false] [(11, vP gA (oA + 1))] fun a HF => ?_
 refine ay HF HS 9 rfl rfl rfl (v := vI ((b.evs.getD 0 Ev.zero).time)) (Yl.qh rfl rfl (by kernel_rfl) (fun _ h => (h.old hr).partAt qy (k := 0) (j := 1) (x := (b.evs.getD 0 Ev.zero)) ((getD_at Ev.zero (k := 0) (by first | omega | (simp; omega)))) rfl)) fun a HF => ?_
 refine ay HF HS 10 rfl rfl rfl (v := .agg #[vI ((b.evs.getD 0 Ev.zero).seq), vI ((b.evs.getD 0 Ev.zero).time)]) (Yl.build (vs := [(0, vI ((b.evs.getD 0 Ev.zero).seq)), (1, vI ((b.evs.getD 0 Ev.zero).time))]) rfl (by kernel_rfl) (by kernel_rfl)) fun a HF => ?_
 refine qj [11] (by kernel_rfl) rfl ?_
 refine all_cons ?_ all_nil
 refine qn HF (i := 11) rfl rfl ?_
 refine e_sa HF HM 0 rfl rfl rfl rfl rfl ⟨(by kernel_rfl), (by kernel_rfl)⟩ rfl rfl (by simp [Value.oneCell']) ?_
 clear HM; intro w1_11 HM
 refine noS (by kernel_rfl) ?_
 refine ql (by kernel_rfl) ?_
 replace HM := HM.picks (fs' := [.blk g2 #[vI ((b.evs.getD 0 Ev.zero).seq), vI ((b.evs.getD 0 Ev.zero).time)] 26]) [0] (by decide) rfl
 refine wp_ret ?_
 exact ret1 rfl HF (.cellS (i := 0) HF HM rfl rfl ⟨(by kernel_rfl), (by kernel_rfl)⟩ rfl) (⟨by rw [qdp]; rfl, HM.below⟩)
theorem qfv (x : Nat) (hx : x < 18446744073709551616) (w : World) :
    Calls Tryd.prog 63 #[.int .u64 (x : Int)] w (zz w (vbytes x)) := by
 refine qg (vs := [vQ x]) Tryd.func63 rfl rfl (by kernel_rfl) (σ0 := [(0, vQ x)]) rfl ?_
 intro a HF
 have HM := Mem.start w
 refine wp_seq (qa ?_)
 refine fp HF 1 0 [(2, .slice none 0 0)] fun a HF => ?_
 refine qb rfl (wp_seq (qa ?_))
 refine fp HF 1 0 [(3, vQ x)] fun a HF => ?_
 refine fo HF 1 rfl rfl ?_
 refine e_cl HF [.slice none 0 0, vQ x] rfl rfl (qoa hx) ?_
 rintro _ w4 ⟨⟨A4, c4, rfl, ho, hc4⟩, hbw⟩
 refine ⟨_, rfl, ?_⟩
 replace HM := HM.callRow hbw ho
 clear HF; intro a HF
 refine fp HF 1 2 [(2, .slice A4 ((vbytes x).length) c4)] fun a HF => ?_
 refine qb rfl (wp_ret ?_)
 exact ret1 rfl HF (.tmp HF rfl) (⟨⟨_, _, rfl, HM.own (i := 0) rfl, hc4⟩, HM.below⟩)
theorem all4 {w : World} {a b c d : Part} (ha : Rd w w.heap.size 1 a.A a.l.length (a.l.map B8)) (hb : Rd w w.heap.size 1 b.A b.l.length (b.l.map B8)) (hc : Rd w w.heap.size 1 c.A c.l.length (c.l.map B8)) (hd : Rd w w.heap.size 1 d.A d.l.length (d.l.map B8)) : ∀ p ∈ [a, b, c, d], Rd w w.heap.size 1 p.A p.l.length (p.l.map B8) := by
 intro p hp
 simp only [List.mem_cons, List.not_mem_nil, or_false] at hp
 rcases hp with rfl | rfl | rfl | rfl
 ·exact ha
 ·exact hb
 ·exact hc
 ·exact hd
theorem qs6 (b : Bk) (hok : b.Ok) (A : Option Addr) (c B : Nat) (w : World) (hL : LaidX B w) (hB : B ≤ w.heap.size) (hr : Rd w w.heap.size 11 A b.evs.length (b.evs.flatMap evL)) (hn : b.evs.length ≤ 1000000) (hf : b.fits = true) :
    Calls Tryd.prog 45 #[.agg (b.cells A c)] w (zz w b.body) := by
 have hcpu := hok.cpu
 refine qg (vs := [.agg (b.cells A c)]) Tryd.func45 rfl rfl (by kernel_rfl) (σ0 := [(0, .agg (b.cells A c))]) rfl ?_
 intro a HF
 have HM := Mem.start w
 refine wp_seq (qa ?_)
 refine fo HF 0 rfl rfl ?_
 refine e_box HF HM (cs := (b.cells A c)) rfl rfl rfl rfl (by decide) ?_
 clear HF HM; intro a w1 g1 HF HM
 refine fp HF 1 1 [(2, .slice none 0 0)] fun a HF => ?_
 refine qb rfl (wp_seq (wp_seq (qa ?_)))
 refine fp HF 1 0 [(7, vP g1 0)] fun a HF => ?_
 refine fy HF HM 1 rfl rfl rfl (v := vB b.kind) (Yl.qh rfl rfl (by kernel_rfl) (fun _ h => h.cell (i := 0) rfl (rfl))) fun a HF => ?_
 refine fp HF 1 2 [(9, .bool ((b.kind : Int) == (2 : Int)))] fun a HF => ?_
 refine qb rfl ?_
 rcases HF.tf 9 rfl with ⟨hb9, HF⟩ | ⟨hb9, HF⟩
 ·
  have hd9 := eq_of_beq hb9
  have hk : b.kind = 2 := by omega
  obtain ⟨n1, n2, n3, n4, n5⟩ := qg1 hf hk
  refine qe HF rfl (wp_seq (qa ?_))
  refine fp HF 1 0 [(10, vP g1 3)] fun a HF => ?_
  refine fy HF HM 1 rfl rfl rfl (v := vI b.next) (Yl.qh rfl rfl (by kernel_rfl) (fun _ h => h.cell (i := 0) rfl (rfl))) fun a HF => ?_
  refine fp HF 1 2 [(12, vQ (IntKind.u64.wrap b.next))] fun a HF => ?_
  replace HF := HF.sp 12 (vQ b.next.toNat) rfl (qaa (by omega) (by omega))
  refine fo HF 3 rfl rfl ?_
  refine e_cl HF [vQ b.next.toNat] rfl rfl (qfv b.next.toNat (by omega) _) ?_
  rintro _ w13 ⟨⟨A13, c13, rfl, ho, hc13⟩, hbw⟩
  refine ⟨_, rfl, ?_⟩
  replace HM := HM.callRow hbw ho
  clear HF; intro a HF
  refine fp HF 1 4 [(2, .slice A13 ((vbytes b.next.toNat).length) c13)] fun a HF => ?_
  refine qb rfl (wp_ret ?_)
  exact ret1 rfl HF (.tmp HF rfl) (zz.as ⟨⟨_, _, rfl, HM.own (i := 0) rfl, hc13⟩, HM.below⟩ (by unfold Bk.body; rw [if_pos hk]))
 have hd9 := ne_of_beq_false hb9
 have hk : b.kind ≠ 2 := by omega
 obtain ⟨m0, m1, m2, m3, m4⟩ := qg0 hf hk
 refine qd HF rfl (wp_skip (wp_seq (qa ?_)))
 refine fp HF 1 0 [(14, vP g1 1)] fun a HF => ?_
 refine fy HF HM 1 rfl rfl rfl (v := vB b.cpu) (Yl.qh rfl rfl (by kernel_rfl) (fun _ h => h.cell (i := 0) rfl (rfl))) fun a HF => ?_
 refine fp HF 1 2 [(16, vQ (IntKind.u64.wrap (b.cpu : Int)))] fun a HF => ?_
 replace HF := HF.sp 16 (vQ b.cpu) rfl (qaa rfl (by omega))
 refine fp HF 1 3 [(17, vP g1 2)] fun a HF => ?_
 refine fy HF HM 4 rfl rfl rfl (v := vI b.lost) (Yl.qh rfl rfl (by kernel_rfl) (fun _ h => h.cell (i := 0) rfl (rfl))) fun a HF => ?_
 refine fp HF 1 5 [(19, vQ (IntKind.u64.wrap b.lost))] fun a HF => ?_
 replace HF := HF.sp 19 (vQ b.lost.toNat) rfl (qaa (by omega) (by omega))
 refine fp HF 1 6 [(20, vP g1 4)] fun a HF => ?_
 refine fy HF HM 7 rfl rfl rfl (v := .slice A b.evs.length c) (Yl.qh rfl rfl (by kernel_rfl) (fun _ h => h.cell (i := 0) rfl (rfl))) fun a HF => ?_
 refine fy HF HM 8 rfl rfl rfl (Yl.len rfl rfl (by kernel_rfl)) fun a HF => ?_
 refine fp HF 1 9 [(23, vQ (IntKind.u64.wrap (b.evs.length : Int)))] fun a HF => ?_
 replace HF := HF.sp 23 (vQ b.evs.length) rfl (qaa rfl (by omega))
 refine fo HF 10 rfl rfl ?_
 refine zp HF HM (vs := [(0, vQ b.cpu), (1, vQ b.lost.toNat), (2, vQ b.evs.length)]) (cs := #[vQ b.cpu, vQ b.lost.toNat, vQ b.evs.length]) rfl qf0 (by decide) rfl (by kernel_rfl) rfl (by decide) ?_
 clear HF HM; intro a w24 g24 HF HM
 refine fo HF 11 rfl rfl ?_
 refine e_cl HF [vS g24 3 3] rfl rfl (qqo _ 3 _ [b.cpu, b.lost.toNat, b.evs.length] _ (HM.rdBlk (i := 0) (n := 3) (size := 1) rfl rfl) (by intro x hx; simp only [List.mem_cons, List.not_mem_nil, or_false] at hx; omega) (by omega)) ?_
 rintro _ w25 ⟨⟨A25, c25, rfl, ho, hc25⟩, hbw⟩
 refine ⟨_, rfl, ?_⟩
 replace HM := HM.callRow hbw ho
 clear HF; intro a HF
 refine fp HF 1 12 [(3, .slice A25 (([b.cpu, b.lost.toNat, b.evs.length].flatMap vbytes).length) c25)] fun a HF => ?_
 refine qb rfl (wp_seq (wp_seq (qa ?_)))
 refine fp HF 1 0 [(26, vP g1 4)] fun a HF => ?_
 refine fy HF HM 1 rfl rfl rfl (v := .slice A b.evs.length c) (Yl.qh rfl rfl (by kernel_rfl) (fun _ h => h.cell (i := 2) rfl (rfl))) fun a HF => ?_
 refine fy HF HM 2 rfl rfl rfl (Yl.len rfl rfl (by kernel_rfl)) fun a HF => ?_
 refine fp HF 1 3 [(29, .bool ((b.evs.length : Int) == (0 : Int)))] fun a HF => ?_
 refine qb rfl ?_
 rcases HF.tf 29 rfl with ⟨hb29, HF⟩ | ⟨hb29, HF⟩
 ·
  have hd29 := eq_of_beq hb29
  refine qe HF rfl (wp_seq (qa ?_))
  refine fp HF 2 0 [(2, .slice A25 (([b.cpu, b.lost.toNat, b.evs.length].flatMap vbytes).length) c25)] fun a HF => ?_
  refine qb rfl (wp_ret ?_)
  replace HM := HM.picks (fs' := [.row (.slice A25 (([b.cpu, b.lost.toNat, b.evs.length].flatMap vbytes).length) c25) (([b.cpu, b.lost.toNat, b.evs.length].flatMap vbytes).length) (([b.cpu, b.lost.toNat, b.evs.length].flatMap vbytes).map B8) 5 1, .blk g1 (b.cells A c) 41]) [0, 2] (by decide) rfl
  exact ret1 rfl HF (.tmp HF rfl) (zz.as ⟨⟨_, _, rfl, HM.own (i := 0) rfl, hc25⟩, HM.below⟩ (by unfold Bk.body; rw [if_neg hk, if_pos (by omega)]; simp))
 have hd29 := ne_of_beq_false hb29
 have hw := qic hok (qd2 hf hk).2 (by omega)
 obtain ⟨q1, q2, q3, q4⟩ := qjh hok hf hk (by omega)
 refine qd HF rfl (wp_skip (wp_seq (qa ?_)))
 refine fy HF HM 0 rfl rfl rfl (v := .agg (b.cells A c)) (Yl.zl rfl rfl si_bk rfl (fun _ h => qf (h.blk (i := 2) rfl))) fun a HF => ?_
 refine fo HF 1 rfl rfl ?_
 refine e_is HF HM [.agg (b.cells A c)] (.agg b.base.cells) rfl rfl (qnc b A c _ (HM.old hr) (by omega)) fun w32 hbw HM a HF => ?_
 refine fo HF 2 rfl rfl ?_
 refine qq HF HM (cs := #[vI 0, vI 0]) rfl (by kernel_rfl) rfl (by decide) ?_
 clear HF HM; intro a w4 g4 HF HM
 refine fo HF 3 rfl rfl ?_
 refine e_sa HF HM 0 rfl rfl rfl rfl rfl ⟨(by kernel_rfl), (by kernel_rfl)⟩ rfl rfl (qpr b.base) ?_
 clear HM; intro w6_3 HM
 refine qb rfl (wp_seq (qa ?_))
 refine fy HF HM 0 rfl rfl rfl (v := .agg b.base.cells) (Yl.zl rfl rfl ⟨(by kernel_rfl), (by kernel_rfl)⟩ rfl (fun _ h => qf (h.blk (i := 0) rfl))) fun a HF => ?_
 refine fp HF 1 1 [(35, vP g1 4)] fun a HF => ?_
 refine fy HF HM 2 rfl rfl rfl (v := .slice A b.evs.length c) (Yl.qh rfl rfl (by kernel_rfl) (fun _ h => h.cell (i := 3) rfl (rfl))) fun a HF => ?_
 refine fo HF 3 rfl rfl ?_
 refine e_cl HF [.agg b.base.cells, .slice A b.evs.length c] rfl rfl (qsu b.base A b.evs.length c b.evs hok.evs B _ (hL.mem HM hB).laid (HM.le hB) (HM.old hr) (by omega) hw.1 hw.2) ?_
 rintro _ w37 ⟨⟨A37, c37, rfl, ho, hc37⟩, hbw⟩
 refine ⟨_, rfl, ?_⟩
 replace HM := HM.callRow hbw ho
 clear HF; intro a HF
 refine fp HF 5 4 [(5, .slice A37 ((recs b.base b.evs).length) c37)] fun a HF => ?_
 refine qb rfl (wp_seq ?_)
 refine qac HM [.row (.slice A37 ((recs b.base b.evs).length) c37) ((recs b.base b.evs).length) ((recs b.base b.evs).map B8) 5 1, .blk g4 b.base.cells 26, .row (.slice A25 (([b.cpu, b.lost.toNat, b.evs.length].flatMap vbytes).length) c25) (([b.cpu, b.lost.toNat, b.evs.length].flatMap vbytes).length) (([b.cpu, b.lost.toNat, b.evs.length].flatMap vbytes).map B8) 5 1, .blk g24 #[vQ b.cpu, vQ b.lost.toNat, vQ b.evs.length] 43, .blk g1 (b.cells A c) 41] [0, 1, 2, 3, 4] [] fun HM HS => ?_
 refine ap HF (fun _ => HS) [0, 1, 5, 9] #[true, true, false, false, false, true, false, false, false, true, false, false, false] [(49, .slice A37 ((recs b.base b.evs).length) c37), (45, vP g4 1), (41, vP g4 0), (40, .slice A25 (([b.cpu, b.lost.toNat, b.evs.length].flatMap vbytes).length) c25)] fun a HF => ?_
 refine ay HF HS 2 rfl rfl rfl (v := vI b.base.seq) (Yl.qh rfl rfl (by kernel_rfl) (fun _ h => h.cell (i := 1) rfl (rfl))) fun a HF => ?_
 refine zg HF (fun _ => HS) (i := 3) rfl rfl (d := 43) rfl (by decide) (by kernel_rfl) (fun _ _ _ h => h) (v := vQ (IntKind.u64.wrap b.base.seq)) (fun _ => Yl.pure (by kernel_rfl)) fun a HF => ?_
 replace HF := HF.sp 43 (vQ b.base.seq.toNat) rfl (qaa (by omega) (by omega))
 refine ay HF HS 6 rfl rfl rfl (v := vI b.base.time) (Yl.qh rfl rfl (by kernel_rfl) (fun _ h => h.cell (i := 1) rfl (rfl))) fun a HF => ?_
 refine zg HF (fun _ => HS) (i := 7) rfl rfl (d := 47) rfl (by decide) (by kernel_rfl) (fun _ _ _ h => h) (v := vQ (IntKind.u64.wrap b.base.time)) (fun _ => Yl.pure (by kernel_rfl)) fun a HF => ?_
 replace HF := HF.sp 47 (vQ b.base.time.toNat) rfl (qaa (by omega) (by omega))
 refine qj [4] (by kernel_rfl) rfl ?_
 refine all_cons ?_ all_nil
 refine qn HF (i := 4) rfl rfl ?_
 refine e_cl HF [vQ b.base.seq.toNat] rfl rfl (qfv b.base.seq.toNat (by omega) _) ?_
 rintro _ w44 ⟨⟨A44, c44, rfl, ho, hc44⟩, hbw⟩
 refine ⟨_, rfl, ?_⟩
 replace HM := HM.callRow hbw ho
 clear HF; intro a HF
 refine keepS (HM.picks [1, 2, 3, 4, 5] (by decide) rfl) (fun HS => ?_)
 refine qj [8] (by kernel_rfl) rfl ?_
 refine all_cons ?_ all_nil
 refine qn HF (i := 8) rfl rfl ?_
 refine e_cl HF [vQ b.base.time.toNat] rfl rfl (qfv b.base.time.toNat (by omega) _) ?_
 rintro _ w48 ⟨⟨A48, c48, rfl, ho, hc48⟩, hbw⟩
 refine ⟨_, rfl, ?_⟩
 replace HM := HM.callRow hbw ho
 clear HF; intro a HF
 refine keepS (HM.picks [2, 3, 4, 5, 6] (by decide) rfl) (fun HS => ?_)
 refine qj [10] (by kernel_rfl) rfl ?_
 refine all_cons ?_ all_nil
 refine qn HF (i := 10) rfl rfl ?_
 refine zp HF HM (vs := [(0, .slice A25 (([b.cpu, b.lost.toNat, b.evs.length].flatMap vbytes).length) c25), (1, .slice A44 ((vbytes b.base.seq.toNat).length) c44), (2, .slice A48 ((vbytes b.base.time.toNat).length) c48), (3, .slice A37 ((recs b.base b.evs).length) c37)]) (cs := #[.slice A25 (([b.cpu, b.lost.toNat, b.evs.length].flatMap vbytes).length) c25, .slice A44 ((vbytes b.base.seq.toNat).length) c44, .slice A48 ((vbytes b.base.time.toNat).length) c48, .slice A37 ((recs b.base b.evs).length) c37]) rfl ei_bb (by decide) rfl (by kernel_rfl) rfl (by decide) ?_
 clear HF HM; intro a w50 g50 HF HM
 refine keepS (HM.picks [3, 4, 5, 6, 7] (by decide) rfl) (fun HS => ?_)
 refine qj [11] (by kernel_rfl) rfl ?_
 refine all_cons ?_ all_nil
 refine qn HF (i := 11) rfl rfl ?_
 have hps := all4 (a := ⟨A25, c25, [b.cpu, b.lost.toNat, b.evs.length].flatMap vbytes⟩) (b := ⟨A44, c44, vbytes b.base.seq.toNat⟩) (c := ⟨A48, c48, vbytes b.base.time.toNat⟩) (d := ⟨A37, c37, recs b.base b.evs⟩) (HM.rd (i := 5) rfl) (HM.rd (i := 2) rfl) (HM.rd (i := 1) rfl) (HM.rd (i := 3) rfl)
 refine e_cl HF [vS g50 4 4] rfl rfl ((qob _ 4 _ [⟨A25, c25, [b.cpu, b.lost.toNat, b.evs.length].flatMap vbytes⟩, ⟨A44, c44, vbytes b.base.seq.toNat⟩, ⟨A48, c48, vbytes b.base.time.toNat⟩, ⟨A37, c37, recs b.base b.evs⟩] _ (HM.rdBlk (i := 0) (n := 4) (size := 1) rfl rfl) rfl (by omega) hps (by have h1 := qah [b.cpu, b.lost.toNat, b.evs.length]; have h2 := qk b.base.seq.toNat; have h3 := qk b.base.time.toNat; have h4 := qe5 b.evs b.base; simp only [List.flatMap_cons, List.flatMap_nil, List.length_append, List.append_nil, List.length_cons, List.length_nil] at h1 ⊢; omega)).mono (fun _ _ h => h.as (R' := vbytes b.cpu ++ vbytes b.lost.toNat ++ vbytes b.evs.length ++ (vbytes b.base.seq.toNat ++ vbytes b.base.time.toNat ++ recs b.base b.evs)) (by simp))) ?_
 rintro _ w51 ⟨⟨A51, c51, rfl, ho, hc51⟩, hbw⟩
 refine ⟨_, rfl, ?_⟩
 replace HM := HM.callRow hbw ho
 clear HF; intro a HF
 refine keepS (HM.picks [4, 5, 6, 7, 8] (by decide) rfl) (fun HS => ?_)
 refine ap HF (fun _ => HS) [12] #[true, true, true, true, true, true, true, true, true, true, true, true, true] [(2, .slice A51 ((vbytes b.cpu ++ vbytes b.lost.toNat ++ vbytes b.evs.length ++ (vbytes b.base.seq.toNat ++ vbytes b.base.time.toNat ++ recs b.base b.evs)).length) c51)] fun a HF => ?_
 refine ql (by kernel_rfl) ?_
 replace HF := HF.to [(2, .slice A51 ((vbytes b.cpu ++ vbytes b.lost.toNat ++ vbytes b.evs.length ++ (vbytes b.base.seq.toNat ++ vbytes b.base.time.toNat ++ recs b.base b.evs)).length) c51), (4, vP g4 0), (29, .bool false), (3, .slice A25 (([b.cpu, b.lost.toNat, b.evs.length].flatMap vbytes).length) c25), (9, .bool false), (1, vP g1 0)]
 replace HM := HM.picks (fs' := [.row (.slice A51 ((vbytes b.cpu ++ vbytes b.lost.toNat ++ vbytes b.evs.length ++ (vbytes b.base.seq.toNat ++ vbytes b.base.time.toNat ++ recs b.base b.evs)).length) c51) ((vbytes b.cpu ++ vbytes b.lost.toNat ++ vbytes b.evs.length ++ (vbytes b.base.seq.toNat ++ vbytes b.base.time.toNat ++ recs b.base b.evs)).length) ((vbytes b.cpu ++ vbytes b.lost.toNat ++ vbytes b.evs.length ++ (vbytes b.base.seq.toNat ++ vbytes b.base.time.toNat ++ recs b.base b.evs)).map B8) 5 1, .blk g4 b.base.cells 26, .row (.slice A25 (([b.cpu, b.lost.toNat, b.evs.length].flatMap vbytes).length) c25) (([b.cpu, b.lost.toNat, b.evs.length].flatMap vbytes).length) (([b.cpu, b.lost.toNat, b.evs.length].flatMap vbytes).map B8) 5 1, .blk g1 (b.cells A c) 41]) [0, 5, 6, 8] (by decide) rfl
 refine wp_ret ?_
 exact ret1 rfl HF (.tmp HF rfl) (zz.as ⟨⟨_, _, rfl, HM.own (i := 0) rfl, hc51⟩, HM.below⟩ (by unfold Bk.body; rw [if_neg hk, if_neg (by omega)]))
instance bkDec : DecidableEq Bk := fun ⟨a0, a1, a2, a3, a4⟩ ⟨b0, b1, b2, b3, b4⟩ =>
 decidable_of_iff (a0 = b0 ∧ a1 = b1 ∧ a2 = b2 ∧ a3 = b3 ∧ a4 = b4) (by simp)
theorem qqt {b : Bk} (h : 8 + b.body.length + 4 ≤ 4096) : (#[Value.int .u8 (((8 + b.body.length + 4) % 256 : Nat) : Int), .int .u8 (((8 + b.body.length + 4) / 256 % 256 : Nat) : Int), .int .u8 0, .int .u8 0, .int .u8 113, .int .u8 116, .int .u8 1, .int .u8 (b.kind : Int)] : Array Value).toList ++ b.body.map B8 = b.raw.map B8 := by
 have e0 : 8 + b.body.length + 4 = 12 + b.body.length := by omega
 have e1 : (12 + b.body.length) / 65536 % 256 = 0 := by omega
 have e2 : (12 + b.body.length) / 16777216 % 256 = 0 := by omega
 unfold Bk.raw le4
 rw [e0, e1, e2]
 simp [B8]
theorem qb7 (x : Nat) : ∀ b ∈ vbytes x, b < 256 := by
 intro b hb
 unfold vbytes at hb
 obtain ⟨p, hp, rfl⟩ := List.mem_map.1 hb
 have := qpl 10 x p hp
 unfold vbyte
 split <;> omega
theorem ql8 {b : Bs} {e : Ev} (h : e.kind < 256) : ∀ x ∈ zn b e, x < 256 := by
 intro x hx
 unfold zn at hx
 rcases List.mem_cons.1 hx with rfl | hx
 ·exact h
 ·obtain ⟨y, _, hy⟩ := List.mem_flatMap.1 hx
  exact qb7 y x hy
theorem qqu : ∀ (l : List Ev) (b : Bs), (∀ e ∈ l, e.Ok) → ∀ x ∈ recs b l, x < 256
 | [], _, _, x, hx => by simp [recs] at hx
 | e :: r, b, hok, x, hx => by
  rw [recs] at hx
  rcases List.mem_append.1 hx with h | h
  ·exact ql8 (hok e (by simp)).kind x h
  ·exact qqu r e.at (fun y hy => hok y (by simp [hy])) x h
theorem qu3 {b : Bk} (hok : b.Ok) : ∀ x ∈ b.body, x < 256 := by
 intro x hx
 unfold Bk.body at hx
 split at hx
 ·exact qb7 _ x hx
 ·rcases List.mem_append.1 hx with h | h
  ·rcases List.mem_append.1 h with h | h
   ·rcases List.mem_append.1 h with h | h
    ·exact qb7 _ x h
    ·exact qb7 _ x h
   ·exact qb7 _ x h
  ·split at h
   ·cases h
   ·rcases List.mem_append.1 h with h | h
    ·rcases List.mem_append.1 h with h | h
     ·exact qb7 _ x h
     ·exact qb7 _ x h
    ·exact qqu _ _ hok.evs x h
theorem qv9 {b : Bk} (hok : b.Ok) : ∀ x ∈ b.raw, x < 256 := by
 intro x hx
 unfold Bk.raw at hx
 rcases List.mem_append.1 hx with h | h
 ·rcases List.mem_append.1 h with h | h
  ·exact qv8 _ x h
  ·simp only [List.mem_cons, List.not_mem_nil, or_false] at h
   have := hok.kind
   omega
 ·exact qu3 hok x h
theorem qcv (b : Bk) : b.raw.length = 8 + b.body.length := by unfold Bk.raw le4; simp; omega
theorem qb8 (b : Bk) : b.body.length ≤ 50 + 61 * b.evs.length := by
 unfold Bk.body
 split
 ·have := qk b.next.toNat; omega
 ·have h1 := qk b.cpu
  have h2 := qk b.lost.toNat
  have h3 := qk b.evs.length
  have h4 := qk b.base.seq.toNat
  have h5 := qk b.base.time.toNat
  have h6 := qe5 b.evs b.base
  split <;> simp only [List.length_append, List.length_nil] <;> omega
theorem qua {w w' : World} {b : Bk} {er : Nat} (h : b.err = er) (he : er ≠ 0) (hb : Below w.heap.size w w') : qar w b.err b.out (.returned (.tuple #[.slice none 0 0, .int .i64 (er : Int)])) w' := by
 have h2 : b.out = [] := by unfold Bk.out; rw [if_neg (by omega)]
 rw [h, h2]
 exact ⟨⟨none, 0, rfl, World.ownsRow_nil _ _ _ _, Nat.le_refl _⟩, hb⟩
theorem qub {b : Bk} (h : b.err = 0) : b.out = sealL b.raw := by unfold Bk.out; rw [if_pos h]
theorem qqv (b : Bk) : b.out.length ≤ 4096 := by
 unfold Bk.out
 split
 ·rename_i h
  unfold Bk.err at h
  split at h
  ·cases h
  ·split at h
   ·cases h
   ·rw [qna, qcv]; omega
 ·simp
theorem qc7 (most : Nat) (l : List Nat) : tkVal most l ≤ most := by unfold tkVal; split <;> omega
theorem qg2 (most : Nat) (l : List Nat) : (if ((most : Nat) : Int) < (((vread l).1 : Nat) : Int) then ((most : Nat) : Int) else (((vread l).1 : Nat) : Int)) = ((tkVal most l : Nat) : Int) := by unfold tkVal; split <;> split <;> omega
theorem qd4 (l : List Nat) : (qc l).length = l.length - (vread l).2.1 := by unfold qc; rw [List.length_drop]
theorem qcw (l : List Nat) : (qc l).length ≤ l.length := by rw [qd4]; omega
theorem qoh {most : Nat} {l : List Nat} (h : (vread l).2.2 ≠ 0) : tkOk most l = false := by unfold tkOk; rw [decide_eq_false]; omega
def quc (W : World) (gb gk : Nat) (l : List Nat) (okb : Bool) (most : Nat) (fr : List Fact) (r : Ending) (w' : World) : Prop :=
 r = .returned (.int .i64 ((tkVal most l : Nat) : Int)) ∧ ∃ A' c', Rd W W.heap.size 1 A' (qc l).length ((qc l).map B8) ∧ (qc l).length ≤ c' ∧
  Mem W w' (.blk gb #[.slice A' (qc l).length c'] 54 :: .blk gk #[.bool (okb && tkOk most l)] 4 :: fr)
theorem qg3 {W w' : World} {gb gk n c most : Nat} {l : List Nat} {okb ok2 : Bool} {A : Option Addr} {fr : List Fact} (hr : Rd W W.heap.size 1 A l.length (l.map B8)) (hc : l.length ≤ c) (h2 : (okb && tkOk most l) = ok2) (hn : n = l.length)
  (HM : Mem W w' (.blk gb #[.slice (if c = (vread l).2.1 then A else A.map (·.add ((vread l).2.1 * 1))) (n - (vread l).2.1) (c - (vread l).2.1)] 54 :: .blk gk #[.bool ok2] 4 :: fr)) :
  quc W gb gk l okb most fr (.returned (.int .i64 ((tkVal most l : Nat) : Int))) w' := by
 subst h2; subst hn
 refine ⟨rfl, (if c = (vread l).2.1 then A else A.map (·.add ((vread l).2.1 * 1))), c - (vread l).2.1, ?_, ?_, ?_⟩
 ·rw [qd4]
  exact hr.qnt (qcn l) hc
 ·rw [qd4]; omega
 ·rw [qd4]; exact HM
def qem (w : World) (q : Option Bk) (r : Ending) (w' : World) : Prop :=
 (∃ cs : Array Value, r = .returned (.tuple #[.agg cs, .bool q.isSome]) ∧ cs.size = 5 ∧ (∀ v ∈ cs.toList, v.oneCell' = true) ∧
  (∀ b, q = some b → ∃ A c, cs = b.cells A c ∧ w'.ownsRow w.heap.size 45 11 (.slice A b.evs.length c) b.evs.length (b.evs.flatMap evL) ∧ b.evs.length ≤ c)) ∧ Below w.heap.size w w'
theorem qbq {w w' : World} {q : Option Bk} {cs : Array Value} (h : q = none) (hs : cs.size = 5) (h1 : ∀ v ∈ cs.toList, v.oneCell' = true) (hb : Below w.heap.size w w') : qem w q (.returned (.tuple #[.agg cs, .bool false])) w' := by
 subst h
 exact ⟨⟨cs, rfl, hs, h1, fun b h => by cases h⟩, hb⟩
theorem qci {w w' : World} {q : Option Bk} {b : Bk} {A : Option Addr} {c : Nat} (h : q = some b) (ho : w'.ownsRow w.heap.size 45 11 (.slice A b.evs.length c) b.evs.length (b.evs.flatMap evL)) (hc : b.evs.length ≤ c) (hb : Below w.heap.size w w') : qem w q (.returned (.tuple #[.agg (b.cells A c), .bool true])) w' := by
 subst h
 exact ⟨⟨_, rfl, rfl, qbv _ _ _, fun b' h => by injection h with h; subst h; exact ⟨A, c, rfl, ho, hc⟩⟩, hb⟩
theorem tk3 {l : List Nat} : (((true && tkOk 63 l) && tkOk 281474976710656 (qc l)) && tkOk 4096 (qc (qc l))) = qcu l := by unfold qcu; simp
theorem qie (l : List Nat) : qee 2 l = qa0 l := by unfold qee; rw [if_pos rfl]
theorem qbf (l : List Nat) : qee 1 l = zj l := by unfold qee; rw [if_neg (by omega)]
theorem endOk {x : Nat} (h : x ≤ 281474976710657) : Bk.Ok ⟨2, 0, 0, (x : Int), []⟩ := ⟨by show 2 < 256; decide, by show 0 < 256; decide, by unfold I64; simp, qdo h, by simp⟩
theorem evsOk {cpu lost : Nat} {es : List Ev} (h : cpu < 256) (hl : lost ≤ 281474976710656) (he : ∀ e ∈ es, e.Ok) : Bk.Ok ⟨1, cpu, (lost : Int), 0, es⟩ := ⟨by show 1 < 256; decide, h, qdo (by show lost ≤ _; omega), by unfold I64; simp, he⟩
theorem qe6 {l : List Nat} {q : List Ev × Nat × Nat} (h3 : qcu l = true) (h0 : 0 < tkVal 4096 (qc (qc l)))
  (hq : readR ⟨(tkVal 281474976710656 (qc (qc (qc l))) : Int), (tkVal 281474976710656 (qc (qc (qc (qc l)))) : Int)⟩ (tkVal 63 l) (tkVal 4096 (qc (qc l)) : Int) (qc (qc (qc (qc (qc l))))) = q) :
  zj l = qal (tkVal 63 l) (tkVal 281474976710656 (qc l)) (qc (qc (qc l))) q := by
 unfold zj
 rw [if_pos ⟨h3, h0⟩, hq]
theorem qef {cpu lost : Nat} {l : List Nat} {q : List Ev × Nat × Nat} (h : ¬ (q.2.2 = 0 ∧ (q.1.getD 0 Ev.zero).seq = (tkVal 281474976710656 l : Int) ∧ (q.1.getD 0 Ev.zero).time = (tkVal 281474976710656 (qc l) : Int) ∧ tkOk 281474976710656 l = true ∧ tkOk 281474976710656 (qc l) = true ∧ (qc (qc l)).length - q.2.1 = 0 ∧ Bk.fits ⟨1, cpu, lost, 0, q.1⟩ = true)) : qal cpu lost l q = none := by
 unfold qal
 rw [if_neg]
 intro hh
 obtain ⟨h1, h2, h3, h4, h5, h6, h7⟩ := hh
 rw [List.length_drop] at h6
 have e : q.1.headD Ev.zero = q.1.getD 0 Ev.zero := by cases q.1 <;> rfl
 rw [e] at h2 h3
 exact h ⟨h1, h2, h3, h4, h5, h6, h7⟩
theorem qhx {cpu lost : Nat} {l : List Nat} {q : List Ev × Nat × Nat} (h : q.2.2 = 0 ∧ (q.1.getD 0 Ev.zero).seq = (tkVal 281474976710656 l : Int) ∧ (q.1.getD 0 Ev.zero).time = (tkVal 281474976710656 (qc l) : Int) ∧ tkOk 281474976710656 l = true ∧ tkOk 281474976710656 (qc l) = true ∧ (qc (qc l)).length - q.2.1 = 0 ∧ Bk.fits ⟨1, cpu, lost, 0, q.1⟩ = true) : qal cpu lost l q = some ⟨1, cpu, lost, 0, q.1⟩ := by
 unfold qal
 rw [if_pos]
 obtain ⟨h1, h2, h3, h4, h5, h6, h7⟩ := h
 have e : q.1.headD Ev.zero = q.1.getD 0 Ev.zero := by cases q.1 <;> rfl
 rw [e, List.length_drop]
 exact ⟨h1, h2, h3, h4, h5, h6, h7⟩
theorem qen (l : List Nat) : (qa0 l).isSome = (tkOk 281474976710657 l && (decide ((qc l).length = 0) && Bk.fits ⟨2, 0, 0, (tkVal 281474976710657 l : Int), []⟩)) := by
 unfold qa0
 split
 ·rename_i h; rw [h.1, decide_eq_true h.2.1, h.2.2]; rfl
 ·rename_i h
  show false = _
  rw [eq_comm, Bool.eq_false_iff]
  intro hh
  simp only [Bool.and_eq_true, decide_eq_true_eq] at hh
  exact h ⟨hh.1, hh.2.1, hh.2.2⟩
theorem qkj {l : List Nat} (h : (qa0 l).isSome = true) : qa0 l = some ⟨2, 0, 0, (tkVal 281474976710657 l : Int), []⟩ := by
 unfold qa0 at h ⊢
 split
 ·rfl
 ·rename_i h2; rw [if_neg h2] at h; cases h
theorem qnd {l : List Nat} (h : ¬ (qcu l = true ∧ 0 < tkVal 4096 (qc (qc l)))) : (zj l).isSome = (qcu l && (decide ((qc (qc (qc l))).length = 0) && Bk.fits ⟨1, tkVal 63 l, (tkVal 281474976710656 (qc l) : Int), 0, []⟩)) := by
 unfold zj
 rw [if_neg h]
 split
 ·rename_i h; rw [h.1, decide_eq_true h.2.1, h.2.2]; rfl
 ·rename_i h
  show false = _
  rw [eq_comm, Bool.eq_false_iff]
  intro hh
  simp only [Bool.and_eq_true, decide_eq_true_eq] at hh
  exact h ⟨hh.1, hh.2.1, hh.2.2⟩
theorem qqw {l : List Nat} (h : ¬ (qcu l = true ∧ 0 < tkVal 4096 (qc (qc l)))) (hs : (zj l).isSome = true) : zj l = some ⟨1, tkVal 63 l, (tkVal 281474976710656 (qc l) : Int), 0, []⟩ := by
 unfold zj at hs ⊢
 rw [if_neg h] at hs ⊢
 split
 ·rfl
 ·rename_i h2; rw [if_neg h2] at hs; cases hs
theorem ql9 {cpu lost L : Nat} {l : List Nat} {es : List Ev} (h : (es.getD 0 Ev.zero).seq = (tkVal 281474976710656 l : Int) ∧ (es.getD 0 Ev.zero).time = (tkVal 281474976710656 (qc l) : Int)) : (qal cpu lost l (es, L, 0)).isSome = ((tkOk 281474976710656 l && tkOk 281474976710656 (qc l)) && (decide ((qc (qc l)).length - L = 0) && Bk.fits ⟨1, cpu, (lost : Int), 0, es⟩)) := by
 cases hc : ((tkOk 281474976710656 l && tkOk 281474976710656 (qc l)) && (decide ((qc (qc l)).length - L = 0) && Bk.fits ⟨1, cpu, (lost : Int), 0, es⟩)) with
 | true =>
  simp only [Bool.and_eq_true, decide_eq_true_eq] at hc
  rw [qhx ⟨rfl, h.1, h.2, hc.1.1, hc.1.2, hc.2.1, hc.2.2⟩]
  rfl
 | false =>
  rw [qef]
  ·rfl
  ·intro hh
   obtain ⟨h1, h2, h3, h4, h5, h6, h7⟩ := hh
   rw [h4, h5, h7, decide_eq_true h6] at hc
   cases hc
theorem qs7 {cpu lost : Nat} {l : List Nat} {q : List Ev × Nat × Nat} (h : (qal cpu lost l q).isSome = true) : qal cpu lost l q = some ⟨1, cpu, (lost : Int), 0, q.1⟩ := by
 unfold qal at h ⊢
 split
 ·rfl
 ·rename_i h2; rw [if_neg h2] at h; cases h
theorem qem.none {w w' : World} {q : Option Bk} {r : Ending} (h : qem w q r w') (hq : q = none) : (∃ cs : Array Value, r = .returned (.tuple #[.agg cs, .bool false]) ∧ cs.size = 5 ∧ (∀ v ∈ cs.toList, v.oneCell' = true)) ∧ Below w.heap.size w w' := by
 subst hq
 obtain ⟨⟨cs, h1, h2, h3, _⟩, h4⟩ := h
 exact ⟨⟨cs, h1, h2, h3⟩, h4⟩
theorem qem.some {w w' : World} {q : Option Bk} {b : Bk} {r : Ending} (h : qem w q r w') (hq : q = some b) : (∃ A c, r = .returned (.tuple #[.agg (b.cells A c), .bool true]) ∧ w'.ownsRow w.heap.size 45 11 (.slice A b.evs.length c) b.evs.length (b.evs.flatMap evL) ∧ b.evs.length ≤ c) ∧ Below w.heap.size w w' := by
 subst hq
 obtain ⟨⟨cs, h1, h2, h3, h5⟩, h4⟩ := h
 obtain ⟨A, c, rfl, h6, h7⟩ := h5 b rfl
 exact ⟨⟨A, c, h1, h6, h7⟩, h4⟩
def qma (T : TypeId) (w : World) (q : Bk × Nat × Nat) (r : Ending) (w' : World) : Prop :=
 (∃ A c, r = .returned (.tuple #[.agg (q.1.cells A c), .int .i64 (q.2.1 : Int), .int .i64 (q.2.2 : Int)]) ∧ w'.ownsRow w.heap.size T 11 (.slice A q.1.evs.length c) q.1.evs.length (q.1.evs.flatMap evL) ∧ q.1.evs.length ≤ c) ∧ Below w.heap.size w w'
theorem qas {T : TypeId} {w w' : World} {q : Bk × Nat × Nat} {er : Nat} (h : q = (Bk.zero, 0, er)) (hb : Below w.heap.size w w') : qma T w q (.returned (.tuple #[.agg #[.int .u8 0, .int .u8 0, .int .i64 0, .int .i64 0, .slice none 0 0], .int .i64 0, .int .i64 (er : Int)])) w' := by
 subst h
 exact ⟨⟨none, 0, rfl, World.ownsRow_nil _ _ _ _, Nat.le_refl _⟩, hb⟩
theorem qif {T : TypeId} {w w' : World} {q : Bk × Nat × Nat} {b : Bk} {m c : Nat} {A : Option Addr} (h : q = (b, m, 0)) (ho : w'.ownsRow w.heap.size T 11 (.slice A b.evs.length c) b.evs.length (b.evs.flatMap evL)) (hc : b.evs.length ≤ c) (hb : Below w.heap.size w w') : qma T w q (.returned (.tuple #[.agg (b.cells A c), .int .i64 (m : Int), .int .i64 0])) w' := by
 subst h
 exact ⟨⟨A, c, rfl, ho, hc⟩, hb⟩
theorem qqx {l : List Nat} (h : (lenR l).2 ≠ 0) : readB l = (Bk.zero, 0, (lenR l).2) := by unfold readB; rw [if_pos h]
theorem qbg {l L : List Nat} {e : Nat} (h : (lenR l).2 = 0) (hL : L = l.take (lenR l).1) (hb : blkOf L = (none, e)) : readB l = (Bk.zero, 0, e) := by unfold readB; rw [if_neg (by omega), ← hL, hb]
theorem qig {l L : List Nat} {b : Bk} {e : Nat} (h : (lenR l).2 = 0) (hL : L = l.take (lenR l).1) (hb : blkOf L = (some b, e)) : readB l = (b, (lenR l).1, 0) := by unfold readB; rw [if_neg (by omega), ← hL, hb]
theorem tk5 {l : List Nat} {m1 m2 m3 m4 m5 : Nat} {a b c d e : List Nat} : (((((true && tkOk m1 a) && tkOk m2 b) && tkOk m3 c) && tkOk m4 d) && tkOk m5 e) = ((((true && tkOk m1 a) && tkOk m2 b) && tkOk m3 c) && (tkOk m4 d && tkOk m5 e)) := by
 have _ := l
 rw [Bool.and_assoc]
theorem qtd {l : List Nat} (hl : ∀ x ∈ l, x < 256) (h : 4 ≤ l.length) : le4 (num4 (l.drop (l.length - 4))) = l.drop (l.length - 4) := by
 have h1 : (l.drop (l.length - 4)).length = 4 := by rw [List.length_drop]; omega
 rw [qne (qa7 hl _) (by omega), List.take_of_length_le (by omega)]
theorem qu5 {l : List Nat} (hl : ∀ x ∈ l, x < 256) (h : qbu l = true) : sealL (l.take (l.length - 4)) = l := by
 unfold qbu at h
 rw [decide_eq_true_eq] at h
 unfold sealL
 rw [h.2, qtd hl h.1, List.take_append_drop]
theorem qq2 {l : List Nat} {b : Bk} {m er : Nat} (h : readB l = (b, m, er)) (he : er ≠ 0) : b = Bk.zero ∧ m = 0 := by
 unfold readB at h
 split at h
 ·simp only [Prod.mk.injEq] at h; exact ⟨h.1.symm, h.2.1.symm⟩
 ·split at h
  ·simp only [Prod.mk.injEq] at h; exact absurd h.2.2.symm he
  ·simp only [Prod.mk.injEq] at h; exact ⟨h.1.symm, h.2.1.symm⟩
theorem qq3 {l : List Nat} (h : (blkOf l).1 = none) : (blkOf l).2 ≠ 0 := by
 unfold blkOf at h ⊢
 split
 ·decide
 ·rename_i h1
  rw [if_neg h1] at h
  split
  ·decide
  ·rename_i h2
   rw [if_neg h2] at h
   split
   ·decide
   ·rename_i h3
    rw [if_neg h3] at h
    split
    ·decide
    ·rename_i h4
     rw [if_neg h4] at h
     split
     ·decide
     ·rename_i b hb
      rw [hb] at h
      cases h
structure OneForm (l : List Nat) (b : Bk) (m : Nat) : Prop where
 ok : b.Ok
 fits : b.fits = true
 err : b.err = 0
 out : b.out = l.take m
 len : m ≤ l.length
 evs : b.evs.length ≤ 4096
 least : 13 ≤ m
 most : m ≤ 4096
theorem qjj {l : List Nat} {b : Bk} {m : Nat} (hl : ∀ x ∈ l, x < 256) (h : readB l = (b, m, 0)) : OneForm l b m := by
 unfold readB at h
 split at h
 ·rename_i h0; simp only [Prod.mk.injEq] at h; exact absurd h.2.2 h0
 ·rename_i h0
  obtain ⟨h1, h2, h3, h4⟩ := qqz (show (lenR l).2 = 0 by omega)
  split at h
  ·rename_i b' hb
   simp only [Prod.mk.injEq] at h
   obtain ⟨rfl, rfl, _⟩ := h
   generalize (lenR l).1 = n at h1 h2 h3 h4 hb
   have hL : ∀ x ∈ l.take n, x < 256 := qbe hl n
   have hlen : (l.take n).length = n := by rw [List.length_take]; omega
   have hnum : num4 (l.take n) = n := by rw [qq0 (by omega)]; exact h1
   obtain ⟨L, hLe⟩ : ∃ L, L = l.take n := ⟨_, rfl⟩
   rw [← hLe] at hb hL hlen hnum
   unfold blkOf at hb
   split at hb
   ·cases hb
   ·rename_i s1
    split at hb
    ·cases hb
    ·rename_i s2
     split at hb
     ·cases hb
     ·rename_i s3
      split at hb
      ·cases hb
      ·rename_i s4
       split at hb
       ·cases hb
       ·rename_i b'' hp
        injection hb with hb
        subst hb
        have hk : L.getD 7 0 = 1 ∨ L.getD 7 0 = 2 := by omega
        have s2 : L.getD 4 0 = 113 ∧ L.getD 5 0 = 116 := Decidable.of_not_not s2
        obtain ⟨q1, q2, q3, q4, q5⟩ := qn9 hk (qa7 (qbe hL _) _) hp
        have herr : b''.err = 0 := by
         unfold Bk.err
         rw [if_neg (by simp [q3]), if_neg (by rw [q4, List.length_drop, List.length_take]; omega)]
        refine ⟨q2, q3, herr, ?_, h4, q5, h2, h3⟩
        rw [← hLe, qub herr, qtc hL (by omega) (by omega) s2.1 s2.2 (by omega) q1.symm q4]
        exact qu5 hL (by simpa using s1)
  ·rename_i hb
   simp only [Prod.mk.injEq] at h
   exact absurd h.2.2 (qq3 hb)
structure Hb where
 b : Bk
 A : Option Addr
 c : Nat
def Hb.zero : Hb := ⟨Bk.zero, none, 0⟩
def hbL (h : Hb) : List Value := (h.b.cells h.A h.c).toList
theorem qcl (h : Hb) : (hbL h).length = 5 := rfl
def Hb.own (h : Hb) : Own := ⟨h.A, h.b.evs.length, h.c, h.b.evs.flatMap evL⟩
def hbF (t : TypeId) (q : List Hb) : List Fact := ownsF t 11 (q.map Hb.own)
def HbRd (w : World) (q : List Hb) : Prop := ∀ h ∈ q, Rd w w.heap.size 11 h.A h.b.evs.length (h.b.evs.flatMap evL)
section
variable {W w w' : World} {fs gs a b : List Fact} {t bt : TypeId} {q : List Hb}
theorem qs8 (h : Hb) : hbF t (h :: q) = .row (.slice h.A h.b.evs.length h.c) h.b.evs.length (h.b.evs.flatMap evL) t 11 :: hbF t q := rfl
theorem qs9 (h : Hb) : hbF t (q ++ [h]) = hbF t q ++ [.row (.slice h.A h.b.evs.length h.c) h.b.evs.length (h.b.evs.flatMap evL) t 11] := by
 unfold hbF ownsF
 rw [List.map_append, List.map_append]
 rfl
theorem qu4 {h : Hb} (hq : h ∈ q) : Fact.row (.slice h.A h.b.evs.length h.c) h.b.evs.length (h.b.evs.flatMap evL) t 11 ∈ hbF t q := List.mem_map_of_mem (List.mem_map_of_mem hq)
theorem Mem.hbRd (h : Mem W w fs) (hs : ∀ f ∈ hbF t q, f ∈ fs) : HbRd w q := fun _ hx => h.qwz (hs _ (qu4 hx))
theorem HbRd.old (h : HbRd W q) (HM : Mem W w fs) : HbRd w q := fun x hx => HM.old (h x hx)
theorem HbRd.at {k : Nat} (h : HbRd w q) (hk : k < q.length) : Rd w w.heap.size 11 (q.getD k Hb.zero).A (q.getD k Hb.zero).b.evs.length ((q.getD k Hb.zero).b.evs.flatMap evL) := by
 refine h _ ?_
 rw [List.getD_eq_getElem?_getD, List.getElem?_eq_getElem hk]
 exact List.getElem_mem hk
theorem Mem.toHb {x : Bk} {A : Option Addr} {c : Nat} (h : Mem W w (.row (.slice A x.evs.length c) x.evs.length (x.evs.flatMap evL) t 11 :: (a ++ (hbF t q ++ b)))) : Mem W w (a ++ (hbF t (q ++ [⟨x, A, c⟩]) ++ b)) := by
 refine h.perm ?_
 rw [qs9]
 have h1 : (Fact.row (.slice A x.evs.length c) x.evs.length (x.evs.flatMap evL) t 11 :: (a ++ (hbF t q ++ b))).Perm (a ++ Fact.row (.slice A x.evs.length c) x.evs.length (x.evs.flatMap evL) t 11 :: (hbF t q ++ b)) := (List.perm_middle).symm
 refine h1.trans (List.Perm.append_left a ?_)
 rw [List.append_assoc]
 exact (List.perm_middle (l₁ := hbF t q) (l₂ := b)).symm
theorem Mem.qwr {k : Nat} (h : Mem W w (a ++ (hbF t (q.drop k) ++ b))) (hk : k < q.length) :
  Mem W w (.row (.slice (q.getD k Hb.zero).A (q.getD k Hb.zero).b.evs.length (q.getD k Hb.zero).c) (q.getD k Hb.zero).b.evs.length ((q.getD k Hb.zero).b.evs.flatMap evL) t 11 :: (a ++ (hbF t (q.drop (k + 1)) ++ b))) := by
 refine h.perm ?_
 rw [List.drop_eq_getElem_cons hk, qs8, List.getD_eq_getElem?_getD, List.getElem?_eq_getElem hk]
 exact List.perm_middle
theorem Mem.quj {f : Fact} (h : Mem W w (a ++ b)) (k : Mem w w' (f :: hbF t q)) : Mem W w' (f :: (a ++ (hbF t q ++ b))) := by
 refine (h.join k).perm (List.Perm.cons f ?_)
 show (hbF t q ++ (a ++ b)).Perm _
 rw [← List.append_assoc, ← List.append_assoc]
 exact List.Perm.append_right b List.perm_append_comm
end
theorem hb_eq {q q2 : List Hb} {k : Nat} (h : q.map Hb.b = q2.map Hb.b) (hk : k < q.length) : (q.getD k Hb.zero).b = (q2.getD k Hb.zero).b := by
 have hl : q.length = q2.length := by have h := congrArg List.length h; rwa [List.length_map, List.length_map] at h
 have h1 := congrArg (·[k]?) h
 simp only [List.getElem?_map] at h1
 rw [List.getElem?_eq_getElem hk, List.getElem?_eq_getElem (by omega)] at h1
 rw [List.getD_eq_getElem?_getD, List.getD_eq_getElem?_getD, List.getElem?_eq_getElem hk, List.getElem?_eq_getElem (by omega)]
 injection h1
def qg4 (t bt : TypeId) (w : World) (er : Nat) (bs : List Bk) : Ending → World → Prop := fun r w' => ∃ A c q, r = .returned (.tuple #[.slice A bs.length c, .int .i64 (er : Int)]) ∧ q.map Hb.b = bs ∧ bs.length ≤ c ∧ Mem w w' (.row (.slice A bs.length c) bs.length (q.flatMap hbL) bt 5 :: hbF t q)
section
variable {W w : World} {fs a : List Fact} {t bt : TypeId} {q : List Hb}
theorem Mem.only (h : Mem W w fs) {f : Fact} (hf : f ∈ fs) : Mem W w [f] := ⟨h.below, fun k hk => by rw [List.mem_singleton] at hk; subst hk; exact h.holds k hf, List.pairwise_singleton _ _⟩
theorem Mem.qvj {x : Bk} {A : Option Addr} {c : Nat} (h : Mem W w (.row (.slice A x.evs.length c) x.evs.length (x.evs.flatMap evL) t 11 :: fs)) (hfs : fs = a ++ hbF t q) : Mem W w (a ++ hbF t (q ++ [⟨x, A, c⟩])) := by
 subst hfs
 have h1 := Mem.toHb (b := []) (by rwa [List.append_nil])
 rwa [List.append_nil] at h1
theorem qbm {er : Nat} {n : Int} (h : Mem W w fs) (he : n = er) : qg4 t bt W er [] (.returned (.tuple #[.slice none 0 0, .int .i64 n])) w := by
 subst he
 exact ⟨none, 0, [], rfl, rfl, Nat.le_refl _, Mem.nil ⟨h.below, fun f hf => absurd hf List.not_mem_nil, .nil⟩ _ _⟩
theorem qta {cpu : Nat} {opn : Int} (h : Mem W w fs) {i g : Nat} (hi : fs[i]? = some (.blk g #[.int .u8 1, .int .u8 (cpu : Int), .int .i64 opn, .int .i64 0, .slice none 0 0] bt)) : qg4 t bt W 0 [⟨1, cpu, opn, 0, []⟩] (.returned (.tuple #[.slice (some ⟨g, 0, none⟩) 1 1, .int .i64 0])) w := by
 refine ⟨some ⟨g, 0, none⟩, 1, [⟨⟨1, cpu, opn, 0, []⟩, none, 0⟩], rfl, rfl, Nat.le_refl _, ?_⟩
 have h1 := (h.only (List.mem_of_getElem? hi)).blkRow (i := 0) (n := 1) (size := 5) rfl rfl (by decide)
 exact (h1.nil t 11).perm (List.Perm.swap _ _ _)
theorem qmb {A : Option Addr} {c : Nat} (h : Mem W w (.row (.slice A q.length c) q.length (q.flatMap hbL) bt 5 :: hbF t q)) (hc : q.length ≤ c) : qg4 t bt W 0 (q.map Hb.b) (.returned (.tuple #[.slice A q.length c, .int .i64 0])) w :=
 ⟨A, c, q, by rw [List.length_map]; rfl, rfl, by rwa [List.length_map], by rwa [List.length_map]⟩
end
theorem qih (b : Bk) (hok : b.Ok) (A : Option Addr) (c B : Nat) (w : World) (hL : LaidX B w) (hB : B ≤ w.heap.size) (hr : Rd w w.heap.size 11 A b.evs.length (b.evs.flatMap evL)) (hn : b.evs.length ≤ 1000000) :
    Calls Tryd.prog 24 #[.agg (b.cells A c)] w (qar w b.err b.out) := by
 refine qg (vs := [.agg (b.cells A c)]) Tryd.func24 rfl rfl (by kernel_rfl) (σ0 := [(0, .agg (b.cells A c))]) rfl ?_
 intro a HF
 have HM := Mem.start w
 refine wp_seq (qa ?_)
 refine fo HF 0 rfl rfl ?_
 refine e_box HF HM (cs := (b.cells A c)) rfl rfl rfl rfl (by decide) ?_
 clear HF HM; intro a w1 g1 HF HM
 refine fp HF 2 1 [(3, vI 0), (2, .slice none 0 0)] fun a HF => ?_
 refine qb rfl (wp_seq (wp_seq (qa ?_)))
 refine fy HF HM 0 rfl rfl rfl (v := .agg (b.cells A c)) (Yl.zl rfl rfl si_bk rfl (fun _ h => qf (h.blk (i := 0) rfl))) fun a HF => ?_
 refine fo HF 1 rfl rfl ?_
 refine e_is HF HM [.agg (b.cells A c)] (.bool b.fits) rfl rfl (qd3 b hok A c B _ (hL.mem HM hB) (HM.le hB) (HM.old hr) hn) fun w8 hbw HM a HF => ?_
 refine fp HF 1 2 [(9, .bool (!b.fits))] fun a HF => ?_
 refine qb rfl ?_
 rcases HF.tf 9 rfl with ⟨hb9, HF⟩ | ⟨hb9, HF⟩
 ·
  have hfit : b.fits = false := by simpa using hb9
  refine qe HF rfl (wp_seq (qa ?_))
  refine fp HF 2 0 [(3, vI 107), (2, .slice none 0 0)] fun a HF => ?_
  refine qb rfl (wp_ret ?_)
  exact ret2 rfl HF (.tmp HF rfl) (.tmp HF rfl) (qua (by unfold Bk.err; rw [if_pos hfit]) (by decide) HM.below)
 have hfit : b.fits = true := by simpa using hb9
 have hbl := qb8 b
 refine qd HF rfl (wp_skip (wp_seq (qa ?_)))
 refine fy HF HM 0 rfl rfl rfl (v := .agg (b.cells A c)) (Yl.zl rfl rfl si_bk rfl (fun _ h => qf (h.blk (i := 0) rfl))) fun a HF => ?_
 refine fo HF 1 rfl rfl ?_
 refine e_cl HF [.agg (b.cells A c)] rfl rfl (qs6 b hok A c B _ (hL.mem HM hB) (HM.le hB) (HM.old hr) hn hfit) ?_
 rintro _ w11 ⟨⟨A11, c11, rfl, ho, hc11⟩, hbw⟩
 refine ⟨_, rfl, ?_⟩
 replace HM := HM.callRow hbw ho
 clear HF; intro a HF
 refine fp HF 1 2 [(4, .slice A11 ((b.body).length) c11)] fun a HF => ?_
 refine qb rfl (wp_seq (qa ?_))
 refine fp HF 1 0 [(12, .slice A11 ((b.body).length) c11)] fun a HF => ?_
 refine fy HF HM 1 rfl rfl rfl (Yl.len rfl rfl (by kernel_rfl)) fun a HF => ?_
 refine fp HF 1 2 [(14, vI (IntKind.i64.wrap (8 + (((b.body).length : Nat) : Int))))] fun a HF => ?_
 replace HF := HF.sp 14 (vI (8 + ((b.body).length) : Nat)) rfl (qo (by omega) (by omega))
 refine fp HF 1 3 [(15, vI (IntKind.i64.wrap (((8 + ((b.body).length) : Nat) : Int) + 4)))] fun a HF => ?_
 replace HF := HF.sp 15 (vI (8 + ((b.body).length) + 4 : Nat)) rfl (qo (by omega) (by omega))
 refine fp HF 1 4 [(5, vI (8 + ((b.body).length) + 4 : Nat))] fun a HF => ?_
 refine qb rfl (wp_seq (wp_seq (qa ?_)))
 refine fp HF 2 0 [(17, .bool (decide (((8 + ((b.body).length) + 4 : Nat) : Int) > (4096 : Int))))] fun a HF => ?_
 refine qb rfl ?_
 rcases HF.tf 17 rfl with ⟨hb17, HF⟩ | ⟨hb17, HF⟩
 ·
  have hd17 := of_decide_eq_true hb17
  refine qe HF rfl (wp_seq (qa ?_))
  refine fp HF 2 0 [(3, vI 3), (2, .slice none 0 0)] fun a HF => ?_
  refine qb rfl (wp_ret ?_)
  exact ret2 rfl HF (.tmp HF rfl) (.tmp HF rfl) (qua (by unfold Bk.err; rw [if_neg (by simp [hfit]), if_pos (by omega)]) (by decide) HM.below)
 have hd17 := of_decide_eq_false hb17
 refine qd HF rfl (wp_skip (wp_seq (qa ?_)))
 refine fp HF 2 0 [(19, vB (IntKind.u8.wrap ((8 + ((b.body).length) + 4 : Nat) : Int)))] fun a HF => ?_
 replace HF := HF.sp 19 (vB ((8 + ((b.body).length) + 4) % 256 : Nat)) rfl (qcg (8 + ((b.body).length) + 4))
 refine fp HF 2 2 [(21, vI (Int.fdiv ((8 + ((b.body).length) + 4 : Nat) : Int) (2 ^ (min (8 : Int).toNat (IntKind.i64).bits))))] fun a HF => ?_
 replace HF := HF.sp 21 (vI ((8 + ((b.body).length) + 4) / 256 : Nat)) rfl (qd0 .i64 (8 + ((b.body).length) + 4) (j := 8) (q := 256) rfl rfl)
 refine fp HF 1 4 [(22, vB (IntKind.u8.wrap (((8 + ((b.body).length) + 4) / 256 : Nat) : Int)))] fun a HF => ?_
 replace HF := HF.sp 22 (vB (((8 + ((b.body).length) + 4) / 256) % 256 : Nat)) rfl (qcg ((8 + ((b.body).length) + 4) / 256))
 refine fy HF HM 5 rfl rfl rfl (v := vP 0 0) (Yl.qea (ad := ⟨0, 0, none⟩) (m := 2) (y := 0) (sz := 1) rfl rfl rfl (by kernel_rfl) (by decide)) fun a HF => ?_
 refine fy HF HM 6 rfl rfl rfl (v := vB 113) (Yl.qh rfl rfl (by kernel_rfl) (fun _ h => (hL.mem h hB).magic0)) fun a HF => ?_
 refine fy HF HM 7 rfl rfl rfl (v := vP 0 1) (Yl.qea (ad := ⟨0, 0, none⟩) (m := 2) (y := 1) (sz := 1) rfl rfl rfl (by kernel_rfl) (by decide)) fun a HF => ?_
 refine fy HF HM 8 rfl rfl rfl (v := vB 116) (Yl.qh rfl rfl (by kernel_rfl) (fun _ h => (hL.mem h hB).magic1)) fun a HF => ?_
 refine fp HF 1 9 [(27, vP g1 0)] fun a HF => ?_
 refine fy HF HM 10 rfl rfl rfl (v := vB b.kind) (Yl.qh rfl rfl (by kernel_rfl) (fun _ h => h.cell (i := 1) rfl (rfl))) fun a HF => ?_
 refine fo HF 11 rfl rfl ?_
 refine zp HF HM (vs := [(0, vB ((8 + ((b.body).length) + 4) % 256 : Nat)), (1, vB (((8 + ((b.body).length) + 4) / 256) % 256 : Nat)), (2, vB 0), (3, vB 0), (4, vB 113), (5, vB 116), (6, vB 1), (7, vB b.kind)]) (cs := #[vB ((8 + ((b.body).length) + 4) % 256 : Nat), vB (((8 + ((b.body).length) + 4) / 256) % 256 : Nat), vB 0, vB 0, vB 113, vB 116, vB 1, vB b.kind]) rfl ei_u8 (by decide) rfl (by kernel_rfl) rfl (by decide) ?_
 clear HF HM; intro a w29 g29 HF HM
 refine fp HF 1 12 [(6, vS g29 8 8)] fun a HF => ?_
 refine qb rfl (wp_seq (qa ?_))
 refine fp HF 2 0 [(31, .slice A11 ((b.body).length) c11), (30, vS g29 8 8)] fun a HF => ?_
 refine fo HF 2 rfl rfl ?_
 replace HM := HM.blkRow (i := 0) (n := 8) (size := 1) rfl rfl (by decide)
 refine qz HF HM (i := 0) rfl ei_u8 rfl rfl rfl (news := (b.body.map B8)) (HM.rd (i := 1) rfl) (qbp _) (by omega) (by omega) rfl (by decide) ?_
 clear HF HM; intro a w32 A32 c32 HF HM hc32
 rw [show ((#[vB ((8 + ((b.body).length) + 4) % 256 : Nat), vB (((8 + ((b.body).length) + 4) / 256) % 256 : Nat), vB 0, vB 0, vB 113, vB 116, vB 1, vB b.kind]).toList) ++ (b.body.map B8) = b.raw.map B8 from qqt (by omega)] at HM
 refine fo HF 3 rfl rfl ?_
 refine e_cl HF [.slice A32 (8 + (b.body).length) c32] rfl rfl (qs5 _ _ _ b.raw B _ (hL.mem HM hB) (HM.le hB) (HM.rd (i := 0) rfl) (qcv b) (by omega) (qv9 hok)) ?_
 rintro _ w33 ⟨⟨A33, c33, rfl, ho, hc33⟩, hbw⟩
 refine ⟨_, rfl, ?_⟩
 replace HM := HM.callRow hbw ho
 clear HF; intro a HF
 refine fp HF 4 4 [(3, vI 0), (2, .slice A33 ((sealL b.raw).length) c33)] fun a HF => ?_
 refine qb rfl (wp_ret ?_)
 replace HM := HM.picks (fs' := [.row (.slice A33 ((sealL b.raw).length) c33) ((sealL b.raw).length) ((sealL b.raw).map B8) 5 1, .row (.slice A11 ((b.body).length) c11) ((b.body).length) (b.body.map B8) 5 1, .blk g1 (b.cells A c) 41]) [0, 2, 3] (by decide) rfl
 have herr : b.err = 0 := by unfold Bk.err; rw [if_neg (by simp [hfit]), if_neg (by omega)]
 exact ret2 rfl HF (.tmp HF rfl) (.tmp HF rfl) ((by rw [herr, qub herr]; exact ⟨⟨_, _, rfl, HM.own (i := 0) rfl, hc33⟩, HM.below⟩))
theorem qoi (b : Bk) (hok : b.Ok) (A : Option Addr) (c B : Nat) (w : World) (hL : LaidX B w) (hB : B ≤ w.heap.size) (hr : Rd w w.heap.size 11 A b.evs.length (b.evs.flatMap evL)) (hn : b.evs.length ≤ 1000000) :
    Calls Tryd.prog 13 #[.agg (b.cells A c)] w (Is w (.int .i64 (b.err : Int))) := by
 refine qg (vs := [.agg (b.cells A c)]) Tryd.func13 rfl rfl (by kernel_rfl) (σ0 := [(0, .agg (b.cells A c))]) rfl ?_
 intro a HF
 have HM := Mem.start w
 refine wp_seq (qa ?_)
 refine fo HF 0 rfl rfl ?_
 refine e_box HF HM (cs := (b.cells A c)) rfl rfl rfl rfl (by decide) ?_
 clear HF HM; intro a w1 g1 HF HM
 refine fp HF 1 1 [(2, vI 0)] fun a HF => ?_
 refine qb rfl (wp_seq (qa ?_))
 refine fy HF HM 0 rfl rfl rfl (v := .agg (b.cells A c)) (Yl.zl rfl rfl si_bk rfl (fun _ h => qf (h.blk (i := 0) rfl))) fun a HF => ?_
 refine fo HF 1 rfl rfl ?_
 refine e_cl HF [.agg (b.cells A c)] rfl rfl (qih b hok A c B _ (hL.mem HM hB) (HM.le hB) (HM.old hr) hn) ?_
 rintro _ w7 ⟨⟨A7, c7, rfl, ho, hc7⟩, hbw⟩
 refine ⟨_, rfl, ?_⟩
 replace HM := HM.callRow hbw ho
 clear HF; intro a HF
 refine fp HF 5 2 [(4, vI b.err)] fun a HF => ?_
 refine qb rfl (wp_seq (qa ?_))
 refine fp HF 2 0 [(2, vI b.err)] fun a HF => ?_
 refine qb rfl (wp_ret ?_)
 replace HM := HM.picks (fs' := []) [] (by decide) rfl
 exact ret1 rfl HF (.tmp HF rfl) (⟨rfl, HM.below⟩)
theorem qcx (W w : World) (gb gk : Nat) (A : Option Addr) (n c : Nat) (l : List Nat) (okb : Bool) (most : Nat) (fr : List Fact) (hl : ∀ b ∈ l, b < 256) (hln : n = l.length) (hn : n ≤ 1000000000) (hr0 : Rd W W.heap.size 1 A n (l.map B8)) (hc0 : n ≤ c) (hmost : most ≤ 281474976710657)
    (HM : Mem W w (.blk gb #[.slice A n c] 54 :: .blk gk #[.bool okb] 4 :: fr)) :
    Calls Tryd.prog 82 #[.int .i64 (most : Int), .pointer (some ⟨gb, 0, none⟩), .pointer (some ⟨gk, 0, none⟩)] w (quc W gb gk l okb most fr) := by
 have hr : Rd W W.heap.size 1 A l.length (l.map B8) := hln ▸ hr0
 have hc : l.length ≤ c := hln ▸ hc0
 refine qg (vs := [vI most, vP gb 0, vP gk 0]) Tryd.func82 rfl rfl (by kernel_rfl) (σ0 := [(0, vI most), (1, vP gb 0), (2, vP gk 0)]) rfl ?_
 intro a HF
 refine wp_seq (qa ?_)
 refine fp HF 1 0 [(4, vI 0)] fun a HF => ?_
 refine qb rfl ?_
 have hvl := qcn l
 have hvb := qej l hl
 have htv := qc7 most l
 refine wp_seq (qa ?_)
 refine fy HF HM 0 rfl rfl rfl (Yl.qh rfl rfl (by kernel_rfl) (fun _ h => h.cell (i := 0) rfl rfl)) fun a HF => ?_
 refine fo HF 1 rfl rfl ?_
 refine e_cl HF [.slice A n c] rfl rfl (qmy A n c l _ (hln ▸ HM.old hr) hl (by omega)) ?_
 rintro _ w10 ⟨rfl, hbw⟩
 refine ⟨_, rfl, ?_⟩
 replace HM := HM.call hbw
 clear HF; intro a HF
 refine fp HF 7 2 [(7, vI ((vread l).2.2)), (6, vI ((vread l).2.1)), (5, vQ ((vread l).1))] fun a HF => ?_
 refine qb rfl (wp_seq (qa ?_))
 refine fy HF HM 0 rfl rfl rfl (Yl.qh rfl rfl (by kernel_rfl) (fun _ h => h.cell (i := 1) rfl rfl)) fun a HF => ?_
 refine fp HF 1 1 [(15, .bool okb)] fun a HF => ?_
 rcases HF.tf 15 rfl with ⟨hb15, HF⟩ | ⟨hb15, HF⟩
 ·
  refine fp HF 4 2 [(19, .bool (((vread l).2.2 : Int) == (0 : Int)))] fun a HF => ?_
  rcases HF.tf 19 rfl with ⟨hb19, HF⟩ | ⟨hb19, HF⟩
  ·
   have hd19 := eq_of_beq hb19
   refine fp HF 3 6 [(22, vQ (IntKind.u64.wrap (most : Int))), (20, vQ ((vread l).1))] fun a HF => ?_
   replace HF := HF.sp 22 (vQ most) rfl (qaa rfl (by omega))
   refine fp HF 2 9 [(24, .bool (decide (((vread l).1 : Int) ≤ (most : Int))))] fun a HF => ?_
   refine fo HF 11 rfl rfl ?_
   refine zb HF HM (i := 1) (cs := #[.bool okb]) rfl rfl rfl rfl (by kernel_rfl) rfl rfl (by simp) ?_
   clear HM; intro w2_11 HM
   refine qb rfl (wp_seq (qa ?_))
   refine fy HF HM 0 rfl rfl rfl (Yl.qh rfl rfl (by kernel_rfl) (fun _ h => h.cell (i := 0) rfl rfl)) fun a HF => ?_
   refine fp HF 1 1 [(26, vI ((vread l).2.1))] fun a HF => ?_
   refine fy HF HM 2 rfl rfl rfl (v := .slice (if c = (vread l).2.1 then A else A.map (·.add ((vread l).2.1 * 1))) (n - (vread l).2.1) (c - (vread l).2.1)) (Yl.sliceFrom ei_u8 (j := (vread l).2.1) rfl rfl rfl (by omega)) fun a HF => ?_
   refine fo HF 3 rfl rfl ?_
   refine zb HF HM (i := 0) (cs := #[.slice A n c]) rfl rfl rfl rfl (by kernel_rfl) rfl rfl (by simp) ?_
   clear HM; intro w3_3 HM
   refine qb rfl (wp_seq (qa ?_))
   refine fp HF 3 0 [(30, vQ (IntKind.u64.wrap (most : Int))), (28, vQ ((vread l).1))] fun a HF => ?_
   replace HF := HF.sp 30 (vQ most) rfl (qaa rfl (by omega))
   refine fy HF HM 3 rfl rfl rfl (v := vQ (if (most : Int) < ((vread l).1 : Int) then (most : Int) else ((vread l).1 : Int))) (Yl.min rfl rfl rfl) fun a HF => ?_
   replace HF := HF.sp 31 (vQ (tkVal most l)) rfl (by rw [qg2])
   refine fp HF 1 4 [(32, vI (IntKind.i64.wrap (tkVal most l : Int)))] fun a HF => ?_
   replace HF := HF.sp 32 (vI (tkVal most l : Nat)) rfl (qo rfl (by omega))
   refine fp HF 1 5 [(4, vI (tkVal most l : Nat))] fun a HF => ?_
   refine qb rfl (wp_ret ?_)
   replace HM := HM.picksT (fs' := (.blk gb #[.slice (if c = (vread l).2.1 then A else A.map (·.add ((vread l).2.1 * 1))) (n - (vread l).2.1) (c - (vread l).2.1)] 54 :: .blk gk #[.bool (decide (((vread l).1 : Int) ≤ (most : Int)))] 4 :: fr)) 2 [0, 1] (by decide) (by decide) rfl
   exact ret1 rfl HF (.tmp HF rfl) (qg3 hr hc (by rw [hb15, Bool.true_and]; unfold tkOk; rw [Bool.eq_iff_iff]; simp only [decide_eq_true_eq]; omega) hln HM)
  have hd19 := ne_of_beq_false hb19
  refine fp HF 5 6 [(24, .bool false)] fun a HF => ?_
  refine fo HF 11 rfl rfl ?_
  refine zb HF HM (i := 1) (cs := #[.bool okb]) rfl rfl rfl rfl (by kernel_rfl) rfl rfl (by simp) ?_
  clear HM; intro w2_11 HM
  refine qb rfl (wp_seq (qa ?_))
  refine fy HF HM 0 rfl rfl rfl (Yl.qh rfl rfl (by kernel_rfl) (fun _ h => h.cell (i := 0) rfl rfl)) fun a HF => ?_
  refine fp HF 1 1 [(26, vI ((vread l).2.1))] fun a HF => ?_
  refine fy HF HM 2 rfl rfl rfl (v := .slice (if c = (vread l).2.1 then A else A.map (·.add ((vread l).2.1 * 1))) (n - (vread l).2.1) (c - (vread l).2.1)) (Yl.sliceFrom ei_u8 (j := (vread l).2.1) rfl rfl rfl (by omega)) fun a HF => ?_
  refine fo HF 3 rfl rfl ?_
  refine zb HF HM (i := 0) (cs := #[.slice A n c]) rfl rfl rfl rfl (by kernel_rfl) rfl rfl (by simp) ?_
  clear HM; intro w3_3 HM
  refine qb rfl (wp_seq (qa ?_))
  refine fp HF 3 0 [(30, vQ (IntKind.u64.wrap (most : Int))), (28, vQ ((vread l).1))] fun a HF => ?_
  replace HF := HF.sp 30 (vQ most) rfl (qaa rfl (by omega))
  refine fy HF HM 3 rfl rfl rfl (v := vQ (if (most : Int) < ((vread l).1 : Int) then (most : Int) else ((vread l).1 : Int))) (Yl.min rfl rfl rfl) fun a HF => ?_
  replace HF := HF.sp 31 (vQ (tkVal most l)) rfl (by rw [qg2])
  refine fp HF 1 4 [(32, vI (IntKind.i64.wrap (tkVal most l : Int)))] fun a HF => ?_
  replace HF := HF.sp 32 (vI (tkVal most l : Nat)) rfl (qo rfl (by omega))
  refine fp HF 1 5 [(4, vI (tkVal most l : Nat))] fun a HF => ?_
  refine qb rfl (wp_ret ?_)
  replace HM := HM.picksT (fs' := (.blk gb #[.slice (if c = (vread l).2.1 then A else A.map (·.add ((vread l).2.1 * 1))) (n - (vread l).2.1) (c - (vread l).2.1)] 54 :: .blk gk #[.bool false] 4 :: fr)) 2 [0, 1] (by decide) (by decide) rfl
  exact ret1 rfl HF (.tmp HF rfl) (qg3 hr hc (by rw [qoh (by omega), Bool.and_false]) hln HM)
 refine fp HF 9 2 [(24, .bool false)] fun a HF => ?_
 refine fo HF 11 rfl rfl ?_
 refine zb HF HM (i := 1) (cs := #[.bool okb]) rfl rfl rfl rfl (by kernel_rfl) rfl rfl (by simp) ?_
 clear HM; intro w2_11 HM
 refine qb rfl (wp_seq (qa ?_))
 refine fy HF HM 0 rfl rfl rfl (Yl.qh rfl rfl (by kernel_rfl) (fun _ h => h.cell (i := 0) rfl rfl)) fun a HF => ?_
 refine fp HF 1 1 [(26, vI ((vread l).2.1))] fun a HF => ?_
 refine fy HF HM 2 rfl rfl rfl (v := .slice (if c = (vread l).2.1 then A else A.map (·.add ((vread l).2.1 * 1))) (n - (vread l).2.1) (c - (vread l).2.1)) (Yl.sliceFrom ei_u8 (j := (vread l).2.1) rfl rfl rfl (by omega)) fun a HF => ?_
 refine fo HF 3 rfl rfl ?_
 refine zb HF HM (i := 0) (cs := #[.slice A n c]) rfl rfl rfl rfl (by kernel_rfl) rfl rfl (by simp) ?_
 clear HM; intro w3_3 HM
 refine qb rfl (wp_seq (qa ?_))
 refine fp HF 3 0 [(30, vQ (IntKind.u64.wrap (most : Int))), (28, vQ ((vread l).1))] fun a HF => ?_
 replace HF := HF.sp 30 (vQ most) rfl (qaa rfl (by omega))
 refine fy HF HM 3 rfl rfl rfl (v := vQ (if (most : Int) < ((vread l).1 : Int) then (most : Int) else ((vread l).1 : Int))) (Yl.min rfl rfl rfl) fun a HF => ?_
 replace HF := HF.sp 31 (vQ (tkVal most l)) rfl (by rw [qg2])
 refine fp HF 1 4 [(32, vI (IntKind.i64.wrap (tkVal most l : Int)))] fun a HF => ?_
 replace HF := HF.sp 32 (vI (tkVal most l : Nat)) rfl (qo rfl (by omega))
 refine fp HF 1 5 [(4, vI (tkVal most l : Nat))] fun a HF => ?_
 refine qb rfl (wp_ret ?_)
 replace HM := HM.picksT (fs' := (.blk gb #[.slice (if c = (vread l).2.1 then A else A.map (·.add ((vread l).2.1 * 1))) (n - (vread l).2.1) (c - (vread l).2.1)] 54 :: .blk gk #[.bool false] 4 :: fr)) 2 [0, 1] (by decide) (by decide) rfl
 exact ret1 rfl HF (.tmp HF rfl) (qg3 hr hc (by rw [hb15, Bool.false_and]) hln HM)
theorem qji {l : List Nat} {es : List Ev} {L er : Nat} (h3 : qcu l = true) (h0 : 0 < tkVal 4096 (qc (qc l)))
  (hq : readR ⟨(tkVal 281474976710656 (qc (qc (qc l))) : Int), (tkVal 281474976710656 (qc (qc (qc (qc l)))) : Int)⟩ (tkVal 63 l) (tkVal 4096 (qc (qc l)) : Int) (qc (qc (qc (qc (qc l))))) = (es, L, er)) (her : er = 0) :
  zj l = qal (tkVal 63 l) (tkVal 281474976710656 (qc l)) (qc (qc (qc l))) (es, L, 0) := by
 rw [qe6 h3 h0 hq, her]
theorem qbr (k : Nat) (hk : k = 1 ∨ k = 2) (A : Option Addr) (n c : Nat) (l : List Nat) (B : Nat) (w : World) (hL : LaidX B w) (hB : B ≤ w.heap.size) (hr : Rd w w.heap.size 1 A n (l.map B8)) (hc : n ≤ c) (hln : n = l.length) (hn : n ≤ 100000000) (hl : ∀ b ∈ l, b < 256) :
    Calls Tryd.prog 69 #[.int .u8 (k : Int), .slice A n c] w (qem w (qee k l)) := by
 refine qg (vs := [vB k, .slice A n c]) Tryd.func69 rfl rfl (by kernel_rfl) (σ0 := [(0, vB k), (1, .slice A n c)]) rfl ?_
 intro a HF
 have HM := Mem.start w
 refine wp_seq (qa ?_)
 refine fo HF 0 rfl rfl ?_
 refine e_box HF HM (cs := #[.slice A n c]) rfl rfl rfl rfl (by decide) ?_
 clear HF HM; intro a w3 g3 HF HM
 refine fo HF 1 rfl rfl ?_
 refine qq HF HM (cs := #[vB 0, vB 0, vI 0, vI 0, .slice none 0 0]) rfl (by kernel_rfl) rfl (by decide) ?_
 clear HF HM; intro a w4 g4 HF HM
 refine fp HF 1 2 [(5, .bool false)] fun a HF => ?_
 refine qb rfl (wp_seq (qa ?_))
 refine fo HF 0 rfl rfl ?_
 refine qq HF HM (cs := #[.bool false]) rfl (by kernel_rfl) rfl (by decide) ?_
 clear HF HM; intro a w6 g6 HF HM
 refine fo HF 1 rfl rfl ?_
 refine zb HF HM (i := 0) (cs := #[.bool false]) rfl rfl rfl rfl (by kernel_rfl) rfl rfl (by simp) ?_
 clear HM; intro w1_1 HM
 refine qb rfl (wp_seq (qa ?_))
 refine fy HF HM 0 rfl rfl rfl (v := .func (.func 82) #[] #[vP g3 0, vP g6 0]) (Yl.makeFunc (fst := []) (caps := [vP g3 0, vP g6 0]) rfl rfl rfl) fun a HF => ?_
 refine fp HF 1 1 [(7, .func (.func 82) #[] #[vP g3 0, vP g6 0])] fun a HF => ?_
 refine qb rfl (wp_seq (qa ?_))
 refine fp HF 1 0 [(15, vB k)] fun a HF => ?_
 refine fy HF HM 1 rfl rfl rfl (v := .agg #[vB k, vB 0, vI 0, vI 0, .slice none 0 0]) (Yl.build (vs := [(0, vB k)]) rfl (by kernel_rfl) (by kernel_rfl)) fun a HF => ?_
 refine fo HF 2 rfl rfl ?_
 refine qq HF HM (cs := #[vB 0, vB 0, vI 0, vI 0, .slice none 0 0]) rfl (by kernel_rfl) rfl (by decide) ?_
 clear HF HM; intro a w8 g8 HF HM
 refine fo HF 3 rfl rfl ?_
 refine e_sa HF HM 0 rfl rfl rfl rfl rfl si_bk rfl rfl (by simp [Value.oneCell']) ?_
 clear HM; intro w3_3 HM
 refine qb rfl (wp_seq (wp_seq (qa ?_)))
 refine fp HF 2 0 [(18, .bool ((k : Int) == (2 : Int)))] fun a HF => ?_
 refine qb rfl ?_
 rcases HF.tf 18 rfl with ⟨hb18, HF⟩ | ⟨hb18, HF⟩
 ·
  have hd18 := eq_of_beq hb18
  obtain rfl : k = 2 := by omega
  refine qe HF rfl (wp_seq (qa ?_))
  refine fp HF 1 0 [(19, .func (.func 82) #[] #[vP g3 0, vP g6 0])] fun a HF => ?_
  refine fo HF 1 rfl rfl ?_
  replace HM := HM.picks (fs' := [.blk g3 #[.slice A n c] 54, .blk g6 #[.bool true] 4, .blk g8 #[vB (2 : Nat), vB 0, vI 0, vI 0, .slice none 0 0] 41, .blk g4 #[vB 0, vB 0, vI 0, vI 0, .slice none 0 0] 41]) [3, 1, 0, 2] (by decide) rfl
  have hl1 := zu hl
  refine qck HF (f := 82) (vs := [vI 281474976710657]) (fst := []) (caps := [vP g3 0, vP g6 0]) rfl rfl rfl (by kernel_rfl) rfl (by decide) (qcx w _ g3 g6 A n c l true 281474976710657 [.blk g8 #[vB (2 : Nat), vB 0, vI 0, vI 0, .slice none 0 0] 41, .blk g4 #[vB 0, vB 0, vI 0, vI 0, .slice none 0 0] 41] hl hln (by omega) hr hc (by omega) HM) ?_
  rintro _ w20 ⟨rfl, Aq1, cq1, hr1, hc1, hm⟩
  refine ⟨_, rfl, ?_⟩
  replace HM := hm
  clear HF; intro a HF
  have ht0 := qc7 281474976710657 l
  have hs0 := qcw l
  refine fp HF 1 2 [(21, vP g8 3)] fun a HF => ?_
  refine fo HF 3 rfl rfl ?_
  refine zb HF HM (i := 2) (cs := #[vB (2 : Nat), vB 0, vI 0, vI 0, .slice none 0 0]) rfl rfl rfl rfl (by kernel_rfl) rfl rfl (by simp) ?_
  clear HM; intro w5_3 HM
  refine qb rfl ?_
  refine qaq (fun aS wS => Fr aS 99 [] [(5, .bool ((qa0 l).isSome)), (18, .bool true), (8, vP g8 0), (7, .func (.func 82) #[] #[vP g3 0, vP g6 0]), (6, vP g6 0), (4, vP g4 0), (3, vP g3 0), (0, vB (2 : Nat))] ∧ Mem w wS [.blk g3 #[.slice Aq1 ((qc l).length) cq1] 54, .blk g6 #[.bool (true && tkOk 281474976710657 l)] 4, .blk g8 #[vB (2 : Nat), vB 0, vI 0, vI (tkVal 281474976710657 l), .slice none 0 0] 41, .blk g4 #[vB (2 : Nat), vB 0, vI 0, vI (tkVal 281474976710657 l), .slice none 0 0] 41]) ?_ ?_
  ·
   refine qac HM [.blk g3 #[.slice Aq1 ((qc l).length) cq1] 54, .blk g6 #[.bool (true && tkOk 281474976710657 l)] 4, .blk g8 #[vB (2 : Nat), vB 0, vI 0, vI (tkVal 281474976710657 l), .slice none 0 0] 41] [0, 1, 2] [] fun HM HS => ?_
   refine ay HF HS 0 rfl rfl rfl (v := .agg #[vB (2 : Nat), vB 0, vI 0, vI (tkVal 281474976710657 l), .slice none 0 0]) (Yl.zl rfl rfl si_bk rfl (fun _ h => qf (h.blk (i := 2) rfl))) fun a HF => ?_
   refine ay HF HS 1 rfl rfl rfl (Yl.qh rfl rfl (by kernel_rfl) (fun _ h => h.cell (i := 1) rfl rfl)) fun a HF => ?_
   refine ap HF (fun _ => HS) [2] #[true, true, true, false, false, false, false, false, false, false, false, false, false] [(24, .bool (true && tkOk 281474976710657 l))] fun a HF => ?_
   rcases HF.tf 24 rfl with ⟨hb24, HF⟩ | ⟨hb24, HF⟩
   ·
    refine ay HF HS 3 rfl rfl rfl (Yl.qh rfl rfl (by kernel_rfl) (fun _ h => h.cell (i := 0) rfl rfl)) fun a HF => ?_
    refine ay HF HS 4 rfl rfl rfl (Yl.len rfl rfl (by kernel_rfl)) fun a HF => ?_
    refine ap HF (fun _ => HS) [5, 6, 7] #[true, true, true, true, true, true, true, true, false, false, false, false, false] [(29, .bool ((((qc l).length : Nat) : Int) == (0 : Int)))] fun a HF => ?_
    rcases HF.tf 29 rfl with ⟨hb29, HF⟩ | ⟨hb29, HF⟩
    ·
     have hd29 := eq_of_beq hb29
     refine ay HF HS 8 rfl rfl rfl (v := .agg #[vB (2 : Nat), vB 0, vI 0, vI (tkVal 281474976710657 l), .slice none 0 0]) (Yl.zl rfl rfl si_bk rfl (fun _ h => qf (h.blk (i := 2) rfl))) fun a HF => ?_
     refine qj [9] (by kernel_rfl) rfl ?_
     refine all_cons ?_ all_nil
     refine qn HF (i := 9) rfl rfl ?_
     refine e_is HF HM [.agg #[vB (2 : Nat), vB 0, vI 0, vI (tkVal 281474976710657 l), .slice none 0 0]] (.bool (Bk.fits ⟨2, 0, 0, (tkVal 281474976710657 l : Int), []⟩)) rfl rfl (qd3 ⟨2, 0, 0, (tkVal 281474976710657 l : Int), []⟩ (endOk ht0) none 0 B _ (hL.mem HM hB) (HM.le hB) Rd.nil (by show 0 ≤ _; omega)) fun w31 hbw HM a HF => ?_
     refine keepS (HM.picks [0, 1, 2] (by decide) rfl) (fun HS => ?_)
     refine ap HF (fun _ => HS) [10] #[true, true, true, true, true, true, true, true, true, true, true, false, false] [(32, .bool (Bk.fits ⟨2, 0, 0, (tkVal 281474976710657 l : Int), []⟩))] fun a HF => ?_
     refine qj [11] (by kernel_rfl) rfl ?_
     refine all_cons ?_ all_nil
     refine qn HF (i := 11) rfl rfl ?_
     refine e_sa HF HM 3 rfl rfl rfl rfl rfl si_bk rfl rfl (by simp [Value.oneCell']) ?_
     clear HM; intro w6_11 HM
     refine keepS (HM.picks [0, 1, 2] (by decide) rfl) (fun HS => ?_)
     refine ap HF (fun _ => HS) [12] #[true, true, true, true, true, true, true, true, true, true, true, true, true] [(5, .bool (Bk.fits ⟨2, 0, 0, (tkVal 281474976710657 l : Int), []⟩))] fun a HF => ?_
     refine ql (by kernel_rfl) ?_
     have HF := HF.as (t := 5) (u := .bool ((qa0 l).isSome)) rfl (congrArg Value.bool (by rw [qen, show tkOk 281474976710657 l = true by simpa using hb24, decide_eq_true (by omega), Bool.true_and, Bool.true_and]))
     exact ⟨HF.sub (by kernel_rfl), HM.picks [0, 1, 2, 3] (by decide) rfl⟩
    have hd29 := ne_of_beq_false hb29
    refine ap HF (fun _ => HS) [8, 9, 10] #[true, true, true, true, true, true, true, true, true, true, true, false, false] [(32, .bool false)] fun a HF => ?_
    refine qj [11] (by kernel_rfl) rfl ?_
    refine all_cons ?_ all_nil
    refine qn HF (i := 11) rfl rfl ?_
    refine e_sa HF HM 3 rfl rfl rfl rfl rfl si_bk rfl rfl (by simp [Value.oneCell']) ?_
    clear HM; intro w6_11 HM
    refine keepS (HM.picks [0, 1, 2] (by decide) rfl) (fun HS => ?_)
    refine ap HF (fun _ => HS) [12] #[true, true, true, true, true, true, true, true, true, true, true, true, true] [(5, .bool false)] fun a HF => ?_
    refine ql (by kernel_rfl) ?_
    have HF := HF.as (t := 5) (u := .bool ((qa0 l).isSome)) rfl (congrArg Value.bool (by rw [qen, decide_eq_false (by omega), Bool.false_and, Bool.and_false]))
    exact ⟨HF.sub (by kernel_rfl), HM.picks [0, 1, 2, 3] (by decide) rfl⟩
   refine ap HF (fun _ => HS) [3, 4, 5, 6, 7, 8, 9, 10] #[true, true, true, true, true, true, true, true, true, true, true, false, false] [(32, .bool false)] fun a HF => ?_
   refine qj [11] (by kernel_rfl) rfl ?_
   refine all_cons ?_ all_nil
   refine qn HF (i := 11) rfl rfl ?_
   refine e_sa HF HM 3 rfl rfl rfl rfl rfl si_bk rfl rfl (by simp [Value.oneCell']) ?_
   clear HM; intro w6_11 HM
   refine keepS (HM.picks [0, 1, 2] (by decide) rfl) (fun HS => ?_)
   refine ap HF (fun _ => HS) [12] #[true, true, true, true, true, true, true, true, true, true, true, true, true] [(5, .bool false)] fun a HF => ?_
   refine ql (by kernel_rfl) ?_
   have HF := HF.as (t := 5) (u := .bool ((qa0 l).isSome)) rfl (congrArg Value.bool (by rw [qen, show tkOk 281474976710657 l = false by simpa using hb24]; rfl))
   exact ⟨HF.sub (by kernel_rfl), HM.picks [0, 1, 2, 3] (by decide) rfl⟩
  clear HF HM; rintro a w6 ⟨HF, HM⟩
  refine wp_ret ?_
  rcases HF.tf 5 rfl with ⟨hb5, HF⟩ | ⟨hb5, HF⟩
  ·
   have hfin := hb5
   exact ret2 rfl HF (.cellS (i := 3) HF HM rfl rfl si_bk rfl) (.tmp HF rfl) (qci (b := ⟨2, 0, 0, (tkVal 281474976710657 l : Int), []⟩) (A := none) (c := 0) (by rw [qie]; exact qkj hfin) (World.ownsRow_nil _ _ _ _) (Nat.le_refl _) HM.below)
  have hfin := hb5
  exact ret2 rfl HF (.cellS (i := 3) HF HM rfl rfl si_bk rfl) (.tmp HF rfl) (qbq (by rw [qie]; exact Option.not_isSome_iff_eq_none.1 (by rw [hfin]; decide)) rfl (by simp [Value.oneCell']) HM.below)
 have hd18 := ne_of_beq_false hb18
 obtain rfl : k = 1 := by omega
 refine qd HF rfl (wp_skip (wp_seq (qa ?_)))
 refine fp HF 1 0 [(33, .func (.func 82) #[] #[vP g3 0, vP g6 0])] fun a HF => ?_
 refine fo HF 1 rfl rfl ?_
 replace HM := HM.picks (fs' := [.blk g3 #[.slice A n c] 54, .blk g6 #[.bool true] 4, .blk g8 #[vB (1 : Nat), vB 0, vI 0, vI 0, .slice none 0 0] 41, .blk g4 #[vB 0, vB 0, vI 0, vI 0, .slice none 0 0] 41]) [3, 1, 0, 2] (by decide) rfl
 have hl1 := zu hl
 refine qck HF (f := 82) (vs := [vI 63]) (fst := []) (caps := [vP g3 0, vP g6 0]) rfl rfl rfl (by kernel_rfl) rfl (by decide) (qcx w _ g3 g6 A n c l true 63 [.blk g8 #[vB (1 : Nat), vB 0, vI 0, vI 0, .slice none 0 0] 41, .blk g4 #[vB 0, vB 0, vI 0, vI 0, .slice none 0 0] 41] hl hln (by omega) hr hc (by omega) HM) ?_
 rintro _ w34 ⟨rfl, Aq1, cq1, hr1, hc1, hm⟩
 refine ⟨_, rfl, ?_⟩
 replace HM := hm
 clear HF; intro a HF
 have ht0 := qc7 63 l
 have hs0 := qcw l
 refine fp HF 1 2 [(35, vB (IntKind.u8.wrap (tkVal 63 l : Int)))] fun a HF => ?_
 replace HF := HF.sp 35 (vB (tkVal 63 l)) rfl (qv2 rfl (by omega))
 refine fp HF 1 3 [(36, .func (.func 82) #[] #[vP g3 0, vP g6 0])] fun a HF => ?_
 refine fo HF 4 rfl rfl ?_
 replace HM := HM.picks (fs' := [.blk g3 #[.slice Aq1 ((qc l).length) cq1] 54, .blk g6 #[.bool (true && tkOk 63 l)] 4, .blk g8 #[vB (1 : Nat), vB 0, vI 0, vI 0, .slice none 0 0] 41, .blk g4 #[vB 0, vB 0, vI 0, vI 0, .slice none 0 0] 41]) [0, 1, 2, 3] (by decide) rfl
 have hl2 := zu hl1
 refine qck HF (f := 82) (vs := [vI 281474976710656]) (fst := []) (caps := [vP g3 0, vP g6 0]) rfl rfl rfl (by kernel_rfl) rfl (by decide) (qcx w _ g3 g6 Aq1 ((qc l).length) cq1 (qc l) (true && tkOk 63 l) 281474976710656 [.blk g8 #[vB (1 : Nat), vB 0, vI 0, vI 0, .slice none 0 0] 41, .blk g4 #[vB 0, vB 0, vI 0, vI 0, .slice none 0 0] 41] hl1 rfl (by omega) hr1 hc1 (by omega) HM) ?_
 rintro _ w37 ⟨rfl, Aq2, cq2, hr2, hc2, hm⟩
 refine ⟨_, rfl, ?_⟩
 replace HM := hm
 clear HF; intro a HF
 have ht1 := qc7 281474976710656 (qc l)
 have hs1 := qcw (qc l)
 refine fp HF 1 5 [(38, vP g8 1)] fun a HF => ?_
 refine fo HF 6 rfl rfl ?_
 refine zb HF HM (i := 2) (cs := #[vB (1 : Nat), vB 0, vI 0, vI 0, .slice none 0 0]) rfl rfl rfl rfl (by kernel_rfl) rfl rfl (by simp) ?_
 clear HM; intro w7_6 HM
 refine fp HF 1 7 [(39, vP g8 2)] fun a HF => ?_
 refine fo HF 8 rfl rfl ?_
 refine zb HF HM (i := 2) (cs := #[vB (1 : Nat), vB (tkVal 63 l), vI 0, vI 0, .slice none 0 0]) rfl rfl rfl rfl (by kernel_rfl) rfl rfl (by simp) ?_
 clear HM; intro w7_8 HM
 refine qb rfl (wp_seq (qa ?_))
 refine fp HF 1 0 [(40, .func (.func 82) #[] #[vP g3 0, vP g6 0])] fun a HF => ?_
 refine fo HF 1 rfl rfl ?_
 replace HM := HM.picks (fs' := [.blk g3 #[.slice Aq2 ((qc (qc l)).length) cq2] 54, .blk g6 #[.bool ((true && tkOk 63 l) && tkOk 281474976710656 (qc l))] 4, .blk g8 #[vB (1 : Nat), vB (tkVal 63 l), vI (tkVal 281474976710656 (qc l)), vI 0, .slice none 0 0] 41, .blk g4 #[vB 0, vB 0, vI 0, vI 0, .slice none 0 0] 41]) [0, 1, 2, 3] (by decide) rfl
 have hl3 := zu hl2
 refine qck HF (f := 82) (vs := [vI 4096]) (fst := []) (caps := [vP g3 0, vP g6 0]) rfl rfl rfl (by kernel_rfl) rfl (by decide) (qcx w _ g3 g6 Aq2 ((qc (qc l)).length) cq2 (qc (qc l)) ((true && tkOk 63 l) && tkOk 281474976710656 (qc l)) 4096 [.blk g8 #[vB (1 : Nat), vB (tkVal 63 l), vI (tkVal 281474976710656 (qc l)), vI 0, .slice none 0 0] 41, .blk g4 #[vB 0, vB 0, vI 0, vI 0, .slice none 0 0] 41] hl2 rfl (by omega) hr2 hc2 (by omega) HM) ?_
 rintro _ w41 ⟨rfl, Aq3, cq3, hr3, hc3, hm⟩
 refine ⟨_, rfl, ?_⟩
 replace HM := hm
 clear HF; intro a HF
 have ht2 := qc7 4096 (qc (qc l))
 have hs2 := qcw (qc (qc l))
 refine fp HF 1 2 [(9, vI (tkVal 4096 (qc (qc l))))] fun a HF => ?_
 refine qb rfl (wp_seq (wp_seq (qa ?_)))
 refine fy HF HM 0 rfl rfl rfl (Yl.qh rfl rfl (by kernel_rfl) (fun _ h => h.cell (i := 1) rfl rfl)) fun a HF => ?_
 refine fp HF 1 1 [(43, .bool (((true && tkOk 63 l) && tkOk 281474976710656 (qc l)) && tkOk 4096 (qc (qc l))))] fun a HF => ?_
 rcases HF.tf 43 rfl with ⟨hb43, HF⟩ | ⟨hb43, HF⟩
 ·
  have h3 : qcu l = true := by rw [← tk3]; exact hb43
  refine fp HF 3 2 [(46, .bool (decide ((tkVal 4096 (qc (qc l)) : Int) > (0 : Int))))] fun a HF => ?_
  refine qb rfl ?_
  rcases HF.tf 46 rfl with ⟨hb46, HF⟩ | ⟨hb46, HF⟩
  ·
   have hd46 := of_decide_eq_true hb46
   refine qe HF rfl (wp_seq (qa ?_))
   refine fp HF 1 0 [(47, .func (.func 82) #[] #[vP g3 0, vP g6 0])] fun a HF => ?_
   refine fo HF 1 rfl rfl ?_
   replace HM := HM.picks (fs' := [.blk g3 #[.slice Aq3 ((qc (qc (qc l))).length) cq3] 54, .blk g6 #[.bool (((true && tkOk 63 l) && tkOk 281474976710656 (qc l)) && tkOk 4096 (qc (qc l)))] 4, .blk g8 #[vB (1 : Nat), vB (tkVal 63 l), vI (tkVal 281474976710656 (qc l)), vI 0, .slice none 0 0] 41, .blk g4 #[vB 0, vB 0, vI 0, vI 0, .slice none 0 0] 41]) [0, 1, 2, 3] (by decide) rfl
   have hl4 := zu hl3
   refine qck HF (f := 82) (vs := [vI 281474976710656]) (fst := []) (caps := [vP g3 0, vP g6 0]) rfl rfl rfl (by kernel_rfl) rfl (by decide) (qcx w _ g3 g6 Aq3 ((qc (qc (qc l))).length) cq3 (qc (qc (qc l))) (((true && tkOk 63 l) && tkOk 281474976710656 (qc l)) && tkOk 4096 (qc (qc l))) 281474976710656 [.blk g8 #[vB (1 : Nat), vB (tkVal 63 l), vI (tkVal 281474976710656 (qc l)), vI 0, .slice none 0 0] 41, .blk g4 #[vB 0, vB 0, vI 0, vI 0, .slice none 0 0] 41] hl3 rfl (by omega) hr3 hc3 (by omega) HM) ?_
   rintro _ w48 ⟨rfl, Aq4, cq4, hr4, hc4, hm⟩
   refine ⟨_, rfl, ?_⟩
   replace HM := hm
   clear HF; intro a HF
   have ht3 := qc7 281474976710656 (qc (qc (qc l)))
   have hs3 := qcw (qc (qc (qc l)))
   refine fp HF 1 2 [(49, .func (.func 82) #[] #[vP g3 0, vP g6 0])] fun a HF => ?_
   refine fo HF 3 rfl rfl ?_
   replace HM := HM.picks (fs' := [.blk g3 #[.slice Aq4 ((qc (qc (qc (qc l)))).length) cq4] 54, .blk g6 #[.bool ((((true && tkOk 63 l) && tkOk 281474976710656 (qc l)) && tkOk 4096 (qc (qc l))) && tkOk 281474976710656 (qc (qc (qc l))))] 4, .blk g8 #[vB (1 : Nat), vB (tkVal 63 l), vI (tkVal 281474976710656 (qc l)), vI 0, .slice none 0 0] 41, .blk g4 #[vB 0, vB 0, vI 0, vI 0, .slice none 0 0] 41]) [0, 1, 2, 3] (by decide) rfl
   have hl5 := zu hl4
   refine qck HF (f := 82) (vs := [vI 281474976710656]) (fst := []) (caps := [vP g3 0, vP g6 0]) rfl rfl rfl (by kernel_rfl) rfl (by decide) (qcx w _ g3 g6 Aq4 ((qc (qc (qc (qc l)))).length) cq4 (qc (qc (qc (qc l)))) ((((true && tkOk 63 l) && tkOk 281474976710656 (qc l)) && tkOk 4096 (qc (qc l))) && tkOk 281474976710656 (qc (qc (qc l)))) 281474976710656 [.blk g8 #[vB (1 : Nat), vB (tkVal 63 l), vI (tkVal 281474976710656 (qc l)), vI 0, .slice none 0 0] 41, .blk g4 #[vB 0, vB 0, vI 0, vI 0, .slice none 0 0] 41] hl4 rfl (by omega) hr4 hc4 (by omega) HM) ?_
   rintro _ w50 ⟨rfl, Aq5, cq5, hr5, hc5, hm⟩
   refine ⟨_, rfl, ?_⟩
   replace HM := hm
   clear HF; intro a HF
   have ht4 := qc7 281474976710656 (qc (qc (qc (qc l))))
   have hs4 := qcw (qc (qc (qc (qc l))))
   refine fy HF HM 4 rfl rfl rfl (v := .agg #[vI (tkVal 281474976710656 (qc (qc (qc l)))), vI (tkVal 281474976710656 (qc (qc (qc (qc l)))))]) (Yl.build (vs := [(0, vI (tkVal 281474976710656 (qc (qc (qc l))))), (1, vI (tkVal 281474976710656 (qc (qc (qc (qc l))))))]) rfl (by kernel_rfl) (by kernel_rfl)) fun a HF => ?_
   refine fo HF 5 rfl rfl ?_
   refine qq HF HM (cs := #[vI 0, vI 0]) rfl (by kernel_rfl) rfl (by decide) ?_
   clear HF HM; intro a w10 g10 HF HM
   refine fo HF 6 rfl rfl ?_
   refine e_sa HF HM 0 rfl rfl rfl rfl rfl ⟨(by kernel_rfl), (by kernel_rfl)⟩ rfl rfl (by simp [Value.oneCell']) ?_
   clear HM; intro w10_6 HM
   refine qb rfl ?_
   obtain ⟨es, L, er, hq⟩ : ∃ es L er, readR ⟨(tkVal 281474976710656 (qc (qc (qc l))) : Int), (tkVal 281474976710656 (qc (qc (qc (qc l)))) : Int)⟩ (tkVal 63 l) (tkVal 4096 (qc (qc l)) : Int) (qc (qc (qc (qc (qc l))))) = (es, L, er) := ⟨_, _, _, rfl⟩
   refine wp_seq (qa ?_)
   refine fy HF HM 0 rfl rfl rfl (v := .agg #[vI (tkVal 281474976710656 (qc (qc (qc l)))), vI (tkVal 281474976710656 (qc (qc (qc (qc l)))))]) (Yl.zl rfl rfl ⟨(by kernel_rfl), (by kernel_rfl)⟩ rfl (fun _ h => qf (h.blk (i := 0) rfl))) fun a HF => ?_
   refine fp HF 1 1 [(54, vP g8 1)] fun a HF => ?_
   refine fy HF HM 2 rfl rfl rfl (Yl.qh rfl rfl (by kernel_rfl) (fun _ h => h.cell (i := 3) rfl rfl)) fun a HF => ?_
   refine fp HF 1 3 [(56, vI (tkVal 4096 (qc (qc l))))] fun a HF => ?_
   refine fy HF HM 4 rfl rfl rfl (Yl.qh rfl rfl (by kernel_rfl) (fun _ h => h.cell (i := 1) rfl rfl)) fun a HF => ?_
   refine fo HF 5 rfl rfl ?_
   refine e_cl HF [.agg #[vI (tkVal 281474976710656 (qc (qc (qc l)))), vI (tkVal 281474976710656 (qc (qc (qc (qc l)))))], vB (tkVal 63 l), vI (tkVal 4096 (qc (qc l))), .slice Aq5 ((qc (qc (qc (qc (qc l))))).length) cq5] rfl rfl (quy ⟨(tkVal 281474976710656 (qc (qc (qc l))) : Int), (tkVal 281474976710656 (qc (qc (qc (qc l)))) : Int)⟩ (tkVal 63 l) (by omega) Aq5 ((qc (qc (qc (qc (qc l))))).length) cq5 (tkVal 4096 (qc (qc l)) : Int) (by unfold I64; omega) (qc (qc (qc (qc (qc l))))) B _ (hL.mem HM hB).laid (HM.le hB) (HM.old hr5) hc5 hl5 (by omega) (.inl (by omega)) hq) ?_
   rintro _ w58 ⟨⟨A58, c58, rfl, ho, hc58⟩, hbw⟩
   refine ⟨_, rfl, ?_⟩
   replace HM := HM.callRow hbw ho
   clear HF; intro a HF
   refine fp HF 7 6 [(13, vI er), (12, vI L), (11, .slice A58 es.length c58)] fun a HF => ?_
   refine qb rfl (wp_seq ?_)
   refine qaq (fun aS wS => Fr aS 99 [] [(81, .bool (!(decide (er = 0 ∧ (es.getD 0 Ev.zero).seq = (tkVal 281474976710656 (qc (qc (qc l))) : Int) ∧ (es.getD 0 Ev.zero).time = (tkVal 281474976710656 (qc (qc (qc (qc l)))) : Int))))), (12, vI L), (11, .slice A58 es.length c58), (10, vP g10 0), (46, .bool true), (9, vI (tkVal 4096 (qc (qc l)))), (18, .bool false), (8, vP g8 0), (7, .func (.func 82) #[] #[vP g3 0, vP g6 0]), (6, vP g6 0), (5, .bool false), (4, vP g4 0), (3, vP g3 0), (0, vB (1 : Nat))] ∧ Mem w wS [.row (.slice A58 es.length c58) es.length (es.flatMap evL) 45 11, .blk g10 #[vI (tkVal 281474976710656 (qc (qc (qc l)))), vI (tkVal 281474976710656 (qc (qc (qc (qc l)))))] 26, .blk g3 #[.slice Aq5 ((qc (qc (qc (qc (qc l))))).length) cq5] 54, .blk g6 #[.bool (((((true && tkOk 63 l) && tkOk 281474976710656 (qc l)) && tkOk 4096 (qc (qc l))) && tkOk 281474976710656 (qc (qc (qc l)))) && tkOk 281474976710656 (qc (qc (qc (qc l)))))] 4, .blk g8 #[vB (1 : Nat), vB (tkVal 63 l), vI (tkVal 281474976710656 (qc l)), vI 0, .slice none 0 0] 41, .blk g4 #[vB 0, vB 0, vI 0, vI 0, .slice none 0 0] 41]) ?_ ?_
   ·
    refine qac HM [.row (.slice A58 es.length c58) es.length (es.flatMap evL) 45 11, .blk g10 #[vI (tkVal 281474976710656 (qc (qc (qc l)))), vI (tkVal 281474976710656 (qc (qc (qc (qc l)))))] 26, .blk g3 #[.slice Aq5 ((qc (qc (qc (qc (qc l))))).length) cq5] 54, .blk g6 #[.bool (((((true && tkOk 63 l) && tkOk 281474976710656 (qc l)) && tkOk 4096 (qc (qc l))) && tkOk 281474976710656 (qc (qc (qc l)))) && tkOk 281474976710656 (qc (qc (qc (qc l)))))] 4, .blk g8 #[vB (1 : Nat), vB (tkVal 63 l), vI (tkVal 281474976710656 (qc l)), vI 0, .slice none 0 0] 41, .blk g4 #[vB 0, vB 0, vI 0, vI 0, .slice none 0 0] 41] [0, 1, 2, 3, 4, 5] [] fun HM HS => ?_
    refine ap HF (fun _ => HS) [0, 1, 2] #[true, true, true, false, false, false, false, false, false, false, false, false, false, false, false, false, false, false, false, false] [(64, .bool ((er : Int) != (0 : Int)))] fun a HF => ?_
    rcases HF.tf 64 rfl with ⟨hb64, HF⟩ | ⟨hb64, HF⟩
    ·
     have hd64 := bne_iff_ne.1 hb64
     refine ap HF (fun _ => HS) [3, 4, 5, 6, 7, 8, 9, 10, 11, 12, 13, 14, 15, 16, 17, 18, 19] #[true, true, true, true, true, true, true, true, true, true, true, true, true, true, true, true, true, true, true, true] [(81, .bool true)] fun a HF => ?_
     refine ql (by kernel_rfl) ?_
     have HF := HF.as (t := 81) (u := .bool (!(decide (er = 0 ∧ (es.getD 0 Ev.zero).seq = (tkVal 281474976710656 (qc (qc (qc l))) : Int) ∧ (es.getD 0 Ev.zero).time = (tkVal 281474976710656 (qc (qc (qc (qc l)))) : Int))))) rfl (congrArg Value.bool (by rw [decide_eq_false (by omega)]; rfl))
     exact ⟨HF.sub (by kernel_rfl), HM.picks [0, 1, 2, 3, 4, 5] (by decide) rfl⟩
    have hd64 := bne_eq_false_iff_eq.1 hb64
    have her : er = 0 := by omega
    have hq0 := hq; rw [her] at hq0; obtain ⟨rw1, rw2, rw3, rw4, rw5⟩ := qft (cpu := tkVal 63 l) (by omega) hl5 hq0
    refine ap HF (fun _ => HS) [3, 7] #[true, true, true, true, false, false, false, true, false, false, false, false, false, false, false, false, false, false, false, false] [(69, vP g10 0), (65, .slice A58 es.length c58)] fun a HF => ?_
    obtain ⟨gA58, rfl⟩ := qbl (HM.own (i := 0) rfl) (Nat.lt_of_le_of_lt (Nat.zero_le _) (show 0 < es.length from by omega))
    refine ay HF HS 4 rfl rfl rfl (v := vP gA58 0) (Yl.indexAddr (ad := ⟨gA58, 0, none⟩) (y := 0) (sz := 11) rfl rfl rfl (by omega) (by kernel_rfl)) fun a HF => ?_
    refine ap HF (fun _ => HS) [5] #[true, true, true, true, true, true, false, true, false, false, false, false, false, false, false, false, false, false, false, false] [(67, vP gA58 0)] fun a HF => ?_
    refine ay HF HS 6 rfl rfl rfl (v := vI ((es.getD 0 Ev.zero).seq)) (Yl.qh rfl rfl (by kernel_rfl) (fun _ h => (by have := h.qda qy (i := 0) rfl (k := 0) (off := 0) (x := (es.getD 0 Ev.zero)) ((getD_at Ev.zero (k := 0) (by first | omega | (simp; omega)))) rfl; simpa using this))) fun a HF => ?_
    refine ay HF HS 8 rfl rfl rfl (Yl.qh rfl rfl (by kernel_rfl) (fun _ h => h.cell (i := 1) rfl rfl)) fun a HF => ?_
    refine ap HF (fun _ => HS) [9, 10, 11] #[true, true, true, true, true, true, true, true, true, true, true, true, false, false, false, false, false, false, false, false] [(73, .bool (((es.getD 0 Ev.zero).seq : Int) != (tkVal 281474976710656 (qc (qc (qc l))) : Int)))] fun a HF => ?_
    rcases HF.tf 73 rfl with ⟨hb73, HF⟩ | ⟨hb73, HF⟩
    ·
     have hd73 := bne_iff_ne.1 hb73
     refine ap HF (fun _ => HS) [12, 13, 14, 15, 16, 17, 18, 19] #[true, true, true, true, true, true, true, true, true, true, true, true, true, true, true, true, true, true, true, true] [(81, .bool true)] fun a HF => ?_
     refine ql (by kernel_rfl) ?_
     replace HF := HF.to [(81, .bool true), (12, vI L), (11, vS gA58 es.length c58), (10, vP g10 0), (46, .bool true), (9, vI (tkVal 4096 (qc (qc l)))), (18, .bool false), (8, vP g8 0), (7, .func (.func 82) #[] #[vP g3 0, vP g6 0]), (6, vP g6 0), (5, .bool false), (4, vP g4 0), (3, vP g3 0), (0, vB (1 : Nat))]
     have HF := HF.as (t := 81) (u := .bool (!(decide (er = 0 ∧ (es.getD 0 Ev.zero).seq = (tkVal 281474976710656 (qc (qc (qc l))) : Int) ∧ (es.getD 0 Ev.zero).time = (tkVal 281474976710656 (qc (qc (qc (qc l)))) : Int))))) rfl (congrArg Value.bool (by rw [decide_eq_false (by omega)]; rfl))
     exact ⟨HF.sub (by kernel_rfl), HM.picks [0, 1, 2, 3, 4, 5] (by decide) rfl⟩
    have hd73 := bne_eq_false_iff_eq.1 hb73
    refine ap HF (fun _ => HS) [12, 16] #[true, true, true, true, true, true, true, true, true, true, true, true, true, false, false, false, true, false, false, false] [(78, vP g10 1), (74, vS gA58 es.length c58)] fun a HF => ?_
    refine ay HF HS 13 rfl rfl rfl (v := vP gA58 0) (Yl.indexAddr (ad := ⟨gA58, 0, none⟩) (y := 0) (sz := 11) rfl rfl rfl (by omega) (by kernel_rfl)) fun a HF => ?_
    refine ap HF (fun _ => HS) [14] #[true, true, true, true, true, true, true, true, true, true, true, true, true, true, true, false, true, false, false, false] [(76, vP gA58 1)] fun a HF => ?_
    refine ay HF HS 15 rfl rfl rfl (v := vI ((es.getD 0 Ev.zero).time)) (Yl.qh rfl rfl (by kernel_rfl) (fun _ h => h.qda qy (i := 0) rfl (k := 0) (off := 1) (x := (es.getD 0 Ev.zero)) ((getD_at Ev.zero (k := 0) (by first | omega | (simp; omega)))) rfl)) fun a HF => ?_
    refine ay HF HS 17 rfl rfl rfl (Yl.qh rfl rfl (by kernel_rfl) (fun _ h => h.cell (i := 1) rfl rfl)) fun a HF => ?_
    refine ap HF (fun _ => HS) [18, 19] #[true, true, true, true, true, true, true, true, true, true, true, true, true, true, true, true, true, true, true, true] [(81, .bool (((es.getD 0 Ev.zero).time : Int) != (tkVal 281474976710656 (qc (qc (qc (qc l)))) : Int)))] fun a HF => ?_
    refine ql (by kernel_rfl) ?_
    replace HF := HF.to [(81, .bool (((es.getD 0 Ev.zero).time : Int) != (tkVal 281474976710656 (qc (qc (qc (qc l)))) : Int))), (12, vI L), (11, vS gA58 es.length c58), (10, vP g10 0), (46, .bool true), (9, vI (tkVal 4096 (qc (qc l)))), (18, .bool false), (8, vP g8 0), (7, .func (.func 82) #[] #[vP g3 0, vP g6 0]), (6, vP g6 0), (5, .bool false), (4, vP g4 0), (3, vP g3 0), (0, vB (1 : Nat))]
    have HF := HF.as (t := 81) (u := .bool (!(decide (er = 0 ∧ (es.getD 0 Ev.zero).seq = (tkVal 281474976710656 (qc (qc (qc l))) : Int) ∧ (es.getD 0 Ev.zero).time = (tkVal 281474976710656 (qc (qc (qc (qc l)))) : Int))))) rfl (congrArg Value.bool (by rw [Bool.eq_iff_iff, bne_iff_ne, Bool.not_eq_true', decide_eq_false_iff_not]; omega))
    exact ⟨HF.sub (by kernel_rfl), HM.picks [0, 1, 2, 3, 4, 5] (by decide) rfl⟩
   clear HF HM; rintro a w12 ⟨HF, HM⟩
   rcases HF.tf 81 rfl with ⟨hb81, HF⟩ | ⟨hb81, HF⟩
   ·
    have hz : ¬ (er = 0 ∧ (es.getD 0 Ev.zero).seq = (tkVal 281474976710656 (qc (qc (qc l))) : Int) ∧ (es.getD 0 Ev.zero).time = (tkVal 281474976710656 (qc (qc (qc (qc l)))) : Int)) := fun hh => by rw [decide_eq_true hh] at hb81; cases hb81
    refine qe HF rfl (wp_seq (qa ?_))
    refine fy HF HM 0 rfl rfl rfl (v := .agg #[vB 0, vB 0, vI 0, vI 0, .slice none 0 0]) (Yl.build (vs := []) rfl (by kernel_rfl) (by kernel_rfl)) fun a HF => ?_
    refine fo HF 1 rfl rfl ?_
    refine e_sa HF HM 5 rfl rfl rfl rfl rfl si_bk rfl rfl (by simp [Value.oneCell']) ?_
    clear HM; intro w13_1 HM
    refine fp HF 1 2 [(5, .bool false)] fun a HF => ?_
    refine qb rfl (wp_ret ?_)
    exact ret2 rfl HF (.cellS (i := 5) HF HM rfl rfl si_bk rfl) (.tmp HF rfl) (qbq (by rw [qbf, qe6 h3 (by omega) hq]; exact qef (fun hh => hz ⟨hh.1, hh.2.1, hh.2.2.1⟩)) rfl (by simp [Value.oneCell']) HM.below)
   have hz : er = 0 ∧ (es.getD 0 Ev.zero).seq = (tkVal 281474976710656 (qc (qc (qc l))) : Int) ∧ (es.getD 0 Ev.zero).time = (tkVal 281474976710656 (qc (qc (qc (qc l)))) : Int) := Decidable.byContradiction fun hh => by rw [decide_eq_false hh] at hb81; cases hb81
   have her := hz.1
   have hq0 := hq; rw [her] at hq0; obtain ⟨rw1, rw2, rw3, rw4, rw5⟩ := qft (cpu := tkVal 63 l) (by omega) hl5 hq0
   refine qd HF rfl (wp_skip ?_)
   refine qac HM [.row (.slice A58 es.length c58) es.length (es.flatMap evL) 45 11, .blk g10 #[vI (tkVal 281474976710656 (qc (qc (qc l)))), vI (tkVal 281474976710656 (qc (qc (qc (qc l)))))] 26, .blk g3 #[.slice Aq5 ((qc (qc (qc (qc (qc l))))).length) cq5] 54, .blk g6 #[.bool (((((true && tkOk 63 l) && tkOk 281474976710656 (qc l)) && tkOk 4096 (qc (qc l))) && tkOk 281474976710656 (qc (qc (qc l)))) && tkOk 281474976710656 (qc (qc (qc (qc l)))))] 4, .blk g4 #[vB 0, vB 0, vI 0, vI 0, .slice none 0 0] 41] [0, 1, 2, 3, 5] [6] fun HM HS => ?_
   refine ap HF (fun _ => HS) [0, 2, 4] #[true, false, true, false, true, false, false] [(87, vP g8 4), (85, vI L), (83, .slice A58 es.length c58)] fun a HF => ?_
   refine ay HF HS 1 rfl rfl rfl (Yl.qh rfl rfl (by kernel_rfl) (fun _ h => h.cell (i := 2) rfl rfl)) fun a HF => ?_
   refine ay HF HS 3 rfl rfl rfl (v := .slice (if cq5 = L then Aq5 else Aq5.map (·.add (L * 1))) (((qc (qc (qc (qc (qc l))))).length) - L) (cq5 - L)) (Yl.sliceFrom ei_u8 (j := L) rfl rfl rfl (by omega)) fun a HF => ?_
   refine qj [5] (by kernel_rfl) rfl ?_
   refine all_cons ?_ all_nil
   refine qn HF (i := 5) rfl rfl ?_
   refine zb HF HM (i := 4) (cs := #[vB (1 : Nat), vB (tkVal 63 l), vI (tkVal 281474976710656 (qc l)), vI 0, .slice none 0 0]) rfl rfl rfl rfl (by kernel_rfl) rfl rfl (by simp) ?_
   clear HM; intro w14_5 HM
   refine keepS (HM.picks [0, 1, 2, 3, 5] (by decide) rfl) (fun HS => ?_)
   refine qj [6] (by kernel_rfl) rfl ?_
   refine all_cons ?_ all_nil
   refine qn HF (i := 6) rfl rfl ?_
   refine zb HF HM (i := 2) (cs := #[.slice Aq5 ((qc (qc (qc (qc (qc l))))).length) cq5]) rfl rfl rfl rfl (by kernel_rfl) rfl rfl (by simp) ?_
   clear HM; intro w14_6 HM
   refine noS (by kernel_rfl) ?_
   refine ql (by kernel_rfl) ?_
   refine qaq (fun aS wS => Fr aS 99 [] [(5, .bool ((zj l).isSome)), (81, .bool false), (11, .slice A58 es.length c58), (10, vP g10 0), (46, .bool true), (9, vI (tkVal 4096 (qc (qc l)))), (18, .bool false), (8, vP g8 0), (7, .func (.func 82) #[] #[vP g3 0, vP g6 0]), (6, vP g6 0), (4, vP g4 0), (3, vP g3 0), (0, vB (1 : Nat))] ∧ Mem w wS [.row (.slice A58 es.length c58) es.length (es.flatMap evL) 45 11, .blk g10 #[vI (tkVal 281474976710656 (qc (qc (qc l)))), vI (tkVal 281474976710656 (qc (qc (qc (qc l)))))] 26, .blk g3 #[.slice (if cq5 = L then Aq5 else Aq5.map (·.add (L * 1))) (((qc (qc (qc (qc (qc l))))).length) - L) (cq5 - L)] 54, .blk g6 #[.bool (((((true && tkOk 63 l) && tkOk 281474976710656 (qc l)) && tkOk 4096 (qc (qc l))) && tkOk 281474976710656 (qc (qc (qc l)))) && tkOk 281474976710656 (qc (qc (qc (qc l)))))] 4, .blk g8 #[vB (1 : Nat), vB (tkVal 63 l), vI (tkVal 281474976710656 (qc l)), vI 0, .slice A58 es.length c58] 41, .blk g4 #[vB (1 : Nat), vB (tkVal 63 l), vI (tkVal 281474976710656 (qc l)), vI 0, .slice A58 es.length c58] 41]) ?_ ?_
   ·
    refine qac HM [.row (.slice A58 es.length c58) es.length (es.flatMap evL) 45 11, .blk g10 #[vI (tkVal 281474976710656 (qc (qc (qc l)))), vI (tkVal 281474976710656 (qc (qc (qc (qc l)))))] 26, .blk g3 #[.slice (if cq5 = L then Aq5 else Aq5.map (·.add (L * 1))) (((qc (qc (qc (qc (qc l))))).length) - L) (cq5 - L)] 54, .blk g6 #[.bool (((((true && tkOk 63 l) && tkOk 281474976710656 (qc l)) && tkOk 4096 (qc (qc l))) && tkOk 281474976710656 (qc (qc (qc l)))) && tkOk 281474976710656 (qc (qc (qc (qc l)))))] 4, .blk g8 #[vB (1 : Nat), vB (tkVal 63 l), vI (tkVal 281474976710656 (qc l)), vI 0, .slice A58 es.length c58] 41] [0, 1, 2, 3, 4] [] fun HM HS => ?_
    refine ay HF HS 0 rfl rfl rfl (v := .agg #[vB (1 : Nat), vB (tkVal 63 l), vI (tkVal 281474976710656 (qc l)), vI 0, .slice A58 es.length c58]) (Yl.zl rfl rfl si_bk rfl (fun _ h => qf (h.blk (i := 4) rfl))) fun a HF => ?_
    refine ay HF HS 1 rfl rfl rfl (Yl.qh rfl rfl (by kernel_rfl) (fun _ h => h.cell (i := 3) rfl rfl)) fun a HF => ?_
    refine ap HF (fun _ => HS) [2] #[true, true, true, false, false, false, false, false, false, false, false, false, false] [(90, .bool (((((true && tkOk 63 l) && tkOk 281474976710656 (qc l)) && tkOk 4096 (qc (qc l))) && tkOk 281474976710656 (qc (qc (qc l)))) && tkOk 281474976710656 (qc (qc (qc (qc l))))))] fun a HF => ?_
    rcases HF.tf 90 rfl with ⟨hb90, HF⟩ | ⟨hb90, HF⟩
    ·
     refine ay HF HS 3 rfl rfl rfl (Yl.qh rfl rfl (by kernel_rfl) (fun _ h => h.cell (i := 2) rfl rfl)) fun a HF => ?_
     refine ay HF HS 4 rfl rfl rfl (Yl.len rfl rfl (by kernel_rfl)) fun a HF => ?_
     refine ap HF (fun _ => HS) [5, 6, 7] #[true, true, true, true, true, true, true, true, false, false, false, false, false] [(95, .bool (((((qc (qc (qc (qc (qc l))))).length) - L : Nat) : Int) == (0 : Int)))] fun a HF => ?_
     rcases HF.tf 95 rfl with ⟨hb95, HF⟩ | ⟨hb95, HF⟩
     ·
      have hd95 := eq_of_beq hb95
      refine ay HF HS 8 rfl rfl rfl (v := .agg #[vB (1 : Nat), vB (tkVal 63 l), vI (tkVal 281474976710656 (qc l)), vI 0, .slice A58 es.length c58]) (Yl.zl rfl rfl si_bk rfl (fun _ h => qf (h.blk (i := 4) rfl))) fun a HF => ?_
      refine qj [9] (by kernel_rfl) rfl ?_
      refine all_cons ?_ all_nil
      refine qn HF (i := 9) rfl rfl ?_
      refine e_is HF HM [.agg #[vB (1 : Nat), vB (tkVal 63 l), vI (tkVal 281474976710656 (qc l)), vI 0, .slice A58 es.length c58]] (.bool (Bk.fits ⟨1, tkVal 63 l, (tkVal 281474976710656 (qc l) : Int), 0, es⟩)) rfl rfl (qd3 ⟨1, tkVal 63 l, (tkVal 281474976710656 (qc l) : Int), 0, es⟩ (evsOk (by omega) (by omega) (fun e he => (rw5 e he).1)) A58 c58 B _ (hL.mem HM hB) (HM.le hB) (HM.rd (i := 0) rfl) (by show es.length ≤ _; omega)) fun w97 hbw HM a HF => ?_
      refine keepS (HM.picks [0, 1, 2, 3, 4] (by decide) rfl) (fun HS => ?_)
      refine ap HF (fun _ => HS) [10] #[true, true, true, true, true, true, true, true, true, true, true, false, false] [(98, .bool (Bk.fits ⟨1, tkVal 63 l, (tkVal 281474976710656 (qc l) : Int), 0, es⟩))] fun a HF => ?_
      refine qj [11] (by kernel_rfl) rfl ?_
      refine all_cons ?_ all_nil
      refine qn HF (i := 11) rfl rfl ?_
      refine e_sa HF HM 5 rfl rfl rfl rfl rfl si_bk rfl rfl (by simp [Value.oneCell']) ?_
      clear HM; intro w15_11 HM
      refine keepS (HM.picks [0, 1, 2, 3, 4] (by decide) rfl) (fun HS => ?_)
      refine ap HF (fun _ => HS) [12] #[true, true, true, true, true, true, true, true, true, true, true, true, true] [(5, .bool (Bk.fits ⟨1, tkVal 63 l, (tkVal 281474976710656 (qc l) : Int), 0, es⟩))] fun a HF => ?_
      refine ql (by kernel_rfl) ?_
      have HF := HF.as (t := 5) (u := .bool ((zj l).isSome)) rfl (congrArg Value.bool (by rw [qji h3 (by omega) hq her, ql9 ⟨hz.2.1, hz.2.2⟩, show (tkOk 281474976710656 (qc (qc (qc l))) && tkOk 281474976710656 (qc (qc (qc (qc l))))) = true by have h9 := hb90; rw [tk5 (l := l), tk3, h3, Bool.true_and] at h9; exact h9, decide_eq_true (by omega), Bool.true_and, Bool.true_and]))
      exact ⟨HF.sub (by kernel_rfl), HM.picks [0, 1, 2, 3, 4, 5] (by decide) rfl⟩
     have hd95 := ne_of_beq_false hb95
     refine ap HF (fun _ => HS) [8, 9, 10] #[true, true, true, true, true, true, true, true, true, true, true, false, false] [(98, .bool false)] fun a HF => ?_
     refine qj [11] (by kernel_rfl) rfl ?_
     refine all_cons ?_ all_nil
     refine qn HF (i := 11) rfl rfl ?_
     refine e_sa HF HM 5 rfl rfl rfl rfl rfl si_bk rfl rfl (by simp [Value.oneCell']) ?_
     clear HM; intro w15_11 HM
     refine keepS (HM.picks [0, 1, 2, 3, 4] (by decide) rfl) (fun HS => ?_)
     refine ap HF (fun _ => HS) [12] #[true, true, true, true, true, true, true, true, true, true, true, true, true] [(5, .bool false)] fun a HF => ?_
     refine ql (by kernel_rfl) ?_
     have HF := HF.as (t := 5) (u := .bool ((zj l).isSome)) rfl (congrArg Value.bool (by rw [qji h3 (by omega) hq her, ql9 ⟨hz.2.1, hz.2.2⟩, decide_eq_false (by omega), Bool.false_and, Bool.and_false]))
     exact ⟨HF.sub (by kernel_rfl), HM.picks [0, 1, 2, 3, 4, 5] (by decide) rfl⟩
    refine ap HF (fun _ => HS) [3, 4, 5, 6, 7, 8, 9, 10] #[true, true, true, true, true, true, true, true, true, true, true, false, false] [(98, .bool false)] fun a HF => ?_
    refine qj [11] (by kernel_rfl) rfl ?_
    refine all_cons ?_ all_nil
    refine qn HF (i := 11) rfl rfl ?_
    refine e_sa HF HM 5 rfl rfl rfl rfl rfl si_bk rfl rfl (by simp [Value.oneCell']) ?_
    clear HM; intro w15_11 HM
    refine keepS (HM.picks [0, 1, 2, 3, 4] (by decide) rfl) (fun HS => ?_)
    refine ap HF (fun _ => HS) [12] #[true, true, true, true, true, true, true, true, true, true, true, true, true] [(5, .bool false)] fun a HF => ?_
    refine ql (by kernel_rfl) ?_
    have HF := HF.as (t := 5) (u := .bool ((zj l).isSome)) rfl (congrArg Value.bool (by rw [qji h3 (by omega) hq her, ql9 ⟨hz.2.1, hz.2.2⟩, show (tkOk 281474976710656 (qc (qc (qc l))) && tkOk 281474976710656 (qc (qc (qc (qc l))))) = false by have h9 := hb90; rw [tk5 (l := l), tk3, h3, Bool.true_and] at h9; exact h9, Bool.false_and]))
    exact ⟨HF.sub (by kernel_rfl), HM.picks [0, 1, 2, 3, 4, 5] (by decide) rfl⟩
   clear HF HM; rintro a w15 ⟨HF, HM⟩
   refine wp_ret ?_
   rcases HF.tf 5 rfl with ⟨hb5, HF⟩ | ⟨hb5, HF⟩
   ·
    have hfin := hb5
    exact ret2 rfl HF (.cellS (i := 5) HF HM rfl rfl si_bk rfl) (.tmp HF rfl) (qci (b := ⟨1, tkVal 63 l, (tkVal 281474976710656 (qc l) : Int), 0, es⟩) (A := A58) (c := c58) (by rw [qbf]; rw [qji h3 (by omega) hq her] at hfin ⊢; exact qs7 hfin) (HM.own (i := 0) rfl) hc58 HM.below)
   have hfin := hb5
   exact ret2 rfl HF (.cellS (i := 5) HF HM rfl rfl si_bk rfl) (.tmp HF rfl) (qbq (by rw [qbf]; exact Option.not_isSome_iff_eq_none.1 (by rw [hfin]; decide)) rfl (by simp [Value.oneCell']) HM.below)
  have hd46 := of_decide_eq_false hb46
  refine qd HF rfl (wp_skip ?_)
  refine qaq (fun aS wS => Fr aS 99 [] [(5, .bool ((zj l).isSome)), (46, .bool false), (9, vI (tkVal 4096 (qc (qc l)))), (18, .bool false), (8, vP g8 0), (7, .func (.func 82) #[] #[vP g3 0, vP g6 0]), (6, vP g6 0), (4, vP g4 0), (3, vP g3 0), (0, vB (1 : Nat))] ∧ Mem w wS [.blk g3 #[.slice Aq3 ((qc (qc (qc l))).length) cq3] 54, .blk g6 #[.bool (((true && tkOk 63 l) && tkOk 281474976710656 (qc l)) && tkOk 4096 (qc (qc l)))] 4, .blk g8 #[vB (1 : Nat), vB (tkVal 63 l), vI (tkVal 281474976710656 (qc l)), vI 0, .slice none 0 0] 41, .blk g4 #[vB (1 : Nat), vB (tkVal 63 l), vI (tkVal 281474976710656 (qc l)), vI 0, .slice none 0 0] 41]) ?_ ?_
  ·
   refine qac HM [.blk g3 #[.slice Aq3 ((qc (qc (qc l))).length) cq3] 54, .blk g6 #[.bool (((true && tkOk 63 l) && tkOk 281474976710656 (qc l)) && tkOk 4096 (qc (qc l)))] 4, .blk g8 #[vB (1 : Nat), vB (tkVal 63 l), vI (tkVal 281474976710656 (qc l)), vI 0, .slice none 0 0] 41] [0, 1, 2] [] fun HM HS => ?_
   refine ay HF HS 0 rfl rfl rfl (v := .agg #[vB (1 : Nat), vB (tkVal 63 l), vI (tkVal 281474976710656 (qc l)), vI 0, .slice none 0 0]) (Yl.zl rfl rfl si_bk rfl (fun _ h => qf (h.blk (i := 2) rfl))) fun a HF => ?_
   refine ay HF HS 1 rfl rfl rfl (Yl.qh rfl rfl (by kernel_rfl) (fun _ h => h.cell (i := 1) rfl rfl)) fun a HF => ?_
   refine ap HF (fun _ => HS) [2] #[true, true, true, false, false, false, false, false, false, false, false, false, false] [(90, .bool (((true && tkOk 63 l) && tkOk 281474976710656 (qc l)) && tkOk 4096 (qc (qc l))))] fun a HF => ?_
   rcases HF.tf 90 rfl with ⟨hb90, HF⟩ | ⟨hb90, HF⟩
   ·
    refine ay HF HS 3 rfl rfl rfl (Yl.qh rfl rfl (by kernel_rfl) (fun _ h => h.cell (i := 0) rfl rfl)) fun a HF => ?_
    refine ay HF HS 4 rfl rfl rfl (Yl.len rfl rfl (by kernel_rfl)) fun a HF => ?_
    refine ap HF (fun _ => HS) [5, 6, 7] #[true, true, true, true, true, true, true, true, false, false, false, false, false] [(95, .bool ((((qc (qc (qc l))).length : Nat) : Int) == (0 : Int)))] fun a HF => ?_
    rcases HF.tf 95 rfl with ⟨hb95, HF⟩ | ⟨hb95, HF⟩
    ·
     have hd95 := eq_of_beq hb95
     refine ay HF HS 8 rfl rfl rfl (v := .agg #[vB (1 : Nat), vB (tkVal 63 l), vI (tkVal 281474976710656 (qc l)), vI 0, .slice none 0 0]) (Yl.zl rfl rfl si_bk rfl (fun _ h => qf (h.blk (i := 2) rfl))) fun a HF => ?_
     refine qj [9] (by kernel_rfl) rfl ?_
     refine all_cons ?_ all_nil
     refine qn HF (i := 9) rfl rfl ?_
     refine e_is HF HM [.agg #[vB (1 : Nat), vB (tkVal 63 l), vI (tkVal 281474976710656 (qc l)), vI 0, .slice none 0 0]] (.bool (Bk.fits ⟨1, tkVal 63 l, (tkVal 281474976710656 (qc l) : Int), 0, []⟩)) rfl rfl (qd3 ⟨1, tkVal 63 l, (tkVal 281474976710656 (qc l) : Int), 0, []⟩ (evsOk (by omega) (by omega) (by simp)) none 0 B _ (hL.mem HM hB) (HM.le hB) Rd.nil (by show 0 ≤ _; omega)) fun w97 hbw HM a HF => ?_
     refine keepS (HM.picks [0, 1, 2] (by decide) rfl) (fun HS => ?_)
     refine ap HF (fun _ => HS) [10] #[true, true, true, true, true, true, true, true, true, true, true, false, false] [(98, .bool (Bk.fits ⟨1, tkVal 63 l, (tkVal 281474976710656 (qc l) : Int), 0, []⟩))] fun a HF => ?_
     refine qj [11] (by kernel_rfl) rfl ?_
     refine all_cons ?_ all_nil
     refine qn HF (i := 11) rfl rfl ?_
     refine e_sa HF HM 3 rfl rfl rfl rfl rfl si_bk rfl rfl (by simp [Value.oneCell']) ?_
     clear HM; intro w15_11 HM
     refine keepS (HM.picks [0, 1, 2] (by decide) rfl) (fun HS => ?_)
     refine ap HF (fun _ => HS) [12] #[true, true, true, true, true, true, true, true, true, true, true, true, true] [(5, .bool (Bk.fits ⟨1, tkVal 63 l, (tkVal 281474976710656 (qc l) : Int), 0, []⟩))] fun a HF => ?_
     refine ql (by kernel_rfl) ?_
     have HF := HF.as (t := 5) (u := .bool ((zj l).isSome)) rfl (congrArg Value.bool (by rw [qnd (l := l) (fun hh => by have h0 := hh.2; omega), h3, decide_eq_true (by omega), Bool.true_and, Bool.true_and]))
     exact ⟨HF.sub (by kernel_rfl), HM.picks [0, 1, 2, 3] (by decide) rfl⟩
    have hd95 := ne_of_beq_false hb95
    refine ap HF (fun _ => HS) [8, 9, 10] #[true, true, true, true, true, true, true, true, true, true, true, false, false] [(98, .bool false)] fun a HF => ?_
    refine qj [11] (by kernel_rfl) rfl ?_
    refine all_cons ?_ all_nil
    refine qn HF (i := 11) rfl rfl ?_
    refine e_sa HF HM 3 rfl rfl rfl rfl rfl si_bk rfl rfl (by simp [Value.oneCell']) ?_
    clear HM; intro w15_11 HM
    refine keepS (HM.picks [0, 1, 2] (by decide) rfl) (fun HS => ?_)
    refine ap HF (fun _ => HS) [12] #[true, true, true, true, true, true, true, true, true, true, true, true, true] [(5, .bool false)] fun a HF => ?_
    refine ql (by kernel_rfl) ?_
    have HF := HF.as (t := 5) (u := .bool ((zj l).isSome)) rfl (congrArg Value.bool (by rw [qnd (l := l) (fun hh => by have h0 := hh.2; omega), decide_eq_false (by omega), Bool.false_and, Bool.and_false]))
    exact ⟨HF.sub (by kernel_rfl), HM.picks [0, 1, 2, 3] (by decide) rfl⟩
   refine ap HF (fun _ => HS) [3, 4, 5, 6, 7, 8, 9, 10] #[true, true, true, true, true, true, true, true, true, true, true, false, false] [(98, .bool false)] fun a HF => ?_
   refine qj [11] (by kernel_rfl) rfl ?_
   refine all_cons ?_ all_nil
   refine qn HF (i := 11) rfl rfl ?_
   refine e_sa HF HM 3 rfl rfl rfl rfl rfl si_bk rfl rfl (by simp [Value.oneCell']) ?_
   clear HM; intro w15_11 HM
   refine keepS (HM.picks [0, 1, 2] (by decide) rfl) (fun HS => ?_)
   refine ap HF (fun _ => HS) [12] #[true, true, true, true, true, true, true, true, true, true, true, true, true] [(5, .bool false)] fun a HF => ?_
   refine ql (by kernel_rfl) ?_
   have HF := HF.as (t := 5) (u := .bool ((zj l).isSome)) rfl (congrArg Value.bool (by have h9 := hb90; rw [tk3] at h9; rw [qnd (l := l) (fun hh => by have h0 := hh.2; omega), h9, Bool.false_and]))
   exact ⟨HF.sub (by kernel_rfl), HM.picks [0, 1, 2, 3] (by decide) rfl⟩
  clear HF HM; rintro a w15 ⟨HF, HM⟩
  refine wp_ret ?_
  rcases HF.tf 5 rfl with ⟨hb5, HF⟩ | ⟨hb5, HF⟩
  ·
   have hfin := hb5
   exact ret2 rfl HF (.cellS (i := 3) HF HM rfl rfl si_bk rfl) (.tmp HF rfl) (qci (b := ⟨1, tkVal 63 l, (tkVal 281474976710656 (qc l) : Int), 0, []⟩) (A := none) (c := 0) (by rw [qbf]; exact qqw (fun hh => by have h0 := hh.2; omega) hfin) (World.ownsRow_nil _ _ _ _) (Nat.le_refl _) HM.below)
  have hfin := hb5
  exact ret2 rfl HF (.cellS (i := 3) HF HM rfl rfl si_bk rfl) (.tmp HF rfl) (qbq (by rw [qbf]; exact Option.not_isSome_iff_eq_none.1 (by rw [hfin]; decide)) rfl (by simp [Value.oneCell']) HM.below)
 have h3 : qcu l = false := by rw [← tk3]; exact hb43
 refine fp HF 3 2 [(46, .bool false)] fun a HF => ?_
 refine qb rfl (qd HF rfl (wp_skip ?_))
 refine qaq (fun aS wS => Fr aS 99 [] [(5, .bool ((zj l).isSome)), (46, .bool false), (9, vI (tkVal 4096 (qc (qc l)))), (18, .bool false), (8, vP g8 0), (7, .func (.func 82) #[] #[vP g3 0, vP g6 0]), (6, vP g6 0), (4, vP g4 0), (3, vP g3 0), (0, vB (1 : Nat))] ∧ Mem w wS [.blk g3 #[.slice Aq3 ((qc (qc (qc l))).length) cq3] 54, .blk g6 #[.bool (((true && tkOk 63 l) && tkOk 281474976710656 (qc l)) && tkOk 4096 (qc (qc l)))] 4, .blk g8 #[vB (1 : Nat), vB (tkVal 63 l), vI (tkVal 281474976710656 (qc l)), vI 0, .slice none 0 0] 41, .blk g4 #[vB (1 : Nat), vB (tkVal 63 l), vI (tkVal 281474976710656 (qc l)), vI 0, .slice none 0 0] 41]) ?_ ?_
 ·
  refine qac HM [.blk g3 #[.slice Aq3 ((qc (qc (qc l))).length) cq3] 54, .blk g6 #[.bool (((true && tkOk 63 l) && tkOk 281474976710656 (qc l)) && tkOk 4096 (qc (qc l)))] 4, .blk g8 #[vB (1 : Nat), vB (tkVal 63 l), vI (tkVal 281474976710656 (qc l)), vI 0, .slice none 0 0] 41] [0, 1, 2] [] fun HM HS => ?_
  refine ay HF HS 0 rfl rfl rfl (v := .agg #[vB (1 : Nat), vB (tkVal 63 l), vI (tkVal 281474976710656 (qc l)), vI 0, .slice none 0 0]) (Yl.zl rfl rfl si_bk rfl (fun _ h => qf (h.blk (i := 2) rfl))) fun a HF => ?_
  refine ay HF HS 1 rfl rfl rfl (Yl.qh rfl rfl (by kernel_rfl) (fun _ h => h.cell (i := 1) rfl rfl)) fun a HF => ?_
  refine ap HF (fun _ => HS) [2] #[true, true, true, false, false, false, false, false, false, false, false, false, false] [(90, .bool (((true && tkOk 63 l) && tkOk 281474976710656 (qc l)) && tkOk 4096 (qc (qc l))))] fun a HF => ?_
  rcases HF.tf 90 rfl with ⟨hb90, HF⟩ | ⟨hb90, HF⟩
  ·
   refine ay HF HS 3 rfl rfl rfl (Yl.qh rfl rfl (by kernel_rfl) (fun _ h => h.cell (i := 0) rfl rfl)) fun a HF => ?_
   refine ay HF HS 4 rfl rfl rfl (Yl.len rfl rfl (by kernel_rfl)) fun a HF => ?_
   refine ap HF (fun _ => HS) [5, 6, 7] #[true, true, true, true, true, true, true, true, false, false, false, false, false] [(95, .bool ((((qc (qc (qc l))).length : Nat) : Int) == (0 : Int)))] fun a HF => ?_
   rcases HF.tf 95 rfl with ⟨hb95, HF⟩ | ⟨hb95, HF⟩
   ·
    have hd95 := eq_of_beq hb95
    refine ay HF HS 8 rfl rfl rfl (v := .agg #[vB (1 : Nat), vB (tkVal 63 l), vI (tkVal 281474976710656 (qc l)), vI 0, .slice none 0 0]) (Yl.zl rfl rfl si_bk rfl (fun _ h => qf (h.blk (i := 2) rfl))) fun a HF => ?_
    refine qj [9] (by kernel_rfl) rfl ?_
    refine all_cons ?_ all_nil
    refine qn HF (i := 9) rfl rfl ?_
    refine e_is HF HM [.agg #[vB (1 : Nat), vB (tkVal 63 l), vI (tkVal 281474976710656 (qc l)), vI 0, .slice none 0 0]] (.bool (Bk.fits ⟨1, tkVal 63 l, (tkVal 281474976710656 (qc l) : Int), 0, []⟩)) rfl rfl (qd3 ⟨1, tkVal 63 l, (tkVal 281474976710656 (qc l) : Int), 0, []⟩ (evsOk (by omega) (by omega) (by simp)) none 0 B _ (hL.mem HM hB) (HM.le hB) Rd.nil (by show 0 ≤ _; omega)) fun w97 hbw HM a HF => ?_
    refine keepS (HM.picks [0, 1, 2] (by decide) rfl) (fun HS => ?_)
    refine ap HF (fun _ => HS) [10] #[true, true, true, true, true, true, true, true, true, true, true, false, false] [(98, .bool (Bk.fits ⟨1, tkVal 63 l, (tkVal 281474976710656 (qc l) : Int), 0, []⟩))] fun a HF => ?_
    refine qj [11] (by kernel_rfl) rfl ?_
    refine all_cons ?_ all_nil
    refine qn HF (i := 11) rfl rfl ?_
    refine e_sa HF HM 3 rfl rfl rfl rfl rfl si_bk rfl rfl (by simp [Value.oneCell']) ?_
    clear HM; intro w15_11 HM
    refine keepS (HM.picks [0, 1, 2] (by decide) rfl) (fun HS => ?_)
    refine ap HF (fun _ => HS) [12] #[true, true, true, true, true, true, true, true, true, true, true, true, true] [(5, .bool (Bk.fits ⟨1, tkVal 63 l, (tkVal 281474976710656 (qc l) : Int), 0, []⟩))] fun a HF => ?_
    refine ql (by kernel_rfl) ?_
    have HF := HF.as (t := 5) (u := .bool ((zj l).isSome)) rfl (congrArg Value.bool (by have h9 := hb90; rw [tk3, h3] at h9; cases h9))
    exact ⟨HF.sub (by kernel_rfl), HM.picks [0, 1, 2, 3] (by decide) rfl⟩
   have hd95 := ne_of_beq_false hb95
   refine ap HF (fun _ => HS) [8, 9, 10] #[true, true, true, true, true, true, true, true, true, true, true, false, false] [(98, .bool false)] fun a HF => ?_
   refine qj [11] (by kernel_rfl) rfl ?_
   refine all_cons ?_ all_nil
   refine qn HF (i := 11) rfl rfl ?_
   refine e_sa HF HM 3 rfl rfl rfl rfl rfl si_bk rfl rfl (by simp [Value.oneCell']) ?_
   clear HM; intro w15_11 HM
   refine keepS (HM.picks [0, 1, 2] (by decide) rfl) (fun HS => ?_)
   refine ap HF (fun _ => HS) [12] #[true, true, true, true, true, true, true, true, true, true, true, true, true] [(5, .bool false)] fun a HF => ?_
   refine ql (by kernel_rfl) ?_
   have HF := HF.as (t := 5) (u := .bool ((zj l).isSome)) rfl (congrArg Value.bool (by have h9 := hb90; rw [tk3, h3] at h9; cases h9))
   exact ⟨HF.sub (by kernel_rfl), HM.picks [0, 1, 2, 3] (by decide) rfl⟩
  refine ap HF (fun _ => HS) [3, 4, 5, 6, 7, 8, 9, 10] #[true, true, true, true, true, true, true, true, true, true, true, false, false] [(98, .bool false)] fun a HF => ?_
  refine qj [11] (by kernel_rfl) rfl ?_
  refine all_cons ?_ all_nil
  refine qn HF (i := 11) rfl rfl ?_
  refine e_sa HF HM 3 rfl rfl rfl rfl rfl si_bk rfl rfl (by simp [Value.oneCell']) ?_
  clear HM; intro w15_11 HM
  refine keepS (HM.picks [0, 1, 2] (by decide) rfl) (fun HS => ?_)
  refine ap HF (fun _ => HS) [12] #[true, true, true, true, true, true, true, true, true, true, true, true, true] [(5, .bool false)] fun a HF => ?_
  refine ql (by kernel_rfl) ?_
  have HF := HF.as (t := 5) (u := .bool ((zj l).isSome)) rfl (congrArg Value.bool (by have h9 := hb90; rw [tk3] at h9; rw [qnd (l := l) (fun hh => by rw [h3] at hh; cases hh.1), h9, Bool.false_and]))
  exact ⟨HF.sub (by kernel_rfl), HM.picks [0, 1, 2, 3] (by decide) rfl⟩
 clear HF HM; rintro a w15 ⟨HF, HM⟩
 refine wp_ret ?_
 rcases HF.tf 5 rfl with ⟨hb5, HF⟩ | ⟨hb5, HF⟩
 ·
  have hfin := hb5
  exact ret2 rfl HF (.cellS (i := 3) HF HM rfl rfl si_bk rfl) (.tmp HF rfl) (qci (b := ⟨1, tkVal 63 l, (tkVal 281474976710656 (qc l) : Int), 0, []⟩) (A := none) (c := 0) (by rw [qbf]; exact qqw (fun hh => by rw [h3] at hh; cases hh.1) hfin) (World.ownsRow_nil _ _ _ _) (Nat.le_refl _) HM.below)
 have hfin := hb5
 exact ret2 rfl HF (.cellS (i := 3) HF HM rfl rfl si_bk rfl) (.tmp HF rfl) (qbq (by rw [qbf]; exact Option.not_isSome_iff_eq_none.1 (by rw [hfin]; decide)) rfl (by simp [Value.oneCell']) HM.below)
end Go.Proofs.YtfeheccoijnbaaaDoor
