/- A part of the proof. -/
import Derived.Test.YtcajpeiobkcliaaGreatDoorQfSep11
import Derived.Test.YtcajpeiobkcliaaGreatDoorQfRound
import Derived.Recover
namespace Go.Proofs.YtcajpeiobkcliaaGreatDoor
open Go.RowKit
section
variable {P : Program} {Q : Exit → Act → World → Prop} {a : Act} {W w : World} {n d : Nat} {D : List Deferred} {σ : List (Nat × Value)} {o : Oper} {v : Value} {K : Act → World → Prop} {fs : List Fact}
def pan (t : TypeId) (k : Int) : List PanicEntry := [{ v := .iface t (.int .i64 k), recovered := false }]
def Dies (W : World) (fs : List Fact) (ch : List PanicEntry) (r : Ending) (w' : World) : Prop := r = .panicked ch ∧ Mem W w' fs
theorem qa9 (Z : Fr a n D σ) (vs : List Value) {f : FuncId} {xs : Array Operand} {ts : Array TypeId} {ch : List PanicEntry} (hop : o.op = .call { callee := .value (.func f), args := xs, argTypes := ts })
  (hC : Calls P f vs.toArray w (Dies W fs ch)) (k : ∀ w', Mem W w' fs → Q (.panic ch) a w') (hv : looks σ xs.toList = some vs := by kernel_rfl) (hf : callable P f = true := by kernel_rfl) : o.wp P a w K Q := by
 have e1 : xs.map a.eval = vs.toArray := by
  have := qbo Z hv
  rw [← this, ← Array.toList_map, Array.toArray_toList]
 unfold Oper.wp execOp
 simp only [hop, resolve, Act.eval, Deferred.ofValue, invoke, Sem.run_bind, Sem.run_pure, Result.andThen_ok]
 have e3 : #[] ++ Array.map a.eval xs ++ #[] = vs.toArray := by simp [e1]
 show Oper.upon P o a K Q (((callFunc f (#[] ++ Array.map a.eval xs ++ #[])).run P w))
 rw [e3, qat hf, Oper.upon_enter]
 exact hC.mono fun e w' ⟨h1, h2⟩ => by subst h1; exact k w' h2
theorem q6z (Z : Fr a n D σ) {x : Operand} {t : TypeId} {u : Value} (hop : o.op = .panic x) (hx : look σ x = some (.iface t u)) (k : Q (.panic [{ v := .iface t u, recovered := false }]) a w) : o.wp P a w K Q := by
 unfold Oper.wp execOp
 simp only [hop, Z.eval hx, Sem.run_bind]
 exact k
def qkw (P : Program) (t : TypeId) : Bool := match P.underlying t with
 | some (.interface _) => false
 | some _ => true
 | none => false
theorem Yl.makeInterface {S : World → Prop} {x : Operand} {t : TypeId} (hop : o.op = .makeInterface t x) (hx : look σ x = some v) (ht : qkw P t = true := by kernel_rfl) : Yl P S σ o (.iface t v) := fun a n D Z w hS => by
 unfold qkw at ht
 cases hu : P.underlying t with
 | none => rw [hu] at ht; cases ht
 | some d =>
  rw [hu] at ht
  unfold execOp
  simp only [hop, Z.eval hx, Instr.makeInterface, Sem.run_bind, run_underlying hu, Result.andThen_ok]
  cases d <;> first | rfl | cases ht
def isIface (P : Program) (t : TypeId) : Bool := match P.underlying t with
 | some (.interface _) => true
 | _ => false
theorem qkx {t : TypeId} (h : isIface P t = true) : ∃ ms, P.underlying t = some (.interface ms) := by
 unfold isIface at h
 split at h
 ·rename_i ms hu; exact ⟨ms, hu⟩
 ·cases h
theorem qqj {t tv : TypeId} {v : Value} (ht : isIface P t = true) (w : World) : (Op.equal t (.iface tv v) .nilIface).run P w = .ok false w := by
 obtain ⟨ms, hu⟩ := qkx ht
 have h : ∀ d, (Op.equalIn (d + 1) t (.iface tv v) .nilIface).run P w = .ok false w := fun d => by
  rw [Op.equalIn]
  simp only [Sem.run_bind, run_underlying hu, Result.andThen_ok, Sem.run_pure]
 exact h 9999
theorem qzd {t : TypeId} (ht : isIface P t = true) (w : World) : (Op.equal t .nilIface .nilIface).run P w = .ok true w := by
 obtain ⟨ms, hu⟩ := qkx ht
 have h : ∀ d, (Op.equalIn (d + 1) t .nilIface .nilIface).run P w = .ok true w := fun d => by
  rw [Op.equalIn]
  simp only [Sem.run_bind, run_underlying hu, Result.andThen_ok, Sem.run_pure]
 exact h 9999
theorem Yl.q77 {S : World → Prop} {x y : Operand} {t u tv : TypeId} (hop : o.op = .binOp .neq t x y u) (hx : look σ x = some (.iface tv v)) (hy : look σ y = some .nilIface) (ht : isIface P t = true := by kernel_rfl) : Yl P S σ o (.bool true) := fun a n D Z w hS => by
 unfold execOp
 simp only [hop, Z.eval hx, Z.eval hy, Sem.run_bind, qab .neq t x y (a := .iface tv v) rfl, Result.andThen_ok, binOp, qqj ht, Sem.run_pure]
 rfl
theorem Yl.zag {S : World → Prop} {x : Operand} {t u : TypeId} (hop : o.op = .binOp .neq t x (.const .nilIface) u) (hx : look σ x = some .nilIface) (ht : isIface P t = true := by kernel_rfl) : Yl P S σ o (.bool false) := fun a n D Z w hS => by
 have e1 : a.eval (.const .nilIface) = .nilIface := rfl
 have e2 : (eqGuard .neq t x (.const .nilIface) .nilIface .nilIface).run P w = .ok () w := by
  unfold eqGuard
  simp
 unfold execOp
 simp only [hop, Z.eval hx, e1, Sem.run_bind, e2, Result.andThen_ok, binOp, qzd ht, Sem.run_pure]
 rfl
theorem qol {t : TypeId} (h : qkw P t = true) : ∃ d, P.underlying t = some d ∧ ∀ ms, d ≠ .interface ms := by
 unfold qkw at h
 split at h
 ·cases h
 ·rename_i d hn hu; exact ⟨d, hu, fun ms e => hn ms e⟩
 ·cases h
theorem Yl.q36 {S : World → Prop} {x : Operand} {xt t : TypeId} (hop : o.op = .typeAssert x xt t true) (hx : look σ x = some (.iface t v)) (ht : qkw P t = true := by kernel_rfl) : Yl P S σ o (.tuple #[v, .bool true]) := fun a n D Z w hS => by
 obtain ⟨d, hu, hd⟩ := qol ht
 unfold execOp
 simp only [hop, Z.eval hx, Instr.typeAssert, Sem.run_bind, run_underlying hu, Result.andThen_ok]
 cases d <;> first | (exact absurd rfl (hd _)) | simp
theorem Yl.q0r {S : World → Prop} {x : Operand} {xt t : TypeId} {z : Value} (hop : o.op = .typeAssert x xt t true) (hx : look σ x = some .nilIface) (hz : (P.info? t).bind (·.zero) = some z) (ht : qkw P t = true := by kernel_rfl) : Yl P S σ o (.tuple #[z, .bool false]) := fun a n D Z w hS => by
 obtain ⟨d, hu, hd⟩ := qol ht
 obtain ⟨i, hi, hz2⟩ := Option.bind_eq_some_iff.1 hz
 unfold execOp
 simp only [hop, Z.eval hx, Instr.typeAssert, Sem.run_bind, run_underlying hu, Result.andThen_ok]
 cases d <;> first | (exact absurd rfl (hd _)) | rfl | simp [zeroValue, typeInfo, hi, hz2]
def OnlyN (Q : Exit → Act → World → Prop) : Exit → Act → World → Prop
 | .normal, a, w => Q .normal a w
 | _, _, _ => False
theorem q60 {c : Code} (h : c.wp P (OnlyN Q) a w) : c.wp P Q a w := fun b k cs => by
 obtain ⟨e, a', w', hq, harr⟩ := h b k cs
 cases e with
 | normal => exact ⟨_, a', w', hq, harr⟩
 | _ => exact hq.elim
theorem qc8 {p : Prop} (Z : Fr a n [] σ) (h : p) : a.defers = [] ∧ p := ⟨Z.defers, h⟩
theorem q61 (Z : Fr a n D σ) {fo : Operand} {f : FuncId} {caps : List Value} {ts : Array TypeId} (hop : o.op = .defer { callee := .value fo, args := #[], argTypes := ts }) (hfo : look σ fo = some (.func (.func f) #[] caps.toArray)) (hd : o.dst = none)
  (k : ∀ a', Fr a' n ({ target := .fn (.func f) caps.toArray, args := #[] } :: D) σ → K a' w) : o.wp P a w K Q := by
 unfold Oper.wp execOp
 simp only [hop, resolve, Z.eval hfo, Deferred.ofValue, Sem.run_bind, Sem.run_pure, Result.andThen_ok, List.map_toArray, List.map_nil, Oper.upon_defer, hd]
 exact k _ ⟨Z.size, by show _ :: a.defers = _; rw [Z.defers]; rfl, Z.slot⟩
theorem qom {f N : Nat} {fn : Func} {c : Code} {vs : List Value} {R : Ending → World → Prop} (hf : P.funcs[f]? = some fn) (hb : fn.body = some c) (hn : fn.ntmps = N) (hl : decide (vs.length ≤ N) = true) {σ0 : List (Nat × Value)} (h0 : qcd 0 vs = σ0)
  (k : ∀ a, Fr a N [] σ0 → c.wp P (bodyPostD P fn R) a w) : Calls P f vs.toArray w R := by
 subst h0
 rw [decide_eq_true_eq] at hl
 refine calls_of_wp_defers hf hb (k _ ⟨by simp [hn]; omega, rfl, fun t v hv => ?_⟩)
 obtain ⟨_, h1⟩ := qbp vs 0 t v hv
 rw [Nat.sub_zero] at h1
 have hlt := (List.getElem?_eq_some_iff.1 h1).1
 simp only [Array.getD_eq_getD_getElem?, Array.getElem?_append, List.size_toArray, if_pos hlt]
 simp [h1]
def Caught (W : World) (fs : List Fact) (e : Ending) (u : FrameMode) (w' : World) : Prop := e = .returned (.tuple #[]) ∧ settle u = .returning ∧ Mem W w' fs
theorem qvc {fn : Func} {R : Ending → World → Prop} {ch : List PanicEntry} {f : FuncId} {caps : List Value} {r : ResultVar} (Z : Fr a n [{ target := .fn (.func f) caps.toArray, args := #[] }] σ) (hc : callable P f = true) (hC : CallsD P f caps.toArray (.panicking ch) w (Caught W fs)) (hr : fn.results = #[r])
  (k : ∀ w', Mem W w' fs → qau P a w' r v ∧ R (.returned v) w') : bodyPostD P fn R (.panic ch) a w := by
 show Leaves P fn a.tmps R a.defers (.panicking ch) w
 rw [Z.defers]
 refine leaves_cons (f := f) (args := caps.toArray) (by simp) (by simp only [invoke]; rw [show #[] ++ caps.toArray = caps.toArray by simp]; exact qat hc _ _) (hC.mono fun e u w' ⟨h1, h2, h3⟩ => ?_)
 subst h1
 show Leaves P fn a.tmps R [] (settle u) w'
 rw [h2]
 obtain ⟨h4, h5⟩ := k w' h3
 unfold qau at h4
 refine ⟨v, ?_, h5⟩
 rw [qbf, hr]
 generalize qen a.tmps = g at *
 simp [h4]
theorem qze {fn : Func} {R : Ending → World → Prop} {f : FuncId} {caps : List Value} {r : ResultVar} (Z : Fr a n [{ target := .fn (.func f) caps.toArray, args := #[] }] σ) (hc : callable P f = true) (hC : CallsD P f caps.toArray .returning w (Caught W fs)) (hr : fn.results = #[r])
  (k : ∀ w', Mem W w' fs → qau P a w' r v ∧ R (.returned v) w') : bodyPostD P fn R .ret a w := by
 show Leaves P fn a.tmps R a.defers .returning w
 rw [Z.defers]
 refine leaves_cons (f := f) (args := caps.toArray) (by simp) (by simp only [invoke]; rw [show #[] ++ caps.toArray = caps.toArray by simp]; exact qat hc _ _) (hC.mono fun e u w' ⟨h1, h2, h3⟩ => ?_)
 subst h1
 show Leaves P fn a.tmps R [] (settle u) w'
 rw [h2]
 obtain ⟨h4, h5⟩ := k w' h3
 unfold qau at h4
 refine ⟨v, ?_, h5⟩
 rw [qbf, hr]
 generalize qen a.tmps = g at *
 simp [h4]
theorem qsj {ops : Array Oper} (h : o.guard = none) : Region.wanted o (yielded ops a.tmps) = true := by unfold Region.wanted; rw [h]
theorem qhd {ops : Array Oper} {rest : List Nat} {i : Nat} {QS : Exit → Act → List Frame → World → Prop} {cs cs' : List Frame} {ts : Array TypeId} (Z : Fr a n D σ) (ho : ops[i]? = some o) (hop : o.op = .call { callee := .builtin .recover, args := #[], argTypes := ts }) (hg : o.guard = none) (hd : o.dst = some d) (hdn : d < n)
  (hcs : (recoverD cs = some (v, cs')) ∨ (recoverD cs = none ∧ v = .nilIface ∧ cs' = cs)) (k : ∀ a', Fr a' n D ((d, v) :: σ) → wpOpsS P ops QS rest a' cs' w) : wpOpsS P ops QS (i :: rest) a cs w := by
 have hrun : (execOp a.eval o).run P w = .ok .recover w := by
  unfold execOp
  simp [hop, resolve, invoke, builtin]
 simp only [wpOpsS, ho, qsj hg, if_true, hrun]
 rcases hcs with h | ⟨h, rfl, rfl⟩
 ·simp only [h, hd]
  exact k _ (Z.put hdn _)
 ·simp only [h, hd]
  exact k _ (Z.put hdn _)
theorem qon {ops : Array Oper} {rest : List Nat} {i : Nat} {QS : Exit → Act → List Frame → World → Prop} {cs : List Frame} (Z : Fr a n D σ) (ho : ops[i]? = some o) (hv : qbe P σ o.op = some v) (hg : o.guard = none) (hd : o.dst = some d) (hdn : d < n)
  (k : ∀ a', Fr a' n D ((d, v) :: σ) → wpOpsS P ops QS rest a' cs w) : wpOpsS P ops QS (i :: rest) a cs w := by
 have hrun := qh2 Z hv w
 simp only [wpOpsS, ho, qsj hg, if_true, hrun, Oper.upon_value, hd]
 exact k _ (Z.put hdn _)
theorem qhe {f N : Nat} {fn : Func} {c : Code} {vs : List Value} {u : FrameMode} {R : Ending → FrameMode → World → Prop} (hf : P.funcs[f]? = some fn) (hb : fn.body = some c) (hn : fn.ntmps = N) (hl : decide (vs.length ≤ N) = true) {σ0 : List (Nat × Value)} (h0 : qcd 0 vs = σ0)
  (k : ∀ (c₀ : Frame) (cs : List Frame) a, c₀.mode = u → Fr a N [] σ0 → c.wpS P (bodyPostS P fn c₀ cs R) a (c₀ :: cs) w) : CallsD P f vs.toArray u w R := by
 subst h0
 rw [decide_eq_true_eq] at hl
 refine callsD_of_wpS hf hb fun c₀ cs hu => k c₀ cs _ hu ⟨by simp [hn]; omega, rfl, fun t v hv => ?_⟩
 obtain ⟨_, h1⟩ := qbp vs 0 t v hv
 rw [Nat.sub_zero] at h1
 have hlt := (List.getElem?_eq_some_iff.1 h1).1
 simp only [Array.getD_eq_getD_getElem?, Array.getElem?_append, List.size_toArray, if_pos hlt]
 simp [h1]
theorem qoo {fn : Func} {c₀ : Frame} {cs : List Frame} {u : FrameMode} {R : Ending → FrameMode → World → Prop} (hr : fn.results = #[]) (Z : Fr a n [] σ) (h : R (.returned (.tuple #[])) u w) : bodyPostS P fn c₀ cs R .normal a ({ c₀ with mode := u } :: cs) w :=
 ⟨Z.defers, u, rfl, _, (by rw [qbf, hr]; simp), h⟩
end
end Go.Proofs.YtcajpeiobkcliaaGreatDoor
