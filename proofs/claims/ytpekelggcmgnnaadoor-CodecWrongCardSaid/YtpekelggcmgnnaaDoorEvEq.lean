/- Two events are compared. -/
import Derived.Test.YtpekelggcmgnnaaDoorSepU
import Derived.Laws.StructEq
namespace Go.Proofs.YtpekelggcmgnnaaDoor
open Go.RowKit

def intAt (xs : Array Value) (i : Nat) : Int := match xs[i]? with
  | some (.int _ n) => n
  | _ => 0
def eqFieldB (P : Program) (f : Field) (i : Nat) : Bool := f.name != "_" && (f.offset == i && (isOne P f.type && match P.underlying f.type with
  | some (.int _) => true
  | _ => false))
theorem eqFields_ints {P : Program} (d : Nat) (xs ys : Array Value) : ∀ (fs : List Field) (i : Nat) (w : World), (∀ j, j < fs.length → ∃ f k a b, fs[j]? = some f ∧ eqFieldB P f (i + j) = true ∧ xs[i + j]? = some (.int k a) ∧ ys[i + j]? = some (.int k b)) →
    (Op.eqFields (d + 1) xs ys fs).run P w = .ok ((List.range fs.length).all fun j => intAt xs (i + j) == intAt ys (i + j)) w
  | [], i, w, _ => rfl
  | f :: fs, i, w, h => by
    obtain ⟨f', k, a, b, hf, hb, hx, hy⟩ := h 0 (by simp)
    simp only [List.getElem?_cons_zero, Option.some.injEq] at hf
    subst hf
    simp only [eqFieldB, Bool.and_eq_true, bne_iff_ne, beq_iff_eq, Nat.add_zero] at hb
    obtain ⟨h1, h2, h3, h4⟩ := hb
    rw [Nat.add_zero] at hx hy
    have ih := eqFields_ints d xs ys fs (i + 1) w (fun j hj => by
      obtain ⟨f, k, a, b, hf, hb, hx, hy⟩ := h (j + 1) (by simpa using hj)
      refine ⟨f, k, a, b, by simpa using hf, ?_, ?_, ?_⟩
      · rw [show i + 1 + j = i + (j + 1) by omega]; exact hb
      · rw [show i + 1 + j = i + (j + 1) by omega]; exact hx
      · rw [show i + 1 + j = i + (j + 1) by omega]; exact hy)
    have hu : ∃ k', P.underlying f.type = some (.int k') := by
      split at h4
      · rename_i k' hk; exact ⟨k', hk⟩
      · cases h4
    obtain ⟨k', hu⟩ := hu
    have hxi : intAt xs i = a := by simp [intAt, hx]
    have hyi : intAt ys i = b := by simp [intAt, hy]
    have e : (List.range (f :: fs).length).all (fun j => intAt xs (i + j) == intAt ys (i + j)) = ((a == b) && (List.range fs.length).all fun j => intAt xs (i + 1 + j) == intAt ys (i + 1 + j)) := by
      rw [List.length_cons, List.range_succ_eq_map, List.all_cons, Nat.add_zero, hxi, hyi, List.all_map]
      congr 2
      funext j
      simp only [Function.comp_apply, Nat.succ_eq_add_one]
      rw [show i + (j + 1) = i + 1 + j by omega]
    rw [e]
    unfold Op.eqFields
    rw [if_pos h1]
    simp only [Sem.run_bind, part, isAgg_one h3, Result.andThen_ok, Bool.false_eq_true, if_false, h2, hx, hy, Sem.run_pure, run_equalIn_int w d f.type k k' a b hu]
    cases hab : (a == b)
    · simp
    · simp [ih]
def evTypeOk (P : Program) (t : TypeId) : Bool := !P.stoodInHeld t && (!P.eqGuardType P.depth t && ((P.fieldsOf t).size == 11 && ((List.range 11).all fun i => match (P.fieldsOf t).toList[i]? with
  | some f => eqFieldB P f i
  | none => false)))
theorem isStruct_of {P : Program} {t : TypeId} (h : (P.fieldsOf t).size = 11) : P.underlying t = some (.struct (P.fieldsOf t)) := by
  unfold Program.fieldsOf at h ⊢
  split at h
  · rename_i fs hu; rw [hu]
  · cases h
theorem ev_at_int (e : Ev) : ∀ i, i < 11 → ∃ k, e.cells[i]? = some (.int k (intAt e.cells i)) ∧ ∀ e' : Ev, e'.cells[i]? = some (.int k (intAt e'.cells i)) := by
  intro i hi
  have h : i = 0 ∨ i = 1 ∨ i = 2 ∨ i = 3 ∨ i = 4 ∨ i = 5 ∨ i = 6 ∨ i = 7 ∨ i = 8 ∨ i = 9 ∨ i = 10 := by omega
  rcases h with rfl | rfl | rfl | rfl | rfl | rfl | rfl | rfl | rfl | rfl | rfl <;> exact ⟨_, rfl, fun _ => rfl⟩
instance evDec : DecidableEq Ev := fun ⟨a0, a1, a2, a3, a4, a5, a6, a7, a8, a9, a10⟩ ⟨b0, b1, b2, b3, b4, b5, b6, b7, b8, b9, b10⟩ =>
  decidable_of_iff (a0 = b0 ∧ a1 = b1 ∧ a2 = b2 ∧ a3 = b3 ∧ a4 = b4 ∧ a5 = b5 ∧ a6 = b6 ∧ a7 = b7 ∧ a8 = b8 ∧ a9 = b9 ∧ a10 = b10) (by rw [Ev.mk.injEq])
theorem ev_all (x y : Ev) : ((List.range 11).all fun j => intAt x.cells (0 + j) == intAt y.cells (0 + j)) = decide (x = y) := by
  rw [Bool.eq_iff_iff, decide_eq_true_eq]
  constructor
  · intro h
    have g : ∀ j, j < 11 → intAt x.cells j = intAt y.cells j := fun j hj => by
      have := List.all_eq_true.1 h j (List.mem_range.2 hj)
      simpa using this
    obtain ⟨a0, a1, a2, a3, a4, a5, a6, a7, a8, a9, a10⟩ := x
    obtain ⟨b0, b1, b2, b3, b4, b5, b6, b7, b8, b9, b10⟩ := y
    have g0 : a0 = b0 := g 0 (by decide)
    have g1 : a1 = b1 := g 1 (by decide)
    have g2 : (a2 : Int) = b2 := g 2 (by decide)
    have g3 : (a3 : Int) = b3 := g 3 (by decide)
    have g4 : a4 = b4 := g 4 (by decide)
    have g5 : a5 = b5 := g 5 (by decide)
    have g6 : a6 = b6 := g 6 (by decide)
    have g7 : a7 = b7 := g 7 (by decide)
    have g8 : a8 = b8 := g 8 (by decide)
    have g9 : (a9 : Int) = b9 := g 9 (by decide)
    have g10 : a10 = b10 := g 10 (by decide)
    have g2' : a2 = b2 := by omega
    have g3' : a3 = b3 := by omega
    have g9' : a9 = b9 := by omega
    subst g0 g1 g2' g3' g4 g5 g6 g7 g8 g9' g10
    rfl
  · rintro rfl
    simp
theorem evEq_run {P : Program} {t : TypeId} (ht : evTypeOk P t = true) (x y : Ev) (w : World) : (Op.equal t (.agg x.cells) (.agg y.cells)).run P w = .ok (decide (x = y)) w := by
  simp only [evTypeOk, Bool.and_eq_true, Bool.not_eq_true', beq_iff_eq] at ht
  obtain ⟨h1, _, h3, h4⟩ := ht
  unfold Op.equal
  rw [show Op.maxDepth = 9998 + 1 + 1 from rfl, run_equalIn_struct w 9999 t _ _ (isStruct_of h3) h1, eqFields_ints 9998 _ _ _ 0 w]
  · rw [Array.length_toList, h3, ev_all]
  · intro j hj
    rw [Array.length_toList, h3] at hj
    have := List.all_eq_true.1 h4 j (List.mem_range.2 hj)
    split at this
    · rename_i f hf
      obtain ⟨k, hk, hk'⟩ := ev_at_int x j hj
      rw [Nat.zero_add]
      exact ⟨f, k, _, _, hf, this, hk, hk' y⟩
    · cases this
theorem eqGuard_ev {P : Program} {t : TypeId} (ht : evTypeOk P t = true) (op : BinOp) (x y : Operand) (a b : Array Value) (w : World) : (eqGuard op t x y (.agg a) (.agg b)).run P w = .ok () w := by
  simp only [evTypeOk, Bool.and_eq_true, Bool.not_eq_true', beq_iff_eq] at ht
  obtain ⟨_, h2, _⟩ := ht
  unfold eqGuard
  cases op <;> simp <;> simp [h2]
section
variable {P : Program} {S : World → Prop} {σ : List (Nat × Value)} {o : Oper}
theorem Yl.neqEv {t u : TypeId} {p q : Operand} {x y : Ev} (hop : o.op = .binOp .neq t p q u) (hx : look σ p = some (.agg x.cells)) (hy : look σ q = some (.agg y.cells)) (ht : evTypeOk P t = true) : Yl P S σ o (.bool (!decide (x = y))) := fun a n D HF w hS => by
  unfold execOp
  have e : (binOp .neq t (.agg x.cells) (.agg y.cells)).run P w = .ok (.bool (!decide (x = y))) w := by
    show ((do Pure.pure (.bool (!(← Op.equal t (.agg x.cells) (.agg y.cells)))) : Sem Value)).run P w = _
    simp [evEq_run ht]
  simp only [hop, HF.eval hx, HF.eval hy, Sem.run_bind, eqGuard_ev ht, Result.andThen_ok, e, Sem.run_pure]
theorem Yl.eqlEv {t u : TypeId} {p q : Operand} {x y : Ev} (hop : o.op = .binOp .eql t p q u) (hx : look σ p = some (.agg x.cells)) (hy : look σ q = some (.agg y.cells)) (ht : evTypeOk P t = true) : Yl P S σ o (.bool (decide (x = y))) := fun a n D HF w hS => by
  unfold execOp
  have e : (binOp .eql t (.agg x.cells) (.agg y.cells)).run P w = .ok (.bool (decide (x = y))) w := by
    show ((do Pure.pure (.bool (← Op.equal t (.agg x.cells) (.agg y.cells))) : Sem Value)).run P w = _
    simp [evEq_run ht]
  simp only [hop, HF.eval hx, HF.eval hy, Sem.run_bind, eqGuard_ev ht, Result.andThen_ok, e, Sem.run_pure]
end
theorem ev_type_ok : evTypeOk Tryd.prog 37 = true := by kernel_rfl
end Go.Proofs.YtpekelggcmgnnaaDoor
