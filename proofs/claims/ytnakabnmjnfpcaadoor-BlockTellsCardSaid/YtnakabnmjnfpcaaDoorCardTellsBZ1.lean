/- Texts laid together: DoorE, Sep, Sep2, Sep3, Sep4, Sep5, Sep6, Sep7, Sep8, Sep9, Sep10, Sep11, Sep12, Sep17, SepU, Sep13, Sep14, Sep15, Sep16, VSize, EvEq, BlkM, DoorLB, Blk1W, CrcW, LenW. -/
import Derived.Test.YtnakabnmjnfpcaaDoorCardTellsBQDoor
import Derived.Test.YtnakabnmjnfpcaaDoorCardTellsBQCod4
import Derived.Test.YtnakabnmjnfpcaaDoorCardTellsBQRnd
import Derived.Deep.DeepAppendWide
import Derived.Deep.Upon
import Derived.MapKept
import Derived.IntWalk
import Derived.Maps.RangeRun
import Derived.Test.YtnakabnmjnfpcaaDoorCardTellsBQConv
import Derived.Lib.AppendZeros
import Derived.ChangeKeysEq
import Derived.Test.YtnakabnmjnfpcaaDoorCardTellsBQVarint
import Derived.Laws.StructEq
import Derived.Test.YtnakabnmjnfpcaaDoorCardTellsBQBlkS
import Derived.Test.YtnakabnmjnfpcaaDoorRows
namespace Go.Proofs.YtnakabnmjnfpcaaDoor
open Go.RowKit Go.ChangeShapes Go.WideShapes Go.ChangeAt
/-- A struct whose fields are numbers of such kinds, a cell each. -/
def intFields (P : Program) (t : TypeId) (ks : List Go.IntKind) : Bool := match P.underlying t with
  | some (.struct fs) => decide (fs.size = ks.length) && decide (P.cellsOf t = ks.length) && (List.range ks.length).all fun i => match fs[i]?, ks[i]? with
    | some f, some k => decide (f.offset = i) && decide (P.cellsOf f.type = 1) && (match P.underlying f.type with | some (TypeDesc.int k') => decide (k' = k) | _ => false)
    | _, _ => false
  | _ => false
section
variable {H : Type} {enc : TypeId × Value → H} {P : Program} {W : World} {b0 : Nat} {sp : Nat → Bool} {held : Bool}
theorem struct_ints {t : TypeId} {ks : List Go.IntKind} (hf : intFields P t ks = true) {fuel : Nat} {cs : List Value} {x : DataW H × List MemPlace} (h : DataW.trod enc P W b0 sp held fuel t cs = some x) :
    cs.length = ks.length ∧ ∀ (i : Nat) (k : Go.IntKind), ks[i]? = some k → ∃ z : Int, cs[i]? = some (Value.int k z) ∧ (Lit.int k z).wf = true := by
  unfold intFields at hf
  split at hf
  · rename_i fs hu
    simp only [Bool.and_eq_true, decide_eq_true_eq, List.all_eq_true, List.mem_range] at hf
    obtain ⟨⟨h1, h2⟩, h3⟩ := hf
    obtain ⟨xs, n, _, _, hl, hx, he⟩ := DataW.trod_struct hu h
    refine ⟨by omega, fun i k hk => ?_⟩
    have hi : i < ks.length := (List.getElem?_eq_some_iff.1 hk).1
    have h4 := h3 i hi
    rw [hk] at h4
    split at h4
    · rename_i f k' hfi hk'
      cases hk'
      simp only [Bool.and_eq_true, decide_eq_true_eq] at h4
      obtain ⟨⟨ho, hc⟩, hty⟩ := h4
      split at hty
      · rename_i k'' hu'
        simp only [decide_eq_true_eq] at hty
        subst hty
        have h5 := he i f hfi
        rw [ho, hc] at h5
        have hxi : i < xs.length := by omega
        rw [List.getElem?_eq_getElem hxi] at h5
        obtain ⟨z, hz, _, hw⟩ := DataW.trod_int hu' h5
        refine ⟨z, ?_, hw⟩
        have := congrArg (·[0]?) hz
        simpa [List.getElem?_take, List.getElem?_drop] using this
      · cases hty
    · cases h4
  · cases hf
theorem intFields_cells {t : TypeId} {ks : List Go.IntKind} (hf : intFields P t ks = true) : P.cellsOf t = ks.length := by
  unfold intFields at hf
  split at hf
  · simp only [Bool.and_eq_true, decide_eq_true_eq] at hf
    exact hf.1.2
  · cases hf
/-- A slice of such structs. -/
theorem slice_structs {t e : TypeId} {ks : List Go.IntKind} (ht : P.underlying t = some (.slice e)) (hf : intFields P e ks = true) (hk : 0 < ks.length) {fuel : Nat} {cs : List Value} {x : DataW H × List MemPlace}
    (h : DataW.trod enc P W 0 sp held fuel t cs = some x) :
    ∃ (A : Option Addr) (n c : Nat) (css : List (List Value)), cs = [.slice A n c] ∧ n ≤ c ∧ c ≤ maxLen ∧ css.length = n ∧
      (∀ l ∈ css, l.length = ks.length ∧ ∀ (i : Nat) (k : Go.IntKind), ks[i]? = some k → ∃ z : Int, l[i]? = some (Value.int k z) ∧ (Lit.int k z).wf = true) ∧ Rd W W.heap.size ks.length A n (css.flatMap id) := by
  have hsz := intFields_cells hf
  rcases DataW.trod_slice ht h with ⟨hc, _⟩ | ⟨a, len, cap, elems, rest, m, _, hc, _, _, hl, hm, hlen, hel, _⟩
  · exact ⟨none, 0, 0, [], hc, Nat.le_refl _, by unfold maxLen; omega, rfl, by simp, Rd.nil⟩
  · have hall : ∀ i, i < len → ∃ l : List Value, W.cells? 0 (a.add (i * ks.length)) ks.length = some l ∧ ∃ y, DataW.trod enc P W 0 sp held m e l = some y := by
      intro i hi
      have h1 := hel i hi
      rw [hsz, List.getElem?_eq_getElem (by omega : i < elems.length)] at h1
      obtain ⟨l, h2, h3⟩ := Option.bind_eq_some_iff.1 h1
      exact ⟨l, h2, _, h3⟩
    have key : ∀ k, k ≤ len → ∃ css : List (List Value), css.length = k ∧ (∀ i (hi : i < css.length), W.cells? 0 (a.add (i * ks.length)) ks.length = some css[i] ∧ ∃ y, DataW.trod enc P W 0 sp held m e css[i] = some y) := by
      intro k
      induction k with
      | zero => intro _; exact ⟨[], rfl, fun i hi => by simp at hi⟩
      | succ k ih =>
        intro hk
        obtain ⟨css, h1, h2⟩ := ih (by omega)
        obtain ⟨l, h3, h4⟩ := hall k (by omega)
        refine ⟨css ++ [l], by simp [h1], fun i hi => ?_⟩
        by_cases hik : i < css.length
        · rw [List.getElem_append_left hik]; exact h2 i hik
        · obtain rfl : i = css.length := by simp at hi; omega
          rw [List.getElem_append_right (Nat.le_refl _)]
          simp only [Nat.sub_self, List.getElem_cons_zero, h1]
          exact ⟨h3, h4⟩
    obtain ⟨css, h1, h2⟩ := key len (Nat.le_refl _)
    have hin : ∀ l ∈ css, l.length = ks.length ∧ ∀ (i : Nat) (k : Go.IntKind), ks[i]? = some k → ∃ z : Int, l[i]? = some (Value.int k z) ∧ (Lit.int k z).wf = true := by
      intro l hl'
      obtain ⟨i, hi, rfl⟩ := List.getElem_of_mem hl'
      obtain ⟨_, y, hy⟩ := h2 i hi
      exact struct_ints hf hy
    have hat : ∀ i (hi : i < css.length) j, j < ks.length → W.cell? (a.add (i * ks.length + j)) = css[i][j]? := by
      intro i hi j hj
      have := (World.cells?_some (h2 i hi).1).2.2 j hj
      rwa [add_twice] at this
    have hflat : ∀ (css : List (List Value)), (∀ l ∈ css, l.length = ks.length) → (css.flatMap id).length = css.length * ks.length := by
      intro css
      induction css with
      | nil => simp
      | cons l r ih => intro h; rw [List.flatMap_cons, List.length_append, ih (fun y hy => h y (by simp [hy])), List.length_cons, Nat.succ_mul]; have := h l (by simp); simp only [id]; omega
    have hget : ∀ (css : List (List Value)), (∀ l ∈ css, l.length = ks.length) → ∀ p u, (css.flatMap id)[p]? = some u → ∃ i j, ∃ hi : i < css.length, j < ks.length ∧ p = i * ks.length + j ∧ css[i][j]? = some u := by
      intro css
      induction css with
      | nil => intro _ p u h; simp at h
      | cons l r ih =>
        intro h p u hu
        have hll := h l (by simp)
        rw [List.flatMap_cons] at hu
        by_cases hp : p < ks.length
        · rw [List.getElem?_append_left (by simp only [id]; omega)] at hu
          exact ⟨0, p, by simp, hp, by omega, hu⟩
        · rw [List.getElem?_append_right (by simp only [id]; omega)] at hu
          simp only [id] at hu
          rw [hll] at hu
          obtain ⟨i, j, hi, hj, hpj, hu'⟩ := ih (fun y hy => h y (by simp [hy])) _ u hu
          exact ⟨i + 1, j, by simp; omega, hj, by rw [Nat.succ_mul]; omega, by simpa using hu'⟩
    have hll : ∀ l ∈ css, l.length = ks.length := fun l hl' => (hin l hl').1
    refine ⟨some a, len, cap, css, hc, hl, hm, h1, hin, ⟨by rw [hflat css hll, h1], fun hn => ⟨a, rfl, ?_, ?_⟩⟩⟩
    · have h0 : 0 < css.length := by omega
      have h3 := hat 0 h0 0 hk
      have h4 := hll _ (List.getElem_mem h0)
      rw [List.getElem?_eq_getElem (by omega)] at h3
      have := World.block_lt_of_cell? W _ h3
      simpa [Addr.add] using this
    · intro p u hu
      obtain ⟨i, j, hi, hj, rfl, hu'⟩ := hget css hll p u hu
      rw [hat i hi j hj, hu']
end
theorem u64_wf {a : Int} (h : (Lit.int .u64 a).wf = true) : 0 ≤ a ∧ a ≤ 18446744073709551615 := by
  simpa [Lit.wf, IntKind.min, IntKind.max, IntKind.signed, IntKind.bits] using h
theorem list_eq {α : Type} {l m : List α} (h1 : l.length = m.length) (h : ∀ i, i < m.length → l[i]? = m[i]?) : l = m := by
  refine List.ext_getElem? fun i => ?_
  by_cases hi : i < m.length
  · exact h i hi
  · rw [List.getElem?_eq_none (by omega), List.getElem?_eq_none (by omega)]
section
variable {H : Type} {enc : TypeId × Value → H} {W : World} {b0 : Nat} {v : Value} {d : DataW H} {p : List MemPlace}
end
section
variable {H : Type} {enc : TypeId × Value → H} {P : Program} {w : World} {base : Nat} {spare : Nat → Bool} {held : Bool}
end
section
variable {H : Type} {enc : TypeId × Value → H} {W : World} {b0 : Nat} {v : Value} {d : DataW H} {p : List MemPlace}
end
def evKinds : List Go.IntKind := [.i64, .i64, .u8, .u8, .i64, .i64, .i64, .i64, .i64, .u64, .i64]
theorem exists_ev {cs : List Value} (hl : cs.length = evKinds.length) (h : ∀ (i : Nat) (k : Go.IntKind), evKinds[i]? = some k → ∃ z : Int, cs[i]? = some (Value.int k z) ∧ (Lit.int k z).wf = true) : ∃ x : Ev, evL x = cs ∧ x.Ok := by
  obtain ⟨z0, h0, w0⟩ := h 0 .i64 rfl
  have w0 := i64_wf w0
  obtain ⟨z1, h1, w1⟩ := h 1 .i64 rfl
  have w1 := i64_wf w1
  obtain ⟨z2, h2, w2⟩ := h 2 .u8 rfl
  have w2 := u8_wf w2
  obtain ⟨z3, h3, w3⟩ := h 3 .u8 rfl
  have w3 := u8_wf w3
  obtain ⟨z4, h4, w4⟩ := h 4 .i64 rfl
  have w4 := i64_wf w4
  obtain ⟨z5, h5, w5⟩ := h 5 .i64 rfl
  have w5 := i64_wf w5
  obtain ⟨z6, h6, w6⟩ := h 6 .i64 rfl
  have w6 := i64_wf w6
  obtain ⟨z7, h7, w7⟩ := h 7 .i64 rfl
  have w7 := i64_wf w7
  obtain ⟨z8, h8, w8⟩ := h 8 .i64 rfl
  have w8 := i64_wf w8
  obtain ⟨z9, h9, w9⟩ := h 9 .u64 rfl
  have w9 := u64_wf w9
  obtain ⟨z10, h10, w10⟩ := h 10 .i64 rfl
  have w10 := i64_wf w10
  refine ⟨⟨z0, z1, z2.toNat, z3.toNat, z4, z5, z6, z7, z8, z9.toNat, z10⟩, ?_, ⟨w0, w1, (by show z2.toNat < _; omega), (by show z3.toNat < _; omega), w4, w5, w6, w7, w8, (by show z9.toNat < _; omega), w10⟩⟩
  refine list_eq (by rw [hl]; rfl) fun i hi => ?_
  have hi' : i < 11 := by rw [hl] at hi; exact hi
  have hc : i = 0 ∨ i = 1 ∨ i = 2 ∨ i = 3 ∨ i = 4 ∨ i = 5 ∨ i = 6 ∨ i = 7 ∨ i = 8 ∨ i = 9 ∨ i = 10 := by omega
  rcases hc with rfl | rfl | rfl | rfl | rfl | rfl | rfl | rfl | rfl | rfl | rfl
  · rw [h0]; rfl
  · rw [h1]; rfl
  · rw [h2]; show some (Value.int .u8 ((z2.toNat : Nat) : Int)) = _; rw [Int.toNat_of_nonneg w2.1]
  · rw [h3]; show some (Value.int .u8 ((z3.toNat : Nat) : Int)) = _; rw [Int.toNat_of_nonneg w3.1]
  · rw [h4]; rfl
  · rw [h5]; rfl
  · rw [h6]; rfl
  · rw [h7]; rfl
  · rw [h8]; rfl
  · rw [h9]; show some (Value.int .u64 ((z9.toNat : Nat) : Int)) = _; rw [Int.toNat_of_nonneg w9.1]
  · rw [h10]; rfl
theorem ev_fields : intFields Tryd.prog 46 evKinds = true := by kernel_rfl
theorem exists_evs : ∀ (css : List (List Value)), (∀ l ∈ css, l.length = evKinds.length ∧ ∀ (i : Nat) (k : Go.IntKind), evKinds[i]? = some k → ∃ z : Int, l[i]? = some (Value.int k z) ∧ (Lit.int k z).wf = true) → ∃ l : List Ev, l.flatMap evL = css.flatMap id ∧ ∀ x ∈ l, x.Ok
  | [], _ => ⟨[], rfl, by simp⟩
  | c :: r, h => by
    obtain ⟨l, h1, h2⟩ := exists_evs r (fun y hy => h y (by simp [hy]))
    obtain ⟨x, h3, h4⟩ := exists_ev (h c (by simp)).1 (h c (by simp)).2
    refine ⟨x :: l, by rw [List.flatMap_cons, List.flatMap_cons, h1, h3]; rfl, fun y hy => ?_⟩
    rcases List.mem_cons.1 hy with rfl | hy
    · exact h4
    · exact h2 y hy
section
variable {H : Type} {enc : TypeId × Value → H} {W : World} {b0 : Nat} {v : Value} {d : DataW H} {p : List MemPlace}
end
/-- Field i of a struct lies at off and is of such a type. -/
def fieldAt (P : Program) (t : TypeId) (i off : Nat) (u : TypeId) : Bool := match P.underlying t with
  | some (.struct fs) => match fs[i]? with
    | some f => decide (f.offset = off) && decide (f.type = u)
    | none => false
  | _ => false
section
variable {H : Type} {enc : TypeId × Value → H} {P : Program} {W : World} {b0 : Nat} {sp : Nat → Bool} {held : Bool}
theorem struct_field {t u : TypeId} {i off : Nat} (hf : fieldAt P t i off u = true) {fuel : Nat} {cs : List Value} {x : DataW H × List MemPlace} (h : DataW.trod enc P W b0 sp held fuel t cs = some x) :
    cs.length = P.cellsOf t ∧ ∃ n y, DataW.trod enc P W b0 sp held n u ((cs.drop off).take (P.cellsOf u)) = some y := by
  unfold fieldAt at hf
  split at hf
  · rename_i fs hu
    split at hf
    · rename_i f hfi
      simp only [Bool.and_eq_true, decide_eq_true_eq] at hf
      obtain ⟨xs, n, _, _, hl, hx, he⟩ := DataW.trod_struct hu h
      refine ⟨hl, n, ?_⟩
      have h5 := he i f hfi
      have hi : i < fs.size := (Array.getElem?_eq_some_iff.1 hfi).1
      rw [List.getElem?_eq_getElem (by omega), hf.1, hf.2] at h5
      exact ⟨_, h5⟩
    · cases hf
  · cases hf
end
section
variable {H : Type} {enc : TypeId × Value → H} {W : World} {b0 : Nat} {v : Value} {d : DataW H} {p : List MemPlace}
theorem und_events : Tryd.prog.underlying 25 = some (.slice 46) := by kernel_rfl
set_option maxRecDepth 100000 in
theorem trod_events {fuel : Nat} {cs : List Value} {x : DataW H × List MemPlace} (hf : DataW.trod enc Tryd.prog W 0 (fun _ => true) true fuel 25 cs = some x) :
    ∃ (A : Option Addr) (n c : Nat) (l : List Ev), cs = [.slice A n c] ∧ n ≤ c ∧ c ≤ maxLen ∧ (∀ x ∈ l, x.Ok) ∧ Rd W W.heap.size 11 A n (l.flatMap evL) := by
  obtain ⟨A, n, c, css, hcs, h1, h2, _, h3, h4⟩ := slice_structs und_events ev_fields (by decide) hf
  obtain ⟨l, h5, h6⟩ := exists_evs css h3
  exact ⟨A, n, c, l, hcs, h1, h2, h6, by rw [h5]; exact h4⟩
theorem one_of_take {cs : List Value} {off : Nat} {u : Value} (h : (cs.drop off).take 1 = [u]) : cs[off]? = some u := by
  have := congrArg (·[0]?) h
  simpa [List.getElem?_take, List.getElem?_drop] using this
theorem cells_evs : Tryd.prog.cellsOf 25 = 1 := by kernel_rfl
theorem cells_int : Tryd.prog.cellsOf 3 = 1 := by kernel_rfl
def isStructT (P : Program) (t : TypeId) : Bool := match P.underlying t with | some (.struct _) => true | _ => false
theorem of_isStructT {P : Program} {t : TypeId} (h : isStructT P t = true) : ∃ fs, P.underlying t = some (.struct fs) := by
  unfold isStructT at h
  split at h
  · rename_i fs hu; exact ⟨fs, hu⟩
  · cases h
end
end Go.Proofs.YtnakabnmjnfpcaaDoor

namespace Go.Proofs.YtnakabnmjnfpcaaDoor
open Go.RowKit
def look (σ : List (Nat × Value)) : Operand → Option Value
  | .tmp t => σ.lookup t
  | .const v => some v
  | .global g => some (.pointer (some ⟨g, 0, none⟩))
  | .func f => some (.func (.func f) #[] #[])
/-- What is known of a frame of n slots: its deferred calls, and what the slots of σ hold (an earlier entry hides a later one). -/
structure Fr (a : Act) (n : Nat) (D : List Deferred) (σ : List (Nat × Value)) : Prop where
  size : a.tmps.size = n
  defers : a.defers = D
  slot : ∀ t v, σ.lookup t = some v → a.tmps.getD t undef = v
section
variable {a : Act} {n : Nat} {D : List Deferred} {σ σ' : List (Nat × Value)}
theorem Fr.eval (h : Fr a n D σ) {x : Operand} {v : Value} (hx : look σ x = some v) : a.eval x = v := by
  cases x with
  | tmp t => exact h.slot t v hx
  | const u => injection hx
  | global g => injection hx
  | func f => injection hx
theorem Fr.put (h : Fr a n D σ) {d : Nat} (hd : d < n) (v : Value) : Fr (a.put (some d) v) n D ((d, v) :: σ) := by
  refine ⟨by simpa [Act.put] using h.size, h.defers, fun t u hu => ?_⟩
  have hs := h.size
  by_cases e : t = d
  · subst e
    simp only [List.lookup_cons, beq_self_eq_true, Option.some.injEq] at hu
    subst hu
    simp [Act.put, hs, hd]
  · have hb : (t == d) = false := by simpa using e
    simp only [List.lookup_cons, hb] at hu
    have h2 := h.slot t u hu
    simp only [Act.put, Array.getD_eq_getD_getElem?, Array.getElem?_setIfInBounds_ne (Ne.symm e)]
    simpa using h2
/-- A part of what is known: the slots named, with their values. -/
theorem Fr.sub (h : Fr a n D σ) (hs : σ'.map (fun p => σ.lookup p.1) = σ'.map (fun p => some p.2)) : Fr a n D σ' := by
  refine ⟨h.size, h.defers, fun t v hv => h.slot t v ?_⟩
  induction σ' with
  | nil => cases hv
  | cons p r ih =>
    simp only [List.map_cons, List.cons.injEq] at hs
    obtain ⟨k, u⟩ := p
    simp only [List.lookup_cons] at hv
    split at hv
    · rename_i hk
      rw [beq_iff_eq] at hk
      subst hk
      rw [hs.1, ← hv]
    · exact ih hs.2 hv
end
/-- Is the operation carried out? -/
def wantB (ops : Array Oper) (σ : List (Nat × Value)) (o : Oper) : Option Bool :=
  match o.guard with
  | none => some true
  | some (j, b) => match (ops[j]?).bind (·.dst) with
    | none => none
    | some t => match σ.lookup t with
      | some (.bool c) => some (c == b)
      | some (.tuple _) => some false
      | _ => none
theorem undef_tuple : undef = .tuple #[] := rfl
theorem wanted_of {a : Act} {n : Nat} {D : List Deferred} {σ : List (Nat × Value)} {ops : Array Oper} {o : Oper} {c : Bool} (h : Fr a n D σ) (hw : wantB ops σ o = some c) : Region.wanted o (yielded ops a.tmps) = c := by
  unfold wantB at hw
  unfold Region.wanted
  cases hg : o.guard with
  | none => rw [hg] at hw; simpa using hw
  | some jb =>
    obtain ⟨j, b⟩ := jb
    rw [hg] at hw
    simp only at hw ⊢
    cases ht : (ops[j]?).bind (·.dst) with
    | none => rw [ht] at hw; cases hw
    | some t =>
      rw [ht] at hw
      simp only at hw
      unfold yielded
      rw [ht]
      simp only [Option.bind_some]
      cases hl : σ.lookup t with
      | none => rw [hl] at hw; cases hw
      | some v =>
        rw [hl] at hw
        have hs := h.slot t v hl
        rw [Array.getD_eq_getD_getElem?] at hs
        cases hx : a.tmps[t]? with
        | none =>
          rw [hx] at hs
          simp only [Option.getD_none] at hs
          subst hs
          rw [undef_tuple] at hw
          simp only [Option.some.injEq] at hw
          subst hw
          rfl
        | some u =>
          rw [hx] at hs
          simp only [Option.getD_some] at hs
          subst hs
          cases u <;> simp only [Option.some.injEq, reduceCtorEq] at hw
          · subst hw; rfl
          · subst hw; rfl
def intBin (op : BinOp) (k : IntKind) (a b : Int) : Option Value :=
  match op with
  | .add => some (.int k (k.wrap (a + b)))
  | .sub => some (.int k (k.wrap (a - b)))
  | .mul => some (.int k (k.wrap (a * b)))
  | .quo => if b = 0 then none else some (.int k (k.wrap (a.tdiv b)))
  | .rem => if b = 0 then none else some (.int k (a.tmod b))
  | .and => some (.int k (k.wrap (BitVec.ofInt k.bits a &&& BitVec.ofInt k.bits b).toNat))
  | .or => some (.int k (k.wrap (BitVec.ofInt k.bits a ||| BitVec.ofInt k.bits b).toNat))
  | .xor => some (.int k (k.wrap (BitVec.ofInt k.bits a ^^^ BitVec.ofInt k.bits b).toNat))
  | .eql => some (.bool (a == b))
  | .neq => some (.bool (a != b))
  | .lss => some (.bool (a < b))
  | .leq => some (.bool (a ≤ b))
  | .gtr => some (.bool (a > b))
  | .geq => some (.bool (a ≥ b))
  | _ => none
def binVal (op : BinOp) : Value → Value → Option Value
  | .int k a, .int k' b => match op with
    | .shl => if b < 0 then none else some (.int k (k.wrap (a * 2 ^ (min b.toNat k.bits))))
    | .shr => if b < 0 then none else some (.int k (a.fdiv (2 ^ (min b.toNat k.bits))))
    | _ => if k = k' then intBin op k a b else none
  | .string a, .string b => match op with
    | .eql => some (.bool (a.toList == b.toList))
    | .neq => some (.bool !(a.toList == b.toList))
    | _ => none
  | _, _ => none
theorem binVal_run {P : Program} {op : BinOp} {x y v : Value} (h : binVal op x y = some v) (t : TypeId) (w : World) : (binOp op t x y).run P w = .ok v w := by
  unfold binVal at h
  split at h
  · split at h
    · split at h
      · cases h
      · rename_i hb; injection h with h; subst h; simp [binOp, Op.shift, hb]
    · split at h
      · cases h
      · rename_i hb; injection h with h; subst h; simp [binOp, Op.shift, hb]
    · split at h
      · rename_i hk
        subst hk
        unfold intBin at h
        split at h <;> first
          | (injection h with h; subst h; simp [binOp, Op.intArith, Op.intBits, Op.intCmp]; done)
          | (split at h
             · cases h
             · rename_i hb; injection h with h; subst h; simp [binOp, Op.intDiv, hb])
          | cases h
      · cases h
  · split at h
    · injection h with h; subst h; simp [binOp, Op.stringOp]
    · injection h with h; subst h; simp [binOp, Op.stringOp]
    · cases h
  · cases h
def notAgg : Value → Bool
  | .agg _ => false
  | .nilIface => false
  | _ => true
theorem eqGuard_run {P : Program} (op : BinOp) (t : TypeId) (x y : Operand) {a b : Value} (ha : notAgg a = true) (w : World) : (eqGuard op t x y a b).run P w = .ok () w := by
  unfold eqGuard
  cases a <;> first | exact absurd ha (by decide) | (split <;> simp; done) | exact absurd ha (by simp [notAgg])
def fieldOff (P : Program) (s f : Nat) : Option Nat :=
  match P.underlying s with
  | some (.struct fs) => match fs[f]? with
    | some fl => match P.info? fl.type with
      | some i => if i.size = 0 then none else some fl.offset
      | none => none
    | none => none
  | _ => none
theorem fieldOff_run {P : Program} {s f off : Nat} (h : fieldOff P s f = some off) (a : Addr) (w : World) : (Instr.fieldAt s (.pointer (some a)) f).run P w = .ok (.pointer (some (a.add off))) w := by
  unfold fieldOff at h
  split at h
  · rename_i fs hu
    split at h
    · rename_i fl hf
      split at h
      · rename_i i hi
        split at h
        · cases h
        · rename_i hz
          injection h with h; subst h
          simp [Instr.fieldAt, run_underlying hu, hf, Instr.sureAddr, fieldPlace, sizeOf, typeInfo, hi, hz]
      · cases h
    · cases h
  · cases h
/-- The value of an operation that only computes. -/
def pureVal (P : Program) (σ : List (Nat × Value)) : Op → Option Value
  | .move x => look σ x
  | .assign x => look σ x
  | .pick c a b => match look σ c with
    | some (.bool true) => look σ a
    | some (.bool false) => look σ b
    | _ => none
  | .extract t i => match look σ t with
    | some (.tuple vs) => vs[i]?
    | _ => none
  | .unOp .not _ x => match look σ x with
    | some (.bool b) => some (.bool !b)
    | _ => none
  | .binOp op _ x y _ => match look σ x, look σ y with
    | some a, some b => if notAgg a then binVal op a b else none
    | _, _ => none
  | .convert src dst x => match P.underlying src, P.underlying dst, look σ x with
    | some _, some (.int k), some (.int _ m) => some (.int k (k.wrap m))
    | _, _, _ => none
  | .fieldAddr s x f => match look σ x, fieldOff P s f with
    | some (.pointer (some a)), some off => some (.pointer (some (a.add off)))
    | _, _ => none
  | _ => none
theorem pureVal_run {P : Program} {a : Act} {n : Nat} {D : List Deferred} {σ : List (Nat × Value)} (h : Fr a n D σ) {o : Oper} {v : Value} (hv : pureVal P σ o.op = some v) (w : World) : (execOp a.eval o).run P w = .ok (.value v) w := by
  unfold execOp
  unfold pureVal at hv
  split at hv
  · rename_i x hop; simp only [hop, h.eval hv]; rfl
  · rename_i x hop; simp only [hop, h.eval hv]; rfl
  · rename_i c x y hop
    split at hv
    · rename_i hc; simp only [hop, h.eval hc, h.eval hv]; rfl
    · rename_i hc; simp only [hop, h.eval hc, h.eval hv]; rfl
    · cases hv
  · rename_i t i hop
    split at hv
    · rename_i vs ht; simp only [hop, h.eval ht, Instr.extract, hv]; rfl
    · cases hv
  · rename_i t x hop
    split at hv
    · rename_i b hx; injection hv with hv; subst hv; simp only [hop, h.eval hx, Op.unary]; rfl
    · cases hv
  · rename_i op t x y u hop
    split at hv
    · rename_i p q hx hy
      split at hv
      · rename_i hn
        simp [hop, h.eval hx, h.eval hy, eqGuard_run op t x y hn, binVal_run hv t]
      · cases hv
    · cases hv
  · rename_i src dst x hop
    split at hv
    · rename_i ds k k' m hs hu hx
      injection hv with hv; subst hv
      simp [hop, h.eval hx, convert, run_underlying hs, run_underlying hu, Conv.intToInt]
    · cases hv
  · rename_i s x f hop
    split at hv
    · rename_i ad off hx hf
      injection hv with hv; subst hv
      simp [hop, h.eval hx, fieldOff_run hf]
    · cases hv
  · cases hv
end Go.Proofs.YtnakabnmjnfpcaaDoor

namespace Go.Proofs.YtnakabnmjnfpcaaDoor
open Go.RowKit
abbrev vI (x : Int) : Value := .int .i64 x
abbrev vB (x : Int) : Value := .int .u8 x
abbrev vQ (x : Int) : Value := .int .u64 x
abbrev vW (x : Int) : Value := .int .u32 x
abbrev vP (g o : Nat) : Value := .pointer (some ⟨g, o, none⟩)
abbrev vS (g n c : Nat) : Value := .slice (some ⟨g, 0, none⟩) n c
/-- A block known whole, or a row of the call's own. -/
inductive Fact
  | blk (g : Nat) (cs : Array Value) (t : TypeId)
  | row (v : Value) (n : Nat) (xs : List Value) (e : TypeId) (size : Nat)
  | obj (g : Nat) (o : Obj)
def Fact.block : Fact → Option Nat
  | .obj g _ => some g
  | .blk g _ _ => some g
  | .row v _ _ _ _ => v.ownBlock
def Fact.holds (base : Nat) (w : World) : Fact → Prop
  | .obj g o => base ≤ g ∧ w.heap[g]? = some o
  | .blk g cs t => base ≤ g ∧ w.heap[g]? = some (.cells cs t (0, 0))
  | .row v n xs e size => w.ownsRow base e size v n xs
def Fact.apart (f g : Fact) : Prop := ∀ x, f.block = some x → g.block ≠ some x
/-- Since W nothing that lay has turned; the facts fs hold, on separate blocks. -/
structure Mem (W w : World) (fs : List Fact) : Prop where
  below : Below W.heap.size W w
  holds : ∀ f ∈ fs, f.holds W.heap.size w
  apart : fs.Pairwise Fact.apart
theorem Fact.apart.symm {f g : Fact} (h : f.apart g) : g.apart f := fun x hx hf => h x hf hx
theorem own_block {w : World} {base : Nat} {e : TypeId} {size : Nat} {v : Value} {n : Nat} {xs : List Value} (h : w.ownsRow base e size v n xs) {g : Nat} (hg : v.ownBlock = some g) : base ≤ g ∧ g < w.heap.size := by
  rcases h.2 with ⟨rfl, _⟩ | ⟨g', cap, cur, rfl, hb, hg', _⟩
  · cases hg
  · cases hg; exact ⟨hb, blk_lt hg'⟩
theorem Fact.holds.lt {base : Nat} {w : World} {f : Fact} (h : f.holds base w) {g : Nat} (hg : f.block = some g) : base ≤ g ∧ g < w.heap.size := by
  cases f with
  | blk g' cs t => injection hg with hg; subst hg; exact ⟨h.1, blk_lt h.2⟩
  | row v n xs e size => exact own_block h hg
  | obj g' o => injection hg with hg; subst hg; exact ⟨h.1, blk_lt h.2⟩
/-- A fact holds as long as its block lies as it lay. -/
theorem Fact.holds.keep {base : Nat} {w w' : World} {f : Fact} (h : f.holds base w) (hk : ∀ g, f.block = some g → w'.heap[g]? = w.heap[g]?) : f.holds base w' := by
  cases f with
  | obj g o => exact ⟨h.1, (hk g rfl).trans h.2⟩
  | blk g cs t => exact ⟨h.1, (hk g rfl).trans h.2⟩
  | row v n xs e size =>
    refine ⟨h.1, ?_⟩
    rcases h.2 with h1 | ⟨g, cap, cur, rfl, hb, hg, r⟩
    · exact .inl h1
    · exact .inr ⟨g, cap, cur, rfl, hb, (hk g rfl).trans hg, r⟩
section
variable {W w w' : World} {fs fs' : List Fact}
theorem Mem.start (W : World) : Mem W W [] := ⟨Below.refl _ _, by simp, .nil⟩
theorem Mem.size (h : Mem W w fs) : W.heap.size ≤ w.heap.size := h.below.size
theorem Mem.call (h : Mem W w fs) (hb : Below w.heap.size w w') : Mem W w' fs :=
  ⟨h.below.trans (hb.mono h.size), fun f hf => (h.holds f hf).keep fun g hg => hb.block g ((h.holds f hf).lt hg).2, h.apart⟩
theorem Mem.drew (h : Mem W w fs) : Mem W w.drew fs := h.call (Below.refl _ _).drew
theorem Mem.cons (h : Mem W w fs) {f : Fact} (hf : f.holds W.heap.size w) (hn : ∀ g, f.block = some g → ∀ k ∈ fs, k.block ≠ some g) : Mem W w (f :: fs) :=
  ⟨h.below, fun k hk => by
    rcases List.mem_cons.1 hk with rfl | hk
    · exact hf
    · exact h.holds k hk, List.pairwise_cons.2 ⟨fun k hk g hg => hn g hg k hk, h.apart⟩⟩
theorem Mem.nil (h : Mem W w fs) (e : TypeId) (size : Nat) : Mem W w (.row (.slice none 0 0) 0 [] e size :: fs) :=
  h.cons (World.ownsRow_nil _ _ _ _) (fun g hg => by cases hg)
/-- A callee hands over a row of its own. -/
theorem Mem.callRow (h : Mem W w fs) (hb : Below w.heap.size w w') {e : TypeId} {size n : Nat} {v : Value} {xs : List Value} (hr : w'.ownsRow w.heap.size e size v n xs) : Mem W w' (.row v n xs e size :: fs) :=
  (h.call hb).cons (own_base hr h.size) (fun g hg k hk hkg => by
    have h1 := (own_block hr hg).1
    have h2 := ((h.holds k hk).lt hkg).2
    omega)
theorem Mem.alloc (h : Mem W w fs) (cs : Array Value) (t : TypeId) : Mem W (w.alloc (.cells cs t)) (.blk w.heap.size cs t :: fs) :=
  (h.call ((Below.refl _ _).alloc (Nat.le_refl _) _)).cons ⟨h.size, World.alloc_heap_new w _⟩ (fun g hg k hk hkg => by
    injection hg with hg
    have h2 := ((h.holds k hk).lt hkg).2
    omega)
theorem Mem.allocObj (h : Mem W w fs) (o : Obj) : Mem W (w.alloc o) (.obj w.heap.size o :: fs) :=
  (h.call ((Below.refl _ _).alloc (Nat.le_refl _) _)).cons ⟨h.size, World.alloc_heap_new w _⟩ (fun g hg k hk hkg => by
    injection hg with hg
    have h2 := ((h.holds k hk).lt hkg).2
    omega)
def picks (fs : List Fact) (is : List Nat) : List Fact := is.filterMap (fs[·]?)
theorem pairwise_picks (h : fs.Pairwise Fact.apart) : ∀ {is : List Nat}, is.Nodup → (picks fs is).Pairwise Fact.apart
  | [], _ => .nil
  | i :: is, hn => by
    rw [List.nodup_cons] at hn
    unfold picks
    rw [List.filterMap_cons]
    cases hi : fs[i]? with
    | none => exact pairwise_picks h hn.2
    | some f =>
      refine List.pairwise_cons.2 ⟨fun k hk => ?_, pairwise_picks h hn.2⟩
      obtain ⟨j, hj, hjk⟩ := List.mem_filterMap.1 hk
      have hij : i ≠ j := fun e => hn.1 (e ▸ hj)
      obtain ⟨hil, hif⟩ := List.getElem?_eq_some_iff.1 hi
      obtain ⟨hjl, hjf⟩ := List.getElem?_eq_some_iff.1 hjk
      rcases Nat.lt_or_gt_of_ne hij with h1 | h1
      · have := List.pairwise_iff_getElem.1 h i j hil hjl h1
        rwa [hif, hjf] at this
      · have := List.pairwise_iff_getElem.1 h j i hjl hil h1
        rw [hif, hjf] at this
        exact this.symm
theorem Mem.picks (h : Mem W w fs) (is : List Nat) (hn : is.Nodup) (he : picks fs is = fs') : Mem W w fs' := by
  subst he
  refine ⟨h.below, fun f hf => ?_, pairwise_picks h.apart hn⟩
  obtain ⟨j, _, hj⟩ := List.mem_filterMap.1 hf
  exact h.holds f (List.mem_of_getElem? hj)
/-- One fact gives way to another on the same block or a new one; all other blocks lie as they lay. -/
theorem Mem.turn (h : Mem W w fs) {i : Nat} {f f' : Fact} (hi : fs[i]? = some f) (hb : Below W.heap.size W w') (hk : ∀ g, g < w.heap.size → f.block ≠ some g → w'.heap[g]? = w.heap[g]?)
    (hf : f'.holds W.heap.size w') (hn : ∀ g, f'.block = some g → f.block = some g ∨ w.heap.size ≤ g) : Mem W w' (fs.set i f') := by
  obtain ⟨hil, hif⟩ := List.getElem?_eq_some_iff.1 hi
  have hother : ∀ j (hj : j < fs.length), j ≠ i → Fact.apart fs[j] f ∧ Fact.apart f fs[j] := fun j hj hji => by
    rcases Nat.lt_or_gt_of_ne hji with h1 | h1
    · have := List.pairwise_iff_getElem.1 h.apart j i hj hil h1
      rw [hif] at this
      exact ⟨this, this.symm⟩
    · have := List.pairwise_iff_getElem.1 h.apart i j hil hj h1
      rw [hif] at this
      exact ⟨this.symm, this⟩
  have hnew : ∀ j (hj : j < fs.length), j ≠ i → Fact.apart f' fs[j] := fun j hj hji g hg hg' => by
    rcases hn g hg with h1 | h1
    · exact (hother j hj hji).2 g h1 hg'
    · have := ((h.holds _ (List.getElem_mem hj)).lt hg').2
      omega
  refine ⟨hb, fun k hkm => ?_, ?_⟩
  · obtain ⟨j, hj, hjk⟩ := List.getElem_of_mem hkm
    rw [List.getElem_set] at hjk
    rw [List.length_set] at hj
    split at hjk
    · subst hjk; exact hf
    · rename_i hne
      subst hjk
      have hh := h.holds _ (List.getElem_mem hj)
      exact hh.keep fun g hg => hk g (hh.lt hg).2 (fun e => (hother j hj (Ne.symm hne)).1 g hg e)
  · rw [List.pairwise_iff_getElem]
    intro p q hp hq hpq
    rw [List.length_set] at hp hq
    rw [List.getElem_set, List.getElem_set]
    split
    · rename_i e
      subst e
      rw [if_neg (by omega)]
      exact hnew q hq (by omega)
    · split
      · rename_i e
        subst e
        exact (hnew p hp (by omega)).symm
      · exact List.pairwise_iff_getElem.1 h.apart p q hp hq hpq
/-- What a cell of a block known holds. -/
theorem Mem.blk (h : Mem W w fs) {i g : Nat} {cs : Array Value} {t : TypeId} (hi : fs[i]? = some (.blk g cs t)) : w.heap[g]? = some (.cells cs t (0, 0)) := (h.holds _ (List.mem_of_getElem? hi)).2
theorem Mem.cell (h : Mem W w fs) {i g o : Nat} {cs : Array Value} {t : TypeId} {v : Value} (hi : fs[i]? = some (.blk g cs t)) (hc : cs[o]? = some v) : w.cell? ⟨g, o, none⟩ = some v := by
  simp [World.cell?, h.blk hi, hc]
theorem Mem.own (h : Mem W w fs) {i : Nat} {v : Value} {n : Nat} {xs : List Value} {e : TypeId} {size : Nat} (hi : fs[i]? = some (.row v n xs e size)) : w.ownsRow W.heap.size e size v n xs := h.holds _ (List.mem_of_getElem? hi)
theorem Mem.rd (h : Mem W w fs) {i : Nat} {A : Option Addr} {n c : Nat} {xs : List Value} {e : TypeId} {size : Nat} (hi : fs[i]? = some (.row (.slice A n c) n xs e size)) : Rd w w.heap.size size A n xs := Rd.of_own (h.own hi) rfl
theorem Mem.old (h : Mem W w fs) {size : Nat} {A : Option Addr} {n : Nat} {xs : List Value} (hr : Rd W W.heap.size size A n xs) : Rd w w.heap.size size A n xs := (hr.below h.below).more h.size
/-- A block read as a slice. -/
theorem Rd.of_blk {w : World} {g : Nat} {cs : Array Value} {t : TypeId} (hb : w.heap[g]? = some (.cells cs t (0, 0))) {size n : Nat} (hn : cs.size = n * size) : Rd w w.heap.size size (some ⟨g, 0, none⟩) n cs.toList :=
  ⟨by simpa using hn, fun _ => ⟨_, rfl, blk_lt hb, fun j u hu => by
    rw [Addr.add_mid, Nat.zero_add]
    simp only [World.cell?, hb]
    simpa using hu⟩⟩
theorem Mem.rdBlk (h : Mem W w fs) {i g : Nat} {cs : Array Value} {t : TypeId} {size n : Nat} (hi : fs[i]? = some (.blk g cs t)) (hn : cs.size = n * size) : Rd w w.heap.size size (some ⟨g, 0, none⟩) n cs.toList := Rd.of_blk (h.blk hi) hn
/-- A block just built is a row of the call's own. -/
theorem Mem.blkRow (h : Mem W w fs) {i g : Nat} {cs : Array Value} {e : TypeId} {size n : Nat} (hi : fs[i]? = some (.blk g cs e)) (hn : cs.size = n * size) (hm : n ≤ 9223372036854775807) : Mem W w (fs.set i (.row (.slice (some ⟨g, 0, none⟩) n n) n cs.toList e size)) := by
  have hb := h.holds _ (List.mem_of_getElem? hi)
  refine h.turn hi h.below (fun _ _ _ => rfl) ⟨by simpa using hn, .inr ⟨g, n, cs, rfl, hb.1, hb.2, Nat.le_refl _, by unfold maxLen; exact hm, hn, ?_⟩⟩ (fun g' hg' => .inl hg')
  rw [← hn, ← Array.length_toList, List.take_length]
/-- A store of one cell into a block known. -/
theorem Mem.set (h : Mem W w fs) {i g o : Nat} {cs : Array Value} {t : TypeId} (hi : fs[i]? = some (.blk g cs t)) (v : Value) : Mem W (w.setCell ⟨g, o, none⟩ v) (fs.set i (.blk g (cs.setIfInBounds o v) t)) := by
  have hb := h.holds _ (List.mem_of_getElem? hi)
  refine h.turn hi (h.below.setCell (p := ⟨g, o, none⟩) hb.1 v) (fun k hk hne => ?_) ⟨hb.1, ?_⟩ (fun g' hg' => .inl hg')
  · exact Below.heap_setCell _ _ _ _ (fun e => hne (by rw [e]; rfl))
  · simp [World.setCell, Array.getElem?_modify, hb.2]
/-- A store of a whole block. -/
theorem Mem.setAll (h : Mem W w fs) {i g : Nat} {cs ds : Array Value} {t : TypeId} (hi : fs[i]? = some (.blk g cs t)) (hs : cs.size = ds.size) : Mem W (w.setCells g 0 ds.toList) (fs.set i (.blk g ds t)) := by
  have hb := h.holds _ (List.mem_of_getElem? hi)
  refine h.turn hi (below_setCells h.below hb.1 0 _) (fun k hk hne => ?_) ⟨hb.1, ?_⟩ (fun g' hg' => .inl hg')
  · exact heap_setCells_far _ _ _ _ _ (fun e => hne (by rw [e]; rfl))
  · have := heap_setCells_same hb.2 ds.toList (by simpa using hs)
    simpa using this
/-- An append onto a row of the call's own. -/
theorem Mem.append (h : Mem W w fs) {i n : Nat} {v v' : Value} {xs ys : List Value} {e : TypeId} {size n' : Nat} (hi : fs[i]? = some (.row v n xs e size)) (ho : w'.ownsRow W.heap.size e size v' n' ys) (hg : w.grownBy w' v.ownBlock)
    (hb : v'.ownBlock = v.ownBlock ∨ v'.ownBlock = some w.heap.size) : Mem W w' (fs.set i (.row v' n' ys e size)) := by
  have hv := h.own hi
  refine h.turn hi (h.below.grown hg h.size (fun g hgb => (own_block hv hgb).1)) (fun g hgl hne => hg.block g hgl (fun e => hne e.symm)) ho (fun g hgb => ?_)
  have hgb' : v'.ownBlock = some g := hgb
  rcases hb with h1 | h1
  · exact .inl (show v.ownBlock = some g by rw [← h1]; exact hgb')
  · rw [h1] at hgb'; injection hgb' with e; exact .inr (by omega)
end
end Go.Proofs.YtnakabnmjnfpcaaDoor

namespace Go.Proofs.YtnakabnmjnfpcaaDoor
open Go.RowKit
/-- From operation i on. -/
def wpFrom (P : Program) (ops : Array Oper) (Q : Exit → Act → World → Prop) (i : Nat) (a : Act) (w : World) : Prop := wpList P ops Q (ops.toList.drop i) a w
/-- o yields v in every world that meets S. -/
def Yl (P : Program) (S : World → Prop) (σ : List (Nat × Value)) (o : Oper) (v : Value) : Prop := ∀ (a : Act) (n : Nat) (D : List Deferred), Fr a n D σ → ∀ w, S w → (execOp a.eval o).run P w = .ok (.value v) w
section
variable {P : Program} {ops : Array Oper} {Q : Exit → Act → World → Prop} {a : Act} {w : World} {n i j d fuel : Nat} {D : List Deferred} {σ σ' : List (Nat × Value)} {o : Oper} {v : Value} {md : Region.Mode} {S : World → Prop} {K : Act → World → Prop} {listed : Array Bool}
theorem from_start {id : Nat} (h : wpFrom P ops Q 0 a w) : (Code.region id ops false).wp P Q a w := wp_region_list (by simpa [wpFrom] using h)
theorem from_done (hi : ops.size = i) (h : Q .normal a w) : wpFrom P ops Q i a w := by
  unfold wpFrom
  rw [List.drop_of_length_le (by simp [hi])]
  exact h
theorem from_op (HF : Fr a n D σ) (ho : ops[i]? = some o) (hw : wantB ops σ o = some true) (h : o.wp P a w (wpFrom P ops Q (i + 1)) Q) : wpFrom P ops Q i a w := by
  obtain ⟨hl, he⟩ := Array.getElem?_eq_some_iff.1 ho
  unfold wpFrom
  rw [List.drop_eq_getElem_cons (by simpa using hl), Array.getElem_toList, he]
  unfold wpList
  rw [if_pos (wanted_of HF hw)]
  exact .inl h
theorem from_skip (HF : Fr a n D σ) (ho : ops[i]? = some o) (hw : wantB ops σ o = some false) (hd : o.dst = some d) (hdn : d < n) (k : ∀ a', Fr a' n D ((d, undef) :: σ) → wpFrom P ops Q (i + 1) a' w) : wpFrom P ops Q i a w := by
  obtain ⟨hl, he⟩ := Array.getElem?_eq_some_iff.1 ho
  unfold wpFrom
  rw [List.drop_eq_getElem_cons (by simpa using hl), Array.getElem_toList, he]
  unfold wpList
  rw [if_neg (by rw [wanted_of HF hw]; simp), hd]
  exact k _ (HF.put hdn _)
theorem Yl.wp (hy : Yl P S σ o v) (HF : Fr a n D σ) (hS : S w) (hd : o.dst = some d) (hdn : d < n) (k : ∀ a', Fr a' n D ((d, v) :: σ) → K a' w) : o.wp P a w K Q := by
  unfold Oper.wp
  rw [hy a n D HF w hS, Oper.upon_value, hd]
  exact k _ (HF.put hdn _)
theorem from_yl (HF : Fr a n D σ) (hS : S w) (ho : ops[i]? = some o) (hw : wantB ops σ o = some true) (hd : o.dst = some d) (hdn : d < n) (hy : Yl P S σ o v) (k : ∀ a', Fr a' n D ((d, v) :: σ) → wpFrom P ops Q (i + 1) a' w) : wpFrom P ops Q i a w :=
  from_op HF ho hw (hy.wp HF hS hd hdn k)
theorem Yl.pure (h : pureVal P σ o.op = some v) : Yl P S σ o v := fun _ _ _ HF w _ => pureVal_run HF h w
def pureStep (P : Program) (ops : Array Oper) (n i : Nat) (σ : List (Nat × Value)) : Option (List (Nat × Value)) :=
  match ops[i]? with
  | none => none
  | some o => match wantB ops σ o, o.dst with
    | some true, some d => if d < n then match pureVal P σ o.op with
      | some v => some ((d, v) :: σ)
      | none => none else none
    | some false, some d => if d < n then some ((d, undef) :: σ) else none
    | _, _ => none
def pureSteps (P : Program) (ops : Array Oper) (n : Nat) : Nat → Nat → List (Nat × Value) → Option (List (Nat × Value))
  | 0, _, σ => some σ
  | m + 1, i, σ => match pureStep P ops n i σ with
    | none => none
    | some σ' => pureSteps P ops n m (i + 1) σ'
/-- m operations that only compute, at once. -/
theorem from_pures' : ∀ (m i : Nat) {j : Nat} {a : Act} {σ : List (Nat × Value)}, Fr a n D σ → pureSteps P ops n m i σ = some σ' → i + m = j → (∀ a', Fr a' n D σ' → wpFrom P ops Q j a' w) → wpFrom P ops Q i a w
  | 0, i, j, a, σ, HF, h, hj, k => by
    injection h with h
    subst h
    have e : i = j := hj
    subst e
    exact k a HF
  | m + 1, i, j, a, σ, HF, h, hj, k => by
    unfold pureSteps at h
    split at h
    · cases h
    · rename_i σ1 h1
      have rest := fun a' HF' => from_pures' m (i + 1) (a := a') (σ := σ1) HF' h (by omega) k
      unfold pureStep at h1
      split at h1
      · cases h1
      · rename_i o ho
        split at h1
        · rename_i d hw hd
          split at h1
          · rename_i hdn
            split at h1
            · rename_i v hv
              injection h1 with h1
              subst h1
              exact from_yl (S := fun _ => True) HF trivial ho hw hd hdn (Yl.pure hv) rest
            · cases h1
          · cases h1
        · rename_i d hw hd
          split at h1
          · rename_i hdn
            injection h1 with h1
            subst h1
            exact from_skip HF ho hw hd hdn rest
          · cases h1
        · cases h1
theorem Fr.to (h : Fr a n D σ) (σ' : List (Nat × Value)) (hs : σ'.map (fun p => σ.lookup p.1) = σ'.map (fun p => some p.2) := by kernel_rfl) : Fr a n D σ' := h.sub hs
theorem Fr.on {b c : Bool} (h : Fr a n D σ) (t : Nat) (hb : b = c) (hl : σ.lookup t = some (.bool b) := by rfl) : Fr a n D ((t, .bool c) :: σ) := by
  subst hb
  refine ⟨h.size, h.defers, fun s x hx => ?_⟩
  rw [List.lookup_cons] at hx
  split at hx
  · rename_i hs
    rw [beq_iff_eq] at hs
    subst hs
    injection hx with hx
    subst hx
    exact h.slot _ _ hl
  · exact h.slot _ _ hx
theorem fp (HF : Fr a n D σ) (m i : Nat) (new : List (Nat × Value)) (k : ∀ a', Fr a' n D (new ++ σ) → wpFrom P ops Q (i + m) a' w) (h : pureSteps P ops n m i σ = some (new ++ σ) := by kernel_rfl) : wpFrom P ops Q i a w := from_pures' m i HF h rfl k
theorem fy {W : World} {fs : List Fact} (HF : Fr a n D σ) (HM : Mem W w fs) (i : Nat) (ho : ops[i]? = some o) (hw : wantB ops σ o = some true) (hd : o.dst = some d) (hy : Yl P (fun wS => Mem W wS fs) σ o v) (k : ∀ a', Fr a' n D ((d, v) :: σ) → wpFrom P ops Q (i + 1) a' w) (hdn : d < n := by decide) : wpFrom P ops Q i a w :=
  from_yl (S := fun wS => Mem W wS fs) HF HM ho hw hd hdn hy k
def pastB (ex : List Nat) (listed : Array Bool) : Bool := ex.any fun j => listed.getD j false
def wpAnyN (P : Program) (md : Region.Mode) (ops : Array Oper) (Q : Exit → Act → World → Prop) (S : World → Prop) (ex : List Nat) : Nat → Array Bool → Act → World → Prop
  | 0, listed, a, w => Region.ready md ops listed = [] ∧ Q .normal a w
  | fuel + 1, listed, a, w =>
    (Region.ready md ops listed = [] → Q .normal a w) ∧
    ∀ i ∈ Region.ready md ops listed, wpOp P ops Q i (fun a' w' => (pastB ex (listed.setIfInBounds i true) = false → S w') ∧ wpAnyN P md ops Q S ex fuel (listed.setIfInBounds i true) a' w') a w
theorem wpAny_of_anyN {ex : List Nat} : ∀ (fuel : Nat) (listed : Array Bool) (a : Act) (w : World), wpAnyN P md ops Q S ex fuel listed a w → wpAny P md ops Q fuel listed a w
  | 0, _, _, _, h => h
  | fuel + 1, _, _, _, h => ⟨h.1, fun i hi => wpOp_mono (fun a' w' h' => wpAny_of_anyN fuel _ a' w' h'.2) (h.2 i hi)⟩
/-- Those of 'ex' wait for i. -/
def exOk (md : Region.Mode) (ops : Array Oper) (ex : List Nat) (i : Nat) : Bool := ex.all fun j => match ops[j]? with
  | some o => o.after.any fun e => Region.binds md e && e.on == i
  | none => true
theorem pastB_set {ex : List Nat} {l : Array Bool} {i : Nat} (h : ex.contains i = false) : pastB ex (l.setIfInBounds i true) = pastB ex l := by
  unfold pastB
  rw [Bool.eq_iff_iff, List.any_eq_true, List.any_eq_true]
  have hne : ∀ j ∈ ex, i ≠ j := fun j hj e => by
    subst e
    have : ex.contains i = true := by simpa using hj
    rw [h] at this; cases this
  constructor
  · rintro ⟨j, hj, hl⟩; exact ⟨j, hj, by rwa [getD_set_ne false (hne j hj)] at hl⟩
  · rintro ⟨j, hj, hl⟩; exact ⟨j, hj, by rwa [getD_set_ne false (hne j hj)]⟩
theorem pastB_mono {ex : List Nat} {l : Array Bool} {i : Nat} (h : pastB ex (l.setIfInBounds i true) = false) : pastB ex l = false := by
  cases hp : pastB ex l with
  | false => rfl
  | true =>
    unfold pastB at h hp
    obtain ⟨j, hj, hl⟩ := List.any_eq_true.1 hp
    rw [List.any_eq_false] at h
    exact absurd (getD_set_true (i := i) hl) (h j hj)
theorem anyN_first {ex : List Nat} {oi : Oper} {T : World → Prop} (hi : ops[i]? = some oi) (hsel : ∀ (j : Nat) (o : Oper) cs b, ops[j]? = some o → o.op ≠ .select cs b)
    (hQ : ∀ c (a : Act) w, Q (.panic c) (a.put oi.dst v) w → Q (.panic c) a w) (hiex : ex.contains i = false) :
    ∀ (fuel : Nat) (listed : Array Bool) (a : Act) (w : World), ((∀ w, T w) ∨ (T = S ∧ exOk md ops ex i = true ∧ pastB ex listed = false)) →
      (∀ j oj, ops[j]? = some oj → j ≠ i → listed.getD j true = false → (∀ e ∈ oj.after, Region.binds md e = true → e.on ≠ i) → oi.apart ops oj = true) →
      i ∈ Region.ready md ops listed → YieldsIf P ops T oi v a → (pastB ex listed = false → S w) →
      wpAnyN P md ops Q S ex fuel (listed.setIfInBounds i true) (a.put oi.dst v) w → wpAnyN P md ops Q S ex (fuel + 1) listed a w := by
  intro fuel
  induction fuel with
  | zero =>
    intro listed a w hx _ hr hy hS H
    have hT : T w := by rcases hx with h | ⟨h, _, hp⟩ <;> first | exact h w | (rw [h]; exact hS hp)
    refine ⟨fun h => (by rw [h] at hr; cases hr), fun j hj => ?_⟩
    by_cases hji : j = i
    · subst hji; exact hy.wpOp hi hT ⟨fun hp => hS (pastB_mono hp), H⟩
    · have := ready_mono hj hji
      rw [H.1] at this
      cases this
  | succ fuel ih =>
    intro listed a w hx hfree hr hy hS H
    have hT : T w := by rcases hx with h | ⟨h, _, hp⟩ <;> first | exact h w | (rw [h]; exact hS hp)
    refine ⟨fun h => (by rw [h] at hr; cases hr), fun j hj => ?_⟩
    by_cases hji : j = i
    · subst hji; exact hy.wpOp hi hT ⟨fun hp => hS (pastB_mono hp), H⟩
    · have h1 := H.2 j (ready_mono hj hji)
      obtain ⟨hjun, oj, hoj, hall⟩ := mem_ready.1 hj
      have hnot : ∀ e ∈ oj.after, Region.binds md e = true → e.on ≠ i := fun e he hb heq => by
        have h1 := hall e he hb
        have h0 := (mem_ready.1 hr).1
        rw [heq] at h1
        rcases Nat.lt_or_ge i listed.size with h' | h'
        · simp [h'] at h0 h1; rw [h0] at h1; cases h1
        · simp [Array.getElem?_eq_none h'] at h1
      have hx' : (∀ w, T w) ∨ (T = S ∧ exOk md ops ex i = true ∧ pastB ex (listed.setIfInBounds j true) = false) := by
        rcases hx with h | ⟨h, h2, h3⟩
        · exact .inl h
        · refine .inr ⟨h, h2, ?_⟩
          rw [pastB_set ?_]
          · exact h3
          · cases hc : ex.contains j with
            | false => rfl
            | true =>
              have hm : j ∈ ex := by simpa using hc
              have h2 := List.all_eq_true.1 h2 j hm
              rw [hoj] at h2
              obtain ⟨e, he, hb⟩ := Array.any_eq_true'.1 h2
              rw [Bool.and_eq_true, beq_iff_eq] at hb
              exact absurd hb.2 (hnot e he hb.1)
      have h2 := wpOp_putIf hoj (hfree j oj hoj hji hjun hnot) (fun cs b => hsel i oi cs b hi) (fun cs b => hsel j oj cs b hoj) hQ hy h1
      have hfree' : ∀ k ok, ops[k]? = some ok → k ≠ i → (listed.setIfInBounds j true).getD k true = false →
          (∀ e ∈ ok.after, Region.binds md e = true → e.on ≠ i) → oi.apart ops ok = true := fun k ok hk hki hun hno => by
        refine hfree k ok hk hki ?_ hno
        by_cases hjk : j = k
        · subst hjk; exact hjun
        · rw [getD_set_ne true hjk] at hun; exact hun
      refine wpOp_mono (fun a' w' h3 => ?_) h2
      have hS' : pastB ex (listed.setIfInBounds j true) = false → S w' := fun hp => h3.2.1 (by rw [Array.setIfInBounds_comm _ _ (Ne.symm hji), pastB_set hiex]; exact hp)
      refine ⟨hS', ih (listed.setIfInBounds j true) a' w' hx' hfree' (ready_mono hr (Ne.symm hji)) h3.1 hS' ?_⟩
      rw [Array.setIfInBounds_comm _ _ hji]
      exact h3.2.2
section
variable {ex : List Nat}
theorem any_start {id : Nat} (hm : P.follows .mixedOrders = true) (S : World → Prop) (ex : List Nat) (h : wpAnyN P .any ops Q S ex ops.size (Array.replicate ops.size false) a w.drew) : (Code.region id ops true).wp P Q a w :=
  wp_region_any hm (wpAny_of_anyN _ _ _ _ h)
/-- What reads may be taken first, as long as none of 'ex' has come up. -/
def readOk (md : Region.Mode) (ops : Array Oper) (ex : List Nat) (listed : Array Bool) (i : Nat) : Bool :=
  Region.noSelect ops && (Region.free md ops listed i && ((Region.ready md ops listed).contains i && (!ex.contains i && (exOk md ops ex i && !pastB ex listed))))
def pureOk (md : Region.Mode) (ops : Array Oper) (ex : List Nat) (listed : Array Bool) (i : Nat) : Bool :=
  Region.noSelect ops && (Region.free md ops listed i && ((Region.ready md ops listed).contains i && !ex.contains i))
theorem any_yl (HF : Fr a n D σ) (hS : S w) (ho : ops[i]? = some o) (hw : wantB ops σ o = some true) (hd : o.dst = some d) (hdn : d < n) (hok : readOk md ops ex listed i = true) (hQ : ∀ c (a : Act) w, Q (.panic c) (a.put o.dst v) w → Q (.panic c) a w) (hy : Yl P S σ o v)
    (k : ∀ a', Fr a' n D ((d, v) :: σ) → wpAnyN P md ops Q S ex fuel (listed.setIfInBounds i true) a' w) : wpAnyN P md ops Q S ex (fuel + 1) listed a w := by
  simp only [readOk, Bool.and_eq_true, Bool.not_eq_true'] at hok
  obtain ⟨h1, h2, h3, h4, h5, h6⟩ := hok
  exact anyN_first (T := S) ho (Region.noSelect_spec h1) hQ h4 fuel listed a w (.inr ⟨rfl, h5, h6⟩) (Region.free_spec ho h2) (by simpa using h3) (.inl ⟨wanted_of HF hw, fun w hw => hy a n D HF w hw⟩) (fun _ => hS) (by rw [hd]; exact k _ (HF.put hdn _))
theorem any_pure (HF : Fr a n D σ) (hS : pastB ex listed = false → S w) (ho : ops[i]? = some o) (hw : wantB ops σ o = some true) (hd : o.dst = some d) (hdn : d < n) (hok : pureOk md ops ex listed i = true) (hQ : ∀ c (a : Act) w, Q (.panic c) (a.put o.dst v) w → Q (.panic c) a w) (hy : ∀ S', Yl P S' σ o v)
    (k : ∀ a', Fr a' n D ((d, v) :: σ) → wpAnyN P md ops Q S ex fuel (listed.setIfInBounds i true) a' w) : wpAnyN P md ops Q S ex (fuel + 1) listed a w := by
  simp only [pureOk, Bool.and_eq_true, Bool.not_eq_true'] at hok
  obtain ⟨h1, h2, h3, h4⟩ := hok
  exact anyN_first (T := fun _ => True) ho (Region.noSelect_spec h1) hQ h4 fuel listed a w (.inl fun _ => trivial) (Region.free_spec ho h2) (by simpa using h3) (.inl ⟨wanted_of HF hw, fun w _ => hy (fun _ => True) a n D HF w trivial⟩) hS (by rw [hd]; exact k _ (HF.put hdn _))
theorem any_skip (HF : Fr a n D σ) (hS : pastB ex listed = false → S w) (ho : ops[i]? = some o) (hw : wantB ops σ o = some false) (hd : o.dst = some d) (hdn : d < n) (hok : pureOk md ops ex listed i = true) (hQ : ∀ c (a : Act) w, Q (.panic c) (a.put o.dst undef) w → Q (.panic c) a w)
    (k : ∀ a', Fr a' n D ((d, undef) :: σ) → wpAnyN P md ops Q S ex fuel (listed.setIfInBounds i true) a' w) : wpAnyN P md ops Q S ex (fuel + 1) listed a w := by
  simp only [pureOk, Bool.and_eq_true, Bool.not_eq_true'] at hok
  obtain ⟨h1, h2, h3, h4⟩ := hok
  exact anyN_first (T := fun _ => True) ho (Region.noSelect_spec h1) hQ h4 fuel listed a w (.inl fun _ => trivial) (Region.free_spec ho h2) (by simpa using h3) (.inr ⟨wanted_of HF hw, rfl⟩) hS (by rw [hd]; exact k _ (HF.put hdn _))
/-- Operations that only compute, taken first, at once. -/
def anySteps (P : Program) (md : Region.Mode) (ops : Array Oper) (n : Nat) (ex : List Nat) : List Nat → Array Bool → List (Nat × Value) → Option (Array Bool × List (Nat × Value))
  | [], l, σ => some (l, σ)
  | i :: is, l, σ => if pureOk md ops ex l i then match pureStep P ops n i σ with
      | some σ' => anySteps P md ops n ex is (l.setIfInBounds i true) σ'
      | none => none
    else none
theorem any_pures' {listed' : Array Bool} (hQ : ∀ c (a : Act) d v w, Q (.panic c) (a.put d v) w → Q (.panic c) a w) :
    ∀ (is : List Nat) {a : Act} {σ : List (Nat × Value)} {listed : Array Bool}, Fr a n D σ → (pastB ex listed = false → S w) → anySteps P md ops n ex is listed σ = some (listed', σ') → (∀ a', Fr a' n D σ' → wpAnyN P md ops Q S ex fuel listed' a' w) → wpAnyN P md ops Q S ex (fuel + is.length) listed a w
  | [], a, σ, listed, HF, _, h, k => by
    injection h with h
    injection h with h1 h2
    subst h1; subst h2
    exact k a HF
  | i :: is, a, σ, listed, HF, hS, h, k => by
    unfold anySteps at h
    split at h
    · rename_i hc
      split at h
      · rename_i σ1 h1
        have rest := fun a' HF' => any_pures' hQ is (a := a') (σ := σ1) HF' (fun hp => hS (pastB_mono hp)) h k
        unfold pureStep at h1
        split at h1
        · cases h1
        · rename_i o ho
          split at h1
          · rename_i d hw hd
            split at h1
            · rename_i hdn
              split at h1
              · rename_i v hv
                injection h1 with h1
                subst h1
                exact any_pure HF hS ho hw hd hdn hc (fun c a w => hQ c a _ _ w) (fun _ => Yl.pure hv) rest
              · cases h1
            · cases h1
          · rename_i d hw hd
            split at h1
            · rename_i hdn
              injection h1 with h1
              subst h1
              exact any_skip HF hS ho hw hd hdn hc (fun c a w => hQ c a _ _ w) rest
            · cases h1
          · cases h1
      · cases h
    · cases h
theorem any_pures (HF : Fr a n D σ) (hS : pastB ex listed = false → S w) (hQ : ∀ c (a : Act) d v w, Q (.panic c) (a.put d v) w → Q (.panic c) a w) (is : List Nat) (listed' : Array Bool) (new : List (Nat × Value))
    (h : anySteps P md ops n ex is listed σ = some (listed', new ++ σ)) (k : ∀ a', Fr a' n D (new ++ σ) → wpAnyN P md ops Q S ex fuel listed' a' w) : wpAnyN P md ops Q S ex (fuel + is.length) listed a w := any_pures' hQ is HF hS h k
theorem ap (HF : Fr a n D σ) (hS : pastB ex listed = false → S w) (is : List Nat) (listed' : Array Bool) (new : List (Nat × Value)) (k : ∀ a', Fr a' n D (new ++ σ) → wpAnyN P md ops Q S ex fuel listed' a' w)
    (hQ : ∀ c (a : Act) d v w, Q (.panic c) (a.put d v) w → Q (.panic c) a w := by intro _ _ d _ _ h; cases d <;> exact h) (h : anySteps P md ops n ex is listed σ = some (listed', new ++ σ) := by kernel_rfl) : wpAnyN P md ops Q S ex (fuel + is.length) listed a w := any_pures HF hS hQ is listed' new h k
theorem ay (HF : Fr a n D σ) (hS : S w) (i : Nat) (ho : ops[i]? = some o) (hw : wantB ops σ o = some true) (hd : o.dst = some d) (hy : Yl P S σ o v) (k : ∀ a', Fr a' n D ((d, v) :: σ) → wpAnyN P md ops Q S ex fuel (listed.setIfInBounds i true) a' w)
    (hdn : d < n := by decide) (hok : readOk md ops ex listed i = true := by kernel_rfl) (hQ : ∀ c (a : Act) w, Q (.panic c) (a.put o.dst v) w → Q (.panic c) a w := by intro _ _ _ h; exact h) : wpAnyN P md ops Q S ex (fuel + 1) listed a w := any_yl HF hS ho hw hd hdn hok hQ hy k
theorem any_done (hr : Region.ready md ops listed = []) (h : Q .normal a w) : wpAnyN P md ops Q S ex fuel listed a w := by
  cases fuel with
  | zero => exact ⟨hr, h⟩
  | succ f => exact ⟨fun _ => h, by rw [hr]; simp⟩
theorem all_nil {X : Nat → Prop} : ∀ i ∈ ([] : List Nat), X i := fun _ h => by cases h
theorem all_cons {X : Nat → Prop} {r : List Nat} (h : X i) (t : ∀ i ∈ r, X i) : ∀ j ∈ i :: r, X j := fun j hj => by
  rcases List.mem_cons.1 hj with rfl | hj
  · exact h
  · exact t j hj
theorem any_all (rs : List Nat) (hr : Region.ready md ops listed = rs) (hne : rs.isEmpty = false) (h : ∀ i ∈ rs, wpOp P ops Q i (fun a' w' => (pastB ex (listed.setIfInBounds i true) = false → S w') ∧ wpAnyN P md ops Q S ex fuel (listed.setIfInBounds i true) a' w') a w) : wpAnyN P md ops Q S ex (fuel + 1) listed a w :=
  ⟨fun e => (by rw [hr] at e; subst e; cases hne), hr ▸ h⟩
theorem pastS {p : Prop} {l : Array Bool} (h : pastB ex l = true) : pastB ex l = false → p := fun e => by rw [h] at e; cases e
theorem keepS {c p X : Prop} (h : p) (k : p → X) : (c → p) ∧ X := ⟨fun _ => h, k h⟩
theorem noS {p X : Prop} {l : Array Bool} (h : pastB ex l = true) (k : X) : (pastB ex l = false → p) ∧ X := ⟨fun e => (by rw [h] at e; cases e), k⟩
theorem any_op (HF : Fr a n D σ) (ho : ops[i]? = some o) (hw : wantB ops σ o = some true) (h : o.wp P a w K Q) : wpOp P ops Q i K a w := by
  unfold wpOp
  rw [ho]
  simp only [wanted_of HF hw, if_true]
  exact .inl h
end
def isOne (P : Program) (t : TypeId) : Bool := match P.underlying t with
  | some (.struct _) => false
  | some (.array _ _) => false
  | some _ => true
  | none => false
def elemSz (P : Program) (t : TypeId) : Option Nat := match P.underlying t with
  | some (.slice e) => (P.info? e).map (·.size)
  | _ => none
theorem isAgg_one {t : TypeId} (h : isOne P t = true) (w : World) : (isAgg t).run P w = .ok false w := by
  unfold isOne at h
  cases hu : P.underlying t with
  | none => rw [hu] at h; cases h
  | some d => rw [hu] at h; simp only [isAgg, Sem.run_bind, run_underlying hu, Result.andThen_ok]; cases d <;> first | rfl | cases h
theorem Yl.load1 {t : TypeId} {x : Operand} {p : Addr} (hop : o.op = .load t x) (hx : look σ x = some (.pointer (some p))) (ht : isOne P t = true) (hc : ∀ w, S w → w.cell? p = some v) : Yl P S σ o v := fun a n D HF w hS => by
  unfold execOp
  simp [hop, HF.eval hx, Instr.loadAt, Instr.sureAddr, loadVar, isAgg_one ht, load, Sem.run, hc w hS]
theorem Yl.loadS {t : TypeId} {x : Operand} {b off m : Nat} {cs : Array Value} (hop : o.op = .load t x) (hx : look σ x = some (.pointer (some ⟨b, off, none⟩))) (si : SI P t m) (hm : cs.size = m) (hc : ∀ w, S w → w.rangeAt b off cs.toList) : Yl P S σ o (.agg cs) := fun a n D HF w hS => by
  obtain ⟨ds, hu, hd⟩ := si.desc
  have hl := run_loadVar_mid (P := P) w b off t cs.toList ds (hc w hS) hu hd (by rw [si.size, ← hm]; simp)
  unfold execOp
  simp [hop, HF.eval hx, Instr.loadAt, Instr.sureAddr, hl]
theorem Yl.indexAddr {t : TypeId} {x ix : Operand} {ad : Addr} {m c y sz : Nat} {k : IntKind} (hop : o.op = .indexAddr t x ix) (hx : look σ x = some (.slice (some ad) m c)) (hi : look σ ix = some (.int k (y : Int))) (hy : y < m) (he : elemSz P t = some sz) : Yl P S σ o (.pointer (some (ad.add (y * sz)))) := fun a n D HF w hS => by
  unfold elemSz at he
  split at he
  · rename_i e hu
    obtain ⟨i, hi', rfl⟩ := Option.map_eq_some_iff.1 he
    unfold execOp
    have h1 : ¬ m ≤ y := by omega
    simp [hop, HF.eval hx, HF.eval hi, Instr.indexAt, asIntOf, run_underlying hu, hy, sizeOf, typeInfo, hi']
  · cases he
def isSl (P : Program) (t : TypeId) : Bool := match P.underlying t with
  | some (.slice _) => true
  | _ => false
theorem Yl.len {x : Operand} {t : TypeId} {A : Option Addr} {m c : Nat} (hop : o.op = .call { callee := .builtin .len, args := #[x], argTypes := #[t] }) (hx : look σ x = some (.slice A m c)) (ht : isSl P t = true) : Yl P S σ o (.int .i64 (m : Int)) := fun a n D HF w hS => by
  unfold isSl at ht
  split at ht
  · rename_i e hu
    unfold execOp
    simp [hop, resolve, invoke, builtin, HF.eval hx, Builtin.len_, run_underlying hu, goInt]
  · cases ht
theorem Yl.min {x y : Operand} {ts : Array TypeId} {k : IntKind} {p q : Int} (hop : o.op = .call { callee := .builtin .min, args := #[x, y], argTypes := ts }) (hx : look σ x = some (.int k p)) (hy : look σ y = some (.int k q)) : Yl P S σ o (.int k (if q < p then q else p)) := fun a n D HF w hS => by
  unfold execOp
  simp [hop, resolve, invoke, builtin, HF.eval hx, HF.eval hy, Builtin.min_, Builtin.min2]
theorem Yl.max {x y : Operand} {ts : Array TypeId} {k : IntKind} {p q : Int} (hop : o.op = .call { callee := .builtin .max, args := #[x, y], argTypes := ts }) (hx : look σ x = some (.int k p)) (hy : look σ y = some (.int k q)) : Yl P S σ o (.int k (if q > p then q else p)) := fun a n D HF w hS => by
  unfold execOp
  simp [hop, resolve, invoke, builtin, HF.eval hx, HF.eval hy, Builtin.max_, Builtin.max2]
/-- Another spelling of the value. -/
theorem Yl.as {u : Value} (h : Yl P S σ o v) (e : v = u) : Yl P S σ o u := e ▸ h
end
end Go.Proofs.YtnakabnmjnfpcaaDoor

namespace Go.Proofs.YtnakabnmjnfpcaaDoor
open Go.RowKit
section
variable {P : Program} {Q : Exit → Act → World → Prop} {a : Act} {W w : World} {n d : Nat} {D : List Deferred} {σ : List (Nat × Value)} {o : Oper} {v : Value} {K : Act → World → Prop} {fs : List Fact}
def zeroCells' (P : Program) (e : TypeId) : Option (Array Value) := ((P.info? e).bind (·.zero)).map Value.cells
theorem wp_new {b : Value} {e : TypeId} {cs : Array Value} (hr : (execOp a.eval o).run P w = .ok (.value (.pointer (some ⟨w.heap.size, 0, none⟩))) (w.alloc (.cells cs e))) (HF : Fr a n D σ) (HM : Mem W w fs) (hd : o.dst = some d) (hdn : d < n)
    (k : ∀ a' w' g, Fr a' n D ((d, .pointer (some ⟨g, 0, none⟩)) :: σ) → Mem W w' (.blk g cs e :: fs) → K a' w') : o.wp P a w K Q := by
  have _ := b
  unfold Oper.wp
  rw [hr, Oper.upon_value, hd]
  exact k _ _ _ (HF.put hdn _) (HM.alloc cs e)
theorem e_alloc (HF : Fr a n D σ) (HM : Mem W w fs) {e : TypeId} {cs : Array Value} (hop : o.op = .alloc e) (hz : zeroCells' P e = some cs) (hd : o.dst = some d) (hdn : d < n)
    (k : ∀ a' w' g, Fr a' n D ((d, .pointer (some ⟨g, 0, none⟩)) :: σ) → Mem W w' (.blk g cs e :: fs) → K a' w') : o.wp P a w K Q := by
  refine wp_new (b := undef) ?_ HF HM hd hdn k
  unfold zeroCells' at hz
  obtain ⟨z, hz1, rfl⟩ := Option.map_eq_some_iff.1 hz
  obtain ⟨i, hi, hz2⟩ := Option.bind_eq_some_iff.1 hz1
  unfold execOp
  simp [hop, Instr.alloc, zeroValue, typeInfo, hi, hz2, newVar, newRow, newObj]
  rfl
theorem e_box (HF : Fr a n D σ) (HM : Mem W w fs) {e : TypeId} {x : Operand} (hop : o.op = .box e x) (hx : look σ x = some v) {cs : Array Value} (hc : v.cells = cs) (hd : o.dst = some d) (hdn : d < n)
    (k : ∀ a' w' g, Fr a' n D ((d, .pointer (some ⟨g, 0, none⟩)) :: σ) → Mem W w' (.blk g cs e :: fs) → K a' w') : o.wp P a w K Q := by
  subst hc
  refine wp_new (b := undef) ?_ HF HM hd hdn k
  unfold execOp
  simp [hop, HF.eval hx, Instr.box, newVar, newRow, newObj]
  rfl
theorem run_storeCell {t : TypeId} {g off : Nat} (hs : (P.info? t).map (·.size) = some 1) (hv : v.oneCell' = true) {u : Value} (hc : w.cell? ⟨g, off, none⟩ = some u) (hf : w.frozen? ⟨g, off, none⟩ = false) :
    (Instr.storeAt t (.pointer (some ⟨g, off, none⟩)) v).run P w = .ok () (w.setCell ⟨g, off, none⟩ v) := by
  have ht : w.there g off 1 := fun j hj => by
    obtain rfl : j = 0 := by omega
    simp [hc, hf]
  have hv1 : v.cells = #[v] := by cases v <;> first | rfl | cases hv
  have := run_storeVar_mid (P := P) w g off t #[v] (by simpa using ht) (by simpa using hs) (by simp [hv])
  have e2 : storeVar t ⟨g, off, none⟩ v = storeVar t ⟨g, off, none⟩ (.agg #[v]) := by
    unfold storeVar
    rw [hv1]
    rfl
  simp only [Instr.storeAt, Instr.sureAddr, Sem.run_bind, Sem.run_pure, Result.andThen_ok, e2, this]
  rfl
/-- A store of one cell. -/
theorem e_store (HF : Fr a n D σ) (HM : Mem W w fs) {t : TypeId} {x y : Operand} {i g off : Nat} {cs : Array Value} {tb : TypeId} (hop : o.op = .store t x y) (hd : o.dst = none) (hx : look σ x = some (.pointer (some ⟨g, off, none⟩))) (hy : look σ y = some v) (hs : (P.info? t).map (·.size) = some 1) (hv : v.oneCell' = true)
    (hi : fs[i]? = some (.blk g cs tb)) (ho : off < cs.size) (k : ∀ w', Mem W w' (fs.set i (.blk g (cs.setIfInBounds off v) tb)) → K a w') : o.wp P a w K Q := by
  have hb := HM.blk hi
  have hc : w.cell? ⟨g, off, none⟩ = some cs[off] := HM.cell hi (Array.getElem?_eq_getElem ho)
  have hf : w.frozen? ⟨g, off, none⟩ = false := by simp [World.frozen?, hb]
  unfold Oper.wp execOp
  simp only [hop, HF.eval hx, HF.eval hy, Sem.run_bind, run_storeCell hs hv hc hf, Result.andThen_ok, Sem.run_pure, Oper.upon_skip, hd]
  exact k _ (HM.set hi v)
/-- A store of a whole block. -/
theorem e_storeAll (HF : Fr a n D σ) (HM : Mem W w fs) {t : TypeId} {x y : Operand} {i g m : Nat} {cs ds : Array Value} {tb : TypeId} (hop : o.op = .store t x y) (hd : o.dst = none) (hx : look σ x = some (.pointer (some ⟨g, 0, none⟩))) (hy : look σ y = some (.agg ds)) (si : SI P t m) (hc : cs.size = m) (hm : ds.size = m) (h1 : ∀ u ∈ ds.toList, u.oneCell' = true)
    (hi : fs[i]? = some (.blk g cs tb)) (k : ∀ w', Mem W w' (fs.set i (.blk g ds tb)) → K a w') : o.wp P a w K Q := by
  have hb := HM.blk hi
  have hl := run_storeVar_mid (P := P) w g 0 t ds (by rw [hm]; exact there_of_block hb 0 m (by omega)) (by rw [hm]; exact si.size) (by simpa using all_oneCell_toArray h1)
  unfold Oper.wp execOp
  simp only [hop, HF.eval hx, HF.eval hy, Sem.run_bind, Instr.storeAt, Instr.sureAddr, Sem.run_pure, hl, Result.andThen_ok, Oper.upon_skip, hd]
  exact k _ (HM.setAll hi (by omega))
def callable (P : Program) (f : FuncId) : Bool := match P.funcs[f]? with
  | some fn => fn.name != "runtime.NumGoroutine" && fn.body.isSome
  | none => false
theorem callable_run {f : FuncId} (h : callable P f = true) (args : Array Value) (w : World) : (callFunc f args).run P w = .ok (.enter f args) w := by
  unfold callable at h
  split at h
  · rename_i fn hf
    rw [Bool.and_eq_true, bne_iff_ne] at h
    have hb : fn.body ≠ none := by intro e; rw [e] at h; simp at h
    simp [callFunc, hf, h.1, hb, program, Sem.run, Sem.run_bind]
  · cases h
def looks (σ : List (Nat × Value)) : List Operand → Option (List Value)
  | [] => some []
  | x :: r => match look σ x, looks σ r with
    | some v, some vs => some (v :: vs)
    | _, _ => none
theorem looks_map (HF : Fr a n D σ) : ∀ {xs : List Operand} {vs : List Value}, looks σ xs = some vs → xs.map a.eval = vs
  | [], vs, h => by cases h; rfl
  | x :: r, vs, h => by
    unfold looks at h
    split at h
    · rename_i v us hx hr
      injection h with h
      subst h
      rw [List.map_cons, HF.eval hx, looks_map HF hr]
    · cases h
/-- A call of a function of the program, by its contract. -/
theorem e_call (HF : Fr a n D σ) {f : FuncId} {xs : Array Operand} {ts : Array TypeId} {vs : List Value} {R : Ending → World → Prop} (hop : o.op = .call { callee := .value (.func f), args := xs, argTypes := ts }) (hv : looks σ xs.toList = some vs) (hf : callable P f = true) (hd : o.dst = some d) (hdn : d < n)
    (hC : Calls P f vs.toArray w R) (k : ∀ e w', R e w' → ∃ v, e = .returned v ∧ ∀ a', Fr a' n D ((d, v) :: σ) → K a' w') : o.wp P a w K Q := by
  have e1 : xs.map a.eval = vs.toArray := by
    have := looks_map HF hv
    rw [← this, ← Array.toList_map, Array.toArray_toList]
  unfold Oper.wp execOp
  simp only [hop, resolve, Act.eval, Deferred.ofValue, invoke, Sem.run_bind, Sem.run_pure, Result.andThen_ok]
  have e2 : xs.map (fun x => a.eval x) = vs.toArray := e1
  have e3 : #[] ++ Array.map a.eval xs ++ #[] = vs.toArray := by simp [e1]
  show Oper.upon P o a K Q (((callFunc f (#[] ++ Array.map a.eval xs ++ #[])).run P w))
  rw [e3, callable_run hf, Oper.upon_enter]
  refine hC.mono fun e w' he => ?_
  obtain ⟨v, rfl, h2⟩ := k e w' he
  show K (a.put o.dst v) w'
  rw [hd]
  exact h2 _ (HF.put hdn v)
end
end Go.Proofs.YtnakabnmjnfpcaaDoor

namespace Go.Proofs.YtnakabnmjnfpcaaDoor
open Go.RowKit
section
variable {P : Program} {Q : Exit → Act → World → Prop} {a : Act} {W w : World} {n d : Nat} {D : List Deferred} {σ : List (Nat × Value)} {o : Oper} {v : Value} {K : Act → World → Prop} {fs : List Fact}
theorem own_at {base : Nat} {e : TypeId} {size m : Nat} {xs : List Value} (h : w.ownsRow base e size v m xs) (hm : 0 < m) : ∃ g c, v = .slice (some ⟨g, 0, none⟩) m c ∧ m ≤ c := by
  rcases h.2 with ⟨_, h2⟩ | ⟨g, cap, cur, h1, _, _, h2, _⟩
  · omega
  · exact ⟨g, cap, h1, h2⟩
theorem own_slice {base : Nat} {e : TypeId} {size m : Nat} {xs : List Value} (h : w.ownsRow base e size v m xs) : ∃ A c, v = .slice A m c ∧ m ≤ c := by
  rcases h.2 with ⟨h1, h2⟩ | ⟨g, cap, cur, h1, _, _, h2, _⟩
  · subst h2; exact ⟨_, _, h1, Nat.le_refl _⟩
  · exact ⟨_, cap, h1, h2⟩
theorem e_append (HF : Fr a n D σ) (HM : Mem W w fs) {s x : Operand} {t e : TypeId} {z : Value} {size bytes i m0 m c B : Nat} {A : Option Addr} {xs news : List Value} (hop : o.op = .call { callee := .builtin .append, args := #[s, x], argTypes := #[t, t] }) (ei : EI P t e z size bytes)
    (hs : look σ s = some v) (hx : look σ x = some (.slice A m c)) (hi : fs[i]? = some (.row v m0 xs e size)) (hr : Rd w B size A m news) (h1 : ∀ u ∈ news, u.oneCell' = true) (hb : (m0 + m) * bytes ≤ 140737488355328) (h63 : m0 + m ≤ 9223372036854775807)
    (hd : o.dst = some d) (hdn : d < n) (k : ∀ a' w' A' c', Fr a' n D ((d, .slice A' (m0 + m) c') :: σ) → Mem W w' (fs.set i (.row (.slice A' (m0 + m) c') (m0 + m) (xs ++ news) e size)) → m0 + m ≤ c' → K a' w') : o.wp P a w K Q :=
  append_op hop ei (HM.own hi) (HF.eval hs) hr (HF.eval hx) h1 hb h63 HM.size fun A' c' w' ho hg hbl => by
    rw [hd]
    refine k _ _ _ _ (HF.put hdn _) (HM.append hi ho hg hbl) ?_
    rcases ho.2 with ⟨h2, h3⟩ | ⟨g, cap, cur, h2, _, _, h3, _⟩
    · omega
    · injection h2 with _ _ h4; omega
def partVals (σ : List (Nat × Value)) : List (Nat × Operand) → Option (List (Nat × Value))
  | [] => some []
  | (i, x) :: r => match look σ x, partVals σ r with
    | some v, some vs => some ((i, v) :: vs)
    | _, _ => none
theorem partVals_map (HF : Fr a n D σ) : ∀ {ps : List (Nat × Operand)} {vs : List (Nat × Value)}, partVals σ ps = some vs → ps.map (fun p => (p.1, a.eval p.2)) = vs
  | [], vs, h => by cases h; rfl
  | (i, x) :: r, vs, h => by
    unfold partVals at h
    split at h
    · rename_i v us hx hr
      injection h with h
      subst h
      rw [List.map_cons, HF.eval hx, partVals_map HF hr]
    · cases h
theorem partVals_arr (HF : Fr a n D σ) {ps : Array (Nat × Operand)} {vs : List (Nat × Value)} (h : partVals σ ps.toList = some vs) : ps.map (fun p => (p.1, a.eval p.2)) = vs.toArray := by
  rw [← partVals_map HF h, ← Array.toList_map, Array.toArray_toList]
def blankCells (z : Array Value) (m : Nat) : Array Value := (Array.range m).map (z[· % z.size]!)
/-- A slice written out. -/
theorem e_slice (HF : Fr a n D σ) (HM : Mem W w fs) {t len e : Nat} {ps : Array (Nat × Operand)} {vs : List (Nat × Value)} {z : Value} {size bytes : Nat} {cs : Array Value} (hop : o.op = .buildSlice t len ps) (ei : EI P t e z size bytes) (hl : decide (0 < len ∧ len * size ≤ 16777216) = true) (hv : partVals σ ps.toList = some vs)
    (hf : Instr.fill (fun i => some (i * size, size)) (blankCells z.cells (len * size)) vs = some cs) (hd : o.dst = some d) (hdn : d < n)
    (k : ∀ a' w' g, Fr a' n D ((d, .slice (some ⟨g, 0, none⟩) len len) :: σ) → Mem W w' (.blk g cs e :: fs) → K a' w') : o.wp P a w K Q := by
  obtain ⟨i, hi, hz, hsz, _⟩ := info_parts ei.hi
  have hpos := ei.hs
  simp only [decide_eq_true_eq] at hl
  have h0 : ¬ len * size = 0 := by
    have := Nat.mul_pos hl.1 hpos
    omega
  have h2 : ¬ len * size > 2 ^ 24 := by omega
  have hrun : (execOp a.eval o).run P w = .ok (.value (.slice (some ⟨w.heap.size, 0, none⟩) len len)) (w.alloc (.cells cs e)) := by
    unfold execOp
    have hpm := partVals_arr HF hv
    unfold blankCells at hf
    simp only [hop]
    have e1 : (Instr.buildSlice t len (ps.map fun p => (p.1, a.eval p.2))).run P w = .ok (.slice (some ⟨w.heap.size, 0, none⟩) len len) (w.alloc (.cells cs e)) := by
      rw [hpm]
      unfold Instr.buildSlice
      simp only [Sem.run_bind, run_underlying ei.ht, Result.andThen_ok, sizeOf, typeInfo, program, Sem.run, hi, Sem.run_pure, hsz, if_neg h2, if_neg h0, zeroValue, hz, hf, newRow, newObj]
      rfl
    simp only [Sem.run_bind, Sem.run_pure]
    show ((Instr.buildSlice t len (ps.map fun p => (p.1, a.eval p.2))).run P w).andThen _ = _
    rw [e1]
    rfl
  unfold Oper.wp
  rw [hrun, Oper.upon_value, hd]
  exact k _ _ _ (HF.put hdn _) (HM.alloc cs e)
/-- Cells of a row of the call's own. -/
theorem Mem.rowRange (h : Mem W w fs) {i g m c : Nat} {e : TypeId} {size : Nat} {xs : List Value} (hi : fs[i]? = some (.row (.slice (some ⟨g, 0, none⟩) m c) m xs e size)) (off : Nat) {ys : List Value} (hy : ∀ j u, ys[j]? = some u → xs[off + j]? = some u) : w.rangeAt g off ys := fun j u hu => by
  have ho := h.own hi
  have := ho.cells (g := g) rfl (off + j) u (hy j u hu)
  rw [Addr.add_mid, Nat.zero_add] at this
  exact this
theorem Mem.rowAll (h : Mem W w fs) {i g m c : Nat} {e : TypeId} {size : Nat} {xs : List Value} (hi : fs[i]? = some (.row (.slice (some ⟨g, 0, none⟩) m c) m xs e size)) : w.rangeAt g 0 xs := h.rowRange hi 0 (fun j u hu => by rw [Nat.zero_add]; exact hu)
/-- An empty slice written out. -/
theorem e_slice0 (HF : Fr a n D σ) (HM : Mem W w fs) {t e : Nat} {z : Value} {size bytes : Nat} (hop : o.op = .buildSlice t 0 #[]) (ei : EI P t e z size bytes) (hd : o.dst = some d) (hdn : d < n)
    (k : ∀ a' w' g, Fr a' n D ((d, .slice (some ⟨g, 0, none⟩) 0 0) :: σ) → Mem W w' (.row (.slice (some ⟨g, 0, none⟩) 0 0) 0 [] e size :: fs) → K a' w') : o.wp P a w K Q := by
  obtain ⟨i, hi, hz, hsz, _⟩ := info_parts ei.hi
  have hrun : (execOp a.eval o).run P w = .ok (.value (.slice (some ⟨w.heap.size, 0, none⟩) 0 0)) (w.alloc (.cells #[] e)) := by
    unfold execOp
    simp only [hop]
    have e1 : (Instr.buildSlice t 0 #[]).run P w = .ok (.slice (some ⟨w.heap.size, 0, none⟩) 0 0) (w.alloc (.cells #[] e)) := by
      unfold Instr.buildSlice
      simp only [Sem.run_bind, run_underlying ei.ht, Result.andThen_ok, sizeOf, typeInfo, program, Sem.run, hi, Sem.run_pure, newRow, newObj]
      simp [Instr.fill, show Array.range 0 = #[] from rfl]
      rfl
    simp only [Sem.run_bind, Sem.run_pure, List.map_toArray, List.map_nil]
    show ((Instr.buildSlice t 0 #[]).run P w).andThen _ = _
    rw [e1]
    rfl
  unfold Oper.wp
  rw [hrun, Oper.upon_value, hd]
  refine k _ _ w.heap.size (HF.put hdn _) ?_
  have := (HM.alloc #[] e).blkRow (i := 0) (size := size) (n := 0) rfl (by simp) (by omega)
  exact this
def argSlots : Nat → List Value → List (Nat × Value)
  | _, [] => []
  | i, v :: r => (i, v) :: argSlots (i + 1) r
theorem argSlots_get : ∀ (vs : List Value) (i t : Nat) (v : Value), (argSlots i vs).lookup t = some v → i ≤ t ∧ vs[t - i]? = some v
  | [], _, _, _, h => by cases h
  | u :: r, i, t, v, h => by
    rw [argSlots, List.lookup_cons] at h
    split at h
    · rename_i e
      rw [beq_iff_eq] at e
      subst e
      exact ⟨Nat.le_refl _, by simpa using h⟩
    · obtain ⟨h1, h2⟩ := argSlots_get r (i + 1) t v h
      refine ⟨by omega, ?_⟩
      rw [show t - i = (t - (i + 1)) + 1 by omega, List.getElem?_cons_succ]
      exact h2
theorem calls_enter {f N : Nat} {fn : Func} {c : Code} {vs : List Value} {R : Ending → World → Prop} (hf : P.funcs[f]? = some fn) (hb : fn.body = some c) (hn : fn.ntmps = N) (hl : decide (vs.length ≤ N) = true) {σ0 : List (Nat × Value)} (h0 : argSlots 0 vs = σ0)
    (k : ∀ a, Fr a N [] σ0 → c.wp P (bodyPost P fn R) a w) : Calls P f vs.toArray w R := by
  subst h0
  rw [decide_eq_true_eq] at hl
  refine calls_of_wp hf hb (k _ ⟨by simp [hn]; omega, rfl, fun t v hv => ?_⟩)
  obtain ⟨_, h1⟩ := argSlots_get vs 0 t v hv
  rw [Nat.sub_zero] at h1
  have hlt := (List.getElem?_eq_some_iff.1 h1).1
  simp only [Array.getD_eq_getD_getElem?, Array.getElem?_append, List.size_toArray, if_pos hlt]
  simp [h1]
def resSem (tmps : Array Value) : ResultVar → Sem Value
  | .tmp t => pure (tmps.getD t undef)
  | .cell b t => do loadVar t (← asAddr (tmps.getD b undef))
/-- What a result reads as at the end. -/
def ResRun (P : Program) (a : Act) (w : World) (r : ResultVar) (v : Value) : Prop := (resSem a.tmps r).run P w = .ok v w
theorem results_sem (fn : Func) (tmps : Array Value) : results fn tmps = (do
  let vs ← fn.results.mapM (resSem tmps)
  pure (if h : vs.size = 1 then vs[0] else .tuple vs)) := by
  unfold results
  have : resSem tmps = (fun | .tmp t => pure (tmps.getD t undef) | .cell a t => do loadVar t (← asAddr (tmps.getD a undef))) := by
    funext r; cases r <;> rfl
  rw [this]
  rfl
theorem ResRun.tmp {t : Nat} (HF : Fr a n D σ) (h : σ.lookup t = some v) : ResRun P a w (.tmp t) v := by
  unfold ResRun resSem
  simp only [HF.slot t v h]
  rfl
theorem ResRun.cellS {b i g m : Nat} {t tb : TypeId} {cs : Array Value} (HF : Fr a n D σ) (HM : Mem W w fs) (h : σ.lookup b = some (.pointer (some ⟨g, 0, none⟩))) (hi : fs[i]? = some (.blk g cs tb)) (si : SI P t m) (hm : cs.size = m) : ResRun P a w (.cell b t) (.agg cs) := by
  obtain ⟨ds, hu, hd⟩ := si.desc
  have hl := run_loadVar_mid (P := P) w g 0 t cs.toList ds (range_of_block (HM.blk hi)) hu hd (by rw [si.size, ← hm]; simp)
  unfold ResRun resSem
  simp only [HF.slot b _ h]
  simp [asAddr, hl]
section
variable {fn : Func} {R : Ending → World → Prop}
theorem ret1 {r1 : ResultVar} {v1 : Value} (hr : fn.results = #[r1]) (HF : Fr a n [] σ) (h1 : ResRun P a w r1 v1) (hR : R (.returned v1) w) : bodyPost P fn R .ret a w :=
  bodyPost_ret (v := v1) (by
    unfold ResRun at h1
    rw [results_sem, hr]
    generalize resSem a.tmps = f at *
    simp [h1]) HF.defers hR
theorem ret2 {r1 r2 : ResultVar} {v1 v2 : Value} (hr : fn.results = #[r1, r2]) (HF : Fr a n [] σ) (h1 : ResRun P a w r1 v1) (h2 : ResRun P a w r2 v2) (hR : R (.returned (.tuple #[v1, v2])) w) : bodyPost P fn R .ret a w :=
  bodyPost_ret (v := .tuple #[v1, v2]) (by
    unfold ResRun at h1 h2
    rw [results_sem, hr]
    generalize resSem a.tmps = f at *
    simp [h1, h2]) HF.defers hR
theorem ret3 {r1 r2 r3 : ResultVar} {v1 v2 v3 : Value} (hr : fn.results = #[r1, r2, r3]) (HF : Fr a n [] σ) (h1 : ResRun P a w r1 v1) (h2 : ResRun P a w r2 v2) (h3 : ResRun P a w r3 v3) (hR : R (.returned (.tuple #[v1, v2, v3])) w) : bodyPost P fn R .ret a w :=
  bodyPost_ret (v := .tuple #[v1, v2, v3]) (by
    unfold ResRun at h1 h2 h3
    rw [results_sem, hr]
    generalize resSem a.tmps = f at *
    simp [h1, h2, h3]) HF.defers hR
end
theorem cond_true {c : Operand} {x y : Code} (HF : Fr a n D σ) (hc : look σ c = some (.bool true)) (h : x.wp P Q a w) : (Code.cond c x y).wp P Q a w := wp_cond_true (HF.eval hc) h
theorem cond_false {c : Operand} {x y : Code} (HF : Fr a n D σ) (hc : look σ c = some (.bool false)) (h : y.wp P Q a w) : (Code.cond c x y).wp P Q a w := wp_cond_false (HF.eval hc) h
/-- Another spelling of what a slot holds. -/
theorem Fr.as {u : Value} {t : Nat} (h : Fr a n D σ) (hl : σ.lookup t = some v) (e : v = u) : Fr a n D ((t, u) :: σ) := by
  subst e
  refine ⟨h.size, h.defers, fun s x hx => ?_⟩
  rw [List.lookup_cons] at hx
  split at hx
  · rename_i hs
    rw [beq_iff_eq] at hs
    subst hs
    injection hx with hx
    subst hx
    exact h.slot s v hl
  · exact h.slot s x hx
/-- The rest under what all ways here have in common. -/
theorem cut_seq {x y : Code} (R : Act → World → Prop) (h : x.wp P (Exit.then R Q) a w) (k : ∀ a w, R a w → y.wp P Q a w) : (Code.seq x y).wp P Q a w :=
  wp_seq (Code.wp_mono (fun e a w hq => by cases e <;> first | exact k _ _ hq | exact hq) h)
/-- A loop whose rounds lower a number. -/
theorem loop_nat {c : Code} (J : Nat → Act → World → Prop) {m : Nat} (h0 : J m a w) (round : ∀ k a w, J k a w → c.wp P (Exit.then (fun a' w' => ∃ k', k' < k ∧ J k' a' w') Q) a w) : (Code.loop c).wp P Q a w := by
  intro b ks cs
  have key : ∀ m a w, J m a w → ∃ e a' w', Q e a' w' ∧ Arrives P (lone (b.at a (.code c :: .inLoop c :: ks)) cs w) b ks cs e a' w' := by
    intro m
    induction m using Nat.strongRecOn with
    | _ m ih =>
      intro a w hJ
      obtain ⟨e, a1, w1, hq, harr⟩ := round m a w hJ b (.inLoop c :: ks) cs
      cases e with
      | normal =>
        obtain ⟨m', hlt, hJ'⟩ := hq
        obtain ⟨e2, a2, w2, hq2, harr2⟩ := ih m' hlt a1 w1 hJ'
        exact ⟨e2, a2, w2, hq2, .of_steps (Steps.trans harr (.one step_inLoop)) harr2⟩
      | exit id => exact ⟨_, a1, w1, hq, .pass (x := .inLoop c) rfl (fun _ _ => .inl (by simp)) harr⟩
      | goto l => exact ⟨_, a1, w1, hq, .pass (x := .inLoop c) rfl (fun _ _ => .inl (by simp)) harr⟩
      | ret => exact ⟨_, a1, w1, hq, .pass (x := .inLoop c) rfl (fun _ _ => .inl (by simp)) harr⟩
      | panic ch => exact ⟨_, a1, w1, hq, .pass (x := .inLoop c) rfl (fun _ _ => .inl (by simp)) harr⟩
      | outgrown => exact ⟨_, a1, w1, hq, .pass (x := .inLoop c) rfl (fun _ _ => .inl (by simp)) harr⟩
  obtain ⟨e, a', w', hq, harr⟩ := key m a w h0
  exact ⟨e, a', w', hq, .of_steps (.one step_loop) harr⟩
end
end Go.Proofs.YtnakabnmjnfpcaaDoor

namespace Go.Proofs.YtnakabnmjnfpcaaDoor
open Go.RowKit
/-- Cells put at a place of a list. -/
def putAt (xs : List Value) (off : Nat) (vs : List Value) : List Value := xs.take off ++ vs ++ xs.drop (off + vs.length)
theorem putAt_len {xs : List Value} {off : Nat} {vs : List Value} (h : off + vs.length ≤ xs.length) : (putAt xs off vs).length = xs.length := by
  unfold putAt
  simp only [List.length_append, List.length_take, List.length_drop]
  omega
theorem putAt_get {xs : List Value} {off : Nat} {vs : List Value} (h : off + vs.length ≤ xs.length) (j : Nat) : (putAt xs off vs)[j]? = if off ≤ j ∧ j < off + vs.length then vs[j - off]? else xs[j]? := by
  unfold putAt
  have h1 : (xs.take off).length = off := by rw [List.length_take]; omega
  rw [List.append_assoc]
  rcases Nat.lt_or_ge j off with h2 | h2
  · rw [if_neg (by omega), List.getElem?_append_left (by omega), List.getElem?_take, if_pos h2]
  · rw [List.getElem?_append_right (by omega), h1]
    rcases Nat.lt_or_ge j (off + vs.length) with h3 | h3
    · rw [if_pos ⟨h2, h3⟩, List.getElem?_append_left (by omega)]
    · rw [if_neg (by omega), List.getElem?_append_right (by omega), List.getElem?_drop]
      congr 1
      omega
theorem setCells_heap_mid {w : World} {g : Nat} {cur : Array Value} {e : TypeId} (hb : w.heap[g]? = some (.cells cur e (0, 0))) (off : Nat) (vs : List Value) (hl : off + vs.length ≤ cur.size) :
    (w.setCells g off vs).heap[g]? = some (.cells (putAt cur.toList off vs).toArray e (0, 0)) := by
  have h1 : cur = (cur.toList.take off ++ (cur.toList.drop off).take vs.length ++ cur.toList.drop (off + vs.length)).toArray := by
    apply Array.toList_inj.1
    simp only [List.append_assoc]
    rw [← List.drop_drop, List.take_append_drop, List.take_append_drop]
  have h2 := heap_setCells_go g e vs w (cur.toList.take off) (cur.toList.drop (off + vs.length)) ((cur.toList.drop off).take vs.length) (by rw [← h1]; exact hb) (by simp only [List.length_take, List.length_drop, Array.length_toList]; omega)
  rw [List.length_take, Array.length_toList, Nat.min_eq_left (by omega)] at h2
  exact h2
section
variable {P : Program} {Q : Exit → Act → World → Prop} {a : Act} {W w : World} {n d : Nat} {D : List Deferred} {σ : List (Nat × Value)} {o : Oper} {v : Value} {K : Act → World → Prop} {fs : List Fact}
/-- Cells stored into a row. -/
theorem Mem.rowSet (h : Mem W w fs) {i g m c : Nat} {e : TypeId} {size : Nat} {xs : List Value} (hi : fs[i]? = some (.row (.slice (some ⟨g, 0, none⟩) m c) m xs e size)) {off : Nat} {vs : List Value} (hl : off + vs.length ≤ xs.length) :
    Mem W (w.setCells g off vs) (fs.set i (.row (.slice (some ⟨g, 0, none⟩) m c) m (putAt xs off vs) e size)) := by
  have ho := h.own hi
  obtain ⟨hlen, h2⟩ := ho
  rcases h2 with ⟨h3, _⟩ | ⟨g', cap, cur, hv, hb, hg, hnc, hcm, hcs, ht⟩
  · cases h3
  · injection hv with hv hv2 hv3
    injection hv with hv
    injection hv with hv
    subst hv; subst hv3
    have hcur : m * size ≤ cur.size := by rw [hcs]; exact Nat.mul_le_mul_right _ hnc
    refine h.turn hi (below_setCells h.below hb off vs) (fun k hk hne => heap_setCells_far _ _ _ _ _ (fun e => hne (by rw [e]; rfl))) ?_ (fun g' hg' => .inl hg')
    refine ⟨by rw [putAt_len hl]; exact hlen, .inr ⟨g, c, _, rfl, hb, setCells_heap_mid hg off vs (by omega), hnc, hcm, ?_, ?_⟩⟩
    · rw [List.size_toArray, putAt_len (by simpa using (by omega : off + vs.length ≤ cur.size)), Array.length_toList, hcs]
    · show (putAt cur.toList off vs).take (m * size) = putAt xs off vs
      subst ht
      have hl' : off + vs.length ≤ cur.toList.length ∧ off + vs.length ≤ m * size := by
        rw [List.length_take, Array.length_toList] at hl
        rw [Array.length_toList]
        omega
      apply List.ext_getElem?
      intro j
      rw [putAt_get hl, List.getElem?_take, List.getElem?_take, putAt_get hl'.1]
      by_cases h3 : off ≤ j ∧ j < off + vs.length
      · rw [if_pos h3, if_pos (by omega), if_pos h3]
      · rw [if_neg h3, if_neg h3]
theorem row_cell_there (h : Mem W w fs) {i g m c : Nat} {e : TypeId} {size : Nat} {xs : List Value} (hi : fs[i]? = some (.row (.slice (some ⟨g, 0, none⟩) m c) m xs e size)) (off k : Nat) (hl : off + k ≤ xs.length) : w.there g off k := by
  have ho := h.own hi
  obtain ⟨hlen, h2⟩ := ho
  rcases h2 with ⟨h3, _⟩ | ⟨g', cap, cur, hv, hb, hg, hnc, hcm, hcs, ht⟩
  · cases h3
  · injection hv with hv hv2 hv3
    injection hv with hv
    injection hv with hv
    subst hv; subst hv3
    have hcur : m * size ≤ cur.size := by rw [hcs]; exact Nat.mul_le_mul_right _ hnc
    exact there_of_block hg off k (by omega)
/-- A store of one cell into a row. -/
theorem e_storeRow (HF : Fr a n D σ) (HM : Mem W w fs) {t : TypeId} {x y : Operand} {i g off m c : Nat} {xs : List Value} {e : TypeId} {size : Nat} (hop : o.op = .store t x y) (hd : o.dst = none) (hx : look σ x = some (.pointer (some ⟨g, off, none⟩))) (hy : look σ y = some v) (hs : (P.info? t).map (·.size) = some 1) (hv : v.oneCell' = true)
    (hi : fs[i]? = some (.row (.slice (some ⟨g, 0, none⟩) m c) m xs e size)) (ho : off < xs.length) (k : ∀ w', Mem W w' (fs.set i (.row (.slice (some ⟨g, 0, none⟩) m c) m (putAt xs off [v]) e size)) → K a w') : o.wp P a w K Q := by
  have ht := row_cell_there HM hi off 1 (by omega) 0 (by omega)
  rw [Nat.add_zero] at ht
  obtain ⟨u, hu⟩ := Option.isSome_iff_exists.1 ht.1
  unfold Oper.wp execOp
  simp only [hop, HF.eval hx, HF.eval hy, Sem.run_bind, run_storeCell hs hv hu ht.2, Result.andThen_ok, Sem.run_pure, Oper.upon_skip, hd]
  exact k _ (HM.rowSet hi (vs := [v]) ho)
/-- Another spelling of what a row holds. -/
theorem Mem.asRow (h : Mem W w fs) {i m : Nat} {e : TypeId} {size : Nat} {xs ys : List Value} (hi : fs[i]? = some (.row v m xs e size)) (he : xs = ys) : Mem W w (fs.set i (.row v m ys e size)) := by
  subst he
  obtain ⟨hl, hg⟩ := List.getElem?_eq_some_iff.1 hi
  rw [← hg, List.set_getElem_self]
  exact h
end
/-- An element of a list of structs is replaced. -/
theorem putAt_flat {α : Type} (f : α → List Value) (sz : Nat) (hf : ∀ x, (f x).length = sz) : ∀ (l : List α) (k : Nat) (x : α), k < l.length → putAt (l.flatMap f) (k * sz) (f x) = (l.set k x).flatMap f
  | [], k, x, h => by simp at h
  | y :: r, 0, x, h => by
    unfold putAt
    rw [Nat.zero_mul, Nat.zero_add, hf, List.flatMap_cons, List.set_cons_zero, List.flatMap_cons, List.take_zero, List.nil_append, List.drop_append_of_le_length (by rw [hf]; exact Nat.le_refl _), List.drop_of_length_le (by rw [hf]; exact Nat.le_refl _), List.nil_append]
  | y :: r, k + 1, x, h => by
    have ih := putAt_flat f sz hf r k x (by simpa using h)
    unfold putAt at ih ⊢
    rw [List.flatMap_cons, List.set_cons_succ, List.flatMap_cons, ← ih, Nat.succ_mul]
    have e1 : (f y ++ r.flatMap f).take (k * sz + sz) = f y ++ (r.flatMap f).take (k * sz) := by
      rw [List.take_append, List.take_of_length_le (by rw [hf]; omega), hf, Nat.add_sub_cancel]
    have e2 : (f y ++ r.flatMap f).drop (k * sz + sz + (f x).length) = (r.flatMap f).drop (k * sz + (f x).length) := by
      rw [List.drop_append, List.drop_of_length_le (by rw [hf]; omega), List.nil_append, hf y]
      congr 1
      omega
    rw [e1, e2]
    simp only [List.append_assoc]
/-- A cell of the struct at k of a row of the call's own. -/
theorem Mem.rowCell {W w : World} {fs : List Fact} (h : Mem W w fs) {α : Type} {f : α → List Value} {sz : Nat} (hf : ∀ x, (f x).length = sz) {i g m c : Nat} {e : TypeId} {l : List α} (hi : fs[i]? = some (.row (.slice (some ⟨g, 0, none⟩) m c) m (l.flatMap f) e sz)) {k off : Nat} {x : α} {v : Value} (hk : l[k]? = some x) (hv : (f x)[off]? = some v) : w.cell? ⟨g, k * sz + off, none⟩ = some v := by
  obtain ⟨hl, he⟩ := List.getElem?_eq_some_iff.1 hk
  have ho : off < sz := by have := (List.getElem?_eq_some_iff.1 hv).1; rwa [hf] at this
  have := h.rowRange hi (k * sz + off) (ys := [v]) (fun j u hu => by
    cases j with
    | zero =>
      injection hu with hu
      subst hu
      rw [Nat.add_zero, flat_at f sz hf l k off hl ho, he]
      exact hv
    | succ j => cases hu)
  exact this 0 v rfl
end Go.Proofs.YtnakabnmjnfpcaaDoor

namespace Go.Proofs.YtnakabnmjnfpcaaDoor
open Go.RowKit
section
variable {w : World} {B size n : Nat} {A : Option Addr} {xs : List Value} {g o : Nat}
theorem Rd.some_at (h : Rd w B size A n xs) (hn : 0 < n) (hs : 0 < size) : ∃ g o, A = some ⟨g, o, none⟩ ∧ g < B := by
  obtain ⟨ad, rfl, hb, hc⟩ := h.row hn
  have hl := h.len
  have h1 : n * size ≥ 1 * 1 := Nat.mul_le_mul hn hs
  have hsp := spot_none (hc 0 _ (List.getElem?_eq_getElem (by omega)))
  have hs' : ad.spot = none := by simpa [Addr.add] using hsp
  obtain ⟨g, o, sp⟩ := ad
  cases hs'
  exact ⟨g, o, rfl, hb⟩
theorem Rd.range (h : Rd w B size (some ⟨g, o, none⟩) n xs) : w.rangeAt g o xs := fun j u hu => by
  have hj := (List.getElem?_eq_some_iff.1 hu).1
  rcases Nat.eq_zero_or_pos n with rfl | hn
  · have := h.len; omega
  · obtain ⟨ad, e, hb, hc⟩ := h.row hn
    injection e with e
    subst e
    have := hc j u hu
    rwa [Addr.add_mid] at this
theorem Rd.oneAt1 (h : Rd w B 1 (some ⟨g, o, none⟩) n xs) {k : Nat} {u : Value} (hu : xs[k]? = some u) : w.cell? ⟨g, o + k * 1, none⟩ = some u := by rw [Nat.mul_one]; exact h.range k u hu
theorem Rd.structAt {α : Type} {f : α → List Value} (hf : ∀ x, (f x).length = size) {l : List α} (h : Rd w B size (some ⟨g, o, none⟩) n (l.flatMap f)) {k : Nat} {x : α} (hk : l[k]? = some x) : w.rangeAt g (o + k * size) (f x) := fun j u hu => by
  obtain ⟨hl, he⟩ := List.getElem?_eq_some_iff.1 hk
  have hj : j < size := by have := (List.getElem?_eq_some_iff.1 hu).1; rwa [hf] at this
  have h1 := h.range (k * size + j) u ((flat_at f size hf l k j hl hj).trans (by rw [he]; exact hu))
  rw [← Nat.add_assoc] at h1
  exact h1
theorem Rd.partAt {α : Type} {f : α → List Value} (hf : ∀ x, (f x).length = size) {l : List α} (h : Rd w B size (some ⟨g, o, none⟩) n (l.flatMap f)) {k j : Nat} {x : α} {u : Value} (hk : l[k]? = some x) (hu : (f x)[j]? = some u) : w.cell? ⟨g, o + k * size + j, none⟩ = some u := h.structAt hf hk j u hu
end
section
variable {W w : World} {fs : List Fact}
theorem Mem.rowOne (h : Mem W w fs) {i g m c : Nat} {e : TypeId} {xs : List Value} (hi : fs[i]? = some (.row (.slice (some ⟨g, 0, none⟩) m c) m xs e 1)) {k : Nat} {u : Value} (hu : xs[k]? = some u) : w.cell? ⟨g, k * 1, none⟩ = some u := by
  have h1 := h.rowAll hi k u hu
  rwa [Nat.zero_add, ← Nat.mul_one k] at h1
/-- A row under another spelling. -/
theorem Mem.reRow (h : Mem W w fs) {i n n' : Nat} {A : Option Addr} {c size : Nat} {e : TypeId} {xs ys : List Value} (hi : fs[i]? = some (.row (.slice A n c) n xs e size)) (hn : n = n') (hx : xs = ys) : Mem W w (fs.set i (.row (.slice A n' c) n' ys e size)) := by
  subst hn; subst hx
  obtain ⟨hl, he⟩ := List.getElem?_eq_some_iff.1 hi
  rw [← he, List.set_getElem_self]
  exact h
end
theorem map_at {α : Type} {F : α → Value} {l : List α} {k : Nat} {x : α} (h : l[k]? = some x) : (l.map F)[k]? = some (F x) := by rw [List.getElem?_map, h]; rfl
section
variable {P : Program} {Q : Exit → Act → World → Prop} {a : Act} {W w : World} {n d : Nat} {D : List Deferred} {σ : List (Nat × Value)} {o : Oper} {K : Act → World → Prop} {fs : List Fact}
/-- make of an empty slice with room. -/
theorem e_make0 (HF : Fr a n D σ) (HM : Mem W w fs) {t e : Nat} {l c : Operand} {z : Value} {size bytes m : Nat} {kl kc : IntKind} (hop : o.op = .makeSlice t l c) (ei : EI P t e z size bytes) (hl : look σ l = some (.int kl 0)) (hc : look σ c = some (.int kc (m : Int))) (hb : bytes * m ≤ 281474976710656) (h63 : m ≤ 9223372036854775807) (hd : o.dst = some d) (hdn : d < n)
    (k : ∀ a' w' g, Fr a' n D ((d, .slice (some ⟨g, 0, none⟩) 0 m) :: σ) → Mem W w' (.row (.slice (some ⟨g, 0, none⟩) 0 m) 0 [] e size :: fs) → K a' w') : o.wp P a w K Q := by
  obtain ⟨i, hi, hz, hsz, hby⟩ := info_parts ei.hi
  obtain ⟨w', hrun, hown, hgr⟩ := run_make_own (P := P) w w.heap.size t e i z size ei.ht hi hz hsz kl kc m (by rw [hby]; exact hb) h63 (Nat.le_refl _)
  have e1 : (execOp a.eval o).run P w = .ok (.value (.slice (some ⟨w.heap.size, 0, none⟩) 0 m)) w' := by
    unfold execOp
    simp only [hop, HF.eval hl, HF.eval hc, Sem.run_bind]
    rw [hrun]
    rfl
  unfold Oper.wp
  rw [e1, Oper.upon_value, hd]
  exact k _ _ _ (HF.put hdn _) (HM.callRow ((Below.refl _ _).grown hgr (Nat.le_refl _) (fun _ h => by cases h)) hown)
/-- make of a slice of so many zeros. -/
theorem e_makeN (HF : Fr a n D σ) (HM : Mem W w fs) {t e : Nat} {l c : Operand} {z : Value} {size bytes m : Nat} {kl kc : IntKind} (hop : o.op = .makeSlice t l c) (ei : EI P t e z size bytes) (hl : look σ l = some (.int kl (m : Int))) (hc : look σ c = some (.int kc (m : Int))) (hb : bytes * m ≤ 281474976710656) (h63 : m ≤ 9223372036854775807) (hd : o.dst = some d) (hdn : d < n)
    (k : ∀ a' w' g, Fr a' n D ((d, .slice (some ⟨g, 0, none⟩) m m) :: σ) → Mem W w' (.row (.slice (some ⟨g, 0, none⟩) m m) m (madeCells z.cells (m * size)).toList e size :: fs) → K a' w') : o.wp P a w K Q := by
  obtain ⟨i, hi, hz, hsz, hby⟩ := info_parts ei.hi
  obtain ⟨w', hrun, hown, hgr⟩ := run_make_full (P := P) w w.heap.size t e i z size ei.ht hi hz hsz kl kc m (by rw [hby]; exact hb) h63 (Nat.le_refl _)
  have e1 : (execOp a.eval o).run P w = .ok (.value (.slice (some ⟨w.heap.size, 0, none⟩) m m)) w' := by
    unfold execOp
    simp only [hop, HF.eval hl, HF.eval hc, Sem.run_bind]
    rw [hrun]
    rfl
  unfold Oper.wp
  rw [e1, Oper.upon_value, hd]
  exact k _ _ _ (HF.put hdn _) (HM.callRow ((Below.refl _ _).grown hgr (Nat.le_refl _) (fun _ h => by cases h)) hown)
end
/-- The first elements of a longer row. -/
theorem Rd.pre {w : World} {B n m : Nat} {A : Option Addr} {l r : List Nat} (h : Rd w B 1 A m ((l ++ r).map B8)) (hl : l.length = n) (hm : n ≤ m) : Rd w B 1 A n (l.map B8) := by
  have h1 := h.upto hm
  rwa [Nat.mul_one, List.map_append, List.take_append_of_le_length (by simp [hl]), List.take_of_length_le (by simp [hl])] at h1
end Go.Proofs.YtnakabnmjnfpcaaDoor

namespace Go.Proofs.YtnakabnmjnfpcaaDoor
open Go.RowKit
theorem Mem.sub {W w : World} {fs : List Fact} (h : Mem W w fs) {i g : Nat} {cs : Array Value} {t : TypeId} (hi : fs[i]? = some (.blk g cs t)) (off : Nat) {ds : Array Value} (he : (cs.toList.drop off).take ds.size = ds.toList) : w.rangeAt g off ds.toList := fun j u hu => by
  have hr : w.rangeAt g 0 cs.toList := range_of_block (h.blk hi)
  have hc : cs.toList[off + j]? = some u := by
    rw [← he, List.getElem?_take] at hu
    split at hu
    · rwa [List.getElem?_drop] at hu
    · cases hu
  have := hr (off + j) u hc
  rwa [Nat.zero_add] at this
theorem putAt_one {α : Type} (F : α → Value) (l : List α) (k : Nat) (x : α) (hk : k < l.length) : putAt (l.map F) (k * 1) [F x] = (l.set k x).map F := by
  have h1 : ∀ l : List α, l.map F = l.flatMap fun x => [F x] := fun l => by induction l with
    | nil => rfl
    | cons a r ih => rw [List.map_cons, List.flatMap_cons, ih]; rfl
  rw [h1, h1, ← putAt_flat (fun x => [F x]) 1 (fun _ => rfl) l k x hk]
end Go.Proofs.YtnakabnmjnfpcaaDoor

namespace Go.Proofs.YtnakabnmjnfpcaaDoor
open Go.RowKit
section
variable {P : Program} {S : World → Prop} {σ : List (Nat × Value)} {o : Oper}
end
theorem Rd.toB8 {w : World} {B n k : Nat} {A : Option Addr} {l : List Nat} (h : Rd w B 1 A n (l.map B8)) (hk : k ≤ n) : Rd w B 1 A k ((l.take k).map B8) := by
  have h1 := h.upto hk
  rwa [Nat.mul_one, ← List.map_take] at h1
end Go.Proofs.YtnakabnmjnfpcaaDoor

namespace Go.Proofs.YtnakabnmjnfpcaaDoor
open Go.RowKit
theorem Mem.picksT {W w : World} {fs fs' : List Fact} (h : Mem W w fs) (n : Nat) (is : List Nat) (hn : is.Nodup) (hlt : (is.all (· < n)) = true) (he : Go.Proofs.YtnakabnmjnfpcaaDoor.picks fs is ++ fs.drop n = fs') : Mem W w fs' := by
  subst he
  refine ⟨h.below, fun f hf => ?_, List.pairwise_append.2 ⟨pairwise_picks h.apart hn, ?_, ?_⟩⟩
  · rcases List.mem_append.1 hf with hf | hf
    · obtain ⟨j, _, hj⟩ := List.mem_filterMap.1 hf
      exact h.holds f (List.mem_of_getElem? hj)
    · exact h.holds f (List.mem_of_mem_drop hf)
  · exact h.apart.sublist (List.drop_sublist _ _)
  · intro f hf g hg
    obtain ⟨j, hj, hjf⟩ := List.mem_filterMap.1 hf
    have hjn : j < n := by simpa using List.all_eq_true.1 hlt j hj
    obtain ⟨i, hi, hig⟩ := List.getElem_of_mem hg
    rw [List.getElem_drop] at hig
    rw [List.length_drop] at hi
    obtain ⟨hjl, hje⟩ := List.getElem?_eq_some_iff.1 hjf
    have := List.pairwise_iff_getElem.1 h.apart j (n + i) hjl (by omega) (by omega)
    rwa [hje, hig] at this
end Go.Proofs.YtnakabnmjnfpcaaDoor

namespace Go.Proofs.YtnakabnmjnfpcaaDoor
open Go.RowKit Go.MapKept
section
variable {P : Program} {Q : Exit → Act → World → Prop} {a : Act} {W w : World} {n d : Nat} {D : List Deferred} {σ : List (Nat × Value)} {o : Oper} {K : Act → World → Prop} {fs : List Fact} {S : World → Prop}
theorem Mem.objAt (h : Mem W w fs) {i g : Nat} {ob : Obj} (hi : fs[i]? = some (.obj g ob)) : w.heap[g]? = some ob := (h.holds _ (List.mem_of_getElem? hi)).2
theorem Mem.setObj (h : Mem W w fs) {i g : Nat} {ob : Obj} (hi : fs[i]? = some (.obj g ob)) (ob' : Obj) : Mem W { w with heap := w.heap.setIfInBounds g ob' } (fs.set i (.obj g ob')) := by
  have hb := h.holds _ (List.mem_of_getElem? hi)
  have hlt := blk_lt hb.2
  have hother : ∀ k, k ≠ g → (w.heap.setIfInBounds g ob')[k]? = w.heap[k]? := fun k hk => Array.getElem?_setIfInBounds_ne (Ne.symm hk)
  refine h.turn hi ⟨h.below.os, h.below.tape, h.below.output, by simpa using h.below.size, fun k hk => ?_⟩ (fun k _ hne => hother k (fun e => hne (by rw [e]; rfl))) ⟨hb.1, ?_⟩ (fun g' hg' => .inl hg')
  · have := hb.1
    exact (hother k (by omega)).trans (h.below.block k hk)
  · show (w.heap.setIfInBounds g ob')[g]? = some ob'
    rw [Array.getElem?_setIfInBounds_self]
    simp [hlt]
/-- A map is made. -/
theorem e_makeMap (HF : Fr a n D σ) (HM : Mem W w fs) {t : TypeId} (hop : o.op = .makeMap t none) (hd : o.dst = some d) (hdn : d < n)
    (k : ∀ a' w' g, Fr a' n D ((d, .map (some g)) :: σ) → Mem W w' (.obj g (.map #[] 0) :: fs) → K a' w') : o.wp P a w K Q := by
  have e1 : (execOp a.eval o).run P w = .ok (.value (.map (some w.heap.size))) (w.alloc (.map #[] 0)) := by
    unfold execOp
    simp only [hop, Sem.run_bind]
    rfl
  unfold Oper.wp
  rw [e1, Oper.upon_value, hd]
  exact k _ _ _ (HF.put hdn _) (HM.allocObj _)
/-- A key that a map has not yet. -/
theorem e_mapNew (HF : Fr a n D σ) (HM : Mem W w fs) {t kt et : TypeId} {kd : TypeDesc} {m x y : Operand} {i g clock : Nat} {es : Array MapEntry} {key val : Value} (hop : o.op = .mapUpdate t m x y ∨ o.op = .insert t m x y) (hd : o.dst = none) (ht : P.underlying t = some (.map kt et)) (hk : P.underlying kt = some kd)
    (hm : look σ m = some (.map (some g))) (hx : look σ x = some key) (hy : look σ y = some val) (hi : fs[i]? = some (.obj g (.map es clock))) (hkey : IsKey kd key) (hf : Instr.findNow kd key es.toList 0 = some none)
    (k : ∀ w', Mem W w' (fs.set i (.obj g (.map (es.push { key, val, born := clock }) (clock + 1)))) → K a w') : o.wp P a w K Q := by
  have hb := HM.objAt hi
  have e1 : (Instr.mapUpdate t (.map (some g)) key val).run P w = .ok () { w with heap := w.heap.setIfInBounds g (.map (es.push { key, val, born := clock }) (clock + 1)) } := by
    unfold Instr.mapUpdate
    simp only [Sem.run_bind, run_underlying ht, Result.andThen_ok, MapKept.run_getObj_map hb, run_checkKey hk hkey, run_findKey hk hf, MapKept.run_setObj_map _ hb]
  unfold Oper.wp execOp
  rcases hop with hop | hop <;> simp only [hop, HF.eval hm, HF.eval hx, HF.eval hy, Sem.run_bind, e1, Result.andThen_ok, Sem.run_pure, Oper.upon_skip, hd]
  · exact k _ (HM.setObj hi _)
  · exact k _ (HM.setObj hi _)
/-- What a map has under a key. -/
theorem Yl.lookupHas {t kt et : TypeId} {kd : TypeDesc} {m x : Operand} {g clock j : Nat} {es : Array MapEntry} {key v : Value} (hop : o.op = .lookup t m x false) (ht : P.underlying t = some (.map kt et)) (hk : P.underlying kt = some kd) (hm : look σ m = some (.map (some g))) (hx : look σ x = some key) (hb : ∀ w, S w → w.heap[g]? = some (.map es clock)) (hkey : IsKey kd key) (hf : Instr.findNow kd key es.toList 0 = some (some (j, v))) :
    Yl P S σ o v := fun a n D HF w hS => by
  have e1 : (Instr.lookup t (.map (some g)) key false).run P w = .ok v w := by
    unfold Instr.lookup
    simp only [Sem.run_bind, run_underlying ht, Result.andThen_ok, MapKept.run_getObj_map (hb w hS), Sem.run_pure, run_checkKey hk hkey, run_findKey hk hf]
    rfl
  unfold execOp
  simp only [hop, HF.eval hm, HF.eval hx, Sem.run_bind, e1, Result.andThen_ok, Sem.run_pure]
theorem Yl.lookupNone {t kt et : TypeId} {kd : TypeDesc} {m x : Operand} {g clock : Nat} {es : Array MapEntry} {key z : Value} (hop : o.op = .lookup t m x false) (ht : P.underlying t = some (.map kt et)) (hk : P.underlying kt = some kd) (hm : look σ m = some (.map (some g))) (hx : look σ x = some key) (hb : ∀ w, S w → w.heap[g]? = some (.map es clock)) (hkey : IsKey kd key) (hf : Instr.findNow kd key es.toList 0 = some none) (hz : (P.info? et).bind (·.zero) = some z) :
    Yl P S σ o z := fun a n D HF w hS => by
  obtain ⟨inf, hi, hiz⟩ := Option.bind_eq_some_iff.1 hz
  have e1 : (Instr.lookup t (.map (some g)) key false).run P w = .ok z w := by
    unfold Instr.lookup
    simp only [Sem.run_bind, run_underlying ht, Result.andThen_ok, MapKept.run_getObj_map (hb w hS), Sem.run_pure, run_checkKey hk hkey, run_findKey hk hf, zeroValue, typeInfo, program, Sem.run, hi, hiz]
    rfl
  unfold execOp
  simp only [hop, HF.eval hm, HF.eval hx, Sem.run_bind, e1, Result.andThen_ok, Sem.run_pure]
theorem Yl.makeFunc {fn : Fn} {xs ys : Array Operand} {fst caps : List Value} (hop : o.op = .makeFunc fn xs ys) (hx : looks σ xs.toList = some fst) (hy : looks σ ys.toList = some caps) : Yl P S σ o (.func fn fst.toArray caps.toArray) := fun a n D HF w hS => by
  have e1 : xs.map a.eval = fst.toArray := by
    have := looks_map HF hx
    rw [← this, ← Array.toList_map, Array.toArray_toList]
  have e2 : ys.map a.eval = caps.toArray := by
    have := looks_map HF hy
    rw [← this, ← Array.toList_map, Array.toArray_toList]
  unfold execOp
  simp only [hop, Instr.makeFunc, Sem.run_bind, Sem.run_pure, Result.andThen_ok]
  show Result.ok (Next.value (.func fn (Array.map a.eval xs) (Array.map a.eval ys))) w = _
  rw [e1, e2]
/-- A call of a function value, by the contract of its function. -/
theorem e_callv (HF : Fr a n D σ) {fo : Operand} {f : FuncId} {xs : Array Operand} {ts : Array TypeId} {vs fst caps : List Value} {R : Ending → World → Prop} (hop : o.op = .call { callee := .value fo, args := xs, argTypes := ts }) (hfo : look σ fo = some (.func (.func f) fst.toArray caps.toArray)) (hv : looks σ xs.toList = some vs) (hf : callable P f = true) (hd : o.dst = some d) (hdn : d < n)
    (hC : Calls P f (fst ++ vs ++ caps).toArray w R) (k : ∀ e w', R e w' → ∃ v, e = .returned v ∧ ∀ a', Fr a' n D ((d, v) :: σ) → K a' w') : o.wp P a w K Q := by
  have e1 : xs.map a.eval = vs.toArray := by
    have := looks_map HF hv
    rw [← this, ← Array.toList_map, Array.toArray_toList]
  unfold Oper.wp execOp
  simp only [hop, resolve, HF.eval hfo, Deferred.ofValue, invoke, Sem.run_bind, Sem.run_pure, Result.andThen_ok]
  have e3 : fst.toArray ++ Array.map a.eval xs ++ caps.toArray = (fst ++ vs ++ caps).toArray := by simp [e1]
  show Oper.upon P o a K Q (((callFunc f (fst.toArray ++ Array.map a.eval xs ++ caps.toArray)).run P w))
  rw [e3, callable_run hf, Oper.upon_enter]
  refine hC.mono fun e w' he => ?_
  obtain ⟨v, rfl, h2⟩ := k e w' he
  show K (a.put o.dst v) w'
  rw [hd]
  exact h2 _ (HF.put hdn v)
end
end Go.Proofs.YtnakabnmjnfpcaaDoor

namespace Go.Proofs.YtnakabnmjnfpcaaDoor
open Go.RowKit
/-- The greatest number of a kind. -/
def mostN : Go.IntKind → Nat
  | .i8 => 127 | .i16 => 32767 | .i32 => 2147483647 | .i64 => 9223372036854775807
  | .u8 => 255 | .u16 => 65535 | .u32 => 4294967295 | .u64 => 18446744073709551615
theorem wrap_nat (k : Go.IntKind) {m : Nat} (h : m ≤ mostN k) : Go.IntKind.wrap k (m : Int) = (m : Int) := by
  cases k <;> simp only [mostN] at h
  · exact IntWalk.i8_in _ (by omega)
  · exact IntWalk.i16_in _ (by omega)
  · exact IntWalk.i32_in _ (by omega)
  · exact IntWalk.i64_in _ (by omega)
  · exact IntWalk.u8_in _ (by omega)
  · exact IntWalk.u16_in _ (by omega)
  · exact IntWalk.u32_in _ (by omega)
  · exact IntWalk.u64_in _ (by omega)
theorem i64_nat {x : Int} {m : Nat} (h : x = (m : Int)) (hb : m ≤ 9223372036854775807) : Value.int .i64 (Go.IntKind.i64.wrap x) = .int .i64 (m : Int) := by subst h; rw [wrap_nat .i64 hb]
theorem u64_nat {x : Int} {m : Nat} (h : x = (m : Int)) (hb : m ≤ 18446744073709551615) : Value.int .u64 (Go.IntKind.u64.wrap x) = .int .u64 (m : Int) := by subst h; rw [wrap_nat .u64 hb]
theorem u32_nat {x : Int} {m : Nat} (h : x = (m : Int)) (hb : m ≤ 4294967295) : Value.int .u32 (Go.IntKind.u32.wrap x) = .int .u32 (m : Int) := by subst h; rw [wrap_nat .u32 hb]
theorem u8_nat {x : Int} {m : Nat} (h : x = (m : Int)) (hb : m ≤ 255) : Value.int .u8 (Go.IntKind.u8.wrap x) = .int .u8 (m : Int) := by subst h; rw [wrap_nat .u8 hb]
theorem u8_mod (m : Nat) : Value.int .u8 (Go.IntKind.u8.wrap (m : Int)) = .int .u8 ((m % 256 : Nat) : Int) := by
  rw [Go.IntKind.wrap_u8]; simp
theorem tmod_nat (k : Go.IntKind) (m n : Nat) : Value.int k (Int.tmod (m : Int) (n : Int)) = .int k ((m % n : Nat) : Int) := by rw [Int.tmod_eq_emod_of_nonneg (by omega)]; rfl
theorem tdiv_nat (k : Go.IntKind) {m : Nat} (n : Nat) (h : m ≤ mostN k) : Value.int k (Go.IntKind.wrap k (Int.tdiv (m : Int) (n : Int))) = .int k ((m / n : Nat) : Int) := by
  rw [Int.tdiv_eq_ediv_of_nonneg (by omega), show ((m : Int) / (n : Int)) = ((m / n : Nat) : Int) from rfl, wrap_nat k (Nat.le_trans (Nat.div_le_self _ _) h)]
theorem fdiv_nat (k : Go.IntKind) (m : Nat) {j : Nat} {p : Int} {q : Nat} (hp : p = (j : Int)) (hq : 2 ^ (min p.toNat k.bits) = q) : Value.int k (Int.fdiv (m : Int) (2 ^ (min p.toNat k.bits))) = .int k ((m / q : Nat) : Int) := by
  subst hp; subst hq
  congr 1
  rw [Int.fdiv_eq_ediv_of_nonneg _ (by exact_mod_cast Nat.zero_le _)]
  norm_cast
theorem ofInt_nat (w : Nat) {m : Nat} (h : m < 2 ^ w) : (BitVec.ofInt w (m : Int)).toNat = m := by
  rw [BitVec.toNat_ofInt]
  have : ((m : Int) % ((2 ^ w : Nat) : Int)) = (m : Int) := Int.emod_eq_of_lt (by omega) (by exact_mod_cast h)
  rw [this]; rfl
theorem and_nat (k : Go.IntKind) {m n : Nat} (hm : m < 2 ^ k.bits) (hn : n < 2 ^ k.bits) (hr : m &&& n ≤ mostN k) : Value.int k (Go.IntKind.wrap k (BitVec.ofInt k.bits (m : Int) &&& BitVec.ofInt k.bits (n : Int)).toNat) = .int k ((m &&& n : Nat) : Int) := by
  rw [BitVec.toNat_and, ofInt_nat _ hm, ofInt_nat _ hn, wrap_nat k hr]
theorem or_nat (k : Go.IntKind) {m n : Nat} (hm : m < 2 ^ k.bits) (hn : n < 2 ^ k.bits) (hr : m ||| n ≤ mostN k) : Value.int k (Go.IntKind.wrap k (BitVec.ofInt k.bits (m : Int) ||| BitVec.ofInt k.bits (n : Int)).toNat) = .int k ((m ||| n : Nat) : Int) := by
  rw [BitVec.toNat_or, ofInt_nat _ hm, ofInt_nat _ hn, wrap_nat k hr]
theorem xor_nat (k : Go.IntKind) {m n : Nat} (hm : m < 2 ^ k.bits) (hn : n < 2 ^ k.bits) (hr : m ^^^ n ≤ mostN k) : Value.int k (Go.IntKind.wrap k (BitVec.ofInt k.bits (m : Int) ^^^ BitVec.ofInt k.bits (n : Int)).toNat) = .int k ((m ^^^ n : Nat) : Int) := by
  rw [BitVec.toNat_xor, ofInt_nat _ hm, ofInt_nat _ hn, wrap_nat k hr]
theorem and_mask (k : Go.IntKind) {m j n : Nat} (hn : n = 2 ^ j - 1) (hj : 2 ^ j - 1 ≤ mostN k) (hm : m < 2 ^ k.bits) (hn2 : n < 2 ^ k.bits) : Value.int k (Go.IntKind.wrap k (BitVec.ofInt k.bits (m : Int) &&& BitVec.ofInt k.bits (n : Int)).toNat) = .int k ((m % 2 ^ j : Nat) : Int) := by
  subst hn
  have h := Nat.and_two_pow_sub_one_eq_mod m j
  rw [and_nat k hm hn2 (by rw [h]; have := Nat.mod_lt m (Nat.two_pow_pos j); omega), h]
theorem xor_u8 {m n : Nat} (hm : m < 256) (hn : n < 256) : Value.int .u8 (Go.IntKind.u8.wrap (BitVec.ofInt Go.IntKind.u8.bits (m : Int) ^^^ BitVec.ofInt Go.IntKind.u8.bits (n : Int)).toNat) = .int .u8 ((m ^^^ n : Nat) : Int) :=
  xor_nat .u8 (by show m < 256; omega) (by show n < 256; omega) (by have h : m ^^^ n < 256 := Nat.xor_lt_two_pow (n := 8) (by simpa using hm) (by simpa using hn); show _ ≤ 255; omega)
theorem or_u32 {m n : Nat} (hm : m < 4294967296) (hn : n < 4294967296) : Value.int .u32 (Go.IntKind.u32.wrap (BitVec.ofInt Go.IntKind.u32.bits (m : Int) ||| BitVec.ofInt Go.IntKind.u32.bits (n : Int)).toNat) = .int .u32 ((m ||| n : Nat) : Int) :=
  or_nat .u32 (by show m < 4294967296; omega) (by show n < 4294967296; omega) (by have h : m ||| n < 4294967296 := Nat.or_lt_two_pow (n := 32) (by simpa using hm) (by simpa using hn); show _ ≤ 4294967295; omega)
theorem xor_u32 {m n : Nat} (hm : m < 4294967296) (hn : n < 4294967296) : Value.int .u32 (Go.IntKind.u32.wrap (BitVec.ofInt Go.IntKind.u32.bits (m : Int) ^^^ BitVec.ofInt Go.IntKind.u32.bits (n : Int)).toNat) = .int .u32 ((m ^^^ n : Nat) : Int) :=
  xor_nat .u32 (by show m < 4294967296; omega) (by show n < 4294967296; omega) (by have h : m ^^^ n < 4294967296 := Nat.xor_lt_two_pow (n := 32) (by simpa using hm) (by simpa using hn); show _ ≤ 4294967295; omega)
theorem mask_u32 {m j n : Nat} (hn : n = 2 ^ j - 1) (hn2 : n < 4294967296) (hm : m < 4294967296) : Value.int .u32 (Go.IntKind.u32.wrap (BitVec.ofInt Go.IntKind.u32.bits (m : Int) &&& BitVec.ofInt Go.IntKind.u32.bits (n : Int)).toNat) = .int .u32 ((m % 2 ^ j : Nat) : Int) :=
  and_mask .u32 hn (by rw [← hn]; show n ≤ 4294967295; omega) (by show m < 4294967296; omega) (by show n < 4294967296; omega)
theorem or_i64 {m n : Nat} (hm : m < 9223372036854775808) (hn : n < 9223372036854775808) : Value.int .i64 (Go.IntKind.i64.wrap (BitVec.ofInt Go.IntKind.i64.bits (m : Int) ||| BitVec.ofInt Go.IntKind.i64.bits (n : Int)).toNat) = .int .i64 ((m ||| n : Nat) : Int) :=
  or_nat .i64 (by show m < 18446744073709551616; omega) (by show n < 18446744073709551616; omega) (by have h : m ||| n < 9223372036854775808 := Nat.or_lt_two_pow (n := 63) (by simpa using hm) (by simpa using hn); show _ ≤ 9223372036854775807; omega)
theorem getD_at {α : Type} {l : List α} {k : Nat} (d : α) (h : k < l.length) : l[k]? = some (l.getD k d) := by
  rw [List.getD_eq_getElem?_getD, List.getElem?_eq_getElem h]; rfl
theorem getD_mem {α : Type} {l : List α} {k : Nat} (d : α) (h : k < l.length) : l.getD k d ∈ l := List.mem_of_getElem? (getD_at d h)
theorem getD_lt {l : List Nat} {m : Nat} (hl : ∀ b ∈ l, b < m) {k : Nat} (h : k < l.length) : l.getD k 0 < m := hl _ (getD_mem 0 h)
end Go.Proofs.YtnakabnmjnfpcaaDoor

namespace Go.Proofs.YtnakabnmjnfpcaaDoor
open Go.RowKit Go.MapKept
def entOf (p : Nat × Nat) (b : Nat) : MapEntry := { key := .int .i64 (p.1 : Int), val := .int .i64 (p.2 : Int), born := b }
def entsF : Nat → List (Nat × Nat) → List MapEntry
  | _, [] => []
  | b, p :: l => entOf p b :: entsF (b + 1) l
def mapA (l : List (Nat × Nat)) : Array MapEntry := (entsF 0 l).toArray
section
variable {P : Program} {Q : Exit → Act → World → Prop} {a : Act} {W w : World} {n d : Nat} {D : List Deferred} {σ : List (Nat × Value)} {o : Oper} {K : Act → World → Prop} {fs : List Fact} {S : World → Prop}
end
/-- What has been counted of the entries that have been handed out, odd or even. -/
structure Counted (l : List (Nat × Nat)) (seen : Array Nat) (c : Nat) : Prop where
  odd : (c : Int) % 2 = seenSum (mapA l).toList seen % 2
  few : c + (leftOf (mapA l) seen).size ≤ l.length
end Go.Proofs.YtnakabnmjnfpcaaDoor

namespace Go.Proofs.YtnakabnmjnfpcaaDoor
open Go.RowKit
theorem Yl.str {S : World → Prop} {σ : List (Nat × Value)} {o : Oper} {x : Operand} {A : Option Addr} {n c : Nat} {l : List Nat} (hop : o.op = .convert 22 9 x) (hx : look σ x = some (.slice A n c)) (hr : ∀ w, S w → Rd w w.heap.size 1 A n (l.map B8)) : Yl Tryd.prog S σ o (.string (bstr l)) := fun a m D HF w hS => by
  unfold execOp
  simp [hop, HF.eval hx, conv_u8 (hr w hS)]
theorem one_B8 (l : List Nat) : ∀ u ∈ l.map B8, u.oneCell' = true := by
  intro u hu
  obtain ⟨x, _, rfl⟩ := List.mem_map.1 hu
  rfl
theorem Rd.fromB8 {w : World} {B n k cap : Nat} {A : Option Addr} {l : List Nat} (h : Rd w B 1 A n (l.map B8)) (hk : k ≤ n) (hc : n ≤ cap) : Rd w B 1 (if cap = k then A else A.map (·.add (k * 1))) (n - k) ((l.drop k).map B8) := by
  have h1 := h.from hk hc
  rw [List.map_drop]
  have e : (l.map B8).drop (k * 1) = (l.map B8).drop k := by rw [Nat.mul_one]
  rw [← e]
  exact h1
theorem Laid.mem {B : Nat} {W w : World} {fs : List Fact} (h : Laid B W) (hM : Mem W w fs) (hB : B ≤ W.heap.size) : Laid B w := h.below hM.below hB
theorem Mem.le {W w : World} {fs : List Fact} (h : Mem W w fs) {B : Nat} (hB : B ≤ W.heap.size) : B ≤ w.heap.size := Nat.le_trans hB h.size
theorem i64_as {x : Int} (h : -9223372036854775808 ≤ x ∧ x ≤ 9223372036854775807) : Value.int .i64 (IntKind.i64.wrap x) = .int .i64 x := by rw [IntWalk.i64_in x h]
/-- Bytes that a callee hands over, and a number beside them. -/
def BytesIs (w : World) (er : Nat) (R : List Nat) (r : Ending) (w' : World) : Prop :=
  (∃ A c, r = .returned (.tuple #[.slice A R.length c, .int .i64 (er : Int)]) ∧ w'.ownsRow w.heap.size 5 1 (.slice A R.length c) R.length (R.map B8) ∧ R.length ≤ c) ∧ Below w.heap.size w w'
theorem BytesPost.is {w w' : World} {r : Ending} {er er' : Nat} {R R' : List Nat} (h : BytesPost w er R r w') (h1 : er = er') (h2 : R = R') : BytesIs w er' R' r w' := by
  subst h1; subst h2
  obtain ⟨⟨v, rfl, ho⟩, hb⟩ := h
  obtain ⟨A, c, rfl, hc⟩ := own_slice ho
  exact ⟨⟨A, c, rfl, ho, hc⟩, hb⟩
theorem write_is (b : Bs) (A : Option Addr) (n c : Nat) (l : List Ev) (hok : ∀ e ∈ l, e.Ok) (B : Nat) (w : World) (hL : Laid B w) (hB : B ≤ w.heap.size) (hr : Rd w w.heap.size 11 A n (l.flatMap evL)) (hn : n ≤ 1000000000000) {er : Nat} {R : List Nat} (h1 : writeErr b l = er) (h2 : writeOut b l = R) :
    Calls Tryd.prog 56 #[.agg b.cells, .slice A n c] w (BytesIs w er R) :=
  (write_any b A n c l hok B w hL hB hr hn).mono fun _ _ h => h.is h1 h2
section
variable {P : Program} {S : World → Prop} {σ : List (Nat × Value)} {o : Oper} {t e : TypeId} {z : Value} {size bytes : Nat}
theorem Yl.sliceFrom (ei : EI P t e z size bytes) {x lo : Operand} {A : Option Addr} {m c j : Nat} {k : IntKind} (hop : o.op = .slice t x (some lo) none none) (hx : look σ x = some (.slice A m c)) (hl : look σ lo = some (.int k (j : Int))) (hj : j ≤ m) :
    Yl P S σ o (.slice (if c = j then A else A.map (·.add (j * size))) (m - j) (c - j)) := fun a n D HF w hS => by
  unfold execOp
  simp only [hop, HF.eval hx, HF.eval hl, Option.map_some, Option.map_none, Sem.run_bind, Sem.run_pure, slice_from_run (P := P) ei hj, Result.andThen_ok]
theorem Yl.sliceUpto (ei : EI P t e z size bytes) {x hi : Operand} {A : Option Addr} {m c j : Nat} {k : IntKind} (hop : o.op = .slice t x none (some hi) none) (hx : look σ x = some (.slice A m c)) (hl : look σ hi = some (.int k (j : Int))) (hj : j ≤ c) :
    Yl P S σ o (.slice A j c) := fun a n D HF w hS => by
  unfold execOp
  simp only [hop, HF.eval hx, HF.eval hl, Option.map_some, Option.map_none, Sem.run_bind, Sem.run_pure, slice_upto_run (P := P) ei hj, Result.andThen_ok]
end
section
variable {P : Program} {S : World → Prop} {σ : List (Nat × Value)} {o : Oper}
def placesOf (P : Program) : List Field → Option (List (Nat × Nat))
  | [] => some []
  | f :: r => match P.info? f.type, placesOf P r with
    | some i, some l => some ((f.offset, i.size) :: l)
    | _, _ => none
theorem placesOf_run : ∀ {fs : List Field} {l : List (Nat × Nat)}, placesOf P fs = some l → ∀ w, (fs.mapM fun f => (do pure (f.offset, ← sizeOf f.type) : Sem (Nat × Nat))).run P w = .ok l w
  | [], l, h, w => by cases h; rfl
  | f :: r, l, h, w => by
    unfold placesOf at h
    split at h
    · rename_i i l' hi hr
      injection h with h
      subst h
      simp [List.mapM_cons, sizeOf, typeInfo, hi]
      have := placesOf_run hr w
      simp [sizeOf, typeInfo] at this
      simp [this]
    · cases h
def buildCells (P : Program) (t : TypeId) (vs : List (Nat × Value)) : Option (Array Value) := match P.underlying t, zeroCells' P t with
  | some (.struct fs), some z => match placesOf P fs.toList with
    | some l => Instr.fill (l.toArray[·]?) z vs
    | none => none
  | _, _ => none
/-- A struct written out. -/
theorem Yl.build {t : TypeId} {ps : Array (Nat × Operand)} {vs : List (Nat × Value)} {cs : Array Value} (hop : o.op = .build t ps) (hv : partVals σ ps.toList = some vs) (hb : buildCells P t vs = some cs) : Yl P S σ o (.agg cs) := fun a n D HF w hS => by
  have hpm := partVals_arr HF hv
  have e1 : (Instr.build t (ps.map fun p => (p.1, a.eval p.2))).run P w = .ok (.agg cs) w := by
    rw [hpm]
    unfold buildCells at hb
    split at hb
    · rename_i fs z hu hz
      split at hb
      · rename_i l hl
        unfold zeroCells' at hz
        obtain ⟨zv, hz1, rfl⟩ := Option.map_eq_some_iff.1 hz
        obtain ⟨i, hi, hz2⟩ := Option.bind_eq_some_iff.1 hz1
        have hm : (fs.mapM fun f => (do Pure.pure (f.offset, ← sizeOf f.type) : Sem (Nat × Nat))).run P w = .ok l.toArray w := by
          rw [← Array.toArray_toList (xs := fs), List.mapM_toArray]
          simp only [Sem.run_map, placesOf_run hl]
          rfl
        unfold Instr.build
        simp only [Sem.run_bind, zeroValue, typeInfo, program, Sem.run, hi, hz2, Sem.run_pure, Result.andThen_ok, run_underlying hu, hm, hb]
      · cases hb
    · cases hb
  unfold execOp
  simp only [hop, Sem.run_bind, Sem.run_pure]
  show ((Instr.build t (ps.map fun p => (p.1, a.eval p.2))).run P w).andThen _ = _
  rw [e1]
  rfl
end
theorem own_some {w : World} {base : Nat} {e : TypeId} {size n c : Nat} {A : Option Addr} {xs : List Value} (h : w.ownsRow base e size (.slice A n c) n xs) (hn : 0 < n) : ∃ g, A = some ⟨g, 0, none⟩ := by
  obtain ⟨g, c', h1, _⟩ := own_at h hn
  injection h1 with h1 _ _
  exact ⟨g, h1⟩
theorem row_is (A : Option Addr) (n c : Nat) (l : List Ev) (hok : ∀ e ∈ l, e.Ok) (B : Nat) (w : World) (hL : Laid B w) (hB : B ≤ w.heap.size) (hr : Rd w w.heap.size 11 A n (l.flatMap evL)) (hn : n ≤ 140737488355328) {i : Int} {er : Nat} (h : rowR l = (i, er)) :
    Calls Tryd.prog 53 #[.slice A n c] w fun r w' => r = .returned (.tuple #[.int .i64 i, .int .i64 (er : Int)]) ∧ Below w.heap.size w w' :=
  (row_any A n c l hok B w hL hB hr hn).mono fun _ _ p => ⟨by rw [p.ret, h], p.below⟩
theorem size_is (b : Bs) (e : Ev) (he : e.Ok) (B : Nat) (w : World) (hL : Laid B w) (hB : B ≤ w.heap.size) {L er : Nat} (h1 : (putOut b e).length = L) (h2 : putErr b e = er) :
    Calls Tryd.prog 38 #[.agg b.cells, .agg e.cells] w fun r w' => r = .returned (.tuple #[.int .i64 (L : Int), .int .i64 (er : Int)]) ∧ Below w.heap.size w w' :=
  (size_any b e he B w hL hB).mono fun _ _ p => ⟨by rw [p.1, h1, h2], p.2⟩
theorem read_is (b : Bs) (cpu : Nat) (hcpu : cpu < 256) (A : Option Addr) (n c : Nat) (m : Int) (hm : I64 m) (l : List Nat) (B : Nat) (w : World) (hL : Laid B w) (hB : B ≤ w.heap.size) (hr : Rd w w.heap.size 1 A n (l.map B8)) (hc : n ≤ c) (hl : ∀ b ∈ l, b < 256) (hn : n ≤ 200000000000000) (hlim : ReadLim m l) {es : List Ev} {L er : Nat} (h : readR b cpu m l = (es, L, er)) :
    Calls Tryd.prog 46 #[.agg b.cells, .int .u8 (cpu : Int), .int .i64 m, .slice A n c] w fun r w' => (∃ A c, r = .returned (.tuple #[.slice A es.length c, .int .i64 (L : Int), .int .i64 (er : Int)]) ∧ w'.ownsRow w.heap.size 46 11 (.slice A es.length c) es.length (es.flatMap evL) ∧ es.length ≤ c) ∧ Below w.heap.size w w' :=
  (cread_any b cpu hcpu A n c m hm l B w hL hB hr hc hl hn hlim).mono fun r w' p => by
    rw [h] at p
    obtain ⟨⟨v, rfl, ho⟩, hb⟩ := p
    obtain ⟨A, c, rfl, hc⟩ := own_slice ho
    exact ⟨⟨A, c, rfl, ho, hc⟩, hb⟩
end Go.Proofs.YtnakabnmjnfpcaaDoor

namespace Go.Proofs.YtnakabnmjnfpcaaDoor
open Go.RowKit
section
variable {P : Program} {S : World → Prop} {σ : List (Nat × Value)} {o : Oper} {v : Value}
def isFuncT (P : Program) (t : TypeId) : Bool := match P.underlying t with
  | some (.func _ _ _) => true
  | _ => false
theorem equal_func {t : TypeId} {f : Fn} {xs ys : Array Value} (ht : isFuncT P t = true) (w : World) : (Op.equal t (.func f xs ys) .nilFunc).run P w = .ok false w := by
  unfold isFuncT at ht
  split at ht
  · rename_i hu
    show (Op.equalIn (9999 + 1) t (.func f xs ys) .nilFunc).run P w = _
    unfold Op.equalIn
    simp only [Sem.run_bind, run_underlying hu, Result.andThen_ok]
    rfl
  · cases ht
theorem equal_nil {t : TypeId} (ht : isFuncT P t = true) (w : World) : (Op.equal t .nilFunc .nilFunc).run P w = .ok true w := by
  unfold isFuncT at ht
  split at ht
  · rename_i hu
    show (Op.equalIn (9999 + 1) t .nilFunc .nilFunc).run P w = _
    unfold Op.equalIn
    simp only [Sem.run_bind, run_underlying hu, Result.andThen_ok]
    rfl
  · cases ht
theorem Yl.neqFunc {t u : TypeId} {x y : Operand} {f : Fn} {xs ys : Array Value} (hop : o.op = .binOp .neq t x y u) (hx : look σ x = some (.func f xs ys)) (hy : look σ y = some .nilFunc) (ht : isFuncT P t = true) : Yl P S σ o (.bool true) := fun a n D HF w hS => by
  unfold execOp
  have e : (binOp .neq t (.func f xs ys) .nilFunc).run P w = .ok (.bool true) w := by
    show ((do Pure.pure (.bool (!(← Op.equal t (.func f xs ys) .nilFunc))) : Sem Value)).run P w = _
    simp [equal_func ht]
  simp only [hop, HF.eval hx, HF.eval hy, Sem.run_bind, eqGuard_run (P := P) .neq t x y (a := .func f xs ys) rfl, Result.andThen_ok, e, Sem.run_pure]
theorem Yl.neqNil {t u : TypeId} {x y : Operand} (hop : o.op = .binOp .neq t x y u) (hx : look σ x = some .nilFunc) (hy : look σ y = some .nilFunc) (ht : isFuncT P t = true) : Yl P S σ o (.bool false) := fun a n D HF w hS => by
  unfold execOp
  have e : (binOp .neq t .nilFunc .nilFunc).run P w = .ok (.bool false) w := by
    show ((do Pure.pure (.bool (!(← Op.equal t .nilFunc .nilFunc))) : Sem Value)).run P w = _
    simp [equal_nil ht]
  simp only [hop, HF.eval hx, HF.eval hy, Sem.run_bind, eqGuard_run (P := P) .neq t x y (a := .nilFunc) rfl, Result.andThen_ok, e, Sem.run_pure]
theorem Yl.not32 {t : TypeId} {x : Operand} {m : Nat} (hop : o.op = .unOp .xor t x) (hx : look σ x = some (.int .u32 (m : Int))) (hm : m < 4294967296) : Yl P S σ o (.int .u32 ((m ^^^ 4294967295 : Nat) : Int)) := fun a n D HF w hS => by
  have h1 := xor_u32 (m := 4294967295) (n := m) (by decide) hm
  rw [Nat.xor_comm] at h1
  unfold execOp
  simp only [hop, HF.eval hx, Op.unary]
  rw [← h1]
  rfl
/-- An element of an array in memory. -/
def arrElem (P : Program) (t : TypeId) : Option (Nat × Nat) := match P.underlying t with
  | some (.array n e) => (P.info? e).map fun i => (n, i.size)
  | _ => none
theorem Yl.indexAddrA {t : TypeId} {x ix : Operand} {ad : Addr} {m y sz : Nat} {k : IntKind} (hop : o.op = .indexAddr t x ix) (hx : look σ x = some (.pointer (some ad))) (hi : look σ ix = some (.int k (y : Int))) (he : arrElem P t = some (m, sz)) (hy : y < m) : Yl P S σ o (.pointer (some (ad.add (y * sz)))) := fun a n D HF w hS => by
  unfold arrElem at he
  split at he
  · rename_i m' e hu
    obtain ⟨i, hi', he⟩ := Option.map_eq_some_iff.1 he
    injection he with h1 h2
    subst h1; subst h2
    unfold execOp
    simp [hop, HF.eval hx, HF.eval hi, Instr.indexAt, asIntOf, run_underlying hu, hy, sizeOf, typeInfo, hi', Instr.sureAddr]
  · cases he
theorem Yl.slice2 {t e : TypeId} {z : Value} {size bytes : Nat} (ei : EI P t e z size bytes) {x lo hi : Operand} {A : Option Addr} {m c i j : Nat} {k k' : IntKind} (hop : o.op = .slice t x (some lo) (some hi) none) (hx : look σ x = some (.slice A m c)) (hl : look σ lo = some (.int k (i : Int))) (hh : look σ hi = some (.int k' (j : Int))) (hij : i ≤ j) (hj : j ≤ c) :
    Yl P S σ o (.slice (if c = i then A else A.map (·.add (i * size))) (j - i) (c - i)) := fun a n D HF w hS => by
  obtain ⟨inf, hinf, _, hs, _⟩ := info_parts ei.hi
  have hi' : i ≤ c := Nat.le_trans hij hj
  have e1 : (Instr.sliceAt t (.slice A m c) (some (.int k (i : Int))) (some (.int k' (j : Int))) none).run P w = .ok (.slice (if c = i then A else A.map (·.add (i * size))) (j - i) (c - i)) w := by
    subst hs
    simp [Instr.sliceAt, run_underlying ei.ht, Instr.slice, Instr.sliceBounds, Instr.sliceBound, asIntOf, hij, hj, sizeOf, typeInfo, hinf]
  unfold execOp
  simp only [hop, HF.eval hx, HF.eval hl, HF.eval hh, Option.map_some, Option.map_none, Sem.run_bind, e1, Result.andThen_ok]
  rfl
def arrLen (P : Program) (t : TypeId) : Option Nat := match P.underlying t with
  | some (.array n _) => some n
  | _ => none
theorem Yl.arrayAt {t : TypeId} {x : Operand} {A : Option Addr} {m c k : Nat} (hop : o.op = .sliceToArrayPointer t x) (hx : look σ x = some (.slice A m c)) (ht : arrLen P t = some k) (hk : k ≤ m) : Yl P S σ o (.pointer A) := fun a n D HF w hS => by
  unfold arrLen at ht
  split at ht
  · rename_i m' e hu
    injection ht with ht; subst ht
    unfold execOp
    simp [hop, HF.eval hx, Instr.arrayAt, run_underlying hu, Nat.not_lt.2 hk]
  · cases ht
end
theorem Rd.mid {w : World} {B size n c i j : Nat} {A : Option Addr} {xs : List Value} (h : Rd w B size A n xs) (hij : i ≤ j) (hj : j ≤ n) (hc : n ≤ c) :
    Rd w B size (if c = i then A else A.map (·.add (i * size))) (j - i) ((xs.take (j * size)).drop (i * size)) := by
  have h1 := h.from (k := i) (cap := c) (by omega) hc
  have h2 := h1.upto (k := j - i) (by omega)
  rw [List.drop_take, ← Nat.sub_mul]
  exact h2
theorem Rd.midB8 {w : World} {B n c i j : Nat} {A : Option Addr} {l : List Nat} (h : Rd w B 1 A n (l.map B8)) (hij : i ≤ j) (hj : j ≤ n) (hc : n ≤ c) :
    Rd w B 1 (if c = i then A else A.map (·.add (i * 1))) (j - i) (((l.take j).drop i).map B8) := by
  have h1 := h.mid hij hj hc
  rw [Nat.mul_one, Nat.mul_one, ← List.map_take, ← List.map_drop] at h1
  rw [Nat.mul_one]
  exact h1
section
variable {W w : World} {fs : List Fact}
theorem Mem.oldBlk (h : Mem W w fs) {g : Nat} {ob : Obj} (hb : W.heap[g]? = some ob) : w.heap[g]? = some ob := (h.below.block g (blk_lt hb)).trans hb
theorem Mem.oldCell (h : Mem W w fs) {g off : Nat} {cs : Array Value} {t : TypeId} {v : Value} (hb : W.heap[g]? = some (.cells cs t (0, 0))) (hc : cs[off]? = some v) : w.cell? ⟨g, off, none⟩ = some v := by
  simp [World.cell?, h.oldBlk hb, hc]
end
end Go.Proofs.YtnakabnmjnfpcaaDoor

namespace Go.Proofs.YtnakabnmjnfpcaaDoor
open Go.RowKit
section
variable {P : Program} {Q : Exit → Act → World → Prop} {a : Act} {W w : World} {n d : Nat} {D : List Deferred} {σ : List (Nat × Value)} {o : Oper} {K : Act → World → Prop} {fs : List Fact} {S : World → Prop}
theorem Yl.cap {x : Operand} {t : TypeId} {A : Option Addr} {m c : Nat} (hop : o.op = .call { callee := .builtin .cap, args := #[x], argTypes := #[t] }) (hx : look σ x = some (.slice A m c)) (ht : isSl P t = true) : Yl P S σ o (.int .i64 (c : Int)) := fun a n D HF w hS => by
  unfold isSl at ht
  split at ht
  · rename_i e hu
    unfold execOp
    simp [hop, resolve, invoke, builtin, HF.eval hx, Builtin.cap_, run_underlying hu, goInt]
  · cases ht
/-- append(nil, make(.., m)...): a new row of zeros. -/
theorem e_appendZeros (HF : Fr a n D σ) (HM : Mem W w fs) {s x : Operand} {t tn e : TypeId} {z : Value} {size bytes m : Nat} {kn k : IntKind} (hop : o.op = .call { callee := .builtin .append, args := #[s, x], argTypes := #[t, tn] }) (ei : EI P t e z size bytes) (htn : P.underlying tn = some (.int kn))
    (hs : look σ s = some (.slice none 0 0)) (hx : look σ x = some (.int k (m : Int))) (h0 : 0 < m) (h63 : m ≤ 4611686018427387904) (hb : m * bytes ≤ 281474976710656)
    (hd : o.dst = some d) (hdn : d < n) (kk : ∀ a' w' g c', Fr a' n D ((d, .slice (some ⟨g, 0, none⟩) m c') :: σ) → Mem W w' (.row (.slice (some ⟨g, 0, none⟩) m c') m (Builtin.zeroCells z.cells m).toList e size :: fs) → m ≤ c' → K a' w') : o.wp P a w K Q := by
  obtain ⟨i, hi, hz, hsz, hby⟩ := info_parts ei.hi
  have hr := Lib.run_append_nil_zeros (P := P) w t tn o.type e i z k kn ei.ht htn hi hz m h0 (by rw [hsz]; exact ei.hs) (by omega) (by rw [hby]; exact hb)
  have h1 : m ≤ grownCap w m 0 e := grownCap_ge w m 0 e
  have h2 : grownCap w m 0 e ≤ maxLen := grownCap_le_maxLen w m 0 e (by unfold maxLen; omega)
  have hzl : (Builtin.zeroCells z.cells m).size = m * size := by rw [size_zeroCells, ei.hz]
  have hown : (w.drew.alloc (.cells (Builtin.zeroCells z.cells m ++ Builtin.zeroCells z.cells (grownCap w m 0 e - m)) e)).ownsRow w.heap.size e size (.slice (some ⟨w.heap.size, 0, none⟩) m (grownCap w m 0 e)) m (Builtin.zeroCells z.cells m).toList := by
    refine ⟨by simpa using hzl, .inr ⟨w.heap.size, _, _, rfl, Nat.le_refl _, World.alloc_heap_new w.drew _, h1, h2, ?_, ?_⟩⟩
    · rw [Array.size_append, hzl, size_zeroCells, ei.hz, ← Nat.add_mul]
      congr 1
      omega
    · rw [Array.toList_append, ← hzl, ← Array.length_toList]
      exact List.take_left
  unfold Oper.wp execOp
  simp only [hop, resolve, invoke, builtin, Sem.run_bind, Sem.run_pure, Result.andThen_ok, List.map_toArray, List.map_cons, List.map_nil, HF.eval hs, HF.eval hx, hr]
  rw [Oper.upon_value, hd]
  exact kk _ _ w.heap.size _ (HF.put hdn _) (HM.callRow ((Below.refl _ _).drew.alloc (by simp) _) hown) h1
/-- A row made shorter. -/
theorem Mem.shrink (h : Mem W w fs) {i m k c size : Nat} {A : Option Addr} {e : TypeId} {xs : List Value} (hi : fs[i]? = some (.row (.slice A m c) m xs e size)) (hk : k ≤ m) (hA : A = none → k = 0 ∧ c = 0) : Mem W w (fs.set i (.row (.slice A k c) k (xs.take (k * size)) e size)) := by
  have ho := h.own hi
  refine h.turn hi h.below (fun _ _ _ => rfl) ?_ (fun g' hg' => .inl (by cases A <;> exact hg'))
  refine ⟨by rw [List.length_take, ho.1]; exact Nat.min_eq_left (Nat.mul_le_mul_right _ hk), ?_⟩
  rcases ho.2 with ⟨h1, h2⟩ | ⟨g, cap, cur, h1, h2, h3, h4, h5, h6, h7⟩
  · injection h1 with h1 _ _
    obtain ⟨rfl, rfl⟩ := hA h1
    subst h1
    exact .inl ⟨rfl, rfl⟩
  · injection h1 with h1 _ h8
    subst h1; subst h8
    refine .inr ⟨g, c, cur, rfl, h2, h3, by omega, h5, h6, ?_⟩
    rw [← h7, List.take_take, Nat.min_eq_left (Nat.mul_le_mul_right _ hk)]
end
theorem or_mul {m n j : Nat} (hm : m < 2 ^ j) : m ||| n * 2 ^ j = m + n * 2 ^ j := by
  have := Nat.two_pow_add_eq_or_of_lt hm n
  rw [Nat.or_comm, Nat.mul_comm n, ← this, Nat.add_comm]
theorem or_sum32 {m n j p : Nat} (hp : 2 ^ j = p) (hm : m < p) (hb : m + n * p < 4294967296) : Value.int .u32 (Go.IntKind.u32.wrap (BitVec.ofInt Go.IntKind.u32.bits (m : Int) ||| BitVec.ofInt Go.IntKind.u32.bits ((n * p : Nat) : Int)).toNat) = .int .u32 ((m + n * p : Nat) : Int) := by
  subst hp
  have h := or_u32 (m := m) (n := n * 2 ^ j) (by omega) (by omega)
  rw [or_mul hm] at h
  exact h
theorem or_sum64 {m n j p : Nat} (hp : 2 ^ j = p) (hm : n < p) (hb : m * p + n < 9223372036854775808) : Value.int .i64 (Go.IntKind.i64.wrap (BitVec.ofInt Go.IntKind.i64.bits ((m * p : Nat) : Int) ||| BitVec.ofInt Go.IntKind.i64.bits (n : Int)).toNat) = .int .i64 ((m * p + n : Nat) : Int) := by
  subst hp
  have h := or_i64 (m := m * 2 ^ j) (n := n) (by omega) (by omega)
  rw [Nat.or_comm, or_mul hm, Nat.add_comm] at h
  exact h
/-- A slice of bytes, as an element of a slice. -/
structure Part where
  A : Option Addr
  c : Nat
  l : List Nat
def Part.val (p : Part) : Value := .slice p.A p.l.length p.c
theorem parts_snoc {l : List Part} {k : Nat} {d : Part} (h : k < l.length) : (l.take (k + 1)).flatMap (·.l) = (l.take k).flatMap (·.l) ++ (l.getD k d).l := by
  rw [List.take_add_one, getD_at d h]; simp
theorem parts_le {l : List Part} (k : Nat) : ((l.take k).flatMap (·.l)).length ≤ (l.flatMap (·.l)).length := by
  conv => rhs; rw [← List.take_append_drop k l]
  rw [List.flatMap_append, List.length_append]
  omega
end Go.Proofs.YtnakabnmjnfpcaaDoor

namespace Go.Proofs.YtnakabnmjnfpcaaDoor
open Go.RowKit
set_option linter.all false
/-- Is t an array of two integers? -/
def arr2Ok (P : Program) (t : TypeId) : Bool := match P.underlying t with
  | some (.array n e) => n == 2 && (P.cellsOf e == 1 && (isOne P e && match P.underlying e with
    | some (.int _) => true
    | _ => false))
  | _ => false
theorem arr2_run {P : Program} {t : TypeId} (ht : arr2Ok P t = true) {k : Go.IntKind} (a b c d : Int) (w : World) :
    (Op.equal t (.agg #[.int k a, .int k b]) (.agg #[.int k c, .int k d])).run P w = .ok (a == c && b == d) w := by
  unfold arr2Ok at ht
  split at ht
  · rename_i n e hu
    simp only [Bool.and_eq_true, beq_iff_eq] at ht
    obtain ⟨h1, h2, h3, h4⟩ := ht
    subst h1
    split at h4
    · rename_i k' hk
      obtain ⟨i, hi⟩ := info_of_underlying hk
      show (Op.equalIn (9999 + 1) t _ _).run P w = _
      rw [run_equalIn_array w 9999 _ _ hu hi, h2]
      have hp : ∀ (xs : Array Value) (j : Nat) (v : Value), xs[j]? = some v → (part e xs j).run P w = .ok v w := fun xs j v h => by
        unfold part
        simp [isAgg_one h3, h]
      have he : ∀ x y, (Op.equalIn 9999 e (.int k x) (.int k y)).run P w = .ok (x == y) w := fun x y => run_equalIn_int w 9998 e k k' x y hk
      show (Op.eqItems 9999 e 1 _ _ [0, 1]).run P w = _
      have p1 : (part e #[.int k a, .int k b] 0).run P w = .ok (.int k a) w := hp _ _ _ rfl
      have p2 : (part e #[.int k c, .int k d] 0).run P w = .ok (.int k c) w := hp _ _ _ rfl
      have p3 : (part e #[.int k a, .int k b] 1).run P w = .ok (.int k b) w := hp _ _ _ rfl
      have p4 : (part e #[.int k c, .int k d] 1).run P w = .ok (.int k d) w := hp _ _ _ rfl
      have q1 := he a c
      have q2 := he b d
      generalize (9999 : Nat) = dd at q1 q2 ⊢
      simp only [Op.eqItems, Sem.run_bind, Nat.zero_mul, Nat.one_mul, p1, p2, q1, Result.andThen_ok]
      cases h5 : (a == c) <;> cases h6 : (b == d) <;> simp [p3, p4, q2, h6]
    · cases h4
  · cases ht
section
variable {P : Program} {S : World → Prop} {σ : List (Nat × Value)} {o : Oper}
theorem eqGuard_arr2 {t : TypeId} (hg : P.eqGuardType P.depth t = false) (op : BinOp) (x y : Operand) (a b : Array Value) (w : World) : (eqGuard op t x y (.agg a) (.agg b)).run P w = .ok () w := by
  unfold eqGuard
  cases op <;> simp <;> simp [hg]
theorem Yl.neqArr2 {t u : TypeId} {p q : Operand} {k : Go.IntKind} {a b c d : Int} (hop : o.op = .binOp .neq t p q u) (hx : look σ p = some (.agg #[.int k a, .int k b])) (hy : look σ q = some (.agg #[.int k c, .int k d])) (ht : arr2Ok P t = true) (hg : P.eqGuardType P.depth t = false) : Yl P S σ o (.bool (!(a == c && b == d))) := fun ac n D HF w hS => by
  unfold execOp
  have e : (binOp .neq t (.agg #[.int k a, .int k b]) (.agg #[.int k c, .int k d])).run P w = .ok (.bool (!(a == c && b == d))) w := by
    show ((do Pure.pure (.bool (!(← Op.equal t (.agg #[.int k a, .int k b]) (.agg #[.int k c, .int k d])))) : Sem Value)).run P w = _
    simp [arr2_run ht]
  simp only [hop, HF.eval hx, HF.eval hy, Sem.run_bind, eqGuard_arr2 hg, Result.andThen_ok, e, Sem.run_pure]
end
theorem arr2At {w : World} {B n g o k : Nat} {l : List Nat} (h : Rd w B 1 (some ⟨g, o, none⟩) n (l.map B8)) (hk : k + 2 ≤ l.length) : w.rangeAt g (o + k) (#[B8 (l.getD k 0), B8 (l.getD (k + 1) 0)] : Array Value).toList := fun j v hv => by
  have hr := h.range
  rw [Nat.add_assoc]
  refine hr (k + j) v ?_
  rcases j with _ | _ | j
  · simp at hv
    rw [Nat.add_zero, ← hv]
    exact map_at (getD_at 0 (by omega))
  · simp at hv
    rw [← hv]
    exact map_at (getD_at 0 (by omega))
  · simp at hv
end Go.Proofs.YtnakabnmjnfpcaaDoor

namespace Go.Proofs.YtnakabnmjnfpcaaDoor
open Go.RowKit
section
variable {P : Program} {S : World → Prop} {σ : List (Nat × Value)} {o : Oper}
theorem Yl.shrN {t u : TypeId} {x y : Operand} {k k' : Go.IntKind} {m n : Nat} (hop : o.op = .binOp .shr t x y u) (hx : look σ x = some (.int k (m : Int))) (hy : look σ y = some (.int k' (n : Int))) (hn : n ≤ k.bits) : Yl P S σ o (.int k ((m / 2 ^ n : Nat) : Int)) := fun a N D HF w hS => by
  have hb : binVal .shr (.int k (m : Int)) (.int k' (n : Int)) = some (.int k ((m / 2 ^ n : Nat) : Int)) := by
    show (if (n : Int) < 0 then none else some (Value.int k (Int.fdiv (m : Int) (2 ^ (Min.min (n : Int).toNat k.bits))))) = _
    rw [if_neg (by omega)]
    exact congrArg some (fdiv_nat k m (j := n) rfl (by rw [Int.toNat_natCast, Nat.min_eq_left hn]))
  unfold execOp
  simp [hop, HF.eval hx, HF.eval hy, eqGuard_run (P := P) .shr t x y (a := .int k (m : Int)) rfl, binVal_run hb t]
theorem Yl.shlN {t u : TypeId} {x y : Operand} {k k' : Go.IntKind} {m n : Nat} (hop : o.op = .binOp .shl t x y u) (hx : look σ x = some (.int k (m : Int))) (hy : look σ y = some (.int k' (n : Int))) (hn : n ≤ k.bits) (hm : m * 2 ^ n ≤ mostN k) : Yl P S σ o (.int k ((m * 2 ^ n : Nat) : Int)) := fun a N D HF w hS => by
  have hb : binVal .shl (.int k (m : Int)) (.int k' (n : Int)) = some (.int k ((m * 2 ^ n : Nat) : Int)) := by
    show (if (n : Int) < 0 then none else some (Value.int k (k.wrap ((m : Int) * 2 ^ (Min.min (n : Int).toNat k.bits))))) = _
    rw [if_neg (by omega)]
    have e : (m : Int) * 2 ^ (Min.min (n : Int).toNat k.bits) = ((m * 2 ^ n : Nat) : Int) := by rw [Int.toNat_natCast, Nat.min_eq_left hn]; norm_cast
    rw [e, wrap_nat k hm]
  unfold execOp
  simp [hop, HF.eval hx, HF.eval hy, eqGuard_run (P := P) .shl t x y (a := .int k (m : Int)) rfl, binVal_run hb t]
def isBoolT (P : Program) (t : TypeId) : Bool := match P.underlying t with
  | some .bool => true
  | _ => false
theorem equal_bool {t : TypeId} (ht : isBoolT P t = true) (x y : Bool) (w : World) : (Op.equal t (.bool x) (.bool y)).run P w = .ok (x == y) w := by
  unfold isBoolT at ht
  split at ht
  · rename_i hu
    show (Op.equalIn (9999 + 1) t (.bool x) (.bool y)).run P w = _
    exact run_equalIn_bool w 9999 t x y hu
  · cases ht
theorem Yl.eqlBool {t u : TypeId} {p q : Operand} {x y : Bool} (hop : o.op = .binOp .eql t p q u) (hx : look σ p = some (.bool x)) (hy : look σ q = some (.bool y)) (ht : isBoolT P t = true) : Yl P S σ o (.bool (x == y)) := fun a n D HF w hS => by
  unfold execOp
  have e : (binOp .eql t (.bool x) (.bool y)).run P w = .ok (.bool (x == y)) w := by
    show ((do Pure.pure (.bool (← Op.equal t (.bool x) (.bool y))) : Sem Value)).run P w = _
    simp [equal_bool ht]
  simp only [hop, HF.eval hx, HF.eval hy, Sem.run_bind, eqGuard_run (P := P) .eql t p q (a := .bool x) rfl, Result.andThen_ok, e, Sem.run_pure]
end
end Go.Proofs.YtnakabnmjnfpcaaDoor

namespace Go.Proofs.YtnakabnmjnfpcaaDoor
open Go.RowKit
def SizeJ (w : World) (k : Nat) (W : World) : Prop := W.heap[w.heap.size]? = some (.cells #[.int .i64 (k : Int)] 3 (0, 0)) ∧ w.grownBy W none ∧ w.heap.size + 2 ≤ W.heap.size
def SizeA (w : World) (x k : Nat) (a' : Act) (_ : World) : Prop :=
  ∃ p, (grp 10 x)[k]? = some p ∧ a' = { tmps := #[.int .u64 (x : Int), undef, .int .i64 0, .pointer (some ⟨w.heap.size, 0, none⟩), .int .u64 (x : Int), .func (.func 77) #[] #[.pointer (some ⟨w.heap.size + 1, 0, none⟩)], .int .u8 (p.1 : Int), .bool p.2, undef, undef, undef], defers := [] }
theorem blk_set1 {W : World} {g : Nat} {x y : Value} {t : TypeId} (h : W.heap[g]? = some (.cells #[x] t (0, 0))) : (W.setCell ⟨g, 0, none⟩ y).heap[g]? = some (.cells #[y] t (0, 0)) := by
  simp [World.setCell, Array.getElem?_modify, h]
set_option maxRecDepth 100000 in
set_option maxHeartbeats 400000 in
theorem vsize_any (x : Nat) (w : World) (hx : x < 18446744073709551616) :
    Calls Tryd.prog 39 #[.int .u64 (x : Int)] w fun e w' => e = .returned (.int .i64 ((vbytes x).length : Int)) ∧ Below w.heap.size w w' := by
  refine callsIn_wide.1 (callsIn_of_wp_marks (n := 0) Tryd.func39 rfl trivial ?_ rfl)
  simp only [Tryd.ntmps39, List.size_toArray, List.length_cons, List.length_nil, Nat.reduceAdd, Nat.reduceSub, Array.replicate_succ, Array.replicate_zero, List.push_toArray, List.append_toArray, List.nil_append, List.cons_append]
  gi_wp2_with (refine ⟨trivial, rfl, ?_⟩; refine (callsIn_wide.2 (groups_any x _)).mono ?_; rintro e w' ⟨rfl, rfl⟩)
  obtain ⟨W0, hW0⟩ : ∃ W0, W0 = (w.alloc (.cells #[.int .i64 0] 3)).alloc (.cells #[.int .u64 (x : Int)] 44) := ⟨_, rfl⟩
  have hsz : W0.heap.size = w.heap.size + 2 := by rw [hW0]; simp
  have hlen := grp_length 10 x
  have hbx : W0.heap[w.heap.size]? = some (.cells #[.int .i64 0] 3 (0, 0)) := by
    subst hW0
    exact (Below.heap_alloc _ _ _ (by simp)).trans (World.alloc_heap_new w _)
  have hgr : w.grownBy W0 none := by subst hW0; exact (World.grownBy_alloc w _ _).trans (World.grownBy_alloc _ _ _)
  have hxc : W0.cell? ⟨w.heap.size + 1, 0, none⟩ = some (.int .u64 (x : Int)) := by subst hW0; have := World.cell?_alloc_new (w.alloc (.cells #[.int .i64 0] 3)) #[.int .u64 (x : Int)] 44 0; rw [World.size_alloc] at this; exact this
  have hxf : W0.frozen? ⟨w.heap.size + 1, 0, none⟩ = false := by subst hW0; have := World.frozen?_alloc_new (w.alloc (.cells #[.int .i64 0] 3)) #[.int .u64 (x : Int)] 44 0; rw [World.size_alloc] at this; exact this
  rw [← hW0]
  clear hW0
  refine rf_outer rfl (enters_of Tryd.func77 (by kernel_rfl) rfl) (groups1_iter (w.heap.size + 1) x W0 hx hxc hxf) (by intro y hy; obtain ⟨p, _, rfl⟩ := List.mem_map.1 hy; rfl) (by simp [hsz])
    (fun _ b => b = w.heap.size) (SizeJ w) (fun _ _ _ => False) ?hJ ?hJx ?hJ0 ?hJx0 ?hTd ?hN ?h0 (SizeA w x) ?hA ?hassign ?hbody ?hdone ?hstop
  case hJ =>
    rintro k W W' ⟨hb, hg, hs⟩ hk
    have h1 : w.heap.size ∉ [w.heap.size + 1] := by simp
    exact ⟨⟨hk.obj _ _ hb rfl h1, Keep.grown hg hk (by omega) (by simp), Nat.le_trans hs hk.size⟩, fun b h => h⟩
  case hJx => exact fun _ _ _ _ h _ => h.elim
  case hJ0 => rintro k W ⟨_, _, hs⟩; omega
  case hJx0 => exact fun _ _ _ h => h.elim
  case hTd => rintro k W b ⟨hb, _⟩ rfl; exact ⟨_, hb, rfl⟩
  case hN => rintro b rfl ht; omega
  case h0 => exact ⟨hbx, hgr, by omega⟩
  case hA => exact fun _ _ _ _ h _ => h
  case hassign =>
    rintro l k hk W _
    simp only [List.getElem_map, encG]
    have hp : (grp 10 x)[k]? = some ((grp 10 x)[k]'(by simpa using hk)) := List.getElem?_eq_getElem _
    generalize (grp 10 x)[k]'(by simpa using hk) = p at hp
    gi_wp2
    exact ⟨Chg.refl _ _, p, hp, by simp⟩
  case hbody =>
    rintro l k a' W hk hl hr ⟨p, hp, rfl⟩ ⟨hb, hg, hs⟩
    have hc : W.cell? ⟨w.heap.size, 0, none⟩ = some (.int .i64 (k : Int)) := by simp [World.cell?, hb]
    have hf : W.frozen? ⟨w.heap.size, 0, none⟩ = false := by simp [World.frozen?, hb]
    have hkl : k < (grp 10 x).length := by simpa using hk
    have hki : (k : Int) ≤ 10 := by omega
    have HB := hide hb
    have HG := hide hg
    clear hp hr hb hg hbx hgr
    gi_wp2
    rw [Oper.semAt_eq _ _ _ (by intro c h; cases h)]
    have e1 : ∀ (ρ : Operand → Value) (o : Oper), o.op = .load 3 (.tmp 3) → ρ (.tmp 3) = .pointer (some ⟨w.heap.size, 0, none⟩) → (execOp ρ o).run Tryd.prog W = .ok (.value (.int .i64 (k : Int))) W := fun ρ o h1 h2 => by
      have hone : (isAgg 3).run Tryd.prog W = .ok false W := by kernel_rfl
      unfold execOp
      simp [h1, h2, Instr.loadAt, Instr.sureAddr, loadVar, hone, load, Sem.run, hc]
    rw [e1 _ _ rfl rfl, Oper.uponIn_value]
    gi_wp2
    rw [Oper.semAt_eq _ _ _ (by intro c h; cases h)]
    have e2 : ∀ (ρ : Operand → Value) (o : Oper), o.op = .binOp .add 3 (.tmp 8) (.const (.int .i64 1)) 3 → ρ (.tmp 8) = .int .i64 (k : Int) → ρ (.const (.int .i64 1)) = .int .i64 1 → (execOp ρ o).run Tryd.prog W = .ok (.value (.int .i64 ((k : Int) + 1))) W := fun ρ o h1 h2 h3 => by
      unfold execOp
      have e : IntKind.i64.wrap ((k : Int) + 1) = (k : Int) + 1 := IntWalk.i64_in _ (by omega)
      have eb : (binOp .add 3 (.int .i64 (k : Int)) (.int .i64 1)).run Tryd.prog W = .ok (.int .i64 ((k : Int) + 1)) W := by rw [binVal_run (P := Tryd.prog) (v := .int .i64 (IntKind.i64.wrap ((k : Int) + 1))) rfl 3 W, e]
      simp only [h1, h2, h3, Sem.run_bind, eqGuard_run (P := Tryd.prog) .add 3 (.tmp 8) (.const (.int .i64 1)) (a := .int .i64 (k : Int)) rfl, Result.andThen_ok, eb, Sem.run_pure]
    rw [e2 _ _ rfl rfl rfl, Oper.uponIn_value]
    gi_wp2
    rw [Oper.semAt_eq _ _ _ (by intro c h; cases h)]
    have e3 : ∀ (ρ : Operand → Value) (o : Oper), o.op = .store 3 (.tmp 3) (.tmp 9) → ρ (.tmp 3) = .pointer (some ⟨w.heap.size, 0, none⟩) → ρ (.tmp 9) = .int .i64 ((k : Int) + 1) → (execOp ρ o).run Tryd.prog W = .ok .skip (W.setCell ⟨w.heap.size, 0, none⟩ (.int .i64 ((k : Int) + 1))) := fun ρ o h1 h2 h3 => by
      unfold execOp
      simp only [h1, h2, h3, Sem.run_bind, run_storeCell (P := Tryd.prog) (t := 3) (v := .int .i64 ((k : Int) + 1)) (by kernel_rfl) rfl hc hf, Result.andThen_ok, Sem.run_pure]
    rw [e3 _ _ rfl rfl rfl, Oper.uponIn_skip]
    gi_wp2
    have hst : ChgT (fun _ b => b = w.heap.size) W (W.setCell ⟨w.heap.size, 0, none⟩ (.int .i64 ((k : Int) + 1))) :=
      ⟨rfl, rfl, rfl, by simp [World.setCell], fun b _ hT => Below.heap_setCell _ _ _ _ hT, fun b h => .inl h⟩
    refine ⟨hst, ?_, ?_, by have := hst.size; omega⟩
    · exact blk_set1 HB.out
    · exact hst.grown HG.out (fun b hb1 hb2 => by omega)
  case hdone =>
    rintro D W hD ⟨hb, hg, hs⟩ hK
    have HG := hide hg
    have hc : W.cell? ⟨w.heap.size, 0, none⟩ = some (.int .i64 (((grp 10 x).map encG).length : Int)) := by simp [World.cell?, hb]
    have hkp : Keep W0.heap.size [] W (W.putObj D (.deferred none)) := Keep.putObj W _ hK rfl hD
    clear hb hg hbx hgr
    gi_wp2
    refine ⟨by simp, .inl ⟨_, _, rfl, run_takeDeferred hK, ?_⟩⟩
    refine ⟨_, results_tmp rfl _ _ _, ?_, ?_⟩
    · simp [vbytes]
    · exact (Below.refl _ _).grown (Keep.grown HG.out hkp (by omega) (by simp)) (Nat.le_refl _) (fun _ h => by cases h)
  case hstop => exact fun _ _ _ _ _ _ _ h _ => h.elim
end Go.Proofs.YtnakabnmjnfpcaaDoor

namespace Go.Proofs.YtnakabnmjnfpcaaDoor
open Go.RowKit
def intAt (xs : Array Value) (i : Nat) : Int := match xs[i]? with
  | some (.int _ n) => n
  | _ => 0
def eqFieldB (P : Program) (f : Field) (i : Nat) : Bool := f.name != "_" && (f.offset == i && (isOne P f.type && match P.underlying f.type with
  | some (.int _) => true
  | _ => false))
theorem eqFields_ints {P : Program} (d : Nat) (xs ys : Array Value) : ∀ (fs : List Field) (i : Nat) (w : World), (∀ j, j < fs.length → ∃ f k a b, fs[j]? = some f ∧ eqFieldB P f (i + j) = true ∧ xs[i + j]? = some (.int k a) ∧ ys[i + j]? = some (.int k b)) →
    (Op.eqFields (d + 1) xs ys fs).run P w = .ok ((List.range fs.length).all fun j => intAt xs (i + j) == intAt ys (i + j)) w
  | [], i, w, _ => rfl
  | f :: fs, i, w, h => by
    obtain ⟨f', k, a, b, hf, hb, hx, hy⟩ := h 0 (by simp)
    simp only [List.getElem?_cons_zero, Option.some.injEq] at hf
    subst hf
    simp only [eqFieldB, Bool.and_eq_true, bne_iff_ne, beq_iff_eq, Nat.add_zero] at hb
    obtain ⟨h1, h2, h3, h4⟩ := hb
    rw [Nat.add_zero] at hx hy
    have ih := eqFields_ints d xs ys fs (i + 1) w (fun j hj => by
      obtain ⟨f, k, a, b, hf, hb, hx, hy⟩ := h (j + 1) (by simpa using hj)
      refine ⟨f, k, a, b, by simpa using hf, ?_, ?_, ?_⟩
      · rw [show i + 1 + j = i + (j + 1) by omega]; exact hb
      · rw [show i + 1 + j = i + (j + 1) by omega]; exact hx
      · rw [show i + 1 + j = i + (j + 1) by omega]; exact hy)
    have hu : ∃ k', P.underlying f.type = some (.int k') := by
      split at h4
      · rename_i k' hk; exact ⟨k', hk⟩
      · cases h4
    obtain ⟨k', hu⟩ := hu
    have hxi : intAt xs i = a := by simp [intAt, hx]
    have hyi : intAt ys i = b := by simp [intAt, hy]
    have e : (List.range (f :: fs).length).all (fun j => intAt xs (i + j) == intAt ys (i + j)) = ((a == b) && (List.range fs.length).all fun j => intAt xs (i + 1 + j) == intAt ys (i + 1 + j)) := by
      rw [List.length_cons, List.range_succ_eq_map, List.all_cons, Nat.add_zero, hxi, hyi, List.all_map]
      congr 2
      funext j
      simp only [Function.comp_apply, Nat.succ_eq_add_one]
      rw [show i + (j + 1) = i + 1 + j by omega]
    rw [e]
    unfold Op.eqFields
    rw [if_pos h1]
    simp only [Sem.run_bind, part, isAgg_one h3, Result.andThen_ok, Bool.false_eq_true, if_false, h2, hx, hy, Sem.run_pure, run_equalIn_int w d f.type k k' a b hu]
    cases hab : (a == b)
    · simp
    · simp [ih]
def evTypeOk (P : Program) (t : TypeId) : Bool := !P.stoodInHeld t && (!P.eqGuardType P.depth t && ((P.fieldsOf t).size == 11 && ((List.range 11).all fun i => match (P.fieldsOf t).toList[i]? with
  | some f => eqFieldB P f i
  | none => false)))
theorem isStruct_of {P : Program} {t : TypeId} (h : (P.fieldsOf t).size = 11) : P.underlying t = some (.struct (P.fieldsOf t)) := by
  unfold Program.fieldsOf at h ⊢
  split at h
  · rename_i fs hu; rw [hu]
  · cases h
theorem ev_at_int (e : Ev) : ∀ i, i < 11 → ∃ k, e.cells[i]? = some (.int k (intAt e.cells i)) ∧ ∀ e' : Ev, e'.cells[i]? = some (.int k (intAt e'.cells i)) := by
  intro i hi
  have h : i = 0 ∨ i = 1 ∨ i = 2 ∨ i = 3 ∨ i = 4 ∨ i = 5 ∨ i = 6 ∨ i = 7 ∨ i = 8 ∨ i = 9 ∨ i = 10 := by omega
  rcases h with rfl | rfl | rfl | rfl | rfl | rfl | rfl | rfl | rfl | rfl | rfl <;> exact ⟨_, rfl, fun _ => rfl⟩
instance evDec : DecidableEq Ev := fun ⟨a0, a1, a2, a3, a4, a5, a6, a7, a8, a9, a10⟩ ⟨b0, b1, b2, b3, b4, b5, b6, b7, b8, b9, b10⟩ =>
  decidable_of_iff (a0 = b0 ∧ a1 = b1 ∧ a2 = b2 ∧ a3 = b3 ∧ a4 = b4 ∧ a5 = b5 ∧ a6 = b6 ∧ a7 = b7 ∧ a8 = b8 ∧ a9 = b9 ∧ a10 = b10) (by rw [Ev.mk.injEq])
theorem ev_all (x y : Ev) : ((List.range 11).all fun j => intAt x.cells (0 + j) == intAt y.cells (0 + j)) = decide (x = y) := by
  rw [Bool.eq_iff_iff, decide_eq_true_eq]
  constructor
  · intro h
    have g : ∀ j, j < 11 → intAt x.cells j = intAt y.cells j := fun j hj => by
      have := List.all_eq_true.1 h j (List.mem_range.2 hj)
      simpa using this
    obtain ⟨a0, a1, a2, a3, a4, a5, a6, a7, a8, a9, a10⟩ := x
    obtain ⟨b0, b1, b2, b3, b4, b5, b6, b7, b8, b9, b10⟩ := y
    have g0 : a0 = b0 := g 0 (by decide)
    have g1 : a1 = b1 := g 1 (by decide)
    have g2 : (a2 : Int) = b2 := g 2 (by decide)
    have g3 : (a3 : Int) = b3 := g 3 (by decide)
    have g4 : a4 = b4 := g 4 (by decide)
    have g5 : a5 = b5 := g 5 (by decide)
    have g6 : a6 = b6 := g 6 (by decide)
    have g7 : a7 = b7 := g 7 (by decide)
    have g8 : a8 = b8 := g 8 (by decide)
    have g9 : (a9 : Int) = b9 := g 9 (by decide)
    have g10 : a10 = b10 := g 10 (by decide)
    have g2' : a2 = b2 := by omega
    have g3' : a3 = b3 := by omega
    have g9' : a9 = b9 := by omega
    subst g0 g1 g2' g3' g4 g5 g6 g7 g8 g9' g10
    rfl
  · rintro rfl
    simp
theorem evEq_run {P : Program} {t : TypeId} (ht : evTypeOk P t = true) (x y : Ev) (w : World) : (Op.equal t (.agg x.cells) (.agg y.cells)).run P w = .ok (decide (x = y)) w := by
  simp only [evTypeOk, Bool.and_eq_true, Bool.not_eq_true', beq_iff_eq] at ht
  obtain ⟨h1, _, h3, h4⟩ := ht
  unfold Op.equal
  rw [show Op.maxDepth = 9998 + 1 + 1 from rfl, run_equalIn_struct w 9999 t _ _ (isStruct_of h3) h1, eqFields_ints 9998 _ _ _ 0 w]
  · rw [Array.length_toList, h3, ev_all]
  · intro j hj
    rw [Array.length_toList, h3] at hj
    have := List.all_eq_true.1 h4 j (List.mem_range.2 hj)
    split at this
    · rename_i f hf
      obtain ⟨k, hk, hk'⟩ := ev_at_int x j hj
      rw [Nat.zero_add]
      exact ⟨f, k, _, _, hf, this, hk, hk' y⟩
    · cases this
theorem eqGuard_ev {P : Program} {t : TypeId} (ht : evTypeOk P t = true) (op : BinOp) (x y : Operand) (a b : Array Value) (w : World) : (eqGuard op t x y (.agg a) (.agg b)).run P w = .ok () w := by
  simp only [evTypeOk, Bool.and_eq_true, Bool.not_eq_true', beq_iff_eq] at ht
  obtain ⟨_, h2, _⟩ := ht
  unfold eqGuard
  cases op <;> simp <;> simp [h2]
section
variable {P : Program} {S : World → Prop} {σ : List (Nat × Value)} {o : Oper}
theorem Yl.neqEv {t u : TypeId} {p q : Operand} {x y : Ev} (hop : o.op = .binOp .neq t p q u) (hx : look σ p = some (.agg x.cells)) (hy : look σ q = some (.agg y.cells)) (ht : evTypeOk P t = true) : Yl P S σ o (.bool (!decide (x = y))) := fun a n D HF w hS => by
  unfold execOp
  have e : (binOp .neq t (.agg x.cells) (.agg y.cells)).run P w = .ok (.bool (!decide (x = y))) w := by
    show ((do Pure.pure (.bool (!(← Op.equal t (.agg x.cells) (.agg y.cells)))) : Sem Value)).run P w = _
    simp [evEq_run ht]
  simp only [hop, HF.eval hx, HF.eval hy, Sem.run_bind, eqGuard_ev ht, Result.andThen_ok, e, Sem.run_pure]
end
end Go.Proofs.YtnakabnmjnfpcaaDoor

namespace Go.Proofs.YtnakabnmjnfpcaaDoor
open Go.RowKit
def Bk.cells (b : Bk) (A : Option Addr) (c : Nat) : Array Value := #[.int .u8 (b.kind : Int), .int .u8 (b.cpu : Int), .int .i64 b.lost, .int .i64 b.next, .slice A b.evs.length c]
theorem bk_one (b : Bk) (A : Option Addr) (c : Nat) : ∀ v ∈ (b.cells A c).toList, v.oneCell' = true := by intro v hv; simp [Bk.cells] at hv; rcases hv with rfl | rfl | rfl | rfl | rfl <;> rfl
theorem si_bk : SI Tryd.prog 27 5 := ⟨by kernel_rfl, by kernel_rfl⟩
theorem ei_bb : EI Tryd.prog 119 22 (.slice none 0 0) 1 24 := ⟨by kernel_rfl, by kernel_rfl, rfl, by omega⟩
theorem si_a2 : SI Tryd.prog 59 2 := ⟨by kernel_rfl, by kernel_rfl⟩
/-- The package variables that are read. -/
structure LaidX (B : Nat) (w : World) : Prop where
  laid : Laid B w
  halves : ∀ k, k < 16 → w.cell? ⟨2, k, none⟩ = some (.int .u32 ((halvesL.getD k 0 : Nat) : Int))
  big3 : 2 < B
  magic0 : w.cell? ⟨0, 0, none⟩ = some (.int .u8 113)
  magic1 : w.cell? ⟨0, 1, none⟩ = some (.int .u8 116)
  big4 : 0 < B
theorem LaidX.keepAll {B : Nat} {w w' : World} (h : LaidX B w) (hk : ∀ p : Addr, p.block < B → w'.cell? p = w.cell? p) : LaidX B w' :=
  ⟨h.laid.keepAll hk, fun k hk' => (hk _ h.big3).trans (h.halves k hk'), h.big3, (hk _ h.big4).trans h.magic0, (hk _ h.big4).trans h.magic1, h.big4⟩
theorem LaidX.mem {B : Nat} {W w : World} {fs : List Fact} (h : LaidX B W) (hM : Mem W w fs) (hB : B ≤ W.heap.size) : LaidX B w := h.keepAll fun _ hp => hM.below.cell (by omega)
theorem LaidX.below {B B' : Nat} {w w' : World} (h : LaidX B w) (hb : Below B' w w') (hB : B ≤ B') : LaidX B w' := h.keepAll fun p hp => hb.cell (by omega)
theorem halves_lt (k : Nat) (h : k < 16) : halvesL.getD k 0 < 4294967296 := by
  have : ∀ k, k < 16 → halvesL.getD k 0 < 4294967296 := by decide
  exact this k h
theorem halvesAt {B : Nat} {W w : World} {fs : List Fact} (h : LaidX B W) (hM : Mem W w fs) (hB : B ≤ W.heap.size) {k : Nat} (hk : k < 16) : w.cell? ⟨2, k * 1, none⟩ = some (.int .u32 ((halvesL.getD k 0 : Nat) : Int)) := by
  rw [Nat.mul_one]; exact (h.mem hM hB).halves k hk
theorem magicAll {B : Nat} {W w : World} {fs : List Fact} (h : LaidX B W) (hM : Mem W w fs) (hB : B ≤ W.heap.size) : w.rangeAt 0 0 (#[Value.int .u8 113, .int .u8 116] : Array Value).toList := fun j v hv => by
  have h1 := (h.mem hM hB).magic0
  have h2 := (h.mem hM hB).magic1
  rcases j with _ | _ | j
  · simp at hv; subst hv; exact h1
  · simp at hv; subst hv; exact h2
  · simp at hv
/-- An answer, and everything lies as it lay. -/
def Is (w : World) (v : Value) (r : Ending) (w' : World) : Prop := r = .returned v ∧ Below w.heap.size w w'
/-- Bytes that a callee hands over. -/
def BytesOne (w : World) (R : List Nat) (r : Ending) (w' : World) : Prop :=
  (∃ A c, r = .returned (.slice A R.length c) ∧ w'.ownsRow w.heap.size 5 1 (.slice A R.length c) R.length (R.map B8) ∧ R.length ≤ c) ∧ Below w.heap.size w w'
theorem BytesOne.as {w w' : World} {R R' : List Nat} {r : Ending} (h : BytesOne w R r w') (e : R = R') : BytesOne w R' r w' := e ▸ h
theorem bytesOne_row {w w' : World} {R xs : List Nat} {n c : Nat} {A : Option Addr} (ho : w'.ownsRow w.heap.size 5 1 (.slice A n c) n (xs.map B8)) (hc : n ≤ c) (hn : n = R.length) (hx : xs = R) (hb : Below w.heap.size w w') : BytesOne w R (.returned (.slice A n c)) w' := by
  subst hx; subst hn
  exact ⟨⟨A, c, rfl, ho, hc⟩, hb⟩
theorem vwrite_put {x : Nat} {w : World} (hx : x < 18446744073709551616) : Calls Tryd.prog 59 #[.slice none 0 0, .int .u64 (x : Int)] w (BytesOne w (vbytes x)) :=
  (put_any x w w.heap.size (.slice none 0 0) 0 [] hx (World.ownsRow_nil _ _ _ _) (Nat.le_refl _) (by omega)).mono fun e w' ⟨v, h1, h2, h3, _⟩ => by
    rw [Nat.zero_add, List.nil_append] at h2
    obtain ⟨A, c, rfl, hc⟩ := own_slice h2
    exact ⟨⟨A, c, h1, h2, hc⟩, (Below.refl _ _).grown h3 (Nat.le_refl _) (fun g hg => by cases hg)⟩
theorem vall_is (A : Option Addr) (n c : Nat) (ls : List Nat) (w : World) (hr : Rd w w.heap.size 1 A n (ls.map U64)) (hls : ∀ x ∈ ls, x < 18446744073709551616) (hn : 10 * n ≤ 140737488355000) :
    Calls Tryd.prog 37 #[.slice A n c] w (BytesOne w (ls.flatMap vbytes)) :=
  (writeAll_any A n c ls w hr hls hn).mono fun e w' ⟨v, h1, h2, h3⟩ => by
    obtain ⟨A, c, rfl, hc⟩ := own_slice h2
    exact ⟨⟨A, c, h1, h2, hc⟩, h3⟩
theorem headOk_cons {b : Bk} (h : b.evs.length ≠ 0) : b.headOk = decide ((b.evs.getD 0 Ev.zero).cpu = b.cpu) := by
  unfold Bk.headOk
  cases hb : b.evs with
  | nil => rw [hb] at h; simp at h
  | cons e r => rfl
theorem headOk_nil {b : Bk} (h : b.evs.length = 0) : b.headOk = decide (0 < b.lost) := by
  unfold Bk.headOk
  rw [List.length_eq_zero_iff] at h
  rw [h]
theorem base_getD (b : Bk) : b.base = ⟨(b.evs.getD 0 Ev.zero).seq, (b.evs.getD 0 Ev.zero).time⟩ := by
  unfold Bk.base Ev.at
  cases b.evs <;> rfl
theorem kinds3 (k : Nat) : k = 1 ∨ k = 2 ∨ (k ≠ 1 ∧ k ≠ 2) := by omega
/-- What is known of a base whose events fit. -/
theorem base_bnd {b : Bk} (hok : b.Ok) (h : b.fits = true) (hk : b.kind ≠ 2) (hn : b.evs.length ≠ 0) : 0 ≤ b.base.seq ∧ b.base.seq ≤ 281474976710656 ∧ 0 ≤ b.base.time ∧ b.base.time ≤ 281474976710656 := by
  obtain ⟨e, r, g⟩ := fits_row hok (fits_evs h hk).2 hn
  have := g.right
  rw [← g.base] at this
  have h4 : 1 ≤ b.base.seq ∧ b.base.seq ≤ 281474976710656 ∧ 0 ≤ b.base.time ∧ b.base.time ≤ 281474976710656 := by simpa [Bs.right] using this
  omega
theorem fits_lost {b : Bk} (h : b.fits = true) (hk : b.kind ≠ 2) : b.kind = 1 ∧ 0 ≤ b.lost ∧ b.lost ≤ 281474976710656 ∧ b.cpu < 64 ∧ b.next = 0 := by
  obtain ⟨h1, h2⟩ := fits_evs h hk
  unfold Bk.fitsE at h2
  rw [decide_eq_true_eq] at h2
  omega
theorem fits_next {b : Bk} (h : b.fits = true) (hk : b.kind = 2) : 1 ≤ b.next ∧ b.next ≤ 281474976710657 ∧ b.cpu = 0 ∧ b.lost = 0 ∧ b.evs.length = 0 := by
  have h2 := fits_end h hk
  unfold Bk.fitsN at h2
  rw [decide_eq_true_eq] at h2
  exact h2
theorem crcRun_snoc (c : Nat) (l : List Nat) (x : Nat) : crcRun c (l ++ [x]) = byteStep (crcRun c l) x := by unfold crcRun; rw [List.foldl_append]; rfl
theorem crcRun_take {c k : Nat} {l : List Nat} (h : k < l.length) : crcRun c (l.take (k + 1)) = byteStep (crcRun c (l.take k)) (l.getD k 0) := by
  rw [List.take_add_one, getD_at 0 h]; exact crcRun_snoc _ _ _
theorem take_lt {l : List Nat} {m : Nat} (h : ∀ b ∈ l, b < m) (k : Nat) : ∀ b ∈ l.take k, b < m := fun b hb => h b (List.mem_of_mem_take hb)
theorem drop_lt {l : List Nat} {m : Nat} (h : ∀ b ∈ l, b < m) (k : Nat) : ∀ b ∈ l.drop k, b < m := fun b hb => h b (List.mem_of_mem_drop hb)
theorem nib_lt {c : Nat} (h : c < 4294967296) : nib c < 4294967296 := xor_lt32 (by omega) (halves_lt _ (by omega))
theorem crcSum_lt (l : List Nat) : crcSum l < 4294967296 := by unfold crcSum; omega
theorem le4_lt (n : Nat) : ∀ b ∈ le4 n, b < 256 := by intro b hb; simp [le4] at hb; omega
theorem le4_len (n : Nat) : (le4 n).length = 4 := rfl
theorem seal_len (l : List Nat) : (sealL l).length = l.length + 4 := by unfold sealL; rw [List.length_append, le4_len]
end Go.Proofs.YtnakabnmjnfpcaaDoor

namespace Go.Proofs.YtnakabnmjnfpcaaDoor
open Go.RowKit Go.ChangeShapes Go.WideShapes
theorem uses_row {W : World} {fuel : Nat} {cs : List Value} {zs : List Nat} {p : List MemPlace}
    (h : DataW.trod (fun _ => ()) Tryd.prog W 0 (fun _ => true) false fuel 135 cs = some (.slice (zs.map fun z : Nat => .lit (.int .i64 (z : Int))) [], p)) :
    ∃ A c, cs = [.slice A zs.length c] ∧ Rd W W.heap.size 1 A zs.length (zs.map I64v) := by
  obtain ⟨a, cap, hcs, hl, hall⟩ := open_row (e := 3) (by kernel_rfl) (by kernel_rfl) h
  have hcell : ∀ i z, zs[i]? = some z → W.cell? (a.add i) = some (I64v z) := by
    intro i z hz
    obtain ⟨v, n, q, hc, ht⟩ := hall i (.lit (.int .i64 (z : Int))) (by rw [List.getElem?_map, hz]; rfl)
    obtain ⟨z', e1, e2, _⟩ := DataW.trod_int (k := .i64) (by kernel_rfl) ht
    injection e1 with e1
    injection e2 with e2
    subst e1
    simp only [DataW.lit.injEq, Lit.int.injEq, true_and] at e2
    rw [hc, ← e2]
    rfl
  refine ⟨some a, cap, by rw [hcs, List.length_map], by simp, fun hn => ⟨a, rfl, ?_, ?_⟩⟩
  · cases zs with
    | nil => simp at hn
    | cons z zs =>
      have := World.block_lt_of_cell? W _ (hcell 0 z rfl)
      simpa [Addr.add] using this
  · intro j u hu
    rw [List.getElem?_map] at hu
    cases hz : zs[j]? with
    | none => simp [hz] at hu
    | some z => rw [hz] at hu; cases hu; exact hcell j z hz
theorem laid_of_row {W : World} (h : laidMetH Tryd.prog Rows.blockReadsRow.laid W) : Laid W.heap.size W := by
  rw [MakeChecks.laidMetH_plain _ _ _ (by kernel_rfl)] at h
  obtain ⟨g1, t1, cs1, f1, p1, hg1, ht1, hv1, hd1⟩ := Lib.laidMet.reads h (n := "quantum/event.fields") (d := Rows.laid_quantum_event_fields) (List.mem_cons_self ..)
  obtain ⟨g2, t2, cs2, f2, p2, hg2, ht2, hv2, hd2⟩ := Lib.laidMet.reads h (n := "quantum/event.uses") (d := Rows.laid_quantum_event_uses) (List.mem_cons_of_mem _ (List.mem_cons_self ..))
  have gg1 : Tryd.prog.globalNamed "quantum/event.fields" = some 3 := by kernel_rfl
  have gg2 : Tryd.prog.globalNamed "quantum/event.uses" = some 1 := by kernel_rfl
  obtain rfl := Option.some.inj (gg1.symm.trans hg1)
  obtain rfl := Option.some.inj (gg2.symm.trans hg2)
  have ty1 : (Tryd.prog.globals[3]?).map (·.type) = some 164 := by kernel_rfl
  have ty2 : (Tryd.prog.globals[1]?).map (·.type) = some 136 := by kernel_rfl
  obtain rfl := Option.some.inj (ty1.symm.trans ht1)
  obtain rfl := Option.some.inj (ty2.symm.trans ht2)
  have one1 : Tryd.prog.cellsOf 9 = 1 := by kernel_rfl
  have one2 : Tryd.prog.cellsOf 135 = 1 := by kernel_rfl
  have c1 : ∀ i v, cs1.toList[i]? = some v → W.cell? ⟨3, i, none⟩ = some v := fun i v hv => by
    rw [World.var?_cell gg1 hv1 i]; simpa using hv
  have c2 : ∀ i v, cs2.toList[i]? = some v → W.cell? ⟨1, i, none⟩ = some v := fun i v hv => by
    rw [World.var?_cell gg2 hv2 i]; simpa using hv
  have at1 : ∀ (cs : List Value) (i : Nat) (v : Value), (cs.drop (i * 1)).take 1 = [v] → cs[i]? = some v := by
    intro cs i v h
    have := congrArg (·[0]?) h
    simpa [List.getElem?_take, List.getElem?_drop] using this
  have str : ∀ i, i < 7 → ∃ s : ByteArray, W.cell? ⟨3, i, none⟩ = some (.string s) := by
    intro i hi
    obtain ⟨f', d, q, _, ht⟩ := Lib.array_elem (n := 7) (e := 9) (by kernel_rfl) hd1 i hi
    rw [one1] at ht
    obtain ⟨s, hs, _⟩ := DataW.trod_string (by kernel_rfl) ht
    exact ⟨s, c1 i _ (at1 _ _ _ hs)⟩
  have row : ∀ k, k < 11 → ∃ A c, W.cell? ⟨1, k, none⟩ = some (.slice A (usesL k).length c) ∧ Rd W W.heap.size 1 A (usesL k).length ((usesL k).map I64v) := by
    intro k hk
    obtain ⟨f', d, q, hd, ht⟩ := Lib.array_elem (n := 11) (e := 135) (by kernel_rfl) hd2 k hk
    rw [one2] at ht
    by_cases h0 : k = 0
    · subst h0
      simp only [List.getElem?_cons_zero, Option.some.injEq] at hd
      subst hd
      rcases DataW.trod_slice (e := 3) (by kernel_rfl) ht with ⟨hc, _⟩ | ⟨a, len, cap, elems, rest, n, _, _, hx, _⟩
      · exact ⟨none, 0, c2 0 _ (at1 _ _ _ hc), Rd.nil⟩
      · simp at hx
    · have hd' : d = .slice ((usesL k).map fun z : Nat => .lit (.int .i64 (z : Int))) [] := by
        have hk' : k = 1 ∨ k = 2 ∨ k = 3 ∨ k = 4 ∨ k = 5 ∨ k = 6 ∨ k = 7 ∨ k = 8 ∨ k = 9 ∨ k = 10 := by omega
        rcases hk' with rfl | rfl | rfl | rfl | rfl | rfl | rfl | rfl | rfl | rfl <;> exact (Option.some.inj hd).symm
      subst hd'
      obtain ⟨A, c, hc, hr⟩ := uses_row ht
      exact ⟨A, c, c2 k _ (at1 _ _ _ hc), hr⟩
  refine ⟨row, ?_, str, ?_⟩
  · obtain ⟨A, c, h1, _⟩ := row 0 (by omega)
    exact World.block_lt_of_cell? W _ h1
  · obtain ⟨s, h1⟩ := str 0 (by omega)
    exact World.block_lt_of_cell? W _ h1
theorem und_u32 : Tryd.prog.underlying 78 = some (.int .u32) := by kernel_rfl
set_option maxRecDepth 100000 in
theorem laidX_of_row {W : World} (h : laidMetH Tryd.prog Rows.blockReadsRow.laid W) : LaidX W.heap.size W := by
  have hl := laid_of_row h
  rw [MakeChecks.laidMetH_plain _ _ _ (by kernel_rfl)] at h
  obtain ⟨g1, t1, cs1, f1, p1, hg1, ht1, hv1, hd1⟩ := Lib.laidMet.reads h (n := "quantum/crc.halves") (d := Rows.laid_quantum_crc_halves) (List.mem_cons_of_mem _ (List.mem_cons_of_mem _ (List.mem_cons_self ..)))
  obtain ⟨g2, t2, cs2, f2, p2, hg2, ht2, hv2, hd2⟩ := Lib.laidMet.reads h (n := "quantum/block.magic") (d := Rows.laid_quantum_block_magic) (List.mem_cons_of_mem _ (List.mem_cons_of_mem _ (List.mem_cons_of_mem _ (List.mem_cons_self ..))))
  have gg1 : Tryd.prog.globalNamed "quantum/crc.halves" = some 2 := by kernel_rfl
  have gg2 : Tryd.prog.globalNamed "quantum/block.magic" = some 0 := by kernel_rfl
  obtain rfl := Option.some.inj (gg1.symm.trans hg1)
  obtain rfl := Option.some.inj (gg2.symm.trans hg2)
  have ty1 : (Tryd.prog.globals[2]?).map (·.type) = some 144 := by kernel_rfl
  have ty2 : (Tryd.prog.globals[0]?).map (·.type) = some 59 := by kernel_rfl
  obtain rfl := Option.some.inj (ty1.symm.trans ht1)
  obtain rfl := Option.some.inj (ty2.symm.trans ht2)
  have one1 : Tryd.prog.cellsOf 78 = 1 := by kernel_rfl
  have one2 : Tryd.prog.cellsOf 5 = 1 := by kernel_rfl
  have c1 : ∀ i v, cs1.toList[i]? = some v → W.cell? ⟨2, i, none⟩ = some v := fun i v hv => by
    rw [World.var?_cell gg1 hv1 i]; simpa using hv
  have c2 : ∀ i v, cs2.toList[i]? = some v → W.cell? ⟨0, i, none⟩ = some v := fun i v hv => by
    rw [World.var?_cell gg2 hv2 i]; simpa using hv
  have at1 : ∀ (cs : List Value) (i : Nat) (v : Value), (cs.drop (i * 1)).take 1 = [v] → cs[i]? = some v := by
    intro cs i v h
    have := congrArg (·[0]?) h
    simpa [List.getElem?_take, List.getElem?_drop] using this
  have hal : ∀ k, k < 16 → W.cell? ⟨2, k, none⟩ = some (.int .u32 ((halvesL.getD k 0 : Nat) : Int)) := by
    intro k hk
    obtain ⟨f', d, q, hd, ht⟩ := Lib.array_elem (n := 16) (e := 78) (by kernel_rfl) hd1 k hk
    rw [one1] at ht
    have hdk : d = .lit (.int .u32 ((halvesL.getD k 0 : Nat) : Int)) := by
      have hk' : k = 0 ∨ k = 1 ∨ k = 2 ∨ k = 3 ∨ k = 4 ∨ k = 5 ∨ k = 6 ∨ k = 7 ∨ k = 8 ∨ k = 9 ∨ k = 10 ∨ k = 11 ∨ k = 12 ∨ k = 13 ∨ k = 14 ∨ k = 15 := by omega
      rcases hk' with rfl | rfl | rfl | rfl | rfl | rfl | rfl | rfl | rfl | rfl | rfl | rfl | rfl | rfl | rfl | rfl <;> exact (Option.some.inj hd).symm
    subst hdk
    obtain ⟨z, e1, e2, _⟩ := DataW.trod_int und_u32 ht
    have e2 := congrArg Prod.fst e2
    simp only [DataW.lit.injEq, Lit.int.injEq, true_and] at e2
    exact c1 k _ (by rw [at1 _ _ _ e1, ← e2])
  have mag : ∀ k, k < 2 → W.cell? ⟨0, k, none⟩ = some (.int .u8 (([113, 116].getD k 0 : Nat) : Int)) := by
    intro k hk
    obtain ⟨f', d, q, hd, ht⟩ := Lib.array_elem (n := 2) (e := 5) (by kernel_rfl) hd2 k hk
    rw [one2] at ht
    have hdk : d = .lit (.int .u8 (([113, 116].getD k 0 : Nat) : Int)) := by
      have hk' : k = 0 ∨ k = 1 := by omega
      rcases hk' with rfl | rfl <;> exact (Option.some.inj hd).symm
    subst hdk
    obtain ⟨z, e1, e2, _⟩ := DataW.trod_int und_u8 ht
    have e2 := congrArg Prod.fst e2
    simp only [DataW.lit.injEq, Lit.int.injEq, true_and] at e2
    exact c2 k _ (by rw [at1 _ _ _ e1, ← e2])
  exact ⟨hl, hal, World.block_lt_of_cell? W _ (hal 0 (by omega)), mag 0 (by omega), mag 1 (by omega), World.block_lt_of_cell? W _ (mag 0 (by omega))⟩
end Go.Proofs.YtnakabnmjnfpcaaDoor

set_option linter.all false
namespace Go.Proofs.YtnakabnmjnfpcaaDoor
open Go.RowKit
set_option maxRecDepth 100000 in
set_option maxHeartbeats 4000000 in
theorem grow_any (n : Nat) (hn : n ≤ 1000000000000) (w : World) :
    Calls Tryd.prog 74 #[.slice none 0 0, .int .i64 (n : Int)] w fun r w' => (∃ A c, r = .returned (.slice A 0 c) ∧ w'.ownsRow w.heap.size 5 1 (.slice A 0 c) 0 []) ∧ Below w.heap.size w w' := by
 refine calls_enter (vs := [.slice none 0 0, vI n]) Tryd.func74 rfl rfl (by kernel_rfl) (σ0 := [(0, .slice none 0 0), (1, vI n)]) rfl ?_
 intro a HF
 have HM := Mem.start w
 refine wp_seq (from_start ?_)
 refine fp HF 1 0 [(4, .slice none 0 0)] ?_; clear HF; intro a HF
 refine from_done rfl ?_
 refine wp_seq (wp_seq (from_start ?_))
 refine fp HF 2 0 [(6, .bool (decide ((n : Int) < (0 : Int)))), (5, vI n)] ?_; clear HF; intro a HF
 refine from_done rfl ?_
 rcases Bool.eq_false_or_eq_true (decide ((n : Int) < (0 : Int))) with hb6 | hb6
 ·have HF := HF.on 6 hb6
  have hd6 := of_decide_eq_true hb6
  omega
 ·have HF := HF.on 6 hb6
  have hd6 := of_decide_eq_false hb6
  refine cond_false HF rfl (wp_skip (wp_seq (wp_seq (from_start ?_))))
  refine fp HF 2 0 [(9, .slice none 0 0), (8, vI n)] ?_; clear HF; intro a HF
  refine fy HF HM 2 rfl rfl rfl (Yl.cap rfl rfl (by kernel_rfl)) ?_; clear HF; intro a HF
  refine fp HF 1 3 [(11, .slice none 0 0)] ?_; clear HF; intro a HF
  refine fy HF HM 4 rfl rfl rfl (Yl.len rfl rfl (by kernel_rfl)) ?_; clear HF; intro a HF
  refine fp HF 2 5 [(14, vI (IntKind.i64.wrap ((n : Int) - 0))), (13, vI 0)] ?_; clear HF; intro a HF
  replace HF := HF.as (t := 14) (u := vI n) rfl (i64_nat (by omega) (by omega))
  refine fp HF 1 7 [(1, vI n)] ?_; clear HF; intro a HF
  refine from_done rfl ?_
  refine wp_seq (from_start ?_)
  refine fp HF 2 0 [(16, .bool (decide ((n : Int) > (0 : Int)))), (15, vI n)] ?_; clear HF; intro a HF
  refine from_done rfl ?_
  rcases Bool.eq_false_or_eq_true (decide ((n : Int) > (0 : Int))) with hb16 | hb16
  ·have HF := HF.on 16 hb16
   have hd16 := of_decide_eq_true hb16
   refine cond_true HF rfl (from_start ?_)
   refine fp HF 2 0 [(18, .slice none 0 0), (17, .slice none 0 0)] ?_; clear HF; intro a HF
   refine fy HF HM 2 rfl rfl rfl (Yl.cap rfl rfl (by kernel_rfl)) ?_; clear HF; intro a HF
   refine fy HF HM 3 rfl rfl rfl (v := .slice none 0 0) (Yl.sliceUpto ei_u8 (j := 0) rfl rfl rfl (by omega)) ?_; clear HF; intro a HF
   refine fp HF 1 4 [(21, vI n)] ?_; clear HF; intro a HF
   refine from_op HF (i := 5) rfl rfl ?_
   refine e_appendZeros HF HM (kn := .i64) (m := n) rfl ei_u8 (by kernel_rfl) rfl rfl (by omega) (by omega) (by omega) rfl (by decide) ?_
   clear HF HM; intro a w22 g22 c22 HF HM hc22
   refine fp HF 1 6 [(23, .slice none 0 0)] ?_; clear HF; intro a HF
   refine fy HF HM 7 rfl rfl rfl (Yl.len rfl rfl (by kernel_rfl)) ?_; clear HF; intro a HF
   refine fy HF HM 8 rfl rfl rfl (v := vS g22 0 c22) (Yl.sliceUpto ei_u8 (j := 0) rfl rfl rfl (by omega)) ?_; clear HF; intro a HF
   refine fp HF 1 9 [(0, vS g22 0 c22)] ?_; clear HF; intro a HF
   refine from_done rfl ?_
   replace HF := HF.to [(0, vS g22 0 c22), (16, .bool true), (1, vI n), (6, .bool false), (4, .slice none 0 0)]
   replace HM := (HM.shrink (i := 0) (k := 0) rfl (Nat.zero_le _) (fun h => by cases h)).asRow (i := 0) (ys := []) rfl (by simp)
   refine wp_seq (from_start ?_)
   refine fp HF 2 0 [(4, vS g22 0 c22), (26, vS g22 0 c22)] ?_; clear HF; intro a HF
   refine from_done rfl ?_
   refine wp_ret ?_
   exact ret1 rfl HF (.tmp HF rfl) (⟨⟨_, _, rfl, HM.own (i := 0) rfl⟩, HM.below⟩)
  ·have HF := HF.on 16 hb16
   have hd16 := of_decide_eq_false hb16
   refine cond_false HF rfl (wp_skip (wp_seq (from_start ?_)))
   refine fp HF 2 0 [(4, .slice none 0 0), (26, .slice none 0 0)] ?_; clear HF; intro a HF
   refine from_done rfl ?_
   refine wp_ret ?_
   exact ret1 rfl HF (.tmp HF rfl) (⟨⟨_, _, rfl, World.ownsRow_nil _ _ _ _⟩, HM.below⟩)
set_option maxRecDepth 100000 in
set_option maxHeartbeats 4000000 in
theorem concat_any (A : Option Addr) (n c : Nat) (ps : List Part) (w : World) (hr : Rd w w.heap.size 1 A n (ps.map Part.val)) (hln : ps.length = n) (hn : n ≤ 1000000) (hps : ∀ p ∈ ps, Rd w w.heap.size 1 p.A p.l.length (p.l.map B8)) (htot : (ps.flatMap (·.l)).length ≤ 1000000000000) :
    Calls Tryd.prog 57 #[.slice A n c] w (BytesOne w (ps.flatMap (·.l))) := by
 refine calls_enter (vs := [.slice A n c]) Tryd.func57 rfl rfl (by kernel_rfl) (σ0 := [(0, .slice A n c)]) rfl ?_
 intro a HF
 have HM := Mem.start w
 refine wp_seq (from_start ?_)
 refine fp HF 1 0 [(2, .slice none 0 0)] ?_; clear HF; intro a HF
 refine from_done rfl ?_
 refine wp_seq (from_start ?_)
 refine fp HF 1 0 [(3, vI 0)] ?_; clear HF; intro a HF
 refine from_done rfl ?_
 refine wp_seq (wp_seq (from_start ?_))
 refine fp HF 1 0 [(9, .slice A n c)] ?_; clear HF; intro a HF
 refine fy HF HM 1 rfl rfl rfl (Yl.len rfl rfl (by kernel_rfl)) ?_; clear HF; intro a HF
 refine fp HF 1 2 [(11, vI 0)] ?_; clear HF; intro a HF
 refine from_done rfl ?_
 refine wp_block ?_
 refine loop_nat (fun mS aS wS => ∃ (k : Nat), (k ≤ n) ∧ mS = n - k ∧ Fr aS 36 [] [(11, vI k), (10, vI n), (9, .slice A n c), (3, vI (((ps.take k).flatMap (·.l)).length)), (2, .slice none 0 0), (0, .slice A n c)] ∧ Mem w wS []) (m := n - 0) ⟨0, Nat.zero_le _, rfl, HF.sub (by kernel_rfl), HM.picks [] (by decide) rfl⟩ ?_
 clear HF HM; rintro mS a w_ ⟨k, hk, rfl, HF, HM⟩
 have hpk := parts_le (l := ps) k
 have hpk1 := parts_le (l := ps) (k + 1)
 refine wp_seq (from_start ?_)
 refine fp HF 1 0 [(12, .bool (decide ((k : Int) < (n : Int))))] ?_; clear HF; intro a HF
 refine from_done rfl ?_
 refine wp_seq ?_
 rcases Bool.eq_false_or_eq_true (decide ((k : Int) < (n : Int))) with hb12 | hb12
 ·have HF := HF.on 12 hb12
  have hd12 := of_decide_eq_true hb12
  have hk12 : k < n := by omega
  refine cond_true HF rfl (wp_skip (wp_seq (wp_block (wp_seq (from_start ?_)))))
  obtain ⟨gA, oA, rfl, _⟩ := hr.some_at (Nat.lt_of_le_of_lt (Nat.zero_le _) (show k < n from by omega)) (by decide)
  refine fy HF HM 0 rfl rfl rfl (v := vP gA (oA + k * 1)) ((Yl.indexAddr (ad := ⟨gA, oA, none⟩) (y := k) (sz := 1) rfl rfl rfl (by omega) (by kernel_rfl)).as (by rw [Addr.add_mid])) ?_; clear HF; intro a HF
  refine fy HF HM 1 rfl rfl rfl (v := .slice ((ps.getD k (⟨none, 0, []⟩ : Part)).A) ((ps.getD k (⟨none, 0, []⟩ : Part)).l.length) ((ps.getD k (⟨none, 0, []⟩ : Part)).c)) (Yl.load1 rfl rfl (by kernel_rfl) (fun _ h => (h.old hr).oneAt1 (k := k) (map_at (F := Part.val) (k := k) (x := (ps.getD k (⟨none, 0, []⟩ : Part))) ((getD_at (⟨none, 0, []⟩ : Part) (k := k) (by first | omega | (simp; omega))))))) ?_; clear HF; intro a HF
  refine fp HF 1 2 [(5, .slice ((ps.getD k (⟨none, 0, []⟩ : Part)).A) ((ps.getD k (⟨none, 0, []⟩ : Part)).l.length) ((ps.getD k (⟨none, 0, []⟩ : Part)).c))] ?_; clear HF; intro a HF
  refine from_done rfl ?_
  refine wp_seq (from_start ?_)
  refine fp HF 2 0 [(16, .slice ((ps.getD k (⟨none, 0, []⟩ : Part)).A) ((ps.getD k (⟨none, 0, []⟩ : Part)).l.length) ((ps.getD k (⟨none, 0, []⟩ : Part)).c)), (15, vI (((ps.take k).flatMap (·.l)).length))] ?_; clear HF; intro a HF
  refine fy HF HM 2 rfl rfl rfl (Yl.len rfl rfl (by kernel_rfl)) ?_; clear HF; intro a HF
  refine fp HF 1 3 [(18, vI (IntKind.i64.wrap ((((ps.take k).flatMap (·.l)).length : Int) + (((ps.getD k (⟨none, 0, []⟩ : Part)).l.length : Nat) : Int))))] ?_; clear HF; intro a HF
  replace HF := HF.as (t := 18) (u := vI (((ps.take (k + 1)).flatMap (·.l)).length)) rfl (i64_nat (by rw [parts_snoc (d := (⟨none, 0, []⟩ : Part)) (by omega), List.length_append]; omega) (by have := parts_le (l := ps) (k + 1); omega))
  refine fp HF 1 4 [(3, vI (((ps.take (k + 1)).flatMap (·.l)).length))] ?_; clear HF; intro a HF
  refine from_done rfl ?_
  refine wp_seq (from_start ?_)
  refine fp HF 2 0 [(20, .bool (decide ((((ps.take (k + 1)).flatMap (·.l)).length : Int) < (0 : Int)))), (19, vI (((ps.take (k + 1)).flatMap (·.l)).length))] ?_; clear HF; intro a HF
  refine from_done rfl ?_
  rcases Bool.eq_false_or_eq_true (decide ((((ps.take (k + 1)).flatMap (·.l)).length : Int) < (0 : Int))) with hb20 | hb20
  ·have HF := HF.on 20 hb20
   have hd20 := of_decide_eq_true hb20
   omega
  ·have HF := HF.on 20 hb20
   have hd20 := of_decide_eq_false hb20
   refine cond_false HF rfl (wp_skip (from_start ?_))
   refine fp HF 1 0 [(22, vI (IntKind.i64.wrap ((k : Int) + 1)))] ?_; clear HF; intro a HF
   replace HF := HF.as (t := 22) (u := vI (k + 1 : Nat)) rfl (i64_nat (by omega) (by omega))
   refine fp HF 1 1 [(11, vI (k + 1 : Nat))] ?_; clear HF; intro a HF
   refine from_done rfl ?_
   exact ⟨_, (by omega), k + 1, by omega, rfl, HF.sub (by kernel_rfl), HM.picks [] (by decide) rfl⟩
 ·have HF := HF.on 12 hb12
  have hd12 := of_decide_eq_false hb12
  obtain rfl : n = k := by omega
  refine cond_false HF rfl (wp_exit (wp_seq (from_start ?_)))
  refine fp HF 1 0 [(23, vI (((ps.take n).flatMap (·.l)).length))] ?_; clear HF; intro a HF
  refine from_op HF (i := 1) rfl rfl ?_
  refine e_call HF (vs := [.slice none 0 0, vI (((ps.take n).flatMap (·.l)).length)]) rfl (by kernel_rfl) (by kernel_rfl) rfl (by decide) (grow_any _ (by omega) _) ?_
  rintro _ w24 ⟨⟨A24, c24, rfl, ho⟩, hbw⟩
  refine ⟨_, rfl, ?_⟩
  replace HM := HM.callRow hbw ho
  clear HF; intro a HF
  refine fp HF 1 2 [(6, .slice A24 0 c24)] ?_; clear HF; intro a HF
  refine from_done rfl ?_
  refine wp_seq (wp_seq (from_start ?_))
  refine fp HF 1 0 [(25, .slice A n c)] ?_; clear HF; intro a HF
  refine fy HF HM 1 rfl rfl rfl (Yl.len rfl rfl (by kernel_rfl)) ?_; clear HF; intro a HF
  refine fp HF 1 2 [(27, vI 0)] ?_; clear HF; intro a HF
  refine from_done rfl ?_
  refine wp_block ?_
  refine loop_nat (fun mS aS wS => ∃ (k : Nat) (Ak : Option Addr) (ck : Nat), (k ≤ n) ∧ (((ps.take k).flatMap (·.l)).length ≤ ck) ∧ mS = n - k ∧ Fr aS 36 [] [(27, vI k), (26, vI n), (25, .slice A n c), (6, .slice Ak (((ps.take k).flatMap (·.l)).length) ck), (12, .bool false), (11, vI n), (10, vI n), (9, .slice A n c), (3, vI (((ps.take n).flatMap (·.l)).length)), (2, .slice none 0 0), (0, .slice A n c)] ∧ Mem w wS [.row (.slice Ak (((ps.take k).flatMap (·.l)).length) ck) (((ps.take k).flatMap (·.l)).length) (((ps.take k).flatMap (·.l)).map B8) 5 1]) (m := n - 0) ⟨0, A24, c24, Nat.zero_le _, Nat.zero_le _, rfl, HF.sub (by kernel_rfl), HM.picks [0] (by decide) rfl⟩ ?_
  clear HF HM; rintro mS a w_ ⟨k, Ak, ck, hk, hck, rfl, HF, HM⟩
  refine wp_seq (from_start ?_)
  refine fp HF 1 0 [(28, .bool (decide ((k : Int) < (n : Int))))] ?_; clear HF; intro a HF
  refine from_done rfl ?_
  refine wp_seq ?_
  rcases Bool.eq_false_or_eq_true (decide ((k : Int) < (n : Int))) with hb28 | hb28
  ·have HF := HF.on 28 hb28
   have hd28 := of_decide_eq_true hb28
   have hk28 : k < n := by omega
   refine cond_true HF rfl (wp_skip (wp_seq (wp_block (wp_seq (from_start ?_)))))
   obtain ⟨gA, oA, rfl, _⟩ := hr.some_at (Nat.lt_of_le_of_lt (Nat.zero_le _) (show k < n from by omega)) (by decide)
   refine fy HF HM 0 rfl rfl rfl (v := vP gA (oA + k * 1)) ((Yl.indexAddr (ad := ⟨gA, oA, none⟩) (y := k) (sz := 1) rfl rfl rfl (by omega) (by kernel_rfl)).as (by rw [Addr.add_mid])) ?_; clear HF; intro a HF
   refine fy HF HM 1 rfl rfl rfl (v := .slice ((ps.getD k (⟨none, 0, []⟩ : Part)).A) ((ps.getD k (⟨none, 0, []⟩ : Part)).l.length) ((ps.getD k (⟨none, 0, []⟩ : Part)).c)) (Yl.load1 rfl rfl (by kernel_rfl) (fun _ h => (h.old hr).oneAt1 (k := k) (map_at (F := Part.val) (k := k) (x := (ps.getD k (⟨none, 0, []⟩ : Part))) ((getD_at (⟨none, 0, []⟩ : Part) (k := k) (by first | omega | (simp; omega))))))) ?_; clear HF; intro a HF
   refine fp HF 1 2 [(8, .slice ((ps.getD k (⟨none, 0, []⟩ : Part)).A) ((ps.getD k (⟨none, 0, []⟩ : Part)).l.length) ((ps.getD k (⟨none, 0, []⟩ : Part)).c))] ?_; clear HF; intro a HF
   refine from_done rfl ?_
   refine from_start ?_
   refine fp HF 2 0 [(32, .slice ((ps.getD k (⟨none, 0, []⟩ : Part)).A) ((ps.getD k (⟨none, 0, []⟩ : Part)).l.length) ((ps.getD k (⟨none, 0, []⟩ : Part)).c)), (31, .slice Ak (((ps.take k).flatMap (·.l)).length) ck)] ?_; clear HF; intro a HF
   refine from_op HF (i := 2) rfl rfl ?_
   refine e_append HF HM (i := 0) rfl ei_u8 rfl rfl rfl (news := ((ps.getD k (⟨none, 0, []⟩ : Part)).l.map B8)) (HM.old (hps _ (getD_mem _ (by omega)))) (one_B8 _) (by have := parts_le (l := ps) (k + 1); rw [parts_snoc (d := (⟨none, 0, []⟩ : Part)) (by omega), List.length_append] at this; omega) (by have := parts_le (l := ps) (k + 1); rw [parts_snoc (d := (⟨none, 0, []⟩ : Part)) (by omega), List.length_append] at this; omega) rfl (by decide) ?_
   clear HF HM; intro a w33 A33 c33 HF HM hc33
   refine fp HF 1 3 [(6, .slice A33 (((ps.take k).flatMap (·.l)).length + (ps.getD k (⟨none, 0, []⟩ : Part)).l.length) c33)] ?_; clear HF; intro a HF
   refine from_done rfl ?_
   have hnA33 : ((ps.take k).flatMap (·.l)).length + (ps.getD k (⟨none, 0, []⟩ : Part)).l.length = ((ps.take (k + 1)).flatMap (·.l)).length := by rw [parts_snoc (d := (⟨none, 0, []⟩ : Part)) (by omega), List.length_append]
   replace HM := HM.reRow (i := 0) (ys := ((ps.take (k + 1)).flatMap (·.l)).map B8) rfl hnA33 (by rw [parts_snoc (d := (⟨none, 0, []⟩ : Part)) (by omega), List.map_append])
   rw [hnA33] at hc33
   replace HF := HF.as (t := 6) (u := .slice A33 (((ps.take (k + 1)).flatMap (·.l)).length) c33) rfl (by rw [hnA33])
   replace HF := HF.as (t := 33) (u := .slice A33 (((ps.take (k + 1)).flatMap (·.l)).length) c33) rfl (by rw [hnA33])
   refine from_start ?_
   refine fp HF 1 0 [(34, vI (IntKind.i64.wrap ((k : Int) + 1)))] ?_; clear HF; intro a HF
   replace HF := HF.as (t := 34) (u := vI (k + 1 : Nat)) rfl (i64_nat (by omega) (by omega))
   refine fp HF 1 1 [(27, vI (k + 1 : Nat))] ?_; clear HF; intro a HF
   refine from_done rfl ?_
   exact ⟨_, (by omega), k + 1, A33, c33, by omega, hc33, rfl, HF.sub (by kernel_rfl), HM.picks [0] (by decide) rfl⟩
  ·have HF := HF.on 28 hb28
   have hd28 := of_decide_eq_false hb28
   obtain rfl : n = k := by omega
   refine cond_false HF rfl (wp_exit (wp_seq (from_start ?_)))
   refine fp HF 2 0 [(2, .slice Ak (((ps.take n).flatMap (·.l)).length) ck), (35, .slice Ak (((ps.take n).flatMap (·.l)).length) ck)] ?_; clear HF; intro a HF
   refine from_done rfl ?_
   refine wp_ret ?_
   exact ret1 rfl HF (.tmp HF rfl) (bytesOne_row (HM.own (i := 0) rfl) hck (by rw [List.take_of_length_le (by omega)]) (by rw [List.take_of_length_le (by omega)]) HM.below)
theorem take_eq_snoc {a b : List Ev} {k : Nat} (h : a.take k = b.take k) (ha : k < a.length) (hb : k < b.length) (he : a.getD k Ev.zero = b.getD k Ev.zero) : a.take (k + 1) = b.take (k + 1) := by
  rw [List.take_add_one, List.take_add_one, getD_at Ev.zero ha, getD_at Ev.zero hb, h, he]
theorem take_all_eq {a b : List Ev} {k : Nat} (h : a.take k = b.take k) (ha : a.length ≤ k) (hb : b.length ≤ k) : a = b := by
  rwa [List.take_of_length_le ha, List.take_of_length_le hb] at h
set_option maxRecDepth 100000 in
set_option maxHeartbeats 4000000 in
theorem equal_any (A A2 : Option Addr) (n m c c2 : Nat) (es gs : List Ev) (w : World) (hr : Rd w w.heap.size 11 A n (es.flatMap evL)) (hr2 : Rd w w.heap.size 11 A2 m (gs.flatMap evL)) (hla : es.length = n) (hlb : gs.length = m) (hn : n ≤ 1000000000000) :
    Calls Tryd.prog 41 #[.slice A n c, .slice A2 m c2] w (Is w (.bool (decide (es = gs)))) := by
 refine calls_enter (vs := [.slice A n c, .slice A2 m c2]) Tryd.func41 rfl rfl (by kernel_rfl) (σ0 := [(0, .slice A n c), (1, .slice A2 m c2)]) rfl ?_
 intro a HF
 have HM := Mem.start w
 refine wp_seq (from_start ?_)
 refine fp HF 1 0 [(4, .bool false)] ?_; clear HF; intro a HF
 refine from_done rfl ?_
 refine wp_seq (wp_seq (from_start ?_))
 refine fp HF 1 0 [(6, .slice A n c)] ?_; clear HF; intro a HF
 refine fy HF HM 1 rfl rfl rfl (Yl.len rfl rfl (by kernel_rfl)) ?_; clear HF; intro a HF
 refine fp HF 1 2 [(8, .slice A2 m c2)] ?_; clear HF; intro a HF
 refine fy HF HM 3 rfl rfl rfl (Yl.len rfl rfl (by kernel_rfl)) ?_; clear HF; intro a HF
 refine fp HF 1 4 [(10, .bool ((n : Int) != (m : Int)))] ?_; clear HF; intro a HF
 refine from_done rfl ?_
 rcases Bool.eq_false_or_eq_true ((n : Int) != (m : Int)) with hb10 | hb10
 ·have HF := HF.on 10 hb10
  have hd10 := bne_iff_ne.1 hb10
  refine cond_true HF rfl (wp_seq (from_start ?_))
  refine fp HF 1 0 [(4, .bool false)] ?_; clear HF; intro a HF
  refine from_done rfl ?_
  refine wp_ret ?_
  exact ret1 rfl HF (.tmp HF rfl) (⟨by rw [decide_eq_false (fun h => by rw [h] at hla; omega)], HM.below⟩)
 ·have HF := HF.on 10 hb10
  have hd10 := bne_eq_false_iff_eq.1 hb10
  refine cond_false HF rfl (wp_skip (wp_seq (wp_seq (from_start ?_))))
  refine fp HF 1 0 [(11, .slice A n c)] ?_; clear HF; intro a HF
  refine fy HF HM 1 rfl rfl rfl (Yl.len rfl rfl (by kernel_rfl)) ?_; clear HF; intro a HF
  refine fp HF 1 2 [(13, vI 0)] ?_; clear HF; intro a HF
  refine from_done rfl ?_
  refine wp_block ?_
  refine loop_nat (fun mS aS wS => ∃ (k : Nat), (k ≤ n) ∧ (es.take k = gs.take k) ∧ mS = n - k ∧ Fr aS 26 [] [(13, vI k), (12, vI n), (10, .bool false), (4, .bool false), (0, .slice A n c), (1, .slice A2 m c2)] ∧ Mem w wS []) (m := n - 0) ⟨0, Nat.zero_le _, rfl, rfl, HF.sub (by kernel_rfl), HM.picks [] (by decide) rfl⟩ ?_
  clear HF HM; rintro mS a w_ ⟨k, hk, heq, rfl, HF, HM⟩
  refine wp_seq (from_start ?_)
  refine fp HF 1 0 [(14, .bool (decide ((k : Int) < (n : Int))))] ?_; clear HF; intro a HF
  refine from_done rfl ?_
  refine wp_seq ?_
  rcases Bool.eq_false_or_eq_true (decide ((k : Int) < (n : Int))) with hb14 | hb14
  ·have HF := HF.on 14 hb14
   have hd14 := of_decide_eq_true hb14
   have hk14 : k < n := by omega
   refine cond_true HF rfl (wp_skip (wp_seq (wp_block (wp_seq (from_start ?_)))))
   refine fp HF 2 0 [(5, vI k), (15, vI k)] ?_; clear HF; intro a HF
   refine from_done rfl ?_
   refine wp_seq ?_
   refine any_start (by kernel_rfl) (fun wS => Mem w wS []) [] ?_
   replace HM := HM.drew
   have HS := HM.picks (fs' := []) [] (by decide) rfl
   refine ap HF (fun _ => HS) [0, 1, 4, 5] #[true, true, false, false, true, true, false, false, false] [(21, vI k), (20, .slice A2 m c2), (17, vI k), (16, .slice A n c)] ?_; clear HF; intro a HF
   obtain ⟨gA, oA, rfl, _⟩ := hr.some_at (Nat.lt_of_le_of_lt (Nat.zero_le _) (show k < n from by omega)) (by decide)
   refine ay HF HS 2 rfl rfl rfl (v := vP gA (oA + k * 11)) ((Yl.indexAddr (ad := ⟨gA, oA, none⟩) (y := k) (sz := 11) rfl rfl rfl (by omega) (by kernel_rfl)).as (by rw [Addr.add_mid])) ?_; clear HF; intro a HF
   refine ay HF HS 3 rfl rfl rfl (v := .agg ((es.getD k Ev.zero).cells)) (Yl.loadS rfl rfl ⟨(by kernel_rfl), (by kernel_rfl)⟩ rfl (fun _ h => (h.old hr).structAt evL_len ((getD_at Ev.zero (k := k) (by first | omega | (simp; omega)))))) ?_; clear HF; intro a HF
   obtain ⟨gA2, oA2, rfl, _⟩ := hr2.some_at (Nat.lt_of_le_of_lt (Nat.zero_le _) (show k < m from by omega)) (by decide)
   refine ay HF HS 6 rfl rfl rfl (v := vP gA2 (oA2 + k * 11)) ((Yl.indexAddr (ad := ⟨gA2, oA2, none⟩) (y := k) (sz := 11) rfl rfl rfl (by omega) (by kernel_rfl)).as (by rw [Addr.add_mid])) ?_; clear HF; intro a HF
   refine ay HF HS 7 rfl rfl rfl (v := .agg ((gs.getD k Ev.zero).cells)) (Yl.loadS rfl rfl ⟨(by kernel_rfl), (by kernel_rfl)⟩ rfl (fun _ h => (h.old hr2).structAt evL_len ((getD_at Ev.zero (k := k) (by first | omega | (simp; omega)))))) ?_; clear HF; intro a HF
   refine ay HF HS 8 rfl rfl rfl (v := .bool (!(decide ((es.getD k Ev.zero) = (gs.getD k Ev.zero))))) (Yl.neqEv (x := (es.getD k Ev.zero)) (y := (gs.getD k Ev.zero)) rfl rfl rfl (by kernel_rfl)) ?_; clear HF; intro a HF
   refine any_done (by kernel_rfl) ?_
   rcases Bool.eq_false_or_eq_true (!(decide ((es.getD k Ev.zero) = (gs.getD k Ev.zero)))) with hb24 | hb24
   ·have HF := HF.on 24 hb24
    refine cond_true HF rfl (wp_seq (from_start ?_))
    refine fp HF 1 0 [(4, .bool false)] ?_; clear HF; intro a HF
    refine from_done rfl ?_
    refine wp_ret ?_
    exact ret1 rfl HF (.tmp HF rfl) (⟨by rw [decide_eq_false (fun h => by rw [h] at hb24; simp at hb24)], HM.below⟩)
   ·have HF := HF.on 24 hb24
    refine cond_false HF rfl (wp_skip (from_start ?_))
    refine fp HF 1 0 [(25, vI (IntKind.i64.wrap ((k : Int) + 1)))] ?_; clear HF; intro a HF
    replace HF := HF.as (t := 25) (u := vI (k + 1 : Nat)) rfl (i64_nat (by omega) (by omega))
    refine fp HF 1 1 [(13, vI (k + 1 : Nat))] ?_; clear HF; intro a HF
    refine from_done rfl ?_
    exact ⟨_, (by omega), k + 1, by omega, take_eq_snoc heq (by omega) (by omega) (by simpa using hb24), rfl, HF.sub (by kernel_rfl), HM.picks [] (by decide) rfl⟩
  ·have HF := HF.on 14 hb14
   have hd14 := of_decide_eq_false hb14
   have hkn : k = n := by omega
   refine cond_false HF rfl (wp_exit (wp_seq (from_start ?_)))
   refine fp HF 1 0 [(4, .bool true)] ?_; clear HF; intro a HF
   refine from_done rfl ?_
   refine wp_ret ?_
   exact ret1 rfl HF (.tmp HF rfl) (⟨by rw [decide_eq_true (take_all_eq heq (by omega) (by omega))], HM.below⟩)
end Go.Proofs.YtnakabnmjnfpcaaDoor

set_option linter.all false
namespace Go.Proofs.YtnakabnmjnfpcaaDoor
open Go.RowKit
set_option maxRecDepth 100000 in
set_option maxHeartbeats 4000000 in
theorem crcrun_any (c : Nat) (hc : c < 4294967296) (A : Option Addr) (n cp : Nat) (l : List Nat) (B : Nat) (w : World) (hL : LaidX B w) (hB : B ≤ w.heap.size) (hr : Rd w w.heap.size 1 A n (l.map B8)) (hln : l.length = n) (hn : n ≤ 140737488355328) (hl : ∀ b ∈ l, b < 256) :
    Calls Tryd.prog 79 #[.int .u32 (c : Int), .slice A n cp] w (Is w (.int .u32 (crcRun c l : Int))) := by
 refine calls_enter (vs := [vW c, .slice A n cp]) Tryd.func79 rfl rfl (by kernel_rfl) (σ0 := [(0, vW c), (1, .slice A n cp)]) rfl ?_
 intro a HF
 have HM := Mem.start w
 refine wp_seq (from_start ?_)
 refine fp HF 1 0 [(4, vW 0)] ?_; clear HF; intro a HF
 refine from_done rfl ?_
 refine wp_seq (wp_seq (from_start ?_))
 refine fp HF 1 0 [(7, .slice A n cp)] ?_; clear HF; intro a HF
 refine fy HF HM 1 rfl rfl rfl (Yl.len rfl rfl (by kernel_rfl)) ?_; clear HF; intro a HF
 refine fp HF 1 2 [(9, vI 0)] ?_; clear HF; intro a HF
 refine from_done rfl ?_
 refine wp_block ?_
 refine loop_nat (fun mS aS wS => ∃ (k : Nat), (k ≤ n) ∧ mS = n - k ∧ Fr aS 33 [] [(9, vI k), (8, vI n), (7, .slice A n cp), (4, vW 0), (0, vW (crcRun c (l.take k)))] ∧ Mem w wS []) (m := n - 0) ⟨0, Nat.zero_le _, rfl, HF.sub (by kernel_rfl), HM.picks [] (by decide) rfl⟩ ?_
 clear HF HM; rintro mS a w_ ⟨k, hk, rfl, HF, HM⟩
 have hcr := crcRun_lt (l.take k) hc (take_lt hl k)
 refine wp_seq (from_start ?_)
 refine fp HF 1 0 [(10, .bool (decide ((k : Int) < (n : Int))))] ?_; clear HF; intro a HF
 refine from_done rfl ?_
 refine wp_seq ?_
 rcases Bool.eq_false_or_eq_true (decide ((k : Int) < (n : Int))) with hb10 | hb10
 ·have HF := HF.on 10 hb10
  have hd10 := of_decide_eq_true hb10
  refine cond_true HF rfl (wp_skip (wp_seq (wp_block (wp_seq (from_start ?_)))))
  obtain ⟨gA, oA, rfl, _⟩ := hr.some_at (Nat.lt_of_le_of_lt (Nat.zero_le _) (show k < n from by omega)) (by decide)
  refine fy HF HM 0 rfl rfl rfl (v := vP gA (oA + k * 1)) ((Yl.indexAddr (ad := ⟨gA, oA, none⟩) (y := k) (sz := 1) rfl rfl rfl (by omega) (by kernel_rfl)).as (by rw [Addr.add_mid])) ?_; clear HF; intro a HF
  have hx34 := getD_lt hl (k := k) (by first | omega | (simp; omega))
  refine fy HF HM 1 rfl rfl rfl (v := vB (l.getD k 0)) (Yl.load1 rfl rfl (by kernel_rfl) (fun _ h => (h.old hr).oneAt1 (k := k) (map_at (F := B8) (k := k) (x := (l.getD k 0)) ((getD_at 0 (k := k) (by first | omega | (simp; omega))))))) ?_; clear HF; intro a HF
  refine fp HF 1 2 [(6, vB (l.getD k 0))] ?_; clear HF; intro a HF
  refine from_done rfl ?_
  refine wp_seq (from_start ?_)
  refine fp HF 3 0 [(15, vW (IntKind.u32.wrap ((l.getD k 0) : Int))), (14, vB (l.getD k 0)), (13, vW (crcRun c (l.take k)))] ?_; clear HF; intro a HF
  replace HF := HF.as (t := 15) (u := vW (l.getD k 0)) rfl (u32_nat rfl (by omega))
  refine fp HF 1 3 [(16, vW (IntKind.u32.wrap (BitVec.ofInt (IntKind.u32).bits (crcRun c (l.take k) : Int) ^^^ BitVec.ofInt (IntKind.u32).bits ((l.getD k 0) : Int)).toNat))] ?_; clear HF; intro a HF
  replace HF := HF.as (t := 16) (u := vW ((crcRun c (l.take k)) ^^^ (l.getD k 0) : Nat)) rfl (xor_u32 (m := crcRun c (l.take k)) (n := (l.getD k 0)) (by omega) (by omega))
  refine fp HF 1 4 [(0, vW ((crcRun c (l.take k)) ^^^ (l.getD k 0) : Nat))] ?_; clear HF; intro a HF
  refine from_done rfl ?_
  have hy := xor_lt32 hcr (show l.getD k 0 < 4294967296 by omega)
  refine wp_seq (from_start ?_)
  refine fp HF 2 0 [(18, vW (Int.fdiv (((crcRun c (l.take k)) ^^^ (l.getD k 0) : Nat) : Int) (2 ^ (min (4 : Int).toNat (IntKind.u32).bits)))), (17, vW ((crcRun c (l.take k)) ^^^ (l.getD k 0) : Nat))] ?_; clear HF; intro a HF
  replace HF := HF.as (t := 18) (u := vW (((crcRun c (l.take k)) ^^^ (l.getD k 0)) / 16 : Nat)) rfl (fdiv_nat .u32 ((crcRun c (l.take k)) ^^^ (l.getD k 0)) (j := 4) (q := 16) rfl rfl)
  refine fp HF 2 2 [(20, vW (IntKind.u32.wrap (BitVec.ofInt (IntKind.u32).bits (((crcRun c (l.take k)) ^^^ (l.getD k 0) : Nat) : Int) &&& BitVec.ofInt (IntKind.u32).bits 15).toNat)), (19, vW ((crcRun c (l.take k)) ^^^ (l.getD k 0) : Nat))] ?_; clear HF; intro a HF
  replace HF := HF.as (t := 20) (u := vW (((crcRun c (l.take k)) ^^^ (l.getD k 0)) % 16 : Nat)) rfl (mask_u32 (n := 15) (j := 4) rfl (by decide) (by omega))
  refine fy HF HM 4 rfl rfl rfl (v := vP 2 ((((crcRun c (l.take k)) ^^^ (l.getD k 0)) % 16) * 1)) ((Yl.indexAddrA (ad := ⟨2, 0, none⟩) (m := 16) (y := ((crcRun c (l.take k)) ^^^ (l.getD k 0)) % 16) (sz := 1) rfl rfl rfl (by kernel_rfl) (by omega)).as (by rw [Addr.add_mid, Nat.zero_add])) ?_; clear HF; intro a HF
  refine fy HF HM 5 rfl rfl rfl (v := vW (halvesL.getD (((crcRun c (l.take k)) ^^^ (l.getD k 0)) % 16) 0)) (Yl.load1 rfl rfl (by kernel_rfl) (fun _ h => halvesAt hL h hB (k := (((crcRun c (l.take k)) ^^^ (l.getD k 0)) % 16)) (by omega))) ?_; clear HF; intro a HF
  refine fp HF 1 6 [(23, vW (IntKind.u32.wrap (BitVec.ofInt (IntKind.u32).bits ((((crcRun c (l.take k)) ^^^ (l.getD k 0)) / 16 : Nat) : Int) ^^^ BitVec.ofInt (IntKind.u32).bits (halvesL.getD (((crcRun c (l.take k)) ^^^ (l.getD k 0)) % 16) 0 : Int)).toNat))] ?_; clear HF; intro a HF
  replace HF := HF.as (t := 23) (u := vW (nib (crcRun c (l.take k) ^^^ l.getD k 0))) rfl (by have h := xor_u32 (m := (crcRun c (l.take k) ^^^ l.getD k 0) / 16) (n := halvesL.getD ((crcRun c (l.take k) ^^^ l.getD k 0) % 16) 0) (by omega) (halves_lt _ (by omega)); exact h)
  refine fp HF 1 7 [(0, vW (nib (crcRun c (l.take k) ^^^ l.getD k 0)))] ?_; clear HF; intro a HF
  refine from_done rfl ?_
  replace HF := HF.to [(0, vW (nib (crcRun c (l.take k) ^^^ l.getD k 0))), (6, vB (l.getD k 0)), (10, .bool true), (9, vI k), (8, vI n), (7, .slice (some ⟨gA, oA, none⟩) n cp), (4, vW 0)]
  have hz := nib_lt hy
  refine from_start ?_
  refine fp HF 2 0 [(25, vW (Int.fdiv (nib (crcRun c (l.take k) ^^^ l.getD k 0) : Int) (2 ^ (min (4 : Int).toNat (IntKind.u32).bits)))), (24, vW (nib (crcRun c (l.take k) ^^^ l.getD k 0)))] ?_; clear HF; intro a HF
  replace HF := HF.as (t := 25) (u := vW ((nib (crcRun c (l.take k) ^^^ l.getD k 0)) / 16 : Nat)) rfl (fdiv_nat .u32 (nib (crcRun c (l.take k) ^^^ l.getD k 0)) (j := 4) (q := 16) rfl rfl)
  refine fp HF 2 2 [(27, vW (IntKind.u32.wrap (BitVec.ofInt (IntKind.u32).bits (nib (crcRun c (l.take k) ^^^ l.getD k 0) : Int) &&& BitVec.ofInt (IntKind.u32).bits 15).toNat)), (26, vW (nib (crcRun c (l.take k) ^^^ l.getD k 0)))] ?_; clear HF; intro a HF
  replace HF := HF.as (t := 27) (u := vW ((nib (crcRun c (l.take k) ^^^ l.getD k 0)) % 16 : Nat)) rfl (mask_u32 (n := 15) (j := 4) rfl (by decide) (by omega))
  refine fy HF HM 4 rfl rfl rfl (v := vP 2 (((nib (crcRun c (l.take k) ^^^ l.getD k 0)) % 16) * 1)) ((Yl.indexAddrA (ad := ⟨2, 0, none⟩) (m := 16) (y := (nib (crcRun c (l.take k) ^^^ l.getD k 0)) % 16) (sz := 1) rfl rfl rfl (by kernel_rfl) (by omega)).as (by rw [Addr.add_mid, Nat.zero_add])) ?_; clear HF; intro a HF
  refine fy HF HM 5 rfl rfl rfl (v := vW (halvesL.getD ((nib (crcRun c (l.take k) ^^^ l.getD k 0)) % 16) 0)) (Yl.load1 rfl rfl (by kernel_rfl) (fun _ h => halvesAt hL h hB (k := ((nib (crcRun c (l.take k) ^^^ l.getD k 0)) % 16)) (by omega))) ?_; clear HF; intro a HF
  refine fp HF 1 6 [(30, vW (IntKind.u32.wrap (BitVec.ofInt (IntKind.u32).bits (((nib (crcRun c (l.take k) ^^^ l.getD k 0)) / 16 : Nat) : Int) ^^^ BitVec.ofInt (IntKind.u32).bits (halvesL.getD ((nib (crcRun c (l.take k) ^^^ l.getD k 0)) % 16) 0 : Int)).toNat))] ?_; clear HF; intro a HF
  replace HF := HF.as (t := 30) (u := vW (crcRun c (l.take (k + 1)))) rfl (by have h := xor_u32 (m := nib (crcRun c (l.take k) ^^^ l.getD k 0) / 16) (n := halvesL.getD (nib (crcRun c (l.take k) ^^^ l.getD k 0) % 16) 0) (by omega) (halves_lt _ (by omega)); rw [crcRun_take (by omega)]; exact h)
  refine fp HF 1 7 [(0, vW (crcRun c (l.take (k + 1))))] ?_; clear HF; intro a HF
  refine from_done rfl ?_
  refine from_start ?_
  refine fp HF 1 0 [(31, vI (IntKind.i64.wrap ((k : Int) + 1)))] ?_; clear HF; intro a HF
  replace HF := HF.as (t := 31) (u := vI (k + 1 : Nat)) rfl (i64_nat (by omega) (by omega))
  refine fp HF 1 1 [(9, vI (k + 1 : Nat))] ?_; clear HF; intro a HF
  refine from_done rfl ?_
  exact ⟨_, (by omega), k + 1, by omega, rfl, HF.sub (by kernel_rfl), HM.picks [] (by decide) rfl⟩
 ·have HF := HF.on 10 hb10
  have hd10 := of_decide_eq_false hb10
  obtain rfl : n = k := by omega
  refine cond_false HF rfl (wp_exit (wp_seq (from_start ?_)))
  refine fp HF 2 0 [(4, vW (crcRun c (l.take n))), (32, vW (crcRun c (l.take n)))] ?_; clear HF; intro a HF
  refine from_done rfl ?_
  refine wp_ret ?_
  exact ret1 rfl HF (.tmp HF rfl) (⟨by rw [List.take_of_length_le (by omega)], HM.below⟩)
set_option maxRecDepth 100000 in
set_option maxHeartbeats 4000000 in
theorem crcupd_any (c : Nat) (hc0 : c < 4294967296) (A : Option Addr) (n cp : Nat) (l : List Nat) (B : Nat) (w : World) (hL : LaidX B w) (hB : B ≤ w.heap.size) (hr : Rd w w.heap.size 1 A n (l.map B8)) (hln : l.length = n) (hn : n ≤ 140737488355328) (hl : ∀ b ∈ l, b < 256) :
    Calls Tryd.prog 63 #[.int .u32 (c : Int), .slice A n cp] w (Is w (.int .u32 ((crcRun (c ^^^ 4294967295) l ^^^ 4294967295 : Nat) : Int))) := by
 refine calls_enter (vs := [vW c, .slice A n cp]) Tryd.func63 rfl rfl (by kernel_rfl) (σ0 := [(0, vW c), (1, .slice A n cp)]) rfl ?_
 intro a HF
 have HM := Mem.start w
 refine wp_seq (from_start ?_)
 refine fp HF 1 0 [(4, vW 0)] ?_; clear HF; intro a HF
 refine from_done rfl ?_
 have hc := xor_lt32 hc0 (show 4294967295 < 4294967296 by decide)
 have hcr := crcRun_lt l hc hl
 refine wp_seq (from_start ?_)
 refine fp HF 1 0 [(5, vW c)] ?_; clear HF; intro a HF
 refine fy HF HM 1 rfl rfl rfl (v := vW (c ^^^ 4294967295 : Nat)) (Yl.not32 (m := c) rfl rfl (by omega)) ?_; clear HF; intro a HF
 refine fp HF 1 2 [(7, .slice A n cp)] ?_; clear HF; intro a HF
 refine from_op HF (i := 3) rfl rfl ?_
 refine e_call HF (vs := [vW (c ^^^ 4294967295 : Nat), .slice A n cp]) rfl (by kernel_rfl) (by kernel_rfl) rfl (by decide) (crcrun_any _ hc _ _ _ l B _ (hL.mem HM hB) (HM.le hB) (HM.old hr) hln hn hl) ?_
 rintro _ w8 ⟨rfl, hbw⟩
 refine ⟨_, rfl, ?_⟩
 replace HM := HM.call hbw
 clear HF; intro a HF
 refine fy HF HM 4 rfl rfl rfl (v := vW ((crcRun (c ^^^ 4294967295) l) ^^^ 4294967295 : Nat)) (Yl.not32 (m := crcRun (c ^^^ 4294967295) l) rfl rfl (by omega)) ?_; clear HF; intro a HF
 refine fp HF 1 5 [(4, vW ((crcRun (c ^^^ 4294967295) l) ^^^ 4294967295 : Nat))] ?_; clear HF; intro a HF
 refine from_done rfl ?_
 refine wp_ret ?_
 exact ret1 rfl HF (.tmp HF rfl) (⟨rfl, HM.below⟩)
set_option maxRecDepth 100000 in
set_option maxHeartbeats 4000000 in
theorem crcsum_any (A : Option Addr) (n cp : Nat) (l : List Nat) (B : Nat) (w : World) (hL : LaidX B w) (hB : B ≤ w.heap.size) (hr : Rd w w.heap.size 1 A n (l.map B8)) (hln : l.length = n) (hn : n ≤ 140737488355328) (hl : ∀ b ∈ l, b < 256) :
    Calls Tryd.prog 43 #[.slice A n cp] w (Is w (.int .u32 (crcSum l : Int))) := by
 refine calls_enter (vs := [.slice A n cp]) Tryd.func43 rfl rfl (by kernel_rfl) (σ0 := [(0, .slice A n cp)]) rfl ?_
 intro a HF
 have HM := Mem.start w
 refine wp_seq (from_start ?_)
 refine fp HF 1 0 [(2, vW 0)] ?_; clear HF; intro a HF
 refine from_done rfl ?_
 refine wp_seq (from_start ?_)
 refine fp HF 1 0 [(3, .slice A n cp)] ?_; clear HF; intro a HF
 refine from_op HF (i := 1) rfl rfl ?_
 refine e_call HF (vs := [vW 0, .slice A n cp]) rfl (by kernel_rfl) (by kernel_rfl) rfl (by decide) (crcupd_any 0 (by decide) _ _ _ l B _ (hL.mem HM hB) (HM.le hB) (HM.old hr) hln hn hl) ?_
 rintro _ w4 ⟨rfl, hbw⟩
 rw [show (crcRun (0 ^^^ 4294967295) l ^^^ 4294967295 : Nat) = crcSum l from xor_ones (crcRun_lt l (by decide) hl)]
 refine ⟨_, rfl, ?_⟩
 replace HM := HM.call hbw
 clear HF; intro a HF
 refine fp HF 1 2 [(2, vW (crcSum l))] ?_; clear HF; intro a HF
 refine from_done rfl ?_
 refine wp_ret ?_
 exact ret1 rfl HF (.tmp HF rfl) (⟨rfl, HM.below⟩)
theorem seal_is {w w' : World} {l : List Nat} {n c : Nat} {A : Option Addr} (hln : l.length = n) (ho : w'.ownsRow w.heap.size 5 1 (.slice A (0 + n + 4) c) (0 + n + 4) ([] ++ l.map B8 ++ (le4 (crcSum l)).map B8)) (hc : 0 + n + 4 ≤ c) (hb : Below w.heap.size w w') : BytesIs w 0 (sealL l) (.returned (.tuple #[.slice A (0 + n + 4) c, .int .i64 0])) w' := by
  have e : 0 + n + 4 = (sealL l).length := by rw [seal_len]; omega
  rw [e] at ho hc ⊢
  refine ⟨⟨A, c, rfl, ?_, hc⟩, hb⟩
  have e2 : ([] ++ l.map B8 ++ (le4 (crcSum l)).map B8) = (sealL l).map B8 := by simp [sealL]
  rw [e2] at ho
  exact ho
set_option maxRecDepth 100000 in
set_option maxHeartbeats 4000000 in
theorem seal_any (A : Option Addr) (n cp : Nat) (l : List Nat) (B : Nat) (w : World) (hL : LaidX B w) (hB : B ≤ w.heap.size) (hr : Rd w w.heap.size 1 A n (l.map B8)) (hln : l.length = n) (hn : n ≤ 16777216) (hl : ∀ b ∈ l, b < 256) :
    Calls Tryd.prog 34 #[.slice A n cp] w (BytesIs w 0 (sealL l)) := by
 refine calls_enter (vs := [.slice A n cp]) Tryd.func34 rfl rfl (by kernel_rfl) (σ0 := [(0, .slice A n cp)]) rfl ?_
 intro a HF
 have HM := Mem.start w
 refine wp_seq (from_start ?_)
 refine fp HF 2 0 [(3, vI 0), (2, .slice none 0 0)] ?_; clear HF; intro a HF
 refine from_done rfl ?_
 refine wp_seq (wp_seq (from_start ?_))
 refine fp HF 1 0 [(6, .slice A n cp)] ?_; clear HF; intro a HF
 refine fy HF HM 1 rfl rfl rfl (Yl.len rfl rfl (by kernel_rfl)) ?_; clear HF; intro a HF
 refine fp HF 1 2 [(8, .bool (decide ((n : Int) > (16777216 : Int))))] ?_; clear HF; intro a HF
 refine from_done rfl ?_
 rcases Bool.eq_false_or_eq_true (decide ((n : Int) > (16777216 : Int))) with hb8 | hb8
 ·have HF := HF.on 8 hb8
  have hd8 := of_decide_eq_true hb8
  omega
 ·have HF := HF.on 8 hb8
  have hd8 := of_decide_eq_false hb8
  refine cond_false HF rfl (wp_skip (wp_seq (from_start ?_)))
  refine fp HF 1 0 [(9, .slice A n cp)] ?_; clear HF; intro a HF
  refine from_op HF (i := 1) rfl rfl ?_
  refine e_call HF (vs := [.slice A n cp]) rfl (by kernel_rfl) (by kernel_rfl) rfl (by decide) (crcsum_any _ _ _ l B _ (hL.mem HM hB) (HM.le hB) (HM.old hr) (hln) (by omega) (hl)) ?_
  rintro _ w10 ⟨rfl, hbw⟩
  refine ⟨_, rfl, ?_⟩
  replace HM := HM.call hbw
  clear HF; intro a HF
  refine fp HF 1 2 [(4, vW (crcSum l))] ?_; clear HF; intro a HF
  refine from_done rfl ?_
  have hcs := crcSum_lt l
  refine wp_seq (from_start ?_)
  refine fp HF 1 0 [(11, .slice A n cp)] ?_; clear HF; intro a HF
  refine fy HF HM 1 rfl rfl rfl (Yl.len rfl rfl (by kernel_rfl)) ?_; clear HF; intro a HF
  refine fp HF 1 2 [(13, vI (IntKind.i64.wrap ((n : Int) + 4)))] ?_; clear HF; intro a HF
  replace HF := HF.as (t := 13) (u := vI (n + 4 : Nat)) rfl (i64_nat (by omega) (by omega))
  refine from_op HF (i := 3) rfl rfl ?_
  refine e_make0 HF HM (m := (n + 4)) rfl ei_u8 rfl rfl (by omega) (by omega) rfl (by decide) ?_
  clear HF HM; intro a w14 g14 HF HM
  refine fp HF 1 4 [(15, .slice A n cp)] ?_; clear HF; intro a HF
  refine from_op HF (i := 5) rfl rfl ?_
  refine e_append HF HM (i := 0) rfl ei_u8 rfl rfl rfl (news := (l.map B8)) (HM.old hr) (one_B8 _) (by omega) (by omega) rfl (by decide) ?_
  clear HF HM; intro a w16 A16 c16 HF HM hc16
  refine fp HF 1 6 [(5, .slice A16 (0 + n) c16)] ?_; clear HF; intro a HF
  refine from_done rfl ?_
  refine wp_seq (from_start ?_)
  refine fp HF 3 0 [(19, vB (IntKind.u8.wrap (crcSum l : Int))), (18, vW (crcSum l)), (17, .slice A16 (0 + n) c16)] ?_; clear HF; intro a HF
  replace HF := HF.as (t := 19) (u := vB ((crcSum l) % 256 : Nat)) rfl (u8_mod (crcSum l))
  refine fp HF 2 3 [(21, vW (Int.fdiv (crcSum l : Int) (2 ^ (min (8 : Int).toNat (IntKind.u32).bits)))), (20, vW (crcSum l))] ?_; clear HF; intro a HF
  replace HF := HF.as (t := 21) (u := vW ((crcSum l) / 256 : Nat)) rfl (fdiv_nat .u32 (crcSum l) (j := 8) (q := 256) rfl rfl)
  refine fp HF 1 5 [(22, vB (IntKind.u8.wrap (((crcSum l) / 256 : Nat) : Int)))] ?_; clear HF; intro a HF
  replace HF := HF.as (t := 22) (u := vB (((crcSum l) / 256) % 256 : Nat)) rfl (u8_mod ((crcSum l) / 256))
  refine fp HF 2 6 [(24, vW (Int.fdiv (crcSum l : Int) (2 ^ (min (16 : Int).toNat (IntKind.u32).bits)))), (23, vW (crcSum l))] ?_; clear HF; intro a HF
  replace HF := HF.as (t := 24) (u := vW ((crcSum l) / 65536 : Nat)) rfl (fdiv_nat .u32 (crcSum l) (j := 16) (q := 65536) rfl rfl)
  refine fp HF 1 8 [(25, vB (IntKind.u8.wrap (((crcSum l) / 65536 : Nat) : Int)))] ?_; clear HF; intro a HF
  replace HF := HF.as (t := 25) (u := vB (((crcSum l) / 65536) % 256 : Nat)) rfl (u8_mod ((crcSum l) / 65536))
  refine fp HF 2 9 [(27, vW (Int.fdiv (crcSum l : Int) (2 ^ (min (24 : Int).toNat (IntKind.u32).bits)))), (26, vW (crcSum l))] ?_; clear HF; intro a HF
  replace HF := HF.as (t := 27) (u := vW ((crcSum l) / 16777216 : Nat)) rfl (fdiv_nat .u32 (crcSum l) (j := 24) (q := 16777216) rfl rfl)
  refine fp HF 1 11 [(28, vB (IntKind.u8.wrap (((crcSum l) / 16777216 : Nat) : Int)))] ?_; clear HF; intro a HF
  replace HF := HF.as (t := 28) (u := vB (((crcSum l) / 16777216) % 256 : Nat)) rfl (u8_mod ((crcSum l) / 16777216))
  refine from_op HF (i := 12) rfl rfl ?_
  refine e_slice HF HM (vs := [(0, vB ((crcSum l) % 256 : Nat)), (1, vB (((crcSum l) / 256) % 256 : Nat)), (2, vB (((crcSum l) / 65536) % 256 : Nat)), (3, vB (((crcSum l) / 16777216) % 256 : Nat))]) (cs := #[vB ((crcSum l) % 256 : Nat), vB (((crcSum l) / 256) % 256 : Nat), vB (((crcSum l) / 65536) % 256 : Nat), vB (((crcSum l) / 16777216) % 256 : Nat)]) rfl ei_u8 (by decide) rfl (by kernel_rfl) rfl (by decide) ?_
  clear HF HM; intro a w29 g29 HF HM
  refine from_op HF (i := 13) rfl rfl ?_
  refine e_append HF HM (i := 1) rfl ei_u8 rfl rfl rfl (news := ((le4 (crcSum l)).map B8)) (HM.rdBlk (i := 0) (n := 4) (size := 1) rfl rfl) (one_B8 _) (by omega) (by omega) rfl (by decide) ?_
  clear HF HM; intro a w30 A30 c30 HF HM hc30
  refine fp HF 2 14 [(3, vI 0), (2, .slice A30 (0 + n + 4) c30)] ?_; clear HF; intro a HF
  refine from_done rfl ?_
  replace HF := HF.to [(3, vI 0), (2, .slice A30 (0 + n + 4) c30), (8, .bool false), (0, .slice A n cp)]
  replace HM := HM.picks (fs' := [.row (.slice A30 (0 + n + 4) c30) (0 + n + 4) (([] ++ (l.map B8)) ++ ((le4 (crcSum l)).map B8)) 5 1]) [1] (by decide) rfl
  refine wp_ret ?_
  exact ret2 rfl HF (.tmp HF rfl) (.tmp HF rfl) (seal_is hln (HM.own (i := 0) rfl) hc30 HM.below)
end Go.Proofs.YtnakabnmjnfpcaaDoor

set_option linter.all false
namespace Go.Proofs.YtnakabnmjnfpcaaDoor
open Go.RowKit
theorem sealed_val {l : List Nat} {n : Nat} (hln : l.length = n) (h : 4 ≤ n) : (((crcSum (l.take (n - 4)) : Nat) : Int) == ((l.getD (n - 4) 0 + l.getD (n - 4 + 1) 0 * 256 + l.getD (n - 4 + 2) 0 * 65536 + l.getD (n - 4 + 3) 0 * 16777216 : Nat) : Int)) = sealedR l := by
  subst hln
  have hd : ∀ i, (l.drop (l.length - 4)).getD i 0 = l.getD (l.length - 4 + i) 0 := fun i => by rw [List.getD_eq_getElem?_getD, List.getElem?_drop, ← List.getD_eq_getElem?_getD]
  unfold sealedR num4
  rw [hd, hd, hd, hd, Bool.eq_iff_iff, beq_iff_eq, decide_eq_true_eq]
  simp only [Nat.add_zero]
  constructor
  · intro h1; exact ⟨h, by omega⟩
  · intro h1; have := h1.2; omega
theorem sealed_short {l : List Nat} {n : Nat} (hln : l.length = n) (h : n < 4) : sealedR l = false := by unfold sealedR; rw [decide_eq_false]; omega
def numUp (l : List Nat) : Nat → Nat
  | 0 => 0
  | k + 1 => numUp l k * 256 + l.getD (3 - k) 0
theorem numUp_all (l : List Nat) : numUp l 4 = num4 l := by simp [numUp, num4]; omega
theorem numUp_lt {l : List Nat} (hl : ∀ b ∈ l, b < 256) (hn : 4 ≤ l.length) : ∀ k, k ≤ 4 → numUp l k < 256 ^ k
  | 0, _ => by show 0 < 1; decide
  | k + 1, h => by
    have h1 := numUp_lt hl hn k (by omega)
    have h2 := getD_lt hl (k := 3 - k) (by omega)
    rw [numUp, Nat.pow_succ]
    omega
theorem numUp_small {l : List Nat} (hl : ∀ b ∈ l, b < 256) (hn : 4 ≤ l.length) {k : Nat} (h : k ≤ 4) : numUp l k < 4294967296 := by
  have h1 := numUp_lt hl hn k h
  have h2 : (256 : Nat) ^ k ≤ 256 ^ 4 := Nat.pow_le_pow_right (by decide) h
  omega
set_option maxRecDepth 100000 in
set_option maxHeartbeats 4000000 in
theorem sealed_any (A : Option Addr) (n cp : Nat) (l : List Nat) (B : Nat) (w : World) (hL : LaidX B w) (hB : B ≤ w.heap.size) (hr : Rd w w.heap.size 1 A n (l.map B8)) (hc : n ≤ cp) (hln : l.length = n) (hn : n ≤ 140737488355328) (hl : ∀ b ∈ l, b < 256) :
    Calls Tryd.prog 26 #[.slice A n cp] w (Is w (.bool (sealedR l))) := by
 refine calls_enter (vs := [.slice A n cp]) Tryd.func26 rfl rfl (by kernel_rfl) (σ0 := [(0, .slice A n cp)]) rfl ?_
 intro a HF
 have HM := Mem.start w
 refine wp_seq (from_start ?_)
 refine fp HF 1 0 [(2, .bool false)] ?_; clear HF; intro a HF
 refine from_done rfl ?_
 refine wp_seq (from_start ?_)
 refine fp HF 1 0 [(4, .slice A n cp)] ?_; clear HF; intro a HF
 refine fy HF HM 1 rfl rfl rfl (Yl.len rfl rfl (by kernel_rfl)) ?_; clear HF; intro a HF
 refine fp HF 1 2 [(6, vI (IntKind.i64.wrap ((n : Int) - 4)))] ?_; clear HF; intro a HF
 replace HF := HF.as (t := 6) (u := vI ((n : Int) - 4)) rfl (i64_as ⟨by omega, by omega⟩)
 refine fp HF 1 3 [(3, vI ((n : Int) - 4))] ?_; clear HF; intro a HF
 refine from_done rfl ?_
 refine wp_seq (wp_seq (from_start ?_))
 refine fp HF 2 0 [(8, .bool (decide (((n : Int) - 4 : Int) < (0 : Int)))), (7, vI ((n : Int) - 4))] ?_; clear HF; intro a HF
 refine from_done rfl ?_
 rcases Bool.eq_false_or_eq_true (decide (((n : Int) - 4 : Int) < (0 : Int))) with hb8 | hb8
 ·have HF := HF.on 8 hb8
  have hd8 := of_decide_eq_true hb8
  refine cond_true HF rfl (wp_seq (from_start ?_))
  refine fp HF 1 0 [(2, .bool false)] ?_; clear HF; intro a HF
  refine from_done rfl ?_
  refine wp_ret ?_
  exact ret1 rfl HF (.tmp HF rfl) (⟨by rw [sealed_short hln (by omega)], HM.below⟩)
 ·have HF := HF.on 8 hb8
  have hd8 := of_decide_eq_false hb8
  replace HF := HF.as (t := 3) (u := .int .i64 ((n - 4 : Nat) : Int)) rfl (by congr 1; omega)
  refine cond_false HF rfl (wp_skip (wp_seq ?_))
  refine any_start (by kernel_rfl) (fun wS => Mem w wS []) [] ?_
  replace HM := HM.drew
  have HS := HM.picks (fs' := []) [] (by decide) rfl
  refine ap HF (fun _ => HS) [0, 1, 4, 5, 9, 10, 17, 18, 25, 26] #[true, true, false, false, true, true, false, false, false, true, true, false, false, false, false, false, false, true, true, false, false, false, false, false, false, true, true, false, false, false, false, false, false, false, false] [(35, vI (n - 4 : Nat)), (34, .slice A n cp), (27, vI (n - 4 : Nat)), (26, .slice A n cp), (19, vI (n - 4 : Nat)), (18, .slice A n cp), (14, vI (n - 4 : Nat)), (13, .slice A n cp), (10, vI (n - 4 : Nat)), (9, .slice A n cp)] ?_; clear HF; intro a HF
  refine ay HF HS 2 rfl rfl rfl (v := .slice A (n - 4) cp) (Yl.sliceUpto ei_u8 (j := n - 4) rfl rfl rfl (by omega)) ?_; clear HF; intro a HF
  obtain ⟨gA, oA, rfl, _⟩ := hr.some_at (Nat.lt_of_le_of_lt (Nat.zero_le _) (show n - 4 < n from by omega)) (by decide)
  refine ay HF HS 6 rfl rfl rfl (v := vP gA (oA + (n - 4) * 1)) ((Yl.indexAddr (ad := ⟨gA, oA, none⟩) (y := n - 4) (sz := 1) rfl rfl rfl (by omega) (by kernel_rfl)).as (by rw [Addr.add_mid])) ?_; clear HF; intro a HF
  have hx43 := getD_lt hl (k := (n - 4)) (by first | omega | (simp; omega))
  refine ay HF HS 7 rfl rfl rfl (v := vB (l.getD (n - 4) 0)) (Yl.load1 rfl rfl (by kernel_rfl) (fun _ h => (h.old hr).oneAt1 (k := (n - 4)) (map_at (F := B8) (k := (n - 4)) (x := (l.getD (n - 4) 0)) ((getD_at 0 (k := (n - 4)) (by first | omega | (simp; omega))))))) ?_; clear HF; intro a HF
  refine any_pure HF (fun _ => HS) (i := 8) rfl rfl (d := 17) rfl (by decide) (by kernel_rfl) (fun _ _ _ h => h) (v := vW (IntKind.u32.wrap ((l.getD (n - 4) 0) : Int))) (fun _ => Yl.pure (by kernel_rfl)) ?_; clear HF; intro a HF
  replace HF := HF.as (t := 17) (u := vW (l.getD (n - 4) 0)) rfl (u32_nat rfl (by omega))
  refine any_pure HF (fun _ => HS) (i := 11) rfl rfl (d := 20) rfl (by decide) (by kernel_rfl) (fun _ _ _ h => h) (v := vI (IntKind.i64.wrap (((n - 4 : Nat) : Int) + 1))) (fun _ => Yl.pure (by kernel_rfl)) ?_; clear HF; intro a HF
  replace HF := HF.as (t := 20) (u := vI ((n - 4) + 1 : Nat)) rfl (i64_nat (by omega) (by omega))
  refine ay HF HS 12 rfl rfl rfl (v := vP gA (oA + ((n - 4) + 1) * 1)) ((Yl.indexAddr (ad := ⟨gA, oA, none⟩) (y := (n - 4) + 1) (sz := 1) rfl rfl rfl (by omega) (by kernel_rfl)).as (by rw [Addr.add_mid])) ?_; clear HF; intro a HF
  have hx50 := getD_lt hl (k := ((n - 4) + 1)) (by first | omega | (simp; omega))
  refine ay HF HS 13 rfl rfl rfl (v := vB (l.getD ((n - 4) + 1) 0)) (Yl.load1 rfl rfl (by kernel_rfl) (fun _ h => (h.old hr).oneAt1 (k := ((n - 4) + 1)) (map_at (F := B8) (k := ((n - 4) + 1)) (x := (l.getD ((n - 4) + 1) 0)) ((getD_at 0 (k := ((n - 4) + 1)) (by first | omega | (simp; omega))))))) ?_; clear HF; intro a HF
  refine any_pure HF (fun _ => HS) (i := 14) rfl rfl (d := 23) rfl (by decide) (by kernel_rfl) (fun _ _ _ h => h) (v := vW (IntKind.u32.wrap ((l.getD ((n - 4) + 1) 0) : Int))) (fun _ => Yl.pure (by kernel_rfl)) ?_; clear HF; intro a HF
  replace HF := HF.as (t := 23) (u := vW (l.getD ((n - 4) + 1) 0)) rfl (u32_nat rfl (by omega))
  refine any_pure HF (fun _ => HS) (i := 15) rfl rfl (d := 24) rfl (by decide) (by kernel_rfl) (fun _ _ _ h => h) (v := vW (IntKind.u32.wrap (((l.getD ((n - 4) + 1) 0) : Int) * 2 ^ (min (8 : Int).toNat (IntKind.u32).bits)))) (fun _ => Yl.pure (by kernel_rfl)) ?_; clear HF; intro a HF
  replace HF := HF.as (t := 24) (u := vW ((l.getD ((n - 4) + 1) 0) * 256 : Nat)) rfl (u32_nat (by rw [show (2 : Int) ^ (min (8 : Int).toNat (IntKind.u32).bits) = 256 from rfl]; omega) (by omega))
  refine any_pure HF (fun _ => HS) (i := 16) rfl rfl (d := 25) rfl (by decide) (by kernel_rfl) (fun _ _ _ h => h) (v := vW (IntKind.u32.wrap (BitVec.ofInt (IntKind.u32).bits ((l.getD (n - 4) 0) : Int) ||| BitVec.ofInt (IntKind.u32).bits (((l.getD ((n - 4) + 1) 0) * 256 : Nat) : Int)).toNat)) (fun _ => Yl.pure (by kernel_rfl)) ?_; clear HF; intro a HF
  replace HF := HF.as (t := 25) (u := vW (l.getD (n - 4) 0 + l.getD (n - 4 + 1) 0 * 256 : Nat)) rfl (or_sum32 (m := l.getD (n - 4) 0) (n := l.getD (n - 4 + 1) 0) (j := 8) (p := 256) rfl (by omega) (by omega))
  refine any_pure HF (fun _ => HS) (i := 19) rfl rfl (d := 28) rfl (by decide) (by kernel_rfl) (fun _ _ _ h => h) (v := vI (IntKind.i64.wrap (((n - 4 : Nat) : Int) + 2))) (fun _ => Yl.pure (by kernel_rfl)) ?_; clear HF; intro a HF
  replace HF := HF.as (t := 28) (u := vI ((n - 4) + 2 : Nat)) rfl (i64_nat (by omega) (by omega))
  refine ay HF HS 20 rfl rfl rfl (v := vP gA (oA + ((n - 4) + 2) * 1)) ((Yl.indexAddr (ad := ⟨gA, oA, none⟩) (y := (n - 4) + 2) (sz := 1) rfl rfl rfl (by omega) (by kernel_rfl)).as (by rw [Addr.add_mid])) ?_; clear HF; intro a HF
  have hx61 := getD_lt hl (k := ((n - 4) + 2)) (by first | omega | (simp; omega))
  refine ay HF HS 21 rfl rfl rfl (v := vB (l.getD ((n - 4) + 2) 0)) (Yl.load1 rfl rfl (by kernel_rfl) (fun _ h => (h.old hr).oneAt1 (k := ((n - 4) + 2)) (map_at (F := B8) (k := ((n - 4) + 2)) (x := (l.getD ((n - 4) + 2) 0)) ((getD_at 0 (k := ((n - 4) + 2)) (by first | omega | (simp; omega))))))) ?_; clear HF; intro a HF
  refine any_pure HF (fun _ => HS) (i := 22) rfl rfl (d := 31) rfl (by decide) (by kernel_rfl) (fun _ _ _ h => h) (v := vW (IntKind.u32.wrap ((l.getD ((n - 4) + 2) 0) : Int))) (fun _ => Yl.pure (by kernel_rfl)) ?_; clear HF; intro a HF
  replace HF := HF.as (t := 31) (u := vW (l.getD ((n - 4) + 2) 0)) rfl (u32_nat rfl (by omega))
  refine any_pure HF (fun _ => HS) (i := 23) rfl rfl (d := 32) rfl (by decide) (by kernel_rfl) (fun _ _ _ h => h) (v := vW (IntKind.u32.wrap (((l.getD ((n - 4) + 2) 0) : Int) * 2 ^ (min (16 : Int).toNat (IntKind.u32).bits)))) (fun _ => Yl.pure (by kernel_rfl)) ?_; clear HF; intro a HF
  replace HF := HF.as (t := 32) (u := vW ((l.getD ((n - 4) + 2) 0) * 65536 : Nat)) rfl (u32_nat (by rw [show (2 : Int) ^ (min (16 : Int).toNat (IntKind.u32).bits) = 65536 from rfl]; omega) (by omega))
  refine any_pure HF (fun _ => HS) (i := 24) rfl rfl (d := 33) rfl (by decide) (by kernel_rfl) (fun _ _ _ h => h) (v := vW (IntKind.u32.wrap (BitVec.ofInt (IntKind.u32).bits ((l.getD (n - 4) 0 + l.getD (n - 4 + 1) 0 * 256 : Nat) : Int) ||| BitVec.ofInt (IntKind.u32).bits (((l.getD ((n - 4) + 2) 0) * 65536 : Nat) : Int)).toNat)) (fun _ => Yl.pure (by kernel_rfl)) ?_; clear HF; intro a HF
  replace HF := HF.as (t := 33) (u := vW (l.getD (n - 4) 0 + l.getD (n - 4 + 1) 0 * 256 + l.getD (n - 4 + 2) 0 * 65536 : Nat)) rfl (or_sum32 (m := l.getD (n - 4) 0 + l.getD (n - 4 + 1) 0 * 256) (n := l.getD (n - 4 + 2) 0) (j := 16) (p := 65536) rfl (by omega) (by omega))
  refine any_pure HF (fun _ => HS) (i := 27) rfl rfl (d := 36) rfl (by decide) (by kernel_rfl) (fun _ _ _ h => h) (v := vI (IntKind.i64.wrap (((n - 4 : Nat) : Int) + 3))) (fun _ => Yl.pure (by kernel_rfl)) ?_; clear HF; intro a HF
  replace HF := HF.as (t := 36) (u := vI ((n - 4) + 3 : Nat)) rfl (i64_nat (by omega) (by omega))
  refine ay HF HS 28 rfl rfl rfl (v := vP gA (oA + ((n - 4) + 3) * 1)) ((Yl.indexAddr (ad := ⟨gA, oA, none⟩) (y := (n - 4) + 3) (sz := 1) rfl rfl rfl (by omega) (by kernel_rfl)).as (by rw [Addr.add_mid])) ?_; clear HF; intro a HF
  have hx72 := getD_lt hl (k := ((n - 4) + 3)) (by first | omega | (simp; omega))
  refine ay HF HS 29 rfl rfl rfl (v := vB (l.getD ((n - 4) + 3) 0)) (Yl.load1 rfl rfl (by kernel_rfl) (fun _ h => (h.old hr).oneAt1 (k := ((n - 4) + 3)) (map_at (F := B8) (k := ((n - 4) + 3)) (x := (l.getD ((n - 4) + 3) 0)) ((getD_at 0 (k := ((n - 4) + 3)) (by first | omega | (simp; omega))))))) ?_; clear HF; intro a HF
  refine any_pure HF (fun _ => HS) (i := 30) rfl rfl (d := 39) rfl (by decide) (by kernel_rfl) (fun _ _ _ h => h) (v := vW (IntKind.u32.wrap ((l.getD ((n - 4) + 3) 0) : Int))) (fun _ => Yl.pure (by kernel_rfl)) ?_; clear HF; intro a HF
  replace HF := HF.as (t := 39) (u := vW (l.getD ((n - 4) + 3) 0)) rfl (u32_nat rfl (by omega))
  refine any_pure HF (fun _ => HS) (i := 31) rfl rfl (d := 40) rfl (by decide) (by kernel_rfl) (fun _ _ _ h => h) (v := vW (IntKind.u32.wrap (((l.getD ((n - 4) + 3) 0) : Int) * 2 ^ (min (24 : Int).toNat (IntKind.u32).bits)))) (fun _ => Yl.pure (by kernel_rfl)) ?_; clear HF; intro a HF
  replace HF := HF.as (t := 40) (u := vW ((l.getD ((n - 4) + 3) 0) * 16777216 : Nat)) rfl (u32_nat (by rw [show (2 : Int) ^ (min (24 : Int).toNat (IntKind.u32).bits) = 16777216 from rfl]; omega) (by omega))
  refine any_pure HF (fun _ => HS) (i := 32) rfl rfl (d := 41) rfl (by decide) (by kernel_rfl) (fun _ _ _ h => h) (v := vW (IntKind.u32.wrap (BitVec.ofInt (IntKind.u32).bits ((l.getD (n - 4) 0 + l.getD (n - 4 + 1) 0 * 256 + l.getD (n - 4 + 2) 0 * 65536 : Nat) : Int) ||| BitVec.ofInt (IntKind.u32).bits (((l.getD ((n - 4) + 3) 0) * 16777216 : Nat) : Int)).toNat)) (fun _ => Yl.pure (by kernel_rfl)) ?_; clear HF; intro a HF
  replace HF := HF.as (t := 41) (u := vW (l.getD (n - 4) 0 + l.getD (n - 4 + 1) 0 * 256 + l.getD (n - 4 + 2) 0 * 65536 + l.getD (n - 4 + 3) 0 * 16777216 : Nat)) rfl (or_sum32 (m := l.getD (n - 4) 0 + l.getD (n - 4 + 1) 0 * 256 + l.getD (n - 4 + 2) 0 * 65536) (n := l.getD (n - 4 + 3) 0) (j := 24) (p := 16777216) rfl (by omega) (by omega))
  refine any_all [3] (by kernel_rfl) rfl ?_
  refine all_cons ?_ all_nil
  refine any_op HF (i := 3) rfl rfl ?_
  refine e_call HF (vs := [.slice (some ⟨gA, oA, none⟩) (n - 4) cp]) rfl (by kernel_rfl) (by kernel_rfl) rfl (by decide) (crcsum_any _ _ _ (l.take (n - 4)) B _ (hL.mem HM hB) (HM.le hB) ((HM.old hr).toB8 (by omega)) (by rw [List.length_take]; omega) (by omega) (take_lt hl _)) ?_
  rintro _ w12 ⟨rfl, hbw⟩
  refine ⟨_, rfl, ?_⟩
  replace HM := HM.call hbw
  clear HF; intro a HF
  refine keepS (HM.picks [] (by decide) rfl) (fun HS => ?_)
  refine ap HF (fun _ => HS) [33, 34] #[true, true, true, true, true, true, true, true, true, true, true, true, true, true, true, true, true, true, true, true, true, true, true, true, true, true, true, true, true, true, true, true, true, true, true] [(2, .bool ((crcSum (l.take (n - 4)) : Int) == ((l.getD (n - 4) 0 + l.getD (n - 4 + 1) 0 * 256 + l.getD (n - 4 + 2) 0 * 65536 + l.getD (n - 4 + 3) 0 * 16777216 : Nat) : Int))), (42, .bool ((crcSum (l.take (n - 4)) : Int) == ((l.getD (n - 4) 0 + l.getD (n - 4 + 1) 0 * 256 + l.getD (n - 4 + 2) 0 * 65536 + l.getD (n - 4 + 3) 0 * 16777216 : Nat) : Int)))] ?_; clear HF; intro a HF
  refine any_done (by kernel_rfl) ?_
  replace HF := HF.to [(2, .bool ((crcSum (l.take (n - 4)) : Int) == ((l.getD (n - 4) 0 + l.getD (n - 4 + 1) 0 * 256 + l.getD (n - 4 + 2) 0 * 65536 + l.getD (n - 4 + 3) 0 * 16777216 : Nat) : Int))), (3, vI (n - 4 : Nat)), (8, .bool false), (0, .slice (some ⟨gA, oA, none⟩) n cp)]
  refine wp_ret ?_
  exact ret1 rfl HF (.tmp HF rfl) (⟨by rw [sealed_val hln (by omega)], HM.below⟩)
theorem len_is {w w' : World} {l : List Nat} {n e : Nat} (h : lenR l = (n, e)) (hb : Below w.heap.size w w') : Is w (.tuple #[.int .i64 ((lenR l).1 : Int), .int .i64 ((lenR l).2 : Int)]) (.returned (.tuple #[.int .i64 (n : Int), .int .i64 (e : Int)])) w' := by rw [h]; exact ⟨rfl, hb⟩
set_option maxRecDepth 100000 in
set_option maxHeartbeats 4000000 in
theorem length_any (A : Option Addr) (n cp : Nat) (l : List Nat) (w : World) (hr : Rd w w.heap.size 1 A n (l.map B8)) (hln : l.length = n) (hn : n ≤ 9223372036854775807) (hl : ∀ b ∈ l, b < 256) :
    Calls Tryd.prog 9 #[.slice A n cp] w (Is w (.tuple #[.int .i64 ((lenR l).1 : Int), .int .i64 ((lenR l).2 : Int)])) := by
 refine calls_enter (vs := [.slice A n cp]) Tryd.func9 rfl rfl (by kernel_rfl) (σ0 := [(0, .slice A n cp)]) rfl ?_
 intro a HF
 have HM := Mem.start w
 refine wp_seq (from_start ?_)
 refine fp HF 2 0 [(3, vI 0), (2, vI 0)] ?_; clear HF; intro a HF
 refine from_done rfl ?_
 refine wp_seq (wp_seq (from_start ?_))
 refine fp HF 1 0 [(6, .slice A n cp)] ?_; clear HF; intro a HF
 refine fy HF HM 1 rfl rfl rfl (Yl.len rfl rfl (by kernel_rfl)) ?_; clear HF; intro a HF
 refine fp HF 1 2 [(8, .bool (decide ((n : Int) < (4 : Int))))] ?_; clear HF; intro a HF
 refine from_done rfl ?_
 rcases Bool.eq_false_or_eq_true (decide ((n : Int) < (4 : Int))) with hb8 | hb8
 ·have HF := HF.on 8 hb8
  have hd8 := of_decide_eq_true hb8
  refine cond_true HF rfl (wp_seq (from_start ?_))
  refine fp HF 2 0 [(3, vI 100), (2, vI 0)] ?_; clear HF; intro a HF
  refine from_done rfl ?_
  refine wp_ret ?_
  exact ret2 rfl HF (.tmp HF rfl) (.tmp HF rfl) (len_is (by unfold lenR; rw [if_pos (by omega)]) HM.below)
 ·have HF := HF.on 8 hb8
  have hd8 := of_decide_eq_false hb8
  refine cond_false HF rfl (wp_skip (wp_seq (from_start ?_)))
  refine fp HF 1 0 [(4, vI 0)] ?_; clear HF; intro a HF
  refine from_done rfl ?_
  refine wp_seq (wp_seq (from_start ?_))
  refine fp HF 1 0 [(5, vI 3)] ?_; clear HF; intro a HF
  refine from_done rfl ?_
  refine wp_block ?_
  refine loop_nat (fun mS aS wS => ∃ (k : Nat), (k ≤ 4) ∧ mS = 4 - k ∧ Fr aS 34 [] [(5, vI (3 - (k : Int))), (4, vI (numUp l k)), (8, .bool false), (3, vI 0), (2, vI 0), (0, .slice A n cp)] ∧ Mem w wS []) (m := 4 - 0) ⟨0, Nat.zero_le _, rfl, HF.sub (by kernel_rfl), HM.picks [] (by decide) rfl⟩ ?_
  clear HF HM; rintro mS a w_ ⟨k, hk, rfl, HF, HM⟩
  have hu := numUp_small hl (by omega) hk
  refine wp_seq (wp_seq (from_start ?_))
  refine fp HF 2 0 [(10, .bool (decide (3 - (k : Int) ≥ (0 : Int)))), (9, vI (3 - (k : Int)))] ?_; clear HF; intro a HF
  refine from_done rfl ?_
  rcases Bool.eq_false_or_eq_true (decide (3 - (k : Int) ≥ (0 : Int))) with hb10 | hb10
  ·have HF := HF.on 10 hb10
   have hd10 := of_decide_eq_true hb10
   have hk3 : k ≤ 3 := by omega
   refine cond_true HF rfl (wp_skip (wp_seq (wp_block (from_start ?_))))
   refine fp HF 2 0 [(14, vI (IntKind.i64.wrap ((numUp l k : Int) * 2 ^ (min (8 : Int).toNat (IntKind.i64).bits)))), (13, vI (numUp l k))] ?_; clear HF; intro a HF
   replace HF := HF.as (t := 14) (u := vI ((numUp l k) * 256 : Nat)) rfl (i64_nat (by rw [show (2 : Int) ^ (min (8 : Int).toNat (IntKind.i64).bits) = 256 from rfl]; omega) (by omega))
   refine fp HF 2 2 [(16, vI (3 - (k : Int))), (15, .slice A n cp)] ?_; clear HF; intro a HF
   replace HF := HF.as (t := 16) (u := vI (3 - k : Nat)) rfl (by congr 1; omega)
   obtain ⟨gA, oA, rfl, _⟩ := hr.some_at (Nat.lt_of_le_of_lt (Nat.zero_le _) (show 3 - k < n from by omega)) (by decide)
   refine fy HF HM 4 rfl rfl rfl (v := vP gA (oA + (3 - k) * 1)) ((Yl.indexAddr (ad := ⟨gA, oA, none⟩) (y := 3 - k) (sz := 1) rfl rfl rfl (by omega) (by kernel_rfl)).as (by rw [Addr.add_mid])) ?_; clear HF; intro a HF
   have hx61 := getD_lt hl (k := (3 - k)) (by first | omega | (simp; omega))
   refine fy HF HM 5 rfl rfl rfl (v := vB (l.getD (3 - k) 0)) (Yl.load1 rfl rfl (by kernel_rfl) (fun _ h => (h.old hr).oneAt1 (k := (3 - k)) (map_at (F := B8) (k := (3 - k)) (x := (l.getD (3 - k) 0)) ((getD_at 0 (k := (3 - k)) (by first | omega | (simp; omega))))))) ?_; clear HF; intro a HF
   refine fp HF 1 6 [(19, vI (IntKind.i64.wrap ((l.getD (3 - k) 0) : Int)))] ?_; clear HF; intro a HF
   replace HF := HF.as (t := 19) (u := vI (l.getD (3 - k) 0)) rfl (i64_nat rfl (by omega))
   refine fp HF 1 7 [(20, vI (IntKind.i64.wrap (BitVec.ofInt (IntKind.i64).bits (((numUp l k) * 256 : Nat) : Int) ||| BitVec.ofInt (IntKind.i64).bits ((l.getD (3 - k) 0) : Int)).toNat))] ?_; clear HF; intro a HF
   replace HF := HF.as (t := 20) (u := vI (numUp l (k + 1))) rfl (by have h := or_sum64 (m := numUp l k) (n := l.getD (3 - k) 0) (j := 8) (p := 256) rfl (by omega) (by omega); exact h)
   refine fp HF 1 8 [(4, vI (numUp l (k + 1)))] ?_; clear HF; intro a HF
   refine from_done rfl ?_
   refine from_start ?_
   refine fp HF 2 0 [(12, vI (IntKind.i64.wrap ((3 - (k : Int)) - 1))), (11, vI (3 - (k : Int)))] ?_; clear HF; intro a HF
   replace HF := HF.as (t := 12) (u := vI (3 - ((k + 1 : Nat) : Int))) rfl (by rw [IntWalk.i64_in _ (by omega)]; congr 1; omega)
   refine fp HF 1 2 [(5, vI (3 - ((k + 1 : Nat) : Int)))] ?_; clear HF; intro a HF
   refine from_done rfl ?_
   replace HF := HF.to [(5, vI (3 - ((k + 1 : Nat) : Int))), (4, vI (numUp l (k + 1))), (10, .bool true), (8, .bool false), (3, vI 0), (2, vI 0), (0, .slice (some ⟨gA, oA, none⟩) n cp)]
   exact ⟨_, (by omega), k + 1, by omega, rfl, HF.sub (by kernel_rfl), HM.picks [] (by decide) rfl⟩
  ·have HF := HF.on 10 hb10
   have hd10 := of_decide_eq_false hb10
   obtain rfl : k = 4 := by omega
   replace HF := HF.as (t := 4) (u := .int .i64 (num4 l : Int)) rfl (by rw [numUp_all])
   rw [numUp_all] at hu
   refine cond_false HF rfl (wp_exit (wp_seq (wp_block (wp_seq (from_start ?_)))))
   refine fp HF 3 0 [(24, .bool (decide ((num4 l : Int) < (13 : Int)))), (23, .bool (decide ((num4 l : Int) < (13 : Int)))), (22, vI (num4 l))] ?_; clear HF; intro a HF
   rcases Bool.eq_false_or_eq_true (decide ((num4 l : Int) < (13 : Int))) with hb24 | hb24
   ·have HF := HF.on 24 hb24
    have hd24 := of_decide_eq_true hb24
    refine fp HF 4 3 [(21, .bool true), (27, .bool true), (26, undef), (25, undef)] ?_; clear HF; intro a HF
    refine from_done rfl ?_
    refine cond_true HF rfl (wp_seq (from_start ?_))
    refine fp HF 2 0 [(3, vI 101), (2, vI 0)] ?_; clear HF; intro a HF
    refine from_done rfl ?_
    refine wp_ret ?_
    exact ret2 rfl HF (.tmp HF rfl) (.tmp HF rfl) (len_is (by unfold lenR; rw [if_neg (by omega), if_pos (by omega)]) HM.below)
   ·have HF := HF.on 24 hb24
    have hd24 := of_decide_eq_false hb24
    refine fp HF 4 3 [(21, .bool (decide ((num4 l : Int) > (4096 : Int)))), (27, .bool (decide ((num4 l : Int) > (4096 : Int)))), (26, .bool (decide ((num4 l : Int) > (4096 : Int)))), (25, vI (num4 l))] ?_; clear HF; intro a HF
    refine from_done rfl ?_
    rcases Bool.eq_false_or_eq_true (decide ((num4 l : Int) > (4096 : Int))) with hb21 | hb21
    ·have HF := HF.on 21 hb21
     have hd21 := of_decide_eq_true hb21
     refine cond_true HF rfl (wp_seq (from_start ?_))
     refine fp HF 2 0 [(3, vI 101), (2, vI 0)] ?_; clear HF; intro a HF
     refine from_done rfl ?_
     refine wp_ret ?_
     exact ret2 rfl HF (.tmp HF rfl) (.tmp HF rfl) (len_is (by unfold lenR; rw [if_neg (by omega), if_pos (by omega)]) HM.below)
    ·have HF := HF.on 21 hb21
     have hd21 := of_decide_eq_false hb21
     refine cond_false HF rfl (wp_seq (from_start ?_))
     refine fp HF 2 0 [(30, .slice A n cp), (29, vI (num4 l))] ?_; clear HF; intro a HF
     refine fy HF HM 2 rfl rfl rfl (Yl.len rfl rfl (by kernel_rfl)) ?_; clear HF; intro a HF
     refine fp HF 2 3 [(28, .bool (decide ((num4 l : Int) > (n : Int)))), (32, .bool (decide ((num4 l : Int) > (n : Int))))] ?_; clear HF; intro a HF
     refine from_done rfl ?_
     rcases Bool.eq_false_or_eq_true (decide ((num4 l : Int) > (n : Int))) with hb28 | hb28
     ·have HF := HF.on 28 hb28
      have hd28 := of_decide_eq_true hb28
      refine cond_true HF rfl (wp_seq (from_start ?_))
      refine fp HF 2 0 [(3, vI 100), (2, vI 0)] ?_; clear HF; intro a HF
      refine from_done rfl ?_
      replace HF := HF.to [(3, vI 100), (2, vI 0), (28, .bool true), (21, .bool false), (4, vI (num4 l)), (10, .bool false), (5, vI (3 - (4 : Int))), (8, .bool false), (0, .slice A n cp)]
      refine wp_ret ?_
      exact ret2 rfl HF (.tmp HF rfl) (.tmp HF rfl) (len_is (by unfold lenR; rw [if_neg (by omega), if_neg (by omega), if_pos (by omega)]) HM.below)
     ·have HF := HF.on 28 hb28
      have hd28 := of_decide_eq_false hb28
      refine cond_false HF rfl (wp_skip (wp_seq (from_start ?_)))
      refine fp HF 3 0 [(3, vI 0), (2, vI (num4 l)), (33, vI (num4 l))] ?_; clear HF; intro a HF
      refine from_done rfl ?_
      replace HF := HF.to [(3, vI 0), (2, vI (num4 l)), (28, .bool false), (21, .bool false), (4, vI (num4 l)), (10, .bool false), (5, vI (3 - (4 : Int))), (8, .bool false), (0, .slice A n cp)]
      refine wp_ret ?_
      exact ret2 rfl HF (.tmp HF rfl) (.tmp HF rfl) (len_is (by unfold lenR; rw [if_neg (by omega), if_neg (by omega), if_neg (by omega)]) HM.below)
end Go.Proofs.YtnakabnmjnfpcaaDoor

