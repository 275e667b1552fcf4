/- What the reading of an argument gives: events. -/
import Derived.Test.YtjpielapplglmaaDoorDoor3
import Derived.Test.YtjpielapplglmaaDoorCod4
namespace Go.Proofs.YtjpielapplglmaaDoor
open Go.RowKit Go.ChangeShapes Go.WideShapes Go.ChangeAt
def evKinds : List Go.IntKind := [.i64, .i64, .u8, .u8, .i64, .i64, .i64, .i64, .i64, .u64, .i64]
theorem exists_ev {cs : List Value} (hl : cs.length = evKinds.length) (h : ∀ (i : Nat) (k : Go.IntKind), evKinds[i]? = some k → ∃ z : Int, cs[i]? = some (Value.int k z) ∧ (Lit.int k z).wf = true) : ∃ x : Ev, evL x = cs ∧ x.Ok := by
  obtain ⟨z0, h0, w0⟩ := h 0 .i64 rfl
  have w0 := i64_wf w0
  obtain ⟨z1, h1, w1⟩ := h 1 .i64 rfl
  have w1 := i64_wf w1
  obtain ⟨z2, h2, w2⟩ := h 2 .u8 rfl
  have w2 := u8_wf w2
  obtain ⟨z3, h3, w3⟩ := h 3 .u8 rfl
  have w3 := u8_wf w3
  obtain ⟨z4, h4, w4⟩ := h 4 .i64 rfl
  have w4 := i64_wf w4
  obtain ⟨z5, h5, w5⟩ := h 5 .i64 rfl
  have w5 := i64_wf w5
  obtain ⟨z6, h6, w6⟩ := h 6 .i64 rfl
  have w6 := i64_wf w6
  obtain ⟨z7, h7, w7⟩ := h 7 .i64 rfl
  have w7 := i64_wf w7
  obtain ⟨z8, h8, w8⟩ := h 8 .i64 rfl
  have w8 := i64_wf w8
  obtain ⟨z9, h9, w9⟩ := h 9 .u64 rfl
  have w9 := u64_wf w9
  obtain ⟨z10, h10, w10⟩ := h 10 .i64 rfl
  have w10 := i64_wf w10
  refine ⟨⟨z0, z1, z2.toNat, z3.toNat, z4, z5, z6, z7, z8, z9.toNat, z10⟩, ?_, ⟨w0, w1, (by show z2.toNat < _; omega), (by show z3.toNat < _; omega), w4, w5, w6, w7, w8, (by show z9.toNat < _; omega), w10⟩⟩
  refine list_eq (by rw [hl]; rfl) fun i hi => ?_
  have hi' : i < 11 := by rw [hl] at hi; exact hi
  have hc : i = 0 ∨ i = 1 ∨ i = 2 ∨ i = 3 ∨ i = 4 ∨ i = 5 ∨ i = 6 ∨ i = 7 ∨ i = 8 ∨ i = 9 ∨ i = 10 := by omega
  rcases hc with rfl | rfl | rfl | rfl | rfl | rfl | rfl | rfl | rfl | rfl | rfl
  · rw [h0]; rfl
  · rw [h1]; rfl
  · rw [h2]; show some (Value.int .u8 ((z2.toNat : Nat) : Int)) = _; rw [Int.toNat_of_nonneg w2.1]
  · rw [h3]; show some (Value.int .u8 ((z3.toNat : Nat) : Int)) = _; rw [Int.toNat_of_nonneg w3.1]
  · rw [h4]; rfl
  · rw [h5]; rfl
  · rw [h6]; rfl
  · rw [h7]; rfl
  · rw [h8]; rfl
  · rw [h9]; show some (Value.int .u64 ((z9.toNat : Nat) : Int)) = _; rw [Int.toNat_of_nonneg w9.1]
  · rw [h10]; rfl
theorem ev_fields : intFields Tryd.prog 55 evKinds = true := by kernel_rfl
theorem exists_evs : ∀ (css : List (List Value)), (∀ l ∈ css, l.length = evKinds.length ∧ ∀ (i : Nat) (k : Go.IntKind), evKinds[i]? = some k → ∃ z : Int, l[i]? = some (Value.int k z) ∧ (Lit.int k z).wf = true) → ∃ l : List Ev, l.flatMap evL = css.flatMap id ∧ ∀ x ∈ l, x.Ok
  | [], _ => ⟨[], rfl, by simp⟩
  | c :: r, h => by
    obtain ⟨l, h1, h2⟩ := exists_evs r (fun y hy => h y (by simp [hy]))
    obtain ⟨x, h3, h4⟩ := exists_ev (h c (by simp)).1 (h c (by simp)).2
    refine ⟨x :: l, by rw [List.flatMap_cons, List.flatMap_cons, h1, h3]; rfl, fun y hy => ?_⟩
    rcases List.mem_cons.1 hy with rfl | hy
    · exact h4
    · exact h2 y hy
section
variable {H : Type} {enc : TypeId × Value → H} {W : World} {b0 : Nat} {v : Value} {d : DataW H} {p : List MemPlace}
set_option maxRecDepth 100000 in
theorem arg_event (hval : Value.okWide Tryd.prog W .any b0 55 v) (h : DataW.Trod enc Tryd.prog W 0 (fun _ => true) true 55 v d p) : ∃ x : Ev, v = .agg x.cells ∧ x.Ok := by
  obtain ⟨fs, hu⟩ := und_of_fields ev_fields
  obtain ⟨cs, rfl, hs⟩ := okWide_struct hu hval
  obtain ⟨fuel, hf⟩ := h
  obtain ⟨h1, h2⟩ := struct_ints ev_fields hf
  obtain ⟨x, hx, ho⟩ := exists_ev h1 h2
  refine ⟨x, ?_, ho⟩
  have : x.cells.toList = cs.toList := hx
  rw [show x.cells = cs from Array.toList_inj.1 this]
end
end Go.Proofs.YtjpielapplglmaaDoor
