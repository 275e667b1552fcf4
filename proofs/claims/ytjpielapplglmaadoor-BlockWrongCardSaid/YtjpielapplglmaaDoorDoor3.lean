/- What the reading of an argument gives: a struct of numbers by value. -/
import Derived.Test.YtjpielapplglmaaDoorDoor2
namespace Go.Proofs.YtjpielapplglmaaDoor
open Go.RowKit Go.ChangeShapes Go.WideShapes Go.ChangeAt
section
variable {H : Type} {enc : TypeId × Value → H} {P : Program} {w : World} {base : Nat} {spare : Nat → Bool} {held : Bool}
theorem trodAll_five {t0 t1 t2 t3 t4 : TypeId} {args : Array Value} {ds : List (DataW H)} {ps : List MemPlace} (h : DataW.TrodAll enc P w base spare held [t0, t1, t2, t3, t4] args.toList ds ps) :
    ∃ v0 v1 v2 v3 v4 d0 d1 d2 d3 d4 p0 p1 p2 p3 p4, args = #[v0, v1, v2, v3, v4] ∧ ds = [d0, d1, d2, d3, d4] ∧ ps = p0 ++ p1 ++ p2 ++ p3 ++ p4 ∧ DataW.Trod enc P w base spare held t0 v0 d0 p0 ∧ DataW.Trod enc P w base spare held t1 v1 d1 p1 ∧ DataW.Trod enc P w base spare held t2 v2 d2 p2 ∧ DataW.Trod enc P w base spare held t3 v3 d3 p3 ∧ DataW.Trod enc P w base spare held t4 v4 d4 p4 := by
  obtain ⟨v0, vs0, d0, ds0, p0, q0, ha, rfl, rfl, h0, hr0⟩ := trodAll_cons h
  obtain ⟨v1, vs1, d1, ds1, p1, q1, rfl, rfl, rfl, h1, hr1⟩ := trodAll_cons hr0
  obtain ⟨v2, vs2, d2, ds2, p2, q2, rfl, rfl, rfl, h2, hr2⟩ := trodAll_cons hr1
  obtain ⟨v3, vs3, d3, ds3, p3, q3, rfl, rfl, rfl, h3, hr3⟩ := trodAll_cons hr2
  obtain ⟨v4, vs4, d4, ds4, p4, q4, rfl, rfl, rfl, h4, hr4⟩ := trodAll_cons hr3
  obtain ⟨rfl, rfl, rfl⟩ := trodAll_nil hr4
  exact ⟨v0, v1, v2, v3, v4, d0, d1, d2, d3, d4, p0, p1, p2, p3, p4, by cases args; simp_all, rfl, by simp, h0, h1, h2, h3, h4⟩
end
section
variable {H : Type} {enc : TypeId × Value → H} {W : World} {b0 : Nat} {v : Value} {d : DataW H} {p : List MemPlace}
theorem und_of_fields {P : Program} {t : TypeId} {ks : List Go.IntKind} (hf : intFields P t ks = true) : ∃ fs, P.underlying t = some (.struct fs) := by
  unfold intFields at hf
  split at hf
  · rename_i fs hu; exact ⟨fs, hu⟩
  · cases hf
set_option maxRecDepth 100000 in
theorem arg_small (hval : Value.okWide Tryd.prog W .any b0 80 v) (h : DataW.Trod enc Tryd.prog W 0 (fun _ => true) true 80 v d p) : ∃ x : Sm, v = .agg x.cells ∧ x.Ok := by
  obtain ⟨fs, hu⟩ := und_of_fields sm_fields
  obtain ⟨cs, rfl, hs⟩ := okWide_struct hu hval
  obtain ⟨fuel, hf⟩ := h
  obtain ⟨h1, h2⟩ := struct_ints sm_fields hf
  obtain ⟨x, hx, ho⟩ := exists_sm h1 h2
  refine ⟨x, ?_, ho⟩
  have : x.cells.toList = cs.toList := hx
  rw [show x.cells = cs from Array.toList_inj.1 this]
set_option maxRecDepth 100000 in
theorem bytes_size {A : Option Addr} {n c : Nat} (h : DataW.Trod enc Tryd.prog W 0 (fun _ => true) true 22 (.slice A n c) d p) : c = 0 ∨ ∃ elems spare, d = .slice elems spare ∧ elems.length + spare.length = c := by
  obtain ⟨fuel, hf⟩ := h
  rcases open_ints und_bytes und_u8 cells_u8 hf with ⟨hcs, hx⟩ | ⟨a, len', cap', zs, hcs, _, hl, hm, hz, hx, hcell, hwz⟩
  · simp only [Value.cells, List.cons.injEq, and_true, Value.slice.injEq] at hcs
    exact .inl hcs.2.2
  · simp only [Value.cells, List.cons.injEq, and_true, Value.slice.injEq] at hcs
    obtain ⟨rfl, rfl, rfl⟩ := hcs
    simp only [if_true] at hz
    injection hx with hx _
    refine .inr ⟨_, _, hx, ?_⟩
    simp [lits]
    omega
end
end Go.Proofs.YtjpielapplglmaaDoor
