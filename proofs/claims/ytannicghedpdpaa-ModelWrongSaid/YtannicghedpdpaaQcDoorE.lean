/- A part of the proof. -/
import Derived.Test.YtannicghedpdpaaQcDoor
namespace Go.Proofs.Ytannicghedpdpaa
open Go.RowKit Go.ChangeShapes Go.WideShapes Go.ChangeAt
section
variable {H : Type} {enc : TypeId × Value → H} {P : Program} {W : World} {b0 : Nat} {sp : Nat → Bool} {held : Bool}
end
theorem qpp {a : Int} (h : (Lit.int .u16 a).wf = true) : 0 ≤ a ∧ a ≤ 65535 := by
 simpa [Lit.wf, IntKind.min, IntKind.max, IntKind.signed, IntKind.bits] using h
theorem qro {a : Int} (h : (Lit.int .u32 a).wf = true) : 0 ≤ a ∧ a ≤ 4294967295 := by
 simpa [Lit.wf, IntKind.min, IntKind.max, IntKind.signed, IntKind.bits] using h
theorem qp5 {α : Type} {l m : List α} (h1 : l.length = m.length) (h : ∀ i, i < m.length → l[i]? = m[i]?) : l = m := by
 refine List.ext_getElem? fun i => ?_
 by_cases hi : i < m.length
 ·exact h i hi
 ·rw [List.getElem?_eq_none (by omega), List.getElem?_eq_none (by omega)]
section
variable {H : Type} {enc : TypeId × Value → H} {W : World} {b0 : Nat} {v : Value} {d : DataW H} {p : List MemPlace}
end
section
variable {H : Type} {enc : TypeId × Value → H} {P : Program} {w : World} {base : Nat} {spare : Nat → Bool} {held : Bool}
end
section
variable {H : Type} {enc : TypeId × Value → H} {W : World} {b0 : Nat} {v : Value} {d : DataW H} {p : List MemPlace}
end
def fieldAt (P : Program) (t : TypeId) (i off : Nat) (u : TypeId) : Bool := match P.underlying t with
 | some (.struct fs) => match fs[i]? with
  | some f => decide (f.offset = off) && decide (f.type = u)
  | none => false
 | _ => false
section
variable {H : Type} {enc : TypeId × Value → H} {P : Program} {W : World} {b0 : Nat} {sp : Nat → Bool} {held : Bool}
theorem zx {t u : TypeId} {i off : Nat} (hf : fieldAt P t i off u = true) {fuel : Nat} {cs : List Value} {x : DataW H × List MemPlace} (h : DataW.trod enc P W b0 sp held fuel t cs = some x) :
  cs.length = P.cellsOf t ∧ ∃ n y, DataW.trod enc P W b0 sp held n u ((cs.drop off).take (P.cellsOf u)) = some y := by
 unfold fieldAt at hf
 split at hf
 ·rename_i fs hu
  split at hf
  ·rename_i f hfi
   simp only [Bool.and_eq_true, decide_eq_true_eq] at hf
   obtain ⟨xs, n, _, _, hl, hx, he⟩ := DataW.trod_struct hu h
   refine ⟨hl, n, ?_⟩
   have h5 := he i f hfi
   have hi : i < fs.size := (Array.getElem?_eq_some_iff.1 hfi).1
   rw [List.getElem?_eq_getElem (by omega), hf.1, hf.2] at h5
   exact ⟨_, h5⟩
  ·cases hf
 ·cases hf
end
section
variable {H : Type} {enc : TypeId × Value → H} {W : World} {b0 : Nat} {v : Value} {d : DataW H} {p : List MemPlace}
theorem qaw {cs : List Value} {off : Nat} {u : Value} (h : (cs.drop off).take 1 = [u]) : cs[off]? = some u := by
 have := congrArg (·[0]?) h
 simpa [List.getElem?_take, List.getElem?_drop] using this
def qdp (P : Program) (t : TypeId) : Bool := match P.underlying t with | some (.struct _) => true | _ => false
theorem qgl {P : Program} {t : TypeId} (h : qdp P t = true) : ∃ fs, P.underlying t = some (.struct fs) := by
 unfold qdp at h
 split at h
 ·rename_i fs hu; exact ⟨fs, hu⟩
 ·cases h
end
end Go.Proofs.Ytannicghedpdpaa
