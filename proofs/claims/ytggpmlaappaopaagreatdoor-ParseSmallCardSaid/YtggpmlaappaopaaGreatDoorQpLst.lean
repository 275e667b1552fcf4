/- A part of the proof. -/
import Derived.Test.YtggpmlaappaopaaGreatDoorQpSep9
import Derived.Test.YtggpmlaappaopaaGreatDoorQpSep13
namespace Go.Proofs.YtggpmlaappaopaaGreatDoor
open Go.RowKit
section
variable {P : Program} {S : World → Prop} {σ : List (Nat × Value)} {o : Oper}
end
theorem qnm {α : Type} {l : List α} {k : Nat} (d : α) (h : k < l.length) : l.take (k + 1) = l.take k ++ [l.getD k d] := by
 rw [List.take_succ_eq_append_getElem h, List.getD_eq_getElem?_getD, List.getElem?_eq_getElem h]
 rfl
end Go.Proofs.YtggpmlaappaopaaGreatDoor
