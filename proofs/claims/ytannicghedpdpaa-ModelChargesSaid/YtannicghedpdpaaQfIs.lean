/- A part of the proof. -/
import Derived.Test.YtannicghedpdpaaQfSep14
import Derived.Test.YtannicghedpdpaaQfNum
namespace Go.Proofs.Ytannicghedpdpaa
open Go.RowKit
def Is (w : World) (v : Value) (r : Ending) (w' : World) : Prop := r = .returned v ∧ Below w.heap.size w w'
def qf5 (w : World) (R : List Nat) (r : Ending) (w' : World) : Prop :=
 (∃ A c, r = .returned (.slice A R.length c) ∧ w'.ownsRow w.heap.size 5 1 (.slice A R.length c) R.length (R.map B8) ∧ R.length ≤ c) ∧ Below w.heap.size w w'
theorem qf5.as {w w' : World} {R R' : List Nat} {r : Ending} (h : qf5 w R r w') (e : R = R') : qf5 w R' r w' := e ▸ h
end Go.Proofs.Ytannicghedpdpaa
