/- A part of the proof. -/
import Derived.Test.YtannicghedpdpaaGreatQsSep14
import Derived.Test.YtannicghedpdpaaGreatQsNum
namespace Go.Proofs.YtannicghedpdpaaGreat
open Go.RowKit
def Is (w : World) (v : Value) (r : Ending) (w' : World) : Prop := r = .returned v ∧ Below w.heap.size w w'
def qim (w : World) (R : List Nat) (r : Ending) (w' : World) : Prop :=
 (∃ A c, r = .returned (.slice A R.length c) ∧ w'.ownsRow w.heap.size 5 1 (.slice A R.length c) R.length (R.map B8) ∧ R.length ≤ c) ∧ Below w.heap.size w w'
theorem qim.as {w w' : World} {R R' : List Nat} {r : Ending} (h : qim w R r w') (e : R = R') : qim w R' r w' := e ▸ h
end Go.Proofs.YtannicghedpdpaaGreat
