/- A part of the proof. -/
import Derived.Test.YtfeheccoijnbaaaDoorQbRef06b
namespace Go.Proofs.YtfeheccoijnbaaaDoor
open Go.RowKit
structure BoolPost (w : World) (b : Bool) (r : Ending) (w' : World) : Prop where
 ret : r = .returned (.bool b)
 below : Below w.heap.size w w'
end Go.Proofs.YtfeheccoijnbaaaDoor
