/- A part of the proof. -/
import Derived.Test.YtieeckeaijdaeaaGreatDoorQaRef06b
namespace Go.Proofs.YtieeckeaijdaeaaGreatDoor
open Go.RowKit
structure KA (w:World) (b:Bool) (r:Ending) (w':World):Prop where
 ret:r= .returned (.bool b)
 below:Below w.heap.size w w'
end Go.Proofs.YtieeckeaijdaeaaGreatDoor
