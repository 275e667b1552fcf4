/- A part of the proof. -/
import Derived.Test.YtekiimhdnigmcaaGreatDoorQwRef06b
namespace Go.Proofs.YtekiimhdnigmcaaGreatDoor
open Go.RowKit
structure Iz (w:World) (b:Bool) (r:Ending) (w':World):Prop where
 ret:r= .returned (.bool b)
 below:Below w.heap.size w w'
end Go.Proofs.YtekiimhdnigmcaaGreatDoor
