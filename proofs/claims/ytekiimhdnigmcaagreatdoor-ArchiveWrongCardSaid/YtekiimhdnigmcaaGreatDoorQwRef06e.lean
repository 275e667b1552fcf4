/- A part of the proof. -/
import Derived.Test.YtekiimhdnigmcaaGreatDoorQwRef06d
namespace Go.Proofs.YtekiimhdnigmcaaGreatDoor
open Go.RowKit
structure CV (w:World) (n:Nat) (r:Ending) (w':World):Prop where
 ret:∃v xs,r= .returned v∧w'.ownsRow w.heap.size 9 1 v n xs
 below:Below w.heap.size w w'
end Go.Proofs.YtekiimhdnigmcaaGreatDoor
