/- A part of the proof. -/
import Derived.Test.YtekiimhdnigmcaaGreatDoorQwRef06c
namespace Go.Proofs.YtekiimhdnigmcaaGreatDoor
open Go.RowKit
structure MP (w:World) (full:Bool) (r:Ending) (w':World):Prop where
 ret:∃s:ByteArray,r= .returned (.string s)∧s.toList.isEmpty= !full
 below:Below w.heap.size w w'
structure MQ (w:World) (n:Nat) (r:Ending) (w':World):Prop where
 ret:r= .returned (.int .i64 (n:Int))
 below:Below w.heap.size w w'
end Go.Proofs.YtekiimhdnigmcaaGreatDoor
