/- A part of the proof. -/
import Derived.Test.YtieeckeaijdaeaaGreatDoorQaRef06c
namespace Go.Proofs.YtieeckeaijdaeaaGreatDoor
open Go.RowKit
structure NV (w:World) (full:Bool) (r:Ending) (w':World):Prop where
 ret:∃s:ByteArray,r= .returned (.string s)∧s.toList.isEmpty= !full
 below:Below w.heap.size w w'
structure NW (w:World) (n:Nat) (r:Ending) (w':World):Prop where
 ret:r= .returned (.int .i64 (n:Int))
 below:Below w.heap.size w w'
end Go.Proofs.YtieeckeaijdaeaaGreatDoor
