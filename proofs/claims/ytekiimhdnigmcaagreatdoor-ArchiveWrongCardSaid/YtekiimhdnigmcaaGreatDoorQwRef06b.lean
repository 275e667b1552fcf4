/- A part of the proof. -/
import Derived.Test.YtekiimhdnigmcaaGreatDoorQwRef06
namespace Go.Proofs.YtekiimhdnigmcaaGreatDoor
open Go.RowKit
structure Ee (w:World) (e:Ev) (i:Nat) (r:Ending) (w':World):Prop where
 ret:r= .returned (.tuple #[.int .u64 (e.num i),.bool (decide (0≤e.jF i))])
 below:Below w.heap.size w w'
structure MO (w:World) (cs:Array Value) (r:Ending) (w':World):Prop where
 ret:r= .returned (.agg cs)
 below:Below w.heap.size w w'
structure aoL (w:World) (b:Nat) (v0 v1 v2 v3 v4 v5 v6 v7 v8 v9 v10:Value):Prop where
 h0:w.cell? ⟨b,0,none⟩=some v0
 h1:w.cell? ⟨b,1,none⟩=some v1
 h2:w.cell? ⟨b,2,none⟩=some v2
 h3:w.cell? ⟨b,3,none⟩=some v3
 h4:w.cell? ⟨b,4,none⟩=some v4
 h5:w.cell? ⟨b,5,none⟩=some v5
 h6:w.cell? ⟨b,6,none⟩=some v6
 h7:w.cell? ⟨b,7,none⟩=some v7
 h8:w.cell? ⟨b,8,none⟩=some v8
 h9:w.cell? ⟨b,9,none⟩=some v9
 h10:w.cell? ⟨b,10,none⟩=some v10
end Go.Proofs.YtekiimhdnigmcaaGreatDoor
