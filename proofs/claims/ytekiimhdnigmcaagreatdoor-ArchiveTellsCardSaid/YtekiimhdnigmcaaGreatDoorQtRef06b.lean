/- A part of the proof. -/
import Derived.Test.YtekiimhdnigmcaaGreatDoorQtRef06
namespace Go.Proofs.YtekiimhdnigmcaaGreatDoor
open Go.RowKit
structure yE (w:World) (e:Ev) (i:Nat) (r:Ending) (w':World):Prop where
 ret:r= .returned (.tuple #[.int .u64 (e.num i),.bool (decide (0≤e.iy i))])
 below:Below w.heap.size w w'
set_option maxRecDepth 100000 in
set_option maxHeartbeats 2000000 in
theorem Zd (e:Ev) (he:e.Ok) (i:Nat) (hi:i<7) (w:World):
  Calls Tryz.prog 290 #[.agg e.cells,.int .i64 (i:Int)] w (yE w e i):=by
 have c4:e.cells[4]?=some (.int .i64 e.task):=rfl
 have c5:e.cells[5]?=some (.int .i64 e.group):=rfl
 have c6:e.cells[6]?=some (.int .i64 e.to):=rfl
 have c7:e.cells[7]?=some (.int .i64 e.weight):=rfl
 have c8:e.cells[8]?=some (.int .i64 e.ticks):=rfl
 have c9:e.cells[9]?=some (.int .u64 (e.mask:Int)):=rfl
 have c10:e.cells[10]?=some (.int .i64 e.got):=rfl
 have hm:IntKind.u64.wrap (e.mask:Int)=(e.mask:Int):=by have:=he.mask;rw [IntKind.wrap_u64];omega
 have Hm:=hide hm
 clear hm he
 generalize e.cells=cs at c4 c5 c6 c7 c8 c9 c10⊢
 obtain rfl|rfl|rfl|rfl|rfl|rfl|rfl:i=0∨i=1∨i=2∨i=3∨i=4∨i=6∨i=5:=by omega
 case inr.inr.inr.inr.inr.inr=>
  go_enter Tryz.func290,Tryz.ntmps290
  go_wp2
  go_ret2
  exact ⟨by unfold Ev.num Ev.iy;simp [Hm.out],(Below.refl _ _).alloc (Nat.le_refl _) _⟩
 all_goals
  go_enter Tryz.func290,Tryz.ntmps290
  go_wp2
  go_quiet (fail)
  go_wp2
  go_ret2
  exact ⟨rfl,below_drewN (((Below.refl _ _).alloc (Nat.le_refl _) _).alloc (by simp) _) _⟩
structure Ur (w:World) (cs:Array Value) (r:Ending) (w':World):Prop where
 ret:r= .returned (.agg cs)
 below:Below w.heap.size w w'
structure aq7 (w:World) (b:Nat) (v0 v1 v2 v3 v4 v5 v6 v7 v8 v9 v10:Value):Prop where
 h0:w.cell? ⟨b,0,none⟩=some v0
 h1:w.cell? ⟨b,1,none⟩=some v1
 h2:w.cell? ⟨b,2,none⟩=some v2
 h3:w.cell? ⟨b,3,none⟩=some v3
 h4:w.cell? ⟨b,4,none⟩=some v4
 h5:w.cell? ⟨b,5,none⟩=some v5
 h6:w.cell? ⟨b,6,none⟩=some v6
 h7:w.cell? ⟨b,7,none⟩=some v7
 h8:w.cell? ⟨b,8,none⟩=some v8
 h9:w.cell? ⟨b,9,none⟩=some v9
 h10:w.cell? ⟨b,10,none⟩=some v10
end Go.Proofs.YtekiimhdnigmcaaGreatDoor
