/- A part of the proof. -/
import Derived.Test.YtekiimhdnigmcaaGreatDoorQsRef06
namespace Go.Proofs.YtekiimhdnigmcaaGreatDoor
open Go.RowKit
structure pX (w:World) (e:Ev) (i:Nat) (r:Ending) (w':World):Prop where
 ret:r= .returned (.tuple #[.int .u64 (e.num i),.bool (decide (0≤e.bJ i))])
 below:Below w.heap.size w w'
set_option maxRecDepth 100000 in
set_option maxHeartbeats 2000000 in
theorem Oh (e:Ev) (he:e.Ok) (i:Nat) (hi:i<7) (w:World):
  Calls Tryz.prog 290 #[.agg e.cells,.int .i64 (i:Int)] w (pX w e i):=by
 have c4:e.cells[4]?=some (.int .i64 e.task):=rfl
 have c5:e.cells[5]?=some (.int .i64 e.group):=rfl
 have c6:e.cells[6]?=some (.int .i64 e.to):=rfl
 have c7:e.cells[7]?=some (.int .i64 e.weight):=rfl
 have c8:e.cells[8]?=some (.int .i64 e.ticks):=rfl
 have c9:e.cells[9]?=some (.int .u64 (e.mask:Int)):=rfl
 have c10:e.cells[10]?=some (.int .i64 e.got):=rfl
 have hm:IntKind.u64.wrap (e.mask:Int)=(e.mask:Int):=by have:=he.mask;rw [IntKind.wrap_u64];omega
 have Hm:=hide hm
 clear hm he
 generalize e.cells=cs at c4 c5 c6 c7 c8 c9 c10⊢
 obtain rfl|rfl|rfl|rfl|rfl|rfl|rfl:i=0∨i=1∨i=2∨i=3∨i=4∨i=6∨i=5:=by omega
 case inr.inr.inr.inr.inr.inr=>
  go_enter Tryz.func290,Tryz.ntmps290
  go_wp2
  go_ret2
  exact ⟨by unfold Ev.num Ev.bJ;simp [Hm.out],(Below.refl _ _).alloc (Nat.le_refl _) _⟩
 all_goals
  go_enter Tryz.func290,Tryz.ntmps290
  go_wp2
  go_quiet (fail)
  go_wp2
  go_ret2
  exact ⟨rfl,below_drewN (((Below.refl _ _).alloc (Nat.le_refl _) _).alloc (by simp) _) _⟩
def Ev.rval (x:Nat):Int:=if x<4611686018427387904 then (x:Int) else -1
def Ev.dM (e:Ev) (i x:Nat):Ev:=e.jf i (Ev.rval x) x
structure oW (w:World) (cs:Array Value) (r:Ending) (w':World):Prop where
 ret:r= .returned (.agg cs)
 below:Below w.heap.size w w'
structure Fz (w:World) (b:Nat) (v0 v1 v2 v3 v4 v5 v6 v7 v8 v9 v10:Value):Prop where
 h0:w.cell? ⟨b,0,none⟩=some v0
 h1:w.cell? ⟨b,1,none⟩=some v1
 h2:w.cell? ⟨b,2,none⟩=some v2
 h3:w.cell? ⟨b,3,none⟩=some v3
 h4:w.cell? ⟨b,4,none⟩=some v4
 h5:w.cell? ⟨b,5,none⟩=some v5
 h6:w.cell? ⟨b,6,none⟩=some v6
 h7:w.cell? ⟨b,7,none⟩=some v7
 h8:w.cell? ⟨b,8,none⟩=some v8
 h9:w.cell? ⟨b,9,none⟩=some v9
 h10:w.cell? ⟨b,10,none⟩=some v10
theorem q2d (w:World) (v0 v1 v2 v3 v4 v5 v6 v7 v8 v9 v10:Value) (T1 T2:TypeId):
  Fz ((w.alloc (.cells #[v0,v1,v2,v3,v4,v5,v6,v7,v8,v9,v10] T1)).alloc (.cells #[v0,v1,v2,v3,v4,v5,v6,v7,v8,v9,v10] T2)) (w.heap.size+1) v0 v1 v2 v3 v4 v5 v6 v7 v8 v9 v10:=by
 have h:=fun i=>World.cell?_alloc_new (w.alloc (.cells #[v0,v1,v2,v3,v4,v5,v6,v7,v8,v9,v10] T1)) #[v0,v1,v2,v3,v4,v5,v6,v7,v8,v9,v10] T2 i
 rw [World.size_alloc] at h
 exact ⟨h 0,h 1,h 2,h 3,h 4,h 5,h 6,h 7,h 8,h 9,h 10⟩
theorem qm2 {P:Program} {fn:Func} {t:Tmp} {ty:TypeId} {tmps:Array Value} {w:World} {b:Nat} {v0 v1 v2 v3 v4 v5 v6 v7 v8 v9 v10:Value} (h:fn.results= #[.cell t ty]) (ht:tmps.getD t undef= .pointer (some ⟨b,0,none⟩))
  (hagg:(isAgg ty).run P w= .ok true w) (hsz:(sizeOf ty).run P w= .ok 11 w) (hE:Fz w b v0 v1 v2 v3 v4 v5 v6 v7 v8 v9 v10):(results fn tmps).run P w= .ok (.agg #[v0,v1,v2,v3,v4,v5,v6,v7,v8,v9,v10]) w:=by
 obtain ⟨h0,h1,h2,h3,h4,h5,h6,h7,h8,h9,h10⟩:=hE
 simp at ht
 simp [results,h,ht,hagg,hsz,go_sem,h0,h1,h2,h3,h4,h5,h6,h7,h8,h9,h10]
set_option maxRecDepth 100000 in
set_option maxHeartbeats 2000000 in
theorem qui (s t c k a g o z y m u:Int) (i:Nat) (X v:Int) (hi:i<7) (hx:0≤X∧X≤18446744073709551615) (hxv:(X<4611686018427387904∧v=X)∨(4611686018427387904≤X∧v= -1)) (w:World):
  Calls Tryz.prog 316 #[.agg #[.int .i64 s,.int .i64 t,.int .u8 c,.int .u8 k,.int .i64 a,.int .i64 g,.int .i64 o,.int .i64 z,.int .i64 y,.int .u64 m,.int .i64 u],.int .i64 (i:Int),.int .u64 X] w
   (oW w (Array.setIfInBounds #[.int .i64 s,.int .i64 t,.int .u8 c,.int .u8 k,.int .i64 a,.int .i64 g,.int .i64 o,.int .i64 z,.int .i64 y,.int .u64 m,.int .i64 u] (4+i) (if i=5 then .int .u64 X else .int .i64 v))):=by
 have hagg:∀W:World,(isAgg 242).run Tryz.prog W= .ok true W:=fun _=>by kernel_rfl
 have hsize:∀W:World,(sizeOf 242).run Tryz.prog W= .ok 11 W:=fun _=>by kernel_rfl
 have nH:=hide hagg
 have jv:=hide hsize
 clear hagg hsize
 obtain ⟨hx1,hx2⟩:=hx
 rcases hxv with ⟨hl,rfl⟩|⟨hl,rfl⟩
 all_goals
  obtain rfl|rfl|rfl|rfl|rfl|rfl|rfl:i=0∨i=1∨i=2∨i=3∨i=4∨i=6∨i=5:=by omega
  all_goals
   go_enter Tryz.func316,Tryz.ntmps316
   go_wp2
   refine bodyPost_ret ?_ rfl ⟨rfl,((Below.refl _ _).alloc (Nat.le_refl _) _).alloc (by simp) _⟩
   exact qm2 (t:=6) rfl rfl (nH.out _) (jv.out _) (q2d w _ _ _ _ _ _ _ _ _ _ _ _ _)
end Go.Proofs.YtekiimhdnigmcaaGreatDoor
