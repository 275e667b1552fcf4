/- A part of the proof. -/
import Derived.Test.YtekiimhdnigmcaaGreatDoorQwEv
namespace Go.Proofs.YtekiimhdnigmcaaGreatDoor
open Go.RowKit
theorem zid (a:Value) (w:World):(Instr.typeAssert (.iface 439 a) 20 439 true).run Tryz.prog w= .ok (.tuple #[a,.bool true]) w:=by kernel_rfl
theorem qsm (a:Value) (w:World):(Instr.typeAssert (.iface 442 a) 20 439 true).run Tryz.prog w= .ok (.tuple #[.pointer none,.bool false]) w:=by kernel_rfl
theorem zd5 (a:Value) (w:World):(Instr.typeAssert (.iface 442 a) 20 442 true).run Tryz.prog w= .ok (.tuple #[a,.bool true]) w:=by kernel_rfl
def Ev.num (e:Ev) (i:Nat):Int:=IntKind.u64.wrap (e.jF i)
set_option maxRecDepth 100000 in
set_option maxHeartbeats 1000000 in
theorem Ke (e:Ev) (a:e.Ok) (b i:Nat) (hi:i<7) (w:World) (hb:jh w b e):
  Calls Tryz.prog 285 #[.pointer (some ⟨b,0,none⟩),.int .i64 (i:Int)] w λr c=>r= .returned (.tuple #[.int .u64 (e.num i),.bool (decide (0≤e.jF i))])∧∃n,c=w.drewN n:=by
 obtain ⟨h0,h1,h2,h3,h4,h5,h6,h7,h8,h9,h10⟩:=hb
 have f:=zid
 have g:=qsm
 have h:=zd5
 have hm:IntKind.u64.wrap (e.mask:Int)=(e.mask:Int):=by have:=a.mask;rw [IntKind.wrap_u64];omega
 have d:=hide hm
 clear hm a
 obtain rfl|rfl|rfl|rfl|rfl|rfl|rfl:i=0∨i=1∨i=2∨i=3∨i=4∨i=6∨i=5:=by omega
 case inr.inr.inr.inr.inr.inr=>
  go_enter Tryz.func285,Tryz.ntmps285
  go_wp2
  go_ret2
  exact ⟨by unfold Ev.num Ev.jF;simp [d.out],0,rfl⟩
 all_goals
  go_enter Tryz.func285,Tryz.ntmps285
  go_wp2
  go_quiet (fail)
  go_wp2
  go_ret2
  exact ⟨rfl,_,rfl⟩
end Go.Proofs.YtekiimhdnigmcaaGreatDoor
