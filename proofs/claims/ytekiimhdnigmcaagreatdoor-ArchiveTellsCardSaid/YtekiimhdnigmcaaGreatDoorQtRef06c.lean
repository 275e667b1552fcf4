/- A part of the proof. -/
import Derived.Test.YtekiimhdnigmcaaGreatDoorQtRef06b
namespace Go.Proofs.YtekiimhdnigmcaaGreatDoor
open Go.RowKit
def zeq (m:Nat) (c:Nat) (n k:Value):Prop:=∃j x:Nat,j≤c∧n= .int .u64 (x:Int)∧k= .int .u8 (j:Int)∧x≤m∧x=m/2^j
structure tZ (w:World) (b:Bool) (r:Ending) (w':World):Prop where
 ret:r= .returned (.bool b)
 below:Below w.heap.size w w'
set_option maxRecDepth 100000 in
set_option maxHeartbeats 2000000 in
theorem qqn (e:Ev) (he:e.Ok) (hc:e.cpu<64) (i:Nat) (hi:i<7) (w:World):
  Calls Tryz.prog 289 #[.agg e.cells,.int .i64 (i:Int)] w (tZ w (e.within i)):=by
 have Z:=hide (Zd e he i hi (w.alloc (.cells e.cells 242)))
 have hb1:Below w.heap.size w (w.alloc (.cells e.cells 242)):=(Below.refl _ _).alloc (Nat.le_refl _) _
 have hev:=iP.new w e 242
 have hne:=Sd he i
 have hm:=he.mask
 clear he
 unfold Ev.cells at*
 by_cases h0:0≤e.iy i
 ·have uT:=hne h0
  have hd:decide (0≤e.iy i)=true:=by simpa using h0
  generalize hww:e.within i=b
  have HW:=hide hww
  clear hww hne
  obtain rfl|rfl|rfl|rfl|rfl|rfl|rfl:i=0∨i=1∨i=2∨i=3∨i=4∨i=6∨i=5:=by omega
  all_goals
   have h1:=h0
   simp only [Ev.iy] at uT h1
  ·go_enter Tryz.func289,Tryz.ntmps289
   go_wp2_with (go_at_call 290;refine Z.out.mono ?_;rintro r w1 ⟨rfl,hb2⟩;have dG:=hev.below hb2 (by simp);have hkd:=dG.kind;have hcp:=dG.cpu)
   all_goals
    go_ret
    refine ⟨congrArg (fun b=>Ending.returned (.bool b)) ?_,hb1.trans (hb2.mono (by simp))⟩
    rw [←HW.out,Bool.eq_iff_iff];simp [Ev.within];omega
  ·by_cases hk:e.kind=8
   ·have hkb:((e.kind:Int) !=8)=false:=by rw [bne_eq_false_iff_eq];omega
    have HK:=hide hk
    clear hk
    go_enter Tryz.func289,Tryz.ntmps289
    go_wp2_with (go_at_call 290;refine Z.out.mono ?_;rintro r w1 ⟨rfl,hb2⟩;have dG:=hev.below hb2 (by simp);have hkd:=dG.kind;have hcp:=dG.cpu)
    all_goals
     go_ret
     refine ⟨congrArg (fun b=>Ending.returned (.bool b)) ?_,hb1.trans (hb2.mono (by simp))⟩
     rw [←HW.out,Bool.eq_iff_iff];simp [Ev.within,HK.out];omega
   ·have hkb:((e.kind:Int) !=8)=true:=by rw [bne_iff_ne];omega
    have HK:=hide hk
    clear hk
    go_enter Tryz.func289,Tryz.ntmps289
    go_wp2_with (go_at_call 290;refine Z.out.mono ?_;rintro r w1 ⟨rfl,hb2⟩;have dG:=hev.below hb2 (by simp);have hkd:=dG.kind;have hcp:=dG.cpu)
    all_goals
     go_ret
     refine ⟨congrArg (fun b=>Ending.returned (.bool b)) ?_,hb1.trans (hb2.mono (by simp))⟩
     rw [←HW.out,Bool.eq_iff_iff];simp [Ev.within,HK.out];omega
  ·go_enter Tryz.func289,Tryz.ntmps289
   go_wp2_with (go_at_call 290;refine Z.out.mono ?_;rintro r w1 ⟨rfl,hb2⟩;have dG:=hev.below hb2 (by simp);have hkd:=dG.kind;have hcp:=dG.cpu)
   all_goals
    go_ret
    refine ⟨congrArg (fun b=>Ending.returned (.bool b)) ?_,hb1.trans (hb2.mono (by simp))⟩
    rw [←HW.out,Bool.eq_iff_iff];simp [Ev.within];omega
  ·go_enter Tryz.func289,Tryz.ntmps289
   go_wp2_with (go_at_call 290;refine Z.out.mono ?_;rintro r w1 ⟨rfl,hb2⟩;have dG:=hev.below hb2 (by simp);have hkd:=dG.kind;have hcp:=dG.cpu)
   all_goals
    go_ret
    refine ⟨congrArg (fun b=>Ending.returned (.bool b)) ?_,hb1.trans (hb2.mono (by simp))⟩
    rw [←HW.out,Bool.eq_iff_iff];simp [Ev.within];omega
  ·go_enter Tryz.func289,Tryz.ntmps289
   go_wp2_with (go_at_call 290;refine Z.out.mono ?_;rintro r w1 ⟨rfl,hb2⟩;have dG:=hev.below hb2 (by simp);have hkd:=dG.kind;have hcp:=dG.cpu)
   all_goals
    go_ret
    refine ⟨congrArg (fun b=>Ending.returned (.bool b)) ?_,hb1.trans (hb2.mono (by simp))⟩
    rw [←HW.out,Bool.eq_iff_iff];simp [Ev.within];omega
  ·by_cases hk:e.kind=5
   ·have hkb:((e.kind:Int)==5)=true:=by rw [beq_iff_eq];omega
    have HK:=hide hk
    clear hk
    go_enter Tryz.func289,Tryz.ntmps289
    go_wp2_with (go_at_call 290;refine Z.out.mono ?_;rintro r w1 ⟨rfl,hb2⟩;have dG:=hev.below hb2 (by simp);have hkd:=dG.kind;have hcp:=dG.cpu)
    all_goals
     go_ret
     refine ⟨congrArg (fun b=>Ending.returned (.bool b)) ?_,hb1.trans (hb2.mono (by simp))⟩
     rw [←HW.out,Bool.eq_iff_iff];simp [Ev.within,HK.out];omega
   ·have hkb:((e.kind:Int)==5)=false:=by rw [beq_eq_false_iff_ne];omega
    by_cases EN:e.kind=6
    ·have Ze:((e.kind:Int)==6)=true:=by rw [beq_iff_eq];omega
     have HK:=hide EN
     clear hk EN
     go_enter Tryz.func289,Tryz.ntmps289
     go_wp2_with (go_at_call 290;refine Z.out.mono ?_;rintro r w1 ⟨rfl,hb2⟩;have dG:=hev.below hb2 (by simp);have hkd:=dG.kind;have hcp:=dG.cpu)
     all_goals
      go_ret
      refine ⟨congrArg (fun b=>Ending.returned (.bool b)) ?_,hb1.trans (hb2.mono (by simp))⟩
      rw [←HW.out,Bool.eq_iff_iff];simp [Ev.within,HK.out];omega
    ·have Ze:((e.kind:Int)==6)=false:=by rw [beq_eq_false_iff_ne];omega
     have HK:=hide hk
     have HK6:=hide EN
     clear hk EN
     go_enter Tryz.func289,Tryz.ntmps289
     go_wp2_with (go_at_call 290;refine Z.out.mono ?_;rintro r w1 ⟨rfl,hb2⟩;have dG:=hev.below hb2 (by simp);have hkd:=dG.kind;have hcp:=dG.cpu)
     all_goals
      go_ret
      refine ⟨congrArg (fun b=>Ending.returned (.bool b)) ?_,hb1.trans (hb2.mono (by simp))⟩
      rw [←HW.out,Bool.eq_iff_iff];simp [Ev.within,HK.out,HK6.out];omega
  ·go_enter Tryz.func289,Tryz.ntmps289
   go_wp2_with (go_at_call 290;refine Z.out.mono ?_;rintro r w1 ⟨rfl,hb2⟩;have dG:=hev.below hb2 (by simp);have hcp:=dG.cpu)
   have hmm:(e.mask:Int)<18446744073709551616:=by omega
   go_loop [5,7] (zeq e.mask e.cpu) (fun _ k=>e.cpu- (intOf k).toNat)
   case atStart=>exact ⟨0,e.mask,by omega,rfl,rfl,by omega,by simp⟩
   case round=>
    obtain ⟨j,x,hj,rfl,rfl,hxm,hx⟩:=hrel
    have HX:=hide hx
    clear hx
    by_cases hlt:j<e.cpu
    ·go_wp2
     refine ⟨⟨j+1,x/2,by omega,by simp,by go_num,by omega,?_⟩,by simp [intOf];omega⟩
     rw [HX.out,Nat.div_div_eq_div_mul,Nat.pow_succ]
    ·obtain rfl:j=e.cpu:=by omega
     go_wp2
     go_ret
     refine ⟨congrArg (fun b=>Ending.returned (.bool b)) ?_,hb1.trans (hb2.mono (by simp))⟩
     rw [←HW.out,Bool.eq_iff_iff];simp [Ev.within,←HX.out];omega
 ·have hw:e.within i=false:=by
   rw [←Bool.not_eq_true];intro h;exact h0 (U3 h)
  have hd:decide (0≤e.iy i)=false:=by simpa using h0
  rw [hw]
  clear hw hne
  go_enter Tryz.func289,Tryz.ntmps289
  go_wp2_with (go_at_call 290;refine Z.out.mono ?_;rintro r w1 ⟨rfl,hb2⟩)
  go_ret
  exact ⟨rfl,hb1.trans (hb2.mono (by simp))⟩
end Go.Proofs.YtekiimhdnigmcaaGreatDoor
