/- A part of the proof. -/
import Derived.Test.YtekiimhdnigmcaaGreatDoorQtEvent
namespace Go.Proofs.YtekiimhdnigmcaaGreatDoor
open Go.RowKit
def Ev.lim (e:Ev):Nat→Nat×Nat
 |0=>(1,65535)
 |1=>(if e.kind=8 then 1 else 0,255)
 |2=>(0,63)
 |3=>(1,65536)
 |4=>(1,4294967295)
 |5=>(1,18446744073709551615)
 |_=>(if e.kind=5∨e.kind=6 then 0 else 1,65535)
set_option maxRecDepth 100000 in
set_option maxHeartbeats 1000000 in
theorem U0 (e:Ev) (b i:Nat) (hi:i<7) (w:World) (hb:iP w b e):
  Calls Tryz.prog 306 #[.pointer (some ⟨b,0,none⟩),.int .i64 (i:Int)] w fun r w'=>r= .returned (.tuple #[.int .u64 ((e.lim i).1:Int),.int .u64 ((e.lim i).2:Int)])∧w'=w:=by
 have h3:=hb.kind
 clear hb
 obtain rfl|rfl|rfl|rfl|rfl|rfl|rfl:i=0∨i=2∨i=3∨i=4∨i=5∨i=1∨i=6:=by omega
 case inr.inr.inr.inr.inr.inl=>
  by_cases hk:e.kind=8
  ·have hk1:((e.kind:Int)==8)=true:=by rw [beq_iff_eq];omega
   have H:=hide hk
   clear hk
   go_enter Tryz.func306,Tryz.ntmps306
   go_wp2
   go_ret2
   exact ⟨by rw [show e.lim 1=(1,255) by have:=H.out;simp [Ev.lim,this]];rfl,rfl⟩
  ·have hk1:((e.kind:Int)==8)=false:=by rw [beq_eq_false_iff_ne];omega
   have H:=hide hk
   clear hk
   go_enter Tryz.func306,Tryz.ntmps306
   go_wp2
   go_ret2
   exact ⟨by rw [show e.lim 1=(0,255) by have:=H.out;simp [Ev.lim,this]];rfl,rfl⟩
 case inr.inr.inr.inr.inr.inr=>
  by_cases hk5:e.kind=5
  ·have hk1:((e.kind:Int)==5)=true:=by rw [beq_iff_eq];omega
   have H:=hide hk5
   clear hk5
   go_enter Tryz.func306,Tryz.ntmps306
   go_wp2
   go_ret2
   exact ⟨by rw [show e.lim 6=(0,65535) by have:=H.out;simp [Ev.lim,this]];rfl,rfl⟩
  ·have hk1:((e.kind:Int)==5)=false:=by rw [beq_eq_false_iff_ne];omega
   by_cases EN:e.kind=6
   ·have hk2:((e.kind:Int)==6)=true:=by rw [beq_iff_eq];omega
    have H:=hide EN
    clear hk5 EN
    go_enter Tryz.func306,Tryz.ntmps306
    go_wp2
    go_ret2
    exact ⟨by rw [show e.lim 6=(0,65535) by have:=H.out;simp [Ev.lim,this]];rfl,rfl⟩
   ·have hk2:((e.kind:Int)==6)=false:=by rw [beq_eq_false_iff_ne];omega
    have H:=hide (show ¬(e.kind=5∨e.kind=6) by omega)
    clear hk5 EN
    go_enter Tryz.func306,Tryz.ntmps306
    go_wp2
    go_ret2
    exact ⟨by rw [show e.lim 6=(1,65535) by have:=H.out;simp [Ev.lim,this]];rfl,rfl⟩
 all_goals
  go_enter Tryz.func306,Tryz.ntmps306
  go_wp2
  go_ret2
  exact ⟨rfl,rfl⟩
set_option maxRecDepth 100000 in
set_option maxHeartbeats 1000000 in
theorem qyi (e:Ev) (he:e.Ok) (b i:Nat) (hi:i<7) (w:World) (hb:iP w b e) (hl:¬(0≤e.iy i∧((e.lim i).1:Int)≤e.num i∧e.num i≤((e.lim i).2:Int))):
  Calls Tryz.prog 284 #[.pointer (some ⟨b,0,none⟩),.int .i64 (i:Int)] w fun r w'=>r= .returned (.bool false)∧∃n,w'=w.drewN n:=by
 have HV:=hide (Sc e he b i hi w hb)
 have hL:∀w',iP w' b e→_:=fun w' hb'=>U0 e b i hi w' hb'
 have HL:∀n,Hid (Calls Tryz.prog 306 #[.pointer (some ⟨b,0,none⟩),.int .i64 (i:Int)] (w.drewN n) fun r w'=>r= .returned (.tuple #[.int .u64 ((e.lim i).1:Int),.int .u64 ((e.lim i).2:Int)])∧w'=w.drewN n):=fun n=>hide (U0 e b i hi _ (hb.keep fun _ _ h=>h))
 clear hL
 generalize e.iy i=x at hl HV
 generalize e.num i=y at hl HV
 generalize e.lim i=z at hl HL
 obtain ⟨lo,hi'⟩:=z
 simp only at hl HL
 by_cases h1:0≤x
 ·by_cases h2:(lo:Int)≤y
  ·have h3:(hi':Int)<y:=by omega
   go_enter Tryz.func284,Tryz.ntmps284
   go_wp2_with (first|(go_at_call 285;refine HV.out.mono ?_;rintro r w' ⟨rfl,n,rfl⟩)|(go_at_call 306;refine (HL _).out.mono ?_;rintro r w' ⟨rfl,rfl⟩))
   go_ret
   exact ⟨rfl,_,rfl⟩
  ·have h3:y<(lo:Int):=by omega
   go_enter Tryz.func284,Tryz.ntmps284
   go_wp2_with (first|(go_at_call 285;refine HV.out.mono ?_;rintro r w' ⟨rfl,n,rfl⟩)|(go_at_call 306;refine (HL _).out.mono ?_;rintro r w' ⟨rfl,rfl⟩))
   go_ret
   exact ⟨rfl,_,rfl⟩
 ·have h3:x<0:=by omega
  go_enter Tryz.func284,Tryz.ntmps284
  go_wp2_with (first|(go_at_call 285;refine HV.out.mono ?_;rintro r w' ⟨rfl,n,rfl⟩)|(go_at_call 306;refine (HL _).out.mono ?_;rintro r w' ⟨rfl,rfl⟩))
  go_ret
  exact ⟨rfl,_,rfl⟩
theorem Sd {e:Ev} (he:e.Ok) (i:Nat) (h:0≤e.iy i):e.num i=e.iy i:=by
 have hr:e.iy i<18446744073709551616:=by
  unfold Ev.iy
  split
  ·have:=he.task.2;omega
  ·have:=he.group.2;omega
  ·have:=he.to.2;omega
  ·have:=he.weight.2;omega
  ·have:=he.ticks.2;omega
  ·have:=he.mask;omega
  ·have:=he.got.2;omega
 unfold Ev.num
 rw [IntKind.wrap_u64]
 omega
theorem q4y (m c:Nat) (hm:m<18446744073709551616):(bits .and .u64 ((m:Int)/2^c) 1==1)=decide (m/2^c%2=1):=by
 have e1:(m:Int)/2^c=((m/2^c:Nat):Int):=by simp
 have hl:m/2^c<18446744073709551616:=Nat.lt_of_le_of_lt (Nat.div_le_self _ _) hm
 have e2:bits .and .u64 ((m/2^c:Nat):Int) 1=_:=u64_and_nat (m/2^c) 1 hl (by omega)
 rw [e1,e2,nat_mask1]
 by_cases h:m/2^c%2=1
 ·rw [h];rfl
 ·have:m/2^c%2=0:=by omega
  rw [this];rfl
set_option maxRecDepth 100000 in
set_option maxHeartbeats 2000000 in
theorem qwg (e:Ev) (he:e.Ok) (hc:e.cpu<64) (b i:Nat) (hi:i<7) (w:World) (hb:iP w b e) (hl:0≤e.iy i∧((e.lim i).1:Int)≤e.num i∧e.num i≤((e.lim i).2:Int)):
  Calls Tryz.prog 284 #[.pointer (some ⟨b,0,none⟩),.int .i64 (i:Int)] w fun r w'=>r= .returned (.bool (if i=2 then decide (e.to≠(e.cpu:Int)) else if i=5 then decide (e.mask/2^e.cpu%2=1) else true))∧∃n,w'=w.drewN n:=by
 have HV:=hide (Sc e he b i hi w hb)
 have HL:∀n,Hid (Calls Tryz.prog 306 #[.pointer (some ⟨b,0,none⟩),.int .i64 (i:Int)] (w.drewN n) fun r w'=>r= .returned (.tuple #[.int .u64 ((e.lim i).1:Int),.int .u64 ((e.lim i).2:Int)])∧w'=w.drewN n):=fun n=>hide (U0 e b i hi _ (hb.keep fun _ _ h=>h))
 have h6:=hb.to
 have h2:=hb.cpu
 have hne:=Sd he i hl.1
 have hm:=he.mask
 clear hb he
 have U1:i=5→e.num i=(e.mask:Int):=by rintro rfl;exact hne
 clear hne
 generalize e.iy i=x at hl HV
 generalize e.num i=y at hl HV U1
 generalize e.lim i=z at hl HL
 obtain ⟨lo,hi'⟩:=z
 obtain ⟨ha,hb,hc'⟩:=hl
 simp only at hb hc' HL
 have H5:=hide U1
 clear U1
 obtain rfl|rfl|rfl|rfl|rfl|rfl|rfl:i=2∨i=5∨i=0∨i=1∨i=3∨i=4∨i=6:=by omega
 ·go_enter Tryz.func284,Tryz.ntmps284
  go_wp2_with (first|(go_at_call 285;refine HV.out.mono ?_;rintro r w' ⟨rfl,n,rfl⟩)|(go_at_call 306;refine (HL _).out.mono ?_;rintro r w' ⟨rfl,rfl⟩))
  go_quiet (fail)
  go_wp2
  go_ret
  exact ⟨by by_cases h:e.to=(e.cpu:Int)<;>simp [h],_,rfl⟩
 ·have hy:y=(e.mask:Int):=H5.out rfl
  subst hy
  go_enter Tryz.func284,Tryz.ntmps284
  go_wp2_with (first|(go_at_call 285;refine HV.out.mono ?_;rintro r w' ⟨rfl,n,rfl⟩)|(go_at_call 306;refine (HL _).out.mono ?_;rintro r w' ⟨rfl,rfl⟩))
  go_ret
  exact ⟨by have h1:=q4y e.mask e.cpu hm;simpa using h1,_,rfl⟩
 all_goals
  go_enter Tryz.func284,Tryz.ntmps284
  go_wp2_with (first|(go_at_call 285;refine HV.out.mono ?_;rintro r w' ⟨rfl,n,rfl⟩)|(go_at_call 306;refine (HL _).out.mono ?_;rintro r w' ⟨rfl,rfl⟩))
  go_ret
  exact ⟨rfl,_,rfl⟩
theorem qoj (e:Ev) (he:e.Ok) (i:Nat) (hi:i<7):e.within i=(decide (0≤e.iy i∧((e.lim i).1:Int)≤e.num i∧e.num i≤((e.lim i).2:Int))&& (if i=2 then decide (e.to≠(e.cpu:Int)) else if i=5 then decide (e.mask/2^e.cpu%2=1) else true)):=by
 by_cases h0:0≤e.iy i
 ·rw [Sd he i h0]
  have hm:=he.mask
  obtain rfl|rfl|rfl|rfl|rfl|rfl|rfl:i=0∨i=1∨i=2∨i=3∨i=4∨i=5∨i=6:=by omega
  all_goals simp only [Ev.iy,Ev.lim,Ev.within] at*
  ·rw [Bool.eq_iff_iff];simp;omega
  ·rw [Bool.eq_iff_iff];by_cases h:e.kind=8<;>simp [h]<;>omega
  ·rw [Bool.eq_iff_iff];simp;omega
  ·rw [Bool.eq_iff_iff];simp;omega
  ·rw [Bool.eq_iff_iff];simp;omega
  ·rw [Bool.eq_iff_iff];simp
   intro h
   have h1:e.mask≠0:=by rintro h0;rw [h0] at h;simp at h
   omega
  ·rw [Bool.eq_iff_iff];by_cases h:e.kind=5∨e.kind=6<;>simp [h]<;>omega
 ·have:decide (0≤e.iy i∧((e.lim i).1:Int)≤e.num i∧e.num i≤((e.lim i).2:Int))=false:=by simp;intro h;omega
  rw [this]
  obtain rfl|rfl|rfl|rfl|rfl|rfl|rfl:i=0∨i=1∨i=2∨i=3∨i=4∨i=5∨i=6:=by omega
  all_goals simp only [Ev.iy,Ev.within] at*
  ·simp;omega
  ·simp;intro h;split at h<;>omega
  ·simp;omega
  ·simp;omega
  ·simp;omega
  ·omega
  ·simp;intro h;split at h<;>omega
theorem qwh (e:Ev) (he:e.Ok) (hc:e.cpu<64) (b i:Nat) (hi:i<7) (w:World) (hb:iP w b e):
  Calls Tryz.prog 284 #[.pointer (some ⟨b,0,none⟩),.int .i64 (i:Int)] w fun r w'=>r= .returned (.bool (e.within i))∧∃n,w'=w.drewN n:=by
 by_cases hl:0≤e.iy i∧((e.lim i).1:Int)≤e.num i∧e.num i≤((e.lim i).2:Int)
 ·refine (qwg e he hc b i hi w hb hl).mono ?_
  rintro r w' ⟨rfl,h⟩
  exact ⟨by rw [qoj e he i hi];simp [hl],h⟩
 ·refine (qyi e he b i hi w hb hl).mono ?_
  rintro r w' ⟨rfl,h⟩
  exact ⟨by rw [qoj e he i hi];simp [hl],h⟩
end Go.Proofs.YtekiimhdnigmcaaGreatDoor
