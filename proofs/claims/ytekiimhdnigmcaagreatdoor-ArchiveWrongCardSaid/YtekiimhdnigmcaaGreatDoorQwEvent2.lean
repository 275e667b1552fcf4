/- A part of the proof. -/
import Derived.Test.YtekiimhdnigmcaaGreatDoorQwEvent
namespace Go.Proofs.YtekiimhdnigmcaaGreatDoor
open Go.RowKit
open Bool renaming eq_iff_iff→acg
def Ev.lim (e:Ev):Nat→Nat×Nat
 |0=>(1,65535)
 |1=>(if e.kind=8 then 1 else 0,255)
 |2=>(0,63)
 |3=>(1,65536)
 |4=>(1,4294967295)
 |5=>(1,18446744073709551615)
 |_=>(if e.kind=5∨e.kind=6 then 0 else 1,65535)
set_option maxRecDepth 100000 in
set_option maxHeartbeats 1000000 in
theorem Nc (e:Ev) (b i:Nat) (hi:i<7) (w:World) (hb:jh w b e):
  Calls Tryz.prog 306 #[.pointer (some ⟨b,0,none⟩),.int .i64 (i:Int)] w λr h=>r= .returned (.tuple #[.int .u64 ((e.lim i).1:Int),.int .u64 ((e.lim i).2:Int)])∧h=w:=by
 have h3:=hb.kind
 clear hb
 obtain rfl|rfl|rfl|rfl|rfl|rfl|rfl:i=0∨i=2∨i=3∨i=4∨i=5∨i=1∨i=6:=by omega
 case inr.inr.inr.inr.inr.inl=>
  by_cases f:e.kind=8
  ·have c:((e.kind:Int)==8)=true:=by rw [beq_iff_eq];omega
   have H:=hide f
   clear f
   go_enter Tryz.func306,Tryz.ntmps306
   go_wp2
   go_ret2
   exact ⟨by rw [show e.lim 1=(1,255) by have:=H.out;simp [Ev.lim,this]];rfl,rfl⟩
  ·have c:((e.kind:Int)==8)=false:=by rw [beq_eq_false_iff_ne];omega
   have H:=hide f
   clear f
   go_enter Tryz.func306,Tryz.ntmps306
   go_wp2
   go_ret2
   exact ⟨by rw [show e.lim 1=(0,255) by have:=H.out;simp [Ev.lim,this]];rfl,rfl⟩
 case inr.inr.inr.inr.inr.inr=>
  by_cases a:e.kind=5
  ·have c:((e.kind:Int)==5)=true:=by rw [beq_iff_eq];omega
   have H:=hide a
   clear a
   go_enter Tryz.func306,Tryz.ntmps306
   go_wp2
   go_ret2
   exact ⟨by rw [show e.lim 6=(0,65535) by have:=H.out;simp [Ev.lim,this]];rfl,rfl⟩
  ·have c:((e.kind:Int)==5)=false:=by rw [beq_eq_false_iff_ne];omega
   by_cases d:e.kind=6
   ·have g:((e.kind:Int)==6)=true:=by rw [beq_iff_eq];omega
    have H:=hide d
    clear a d
    go_enter Tryz.func306,Tryz.ntmps306
    go_wp2
    go_ret2
    exact ⟨by rw [show e.lim 6=(0,65535) by have:=H.out;simp [Ev.lim,this]];rfl,rfl⟩
   ·have g:((e.kind:Int)==6)=false:=by rw [beq_eq_false_iff_ne];omega
    have H:=hide (show ¬(e.kind=5∨e.kind=6) by omega)
    clear a d
    go_enter Tryz.func306,Tryz.ntmps306
    go_wp2
    go_ret2
    exact ⟨by rw [show e.lim 6=(1,65535) by have:=H.out;simp [Ev.lim,this]];rfl,rfl⟩
 all_goals
  go_enter Tryz.func306,Tryz.ntmps306
  go_wp2
  go_ret2
  exact ⟨rfl,rfl⟩
set_option maxRecDepth 100000 in
set_option maxHeartbeats 1000000 in
theorem q03 (e:Ev) (l:e.Ok) (b i:Nat) (hi:i<7) (w:World) (hb:jh w b e) (f:¬(0≤e.jF i∧((e.lim i).1:Int)≤e.num i∧e.num i≤((e.lim i).2:Int))):
  Calls Tryz.prog 284 #[.pointer (some ⟨b,0,none⟩),.int .i64 (i:Int)] w λr a=>r= .returned (.bool false)∧∃n,a=w.drewN n:=by
 have c:=hide (Ke e l b i hi w hb)
 have m:∀a,jh a b e→_:=λa g=>Nc e b i hi a g
 have d:∀n,Hid (Calls Tryz.prog 306 #[.pointer (some ⟨b,0,none⟩),.int .i64 (i:Int)] (w.drewN n) λr a=>r= .returned (.tuple #[.int .u64 ((e.lim i).1:Int),.int .u64 ((e.lim i).2:Int)])∧a=w.drewN n):=λn=>hide (Nc e b i hi _ (hb.keep λ_ _ h=>h))
 clear m
 generalize e.jF i=x at f c
 generalize e.num i=y at f c
 generalize e.lim i=z at f d
 obtain ⟨k,j⟩:=z
 simp only at f d
 by_cases h1:0≤x
 ·by_cases h2:(k:Int)≤y
  ·have h3:(j:Int)<y:=by omega
   go_enter Tryz.func284,Tryz.ntmps284
   go_wp2_with (first|(go_at_call 285;refine c.out.mono ?_;rintro r a ⟨rfl,n,rfl⟩)|(go_at_call 306;refine (d _).out.mono ?_;rintro r a ⟨rfl,rfl⟩))
   go_ret
   exact ⟨rfl,_,rfl⟩
  ·have h3:y<(k:Int):=by omega
   go_enter Tryz.func284,Tryz.ntmps284
   go_wp2_with (first|(go_at_call 285;refine c.out.mono ?_;rintro r a ⟨rfl,n,rfl⟩)|(go_at_call 306;refine (d _).out.mono ?_;rintro r a ⟨rfl,rfl⟩))
   go_ret
   exact ⟨rfl,_,rfl⟩
 ·have h3:x<0:=by omega
  go_enter Tryz.func284,Tryz.ntmps284
  go_wp2_with (first|(go_at_call 285;refine c.out.mono ?_;rintro r a ⟨rfl,n,rfl⟩)|(go_at_call 306;refine (d _).out.mono ?_;rintro r a ⟨rfl,rfl⟩))
  go_ret
  exact ⟨rfl,_,rfl⟩
theorem Nf {e:Ev} (a:e.Ok) (i:Nat) (h:0≤e.jF i):e.num i=e.jF i:=by
 have b:e.jF i<18446744073709551616:=by
  unfold Ev.jF
  split
  ·have:=a.task.2;omega
  ·have:=a.group.2;omega
  ·have:=a.to.2;omega
  ·have:=a.weight.2;omega
  ·have:=a.ticks.2;omega
  ·have:=a.mask;omega
  ·have:=a.got.2;omega
 unfold Ev.num
 rw [IntKind.wrap_u64]
 omega
theorem q7u (m c:Nat) (hm:m<18446744073709551616):(bits .and .u64 ((m:Int)/2^c) 1==1)=decide (m/2^c%2=1):=by
 have e1:(m:Int)/2^c=((m/2^c:Nat):Int):=by simp
 have a:m/2^c<18446744073709551616:=Nat.lt_of_le_of_lt (Nat.div_le_self _ _) hm
 have e2:bits .and .u64 ((m/2^c:Nat):Int) 1=_:=u64_and_nat (m/2^c) 1 a (by omega)
 rw [e1,e2,nat_mask1]
 by_cases h:m/2^c%2=1
 ·rw [h];rfl
 ·have:m/2^c%2=0:=by omega
  rw [this];rfl
set_option maxRecDepth 100000 in
set_option maxHeartbeats 2000000 in
theorem qx2 (e:Ev) (k:e.Ok) (hc:e.cpu<64) (b i:Nat) (hi:i<7) (w:World) (hb:jh w b e) (d:0≤e.jF i∧((e.lim i).1:Int)≤e.num i∧e.num i≤((e.lim i).2:Int)):
  Calls Tryz.prog 284 #[.pointer (some ⟨b,0,none⟩),.int .i64 (i:Int)] w λr a=>r= .returned (.bool (if i=2 then decide (e.to≠(e.cpu:Int)) else if i=5 then decide (e.mask/2^e.cpu%2=1) else true))∧∃n,a=w.drewN n:=by
 have f:=hide (Ke e k b i hi w hb)
 have g:∀n,Hid (Calls Tryz.prog 306 #[.pointer (some ⟨b,0,none⟩),.int .i64 (i:Int)] (w.drewN n) λr a=>r= .returned (.tuple #[.int .u64 ((e.lim i).1:Int),.int .u64 ((e.lim i).2:Int)])∧a=w.drewN n):=λn=>hide (Nc e b i hi _ (hb.keep λ_ _ h=>h))
 have h6:=hb.to
 have h2:=hb.cpu
 have j:=Nf k i d.1
 have hm:=k.mask
 clear hb k
 have c:i=5→e.num i=(e.mask:Int):=by rintro rfl;exact j
 clear j
 generalize e.jF i=x at d f
 generalize e.num i=y at d f c
 generalize e.lim i=z at d g
 obtain ⟨q,m⟩:=z
 obtain ⟨s,hb,l⟩:=d
 simp only at hb l g
 have o:=hide c
 clear c
 obtain rfl|rfl|rfl|rfl|rfl|rfl|rfl:i=2∨i=5∨i=0∨i=1∨i=3∨i=4∨i=6:=by omega
 ·go_enter Tryz.func284,Tryz.ntmps284
  go_wp2_with (first|(go_at_call 285;refine f.out.mono ?_;rintro r a ⟨rfl,n,rfl⟩)|(go_at_call 306;refine (g _).out.mono ?_;rintro r a ⟨rfl,rfl⟩))
  go_quiet (fail)
  go_wp2
  go_ret
  exact ⟨by by_cases h:e.to=(e.cpu:Int)<;>simp [h],_,rfl⟩
 ·have p:y=(e.mask:Int):=o.out rfl
  subst p
  go_enter Tryz.func284,Tryz.ntmps284
  go_wp2_with (first|(go_at_call 285;refine f.out.mono ?_;rintro r a ⟨rfl,n,rfl⟩)|(go_at_call 306;refine (g _).out.mono ?_;rintro r a ⟨rfl,rfl⟩))
  go_ret
  exact ⟨by have h1:=q7u e.mask e.cpu hm;simpa using h1,_,rfl⟩
 all_goals
  go_enter Tryz.func284,Tryz.ntmps284
  go_wp2_with (first|(go_at_call 285;refine f.out.mono ?_;rintro r a ⟨rfl,n,rfl⟩)|(go_at_call 306;refine (g _).out.mono ?_;rintro r a ⟨rfl,rfl⟩))
  go_ret
  exact ⟨rfl,_,rfl⟩
theorem UC (e:Ev) (a:e.Ok) (i:Nat) (hi:i<7):e.within i=(decide (0≤e.jF i∧((e.lim i).1:Int)≤e.num i∧e.num i≤((e.lim i).2:Int))&& (if i=2 then decide (e.to≠(e.cpu:Int)) else if i=5 then decide (e.mask/2^e.cpu%2=1) else true)):=by
 by_cases h0:0≤e.jF i
 ·rw [Nf a i h0]
  have hm:=a.mask
  obtain rfl|rfl|rfl|rfl|rfl|rfl|rfl:i=0∨i=1∨i=2∨i=3∨i=4∨i=5∨i=6:=by omega
  all_goals simp only [Ev.jF,Ev.lim,Ev.within] at*
  ·rw [acg];simp;omega
  ·rw [acg];by_cases h:e.kind=8<;>simp [h]<;>omega
  ·rw [acg];simp;omega
  ·rw [acg];simp;omega
  ·rw [acg];simp;omega
  ·rw [acg];simp
   intro h
   have h1:e.mask≠0:=by rintro h0;rw [h0] at h;simp at h
   omega
  ·rw [acg];by_cases h:e.kind=5∨e.kind=6<;>simp [h]<;>omega
 ·have:decide (0≤e.jF i∧((e.lim i).1:Int)≤e.num i∧e.num i≤((e.lim i).2:Int))=false:=by simp;intro h;omega
  rw [this]
  obtain rfl|rfl|rfl|rfl|rfl|rfl|rfl:i=0∨i=1∨i=2∨i=3∨i=4∨i=5∨i=6:=by omega
  all_goals simp only [Ev.jF,Ev.within] at*
  ·simp;omega
  ·simp;intro h;split at h<;>omega
  ·simp;omega
  ·simp;omega
  ·simp;omega
  ·omega
  ·simp;intro h;split at h<;>omega
theorem qx3 (e:Ev) (a:e.Ok) (hc:e.cpu<64) (b i:Nat) (hi:i<7) (w:World) (hb:jh w b e):
  Calls Tryz.prog 284 #[.pointer (some ⟨b,0,none⟩),.int .i64 (i:Int)] w λr d=>r= .returned (.bool (e.within i))∧∃n,d=w.drewN n:=by
 by_cases c:0≤e.jF i∧((e.lim i).1:Int)≤e.num i∧e.num i≤((e.lim i).2:Int)
 ·refine (qx2 e a hc b i hi w hb c).mono ?_
  rintro r d ⟨rfl,h⟩
  exact ⟨by rw [UC e a i hi];simp [c],h⟩
 ·refine (q03 e a b i hi w hb c).mono ?_
  rintro r d ⟨rfl,h⟩
  exact ⟨by rw [UC e a i hi];simp [c],h⟩
end Go.Proofs.YtekiimhdnigmcaaGreatDoor
