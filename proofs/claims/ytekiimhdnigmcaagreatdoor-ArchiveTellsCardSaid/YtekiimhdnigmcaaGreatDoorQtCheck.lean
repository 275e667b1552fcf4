/- A part of the proof. -/
import Derived.Test.YtekiimhdnigmcaaGreatDoorQtEvent2
namespace Go.Proofs.YtekiimhdnigmcaaGreatDoor
open Go.RowKit
def zc9 (l:List Nat) (x:Nat) (i:Value):Prop:=∃k,k≤l.length∧i= .int .i64 (k:Int)∧x∉l.take k
set_option maxHeartbeats 400000 in
theorem qyj (A:Option Addr) (n c B x:Nat) (l:List Nat) (w:World) (hr:Rd w B 1 A n (l.map bI)) (hn:n≤140737488355328):
  Calls Tryz.prog 268 #[.slice A n c,.int .i64 (x:Int)] w fun r w'=>(∃k:Int,r= .returned (.int .i64 k)∧(0≤k↔x∈l))∧w'=w:=by
 have hlen:l.length=n:=by simpa using hr.len
 go_enter Tryz.func268,Tryz.ntmps268
 go_wp2
 go_loop [8] (zc9 l x) (fun i=>n- (intOf i).toNat)
 case atStart=>exact ⟨0,by omega,rfl,by simp⟩
 case round=>
  obtain ⟨k,hk,rfl,hx⟩:=hrel
  by_cases hlt:k<n
  ·obtain ⟨ad,rfl,hbl,hl',hcell⟩:=hr.at hlt
   simp only [List.getElem_map] at hcell
   have hq:l.take (k+1)=l.take k++[l[k]]:=List.take_succ_eq_append_getElem (by omega)
   have hm:l[k]∈l:=List.getElem_mem _
   generalize l[k]=y at hcell hq hm
   unfold bI at hcell
   have HQ:=hide hq
   clear hq
   by_cases he:x=y
   ·have hb:((x:Int)==(y:Int))=true:=by rw [beq_iff_eq];omega
    have H:=hide he
    clear he
    go_wp2
    go_ret
    exact ⟨⟨_,rfl,by rw [H.out];exact ⟨fun _=>hm,fun _=>by omega⟩⟩,rfl⟩
   ·have hb:((x:Int)==(y:Int))=false:=by rw [beq_eq_false_iff_ne];omega
    go_wp2
    refine ⟨⟨k+1,by omega,by go_num,?_⟩,by simp [intOf];omega⟩
    rw [HQ.out]
    simp [hx,he]
  ·have:k=n:=by omega
   have hx':x∉l:=by rwa [List.take_of_length_le (by omega)] at hx
   have HX:=hide hx'
   clear this hx hx'
   go_wp2
   go_ret
   exact ⟨⟨-1,rfl,⟨fun h=>by omega,fun h=>absurd h HX.out⟩⟩,rfl⟩
set_option maxHeartbeats 400000 in
theorem qok (A:Option Addr) (n c B x:Nat) (l:List Nat) (w:World) (hr:Rd w B 1 A n (l.map bI)) (hn:n≤140737488355328):
  Calls Tryz.prog 213 #[.slice A n c,.int .i64 (x:Int)] w fun r w'=>r= .returned (.bool (l.contains x))∧w'=w:=by
 have H:=hide (qyj A n c B x l w hr hn)
 go_enter Tryz.func213,Tryz.ntmps213
 go_wp2_with (go_at_call 268;refine H.out.mono ?_;rintro r w' ⟨⟨k,rfl,hk⟩,rfl⟩)
 go_ret
 refine ⟨?_,rfl⟩
 have:(l.contains x)=decide (x∈l):=by rw [Bool.eq_iff_iff];simp
 rw [this]
 rfl
theorem Sg:∀(k i:Nat),i∈aJ k→i<7:=by
 intro k i h
 unfold aJ at h
 split at h<;>simp at h<;>omega
theorem Mw (k:Nat):(aJ k).length≤4:=by
 unfold aJ;split<;>simp
theorem qtt {e:Ev} (he:e.Ok) (i:Nat):e.num i=0↔e.iy i=0:=by
 have hr: -9223372036854775808≤e.iy i∧e.iy i<18446744073709551616:=by
  unfold Ev.iy
  split
  ·have:=he.task;unfold bP at this;omega
  ·have:=he.group;unfold bP at this;omega
  ·have:=he.to;unfold bP at this;omega
  ·have:=he.weight;unfold bP at this;omega
  ·have:=he.ticks;unfold bP at this;omega
  ·have:=he.mask;omega
  ·have:=he.got;unfold bP at this;omega
 unfold Ev.num
 rw [IntKind.wrap_u64]
 omega
def q93 (e:Ev) (w:World) (i:Value) (wr:World):Prop:=
 ∃k m,k≤(aJ e.kind).length∧i= .int .i64 (k:Int)∧((aJ e.kind).take k).all e.within=true∧wr=w.drewN m
def q94 (e:Ev) (w:World) (i:Value) (wr:World):Prop:=
 ∃k m:Nat,k≤7∧i= .int .i64 (k:Int)∧(List.range k).all (fun i=>decide (e.iy i=0)||(aJ e.kind).contains i)=true∧wr=w.drewN m
set_option maxRecDepth 100000 in
set_option maxHeartbeats 2000000 in
theorem qol (e : Ev) (he : e.Ok) (B : Nat) (w : World) (hL : Laid B w) (hB : B ≤ w.heap.size) :
  Calls Tryz.prog 243 #[.agg e.cells] w fun r w'=>r= .returned (.int .i64 (e.check:Int))∧Below w.heap.size w w':=by
 have hev:=iP.new w e 73
 have hb1:Below w.heap.size w (w.alloc (.cells e.cells 73)):=(Below.refl _ _).alloc (Nat.le_refl _) _
 have hL1:=hL.alloc hB (.cells e.cells 73)
 obtain ⟨cs,Hcs⟩:∃cs,Hid (e.cells=cs):=⟨_,hide rfl⟩
 rw [Hcs.out] at hev hb1 hL1⊢
 by_cases hk:e.kind=0∨10<e.kind
 ·have h3:=hev.kind
  have hck:e.check=60:=by unfold Ev.check;rw [if_pos hk]
  have HC:=hide hck
  clear hck
  rcases hk with hk|hk
  ·have hk0:((e.kind:Int)==0)=true:=by rw [beq_iff_eq];omega
   clear hk
   go_enter Tryz.func243,Tryz.ntmps243
   go_wp2
   go_ret
   exact ⟨by rw [HC.out];rfl,hb1⟩
  ·have hk0:((e.kind:Int)==0)=false:=by rw [beq_eq_false_iff_ne];omega
   have hk10:10<(e.kind:Int):=by omega
   clear hk
   go_enter Tryz.func243,Tryz.ntmps243
   go_wp2
   go_ret
   exact ⟨by rw [HC.out];rfl,hb1⟩
 ·obtain ⟨h0, h1, h2, h3, h4, h5, h6, h7, h8, h9, h10⟩ := id hev
  have hk0:((e.kind:Int)==0)=false:=by rw [beq_eq_false_iff_ne];omega
  have hk10:(e.kind:Int)≤10:=by omega
  clear h4 h5 h6 h7 h8 h9 h10
  by_cases hr:e.seq<1∨281474976710656<e.seq∨e.time<0∨281474976710656<e.time∨64≤e.cpu
  ·have hck:e.check=61:=by unfold Ev.check;rw [if_neg hk,if_pos hr]
   have HC:=hide hck
   have hcase:(e.seq<1)∨(1≤e.seq∧281474976710656<e.seq)∨(1≤e.seq∧e.seq≤281474976710656∧e.time<0)∨(1≤e.seq∧e.seq≤281474976710656∧0≤e.time∧281474976710656<e.time)∨(1≤e.seq∧e.seq≤281474976710656∧0≤e.time∧e.time≤281474976710656∧(64:Int)≤e.cpu):=by omega
   clear hck hk hr
   rcases hcase with a1|⟨a1,a2⟩|⟨a1,a2,a3⟩|⟨a1,a2,a3,a4⟩|⟨a1,a2,a3,a4,a5⟩
   all_goals
    go_enter Tryz.func243,Tryz.ntmps243
    go_wp2
    go_ret
    exact ⟨by rw [HC.out];rfl,hb1⟩
  ·have hr1 : 1 ≤ e.seq := by omega
   have hr2:e.seq≤281474976710656:=by omega
   have hr3:0≤e.time:=by omega
   have hr4:e.time≤281474976710656:=by omega
   have hr5:e.cpu<64:=by omega
   clear hr
   obtain ⟨A,c,hu,Mx⟩:=hL1.uses e.kind (by omega)
   have hlen:=Mw e.kind
   go_enter Tryz.func243,Tryz.ntmps243
   go_wp2
   go_loopw [44] (q93 e (w.alloc (.cells cs 73))) (fun i _=>(aJ e.kind).length- (intOf i).toNat)
   case atStart=>exact ⟨0,0,by omega,rfl,by simp,rfl⟩
   case round =>
    obtain ⟨k,m,hk,rfl,hall,rfl⟩:=hrel
    by_cases hlt:k<(aJ e.kind).length
    ·obtain ⟨ad,rfl,hbl,hl',hcell⟩:=Mx.at hlt
     simp only [List.getElem_map] at hcell
     have hi:=Sg e.kind _ (List.getElem_mem hlt)
     have hq:(aJ e.kind).take (k+1)=(aJ e.kind).take k++[(aJ e.kind)[k]]:=List.take_succ_eq_append_getElem hlt
     have hm:(aJ e.kind)[k]∈aJ e.kind:=List.getElem_mem _
     generalize (aJ e.kind)[k]=i at hcell hi hq hm
     unfold bI at hcell
     have HW:=hide (qwh e he hr5 w.heap.size i hi ((w.alloc (.cells cs 73)).drewN m) (hev.keep fun _ _ h=>h))
     have HQ:=hide hq
     have HA:=hide hall
     clear hq hall
     by_cases hw:e.within i=true
     ·rw [hw] at HW
      go_wp2_with (go_at_call 284;refine HW.out.mono ?_;rintro r w' ⟨rfl,n,rfl⟩)
      refine ⟨⟨k+1,m+n,by omega,by go_num,?_,by simp⟩,by simp [intOf];omega⟩
      rw [HQ.out];simp [hw];simpa using HA.out
     ·rw [show e.within i=false by simpa using hw] at HW
      go_wp2_with (go_at_call 284;refine HW.out.mono ?_;rintro r w' ⟨rfl,n,rfl⟩)
      go_ret
      refine ⟨?_,below_drewN hb1 _⟩
      have:e.check=61:=by
       have:(aJ e.kind).all e.within=false:=by rw [List.all_eq_false];exact ⟨i,hm,by simpa using hw⟩
       unfold Ev.check;rw [if_neg (by omega),if_neg (by omega),if_pos this]
      rw [this];rfl
    ·have hge : (aJ e.kind).length ≤ k := by omega
     have EO:(aJ e.kind).all e.within=true:=by rwa [List.take_of_length_le hge] at hall
     have HA:=hide EO
     clear EO hall
     have hz1:(0:Int)<7:=by omega
     go_wp2
     go_loopw [52] (q94 e (w.alloc (.cells cs 73))) (fun i _=>7- (intOf i).toNat)
     case atStart=>exact ⟨0,m,by omega,rfl,by simp,rfl⟩
     case round =>
      obtain ⟨k2,m2,hk2,rfl,hall,rfl⟩:=hrel
      by_cases hlt2:k2<7
      ·have HV:=hide (Sc e he w.heap.size k2 hlt2 ((w.alloc (.cells cs 73)).drewN m2) (hev.keep fun _ _ h=>h))
       have HN:=hide (qtt he k2)
       have hq:List.range (k2+1)=List.range k2++[k2]:=List.range_succ
       have HQ:=hide hq
       have HB:=hide hall
       clear hq hall
       have HC:∀m3,Hid (Calls Tryz.prog 213 #[.slice A (aJ e.kind).length c,.int .i64 (k2:Int)] ((w.alloc (.cells cs 73)).drewN m3) fun r w'=>r= .returned (.bool ((aJ e.kind).contains k2))∧w'=(w.alloc (.cells cs 73)).drewN m3):=fun m3=>hide (qok A _ c B k2 (aJ e.kind) _ (Mx.drewN m3) (by omega))
       by_cases hz:e.iy k2=0
       ·have hnz:(e.num k2 !=0)=false:=by simp [HN.out,hz]
        have HZ:=hide hz
        clear hz
        go_wp2_with (go_at_call 285;refine HV.out.mono ?_;rintro r w' ⟨rfl,n,rfl⟩)
        refine ⟨⟨k2+1,m2+n,by omega,by go_num,?_,by simp⟩,by simp [intOf];omega⟩
        rw [HQ.out,List.all_append,HB.out];simp [HZ.out]
       ·have hnz:(e.num k2 !=0)=true:=by simp [HN.out,hz]
        have HZ:=hide hz
        clear hz
        by_cases hcn:(aJ e.kind).contains k2=true
        ·rw [hcn] at HC
         go_wp2_with (first|(go_at_call 285;refine HV.out.mono ?_;rintro r w' ⟨rfl,n,rfl⟩)|(go_at_call 213;refine (HC _).out.mono ?_;rintro r w' ⟨rfl,rfl⟩))
         refine ⟨⟨k2+1,m2+n,by omega,by go_num,?_,by simp⟩,by simp [intOf];omega⟩
         rw [HQ.out,List.all_append,HB.out];simp only [List.all_cons,List.all_nil,hcn];simp
        ·rw [show (aJ e.kind).contains k2=false by simpa using hcn] at HC
         go_wp2_with (first|(go_at_call 285;refine HV.out.mono ?_;rintro r w' ⟨rfl,n,rfl⟩)|(go_at_call 213;refine (HC _).out.mono ?_;rintro r w' ⟨rfl,rfl⟩))
         go_ret
         refine ⟨?_,below_drewN hb1 _⟩
         have:e.check=62:=by
          have U2:(List.range 7).all (fun i=>decide (e.iy i=0)||(aJ e.kind).contains i)=false:=by
           rw [List.all_eq_false];exact ⟨k2,by simp;omega,by simp [HZ.out];simpa using hcn⟩
          unfold Ev.check;rw [if_neg (by omega),if_neg (by omega),if_neg (by rw [HA.out];simp),if_pos U2]
         rw [this];rfl
      ·have aja:(7:Int)≤k2:=by omega
       obtain rfl:k2=7:=by omega
       have HB:=hide hall
       clear hall
       go_wp2
       go_ret
       refine ⟨?_,below_drewN hb1 _⟩
       have:e.check=0:=by
        unfold Ev.check;rw [if_neg (by omega),if_neg (by omega),if_neg (by rw [HA.out];simp),if_neg (by rw [HB.out];simp)]
       rw [this];rfl
end Go.Proofs.YtekiimhdnigmcaaGreatDoor
