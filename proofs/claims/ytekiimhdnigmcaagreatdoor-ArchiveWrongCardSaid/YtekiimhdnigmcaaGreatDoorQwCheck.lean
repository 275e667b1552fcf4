/- A part of the proof. -/
import Derived.Test.YtekiimhdnigmcaaGreatDoorQwEvent2
namespace Go.Proofs.YtekiimhdnigmcaaGreatDoor
open Go.RowKit
def zie (l:List Nat) (x:Nat) (i:Value):Prop:=∃k,k≤l.length∧i= .int .i64 (k:Int)∧x∉l.take k
set_option maxHeartbeats 400000 in
theorem q05 (A:Option Addr) (n c B x:Nat) (l:List Nat) (w:World) (hr:Rd w B 1 A n (l.map dG)) (u:n≤140737488355328):
  Calls Tryz.prog 268 #[.slice A n c,.int .i64 (x:Int)] w λr m=>(∃k:Int,r= .returned (.int .i64 k)∧(0≤k↔x∈l))∧m=w:=by
 have j:l.length=n:=by simpa using hr.len
 go_enter Tryz.func268,Tryz.ntmps268
 go_wp2
 go_loop [8] (zie l x) (λi=>n- (intOf i).toNat)
 case atStart=>exact ⟨0,by omega,rfl,by simp⟩
 case round=>
  obtain ⟨k,v,rfl,d⟩:=hrel
  by_cases e:k<n
  ·obtain ⟨z,rfl,o,p,a⟩:=hr.at e
   simp only [List.getElem_map] at a
   have f:l.take (k+1)=l.take k++[l[k]]:=List.take_succ_eq_append_getElem (by omega)
   have hm:l[k]∈l:=List.getElem_mem _
   generalize l[k]=y at a f hm
   unfold dG at a
   have q:=hide f
   clear f
   by_cases g:x=y
   ·have s:((x:Int)==(y:Int))=true:=by rw [beq_iff_eq];omega
    have H:=hide g
    clear g
    go_wp2
    go_ret
    exact ⟨⟨_,rfl,by rw [H.out];exact ⟨λ_=>hm,λ_=>by omega⟩⟩,rfl⟩
   ·have s:((x:Int)==(y:Int))=false:=by rw [beq_eq_false_iff_ne];omega
    go_wp2
    refine ⟨⟨k+1,by omega,by go_num,?_⟩,by simp [intOf];omega⟩
    rw [q.out]
    simp [d,g]
  ·have:k=n:=by omega
   have b:x∉l:=by rwa [List.take_of_length_le (by omega)] at d
   have t:=hide b
   clear this d b
   go_wp2
   go_ret
   exact ⟨⟨-1,rfl,⟨λh=>by omega,λh=>absurd h t.out⟩⟩,rfl⟩
set_option maxHeartbeats 400000 in
theorem qpu (A:Option Addr) (n c B x:Nat) (l:List Nat) (w:World) (hr:Rd w B 1 A n (l.map dG)) (b:n≤140737488355328):
  Calls Tryz.prog 213 #[.slice A n c,.int .i64 (x:Int)] w λr a=>r= .returned (.bool (l.contains x))∧a=w:=by
 have H:=hide (q05 A n c B x l w hr b)
 go_enter Tryz.func213,Tryz.ntmps213
 go_wp2_with (go_at_call 268;refine H.out.mono ?_;rintro r a ⟨⟨k,rfl,d⟩,rfl⟩)
 go_ret
 refine ⟨?_,rfl⟩
 have:(l.contains x)=decide (x∈l):=by rw [Bool.eq_iff_iff];simp
 rw [this]
 rfl
theorem Ng:∀(k i:Nat),i∈aR k→i<7:=by
 intro k i h
 unfold aR at h
 split at h<;>simp at h<;>omega
theorem Es (k:Nat):(aR k).length≤4:=by
 unfold aR;split<;>simp
theorem q7v {e:Ev} (a:e.Ok) (i:Nat):e.num i=0↔e.jF i=0:=by
 have b: -9223372036854775808≤e.jF i∧e.jF i<18446744073709551616:=by
  unfold Ev.jF
  split
  ·have:=a.task;unfold aQ at this;omega
  ·have:=a.group;unfold aQ at this;omega
  ·have:=a.to;unfold aQ at this;omega
  ·have:=a.weight;unfold aQ at this;omega
  ·have:=a.ticks;unfold aQ at this;omega
  ·have:=a.mask;omega
  ·have:=a.got;unfold aQ at this;omega
 unfold Ev.num
 rw [IntKind.wrap_u64]
 omega
def zd6 (e:Ev) (w:World) (i:Value) (wr:World):Prop:=
 ∃k m,k≤(aR e.kind).length∧i= .int .i64 (k:Int)∧((aR e.kind).take k).all e.within=true∧wr=w.drewN m
def zd7 (e:Ev) (w:World) (i:Value) (wr:World):Prop:=
 ∃k m:Nat,k≤7∧i= .int .i64 (k:Int)∧(List.range k).all (λi=>decide (e.jF i=0)||(aR e.kind).contains i)=true∧wr=w.drewN m
set_option maxRecDepth 100000 in
set_option maxHeartbeats 2000000 in
theorem UD (e : Ev) (M : e.Ok) (B : Nat) (w : World) (hL : Laid B w) (hB : B ≤ w.heap.size) :
  Calls Tryz.prog 243 #[.agg e.cells] w λr l=>r= .returned (.int .i64 (e.check:Int))∧Below w.heap.size w l:=by
 have g:=jh.new w e 73
 have d:Below w.heap.size w (w.alloc (.cells e.cells 73)):=(Below.refl _ _).alloc (Nat.le_refl _) _
 have x:=hL.alloc hB (.cells e.cells 73)
 obtain ⟨s,N⟩:∃s,Hid (e.cells=s):=⟨_,hide rfl⟩
 rw [N.out] at g d x⊢
 by_cases o:e.kind=0∨10<e.kind
 ·have h3:=g.kind
  have j:e.check=60:=by unfold Ev.check;rw [if_pos o]
  have p:=hide j
  clear j
  rcases o with o|o
  ·have y:((e.kind:Int)==0)=true:=by rw [beq_iff_eq];omega
   clear o
   go_enter Tryz.func243,Tryz.ntmps243
   go_wp2
   go_ret
   exact ⟨by rw [p.out];rfl,d⟩
  ·have y:((e.kind:Int)==0)=false:=by rw [beq_eq_false_iff_ne];omega
   have z:10<(e.kind:Int):=by omega
   clear o
   go_enter Tryz.func243,Tryz.ntmps243
   go_wp2
   go_ret
   exact ⟨by rw [p.out];rfl,d⟩
 ·obtain ⟨h0, h1, h2, h3, h4, h5, h6, h7, h8, h9, h10⟩ := id g
  have y:((e.kind:Int)==0)=false:=by rw [beq_eq_false_iff_ne];omega
  have z:(e.kind:Int)≤10:=by omega
  clear h4 h5 h6 h7 h8 h9 h10
  by_cases O:e.seq<1∨281474976710656<e.seq∨e.time<0∨281474976710656<e.time∨64≤e.cpu
  ·have j:e.check=61:=by unfold Ev.check;rw [if_neg o,if_pos O]
   have p:=hide j
   have t:(e.seq<1)∨(1≤e.seq∧281474976710656<e.seq)∨(1≤e.seq∧e.seq≤281474976710656∧e.time<0)∨(1≤e.seq∧e.seq≤281474976710656∧0≤e.time∧281474976710656<e.time)∨(1≤e.seq∧e.seq≤281474976710656∧0≤e.time∧e.time≤281474976710656∧(64:Int)≤e.cpu):=by omega
   clear j o O
   rcases t with F|⟨F,P⟩|⟨F,P,X⟩|⟨F,P,X,a4⟩|⟨F,P,X,a4,a5⟩
   all_goals
    go_enter Tryz.func243,Tryz.ntmps243
    go_wp2
    go_ret
    exact ⟨by rw [p.out];rfl,d⟩
  ·have hr1 : 1 ≤ e.seq := by omega
   have hr2:e.seq≤281474976710656:=by omega
   have hr3:0≤e.time:=by omega
   have hr4:e.time≤281474976710656:=by omega
   have Q:e.cpu<64:=by omega
   clear O
   obtain ⟨A,c,hu,C⟩:=x.uses e.kind (by omega)
   have Y:=Es e.kind
   go_enter Tryz.func243,Tryz.ntmps243
   go_wp2
   go_loopw [44] (zd6 e (w.alloc (.cells s 73))) (λi _=>(aR e.kind).length- (intOf i).toNat)
   case atStart=>exact ⟨0,0,by omega,rfl,by simp,rfl⟩
   case round =>
    obtain ⟨k,m,o,rfl,a,rfl⟩:=hrel
    by_cases u:k<(aR e.kind).length
    ·obtain ⟨ad,rfl,hbl,hl',f⟩:=C.at u
     simp only [List.getElem_map] at f
     have hi:=Ng e.kind _ (List.getElem_mem u)
     have v:(aR e.kind).take (k+1)=(aR e.kind).take k++[(aR e.kind)[k]]:=List.take_succ_eq_append_getElem u
     have hm:(aR e.kind)[k]∈aR e.kind:=List.getElem_mem _
     generalize (aR e.kind)[k]=i at f hi v hm
     unfold dG at f
     have G:=hide (qx3 e M Q w.heap.size i hi ((w.alloc (.cells s 73)).drewN m) (g.keep λ_ _ h=>h))
     have H:=hide v
     have I:=hide a
     clear v a
     by_cases J:e.within i=true
     ·rw [J] at G
      go_wp2_with (go_at_call 284;refine G.out.mono ?_;rintro r l ⟨rfl,n,rfl⟩)
      refine ⟨⟨k+1,m+n,by omega,by go_num,?_,by simp⟩,by simp [intOf];omega⟩
      rw [H.out];simp [J];simpa using I.out
     ·rw [show e.within i=false by simpa using J] at G
      go_wp2_with (go_at_call 284;refine G.out.mono ?_;rintro r l ⟨rfl,n,rfl⟩)
      go_ret
      refine ⟨?_,below_drewN d _⟩
      have:e.check=61:=by
       have:(aR e.kind).all e.within=false:=by rw [List.all_eq_false];exact ⟨i,hm,by simpa using J⟩
       unfold Ev.check;rw [if_neg (by omega),if_neg (by omega),if_pos this]
      rw [this];rfl
    ·have R : (aR e.kind).length ≤ k := by omega
     have D:(aR e.kind).all e.within=true:=by rwa [List.take_of_length_le R] at a
     have I:=hide D
     clear D a
     have hz1:(0:Int)<7:=by omega
     go_wp2
     go_loopw [52] (zd7 e (w.alloc (.cells s 73))) (λi _=>7- (intOf i).toNat)
     case atStart=>exact ⟨0,m,by omega,rfl,by simp,rfl⟩
     case round =>
      obtain ⟨b,S,hk2,rfl,a,rfl⟩:=hrel
      by_cases E:b<7
      ·have T:=hide (Ke e M w.heap.size b E ((w.alloc (.cells s 73)).drewN S) (g.keep λ_ _ h=>h))
       have Z:=hide (q7v M b)
       have v:List.range (b+1)=List.range b++[b]:=List.range_succ
       have H:=hide v
       have K:=hide a
       clear v a
       have p:∀L,Hid (Calls Tryz.prog 213 #[.slice A (aR e.kind).length c,.int .i64 (b:Int)] ((w.alloc (.cells s 73)).drewN L) λr l=>r= .returned (.bool ((aR e.kind).contains b))∧l=(w.alloc (.cells s 73)).drewN L):=λL=>hide (qpu A _ c B b (aR e.kind) _ (C.drewN L) (by omega))
       by_cases hz:e.jF b=0
       ·have U:(e.num b !=0)=false:=by simp [Z.out,hz]
        have V:=hide hz
        clear hz
        go_wp2_with (go_at_call 285;refine T.out.mono ?_;rintro r l ⟨rfl,n,rfl⟩)
        refine ⟨⟨b+1,S+n,by omega,by go_num,?_,by simp⟩,by simp [intOf];omega⟩
        rw [H.out,List.all_append,K.out];simp [V.out]
       ·have U:(e.num b !=0)=true:=by simp [Z.out,hz]
        have V:=hide hz
        clear hz
        by_cases q:(aR e.kind).contains b=true
        ·rw [q] at p
         go_wp2_with (first|(go_at_call 285;refine T.out.mono ?_;rintro r l ⟨rfl,n,rfl⟩)|(go_at_call 213;refine (p _).out.mono ?_;rintro r l ⟨rfl,rfl⟩))
         refine ⟨⟨b+1,S+n,by omega,by go_num,?_,by simp⟩,by simp [intOf];omega⟩
         rw [H.out,List.all_append,K.out];simp only [List.all_cons,List.all_nil,q];simp
        ·rw [show (aR e.kind).contains b=false by simpa using q] at p
         go_wp2_with (first|(go_at_call 285;refine T.out.mono ?_;rintro r l ⟨rfl,n,rfl⟩)|(go_at_call 213;refine (p _).out.mono ?_;rintro r l ⟨rfl,rfl⟩))
         go_ret
         refine ⟨?_,below_drewN d _⟩
         have:e.check=62:=by
          have W:(List.range 7).all (λi=>decide (e.jF i=0)||(aR e.kind).contains i)=false:=by
           rw [List.all_eq_false];exact ⟨b,by simp;omega,by simp [V.out];simpa using q⟩
          unfold Ev.check;rw [if_neg (by omega),if_neg (by omega),if_neg (by rw [I.out];simp),if_pos W]
         rw [this];rfl
      ·have acW:(7:Int)≤b:=by omega
       obtain rfl:b=7:=by omega
       have K:=hide a
       clear a
       go_wp2
       go_ret
       refine ⟨?_,below_drewN d _⟩
       have:e.check=0:=by
        unfold Ev.check;rw [if_neg (by omega),if_neg (by omega),if_neg (by rw [I.out];simp),if_neg (by rw [K.out];simp)]
       rw [this];rfl
end Go.Proofs.YtekiimhdnigmcaaGreatDoor
