/- A part of the proof. -/
import Derived.Test.YtieeckeaijdaeaaGreatDoorQaWithAll
import Derived.Test.YtieeckeaijdaeaaGreatDoorQaVarRead
namespace Go.Proofs.YtieeckeaijdaeaaGreatDoor
open Go.RowKit
theorem U6 {a b:Bool} (h:a=b):Ending.returned (.bool a)= .returned (.bool b):=by rw [h]
structure Bs where
 seq:Int
 time:Int
structure Bs.Ok (b:Bs):Prop where
 seq:bC b.seq
 time:bC b.time
def Bs.cells (b:Bs):Array Value:= #[.int .i64 b.seq,.int .i64 b.time]
def Bs.right (b:Bs):Bool:=decide (1≤b.seq∧b.seq≤281474976710656∧0≤b.time∧b.time≤281474976710656)
def Bs.behind (b:Bs) (e:Ev):Bool:=decide (b.seq≤e.seq∧b.time≤e.time)
def Ev.at (e:Ev):Bs:=⟨e.seq,e.time⟩
def l8 (b:Bs) (e:Ev):Nat:=if e.check≠0 then e.check else if b.right=true∧b.behind e=true then 0 else 70
def zw (b:Bs) (e:Ev):List Nat:=(e.seq-b.seq).toNat::(e.time-b.time).toNat::e.vals
def qI (b:Bs) (e:Ev):List Nat:=e.kind::(zw b e).flatMap ah
def tY (b:Bs) (e:Ev):List Nat:=if l8 b e=0 then qI b e else []
def aj:Nat→List Nat→List Nat×Nat×Nat
 |0,_=>([],0,0)
 |k+1,l=>
  if (ae l).2.2≠0 then ([],0,(ae l).2.2)
  else if (aj k (l.drop (ae l).2.1)).2.2≠0 then ([],0,(aj k (l.drop (ae l).2.1)).2.2)
  else ((ae l).1::(aj k (l.drop (ae l).2.1)).1,(ae l).2.1+(aj k (l.drop (ae l).2.1)).2.1,0)
def Bs.ev (b:Bs) (cpu kind x0 x1:Nat):Ev:={Ev.zero with seq:=b.seq+(x0:Int),time:=b.time+(x1:Int),cpu:=cpu,kind:=kind}
def oV (b:Bs) (cpu kind:Nat) (q:List Nat×Nat×Nat):Ev×Nat×Nat:=
 if q.2.2≠0 then (Ev.zero,0,q.2.2)
 else if 281474976710656-b.seq<(q.1.getD 0 0:Nat)∨281474976710656-b.time<(q.1.getD 1 0:Nat) then (Ev.zero,0,61)
 else if (b.ev cpu kind (q.1.getD 0 0) (q.1.getD 1 0)).qw (q.1.drop 2)≠0 then (Ev.zero,0,61)
 else ((b.ev cpu kind (q.1.getD 0 0) (q.1.getD 1 0)).made (q.1.drop 2),1+q.2.1,0)
def aC (b:Bs) (cpu:Nat) (l:List Nat):Ev×Nat×Nat:=
 if b.right=false then (Ev.zero,0,70)
 else if l=[] then (Ev.zero,0,10)
 else if (aa (l.getD 0 0)).length=0 then (Ev.zero,0,60)
 else oV b cpu (l.getD 0 0) (aj (2+(aa (l.getD 0 0)).length) (l.drop 1))
def Ev.after (e q:Ev):Bool:=decide (e.cpu=q.cpu∧q.seq<e.seq∧q.time≤e.time)
def di:Option Ev→Nat→List Ev→Int×Nat
 |_,_,[]=>(-1,0)
 |p,i,e::r=>
  if e.check≠0 then ((i:Int),e.check)
  else if p.all (fun q=>e.after q)=false then ((i:Int),71)
  else di (some e) (i+1) r
def bH (l:List Ev):Int×Nat:=di none 0 l
def recs:Bs→List Ev→List Nat
 |_,[]=>[]
 |b,e::r=>qI b e++recs e.at r
def za (b:Bs) (l:List Ev):Nat:=
 if (bH l).2≠0 then (bH l).2 else if b.right=true∧l.head?.all b.behind=true then 0 else 70
def zf (b:Bs) (l:List Ev):List Nat:=if za b l=0 then recs b l else []
def oW:Nat→Bs→Nat→List Nat→List (Ev×Nat×Nat)
 |0,_,_,_=>[]
 |f+1,b,cpu,l=>aC b cpu l::if (aC b cpu l).2.2≠0 then [] else oW f (aC b cpu l).1.at cpu (l.drop (aC b cpu l).2.1)
def qq (cpu:Nat):Nat→Bs→Option Ev→List Nat→List Ev×Nat×Nat
 |0,_,_,_=>([],0,0)
 |n+1,b,p,l=>
  if (aC b cpu l).2.2≠0 then ([],0,(aC b cpu l).2.2)
  else if p.any (fun q=>decide ((aC b cpu l).1.seq=q.seq))=true then ([],0,71)
  else if (qq cpu n (aC b cpu l).1.at (some (aC b cpu l).1) (l.drop (aC b cpu l).2.1)).2.2≠0 then ([],0,(qq cpu n (aC b cpu l).1.at (some (aC b cpu l).1) (l.drop (aC b cpu l).2.1)).2.2)
  else ((aC b cpu l).1::(qq cpu n (aC b cpu l).1.at (some (aC b cpu l).1) (l.drop (aC b cpu l).2.1)).1,(aC b cpu l).2.1+(qq cpu n (aC b cpu l).1.at (some (aC b cpu l).1) (l.drop (aC b cpu l).2.1)).2.1,0)
def gQ (b:Bs) (cpu:Nat) (n:Int) (l:List Nat):List Ev×Nat×Nat:=
 if n<0 then ([],0,2) else if b.right=false then ([],0,70) else qq cpu n.toNat b none l
theorem qos:∀(l:List Nat) (i acc:Nat),(jU i acc l).2.1≤i+l.length∧((jU i acc l).2.2=0→i<(jU i acc l).2.1)
 |[],i,acc=>by simp [jU]
 | b :: r, i, acc => by
  rw [jU]
  split
  ·simp
  ·split
   ·simp
   ·split
    ·simp
    ·have:=qos r (i+1) (acc+(b-128)*128^i)
     refine ⟨by simp only [List.length_cons];omega,fun h=>by have:=this.2 h;omega⟩
theorem wY (l:List Nat):(ae l).2.1≤l.length:=by have:=(qos l 0 0).1;unfold ae;omega
theorem U7 (l:List Nat) (h:(ae l).2.2=0):0<(ae l).2.1:=(qos l 0 0).2 h
theorem U8:∀(l:List Nat) (i acc:Nat),(∀b∈l,b<256)→acc<128^i→i≤9→(jU i acc l).1<18446744073709551616
 |[],i,acc,_,_,_=>by simp [jU]
 | b :: r, i, acc, hl, ha, hi => by
  have hb:=hl b (by simp)
  have hp:=U4 i hi
  rw [jU]
  split
  ·show 0<_;omega
  ·rename_i h9
   split
   ·show 0<_;omega
   ·split
    ·show acc+b*128^i<_
     rcases Nat.lt_or_ge i 9 with h|h
     ·have h1:(128:Nat)^i≤128^8:=Nat.pow_le_pow_right (by omega) (by omega)
      have h2:(128:Nat)^8=72057594037927936:=by decide
      have h3:b*128^i≤127*128^i:=Nat.mul_le_mul_right _ (by omega)
      omega
     ·have h3:b*128^i≤1*128^i:=Nat.mul_le_mul_right _ (by omega)
      omega
    ·rcases Nat.lt_or_ge i 9 with h|h
     ·refine U8 r (i+1) _ (fun x hx=>hl x (by simp [hx])) ?_ (by omega)
      have:=U5 acc (b-128) i ha
      rwa [show (b-128)%128=b-128 by omega] at this
     ·omega
theorem F4 (l:List Nat) (hl:∀b∈l,b<256):(ae l).1<18446744073709551616:=U8 l 0 0 hl (by omega) (by omega)
end Go.Proofs.YtieeckeaijdaeaaGreatDoor
