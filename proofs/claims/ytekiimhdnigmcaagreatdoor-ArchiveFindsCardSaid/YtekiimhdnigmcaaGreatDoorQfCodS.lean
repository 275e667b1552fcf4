/- A part of the proof. -/
import Derived.Test.YtekiimhdnigmcaaGreatDoorQfWithAll
import Derived.Test.YtekiimhdnigmcaaGreatDoorQfVarRead
set_option linter.all false
namespace Go.Proofs.YtekiimhdnigmcaaGreatDoor
open Go.RowKit
structure Bs where
 seq:Int
 time:Int
structure Bs.Ok (b:Bs):Prop where
 seq:aR b.seq
 time:aR b.time
def Bs.cells (b:Bs):Array Value:= #[.int .i64 b.seq,.int .i64 b.time]
def Bs.right (b:Bs):Bool:=decide (1≤b.seq∧b.seq≤281474976710656∧0≤b.time∧b.time≤281474976710656)
def Bs.behind (b:Bs) (e:Ev):Bool:=decide (b.seq≤e.seq∧b.time≤e.time)
def Ev.at (e:Ev):Bs:=⟨e.seq,e.time⟩
def mP (b:Bs) (e:Ev):Nat:=if e.check≠0 then e.check else if b.right=true∧b.behind e=true then 0 else 70
def yN (b:Bs) (e:Ev):List Nat:=(e.seq-b.seq).toNat::(e.time-b.time).toNat::e.vals
def zy (b:Bs) (e:Ev):List Nat:=e.kind::(yN b e).flatMap au
def sM (b:Bs) (e:Ev):List Nat:=if mP b e=0 then zy b e else []
def bD:Nat→List Nat→List Nat×Nat×Nat
 |0,_=>([],0,0)
 |k+1,l=>
  if (aB l).2.2≠0 then ([],0,(aB l).2.2)
  else if (bD k (l.drop (aB l).2.1)).2.2≠0 then ([],0,(bD k (l.drop (aB l).2.1)).2.2)
  else ((aB l).1::(bD k (l.drop (aB l).2.1)).1,(aB l).2.1+(bD k (l.drop (aB l).2.1)).2.1,0)
def Bs.ev (b:Bs) (cpu kind a c:Nat):Ev:={Ev.zero with seq:=b.seq+(a:Int),time:=b.time+(c:Int),cpu:=cpu,kind:=kind}
def TS (b:Bs) (cpu kind:Nat) (q:List Nat×Nat×Nat):Ev×Nat×Nat:=
 if q.2.2≠0 then (Ev.zero,0,q.2.2)
 else if 281474976710656-b.seq<(q.1.getD 0 0:Nat)∨281474976710656-b.time<(q.1.getD 1 0:Nat) then (Ev.zero,0,61)
 else if (b.ev cpu kind (q.1.getD 0 0) (q.1.getD 1 0)).zhl (q.1.drop 2)≠0 then (Ev.zero,0,61)
 else ((b.ev cpu kind (q.1.getD 0 0) (q.1.getD 1 0)).made (q.1.drop 2),1+q.2.1,0)
def dn (b:Bs) (cpu:Nat) (l:List Nat):Ev×Nat×Nat:=
 if b.right=false then (Ev.zero,0,70)
 else if l=[] then (Ev.zero,0,10)
 else if (aQ (l.getD 0 0)).length=0 then (Ev.zero,0,60)
 else TS b cpu (l.getD 0 0) (bD (2+(aQ (l.getD 0 0)).length) (l.drop 1))
def Ev.after (e q:Ev):Bool:=decide (e.cpu=q.cpu∧q.seq<e.seq∧q.time≤e.time)
def gL:Option Ev→Nat→List Ev→Int×Nat
 |_,_,[]=>(-1,0)
 |p,i,e::r=>
  if e.check≠0 then ((i:Int),e.check)
  else if p.all (λq=>e.after q)=false then ((i:Int),71)
  else gL (some e) (i+1) r
def gD (l:List Ev):Int×Nat:=gL none 0 l
def recs:Bs→List Ev→List Nat
 |_,[]=>[]
 |b,e::r=>zy b e++recs e.at r
def zo (b:Bs) (l:List Ev):Nat:=
 if (gD l).2≠0 then (gD l).2 else if b.right=true∧l.head?.all b.behind=true then 0 else 70
def qR (b:Bs) (l:List Ev):List Nat:=if zo b l=0 then recs b l else []
def kW (cpu:Nat):Nat→Bs→Option Ev→List Nat→List Ev×Nat×Nat
 |0,_,_,_=>([],0,0)
 |n+1,b,p,l=>
  if (dn b cpu l).2.2≠0 then ([],0,(dn b cpu l).2.2)
  else if p.any (λq=>decide ((dn b cpu l).1.seq=q.seq))=true then ([],0,71)
  else if (kW cpu n (dn b cpu l).1.at (some (dn b cpu l).1) (l.drop (dn b cpu l).2.1)).2.2≠0 then ([],0,(kW cpu n (dn b cpu l).1.at (some (dn b cpu l).1) (l.drop (dn b cpu l).2.1)).2.2)
  else ((dn b cpu l).1::(kW cpu n (dn b cpu l).1.at (some (dn b cpu l).1) (l.drop (dn b cpu l).2.1)).1,(dn b cpu l).2.1+(kW cpu n (dn b cpu l).1.at (some (dn b cpu l).1) (l.drop (dn b cpu l).2.1)).2.1,0)
def Eb (b:Bs) (cpu:Nat) (n:Int) (l:List Nat):List Ev×Nat×Nat:=
 if n<0 then ([],0,2) else if b.right=false then ([],0,70) else kW cpu n.toNat b none l
def TT:∀(l:List Nat) (i a:Nat),(mH i a l).2.1≤i+l.length∧((mH i a l).2.2=0→i<(mH i a l).2.1):=by intro x;induction x<;>grind [mH]
theorem yO (l:List Nat):(aB l).2.1≤l.length:=by have:=(TT l 0 0).1;unfold aB;omega
theorem TU (l:List Nat) (h:(aB l).2.2=0):0<(aB l).2.1:=(TT l 0 0).2 h
def TV:∀(l:List Nat) (i a:Nat),(∀b∈l,b<256)→a<128^i→i≤9→(mH i a l).1<18446744073709551616
 |[],i,a,_,_,_=>by simp [mH]
 | b :: r, i, a, c, d, hi => by
  have f:=c b (by simp)
  have g:=TQ i hi
  rw [mH]
  split
  ·show 0<_;omega
  ·rename_i h9
   split
   ·show 0<_;omega
   ·split
    ·show a+b*128^i<_
     rcases Nat.lt_or_ge i 9 with h|h
     ·have h1:(128:Nat)^i≤128^8:=Nat.pow_le_pow_right (by omega) (by omega)
      have h2:(128:Nat)^8=72057594037927936:=by decide
      have h3:b*128^i≤127*128^i:=Nat.mul_le_mul_right _ (by omega)
      omega
     ·have h3:b*128^i≤1*128^i:=Nat.mul_le_mul_right _ (by omega)
      omega
    ·rcases Nat.lt_or_ge i 9 with h|h
     ·refine TV r (i+1) _ (λx e=>c x (by simp [e])) ?_ (by omega)
      have:=TR a (b-128) i d
      rwa [show (b-128)%128=b-128 by omega] at this
     ·omega
theorem Jm (l:List Nat) (a:∀b∈l,b<256):(aB l).1<18446744073709551616:=TV l 0 0 a (by omega) (by omega)
end Go.Proofs.YtekiimhdnigmcaaGreatDoor
