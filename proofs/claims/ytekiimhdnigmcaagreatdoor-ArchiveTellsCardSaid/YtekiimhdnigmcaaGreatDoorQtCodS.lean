/- A part of the proof. -/
import Derived.Test.YtekiimhdnigmcaaGreatDoorQtWithAll
import Derived.Test.YtekiimhdnigmcaaGreatDoorQtVarRead
namespace Go.Proofs.YtekiimhdnigmcaaGreatDoor
open Go.RowKit
structure Bs where
 seq:Int
 time:Int
structure Bs.Ok (b:Bs):Prop where
 seq:bP b.seq
 time:bP b.time
def Bs.cells (b:Bs):Array Value:= #[.int .i64 b.seq,.int .i64 b.time]
def Bs.right (b:Bs):Bool:=decide (1≤b.seq∧b.seq≤281474976710656∧0≤b.time∧b.time≤281474976710656)
def Bs.behind (b:Bs) (e:Ev):Bool:=decide (b.seq≤e.seq∧b.time≤e.time)
def Ev.at (e:Ev):Bs:=⟨e.seq,e.time⟩
def q9 (b:Bs) (e:Ev):Nat:=if e.check≠0 then e.check else if b.right=true∧b.behind e=true then 0 else 70
def Df (b:Bs) (e:Ev):List Nat:=(e.seq-b.seq).toNat::(e.time-b.time).toNat::e.vals
def zi (b:Bs) (e:Ev):List Nat:=e.kind::(Df b e).flatMap aj
def pI (b:Bs) (e:Ev):List Nat:=if q9 b e=0 then zi b e else []
def aY:Nat→List Nat→List Nat×Nat×Nat
 |0,_=>([],0,0)
 |k+1,l=>
  if (aA l).2.2≠0 then ([],0,(aA l).2.2)
  else if (aY k (l.drop (aA l).2.1)).2.2≠0 then ([],0,(aY k (l.drop (aA l).2.1)).2.2)
  else ((aA l).1::(aY k (l.drop (aA l).2.1)).1,(aA l).2.1+(aY k (l.drop (aA l).2.1)).2.1,0)
def Bs.ev (b:Bs) (cpu kind x0 x1:Nat):Ev:={Ev.zero with seq:=b.seq+(x0:Int),time:=b.time+(x1:Int),cpu:=cpu,kind:=kind}
def q8e (b:Bs) (cpu kind:Nat) (q:List Nat×Nat×Nat):Ev×Nat×Nat:=
 if q.2.2≠0 then (Ev.zero,0,q.2.2)
 else if 281474976710656-b.seq<(q.1.getD 0 0:Nat)∨281474976710656-b.time<(q.1.getD 1 0:Nat) then (Ev.zero,0,61)
 else if (b.ev cpu kind (q.1.getD 0 0) (q.1.getD 1 0)).zc2 (q.1.drop 2)≠0 then (Ev.zero,0,61)
 else ((b.ev cpu kind (q.1.getD 0 0) (q.1.getD 1 0)).made (q.1.drop 2),1+q.2.1,0)
def dz (b:Bs) (cpu:Nat) (l:List Nat):Ev×Nat×Nat:=
 if b.right=false then (Ev.zero,0,70)
 else if l=[] then (Ev.zero,0,10)
 else if (aJ (l.getD 0 0)).length=0 then (Ev.zero,0,60)
 else q8e b cpu (l.getD 0 0) (aY (2+(aJ (l.getD 0 0)).length) (l.drop 1))
def Ev.after (e q:Ev):Bool:=decide (e.cpu=q.cpu∧q.seq<e.seq∧q.time≤e.time)
def fI:Option Ev→Nat→List Ev→Int×Nat
 |_,_,[]=>(-1,0)
 |p,i,e::r=>
  if e.check≠0 then ((i:Int),e.check)
  else if p.all (fun q=>e.after q)=false then ((i:Int),71)
  else fI (some e) (i+1) r
def eu (l:List Ev):Int×Nat:=fI none 0 l
def recs:Bs→List Ev→List Nat
 |_,[]=>[]
 |b,e::r=>zi b e++recs e.at r
def q8 (b:Bs) (l:List Ev):Nat:=
 if (eu l).2≠0 then (eu l).2 else if b.right=true∧l.head?.all b.behind=true then 0 else 70
def zu (b:Bs) (l:List Ev):List Nat:=if q8 b l=0 then recs b l else []
def ni (cpu:Nat):Nat→Bs→Option Ev→List Nat→List Ev×Nat×Nat
 |0,_,_,_=>([],0,0)
 |n+1,b,p,l=>
  if (dz b cpu l).2.2≠0 then ([],0,(dz b cpu l).2.2)
  else if p.any (fun q=>decide ((dz b cpu l).1.seq=q.seq))=true then ([],0,71)
  else if (ni cpu n (dz b cpu l).1.at (some (dz b cpu l).1) (l.drop (dz b cpu l).2.1)).2.2≠0 then ([],0,(ni cpu n (dz b cpu l).1.at (some (dz b cpu l).1) (l.drop (dz b cpu l).2.1)).2.2)
  else ((dz b cpu l).1::(ni cpu n (dz b cpu l).1.at (some (dz b cpu l).1) (l.drop (dz b cpu l).2.1)).1,(dz b cpu l).2.1+(ni cpu n (dz b cpu l).1.at (some (dz b cpu l).1) (l.drop (dz b cpu l).2.1)).2.1,0)
def MC (b:Bs) (cpu:Nat) (n:Int) (l:List Nat):List Ev×Nat×Nat:=
 if n<0 then ([],0,2) else if b.right=false then ([],0,70) else ni cpu n.toNat b none l
theorem qyn:∀(l:List Nat) (i acc:Nat),(pz i acc l).2.1≤i+l.length∧((pz i acc l).2.2=0→i<(pz i acc l).2.1):=by intro x;induction x<;>grind [pz]
theorem ER (l:List Nat):(aA l).2.1≤l.length:=by have:=(qyn l 0 0).1;unfold aA;omega
theorem qon (l:List Nat) (h:(aA l).2.2=0):0<(aA l).2.1:=(qyn l 0 0).2 h
theorem qoo:∀(l:List Nat) (i acc:Nat),(∀b∈l,b<256)→acc<128^i→i≤9→(pz i acc l).1<18446744073709551616
 |[],i,acc,_,_,_=>by simp [pz]
 | b :: r, i, acc, hl, ha, hi => by
  have hb:=hl b (by simp)
  have hp:=qom i hi
  rw [pz]
  split
  ·show 0<_;omega
  ·rename_i h9
   split
   ·show 0<_;omega
   ·split
    ·show acc+b*128^i<_
     rcases Nat.lt_or_ge i 9 with h|h
     ·have h1:(128:Nat)^i≤128^8:=Nat.pow_le_pow_right (by omega) (by omega)
      have h2:(128:Nat)^8=72057594037927936:=by decide
      have h3:b*128^i≤127*128^i:=Nat.mul_le_mul_right _ (by omega)
      omega
     ·have h3:b*128^i≤1*128^i:=Nat.mul_le_mul_right _ (by omega)
      omega
    ·rcases Nat.lt_or_ge i 9 with h|h
     ·refine qoo r (i+1) _ (fun x hx=>hl x (by simp [hx])) ?_ (by omega)
      have:=qtu acc (b-128) i ha
      rwa [show (b-128)%128=b-128 by omega] at this
     ·omega
theorem Sj (l:List Nat) (hl:∀b∈l,b<256):(aA l).1<18446744073709551616:=qoo l 0 0 hl (by omega) (by omega)
end Go.Proofs.YtekiimhdnigmcaaGreatDoor
