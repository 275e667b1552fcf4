/- A part of the proof. -/
import Derived.Test.YtekiimhdnigmcaaGreatDoorQwWithAll
import Derived.Test.YtekiimhdnigmcaaGreatDoorQwVarRead
set_option linter.all false
namespace Go.Proofs.YtekiimhdnigmcaaGreatDoor
open Go.RowKit
structure Bs where
 seq:Int
 time:Int
structure Bs.Ok (b:Bs):Prop where
 seq:aQ b.seq
 time:aQ b.time
def Bs.cells (b:Bs):Array Value:= #[.int .i64 b.seq,.int .i64 b.time]
def Bs.right (b:Bs):Bool:=decide (1≤b.seq∧b.seq≤281474976710656∧0≤b.time∧b.time≤281474976710656)
def Bs.behind (b:Bs) (e:Ev):Bool:=decide (b.seq≤e.seq∧b.time≤e.time)
def Ev.at (e:Ev):Bs:=⟨e.seq,e.time⟩
def mV (b:Bs) (e:Ev):Nat:=if e.check≠0 then e.check else if b.right=true∧b.behind e=true then 0 else 70
def y7 (b:Bs) (e:Ev):List Nat:=(e.seq-b.seq).toNat::(e.time-b.time).toNat::e.vals
def oF (b:Bs) (e:Ev):List Nat:=e.kind::(y7 b e).flatMap au
def tu (b:Bs) (e:Ev):List Nat:=if mV b e=0 then oF b e else []
def bD:Nat→List Nat→List Nat×Nat×Nat
 |0,_=>([],0,0)
 |k+1,l=>
  if (aB l).2.2≠0 then ([],0,(aB l).2.2)
  else if (bD k (l.drop (aB l).2.1)).2.2≠0 then ([],0,(bD k (l.drop (aB l).2.1)).2.2)
  else ((aB l).1::(bD k (l.drop (aB l).2.1)).1,(aB l).2.1+(bD k (l.drop (aB l).2.1)).2.1,0)
def Bs.ev (b:Bs) (cpu kind a c:Nat):Ev:={Ev.zero with seq:=b.seq+(a:Int),time:=b.time+(c:Int),cpu:=cpu,kind:=kind}
def UJ (b:Bs) (cpu kind:Nat) (q:List Nat×Nat×Nat):Ev×Nat×Nat:=
 if q.2.2≠0 then (Ev.zero,0,q.2.2)
 else if 281474976710656-b.seq<(q.1.getD 0 0:Nat)∨281474976710656-b.time<(q.1.getD 1 0:Nat) then (Ev.zero,0,61)
 else if (b.ev cpu kind (q.1.getD 0 0) (q.1.getD 1 0)).zh6 (q.1.drop 2)≠0 then (Ev.zero,0,61)
 else ((b.ev cpu kind (q.1.getD 0 0) (q.1.getD 1 0)).made (q.1.drop 2),1+q.2.1,0)
def dx (b:Bs) (cpu:Nat) (l:List Nat):Ev×Nat×Nat:=
 if b.right=false then (Ev.zero,0,70)
 else if l=[] then (Ev.zero,0,10)
 else if (aR (l.getD 0 0)).length=0 then (Ev.zero,0,60)
 else UJ b cpu (l.getD 0 0) (bD (2+(aR (l.getD 0 0)).length) (l.drop 1))
def Ev.after (e q:Ev):Bool:=decide (e.cpu=q.cpu∧q.seq<e.seq∧q.time≤e.time)
def gP:Option Ev→Nat→List Ev→Int×Nat
 |_,_,[]=>(-1,0)
 |p,i,e::r=>
  if e.check≠0 then ((i:Int),e.check)
  else if p.all (λq=>e.after q)=false then ((i:Int),71)
  else gP (some e) (i+1) r
def gI (l:List Ev):Int×Nat:=gP none 0 l
def recs:Bs→List Ev→List Nat
 |_,[]=>[]
 |b,e::r=>oF b e++recs e.at r
def zq (b:Bs) (l:List Ev):Nat:=
 if (gI l).2≠0 then (gI l).2 else if b.right=true∧l.head?.all b.behind=true then 0 else 70
def qZ (b:Bs) (l:List Ev):List Nat:=if zq b l=0 then recs b l else []
def kY (cpu:Nat):Nat→Bs→Option Ev→List Nat→List Ev×Nat×Nat
 |0,_,_,_=>([],0,0)
 |n+1,b,p,l=>
  if (dx b cpu l).2.2≠0 then ([],0,(dx b cpu l).2.2)
  else if p.any (λq=>decide ((dx b cpu l).1.seq=q.seq))=true then ([],0,71)
  else if (kY cpu n (dx b cpu l).1.at (some (dx b cpu l).1) (l.drop (dx b cpu l).2.1)).2.2≠0 then ([],0,(kY cpu n (dx b cpu l).1.at (some (dx b cpu l).1) (l.drop (dx b cpu l).2.1)).2.2)
  else ((dx b cpu l).1::(kY cpu n (dx b cpu l).1.at (some (dx b cpu l).1) (l.drop (dx b cpu l).2.1)).1,(dx b cpu l).2.1+(kY cpu n (dx b cpu l).1.at (some (dx b cpu l).1) (l.drop (dx b cpu l).2.1)).2.1,0)
def Eu (b:Bs) (cpu:Nat) (n:Int) (l:List Nat):List Ev×Nat×Nat:=
 if n<0 then ([],0,2) else if b.right=false then ([],0,70) else kY cpu n.toNat b none l
def UK:∀(l:List Nat) (i a:Nat),(mK i a l).2.1≤i+l.length∧((mK i a l).2.2=0→i<(mK i a l).2.1):=by intro x;induction x<;>grind [mK]
theorem y8 (l:List Nat):(aB l).2.1≤l.length:=by have:=(UK l 0 0).1;unfold aB;omega
theorem UL (l:List Nat) (h:(aB l).2.2=0):0<(aB l).2.1:=(UK l 0 0).2 h
def UM:∀(l:List Nat) (i a:Nat),(∀b∈l,b<256)→a<128^i→i≤9→(mK i a l).1<18446744073709551616
 |[],i,a,_,_,_=>by simp [mK]
 | b :: r, i, a, c, d, hi => by
  have f:=c b (by simp)
  have g:=UG i hi
  rw [mK]
  split
  ·show 0<_;omega
  ·rename_i h9
   split
   ·show 0<_;omega
   ·split
    ·show a+b*128^i<_
     rcases Nat.lt_or_ge i 9 with h|h
     ·have h1:(128:Nat)^i≤128^8:=Nat.pow_le_pow_right (by omega) (by omega)
      have h2:(128:Nat)^8=72057594037927936:=by decide
      have h3:b*128^i≤127*128^i:=Nat.mul_le_mul_right _ (by omega)
      omega
     ·have h3:b*128^i≤1*128^i:=Nat.mul_le_mul_right _ (by omega)
      omega
    ·rcases Nat.lt_or_ge i 9 with h|h
     ·refine UM r (i+1) _ (λx e=>c x (by simp [e])) ?_ (by omega)
      have:=UH a (b-128) i d
      rwa [show (b-128)%128=b-128 by omega] at this
     ·omega
theorem qed (l:List Nat) (a:∀b∈l,b<256):(aB l).1<18446744073709551616:=UM l 0 0 a (by omega) (by omega)
end Go.Proofs.YtekiimhdnigmcaaGreatDoor
