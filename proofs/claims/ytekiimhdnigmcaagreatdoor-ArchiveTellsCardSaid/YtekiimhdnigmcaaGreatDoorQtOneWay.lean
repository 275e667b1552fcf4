/- A part of the proof. -/
import Derived.Test.YtekiimhdnigmcaaGreatDoorQtCodS
namespace Go.Proofs.YtekiimhdnigmcaaGreatDoor
open Go.RowKit
theorem qt3:∀(l:List Nat) (i acc x m:Nat),(∀b∈l,b<256)→i≤9→pz i acc l=(x,m,0)→
  ∃y,x=acc+y*128^i∧(gG (10-i) y).map j6=l.take (m-i)∧i<m∧(0<i→0<y)
 |[],i,acc,x,m,_,_,h=>by simp [pz] at h
 | b :: r, i, acc, x, m, hl, hi, h => by
  have hb:=hl b (by simp)
  rw [pz] at h
  split at h
  ·simp at h
  ·rename_i h9
   split at h
   ·simp at h
   ·rename_i h0
    split at h
    ·rename_i h128
     simp only [Prod.mk.injEq] at h
     obtain ⟨rfl,rfl,_⟩:=h
     refine ⟨b,rfl,?_,by omega,fun _=>by omega⟩
     obtain ⟨f,hf⟩:∃f,10-i=f+1:=⟨9-i,by omega⟩
     rw [hf,GR f b h128,show i+1-i=1 by omega]
     rfl
    ·rename_i h128
     obtain ⟨y,h1,h2,h3,h4⟩:=qt3 r (i+1) _ x m (fun b hb=>hl b (by simp [hb])) (by omega) h
     have hy:=h4 (by omega)
     refine ⟨(b-128)+128*y,?_,?_,by omega,fun _=>by omega⟩
     ·grind
     ·obtain ⟨f,hf⟩:∃f,10-i=f+1:=⟨9-i,by omega⟩
      rw [hf,GU f _ (by omega),show ((b-128)+128*y)%128=b-128 by omega,show ((b-128)+128*y)/128=y by omega]
      rw [show f=10- (i+1) by omega,List.map_cons,h2]
      obtain ⟨k,hk⟩:∃k,m-i=k+1:=⟨m-i-1,by omega⟩
      rw [hk,List.take_succ_cons,show m- (i+1)=k by omega]
      congr 1
      show b-128+128=b
      omega
theorem Ws {l:List Nat} {x m:Nat} (hl:∀b∈l,b<256) (h:aA l=(x,m,0)):aj x=l.take m:=by
 obtain ⟨y,h1,h2,h3,_⟩:=qt3 l 0 0 x m hl (by omega) h
 grind [aj]
theorem qwu:∀(j:Nat) (l xs:List Nat) (u:Nat),(∀b∈l,b<256)→aY j l=(xs,u,0)→xs.flatMap aj=l.take u∧xs.length=j∧(∀x∈xs,x<18446744073709551616)∧u≤l.length:=by intro x;induction x<;>grind [aY,aA,Ws,Sj,ER]
theorem qm6 {e:Ev}:∀{i:Nat},i<7→i≠5→e.within i=true→e.iy i≤4294967295
 |0,_,_,h=>by simp only [Ev.within,decide_eq_true_eq] at h;show e.task≤_;omega
 |1,_,_,h=>by simp only [Ev.within,decide_eq_true_eq] at h;show e.group≤_;omega
 |2,_,_,h=>by simp only [Ev.within,decide_eq_true_eq] at h;show e.to≤_;omega
 |3,_,_,h=>by simp only [Ev.within,decide_eq_true_eq] at h;show e.weight≤_;omega
 |4,_,_,h=>by simp only [Ev.within,decide_eq_true_eq] at h;show e.ticks≤_;omega
 |5,_,h5,_=>absurd rfl h5
 |n+6,_,_,h=>by simp only [Ev.within,decide_eq_true_eq] at h;show e.got≤_;omega
structure Nj (b:Bs) (cpu:Nat) (l:List Nat) (e:Ev) (u:Nat):Prop where
 right:b.right=true
 bytes:zi b e=l.take u
 check:e.check=0
 cpu:e.cpu=cpu
 behind:b.behind e=true
 ok:e.Ok
 len:u≤l.length
end Go.Proofs.YtekiimhdnigmcaaGreatDoor
