/- A part of the proof. -/
import Derived.Test.YtekiimhdnigmcaaGreatDoorQwCodS
namespace Go.Proofs.YtekiimhdnigmcaaGreatDoor
open Go.RowKit
theorem Wp:∀(l:List Nat) (i a x m:Nat),(∀b∈l,b<256)→i≤9→mK i a l=(x,m,0)→
  ∃y,x=a+y*128^i∧(iq (10-i) y).map bn=l.take (m-i)∧i<m∧(0<i→0<y)
 |[],i,a,x,m,_,_,h=>by simp [mK] at h
 | b :: r, i, a, x, m, e, hi, h => by
  have g:=e b (by simp)
  rw [mK] at h
  split at h
  ·simp at h
  ·rename_i h9
   split at h
   ·simp at h
   ·rename_i h0
    split at h
    ·rename_i c
     simp only [Prod.mk.injEq] at h
     obtain ⟨rfl,rfl,_⟩:=h
     refine ⟨b,rfl,?_,by omega,λ_=>by omega⟩
     obtain ⟨f,d⟩:∃f,10-i=f+1:=⟨9-i,by omega⟩
     rw [d,CY f b c,show i+1-i=1 by omega]
     rfl
    ·rename_i c
     obtain ⟨y,h1,h2,h3,h4⟩:=Wp r (i+1) _ x m (λb g=>e b (by simp [g])) (by omega) h
     have n:=h4 (by omega)
     refine ⟨(b-128)+128*y,?_,?_,by omega,λ_=>by omega⟩
     ·grind
     ·obtain ⟨f,d⟩:∃f,10-i=f+1:=⟨9-i,by omega⟩
      rw [d,CZ f _ (by omega),show ((b-128)+128*y)%128=b-128 by omega,show ((b-128)+128*y)/128=y by omega]
      rw [show f=10- (i+1) by omega,List.map_cons,h2]
      obtain ⟨k,j⟩:∃k,m-i=k+1:=⟨m-i-1,by omega⟩
      rw [j,List.take_succ_cons,show m- (i+1)=k by omega]
      congr 1
      show b-128+128=b
      omega
theorem Om {l:List Nat} {x m:Nat} (a:∀b∈l,b<256) (h:aB l=(x,m,0)):au x=l.take m:=by
 obtain ⟨y,h1,h2,h3,_⟩:=Wp l 0 0 x m a (by omega) h
 grind [au]
theorem qyf:∀(j:Nat) (l xs:List Nat) (u:Nat),(∀b∈l,b<256)→bD j l=(xs,u,0)→xs.flatMap au=l.take u∧xs.length=j∧(∀x∈xs,x<18446744073709551616)∧u≤l.length:=by intro x;induction x<;>grind [bD,aB,Om,qed,y8]
theorem qn3 {e:Ev}:∀{i:Nat},i<7→i≠5→e.within i=true→e.jF i≤4294967295
 |0,_,_,h=>by simp only [Ev.within,decide_eq_true_eq] at h;show e.task≤_;omega
 |1,_,_,h=>by simp only [Ev.within,decide_eq_true_eq] at h;show e.group≤_;omega
 |2,_,_,h=>by simp only [Ev.within,decide_eq_true_eq] at h;show e.to≤_;omega
 |3,_,_,h=>by simp only [Ev.within,decide_eq_true_eq] at h;show e.weight≤_;omega
 |4,_,_,h=>by simp only [Ev.within,decide_eq_true_eq] at h;show e.ticks≤_;omega
 |5,_,h5,_=>absurd rfl h5
 |n+6,_,_,h=>by simp only [Ev.within,decide_eq_true_eq] at h;show e.got≤_;omega
structure EZ (b:Bs) (cpu:Nat) (l:List Nat) (e:Ev) (u:Nat):Prop where
 right:b.right=true
 bytes:oF b e=l.take u
 check:e.check=0
 cpu:e.cpu=cpu
 behind:b.behind e=true
 ok:e.Ok
 len:u≤l.length
end Go.Proofs.YtekiimhdnigmcaaGreatDoor
