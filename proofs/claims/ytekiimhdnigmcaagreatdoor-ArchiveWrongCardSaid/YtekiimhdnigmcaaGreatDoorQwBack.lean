/- A part of the proof. -/
import Derived.Test.YtekiimhdnigmcaaGreatDoorQwOneWay
namespace Go.Proofs.YtekiimhdnigmcaaGreatDoor
open Go.RowKit
variable {e:Ev}
theorem q8n (i:Nat) (h:i≤8):2^ (64-7*i)=128*2^ (64-7*(i+1)):=by
 rw [show 64-7*i=7+(64-7*(i+1)) by omega,Nat.pow_add]
theorem q8o (a y i:Nat):a+(y%128+128-128)*128^i+y/128*128^ (i+1)=a+y*128^i:=by
 rw [Nat.pow_succ,Nat.add_sub_cancel,Nat.add_assoc,Nat.mul_comm (128^i) 128,←Nat.mul_assoc,←Nat.add_mul]
 congr 2
 omega
theorem Wq:∀(f y i b:Nat) (a:List Nat),i+f=10→1≤f→y<2^ (64-7*i)→(0<i→0<y)→
  mK i b ((iq f y).map bn++a)=(b+y*128^i,i+(iq f y).length,0)
 |0,_,_,_,_,_,h,_,_=>by omega
 | f + 1, y, i, b, a, hi, _, c, h0 => by
  have h9:i=9→y<2:=λe=>by subst e;simpa using c
  by_cases h:y<128
  ·rw [CY f y h]
   show mK i b (y::a)=_
   rw [mK,if_neg (by omega),if_neg (by omega),if_pos h]
   rfl
  ·rw [CZ f y (by omega)]
   show mK i b ((y%128+128)::((iq f (y/128)).map bn++a))=_
   have d:i≤8:=by
    rcases Nat.lt_or_ge i 9 with h|h
    ·omega
    ·have:=h9 (by omega);omega
   have g:y/128<2^ (64-7*(i+1)):=by
    rw [q8n i d] at c
    exact Nat.div_lt_of_lt_mul c
   rw [mK,if_neg (by omega),if_neg (by omega),if_neg (by omega),Wq f (y/128) (i+1) _ a (by omega) (by omega) g (λ_=>by omega),q8o]
   simp only [List.length_cons,Prod.mk.injEq,and_true,true_and]
   omega
theorem KM {y:Nat} (a:List Nat) (hy:y<18446744073709551616):aB (au y++a)=(y,(au y).length,0):=by grind [au,Wq,aB]
theorem Ws:∀(xs a:List Nat),(∀x∈xs,x<18446744073709551616)→bD xs.length (xs.flatMap au++a)=(xs,(xs.flatMap au).length,0):=by intro x;induction x<;>grind [bD,KM]
theorem q2b (hc:e.check=0) (b:e.Ok):∀x∈e.vals,x<18446744073709551616:=by
 intro x c
 obtain ⟨i,hi,rfl⟩:=List.mem_map.1 c
 have a:=(AP hc).2.1
 rw [List.all_eq_true] at a
 by_cases h5:i=5
 ·subst h5
  have:=b.mask
  show ((e.mask:Int)).toNat<_
  simpa using this
 ·have:=qn3 (Ng _ _ hi) h5 (a i hi)
  have h0:=UE (a i hi)
  show (e.jF i).toNat<_
  omega
structure Fit (b:Bs) (e:Ev):Prop where
 right:b.right=true
 check:e.check=0
 ok:e.Ok
 behind:b.behind e=true
theorem Fit.nums {b:Bs} (h:Fit b e):(∀x∈y7 b e,x<18446744073709551616)∧(y7 b e).length=2+(aR e.kind).length∧b.seq+(((e.seq-b.seq).toNat:Nat):Int)=e.seq∧b.time+(((e.time-b.time).toNat:Nat):Int)=e.time∧
  1≤b.seq∧0≤b.time∧e.seq≤281474976710656∧e.time≤281474976710656:=by
 have h1:=h.right
 have h2:=h.behind
 unfold Bs.right at h1
 unfold Bs.behind at h2
 simp only [decide_eq_true_eq] at h1 h2
 obtain ⟨_,_,_,c,d,f,g⟩:=AP h.check
 refine ⟨λx a=>?_,?_,by omega,by omega,by omega,by omega,by omega,by omega⟩
 ·unfold y7 at a
  rcases List.mem_cons.1 a with rfl|a
  ·omega
  ·rcases List.mem_cons.1 a with rfl|a
   ·omega
   ·exact q2b h.check h.ok x a
 ·unfold y7 Ev.vals
  simp only [List.length_cons,List.length_map]
  omega
def Chain (cpu:Nat):Option Ev→Bs→List Ev→Prop
 |_,_,[]=>True
 |p,b,e::r=>Fit b e∧e.cpu=cpu∧(∀q,p=some q→q.seq<e.seq)∧Chain cpu (some e) e.at r
theorem E5 (hc:e.check=0):e.at.right=true:=by simp_all [Bs.right,Ev.at,AP]
theorem Wt {cpu:Nat}:∀(es:List Ev) (p:Option Ev) (b:Bs) (i:Nat),Chain cpu p b es→(∀q,p=some q→b=q.at∧q.cpu=cpu)→gP p i es=(-1,0)
 |[],_,_,_,_,_=>rfl
 | e :: r, p, b, i, h, f => by
  obtain ⟨h1,h2,h3,h4⟩:=h
  rw [gP,if_neg (by simp [h1.check]),if_neg]
  ·exact Wt r (some e) e.at (i+1) h4 (λq a=>by injection a with a;subst a;exact ⟨rfl,h2⟩)
  ·cases p with
   |none=>simp
   | some q =>
    obtain ⟨rfl,hc⟩:=f q rfl
    have c:=h1.behind
    unfold Bs.behind Ev.at at c
    simp only [decide_eq_true_eq] at c
    have:=h3 q rfl
    have d:e.after q=true:=by
     unfold Ev.after
     rw [decide_eq_true_eq]
     exact ⟨by rw [h2,hc],this,c.2⟩
    simp [d]
theorem Wu {cpu:Nat} {es:List Ev} {b:Bs} (hb:b.right=true) (h:Chain cpu none b es):gI es=(-1,0)∧zq b es=0∧qZ b es=recs b es:=by
 have h1:gI es=(-1,0):=Wt es none b 0 h (λq a=>by cases a)
 have h2:zq b es=0:=by
  unfold zq
  have c:es.head?.all b.behind=true:=by
   cases es with
   |nil=>rfl
   |cons e r=>simpa using h.1.behind
  rw [h1,if_neg (by simp),if_pos ⟨hb,c⟩]
 refine ⟨h1,h2,?_⟩
 unfold qZ
 rw [if_pos h2]
end Go.Proofs.YtekiimhdnigmcaaGreatDoor
