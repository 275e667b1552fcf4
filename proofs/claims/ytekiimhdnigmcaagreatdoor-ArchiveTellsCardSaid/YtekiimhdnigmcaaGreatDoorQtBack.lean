/- A part of the proof. -/
import Derived.Test.YtekiimhdnigmcaaGreatDoorQtOneWay
namespace Go.Proofs.YtekiimhdnigmcaaGreatDoor
open Go.RowKit
theorem q5w (i:Nat) (h:i≤8):2^ (64-7*i)=128*2^ (64-7*(i+1)):=by
 rw [show 64-7*i=7+(64-7*(i+1)) by omega,Nat.pow_add]
theorem q5x (acc y i:Nat):acc+(y%128+128-128)*128^i+y/128*128^ (i+1)=acc+y*128^i:=by
 rw [Nat.pow_succ,Nat.add_sub_cancel,Nat.add_assoc,Nat.mul_comm (128^i) 128,←Nat.mul_assoc,←Nat.add_mul]
 congr 2
 omega
theorem qzv:∀(f y i acc:Nat) (rest:List Nat),i+f=10→1≤f→y<2^ (64-7*i)→(0<i→0<y)→
  pz i acc ((gG f y).map j6++rest)=(acc+y*128^i,i+(gG f y).length,0)
 |0,_,_,_,_,_,h,_,_=>by omega
 | f + 1, y, i, acc, rest, hi, _, hy, h0 => by
  have h9:i=9→y<2:=fun e=>by subst e;simpa using hy
  by_cases h:y<128
  ·rw [GR f y h]
   show pz i acc (y::rest)=_
   rw [pz,if_neg (by omega),if_neg (by omega),if_pos h]
   rfl
  ·rw [GU f y (by omega)]
   show pz i acc ((y%128+128)::((gG f (y/128)).map j6++rest))=_
   have hi8:i≤8:=by
    rcases Nat.lt_or_ge i 9 with h|h
    ·omega
    ·have:=h9 (by omega);omega
   have hy':y/128<2^ (64-7*(i+1)):=by
    rw [q5w i hi8] at hy
    exact Nat.div_lt_of_lt_mul hy
   rw [pz,if_neg (by omega),if_neg (by omega),if_neg (by omega),qzv f (y/128) (i+1) _ rest (by omega) (by omega) hy' (fun _=>by omega),q5x]
   simp only [List.length_cons,Prod.mk.injEq,and_true,true_and]
   omega
theorem qzw {y:Nat} (rest:List Nat) (hy:y<18446744073709551616):aA (aj y++rest)=(y,(aj y).length,0):=by grind [aj,qzv,aA]
theorem qo4:∀(xs rest:List Nat),(∀x∈xs,x<18446744073709551616)→aY xs.length (xs.flatMap aj++rest)=(xs,(xs.flatMap aj).length,0):=by intro x;induction x<;>grind [aY,qzw]
theorem qzx {e:Ev} (hc:e.check=0) (ho:e.Ok):∀x∈e.vals,x<18446744073709551616:=by
 intro x hx
 obtain ⟨i,hi,rfl⟩:=List.mem_map.1 hx
 have hw:=(EP hc).2.1
 rw [List.all_eq_true] at hw
 by_cases h5:i=5
 ·subst h5
  have:=ho.mask
  show ((e.mask:Int)).toNat<_
  simpa using this
 ·have:=qm6 (Sg _ _ hi) h5 (hw i hi)
  have h0:=U3 (hw i hi)
  show (e.iy i).toNat<_
  omega
structure Fit (b:Bs) (e:Ev):Prop where
 right:b.right=true
 check:e.check=0
 ok:e.Ok
 behind:b.behind e=true
theorem Fit.nums {b:Bs} {e:Ev} (h:Fit b e):(∀x∈Df b e,x<18446744073709551616)∧(Df b e).length=2+(aJ e.kind).length∧b.seq+(((e.seq-b.seq).toNat:Nat):Int)=e.seq∧b.time+(((e.time-b.time).toNat:Nat):Int)=e.time∧
  1≤b.seq∧0≤b.time∧e.seq≤281474976710656∧e.time≤281474976710656:=by
 have h1:=h.right
 have h2:=h.behind
 unfold Bs.right at h1
 unfold Bs.behind at h2
 simp only [decide_eq_true_eq] at h1 h2
 obtain ⟨_,_,_,g1,g2,g3,g4⟩:=EP h.check
 refine ⟨fun x hx=>?_,?_,by omega,by omega,by omega,by omega,by omega,by omega⟩
 ·unfold Df at hx
  rcases List.mem_cons.1 hx with rfl|hx
  ·omega
  ·rcases List.mem_cons.1 hx with rfl|hx
   ·omega
   ·exact qzx h.check h.ok x hx
 ·unfold Df Ev.vals
  simp only [List.length_cons,List.length_map]
  omega
def Chain (cpu:Nat):Option Ev→Bs→List Ev→Prop
 |_,_,[]=>True
 |p,b,e::r=>Fit b e∧e.cpu=cpu∧(∀q,p=some q→q.seq<e.seq)∧Chain cpu (some e) e.at r
theorem SY {e:Ev} (hc:e.check=0):e.at.right=true:=by simp_all [Bs.right,Ev.at,EP]
theorem qo5 {cpu:Nat}:∀(es:List Ev) (p:Option Ev) (b:Bs) (i:Nat),Chain cpu p b es→(∀q,p=some q→b=q.at∧q.cpu=cpu)→fI p i es=(-1,0)
 |[],_,_,_,_,_=>rfl
 | e :: r, p, b, i, h, hp => by
  obtain ⟨h1,h2,h3,h4⟩:=h
  rw [fI,if_neg (by simp [h1.check]),if_neg]
  ·exact qo5 r (some e) e.at (i+1) h4 (fun q hq=>by injection hq with hq;subst hq;exact ⟨rfl,h2⟩)
  ·cases p with
   |none=>simp
   | some q =>
    obtain ⟨rfl,hc⟩:=hp q rfl
    have hb:=h1.behind
    unfold Bs.behind Ev.at at hb
    simp only [decide_eq_true_eq] at hb
    have:=h3 q rfl
    have haf:e.after q=true:=by
     unfold Ev.after
     rw [decide_eq_true_eq]
     exact ⟨by rw [h2,hc],this,hb.2⟩
    simp [haf]
theorem qzy {cpu:Nat} {es:List Ev} {b:Bs} (hb:b.right=true) (h:Chain cpu none b es):eu es=(-1,0)∧q8 b es=0∧zu b es=recs b es:=by
 have h1:eu es=(-1,0):=qo5 es none b 0 h (fun q hq=>by cases hq)
 have h2:q8 b es=0:=by
  unfold q8
  have hh:es.head?.all b.behind=true:=by
   cases es with
   |nil=>rfl
   |cons e r=>simpa using h.1.behind
  rw [h1,if_neg (by simp),if_pos ⟨hb,hh⟩]
 refine ⟨h1,h2,?_⟩
 unfold zu
 rw [if_pos h2]
end Go.Proofs.YtekiimhdnigmcaaGreatDoor
