/- A part of the proof. -/
import Derived.Test.YtieeckeaijdaeaaGreatDoorQaOneWay
namespace Go.Proofs.YtieeckeaijdaeaaGreatDoor
open Go.RowKit
theorem qzi (i:Nat) (h:i≤8):2^ (64-7*i)=128*2^ (64-7*(i+1)):=by
 rw [show 64-7*i=7+(64-7*(i+1)) by omega,Nat.pow_add]
theorem qzj (acc y i:Nat):acc+(y%128+128-128)*128^i+y/128*128^ (i+1)=acc+y*128^i:=by
 rw [Nat.pow_succ,Nat.add_sub_cancel,Nat.add_assoc,Nat.mul_comm (128^i) 128,←Nat.mul_assoc,←Nat.add_mul]
 congr 2
 omega
theorem WM:∀(f y i acc:Nat) (rest:List Nat),i+f=10→1≤f→y<2^ (64-7*i)→(0<i→0<y)→
  jU i acc ((dZ f y).map lh++rest)=(acc+y*128^i,i+(dZ f y).length,0)
 |0,_,_,_,_,_,h,_,_=>by omega
 | f + 1, y, i, acc, rest, hi, _, hy, h0 => by
  have h9:i=9→y<2:=fun e=>by subst e;simpa using hy
  by_cases h:y<128
  ·rw [Et f y h]
   show jU i acc (y::rest)=_
   rw [jU,if_neg (by omega),if_neg (by omega),if_pos h]
   rfl
  ·rw [Eu f y (by omega)]
   show jU i acc ((y%128+128)::((dZ f (y/128)).map lh++rest))=_
   have hi8:i≤8:=by
    rcases Nat.lt_or_ge i 9 with h|h
    ·omega
    ·have:=h9 (by omega);omega
   have hy':y/128<2^ (64-7*(i+1)):=by
    rw [qzi i hi8] at hy
    exact Nat.div_lt_of_lt_mul hy
   rw [jU,if_neg (by omega),if_neg (by omega),if_neg (by omega),WM f (y/128) (i+1) _ rest (by omega) (by omega) hy' (fun _=>by omega),qzj]
   simp only [List.length_cons,Prod.mk.injEq,and_true,true_and]
   omega
theorem qva {y:Nat} (rest:List Nat) (hy:y<18446744073709551616):ae (ah y++rest)=(y,(ah y).length,0):=by
 have:=WM 10 y 0 0 rest rfl (by omega) (by simpa using hy) (fun h=>by omega)
 unfold ae ah
 rw [this]
 simp
theorem Qh:∀(xs rest:List Nat),(∀x∈xs,x<18446744073709551616)→aj xs.length (xs.flatMap ah++rest)=(xs,(xs.flatMap ah).length,0)
 |[],_,_=>rfl
 |x::xs,rest,h=>by
  rw [List.length_cons,aj,List.flatMap_cons,List.append_assoc,qva _ (h x (by simp))]
  simp only [List.drop_left,ne_eq,not_true_eq_false,if_false]
  rw [Qh xs rest (fun z hz=>h z (by simp [hz]))]
  simp
theorem qvb {e:Ev} (hc:e.check=0) (ho:e.Ok):∀x∈e.vals,x<18446744073709551616:=by
 intro x hx
 obtain ⟨i,hi,rfl⟩:=List.mem_map.1 hx
 have hw:=(xQ hc).2.1
 rw [List.all_eq_true] at hw
 by_cases h5:i=5
 ·subst h5
  have:=ho.mask
  show ((e.mask:Int)).toNat<_
  simpa using this
 ·have:=WJ (wX _ _ hi) h5 (hw i hi)
  have h0:=Lx (hw i hi)
  show (e.dK i).toNat<_
  omega
structure Fit (b:Bs) (e:Ev):Prop where
 right:b.right=true
 check:e.check=0
 ok:e.Ok
 behind:b.behind e=true
theorem Fit.nums {b:Bs} {e:Ev} (h:Fit b e):(∀x∈zw b e,x<18446744073709551616)∧(zw b e).length=2+(aa e.kind).length∧b.seq+(((e.seq-b.seq).toNat:Nat):Int)=e.seq∧b.time+(((e.time-b.time).toNat:Nat):Int)=e.time∧
  1≤b.seq∧0≤b.time∧e.seq≤281474976710656∧e.time≤281474976710656:=by
 have h1:=h.right
 have h2:=h.behind
 unfold Bs.right at h1
 unfold Bs.behind at h2
 simp only [decide_eq_true_eq] at h1 h2
 obtain ⟨_,_,_,g1,g2,g3,g4⟩:=xQ h.check
 refine ⟨fun x hx=>?_,?_,by omega,by omega,by omega,by omega,by omega,by omega⟩
 ·unfold zw at hx
  rcases List.mem_cons.1 hx with rfl|hx
  ·omega
  ·rcases List.mem_cons.1 hx with rfl|hx
   ·omega
   ·exact qvb h.check h.ok x hx
 ·unfold zw Ev.vals
  simp only [List.length_cons,List.length_map]
  omega
def jq (cpu:Nat):Option Ev→Bs→List Ev→Prop
 |_,_,[]=>True
 |p,b,e::r=>Fit b e∧e.cpu=cpu∧(∀q,p=some q→q.seq<e.seq)∧jq cpu (some e) e.at r
theorem Ms {e:Ev} (hc:e.check=0):e.at.right=true:=by
 obtain ⟨_,_,_,g1,g2,g3,g4⟩:=xQ hc
 unfold Bs.right Ev.at
 rw [decide_eq_true_eq]
 exact ⟨g1,g2,g3,g4⟩
theorem WN {cpu:Nat}:∀(es:List Ev) (p:Option Ev) (b:Bs) (i:Nat),jq cpu p b es→(∀q,p=some q→b=q.at∧q.cpu=cpu)→di p i es=(-1,0)
 |[],_,_,_,_,_=>rfl
 | e :: r, p, b, i, h, hp => by
  obtain ⟨h1,h2,h3,h4⟩:=h
  rw [di,if_neg (by simp [h1.check]),if_neg]
  ·exact WN r (some e) e.at (i+1) h4 (fun q hq=>by injection hq with hq;subst hq;exact ⟨rfl,h2⟩)
  ·cases p with
   |none=>simp
   | some q =>
    obtain ⟨rfl,hc⟩:=hp q rfl
    have hb:=h1.behind
    unfold Bs.behind Ev.at at hb
    simp only [decide_eq_true_eq] at hb
    have:=h3 q rfl
    have Qf:e.after q=true:=by
     unfold Ev.after
     rw [decide_eq_true_eq]
     exact ⟨by rw [h2,hc],this,hb.2⟩
    simp [Qf]
theorem qvc {cpu:Nat} {es:List Ev} {b:Bs} (hb:b.right=true) (h:jq cpu none b es):bH es=(-1,0)∧za b es=0∧zf b es=recs b es:=by
 have h1:bH es=(-1,0):=WN es none b 0 h (fun q hq=>by cases hq)
 have h2:za b es=0:=by
  unfold za
  have hh:es.head?.all b.behind=true:=by
   cases es with
   |nil=>rfl
   |cons e r=>simpa using h.1.behind
  rw [h1,if_neg (by simp),if_pos ⟨hb,hh⟩]
 refine ⟨h1,h2,?_⟩
 unfold zf
 rw [if_pos h2]
end Go.Proofs.YtieeckeaijdaeaaGreatDoor
