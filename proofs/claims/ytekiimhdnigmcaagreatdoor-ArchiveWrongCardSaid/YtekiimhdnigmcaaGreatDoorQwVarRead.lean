/- A part of the proof. -/
import Derived.Test.YtekiimhdnigmcaaGreatDoorQwVarint
namespace Go.Proofs.YtekiimhdnigmcaaGreatDoor
open Go.RowKit
open _root_.List renaming getD_eq_getElem?_getD→abn,getElem?_eq_getElem→abt
open Nat renaming mul_le_mul_right→acI,pow_le_pow_right→ad3
open IntKind renaming wrap_u64→aeL
def oD (l:List Nat) (i:Nat):Nat×Nat:=
 if l.length≤i then (0,10) else if i=9∧1<l.getD i 0 then (0,11) else if 0<i∧l.getD i 0=0 then (0,12) else (l.getD i 0,0)
theorem Ni {l:List Nat} {i x:Nat} (h:l[i]?=some x):oD l i=if i=9∧1<x then (0,11) else if 0<i∧x=0 then (0,12) else (x,0):=by
 have hi:i<l.length:=(List.getElem?_eq_some_iff.1 h).1
 unfold oD;rw [if_neg (by omega),abn,h];rfl
set_option maxHeartbeats 400000 in
theorem q08 (A:Option Addr) (n c i B j:Nat) (l:List Nat) (w:World) (hr:Rd w B 1 A n (l.map B8)) (hb:w.cell? ⟨j,0,none⟩=some (.slice A n c)) (k:∀b∈l,b<256) (u:n≤200000000000000) (hi:i≤200000000000000):
  Calls Tryz.prog 111 #[.int .i64 (i:Int),.pointer (some ⟨j,0,none⟩)] w λe o=>e= .returned (.tuple #[.int .u8 ((oD l i).1:Int),.int .i64 ((oD l i).2:Int)])∧o=w:=by
 have d:l.length=n:=by simpa using hr.len
 by_cases f:i<n
 ·obtain ⟨m,rfl,p,g,a⟩:=hr.at f
  have q:=k _ (List.getElem_mem (by omega:i<l.length))
  have h:l[i]?=some l[i]:=List.getElem?_eq_getElem (by omega:i<l.length)
  simp only [List.getElem_map] at a
  generalize l[i]=x at a q h
  unfold B8 at a
  clear hr k d g
  by_cases h9:i=9
  ·subst h9
   have r:w.cell? ⟨m.block,m.off+9,none⟩=some (.int .u8 (x:Int)):=a
   go_enter Tryz.func111,Tryz.ntmps111
   go_wp2
   all_goals
    go_ret2
    refine ⟨?_,rfl⟩
    try simp only [beq_iff_eq,beq_eq_false_iff_ne,ne_eq] at*
    rw [Ni h]
    first|(rw [if_pos (by omega)];rfl)|(rw [if_neg (by omega),if_pos (by omega)];rfl)|(rw [if_neg (by omega),if_neg (by omega)];rfl)
  ·go_enter Tryz.func111,Tryz.ntmps111
   go_wp2
   all_goals
    go_ret2
    refine ⟨?_,rfl⟩
    try simp only [beq_iff_eq,beq_eq_false_iff_ne,ne_eq] at*
    rw [Ni h]
    first|(rw [if_pos (by omega)];rfl)|(rw [if_neg (by omega),if_pos (by omega)];rfl)|(rw [if_neg (by omega),if_neg (by omega)];rfl)
 ·have s:(n:Int)≤(i:Int):=by omega
  have t:=hide (show oD l i=(0,10) by unfold oD;rw [if_pos (by omega)])
  go_enter Tryz.func111,Tryz.ntmps111
  go_wp2
  go_ret2
  exact ⟨by rw [t.out];rfl,rfl⟩
def mK:Nat→Nat→List Nat→Nat×Nat×Nat
 |_,_,[]=>(0,0,10)
 |i,a,b::r=>
  if i=9∧1<b then (0,0,11) else if 0<i∧b=0 then (0,0,12) else
  if b<128 then (a+b*128^i,i+1,0) else mK (i+1) (a+(b-128)*128^i) r
def aB (l:List Nat):Nat×Nat×Nat:=mK 0 0 l
def zd9 (n:Nat) (l:List Nat) (x i:Value):Prop:=
 ∃k a:Nat,k≤n∧k<10∧a<128^k∧x= .int .u64 (a:Int)∧i= .int .i64 (k:Int)∧aB l=mK k a (l.drop k)
theorem q7w (y:Nat) (h:y<256):bits .and .u8 (y:Int) 127=((y%128:Nat):Int):=by
 have:bits .and .u8 (y:Int) 127=_:=u8_and_nat y 127 h (by omega)
 rw [this,nat_mask7]
theorem Nj (k:Nat):(128:Nat)^k=2^ (7*k):=by rw [Nat.pow_mul]
theorem UG (k:Nat) (hk:k≤9):(128:Nat)^k≤9223372036854775808:=Nat.le_trans (ad3 (by omega) hk) (by decide)
theorem zea (a y k:Nat) (b:a<128^k) (hk:k<10) (hy:y<256) (h9:k=9→y≤1):
  bits .or .u64 (a:Int) (IntKind.u64.wrap (IntKind.u64.wrap (bits .and .u8 (y:Int) 127)*2^ (7*k)))=((a+y%128*128^k:Nat):Int):=by
 have hz:y%128*128^k<18446744073709551616:=by
  by_cases h:k=9
  ·have:=h9 h;subst h
   have:y%128*128^9≤1*128^9:=acI _ (by omega)
   omega
  ·have h1:=ad3 (show 0<128 by omega) (show k≤8 by omega)
   have:y%128*128^k≤127*128^8:=Nat.mul_le_mul (by omega) h1
   omega
 have c:a<18446744073709551616:=by have:=UG k (by omega);omega
 have e1:IntKind.u64.wrap ((y%128:Nat):Int)=((y%128:Nat):Int):=by rw [aeL];omega
 have e2:((y%128:Nat):Int)*2^ (7*k)=((y%128*128^k:Nat):Int):=by rw [Nj];simp
 rw [q7w y hy,e1,e2]
 have e3:IntKind.u64.wrap ((y%128*128^k:Nat):Int)=((y%128*128^k:Nat):Int):=by rw [aeL];omega
 rw [e3,u64_or_nat a _ c hz,Nat.or_comm,nat_join (7*k) _ a (by rw [Nj];exact Nat.mul_mod_left _ _) (by rw [←Nj];exact b)]
 omega
theorem UH (a y k:Nat) (b:a<128^k):a+y%128*128^k<128^ (k+1):=by
 have h1:y%128*128^k≤127*128^k:=acI _ (by omega)
 rw [Nat.pow_succ];omega
theorem zif {l:List Nat} (a:∀b∈l,b<256) (k:Nat):(oD l k).1<256:=by
 unfold oD
 by_cases h:l.length≤k
 ·rw [if_pos h];show 0<256;omega
 ·rw [if_neg h]
  have:=a _ (List.getElem_mem (by omega:k<l.length))
  have e:l.getD k 0=l[k]:=by rw [abn,abt (by omega:k<l.length)];rfl
  rw [e]
  split
  ·show 0<256;omega
  ·split
   ·show 0<256;omega
   ·exact this
theorem q7x (l:List Nat) (k a:Nat):
  ((oD l k).2≠0→mK k a (l.drop k)=(0,0,(oD l k).2))∧
  ((oD l k).2=0→k<l.length∧(k=9→(oD l k).1≤1)∧mK k a (l.drop k)=if (oD l k).1<128 then (a+(oD l k).1*128^k,k+1,0) else mK (k+1) (a+((oD l k).1-128)*128^k) (l.drop (k+1))):=by
 by_cases h:k<l.length
 ·have b:l[k]?=some l[k]:=abt h
  rw [Ni b,List.drop_eq_getElem_cons h]
  generalize l[k]=x
  rw [mK]
  by_cases h1:k=9∧1<x
  ·rw [if_pos h1,if_pos h1];simp
  ·rw [if_neg h1,if_neg h1]
   by_cases h2:0<k∧x=0
   ·rw [if_pos h2,if_pos h2];simp
   ·rw [if_neg h2,if_neg h2]
    refine ⟨λh=>absurd rfl h,λ_=>⟨h,λh9=>?_,rfl⟩⟩
    show x≤1
    omega
 ·have c:oD l k=(0,10):=by unfold oD;rw [if_pos (by omega)]
  rw [c,List.drop_eq_nil_of_le (by omega)]
  exact ⟨λ_=>rfl,λh=>by simp at h⟩
set_option maxRecDepth 100000 in
set_option maxHeartbeats 400000 in
theorem Nk (A:Option Addr) (n c:Nat) (l:List Nat) (w:World) (hr:Rd w w.heap.size 1 A n (l.map B8)) (x:∀b∈l,b<256) (F:n≤200000000000000):
  Calls Tryz.prog 52 #[.slice A n c] w λe r=>e= .returned (.tuple #[.int .u64 ((aB l).1:Int),.int .i64 ((aB l).2.1:Int),.int .i64 ((aB l).2.2:Int)])∧Below w.heap.size w r:=by
 have z:l.length=n:=by simpa using hr.len
 go_enter Tryz.func52,Tryz.ntmps52
 go_wp2
 have j:(w.alloc (.cells #[.slice A n c] 30)).cell? ⟨w.heap.size,0,none⟩=some (.slice A n c):=by simp
 have t:=hr.alloc (Nat.le_refl _) (.cells #[.slice A n c] 30)
 go_loop [5,7] (zd9 n l) (λ_ i=>10- (intOf i).toNat)
 case atStart=>exact ⟨0,0,by omega,by omega,by omega,rfl,rfl,rfl⟩
 case round=>
  obtain ⟨k,g,I,m,h,rfl,rfl,B⟩:=hrel
  have f:=q7x l k g
  rw [←B] at f
  have u:=zif x k
  have C:=q08 A n c k w.heap.size w.heap.size l _ t j x F (by omega)
  have o:=hide C
  clear C B
  generalize oD l k=p at f u o
  obtain ⟨y,e⟩:=p
  obtain ⟨a,d⟩:=f
  simp only at a d u o
  by_cases D:e=0
  ·subst D
   obtain ⟨G,h9,f⟩:=d rfl
   have s:=hide f
   have E:=hide (zea g y k h m u h9)
   have v:=UH g y k h
   clear f a d
   by_cases q:y<128
   ·go_wp2_with (go_at_call 111;refine (o.out).mono ?_;rintro e r ⟨rfl,rfl⟩)
    go_ret3
    refine ⟨?_,(Below.refl _ _).alloc (Nat.le_refl _) _⟩
    rw [s.out,if_pos q]
    have e1:y%128=y:=by omega
    have:=E.out
    rw [e1] at this
    simp [this]
   ·go_wp2_with (go_at_call 111;refine (o.out).mono ?_;rintro e r ⟨rfl,rfl⟩)
    have e1:y%128=y-128:=by omega
    refine ⟨⟨k+1,g+y%128*128^k,by omega,by omega,v,by rw [E.out],by go_num,?_⟩,by simp [intOf];omega⟩
    rw [s.out,if_neg q,e1]
  ·have s:=hide (a D)
   have H:((e:Int) !=0)=true:=by rw [bne_iff_ne];omega
   clear a d
   go_wp2_with (go_at_call 111;refine (o.out).mono ?_;rintro e r ⟨rfl,rfl⟩)
   go_ret3
   exact ⟨by rw [s.out];rfl,(Below.refl _ _).alloc (Nat.le_refl _) _⟩
end Go.Proofs.YtekiimhdnigmcaaGreatDoor
