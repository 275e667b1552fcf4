/- A part of the proof. -/
import Derived.Test.YtekiimhdnigmcaaGreatDoorQtVarint
namespace Go.Proofs.YtekiimhdnigmcaaGreatDoor
open Go.RowKit
def rY (l:List Nat) (i:Nat):Nat×Nat:=
 if l.length≤i then (0,10) else if i=9∧1<l.getD i 0 then (0,11) else if 0<i∧l.getD i 0=0 then (0,12) else (l.getD i 0,0)
theorem U6 {l:List Nat} {i x:Nat} (h:l[i]?=some x):rY l i=if i=9∧1<x then (0,11) else if 0<i∧x=0 then (0,12) else (x,0):=by
 have hi:i<l.length:=(List.getElem?_eq_some_iff.1 h).1
 unfold rY;rw [if_neg (by omega),List.getD_eq_getElem?_getD,h];rfl
set_option maxHeartbeats 400000 in
theorem qyl (A:Option Addr) (n c i B bb:Nat) (l:List Nat) (w:World) (hr:Rd w B 1 A n (l.map B8)) (hb:w.cell? ⟨bb,0,none⟩=some (.slice A n c)) (hl:∀b∈l,b<256) (hn:n≤200000000000000) (hi:i≤200000000000000):
  Calls Tryz.prog 111 #[.int .i64 (i:Int),.pointer (some ⟨bb,0,none⟩)] w fun e w'=>e= .returned (.tuple #[.int .u8 ((rY l i).1:Int),.int .i64 ((rY l i).2:Int)])∧w'=w:=by
 have hlen:l.length=n:=by simpa using hr.len
 by_cases hlt:i<n
 ·obtain ⟨ad,rfl,hbl,hl',hcell⟩:=hr.at hlt
  have hx:=hl _ (List.getElem_mem (by omega:i<l.length))
  have hq:l[i]?=some l[i]:=List.getElem?_eq_getElem (by omega:i<l.length)
  simp only [List.getElem_map] at hcell
  generalize l[i]=x at hcell hx hq
  unfold B8 at hcell
  clear hr hl hlen hl'
  by_cases h9:i=9
  ·subst h9
   have Si:w.cell? ⟨ad.block,ad.off+9,none⟩=some (.int .u8 (x:Int)):=hcell
   go_enter Tryz.func111,Tryz.ntmps111
   go_wp2
   all_goals
    go_ret2
    refine ⟨?_,rfl⟩
    try simp only [beq_iff_eq,beq_eq_false_iff_ne,ne_eq] at*
    rw [U6 hq]
    first|(rw [if_pos (by omega)];rfl)|(rw [if_neg (by omega),if_pos (by omega)];rfl)|(rw [if_neg (by omega),if_neg (by omega)];rfl)
  ·go_enter Tryz.func111,Tryz.ntmps111
   go_wp2
   all_goals
    go_ret2
    refine ⟨?_,rfl⟩
    try simp only [beq_iff_eq,beq_eq_false_iff_ne,ne_eq] at*
    rw [U6 hq]
    first|(rw [if_pos (by omega)];rfl)|(rw [if_neg (by omega),if_pos (by omega)];rfl)|(rw [if_neg (by omega),if_neg (by omega)];rfl)
 ·have hge:(n:Int)≤(i:Int):=by omega
  have Hv:=hide (show rY l i=(0,10) by unfold rY;rw [if_pos (by omega)])
  go_enter Tryz.func111,Tryz.ntmps111
  go_wp2
  go_ret2
  exact ⟨by rw [Hv.out];rfl,rfl⟩
def pz:Nat→Nat→List Nat→Nat×Nat×Nat
 |_,_,[]=>(0,0,10)
 |i,acc,b::r=>
  if i=9∧1<b then (0,0,11) else if 0<i∧b=0 then (0,0,12) else
  if b<128 then (acc+b*128^i,i+1,0) else pz (i+1) (acc+(b-128)*128^i) r
def aA (l:List Nat):Nat×Nat×Nat:=pz 0 0 l
def q96 (n:Nat) (l:List Nat) (x i:Value):Prop:=
 ∃k acc:Nat,k≤n∧k<10∧acc<128^k∧x= .int .u64 (acc:Int)∧i= .int .i64 (k:Int)∧aA l=pz k acc (l.drop k)
theorem q4z (y:Nat) (h:y<256):bits .and .u8 (y:Int) 127=((y%128:Nat):Int):=by
 have:bits .and .u8 (y:Int) 127=_:=u8_and_nat y 127 h (by omega)
 rw [this,nat_mask7]
theorem U7 (k:Nat):(128:Nat)^k=2^ (7*k):=by rw [Nat.pow_mul]
theorem qom (k:Nat) (hk:k≤9):(128:Nat)^k≤9223372036854775808:=Nat.le_trans (Nat.pow_le_pow_right (by omega) hk) (by decide)
theorem q97 (acc y k:Nat) (hacc:acc<128^k) (hk:k<10) (hy:y<256) (h9:k=9→y≤1):
  bits .or .u64 (acc:Int) (IntKind.u64.wrap (IntKind.u64.wrap (bits .and .u8 (y:Int) 127)*2^ (7*k)))=((acc+y%128*128^k:Nat):Int):=by
 have hz:y%128*128^k<18446744073709551616:=by
  by_cases h:k=9
  ·have:=h9 h;subst h
   have:y%128*128^9≤1*128^9:=Nat.mul_le_mul_right _ (by omega)
   omega
  ·have h1:=Nat.pow_le_pow_right (show 0<128 by omega) (show k≤8 by omega)
   have:y%128*128^k≤127*128^8:=Nat.mul_le_mul (by omega) h1
   omega
 have ha:acc<18446744073709551616:=by have:=qom k (by omega);omega
 have e1:IntKind.u64.wrap ((y%128:Nat):Int)=((y%128:Nat):Int):=by rw [IntKind.wrap_u64];omega
 have e2:((y%128:Nat):Int)*2^ (7*k)=((y%128*128^k:Nat):Int):=by rw [U7];simp
 rw [q4z y hy,e1,e2]
 have e3:IntKind.u64.wrap ((y%128*128^k:Nat):Int)=((y%128*128^k:Nat):Int):=by rw [IntKind.wrap_u64];omega
 rw [e3,u64_or_nat acc _ ha hz,Nat.or_comm,nat_join (7*k) _ acc (by rw [U7];exact Nat.mul_mod_left _ _) (by rw [←U7];exact hacc)]
 omega
theorem qtu (acc y k:Nat) (hacc:acc<128^k):acc+y%128*128^k<128^ (k+1):=by
 have h1:y%128*128^k≤127*128^k:=Nat.mul_le_mul_right _ (by omega)
 rw [Nat.pow_succ];omega
theorem zda {l:List Nat} (hl:∀b∈l,b<256) (k:Nat):(rY l k).1<256:=by
 unfold rY
 by_cases h:l.length≤k
 ·rw [if_pos h];show 0<256;omega
 ·rw [if_neg h]
  have:=hl _ (List.getElem_mem (by omega:k<l.length))
  have e:l.getD k 0=l[k]:=by rw [List.getD_eq_getElem?_getD,List.getElem?_eq_getElem (by omega:k<l.length)];rfl
  rw [e]
  split
  ·show 0<256;omega
  ·split
   ·show 0<256;omega
   ·exact this
theorem q40 (l:List Nat) (k acc:Nat):
  ((rY l k).2≠0→pz k acc (l.drop k)=(0,0,(rY l k).2))∧
  ((rY l k).2=0→k<l.length∧(k=9→(rY l k).1≤1)∧pz k acc (l.drop k)=if (rY l k).1<128 then (acc+(rY l k).1*128^k,k+1,0) else pz (k+1) (acc+((rY l k).1-128)*128^k) (l.drop (k+1))):=by
 by_cases h:k<l.length
 ·have hq:l[k]?=some l[k]:=List.getElem?_eq_getElem h
  rw [U6 hq,List.drop_eq_getElem_cons h]
  generalize l[k]=x
  rw [pz]
  by_cases h1:k=9∧1<x
  ·rw [if_pos h1,if_pos h1];simp
  ·rw [if_neg h1,if_neg h1]
   by_cases h2:0<k∧x=0
   ·rw [if_pos h2,if_pos h2];simp
   ·rw [if_neg h2,if_neg h2]
    refine ⟨fun h=>absurd rfl h,fun _=>⟨h,fun h9=>?_,rfl⟩⟩
    show x≤1
    omega
 ·have hv:rY l k=(0,10):=by unfold rY;rw [if_pos (by omega)]
  rw [hv,List.drop_eq_nil_of_le (by omega)]
  exact ⟨fun _=>rfl,fun h=>by simp at h⟩
set_option maxRecDepth 100000 in
set_option maxHeartbeats 400000 in
theorem U8 (A:Option Addr) (n c:Nat) (l:List Nat) (w:World) (hr:Rd w w.heap.size 1 A n (l.map B8)) (hl:∀b∈l,b<256) (hn:n≤200000000000000):
  Calls Tryz.prog 52 #[.slice A n c] w fun e w'=>e= .returned (.tuple #[.int .u64 ((aA l).1:Int),.int .i64 ((aA l).2.1:Int),.int .i64 ((aA l).2.2:Int)])∧Below w.heap.size w w':=by
 have hlen:l.length=n:=by simpa using hr.len
 go_enter Tryz.func52,Tryz.ntmps52
 go_wp2
 have Da:(w.alloc (.cells #[.slice A n c] 30)).cell? ⟨w.heap.size,0,none⟩=some (.slice A n c):=by simp
 have hr':=hr.alloc (Nat.le_refl _) (.cells #[.slice A n c] 30)
 go_loop [5,7] (q96 n l) (fun _ i=>10- (intOf i).toNat)
 case atStart=>exact ⟨0,0,by omega,by omega,by omega,rfl,rfl,rfl⟩
 case round=>
  obtain ⟨k,acc,hk,hk10,hacc,rfl,rfl,hv⟩:=hrel
  have hst:=q40 l k acc
  rw [←hv] at hst
  have hy:=zda hl k
  have H1:=qyl A n c k w.heap.size w.heap.size l _ hr' Da hl hn (by omega)
  have H2:=hide H1
  clear H1 hv
  generalize rY l k=p at hst hy H2
  obtain ⟨y,e⟩:=p
  obtain ⟨Dc,sJ⟩:=hst
  simp only at Dc sJ hy H2
  by_cases he:e=0
  ·subst he
   obtain ⟨hkl,h9,hst⟩:=sJ rfl
   have Hs:=hide hst
   have HO:=hide (q97 acc y k hacc hk10 hy h9)
   have hac:=qtu acc y k hacc
   clear hst Dc sJ
   by_cases hy1:y<128
   ·go_wp2_with (go_at_call 111;refine (H2.out).mono ?_;rintro e w' ⟨rfl,rfl⟩)
    go_ret3
    refine ⟨?_,(Below.refl _ _).alloc (Nat.le_refl _) _⟩
    rw [Hs.out,if_pos hy1]
    have e1:y%128=y:=by omega
    have:=HO.out
    rw [e1] at this
    simp [this]
   ·go_wp2_with (go_at_call 111;refine (H2.out).mono ?_;rintro e w' ⟨rfl,rfl⟩)
    have e1:y%128=y-128:=by omega
    refine ⟨⟨k+1,acc+y%128*128^k,by omega,by omega,hac,by rw [HO.out],by go_num,?_⟩,by simp [intOf];omega⟩
    rw [Hs.out,if_neg hy1,e1]
  ·have Hs:=hide (Dc he)
   have hne:((e:Int) !=0)=true:=by rw [bne_iff_ne];omega
   clear Dc sJ
   go_wp2_with (go_at_call 111;refine (H2.out).mono ?_;rintro e w' ⟨rfl,rfl⟩)
   go_ret3
   exact ⟨by rw [Hs.out];rfl,(Below.refl _ _).alloc (Nat.le_refl _) _⟩
end Go.Proofs.YtekiimhdnigmcaaGreatDoor
