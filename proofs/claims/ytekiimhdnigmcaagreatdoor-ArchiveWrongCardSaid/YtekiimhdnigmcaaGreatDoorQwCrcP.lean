/- A part of the proof. -/
import Derived.Test.YtekiimhdnigmcaaGreatDoorQwMem
set_option linter.all false
namespace Go.Proofs.YtekiimhdnigmcaaGreatDoor
open Nat renaming mod_two_eq_zero_or_one→adt,xor_assoc→aea,testBit_zero→ae0,testBit_xor→ae8,eq_of_testBit_eq→afY,xor_comm→agS
variable {c:Nat}
def Ba:Nat:=3988292384
def zr (c:Nat):Nat:=if c%2=1 then (c/2)^^^Ba else c/2
def sw:List Nat:=[0,498536548,997073096,651767980,1994146192,1802195444,1303535960,1342533948,3988292384,4027552580,3604390888,3412177804,2607071920,2262029012,2685067896,3183342108]
def qG (c:Nat):Nat:=(c/16)^^^ (sw.getD (c%16) 0)
def Dj (c x:Nat):Nat:=qG (qG (c^^^x))
def zg (c:Nat) (l:List Nat):Nat:=l.foldl Dj c
def zo (l:List Nat):Nat:=4294967295-zg 4294967295 l
def xJ (y:Nat):Nat:=zr (zr (zr (zr (zr (zr (zr (zr y)))))))
theorem q73 (a b:Nat):(a^^^b)/2=a/2^^^b/2:=by
 have:=Nat.shiftRight_xor_distrib (a:=a) (b:=b) (i:=1)
 simpa [Nat.shiftRight_eq_div_pow] using this
def q74 (a b:Nat):(a^^^b)%2=(a+b)%2:=by
 have h:(a^^^b).testBit 0=((a.testBit 0)^^ (b.testBit 0)):=ae8 ..
 rw [ae0,ae0,ae0] at h
 rcases adt a with c|c<;>rcases adt b with d|d
 ·rw [c,d] at h
  have:¬(a^^^b)%2=1:=of_decide_eq_false h
  omega
 ·rw [c,d] at h
  have:(a^^^b)%2=1:=of_decide_eq_true h
  omega
 ·rw [c,d] at h
  have:(a^^^b)%2=1:=of_decide_eq_true h
  omega
 ·rw [c,d] at h
  have:¬(a^^^b)%2=1:=of_decide_eq_false h
  omega
theorem qsq (a b:Nat):zr (a^^^b)=zr a^^^zr b:=by
 unfold zr
 have hm:=q74 a b
 rw [q73]
 rcases adt a with c|c<;>rcases adt b with d|d
 ·rw [if_neg (by omega),if_neg (by omega),if_neg (by omega)]
 ·rw [if_pos (by omega),if_neg (by omega),if_pos (by omega),aea]
 ·rw [if_pos (by omega),if_pos (by omega),if_neg (by omega),aea,aea,agS Ba]
 ·rw [if_neg (by omega),if_pos (by omega),if_pos (by omega)]
  rw [aea,agS Ba,aea,Nat.xor_self,Nat.xor_zero]
theorem KA (h:Nat):zr (2*h)=h:=by unfold zr;rw [if_neg (by omega)];omega
def q1v (k c:Nat):c=(2^k*(c/2^k))^^^ (c%2^k):=by
 apply afY
 intro i
 rw [ae8,Nat.testBit_mod_two_pow,Nat.testBit_two_pow_mul,Nat.testBit_div_two_pow]
 by_cases h:i<k
 ·simp [h,Nat.not_le.2 h]
 ·simp [h,Nat.le_of_not_lt h]
theorem VJ (c:Nat):qG c=zr (zr (zr (zr c))):=by
 have h:=q1v 4 c
 conv=>rhs;rw [h]
 simp only [qsq]
 rw [show 2^4*(c/2^4)=2*(2*(2*(2*(c/16)))) by omega,KA,KA,KA,KA]
 unfold qG
 congr 1
 have a:c%2^4<16:=Nat.mod_lt _ (by decide)
 show sw.getD (c%2^4) 0=_
 generalize c%2^4=y at a
 have:∀y,y<16→sw.getD y 0=zr (zr (zr (zr y))):=by decide
 exact this y a
theorem qsr (c x:Nat):Dj c x=xJ (c^^^x):=by unfold Dj xJ;rw [VJ,VJ]
theorem ER {a b:Nat} (c:a<4294967296) (hb:b<4294967296):a^^^b<4294967296:=Nat.xor_lt_two_pow (n:=32) c hb
theorem qyb (h:c<4294967296):zr c<4294967296:=by
 unfold zr
 split
 ·exact ER (by omega) (by decide)
 ·omega
theorem zei (h:c<4294967296):xJ c<4294967296:=by grind [qyb,xJ]
def qss {x:Nat} (hc:c<4294967296) (a:x<256):Dj c x<4294967296:=by
 rw [qsr];exact zei (ER hc (by omega))
theorem KC:∀(l:List Nat) {c:Nat},c<4294967296→(∀x∈l,x<256)→zg c l<4294967296
 |[],_,h,_=>h
 |x::l,_,h,a=>KC l (qss h (a x List.mem_cons_self)) (λy b=>a y (List.mem_cons_of_mem _ b))
theorem q75 (h:c<4294967296):c^^^4294967295=4294967295-c:=by
 apply afY
 intro i
 rw [show 4294967295-c=2^32- (c+1) by omega,ae8,Nat.testBit_two_pow_sub_succ (by omega),show (4294967295:Nat)=2^32-1 from rfl,Nat.testBit_two_pow_sub_one]
 by_cases hi:i<32
 ·simp [hi]
 ·have:c.testBit i=false:=Nat.testBit_lt_two_pow (Nat.lt_of_lt_of_le h (Nat.pow_le_pow_right (n:=2) (by decide) (by omega:32≤i)))
  simp [hi,this]
end Go.Proofs.YtekiimhdnigmcaaGreatDoor
