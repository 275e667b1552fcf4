/- A part of the proof. -/
import Derived.Test.YtekiimhdnigmcaaGreatDoorQfMem
set_option linter.all false
namespace Go.Proofs.YtekiimhdnigmcaaGreatDoor
open Nat renaming mod_two_eq_zero_or_one→adk,xor_assoc→ad2,testBit_zero→aeU,testBit_xor→ae2,eq_of_testBit_eq→afT,xor_comm→agM
variable {c:Nat}
def AB:Nat:=3988292384
def zp (c:Nat):Nat:=if c%2=1 then (c/2)^^^AB else c/2
def rU:List Nat:=[0,498536548,997073096,651767980,1994146192,1802195444,1303535960,1342533948,3988292384,4027552580,3604390888,3412177804,2607071920,2262029012,2685067896,3183342108]
def qA (c:Nat):Nat:=(c/16)^^^ (rU.getD (c%16) 0)
def CU (c x:Nat):Nat:=qA (qA (c^^^x))
def zf (c:Nat) (l:List Nat):Nat:=l.foldl CU c
def zm (l:List Nat):Nat:=4294967295-zf 4294967295 l
def xk (y:Nat):Nat:=zp (zp (zp (zp (zp (zp (zp (zp y)))))))
theorem q7q (a b:Nat):(a^^^b)/2=a/2^^^b/2:=by
 have:=Nat.shiftRight_xor_distrib (a:=a) (b:=b) (i:=1)
 simpa [Nat.shiftRight_eq_div_pow] using this
def q7r (a b:Nat):(a^^^b)%2=(a+b)%2:=by
 have h:(a^^^b).testBit 0=((a.testBit 0)^^ (b.testBit 0)):=ae2 ..
 rw [aeU,aeU,aeU] at h
 rcases adk a with c|c<;>rcases adk b with d|d
 ·rw [c,d] at h
  have:¬(a^^^b)%2=1:=of_decide_eq_false h
  omega
 ·rw [c,d] at h
  have:(a^^^b)%2=1:=of_decide_eq_true h
  omega
 ·rw [c,d] at h
  have:(a^^^b)%2=1:=of_decide_eq_true h
  omega
 ·rw [c,d] at h
  have:¬(a^^^b)%2=1:=of_decide_eq_false h
  omega
theorem qsj (a b:Nat):zp (a^^^b)=zp a^^^zp b:=by
 unfold zp
 have hm:=q7r a b
 rw [q7q]
 rcases adk a with c|c<;>rcases adk b with d|d
 ·rw [if_neg (by omega),if_neg (by omega),if_neg (by omega)]
 ·rw [if_pos (by omega),if_neg (by omega),if_pos (by omega),ad2]
 ·rw [if_pos (by omega),if_pos (by omega),if_neg (by omega),ad2,ad2,agM AB]
 ·rw [if_neg (by omega),if_pos (by omega),if_pos (by omega)]
  rw [ad2,agM AB,ad2,Nat.xor_self,Nat.xor_zero]
theorem qc6 (h:Nat):zp (2*h)=h:=by unfold zp;rw [if_neg (by omega)];omega
def q1g (k c:Nat):c=(2^k*(c/2^k))^^^ (c%2^k):=by
 apply afT
 intro i
 rw [ae2,Nat.testBit_mod_two_pow,Nat.testBit_two_pow_mul,Nat.testBit_div_two_pow]
 by_cases h:i<k
 ·simp [h,Nat.not_le.2 h]
 ·simp [h,Nat.le_of_not_lt h]
theorem UK (c:Nat):qA c=zp (zp (zp (zp c))):=by
 have h:=q1g 4 c
 conv=>rhs;rw [h]
 simp only [qsj]
 rw [show 2^4*(c/2^4)=2*(2*(2*(2*(c/16)))) by omega,qc6,qc6,qc6,qc6]
 unfold qA
 congr 1
 have a:c%2^4<16:=Nat.mod_lt _ (by decide)
 show rU.getD (c%2^4) 0=_
 generalize c%2^4=y at a
 have:∀y,y<16→rU.getD y 0=zp (zp (zp (zp y))):=by decide
 exact this y a
theorem qsk (c x:Nat):CU c x=xk (c^^^x):=by unfold CU xk;rw [UK,UK]
theorem Ez {a b:Nat} (c:a<4294967296) (hb:b<4294967296):a^^^b<4294967296:=Nat.xor_lt_two_pow (n:=32) c hb
theorem qxy (h:c<4294967296):zp c<4294967296:=by
 unfold zp
 split
 ·exact Ez (by omega) (by decide)
 ·omega
theorem zd3 (h:c<4294967296):xk c<4294967296:=by grind [qxy,xk]
def qsl {x:Nat} (hc:c<4294967296) (a:x<256):CU c x<4294967296:=by
 rw [qsk];exact zd3 (Ez hc (by omega))
theorem Ki:∀(l:List Nat) {c:Nat},c<4294967296→(∀x∈l,x<256)→zf c l<4294967296
 |[],_,h,_=>h
 |x::l,_,h,a=>Ki l (qsl h (a x List.mem_cons_self)) (λy b=>a y (List.mem_cons_of_mem _ b))
theorem q7s (h:c<4294967296):c^^^4294967295=4294967295-c:=by
 apply afT
 intro i
 rw [show 4294967295-c=2^32- (c+1) by omega,ae2,Nat.testBit_two_pow_sub_succ (by omega),show (4294967295:Nat)=2^32-1 from rfl,Nat.testBit_two_pow_sub_one]
 by_cases hi:i<32
 ·simp [hi]
 ·have:c.testBit i=false:=Nat.testBit_lt_two_pow (Nat.lt_of_lt_of_le h (Nat.pow_le_pow_right (n:=2) (by decide) (by omega:32≤i)))
  simp [hi,this]
end Go.Proofs.YtekiimhdnigmcaaGreatDoor
