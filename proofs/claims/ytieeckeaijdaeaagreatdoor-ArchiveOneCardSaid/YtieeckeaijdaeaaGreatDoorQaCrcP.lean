/- A part of the proof. -/
import Derived.Test.YtieeckeaijdaeaaGreatDoorQaMem
namespace Go.Proofs.YtieeckeaijdaeaaGreatDoor
def Ct:Nat:=3988292384
def zh (c:Nat):Nat:=if c%2=1 then (c/2)^^^Ct else c/2
def rR:List Nat:=[0,498536548,997073096,651767980,1994146192,1802195444,1303535960,1342533948,3988292384,4027552580,3604390888,3412177804,2607071920,2262029012,2685067896,3183342108]
def o9 (c:Nat):Nat:=(c/16)^^^ (rR.getD (c%16) 0)
def EN (c x:Nat):Nat:=o9 (o9 (c^^^x))
def zc (c:Nat) (l:List Nat):Nat:=l.foldl EN c
def zi (l:List Nat):Nat:=4294967295-zc 4294967295 l
def yB (y:Nat):Nat:=zh (zh (zh (zh (zh (zh (zh (zh y)))))))
theorem qzk (a b:Nat):(a^^^b)/2=a/2^^^b/2:=by
 have:=Nat.shiftRight_xor_distrib (a:=a) (b:=b) (i:=1)
 simpa [Nat.shiftRight_eq_div_pow] using this
theorem qzl (a b:Nat):(a^^^b)%2=(a+b)%2:=by
 have h:(a^^^b).testBit 0=((a.testBit 0)^^ (b.testBit 0)):=Nat.testBit_xor ..
 rw [Nat.testBit_zero,Nat.testBit_zero,Nat.testBit_zero] at h
 rcases Nat.mod_two_eq_zero_or_one a with ha|ha<;>rcases Nat.mod_two_eq_zero_or_one b with hb|hb
 ·rw [ha,hb] at h
  have:¬(a^^^b)%2=1:=of_decide_eq_false h
  omega
 ·rw [ha,hb] at h
  have:(a^^^b)%2=1:=of_decide_eq_true h
  omega
 ·rw [ha,hb] at h
  have:(a^^^b)%2=1:=of_decide_eq_true h
  omega
 ·rw [ha,hb] at h
  have:¬(a^^^b)%2=1:=of_decide_eq_false h
  omega
theorem qo0 (a b:Nat):zh (a^^^b)=zh a^^^zh b:=by
 unfold zh
 have hm:=qzl a b
 rw [qzk]
 rcases Nat.mod_two_eq_zero_or_one a with ha|ha<;>rcases Nat.mod_two_eq_zero_or_one b with hb|hb
 ·rw [if_neg (by omega),if_neg (by omega),if_neg (by omega)]
 ·rw [if_pos (by omega),if_neg (by omega),if_pos (by omega),Nat.xor_assoc]
 ·rw [if_pos (by omega),if_pos (by omega),if_neg (by omega),Nat.xor_assoc,Nat.xor_assoc,Nat.xor_comm Ct]
 ·rw [if_neg (by omega),if_pos (by omega),if_pos (by omega)]
  rw [Nat.xor_assoc,Nat.xor_comm Ct,Nat.xor_assoc,Nat.xor_self,Nat.xor_zero]
theorem qc3 (h:Nat):zh (2*h)=h:=by unfold zh;rw [if_neg (by omega)];omega
theorem qvd (k c:Nat):c=(2^k*(c/2^k))^^^ (c%2^k):=by
 apply Nat.eq_of_testBit_eq
 intro i
 rw [Nat.testBit_xor,Nat.testBit_mod_two_pow,Nat.testBit_two_pow_mul,Nat.testBit_div_two_pow]
 by_cases h:i<k
 ·simp [h,Nat.not_le.2 h]
 ·simp [h,Nat.le_of_not_lt h]
theorem WO (c:Nat):o9 c=zh (zh (zh (zh c))):=by
 have h:=qvd 4 c
 conv=>rhs;rw [h]
 simp only [qo0]
 rw [show 2^4*(c/2^4)=2*(2*(2*(2*(c/16)))) by omega,qc3,qc3,qc3,qc3]
 unfold o9
 congr 1
 have hl:c%2^4<16:=Nat.mod_lt _ (by decide)
 show rR.getD (c%2^4) 0=_
 generalize c%2^4=y at hl
 have:∀y,y<16→rR.getD y 0=zh (zh (zh (zh y))):=by decide
 exact this y hl
theorem qo1 (c x:Nat):EN c x=yB (c^^^x):=by unfold EN yB;rw [WO,WO]
theorem G7 {a b:Nat} (ha:a<4294967296) (hb:b<4294967296):a^^^b<4294967296:=Nat.xor_lt_two_pow (n:=32) ha hb
theorem Av {c:Nat} (h:c<4294967296):zh c<4294967296:=by
 unfold zh
 split
 ·exact G7 (by omega) (by decide)
 ·omega
theorem q3s {c:Nat} (h:c<4294967296):yB c<4294967296:=by
 unfold yB
 exact Av (Av (Av (Av (Av (Av (Av (Av h)))))))
theorem qo2 {c x:Nat} (hc:c<4294967296) (hx:x<256):EN c x<4294967296:=by
 rw [qo1];exact q3s (G7 hc (by omega))
theorem Mt:∀(l:List Nat) {c:Nat},c<4294967296→(∀x∈l,x<256)→zc c l<4294967296
 |[],_,h,_=>h
 |x::l,_,h,hl=>Mt l (qo2 h (hl x List.mem_cons_self)) (fun y hy=>hl y (List.mem_cons_of_mem _ hy))
theorem qzm {c:Nat} (h:c<4294967296):c^^^4294967295=4294967295-c:=by
 apply Nat.eq_of_testBit_eq
 intro i
 rw [show 4294967295-c=2^32- (c+1) by omega,Nat.testBit_xor,Nat.testBit_two_pow_sub_succ (by omega),show (4294967295:Nat)=2^32-1 from rfl,Nat.testBit_two_pow_sub_one]
 by_cases hi:i<32
 ·simp [hi]
 ·have:c.testBit i=false:=Nat.testBit_lt_two_pow (Nat.lt_of_lt_of_le h (Nat.pow_le_pow_right (n:=2) (by decide) (by omega:32≤i)))
  simp [hi,this]
end Go.Proofs.YtieeckeaijdaeaaGreatDoor
