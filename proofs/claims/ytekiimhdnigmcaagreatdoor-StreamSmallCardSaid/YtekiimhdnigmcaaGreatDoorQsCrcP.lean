/- A part of the proof. -/
import Derived.Test.YtekiimhdnigmcaaGreatDoorQsMem
namespace Go.Proofs.YtekiimhdnigmcaaGreatDoor
def yR:Nat:=3988292384
def zg (c:Nat):Nat:=if c%2=1 then (c/2)^^^yR else c/2
def pI:List Nat:=[0,498536548,997073096,651767980,1994146192,1802195444,1303535960,1342533948,3988292384,4027552580,3604390888,3412177804,2607071920,2262029012,2685067896,3183342108]
def nJ (c:Nat):Nat:=(c/16)^^^ (pI.getD (c%16) 0)
def yS (c x:Nat):Nat:=nJ (nJ (c^^^x))
def qt (c:Nat) (l:List Nat):Nat:=l.foldl yS c
def qo (l:List Nat):Nat:=4294967295-qt 4294967295 l
def bS (y:Nat):Nat:=zg (zg (zg (zg (zg (zg (zg (zg y)))))))
theorem q0r (a b:Nat):(a^^^b)/2=a/2^^^b/2:=by
 have:=Nat.shiftRight_xor_distrib (a:=a) (b:=b) (i:=1)
 simpa [Nat.shiftRight_eq_div_pow] using this
theorem q0s (a b:Nat):(a^^^b)%2=(a+b)%2:=by
 have h:(a^^^b).testBit 0=((a.testBit 0)^^ (b.testBit 0)):=Nat.testBit_xor ..
 rw [Nat.testBit_zero,Nat.testBit_zero,Nat.testBit_zero] at h
 rcases Nat.mod_two_eq_zero_or_one a with ha|ha<;>rcases Nat.mod_two_eq_zero_or_one b with hb|hb
 ·rw [ha,hb] at h
  have:¬(a^^^b)%2=1:=of_decide_eq_false h
  omega
 ·rw [ha,hb] at h
  have:(a^^^b)%2=1:=of_decide_eq_true h
  omega
 ·rw [ha,hb] at h
  have:(a^^^b)%2=1:=of_decide_eq_true h
  omega
 ·rw [ha,hb] at h
  have:¬(a^^^b)%2=1:=of_decide_eq_false h
  omega
theorem SY (a b:Nat):zg (a^^^b)=zg a^^^zg b:=by
 unfold zg
 have hm:=q0s a b
 rw [q0r]
 rcases Nat.mod_two_eq_zero_or_one a with ha|ha<;>rcases Nat.mod_two_eq_zero_or_one b with hb|hb
 ·rw [if_neg (by omega),if_neg (by omega),if_neg (by omega)]
 ·rw [if_pos (by omega),if_neg (by omega),if_pos (by omega),Nat.xor_assoc]
 ·rw [if_pos (by omega),if_pos (by omega),if_neg (by omega),Nat.xor_assoc,Nat.xor_assoc,Nat.xor_comm yR]
 ·rw [if_neg (by omega),if_pos (by omega),if_pos (by omega)]
  rw [Nat.xor_assoc,Nat.xor_comm yR,Nat.xor_assoc,Nat.xor_self,Nat.xor_zero]
theorem Eo (h:Nat):zg (2*h)=h:=by unfold zg;rw [if_neg (by omega)];omega
theorem S9 (k c:Nat):c=(2^k*(c/2^k))^^^ (c%2^k):=by
 apply Nat.eq_of_testBit_eq
 intro i
 rw [Nat.testBit_xor,Nat.testBit_mod_two_pow,Nat.testBit_two_pow_mul,Nat.testBit_div_two_pow]
 by_cases h:i<k
 ·simp [h,Nat.not_le.2 h]
 ·simp [h,Nat.le_of_not_lt h]
theorem Ta (c:Nat):nJ c=zg (zg (zg (zg c))):=by
 have h:=S9 4 c
 conv=>rhs;rw [h]
 simp only [SY]
 rw [show 2^4*(c/2^4)=2*(2*(2*(2*(c/16)))) by omega,Eo,Eo,Eo,Eo]
 unfold nJ
 congr 1
 have hl:c%2^4<16:=Nat.mod_lt _ (by decide)
 show pI.getD (c%2^4) 0=_
 generalize c%2^4=y at hl
 have:∀y,y<16→pI.getD y 0=zg (zg (zg (zg y))):=by decide
 exact this y hl
theorem Tc (c x:Nat):yS c x=bS (c^^^x):=by unfold yS bS;rw [Ta,Ta]
theorem q0t (a b:Nat):bS (a^^^b)=bS a^^^bS b:=by unfold bS;simp only [SY]
theorem qwj (h:Nat):bS (256*h)=h:=by
 unfold bS
 rw [show 256*h=2*(2*(2*(2*(2*(2*(2*(2*h))))))) by omega]
 simp only [Eo]
theorem qkm (c x:Nat):yS c x=(c/256)^^^bS ((c%256)^^^x):=by
 rw [Tc]
 have h:=S9 8 c
 conv=>lhs;rw [h]
 rw [Nat.xor_assoc,q0t,show 2^8*(c/2^8)=256*(c/256) from rfl,qwj]
theorem Ep {a b:Nat} (ha:a<4294967296) (hb:b<4294967296):a^^^b<4294967296:=Nat.xor_lt_two_pow (n:=32) ha hb
theorem wX {c:Nat} (h:c<4294967296):zg c<4294967296:=by
 unfold zg
 split
 ·exact Ep (by omega) (by decide)
 ·omega
theorem Td {c:Nat} (h:c<4294967296):bS c<4294967296:=by
 unfold bS
 exact wX (wX (wX (wX (wX (wX (wX (wX h)))))))
theorem qqi {c x:Nat} (hc:c<4294967296) (hx:x<256):yS c x<4294967296:=by
 rw [Tc];exact Td (Ep hc (by omega))
theorem Er:∀(l:List Nat) {c:Nat},c<4294967296→(∀x∈l,x<256)→qt c l<4294967296
 |[],_,h,_=>h
 |x::l,_,h,hl=>Er l (qqi h (hl x List.mem_cons_self)) (fun y hy=>hl y (List.mem_cons_of_mem _ hy))
theorem q0u {c:Nat} (h:c<4294967296):c^^^4294967295=4294967295-c:=by
 apply Nat.eq_of_testBit_eq
 intro i
 rw [show 4294967295-c=2^32- (c+1) by omega,Nat.testBit_xor,Nat.testBit_two_pow_sub_succ (by omega),show (4294967295:Nat)=2^32-1 from rfl,Nat.testBit_two_pow_sub_one]
 by_cases hi:i<32
 ·simp [hi]
 ·have:c.testBit i=false:=Nat.testBit_lt_two_pow (Nat.lt_of_lt_of_le h (Nat.pow_le_pow_right (n:=2) (by decide) (by omega:32≤i)))
  simp [hi,this]
def bC (l:List Nat):List Nat:=(l.reverse.dropWhile (· ==0)).reverse
theorem Mg (l:List Nat):bC (l++[0])=bC l:=by simp [bC]
theorem Te {l:List Nat} {x:Nat} (h:x≠0):bC (l++[x])=l++[x]:=by simp [bC,h]
def Es (p:Nat):List Nat:=bC ((List.range 64).map fun i=>p/2^i%2)
def gB (a b:List Nat) (s i:Nat):Nat:=if s≤i∧i-s<b.length then (a.getD i 0+b.getD (i-s) 0)%2 else a.getD i 0
def gN (a b:List Nat) (s:Nat):List Nat:=bC ((List.range (max a.length (b.length+s))).map (gB a b s))
def dK:Nat→List Nat→List Nat→List Nat
 |0,a,_=>a
 |f+1,a,b=>if b.length≤a.length then dK f (gN a b (a.length-b.length)) b else a
def bitsOf (y:Nat):List Nat:=bC ((List.range 40).map fun i=>if 32≤i then y/2^ (39-i)%2 else 0)
def lu:List Nat:=Es 4374732215
def Mh (r:List Nat):Nat:=((List.range r.length).map fun k=>if r.getD k 0=1 then 2^ (31-k) else 0).sum
def kG (y:Nat):Nat:=Mh (dK 41 (bitsOf y) lu)
theorem q0v:((List.range 16).all fun y=>kG (y+0)==bS (y+0))=true:=by decide+kernel
theorem q0w:((List.range 16).all fun y=>kG (y+16)==bS (y+16))=true:=by decide+kernel
theorem q0x:((List.range 16).all fun y=>kG (y+32)==bS (y+32))=true:=by decide+kernel
theorem q0y:((List.range 16).all fun y=>kG (y+48)==bS (y+48))=true:=by decide+kernel
theorem q0z:((List.range 16).all fun y=>kG (y+64)==bS (y+64))=true:=by decide+kernel
theorem q00:((List.range 16).all fun y=>kG (y+80)==bS (y+80))=true:=by decide+kernel
theorem q01:((List.range 16).all fun y=>kG (y+96)==bS (y+96))=true:=by decide+kernel
theorem q02:((List.range 16).all fun y=>kG (y+112)==bS (y+112))=true:=by decide+kernel
theorem q03:((List.range 16).all fun y=>kG (y+128)==bS (y+128))=true:=by decide+kernel
theorem q04:((List.range 16).all fun y=>kG (y+144)==bS (y+144))=true:=by decide+kernel
theorem qwm:((List.range 16).all fun y=>kG (y+160)==bS (y+160))=true:=by decide+kernel
theorem qwn:((List.range 16).all fun y=>kG (y+176)==bS (y+176))=true:=by decide+kernel
theorem qwo:((List.range 16).all fun y=>kG (y+192)==bS (y+192))=true:=by decide+kernel
theorem qwp:((List.range 16).all fun y=>kG (y+208)==bS (y+208))=true:=by decide+kernel
theorem qwq:((List.range 16).all fun y=>kG (y+224)==bS (y+224))=true:=by decide+kernel
theorem qwr:((List.range 16).all fun y=>kG (y+240)==bS (y+240))=true:=by decide+kernel
theorem Tf (y:Nat) (hy:y<256):kG y=bS y:=by
 have key:∀k,(((List.range 16).all fun y=>kG (y+k)==bS (y+k))=true)→k≤y→y<k+16→kG y=bS y:=fun k h h1 h2=>by
  have:=eq_of_beq (List.all_eq_true.1 h (y-k) (List.mem_range.2 (by omega)))
  rwa [Nat.sub_add_cancel h1] at this
 by_cases h0:y<16
 ·exact key 0 q0v (by omega) (by omega)
 by_cases h1:y<32
 ·exact key 16 q0w (by omega) (by omega)
 by_cases h2:y<48
 ·exact key 32 q0x (by omega) (by omega)
 by_cases h3:y<64
 ·exact key 48 q0y (by omega) (by omega)
 by_cases h4:y<80
 ·exact key 64 q0z (by omega) (by omega)
 by_cases h5:y<96
 ·exact key 80 q00 (by omega) (by omega)
 by_cases h6:y<112
 ·exact key 96 q01 (by omega) (by omega)
 by_cases h7:y<128
 ·exact key 112 q02 (by omega) (by omega)
 by_cases h8:y<144
 ·exact key 128 q03 (by omega) (by omega)
 by_cases h9:y<160
 ·exact key 144 q04 (by omega) (by omega)
 by_cases h10:y<176
 ·exact key 160 qwm (by omega) (by omega)
 by_cases h11:y<192
 ·exact key 176 qwn (by omega) (by omega)
 by_cases h12:y<208
 ·exact key 192 qwo (by omega) (by omega)
 by_cases IB:y<224
 ·exact key 208 qwp (by omega) (by omega)
 by_cases h14:y<240
 ·exact key 224 qwq (by omega) (by omega)
 by_cases h15:y<256
 ·exact key 240 qwr (by omega) (by omega)
 omega
end Go.Proofs.YtekiimhdnigmcaaGreatDoor
