/- A part of the proof. -/
import Derived.Test.YtekiimhdnigmcaaGreatDoorQtMem
namespace Go.Proofs.YtekiimhdnigmcaaGreatDoor
def M6:Nat:=3988292384
def zo (c:Nat):Nat:=if c%2=1 then (c/2)^^^M6 else c/2
def xU:List Nat:=[0,498536548,997073096,651767980,1994146192,1802195444,1303535960,1342533948,3988292384,4027552580,3604390888,3412177804,2607071920,2262029012,2685067896,3183342108]
def uX (c:Nat):Nat:=(c/16)^^^ (xU.getD (c%16) 0)
def Ho (c x:Nat):Nat:=uX (uX (c^^^x))
def qw (c:Nat) (l:List Nat):Nat:=l.foldl Ho c
def qu (l:List Nat):Nat:=4294967295-qw 4294967295 l
def dY (y:Nat):Nat:=zo (zo (zo (zo (zo (zo (zo (zo y)))))))
theorem q46 (a b:Nat):(a^^^b)/2=a/2^^^b/2:=by
 have:=Nat.shiftRight_xor_distrib (a:=a) (b:=b) (i:=1)
 simpa [Nat.shiftRight_eq_div_pow] using this
theorem q47 (a b:Nat):(a^^^b)%2=(a+b)%2:=by
 have h:(a^^^b).testBit 0=((a.testBit 0)^^ (b.testBit 0)):=Nat.testBit_xor ..
 rw [Nat.testBit_zero,Nat.testBit_zero,Nat.testBit_zero] at h
 rcases Nat.mod_two_eq_zero_or_one a with ha|ha<;>rcases Nat.mod_two_eq_zero_or_one b with hb|hb
 ·rw [ha,hb] at h
  have:¬(a^^^b)%2=1:=of_decide_eq_false h
  omega
 ·rw [ha,hb] at h
  have:(a^^^b)%2=1:=of_decide_eq_true h
  omega
 ·rw [ha,hb] at h
  have:(a^^^b)%2=1:=of_decide_eq_true h
  omega
 ·rw [ha,hb] at h
  have:¬(a^^^b)%2=1:=of_decide_eq_false h
  omega
theorem qjh (a b:Nat):zo (a^^^b)=zo a^^^zo b:=by
 unfold zo
 have hm:=q47 a b
 rw [q46]
 rcases Nat.mod_two_eq_zero_or_one a with ha|ha<;>rcases Nat.mod_two_eq_zero_or_one b with hb|hb
 ·rw [if_neg (by omega),if_neg (by omega),if_neg (by omega)]
 ·rw [if_pos (by omega),if_neg (by omega),if_pos (by omega),Nat.xor_assoc]
 ·rw [if_pos (by omega),if_pos (by omega),if_neg (by omega),Nat.xor_assoc,Nat.xor_assoc,Nat.xor_comm M6]
 ·rw [if_neg (by omega),if_pos (by omega),if_pos (by omega)]
  rw [Nat.xor_assoc,Nat.xor_comm M6,Nat.xor_assoc,Nat.xor_self,Nat.xor_zero]
theorem M7 (h:Nat):zo (2*h)=h:=by unfold zo;rw [if_neg (by omega)];omega
theorem qoy (k c:Nat):c=(2^k*(c/2^k))^^^ (c%2^k):=by
 apply Nat.eq_of_testBit_eq
 intro i
 rw [Nat.testBit_xor,Nat.testBit_mod_two_pow,Nat.testBit_two_pow_mul,Nat.testBit_div_two_pow]
 by_cases h:i<k
 ·simp [h,Nat.not_le.2 h]
 ·simp [h,Nat.le_of_not_lt h]
theorem q8m (c:Nat):uX c=zo (zo (zo (zo c))):=by
 have h:=qoy 4 c
 conv=>rhs;rw [h]
 simp only [qjh]
 rw [show 2^4*(c/2^4)=2*(2*(2*(2*(c/16)))) by omega,M7,M7,M7,M7]
 unfold uX
 congr 1
 have hl:c%2^4<16:=Nat.mod_lt _ (by decide)
 show xU.getD (c%2^4) 0=_
 generalize c%2^4=y at hl
 have:∀y,y<16→xU.getD y 0=zo (zo (zo (zo y))):=by decide
 exact this y hl
theorem qji (c x:Nat):Ho c x=dY (c^^^x):=by unfold Ho dY;rw [q8m,q8m]
theorem q48 (a b:Nat):dY (a^^^b)=dY a^^^dY b:=by unfold dY;simp only [qjh]
theorem qze (h:Nat):dY (256*h)=h:=by
 unfold dY
 rw [show 256*h=2*(2*(2*(2*(2*(2*(2*(2*h))))))) by omega]
 simp only [M7]
theorem qks (c x:Nat):Ho c x=(c/256)^^^dY ((c%256)^^^x):=by
 rw [qji]
 have h:=qoy 8 c
 conv=>lhs;rw [h]
 rw [Nat.xor_assoc,q48,show 2^8*(c/2^8)=256*(c/256) from rfl,qze]
theorem M8 {a b:Nat} (ha:a<4294967296) (hb:b<4294967296):a^^^b<4294967296:=Nat.xor_lt_two_pow (n:=32) ha hb
theorem qwp {c:Nat} (h:c<4294967296):zo c<4294967296:=by
 unfold zo
 split
 ·exact M8 (by omega) (by decide)
 ·omega
theorem qzf {c:Nat} (h:c<4294967296):dY c<4294967296:=by grind [qwp,dY]
theorem qrq {c x:Nat} (hc:c<4294967296) (hx:x<256):Ho c x<4294967296:=by
 rw [qji];exact qzf (M8 hc (by omega))
theorem M9:∀(l:List Nat) {c:Nat},c<4294967296→(∀x∈l,x<256)→qw c l<4294967296
 |[],_,h,_=>h
 |x::l,_,h,hl=>M9 l (qrq h (hl x List.mem_cons_self)) (fun y hy=>hl y (List.mem_cons_of_mem _ hy))
theorem q49 {c:Nat} (h:c<4294967296):c^^^4294967295=4294967295-c:=by
 apply Nat.eq_of_testBit_eq
 intro i
 rw [show 4294967295-c=2^32- (c+1) by omega,Nat.testBit_xor,Nat.testBit_two_pow_sub_succ (by omega),show (4294967295:Nat)=2^32-1 from rfl,Nat.testBit_two_pow_sub_one]
 by_cases hi:i<32
 ·simp [hi]
 ·have:c.testBit i=false:=Nat.testBit_lt_two_pow (Nat.lt_of_lt_of_le h (Nat.pow_le_pow_right (n:=2) (by decide) (by omega:32≤i)))
  simp [hi,this]
def bE (l:List Nat):List Nat:=(l.reverse.dropWhile (· ==0)).reverse
theorem V8 (l:List Nat):bE (l++[0])=bE l:=by simp [bE]
theorem qk5 {l:List Nat} {x:Nat} (h:x≠0):bE (l++[x])=l++[x]:=by simp [bE,h]
def Na (p:Nat):List Nat:=bE ((List.range 64).map fun i=>p/2^i%2)
def jC (a b:List Nat) (s i:Nat):Nat:=if s≤i∧i-s<b.length then (a.getD i 0+b.getD (i-s) 0)%2 else a.getD i 0
def jX (a b:List Nat) (s:Nat):List Nat:=bE ((List.range (max a.length (b.length+s))).map (jC a b s))
def gq:Nat→List Nat→List Nat→List Nat
 |0,a,_=>a
 |f+1,a,b=>if b.length≤a.length then gq f (jX a b (a.length-b.length)) b else a
def bitsOf (y:Nat):List Nat:=bE ((List.range 40).map fun i=>if 32≤i then y/2^ (39-i)%2 else 0)
def rF:List Nat:=Na 4374732215
def V9 (r:List Nat):Nat:=((List.range r.length).map fun k=>if r.getD k 0=1 then 2^ (31-k) else 0).sum
def pO (y:Nat):Nat:=V9 (gq 41 (bitsOf y) rF)
theorem q5a:((List.range 16).all fun y=>pO (y+0)==dY (y+0))=true:=by decide+kernel
theorem q5b:((List.range 16).all fun y=>pO (y+16)==dY (y+16))=true:=by decide+kernel
theorem q5c:((List.range 16).all fun y=>pO (y+32)==dY (y+32))=true:=by decide+kernel
theorem q5d:((List.range 16).all fun y=>pO (y+48)==dY (y+48))=true:=by decide+kernel
theorem q5e:((List.range 16).all fun y=>pO (y+64)==dY (y+64))=true:=by decide+kernel
theorem q5f:((List.range 16).all fun y=>pO (y+80)==dY (y+80))=true:=by decide+kernel
theorem q5g:((List.range 16).all fun y=>pO (y+96)==dY (y+96))=true:=by decide+kernel
theorem q5h:((List.range 16).all fun y=>pO (y+112)==dY (y+112))=true:=by decide+kernel
theorem q5i:((List.range 16).all fun y=>pO (y+128)==dY (y+128))=true:=by decide+kernel
theorem q5j:((List.range 16).all fun y=>pO (y+144)==dY (y+144))=true:=by decide+kernel
theorem qzh:((List.range 16).all fun y=>pO (y+160)==dY (y+160))=true:=by decide+kernel
theorem qzi:((List.range 16).all fun y=>pO (y+176)==dY (y+176))=true:=by decide+kernel
theorem qzj:((List.range 16).all fun y=>pO (y+192)==dY (y+192))=true:=by decide+kernel
theorem qzk:((List.range 16).all fun y=>pO (y+208)==dY (y+208))=true:=by decide+kernel
theorem qzl:((List.range 16).all fun y=>pO (y+224)==dY (y+224))=true:=by decide+kernel
theorem qzm:((List.range 16).all fun y=>pO (y+240)==dY (y+240))=true:=by decide+kernel
theorem qo0 (y:Nat) (hy:y<256):pO y=dY y:=by
 have key:∀k,(((List.range 16).all fun y=>pO (y+k)==dY (y+k))=true)→k≤y→y<k+16→pO y=dY y:=fun k h h1 h2=>by
  have:=eq_of_beq (List.all_eq_true.1 h (y-k) (List.mem_range.2 (by omega)))
  rwa [Nat.sub_add_cancel h1] at this
 by_cases h0:y<16
 ·exact key 0 q5a (by omega) (by omega)
 by_cases h1:y<32
 ·exact key 16 q5b (by omega) (by omega)
 by_cases h2:y<48
 ·exact key 32 q5c (by omega) (by omega)
 by_cases h3:y<64
 ·exact key 48 q5d (by omega) (by omega)
 by_cases h4:y<80
 ·exact key 64 q5e (by omega) (by omega)
 by_cases h5:y<96
 ·exact key 80 q5f (by omega) (by omega)
 by_cases h6:y<112
 ·exact key 96 q5g (by omega) (by omega)
 by_cases h7:y<128
 ·exact key 112 q5h (by omega) (by omega)
 by_cases h8:y<144
 ·exact key 128 q5i (by omega) (by omega)
 by_cases h9:y<160
 ·exact key 144 q5j (by omega) (by omega)
 by_cases h10:y<176
 ·exact key 160 qzh (by omega) (by omega)
 by_cases h11:y<192
 ·exact key 176 qzi (by omega) (by omega)
 by_cases h12:y<208
 ·exact key 192 qzj (by omega) (by omega)
 by_cases h13:y<224
 ·exact key 208 qzk (by omega) (by omega)
 by_cases h14:y<240
 ·exact key 224 qzl (by omega) (by omega)
 by_cases h15:y<256
 ·exact key 240 qzm (by omega) (by omega)
 omega
end Go.Proofs.YtekiimhdnigmcaaGreatDoor
