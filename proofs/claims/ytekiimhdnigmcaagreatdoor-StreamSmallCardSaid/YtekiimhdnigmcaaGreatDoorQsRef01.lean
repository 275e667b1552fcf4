/- A part of the proof. -/
import Derived.Test.YtekiimhdnigmcaaGreatDoorQsVarRead
namespace Go.Proofs.YtekiimhdnigmcaaGreatDoor
open Go.RowKit
def q6t (w:World) (x0:Nat) (x v:Value) (wr:World):Prop:=
 ∃(k f y:Nat),(gq 10 x0).drop k=gq (f+1) y∧k≤10∧y<18446744073709551616∧y<128^ (f+1)∧x= .int .u64 (y:Int)∧
  wr.ownsRow w.heap.size 5 1 v k (((ak x0).take k).map B8)∧Below w.heap.size w wr
set_option maxRecDepth 100000 in
set_option maxHeartbeats 400000 in
theorem Kw (x:Nat) (w:World) (hx:x<18446744073709551616):
  Calls Tryz.prog 92 #[.int .u64 (x:Int)] w fun e w'=>∃v,e= .returned v∧w'.ownsRow w.heap.size 5 1 v (ak x).length ((ak x).map B8)∧Below w.heap.size w w':=by
 go_enter Tryz.func92,Tryz.ntmps92
 go_wp2
 go_loopw [0,3] (q6t w x) (fun i _ _=>(intOf i).toNat)
 case atStart=>exact ⟨0,9,x,rfl,by omega,hx,by omega,rfl,by simpa using World.ownsRow_nil _ _ _ _,Below.refl _ _⟩
 case round=>
  obtain ⟨k,f,y,hd,hk,hy,Xq,rfl,hown,hb⟩:=hrel
  by_cases hlt:y<128
  ·rw [wH f y hlt] at hd
   obtain ⟨hkl,hg,hr⟩:=Hu hd
   have hv:(ak x)[k]?=some (gW (y,false)):=by unfold ak;rw [List.getElem?_map,List.getElem?_eq_getElem hkl,hg];rfl
   have HX:=hide (Hq B8 hv)
   have HL:=hide (show (ak x).length=k+1 by have:=List.drop_eq_nil_iff.1 hr;unfold ak;rw [List.length_map];omega)
   clear hd hg hr hv
   go_wp2_with (at_builtin;refine BR rfl rfl aB (hown.alloc _) rfl (Rd.one wr _ _) rfl (by simp [Value.oneCell']) (by omega) (by omega) (by simp;have:=hb.size;omega) ?_;intro A2 c2 w1 hown1 iH l8)
   go_ret
   refine ⟨_,rfl,?_,(hb.alloc hb.size _).grown iH (by simp;have:=hb.size;omega) (fun g hg=>(hown.lt g hg).1)⟩
   rw [HL.out]
   have h1:=HX.out
   rw [List.take_of_length_le (i:=k+1) (by rw [HL.out];omega)] at h1
   rw [←h1]
   exact hown1
  ·have hfp:0<f:=by
    rcases Nat.eq_zero_or_pos f with h|h
    ·subst h;simp at Xq;omega
    ·exact h
   obtain ⟨f,rfl⟩:∃g,f=g+1:=⟨f-1,by omega⟩
   rw [uN (f+1) y (by omega)] at hd
   obtain ⟨hkl,hg,hr⟩:=Hu hd
   have hv:(ak x)[k]?=some (gW (y%128,true)):=by unfold ak;rw [List.getElem?_map,List.getElem?_eq_getElem hkl,hg];rfl
   have HX:=hide (Hq B8 hv)
   have HR:=hide hr
   have hgl:=Du 10 x
   have hyq:128≤(y:Int):=by omega
   clear hd hg hr hv
   go_wp2_with (at_builtin;refine BR rfl rfl aB (hown.alloc _) rfl (Rd.one wr _ _) rfl (by simp [Value.oneCell']) (by omega) (by omega) (by simp;have:=hb.size;omega) ?_;intro A2 c2 w1 hown1 iH l8)
   refine ⟨⟨k+1,f,y/128,HR.out,by omega,by omega,?_,by simp,?_,(hb.alloc hb.size _).grown iH (by simp;have:=hb.size;omega) (fun g hg=>(hown.lt g hg).1)⟩,by simp [intOf];omega⟩
   ·rw [Nat.pow_succ] at Xq;omega
   ·rw [←HX.out]
    have e1:B8 (gW (y%128,true))= .int .u8 (128+(y:Int)%128):=by unfold B8 gW;simp;omega
    rw [e1]
    exact hown1
def q6u (n:Nat) (l:List Nat) (x t i:Value):Prop:=
 ∃k acc:Nat,k≤n∧k<10∧acc<128^k∧x= .int .u64 (acc:Int)∧t= .int .u64 ((128^k:Nat):Int)∧i= .int .i64 (k:Int)∧av l=jg k acc (l.drop k)
set_option maxRecDepth 100000 in
theorem Oz (acc y t k:Nat) (ht:t=128^k) (hacc:acc<128^k) (hk:k<10) (hy:y<128) (h9:k=9→y≤1):
  IntKind.u64.wrap ((acc:Int)+IntKind.u64.wrap ((y:Int)*(t:Int)))=((acc+y*128^k:Nat):Int):=by
 subst ht
 have hz:y*128^k+128^k≤18446744073709551616:=by
  by_cases h:k=9
  ·have:=h9 h
   have h1:y*128^k≤1*128^k:=Nat.mul_le_mul_right _ (by omega)
   have:=DV k (by omega)
   omega
  ·have h1:y*128^k≤127*128^k:=Nat.mul_le_mul_right _ (by omega)
   have h2:(128:Nat)^k≤128^8:=Nat.pow_le_pow_right (by omega) (by omega)
   have h3:(128:Nat)^8=72057594037927936:=by decide
   omega
 have e2:(y:Int)*((128^k:Nat):Int)=((y*128^k:Nat):Int):=by simp
 rw [e2,IntKind.wrap_u64,IntKind.wrap_u64]
 have hp:0<128^k:=Nat.pow_pos (by omega)
 omega
set_option maxRecDepth 100000 in
set_option maxHeartbeats 400000 in
theorem Xt (A:Option Addr) (n c B:Nat) (l:List Nat) (w:World) (hr:Rd w B 1 A n (l.map B8)) (hl:∀b∈l,b<256) (hn:n≤140737488355328):
  Calls Tryz.prog 137 #[.slice A n c] w fun e w'=>e= .returned (.tuple #[.int .u64 ((av l).1:Int),.int .i64 ((av l).2.1:Int),.int .i64 ((av l).2.2:Int)])∧w'=w:=by
 have hlen:l.length=n:=by simpa using hr.len
 go_enter Tryz.func137,Tryz.ntmps137
 go_wp2
 go_loop [5,6,7] (q6u n l) (fun _ _ i=>10- (intOf i).toNat)
 case atStart=>exact ⟨0,0,by omega,by omega,by omega,rfl,rfl,rfl,rfl⟩
 case round =>
  obtain ⟨k,acc,hk,hk10,hacc,rfl,rfl,rfl,hv⟩:=hrel
  have Xu:(k:Int)<10:=by omega
  by_cases hlt:k<n
  ·obtain ⟨ad,rfl,hbl,hl',hcell⟩:=hr.at hlt
   have hx:=hl _ (List.getElem_mem (by omega:k<l.length))
   simp only [List.getElem_map] at hcell
   rw [List.drop_eq_getElem_cons (by omega:k<l.length)] at hv
   generalize l[k]=y at hcell hx hv
   unfold B8 at hcell
   rw [jg] at hv
   have Hv:=hide hv
   have ht:=DV k (by omega)
   obtain ⟨t,Ht⟩:∃t,Hid (t=128^k):=⟨128^k,hide rfl⟩
   rw [←Ht.out] at ht⊢
   clear hv
   have hkn:((k:Int)==(n:Int))=false:=by rw [beq_eq_false_iff_ne];omega
   by_cases h9:k=9
   ·have qM:((k:Int)==9)=true:=by rw [beq_iff_eq];omega
    have h9a:9≤k:=by omega
    clear h9
    by_cases hy1:y<2
    ·have HO:=hide (Oz acc y t k Ht.out hacc hk10 (by omega) (by omega))
     go_wp2
     all_goals go_ret3
     all_goals refine ⟨?_,rfl⟩
     ·rw [Hv.out,if_neg (by omega),if_pos (by omega)];rfl
     ·rw [Hv.out,if_neg (by omega),if_neg (by omega),if_pos (by omega)];simp [HO.out]
    ·go_wp2
     go_ret3
     exact ⟨by rw [Hv.out,if_pos (by omega)];rfl,rfl⟩
   ·have qM:((k:Int)==9)=false:=by rw [beq_eq_false_iff_ne];omega
    have h9a:k<9:=by omega
    clear h9
    by_cases hy1:y<128
    ·have HO:=hide (Oz acc y t k Ht.out hacc hk10 (by omega) (by omega))
     go_wp2
     all_goals go_ret3
     all_goals refine ⟨?_,rfl⟩
     ·rw [Hv.out,if_neg (by omega),if_pos (by omega)];rfl
     ·have e0:y=0:=by omega
      have e1:IntKind.u64.wrap (acc:Int)=(acc:Int):=by have:=DV k (by omega);rw [IntKind.wrap_u64];omega
      rw [Hv.out,if_neg (by omega),if_neg (by omega),if_pos (by omega)];simp [e0,e1]
     ·rw [Hv.out,if_neg (by omega),if_neg (by omega),if_pos (by omega)];simp [HO.out]
    ·have HO:=hide (Oz acc (y-128) t k Ht.out hacc hk10 (by omega) (by omega))
     go_wp2
     refine ⟨⟨k+1,acc+(y-128)*128^k,by omega,by omega,?_,?_,?_,by go_num,?_⟩,by simp [intOf];omega⟩
     ·have:=Lv acc (y-128) k hacc
      rwa [show (y-128)%128=y-128 by omega] at this
     ·have h1:=HO.out
      rw [show ((y-128:Nat):Int)=(y:Int)-128 by omega] at h1
      rw [h1]
     ·have h1:t≤72057594037927936:=by rw [Ht.out];exact Nat.le_trans (Nat.pow_le_pow_right (by omega) (show k≤8 by omega)) (by decide)
      rw [Nat.pow_succ,←Ht.out,IntKind.wrap_u64]
      congr 1
      omega
     ·rw [Hv.out,if_neg (by omega),if_neg (by omega),if_neg (by omega)]
  ·have hkn:((k:Int)==(n:Int))=true:=by rw [beq_iff_eq];omega
   rw [List.drop_eq_nil_of_le (by omega)] at hv
   have Hv:=hide hv
   clear hv
   go_wp2
   go_ret3
   exact ⟨by rw [Hv.out];rfl,rfl⟩
end Go.Proofs.YtekiimhdnigmcaaGreatDoor
