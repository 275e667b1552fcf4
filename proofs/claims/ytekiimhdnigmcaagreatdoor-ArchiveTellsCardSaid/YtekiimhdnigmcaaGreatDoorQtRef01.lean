/- A part of the proof. -/
import Derived.Test.YtekiimhdnigmcaaGreatDoorQtVarRead
namespace Go.Proofs.YtekiimhdnigmcaaGreatDoor
open Go.RowKit
def zey (w:World) (x0:Nat) (x v:Value) (wr:World):Prop:=
 ∃(k f y:Nat),(gG 10 x0).drop k=gG (f+1) y∧k≤10∧y<18446744073709551616∧y<128^ (f+1)∧x= .int .u64 (y:Int)∧
  wr.ownsRow w.heap.size 5 1 v k (((aj x0).take k).map B8)∧Below w.heap.size w wr
set_option maxRecDepth 100000 in
set_option maxHeartbeats 400000 in
theorem Uu (x:Nat) (w:World) (hx:x<18446744073709551616):
  Calls Tryz.prog 92 #[.int .u64 (x:Int)] w fun e w'=>∃v,e= .returned v∧w'.ownsRow w.heap.size 5 1 v (aj x).length ((aj x).map B8)∧Below w.heap.size w w':=by
 go_enter Tryz.func92,Tryz.ntmps92
 go_wp2
 go_loopw [0,3] (zey w x) (fun i _ _=>(intOf i).toNat)
 case atStart=>exact ⟨0,9,x,rfl,by omega,hx,by omega,rfl,by simpa using World.ownsRow_nil _ _ _ _,Below.refl _ _⟩
 case round=>
  obtain ⟨k,f,y,hd,hk,hy,hyf,rfl,hown,hb⟩:=hrel
  by_cases hlt:y<128
  ·rw [GR f y hlt] at hd
   obtain ⟨hkl,hg,hr⟩:=R6 hd
   have hv:(aj x)[k]?=some (j6 (y,false)):=by unfold aj;rw [List.getElem?_map,List.getElem?_eq_getElem hkl,hg];rfl
   have HX:=hide (R5 B8 hv)
   have HL:=hide (show (aj x).length=k+1 by have:=List.drop_eq_nil_iff.1 hr;unfold aj;rw [List.length_map];omega)
   clear hd hg hr hv
   go_wp2_with (at_builtin;refine R4 rfl rfl aL (hown.alloc _) rfl (Rd.one wr _ _) rfl (by simp [Value.oneCell']) (by omega) (by omega) (by simp;have:=hb.size;omega) ?_;intro A2 c2 w1 hown1 pG xL)
   go_ret
   refine ⟨_,rfl,?_,(hb.alloc hb.size _).grown pG (by simp;have:=hb.size;omega) (fun g hg=>(hown.lt g hg).1)⟩
   rw [HL.out]
   have h1:=HX.out
   rw [List.take_of_length_le (i:=k+1) (by rw [HL.out];omega)] at h1
   rw [←h1]
   exact hown1
  ·have hfp:0<f:=by
    rcases Nat.eq_zero_or_pos f with h|h
    ·subst h;simp at hyf;omega
    ·exact h
   obtain ⟨f,rfl⟩:∃g,f=g+1:=⟨f-1,by omega⟩
   rw [GU (f+1) y (by omega)] at hd
   obtain ⟨hkl,hg,hr⟩:=R6 hd
   have hv:(aj x)[k]?=some (j6 (y%128,true)):=by unfold aj;rw [List.getElem?_map,List.getElem?_eq_getElem hkl,hg];rfl
   have HX:=hide (R5 B8 hv)
   have HR:=hide hr
   have hgl:=R7 10 x
   have hyq:128≤(y:Int):=by omega
   clear hd hg hr hv
   go_wp2_with (at_builtin;refine R4 rfl rfl aL (hown.alloc _) rfl (Rd.one wr _ _) rfl (by simp [Value.oneCell']) (by omega) (by omega) (by simp;have:=hb.size;omega) ?_;intro A2 c2 w1 hown1 pG xL)
   refine ⟨⟨k+1,f,y/128,HR.out,by omega,by omega,?_,by simp,?_,(hb.alloc hb.size _).grown pG (by simp;have:=hb.size;omega) (fun g hg=>(hown.lt g hg).1)⟩,by simp [intOf];omega⟩
   ·rw [Nat.pow_succ] at hyf;omega
   ·rw [←HX.out]
    have e1:B8 (j6 (y%128,true))= .int .u8 (128+(y:Int)%128):=by unfold B8 j6;simp;omega
    rw [e1]
    exact hown1
end Go.Proofs.YtekiimhdnigmcaaGreatDoor
