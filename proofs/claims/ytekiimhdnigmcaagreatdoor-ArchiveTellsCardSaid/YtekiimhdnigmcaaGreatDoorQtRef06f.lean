/- A part of the proof. -/
import Derived.Test.YtekiimhdnigmcaaGreatDoorQtRef06e
namespace Go.Proofs.YtekiimhdnigmcaaGreatDoor
open Go.RowKit
def Bz (e:Ev) (k:Nat):List Nat:=(upTo e.kind k).map fun i=>(e.iy i).toNat
def zes (e:Ev) (base:Nat) (w1:World) (v i:Value) (wr:World):Prop:=
 ∃k n:Nat,k≤7∧i= .int .i64 (k:Int)∧n=(Bz e k).length∧n≤7∧wr.ownsRow base 41 1 v n ((Bz e k).map aR)∧Below base w1 wr
set_option maxRecDepth 100000 in
set_option maxHeartbeats 2000000 in
theorem qqp (e:Ev) (he:e.Ok) (w:World):
  Calls Tryz.prog 246 #[.agg e.cells] w (sI w e.check e.zb):=by
 have hev:=iP.new w e 242
 have hb1:Below w.heap.size w (w.alloc (.cells e.cells 242)):=(Below.refl _ _).alloc (Nat.le_refl _) _
 have HC:=hide (qj9 e he (w.alloc (.cells e.cells 242)))
 have Z:=hide (fun i (hi:i<7) W=>Zd e he i hi W)
 have HH:=hide (fun i (hi:i<7) W=>qqm e.kind i hi he.kind W)
 have hsz:(w.alloc (.cells e.cells 242)).heap.size=w.heap.size+1:=by simp
 unfold Ev.cells at*
 by_cases hk:e.check=0
 ·have hne:((e.check:Int) !=0)=false:=by rw [bne_eq_false_iff_eq];omega
  have HK:=hide (show e.zb=e.vals by unfold Ev.zb;rw [if_pos hk])
  have HN:=hide (fun i (hi:i∈aJ e.kind)=>U4 he hk hi)
  have HKK:=hide hk
  clear hk
  go_enter Tryz.func246,Tryz.ntmps246
  go_wp2_with (go_at_call 245;refine HC.out.mono ?_;rintro r w1 ⟨rfl,hb2⟩)
  have dG:=hev.below hb2 (by omega)
  have hb3:=hb1.trans (hb2.mono (by omega))
  have hs1:=hb2.size
  clear hev hb1
  go_loopw [5,6] (zes e (w.heap.size+1) w1) (fun _ i _=>7- (intOf i).toNat)
  case atStart=>exact ⟨0,0,by omega,rfl,rfl,by omega,World.ownsRow_nil _ _ _ _,Below.refl _ _⟩
  case round=>
   obtain ⟨k,n,hk,rfl,hn,hn7,hown,hb⟩:=hrel
   have Es:=dG.below hb (by omega)
   obtain ⟨m0,m1,m2,m3,m4,m5,m6,m7,m8,m9,m10⟩:=id Es
   have hsr:=hb.size
   have HL:=hide hn
   clear hn
   by_cases hlt:k<7
   ·have og:=HH.out k hlt
    have L6:=Z.out k hlt
    have Zf:=q7j e.kind (k+1) (by omega)
    have hlt':(k:Int)<7:=by omega
    by_cases hc:(aJ e.kind).contains k=true
    ·rw [hc] at og
     have uT:=HN.out k (by simpa using hc)
     have og:=hide og
     have HY:=hide (show Bz e (k+1)=Bz e k++[(e.iy k).toNat] by unfold Bz;rw [qvp hc,List.map_append];rfl)
     have hl8:n+1≤7:=by
      rw [qvp hc,List.length_append] at Zf
      rw [HL.out];unfold Bz;rw [List.length_map];simpa using Zf
     have Qd:∀W,Hid (Calls Tryz.prog 290 _ W fun r w'=>r= .returned (.tuple #[.int .u64 (((e.iy k).toNat:Nat):Int),.bool (decide (0≤e.iy k))])∧Below W.heap.size W w'):=
      fun W=>hide ((L6 W).mono fun r w' h=>⟨by rw [←uT];exact h.ret,h.below⟩)
     clear hc uT L6
     generalize (e.iy k).toNat=y at Qd HY
     go_wp2_with (first|(go_at_call 288;refine (og.out _).mono ?_;rintro r w2 ⟨rfl,rfl⟩)|(go_at_call 290;refine (Qd _).out.mono ?_;rintro r w3 ⟨rfl,hb4⟩)|(at_builtin;refine R4 rfl rfl qt ((((hb4|>gF.of_below).keep (Nat.zero_le _)).ownsRow hown (by simp)).alloc _) rfl (Rd.one w3 _ _) rfl (by simp [Value.oneCell']) (by omega) (by omega) (by simp;have:=hb4.size;omega) ?_;intro A2 c2 w4 hown1 pG xL))
     refine ⟨⟨k+1,n+1,by omega,by go_num,?_,hl8,?_,((hb.trans (hb4.mono (by omega))).alloc (by have:=hb4.size;omega) _).grown pG (by simp;have:=hb4.size;omega) (fun g hg=>(hown.lt g hg).1)⟩,by simp [intOf];omega⟩
     ·rw [HY.out,List.length_append,←HL.out];rfl
     ·rw [HY.out,List.map_append];exact hown1
    ·have hcf:(aJ e.kind).contains k=false:=by simpa using hc
     rw [hcf] at og
     have og:=hide og
     have HY:=hide (show Bz e (k+1)=Bz e k by unfold Bz;rw [zb3 hcf])
     clear hc hcf
     go_wp2_with (go_at_call 288;refine (og.out _).mono ?_;rintro r w2 ⟨rfl,rfl⟩)
     exact ⟨⟨k+1,n,by omega,by go_num,by rw [HY.out];exact HL.out,hn7,by rw [HY.out];exact hown,hb⟩,by simp [intOf];omega⟩
   ·have hge:(7:Int)≤(k:Int):=by omega
    have h7:k=7:=by omega
    have HV:=hide (show Bz e k=e.vals by unfold Bz Ev.vals;rw [h7,zer])
    clear h7
    go_wp2
    go_ret2
    have h1:=HKK.out
    have h2:=HL.out
    rw [HV.out] at hown h2
    rw [h2] at hown
    refine ⟨⟨_,by rw [h1];rfl,?_⟩,hb3.trans (hb.mono (by omega))⟩
    rw [HK.out]
    exact R3 hown (by omega)
 ·have hne:((e.check:Int) !=0)=true:=by rw [bne_iff_ne];omega
  have HK:=hide (show e.zb=[] by unfold Ev.zb;rw [if_neg hk])
  clear hk
  go_enter Tryz.func246,Tryz.ntmps246
  go_wp2_with (go_at_call 245;refine HC.out.mono ?_;rintro r w1 ⟨rfl,hbw⟩)
  go_ret2
  exact ⟨⟨_,rfl,by rw [HK.out];exact World.ownsRow_nil _ _ _ _⟩,hb1.trans (hbw.mono (by omega))⟩
end Go.Proofs.YtekiimhdnigmcaaGreatDoor
