/- A part of the proof. -/
import Derived.Test.YtekiimhdnigmcaaGreatDoorQtRef06c
namespace Go.Proofs.YtekiimhdnigmcaaGreatDoor
open Go.RowKit
structure Ep (w:World) (full:Bool) (r:Ending) (w':World):Prop where
 ret:∃s:ByteArray,r= .returned (.string s)∧s.toList.isEmpty= !full
 below:Below w.heap.size w w'
set_option maxRecDepth 100000 in
set_option maxHeartbeats 2000000 in
theorem qxm (k:Nat) (hk:k<256) (w:World):
  Calls Tryz.prog 287 #[.int .u8 (k:Int)] w (Ep w (decide (1≤k∧k≤10))):=by
 by_cases h:10<k
 ·have h':(10:Int)<(k:Int):=by omega
  have H:=hide (show decide (1≤k∧k≤10)=false by simp;omega)
  rw [H.out]
  clear h
  go_enter Tryz.func287,Tryz.ntmps287
  go_wp2
  go_ret
  exact ⟨⟨_,rfl,by rw [ByteArray.toList_eq];rfl⟩,Below.refl _ _⟩
 ·obtain rfl|rfl|rfl|rfl|rfl|rfl|rfl|rfl|rfl|rfl|rfl:k=0∨k=1∨k=2∨k=3∨k=4∨k=5∨k=6∨k=7∨k=8∨k=9∨k=10:=by omega
  all_goals
   go_enter Tryz.func287,Tryz.ntmps287
   go_wp2
   go_ret
   exact ⟨⟨_,rfl,by rw [ByteArray.toList_eq];rfl⟩,(Below.refl _ _).alloc (Nat.le_refl _) _⟩
def q9i (P:Nat→Bool) (b:Nat) (w1:World) (i:Value) (wr:World):Prop:=
 ∃k:Nat,k≤7∧i= .int .i64 (k:Int)∧(List.range k).all P=true∧Below b w1 wr
theorem qxn (l:List Nat) (hl:∀i∈l,i<7) (P:Nat→Bool):(List.range 7).all (fun i=> !(l.contains i&& !P i))=l.all P:=by
 rw [Bool.eq_iff_iff,List.all_eq_true,List.all_eq_true]
 constructor
 ·intro h i hi
  have:=h i (by simp;exact hl i hi)
  simpa [hi] using this
 ·intro h i _
  by_cases hi:i∈l
  ·simp [hi,h i hi]
  ·simp [hi]
structure Er (w:World) (n:Nat) (r:Ending) (w':World):Prop where
 ret:r= .returned (.int .i64 (n:Int))
 below:Below w.heap.size w w'
set_option maxRecDepth 100000 in
set_option maxHeartbeats 2000000 in
theorem qj9 (e : Ev) (he : e.Ok) (w : World) :
  Calls Tryz.prog 245 #[.agg e.cells] w (Er w e.check):=by
 have hev:=iP.new w e 242
 have hb1:Below w.heap.size w (w.alloc (.cells e.cells 242)):=(Below.refl _ _).alloc (Nat.le_refl _) _
 have HN:=hide (fun W=>qxm e.kind he.kind W)
 have Z:=hide (fun i (hi:i<7) W=>Zd e he i hi W)
 have HW:=hide (fun (hc:e.cpu<64) i (hi:i<7) W=>qqn e he hc i hi W)
 have HH:=hide (fun i (hi:i<7) W=>qqm e.kind i hi he.kind W)
 have HZ:=hide (fun i=>qtt he i)
 have hsz:(w.alloc (.cells e.cells 242)).heap.size=w.heap.size+1:=by simp
 have h3:=hev.kind
 unfold Ev.cells at*
 by_cases hk:e.kind=0∨10<e.kind
 ·have HC:=hide (show e.check=60 by unfold Ev.check;rw [if_pos hk])
  have hd:Hid (decide (1≤e.kind∧e.kind≤10)=false):=hide (by simp;omega)
  rw [hd.out] at HN
  clear hk
  go_enter Tryz.func245,Tryz.ntmps245
  go_wp2_with (go_at_call 287;refine (HN.out _).mono ?_;rintro r w1 ⟨⟨s,rfl,hs0⟩,hb2⟩;have hs:s.toList.isEmpty=true:=hs0;clear hs0;have dG:=hev.below hb2 (by omega);obtain ⟨k0,k1,k2,k3,k4,k5,k6,k7,k8,k9,k10⟩:=id dG)
  go_ret
  exact ⟨by rw [HC.out];rfl,hb1.trans (hb2.mono (by omega))⟩
 ·have hd : Hid (decide (1 ≤ e.kind ∧ e.kind ≤ 10) = true) := hide (by simp; omega)
  rw [hd.out] at HN
  by_cases hr:e.seq<1∨281474976710656<e.seq∨e.time<0∨281474976710656<e.time∨64≤e.cpu
  ·have hck:e.check=61:=by unfold Ev.check;rw [if_neg hk,if_pos hr]
   have HC:=hide hck
   have hcase:(e.seq<1)∨(1≤e.seq∧281474976710656<e.seq)∨(1≤e.seq∧e.seq≤281474976710656∧e.time<0)∨(1≤e.seq∧e.seq≤281474976710656∧0≤e.time∧281474976710656<e.time)∨(1≤e.seq∧e.seq≤281474976710656∧0≤e.time∧e.time≤281474976710656∧(63:Int)<e.cpu):=by omega
   clear hck hk hr
   rcases hcase with a1|⟨a1,a2⟩|⟨a1,a2,a3⟩|⟨a1,a2,a3,a4⟩|⟨a1,a2,a3,a4,a5⟩
   all_goals
    go_enter Tryz.func245,Tryz.ntmps245
    go_wp2_with (go_at_call 287;refine (HN.out _).mono ?_;rintro r w1 ⟨⟨s,rfl,hs0⟩,hb2⟩;have hs:s.toList.isEmpty=false:=hs0;clear hs0;have dG:=hev.below hb2 (by omega);obtain ⟨k0,k1,k2,k3,k4,k5,k6,k7,k8,k9,k10⟩:=id dG)
    go_ret
    exact ⟨by rw [HC.out];rfl,hb1.trans (hb2.mono (by omega))⟩
  ·have hr1 : 1 ≤ e.seq := by omega
   have hr2:e.seq≤281474976710656:=by omega
   have hr3:0≤e.time:=by omega
   have hr4:e.time≤281474976710656:=by omega
   have hr5:(e.cpu:Int)≤63:=by omega
   have HR:=hide hr
   have HK:=hide hk
   clear hr hk
   go_enter Tryz.func245,Tryz.ntmps245
   go_wp2_with (go_at_call 287;refine (HN.out _).mono ?_;rintro r w1 ⟨⟨s,rfl,hs0⟩,hb2⟩;have hs:s.toList.isEmpty=false:=hs0;clear hs0;have dG:=hev.below hb2 (by omega);obtain ⟨k0,k1,k2,k3,k4,k5,k6,k7,k8,k9,k10⟩:=id dG)
   have hb3:=hb1.trans (hb2.mono (by omega))
   have hs1:=hb2.size
   clear k0 k1 k2 k3 k4 k5 k6 k7 k8 k9 k10 h3 hb1 hev
   go_loopw [3] (q9i (fun i=> !((aJ e.kind).contains i&& !e.within i)) (w.heap.size+1) w1) (fun i _=>7- (intOf i).toNat)
   case atStart=>exact ⟨0,by omega,rfl,by simp,Below.refl _ _⟩
   case round =>
    obtain ⟨k,WW,rfl,hall,hbr⟩:=hrel
    have Es:=dG.below hbr (by omega)
    obtain ⟨m0,m1,m2,m3,m4,m5,m6,m7,m8,m9,m10⟩:=id Es
    have hsr:=hbr.size
    by_cases hlt:k<7
    ·have HQ:=hide (List.range_succ (n:=k))
     have HA:=hide hall
     have og:=hide (HH.out k hlt wr)
     have Us:=hide (HW.out (by omega) k hlt wr)
     have hlt':(k:Int)<7:=by omega
     clear hall
     by_cases hc:(aJ e.kind).contains k=true
     ·rw [hc] at og
      by_cases hw:e.within k=true
      ·rw [hw] at Us
       go_wp2_with (first|(go_at_call 288;refine og.out.mono ?_;rintro r w2 ⟨rfl,rfl⟩)|(go_at_call 289;refine Us.out.mono ?_;rintro r w2 ⟨rfl,hb4⟩))
       refine ⟨⟨k+1,by omega,by go_num,?_,hbr.trans (hb4.mono (by omega))⟩,by simp [intOf];omega⟩
       rw [HQ.out,List.all_append,HA.out];simp [hw]
      ·rw [show e.within k=false by simpa using hw] at Us
       go_wp2_with (first|(go_at_call 288;refine og.out.mono ?_;rintro r w2 ⟨rfl,rfl⟩)|(go_at_call 289;refine Us.out.mono ?_;rintro r w2 ⟨rfl,hb4⟩))
       go_ret
       refine ⟨?_,hb3.trans ((hbr.trans (hb4.mono (by omega))).mono (by omega))⟩
       have:e.check=61:=by
        have h61:(aJ e.kind).all e.within=false:=by rw [List.all_eq_false];exact ⟨k,by simpa using hc,by simpa using hw⟩
        unfold Ev.check;rw [if_neg HK.out,if_neg HR.out,if_pos h61]
       rw [this];rfl
     ·have hcf:(aJ e.kind).contains k=false:=by simpa using hc
      rw [hcf] at og
      go_wp2_with (go_at_call 288;refine og.out.mono ?_;rintro r w2 ⟨rfl,rfl⟩)
      refine ⟨⟨k+1,by omega,by go_num,?_,hbr⟩,by simp [intOf];omega⟩
      rw [HQ.out,List.all_append,HA.out];simp only [List.all_cons,List.all_nil,hcf];rfl
    ·have arh : (7 : Int) ≤ (k : Int) := by omega
     have EO:(aJ e.kind).all e.within=true:=by rw [←qxn _ (Sg e.kind)];rw [show k=7 by omega] at hall;exact hall
     have HA:=hide EO
     clear hall EO
     go_wp2
     clear m0 m1 m2 m3 m4 m5 m6 m7 m8 m9 m10 hlt WW
     obtain ⟨wo,rfl⟩:∃wo:World,wo=wr:=⟨_,rfl⟩
     go_loopw [4] (q9i (fun i=>decide (e.iy i=0)||(aJ e.kind).contains i) (w.heap.size+1) wo) (fun i _=>7- (intOf i).toNat)
     case atStart=>exact ⟨0,by omega,rfl,by simp,Below.refl _ _⟩
     case round =>
      obtain ⟨k2,WW,rfl,hall,hbq⟩:=hrel
      have wz:=Es.below hbq (by omega)
      obtain ⟨m0,m1,m2,m3,m4,m5,m6,m7,m8,m9,m10⟩:=id wz
      have hsq:=hbq.size
      by_cases hlt:k2<7
      ·have HQ:=hide (List.range_succ (n:=k2))
       have HB:=hide hall
       have L6:=hide (Z.out k2 hlt wr)
       have og:=HH.out k2 hlt
       have HZk:=hide (HZ.out k2)
       have hlt':(k2:Int)<7:=by omega
       clear hall
       by_cases hc:(aJ e.kind).contains k2=true
       ·rw [hc] at og
        have og:=hide og
        go_wp2_with (first|(go_at_call 290;refine L6.out.mono ?_;rintro r w2 ⟨rfl,hb4⟩;have hk2:=(wz.below hb4 wz.lt).kind)|(go_at_call 288;refine (og.out _).mono ?_;rintro r w3 ⟨rfl,rfl⟩))
        refine ⟨⟨k2+1,by omega,by go_num,?_,hbq.trans (hb4.mono (by omega))⟩,by simp [intOf];omega⟩
        rw [HQ.out,List.all_append,HB.out];simp only [List.all_cons,List.all_nil,hc];simp
       ·have hcf:(aJ e.kind).contains k2=false:=by simpa using hc
        rw [hcf] at og
        have og:=hide og
        by_cases hz:e.iy k2=0
        ·have hnz:(e.num k2 !=0)=false:=by simp [HZk.out,hz]
         have HZ0:=hide hz
         clear hz
         go_wp2_with (first|(go_at_call 290;refine L6.out.mono ?_;rintro r w2 ⟨rfl,hb4⟩;have hk2:=(wz.below hb4 wz.lt).kind)|(go_at_call 288;refine (og.out _).mono ?_;rintro r w3 ⟨rfl,rfl⟩))
         refine ⟨⟨k2+1,by omega,by go_num,?_,hbq.trans (hb4.mono (by omega))⟩,by simp [intOf];omega⟩
         rw [HQ.out,List.all_append,HB.out];simp [HZ0.out]
        ·have hnz:(e.num k2 !=0)=true:=by simp [HZk.out,hz]
         have HZ0:=hide hz
         clear hz
         go_wp2_with (first|(go_at_call 290;refine L6.out.mono ?_;rintro r w2 ⟨rfl,hb4⟩;have hk2:=(wz.below hb4 wz.lt).kind)|(go_at_call 288;refine (og.out _).mono ?_;rintro r w3 ⟨rfl,rfl⟩))
         go_ret
         refine ⟨?_,hb3.trans (((hbr.trans hbq).trans (hb4.mono (by omega))).mono (by omega))⟩
         have:e.check=62:=by
          have U2:(List.range 7).all (fun i=>decide (e.iy i=0)||(aJ e.kind).contains i)=false:=by
           rw [List.all_eq_false];exact ⟨k2,by simp;omega,by simp [HZ0.out];simpa using hcf⟩
          unfold Ev.check;rw [if_neg HK.out,if_neg HR.out,if_neg (by rw [HA.out];simp),if_pos U2]
         rw [this];rfl
      ·obtain rfl:k2=7:=by omega
       have HB:=hide hall
       clear hall
       go_wp2
       go_ret
       refine ⟨?_,hb3.trans ((hbr.trans hbq).mono (by omega))⟩
       have:e.check=0:=by
        unfold Ev.check;rw [if_neg HK.out,if_neg HR.out,if_neg (by rw [HA.out];simp),if_neg (by rw [HB.out];simp)]
       rw [this];rfl
end Go.Proofs.YtekiimhdnigmcaaGreatDoor
