/- A part of the proof. -/
import Derived.Test.YtekiimhdnigmcaaGreatDoorQsCheck
namespace Go.Proofs.YtekiimhdnigmcaaGreatDoor
open Go.RowKit
def qvu (w:World) (kind:Nat) (v i:Value) (wr:World):Prop:=
 ∃k xs,k≤(aj kind).length∧i= .int .i64 (k:Int)∧wr.ownsRow w.heap.size 9 1 v k xs∧Below w.heap.size w wr
set_option maxRecDepth 100000 in
set_option maxHeartbeats 1000000 in
theorem qtl (kind:Nat) (hkd:kind<256) (B:Nat) (w:World) (hL:Laid B w) (hB:B≤w.heap.size):
  Calls Tryz.prog 317 #[.int .u8 (kind:Int)] w fun r w'=>∃v xs,r= .returned v∧w'.ownsRow w.heap.size 9 1 v (aj kind).length xs∧Below w.heap.size w w':=by
 by_cases hk:10<kind
 ·have hk':(10:Int)<(kind:Int):=by omega
  have hu:aj kind=[]:=by unfold aj;split<;>first|rfl|omega
  have HU:=hide hu
  clear hu
  go_enter Tryz.func317,Tryz.ntmps317
  go_wp2
  go_ret
  exact ⟨_,[],rfl,by rw [HU.out];exact World.ownsRow_nil _ _ _ _,Below.refl _ _⟩
 ·have hk':(kind:Int)≤10:=by omega
  obtain ⟨A,c,hu,kZ⟩:=hL.uses kind (by omega)
  have hlen:=qO kind
  go_enter Tryz.func317,Tryz.ntmps317
  go_wp2
  go_loopw [3,12] (qvu w kind) (fun _ i _=>(aj kind).length- (intOf i).toNat)
  case atStart=>exact ⟨0,[],by omega,rfl,World.ownsRow_nil _ _ _ _,Below.refl _ _⟩
  case round=>
   obtain ⟨k,xs,hk,rfl,hown,hb⟩:=hrel
   have iP:=hL.below hb hB
   by_cases hlt:k<(aj kind).length
   ·obtain ⟨ad,rfl,hbl,hl',hcell⟩:=(kZ.below (hb.mono hB)).at hlt
    simp only [List.getElem_map] at hcell
    have hi:=oG kind _ (List.getElem_mem hlt)
    generalize (aj kind)[k]=i at hcell hi
    unfold bn at hcell
    obtain ⟨s,hs⟩:=iP.names i hi
    go_wp2_with (at_builtin;refine BR rfl rfl Rn (hown.alloc _) rfl (Rd.one wr _ _) rfl (by simp [Value.oneCell']) (by omega) (by omega) (by simp;have:=hb.size;omega) ?_;intro A2 c2 w1 hown1 iH l8)
    refine ⟨⟨k+1,_,by omega,by go_num,hown1,(hb.alloc hb.size _).grown iH (by simp;have:=hb.size;omega) (fun g hg=>(hown.lt g hg).1)⟩,by simp [intOf];omega⟩
   ·obtain rfl:k=(aj kind).length:=by omega
    clear kZ
    go_wp2
    go_ret
    exact ⟨_,_,rfl,hown,hb⟩
def Ev.BS (i x:Nat):Value:=if i=5 then .int .u64 (x:Int) else .int .i64 (wrap64 (x:Int))
def Ev.fits (i x:Nat):Bool:=i=5||decide (0≤wrap64 (x:Int))
set_option maxRecDepth 100000 in
set_option maxHeartbeats 1000000 in
theorem RA (b i:Nat) (hi:i<7) (w:World):
  Calls Tryz.prog 307 #[.pointer (some ⟨b,0,none⟩),.int .i64 (i:Int)] w fun r w'=>r= .returned (.iface (if i=5 then 442 else 439) (.pointer (some ⟨b,4+i,none⟩)))∧w'=w:=by
 obtain rfl|rfl|rfl|rfl|rfl|rfl|rfl:i=0∨i=1∨i=2∨i=3∨i=4∨i=6∨i=5:=by omega
 all_goals
  go_enter Tryz.func307,Tryz.ntmps307
  go_wp2
  go_ret
  exact ⟨rfl,rfl⟩
set_option maxRecDepth 100000 in
set_option maxHeartbeats 1000000 in
theorem Lh (b i x:Nat) (hi:i<7) (w:World) (u:Value) (hb:w.cell? ⟨b,4+i,none⟩=some u) (hf:w.frozen? ⟨b,4+i,none⟩=false):
  Calls Tryz.prog 321 #[.pointer (some ⟨b,0,none⟩),.int .i64 (i:Int),.int .u64 (x:Int)] w fun r w'=>r= .returned (.bool (Ev.fits i x))∧w'=w.setCell ⟨b,4+i,none⟩ (Ev.BS i x):=by
 have t1:=Ru
 have t2:=Rv
 have t3:=Rx
 have hs:=World.cell?_setCell_same w ⟨b,4+i,none⟩ (.int .i64 (wrap64 (x:Int))) hb
 obtain rfl|rfl|rfl|rfl|rfl|rfl|rfl:i=0∨i=1∨i=2∨i=3∨i=4∨i=6∨i=5:=by omega
 case inr.inr.inr.inr.inr.inr=>
  go_enter Tryz.func321,Tryz.ntmps321
  go_wp2_with (go_at_call 307;refine (RA b 5 (by omega) _).mono ?_;rintro r w1 ⟨rfl,rfl⟩;simp only [reduceIte])
  go_ret
  exact ⟨by simp [Ev.fits],by simp [Ev.BS]⟩
 all_goals
  simp only [Nat.reduceAdd] at hs hb hf
  go_enter Tryz.func321,Tryz.ntmps321
  go_wp2_with (go_at_call 307;refine (RA b _ (by omega) _).mono ?_;rintro r w1 ⟨rfl,rfl⟩;simp only [reduceIte,Nat.reduceEqDiff])
  go_ret
  exact ⟨by simp [Ev.fits],by simp [Ev.BS]⟩
def q4a (e:Ev) (base:Nat) (w1:World) (v i:Value) (wr:World):Prop:=
 ∃k,k≤(aj e.kind).length∧i= .int .i64 (k:Int)∧wr.ownsRow base 41 1 v k ((e.vals.take k).map dB)∧Below base w1 wr
theorem nu {e:Ev} (h:e.check=0):(e.kind=0∨10<e.kind)=False∧(aj e.kind).all e.within=true∧e.cpu<64∧1≤e.seq∧e.seq≤281474976710656∧0≤e.time∧e.time≤281474976710656:=by
 unfold Ev.check at h
 split at h
 ·cases h
 ·split at h
  ·cases h
  ·split at h
   ·cases h
   ·rename_i h1 h2 h3
    exact ⟨by simp only [h1],by simpa using h3,by omega,by omega,by omega,by omega,by omega⟩
theorem zp {e:Ev}:∀{i:Nat},e.within i=true→0≤e.bJ i
 |0,h=>by simp only [Ev.within,decide_eq_true_eq] at h;show 0≤e.task;omega
 |1,h=>by simp only [Ev.within,decide_eq_true_eq] at h;show 0≤e.group;have:=h.1;split at this<;>omega
 |2,h=>by simp only [Ev.within,decide_eq_true_eq] at h;show 0≤e.to;omega
 |3,h=>by simp only [Ev.within,decide_eq_true_eq] at h;show 0≤e.weight;omega
 |4,h=>by simp only [Ev.within,decide_eq_true_eq] at h;show 0≤e.ticks;omega
 |5,_=>by show 0≤(e.mask:Int);omega
 |n+6,h=>by simp only [Ev.within,decide_eq_true_eq] at h;show 0≤e.got;have:=h.1;split at this<;>omega
theorem Li {e:Ev} (he:e.Ok) (h:e.check=0) {i:Nat} (hi:i∈aj e.kind):e.num i=(((e.bJ i).toNat:Nat):Int):=by
 have h1:=(nu h).2.1
 rw [List.all_eq_true] at h1
 have h0:=zp (h1 i hi)
 rw [H6 he i h0]
 omega
def Ev.qx (e:Ev):List Nat:=if e.check=0 then e.vals else []
structure l9 (w:World) (err:Nat) (xs:List Nat) (r:Ending) (w':World):Prop where
 ret:∃v,r= .returned (.tuple #[v,.int .i64 (err:Int)])∧w'.ownsRow w.heap.size 41 1 v xs.length (xs.map dB)
 below:Below w.heap.size w w'
set_option maxRecDepth 100000 in
set_option maxHeartbeats 1000000 in
theorem qtm (e:Ev) (he:e.Ok) (B:Nat) (w:World) (hL:Laid B w) (hB:B≤w.heap.size):
  Calls Tryz.prog 286 #[.agg e.cells] w (l9 w e.check e.qx):=by
 have hev:=eu.new w e 73
 have hb1:Below w.heap.size w (w.alloc (.cells e.cells 73)):=(Below.refl _ _).alloc (Nat.le_refl _) _
 have hL1:=hL.alloc hB (.cells e.cells 73)
 have HC:=hide (Dz e he B _ hL1 (by simp;omega))
 obtain ⟨h0,h1,h2,h3,h4,h5,h6,h7,h8,h9,h10⟩:=id hev
 unfold Ev.cells at*
 by_cases hk:e.check=0
 ·have hne:((e.check:Int) !=0)=false:=by rw [bne_eq_false_iff_eq];omega
  have HK:=hide (show e.qx=e.vals by unfold Ev.qx;rw [if_pos hk])
  have HN:=hide (fun i (hi:i∈aj e.kind)=>Li he hk hi)
  have hk10:e.kind≤10:=by have:=(nu hk).1;simp at this;omega
  have hlen:=qO e.kind
  have hvl:Hid (e.vals.length=(aj e.kind).length):=by unfold Ev.vals;rw [List.length_map];exact hide rfl
  have HKK:=hide hk
  clear hk
  go_enter Tryz.func286,Tryz.ntmps286
  go_wp2_with (go_at_call 243;refine HC.out.mono ?_;rintro r w1 ⟨rfl,hbw⟩;have hkind:=(hbw.cell (p:=⟨w.heap.size,3,none⟩) (by simp)).trans h3;obtain ⟨A,c,hu,kZ⟩:=(hL1.below hbw (by simp;omega)).uses e.kind (by omega))
  have hbz:w.heap.size+1≤w1.heap.size:=by have:=hbw.size;simpa using this
  have bK:=hev.below hbw (by simp)
  have hb2:Below w.heap.size w w1:=hb1.trans (hbw.mono (by simp))
  clear h0 h1 h2 h3 h4 h5 h6 h7 h8 h9 h10 hev hb1 HC hL1
  go_loopw [5,20] (q4a e (w.heap.size+1) w1) (fun _ i _=>(aj e.kind).length- (intOf i).toNat)
  case atStart=>exact ⟨0,by omega,rfl,World.ownsRow_nil _ _ _ _,Below.refl _ _⟩
  case round=>
   obtain ⟨k,hk,rfl,hown,hb⟩:=hrel
   by_cases hlt:k<(aj e.kind).length
   ·obtain ⟨ad,rfl,hbl,hl',hcell⟩:=(kZ.below (hb.mono (by omega))).at hlt
    simp only [List.getElem_map] at hcell
    have hi:=oG e.kind _ (List.getElem_mem hlt)
    have hm:(aj e.kind)[k]∈aj e.kind:=List.getElem_mem _
    have hq:e.vals[k]?=some (e.bJ (aj e.kind)[k]).toNat:=by unfold Ev.vals;rw [List.getElem?_map,List.getElem?_eq_getElem hlt];rfl
    have HX:=hide (Hq dB hq)
    clear hq
    generalize (aj e.kind)[k]=i at hcell hi hm HX
    unfold bn at hcell
    have lq:=HN.out i hm
    have HV:=hide (Hz e he w.heap.size i hi wr (bK.below hb (by omega)))
    rw [lq] at HV
    clear lq
    generalize (e.bJ i).toNat=y at HV HX
    go_wp2_with (first|(go_at_call 285;refine HV.out.mono ?_;rintro r w' ⟨rfl,nn,rfl⟩)|(at_builtin;refine BR rfl rfl qbv ((own_drewN hown nn).alloc _) rfl (Rd.one (wr.drewN nn) _ _) rfl (by simp [Value.oneCell']) (by omega) (by omega) (by simp;have:=hb.size;omega) ?_;intro A2 c2 w2 hown1 iH l8))
    refine ⟨⟨k+1,by omega,by go_num,by rw [←HX.out];exact hown1,((below_drewN hb nn).alloc (by simp;have:=hb.size;omega) _).grown iH (by simp;have:=hb.size;omega) (fun g hg=>(hown.lt g hg).1)⟩,by simp [intOf];omega⟩
   ·obtain rfl:k=(aj e.kind).length:=by omega
    clear kZ
    go_wp2
    go_ret2
    have h1:=HKK.out
    refine ⟨⟨_,by rw [h1];rfl,?_⟩,hb2.trans (hb.mono (by omega))⟩
    rw [HK.out,hvl.out]
    rw [List.take_of_length_le (by rw [hvl.out];omega)] at hown
    exact Ho hown (by omega)
 ·have hne:((e.check:Int) !=0)=true:=by rw [bne_iff_ne];omega
  have HK:=hide (show e.qx=[] by unfold Ev.qx;rw [if_neg hk])
  clear hk
  go_enter Tryz.func286,Tryz.ntmps286
  go_wp2_with (go_at_call 243;refine HC.out.mono ?_;rintro r w1 ⟨rfl,hbw⟩)
  go_ret2
  exact ⟨⟨_,rfl,by rw [HK.out];exact World.ownsRow_nil _ _ _ _⟩,hb1.trans (hbw.mono (by simp))⟩
end Go.Proofs.YtekiimhdnigmcaaGreatDoor
