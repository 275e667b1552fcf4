/- A part of the proof. -/
import Derived.Test.YtekiimhdnigmcaaGreatDoorQtCheck
namespace Go.Proofs.YtekiimhdnigmcaaGreatDoor
open Go.RowKit
def Ev.fits (i x:Nat):Bool:=i=5||decide (0≤wrap64 (x:Int))
def q95 (e:Ev) (base:Nat) (w1:World) (v i:Value) (wr:World):Prop:=
 ∃k,k≤(aJ e.kind).length∧i= .int .i64 (k:Int)∧wr.ownsRow base 41 1 v k ((e.vals.take k).map aR)∧Below base w1 wr
theorem EP {e:Ev} (h:e.check=0):(e.kind=0∨10<e.kind)=False∧(aJ e.kind).all e.within=true∧e.cpu<64∧1≤e.seq∧e.seq≤281474976710656∧0≤e.time∧e.time≤281474976710656:=by
 unfold Ev.check at h
 split at h
 ·cases h
 ·split at h
  ·cases h
  ·split at h
   ·cases h
   ·rename_i h1 h2 h3
    exact ⟨by simp only [h1],by simpa using h3,by omega,by omega,by omega,by omega,by omega⟩
theorem U3 {e:Ev}:∀{i:Nat},e.within i=true→0≤e.iy i
 |0,h=>by simp only [Ev.within,decide_eq_true_eq] at h;show 0≤e.task;omega
 |1,h=>by simp only [Ev.within,decide_eq_true_eq] at h;show 0≤e.group;have:=h.1;split at this<;>omega
 |2,h=>by simp only [Ev.within,decide_eq_true_eq] at h;show 0≤e.to;omega
 |3,h=>by simp only [Ev.within,decide_eq_true_eq] at h;show 0≤e.weight;omega
 |4,h=>by simp only [Ev.within,decide_eq_true_eq] at h;show 0≤e.ticks;omega
 |5,_=>by show 0≤(e.mask:Int);omega
 |n+6,h=>by simp only [Ev.within,decide_eq_true_eq] at h;show 0≤e.got;have:=h.1;split at this<;>omega
theorem U4 {e:Ev} (he:e.Ok) (h:e.check=0) {i:Nat} (hi:i∈aJ e.kind):e.num i=(((e.iy i).toNat:Nat):Int):=by
 have h1:=(EP h).2.1
 rw [List.all_eq_true] at h1
 have h0:=U3 (h1 i hi)
 rw [Sd he i h0]
 omega
def Ev.zb (e:Ev):List Nat:=if e.check=0 then e.vals else []
structure sI (w:World) (err:Nat) (xs:List Nat) (r:Ending) (w':World):Prop where
 ret:∃v,r= .returned (.tuple #[v,.int .i64 (err:Int)])∧w'.ownsRow w.heap.size 41 1 v xs.length (xs.map aR)
 below:Below w.heap.size w w'
set_option maxRecDepth 100000 in
set_option maxHeartbeats 1000000 in
theorem qwi (e:Ev) (he:e.Ok) (B:Nat) (w:World) (hL:Laid B w) (hB:B≤w.heap.size):
  Calls Tryz.prog 286 #[.agg e.cells] w (sI w e.check e.zb):=by
 have hev:=iP.new w e 73
 have hb1:Below w.heap.size w (w.alloc (.cells e.cells 73)):=(Below.refl _ _).alloc (Nat.le_refl _) _
 have hL1:=hL.alloc hB (.cells e.cells 73)
 have HC:=hide (qol e he B _ hL1 (by simp;omega))
 obtain ⟨h0,h1,h2,h3,h4,h5,h6,h7,h8,h9,h10⟩:=id hev
 unfold Ev.cells at*
 by_cases hk:e.check=0
 ·have hne:((e.check:Int) !=0)=false:=by rw [bne_eq_false_iff_eq];omega
  have HK:=hide (show e.zb=e.vals by unfold Ev.zb;rw [if_pos hk])
  have HN:=hide (fun i (hi:i∈aJ e.kind)=>U4 he hk hi)
  have hk10:e.kind≤10:=by have:=(EP hk).1;simp at this;omega
  have hlen:=Mw e.kind
  have hvl:Hid (e.vals.length=(aJ e.kind).length):=by unfold Ev.vals;rw [List.length_map];exact hide rfl
  have HKK:=hide hk
  clear hk
  go_enter Tryz.func286,Tryz.ntmps286
  go_wp2_with (go_at_call 243;refine HC.out.mono ?_;rintro r w1 ⟨rfl,hbw⟩;have hkind:=(hbw.cell (p:=⟨w.heap.size,3,none⟩) (by simp)).trans h3;obtain ⟨A,c,hu,Mx⟩:=(hL1.below hbw (by simp;omega)).uses e.kind (by omega))
  have hbz:w.heap.size+1≤w1.heap.size:=by have:=hbw.size;simpa using this
  have dG:=hev.below hbw (by simp)
  have hb2:Below w.heap.size w w1:=hb1.trans (hbw.mono (by simp))
  clear h0 h1 h2 h3 h4 h5 h6 h7 h8 h9 h10 hev hb1 HC hL1
  go_loopw [5,20] (q95 e (w.heap.size+1) w1) (fun _ i _=>(aJ e.kind).length- (intOf i).toNat)
  case atStart=>exact ⟨0,by omega,rfl,World.ownsRow_nil _ _ _ _,Below.refl _ _⟩
  case round=>
   obtain ⟨k,hk,rfl,hown,hb⟩:=hrel
   by_cases hlt:k<(aJ e.kind).length
   ·obtain ⟨ad,rfl,hbl,hl',hcell⟩:=(Mx.below (hb.mono (by omega))).at hlt
    simp only [List.getElem_map] at hcell
    have hi:=Sg e.kind _ (List.getElem_mem hlt)
    have hm:(aJ e.kind)[k]∈aJ e.kind:=List.getElem_mem _
    have hq:e.vals[k]?=some (e.iy (aJ e.kind)[k]).toNat:=by unfold Ev.vals;rw [List.getElem?_map,List.getElem?_eq_getElem hlt];rfl
    have HX:=hide (R5 aR hq)
    clear hq
    generalize (aJ e.kind)[k]=i at hcell hi hm HX
    unfold bI at hcell
    have uT:=HN.out i hm
    have HV:=hide (Sc e he w.heap.size i hi wr (dG.below hb (by omega)))
    rw [uT] at HV
    clear uT
    generalize (e.iy i).toNat=y at HV HX
    go_wp2_with (first|(go_at_call 285;refine HV.out.mono ?_;rintro r w' ⟨rfl,nn,rfl⟩)|(at_builtin;refine R4 rfl rfl qt ((own_drewN hown nn).alloc _) rfl (Rd.one (wr.drewN nn) _ _) rfl (by simp [Value.oneCell']) (by omega) (by omega) (by simp;have:=hb.size;omega) ?_;intro A2 c2 w2 hown1 pG xL))
    refine ⟨⟨k+1,by omega,by go_num,by rw [←HX.out];exact hown1,((below_drewN hb nn).alloc (by simp;have:=hb.size;omega) _).grown pG (by simp;have:=hb.size;omega) (fun g hg=>(hown.lt g hg).1)⟩,by simp [intOf];omega⟩
   ·obtain rfl:k=(aJ e.kind).length:=by omega
    clear Mx
    go_wp2
    go_ret2
    have h1:=HKK.out
    refine ⟨⟨_,by rw [h1];rfl,?_⟩,hb2.trans (hb.mono (by omega))⟩
    rw [HK.out,hvl.out]
    rw [List.take_of_length_le (by rw [hvl.out];omega)] at hown
    exact R3 hown (by omega)
 ·have hne:((e.check:Int) !=0)=true:=by rw [bne_iff_ne];omega
  have HK:=hide (show e.zb=[] by unfold Ev.zb;rw [if_neg hk])
  clear hk
  go_enter Tryz.func286,Tryz.ntmps286
  go_wp2_with (go_at_call 243;refine HC.out.mono ?_;rintro r w1 ⟨rfl,hbw⟩)
  go_ret2
  exact ⟨⟨_,rfl,by rw [HK.out];exact World.ownsRow_nil _ _ _ _⟩,hb1.trans (hbw.mono (by simp))⟩
end Go.Proofs.YtekiimhdnigmcaaGreatDoor
