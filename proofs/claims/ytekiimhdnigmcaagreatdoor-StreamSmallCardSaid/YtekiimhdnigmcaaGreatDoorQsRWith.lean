/- A part of the proof. -/
import Derived.Test.YtekiimhdnigmcaaGreatDoorQsRef06f
namespace Go.Proofs.YtekiimhdnigmcaaGreatDoor
open Go.RowKit
def Ev.fH (e:Ev) (l:List (Nat×Nat)):Ev:=l.foldl (fun e p=>e.dM p.1 p.2) e
def Ev.eG (e:Ev) (vs:List Nat):Ev:=e.base.fH ((aj e.kind).zip vs)
theorem qyl (o:Ev) (i x:Nat) (h5:i≠5) (hi:i<7):(o.dM i x).bJ i=Ev.rval x:=by unfold Ev.dM;exact RF o i _ x h5 hi
theorem qum (o:Ev) (i j x:Nat) (hi:i<7) (hj:j<7) (h:j≠i):(o.dM i x).bJ j=o.bJ j:=by unfold Ev.dM;exact RG o i j _ x hi hj h
theorem WU (j:Nat) (hj:j<7):∀(l:List (Nat×Nat)) (o:Ev),(∀p∈l,p.1<7∧p.1≠j)→(o.fH l).bJ j=o.bJ j
 |[],_,_=>rfl
 |p::l,o,h=>by
  have h1:=h p (by simp)
  have h2:=WU j hj l (o.dM p.1 p.2) (fun q hq=>h q (by simp [hq]))
  exact h2.trans (qum o p.1 j p.2 h1.1 hj (fun e=>h1.2 e.symm))
theorem WV (i x:Nat) (h5:i≠5):∀(l:List (Nat×Nat)) (o:Ev),(∀p∈l,p.1<7)→(l.map (·.1)).Nodup→(i,x)∈l→(o.fH l).bJ i=Ev.rval x
 |[],_,_,_,h=>by simp at h
 | p :: l, o, h7, hd, h => by
  rw [List.map_cons,List.nodup_cons] at hd
  rcases List.mem_cons.1 h with rfl|h
  ·have hi:i<7:=h7 (i,x) (by simp)
   have h2:=WU i hi l (o.dM i x) (fun q hq=>⟨h7 q (by simp [hq]),fun e=>hd.1 (by rw [←e];exact List.mem_map.2 ⟨q,hq,rfl⟩)⟩)
   exact h2.trans (qyl o i x h5 hi)
  ·exact WV i x h5 l (o.dM p.1 p.2) (fun q hq=>h7 q (by simp [hq])) hd.2 h
theorem qun (e:Ev) (vs:List Nat):(e.eG vs).kind=e.kind∧(e.eG vs).seq=e.seq∧(e.eG vs).time=e.time∧(e.eG vs).cpu=e.cpu:=by
 have:∀(l:List (Nat×Nat)) (o:Ev),(o.fH l).kind=o.kind∧(o.fH l).seq=o.seq∧(o.fH l).time=o.time∧(o.fH l).cpu=o.cpu:=by
  intro l
  induction l with
  |nil=>intro o;exact ⟨rfl,rfl,rfl,rfl⟩
  |cons p l ih=>
   intro o
   have h:=ih (o.dM p.1 p.2)
   have h2:(o.dM p.1 p.2).kind=o.kind∧(o.dM p.1 p.2).seq=o.seq∧(o.dM p.1 p.2).time=o.time∧(o.dM p.1 p.2).cpu=o.cpu:=by unfold Ev.dM Ev.jf;split<;>exact ⟨rfl,rfl,rfl,rfl⟩
   rw [h2.1,h2.2.1,h2.2.2.1,h2.2.2.2] at h
   exact h
 exact this _ _
theorem qym (o:Ev) (v v':Int) (m:Nat):o.jf 5 v m=o.jf 5 v' m:=rfl
theorem qo8 {x:Nat} (h:x<9223372036854775808):wrap64 (x:Int)=(x:Int):=by rw [←IntWalk.i64_left,IntKind.wrap_i64];omega
theorem q2e (o:Ev) (i x:Nat) (h:i=5∨x<4611686018427387904):o.dM i x=o.put i x:=by
 unfold Ev.dM Ev.put
 rcases h with rfl|h
 ·exact qym _ _ _ _
 ·rw [qo8 (by omega)]
  unfold Ev.rval
  rw [if_pos h]
theorem qyn {α β:Type} (f g:β→α→β) (l:List α):∀b,(∀p∈l,∀b,f b p=g b p)→l.foldl f b=l.foldl g b:=by
 induction l with
 |nil=>intro b _;rfl
 |cons p l ih=>intro b h;rw [List.foldl_cons,List.foldl_cons,h p List.mem_cons_self b];exact ih _ (fun q hq=>h q (List.mem_cons_of_mem _ hq))
def Small (p:Nat×Nat):Prop:=p.1=5∨p.2<4611686018427387904
theorem qyo (o:Ev) (p:Nat×Nat) (h:Small p):o.dM p.1 p.2=o.put p.1 p.2:=q2e o p.1 p.2 h
theorem qup (l:List (Nat×Nat)) (o:Ev) (h:∀p∈l,Small p):o.fH l=o.fill l:=
 qyn _ _ l o (fun p hp b=>qyo b p (h p hp))
theorem qo9 {e:Ev}:∀{i:Nat},i<7→i≠5→e.within i=true→e.bJ i≤4294967295
 |0,_,_,h=>by simp only [Ev.within,decide_eq_true_eq] at h;show e.task≤_;omega
 |1,_,_,h=>by simp only [Ev.within,decide_eq_true_eq] at h;show e.group≤_;omega
 |2,_,_,h=>by simp only [Ev.within,decide_eq_true_eq] at h;show e.to≤_;omega
 |3,_,_,h=>by simp only [Ev.within,decide_eq_true_eq] at h;show e.weight≤_;omega
 |4,_,_,h=>by simp only [Ev.within,decide_eq_true_eq] at h;show e.ticks≤_;omega
 |5,_,h5,_=>absurd rfl h5
 |n+6,_,_,h=>by simp only [Ev.within,decide_eq_true_eq] at h;show e.got≤_;omega
theorem quq {x:Nat} (h1:4611686018427387904≤x) (h2:x<18446744073709551616):wrap64 (x:Int)<0∨4611686018427387904≤wrap64 (x:Int):=by rw [←IntWalk.i64_left,IntKind.wrap_i64];omega
theorem qur (e:Ev) (vs:List Nat) (hn:vs.length=(aj e.kind).length) (hv:∀x∈vs,x<18446744073709551616):
  e.eG vs=e.made vs∨((e.eG vs).check≠0∧(e.made vs).check≠0):=by
 by_cases h:∀p∈(aj e.kind).zip vs,p.1=5∨p.2<4611686018427387904
 ·exact .inl (qup _ _ h)
 ·right
  simp only [Classical.not_forall,not_or] at h
  obtain ⟨⟨i,x⟩,hm,h5,hx⟩:=h
  have hi:=(List.of_mem_zip hm).1
  have h7:=oG _ _ hi
  have hx2:=hv x (List.of_mem_zip hm).2
  have hkeys:∀p∈(aj e.kind).zip vs,p.1<7:=fun p hp=>oG _ _ (List.of_mem_zip hp).1
  have hnd:(((aj e.kind).zip vs).map (·.1)).Nodup:=by rw [List.map_fst_zip (by omega)];exact Ia _
  have hr:(e.eG vs).bJ i=Ev.rval x:=WV i x h5 _ _ hkeys hnd hm
  have hf:(e.made vs).bJ i=wrap64 (x:Int):=DT i x h5 _ _ hkeys hnd hm
  constructor
  ·intro hc
   have hw:=(nu hc).2.1
   rw [(qun e vs).1,List.all_eq_true] at hw
   have h0:=zp (hw i hi)
   rw [hr] at h0
   unfold Ev.rval at h0
   rw [if_neg hx] at h0
   omega
  ·intro hc
   have hw:=(nu hc).2.1
   rw [(BX e vs).1,List.all_eq_true] at hw
   have h0:=zp (hw i hi)
   have h1:=qo9 h7 h5 (hw i hi)
   rw [hf] at h0 h1
   rcases quq (by omega) hx2 with h2|h2<;>omega
end Go.Proofs.YtekiimhdnigmcaaGreatDoor
