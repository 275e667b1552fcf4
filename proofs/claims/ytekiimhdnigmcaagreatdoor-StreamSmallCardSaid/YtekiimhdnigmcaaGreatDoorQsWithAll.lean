/- A part of the proof. -/
import Derived.Test.YtekiimhdnigmcaaGreatDoorQsWithA
import Derived.Test.YtekiimhdnigmcaaGreatDoorQsWithB
import Derived.Test.YtekiimhdnigmcaaGreatDoorQsWithC
namespace Go.Proofs.YtekiimhdnigmcaaGreatDoor
open Go.RowKit
theorem Lr (k:Nat):k=1∨k=2∨k=3∨k=4∨k=5∨k=6∨k=7∨k=8∨k=9∨k=10∨(aj k=[]∧(k=0∨10<k)):=by
 by_cases h:k=0∨10<k
 ·have:aj k=[]:=by unfold aj;split<;>first|rfl|omega
  simp [this,h]
 ·omega
theorem BX (e:Ev) (vs:List Nat):(e.made vs).kind=e.kind∧(e.made vs).seq=e.seq∧(e.made vs).time=e.time∧(e.made vs).cpu=e.cpu:=by
 have:∀(l:List (Nat×Nat)) (o:Ev),(o.fill l).kind=o.kind∧(o.fill l).seq=o.seq∧(o.fill l).time=o.time∧(o.fill l).cpu=o.cpu:=by
  intro l
  induction l with
  |nil=>intro o;exact ⟨rfl,rfl,rfl,rfl⟩
  |cons p l ih=>
   intro o
   have h:=ih (o.put p.1 p.2)
   have h2:(o.put p.1 p.2).kind=o.kind∧(o.put p.1 p.2).seq=o.seq∧(o.put p.1 p.2).time=o.time∧(o.put p.1 p.2).cpu=o.cpu:=by unfold Ev.put Ev.jf;split<;>exact ⟨rfl,rfl,rfl,rfl⟩
   rw [h2.1,h2.2.1,h2.2.2.1,h2.2.2.2] at h
   exact h
 exact this _ _
theorem RF (o:Ev) (i:Nat) (v:Int) (m:Nat) (h5:i≠5) (hi:i<7):(o.jf i v m).bJ i=v:=by
 obtain rfl|rfl|rfl|rfl|rfl|rfl:i=0∨i=1∨i=2∨i=3∨i=4∨i=6:=by omega
 all_goals rfl
theorem RG (o:Ev) (i j:Nat) (v:Int) (m:Nat) (hi:i<7) (hj:j<7) (h:j≠i):(o.jf i v m).bJ j=o.bJ j:=by
 obtain rfl|rfl|rfl|rfl|rfl|rfl|rfl:i=0∨i=1∨i=2∨i=3∨i=4∨i=5∨i=6:=by omega
 all_goals
  obtain rfl|rfl|rfl|rfl|rfl|rfl|rfl:j=0∨j=1∨j=2∨j=3∨j=4∨j=5∨j=6:=by omega
  all_goals first|rfl|(exact absurd rfl h)
theorem q0j (o:Ev) (i x:Nat) (h5:i≠5) (hi:i<7):(o.put i x).bJ i=wrap64 (x:Int):=by
 unfold Ev.put;exact RF o i _ x h5 hi
theorem qvw (o:Ev) (i j x:Nat) (hi:i<7) (hj:j<7) (h:j≠i):(o.put i x).bJ j=o.bJ j:=by
 unfold Ev.put;exact RG o i j _ x hi hj h
theorem H9 (j:Nat) (hj:j<7):∀(l:List (Nat×Nat)) (o:Ev),(∀p∈l,p.1<7∧p.1≠j)→(o.fill l).bJ j=o.bJ j
 |[],_,_=>rfl
 |p::l,o,h=>by
  have h1:=h p (by simp)
  have h2:=H9 j hj l (o.put p.1 p.2) (fun q hq=>h q (by simp [hq]))
  exact h2.trans (qvw o p.1 j p.2 h1.1 hj (fun e=>h1.2 e.symm))
theorem DT (i x:Nat) (h5:i≠5):∀(l:List (Nat×Nat)) (o:Ev),(∀p∈l,p.1<7)→(l.map (·.1)).Nodup→(i,x)∈l→(o.fill l).bJ i=wrap64 (x:Int)
 |[],_,_,_,h=>by simp at h
 | p :: l, o, h7, hd, h => by
  rw [List.map_cons,List.nodup_cons] at hd
  rcases List.mem_cons.1 h with rfl|h
  ·have hi:i<7:=h7 (i,x) (by simp)
   have h2:=H9 i hi l (o.put i x) (fun q hq=>⟨h7 q (by simp [hq]),fun e=>hd.1 (by rw [←e];exact List.mem_map.2 ⟨q,hq,rfl⟩)⟩)
   exact h2.trans (q0j o i x h5 hi)
  ·exact DT i x h5 l (o.put p.1 p.2) (fun q hq=>h7 q (by simp [hq])) hd.2 h
theorem Ia (k:Nat):(aj k).Nodup:=by
 unfold aj;split<;>decide
theorem yD (e:Ev) (vs:List Nat) (hn:vs.length=(aj e.kind).length) (h:(((aj e.kind).zip vs).all fun p=>Ev.fits p.1 p.2)=false):(e.made vs).check≠0:=by
 intro hc
 have hw:=(nu hc).2.1
 rw [(BX e vs).1,List.all_eq_true] at hw
 rw [List.all_eq_false] at h
 obtain ⟨⟨i,x⟩,hm,hf⟩:=h
 have hi:=(List.of_mem_zip hm).1
 have h0:=zp (hw i hi)
 have h5:i≠5:=by rintro rfl;simp [Ev.fits] at hf
 have h1:(e.made vs).bJ i=wrap64 (x:Int):=by
  refine DT i x h5 _ _ (fun p hp=>oG _ _ (List.of_mem_zip hp).1) ?_ hm
  rw [List.map_fst_zip (by omega)]
  exact Ia _
 rw [h1] at h0
 simp [Ev.fits,h5] at hf
 omega
theorem q0k (e:Ev) (he:e.Ok) (A:Option Addr) (n c:Nat) (vs:List Nat) (B:Nat) (w:World) (hL:Laid B w) (hB:B≤w.heap.size) (hr:Rd w w.heap.size 1 A n (vs.map dB)) (hvs:∀x∈vs,x<18446744073709551616):
  Calls Tryz.prog 319 #[.agg e.cells,.slice A n c] w (dI w (e.aP vs) (e.aD vs)):=by
 have hlen:vs.length=n:=by simpa using hr.len
 by_cases hk:e.kind=0∨10<e.kind
 ·have h1:e.aD vs=60:=by unfold Ev.aD;rw [if_pos hk]
  have h2:e.aP vs=Ev.zero:=by unfold Ev.aP;rw [h1];rfl
  rw [h1,h2]
  exact q0h e _ w hk
 ·by_cases hn:n=(aj e.kind).length
  ·by_cases hc:(e.made vs).check=0
   ·refine q53 e he A n c vs B w hL hB hr hvs hk hn ?_ hc
    rw [←Bool.not_eq_false]
    intro h
    exact yD e vs (hlen.trans hn) h hc
   ·by_cases hf:(((aj e.kind).zip vs).all fun p=>Ev.fits p.1 p.2)=true
    ·exact q54 e he A n c vs B w hL hB hr hvs hk hn hf hc
    ·exact q52 e he A n c vs B w hL hB hr hvs hk hn (by simpa using hf) hc
  ·have h1:e.aD vs=2:=by unfold Ev.aD;rw [if_neg hk,if_pos (by omega)]
   have h2:e.aP vs=Ev.zero:=by unfold Ev.aP;rw [h1];rfl
   rw [h1,h2]
   exact q0i e A n c B w hL hB hk hn
end Go.Proofs.YtekiimhdnigmcaaGreatDoor
