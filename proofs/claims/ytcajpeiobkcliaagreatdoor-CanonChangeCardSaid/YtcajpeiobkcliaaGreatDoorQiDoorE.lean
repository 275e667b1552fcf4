/- A part of the proof. -/
import Derived.Test.YtcajpeiobkcliaaGreatDoorQiDoor
namespace Go.Proofs.YtcajpeiobkcliaaGreatDoor
open Go.RowKit Go.ChangeShapes Go.WideShapes Go.ChangeAt
def qgd (P:Program) (t:TypeId) (ks:List Go.IntKind):Bool:=match P.underlying t with
 |some (.struct fs)=>decide (fs.size=ks.length)&&decide (P.cellsOf t=ks.length)&& (List.range ks.length).all fun i=>match fs[i]?,ks[i]? with
  |some f,some k=>decide (f.offset=i)&&decide (P.cellsOf f.type=1)&& (match P.underlying f.type with|some (TypeDesc.int k')=>decide (k'=k)|_=>false)
  |_,_=>false
 |_=>false
section
variable {H:Type} {enc:TypeId×Value→H} {P:Program} {W:World} {b0:Nat} {sp:Nat→Bool} {held:Bool}
theorem qmg {t:TypeId} {ks:List Go.IntKind} (hf:qgd P t ks=true) {fuel:Nat} {cs:List Value} {x:DataW H×List MemPlace} (h:DataW.trod enc P W b0 sp held fuel t cs=some x):
  cs.length=ks.length∧∀(i:Nat) (k:Go.IntKind),ks[i]?=some k→∃z:Int,cs[i]?=some (Value.int k z)∧(Lit.int k z).wf=true:=by
 unfold qgd at hf
 split at hf
 ·rename_i fs hu
  simp only [Bool.and_eq_true,decide_eq_true_eq,List.all_eq_true,List.mem_range] at hf
  obtain ⟨⟨h1,h2⟩,h3⟩:=hf
  obtain ⟨xs,n,_,_,hl,hx,he⟩:=DataW.trod_struct hu h
  refine ⟨by omega,fun i k hk=>?_⟩
  have hi:i<ks.length:=(List.getElem?_eq_some_iff.1 hk).1
  have h4:=h3 i hi
  rw [hk] at h4
  split at h4
  ·rename_i f k' hfi hk'
   cases hk'
   simp only [Bool.and_eq_true,decide_eq_true_eq] at h4
   obtain ⟨⟨ho,hc⟩,hty⟩:=h4
   split at hty
   ·rename_i k'' hu'
    simp only [decide_eq_true_eq] at hty
    subst hty
    have h5:=he i f hfi
    rw [ho,hc] at h5
    have hxi:i<xs.length:=by omega
    rw [List.getElem?_eq_getElem hxi] at h5
    obtain ⟨z,hz,_,hw⟩:=DataW.trod_int hu' h5
    refine ⟨z,?_,hw⟩
    have:=congrArg (·[0]?) hz
    simpa [List.getElem?_take,List.getElem?_drop] using this
   ·cases hty
  ·cases h4
 ·cases hf
end
theorem qsc {a:Int} (h:(Lit.int .u16 a).wf=true):0≤a∧a≤65535:=by
 simpa [Lit.wf,IntKind.min,IntKind.max,IntKind.signed,IntKind.bits] using h
theorem qyr {a:Int} (h:(Lit.int .u32 a).wf=true):0≤a∧a≤4294967295:=by
 simpa [Lit.wf,IntKind.min,IntKind.max,IntKind.signed,IntKind.bits] using h
theorem qsd {α:Type} {l m:List α} (h1:l.length=m.length) (h:∀i,i<m.length→l[i]?=m[i]?):l=m:=by
 refine List.ext_getElem? fun i=>?_
 by_cases hi:i<m.length
 ·exact h i hi
 ·rw [List.getElem?_eq_none (by omega),List.getElem?_eq_none (by omega)]
section
variable {H:Type} {enc:TypeId×Value→H} {W:World} {b0:Nat} {v:Value} {d:DataW H} {p:List MemPlace}
end
section
variable {H:Type} {enc:TypeId×Value→H} {P:Program} {w:World} {base:Nat} {spare:Nat→Bool} {held:Bool}
end
section
variable {H:Type} {enc:TypeId×Value→H} {W:World} {b0:Nat} {v:Value} {d:DataW H} {p:List MemPlace}
end
def fieldAt (P:Program) (t:TypeId) (i off:Nat) (u:TypeId):Bool:=match P.underlying t with
 |some (.struct fs)=>match fs[i]? with
  |some f=>decide (f.offset=off)&&decide (f.type=u)
  |none=>false
 |_=>false
section
variable {H:Type} {enc:TypeId×Value→H} {P:Program} {W:World} {b0:Nat} {sp:Nat→Bool} {held:Bool}
theorem qa1 {t u:TypeId} {i off:Nat} (hf:fieldAt P t i off u=true) {fuel:Nat} {cs:List Value} {x:DataW H×List MemPlace} (h:DataW.trod enc P W b0 sp held fuel t cs=some x):
  cs.length=P.cellsOf t∧∃n y,DataW.trod enc P W b0 sp held n u ((cs.drop off).take (P.cellsOf u))=some y:=by
 unfold fieldAt at hf
 split at hf
 ·rename_i fs hu
  split at hf
  ·rename_i f hfi
   simp only [Bool.and_eq_true,decide_eq_true_eq] at hf
   obtain ⟨xs,n,_,_,hl,hx,he⟩:=DataW.trod_struct hu h
   refine ⟨hl,n,?_⟩
   have h5:=he i f hfi
   have hi:i<fs.size:=(Array.getElem?_eq_some_iff.1 hfi).1
   rw [List.getElem?_eq_getElem (by omega),hf.1,hf.2] at h5
   exact ⟨_,h5⟩
  ·cases hf
 ·cases hf
end
section
variable {H:Type} {enc:TypeId×Value→H} {W:World} {b0:Nat} {v:Value} {d:DataW H} {p:List MemPlace}
theorem qcq {cs:List Value} {off:Nat} {u:Value} (h:(cs.drop off).take 1=[u]):cs[off]?=some u:=by
 have:=congrArg (·[0]?) h
 simpa [List.getElem?_take,List.getElem?_drop] using this
def qge (P:Program) (t:TypeId):Bool:=match P.underlying t with|some (.struct _)=>true|_=>false
theorem qkl {P:Program} {t:TypeId} (h:qge P t=true):∃fs,P.underlying t=some (.struct fs):=by
 unfold qge at h
 split at h
 ·rename_i fs hu;exact ⟨fs,hu⟩
 ·cases h
end
end Go.Proofs.YtcajpeiobkcliaaGreatDoor
