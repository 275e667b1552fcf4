/- A part of the proof. -/
import Derived.Test.YtekiimhdnigmcaaGreatDoorQfDoor
import Derived.Test.YtekiimhdnigmcaaGreatDoorQfCodV
namespace Go.Proofs.YtekiimhdnigmcaaGreatDoor
open Go.RowKit Go.ChangeShapes Go.WideShapes Go.ChangeAt
open List renaming length→abl
open _root_.List renaming getElem?_eq_getElem→abp,getElem?_drop→acI,getElem?_eq_none→ac6,getElem?_take→ado
open Bool renaming and_eq_true→abF
open Go renaming IntKind→acf
open DataW renaming trod→ads,trod_struct→afY
open IntKind renaming signed→aem,bits→aey,min→aeK,max→aeL
open Lit renaming int→ae6
variable {a:Int}
def Ef (P:Program) (t:TypeId) (a:List acf):Bool:=match P.underlying t with
 |some (.struct b)=>decide (b.size=abl a)&&decide (P.cellsOf t=abl a)&& (List.range (abl a)).all λi=>match b[i]?,a[i]? with
  |some f,some k=>decide (f.offset=i)&&decide (P.cellsOf f.type=1)&& (match P.underlying f.type with|some (TypeDesc.int c)=>decide (c=k)|_=>false)
  |_,_=>false
 |_=>false
section
variable {H:Type} {enc:TypeId×Value→H} {P:Program} {W:World} {b0:Nat} {sp:Nat→Bool} {held:Bool}
theorem MR {t:TypeId} {e:List acf} (b:Ef P t e=true) {c:Nat} {B:List Value} {x:DataW H×List MemPlace} (h:ads enc P W b0 sp held c t B=some x):
  abl B=abl e∧∀(i:Nat) (k:acf),e[i]?=some k→∃z:Int,B[i]?=some (Value.int k z)∧(ae6 k z).wf=true:=by
 unfold Ef at b
 split at b
 ·rename_i A q
  simp only [abF,decide_eq_true_eq,List.all_eq_true,List.mem_range] at b
  obtain ⟨⟨h1,h2⟩,h3⟩:=b
  obtain ⟨xs,n,_,_,C,D,r⟩:=afY q h
  refine ⟨by omega,λi k o=>?_⟩
  have hi:i<abl e:=(List.getElem?_eq_some_iff.1 o).1
  have h4:=h3 i hi
  rw [o] at h4
  split at h4
  ·rename_i f E g j
   cases j
   simp only [abF,decide_eq_true_eq] at h4
   obtain ⟨⟨s,hc⟩,a⟩:=h4
   split at a
   ·rename_i u l
    simp only [decide_eq_true_eq] at a
    subst a
    have h5:=r i f g
    rw [s,hc] at h5
    have m:i<abl xs:=by omega
    rw [abp m] at h5
    obtain ⟨z,hz,_,y⟩:=DataW.trod_int l h5
    refine ⟨z,?_,y⟩
    have:=congrArg (·[0]?) hz
    simpa [ado,acI] using this
   ·cases a
  ·cases h4
 ·cases b
end
theorem MS (h:(ae6 .u16 a).wf=true):0≤a∧a≤65535:=by
 simpa [Lit.wf,aeK,aeL,aem,aey] using h
theorem tJ (h:(ae6 .u32 a).wf=true):0≤a∧a≤4294967295:=by
 simpa [Lit.wf,aeK,aeL,aem,aey] using h
theorem zhv (h:(ae6 .u64 a).wf=true):0≤a∧a≤18446744073709551615:=by
 simpa [Lit.wf,aeK,aeL,aem,aey] using h
theorem Eh {α:Type} {l m:List α} (h1:abl l=abl m) (h:∀i,i<abl m→l[i]?=m[i]?):l=m:=by
 refine List.ext_getElem? λi=>?_
 by_cases hi:i<abl m
 ·exact h i hi
 ·rw [ac6 om,ac6 om]
section
variable {H:Type} {enc:TypeId×Value→H} {W:World} {b0:Nat} {v:Value} {d:DataW H} {p:List MemPlace}
end
section
variable {H:Type} {enc:TypeId×Value→H} {P:Program} {w:World} {base:Nat} {spare:Nat→Bool} {held:Bool}
end
section
variable {H:Type} {enc:TypeId×Value→H} {W:World} {b0:Nat} {v:Value} {d:DataW H} {p:List MemPlace}
end
section
variable {H:Type} {enc:TypeId×Value→H} {W:World} {b0:Nat} {v:Value} {d:DataW H} {p:List MemPlace}
end
def fieldAt (P:Program) (t:TypeId) (i off:Nat) (u:TypeId):Bool:=match P.underlying t with
 |some (.struct a)=>match a[i]? with
  |some f=>decide (f.offset=off)&&decide (f.type=u)
  |none=>false
 |_=>false
section
variable {H:Type} {enc:TypeId×Value→H} {P:Program} {W:World} {b0:Nat} {sp:Nat→Bool} {held:Bool}
theorem qx {t u:TypeId} {i off:Nat} (a:fieldAt P t i off u=true) {c:Nat} {B:List Value} {x:DataW H×List MemPlace} (h:ads enc P W b0 sp held c t B=some x):
  abl B=P.cellsOf t∧∃n y,ads enc P W b0 sp held n u ((B.drop off).take (P.cellsOf u))=some y:=by
 unfold fieldAt at a
 split at a
 ·rename_i e g
  split at a
  ·rename_i f b
   simp only [abF,decide_eq_true_eq] at a
   obtain ⟨xs,n,_,_,j,l,k⟩:=afY g h
   refine ⟨j,n,?_⟩
   have h5:=k i f b
   have hi:i<e.size:=(Array.getElem?_eq_some_iff.1 b).1
   rw [abp om,a.1,a.2] at h5
   exact ⟨_,h5⟩
  ·cases a
 ·cases a
end
section
variable {H:Type} {enc:TypeId×Value→H} {W:World} {b0:Nat} {v:Value} {d:DataW H} {p:List MemPlace}
def zdz:List acf:=[.i64,.i64]
theorem q06:Ef Tryz.prog 110 zdz=true:=by kernel_rfl
theorem zx {B:List Value} {off:Nat} {u:Value} (h:(B.drop off).take 1=[u]):B[off]?=some u:=by
 have:=congrArg (·[0]?) h
 simpa [ado,acI] using this
end
end Go.Proofs.YtekiimhdnigmcaaGreatDoor
