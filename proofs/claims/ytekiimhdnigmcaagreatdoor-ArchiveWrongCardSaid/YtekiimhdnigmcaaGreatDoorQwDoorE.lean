/- A part of the proof. -/
import Derived.Test.YtekiimhdnigmcaaGreatDoorQwDoor
import Derived.Test.YtekiimhdnigmcaaGreatDoorQwCodV
namespace Go.Proofs.YtekiimhdnigmcaaGreatDoor
open Go.RowKit Go.ChangeShapes Go.WideShapes Go.ChangeAt
open List renaming length→abk
open _root_.List renaming getElem?_eq_getElem→abt,getElem?_drop→acO,getElem?_eq_none→adg,getElem?_take→adx
open Bool renaming and_eq_true→abC
open Go renaming IntKind→aci
open DataW renaming trod→adB,trod_struct→af4
open IntKind renaming signed→aeu,bits→aeF,min→aeR,max→aeS
open Lit renaming int→afc
variable {a:Int}
def Ez (P:Program) (t:TypeId) (a:List aci):Bool:=match P.underlying t with
 |some (.struct b)=>decide (b.size=abk a)&&decide (P.cellsOf t=abk a)&& (List.range (abk a)).all λi=>match b[i]?,a[i]? with
  |some f,some k=>decide (f.offset=i)&&decide (P.cellsOf f.type=1)&& (match P.underlying f.type with|some (TypeDesc.int c)=>decide (c=k)|_=>false)
  |_,_=>false
 |_=>false
section
variable {H:Type} {enc:TypeId×Value→H} {P:Program} {W:World} {b0:Nat} {sp:Nat→Bool} {held:Bool}
theorem Nr {t:TypeId} {e:List aci} (b:Ez P t e=true) {c:Nat} {B:List Value} {x:DataW H×List MemPlace} (h:adB enc P W b0 sp held c t B=some x):
  abk B=abk e∧∀(i:Nat) (k:aci),e[i]?=some k→∃z:Int,B[i]?=some (Value.int k z)∧(afc k z).wf=true:=by
 unfold Ez at b
 split at b
 ·rename_i A q
  simp only [abC,decide_eq_true_eq,List.all_eq_true,List.mem_range] at b
  obtain ⟨⟨h1,h2⟩,h3⟩:=b
  obtain ⟨xs,n,_,_,C,D,r⟩:=af4 q h
  refine ⟨by omega,λi k o=>?_⟩
  have hi:i<abk e:=(List.getElem?_eq_some_iff.1 o).1
  have h4:=h3 i hi
  rw [o] at h4
  split at h4
  ·rename_i f E g j
   cases j
   simp only [abC,decide_eq_true_eq] at h4
   obtain ⟨⟨s,hc⟩,a⟩:=h4
   split at a
   ·rename_i u l
    simp only [decide_eq_true_eq] at a
    subst a
    have h5:=r i f g
    rw [s,hc] at h5
    have m:i<abk xs:=by omega
    rw [abt m] at h5
    obtain ⟨z,hz,_,y⟩:=DataW.trod_int l h5
    refine ⟨z,?_,y⟩
    have:=congrArg (·[0]?) hz
    simpa [adx,acO] using this
   ·cases a
  ·cases h4
 ·cases b
end
theorem Ns (h:(afc .u16 a).wf=true):0≤a∧a≤65535:=by
 simpa [Lit.wf,aeR,aeS,aeu,aeF] using h
theorem tZ (h:(afc .u32 a).wf=true):0≤a∧a≤4294967295:=by
 simpa [Lit.wf,aeR,aeS,aeu,aeF] using h
theorem zih (h:(afc .u64 a).wf=true):0≤a∧a≤18446744073709551615:=by
 simpa [Lit.wf,aeR,aeS,aeu,aeF] using h
theorem EA {α:Type} {l m:List α} (h1:abk l=abk m) (h:∀i,i<abk m→l[i]?=m[i]?):l=m:=by
 refine List.ext_getElem? λi=>?_
 by_cases hi:i<abk m
 ·exact h i hi
 ·rw [adg om,adg om]
section
variable {H:Type} {enc:TypeId×Value→H} {W:World} {b0:Nat} {v:Value} {d:DataW H} {p:List MemPlace}
end
section
variable {H:Type} {enc:TypeId×Value→H} {P:Program} {w:World} {base:Nat} {spare:Nat→Bool} {held:Bool}
end
section
variable {H:Type} {enc:TypeId×Value→H} {W:World} {b0:Nat} {v:Value} {d:DataW H} {p:List MemPlace}
end
section
variable {H:Type} {enc:TypeId×Value→H} {W:World} {b0:Nat} {v:Value} {d:DataW H} {p:List MemPlace}
end
def fieldAt (P:Program) (t:TypeId) (i off:Nat) (u:TypeId):Bool:=match P.underlying t with
 |some (.struct a)=>match a[i]? with
  |some f=>decide (f.offset=off)&&decide (f.type=u)
  |none=>false
 |_=>false
section
variable {H:Type} {enc:TypeId×Value→H} {P:Program} {W:World} {b0:Nat} {sp:Nat→Bool} {held:Bool}
theorem qy {t u:TypeId} {i off:Nat} (a:fieldAt P t i off u=true) {c:Nat} {B:List Value} {x:DataW H×List MemPlace} (h:adB enc P W b0 sp held c t B=some x):
  abk B=P.cellsOf t∧∃n y,adB enc P W b0 sp held n u ((B.drop off).take (P.cellsOf u))=some y:=by
 unfold fieldAt at a
 split at a
 ·rename_i e g
  split at a
  ·rename_i f b
   simp only [abC,decide_eq_true_eq] at a
   obtain ⟨xs,n,_,_,j,l,k⟩:=af4 g h
   refine ⟨j,n,?_⟩
   have h5:=k i f b
   have hi:i<e.size:=(Array.getElem?_eq_some_iff.1 b).1
   rw [abt om,a.1,a.2] at h5
   exact ⟨_,h5⟩
  ·cases a
 ·cases a
end
section
variable {H:Type} {enc:TypeId×Value→H} {W:World} {b0:Nat} {v:Value} {d:DataW H} {p:List MemPlace}
def zee:List aci:=[.i64,.i64]
theorem q1l:Ez Tryz.prog 110 zee=true:=by kernel_rfl
theorem uf {B:List Value} {off:Nat} {u:Value} (h:(B.drop off).take 1=[u]):B[off]?=some u:=by
 have:=congrArg (·[0]?) h
 simpa [adx,acO] using this
end
end Go.Proofs.YtekiimhdnigmcaaGreatDoor
