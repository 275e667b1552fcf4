/- A part of the proof. -/
import Derived.Test.YtieeckeaijdaeaaGreatDoorQaConv
import Derived.ProofKit
import Derived.Below
import Derived.Carry
import Derived.LaidMore
import Derived.Lib.LaidU8
import Derived.Lib.SmallJoins
namespace Go.Proofs.YtieeckeaijdaeaaGreatDoor
open Go.RowKit Go.ChangeShapes Go.WideShapes
section
variable {H:Type} {enc:TypeId×Value→H} {P:Program}
theorem V5 (hl:laidOutB P=true) {W W':World} (hb:Below W.heap.size W W'):∀{ts:List TypeId} {vs:List Value} {ds:List (DataW H)} {ps:List MemPlace},
  (ts.all fun t=>P.readableRec t&&decide (t<P.types.size))=true→DataW.TrodAll enc P W 0 (fun _=>true) true ts vs ds ps→(∀x∈ps,x.block<W.heap.size)→
  DataW.TrodAll enc P W' 0 (fun b=>decide (b<W.heap.size)) true ts vs ds ps
 |[],vs,ds,ps,_,h,_=>by
  obtain ⟨rfl,rfl,rfl⟩:=trodAll_nil h
  rfl
 |t::ts,vs,ds,ps,ht,h,hlt=>by
  obtain ⟨v,vs',d,ds',p,q,rfl,rfl,rfl,h1,h2⟩:=trodAll_cons h
  simp only [List.all_cons,Bool.and_eq_true,decide_eq_true_eq] at ht
  exact ⟨p,q,Below.trod hl ht.1.1 ht.1.2 h1 hb (fun x hx=>hlt x (List.mem_append_left _ hx)),V5 hl hb (by simpa using ht.2) h2 (fun x hx=>hlt x (List.mem_append_right _ hx)),rfl⟩
theorem qux {f:Func} {s:ChangeSpec} {W W':World} {args:Array Value} {ds gs:List (DataW H)} {before:List MemPlace} {tb:TypeId}
  (hl:laidOutB P=true) (hts:(f.params.toList.all fun t=>P.readableRec t&&decide (t<P.types.size))=true)
  (hr:f.resultTypes= #[tb]) (hbt:P.underlying tb=some .bool) (hv:s.vars=[])
  (hW:DataW.Whole enc P f.params.toList s.vars false W args.toList ds gs before) (hs:s.fn H ds={results:=[.lit (.bool true)],args:=ds}) (hb:Below W.heap.size W W'):
  s.post enc P f false true false false W args (.bool true) W':=by
 have hlt:∀x∈before,x.block<W.heap.size:=fun p hp=>hW.lt p hp
 have hW':=hW
 obtain ⟨p,q,hA,hV,e,hfz,hnd⟩:=hW
 rw [hv] at hV
 obtain ⟨rfl,rfl⟩:=trodVars_none hV
 rw [List.append_nil] at e
 subst e
 refine ⟨ds,[],before,[],before,[],hW',?_,?_,?_,hb.frame _,fun h=>by cases h⟩
 ·rw [List.append_nil,hs,hr]
  exact trodAll_mk1 (shut_bool hbt _)
 ·rw [List.append_nil,hs]
  exact V5 hl hb hts hA hlt
 ·rw [List.append_nil,hs,hv]
  rfl
end
theorem V6:Tryz.prog.underlying 5=some (.int .u8):=by kernel_rfl
theorem V7:Tryz.prog.underlying 35=some (.slice 5):=by kernel_rfl
theorem qzc:Tryz.prog.cellsOf 5=1:=by kernel_rfl
section
variable {H:Type} {enc:TypeId×Value→H} {W:World} {b0:Nat} {v:Value} {d:DataW H} {p:List MemPlace}
theorem Af {a:Int} (h:(Lit.int .u8 a).wf=true):0≤a∧a≤255:=by
 simpa [Lit.wf,IntKind.min,IntKind.max,IntKind.signed,IntKind.bits] using h
set_option maxRecDepth 100000 in
theorem quy (hval:Value.okWide Tryz.prog W .any b0 35 v) (h:DataW.Trod enc Tryz.prog W 0 (fun _=>true) true 35 v d p):
  ∃(A:Option Addr) (n c:Nat) (l:List Nat),v= .slice A n c∧n≤c∧c≤maxLen∧(∀b∈l,b<256)∧Rd W W.heap.size 1 A n (l.map B8):=by
 obtain ⟨a0,len,cap,rfl⟩:=okWide_slice V7 hval
 obtain ⟨fuel,hf⟩:=h
 rcases open_ints V7 V6 qzc hf with ⟨hcs,hx⟩|⟨a,len',cap',zs,hcs,_,hl,hm,hz,hx,hcell,hwz⟩
 ·simp only [Value.cells,List.cons.injEq,and_true,Value.slice.injEq] at hcs
  obtain ⟨rfl,rfl,rfl⟩:=hcs
  exact ⟨none,0,0,[],rfl,Nat.le_refl _,by unfold maxLen;omega,by simp,Rd.nil⟩
 ·simp only [Value.cells,List.cons.injEq,and_true,Value.slice.injEq] at hcs
  obtain ⟨rfl,rfl,rfl⟩:=hcs
  simp only [if_true] at hz
  have hat:∀i z,zs[i]?=some z→W.cell? (a.add i)=some (.int .u8 z)∧0≤z∧z≤255:=by
   intro i z hi
   obtain ⟨hlt,e⟩:=List.getElem?_eq_some_iff.1 hi
   refine ⟨by rw [hcell i hlt,List.getD_eq_getElem?_getD,hi];rfl,Af (hwz z (List.mem_of_getElem? hi))⟩
  refine ⟨some a,len,cap,(zs.take len).map Int.toNat,rfl,hl,hm,?_,by simp;omega,fun hn=>⟨a,rfl,?_,?_⟩⟩
  ·intro b hb
   obtain ⟨z,hz',rfl⟩:=List.mem_map.1 hb
   have:=Af (hwz z (List.mem_of_mem_take hz'))
   omega
  ·have h0:0<zs.length:=by omega
   have:=(hat 0 zs[0] (by simp [h0])).1
   have:=World.block_lt_of_cell? W _ this
   simpa [Addr.add] using this
  ·intro j u hu
   rw [List.map_map,List.getElem?_map] at hu
   cases hz':(zs.take len)[j]? with
   |none=>simp [hz'] at hu
   | some z =>
    rw [hz'] at hu
    have hj:zs[j]?=some z:=by
     rw [List.getElem?_take] at hz'
     split at hz'
     ·exact hz'
     ·cases hz'
    obtain ⟨h1,h2,h3⟩:=hat j z hj
    rw [h1,←hu]
    simp [B8]
    omega
end
end Go.Proofs.YtieeckeaijdaeaaGreatDoor
