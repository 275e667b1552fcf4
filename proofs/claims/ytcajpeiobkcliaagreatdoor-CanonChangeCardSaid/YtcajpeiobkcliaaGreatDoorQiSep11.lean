/- A part of the proof. -/
import Derived.Test.YtcajpeiobkcliaaGreatDoorQiSep10
import Derived.MapKept
namespace Go.Proofs.YtcajpeiobkcliaaGreatDoor
open Go.RowKit Go.MapKept
section
variable {P:Program} {Q:Exit→Act→World→Prop} {a:Act} {W w:World} {n d:Nat} {D:List Deferred} {σ:List (Nat×Value)} {o:Oper} {K:Act→World→Prop} {fs:List Fact} {S:World→Prop}
theorem Mem.objAt (h:Mem W w fs) {i g:Nat} {ob:Obj} (hi:fs[i]?=some (.obj g ob)):w.heap[g]?=some ob:=(h.holds _ (List.mem_of_getElem? hi)).2
theorem Mem.setObj (h:Mem W w fs) {i g:Nat} {ob:Obj} (hi:fs[i]?=some (.obj g ob)) (ob':Obj):Mem W {w with heap:=w.heap.setIfInBounds g ob'} (fs.set i (.obj g ob')):=by
 have hb:=h.holds _ (List.mem_of_getElem? hi)
 have hlt:=qak hb.2
 have hother:∀k,k≠g→(w.heap.setIfInBounds g ob')[k]?=w.heap[k]?:=fun k hk=>Array.getElem?_setIfInBounds_ne (Ne.symm hk)
 refine h.turn hi ⟨h.below.os,h.below.tape,h.below.output,by simpa using h.below.size,fun k hk=>?_⟩ (fun k _ hne=>hother k (fun e=>hne (by rw [e];rfl))) ⟨hb.1,?_⟩ (fun g' hg'=> .inl hg')
 ·have:=hb.1
  exact (hother k om).trans (h.below.block k hk)
 ·show (w.heap.setIfInBounds g ob')[g]?=some ob'
  rw [Array.getElem?_setIfInBounds_self]
  simp [hlt]
theorem Yl.makeFunc {fn:Fn} {xs ys:Array Operand} {fst caps:List Value} (hop:o.op= .makeFunc fn xs ys) (hx:looks σ xs.toList=some fst) (hy:looks σ ys.toList=some caps):Yl P S σ o (.func fn fst.toArray caps.toArray):=fun a n D Z w hS=>by
 have e1:xs.map a.eval=fst.toArray:=by
  have:=qbl Z hx
  rw [←this,←Array.toList_map,Array.toArray_toList]
 have e2:ys.map a.eval=caps.toArray:=by
  have:=qbl Z hy
  rw [←this,←Array.toList_map,Array.toArray_toList]
 unfold execOp
 simp only [hop,Instr.makeFunc,Sem.run_bind,Sem.run_pure,Result.andThen_ok]
 show Result.ok (Next.value (.func fn (Array.map a.eval xs) (Array.map a.eval ys))) w=_
 rw [e1,e2]
theorem qag (Z:Fr a n D σ) {fo:Operand} {f:FuncId} {xs:Array Operand} {ts:Array TypeId} {vs fst caps:List Value} {R:Ending→World→Prop} (hop:o.op= .call {callee:= .value fo,args:=xs,argTypes:=ts}) (hfo:look σ fo=some (.func (.func f) fst.toArray caps.toArray)) (hv:looks σ xs.toList=some vs) (hf:callable P f=true) (hd:o.dst=some d) (hdn:d<n)
  (hC:Calls P f (fst++vs++caps).toArray w R) (k:∀e w',R e w'→∃v,e= .returned v∧∀a',Fr a' n D ((d,v)::σ)→K a' w'):o.wp P a w K Q:=by
 have e1:xs.map a.eval=vs.toArray:=by
  have:=qbl Z hv
  rw [←this,←Array.toList_map,Array.toArray_toList]
 unfold Oper.wp execOp
 simp only [hop,resolve,Z.eval hfo,Deferred.ofValue,invoke,Sem.run_bind,Sem.run_pure,Result.andThen_ok]
 have e3:fst.toArray++Array.map a.eval xs++caps.toArray=(fst++vs++caps).toArray:=by simp [e1]
 show Oper.upon P o a K Q (((callFunc f (fst.toArray++Array.map a.eval xs++caps.toArray)).run P w))
 rw [e3,qc3 hf,Oper.upon_enter]
 refine hC.mono fun e w' he=>?_
 obtain ⟨v,rfl,h2⟩:=k e w' he
 show K (a.put o.dst v) w'
 rw [hd]
 exact h2 _ (Z.put hdn v)
end
end Go.Proofs.YtcajpeiobkcliaaGreatDoor
