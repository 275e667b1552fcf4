/- A part of the proof. -/
import Derived.Test.YtekiimhdnigmcaaGreatDoorQtSep10
import Derived.MapKept
namespace Go.Proofs.YtekiimhdnigmcaaGreatDoor
open Go.RowKit Go.MapKept
section
variable {P:Program} {Q:Exit→Act→World→Prop} {a:Act} {W w:World} {n d:Nat} {D:List Deferred} {σ:List (Nat×Value)} {o:Oper} {K:Act→World→Prop} {fs:List Fact} {S:World→Prop}
theorem Mem.jm (h:Mem W w fs) {i g:Nat} {ob:Obj} (hi:fs[i]?=some (.obj g ob)):w.heap[g]?=some ob:=(h.holds _ (List.mem_of_getElem? hi)).2
theorem Mem.setObj (h:Mem W w fs) {i g:Nat} {ob:Obj} (hi:fs[i]?=some (.obj g ob)) (MO:Obj):Mem W {w with heap:=w.heap.setIfInBounds g MO} (fs.set i (.obj g MO)):=by
 have hb:=h.holds _ (List.mem_of_getElem? hi)
 have hlt:=qY hb.2
 have hother:∀k,k≠g→(w.heap.setIfInBounds g MO)[k]?=w.heap[k]?:=fun k hk=>Array.getElem?_setIfInBounds_ne (Ne.symm hk)
 refine h.turn hi ⟨h.below.os,h.below.tape,h.below.output,by simpa using h.below.size,fun k hk=>?_⟩ (fun k _ hne=>hother k (fun e=>hne (by rw [e];rfl))) ⟨hb.1,?_⟩ (fun g' hg'=> .inl hg')
 ·have:=hb.1
  exact (hother k om).trans (h.below.block k hk)
 ·show (w.heap.setIfInBounds g MO)[g]?=some MO
  rw [Array.getElem?_setIfInBounds_self]
  simp [hlt]
theorem qy4 (Z:Fr a n D σ) (E:Mem W w fs) {t:TypeId} (hop:o.op= .makeMap t none) (hd:o.dst=some d) (hdn:d<n)
  (k:∀a' w' g,Fr a' n D ((d,.map (some g))::σ)→Mem W w' (.obj g (.map #[] 0)::fs)→K a' w'):o.wp P a w K Q:=by
 have e1:(execOp a.eval o).run P w= .ok (.value (.map (some w.heap.size))) (w.alloc (.map #[] 0)):=by
  unfold execOp
  simp only [hop,Sem.run_bind]
  rfl
 unfold Oper.wp
 rw [e1,Oper.upon_value,hd]
 exact k _ _ _ (Z.put hdn _) (E.oh _)
theorem qty (Z:Fr a n D σ) (E:Mem W w fs) {t kt et:TypeId} {kd:TypeDesc} {m x y:Operand} {i g clock:Nat} {es:Array MapEntry} {key val:Value} (hop:o.op= .mapUpdate t m x y∨o.op= .insert t m x y) (hd:o.dst=none) (ht:P.underlying t=some (.map kt et)) (hk:P.underlying kt=some kd)
  (hm:look σ m=some (.map (some g))) (hx:look σ x=some key) (hy:look σ y=some val) (hi:fs[i]?=some (.obj g (.map es clock))) (hkey:IsKey kd key) (hf:Instr.findNow kd key es.toList 0=some none)
  (k:∀w',Mem W w' (fs.set i (.obj g (.map (es.push {key,val,born:=clock}) (clock+1))))→K a w'):o.wp P a w K Q:=by
 have hb:=E.jm hi
 have e1:(Instr.mapUpdate t (.map (some g)) key val).run P w= .ok () {w with heap:=w.heap.setIfInBounds g (.map (es.push {key,val,born:=clock}) (clock+1))}:=by
  unfold Instr.mapUpdate
  simp only [Sem.run_bind,run_underlying ht,Result.andThen_ok,MapKept.run_getObj_map hb,run_checkKey hk hkey,run_findKey hk hf,MapKept.run_setObj_map _ hb]
 unfold Oper.wp execOp
 rcases hop with hop|hop<;>simp only [hop,Z.eval hm,Z.eval hx,Z.eval hy,Sem.run_bind,e1,Result.andThen_ok,Sem.run_pure,Oper.upon_skip,hd]
 ·exact k _ (E.setObj hi _)
 ·exact k _ (E.setObj hi _)
theorem Yl.qre {t kt et:TypeId} {kd:TypeDesc} {m x:Operand} {g clock j:Nat} {es:Array MapEntry} {key v:Value} (hop:o.op= .lookup t m x false) (ht:P.underlying t=some (.map kt et)) (hk:P.underlying kt=some kd) (hm:look σ m=some (.map (some g))) (hx:look σ x=some key) (hb:∀w,S w→w.heap[g]?=some (.map es clock)) (hkey:IsKey kd key) (hf:Instr.findNow kd key es.toList 0=some (some (j,v))):
  Yl P S σ o v:=fun a n D Z w hS=>by
 have e1:(Instr.lookup t (.map (some g)) key false).run P w= .ok v w:=by
  unfold Instr.lookup
  simp only [Sem.run_bind,run_underlying ht,Result.andThen_ok,MapKept.run_getObj_map (hb w hS),Sem.run_pure,run_checkKey hk hkey,run_findKey hk hf]
  rfl
 unfold execOp
 simp only [hop,Z.eval hm,Z.eval hx,Sem.run_bind,e1,Result.andThen_ok,Sem.run_pure]
theorem Yl.qyd {t kt et:TypeId} {kd:TypeDesc} {m x:Operand} {g clock:Nat} {es:Array MapEntry} {key z:Value} (hop:o.op= .lookup t m x false) (ht:P.underlying t=some (.map kt et)) (hk:P.underlying kt=some kd) (hm:look σ m=some (.map (some g))) (hx:look σ x=some key) (hb:∀w,S w→w.heap[g]?=some (.map es clock)) (hkey:IsKey kd key) (hf:Instr.findNow kd key es.toList 0=some none) (hz:(P.info? et).bind (·.zero)=some z):
  Yl P S σ o z:=fun a n D Z w hS=>by
 obtain ⟨inf,hi,hiz⟩:=Option.bind_eq_some_iff.1 hz
 have e1:(Instr.lookup t (.map (some g)) key false).run P w= .ok z w:=by
  unfold Instr.lookup
  simp only [Sem.run_bind,run_underlying ht,Result.andThen_ok,MapKept.run_getObj_map (hb w hS),Sem.run_pure,run_checkKey hk hkey,run_findKey hk hf,zeroValue,typeInfo,program,Sem.run,hi,hiz]
  rfl
 unfold execOp
 simp only [hop,Z.eval hm,Z.eval hx,Sem.run_bind,e1,Result.andThen_ok,Sem.run_pure]
theorem Yl.makeFunc {fn:Fn} {xs ys:Array Operand} {fst caps:List Value} (hop:o.op= .makeFunc fn xs ys) (hx:looks σ xs.toList=some fst) (hy:looks σ ys.toList=some caps):Yl P S σ o (.func fn fst.toArray caps.toArray):=fun a n D Z w hS=>by
 have e1:xs.map a.eval=fst.toArray:=by
  have:=G5 Z hx
  rw [←this,←Array.toList_map,Array.toArray_toList]
 have e2:ys.map a.eval=caps.toArray:=by
  have:=G5 Z hy
  rw [←this,←Array.toList_map,Array.toArray_toList]
 unfold execOp
 simp only [hop,Instr.makeFunc,Sem.run_bind,Sem.run_pure,Result.andThen_ok]
 show Result.ok (Next.value (.func fn (Array.map a.eval xs) (Array.map a.eval ys))) w=_
 rw [e1,e2]
theorem rA (Z:Fr a n D σ) {fo:Operand} {f:FuncId} {xs:Array Operand} {ts:Array TypeId} {vs fst caps:List Value} {R:Ending→World→Prop} (hop:o.op= .call {callee:= .value fo,args:=xs,argTypes:=ts}) (hfo:look σ fo=some (.func (.func f) fst.toArray caps.toArray)) (hv:looks σ xs.toList=some vs) (hf:callable P f=true) (hd:o.dst=some d) (hdn:d<n)
  (hC:Calls P f (fst++vs++caps).toArray w R) (k:∀e w',R e w'→∃v,e= .returned v∧∀a',Fr a' n D ((d,v)::σ)→K a' w'):o.wp P a w K Q:=by
 have e1:xs.map a.eval=vs.toArray:=by
  have:=G5 Z hv
  rw [←this,←Array.toList_map,Array.toArray_toList]
 unfold Oper.wp execOp
 simp only [hop,resolve,Z.eval hfo,Deferred.ofValue,invoke,Sem.run_bind,Sem.run_pure,Result.andThen_ok]
 have e3:fst.toArray++Array.map a.eval xs++caps.toArray=(fst++vs++caps).toArray:=by simp [e1]
 show Oper.upon P o a K Q (((callFunc f (fst.toArray++Array.map a.eval xs++caps.toArray)).run P w))
 rw [e3,KU hf,Oper.upon_enter]
 refine hC.mono fun e w' he=>?_
 obtain ⟨v,rfl,h2⟩:=k e w' he
 show K (a.put o.dst v) w'
 rw [hd]
 exact h2 _ (Z.put hdn v)
end
end Go.Proofs.YtekiimhdnigmcaaGreatDoor
