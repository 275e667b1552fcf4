/- A part of the proof. -/
import Derived.Test.YtekiimhdnigmcaaGreatDoorQtSep3
namespace Go.Proofs.YtekiimhdnigmcaaGreatDoor
open Go.RowKit
section
variable {P:Program} {Q:Exit→Act→World→Prop} {a:Act} {W w:World} {n d:Nat} {D:List Deferred} {σ:List (Nat×Value)} {o:Oper} {v:Value} {K:Act→World→Prop} {fs:List Fact}
def CG (P:Program) (e:TypeId):Option (Array Value):=((P.info? e).bind (·.zero)).map Value.cells
theorem q8h {b:Value} {e:TypeId} {cs:Array Value} (hr:(execOp a.eval o).run P w= .ok (.value (.pointer (some ⟨w.heap.size,0,none⟩))) (w.alloc (.cells cs e))) (Z:Fr a n D σ) (E:Mem W w fs) (hd:o.dst=some d) (hdn:d<n)
  (k:∀a' w' g,Fr a' n D ((d,.pointer (some ⟨g,0,none⟩))::σ)→Mem W w' (.blk g cs e::fs)→K a' w'):o.wp P a w K Q:=by
 have _:=b
 unfold Oper.wp
 rw [hr,Oper.upon_value,hd]
 exact k _ _ _ (Z.put hdn _) (E.alloc cs e)
theorem VE (Z:Fr a n D σ) (E:Mem W w fs) {e:TypeId} {cs:Array Value} (hop:o.op= .alloc e) (hz:CG P e=some cs) (hd:o.dst=some d) (hdn:d<n)
  (k:∀a' w' g,Fr a' n D ((d,.pointer (some ⟨g,0,none⟩))::σ)→Mem W w' (.blk g cs e::fs)→K a' w'):o.wp P a w K Q:=by
 refine q8h (b:=undef) ?_ Z E hd hdn k
 unfold CG at hz
 obtain ⟨z,hz1,rfl⟩:=Option.map_eq_some_iff.1 hz
 obtain ⟨i,hi,hz2⟩:=Option.bind_eq_some_iff.1 hz1
 unfold execOp
 simp [hop,Instr.alloc,zeroValue,typeInfo,hi,hz2,newVar,newRow,newObj]
 rfl
theorem EW (Z:Fr a n D σ) (E:Mem W w fs) {e:TypeId} {x:Operand} (hop:o.op= .box e x) (hx:look σ x=some v) {cs:Array Value} (hc:v.cells=cs) (hd:o.dst=some d) (hdn:d<n)
  (k:∀a' w' g,Fr a' n D ((d,.pointer (some ⟨g,0,none⟩))::σ)→Mem W w' (.blk g cs e::fs)→K a' w'):o.wp P a w K Q:=by
 subst hc
 refine q8h (b:=undef) ?_ Z E hd hdn k
 unfold execOp
 simp [hop,Z.eval hx,Instr.box,newVar,newRow,newObj]
 rfl
theorem qf3 {t:TypeId} {g off:Nat} (hs:(P.info? t).map (·.size)=some 1) (hv:v.oneCell'=true) {u:Value} (hc:w.cell? ⟨g,off,none⟩=some u) (hf:w.frozen? ⟨g,off,none⟩=false):
  (Instr.storeAt t (.pointer (some ⟨g,off,none⟩)) v).run P w= .ok () (w.setCell ⟨g,off,none⟩ v):=by
 have ht:w.there g off 1:=fun j hj=>by
  obtain rfl:j=0:=by omega
  simp [hc,hf]
 have hv1:v.cells= #[v]:=by cases v<;>first|rfl|cases hv
 have:=run_storeVar_mid (P:=P) w g off t #[v] (by simpa using ht) (by simpa using hs) (by simp [hv])
 have e2:storeVar t ⟨g,off,none⟩ v=storeVar t ⟨g,off,none⟩ (.agg #[v]):=by
  unfold storeVar
  rw [hv1]
  rfl
 simp only [Instr.storeAt,Instr.sureAddr,Sem.run_bind,Sem.run_pure,Result.andThen_ok,e2,this]
 rfl
theorem Sw (Z:Fr a n D σ) (E:Mem W w fs) {t:TypeId} {x y:Operand} {i g off:Nat} {cs:Array Value} {tb:TypeId} (hop:o.op= .store t x y) (hd:o.dst=none) (hx:look σ x=some (.pointer (some ⟨g,off,none⟩))) (hy:look σ y=some v) (hs:(P.info? t).map (·.size)=some 1) (hv:v.oneCell'=true)
  (hi:fs[i]?=some (.blk g cs tb)) (ho:off<cs.size) (k:∀w',Mem W w' (fs.set i (.blk g (cs.setIfInBounds off v) tb))→K a w'):o.wp P a w K Q:=by
 have hb:=E.blk hi
 have hc:w.cell? ⟨g,off,none⟩=some cs[off]:=E.cell hi (Array.getElem?_eq_getElem ho)
 have hf:w.frozen? ⟨g,off,none⟩=false:=by simp [World.frozen?,hb]
 unfold Oper.wp execOp
 simp only [hop,Z.eval hx,Z.eval hy,Sem.run_bind,qf3 hs hv hc hf,Result.andThen_ok,Sem.run_pure,Oper.upon_skip,hd]
 exact k _ (E.set hi v)
theorem qk2 (Z:Fr a n D σ) (E:Mem W w fs) {t:TypeId} {x y:Operand} {i g m:Nat} {cs ds:Array Value} {tb:TypeId} (hop:o.op= .store t x y) (hd:o.dst=none) (hx:look σ x=some (.pointer (some ⟨g,0,none⟩))) (hy:look σ y=some (.agg ds)) (si:SI P t m) (hc:cs.size=m) (hm:ds.size=m) (h1:∀u∈ds.toList,u.oneCell'=true)
  (hi:fs[i]?=some (.blk g cs tb)) (k:∀w',Mem W w' (fs.set i (.blk g ds tb))→K a w'):o.wp P a w K Q:=by
 have hb:=E.blk hi
 have hl:=run_storeVar_mid (P:=P) w g 0 t ds (by rw [hm];exact qc3 hb 0 m om) (by rw [hm];exact si.size) (by simpa using all_oneCell_toArray h1)
 unfold Oper.wp execOp
 simp only [hop,Z.eval hx,Z.eval hy,Sem.run_bind,Instr.storeAt,Instr.sureAddr,Sem.run_pure,hl,Result.andThen_ok,Oper.upon_skip,hd]
 exact k _ (E.GX hi om)
def callable (P:Program) (f:FuncId):Bool:=match P.funcs[f]? with
 | some fn => fn.name != "runtime.NumGoroutine" && fn.body.isSome
 |none=>false
theorem KU {f:FuncId} (h:callable P f=true) (args:Array Value) (w:World):(callFunc f args).run P w= .ok (.enter f args) w:=by
 unfold callable at h
 split at h
 ·rename_i fn hf
  rw [Bool.and_eq_true,bne_iff_ne] at h
  have hb:fn.body≠none:=by intro e;rw [e] at h;simp at h
  simp [callFunc,hf,h.1,hb,program,Sem.run,Sem.run_bind]
 ·cases h
def looks (σ:List (Nat×Value)):List Operand→Option (List Value)
 |[]=>some []
 |x::r=>match look σ x,looks σ r with
  |some v,some vs=>some (v::vs)
  |_,_=>none
theorem G5 (Z:Fr a n D σ):∀{xs:List Operand} {vs:List Value},looks σ xs=some vs→xs.map a.eval=vs
 |[],vs,h=>by cases h;rfl
 | x :: r, vs, h => by
  unfold looks at h
  split at h
  ·rename_i v us hx hr
   injection h with h
   subst h
   rw [List.map_cons,Z.eval hx,G5 Z hr]
  ·cases h
theorem EX (Z:Fr a n D σ) {f:FuncId} {xs:Array Operand} {ts:Array TypeId} {vs:List Value} {R:Ending→World→Prop} (hop:o.op= .call {callee:= .value (.func f),args:=xs,argTypes:=ts}) (hv:looks σ xs.toList=some vs) (hf:callable P f=true) (hd:o.dst=some d) (hdn:d<n)
  (hC:Calls P f vs.toArray w R) (k:∀e w',R e w'→∃v,e= .returned v∧∀a',Fr a' n D ((d,v)::σ)→K a' w'):o.wp P a w K Q:=by
 have e1:xs.map a.eval=vs.toArray:=by
  have:=G5 Z hv
  rw [←this,←Array.toList_map,Array.toArray_toList]
 unfold Oper.wp execOp
 simp only [hop,resolve,Act.eval,Deferred.ofValue,invoke,Sem.run_bind,Sem.run_pure,Result.andThen_ok]
 have e2:xs.map (fun x=>a.eval x)=vs.toArray:=e1
 have e3: #[]++Array.map a.eval xs++ #[]=vs.toArray:=by simp [e1]
 show Oper.upon P o a K Q (((callFunc f (#[]++Array.map a.eval xs++ #[])).run P w))
 rw [e3,KU hf,Oper.upon_enter]
 refine hC.mono fun e w' he=>?_
 obtain ⟨v,rfl,h2⟩:=k e w' he
 show K (a.put o.dst v) w'
 rw [hd]
 exact h2 _ (Z.put hdn v)
theorem rz (Z:Fr a n D σ) (vs:List Value) {f:FuncId} {xs:Array Operand} {ts:Array TypeId} {R:Ending→World→Prop} (hop:o.op= .call {callee:= .value (.func f),args:=xs,argTypes:=ts}) (hd:o.dst=some d) (hC:Calls P f vs.toArray w R)
  (k:∀e w',R e w'→∃v,e= .returned v∧∀a',Fr a' n D ((d,v)::σ)→K a' w') (hv:looks σ xs.toList=some vs:=by kernel_rfl) (hf:callable P f=true:=by kernel_rfl) (hdn:d<n:=by decide):o.wp P a w K Q:=EX Z hop hv hf hd hdn hC k
theorem zC (Z:Fr a n D σ) (E:Mem W w fs) (vs:List Value) (v:Value) {f:FuncId} {xs:Array Operand} {ts:Array TypeId} (hop:o.op= .call {callee:= .value (.func f),args:=xs,argTypes:=ts}) (hd:o.dst=some d)
  (hC:Calls P f vs.toArray w (fun r w'=>r= .returned v∧Below w.heap.size w w')) (k:∀w',Below w.heap.size w w'→Mem W w' fs→∀a',Fr a' n D ((d,v)::σ)→K a' w') (hv:looks σ xs.toList=some vs:=by kernel_rfl) (hf:callable P f=true:=by kernel_rfl) (hdn:d<n:=by decide):o.wp P a w K Q:=
 EX Z hop hv hf hd hdn hC fun _ w' ⟨h1,h2⟩=>⟨v,h1,k w' h2 (E.call h2)⟩
theorem iX (Z:Fr a n D σ) (E:Mem W w fs) (i:Nat) {t:TypeId} {x y:Operand} {g m:Nat} {cs ds:Array Value} {tb:TypeId} (hop:o.op= .store t x y) (hd:o.dst=none) (hx:look σ x=some (.pointer (some ⟨g,0,none⟩))) (hy:look σ y=some (.agg ds)) (hi:fs[i]?=some (.blk g cs tb)) (si:SI P t m) (hc:cs.size=m) (hm:ds.size=m) (h1:∀u∈ds.toList,u.oneCell'=true)
  (k:∀w',Mem W w' (fs.set i (.blk g ds tb))→K a w'):o.wp P a w K Q:=qk2 Z E hop hd hx hy si hc hm h1 hi k
end
end Go.Proofs.YtekiimhdnigmcaaGreatDoor
