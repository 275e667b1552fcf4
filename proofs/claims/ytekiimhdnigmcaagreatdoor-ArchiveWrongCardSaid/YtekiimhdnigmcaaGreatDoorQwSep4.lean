/- A part of the proof. -/
import Derived.Test.YtekiimhdnigmcaaGreatDoorQwSep3
set_option linter.all false
namespace Go.Proofs.YtekiimhdnigmcaaGreatDoor
open Go.RowKit
open Result renaming andThen_ok→abA
open Sem renaming run_bind→abE,run_pure→abK
open Oper renaming wp→acX,upon_skip→afL
open _root_.Array renaming map→adC
open Instr renaming storeAt→afg,sureAddr→afm
section
variable {P:Program} {Q:Exit→Act→World→Prop} {a:Act} {W w:World} {n d:Nat} {D:List Deferred} {σ:List (Nat×Value)} {o:Oper} {v:Value} {K:Act→World→Prop} {fs:List Fact}
def wK (P:Program) (e:TypeId):Option (Array Value):=((P.info? e).bind (·.zero)).map Value.cells
def U1 {b:Value} {e:TypeId} {C:Array Value} (hr:(execOp a.eval o).run P w= .ok (.value (.pointer (some ⟨w.heap.size,0,none⟩))) (w.alloc (.cells C e))) (Z:Fr a n D σ) (i:Mem W w fs) (j:o.dst=some d) (c:d<n)
  (k:∀f h g,Fr f n D ((d,.pointer (some ⟨g,0,none⟩))::σ)→Mem W h (.blk g C e::fs)→K f h):o.wp P a w K Q:=by
 have _:=b
 unfold acX
 rw [hr,Oper.upon_value,j]
 exact k _ _ _ (Z.put c _) (i.alloc C e)
def Nz (Z:Fr a n D σ) (p:Mem W w fs) {e:TypeId} {C:Array Value} (c:o.op= .alloc e) (hz:wK P e=some C) (q:o.dst=some d) (f:d<n)
  (k:∀l m g,Fr l n D ((d,.pointer (some ⟨g,0,none⟩))::σ)→Mem W m (.blk g C e::fs)→K l m):o.wp P a w K Q:=by
 refine U1 (b:=undef) ?_ Z p q f k
 unfold wK at hz
 obtain ⟨z,h,rfl⟩:=Option.map_eq_some_iff.1 hz
 obtain ⟨i,hi,j⟩:=Option.bind_eq_some_iff.1 h
 unfold execOp
 simp [c,Instr.alloc,zeroValue,typeInfo,hi,j,newVar,newRow,newObj]
 rfl
def zA (Z:Fr a n D σ) (j:Mem W w fs) {e:TypeId} {x:Operand} (c:o.op= .box e x) (l:look σ x=some v) {C:Array Value} (hc:v.cells=C) (m:o.dst=some d) (f:d<n)
  (k:∀h i g,Fr h n D ((d,.pointer (some ⟨g,0,none⟩))::σ)→Mem W i (.blk g C e::fs)→K h i):o.wp P a w K Q:=by
 subst hc
 refine U1 (b:=undef) ?_ Z j m f k
 unfold execOp
 simp [c,Z.eval l,Instr.box,newVar,newRow,newObj]
 rfl
theorem U2 {t:TypeId} {g off:Nat} (hs:(P.info? t).map (·.size)=some 1) (c:v.oneCell'=true) {u:Value} (hc:w.cell? ⟨g,off,none⟩=some u) (e:w.frozen? ⟨g,off,none⟩=false):
  (afg t (.pointer (some ⟨g,off,none⟩)) v).run P w= .ok () (w.setCell ⟨g,off,none⟩ v):=by
 have ht:w.there g off 1:=λj f=>by
  obtain rfl:j=0:=by omega
  simp [hc,e]
 have b:v.cells= #[v]:=by cases v<;>first|rfl|cases c
 have:=run_storeVar_mid (P:=P) w g off t #[v] (by simpa using ht) (by simpa using hs) (by simp [c])
 have e2:storeVar t ⟨g,off,none⟩ v=storeVar t ⟨g,off,none⟩ (.agg #[v]):=by
  unfold storeVar
  rw [b]
  rfl
 simp only [afg,afm,abE,abK,abA,e2,this]
 rfl
theorem pX (Z:Fr a n D σ) (b:Mem W w fs) {t:TypeId} {x y:Operand} {i g off:Nat} {C:Array Value} {tb:TypeId} (c:o.op= .store t x y) (f:o.dst=none) (h:look σ x=some (.pointer (some ⟨g,off,none⟩))) (hy:look σ y=some v) (hs:(P.info? t).map (·.size)=some 1) (j:v.oneCell'=true)
  (hi:fs[i]?=some (.blk g C tb)) (l:off<C.size) (k:∀e,Mem W e (fs.set i (.blk g (C.setIfInBounds off v) tb))→K a e):o.wp P a w K Q:=by
 have m:=b.blk hi
 have hc:w.cell? ⟨g,off,none⟩=some C[off]:=b.cell hi (Array.getElem?_eq_getElem l)
 have p:w.frozen? ⟨g,off,none⟩=false:=by simp [World.frozen?,m]
 unfold acX execOp
 simp only [c,Z.eval h,Z.eval hy,abE,U2 hs j hc p,abA,abK,afL,f]
 exact k _ (b.set hi v)
def U3 (Z:Fr a n D σ) (c:Mem W w fs) {t:TypeId} {x y:Operand} {i g m:Nat} {C ds:Array Value} {tb:TypeId} (b:o.op= .store t x y) (f:o.dst=none) (h:look σ x=some (.pointer (some ⟨g,0,none⟩))) (hy:look σ y=some (.agg ds)) (j:SI P t m) (hc:C.size=m) (hm:ds.size=m) (h1:∀u∈ds.toList,u.oneCell'=true)
  (hi:fs[i]?=some (.blk g C tb)) (k:∀e,Mem W e (fs.set i (.blk g ds tb))→K a e):o.wp P a w K Q:=by
 have l:=c.blk hi
 have p:=run_storeVar_mid (P:=P) w g 0 t ds (by rw [hm];exact Uz l 0 m om) (by rw [hm];exact j.size) (by simpa using all_oneCell_toArray h1)
 unfold acX execOp
 simp only [b,Z.eval h,Z.eval hy,abE,afg,afm,abK,p,abA,afL,f]
 exact k _ (c.AQ hi om)
def callable (P:Program) (f:FuncId):Bool:=match P.funcs[f]? with
 | some fn => fn.name != "runtime.NumGoroutine" && fn.body.isSome
 |none=>false
theorem Df {f:FuncId} (h:callable P f=true) (args:Array Value) (w:World):(callFunc f args).run P w= .ok (.enter f args) w:=by
 unfold callable at h
 split at h
 ·rename_i fn b
  rw [Bool.and_eq_true,bne_iff_ne] at h
  have c:fn.body≠none:=by intro e;rw [e] at h;simp at h
  simp [callFunc,b,h.1,c,program,Sem.run,abE]
 ·cases h
def looks (σ:List (Nat×Value)):List Operand→Option (List Value)
 |[]=>some []
 |x::r=>match look σ x,looks σ r with
  |some v,some b=>some (v::b)
  |_,_=>none
theorem zB (Z:Fr a n D σ):∀{xs:List Operand} {b:List Value},looks σ xs=some b→xs.map a.eval=b
 |[],b,h=>by cases h;rfl
 | x :: r, b, h => by
  unfold looks at h
  split at h
  ·rename_i v f c e
   injection h with h
   subst h
   rw [List.map_cons,Z.eval c,zB Z e]
  ·cases h
def zC (Z:Fr a n D σ) {f:FuncId} {xs:Array Operand} {ts:Array TypeId} {vs:List Value} {R:Ending→World→Prop} (c:o.op= .call {callee:= .value (.func f),args:=xs,argTypes:=ts}) (i:looks σ xs.toList=some vs) (j:callable P f=true) (l:o.dst=some d) (g:d<n)
  (m:Calls P f vs.toArray w R) (k:∀e b,R e b→∃v,e= .returned v∧∀h,Fr h n D ((d,v)::σ)→K h b):o.wp P a w K Q:=by
 have e1:xs.map a.eval=vs.toArray:=by
  have:=zB Z i
  rw [←this,←Array.toList_map,Array.toArray_toList]
 unfold acX execOp
 simp only [c,resolve,Act.eval,Deferred.ofValue,invoke,abE,abK,abA]
 have e2:xs.map (λx=>a.eval x)=vs.toArray:=e1
 have e3: #[]++adC a.eval xs++ #[]=vs.toArray:=by simp [e1]
 show Oper.upon P o a K Q (((callFunc f (#[]++adC a.eval xs++ #[])).run P w))
 rw [e3,Df j,Oper.upon_enter]
 refine m.mono λe b p=>?_
 obtain ⟨v,rfl,h2⟩:=k e b p
 show K (a.put o.dst v) b
 rw [l]
 exact h2 _ (Z.put g v)
def kQ (Z:Fr a n D σ) (vs:List Value) {f:FuncId} {xs:Array Operand} {ts:Array TypeId} {R:Ending→World→Prop} (b:o.op= .call {callee:= .value (.func f),args:=xs,argTypes:=ts}) (i:o.dst=some d) (j:Calls P f vs.toArray w R)
  (k:∀e g,R e g→∃v,e= .returned v∧∀h,Fr h n D ((d,v)::σ)→K h g) (l:looks σ xs.toList=some vs:=by kernel_rfl) (m:callable P f=true:=by kernel_rfl) (c:d<n:=by decide):o.wp P a w K Q:=zC Z b l m i c j k
def iV (Z:Fr a n D σ) (h:Mem W w fs) (vs:List Value) (v:Value) {f:FuncId} {xs:Array Operand} {ts:Array TypeId} (c:o.op= .call {callee:= .value (.func f),args:=xs,argTypes:=ts}) (i:o.dst=some d)
  (j:Calls P f vs.toArray w (λr b=>r= .returned v∧Below w.heap.size w b)) (k:∀b,Below w.heap.size w b→Mem W b fs→∀g,Fr g n D ((d,v)::σ)→K g b) (l:looks σ xs.toList=some vs:=by kernel_rfl) (m:callable P f=true:=by kernel_rfl) (e:d<n:=by decide):o.wp P a w K Q:=
 zC Z c l m i e j λ_ b ⟨h1,h2⟩=>⟨v,h1,k b h2 (h.call h2)⟩
def cZ (Z:Fr a n D σ) (e:Mem W w fs) (i:Nat) {t:TypeId} {x y:Operand} {g m:Nat} {C ds:Array Value} {tb:TypeId} (b:o.op= .store t x y) (f:o.dst=none) (h:look σ x=some (.pointer (some ⟨g,0,none⟩))) (hy:look σ y=some (.agg ds)) (hi:fs[i]?=some (.blk g C tb)) (j:SI P t m) (hc:C.size=m) (hm:ds.size=m) (h1:∀u∈ds.toList,u.oneCell'=true)
  (k:∀c,Mem W c (fs.set i (.blk g ds tb))→K a c):o.wp P a w K Q:=U3 Z e b f h hy j hc hm h1 hi k
end
end Go.Proofs.YtekiimhdnigmcaaGreatDoor
