/- A part of the proof. -/
import Derived.Test.YtcajpeiobkcliaaGreatDoorQiSep5
import Derived.Test.YtcajpeiobkcliaaGreatDoorQiConv
import Derived.IntWalk
namespace Go.Proofs.YtcajpeiobkcliaaGreatDoor
open Go.RowKit
theorem Yl.str {S:World→Prop} {σ:List (Nat×Value)} {o:Oper} {x:Operand} {A:Option Addr} {n c:Nat} {l:List Nat} (hop:o.op= .convert 43 9 x) (hx:look σ x=some (.slice A n c)) (hr:∀w,S w→Rd w w.heap.size 1 A n (l.map B8)):Yl Tryz.prog S σ o (.string (bstr l)):=fun a m D Z w hS=>by
 unfold execOp
 simp [hop,Z.eval hx,qzq (hr w hS)]
theorem qyv (l:List Nat):∀u∈l.map B8,u.oneCell'=true:=by
 intro u hu
 obtain ⟨x,_,rfl⟩:=List.mem_map.1 hu
 rfl
theorem qzw (l:List Nat):((bstr l).toList==(bstr l).toList)=true:=by simp
theorem Mem.le {W w:World} {fs:List Fact} (h:Mem W w fs) {B:Nat} (hB:B≤W.heap.size):B≤w.heap.size:=Nat.le_trans hB h.size
theorem qcg {x:Int} (h: -9223372036854775808≤x∧x≤9223372036854775807):Value.int .i64 (IntKind.i64.wrap x)= .int .i64 x:=by rw [IntWalk.i64_in x h]
def qc8 (w:World) (er:Nat) (R:List Nat) (r:Ending) (w':World):Prop:=
 (∃A c,r= .returned (.tuple #[.slice A R.length c,.int .i64 (er:Int)])∧w'.ownsRow w.heap.size 5 1 (.slice A R.length c) R.length (R.map B8)∧R.length≤c)∧Below w.heap.size w w'
section
variable {P:Program} {S:World→Prop} {σ:List (Nat×Value)} {o:Oper} {t e:TypeId} {z:Value} {size bytes:Nat}
theorem Yl.sliceFrom (ei:EI P t e z size bytes) {x lo:Operand} {A:Option Addr} {m c j:Nat} {k:IntKind} (hop:o.op= .slice t x (some lo) none none) (hx:look σ x=some (.slice A m c)) (hl:look σ lo=some (.int k (j:Int))) (hj:j≤m):
  Yl P S σ o (.slice (if c=j then A else A.map (·.add (j*size))) (m-j) (c-j)):=fun a n D Z w hS=>by
 unfold execOp
 simp only [hop,Z.eval hx,Z.eval hl,Option.map_some,Option.map_none,Sem.run_bind,Sem.run_pure,qh1 (P:=P) ei hj,Result.andThen_ok]
theorem Yl.qa3 (ei:EI P t e z size bytes) {x hi:Operand} {A:Option Addr} {m c j:Nat} {k:IntKind} (hop:o.op= .slice t x none (some hi) none) (hx:look σ x=some (.slice A m c)) (hl:look σ hi=some (.int k (j:Int))) (hj:j≤c):
  Yl P S σ o (.slice A j c):=fun a n D Z w hS=>by
 unfold execOp
 simp only [hop,Z.eval hx,Z.eval hl,Option.map_some,Option.map_none,Sem.run_bind,Sem.run_pure,qh2 (P:=P) ei hj,Result.andThen_ok]
end
section
variable {P:Program} {S:World→Prop} {σ:List (Nat×Value)} {o:Oper}
def placesOf (P:Program):List Field→Option (List (Nat×Nat))
 |[]=>some []
 |f::r=>match P.info? f.type,placesOf P r with
  |some i,some l=>some ((f.offset,i.size)::l)
  |_,_=>none
theorem qfo:∀{fs:List Field} {l:List (Nat×Nat)},placesOf P fs=some l→∀w,(fs.mapM fun f=>(do pure (f.offset,←sizeOf f.type):Sem (Nat×Nat))).run P w= .ok l w
 |[],l,h,w=>by cases h;rfl
 | f :: r, l, h, w => by
  unfold placesOf at h
  split at h
  ·rename_i i l' hi hr
   injection h with h
   subst h
   simp [List.mapM_cons,sizeOf,typeInfo,hi]
   have:=qfo hr w
   simp [sizeOf,typeInfo] at this
   simp [this]
  ·cases h
def qib (P:Program) (t:TypeId) (vs:List (Nat×Value)):Option (Array Value):=match P.underlying t,zl P t with
 |some (.struct fs),some z=>match placesOf P fs.toList with
  |some l=>Instr.fill (l.toArray[·]?) z vs
  |none=>none
 |_,_=>none
theorem Yl.build {t:TypeId} {ps:Array (Nat×Operand)} {vs:List (Nat×Value)} {cs:Array Value} (hop:o.op= .build t ps) (hv:qbb σ ps.toList=some vs) (hb:qib P t vs=some cs):Yl P S σ o (.agg cs):=fun a n D Z w hS=>by
 have hpm:=qc4 Z hv
 have e1:(Instr.build t (ps.map fun p=>(p.1,a.eval p.2))).run P w= .ok (.agg cs) w:=by
  rw [hpm]
  unfold qib at hb
  split at hb
  ·rename_i fs z hu hz
   split at hb
   ·rename_i l hl
    unfold zl at hz
    obtain ⟨zv,hz1,rfl⟩:=Option.map_eq_some_iff.1 hz
    obtain ⟨i,hi,hz2⟩:=Option.bind_eq_some_iff.1 hz1
    have hm:(fs.mapM fun f=>(do Pure.pure (f.offset,←sizeOf f.type):Sem (Nat×Nat))).run P w= .ok l.toArray w:=by
     rw [←Array.toArray_toList (xs:=fs),List.mapM_toArray]
     simp only [Sem.run_map,qfo hl]
     rfl
    unfold Instr.build
    simp only [Sem.run_bind,zeroValue,typeInfo,program,Sem.run,hi,hz2,Sem.run_pure,Result.andThen_ok,run_underlying hu,hm,hb]
   ·cases hb
  ·cases hb
 unfold execOp
 simp only [hop,Sem.run_bind,Sem.run_pure]
 show ((Instr.build t (ps.map fun p=>(p.1,a.eval p.2))).run P w).andThen _=_
 rw [e1]
 rfl
end
theorem qn {w:World} {base:Nat} {e:TypeId} {size n c:Nat} {A:Option Addr} {xs:List Value} (h:w.ownsRow base e size (.slice A n c) n xs) (hn:0<n):∃g,A=some ⟨g,0,none⟩:=by
 obtain ⟨g,c',h1,_⟩:=q2a h hn
 injection h1 with h1 _ _
 exact ⟨g,h1⟩
theorem Mem.qde {W w:World} {fs:List Fact} (h:Mem W w fs) {α:Type} {f:α→List Value} {sz:Nat} (hf:∀x,(f x).length=sz) {i g m c:Nat} {e:TypeId} {l:List α} (hi:fs[i]?=some (.row (.slice (some ⟨g,0,none⟩) m c) m (l.flatMap f) e sz)) {k:Nat} {x:α} (hk:l[k]?=some x):w.rangeAt g (k*sz) (f x):=
 h.qga hi (k*sz) fun j u hu=>by
  obtain ⟨hl,he⟩:=List.getElem?_eq_some_iff.1 hk
  have hj:j<sz:=by have:=(List.getElem?_eq_some_iff.1 hu).1;rwa [hf] at this
  rw [qc1 f sz hf l k j hl hj,he]
  exact hu
end Go.Proofs.YtcajpeiobkcliaaGreatDoor
