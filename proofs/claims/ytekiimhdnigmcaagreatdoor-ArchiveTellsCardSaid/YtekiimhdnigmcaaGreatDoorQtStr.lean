/- A part of the proof. -/
import Derived.Test.YtekiimhdnigmcaaGreatDoorQtMem
import Derived.Deep.MidRow
import Derived.Deep.RegionHeld3
namespace Go.Proofs.YtekiimhdnigmcaaGreatDoor
open Go.RowKit
structure SI (P:Program) (t:TypeId) (n:Nat):Prop where
 row:(P.underlying t).map TypeDesc.isRow=some true
 size:(P.info? t).map (·.size)=some n
theorem SI.desc {P:Program} {t:TypeId} {n:Nat} (si:SI P t n):∃d,P.underlying t=some d∧d.isRow=true:=by
 have h:=si.row
 cases hu:P.underlying t with
 |none=>rw [hu] at h;cases h
 |some d=>rw [hu] at h;exact ⟨d,rfl,by simpa using h⟩
section
variable {P:Program} {ops:Array Oper} {rest:List Oper} {op:Oper} {a:Act} {w:World} {Q:Exit→Act→World→Prop} {t:TypeId} {n:Nat} {F:Fence} {fn:Nat}
end
section
variable {P:Program} {ops:Array Oper} {rest:List Oper} {op:Oper} {a:Act} {w:World} {Q:Exit→Act→World→Prop} {t e:TypeId} {z:Value} {size bytes:Nat} {F:Fence} {fn:Nat} {xs:List Value}
theorem qkp (ei:EI P t e z size bytes) {A:Option Addr} {n c j:Nat} {k:IntKind} (hj:j≤n):
  (Instr.sliceAt t (.slice A n c) (some (.int k (j:Int))) none none).run P w= .ok (.slice (if c=j then A else A.map (·.add (j*size))) (n-j) (c-j)) w:=by
 obtain ⟨i,hi,_,hs,_⟩:=info_parts ei.hi
 simp [Instr.sliceAt,run_underlying ei.ht,Instr.slice,Instr.sliceBounds,Instr.sliceBound,asIntOf,hj,sizeOf,typeInfo,hi,hs]
theorem qkq (ei:EI P t e z size bytes) {A:Option Addr} {n c j:Nat} {k:IntKind} (hj:j≤c):
  (Instr.sliceAt t (.slice A n c) none (some (.int k (j:Int))) none).run P w= .ok (.slice A j c) w:=by
 obtain ⟨i,hi,_,hs,_⟩:=info_parts ei.hi
 have h0:A.map (·.add 0)=A:=by cases A<;>simp [Addr.add]
 simp [Instr.sliceAt,run_underlying ei.ht,Instr.slice,Instr.sliceBounds,Instr.sliceBound,asIntOf,hj,sizeOf,typeInfo,hi,h0]
end
theorem qb {w:World} {b:Nat} {C:Array Value} {t:TypeId} {fr:Nat×Nat} (hb:w.heap[b]?=some (.cells C t fr)):w.rangeAt b 0 C.toList:=fun j v hv=>by
 unfold World.cell?;rw [hb];simpa using hv
theorem qc3 {w:World} {b:Nat} {C:Array Value} {t:TypeId} (hb:w.heap[b]?=some (.cells C t (0,0))) (o n:Nat) (hn:o+n≤C.size):w.there b o n:=fun j hj=>by
 refine ⟨?_,?_⟩
 ·unfold World.cell?;rw [hb]
  simp [Array.getElem?_eq_getElem (by omega:o+j<C.size)]
 ·unfold World.frozen?;rw [hb];simp
theorem R8 (b:Nat) (t:TypeId):∀(vs:List Value) (w:World) (pre suf:List Value) (cs:List Value),w.heap[b]?=some (.cells (pre++cs++suf).toArray t (0,0))→cs.length=vs.length→
  (w.setCells b pre.length vs).heap[b]?=some (.cells (pre++vs++suf).toArray t (0,0))
 |[],w,pre,suf,cs,h,hl=>by
  have:cs=[]:=List.eq_nil_of_length_eq_zero hl
  subst this
  exact h
 | v :: vs, w, pre, suf, cs, h, hl => by
  obtain ⟨c,cs',rfl⟩:∃c cs',cs=c::cs':=by
   cases cs with
   |nil=>simp at hl
   |cons c cs'=>exact ⟨c,cs',rfl⟩
  have h1:(w.setCell ⟨b,pre.length,none⟩ v).heap[b]?=some (.cells ((pre++[v])++cs'++suf).toArray t (0,0)):=by
   simp [World.setCell,Array.getElem?_modify,h]
  have h2:=R8 b t vs _ (pre++[v]) suf cs' h1 (by simpa using hl)
  rw [List.length_append] at h2
  simpa [World.setCells] using h2
theorem qfx {w:World} {b:Nat} {C:Array Value} {t:TypeId} (h:w.heap[b]?=some (.cells C t (0,0))) (vs:List Value) (hl:C.size=vs.length):(w.setCells b 0 vs).heap[b]?=some (.cells vs.toArray t (0,0)):=by
 have:=R8 b t vs w [] [] C.toList (by simpa using h) (by simpa using hl)
 simpa using this
theorem zp (b:Nat):∀(vs:List Value) (o:Nat) (w:World) (k:Nat),k≠b→(w.setCells b o vs).heap[k]?=w.heap[k]?
 |[],_,_,_,_=>rfl
 |v::vs,o,w,k,hk=>by
  have:=zp b vs (o+1) (w.setCell ⟨b,o,none⟩ v) k hk
  exact this.trans (Below.heap_setCell _ _ _ _ hk)
theorem R9 (b:Nat):∀(vs:List Value) (o:Nat) (w:World),(w.setCells b o vs).os=w.os∧(w.setCells b o vs).tape=w.tape∧(w.setCells b o vs).output=w.output∧(w.setCells b o vs).heap.size=w.heap.size
 |[],_,_=>⟨rfl,rfl,rfl,rfl⟩
 |v::vs,o,w=>by
  obtain ⟨h1,h2,h3,h4⟩:=R9 b vs (o+1) (w.setCell ⟨b,o,none⟩ v)
  exact ⟨h1.trans rfl,h2.trans rfl,h3.trans rfl,h4.trans (by simp [World.setCell])⟩
theorem gF.setCells {S:List Nat} {a w:World} (h:gF S a w) {b:Nat} (hb:b∈S∨a.heap.size≤b) (o:Nat) (vs:List Value):gF S a (w.setCells b o vs):=by
 obtain ⟨h1,h2,h3,h4⟩:=R9 b vs o w
 refine ⟨h1.trans h.os,h2.trans h.tape,h3.trans h.output,by rw [h4];exact h.size,fun k hk hs=>?_⟩
 rw [zp b vs o w k (fun e=>by subst e;rcases hb with h1|h1;exact hs h1;omega)]
 exact h.block k hk hs
theorem below_setCells {B:Nat} {a w:World} (h:Below B a w) {b:Nat} (hb:B≤b) (o:Nat) (vs:List Value):Below B a (w.setCells b o vs):=by
 obtain ⟨h1,h2,h3,h4⟩:=R9 b vs o w
 refine ⟨h1.trans h.os,h2.trans h.tape,h3.trans h.output,by rw [h4];exact h.size,fun k hk=>?_⟩
 rw [zp b vs o w k (by omega)]
 exact h.block k hk
@[simp] theorem size_setCells (w:World) (b o:Nat) (vs:List Value):(w.setCells b o vs).heap.size=w.heap.size:=(R9 b vs o w).2.2.2
theorem qg3 (t:TypeId) (w:World):∀(vs pre suf cs:List Value),cs.length=vs.length→(w.alloc (.cells (pre++cs++suf).toArray t)).setCells w.heap.size pre.length vs=w.alloc (.cells (pre++vs++suf).toArray t)
 |[],pre,suf,cs,hl=>by
  have:cs=[]:=List.eq_nil_of_length_eq_zero hl
  subst this;rfl
 | v :: vs, pre, suf, cs, hl => by
  obtain ⟨c,cs',rfl⟩:∃c cs',cs=c::cs':=by
   cases cs with
   |nil=>simp at hl
   |cons c cs'=>exact ⟨c,cs',rfl⟩
  have h1:(w.alloc (.cells (pre++(c::cs')++suf).toArray t)).setCell ⟨w.heap.size,pre.length,none⟩ v=w.alloc (.cells ((pre++[v])++cs'++suf).toArray t):=by
   rw [World.setCell_alloc_new];simp
  have h2:=qg3 t w vs (pre++[v]) suf cs' (by simpa using hl)
  rw [List.length_append] at h2
  show ((w.alloc _).setCell ⟨w.heap.size,pre.length,none⟩ v).setCells w.heap.size (pre.length+1) vs=_
  rw [h1]
  simpa using h2
section
variable {P:Program} {ops:Array Oper} {rest:List Oper} {op:Oper} {a:Act} {w:World} {Q:Exit→Act→World→Prop} {t tt:TypeId} {n:Nat} {F:Fence} {fn:Nat} {C cs:Array Value} {x y:Operand}
end
theorem GV {α:Type} (f:α→List Value) (sz:Nat) (hf:∀x,(f x).length=sz):∀(l:List α) (k j:Nat) (hk:k<l.length),j<sz→(l.flatMap f)[k*sz+j]?=(f l[k])[j]?
 |[],k,_,hk,_=>by simp at hk
 |x::l,0,j,_,hj=>by
  rw [List.flatMap_cons,Nat.zero_mul,Nat.zero_add,List.getElem?_append_left (by rw [hf];exact hj)];rfl
 |x::l,k+1,j,hk,hj=>by
  rw [List.flatMap_cons,List.getElem?_append_right (by rw [hf,Nat.succ_mul];omega),hf]
  have:=GV f sz hf l k j (by simpa using hk) hj
  rw [show (k+1)*sz+j-sz=k*sz+j by rw [Nat.succ_mul];omega,this]
  rfl
theorem KN {α:Type} (f:α→List Value) (sz:Nat) (hf:∀x,(f x).length=sz) (l:List α):(l.flatMap f).length=l.length*sz:=by
 induction l with
 |nil=>simp
 |cons x l ih=>rw [List.flatMap_cons,List.length_append,hf,ih,List.length_cons,Nat.succ_mul];omega
theorem qoi {w:World} {a:Addr} {v:Value} (h:w.cell? a=some v):a.spot=none:=by
 unfold World.cell? at h
 split at h
 ·split at h
  ·cases h
  ·rename_i hs;simpa using hs
 ·cases h
theorem Rd.struct {α:Type} {f:α→List Value} {sz:Nat} (hf:∀x,(f x).length=sz) (hsz:0<sz) {w:World} {B n:Nat} {A:Option Addr} {l:List α} (h:Rd w B sz A n (l.flatMap f)) (hn:0<n):
  ∃g o,A=some ⟨g,o,none⟩∧g<B∧l.length=n∧∀k (hk:k<l.length),w.rangeAt g (o+k*sz) (f l[k]):=by
 have hl:l.length=n:=by
  have:=h.len
  rw [KN f sz hf] at this
  exact Nat.eq_of_mul_eq_mul_right hsz this
 obtain ⟨ad,rfl,hb,hc⟩:=h.row hn
 have h0:=GV f sz hf l 0 0 (by omega) hsz
 obtain ⟨v,hv⟩:∃v,(f (l[0]'(by omega)))[0]?=some v:=⟨_,List.getElem?_eq_getElem (by rw [hf (l[0]'(by omega))];exact hsz)⟩
 have hs:=qoi (hc (0*sz+0) v (h0.trans hv))
 have hs':ad.spot=none:=by simpa [Addr.add] using hs
 obtain ⟨g,o,sp⟩:=ad
 cases hs'
 refine ⟨g,o,rfl,hb,hl,fun k hk j u hu=>?_⟩
 have hj:j<sz:=by have:=(List.getElem?_eq_some_iff.1 hu).1;rwa [hf] at this
 have:=hc (k*sz+j) u ((GV f sz hf l k j hk hj).trans hu)
 rw [Addr.add_mid,←Nat.add_assoc] at this
 exact this
end Go.Proofs.YtekiimhdnigmcaaGreatDoor
