/- A part of the proof. -/
import Derived.Test.YtekiimhdnigmcaaGreatDoorQwMem
import Derived.Deep.MidRow
import Derived.Deep.RegionHeld3
namespace Go.Proofs.YtekiimhdnigmcaaGreatDoor
open Go.RowKit
open List renaming length→abk
open _root_.List renaming length_append→abm,flatMap_cons→abL,eq_nil_of_length_eq_zero→ac6
open Instr renaming sliceAt→adl,sliceBounds→aeZ,sliceBound→ae7,slice→aga
open Nat renaming succ_mul→ads
open World renaming cell?→aeo,setCell→afC
variable {t:TypeId} {w:World} {b:Nat} {C:Array Value} {α:Type}
structure SI (P:Program) (t:TypeId) (n:Nat):Prop where
 row:(P.underlying t).map TypeDesc.isRow=some true
 size:(P.info? t).map (·.size)=some n
theorem SI.desc {P:Program} {n:Nat} (b:SI P t n):∃d,P.underlying t=some d∧d.isRow=true:=by
 have h:=b.row
 cases hu:P.underlying t with
 |none=>rw [hu] at h;cases h
 |some d=>rw [hu] at h;exact ⟨d,rfl,by simpa using h⟩
section
variable {P:Program} {ops:Array Oper} {rest:List Oper} {op:Oper} {a:Act} {w:World} {Q:Exit→Act→World→Prop} {t:TypeId} {n:Nat} {F:Fence} {fn:Nat}
end
section
variable {P:Program} {ops:Array Oper} {rest:List Oper} {op:Oper} {a:Act} {w:World} {Q:Exit→Act→World→Prop} {t e:TypeId} {z:Value} {size bytes:Nat} {F:Fence} {fn:Nat} {xs:List Value}
theorem qlw (b:EI P t e z size bytes) {A:Option Addr} {n c j:Nat} {k:IntKind} (d:j≤n):
  (adl t (.slice A n c) (some (.int k (j:Int))) none none).run P w= .ok (.slice (if c=j then A else A.map (·.add (j*size))) (n-j) (c-j)) w:=by
 obtain ⟨i,hi,_,hs,_⟩:=info_parts b.hi
 simp [adl,run_underlying b.ht,aga,aeZ,ae7,asIntOf,d,sizeOf,typeInfo,hi,hs]
theorem qlx (b:EI P t e z size bytes) {A:Option Addr} {n c j:Nat} {k:IntKind} (d:j≤c):
  (adl t (.slice A n c) none (some (.int k (j:Int))) none).run P w= .ok (.slice A j c) w:=by
 obtain ⟨i,hi,_,hs,_⟩:=info_parts b.hi
 have h0:A.map (·.add 0)=A:=by cases A<;>simp [Addr.add]
 simp [adl,run_underlying b.ht,aga,aeZ,ae7,asIntOf,d,sizeOf,typeInfo,hi,h0]
end
theorem qi {fr:Nat×Nat} (hb:w.heap[b]?=some (.cells C t fr)):w.rangeAt b 0 C.toList:=λj v c=>by
 unfold aeo;rw [hb];simpa using c
theorem Uz (hb:w.heap[b]?=some (.cells C t (0,0))) (o n:Nat) (c:o+n≤C.size):w.there b o n:=λj d=>by
 refine ⟨?_,?_⟩
 ·unfold aeo;rw [hb]
  simp [Array.getElem?_eq_getElem (by omega:o+j<C.size)]
 ·unfold World.frozen?;rw [hb];simp
theorem Nb (b:Nat) (t:TypeId):∀(g:List Value) (w:World) (pre d:List Value) (cs:List Value),w.heap[b]?=some (.cells (pre++cs++d).toArray t (0,0))→abk cs=abk g→
  (w.setCells b (abk pre) g).heap[b]?=some (.cells (pre++g++d).toArray t (0,0))
 |[],w,pre,d,cs,h,i=>by
  have:cs=[]:=ac6 i
  subst this
  exact h
 | v :: g, w, pre, d, cs, h, i => by
  obtain ⟨c,f,rfl⟩:∃c f,cs=c::f:=by
   cases cs with
   |nil=>simp at i
   |cons c f=>exact ⟨c,f,rfl⟩
  have h1:(w.setCell ⟨b,abk pre,none⟩ v).heap[b]?=some (.cells ((pre++[v])++f++d).toArray t (0,0)):=by
   simp [afC,Array.getElem?_modify,h]
  have h2:=Nb b t g _ (pre++[v]) d f h1 (by simpa using i)
  rw [abm] at h2
  simpa [World.setCells] using h2
theorem qgp (h:w.heap[b]?=some (.cells C t (0,0))) (vs:List Value) (c:C.size=abk vs):(w.setCells b 0 vs).heap[b]?=some (.cells vs.toArray t (0,0)):=by
 have:=Nb b t vs w [] [] C.toList (by simpa using h) (by simpa using c)
 simpa using this
theorem Ep (b:Nat):∀(c:List Value) (o:Nat) (w:World) (k:Nat),k≠b→(w.setCells b o c).heap[k]?=w.heap[k]?
 |[],_,_,_,_=>rfl
 |v::c,o,w,k,d=>by
  have:=Ep b c (o+1) (w.setCell ⟨b,o,none⟩ v) k d
  exact this.trans (Below.heap_setCell _ _ _ _ d)
theorem Kc (b:Nat):∀(c:List Value) (o:Nat) (w:World),(w.setCells b o c).os=w.os∧(w.setCells b o c).tape=w.tape∧(w.setCells b o c).output=w.output∧(w.setCells b o c).heap.size=w.heap.size
 |[],_,_=>⟨rfl,rfl,rfl,rfl⟩
 |v::c,o,w=>by
  obtain ⟨h1,h2,h3,h4⟩:=Kc b c (o+1) (w.setCell ⟨b,o,none⟩ v)
  exact ⟨h1.trans rfl,h2.trans rfl,h3.trans rfl,h4.trans (by simp [afC])⟩
theorem jN.setCells {S:List Nat} {a:World} (h:jN S a w) {b:Nat} (hb:b∈S∨a.heap.size≤b) (o:Nat) (vs:List Value):jN S a (w.setCells b o vs):=by
 obtain ⟨h1,h2,h3,h4⟩:=Kc b vs o w
 refine ⟨h1.trans h.os,h2.trans h.tape,h3.trans h.output,by rw [h4];exact h.size,λk c hs=>?_⟩
 rw [Ep b vs o w k (λe=>by subst e;rcases hb with h1|h1;exact hs h1;omega)]
 exact h.block k c hs
theorem below_setCells {B:Nat} {a:World} (h:Below B a w) {b:Nat} (hb:B≤b) (o:Nat) (vs:List Value):Below B a (w.setCells b o vs):=by
 obtain ⟨h1,h2,h3,h4⟩:=Kc b vs o w
 refine ⟨h1.trans h.os,h2.trans h.tape,h3.trans h.output,by rw [h4];exact h.size,λk c=>?_⟩
 rw [Ep b vs o w k (by omega)]
 exact h.block k c
@[simp] theorem size_setCells (w:World) (b o:Nat) (vs:List Value):(w.setCells b o vs).heap.size=w.heap.size:=(Kc b vs o w).2.2.2
theorem qh0 (t:TypeId) (w:World):∀(f pre b cs:List Value),abk cs=abk f→(w.alloc (.cells (pre++cs++b).toArray t)).setCells w.heap.size (abk pre) f=w.alloc (.cells (pre++f++b).toArray t)
 |[],pre,b,cs,g=>by
  have:cs=[]:=ac6 g
  subst this;rfl
 | v :: f, pre, b, cs, g => by
  obtain ⟨c,d,rfl⟩:∃c d,cs=c::d:=by
   cases cs with
   |nil=>simp at g
   |cons c d=>exact ⟨c,d,rfl⟩
  have h1:(w.alloc (.cells (pre++(c::d)++b).toArray t)).setCell ⟨w.heap.size,abk pre,none⟩ v=w.alloc (.cells ((pre++[v])++d++b).toArray t):=by
   rw [World.setCell_alloc_new];simp
  have h2:=qh0 t w f (pre++[v]) b d (by simpa using g)
  rw [abm] at h2
  show ((w.alloc _).setCell ⟨w.heap.size,abk pre,none⟩ v).setCells w.heap.size (abk pre+1) f=_
  rw [h1]
  simpa using h2
section
variable {P:Program} {ops:Array Oper} {rest:List Oper} {op:Oper} {a:Act} {w:World} {Q:Exit→Act→World→Prop} {t tt:TypeId} {n:Nat} {F:Fence} {fn:Nat} {C cs:Array Value} {x y:Operand}
end
theorem y5 (f:α→List Value) (sz:Nat) (b:∀x,abk (f x)=sz):∀(l:List α) (k j:Nat) (c:k<abk l),j<sz→(l.flatMap f)[k*sz+j]?=(f l[k])[j]?
 |[],k,_,c,_=>by simp at c
 |x::l,0,j,_,d=>by
  rw [abL,Nat.zero_mul,Nat.zero_add,List.getElem?_append_left (by rw [b];exact d)];rfl
 |x::l,k+1,j,c,d=>by
  rw [abL,List.getElem?_append_right (by rw [b,ads];omega),b]
  have:=y5 f sz b l k j (by simpa using c) d
  rw [show (k+1)*sz+j-sz=k*sz+j by rw [ads];omega,this]
  rfl
theorem zk (f:α→List Value) (sz:Nat) (b:∀x,abk (f x)=sz) (l:List α):abk (l.flatMap f)=abk l*sz:=by
 induction l with
 |nil=>simp
 |cons x l c=>rw [abL,abm,b,c,List.length_cons,ads];omega
theorem UA {a:Addr} {v:Value} (h:w.cell? a=some v):a.spot=none:=by
 unfold aeo at h
 split at h
 ·split at h
  ·cases h
  ·rename_i hs;simpa using hs
 ·cases h
theorem Rd.struct {f:α→List Value} {sz:Nat} (c:∀x,abk (f x)=sz) (b:0<sz) {w:World} {B n:Nat} {A:Option Addr} {l:List α} (h:Rd w B sz A n (l.flatMap f)) (q:0<n):
  ∃g o,A=some ⟨g,o,none⟩∧g<B∧abk l=n∧∀k (i:k<abk l),w.rangeAt g (o+k*sz) (f l[k]):=by
 have r:abk l=n:=by
  have:=h.len
  rw [zk f sz c] at this
  exact Nat.eq_of_mul_eq_mul_right b this
 obtain ⟨m,rfl,s,hc⟩:=h.row q
 have h0:=y5 f sz c l 0 0 (by omega) b
 obtain ⟨v,D⟩:∃v,(f (l[0]'(by omega)))[0]?=some v:=⟨_,List.getElem?_eq_getElem (by rw [c (l[0]'(by omega))];exact b)⟩
 have hs:=UA (hc (0*sz+0) v (h0.trans D))
 have d:m.spot=none:=by simpa [Addr.add] using hs
 obtain ⟨g,o,sp⟩:=m
 cases d
 refine ⟨g,o,rfl,s,r,λk i j u p=>?_⟩
 have E:j<sz:=by have:=(List.getElem?_eq_some_iff.1 p).1;rwa [c] at this
 have:=hc (k*sz+j) u ((y5 f sz c l k j i E).trans p)
 rw [Addr.add_mid,←Nat.add_assoc] at this
 exact this
end Go.Proofs.YtekiimhdnigmcaaGreatDoor
