/- A part of the proof. -/
import Derived.Test.YtieeckeaijdaeaaGreatDoorQaMem
import Derived.Deep.MidRow
import Derived.Deep.RegionHeld3
namespace Go.Proofs.YtieeckeaijdaeaaGreatDoor
open Go.RowKit
structure SI (P:Program) (t:TypeId) (n:Nat):Prop where
 row:(P.underlying t).map TypeDesc.isRow=some true
 size:(P.info? t).map (·.size)=some n
theorem SI.desc {P:Program} {t:TypeId} {n:Nat} (si:SI P t n):∃d,P.underlying t=some d∧d.isRow=true:=by
 have h:=si.row
 cases hu:P.underlying t with
 |none=>rw [hu] at h;cases h
 |some d=>rw [hu] at h;exact ⟨d,rfl,by simpa using h⟩
section
variable {P:Program} {ops:Array Oper} {rest:List Oper} {op:Oper} {a:Act} {w:World} {Q:Exit→Act→World→Prop} {t:TypeId} {n:Nat} {F:Fence} {fn:Nat}
theorem zm {b o:Nat} {cs:Array Value} (hc:w.rangeAt b o cs.toList) {x:Operand} (hgd:op.guard=none) (ho:op.op= .load t x) (hx:a.eval x= .pointer (some ⟨b,o,none⟩))
  (si:SI P t n) (hn:cs.size=n) (h:wpList P ops Q rest (a.put op.dst (.agg cs)) w):wpList P ops Q (op::rest) a w:=by
 obtain ⟨d,hu,hd⟩:=si.desc
 exact wpList_load_mid hgd t x ho b o hx cs.toList d hc hu hd (by rw [si.size,←hn];simp) (by simpa using h)
theorem LC {b o:Nat} {cs:Array Value} (hc:w.rangeAt b o cs.toList) {x:Operand} (hgd:op.guard=none) (ho:op.op= .load t x) (hx:a.eval x= .pointer (some ⟨b,o,none⟩))
  (si:SI P t n) (hn:cs.size=n) (h:wpListIn F fn P ops Q rest (a.put op.dst (.agg cs)) w):wpListIn F fn P ops Q (op::rest) a w:=by
 obtain ⟨d,hu,hd⟩:=si.desc
 refine wpListIn_plain hgd fun K hK'=>?_
 have hl:=run_loadVar_mid (P:=P) w b o t cs.toList d hc hu hd (by rw [si.size,←hn];simp)
 unfold Oper.wpIn
 refine ⟨?_,?_⟩
 ·simp [Oper.about,ho]
 ·rw [Oper.semAt_plain F _ _ (by rw [ho];intro c hc';cases hc')]
  simp only [execOp,ho,hx,Instr.loadAt,Instr.sureAddr,Sem.run_bind,Sem.run_pure,Result.andThen_ok,hl]
  exact hK' _ _ (by simpa using h)
theorem sM {b o:Nat} {cs:Array Value} (hc:w.rangeAt b o cs.toList) {x:Operand} (hw:Region.wanted op (yielded ops a.tmps)=true) (ho:op.op= .load t x) (hx:a.eval x= .pointer (some ⟨b,o,none⟩))
  (si:SI P t n) (hn:cs.size=n) (h:wpList P ops Q rest (a.put op.dst (.agg cs)) w):wpList P ops Q (op::rest) a w:=by
 obtain ⟨d,hu,hd⟩:=si.desc
 exact BigFrame.wpList_want hw fun _ hK=>wp_load_mid t x ho b o hx cs.toList d hc hu hd (by rw [si.size,←hn];simp) (hK _ _ (by simpa using h))
theorem xW {b o:Nat} {cs:Array Value} (ht:w.there b o n) {x y:Operand} (hgd:op.guard=none) (ho:op.op= .store t x y) (hx:a.eval x= .pointer (some ⟨b,o,none⟩)) (hy:a.eval y= .agg cs)
  (si:SI P t n) (hn:cs.size=n) (h1:∀v∈cs.toList,v.oneCell'=true) (h:wpList P ops Q rest (a.put op.dst undef) (w.setCells b o cs.toList)):wpList P ops Q (op::rest) a w:=
 wpList_store_mid hgd t x y ho b o cs hx hy (by rw [hn];exact ht) (by rw [hn];exact si.size) (by simpa using all_oneCell_toArray h1) h
end
section
variable {P:Program} {ops:Array Oper} {rest:List Oper} {op:Oper} {a:Act} {w:World} {Q:Exit→Act→World→Prop} {t e:TypeId} {z:Value} {size bytes:Nat} {F:Fence} {fn:Nat} {xs:List Value}
theorem U9 (ei:EI P t e z size bytes) {A:Option Addr} {n c j:Nat} {k:IntKind} (hj:j≤n):
  (Instr.sliceAt t (.slice A n c) (some (.int k (j:Int))) none none).run P w= .ok (.slice (if c=j then A else A.map (·.add (j*size))) (n-j) (c-j)) w:=by
 obtain ⟨i,hi,_,hs,_⟩:=info_parts ei.hi
 simp [Instr.sliceAt,run_underlying ei.ht,Instr.slice,Instr.sliceBounds,Instr.sliceBound,asIntOf,hj,sizeOf,typeInfo,hi,hs]
theorem qju (ei:EI P t e z size bytes) {A:Option Addr} {n c j:Nat} {k:IntKind} (hj:j≤c):
  (Instr.sliceAt t (.slice A n c) none (some (.int k (j:Int))) none).run P w= .ok (.slice A j c) w:=by
 obtain ⟨i,hi,_,hs,_⟩:=info_parts ei.hi
 have h0:A.map (·.add 0)=A:=by cases A<;>simp [Addr.add]
 simp [Instr.sliceAt,run_underlying ei.ht,Instr.slice,Instr.sliceBounds,Instr.sliceBound,asIntOf,hj,sizeOf,typeInfo,hi,h0]
theorem qle (ei:EI P t e z size bytes) {x lo:Operand} (ho:op.op= .slice t x (some lo) none none) {A:Option Addr} {n c j:Nat} {k:IntKind} (hx:a.eval x= .slice A n c) (hl:a.eval lo= .int k (j:Int))
  {B:Nat} (hr:Rd w B size A n xs) (hc:n≤c) (hj:j≤n) {K:Act→World→Prop}
  (h:∀A' c',Rd w B size A' (n-j) (xs.drop (j*size))→n-j≤c'→K (a.put op.dst (.slice A' (n-j) c')) w):op.wp P a w K Q:=by
 unfold Oper.wp execOp
 simp only [ho,hx,hl,Option.map_some,Option.map_none,Sem.run_bind,Sem.run_pure,U9 (P:=P) ei hj,Result.andThen_ok]
 exact h _ _ (hr.from hj hc) (by omega)
theorem qlf (ei:EI P t e z size bytes) {x lo:Operand} (hw:Region.wanted op (yielded ops a.tmps)=true) (ho:op.op= .slice t x (some lo) none none) {A:Option Addr} {n c j:Nat} {k:IntKind} (hx:a.eval x= .slice A n c) (hl:a.eval lo= .int k (j:Int))
  {B:Nat} (hr:Rd w B size A n xs) (hc:n≤c) (hj:j≤n)
  (h:∀A' c',Rd w B size A' (n-j) (xs.drop (j*size))→n-j≤c'→wpList P ops Q rest (a.put op.dst (.slice A' (n-j) c')) w):wpList P ops Q (op::rest) a w:=
 BigFrame.wpList_want hw fun _ hK=>qle ei ho hx hl hr hc hj fun A' c' h1 h2=>hK _ _ (h A' c' h1 h2)
end
theorem qc {w:World} {b:Nat} {C:Array Value} {t:TypeId} {fr:Nat×Nat} (hb:w.heap[b]?=some (.cells C t fr)):w.rangeAt b 0 C.toList:=fun j v hv=>by
 unfold World.cell?;rw [hb];simpa using hv
theorem qy {w:World} {b:Nat} {C:Array Value} {t:TypeId} (hb:w.heap[b]?=some (.cells C t (0,0))) (o n:Nat) (hn:o+n≤C.size):w.there b o n:=fun j hj=>by
 refine ⟨?_,?_⟩
 ·unfold World.cell?;rw [hb]
  simp [Array.getElem?_eq_getElem (by omega:o+j<C.size)]
 ·unfold World.frozen?;rw [hb];simp
theorem BM {w:World} {b:Nat} {cs:Array Value} {j:Nat} {v:Value} (h:w.rangeAt b 0 cs.toList) (hc:cs[j]?=some v):w.cell? ⟨b,j,none⟩=some v:=by
 have:=h j v (by simpa using hc)
 rwa [Nat.zero_add] at this
theorem qlg {w w':World} {b o:Nat} {cs:List Value} (h:w.rangeAt b o cs) (hk:∀(x:Nat) (v:Value),w.cell? ⟨b,x,none⟩=some v→w'.cell? ⟨b,x,none⟩=some v):w'.rangeAt b o cs:=
 fun j v hv=>hk _ _ (h j v hv)
theorem qk {w w':World} {b o B:Nat} {cs:List Value} (h:w.rangeAt b o cs) (hk:Below B w w') (hb:b<B):w'.rangeAt b o cs:=
 qlg h fun x _ hv=>(hk.cell (p:=⟨b,x,none⟩) hb).trans hv
theorem Ve {w:World} {b o:Nat} {cs ds:List Value} (h:w.rangeAt b o (cs++ds)):w.rangeAt b o cs:=fun j v hv=>h j v (by
 have hj:=(List.getElem?_eq_some_iff.1 hv).1
 rw [List.getElem?_append_left hj];exact hv)
theorem OL (b:Nat) (t:TypeId):∀(vs:List Value) (w:World) (pre qJ:List Value) (cs:List Value),w.heap[b]?=some (.cells (pre++cs++qJ).toArray t (0,0))→cs.length=vs.length→
  (w.setCells b pre.length vs).heap[b]?=some (.cells (pre++vs++qJ).toArray t (0,0))
 |[],w,pre,qJ,cs,h,hl=>by
  have:cs=[]:=List.eq_nil_of_length_eq_zero hl
  subst this
  exact h
 | v :: vs, w, pre, qJ, cs, h, hl => by
  obtain ⟨c,cs',rfl⟩:∃c cs',cs=c::cs':=by
   cases cs with
   |nil=>simp at hl
   |cons c cs'=>exact ⟨c,cs',rfl⟩
  have h1:(w.setCell ⟨b,pre.length,none⟩ v).heap[b]?=some (.cells ((pre++[v])++cs'++qJ).toArray t (0,0)):=by
   simp [World.setCell,Array.getElem?_modify,h]
  have h2:=OL b t vs _ (pre++[v]) qJ cs' h1 (by simpa using hl)
  rw [List.length_append] at h2
  simpa [World.setCells] using h2
theorem Vg {w:World} {b:Nat} {C:Array Value} {t:TypeId} (h:w.heap[b]?=some (.cells C t (0,0))) (vs:List Value) (hl:C.size=vs.length):(w.setCells b 0 vs).heap[b]?=some (.cells vs.toArray t (0,0)):=by
 have:=OL b t vs w [] [] C.toList (by simpa using h) (by simpa using hl)
 simpa using this
theorem F5 (b:Nat):∀(vs:List Value) (o:Nat) (w:World) (k:Nat),k≠b→(w.setCells b o vs).heap[k]?=w.heap[k]?
 |[],_,_,_,_=>rfl
 |v::vs,o,w,k,hk=>by
  have:=F5 b vs (o+1) (w.setCell ⟨b,o,none⟩ v) k hk
  exact this.trans (Below.heap_setCell _ _ _ _ hk)
theorem LD (b:Nat):∀(vs:List Value) (o:Nat) (w:World),(w.setCells b o vs).os=w.os∧(w.setCells b o vs).tape=w.tape∧(w.setCells b o vs).output=w.output∧(w.setCells b o vs).heap.size=w.heap.size
 |[],_,_=>⟨rfl,rfl,rfl,rfl⟩
 |v::vs,o,w=>by
  obtain ⟨h1,h2,h3,h4⟩:=LD b vs (o+1) (w.setCell ⟨b,o,none⟩ v)
  exact ⟨h1.trans rfl,h2.trans rfl,h3.trans rfl,h4.trans (by simp [World.setCell])⟩
theorem bY.setCells {S:List Nat} {a w:World} (h:bY S a w) {b:Nat} (hb:b∈S∨a.heap.size≤b) (o:Nat) (vs:List Value):bY S a (w.setCells b o vs):=by
 obtain ⟨h1,h2,h3,h4⟩:=LD b vs o w
 refine ⟨h1.trans h.os,h2.trans h.tape,h3.trans h.output,by rw [h4];exact h.size,fun k hk hs=>?_⟩
 rw [F5 b vs o w k (fun e=>by subst e;rcases hb with h1|h1;exact hs h1;omega)]
 exact h.block k hk hs
theorem below_setCells {B:Nat} {a w:World} (h:Below B a w) {b:Nat} (hb:B≤b) (o:Nat) (vs:List Value):Below B a (w.setCells b o vs):=by
 obtain ⟨h1,h2,h3,h4⟩:=LD b vs o w
 refine ⟨h1.trans h.os,h2.trans h.tape,h3.trans h.output,by rw [h4];exact h.size,fun k hk=>?_⟩
 rw [F5 b vs o w k (by omega)]
 exact h.block k hk
@[simp] theorem size_setCells (w:World) (b o:Nat) (vs:List Value):(w.setCells b o vs).heap.size=w.heap.size:=(LD b vs o w).2.2.2
theorem Vh (t:TypeId) (w:World):∀(vs pre qJ cs:List Value),cs.length=vs.length→(w.alloc (.cells (pre++cs++qJ).toArray t)).setCells w.heap.size pre.length vs=w.alloc (.cells (pre++vs++qJ).toArray t)
 |[],pre,qJ,cs,hl=>by
  have:cs=[]:=List.eq_nil_of_length_eq_zero hl
  subst this;rfl
 | v :: vs, pre, qJ, cs, hl => by
  obtain ⟨c,cs',rfl⟩:∃c cs',cs=c::cs':=by
   cases cs with
   |nil=>simp at hl
   |cons c cs'=>exact ⟨c,cs',rfl⟩
  have h1:(w.alloc (.cells (pre++(c::cs')++qJ).toArray t)).setCell ⟨w.heap.size,pre.length,none⟩ v=w.alloc (.cells ((pre++[v])++cs'++qJ).toArray t):=by
   rw [World.setCell_alloc_new];simp
  have h2:=Vh t w vs (pre++[v]) qJ cs' (by simpa using hl)
  rw [List.length_append] at h2
  show ((w.alloc _).setCell ⟨w.heap.size,pre.length,none⟩ v).setCells w.heap.size (pre.length+1) vs=_
  rw [h1]
  simpa using h2
theorem qjv (w:World) (C:Array Value) (t:TypeId) (vs:Array Value) (hl:C.size=vs.size):(w.alloc (.cells C t)).setCells w.heap.size 0 vs.toList=w.alloc (.cells vs t):=by
 have:=Vh t w vs.toList [] [] C.toList (by simpa using hl)
 simpa using this
section
variable {P:Program} {ops:Array Oper} {rest:List Oper} {op:Oper} {a:Act} {w:World} {Q:Exit→Act→World→Prop} {t tt:TypeId} {n:Nat} {F:Fence} {fn:Nat} {C cs:Array Value} {x y:Operand}
theorem BN (hgd:op.guard=none) (ho:op.op= .store t x y) (hx:a.eval x= .pointer (some ⟨w.heap.size,0,none⟩)) (hy:a.eval y= .agg cs) (si:SI P t n) (hC:C.size=n) (hn:cs.size=n) (h1:∀v∈cs.toList,v.oneCell'=true)
  (h:wpList P ops Q rest (a.put op.dst undef) (w.alloc (.cells cs tt))):wpList P ops Q (op::rest) a (w.alloc (.cells C tt)):=
 xW (qy (World.alloc_heap_new w (.cells C tt)) 0 n (by omega)) hgd ho hx hy si hn h1 (by rw [qjv w C tt cs (by omega)];exact h)
end
theorem BO {α:Type} (f:α→List Value) (sz:Nat) (hf:∀x,(f x).length=sz):∀(l:List α) (k j:Nat) (hk:k<l.length),j<sz→(l.flatMap f)[k*sz+j]?=(f l[k])[j]?
 |[],k,_,hk,_=>by simp at hk
 |x::l,0,j,_,hj=>by
  rw [List.flatMap_cons,Nat.zero_mul,Nat.zero_add,List.getElem?_append_left (by rw [hf];exact hj)];rfl
 |x::l,k+1,j,hk,hj=>by
  rw [List.flatMap_cons,List.getElem?_append_right (by rw [hf,Nat.succ_mul];omega),hf]
  have:=BO f sz hf l k j (by simpa using hk) hj
  rw [show (k+1)*sz+j-sz=k*sz+j by rw [Nat.succ_mul];omega,this]
  rfl
theorem qK {α:Type} (f:α→List Value) (sz:Nat) (hf:∀x,(f x).length=sz) (l:List α):(l.flatMap f).length=l.length*sz:=by
 induction l with
 |nil=>simp
 |cons x l ih=>rw [List.flatMap_cons,List.length_append,hf,ih,List.length_cons,Nat.succ_mul];omega
theorem Vi {w:World} {a:Addr} {v:Value} (h:w.cell? a=some v):a.spot=none:=by
 unfold World.cell? at h
 split at h
 ·split at h
  ·cases h
  ·rename_i hs;simpa using hs
 ·cases h
theorem Rd.struct {α:Type} {f:α→List Value} {sz:Nat} (hf:∀x,(f x).length=sz) (hsz:0<sz) {w:World} {B n:Nat} {A:Option Addr} {l:List α} (h:Rd w B sz A n (l.flatMap f)) (hn:0<n):
  ∃g o,A=some ⟨g,o,none⟩∧g<B∧l.length=n∧∀k (hk:k<l.length),w.rangeAt g (o+k*sz) (f l[k]):=by
 have hl:l.length=n:=by
  have:=h.len
  rw [qK f sz hf] at this
  exact Nat.eq_of_mul_eq_mul_right hsz this
 obtain ⟨ad,rfl,hb,hc⟩:=h.row hn
 have h0:=BO f sz hf l 0 0 (by omega) hsz
 obtain ⟨v,hv⟩:∃v,(f (l[0]'(by omega)))[0]?=some v:=⟨_,List.getElem?_eq_getElem (by rw [hf (l[0]'(by omega))];exact hsz)⟩
 have hs:=Vi (hc (0*sz+0) v (h0.trans hv))
 have hs':ad.spot=none:=by simpa [Addr.add] using hs
 obtain ⟨g,o,sp⟩:=ad
 cases hs'
 refine ⟨g,o,rfl,hb,hl,fun k hk j u hu=>?_⟩
 have hj:j<sz:=by have:=(List.getElem?_eq_some_iff.1 hu).1;rwa [hf] at this
 have:=hc (k*sz+j) u ((BO f sz hf l k j hk hj).trans hu)
 rw [Addr.add_mid,←Nat.add_assoc] at this
 exact this
theorem Ew {w:World} {base:Nat} {e:TypeId} {size:Nat} {v:Value} {n:Nat} {xs:List Value} (h:w.ownsRow base e size v n xs) {p:Addr} (hp:p.block<base) (u:Value):(w.setCell p u).ownsRow base e size v n xs:=by
 refine ⟨h.1,?_⟩
 rcases h.2 with h1|⟨g,cap,cur,hv,hb,hg,r⟩
 ·exact .inl h1
 ·exact .inr ⟨g,cap,cur,hv,hb,by rw [Below.heap_setCell _ _ _ _ (by omega)];exact hg,r⟩
theorem own_below {w w':World} {B base:Nat} {e:TypeId} {size:Nat} {v:Value} {n:Nat} {xs:List Value} (h:w.ownsRow base e size v n xs) (hb:Below B w w') (hB:w.heap.size≤B):w'.ownsRow base e size v n xs:=
 ((bY.of_below (hb.mono hB)).keep (Nat.zero_le _)).ownsRow h (by simp)
theorem qg {w:World} {b:Nat} {x:Value} {t:TypeId} (h:w.heap[b]?=some (.cells #[x] t (0,0))) (y:Value):(w.setCell ⟨b,0,none⟩ y).heap[b]?=some (.cells #[y] t (0,0)):=by
 simp [World.setCell,Array.getElem?_modify,h]
end Go.Proofs.YtieeckeaijdaeaaGreatDoor
