/- A part of the proof. -/
import Derived.RangeFuncNested
import Derived.RangeFuncCalls
import Derived.WalkKit
import Derived.Deep.Draws
namespace Go.Proofs.YtekiimhdnigmcaaGreatDoor
open Go.RowKit
variable {S:List Nat} {a b:World} {B:Nat}
theorem hide {p:Prop} (h:p):Hid p:=h
def datum:Obj→Bool
 | .cells .. =>true
 | .map .. =>true
 |_=>false
structure jN (S:List Nat) (w w':World):Prop where
 os:w'.os=w.os
 tape:w'.tape=w.tape
 output:w'.output=w.output
 size:w.heap.size≤w'.heap.size
 block:∀k,k<w.heap.size→k∉S→w'.heap[k]?=w.heap[k]?
structure Keep (B:Nat) (S:List Nat) (w w':World):Prop where
 os:w'.os=w.os
 tape:w'.tape=w.tape
 output:w'.output=w.output
 size:w.heap.size≤w'.heap.size
 block:∀k,k<B→k∉S→w'.heap[k]?=w.heap[k]?
 obj:∀k o,w.heap[k]?=some o→datum o=true→k∉S→w'.heap[k]?=some o
theorem rW {w:World} {k:Nat} {o:Obj} (h:w.heap[k]?=some o):k<w.heap.size:=(Array.getElem?_eq_some_iff.1 h).1
theorem jN.refl (S:List Nat) (w:World):jN S w w:=⟨rfl,rfl,rfl,Nat.le_refl _,λ_ _ _=>rfl⟩
theorem jN.trans {c:World} (h:jN S a b) (k:jN S b c):jN S a c:=
 ⟨k.os.trans h.os,k.tape.trans h.tape,k.output.trans h.output,Nat.le_trans h.size k.size,λi hi hs=>(k.block i (Nat.lt_of_lt_of_le hi h.size) hs).trans (h.block i hi hs)⟩
theorem jN.mono {l:List Nat} (h:jN S a b) (hs:∀k∈S,k∈l∨a.heap.size≤k):jN l a b:=
 ⟨h.os,h.tape,h.output,h.size,λk c d=>h.block k c (λhm=>by rcases hs k hm with h1|h1;exact d h1;omega)⟩
theorem jN.below (h:jN [] a b):Below a.heap.size a b:=⟨h.os,h.tape,h.output,h.size,λk c=>h.block k c (by simp)⟩
theorem jN.keep (h:jN S a b) (d:B≤a.heap.size):Keep B S a b:=
 ⟨h.os,h.tape,h.output,h.size,λk e hs=>h.block k (by omega) hs,λk o c _ hs=>(h.block k (rW c) hs).trans c⟩
theorem jN.alloc (h:jN S a b) (o:Obj):jN S a (b.alloc o):=
 h.trans ⟨rfl,rfl,rfl,by simp,λk c _=>Below.heap_alloc _ _ _ c⟩
theorem jN.setCell (h:jN S a b) {p:Addr} (c:p.block∈S∨a.heap.size≤p.block) (u:Value):jN S a (b.setCell p u):=
 ⟨h.os,h.tape,h.output,by simpa [World.setCell] using h.size,λk d hs=>(Below.heap_setCell b p u k (λe=>by subst e;rcases c with h1|h1;exact hs h1;omega)).trans (h.block k d hs)⟩
theorem jN.drew (h:jN S a b):jN S a b.drew:=⟨h.os,h.tape,h.output,h.size,h.block⟩
theorem jN.drewN (h:jN S a b) (n:Nat):jN S a (b.drewN n):=⟨h.os,h.tape,h.output,h.size,h.block⟩
theorem jN.same (h:jN S a b) {k:Nat} {o:Obj} (c:a.heap[k]?=some o) (hs:k∉S):b.heap[k]?=some o:=(h.block k (rW c) hs).trans c
theorem Keep.refl (B:Nat) (S:List Nat) (w:World):Keep B S w w:=⟨rfl,rfl,rfl,Nat.le_refl _,λ_ _ _=>rfl,λ_ _ h _ _=>h⟩
theorem Keep.trans {c:World} (h:Keep B S a b) (k:Keep B S b c):Keep B S a c:=
  ⟨k.os.trans h.os,k.tape.trans h.tape,k.output.trans h.output,Nat.le_trans h.size k.size,λi hi hs=>(k.block i hi hs).trans (h.block i hi hs),
   λi o e d hs=>k.obj i o (h.obj i o e d hs) d hs⟩
theorem Keep.mono {c:Nat} {l:List Nat} (h:Keep B S a b) (i:c≤B) (hs:∀k∈S,k∈l):Keep c l a b:=
 ⟨h.os,h.tape,h.output,h.size,λk j d=>h.block k (by omega) (λhm=>d (hs k hm)),λk o e f d=>h.obj k o e f (λhm=>d (hs k hm))⟩
theorem Keep.below {c:Nat} (h:Keep B S a b) (d:c≤B) (hs:∀k∈S,c≤k):Below c a b:=
 ⟨h.os,h.tape,h.output,h.size,λk e=>h.block k (by omega) (λhm=>by have:=hs k hm;omega)⟩
theorem Keep.cell (h:Keep B S a b) {p:Addr} {v:Value} (hc:a.cell? p=some v) (hs:p.block∉S):b.cell? p=some v:=by
 unfold World.cell? at hc⊢
 split at hc
 ·rename_i c e f d
  rw [h.obj _ _ d rfl hs];exact hc
 ·cases hc
theorem Keep.ownsRow (h:Keep B S a b) {base:Nat} {e:TypeId} {size:Nat} {v:Value} {n:Nat} {xs:List Value}
  (c:a.ownsRow base e size v n xs) (hs:∀g,v.ownBlock=some g→g∉S):b.ownsRow base e size v n xs:=by
 refine ⟨c.1,?_⟩
 rcases c.2 with h1|⟨g,cap,cur,rfl,d,f,r⟩
 ·exact .inl h1
 ·exact .inr ⟨g,cap,cur,rfl,d,h.obj g _ f rfl (hs g rfl),r⟩
structure tX (T:World→Nat→Prop) (w w':World):Prop where
 os:w'.os=w.os
 tape:w'.tape=w.tape
 output:w'.output=w.output
 size:w.heap.size≤w'.heap.size
 block:∀k,k<w.heap.size→¬T w k→w'.heap[k]?=w.heap[k]?
 own:∀k,T w' k→T w k∨w.heap.size≤k
structure l6 (T:World→Nat→Prop) (w w':World):Prop where
 size:w.heap.size≤w'.heap.size
 obj:∀k o,w.heap[k]?=some o→datum o=true→¬T w k→w'.heap[k]?=some o
 own:∀k,T w' k→T w k∨w.heap.size≤k
theorem l6.cell {T:World→Nat→Prop} (h:l6 T a b) {p:Addr} {v:Value} (hc:a.cell? p=some v) (hs:¬T a p.block):b.cell? p=some v:=by
 unfold World.cell? at hc⊢
 split at hc
 ·rename_i c e f d
  rw [h.obj _ _ d rfl hs];exact hc
 ·cases hc
theorem l6.not {T:World→Nat→Prop} (h:l6 T a b) {k:Nat} (hk:k<a.heap.size) (hs:¬T a k):¬T b k:=λht=>by
 rcases h.own k ht with h1|h1
 ·exact hs h1
 ·omega
section
variable {P:Program} {g:Operand} {ps:Array Tmp} {assign body:Code} {Q:Exit→Act→World→Prop} {a:Act} {w:World} {gf:Nat} {lb:Array Value} {xs:List (Array Value)} {S:List Nat} {N:Nat→Prop}
end
end Go.Proofs.YtekiimhdnigmcaaGreatDoor
