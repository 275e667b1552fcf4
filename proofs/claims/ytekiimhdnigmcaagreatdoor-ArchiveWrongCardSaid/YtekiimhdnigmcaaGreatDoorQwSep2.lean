/- A part of the proof. -/
import Derived.Test.YtekiimhdnigmcaaGreatDoorQwSep
namespace Go.Proofs.YtekiimhdnigmcaaGreatDoor
open Go.RowKit
open Nat renaming le_refl→abo,lt_or_gt_of_ne→agd
open _root_.List renaming getElem?_eq_some_iff→aby,mem_of_getElem?→abF,length_set→abG,pairwise_iff_getElem→acC,pairwise_cons→aeb,getElem_mem→aei,getElem_set→aeT,mem_filterMap→ae1
open Below renaming refl→adR
open World renaming alloc_heap_new→adU,cell?→aeo
variable {p:Prop} {w:World}
abbrev vI (x:Int):Value:= .int .i64 x
abbrev vB (x:Int):Value:= .int .u8 x
abbrev vQ (x:Int):Value:= .int .u64 x
abbrev vW (x:Int):Value:= .int .u32 x
abbrev vP (g o:Nat):Value:= .pointer (some ⟨g,o,none⟩)
abbrev vS (g n c:Nat):Value:= .slice (some ⟨g,0,none⟩) n c
abbrev vN:Value:= .slice none 0 0
theorem om (h:p:=by omega):p:=h
theorem kr (h:p:=by kernel_rfl):p:=h
theorem de (h:p:=by decide):p:=h
inductive Fact
 |blk (g:Nat) (cs:Array Value) (t:TypeId)
 |row (v:Value) (n:Nat) (xs:List Value) (e:TypeId) (size:Nat)
 |obj (g:Nat) (o:Obj)
abbrev abg {α:Type} (A:Option Addr) (l:List α) (c:Nat):Value:= .slice A l.length c
abbrev abh {α:Type} (A:Option Addr) (l:List α) (c:Nat) (f:α→Value) (e s:Nat):Fact:= .row (.slice A l.length c) l.length (l.map f) e s
abbrev abj {α:Type} (A:Option Addr) (l:List α) (c:Nat) (f:α→List Value) (e s:Nat):Fact:= .row (.slice A l.length c) l.length (l.flatMap f) e s
def Fact.block:Fact→Option Nat
 | .obj g _=>some g
 | .blk g _ _=>some g
 | .row v _ _ _ _=>v.ownBlock
def Fact.holds (base:Nat) (w:World):Fact→Prop
 | .obj g o=>base≤g∧w.heap[g]?=some o
 | .blk g a t=>base≤g∧w.heap[g]?=some (.cells a t (0,0))
 | .row v n xs e size=>w.ownsRow base e size v n xs
def Fact.apart (f g:Fact):Prop:=∀x,f.block=some x→g.block≠some x
structure Mem (W w:World) (fs:List Fact):Prop where
 below:Below W.heap.size W w
 holds:∀f∈fs,f.holds W.heap.size w
 apart:fs.Pairwise Fact.apart
variable {f:Fact}
theorem Fact.apart.symm {g:Fact} (h:f.apart g):g.apart f:=λx a b=>h x b a
theorem Nn {base:Nat} {e:TypeId} {size:Nat} {v:Value} {n:Nat} {xs:List Value} (h:w.ownsRow base e size v n xs) {g:Nat} (b:v.ownBlock=some g):base≤g∧g<w.heap.size:=by
 rcases h.2 with ⟨rfl,_⟩|⟨d,cap,cur,rfl,c,a,_⟩
 ·cases b
 ·cases b;exact ⟨c,rW a⟩
theorem Fact.holds.lt {base:Nat} (h:f.holds base w) {g:Nat} (a:f.block=some g):base≤g∧g<w.heap.size:=by
 cases f with
 |blk b c t=>injection a with a;subst a;exact ⟨h.1,rW h.2⟩
 |row v n xs e size=>exact Nn h a
 |obj b o=>injection a with a;subst a;exact ⟨h.1,rW h.2⟩
theorem Fact.holds.keep {base:Nat} {w':World} (h:f.holds base w) (hk:∀g,f.block=some g→w'.heap[g]?=w.heap[g]?):f.holds base w':=by
 cases f with
 |obj g o=>exact ⟨h.1,(hk g rfl).trans h.2⟩
 |blk g c t=>exact ⟨h.1,(hk g rfl).trans h.2⟩
 |row v n xs e size=>
  refine ⟨h.1,?_⟩
  rcases h.2 with h1|⟨g,cap,cur,rfl,a,b,r⟩
  ·exact .inl h1
  ·exact .inr ⟨g,cap,cur,rfl,a,(hk g rfl).trans b,r⟩
section
variable {W w w':World} {fs fs':List Fact}
theorem Mem.start (W:World):Mem W W []:=⟨adR _ _,by simp,.nil⟩
theorem Mem.size (h:Mem W w fs):W.heap.size≤w.heap.size:=h.below.size
theorem Mem.call (h:Mem W w fs) (hb:Below w.heap.size w w'):Mem W w' fs:=
 ⟨h.below.trans (hb.mono h.size),λf a=>(h.holds f a).keep λg b=>hb.block g ((h.holds f a).lt b).2,h.apart⟩
theorem Mem.drew (h:Mem W w fs):Mem W w.drew fs:=h.call (adR _ _).drew
theorem Mem.cons (h:Mem W w fs) {f:Fact} (b:f.holds W.heap.size w) (c:∀g,f.block=some g→∀k∈fs,k.block≠some g):Mem W w (f::fs):=
 ⟨h.below,λk a=>by
  rcases List.mem_cons.1 a with rfl|a
  ·exact b
  ·exact h.holds k a,aeb.2 ⟨λk a g d=>c g d k a,h.apart⟩⟩
theorem Mem.nil (h:Mem W w fs) (e:TypeId) (size:Nat):Mem W w (.row (.slice none 0 0) 0 [] e size::fs):=
 h.cons (World.ownsRow_nil _ _ _ _) (λg a=>by cases a)
theorem Mem.bN (h:Mem W w fs) (hb:Below w.heap.size w w') {e:TypeId} {size n:Nat} {v:Value} {xs:List Value} (hr:w'.ownsRow w.heap.size e size v n xs):Mem W w' (.row v n xs e size::fs):=
 (h.call hb).cons (M9 hr h.size) (λg b k c a => by
  have h1:=(Nn hr b).1
  have h2:=((h.holds k c).lt a).2
  omega)
theorem Mem.alloc (h:Mem W w fs) (b:Array Value) (t:TypeId):Mem W (w.alloc (.cells b t)) (.blk w.heap.size b t::fs):=
 (h.call ((adR _ _).alloc (abo _) _)).cons ⟨h.size, adU w _⟩ (λg c k d a => by
  injection c with c
  have h2:=((h.holds k d).lt a).2
  omega)
theorem Mem.mh (h:Mem W w fs) (o:Obj):Mem W (w.alloc o) (.obj w.heap.size o::fs):=
 (h.call ((adR _ _).alloc (abo _) _)).cons ⟨h.size, adU w _⟩ (λg b k c a => by
  injection b with b
  have h2:=((h.holds k c).lt a).2
  omega)
def picks (fs:List Fact) (a:List Nat):List Fact:=a.filterMap (fs[·]?)
theorem Kg (h:fs.Pairwise Fact.apart):∀{l:List Nat},l.Nodup→(picks fs l).Pairwise Fact.apart
 |[],_=> .nil
 | i :: l, g => by
  rw [List.nodup_cons] at g
  unfold picks
  rw [List.filterMap_cons]
  cases hi:fs[i]? with
  |none=>exact Kg h g.2
  | some f =>
   refine aeb.2 ⟨λk o=>?_,Kg h g.2⟩
   obtain ⟨j,p,m⟩:=ae1.1 o
   have n:i≠j:=λe=>g.1 (e▸p)
   obtain ⟨a,b⟩:=aby.1 hi
   obtain ⟨c,d⟩:=aby.1 m
   rcases agd n with h1|h1
   ·have:=acC.1 h i j a c h1
    rwa [b,d] at this
   ·have:=acC.1 h j i c a h1
    rw [b,d] at this
    exact this.symm
theorem Mem.picks (h:Mem W w fs) (a:List Nat) (b:a.Nodup) (c:picks fs a=fs'):Mem W w fs':=by
 subst c
 refine ⟨h.below,λf d=>?_,Kg h.apart b⟩
 obtain ⟨j,_,e⟩:=ae1.1 d
 exact h.holds f (abF e)
theorem Mem.tail (h:Mem W w (f::fs)):Mem W w fs:=⟨h.below,λk a=>h.holds k (List.mem_cons_of_mem _ a),(aeb.1 h.apart).2⟩
theorem Mem.turn (h:Mem W w fs) {i:Nat} {f r:Fact} (hi:fs[i]?=some f) (hb:Below W.heap.size W w') (hk:∀g,g<w.heap.size→f.block≠some g→w'.heap[g]?=w.heap[g]?)
  (A:r.holds W.heap.size w') (B:∀g,r.block=some g→f.block=some g∨w.heap.size≤g):Mem W w' (fs.set i r):=by
 obtain ⟨m,n⟩:=aby.1 hi
 have a:∀j (b:j<fs.length),j≠i→Fact.apart fs[j] f∧Fact.apart f fs[j]:=λj b l=>by
  rcases agd l with h1|h1
  ·have:=acC.1 h.apart j i b m h1
   rw [n] at this
   exact ⟨this,this.symm⟩
  ·have:=acC.1 h.apart i j m b h1
   rw [n] at this
   exact ⟨this.symm,this⟩
 have d:∀j (b:j<fs.length),j≠i→Fact.apart r fs[j]:=λj b l g s o=>by
  rcases B g s with h1|h1
  ·exact (a j b l).2 g h1 o
  ·have:=((h.holds _ (aei b)).lt o).2
   omega
 refine ⟨hb,λk t=>?_,?_⟩
 ·obtain ⟨j,b,c⟩:=List.getElem_of_mem t
  rw [aeT] at c
  rw [abG] at b
  split at c
  ·subst c;exact A
  ·rename_i u
   subst c
   have z:=h.holds _ (aei b)
   exact z.keep λg s=>hk g (z.lt s).2 (λe=>(a j b (Ne.symm u)).1 g s e)
 ·rw [acC]
  intro p q v x y
  rw [abG] at v x
  rw [aeT,aeT]
  split
  ·rename_i e
   subst e
   rw [if_neg (by omega)]
   exact d q x (by omega)
  ·split
   ·rename_i e
    subst e
    exact (d p v (by omega)).symm
   ·exact acC.1 h.apart p q v x y
theorem Mem.blk (h:Mem W w fs) {i g:Nat} {C:Array Value} {t:TypeId} (hi:fs[i]?=some (.blk g C t)):w.heap[g]?=some (.cells C t (0,0)):=(h.holds _ (abF hi)).2
theorem Mem.cell (h:Mem W w fs) {i g o:Nat} {C:Array Value} {t:TypeId} {v:Value} (hi:fs[i]?=some (.blk g C t)) (hc:C[o]?=some v):w.cell? ⟨g,o,none⟩=some v:=by
 simp [aeo,h.blk hi,hc]
theorem Mem.own (h:Mem W w fs) {i:Nat} {v:Value} {n:Nat} {xs:List Value} {e:TypeId} {size:Nat} (hi:fs[i]?=some (.row v n xs e size)):w.ownsRow W.heap.size e size v n xs:=h.holds _ (abF hi)
theorem Mem.rd (h:Mem W w fs) {i:Nat} {A:Option Addr} {n c:Nat} {xs:List Value} {e:TypeId} {size:Nat} (hi:fs[i]?=some (.row (.slice A n c) n xs e size)):Rd w w.heap.size size A n xs:=aaZ (h.own hi) rfl
theorem Mem.old (h:Mem W w fs) {size:Nat} {A:Option Addr} {n:Nat} {xs:List Value} (hr:Rd W W.heap.size size A n xs):Rd w w.heap.size size A n xs:=(hr.below h.below).more h.size
theorem aa1 {w:World} {g:Nat} {C:Array Value} {t:TypeId} (hb:w.heap[g]?=some (.cells C t (0,0))) {size n:Nat} (a:C.size=n*size):Rd w w.heap.size size (some ⟨g,0,none⟩) n C.toList:=
 ⟨by simpa using a,λ_=>⟨_,rfl,rW hb,λj u b=>by
  rw [Addr.add_mid,Nat.zero_add]
  simp only [aeo,hb]
  simpa using b⟩⟩
theorem Mem.aW (h:Mem W w fs) {i g:Nat} {C:Array Value} {t:TypeId} {size n:Nat} (hi:fs[i]?=some (.blk g C t)) (a:C.size=n*size):Rd w w.heap.size size (some ⟨g,0,none⟩) n C.toList:=aa1 (h.blk hi) a
theorem Mem.eB (h:Mem W w fs) {i g:Nat} {C:Array Value} {e:TypeId} {size n:Nat} (hi:fs[i]?=some (.blk g C e)) (a:C.size=n*size) (hm:n≤9223372036854775807):Mem W w (fs.set i (.row (.slice (some ⟨g,0,none⟩) n n) n C.toList e size)):=by
 have c:=h.holds _ (abF hi)
 refine h.turn hi h.below (λ_ _ _=>rfl) ⟨by simpa using a,.inr ⟨g,n,C,rfl,c.1,c.2,abo _,by unfold maxLen;exact hm,a,?_⟩⟩ (λd b=> .inl b)
 rw [←a,←Array.length_toList,List.take_length]
theorem Mem.set (h:Mem W w fs) {i g o:Nat} {C:Array Value} {t:TypeId} (hi:fs[i]?=some (.blk g C t)) (v:Value):Mem W (w.setCell ⟨g,o,none⟩ v) (fs.set i (.blk g (C.setIfInBounds o v) t)):=by
 have a:=h.holds _ (abF hi)
 refine h.turn hi (h.below.setCell (p:=⟨g,o,none⟩) a.1 v) (λk d b=>?_) ⟨a.1,?_⟩ (λf c=> .inl c)
 ·exact Below.heap_setCell _ _ _ _ (λe=>b (by rw [e];rfl))
 ·simp [World.setCell,Array.getElem?_modify,a.2]
theorem Mem.AQ (h:Mem W w fs) {i g:Nat} {C ds:Array Value} {t:TypeId} (hi:fs[i]?=some (.blk g C t)) (hs:C.size=ds.size):Mem W (w.setCells g 0 ds.toList) (fs.set i (.blk g ds t)):=by
 have a:=h.holds _ (abF hi)
 refine h.turn hi (below_setCells h.below a.1 0 _) (λk d b=>?_) ⟨a.1,?_⟩ (λf c=> .inl c)
 ·exact Ep _ _ _ _ _ (λe=>b (by rw [e];rfl))
 ·have:=qgp a.2 ds.toList (by simpa using hs)
  simpa using this
theorem Mem.append (h:Mem W w fs) {i n:Nat} {v z:Value} {xs ys:List Value} {e:TypeId} {size c:Nat} (hi:fs[i]?=some (.row v n xs e size)) (k:w'.ownsRow W.heap.size e size z c ys) (j:w.grownBy w' v.ownBlock)
  (hb:z.ownBlock=v.ownBlock∨z.ownBlock=some w.heap.size):Mem W w' (fs.set i (.row z c ys e size)):=by
 have l:=h.own hi
 refine h.turn hi (h.below.grown j h.size (λg b=>(Nn l b).1)) (λg d f=>j.block g d (λe=>f e.symm)) k (λg b=>?_)
 have a:z.ownBlock=some g:=b
 rcases hb with h1|h1
 ·exact .inl (show v.ownBlock=some g by rw [←h1];exact a)
 ·rw [h1] at a;injection a with e;exact .inr (by omega)
end
end Go.Proofs.YtekiimhdnigmcaaGreatDoor
