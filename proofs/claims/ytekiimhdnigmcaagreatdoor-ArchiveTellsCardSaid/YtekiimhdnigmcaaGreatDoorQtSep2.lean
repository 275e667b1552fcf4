/- A part of the proof. -/
import Derived.Test.YtekiimhdnigmcaaGreatDoorQtSep
namespace Go.Proofs.YtekiimhdnigmcaaGreatDoor
open Go.RowKit
abbrev vI (x:Int):Value:= .int .i64 x
abbrev vB (x:Int):Value:= .int .u8 x
abbrev vQ (x:Int):Value:= .int .u64 x
abbrev vW (x:Int):Value:= .int .u32 x
abbrev vP (g o:Nat):Value:= .pointer (some ⟨g,o,none⟩)
abbrev vS (g n c:Nat):Value:= .slice (some ⟨g,0,none⟩) n c
abbrev vN:Value:= .slice none 0 0
theorem om {p:Prop} (h:p:=by omega):p:=h
theorem kr {p:Prop} (h:p:=by kernel_rfl):p:=h
theorem de {p:Prop} (h:p:=by decide):p:=h
inductive Fact
 |blk (g:Nat) (cs:Array Value) (t:TypeId)
 |row (v:Value) (n:Nat) (xs:List Value) (e:TypeId) (size:Nat)
 |obj (g:Nat) (o:Obj)
def Fact.block:Fact→Option Nat
 | .obj g _=>some g
 | .blk g _ _=>some g
 | .row v _ _ _ _=>v.ownBlock
def Fact.holds (base:Nat) (w:World):Fact→Prop
 | .obj g o=>base≤g∧w.heap[g]?=some o
 | .blk g cs t=>base≤g∧w.heap[g]?=some (.cells cs t (0,0))
 | .row v n xs e size=>w.ownsRow base e size v n xs
def Fact.apart (f g:Fact):Prop:=∀x,f.block=some x→g.block≠some x
structure Mem (W w:World) (fs:List Fact):Prop where
 below:Below W.heap.size W w
 holds:∀f∈fs,f.holds W.heap.size w
 apart:fs.Pairwise Fact.apart
theorem Fact.apart.symm {f g:Fact} (h:f.apart g):g.apart f:=fun x hx hf=>h x hf hx
theorem Vg {w:World} {base:Nat} {e:TypeId} {size:Nat} {v:Value} {n:Nat} {xs:List Value} (h:w.ownsRow base e size v n xs) {g:Nat} (hg:v.ownBlock=some g):base≤g∧g<w.heap.size:=by
 rcases h.2 with ⟨rfl,_⟩|⟨g',cap,cur,rfl,hb,hg',_⟩
 ·cases hg
 ·cases hg;exact ⟨hb,qY hg'⟩
theorem Fact.holds.lt {base:Nat} {w:World} {f:Fact} (h:f.holds base w) {g:Nat} (hg:f.block=some g):base≤g∧g<w.heap.size:=by
 cases f with
 |blk g' cs t=>injection hg with hg;subst hg;exact ⟨h.1,qY h.2⟩
 |row v n xs e size=>exact Vg h hg
 |obj g' o=>injection hg with hg;subst hg;exact ⟨h.1,qY h.2⟩
theorem Fact.holds.keep {base:Nat} {w w':World} {f:Fact} (h:f.holds base w) (hk:∀g,f.block=some g→w'.heap[g]?=w.heap[g]?):f.holds base w':=by
 cases f with
 |obj g o=>exact ⟨h.1,(hk g rfl).trans h.2⟩
 |blk g cs t=>exact ⟨h.1,(hk g rfl).trans h.2⟩
 |row v n xs e size=>
  refine ⟨h.1,?_⟩
  rcases h.2 with h1|⟨g,cap,cur,rfl,hb,hg,r⟩
  ·exact .inl h1
  ·exact .inr ⟨g,cap,cur,rfl,hb,(hk g rfl).trans hg,r⟩
section
variable {W w w':World} {fs fs':List Fact}
theorem Mem.start (W:World):Mem W W []:=⟨Below.refl _ _,by simp,.nil⟩
theorem Mem.size (h:Mem W w fs):W.heap.size≤w.heap.size:=h.below.size
theorem Mem.call (h:Mem W w fs) (hb:Below w.heap.size w w'):Mem W w' fs:=
 ⟨h.below.trans (hb.mono h.size),fun f hf=>(h.holds f hf).keep fun g hg=>hb.block g ((h.holds f hf).lt hg).2,h.apart⟩
theorem Mem.drew (h:Mem W w fs):Mem W w.drew fs:=h.call (Below.refl _ _).drew
theorem Mem.cons (h:Mem W w fs) {f:Fact} (hf:f.holds W.heap.size w) (hn:∀g,f.block=some g→∀k∈fs,k.block≠some g):Mem W w (f::fs):=
 ⟨h.below,fun k hk=>by
  rcases List.mem_cons.1 hk with rfl|hk
  ·exact hf
  ·exact h.holds k hk,List.pairwise_cons.2 ⟨fun k hk g hg=>hn g hg k hk,h.apart⟩⟩
theorem Mem.nil (h:Mem W w fs) (e:TypeId) (size:Nat):Mem W w (.row (.slice none 0 0) 0 [] e size::fs):=
 h.cons (World.ownsRow_nil _ _ _ _) (fun g hg=>by cases hg)
theorem Mem.bq (h:Mem W w fs) (hb:Below w.heap.size w w') {e:TypeId} {size n:Nat} {v:Value} {xs:List Value} (hr:w'.ownsRow w.heap.size e size v n xs):Mem W w' (.row v n xs e size::fs):=
 (h.call hb).cons (R3 hr h.size) (fun g hg k hk hkg => by
  have h1:=(Vg hr hg).1
  have h2:=((h.holds k hk).lt hkg).2
  omega)
theorem Mem.alloc (h:Mem W w fs) (cs:Array Value) (t:TypeId):Mem W (w.alloc (.cells cs t)) (.blk w.heap.size cs t::fs):=
 (h.call ((Below.refl _ _).alloc (Nat.le_refl _) _)).cons ⟨h.size, World.alloc_heap_new w _⟩ (fun g hg k hk hkg => by
  injection hg with hg
  have h2:=((h.holds k hk).lt hkg).2
  omega)
theorem Mem.oh (h:Mem W w fs) (o:Obj):Mem W (w.alloc o) (.obj w.heap.size o::fs):=
 (h.call ((Below.refl _ _).alloc (Nat.le_refl _) _)).cons ⟨h.size, World.alloc_heap_new w _⟩ (fun g hg k hk hkg => by
  injection hg with hg
  have h2:=((h.holds k hk).lt hkg).2
  omega)
def picks (fs:List Fact) (is:List Nat):List Fact:=is.filterMap (fs[·]?)
theorem Sl (h:fs.Pairwise Fact.apart):∀{is:List Nat},is.Nodup→(picks fs is).Pairwise Fact.apart
 |[],_=> .nil
 | i :: is, hn => by
  rw [List.nodup_cons] at hn
  unfold picks
  rw [List.filterMap_cons]
  cases hi:fs[i]? with
  |none=>exact Sl h hn.2
  | some f =>
   refine List.pairwise_cons.2 ⟨fun k hk=>?_,Sl h hn.2⟩
   obtain ⟨j,hj,hjk⟩:=List.mem_filterMap.1 hk
   have hij:i≠j:=fun e=>hn.1 (e▸hj)
   obtain ⟨hil,hif⟩:=List.getElem?_eq_some_iff.1 hi
   obtain ⟨hjl,KQ⟩:=List.getElem?_eq_some_iff.1 hjk
   rcases Nat.lt_or_gt_of_ne hij with h1|h1
   ·have:=List.pairwise_iff_getElem.1 h i j hil hjl h1
    rwa [hif,KQ] at this
   ·have:=List.pairwise_iff_getElem.1 h j i hjl hil h1
    rw [hif,KQ] at this
    exact this.symm
theorem Mem.picks (h:Mem W w fs) (is:List Nat) (hn:is.Nodup) (he:picks fs is=fs'):Mem W w fs':=by
 subst he
 refine ⟨h.below,fun f hf=>?_,Sl h.apart hn⟩
 obtain ⟨j,_,hj⟩:=List.mem_filterMap.1 hf
 exact h.holds f (List.mem_of_getElem? hj)
theorem Mem.tail {f:Fact} (h:Mem W w (f::fs)):Mem W w fs:=⟨h.below,fun k hk=>h.holds k (List.mem_cons_of_mem _ hk),(List.pairwise_cons.1 h.apart).2⟩
theorem Mem.turn (h:Mem W w fs) {i:Nat} {f f':Fact} (hi:fs[i]?=some f) (hb:Below W.heap.size W w') (hk:∀g,g<w.heap.size→f.block≠some g→w'.heap[g]?=w.heap[g]?)
  (hf:f'.holds W.heap.size w') (hn:∀g,f'.block=some g→f.block=some g∨w.heap.size≤g):Mem W w' (fs.set i f'):=by
 obtain ⟨hil,hif⟩:=List.getElem?_eq_some_iff.1 hi
 have hother:∀j (hj:j<fs.length),j≠i→Fact.apart fs[j] f∧Fact.apart f fs[j]:=fun j hj hji=>by
  rcases Nat.lt_or_gt_of_ne hji with h1|h1
  ·have:=List.pairwise_iff_getElem.1 h.apart j i hj hil h1
   rw [hif] at this
   exact ⟨this,this.symm⟩
  ·have:=List.pairwise_iff_getElem.1 h.apart i j hil hj h1
   rw [hif] at this
   exact ⟨this.symm,this⟩
 have hnew:∀j (hj:j<fs.length),j≠i→Fact.apart f' fs[j]:=fun j hj hji g hg hg'=>by
  rcases hn g hg with h1|h1
  ·exact (hother j hj hji).2 g h1 hg'
  ·have:=((h.holds _ (List.getElem_mem hj)).lt hg').2
   omega
 refine ⟨hb,fun k hkm=>?_,?_⟩
 ·obtain ⟨j,hj,hjk⟩:=List.getElem_of_mem hkm
  rw [List.getElem_set] at hjk
  rw [List.length_set] at hj
  split at hjk
  ·subst hjk;exact hf
  ·rename_i hne
   subst hjk
   have hh:=h.holds _ (List.getElem_mem hj)
   exact hh.keep fun g hg=>hk g (hh.lt hg).2 (fun e=>(hother j hj (Ne.symm hne)).1 g hg e)
 ·rw [List.pairwise_iff_getElem]
  intro p q hp hq hpq
  rw [List.length_set] at hp hq
  rw [List.getElem_set,List.getElem_set]
  split
  ·rename_i e
   subst e
   rw [if_neg (by omega)]
   exact hnew q hq (by omega)
  ·split
   ·rename_i e
    subst e
    exact (hnew p hp (by omega)).symm
   ·exact List.pairwise_iff_getElem.1 h.apart p q hp hq hpq
theorem Mem.blk (h:Mem W w fs) {i g:Nat} {cs:Array Value} {t:TypeId} (hi:fs[i]?=some (.blk g cs t)):w.heap[g]?=some (.cells cs t (0,0)):=(h.holds _ (List.mem_of_getElem? hi)).2
theorem Mem.cell (h:Mem W w fs) {i g o:Nat} {cs:Array Value} {t:TypeId} {v:Value} (hi:fs[i]?=some (.blk g cs t)) (hc:cs[o]?=some v):w.cell? ⟨g,o,none⟩=some v:=by
 simp [World.cell?,h.blk hi,hc]
theorem Mem.own (h:Mem W w fs) {i:Nat} {v:Value} {n:Nat} {xs:List Value} {e:TypeId} {size:Nat} (hi:fs[i]?=some (.row v n xs e size)):w.ownsRow W.heap.size e size v n xs:=h.holds _ (List.mem_of_getElem? hi)
theorem Mem.rd (h:Mem W w fs) {i:Nat} {A:Option Addr} {n c:Nat} {xs:List Value} {e:TypeId} {size:Nat} (hi:fs[i]?=some (.row (.slice A n c) n xs e size)):Rd w w.heap.size size A n xs:=Rd.zfa (h.own hi) rfl
theorem Mem.old (h:Mem W w fs) {size:Nat} {A:Option Addr} {n:Nat} {xs:List Value} (hr:Rd W W.heap.size size A n xs):Rd w w.heap.size size A n xs:=(hr.below h.below).more h.size
theorem Rd.zfb {w:World} {g:Nat} {cs:Array Value} {t:TypeId} (hb:w.heap[g]?=some (.cells cs t (0,0))) {size n:Nat} (hn:cs.size=n*size):Rd w w.heap.size size (some ⟨g,0,none⟩) n cs.toList:=
 ⟨by simpa using hn,fun _=>⟨_,rfl,qY hb,fun j u hu=>by
  rw [Addr.add_mid,Nat.zero_add]
  simp only [World.cell?,hb]
  simpa using hu⟩⟩
theorem Mem.aN (h:Mem W w fs) {i g:Nat} {cs:Array Value} {t:TypeId} {size n:Nat} (hi:fs[i]?=some (.blk g cs t)) (hn:cs.size=n*size):Rd w w.heap.size size (some ⟨g,0,none⟩) n cs.toList:=Rd.zfb (h.blk hi) hn
theorem Mem.dJ (h:Mem W w fs) {i g:Nat} {cs:Array Value} {e:TypeId} {size n:Nat} (hi:fs[i]?=some (.blk g cs e)) (hn:cs.size=n*size) (hm:n≤9223372036854775807):Mem W w (fs.set i (.row (.slice (some ⟨g,0,none⟩) n n) n cs.toList e size)):=by
 have hb:=h.holds _ (List.mem_of_getElem? hi)
 refine h.turn hi h.below (fun _ _ _=>rfl) ⟨by simpa using hn,.inr ⟨g,n,cs,rfl,hb.1,hb.2,Nat.le_refl _,by unfold maxLen;exact hm,hn,?_⟩⟩ (fun g' hg'=> .inl hg')
 rw [←hn,←Array.length_toList,List.take_length]
theorem Mem.set (h:Mem W w fs) {i g o:Nat} {cs:Array Value} {t:TypeId} (hi:fs[i]?=some (.blk g cs t)) (v:Value):Mem W (w.setCell ⟨g,o,none⟩ v) (fs.set i (.blk g (cs.setIfInBounds o v) t)):=by
 have hb:=h.holds _ (List.mem_of_getElem? hi)
 refine h.turn hi (h.below.setCell (p:=⟨g,o,none⟩) hb.1 v) (fun k hk hne=>?_) ⟨hb.1,?_⟩ (fun g' hg'=> .inl hg')
 ·exact Below.heap_setCell _ _ _ _ (fun e=>hne (by rw [e];rfl))
 ·simp [World.setCell,Array.getElem?_modify,hb.2]
theorem Mem.GX (h:Mem W w fs) {i g:Nat} {cs ds:Array Value} {t:TypeId} (hi:fs[i]?=some (.blk g cs t)) (hs:cs.size=ds.size):Mem W (w.setCells g 0 ds.toList) (fs.set i (.blk g ds t)):=by
 have hb:=h.holds _ (List.mem_of_getElem? hi)
 refine h.turn hi (below_setCells h.below hb.1 0 _) (fun k hk hne=>?_) ⟨hb.1,?_⟩ (fun g' hg'=> .inl hg')
 ·exact zp _ _ _ _ _ (fun e=>hne (by rw [e];rfl))
 ·have:=qfx hb.2 ds.toList (by simpa using hs)
  simpa using this
theorem Mem.append (h:Mem W w fs) {i n:Nat} {v v':Value} {xs ys:List Value} {e:TypeId} {size n':Nat} (hi:fs[i]?=some (.row v n xs e size)) (ho:w'.ownsRow W.heap.size e size v' n' ys) (hg:w.grownBy w' v.ownBlock)
  (hb:v'.ownBlock=v.ownBlock∨v'.ownBlock=some w.heap.size):Mem W w' (fs.set i (.row v' n' ys e size)):=by
 have hv:=h.own hi
 refine h.turn hi (h.below.grown hg h.size (fun g hgb=>(Vg hv hgb).1)) (fun g hgl hne=>hg.block g hgl (fun e=>hne e.symm)) ho (fun g hgb=>?_)
 have hgb':v'.ownBlock=some g:=hgb
 rcases hb with h1|h1
 ·exact .inl (show v.ownBlock=some g by rw [←h1];exact hgb')
 ·rw [h1] at hgb';injection hgb' with e;exact .inr (by omega)
end
end Go.Proofs.YtekiimhdnigmcaaGreatDoor
