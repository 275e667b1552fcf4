/- Parts. -/
import Derived.Test.YtfeheccoijnbaaaGreatDoorQvSep
import Derived.Deep.DeepAppendWide
import Derived.Deep.Upon
import Derived.MapKept
import Derived.IntWalk
import Derived.Maps.RangeRun
import Derived.Test.YtfeheccoijnbaaaGreatDoorQvRnd
import Derived.RangeFuncLeaves
import Derived.Test.YtfeheccoijnbaaaGreatDoorQvConv
import Derived.Lib.AppendZeros
import Derived.ChangeKeysEq
import Derived.Laws.StructEq
import Derived.Deep.AppendSrc
import Derived.Test.YtfeheccoijnbaaaGreatDoorQvVarint
import Derived.Test.YtfeheccoijnbaaaGreatDoorQvBlkS
import Derived.Test.YtfeheccoijnbaaaGreatDoorQvDoor
import Derived.Test.YtfeheccoijnbaaaGreatDoorRows
set_option linter.all false
set_option maxRecDepth 100000
set_option maxHeartbeats 8000000
namespace Go.Proofs.YtfeheccoijnbaaaGreatDoor
open Go.RowKit
abbrev vI (x : Int) : Value := .int .i64 x
abbrev vB (x : Int) : Value := .int .u8 x
abbrev vQ (x : Int) : Value := .int .u64 x
abbrev vW (x : Int) : Value := .int .u32 x
abbrev vP (g o : Nat) : Value := .pointer (some ⟨g, o, none⟩)
abbrev vS (g n c : Nat) : Value := .slice (some ⟨g, 0, none⟩) n c
inductive Fact
 | blk (g : Nat) (cs : Array Value) (t : TypeId)
 | row (v : Value) (n : Nat) (xs : List Value) (e : TypeId) (size : Nat)
 | obj (g : Nat) (o : Obj)
def Fact.block : Fact → Option Nat
 | .obj g _ => some g
 | .blk g _ _ => some g
 | .row v _ _ _ _ => v.ownBlock
def Fact.holds (base : Nat) (w : World) : Fact → Prop
 | .obj g o => base ≤ g ∧ w.heap[g]? = some o
 | .blk g cs t => base ≤ g ∧ w.heap[g]? = some (.cells cs t (0, 0))
 | .row v n xs e size => w.ownsRow base e size v n xs
def Fact.apart (f g : Fact) : Prop := ∀ x, f.block = some x → g.block ≠ some x
structure Mem (W w : World) (fs : List Fact) : Prop where
 below : Below W.heap.size W w
 holds : ∀ f ∈ fs, f.holds W.heap.size w
 apart : fs.Pairwise Fact.apart
theorem Fact.apart.symm {f g : Fact} (h : f.apart g) : g.apart f := fun x hx hf => h x hf hx
theorem qhl {w : World} {base : Nat} {e : TypeId} {size : Nat} {v : Value} {n : Nat} {xs : List Value} (h : w.ownsRow base e size v n xs) {g : Nat} (hg : v.ownBlock = some g) : base ≤ g ∧ g < w.heap.size := by
 rcases h.2 with ⟨rfl, _⟩ | ⟨g', cap, cur, rfl, hb, hg', _⟩
 ·cases hg
 ·cases hg; exact ⟨hb, qae hg'⟩
theorem Fact.holds.lt {base : Nat} {w : World} {f : Fact} (h : f.holds base w) {g : Nat} (hg : f.block = some g) : base ≤ g ∧ g < w.heap.size := by
 cases f with
 | blk g' cs t => injection hg with hg; subst hg; exact ⟨h.1, qae h.2⟩
 | row v n xs e size => exact qhl h hg
 | obj g' o => injection hg with hg; subst hg; exact ⟨h.1, qae h.2⟩
theorem Fact.holds.keep {base : Nat} {w w' : World} {f : Fact} (h : f.holds base w) (hk : ∀ g, f.block = some g → w'.heap[g]? = w.heap[g]?) : f.holds base w' := by
 cases f with
 | obj g o => exact ⟨h.1, (hk g rfl).trans h.2⟩
 | blk g cs t => exact ⟨h.1, (hk g rfl).trans h.2⟩
 | row v n xs e size =>
  refine ⟨h.1, ?_⟩
  rcases h.2 with h1 | ⟨g, cap, cur, rfl, hb, hg, r⟩
  ·exact .inl h1
  ·exact .inr ⟨g, cap, cur, rfl, hb, (hk g rfl).trans hg, r⟩
section
variable {W w w' : World} {fs fs' : List Fact}
theorem Mem.start (W : World) : Mem W W [] := ⟨Below.refl _ _, by simp, .nil⟩
theorem Mem.size (h : Mem W w fs) : W.heap.size ≤ w.heap.size := h.below.size
theorem Mem.call (h : Mem W w fs) (hb : Below w.heap.size w w') : Mem W w' fs :=
 ⟨h.below.trans (hb.mono h.size), fun f hf => (h.holds f hf).keep fun g hg => hb.block g ((h.holds f hf).lt hg).2, h.apart⟩
theorem Mem.drew (h : Mem W w fs) : Mem W w.drew fs := h.call (Below.refl _ _).drew
theorem Mem.cons (h : Mem W w fs) {f : Fact} (hf : f.holds W.heap.size w) (hn : ∀ g, f.block = some g → ∀ k ∈ fs, k.block ≠ some g) : Mem W w (f :: fs) :=
 ⟨h.below, fun k hk => by
  rcases List.mem_cons.1 hk with rfl | hk
  ·exact hf
  ·exact h.holds k hk, List.pairwise_cons.2 ⟨fun k hk g hg => hn g hg k hk, h.apart⟩⟩
theorem Mem.nil (h : Mem W w fs) (e : TypeId) (size : Nat) : Mem W w (.row (.slice none 0 0) 0 [] e size :: fs) :=
 h.cons (World.ownsRow_nil _ _ _ _) (fun g hg => by cases hg)
theorem Mem.callRow (h : Mem W w fs) (hb : Below w.heap.size w w') {e : TypeId} {size n : Nat} {v : Value} {xs : List Value} (hr : w'.ownsRow w.heap.size e size v n xs) : Mem W w' (.row v n xs e size :: fs) :=
 (h.call hb).cons (qec hr h.size) (fun g hg k hk hkg => by
  have h1 := (qhl hr hg).1
  have h2 := ((h.holds k hk).lt hkg).2
  omega)
theorem Mem.alloc (h : Mem W w fs) (cs : Array Value) (t : TypeId) : Mem W (w.alloc (.cells cs t)) (.blk w.heap.size cs t :: fs) :=
 (h.call ((Below.refl _ _).alloc (Nat.le_refl _) _)).cons ⟨h.size, World.alloc_heap_new w _⟩ (fun g hg k hk hkg => by
  injection hg with hg
  have h2 := ((h.holds k hk).lt hkg).2
  omega)
theorem Mem.allocObj (h : Mem W w fs) (o : Obj) : Mem W (w.alloc o) (.obj w.heap.size o :: fs) :=
 (h.call ((Below.refl _ _).alloc (Nat.le_refl _) _)).cons ⟨h.size, World.alloc_heap_new w _⟩ (fun g hg k hk hkg => by
  injection hg with hg
  have h2 := ((h.holds k hk).lt hkg).2
  omega)
def picks (fs : List Fact) (is : List Nat) : List Fact := is.filterMap (fs[·]?)
theorem qbz (h : fs.Pairwise Fact.apart) : ∀ {is : List Nat}, is.Nodup → (picks fs is).Pairwise Fact.apart
 | [], _ => .nil
 | i :: is, hn => by
  rw [List.nodup_cons] at hn
  unfold picks
  rw [List.filterMap_cons]
  cases hi : fs[i]? with
  | none => exact qbz h hn.2
  | some f =>
   refine List.pairwise_cons.2 ⟨fun k hk => ?_, qbz h hn.2⟩
   obtain ⟨j, hj, hjk⟩ := List.mem_filterMap.1 hk
   have hij : i ≠ j := fun e => hn.1 (e ▸ hj)
   obtain ⟨hil, hif⟩ := List.getElem?_eq_some_iff.1 hi
   obtain ⟨hjl, hjf⟩ := List.getElem?_eq_some_iff.1 hjk
   rcases Nat.lt_or_gt_of_ne hij with h1 | h1
   ·have := List.pairwise_iff_getElem.1 h i j hil hjl h1
    rwa [hif, hjf] at this
   ·have := List.pairwise_iff_getElem.1 h j i hjl hil h1
    rw [hif, hjf] at this
    exact this.symm
theorem Mem.picks (h : Mem W w fs) (is : List Nat) (hn : is.Nodup) (he : picks fs is = fs') : Mem W w fs' := by
 subst he
 refine ⟨h.below, fun f hf => ?_, qbz h.apart hn⟩
 obtain ⟨j, _, hj⟩ := List.mem_filterMap.1 hf
 exact h.holds f (List.mem_of_getElem? hj)
theorem Mem.tail {f : Fact} (h : Mem W w (f :: fs)) : Mem W w fs := ⟨h.below, fun k hk => h.holds k (List.mem_cons_of_mem _ hk), (List.pairwise_cons.1 h.apart).2⟩
theorem Mem.turn (h : Mem W w fs) {i : Nat} {f f' : Fact} (hi : fs[i]? = some f) (hb : Below W.heap.size W w') (hk : ∀ g, g < w.heap.size → f.block ≠ some g → w'.heap[g]? = w.heap[g]?)
  (hf : f'.holds W.heap.size w') (hn : ∀ g, f'.block = some g → f.block = some g ∨ w.heap.size ≤ g) : Mem W w' (fs.set i f') := by
 obtain ⟨hil, hif⟩ := List.getElem?_eq_some_iff.1 hi
 have hother : ∀ j (hj : j < fs.length), j ≠ i → Fact.apart fs[j] f ∧ Fact.apart f fs[j] := fun j hj hji => by
  rcases Nat.lt_or_gt_of_ne hji with h1 | h1
  ·have := List.pairwise_iff_getElem.1 h.apart j i hj hil h1
   rw [hif] at this
   exact ⟨this, this.symm⟩
  ·have := List.pairwise_iff_getElem.1 h.apart i j hil hj h1
   rw [hif] at this
   exact ⟨this.symm, this⟩
 have hnew : ∀ j (hj : j < fs.length), j ≠ i → Fact.apart f' fs[j] := fun j hj hji g hg hg' => by
  rcases hn g hg with h1 | h1
  ·exact (hother j hj hji).2 g h1 hg'
  ·have := ((h.holds _ (List.getElem_mem hj)).lt hg').2
   omega
 refine ⟨hb, fun k hkm => ?_, ?_⟩
 ·obtain ⟨j, hj, hjk⟩ := List.getElem_of_mem hkm
  rw [List.getElem_set] at hjk
  rw [List.length_set] at hj
  split at hjk
  ·subst hjk; exact hf
  ·rename_i hne
   subst hjk
   have hh := h.holds _ (List.getElem_mem hj)
   exact hh.keep fun g hg => hk g (hh.lt hg).2 (fun e => (hother j hj (Ne.symm hne)).1 g hg e)
 ·rw [List.pairwise_iff_getElem]
  intro p q hp hq hpq
  rw [List.length_set] at hp hq
  rw [List.getElem_set, List.getElem_set]
  split
  ·rename_i e
   subst e
   rw [if_neg (by omega)]
   exact hnew q hq (by omega)
  ·split
   ·rename_i e
    subst e
    exact (hnew p hp (by omega)).symm
   ·exact List.pairwise_iff_getElem.1 h.apart p q hp hq hpq
theorem Mem.blk (h : Mem W w fs) {i g : Nat} {cs : Array Value} {t : TypeId} (hi : fs[i]? = some (.blk g cs t)) : w.heap[g]? = some (.cells cs t (0, 0)) := (h.holds _ (List.mem_of_getElem? hi)).2
theorem Mem.cell (h : Mem W w fs) {i g o : Nat} {cs : Array Value} {t : TypeId} {v : Value} (hi : fs[i]? = some (.blk g cs t)) (hc : cs[o]? = some v) : w.cell? ⟨g, o, none⟩ = some v := by
 simp [World.cell?, h.blk hi, hc]
theorem Mem.own (h : Mem W w fs) {i : Nat} {v : Value} {n : Nat} {xs : List Value} {e : TypeId} {size : Nat} (hi : fs[i]? = some (.row v n xs e size)) : w.ownsRow W.heap.size e size v n xs := h.holds _ (List.mem_of_getElem? hi)
theorem Mem.rd (h : Mem W w fs) {i : Nat} {A : Option Addr} {n c : Nat} {xs : List Value} {e : TypeId} {size : Nat} (hi : fs[i]? = some (.row (.slice A n c) n xs e size)) : Rd w w.heap.size size A n xs := Rd.qiq (h.own hi) rfl
theorem Mem.old (h : Mem W w fs) {size : Nat} {A : Option Addr} {n : Nat} {xs : List Value} (hr : Rd W W.heap.size size A n xs) : Rd w w.heap.size size A n xs := (hr.below h.below).more h.size
theorem Rd.qz8 {w : World} {g : Nat} {cs : Array Value} {t : TypeId} (hb : w.heap[g]? = some (.cells cs t (0, 0))) {size n : Nat} (hn : cs.size = n * size) : Rd w w.heap.size size (some ⟨g, 0, none⟩) n cs.toList :=
 ⟨by simpa using hn, fun _ => ⟨_, rfl, qae hb, fun j u hu => by
  rw [Addr.add_mid, Nat.zero_add]
  simp only [World.cell?, hb]
  simpa using hu⟩⟩
theorem Mem.rdBlk (h : Mem W w fs) {i g : Nat} {cs : Array Value} {t : TypeId} {size n : Nat} (hi : fs[i]? = some (.blk g cs t)) (hn : cs.size = n * size) : Rd w w.heap.size size (some ⟨g, 0, none⟩) n cs.toList := Rd.qz8 (h.blk hi) hn
theorem Mem.blkRow (h : Mem W w fs) {i g : Nat} {cs : Array Value} {e : TypeId} {size n : Nat} (hi : fs[i]? = some (.blk g cs e)) (hn : cs.size = n * size) (hm : n ≤ 9223372036854775807) : Mem W w (fs.set i (.row (.slice (some ⟨g, 0, none⟩) n n) n cs.toList e size)) := by
 have hb := h.holds _ (List.mem_of_getElem? hi)
 refine h.turn hi h.below (fun _ _ _ => rfl) ⟨by simpa using hn, .inr ⟨g, n, cs, rfl, hb.1, hb.2, Nat.le_refl _, by unfold maxLen; exact hm, hn, ?_⟩⟩ (fun g' hg' => .inl hg')
 rw [← hn, ← Array.length_toList, List.take_length]
theorem Mem.set (h : Mem W w fs) {i g o : Nat} {cs : Array Value} {t : TypeId} (hi : fs[i]? = some (.blk g cs t)) (v : Value) : Mem W (w.setCell ⟨g, o, none⟩ v) (fs.set i (.blk g (cs.setIfInBounds o v) t)) := by
 have hb := h.holds _ (List.mem_of_getElem? hi)
 refine h.turn hi (h.below.setCell (p := ⟨g, o, none⟩) hb.1 v) (fun k hk hne => ?_) ⟨hb.1, ?_⟩ (fun g' hg' => .inl hg')
 ·exact Below.heap_setCell _ _ _ _ (fun e => hne (by rw [e]; rfl))
 ·simp [World.setCell, Array.getElem?_modify, hb.2]
theorem Mem.setAll (h : Mem W w fs) {i g : Nat} {cs ds : Array Value} {t : TypeId} (hi : fs[i]? = some (.blk g cs t)) (hs : cs.size = ds.size) : Mem W (w.setCells g 0 ds.toList) (fs.set i (.blk g ds t)) := by
 have hb := h.holds _ (List.mem_of_getElem? hi)
 refine h.turn hi (below_setCells h.below hb.1 0 _) (fun k hk hne => ?_) ⟨hb.1, ?_⟩ (fun g' hg' => .inl hg')
 ·exact qam _ _ _ _ _ (fun e => hne (by rw [e]; rfl))
 ·have := qcw hb.2 ds.toList (by simpa using hs)
  simpa using this
theorem Mem.append (h : Mem W w fs) {i n : Nat} {v v' : Value} {xs ys : List Value} {e : TypeId} {size n' : Nat} (hi : fs[i]? = some (.row v n xs e size)) (ho : w'.ownsRow W.heap.size e size v' n' ys) (hg : w.grownBy w' v.ownBlock)
  (hb : v'.ownBlock = v.ownBlock ∨ v'.ownBlock = some w.heap.size) : Mem W w' (fs.set i (.row v' n' ys e size)) := by
 have hv := h.own hi
 refine h.turn hi (h.below.grown hg h.size (fun g hgb => (qhl hv hgb).1)) (fun g hgl hne => hg.block g hgl (fun e => hne e.symm)) ho (fun g hgb => ?_)
 have hgb' : v'.ownBlock = some g := hgb
 rcases hb with h1 | h1
 ·exact .inl (show v.ownBlock = some g by rw [← h1]; exact hgb')
 ·rw [h1] at hgb'; injection hgb' with e; exact .inr (by omega)
end
def qat (P : Program) (ops : Array Oper) (Q : Exit → Act → World → Prop) (i : Nat) (a : Act) (w : World) : Prop := wpList P ops Q (ops.toList.drop i) a w
def Yl (P : Program) (S : World → Prop) (σ : List (Nat × Value)) (o : Oper) (v : Value) : Prop := ∀ (a : Act) (n : Nat) (D : List Deferred), Fr a n D σ → ∀ w, S w → (execOp a.eval o).run P w = .ok (.value v) w
section
variable {P : Program} {ops : Array Oper} {Q : Exit → Act → World → Prop} {a : Act} {w : World} {n i j d fuel : Nat} {D : List Deferred} {σ σ' : List (Nat × Value)} {o : Oper} {v : Value} {md : Region.Mode} {S : World → Prop} {K : Act → World → Prop} {listed : Array Bool}
theorem qa {id : Nat} (h : qat P ops Q 0 a w) : (Code.region id ops false).wp P Q a w := wp_region_list (by simpa [qat] using h)
theorem qb (hi : ops.size = i) (h : Q .normal a w) : qat P ops Q i a w := by
 unfold qat
 rw [List.drop_of_length_le (by simp [hi])]
 exact h
theorem qsm (HF : Fr a n D σ) (ho : ops[i]? = some o) (hw : wantB ops σ o = some true) (h : o.wp P a w (qat P ops Q (i + 1)) Q) : qat P ops Q i a w := by
 obtain ⟨hl, he⟩ := Array.getElem?_eq_some_iff.1 ho
 unfold qat
 rw [List.drop_eq_getElem_cons (by simpa using hl), Array.getElem_toList, he]
 unfold wpList
 rw [if_pos (qc5 HF hw)]
 exact .inl h
theorem qsn (HF : Fr a n D σ) (ho : ops[i]? = some o) (hw : wantB ops σ o = some false) (hd : o.dst = some d) (hdn : d < n) (k : ∀ a', Fr a' n D ((d, undef) :: σ) → qat P ops Q (i + 1) a' w) : qat P ops Q i a w := by
 obtain ⟨hl, he⟩ := Array.getElem?_eq_some_iff.1 ho
 unfold qat
 rw [List.drop_eq_getElem_cons (by simpa using hl), Array.getElem_toList, he]
 unfold wpList
 rw [if_neg (by rw [qc5 HF hw]; simp), hd]
 exact k _ (HF.put hdn _)
theorem Yl.wp (hy : Yl P S σ o v) (HF : Fr a n D σ) (hS : S w) (hd : o.dst = some d) (hdn : d < n) (k : ∀ a', Fr a' n D ((d, v) :: σ) → K a' w) : o.wp P a w K Q := by
 unfold Oper.wp
 rw [hy a n D HF w hS, Oper.upon_value, hd]
 exact k _ (HF.put hdn _)
theorem qso (HF : Fr a n D σ) (hS : S w) (ho : ops[i]? = some o) (hw : wantB ops σ o = some true) (hd : o.dst = some d) (hdn : d < n) (hy : Yl P S σ o v) (k : ∀ a', Fr a' n D ((d, v) :: σ) → qat P ops Q (i + 1) a' w) : qat P ops Q i a w :=
 qsm HF ho hw (hy.wp HF hS hd hdn k)
theorem Yl.pure (h : qko P σ o.op = some v) : Yl P S σ o v := fun _ _ _ HF w _ => qnz HF h w
def qdg (P : Program) (ops : Array Oper) (n i : Nat) (σ : List (Nat × Value)) : Option (List (Nat × Value)) :=
 match ops[i]? with
 | none => none
 | some o => match wantB ops σ o, o.dst with
  | some true, some d => if d < n then match qko P σ o.op with
   | some v => some ((d, v) :: σ)
   | none => none else none
  | some false, some d => if d < n then some ((d, undef) :: σ) else none
  | _, _ => none
def qb3 (P : Program) (ops : Array Oper) (n : Nat) : Nat → Nat → List (Nat × Value) → Option (List (Nat × Value))
 | 0, _, σ => some σ
 | m + 1, i, σ => match qdg P ops n i σ with
  | none => none
  | some σ' => qb3 P ops n m (i + 1) σ'
theorem qhm : ∀ (m i : Nat) {j : Nat} {a : Act} {σ : List (Nat × Value)}, Fr a n D σ → qb3 P ops n m i σ = some σ' → i + m = j → (∀ a', Fr a' n D σ' → qat P ops Q j a' w) → qat P ops Q i a w
 | 0, i, j, a, σ, HF, h, hj, k => by
  injection h with h
  subst h
  have e : i = j := hj
  subst e
  exact k a HF
 | m + 1, i, j, a, σ, HF, h, hj, k => by
  unfold qb3 at h
  split at h
  ·cases h
  ·rename_i σ1 h1
   have rest := fun a' HF' => qhm m (i + 1) (a := a') (σ := σ1) HF' h (by omega) k
   unfold qdg at h1
   split at h1
   ·cases h1
   ·rename_i o ho
    split at h1
    ·rename_i d hw hd
     split at h1
     ·rename_i hdn
      split at h1
      ·rename_i v hv
       injection h1 with h1
       subst h1
       exact qso (S := fun _ => True) HF trivial ho hw hd hdn (Yl.pure hv) rest
      ·cases h1
     ·cases h1
    ·rename_i d hw hd
     split at h1
     ·rename_i hdn
      injection h1 with h1
      subst h1
      exact qsn HF ho hw hd hdn rest
     ·cases h1
    ·cases h1
theorem Fr.sp {v : Value} (h : Fr a n D σ) (t : Nat) (u : Value) (hl : σ.lookup t = some v) (e : v = u) : Fr a n D ((t, u) :: σ) := by
 subst e
 refine ⟨h.size, h.defers, fun s x hx => ?_⟩
 rw [List.lookup_cons] at hx
 split at hx
 ·rename_i hs
  rw [beq_iff_eq] at hs
  subst hs
  injection hx with hx
  subst hx
  exact h.slot _ _ hl
 ·exact h.slot _ _ hx
theorem Fr.to (h : Fr a n D σ) (σ' : List (Nat × Value)) (hs : σ'.map (fun p => σ.lookup p.1) = σ'.map (fun p => some p.2) := by kernel_rfl) : Fr a n D σ' := h.sub hs
theorem Fr.on {b c : Bool} (h : Fr a n D σ) (t : Nat) (hb : b = c) (hl : σ.lookup t = some (.bool b) := by rfl) : Fr a n D ((t, .bool c) :: σ) := by
 subst hb
 refine ⟨h.size, h.defers, fun s x hx => ?_⟩
 rw [List.lookup_cons] at hx
 split at hx
 ·rename_i hs
  rw [beq_iff_eq] at hs
  subst hs
  injection hx with hx
  subst hx
  exact h.slot _ _ hl
 ·exact h.slot _ _ hx
theorem Fr.tf {b : Bool} (h : Fr a n D σ) (t : Nat) (hl : σ.lookup t = some (.bool b)) : (b = true ∧ Fr a n D ((t, .bool true) :: σ)) ∨ (b = false ∧ Fr a n D ((t, .bool false) :: σ)) := by
 cases b
 ·exact .inr ⟨rfl, h.on t rfl hl⟩
 ·exact .inl ⟨rfl, h.on t rfl hl⟩
theorem qgp {i : Nat} {s : List (Nat × Value)} (h : qdg P ops n i σ = some s) : ∃ p, s = p :: σ := by
 unfold qdg at h
 split at h
 ·cases h
 ·split at h
  ·split at h
   ·split at h
    ·injection h with h; exact ⟨_, h.symm⟩
    ·cases h
   ·cases h
  ·split at h
   ·injection h with h; exact ⟨_, h.symm⟩
   ·cases h
  ·cases h
theorem qfc : ∀ (m i : Nat) {σ s : List (Nat × Value)}, qb3 P ops n m i σ = some s → ∃ full, s = full ++ σ
 | 0, _, σ, s, h => by injection h with h; exact ⟨[], h.symm⟩
 | m + 1, i, σ, s, h => by
  cases h1 : qdg P ops n i σ with
  | none => rw [qb3, h1] at h; cases h
  | some s1 =>
   rw [qb3, h1] at h
   obtain ⟨p, rfl⟩ := qgp h1
   obtain ⟨full, hf⟩ := qfc m (i + 1) h
   exact ⟨full ++ [p], by rw [hf]; simp⟩
def thin (s σ new : List (Nat × Value)) : Bool := (s.take (s.length - σ.length)).all fun p => (new.any fun q => q.1 == p.1) || !(σ.any fun q => q.1 == p.1)
theorem qf7 {t : Nat} : ∀ {l m : List (Nat × Value)}, (l ++ m).lookup t = match l.lookup t with | some v => some v | none => m.lookup t
 | [], m => rfl
 | q :: l, m => by
  rw [List.cons_append, List.lookup_cons, List.lookup_cons]
  split
  ·rfl
  ·exact qf7
theorem qdh {t : Nat} {v : Value} : ∀ {l : List (Nat × Value)}, l.lookup t = some v → (l.any fun q => q.1 == t) = true
 | [], h => by cases h
 | q :: l, h => by
  rw [List.lookup_cons] at h
  split at h
  ·rename_i hb
   rw [beq_iff_eq] at hb
   simp [hb]
  ·simp only [List.any_cons, Bool.or_eq_true]
   exact .inr (qdh h)
theorem qhn {t : Nat} {l : List (Nat × Value)} (h : (l.any fun q => q.1 == t) = true) : ∃ p ∈ l, p.1 = t := by
 rw [List.any_eq_true] at h
 obtain ⟨p, h1, h2⟩ := h
 exact ⟨p, h1, by simpa using h2⟩
theorem Fr.thin {s full new : List (Nat × Value)} (h : Fr a n D s) (hs : s = full ++ σ) (ht : Go.Proofs.YtfeheccoijnbaaaGreatDoor.thin s σ new = true) (hn : new.map (fun p => s.lookup p.1) = new.map (fun p => some p.2)) : Fr a n D (new ++ σ) := by
 have h1 := h.sub hn
 refine ⟨h.size, h.defers, fun t v hv => ?_⟩
 rw [qf7] at hv
 cases hl : new.lookup t with
 | some u =>
  rw [hl] at hv
  injection hv with hv
  subst hv
  exact h1.slot t u hl
 | none =>
  rw [hl] at hv
  have hv : σ.lookup t = some v := hv
  refine h.slot t v ?_
  rw [hs, qf7]
  cases hf : full.lookup t with
  | none => exact hv
  | some u =>
   exfalso
   unfold Go.Proofs.YtfeheccoijnbaaaGreatDoor.thin at ht
   have hlen : s.take (s.length - σ.length) = full := by rw [hs, List.length_append, Nat.add_sub_cancel]; exact List.take_left
   rw [hlen, List.all_eq_true] at ht
   obtain ⟨p, hp1, hp2⟩ := qhn (qdh hf)
   have := ht p hp1
   rw [hp2, qdh hv] at this
   simp only [Bool.not_true, Bool.or_false] at this
   obtain ⟨q, hq1, hq2⟩ := qhn this
   have h3 : new.lookup t ≠ none := by
    intro h4
    have h5 : ∀ (l : List (Nat × Value)), q ∈ l → l.lookup t ≠ none := by
     intro l
     induction l with
     | nil => intro h6; cases h6
     | cons r l ih =>
      intro h6
      rw [List.lookup_cons]
      split
      ·simp
      ·rename_i hb
       rcases List.mem_cons.1 h6 with rfl | h6
       ·exfalso; rw [hq2] at hb; simp at hb
       ·exact ih h6
    exact h5 new hq1 h4
   exact h3 hl
theorem fp (HF : Fr a n D σ) (m i : Nat) (new : List (Nat × Value)) (k : ∀ a', Fr a' n D (new ++ σ) → qat P ops Q (i + m) a' w) (h : (qb3 P ops n m i σ).map (fun s => (thin s σ new, new.map fun p => s.lookup p.1)) = some (true, new.map fun p => some p.2) := by kernel_rfl) : qat P ops Q i a w := by
 cases hs : qb3 P ops n m i σ with
 | none => rw [hs] at h; cases h
 | some s =>
  rw [hs] at h
  injection h with h
  injection h with h1 h2
  obtain ⟨full, hf⟩ := qfc m i hs
  exact qhm m i HF hs rfl fun a' HF' => k a' (HF'.thin hf h1 h2)
theorem fo (HF : Fr a n D σ) (i : Nat) (ho : ops[i]? = some o) (hw : wantB ops σ o = some true) (h : o.wp P a w (qat P ops Q (i + 1)) Q) : qat P ops Q i a w := qsm HF ho hw h
theorem fy {W : World} {fs : List Fact} (HF : Fr a n D σ) (HM : Mem W w fs) (i : Nat) (ho : ops[i]? = some o) (hw : wantB ops σ o = some true) (hd : o.dst = some d) (hy : Yl P (fun wS => Mem W wS fs) σ o v) (k : ∀ a', Fr a' n D ((d, v) :: σ) → qat P ops Q (i + 1) a' w) (hdn : d < n := by decide) : qat P ops Q i a w :=
 qso (S := fun wS => Mem W wS fs) HF HM ho hw hd hdn hy k
def pastB (ex : List Nat) (listed : Array Bool) : Bool := ex.any fun j => listed.getD j false
def qa0 (P : Program) (md : Region.Mode) (ops : Array Oper) (Q : Exit → Act → World → Prop) (S : World → Prop) (ex : List Nat) : Nat → Array Bool → Act → World → Prop
 | 0, listed, a, w => Region.ready md ops listed = [] ∧ Q .normal a w
 | fuel + 1, listed, a, w =>
  (Region.ready md ops listed = [] → Q .normal a w) ∧
  ∀ i ∈ Region.ready md ops listed, wpOp P ops Q i (fun a' w' => (pastB ex (listed.setIfInBounds i true) = false → S w') ∧ qa0 P md ops Q S ex fuel (listed.setIfInBounds i true) a' w') a w
theorem qdi {ex : List Nat} : ∀ (fuel : Nat) (listed : Array Bool) (a : Act) (w : World), qa0 P md ops Q S ex fuel listed a w → wpAny P md ops Q fuel listed a w
 | 0, _, _, _, h => h
 | fuel + 1, _, _, _, h => ⟨h.1, fun i hi => wpOp_mono (fun a' w' h' => qdi fuel _ a' w' h'.2) (h.2 i hi)⟩
def exOk (md : Region.Mode) (ops : Array Oper) (ex : List Nat) (i : Nat) : Bool := ex.all fun j => match ops[j]? with
 | some o => o.after.any fun e => Region.binds md e && e.on == i
 | none => true
theorem qlt {ex : List Nat} {l : Array Bool} {i : Nat} (h : ex.contains i = false) : pastB ex (l.setIfInBounds i true) = pastB ex l := by
 unfold pastB
 rw [Bool.eq_iff_iff, List.any_eq_true, List.any_eq_true]
 have hne : ∀ j ∈ ex, i ≠ j := fun j hj e => by
  subst e
  have : ex.contains i = true := by simpa using hj
  rw [h] at this; cases this
 constructor
 ·rintro ⟨j, hj, hl⟩; exact ⟨j, hj, by rwa [getD_set_ne false (hne j hj)] at hl⟩
 ·rintro ⟨j, hj, hl⟩; exact ⟨j, hj, by rwa [getD_set_ne false (hne j hj)]⟩
theorem qf8 {ex : List Nat} {l : Array Bool} {i : Nat} (h : pastB ex (l.setIfInBounds i true) = false) : pastB ex l = false := by
 cases hp : pastB ex l with
 | false => rfl
 | true =>
  unfold pastB at h hp
  obtain ⟨j, hj, hl⟩ := List.any_eq_true.1 hp
  rw [List.any_eq_false] at h
  exact absurd (getD_set_true (i := i) hl) (h j hj)
theorem qf9 {ex : List Nat} {oi : Oper} {T : World → Prop} (hi : ops[i]? = some oi) (hsel : ∀ (j : Nat) (o : Oper) cs b, ops[j]? = some o → o.op ≠ .select cs b)
  (hQ : ∀ c (a : Act) w, Q (.panic c) (a.put oi.dst v) w → Q (.panic c) a w) (hiex : ex.contains i = false) :
  ∀ (fuel : Nat) (listed : Array Bool) (a : Act) (w : World), ((∀ w, T w) ∨ (T = S ∧ exOk md ops ex i = true ∧ pastB ex listed = false)) →
   (∀ j oj, ops[j]? = some oj → j ≠ i → listed.getD j true = false → (∀ e ∈ oj.after, Region.binds md e = true → e.on ≠ i) → oi.apart ops oj = true) →
   i ∈ Region.ready md ops listed → YieldsIf P ops T oi v a → (pastB ex listed = false → S w) →
   qa0 P md ops Q S ex fuel (listed.setIfInBounds i true) (a.put oi.dst v) w → qa0 P md ops Q S ex (fuel + 1) listed a w := by
 intro fuel
 induction fuel with
 | zero =>
  intro listed a w hx _ hr hy hS H
  have hT : T w := by rcases hx with h | ⟨h, _, hp⟩ <;> first | exact h w | (rw [h]; exact hS hp)
  refine ⟨fun h => (by rw [h] at hr; cases hr), fun j hj => ?_⟩
  by_cases hji : j = i
  ·subst hji; exact hy.wpOp hi hT ⟨fun hp => hS (qf8 hp), H⟩
  ·have := ready_mono hj hji
   rw [H.1] at this
   cases this
 | succ fuel ih =>
  intro listed a w hx hfree hr hy hS H
  have hT : T w := by rcases hx with h | ⟨h, _, hp⟩ <;> first | exact h w | (rw [h]; exact hS hp)
  refine ⟨fun h => (by rw [h] at hr; cases hr), fun j hj => ?_⟩
  by_cases hji : j = i
  ·subst hji; exact hy.wpOp hi hT ⟨fun hp => hS (qf8 hp), H⟩
  ·have h1 := H.2 j (ready_mono hj hji)
   obtain ⟨hjun, oj, hoj, hall⟩ := mem_ready.1 hj
   have hnot : ∀ e ∈ oj.after, Region.binds md e = true → e.on ≠ i := fun e he hb heq => by
    have h1 := hall e he hb
    have h0 := (mem_ready.1 hr).1
    rw [heq] at h1
    rcases Nat.lt_or_ge i listed.size with h' | h'
    ·simp [h'] at h0 h1; rw [h0] at h1; cases h1
    ·simp [Array.getElem?_eq_none h'] at h1
   have hx' : (∀ w, T w) ∨ (T = S ∧ exOk md ops ex i = true ∧ pastB ex (listed.setIfInBounds j true) = false) := by
    rcases hx with h | ⟨h, h2, h3⟩
    ·exact .inl h
    ·refine .inr ⟨h, h2, ?_⟩
     rw [qlt ?_]
     ·exact h3
     ·cases hc : ex.contains j with
      | false => rfl
      | true =>
       have hm : j ∈ ex := by simpa using hc
       have h2 := List.all_eq_true.1 h2 j hm
       rw [hoj] at h2
       obtain ⟨e, he, hb⟩ := Array.any_eq_true'.1 h2
       rw [Bool.and_eq_true, beq_iff_eq] at hb
       exact absurd hb.2 (hnot e he hb.1)
   have h2 := wpOp_putIf hoj (hfree j oj hoj hji hjun hnot) (fun cs b => hsel i oi cs b hi) (fun cs b => hsel j oj cs b hoj) hQ hy h1
   have hfree' : ∀ k ok, ops[k]? = some ok → k ≠ i → (listed.setIfInBounds j true).getD k true = false →
     (∀ e ∈ ok.after, Region.binds md e = true → e.on ≠ i) → oi.apart ops ok = true := fun k ok hk hki hun hno => by
    refine hfree k ok hk hki ?_ hno
    by_cases hjk : j = k
    ·subst hjk; exact hjun
    ·rw [getD_set_ne true hjk] at hun; exact hun
   refine wpOp_mono (fun a' w' h3 => ?_) h2
   have hS' : pastB ex (listed.setIfInBounds j true) = false → S w' := fun hp => h3.2.1 (by rw [Array.setIfInBounds_comm _ _ (Ne.symm hji), qlt hiex]; exact hp)
   refine ⟨hS', ih (listed.setIfInBounds j true) a' w' hx' hfree' (ready_mono hr (Ne.symm hji)) h3.1 hS' ?_⟩
   rw [Array.setIfInBounds_comm _ _ hji]
   exact h3.2.2
section
variable {ex : List Nat}
theorem qlu {id : Nat} (hm : P.follows .mixedOrders = true) (S : World → Prop) (ex : List Nat) (h : qa0 P .any ops Q S ex ops.size (Array.replicate ops.size false) a w.drew) : (Code.region id ops true).wp P Q a w :=
 wp_region_any hm (qdi _ _ _ _ h)
theorem qag {id : Nat} {W : World} {fs : List Fact} (HM : Mem W w fs) (fs' : List Fact) (is ex : List Nat) (h : Mem W w.drew fs → Mem W w.drew fs' → qa0 P .any ops Q (fun wS => Mem W wS fs') ex ops.size (Array.replicate ops.size false) a w.drew)
  (hm : P.follows .mixedOrders = true := by kernel_rfl) (hn : is.Nodup := by decide) (he : picks fs is = fs' := by rfl) : (Code.region id ops true).wp P Q a w :=
 qlu hm _ ex (h HM.drew (HM.drew.picks is hn he))
def qsp (md : Region.Mode) (ops : Array Oper) (ex : List Nat) (listed : Array Bool) (i : Nat) : Bool :=
 Region.noSelect ops && (Region.free md ops listed i && ((Region.ready md ops listed).contains i && (!ex.contains i && (exOk md ops ex i && !pastB ex listed))))
def qlv (md : Region.Mode) (ops : Array Oper) (ex : List Nat) (listed : Array Bool) (i : Nat) : Bool :=
 Region.noSelect ops && (Region.free md ops listed i && ((Region.ready md ops listed).contains i && !ex.contains i))
theorem qzl (HF : Fr a n D σ) (hS : S w) (ho : ops[i]? = some o) (hw : wantB ops σ o = some true) (hd : o.dst = some d) (hdn : d < n) (hok : qsp md ops ex listed i = true) (hQ : ∀ c (a : Act) w, Q (.panic c) (a.put o.dst v) w → Q (.panic c) a w) (hy : Yl P S σ o v)
  (k : ∀ a', Fr a' n D ((d, v) :: σ) → qa0 P md ops Q S ex fuel (listed.setIfInBounds i true) a' w) : qa0 P md ops Q S ex (fuel + 1) listed a w := by
 simp only [qsp, Bool.and_eq_true, Bool.not_eq_true'] at hok
 obtain ⟨h1, h2, h3, h4, h5, h6⟩ := hok
 exact qf9 (T := S) ho (Region.noSelect_spec h1) hQ h4 fuel listed a w (.inr ⟨rfl, h5, h6⟩) (Region.free_spec ho h2) (by simpa using h3) (.inl ⟨qc5 HF hw, fun w hw => hy a n D HF w hw⟩) (fun _ => hS) (by rw [hd]; exact k _ (HF.put hdn _))
theorem zh (HF : Fr a n D σ) (hS : pastB ex listed = false → S w) (ho : ops[i]? = some o) (hw : wantB ops σ o = some true) (hd : o.dst = some d) (hdn : d < n) (hok : qlv md ops ex listed i = true) (hQ : ∀ c (a : Act) w, Q (.panic c) (a.put o.dst v) w → Q (.panic c) a w) (hy : ∀ S', Yl P S' σ o v)
  (k : ∀ a', Fr a' n D ((d, v) :: σ) → qa0 P md ops Q S ex fuel (listed.setIfInBounds i true) a' w) : qa0 P md ops Q S ex (fuel + 1) listed a w := by
 simp only [qlv, Bool.and_eq_true, Bool.not_eq_true'] at hok
 obtain ⟨h1, h2, h3, h4⟩ := hok
 exact qf9 (T := fun _ => True) ho (Region.noSelect_spec h1) hQ h4 fuel listed a w (.inl fun _ => trivial) (Region.free_spec ho h2) (by simpa using h3) (.inl ⟨qc5 HF hw, fun w _ => hy (fun _ => True) a n D HF w trivial⟩) hS (by rw [hd]; exact k _ (HF.put hdn _))
theorem qvn (HF : Fr a n D σ) (hS : pastB ex listed = false → S w) (ho : ops[i]? = some o) (hw : wantB ops σ o = some false) (hd : o.dst = some d) (hdn : d < n) (hok : qlv md ops ex listed i = true) (hQ : ∀ c (a : Act) w, Q (.panic c) (a.put o.dst undef) w → Q (.panic c) a w)
  (k : ∀ a', Fr a' n D ((d, undef) :: σ) → qa0 P md ops Q S ex fuel (listed.setIfInBounds i true) a' w) : qa0 P md ops Q S ex (fuel + 1) listed a w := by
 simp only [qlv, Bool.and_eq_true, Bool.not_eq_true'] at hok
 obtain ⟨h1, h2, h3, h4⟩ := hok
 exact qf9 (T := fun _ => True) ho (Region.noSelect_spec h1) hQ h4 fuel listed a w (.inl fun _ => trivial) (Region.free_spec ho h2) (by simpa using h3) (.inr ⟨qc5 HF hw, rfl⟩) hS (by rw [hd]; exact k _ (HF.put hdn _))
def qdj (P : Program) (md : Region.Mode) (ops : Array Oper) (n : Nat) (ex : List Nat) : List Nat → Array Bool → List (Nat × Value) → Option (Array Bool × List (Nat × Value))
 | [], l, σ => some (l, σ)
 | i :: is, l, σ => if qlv md ops ex l i then match qdg P ops n i σ with
   | some σ' => qdj P md ops n ex is (l.setIfInBounds i true) σ'
   | none => none
  else none
theorem qi9 {listed' : Array Bool} (hQ : ∀ c (a : Act) d v w, Q (.panic c) (a.put d v) w → Q (.panic c) a w) :
  ∀ (is : List Nat) {a : Act} {σ : List (Nat × Value)} {listed : Array Bool}, Fr a n D σ → (pastB ex listed = false → S w) → qdj P md ops n ex is listed σ = some (listed', σ') → (∀ a', Fr a' n D σ' → qa0 P md ops Q S ex fuel listed' a' w) → qa0 P md ops Q S ex (fuel + is.length) listed a w
 | [], a, σ, listed, HF, _, h, k => by
  injection h with h
  injection h with h1 h2
  subst h1; subst h2
  exact k a HF
 | i :: is, a, σ, listed, HF, hS, h, k => by
  unfold qdj at h
  split at h
  ·rename_i hc
   split at h
   ·rename_i σ1 h1
    have rest := fun a' HF' => qi9 hQ is (a := a') (σ := σ1) HF' (fun hp => hS (qf8 hp)) h k
    unfold qdg at h1
    split at h1
    ·cases h1
    ·rename_i o ho
     split at h1
     ·rename_i d hw hd
      split at h1
      ·rename_i hdn
       split at h1
       ·rename_i v hv
        injection h1 with h1
        subst h1
        exact zh HF hS ho hw hd hdn hc (fun c a w => hQ c a _ _ w) (fun _ => Yl.pure hv) rest
       ·cases h1
      ·cases h1
     ·rename_i d hw hd
      split at h1
      ·rename_i hdn
       injection h1 with h1
       subst h1
       exact qvn HF hS ho hw hd hdn hc (fun c a w => hQ c a _ _ w) rest
      ·cases h1
     ·cases h1
   ·cases h
  ·cases h
theorem qgq : ∀ (is : List Nat) {l l' : Array Bool} {σ s : List (Nat × Value)}, qdj P md ops n ex is l σ = some (l', s) → ∃ full, s = full ++ σ
 | [], _, _, σ, s, h => by injection h with h; injection h with _ h; exact ⟨[], h.symm⟩
 | i :: is, l, l', σ, s, h => by
  unfold qdj at h
  split at h
  ·split at h
   ·rename_i s1 h1
    obtain ⟨p, rfl⟩ := qgp h1
    obtain ⟨full, hf⟩ := qgq is h
    exact ⟨full ++ [p], by rw [hf]; simp⟩
   ·cases h
  ·cases h
theorem ap (HF : Fr a n D σ) (hS : pastB ex listed = false → S w) (is : List Nat) (listed' : Array Bool) (new : List (Nat × Value)) (k : ∀ a', Fr a' n D (new ++ σ) → qa0 P md ops Q S ex fuel listed' a' w)
  (hQ : ∀ c (a : Act) d v w, Q (.panic c) (a.put d v) w → Q (.panic c) a w := by intro _ _ d _ _ h; cases d <;> exact h) (h : (qdj P md ops n ex is listed σ).map (fun r => (r.1, thin r.2 σ new, new.map fun p => r.2.lookup p.1)) = some (listed', true, new.map fun p => some p.2) := by kernel_rfl) : qa0 P md ops Q S ex (fuel + is.length) listed a w := by
 cases hs : qdj P md ops n ex is listed σ with
 | none => rw [hs] at h; cases h
 | some r =>
  obtain ⟨l2, s⟩ := r
  rw [hs] at h
  injection h with h
  injection h with h0 h1
  injection h1 with h1 h2
  simp only at h0
  subst h0
  obtain ⟨full, hf⟩ := qgq is hs
  exact qi9 hQ is HF hS hs fun a' HF' => k a' (HF'.thin hf h1 h2)
theorem ay (HF : Fr a n D σ) (hS : S w) (i : Nat) (ho : ops[i]? = some o) (hw : wantB ops σ o = some true) (hd : o.dst = some d) (hy : Yl P S σ o v) (k : ∀ a', Fr a' n D ((d, v) :: σ) → qa0 P md ops Q S ex fuel (listed.setIfInBounds i true) a' w)
  (hdn : d < n := by decide) (hok : qsp md ops ex listed i = true := by kernel_rfl) (hQ : ∀ c (a : Act) w, Q (.panic c) (a.put o.dst v) w → Q (.panic c) a w := by intro _ _ _ h; exact h) : qa0 P md ops Q S ex (fuel + 1) listed a w := qzl HF hS ho hw hd hdn hok hQ hy k
theorem qn (hr : Region.ready md ops listed = []) (h : Q .normal a w) : qa0 P md ops Q S ex fuel listed a w := by
 cases fuel with
 | zero => exact ⟨hr, h⟩
 | succ f => exact ⟨fun _ => h, by rw [hr]; simp⟩
theorem all_nil {X : Nat → Prop} : ∀ i ∈ ([] : List Nat), X i := fun _ h => by cases h
theorem all_cons {X : Nat → Prop} {r : List Nat} (h : X i) (t : ∀ i ∈ r, X i) : ∀ j ∈ i :: r, X j := fun j hj => by
 rcases List.mem_cons.1 hj with rfl | hj
 ·exact h
 ·exact t j hj
theorem qj (rs : List Nat) (hr : Region.ready md ops listed = rs) (hne : rs.isEmpty = false) (h : ∀ i ∈ rs, wpOp P ops Q i (fun a' w' => (pastB ex (listed.setIfInBounds i true) = false → S w') ∧ qa0 P md ops Q S ex fuel (listed.setIfInBounds i true) a' w') a w) : qa0 P md ops Q S ex (fuel + 1) listed a w :=
 ⟨fun e => (by rw [hr] at e; subst e; cases hne), hr ▸ h⟩
theorem pastS {p : Prop} {l : Array Bool} (h : pastB ex l = true) : pastB ex l = false → p := fun e => by rw [h] at e; cases e
theorem keepS {c p X : Prop} (h : p) (k : p → X) : (c → p) ∧ X := ⟨fun _ => h, k h⟩
theorem noS {p X : Prop} {l : Array Bool} (h : pastB ex l = true) (k : X) : (pastB ex l = false → p) ∧ X := ⟨fun e => (by rw [h] at e; cases e), k⟩
theorem qo (HF : Fr a n D σ) (ho : ops[i]? = some o) (hw : wantB ops σ o = some true) (h : o.wp P a w K Q) : wpOp P ops Q i K a w := by
 unfold wpOp
 rw [ho]
 simp only [qc5 HF hw, if_true]
 exact .inl h
end
def isOne (P : Program) (t : TypeId) : Bool := match P.underlying t with
 | some (.struct _) => false
 | some (.array _ _) => false
 | some _ => true
 | none => false
def qo7 (P : Program) (t : TypeId) : Option Nat := match P.underlying t with
 | some (.slice e) => (P.info? e).map (·.size)
 | _ => none
theorem qfd {t : TypeId} (h : isOne P t = true) (w : World) : (isAgg t).run P w = .ok false w := by
 unfold isOne at h
 cases hu : P.underlying t with
 | none => rw [hu] at h; cases h
 | some d => rw [hu] at h; simp only [isAgg, Sem.run_bind, run_underlying hu, Result.andThen_ok]; cases d <;> first | rfl | cases h
theorem Yl.qh {t : TypeId} {x : Operand} {p : Addr} (hop : o.op = .load t x) (hx : look σ x = some (.pointer (some p))) (ht : isOne P t = true) (hc : ∀ w, S w → w.cell? p = some v) : Yl P S σ o v := fun a n D HF w hS => by
 unfold execOp
 simp [hop, HF.eval hx, Instr.loadAt, Instr.sureAddr, loadVar, qfd ht, load, Sem.run, hc w hS]
theorem Yl.zc {t : TypeId} {x : Operand} {b off m : Nat} {cs : Array Value} (hop : o.op = .load t x) (hx : look σ x = some (.pointer (some ⟨b, off, none⟩))) (si : SI P t m) (hm : cs.size = m) (hc : ∀ w, S w → w.rangeAt b off cs.toList) : Yl P S σ o (.agg cs) := fun a n D HF w hS => by
 obtain ⟨ds, hu, hd⟩ := si.desc
 have hl := run_loadVar_mid (P := P) w b off t cs.toList ds (hc w hS) hu hd (by rw [si.size, ← hm]; simp)
 unfold execOp
 simp [hop, HF.eval hx, Instr.loadAt, Instr.sureAddr, hl]
theorem Yl.indexAddr {t : TypeId} {x ix : Operand} {ad : Addr} {m c y sz : Nat} {k : IntKind} (hop : o.op = .indexAddr t x ix) (hx : look σ x = some (.slice (some ad) m c)) (hi : look σ ix = some (.int k (y : Int))) (hy : y < m) (he : qo7 P t = some sz) : Yl P S σ o (.pointer (some (ad.add (y * sz)))) := fun a n D HF w hS => by
 unfold qo7 at he
 split at he
 ·rename_i e hu
  obtain ⟨i, hi', rfl⟩ := Option.map_eq_some_iff.1 he
  unfold execOp
  have h1 : ¬ m ≤ y := by omega
  simp [hop, HF.eval hx, HF.eval hi, Instr.indexAt, asIntOf, run_underlying hu, hy, sizeOf, typeInfo, hi']
 ·cases he
def isSl (P : Program) (t : TypeId) : Bool := match P.underlying t with
 | some (.slice _) => true
 | _ => false
theorem Yl.len {x : Operand} {t : TypeId} {A : Option Addr} {m c : Nat} (hop : o.op = .call { callee := .builtin .len, args := #[x], argTypes := #[t] }) (hx : look σ x = some (.slice A m c)) (ht : isSl P t = true) : Yl P S σ o (.int .i64 (m : Int)) := fun a n D HF w hS => by
 unfold isSl at ht
 split at ht
 ·rename_i e hu
  unfold execOp
  simp [hop, resolve, invoke, builtin, HF.eval hx, Builtin.len_, run_underlying hu, goInt]
 ·cases ht
theorem Yl.min {x y : Operand} {ts : Array TypeId} {k : IntKind} {p q : Int} (hop : o.op = .call { callee := .builtin .min, args := #[x, y], argTypes := ts }) (hx : look σ x = some (.int k p)) (hy : look σ y = some (.int k q)) : Yl P S σ o (.int k (if q < p then q else p)) := fun a n D HF w hS => by
 unfold execOp
 simp [hop, resolve, invoke, builtin, HF.eval hx, HF.eval hy, Builtin.min_, Builtin.min2]
theorem Yl.max {x y : Operand} {ts : Array TypeId} {k : IntKind} {p q : Int} (hop : o.op = .call { callee := .builtin .max, args := #[x, y], argTypes := ts }) (hx : look σ x = some (.int k p)) (hy : look σ y = some (.int k q)) : Yl P S σ o (.int k (if q > p then q else p)) := fun a n D HF w hS => by
 unfold execOp
 simp [hop, resolve, invoke, builtin, HF.eval hx, HF.eval hy, Builtin.max_, Builtin.max2]
theorem Yl.as {u : Value} (h : Yl P S σ o v) (e : v = u) : Yl P S σ o u := e ▸ h
theorem Yl.ix {t : TypeId} {x ix : Operand} (g of y sz : Nat) {m c : Nat} {k : IntKind} (hop : o.op = .indexAddr t x ix) (hx : look σ x = some (.slice (some ⟨g, of, none⟩) m c)) (hi : look σ ix = some (.int k (y : Int))) (hy : y < m := by omega) (he : qo7 P t = some sz := by kernel_rfl) : Yl P S σ o (.pointer (some ⟨g, of + y * sz, none⟩)) :=
 (Yl.indexAddr (ad := ⟨g, of, none⟩) hop hx hi hy he).as (by rw [Addr.add_mid])
theorem Yl.ix0 {t : TypeId} {x ix : Operand} (g y sz : Nat) {m c : Nat} {k : IntKind} (hop : o.op = .indexAddr t x ix) (hx : look σ x = some (.slice (some ⟨g, 0, none⟩) m c)) (hi : look σ ix = some (.int k (y : Int))) (hy : y < m := by omega) (he : qo7 P t = some sz := by kernel_rfl) : Yl P S σ o (.pointer (some ⟨g, y * sz, none⟩)) :=
 (Yl.indexAddr (ad := ⟨g, 0, none⟩) hop hx hi hy he).as (by rw [Addr.add_mid, Nat.zero_add])
end
section
variable {P : Program} {Q : Exit → Act → World → Prop} {a : Act} {W w : World} {n d : Nat} {D : List Deferred} {σ : List (Nat × Value)} {o : Oper} {v : Value} {K : Act → World → Prop} {fs : List Fact}
def qee (P : Program) (e : TypeId) : Option (Array Value) := ((P.info? e).bind (·.zero)).map Value.cells
theorem qxe {b : Value} {e : TypeId} {cs : Array Value} (hr : (execOp a.eval o).run P w = .ok (.value (.pointer (some ⟨w.heap.size, 0, none⟩))) (w.alloc (.cells cs e))) (HF : Fr a n D σ) (HM : Mem W w fs) (hd : o.dst = some d) (hdn : d < n)
  (k : ∀ a' w' g, Fr a' n D ((d, .pointer (some ⟨g, 0, none⟩)) :: σ) → Mem W w' (.blk g cs e :: fs) → K a' w') : o.wp P a w K Q := by
 have _ := b
 unfold Oper.wp
 rw [hr, Oper.upon_value, hd]
 exact k _ _ _ (HF.put hdn _) (HM.alloc cs e)
theorem qt (HF : Fr a n D σ) (HM : Mem W w fs) {e : TypeId} {cs : Array Value} (hop : o.op = .alloc e) (hz : qee P e = some cs) (hd : o.dst = some d) (hdn : d < n)
  (k : ∀ a' w' g, Fr a' n D ((d, .pointer (some ⟨g, 0, none⟩)) :: σ) → Mem W w' (.blk g cs e :: fs) → K a' w') : o.wp P a w K Q := by
 refine qxe (b := undef) ?_ HF HM hd hdn k
 unfold qee at hz
 obtain ⟨z, hz1, rfl⟩ := Option.map_eq_some_iff.1 hz
 obtain ⟨i, hi, hz2⟩ := Option.bind_eq_some_iff.1 hz1
 unfold execOp
 simp [hop, Instr.alloc, zeroValue, typeInfo, hi, hz2, newVar, newRow, newObj]
 rfl
theorem e_box (HF : Fr a n D σ) (HM : Mem W w fs) {e : TypeId} {x : Operand} (hop : o.op = .box e x) (hx : look σ x = some v) {cs : Array Value} (hc : v.cells = cs) (hd : o.dst = some d) (hdn : d < n)
  (k : ∀ a' w' g, Fr a' n D ((d, .pointer (some ⟨g, 0, none⟩)) :: σ) → Mem W w' (.blk g cs e :: fs) → K a' w') : o.wp P a w K Q := by
 subst hc
 refine qxe (b := undef) ?_ HF HM hd hdn k
 unfold execOp
 simp [hop, HF.eval hx, Instr.box, newVar, newRow, newObj]
 rfl
theorem qdk {t : TypeId} {g off : Nat} (hs : (P.info? t).map (·.size) = some 1) (hv : v.oneCell' = true) {u : Value} (hc : w.cell? ⟨g, off, none⟩ = some u) (hf : w.frozen? ⟨g, off, none⟩ = false) :
  (Instr.storeAt t (.pointer (some ⟨g, off, none⟩)) v).run P w = .ok () (w.setCell ⟨g, off, none⟩ v) := by
 have ht : w.there g off 1 := fun j hj => by
  obtain rfl : j = 0 := by omega
  simp [hc, hf]
 have hv1 : v.cells = #[v] := by cases v <;> first | rfl | cases hv
 have := run_storeVar_mid (P := P) w g off t #[v] (by simpa using ht) (by simpa using hs) (by simp [hv])
 have e2 : storeVar t ⟨g, off, none⟩ v = storeVar t ⟨g, off, none⟩ (.agg #[v]) := by
  unfold storeVar
  rw [hv1]
  rfl
 simp only [Instr.storeAt, Instr.sureAddr, Sem.run_bind, Sem.run_pure, Result.andThen_ok, e2, this]
 rfl
theorem zd (HF : Fr a n D σ) (HM : Mem W w fs) {t : TypeId} {x y : Operand} {i g off : Nat} {cs : Array Value} {tb : TypeId} (hop : o.op = .store t x y) (hd : o.dst = none) (hx : look σ x = some (.pointer (some ⟨g, off, none⟩))) (hy : look σ y = some v) (hs : (P.info? t).map (·.size) = some 1) (hv : v.oneCell' = true)
  (hi : fs[i]? = some (.blk g cs tb)) (ho : off < cs.size) (k : ∀ w', Mem W w' (fs.set i (.blk g (cs.setIfInBounds off v) tb)) → K a w') : o.wp P a w K Q := by
 have hb := HM.blk hi
 have hc : w.cell? ⟨g, off, none⟩ = some cs[off] := HM.cell hi (Array.getElem?_eq_getElem ho)
 have hf : w.frozen? ⟨g, off, none⟩ = false := by simp [World.frozen?, hb]
 unfold Oper.wp execOp
 simp only [hop, HF.eval hx, HF.eval hy, Sem.run_bind, qdk hs hv hc hf, Result.andThen_ok, Sem.run_pure, Oper.upon_skip, hd]
 exact k _ (HM.set hi v)
theorem qqn (HF : Fr a n D σ) (HM : Mem W w fs) {t : TypeId} {x y : Operand} {i g m : Nat} {cs ds : Array Value} {tb : TypeId} (hop : o.op = .store t x y) (hd : o.dst = none) (hx : look σ x = some (.pointer (some ⟨g, 0, none⟩))) (hy : look σ y = some (.agg ds)) (si : SI P t m) (hc : cs.size = m) (hm : ds.size = m) (h1 : ∀ u ∈ ds.toList, u.oneCell' = true)
  (hi : fs[i]? = some (.blk g cs tb)) (k : ∀ w', Mem W w' (fs.set i (.blk g ds tb)) → K a w') : o.wp P a w K Q := by
 have hb := HM.blk hi
 have hl := run_storeVar_mid (P := P) w g 0 t ds (by rw [hm]; exact zl hb 0 m (by omega)) (by rw [hm]; exact si.size) (by simpa using all_oneCell_toArray h1)
 unfold Oper.wp execOp
 simp only [hop, HF.eval hx, HF.eval hy, Sem.run_bind, Instr.storeAt, Instr.sureAddr, Sem.run_pure, hl, Result.andThen_ok, Oper.upon_skip, hd]
 exact k _ (HM.setAll hi (by omega))
def callable (P : Program) (f : FuncId) : Bool := match P.funcs[f]? with
 | some fn => fn.name != "runtime.NumGoroutine" && fn.body.isSome
 | none => false
theorem qd1 {f : FuncId} (h : callable P f = true) (args : Array Value) (w : World) : (callFunc f args).run P w = .ok (.enter f args) w := by
 unfold callable at h
 split at h
 ·rename_i fn hf
  rw [Bool.and_eq_true, bne_iff_ne] at h
  have hb : fn.body ≠ none := by intro e; rw [e] at h; simp at h
  simp [callFunc, hf, h.1, hb, program, Sem.run, Sem.run_bind]
 ·cases h
def looks (σ : List (Nat × Value)) : List Operand → Option (List Value)
 | [] => some []
 | x :: r => match look σ x, looks σ r with
  | some v, some vs => some (v :: vs)
  | _, _ => none
theorem qc6 (HF : Fr a n D σ) : ∀ {xs : List Operand} {vs : List Value}, looks σ xs = some vs → xs.map a.eval = vs
 | [], vs, h => by cases h; rfl
 | x :: r, vs, h => by
  unfold looks at h
  split at h
  ·rename_i v us hx hr
   injection h with h
   subst h
   rw [List.map_cons, HF.eval hx, qc6 HF hr]
  ·cases h
theorem qxf (HF : Fr a n D σ) {f : FuncId} {xs : Array Operand} {ts : Array TypeId} {vs : List Value} {R : Ending → World → Prop} (hop : o.op = .call { callee := .value (.func f), args := xs, argTypes := ts }) (hv : looks σ xs.toList = some vs) (hf : callable P f = true) (hd : o.dst = some d) (hdn : d < n)
  (hC : Calls P f vs.toArray w R) (k : ∀ e w', R e w' → ∃ v, e = .returned v ∧ ∀ a', Fr a' n D ((d, v) :: σ) → K a' w') : o.wp P a w K Q := by
 have e1 : xs.map a.eval = vs.toArray := by
  have := qc6 HF hv
  rw [← this, ← Array.toList_map, Array.toArray_toList]
 unfold Oper.wp execOp
 simp only [hop, resolve, Act.eval, Deferred.ofValue, invoke, Sem.run_bind, Sem.run_pure, Result.andThen_ok]
 have e2 : xs.map (fun x => a.eval x) = vs.toArray := e1
 have e3 : #[] ++ Array.map a.eval xs ++ #[] = vs.toArray := by simp [e1]
 show Oper.upon P o a K Q (((callFunc f (#[] ++ Array.map a.eval xs ++ #[])).run P w))
 rw [e3, qd1 hf, Oper.upon_enter]
 refine hC.mono fun e w' he => ?_
 obtain ⟨v, rfl, h2⟩ := k e w' he
 show K (a.put o.dst v) w'
 rw [hd]
 exact h2 _ (HF.put hdn v)
theorem e_cl (HF : Fr a n D σ) (vs : List Value) {f : FuncId} {xs : Array Operand} {ts : Array TypeId} {R : Ending → World → Prop} (hop : o.op = .call { callee := .value (.func f), args := xs, argTypes := ts }) (hd : o.dst = some d) (hC : Calls P f vs.toArray w R)
  (k : ∀ e w', R e w' → ∃ v, e = .returned v ∧ ∀ a', Fr a' n D ((d, v) :: σ) → K a' w') (hv : looks σ xs.toList = some vs := by kernel_rfl) (hf : callable P f = true := by kernel_rfl) (hdn : d < n := by decide) : o.wp P a w K Q := qxf HF hop hv hf hd hdn hC k
theorem e_is (HF : Fr a n D σ) (HM : Mem W w fs) (vs : List Value) (v : Value) {f : FuncId} {xs : Array Operand} {ts : Array TypeId} (hop : o.op = .call { callee := .value (.func f), args := xs, argTypes := ts }) (hd : o.dst = some d)
  (hC : Calls P f vs.toArray w (fun r w' => r = .returned v ∧ Below w.heap.size w w')) (k : ∀ w', Below w.heap.size w w' → Mem W w' fs → ∀ a', Fr a' n D ((d, v) :: σ) → K a' w') (hv : looks σ xs.toList = some vs := by kernel_rfl) (hf : callable P f = true := by kernel_rfl) (hdn : d < n := by decide) : o.wp P a w K Q :=
 qxf HF hop hv hf hd hdn hC fun _ w' ⟨h1, h2⟩ => ⟨v, h1, k w' h2 (HM.call h2)⟩
theorem e_sa (HF : Fr a n D σ) (HM : Mem W w fs) (i : Nat) {t : TypeId} {x y : Operand} {g m : Nat} {cs ds : Array Value} {tb : TypeId} (hop : o.op = .store t x y) (hd : o.dst = none) (hx : look σ x = some (.pointer (some ⟨g, 0, none⟩))) (hy : look σ y = some (.agg ds)) (hi : fs[i]? = some (.blk g cs tb)) (si : SI P t m) (hc : cs.size = m) (hm : ds.size = m) (h1 : ∀ u ∈ ds.toList, u.oneCell' = true)
  (k : ∀ w', Mem W w' (fs.set i (.blk g ds tb)) → K a w') : o.wp P a w K Q := qqn HF HM hop hd hx hy si hc hm h1 hi k
end
section
variable {P : Program} {Q : Exit → Act → World → Prop} {a : Act} {W w : World} {n d : Nat} {D : List Deferred} {σ : List (Nat × Value)} {o : Oper} {v : Value} {K : Act → World → Prop} {fs : List Fact}
theorem qzm {base : Nat} {e : TypeId} {size m : Nat} {xs : List Value} (h : w.ownsRow base e size v m xs) (hm : 0 < m) : ∃ g c, v = .slice (some ⟨g, 0, none⟩) m c ∧ m ≤ c := by
 rcases h.2 with ⟨_, h2⟩ | ⟨g, cap, cur, h1, _, _, h2, _⟩
 ·omega
 ·exact ⟨g, cap, h1, h2⟩
theorem qbh {base : Nat} {e : TypeId} {size m : Nat} {xs : List Value} (h : w.ownsRow base e size v m xs) : ∃ A c, v = .slice A m c ∧ m ≤ c := by
 rcases h.2 with ⟨h1, h2⟩ | ⟨g, cap, cur, h1, _, _, h2, _⟩
 ·subst h2; exact ⟨_, _, h1, Nat.le_refl _⟩
 ·exact ⟨_, cap, h1, h2⟩
theorem qu (HF : Fr a n D σ) (HM : Mem W w fs) {s x : Operand} {t e : TypeId} {z : Value} {size bytes i m0 m c B : Nat} {A : Option Addr} {xs news : List Value} (hop : o.op = .call { callee := .builtin .append, args := #[s, x], argTypes := #[t, t] }) (ei : EI P t e z size bytes)
  (hs : look σ s = some v) (hx : look σ x = some (.slice A m c)) (hi : fs[i]? = some (.row v m0 xs e size)) (hr : Rd w B size A m news) (h1 : ∀ u ∈ news, u.oneCell' = true) (hb : (m0 + m) * bytes ≤ 140737488355328) (h63 : m0 + m ≤ 9223372036854775807)
  (hd : o.dst = some d) (hdn : d < n) (k : ∀ a' w' A' c', Fr a' n D ((d, .slice A' (m0 + m) c') :: σ) → Mem W w' (fs.set i (.row (.slice A' (m0 + m) c') (m0 + m) (xs ++ news) e size)) → m0 + m ≤ c' → K a' w') : o.wp P a w K Q :=
 qg7 hop ei (HM.own hi) (HF.eval hs) hr (HF.eval hx) h1 hb h63 HM.size fun A' c' w' ho hg hbl => by
  rw [hd]
  refine k _ _ _ _ (HF.put hdn _) (HM.append hi ho hg hbl) ?_
  rcases ho.2 with ⟨h2, h3⟩ | ⟨g, cap, cur, h2, _, _, h3, _⟩
  ·omega
  ·injection h2 with _ _ h4; omega
def qef (σ : List (Nat × Value)) : List (Nat × Operand) → Option (List (Nat × Value))
 | [] => some []
 | (i, x) :: r => match look σ x, qef σ r with
  | some v, some vs => some ((i, v) :: vs)
  | _, _ => none
theorem qgr (HF : Fr a n D σ) : ∀ {ps : List (Nat × Operand)} {vs : List (Nat × Value)}, qef σ ps = some vs → ps.map (fun p => (p.1, a.eval p.2)) = vs
 | [], vs, h => by cases h; rfl
 | (i, x) :: r, vs, h => by
  unfold qef at h
  split at h
  ·rename_i v us hx hr
   injection h with h
   subst h
   rw [List.map_cons, HF.eval hx, qgr HF hr]
  ·cases h
theorem qgs (HF : Fr a n D σ) {ps : Array (Nat × Operand)} {vs : List (Nat × Value)} (h : qef σ ps.toList = some vs) : ps.map (fun p => (p.1, a.eval p.2)) = vs.toArray := by
 rw [← qgr HF h, ← Array.toList_map, Array.toArray_toList]
def qja (z : Array Value) (m : Nat) : Array Value := (Array.range m).map (z[· % z.size]!)
theorem ze (HF : Fr a n D σ) (HM : Mem W w fs) {t len e : Nat} {ps : Array (Nat × Operand)} {vs : List (Nat × Value)} {z : Value} {size bytes : Nat} {cs : Array Value} (hop : o.op = .buildSlice t len ps) (ei : EI P t e z size bytes) (hl : decide (0 < len ∧ len * size ≤ 16777216) = true) (hv : qef σ ps.toList = some vs)
  (hf : Instr.fill (fun i => some (i * size, size)) (qja z.cells (len * size)) vs = some cs) (hd : o.dst = some d) (hdn : d < n)
  (k : ∀ a' w' g, Fr a' n D ((d, .slice (some ⟨g, 0, none⟩) len len) :: σ) → Mem W w' (.blk g cs e :: fs) → K a' w') : o.wp P a w K Q := by
 obtain ⟨i, hi, hz, hsz, _⟩ := info_parts ei.hi
 have hpos := ei.hs
 simp only [decide_eq_true_eq] at hl
 have h0 : ¬ len * size = 0 := by
  have := Nat.mul_pos hl.1 hpos
  omega
 have h2 : ¬ len * size > 2 ^ 24 := by omega
 have hrun : (execOp a.eval o).run P w = .ok (.value (.slice (some ⟨w.heap.size, 0, none⟩) len len)) (w.alloc (.cells cs e)) := by
  unfold execOp
  have hpm := qgs HF hv
  unfold qja at hf
  simp only [hop]
  have e1 : (Instr.buildSlice t len (ps.map fun p => (p.1, a.eval p.2))).run P w = .ok (.slice (some ⟨w.heap.size, 0, none⟩) len len) (w.alloc (.cells cs e)) := by
   rw [hpm]
   unfold Instr.buildSlice
   simp only [Sem.run_bind, run_underlying ei.ht, Result.andThen_ok, sizeOf, typeInfo, program, Sem.run, hi, Sem.run_pure, hsz, if_neg h2, if_neg h0, zeroValue, hz, hf, newRow, newObj]
   rfl
  simp only [Sem.run_bind, Sem.run_pure]
  show ((Instr.buildSlice t len (ps.map fun p => (p.1, a.eval p.2))).run P w).andThen _ = _
  rw [e1]
  rfl
 unfold Oper.wp
 rw [hrun, Oper.upon_value, hd]
 exact k _ _ _ (HF.put hdn _) (HM.alloc cs e)
theorem Mem.qqc (h : Mem W w fs) {i g m c : Nat} {e : TypeId} {size : Nat} {xs : List Value} (hi : fs[i]? = some (.row (.slice (some ⟨g, 0, none⟩) m c) m xs e size)) (off : Nat) {ys : List Value} (hy : ∀ j u, ys[j]? = some u → xs[off + j]? = some u) : w.rangeAt g off ys := fun j u hu => by
 have ho := h.own hi
 have := ho.cells (g := g) rfl (off + j) u (hy j u hu)
 rw [Addr.add_mid, Nat.zero_add] at this
 exact this
theorem Mem.qz9 (h : Mem W w fs) {i g m c : Nat} {e : TypeId} {size : Nat} {xs : List Value} (hi : fs[i]? = some (.row (.slice (some ⟨g, 0, none⟩) m c) m xs e size)) : w.rangeAt g 0 xs := h.qqc hi 0 (fun j u hu => by rw [Nat.zero_add]; exact hu)
theorem qkp (HF : Fr a n D σ) (HM : Mem W w fs) {t e : Nat} {z : Value} {size bytes : Nat} (hop : o.op = .buildSlice t 0 #[]) (ei : EI P t e z size bytes) (hd : o.dst = some d) (hdn : d < n)
  (k : ∀ a' w' g, Fr a' n D ((d, .slice (some ⟨g, 0, none⟩) 0 0) :: σ) → Mem W w' (.row (.slice (some ⟨g, 0, none⟩) 0 0) 0 [] e size :: fs) → K a' w') : o.wp P a w K Q := by
 obtain ⟨i, hi, hz, hsz, _⟩ := info_parts ei.hi
 have hrun : (execOp a.eval o).run P w = .ok (.value (.slice (some ⟨w.heap.size, 0, none⟩) 0 0)) (w.alloc (.cells #[] e)) := by
  unfold execOp
  simp only [hop]
  have e1 : (Instr.buildSlice t 0 #[]).run P w = .ok (.slice (some ⟨w.heap.size, 0, none⟩) 0 0) (w.alloc (.cells #[] e)) := by
   unfold Instr.buildSlice
   simp only [Sem.run_bind, run_underlying ei.ht, Result.andThen_ok, sizeOf, typeInfo, program, Sem.run, hi, Sem.run_pure, newRow, newObj]
   simp [Instr.fill, show Array.range 0 = #[] from rfl]
   rfl
  simp only [Sem.run_bind, Sem.run_pure, List.map_toArray, List.map_nil]
  show ((Instr.buildSlice t 0 #[]).run P w).andThen _ = _
  rw [e1]
  rfl
 unfold Oper.wp
 rw [hrun, Oper.upon_value, hd]
 refine k _ _ w.heap.size (HF.put hdn _) ?_
 have := (HM.alloc #[] e).blkRow (i := 0) (size := size) (n := 0) rfl (by simp) (by omega)
 exact this
def qfe : Nat → List Value → List (Nat × Value)
 | _, [] => []
 | i, v :: r => (i, v) :: qfe (i + 1) r
theorem qd2 : ∀ (vs : List Value) (i t : Nat) (v : Value), (qfe i vs).lookup t = some v → i ≤ t ∧ vs[t - i]? = some v
 | [], _, _, _, h => by cases h
 | u :: r, i, t, v, h => by
  rw [qfe, List.lookup_cons] at h
  split at h
  ·rename_i e
   rw [beq_iff_eq] at e
   subst e
   exact ⟨Nat.le_refl _, by simpa using h⟩
  ·obtain ⟨h1, h2⟩ := qd2 r (i + 1) t v h
   refine ⟨by omega, ?_⟩
   rw [show t - i = (t - (i + 1)) + 1 by omega, List.getElem?_cons_succ]
   exact h2
theorem qg {f N : Nat} {fn : Func} {c : Code} {vs : List Value} {R : Ending → World → Prop} (hf : P.funcs[f]? = some fn) (hb : fn.body = some c) (hn : fn.ntmps = N) (hl : decide (vs.length ≤ N) = true) {σ0 : List (Nat × Value)} (h0 : qfe 0 vs = σ0)
  (k : ∀ a, Fr a N [] σ0 → c.wp P (bodyPost P fn R) a w) : Calls P f vs.toArray w R := by
 subst h0
 rw [decide_eq_true_eq] at hl
 refine calls_of_wp hf hb (k _ ⟨by simp [hn]; omega, rfl, fun t v hv => ?_⟩)
 obtain ⟨_, h1⟩ := qd2 vs 0 t v hv
 rw [Nat.sub_zero] at h1
 have hlt := (List.getElem?_eq_some_iff.1 h1).1
 simp only [Array.getD_eq_getD_getElem?, Array.getElem?_append, List.size_toArray, if_pos hlt]
 simp [h1]
def qff (tmps : Array Value) : ResultVar → Sem Value
 | .tmp t => pure (tmps.getD t undef)
 | .cell b t => do loadVar t (← asAddr (tmps.getD b undef))
def qbq (P : Program) (a : Act) (w : World) (r : ResultVar) (v : Value) : Prop := (qff a.tmps r).run P w = .ok v w
theorem qdl (fn : Func) (tmps : Array Value) : results fn tmps = (do
 let vs ← fn.results.mapM (qff tmps)
 pure (if h : vs.size = 1 then vs[0] else .tuple vs)) := by
 unfold results
 have : qff tmps = (fun | .tmp t => pure (tmps.getD t undef) | .cell a t => do loadVar t (← asAddr (tmps.getD a undef))) := by
  funext r; cases r <;> rfl
 rw [this]
 rfl
theorem qbq.tmp {t : Nat} (HF : Fr a n D σ) (h : σ.lookup t = some v) : qbq P a w (.tmp t) v := by
 unfold qbq qff
 simp only [HF.slot t v h]
 rfl
theorem qbq.cellS {b i g m : Nat} {t tb : TypeId} {cs : Array Value} (HF : Fr a n D σ) (HM : Mem W w fs) (h : σ.lookup b = some (.pointer (some ⟨g, 0, none⟩))) (hi : fs[i]? = some (.blk g cs tb)) (si : SI P t m) (hm : cs.size = m) : qbq P a w (.cell b t) (.agg cs) := by
 obtain ⟨ds, hu, hd⟩ := si.desc
 have hl := run_loadVar_mid (P := P) w g 0 t cs.toList ds (qf (HM.blk hi)) hu hd (by rw [si.size, ← hm]; simp)
 unfold qbq qff
 simp only [HF.slot b _ h]
 simp [asAddr, hl]
theorem qbq.cell1 {b i g : Nat} {t tb : TypeId} {cs : Array Value} (HF : Fr a n D σ) (HM : Mem W w fs) (h : σ.lookup b = some (.pointer (some ⟨g, 0, none⟩))) (hi : fs[i]? = some (.blk g cs tb)) (ht : isOne P t = true) (hc : cs[0]? = some v) : qbq P a w (.cell b t) v := by
 unfold qbq qff
 simp only [HF.slot b _ h]
 simp [asAddr, loadVar, qfd ht, load, Sem.run, HM.cell hi hc]
section
variable {fn : Func} {R : Ending → World → Prop}
theorem ret1 {r1 : ResultVar} {v1 : Value} (hr : fn.results = #[r1]) (HF : Fr a n [] σ) (h1 : qbq P a w r1 v1) (hR : R (.returned v1) w) : bodyPost P fn R .ret a w :=
 bodyPost_ret (v := v1) (by
  unfold qbq at h1
  rw [qdl, hr]
  generalize qff a.tmps = f at *
  simp [h1]) HF.defers hR
theorem ret2 {r1 r2 : ResultVar} {v1 v2 : Value} (hr : fn.results = #[r1, r2]) (HF : Fr a n [] σ) (h1 : qbq P a w r1 v1) (h2 : qbq P a w r2 v2) (hR : R (.returned (.tuple #[v1, v2])) w) : bodyPost P fn R .ret a w :=
 bodyPost_ret (v := .tuple #[v1, v2]) (by
  unfold qbq at h1 h2
  rw [qdl, hr]
  generalize qff a.tmps = f at *
  simp [h1, h2]) HF.defers hR
theorem ret3 {r1 r2 r3 : ResultVar} {v1 v2 v3 : Value} (hr : fn.results = #[r1, r2, r3]) (HF : Fr a n [] σ) (h1 : qbq P a w r1 v1) (h2 : qbq P a w r2 v2) (h3 : qbq P a w r3 v3) (hR : R (.returned (.tuple #[v1, v2, v3])) w) : bodyPost P fn R .ret a w :=
 bodyPost_ret (v := .tuple #[v1, v2, v3]) (by
  unfold qbq at h1 h2 h3
  rw [qdl, hr]
  generalize qff a.tmps = f at *
  simp [h1, h2, h3]) HF.defers hR
end
theorem qe {c : Operand} {x y : Code} (HF : Fr a n D σ) (hc : look σ c = some (.bool true)) (h : x.wp P Q a w) : (Code.cond c x y).wp P Q a w := wp_cond_true (HF.eval hc) h
theorem qd {c : Operand} {x y : Code} (HF : Fr a n D σ) (hc : look σ c = some (.bool false)) (h : y.wp P Q a w) : (Code.cond c x y).wp P Q a w := wp_cond_false (HF.eval hc) h
theorem Fr.as {u : Value} {t : Nat} (h : Fr a n D σ) (hl : σ.lookup t = some v) (e : v = u) : Fr a n D ((t, u) :: σ) := by
 subst e
 refine ⟨h.size, h.defers, fun s x hx => ?_⟩
 rw [List.lookup_cons] at hx
 split at hx
 ·rename_i hs
  rw [beq_iff_eq] at hs
  subst hs
  injection hx with hx
  subst hx
  exact h.slot s v hl
 ·exact h.slot s x hx
theorem qax {x y : Code} (R : Act → World → Prop) (h : x.wp P (Exit.then R Q) a w) (k : ∀ a w, R a w → y.wp P Q a w) : (Code.seq x y).wp P Q a w :=
 wp_seq (Code.wp_mono (fun e a w hq => by cases e <;> first | exact k _ _ hq | exact hq) h)
theorem qs {c : Code} (J : Nat → Act → World → Prop) {m : Nat} (h0 : J m a w) (round : ∀ k a w, J k a w → c.wp P (Exit.then (fun a' w' => ∃ k', k' < k ∧ J k' a' w') Q) a w) : (Code.loop c).wp P Q a w := by
 intro b ks cs
 have key : ∀ m a w, J m a w → ∃ e a' w', Q e a' w' ∧ Arrives P (lone (b.at a (.code c :: .inLoop c :: ks)) cs w) b ks cs e a' w' := by
  intro m
  induction m using Nat.strongRecOn with
  | _ m ih =>
   intro a w hJ
   obtain ⟨e, a1, w1, hq, harr⟩ := round m a w hJ b (.inLoop c :: ks) cs
   cases e with
   | normal =>
    obtain ⟨m', hlt, hJ'⟩ := hq
    obtain ⟨e2, a2, w2, hq2, harr2⟩ := ih m' hlt a1 w1 hJ'
    exact ⟨e2, a2, w2, hq2, .of_steps (Steps.trans harr (.one step_inLoop)) harr2⟩
   | exit id => exact ⟨_, a1, w1, hq, .pass (x := .inLoop c) rfl (fun _ _ => .inl (by simp)) harr⟩
   | goto l => exact ⟨_, a1, w1, hq, .pass (x := .inLoop c) rfl (fun _ _ => .inl (by simp)) harr⟩
   | ret => exact ⟨_, a1, w1, hq, .pass (x := .inLoop c) rfl (fun _ _ => .inl (by simp)) harr⟩
   | panic ch => exact ⟨_, a1, w1, hq, .pass (x := .inLoop c) rfl (fun _ _ => .inl (by simp)) harr⟩
   | outgrown => exact ⟨_, a1, w1, hq, .pass (x := .inLoop c) rfl (fun _ _ => .inl (by simp)) harr⟩
 obtain ⟨e, a', w', hq, harr⟩ := key m a w h0
 exact ⟨e, a', w', hq, .of_steps (.one step_loop) harr⟩
end
def putAt (xs : List Value) (off : Nat) (vs : List Value) : List Value := xs.take off ++ vs ++ xs.drop (off + vs.length)
theorem qlw {xs : List Value} {off : Nat} {vs : List Value} (h : off + vs.length ≤ xs.length) : (putAt xs off vs).length = xs.length := by
 unfold putAt
 simp only [List.length_append, List.length_take, List.length_drop]
 omega
theorem qlx {xs : List Value} {off : Nat} {vs : List Value} (h : off + vs.length ≤ xs.length) (j : Nat) : (putAt xs off vs)[j]? = if off ≤ j ∧ j < off + vs.length then vs[j - off]? else xs[j]? := by
 unfold putAt
 have h1 : (xs.take off).length = off := by rw [List.length_take]; omega
 rw [List.append_assoc]
 rcases Nat.lt_or_ge j off with h2 | h2
 ·rw [if_neg (by omega), List.getElem?_append_left (by omega), List.getElem?_take, if_pos h2]
 ·rw [List.getElem?_append_right (by omega), h1]
  rcases Nat.lt_or_ge j (off + vs.length) with h3 | h3
  ·rw [if_pos ⟨h2, h3⟩, List.getElem?_append_left (by omega)]
  ·rw [if_neg (by omega), List.getElem?_append_right (by omega), List.getElem?_drop]
   congr 1
   omega
theorem qga {w : World} {g : Nat} {cur : Array Value} {e : TypeId} (hb : w.heap[g]? = some (.cells cur e (0, 0))) (off : Nat) (vs : List Value) (hl : off + vs.length ≤ cur.size) :
  (w.setCells g off vs).heap[g]? = some (.cells (putAt cur.toList off vs).toArray e (0, 0)) := by
 have h1 : cur = (cur.toList.take off ++ (cur.toList.drop off).take vs.length ++ cur.toList.drop (off + vs.length)).toArray := by
  apply Array.toList_inj.1
  simp only [List.append_assoc]
  rw [← List.drop_drop, List.take_append_drop, List.take_append_drop]
 have h2 := qb9 g e vs w (cur.toList.take off) (cur.toList.drop (off + vs.length)) ((cur.toList.drop off).take vs.length) (by rw [← h1]; exact hb) (by simp only [List.length_take, List.length_drop, Array.length_toList]; omega)
 rw [List.length_take, Array.length_toList, Nat.min_eq_left (by omega)] at h2
 exact h2
section
variable {P : Program} {Q : Exit → Act → World → Prop} {a : Act} {W w : World} {n d : Nat} {D : List Deferred} {σ : List (Nat × Value)} {o : Oper} {v : Value} {K : Act → World → Prop} {fs : List Fact}
theorem Mem.rowSet (h : Mem W w fs) {i g m c : Nat} {e : TypeId} {size : Nat} {xs : List Value} (hi : fs[i]? = some (.row (.slice (some ⟨g, 0, none⟩) m c) m xs e size)) {off : Nat} {vs : List Value} (hl : off + vs.length ≤ xs.length) :
  Mem W (w.setCells g off vs) (fs.set i (.row (.slice (some ⟨g, 0, none⟩) m c) m (putAt xs off vs) e size)) := by
 have ho := h.own hi
 obtain ⟨hlen, h2⟩ := ho
 rcases h2 with ⟨h3, _⟩ | ⟨g', cap, cur, hv, hb, hg, hnc, hcm, hcs, ht⟩
 ·cases h3
 ·injection hv with hv hv2 hv3
  injection hv with hv
  injection hv with hv
  subst hv; subst hv3
  have hcur : m * size ≤ cur.size := by rw [hcs]; exact Nat.mul_le_mul_right _ hnc
  refine h.turn hi (below_setCells h.below hb off vs) (fun k hk hne => qam _ _ _ _ _ (fun e => hne (by rw [e]; rfl))) ?_ (fun g' hg' => .inl hg')
  refine ⟨by rw [qlw hl]; exact hlen, .inr ⟨g, c, _, rfl, hb, qga hg off vs (by omega), hnc, hcm, ?_, ?_⟩⟩
  ·rw [List.size_toArray, qlw (by simpa using (by omega : off + vs.length ≤ cur.size)), Array.length_toList, hcs]
  ·show (putAt cur.toList off vs).take (m * size) = putAt xs off vs
   subst ht
   have hl' : off + vs.length ≤ cur.toList.length ∧ off + vs.length ≤ m * size := by
    rw [List.length_take, Array.length_toList] at hl
    rw [Array.length_toList]
    omega
   apply List.ext_getElem?
   intro j
   rw [qlx hl, List.getElem?_take, List.getElem?_take, qlx hl'.1]
   by_cases h3 : off ≤ j ∧ j < off + vs.length
   ·rw [if_pos h3, if_pos (by omega), if_pos h3]
   ·rw [if_neg h3, if_neg h3]
theorem qiy (h : Mem W w fs) {i g m c : Nat} {e : TypeId} {size : Nat} {xs : List Value} (hi : fs[i]? = some (.row (.slice (some ⟨g, 0, none⟩) m c) m xs e size)) (off k : Nat) (hl : off + k ≤ xs.length) : w.there g off k := by
 have ho := h.own hi
 obtain ⟨hlen, h2⟩ := ho
 rcases h2 with ⟨h3, _⟩ | ⟨g', cap, cur, hv, hb, hg, hnc, hcm, hcs, ht⟩
 ·cases h3
 ·injection hv with hv hv2 hv3
  injection hv with hv
  injection hv with hv
  subst hv; subst hv3
  have hcur : m * size ≤ cur.size := by rw [hcs]; exact Nat.mul_le_mul_right _ hnc
  exact zl hg off k (by omega)
theorem qjb (HF : Fr a n D σ) (HM : Mem W w fs) {t : TypeId} {x y : Operand} {i g off m c : Nat} {xs : List Value} {e : TypeId} {size : Nat} (hop : o.op = .store t x y) (hd : o.dst = none) (hx : look σ x = some (.pointer (some ⟨g, off, none⟩))) (hy : look σ y = some v) (hs : (P.info? t).map (·.size) = some 1) (hv : v.oneCell' = true)
  (hi : fs[i]? = some (.row (.slice (some ⟨g, 0, none⟩) m c) m xs e size)) (ho : off < xs.length) (k : ∀ w', Mem W w' (fs.set i (.row (.slice (some ⟨g, 0, none⟩) m c) m (putAt xs off [v]) e size)) → K a w') : o.wp P a w K Q := by
 have ht := qiy HM hi off 1 (by omega) 0 (by omega)
 rw [Nat.add_zero] at ht
 obtain ⟨u, hu⟩ := Option.isSome_iff_exists.1 ht.1
 unfold Oper.wp execOp
 simp only [hop, HF.eval hx, HF.eval hy, Sem.run_bind, qdk hs hv hu ht.2, Result.andThen_ok, Sem.run_pure, Oper.upon_skip, hd]
 exact k _ (HM.rowSet hi (vs := [v]) ho)
theorem Mem.asRow (h : Mem W w fs) {i m : Nat} {e : TypeId} {size : Nat} {xs ys : List Value} (hi : fs[i]? = some (.row v m xs e size)) (he : xs = ys) : Mem W w (fs.set i (.row v m ys e size)) := by
 subst he
 obtain ⟨hl, hg⟩ := List.getElem?_eq_some_iff.1 hi
 rw [← hg, List.set_getElem_self]
 exact h
end
theorem qjc {α : Type} (f : α → List Value) (sz : Nat) (hf : ∀ x, (f x).length = sz) : ∀ (l : List α) (k : Nat) (x : α), k < l.length → putAt (l.flatMap f) (k * sz) (f x) = (l.set k x).flatMap f
 | [], k, x, h => by simp at h
 | y :: r, 0, x, h => by
  unfold putAt
  rw [Nat.zero_mul, Nat.zero_add, hf, List.flatMap_cons, List.set_cons_zero, List.flatMap_cons, List.take_zero, List.nil_append, List.drop_append_of_le_length (by rw [hf]; exact Nat.le_refl _), List.drop_of_length_le (by rw [hf]; exact Nat.le_refl _), List.nil_append]
 | y :: r, k + 1, x, h => by
  have ih := qjc f sz hf r k x (by simpa using h)
  unfold putAt at ih ⊢
  rw [List.flatMap_cons, List.set_cons_succ, List.flatMap_cons, ← ih, Nat.succ_mul]
  have e1 : (f y ++ r.flatMap f).take (k * sz + sz) = f y ++ (r.flatMap f).take (k * sz) := by
   rw [List.take_append, List.take_of_length_le (by rw [hf]; omega), hf, Nat.add_sub_cancel]
  have e2 : (f y ++ r.flatMap f).drop (k * sz + sz + (f x).length) = (r.flatMap f).drop (k * sz + (f x).length) := by
   rw [List.drop_append, List.drop_of_length_le (by rw [hf]; omega), List.nil_append, hf y]
   congr 1
   omega
  rw [e1, e2]
  simp only [List.append_assoc]
theorem Mem.qe7 {W w : World} {fs : List Fact} (h : Mem W w fs) {α : Type} {f : α → List Value} {sz : Nat} (hf : ∀ x, (f x).length = sz) {i g m c : Nat} {e : TypeId} {l : List α} (hi : fs[i]? = some (.row (.slice (some ⟨g, 0, none⟩) m c) m (l.flatMap f) e sz)) {k off : Nat} {x : α} {v : Value} (hk : l[k]? = some x) (hv : (f x)[off]? = some v) : w.cell? ⟨g, k * sz + off, none⟩ = some v := by
 obtain ⟨hl, he⟩ := List.getElem?_eq_some_iff.1 hk
 have ho : off < sz := by have := (List.getElem?_eq_some_iff.1 hv).1; rwa [hf] at this
 have := h.qqc hi (k * sz + off) (ys := [v]) (fun j u hu => by
  cases j with
  | zero =>
   injection hu with hu
   subst hu
   rw [Nat.add_zero, qhe f sz hf l k off hl ho, he]
   exact hv
  | succ j => cases hu)
 exact this 0 v rfl
section
variable {w : World} {B size n : Nat} {A : Option Addr} {xs : List Value} {g o : Nat}
theorem Rd.qy (h : Rd w B size A n xs) (hn : 0 < n) (hs : 0 < size) : ∃ g o, A = some ⟨g, o, none⟩ ∧ g < B := by
 obtain ⟨ad, rfl, hb, hc⟩ := h.row hn
 have hl := h.len
 have h1 : n * size ≥ 1 * 1 := Nat.mul_le_mul hn hs
 have hsp := qlh (hc 0 _ (List.getElem?_eq_getElem (by omega)))
 have hs' : ad.spot = none := by simpa [Addr.add] using hsp
 obtain ⟨g, o, sp⟩ := ad
 cases hs'
 exact ⟨g, o, rfl, hb⟩
theorem Rd.range (h : Rd w B size (some ⟨g, o, none⟩) n xs) : w.rangeAt g o xs := fun j u hu => by
 have hj := (List.getElem?_eq_some_iff.1 hu).1
 rcases Nat.eq_zero_or_pos n with rfl | hn
 ·have := h.len; omega
 ·obtain ⟨ad, e, hb, hc⟩ := h.row hn
  injection e with e
  subst e
  have := hc j u hu
  rwa [Addr.add_mid] at this
theorem Rd.qa4 (h : Rd w B 1 (some ⟨g, o, none⟩) n xs) {k : Nat} {u : Value} (hu : xs[k]? = some u) : w.cell? ⟨g, o + k * 1, none⟩ = some u := by rw [Nat.mul_one]; exact h.range k u hu
theorem Rd.zt {α : Type} {f : α → List Value} (hf : ∀ x, (f x).length = size) {l : List α} (h : Rd w B size (some ⟨g, o, none⟩) n (l.flatMap f)) {k : Nat} {x : α} (hk : l[k]? = some x) : w.rangeAt g (o + k * size) (f x) := fun j u hu => by
 obtain ⟨hl, he⟩ := List.getElem?_eq_some_iff.1 hk
 have hj : j < size := by have := (List.getElem?_eq_some_iff.1 hu).1; rwa [hf] at this
 have h1 := h.range (k * size + j) u ((qhe f size hf l k j hl hj).trans (by rw [he]; exact hu))
 rw [← Nat.add_assoc] at h1
 exact h1
theorem Rd.partAt {α : Type} {f : α → List Value} (hf : ∀ x, (f x).length = size) {l : List α} (h : Rd w B size (some ⟨g, o, none⟩) n (l.flatMap f)) {k j : Nat} {x : α} {u : Value} (hk : l[k]? = some x) (hu : (f x)[j]? = some u) : w.cell? ⟨g, o + k * size + j, none⟩ = some u := h.zt hf hk j u hu
end
section
variable {W w : World} {fs : List Fact}
theorem Mem.qnm (h : Mem W w fs) {i g m c : Nat} {e : TypeId} {xs : List Value} (hi : fs[i]? = some (.row (.slice (some ⟨g, 0, none⟩) m c) m xs e 1)) {k : Nat} {u : Value} (hu : xs[k]? = some u) : w.cell? ⟨g, k * 1, none⟩ = some u := by
 have h1 := h.qz9 hi k u hu
 rwa [Nat.zero_add, ← Nat.mul_one k] at h1
theorem Mem.reRow (h : Mem W w fs) {i n n' : Nat} {A : Option Addr} {c size : Nat} {e : TypeId} {xs ys : List Value} (hi : fs[i]? = some (.row (.slice A n c) n xs e size)) (hn : n = n') (hx : xs = ys) : Mem W w (fs.set i (.row (.slice A n' c) n' ys e size)) := by
 subst hn; subst hx
 obtain ⟨hl, he⟩ := List.getElem?_eq_some_iff.1 hi
 rw [← he, List.set_getElem_self]
 exact h
end
theorem qai {α : Type} {F : α → Value} {l : List α} {k : Nat} {x : α} (h : l[k]? = some x) : (l.map F)[k]? = some (F x) := by rw [List.getElem?_map, h]; rfl
section
variable {P : Program} {Q : Exit → Act → World → Prop} {a : Act} {W w : World} {n d : Nat} {D : List Deferred} {σ : List (Nat × Value)} {o : Oper} {K : Act → World → Prop} {fs : List Fact}
theorem qx7 (HF : Fr a n D σ) (HM : Mem W w fs) {t e : Nat} {l c : Operand} {z : Value} {size bytes m : Nat} {kl kc : IntKind} (hop : o.op = .makeSlice t l c) (ei : EI P t e z size bytes) (hl : look σ l = some (.int kl 0)) (hc : look σ c = some (.int kc (m : Int))) (hb : bytes * m ≤ 281474976710656) (h63 : m ≤ 9223372036854775807) (hd : o.dst = some d) (hdn : d < n)
  (k : ∀ a' w' g, Fr a' n D ((d, .slice (some ⟨g, 0, none⟩) 0 m) :: σ) → Mem W w' (.row (.slice (some ⟨g, 0, none⟩) 0 m) 0 [] e size :: fs) → K a' w') : o.wp P a w K Q := by
 obtain ⟨i, hi, hz, hsz, hby⟩ := info_parts ei.hi
 obtain ⟨w', hrun, hown, hgr⟩ := run_make_own (P := P) w w.heap.size t e i z size ei.ht hi hz hsz kl kc m (by rw [hby]; exact hb) h63 (Nat.le_refl _)
 have e1 : (execOp a.eval o).run P w = .ok (.value (.slice (some ⟨w.heap.size, 0, none⟩) 0 m)) w' := by
  unfold execOp
  simp only [hop, HF.eval hl, HF.eval hc, Sem.run_bind]
  rw [hrun]
  rfl
 unfold Oper.wp
 rw [e1, Oper.upon_value, hd]
 exact k _ _ _ (HF.put hdn _) (HM.callRow ((Below.refl _ _).grown hgr (Nat.le_refl _) (fun _ h => by cases h)) hown)
theorem qx8 (HF : Fr a n D σ) (HM : Mem W w fs) {t e : Nat} {l c : Operand} {z : Value} {size bytes m : Nat} {kl kc : IntKind} (hop : o.op = .makeSlice t l c) (ei : EI P t e z size bytes) (hl : look σ l = some (.int kl (m : Int))) (hc : look σ c = some (.int kc (m : Int))) (hb : bytes * m ≤ 281474976710656) (h63 : m ≤ 9223372036854775807) (hd : o.dst = some d) (hdn : d < n)
  (k : ∀ a' w' g, Fr a' n D ((d, .slice (some ⟨g, 0, none⟩) m m) :: σ) → Mem W w' (.row (.slice (some ⟨g, 0, none⟩) m m) m (madeCells z.cells (m * size)).toList e size :: fs) → K a' w') : o.wp P a w K Q := by
 obtain ⟨i, hi, hz, hsz, hby⟩ := info_parts ei.hi
 obtain ⟨w', hrun, hown, hgr⟩ := run_make_full (P := P) w w.heap.size t e i z size ei.ht hi hz hsz kl kc m (by rw [hby]; exact hb) h63 (Nat.le_refl _)
 have e1 : (execOp a.eval o).run P w = .ok (.value (.slice (some ⟨w.heap.size, 0, none⟩) m m)) w' := by
  unfold execOp
  simp only [hop, HF.eval hl, HF.eval hc, Sem.run_bind]
  rw [hrun]
  rfl
 unfold Oper.wp
 rw [e1, Oper.upon_value, hd]
 exact k _ _ _ (HF.put hdn _) (HM.callRow ((Below.refl _ _).grown hgr (Nat.le_refl _) (fun _ h => by cases h)) hown)
end
theorem Rd.pre {w : World} {B n m : Nat} {A : Option Addr} {l r : List Nat} (h : Rd w B 1 A m ((l ++ r).map B8)) (hl : l.length = n) (hm : n ≤ m) : Rd w B 1 A n (l.map B8) := by
 have h1 := h.upto hm
 rwa [Nat.mul_one, List.map_append, List.take_append_of_le_length (by simp [hl]), List.take_of_length_le (by simp [hl])] at h1
theorem Mem.sub {W w : World} {fs : List Fact} (h : Mem W w fs) {i g : Nat} {cs : Array Value} {t : TypeId} (hi : fs[i]? = some (.blk g cs t)) (off : Nat) {ds : Array Value} (he : (cs.toList.drop off).take ds.size = ds.toList) : w.rangeAt g off ds.toList := fun j u hu => by
 have hr : w.rangeAt g 0 cs.toList := qf (h.blk hi)
 have hc : cs.toList[off + j]? = some u := by
  rw [← he, List.getElem?_take] at hu
  split at hu
  ·rwa [List.getElem?_drop] at hu
  ·cases hu
 have := hr (off + j) u hc
 rwa [Nat.zero_add] at this
theorem qly {α : Type} (F : α → Value) (l : List α) (k : Nat) (x : α) (hk : k < l.length) : putAt (l.map F) (k * 1) [F x] = (l.set k x).map F := by
 have h1 : ∀ l : List α, l.map F = l.flatMap fun x => [F x] := fun l => by induction l with
  | nil => rfl
  | cons a r ih => rw [List.map_cons, List.flatMap_cons, ih]; rfl
 rw [h1, h1, ← qjc (fun x => [F x]) 1 (fun _ => rfl) l k x hk]
section
variable {P : Program} {S : World → Prop} {σ : List (Nat × Value)} {o : Oper}
end
theorem Rd.toB8 {w : World} {B n k : Nat} {A : Option Addr} {l : List Nat} (h : Rd w B 1 A n (l.map B8)) (hk : k ≤ n) : Rd w B 1 A k ((l.take k).map B8) := by
 have h1 := h.upto hk
 rwa [Nat.mul_one, ← List.map_take] at h1
def I64i (x : Int) : Value := .int .i64 x
theorem Mem.picksT {W w : World} {fs fs' : List Fact} (h : Mem W w fs) (n : Nat) (is : List Nat) (hn : is.Nodup) (hlt : (is.all (· < n)) = true) (he : Go.Proofs.YtfeheccoijnbaaaGreatDoor.picks fs is ++ fs.drop n = fs') : Mem W w fs' := by
 subst he
 refine ⟨h.below, fun f hf => ?_, List.pairwise_append.2 ⟨qbz h.apart hn, ?_, ?_⟩⟩
 ·rcases List.mem_append.1 hf with hf | hf
  ·obtain ⟨j, _, hj⟩ := List.mem_filterMap.1 hf
   exact h.holds f (List.mem_of_getElem? hj)
  ·exact h.holds f (List.mem_of_mem_drop hf)
 ·exact h.apart.sublist (List.drop_sublist _ _)
 ·intro f hf g hg
  obtain ⟨j, hj, hjf⟩ := List.mem_filterMap.1 hf
  have hjn : j < n := by simpa using List.all_eq_true.1 hlt j hj
  obtain ⟨i, hi, hig⟩ := List.getElem_of_mem hg
  rw [List.getElem_drop] at hig
  rw [List.length_drop] at hi
  obtain ⟨hjl, hje⟩ := List.getElem?_eq_some_iff.1 hjf
  have := List.pairwise_iff_getElem.1 h.apart j (n + i) hjl (by omega) (by omega)
  rwa [hje, hig] at this
end Go.Proofs.YtfeheccoijnbaaaGreatDoor
namespace Go.Proofs.YtfeheccoijnbaaaGreatDoor
open Go.RowKit Go.MapKept
section
variable {P : Program} {Q : Exit → Act → World → Prop} {a : Act} {W w : World} {n d : Nat} {D : List Deferred} {σ : List (Nat × Value)} {o : Oper} {K : Act → World → Prop} {fs : List Fact} {S : World → Prop}
theorem Mem.objAt (h : Mem W w fs) {i g : Nat} {ob : Obj} (hi : fs[i]? = some (.obj g ob)) : w.heap[g]? = some ob := (h.holds _ (List.mem_of_getElem? hi)).2
theorem Mem.setObj (h : Mem W w fs) {i g : Nat} {ob : Obj} (hi : fs[i]? = some (.obj g ob)) (ob' : Obj) : Mem W { w with heap := w.heap.setIfInBounds g ob' } (fs.set i (.obj g ob')) := by
 have hb := h.holds _ (List.mem_of_getElem? hi)
 have hlt := qae hb.2
 have hother : ∀ k, k ≠ g → (w.heap.setIfInBounds g ob')[k]? = w.heap[k]? := fun k hk => Array.getElem?_setIfInBounds_ne (Ne.symm hk)
 refine h.turn hi ⟨h.below.os, h.below.tape, h.below.output, by simpa using h.below.size, fun k hk => ?_⟩ (fun k _ hne => hother k (fun e => hne (by rw [e]; rfl))) ⟨hb.1, ?_⟩ (fun g' hg' => .inl hg')
 ·have := hb.1
  exact (hother k (by omega)).trans (h.below.block k hk)
 ·show (w.heap.setIfInBounds g ob')[g]? = some ob'
  rw [Array.getElem?_setIfInBounds_self]
  simp [hlt]
theorem qsq (HF : Fr a n D σ) (HM : Mem W w fs) {t : TypeId} (hop : o.op = .makeMap t none) (hd : o.dst = some d) (hdn : d < n)
  (k : ∀ a' w' g, Fr a' n D ((d, .map (some g)) :: σ) → Mem W w' (.obj g (.map #[] 0) :: fs) → K a' w') : o.wp P a w K Q := by
 have e1 : (execOp a.eval o).run P w = .ok (.value (.map (some w.heap.size))) (w.alloc (.map #[] 0)) := by
  unfold execOp
  simp only [hop, Sem.run_bind]
  rfl
 unfold Oper.wp
 rw [e1, Oper.upon_value, hd]
 exact k _ _ _ (HF.put hdn _) (HM.allocObj _)
theorem qo8 (HF : Fr a n D σ) (HM : Mem W w fs) {t kt et : TypeId} {kd : TypeDesc} {m x y : Operand} {i g clock : Nat} {es : Array MapEntry} {key val : Value} (hop : o.op = .mapUpdate t m x y ∨ o.op = .insert t m x y) (hd : o.dst = none) (ht : P.underlying t = some (.map kt et)) (hk : P.underlying kt = some kd)
  (hm : look σ m = some (.map (some g))) (hx : look σ x = some key) (hy : look σ y = some val) (hi : fs[i]? = some (.obj g (.map es clock))) (hkey : IsKey kd key) (hf : Instr.findNow kd key es.toList 0 = some none)
  (k : ∀ w', Mem W w' (fs.set i (.obj g (.map (es.push { key, val, born := clock }) (clock + 1)))) → K a w') : o.wp P a w K Q := by
 have hb := HM.objAt hi
 have e1 : (Instr.mapUpdate t (.map (some g)) key val).run P w = .ok () { w with heap := w.heap.setIfInBounds g (.map (es.push { key, val, born := clock }) (clock + 1)) } := by
  unfold Instr.mapUpdate
  simp only [Sem.run_bind, run_underlying ht, Result.andThen_ok, MapKept.run_getObj_map hb, run_checkKey hk hkey, run_findKey hk hf, MapKept.run_setObj_map _ hb]
 unfold Oper.wp execOp
 rcases hop with hop | hop <;> simp only [hop, HF.eval hm, HF.eval hx, HF.eval hy, Sem.run_bind, e1, Result.andThen_ok, Sem.run_pure, Oper.upon_skip, hd]
 ·exact k _ (HM.setObj hi _)
 ·exact k _ (HM.setObj hi _)
theorem Yl.qnn {t kt et : TypeId} {kd : TypeDesc} {m x : Operand} {g clock j : Nat} {es : Array MapEntry} {key v : Value} (hop : o.op = .lookup t m x false) (ht : P.underlying t = some (.map kt et)) (hk : P.underlying kt = some kd) (hm : look σ m = some (.map (some g))) (hx : look σ x = some key) (hb : ∀ w, S w → w.heap[g]? = some (.map es clock)) (hkey : IsKey kd key) (hf : Instr.findNow kd key es.toList 0 = some (some (j, v))) :
  Yl P S σ o v := fun a n D HF w hS => by
 have e1 : (Instr.lookup t (.map (some g)) key false).run P w = .ok v w := by
  unfold Instr.lookup
  simp only [Sem.run_bind, run_underlying ht, Result.andThen_ok, MapKept.run_getObj_map (hb w hS), Sem.run_pure, run_checkKey hk hkey, run_findKey hk hf]
  rfl
 unfold execOp
 simp only [hop, HF.eval hm, HF.eval hx, Sem.run_bind, e1, Result.andThen_ok, Sem.run_pure]
theorem Yl.qrq {t kt et : TypeId} {kd : TypeDesc} {m x : Operand} {g clock : Nat} {es : Array MapEntry} {key z : Value} (hop : o.op = .lookup t m x false) (ht : P.underlying t = some (.map kt et)) (hk : P.underlying kt = some kd) (hm : look σ m = some (.map (some g))) (hx : look σ x = some key) (hb : ∀ w, S w → w.heap[g]? = some (.map es clock)) (hkey : IsKey kd key) (hf : Instr.findNow kd key es.toList 0 = some none) (hz : (P.info? et).bind (·.zero) = some z) :
  Yl P S σ o z := fun a n D HF w hS => by
 obtain ⟨inf, hi, hiz⟩ := Option.bind_eq_some_iff.1 hz
 have e1 : (Instr.lookup t (.map (some g)) key false).run P w = .ok z w := by
  unfold Instr.lookup
  simp only [Sem.run_bind, run_underlying ht, Result.andThen_ok, MapKept.run_getObj_map (hb w hS), Sem.run_pure, run_checkKey hk hkey, run_findKey hk hf, zeroValue, typeInfo, program, Sem.run, hi, hiz]
  rfl
 unfold execOp
 simp only [hop, HF.eval hm, HF.eval hx, Sem.run_bind, e1, Result.andThen_ok, Sem.run_pure]
theorem Yl.makeFunc {fn : Fn} {xs ys : Array Operand} {fst caps : List Value} (hop : o.op = .makeFunc fn xs ys) (hx : looks σ xs.toList = some fst) (hy : looks σ ys.toList = some caps) : Yl P S σ o (.func fn fst.toArray caps.toArray) := fun a n D HF w hS => by
 have e1 : xs.map a.eval = fst.toArray := by
  have := qc6 HF hx
  rw [← this, ← Array.toList_map, Array.toArray_toList]
 have e2 : ys.map a.eval = caps.toArray := by
  have := qc6 HF hy
  rw [← this, ← Array.toList_map, Array.toArray_toList]
 unfold execOp
 simp only [hop, Instr.makeFunc, Sem.run_bind, Sem.run_pure, Result.andThen_ok]
 show Result.ok (Next.value (.func fn (Array.map a.eval xs) (Array.map a.eval ys))) w = _
 rw [e1, e2]
theorem qcz (HF : Fr a n D σ) {fo : Operand} {f : FuncId} {xs : Array Operand} {ts : Array TypeId} {vs fst caps : List Value} {R : Ending → World → Prop} (hop : o.op = .call { callee := .value fo, args := xs, argTypes := ts }) (hfo : look σ fo = some (.func (.func f) fst.toArray caps.toArray)) (hv : looks σ xs.toList = some vs) (hf : callable P f = true) (hd : o.dst = some d) (hdn : d < n)
  (hC : Calls P f (fst ++ vs ++ caps).toArray w R) (k : ∀ e w', R e w' → ∃ v, e = .returned v ∧ ∀ a', Fr a' n D ((d, v) :: σ) → K a' w') : o.wp P a w K Q := by
 have e1 : xs.map a.eval = vs.toArray := by
  have := qc6 HF hv
  rw [← this, ← Array.toList_map, Array.toArray_toList]
 unfold Oper.wp execOp
 simp only [hop, resolve, HF.eval hfo, Deferred.ofValue, invoke, Sem.run_bind, Sem.run_pure, Result.andThen_ok]
 have e3 : fst.toArray ++ Array.map a.eval xs ++ caps.toArray = (fst ++ vs ++ caps).toArray := by simp [e1]
 show Oper.upon P o a K Q (((callFunc f (fst.toArray ++ Array.map a.eval xs ++ caps.toArray)).run P w))
 rw [e3, qd1 hf, Oper.upon_enter]
 refine hC.mono fun e w' he => ?_
 obtain ⟨v, rfl, h2⟩ := k e w' he
 show K (a.put o.dst v) w'
 rw [hd]
 exact h2 _ (HF.put hdn v)
end
end Go.Proofs.YtfeheccoijnbaaaGreatDoor
namespace Go.Proofs.YtfeheccoijnbaaaGreatDoor
open Go.RowKit
def mostN : Go.IntKind → Nat
 | .i8 => 127 | .i16 => 32767 | .i32 => 2147483647 | .i64 => 9223372036854775807
 | .u8 => 255 | .u16 => 65535 | .u32 => 4294967295 | .u64 => 18446744073709551615
theorem qcg (k : Go.IntKind) {m : Nat} (h : m ≤ mostN k) : Go.IntKind.wrap k (m : Int) = (m : Int) := by
 cases k <;> simp only [mostN] at h
 ·exact IntWalk.i8_in _ (by omega)
 ·exact IntWalk.i16_in _ (by omega)
 ·exact IntWalk.i32_in _ (by omega)
 ·exact IntWalk.i64_in _ (by omega)
 ·exact IntWalk.u8_in _ (by omega)
 ·exact IntWalk.u16_in _ (by omega)
 ·exact IntWalk.u32_in _ (by omega)
 ·exact IntWalk.u64_in _ (by omega)
theorem qi {x : Int} {m : Nat} (h : x = (m : Int)) (hb : m ≤ 9223372036854775807) : Value.int .i64 (Go.IntKind.i64.wrap x) = .int .i64 (m : Int) := by subst h; rw [qcg .i64 hb]
theorem qaj {x : Int} {m : Nat} (h : x = (m : Int)) (hb : m ≤ 18446744073709551615) : Value.int .u64 (Go.IntKind.u64.wrap x) = .int .u64 (m : Int) := by subst h; rw [qcg .u64 hb]
theorem qcq {x : Int} {m : Nat} (h : x = (m : Int)) (hb : m ≤ 4294967295) : Value.int .u32 (Go.IntKind.u32.wrap x) = .int .u32 (m : Int) := by subst h; rw [qcg .u32 hb]
theorem qzn {x : Int} {m : Nat} (h : x = (m : Int)) (hb : m ≤ 255) : Value.int .u8 (Go.IntKind.u8.wrap x) = .int .u8 (m : Int) := by subst h; rw [qcg .u8 hb]
theorem qbi (m : Nat) : Value.int .u8 (Go.IntKind.u8.wrap (m : Int)) = .int .u8 ((m % 256 : Nat) : Int) := by
 rw [Go.IntKind.wrap_u8]; simp
theorem qap (k : Go.IntKind) (m n : Nat) : Value.int k (Int.tmod (m : Int) (n : Int)) = .int k ((m % n : Nat) : Int) := by rw [Int.tmod_eq_emod_of_nonneg (by omega)]; rfl
theorem qbj (k : Go.IntKind) {m : Nat} (n : Nat) (h : m ≤ mostN k) : Value.int k (Go.IntKind.wrap k (Int.tdiv (m : Int) (n : Int))) = .int k ((m / n : Nat) : Int) := by
 rw [Int.tdiv_eq_ediv_of_nonneg (by omega), show ((m : Int) / (n : Int)) = ((m / n : Nat) : Int) from rfl, qcg k (Nat.le_trans (Nat.div_le_self _ _) h)]
theorem qdm (k : Go.IntKind) (m : Nat) {j : Nat} {p : Int} {q : Nat} (hp : p = (j : Int)) (hq : 2 ^ (min p.toNat k.bits) = q) : Value.int k (Int.fdiv (m : Int) (2 ^ (min p.toNat k.bits))) = .int k ((m / q : Nat) : Int) := by
 subst hp; subst hq
 congr 1
 rw [Int.fdiv_eq_ediv_of_nonneg _ (by exact_mod_cast Nat.zero_le _)]
 norm_cast
theorem qc7 (w : Nat) {m : Nat} (h : m < 2 ^ w) : (BitVec.ofInt w (m : Int)).toNat = m := by
 rw [BitVec.toNat_ofInt]
 have : ((m : Int) % ((2 ^ w : Nat) : Int)) = (m : Int) := Int.emod_eq_of_lt (by omega) (by exact_mod_cast h)
 rw [this]; rfl
theorem qx9 (k : Go.IntKind) {m n : Nat} (hm : m < 2 ^ k.bits) (hn : n < 2 ^ k.bits) (hr : m &&& n ≤ mostN k) : Value.int k (Go.IntKind.wrap k (BitVec.ofInt k.bits (m : Int) &&& BitVec.ofInt k.bits (n : Int)).toNat) = .int k ((m &&& n : Nat) : Int) := by
 rw [BitVec.toNat_and, qc7 _ hm, qc7 _ hn, qcg k hr]
theorem qxg (k : Go.IntKind) {m n : Nat} (hm : m < 2 ^ k.bits) (hn : n < 2 ^ k.bits) (hr : m ||| n ≤ mostN k) : Value.int k (Go.IntKind.wrap k (BitVec.ofInt k.bits (m : Int) ||| BitVec.ofInt k.bits (n : Int)).toNat) = .int k ((m ||| n : Nat) : Int) := by
 rw [BitVec.toNat_or, qc7 _ hm, qc7 _ hn, qcg k hr]
theorem qsr (k : Go.IntKind) {m n : Nat} (hm : m < 2 ^ k.bits) (hn : n < 2 ^ k.bits) (hr : m ^^^ n ≤ mostN k) : Value.int k (Go.IntKind.wrap k (BitVec.ofInt k.bits (m : Int) ^^^ BitVec.ofInt k.bits (n : Int)).toNat) = .int k ((m ^^^ n : Nat) : Int) := by
 rw [BitVec.toNat_xor, qc7 _ hm, qc7 _ hn, qcg k hr]
theorem qvo (k : Go.IntKind) {m j n : Nat} (hn : n = 2 ^ j - 1) (hj : 2 ^ j - 1 ≤ mostN k) (hm : m < 2 ^ k.bits) (hn2 : n < 2 ^ k.bits) : Value.int k (Go.IntKind.wrap k (BitVec.ofInt k.bits (m : Int) &&& BitVec.ofInt k.bits (n : Int)).toNat) = .int k ((m % 2 ^ j : Nat) : Int) := by
 subst hn
 have h := Nat.and_two_pow_sub_one_eq_mod m j
 rw [qx9 k hm hn2 (by rw [h]; have := Nat.mod_lt m (Nat.two_pow_pos j); omega), h]
theorem qzo {m n : Nat} (hm : m < 256) (hn : n < 256) : Value.int .u8 (Go.IntKind.u8.wrap (BitVec.ofInt Go.IntKind.u8.bits (m : Int) ^^^ BitVec.ofInt Go.IntKind.u8.bits (n : Int)).toNat) = .int .u8 ((m ^^^ n : Nat) : Int) :=
 qsr .u8 (by show m < 256; omega) (by show n < 256; omega) (by have h : m ^^^ n < 256 := Nat.xor_lt_two_pow (n := 8) (by simpa using hm) (by simpa using hn); show _ ≤ 255; omega)
theorem qzp {m n : Nat} (hm : m < 4294967296) (hn : n < 4294967296) : Value.int .u32 (Go.IntKind.u32.wrap (BitVec.ofInt Go.IntKind.u32.bits (m : Int) ||| BitVec.ofInt Go.IntKind.u32.bits (n : Int)).toNat) = .int .u32 ((m ||| n : Nat) : Int) :=
 qxg .u32 (by show m < 4294967296; omega) (by show n < 4294967296; omega) (by have h : m ||| n < 4294967296 := Nat.or_lt_two_pow (n := 32) (by simpa using hm) (by simpa using hn); show _ ≤ 4294967295; omega)
theorem qho {m n : Nat} (hm : m < 4294967296) (hn : n < 4294967296) : Value.int .u32 (Go.IntKind.u32.wrap (BitVec.ofInt Go.IntKind.u32.bits (m : Int) ^^^ BitVec.ofInt Go.IntKind.u32.bits (n : Int)).toNat) = .int .u32 ((m ^^^ n : Nat) : Int) :=
 qsr .u32 (by show m < 4294967296; omega) (by show n < 4294967296; omega) (by have h : m ^^^ n < 4294967296 := Nat.xor_lt_two_pow (n := 32) (by simpa using hm) (by simpa using hn); show _ ≤ 4294967295; omega)
theorem qo9 {m j n : Nat} (hn : n = 2 ^ j - 1) (hn2 : n < 4294967296) (hm : m < 4294967296) : Value.int .u32 (Go.IntKind.u32.wrap (BitVec.ofInt Go.IntKind.u32.bits (m : Int) &&& BitVec.ofInt Go.IntKind.u32.bits (n : Int)).toNat) = .int .u32 ((m % 2 ^ j : Nat) : Int) :=
 qvo .u32 hn (by rw [← hn]; show n ≤ 4294967295; omega) (by show m < 4294967296; omega) (by show n < 4294967296; omega)
theorem qzq {m n : Nat} (hm : m < 9223372036854775808) (hn : n < 9223372036854775808) : Value.int .i64 (Go.IntKind.i64.wrap (BitVec.ofInt Go.IntKind.i64.bits (m : Int) ||| BitVec.ofInt Go.IntKind.i64.bits (n : Int)).toNat) = .int .i64 ((m ||| n : Nat) : Int) :=
 qxg .i64 (by show m < 18446744073709551616; omega) (by show n < 18446744073709551616; omega) (by have h : m ||| n < 9223372036854775808 := Nat.or_lt_two_pow (n := 63) (by simpa using hm) (by simpa using hn); show _ ≤ 9223372036854775807; omega)
theorem getD_at {α : Type} {l : List α} {k : Nat} (d : α) (h : k < l.length) : l[k]? = some (l.getD k d) := by
 rw [List.getD_eq_getElem?_getD, List.getElem?_eq_getElem h]; rfl
theorem qal {α : Type} {l : List α} {k : Nat} (d : α) (h : k < l.length) : l.getD k d ∈ l := List.mem_of_getElem? (getD_at d h)
theorem getD_lt {l : List Nat} {m : Nat} (hl : ∀ b ∈ l, b < m) {k : Nat} (h : k < l.length) : l.getD k 0 < m := hl _ (qal 0 h)
end Go.Proofs.YtfeheccoijnbaaaGreatDoor
namespace Go.Proofs.YtfeheccoijnbaaaGreatDoor
open Go.RowKit Go.MapKept
def entOf (p : Nat × Nat) (b : Nat) : MapEntry := { key := .int .i64 (p.1 : Int), val := .int .i64 (p.2 : Int), born := b }
def entsF : Nat → List (Nat × Nat) → List MapEntry
 | _, [] => []
 | b, p :: l => entOf p b :: entsF (b + 1) l
def mapA (l : List (Nat × Nat)) : Array MapEntry := (entsF 0 l).toArray
section
variable {P : Program} {Q : Exit → Act → World → Prop} {a : Act} {W w : World} {n d : Nat} {D : List Deferred} {σ : List (Nat × Value)} {o : Oper} {K : Act → World → Prop} {fs : List Fact} {S : World → Prop}
end
structure Counted (l : List (Nat × Nat)) (seen : Array Nat) (c : Nat) : Prop where
 odd : (c : Int) % 2 = seenSum (mapA l).toList seen % 2
 few : c + (leftOf (mapA l) seen).size ≤ l.length
end Go.Proofs.YtfeheccoijnbaaaGreatDoor
namespace Go.Proofs.YtfeheccoijnbaaaGreatDoor
open Go.RowKit
section
variable {W w w' : World} {fs gs fs' : List Fact}
theorem Mem.perm (h : Mem W w fs) (hp : fs.Perm fs') : Mem W w fs' :=
 ⟨h.below, fun f hf => h.holds f (hp.mem_iff.2 hf), (hp.pairwise_iff (fun {_ _} hab => hab.symm)).1 h.apart⟩
theorem Mem.subl (h : Mem W w fs) (hs : fs'.Sublist fs) : Mem W w fs' :=
 ⟨h.below, fun f hf => h.holds f (hs.subset hf), h.apart.sublist hs⟩
theorem Fact.holds.base {b b' : Nat} {f : Fact} (h : f.holds b w) (hb : b' ≤ b) : f.holds b' w := by
 cases f with
 | blk g cs t => exact ⟨Nat.le_trans hb h.1, h.2⟩
 | obj g o => exact ⟨Nat.le_trans hb h.1, h.2⟩
 | row v n xs e size => exact qec h hb
theorem Mem.join (h : Mem W w fs) (k : Mem w w' gs) : Mem W w' (gs ++ fs) := by
 have hf := h.call k.below
 refine ⟨hf.below, ?_, ?_⟩
 ·intro f hm
  rcases List.mem_append.1 hm with hm | hm
  ·exact (k.holds f hm).base h.size
  ·exact hf.holds f hm
 ·refine List.pairwise_append.2 ⟨k.apart, h.apart, ?_⟩
  intro f hfm g hgm x hx hgx
  have h1 := ((k.holds f hfm).lt hx).1
  have h2 := ((h.holds g hgm).lt hgx).2
  omega
theorem Mem.q0j {A : Option Addr} {n c : Nat} {xs : List Value} {e : TypeId} {size : Nat} (h : Mem W w fs) (hf : Fact.row (.slice A n c) n xs e size ∈ fs) : Rd w w.heap.size size A n xs := by
 obtain ⟨i, hi⟩ := List.mem_iff_getElem?.1 hf
 exact h.rd hi
structure Own where
 A : Option Addr
 n : Nat
 c : Nat
 xs : List Value
def Own.fact (e : TypeId) (size : Nat) (p : Own) : Fact := .row (.slice p.A p.n p.c) p.n p.xs e size
def ownsF (e : TypeId) (size : Nat) (ps : List Own) : List Fact := ps.map (Own.fact e size)
end
section
variable {P : Program} {ops : Array Oper} {Q : Exit → Act → World → Prop} {a : Act} {w : World}
theorem qye {id : Nat} {W : World} {fs : List Fact} (HM : Mem W w fs) (fs' : List Fact) (n : Nat) (is ex : List Nat) (h : Mem W w.drew fs → Mem W w.drew fs' → qa0 P .any ops Q (fun wS => Mem W wS fs') ex ops.size (Array.replicate ops.size false) a w.drew)
  (hm : P.follows .mixedOrders = true := by kernel_rfl) (hn : is.Nodup := by decide) (hlt : (is.all (· < n)) = true := by decide) (he : picks fs is ++ fs.drop n = fs' := by rfl) : (Code.region id ops true).wp P Q a w :=
 qlu hm _ ex (h HM.drew (HM.drew.picksT n is hn hlt he))
end
section
variable {P : Program} {ops : Array Oper} {Q : Exit → Act → World → Prop} {a : Act} {W w : World} {l n N i d : Nat} {D : List Deferred} {σ σ' : List (Nat × Value)} {K : Act → World → Prop} {fs : List Fact} {o : Oper}
theorem qid (hQ : ¬ LetsOut Q) : ∀ (os : List Oper), (∀ o ∈ os, ∀ c, o.op ≠ .defer c) → ∀ a w, wpList P ops Q os a w → wpListIn (Fence.wide.inRound l) 0 P ops Q os a w
 | [], _, _, _, h => h
 | o :: os, hos, a, w, h => by
  unfold wpList at h
  unfold wpListIn
  split at h
  ·rename_i hw
   rw [if_pos hw]
   exact qlm (hos o List.mem_cons_self) hQ (fun a w h => qid hQ os (fun o ho => hos o (List.mem_cons_of_mem _ ho)) a w h) h
  ·rename_i hw
   rw [if_neg hw]
   exact ⟨fun _ _ => trivial, qid hQ os (fun o ho => hos o (List.mem_cons_of_mem _ ho)) _ _ h⟩
theorem qb7 {id : Nat} (h : qat P ops Q 0 a w) (hd : qhg ops = true := by kernel_rfl) (hQ : ¬ LetsOut Q := by intro ⟨_, _, h⟩; exact h) : (Code.region id ops false).wpIn (Fence.wide.inRound l) 0 P Q a w :=
 wpIn_region_list (qid hQ _ (fun o ho => by
  obtain ⟨j, hj⟩ := List.mem_iff_getElem?.1 ho
  exact qi6 hd (i := j) (by simpa using hj)) a w (by simpa [qat] using h))
theorem qt9 {id : Nat} (HM : Mem W w fs) (fs' : List Fact) (m : Nat) (is ex : List Nat) (h : Mem W w.drew fs → Mem W w.drew fs' → qa0 P .any ops Q (fun wS => Mem W wS fs') ex ops.size (Array.replicate ops.size false) a w.drew)
  (hm : P.follows .mixedOrders = true := by kernel_rfl) (hn : is.Nodup := by decide) (hlt : (is.all (· < m)) = true := by decide) (he : picks fs is ++ fs.drop m = fs' := by rfl) (hd : qhg ops = true := by kernel_rfl) (hQ : ¬ LetsOut Q := by intro ⟨_, _, h⟩; exact h) : (Code.region id ops true).wpIn (Fence.wide.inRound l) 0 P Q a w :=
 wpIn_region_any hm (qfa hd hQ _ _ _ _ (qdi _ _ _ _ (h HM.drew (HM.drew.picksT m is hn hlt he))))
theorem qob {F : Fence} {c : Operand} {x y : Code} (HF : Fr a n D σ) (hc : look σ c = some (.bool true)) (h : x.wpIn F 0 P Q a w) : (Code.cond c x y).wpIn F 0 P Q a w := wpIn_cond_true (HF.eval hc) h
theorem qmm {F : Fence} {c : Operand} {x y : Code} (HF : Fr a n D σ) (hc : look σ c = some (.bool false)) (h : y.wpIn F 0 P Q a w) : (Code.cond c x y).wpIn F 0 P Q a w := wpIn_cond_false (HF.eval hc) h
def qcu (fn : FuncId) (tmps : Array Value) (ps : Array Tmp) (assign body : Code) (D : Nat) (st : LoopState) (pe : Option Code) : Loop := { state := st, pending := pe, fn, tmps, params := ps, assign, body, defers := D }
def roundEnd (W : World) (l : Nat) (rec : LoopState → Option Code → Loop) (R : Ending → World → Prop) : Exit → Act → World → Prop
 | .normal, _, w => ∃ F, Mem W w (.obj l (.loop (rec .busy none)) :: F) ∧ ∀ w', Mem W w' (.obj l (.loop (rec .ready none)) :: F) → R (.returned (.bool true)) w'
 | .ret, _, w => ∃ F, Mem W w (.obj l (.loop (rec .busy none)) :: F) ∧ ∀ w', Mem W w' (.obj l (.loop (rec .done (some .ret))) :: F) → R (.returned (.bool false)) w'
 | .exit id, _, w => ∃ F, Mem W w (.obj l (.loop (rec .busy none)) :: F) ∧ ∀ w', Mem W w' (.obj l (.loop (rec .done (some (.exit id)))) :: F) → R (.returned (.bool false)) w'
 | _, _, _ => False
theorem qoc {fn : FuncId} {tmps : Array Value} {ps : Array Tmp} {assign body : Code} {B : Nat} {args : Array Value} {F : List Fact} {R : Ending → World → Prop} (HM : Mem W w (.obj l (.loop (qcu fn tmps ps assign body B .ready none)) :: F)) (hs : args.size = ps.size)
  (h : assign.wpIn (Fence.wide.inRound l) 0 P (Exit.then (fun a1 w1 => ∃ F1, Mem W w1 (.obj l (.loop (qcu fn tmps ps assign body B .ready none)) :: F1) ∧ ∀ w2, Mem W w2 (.obj l (.loop (qcu fn tmps ps assign body B .busy none)) :: F1) → body.wpIn (Fence.wide.inRound l) 0 P (roundEnd W l (qcu fn tmps ps assign body B) R) a1 w2) (fun _ _ _ => False))
   { tmps := (ps.zip args).foldl (fun t (p, v) => t.setIfInBounds p v) tmps, defers := [] } w) : YieldAt Fence.wide 0 P l args w R := by
 have hl := HM.objAt (i := 0) rfl
 refine ⟨fn, _, assign, body, run_yield hl hs, roundIn_of_wpIn trivial (wpIn_mono h ?_)⟩
 rintro e a1 w1 hq
 cases e with
 | normal =>
  obtain ⟨F1, h1, h2⟩ := hq
  refine ⟨_, run_beginRound (h1.objAt (i := 0) rfl) rfl, ?_⟩
  refine wpIn_mono (h2 _ (h1.setObj (i := 0) rfl _)) ?_
  rintro e a2 w2 hq
  cases e with
  | normal =>
   obtain ⟨F2, h3, h4⟩ := hq
   exact ⟨_, _, run_endRound none (h3.objAt (i := 0) rfl), h4 _ (h3.setObj (i := 0) rfl _)⟩
  | ret =>
   obtain ⟨F2, h3, h4⟩ := hq
   exact ⟨_, _, run_endRound (some .ret) (h3.objAt (i := 0) rfl), h4 _ (h3.setObj (i := 0) rfl _)⟩
  | exit id =>
   obtain ⟨F2, h3, h4⟩ := hq
   exact ⟨_, _, run_endRound (some (.exit id)) (h3.objAt (i := 0) rfl), h4 _ (h3.setObj (i := 0) rfl _)⟩
  | goto t => exact hq.elim
  | panic c => exact hq.elim
  | outgrown => exact hq.elim
 | exit id => exact hq.elim
 | goto t => exact hq.elim
 | ret => exact hq.elim
 | panic c => exact hq.elim
 | outgrown => exact hq.elim
theorem Fr.zip2 {tmps : Array Value} {p1 p2 : Nat} {v1 v2 : Value} (h : Fr { tmps := tmps, defers := [] } n D σ) (h1 : p1 < n) (h2 : p2 < n) : Fr { tmps := (#[p1, p2].zip #[v1, v2]).foldl (fun t (p, v) => t.setIfInBounds p v) tmps, defers := [] } n D ((p2, v2) :: (p1, v1) :: σ) := by
 have h3 := (h.put h1 v1).put h2 v2
 simpa [Act.put] using h3
theorem qmn {rec : LoopState → Option Code → Loop} {assign body : Code} {B p1 p2 : Nat} {v1 v2 : Value} {F : List Fact} {R : Ending → World → Prop} (hrec : ∃ fn tmps, rec = qcu fn tmps #[p1, p2] assign body B ∧ Fr { tmps := tmps, defers := [] } n [] σ) (HM : Mem W w (.obj l (.loop (rec .ready none)) :: F)) (h1 : p1 < n) (h2 : p2 < n)
  (h : ∀ a, Fr a n [] ((p2, v2) :: (p1, v1) :: σ) → assign.wpIn (Fence.wide.inRound l) 0 P (Exit.then (fun a1 w1 => ∃ F1, Mem W w1 (.obj l (.loop (rec .ready none)) :: F1) ∧ ∀ w2, Mem W w2 (.obj l (.loop (rec .busy none)) :: F1) → body.wpIn (Fence.wide.inRound l) 0 P (roundEnd W l rec R) a1 w2) (fun _ _ _ => False)) a w) : YieldAt Fence.wide 0 P l #[v1, v2] w R := by
 obtain ⟨fn, tmps, rfl, HF⟩ := hrec
 exact qoc HM rfl (h _ (HF.zip2 h1 h2))
theorem qpo {a : Act} {w : World} {K K' : Act → World → Prop} (hQ : ¬ LetsOut Q) (hK : ∀ a w, K a w → K' a w) (h : o.wp P a w K Q ∨ (o.asks P a w ∧ LetsOut Q)) : o.wpIn Fence.wide 0 P a w K' Q := by
 rcases h with h | h
 ·refine ⟨fun _ _ => trivial, ?_⟩
  rw [show Fence.wide.round = none from rfl, Oper.semAt_none]
  unfold Oper.wp at h
  generalize (execOp a.eval o).run P w = r at h
  cases r with
  | ok x w' =>
   cases x with
   | value v => exact hK _ _ h
   | skip => exact hK _ _ h
   | defer d => exact hK _ _ h
   | enter f args =>
    refine ⟨fun h => by simp [Fence.wide] at h, ?_⟩
    show CallsIn Fence.wide 0 P f args w' _
    refine (callsIn_wide.2 h).mono ?_
    intro e w'' he
    cases e with
    | returned v => exact hK _ _ he
    | panicked c => exact he
    | outgrown => exact he
   | row r args =>
    refine ⟨fun h => by simp [Fence.wide] at h, fun c cs _ => ?_⟩
    obtain ⟨v, w'', h1, h2⟩ := (h : Rows P r args w' _) c cs
    exact ⟨v, w'', hK _ _ h1, stepsIn_wide.2 h2⟩
   | _ => exact (h : False).elim
  | halt hh w' =>
   cases hh with
   | panic v => exact h
   | _ => exact (h : False).elim
 ·exact absurd h.2 hQ
theorem qk2 (hQ : ¬ LetsOut Q) : ∀ (os : List Oper) (a : Act) (w : World), wpList P ops Q os a w → wpListIn Fence.wide 0 P ops Q os a w
 | [], _, _, h => h
 | o :: os, a, w, h => by
  unfold wpList at h
  unfold wpListIn
  split at h
  ·rename_i hw
   rw [if_pos hw]
   exact qpo hQ (fun a w h => qk2 hQ os a w h) h
  ·rename_i hw
   rw [if_neg hw]
   exact ⟨fun _ _ => trivial, qk2 hQ os _ _ h⟩
theorem qmo {pre : Array Oper} (hQ : ¬ LetsOut Q) (K : Act → World → Prop) (os2 : List Oper) (hK : ∀ a w, K a w → wpListIn Fence.wide 0 P ops Q os2 a w) : ∀ (os : List Oper), (∀ o ∈ os, o.guard = none) → ∀ a w, wpList P pre (Exit.then K Q) os a w → wpListIn Fence.wide 0 P ops Q (os ++ os2) a w
 | [], _, a, w, h => hK a w h
 | o :: os, hg, a, w, h => by
  have h1 : ∀ x, Region.wanted o x = true := fun x => by unfold Region.wanted; rw [hg o List.mem_cons_self]
  unfold wpList at h
  rw [if_pos (h1 _)] at h
  show if Region.wanted o (yielded ops a.tmps) = true then _ else _
  rw [if_pos (h1 _)]
  have h2 := qpo (Q := Exit.then K Q) (K' := wpListIn Fence.wide 0 P ops Q (os ++ os2)) (fun ⟨a, w, h⟩ => hQ ⟨a, w, h⟩) (fun a w h => qmo hQ K os2 hK os (fun o ho => hg o (List.mem_cons_of_mem _ ho)) a w h) h
  refine ⟨h2.1, ?_⟩
  have h3 := h2.2
  generalize (o.semAt Fence.wide.round a.eval).run P w = r at h3
  cases r with
  | ok x w' =>
   cases x with
   | enter f args =>
    refine ⟨h3.1, h3.2.mono ?_⟩
    intro e w'' he
    cases e with
    | returned v => exact he
    | panicked c => exact he
    | outgrown => exact he
   | round l f tmps assign body =>
    refine ⟨h3.1, h3.2.mono ?_⟩
    intro e w'' he
    cases e with
    | returned v => exact he
    | panicked c => exact he
    | outgrown => exact he
   | _ => exact h3
  | halt hh w' =>
   cases hh with
   | panic v => exact h3
   | _ => exact h3
theorem qmp {id i : Nat} (h : qat P (ops.toList.take i).toArray (Exit.then (fun a w => ∃ o, ops[i]? = some o ∧ o.guard = none ∧ o.wpIn Fence.wide 0 P a w (wpListIn Fence.wide 0 P ops Q (ops.toList.drop (i + 1))) Q) Q) 0 a w) (hg : ((ops.toList.take i).all fun o => o.guard.isNone) = true := by kernel_rfl) (hQ : ¬ LetsOut Q := by intro ⟨_, _, h⟩; obtain ⟨_, h, _⟩ := h; cases h) : (Code.region id ops false).wp P Q a w := by
 refine wpIn_wide.1 (wpIn_region_list (n := 0) ?_)
 have h0 : wpList P (ops.toList.take i).toArray (Exit.then (fun a w => ∃ o, ops[i]? = some o ∧ o.guard = none ∧ o.wpIn Fence.wide 0 P a w (wpListIn Fence.wide 0 P ops Q (ops.toList.drop (i + 1))) Q) Q) (ops.toList.take i) a w := by simpa [qat] using h
 have h1 := qmo (ops := ops) hQ _ (ops.toList.drop i) (fun a w ⟨o, ho, hn, h⟩ => by
  obtain ⟨hl, he⟩ := Array.getElem?_eq_some_iff.1 ho
  rw [List.drop_eq_getElem_cons (by simpa using hl), Array.getElem_toList, he]
  unfold wpListIn
  rw [if_pos (by unfold Region.wanted; rw [hn])]
  exact h) (ops.toList.take i) (fun o ho => by
  have := List.all_eq_true.1 hg o ho
  simpa using this) a w h0
 rwa [List.take_append_drop] at h1
theorem Mem.qy7 {r : Fact} {es F : List Fact} (h : Mem W w (r :: (es ++ F))) : Mem W w (r :: (F ++ es)) := h.perm (List.Perm.cons _ List.perm_append_comm)
theorem Mem.qvb {es F : List Fact} (h : Mem W w (F ++ es)) : Mem W w (es ++ F) := h.perm List.perm_append_comm
theorem Mem.qqe (es : List Fact) {F : List Fact} (h : Mem W w (es ++ F)) : Mem W w F := h.subl (List.sublist_append_right es F)
theorem qwt (HF : Fr a n D σ) {fo : Operand} {xs : Array Operand} {ts : Array TypeId} {vs : List Value} {R : Ending → World → Prop} (ho : ops[i]? = some o) (hn : o.guard = none) (hop : o.op = .call { callee := .value fo, args := xs, argTypes := ts }) (hfo : look σ fo = some (.func (.yield l) #[] #[])) (hv : looks σ xs.toList = some vs) (hd : o.dst = some d) (hdn : d < n)
  (hy : YieldAt Fence.wide 0 P l vs.toArray w R) (hR : ∀ e w', R e w' → ∃ v, e = .returned v) (k : ∀ v w' a', R (.returned v) w' → Fr a' n D ((d, v) :: σ) → qat P ops Q (i + 1) a' w') (hQ : ¬ LetsOut Q := by intro ⟨_, _, h⟩; obtain ⟨_, h, _⟩ := h; cases h) :
  ∃ o, ops[i]? = some o ∧ o.guard = none ∧ o.wpIn Fence.wide 0 P a w (wpListIn Fence.wide 0 P ops Q (ops.toList.drop (i + 1))) Q := by
 refine ⟨o, ho, hn, fun _ _ => trivial, ?_⟩
 have e1 : xs.map a.eval = vs.toArray := by
  have := qc6 HF hv
  rw [← this, ← Array.toList_map, Array.toArray_toList]
 obtain ⟨fn, tmps, assign, body, h1, h2⟩ := hy
 rw [show Fence.wide.round = none from rfl, Oper.semAt_none]
 unfold execOp
 simp only [hop, resolve, HF.eval hfo, Deferred.ofValue, invoke, Sem.run_bind, Sem.run_pure, Result.andThen_ok]
 have e2 : (#[] : Array Value) ++ Array.map a.eval xs ++ #[] = vs.toArray := by simp [e1]
 show Oper.uponIn Fence.wide 0 P o a _ Q ((Instr.yield l (#[] ++ Array.map a.eval xs ++ #[])).run P w)
 rw [e2, h1]
 refine ⟨fun h => by simp [Fence.wide] at h, h2.mono ?_⟩
 intro e w' he
 obtain ⟨v, rfl⟩ := hR e w' he
 show wpListIn Fence.wide 0 P ops Q (ops.toList.drop (i + 1)) (a.put o.dst v) w'
 rw [hd]
 exact qk2 hQ _ _ _ (k v w' _ he (HF.put hdn v))
theorem qzy {g : Operand} {ps : Array Tmp} {assign body : Code} {gf : Nat} {caps : List Value} (HF : Fr a n [] σ) (HM : Mem W w fs) (J : List Fact → Prop) (X : Code → List Fact → Prop) (hg : look σ g = some (.func (.func gf) #[] caps.toArray)) (hcl : callable P gf = true)
  (hit : ∀ (l B : Nat) (rec : LoopState → Option Code → Loop) (w1 : World), (∃ fn tmps, rec = qcu fn tmps ps assign body B ∧ Fr { tmps := tmps, defers := [] } n [] σ) → Mem W w1 (.obj l (.loop (rec .ready none)) :: .obj B (.deferred (some [])) :: fs) →
   Calls P gf (.func (.yield l) #[] #[] :: caps).toArray w1 fun r w' => ∃ v, r = .returned v ∧ ((∃ F, J F ∧ Mem W w' (.obj l (.loop (rec .ready none)) :: .obj B (.deferred (some [])) :: F)) ∨ ∃ c F, X c F ∧ Mem W w' (.obj l (.loop (rec .done (some c))) :: .obj B (.deferred (some [])) :: F)))
  (hdone : ∀ (B : Nat) (a' : Act) (w' : World) (F : List Fact), J F → Fr a' n [{ target := .collected B, args := #[] }] σ → Mem W w' (.obj B (.deferred (some [])) :: F) → Q .normal a' w')
  (hstop : ∀ (c : Code) (B : Nat) (a' : Act) (w' : World) (F : List Fact), X c F → Fr a' n [{ target := .collected B, args := #[] }] σ → Mem W w' (.obj B (.deferred (some [])) :: F) → c.wp P Q a' w') :
  (Code.rangeFunc g ps assign body).wp P Q a w := by
 refine (wpIn_wide (n := 0)).1 (wpIn_rangeFunc ?_)
 intro fn _
 show ∃ l mark w₁ d w₁' f args w₂, (Instr.enterLoop fn a.tmps ps assign body none).run P w = .ok (l, mark) w₁ ∧ _
 have h1 := (HM.allocObj (.deferred (some []))).allocObj (.loop (qcu fn a.tmps ps assign body w.heap.size .ready none))
 rw [World.size_alloc] at h1
 have HF1 : Fr { tmps := a.tmps, defers := [] } n [] σ := ⟨HF.size, rfl, HF.slot⟩
 have HF2 : Fr { a with defers := { target := .collected w.heap.size, args := #[] } :: a.defers } n [{ target := .collected w.heap.size, args := #[] }] σ := ⟨HF.size, by show _ :: a.defers = _; rw [HF.defers], HF.slot⟩
 have hE : (Instr.enterLoop fn a.tmps ps assign body none).run P w = .ok (w.heap.size + 1, [{ target := .collected w.heap.size, args := #[] }]) ((w.alloc (.deferred (some []))).alloc (.loop (qcu fn a.tmps ps assign body w.heap.size .ready none))) := run_enterLoop_outer _ _ _ _ _
 generalize (w.alloc (.deferred (some []))).alloc (.loop (qcu fn a.tmps ps assign body w.heap.size .ready none)) = W1 at h1 hE
 refine ⟨w.heap.size + 1, [{ target := .collected w.heap.size, args := #[] }], W1, { target := .fn (.func gf) caps.toArray, args := #[.func (.yield (w.heap.size + 1)) #[] #[]] }, W1, gf, #[.func (.yield (w.heap.size + 1)) #[] #[]] ++ caps.toArray, W1, hE, ?_, fun _ _ => trivial, ?_, fun h => by simp [Fence.wide] at h, ?_⟩
 ·simp only [resolve, HF.eval hg]
  simp [go_sem]
 ·simp [invoke, go_sem, qd1 hcl]
 ·have e : (#[.func (.yield (w.heap.size + 1)) #[] #[]] ++ caps.toArray : Array Value) = (.func (.yield (w.heap.size + 1)) #[] #[] :: caps).toArray := by simp
  rw [e]
  refine callsIn_wide.2 ((hit _ _ _ _ ⟨fn, a.tmps, rfl, HF1⟩ h1).mono ?_)
  rintro e w' ⟨v, rfl, (⟨F, hJ, hM⟩ | ⟨c, F, hX, hM⟩)⟩
  ·have h2 := run_endLoop (P := P) (hM.objAt (i := 0) rfl) (by simp [qcu])
   exact ⟨none, _, h2, hdone _ _ _ F hJ HF2 (hM.setObj (i := 0) rfl _).tail⟩
  ·have h2 := run_endLoop (P := P) (hM.objAt (i := 0) rfl) (by simp [qcu])
   exact ⟨some c, _, h2, wpIn_wide.2 (hstop c _ _ _ F hX HF2 (hM.setObj (i := 0) rfl _).tail)⟩
def bodyM (P : Program) (fn : Func) (R : Ending → World → Prop) : Exit → Act → World → Prop
 | .normal, a, w | .ret, a, w => LeavesInM Fence.wide 0 P fn a.tmps R a.defers .returning w
 | _, _, _ => False
theorem qk3 {f N : Nat} {fn : Func} {c : Code} {vs : List Value} {R : Ending → World → Prop} (hf : P.funcs[f]? = some fn) (hb : fn.body = some c) (hn : fn.ntmps = N) (hl : decide (vs.length ≤ N) = true) {σ0 : List (Nat × Value)} (h0 : qfe 0 vs = σ0)
  (k : ∀ a, Fr a N [] σ0 → c.wp P (bodyM P fn R) a w) : Calls P f vs.toArray w R := by
 subst h0
 rw [decide_eq_true_eq] at hl
 refine (callsIn_wide (n := 0)).1 (callsIn_of_wp_marks hf hb trivial (wpIn_wide.2 (Code.wp_mono (fun e a w h => by cases e <;> first | exact h | exact (h : False).elim) (k _ ⟨by simp [hn]; omega, rfl, fun t v hv => ?_⟩))) rfl)
 obtain ⟨_, h1⟩ := qd2 vs 0 t v hv
 rw [Nat.sub_zero] at h1
 have hlt := (List.getElem?_eq_some_iff.1 h1).1
 simp only [Array.getD_eq_getD_getElem?, Array.getElem?_append, List.size_toArray, if_pos hlt]
 simp [h1]
section
variable {fn : Func} {R : Ending → World → Prop}
theorem qzz (h : bodyPost P fn R .ret a w) : bodyM P fn R .ret a w := by
 obtain ⟨hd, v, hr, hR⟩ := h
 show LeavesInM Fence.wide 0 P fn a.tmps R a.defers .returning w
 rw [hd]
 exact ⟨v, hr, hR⟩
theorem qua {B : Nat} (HF : Fr a n [{ target := .collected B, args := #[] }] σ) (HM : Mem W w fs) (hi : fs[i]? = some (.obj B (.deferred (some [])))) (h : ∀ (a' : Act) (w' : World), Fr a' n [] σ → Mem W w' (fs.set i (.obj B (.deferred none))) → bodyPost P fn R .ret a' w') : bodyM P fn R .ret a w := by
 obtain ⟨_, v, hr, hR⟩ := h { tmps := a.tmps, defers := [] } _ ⟨HF.size, rfl, HF.slot⟩ (HM.setObj hi (.deferred none))
 show LeavesInM Fence.wide 0 P fn a.tmps R a.defers .returning w
 rw [HF.defers]
 exact ⟨fun h => (nomatch h), .inl ⟨B, _, rfl, run_takeDeferred (HM.objAt hi), v, hr, hR⟩⟩
theorem ret0 (hr : fn.results = #[]) (HF : Fr a n [] σ) (hR : R (.returned (.tuple #[])) w) : bodyPost P fn R .ret a w :=
 bodyPost_ret (v := .tuple #[]) (by
  rw [qdl, hr]
  simp) HF.defers hR
theorem norm0 (hr : fn.results = #[]) (HF : Fr a n [] σ) (hR : R (.returned (.tuple #[])) w) : bodyPost P fn R .normal a w := ret0 hr HF hR
end
end
theorem Yl.str {S : World → Prop} {σ : List (Nat × Value)} {o : Oper} {x : Operand} {A : Option Addr} {n c : Nat} {l : List Nat} (hop : o.op = .convert 34 9 x) (hx : look σ x = some (.slice A n c)) (hr : ∀ w, S w → Rd w w.heap.size 1 A n (l.map B8)) : Yl Tryz.prog S σ o (.string (bstr l)) := fun a m D HF w hS => by
 unfold execOp
 simp [hop, HF.eval hx, qx5 (hr w hS)]
theorem qa2 (l : List Nat) : ∀ u ∈ l.map B8, u.oneCell' = true := by
 intro u hu
 obtain ⟨x, _, rfl⟩ := List.mem_map.1 hu
 rfl
theorem Rd.qqd {w : World} {B n k cap : Nat} {A : Option Addr} {l : List Nat} (h : Rd w B 1 A n (l.map B8)) (hk : k ≤ n) (hc : n ≤ cap) : Rd w B 1 (if cap = k then A else A.map (·.add (k * 1))) (n - k) ((l.drop k).map B8) := by
 have h1 := h.from hk hc
 rw [List.map_drop]
 have e : (l.map B8).drop (k * 1) = (l.map B8).drop k := by rw [Nat.mul_one]
 rw [← e]
 exact h1
theorem Laid.mem {B : Nat} {W w : World} {fs : List Fact} (h : Laid B W) (hM : Mem W w fs) (hB : B ≤ W.heap.size) : Laid B w := h.below hM.below hB
theorem Mem.le {W w : World} {fs : List Fact} (h : Mem W w fs) {B : Nat} (hB : B ≤ W.heap.size) : B ≤ w.heap.size := Nat.le_trans hB h.size
theorem qgt {x : Int} (h : -9223372036854775808 ≤ x ∧ x ≤ 9223372036854775807) : Value.int .i64 (IntKind.i64.wrap x) = .int .i64 x := by rw [IntWalk.i64_in x h]
def qah (w : World) (er : Nat) (R : List Nat) (r : Ending) (w' : World) : Prop :=
 (∃ A c, r = .returned (.tuple #[.slice A R.length c, .int .i64 (er : Int)]) ∧ w'.ownsRow w.heap.size 5 1 (.slice A R.length c) R.length (R.map B8) ∧ R.length ≤ c) ∧ Below w.heap.size w w'
theorem BytesPost.is {w w' : World} {r : Ending} {er er' : Nat} {R R' : List Nat} (h : BytesPost w er R r w') (h1 : er = er') (h2 : R = R') : qah w er' R' r w' := by
 subst h1; subst h2
 obtain ⟨⟨v, rfl, ho⟩, hb⟩ := h
 obtain ⟨A, c, rfl, hc⟩ := qbh ho
 exact ⟨⟨A, c, rfl, ho, hc⟩, hb⟩
theorem qvp (b : Bs) (A : Option Addr) (n c : Nat) (l : List Ev) (hok : ∀ e ∈ l, e.Ok) (B : Nat) (w : World) (hL : Laid B w) (hB : B ≤ w.heap.size) (hr : Rd w w.heap.size 11 A n (l.flatMap evL)) (hn : n ≤ 1000000000000) {er : Nat} {R : List Nat} (h1 : qz b l = er) (h2 : zo b l = R) :
  Calls Tryz.prog 97 #[.agg b.cells, .slice A n c] w (qah w er R) :=
 (qse b A n c l hok B w hL hB hr hn).mono fun _ _ h => h.is h1 h2
section
variable {P : Program} {S : World → Prop} {σ : List (Nat × Value)} {o : Oper} {t e : TypeId} {z : Value} {size bytes : Nat}
theorem Yl.sliceFrom (ei : EI P t e z size bytes) {x lo : Operand} {A : Option Addr} {m c j : Nat} {k : IntKind} (hop : o.op = .slice t x (some lo) none none) (hx : look σ x = some (.slice A m c)) (hl : look σ lo = some (.int k (j : Int))) (hj : j ≤ m) :
  Yl P S σ o (.slice (if c = j then A else A.map (·.add (j * size))) (m - j) (c - j)) := fun a n D HF w hS => by
 unfold execOp
 simp only [hop, HF.eval hx, HF.eval hl, Option.map_some, Option.map_none, Sem.run_bind, Sem.run_pure, qer (P := P) ei hj, Result.andThen_ok]
theorem Yl.qbo (ei : EI P t e z size bytes) {x hi : Operand} {A : Option Addr} {m c j : Nat} {k : IntKind} (hop : o.op = .slice t x none (some hi) none) (hx : look σ x = some (.slice A m c)) (hl : look σ hi = some (.int k (j : Int))) (hj : j ≤ c) :
  Yl P S σ o (.slice A j c) := fun a n D HF w hS => by
 unfold execOp
 simp only [hop, HF.eval hx, HF.eval hl, Option.map_some, Option.map_none, Sem.run_bind, Sem.run_pure, qiw (P := P) ei hj, Result.andThen_ok]
end
section
variable {P : Program} {S : World → Prop} {σ : List (Nat × Value)} {o : Oper}
def placesOf (P : Program) : List Field → Option (List (Nat × Nat))
 | [] => some []
 | f :: r => match P.info? f.type, placesOf P r with
  | some i, some l => some ((f.offset, i.size) :: l)
  | _, _ => none
theorem qgu : ∀ {fs : List Field} {l : List (Nat × Nat)}, placesOf P fs = some l → ∀ w, (fs.mapM fun f => (do pure (f.offset, ← sizeOf f.type) : Sem (Nat × Nat))).run P w = .ok l w
 | [], l, h, w => by cases h; rfl
 | f :: r, l, h, w => by
  unfold placesOf at h
  split at h
  ·rename_i i l' hi hr
   injection h with h
   subst h
   simp [List.mapM_cons, sizeOf, typeInfo, hi]
   have := qgu hr w
   simp [sizeOf, typeInfo] at this
   simp [this]
  ·cases h
def qjd (P : Program) (t : TypeId) (vs : List (Nat × Value)) : Option (Array Value) := match P.underlying t, qee P t with
 | some (.struct fs), some z => match placesOf P fs.toList with
  | some l => Instr.fill (l.toArray[·]?) z vs
  | none => none
 | _, _ => none
theorem Yl.build {t : TypeId} {ps : Array (Nat × Operand)} {vs : List (Nat × Value)} {cs : Array Value} (hop : o.op = .build t ps) (hv : qef σ ps.toList = some vs) (hb : qjd P t vs = some cs) : Yl P S σ o (.agg cs) := fun a n D HF w hS => by
 have hpm := qgs HF hv
 have e1 : (Instr.build t (ps.map fun p => (p.1, a.eval p.2))).run P w = .ok (.agg cs) w := by
  rw [hpm]
  unfold qjd at hb
  split at hb
  ·rename_i fs z hu hz
   split at hb
   ·rename_i l hl
    unfold qee at hz
    obtain ⟨zv, hz1, rfl⟩ := Option.map_eq_some_iff.1 hz
    obtain ⟨i, hi, hz2⟩ := Option.bind_eq_some_iff.1 hz1
    have hm : (fs.mapM fun f => (do Pure.pure (f.offset, ← sizeOf f.type) : Sem (Nat × Nat))).run P w = .ok l.toArray w := by
     rw [← Array.toArray_toList (xs := fs), List.mapM_toArray]
     simp only [Sem.run_map, qgu hl]
     rfl
    unfold Instr.build
    simp only [Sem.run_bind, zeroValue, typeInfo, program, Sem.run, hi, hz2, Sem.run_pure, Result.andThen_ok, run_underlying hu, hm, hb]
   ·cases hb
  ·cases hb
 unfold execOp
 simp only [hop, Sem.run_bind, Sem.run_pure]
 show ((Instr.build t (ps.map fun p => (p.1, a.eval p.2))).run P w).andThen _ = _
 rw [e1]
 rfl
end
theorem qch {w : World} {base : Nat} {e : TypeId} {size n c : Nat} {A : Option Addr} {xs : List Value} (h : w.ownsRow base e size (.slice A n c) n xs) (hn : 0 < n) : ∃ g, A = some ⟨g, 0, none⟩ := by
 obtain ⟨g, c', h1, _⟩ := qzm h hn
 injection h1 with h1 _ _
 exact ⟨g, h1⟩
theorem qxh (A : Option Addr) (n c : Nat) (l : List Ev) (hok : ∀ e ∈ l, e.Ok) (B : Nat) (w : World) (hL : Laid B w) (hB : B ≤ w.heap.size) (hr : Rd w w.heap.size 11 A n (l.flatMap evL)) (hn : n ≤ 140737488355328) {i : Int} {er : Nat} (h : rowR l = (i, er)) :
  Calls Tryz.prog 66 #[.slice A n c] w fun r w' => r = .returned (.tuple #[.int .i64 i, .int .i64 (er : Int)]) ∧ Below w.heap.size w w' :=
 (qf3 A n c l hok B w hL hB hr hn).mono fun _ _ p => ⟨by rw [p.ret, h], p.below⟩
theorem qya (b : Bs) (e : Ev) (he : e.Ok) (B : Nat) (w : World) (hL : Laid B w) (hB : B ≤ w.heap.size) {L er : Nat} (h1 : (qaf b e).length = L) (h2 : zb b e = er) :
  Calls Tryz.prog 70 #[.agg b.cells, .agg e.cells] w fun r w' => r = .returned (.tuple #[.int .i64 (L : Int), .int .i64 (er : Int)]) ∧ Below w.heap.size w w' :=
 (qvj b e he B w hL hB).mono fun _ _ p => ⟨by rw [p.1, h1, h2], p.2⟩
theorem qyb (b : Bs) (cpu : Nat) (hcpu : cpu < 256) (A : Option Addr) (n c : Nat) (m : Int) (hm : I64 m) (l : List Nat) (B : Nat) (w : World) (hL : Laid B w) (hB : B ≤ w.heap.size) (hr : Rd w w.heap.size 1 A n (l.map B8)) (hc : n ≤ c) (hl : ∀ b ∈ l, b < 256) (hn : n ≤ 200000000000000) (hlim : qsg m l) {es : List Ev} {L er : Nat} (h : readR b cpu m l = (es, L, er)) :
  Calls Tryz.prog 95 #[.agg b.cells, .int .u8 (cpu : Int), .int .i64 m, .slice A n c] w fun r w' => (∃ A c, r = .returned (.tuple #[.slice A es.length c, .int .i64 (L : Int), .int .i64 (er : Int)]) ∧ w'.ownsRow w.heap.size 41 11 (.slice A es.length c) es.length (es.flatMap evL) ∧ es.length ≤ c) ∧ Below w.heap.size w w' :=
 (qsh b cpu hcpu A n c m hm l B w hL hB hr hc hl hn hlim).mono fun r w' p => by
  rw [h] at p
  obtain ⟨⟨v, rfl, ho⟩, hb⟩ := p
  obtain ⟨A, c, rfl, hc⟩ := qbh ho
  exact ⟨⟨A, c, rfl, ho, hc⟩, hb⟩
section
variable {P : Program} {S : World → Prop} {σ : List (Nat × Value)} {o : Oper} {v : Value}
def qgb (P : Program) (t : TypeId) : Bool := match P.underlying t with
 | some (.func _ _ _) => true
 | _ => false
theorem qqo {t : TypeId} {f : Fn} {xs ys : Array Value} (ht : qgb P t = true) (w : World) : (Op.equal t (.func f xs ys) .nilFunc).run P w = .ok false w := by
 unfold qgb at ht
 split at ht
 ·rename_i hu
  show (Op.equalIn (9999 + 1) t (.func f xs ys) .nilFunc).run P w = _
  unfold Op.equalIn
  simp only [Sem.run_bind, run_underlying hu, Result.andThen_ok]
  rfl
 ·cases ht
theorem qss {t : TypeId} (ht : qgb P t = true) (w : World) : (Op.equal t .nilFunc .nilFunc).run P w = .ok true w := by
 unfold qgb at ht
 split at ht
 ·rename_i hu
  show (Op.equalIn (9999 + 1) t .nilFunc .nilFunc).run P w = _
  unfold Op.equalIn
  simp only [Sem.run_bind, run_underlying hu, Result.andThen_ok]
  rfl
 ·cases ht
theorem Yl.qu9 {t u : TypeId} {x y : Operand} {f : Fn} {xs ys : Array Value} (hop : o.op = .binOp .neq t x y u) (hx : look σ x = some (.func f xs ys)) (hy : look σ y = some .nilFunc) (ht : qgb P t = true) : Yl P S σ o (.bool true) := fun a n D HF w hS => by
 unfold execOp
 have e : (binOp .neq t (.func f xs ys) .nilFunc).run P w = .ok (.bool true) w := by
  show ((do Pure.pure (.bool (!(← Op.equal t (.func f xs ys) .nilFunc))) : Sem Value)).run P w = _
  simp [qqo ht]
 simp only [hop, HF.eval hx, HF.eval hy, Sem.run_bind, qaz (P := P) .neq t x y (a := .func f xs ys) rfl, Result.andThen_ok, e, Sem.run_pure]
theorem Yl.q0a {t u : TypeId} {x y : Operand} (hop : o.op = .binOp .neq t x y u) (hx : look σ x = some .nilFunc) (hy : look σ y = some .nilFunc) (ht : qgb P t = true) : Yl P S σ o (.bool false) := fun a n D HF w hS => by
 unfold execOp
 have e : (binOp .neq t .nilFunc .nilFunc).run P w = .ok (.bool false) w := by
  show ((do Pure.pure (.bool (!(← Op.equal t .nilFunc .nilFunc))) : Sem Value)).run P w = _
  simp [qss ht]
 simp only [hop, HF.eval hx, HF.eval hy, Sem.run_bind, qaz (P := P) .neq t x y (a := .nilFunc) rfl, Result.andThen_ok, e, Sem.run_pure]
theorem Yl.q0b {t : TypeId} {x : Operand} {m : Nat} (hop : o.op = .unOp .xor t x) (hx : look σ x = some (.int .u32 (m : Int))) (hm : m < 4294967296) : Yl P S σ o (.int .u32 ((m ^^^ 4294967295 : Nat) : Int)) := fun a n D HF w hS => by
 have h1 := qho (m := 4294967295) (n := m) (by decide) hm
 rw [Nat.xor_comm] at h1
 unfold execOp
 simp only [hop, HF.eval hx, Op.unary]
 rw [← h1]
 rfl
def qst (P : Program) (t : TypeId) : Option (Nat × Nat) := match P.underlying t with
 | some (.array n e) => (P.info? e).map fun i => (n, i.size)
 | _ => none
theorem Yl.qep {t : TypeId} {x ix : Operand} {ad : Addr} {m y sz : Nat} {k : IntKind} (hop : o.op = .indexAddr t x ix) (hx : look σ x = some (.pointer (some ad))) (hi : look σ ix = some (.int k (y : Int))) (he : qst P t = some (m, sz)) (hy : y < m) : Yl P S σ o (.pointer (some (ad.add (y * sz)))) := fun a n D HF w hS => by
 unfold qst at he
 split at he
 ·rename_i m' e hu
  obtain ⟨i, hi', he⟩ := Option.map_eq_some_iff.1 he
  injection he with h1 h2
  subst h1; subst h2
  unfold execOp
  simp [hop, HF.eval hx, HF.eval hi, Instr.indexAt, asIntOf, run_underlying hu, hy, sizeOf, typeInfo, hi', Instr.sureAddr]
 ·cases he
theorem Yl.qno {t e : TypeId} {z : Value} {size bytes : Nat} (ei : EI P t e z size bytes) {x lo hi : Operand} {A : Option Addr} {m c i j : Nat} {k k' : IntKind} (hop : o.op = .slice t x (some lo) (some hi) none) (hx : look σ x = some (.slice A m c)) (hl : look σ lo = some (.int k (i : Int))) (hh : look σ hi = some (.int k' (j : Int))) (hij : i ≤ j) (hj : j ≤ c) :
  Yl P S σ o (.slice (if c = i then A else A.map (·.add (i * size))) (j - i) (c - i)) := fun a n D HF w hS => by
 obtain ⟨inf, hinf, _, hs, _⟩ := info_parts ei.hi
 have hi' : i ≤ c := Nat.le_trans hij hj
 have e1 : (Instr.sliceAt t (.slice A m c) (some (.int k (i : Int))) (some (.int k' (j : Int))) none).run P w = .ok (.slice (if c = i then A else A.map (·.add (i * size))) (j - i) (c - i)) w := by
  subst hs
  simp [Instr.sliceAt, run_underlying ei.ht, Instr.slice, Instr.sliceBounds, Instr.sliceBound, asIntOf, hij, hj, sizeOf, typeInfo, hinf]
 unfold execOp
 simp only [hop, HF.eval hx, HF.eval hl, HF.eval hh, Option.map_some, Option.map_none, Sem.run_bind, e1, Result.andThen_ok]
 rfl
def qxi (P : Program) (t : TypeId) : Option Nat := match P.underlying t with
 | some (.array n _) => some n
 | _ => none
theorem Yl.arrayAt {t : TypeId} {x : Operand} {A : Option Addr} {m c k : Nat} (hop : o.op = .sliceToArrayPointer t x) (hx : look σ x = some (.slice A m c)) (ht : qxi P t = some k) (hk : k ≤ m) : Yl P S σ o (.pointer A) := fun a n D HF w hS => by
 unfold qxi at ht
 split at ht
 ·rename_i m' e hu
  injection ht with ht; subst ht
  unfold execOp
  simp [hop, HF.eval hx, Instr.arrayAt, run_underlying hu, Nat.not_lt.2 hk]
 ·cases ht
end
theorem Rd.mid {w : World} {B size n c i j : Nat} {A : Option Addr} {xs : List Value} (h : Rd w B size A n xs) (hij : i ≤ j) (hj : j ≤ n) (hc : n ≤ c) :
  Rd w B size (if c = i then A else A.map (·.add (i * size))) (j - i) ((xs.take (j * size)).drop (i * size)) := by
 have h1 := h.from (k := i) (cap := c) (by omega) hc
 have h2 := h1.upto (k := j - i) (by omega)
 rw [List.drop_take, ← Nat.sub_mul]
 exact h2
theorem Rd.qnp {w : World} {B n c i j : Nat} {A : Option Addr} {l : List Nat} (h : Rd w B 1 A n (l.map B8)) (hij : i ≤ j) (hj : j ≤ n) (hc : n ≤ c) :
  Rd w B 1 (if c = i then A else A.map (·.add (i * 1))) (j - i) (((l.take j).drop i).map B8) := by
 have h1 := h.mid hij hj hc
 rw [Nat.mul_one, Nat.mul_one, ← List.map_take, ← List.map_drop] at h1
 rw [Nat.mul_one]
 exact h1
section
variable {W w : World} {fs : List Fact}
theorem Mem.oldBlk (h : Mem W w fs) {g : Nat} {ob : Obj} (hb : W.heap[g]? = some ob) : w.heap[g]? = some ob := (h.below.block g (qae hb)).trans hb
theorem Mem.zn (h : Mem W w fs) {g off : Nat} {cs : Array Value} {t : TypeId} {v : Value} (hb : W.heap[g]? = some (.cells cs t (0, 0))) (hc : cs[off]? = some v) : w.cell? ⟨g, off, none⟩ = some v := by
 simp [World.cell?, h.oldBlk hb, hc]
end
section
variable {P : Program} {Q : Exit → Act → World → Prop} {a : Act} {W w : World} {n d : Nat} {D : List Deferred} {σ : List (Nat × Value)} {o : Oper} {K : Act → World → Prop} {fs : List Fact} {S : World → Prop}
theorem Yl.cap {x : Operand} {t : TypeId} {A : Option Addr} {m c : Nat} (hop : o.op = .call { callee := .builtin .cap, args := #[x], argTypes := #[t] }) (hx : look σ x = some (.slice A m c)) (ht : isSl P t = true) : Yl P S σ o (.int .i64 (c : Int)) := fun a n D HF w hS => by
 unfold isSl at ht
 split at ht
 ·rename_i e hu
  unfold execOp
  simp [hop, resolve, invoke, builtin, HF.eval hx, Builtin.cap_, run_underlying hu, goInt]
 ·cases ht
theorem qkq (HF : Fr a n D σ) (HM : Mem W w fs) {s x : Operand} {t tn e : TypeId} {z : Value} {size bytes m : Nat} {kn k : IntKind} (hop : o.op = .call { callee := .builtin .append, args := #[s, x], argTypes := #[t, tn] }) (ei : EI P t e z size bytes) (htn : P.underlying tn = some (.int kn))
  (hs : look σ s = some (.slice none 0 0)) (hx : look σ x = some (.int k (m : Int))) (h0 : 0 < m) (h63 : m ≤ 4611686018427387904) (hb : m * bytes ≤ 281474976710656)
  (hd : o.dst = some d) (hdn : d < n) (kk : ∀ a' w' g c', Fr a' n D ((d, .slice (some ⟨g, 0, none⟩) m c') :: σ) → Mem W w' (.row (.slice (some ⟨g, 0, none⟩) m c') m (Builtin.zeroCells z.cells m).toList e size :: fs) → m ≤ c' → K a' w') : o.wp P a w K Q := by
 obtain ⟨i, hi, hz, hsz, hby⟩ := info_parts ei.hi
 have hr := Lib.run_append_nil_zeros (P := P) w t tn o.type e i z k kn ei.ht htn hi hz m h0 (by rw [hsz]; exact ei.hs) (by omega) (by rw [hby]; exact hb)
 have h1 : m ≤ grownCap w m 0 e := grownCap_ge w m 0 e
 have h2 : grownCap w m 0 e ≤ maxLen := grownCap_le_maxLen w m 0 e (by unfold maxLen; omega)
 have hzl : (Builtin.zeroCells z.cells m).size = m * size := by rw [size_zeroCells, ei.hz]
 have hown : (w.drew.alloc (.cells (Builtin.zeroCells z.cells m ++ Builtin.zeroCells z.cells (grownCap w m 0 e - m)) e)).ownsRow w.heap.size e size (.slice (some ⟨w.heap.size, 0, none⟩) m (grownCap w m 0 e)) m (Builtin.zeroCells z.cells m).toList := by
  refine ⟨by simpa using hzl, .inr ⟨w.heap.size, _, _, rfl, Nat.le_refl _, World.alloc_heap_new w.drew _, h1, h2, ?_, ?_⟩⟩
  ·rw [Array.size_append, hzl, size_zeroCells, ei.hz, ← Nat.add_mul]
   congr 1
   omega
  ·rw [Array.toList_append, ← hzl, ← Array.length_toList]
   exact List.take_left
 unfold Oper.wp execOp
 simp only [hop, resolve, invoke, builtin, Sem.run_bind, Sem.run_pure, Result.andThen_ok, List.map_toArray, List.map_cons, List.map_nil, HF.eval hs, HF.eval hx, hr]
 rw [Oper.upon_value, hd]
 exact kk _ _ w.heap.size _ (HF.put hdn _) (HM.callRow ((Below.refl _ _).drew.alloc (by simp) _) hown) h1
theorem Mem.shrink (h : Mem W w fs) {i m k c size : Nat} {A : Option Addr} {e : TypeId} {xs : List Value} (hi : fs[i]? = some (.row (.slice A m c) m xs e size)) (hk : k ≤ m) (hA : A = none → k = 0 ∧ c = 0) : Mem W w (fs.set i (.row (.slice A k c) k (xs.take (k * size)) e size)) := by
 have ho := h.own hi
 refine h.turn hi h.below (fun _ _ _ => rfl) ?_ (fun g' hg' => .inl (by cases A <;> exact hg'))
 refine ⟨by rw [List.length_take, ho.1]; exact Nat.min_eq_left (Nat.mul_le_mul_right _ hk), ?_⟩
 rcases ho.2 with ⟨h1, h2⟩ | ⟨g, cap, cur, h1, h2, h3, h4, h5, h6, h7⟩
 ·injection h1 with h1 _ _
  obtain ⟨rfl, rfl⟩ := hA h1
  subst h1
  exact .inl ⟨rfl, rfl⟩
 ·injection h1 with h1 _ h8
  subst h1; subst h8
  refine .inr ⟨g, c, cur, rfl, h2, h3, by omega, h5, h6, ?_⟩
  rw [← h7, List.take_take, Nat.min_eq_left (Nat.mul_le_mul_right _ hk)]
end
theorem qxj {m n j : Nat} (hm : m < 2 ^ j) : m ||| n * 2 ^ j = m + n * 2 ^ j := by
 have := Nat.two_pow_add_eq_or_of_lt hm n
 rw [Nat.or_comm, Nat.mul_comm n, ← this, Nat.add_comm]
theorem qkr {m n j p : Nat} (hp : 2 ^ j = p) (hm : m < p) (hb : m + n * p < 4294967296) : Value.int .u32 (Go.IntKind.u32.wrap (BitVec.ofInt Go.IntKind.u32.bits (m : Int) ||| BitVec.ofInt Go.IntKind.u32.bits ((n * p : Nat) : Int)).toNat) = .int .u32 ((m + n * p : Nat) : Int) := by
 subst hp
 have h := qzp (m := m) (n := n * 2 ^ j) (by omega) (by omega)
 rw [qxj hm] at h
 exact h
theorem qvq {m n j p : Nat} (hp : 2 ^ j = p) (hm : n < p) (hb : m * p + n < 9223372036854775808) : Value.int .i64 (Go.IntKind.i64.wrap (BitVec.ofInt Go.IntKind.i64.bits ((m * p : Nat) : Int) ||| BitVec.ofInt Go.IntKind.i64.bits (n : Int)).toNat) = .int .i64 ((m * p + n : Nat) : Int) := by
 subst hp
 have h := qzq (m := m * 2 ^ j) (n := n) (by omega) (by omega)
 rw [Nat.or_comm, qxj hm, Nat.add_comm] at h
 exact h
structure Part where
 A : Option Addr
 c : Nat
 l : List Nat
def Part.val (p : Part) : Value := .slice p.A p.l.length p.c
theorem qc8 {l : List Part} {k : Nat} {d : Part} (h : k < l.length) : (l.take (k + 1)).flatMap (·.l) = (l.take k).flatMap (·.l) ++ (l.getD k d).l := by
 rw [List.take_add_one, getD_at d h]; simp
theorem qfg {l : List Part} (k : Nat) : ((l.take k).flatMap (·.l)).length ≤ (l.flatMap (·.l)).length := by
 conv => rhs; rw [← List.take_append_drop k l]
 rw [List.flatMap_append, List.length_append]
 omega
set_option linter.all false
def qth (P : Program) (t : TypeId) : Bool := match P.underlying t with
 | some (.array n e) => n == 2 && (P.cellsOf e == 1 && (isOne P e && match P.underlying e with
  | some (.int _) => true
  | _ => false))
 | _ => false
theorem qwg {P : Program} {t : TypeId} (ht : qth P t = true) {k : Go.IntKind} (a b c d : Int) (w : World) :
  (Op.equal t (.agg #[.int k a, .int k b]) (.agg #[.int k c, .int k d])).run P w = .ok (a == c && b == d) w := by
 unfold qth at ht
 split at ht
 ·rename_i n e hu
  simp only [Bool.and_eq_true, beq_iff_eq] at ht
  obtain ⟨h1, h2, h3, h4⟩ := ht
  subst h1
  split at h4
  ·rename_i k' hk
   obtain ⟨i, hi⟩ := info_of_underlying hk
   show (Op.equalIn (9999 + 1) t _ _).run P w = _
   rw [run_equalIn_array w 9999 _ _ hu hi, h2]
   have hp : ∀ (xs : Array Value) (j : Nat) (v : Value), xs[j]? = some v → (part e xs j).run P w = .ok v w := fun xs j v h => by
    unfold part
    simp [qfd h3, h]
   have he : ∀ x y, (Op.equalIn 9999 e (.int k x) (.int k y)).run P w = .ok (x == y) w := fun x y => run_equalIn_int w 9998 e k k' x y hk
   show (Op.eqItems 9999 e 1 _ _ [0, 1]).run P w = _
   have p1 : (part e #[.int k a, .int k b] 0).run P w = .ok (.int k a) w := hp _ _ _ rfl
   have p2 : (part e #[.int k c, .int k d] 0).run P w = .ok (.int k c) w := hp _ _ _ rfl
   have p3 : (part e #[.int k a, .int k b] 1).run P w = .ok (.int k b) w := hp _ _ _ rfl
   have p4 : (part e #[.int k c, .int k d] 1).run P w = .ok (.int k d) w := hp _ _ _ rfl
   have q1 := he a c
   have q2 := he b d
   generalize (9999 : Nat) = dd at q1 q2 ⊢
   simp only [Op.eqItems, Sem.run_bind, Nat.zero_mul, Nat.one_mul, p1, p2, q1, Result.andThen_ok]
   cases h5 : (a == c) <;> cases h6 : (b == d) <;> simp [p3, p4, q2, h6]
  ·cases h4
 ·cases ht
section
variable {P : Program} {S : World → Prop} {σ : List (Nat × Value)} {o : Oper}
theorem qmb {t : TypeId} (hg : P.eqGuardType P.depth t = false) (op : BinOp) (x y : Operand) (a b : Array Value) (w : World) : (eqGuard op t x y (.agg a) (.agg b)).run P w = .ok () w := by
 unfold eqGuard
 cases op <;> simp <;> simp [hg]
theorem Yl.qy6 {t u : TypeId} {p q : Operand} {k : Go.IntKind} {a b c d : Int} (hop : o.op = .binOp .neq t p q u) (hx : look σ p = some (.agg #[.int k a, .int k b])) (hy : look σ q = some (.agg #[.int k c, .int k d])) (ht : qth P t = true) (hg : P.eqGuardType P.depth t = false) : Yl P S σ o (.bool (!(a == c && b == d))) := fun ac n D HF w hS => by
 unfold execOp
 have e : (binOp .neq t (.agg #[.int k a, .int k b]) (.agg #[.int k c, .int k d])).run P w = .ok (.bool (!(a == c && b == d))) w := by
  show ((do Pure.pure (.bool (!(← Op.equal t (.agg #[.int k a, .int k b]) (.agg #[.int k c, .int k d])))) : Sem Value)).run P w = _
  simp [qwg ht]
 simp only [hop, HF.eval hx, HF.eval hy, Sem.run_bind, qmb hg, Result.andThen_ok, e, Sem.run_pure]
end
theorem qzv {w : World} {B n g o k : Nat} {l : List Nat} (h : Rd w B 1 (some ⟨g, o, none⟩) n (l.map B8)) (hk : k + 2 ≤ l.length) : w.rangeAt g (o + k) (#[B8 (l.getD k 0), B8 (l.getD (k + 1) 0)] : Array Value).toList := fun j v hv => by
 have hr := h.range
 rw [Nat.add_assoc]
 refine hr (k + j) v ?_
 rcases j with _ | _ | j
 ·simp at hv
  rw [Nat.add_zero, ← hv]
  exact qai (getD_at 0 (by omega))
 ·simp at hv
  rw [← hv]
  exact qai (getD_at 0 (by omega))
 ·simp at hv
section
variable {P : Program} {S : World → Prop} {σ : List (Nat × Value)} {o : Oper}
theorem Yl.shrN {t u : TypeId} {x y : Operand} {k k' : Go.IntKind} {m n : Nat} (hop : o.op = .binOp .shr t x y u) (hx : look σ x = some (.int k (m : Int))) (hy : look σ y = some (.int k' (n : Int))) (hn : n ≤ k.bits) : Yl P S σ o (.int k ((m / 2 ^ n : Nat) : Int)) := fun a N D HF w hS => by
 have hb : qlr .shr (.int k (m : Int)) (.int k' (n : Int)) = some (.int k ((m / 2 ^ n : Nat) : Int)) := by
  show (if (n : Int) < 0 then none else some (Value.int k (Int.fdiv (m : Int) (2 ^ (Min.min (n : Int).toNat k.bits))))) = _
  rw [if_neg (by omega)]
  exact congrArg some (qdm k m (j := n) rfl (by rw [Int.toNat_natCast, Nat.min_eq_left hn]))
 unfold execOp
 simp [hop, HF.eval hx, HF.eval hy, qaz (P := P) .shr t x y (a := .int k (m : Int)) rfl, qed hb t]
theorem Yl.shlN {t u : TypeId} {x y : Operand} {k k' : Go.IntKind} {m n : Nat} (hop : o.op = .binOp .shl t x y u) (hx : look σ x = some (.int k (m : Int))) (hy : look σ y = some (.int k' (n : Int))) (hn : n ≤ k.bits) (hm : m * 2 ^ n ≤ mostN k) : Yl P S σ o (.int k ((m * 2 ^ n : Nat) : Int)) := fun a N D HF w hS => by
 have hb : qlr .shl (.int k (m : Int)) (.int k' (n : Int)) = some (.int k ((m * 2 ^ n : Nat) : Int)) := by
  show (if (n : Int) < 0 then none else some (Value.int k (k.wrap ((m : Int) * 2 ^ (Min.min (n : Int).toNat k.bits))))) = _
  rw [if_neg (by omega)]
  have e : (m : Int) * 2 ^ (Min.min (n : Int).toNat k.bits) = ((m * 2 ^ n : Nat) : Int) := by rw [Int.toNat_natCast, Nat.min_eq_left hn]; norm_cast
  rw [e, qcg k hm]
 unfold execOp
 simp [hop, HF.eval hx, HF.eval hy, qaz (P := P) .shl t x y (a := .int k (m : Int)) rfl, qed hb t]
end
section
variable {P : Program} {S : World → Prop} {σ : List (Nat × Value)} {o : Oper} {v : Value}
def quc (P : Program) (t : TypeId) : Bool := match P.underlying t with
 | some (.pointer _) => true
 | _ => false
theorem qud {t : TypeId} {a : Option Addr} (ht : quc P t = true) (w : World) : (Op.equal t (.pointer a) (.pointer none)).run P w = .ok a.isNone w := by
 unfold quc at ht
 split at ht
 ·rename_i hu
  show (Op.equalIn (9999 + 1) t (.pointer a) (.pointer none)).run P w = _
  unfold Op.equalIn
  cases a <;> simp only [Sem.run_bind, run_underlying hu, Result.andThen_ok] <;> rfl
 ·cases ht
theorem qwu {t : TypeId} {a : Option Addr} {m c m' c' : Nat} (ht : isSl P t = true) (w : World) : (Op.equal t (.slice a m c) (.slice none m' c')).run P w = .ok a.isNone w := by
 unfold isSl at ht
 split at ht
 ·rename_i hu
  show (Op.equalIn (9999 + 1) t (.slice a m c) (.slice none m' c')).run P w = _
  unfold Op.equalIn
  cases a <;> simp only [Sem.run_bind, run_underlying hu, Result.andThen_ok] <;> rfl
 ·cases ht
theorem Yl.qit {b : Bool} {t u : TypeId} {x y : Operand} {a : Option Addr} (hop : o.op = .binOp .eql t x y u) (hx : look σ x = some (.pointer a)) (hy : look σ y = some (.pointer none)) (hb : a.isNone = b := by rfl) (ht : quc P t = true := by kernel_rfl) : Yl P S σ o (.bool b) := fun _ n D HF w hS => by
 subst hb
 unfold execOp
 have e : (binOp .eql t (.pointer a) (.pointer none)).run P w = .ok (.bool a.isNone) w := by
  show ((do Pure.pure (.bool (← Op.equal t (.pointer a) (.pointer none))) : Sem Value)).run P w = _
  simp [qud ht]
 simp only [hop, HF.eval hx, HF.eval hy, Sem.run_bind, qaz (P := P) .eql t x y (a := .pointer a) rfl, Result.andThen_ok, e, Sem.run_pure]
theorem Yl.q0l {b : Bool} {t u : TypeId} {x y : Operand} {a : Option Addr} {m c m' c' : Nat} (hop : o.op = .binOp .eql t x y u) (hx : look σ x = some (.slice a m c)) (hy : look σ y = some (.slice none m' c')) (hb : a.isNone = b := by rfl) (ht : isSl P t = true := by kernel_rfl) : Yl P S σ o (.bool b) := fun _ n D HF w hS => by
 subst hb
 unfold execOp
 have e : (binOp .eql t (.slice a m c) (.slice none m' c')).run P w = .ok (.bool a.isNone) w := by
  show ((do Pure.pure (.bool (← Op.equal t (.slice a m c) (.slice none m' c'))) : Sem Value)).run P w = _
  simp [qwu ht]
 simp only [hop, HF.eval hx, HF.eval hy, Sem.run_bind, qaz (P := P) .eql t x y (a := .slice a m c) rfl, Result.andThen_ok, e, Sem.run_pure]
theorem Yl.nilCheck {x : Operand} {p : Addr} (hop : o.op = .nilCheck x) (hx : look σ x = some (.pointer (some p))) : Yl P S σ o (.pointer (some p)) := fun _ n D HF w hS => by
 unfold execOp
 simp only [hop, HF.eval hx]
 rfl
end
section
variable {P : Program} {S : World → Prop} {σ : List (Nat × Value)} {o : Oper} {b : Bool}
end
section
variable {P : Program} {S : World → Prop} {σ : List (Nat × Value)} {o : Oper}
end
section
variable {P : Program} {Q : Exit → Act → World → Prop} {W : World} {a : Act} {w : World} {n d : Nat} {D : List Deferred} {σ : List (Nat × Value)} {fs : List Fact} {o : Oper} {K : Act → World → Prop}
end
def SizeJ (w : World) (k : Nat) (W : World) : Prop := W.heap[w.heap.size]? = some (.cells #[.int .i64 (k : Int)] 3 (0, 0)) ∧ w.grownBy W none ∧ w.heap.size + 2 ≤ W.heap.size
def SizeA (w : World) (x k : Nat) (a' : Act) (_ : World) : Prop :=
 ∃ p, (grp 10 x)[k]? = some p ∧ a' = { tmps := #[.int .u64 (x : Int), undef, .int .i64 0, .pointer (some ⟨w.heap.size, 0, none⟩), .int .u64 (x : Int), .func (.func 110) #[] #[.pointer (some ⟨w.heap.size + 1, 0, none⟩)], .int .u8 (p.1 : Int), .bool p.2, undef, undef, undef], defers := [] }
theorem qwk {W : World} {g : Nat} {x y : Value} {t : TypeId} (h : W.heap[g]? = some (.cells #[x] t (0, 0))) : (W.setCell ⟨g, 0, none⟩ y).heap[g]? = some (.cells #[y] t (0, 0)) := by
 simp [World.setCell, Array.getElem?_modify, h]
set_option maxRecDepth 100000 in
set_option maxHeartbeats 400000 in
theorem qtp (x : Nat) (w : World) (hx : x < 18446744073709551616) :
  Calls Tryz.prog 71 #[.int .u64 (x : Int)] w fun e w' => e = .returned (.int .i64 ((vbytes x).length : Int)) ∧ Below w.heap.size w w' := by
 refine callsIn_wide.1 (callsIn_of_wp_marks (n := 0) Tryz.func71 rfl trivial ?_ rfl)
 simp only [Tryz.ntmps71, List.size_toArray, List.length_cons, List.length_nil, Nat.reduceAdd, Nat.reduceSub, Array.replicate_succ, Array.replicate_zero, List.push_toArray, List.append_toArray, List.nil_append, List.cons_append]
 gi_wp2_with (refine ⟨trivial, rfl, ?_⟩; refine (callsIn_wide.2 (qi4 x _)).mono ?_; rintro e w' ⟨rfl, rfl⟩)
 obtain ⟨W0, hW0⟩ : ∃ W0, W0 = (w.alloc (.cells #[.int .i64 0] 3)).alloc (.cells #[.int .u64 (x : Int)] 39) := ⟨_, rfl⟩
 have hsz : W0.heap.size = w.heap.size + 2 := by rw [hW0]; simp
 have hlen := qc0 10 x
 have hbx : W0.heap[w.heap.size]? = some (.cells #[.int .i64 0] 3 (0, 0)) := by
  subst hW0
  exact (Below.heap_alloc _ _ _ (by simp)).trans (World.alloc_heap_new w _)
 have hgr : w.grownBy W0 none := by subst hW0; exact (World.grownBy_alloc w _ _).trans (World.grownBy_alloc _ _ _)
 have hxc : W0.cell? ⟨w.heap.size + 1, 0, none⟩ = some (.int .u64 (x : Int)) := by subst hW0; have := World.cell?_alloc_new (w.alloc (.cells #[.int .i64 0] 3)) #[.int .u64 (x : Int)] 39 0; rw [World.size_alloc] at this; exact this
 have hxf : W0.frozen? ⟨w.heap.size + 1, 0, none⟩ = false := by subst hW0; have := World.frozen?_alloc_new (w.alloc (.cells #[.int .i64 0] 3)) #[.int .u64 (x : Int)] 39 0; rw [World.size_alloc] at this; exact this
 rw [← hW0]
 clear hW0
 refine qkc rfl (enters_of Tryz.func110 (by kernel_rfl) rfl) (qgn (w.heap.size + 1) x W0 hx hxc hxf) (by intro y hy; obtain ⟨p, _, rfl⟩ := List.mem_map.1 hy; rfl) (by simp [hsz])
  (fun _ b => b = w.heap.size) (SizeJ w) (fun _ _ _ => False) ?hJ ?hJx ?hJ0 ?hJx0 ?hTd ?hN ?h0 (SizeA w x) ?hA ?hassign ?hbody ?hdone ?hstop
 case hJ =>
  rintro k W W' ⟨hb, hg, hs⟩ hk
  have h1 : w.heap.size ∉ [w.heap.size + 1] := by simp
  exact ⟨⟨hk.obj _ _ hb rfl h1, Keep.grown hg hk (by omega) (by simp), Nat.le_trans hs hk.size⟩, fun b h => h⟩
 case hJx => exact fun _ _ _ _ h _ => h.elim
 case hJ0 => rintro k W ⟨_, _, hs⟩; omega
 case hJx0 => exact fun _ _ _ h => h.elim
 case hTd => rintro k W b ⟨hb, _⟩ rfl; exact ⟨_, hb, rfl⟩
 case hN => rintro b rfl ht; omega
 case h0 => exact ⟨hbx, hgr, by omega⟩
 case hA => exact fun _ _ _ _ h _ => h
 case hassign =>
  rintro l k hk W _
  simp only [List.getElem_map, encG]
  have hp : (grp 10 x)[k]? = some ((grp 10 x)[k]'(by simpa using hk)) := List.getElem?_eq_getElem _
  generalize (grp 10 x)[k]'(by simpa using hk) = p at hp
  gi_wp2
  exact ⟨Chg.refl _ _, p, hp, by simp⟩
 case hbody =>
  rintro l k a' W hk hl hr ⟨p, hp, rfl⟩ ⟨hb, hg, hs⟩
  have hc : W.cell? ⟨w.heap.size, 0, none⟩ = some (.int .i64 (k : Int)) := by simp [World.cell?, hb]
  have hf : W.frozen? ⟨w.heap.size, 0, none⟩ = false := by simp [World.frozen?, hb]
  have hkl : k < (grp 10 x).length := by simpa using hk
  have hki : (k : Int) ≤ 10 := by omega
  have HB := hide hb
  have HG := hide hg
  clear hp hr hb hg hbx hgr
  gi_wp2
  rw [Oper.semAt_eq _ _ _ (by intro c h; cases h)]
  have e1 : ∀ (ρ : Operand → Value) (o : Oper), o.op = .load 3 (.tmp 3) → ρ (.tmp 3) = .pointer (some ⟨w.heap.size, 0, none⟩) → (execOp ρ o).run Tryz.prog W = .ok (.value (.int .i64 (k : Int))) W := fun ρ o h1 h2 => by
   have hone : (isAgg 3).run Tryz.prog W = .ok false W := by kernel_rfl
   unfold execOp
   simp [h1, h2, Instr.loadAt, Instr.sureAddr, loadVar, hone, load, Sem.run, hc]
  rw [e1 _ _ rfl rfl, Oper.uponIn_value]
  gi_wp2
  rw [Oper.semAt_eq _ _ _ (by intro c h; cases h)]
  have e2 : ∀ (ρ : Operand → Value) (o : Oper), o.op = .binOp .add 3 (.tmp 8) (.const (.int .i64 1)) 3 → ρ (.tmp 8) = .int .i64 (k : Int) → ρ (.const (.int .i64 1)) = .int .i64 1 → (execOp ρ o).run Tryz.prog W = .ok (.value (.int .i64 ((k : Int) + 1))) W := fun ρ o h1 h2 h3 => by
   unfold execOp
   have e : IntKind.i64.wrap ((k : Int) + 1) = (k : Int) + 1 := IntWalk.i64_in _ (by omega)
   have eb : (binOp .add 3 (.int .i64 (k : Int)) (.int .i64 1)).run Tryz.prog W = .ok (.int .i64 ((k : Int) + 1)) W := by rw [qed (P := Tryz.prog) (v := .int .i64 (IntKind.i64.wrap ((k : Int) + 1))) rfl 3 W, e]
   simp only [h1, h2, h3, Sem.run_bind, qaz (P := Tryz.prog) .add 3 (.tmp 8) (.const (.int .i64 1)) (a := .int .i64 (k : Int)) rfl, Result.andThen_ok, eb, Sem.run_pure]
  rw [e2 _ _ rfl rfl rfl, Oper.uponIn_value]
  gi_wp2
  rw [Oper.semAt_eq _ _ _ (by intro c h; cases h)]
  have e3 : ∀ (ρ : Operand → Value) (o : Oper), o.op = .store 3 (.tmp 3) (.tmp 9) → ρ (.tmp 3) = .pointer (some ⟨w.heap.size, 0, none⟩) → ρ (.tmp 9) = .int .i64 ((k : Int) + 1) → (execOp ρ o).run Tryz.prog W = .ok .skip (W.setCell ⟨w.heap.size, 0, none⟩ (.int .i64 ((k : Int) + 1))) := fun ρ o h1 h2 h3 => by
   unfold execOp
   simp only [h1, h2, h3, Sem.run_bind, qdk (P := Tryz.prog) (t := 3) (v := .int .i64 ((k : Int) + 1)) (by kernel_rfl) rfl hc hf, Result.andThen_ok, Sem.run_pure]
  rw [e3 _ _ rfl rfl rfl, Oper.uponIn_skip]
  gi_wp2
  have hst : ChgT (fun _ b => b = w.heap.size) W (W.setCell ⟨w.heap.size, 0, none⟩ (.int .i64 ((k : Int) + 1))) :=
   ⟨rfl, rfl, rfl, by simp [World.setCell], fun b _ hT => Below.heap_setCell _ _ _ _ hT, fun b h => .inl h⟩
  refine ⟨hst, ?_, ?_, by have := hst.size; omega⟩
  ·exact qwk HB.out
  ·exact hst.grown HG.out (fun b hb1 hb2 => by omega)
 case hdone =>
  rintro D W hD ⟨hb, hg, hs⟩ hK
  have HG := hide hg
  have hc : W.cell? ⟨w.heap.size, 0, none⟩ = some (.int .i64 (((grp 10 x).map encG).length : Int)) := by simp [World.cell?, hb]
  have hkp : Keep W0.heap.size [] W (W.putObj D (.deferred none)) := Keep.putObj W _ hK rfl hD
  clear hb hg hbx hgr
  gi_wp2
  refine ⟨by simp, .inl ⟨_, _, rfl, run_takeDeferred hK, ?_⟩⟩
  refine ⟨_, results_tmp rfl _ _ _, ?_, ?_⟩
  ·simp [vbytes]
  ·exact (Below.refl _ _).grown (Keep.grown HG.out hkp (by omega) (by simp)) (Nat.le_refl _) (fun _ h => by cases h)
 case hstop => exact fun _ _ _ _ _ _ _ h _ => h.elim
def intAt (xs : Array Value) (i : Nat) : Int := match xs[i]? with
 | some (.int _ n) => n
 | _ => 0
def qks (P : Program) (f : Field) (i : Nat) : Bool := f.name != "_" && (f.offset == i && (isOne P f.type && match P.underlying f.type with
 | some (.int _) => true
 | _ => false))
theorem qfh {P : Program} (d : Nat) (xs ys : Array Value) : ∀ (fs : List Field) (i : Nat) (w : World), (∀ j, j < fs.length → ∃ f k a b, fs[j]? = some f ∧ qks P f (i + j) = true ∧ xs[i + j]? = some (.int k a) ∧ ys[i + j]? = some (.int k b)) →
  (Op.eqFields (d + 1) xs ys fs).run P w = .ok ((List.range fs.length).all fun j => intAt xs (i + j) == intAt ys (i + j)) w
 | [], i, w, _ => rfl
 | f :: fs, i, w, h => by
  obtain ⟨f', k, a, b, hf, hb, hx, hy⟩ := h 0 (by simp)
  simp only [List.getElem?_cons_zero, Option.some.injEq] at hf
  subst hf
  simp only [qks, Bool.and_eq_true, bne_iff_ne, beq_iff_eq, Nat.add_zero] at hb
  obtain ⟨h1, h2, h3, h4⟩ := hb
  rw [Nat.add_zero] at hx hy
  have ih := qfh d xs ys fs (i + 1) w (fun j hj => by
   obtain ⟨f, k, a, b, hf, hb, hx, hy⟩ := h (j + 1) (by simpa using hj)
   refine ⟨f, k, a, b, by simpa using hf, ?_, ?_, ?_⟩
   ·rw [show i + 1 + j = i + (j + 1) by omega]; exact hb
   ·rw [show i + 1 + j = i + (j + 1) by omega]; exact hx
   ·rw [show i + 1 + j = i + (j + 1) by omega]; exact hy)
  have hu : ∃ k', P.underlying f.type = some (.int k') := by
   split at h4
   ·rename_i k' hk; exact ⟨k', hk⟩
   ·cases h4
  obtain ⟨k', hu⟩ := hu
  have hxi : intAt xs i = a := by simp [intAt, hx]
  have hyi : intAt ys i = b := by simp [intAt, hy]
  have e : (List.range (f :: fs).length).all (fun j => intAt xs (i + j) == intAt ys (i + j)) = ((a == b) && (List.range fs.length).all fun j => intAt xs (i + 1 + j) == intAt ys (i + 1 + j)) := by
   rw [List.length_cons, List.range_succ_eq_map, List.all_cons, Nat.add_zero, hxi, hyi, List.all_map]
   congr 2
   funext j
   simp only [Function.comp_apply, Nat.succ_eq_add_one]
   rw [show i + (j + 1) = i + 1 + j by omega]
  rw [e]
  unfold Op.eqFields
  rw [if_pos h1]
  simp only [Sem.run_bind, part, qfd h3, Result.andThen_ok, Bool.false_eq_true, if_false, h2, hx, hy, Sem.run_pure, run_equalIn_int w d f.type k k' a b hu]
  cases hab : (a == b)
  ·simp
  ·simp [ih]
def qfi (P : Program) (t : TypeId) : Bool := !P.stoodInHeld t && (!P.eqGuardType P.depth t && ((P.fieldsOf t).size == 11 && ((List.range 11).all fun i => match (P.fieldsOf t).toList[i]? with
 | some f => qks P f i
 | none => false)))
theorem qn0 {P : Program} {t : TypeId} (h : (P.fieldsOf t).size = 11) : P.underlying t = some (.struct (P.fieldsOf t)) := by
 unfold Program.fieldsOf at h ⊢
 split at h
 ·rename_i fs hu; rw [hu]
 ·cases h
theorem qsu (e : Ev) : ∀ i, i < 11 → ∃ k, e.cells[i]? = some (.int k (intAt e.cells i)) ∧ ∀ e' : Ev, e'.cells[i]? = some (.int k (intAt e'.cells i)) := by
 intro i hi
 have h : i = 0 ∨ i = 1 ∨ i = 2 ∨ i = 3 ∨ i = 4 ∨ i = 5 ∨ i = 6 ∨ i = 7 ∨ i = 8 ∨ i = 9 ∨ i = 10 := by omega
 rcases h with rfl | rfl | rfl | rfl | rfl | rfl | rfl | rfl | rfl | rfl | rfl <;> exact ⟨_, rfl, fun _ => rfl⟩
instance evDec : DecidableEq Ev := fun ⟨a0, a1, a2, a3, a4, a5, a6, a7, a8, a9, a10⟩ ⟨b0, b1, b2, b3, b4, b5, b6, b7, b8, b9, b10⟩ =>
 decidable_of_iff (a0 = b0 ∧ a1 = b1 ∧ a2 = b2 ∧ a3 = b3 ∧ a4 = b4 ∧ a5 = b5 ∧ a6 = b6 ∧ a7 = b7 ∧ a8 = b8 ∧ a9 = b9 ∧ a10 = b10) (by rw [Ev.mk.injEq])
theorem qzr (x y : Ev) : ((List.range 11).all fun j => intAt x.cells (0 + j) == intAt y.cells (0 + j)) = decide (x = y) := by
 rw [Bool.eq_iff_iff, decide_eq_true_eq]
 constructor
 ·intro h
  have g : ∀ j, j < 11 → intAt x.cells j = intAt y.cells j := fun j hj => by
   have := List.all_eq_true.1 h j (List.mem_range.2 hj)
   simpa using this
  obtain ⟨a0, a1, a2, a3, a4, a5, a6, a7, a8, a9, a10⟩ := x
  obtain ⟨b0, b1, b2, b3, b4, b5, b6, b7, b8, b9, b10⟩ := y
  have g0 : a0 = b0 := g 0 (by decide)
  have g1 : a1 = b1 := g 1 (by decide)
  have g2 : (a2 : Int) = b2 := g 2 (by decide)
  have g3 : (a3 : Int) = b3 := g 3 (by decide)
  have g4 : a4 = b4 := g 4 (by decide)
  have g5 : a5 = b5 := g 5 (by decide)
  have g6 : a6 = b6 := g 6 (by decide)
  have g7 : a7 = b7 := g 7 (by decide)
  have g8 : a8 = b8 := g 8 (by decide)
  have g9 : (a9 : Int) = b9 := g 9 (by decide)
  have g10 : a10 = b10 := g 10 (by decide)
  have g2' : a2 = b2 := by omega
  have g3' : a3 = b3 := by omega
  have g9' : a9 = b9 := by omega
  subst g0 g1 g2' g3' g4 g5 g6 g7 g8 g9' g10
  rfl
 ·rintro rfl
  simp
theorem qvr {P : Program} {t : TypeId} (ht : qfi P t = true) (x y : Ev) (w : World) : (Op.equal t (.agg x.cells) (.agg y.cells)).run P w = .ok (decide (x = y)) w := by
 simp only [qfi, Bool.and_eq_true, Bool.not_eq_true', beq_iff_eq] at ht
 obtain ⟨h1, _, h3, h4⟩ := ht
 unfold Op.equal
 rw [show Op.maxDepth = 9998 + 1 + 1 from rfl, run_equalIn_struct w 9999 t _ _ (qn0 h3) h1, qfh 9998 _ _ _ 0 w]
 ·rw [Array.length_toList, h3, qzr]
 ·intro j hj
  rw [Array.length_toList, h3] at hj
  have := List.all_eq_true.1 h4 j (List.mem_range.2 hj)
  split at this
  ·rename_i f hf
   obtain ⟨k, hk, hk'⟩ := qsu x j hj
   rw [Nat.zero_add]
   exact ⟨f, k, _, _, hf, this, hk, hk' y⟩
  ·cases this
theorem qqp {P : Program} {t : TypeId} (ht : qfi P t = true) (op : BinOp) (x y : Operand) (a b : Array Value) (w : World) : (eqGuard op t x y (.agg a) (.agg b)).run P w = .ok () w := by
 simp only [qfi, Bool.and_eq_true, Bool.not_eq_true', beq_iff_eq] at ht
 obtain ⟨_, h2, _⟩ := ht
 unfold eqGuard
 cases op <;> simp <;> simp [h2]
section
variable {P : Program} {S : World → Prop} {σ : List (Nat × Value)} {o : Oper}
theorem Yl.q0i {t u : TypeId} {p q : Operand} {x y : Ev} (hop : o.op = .binOp .neq t p q u) (hx : look σ p = some (.agg x.cells)) (hy : look σ q = some (.agg y.cells)) (ht : qfi P t = true) : Yl P S σ o (.bool (!decide (x = y))) := fun a n D HF w hS => by
 unfold execOp
 have e : (binOp .neq t (.agg x.cells) (.agg y.cells)).run P w = .ok (.bool (!decide (x = y))) w := by
  show ((do Pure.pure (.bool (!(← Op.equal t (.agg x.cells) (.agg y.cells)))) : Sem Value)).run P w = _
  simp [qvr ht]
 simp only [hop, HF.eval hx, HF.eval hy, Sem.run_bind, qqp ht, Result.andThen_ok, e, Sem.run_pure]
end
def Bk.cells (b : Bk) (A : Option Addr) (c : Nat) : Array Value := #[.int .u8 (b.kind : Int), .int .u8 (b.cpu : Int), .int .i64 b.lost, .int .i64 b.next, .slice A b.evs.length c]
theorem qbk (b : Bk) (A : Option Addr) (c : Nat) : ∀ v ∈ (b.cells A c).toList, v.oneCell' = true := by intro v hv; simp [Bk.cells] at hv; rcases hv with rfl | rfl | rfl | rfl | rfl <;> rfl
theorem si_bk : SI Tryz.prog 27 5 := ⟨by kernel_rfl, by kernel_rfl⟩
theorem ei_bb : EI Tryz.prog 190 34 (.slice none 0 0) 1 24 := ⟨by kernel_rfl, by kernel_rfl, rfl, by omega⟩
theorem si_a2 : SI Tryz.prog 139 2 := ⟨by kernel_rfl, by kernel_rfl⟩
structure LaidX (B : Nat) (w : World) : Prop where
 laid : Laid B w
 halves : ∀ k, k < 16 → w.cell? ⟨2, k, none⟩ = some (.int .u32 ((qba.getD k 0 : Nat) : Int))
 big3 : 2 < B
 magic0 : w.cell? ⟨0, 0, none⟩ = some (.int .u8 113)
 magic1 : w.cell? ⟨0, 1, none⟩ = some (.int .u8 116)
 big4 : 0 < B
theorem LaidX.qay {B : Nat} {w w' : World} (h : LaidX B w) (hk : ∀ p : Addr, p.block < B → w'.cell? p = w.cell? p) : LaidX B w' :=
 ⟨h.laid.qay hk, fun k hk' => (hk _ h.big3).trans (h.halves k hk'), h.big3, (hk _ h.big4).trans h.magic0, (hk _ h.big4).trans h.magic1, h.big4⟩
theorem LaidX.mem {B : Nat} {W w : World} {fs : List Fact} (h : LaidX B W) (hM : Mem W w fs) (hB : B ≤ W.heap.size) : LaidX B w := h.qay fun _ hp => hM.below.cell (by omega)
theorem LaidX.below {B B' : Nat} {w w' : World} (h : LaidX B w) (hb : Below B' w w') (hB : B ≤ B') : LaidX B w' := h.qay fun p hp => hb.cell (by omega)
theorem qht (k : Nat) (h : k < 16) : qba.getD k 0 < 4294967296 := by
 have : ∀ k, k < 16 → qba.getD k 0 < 4294967296 := by decide
 exact this k h
theorem qpc {B : Nat} {W w : World} {fs : List Fact} (h : LaidX B W) (hM : Mem W w fs) (hB : B ≤ W.heap.size) {k : Nat} (hk : k < 16) : w.cell? ⟨2, k * 1, none⟩ = some (.int .u32 ((qba.getD k 0 : Nat) : Int)) := by
 rw [Nat.mul_one]; exact (h.mem hM hB).halves k hk
theorem qv8 {B : Nat} {W w : World} {fs : List Fact} (h : LaidX B W) (hM : Mem W w fs) (hB : B ≤ W.heap.size) : w.rangeAt 0 0 (#[Value.int .u8 113, .int .u8 116] : Array Value).toList := fun j v hv => by
 have h1 := (h.mem hM hB).magic0
 have h2 := (h.mem hM hB).magic1
 rcases j with _ | _ | j
 ·simp at hv; subst hv; exact h1
 ·simp at hv; subst hv; exact h2
 ·simp at hv
def Is (w : World) (v : Value) (r : Ending) (w' : World) : Prop := r = .returned v ∧ Below w.heap.size w w'
def qad (w : World) (R : List Nat) (r : Ending) (w' : World) : Prop :=
 (∃ A c, r = .returned (.slice A R.length c) ∧ w'.ownsRow w.heap.size 5 1 (.slice A R.length c) R.length (R.map B8) ∧ R.length ≤ c) ∧ Below w.heap.size w w'
theorem qad.as {w w' : World} {R R' : List Nat} {r : Ending} (h : qad w R r w') (e : R = R') : qad w R' r w' := e ▸ h
theorem qgv {w w' : World} {R xs : List Nat} {n c : Nat} {A : Option Addr} (ho : w'.ownsRow w.heap.size 5 1 (.slice A n c) n (xs.map B8)) (hc : n ≤ c) (hn : n = R.length) (hx : xs = R) (hb : Below w.heap.size w w') : qad w R (.returned (.slice A n c)) w' := by
 subst hx; subst hn
 exact ⟨⟨A, c, rfl, ho, hc⟩, hb⟩
theorem qqs {x : Nat} {w : World} (hx : x < 18446744073709551616) : Calls Tryz.prog 89 #[.slice none 0 0, .int .u64 (x : Int)] w (qad w (vbytes x)) :=
 (qr1 x w w.heap.size (.slice none 0 0) 0 [] hx (World.ownsRow_nil _ _ _ _) (Nat.le_refl _) (by omega)).mono fun e w' ⟨v, h1, h2, h3, _⟩ => by
  rw [Nat.zero_add, List.nil_append] at h2
  obtain ⟨A, c, rfl, hc⟩ := qbh h2
  exact ⟨⟨A, c, h1, h2, hc⟩, (Below.refl _ _).grown h3 (Nat.le_refl _) (fun g hg => by cases hg)⟩
theorem qs8 (A : Option Addr) (n c : Nat) (ls : List Nat) (w : World) (hr : Rd w w.heap.size 1 A n (ls.map U64)) (hls : ∀ x ∈ ls, x < 18446744073709551616) (hn : 10 * n ≤ 140737488355000) :
  Calls Tryz.prog 69 #[.slice A n c] w (qad w (ls.flatMap vbytes)) :=
 (qgo A n c ls w hr hls hn).mono fun e w' ⟨v, h1, h2, h3⟩ => by
  obtain ⟨A, c, rfl, hc⟩ := qbh h2
  exact ⟨⟨A, c, h1, h2, hc⟩, h3⟩
theorem qhu {b : Bk} (h : b.evs.length ≠ 0) : b.qir = decide ((b.evs.getD 0 Ev.zero).cpu = b.cpu) := by
 unfold Bk.qir
 cases hb : b.evs with
 | nil => rw [hb] at h; simp at h
 | cons e r => rfl
theorem qge {b : Bk} (h : b.evs.length = 0) : b.qir = decide (0 < b.lost) := by
 unfold Bk.qir
 rw [List.length_eq_zero_iff] at h
 rw [h]
theorem qd6 (b : Bk) : b.base = ⟨(b.evs.getD 0 Ev.zero).seq, (b.evs.getD 0 Ev.zero).time⟩ := by
 unfold Bk.base Ev.at
 cases b.evs <;> rfl
theorem qzs (k : Nat) : k = 1 ∨ k = 2 ∨ (k ≠ 1 ∧ k ≠ 2) := by omega
theorem qku {b : Bk} (hok : b.Ok) (h : b.fits = true) (hk : b.kind ≠ 2) (hn : b.evs.length ≠ 0) : 0 ≤ b.base.seq ∧ b.base.seq ≤ 281474976710656 ∧ 0 ≤ b.base.time ∧ b.base.time ≤ 281474976710656 := by
 obtain ⟨e, r, g⟩ := qg3 hok (qeg h hk).2 hn
 have := g.right
 rw [← g.base] at this
 have h4 : 1 ≤ b.base.seq ∧ b.base.seq ≤ 281474976710656 ∧ 0 ≤ b.base.time ∧ b.base.time ≤ 281474976710656 := by simpa [Bs.right] using this
 omega
theorem qhv {b : Bk} (h : b.fits = true) (hk : b.kind ≠ 2) : b.kind = 1 ∧ 0 ≤ b.lost ∧ b.lost ≤ 281474976710656 ∧ b.cpu < 64 ∧ b.next = 0 := by
 obtain ⟨h1, h2⟩ := qeg h hk
 unfold Bk.qds at h2
 rw [decide_eq_true_eq] at h2
 omega
theorem qhw {b : Bk} (h : b.fits = true) (hk : b.kind = 2) : 1 ≤ b.next ∧ b.next ≤ 281474976710657 ∧ b.cpu = 0 ∧ b.lost = 0 ∧ b.evs.length = 0 := by
 have h2 := qv7 h hk
 unfold Bk.qis at h2
 rw [decide_eq_true_eq] at h2
 exact h2
theorem qn2 (c : Nat) (l : List Nat) (x : Nat) : qr c (l ++ [x]) = qdn (qr c l) x := by unfold qr; rw [List.foldl_append]; rfl
theorem qhx {c k : Nat} {l : List Nat} (h : k < l.length) : qr c (l.take (k + 1)) = qdn (qr c (l.take k)) (l.getD k 0) := by
 rw [List.take_add_one, getD_at 0 h]; exact qn2 _ _ _
theorem qbl {l : List Nat} {m : Nat} (h : ∀ b ∈ l, b < m) (k : Nat) : ∀ b ∈ l.take k, b < m := fun b hb => h b (List.mem_of_mem_take hb)
theorem qbm {l : List Nat} {m : Nat} (h : ∀ b ∈ l, b < m) (k : Nat) : ∀ b ∈ l.drop k, b < m := fun b hb => h b (List.mem_of_mem_drop hb)
theorem qzt {c : Nat} (h : c < 4294967296) : nib c < 4294967296 := qfj (by omega) (qht _ (by omega))
theorem ql5 (l : List Nat) : qp l < 4294967296 := by unfold qp; omega
theorem qzu (n : Nat) : ∀ b ∈ le4 n, b < 256 := by intro b hb; simp [le4] at hb; omega
theorem qyc (n : Nat) : (le4 n).length = 4 := rfl
theorem qkv (l : List Nat) : (sealL l).length = l.length + 4 := by unfold sealL; rw [List.length_append, qyc]
end Go.Proofs.YtfeheccoijnbaaaGreatDoor
namespace Go.Proofs.YtfeheccoijnbaaaGreatDoor
open Go.RowKit Go.ChangeShapes Go.WideShapes
theorem qv9 {W : World} {fuel : Nat} {cs : List Value} {zs : List Nat} {p : List MemPlace}
  (h : DataW.trod (fun _ => ()) Tryz.prog W 0 (fun _ => true) false fuel 36 cs = some (.slice (zs.map fun z : Nat => .lit (.int .i64 (z : Int))) [], p)) :
  ∃ A c, cs = [.slice A zs.length c] ∧ Rd W W.heap.size 1 A zs.length (zs.map I64v) := by
 obtain ⟨a, cap, hcs, hl, hall⟩ := open_row (e := 3) (by kernel_rfl) (by kernel_rfl) h
 have hcell : ∀ i z, zs[i]? = some z → W.cell? (a.add i) = some (I64v z) := by
  intro i z hz
  obtain ⟨v, n, q, hc, ht⟩ := hall i (.lit (.int .i64 (z : Int))) (by rw [List.getElem?_map, hz]; rfl)
  obtain ⟨z', e1, e2, _⟩ := DataW.trod_int (k := .i64) (by kernel_rfl) ht
  injection e1 with e1
  injection e2 with e2
  subst e1
  simp only [DataW.lit.injEq, Lit.int.injEq, true_and] at e2
  rw [hc, ← e2]
  rfl
 refine ⟨some a, cap, by rw [hcs, List.length_map], by simp, fun hn => ⟨a, rfl, ?_, ?_⟩⟩
 ·cases zs with
  | nil => simp at hn
  | cons z zs =>
   have := World.block_lt_of_cell? W _ (hcell 0 z rfl)
   simpa [Addr.add] using this
 ·intro j u hu
  rw [List.getElem?_map] at hu
  cases hz : zs[j]? with
  | none => simp [hz] at hu
  | some z => rw [hz] at hu; cases hu; exact hcell j z hz
theorem qn3 {W : World} (h : laidMetH Tryz.prog Rows.streamWritesRow.laid W) : Laid W.heap.size W := by
 rw [MakeChecks.laidMetH_plain _ _ _ (by kernel_rfl)] at h
 obtain ⟨g1, t1, cs1, f1, p1, hg1, ht1, hv1, hd1⟩ := Lib.laidMet.reads h (n := "quantum/event.fields") (d := Rows.laid_quantum_event_fields) (List.mem_cons_self ..)
 obtain ⟨g2, t2, cs2, f2, p2, hg2, ht2, hv2, hd2⟩ := Lib.laidMet.reads h (n := "quantum/event.uses") (d := Rows.laid_quantum_event_uses) (List.mem_cons_of_mem _ (List.mem_cons_self ..))
 have gg1 : Tryz.prog.globalNamed "quantum/event.fields" = some 3 := by kernel_rfl
 have gg2 : Tryz.prog.globalNamed "quantum/event.uses" = some 1 := by kernel_rfl
 obtain rfl := Option.some.inj (gg1.symm.trans hg1)
 obtain rfl := Option.some.inj (gg2.symm.trans hg2)
 have ty1 : (Tryz.prog.globals[3]?).map (·.type) = some 229 := by kernel_rfl
 have ty2 : (Tryz.prog.globals[1]?).map (·.type) = some 173 := by kernel_rfl
 obtain rfl := Option.some.inj (ty1.symm.trans ht1)
 obtain rfl := Option.some.inj (ty2.symm.trans ht2)
 have one1 : Tryz.prog.cellsOf 9 = 1 := by kernel_rfl
 have one2 : Tryz.prog.cellsOf 36 = 1 := by kernel_rfl
 have c1 : ∀ i v, cs1.toList[i]? = some v → W.cell? ⟨3, i, none⟩ = some v := fun i v hv => by
  rw [World.var?_cell gg1 hv1 i]; simpa using hv
 have c2 : ∀ i v, cs2.toList[i]? = some v → W.cell? ⟨1, i, none⟩ = some v := fun i v hv => by
  rw [World.var?_cell gg2 hv2 i]; simpa using hv
 have at1 : ∀ (cs : List Value) (i : Nat) (v : Value), (cs.drop (i * 1)).take 1 = [v] → cs[i]? = some v := by
  intro cs i v h
  have := congrArg (·[0]?) h
  simpa [List.getElem?_take, List.getElem?_drop] using this
 have str : ∀ i, i < 7 → ∃ s : ByteArray, W.cell? ⟨3, i, none⟩ = some (.string s) := by
  intro i hi
  obtain ⟨f', d, q, _, ht⟩ := Lib.array_elem (n := 7) (e := 9) (by kernel_rfl) hd1 i hi
  rw [one1] at ht
  obtain ⟨s, hs, _⟩ := DataW.trod_string (by kernel_rfl) ht
  exact ⟨s, c1 i _ (at1 _ _ _ hs)⟩
 have row : ∀ k, k < 11 → ∃ A c, W.cell? ⟨1, k, none⟩ = some (.slice A (usesL k).length c) ∧ Rd W W.heap.size 1 A (usesL k).length ((usesL k).map I64v) := by
  intro k hk
  obtain ⟨f', d, q, hd, ht⟩ := Lib.array_elem (n := 11) (e := 36) (by kernel_rfl) hd2 k hk
  rw [one2] at ht
  by_cases h0 : k = 0
  ·subst h0
   simp only [List.getElem?_cons_zero, Option.some.injEq] at hd
   subst hd
   rcases DataW.trod_slice (e := 3) (by kernel_rfl) ht with ⟨hc, _⟩ | ⟨a, len, cap, elems, rest, n, _, _, hx, _⟩
   ·exact ⟨none, 0, c2 0 _ (at1 _ _ _ hc), Rd.nil⟩
   ·simp at hx
  ·have hd' : d = .slice ((usesL k).map fun z : Nat => .lit (.int .i64 (z : Int))) [] := by
    have hk' : k = 1 ∨ k = 2 ∨ k = 3 ∨ k = 4 ∨ k = 5 ∨ k = 6 ∨ k = 7 ∨ k = 8 ∨ k = 9 ∨ k = 10 := by omega
    rcases hk' with rfl | rfl | rfl | rfl | rfl | rfl | rfl | rfl | rfl | rfl <;> exact (Option.some.inj hd).symm
   subst hd'
   obtain ⟨A, c, hc, hr⟩ := qv9 ht
   exact ⟨A, c, c2 k _ (at1 _ _ _ hc), hr⟩
 refine ⟨row, ?_, str, ?_⟩
 ·obtain ⟨A, c, h1, _⟩ := row 0 (by omega)
  exact World.block_lt_of_cell? W _ h1
 ·obtain ⟨s, h1⟩ := str 0 (by omega)
  exact World.block_lt_of_cell? W _ h1
theorem qyd : Tryz.prog.underlying 124 = some (.int .u32) := by kernel_rfl
set_option maxRecDepth 100000 in
theorem ql6 {W : World} (h : laidMetH Tryz.prog Rows.streamWritesRow.laid W) : LaidX W.heap.size W := by
 have hl := qn3 h
 rw [MakeChecks.laidMetH_plain _ _ _ (by kernel_rfl)] at h
 obtain ⟨g1, t1, cs1, f1, p1, hg1, ht1, hv1, hd1⟩ := Lib.laidMet.reads h (n := "quantum/crc.halves") (d := Rows.laid_quantum_crc_halves) (List.mem_cons_of_mem _ (List.mem_cons_of_mem _ (List.mem_cons_self ..)))
 obtain ⟨g2, t2, cs2, f2, p2, hg2, ht2, hv2, hd2⟩ := Lib.laidMet.reads h (n := "quantum/block.magic") (d := Rows.laid_quantum_block_magic) (List.mem_cons_of_mem _ (List.mem_cons_of_mem _ (List.mem_cons_of_mem _ (List.mem_cons_self ..))))
 have gg1 : Tryz.prog.globalNamed "quantum/crc.halves" = some 2 := by kernel_rfl
 have gg2 : Tryz.prog.globalNamed "quantum/block.magic" = some 0 := by kernel_rfl
 obtain rfl := Option.some.inj (gg1.symm.trans hg1)
 obtain rfl := Option.some.inj (gg2.symm.trans hg2)
 have ty1 : (Tryz.prog.globals[2]?).map (·.type) = some 223 := by kernel_rfl
 have ty2 : (Tryz.prog.globals[0]?).map (·.type) = some 139 := by kernel_rfl
 obtain rfl := Option.some.inj (ty1.symm.trans ht1)
 obtain rfl := Option.some.inj (ty2.symm.trans ht2)
 have one1 : Tryz.prog.cellsOf 124 = 1 := by kernel_rfl
 have one2 : Tryz.prog.cellsOf 5 = 1 := by kernel_rfl
 have c1 : ∀ i v, cs1.toList[i]? = some v → W.cell? ⟨2, i, none⟩ = some v := fun i v hv => by
  rw [World.var?_cell gg1 hv1 i]; simpa using hv
 have c2 : ∀ i v, cs2.toList[i]? = some v → W.cell? ⟨0, i, none⟩ = some v := fun i v hv => by
  rw [World.var?_cell gg2 hv2 i]; simpa using hv
 have at1 : ∀ (cs : List Value) (i : Nat) (v : Value), (cs.drop (i * 1)).take 1 = [v] → cs[i]? = some v := by
  intro cs i v h
  have := congrArg (·[0]?) h
  simpa [List.getElem?_take, List.getElem?_drop] using this
 have hal : ∀ k, k < 16 → W.cell? ⟨2, k, none⟩ = some (.int .u32 ((qba.getD k 0 : Nat) : Int)) := by
  intro k hk
  obtain ⟨f', d, q, hd, ht⟩ := Lib.array_elem (n := 16) (e := 124) (by kernel_rfl) hd1 k hk
  rw [one1] at ht
  have hdk : d = .lit (.int .u32 ((qba.getD k 0 : Nat) : Int)) := by
   have hk' : k = 0 ∨ k = 1 ∨ k = 2 ∨ k = 3 ∨ k = 4 ∨ k = 5 ∨ k = 6 ∨ k = 7 ∨ k = 8 ∨ k = 9 ∨ k = 10 ∨ k = 11 ∨ k = 12 ∨ k = 13 ∨ k = 14 ∨ k = 15 := by omega
   rcases hk' with rfl | rfl | rfl | rfl | rfl | rfl | rfl | rfl | rfl | rfl | rfl | rfl | rfl | rfl | rfl | rfl <;> exact (Option.some.inj hd).symm
  subst hdk
  obtain ⟨z, e1, e2, _⟩ := DataW.trod_int qyd ht
  have e2 := congrArg Prod.fst e2
  simp only [DataW.lit.injEq, Lit.int.injEq, true_and] at e2
  exact c1 k _ (by rw [at1 _ _ _ e1, ← e2])
 have mag : ∀ k, k < 2 → W.cell? ⟨0, k, none⟩ = some (.int .u8 (([113, 116].getD k 0 : Nat) : Int)) := by
  intro k hk
  obtain ⟨f', d, q, hd, ht⟩ := Lib.array_elem (n := 2) (e := 5) (by kernel_rfl) hd2 k hk
  rw [one2] at ht
  have hdk : d = .lit (.int .u8 (([113, 116].getD k 0 : Nat) : Int)) := by
   have hk' : k = 0 ∨ k = 1 := by omega
   rcases hk' with rfl | rfl <;> exact (Option.some.inj hd).symm
  subst hdk
  obtain ⟨z, e1, e2, _⟩ := DataW.trod_int qo5 ht
  have e2 := congrArg Prod.fst e2
  simp only [DataW.lit.injEq, Lit.int.injEq, true_and] at e2
  exact c2 k _ (by rw [at1 _ _ _ e1, ← e2])
 exact ⟨hl, hal, World.block_lt_of_cell? W _ (hal 0 (by omega)), mag 0 (by omega), mag 1 (by omega), World.block_lt_of_cell? W _ (mag 0 (by omega))⟩
end Go.Proofs.YtfeheccoijnbaaaGreatDoor
namespace Go.Proofs.YtfeheccoijnbaaaGreatDoor
open Go.RowKit
theorem qwa (n : Nat) (hn : n ≤ 1000000000000) (w : World) :
    Calls Tryz.prog 115 #[.slice none 0 0, .int .i64 (n : Int)] w fun r w' => (∃ A c, r = .returned (.slice A 0 c) ∧ w'.ownsRow w.heap.size 5 1 (.slice A 0 c) 0 []) ∧ Below w.heap.size w w' := by
 refine qg (vs := [.slice none 0 0, vI n]) Tryz.func115 rfl rfl (by kernel_rfl) (σ0 := [(0, .slice none 0 0), (1, vI n)]) rfl ?_
 intro a HF
 have HM := Mem.start w
 refine wp_seq (qa ?_)
 refine fp HF 1 0 [(4, .slice none 0 0)] fun a HF => ?_
 refine qb rfl (wp_seq (wp_seq (qa ?_)))
 refine fp HF 2 0 [(6, .bool (decide ((n : Int) < (0 : Int))))] fun a HF => ?_
 refine qb rfl ?_
 rcases HF.tf 6 rfl with ⟨hb6, HF⟩ | ⟨hb6, HF⟩
 ·
  have hd6 := of_decide_eq_true hb6
  omega
 have hd6 := of_decide_eq_false hb6
 refine qd HF rfl (wp_skip (wp_seq (wp_seq (qa ?_))))
 refine fp HF 2 0 [(9, .slice none 0 0), (8, vI n)] fun a HF => ?_
 refine fy HF HM 2 rfl rfl rfl (Yl.cap rfl rfl (by kernel_rfl)) fun a HF => ?_
 refine fp HF 1 3 [(11, .slice none 0 0)] fun a HF => ?_
 refine fy HF HM 4 rfl rfl rfl (Yl.len rfl rfl (by kernel_rfl)) fun a HF => ?_
 refine fp HF 2 5 [(14, vI (IntKind.i64.wrap ((n : Int) - 0)))] fun a HF => ?_
 replace HF := HF.sp 14 (vI n) rfl (qi (by omega) (by omega))
 refine fp HF 1 7 [(1, vI n)] fun a HF => ?_
 refine qb rfl (wp_seq (qa ?_))
 refine fp HF 2 0 [(16, .bool (decide ((n : Int) > (0 : Int))))] fun a HF => ?_
 refine qb rfl ?_
 rcases HF.tf 16 rfl with ⟨hb16, HF⟩ | ⟨hb16, HF⟩
 ·
  have hd16 := of_decide_eq_true hb16
  refine qe HF rfl (qa ?_)
  refine fp HF 2 0 [(18, .slice none 0 0), (17, .slice none 0 0)] fun a HF => ?_
  refine fy HF HM 2 rfl rfl rfl (Yl.cap rfl rfl (by kernel_rfl)) fun a HF => ?_
  refine fy HF HM 3 rfl rfl rfl (v := .slice none 0 0) (Yl.qbo ei_u8 (j := 0) rfl rfl rfl (by omega)) fun a HF => ?_
  refine fp HF 1 4 [(21, vI n)] fun a HF => ?_
  refine fo HF 5 rfl rfl ?_
  refine qkq HF HM (kn := .i64) (m := n) rfl ei_u8 (by kernel_rfl) rfl rfl (by omega) (by omega) (by omega) rfl (by decide) ?_
  clear HF HM; intro a w22 g22 c22 HF HM hc22
  refine fp HF 1 6 [(23, .slice none 0 0)] fun a HF => ?_
  refine fy HF HM 7 rfl rfl rfl (Yl.len rfl rfl (by kernel_rfl)) fun a HF => ?_
  refine fy HF HM 8 rfl rfl rfl (v := vS g22 0 c22) (Yl.qbo ei_u8 (j := 0) rfl rfl rfl (by omega)) fun a HF => ?_
  refine fp HF 1 9 [(0, vS g22 0 c22)] fun a HF => ?_
  refine qb rfl ?_
  replace HM := (HM.shrink (i := 0) (k := 0) rfl (Nat.zero_le _) (fun h => by cases h)).asRow (i := 0) (ys := []) rfl (by simp)
  refine wp_seq (qa ?_)
  refine fp HF 2 0 [(4, vS g22 0 c22)] fun a HF => ?_
  refine qb rfl (wp_ret ?_)
  exact ret1 rfl HF (.tmp HF rfl) (⟨⟨_, _, rfl, HM.own (i := 0) rfl⟩, HM.below⟩)
 have hd16 := of_decide_eq_false hb16
 refine qd HF rfl (wp_skip (wp_seq (qa ?_)))
 refine fp HF 2 0 [(4, .slice none 0 0)] fun a HF => ?_
 refine qb rfl (wp_ret ?_)
 exact ret1 rfl HF (.tmp HF rfl) (⟨⟨_, _, rfl, World.ownsRow_nil _ _ _ _⟩, HM.below⟩)
theorem qqt (A : Option Addr) (n c : Nat) (ps : List Part) (w : World) (hr : Rd w w.heap.size 1 A n (ps.map Part.val)) (hln : ps.length = n) (hn : n ≤ 1000000) (hps : ∀ p ∈ ps, Rd w w.heap.size 1 p.A p.l.length (p.l.map B8)) (htot : (ps.flatMap (·.l)).length ≤ 1000000000000) :
    Calls Tryz.prog 98 #[.slice A n c] w (qad w (ps.flatMap (·.l))) := by
 refine qg (vs := [.slice A n c]) Tryz.func98 rfl rfl (by kernel_rfl) (σ0 := [(0, .slice A n c)]) rfl ?_
 intro a HF
 have HM := Mem.start w
 refine wp_seq (qa ?_)
 refine fp HF 1 0 [(2, .slice none 0 0)] fun a HF => ?_
 refine qb rfl (wp_seq (qa ?_))
 refine fp HF 1 0 [(3, vI 0)] fun a HF => ?_
 refine qb rfl (wp_seq (wp_seq (qa ?_)))
 refine fp HF 1 0 [(9, .slice A n c)] fun a HF => ?_
 refine fy HF HM 1 rfl rfl rfl (Yl.len rfl rfl (by kernel_rfl)) fun a HF => ?_
 refine fp HF 1 2 [(11, vI 0)] fun a HF => ?_
 refine qb rfl (wp_block ?_)
 refine qs (fun mS aS wS => ∃ (k : Nat), (k ≤ n) ∧ mS = n - k ∧ Fr aS 36 [] [(11, vI k), (10, vI n), (9, .slice A n c), (3, vI (((ps.take k).flatMap (·.l)).length)), (2, .slice none 0 0), (0, .slice A n c)] ∧ Mem w wS []) (m := n - 0) ⟨0, Nat.zero_le _, rfl, HF.sub (by kernel_rfl), HM.picks [] (by decide) rfl⟩ ?_
 clear HF HM; rintro mS a w_ ⟨k, hk, rfl, HF, HM⟩
 have hpk := qfg (l := ps) k
 have hpk1 := qfg (l := ps) (k + 1)
 refine wp_seq (qa ?_)
 refine fp HF 1 0 [(12, .bool (decide ((k : Int) < (n : Int))))] fun a HF => ?_
 refine qb rfl (wp_seq ?_)
 rcases HF.tf 12 rfl with ⟨hb12, HF⟩ | ⟨hb12, HF⟩
 ·
  have hd12 := of_decide_eq_true hb12
  have hk12 : k < n := by omega
  refine qe HF rfl (wp_skip (wp_seq (wp_block (wp_seq (qa ?_)))))
  obtain ⟨gA, oA, rfl, _⟩ := hr.qy (Nat.lt_of_le_of_lt (Nat.zero_le _) (show k < n from by omega)) (by decide)
  refine fy HF HM 0 rfl rfl rfl (v := vP gA (oA + k * 1)) (Yl.ix gA oA k 1 rfl rfl rfl) fun a HF => ?_
  refine fy HF HM 1 rfl rfl rfl (v := .slice ((ps.getD k (⟨none, 0, []⟩ : Part)).A) ((ps.getD k (⟨none, 0, []⟩ : Part)).l.length) ((ps.getD k (⟨none, 0, []⟩ : Part)).c)) (Yl.qh rfl rfl (by kernel_rfl) (fun _ h => (h.old hr).qa4 (k := k) (qai (F := Part.val) (k := k) (x := (ps.getD k (⟨none, 0, []⟩ : Part))) ((getD_at (⟨none, 0, []⟩ : Part) (k := k) (by first | omega | (simp; omega))))))) fun a HF => ?_
  refine fp HF 1 2 [(5, .slice ((ps.getD k (⟨none, 0, []⟩ : Part)).A) ((ps.getD k (⟨none, 0, []⟩ : Part)).l.length) ((ps.getD k (⟨none, 0, []⟩ : Part)).c))] fun a HF => ?_
  refine qb rfl (wp_seq (qa ?_))
  refine fp HF 2 0 [(16, .slice ((ps.getD k (⟨none, 0, []⟩ : Part)).A) ((ps.getD k (⟨none, 0, []⟩ : Part)).l.length) ((ps.getD k (⟨none, 0, []⟩ : Part)).c)), (15, vI (((ps.take k).flatMap (·.l)).length))] fun a HF => ?_
  refine fy HF HM 2 rfl rfl rfl (Yl.len rfl rfl (by kernel_rfl)) fun a HF => ?_
  refine fp HF 1 3 [(18, vI (IntKind.i64.wrap ((((ps.take k).flatMap (·.l)).length : Int) + (((ps.getD k (⟨none, 0, []⟩ : Part)).l.length : Nat) : Int))))] fun a HF => ?_
  replace HF := HF.sp 18 (vI (((ps.take (k + 1)).flatMap (·.l)).length)) rfl (qi (by rw [qc8 (d := (⟨none, 0, []⟩ : Part)) (by omega), List.length_append]; omega) (by have := qfg (l := ps) (k + 1); omega))
  refine fp HF 1 4 [(3, vI (((ps.take (k + 1)).flatMap (·.l)).length))] fun a HF => ?_
  refine qb rfl (wp_seq (qa ?_))
  refine fp HF 2 0 [(20, .bool (decide ((((ps.take (k + 1)).flatMap (·.l)).length : Int) < (0 : Int))))] fun a HF => ?_
  refine qb rfl ?_
  rcases HF.tf 20 rfl with ⟨hb20, HF⟩ | ⟨hb20, HF⟩
  ·
   have hd20 := of_decide_eq_true hb20
   omega
  have hd20 := of_decide_eq_false hb20
  refine qd HF rfl (wp_skip (qa ?_))
  refine fp HF 1 0 [(22, vI (IntKind.i64.wrap ((k : Int) + 1)))] fun a HF => ?_
  replace HF := HF.sp 22 (vI (k + 1 : Nat)) rfl (qi (by omega) (by omega))
  refine fp HF 1 1 [(11, vI (k + 1 : Nat))] fun a HF => ?_
  refine qb rfl ?_
  exact ⟨_, (by omega), k + 1, by omega, rfl, HF.sub (by kernel_rfl), HM.picks [] (by decide) rfl⟩
 have hd12 := of_decide_eq_false hb12
 obtain rfl : n = k := by omega
 refine qd HF rfl (wp_exit (wp_seq (qa ?_)))
 refine fp HF 1 0 [(23, vI (((ps.take n).flatMap (·.l)).length))] fun a HF => ?_
 refine fo HF 1 rfl rfl ?_
 refine e_cl HF [.slice none 0 0, vI (((ps.take n).flatMap (·.l)).length)] rfl rfl (qwa _ (by omega) _) ?_
 rintro _ w24 ⟨⟨A24, c24, rfl, ho⟩, hbw⟩
 refine ⟨_, rfl, ?_⟩
 replace HM := HM.callRow hbw ho
 clear HF; intro a HF
 refine fp HF 1 2 [(6, .slice A24 0 c24)] fun a HF => ?_
 refine qb rfl (wp_seq (wp_seq (qa ?_)))
 refine fp HF 1 0 [(25, .slice A n c)] fun a HF => ?_
 refine fy HF HM 1 rfl rfl rfl (Yl.len rfl rfl (by kernel_rfl)) fun a HF => ?_
 refine fp HF 1 2 [(27, vI 0)] fun a HF => ?_
 refine qb rfl (wp_block ?_)
 refine qs (fun mS aS wS => ∃ (k : Nat) (Ak : Option Addr) (ck : Nat), (k ≤ n) ∧ (((ps.take k).flatMap (·.l)).length ≤ ck) ∧ mS = n - k ∧ Fr aS 36 [] [(27, vI k), (26, vI n), (25, .slice A n c), (6, .slice Ak (((ps.take k).flatMap (·.l)).length) ck), (12, .bool false), (11, vI n), (10, vI n), (9, .slice A n c), (3, vI (((ps.take n).flatMap (·.l)).length)), (2, .slice none 0 0), (0, .slice A n c)] ∧ Mem w wS [.row (.slice Ak (((ps.take k).flatMap (·.l)).length) ck) (((ps.take k).flatMap (·.l)).length) (((ps.take k).flatMap (·.l)).map B8) 5 1]) (m := n - 0) ⟨0, A24, c24, Nat.zero_le _, Nat.zero_le _, rfl, HF.sub (by kernel_rfl), HM.picks [0] (by decide) rfl⟩ ?_
 clear HF HM; rintro mS a w_ ⟨k, Ak, ck, hk, hck, rfl, HF, HM⟩
 refine wp_seq (qa ?_)
 refine fp HF 1 0 [(28, .bool (decide ((k : Int) < (n : Int))))] fun a HF => ?_
 refine qb rfl (wp_seq ?_)
 rcases HF.tf 28 rfl with ⟨hb28, HF⟩ | ⟨hb28, HF⟩
 ·
  have hd28 := of_decide_eq_true hb28
  have hk28 : k < n := by omega
  refine qe HF rfl (wp_skip (wp_seq (wp_block (wp_seq (qa ?_)))))
  obtain ⟨gA, oA, rfl, _⟩ := hr.qy (Nat.lt_of_le_of_lt (Nat.zero_le _) (show k < n from by omega)) (by decide)
  refine fy HF HM 0 rfl rfl rfl (v := vP gA (oA + k * 1)) (Yl.ix gA oA k 1 rfl rfl rfl) fun a HF => ?_
  refine fy HF HM 1 rfl rfl rfl (v := .slice ((ps.getD k (⟨none, 0, []⟩ : Part)).A) ((ps.getD k (⟨none, 0, []⟩ : Part)).l.length) ((ps.getD k (⟨none, 0, []⟩ : Part)).c)) (Yl.qh rfl rfl (by kernel_rfl) (fun _ h => (h.old hr).qa4 (k := k) (qai (F := Part.val) (k := k) (x := (ps.getD k (⟨none, 0, []⟩ : Part))) ((getD_at (⟨none, 0, []⟩ : Part) (k := k) (by first | omega | (simp; omega))))))) fun a HF => ?_
  refine fp HF 1 2 [(8, .slice ((ps.getD k (⟨none, 0, []⟩ : Part)).A) ((ps.getD k (⟨none, 0, []⟩ : Part)).l.length) ((ps.getD k (⟨none, 0, []⟩ : Part)).c))] fun a HF => ?_
  refine qb rfl (qa ?_)
  refine fp HF 2 0 [(32, .slice ((ps.getD k (⟨none, 0, []⟩ : Part)).A) ((ps.getD k (⟨none, 0, []⟩ : Part)).l.length) ((ps.getD k (⟨none, 0, []⟩ : Part)).c)), (31, .slice Ak (((ps.take k).flatMap (·.l)).length) ck)] fun a HF => ?_
  refine fo HF 2 rfl rfl ?_
  refine qu HF HM (i := 0) rfl ei_u8 rfl rfl rfl (news := ((ps.getD k (⟨none, 0, []⟩ : Part)).l.map B8)) (HM.old (hps _ (qal _ (by omega)))) (qa2 _) (by have := qfg (l := ps) (k + 1); rw [qc8 (d := (⟨none, 0, []⟩ : Part)) (by omega), List.length_append] at this; omega) (by have := qfg (l := ps) (k + 1); rw [qc8 (d := (⟨none, 0, []⟩ : Part)) (by omega), List.length_append] at this; omega) rfl (by decide) ?_
  clear HF HM; intro a w33 A33 c33 HF HM hc33
  refine fp HF 1 3 [(6, .slice A33 (((ps.take k).flatMap (·.l)).length + (ps.getD k (⟨none, 0, []⟩ : Part)).l.length) c33)] fun a HF => ?_
  refine qb rfl ?_
  have hnA33 : ((ps.take k).flatMap (·.l)).length + (ps.getD k (⟨none, 0, []⟩ : Part)).l.length = ((ps.take (k + 1)).flatMap (·.l)).length := by rw [qc8 (d := (⟨none, 0, []⟩ : Part)) (by omega), List.length_append]
  replace HM := HM.reRow (i := 0) (ys := ((ps.take (k + 1)).flatMap (·.l)).map B8) rfl hnA33 (by rw [qc8 (d := (⟨none, 0, []⟩ : Part)) (by omega), List.map_append])
  rw [hnA33] at hc33
  replace HF := HF.as (t := 6) (u := .slice A33 (((ps.take (k + 1)).flatMap (·.l)).length) c33) rfl (by rw [hnA33])
  replace HF := HF.as (t := 33) (u := .slice A33 (((ps.take (k + 1)).flatMap (·.l)).length) c33) rfl (by rw [hnA33])
  refine qa ?_
  refine fp HF 1 0 [(34, vI (IntKind.i64.wrap ((k : Int) + 1)))] fun a HF => ?_
  replace HF := HF.sp 34 (vI (k + 1 : Nat)) rfl (qi (by omega) (by omega))
  refine fp HF 1 1 [(27, vI (k + 1 : Nat))] fun a HF => ?_
  refine qb rfl ?_
  exact ⟨_, (by omega), k + 1, A33, c33, by omega, hc33, rfl, HF.sub (by kernel_rfl), HM.picks [0] (by decide) rfl⟩
 have hd28 := of_decide_eq_false hb28
 obtain rfl : n = k := by omega
 refine qd HF rfl (wp_exit (wp_seq (qa ?_)))
 refine fp HF 2 0 [(2, .slice Ak (((ps.take n).flatMap (·.l)).length) ck)] fun a HF => ?_
 refine qb rfl (wp_ret ?_)
 exact ret1 rfl HF (.tmp HF rfl) (qgv (HM.own (i := 0) rfl) hck (by rw [List.take_of_length_le (by omega)]) (by rw [List.take_of_length_le (by omega)]) HM.below)
theorem qqu (c : Nat) (hc : c < 4294967296) (A : Option Addr) (n cp : Nat) (l : List Nat) (B : Nat) (w : World) (hL : LaidX B w) (hB : B ≤ w.heap.size) (hr : Rd w w.heap.size 1 A n (l.map B8)) (hln : l.length = n) (hn : n ≤ 140737488355328) (hl : ∀ b ∈ l, b < 256) :
    Calls Tryz.prog 128 #[.int .u32 (c : Int), .slice A n cp] w (Is w (.int .u32 (qr c l : Int))) := by
 refine qg (vs := [vW c, .slice A n cp]) Tryz.func128 rfl rfl (by kernel_rfl) (σ0 := [(0, vW c), (1, .slice A n cp)]) rfl ?_
 intro a HF
 have HM := Mem.start w
 refine wp_seq (qa ?_)
 refine fp HF 1 0 [(4, vW 0)] fun a HF => ?_
 refine qb rfl (wp_seq (wp_seq (qa ?_)))
 refine fp HF 1 0 [(7, .slice A n cp)] fun a HF => ?_
 refine fy HF HM 1 rfl rfl rfl (Yl.len rfl rfl (by kernel_rfl)) fun a HF => ?_
 refine fp HF 1 2 [(9, vI 0)] fun a HF => ?_
 refine qb rfl (wp_block ?_)
 refine qs (fun mS aS wS => ∃ (k : Nat), (k ≤ n) ∧ mS = n - k ∧ Fr aS 33 [] [(9, vI k), (8, vI n), (7, .slice A n cp), (4, vW 0), (0, vW (qr c (l.take k)))] ∧ Mem w wS []) (m := n - 0) ⟨0, Nat.zero_le _, rfl, HF.sub (by kernel_rfl), HM.picks [] (by decide) rfl⟩ ?_
 clear HF HM; rintro mS a w_ ⟨k, hk, rfl, HF, HM⟩
 have hcr := qd3 (l.take k) hc (qbl hl k)
 refine wp_seq (qa ?_)
 refine fp HF 1 0 [(10, .bool (decide ((k : Int) < (n : Int))))] fun a HF => ?_
 refine qb rfl (wp_seq ?_)
 rcases HF.tf 10 rfl with ⟨hb10, HF⟩ | ⟨hb10, HF⟩
 ·
  have hd10 := of_decide_eq_true hb10
  refine qe HF rfl (wp_skip (wp_seq (wp_block (wp_seq (qa ?_)))))
  obtain ⟨gA, oA, rfl, _⟩ := hr.qy (Nat.lt_of_le_of_lt (Nat.zero_le _) (show k < n from by omega)) (by decide)
  refine fy HF HM 0 rfl rfl rfl (v := vP gA (oA + k * 1)) (Yl.ix gA oA k 1 rfl rfl rfl) fun a HF => ?_
  have hx34 := getD_lt hl (k := k) (by first | omega | (simp; omega))
  refine fy HF HM 1 rfl rfl rfl (v := vB (l.getD k 0)) (Yl.qh rfl rfl (by kernel_rfl) (fun _ h => (h.old hr).qa4 (k := k) (qai (F := B8) (k := k) (x := (l.getD k 0)) ((getD_at 0 (k := k) (by first | omega | (simp; omega))))))) fun a HF => ?_
  refine fp HF 1 2 [(6, vB (l.getD k 0))] fun a HF => ?_
  refine qb rfl (wp_seq (qa ?_))
  refine fp HF 3 0 [(15, vW (IntKind.u32.wrap ((l.getD k 0) : Int))), (13, vW (qr c (l.take k)))] fun a HF => ?_
  replace HF := HF.sp 15 (vW (l.getD k 0)) rfl (qcq rfl (by omega))
  refine fp HF 1 3 [(16, vW (IntKind.u32.wrap (BitVec.ofInt (IntKind.u32).bits (qr c (l.take k) : Int) ^^^ BitVec.ofInt (IntKind.u32).bits ((l.getD k 0) : Int)).toNat))] fun a HF => ?_
  replace HF := HF.sp 16 (vW ((qr c (l.take k)) ^^^ (l.getD k 0) : Nat)) rfl (qho (m := qr c (l.take k)) (n := (l.getD k 0)) (by omega) (by omega))
  refine fp HF 1 4 [(0, vW ((qr c (l.take k)) ^^^ (l.getD k 0) : Nat))] fun a HF => ?_
  refine qb rfl ?_
  have hy := qfj hcr (show l.getD k 0 < 4294967296 by omega)
  refine wp_seq (qa ?_)
  refine fp HF 2 0 [(18, vW (Int.fdiv (((qr c (l.take k)) ^^^ (l.getD k 0) : Nat) : Int) (2 ^ (min (4 : Int).toNat (IntKind.u32).bits))))] fun a HF => ?_
  replace HF := HF.sp 18 (vW (((qr c (l.take k)) ^^^ (l.getD k 0)) / 16 : Nat)) rfl (qdm .u32 ((qr c (l.take k)) ^^^ (l.getD k 0)) (j := 4) (q := 16) rfl rfl)
  refine fp HF 2 2 [(20, vW (IntKind.u32.wrap (BitVec.ofInt (IntKind.u32).bits (((qr c (l.take k)) ^^^ (l.getD k 0) : Nat) : Int) &&& BitVec.ofInt (IntKind.u32).bits 15).toNat))] fun a HF => ?_
  replace HF := HF.sp 20 (vW (((qr c (l.take k)) ^^^ (l.getD k 0)) % 16 : Nat)) rfl (qo9 (n := 15) (j := 4) rfl (by decide) (by omega))
  refine fy HF HM 4 rfl rfl rfl (v := vP 2 ((((qr c (l.take k)) ^^^ (l.getD k 0)) % 16) * 1)) ((Yl.qep (ad := ⟨2, 0, none⟩) (m := 16) (y := ((qr c (l.take k)) ^^^ (l.getD k 0)) % 16) (sz := 1) rfl rfl rfl (by kernel_rfl) (by omega)).as (by rw [Addr.add_mid, Nat.zero_add])) fun a HF => ?_
  refine fy HF HM 5 rfl rfl rfl (v := vW (qba.getD (((qr c (l.take k)) ^^^ (l.getD k 0)) % 16) 0)) (Yl.qh rfl rfl (by kernel_rfl) (fun _ h => qpc hL h hB (k := (((qr c (l.take k)) ^^^ (l.getD k 0)) % 16)) (by omega))) fun a HF => ?_
  refine fp HF 1 6 [(23, vW (IntKind.u32.wrap (BitVec.ofInt (IntKind.u32).bits ((((qr c (l.take k)) ^^^ (l.getD k 0)) / 16 : Nat) : Int) ^^^ BitVec.ofInt (IntKind.u32).bits (qba.getD (((qr c (l.take k)) ^^^ (l.getD k 0)) % 16) 0 : Int)).toNat))] fun a HF => ?_
  replace HF := HF.sp 23 (vW (nib (qr c (l.take k) ^^^ l.getD k 0))) rfl (by have h := qho (m := (qr c (l.take k) ^^^ l.getD k 0) / 16) (n := qba.getD ((qr c (l.take k) ^^^ l.getD k 0) % 16) 0) (by omega) (qht _ (by omega)); exact h)
  refine fp HF 1 7 [(0, vW (nib (qr c (l.take k) ^^^ l.getD k 0)))] fun a HF => ?_
  refine qb rfl ?_
  have hz := qzt hy
  refine qa ?_
  refine fp HF 2 0 [(25, vW (Int.fdiv (nib (qr c (l.take k) ^^^ l.getD k 0) : Int) (2 ^ (min (4 : Int).toNat (IntKind.u32).bits))))] fun a HF => ?_
  replace HF := HF.sp 25 (vW ((nib (qr c (l.take k) ^^^ l.getD k 0)) / 16 : Nat)) rfl (qdm .u32 (nib (qr c (l.take k) ^^^ l.getD k 0)) (j := 4) (q := 16) rfl rfl)
  refine fp HF 2 2 [(27, vW (IntKind.u32.wrap (BitVec.ofInt (IntKind.u32).bits (nib (qr c (l.take k) ^^^ l.getD k 0) : Int) &&& BitVec.ofInt (IntKind.u32).bits 15).toNat))] fun a HF => ?_
  replace HF := HF.sp 27 (vW ((nib (qr c (l.take k) ^^^ l.getD k 0)) % 16 : Nat)) rfl (qo9 (n := 15) (j := 4) rfl (by decide) (by omega))
  refine fy HF HM 4 rfl rfl rfl (v := vP 2 (((nib (qr c (l.take k) ^^^ l.getD k 0)) % 16) * 1)) ((Yl.qep (ad := ⟨2, 0, none⟩) (m := 16) (y := (nib (qr c (l.take k) ^^^ l.getD k 0)) % 16) (sz := 1) rfl rfl rfl (by kernel_rfl) (by omega)).as (by rw [Addr.add_mid, Nat.zero_add])) fun a HF => ?_
  refine fy HF HM 5 rfl rfl rfl (v := vW (qba.getD ((nib (qr c (l.take k) ^^^ l.getD k 0)) % 16) 0)) (Yl.qh rfl rfl (by kernel_rfl) (fun _ h => qpc hL h hB (k := ((nib (qr c (l.take k) ^^^ l.getD k 0)) % 16)) (by omega))) fun a HF => ?_
  refine fp HF 1 6 [(30, vW (IntKind.u32.wrap (BitVec.ofInt (IntKind.u32).bits (((nib (qr c (l.take k) ^^^ l.getD k 0)) / 16 : Nat) : Int) ^^^ BitVec.ofInt (IntKind.u32).bits (qba.getD ((nib (qr c (l.take k) ^^^ l.getD k 0)) % 16) 0 : Int)).toNat))] fun a HF => ?_
  replace HF := HF.sp 30 (vW (qr c (l.take (k + 1)))) rfl (by have h := qho (m := nib (qr c (l.take k) ^^^ l.getD k 0) / 16) (n := qba.getD (nib (qr c (l.take k) ^^^ l.getD k 0) % 16) 0) (by omega) (qht _ (by omega)); rw [qhx (by omega)]; exact h)
  refine fp HF 1 7 [(0, vW (qr c (l.take (k + 1))))] fun a HF => ?_
  refine qb rfl (qa ?_)
  refine fp HF 1 0 [(31, vI (IntKind.i64.wrap ((k : Int) + 1)))] fun a HF => ?_
  replace HF := HF.sp 31 (vI (k + 1 : Nat)) rfl (qi (by omega) (by omega))
  refine fp HF 1 1 [(9, vI (k + 1 : Nat))] fun a HF => ?_
  refine qb rfl ?_
  exact ⟨_, (by omega), k + 1, by omega, rfl, HF.sub (by kernel_rfl), HM.picks [] (by decide) rfl⟩
 have hd10 := of_decide_eq_false hb10
 obtain rfl : n = k := by omega
 refine qd HF rfl (wp_exit (wp_seq (qa ?_)))
 refine fp HF 2 0 [(4, vW (qr c (l.take n)))] fun a HF => ?_
 refine qb rfl (wp_ret ?_)
 exact ret1 rfl HF (.tmp HF rfl) (⟨by rw [List.take_of_length_le (by omega)], HM.below⟩)
theorem qqv (c : Nat) (hc0 : c < 4294967296) (A : Option Addr) (n cp : Nat) (l : List Nat) (B : Nat) (w : World) (hL : LaidX B w) (hB : B ≤ w.heap.size) (hr : Rd w w.heap.size 1 A n (l.map B8)) (hln : l.length = n) (hn : n ≤ 140737488355328) (hl : ∀ b ∈ l, b < 256) :
    Calls Tryz.prog 111 #[.int .u32 (c : Int), .slice A n cp] w (Is w (.int .u32 ((qr (c ^^^ 4294967295) l ^^^ 4294967295 : Nat) : Int))) := by
 refine qg (vs := [vW c, .slice A n cp]) Tryz.func111 rfl rfl (by kernel_rfl) (σ0 := [(0, vW c), (1, .slice A n cp)]) rfl ?_
 intro a HF
 have HM := Mem.start w
 refine wp_seq (qa ?_)
 refine fp HF 1 0 [(4, vW 0)] fun a HF => ?_
 refine qb rfl ?_
 have hc := qfj hc0 (show 4294967295 < 4294967296 by decide)
 have hcr := qd3 l hc hl
 refine wp_seq (qa ?_)
 refine fp HF 1 0 [(5, vW c)] fun a HF => ?_
 refine fy HF HM 1 rfl rfl rfl (v := vW (c ^^^ 4294967295 : Nat)) (Yl.q0b (m := c) rfl rfl (by omega)) fun a HF => ?_
 refine fp HF 1 2 [(7, .slice A n cp)] fun a HF => ?_
 refine fo HF 3 rfl rfl ?_
 refine e_is HF HM [vW (c ^^^ 4294967295 : Nat), .slice A n cp] (vW (qr (c ^^^ 4294967295) l)) rfl rfl (qqu _ hc _ _ _ l B _ (hL.mem HM hB) (HM.le hB) (HM.old hr) hln hn hl) fun w8 hbw HM a HF => ?_
 refine fy HF HM 4 rfl rfl rfl (v := vW ((qr (c ^^^ 4294967295) l) ^^^ 4294967295 : Nat)) (Yl.q0b (m := qr (c ^^^ 4294967295) l) rfl rfl (by omega)) fun a HF => ?_
 refine fp HF 1 5 [(4, vW ((qr (c ^^^ 4294967295) l) ^^^ 4294967295 : Nat))] fun a HF => ?_
 refine qb rfl (wp_ret ?_)
 exact ret1 rfl HF (.tmp HF rfl) (⟨rfl, HM.below⟩)
theorem qjh (A : Option Addr) (n cp : Nat) (l : List Nat) (B : Nat) (w : World) (hL : LaidX B w) (hB : B ≤ w.heap.size) (hr : Rd w w.heap.size 1 A n (l.map B8)) (hln : l.length = n) (hn : n ≤ 140737488355328) (hl : ∀ b ∈ l, b < 256) :
    Calls Tryz.prog 92 #[.slice A n cp] w (Is w (.int .u32 (qp l : Int))) := by
 refine qg (vs := [.slice A n cp]) Tryz.func92 rfl rfl (by kernel_rfl) (σ0 := [(0, .slice A n cp)]) rfl ?_
 intro a HF
 have HM := Mem.start w
 refine wp_seq (qa ?_)
 refine fp HF 1 0 [(2, vW 0)] fun a HF => ?_
 refine qb rfl (wp_seq (qa ?_))
 refine fp HF 1 0 [(3, .slice A n cp)] fun a HF => ?_
 refine fo HF 1 rfl rfl ?_
 refine e_cl HF [vW 0, .slice A n cp] rfl rfl (qqv 0 (by decide) _ _ _ l B _ (hL.mem HM hB) (HM.le hB) (HM.old hr) hln hn hl) ?_
 rintro _ w4 ⟨rfl, hbw⟩
 rw [show (qr (0 ^^^ 4294967295) l ^^^ 4294967295 : Nat) = qp l from qvw (qd3 l (by decide) hl)]
 refine ⟨_, rfl, ?_⟩
 replace HM := HM.call hbw
 clear HF; intro a HF
 refine fp HF 1 2 [(2, vW (qp l))] fun a HF => ?_
 refine qb rfl (wp_ret ?_)
 exact ret1 rfl HF (.tmp HF rfl) (⟨rfl, HM.below⟩)
theorem qyf {w w' : World} {l : List Nat} {n c : Nat} {A : Option Addr} (hln : l.length = n) (ho : w'.ownsRow w.heap.size 5 1 (.slice A (0 + n + 4) c) (0 + n + 4) ([] ++ l.map B8 ++ (le4 (qp l)).map B8)) (hc : 0 + n + 4 ≤ c) (hb : Below w.heap.size w w') : qah w 0 (sealL l) (.returned (.tuple #[.slice A (0 + n + 4) c, .int .i64 0])) w' := by
 have e : 0 + n + 4 = (sealL l).length := by rw [qkv]; omega
 rw [e] at ho hc ⊢
 refine ⟨⟨A, c, rfl, ?_, hc⟩, hb⟩
 have e2 : ([] ++ l.map B8 ++ (le4 (qp l)).map B8) = (sealL l).map B8 := by simp [sealL]
 rw [e2] at ho
 exact ho
theorem qwb (A : Option Addr) (n cp : Nat) (l : List Nat) (B : Nat) (w : World) (hL : LaidX B w) (hB : B ≤ w.heap.size) (hr : Rd w w.heap.size 1 A n (l.map B8)) (hln : l.length = n) (hn : n ≤ 16777216) (hl : ∀ b ∈ l, b < 256) :
    Calls Tryz.prog 77 #[.slice A n cp] w (qah w 0 (sealL l)) := by
 refine qg (vs := [.slice A n cp]) Tryz.func77 rfl rfl (by kernel_rfl) (σ0 := [(0, .slice A n cp)]) rfl ?_
 intro a HF
 have HM := Mem.start w
 refine wp_seq (qa ?_)
 refine fp HF 2 0 [(3, vI 0), (2, .slice none 0 0)] fun a HF => ?_
 refine qb rfl (wp_seq (wp_seq (qa ?_)))
 refine fp HF 1 0 [(6, .slice A n cp)] fun a HF => ?_
 refine fy HF HM 1 rfl rfl rfl (Yl.len rfl rfl (by kernel_rfl)) fun a HF => ?_
 refine fp HF 1 2 [(8, .bool (decide ((n : Int) > (16777216 : Int))))] fun a HF => ?_
 refine qb rfl ?_
 rcases HF.tf 8 rfl with ⟨hb8, HF⟩ | ⟨hb8, HF⟩
 ·
  have hd8 := of_decide_eq_true hb8
  omega
 have hd8 := of_decide_eq_false hb8
 refine qd HF rfl (wp_skip (wp_seq (qa ?_)))
 refine fp HF 1 0 [(9, .slice A n cp)] fun a HF => ?_
 refine fo HF 1 rfl rfl ?_
 refine e_is HF HM [.slice A n cp] (vW (qp l)) rfl rfl (qjh _ _ _ l B _ (hL.mem HM hB) (HM.le hB) (HM.old hr) (hln) (by omega) (hl)) fun w10 hbw HM a HF => ?_
 refine fp HF 1 2 [(4, vW (qp l))] fun a HF => ?_
 refine qb rfl ?_
 have hcs := ql5 l
 refine wp_seq (qa ?_)
 refine fp HF 1 0 [(11, .slice A n cp)] fun a HF => ?_
 refine fy HF HM 1 rfl rfl rfl (Yl.len rfl rfl (by kernel_rfl)) fun a HF => ?_
 refine fp HF 1 2 [(13, vI (IntKind.i64.wrap ((n : Int) + 4)))] fun a HF => ?_
 replace HF := HF.sp 13 (vI (n + 4 : Nat)) rfl (qi (by omega) (by omega))
 refine fo HF 3 rfl rfl ?_
 refine qx7 HF HM (m := (n + 4)) rfl ei_u8 rfl rfl (by omega) (by omega) rfl (by decide) ?_
 clear HF HM; intro a w14 g14 HF HM
 refine fp HF 1 4 [(15, .slice A n cp)] fun a HF => ?_
 refine fo HF 5 rfl rfl ?_
 refine qu HF HM (i := 0) rfl ei_u8 rfl rfl rfl (news := (l.map B8)) (HM.old hr) (qa2 _) (by omega) (by omega) rfl (by decide) ?_
 clear HF HM; intro a w16 A16 c16 HF HM hc16
 refine fp HF 1 6 [(5, .slice A16 (0 + n) c16)] fun a HF => ?_
 refine qb rfl (wp_seq (qa ?_))
 refine fp HF 3 0 [(19, vB (IntKind.u8.wrap (qp l : Int))), (17, .slice A16 (0 + n) c16)] fun a HF => ?_
 replace HF := HF.sp 19 (vB ((qp l) % 256 : Nat)) rfl (qbi (qp l))
 refine fp HF 2 3 [(21, vW (Int.fdiv (qp l : Int) (2 ^ (min (8 : Int).toNat (IntKind.u32).bits))))] fun a HF => ?_
 replace HF := HF.sp 21 (vW ((qp l) / 256 : Nat)) rfl (qdm .u32 (qp l) (j := 8) (q := 256) rfl rfl)
 refine fp HF 1 5 [(22, vB (IntKind.u8.wrap (((qp l) / 256 : Nat) : Int)))] fun a HF => ?_
 replace HF := HF.sp 22 (vB (((qp l) / 256) % 256 : Nat)) rfl (qbi ((qp l) / 256))
 refine fp HF 2 6 [(24, vW (Int.fdiv (qp l : Int) (2 ^ (min (16 : Int).toNat (IntKind.u32).bits))))] fun a HF => ?_
 replace HF := HF.sp 24 (vW ((qp l) / 65536 : Nat)) rfl (qdm .u32 (qp l) (j := 16) (q := 65536) rfl rfl)
 refine fp HF 1 8 [(25, vB (IntKind.u8.wrap (((qp l) / 65536 : Nat) : Int)))] fun a HF => ?_
 replace HF := HF.sp 25 (vB (((qp l) / 65536) % 256 : Nat)) rfl (qbi ((qp l) / 65536))
 refine fp HF 2 9 [(27, vW (Int.fdiv (qp l : Int) (2 ^ (min (24 : Int).toNat (IntKind.u32).bits))))] fun a HF => ?_
 replace HF := HF.sp 27 (vW ((qp l) / 16777216 : Nat)) rfl (qdm .u32 (qp l) (j := 24) (q := 16777216) rfl rfl)
 refine fp HF 1 11 [(28, vB (IntKind.u8.wrap (((qp l) / 16777216 : Nat) : Int)))] fun a HF => ?_
 replace HF := HF.sp 28 (vB (((qp l) / 16777216) % 256 : Nat)) rfl (qbi ((qp l) / 16777216))
 refine fo HF 12 rfl rfl ?_
 refine ze HF HM (vs := [(0, vB ((qp l) % 256 : Nat)), (1, vB (((qp l) / 256) % 256 : Nat)), (2, vB (((qp l) / 65536) % 256 : Nat)), (3, vB (((qp l) / 16777216) % 256 : Nat))]) (cs := #[vB ((qp l) % 256 : Nat), vB (((qp l) / 256) % 256 : Nat), vB (((qp l) / 65536) % 256 : Nat), vB (((qp l) / 16777216) % 256 : Nat)]) rfl ei_u8 (by decide) rfl (by kernel_rfl) rfl (by decide) ?_
 clear HF HM; intro a w29 g29 HF HM
 refine fo HF 13 rfl rfl ?_
 refine qu HF HM (i := 1) rfl ei_u8 rfl rfl rfl (news := ((le4 (qp l)).map B8)) (HM.rdBlk (i := 0) (n := 4) (size := 1) rfl rfl) (qa2 _) (by omega) (by omega) rfl (by decide) ?_
 clear HF HM; intro a w30 A30 c30 HF HM hc30
 refine fp HF 2 14 [(3, vI 0), (2, .slice A30 (0 + n + 4) c30)] fun a HF => ?_
 refine qb rfl (wp_ret ?_)
 replace HM := HM.picks (fs' := [.row (.slice A30 (0 + n + 4) c30) (0 + n + 4) (([] ++ (l.map B8)) ++ ((le4 (qp l)).map B8)) 5 1]) [1] (by decide) rfl
 exact ret2 rfl HF (.tmp HF rfl) (.tmp HF rfl) (qyf hln (HM.own (i := 0) rfl) hc30 HM.below)
theorem qqw {l : List Nat} {n : Nat} (hln : l.length = n) (h : 4 ≤ n) : (((qp (l.take (n - 4)) : Nat) : Int) == ((l.getD (n - 4) 0 + l.getD (n - 4 + 1) 0 * 256 + l.getD (n - 4 + 2) 0 * 65536 + l.getD (n - 4 + 3) 0 * 16777216 : Nat) : Int)) = qca l := by
 subst hln
 have hd : ∀ i, (l.drop (l.length - 4)).getD i 0 = l.getD (l.length - 4 + i) 0 := fun i => by rw [List.getD_eq_getElem?_getD, List.getElem?_drop, ← List.getD_eq_getElem?_getD]
 unfold qca num4
 rw [hd, hd, hd, hd, Bool.eq_iff_iff, beq_iff_eq, decide_eq_true_eq]
 simp only [Nat.add_zero]
 constructor
 ·intro h1; exact ⟨h, by omega⟩
 ·intro h1; have := h1.2; omega
theorem ql7 {l : List Nat} {n : Nat} (hln : l.length = n) (h : n < 4) : qca l = false := by unfold qca; rw [decide_eq_false]; omega
def numUp (l : List Nat) : Nat → Nat
 | 0 => 0
 | k + 1 => numUp l k * 256 + l.getD (3 - k) 0
theorem ql8 (l : List Nat) : numUp l 4 = num4 l := by simp [numUp, num4]; omega
theorem qpd {l : List Nat} (hl : ∀ b ∈ l, b < 256) (hn : 4 ≤ l.length) : ∀ k, k ≤ 4 → numUp l k < 256 ^ k
 | 0, _ => by show 0 < 1; decide
 | k + 1, h => by
  have h1 := qpd hl hn k (by omega)
  have h2 := getD_lt hl (k := 3 - k) (by omega)
  rw [numUp, Nat.pow_succ]
  omega
theorem qn4 {l : List Nat} (hl : ∀ b ∈ l, b < 256) (hn : 4 ≤ l.length) {k : Nat} (h : k ≤ 4) : numUp l k < 4294967296 := by
 have h1 := qpd hl hn k h
 have h2 : (256 : Nat) ^ k ≤ 256 ^ 4 := Nat.pow_le_pow_right (by decide) h
 omega
theorem qqx (A : Option Addr) (n cp : Nat) (l : List Nat) (B : Nat) (w : World) (hL : LaidX B w) (hB : B ≤ w.heap.size) (hr : Rd w w.heap.size 1 A n (l.map B8)) (hc : n ≤ cp) (hln : l.length = n) (hn : n ≤ 140737488355328) (hl : ∀ b ∈ l, b < 256) :
    Calls Tryz.prog 74 #[.slice A n cp] w (Is w (.bool (qca l))) := by
 refine qg (vs := [.slice A n cp]) Tryz.func74 rfl rfl (by kernel_rfl) (σ0 := [(0, .slice A n cp)]) rfl ?_
 intro a HF
 have HM := Mem.start w
 refine wp_seq (qa ?_)
 refine fp HF 1 0 [(2, .bool false)] fun a HF => ?_
 refine qb rfl (wp_seq (qa ?_))
 refine fp HF 1 0 [(4, .slice A n cp)] fun a HF => ?_
 refine fy HF HM 1 rfl rfl rfl (Yl.len rfl rfl (by kernel_rfl)) fun a HF => ?_
 refine fp HF 1 2 [(6, vI (IntKind.i64.wrap ((n : Int) - 4)))] fun a HF => ?_
 replace HF := HF.sp 6 (vI ((n : Int) - 4)) rfl (qgt ⟨by omega, by omega⟩)
 refine fp HF 1 3 [(3, vI ((n : Int) - 4))] fun a HF => ?_
 refine qb rfl (wp_seq (wp_seq (qa ?_)))
 refine fp HF 2 0 [(8, .bool (decide (((n : Int) - 4 : Int) < (0 : Int))))] fun a HF => ?_
 refine qb rfl ?_
 rcases HF.tf 8 rfl with ⟨hb8, HF⟩ | ⟨hb8, HF⟩
 ·
  have hd8 := of_decide_eq_true hb8
  refine qe HF rfl (wp_seq (qa ?_))
  refine fp HF 1 0 [(2, .bool false)] fun a HF => ?_
  refine qb rfl (wp_ret ?_)
  exact ret1 rfl HF (.tmp HF rfl) (⟨by rw [ql7 hln (by omega)], HM.below⟩)
 have hd8 := of_decide_eq_false hb8
 replace HF := HF.as (t := 3) (u := .int .i64 ((n - 4 : Nat) : Int)) rfl (by congr 1; omega)
 refine qd HF rfl (wp_skip (wp_seq ?_))
 refine qag HM [] [] [] fun HM HS => ?_
 refine ap HF (fun _ => HS) [0, 1, 4, 5, 9, 10, 17, 18, 25, 26] #[true, true, false, false, true, true, false, false, false, true, true, false, false, false, false, false, false, true, true, false, false, false, false, false, false, true, true, false, false, false, false, false, false, false, false] [(35, vI (n - 4 : Nat)), (34, .slice A n cp), (27, vI (n - 4 : Nat)), (26, .slice A n cp), (19, vI (n - 4 : Nat)), (18, .slice A n cp), (14, vI (n - 4 : Nat)), (13, .slice A n cp), (10, vI (n - 4 : Nat)), (9, .slice A n cp)] fun a HF => ?_
 refine ay HF HS 2 rfl rfl rfl (v := .slice A (n - 4) cp) (Yl.qbo ei_u8 (j := n - 4) rfl rfl rfl (by omega)) fun a HF => ?_
 obtain ⟨gA, oA, rfl, _⟩ := hr.qy (Nat.lt_of_le_of_lt (Nat.zero_le _) (show n - 4 < n from by omega)) (by decide)
 refine ay HF HS 6 rfl rfl rfl (v := vP gA (oA + (n - 4) * 1)) (Yl.ix gA oA (n - 4) 1 rfl rfl rfl) fun a HF => ?_
 have hx40 := getD_lt hl (k := (n - 4)) (by first | omega | (simp; omega))
 refine ay HF HS 7 rfl rfl rfl (v := vB (l.getD (n - 4) 0)) (Yl.qh rfl rfl (by kernel_rfl) (fun _ h => (h.old hr).qa4 (k := (n - 4)) (qai (F := B8) (k := (n - 4)) (x := (l.getD (n - 4) 0)) ((getD_at 0 (k := (n - 4)) (by first | omega | (simp; omega))))))) fun a HF => ?_
 refine zh HF (fun _ => HS) (i := 8) rfl rfl (d := 17) rfl (by decide) (by kernel_rfl) (fun _ _ _ h => h) (v := vW (IntKind.u32.wrap ((l.getD (n - 4) 0) : Int))) (fun _ => Yl.pure (by kernel_rfl)) fun a HF => ?_
 replace HF := HF.sp 17 (vW (l.getD (n - 4) 0)) rfl (qcq rfl (by omega))
 refine zh HF (fun _ => HS) (i := 11) rfl rfl (d := 20) rfl (by decide) (by kernel_rfl) (fun _ _ _ h => h) (v := vI (IntKind.i64.wrap (((n - 4 : Nat) : Int) + 1))) (fun _ => Yl.pure (by kernel_rfl)) fun a HF => ?_
 replace HF := HF.sp 20 (vI ((n - 4) + 1 : Nat)) rfl (qi (by omega) (by omega))
 refine ay HF HS 12 rfl rfl rfl (v := vP gA (oA + ((n - 4) + 1) * 1)) (Yl.ix gA oA ((n - 4) + 1) 1 rfl rfl rfl) fun a HF => ?_
 have hx47 := getD_lt hl (k := ((n - 4) + 1)) (by first | omega | (simp; omega))
 refine ay HF HS 13 rfl rfl rfl (v := vB (l.getD ((n - 4) + 1) 0)) (Yl.qh rfl rfl (by kernel_rfl) (fun _ h => (h.old hr).qa4 (k := ((n - 4) + 1)) (qai (F := B8) (k := ((n - 4) + 1)) (x := (l.getD ((n - 4) + 1) 0)) ((getD_at 0 (k := ((n - 4) + 1)) (by first | omega | (simp; omega))))))) fun a HF => ?_
 refine zh HF (fun _ => HS) (i := 14) rfl rfl (d := 23) rfl (by decide) (by kernel_rfl) (fun _ _ _ h => h) (v := vW (IntKind.u32.wrap ((l.getD ((n - 4) + 1) 0) : Int))) (fun _ => Yl.pure (by kernel_rfl)) fun a HF => ?_
 replace HF := HF.sp 23 (vW (l.getD ((n - 4) + 1) 0)) rfl (qcq rfl (by omega))
 refine zh HF (fun _ => HS) (i := 15) rfl rfl (d := 24) rfl (by decide) (by kernel_rfl) (fun _ _ _ h => h) (v := vW (IntKind.u32.wrap (((l.getD ((n - 4) + 1) 0) : Int) * 2 ^ (min (8 : Int).toNat (IntKind.u32).bits)))) (fun _ => Yl.pure (by kernel_rfl)) fun a HF => ?_
 replace HF := HF.sp 24 (vW ((l.getD ((n - 4) + 1) 0) * 256 : Nat)) rfl (qcq (by rw [show (2 : Int) ^ (min (8 : Int).toNat (IntKind.u32).bits) = 256 from rfl]; omega) (by omega))
 refine zh HF (fun _ => HS) (i := 16) rfl rfl (d := 25) rfl (by decide) (by kernel_rfl) (fun _ _ _ h => h) (v := vW (IntKind.u32.wrap (BitVec.ofInt (IntKind.u32).bits ((l.getD (n - 4) 0) : Int) ||| BitVec.ofInt (IntKind.u32).bits (((l.getD ((n - 4) + 1) 0) * 256 : Nat) : Int)).toNat)) (fun _ => Yl.pure (by kernel_rfl)) fun a HF => ?_
 replace HF := HF.sp 25 (vW (l.getD (n - 4) 0 + l.getD (n - 4 + 1) 0 * 256 : Nat)) rfl (qkr (m := l.getD (n - 4) 0) (n := l.getD (n - 4 + 1) 0) (j := 8) (p := 256) rfl (by omega) (by omega))
 refine zh HF (fun _ => HS) (i := 19) rfl rfl (d := 28) rfl (by decide) (by kernel_rfl) (fun _ _ _ h => h) (v := vI (IntKind.i64.wrap (((n - 4 : Nat) : Int) + 2))) (fun _ => Yl.pure (by kernel_rfl)) fun a HF => ?_
 replace HF := HF.sp 28 (vI ((n - 4) + 2 : Nat)) rfl (qi (by omega) (by omega))
 refine ay HF HS 20 rfl rfl rfl (v := vP gA (oA + ((n - 4) + 2) * 1)) (Yl.ix gA oA ((n - 4) + 2) 1 rfl rfl rfl) fun a HF => ?_
 have hx58 := getD_lt hl (k := ((n - 4) + 2)) (by first | omega | (simp; omega))
 refine ay HF HS 21 rfl rfl rfl (v := vB (l.getD ((n - 4) + 2) 0)) (Yl.qh rfl rfl (by kernel_rfl) (fun _ h => (h.old hr).qa4 (k := ((n - 4) + 2)) (qai (F := B8) (k := ((n - 4) + 2)) (x := (l.getD ((n - 4) + 2) 0)) ((getD_at 0 (k := ((n - 4) + 2)) (by first | omega | (simp; omega))))))) fun a HF => ?_
 refine zh HF (fun _ => HS) (i := 22) rfl rfl (d := 31) rfl (by decide) (by kernel_rfl) (fun _ _ _ h => h) (v := vW (IntKind.u32.wrap ((l.getD ((n - 4) + 2) 0) : Int))) (fun _ => Yl.pure (by kernel_rfl)) fun a HF => ?_
 replace HF := HF.sp 31 (vW (l.getD ((n - 4) + 2) 0)) rfl (qcq rfl (by omega))
 refine zh HF (fun _ => HS) (i := 23) rfl rfl (d := 32) rfl (by decide) (by kernel_rfl) (fun _ _ _ h => h) (v := vW (IntKind.u32.wrap (((l.getD ((n - 4) + 2) 0) : Int) * 2 ^ (min (16 : Int).toNat (IntKind.u32).bits)))) (fun _ => Yl.pure (by kernel_rfl)) fun a HF => ?_
 replace HF := HF.sp 32 (vW ((l.getD ((n - 4) + 2) 0) * 65536 : Nat)) rfl (qcq (by rw [show (2 : Int) ^ (min (16 : Int).toNat (IntKind.u32).bits) = 65536 from rfl]; omega) (by omega))
 refine zh HF (fun _ => HS) (i := 24) rfl rfl (d := 33) rfl (by decide) (by kernel_rfl) (fun _ _ _ h => h) (v := vW (IntKind.u32.wrap (BitVec.ofInt (IntKind.u32).bits ((l.getD (n - 4) 0 + l.getD (n - 4 + 1) 0 * 256 : Nat) : Int) ||| BitVec.ofInt (IntKind.u32).bits (((l.getD ((n - 4) + 2) 0) * 65536 : Nat) : Int)).toNat)) (fun _ => Yl.pure (by kernel_rfl)) fun a HF => ?_
 replace HF := HF.sp 33 (vW (l.getD (n - 4) 0 + l.getD (n - 4 + 1) 0 * 256 + l.getD (n - 4 + 2) 0 * 65536 : Nat)) rfl (qkr (m := l.getD (n - 4) 0 + l.getD (n - 4 + 1) 0 * 256) (n := l.getD (n - 4 + 2) 0) (j := 16) (p := 65536) rfl (by omega) (by omega))
 refine zh HF (fun _ => HS) (i := 27) rfl rfl (d := 36) rfl (by decide) (by kernel_rfl) (fun _ _ _ h => h) (v := vI (IntKind.i64.wrap (((n - 4 : Nat) : Int) + 3))) (fun _ => Yl.pure (by kernel_rfl)) fun a HF => ?_
 replace HF := HF.sp 36 (vI ((n - 4) + 3 : Nat)) rfl (qi (by omega) (by omega))
 refine ay HF HS 28 rfl rfl rfl (v := vP gA (oA + ((n - 4) + 3) * 1)) (Yl.ix gA oA ((n - 4) + 3) 1 rfl rfl rfl) fun a HF => ?_
 have hx69 := getD_lt hl (k := ((n - 4) + 3)) (by first | omega | (simp; omega))
 refine ay HF HS 29 rfl rfl rfl (v := vB (l.getD ((n - 4) + 3) 0)) (Yl.qh rfl rfl (by kernel_rfl) (fun _ h => (h.old hr).qa4 (k := ((n - 4) + 3)) (qai (F := B8) (k := ((n - 4) + 3)) (x := (l.getD ((n - 4) + 3) 0)) ((getD_at 0 (k := ((n - 4) + 3)) (by first | omega | (simp; omega))))))) fun a HF => ?_
 refine zh HF (fun _ => HS) (i := 30) rfl rfl (d := 39) rfl (by decide) (by kernel_rfl) (fun _ _ _ h => h) (v := vW (IntKind.u32.wrap ((l.getD ((n - 4) + 3) 0) : Int))) (fun _ => Yl.pure (by kernel_rfl)) fun a HF => ?_
 replace HF := HF.sp 39 (vW (l.getD ((n - 4) + 3) 0)) rfl (qcq rfl (by omega))
 refine zh HF (fun _ => HS) (i := 31) rfl rfl (d := 40) rfl (by decide) (by kernel_rfl) (fun _ _ _ h => h) (v := vW (IntKind.u32.wrap (((l.getD ((n - 4) + 3) 0) : Int) * 2 ^ (min (24 : Int).toNat (IntKind.u32).bits)))) (fun _ => Yl.pure (by kernel_rfl)) fun a HF => ?_
 replace HF := HF.sp 40 (vW ((l.getD ((n - 4) + 3) 0) * 16777216 : Nat)) rfl (qcq (by rw [show (2 : Int) ^ (min (24 : Int).toNat (IntKind.u32).bits) = 16777216 from rfl]; omega) (by omega))
 refine zh HF (fun _ => HS) (i := 32) rfl rfl (d := 41) rfl (by decide) (by kernel_rfl) (fun _ _ _ h => h) (v := vW (IntKind.u32.wrap (BitVec.ofInt (IntKind.u32).bits ((l.getD (n - 4) 0 + l.getD (n - 4 + 1) 0 * 256 + l.getD (n - 4 + 2) 0 * 65536 : Nat) : Int) ||| BitVec.ofInt (IntKind.u32).bits (((l.getD ((n - 4) + 3) 0) * 16777216 : Nat) : Int)).toNat)) (fun _ => Yl.pure (by kernel_rfl)) fun a HF => ?_
 replace HF := HF.sp 41 (vW (l.getD (n - 4) 0 + l.getD (n - 4 + 1) 0 * 256 + l.getD (n - 4 + 2) 0 * 65536 + l.getD (n - 4 + 3) 0 * 16777216 : Nat)) rfl (qkr (m := l.getD (n - 4) 0 + l.getD (n - 4 + 1) 0 * 256 + l.getD (n - 4 + 2) 0 * 65536) (n := l.getD (n - 4 + 3) 0) (j := 24) (p := 16777216) rfl (by omega) (by omega))
 refine qj [3] (by kernel_rfl) rfl ?_
 refine all_cons ?_ all_nil
 refine qo HF (i := 3) rfl rfl ?_
 refine e_is HF HM [.slice (some ⟨gA, oA, none⟩) (n - 4) cp] (vW (qp (l.take (n - 4)))) rfl rfl (qjh _ _ _ (l.take (n - 4)) B _ (hL.mem HM hB) (HM.le hB) ((HM.old hr).toB8 (by omega)) (by rw [List.length_take]; omega) (by omega) (qbl hl _)) fun w12 hbw HM a HF => ?_
 refine keepS (HM.picks [] (by decide) rfl) (fun HS => ?_)
 refine ap HF (fun _ => HS) [33, 34] #[true, true, true, true, true, true, true, true, true, true, true, true, true, true, true, true, true, true, true, true, true, true, true, true, true, true, true, true, true, true, true, true, true, true, true] [(2, .bool ((qp (l.take (n - 4)) : Int) == ((l.getD (n - 4) 0 + l.getD (n - 4 + 1) 0 * 256 + l.getD (n - 4 + 2) 0 * 65536 + l.getD (n - 4 + 3) 0 * 16777216 : Nat) : Int)))] fun a HF => ?_
 refine qn (by kernel_rfl) ?_
 replace HF := HF.to [(2, .bool ((qp (l.take (n - 4)) : Int) == ((l.getD (n - 4) 0 + l.getD (n - 4 + 1) 0 * 256 + l.getD (n - 4 + 2) 0 * 65536 + l.getD (n - 4 + 3) 0 * 16777216 : Nat) : Int))), (3, vI (n - 4 : Nat)), (8, .bool false), (0, .slice (some ⟨gA, oA, none⟩) n cp)]
 refine wp_ret ?_
 exact ret1 rfl HF (.tmp HF rfl) (⟨by rw [qqw hln (by omega)], HM.below⟩)
theorem ql9 {w w' : World} {l : List Nat} {n e : Nat} (h : lenR l = (n, e)) (hb : Below w.heap.size w w') : Is w (.tuple #[.int .i64 ((lenR l).1 : Int), .int .i64 ((lenR l).2 : Int)]) (.returned (.tuple #[.int .i64 (n : Int), .int .i64 (e : Int)])) w' := by rw [h]; exact ⟨rfl, hb⟩
theorem qqy (A : Option Addr) (n cp : Nat) (l : List Nat) (w : World) (hr : Rd w w.heap.size 1 A n (l.map B8)) (hln : l.length = n) (hn : n ≤ 9223372036854775807) (hl : ∀ b ∈ l, b < 256) :
    Calls Tryz.prog 73 #[.slice A n cp] w (Is w (.tuple #[.int .i64 ((lenR l).1 : Int), .int .i64 ((lenR l).2 : Int)])) := by
 refine qg (vs := [.slice A n cp]) Tryz.func73 rfl rfl (by kernel_rfl) (σ0 := [(0, .slice A n cp)]) rfl ?_
 intro a HF
 have HM := Mem.start w
 refine wp_seq (qa ?_)
 refine fp HF 2 0 [(3, vI 0), (2, vI 0)] fun a HF => ?_
 refine qb rfl (wp_seq (wp_seq (qa ?_)))
 refine fp HF 1 0 [(6, .slice A n cp)] fun a HF => ?_
 refine fy HF HM 1 rfl rfl rfl (Yl.len rfl rfl (by kernel_rfl)) fun a HF => ?_
 refine fp HF 1 2 [(8, .bool (decide ((n : Int) < (4 : Int))))] fun a HF => ?_
 refine qb rfl ?_
 rcases HF.tf 8 rfl with ⟨hb8, HF⟩ | ⟨hb8, HF⟩
 ·
  have hd8 := of_decide_eq_true hb8
  refine qe HF rfl (wp_seq (qa ?_))
  refine fp HF 2 0 [(3, vI 100), (2, vI 0)] fun a HF => ?_
  refine qb rfl (wp_ret ?_)
  exact ret2 rfl HF (.tmp HF rfl) (.tmp HF rfl) (ql9 (by unfold lenR; rw [if_pos (by omega)]) HM.below)
 have hd8 := of_decide_eq_false hb8
 refine qd HF rfl (wp_skip (wp_seq (qa ?_)))
 refine fp HF 1 0 [(4, vI 0)] fun a HF => ?_
 refine qb rfl (wp_seq (wp_seq (qa ?_)))
 refine fp HF 1 0 [(5, vI 3)] fun a HF => ?_
 refine qb rfl (wp_block ?_)
 refine qs (fun mS aS wS => ∃ (k : Nat), (k ≤ 4) ∧ mS = 4 - k ∧ Fr aS 34 [] [(5, vI (3 - (k : Int))), (4, vI (numUp l k)), (8, .bool false), (3, vI 0), (2, vI 0), (0, .slice A n cp)] ∧ Mem w wS []) (m := 4 - 0) ⟨0, Nat.zero_le _, rfl, HF.sub (by kernel_rfl), HM.picks [] (by decide) rfl⟩ ?_
 clear HF HM; rintro mS a w_ ⟨k, hk, rfl, HF, HM⟩
 have hu := qn4 hl (by omega) hk
 refine wp_seq (wp_seq (qa ?_))
 refine fp HF 2 0 [(10, .bool (decide (3 - (k : Int) ≥ (0 : Int))))] fun a HF => ?_
 refine qb rfl ?_
 rcases HF.tf 10 rfl with ⟨hb10, HF⟩ | ⟨hb10, HF⟩
 ·
  have hd10 := of_decide_eq_true hb10
  have hk3 : k ≤ 3 := by omega
  refine qe HF rfl (wp_skip (wp_seq (wp_block (qa ?_))))
  refine fp HF 2 0 [(14, vI (IntKind.i64.wrap ((numUp l k : Int) * 2 ^ (min (8 : Int).toNat (IntKind.i64).bits))))] fun a HF => ?_
  replace HF := HF.sp 14 (vI ((numUp l k) * 256 : Nat)) rfl (qi (by rw [show (2 : Int) ^ (min (8 : Int).toNat (IntKind.i64).bits) = 256 from rfl]; omega) (by omega))
  refine fp HF 2 2 [(16, vI (3 - (k : Int))), (15, .slice A n cp)] fun a HF => ?_
  replace HF := HF.sp 16 (vI (3 - k : Nat)) rfl (by congr 1; omega)
  obtain ⟨gA, oA, rfl, _⟩ := hr.qy (Nat.lt_of_le_of_lt (Nat.zero_le _) (show 3 - k < n from by omega)) (by decide)
  refine fy HF HM 4 rfl rfl rfl (v := vP gA (oA + (3 - k) * 1)) (Yl.ix gA oA (3 - k) 1 rfl rfl rfl) fun a HF => ?_
  have hx60 := getD_lt hl (k := (3 - k)) (by first | omega | (simp; omega))
  refine fy HF HM 5 rfl rfl rfl (v := vB (l.getD (3 - k) 0)) (Yl.qh rfl rfl (by kernel_rfl) (fun _ h => (h.old hr).qa4 (k := (3 - k)) (qai (F := B8) (k := (3 - k)) (x := (l.getD (3 - k) 0)) ((getD_at 0 (k := (3 - k)) (by first | omega | (simp; omega))))))) fun a HF => ?_
  refine fp HF 1 6 [(19, vI (IntKind.i64.wrap ((l.getD (3 - k) 0) : Int)))] fun a HF => ?_
  replace HF := HF.sp 19 (vI (l.getD (3 - k) 0)) rfl (qi rfl (by omega))
  refine fp HF 1 7 [(20, vI (IntKind.i64.wrap (BitVec.ofInt (IntKind.i64).bits (((numUp l k) * 256 : Nat) : Int) ||| BitVec.ofInt (IntKind.i64).bits ((l.getD (3 - k) 0) : Int)).toNat))] fun a HF => ?_
  replace HF := HF.sp 20 (vI (numUp l (k + 1))) rfl (by have h := qvq (m := numUp l k) (n := l.getD (3 - k) 0) (j := 8) (p := 256) rfl (by omega) (by omega); exact h)
  refine fp HF 1 8 [(4, vI (numUp l (k + 1)))] fun a HF => ?_
  refine qb rfl (qa ?_)
  refine fp HF 2 0 [(12, vI (IntKind.i64.wrap ((3 - (k : Int)) - 1)))] fun a HF => ?_
  replace HF := HF.sp 12 (vI (3 - ((k + 1 : Nat) : Int))) rfl (by rw [IntWalk.i64_in _ (by omega)]; congr 1; omega)
  refine fp HF 1 2 [(5, vI (3 - ((k + 1 : Nat) : Int)))] fun a HF => ?_
  refine qb rfl ?_
  exact ⟨_, (by omega), k + 1, by omega, rfl, HF.sub (by kernel_rfl), HM.picks [] (by decide) rfl⟩
 have hd10 := of_decide_eq_false hb10
 obtain rfl : k = 4 := by omega
 replace HF := HF.as (t := 4) (u := .int .i64 (num4 l : Int)) rfl (by rw [ql8])
 rw [ql8] at hu
 refine qd HF rfl (wp_exit (wp_seq (wp_block (wp_seq (qa ?_)))))
 refine fp HF 3 0 [(24, .bool (decide ((num4 l : Int) < (13 : Int))))] fun a HF => ?_
 rcases HF.tf 24 rfl with ⟨hb24, HF⟩ | ⟨hb24, HF⟩
 ·
  have hd24 := of_decide_eq_true hb24
  refine fp HF 4 3 [(21, .bool true)] fun a HF => ?_
  refine qb rfl (qe HF rfl (wp_seq (qa ?_)))
  refine fp HF 2 0 [(3, vI 101), (2, vI 0)] fun a HF => ?_
  refine qb rfl (wp_ret ?_)
  exact ret2 rfl HF (.tmp HF rfl) (.tmp HF rfl) (ql9 (by unfold lenR; rw [if_neg (by omega), if_pos (by omega)]) HM.below)
 have hd24 := of_decide_eq_false hb24
 refine fp HF 4 3 [(21, .bool (decide ((num4 l : Int) > (4096 : Int))))] fun a HF => ?_
 refine qb rfl ?_
 rcases HF.tf 21 rfl with ⟨hb21, HF⟩ | ⟨hb21, HF⟩
 ·
  have hd21 := of_decide_eq_true hb21
  refine qe HF rfl (wp_seq (qa ?_))
  refine fp HF 2 0 [(3, vI 101), (2, vI 0)] fun a HF => ?_
  refine qb rfl (wp_ret ?_)
  exact ret2 rfl HF (.tmp HF rfl) (.tmp HF rfl) (ql9 (by unfold lenR; rw [if_neg (by omega), if_pos (by omega)]) HM.below)
 have hd21 := of_decide_eq_false hb21
 refine qd HF rfl (wp_seq (qa ?_))
 refine fp HF 2 0 [(30, .slice A n cp), (29, vI (num4 l))] fun a HF => ?_
 refine fy HF HM 2 rfl rfl rfl (Yl.len rfl rfl (by kernel_rfl)) fun a HF => ?_
 refine fp HF 2 3 [(28, .bool (decide ((num4 l : Int) > (n : Int))))] fun a HF => ?_
 refine qb rfl ?_
 rcases HF.tf 28 rfl with ⟨hb28, HF⟩ | ⟨hb28, HF⟩
 ·
  have hd28 := of_decide_eq_true hb28
  refine qe HF rfl (wp_seq (qa ?_))
  refine fp HF 2 0 [(3, vI 100), (2, vI 0)] fun a HF => ?_
  refine qb rfl (wp_ret ?_)
  exact ret2 rfl HF (.tmp HF rfl) (.tmp HF rfl) (ql9 (by unfold lenR; rw [if_neg (by omega), if_neg (by omega), if_pos (by omega)]) HM.below)
 have hd28 := of_decide_eq_false hb28
 refine qd HF rfl (wp_skip (wp_seq (qa ?_)))
 refine fp HF 3 0 [(3, vI 0), (2, vI (num4 l))] fun a HF => ?_
 refine qb rfl (wp_ret ?_)
 exact ret2 rfl HF (.tmp HF rfl) (.tmp HF rfl) (ql9 (by unfold lenR; rw [if_neg (by omega), if_neg (by omega), if_neg (by omega)]) HM.below)
theorem qs9 (g : Nat) (b : Bk) (hok : b.Ok) (A : Option Addr) (c B : Nat) (w : World) (hL : LaidX B w) (hB : B ≤ w.heap.size) (hr : Rd w w.heap.size 11 A b.evs.length (b.evs.flatMap evL)) (hn : b.evs.length ≤ 1000000) (hb : w.heap[g]? = some (.cells (b.cells A c) 27 (0, 0))) :
    Calls Tryz.prog 87 #[.pointer (some ⟨g, 0, none⟩)] w (Is w (.bool b.qds)) := by
 refine qg (vs := [vP g 0]) Tryz.func87 rfl rfl (by kernel_rfl) (σ0 := [(0, vP g 0)]) rfl ?_
 intro a HF
 have HM := Mem.start w
 refine wp_seq (qa ?_)
 refine fp HF 1 0 [(1, .bool false)] fun a HF => ?_
 refine qb rfl (wp_seq (wp_seq (qa ?_)))
 refine fp HF 1 0 [(5, vP g 4)] fun a HF => ?_
 refine fy HF HM 1 rfl rfl rfl (v := .slice A b.evs.length c) (Yl.qh rfl rfl (by kernel_rfl) (fun _ h => h.zn hb rfl)) fun a HF => ?_
 refine fo HF 2 rfl rfl ?_
 refine e_cl HF [.slice A b.evs.length c] rfl rfl (qxh A b.evs.length c b.evs hok.evs B _ (hL.mem HM hB).laid (HM.le hB) (HM.old hr) (by omega) (i := (rowR b.evs).1) (er := (rowR b.evs).2) rfl) ?_
 rintro _ w7 ⟨rfl, hbw⟩
 refine ⟨_, rfl, ?_⟩
 replace HM := HM.call hbw
 clear HF; intro a HF
 refine fp HF 5 3 [(3, vI ((rowR b.evs).2))] fun a HF => ?_
 refine qb rfl (wp_seq (qa ?_))
 refine fp HF 3 0 [(12, .bool (((rowR b.evs).2 : Int) != (0 : Int)))] fun a HF => ?_
 rcases HF.tf 12 rfl with ⟨hb12, HF⟩ | ⟨hb12, HF⟩
 ·
  have hd12 := bne_iff_ne.1 hb12
  refine fp HF 19 3 [(31, .bool true)] fun a HF => ?_
  refine qb rfl (qe HF rfl (wp_seq (qa ?_)))
  refine fp HF 1 0 [(1, .bool false)] fun a HF => ?_
  refine qb rfl (wp_ret ?_)
  exact ret1 rfl HF (.tmp HF rfl) (⟨by rw [show b.qds = false from decide_eq_false (by omega)], HM.below⟩)
 have hd12 := bne_eq_false_iff_eq.1 hb12
 refine fp HF 1 3 [(13, vP g 1)] fun a HF => ?_
 refine fy HF HM 4 rfl rfl rfl (v := vB b.cpu) (Yl.qh rfl rfl (by kernel_rfl) (fun _ h => h.zn hb rfl)) fun a HF => ?_
 refine fp HF 3 5 [(17, .bool (decide ((b.cpu : Int) ≥ (64 : Int))))] fun a HF => ?_
 rcases HF.tf 17 rfl with ⟨hb17, HF⟩ | ⟨hb17, HF⟩
 ·
  have hd17 := of_decide_eq_true hb17
  refine fp HF 14 8 [(31, .bool true)] fun a HF => ?_
  refine qb rfl (qe HF rfl (wp_seq (qa ?_)))
  refine fp HF 1 0 [(1, .bool false)] fun a HF => ?_
  refine qb rfl (wp_ret ?_)
  exact ret1 rfl HF (.tmp HF rfl) (⟨by rw [show b.qds = false from decide_eq_false (by omega)], HM.below⟩)
 have hd17 := of_decide_eq_false hb17
 refine fp HF 1 8 [(18, vP g 2)] fun a HF => ?_
 refine fy HF HM 9 rfl rfl rfl (v := vI b.lost) (Yl.qh rfl rfl (by kernel_rfl) (fun _ h => h.zn hb rfl)) fun a HF => ?_
 refine fp HF 3 10 [(22, .bool (decide ((b.lost : Int) < (0 : Int))))] fun a HF => ?_
 rcases HF.tf 22 rfl with ⟨hb22, HF⟩ | ⟨hb22, HF⟩
 ·
  have hd22 := of_decide_eq_true hb22
  refine fp HF 9 13 [(31, .bool true)] fun a HF => ?_
  refine qb rfl (qe HF rfl (wp_seq (qa ?_)))
  refine fp HF 1 0 [(1, .bool false)] fun a HF => ?_
  refine qb rfl (wp_ret ?_)
  exact ret1 rfl HF (.tmp HF rfl) (⟨by rw [show b.qds = false from decide_eq_false (by omega)], HM.below⟩)
 have hd22 := of_decide_eq_false hb22
 refine fp HF 1 13 [(23, vP g 2)] fun a HF => ?_
 refine fy HF HM 14 rfl rfl rfl (v := vI b.lost) (Yl.qh rfl rfl (by kernel_rfl) (fun _ h => h.zn hb rfl)) fun a HF => ?_
 refine fp HF 3 15 [(27, .bool (decide ((b.lost : Int) > (281474976710656 : Int))))] fun a HF => ?_
 rcases HF.tf 27 rfl with ⟨hb27, HF⟩ | ⟨hb27, HF⟩
 ·
  have hd27 := of_decide_eq_true hb27
  refine fp HF 4 18 [(31, .bool true)] fun a HF => ?_
  refine qb rfl (qe HF rfl (wp_seq (qa ?_)))
  refine fp HF 1 0 [(1, .bool false)] fun a HF => ?_
  refine qb rfl (wp_ret ?_)
  exact ret1 rfl HF (.tmp HF rfl) (⟨by rw [show b.qds = false from decide_eq_false (by omega)], HM.below⟩)
 have hd27 := of_decide_eq_false hb27
 refine fp HF 1 18 [(28, vP g 3)] fun a HF => ?_
 refine fy HF HM 19 rfl rfl rfl (v := vI b.next) (Yl.qh rfl rfl (by kernel_rfl) (fun _ h => h.zn hb rfl)) fun a HF => ?_
 refine fp HF 2 20 [(31, .bool ((b.next : Int) != (0 : Int)))] fun a HF => ?_
 refine qb rfl ?_
 rcases HF.tf 31 rfl with ⟨hb31, HF⟩ | ⟨hb31, HF⟩
 ·
  have hd31 := bne_iff_ne.1 hb31
  refine qe HF rfl (wp_seq (qa ?_))
  refine fp HF 1 0 [(1, .bool false)] fun a HF => ?_
  refine qb rfl (wp_ret ?_)
  exact ret1 rfl HF (.tmp HF rfl) (⟨by rw [show b.qds = false from decide_eq_false (by omega)], HM.below⟩)
 have hd31 := bne_eq_false_iff_eq.1 hb31
 refine qd HF rfl (wp_skip (wp_seq (wp_seq (qa ?_))))
 refine fp HF 1 0 [(32, vP g 4)] fun a HF => ?_
 refine fy HF HM 1 rfl rfl rfl (v := .slice A b.evs.length c) (Yl.qh rfl rfl (by kernel_rfl) (fun _ h => h.zn hb rfl)) fun a HF => ?_
 refine fy HF HM 2 rfl rfl rfl (Yl.len rfl rfl (by kernel_rfl)) fun a HF => ?_
 refine fp HF 1 3 [(35, .bool ((b.evs.length : Int) == (0 : Int)))] fun a HF => ?_
 refine qb rfl ?_
 rcases HF.tf 35 rfl with ⟨hb35, HF⟩ | ⟨hb35, HF⟩
 ·
  have hd35 := eq_of_beq hb35
  refine qe HF rfl (wp_seq (qa ?_))
  refine fp HF 1 0 [(36, vP g 2)] fun a HF => ?_
  refine fy HF HM 1 rfl rfl rfl (v := vI b.lost) (Yl.qh rfl rfl (by kernel_rfl) (fun _ h => h.zn hb rfl)) fun a HF => ?_
  refine fp HF 2 2 [(1, .bool (decide ((b.lost : Int) > (0 : Int))))] fun a HF => ?_
  refine qb rfl (wp_ret ?_)
  exact ret1 rfl HF (.tmp HF rfl) (⟨by rw [Bool.eq_iff_iff.2 (show (decide ((b.lost : Int) > (0 : Int))) = true ↔ b.qds = true by unfold Bk.qds; rw [qge (by omega)]; simp only [decide_eq_true_eq, beq_iff_eq]; omega)], HM.below⟩)
 have hd35 := ne_of_beq_false hb35
 refine qd HF rfl (wp_skip (wp_seq ?_))
 refine qag HM [] [] [] fun HM HS => ?_
 refine ap HF (fun _ => HS) [0, 5] #[true, false, false, false, false, true, false, false, false] [(44, vP g 1), (39, vP g 4)] fun a HF => ?_
 refine ay HF HS 1 rfl rfl rfl (v := .slice A b.evs.length c) (Yl.qh rfl rfl (by kernel_rfl) (fun _ h => h.zn hb rfl)) fun a HF => ?_
 obtain ⟨gA, oA, rfl, _⟩ := hr.qy (Nat.lt_of_le_of_lt (Nat.zero_le _) (show 0 < b.evs.length from by omega)) (by decide)
 refine ay HF HS 2 rfl rfl rfl (v := vP gA oA) (Yl.indexAddr (ad := ⟨gA, oA, none⟩) (y := 0) (sz := 11) rfl rfl rfl (by omega) (by kernel_rfl)) fun a HF => ?_
 refine ap HF (fun _ => HS) [3] #[true, true, true, true, false, true, false, false, false] [(42, vP gA (oA + 2))] fun a HF => ?_
 refine ay HF HS 4 rfl rfl rfl (v := vB ((b.evs.getD 0 Ev.zero).cpu)) (Yl.qh rfl rfl (by kernel_rfl) (fun _ h => (h.old hr).partAt zf (k := 0) (j := 2) (x := (b.evs.getD 0 Ev.zero)) ((getD_at Ev.zero (k := 0) (by first | omega | (simp; omega)))) rfl)) fun a HF => ?_
 refine ay HF HS 6 rfl rfl rfl (v := vB b.cpu) (Yl.qh rfl rfl (by kernel_rfl) (fun _ h => h.zn hb rfl)) fun a HF => ?_
 refine ap HF (fun _ => HS) [7, 8] #[true, true, true, true, true, true, true, true, true] [(1, .bool (((b.evs.getD 0 Ev.zero).cpu : Int) == (b.cpu : Int)))] fun a HF => ?_
 refine qn (by kernel_rfl) ?_
 refine wp_ret ?_
 exact ret1 rfl HF (.tmp HF rfl) (⟨by rw [Bool.eq_iff_iff.2 (show (((b.evs.getD 0 Ev.zero).cpu : Int) == (b.cpu : Int)) = true ↔ b.qds = true by unfold Bk.qds; rw [qhu (by omega)]; simp only [decide_eq_true_eq, beq_iff_eq]; omega)], HM.below⟩)
theorem qta (g : Nat) (b : Bk) (A : Option Addr) (c : Nat) (w : World) (hb : w.heap[g]? = some (.cells (b.cells A c) 27 (0, 0))) :
    Calls Tryz.prog 88 #[.pointer (some ⟨g, 0, none⟩)] w (Is w (.bool b.qis)) := by
 refine qg (vs := [vP g 0]) Tryz.func88 rfl rfl (by kernel_rfl) (σ0 := [(0, vP g 0)]) rfl ?_
 intro a HF
 have HM := Mem.start w
 refine wp_seq (qa ?_)
 refine fp HF 1 0 [(1, .bool false)] fun a HF => ?_
 refine qb rfl (wp_seq (qa ?_))
 refine fp HF 1 0 [(2, vP g 3)] fun a HF => ?_
 refine fy HF HM 1 rfl rfl rfl (v := vI b.next) (Yl.qh rfl rfl (by kernel_rfl) (fun _ h => h.zn hb rfl)) fun a HF => ?_
 refine fp HF 2 2 [(5, .bool (decide ((b.next : Int) ≥ (1 : Int))))] fun a HF => ?_
 rcases HF.tf 5 rfl with ⟨hb5, HF⟩ | ⟨hb5, HF⟩
 ·
  have hd5 := of_decide_eq_true hb5
  refine fp HF 1 4 [(6, vP g 3)] fun a HF => ?_
  refine fy HF HM 5 rfl rfl rfl (v := vI b.next) (Yl.qh rfl rfl (by kernel_rfl) (fun _ h => h.zn hb rfl)) fun a HF => ?_
  refine fp HF 3 6 [(10, .bool (decide ((b.next : Int) ≤ (281474976710657 : Int))))] fun a HF => ?_
  rcases HF.tf 10 rfl with ⟨hb10, HF⟩ | ⟨hb10, HF⟩
  ·
   have hd10 := of_decide_eq_true hb10
   refine fp HF 1 9 [(11, vP g 1)] fun a HF => ?_
   refine fy HF HM 10 rfl rfl rfl (v := vB b.cpu) (Yl.qh rfl rfl (by kernel_rfl) (fun _ h => h.zn hb rfl)) fun a HF => ?_
   refine fp HF 3 11 [(15, .bool ((b.cpu : Int) == (0 : Int)))] fun a HF => ?_
   rcases HF.tf 15 rfl with ⟨hb15, HF⟩ | ⟨hb15, HF⟩
   ·
    have hd15 := eq_of_beq hb15
    refine fp HF 1 14 [(16, vP g 2)] fun a HF => ?_
    refine fy HF HM 15 rfl rfl rfl (v := vI b.lost) (Yl.qh rfl rfl (by kernel_rfl) (fun _ h => h.zn hb rfl)) fun a HF => ?_
    refine fp HF 3 16 [(20, .bool ((b.lost : Int) == (0 : Int)))] fun a HF => ?_
    rcases HF.tf 20 rfl with ⟨hb20, HF⟩ | ⟨hb20, HF⟩
    ·
     have hd20 := eq_of_beq hb20
     refine fp HF 1 19 [(21, vP g 4)] fun a HF => ?_
     refine fy HF HM 20 rfl rfl rfl (v := .slice A b.evs.length c) (Yl.qh rfl rfl (by kernel_rfl) (fun _ h => h.zn hb rfl)) fun a HF => ?_
     refine fy HF HM 21 rfl rfl rfl (Yl.len rfl rfl (by kernel_rfl)) fun a HF => ?_
     refine fp HF 3 22 [(1, .bool ((b.evs.length : Int) == (0 : Int)))] fun a HF => ?_
     refine qb rfl (wp_ret ?_)
     exact ret1 rfl HF (.tmp HF rfl) (⟨by rw [Bool.eq_iff_iff.2 (show ((b.evs.length : Int) == (0 : Int)) = true ↔ b.qis = true by unfold Bk.qis; simp only [decide_eq_true_eq, beq_iff_eq]; omega)], HM.below⟩)
    have hd20 := ne_of_beq_false hb20
    refine fp HF 6 19 [(1, .bool false)] fun a HF => ?_
    refine qb rfl (wp_ret ?_)
    exact ret1 rfl HF (.tmp HF rfl) (⟨by rw [show b.qis = false from decide_eq_false (by omega)], HM.below⟩)
   have hd15 := ne_of_beq_false hb15
   refine fp HF 11 14 [(1, .bool false)] fun a HF => ?_
   refine qb rfl (wp_ret ?_)
   exact ret1 rfl HF (.tmp HF rfl) (⟨by rw [show b.qis = false from decide_eq_false (by omega)], HM.below⟩)
  have hd10 := of_decide_eq_false hb10
  refine fp HF 16 9 [(1, .bool false)] fun a HF => ?_
  refine qb rfl (wp_ret ?_)
  exact ret1 rfl HF (.tmp HF rfl) (⟨by rw [show b.qis = false from decide_eq_false (by omega)], HM.below⟩)
 have hd5 := of_decide_eq_false hb5
 refine fp HF 21 4 [(1, .bool false)] fun a HF => ?_
 refine qb rfl (wp_ret ?_)
 exact ret1 rfl HF (.tmp HF rfl) (⟨by rw [show b.qis = false from decide_eq_false (by omega)], HM.below⟩)
theorem qeh (b : Bk) (hok : b.Ok) (A : Option Addr) (c B : Nat) (w : World) (hL : LaidX B w) (hB : B ≤ w.heap.size) (hr : Rd w w.heap.size 11 A b.evs.length (b.evs.flatMap evL)) (hn : b.evs.length ≤ 1000000) :
    Calls Tryz.prog 67 #[.agg (b.cells A c)] w (Is w (.bool b.fits)) := by
 refine qg (vs := [.agg (b.cells A c)]) Tryz.func67 rfl rfl (by kernel_rfl) (σ0 := [(0, .agg (b.cells A c))]) rfl ?_
 intro a HF
 have HM := Mem.start w
 refine wp_seq (qa ?_)
 refine fo HF 0 rfl rfl ?_
 refine e_box HF HM (cs := (b.cells A c)) rfl rfl rfl rfl (by decide) ?_
 clear HF HM; intro a w1 g1 HF HM
 refine fp HF 1 1 [(2, .bool false)] fun a HF => ?_
 refine qb rfl (wp_seq (qa ?_))
 refine fo HF 0 rfl rfl ?_
 refine qsq HF HM rfl rfl (by decide) ?_
 clear HF HM; intro a w5 g5 HF HM
 refine fy HF HM 1 rfl rfl rfl (v := .func (.func 87) #[] #[vP g1 0]) (Yl.makeFunc (fst := []) (caps := [vP g1 0]) rfl rfl rfl) fun a HF => ?_
 refine fo HF 2 rfl rfl ?_
 refine qo8 HF HM (i := 0) (kt := 5) (et := 24) (kd := .int .u8) (Or.inr rfl) rfl (by kernel_rfl) (by kernel_rfl) rfl rfl rfl rfl (by first | trivial | rfl) (rfl) ?_
 clear HM; intro w1_2 HM
 refine fy HF HM 3 rfl rfl rfl (v := .func (.func 88) #[] #[vP g1 0]) (Yl.makeFunc (fst := []) (caps := [vP g1 0]) rfl rfl rfl) fun a HF => ?_
 refine fo HF 4 rfl rfl ?_
 refine qo8 HF HM (i := 0) (kt := 5) (et := 24) (kd := .int .u8) (Or.inr rfl) rfl (by kernel_rfl) (by kernel_rfl) rfl rfl rfl rfl (by first | trivial | rfl) (rfl) ?_
 clear HM; intro w1_4 HM
 refine fp HF 2 5 [(3, .map (some g5))] fun a HF => ?_
 refine qb rfl ?_
 rcases qzs b.kind with hk | hk | ⟨hk, hk2⟩
 ·
  refine wp_seq (qa ?_)
  refine fp HF 2 0 [(10, vP g1 0), (9, .map (some g5))] fun a HF => ?_
  refine fy HF HM 2 rfl rfl rfl (v := vB b.kind) (Yl.qh rfl rfl (by kernel_rfl) (fun _ h => h.cell (i := 1) rfl (rfl))) fun a HF => ?_
  refine fy HF HM 3 rfl rfl rfl (v := .func (.func 87) #[] #[vP g1 0]) (Yl.qnn (kt := 5) (et := 24) (kd := .int .u8) (j := 0) (es := (#[].push { key := vB 1, val := .func (.func 87) #[] #[vP g1 0], born := 0 }).push { key := vB 2, val := .func (.func 88) #[] #[vP g1 0], born := 0 + 1 }) (clock := 0 + 1 + 1) rfl (by kernel_rfl) (by kernel_rfl) rfl rfl (fun _ h => h.objAt (i := 0) rfl) (by first | trivial | rfl) (by rw [hk]; rfl)) fun a HF => ?_
  refine fp HF 1 4 [(4, .func (.func 87) #[] #[vP g1 0])] fun a HF => ?_
  refine qb rfl (wp_seq (qa ?_))
  refine fp HF 1 0 [(13, .func (.func 87) #[] #[vP g1 0])] fun a HF => ?_
  refine fy HF HM 1 rfl rfl rfl (v := .bool true) (Yl.qu9 rfl rfl rfl (by kernel_rfl)) fun a HF => ?_
  refine fp HF 2 2 [(16, .func (.func 87) #[] #[vP g1 0]), (15, .bool true)] fun a HF => ?_
  refine fo HF 4 rfl rfl ?_
  refine qcz HF (f := 87) (vs := []) (fst := []) (caps := [vP g1 0]) rfl rfl rfl (by kernel_rfl) rfl (by decide) (qs9 _ b hok A c B _ (hL.mem HM hB) (HM.le hB) (HM.old hr) hn (HM.blk (i := 1) rfl)) ?_
  rintro _ w17 ⟨rfl, hbw⟩
  refine ⟨_, rfl, ?_⟩
  replace HM := HM.call hbw
  clear HF; intro a HF
  refine fp HF 2 5 [(2, .bool b.qds)] fun a HF => ?_
  refine qb rfl (wp_ret ?_)
  replace HM := HM.picks (fs' := [.blk g1 (b.cells A c) 27]) [1] (by decide) rfl
  exact ret1 rfl HF (.tmp HF rfl) (⟨by unfold Bk.fits; rw [if_pos hk], HM.below⟩)
 ·
  refine wp_seq (qa ?_)
  refine fp HF 2 0 [(10, vP g1 0), (9, .map (some g5))] fun a HF => ?_
  refine fy HF HM 2 rfl rfl rfl (v := vB b.kind) (Yl.qh rfl rfl (by kernel_rfl) (fun _ h => h.cell (i := 1) rfl (rfl))) fun a HF => ?_
  refine fy HF HM 3 rfl rfl rfl (v := .func (.func 88) #[] #[vP g1 0]) (Yl.qnn (kt := 5) (et := 24) (kd := .int .u8) (j := 1) (es := (#[].push { key := vB 1, val := .func (.func 87) #[] #[vP g1 0], born := 0 }).push { key := vB 2, val := .func (.func 88) #[] #[vP g1 0], born := 0 + 1 }) (clock := 0 + 1 + 1) rfl (by kernel_rfl) (by kernel_rfl) rfl rfl (fun _ h => h.objAt (i := 0) rfl) (by first | trivial | rfl) (by rw [hk]; rfl)) fun a HF => ?_
  refine fp HF 1 4 [(4, .func (.func 88) #[] #[vP g1 0])] fun a HF => ?_
  refine qb rfl (wp_seq (qa ?_))
  refine fp HF 1 0 [(13, .func (.func 88) #[] #[vP g1 0])] fun a HF => ?_
  refine fy HF HM 1 rfl rfl rfl (v := .bool true) (Yl.qu9 rfl rfl rfl (by kernel_rfl)) fun a HF => ?_
  refine fp HF 2 2 [(16, .func (.func 88) #[] #[vP g1 0]), (15, .bool true)] fun a HF => ?_
  refine fo HF 4 rfl rfl ?_
  refine qcz HF (f := 88) (vs := []) (fst := []) (caps := [vP g1 0]) rfl rfl rfl (by kernel_rfl) rfl (by decide) (qta _ b A c _ (HM.blk (i := 1) rfl)) ?_
  rintro _ w17 ⟨rfl, hbw⟩
  refine ⟨_, rfl, ?_⟩
  replace HM := HM.call hbw
  clear HF; intro a HF
  refine fp HF 2 5 [(2, .bool b.qis)] fun a HF => ?_
  refine qb rfl (wp_ret ?_)
  replace HM := HM.picks (fs' := [.blk g1 (b.cells A c) 27]) [1] (by decide) rfl
  exact ret1 rfl HF (.tmp HF rfl) (⟨by unfold Bk.fits; rw [if_neg (by omega), if_pos hk], HM.below⟩)
 ·
  refine wp_seq (qa ?_)
  refine fp HF 2 0 [(10, vP g1 0), (9, .map (some g5))] fun a HF => ?_
  refine fy HF HM 2 rfl rfl rfl (v := vB b.kind) (Yl.qh rfl rfl (by kernel_rfl) (fun _ h => h.cell (i := 1) rfl (rfl))) fun a HF => ?_
  refine fy HF HM 3 rfl rfl rfl (v := .nilFunc) (Yl.qrq (kt := 5) (et := 24) (kd := .int .u8) (es := (#[].push { key := vB 1, val := .func (.func 87) #[] #[vP g1 0], born := 0 }).push { key := vB 2, val := .func (.func 88) #[] #[vP g1 0], born := 0 + 1 }) (clock := 0 + 1 + 1) rfl (by kernel_rfl) (by kernel_rfl) rfl rfl (fun _ h => h.objAt (i := 0) rfl) (by first | trivial | rfl) (by have e1 : ((b.kind : Int) == 1) = false := (by rw [beq_eq_false_iff_ne]; omega); have e2 : ((b.kind : Int) == 2) = false := (by rw [beq_eq_false_iff_ne]; omega); simp [Instr.findNow, Instr.sameNow, e1, e2]) (by kernel_rfl)) fun a HF => ?_
  refine fp HF 1 4 [(4, .nilFunc)] fun a HF => ?_
  refine qb rfl (wp_seq (qa ?_))
  refine fp HF 1 0 [(13, .nilFunc)] fun a HF => ?_
  refine fy HF HM 1 rfl rfl rfl (v := .bool false) (Yl.q0a rfl rfl rfl (by kernel_rfl)) fun a HF => ?_
  refine fp HF 5 2 [(2, .bool false)] fun a HF => ?_
  refine qb rfl (wp_ret ?_)
  replace HM := HM.picks (fs' := [.blk g1 (b.cells A c) 27]) [1] (by decide) rfl
  exact ret1 rfl HF (.tmp HF rfl) (⟨by unfold Bk.fits; rw [if_neg hk, if_neg hk2], HM.below⟩)
theorem qpe (b : Bk) (A : Option Addr) (c : Nat) (w : World) (hr : Rd w w.heap.size 11 A b.evs.length (b.evs.flatMap evL)) (h0 : b.evs.length ≠ 0) :
    Calls Tryz.prog 68 #[.agg (b.cells A c)] w (Is w (.agg b.base.cells)) := by
 refine qg (vs := [.agg (b.cells A c)]) Tryz.func68 rfl rfl (by kernel_rfl) (σ0 := [(0, .agg (b.cells A c))]) rfl ?_
 intro a HF
 have HM := Mem.start w
 refine wp_seq (qa ?_)
 refine fo HF 0 rfl rfl ?_
 refine e_box HF HM (cs := (b.cells A c)) rfl rfl rfl rfl (by decide) ?_
 clear HF HM; intro a w1 g1 HF HM
 refine fo HF 1 rfl rfl ?_
 refine qt HF HM (cs := #[vI 0, vI 0]) rfl (by kernel_rfl) rfl (by decide) ?_
 clear HF HM; intro a w2 g2 HF HM
 refine qb rfl (wp_seq ?_)
 refine qag HM [.blk g2 #[vI 0, vI 0] 133, .blk g1 (b.cells A c) 27] [0, 1] [11] fun HM HS => ?_
 refine ap HF (fun _ => HS) [0, 5] #[true, false, false, false, false, true, false, false, false, false, false, false] [(8, vP g1 4), (3, vP g1 4)] fun a HF => ?_
 refine ay HF HS 1 rfl rfl rfl (v := .slice A b.evs.length c) (Yl.qh rfl rfl (by kernel_rfl) (fun _ h => h.cell (i := 1) rfl (rfl))) fun a HF => ?_
 obtain ⟨gA, oA, rfl, _⟩ := hr.qy (Nat.lt_of_le_of_lt (Nat.zero_le _) (show 0 < b.evs.length from by omega)) (by decide)
 refine ay HF HS 2 rfl rfl rfl (v := vP gA oA) (Yl.indexAddr (ad := ⟨gA, oA, none⟩) (y := 0) (sz := 11) rfl rfl rfl (by omega) (by kernel_rfl)) fun a HF => ?_
 refine ap HF (fun _ => HS) [3] #[true, true, true, true, false, true, false, false, false, false, false, false] [(6, vP gA oA)] fun a HF => ?_
 refine ay HF HS 4 rfl rfl rfl (v := vI ((b.evs.getD 0 Ev.zero).seq)) (Yl.qh rfl rfl (by kernel_rfl) (fun _ h => (by have := (h.old hr).partAt zf (k := 0) (j := 0) (x := (b.evs.getD 0 Ev.zero)) ((getD_at Ev.zero (k := 0) (by first | omega | (simp; omega)))) rfl; simpa using this))) fun a HF => ?_
 refine ay HF HS 6 rfl rfl rfl (v := .slice (some ⟨gA, oA, none⟩) b.evs.length c) (Yl.qh rfl rfl (by kernel_rfl) (fun _ h => h.cell (i := 1) rfl (rfl))) fun a HF => ?_
 refine ay HF HS 7 rfl rfl rfl (v := vP gA oA) (Yl.indexAddr (ad := ⟨gA, oA, none⟩) (y := 0) (sz := 11) rfl rfl rfl (by omega) (by kernel_rfl)) fun a HF => ?_
 refine ap HF (fun _ => HS) [8] #[true, true, true, true, true, true, true, true, true, false, false, false] [(11, vP gA (oA + 1))] fun a HF => ?_
 refine ay HF HS 9 rfl rfl rfl (v := vI ((b.evs.getD 0 Ev.zero).time)) (Yl.qh rfl rfl (by kernel_rfl) (fun _ h => (h.old hr).partAt zf (k := 0) (j := 1) (x := (b.evs.getD 0 Ev.zero)) ((getD_at Ev.zero (k := 0) (by first | omega | (simp; omega)))) rfl)) fun a HF => ?_
 refine ay HF HS 10 rfl rfl rfl (v := .agg #[vI ((b.evs.getD 0 Ev.zero).seq), vI ((b.evs.getD 0 Ev.zero).time)]) (Yl.build (vs := [(0, vI ((b.evs.getD 0 Ev.zero).seq)), (1, vI ((b.evs.getD 0 Ev.zero).time))]) rfl (by kernel_rfl) (by kernel_rfl)) fun a HF => ?_
 refine qj [11] (by kernel_rfl) rfl ?_
 refine all_cons ?_ all_nil
 refine qo HF (i := 11) rfl rfl ?_
 refine e_sa HF HM 0 rfl rfl rfl rfl rfl ⟨(by kernel_rfl), (by kernel_rfl)⟩ rfl rfl (by simp [Value.oneCell']) ?_
 clear HM; intro w1_11 HM
 refine noS (by kernel_rfl) ?_
 refine qn (by kernel_rfl) ?_
 replace HM := HM.picks (fs' := [.blk g2 #[vI ((b.evs.getD 0 Ev.zero).seq), vI ((b.evs.getD 0 Ev.zero).time)] 133]) [0] (by decide) rfl
 refine wp_ret ?_
 exact ret1 rfl HF (.cellS (i := 0) HF HM rfl rfl ⟨(by kernel_rfl), (by kernel_rfl)⟩ rfl) (⟨by rw [qd6]; rfl, HM.below⟩)
theorem qgf (x : Nat) (hx : x < 18446744073709551616) (w : World) :
    Calls Tryz.prog 96 #[.int .u64 (x : Int)] w (qad w (vbytes x)) := by
 refine qg (vs := [vQ x]) Tryz.func96 rfl rfl (by kernel_rfl) (σ0 := [(0, vQ x)]) rfl ?_
 intro a HF
 have HM := Mem.start w
 refine wp_seq (qa ?_)
 refine fp HF 1 0 [(2, .slice none 0 0)] fun a HF => ?_
 refine qb rfl (wp_seq (qa ?_))
 refine fp HF 1 0 [(3, vQ x)] fun a HF => ?_
 refine fo HF 1 rfl rfl ?_
 refine e_cl HF [.slice none 0 0, vQ x] rfl rfl (qqs hx) ?_
 rintro _ w4 ⟨⟨A4, c4, rfl, ho, hc4⟩, hbw⟩
 refine ⟨_, rfl, ?_⟩
 replace HM := HM.callRow hbw ho
 clear HF; intro a HF
 refine fp HF 1 2 [(2, .slice A4 ((vbytes x).length) c4)] fun a HF => ?_
 refine qb rfl (wp_ret ?_)
 exact ret1 rfl HF (.tmp HF rfl) (⟨⟨_, _, rfl, HM.own (i := 0) rfl, hc4⟩, HM.below⟩)
theorem all4 {w : World} {a b c d : Part} (ha : Rd w w.heap.size 1 a.A a.l.length (a.l.map B8)) (hb : Rd w w.heap.size 1 b.A b.l.length (b.l.map B8)) (hc : Rd w w.heap.size 1 c.A c.l.length (c.l.map B8)) (hd : Rd w w.heap.size 1 d.A d.l.length (d.l.map B8)) : ∀ p ∈ [a, b, c, d], Rd w w.heap.size 1 p.A p.l.length (p.l.map B8) := by
 intro p hp
 simp only [List.mem_cons, List.not_mem_nil, or_false] at hp
 rcases hp with rfl | rfl | rfl | rfl
 ·exact ha
 ·exact hb
 ·exact hc
 ·exact hd
theorem qwc (b : Bk) (hok : b.Ok) (A : Option Addr) (c B : Nat) (w : World) (hL : LaidX B w) (hB : B ≤ w.heap.size) (hr : Rd w w.heap.size 11 A b.evs.length (b.evs.flatMap evL)) (hn : b.evs.length ≤ 1000000) (hf : b.fits = true) :
    Calls Tryz.prog 76 #[.agg (b.cells A c)] w (qad w b.body) := by
 have hcpu := hok.cpu
 refine qg (vs := [.agg (b.cells A c)]) Tryz.func76 rfl rfl (by kernel_rfl) (σ0 := [(0, .agg (b.cells A c))]) rfl ?_
 intro a HF
 have HM := Mem.start w
 refine wp_seq (qa ?_)
 refine fo HF 0 rfl rfl ?_
 refine e_box HF HM (cs := (b.cells A c)) rfl rfl rfl rfl (by decide) ?_
 clear HF HM; intro a w1 g1 HF HM
 refine fp HF 1 1 [(2, .slice none 0 0)] fun a HF => ?_
 refine qb rfl (wp_seq (wp_seq (qa ?_)))
 refine fp HF 1 0 [(7, vP g1 0)] fun a HF => ?_
 refine fy HF HM 1 rfl rfl rfl (v := vB b.kind) (Yl.qh rfl rfl (by kernel_rfl) (fun _ h => h.cell (i := 0) rfl (rfl))) fun a HF => ?_
 refine fp HF 1 2 [(9, .bool ((b.kind : Int) == (2 : Int)))] fun a HF => ?_
 refine qb rfl ?_
 rcases HF.tf 9 rfl with ⟨hb9, HF⟩ | ⟨hb9, HF⟩
 ·
  have hd9 := eq_of_beq hb9
  have hk : b.kind = 2 := by omega
  obtain ⟨n1, n2, n3, n4, n5⟩ := qhw hf hk
  refine qe HF rfl (wp_seq (qa ?_))
  refine fp HF 1 0 [(10, vP g1 3)] fun a HF => ?_
  refine fy HF HM 1 rfl rfl rfl (v := vI b.next) (Yl.qh rfl rfl (by kernel_rfl) (fun _ h => h.cell (i := 0) rfl (rfl))) fun a HF => ?_
  refine fp HF 1 2 [(12, vQ (IntKind.u64.wrap b.next))] fun a HF => ?_
  replace HF := HF.sp 12 (vQ b.next.toNat) rfl (qaj (by omega) (by omega))
  refine fo HF 3 rfl rfl ?_
  refine e_cl HF [vQ b.next.toNat] rfl rfl (qgf b.next.toNat (by omega) _) ?_
  rintro _ w13 ⟨⟨A13, c13, rfl, ho, hc13⟩, hbw⟩
  refine ⟨_, rfl, ?_⟩
  replace HM := HM.callRow hbw ho
  clear HF; intro a HF
  refine fp HF 1 4 [(2, .slice A13 ((vbytes b.next.toNat).length) c13)] fun a HF => ?_
  refine qb rfl (wp_ret ?_)
  exact ret1 rfl HF (.tmp HF rfl) (qad.as ⟨⟨_, _, rfl, HM.own (i := 0) rfl, hc13⟩, HM.below⟩ (by unfold Bk.body; rw [if_pos hk]))
 have hd9 := ne_of_beq_false hb9
 have hk : b.kind ≠ 2 := by omega
 obtain ⟨m0, m1, m2, m3, m4⟩ := qhv hf hk
 refine qd HF rfl (wp_skip (wp_seq (qa ?_)))
 refine fp HF 1 0 [(14, vP g1 1)] fun a HF => ?_
 refine fy HF HM 1 rfl rfl rfl (v := vB b.cpu) (Yl.qh rfl rfl (by kernel_rfl) (fun _ h => h.cell (i := 0) rfl (rfl))) fun a HF => ?_
 refine fp HF 1 2 [(16, vQ (IntKind.u64.wrap (b.cpu : Int)))] fun a HF => ?_
 replace HF := HF.sp 16 (vQ b.cpu) rfl (qaj rfl (by omega))
 refine fp HF 1 3 [(17, vP g1 2)] fun a HF => ?_
 refine fy HF HM 4 rfl rfl rfl (v := vI b.lost) (Yl.qh rfl rfl (by kernel_rfl) (fun _ h => h.cell (i := 0) rfl (rfl))) fun a HF => ?_
 refine fp HF 1 5 [(19, vQ (IntKind.u64.wrap b.lost))] fun a HF => ?_
 replace HF := HF.sp 19 (vQ b.lost.toNat) rfl (qaj (by omega) (by omega))
 refine fp HF 1 6 [(20, vP g1 4)] fun a HF => ?_
 refine fy HF HM 7 rfl rfl rfl (v := .slice A b.evs.length c) (Yl.qh rfl rfl (by kernel_rfl) (fun _ h => h.cell (i := 0) rfl (rfl))) fun a HF => ?_
 refine fy HF HM 8 rfl rfl rfl (Yl.len rfl rfl (by kernel_rfl)) fun a HF => ?_
 refine fp HF 1 9 [(23, vQ (IntKind.u64.wrap (b.evs.length : Int)))] fun a HF => ?_
 replace HF := HF.sp 23 (vQ b.evs.length) rfl (qaj rfl (by omega))
 refine fo HF 10 rfl rfl ?_
 refine ze HF HM (vs := [(0, vQ b.cpu), (1, vQ b.lost.toNat), (2, vQ b.evs.length)]) (cs := #[vQ b.cpu, vQ b.lost.toNat, vQ b.evs.length]) rfl qgm (by decide) rfl (by kernel_rfl) rfl (by decide) ?_
 clear HF HM; intro a w24 g24 HF HM
 refine fo HF 11 rfl rfl ?_
 refine e_cl HF [vS g24 3 3] rfl rfl (qs8 _ 3 _ [b.cpu, b.lost.toNat, b.evs.length] _ (HM.rdBlk (i := 0) (n := 3) (size := 1) rfl rfl) (by intro x hx; simp only [List.mem_cons, List.not_mem_nil, or_false] at hx; omega) (by omega)) ?_
 rintro _ w25 ⟨⟨A25, c25, rfl, ho, hc25⟩, hbw⟩
 refine ⟨_, rfl, ?_⟩
 replace HM := HM.callRow hbw ho
 clear HF; intro a HF
 refine fp HF 1 12 [(3, .slice A25 (([b.cpu, b.lost.toNat, b.evs.length].flatMap vbytes).length) c25)] fun a HF => ?_
 refine qb rfl (wp_seq (wp_seq (qa ?_)))
 refine fp HF 1 0 [(26, vP g1 4)] fun a HF => ?_
 refine fy HF HM 1 rfl rfl rfl (v := .slice A b.evs.length c) (Yl.qh rfl rfl (by kernel_rfl) (fun _ h => h.cell (i := 2) rfl (rfl))) fun a HF => ?_
 refine fy HF HM 2 rfl rfl rfl (Yl.len rfl rfl (by kernel_rfl)) fun a HF => ?_
 refine fp HF 1 3 [(29, .bool ((b.evs.length : Int) == (0 : Int)))] fun a HF => ?_
 refine qb rfl ?_
 rcases HF.tf 29 rfl with ⟨hb29, HF⟩ | ⟨hb29, HF⟩
 ·
  have hd29 := eq_of_beq hb29
  refine qe HF rfl (wp_seq (qa ?_))
  refine fp HF 2 0 [(2, .slice A25 (([b.cpu, b.lost.toNat, b.evs.length].flatMap vbytes).length) c25)] fun a HF => ?_
  refine qb rfl (wp_ret ?_)
  replace HM := HM.picks (fs' := [.row (.slice A25 (([b.cpu, b.lost.toNat, b.evs.length].flatMap vbytes).length) c25) (([b.cpu, b.lost.toNat, b.evs.length].flatMap vbytes).length) (([b.cpu, b.lost.toNat, b.evs.length].flatMap vbytes).map B8) 5 1, .blk g1 (b.cells A c) 27]) [0, 2] (by decide) rfl
  exact ret1 rfl HF (.tmp HF rfl) (qad.as ⟨⟨_, _, rfl, HM.own (i := 0) rfl, hc25⟩, HM.below⟩ (by unfold Bk.body; rw [if_neg hk, if_pos (by omega)]; simp))
 have hd29 := ne_of_beq_false hb29
 have hw := qjg hok (qeg hf hk).2 (by omega)
 obtain ⟨q1, q2, q3, q4⟩ := qku hok hf hk (by omega)
 refine qd HF rfl (wp_skip (wp_seq (qa ?_)))
 refine fy HF HM 0 rfl rfl rfl (v := .agg (b.cells A c)) (Yl.zc rfl rfl si_bk rfl (fun _ h => qf (h.blk (i := 2) rfl))) fun a HF => ?_
 refine fo HF 1 rfl rfl ?_
 refine e_is HF HM [.agg (b.cells A c)] (.agg b.base.cells) rfl rfl (qpe b A c _ (HM.old hr) (by omega)) fun w32 hbw HM a HF => ?_
 refine fo HF 2 rfl rfl ?_
 refine qt HF HM (cs := #[vI 0, vI 0]) rfl (by kernel_rfl) rfl (by decide) ?_
 clear HF HM; intro a w4 g4 HF HM
 refine fo HF 3 rfl rfl ?_
 refine e_sa HF HM 0 rfl rfl rfl rfl rfl ⟨(by kernel_rfl), (by kernel_rfl)⟩ rfl rfl (qr6 b.base) ?_
 clear HM; intro w6_3 HM
 refine qb rfl (wp_seq (qa ?_))
 refine fy HF HM 0 rfl rfl rfl (v := .agg b.base.cells) (Yl.zc rfl rfl ⟨(by kernel_rfl), (by kernel_rfl)⟩ rfl (fun _ h => qf (h.blk (i := 0) rfl))) fun a HF => ?_
 refine fp HF 1 1 [(35, vP g1 4)] fun a HF => ?_
 refine fy HF HM 2 rfl rfl rfl (v := .slice A b.evs.length c) (Yl.qh rfl rfl (by kernel_rfl) (fun _ h => h.cell (i := 3) rfl (rfl))) fun a HF => ?_
 refine fo HF 3 rfl rfl ?_
 refine e_cl HF [.agg b.base.cells, .slice A b.evs.length c] rfl rfl (qvp b.base A b.evs.length c b.evs hok.evs B _ (hL.mem HM hB).laid (HM.le hB) (HM.old hr) (by omega) hw.1 hw.2) ?_
 rintro _ w37 ⟨⟨A37, c37, rfl, ho, hc37⟩, hbw⟩
 refine ⟨_, rfl, ?_⟩
 replace HM := HM.callRow hbw ho
 clear HF; intro a HF
 refine fp HF 5 4 [(5, .slice A37 ((recs b.base b.evs).length) c37)] fun a HF => ?_
 refine qb rfl (wp_seq ?_)
 refine qag HM [.row (.slice A37 ((recs b.base b.evs).length) c37) ((recs b.base b.evs).length) ((recs b.base b.evs).map B8) 5 1, .blk g4 b.base.cells 133, .row (.slice A25 (([b.cpu, b.lost.toNat, b.evs.length].flatMap vbytes).length) c25) (([b.cpu, b.lost.toNat, b.evs.length].flatMap vbytes).length) (([b.cpu, b.lost.toNat, b.evs.length].flatMap vbytes).map B8) 5 1, .blk g24 #[vQ b.cpu, vQ b.lost.toNat, vQ b.evs.length] 39, .blk g1 (b.cells A c) 27] [0, 1, 2, 3, 4] [] fun HM HS => ?_
 refine ap HF (fun _ => HS) [0, 1, 5, 9] #[true, true, false, false, false, true, false, false, false, true, false, false, false] [(49, .slice A37 ((recs b.base b.evs).length) c37), (45, vP g4 1), (41, vP g4 0), (40, .slice A25 (([b.cpu, b.lost.toNat, b.evs.length].flatMap vbytes).length) c25)] fun a HF => ?_
 refine ay HF HS 2 rfl rfl rfl (v := vI b.base.seq) (Yl.qh rfl rfl (by kernel_rfl) (fun _ h => h.cell (i := 1) rfl (rfl))) fun a HF => ?_
 refine zh HF (fun _ => HS) (i := 3) rfl rfl (d := 43) rfl (by decide) (by kernel_rfl) (fun _ _ _ h => h) (v := vQ (IntKind.u64.wrap b.base.seq)) (fun _ => Yl.pure (by kernel_rfl)) fun a HF => ?_
 replace HF := HF.sp 43 (vQ b.base.seq.toNat) rfl (qaj (by omega) (by omega))
 refine ay HF HS 6 rfl rfl rfl (v := vI b.base.time) (Yl.qh rfl rfl (by kernel_rfl) (fun _ h => h.cell (i := 1) rfl (rfl))) fun a HF => ?_
 refine zh HF (fun _ => HS) (i := 7) rfl rfl (d := 47) rfl (by decide) (by kernel_rfl) (fun _ _ _ h => h) (v := vQ (IntKind.u64.wrap b.base.time)) (fun _ => Yl.pure (by kernel_rfl)) fun a HF => ?_
 replace HF := HF.sp 47 (vQ b.base.time.toNat) rfl (qaj (by omega) (by omega))
 refine qj [4] (by kernel_rfl) rfl ?_
 refine all_cons ?_ all_nil
 refine qo HF (i := 4) rfl rfl ?_
 refine e_cl HF [vQ b.base.seq.toNat] rfl rfl (qgf b.base.seq.toNat (by omega) _) ?_
 rintro _ w44 ⟨⟨A44, c44, rfl, ho, hc44⟩, hbw⟩
 refine ⟨_, rfl, ?_⟩
 replace HM := HM.callRow hbw ho
 clear HF; intro a HF
 refine keepS (HM.picks [1, 2, 3, 4, 5] (by decide) rfl) (fun HS => ?_)
 refine qj [8] (by kernel_rfl) rfl ?_
 refine all_cons ?_ all_nil
 refine qo HF (i := 8) rfl rfl ?_
 refine e_cl HF [vQ b.base.time.toNat] rfl rfl (qgf b.base.time.toNat (by omega) _) ?_
 rintro _ w48 ⟨⟨A48, c48, rfl, ho, hc48⟩, hbw⟩
 refine ⟨_, rfl, ?_⟩
 replace HM := HM.callRow hbw ho
 clear HF; intro a HF
 refine keepS (HM.picks [2, 3, 4, 5, 6] (by decide) rfl) (fun HS => ?_)
 refine qj [10] (by kernel_rfl) rfl ?_
 refine all_cons ?_ all_nil
 refine qo HF (i := 10) rfl rfl ?_
 refine ze HF HM (vs := [(0, .slice A25 (([b.cpu, b.lost.toNat, b.evs.length].flatMap vbytes).length) c25), (1, .slice A44 ((vbytes b.base.seq.toNat).length) c44), (2, .slice A48 ((vbytes b.base.time.toNat).length) c48), (3, .slice A37 ((recs b.base b.evs).length) c37)]) (cs := #[.slice A25 (([b.cpu, b.lost.toNat, b.evs.length].flatMap vbytes).length) c25, .slice A44 ((vbytes b.base.seq.toNat).length) c44, .slice A48 ((vbytes b.base.time.toNat).length) c48, .slice A37 ((recs b.base b.evs).length) c37]) rfl ei_bb (by decide) rfl (by kernel_rfl) rfl (by decide) ?_
 clear HF HM; intro a w50 g50 HF HM
 refine keepS (HM.picks [3, 4, 5, 6, 7] (by decide) rfl) (fun HS => ?_)
 refine qj [11] (by kernel_rfl) rfl ?_
 refine all_cons ?_ all_nil
 refine qo HF (i := 11) rfl rfl ?_
 have hps := all4 (a := ⟨A25, c25, [b.cpu, b.lost.toNat, b.evs.length].flatMap vbytes⟩) (b := ⟨A44, c44, vbytes b.base.seq.toNat⟩) (c := ⟨A48, c48, vbytes b.base.time.toNat⟩) (d := ⟨A37, c37, recs b.base b.evs⟩) (HM.rd (i := 5) rfl) (HM.rd (i := 2) rfl) (HM.rd (i := 1) rfl) (HM.rd (i := 3) rfl)
 refine e_cl HF [vS g50 4 4] rfl rfl ((qqt _ 4 _ [⟨A25, c25, [b.cpu, b.lost.toNat, b.evs.length].flatMap vbytes⟩, ⟨A44, c44, vbytes b.base.seq.toNat⟩, ⟨A48, c48, vbytes b.base.time.toNat⟩, ⟨A37, c37, recs b.base b.evs⟩] _ (HM.rdBlk (i := 0) (n := 4) (size := 1) rfl rfl) rfl (by omega) hps (by have h1 := qao [b.cpu, b.lost.toNat, b.evs.length]; have h2 := qm b.base.seq.toNat; have h3 := qm b.base.time.toNat; have h4 := qfk b.evs b.base; simp only [List.flatMap_cons, List.flatMap_nil, List.length_append, List.append_nil, List.length_cons, List.length_nil] at h1 ⊢; omega)).mono (fun _ _ h => h.as (R' := vbytes b.cpu ++ vbytes b.lost.toNat ++ vbytes b.evs.length ++ (vbytes b.base.seq.toNat ++ vbytes b.base.time.toNat ++ recs b.base b.evs)) (by simp))) ?_
 rintro _ w51 ⟨⟨A51, c51, rfl, ho, hc51⟩, hbw⟩
 refine ⟨_, rfl, ?_⟩
 replace HM := HM.callRow hbw ho
 clear HF; intro a HF
 refine keepS (HM.picks [4, 5, 6, 7, 8] (by decide) rfl) (fun HS => ?_)
 refine ap HF (fun _ => HS) [12] #[true, true, true, true, true, true, true, true, true, true, true, true, true] [(2, .slice A51 ((vbytes b.cpu ++ vbytes b.lost.toNat ++ vbytes b.evs.length ++ (vbytes b.base.seq.toNat ++ vbytes b.base.time.toNat ++ recs b.base b.evs)).length) c51)] fun a HF => ?_
 refine qn (by kernel_rfl) ?_
 replace HF := HF.to [(2, .slice A51 ((vbytes b.cpu ++ vbytes b.lost.toNat ++ vbytes b.evs.length ++ (vbytes b.base.seq.toNat ++ vbytes b.base.time.toNat ++ recs b.base b.evs)).length) c51), (4, vP g4 0), (29, .bool false), (3, .slice A25 (([b.cpu, b.lost.toNat, b.evs.length].flatMap vbytes).length) c25), (9, .bool false), (1, vP g1 0)]
 replace HM := HM.picks (fs' := [.row (.slice A51 ((vbytes b.cpu ++ vbytes b.lost.toNat ++ vbytes b.evs.length ++ (vbytes b.base.seq.toNat ++ vbytes b.base.time.toNat ++ recs b.base b.evs)).length) c51) ((vbytes b.cpu ++ vbytes b.lost.toNat ++ vbytes b.evs.length ++ (vbytes b.base.seq.toNat ++ vbytes b.base.time.toNat ++ recs b.base b.evs)).length) ((vbytes b.cpu ++ vbytes b.lost.toNat ++ vbytes b.evs.length ++ (vbytes b.base.seq.toNat ++ vbytes b.base.time.toNat ++ recs b.base b.evs)).map B8) 5 1, .blk g4 b.base.cells 133, .row (.slice A25 (([b.cpu, b.lost.toNat, b.evs.length].flatMap vbytes).length) c25) (([b.cpu, b.lost.toNat, b.evs.length].flatMap vbytes).length) (([b.cpu, b.lost.toNat, b.evs.length].flatMap vbytes).map B8) 5 1, .blk g1 (b.cells A c) 27]) [0, 5, 6, 8] (by decide) rfl
 refine wp_ret ?_
 exact ret1 rfl HF (.tmp HF rfl) (qad.as ⟨⟨_, _, rfl, HM.own (i := 0) rfl, hc51⟩, HM.below⟩ (by unfold Bk.body; rw [if_neg hk, if_neg (by omega)]))
instance bkDec : DecidableEq Bk := fun ⟨a0, a1, a2, a3, a4⟩ ⟨b0, b1, b2, b3, b4⟩ =>
 decidable_of_iff (a0 = b0 ∧ a1 = b1 ∧ a2 = b2 ∧ a3 = b3 ∧ a4 = b4) (by simp)
theorem qtb {b : Bk} (h : 8 + b.body.length + 4 ≤ 4096) : (#[Value.int .u8 (((8 + b.body.length + 4) % 256 : Nat) : Int), .int .u8 (((8 + b.body.length + 4) / 256 % 256 : Nat) : Int), .int .u8 0, .int .u8 0, .int .u8 113, .int .u8 116, .int .u8 1, .int .u8 (b.kind : Int)] : Array Value).toList ++ b.body.map B8 = b.raw.map B8 := by
 have e0 : 8 + b.body.length + 4 = 12 + b.body.length := by omega
 have e1 : (12 + b.body.length) / 65536 % 256 = 0 := by omega
 have e2 : (12 + b.body.length) / 16777216 % 256 = 0 := by omega
 unfold Bk.raw le4
 rw [e0, e1, e2]
 simp [B8]
theorem qcr (x : Nat) : ∀ b ∈ vbytes x, b < 256 := by
 intro b hb
 unfold vbytes at hb
 obtain ⟨p, hp, rfl⟩ := List.mem_map.1 hb
 have := qr0 10 x p hp
 unfold vbyte
 split <;> omega
theorem qn5 {b : Bs} {e : Ev} (h : e.kind < 256) : ∀ x ∈ zr b e, x < 256 := by
 intro x hx
 unfold zr at hx
 rcases List.mem_cons.1 hx with rfl | hx
 ·exact h
 ·obtain ⟨y, _, hy⟩ := List.mem_flatMap.1 hx
  exact qcr y x hy
theorem qtc : ∀ (l : List Ev) (b : Bs), (∀ e ∈ l, e.Ok) → ∀ x ∈ recs b l, x < 256
 | [], _, _, x, hx => by simp [recs] at hx
 | e :: r, b, hok, x, hx => by
  rw [recs] at hx
  rcases List.mem_append.1 hx with h | h
  ·exact qn5 (hok e (by simp)).kind x h
  ·exact qtc r e.at (fun y hy => hok y (by simp [hy])) x h
theorem qyg {b : Bk} (hok : b.Ok) : ∀ x ∈ b.body, x < 256 := by
 intro x hx
 unfold Bk.body at hx
 split at hx
 ·exact qcr _ x hx
 ·rcases List.mem_append.1 hx with h | h
  ·rcases List.mem_append.1 h with h | h
   ·rcases List.mem_append.1 h with h | h
    ·exact qcr _ x h
    ·exact qcr _ x h
   ·exact qcr _ x h
  ·split at h
   ·cases h
   ·rcases List.mem_append.1 h with h | h
    ·rcases List.mem_append.1 h with h | h
     ·exact qcr _ x h
     ·exact qcr _ x h
    ·exact qtc _ _ hok.evs x h
theorem qxl {b : Bk} (hok : b.Ok) : ∀ x ∈ b.raw, x < 256 := by
 intro x hx
 unfold Bk.raw at hx
 rcases List.mem_append.1 hx with h | h
 ·rcases List.mem_append.1 h with h | h
  ·exact qzu _ x h
  ·simp only [List.mem_cons, List.not_mem_nil, or_false] at h
   have := hok.kind
   omega
 ·exact qyg hok x h
theorem qcj (b : Bk) : b.raw.length = 8 + b.body.length := by unfold Bk.raw le4; simp; omega
theorem qbt (b : Bk) : b.body.length ≤ 50 + 61 * b.evs.length := by
 unfold Bk.body
 split
 ·have := qm b.next.toNat; omega
 ·have h1 := qm b.cpu
  have h2 := qm b.lost.toNat
  have h3 := qm b.evs.length
  have h4 := qm b.base.seq.toNat
  have h5 := qm b.base.time.toNat
  have h6 := qfk b.evs b.base
  split <;> simp only [List.length_append, List.length_nil] <;> omega
theorem qtd {w w' : World} {b : Bk} {er : Nat} (h : b.err = er) (he : er ≠ 0) (hb : Below w.heap.size w w') : qah w b.err b.out (.returned (.tuple #[.slice none 0 0, .int .i64 (er : Int)])) w' := by
 have h2 : b.out = [] := by unfold Bk.out; rw [if_neg (by omega)]
 rw [h, h2]
 exact ⟨⟨none, 0, rfl, World.ownsRow_nil _ _ _ _, Nat.le_refl _⟩, hb⟩
theorem qte {b : Bk} (h : b.err = 0) : b.out = sealL b.raw := by unfold Bk.out; rw [if_pos h]
theorem qn6 (b : Bk) : b.out.length ≤ 4096 := by
 unfold Bk.out
 split
 ·rename_i h
  unfold Bk.err at h
  split at h
  ·cases h
  ·split at h
   ·cases h
   ·rw [qkv, qcj]; omega
 ·simp
theorem qdp (most : Nat) (l : List Nat) : tkVal most l ≤ most := by unfold tkVal; split <;> omega
theorem qhy (most : Nat) (l : List Nat) : (if ((most : Nat) : Int) < (((vread l).1 : Nat) : Int) then ((most : Nat) : Int) else (((vread l).1 : Nat) : Int)) = ((tkVal most l : Nat) : Int) := by unfold tkVal; split <;> split <;> omega
theorem qei (l : List Nat) : (qc l).length = l.length - (vread l).2.1 := by unfold qc; rw [List.length_drop]
theorem qda (l : List Nat) : (qc l).length ≤ l.length := by rw [qei]; omega
theorem qqz {most : Nat} {l : List Nat} (h : (vread l).2.2 ≠ 0) : tkOk most l = false := by unfold tkOk; rw [decide_eq_false]; omega
def qxm (W : World) (gb gk : Nat) (l : List Nat) (okb : Bool) (most : Nat) (fr : List Fact) (r : Ending) (w' : World) : Prop :=
 r = .returned (.int .i64 ((tkVal most l : Nat) : Int)) ∧ ∃ A' c', Rd W W.heap.size 1 A' (qc l).length ((qc l).map B8) ∧ (qc l).length ≤ c' ∧
  Mem W w' (.blk gb #[.slice A' (qc l).length c'] 34 :: .blk gk #[.bool (okb && tkOk most l)] 4 :: fr)
theorem qhz {W w' : World} {gb gk n c most : Nat} {l : List Nat} {okb ok2 : Bool} {A : Option Addr} {fr : List Fact} (hr : Rd W W.heap.size 1 A l.length (l.map B8)) (hc : l.length ≤ c) (h2 : (okb && tkOk most l) = ok2) (hn : n = l.length)
  (HM : Mem W w' (.blk gb #[.slice (if c = (vread l).2.1 then A else A.map (·.add ((vread l).2.1 * 1))) (n - (vread l).2.1) (c - (vread l).2.1)] 34 :: .blk gk #[.bool ok2] 4 :: fr)) :
  qxm W gb gk l okb most fr (.returned (.int .i64 ((tkVal most l : Nat) : Int))) w' := by
 subst h2; subst hn
 refine ⟨rfl, (if c = (vread l).2.1 then A else A.map (·.add ((vread l).2.1 * 1))), c - (vread l).2.1, ?_, ?_, ?_⟩
 ·rw [qei]
  exact hr.qqd (qc1 l) hc
 ·rw [qei]; omega
 ·rw [qei]; exact HM
def qe0 (w : World) (q : Option Bk) (r : Ending) (w' : World) : Prop :=
 (∃ cs : Array Value, r = .returned (.tuple #[.agg cs, .bool q.isSome]) ∧ cs.size = 5 ∧ (∀ v ∈ cs.toList, v.oneCell' = true) ∧
  (∀ b, q = some b → ∃ A c, cs = b.cells A c ∧ w'.ownsRow w.heap.size 41 11 (.slice A b.evs.length c) b.evs.length (b.evs.flatMap evL) ∧ b.evs.length ≤ c)) ∧ Below w.heap.size w w'
theorem qb5 {w w' : World} {q : Option Bk} {cs : Array Value} (h : q = none) (hs : cs.size = 5) (h1 : ∀ v ∈ cs.toList, v.oneCell' = true) (hb : Below w.heap.size w w') : qe0 w q (.returned (.tuple #[.agg cs, .bool false])) w' := by
 subst h
 exact ⟨⟨cs, rfl, hs, h1, fun b h => by cases h⟩, hb⟩
theorem qcy {w w' : World} {q : Option Bk} {b : Bk} {A : Option Addr} {c : Nat} (h : q = some b) (ho : w'.ownsRow w.heap.size 41 11 (.slice A b.evs.length c) b.evs.length (b.evs.flatMap evL)) (hc : b.evs.length ≤ c) (hb : Below w.heap.size w w') : qe0 w q (.returned (.tuple #[.agg (b.cells A c), .bool true])) w' := by
 subst h
 exact ⟨⟨_, rfl, rfl, qbk _ _ _, fun b' h => by injection h with h; subst h; exact ⟨A, c, rfl, ho, hc⟩⟩, hb⟩
theorem tk3 {l : List Nat} : (((true && tkOk 63 l) && tkOk 281474976710656 (qc l)) && tkOk 4096 (qc (qc l))) = qc9 l := by unfold qc9; simp
theorem qji (l : List Nat) : qes 2 l = qa8 l := by unfold qes; rw [if_pos rfl]
theorem qbu (l : List Nat) : qes 1 l = zp l := by unfold qes; rw [if_neg (by omega)]
theorem endOk {x : Nat} (h : x ≤ 281474976710657) : Bk.Ok ⟨2, 0, 0, (x : Int), []⟩ := ⟨by show 2 < 256; decide, by show 0 < 256; decide, by unfold I64; simp, qd5 h, by simp⟩
theorem evsOk {cpu lost : Nat} {es : List Ev} (h : cpu < 256) (hl : lost ≤ 281474976710656) (he : ∀ e ∈ es, e.Ok) : Bk.Ok ⟨1, cpu, (lost : Int), 0, es⟩ := ⟨by show 1 < 256; decide, h, qd5 (by show lost ≤ _; omega), by unfold I64; simp, he⟩
theorem qfl {l : List Nat} {q : List Ev × Nat × Nat} (h3 : qc9 l = true) (h0 : 0 < tkVal 4096 (qc (qc l)))
  (hq : readR ⟨(tkVal 281474976710656 (qc (qc (qc l))) : Int), (tkVal 281474976710656 (qc (qc (qc (qc l)))) : Int)⟩ (tkVal 63 l) (tkVal 4096 (qc (qc l)) : Int) (qc (qc (qc (qc (qc l))))) = q) :
  zp l = qau (tkVal 63 l) (tkVal 281474976710656 (qc l)) (qc (qc (qc l))) q := by
 unfold zp
 rw [if_pos ⟨h3, h0⟩, hq]
theorem qet {cpu lost : Nat} {l : List Nat} {q : List Ev × Nat × Nat} (h : ¬ (q.2.2 = 0 ∧ (q.1.getD 0 Ev.zero).seq = (tkVal 281474976710656 l : Int) ∧ (q.1.getD 0 Ev.zero).time = (tkVal 281474976710656 (qc l) : Int) ∧ tkOk 281474976710656 l = true ∧ tkOk 281474976710656 (qc l) = true ∧ (qc (qc l)).length - q.2.1 = 0 ∧ Bk.fits ⟨1, cpu, lost, 0, q.1⟩ = true)) : qau cpu lost l q = none := by
 unfold qau
 rw [if_neg]
 intro hh
 obtain ⟨h1, h2, h3, h4, h5, h6, h7⟩ := hh
 rw [List.length_drop] at h6
 have e : q.1.headD Ev.zero = q.1.getD 0 Ev.zero := by cases q.1 <;> rfl
 rw [e] at h2 h3
 exact h ⟨h1, h2, h3, h4, h5, h6, h7⟩
theorem qi0 {cpu lost : Nat} {l : List Nat} {q : List Ev × Nat × Nat} (h : q.2.2 = 0 ∧ (q.1.getD 0 Ev.zero).seq = (tkVal 281474976710656 l : Int) ∧ (q.1.getD 0 Ev.zero).time = (tkVal 281474976710656 (qc l) : Int) ∧ tkOk 281474976710656 l = true ∧ tkOk 281474976710656 (qc l) = true ∧ (qc (qc l)).length - q.2.1 = 0 ∧ Bk.fits ⟨1, cpu, lost, 0, q.1⟩ = true) : qau cpu lost l q = some ⟨1, cpu, lost, 0, q.1⟩ := by
 unfold qau
 rw [if_pos]
 obtain ⟨h1, h2, h3, h4, h5, h6, h7⟩ := h
 have e : q.1.headD Ev.zero = q.1.getD 0 Ev.zero := by cases q.1 <;> rfl
 rw [e, List.length_drop]
 exact ⟨h1, h2, h3, h4, h5, h6, h7⟩
theorem qe1 (l : List Nat) : (qa8 l).isSome = (tkOk 281474976710657 l && (decide ((qc l).length = 0) && Bk.fits ⟨2, 0, 0, (tkVal 281474976710657 l : Int), []⟩)) := by
 unfold qa8
 split
 ·rename_i h; rw [h.1, decide_eq_true h.2.1, h.2.2]; rfl
 ·rename_i h
  show false = _
  rw [eq_comm, Bool.eq_false_iff]
  intro hh
  simp only [Bool.and_eq_true, decide_eq_true_eq] at hh
  exact h ⟨hh.1, hh.2.1, hh.2.2⟩
theorem qma {l : List Nat} (h : (qa8 l).isSome = true) : qa8 l = some ⟨2, 0, 0, (tkVal 281474976710657 l : Int), []⟩ := by
 unfold qa8 at h ⊢
 split
 ·rfl
 ·rename_i h2; rw [if_neg h2] at h; cases h
theorem qpf {l : List Nat} (h : ¬ (qc9 l = true ∧ 0 < tkVal 4096 (qc (qc l)))) : (zp l).isSome = (qc9 l && (decide ((qc (qc (qc l))).length = 0) && Bk.fits ⟨1, tkVal 63 l, (tkVal 281474976710656 (qc l) : Int), 0, []⟩)) := by
 unfold zp
 rw [if_neg h]
 split
 ·rename_i h; rw [h.1, decide_eq_true h.2.1, h.2.2]; rfl
 ·rename_i h
  show false = _
  rw [eq_comm, Bool.eq_false_iff]
  intro hh
  simp only [Bool.and_eq_true, decide_eq_true_eq] at hh
  exact h ⟨hh.1, hh.2.1, hh.2.2⟩
theorem qtf {l : List Nat} (h : ¬ (qc9 l = true ∧ 0 < tkVal 4096 (qc (qc l)))) (hs : (zp l).isSome = true) : zp l = some ⟨1, tkVal 63 l, (tkVal 281474976710656 (qc l) : Int), 0, []⟩ := by
 unfold zp at hs ⊢
 rw [if_neg h] at hs ⊢
 split
 ·rfl
 ·rename_i h2; rw [if_neg h2] at hs; cases hs
theorem qn7 {cpu lost L : Nat} {l : List Nat} {es : List Ev} (h : (es.getD 0 Ev.zero).seq = (tkVal 281474976710656 l : Int) ∧ (es.getD 0 Ev.zero).time = (tkVal 281474976710656 (qc l) : Int)) : (qau cpu lost l (es, L, 0)).isSome = ((tkOk 281474976710656 l && tkOk 281474976710656 (qc l)) && (decide ((qc (qc l)).length - L = 0) && Bk.fits ⟨1, cpu, (lost : Int), 0, es⟩)) := by
 cases hc : ((tkOk 281474976710656 l && tkOk 281474976710656 (qc l)) && (decide ((qc (qc l)).length - L = 0) && Bk.fits ⟨1, cpu, (lost : Int), 0, es⟩)) with
 | true =>
  simp only [Bool.and_eq_true, decide_eq_true_eq] at hc
  rw [qi0 ⟨rfl, h.1, h.2, hc.1.1, hc.1.2, hc.2.1, hc.2.2⟩]
  rfl
 | false =>
  rw [qet]
  ·rfl
  ·intro hh
   obtain ⟨h1, h2, h3, h4, h5, h6, h7⟩ := hh
   rw [h4, h5, h7, decide_eq_true h6] at hc
   cases hc
theorem qwd {cpu lost : Nat} {l : List Nat} {q : List Ev × Nat × Nat} (h : (qau cpu lost l q).isSome = true) : qau cpu lost l q = some ⟨1, cpu, (lost : Int), 0, q.1⟩ := by
 unfold qau at h ⊢
 split
 ·rfl
 ·rename_i h2; rw [if_neg h2] at h; cases h
theorem qe0.none {w w' : World} {q : Option Bk} {r : Ending} (h : qe0 w q r w') (hq : q = none) : (∃ cs : Array Value, r = .returned (.tuple #[.agg cs, .bool false]) ∧ cs.size = 5 ∧ (∀ v ∈ cs.toList, v.oneCell' = true)) ∧ Below w.heap.size w w' := by
 subst hq
 obtain ⟨⟨cs, h1, h2, h3, _⟩, h4⟩ := h
 exact ⟨⟨cs, h1, h2, h3⟩, h4⟩
theorem qe0.some {w w' : World} {q : Option Bk} {b : Bk} {r : Ending} (h : qe0 w q r w') (hq : q = some b) : (∃ A c, r = .returned (.tuple #[.agg (b.cells A c), .bool true]) ∧ w'.ownsRow w.heap.size 41 11 (.slice A b.evs.length c) b.evs.length (b.evs.flatMap evL) ∧ b.evs.length ≤ c) ∧ Below w.heap.size w w' := by
 subst hq
 obtain ⟨⟨cs, h1, h2, h3, h5⟩, h4⟩ := h
 obtain ⟨A, c, rfl, h6, h7⟩ := h5 b rfl
 exact ⟨⟨A, c, h1, h6, h7⟩, h4⟩
def qn8 (T : TypeId) (w : World) (q : Bk × Nat × Nat) (r : Ending) (w' : World) : Prop :=
 (∃ A c, r = .returned (.tuple #[.agg (q.1.cells A c), .int .i64 (q.2.1 : Int), .int .i64 (q.2.2 : Int)]) ∧ w'.ownsRow w.heap.size T 11 (.slice A q.1.evs.length c) q.1.evs.length (q.1.evs.flatMap evL) ∧ q.1.evs.length ≤ c) ∧ Below w.heap.size w w'
theorem qa1 {T : TypeId} {w w' : World} {q : Bk × Nat × Nat} {er : Nat} (h : q = (Bk.zero, 0, er)) (hb : Below w.heap.size w w') : qn8 T w q (.returned (.tuple #[.agg #[.int .u8 0, .int .u8 0, .int .i64 0, .int .i64 0, .slice none 0 0], .int .i64 0, .int .i64 (er : Int)])) w' := by
 subst h
 exact ⟨⟨none, 0, rfl, World.ownsRow_nil _ _ _ _, Nat.le_refl _⟩, hb⟩
theorem qjj {T : TypeId} {w w' : World} {q : Bk × Nat × Nat} {b : Bk} {m c : Nat} {A : Option Addr} (h : q = (b, m, 0)) (ho : w'.ownsRow w.heap.size T 11 (.slice A b.evs.length c) b.evs.length (b.evs.flatMap evL)) (hc : b.evs.length ≤ c) (hb : Below w.heap.size w w') : qn8 T w q (.returned (.tuple #[.agg (b.cells A c), .int .i64 (m : Int), .int .i64 0])) w' := by
 subst h
 exact ⟨⟨A, c, rfl, ho, hc⟩, hb⟩
theorem qtg {l : List Nat} (h : (lenR l).2 ≠ 0) : readB l = (Bk.zero, 0, (lenR l).2) := by unfold readB; rw [if_pos h]
theorem qbv {l L : List Nat} {e : Nat} (h : (lenR l).2 = 0) (hL : L = l.take (lenR l).1) (hb : blkOf L = (none, e)) : readB l = (Bk.zero, 0, e) := by unfold readB; rw [if_neg (by omega), ← hL, hb]
theorem qjk {l L : List Nat} {b : Bk} {e : Nat} (h : (lenR l).2 = 0) (hL : L = l.take (lenR l).1) (hb : blkOf L = (some b, e)) : readB l = (b, (lenR l).1, 0) := by unfold readB; rw [if_neg (by omega), ← hL, hb]
theorem tk5 {l : List Nat} {m1 m2 m3 m4 m5 : Nat} {a b c d e : List Nat} : (((((true && tkOk m1 a) && tkOk m2 b) && tkOk m3 c) && tkOk m4 d) && tkOk m5 e) = ((((true && tkOk m1 a) && tkOk m2 b) && tkOk m3 c) && (tkOk m4 d && tkOk m5 e)) := by
 have _ := l
 rw [Bool.and_assoc]
end Go.Proofs.YtfeheccoijnbaaaGreatDoor
