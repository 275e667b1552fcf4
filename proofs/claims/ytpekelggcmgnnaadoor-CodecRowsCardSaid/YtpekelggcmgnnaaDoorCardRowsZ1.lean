/- Texts laid together: Sep2, Sep3, Sep4, Sep5, Sep6, Sep7, Sep8, SepU, EvEq, Ref06i, RWithW, Ref07P, Ref07Q, KitP, KitW, RightW, PutW, RowW, Small. -/
import Derived.Test.YtpekelggcmgnnaaDoorSep
import Derived.Deep.DeepAppendWide
import Derived.Test.YtpekelggcmgnnaaDoorConv
import Derived.Test.YtpekelggcmgnnaaDoorAwake
import Derived.IntWalk
import Derived.Laws.StructEq
import Derived.Test.YtpekelggcmgnnaaDoorRef06f
import Derived.Test.YtpekelggcmgnnaaDoorRWith
import Derived.Test.YtpekelggcmgnnaaDoorRef01
import Derived.Test.YtpekelggcmgnnaaDoorPick
/- Generic: memory known by facts on separate blocks; laws for the operations that touch memory, in a region of one order and in one that draws its order. No program is in sight. -/
namespace Go.Proofs.YtpekelggcmgnnaaDoor
open Go.RowKit

/-- A block known whole, or a row of the call's own. -/
inductive Fact
  | blk (g : Nat) (cs : Array Value) (t : TypeId)
  | row (v : Value) (n : Nat) (xs : List Value) (e : TypeId) (size : Nat)
def Fact.block : Fact → Option Nat
  | .blk g _ _ => some g
  | .row v _ _ _ _ => v.ownBlock
def Fact.holds (base : Nat) (w : World) : Fact → Prop
  | .blk g cs t => base ≤ g ∧ w.heap[g]? = some (.cells cs t (0, 0))
  | .row v n xs e size => w.ownsRow base e size v n xs
def Fact.apart (f g : Fact) : Prop := ∀ x, f.block = some x → g.block ≠ some x
/-- Since W nothing that lay has turned; the facts fs hold, on separate blocks. -/
structure Mem (W w : World) (fs : List Fact) : Prop where
  below : Below W.heap.size W w
  holds : ∀ f ∈ fs, f.holds W.heap.size w
  apart : fs.Pairwise Fact.apart

theorem Fact.apart.symm {f g : Fact} (h : f.apart g) : g.apart f := fun x hx hf => h x hf hx
theorem own_block {w : World} {base : Nat} {e : TypeId} {size : Nat} {v : Value} {n : Nat} {xs : List Value} (h : w.ownsRow base e size v n xs) {g : Nat} (hg : v.ownBlock = some g) : base ≤ g ∧ g < w.heap.size := by
  rcases h.2 with ⟨rfl, _⟩ | ⟨g', cap, cur, rfl, hb, hg', _⟩
  · cases hg
  · cases hg; exact ⟨hb, blk_lt hg'⟩
theorem Fact.holds.lt {base : Nat} {w : World} {f : Fact} (h : f.holds base w) {g : Nat} (hg : f.block = some g) : base ≤ g ∧ g < w.heap.size := by
  cases f with
  | blk g' cs t => injection hg with hg; subst hg; exact ⟨h.1, blk_lt h.2⟩
  | row v n xs e size => exact own_block h hg
/-- A fact holds as long as its block lies as it lay. -/
theorem Fact.holds.keep {base : Nat} {w w' : World} {f : Fact} (h : f.holds base w) (hk : ∀ g, f.block = some g → w'.heap[g]? = w.heap[g]?) : f.holds base w' := by
  cases f with
  | blk g cs t => exact ⟨h.1, (hk g rfl).trans h.2⟩
  | row v n xs e size =>
    refine ⟨h.1, ?_⟩
    rcases h.2 with h1 | ⟨g, cap, cur, rfl, hb, hg, r⟩
    · exact .inl h1
    · exact .inr ⟨g, cap, cur, rfl, hb, (hk g rfl).trans hg, r⟩

section
variable {W w w' : World} {fs fs' : List Fact}
theorem Mem.start (W : World) : Mem W W [] := ⟨Below.refl _ _, by simp, .nil⟩
theorem Mem.size (h : Mem W w fs) : W.heap.size ≤ w.heap.size := h.below.size
theorem Mem.call (h : Mem W w fs) (hb : Below w.heap.size w w') : Mem W w' fs :=
  ⟨h.below.trans (hb.mono h.size), fun f hf => (h.holds f hf).keep fun g hg => hb.block g ((h.holds f hf).lt hg).2, h.apart⟩
theorem Mem.drew (h : Mem W w fs) : Mem W w.drew fs := h.call (Below.refl _ _).drew
theorem Mem.cons (h : Mem W w fs) {f : Fact} (hf : f.holds W.heap.size w) (hn : ∀ g, f.block = some g → ∀ k ∈ fs, k.block ≠ some g) : Mem W w (f :: fs) :=
  ⟨h.below, fun k hk => by
    rcases List.mem_cons.1 hk with rfl | hk
    · exact hf
    · exact h.holds k hk, List.pairwise_cons.2 ⟨fun k hk g hg => hn g hg k hk, h.apart⟩⟩
theorem Mem.nil (h : Mem W w fs) (e : TypeId) (size : Nat) : Mem W w (.row (.slice none 0 0) 0 [] e size :: fs) :=
  h.cons (World.ownsRow_nil _ _ _ _) (fun g hg => by cases hg)
/-- A callee hands over a row of its own. -/
theorem Mem.callRow (h : Mem W w fs) (hb : Below w.heap.size w w') {e : TypeId} {size n : Nat} {v : Value} {xs : List Value} (hr : w'.ownsRow w.heap.size e size v n xs) : Mem W w' (.row v n xs e size :: fs) :=
  (h.call hb).cons (own_base hr h.size) (fun g hg k hk hkg => by
    have h1 := (own_block hr hg).1
    have h2 := ((h.holds k hk).lt hkg).2
    omega)
theorem Mem.alloc (h : Mem W w fs) (cs : Array Value) (t : TypeId) : Mem W (w.alloc (.cells cs t)) (.blk w.heap.size cs t :: fs) :=
  (h.call ((Below.refl _ _).alloc (Nat.le_refl _) _)).cons ⟨h.size, World.alloc_heap_new w _⟩ (fun g hg k hk hkg => by
    injection hg with hg
    have h2 := ((h.holds k hk).lt hkg).2
    omega)
def picks (fs : List Fact) (is : List Nat) : List Fact := is.filterMap (fs[·]?)
theorem pairwise_picks (h : fs.Pairwise Fact.apart) : ∀ {is : List Nat}, is.Nodup → (picks fs is).Pairwise Fact.apart
  | [], _ => .nil
  | i :: is, hn => by
    rw [List.nodup_cons] at hn
    unfold picks
    rw [List.filterMap_cons]
    cases hi : fs[i]? with
    | none => exact pairwise_picks h hn.2
    | some f =>
      refine List.pairwise_cons.2 ⟨fun k hk => ?_, pairwise_picks h hn.2⟩
      obtain ⟨j, hj, hjk⟩ := List.mem_filterMap.1 hk
      have hij : i ≠ j := fun e => hn.1 (e ▸ hj)
      obtain ⟨hil, hif⟩ := List.getElem?_eq_some_iff.1 hi
      obtain ⟨hjl, hjf⟩ := List.getElem?_eq_some_iff.1 hjk
      rcases Nat.lt_or_gt_of_ne hij with h1 | h1
      · have := List.pairwise_iff_getElem.1 h i j hil hjl h1
        rwa [hif, hjf] at this
      · have := List.pairwise_iff_getElem.1 h j i hjl hil h1
        rw [hif, hjf] at this
        exact this.symm
theorem Mem.picks (h : Mem W w fs) (is : List Nat) (hn : is.Nodup) (he : picks fs is = fs') : Mem W w fs' := by
  subst he
  refine ⟨h.below, fun f hf => ?_, pairwise_picks h.apart hn⟩
  obtain ⟨j, _, hj⟩ := List.mem_filterMap.1 hf
  exact h.holds f (List.mem_of_getElem? hj)
theorem Mem.tail {f : Fact} (h : Mem W w (f :: fs)) : Mem W w fs := ⟨h.below, fun k hk => h.holds k (List.mem_cons_of_mem _ hk), (List.pairwise_cons.1 h.apart).2⟩
/-- One fact gives way to another on the same block or a new one; all other blocks lie as they lay. -/
theorem Mem.turn (h : Mem W w fs) {i : Nat} {f f' : Fact} (hi : fs[i]? = some f) (hb : Below W.heap.size W w') (hk : ∀ g, g < w.heap.size → f.block ≠ some g → w'.heap[g]? = w.heap[g]?)
    (hf : f'.holds W.heap.size w') (hn : ∀ g, f'.block = some g → f.block = some g ∨ w.heap.size ≤ g) : Mem W w' (fs.set i f') := by
  obtain ⟨hil, hif⟩ := List.getElem?_eq_some_iff.1 hi
  have hother : ∀ j (hj : j < fs.length), j ≠ i → Fact.apart fs[j] f ∧ Fact.apart f fs[j] := fun j hj hji => by
    rcases Nat.lt_or_gt_of_ne hji with h1 | h1
    · have := List.pairwise_iff_getElem.1 h.apart j i hj hil h1
      rw [hif] at this
      exact ⟨this, this.symm⟩
    · have := List.pairwise_iff_getElem.1 h.apart i j hil hj h1
      rw [hif] at this
      exact ⟨this.symm, this⟩
  have hnew : ∀ j (hj : j < fs.length), j ≠ i → Fact.apart f' fs[j] := fun j hj hji g hg hg' => by
    rcases hn g hg with h1 | h1
    · exact (hother j hj hji).2 g h1 hg'
    · have := ((h.holds _ (List.getElem_mem hj)).lt hg').2
      omega
  refine ⟨hb, fun k hkm => ?_, ?_⟩
  · obtain ⟨j, hj, hjk⟩ := List.getElem_of_mem hkm
    rw [List.getElem_set] at hjk
    rw [List.length_set] at hj
    split at hjk
    · subst hjk; exact hf
    · rename_i hne
      subst hjk
      have hh := h.holds _ (List.getElem_mem hj)
      exact hh.keep fun g hg => hk g (hh.lt hg).2 (fun e => (hother j hj (Ne.symm hne)).1 g hg e)
  · rw [List.pairwise_iff_getElem]
    intro p q hp hq hpq
    rw [List.length_set] at hp hq
    rw [List.getElem_set, List.getElem_set]
    split
    · rename_i e
      subst e
      rw [if_neg (by omega)]
      exact hnew q hq (by omega)
    · split
      · rename_i e
        subst e
        exact (hnew p hp (by omega)).symm
      · exact List.pairwise_iff_getElem.1 h.apart p q hp hq hpq
/-- What a cell of a block known holds. -/
theorem Mem.blk (h : Mem W w fs) {i g : Nat} {cs : Array Value} {t : TypeId} (hi : fs[i]? = some (.blk g cs t)) : w.heap[g]? = some (.cells cs t (0, 0)) := (h.holds _ (List.mem_of_getElem? hi)).2
theorem Mem.cell (h : Mem W w fs) {i g o : Nat} {cs : Array Value} {t : TypeId} {v : Value} (hi : fs[i]? = some (.blk g cs t)) (hc : cs[o]? = some v) : w.cell? ⟨g, o, none⟩ = some v := by
  simp [World.cell?, h.blk hi, hc]
theorem Mem.own (h : Mem W w fs) {i : Nat} {v : Value} {n : Nat} {xs : List Value} {e : TypeId} {size : Nat} (hi : fs[i]? = some (.row v n xs e size)) : w.ownsRow W.heap.size e size v n xs := h.holds _ (List.mem_of_getElem? hi)
theorem Mem.rd (h : Mem W w fs) {i : Nat} {A : Option Addr} {n c : Nat} {xs : List Value} {e : TypeId} {size : Nat} (hi : fs[i]? = some (.row (.slice A n c) n xs e size)) : Rd w w.heap.size size A n xs := Rd.of_own (h.own hi) rfl
theorem Mem.old (h : Mem W w fs) {size : Nat} {A : Option Addr} {n : Nat} {xs : List Value} (hr : Rd W W.heap.size size A n xs) : Rd w w.heap.size size A n xs := (hr.below h.below).more h.size
/-- A block read as a slice. -/
theorem Rd.of_blk {w : World} {g : Nat} {cs : Array Value} {t : TypeId} (hb : w.heap[g]? = some (.cells cs t (0, 0))) {size n : Nat} (hn : cs.size = n * size) : Rd w w.heap.size size (some ⟨g, 0, none⟩) n cs.toList :=
  ⟨by simpa using hn, fun _ => ⟨_, rfl, blk_lt hb, fun j u hu => by
    rw [Addr.add_mid, Nat.zero_add]
    simp only [World.cell?, hb]
    simpa using hu⟩⟩
theorem Mem.rdBlk (h : Mem W w fs) {i g : Nat} {cs : Array Value} {t : TypeId} {size n : Nat} (hi : fs[i]? = some (.blk g cs t)) (hn : cs.size = n * size) : Rd w w.heap.size size (some ⟨g, 0, none⟩) n cs.toList := Rd.of_blk (h.blk hi) hn
/-- A block just built is a row of the call's own. -/
theorem Mem.blkRow (h : Mem W w fs) {i g : Nat} {cs : Array Value} {e : TypeId} {size n : Nat} (hi : fs[i]? = some (.blk g cs e)) (hn : cs.size = n * size) (hm : n ≤ 9223372036854775807) : Mem W w (fs.set i (.row (.slice (some ⟨g, 0, none⟩) n n) n cs.toList e size)) := by
  have hb := h.holds _ (List.mem_of_getElem? hi)
  refine h.turn hi h.below (fun _ _ _ => rfl) ⟨by simpa using hn, .inr ⟨g, n, cs, rfl, hb.1, hb.2, Nat.le_refl _, by unfold maxLen; exact hm, hn, ?_⟩⟩ (fun g' hg' => .inl hg')
  rw [← hn, ← Array.length_toList, List.take_length]
/-- A store of one cell into a block known. -/
theorem Mem.set (h : Mem W w fs) {i g o : Nat} {cs : Array Value} {t : TypeId} (hi : fs[i]? = some (.blk g cs t)) (v : Value) : Mem W (w.setCell ⟨g, o, none⟩ v) (fs.set i (.blk g (cs.setIfInBounds o v) t)) := by
  have hb := h.holds _ (List.mem_of_getElem? hi)
  refine h.turn hi (h.below.setCell (p := ⟨g, o, none⟩) hb.1 v) (fun k hk hne => ?_) ⟨hb.1, ?_⟩ (fun g' hg' => .inl hg')
  · exact Below.heap_setCell _ _ _ _ (fun e => hne (by rw [e]; rfl))
  · simp [World.setCell, Array.getElem?_modify, hb.2]
/-- A store of a whole block. -/
theorem Mem.setAll (h : Mem W w fs) {i g : Nat} {cs ds : Array Value} {t : TypeId} (hi : fs[i]? = some (.blk g cs t)) (hs : cs.size = ds.size) : Mem W (w.setCells g 0 ds.toList) (fs.set i (.blk g ds t)) := by
  have hb := h.holds _ (List.mem_of_getElem? hi)
  refine h.turn hi (below_setCells h.below hb.1 0 _) (fun k hk hne => ?_) ⟨hb.1, ?_⟩ (fun g' hg' => .inl hg')
  · exact heap_setCells_far _ _ _ _ _ (fun e => hne (by rw [e]; rfl))
  · have := heap_setCells_same hb.2 ds.toList (by simpa using hs)
    simpa using this
/-- An append onto a row of the call's own. -/
theorem Mem.append (h : Mem W w fs) {i n : Nat} {v v' : Value} {xs ys : List Value} {e : TypeId} {size n' : Nat} (hi : fs[i]? = some (.row v n xs e size)) (ho : w'.ownsRow W.heap.size e size v' n' ys) (hg : w.grownBy w' v.ownBlock)
    (hb : v'.ownBlock = v.ownBlock ∨ v'.ownBlock = some w.heap.size) : Mem W w' (fs.set i (.row v' n' ys e size)) := by
  have hv := h.own hi
  refine h.turn hi (h.below.grown hg h.size (fun g hgb => (own_block hv hgb).1)) (fun g hgl hne => hg.block g hgl (fun e => hne e.symm)) ho (fun g hgb => ?_)
  have hgb' : v'.ownBlock = some g := hgb
  rcases hb with h1 | h1
  · exact .inl (show v.ownBlock = some g by rw [← h1]; exact hgb')
  · rw [h1] at hgb'; injection hgb' with e; exact .inr (by omega)
end
end Go.Proofs.YtpekelggcmgnnaaDoor

/- Generic: the steps of a walk over frames known by slots and memory known by facts. No program is in sight. -/
namespace Go.Proofs.YtpekelggcmgnnaaDoor
open Go.RowKit

/-- From operation i on. -/
def wpFrom (P : Program) (ops : Array Oper) (Q : Exit → Act → World → Prop) (i : Nat) (a : Act) (w : World) : Prop := wpList P ops Q (ops.toList.drop i) a w
/-- o yields v in every world that meets S. -/
def Yl (P : Program) (S : World → Prop) (σ : List (Nat × Value)) (o : Oper) (v : Value) : Prop := ∀ (a : Act) (n : Nat) (D : List Deferred), Fr a n D σ → ∀ w, S w → (execOp a.eval o).run P w = .ok (.value v) w

section
variable {P : Program} {ops : Array Oper} {Q : Exit → Act → World → Prop} {a : Act} {w : World} {n i j d fuel : Nat} {D : List Deferred} {σ σ' : List (Nat × Value)} {o : Oper} {v : Value} {md : Region.Mode} {S : World → Prop} {K : Act → World → Prop} {listed : Array Bool}
theorem from_start {id : Nat} (h : wpFrom P ops Q 0 a w) : (Code.region id ops false).wp P Q a w := wp_region_list (by simpa [wpFrom] using h)
theorem from_done (hi : ops.size = i) (h : Q .normal a w) : wpFrom P ops Q i a w := by
  unfold wpFrom
  rw [List.drop_of_length_le (by simp [hi])]
  exact h
theorem from_op (HF : Fr a n D σ) (ho : ops[i]? = some o) (hw : wantB ops σ o = some true) (h : o.wp P a w (wpFrom P ops Q (i + 1)) Q) : wpFrom P ops Q i a w := by
  obtain ⟨hl, he⟩ := Array.getElem?_eq_some_iff.1 ho
  unfold wpFrom
  rw [List.drop_eq_getElem_cons (by simpa using hl), Array.getElem_toList, he]
  unfold wpList
  rw [if_pos (wanted_of HF hw)]
  exact .inl h
theorem from_skip (HF : Fr a n D σ) (ho : ops[i]? = some o) (hw : wantB ops σ o = some false) (hd : o.dst = some d) (hdn : d < n) (k : ∀ a', Fr a' n D ((d, undef) :: σ) → wpFrom P ops Q (i + 1) a' w) : wpFrom P ops Q i a w := by
  obtain ⟨hl, he⟩ := Array.getElem?_eq_some_iff.1 ho
  unfold wpFrom
  rw [List.drop_eq_getElem_cons (by simpa using hl), Array.getElem_toList, he]
  unfold wpList
  rw [if_neg (by rw [wanted_of HF hw]; simp), hd]
  exact k _ (HF.put hdn _)
theorem Yl.wp (hy : Yl P S σ o v) (HF : Fr a n D σ) (hS : S w) (hd : o.dst = some d) (hdn : d < n) (k : ∀ a', Fr a' n D ((d, v) :: σ) → K a' w) : o.wp P a w K Q := by
  unfold Oper.wp
  rw [hy a n D HF w hS, Oper.upon_value, hd]
  exact k _ (HF.put hdn _)
theorem from_yl (HF : Fr a n D σ) (hS : S w) (ho : ops[i]? = some o) (hw : wantB ops σ o = some true) (hd : o.dst = some d) (hdn : d < n) (hy : Yl P S σ o v) (k : ∀ a', Fr a' n D ((d, v) :: σ) → wpFrom P ops Q (i + 1) a' w) : wpFrom P ops Q i a w :=
  from_op HF ho hw (hy.wp HF hS hd hdn k)
theorem Yl.pure (h : pureVal P σ o.op = some v) : Yl P S σ o v := fun _ _ _ HF w _ => pureVal_run HF h w
def pureStep (P : Program) (ops : Array Oper) (n i : Nat) (σ : List (Nat × Value)) : Option (List (Nat × Value)) :=
  match ops[i]? with
  | none => none
  | some o => match wantB ops σ o, o.dst with
    | some true, some d => if d < n then match pureVal P σ o.op with
      | some v => some ((d, v) :: σ)
      | none => none else none
    | some false, some d => if d < n then some ((d, undef) :: σ) else none
    | _, _ => none
def pureSteps (P : Program) (ops : Array Oper) (n : Nat) : Nat → Nat → List (Nat × Value) → Option (List (Nat × Value))
  | 0, _, σ => some σ
  | m + 1, i, σ => match pureStep P ops n i σ with
    | none => none
    | some σ' => pureSteps P ops n m (i + 1) σ'
/-- m operations that only compute, at once. -/
theorem from_pures' : ∀ (m i : Nat) {j : Nat} {a : Act} {σ : List (Nat × Value)}, Fr a n D σ → pureSteps P ops n m i σ = some σ' → i + m = j → (∀ a', Fr a' n D σ' → wpFrom P ops Q j a' w) → wpFrom P ops Q i a w
  | 0, i, j, a, σ, HF, h, hj, k => by
    injection h with h
    subst h
    have e : i = j := hj
    subst e
    exact k a HF
  | m + 1, i, j, a, σ, HF, h, hj, k => by
    unfold pureSteps at h
    split at h
    · cases h
    · rename_i σ1 h1
      have rest := fun a' HF' => from_pures' m (i + 1) (a := a') (σ := σ1) HF' h (by omega) k
      unfold pureStep at h1
      split at h1
      · cases h1
      · rename_i o ho
        split at h1
        · rename_i d hw hd
          split at h1
          · rename_i hdn
            split at h1
            · rename_i v hv
              injection h1 with h1
              subst h1
              exact from_yl (S := fun _ => True) HF trivial ho hw hd hdn (Yl.pure hv) rest
            · cases h1
          · cases h1
        · rename_i d hw hd
          split at h1
          · rename_i hdn
            injection h1 with h1
            subst h1
            exact from_skip HF ho hw hd hdn rest
          · cases h1
        · cases h1

/-- m operations that only compute, at once: what they add to the frame. -/
theorem from_pures (HF : Fr a n D σ) (m i : Nat) {j : Nat} (new : List (Nat × Value)) (h : pureSteps P ops n m i σ = some (new ++ σ)) (hj : i + m = j) (k : ∀ a', Fr a' n D (new ++ σ) → wpFrom P ops Q j a' w) : wpFrom P ops Q i a w := from_pures' m i HF h hj k

/-! A region that draws its order. S is kept until an operation of 'ex' has come up; these wait for all that reads. -/
def pastB (ex : List Nat) (listed : Array Bool) : Bool := ex.any fun j => listed.getD j false
def wpAnyN (P : Program) (md : Region.Mode) (ops : Array Oper) (Q : Exit → Act → World → Prop) (S : World → Prop) (ex : List Nat) : Nat → Array Bool → Act → World → Prop
  | 0, listed, a, w => Region.ready md ops listed = [] ∧ Q .normal a w
  | fuel + 1, listed, a, w =>
    (Region.ready md ops listed = [] → Q .normal a w) ∧
    ∀ i ∈ Region.ready md ops listed, wpOp P ops Q i (fun a' w' => (pastB ex (listed.setIfInBounds i true) = false → S w') ∧ wpAnyN P md ops Q S ex fuel (listed.setIfInBounds i true) a' w') a w
theorem wpAny_of_anyN {ex : List Nat} : ∀ (fuel : Nat) (listed : Array Bool) (a : Act) (w : World), wpAnyN P md ops Q S ex fuel listed a w → wpAny P md ops Q fuel listed a w
  | 0, _, _, _, h => h
  | fuel + 1, _, _, _, h => ⟨h.1, fun i hi => wpOp_mono (fun a' w' h' => wpAny_of_anyN fuel _ a' w' h'.2) (h.2 i hi)⟩
/-- Those of 'ex' wait for i. -/
def exOk (md : Region.Mode) (ops : Array Oper) (ex : List Nat) (i : Nat) : Bool := ex.all fun j => match ops[j]? with
  | some o => o.after.any fun e => Region.binds md e && e.on == i
  | none => true
theorem pastB_set {ex : List Nat} {l : Array Bool} {i : Nat} (h : ex.contains i = false) : pastB ex (l.setIfInBounds i true) = pastB ex l := by
  unfold pastB
  rw [Bool.eq_iff_iff, List.any_eq_true, List.any_eq_true]
  have hne : ∀ j ∈ ex, i ≠ j := fun j hj e => by
    subst e
    have : ex.contains i = true := by simpa using hj
    rw [h] at this; cases this
  constructor
  · rintro ⟨j, hj, hl⟩; exact ⟨j, hj, by rwa [getD_set_ne false (hne j hj)] at hl⟩
  · rintro ⟨j, hj, hl⟩; exact ⟨j, hj, by rwa [getD_set_ne false (hne j hj)]⟩
theorem pastB_mono {ex : List Nat} {l : Array Bool} {i : Nat} (h : pastB ex (l.setIfInBounds i true) = false) : pastB ex l = false := by
  cases hp : pastB ex l with
  | false => rfl
  | true =>
    unfold pastB at h hp
    obtain ⟨j, hj, hl⟩ := List.any_eq_true.1 hp
    rw [List.any_eq_false] at h
    exact absurd (getD_set_true (i := i) hl) (h j hj)
theorem anyN_first {ex : List Nat} {oi : Oper} {T : World → Prop} (hi : ops[i]? = some oi) (hsel : ∀ (j : Nat) (o : Oper) cs b, ops[j]? = some o → o.op ≠ .select cs b)
    (hQ : ∀ c (a : Act) w, Q (.panic c) (a.put oi.dst v) w → Q (.panic c) a w) (hiex : ex.contains i = false) :
    ∀ (fuel : Nat) (listed : Array Bool) (a : Act) (w : World), ((∀ w, T w) ∨ (T = S ∧ exOk md ops ex i = true ∧ pastB ex listed = false)) →
      (∀ j oj, ops[j]? = some oj → j ≠ i → listed.getD j true = false → (∀ e ∈ oj.after, Region.binds md e = true → e.on ≠ i) → oi.apart ops oj = true) →
      i ∈ Region.ready md ops listed → YieldsIf P ops T oi v a → (pastB ex listed = false → S w) →
      wpAnyN P md ops Q S ex fuel (listed.setIfInBounds i true) (a.put oi.dst v) w → wpAnyN P md ops Q S ex (fuel + 1) listed a w := by
  intro fuel
  induction fuel with
  | zero =>
    intro listed a w hx _ hr hy hS H
    have hT : T w := by rcases hx with h | ⟨h, _, hp⟩ <;> first | exact h w | (rw [h]; exact hS hp)
    refine ⟨fun h => (by rw [h] at hr; cases hr), fun j hj => ?_⟩
    by_cases hji : j = i
    · subst hji; exact hy.wpOp hi hT ⟨fun hp => hS (pastB_mono hp), H⟩
    · have := ready_mono hj hji
      rw [H.1] at this
      cases this
  | succ fuel ih =>
    intro listed a w hx hfree hr hy hS H
    have hT : T w := by rcases hx with h | ⟨h, _, hp⟩ <;> first | exact h w | (rw [h]; exact hS hp)
    refine ⟨fun h => (by rw [h] at hr; cases hr), fun j hj => ?_⟩
    by_cases hji : j = i
    · subst hji; exact hy.wpOp hi hT ⟨fun hp => hS (pastB_mono hp), H⟩
    · have h1 := H.2 j (ready_mono hj hji)
      obtain ⟨hjun, oj, hoj, hall⟩ := mem_ready.1 hj
      have hnot : ∀ e ∈ oj.after, Region.binds md e = true → e.on ≠ i := fun e he hb heq => by
        have h1 := hall e he hb
        have h0 := (mem_ready.1 hr).1
        rw [heq] at h1
        rcases Nat.lt_or_ge i listed.size with h' | h'
        · simp [h'] at h0 h1; rw [h0] at h1; cases h1
        · simp [Array.getElem?_eq_none h'] at h1
      have hx' : (∀ w, T w) ∨ (T = S ∧ exOk md ops ex i = true ∧ pastB ex (listed.setIfInBounds j true) = false) := by
        rcases hx with h | ⟨h, h2, h3⟩
        · exact .inl h
        · refine .inr ⟨h, h2, ?_⟩
          rw [pastB_set ?_]
          · exact h3
          · cases hc : ex.contains j with
            | false => rfl
            | true =>
              have hm : j ∈ ex := by simpa using hc
              have h2 := List.all_eq_true.1 h2 j hm
              rw [hoj] at h2
              obtain ⟨e, he, hb⟩ := Array.any_eq_true'.1 h2
              rw [Bool.and_eq_true, beq_iff_eq] at hb
              exact absurd hb.2 (hnot e he hb.1)
      have h2 := wpOp_putIf hoj (hfree j oj hoj hji hjun hnot) (fun cs b => hsel i oi cs b hi) (fun cs b => hsel j oj cs b hoj) hQ hy h1
      have hfree' : ∀ k ok, ops[k]? = some ok → k ≠ i → (listed.setIfInBounds j true).getD k true = false →
          (∀ e ∈ ok.after, Region.binds md e = true → e.on ≠ i) → oi.apart ops ok = true := fun k ok hk hki hun hno => by
        refine hfree k ok hk hki ?_ hno
        by_cases hjk : j = k
        · subst hjk; exact hjun
        · rw [getD_set_ne true hjk] at hun; exact hun
      refine wpOp_mono (fun a' w' h3 => ?_) h2
      have hS' : pastB ex (listed.setIfInBounds j true) = false → S w' := fun hp => h3.2.1 (by rw [Array.setIfInBounds_comm _ _ (Ne.symm hji), pastB_set hiex]; exact hp)
      refine ⟨hS', ih (listed.setIfInBounds j true) a' w' hx' hfree' (ready_mono hr (Ne.symm hji)) h3.1 hS' ?_⟩
      rw [Array.setIfInBounds_comm _ _ hji]
      exact h3.2.2
section
variable {ex : List Nat}
theorem any_start {id : Nat} (hm : P.follows .mixedOrders = true) (S : World → Prop) (ex : List Nat) (h : wpAnyN P .any ops Q S ex ops.size (Array.replicate ops.size false) a w.drew) : (Code.region id ops true).wp P Q a w :=
  wp_region_any hm (wpAny_of_anyN _ _ _ _ h)
/-- What reads may be taken first, as long as none of 'ex' has come up. -/
def readOk (md : Region.Mode) (ops : Array Oper) (ex : List Nat) (listed : Array Bool) (i : Nat) : Bool :=
  Region.noSelect ops && (Region.free md ops listed i && ((Region.ready md ops listed).contains i && (!ex.contains i && (exOk md ops ex i && !pastB ex listed))))
def pureOk (md : Region.Mode) (ops : Array Oper) (ex : List Nat) (listed : Array Bool) (i : Nat) : Bool :=
  Region.noSelect ops && (Region.free md ops listed i && ((Region.ready md ops listed).contains i && !ex.contains i))
theorem any_yl (HF : Fr a n D σ) (hS : S w) (ho : ops[i]? = some o) (hw : wantB ops σ o = some true) (hd : o.dst = some d) (hdn : d < n) (hok : readOk md ops ex listed i = true) (hQ : ∀ c (a : Act) w, Q (.panic c) (a.put o.dst v) w → Q (.panic c) a w) (hy : Yl P S σ o v)
    (k : ∀ a', Fr a' n D ((d, v) :: σ) → wpAnyN P md ops Q S ex fuel (listed.setIfInBounds i true) a' w) : wpAnyN P md ops Q S ex (fuel + 1) listed a w := by
  simp only [readOk, Bool.and_eq_true, Bool.not_eq_true'] at hok
  obtain ⟨h1, h2, h3, h4, h5, h6⟩ := hok
  exact anyN_first (T := S) ho (Region.noSelect_spec h1) hQ h4 fuel listed a w (.inr ⟨rfl, h5, h6⟩) (Region.free_spec ho h2) (by simpa using h3) (.inl ⟨wanted_of HF hw, fun w hw => hy a n D HF w hw⟩) (fun _ => hS) (by rw [hd]; exact k _ (HF.put hdn _))
theorem any_pure (HF : Fr a n D σ) (hS : pastB ex listed = false → S w) (ho : ops[i]? = some o) (hw : wantB ops σ o = some true) (hd : o.dst = some d) (hdn : d < n) (hok : pureOk md ops ex listed i = true) (hQ : ∀ c (a : Act) w, Q (.panic c) (a.put o.dst v) w → Q (.panic c) a w) (hy : ∀ S', Yl P S' σ o v)
    (k : ∀ a', Fr a' n D ((d, v) :: σ) → wpAnyN P md ops Q S ex fuel (listed.setIfInBounds i true) a' w) : wpAnyN P md ops Q S ex (fuel + 1) listed a w := by
  simp only [pureOk, Bool.and_eq_true, Bool.not_eq_true'] at hok
  obtain ⟨h1, h2, h3, h4⟩ := hok
  exact anyN_first (T := fun _ => True) ho (Region.noSelect_spec h1) hQ h4 fuel listed a w (.inl fun _ => trivial) (Region.free_spec ho h2) (by simpa using h3) (.inl ⟨wanted_of HF hw, fun w _ => hy (fun _ => True) a n D HF w trivial⟩) hS (by rw [hd]; exact k _ (HF.put hdn _))
theorem any_skip (HF : Fr a n D σ) (hS : pastB ex listed = false → S w) (ho : ops[i]? = some o) (hw : wantB ops σ o = some false) (hd : o.dst = some d) (hdn : d < n) (hok : pureOk md ops ex listed i = true) (hQ : ∀ c (a : Act) w, Q (.panic c) (a.put o.dst undef) w → Q (.panic c) a w)
    (k : ∀ a', Fr a' n D ((d, undef) :: σ) → wpAnyN P md ops Q S ex fuel (listed.setIfInBounds i true) a' w) : wpAnyN P md ops Q S ex (fuel + 1) listed a w := by
  simp only [pureOk, Bool.and_eq_true, Bool.not_eq_true'] at hok
  obtain ⟨h1, h2, h3, h4⟩ := hok
  exact anyN_first (T := fun _ => True) ho (Region.noSelect_spec h1) hQ h4 fuel listed a w (.inl fun _ => trivial) (Region.free_spec ho h2) (by simpa using h3) (.inr ⟨wanted_of HF hw, rfl⟩) hS (by rw [hd]; exact k _ (HF.put hdn _))
/-- Operations that only compute, taken first, at once. -/
def anySteps (P : Program) (md : Region.Mode) (ops : Array Oper) (n : Nat) (ex : List Nat) : List Nat → Array Bool → List (Nat × Value) → Option (Array Bool × List (Nat × Value))
  | [], l, σ => some (l, σ)
  | i :: is, l, σ => if pureOk md ops ex l i then match pureStep P ops n i σ with
      | some σ' => anySteps P md ops n ex is (l.setIfInBounds i true) σ'
      | none => none
    else none
theorem any_pures' {listed' : Array Bool} (hQ : ∀ c (a : Act) d v w, Q (.panic c) (a.put d v) w → Q (.panic c) a w) :
    ∀ (is : List Nat) {a : Act} {σ : List (Nat × Value)} {listed : Array Bool}, Fr a n D σ → (pastB ex listed = false → S w) → anySteps P md ops n ex is listed σ = some (listed', σ') → (∀ a', Fr a' n D σ' → wpAnyN P md ops Q S ex fuel listed' a' w) → wpAnyN P md ops Q S ex (fuel + is.length) listed a w
  | [], a, σ, listed, HF, _, h, k => by
    injection h with h
    injection h with h1 h2
    subst h1; subst h2
    exact k a HF
  | i :: is, a, σ, listed, HF, hS, h, k => by
    unfold anySteps at h
    split at h
    · rename_i hc
      split at h
      · rename_i σ1 h1
        have rest := fun a' HF' => any_pures' hQ is (a := a') (σ := σ1) HF' (fun hp => hS (pastB_mono hp)) h k
        unfold pureStep at h1
        split at h1
        · cases h1
        · rename_i o ho
          split at h1
          · rename_i d hw hd
            split at h1
            · rename_i hdn
              split at h1
              · rename_i v hv
                injection h1 with h1
                subst h1
                exact any_pure HF hS ho hw hd hdn hc (fun c a w => hQ c a _ _ w) (fun _ => Yl.pure hv) rest
              · cases h1
            · cases h1
          · rename_i d hw hd
            split at h1
            · rename_i hdn
              injection h1 with h1
              subst h1
              exact any_skip HF hS ho hw hd hdn hc (fun c a w => hQ c a _ _ w) rest
            · cases h1
          · cases h1
      · cases h
    · cases h
theorem any_pures (HF : Fr a n D σ) (hS : pastB ex listed = false → S w) (hQ : ∀ c (a : Act) d v w, Q (.panic c) (a.put d v) w → Q (.panic c) a w) (is : List Nat) (listed' : Array Bool) (new : List (Nat × Value))
    (h : anySteps P md ops n ex is listed σ = some (listed', new ++ σ)) (k : ∀ a', Fr a' n D (new ++ σ) → wpAnyN P md ops Q S ex fuel listed' a' w) : wpAnyN P md ops Q S ex (fuel + is.length) listed a w := any_pures' hQ is HF hS h k
theorem any_done (hr : Region.ready md ops listed = []) (h : Q .normal a w) : wpAnyN P md ops Q S ex fuel listed a w := by
  cases fuel with
  | zero => exact ⟨hr, h⟩
  | succ f => exact ⟨fun _ => h, by rw [hr]; simp⟩
theorem all_nil {X : Nat → Prop} : ∀ i ∈ ([] : List Nat), X i := fun _ h => by cases h
theorem all_cons {X : Nat → Prop} {r : List Nat} (h : X i) (t : ∀ i ∈ r, X i) : ∀ j ∈ i :: r, X j := fun j hj => by
  rcases List.mem_cons.1 hj with rfl | hj
  · exact h
  · exact t j hj
theorem any_all (rs : List Nat) (hr : Region.ready md ops listed = rs) (hne : rs.isEmpty = false) (h : ∀ i ∈ rs, wpOp P ops Q i (fun a' w' => (pastB ex (listed.setIfInBounds i true) = false → S w') ∧ wpAnyN P md ops Q S ex fuel (listed.setIfInBounds i true) a' w') a w) : wpAnyN P md ops Q S ex (fuel + 1) listed a w :=
  ⟨fun e => (by rw [hr] at e; subst e; cases hne), hr ▸ h⟩
theorem pastS {p : Prop} {l : Array Bool} (h : pastB ex l = true) : pastB ex l = false → p := fun e => by rw [h] at e; cases e
theorem keepS {c p X : Prop} (h : p) (k : p → X) : (c → p) ∧ X := ⟨fun _ => h, k h⟩
theorem noS {p X : Prop} {l : Array Bool} (h : pastB ex l = true) (k : X) : (pastB ex l = false → p) ∧ X := ⟨fun e => (by rw [h] at e; cases e), k⟩
theorem any_op (HF : Fr a n D σ) (ho : ops[i]? = some o) (hw : wantB ops σ o = some true) (h : o.wp P a w K Q) : wpOp P ops Q i K a w := by
  unfold wpOp
  rw [ho]
  simp only [wanted_of HF hw, if_true]
  exact .inl h
end

/-! What reads memory. -/
def isOne (P : Program) (t : TypeId) : Bool := match P.underlying t with
  | some (.struct _) => false
  | some (.array _ _) => false
  | some _ => true
  | none => false
def elemSz (P : Program) (t : TypeId) : Option Nat := match P.underlying t with
  | some (.slice e) => (P.info? e).map (·.size)
  | _ => none
theorem isAgg_one {t : TypeId} (h : isOne P t = true) (w : World) : (isAgg t).run P w = .ok false w := by
  unfold isOne at h
  cases hu : P.underlying t with
  | none => rw [hu] at h; cases h
  | some d => rw [hu] at h; simp only [isAgg, Sem.run_bind, run_underlying hu, Result.andThen_ok]; cases d <;> first | rfl | cases h
theorem Yl.load1 {t : TypeId} {x : Operand} {p : Addr} (hop : o.op = .load t x) (hx : look σ x = some (.pointer (some p))) (ht : isOne P t = true) (hc : ∀ w, S w → w.cell? p = some v) : Yl P S σ o v := fun a n D HF w hS => by
  unfold execOp
  simp [hop, HF.eval hx, Instr.loadAt, Instr.sureAddr, loadVar, isAgg_one ht, load, Sem.run, hc w hS]
theorem Yl.loadS {t : TypeId} {x : Operand} {b off m : Nat} {cs : Array Value} (hop : o.op = .load t x) (hx : look σ x = some (.pointer (some ⟨b, off, none⟩))) (si : SI P t m) (hm : cs.size = m) (hc : ∀ w, S w → w.rangeAt b off cs.toList) : Yl P S σ o (.agg cs) := fun a n D HF w hS => by
  obtain ⟨ds, hu, hd⟩ := si.desc
  have hl := run_loadVar_mid (P := P) w b off t cs.toList ds (hc w hS) hu hd (by rw [si.size, ← hm]; simp)
  unfold execOp
  simp [hop, HF.eval hx, Instr.loadAt, Instr.sureAddr, hl]
theorem Yl.indexAddr {t : TypeId} {x ix : Operand} {ad : Addr} {m c y sz : Nat} {k : IntKind} (hop : o.op = .indexAddr t x ix) (hx : look σ x = some (.slice (some ad) m c)) (hi : look σ ix = some (.int k (y : Int))) (hy : y < m) (he : elemSz P t = some sz) : Yl P S σ o (.pointer (some (ad.add (y * sz)))) := fun a n D HF w hS => by
  unfold elemSz at he
  split at he
  · rename_i e hu
    obtain ⟨i, hi', rfl⟩ := Option.map_eq_some_iff.1 he
    unfold execOp
    have h1 : ¬ m ≤ y := by omega
    simp [hop, HF.eval hx, HF.eval hi, Instr.indexAt, asIntOf, run_underlying hu, hy, sizeOf, typeInfo, hi']
  · cases he
def isSl (P : Program) (t : TypeId) : Bool := match P.underlying t with
  | some (.slice _) => true
  | _ => false
theorem Yl.len {x : Operand} {t : TypeId} {A : Option Addr} {m c : Nat} (hop : o.op = .call { callee := .builtin .len, args := #[x], argTypes := #[t] }) (hx : look σ x = some (.slice A m c)) (ht : isSl P t = true) : Yl P S σ o (.int .i64 (m : Int)) := fun a n D HF w hS => by
  unfold isSl at ht
  split at ht
  · rename_i e hu
    unfold execOp
    simp [hop, resolve, invoke, builtin, HF.eval hx, Builtin.len_, run_underlying hu, goInt]
  · cases ht
theorem Yl.min {x y : Operand} {ts : Array TypeId} {k : IntKind} {p q : Int} (hop : o.op = .call { callee := .builtin .min, args := #[x, y], argTypes := ts }) (hx : look σ x = some (.int k p)) (hy : look σ y = some (.int k q)) : Yl P S σ o (.int k (if q < p then q else p)) := fun a n D HF w hS => by
  unfold execOp
  simp [hop, resolve, invoke, builtin, HF.eval hx, HF.eval hy, Builtin.min_, Builtin.min2]
theorem Yl.max {x y : Operand} {ts : Array TypeId} {k : IntKind} {p q : Int} (hop : o.op = .call { callee := .builtin .max, args := #[x, y], argTypes := ts }) (hx : look σ x = some (.int k p)) (hy : look σ y = some (.int k q)) : Yl P S σ o (.int k (if q > p then q else p)) := fun a n D HF w hS => by
  unfold execOp
  simp [hop, resolve, invoke, builtin, HF.eval hx, HF.eval hy, Builtin.max_, Builtin.max2]
/-- Another spelling of the value. -/
theorem Yl.as {u : Value} (h : Yl P S σ o v) (e : v = u) : Yl P S σ o u := e ▸ h
end
end Go.Proofs.YtpekelggcmgnnaaDoor

/- Generic: the steps that turn memory, calls, and how a function begins and ends. No program is in sight. -/
namespace Go.Proofs.YtpekelggcmgnnaaDoor
open Go.RowKit

section
variable {P : Program} {Q : Exit → Act → World → Prop} {a : Act} {W w : World} {n d : Nat} {D : List Deferred} {σ : List (Nat × Value)} {o : Oper} {v : Value} {K : Act → World → Prop} {fs : List Fact}

def zeroCells' (P : Program) (e : TypeId) : Option (Array Value) := ((P.info? e).bind (·.zero)).map Value.cells
theorem wp_new {b : Value} {e : TypeId} {cs : Array Value} (hr : (execOp a.eval o).run P w = .ok (.value (.pointer (some ⟨w.heap.size, 0, none⟩))) (w.alloc (.cells cs e))) (HF : Fr a n D σ) (HM : Mem W w fs) (hd : o.dst = some d) (hdn : d < n)
    (k : ∀ a' w' g, Fr a' n D ((d, .pointer (some ⟨g, 0, none⟩)) :: σ) → Mem W w' (.blk g cs e :: fs) → K a' w') : o.wp P a w K Q := by
  have _ := b
  unfold Oper.wp
  rw [hr, Oper.upon_value, hd]
  exact k _ _ _ (HF.put hdn _) (HM.alloc cs e)
theorem e_alloc (HF : Fr a n D σ) (HM : Mem W w fs) {e : TypeId} {cs : Array Value} (hop : o.op = .alloc e) (hz : zeroCells' P e = some cs) (hd : o.dst = some d) (hdn : d < n)
    (k : ∀ a' w' g, Fr a' n D ((d, .pointer (some ⟨g, 0, none⟩)) :: σ) → Mem W w' (.blk g cs e :: fs) → K a' w') : o.wp P a w K Q := by
  refine wp_new (b := undef) ?_ HF HM hd hdn k
  unfold zeroCells' at hz
  obtain ⟨z, hz1, rfl⟩ := Option.map_eq_some_iff.1 hz
  obtain ⟨i, hi, hz2⟩ := Option.bind_eq_some_iff.1 hz1
  unfold execOp
  simp [hop, Instr.alloc, zeroValue, typeInfo, hi, hz2, newVar, newRow, newObj]
  rfl
theorem e_box (HF : Fr a n D σ) (HM : Mem W w fs) {e : TypeId} {x : Operand} (hop : o.op = .box e x) (hx : look σ x = some v) {cs : Array Value} (hc : v.cells = cs) (hd : o.dst = some d) (hdn : d < n)
    (k : ∀ a' w' g, Fr a' n D ((d, .pointer (some ⟨g, 0, none⟩)) :: σ) → Mem W w' (.blk g cs e :: fs) → K a' w') : o.wp P a w K Q := by
  subst hc
  refine wp_new (b := undef) ?_ HF HM hd hdn k
  unfold execOp
  simp [hop, HF.eval hx, Instr.box, newVar, newRow, newObj]
  rfl
theorem run_storeCell {t : TypeId} {g off : Nat} (hs : (P.info? t).map (·.size) = some 1) (hv : v.oneCell' = true) {u : Value} (hc : w.cell? ⟨g, off, none⟩ = some u) (hf : w.frozen? ⟨g, off, none⟩ = false) :
    (Instr.storeAt t (.pointer (some ⟨g, off, none⟩)) v).run P w = .ok () (w.setCell ⟨g, off, none⟩ v) := by
  have ht : w.there g off 1 := fun j hj => by
    obtain rfl : j = 0 := by omega
    simp [hc, hf]
  have hv1 : v.cells = #[v] := by cases v <;> first | rfl | cases hv
  have := run_storeVar_mid (P := P) w g off t #[v] (by simpa using ht) (by simpa using hs) (by simp [hv])
  have e2 : storeVar t ⟨g, off, none⟩ v = storeVar t ⟨g, off, none⟩ (.agg #[v]) := by
    unfold storeVar
    rw [hv1]
    rfl
  simp only [Instr.storeAt, Instr.sureAddr, Sem.run_bind, Sem.run_pure, Result.andThen_ok, e2, this]
  rfl
/-- A store of one cell. -/
theorem e_store (HF : Fr a n D σ) (HM : Mem W w fs) {t : TypeId} {x y : Operand} {i g off : Nat} {cs : Array Value} {tb : TypeId} (hop : o.op = .store t x y) (hd : o.dst = none) (hx : look σ x = some (.pointer (some ⟨g, off, none⟩))) (hy : look σ y = some v) (hs : (P.info? t).map (·.size) = some 1) (hv : v.oneCell' = true)
    (hi : fs[i]? = some (.blk g cs tb)) (ho : off < cs.size) (k : ∀ w', Mem W w' (fs.set i (.blk g (cs.setIfInBounds off v) tb)) → K a w') : o.wp P a w K Q := by
  have hb := HM.blk hi
  have hc : w.cell? ⟨g, off, none⟩ = some cs[off] := HM.cell hi (Array.getElem?_eq_getElem ho)
  have hf : w.frozen? ⟨g, off, none⟩ = false := by simp [World.frozen?, hb]
  unfold Oper.wp execOp
  simp only [hop, HF.eval hx, HF.eval hy, Sem.run_bind, run_storeCell hs hv hc hf, Result.andThen_ok, Sem.run_pure, Oper.upon_skip, hd]
  exact k _ (HM.set hi v)
/-- A store of a whole block. -/
theorem e_storeAll (HF : Fr a n D σ) (HM : Mem W w fs) {t : TypeId} {x y : Operand} {i g m : Nat} {cs ds : Array Value} {tb : TypeId} (hop : o.op = .store t x y) (hd : o.dst = none) (hx : look σ x = some (.pointer (some ⟨g, 0, none⟩))) (hy : look σ y = some (.agg ds)) (si : SI P t m) (hc : cs.size = m) (hm : ds.size = m) (h1 : ∀ u ∈ ds.toList, u.oneCell' = true)
    (hi : fs[i]? = some (.blk g cs tb)) (k : ∀ w', Mem W w' (fs.set i (.blk g ds tb)) → K a w') : o.wp P a w K Q := by
  have hb := HM.blk hi
  have hl := run_storeVar_mid (P := P) w g 0 t ds (by rw [hm]; exact there_of_block hb 0 m (by omega)) (by rw [hm]; exact si.size) (by simpa using all_oneCell_toArray h1)
  unfold Oper.wp execOp
  simp only [hop, HF.eval hx, HF.eval hy, Sem.run_bind, Instr.storeAt, Instr.sureAddr, Sem.run_pure, hl, Result.andThen_ok, Oper.upon_skip, hd]
  exact k _ (HM.setAll hi (by omega))
def callable (P : Program) (f : FuncId) : Bool := match P.funcs[f]? with
  | some fn => fn.name != "runtime.NumGoroutine" && fn.body.isSome
  | none => false
theorem callable_run {f : FuncId} (h : callable P f = true) (args : Array Value) (w : World) : (callFunc f args).run P w = .ok (.enter f args) w := by
  unfold callable at h
  split at h
  · rename_i fn hf
    rw [Bool.and_eq_true, bne_iff_ne] at h
    have hb : fn.body ≠ none := by intro e; rw [e] at h; simp at h
    simp [callFunc, hf, h.1, hb, program, Sem.run, Sem.run_bind]
  · cases h
def looks (σ : List (Nat × Value)) : List Operand → Option (List Value)
  | [] => some []
  | x :: r => match look σ x, looks σ r with
    | some v, some vs => some (v :: vs)
    | _, _ => none
theorem looks_map (HF : Fr a n D σ) : ∀ {xs : List Operand} {vs : List Value}, looks σ xs = some vs → xs.map a.eval = vs
  | [], vs, h => by cases h; rfl
  | x :: r, vs, h => by
    unfold looks at h
    split at h
    · rename_i v us hx hr
      injection h with h
      subst h
      rw [List.map_cons, HF.eval hx, looks_map HF hr]
    · cases h
/-- A call of a function of the program, by its contract. -/
theorem e_call (HF : Fr a n D σ) {f : FuncId} {xs : Array Operand} {ts : Array TypeId} {vs : List Value} {R : Ending → World → Prop} (hop : o.op = .call { callee := .value (.func f), args := xs, argTypes := ts }) (hv : looks σ xs.toList = some vs) (hf : callable P f = true) (hd : o.dst = some d) (hdn : d < n)
    (hC : Calls P f vs.toArray w R) (k : ∀ e w', R e w' → ∃ v, e = .returned v ∧ ∀ a', Fr a' n D ((d, v) :: σ) → K a' w') : o.wp P a w K Q := by
  have e1 : xs.map a.eval = vs.toArray := by
    have := looks_map HF hv
    rw [← this, ← Array.toList_map, Array.toArray_toList]
  unfold Oper.wp execOp
  simp only [hop, resolve, Act.eval, Deferred.ofValue, invoke, Sem.run_bind, Sem.run_pure, Result.andThen_ok]
  have e2 : xs.map (fun x => a.eval x) = vs.toArray := e1
  have e3 : #[] ++ Array.map a.eval xs ++ #[] = vs.toArray := by simp [e1]
  show Oper.upon P o a K Q (((callFunc f (#[] ++ Array.map a.eval xs ++ #[])).run P w))
  rw [e3, callable_run hf, Oper.upon_enter]
  refine hC.mono fun e w' he => ?_
  obtain ⟨v, rfl, h2⟩ := k e w' he
  show K (a.put o.dst v) w'
  rw [hd]
  exact h2 _ (HF.put hdn v)
end
end Go.Proofs.YtpekelggcmgnnaaDoor

/- Generic: more steps: append, literals, how a function begins and ends, branches, loops. No program is in sight. -/
namespace Go.Proofs.YtpekelggcmgnnaaDoor
open Go.RowKit

section
variable {P : Program} {Q : Exit → Act → World → Prop} {a : Act} {W w : World} {n d : Nat} {D : List Deferred} {σ : List (Nat × Value)} {o : Oper} {v : Value} {K : Act → World → Prop} {fs : List Fact}

theorem own_at {base : Nat} {e : TypeId} {size m : Nat} {xs : List Value} (h : w.ownsRow base e size v m xs) (hm : 0 < m) : ∃ g c, v = .slice (some ⟨g, 0, none⟩) m c ∧ m ≤ c := by
  rcases h.2 with ⟨_, h2⟩ | ⟨g, cap, cur, h1, _, _, h2, _⟩
  · omega
  · exact ⟨g, cap, h1, h2⟩
theorem own_slice {base : Nat} {e : TypeId} {size m : Nat} {xs : List Value} (h : w.ownsRow base e size v m xs) : ∃ A c, v = .slice A m c ∧ m ≤ c := by
  rcases h.2 with ⟨h1, h2⟩ | ⟨g, cap, cur, h1, _, _, h2, _⟩
  · subst h2; exact ⟨_, _, h1, Nat.le_refl _⟩
  · exact ⟨_, cap, h1, h2⟩
theorem e_append (HF : Fr a n D σ) (HM : Mem W w fs) {s x : Operand} {t e : TypeId} {z : Value} {size bytes i m0 m c B : Nat} {A : Option Addr} {xs news : List Value} (hop : o.op = .call { callee := .builtin .append, args := #[s, x], argTypes := #[t, t] }) (ei : EI P t e z size bytes)
    (hs : look σ s = some v) (hx : look σ x = some (.slice A m c)) (hi : fs[i]? = some (.row v m0 xs e size)) (hr : Rd w B size A m news) (h1 : ∀ u ∈ news, u.oneCell' = true) (hb : (m0 + m) * bytes ≤ 140737488355328) (h63 : m0 + m ≤ 9223372036854775807)
    (hd : o.dst = some d) (hdn : d < n) (k : ∀ a' w' A' c', Fr a' n D ((d, .slice A' (m0 + m) c') :: σ) → Mem W w' (fs.set i (.row (.slice A' (m0 + m) c') (m0 + m) (xs ++ news) e size)) → m0 + m ≤ c' → K a' w') : o.wp P a w K Q :=
  append_op hop ei (HM.own hi) (HF.eval hs) hr (HF.eval hx) h1 hb h63 HM.size fun A' c' w' ho hg hbl => by
    rw [hd]
    refine k _ _ _ _ (HF.put hdn _) (HM.append hi ho hg hbl) ?_
    rcases ho.2 with ⟨h2, h3⟩ | ⟨g, cap, cur, h2, _, _, h3, _⟩
    · omega
    · injection h2 with _ _ h4; omega

/-- append, with growslice's own bound. -/
theorem append_run_wide {t e : TypeId} {z : Value} {size bytes : Nat} (ei : EI P t e z size bytes) (ty : TypeId) {v : Value} {m0 : Nat} {xs : List Value} {base : Nat} (hown : w.ownsRow base e size v m0 xs)
    {B : Nat} {A : Option Addr} {m c : Nat} {news : List Value} (hr : Rd w B size A m news) (h1 : ∀ u ∈ news, u.oneCell' = true)
    (hb : ((m0 + m) + (m0 + m) / 4 + 192) * bytes ≤ 281474976710656) (h63 : m0 + m ≤ 9223372036854775807) (hbase : base ≤ w.heap.size) :
    ∃ A' c' w', (Builtin.append_ #[t, t] ty #[v, .slice A m c]).run P w = .ok (.slice A' (m0 + m) c') w' ∧ w'.ownsRow base e size (.slice A' (m0 + m) c') (m0 + m) (xs ++ news) ∧ w.grownBy w' v.ownBlock ∧
      ((Value.slice A' (m0 + m) c').ownBlock = v.ownBlock ∨ (Value.slice A' (m0 + m) c').ownBlock = some w.heap.size) := by
  by_cases hA : A = none ∨ m = 0
  · have hm : m = 0 := by
      rcases hA with h | h
      · rcases Nat.eq_zero_or_pos m with h0 | h0
        · exact h0
        · obtain ⟨ad, h2, _⟩ := hr.row h0
          rw [h] at h2; cases h2
      · exact h
    subst hm
    have hn : news = [] := List.eq_nil_of_length_eq_zero (by simpa using hr.len)
    subst hn
    obtain ⟨A', c', rfl, _⟩ := own_slice hown
    refine ⟨A', c', w, ?_, by simpa using hown, World.grownBy.refl w _, .inl rfl⟩
    cases A with
    | none => exact append_nil_run ei ty hown c
    | some ad =>
      obtain ⟨i, hi, _⟩ := info_parts ei.hi
      rcases hown.2 with ⟨h2, h3⟩ | ⟨g, cap, cur, h2, _, _, hnc, _⟩
      · injection h2 with h2 h4 h5
        subst h2; subst h4; subst h5
        simp [Builtin.append_, run_underlying ei.ht, sizeOf, typeInfo, hi, Builtin.lenOf, Builtin.firstCells, loadCells, loadCellsFrom]
      · injection h2 with h2 h4 h5
        subst h2; subst h5
        simp [Builtin.append_, run_underlying ei.ht, sizeOf, typeInfo, hi, Builtin.lenOf, Builtin.firstCells, hnc, storeCells, loadCells, loadCellsFrom]
  · have hm : 0 < m := by
      rcases Nat.eq_zero_or_pos m with h | h
      · exact absurd (.inr h) hA
      · exact h
    obtain ⟨ad, hAe, _, hcells⟩ := hr.row hm
    subst hAe
    obtain ⟨i, hi, hz, hsz, hby⟩ := info_parts ei.hi
    obtain ⟨v', w', hrun, h2, h3, _⟩ := run_append_own_wide (P := P) w base t ty e i z size bytes ei.ht hi hz hsz hby ei.hz ei.hs v m0 xs hown ad m c news hr.len hcells h1 (by unfold maxLen; exact h63) hb hbase
    obtain ⟨A', c', rfl, _⟩ := own_slice h2
    refine ⟨A', c', w', hrun, h2, h3, ?_⟩
    rcases hown.2 with ⟨rfl, rfl⟩ | ⟨g, cap, cur, rfl, hbg, hg, hnc, hcm, hcs, htake⟩
    · have hx : xs = [] := List.eq_nil_of_length_eq_zero (by simpa using hown.1)
      subst hx
      have hr2 := run_append_nil (P := P) w t ty e i z ei.ht hi hz ad m c news (by rw [hsz]; exact hr.len) hcells (by omega) (by omega) (by rw [hby]; have hb' := hb; simp only [Nat.zero_add] at hb'; exact Nat.le_trans (Nat.mul_le_mul_right _ (by omega)) hb')
      rw [hrun] at hr2
      injection hr2 with hr2 _
      injection hr2 with hr2 _ _
      exact .inr (by rw [hr2]; rfl)
    · by_cases hroom : m0 + m ≤ cap
      · have hfit : m0 * i.size + news.length ≤ cur.size := by rw [hsz, hr.len, hcs, ← Nat.add_mul]; exact Nat.mul_le_mul_right _ hroom
        have hr2 := run_append_room (P := P) w t ty e i ei.ht hi g m0 cap cur hg ad m c news (by rw [hsz]; exact hr.len) hcells h1 hroom hfit
        rw [hrun] at hr2
        injection hr2 with hr2 _
        injection hr2 with hr2 _ _
        exact .inl (by rw [hr2]; rfl)
      · have holds : ∀ j u, xs[j]? = some u → w.cell? ((⟨g, 0, none⟩ : Addr).add j) = some u := hown.cells (g := g) rfl
        have hr2 := run_append_grow (P := P) w t ty e i z ei.ht hi hz ⟨g, 0, none⟩ m0 cap xs (by rw [hsz]; exact hown.1) holds ad m c news (by rw [hsz]; exact hr.len) hcells (by omega) (by omega) (growslice_fits_wide (by omega) (by rw [hby]; exact hb))
        rw [hrun] at hr2
        injection hr2 with hr2 _
        injection hr2 with hr2 _ _
        exact .inr (by rw [hr2]; rfl)
theorem e_append_wide (HF : Fr a n D σ) (HM : Mem W w fs) {s x : Operand} {t e : TypeId} {z : Value} {size bytes i m0 m c B : Nat} {A : Option Addr} {xs news : List Value} (hop : o.op = .call { callee := .builtin .append, args := #[s, x], argTypes := #[t, t] }) (ei : EI P t e z size bytes)
    (hs : look σ s = some v) (hx : look σ x = some (.slice A m c)) (hi : fs[i]? = some (.row v m0 xs e size)) (hr : Rd w B size A m news) (h1 : ∀ u ∈ news, u.oneCell' = true) (hb : ((m0 + m) + (m0 + m) / 4 + 192) * bytes ≤ 281474976710656) (h63 : m0 + m ≤ 9223372036854775807)
    (hd : o.dst = some d) (hdn : d < n) (k : ∀ a' w' A' c', Fr a' n D ((d, .slice A' (m0 + m) c') :: σ) → Mem W w' (fs.set i (.row (.slice A' (m0 + m) c') (m0 + m) (xs ++ news) e size)) → m0 + m ≤ c' → K a' w') : o.wp P a w K Q := by
  obtain ⟨A', c', w', hrun, ho, hg, hbl⟩ := append_run_wide (P := P) ei o.type (HM.own hi) hr h1 (c := c) hb h63 HM.size
  unfold Oper.wp execOp
  simp only [hop, resolve, invoke, builtin, Sem.run_bind, Sem.run_pure, Result.andThen_ok, List.map_toArray, List.map_cons, List.map_nil, HF.eval hs, HF.eval hx, hrun]
  rw [Oper.upon_value, hd]
  refine k _ _ _ _ (HF.put hdn _) (HM.append hi ho hg hbl) ?_
  rcases ho.2 with ⟨h2, h3⟩ | ⟨g, cap, cur, h2, _, _, h3, _⟩
  · omega
  · injection h2 with _ _ h4; omega

def partVals (σ : List (Nat × Value)) : List (Nat × Operand) → Option (List (Nat × Value))
  | [] => some []
  | (i, x) :: r => match look σ x, partVals σ r with
    | some v, some vs => some ((i, v) :: vs)
    | _, _ => none
theorem partVals_map (HF : Fr a n D σ) : ∀ {ps : List (Nat × Operand)} {vs : List (Nat × Value)}, partVals σ ps = some vs → ps.map (fun p => (p.1, a.eval p.2)) = vs
  | [], vs, h => by cases h; rfl
  | (i, x) :: r, vs, h => by
    unfold partVals at h
    split at h
    · rename_i v us hx hr
      injection h with h
      subst h
      rw [List.map_cons, HF.eval hx, partVals_map HF hr]
    · cases h
theorem partVals_arr (HF : Fr a n D σ) {ps : Array (Nat × Operand)} {vs : List (Nat × Value)} (h : partVals σ ps.toList = some vs) : ps.map (fun p => (p.1, a.eval p.2)) = vs.toArray := by
  rw [← partVals_map HF h, ← Array.toList_map, Array.toArray_toList]
def blankCells (z : Array Value) (m : Nat) : Array Value := (Array.range m).map (z[· % z.size]!)
/-- A slice written out. -/
theorem e_slice (HF : Fr a n D σ) (HM : Mem W w fs) {t len e : Nat} {ps : Array (Nat × Operand)} {vs : List (Nat × Value)} {z : Value} {size bytes : Nat} {cs : Array Value} (hop : o.op = .buildSlice t len ps) (ei : EI P t e z size bytes) (hl : decide (0 < len ∧ len * size ≤ 16777216) = true) (hv : partVals σ ps.toList = some vs)
    (hf : Instr.fill (fun i => some (i * size, size)) (blankCells z.cells (len * size)) vs = some cs) (hd : o.dst = some d) (hdn : d < n)
    (k : ∀ a' w' g, Fr a' n D ((d, .slice (some ⟨g, 0, none⟩) len len) :: σ) → Mem W w' (.blk g cs e :: fs) → K a' w') : o.wp P a w K Q := by
  obtain ⟨i, hi, hz, hsz, _⟩ := info_parts ei.hi
  have hpos := ei.hs
  simp only [decide_eq_true_eq] at hl
  have h0 : ¬ len * size = 0 := by
    have := Nat.mul_pos hl.1 hpos
    omega
  have h2 : ¬ len * size > 2 ^ 24 := by omega
  have hrun : (execOp a.eval o).run P w = .ok (.value (.slice (some ⟨w.heap.size, 0, none⟩) len len)) (w.alloc (.cells cs e)) := by
    unfold execOp
    have hpm := partVals_arr HF hv
    unfold blankCells at hf
    simp only [hop]
    have e1 : (Instr.buildSlice t len (ps.map fun p => (p.1, a.eval p.2))).run P w = .ok (.slice (some ⟨w.heap.size, 0, none⟩) len len) (w.alloc (.cells cs e)) := by
      rw [hpm]
      unfold Instr.buildSlice
      simp only [Sem.run_bind, run_underlying ei.ht, Result.andThen_ok, sizeOf, typeInfo, program, Sem.run, hi, Sem.run_pure, hsz, if_neg h2, if_neg h0, zeroValue, hz, hf, newRow, newObj]
      rfl
    simp only [Sem.run_bind, Sem.run_pure]
    show ((Instr.buildSlice t len (ps.map fun p => (p.1, a.eval p.2))).run P w).andThen _ = _
    rw [e1]
    rfl
  unfold Oper.wp
  rw [hrun, Oper.upon_value, hd]
  exact k _ _ _ (HF.put hdn _) (HM.alloc cs e)

/-- Cells of a row of the call's own. -/
theorem Mem.rowRange (h : Mem W w fs) {i g m c : Nat} {e : TypeId} {size : Nat} {xs : List Value} (hi : fs[i]? = some (.row (.slice (some ⟨g, 0, none⟩) m c) m xs e size)) (off : Nat) {ys : List Value} (hy : ∀ j u, ys[j]? = some u → xs[off + j]? = some u) : w.rangeAt g off ys := fun j u hu => by
  have ho := h.own hi
  have := ho.cells (g := g) rfl (off + j) u (hy j u hu)
  rw [Addr.add_mid, Nat.zero_add] at this
  exact this
theorem Mem.rowAll (h : Mem W w fs) {i g m c : Nat} {e : TypeId} {size : Nat} {xs : List Value} (hi : fs[i]? = some (.row (.slice (some ⟨g, 0, none⟩) m c) m xs e size)) : w.rangeAt g 0 xs := h.rowRange hi 0 (fun j u hu => by rw [Nat.zero_add]; exact hu)

/-- An empty slice written out. -/
theorem e_slice0 (HF : Fr a n D σ) (HM : Mem W w fs) {t e : Nat} {z : Value} {size bytes : Nat} (hop : o.op = .buildSlice t 0 #[]) (ei : EI P t e z size bytes) (hd : o.dst = some d) (hdn : d < n)
    (k : ∀ a' w' g, Fr a' n D ((d, .slice (some ⟨g, 0, none⟩) 0 0) :: σ) → Mem W w' (.row (.slice (some ⟨g, 0, none⟩) 0 0) 0 [] e size :: fs) → K a' w') : o.wp P a w K Q := by
  obtain ⟨i, hi, hz, hsz, _⟩ := info_parts ei.hi
  have hrun : (execOp a.eval o).run P w = .ok (.value (.slice (some ⟨w.heap.size, 0, none⟩) 0 0)) (w.alloc (.cells #[] e)) := by
    unfold execOp
    simp only [hop]
    have e1 : (Instr.buildSlice t 0 #[]).run P w = .ok (.slice (some ⟨w.heap.size, 0, none⟩) 0 0) (w.alloc (.cells #[] e)) := by
      unfold Instr.buildSlice
      simp only [Sem.run_bind, run_underlying ei.ht, Result.andThen_ok, sizeOf, typeInfo, program, Sem.run, hi, Sem.run_pure, newRow, newObj]
      simp [Instr.fill, show Array.range 0 = #[] from rfl]
      rfl
    simp only [Sem.run_bind, Sem.run_pure, List.map_toArray, List.map_nil]
    show ((Instr.buildSlice t 0 #[]).run P w).andThen _ = _
    rw [e1]
    rfl
  unfold Oper.wp
  rw [hrun, Oper.upon_value, hd]
  refine k _ _ w.heap.size (HF.put hdn _) ?_
  have := (HM.alloc #[] e).blkRow (i := 0) (size := size) (n := 0) rfl (by simp) (by omega)
  exact this

/-! How a function begins and ends. -/
def argSlots : Nat → List Value → List (Nat × Value)
  | _, [] => []
  | i, v :: r => (i, v) :: argSlots (i + 1) r
theorem argSlots_get : ∀ (vs : List Value) (i t : Nat) (v : Value), (argSlots i vs).lookup t = some v → i ≤ t ∧ vs[t - i]? = some v
  | [], _, _, _, h => by cases h
  | u :: r, i, t, v, h => by
    rw [argSlots, List.lookup_cons] at h
    split at h
    · rename_i e
      rw [beq_iff_eq] at e
      subst e
      exact ⟨Nat.le_refl _, by simpa using h⟩
    · obtain ⟨h1, h2⟩ := argSlots_get r (i + 1) t v h
      refine ⟨by omega, ?_⟩
      rw [show t - i = (t - (i + 1)) + 1 by omega, List.getElem?_cons_succ]
      exact h2
theorem calls_enter {f N : Nat} {fn : Func} {c : Code} {vs : List Value} {R : Ending → World → Prop} (hf : P.funcs[f]? = some fn) (hb : fn.body = some c) (hn : fn.ntmps = N) (hl : decide (vs.length ≤ N) = true) {σ0 : List (Nat × Value)} (h0 : argSlots 0 vs = σ0)
    (k : ∀ a, Fr a N [] σ0 → c.wp P (bodyPost P fn R) a w) : Calls P f vs.toArray w R := by
  subst h0
  rw [decide_eq_true_eq] at hl
  refine calls_of_wp hf hb (k _ ⟨by simp [hn]; omega, rfl, fun t v hv => ?_⟩)
  obtain ⟨_, h1⟩ := argSlots_get vs 0 t v hv
  rw [Nat.sub_zero] at h1
  have hlt := (List.getElem?_eq_some_iff.1 h1).1
  simp only [Array.getD_eq_getD_getElem?, Array.getElem?_append, List.size_toArray, if_pos hlt]
  simp [h1]
def resSem (tmps : Array Value) : ResultVar → Sem Value
  | .tmp t => pure (tmps.getD t undef)
  | .cell b t => do loadVar t (← asAddr (tmps.getD b undef))
/-- What a result reads as at the end. -/
def ResRun (P : Program) (a : Act) (w : World) (r : ResultVar) (v : Value) : Prop := (resSem a.tmps r).run P w = .ok v w
theorem results_sem (fn : Func) (tmps : Array Value) : results fn tmps = (do
  let vs ← fn.results.mapM (resSem tmps)
  pure (if h : vs.size = 1 then vs[0] else .tuple vs)) := by
  unfold results
  have : resSem tmps = (fun | .tmp t => pure (tmps.getD t undef) | .cell a t => do loadVar t (← asAddr (tmps.getD a undef))) := by
    funext r; cases r <;> rfl
  rw [this]
  rfl
theorem ResRun.tmp {t : Nat} (HF : Fr a n D σ) (h : σ.lookup t = some v) : ResRun P a w (.tmp t) v := by
  unfold ResRun resSem
  simp only [HF.slot t v h]
  rfl
theorem ResRun.cellS {b i g m : Nat} {t tb : TypeId} {cs : Array Value} (HF : Fr a n D σ) (HM : Mem W w fs) (h : σ.lookup b = some (.pointer (some ⟨g, 0, none⟩))) (hi : fs[i]? = some (.blk g cs tb)) (si : SI P t m) (hm : cs.size = m) : ResRun P a w (.cell b t) (.agg cs) := by
  obtain ⟨ds, hu, hd⟩ := si.desc
  have hl := run_loadVar_mid (P := P) w g 0 t cs.toList ds (range_of_block (HM.blk hi)) hu hd (by rw [si.size, ← hm]; simp)
  unfold ResRun resSem
  simp only [HF.slot b _ h]
  simp [asAddr, hl]
theorem ResRun.cell1 {b i g : Nat} {t tb : TypeId} {cs : Array Value} (HF : Fr a n D σ) (HM : Mem W w fs) (h : σ.lookup b = some (.pointer (some ⟨g, 0, none⟩))) (hi : fs[i]? = some (.blk g cs tb)) (ht : isOne P t = true) (hc : cs[0]? = some v) : ResRun P a w (.cell b t) v := by
  unfold ResRun resSem
  simp only [HF.slot b _ h]
  simp [asAddr, loadVar, isAgg_one ht, load, Sem.run, HM.cell hi hc]
section
variable {fn : Func} {R : Ending → World → Prop}
theorem ret1 {r1 : ResultVar} {v1 : Value} (hr : fn.results = #[r1]) (HF : Fr a n [] σ) (h1 : ResRun P a w r1 v1) (hR : R (.returned v1) w) : bodyPost P fn R .ret a w :=
  bodyPost_ret (v := v1) (by
    unfold ResRun at h1
    rw [results_sem, hr]
    generalize resSem a.tmps = f at *
    simp [h1]) HF.defers hR
theorem ret2 {r1 r2 : ResultVar} {v1 v2 : Value} (hr : fn.results = #[r1, r2]) (HF : Fr a n [] σ) (h1 : ResRun P a w r1 v1) (h2 : ResRun P a w r2 v2) (hR : R (.returned (.tuple #[v1, v2])) w) : bodyPost P fn R .ret a w :=
  bodyPost_ret (v := .tuple #[v1, v2]) (by
    unfold ResRun at h1 h2
    rw [results_sem, hr]
    generalize resSem a.tmps = f at *
    simp [h1, h2]) HF.defers hR
theorem ret3 {r1 r2 r3 : ResultVar} {v1 v2 v3 : Value} (hr : fn.results = #[r1, r2, r3]) (HF : Fr a n [] σ) (h1 : ResRun P a w r1 v1) (h2 : ResRun P a w r2 v2) (h3 : ResRun P a w r3 v3) (hR : R (.returned (.tuple #[v1, v2, v3])) w) : bodyPost P fn R .ret a w :=
  bodyPost_ret (v := .tuple #[v1, v2, v3]) (by
    unfold ResRun at h1 h2 h3
    rw [results_sem, hr]
    generalize resSem a.tmps = f at *
    simp [h1, h2, h3]) HF.defers hR
end
theorem cond_true {c : Operand} {x y : Code} (HF : Fr a n D σ) (hc : look σ c = some (.bool true)) (h : x.wp P Q a w) : (Code.cond c x y).wp P Q a w := wp_cond_true (HF.eval hc) h
theorem cond_false {c : Operand} {x y : Code} (HF : Fr a n D σ) (hc : look σ c = some (.bool false)) (h : y.wp P Q a w) : (Code.cond c x y).wp P Q a w := wp_cond_false (HF.eval hc) h
/-- Another spelling of what a slot holds. -/
theorem Fr.as {u : Value} {t : Nat} (h : Fr a n D σ) (hl : σ.lookup t = some v) (e : v = u) : Fr a n D ((t, u) :: σ) := by
  subst e
  refine ⟨h.size, h.defers, fun s x hx => ?_⟩
  rw [List.lookup_cons] at hx
  split at hx
  · rename_i hs
    rw [beq_iff_eq] at hs
    subst hs
    injection hx with hx
    subst hx
    exact h.slot s v hl
  · exact h.slot s x hx
/-- The rest under what all ways here have in common. -/
theorem cut_seq {x y : Code} (R : Act → World → Prop) (h : x.wp P (Exit.then R Q) a w) (k : ∀ a w, R a w → y.wp P Q a w) : (Code.seq x y).wp P Q a w :=
  wp_seq (Code.wp_mono (fun e a w hq => by cases e <;> first | exact k _ _ hq | exact hq) h)
/-- A loop whose rounds lower a number. -/
theorem loop_nat {c : Code} (J : Nat → Act → World → Prop) {m : Nat} (h0 : J m a w) (round : ∀ k a w, J k a w → c.wp P (Exit.then (fun a' w' => ∃ k', k' < k ∧ J k' a' w') Q) a w) : (Code.loop c).wp P Q a w := by
  intro b ks cs
  have key : ∀ m a w, J m a w → ∃ e a' w', Q e a' w' ∧ Arrives P (lone (b.at a (.code c :: .inLoop c :: ks)) cs w) b ks cs e a' w' := by
    intro m
    induction m using Nat.strongRecOn with
    | _ m ih =>
      intro a w hJ
      obtain ⟨e, a1, w1, hq, harr⟩ := round m a w hJ b (.inLoop c :: ks) cs
      cases e with
      | normal =>
        obtain ⟨m', hlt, hJ'⟩ := hq
        obtain ⟨e2, a2, w2, hq2, harr2⟩ := ih m' hlt a1 w1 hJ'
        exact ⟨e2, a2, w2, hq2, .of_steps (Steps.trans harr (.one step_inLoop)) harr2⟩
      | exit id => exact ⟨_, a1, w1, hq, .pass (x := .inLoop c) rfl (fun _ _ => .inl (by simp)) harr⟩
      | goto l => exact ⟨_, a1, w1, hq, .pass (x := .inLoop c) rfl (fun _ _ => .inl (by simp)) harr⟩
      | ret => exact ⟨_, a1, w1, hq, .pass (x := .inLoop c) rfl (fun _ _ => .inl (by simp)) harr⟩
      | panic ch => exact ⟨_, a1, w1, hq, .pass (x := .inLoop c) rfl (fun _ _ => .inl (by simp)) harr⟩
      | outgrown => exact ⟨_, a1, w1, hq, .pass (x := .inLoop c) rfl (fun _ _ => .inl (by simp)) harr⟩
  obtain ⟨e, a', w', hq, harr⟩ := key m a w h0
  exact ⟨e, a', w', hq, .of_steps (.one step_loop) harr⟩
end
end Go.Proofs.YtpekelggcmgnnaaDoor

/- Generic: stores into a row of the call's own; an append onto a full slice that came in. No program is in sight. -/
namespace Go.Proofs.YtpekelggcmgnnaaDoor
open Go.RowKit

/-- Cells put at a place of a list. -/
def putAt (xs : List Value) (off : Nat) (vs : List Value) : List Value := xs.take off ++ vs ++ xs.drop (off + vs.length)
theorem putAt_len {xs : List Value} {off : Nat} {vs : List Value} (h : off + vs.length ≤ xs.length) : (putAt xs off vs).length = xs.length := by
  unfold putAt
  simp only [List.length_append, List.length_take, List.length_drop]
  omega
theorem putAt_get {xs : List Value} {off : Nat} {vs : List Value} (h : off + vs.length ≤ xs.length) (j : Nat) : (putAt xs off vs)[j]? = if off ≤ j ∧ j < off + vs.length then vs[j - off]? else xs[j]? := by
  unfold putAt
  have h1 : (xs.take off).length = off := by rw [List.length_take]; omega
  rw [List.append_assoc]
  rcases Nat.lt_or_ge j off with h2 | h2
  · rw [if_neg (by omega), List.getElem?_append_left (by omega), List.getElem?_take, if_pos h2]
  · rw [List.getElem?_append_right (by omega), h1]
    rcases Nat.lt_or_ge j (off + vs.length) with h3 | h3
    · rw [if_pos ⟨h2, h3⟩, List.getElem?_append_left (by omega)]
    · rw [if_neg (by omega), List.getElem?_append_right (by omega), List.getElem?_drop]
      congr 1
      omega
theorem setCells_heap_mid {w : World} {g : Nat} {cur : Array Value} {e : TypeId} (hb : w.heap[g]? = some (.cells cur e (0, 0))) (off : Nat) (vs : List Value) (hl : off + vs.length ≤ cur.size) :
    (w.setCells g off vs).heap[g]? = some (.cells (putAt cur.toList off vs).toArray e (0, 0)) := by
  have h1 : cur = (cur.toList.take off ++ (cur.toList.drop off).take vs.length ++ cur.toList.drop (off + vs.length)).toArray := by
    apply Array.toList_inj.1
    simp only [List.append_assoc]
    rw [← List.drop_drop, List.take_append_drop, List.take_append_drop]
  have h2 := heap_setCells_go g e vs w (cur.toList.take off) (cur.toList.drop (off + vs.length)) ((cur.toList.drop off).take vs.length) (by rw [← h1]; exact hb) (by simp only [List.length_take, List.length_drop, Array.length_toList]; omega)
  rw [List.length_take, Array.length_toList, Nat.min_eq_left (by omega)] at h2
  exact h2
section
variable {P : Program} {Q : Exit → Act → World → Prop} {a : Act} {W w : World} {n d : Nat} {D : List Deferred} {σ : List (Nat × Value)} {o : Oper} {v : Value} {K : Act → World → Prop} {fs : List Fact}
/-- Cells stored into a row. -/
theorem Mem.rowSet (h : Mem W w fs) {i g m c : Nat} {e : TypeId} {size : Nat} {xs : List Value} (hi : fs[i]? = some (.row (.slice (some ⟨g, 0, none⟩) m c) m xs e size)) {off : Nat} {vs : List Value} (hl : off + vs.length ≤ xs.length) :
    Mem W (w.setCells g off vs) (fs.set i (.row (.slice (some ⟨g, 0, none⟩) m c) m (putAt xs off vs) e size)) := by
  have ho := h.own hi
  obtain ⟨hlen, h2⟩ := ho
  rcases h2 with ⟨h3, _⟩ | ⟨g', cap, cur, hv, hb, hg, hnc, hcm, hcs, ht⟩
  · cases h3
  · injection hv with hv hv2 hv3
    injection hv with hv
    injection hv with hv
    subst hv; subst hv3
    have hcur : m * size ≤ cur.size := by rw [hcs]; exact Nat.mul_le_mul_right _ hnc
    refine h.turn hi (below_setCells h.below hb off vs) (fun k hk hne => heap_setCells_far _ _ _ _ _ (fun e => hne (by rw [e]; rfl))) ?_ (fun g' hg' => .inl hg')
    refine ⟨by rw [putAt_len hl]; exact hlen, .inr ⟨g, c, _, rfl, hb, setCells_heap_mid hg off vs (by omega), hnc, hcm, ?_, ?_⟩⟩
    · rw [List.size_toArray, putAt_len (by simpa using (by omega : off + vs.length ≤ cur.size)), Array.length_toList, hcs]
    · show (putAt cur.toList off vs).take (m * size) = putAt xs off vs
      subst ht
      have hl' : off + vs.length ≤ cur.toList.length ∧ off + vs.length ≤ m * size := by
        rw [List.length_take, Array.length_toList] at hl
        rw [Array.length_toList]
        omega
      apply List.ext_getElem?
      intro j
      rw [putAt_get hl, List.getElem?_take, List.getElem?_take, putAt_get hl'.1]
      by_cases h3 : off ≤ j ∧ j < off + vs.length
      · rw [if_pos h3, if_pos (by omega), if_pos h3]
      · rw [if_neg h3, if_neg h3]
theorem setCells_one (w : World) (g off : Nat) (v : Value) : w.setCells g off [v] = w.setCell ⟨g, off, none⟩ v := rfl
theorem row_cell_there (h : Mem W w fs) {i g m c : Nat} {e : TypeId} {size : Nat} {xs : List Value} (hi : fs[i]? = some (.row (.slice (some ⟨g, 0, none⟩) m c) m xs e size)) (off k : Nat) (hl : off + k ≤ xs.length) : w.there g off k := by
  have ho := h.own hi
  obtain ⟨hlen, h2⟩ := ho
  rcases h2 with ⟨h3, _⟩ | ⟨g', cap, cur, hv, hb, hg, hnc, hcm, hcs, ht⟩
  · cases h3
  · injection hv with hv hv2 hv3
    injection hv with hv
    injection hv with hv
    subst hv; subst hv3
    have hcur : m * size ≤ cur.size := by rw [hcs]; exact Nat.mul_le_mul_right _ hnc
    exact there_of_block hg off k (by omega)
/-- A store of one cell into a row. -/
theorem e_storeRow (HF : Fr a n D σ) (HM : Mem W w fs) {t : TypeId} {x y : Operand} {i g off m c : Nat} {xs : List Value} {e : TypeId} {size : Nat} (hop : o.op = .store t x y) (hd : o.dst = none) (hx : look σ x = some (.pointer (some ⟨g, off, none⟩))) (hy : look σ y = some v) (hs : (P.info? t).map (·.size) = some 1) (hv : v.oneCell' = true)
    (hi : fs[i]? = some (.row (.slice (some ⟨g, 0, none⟩) m c) m xs e size)) (ho : off < xs.length) (k : ∀ w', Mem W w' (fs.set i (.row (.slice (some ⟨g, 0, none⟩) m c) m (putAt xs off [v]) e size)) → K a w') : o.wp P a w K Q := by
  have ht := row_cell_there HM hi off 1 (by omega) 0 (by omega)
  rw [Nat.add_zero] at ht
  obtain ⟨u, hu⟩ := Option.isSome_iff_exists.1 ht.1
  unfold Oper.wp execOp
  simp only [hop, HF.eval hx, HF.eval hy, Sem.run_bind, run_storeCell hs hv hu ht.2, Result.andThen_ok, Sem.run_pure, Oper.upon_skip, hd]
  exact k _ (HM.rowSet hi (vs := [v]) ho)
/-- A store of a struct into a row. -/
theorem e_storeRowS (HF : Fr a n D σ) (HM : Mem W w fs) {t : TypeId} {x y : Operand} {i g off m c sz : Nat} {xs : List Value} {ds : Array Value} {e : TypeId} {size : Nat} (hop : o.op = .store t x y) (hd : o.dst = none) (hx : look σ x = some (.pointer (some ⟨g, off, none⟩))) (hy : look σ y = some (.agg ds)) (si : SI P t sz) (hm : ds.size = sz) (h1 : ∀ u ∈ ds.toList, u.oneCell' = true)
    (hi : fs[i]? = some (.row (.slice (some ⟨g, 0, none⟩) m c) m xs e size)) (ho : off + sz ≤ xs.length) (k : ∀ w', Mem W w' (fs.set i (.row (.slice (some ⟨g, 0, none⟩) m c) m (putAt xs off ds.toList) e size)) → K a w') : o.wp P a w K Q := by
  have hl := run_storeVar_mid (P := P) w g off t ds (by rw [hm]; exact row_cell_there HM hi off sz ho) (by rw [hm]; exact si.size) (by simpa using all_oneCell_toArray h1)
  unfold Oper.wp execOp
  simp only [hop, HF.eval hx, HF.eval hy, Sem.run_bind, Instr.storeAt, Instr.sureAddr, Sem.run_pure, hl, Result.andThen_ok, Oper.upon_skip, hd]
  exact k _ (HM.rowSet hi (by simpa [hm] using ho))
/-- An append that must grow: onto a slice of whatever memory. -/
theorem e_append_full (HF : Fr a n D σ) (HM : Mem W w fs) {s x : Operand} {t e : TypeId} {z : Value} {size bytes m0 cap m c B B' : Nat} {A A2 : Option Addr} {xs news : List Value} (hop : o.op = .call { callee := .builtin .append, args := #[s, x], argTypes := #[t, t] }) (ei : EI P t e z size bytes)
    (hs : look σ s = some (.slice A m0 cap)) (hx : look σ x = some (.slice A2 m c)) (hrs : Rd w B size A m0 xs) (hr : Rd w B' size A2 m news) (hm : 0 < m) (hg : cap < m0 + m) (hnone : A = none → m0 = 0 ∧ cap = 0) (hb : (m0 + m) * bytes ≤ 140737488355328) (h63 : m0 + m ≤ 9223372036854775807)
    (hd : o.dst = some d) (hdn : d < n) (k : ∀ a' w' g c', Fr a' n D ((d, .slice (some ⟨g, 0, none⟩) (m0 + m) c') :: σ) → Mem W w' (.row (.slice (some ⟨g, 0, none⟩) (m0 + m) c') (m0 + m) (xs ++ news) e size :: fs) → m0 + m ≤ c' → K a' w') : o.wp P a w K Q := by
  obtain ⟨i, hi, hz, hsz, hby⟩ := info_parts ei.hi
  obtain ⟨ad, hA2, _, hcells⟩ := hr.row hm
  subst hA2
  have hlen : (xs ++ news).length = (m0 + m) * size := by rw [List.length_append, hrs.len, hr.len, Nat.add_mul]
  obtain ⟨c', w', hrun, hw'⟩ : ∃ c' w', (Builtin.append_ #[t, t] o.type #[.slice A m0 cap, .slice (some ad) m c]).run P w = .ok (.slice (some ⟨w.heap.size, 0, none⟩) (m0 + m) c') w' ∧
      (m0 + m ≤ c' ∧ c' ≤ maxLen ∧ w' = w.drew.alloc (.cells (xs.toArray ++ news.toArray ++ Builtin.zeroCells z.cells (c' - (m0 + m))) e)) := by
    cases A with
    | none =>
      obtain ⟨rfl, rfl⟩ := hnone rfl
      have hx0 : xs = [] := List.eq_nil_of_length_eq_zero (by simpa using hrs.len)
      subst hx0
      have hr2 := run_append_nil (P := P) w t o.type e i z ei.ht hi hz ad m c news (by rw [hsz]; exact hr.len) hcells hm (by omega) (by rw [hby]; rw [Nat.zero_add] at hb; omega)
      refine ⟨_, _, by rw [Nat.zero_add]; exact hr2, ?_, ?_, ?_⟩
      · rw [Nat.zero_add]; exact grownCap_ge w m 0 e
      · exact grownCap_le_maxLen w m 0 e (by unfold maxLen; omega)
      · simp
    | some b =>
      have holds : ∀ j u, xs[j]? = some u → w.cell? (b.add j) = some u := by
        intro j u hu
        rcases Nat.eq_zero_or_pos m0 with h0 | h0
        · have hl0 := hrs.len
          rw [h0, Nat.zero_mul] at hl0
          rw [List.eq_nil_of_length_eq_zero hl0] at hu
          simp at hu
        · obtain ⟨ad', h1, _, h2⟩ := hrs.row h0
          injection h1 with h1
          subst h1
          exact h2 j u hu
      have hr2 := run_append_grow (P := P) w t o.type e i z ei.ht hi hz b m0 cap xs (by rw [hsz]; exact hrs.len) holds ad m c news (by rw [hsz]; exact hr.len) hcells hg (by omega) (by rw [hby]; exact growslice_fits hg hb)
      exact ⟨_, _, hr2, grownCap_ge w (m0 + m) cap e, grownCap_le_maxLen w (m0 + m) cap e (by unfold maxLen; omega), rfl⟩
  obtain ⟨h1, h2, rfl⟩ := hw'
  have hown : (w.drew.alloc (.cells (xs.toArray ++ news.toArray ++ Builtin.zeroCells z.cells (c' - (m0 + m))) e)).ownsRow w.heap.size e size (.slice (some ⟨w.heap.size, 0, none⟩) (m0 + m) c') (m0 + m) (xs ++ news) := by
    refine ⟨hlen, .inr ⟨w.heap.size, _, _, rfl, Nat.le_refl _, World.alloc_heap_new w.drew _, h1, h2, ?_, ?_⟩⟩
    · simp only [Array.size_append, List.size_toArray, size_zeroCells, ei.hz, hrs.len, hr.len, ← Nat.add_mul]
      congr 1
      omega
    · simp only [Array.toList_append, List.append_assoc]
      rw [← List.append_assoc, ← hlen]
      exact List.take_left
  unfold Oper.wp execOp
  simp only [hop, resolve, invoke, builtin, Sem.run_bind, Sem.run_pure, Result.andThen_ok, List.map_toArray, List.map_cons, List.map_nil, HF.eval hs, HF.eval hx, hrun]
  rw [Oper.upon_value, hd]
  exact k _ _ w.heap.size c' (HF.put hdn _) (HM.callRow ((Below.refl _ _).drew.alloc (by simp) _) hown) h1
/-- Another spelling of what a row holds. -/
theorem Mem.asRow (h : Mem W w fs) {i m : Nat} {e : TypeId} {size : Nat} {xs ys : List Value} (hi : fs[i]? = some (.row v m xs e size)) (he : xs = ys) : Mem W w (fs.set i (.row v m ys e size)) := by
  subst he
  obtain ⟨hl, hg⟩ := List.getElem?_eq_some_iff.1 hi
  rw [← hg, List.set_getElem_self]
  exact h
end
/-- An element of a list of structs is replaced. -/
theorem putAt_flat {α : Type} (f : α → List Value) (sz : Nat) (hf : ∀ x, (f x).length = sz) : ∀ (l : List α) (k : Nat) (x : α), k < l.length → putAt (l.flatMap f) (k * sz) (f x) = (l.set k x).flatMap f
  | [], k, x, h => by simp at h
  | y :: r, 0, x, h => by
    unfold putAt
    rw [Nat.zero_mul, Nat.zero_add, hf, List.flatMap_cons, List.set_cons_zero, List.flatMap_cons, List.take_zero, List.nil_append, List.drop_append_of_le_length (by rw [hf]; exact Nat.le_refl _), List.drop_of_length_le (by rw [hf]; exact Nat.le_refl _), List.nil_append]
  | y :: r, k + 1, x, h => by
    have ih := putAt_flat f sz hf r k x (by simpa using h)
    unfold putAt at ih ⊢
    rw [List.flatMap_cons, List.set_cons_succ, List.flatMap_cons, ← ih, Nat.succ_mul]
    have e1 : (f y ++ r.flatMap f).take (k * sz + sz) = f y ++ (r.flatMap f).take (k * sz) := by
      rw [List.take_append, List.take_of_length_le (by rw [hf]; omega), hf, Nat.add_sub_cancel]
    have e2 : (f y ++ r.flatMap f).drop (k * sz + sz + (f x).length) = (r.flatMap f).drop (k * sz + (f x).length) := by
      rw [List.drop_append, List.drop_of_length_le (by rw [hf]; omega), List.nil_append, hf y]
      congr 1
      omega
    rw [e1, e2]
    simp only [List.append_assoc]
/-- A cell of an element is replaced. -/
theorem putAt_cell {α : Type} (f : α → List Value) (sz : Nat) (hf : ∀ x, (f x).length = sz) (l : List α) (k : Nat) (y x : α) (hk : l[k]? = some y) (off : Nat) (ho : off < sz) (v : Value) (hx : f x = (f y).set off v) : putAt (l.flatMap f) (k * sz + off) [v] = (l.set k x).flatMap f := by
  obtain ⟨hl, he⟩ := List.getElem?_eq_some_iff.1 hk
  rw [← putAt_flat f sz hf l k x hl, hx]
  have hlen := flat_len f sz hf l
  have hsz : k * sz + sz ≤ l.length * sz := by rw [← Nat.succ_mul]; exact Nat.mul_le_mul_right _ hl
  have hfl : ((f y).set off v).length = sz := by rw [List.length_set, hf]
  apply List.ext_getElem?
  intro j
  rw [putAt_get (by rw [List.length_singleton]; omega), putAt_get (by rw [hfl]; omega), hfl, List.length_singleton]
  by_cases h1 : k * sz ≤ j ∧ j < k * sz + sz
  · rw [if_pos h1]
    have hat := flat_at f sz hf l k (j - k * sz) hl (by omega)
    rw [he, show k * sz + (j - k * sz) = j by omega] at hat
    by_cases h2 : k * sz + off ≤ j ∧ j < k * sz + off + 1
    · obtain rfl : j = k * sz + off := by omega
      rw [if_pos h2, Nat.sub_self, show k * sz + off - k * sz = off by omega, List.getElem?_set_self (by rw [hf]; exact ho)]
      rfl
    · rw [if_neg h2, hat, List.getElem?_set_ne (by omega)]
  · rw [if_neg h1, if_neg (by omega)]
theorem Yl.slice3 {P : Program} {S : World → Prop} {σ : List (Nat × Value)} {o : Oper} {t e : TypeId} {z : Value} {size bytes : Nat} (ei : EI P t e z size bytes) {x hi mx : Operand} {A : Option Addr} {m c j i : Nat} {k k' : IntKind} (hop : o.op = .slice t x none (some hi) (some mx)) (hx : look σ x = some (.slice A m c)) (hh : look σ hi = some (.int k (j : Int))) (hm : look σ mx = some (.int k' (i : Int))) (hj : j ≤ i) (hi' : i ≤ c) :
    Yl P S σ o (.slice A j i) := fun a n D HF w hS => by
  obtain ⟨inf, hinf, _, hs, _⟩ := info_parts ei.hi
  have h0 : A.map (·.add 0) = A := by cases A <;> simp [Addr.add]
  have e1 : (Instr.sliceAt t (.slice A m c) none (some (.int k (j : Int))) (some (.int k' (i : Int)))).run P w = .ok (.slice A j i) w := by
    simp [Instr.sliceAt, run_underlying ei.ht, Instr.slice, Instr.sliceBounds, Instr.sliceBound, asIntOf, hj, hi', sizeOf, typeInfo, hinf, h0]
  unfold execOp
  simp only [hop, HF.eval hx, HF.eval hh, HF.eval hm, Option.map_some, Option.map_none, Sem.run_bind, e1, Result.andThen_ok]
  rfl
/-- A cell of the struct at k of a row of the call's own. -/
theorem Mem.rowCell {W w : World} {fs : List Fact} (h : Mem W w fs) {α : Type} {f : α → List Value} {sz : Nat} (hf : ∀ x, (f x).length = sz) {i g m c : Nat} {e : TypeId} {l : List α} (hi : fs[i]? = some (.row (.slice (some ⟨g, 0, none⟩) m c) m (l.flatMap f) e sz)) {k off : Nat} {x : α} {v : Value} (hk : l[k]? = some x) (hv : (f x)[off]? = some v) : w.cell? ⟨g, k * sz + off, none⟩ = some v := by
  obtain ⟨hl, he⟩ := List.getElem?_eq_some_iff.1 hk
  have ho : off < sz := by have := (List.getElem?_eq_some_iff.1 hv).1; rwa [hf] at this
  have := h.rowRange hi (k * sz + off) (ys := [v]) (fun j u hu => by
    cases j with
    | zero =>
      injection hu with hu
      subst hu
      rw [Nat.add_zero, flat_at f sz hf l k off hl ho, he]
      exact hv
    | succ j => cases hu)
  exact this 0 v rfl
end Go.Proofs.YtpekelggcmgnnaaDoor

/- Generic: reads through a slice that came in, or of a row of the call's own, element by element. No program is in sight. -/
namespace Go.Proofs.YtpekelggcmgnnaaDoor
open Go.RowKit

section
variable {w : World} {B size n : Nat} {A : Option Addr} {xs : List Value} {g o : Nat}
theorem Rd.some_at (h : Rd w B size A n xs) (hn : 0 < n) (hs : 0 < size) : ∃ g o, A = some ⟨g, o, none⟩ ∧ g < B := by
  obtain ⟨ad, rfl, hb, hc⟩ := h.row hn
  have hl := h.len
  have h1 : n * size ≥ 1 * 1 := Nat.mul_le_mul hn hs
  have hsp := spot_none (hc 0 _ (List.getElem?_eq_getElem (by omega)))
  have hs' : ad.spot = none := by simpa [Addr.add] using hsp
  obtain ⟨g, o, sp⟩ := ad
  cases hs'
  exact ⟨g, o, rfl, hb⟩
theorem Rd.range (h : Rd w B size (some ⟨g, o, none⟩) n xs) : w.rangeAt g o xs := fun j u hu => by
  have hj := (List.getElem?_eq_some_iff.1 hu).1
  rcases Nat.eq_zero_or_pos n with rfl | hn
  · have := h.len; omega
  · obtain ⟨ad, e, hb, hc⟩ := h.row hn
    injection e with e
    subst e
    have := hc j u hu
    rwa [Addr.add_mid] at this
theorem Rd.oneAt1 (h : Rd w B 1 (some ⟨g, o, none⟩) n xs) {k : Nat} {u : Value} (hu : xs[k]? = some u) : w.cell? ⟨g, o + k * 1, none⟩ = some u := by rw [Nat.mul_one]; exact h.range k u hu
theorem Rd.structAt {α : Type} {f : α → List Value} (hf : ∀ x, (f x).length = size) {l : List α} (h : Rd w B size (some ⟨g, o, none⟩) n (l.flatMap f)) {k : Nat} {x : α} (hk : l[k]? = some x) : w.rangeAt g (o + k * size) (f x) := fun j u hu => by
  obtain ⟨hl, he⟩ := List.getElem?_eq_some_iff.1 hk
  have hj : j < size := by have := (List.getElem?_eq_some_iff.1 hu).1; rwa [hf] at this
  have h1 := h.range (k * size + j) u ((flat_at f size hf l k j hl hj).trans (by rw [he]; exact hu))
  rw [← Nat.add_assoc] at h1
  exact h1
theorem Rd.partAt {α : Type} {f : α → List Value} (hf : ∀ x, (f x).length = size) {l : List α} (h : Rd w B size (some ⟨g, o, none⟩) n (l.flatMap f)) {k j : Nat} {x : α} {u : Value} (hk : l[k]? = some x) (hu : (f x)[j]? = some u) : w.cell? ⟨g, o + k * size + j, none⟩ = some u := h.structAt hf hk j u hu
end
section
variable {W w : World} {fs : List Fact}
theorem Mem.rowOne (h : Mem W w fs) {i g m c : Nat} {e : TypeId} {xs : List Value} (hi : fs[i]? = some (.row (.slice (some ⟨g, 0, none⟩) m c) m xs e 1)) {k : Nat} {u : Value} (hu : xs[k]? = some u) : w.cell? ⟨g, k * 1, none⟩ = some u := by
  have h1 := h.rowAll hi k u hu
  rwa [Nat.zero_add, ← Nat.mul_one k] at h1
/-- A row under another spelling. -/
theorem Mem.reRow (h : Mem W w fs) {i n n' : Nat} {A : Option Addr} {c size : Nat} {e : TypeId} {xs ys : List Value} (hi : fs[i]? = some (.row (.slice A n c) n xs e size)) (hn : n = n') (hx : xs = ys) : Mem W w (fs.set i (.row (.slice A n' c) n' ys e size)) := by
  subst hn; subst hx
  obtain ⟨hl, he⟩ := List.getElem?_eq_some_iff.1 hi
  rw [← he, List.set_getElem_self]
  exact h
end
theorem map_at {α : Type} {F : α → Value} {l : List α} {k : Nat} {x : α} (h : l[k]? = some x) : (l.map F)[k]? = some (F x) := by rw [List.getElem?_map, h]; rfl
/-- A string against the empty one. -/
theorem str_empty {s : ByteArray} {b : Bool} (h : s.toList.isEmpty = b) : (s.toList == (ByteArray.mk #[]).toList) = b := by
  rw [← h, show (ByteArray.mk #[]).toList = [] from by rw [ByteArray.toList_eq]]
  cases s.toList <;> rfl
section
variable {P : Program} {Q : Exit → Act → World → Prop} {a : Act} {W w : World} {n d : Nat} {D : List Deferred} {σ : List (Nat × Value)} {o : Oper} {K : Act → World → Prop} {fs : List Fact}
/-- make of an empty slice with room. -/
theorem e_make0 (HF : Fr a n D σ) (HM : Mem W w fs) {t e : Nat} {l c : Operand} {z : Value} {size bytes m : Nat} {kl kc : IntKind} (hop : o.op = .makeSlice t l c) (ei : EI P t e z size bytes) (hl : look σ l = some (.int kl 0)) (hc : look σ c = some (.int kc (m : Int))) (hb : bytes * m ≤ 281474976710656) (h63 : m ≤ 9223372036854775807) (hd : o.dst = some d) (hdn : d < n)
    (k : ∀ a' w' g, Fr a' n D ((d, .slice (some ⟨g, 0, none⟩) 0 m) :: σ) → Mem W w' (.row (.slice (some ⟨g, 0, none⟩) 0 m) 0 [] e size :: fs) → K a' w') : o.wp P a w K Q := by
  obtain ⟨i, hi, hz, hsz, hby⟩ := info_parts ei.hi
  obtain ⟨w', hrun, hown, hgr⟩ := run_make_own (P := P) w w.heap.size t e i z size ei.ht hi hz hsz kl kc m (by rw [hby]; exact hb) h63 (Nat.le_refl _)
  have e1 : (execOp a.eval o).run P w = .ok (.value (.slice (some ⟨w.heap.size, 0, none⟩) 0 m)) w' := by
    unfold execOp
    simp only [hop, HF.eval hl, HF.eval hc, Sem.run_bind]
    rw [hrun]
    rfl
  unfold Oper.wp
  rw [e1, Oper.upon_value, hd]
  exact k _ _ _ (HF.put hdn _) (HM.callRow ((Below.refl _ _).grown hgr (Nat.le_refl _) (fun _ h => by cases h)) hown)
/-- make of a slice of so many zeros. -/
theorem e_makeN (HF : Fr a n D σ) (HM : Mem W w fs) {t e : Nat} {l c : Operand} {z : Value} {size bytes m : Nat} {kl kc : IntKind} (hop : o.op = .makeSlice t l c) (ei : EI P t e z size bytes) (hl : look σ l = some (.int kl (m : Int))) (hc : look σ c = some (.int kc (m : Int))) (hb : bytes * m ≤ 281474976710656) (h63 : m ≤ 9223372036854775807) (hd : o.dst = some d) (hdn : d < n)
    (k : ∀ a' w' g, Fr a' n D ((d, .slice (some ⟨g, 0, none⟩) m m) :: σ) → Mem W w' (.row (.slice (some ⟨g, 0, none⟩) m m) m (madeCells z.cells (m * size)).toList e size :: fs) → K a' w') : o.wp P a w K Q := by
  obtain ⟨i, hi, hz, hsz, hby⟩ := info_parts ei.hi
  obtain ⟨w', hrun, hown, hgr⟩ := run_make_full (P := P) w w.heap.size t e i z size ei.ht hi hz hsz kl kc m (by rw [hby]; exact hb) h63 (Nat.le_refl _)
  have e1 : (execOp a.eval o).run P w = .ok (.value (.slice (some ⟨w.heap.size, 0, none⟩) m m)) w' := by
    unfold execOp
    simp only [hop, HF.eval hl, HF.eval hc, Sem.run_bind]
    rw [hrun]
    rfl
  unfold Oper.wp
  rw [e1, Oper.upon_value, hd]
  exact k _ _ _ (HF.put hdn _) (HM.callRow ((Below.refl _ _).grown hgr (Nat.le_refl _) (fun _ h => by cases h)) hown)
end
/-- The first elements of a longer row. -/
theorem Rd.pre {w : World} {B n m : Nat} {A : Option Addr} {l r : List Nat} (h : Rd w B 1 A m ((l ++ r).map B8)) (hl : l.length = n) (hm : n ≤ m) : Rd w B 1 A n (l.map B8) := by
  have h1 := h.upto hm
  rwa [Nat.mul_one, List.map_append, List.take_append_of_le_length (by simp [hl]), List.take_of_length_le (by simp [hl])] at h1
end Go.Proofs.YtpekelggcmgnnaaDoor

/- Generic: a part of a block read as a struct; one cell of a row of numbers put. No program is in sight. -/
namespace Go.Proofs.YtpekelggcmgnnaaDoor
open Go.RowKit

theorem Mem.sub {W w : World} {fs : List Fact} (h : Mem W w fs) {i g : Nat} {cs : Array Value} {t : TypeId} (hi : fs[i]? = some (.blk g cs t)) (off : Nat) {ds : Array Value} (he : (cs.toList.drop off).take ds.size = ds.toList) : w.rangeAt g off ds.toList := fun j u hu => by
  have hr : w.rangeAt g 0 cs.toList := range_of_block (h.blk hi)
  have hc : cs.toList[off + j]? = some u := by
    rw [← he, List.getElem?_take] at hu
    split at hu
    · rwa [List.getElem?_drop] at hu
    · cases hu
  have := hr (off + j) u hc
  rwa [Nat.zero_add] at this
theorem putAt_one {α : Type} (F : α → Value) (l : List α) (k : Nat) (x : α) (hk : k < l.length) : putAt (l.map F) (k * 1) [F x] = (l.set k x).map F := by
  have h1 : ∀ l : List α, l.map F = l.flatMap fun x => [F x] := fun l => by induction l with
    | nil => rfl
    | cons a r ih => rw [List.map_cons, List.flatMap_cons, ih]; rfl
  rw [h1, h1, ← putAt_flat (fun x => [F x]) 1 (fun _ => rfl) l k x hk]
end Go.Proofs.YtpekelggcmgnnaaDoor

/- The steps at bytes and strings; contracts of the codec in the form that the walks take. -/
namespace Go.Proofs.YtpekelggcmgnnaaDoor
open Go.RowKit

theorem Yl.str {S : World → Prop} {σ : List (Nat × Value)} {o : Oper} {x : Operand} {A : Option Addr} {n c : Nat} {l : List Nat} (hop : o.op = .convert 25 9 x) (hx : look σ x = some (.slice A n c)) (hr : ∀ w, S w → Rd w w.heap.size 1 A n (l.map B8)) : Yl Tryd.prog S σ o (.string (bstr l)) := fun a m D HF w hS => by
  unfold execOp
  simp [hop, HF.eval hx, conv_u8 (hr w hS)]
theorem one_B8 (l : List Nat) : ∀ u ∈ l.map B8, u.oneCell' = true := by
  intro u hu
  obtain ⟨x, _, rfl⟩ := List.mem_map.1 hu
  rfl
theorem Rd.fromB8 {w : World} {B n k cap : Nat} {A : Option Addr} {l : List Nat} (h : Rd w B 1 A n (l.map B8)) (hk : k ≤ n) (hc : n ≤ cap) : Rd w B 1 (if cap = k then A else A.map (·.add (k * 1))) (n - k) ((l.drop k).map B8) := by
  have h1 := h.from hk hc
  rw [List.map_drop]
  have e : (l.map B8).drop (k * 1) = (l.map B8).drop k := by rw [Nat.mul_one]
  rw [← e]
  exact h1
theorem bstr_eq (l : List Nat) : ((bstr l).toList == (bstr l).toList) = true := by simp
theorem Laid.mem {B : Nat} {W w : World} {fs : List Fact} (h : Laid B W) (hM : Mem W w fs) (hB : B ≤ W.heap.size) : Laid B w := h.below hM.below hB
theorem Mem.le {W w : World} {fs : List Fact} (h : Mem W w fs) {B : Nat} (hB : B ≤ W.heap.size) : B ≤ w.heap.size := Nat.le_trans hB h.size
theorem i64_as {x : Int} (h : -9223372036854775808 ≤ x ∧ x ≤ 9223372036854775807) : Value.int .i64 (IntKind.i64.wrap x) = .int .i64 x := by rw [IntWalk.i64_in x h]
/-- Bytes that a callee hands over, and a number beside them. -/
def BytesIs (w : World) (er : Nat) (R : List Nat) (r : Ending) (w' : World) : Prop :=
  (∃ A c, r = .returned (.tuple #[.slice A R.length c, .int .i64 (er : Int)]) ∧ w'.ownsRow w.heap.size 5 1 (.slice A R.length c) R.length (R.map B8) ∧ R.length ≤ c) ∧ Below w.heap.size w w'
theorem BytesPost.is {w w' : World} {r : Ending} {er er' : Nat} {R R' : List Nat} (h : BytesPost w er R r w') (h1 : er = er') (h2 : R = R') : BytesIs w er' R' r w' := by
  subst h1; subst h2
  obtain ⟨⟨v, rfl, ho⟩, hb⟩ := h
  obtain ⟨A, c, rfl, hc⟩ := own_slice ho
  exact ⟨⟨A, c, rfl, ho, hc⟩, hb⟩
theorem put_is (b : Bs) (e : Ev) (he : e.Ok) (B : Nat) (w : World) (hL : Laid B w) (hB : B ≤ w.heap.size) {er : Nat} {R : List Nat} (h1 : putErr b e = er) (h2 : putOut b e = R) :
    Calls Tryd.prog 18 #[.agg b.cells, .agg e.cells] w (BytesIs w er R) :=
  (put1_any b e he B w hL hB).mono fun _ _ h => h.is h1 h2
theorem write_is (b : Bs) (A : Option Addr) (n c : Nat) (l : List Ev) (hok : ∀ e ∈ l, e.Ok) (B : Nat) (w : World) (hL : Laid B w) (hB : B ≤ w.heap.size) (hr : Rd w w.heap.size 11 A n (l.flatMap evL)) (hn : n ≤ 1000000000000) {er : Nat} {R : List Nat} (h1 : writeErr b l = er) (h2 : writeOut b l = R) :
    Calls Tryd.prog 14 #[.agg b.cells, .slice A n c] w (BytesIs w er R) :=
  (write_any b A n c l hok B w hL hB hr hn).mono fun _ _ h => h.is h1 h2
section
variable {P : Program} {S : World → Prop} {σ : List (Nat × Value)} {o : Oper} {t e : TypeId} {z : Value} {size bytes : Nat}
theorem Yl.sliceFrom (ei : EI P t e z size bytes) {x lo : Operand} {A : Option Addr} {m c j : Nat} {k : IntKind} (hop : o.op = .slice t x (some lo) none none) (hx : look σ x = some (.slice A m c)) (hl : look σ lo = some (.int k (j : Int))) (hj : j ≤ m) :
    Yl P S σ o (.slice (if c = j then A else A.map (·.add (j * size))) (m - j) (c - j)) := fun a n D HF w hS => by
  unfold execOp
  simp only [hop, HF.eval hx, HF.eval hl, Option.map_some, Option.map_none, Sem.run_bind, Sem.run_pure, slice_from_run (P := P) ei hj, Result.andThen_ok]
theorem Yl.sliceUpto (ei : EI P t e z size bytes) {x hi : Operand} {A : Option Addr} {m c j : Nat} {k : IntKind} (hop : o.op = .slice t x none (some hi) none) (hx : look σ x = some (.slice A m c)) (hl : look σ hi = some (.int k (j : Int))) (hj : j ≤ c) :
    Yl P S σ o (.slice A j c) := fun a n D HF w hS => by
  unfold execOp
  simp only [hop, HF.eval hx, HF.eval hl, Option.map_some, Option.map_none, Sem.run_bind, Sem.run_pure, slice_upto_run (P := P) ei hj, Result.andThen_ok]
end
section
variable {P : Program} {S : World → Prop} {σ : List (Nat × Value)} {o : Oper}
def placesOf (P : Program) : List Field → Option (List (Nat × Nat))
  | [] => some []
  | f :: r => match P.info? f.type, placesOf P r with
    | some i, some l => some ((f.offset, i.size) :: l)
    | _, _ => none
theorem placesOf_run : ∀ {fs : List Field} {l : List (Nat × Nat)}, placesOf P fs = some l → ∀ w, (fs.mapM fun f => (do pure (f.offset, ← sizeOf f.type) : Sem (Nat × Nat))).run P w = .ok l w
  | [], l, h, w => by cases h; rfl
  | f :: r, l, h, w => by
    unfold placesOf at h
    split at h
    · rename_i i l' hi hr
      injection h with h
      subst h
      simp [List.mapM_cons, sizeOf, typeInfo, hi]
      have := placesOf_run hr w
      simp [sizeOf, typeInfo] at this
      simp [this]
    · cases h
def buildCells (P : Program) (t : TypeId) (vs : List (Nat × Value)) : Option (Array Value) := match P.underlying t, zeroCells' P t with
  | some (.struct fs), some z => match placesOf P fs.toList with
    | some l => Instr.fill (l.toArray[·]?) z vs
    | none => none
  | _, _ => none
/-- A struct written out. -/
theorem Yl.build {t : TypeId} {ps : Array (Nat × Operand)} {vs : List (Nat × Value)} {cs : Array Value} (hop : o.op = .build t ps) (hv : partVals σ ps.toList = some vs) (hb : buildCells P t vs = some cs) : Yl P S σ o (.agg cs) := fun a n D HF w hS => by
  have hpm := partVals_arr HF hv
  have e1 : (Instr.build t (ps.map fun p => (p.1, a.eval p.2))).run P w = .ok (.agg cs) w := by
    rw [hpm]
    unfold buildCells at hb
    split at hb
    · rename_i fs z hu hz
      split at hb
      · rename_i l hl
        unfold zeroCells' at hz
        obtain ⟨zv, hz1, rfl⟩ := Option.map_eq_some_iff.1 hz
        obtain ⟨i, hi, hz2⟩ := Option.bind_eq_some_iff.1 hz1
        have hm : (fs.mapM fun f => (do Pure.pure (f.offset, ← sizeOf f.type) : Sem (Nat × Nat))).run P w = .ok l.toArray w := by
          rw [← Array.toArray_toList (xs := fs), List.mapM_toArray]
          simp only [Sem.run_map, placesOf_run hl]
          rfl
        unfold Instr.build
        simp only [Sem.run_bind, zeroValue, typeInfo, program, Sem.run, hi, hz2, Sem.run_pure, Result.andThen_ok, run_underlying hu, hm, hb]
      · cases hb
    · cases hb
  unfold execOp
  simp only [hop, Sem.run_bind, Sem.run_pure]
  show ((Instr.build t (ps.map fun p => (p.1, a.eval p.2))).run P w).andThen _ = _
  rw [e1]
  rfl
end
theorem own_some {w : World} {base : Nat} {e : TypeId} {size n c : Nat} {A : Option Addr} {xs : List Value} (h : w.ownsRow base e size (.slice A n c) n xs) (hn : 0 < n) : ∃ g, A = some ⟨g, 0, none⟩ := by
  obtain ⟨g, c', h1, _⟩ := own_at h hn
  injection h1 with h1 _ _
  exact ⟨g, h1⟩
/-- The struct at k of a row of the call's own. -/
theorem Mem.rowStruct {W w : World} {fs : List Fact} (h : Mem W w fs) {α : Type} {f : α → List Value} {sz : Nat} (hf : ∀ x, (f x).length = sz) {i g m c : Nat} {e : TypeId} {l : List α} (hi : fs[i]? = some (.row (.slice (some ⟨g, 0, none⟩) m c) m (l.flatMap f) e sz)) {k : Nat} {x : α} (hk : l[k]? = some x) : w.rangeAt g (k * sz) (f x) :=
  h.rowRange hi (k * sz) fun j u hu => by
    obtain ⟨hl, he⟩ := List.getElem?_eq_some_iff.1 hk
    have hj : j < sz := by have := (List.getElem?_eq_some_iff.1 hu).1; rwa [hf] at this
    rw [flat_at f sz hf l k j hl hj, he]
    exact hu
theorem row_is (A : Option Addr) (n c : Nat) (l : List Ev) (hok : ∀ e ∈ l, e.Ok) (B : Nat) (w : World) (hL : Laid B w) (hB : B ≤ w.heap.size) (hr : Rd w w.heap.size 11 A n (l.flatMap evL)) (hn : n ≤ 140737488355328) {i : Int} {er : Nat} (h : rowR l = (i, er)) :
    Calls Tryd.prog 21 #[.slice A n c] w fun r w' => r = .returned (.tuple #[.int .i64 i, .int .i64 (er : Int)]) ∧ Below w.heap.size w w' :=
  (row_any A n c l hok B w hL hB hr hn).mono fun _ _ p => ⟨by rw [p.ret, h], p.below⟩
theorem size_is (b : Bs) (e : Ev) (he : e.Ok) (B : Nat) (w : World) (hL : Laid B w) (hB : B ≤ w.heap.size) {L er : Nat} (h1 : (putOut b e).length = L) (h2 : putErr b e = er) :
    Calls Tryd.prog 25 #[.agg b.cells, .agg e.cells] w fun r w' => r = .returned (.tuple #[.int .i64 (L : Int), .int .i64 (er : Int)]) ∧ Below w.heap.size w w' :=
  (size_any b e he B w hL hB).mono fun _ _ p => ⟨by rw [p.1, h1, h2], p.2⟩
theorem take_is (b : Bs) (cpu : Nat) (hcpu : cpu < 256) (A : Option Addr) (n c : Nat) (l : List Nat) (B : Nat) (w : World) (hL : Laid B w) (hB : B ≤ w.heap.size) (hr : Rd w w.heap.size 1 A n (l.map B8)) (hc : n ≤ c) (hl : ∀ b ∈ l, b < 256) (hn : n ≤ 200000000000000) {e : Ev} {L er : Nat} (h : takeR b cpu l = (e, L, er)) :
    Calls Tryd.prog 20 #[.agg b.cells, .int .u8 (cpu : Int), .slice A n c] w fun r w' => r = .returned (.tuple #[.agg e.cells, .int .i64 (L : Int), .int .i64 (er : Int)]) ∧ Below w.heap.size w w' :=
  (take_any b cpu hcpu A n c l B w hL hB hr hc hl hn).mono fun _ _ p => ⟨by rw [p.ret, h], p.below⟩
theorem read_is (b : Bs) (cpu : Nat) (hcpu : cpu < 256) (A : Option Addr) (n c : Nat) (m : Int) (hm : I64 m) (l : List Nat) (B : Nat) (w : World) (hL : Laid B w) (hB : B ≤ w.heap.size) (hr : Rd w w.heap.size 1 A n (l.map B8)) (hc : n ≤ c) (hl : ∀ b ∈ l, b < 256) (hn : n ≤ 200000000000000) (hlim : ReadLim m l) {es : List Ev} {L er : Nat} (h : readR b cpu m l = (es, L, er)) :
    Calls Tryd.prog 13 #[.agg b.cells, .int .u8 (cpu : Int), .int .i64 m, .slice A n c] w fun r w' => (∃ A c, r = .returned (.tuple #[.slice A es.length c, .int .i64 (L : Int), .int .i64 (er : Int)]) ∧ w'.ownsRow w.heap.size 37 11 (.slice A es.length c) es.length (es.flatMap evL) ∧ es.length ≤ c) ∧ Below w.heap.size w w' :=
  (cread_any b cpu hcpu A n c m hm l B w hL hB hr hc hl hn hlim).mono fun r w' p => by
    rw [h] at p
    obtain ⟨⟨v, rfl, ho⟩, hb⟩ := p
    obtain ⟨A, c, rfl, hc⟩ := own_slice ho
    exact ⟨⟨A, c, rfl, ho, hc⟩, hb⟩
end Go.Proofs.YtpekelggcmgnnaaDoor

/- Two events are compared. -/
namespace Go.Proofs.YtpekelggcmgnnaaDoor
open Go.RowKit

def intAt (xs : Array Value) (i : Nat) : Int := match xs[i]? with
  | some (.int _ n) => n
  | _ => 0
def eqFieldB (P : Program) (f : Field) (i : Nat) : Bool := f.name != "_" && (f.offset == i && (isOne P f.type && match P.underlying f.type with
  | some (.int _) => true
  | _ => false))
theorem eqFields_ints {P : Program} (d : Nat) (xs ys : Array Value) : ∀ (fs : List Field) (i : Nat) (w : World), (∀ j, j < fs.length → ∃ f k a b, fs[j]? = some f ∧ eqFieldB P f (i + j) = true ∧ xs[i + j]? = some (.int k a) ∧ ys[i + j]? = some (.int k b)) →
    (Op.eqFields (d + 1) xs ys fs).run P w = .ok ((List.range fs.length).all fun j => intAt xs (i + j) == intAt ys (i + j)) w
  | [], i, w, _ => rfl
  | f :: fs, i, w, h => by
    obtain ⟨f', k, a, b, hf, hb, hx, hy⟩ := h 0 (by simp)
    simp only [List.getElem?_cons_zero, Option.some.injEq] at hf
    subst hf
    simp only [eqFieldB, Bool.and_eq_true, bne_iff_ne, beq_iff_eq, Nat.add_zero] at hb
    obtain ⟨h1, h2, h3, h4⟩ := hb
    rw [Nat.add_zero] at hx hy
    have ih := eqFields_ints d xs ys fs (i + 1) w (fun j hj => by
      obtain ⟨f, k, a, b, hf, hb, hx, hy⟩ := h (j + 1) (by simpa using hj)
      refine ⟨f, k, a, b, by simpa using hf, ?_, ?_, ?_⟩
      · rw [show i + 1 + j = i + (j + 1) by omega]; exact hb
      · rw [show i + 1 + j = i + (j + 1) by omega]; exact hx
      · rw [show i + 1 + j = i + (j + 1) by omega]; exact hy)
    have hu : ∃ k', P.underlying f.type = some (.int k') := by
      split at h4
      · rename_i k' hk; exact ⟨k', hk⟩
      · cases h4
    obtain ⟨k', hu⟩ := hu
    have hxi : intAt xs i = a := by simp [intAt, hx]
    have hyi : intAt ys i = b := by simp [intAt, hy]
    have e : (List.range (f :: fs).length).all (fun j => intAt xs (i + j) == intAt ys (i + j)) = ((a == b) && (List.range fs.length).all fun j => intAt xs (i + 1 + j) == intAt ys (i + 1 + j)) := by
      rw [List.length_cons, List.range_succ_eq_map, List.all_cons, Nat.add_zero, hxi, hyi, List.all_map]
      congr 2
      funext j
      simp only [Function.comp_apply, Nat.succ_eq_add_one]
      rw [show i + (j + 1) = i + 1 + j by omega]
    rw [e]
    unfold Op.eqFields
    rw [if_pos h1]
    simp only [Sem.run_bind, part, isAgg_one h3, Result.andThen_ok, Bool.false_eq_true, if_false, h2, hx, hy, Sem.run_pure, run_equalIn_int w d f.type k k' a b hu]
    cases hab : (a == b)
    · simp
    · simp [ih]
def evTypeOk (P : Program) (t : TypeId) : Bool := !P.stoodInHeld t && (!P.eqGuardType P.depth t && ((P.fieldsOf t).size == 11 && ((List.range 11).all fun i => match (P.fieldsOf t).toList[i]? with
  | some f => eqFieldB P f i
  | none => false)))
theorem isStruct_of {P : Program} {t : TypeId} (h : (P.fieldsOf t).size = 11) : P.underlying t = some (.struct (P.fieldsOf t)) := by
  unfold Program.fieldsOf at h ⊢
  split at h
  · rename_i fs hu; rw [hu]
  · cases h
theorem ev_at_int (e : Ev) : ∀ i, i < 11 → ∃ k, e.cells[i]? = some (.int k (intAt e.cells i)) ∧ ∀ e' : Ev, e'.cells[i]? = some (.int k (intAt e'.cells i)) := by
  intro i hi
  have h : i = 0 ∨ i = 1 ∨ i = 2 ∨ i = 3 ∨ i = 4 ∨ i = 5 ∨ i = 6 ∨ i = 7 ∨ i = 8 ∨ i = 9 ∨ i = 10 := by omega
  rcases h with rfl | rfl | rfl | rfl | rfl | rfl | rfl | rfl | rfl | rfl | rfl <;> exact ⟨_, rfl, fun _ => rfl⟩
instance evDec : DecidableEq Ev := fun ⟨a0, a1, a2, a3, a4, a5, a6, a7, a8, a9, a10⟩ ⟨b0, b1, b2, b3, b4, b5, b6, b7, b8, b9, b10⟩ =>
  decidable_of_iff (a0 = b0 ∧ a1 = b1 ∧ a2 = b2 ∧ a3 = b3 ∧ a4 = b4 ∧ a5 = b5 ∧ a6 = b6 ∧ a7 = b7 ∧ a8 = b8 ∧ a9 = b9 ∧ a10 = b10) (by rw [Ev.mk.injEq])
theorem ev_all (x y : Ev) : ((List.range 11).all fun j => intAt x.cells (0 + j) == intAt y.cells (0 + j)) = decide (x = y) := by
  rw [Bool.eq_iff_iff, decide_eq_true_eq]
  constructor
  · intro h
    have g : ∀ j, j < 11 → intAt x.cells j = intAt y.cells j := fun j hj => by
      have := List.all_eq_true.1 h j (List.mem_range.2 hj)
      simpa using this
    obtain ⟨a0, a1, a2, a3, a4, a5, a6, a7, a8, a9, a10⟩ := x
    obtain ⟨b0, b1, b2, b3, b4, b5, b6, b7, b8, b9, b10⟩ := y
    have g0 : a0 = b0 := g 0 (by decide)
    have g1 : a1 = b1 := g 1 (by decide)
    have g2 : (a2 : Int) = b2 := g 2 (by decide)
    have g3 : (a3 : Int) = b3 := g 3 (by decide)
    have g4 : a4 = b4 := g 4 (by decide)
    have g5 : a5 = b5 := g 5 (by decide)
    have g6 : a6 = b6 := g 6 (by decide)
    have g7 : a7 = b7 := g 7 (by decide)
    have g8 : a8 = b8 := g 8 (by decide)
    have g9 : (a9 : Int) = b9 := g 9 (by decide)
    have g10 : a10 = b10 := g 10 (by decide)
    have g2' : a2 = b2 := by omega
    have g3' : a3 = b3 := by omega
    have g9' : a9 = b9 := by omega
    subst g0 g1 g2' g3' g4 g5 g6 g7 g8 g9' g10
    rfl
  · rintro rfl
    simp
theorem evEq_run {P : Program} {t : TypeId} (ht : evTypeOk P t = true) (x y : Ev) (w : World) : (Op.equal t (.agg x.cells) (.agg y.cells)).run P w = .ok (decide (x = y)) w := by
  simp only [evTypeOk, Bool.and_eq_true, Bool.not_eq_true', beq_iff_eq] at ht
  obtain ⟨h1, _, h3, h4⟩ := ht
  unfold Op.equal
  rw [show Op.maxDepth = 9998 + 1 + 1 from rfl, run_equalIn_struct w 9999 t _ _ (isStruct_of h3) h1, eqFields_ints 9998 _ _ _ 0 w]
  · rw [Array.length_toList, h3, ev_all]
  · intro j hj
    rw [Array.length_toList, h3] at hj
    have := List.all_eq_true.1 h4 j (List.mem_range.2 hj)
    split at this
    · rename_i f hf
      obtain ⟨k, hk, hk'⟩ := ev_at_int x j hj
      rw [Nat.zero_add]
      exact ⟨f, k, _, _, hf, this, hk, hk' y⟩
    · cases this
theorem eqGuard_ev {P : Program} {t : TypeId} (ht : evTypeOk P t = true) (op : BinOp) (x y : Operand) (a b : Array Value) (w : World) : (eqGuard op t x y (.agg a) (.agg b)).run P w = .ok () w := by
  simp only [evTypeOk, Bool.and_eq_true, Bool.not_eq_true', beq_iff_eq] at ht
  obtain ⟨_, h2, _⟩ := ht
  unfold eqGuard
  cases op <;> simp <;> simp [h2]
section
variable {P : Program} {S : World → Prop} {σ : List (Nat × Value)} {o : Oper}
theorem Yl.neqEv {t u : TypeId} {p q : Operand} {x y : Ev} (hop : o.op = .binOp .neq t p q u) (hx : look σ p = some (.agg x.cells)) (hy : look σ q = some (.agg y.cells)) (ht : evTypeOk P t = true) : Yl P S σ o (.bool (!decide (x = y))) := fun a n D HF w hS => by
  unfold execOp
  have e : (binOp .neq t (.agg x.cells) (.agg y.cells)).run P w = .ok (.bool (!decide (x = y))) w := by
    show ((do Pure.pure (.bool (!(← Op.equal t (.agg x.cells) (.agg y.cells)))) : Sem Value)).run P w = _
    simp [evEq_run ht]
  simp only [hop, HF.eval hx, HF.eval hy, Sem.run_bind, eqGuard_ev ht, Result.andThen_ok, e, Sem.run_pure]
theorem Yl.eqlEv {t u : TypeId} {p q : Operand} {x y : Ev} (hop : o.op = .binOp .eql t p q u) (hx : look σ p = some (.agg x.cells)) (hy : look σ q = some (.agg y.cells)) (ht : evTypeOk P t = true) : Yl P S σ o (.bool (decide (x = y))) := fun a n D HF w hS => by
  unfold execOp
  have e : (binOp .eql t (.agg x.cells) (.agg y.cells)).run P w = .ok (.bool (decide (x = y))) w := by
    show ((do Pure.pure (.bool (← Op.equal t (.agg x.cells) (.agg y.cells))) : Sem Value)).run P w = _
    simp [evEq_run ht]
  simp only [hop, HF.eval hx, HF.eval hy, Sem.run_bind, eqGuard_ev ht, Result.andThen_ok, e, Sem.run_pure]
end
theorem ev_type_ok : evTypeOk Tryd.prog 37 = true := by kernel_rfl
end Go.Proofs.YtpekelggcmgnnaaDoor

/- The reference's events: what With's loop keeps. No walk. -/
namespace Go.Proofs.YtpekelggcmgnnaaDoor
open Go.RowKit

/-- So many values are used up when k fields have been looked at. -/
def usedUp (e : Ev) (vs : List Nat) (k : Nat) : Ev := e.base.rfill ((upTo e.kind k).zip vs)
theorem rput_ok {e : Ev} (h : e.Ok) (i x : Nat) (hx : x < 18446744073709551616) : (e.rput i x).Ok := by
  have hv : I64 (Ev.rval x) := by unfold Ev.rval I64; split <;> omega
  unfold Ev.rput Ev.putV
  split
  · exact { h with task := hv }
  · exact { h with group := hv }
  · exact { h with to := hv }
  · exact { h with weight := hv }
  · exact { h with ticks := hv }
  · exact { h with mask := hx }
  · exact { h with got := hv }
theorem rfill_ok : ∀ (l : List (Nat × Nat)) (e : Ev), e.Ok → (∀ p ∈ l, p.2 < 18446744073709551616) → (e.rfill l).Ok
  | [], _, h, _ => h
  | p :: l, e, h, hl => rfill_ok l (e.rput p.1 p.2) (rput_ok h p.1 p.2 (hl p (by simp))) (fun q hq => hl q (by simp [hq]))
theorem rfill_snoc (e : Ev) (l : List (Nat × Nat)) (p : Nat × Nat) : e.rfill (l ++ [p]) = (e.rfill l).rput p.1 p.2 := by unfold Ev.rfill; rw [List.foldl_append]; rfl
theorem upTo_pre (kd k : Nat) : ∃ r, usesL kd = upTo kd k ++ r ∨ 7 ≤ k := by
  by_cases h : 7 ≤ k
  · exact ⟨[], .inr h⟩
  · refine ⟨((List.range 7).drop k).filter fun i => (usesL kd).contains i, .inl ?_⟩
    have h1 : List.range 7 = List.range k ++ (List.range 7).drop k := by
      rw [← List.take_append_drop k (List.range 7)]
      congr 1
      · rw [List.take_range]; congr 1; omega
      · rw [List.take_append_drop]
    conv => lhs; rw [← filter_usesL kd, h1, List.filter_append]
    rfl
theorem upTo_len_le (kd k : Nat) (hk : k ≤ 7) : (upTo kd k).length ≤ (usesL kd).length := by
  obtain ⟨r, h | h⟩ := upTo_pre kd k
  · rw [h, List.length_append]; omega
  · rw [show k = 7 by omega, upTo_7]; omega
theorem zip_snoc {l : List Nat} {a n : Nat} {vs : List Nat} (hl : l.length = n) (hn : n < vs.length) : (l ++ [a]).zip vs = l.zip vs ++ [(a, vs[n])] := by
  have h1 : vs = vs.take n ++ vs.drop n := (List.take_append_drop n vs).symm
  have h2 : vs.drop n = vs[n] :: vs.drop (n + 1) := List.drop_eq_getElem_cons hn
  have h3 : (vs.take n).length = n := by rw [List.length_take]; omega
  have h4 : l.zip vs = l.zip (vs.take n) := by
    conv => lhs; rw [h1, ← List.append_nil l]
    rw [List.zip_append (by omega)]; simp
  rw [h4]
  conv => lhs; rw [h1]
  rw [List.zip_append (by omega), h2]
  rfl

theorem usedUp_zero (e : Ev) (vs : List Nat) : usedUp e vs 0 = e.base := rfl
theorem usedUp_seven (e : Ev) (vs : List Nat) : usedUp e vs 7 = e.rmade vs := by unfold usedUp Ev.rmade; rw [upTo_7]
theorem usedUp_yes {e : Ev} {vs : List Nat} {k x : Nat} (h : (usesL e.kind).contains k = true) (hx : vs[(upTo e.kind k).length]? = some x) : (usedUp e vs k).rput k x = usedUp e vs (k + 1) := by
  obtain ⟨hl, he⟩ := List.getElem?_eq_some_iff.1 hx
  unfold usedUp
  rw [upTo_yes h, zip_snoc rfl hl, rfill_snoc, he]
theorem usedUp_no {e : Ev} {vs : List Nat} {k : Nat} (h : (usesL e.kind).contains k = false) : usedUp e vs (k + 1) = usedUp e vs k := by unfold usedUp; rw [upTo_no h]
theorem upTo_grow {kd k : Nat} (h : (usesL kd).contains k = true) : (upTo kd (k + 1)).length = (upTo kd k).length + 1 := by rw [upTo_yes h, List.length_append]; rfl
theorem upTo_room {kd k : Nat} (h : (usesL kd).contains k = true) (hk : k < 7) : (upTo kd k).length < (usesL kd).length := by
  have h1 := upTo_len_le kd (k + 1) (by omega)
  rw [upTo_grow h] at h1
  omega
theorem usedUp_ok {e : Ev} (he : e.Ok) {vs : List Nat} (hv : ∀ x ∈ vs, x < 18446744073709551616) (k : Nat) : (usedUp e vs k).Ok := by
  have z : I64 0 := ⟨by decide, by decide⟩
  have zm : (0 : Nat) < 18446744073709551616 := by decide
  refine rfill_ok _ _ ?_ (fun p hp => hv _ (List.of_mem_zip hp).2)
  exact { seq := he.seq, time := he.time, cpu := he.cpu, kind := he.kind, task := z, group := z, to := z, weight := z, ticks := z, mask := zm, got := z }
def Ev.rErr (e : Ev) (vs : List Nat) : Nat := if e.kind = 0 ∨ 10 < e.kind then 60 else if vs.length ≠ (usesL e.kind).length then 2 else if (e.rmade vs).check ≠ 0 then 61 else 0
def Ev.rEv (e : Ev) (vs : List Nat) : Ev := if e.rErr vs = 0 then e.rmade vs else Ev.zero
theorem rErr_eq (e : Ev) (vs : List Nat) (hv : ∀ x ∈ vs, x < 18446744073709551616) : e.rErr vs = e.withErr vs ∧ e.rEv vs = e.withEv vs := by
  have h : e.rErr vs = e.withErr vs ∧ (e.rErr vs = 0 → e.rmade vs = e.made vs) := by
    unfold Ev.rErr Ev.withErr
    split
    · exact ⟨rfl, fun h => by omega⟩
    · split
      · exact ⟨rfl, fun h => by omega⟩
      · rename_i h1 h2
        rcases rmade_made e vs (by omega) hv with h | ⟨h3, h4⟩
        · rw [h]; exact ⟨rfl, fun _ => rfl⟩
        · rw [if_pos h3, if_pos h4]; exact ⟨rfl, fun h => by omega⟩
  refine ⟨h.1, ?_⟩
  unfold Ev.rEv Ev.withEv
  rw [← h.1]
  split
  · exact h.2 ‹_›
  · rfl
theorem has06_is (k i : Nat) (hi : i < 7) (hk : k < 256) (w : World) : Calls Tryd.prog 64 #[.int .u8 (k : Int), .int .i64 (i : Int)] w (BoolPost w ((usesL k).contains i)) :=
  (has06_any k i hi hk w).mono fun _ _ h => ⟨h.1, by rw [h.2]; exact Below.refl _ _⟩
end Go.Proofs.YtpekelggcmgnnaaDoor

/- quantumref06.With is what the program's With is. -/
namespace Go.Proofs.YtpekelggcmgnnaaDoor
open Go.RowKit
set_option maxRecDepth 100000 in
set_option maxHeartbeats 4000000 in
theorem rwith_walk (e : Ev) (he : e.Ok) (A : Option Addr) (n c : Nat) (vs : List Nat) (w : World) (hr : Rd w w.heap.size 1 A n (vs.map U64)) (hvs : ∀ x ∈ vs, x < 18446744073709551616) (hn : vs.length = n) :
    Calls Tryd.prog 63 #[.agg e.cells, .slice A n c] w (WithPost w (e.rEv vs) (e.rErr vs)) := by
  refine calls_enter (vs := [.agg e.cells, .slice A n c]) Tryd.func63 rfl rfl (by kernel_rfl) (σ0 := [(0, .agg e.cells), (1, .slice A n c)]) rfl ?_
  intro a HF
  have HM := Mem.start w
  refine wp_seq ?_
  refine from_start ?_
  refine from_op HF (i := 0) rfl rfl ?_
  refine e_box HF HM (cs := e.cells) rfl rfl rfl rfl (by decide) ?_
  clear HF HM; intro a w2 g2 HF HM
  refine from_op HF (i := 1) rfl rfl ?_
  refine e_alloc HF HM (cs := #[.int .i64 0, .int .i64 0, .int .u8 0, .int .u8 0, .int .i64 0, .int .i64 0, .int .i64 0, .int .i64 0, .int .i64 0, .int .u64 0, .int .i64 0]) rfl (by kernel_rfl) rfl (by decide) ?_
  clear HF HM; intro a w4 g4 HF HM
  refine from_pures HF 1 2 (j := 3) [(5, .int .i64 0)] (by kernel_rfl) rfl ?_; clear HF; intro a HF
  refine from_done rfl ?_
  replace HF := HF.sub (σ' := [(5, .int .i64 0), (4, .pointer (some ⟨g4, 0, none⟩)), (2, .pointer (some ⟨g2, 0, none⟩)), (1, .slice A n c)]) (by kernel_rfl)
  refine wp_seq ?_
  refine wp_seq ?_
  refine from_start ?_
  refine from_pures HF 1 0 (j := 1) [(9, .pointer (some ⟨g2, 3, none⟩))] (by kernel_rfl) rfl ?_; clear HF; intro a HF
  refine from_yl (S := fun wS => Mem w wS _) HF HM (i := 1) rfl rfl (d := 10) rfl (by decide) (v := .int .u8 (e.kind : Int)) (Yl.load1 rfl rfl (by kernel_rfl) (fun _ h => h.cell (i := 1) rfl rfl)) ?_; clear HF; intro a HF
  refine from_op HF (i := 2) rfl rfl ?_
  refine e_call HF (vs := [.int .u8 (e.kind : Int)]) rfl (by kernel_rfl) (by kernel_rfl) rfl (by decide) (name06_any e.kind he.kind _) ?_
  rintro _ w11 ⟨⟨s, rfl, hs⟩, hbw⟩
  refine ⟨_, rfl, ?_⟩
  replace HM := HM.call hbw
  clear HF; intro a HF
  refine from_pures HF 1 3 (j := 4) [(12, .bool ((s).toList == ((ByteArray.mk #[])).toList))] (by kernel_rfl) rfl ?_; clear HF; intro a HF
  replace HF := HF.as (t := 12) (u := .bool (!decide (1 ≤ e.kind ∧ e.kind ≤ 10))) rfl (by rw [str_empty hs])
  refine from_done rfl ?_
  replace HF := HF.sub (σ' := [(12, .bool (!decide (1 ≤ e.kind ∧ e.kind ≤ 10))), (5, .int .i64 0), (4, .pointer (some ⟨g4, 0, none⟩)), (2, .pointer (some ⟨g2, 0, none⟩)), (1, .slice A n c)]) (by kernel_rfl)
  rcases Bool.eq_false_or_eq_true (!decide (1 ≤ e.kind ∧ e.kind ≤ 10)) with hb12 | hb12
  · have HF := HF.as (t := 12) (u := .bool true) rfl (by rw [hb12])
    have hbad : e.kind = 0 ∨ 10 < e.kind := by simp only [Bool.not_eq_true', decide_eq_false_iff_not] at hb12; omega
    refine cond_true HF rfl ?_
    refine wp_seq ?_
    refine from_start ?_
    refine from_yl (S := fun wS => Mem w wS _) HF HM (i := 0) rfl rfl (d := 13) rfl (by decide) (v := .agg Ev.zero.cells) ((Yl.build (vs := []) rfl (by kernel_rfl) (by kernel_rfl))) ?_; clear HF; intro a HF
    refine from_op HF (i := 1) rfl rfl ?_
    refine e_storeAll HF HM (i := 0) (cs := #[.int .i64 0, .int .i64 0, .int .u8 0, .int .u8 0, .int .i64 0, .int .i64 0, .int .i64 0, .int .i64 0, .int .i64 0, .int .u64 0, .int .i64 0]) (ds := Ev.zero.cells) rfl rfl rfl rfl ⟨(by kernel_rfl), (by kernel_rfl)⟩ rfl rfl (ev_one Ev.zero) rfl ?_
    clear HM; intro w2_1 HM
    refine from_pures HF 1 2 (j := 3) [(5, .int .i64 60)] (by kernel_rfl) rfl ?_; clear HF; intro a HF
    refine from_done rfl ?_
    replace HF := HF.sub (σ' := [(5, .int .i64 60), (12, .bool true), (4, .pointer (some ⟨g4, 0, none⟩)), (2, .pointer (some ⟨g2, 0, none⟩)), (1, .slice A n c)]) (by kernel_rfl)
    refine wp_ret ?_
    exact ret2 rfl HF (.cellS (i := 0) HF HM rfl rfl ⟨(by kernel_rfl), (by kernel_rfl)⟩ rfl) (.tmp HF rfl) (⟨by rw [Ev.rEv, Ev.rErr, if_pos hbad]; rfl, HM.below⟩)
  · have HF := HF.as (t := 12) (u := .bool false) rfl (by rw [hb12])
    have hgood : ¬ (e.kind = 0 ∨ 10 < e.kind) := by simp only [Bool.not_eq_false', decide_eq_true_eq] at hb12; omega
    refine cond_false HF rfl ?_
    refine wp_skip ?_
    refine wp_seq ?_
    refine wp_seq ?_
    refine from_start ?_
    refine from_pures HF 1 0 (j := 1) [(14, .slice A n c)] (by kernel_rfl) rfl ?_; clear HF; intro a HF
    refine from_yl (S := fun wS => Mem w wS _) HF HM (i := 1) rfl rfl (d := 15) rfl (by decide) (v := .int .i64 ((n : Nat) : Int)) (Yl.len rfl rfl (by kernel_rfl)) ?_; clear HF; intro a HF
    refine from_pures HF 1 2 (j := 3) [(16, .pointer (some ⟨g2, 3, none⟩))] (by kernel_rfl) rfl ?_; clear HF; intro a HF
    refine from_yl (S := fun wS => Mem w wS _) HF HM (i := 3) rfl rfl (d := 17) rfl (by decide) (v := .int .u8 (e.kind : Int)) (Yl.load1 rfl rfl (by kernel_rfl) (fun _ h => h.cell (i := 1) rfl rfl)) ?_; clear HF; intro a HF
    refine from_op HF (i := 4) rfl rfl ?_
    refine e_call HF (vs := [.int .u8 (e.kind : Int)]) rfl (by kernel_rfl) (by kernel_rfl) rfl (by decide) (fields06_any e.kind he.kind _) ?_
    rintro _ w18 ⟨⟨v, xs18, rfl, ho⟩, hbw⟩
    obtain ⟨A18, c18, rfl, hc18⟩ := own_slice ho
    refine ⟨_, rfl, ?_⟩
    replace HM := HM.callRow hbw ho
    clear HF; intro a HF
    refine from_yl (S := fun wS => Mem w wS _) HF HM (i := 5) rfl rfl (d := 19) rfl (by decide) (v := .int .i64 (((usesL e.kind).length : Nat) : Int)) (Yl.len rfl rfl (by kernel_rfl)) ?_; clear HF; intro a HF
    refine from_pures HF 1 6 (j := 7) [(20, .bool ((((n : Nat) : Int) : Int) != ((((usesL e.kind).length : Nat) : Int) : Int)))] (by kernel_rfl) rfl ?_; clear HF; intro a HF
    refine from_done rfl ?_
    replace HF := HF.sub (σ' := [(20, .bool ((((n : Nat) : Int) : Int) != ((((usesL e.kind).length : Nat) : Int) : Int))), (12, .bool false), (5, .int .i64 0), (4, .pointer (some ⟨g4, 0, none⟩)), (2, .pointer (some ⟨g2, 0, none⟩)), (1, .slice A n c)]) (by kernel_rfl)
    replace HM := HM.picks (fs' := [.blk g4 #[.int .i64 0, .int .i64 0, .int .u8 0, .int .u8 0, .int .i64 0, .int .i64 0, .int .i64 0, .int .i64 0, .int .i64 0, .int .u64 0, .int .i64 0] 64, .blk g2 e.cells 64]) [1, 2] (by decide) rfl
    rcases Bool.eq_false_or_eq_true ((((n : Nat) : Int) : Int) != ((((usesL e.kind).length : Nat) : Int) : Int)) with hb20 | hb20
    · have HF := HF.as (t := 20) (u := .bool true) rfl (by rw [hb20])
      have hlb : vs.length ≠ (usesL e.kind).length := by rw [bne_iff_ne] at hb20; omega
      refine cond_true HF rfl ?_
      refine wp_seq ?_
      refine from_start ?_
      refine from_yl (S := fun wS => Mem w wS _) HF HM (i := 0) rfl rfl (d := 21) rfl (by decide) (v := .agg Ev.zero.cells) ((Yl.build (vs := []) rfl (by kernel_rfl) (by kernel_rfl))) ?_; clear HF; intro a HF
      refine from_op HF (i := 1) rfl rfl ?_
      refine e_storeAll HF HM (i := 0) (cs := #[.int .i64 0, .int .i64 0, .int .u8 0, .int .u8 0, .int .i64 0, .int .i64 0, .int .i64 0, .int .i64 0, .int .i64 0, .int .u64 0, .int .i64 0]) (ds := Ev.zero.cells) rfl rfl rfl rfl ⟨(by kernel_rfl), (by kernel_rfl)⟩ rfl rfl (ev_one Ev.zero) rfl ?_
      clear HM; intro w4_1 HM
      refine from_pures HF 1 2 (j := 3) [(5, .int .i64 2)] (by kernel_rfl) rfl ?_; clear HF; intro a HF
      refine from_done rfl ?_
      replace HF := HF.sub (σ' := [(5, .int .i64 2), (20, .bool true), (12, .bool false), (4, .pointer (some ⟨g4, 0, none⟩)), (2, .pointer (some ⟨g2, 0, none⟩)), (1, .slice A n c)]) (by kernel_rfl)
      refine wp_ret ?_
      exact ret2 rfl HF (.cellS (i := 0) HF HM rfl rfl ⟨(by kernel_rfl), (by kernel_rfl)⟩ rfl) (.tmp HF rfl) (⟨by rw [Ev.rEv, Ev.rErr, if_neg hgood, if_pos hlb]; rfl, HM.below⟩)
    · have HF := HF.as (t := 20) (u := .bool false) rfl (by rw [hb20])
      have hlg : n = (usesL e.kind).length := by rw [bne_eq_false_iff_eq] at hb20; omega
      have hlg2 : ¬ vs.length ≠ (usesL e.kind).length := by omega
      refine cond_false HF rfl ?_
      refine wp_skip ?_
      refine wp_seq ?_
      refine from_start ?_
      refine from_pures HF 1 0 (j := 1) [(22, .pointer (some ⟨g2, 0, none⟩))] (by kernel_rfl) rfl ?_; clear HF; intro a HF
      refine from_yl (S := fun wS => Mem w wS _) HF HM (i := 1) rfl rfl (d := 23) rfl (by decide) (v := .int .i64 e.seq) (Yl.load1 rfl rfl (by kernel_rfl) (fun _ h => h.cell (i := 1) rfl rfl)) ?_; clear HF; intro a HF
      refine from_pures HF 1 2 (j := 3) [(24, .pointer (some ⟨g2, 1, none⟩))] (by kernel_rfl) rfl ?_; clear HF; intro a HF
      refine from_yl (S := fun wS => Mem w wS _) HF HM (i := 3) rfl rfl (d := 25) rfl (by decide) (v := .int .i64 e.time) (Yl.load1 rfl rfl (by kernel_rfl) (fun _ h => h.cell (i := 1) rfl rfl)) ?_; clear HF; intro a HF
      refine from_pures HF 1 4 (j := 5) [(26, .pointer (some ⟨g2, 2, none⟩))] (by kernel_rfl) rfl ?_; clear HF; intro a HF
      refine from_yl (S := fun wS => Mem w wS _) HF HM (i := 5) rfl rfl (d := 27) rfl (by decide) (v := .int .u8 (e.cpu : Int)) (Yl.load1 rfl rfl (by kernel_rfl) (fun _ h => h.cell (i := 1) rfl rfl)) ?_; clear HF; intro a HF
      refine from_pures HF 1 6 (j := 7) [(28, .pointer (some ⟨g2, 3, none⟩))] (by kernel_rfl) rfl ?_; clear HF; intro a HF
      refine from_yl (S := fun wS => Mem w wS _) HF HM (i := 7) rfl rfl (d := 29) rfl (by decide) (v := .int .u8 (e.kind : Int)) (Yl.load1 rfl rfl (by kernel_rfl) (fun _ h => h.cell (i := 1) rfl rfl)) ?_; clear HF; intro a HF
      refine from_yl (S := fun wS => Mem w wS _) HF HM (i := 8) rfl rfl (d := 30) rfl (by decide) (v := .agg e.base.cells) ((Yl.build (vs := [(0, .int .i64 e.seq), (1, .int .i64 e.time), (2, .int .u8 (e.cpu : Int)), (3, .int .u8 (e.kind : Int))]) rfl (by kernel_rfl) (by kernel_rfl))) ?_; clear HF; intro a HF
      refine from_op HF (i := 9) rfl rfl ?_
      refine e_alloc HF HM (cs := #[.int .i64 0, .int .i64 0, .int .u8 0, .int .u8 0, .int .i64 0, .int .i64 0, .int .i64 0, .int .i64 0, .int .i64 0, .int .u64 0, .int .i64 0]) rfl (by kernel_rfl) rfl (by decide) ?_
      clear HF HM; intro a w6 g6 HF HM
      refine from_op HF (i := 10) rfl rfl ?_
      refine e_storeAll HF HM (i := 0) (cs := #[.int .i64 0, .int .i64 0, .int .u8 0, .int .u8 0, .int .i64 0, .int .i64 0, .int .i64 0, .int .i64 0, .int .i64 0, .int .u64 0, .int .i64 0]) (ds := e.base.cells) rfl rfl rfl rfl ⟨(by kernel_rfl), (by kernel_rfl)⟩ rfl rfl (ev_one e.base) rfl ?_
      clear HM; intro w5_10 HM
      refine from_done rfl ?_
      replace HF := HF.sub (σ' := [(6, .pointer (some ⟨g6, 0, none⟩)), (20, .bool false), (12, .bool false), (5, .int .i64 0), (4, .pointer (some ⟨g4, 0, none⟩)), (2, .pointer (some ⟨g2, 0, none⟩)), (1, .slice A n c)]) (by kernel_rfl)
      refine wp_seq ?_
      refine from_start ?_
      refine from_pures HF 1 0 (j := 1) [(7, .int .i64 0)] (by kernel_rfl) rfl ?_; clear HF; intro a HF
      refine from_done rfl ?_
      refine wp_seq ?_
      refine wp_seq ?_
      refine from_start ?_
      refine from_pures HF 1 0 (j := 1) [(8, .int .i64 0)] (by kernel_rfl) rfl ?_; clear HF; intro a HF
      refine from_done rfl ?_
      refine wp_block ?_
      refine loop_nat (fun mS aS wS => ∃ (k : Nat), k ≤ 7 ∧ mS = 7 - k ∧ Fr aS 53 [] [(8, .int .i64 (k : Int)), (7, .int .i64 (((upTo e.kind k).length : Nat) : Int)), (6, .pointer (some ⟨g6, 0, none⟩)), (20, .bool false), (12, .bool false), (5, .int .i64 0), (4, .pointer (some ⟨g4, 0, none⟩)), (2, .pointer (some ⟨g2, 0, none⟩)), (1, .slice A n c)] ∧ Mem w wS [.blk g6 ((usedUp e vs k).cells) 64, .blk g4 #[.int .i64 0, .int .i64 0, .int .u8 0, .int .u8 0, .int .i64 0, .int .i64 0, .int .i64 0, .int .i64 0, .int .i64 0, .int .u64 0, .int .i64 0] 64, .blk g2 e.cells 64]) (m := 7 - 0) ⟨0, by omega, rfl, HF.sub (by kernel_rfl), HM.picks [0, 1, 2] (by decide) rfl⟩ ?_
      clear HF HM; rintro mS a w_ ⟨k, hk, rfl, HF, HM⟩
      refine wp_seq ?_
      refine wp_seq ?_
      refine from_start ?_
      refine from_pures HF 2 0 (j := 2) [(32, .bool (decide (((k : Int) : Int) < (7 : Int)))), (31, .int .i64 (k : Int))] (by kernel_rfl) rfl ?_; clear HF; intro a HF
      refine from_done rfl ?_
      replace HF := HF.sub (σ' := [(32, .bool (decide (((k : Int) : Int) < (7 : Int)))), (8, .int .i64 (k : Int)), (7, .int .i64 (((upTo e.kind k).length : Nat) : Int)), (6, .pointer (some ⟨g6, 0, none⟩)), (20, .bool false), (12, .bool false), (5, .int .i64 0), (4, .pointer (some ⟨g4, 0, none⟩)), (2, .pointer (some ⟨g2, 0, none⟩)), (1, .slice A n c)]) (by kernel_rfl)
      rcases Bool.eq_false_or_eq_true (decide (((k : Int) : Int) < (7 : Int))) with hb32 | hb32
      · have HF := HF.as (t := 32) (u := .bool true) rfl (by rw [hb32])
        have hk7 : k < 7 := by have := of_decide_eq_true hb32; omega
        refine cond_true HF rfl ?_
        refine wp_skip ?_
        refine wp_seq ?_
        refine wp_block ?_
        refine wp_seq ?_
        refine from_start ?_
        refine from_pures HF 1 0 (j := 1) [(35, .pointer (some ⟨g2, 3, none⟩))] (by kernel_rfl) rfl ?_; clear HF; intro a HF
        refine from_yl (S := fun wS => Mem w wS _) HF HM (i := 1) rfl rfl (d := 36) rfl (by decide) (v := .int .u8 (e.kind : Int)) (Yl.load1 rfl rfl (by kernel_rfl) (fun _ h => h.cell (i := 2) rfl rfl)) ?_; clear HF; intro a HF
        refine from_pures HF 1 2 (j := 3) [(37, .int .i64 (k : Int))] (by kernel_rfl) rfl ?_; clear HF; intro a HF
        refine from_op HF (i := 3) rfl rfl ?_
        refine e_call HF (vs := [.int .u8 (e.kind : Int), .int .i64 (k : Int)]) rfl (by kernel_rfl) (by kernel_rfl) rfl (by decide) (has06_is e.kind k hk7 he.kind _) ?_
        rintro _ w38 ⟨rfl, hbw⟩
        refine ⟨_, rfl, ?_⟩
        replace HM := HM.call hbw
        clear HF; intro a HF
        refine from_done rfl ?_
        replace HF := HF.sub (σ' := [(38, .bool ((usesL e.kind).contains k)), (32, .bool true), (8, .int .i64 (k : Int)), (7, .int .i64 (((upTo e.kind k).length : Nat) : Int)), (6, .pointer (some ⟨g6, 0, none⟩)), (20, .bool false), (12, .bool false), (5, .int .i64 0), (4, .pointer (some ⟨g4, 0, none⟩)), (2, .pointer (some ⟨g2, 0, none⟩)), (1, .slice A n c)]) (by kernel_rfl)
        rcases Bool.eq_false_or_eq_true ((usesL e.kind).contains k) with hb38 | hb38
        · have HF := HF.as (t := 38) (u := .bool true) rfl (by rw [hb38])
          have hroom : (upTo e.kind k).length < n := by have := upTo_room hb38 hk7; omega
          obtain ⟨x, hx⟩ : ∃ x, vs[(upTo e.kind k).length]? = some x := ⟨_, List.getElem?_eq_getElem (by omega)⟩
          refine cond_true HF rfl ?_
          refine wp_seq ?_
          refine any_start (by kernel_rfl) (fun wS => Mem w wS [.blk g6 ((usedUp e vs k).cells) 64, .blk g4 #[.int .i64 0, .int .i64 0, .int .u8 0, .int .u8 0, .int .i64 0, .int .i64 0, .int .i64 0, .int .i64 0, .int .i64 0, .int .u64 0, .int .i64 0] 64, .blk g2 e.cells 64]) [7] ?_
          replace HM := HM.drew
          have HS := HM.picks (fs' := [.blk g6 ((usedUp e vs k).cells) 64, .blk g4 #[.int .i64 0, .int .i64 0, .int .u8 0, .int .u8 0, .int .i64 0, .int .i64 0, .int .i64 0, .int .i64 0, .int .i64 0, .int .u64 0, .int .i64 0] 64, .blk g2 e.cells 64]) [0, 1, 2] (by decide) rfl
          refine any_pures HF (fun _ => HS) (fun _ _ d _ _ h => by cases d <;> exact h) [1, 2, 3] #[false, true, true, true, false, false, false, false] [(42, .int .i64 (((upTo e.kind k).length : Nat) : Int)), (41, .slice A n c), (40, .int .i64 (k : Int))] (by kernel_rfl) ?_; clear HF; intro a HF
          refine any_yl HF HS (i := 0) rfl rfl (d := 39) rfl (by decide) (by kernel_rfl) (fun _ _ _ h => h) (v := .agg ((usedUp e vs k).cells)) (Yl.loadS rfl rfl ⟨(by kernel_rfl), (by kernel_rfl)⟩ rfl (fun _ h => range_of_block (h.blk (i := 0) rfl))) ?_; clear HF; intro a HF
          obtain ⟨gA, oA, rfl, _⟩ := hr.some_at (Nat.lt_of_le_of_lt (Nat.zero_le _) (hroom)) (by decide)
          refine any_yl HF HS (i := 4) rfl rfl (d := 43) rfl (by decide) (by kernel_rfl) (fun _ _ _ h => h) (v := .pointer (some ⟨gA, oA + ((upTo e.kind k).length) * 1, none⟩)) ((Yl.indexAddr (ad := ⟨gA, oA, none⟩) (y := (upTo e.kind k).length) (sz := 1) rfl rfl rfl (hroom) (by kernel_rfl)).as (by rw [Addr.add_mid])) ?_; clear HF; intro a HF
          refine any_yl HF HS (i := 5) rfl rfl (d := 44) rfl (by decide) (by kernel_rfl) (fun _ _ _ h => h) (v := .int .u64 (x : Int)) (Yl.load1 rfl rfl (by kernel_rfl) (fun _ h => (h.old hr).oneAt1 (map_at (hx)))) ?_; clear HF; intro a HF
          refine any_all [6] (by kernel_rfl) rfl ?_
          refine all_cons ?_ all_nil
          refine any_op HF (i := 6) rfl rfl ?_
          refine e_call HF (vs := [.agg ((usedUp e vs k).cells), .int .i64 (k : Int), .int .u64 (x : Int)]) rfl (by kernel_rfl) (by kernel_rfl) rfl (by decide) (with06_any (usedUp e vs k) k x hk7 (hvs x (List.mem_of_getElem? hx)) _) ?_
          rintro _ w45 ⟨rfl, hbw⟩
          refine ⟨_, rfl, ?_⟩
          replace HM := HM.call hbw
          clear HF; intro a HF
          refine keepS (HM.picks [0, 1, 2] (by decide) rfl) (fun HS => ?_)
          refine any_all [7] (by kernel_rfl) rfl ?_
          refine all_cons ?_ all_nil
          refine any_op HF (i := 7) rfl rfl ?_
          refine e_storeAll HF HM (i := 0) (cs := (usedUp e vs k).cells) (ds := ((usedUp e vs k).rput k x).cells) rfl rfl rfl rfl ⟨(by kernel_rfl), (by kernel_rfl)⟩ rfl rfl (ev_one ((usedUp e vs k).rput k x)) rfl ?_
          clear HM; intro w11_7 HM
          refine noS (by kernel_rfl) ?_
          refine any_done (by kernel_rfl) ?_
          replace HF := HF.sub (σ' := [(38, .bool true), (32, .bool true), (8, .int .i64 (k : Int)), (7, .int .i64 (((upTo e.kind k).length : Nat) : Int)), (6, .pointer (some ⟨g6, 0, none⟩)), (20, .bool false), (12, .bool false), (5, .int .i64 0), (4, .pointer (some ⟨g4, 0, none⟩)), (2, .pointer (some ⟨g2, 0, none⟩)), (1, .slice (some ⟨gA, oA, none⟩) n c)]) (by kernel_rfl)
          rw [usedUp_yes hb38 hx] at HM
          refine from_start ?_
          refine from_pures HF 2 0 (j := 2) [(47, .int .i64 (IntKind.i64.wrap ((((upTo e.kind k).length : Nat) : Int) + 1))), (46, .int .i64 (((upTo e.kind k).length : Nat) : Int))] (by kernel_rfl) rfl ?_; clear HF; intro a HF
          replace HF := HF.as (t := 47) (u := .int .i64 (((upTo e.kind (k + 1)).length : Nat) : Int)) rfl (by rw [IntWalk.i64_in _ (by have := upTo_len e.kind k (by omega); omega), upTo_grow hb38]; simp)
          refine from_pures HF 1 2 (j := 3) [(7, .int .i64 (((upTo e.kind (k + 1)).length : Nat) : Int))] (by kernel_rfl) rfl ?_; clear HF; intro a HF
          refine from_done rfl ?_
          replace HF := HF.sub (σ' := [(7, .int .i64 (((upTo e.kind (k + 1)).length : Nat) : Int)), (38, .bool true), (32, .bool true), (8, .int .i64 (k : Int)), (6, .pointer (some ⟨g6, 0, none⟩)), (20, .bool false), (12, .bool false), (5, .int .i64 0), (4, .pointer (some ⟨g4, 0, none⟩)), (2, .pointer (some ⟨g2, 0, none⟩)), (1, .slice (some ⟨gA, oA, none⟩) n c)]) (by kernel_rfl)
          refine from_start ?_
          refine from_pures HF 2 0 (j := 2) [(34, .int .i64 (IntKind.i64.wrap ((k : Int) + 1))), (33, .int .i64 (k : Int))] (by kernel_rfl) rfl ?_; clear HF; intro a HF
          replace HF := HF.as (t := 34) (u := .int .i64 ((k + 1 : Nat) : Int)) rfl (by rw [IntWalk.i64_in _ (by omega)]; simp)
          refine from_pures HF 1 2 (j := 3) [(8, .int .i64 ((k + 1 : Nat) : Int))] (by kernel_rfl) rfl ?_; clear HF; intro a HF
          refine from_done rfl ?_
          replace HF := HF.sub (σ' := [(8, .int .i64 ((k + 1 : Nat) : Int)), (7, .int .i64 (((upTo e.kind (k + 1)).length : Nat) : Int)), (38, .bool true), (32, .bool true), (6, .pointer (some ⟨g6, 0, none⟩)), (20, .bool false), (12, .bool false), (5, .int .i64 0), (4, .pointer (some ⟨g4, 0, none⟩)), (2, .pointer (some ⟨g2, 0, none⟩)), (1, .slice (some ⟨gA, oA, none⟩) n c)]) (by kernel_rfl)
          exact ⟨_, (by omega), k + 1, by omega, rfl, HF.sub (by kernel_rfl), HM.picks [0, 1, 2] (by decide) rfl⟩
        · have HF := HF.as (t := 38) (u := .bool false) rfl (by rw [hb38])
          rw [← usedUp_no hb38] at HM
          have HF := HF.as (t := 7) (u := .int .i64 (((upTo e.kind (k + 1)).length : Nat) : Int)) rfl (by rw [upTo_no hb38])
          refine cond_false HF rfl ?_
          refine wp_skip ?_
          refine from_start ?_
          refine from_pures HF 2 0 (j := 2) [(34, .int .i64 (IntKind.i64.wrap ((k : Int) + 1))), (33, .int .i64 (k : Int))] (by kernel_rfl) rfl ?_; clear HF; intro a HF
          replace HF := HF.as (t := 34) (u := .int .i64 ((k + 1 : Nat) : Int)) rfl (by rw [IntWalk.i64_in _ (by omega)]; simp)
          refine from_pures HF 1 2 (j := 3) [(8, .int .i64 ((k + 1 : Nat) : Int))] (by kernel_rfl) rfl ?_; clear HF; intro a HF
          refine from_done rfl ?_
          replace HF := HF.sub (σ' := [(8, .int .i64 ((k + 1 : Nat) : Int)), (7, .int .i64 (((upTo e.kind (k + 1)).length : Nat) : Int)), (38, .bool false), (32, .bool true), (6, .pointer (some ⟨g6, 0, none⟩)), (20, .bool false), (12, .bool false), (5, .int .i64 0), (4, .pointer (some ⟨g4, 0, none⟩)), (2, .pointer (some ⟨g2, 0, none⟩)), (1, .slice A n c)]) (by kernel_rfl)
          exact ⟨_, (by omega), k + 1, by omega, rfl, HF.sub (by kernel_rfl), HM.picks [0, 1, 2] (by decide) rfl⟩
      · have HF := HF.as (t := 32) (u := .bool false) rfl (by rw [hb32])
        obtain rfl : k = 7 := by have := of_decide_eq_false hb32; omega
        refine cond_false HF rfl ?_
        refine wp_exit ?_
        refine wp_seq ?_
        refine wp_seq ?_
        refine from_start ?_
        refine from_yl (S := fun wS => Mem w wS _) HF HM (i := 0) rfl rfl (d := 48) rfl (by decide) (v := .agg ((usedUp e vs 7).cells)) (Yl.loadS rfl rfl ⟨(by kernel_rfl), (by kernel_rfl)⟩ rfl (fun _ h => range_of_block (h.blk (i := 0) rfl))) ?_; clear HF; intro a HF
        refine from_op HF (i := 1) rfl rfl ?_
        refine e_call HF (vs := [.agg ((usedUp e vs 7).cells)]) rfl (by kernel_rfl) (by kernel_rfl) rfl (by decide) (check06_any (usedUp e vs 7) (usedUp_ok he hvs 7) _) ?_
        rintro _ w49 ⟨rfl, hbw⟩
        refine ⟨_, rfl, ?_⟩
        replace HM := HM.call hbw
        clear HF; intro a HF
        refine from_pures HF 1 2 (j := 3) [(50, .bool ((((usedUp e vs 7).check : Int) : Int) != (0 : Int)))] (by kernel_rfl) rfl ?_; clear HF; intro a HF
        refine from_done rfl ?_
        replace HF := HF.sub (σ' := [(50, .bool ((((usedUp e vs 7).check : Int) : Int) != (0 : Int))), (32, .bool false), (8, .int .i64 (7 : Int)), (7, .int .i64 (((upTo e.kind 7).length : Nat) : Int)), (6, .pointer (some ⟨g6, 0, none⟩)), (20, .bool false), (12, .bool false), (5, .int .i64 0), (4, .pointer (some ⟨g4, 0, none⟩)), (2, .pointer (some ⟨g2, 0, none⟩)), (1, .slice A n c)]) (by kernel_rfl)
        rcases Bool.eq_false_or_eq_true ((((usedUp e vs 7).check : Int) : Int) != (0 : Int)) with hb50 | hb50
        · have HF := HF.as (t := 50) (u := .bool true) rfl (by rw [hb50])
          have hcb : (e.rmade vs).check ≠ 0 := by rw [bne_iff_ne, usedUp_seven] at hb50; omega
          refine cond_true HF rfl ?_
          refine wp_seq ?_
          refine from_start ?_
          refine from_yl (S := fun wS => Mem w wS _) HF HM (i := 0) rfl rfl (d := 51) rfl (by decide) (v := .agg Ev.zero.cells) ((Yl.build (vs := []) rfl (by kernel_rfl) (by kernel_rfl))) ?_; clear HF; intro a HF
          refine from_op HF (i := 1) rfl rfl ?_
          refine e_storeAll HF HM (i := 1) (cs := #[.int .i64 0, .int .i64 0, .int .u8 0, .int .u8 0, .int .i64 0, .int .i64 0, .int .i64 0, .int .i64 0, .int .i64 0, .int .u64 0, .int .i64 0]) (ds := Ev.zero.cells) rfl rfl rfl rfl ⟨(by kernel_rfl), (by kernel_rfl)⟩ rfl rfl (ev_one Ev.zero) rfl ?_
          clear HM; intro w14_1 HM
          refine from_pures HF 1 2 (j := 3) [(5, .int .i64 61)] (by kernel_rfl) rfl ?_; clear HF; intro a HF
          refine from_done rfl ?_
          replace HF := HF.sub (σ' := [(5, .int .i64 61), (50, .bool true), (32, .bool false), (8, .int .i64 (7 : Int)), (7, .int .i64 (((upTo e.kind 7).length : Nat) : Int)), (6, .pointer (some ⟨g6, 0, none⟩)), (20, .bool false), (12, .bool false), (4, .pointer (some ⟨g4, 0, none⟩)), (2, .pointer (some ⟨g2, 0, none⟩)), (1, .slice A n c)]) (by kernel_rfl)
          refine wp_ret ?_
          exact ret2 rfl HF (.cellS (i := 1) HF HM rfl rfl ⟨(by kernel_rfl), (by kernel_rfl)⟩ rfl) (.tmp HF rfl) (⟨by rw [Ev.rEv, Ev.rErr, if_neg hgood, if_neg hlg2, if_pos hcb]; rfl, HM.below⟩)
        · have HF := HF.as (t := 50) (u := .bool false) rfl (by rw [hb50])
          have hcg : (e.rmade vs).check = 0 := by rw [bne_eq_false_iff_eq, usedUp_seven] at hb50; omega
          have hcg2 : ¬ (e.rmade vs).check ≠ 0 := by omega
          refine cond_false HF rfl ?_
          refine wp_skip ?_
          refine wp_seq ?_
          refine from_start ?_
          refine from_yl (S := fun wS => Mem w wS _) HF HM (i := 0) rfl rfl (d := 52) rfl (by decide) (v := .agg ((usedUp e vs 7).cells)) (Yl.loadS rfl rfl ⟨(by kernel_rfl), (by kernel_rfl)⟩ rfl (fun _ h => range_of_block (h.blk (i := 0) rfl))) ?_; clear HF; intro a HF
          refine from_op HF (i := 1) rfl rfl ?_
          refine e_storeAll HF HM (i := 1) (cs := #[.int .i64 0, .int .i64 0, .int .u8 0, .int .u8 0, .int .i64 0, .int .i64 0, .int .i64 0, .int .i64 0, .int .i64 0, .int .u64 0, .int .i64 0]) (ds := (usedUp e vs 7).cells) rfl rfl rfl rfl ⟨(by kernel_rfl), (by kernel_rfl)⟩ rfl rfl (ev_one (usedUp e vs 7)) rfl ?_
          clear HM; intro w15_1 HM
          refine from_pures HF 1 2 (j := 3) [(5, .int .i64 0)] (by kernel_rfl) rfl ?_; clear HF; intro a HF
          refine from_done rfl ?_
          replace HF := HF.sub (σ' := [(5, .int .i64 0), (50, .bool false), (32, .bool false), (8, .int .i64 (7 : Int)), (7, .int .i64 (((upTo e.kind 7).length : Nat) : Int)), (6, .pointer (some ⟨g6, 0, none⟩)), (20, .bool false), (12, .bool false), (4, .pointer (some ⟨g4, 0, none⟩)), (2, .pointer (some ⟨g2, 0, none⟩)), (1, .slice A n c)]) (by kernel_rfl)
          refine wp_ret ?_
          exact ret2 rfl HF (.cellS (i := 1) HF HM rfl rfl ⟨(by kernel_rfl), (by kernel_rfl)⟩ rfl) (.tmp HF rfl) (⟨by rw [Ev.rEv, Ev.rErr, if_neg hgood, if_neg hlg2, if_neg hcg2, usedUp_seven]; rfl, HM.below⟩)
theorem rwith_any (e : Ev) (he : e.Ok) (A : Option Addr) (n c : Nat) (vs : List Nat) (w : World) (hr : Rd w w.heap.size 1 A n (vs.map U64)) (hvs : ∀ x ∈ vs, x < 18446744073709551616) :
    Calls Tryd.prog 63 #[.agg e.cells, .slice A n c] w (WithPost w (e.withEv vs) (e.withErr vs)) := by
  rw [← (rErr_eq e vs hvs).1, ← (rErr_eq e vs hvs).2]
  exact rwith_walk e he A n c vs w hr hvs (by simpa using hr.len)
end Go.Proofs.YtpekelggcmgnnaaDoor

/- The reference's records: what the loops keep. No walk. -/
namespace Go.Proofs.YtpekelggcmgnnaaDoor
open Go.RowKit

theorem ei_rev : EI Tryd.prog 70 64 (.agg Ev.zero.cells) 11 80 := ⟨by kernel_rfl, by kernel_rfl, rfl, by omega⟩

/-- The record as far as k values are written. -/
def putUp (b : Bs) (e : Ev) (k : Nat) : List Nat := [e.kind] ++ vbytes (e.seq - b.seq).toNat ++ vbytes (e.time - b.time).toNat ++ (e.vals.take k).flatMap vbytes
theorem putUp_zero (b : Bs) (e : Ev) : putUp b e 0 = [e.kind] ++ vbytes (e.seq - b.seq).toNat ++ vbytes (e.time - b.time).toNat := by simp [putUp]
theorem putUp_succ {b : Bs} {e : Ev} {k x : Nat} (h : e.vals[k]? = some x) : putUp b e (k + 1) = putUp b e k ++ vbytes x := by
  unfold putUp
  rw [List.take_add_one, h]
  simp
theorem putUp_all (b : Bs) (e : Ev) : putUp b e e.vals.length = recBytes b e := by
  unfold putUp recBytes recNums
  rw [List.take_length]
  simp
theorem putUp_len (b : Bs) (e : Ev) (k : Nat) : (putUp b e k).length ≤ 61 := by
  unfold putUp
  simp only [List.length_append, List.length_cons, List.length_nil]
  have h1 := vbytes_length (e.seq - b.seq).toNat
  have h2 := vbytes_length (e.time - b.time).toNat
  have h3 : ∀ l : List Nat, (l.flatMap vbytes).length ≤ l.length * 10 := by
    intro l
    induction l with
    | nil => simp
    | cons x r ih => rw [List.flatMap_cons, List.length_append, List.length_cons]; have := vbytes_length x; omega
  have h4 := h3 (e.vals.take k)
  have h5 := vals_len e
  rw [List.length_take] at h4
  omega
theorem takeR_kind {b : Bs} {cpu kd : Nat} {r : List Nat} (hb : b.right = true) (hu : (usesL kd).length ≠ 0) : takeR b cpu (kd :: r) = takeEv b cpu kd (readN (2 + (usesL kd).length) r) := by
  unfold takeR
  rw [if_neg (by simp [hb]), if_neg (by simp), if_neg (by simpa using hu)]
  rfl
theorem takeR_kindless {b : Bs} {cpu kd : Nat} {r : List Nat} (hb : b.right = true) (hu : (usesL kd).length = 0) : takeR b cpu (kd :: r) = (Ev.zero, 0, 60) := by
  unfold takeR
  rw [if_neg (by simp [hb]), if_neg (by simp), if_pos (by simpa using hu)]
theorem takeR_unread {b : Bs} {cpu kd u : Nat} {r xs : List Nat} {q : Nat × Nat × Nat} (hb : b.right = true) (hu : (usesL kd).length ≠ 0) (hj : readN (2 + (usesL kd).length) r = joinR xs u (readN (2 + (usesL kd).length - xs.length) (r.drop u))) (hlt : xs.length < 2 + (usesL kd).length) (hq : vread (r.drop u) = q) (hq2 : q.2.2 ≠ 0) : takeR b cpu (kd :: r) = (Ev.zero, 0, q.2.2) := by
  rw [takeR_kind hb hu, hj, show 2 + (usesL kd).length - xs.length = (2 + (usesL kd).length - xs.length - 1) + 1 by omega, joinR_bad (by rw [hq]; exact hq2)]
  unfold takeEv
  rw [if_pos (by simpa [hq] using hq2), hq]
theorem readN_on {kd u : Nat} {r xs : List Nat} {q : Nat × Nat × Nat} (hj : readN (2 + (usesL kd).length) r = joinR xs u (readN (2 + (usesL kd).length - xs.length) (r.drop u))) (hlt : xs.length < 2 + (usesL kd).length) (hq : vread (r.drop u) = q) (hq2 : q.2.2 = 0) :
    readN (2 + (usesL kd).length) r = joinR (xs ++ [q.1]) (u + q.2.1) (readN (2 + (usesL kd).length - (xs ++ [q.1]).length) (r.drop (u + q.2.1))) := by
  rw [hj, show 2 + (usesL kd).length - xs.length = (2 + (usesL kd).length - xs.length - 1) + 1 by omega, joinR_good (by rw [hq]; exact hq2), hq, List.drop_drop]
  congr 2
  simp; omega
theorem takeR_read {b : Bs} {cpu kd u x0 x1 : Nat} {r vs : List Nat} (hb : b.right = true) (hu : (usesL kd).length ≠ 0) (hj : readN (2 + (usesL kd).length) r = joinR (x0 :: x1 :: vs) u (readN (2 + (usesL kd).length - (x0 :: x1 :: vs).length) (r.drop u))) (hl : (x0 :: x1 :: vs).length = 2 + (usesL kd).length) :
    takeR b cpu (kd :: r) = takeEv b cpu kd (x0 :: x1 :: vs, u, 0) := by
  rw [takeR_kind hb hu, hj, hl, Nat.sub_self]
  unfold joinR readN
  simp
theorem takeEv_far {b : Bs} {cpu kd u x0 x1 : Nat} {vs : List Nat} (hb : 1 ≤ b.seq ∧ 0 ≤ b.time) (h : 281474976710656 < x0 ∨ 281474976710656 < x1) : takeEv b cpu kd (x0 :: x1 :: vs, u, 0) = (Ev.zero, 0, 61) := by
  unfold takeEv
  rw [if_neg (by simp), if_pos (by simp; omega)]
theorem takeEv_bad {b : Bs} {cpu kd u x0 x1 : Nat} {vs : List Nat} (h : (b.ev cpu kd x0 x1).withErr vs ≠ 0) : takeEv b cpu kd (x0 :: x1 :: vs, u, 0) = (Ev.zero, 0, 61) := by
  unfold takeEv
  rw [if_neg (by simp)]
  split
  · rfl
  · rw [if_pos (by simpa using h)]
theorem takeEv_good {b : Bs} {cpu kd u x0 x1 : Nat} {vs : List Nat} (h : (b.ev cpu kd x0 x1).withErr vs = 0) : takeEv b cpu kd (x0 :: x1 :: vs, u, 0) = ((b.ev cpu kd x0 x1).withEv vs, 1 + u, 0) := by
  have hm : ((b.ev cpu kd x0 x1).made vs).check = 0 := by
    unfold Ev.withErr at h
    split at h
    · cases h
    · split at h
      · cases h
      · split at h
        · cases h
        · rename_i h3; exact Decidable.not_not.1 h3
  have hv := ok_vals hm
  have hk := made_kind (b.ev cpu kd x0 x1) vs
  rw [hk.2.1, hk.2.2.1] at hv
  obtain ⟨_, _, _, h1, h2, h3, h4⟩ := hv
  have h5 : b.seq + (x0 : Int) ≤ 281474976710656 := h2
  have h6 : b.time + (x1 : Int) ≤ 281474976710656 := h4
  unfold takeEv Ev.withEv
  rw [if_neg (by simp), if_neg (by simp; omega), if_neg (by simpa using h), if_pos h]
  rfl
theorem bev_ok {b : Bs} {cpu kd x0 x1 : Nat} (hb : 1 ≤ b.seq ∧ b.seq ≤ 281474976710656 ∧ 0 ≤ b.time ∧ b.time ≤ 281474976710656) (hc : cpu < 256) (hk : kd < 256) (h : ¬ (281474976710656 < x0 ∨ 281474976710656 < x1)) : (b.ev cpu kd x0 x1).Ok := by
  have z : I64 0 := ⟨by decide, by decide⟩
  have zm : (0 : Nat) < 18446744073709551616 := by decide
  exact { seq := ⟨by show _ ≤ b.seq + (x0 : Int); omega, by show b.seq + (x0 : Int) ≤ _; omega⟩, time := ⟨by show _ ≤ b.time + (x1 : Int); omega, by show b.time + (x1 : Int) ≤ _; omega⟩, cpu := hc, kind := hk, task := z, group := z, to := z, weight := z, ticks := z, mask := zm, got := z }
theorem right_bnd {b : Bs} (h : b.right = true) : 1 ≤ b.seq ∧ b.seq ≤ 281474976710656 ∧ 0 ≤ b.time ∧ b.time ≤ 281474976710656 := by simpa [Bs.right] using h
theorem uses_kind {kd : Nat} (h : 1 ≤ kd ∧ kd ≤ 10) : (usesL kd).length ≠ 0 := by
  obtain rfl | rfl | rfl | rfl | rfl | rfl | rfl | rfl | rfl | rfl : kd = 1 ∨ kd = 2 ∨ kd = 3 ∨ kd = 4 ∨ kd = 5 ∨ kd = 6 ∨ kd = 7 ∨ kd = 8 ∨ kd = 9 ∨ kd = 10 := by omega
  all_goals decide
theorem uses_kindless {kd : Nat} (h : ¬ (1 ≤ kd ∧ kd ≤ 10)) : (usesL kd).length = 0 := by
  unfold usesL
  split <;> first | omega | rfl
theorem rowGo_next {l : List Ev} {k : Nat} {e : Ev} (hk : l[k]? = some e) : rowGo (prevOf l k) k (l.drop k) = if e.check ≠ 0 then ((k : Int), e.check) else if (prevOf l k).all (fun q => e.after q) = false then ((k : Int), 71) else rowGo (prevOf l (k + 1)) (k + 1) (l.drop (k + 1)) := by
  obtain ⟨hl, he⟩ := List.getElem?_eq_some_iff.1 hk
  rw [List.drop_eq_getElem_cons hl, he, show prevOf l (k + 1) = some e from hk]
  rfl
end Go.Proofs.YtpekelggcmgnnaaDoor

/- The reference's rows: what Write's and Read's loops keep. No walk. -/
namespace Go.Proofs.YtpekelggcmgnnaaDoor
open Go.RowKit

theorem bytesIs_none {w w' : World} {b : Bs} {l : List Ev} {er : Nat} (h : writeErr b l = er) (he : er ≠ 0) (hb : Below w.heap.size w w') : BytesIs w (writeErr b l) (writeOut b l) (.returned (.tuple #[.slice none 0 0, .int .i64 (er : Int)])) w' := by
  have ho : writeOut b l = [] := by unfold writeOut; rw [if_neg (by omega)]
  rw [ho, h]
  exact ⟨⟨none, 0, rfl, World.ownsRow_nil _ _ _ _, Nat.le_refl _⟩, hb⟩
theorem writeErr_row {b : Bs} {l : List Ev} (h : (rowR l).2 ≠ 0) : writeErr b l = (rowR l).2 := by unfold writeErr; rw [if_pos h]
theorem writeErr_base {b : Bs} {l : List Ev} (h : (rowR l).2 = 0) (hb : ¬ b.right = true) : writeErr b l = 70 := by unfold writeErr; rw [if_neg (by omega), if_neg (by simp [hb])]
theorem recsSnoc7 : ∀ (l : List Ev) (b : Bs) (e : Ev), recs b (l ++ [e]) = recs b l ++ recBytes (match l.getLast? with | some q => q.at | none => b) e
  | [], b, e => by simp [recs]
  | x :: l, b, e => by
    rw [List.cons_append, recs, recs, recsSnoc7 l x.at e, List.append_assoc]
    congr 2
    cases l with
    | nil => rfl
    | cons y r => simp only [List.getLast?_cons, Option.getD_some]
def writeUp (b : Bs) (l : List Ev) (k : Nat) : List Nat := recs b (l.take k)
theorem recsLen7 : ∀ (l : List Ev) (b : Bs), (recs b l).length ≤ 61 * l.length
  | [], _ => by simp [recs]
  | e :: l, b => by
    rw [recs, List.length_append, List.length_cons]
    have h1 := recsLen7 l e.at
    have h2 := rec_len b e
    omega
theorem writeUp_len (b : Bs) (l : List Ev) (k : Nat) : (writeUp b l k).length ≤ 61 * k := by
  have h1 := recsLen7 (l.take k) b
  have h2 : (l.take k).length ≤ k := by rw [List.length_take]; omega
  unfold writeUp
  omega
theorem putOut_le (b : Bs) (e : Ev) : (putOut b e).length ≤ 61 := by
  unfold putOut
  split
  · exact rec_len b e
  · simp
/-- What is known when k records are written. -/
structure WriteAt (b : Bs) (l : List Ev) (k : Nat) (bk : Bs) : Prop where
  base : bk = baseAt b l k
  head : 0 < k → l.head?.all b.behind = true
theorem WriteAt.start (b : Bs) (l : List Ev) : WriteAt b l 0 b := ⟨rfl, fun h => by omega⟩
section
variable {b bk : Bs} {l : List Ev} {k : Nat} {e : Ev}
theorem WriteAt.bad (h : WriteAt b l k bk) (hr : (rowR l).2 = 0) (hb : b.right = true) (hk : l[k]? = some e) (hp : putErr bk e ≠ 0) : k = 0 := by
  rcases Nat.eq_zero_or_pos k with h0 | h0
  · exact h0
  · obtain ⟨hl, he⟩ := List.getElem?_eq_some_iff.1 hk
    have := put_good hr hb (h.head h0) k hl
    rw [he, ← h.base] at this
    exact absurd this hp
theorem WriteAt.fail (h : WriteAt b l k bk) (hr : (rowR l).2 = 0) (hb : b.right = true) (hk : l[k]? = some e) (h0 : k = 0) (hp : putErr bk e ≠ 0) : writeErr b l = putErr bk e := by
  subst h0
  have hbk : bk = b := h.base
  subst hbk
  obtain ⟨g1, _, _⟩ := rowGo_good l none 0 hr
  have hc := g1 e (List.mem_of_getElem? hk)
  have hbh : ¬ bk.behind e = true := by
    intro h1
    unfold putErr at hp
    rw [if_neg (by simp [hc]), if_pos ⟨hb, h1⟩] at hp
    exact hp rfl
  have hh : l.head? = some e := by rw [List.head?_eq_getElem?]; exact hk
  unfold writeErr putErr
  rw [if_neg (by omega), if_neg (by simp [hh, hbh]), if_neg (by simp [hc]), if_neg (by simp [hbh])]
theorem WriteAt.up (h : WriteAt b l k bk) (hk : l[k]? = some e) (hp : putErr bk e = 0) : writeUp b l (k + 1) = writeUp b l k ++ putOut bk e := by
  obtain ⟨hl, he⟩ := List.getElem?_eq_some_iff.1 hk
  unfold writeUp putOut
  rw [List.take_add_one, hk, if_pos hp, h.base]
  show recs b (l.take k ++ [e]) = _
  rw [recsSnoc7]
  congr 2
  cases k with
  | zero => simp [baseAt]
  | succ j =>
    rw [show (l.take (j + 1)).getLast? = l[j]? from by rw [List.getLast?_take]; simp [List.getElem?_eq_getElem (show j < l.length by omega)]]
    rfl
theorem WriteAt.next (h : WriteAt b l k bk) (hk : l[k]? = some e) (hp : putErr bk e = 0) : WriteAt b l (k + 1) e.at := by
  refine ⟨by show e.at = (match l[k]? with | some e => e.at | none => b); rw [hk], fun _ => ?_⟩
  rcases Nat.eq_zero_or_pos k with h0 | h0
  · subst h0
    have hbk : bk = b := h.base
    subst hbk
    have hh : l.head? = some e := by rw [List.head?_eq_getElem?]; exact hk
    rw [hh]
    unfold putErr at hp
    split at hp
    · omega
    · split at hp
      · rename_i h1; exact h1.2
      · omega
  · exact h.head h0
theorem WriteAt.done {w w' : World} {n c : Nat} {A : Option Addr} (h : WriteAt b l n bk) (hr : (rowR l).2 = 0) (hb : b.right = true) (hln : l.length = n) (ho : w'.ownsRow w.heap.size 5 1 (.slice A (writeUp b l n).length c) (writeUp b l n).length ((writeUp b l n).map B8)) (hc : (writeUp b l n).length ≤ c) (hw : Below w.heap.size w w') :
    BytesIs w (writeErr b l) (writeOut b l) (.returned (.tuple #[.slice A (writeUp b l n).length c, .int .i64 0])) w' := by
  have hh : l.head?.all b.behind = true := by
    rcases Nat.eq_zero_or_pos n with h0 | h0
    · subst h0; rw [List.length_eq_zero_iff.1 hln]; rfl
    · exact h.head h0
  have he : writeErr b l = 0 := by unfold writeErr; rw [if_neg (by omega), if_pos ⟨hb, hh⟩]
  have hout : writeOut b l = writeUp b l n := by unfold writeOut writeUp; rw [if_pos he, ← hln, List.take_length]
  rw [he, hout]
  exact ⟨⟨A, c, rfl, ho, hc⟩, hw⟩
end
/-- Events, how many bytes, the error's number; the events' row is the call's own. -/
def EvsIs (T : TypeId) (w : World) (q : List Ev × Nat × Nat) (r : Ending) (w' : World) : Prop :=
  (∃ A c, r = .returned (.tuple #[.slice A q.1.length c, .int .i64 (q.2.1 : Int), .int .i64 (q.2.2 : Int)]) ∧ w'.ownsRow w.heap.size T 11 (.slice A q.1.length c) q.1.length (q.1.flatMap evL) ∧ q.1.length ≤ c) ∧ Below w.heap.size w w'
theorem evsIs_none {T : TypeId} {w w' : World} {q : List Ev × Nat × Nat} {er : Nat} (h : q = ([], 0, er)) (hb : Below w.heap.size w w') : EvsIs T w q (.returned (.tuple #[.slice none 0 0, .int .i64 0, .int .i64 (er : Int)])) w' := by
  subst h
  exact ⟨⟨none, 0, rfl, World.ownsRow_nil _ _ _ _, Nat.le_refl _⟩, hb⟩
theorem evsIs_row {T : TypeId} {w w' : World} {q : List Ev × Nat × Nat} {es : List Ev} {u c : Nat} {A : Option Addr} (h : q = (es, u, 0)) (ho : w'.ownsRow w.heap.size T 11 (.slice A es.length c) es.length (es.flatMap evL)) (hc : es.length ≤ c) (hb : Below w.heap.size w w') : EvsIs T w q (.returned (.tuple #[.slice A es.length c, .int .i64 (u : Int), .int .i64 0])) w' := by
  subst h
  exact ⟨⟨A, c, rfl, ho, hc⟩, hb⟩
/-- What is known when some events are read. -/
structure ReadJn (b : Bs) (cpu : Nat) (m : Nat) (l : List Nat) (es : List Ev) (u : Nat) (bk : Bs) : Prop where
  fits : u ≤ l.length
  most : es.length ≤ u
  few : es.length ≤ m
  last : ∀ q, es.getLast? = some q → bk = q.at
  said : readGo cpu m b none l = joinE es u (readGo cpu (m - es.length) bk es.getLast? (l.drop u))
section
variable {b bk : Bs} {cpu m u L er : Nat} {l : List Nat} {es : List Ev} {e : Ev}
theorem ReadJn.start (b : Bs) (cpu m : Nat) (l : List Nat) : ReadJn b cpu m l [] 0 b := ⟨Nat.zero_le _, Nat.le_refl _, Nat.zero_le _, fun q h => by simp at h, (joinE_nil cpu m b none l).symm⟩
theorem ReadJn.bad (h : ReadJn b cpu m l es u bk) (hm : es.length < m) (hq : takeR bk cpu (l.drop u) = (e, L, er)) (he : er ≠ 0) : readGo cpu m b none l = ([], 0, er) := by
  rw [h.said, show m - es.length = (m - es.length - 1) + 1 by omega]
  exact joinE_bad hq he es u
theorem ReadJn.same (h : ReadJn b cpu m l es u bk) (hm : es.length < m) (hq : takeR bk cpu (l.drop u) = (e, L, 0)) (he : es.getLast?.any (fun q => decide (e.seq = q.seq)) = true) : readGo cpu m b none l = ([], 0, 71) := by
  rw [h.said, show m - es.length = (m - es.length - 1) + 1 by omega]
  exact joinE_same hq he es u
theorem ReadJn.next (h : ReadJn b cpu m l es u bk) (hm : es.length < m) (hq : takeR bk cpu (l.drop u) = (e, L, 0)) (he : es.getLast?.any (fun q => decide (e.seq = q.seq)) = false) : ReadJn b cpu m l (es ++ [e]) (u + L) e.at := by
  have h1 := takeR_len bk cpu (l.drop u)
  rw [hq, List.length_drop] at h1
  simp only at h1
  have h2 := h1.2 trivial
  have h3 := h.fits
  have h4 := h.most
  refine ⟨by omega, by simp; omega, by simp; omega, fun q hq => ?_, ?_⟩
  · simp at hq; rw [hq]
  · rw [h.said, show m - es.length = (m - es.length - 1) + 1 by omega, joinE_good hq he es u, List.drop_drop]
    simp [Nat.sub_sub]
theorem ReadJn.done (h : ReadJn b cpu m l es u bk) (hm : m ≤ es.length) : readGo cpu m b none l = (es, u, 0) := by
  rw [h.said, show m - es.length = 0 by omega]
  simp [readGo, joinE]
theorem readR_go {n : Int} (h : ¬ n < 0) (hb : b.right = true) : readR b cpu n l = readGo cpu n.toNat b none l := by unfold readR; rw [if_neg h, if_neg (by simp [hb])]
end
end Go.Proofs.YtpekelggcmgnnaaDoor

/- quantumkit: the marks behind a lent list. No walk. -/
namespace Go.Proofs.YtpekelggcmgnnaaDoor
open Go.RowKit

def markB (k : Nat) : Nat := (8000024 + k) * 11400714819323198485 % 18446744073709551616 / 72057594037927936
def marks (k : Nat) : List Nat := (List.range k).map markB
theorem marks_succ (k : Nat) : marks (k + 1) = marks k ++ [markB k] := by unfold marks; rw [List.range_succ, List.map_append]; rfl
theorem marks_len (k : Nat) : (marks k).length = k := by simp [marks]
theorem markB_lt (k : Nat) : markB k < 256 := by unfold markB; omega
/-- A list that is lent: twelve marks lie behind it. -/
def LentIs (w : World) (l : List Nat) (r : Ending) (w' : World) : Prop :=
  (∃ A c, r = .returned (.slice A l.length c) ∧ w'.ownsRow w.heap.size 5 1 (.slice A (l.length + 12) c) (l.length + 12) ((l ++ marks 12).map B8) ∧ l.length + 12 ≤ c) ∧ Below w.heap.size w w'
theorem mark_u64 (k : Nat) (hk : k ≤ 1000) : IntKind.u64.wrap ((8000024 + k : Nat) : Int) = ((8000024 + k : Nat) : Int) := by rw [IntKind.wrap_u64]; omega
theorem mark_mul (k : Nat) : IntKind.u64.wrap (((8000024 + k : Nat) : Int) * 11400714819323198485) = (((8000024 + k) * 11400714819323198485 % 18446744073709551616 : Nat) : Int) := by rw [IntKind.wrap_u64]; omega
theorem mark_shr (x : Nat) : Int.fdiv (x : Int) (2 ^ (min (56 : Int).toNat (IntKind.u64).bits)) = ((x / 72057594037927936 : Nat) : Int) := by
  rw [show (2 : Int) ^ (min (56 : Int).toNat (IntKind.u64).bits) = 72057594037927936 from by decide, Int.fdiv_eq_ediv_of_nonneg _ (by decide)]
  rfl
theorem mark_u8 (k : Nat) : IntKind.u8.wrap (((8000024 + k) * 11400714819323198485 % 18446744073709551616 / 72057594037927936 : Nat) : Int) = (markB k : Int) := by
  have := markB_lt k
  unfold markB at *
  rw [IntKind.wrap_u8]
  omega
theorem lent_at {l : List Nat} {n k : Nat} (hl : l.length = n) (h : k < n + 12) : (k < n → ∃ x, l[k]? = some x ∧ (l ++ marks 12)[k]? = some x) ∧ (n ≤ k → (l ++ marks 12)[k]? = some (markB (k - n))) := by
  refine ⟨fun hk => ⟨l[k], List.getElem?_eq_getElem (by omega), ?_⟩, fun hk => ?_⟩
  · rw [List.getElem?_append_left (by omega)]; exact List.getElem?_eq_getElem (by omega)
  · rw [List.getElem?_append_right (by omega), hl]
    unfold marks
    rw [List.getElem?_map, List.getElem?_range (by omega)]
    rfl
end Go.Proofs.YtpekelggcmgnnaaDoor

/- quantumkit: LentBytes, KeptBytes. -/
set_option linter.all false
namespace Go.Proofs.YtpekelggcmgnnaaDoor
open Go.RowKit
set_option maxRecDepth 100000 in
set_option maxHeartbeats 4000000 in
theorem mark_any (k : Nat) (hk : k ≤ 1000) (w : World) : Calls Tryd.prog 66 #[.int .i64 1, .int .i64 (k : Int)] w fun r w' => r = .returned (.int .i64 ((8000024 + k : Nat) : Int)) ∧ Below w.heap.size w w' := by
  refine calls_enter (vs := [.int .i64 1, .int .i64 (k : Int)]) Tryd.func66 rfl rfl (by kernel_rfl) (σ0 := [(0, .int .i64 1), (1, .int .i64 (k : Int))]) rfl ?_
  intro a HF
  have HM := Mem.start w
  refine wp_seq ?_
  refine from_start ?_
  refine from_pures HF 1 0 (j := 1) [(4, .int .i64 0)] (by kernel_rfl) rfl ?_; clear HF; intro a HF
  refine from_done rfl ?_
  refine wp_seq ?_
  refine from_start ?_
  refine from_pures HF 5 0 (j := 5) [(9, .int .i64 (IntKind.i64.wrap (8000024 + (k : Int)))), (8, .int .i64 (k : Int)), (7, .int .i64 8000024), (6, .int .i64 8), (5, .int .i64 1)] (by kernel_rfl) rfl ?_; clear HF; intro a HF
  replace HF := HF.as (t := 9) (u := .int .i64 ((8000024 + k : Nat) : Int)) rfl (by rw [IntWalk.i64_in _ (by omega)]; simp)
  refine from_pures HF 1 5 (j := 6) [(4, .int .i64 ((8000024 + k : Nat) : Int))] (by kernel_rfl) rfl ?_; clear HF; intro a HF
  refine from_done rfl ?_
  replace HF := HF.sub (σ' := [(4, .int .i64 ((8000024 + k : Nat) : Int))]) (by kernel_rfl)
  refine wp_ret ?_
  exact ret1 rfl HF (.tmp HF rfl) (⟨rfl, HM.below⟩)
set_option maxRecDepth 100000 in
set_option maxHeartbeats 4000000 in
theorem markByte_any (k : Nat) (hk : k ≤ 1000) (w : World) : Calls Tryd.prog 51 #[.int .i64 1, .int .i64 (k : Int)] w fun r w' => r = .returned (.int .u8 (markB k : Int)) ∧ Below w.heap.size w w' := by
  refine calls_enter (vs := [.int .i64 1, .int .i64 (k : Int)]) Tryd.func51 rfl rfl (by kernel_rfl) (σ0 := [(0, .int .i64 1), (1, .int .i64 (k : Int))]) rfl ?_
  intro a HF
  have HM := Mem.start w
  refine wp_seq ?_
  refine from_start ?_
  refine from_pures HF 1 0 (j := 1) [(4, .int .u8 0)] (by kernel_rfl) rfl ?_; clear HF; intro a HF
  refine from_done rfl ?_
  refine wp_seq ?_
  refine from_start ?_
  refine from_pures HF 2 0 (j := 2) [(6, .int .i64 (k : Int)), (5, .int .i64 1)] (by kernel_rfl) rfl ?_; clear HF; intro a HF
  refine from_op HF (i := 2) rfl rfl ?_
  refine e_call HF (vs := [.int .i64 1, .int .i64 (k : Int)]) rfl (by kernel_rfl) (by kernel_rfl) rfl (by decide) (mark_any k hk _) ?_
  rintro _ w7 ⟨rfl, hbw⟩
  refine ⟨_, rfl, ?_⟩
  replace HM := HM.call hbw
  clear HF; intro a HF
  refine from_pures HF 1 3 (j := 4) [(8, .int .u64 (IntKind.u64.wrap ((8000024 + k : Nat) : Int)))] (by kernel_rfl) rfl ?_; clear HF; intro a HF
  replace HF := HF.as (t := 8) (u := .int .u64 ((8000024 + k : Nat) : Int)) rfl (by rw [mark_u64 k hk])
  refine from_pures HF 1 4 (j := 5) [(9, .int .u64 (IntKind.u64.wrap (((8000024 + k : Nat) : Int) * 11400714819323198485)))] (by kernel_rfl) rfl ?_; clear HF; intro a HF
  replace HF := HF.as (t := 9) (u := .int .u64 (((8000024 + k) * 11400714819323198485 % 18446744073709551616 : Nat) : Int)) rfl (by rw [mark_mul k])
  refine from_pures HF 1 5 (j := 6) [(10, .int .u64 (Int.fdiv (((8000024 + k) * 11400714819323198485 % 18446744073709551616 : Nat) : Int) (2 ^ (min (56 : Int).toNat (IntKind.u64).bits))))] (by kernel_rfl) rfl ?_; clear HF; intro a HF
  replace HF := HF.as (t := 10) (u := .int .u64 (((8000024 + k) * 11400714819323198485 % 18446744073709551616 / 72057594037927936 : Nat) : Int)) rfl (by rw [mark_shr])
  refine from_pures HF 1 6 (j := 7) [(11, .int .u8 (IntKind.u8.wrap (((8000024 + k) * 11400714819323198485 % 18446744073709551616 / 72057594037927936 : Nat) : Int)))] (by kernel_rfl) rfl ?_; clear HF; intro a HF
  replace HF := HF.as (t := 11) (u := .int .u8 (markB k : Int)) rfl (by rw [mark_u8 k])
  refine from_pures HF 1 7 (j := 8) [(4, .int .u8 (markB k : Int))] (by kernel_rfl) rfl ?_; clear HF; intro a HF
  refine from_done rfl ?_
  replace HF := HF.sub (σ' := [(4, .int .u8 (markB k : Int))]) (by kernel_rfl)
  refine wp_ret ?_
  exact ret1 rfl HF (.tmp HF rfl) (⟨rfl, HM.below⟩)
set_option maxRecDepth 100000 in
set_option maxHeartbeats 4000000 in
theorem lent_any (A : Option Addr) (n c : Nat) (l : List Nat) (w : World) (hr : Rd w w.heap.size 1 A n (l.map B8)) (hn : n ≤ 140737488351232) (hln : l.length = n) :
    Calls Tryd.prog 26 #[.slice A n c] w (LentIs w l) := by
  refine calls_enter (vs := [.slice A n c]) Tryd.func26 rfl rfl (by kernel_rfl) (σ0 := [(0, .slice A n c)]) rfl ?_
  intro a HF
  have HM := Mem.start w
  refine wp_seq ?_
  refine from_start ?_
  refine from_pures HF 1 0 (j := 1) [(2, .slice none 0 0)] (by kernel_rfl) rfl ?_; clear HF; intro a HF
  refine from_done rfl ?_
  refine wp_seq ?_
  refine from_start ?_
  refine from_pures HF 1 0 (j := 1) [(5, .slice A n c)] (by kernel_rfl) rfl ?_; clear HF; intro a HF
  refine from_yl (S := fun wS => Mem w wS _) HF HM (i := 1) rfl rfl (d := 6) rfl (by decide) (v := .int .i64 ((n : Nat) : Int)) (Yl.len rfl rfl (by kernel_rfl)) ?_; clear HF; intro a HF
  refine from_pures HF 1 2 (j := 3) [(7, .int .i64 (IntKind.i64.wrap (((n : Nat) : Int) + 12)))] (by kernel_rfl) rfl ?_; clear HF; intro a HF
  replace HF := HF.as (t := 7) (u := .int .i64 ((n + 12 : Nat) : Int)) rfl (by rw [IntWalk.i64_in _ (by omega)]; simp)
  refine from_op HF (i := 3) rfl rfl ?_
  refine e_make0 HF HM (m := (n + 12)) rfl ei_u8 rfl rfl (by omega) (by omega) rfl (by decide) ?_
  clear HF HM; intro a w8 g8 HF HM
  refine from_pures HF 1 4 (j := 5) [(3, .slice (some ⟨g8, 0, none⟩) 0 (n + 12))] (by kernel_rfl) rfl ?_; clear HF; intro a HF
  refine from_done rfl ?_
  replace HF := HF.sub (σ' := [(3, .slice (some ⟨g8, 0, none⟩) 0 (n + 12)), (2, .slice none 0 0), (0, .slice A n c)]) (by kernel_rfl)
  refine wp_seq ?_
  refine from_start ?_
  refine from_pures HF 2 0 (j := 2) [(10, .slice A n c), (9, .slice (some ⟨g8, 0, none⟩) 0 (n + 12))] (by kernel_rfl) rfl ?_; clear HF; intro a HF
  refine from_op HF (i := 2) rfl rfl ?_
  refine e_append_wide HF HM (i := 0) rfl ei_u8 rfl rfl rfl (news := (l.map B8)) (HM.old hr) (one_B8 _) (by omega) (by omega) rfl (by decide) ?_
  clear HF HM; intro a w11 A11 c11 HF HM hc11
  refine from_pures HF 1 3 (j := 4) [(3, .slice A11 (0 + n) c11)] (by kernel_rfl) rfl ?_; clear HF; intro a HF
  refine from_done rfl ?_
  replace HF := HF.sub (σ' := [(3, .slice A11 (0 + n) c11), (2, .slice none 0 0), (0, .slice A n c)]) (by kernel_rfl)
  have hnA11 : 0 + n = n + 0 := by omega
  replace HM := HM.reRow (i := 0) (ys := (l ++ marks 0).map B8) rfl hnA11 (by simp [marks])
  rw [hnA11] at hc11
  replace HF := HF.as (t := 3) (u := .slice A11 (n + 0) c11) rfl (by rw [hnA11])
  refine wp_seq ?_
  refine wp_seq ?_
  refine from_start ?_
  refine from_pures HF 1 0 (j := 1) [(4, .int .i64 0)] (by kernel_rfl) rfl ?_; clear HF; intro a HF
  refine from_done rfl ?_
  replace HF := HF.sub (σ' := [(4, .int .i64 0), (3, .slice A11 (n + 0) c11), (2, .slice none 0 0), (0, .slice A n c)]) (by kernel_rfl)
  refine wp_block ?_
  refine loop_nat (fun mS aS wS => ∃ (k : Nat) (Ak : Option Addr) (ck : Nat), (k ≤ 12) ∧ (n + k ≤ ck) ∧ mS = 12 - k ∧ Fr aS 25 [] [(4, .int .i64 (k : Int)), (3, .slice Ak (n + k) ck), (2, .slice none 0 0), (0, .slice A n c)] ∧ Mem w wS [.row (.slice Ak (n + k) ck) (n + k) ((l ++ marks k).map B8) 5 1]) (m := 12 - 0) ⟨0, A11, c11, by omega, hc11, rfl, HF.sub (by kernel_rfl), HM.picks [0] (by decide) rfl⟩ ?_
  clear HF HM; rintro mS a w_ ⟨k, Ak, ck, hk, hck, rfl, HF, HM⟩
  refine wp_seq ?_
  refine wp_seq ?_
  refine from_start ?_
  refine from_pures HF 2 0 (j := 2) [(13, .bool (decide (((k : Int) : Int) < (12 : Int)))), (12, .int .i64 (k : Int))] (by kernel_rfl) rfl ?_; clear HF; intro a HF
  refine from_done rfl ?_
  replace HF := HF.sub (σ' := [(13, .bool (decide (((k : Int) : Int) < (12 : Int)))), (4, .int .i64 (k : Int)), (3, .slice Ak (n + k) ck), (2, .slice none 0 0), (0, .slice A n c)]) (by kernel_rfl)
  rcases Bool.eq_false_or_eq_true (decide (((k : Int) : Int) < (12 : Int))) with hb13 | hb13
  · have HF := HF.as (t := 13) (u := .bool true) rfl (by rw [hb13])
    have hk13 : k < 12 := by have := of_decide_eq_true hb13; omega
    refine cond_true HF rfl ?_
    refine wp_skip ?_
    refine wp_seq ?_
    refine wp_block ?_
    refine from_start ?_
    refine from_pures HF 2 0 (j := 2) [(17, .int .i64 (k : Int)), (16, .slice Ak (n + k) ck)] (by kernel_rfl) rfl ?_; clear HF; intro a HF
    refine from_op HF (i := 2) rfl rfl ?_
    refine e_call HF (vs := [.int .i64 1, .int .i64 (k : Int)]) rfl (by kernel_rfl) (by kernel_rfl) rfl (by decide) (markByte_any k (by omega) _) ?_
    rintro _ w18 ⟨rfl, hbw⟩
    refine ⟨_, rfl, ?_⟩
    replace HM := HM.call hbw
    clear HF; intro a HF
    refine from_op HF (i := 3) rfl rfl ?_
    refine e_slice HF HM (vs := [(0, .int .u8 (markB k : Int))]) (cs := #[.int .u8 (markB k : Int)]) rfl ei_u8 (by decide) rfl (by kernel_rfl) rfl (by decide) ?_
    clear HF HM; intro a w19 g19 HF HM
    refine from_op HF (i := 4) rfl rfl ?_
    refine e_append HF HM (i := 1) rfl ei_u8 rfl rfl rfl (news := [B8 (markB k)]) (HM.rdBlk (i := 0) (n := 1) (size := 1) rfl rfl) (by simp [Value.oneCell', U64, B8]) (by omega) (by omega) rfl (by decide) ?_
    clear HF HM; intro a w20 A20 c20 HF HM hc20
    refine from_pures HF 1 5 (j := 6) [(3, .slice A20 (n + k + 1) c20)] (by kernel_rfl) rfl ?_; clear HF; intro a HF
    refine from_done rfl ?_
    replace HF := HF.sub (σ' := [(3, .slice A20 (n + k + 1) c20), (13, .bool true), (4, .int .i64 (k : Int)), (2, .slice none 0 0), (0, .slice A n c)]) (by kernel_rfl)
    replace HM := HM.picks (fs' := [.row (.slice A20 (n + k + 1) c20) (n + k + 1) (((l ++ marks k).map B8) ++ [B8 (markB k)]) 5 1]) [1] (by decide) rfl
    have hnA20 : n + k + 1 = n + (k + 1) := by omega
    replace HM := HM.reRow (i := 0) (ys := (l ++ marks (k + 1)).map B8) rfl hnA20 (by rw [marks_succ]; simp)
    rw [hnA20] at hc20
    replace HF := HF.as (t := 3) (u := .slice A20 (n + (k + 1)) c20) rfl (by rw [hnA20])
    refine from_start ?_
    refine from_pures HF 2 0 (j := 2) [(15, .int .i64 (IntKind.i64.wrap ((k : Int) + 1))), (14, .int .i64 (k : Int))] (by kernel_rfl) rfl ?_; clear HF; intro a HF
    replace HF := HF.as (t := 15) (u := .int .i64 ((k + 1 : Nat) : Int)) rfl (by rw [IntWalk.i64_in _ (by omega)]; simp)
    refine from_pures HF 1 2 (j := 3) [(4, .int .i64 ((k + 1 : Nat) : Int))] (by kernel_rfl) rfl ?_; clear HF; intro a HF
    refine from_done rfl ?_
    replace HF := HF.sub (σ' := [(4, .int .i64 ((k + 1 : Nat) : Int)), (3, .slice A20 (n + (k + 1)) c20), (13, .bool true), (2, .slice none 0 0), (0, .slice A n c)]) (by kernel_rfl)
    exact ⟨_, (by omega), k + 1, A20, c20, by omega, hc20, rfl, HF.sub (by kernel_rfl), HM.picks [0] (by decide) rfl⟩
  · have HF := HF.as (t := 13) (u := .bool false) rfl (by rw [hb13])
    obtain rfl : k = 12 := by have := of_decide_eq_false hb13; omega
    refine cond_false HF rfl ?_
    refine wp_exit ?_
    refine wp_seq ?_
    refine from_start ?_
    refine from_pures HF 2 0 (j := 2) [(22, .slice A n c), (21, .slice Ak (n + 12) ck)] (by kernel_rfl) rfl ?_; clear HF; intro a HF
    refine from_yl (S := fun wS => Mem w wS _) HF HM (i := 2) rfl rfl (d := 23) rfl (by decide) (v := .int .i64 ((n : Nat) : Int)) (Yl.len rfl rfl (by kernel_rfl)) ?_; clear HF; intro a HF
    refine from_yl (S := fun wS => Mem w wS _) HF HM (i := 3) rfl rfl (d := 24) rfl (by decide) (v := .slice Ak n ck) (Yl.sliceUpto ei_u8 (j := n) rfl rfl rfl (by omega)) ?_; clear HF; intro a HF
    refine from_pures HF 1 4 (j := 5) [(2, .slice Ak n ck)] (by kernel_rfl) rfl ?_; clear HF; intro a HF
    refine from_done rfl ?_
    replace HF := HF.sub (σ' := [(2, .slice Ak n ck), (13, .bool false), (4, .int .i64 (12 : Int)), (3, .slice Ak (n + 12) ck), (0, .slice A n c)]) (by kernel_rfl)
    refine wp_ret ?_
    exact ret1 rfl HF (.tmp HF rfl) (⟨⟨Ak, ck, by rw [hln], by rw [hln]; exact HM.own (i := 0) rfl, by omega⟩, HM.below⟩)
set_option maxRecDepth 100000 in
set_option maxHeartbeats 4000000 in
theorem kept_any (A A2 : Option Addr) (n c c2 : Nat) (l : List Nat) (w : World) (hr : Rd w w.heap.size 1 A (n + 12) ((l ++ marks 12).map B8)) (hc : n + 12 ≤ c) (hr2 : Rd w w.heap.size 1 A2 n (l.map B8)) (hn : n ≤ 140737488351232) (hln : l.length = n) :
    Calls Tryd.prog 32 #[.slice A n c, .slice A2 n c2] w (BoolPost w true) := by
  refine calls_enter (vs := [.slice A n c, .slice A2 n c2]) Tryd.func32 rfl rfl (by kernel_rfl) (σ0 := [(0, .slice A n c), (1, .slice A2 n c2)]) rfl ?_
  intro a HF
  have HM := Mem.start w
  refine wp_seq ?_
  refine from_start ?_
  refine from_pures HF 1 0 (j := 1) [(4, .bool false)] (by kernel_rfl) rfl ?_; clear HF; intro a HF
  refine from_done rfl ?_
  refine wp_seq ?_
  refine wp_seq ?_
  refine from_start ?_
  refine from_pures HF 1 0 (j := 1) [(7, .slice A n c)] (by kernel_rfl) rfl ?_; clear HF; intro a HF
  refine from_yl (S := fun wS => Mem w wS _) HF HM (i := 1) rfl rfl (d := 8) rfl (by decide) (v := .int .i64 ((n : Nat) : Int)) (Yl.len rfl rfl (by kernel_rfl)) ?_; clear HF; intro a HF
  refine from_pures HF 1 2 (j := 3) [(9, .slice A2 n c2)] (by kernel_rfl) rfl ?_; clear HF; intro a HF
  refine from_yl (S := fun wS => Mem w wS _) HF HM (i := 3) rfl rfl (d := 10) rfl (by decide) (v := .int .i64 ((n : Nat) : Int)) (Yl.len rfl rfl (by kernel_rfl)) ?_; clear HF; intro a HF
  refine from_pures HF 1 4 (j := 5) [(11, .bool ((((n : Nat) : Int) : Int) != (((n : Nat) : Int) : Int)))] (by kernel_rfl) rfl ?_; clear HF; intro a HF
  replace HF := HF.as (t := 11) (u := .bool false) rfl (by simp)
  refine from_done rfl ?_
  replace HF := HF.sub (σ' := [(11, .bool false), (4, .bool false), (0, .slice A n c), (1, .slice A2 n c2)]) (by kernel_rfl)
  refine cond_false HF rfl ?_
  refine wp_skip ?_
  refine wp_seq ?_
  refine from_start ?_
  refine from_pures HF 2 0 (j := 2) [(13, .slice A2 n c2), (12, .slice A n c)] (by kernel_rfl) rfl ?_; clear HF; intro a HF
  refine from_yl (S := fun wS => Mem w wS _) HF HM (i := 2) rfl rfl (d := 14) rfl (by decide) (v := .int .i64 ((n : Nat) : Int)) (Yl.len rfl rfl (by kernel_rfl)) ?_; clear HF; intro a HF
  refine from_pures HF 1 3 (j := 4) [(15, .int .i64 (IntKind.i64.wrap (((n : Nat) : Int) + 12)))] (by kernel_rfl) rfl ?_; clear HF; intro a HF
  replace HF := HF.as (t := 15) (u := .int .i64 ((n + 12 : Nat) : Int)) rfl (by rw [IntWalk.i64_in _ (by omega)]; simp)
  refine from_yl (S := fun wS => Mem w wS _) HF HM (i := 4) rfl rfl (d := 16) rfl (by decide) (v := .slice A (n + 12) c) (Yl.sliceUpto ei_u8 (j := (n + 12)) rfl rfl rfl (hc)) ?_; clear HF; intro a HF
  refine from_pures HF 1 5 (j := 6) [(5, .slice A (n + 12) c)] (by kernel_rfl) rfl ?_; clear HF; intro a HF
  refine from_done rfl ?_
  replace HF := HF.sub (σ' := [(5, .slice A (n + 12) c), (11, .bool false), (4, .bool false), (0, .slice A n c), (1, .slice A2 n c2)]) (by kernel_rfl)
  refine wp_seq ?_
  refine wp_seq ?_
  refine from_start ?_
  refine from_pures HF 1 0 (j := 1) [(6, .int .i64 0)] (by kernel_rfl) rfl ?_; clear HF; intro a HF
  refine from_done rfl ?_
  refine wp_block ?_
  refine loop_nat (fun mS aS wS => ∃ (k : Nat), (k ≤ n + 12) ∧ mS = n + 12 - k ∧ Fr aS 58 [] [(6, .int .i64 (k : Int)), (5, .slice A (n + 12) c), (11, .bool false), (4, .bool false), (0, .slice A n c), (1, .slice A2 n c2)] ∧ Mem w wS []) (m := n + 12 - 0) ⟨0, Nat.zero_le _, rfl, HF.sub (by kernel_rfl), HM.picks [] (by decide) rfl⟩ ?_
  clear HF HM; rintro mS a w_ ⟨k, hk, rfl, HF, HM⟩
  refine wp_seq ?_
  refine wp_seq ?_
  refine from_start ?_
  refine from_pures HF 2 0 (j := 2) [(18, .slice A (n + 12) c), (17, .int .i64 (k : Int))] (by kernel_rfl) rfl ?_; clear HF; intro a HF
  refine from_yl (S := fun wS => Mem w wS _) HF HM (i := 2) rfl rfl (d := 19) rfl (by decide) (v := .int .i64 (((n + 12) : Nat) : Int)) (Yl.len rfl rfl (by kernel_rfl)) ?_; clear HF; intro a HF
  refine from_pures HF 1 3 (j := 4) [(20, .bool (decide (((k : Int) : Int) < ((((n + 12) : Nat) : Int) : Int))))] (by kernel_rfl) rfl ?_; clear HF; intro a HF
  refine from_done rfl ?_
  replace HF := HF.sub (σ' := [(20, .bool (decide (((k : Int) : Int) < ((((n + 12) : Nat) : Int) : Int)))), (6, .int .i64 (k : Int)), (5, .slice A (n + 12) c), (11, .bool false), (4, .bool false), (0, .slice A n c), (1, .slice A2 n c2)]) (by kernel_rfl)
  rcases Bool.eq_false_or_eq_true (decide (((k : Int) : Int) < ((((n + 12) : Nat) : Int) : Int))) with hb20 | hb20
  · have HF := HF.as (t := 20) (u := .bool true) rfl (by rw [hb20])
    have hk20 : k < n + 12 := by have := of_decide_eq_true hb20; omega
    refine cond_true HF rfl ?_
    refine wp_skip ?_
    refine wp_seq ?_
    refine wp_block ?_
    refine cut_seq (fun aS wS => Fr aS 58 [] [(57, .bool false), (20, .bool true), (6, .int .i64 (k : Int)), (5, .slice A (n + 12) c), (11, .bool false), (4, .bool false), (0, .slice A n c), (1, .slice A2 n c2)] ∧ Mem w wS []) ?_ ?_
    ·
      refine any_start (by kernel_rfl) (fun wS => Mem w wS []) [] ?_
      replace HM := HM.drew
      have HS := HM.picks (fs' := []) [] (by decide) rfl
      refine any_pures HF (fun _ => HS) (fun _ _ d _ _ h => by cases d <;> exact h) [0, 1] #[true, true, false, false, false, false, false, false, false, false, false, false, false, false, false, false, false, false, false, false, false, false, false, false, false, false, false, false, false, false, false, false, false, false, false] [(24, .slice A2 n c2), (23, .int .i64 (k : Int))] (by kernel_rfl) ?_; clear HF; intro a HF
      refine any_yl HF HS (i := 2) rfl rfl (d := 25) rfl (by decide) (by kernel_rfl) (fun _ _ _ h => h) (v := .int .i64 ((n : Nat) : Int)) (Yl.len rfl rfl (by kernel_rfl)) ?_; clear HF; intro a HF
      refine any_pures HF (fun _ => HS) (fun _ _ d _ _ h => by cases d <;> exact h) [3, 4] #[true, true, true, true, true, false, false, false, false, false, false, false, false, false, false, false, false, false, false, false, false, false, false, false, false, false, false, false, false, false, false, false, false, false, false] [(27, .bool (decide (((k : Int) : Int) < (((n : Nat) : Int) : Int)))), (26, .bool (decide (((k : Int) : Int) < (((n : Nat) : Int) : Int))))] (by kernel_rfl) ?_; clear HF; intro a HF
      rcases Bool.eq_false_or_eq_true (decide (((k : Int) : Int) < (((n : Nat) : Int) : Int))) with hb27 | hb27
      · have HF := HF.as (t := 27) (u := .bool true) rfl (by rw [hb27])
        have hk26 : k < n := by have := of_decide_eq_true hb27; omega
        obtain ⟨x, hx1, hx2⟩ := (lent_at hln hk20).1 hk26
        refine any_pures HF (fun _ => HS) (fun _ _ d _ _ h => by cases d <;> exact h) [5, 6, 9, 10] #[true, true, true, true, true, true, true, false, false, true, true, false, false, false, false, false, false, false, false, false, false, false, false, false, false, false, false, false, false, false, false, false, false, false, false] [(33, .int .i64 (k : Int)), (32, .slice A2 n c2), (29, .int .i64 (k : Int)), (28, .slice A (n + 12) c)] (by kernel_rfl) ?_; clear HF; intro a HF
        obtain ⟨gA, oA, rfl, _⟩ := hr.some_at (Nat.lt_of_le_of_lt (Nat.zero_le _) (show k < (n + 12) from hk20)) (by decide)
        refine any_yl HF HS (i := 7) rfl rfl (d := 30) rfl (by decide) (by kernel_rfl) (fun _ _ _ h => h) (v := .pointer (some ⟨gA, oA + k * 1, none⟩)) ((Yl.indexAddr (ad := ⟨gA, oA, none⟩) (y := k) (sz := 1) rfl rfl rfl (hk20) (by kernel_rfl)).as (by rw [Addr.add_mid])) ?_; clear HF; intro a HF
        refine any_yl HF HS (i := 8) rfl rfl (d := 31) rfl (by decide) (by kernel_rfl) (fun _ _ _ h => h) (v := .int .u8 (x : Int)) (Yl.load1 rfl rfl (by kernel_rfl) (fun _ h => (h.old hr).oneAt1 (k := k) (map_at (F := B8) (k := k) (x := x) (hx2)))) ?_; clear HF; intro a HF
        obtain ⟨gA2, oA2, rfl, _⟩ := hr2.some_at (Nat.lt_of_le_of_lt (Nat.zero_le _) (show k < n from hk26)) (by decide)
        refine any_yl HF HS (i := 11) rfl rfl (d := 34) rfl (by decide) (by kernel_rfl) (fun _ _ _ h => h) (v := .pointer (some ⟨gA2, oA2 + k * 1, none⟩)) ((Yl.indexAddr (ad := ⟨gA2, oA2, none⟩) (y := k) (sz := 1) rfl rfl rfl (hk26) (by kernel_rfl)).as (by rw [Addr.add_mid])) ?_; clear HF; intro a HF
        refine any_yl HF HS (i := 12) rfl rfl (d := 35) rfl (by decide) (by kernel_rfl) (fun _ _ _ h => h) (v := .int .u8 (x : Int)) (Yl.load1 rfl rfl (by kernel_rfl) (fun _ h => (h.old hr2).oneAt1 (k := k) (map_at (F := B8) (k := k) (x := x) (hx1)))) ?_; clear HF; intro a HF
        refine any_pure HF (fun _ => HS) (i := 13) rfl rfl (d := 36) rfl (by decide) (by kernel_rfl) (fun _ _ _ h => h) (v := .bool (((x : Int) : Int) == ((x : Int) : Int))) (fun _ => Yl.pure (by kernel_rfl)) ?_; clear HF; intro a HF
        replace HF := HF.as (t := 36) (u := .bool true) rfl (by simp)
        refine any_pures HF (fun _ => HS) (fun _ _ d _ _ h => by cases d <;> exact h) [14, 15, 16, 17, 18] #[true, true, true, true, true, true, true, true, true, true, true, true, true, true, true, true, true, true, true, false, false, false, false, false, false, false, false, false, false, false, false, false, false, false, false] [(41, .slice (some ⟨gA2, oA2, none⟩) n c2), (40, .int .i64 (k : Int)), (39, .bool false), (38, .bool false), (37, .bool false)] (by kernel_rfl) ?_; clear HF; intro a HF
        refine any_yl HF HS (i := 19) rfl rfl (d := 42) rfl (by decide) (by kernel_rfl) (fun _ _ _ h => h) (v := .int .i64 ((n : Nat) : Int)) (Yl.len rfl rfl (by kernel_rfl)) ?_; clear HF; intro a HF
        refine any_pure HF (fun _ => HS) (i := 20) rfl rfl (d := 43) rfl (by decide) (by kernel_rfl) (fun _ _ _ h => h) (v := .bool (decide (((k : Int) : Int) ≥ (((n : Nat) : Int) : Int)))) (fun _ => Yl.pure (by kernel_rfl)) ?_; clear HF; intro a HF
        replace HF := HF.as (t := 43) (u := .bool false) rfl (by rw [decide_eq_false (by omega)])
        refine any_pures HF (fun _ => HS) (fun _ _ d _ _ h => by cases d <;> exact h) [21, 22, 23, 24, 25, 26, 27, 28, 29, 30, 31, 32, 33, 34] #[true, true, true, true, true, true, true, true, true, true, true, true, true, true, true, true, true, true, true, true, true, true, true, true, true, true, true, true, true, true, true, true, true, true, true] [(57, .bool false), (56, .bool false), (55, undef), (54, undef), (53, undef), (52, undef), (51, undef), (50, undef), (49, undef), (48, undef), (47, undef), (46, undef), (45, undef), (44, .bool false)] (by kernel_rfl) ?_; clear HF; intro a HF
        refine any_done (by kernel_rfl) ?_
        replace HF := HF.sub (σ' := [(57, .bool false), (20, .bool true), (6, .int .i64 (k : Int)), (5, .slice (some ⟨gA, oA, none⟩) (n + 12) c), (11, .bool false), (4, .bool false), (0, .slice (some ⟨gA, oA, none⟩) n c), (1, .slice (some ⟨gA2, oA2, none⟩) n c2)]) (by kernel_rfl)
        exact ⟨HF.sub (by kernel_rfl), HM.picks [] (by decide) rfl⟩
      · have HF := HF.as (t := 27) (u := .bool false) rfl (by rw [hb27])
        have hk26 : n ≤ k := by have := of_decide_eq_false hb27; omega
        have hx3 := (lent_at hln hk20).2 hk26
        refine any_pures HF (fun _ => HS) (fun _ _ d _ _ h => by cases d <;> exact h) [5, 6, 7, 8, 9, 10, 11, 12, 13, 14, 15, 16, 17, 18] #[true, true, true, true, true, true, true, true, true, true, true, true, true, true, true, true, true, true, true, false, false, false, false, false, false, false, false, false, false, false, false, false, false, false, false] [(41, .slice A2 n c2), (40, .int .i64 (k : Int)), (39, .bool false), (38, .bool false), (37, undef), (36, undef), (35, undef), (34, undef), (33, undef), (32, undef), (31, undef), (30, undef), (29, undef), (28, undef)] (by kernel_rfl) ?_; clear HF; intro a HF
        refine any_yl HF HS (i := 19) rfl rfl (d := 42) rfl (by decide) (by kernel_rfl) (fun _ _ _ h => h) (v := .int .i64 ((n : Nat) : Int)) (Yl.len rfl rfl (by kernel_rfl)) ?_; clear HF; intro a HF
        refine any_pure HF (fun _ => HS) (i := 20) rfl rfl (d := 43) rfl (by decide) (by kernel_rfl) (fun _ _ _ h => h) (v := .bool (decide (((k : Int) : Int) ≥ (((n : Nat) : Int) : Int)))) (fun _ => Yl.pure (by kernel_rfl)) ?_; clear HF; intro a HF
        replace HF := HF.as (t := 43) (u := .bool true) rfl (by rw [decide_eq_true (by omega)])
        refine any_pures HF (fun _ => HS) (fun _ _ d _ _ h => by cases d <;> exact h) [21, 22, 23, 26, 27] #[true, true, true, true, true, true, true, true, true, true, true, true, true, true, true, true, true, true, true, true, true, true, true, true, false, false, true, true, false, false, false, false, false, false, false] [(50, .slice A2 n c2), (49, .int .i64 (k : Int)), (46, .int .i64 (k : Int)), (45, .slice A (n + 12) c), (44, .bool true)] (by kernel_rfl) ?_; clear HF; intro a HF
        obtain ⟨gA, oA, rfl, _⟩ := hr.some_at (Nat.lt_of_le_of_lt (Nat.zero_le _) (show k < (n + 12) from hk20)) (by decide)
        refine any_yl HF HS (i := 24) rfl rfl (d := 47) rfl (by decide) (by kernel_rfl) (fun _ _ _ h => h) (v := .pointer (some ⟨gA, oA + k * 1, none⟩)) ((Yl.indexAddr (ad := ⟨gA, oA, none⟩) (y := k) (sz := 1) rfl rfl rfl (hk20) (by kernel_rfl)).as (by rw [Addr.add_mid])) ?_; clear HF; intro a HF
        refine any_yl HF HS (i := 25) rfl rfl (d := 48) rfl (by decide) (by kernel_rfl) (fun _ _ _ h => h) (v := .int .u8 ((markB (k - n)) : Int)) (Yl.load1 rfl rfl (by kernel_rfl) (fun _ h => (h.old hr).oneAt1 (k := k) (map_at (F := B8) (k := k) (x := (markB (k - n))) (hx3)))) ?_; clear HF; intro a HF
        refine any_yl HF HS (i := 28) rfl rfl (d := 51) rfl (by decide) (by kernel_rfl) (fun _ _ _ h => h) (v := .int .i64 ((n : Nat) : Int)) (Yl.len rfl rfl (by kernel_rfl)) ?_; clear HF; intro a HF
        refine any_pure HF (fun _ => HS) (i := 29) rfl rfl (d := 52) rfl (by decide) (by kernel_rfl) (fun _ _ _ h => h) (v := .int .i64 (IntKind.i64.wrap ((k : Int) - ((n : Nat) : Int)))) (fun _ => Yl.pure (by kernel_rfl)) ?_; clear HF; intro a HF
        replace HF := HF.as (t := 52) (u := .int .i64 ((k - n : Nat) : Int)) rfl (by rw [IntWalk.i64_in _ (by omega)]; congr 1; omega)
        refine any_all [30] (by kernel_rfl) rfl ?_
        refine all_cons ?_ all_nil
        refine any_op HF (i := 30) rfl rfl ?_
        refine e_call HF (vs := [.int .i64 1, .int .i64 ((k - n : Nat) : Int)]) rfl (by kernel_rfl) (by kernel_rfl) rfl (by decide) (markByte_any (k - n) (by omega) _) ?_
        rintro _ w53 ⟨rfl, hbw⟩
        refine ⟨_, rfl, ?_⟩
        replace HM := HM.call hbw
        clear HF; intro a HF
        refine keepS (HM.picks [] (by decide) rfl) (fun HS => ?_)
        refine any_pure HF (fun _ => HS) (i := 31) rfl rfl (d := 54) rfl (by decide) (by kernel_rfl) (fun _ _ _ h => h) (v := .bool ((((markB (k - n)) : Int) : Int) == ((markB (k - n) : Int) : Int))) (fun _ => Yl.pure (by kernel_rfl)) ?_; clear HF; intro a HF
        replace HF := HF.as (t := 54) (u := .bool true) rfl (by simp)
        refine any_pures HF (fun _ => HS) (fun _ _ d _ _ h => by cases d <;> exact h) [32, 33, 34] #[true, true, true, true, true, true, true, true, true, true, true, true, true, true, true, true, true, true, true, true, true, true, true, true, true, true, true, true, true, true, true, true, true, true, true] [(57, .bool false), (56, .bool false), (55, .bool false)] (by kernel_rfl) ?_; clear HF; intro a HF
        refine any_done (by kernel_rfl) ?_
        replace HF := HF.sub (σ' := [(57, .bool false), (20, .bool true), (6, .int .i64 (k : Int)), (5, .slice (some ⟨gA, oA, none⟩) (n + 12) c), (11, .bool false), (4, .bool false), (0, .slice (some ⟨gA, oA, none⟩) n c), (1, .slice A2 n c2)]) (by kernel_rfl)
        exact ⟨HF.sub (by kernel_rfl), HM.picks [] (by decide) rfl⟩
    clear HF HM; rintro a w7 ⟨HF, HM⟩
    refine cond_false HF rfl ?_
    refine wp_skip ?_
    refine from_start ?_
    refine from_pures HF 2 0 (j := 2) [(22, .int .i64 (IntKind.i64.wrap ((k : Int) + 1))), (21, .int .i64 (k : Int))] (by kernel_rfl) rfl ?_; clear HF; intro a HF
    replace HF := HF.as (t := 22) (u := .int .i64 ((k + 1 : Nat) : Int)) rfl (by rw [IntWalk.i64_in _ (by omega)]; simp)
    refine from_pures HF 1 2 (j := 3) [(6, .int .i64 ((k + 1 : Nat) : Int))] (by kernel_rfl) rfl ?_; clear HF; intro a HF
    refine from_done rfl ?_
    replace HF := HF.sub (σ' := [(6, .int .i64 ((k + 1 : Nat) : Int)), (57, .bool false), (20, .bool true), (5, .slice A (n + 12) c), (11, .bool false), (4, .bool false), (0, .slice A n c), (1, .slice A2 n c2)]) (by kernel_rfl)
    exact ⟨_, (by omega), k + 1, by omega, rfl, HF.sub (by kernel_rfl), HM.picks [] (by decide) rfl⟩
  · have HF := HF.as (t := 20) (u := .bool false) rfl (by rw [hb20])
    refine cond_false HF rfl ?_
    refine wp_exit ?_
    refine wp_seq ?_
    refine from_start ?_
    refine from_pures HF 1 0 (j := 1) [(4, .bool true)] (by kernel_rfl) rfl ?_; clear HF; intro a HF
    refine from_done rfl ?_
    replace HF := HF.sub (σ' := [(4, .bool true), (20, .bool false), (6, .int .i64 (k : Int)), (5, .slice A (n + 12) c), (11, .bool false), (0, .slice A n c), (1, .slice A2 n c2)]) (by kernel_rfl)
    refine wp_ret ?_
    exact ret1 rfl HF (.tmp HF rfl) (⟨rfl, HM.below⟩)
end Go.Proofs.YtpekelggcmgnnaaDoor

/- quantumref07.right. -/
namespace Go.Proofs.YtpekelggcmgnnaaDoor
open Go.RowKit
set_option maxRecDepth 100000 in
set_option maxHeartbeats 4000000 in
theorem right07_any (b : Bs) (w : World) : Calls Tryd.prog 49 #[.agg b.cells] w (BoolPost w b.right) := by
  refine calls_enter (vs := [.agg b.cells]) Tryd.func49 rfl rfl (by kernel_rfl) (σ0 := [(0, .agg b.cells)]) rfl ?_
  intro a HF
  have HM := Mem.start w
  refine wp_seq ?_
  refine from_start ?_
  refine from_op HF (i := 0) rfl rfl ?_
  refine e_box HF HM (cs := b.cells) rfl rfl rfl rfl (by decide) ?_
  clear HF HM; intro a w1 g1 HF HM
  refine from_pures HF 1 1 (j := 2) [(2, .bool false)] (by kernel_rfl) rfl ?_; clear HF; intro a HF
  refine from_done rfl ?_
  replace HF := HF.sub (σ' := [(2, .bool false), (1, .pointer (some ⟨g1, 0, none⟩))]) (by kernel_rfl)
  refine wp_seq ?_
  refine from_start ?_
  refine from_pures HF 1 0 (j := 1) [(3, .pointer (some ⟨g1, 0, none⟩))] (by kernel_rfl) rfl ?_; clear HF; intro a HF
  refine from_yl (S := fun wS => Mem w wS _) HF HM (i := 1) rfl rfl (d := 4) rfl (by decide) (v := .int .i64 b.seq) (Yl.load1 rfl rfl (by kernel_rfl) (fun _ h => h.cell (i := 0) rfl rfl)) ?_; clear HF; intro a HF
  refine from_pures HF 2 2 (j := 4) [(6, .bool (decide ((b.seq : Int) ≥ (1 : Int)))), (5, .bool (decide ((b.seq : Int) ≥ (1 : Int))))] (by kernel_rfl) rfl ?_; clear HF; intro a HF
  rcases Bool.eq_false_or_eq_true (decide ((b.seq : Int) ≥ (1 : Int))) with hb6 | hb6
  · have HF := HF.as (t := 6) (u := .bool true) rfl (by rw [hb6])
    refine from_pures HF 1 4 (j := 5) [(7, .pointer (some ⟨g1, 0, none⟩))] (by kernel_rfl) rfl ?_; clear HF; intro a HF
    refine from_yl (S := fun wS => Mem w wS _) HF HM (i := 5) rfl rfl (d := 8) rfl (by decide) (v := .int .i64 b.seq) (Yl.load1 rfl rfl (by kernel_rfl) (fun _ h => h.cell (i := 0) rfl rfl)) ?_; clear HF; intro a HF
    refine from_pures HF 3 6 (j := 9) [(11, .bool (decide ((b.seq : Int) ≤ (281474976710656 : Int)))), (10, .bool (decide ((b.seq : Int) ≤ (281474976710656 : Int)))), (9, .bool (decide ((b.seq : Int) ≤ (281474976710656 : Int))))] (by kernel_rfl) rfl ?_; clear HF; intro a HF
    rcases Bool.eq_false_or_eq_true (decide ((b.seq : Int) ≤ (281474976710656 : Int))) with hb11 | hb11
    · have HF := HF.as (t := 11) (u := .bool true) rfl (by rw [hb11])
      refine from_pures HF 1 9 (j := 10) [(12, .pointer (some ⟨g1, 1, none⟩))] (by kernel_rfl) rfl ?_; clear HF; intro a HF
      refine from_yl (S := fun wS => Mem w wS _) HF HM (i := 10) rfl rfl (d := 13) rfl (by decide) (v := .int .i64 b.time) (Yl.load1 rfl rfl (by kernel_rfl) (fun _ h => h.cell (i := 0) rfl rfl)) ?_; clear HF; intro a HF
      refine from_pures HF 3 11 (j := 14) [(16, .bool (decide ((b.time : Int) ≥ (0 : Int)))), (15, .bool (decide ((b.time : Int) ≥ (0 : Int)))), (14, .bool (decide ((b.time : Int) ≥ (0 : Int))))] (by kernel_rfl) rfl ?_; clear HF; intro a HF
      rcases Bool.eq_false_or_eq_true (decide ((b.time : Int) ≥ (0 : Int))) with hb16 | hb16
      · have HF := HF.as (t := 16) (u := .bool true) rfl (by rw [hb16])
        refine from_pures HF 1 14 (j := 15) [(17, .pointer (some ⟨g1, 1, none⟩))] (by kernel_rfl) rfl ?_; clear HF; intro a HF
        refine from_yl (S := fun wS => Mem w wS _) HF HM (i := 15) rfl rfl (d := 18) rfl (by decide) (v := .int .i64 b.time) (Yl.load1 rfl rfl (by kernel_rfl) (fun _ h => h.cell (i := 0) rfl rfl)) ?_; clear HF; intro a HF
        refine from_pures HF 3 16 (j := 19) [(2, .bool (decide ((b.time : Int) ≤ (281474976710656 : Int)))), (20, .bool (decide ((b.time : Int) ≤ (281474976710656 : Int)))), (19, .bool (decide ((b.time : Int) ≤ (281474976710656 : Int))))] (by kernel_rfl) rfl ?_; clear HF; intro a HF
        refine from_done rfl ?_
        replace HF := HF.sub (σ' := [(2, .bool (decide ((b.time : Int) ≤ (281474976710656 : Int))))]) (by kernel_rfl)
        replace HM := HM.picks (fs' := []) [] (by decide) rfl
        refine wp_ret ?_
        exact ret1 rfl HF (.tmp HF rfl) (⟨congrArg (fun b => Ending.returned (.bool b)) (by unfold Bs.right; rw [Bool.eq_iff_iff]; (try simp at hb6); (try simp at hb11); (try simp at hb16); (try simp); (try omega)), HM.below⟩)
      · have HF := HF.as (t := 16) (u := .bool false) rfl (by rw [hb16])
        refine from_pures HF 5 14 (j := 19) [(2, .bool false), (20, .bool false), (19, undef), (18, undef), (17, undef)] (by kernel_rfl) rfl ?_; clear HF; intro a HF
        refine from_done rfl ?_
        replace HF := HF.sub (σ' := [(2, .bool false)]) (by kernel_rfl)
        replace HM := HM.picks (fs' := []) [] (by decide) rfl
        refine wp_ret ?_
        exact ret1 rfl HF (.tmp HF rfl) (⟨congrArg (fun b => Ending.returned (.bool b)) (by unfold Bs.right; rw [Bool.eq_iff_iff]; (try simp at hb6); (try simp at hb11); (try simp at hb16); (try simp); (try omega)), HM.below⟩)
    · have HF := HF.as (t := 11) (u := .bool false) rfl (by rw [hb11])
      refine from_pures HF 10 9 (j := 19) [(2, .bool false), (20, .bool false), (19, undef), (18, undef), (17, undef), (16, .bool false), (15, .bool false), (14, undef), (13, undef), (12, undef)] (by kernel_rfl) rfl ?_; clear HF; intro a HF
      refine from_done rfl ?_
      replace HF := HF.sub (σ' := [(2, .bool false)]) (by kernel_rfl)
      replace HM := HM.picks (fs' := []) [] (by decide) rfl
      refine wp_ret ?_
      exact ret1 rfl HF (.tmp HF rfl) (⟨congrArg (fun b => Ending.returned (.bool b)) (by unfold Bs.right; rw [Bool.eq_iff_iff]; (try simp at hb6); (try simp at hb11); (try simp); (try omega)), HM.below⟩)
  · have HF := HF.as (t := 6) (u := .bool false) rfl (by rw [hb6])
    refine from_pures HF 15 4 (j := 19) [(2, .bool false), (20, .bool false), (19, undef), (18, undef), (17, undef), (16, .bool false), (15, .bool false), (14, undef), (13, undef), (12, undef), (11, .bool false), (10, .bool false), (9, undef), (8, undef), (7, undef)] (by kernel_rfl) rfl ?_; clear HF; intro a HF
    refine from_done rfl ?_
    replace HF := HF.sub (σ' := [(2, .bool false)]) (by kernel_rfl)
    replace HM := HM.picks (fs' := []) [] (by decide) rfl
    refine wp_ret ?_
    exact ret1 rfl HF (.tmp HF rfl) (⟨congrArg (fun b => Ending.returned (.bool b)) (by unfold Bs.right; rw [Bool.eq_iff_iff]; (try simp at hb6); (try simp); (try omega)), HM.below⟩)
end Go.Proofs.YtpekelggcmgnnaaDoor

/- quantumref07.Put is what codec.Put is. -/
set_option linter.all false
namespace Go.Proofs.YtpekelggcmgnnaaDoor
open Go.RowKit
theorem u64_sub {x y : Int} (h : y ≤ x) (h2 : x - y < 9223372036854775808) : IntKind.u64.wrap (IntKind.i64.wrap (x - y)) = ((x - y).toNat : Int) := by
  rw [IntWalk.i64_in _ (by omega), IntKind.wrap_u64]; omega
theorem putErr_good {b : Bs} {e : Ev} (h : e.check = 0) (h2 : b.right = true ∧ b.behind e = true) : putErr b e = 0 := by unfold putErr; rw [if_neg (by simp [h]), if_pos h2]
theorem putOut_good {b : Bs} {e : Ev} (h : e.check = 0) (h2 : b.right = true ∧ b.behind e = true) : putOut b e = recBytes b e := by unfold putOut; rw [if_pos (putErr_good h h2)]
theorem putOut_bad {b : Bs} {e : Ev} (h : putErr b e ≠ 0) : putOut b e = [] := by unfold putOut; rw [if_neg h]
theorem vals_64 {e : Ev} (he : e.Ok) : ∀ x ∈ e.vals, x < 18446744073709551616 := by
  intro x hx
  unfold Ev.vals at hx
  obtain ⟨i, _, rfl⟩ := List.mem_map.1 hx
  have h1 := he.task.2; have h2 := he.group.2; have h3 := he.to.2; have h4 := he.weight.2; have h5 := he.ticks.2; have h6 := he.mask; have h7 := he.got.2
  unfold Ev.fld
  split <;> omega
set_option maxRecDepth 100000 in
set_option maxHeartbeats 4000000 in
theorem put07_any (b : Bs) (e : Ev) (he : e.Ok) (w : World) : Calls Tryd.prog 24 #[.agg b.cells, .agg e.cells] w (BytesIs w (putErr b e) (putOut b e)) := by
  refine calls_enter (vs := [.agg b.cells, .agg e.cells]) Tryd.func24 rfl rfl (by kernel_rfl) (σ0 := [(0, .agg b.cells), (1, .agg e.cells)]) rfl ?_
  intro a HF
  have HM := Mem.start w
  refine wp_seq ?_
  refine from_start ?_
  refine from_op HF (i := 0) rfl rfl ?_
  refine e_box HF HM (cs := b.cells) rfl rfl rfl rfl (by decide) ?_
  clear HF HM; intro a w2 g2 HF HM
  refine from_op HF (i := 1) rfl rfl ?_
  refine e_box HF HM (cs := e.cells) rfl rfl rfl rfl (by decide) ?_
  clear HF HM; intro a w3 g3 HF HM
  refine from_pures HF 2 2 (j := 4) [(5, .int .i64 0), (4, .slice none 0 0)] (by kernel_rfl) rfl ?_; clear HF; intro a HF
  refine from_done rfl ?_
  replace HF := HF.sub (σ' := [(5, .int .i64 0), (4, .slice none 0 0), (3, .pointer (some ⟨g3, 0, none⟩)), (2, .pointer (some ⟨g2, 0, none⟩))]) (by kernel_rfl)
  refine wp_seq ?_
  refine from_start ?_
  refine from_yl (S := fun wS => Mem w wS _) HF HM (i := 0) rfl rfl (d := 11) rfl (by decide) (v := .agg e.cells) (Yl.loadS rfl rfl ⟨(by kernel_rfl), (by kernel_rfl)⟩ rfl (fun _ h => range_of_block (h.blk (i := 0) rfl))) ?_; clear HF; intro a HF
  refine from_op HF (i := 1) rfl rfl ?_
  refine e_call HF (vs := [.agg e.cells]) rfl (by kernel_rfl) (by kernel_rfl) rfl (by decide) (values06_any e he _) ?_
  rintro _ w12 ⟨⟨v, rfl, ho⟩, hbw⟩
  obtain ⟨A12, c12, rfl, hc12⟩ := own_slice ho
  refine ⟨_, rfl, ?_⟩
  replace HM := HM.callRow hbw ho
  clear HF; intro a HF
  refine from_pures HF 5 2 (j := 7) [(7, .int .i64 (e.check : Int)), (6, .slice A12 e.outVals.length c12), (14, .int .i64 (e.check : Int)), (13, .slice A12 e.outVals.length c12), (10, .tuple #[.slice A12 e.outVals.length c12, .int .i64 (e.check : Int)])] (by kernel_rfl) rfl ?_; clear HF; intro a HF
  refine from_done rfl ?_
  replace HF := HF.sub (σ' := [(7, .int .i64 (e.check : Int)), (6, .slice A12 e.outVals.length c12), (5, .int .i64 0), (4, .slice none 0 0), (3, .pointer (some ⟨g3, 0, none⟩)), (2, .pointer (some ⟨g2, 0, none⟩))]) (by kernel_rfl)
  refine wp_seq ?_
  refine wp_seq ?_
  refine from_start ?_
  refine from_pures HF 2 0 (j := 2) [(16, .bool (((e.check : Int) : Int) != (0 : Int))), (15, .int .i64 (e.check : Int))] (by kernel_rfl) rfl ?_; clear HF; intro a HF
  refine from_done rfl ?_
  replace HF := HF.sub (σ' := [(16, .bool (((e.check : Int) : Int) != (0 : Int))), (7, .int .i64 (e.check : Int)), (6, .slice A12 e.outVals.length c12), (5, .int .i64 0), (4, .slice none 0 0), (3, .pointer (some ⟨g3, 0, none⟩)), (2, .pointer (some ⟨g2, 0, none⟩))]) (by kernel_rfl)
  rcases Bool.eq_false_or_eq_true (((e.check : Int) : Int) != (0 : Int)) with hb16 | hb16
  · have HF := HF.as (t := 16) (u := .bool true) rfl (by rw [hb16])
    have hbad : e.check ≠ 0 := by rw [bne_iff_ne] at hb16; omega
    refine cond_true HF rfl ?_
    refine wp_seq ?_
    refine from_start ?_
    refine from_pures HF 3 0 (j := 3) [(5, .int .i64 (e.check : Int)), (4, .slice none 0 0), (17, .int .i64 (e.check : Int))] (by kernel_rfl) rfl ?_; clear HF; intro a HF
    refine from_done rfl ?_
    replace HF := HF.sub (σ' := [(5, .int .i64 (e.check : Int)), (4, .slice none 0 0), (16, .bool true), (7, .int .i64 (e.check : Int)), (6, .slice A12 e.outVals.length c12), (3, .pointer (some ⟨g3, 0, none⟩)), (2, .pointer (some ⟨g2, 0, none⟩))]) (by kernel_rfl)
    refine wp_ret ?_
    exact ret2 rfl HF (.tmp HF rfl) (.tmp HF rfl) (⟨⟨none, 0, by rw [putOut_bad (by rw [show putErr b e = e.check from by unfold putErr; rw [if_pos hbad]]; exact hbad), show putErr b e = e.check from by unfold putErr; rw [if_pos hbad]]; rfl, by rw [putOut_bad (by rw [show putErr b e = e.check from by unfold putErr; rw [if_pos hbad]]; exact hbad)]; exact World.ownsRow_nil _ _ _ _, by rw [putOut_bad (by rw [show putErr b e = e.check from by unfold putErr; rw [if_pos hbad]]; exact hbad)]; exact Nat.le_refl _⟩, HM.below⟩)
  · have HF := HF.as (t := 16) (u := .bool false) rfl (by rw [hb16])
    have hgood : e.check = 0 := by rw [bne_eq_false_iff_eq] at hb16; omega
    have hov : e.outVals = e.vals := by unfold Ev.outVals; rw [if_pos hgood]
    obtain ⟨_, _, _, q1, q2, q3, q4⟩ := ok_vals hgood
    have hvl := vals_len e
    rw [← hov] at hvl
    have hx64 := vals_64 he
    refine cond_false HF rfl ?_
    refine wp_skip ?_
    refine wp_seq ?_
    refine cut_seq (fun aS wS => Fr aS 70 [] [(34, .bool (!(b.right && b.behind e))), (16, .bool false), (7, .int .i64 (e.check : Int)), (6, .slice A12 e.outVals.length c12), (5, .int .i64 0), (4, .slice none 0 0), (3, .pointer (some ⟨g3, 0, none⟩)), (2, .pointer (some ⟨g2, 0, none⟩))] ∧ Mem w wS [.row (.slice A12 e.outVals.length c12) e.outVals.length (e.outVals.map U64) 35 1, .blk g3 e.cells 64, .blk g2 b.cells 63]) ?_ ?_
    ·
      refine from_start ?_
      refine from_yl (S := fun wS => Mem w wS _) HF HM (i := 0) rfl rfl (d := 18) rfl (by decide) (v := .agg b.cells) (Yl.loadS rfl rfl ⟨(by kernel_rfl), (by kernel_rfl)⟩ rfl (fun _ h => range_of_block (h.blk (i := 2) rfl))) ?_; clear HF; intro a HF
      refine from_op HF (i := 1) rfl rfl ?_
      refine e_call HF (vs := [.agg b.cells]) rfl (by kernel_rfl) (by kernel_rfl) rfl (by decide) (right07_any b _) ?_
      rintro _ w19 ⟨rfl, hbw⟩
      refine ⟨_, rfl, ?_⟩
      replace HM := HM.call hbw
      clear HF; intro a HF
      refine from_pures HF 2 2 (j := 4) [(21, .bool (!b.right)), (20, .bool (!b.right))] (by kernel_rfl) rfl ?_; clear HF; intro a HF
      rcases Bool.eq_false_or_eq_true (!b.right) with hb21 | hb21
      · have HF := HF.as (t := 21) (u := .bool true) rfl (by rw [hb21])
        refine from_pures HF 13 4 (j := 17) [(34, .bool true), (33, undef), (32, undef), (31, undef), (30, undef), (29, undef), (28, .bool true), (27, .bool true), (26, undef), (25, undef), (24, undef), (23, undef), (22, undef)] (by kernel_rfl) rfl ?_; clear HF; intro a HF
        refine from_done rfl ?_
        replace HF := HF.sub (σ' := [(34, .bool true), (16, .bool false), (7, .int .i64 (e.check : Int)), (6, .slice A12 e.outVals.length c12), (5, .int .i64 0), (4, .slice none 0 0), (3, .pointer (some ⟨g3, 0, none⟩)), (2, .pointer (some ⟨g2, 0, none⟩))]) (by kernel_rfl)
        have HF := HF.as (t := 34) (u := .bool (!(b.right && b.behind e))) rfl (congrArg Value.bool (by unfold Bs.behind; (try simp at hb16); (try simp at hb21); rw [Bool.eq_iff_iff]; (try simp [hb16, hb21]); (try omega)))
        exact ⟨HF.sub (by kernel_rfl), HM.picks [0, 1, 2] (by decide) rfl⟩
      · have HF := HF.as (t := 21) (u := .bool false) rfl (by rw [hb21])
        refine from_pures HF 1 4 (j := 5) [(22, .pointer (some ⟨g3, 0, none⟩))] (by kernel_rfl) rfl ?_; clear HF; intro a HF
        refine from_yl (S := fun wS => Mem w wS _) HF HM (i := 5) rfl rfl (d := 23) rfl (by decide) (v := .int .i64 e.seq) (Yl.load1 rfl rfl (by kernel_rfl) (fun _ h => h.cell (i := 1) rfl rfl)) ?_; clear HF; intro a HF
        refine from_pures HF 1 6 (j := 7) [(24, .pointer (some ⟨g2, 0, none⟩))] (by kernel_rfl) rfl ?_; clear HF; intro a HF
        refine from_yl (S := fun wS => Mem w wS _) HF HM (i := 7) rfl rfl (d := 25) rfl (by decide) (v := .int .i64 b.seq) (Yl.load1 rfl rfl (by kernel_rfl) (fun _ h => h.cell (i := 2) rfl rfl)) ?_; clear HF; intro a HF
        refine from_pures HF 3 8 (j := 11) [(28, .bool (decide ((e.seq : Int) < (b.seq : Int)))), (27, .bool (decide ((e.seq : Int) < (b.seq : Int)))), (26, .bool (decide ((e.seq : Int) < (b.seq : Int))))] (by kernel_rfl) rfl ?_; clear HF; intro a HF
        rcases Bool.eq_false_or_eq_true (decide ((e.seq : Int) < (b.seq : Int))) with hb28 | hb28
        · have HF := HF.as (t := 28) (u := .bool true) rfl (by rw [hb28])
          refine from_pures HF 6 11 (j := 17) [(34, .bool true), (33, undef), (32, undef), (31, undef), (30, undef), (29, undef)] (by kernel_rfl) rfl ?_; clear HF; intro a HF
          refine from_done rfl ?_
          replace HF := HF.sub (σ' := [(34, .bool true), (16, .bool false), (7, .int .i64 (e.check : Int)), (6, .slice A12 e.outVals.length c12), (5, .int .i64 0), (4, .slice none 0 0), (3, .pointer (some ⟨g3, 0, none⟩)), (2, .pointer (some ⟨g2, 0, none⟩))]) (by kernel_rfl)
          have HF := HF.as (t := 34) (u := .bool (!(b.right && b.behind e))) rfl (congrArg Value.bool (by unfold Bs.behind; (try simp at hb16); (try simp at hb21); (try simp at hb28); rw [Bool.eq_iff_iff]; (try simp [hb16, hb21, hb28]); (try omega)))
          exact ⟨HF.sub (by kernel_rfl), HM.picks [0, 1, 2] (by decide) rfl⟩
        · have HF := HF.as (t := 28) (u := .bool false) rfl (by rw [hb28])
          refine from_pures HF 1 11 (j := 12) [(29, .pointer (some ⟨g3, 1, none⟩))] (by kernel_rfl) rfl ?_; clear HF; intro a HF
          refine from_yl (S := fun wS => Mem w wS _) HF HM (i := 12) rfl rfl (d := 30) rfl (by decide) (v := .int .i64 e.time) (Yl.load1 rfl rfl (by kernel_rfl) (fun _ h => h.cell (i := 1) rfl rfl)) ?_; clear HF; intro a HF
          refine from_pures HF 1 13 (j := 14) [(31, .pointer (some ⟨g2, 1, none⟩))] (by kernel_rfl) rfl ?_; clear HF; intro a HF
          refine from_yl (S := fun wS => Mem w wS _) HF HM (i := 14) rfl rfl (d := 32) rfl (by decide) (v := .int .i64 b.time) (Yl.load1 rfl rfl (by kernel_rfl) (fun _ h => h.cell (i := 2) rfl rfl)) ?_; clear HF; intro a HF
          refine from_pures HF 2 15 (j := 17) [(34, .bool (decide ((e.time : Int) < (b.time : Int)))), (33, .bool (decide ((e.time : Int) < (b.time : Int))))] (by kernel_rfl) rfl ?_; clear HF; intro a HF
          refine from_done rfl ?_
          replace HF := HF.sub (σ' := [(34, .bool (decide ((e.time : Int) < (b.time : Int)))), (16, .bool false), (7, .int .i64 (e.check : Int)), (6, .slice A12 e.outVals.length c12), (5, .int .i64 0), (4, .slice none 0 0), (3, .pointer (some ⟨g3, 0, none⟩)), (2, .pointer (some ⟨g2, 0, none⟩))]) (by kernel_rfl)
          have HF := HF.as (t := 34) (u := .bool (!(b.right && b.behind e))) rfl (congrArg Value.bool (by unfold Bs.behind; (try simp at hb16); (try simp at hb21); (try simp at hb28); rw [Bool.eq_iff_iff]; (try simp [hb16, hb21, hb28]); (try omega)))
          exact ⟨HF.sub (by kernel_rfl), HM.picks [0, 1, 2] (by decide) rfl⟩
    clear HF HM; rintro a w4 ⟨HF, HM⟩
    rcases Bool.eq_false_or_eq_true (!(b.right && b.behind e)) with hb34 | hb34
    · have HF := HF.as (t := 34) (u := .bool true) rfl (by rw [hb34])
      have hrb : ¬ (b.right = true ∧ b.behind e = true) := by intro h; rw [h.1, h.2] at hb34; cases hb34
      refine cond_true HF rfl ?_
      refine wp_seq ?_
      refine from_start ?_
      refine from_pures HF 2 0 (j := 2) [(5, .int .i64 70), (4, .slice none 0 0)] (by kernel_rfl) rfl ?_; clear HF; intro a HF
      refine from_done rfl ?_
      replace HF := HF.sub (σ' := [(5, .int .i64 70), (4, .slice none 0 0), (34, .bool true), (16, .bool false), (7, .int .i64 (e.check : Int)), (6, .slice A12 e.outVals.length c12), (3, .pointer (some ⟨g3, 0, none⟩)), (2, .pointer (some ⟨g2, 0, none⟩))]) (by kernel_rfl)
      refine wp_ret ?_
      exact ret2 rfl HF (.tmp HF rfl) (.tmp HF rfl) (⟨⟨none, 0, by rw [putOut_bad (by rw [show putErr b e = 70 from by unfold putErr; rw [if_neg (by simp [hgood]), if_neg hrb]]; decide), show putErr b e = 70 from by unfold putErr; rw [if_neg (by simp [hgood]), if_neg hrb]]; rfl, by rw [putOut_bad (by rw [show putErr b e = 70 from by unfold putErr; rw [if_neg (by simp [hgood]), if_neg hrb]]; decide)]; exact World.ownsRow_nil _ _ _ _, by rw [putOut_bad (by rw [show putErr b e = 70 from by unfold putErr; rw [if_neg (by simp [hgood]), if_neg hrb]]; decide)]; exact Nat.le_refl _⟩, HM.below⟩)
    · have HF := HF.as (t := 34) (u := .bool false) rfl (by rw [hb34])
      have hrb : b.right = true ∧ b.behind e = true := by simpa using hb34
      have hbr := hrb.1
      have hbb := hrb.2
      unfold Bs.right at hbr
      unfold Bs.behind at hbb
      simp only [decide_eq_true_eq] at hbr hbb
      refine cond_false HF rfl ?_
      refine wp_skip ?_
      refine wp_seq ?_
      refine from_start ?_
      refine from_pures HF 1 0 (j := 1) [(35, .pointer (some ⟨g3, 3, none⟩))] (by kernel_rfl) rfl ?_; clear HF; intro a HF
      refine from_yl (S := fun wS => Mem w wS _) HF HM (i := 1) rfl rfl (d := 36) rfl (by decide) (v := .int .u8 (e.kind : Int)) (Yl.load1 rfl rfl (by kernel_rfl) (fun _ h => h.cell (i := 1) rfl rfl)) ?_; clear HF; intro a HF
      refine from_op HF (i := 2) rfl rfl ?_
      refine e_slice HF HM (vs := [(0, .int .u8 (e.kind : Int))]) (cs := #[.int .u8 (e.kind : Int)]) rfl ei_u8 (by decide) rfl (by kernel_rfl) rfl (by decide) ?_
      clear HF HM; intro a w37 g37 HF HM
      refine from_pures HF 1 3 (j := 4) [(8, .slice (some ⟨g37, 0, none⟩) 1 1)] (by kernel_rfl) rfl ?_; clear HF; intro a HF
      refine from_done rfl ?_
      replace HF := HF.sub (σ' := [(8, .slice (some ⟨g37, 0, none⟩) 1 1), (34, .bool false), (16, .bool false), (7, .int .i64 (e.check : Int)), (6, .slice A12 e.outVals.length c12), (5, .int .i64 0), (4, .slice none 0 0), (3, .pointer (some ⟨g3, 0, none⟩)), (2, .pointer (some ⟨g2, 0, none⟩))]) (by kernel_rfl)
      refine wp_seq ?_
      refine from_start ?_
      refine from_pures HF 2 0 (j := 2) [(39, .pointer (some ⟨g3, 0, none⟩)), (38, .slice (some ⟨g37, 0, none⟩) 1 1)] (by kernel_rfl) rfl ?_; clear HF; intro a HF
      refine from_yl (S := fun wS => Mem w wS _) HF HM (i := 2) rfl rfl (d := 40) rfl (by decide) (v := .int .i64 e.seq) (Yl.load1 rfl rfl (by kernel_rfl) (fun _ h => h.cell (i := 2) rfl rfl)) ?_; clear HF; intro a HF
      refine from_pures HF 1 3 (j := 4) [(41, .pointer (some ⟨g2, 0, none⟩))] (by kernel_rfl) rfl ?_; clear HF; intro a HF
      refine from_yl (S := fun wS => Mem w wS _) HF HM (i := 4) rfl rfl (d := 42) rfl (by decide) (v := .int .i64 b.seq) (Yl.load1 rfl rfl (by kernel_rfl) (fun _ h => h.cell (i := 3) rfl rfl)) ?_; clear HF; intro a HF
      refine from_pures HF 2 5 (j := 7) [(44, .int .u64 (IntKind.u64.wrap (IntKind.i64.wrap (e.seq - b.seq)))), (43, .int .i64 (IntKind.i64.wrap (e.seq - b.seq)))] (by kernel_rfl) rfl ?_; clear HF; intro a HF
      replace HF := HF.as (t := 44) (u := .int .u64 ((e.seq - b.seq).toNat : Int)) rfl (by rw [u64_sub (by omega) (by omega)])
      refine from_op HF (i := 7) rfl rfl ?_
      refine e_call HF (vs := [.int .u64 ((e.seq - b.seq).toNat : Int)]) rfl (by kernel_rfl) (by kernel_rfl) rfl (by decide) (write01_any ((e.seq - b.seq).toNat) _ (by omega)) ?_
      rintro _ w45 ⟨v, rfl, ho, hbw⟩
      obtain ⟨A45, c45, rfl, hc45⟩ := own_slice ho
      have hl45 := vbytes_length ((e.seq - b.seq).toNat)
      refine ⟨_, rfl, ?_⟩
      replace HM := HM.callRow hbw ho
      clear HF; intro a HF
      refine from_op HF (i := 8) rfl rfl ?_
      replace HM := HM.blkRow (i := 1) (n := 1) (size := 1) rfl rfl (by decide)
      refine e_append HF HM (i := 1) rfl ei_u8 rfl rfl rfl (news := ((vbytes ((e.seq - b.seq).toNat)).map B8)) (HM.rd (i := 0) rfl) (one_B8 _) (by omega) (by omega) rfl (by decide) ?_
      clear HF HM; intro a w46 A46 c46 HF HM hc46
      refine from_pures HF 1 9 (j := 10) [(8, .slice A46 (1 + ((vbytes ((e.seq - b.seq).toNat)).length)) c46)] (by kernel_rfl) rfl ?_; clear HF; intro a HF
      refine from_done rfl ?_
      replace HF := HF.sub (σ' := [(8, .slice A46 (1 + ((vbytes ((e.seq - b.seq).toNat)).length)) c46), (34, .bool false), (16, .bool false), (7, .int .i64 (e.check : Int)), (6, .slice A12 e.outVals.length c12), (5, .int .i64 0), (4, .slice none 0 0), (3, .pointer (some ⟨g3, 0, none⟩)), (2, .pointer (some ⟨g2, 0, none⟩))]) (by kernel_rfl)
      replace HM := HM.picks (fs' := [.row (.slice A46 (1 + ((vbytes ((e.seq - b.seq).toNat)).length)) c46) (1 + ((vbytes ((e.seq - b.seq).toNat)).length)) (((#[.int .u8 (e.kind : Int)]).toList) ++ ((vbytes ((e.seq - b.seq).toNat)).map B8)) 5 1, .row (.slice A12 e.outVals.length c12) e.outVals.length (e.outVals.map U64) 35 1, .blk g3 e.cells 64, .blk g2 b.cells 63]) [1, 2, 3, 4] (by decide) rfl
      refine wp_seq ?_
      refine from_start ?_
      refine from_pures HF 2 0 (j := 2) [(48, .pointer (some ⟨g3, 1, none⟩)), (47, .slice A46 (1 + ((vbytes ((e.seq - b.seq).toNat)).length)) c46)] (by kernel_rfl) rfl ?_; clear HF; intro a HF
      refine from_yl (S := fun wS => Mem w wS _) HF HM (i := 2) rfl rfl (d := 49) rfl (by decide) (v := .int .i64 e.time) (Yl.load1 rfl rfl (by kernel_rfl) (fun _ h => h.cell (i := 2) rfl rfl)) ?_; clear HF; intro a HF
      refine from_pures HF 1 3 (j := 4) [(50, .pointer (some ⟨g2, 1, none⟩))] (by kernel_rfl) rfl ?_; clear HF; intro a HF
      refine from_yl (S := fun wS => Mem w wS _) HF HM (i := 4) rfl rfl (d := 51) rfl (by decide) (v := .int .i64 b.time) (Yl.load1 rfl rfl (by kernel_rfl) (fun _ h => h.cell (i := 3) rfl rfl)) ?_; clear HF; intro a HF
      refine from_pures HF 2 5 (j := 7) [(53, .int .u64 (IntKind.u64.wrap (IntKind.i64.wrap (e.time - b.time)))), (52, .int .i64 (IntKind.i64.wrap (e.time - b.time)))] (by kernel_rfl) rfl ?_; clear HF; intro a HF
      replace HF := HF.as (t := 53) (u := .int .u64 ((e.time - b.time).toNat : Int)) rfl (by rw [u64_sub (by omega) (by omega)])
      refine from_op HF (i := 7) rfl rfl ?_
      refine e_call HF (vs := [.int .u64 ((e.time - b.time).toNat : Int)]) rfl (by kernel_rfl) (by kernel_rfl) rfl (by decide) (write01_any ((e.time - b.time).toNat) _ (by omega)) ?_
      rintro _ w54 ⟨v, rfl, ho, hbw⟩
      obtain ⟨A54, c54, rfl, hc54⟩ := own_slice ho
      have hl54 := vbytes_length ((e.time - b.time).toNat)
      refine ⟨_, rfl, ?_⟩
      replace HM := HM.callRow hbw ho
      clear HF; intro a HF
      refine from_op HF (i := 8) rfl rfl ?_
      refine e_append HF HM (i := 1) rfl ei_u8 rfl rfl rfl (news := ((vbytes ((e.time - b.time).toNat)).map B8)) (HM.rd (i := 0) rfl) (one_B8 _) (by omega) (by omega) rfl (by decide) ?_
      clear HF HM; intro a w55 A55 c55 HF HM hc55
      refine from_pures HF 1 9 (j := 10) [(8, .slice A55 ((1 + ((vbytes ((e.seq - b.seq).toNat)).length)) + ((vbytes ((e.time - b.time).toNat)).length)) c55)] (by kernel_rfl) rfl ?_; clear HF; intro a HF
      refine from_done rfl ?_
      replace HF := HF.sub (σ' := [(8, .slice A55 ((1 + ((vbytes ((e.seq - b.seq).toNat)).length)) + ((vbytes ((e.time - b.time).toNat)).length)) c55), (34, .bool false), (16, .bool false), (7, .int .i64 (e.check : Int)), (6, .slice A12 e.outVals.length c12), (5, .int .i64 0), (4, .slice none 0 0), (3, .pointer (some ⟨g3, 0, none⟩)), (2, .pointer (some ⟨g2, 0, none⟩))]) (by kernel_rfl)
      replace HM := HM.picks (fs' := [.row (.slice A55 ((1 + ((vbytes ((e.seq - b.seq).toNat)).length)) + ((vbytes ((e.time - b.time).toNat)).length)) c55) ((1 + ((vbytes ((e.seq - b.seq).toNat)).length)) + ((vbytes ((e.time - b.time).toNat)).length)) ((((#[.int .u8 (e.kind : Int)]).toList) ++ ((vbytes ((e.seq - b.seq).toNat)).map B8)) ++ ((vbytes ((e.time - b.time).toNat)).map B8)) 5 1, .row (.slice A12 e.outVals.length c12) e.outVals.length (e.outVals.map U64) 35 1, .blk g3 e.cells 64, .blk g2 b.cells 63]) [1, 2, 3, 4] (by decide) rfl
      have hn55 : (1 + ((vbytes ((e.seq - b.seq).toNat)).length)) + ((vbytes ((e.time - b.time).toNat)).length) = (putUp b e 0).length := by rw [putUp_zero]; simp; try omega
      rw [hn55] at HM hc55
      rw [show (((#[.int .u8 (e.kind : Int)]).toList) ++ ((vbytes ((e.seq - b.seq).toNat)).map B8)) ++ ((vbytes ((e.time - b.time).toNat)).map B8) = (putUp b e 0).map B8 from by simp [putUp_zero, B8]] at HM
      replace HF := HF.as (t := 8) (u := .slice A55 ((putUp b e 0).length) c55) rfl (by rw [hn55])
      refine wp_seq ?_
      refine wp_seq ?_
      refine from_start ?_
      refine from_pures HF 1 0 (j := 1) [(9, .int .i64 0)] (by kernel_rfl) rfl ?_; clear HF; intro a HF
      refine from_done rfl ?_
      replace HF := HF.sub (σ' := [(9, .int .i64 0), (8, .slice A55 ((putUp b e 0).length) c55), (34, .bool false), (16, .bool false), (7, .int .i64 (e.check : Int)), (6, .slice A12 e.outVals.length c12), (5, .int .i64 0), (4, .slice none 0 0), (3, .pointer (some ⟨g3, 0, none⟩)), (2, .pointer (some ⟨g2, 0, none⟩))]) (by kernel_rfl)
      refine wp_block ?_
      refine loop_nat (fun mS aS wS => ∃ (k : Nat) (Ak : Option Addr) (ck : Nat), (k ≤ e.outVals.length) ∧ ((putUp b e k).length ≤ ck) ∧ mS = e.outVals.length - k ∧ Fr aS 70 [] [(9, .int .i64 (k : Int)), (8, .slice Ak ((putUp b e k).length) ck), (34, .bool false), (16, .bool false), (7, .int .i64 (e.check : Int)), (6, .slice A12 e.outVals.length c12), (5, .int .i64 0), (4, .slice none 0 0), (3, .pointer (some ⟨g3, 0, none⟩)), (2, .pointer (some ⟨g2, 0, none⟩))] ∧ Mem w wS [.row (.slice Ak ((putUp b e k).length) ck) ((putUp b e k).length) ((putUp b e k).map B8) 5 1, .row (.slice A12 e.outVals.length c12) e.outVals.length (e.outVals.map U64) 35 1, .blk g3 e.cells 64, .blk g2 b.cells 63]) (m := e.outVals.length - 0) ⟨0, A55, c55, Nat.zero_le _, hc55, rfl, HF.sub (by kernel_rfl), HM.picks [0, 1, 2, 3] (by decide) rfl⟩ ?_
      clear HF HM; rintro mS a w_ ⟨k, Ak, ck, hk, hck, rfl, HF, HM⟩
      refine wp_seq ?_
      refine wp_seq ?_
      refine from_start ?_
      refine from_pures HF 2 0 (j := 2) [(57, .slice A12 e.outVals.length c12), (56, .int .i64 (k : Int))] (by kernel_rfl) rfl ?_; clear HF; intro a HF
      refine from_yl (S := fun wS => Mem w wS _) HF HM (i := 2) rfl rfl (d := 58) rfl (by decide) (v := .int .i64 ((e.outVals.length : Nat) : Int)) (Yl.len rfl rfl (by kernel_rfl)) ?_; clear HF; intro a HF
      refine from_pures HF 1 3 (j := 4) [(59, .bool (decide (((k : Int) : Int) < (((e.outVals.length : Nat) : Int) : Int))))] (by kernel_rfl) rfl ?_; clear HF; intro a HF
      refine from_done rfl ?_
      replace HF := HF.sub (σ' := [(59, .bool (decide (((k : Int) : Int) < (((e.outVals.length : Nat) : Int) : Int)))), (9, .int .i64 (k : Int)), (8, .slice Ak ((putUp b e k).length) ck), (34, .bool false), (16, .bool false), (7, .int .i64 (e.check : Int)), (6, .slice A12 e.outVals.length c12), (5, .int .i64 0), (4, .slice none 0 0), (3, .pointer (some ⟨g3, 0, none⟩)), (2, .pointer (some ⟨g2, 0, none⟩))]) (by kernel_rfl)
      rcases Bool.eq_false_or_eq_true (decide (((k : Int) : Int) < (((e.outVals.length : Nat) : Int) : Int))) with hb59 | hb59
      · have HF := HF.as (t := 59) (u := .bool true) rfl (by rw [hb59])
        have hk59 : k < e.outVals.length := by simp only [decide_eq_true_eq] at hb59; omega
        obtain ⟨x, hx⟩ : ∃ x, e.vals[k]? = some x := ⟨_, List.getElem?_eq_getElem (by rw [← hov]; exact hk59)⟩
        have hpl := putUp_len b e k
        refine cond_true HF rfl ?_
        refine wp_skip ?_
        refine wp_seq ?_
        refine wp_block ?_
        refine from_start ?_
        refine from_pures HF 3 0 (j := 3) [(64, .int .i64 (k : Int)), (63, .slice A12 e.outVals.length c12), (62, .slice Ak ((putUp b e k).length) ck)] (by kernel_rfl) rfl ?_; clear HF; intro a HF
        obtain ⟨gA12, rfl⟩ := own_some (HM.own (i := 1) rfl) (Nat.lt_of_le_of_lt (Nat.zero_le _) (show k < e.outVals.length from hk59))
        refine from_yl (S := fun wS => Mem w wS _) HF HM (i := 3) rfl rfl (d := 65) rfl (by decide) (v := .pointer (some ⟨gA12, k * 1, none⟩)) ((Yl.indexAddr (ad := ⟨gA12, 0, none⟩) (y := k) (sz := 1) rfl rfl rfl (hk59) (by kernel_rfl)).as (by rw [Addr.add_mid, Nat.zero_add])) ?_; clear HF; intro a HF
        refine from_yl (S := fun wS => Mem w wS _) HF HM (i := 4) rfl rfl (d := 66) rfl (by decide) (v := .int .u64 (x : Int)) (Yl.load1 rfl rfl (by kernel_rfl) (fun _ h => h.rowOne (i := 1) rfl (k := k) (map_at (F := U64) (k := k) (x := x) (by rw [hov]; exact hx)))) ?_; clear HF; intro a HF
        refine from_op HF (i := 5) rfl rfl ?_
        refine e_call HF (vs := [.int .u64 (x : Int)]) rfl (by kernel_rfl) (by kernel_rfl) rfl (by decide) (write01_any x _ (hx64 _ (List.mem_of_getElem? hx))) ?_
        rintro _ w67 ⟨v, rfl, ho, hbw⟩
        obtain ⟨A67, c67, rfl, hc67⟩ := own_slice ho
        have hl67 := vbytes_length x
        refine ⟨_, rfl, ?_⟩
        replace HM := HM.callRow hbw ho
        clear HF; intro a HF
        refine from_op HF (i := 6) rfl rfl ?_
        refine e_append HF HM (i := 1) rfl ei_u8 rfl rfl rfl (news := ((vbytes x).map B8)) (HM.rd (i := 0) rfl) (one_B8 _) (by omega) (by omega) rfl (by decide) ?_
        clear HF HM; intro a w68 A68 c68 HF HM hc68
        refine from_pures HF 1 7 (j := 8) [(8, .slice A68 (((putUp b e k).length) + ((vbytes x).length)) c68)] (by kernel_rfl) rfl ?_; clear HF; intro a HF
        refine from_done rfl ?_
        replace HF := HF.sub (σ' := [(8, .slice A68 (((putUp b e k).length) + ((vbytes x).length)) c68), (59, .bool true), (9, .int .i64 (k : Int)), (34, .bool false), (16, .bool false), (7, .int .i64 (e.check : Int)), (6, .slice (some ⟨gA12, 0, none⟩) e.outVals.length c12), (5, .int .i64 0), (4, .slice none 0 0), (3, .pointer (some ⟨g3, 0, none⟩)), (2, .pointer (some ⟨g2, 0, none⟩))]) (by kernel_rfl)
        replace HM := HM.picks (fs' := [.row (.slice A68 (((putUp b e k).length) + ((vbytes x).length)) c68) (((putUp b e k).length) + ((vbytes x).length)) (((putUp b e k).map B8) ++ ((vbytes x).map B8)) 5 1, .row (.slice (some ⟨gA12, 0, none⟩) e.outVals.length c12) e.outVals.length (e.outVals.map U64) 35 1, .blk g3 e.cells 64, .blk g2 b.cells 63]) [1, 2, 3, 4] (by decide) rfl
        have hn68 : ((putUp b e k).length) + ((vbytes x).length) = (putUp b e (k + 1)).length := by rw [putUp_succ hx]; simp
        rw [hn68] at HM hc68
        rw [show ((putUp b e k).map B8) ++ ((vbytes x).map B8) = (putUp b e (k + 1)).map B8 from by rw [putUp_succ hx, List.map_append]] at HM
        replace HF := HF.as (t := 8) (u := .slice A68 ((putUp b e (k + 1)).length) c68) rfl (by rw [hn68])
        refine from_start ?_
        refine from_pures HF 2 0 (j := 2) [(61, .int .i64 (IntKind.i64.wrap ((k : Int) + 1))), (60, .int .i64 (k : Int))] (by kernel_rfl) rfl ?_; clear HF; intro a HF
        replace HF := HF.as (t := 61) (u := .int .i64 ((k + 1 : Nat) : Int)) rfl (by rw [IntWalk.i64_in _ (by omega)]; simp)
        refine from_pures HF 1 2 (j := 3) [(9, .int .i64 ((k + 1 : Nat) : Int))] (by kernel_rfl) rfl ?_; clear HF; intro a HF
        refine from_done rfl ?_
        replace HF := HF.sub (σ' := [(9, .int .i64 ((k + 1 : Nat) : Int)), (8, .slice A68 ((putUp b e (k + 1)).length) c68), (59, .bool true), (34, .bool false), (16, .bool false), (7, .int .i64 (e.check : Int)), (6, .slice (some ⟨gA12, 0, none⟩) e.outVals.length c12), (5, .int .i64 0), (4, .slice none 0 0), (3, .pointer (some ⟨g3, 0, none⟩)), (2, .pointer (some ⟨g2, 0, none⟩))]) (by kernel_rfl)
        exact ⟨_, (by omega), k + 1, A68, c68, hk59, hc68, rfl, HF.sub (by kernel_rfl), HM.picks [0, 1, 2, 3] (by decide) rfl⟩
      · have HF := HF.as (t := 59) (u := .bool false) rfl (by rw [hb59])
        obtain rfl : k = e.vals.length := by rw [hov] at hb59 hk; simp only [decide_eq_false_iff_not] at hb59; omega
        refine cond_false HF rfl ?_
        refine wp_exit ?_
        refine wp_seq ?_
        refine from_start ?_
        refine from_pures HF 3 0 (j := 3) [(5, .int .i64 0), (4, .slice Ak ((putUp b e e.vals.length).length) ck), (69, .slice Ak ((putUp b e e.vals.length).length) ck)] (by kernel_rfl) rfl ?_; clear HF; intro a HF
        refine from_done rfl ?_
        replace HF := HF.sub (σ' := [(5, .int .i64 0), (4, .slice Ak ((putUp b e e.vals.length).length) ck), (59, .bool false), (9, .int .i64 (e.vals.length : Int)), (8, .slice Ak ((putUp b e e.vals.length).length) ck), (34, .bool false), (16, .bool false), (7, .int .i64 (e.check : Int)), (6, .slice A12 e.outVals.length c12), (3, .pointer (some ⟨g3, 0, none⟩)), (2, .pointer (some ⟨g2, 0, none⟩))]) (by kernel_rfl)
        refine wp_ret ?_
        exact ret2 rfl HF (.tmp HF rfl) (.tmp HF rfl) (⟨⟨Ak, ck, by rw [putOut_good hgood hrb, putErr_good hgood hrb, ← putUp_all]; rfl, by rw [putOut_good hgood hrb, ← putUp_all]; exact HM.own (i := 0) rfl, by rw [putOut_good hgood hrb, ← putUp_all]; exact hck⟩, HM.below⟩)
end Go.Proofs.YtpekelggcmgnnaaDoor

/- quantumref07.Row is what codec.Row is. -/
set_option linter.all false
namespace Go.Proofs.YtpekelggcmgnnaaDoor
open Go.RowKit
set_option maxRecDepth 100000 in
set_option maxHeartbeats 4000000 in
theorem row07_any (A : Option Addr) (n c : Nat) (l : List Ev) (hok : ∀ e ∈ l, e.Ok) (w : World) (hr : Rd w w.heap.size 11 A n (l.flatMap evL)) (hn : n ≤ 140737488355328) (hln : l.length = n) :
    Calls Tryd.prog 27 #[.slice A n c] w (RowPost w (rowR l)) := by
  refine calls_enter (vs := [.slice A n c]) Tryd.func27 rfl rfl (by kernel_rfl) (σ0 := [(0, .slice A n c)]) rfl ?_
  intro a HF
  have HM := Mem.start w
  refine wp_seq ?_
  refine from_start ?_
  refine from_pures HF 2 0 (j := 2) [(3, .int .i64 0), (2, .int .i64 0)] (by kernel_rfl) rfl ?_; clear HF; intro a HF
  refine from_done rfl ?_
  refine wp_seq ?_
  refine wp_seq ?_
  refine from_start ?_
  refine from_pures HF 1 0 (j := 1) [(4, .int .i64 0)] (by kernel_rfl) rfl ?_; clear HF; intro a HF
  refine from_done rfl ?_
  refine wp_block ?_
  refine loop_nat (fun mS aS wS => ∃ (k : Nat), (k ≤ n) ∧ (rowR l = rowGo (prevOf l k) k (l.drop k)) ∧ mS = n - k ∧ Fr aS 66 [] [(4, .int .i64 (k : Int)), (3, .int .i64 0), (2, .int .i64 0), (0, .slice A n c)] ∧ Mem w wS []) (m := n - 0) ⟨0, Nat.zero_le _, rfl, rfl, HF.sub (by kernel_rfl), HM.picks [] (by decide) rfl⟩ ?_
  clear HF HM; rintro mS a w_ ⟨k, hk, hj, rfl, HF, HM⟩
  refine wp_seq ?_
  refine wp_seq ?_
  refine from_start ?_
  refine from_pures HF 2 0 (j := 2) [(7, .slice A n c), (6, .int .i64 (k : Int))] (by kernel_rfl) rfl ?_; clear HF; intro a HF
  refine from_yl (S := fun wS => Mem w wS _) HF HM (i := 2) rfl rfl (d := 8) rfl (by decide) (v := .int .i64 ((n : Nat) : Int)) (Yl.len rfl rfl (by kernel_rfl)) ?_; clear HF; intro a HF
  refine from_pures HF 1 3 (j := 4) [(9, .bool (decide (((k : Int) : Int) < (((n : Nat) : Int) : Int))))] (by kernel_rfl) rfl ?_; clear HF; intro a HF
  refine from_done rfl ?_
  replace HF := HF.sub (σ' := [(9, .bool (decide (((k : Int) : Int) < (((n : Nat) : Int) : Int)))), (4, .int .i64 (k : Int)), (3, .int .i64 0), (2, .int .i64 0), (0, .slice A n c)]) (by kernel_rfl)
  rcases Bool.eq_false_or_eq_true (decide (((k : Int) : Int) < (((n : Nat) : Int) : Int))) with hb9 | hb9
  · have HF := HF.as (t := 9) (u := .bool true) rfl (by rw [hb9])
    have hk9 : k < n := by simp at hb9; omega
    obtain ⟨e, hke⟩ : ∃ e, l[k]? = some e := ⟨_, List.getElem?_eq_getElem (by omega)⟩
    have hgo := rowGo_next hke
    refine cond_true HF rfl ?_
    refine wp_skip ?_
    refine wp_seq ?_
    refine wp_block ?_
    refine wp_seq ?_
    refine wp_seq ?_
    refine from_start ?_
    refine from_pures HF 2 0 (j := 2) [(13, .int .i64 (k : Int)), (12, .slice A n c)] (by kernel_rfl) rfl ?_; clear HF; intro a HF
    obtain ⟨gA, oA, rfl, _⟩ := hr.some_at (Nat.lt_of_le_of_lt (Nat.zero_le _) (show k < n from hk9)) (by decide)
    refine from_yl (S := fun wS => Mem w wS _) HF HM (i := 2) rfl rfl (d := 14) rfl (by decide) (v := .pointer (some ⟨gA, oA + k * 11, none⟩)) ((Yl.indexAddr (ad := ⟨gA, oA, none⟩) (y := k) (sz := 11) rfl rfl rfl (hk9) (by kernel_rfl)).as (by rw [Addr.add_mid])) ?_; clear HF; intro a HF
    refine from_yl (S := fun wS => Mem w wS _) HF HM (i := 3) rfl rfl (d := 15) rfl (by decide) (v := .agg e.cells) (Yl.loadS rfl rfl ⟨(by kernel_rfl), (by kernel_rfl)⟩ rfl (fun _ h => (h.old hr).structAt evL_len (hke))) ?_; clear HF; intro a HF
    refine from_op HF (i := 4) rfl rfl ?_
    refine e_call HF (vs := [.agg e.cells]) rfl (by kernel_rfl) (by kernel_rfl) rfl (by decide) (check06_any e (hok e (List.mem_of_getElem? hke)) _) ?_
    rintro _ w16 ⟨rfl, hbw⟩
    refine ⟨_, rfl, ?_⟩
    replace HM := HM.call hbw
    clear HF; intro a HF
    refine from_pures HF 1 5 (j := 6) [(5, .int .i64 (e.check : Int))] (by kernel_rfl) rfl ?_; clear HF; intro a HF
    refine from_done rfl ?_
    replace HF := HF.sub (σ' := [(5, .int .i64 (e.check : Int)), (9, .bool true), (4, .int .i64 (k : Int)), (3, .int .i64 0), (2, .int .i64 0), (0, .slice (some ⟨gA, oA, none⟩) n c)]) (by kernel_rfl)
    refine wp_seq ?_
    refine from_start ?_
    refine from_pures HF 2 0 (j := 2) [(18, .bool (((e.check : Int) : Int) != (0 : Int))), (17, .int .i64 (e.check : Int))] (by kernel_rfl) rfl ?_; clear HF; intro a HF
    refine from_done rfl ?_
    replace HF := HF.sub (σ' := [(18, .bool (((e.check : Int) : Int) != (0 : Int))), (5, .int .i64 (e.check : Int)), (9, .bool true), (4, .int .i64 (k : Int)), (3, .int .i64 0), (2, .int .i64 0), (0, .slice (some ⟨gA, oA, none⟩) n c)]) (by kernel_rfl)
    rcases Bool.eq_false_or_eq_true (((e.check : Int) : Int) != (0 : Int)) with hb18 | hb18
    · have HF := HF.as (t := 18) (u := .bool true) rfl (by rw [hb18])
      have hcb : e.check ≠ 0 := by rw [bne_iff_ne] at hb18; omega
      rw [if_pos hcb] at hgo
      refine cond_true HF rfl ?_
      refine wp_seq ?_
      refine from_start ?_
      refine from_pures HF 4 0 (j := 4) [(3, .int .i64 (e.check : Int)), (2, .int .i64 (k : Int)), (20, .int .i64 (e.check : Int)), (19, .int .i64 (k : Int))] (by kernel_rfl) rfl ?_; clear HF; intro a HF
      refine from_done rfl ?_
      replace HF := HF.sub (σ' := [(3, .int .i64 (e.check : Int)), (2, .int .i64 (k : Int)), (18, .bool true), (5, .int .i64 (e.check : Int)), (9, .bool true), (4, .int .i64 (k : Int)), (0, .slice (some ⟨gA, oA, none⟩) n c)]) (by kernel_rfl)
      refine wp_ret ?_
      exact ret2 rfl HF (.tmp HF rfl) (.tmp HF rfl) (⟨by rw [hj, hgo]; (try rfl), HM.below⟩)
    · have HF := HF.as (t := 18) (u := .bool false) rfl (by rw [hb18])
      have hcg : ¬ e.check ≠ 0 := by rw [bne_eq_false_iff_eq] at hb18; omega
      rw [if_neg hcg] at hgo
      refine cond_false HF rfl ?_
      refine wp_skip ?_
      refine cut_seq (fun aS wS => Fr aS 66 [] [(64, .bool (!(prevOf l k).all (fun q => e.after q))), (18, .bool false), (5, .int .i64 (e.check : Int)), (9, .bool true), (4, .int .i64 (k : Int)), (3, .int .i64 0), (2, .int .i64 0), (0, .slice (some ⟨gA, oA, none⟩) n c)] ∧ Mem w wS []) ?_ ?_
      ·
        refine any_start (by kernel_rfl) (fun wS => Mem w wS []) [] ?_
        replace HM := HM.drew
        have HS := HM.picks (fs' := []) [] (by decide) rfl
        refine any_pures HF (fun _ => HS) (fun _ _ d _ _ h => by cases d <;> exact h) [0, 1, 2] #[true, true, true, false, false, false, false, false, false, false, false, false, false, false, false, false, false, false, false, false, false, false, false, false, false, false, false, false, false, false, false, false, false, false, false, false, false, false, false, false, false, false, false, false] [(23, .bool (decide (((k : Int) : Int) > (0 : Int)))), (22, .bool (decide (((k : Int) : Int) > (0 : Int)))), (21, .int .i64 (k : Int))] (by kernel_rfl) ?_; clear HF; intro a HF
        rcases Bool.eq_false_or_eq_true (decide (((k : Int) : Int) > (0 : Int))) with hb23 | hb23
        · have HF := HF.as (t := 23) (u := .bool true) rfl (by rw [hb23])
          have hk0 : 0 < k := by simp at hb23; omega
          obtain ⟨q, hq⟩ : ∃ q, l[k - 1]? = some q := ⟨_, List.getElem?_eq_getElem (by omega)⟩
          have hpv : prevOf l k = some q := by rw [← hq, show k = (k - 1) + 1 by omega]; rfl
          refine any_pures HF (fun _ => HS) (fun _ _ d _ _ h => by cases d <;> exact h) [3, 4, 8, 9] #[true, true, true, true, true, false, false, false, true, true, false, false, false, false, false, false, false, false, false, false, false, false, false, false, false, false, false, false, false, false, false, false, false, false, false, false, false, false, false, false, false, false, false, false] [(30, .int .i64 (k : Int)), (29, .slice (some ⟨gA, oA, none⟩) n c), (25, .int .i64 (k : Int)), (24, .slice (some ⟨gA, oA, none⟩) n c)] (by kernel_rfl) ?_; clear HF; intro a HF
          refine any_yl HF HS (i := 5) rfl rfl (d := 26) rfl (by decide) (by kernel_rfl) (fun _ _ _ h => h) (v := .pointer (some ⟨gA, oA + k * 11, none⟩)) ((Yl.indexAddr (ad := ⟨gA, oA, none⟩) (y := k) (sz := 11) rfl rfl rfl (hk9) (by kernel_rfl)).as (by rw [Addr.add_mid])) ?_; clear HF; intro a HF
          refine any_pures HF (fun _ => HS) (fun _ _ d _ _ h => by cases d <;> exact h) [6] #[true, true, true, true, true, true, true, false, true, true, false, false, false, false, false, false, false, false, false, false, false, false, false, false, false, false, false, false, false, false, false, false, false, false, false, false, false, false, false, false, false, false, false, false] [(27, .pointer (some ⟨gA, oA + k * 11 + 2, none⟩))] (by kernel_rfl) ?_; clear HF; intro a HF
          refine any_yl HF HS (i := 7) rfl rfl (d := 28) rfl (by decide) (by kernel_rfl) (fun _ _ _ h => h) (v := .int .u8 (e.cpu : Int)) (Yl.load1 rfl rfl (by kernel_rfl) (fun _ h => (h.old hr).partAt evL_len (k := k) (j := 2) (x := e) (hke) rfl)) ?_; clear HF; intro a HF
          refine any_pure HF (fun _ => HS) (i := 10) rfl rfl (d := 31) rfl (by decide) (by kernel_rfl) (fun _ _ _ h => h) (v := .int .i64 (IntKind.i64.wrap ((k : Int) - 1))) (fun _ => Yl.pure (by kernel_rfl)) ?_; clear HF; intro a HF
          replace HF := HF.as (t := 31) (u := .int .i64 ((k - 1 : Nat) : Int)) rfl (by rw [IntWalk.i64_in _ (by omega)]; congr 1; omega)
          refine any_yl HF HS (i := 11) rfl rfl (d := 32) rfl (by decide) (by kernel_rfl) (fun _ _ _ h => h) (v := .pointer (some ⟨gA, oA + (k - 1) * 11, none⟩)) ((Yl.indexAddr (ad := ⟨gA, oA, none⟩) (y := (k - 1)) (sz := 11) rfl rfl rfl (by omega) (by kernel_rfl)).as (by rw [Addr.add_mid])) ?_; clear HF; intro a HF
          refine any_pures HF (fun _ => HS) (fun _ _ d _ _ h => by cases d <;> exact h) [12] #[true, true, true, true, true, true, true, true, true, true, true, true, true, false, false, false, false, false, false, false, false, false, false, false, false, false, false, false, false, false, false, false, false, false, false, false, false, false, false, false, false, false, false, false] [(33, .pointer (some ⟨gA, oA + (k - 1) * 11 + 2, none⟩))] (by kernel_rfl) ?_; clear HF; intro a HF
          refine any_yl HF HS (i := 13) rfl rfl (d := 34) rfl (by decide) (by kernel_rfl) (fun _ _ _ h => h) (v := .int .u8 (q.cpu : Int)) (Yl.load1 rfl rfl (by kernel_rfl) (fun _ h => (h.old hr).partAt evL_len (k := (k - 1)) (j := 2) (x := q) (hq) rfl)) ?_; clear HF; intro a HF
          refine any_pures HF (fun _ => HS) (fun _ _ d _ _ h => by cases d <;> exact h) [14, 15] #[true, true, true, true, true, true, true, true, true, true, true, true, true, true, true, true, false, false, false, false, false, false, false, false, false, false, false, false, false, false, false, false, false, false, false, false, false, false, false, false, false, false, false, false] [(36, .bool (((e.cpu : Int) : Int) != ((q.cpu : Int) : Int))), (35, .bool (((e.cpu : Int) : Int) != ((q.cpu : Int) : Int)))] (by kernel_rfl) ?_; clear HF; intro a HF
          rcases Bool.eq_false_or_eq_true (((e.cpu : Int) : Int) != ((q.cpu : Int) : Int)) with hb36 | hb36
          · have HF := HF.as (t := 36) (u := .bool true) rfl (by rw [hb36])
            refine any_pures HF (fun _ => HS) (fun _ _ d _ _ h => by cases d <;> exact h) [16, 17, 18, 19, 20, 21, 22, 23, 24, 25, 26, 27, 28, 29, 30, 31, 32, 33, 34, 35, 36, 37, 38, 39, 40, 41, 42, 43] #[true, true, true, true, true, true, true, true, true, true, true, true, true, true, true, true, true, true, true, true, true, true, true, true, true, true, true, true, true, true, true, true, true, true, true, true, true, true, true, true, true, true, true, true] [(64, .bool true), (63, .bool true), (62, undef), (61, undef), (60, undef), (59, undef), (58, undef), (57, undef), (56, undef), (55, undef), (54, undef), (53, undef), (52, undef), (51, undef), (50, .bool true), (49, .bool true), (48, undef), (47, undef), (46, undef), (45, undef), (44, undef), (43, undef), (42, undef), (41, undef), (40, undef), (39, undef), (38, undef), (37, undef)] (by kernel_rfl) ?_; clear HF; intro a HF
            refine any_done (by kernel_rfl) ?_
            replace HF := HF.sub (σ' := [(64, .bool true), (18, .bool false), (5, .int .i64 (e.check : Int)), (9, .bool true), (4, .int .i64 (k : Int)), (3, .int .i64 0), (2, .int .i64 0), (0, .slice (some ⟨gA, oA, none⟩) n c)]) (by kernel_rfl)
            have HF := HF.as (t := 64) (u := .bool (!(prevOf l k).all (fun q => e.after q))) rfl (congrArg Value.bool (by rw [hpv]; (try simp at hb9); (try simp at hb18); (try simp at hb23); (try simp at hb36); rw [Bool.eq_iff_iff]; simp [Ev.after]; try omega))
            exact ⟨HF.sub (by kernel_rfl), HM.picks [] (by decide) rfl⟩
          · have HF := HF.as (t := 36) (u := .bool false) rfl (by rw [hb36])
            refine any_pures HF (fun _ => HS) (fun _ _ d _ _ h => by cases d <;> exact h) [16, 17, 21, 22] #[true, true, true, true, true, true, true, true, true, true, true, true, true, true, true, true, true, true, false, false, false, true, true, false, false, false, false, false, false, false, false, false, false, false, false, false, false, false, false, false, false, false, false, false] [(43, .int .i64 (k : Int)), (42, .slice (some ⟨gA, oA, none⟩) n c), (38, .int .i64 (k : Int)), (37, .slice (some ⟨gA, oA, none⟩) n c)] (by kernel_rfl) ?_; clear HF; intro a HF
            refine any_yl HF HS (i := 18) rfl rfl (d := 39) rfl (by decide) (by kernel_rfl) (fun _ _ _ h => h) (v := .pointer (some ⟨gA, oA + k * 11, none⟩)) ((Yl.indexAddr (ad := ⟨gA, oA, none⟩) (y := k) (sz := 11) rfl rfl rfl (hk9) (by kernel_rfl)).as (by rw [Addr.add_mid])) ?_; clear HF; intro a HF
            refine any_pures HF (fun _ => HS) (fun _ _ d _ _ h => by cases d <;> exact h) [19] #[true, true, true, true, true, true, true, true, true, true, true, true, true, true, true, true, true, true, true, true, false, true, true, false, false, false, false, false, false, false, false, false, false, false, false, false, false, false, false, false, false, false, false, false] [(40, .pointer (some ⟨gA, oA + k * 11, none⟩))] (by kernel_rfl) ?_; clear HF; intro a HF
            refine any_yl HF HS (i := 20) rfl rfl (d := 41) rfl (by decide) (by kernel_rfl) (fun _ _ _ h => h) (v := .int .i64 e.seq) (Yl.load1 rfl rfl (by kernel_rfl) (fun _ h => (by have := (h.old hr).partAt evL_len (k := k) (j := 0) (x := e) (hke) rfl; simpa using this))) ?_; clear HF; intro a HF
            refine any_pure HF (fun _ => HS) (i := 23) rfl rfl (d := 44) rfl (by decide) (by kernel_rfl) (fun _ _ _ h => h) (v := .int .i64 (IntKind.i64.wrap ((k : Int) - 1))) (fun _ => Yl.pure (by kernel_rfl)) ?_; clear HF; intro a HF
            replace HF := HF.as (t := 44) (u := .int .i64 ((k - 1 : Nat) : Int)) rfl (by rw [IntWalk.i64_in _ (by omega)]; congr 1; omega)
            refine any_yl HF HS (i := 24) rfl rfl (d := 45) rfl (by decide) (by kernel_rfl) (fun _ _ _ h => h) (v := .pointer (some ⟨gA, oA + (k - 1) * 11, none⟩)) ((Yl.indexAddr (ad := ⟨gA, oA, none⟩) (y := (k - 1)) (sz := 11) rfl rfl rfl (by omega) (by kernel_rfl)).as (by rw [Addr.add_mid])) ?_; clear HF; intro a HF
            refine any_pures HF (fun _ => HS) (fun _ _ d _ _ h => by cases d <;> exact h) [25] #[true, true, true, true, true, true, true, true, true, true, true, true, true, true, true, true, true, true, true, true, true, true, true, true, true, true, false, false, false, false, false, false, false, false, false, false, false, false, false, false, false, false, false, false] [(46, .pointer (some ⟨gA, oA + (k - 1) * 11, none⟩))] (by kernel_rfl) ?_; clear HF; intro a HF
            refine any_yl HF HS (i := 26) rfl rfl (d := 47) rfl (by decide) (by kernel_rfl) (fun _ _ _ h => h) (v := .int .i64 q.seq) (Yl.load1 rfl rfl (by kernel_rfl) (fun _ h => (by have := (h.old hr).partAt evL_len (k := (k - 1)) (j := 0) (x := q) (hq) rfl; simpa using this))) ?_; clear HF; intro a HF
            refine any_pures HF (fun _ => HS) (fun _ _ d _ _ h => by cases d <;> exact h) [27, 28, 29] #[true, true, true, true, true, true, true, true, true, true, true, true, true, true, true, true, true, true, true, true, true, true, true, true, true, true, true, true, true, true, false, false, false, false, false, false, false, false, false, false, false, false, false, false] [(50, .bool (decide ((e.seq : Int) ≤ (q.seq : Int)))), (49, .bool (decide ((e.seq : Int) ≤ (q.seq : Int)))), (48, .bool (decide ((e.seq : Int) ≤ (q.seq : Int))))] (by kernel_rfl) ?_; clear HF; intro a HF
            rcases Bool.eq_false_or_eq_true (decide ((e.seq : Int) ≤ (q.seq : Int))) with hb50 | hb50
            · have HF := HF.as (t := 50) (u := .bool true) rfl (by rw [hb50])
              refine any_pures HF (fun _ => HS) (fun _ _ d _ _ h => by cases d <;> exact h) [30, 31, 32, 33, 34, 35, 36, 37, 38, 39, 40, 41, 42, 43] #[true, true, true, true, true, true, true, true, true, true, true, true, true, true, true, true, true, true, true, true, true, true, true, true, true, true, true, true, true, true, true, true, true, true, true, true, true, true, true, true, true, true, true, true] [(64, .bool true), (63, .bool true), (62, undef), (61, undef), (60, undef), (59, undef), (58, undef), (57, undef), (56, undef), (55, undef), (54, undef), (53, undef), (52, undef), (51, undef)] (by kernel_rfl) ?_; clear HF; intro a HF
              refine any_done (by kernel_rfl) ?_
              replace HF := HF.sub (σ' := [(64, .bool true), (18, .bool false), (5, .int .i64 (e.check : Int)), (9, .bool true), (4, .int .i64 (k : Int)), (3, .int .i64 0), (2, .int .i64 0), (0, .slice (some ⟨gA, oA, none⟩) n c)]) (by kernel_rfl)
              have HF := HF.as (t := 64) (u := .bool (!(prevOf l k).all (fun q => e.after q))) rfl (congrArg Value.bool (by rw [hpv]; (try simp at hb9); (try simp at hb18); (try simp at hb23); (try simp at hb36); (try simp at hb50); rw [Bool.eq_iff_iff]; simp [Ev.after]; try omega))
              exact ⟨HF.sub (by kernel_rfl), HM.picks [] (by decide) rfl⟩
            · have HF := HF.as (t := 50) (u := .bool false) rfl (by rw [hb50])
              refine any_pures HF (fun _ => HS) (fun _ _ d _ _ h => by cases d <;> exact h) [30, 31, 35, 36] #[true, true, true, true, true, true, true, true, true, true, true, true, true, true, true, true, true, true, true, true, true, true, true, true, true, true, true, true, true, true, true, true, false, false, false, true, true, false, false, false, false, false, false, false] [(57, .int .i64 (k : Int)), (56, .slice (some ⟨gA, oA, none⟩) n c), (52, .int .i64 (k : Int)), (51, .slice (some ⟨gA, oA, none⟩) n c)] (by kernel_rfl) ?_; clear HF; intro a HF
              refine any_yl HF HS (i := 32) rfl rfl (d := 53) rfl (by decide) (by kernel_rfl) (fun _ _ _ h => h) (v := .pointer (some ⟨gA, oA + k * 11, none⟩)) ((Yl.indexAddr (ad := ⟨gA, oA, none⟩) (y := k) (sz := 11) rfl rfl rfl (hk9) (by kernel_rfl)).as (by rw [Addr.add_mid])) ?_; clear HF; intro a HF
              refine any_pures HF (fun _ => HS) (fun _ _ d _ _ h => by cases d <;> exact h) [33] #[true, true, true, true, true, true, true, true, true, true, true, true, true, true, true, true, true, true, true, true, true, true, true, true, true, true, true, true, true, true, true, true, true, true, false, true, true, false, false, false, false, false, false, false] [(54, .pointer (some ⟨gA, oA + k * 11 + 1, none⟩))] (by kernel_rfl) ?_; clear HF; intro a HF
              refine any_yl HF HS (i := 34) rfl rfl (d := 55) rfl (by decide) (by kernel_rfl) (fun _ _ _ h => h) (v := .int .i64 e.time) (Yl.load1 rfl rfl (by kernel_rfl) (fun _ h => (h.old hr).partAt evL_len (k := k) (j := 1) (x := e) (hke) rfl)) ?_; clear HF; intro a HF
              refine any_pure HF (fun _ => HS) (i := 37) rfl rfl (d := 58) rfl (by decide) (by kernel_rfl) (fun _ _ _ h => h) (v := .int .i64 (IntKind.i64.wrap ((k : Int) - 1))) (fun _ => Yl.pure (by kernel_rfl)) ?_; clear HF; intro a HF
              replace HF := HF.as (t := 58) (u := .int .i64 ((k - 1 : Nat) : Int)) rfl (by rw [IntWalk.i64_in _ (by omega)]; congr 1; omega)
              refine any_yl HF HS (i := 38) rfl rfl (d := 59) rfl (by decide) (by kernel_rfl) (fun _ _ _ h => h) (v := .pointer (some ⟨gA, oA + (k - 1) * 11, none⟩)) ((Yl.indexAddr (ad := ⟨gA, oA, none⟩) (y := (k - 1)) (sz := 11) rfl rfl rfl (by omega) (by kernel_rfl)).as (by rw [Addr.add_mid])) ?_; clear HF; intro a HF
              refine any_pures HF (fun _ => HS) (fun _ _ d _ _ h => by cases d <;> exact h) [39] #[true, true, true, true, true, true, true, true, true, true, true, true, true, true, true, true, true, true, true, true, true, true, true, true, true, true, true, true, true, true, true, true, true, true, true, true, true, true, true, true, false, false, false, false] [(60, .pointer (some ⟨gA, oA + (k - 1) * 11 + 1, none⟩))] (by kernel_rfl) ?_; clear HF; intro a HF
              refine any_yl HF HS (i := 40) rfl rfl (d := 61) rfl (by decide) (by kernel_rfl) (fun _ _ _ h => h) (v := .int .i64 q.time) (Yl.load1 rfl rfl (by kernel_rfl) (fun _ h => (h.old hr).partAt evL_len (k := (k - 1)) (j := 1) (x := q) (hq) rfl)) ?_; clear HF; intro a HF
              refine any_pures HF (fun _ => HS) (fun _ _ d _ _ h => by cases d <;> exact h) [41, 42, 43] #[true, true, true, true, true, true, true, true, true, true, true, true, true, true, true, true, true, true, true, true, true, true, true, true, true, true, true, true, true, true, true, true, true, true, true, true, true, true, true, true, true, true, true, true] [(64, .bool (decide ((e.time : Int) < (q.time : Int)))), (63, .bool (decide ((e.time : Int) < (q.time : Int)))), (62, .bool (decide ((e.time : Int) < (q.time : Int))))] (by kernel_rfl) ?_; clear HF; intro a HF
              refine any_done (by kernel_rfl) ?_
              replace HF := HF.sub (σ' := [(64, .bool (decide ((e.time : Int) < (q.time : Int)))), (18, .bool false), (5, .int .i64 (e.check : Int)), (9, .bool true), (4, .int .i64 (k : Int)), (3, .int .i64 0), (2, .int .i64 0), (0, .slice (some ⟨gA, oA, none⟩) n c)]) (by kernel_rfl)
              have HF := HF.as (t := 64) (u := .bool (!(prevOf l k).all (fun q => e.after q))) rfl (congrArg Value.bool (by rw [hpv]; (try simp at hb9); (try simp at hb18); (try simp at hb23); (try simp at hb36); (try simp at hb50); rw [Bool.eq_iff_iff]; simp [Ev.after]; try omega))
              exact ⟨HF.sub (by kernel_rfl), HM.picks [] (by decide) rfl⟩
        · have HF := HF.as (t := 23) (u := .bool false) rfl (by rw [hb23])
          have hpv : prevOf l k = none := by rw [show k = 0 by simp at hb23; omega]; rfl
          refine any_pures HF (fun _ => HS) (fun _ _ d _ _ h => by cases d <;> exact h) [3, 4, 5, 6, 7, 8, 9, 10, 11, 12, 13, 14, 15, 16, 17, 18, 19, 20, 21, 22, 23, 24, 25, 26, 27, 28, 29, 30, 31, 32, 33, 34, 35, 36, 37, 38, 39, 40, 41, 42, 43] #[true, true, true, true, true, true, true, true, true, true, true, true, true, true, true, true, true, true, true, true, true, true, true, true, true, true, true, true, true, true, true, true, true, true, true, true, true, true, true, true, true, true, true, true] [(64, .bool false), (63, undef), (62, undef), (61, undef), (60, undef), (59, undef), (58, undef), (57, undef), (56, undef), (55, undef), (54, undef), (53, undef), (52, undef), (51, undef), (50, undef), (49, undef), (48, undef), (47, undef), (46, undef), (45, undef), (44, undef), (43, undef), (42, undef), (41, undef), (40, undef), (39, undef), (38, undef), (37, undef), (36, undef), (35, undef), (34, undef), (33, undef), (32, undef), (31, undef), (30, undef), (29, undef), (28, undef), (27, undef), (26, undef), (25, undef), (24, undef)] (by kernel_rfl) ?_; clear HF; intro a HF
          refine any_done (by kernel_rfl) ?_
          replace HF := HF.sub (σ' := [(64, .bool false), (18, .bool false), (5, .int .i64 (e.check : Int)), (9, .bool true), (4, .int .i64 (k : Int)), (3, .int .i64 0), (2, .int .i64 0), (0, .slice (some ⟨gA, oA, none⟩) n c)]) (by kernel_rfl)
          have HF := HF.as (t := 64) (u := .bool (!(prevOf l k).all (fun q => e.after q))) rfl (congrArg Value.bool (by rw [hpv]; (try simp at hb9); (try simp at hb18); (try simp at hb23); rw [Bool.eq_iff_iff]; simp [Ev.after]; try omega))
          exact ⟨HF.sub (by kernel_rfl), HM.picks [] (by decide) rfl⟩
      clear HF HM; rintro a w7 ⟨HF, HM⟩
      rcases Bool.eq_false_or_eq_true (!(prevOf l k).all (fun q => e.after q)) with hb64 | hb64
      · have HF := HF.as (t := 64) (u := .bool true) rfl (by rw [hb64])
        rw [if_pos (by simpa using hb64)] at hgo
        refine cond_true HF rfl ?_
        refine wp_seq ?_
        refine from_start ?_
        refine from_pures HF 3 0 (j := 3) [(3, .int .i64 71), (2, .int .i64 (k : Int)), (65, .int .i64 (k : Int))] (by kernel_rfl) rfl ?_; clear HF; intro a HF
        refine from_done rfl ?_
        replace HF := HF.sub (σ' := [(3, .int .i64 71), (2, .int .i64 (k : Int)), (64, .bool true), (18, .bool false), (5, .int .i64 (e.check : Int)), (9, .bool true), (4, .int .i64 (k : Int)), (0, .slice (some ⟨gA, oA, none⟩) n c)]) (by kernel_rfl)
        refine wp_ret ?_
        exact ret2 rfl HF (.tmp HF rfl) (.tmp HF rfl) (⟨by rw [hj, hgo]; (try rfl), HM.below⟩)
      · have HF := HF.as (t := 64) (u := .bool false) rfl (by rw [hb64])
        rw [if_neg (by simpa using hb64)] at hgo
        refine cond_false HF rfl ?_
        refine wp_skip ?_
        refine from_start ?_
        refine from_pures HF 2 0 (j := 2) [(11, .int .i64 (IntKind.i64.wrap ((k : Int) + 1))), (10, .int .i64 (k : Int))] (by kernel_rfl) rfl ?_; clear HF; intro a HF
        replace HF := HF.as (t := 11) (u := .int .i64 ((k + 1 : Nat) : Int)) rfl (by rw [IntWalk.i64_in _ (by omega)]; simp)
        refine from_pures HF 1 2 (j := 3) [(4, .int .i64 ((k + 1 : Nat) : Int))] (by kernel_rfl) rfl ?_; clear HF; intro a HF
        refine from_done rfl ?_
        replace HF := HF.sub (σ' := [(4, .int .i64 ((k + 1 : Nat) : Int)), (64, .bool false), (18, .bool false), (5, .int .i64 (e.check : Int)), (9, .bool true), (3, .int .i64 0), (2, .int .i64 0), (0, .slice (some ⟨gA, oA, none⟩) n c)]) (by kernel_rfl)
        exact ⟨_, (by omega), k + 1, by omega, hj.trans hgo, rfl, HF.sub (by kernel_rfl), HM.picks [] (by decide) rfl⟩
  · have HF := HF.as (t := 9) (u := .bool false) rfl (by rw [hb9])
    have hk9 : k = n := by simp at hb9; omega
    refine cond_false HF rfl ?_
    refine wp_exit ?_
    refine wp_seq ?_
    refine from_start ?_
    refine from_pures HF 2 0 (j := 2) [(3, .int .i64 0), (2, .int .i64 (-1))] (by kernel_rfl) rfl ?_; clear HF; intro a HF
    refine from_done rfl ?_
    replace HF := HF.sub (σ' := [(3, .int .i64 0), (2, .int .i64 (-1)), (9, .bool false), (4, .int .i64 (k : Int)), (0, .slice A n c)]) (by kernel_rfl)
    refine wp_ret ?_
    exact ret2 rfl HF (.tmp HF rfl) (.tmp HF rfl) (⟨by rw [hj, hk9, List.drop_eq_nil_of_le (by omega)]; cases prevOf l n <;> rfl, HM.below⟩)
end Go.Proofs.YtpekelggcmgnnaaDoor

/- quantumlaw06.Made: the walk, one theorem a kind. Printed by gen_small.py. -/
namespace Go.Proofs.YtpekelggcmgnnaaDoor
open Go.RowKit

structure SmPost (x : Sm) (w : World) (r : Ending) (w' : World) : Prop where
  ret : r = .returned (.agg x.ev.cells)
  below : Below w.heap.size w w'
theorem or_bit (mask c : Nat) (hm : mask < 18446744073709551616) : bits .or .u64 (mask : Int) (IntKind.u64.wrap (2 ^ (c % 64))) = ((mask ||| 2 ^ (c % 64) : Nat) : Int) := by
  have h1 : (2 : Nat) ^ (c % 64) < 2 ^ 64 := Nat.pow_lt_pow_right (by omega) (by omega)
  have h2 : (2 : Int) ^ (c % 64) = ((2 ^ (c % 64) : Nat) : Int) := by simp
  generalize hg : (2 : Nat) ^ (c % 64) = y at h1 h2
  have h3 : IntKind.u64.wrap (y : Int) = (y : Int) := by rw [IntKind.wrap_u64]; omega
  rw [h2, h3]
  exact u64_or_nat mask y hm (by omega)
set_option maxRecDepth 100000 in
set_option maxHeartbeats 1000000 in
theorem small_0 (x : Sm) (h : x.Ok) (hk : x.kind % 10 = 0) (w : World) : Calls Tryd.prog 37 #[.agg x.cells] w (SmPost x w) := by
  obtain ⟨kind, cpu, seq, time, task, group, to, weight, ticks, got, mask⟩ := x
  obtain ⟨h1, h2, h3, h4, h5, h6, h7, h8, h9, h10, h11⟩ := h
  simp only at hk h1 h2 h3 h4 h5 h6 h7 h8 h9 h10 h11
  simp only [Sm.cells]
  have hk' : (kind : Int) % 10 = 0 := by omega
  go_enter Tryd.func37, Tryd.ntmps37
  go_wp2
  go_region
  all_goals
    go_wp2
    go_region
  all_goals
    go_wp2
    refine bodyPost_ret (v := .agg #[.int .i64 (1 + (seq : Int)), .int .i64 (time : Int), .int .u8 ((cpu : Int) % 64), .int .u8 1, .int .i64 (1 + (task : Int) % 65535), .int .i64 ((group : Int) % 256), .int .i64 (0), .int .i64 (1 + (weight : Int) % 65536), .int .i64 (0), .int .u64 (((mask ||| 2 ^ (cpu % 64) : Nat) : Int)), .int .i64 (0)]) ?g1 rfl ?g2
    case g2 => exact ⟨by simp [Sm.ev, Ev.cells, hk], ((((Below.refl _ _).alloc (Nat.le_refl _) _).alloc (by simp) _).alloc (by simp; omega) _).drew.drew⟩
    case g1 =>
      simp [results, Tryd.results37, go_sem]
      exact or_bit mask cpu h11
set_option maxRecDepth 100000 in
set_option maxHeartbeats 1000000 in
theorem small_1 (x : Sm) (h : x.Ok) (hk : x.kind % 10 = 1) (w : World) : Calls Tryd.prog 37 #[.agg x.cells] w (SmPost x w) := by
  obtain ⟨kind, cpu, seq, time, task, group, to, weight, ticks, got, mask⟩ := x
  obtain ⟨h1, h2, h3, h4, h5, h6, h7, h8, h9, h10, h11⟩ := h
  simp only at hk h1 h2 h3 h4 h5 h6 h7 h8 h9 h10 h11
  simp only [Sm.cells]
  have hk' : (kind : Int) % 10 = 1 := by omega
  go_enter Tryd.func37, Tryd.ntmps37
  go_wp2
  go_region
  all_goals
    go_wp2
    refine bodyPost_ret (v := .agg #[.int .i64 (1 + (seq : Int)), .int .i64 (time : Int), .int .u8 ((cpu : Int) % 64), .int .u8 2, .int .i64 (1 + (task : Int) % 65535), .int .i64 (0), .int .i64 (0), .int .i64 (0), .int .i64 (0), .int .u64 (0), .int .i64 (0)]) ?g1 rfl ?g2
    case g2 => exact ⟨by simp [Sm.ev, Ev.cells, hk], ((((Below.refl _ _).alloc (Nat.le_refl _) _).alloc (by simp) _).alloc (by simp; omega) _).drew⟩
    case g1 =>
      simp [results, Tryd.results37, go_sem]
set_option maxRecDepth 100000 in
set_option maxHeartbeats 1000000 in
theorem small_2 (x : Sm) (h : x.Ok) (hk : x.kind % 10 = 2) (w : World) : Calls Tryd.prog 37 #[.agg x.cells] w (SmPost x w) := by
  obtain ⟨kind, cpu, seq, time, task, group, to, weight, ticks, got, mask⟩ := x
  obtain ⟨h1, h2, h3, h4, h5, h6, h7, h8, h9, h10, h11⟩ := h
  simp only at hk h1 h2 h3 h4 h5 h6 h7 h8 h9 h10 h11
  simp only [Sm.cells]
  have hk' : (kind : Int) % 10 = 2 := by omega
  go_enter Tryd.func37, Tryd.ntmps37
  go_wp2
  go_region
  all_goals
    go_wp2
    refine bodyPost_ret (v := .agg #[.int .i64 (1 + (seq : Int)), .int .i64 (time : Int), .int .u8 ((cpu : Int) % 64), .int .u8 3, .int .i64 (0), .int .i64 (0), .int .i64 (0), .int .i64 (0), .int .i64 (0), .int .u64 (0), .int .i64 (1 + (got : Int) % 65535)]) ?g1 rfl ?g2
    case g2 => exact ⟨by simp [Sm.ev, Ev.cells, hk], ((((Below.refl _ _).alloc (Nat.le_refl _) _).alloc (by simp) _).alloc (by simp; omega) _).drew⟩
    case g1 =>
      simp [results, Tryd.results37, go_sem]
set_option maxRecDepth 100000 in
set_option maxHeartbeats 1000000 in
theorem small_3 (x : Sm) (h : x.Ok) (hk : x.kind % 10 = 3) (w : World) : Calls Tryd.prog 37 #[.agg x.cells] w (SmPost x w) := by
  obtain ⟨kind, cpu, seq, time, task, group, to, weight, ticks, got, mask⟩ := x
  obtain ⟨h1, h2, h3, h4, h5, h6, h7, h8, h9, h10, h11⟩ := h
  simp only at hk h1 h2 h3 h4 h5 h6 h7 h8 h9 h10 h11
  simp only [Sm.cells]
  have hk' : (kind : Int) % 10 = 3 := by omega
  go_enter Tryd.func37, Tryd.ntmps37
  go_wp2
  go_region
  all_goals
    go_wp2
    refine bodyPost_ret (v := .agg #[.int .i64 (1 + (seq : Int)), .int .i64 (time : Int), .int .u8 ((cpu : Int) % 64), .int .u8 4, .int .i64 (0), .int .i64 (0), .int .i64 (0), .int .i64 (0), .int .i64 (0), .int .u64 (0), .int .i64 (1 + (got : Int) % 65535)]) ?g1 rfl ?g2
    case g2 => exact ⟨by simp [Sm.ev, Ev.cells, hk], ((((Below.refl _ _).alloc (Nat.le_refl _) _).alloc (by simp) _).alloc (by simp; omega) _).drew⟩
    case g1 =>
      simp [results, Tryd.results37, go_sem]
set_option maxRecDepth 100000 in
set_option maxHeartbeats 1000000 in
theorem small_4a (x : Sm) (h : x.Ok) (hk : x.kind % 10 = 4) (ht : x.ticks = 0) (w : World) : Calls Tryd.prog 37 #[.agg x.cells] w (SmPost x w) := by
  obtain ⟨kind, cpu, seq, time, task, group, to, weight, ticks, got, mask⟩ := x
  obtain ⟨h1, h2, h3, h4, h5, h6, h7, h8, h9, h10, h11⟩ := h
  simp only at ht hk h1 h2 h3 h4 h5 h6 h7 h8 h9 h10 h11
  simp only [Sm.cells]
  have hk' : (kind : Int) % 10 = 4 := by omega
  have ht' : decide ((ticks : Int) < 1) = true := by simp; omega
  go_enter Tryd.func37, Tryd.ntmps37
  go_wp2
  go_region
  all_goals
    go_wp2
    refine bodyPost_ret (v := .agg #[.int .i64 (1 + (seq : Int)), .int .i64 (time : Int), .int .u8 ((cpu : Int) % 64), .int .u8 5, .int .i64 (0), .int .i64 (0), .int .i64 (0), .int .i64 (0), .int .i64 (1), .int .u64 (0), .int .i64 (1 + (got : Int) % 65535 - 1)]) ?g1 rfl ?g2
    case g2 => exact ⟨by simp [Sm.ev, Ev.cells, hk]; omega, ((((Below.refl _ _).alloc (Nat.le_refl _) _).alloc (by simp) _).alloc (by simp; omega) _).drew⟩
    case g1 =>
      simp [results, Tryd.results37, go_sem]
set_option maxRecDepth 100000 in
set_option maxHeartbeats 1000000 in
theorem small_4b (x : Sm) (h : x.Ok) (hk : x.kind % 10 = 4) (ht : 1 ≤ x.ticks) (w : World) : Calls Tryd.prog 37 #[.agg x.cells] w (SmPost x w) := by
  obtain ⟨kind, cpu, seq, time, task, group, to, weight, ticks, got, mask⟩ := x
  obtain ⟨h1, h2, h3, h4, h5, h6, h7, h8, h9, h10, h11⟩ := h
  simp only at ht hk h1 h2 h3 h4 h5 h6 h7 h8 h9 h10 h11
  simp only [Sm.cells]
  have hk' : (kind : Int) % 10 = 4 := by omega
  have ht' : decide ((ticks : Int) < 1) = false := by simp; omega
  go_enter Tryd.func37, Tryd.ntmps37
  go_wp2
  go_region
  all_goals
    go_wp2
    refine bodyPost_ret (v := .agg #[.int .i64 (1 + (seq : Int)), .int .i64 (time : Int), .int .u8 ((cpu : Int) % 64), .int .u8 5, .int .i64 (0), .int .i64 (0), .int .i64 (0), .int .i64 (0), .int .i64 ((ticks : Int)), .int .u64 (0), .int .i64 (1 + (got : Int) % 65535 - 1)]) ?g1 rfl ?g2
    case g2 => exact ⟨by simp [Sm.ev, Ev.cells, hk]; omega, ((((Below.refl _ _).alloc (Nat.le_refl _) _).alloc (by simp) _).alloc (by simp; omega) _).drew⟩
    case g1 =>
      simp [results, Tryd.results37, go_sem]
theorem small_4 (x : Sm) (h : x.Ok) (hk : x.kind % 10 = 4) (w : World) : Calls Tryd.prog 37 #[.agg x.cells] w (SmPost x w) := by
  rcases Nat.eq_zero_or_pos x.ticks with ht | ht
  · exact small_4a x h hk ht w
  · exact small_4b x h hk ht w
set_option maxRecDepth 100000 in
set_option maxHeartbeats 1000000 in
theorem small_5 (x : Sm) (h : x.Ok) (hk : x.kind % 10 = 5) (w : World) : Calls Tryd.prog 37 #[.agg x.cells] w (SmPost x w) := by
  obtain ⟨kind, cpu, seq, time, task, group, to, weight, ticks, got, mask⟩ := x
  obtain ⟨h1, h2, h3, h4, h5, h6, h7, h8, h9, h10, h11⟩ := h
  simp only at hk h1 h2 h3 h4 h5 h6 h7 h8 h9 h10 h11
  simp only [Sm.cells]
  have hk' : (kind : Int) % 10 = 5 := by omega
  go_enter Tryd.func37, Tryd.ntmps37
  go_wp2
  go_region
  all_goals
    go_wp2
    refine bodyPost_ret (v := .agg #[.int .i64 (1 + (seq : Int)), .int .i64 (time : Int), .int .u8 ((cpu : Int) % 64), .int .u8 6, .int .i64 (0), .int .i64 (0), .int .i64 (0), .int .i64 (0), .int .i64 (0), .int .u64 (0), .int .i64 (1 + (got : Int) % 65535 - 1)]) ?g1 rfl ?g2
    case g2 => exact ⟨by simp [Sm.ev, Ev.cells, hk]; omega, ((((Below.refl _ _).alloc (Nat.le_refl _) _).alloc (by simp) _).alloc (by simp; omega) _).drew⟩
    case g1 =>
      simp [results, Tryd.results37, go_sem]
set_option maxRecDepth 100000 in
set_option maxHeartbeats 1000000 in
theorem small_6 (x : Sm) (h : x.Ok) (hk : x.kind % 10 = 6) (w : World) : Calls Tryd.prog 37 #[.agg x.cells] w (SmPost x w) := by
  obtain ⟨kind, cpu, seq, time, task, group, to, weight, ticks, got, mask⟩ := x
  obtain ⟨h1, h2, h3, h4, h5, h6, h7, h8, h9, h10, h11⟩ := h
  simp only at hk h1 h2 h3 h4 h5 h6 h7 h8 h9 h10 h11
  simp only [Sm.cells]
  have hk' : (kind : Int) % 10 = 6 := by omega
  go_enter Tryd.func37, Tryd.ntmps37
  go_wp2
  go_region
  all_goals
    go_wp2
    refine bodyPost_ret (v := .agg #[.int .i64 (1 + (seq : Int)), .int .i64 (time : Int), .int .u8 ((cpu : Int) % 64), .int .u8 7, .int .i64 (1 + (task : Int) % 65535), .int .i64 (0), .int .i64 (0), .int .i64 (1 + (weight : Int) % 65536), .int .i64 (0), .int .u64 (0), .int .i64 (0)]) ?g1 rfl ?g2
    case g2 => exact ⟨by simp [Sm.ev, Ev.cells, hk], ((((Below.refl _ _).alloc (Nat.le_refl _) _).alloc (by simp) _).alloc (by simp; omega) _).drew⟩
    case g1 =>
      simp [results, Tryd.results37, go_sem]
set_option maxRecDepth 100000 in
set_option maxHeartbeats 1000000 in
theorem small_7 (x : Sm) (h : x.Ok) (hk : x.kind % 10 = 7) (w : World) : Calls Tryd.prog 37 #[.agg x.cells] w (SmPost x w) := by
  obtain ⟨kind, cpu, seq, time, task, group, to, weight, ticks, got, mask⟩ := x
  obtain ⟨h1, h2, h3, h4, h5, h6, h7, h8, h9, h10, h11⟩ := h
  simp only at hk h1 h2 h3 h4 h5 h6 h7 h8 h9 h10 h11
  simp only [Sm.cells]
  have hk' : (kind : Int) % 10 = 7 := by omega
  go_enter Tryd.func37, Tryd.ntmps37
  go_wp2
  go_region
  all_goals
    go_wp2
    refine bodyPost_ret (v := .agg #[.int .i64 (1 + (seq : Int)), .int .i64 (time : Int), .int .u8 ((cpu : Int) % 64), .int .u8 8, .int .i64 (0), .int .i64 (1 + (group : Int) % 255), .int .i64 (0), .int .i64 (1 + (weight : Int) % 65536), .int .i64 (0), .int .u64 (0), .int .i64 (0)]) ?g1 rfl ?g2
    case g2 => exact ⟨by simp [Sm.ev, Ev.cells, hk], ((((Below.refl _ _).alloc (Nat.le_refl _) _).alloc (by simp) _).alloc (by simp; omega) _).drew⟩
    case g1 =>
      simp [results, Tryd.results37, go_sem]
set_option maxRecDepth 100000 in
set_option maxHeartbeats 1000000 in
theorem small_8 (x : Sm) (h : x.Ok) (hk : x.kind % 10 = 8) (w : World) : Calls Tryd.prog 37 #[.agg x.cells] w (SmPost x w) := by
  obtain ⟨kind, cpu, seq, time, task, group, to, weight, ticks, got, mask⟩ := x
  obtain ⟨h1, h2, h3, h4, h5, h6, h7, h8, h9, h10, h11⟩ := h
  simp only at hk h1 h2 h3 h4 h5 h6 h7 h8 h9 h10 h11
  simp only [Sm.cells]
  have hk' : (kind : Int) % 10 = 8 := by omega
  go_enter Tryd.func37, Tryd.ntmps37
  go_wp2
  go_region
  all_goals
    go_wp2
    go_region
  all_goals
    go_wp2
    refine bodyPost_ret (v := .agg #[.int .i64 (1 + (seq : Int)), .int .i64 (time : Int), .int .u8 ((cpu : Int) % 64), .int .u8 9, .int .i64 (1 + (task : Int) % 65535), .int .i64 (0), .int .i64 (((cpu : Int) % 64 + 1 + (to : Int) % 63) % 64), .int .i64 (0), .int .i64 (0), .int .u64 (0), .int .i64 (0)]) ?g1 rfl ?g2
    case g2 => exact ⟨by simp [Sm.ev, Ev.cells, hk], ((((Below.refl _ _).alloc (Nat.le_refl _) _).alloc (by simp) _).alloc (by simp; omega) _).drew.drew⟩
    case g1 =>
      simp [results, Tryd.results37, go_sem]
set_option maxRecDepth 100000 in
set_option maxHeartbeats 1000000 in
theorem small_9 (x : Sm) (h : x.Ok) (hk : x.kind % 10 = 9) (w : World) : Calls Tryd.prog 37 #[.agg x.cells] w (SmPost x w) := by
  obtain ⟨kind, cpu, seq, time, task, group, to, weight, ticks, got, mask⟩ := x
  obtain ⟨h1, h2, h3, h4, h5, h6, h7, h8, h9, h10, h11⟩ := h
  simp only at hk h1 h2 h3 h4 h5 h6 h7 h8 h9 h10 h11
  simp only [Sm.cells]
  have hk' : (kind : Int) % 10 = 9 := by omega
  go_enter Tryd.func37, Tryd.ntmps37
  go_wp2
  go_region
  all_goals
    go_wp2
    refine bodyPost_ret (v := .agg #[.int .i64 (1 + (seq : Int)), .int .i64 (time : Int), .int .u8 ((cpu : Int) % 64), .int .u8 10, .int .i64 (0), .int .i64 (0), .int .i64 (0), .int .i64 (0), .int .i64 (0), .int .u64 (0), .int .i64 (1 + (got : Int) % 65535)]) ?g1 rfl ?g2
    case g2 => exact ⟨by simp [Sm.ev, Ev.cells, hk], ((((Below.refl _ _).alloc (Nat.le_refl _) _).alloc (by simp) _).alloc (by simp; omega) _).drew⟩
    case g1 =>
      simp [results, Tryd.results37, go_sem]
theorem small_any (x : Sm) (h : x.Ok) (w : World) : Calls Tryd.prog 37 #[.agg x.cells] w (SmPost x w) := by
  have hk : x.kind % 10 = 0 ∨ x.kind % 10 = 1 ∨ x.kind % 10 = 2 ∨ x.kind % 10 = 3 ∨ x.kind % 10 = 4 ∨ x.kind % 10 = 5 ∨ x.kind % 10 = 6 ∨ x.kind % 10 = 7 ∨ x.kind % 10 = 8 ∨ x.kind % 10 = 9 := by omega
  rcases hk with hk | hk | hk | hk | hk | hk | hk | hk | hk | hk
  · exact small_0 x h hk w
  · exact small_1 x h hk w
  · exact small_2 x h hk w
  · exact small_3 x h hk w
  · exact small_4 x h hk w
  · exact small_5 x h hk w
  · exact small_6 x h hk w
  · exact small_7 x h hk w
  · exact small_8 x h hk w
  · exact small_9 x h hk w
end Go.Proofs.YtpekelggcmgnnaaDoor

