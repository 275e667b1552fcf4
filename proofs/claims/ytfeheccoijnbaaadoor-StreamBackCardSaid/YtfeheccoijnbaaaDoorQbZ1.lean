/- Parts. -/
import Derived.Test.YtfeheccoijnbaaaDoorQbRnd
import Derived.Deep.DeepAppendWide
import Derived.Deep.Upon
import Derived.MapKept
import Derived.IntWalk
import Derived.RangeFuncLeaves
import Derived.Test.YtfeheccoijnbaaaDoorQbConv
import Derived.Lib.AppendZeros
import Derived.ChangeKeysEq
import Derived.Test.YtfeheccoijnbaaaDoorQbPick
import Derived.Test.YtfeheccoijnbaaaDoorQbCodR
import Derived.Deep.CutRange
import Derived.Laws.StructEq
import Derived.Deep.AppendSrc
import Derived.Test.YtfeheccoijnbaaaDoorQbVarint
import Derived.Test.YtfeheccoijnbaaaDoorQbBlkS
import Derived.Test.YtfeheccoijnbaaaDoorQbDoor
import Derived.Test.YtfeheccoijnbaaaDoorRows
set_option linter.all false
set_option maxRecDepth 100000
set_option maxHeartbeats 8000000
namespace Go.Proofs.YtfeheccoijnbaaaDoor
open Go.RowKit
def look (σ : List (Nat × Value)) : Operand → Option Value
 | .tmp t => σ.lookup t
 | .const v => some v
 | .global g => some (.pointer (some ⟨g, 0, none⟩))
 | .func f => some (.func (.func f) #[] #[])
structure Fr (a : Act) (n : Nat) (D : List Deferred) (σ : List (Nat × Value)) : Prop where
 size : a.tmps.size = n
 defers : a.defers = D
 slot : ∀ t v, σ.lookup t = some v → a.tmps.getD t undef = v
section
variable {a : Act} {n : Nat} {D : List Deferred} {σ σ' : List (Nat × Value)}
theorem Fr.eval (h : Fr a n D σ) {x : Operand} {v : Value} (hx : look σ x = some v) : a.eval x = v := by
 cases x with
 | tmp t => exact h.slot t v hx
 | const u => injection hx
 | global g => injection hx
 | func f => injection hx
theorem Fr.put (h : Fr a n D σ) {d : Nat} (hd : d < n) (v : Value) : Fr (a.put (some d) v) n D ((d, v) :: σ) := by
 refine ⟨by simpa [Act.put] using h.size, h.defers, fun t u hu => ?_⟩
 have hs := h.size
 by_cases e : t = d
 ·subst e
  simp only [List.lookup_cons, beq_self_eq_true, Option.some.injEq] at hu
  subst hu
  simp [Act.put, hs, hd]
 ·have hb : (t == d) = false := by simpa using e
  simp only [List.lookup_cons, hb] at hu
  have h2 := h.slot t u hu
  simp only [Act.put, Array.getD_eq_getD_getElem?, Array.getElem?_setIfInBounds_ne (Ne.symm e)]
  simpa using h2
theorem Fr.sub (h : Fr a n D σ) (hs : σ'.map (fun p => σ.lookup p.1) = σ'.map (fun p => some p.2)) : Fr a n D σ' := by
 refine ⟨h.size, h.defers, fun t v hv => h.slot t v ?_⟩
 induction σ' with
 | nil => cases hv
 | cons p r ih =>
  simp only [List.map_cons, List.cons.injEq] at hs
  obtain ⟨k, u⟩ := p
  simp only [List.lookup_cons] at hv
  split at hv
  ·rename_i hk
   rw [beq_iff_eq] at hk
   subst hk
   rw [hs.1, ← hv]
  ·exact ih hs.2 hv
end
def wantB (ops : Array Oper) (σ : List (Nat × Value)) (o : Oper) : Option Bool :=
 match o.guard with
 | none => some true
 | some (j, b) => match (ops[j]?).bind (·.dst) with
  | none => none
  | some t => match σ.lookup t with
   | some (.bool c) => some (c == b)
   | some (.tuple _) => some false
   | _ => none
theorem ql9 : undef = .tuple #[] := rfl
theorem qcm {a : Act} {n : Nat} {D : List Deferred} {σ : List (Nat × Value)} {ops : Array Oper} {o : Oper} {c : Bool} (h : Fr a n D σ) (hw : wantB ops σ o = some c) : Region.wanted o (yielded ops a.tmps) = c := by
 unfold wantB at hw
 unfold Region.wanted
 cases hg : o.guard with
 | none => rw [hg] at hw; simpa using hw
 | some jb =>
  obtain ⟨j, b⟩ := jb
  rw [hg] at hw
  simp only at hw ⊢
  cases ht : (ops[j]?).bind (·.dst) with
  | none => rw [ht] at hw; cases hw
  | some t =>
   rw [ht] at hw
   simp only at hw
   unfold yielded
   rw [ht]
   simp only [Option.bind_some]
   cases hl : σ.lookup t with
   | none => rw [hl] at hw; cases hw
   | some v =>
    rw [hl] at hw
    have hs := h.slot t v hl
    rw [Array.getD_eq_getD_getElem?] at hs
    cases hx : a.tmps[t]? with
    | none =>
     rw [hx] at hs
     simp only [Option.getD_none] at hs
     subst hs
     rw [ql9] at hw
     simp only [Option.some.injEq] at hw
     subst hw
     rfl
    | some u =>
     rw [hx] at hs
     simp only [Option.getD_some] at hs
     subst hs
     cases u <;> simp only [Option.some.injEq, reduceCtorEq] at hw
     ·subst hw; rfl
     ·subst hw; rfl
def qql (op : BinOp) (k : IntKind) (a b : Int) : Option Value :=
 match op with
 | .add => some (.int k (k.wrap (a + b)))
 | .sub => some (.int k (k.wrap (a - b)))
 | .mul => some (.int k (k.wrap (a * b)))
 | .quo => if b = 0 then none else some (.int k (k.wrap (a.tdiv b)))
 | .rem => if b = 0 then none else some (.int k (a.tmod b))
 | .and => some (.int k (k.wrap (BitVec.ofInt k.bits a &&& BitVec.ofInt k.bits b).toNat))
 | .or => some (.int k (k.wrap (BitVec.ofInt k.bits a ||| BitVec.ofInt k.bits b).toNat))
 | .xor => some (.int k (k.wrap (BitVec.ofInt k.bits a ^^^ BitVec.ofInt k.bits b).toNat))
 | .eql => some (.bool (a == b))
 | .neq => some (.bool (a != b))
 | .lss => some (.bool (a < b))
 | .leq => some (.bool (a ≤ b))
 | .gtr => some (.bool (a > b))
 | .geq => some (.bool (a ≥ b))
 | _ => none
def qke (op : BinOp) : Value → Value → Option Value
 | .int k a, .int k' b => match op with
  | .shl => if b < 0 then none else some (.int k (k.wrap (a * 2 ^ (min b.toNat k.bits))))
  | .shr => if b < 0 then none else some (.int k (a.fdiv (2 ^ (min b.toNat k.bits))))
  | _ => if k = k' then qql op k a b else none
 | .string a, .string b => match op with
  | .eql => some (.bool (a.toList == b.toList))
  | .neq => some (.bool !(a.toList == b.toList))
  | _ => none
 | _, _ => none
theorem qdy {P : Program} {op : BinOp} {x y v : Value} (h : qke op x y = some v) (t : TypeId) (w : World) : (binOp op t x y).run P w = .ok v w := by
  unfold qke at h
  split at h
  · split at h
    · split at h
      · cases h
      · rename_i hb; injection h with h; subst h; simp [binOp, Op.shift, hb]
    · split at h
      · cases h
      · rename_i hb; injection h with h; subst h; simp [binOp, Op.shift, hb]
    · split at h
      · rename_i hk
        subst hk
        unfold qql at h
        split at h <;> first
          | (injection h with h; subst h; simp [binOp, Op.intArith, Op.intBits, Op.intCmp]; done)
          | (split at h
             · cases h
             · rename_i hb; injection h with h; subst h; simp [binOp, Op.intDiv, hb])
          | cases h
      · cases h
  · split at h
    · injection h with h; subst h; simp [binOp, Op.stringOp]
    · injection h with h; subst h; simp [binOp, Op.stringOp]
    · cases h
  · cases h
def qqm : Value → Bool
 | .agg _ => false
 | .nilIface => false
 | _ => true
theorem qaj {P : Program} (op : BinOp) (t : TypeId) (x y : Operand) {a b : Value} (ha : qqm a = true) (w : World) : (eqGuard op t x y a b).run P w = .ok () w := by
 unfold eqGuard
 cases a <;> first | exact absurd ha (by decide) | (split <;> simp; done) | exact absurd ha (by simp [qqm])
def qja (P : Program) (s f : Nat) : Option Nat :=
 match P.underlying s with
 | some (.struct fs) => match fs[f]? with
  | some fl => match P.info? fl.type with
   | some i => if i.size = 0 then none else some fl.offset
   | none => none
  | none => none
 | _ => none
theorem qkf {P : Program} {s f off : Nat} (h : qja P s f = some off) (a : Addr) (w : World) : (Instr.fieldAt s (.pointer (some a)) f).run P w = .ok (.pointer (some (a.add off))) w := by
 unfold qja at h
 split at h
 ·rename_i fs hu
  split at h
  ·rename_i fl hf
   split at h
   ·rename_i i hi
    split at h
    ·cases h
    ·rename_i hz
     injection h with h; subst h
     simp [Instr.fieldAt, run_underlying hu, hf, Instr.sureAddr, fieldPlace, sizeOf, typeInfo, hi, hz]
   ·cases h
  ·cases h
 ·cases h
def qjb (P : Program) (σ : List (Nat × Value)) : Op → Option Value
 | .move x => look σ x
 | .assign x => look σ x
 | .pick c a b => match look σ c with
  | some (.bool true) => look σ a
  | some (.bool false) => look σ b
  | _ => none
 | .extract t i => match look σ t with
  | some (.tuple vs) => vs[i]?
  | _ => none
 | .unOp .not _ x => match look σ x with
  | some (.bool b) => some (.bool !b)
  | _ => none
 | .binOp op _ x y _ => match look σ x, look σ y with
  | some a, some b => if qqm a then qke op a b else none
  | _, _ => none
 | .convert src dst x => match P.underlying src, P.underlying dst, look σ x with
  | some _, some (.int k), some (.int _ m) => some (.int k (k.wrap m))
  | _, _, _ => none
 | .fieldAddr s x f => match look σ x, qja P s f with
  | some (.pointer (some a)), some off => some (.pointer (some (a.add off)))
  | _, _ => none
 | _ => none
theorem qma {P : Program} {a : Act} {n : Nat} {D : List Deferred} {σ : List (Nat × Value)} (h : Fr a n D σ) {o : Oper} {v : Value} (hv : qjb P σ o.op = some v) (w : World) : (execOp a.eval o).run P w = .ok (.value v) w := by
 unfold execOp
 unfold qjb at hv
 split at hv
 ·rename_i x hop; simp only [hop, h.eval hv]; rfl
 ·rename_i x hop; simp only [hop, h.eval hv]; rfl
 ·rename_i c x y hop
  split at hv
  ·rename_i hc; simp only [hop, h.eval hc, h.eval hv]; rfl
  ·rename_i hc; simp only [hop, h.eval hc, h.eval hv]; rfl
  ·cases hv
 ·rename_i t i hop
  split at hv
  ·rename_i vs ht; simp only [hop, h.eval ht, Instr.extract, hv]; rfl
  ·cases hv
 ·rename_i t x hop
  split at hv
  ·rename_i b hx; injection hv with hv; subst hv; simp only [hop, h.eval hx, Op.unary]; rfl
  ·cases hv
 ·rename_i op t x y u hop
  split at hv
  ·rename_i p q hx hy
   split at hv
   ·rename_i hn
    simp [hop, h.eval hx, h.eval hy, qaj op t x y hn, qdy hv t]
   ·cases hv
  ·cases hv
 ·rename_i src dst x hop
  split at hv
  ·rename_i ds k k' m hs hu hx
   injection hv with hv; subst hv
   simp [hop, h.eval hx, convert, run_underlying hs, run_underlying hu, Conv.intToInt]
  ·cases hv
 ·rename_i s x f hop
  split at hv
  ·rename_i ad off hx hf
   injection hv with hv; subst hv
   simp [hop, h.eval hx, qkf hf]
  ·cases hv
 ·cases hv
abbrev vI (x : Int) : Value := .int .i64 x
abbrev vB (x : Int) : Value := .int .u8 x
abbrev vQ (x : Int) : Value := .int .u64 x
abbrev vW (x : Int) : Value := .int .u32 x
abbrev vP (g o : Nat) : Value := .pointer (some ⟨g, o, none⟩)
abbrev vS (g n c : Nat) : Value := .slice (some ⟨g, 0, none⟩) n c
inductive Fact
 | blk (g : Nat) (cs : Array Value) (t : TypeId)
 | row (v : Value) (n : Nat) (xs : List Value) (e : TypeId) (size : Nat)
 | obj (g : Nat) (o : Obj)
def Fact.block : Fact → Option Nat
 | .obj g _ => some g
 | .blk g _ _ => some g
 | .row v _ _ _ _ => v.ownBlock
def Fact.holds (base : Nat) (w : World) : Fact → Prop
 | .obj g o => base ≤ g ∧ w.heap[g]? = some o
 | .blk g cs t => base ≤ g ∧ w.heap[g]? = some (.cells cs t (0, 0))
 | .row v n xs e size => w.ownsRow base e size v n xs
def Fact.apart (f g : Fact) : Prop := ∀ x, f.block = some x → g.block ≠ some x
structure Mem (W w : World) (fs : List Fact) : Prop where
 below : Below W.heap.size W w
 holds : ∀ f ∈ fs, f.holds W.heap.size w
 apart : fs.Pairwise Fact.apart
theorem Fact.apart.symm {f g : Fact} (h : f.apart g) : g.apart f := fun x hx hf => h x hf hx
theorem qgx {w : World} {base : Nat} {e : TypeId} {size : Nat} {v : Value} {n : Nat} {xs : List Value} (h : w.ownsRow base e size v n xs) {g : Nat} (hg : v.ownBlock = some g) : base ≤ g ∧ g < w.heap.size := by
 rcases h.2 with ⟨rfl, _⟩ | ⟨g', cap, cur, rfl, hb, hg', _⟩
 ·cases hg
 ·cases hg; exact ⟨hb, zh hg'⟩
theorem Fact.holds.lt {base : Nat} {w : World} {f : Fact} (h : f.holds base w) {g : Nat} (hg : f.block = some g) : base ≤ g ∧ g < w.heap.size := by
 cases f with
 | blk g' cs t => injection hg with hg; subst hg; exact ⟨h.1, zh h.2⟩
 | row v n xs e size => exact qgx h hg
 | obj g' o => injection hg with hg; subst hg; exact ⟨h.1, zh h.2⟩
theorem Fact.holds.keep {base : Nat} {w w' : World} {f : Fact} (h : f.holds base w) (hk : ∀ g, f.block = some g → w'.heap[g]? = w.heap[g]?) : f.holds base w' := by
 cases f with
 | obj g o => exact ⟨h.1, (hk g rfl).trans h.2⟩
 | blk g cs t => exact ⟨h.1, (hk g rfl).trans h.2⟩
 | row v n xs e size =>
  refine ⟨h.1, ?_⟩
  rcases h.2 with h1 | ⟨g, cap, cur, rfl, hb, hg, r⟩
  ·exact .inl h1
  ·exact .inr ⟨g, cap, cur, rfl, hb, (hk g rfl).trans hg, r⟩
section
variable {W w w' : World} {fs fs' : List Fact}
theorem Mem.start (W : World) : Mem W W [] := ⟨Below.refl _ _, by simp, .nil⟩
theorem Mem.size (h : Mem W w fs) : W.heap.size ≤ w.heap.size := h.below.size
theorem Mem.call (h : Mem W w fs) (hb : Below w.heap.size w w') : Mem W w' fs :=
 ⟨h.below.trans (hb.mono h.size), fun f hf => (h.holds f hf).keep fun g hg => hb.block g ((h.holds f hf).lt hg).2, h.apart⟩
theorem Mem.drew (h : Mem W w fs) : Mem W w.drew fs := h.call (Below.refl _ _).drew
theorem Mem.cons (h : Mem W w fs) {f : Fact} (hf : f.holds W.heap.size w) (hn : ∀ g, f.block = some g → ∀ k ∈ fs, k.block ≠ some g) : Mem W w (f :: fs) :=
 ⟨h.below, fun k hk => by
  rcases List.mem_cons.1 hk with rfl | hk
  ·exact hf
  ·exact h.holds k hk, List.pairwise_cons.2 ⟨fun k hk g hg => hn g hg k hk, h.apart⟩⟩
theorem Mem.nil (h : Mem W w fs) (e : TypeId) (size : Nat) : Mem W w (.row (.slice none 0 0) 0 [] e size :: fs) :=
 h.cons (World.ownsRow_nil _ _ _ _) (fun g hg => by cases hg)
theorem Mem.callRow (h : Mem W w fs) (hb : Below w.heap.size w w') {e : TypeId} {size n : Nat} {v : Value} {xs : List Value} (hr : w'.ownsRow w.heap.size e size v n xs) : Mem W w' (.row v n xs e size :: fs) :=
 (h.call hb).cons (qeo hr h.size) (fun g hg k hk hkg => by
  have h1 := (qgx hr hg).1
  have h2 := ((h.holds k hk).lt hkg).2
  omega)
theorem Mem.alloc (h : Mem W w fs) (cs : Array Value) (t : TypeId) : Mem W (w.alloc (.cells cs t)) (.blk w.heap.size cs t :: fs) :=
 (h.call ((Below.refl _ _).alloc (Nat.le_refl _) _)).cons ⟨h.size, World.alloc_heap_new w _⟩ (fun g hg k hk hkg => by
  injection hg with hg
  have h2 := ((h.holds k hk).lt hkg).2
  omega)
theorem Mem.allocObj (h : Mem W w fs) (o : Obj) : Mem W (w.alloc o) (.obj w.heap.size o :: fs) :=
 (h.call ((Below.refl _ _).alloc (Nat.le_refl _) _)).cons ⟨h.size, World.alloc_heap_new w _⟩ (fun g hg k hk hkg => by
  injection hg with hg
  have h2 := ((h.holds k hk).lt hkg).2
  omega)
def picks (fs : List Fact) (is : List Nat) : List Fact := is.filterMap (fs[·]?)
theorem qbi (h : fs.Pairwise Fact.apart) : ∀ {is : List Nat}, is.Nodup → (picks fs is).Pairwise Fact.apart
 | [], _ => .nil
 | i :: is, hn => by
  rw [List.nodup_cons] at hn
  unfold picks
  rw [List.filterMap_cons]
  cases hi : fs[i]? with
  | none => exact qbi h hn.2
  | some f =>
   refine List.pairwise_cons.2 ⟨fun k hk => ?_, qbi h hn.2⟩
   obtain ⟨j, hj, hjk⟩ := List.mem_filterMap.1 hk
   have hij : i ≠ j := fun e => hn.1 (e ▸ hj)
   obtain ⟨hil, hif⟩ := List.getElem?_eq_some_iff.1 hi
   obtain ⟨hjl, hjf⟩ := List.getElem?_eq_some_iff.1 hjk
   rcases Nat.lt_or_gt_of_ne hij with h1 | h1
   ·have := List.pairwise_iff_getElem.1 h i j hil hjl h1
    rwa [hif, hjf] at this
   ·have := List.pairwise_iff_getElem.1 h j i hjl hil h1
    rw [hif, hjf] at this
    exact this.symm
theorem Mem.picks (h : Mem W w fs) (is : List Nat) (hn : is.Nodup) (he : picks fs is = fs') : Mem W w fs' := by
 subst he
 refine ⟨h.below, fun f hf => ?_, qbi h.apart hn⟩
 obtain ⟨j, _, hj⟩ := List.mem_filterMap.1 hf
 exact h.holds f (List.mem_of_getElem? hj)
theorem Mem.tail {f : Fact} (h : Mem W w (f :: fs)) : Mem W w fs := ⟨h.below, fun k hk => h.holds k (List.mem_cons_of_mem _ hk), (List.pairwise_cons.1 h.apart).2⟩
theorem Mem.turn (h : Mem W w fs) {i : Nat} {f f' : Fact} (hi : fs[i]? = some f) (hb : Below W.heap.size W w') (hk : ∀ g, g < w.heap.size → f.block ≠ some g → w'.heap[g]? = w.heap[g]?)
  (hf : f'.holds W.heap.size w') (hn : ∀ g, f'.block = some g → f.block = some g ∨ w.heap.size ≤ g) : Mem W w' (fs.set i f') := by
 obtain ⟨hil, hif⟩ := List.getElem?_eq_some_iff.1 hi
 have hother : ∀ j (hj : j < fs.length), j ≠ i → Fact.apart fs[j] f ∧ Fact.apart f fs[j] := fun j hj hji => by
  rcases Nat.lt_or_gt_of_ne hji with h1 | h1
  ·have := List.pairwise_iff_getElem.1 h.apart j i hj hil h1
   rw [hif] at this
   exact ⟨this, this.symm⟩
  ·have := List.pairwise_iff_getElem.1 h.apart i j hil hj h1
   rw [hif] at this
   exact ⟨this.symm, this⟩
 have hnew : ∀ j (hj : j < fs.length), j ≠ i → Fact.apart f' fs[j] := fun j hj hji g hg hg' => by
  rcases hn g hg with h1 | h1
  ·exact (hother j hj hji).2 g h1 hg'
  ·have := ((h.holds _ (List.getElem_mem hj)).lt hg').2
   omega
 refine ⟨hb, fun k hkm => ?_, ?_⟩
 ·obtain ⟨j, hj, hjk⟩ := List.getElem_of_mem hkm
  rw [List.getElem_set] at hjk
  rw [List.length_set] at hj
  split at hjk
  ·subst hjk; exact hf
  ·rename_i hne
   subst hjk
   have hh := h.holds _ (List.getElem_mem hj)
   exact hh.keep fun g hg => hk g (hh.lt hg).2 (fun e => (hother j hj (Ne.symm hne)).1 g hg e)
 ·rw [List.pairwise_iff_getElem]
  intro p q hp hq hpq
  rw [List.length_set] at hp hq
  rw [List.getElem_set, List.getElem_set]
  split
  ·rename_i e
   subst e
   rw [if_neg (by omega)]
   exact hnew q hq (by omega)
  ·split
   ·rename_i e
    subst e
    exact (hnew p hp (by omega)).symm
   ·exact List.pairwise_iff_getElem.1 h.apart p q hp hq hpq
theorem Mem.blk (h : Mem W w fs) {i g : Nat} {cs : Array Value} {t : TypeId} (hi : fs[i]? = some (.blk g cs t)) : w.heap[g]? = some (.cells cs t (0, 0)) := (h.holds _ (List.mem_of_getElem? hi)).2
theorem Mem.cell (h : Mem W w fs) {i g o : Nat} {cs : Array Value} {t : TypeId} {v : Value} (hi : fs[i]? = some (.blk g cs t)) (hc : cs[o]? = some v) : w.cell? ⟨g, o, none⟩ = some v := by
 simp [World.cell?, h.blk hi, hc]
theorem Mem.own (h : Mem W w fs) {i : Nat} {v : Value} {n : Nat} {xs : List Value} {e : TypeId} {size : Nat} (hi : fs[i]? = some (.row v n xs e size)) : w.ownsRow W.heap.size e size v n xs := h.holds _ (List.mem_of_getElem? hi)
theorem Mem.rd (h : Mem W w fs) {i : Nat} {A : Option Addr} {n c : Nat} {xs : List Value} {e : TypeId} {size : Nat} (hi : fs[i]? = some (.row (.slice A n c) n xs e size)) : Rd w w.heap.size size A n xs := Rd.qhq (h.own hi) rfl
theorem Mem.old (h : Mem W w fs) {size : Nat} {A : Option Addr} {n : Nat} {xs : List Value} (hr : Rd W W.heap.size size A n xs) : Rd w w.heap.size size A n xs := (hr.below h.below).more h.size
theorem Rd.qyn {w : World} {g : Nat} {cs : Array Value} {t : TypeId} (hb : w.heap[g]? = some (.cells cs t (0, 0))) {size n : Nat} (hn : cs.size = n * size) : Rd w w.heap.size size (some ⟨g, 0, none⟩) n cs.toList :=
 ⟨by simpa using hn, fun _ => ⟨_, rfl, zh hb, fun j u hu => by
  rw [Addr.add_mid, Nat.zero_add]
  simp only [World.cell?, hb]
  simpa using hu⟩⟩
theorem Mem.rdBlk (h : Mem W w fs) {i g : Nat} {cs : Array Value} {t : TypeId} {size n : Nat} (hi : fs[i]? = some (.blk g cs t)) (hn : cs.size = n * size) : Rd w w.heap.size size (some ⟨g, 0, none⟩) n cs.toList := Rd.qyn (h.blk hi) hn
theorem Mem.blkRow (h : Mem W w fs) {i g : Nat} {cs : Array Value} {e : TypeId} {size n : Nat} (hi : fs[i]? = some (.blk g cs e)) (hn : cs.size = n * size) (hm : n ≤ 9223372036854775807) : Mem W w (fs.set i (.row (.slice (some ⟨g, 0, none⟩) n n) n cs.toList e size)) := by
 have hb := h.holds _ (List.mem_of_getElem? hi)
 refine h.turn hi h.below (fun _ _ _ => rfl) ⟨by simpa using hn, .inr ⟨g, n, cs, rfl, hb.1, hb.2, Nat.le_refl _, by unfold maxLen; exact hm, hn, ?_⟩⟩ (fun g' hg' => .inl hg')
 rw [← hn, ← Array.length_toList, List.take_length]
theorem Mem.set (h : Mem W w fs) {i g o : Nat} {cs : Array Value} {t : TypeId} (hi : fs[i]? = some (.blk g cs t)) (v : Value) : Mem W (w.setCell ⟨g, o, none⟩ v) (fs.set i (.blk g (cs.setIfInBounds o v) t)) := by
 have hb := h.holds _ (List.mem_of_getElem? hi)
 refine h.turn hi (h.below.setCell (p := ⟨g, o, none⟩) hb.1 v) (fun k hk hne => ?_) ⟨hb.1, ?_⟩ (fun g' hg' => .inl hg')
 ·exact Below.heap_setCell _ _ _ _ (fun e => hne (by rw [e]; rfl))
 ·simp [World.setCell, Array.getElem?_modify, hb.2]
theorem Mem.setAll (h : Mem W w fs) {i g : Nat} {cs ds : Array Value} {t : TypeId} (hi : fs[i]? = some (.blk g cs t)) (hs : cs.size = ds.size) : Mem W (w.setCells g 0 ds.toList) (fs.set i (.blk g ds t)) := by
 have hb := h.holds _ (List.mem_of_getElem? hi)
 refine h.turn hi (below_setCells h.below hb.1 0 _) (fun k hk hne => ?_) ⟨hb.1, ?_⟩ (fun g' hg' => .inl hg')
 ·exact zu _ _ _ _ _ (fun e => hne (by rw [e]; rfl))
 ·have := qb9 hb.2 ds.toList (by simpa using hs)
  simpa using this
theorem Mem.append (h : Mem W w fs) {i n : Nat} {v v' : Value} {xs ys : List Value} {e : TypeId} {size n' : Nat} (hi : fs[i]? = some (.row v n xs e size)) (ho : w'.ownsRow W.heap.size e size v' n' ys) (hg : w.grownBy w' v.ownBlock)
  (hb : v'.ownBlock = v.ownBlock ∨ v'.ownBlock = some w.heap.size) : Mem W w' (fs.set i (.row v' n' ys e size)) := by
 have hv := h.own hi
 refine h.turn hi (h.below.grown hg h.size (fun g hgb => (qgx hv hgb).1)) (fun g hgl hne => hg.block g hgl (fun e => hne e.symm)) ho (fun g hgb => ?_)
 have hgb' : v'.ownBlock = some g := hgb
 rcases hb with h1 | h1
 ·exact .inl (show v.ownBlock = some g by rw [← h1]; exact hgb')
 ·rw [h1] at hgb'; injection hgb' with e; exact .inr (by omega)
end
def qae (P : Program) (ops : Array Oper) (Q : Exit → Act → World → Prop) (i : Nat) (a : Act) (w : World) : Prop := wpList P ops Q (ops.toList.drop i) a w
def Yl (P : Program) (S : World → Prop) (σ : List (Nat × Value)) (o : Oper) (v : Value) : Prop := ∀ (a : Act) (n : Nat) (D : List Deferred), Fr a n D σ → ∀ w, S w → (execOp a.eval o).run P w = .ok (.value v) w
section
variable {P : Program} {ops : Array Oper} {Q : Exit → Act → World → Prop} {a : Act} {w : World} {n i j d fuel : Nat} {D : List Deferred} {σ σ' : List (Nat × Value)} {o : Oper} {v : Value} {md : Region.Mode} {S : World → Prop} {K : Act → World → Prop} {listed : Array Bool}
theorem qa {id : Nat} (h : qae P ops Q 0 a w) : (Code.region id ops false).wp P Q a w := wp_region_list (by simpa [qae] using h)
theorem qb (hi : ops.size = i) (h : Q .normal a w) : qae P ops Q i a w := by
 unfold qae
 rw [List.drop_of_length_le (by simp [hi])]
 exact h
theorem qqn (HF : Fr a n D σ) (ho : ops[i]? = some o) (hw : wantB ops σ o = some true) (h : o.wp P a w (qae P ops Q (i + 1)) Q) : qae P ops Q i a w := by
 obtain ⟨hl, he⟩ := Array.getElem?_eq_some_iff.1 ho
 unfold qae
 rw [List.drop_eq_getElem_cons (by simpa using hl), Array.getElem_toList, he]
 unfold wpList
 rw [if_pos (qcm HF hw)]
 exact .inl h
theorem qqo (HF : Fr a n D σ) (ho : ops[i]? = some o) (hw : wantB ops σ o = some false) (hd : o.dst = some d) (hdn : d < n) (k : ∀ a', Fr a' n D ((d, undef) :: σ) → qae P ops Q (i + 1) a' w) : qae P ops Q i a w := by
 obtain ⟨hl, he⟩ := Array.getElem?_eq_some_iff.1 ho
 unfold qae
 rw [List.drop_eq_getElem_cons (by simpa using hl), Array.getElem_toList, he]
 unfold wpList
 rw [if_neg (by rw [qcm HF hw]; simp), hd]
 exact k _ (HF.put hdn _)
theorem Yl.wp (hy : Yl P S σ o v) (HF : Fr a n D σ) (hS : S w) (hd : o.dst = some d) (hdn : d < n) (k : ∀ a', Fr a' n D ((d, v) :: σ) → K a' w) : o.wp P a w K Q := by
 unfold Oper.wp
 rw [hy a n D HF w hS, Oper.upon_value, hd]
 exact k _ (HF.put hdn _)
theorem qqp (HF : Fr a n D σ) (hS : S w) (ho : ops[i]? = some o) (hw : wantB ops σ o = some true) (hd : o.dst = some d) (hdn : d < n) (hy : Yl P S σ o v) (k : ∀ a', Fr a' n D ((d, v) :: σ) → qae P ops Q (i + 1) a' w) : qae P ops Q i a w :=
 qqn HF ho hw (hy.wp HF hS hd hdn k)
theorem Yl.pure (h : qjb P σ o.op = some v) : Yl P S σ o v := fun _ _ _ HF w _ => qma HF h w
def qc0 (P : Program) (ops : Array Oper) (n i : Nat) (σ : List (Nat × Value)) : Option (List (Nat × Value)) :=
 match ops[i]? with
 | none => none
 | some o => match wantB ops σ o, o.dst with
  | some true, some d => if d < n then match qjb P σ o.op with
   | some v => some ((d, v) :: σ)
   | none => none else none
  | some false, some d => if d < n then some ((d, undef) :: σ) else none
  | _, _ => none
def qbm (P : Program) (ops : Array Oper) (n : Nat) : Nat → Nat → List (Nat × Value) → Option (List (Nat × Value))
 | 0, _, σ => some σ
 | m + 1, i, σ => match qc0 P ops n i σ with
  | none => none
  | some σ' => qbm P ops n m (i + 1) σ'
theorem qgy : ∀ (m i : Nat) {j : Nat} {a : Act} {σ : List (Nat × Value)}, Fr a n D σ → qbm P ops n m i σ = some σ' → i + m = j → (∀ a', Fr a' n D σ' → qae P ops Q j a' w) → qae P ops Q i a w
 | 0, i, j, a, σ, HF, h, hj, k => by
  injection h with h
  subst h
  have e : i = j := hj
  subst e
  exact k a HF
 | m + 1, i, j, a, σ, HF, h, hj, k => by
  unfold qbm at h
  split at h
  ·cases h
  ·rename_i σ1 h1
   have rest := fun a' HF' => qgy m (i + 1) (a := a') (σ := σ1) HF' h (by omega) k
   unfold qc0 at h1
   split at h1
   ·cases h1
   ·rename_i o ho
    split at h1
    ·rename_i d hw hd
     split at h1
     ·rename_i hdn
      split at h1
      ·rename_i v hv
       injection h1 with h1
       subst h1
       exact qqp (S := fun _ => True) HF trivial ho hw hd hdn (Yl.pure hv) rest
      ·cases h1
     ·cases h1
    ·rename_i d hw hd
     split at h1
     ·rename_i hdn
      injection h1 with h1
      subst h1
      exact qqo HF ho hw hd hdn rest
     ·cases h1
    ·cases h1
theorem Fr.sp {v : Value} (h : Fr a n D σ) (t : Nat) (u : Value) (hl : σ.lookup t = some v) (e : v = u) : Fr a n D ((t, u) :: σ) := by
 subst e
 refine ⟨h.size, h.defers, fun s x hx => ?_⟩
 rw [List.lookup_cons] at hx
 split at hx
 ·rename_i hs
  rw [beq_iff_eq] at hs
  subst hs
  injection hx with hx
  subst hx
  exact h.slot _ _ hl
 ·exact h.slot _ _ hx
theorem Fr.to (h : Fr a n D σ) (σ' : List (Nat × Value)) (hs : σ'.map (fun p => σ.lookup p.1) = σ'.map (fun p => some p.2) := by kernel_rfl) : Fr a n D σ' := h.sub hs
theorem Fr.on {b c : Bool} (h : Fr a n D σ) (t : Nat) (hb : b = c) (hl : σ.lookup t = some (.bool b) := by rfl) : Fr a n D ((t, .bool c) :: σ) := by
 subst hb
 refine ⟨h.size, h.defers, fun s x hx => ?_⟩
 rw [List.lookup_cons] at hx
 split at hx
 ·rename_i hs
  rw [beq_iff_eq] at hs
  subst hs
  injection hx with hx
  subst hx
  exact h.slot _ _ hl
 ·exact h.slot _ _ hx
theorem Fr.tf {b : Bool} (h : Fr a n D σ) (t : Nat) (hl : σ.lookup t = some (.bool b)) : (b = true ∧ Fr a n D ((t, .bool true) :: σ)) ∨ (b = false ∧ Fr a n D ((t, .bool false) :: σ)) := by
 cases b
 ·exact .inr ⟨rfl, h.on t rfl hl⟩
 ·exact .inl ⟨rfl, h.on t rfl hl⟩
theorem qf5 {i : Nat} {s : List (Nat × Value)} (h : qc0 P ops n i σ = some s) : ∃ p, s = p :: σ := by
 unfold qc0 at h
 split at h
 ·cases h
 ·split at h
  ·split at h
   ·split at h
    ·injection h with h; exact ⟨_, h.symm⟩
    ·cases h
   ·cases h
  ·split at h
   ·injection h with h; exact ⟨_, h.symm⟩
   ·cases h
  ·cases h
theorem qew : ∀ (m i : Nat) {σ s : List (Nat × Value)}, qbm P ops n m i σ = some s → ∃ full, s = full ++ σ
 | 0, _, σ, s, h => by injection h with h; exact ⟨[], h.symm⟩
 | m + 1, i, σ, s, h => by
  cases h1 : qc0 P ops n i σ with
  | none => rw [qbm, h1] at h; cases h
  | some s1 =>
   rw [qbm, h1] at h
   obtain ⟨p, rfl⟩ := qf5 h1
   obtain ⟨full, hf⟩ := qew m (i + 1) h
   exact ⟨full ++ [p], by rw [hf]; simp⟩
def thin (s σ new : List (Nat × Value)) : Bool := (s.take (s.length - σ.length)).all fun p => (new.any fun q => q.1 == p.1) || !(σ.any fun q => q.1 == p.1)
theorem qfn {t : Nat} : ∀ {l m : List (Nat × Value)}, (l ++ m).lookup t = match l.lookup t with | some v => some v | none => m.lookup t
 | [], m => rfl
 | q :: l, m => by
  rw [List.cons_append, List.lookup_cons, List.lookup_cons]
  split
  ·rfl
  ·exact qfn
theorem qc1 {t : Nat} {v : Value} : ∀ {l : List (Nat × Value)}, l.lookup t = some v → (l.any fun q => q.1 == t) = true
 | [], h => by cases h
 | q :: l, h => by
  rw [List.lookup_cons] at h
  split at h
  ·rename_i hb
   rw [beq_iff_eq] at hb
   simp [hb]
  ·simp only [List.any_cons, Bool.or_eq_true]
   exact .inr (qc1 h)
theorem qgz {t : Nat} {l : List (Nat × Value)} (h : (l.any fun q => q.1 == t) = true) : ∃ p ∈ l, p.1 = t := by
 rw [List.any_eq_true] at h
 obtain ⟨p, h1, h2⟩ := h
 exact ⟨p, h1, by simpa using h2⟩
theorem Fr.thin {s full new : List (Nat × Value)} (h : Fr a n D s) (hs : s = full ++ σ) (ht : Go.Proofs.YtfeheccoijnbaaaDoor.thin s σ new = true) (hn : new.map (fun p => s.lookup p.1) = new.map (fun p => some p.2)) : Fr a n D (new ++ σ) := by
 have h1 := h.sub hn
 refine ⟨h.size, h.defers, fun t v hv => ?_⟩
 rw [qfn] at hv
 cases hl : new.lookup t with
 | some u =>
  rw [hl] at hv
  injection hv with hv
  subst hv
  exact h1.slot t u hl
 | none =>
  rw [hl] at hv
  have hv : σ.lookup t = some v := hv
  refine h.slot t v ?_
  rw [hs, qfn]
  cases hf : full.lookup t with
  | none => exact hv
  | some u =>
   exfalso
   unfold Go.Proofs.YtfeheccoijnbaaaDoor.thin at ht
   have hlen : s.take (s.length - σ.length) = full := by rw [hs, List.length_append, Nat.add_sub_cancel]; exact List.take_left
   rw [hlen, List.all_eq_true] at ht
   obtain ⟨p, hp1, hp2⟩ := qgz (qc1 hf)
   have := ht p hp1
   rw [hp2, qc1 hv] at this
   simp only [Bool.not_true, Bool.or_false] at this
   obtain ⟨q, hq1, hq2⟩ := qgz this
   have h3 : new.lookup t ≠ none := by
    intro h4
    have h5 : ∀ (l : List (Nat × Value)), q ∈ l → l.lookup t ≠ none := by
     intro l
     induction l with
     | nil => intro h6; cases h6
     | cons r l ih =>
      intro h6
      rw [List.lookup_cons]
      split
      ·simp
      ·rename_i hb
       rcases List.mem_cons.1 h6 with rfl | h6
       ·exfalso; rw [hq2] at hb; simp at hb
       ·exact ih h6
    exact h5 new hq1 h4
   exact h3 hl
theorem fp (HF : Fr a n D σ) (m i : Nat) (new : List (Nat × Value)) (k : ∀ a', Fr a' n D (new ++ σ) → qae P ops Q (i + m) a' w) (h : (qbm P ops n m i σ).map (fun s => (thin s σ new, new.map fun p => s.lookup p.1)) = some (true, new.map fun p => some p.2) := by kernel_rfl) : qae P ops Q i a w := by
 cases hs : qbm P ops n m i σ with
 | none => rw [hs] at h; cases h
 | some s =>
  rw [hs] at h
  injection h with h
  injection h with h1 h2
  obtain ⟨full, hf⟩ := qew m i hs
  exact qgy m i HF hs rfl fun a' HF' => k a' (HF'.thin hf h1 h2)
theorem fo (HF : Fr a n D σ) (i : Nat) (ho : ops[i]? = some o) (hw : wantB ops σ o = some true) (h : o.wp P a w (qae P ops Q (i + 1)) Q) : qae P ops Q i a w := qqn HF ho hw h
theorem fy {W : World} {fs : List Fact} (HF : Fr a n D σ) (HM : Mem W w fs) (i : Nat) (ho : ops[i]? = some o) (hw : wantB ops σ o = some true) (hd : o.dst = some d) (hy : Yl P (fun wS => Mem W wS fs) σ o v) (k : ∀ a', Fr a' n D ((d, v) :: σ) → qae P ops Q (i + 1) a' w) (hdn : d < n := by decide) : qae P ops Q i a w :=
 qqp (S := fun wS => Mem W wS fs) HF HM ho hw hd hdn hy k
def pastB (ex : List Nat) (listed : Array Bool) : Bool := ex.any fun j => listed.getD j false
def qak (P : Program) (md : Region.Mode) (ops : Array Oper) (Q : Exit → Act → World → Prop) (S : World → Prop) (ex : List Nat) : Nat → Array Bool → Act → World → Prop
 | 0, listed, a, w => Region.ready md ops listed = [] ∧ Q .normal a w
 | fuel + 1, listed, a, w =>
  (Region.ready md ops listed = [] → Q .normal a w) ∧
  ∀ i ∈ Region.ready md ops listed, wpOp P ops Q i (fun a' w' => (pastB ex (listed.setIfInBounds i true) = false → S w') ∧ qak P md ops Q S ex fuel (listed.setIfInBounds i true) a' w') a w
theorem qc2 {ex : List Nat} : ∀ (fuel : Nat) (listed : Array Bool) (a : Act) (w : World), qak P md ops Q S ex fuel listed a w → wpAny P md ops Q fuel listed a w
 | 0, _, _, _, h => h
 | fuel + 1, _, _, _, h => ⟨h.1, fun i hi => wpOp_mono (fun a' w' h' => qc2 fuel _ a' w' h'.2) (h.2 i hi)⟩
def exOk (md : Region.Mode) (ops : Array Oper) (ex : List Nat) (i : Nat) : Bool := ex.all fun j => match ops[j]? with
 | some o => o.after.any fun e => Region.binds md e && e.on == i
 | none => true
theorem qkg {ex : List Nat} {l : Array Bool} {i : Nat} (h : ex.contains i = false) : pastB ex (l.setIfInBounds i true) = pastB ex l := by
 unfold pastB
 rw [Bool.eq_iff_iff, List.any_eq_true, List.any_eq_true]
 have hne : ∀ j ∈ ex, i ≠ j := fun j hj e => by
  subst e
  have : ex.contains i = true := by simpa using hj
  rw [h] at this; cases this
 constructor
 ·rintro ⟨j, hj, hl⟩; exact ⟨j, hj, by rwa [getD_set_ne false (hne j hj)] at hl⟩
 ·rintro ⟨j, hj, hl⟩; exact ⟨j, hj, by rwa [getD_set_ne false (hne j hj)]⟩
theorem qfo {ex : List Nat} {l : Array Bool} {i : Nat} (h : pastB ex (l.setIfInBounds i true) = false) : pastB ex l = false := by
 cases hp : pastB ex l with
 | false => rfl
 | true =>
  unfold pastB at h hp
  obtain ⟨j, hj, hl⟩ := List.any_eq_true.1 hp
  rw [List.any_eq_false] at h
  exact absurd (getD_set_true (i := i) hl) (h j hj)
theorem qfp {ex : List Nat} {oi : Oper} {T : World → Prop} (hi : ops[i]? = some oi) (hsel : ∀ (j : Nat) (o : Oper) cs b, ops[j]? = some o → o.op ≠ .select cs b)
  (hQ : ∀ c (a : Act) w, Q (.panic c) (a.put oi.dst v) w → Q (.panic c) a w) (hiex : ex.contains i = false) :
  ∀ (fuel : Nat) (listed : Array Bool) (a : Act) (w : World), ((∀ w, T w) ∨ (T = S ∧ exOk md ops ex i = true ∧ pastB ex listed = false)) →
   (∀ j oj, ops[j]? = some oj → j ≠ i → listed.getD j true = false → (∀ e ∈ oj.after, Region.binds md e = true → e.on ≠ i) → oi.apart ops oj = true) →
   i ∈ Region.ready md ops listed → YieldsIf P ops T oi v a → (pastB ex listed = false → S w) →
   qak P md ops Q S ex fuel (listed.setIfInBounds i true) (a.put oi.dst v) w → qak P md ops Q S ex (fuel + 1) listed a w := by
 intro fuel
 induction fuel with
 | zero =>
  intro listed a w hx _ hr hy hS H
  have hT : T w := by rcases hx with h | ⟨h, _, hp⟩ <;> first | exact h w | (rw [h]; exact hS hp)
  refine ⟨fun h => (by rw [h] at hr; cases hr), fun j hj => ?_⟩
  by_cases hji : j = i
  ·subst hji; exact hy.wpOp hi hT ⟨fun hp => hS (qfo hp), H⟩
  ·have := ready_mono hj hji
   rw [H.1] at this
   cases this
 | succ fuel ih =>
  intro listed a w hx hfree hr hy hS H
  have hT : T w := by rcases hx with h | ⟨h, _, hp⟩ <;> first | exact h w | (rw [h]; exact hS hp)
  refine ⟨fun h => (by rw [h] at hr; cases hr), fun j hj => ?_⟩
  by_cases hji : j = i
  ·subst hji; exact hy.wpOp hi hT ⟨fun hp => hS (qfo hp), H⟩
  ·have h1 := H.2 j (ready_mono hj hji)
   obtain ⟨hjun, oj, hoj, hall⟩ := mem_ready.1 hj
   have hnot : ∀ e ∈ oj.after, Region.binds md e = true → e.on ≠ i := fun e he hb heq => by
    have h1 := hall e he hb
    have h0 := (mem_ready.1 hr).1
    rw [heq] at h1
    rcases Nat.lt_or_ge i listed.size with h' | h'
    ·simp [h'] at h0 h1; rw [h0] at h1; cases h1
    ·simp [Array.getElem?_eq_none h'] at h1
   have hx' : (∀ w, T w) ∨ (T = S ∧ exOk md ops ex i = true ∧ pastB ex (listed.setIfInBounds j true) = false) := by
    rcases hx with h | ⟨h, h2, h3⟩
    ·exact .inl h
    ·refine .inr ⟨h, h2, ?_⟩
     rw [qkg ?_]
     ·exact h3
     ·cases hc : ex.contains j with
      | false => rfl
      | true =>
       have hm : j ∈ ex := by simpa using hc
       have h2 := List.all_eq_true.1 h2 j hm
       rw [hoj] at h2
       obtain ⟨e, he, hb⟩ := Array.any_eq_true'.1 h2
       rw [Bool.and_eq_true, beq_iff_eq] at hb
       exact absurd hb.2 (hnot e he hb.1)
   have h2 := wpOp_putIf hoj (hfree j oj hoj hji hjun hnot) (fun cs b => hsel i oi cs b hi) (fun cs b => hsel j oj cs b hoj) hQ hy h1
   have hfree' : ∀ k ok, ops[k]? = some ok → k ≠ i → (listed.setIfInBounds j true).getD k true = false →
     (∀ e ∈ ok.after, Region.binds md e = true → e.on ≠ i) → oi.apart ops ok = true := fun k ok hk hki hun hno => by
    refine hfree k ok hk hki ?_ hno
    by_cases hjk : j = k
    ·subst hjk; exact hjun
    ·rw [getD_set_ne true hjk] at hun; exact hun
   refine wpOp_mono (fun a' w' h3 => ?_) h2
   have hS' : pastB ex (listed.setIfInBounds j true) = false → S w' := fun hp => h3.2.1 (by rw [Array.setIfInBounds_comm _ _ (Ne.symm hji), qkg hiex]; exact hp)
   refine ⟨hS', ih (listed.setIfInBounds j true) a' w' hx' hfree' (ready_mono hr (Ne.symm hji)) h3.1 hS' ?_⟩
   rw [Array.setIfInBounds_comm _ _ hji]
   exact h3.2.2
section
variable {ex : List Nat}
theorem qkh {id : Nat} (hm : P.follows .mixedOrders = true) (S : World → Prop) (ex : List Nat) (h : qak P .any ops Q S ex ops.size (Array.replicate ops.size false) a w.drew) : (Code.region id ops true).wp P Q a w :=
 wp_region_any hm (qc2 _ _ _ _ h)
theorem qaf {id : Nat} {W : World} {fs : List Fact} (HM : Mem W w fs) (fs' : List Fact) (is ex : List Nat) (h : Mem W w.drew fs → Mem W w.drew fs' → qak P .any ops Q (fun wS => Mem W wS fs') ex ops.size (Array.replicate ops.size false) a w.drew)
  (hm : P.follows .mixedOrders = true := by kernel_rfl) (hn : is.Nodup := by decide) (he : picks fs is = fs' := by rfl) : (Code.region id ops true).wp P Q a w :=
 qkh hm _ ex (h HM.drew (HM.drew.picks is hn he))
def qqq (md : Region.Mode) (ops : Array Oper) (ex : List Nat) (listed : Array Bool) (i : Nat) : Bool :=
 Region.noSelect ops && (Region.free md ops listed i && ((Region.ready md ops listed).contains i && (!ex.contains i && (exOk md ops ex i && !pastB ex listed))))
def qki (md : Region.Mode) (ops : Array Oper) (ex : List Nat) (listed : Array Bool) (i : Nat) : Bool :=
 Region.noSelect ops && (Region.free md ops listed i && ((Region.ready md ops listed).contains i && !ex.contains i))
theorem qx1 (HF : Fr a n D σ) (hS : S w) (ho : ops[i]? = some o) (hw : wantB ops σ o = some true) (hd : o.dst = some d) (hdn : d < n) (hok : qqq md ops ex listed i = true) (hQ : ∀ c (a : Act) w, Q (.panic c) (a.put o.dst v) w → Q (.panic c) a w) (hy : Yl P S σ o v)
  (k : ∀ a', Fr a' n D ((d, v) :: σ) → qak P md ops Q S ex fuel (listed.setIfInBounds i true) a' w) : qak P md ops Q S ex (fuel + 1) listed a w := by
 simp only [qqq, Bool.and_eq_true, Bool.not_eq_true'] at hok
 obtain ⟨h1, h2, h3, h4, h5, h6⟩ := hok
 exact qfp (T := S) ho (Region.noSelect_spec h1) hQ h4 fuel listed a w (.inr ⟨rfl, h5, h6⟩) (Region.free_spec ho h2) (by simpa using h3) (.inl ⟨qcm HF hw, fun w hw => hy a n D HF w hw⟩) (fun _ => hS) (by rw [hd]; exact k _ (HF.put hdn _))
theorem qp (HF : Fr a n D σ) (hS : pastB ex listed = false → S w) (ho : ops[i]? = some o) (hw : wantB ops σ o = some true) (hd : o.dst = some d) (hdn : d < n) (hok : qki md ops ex listed i = true) (hQ : ∀ c (a : Act) w, Q (.panic c) (a.put o.dst v) w → Q (.panic c) a w) (hy : ∀ S', Yl P S' σ o v)
  (k : ∀ a', Fr a' n D ((d, v) :: σ) → qak P md ops Q S ex fuel (listed.setIfInBounds i true) a' w) : qak P md ops Q S ex (fuel + 1) listed a w := by
 simp only [qki, Bool.and_eq_true, Bool.not_eq_true'] at hok
 obtain ⟨h1, h2, h3, h4⟩ := hok
 exact qfp (T := fun _ => True) ho (Region.noSelect_spec h1) hQ h4 fuel listed a w (.inl fun _ => trivial) (Region.free_spec ho h2) (by simpa using h3) (.inl ⟨qcm HF hw, fun w _ => hy (fun _ => True) a n D HF w trivial⟩) hS (by rw [hd]; exact k _ (HF.put hdn _))
theorem qtq (HF : Fr a n D σ) (hS : pastB ex listed = false → S w) (ho : ops[i]? = some o) (hw : wantB ops σ o = some false) (hd : o.dst = some d) (hdn : d < n) (hok : qki md ops ex listed i = true) (hQ : ∀ c (a : Act) w, Q (.panic c) (a.put o.dst undef) w → Q (.panic c) a w)
  (k : ∀ a', Fr a' n D ((d, undef) :: σ) → qak P md ops Q S ex fuel (listed.setIfInBounds i true) a' w) : qak P md ops Q S ex (fuel + 1) listed a w := by
 simp only [qki, Bool.and_eq_true, Bool.not_eq_true'] at hok
 obtain ⟨h1, h2, h3, h4⟩ := hok
 exact qfp (T := fun _ => True) ho (Region.noSelect_spec h1) hQ h4 fuel listed a w (.inl fun _ => trivial) (Region.free_spec ho h2) (by simpa using h3) (.inr ⟨qcm HF hw, rfl⟩) hS (by rw [hd]; exact k _ (HF.put hdn _))
def qc3 (P : Program) (md : Region.Mode) (ops : Array Oper) (n : Nat) (ex : List Nat) : List Nat → Array Bool → List (Nat × Value) → Option (Array Bool × List (Nat × Value))
 | [], l, σ => some (l, σ)
 | i :: is, l, σ => if qki md ops ex l i then match qc0 P ops n i σ with
   | some σ' => qc3 P md ops n ex is (l.setIfInBounds i true) σ'
   | none => none
  else none
theorem qh5 {listed' : Array Bool} (hQ : ∀ c (a : Act) d v w, Q (.panic c) (a.put d v) w → Q (.panic c) a w) :
  ∀ (is : List Nat) {a : Act} {σ : List (Nat × Value)} {listed : Array Bool}, Fr a n D σ → (pastB ex listed = false → S w) → qc3 P md ops n ex is listed σ = some (listed', σ') → (∀ a', Fr a' n D σ' → qak P md ops Q S ex fuel listed' a' w) → qak P md ops Q S ex (fuel + is.length) listed a w
 | [], a, σ, listed, HF, _, h, k => by
  injection h with h
  injection h with h1 h2
  subst h1; subst h2
  exact k a HF
 | i :: is, a, σ, listed, HF, hS, h, k => by
  unfold qc3 at h
  split at h
  ·rename_i hc
   split at h
   ·rename_i σ1 h1
    have rest := fun a' HF' => qh5 hQ is (a := a') (σ := σ1) HF' (fun hp => hS (qfo hp)) h k
    unfold qc0 at h1
    split at h1
    ·cases h1
    ·rename_i o ho
     split at h1
     ·rename_i d hw hd
      split at h1
      ·rename_i hdn
       split at h1
       ·rename_i v hv
        injection h1 with h1
        subst h1
        exact qp HF hS ho hw hd hdn hc (fun c a w => hQ c a _ _ w) (fun _ => Yl.pure hv) rest
       ·cases h1
      ·cases h1
     ·rename_i d hw hd
      split at h1
      ·rename_i hdn
       injection h1 with h1
       subst h1
       exact qtq HF hS ho hw hd hdn hc (fun c a w => hQ c a _ _ w) rest
      ·cases h1
     ·cases h1
   ·cases h
  ·cases h
theorem qf6 : ∀ (is : List Nat) {l l' : Array Bool} {σ s : List (Nat × Value)}, qc3 P md ops n ex is l σ = some (l', s) → ∃ full, s = full ++ σ
 | [], _, _, σ, s, h => by injection h with h; injection h with _ h; exact ⟨[], h.symm⟩
 | i :: is, l, l', σ, s, h => by
  unfold qc3 at h
  split at h
  ·split at h
   ·rename_i s1 h1
    obtain ⟨p, rfl⟩ := qf5 h1
    obtain ⟨full, hf⟩ := qf6 is h
    exact ⟨full ++ [p], by rw [hf]; simp⟩
   ·cases h
  ·cases h
theorem ap (HF : Fr a n D σ) (hS : pastB ex listed = false → S w) (is : List Nat) (listed' : Array Bool) (new : List (Nat × Value)) (k : ∀ a', Fr a' n D (new ++ σ) → qak P md ops Q S ex fuel listed' a' w)
  (hQ : ∀ c (a : Act) d v w, Q (.panic c) (a.put d v) w → Q (.panic c) a w := by intro _ _ d _ _ h; cases d <;> exact h) (h : (qc3 P md ops n ex is listed σ).map (fun r => (r.1, thin r.2 σ new, new.map fun p => r.2.lookup p.1)) = some (listed', true, new.map fun p => some p.2) := by kernel_rfl) : qak P md ops Q S ex (fuel + is.length) listed a w := by
 cases hs : qc3 P md ops n ex is listed σ with
 | none => rw [hs] at h; cases h
 | some r =>
  obtain ⟨l2, s⟩ := r
  rw [hs] at h
  injection h with h
  injection h with h0 h1
  injection h1 with h1 h2
  simp only at h0
  subst h0
  obtain ⟨full, hf⟩ := qf6 is hs
  exact qh5 hQ is HF hS hs fun a' HF' => k a' (HF'.thin hf h1 h2)
theorem ay (HF : Fr a n D σ) (hS : S w) (i : Nat) (ho : ops[i]? = some o) (hw : wantB ops σ o = some true) (hd : o.dst = some d) (hy : Yl P S σ o v) (k : ∀ a', Fr a' n D ((d, v) :: σ) → qak P md ops Q S ex fuel (listed.setIfInBounds i true) a' w)
  (hdn : d < n := by decide) (hok : qqq md ops ex listed i = true := by kernel_rfl) (hQ : ∀ c (a : Act) w, Q (.panic c) (a.put o.dst v) w → Q (.panic c) a w := by intro _ _ _ h; exact h) : qak P md ops Q S ex (fuel + 1) listed a w := qx1 HF hS ho hw hd hdn hok hQ hy k
theorem qn (hr : Region.ready md ops listed = []) (h : Q .normal a w) : qak P md ops Q S ex fuel listed a w := by
 cases fuel with
 | zero => exact ⟨hr, h⟩
 | succ f => exact ⟨fun _ => h, by rw [hr]; simp⟩
theorem all_nil {X : Nat → Prop} : ∀ i ∈ ([] : List Nat), X i := fun _ h => by cases h
theorem all_cons {X : Nat → Prop} {r : List Nat} (h : X i) (t : ∀ i ∈ r, X i) : ∀ j ∈ i :: r, X j := fun j hj => by
 rcases List.mem_cons.1 hj with rfl | hj
 ·exact h
 ·exact t j hj
theorem qj (rs : List Nat) (hr : Region.ready md ops listed = rs) (hne : rs.isEmpty = false) (h : ∀ i ∈ rs, wpOp P ops Q i (fun a' w' => (pastB ex (listed.setIfInBounds i true) = false → S w') ∧ qak P md ops Q S ex fuel (listed.setIfInBounds i true) a' w') a w) : qak P md ops Q S ex (fuel + 1) listed a w :=
 ⟨fun e => (by rw [hr] at e; subst e; cases hne), hr ▸ h⟩
theorem pastS {p : Prop} {l : Array Bool} (h : pastB ex l = true) : pastB ex l = false → p := fun e => by rw [h] at e; cases e
theorem keepS {c p X : Prop} (h : p) (k : p → X) : (c → p) ∧ X := ⟨fun _ => h, k h⟩
theorem noS {p X : Prop} {l : Array Bool} (h : pastB ex l = true) (k : X) : (pastB ex l = false → p) ∧ X := ⟨fun e => (by rw [h] at e; cases e), k⟩
theorem qm (HF : Fr a n D σ) (ho : ops[i]? = some o) (hw : wantB ops σ o = some true) (h : o.wp P a w K Q) : wpOp P ops Q i K a w := by
 unfold wpOp
 rw [ho]
 simp only [qcm HF hw, if_true]
 exact .inl h
end
def isOne (P : Program) (t : TypeId) : Bool := match P.underlying t with
 | some (.struct _) => false
 | some (.array _ _) => false
 | some _ => true
 | none => false
def qnb (P : Program) (t : TypeId) : Option Nat := match P.underlying t with
 | some (.slice e) => (P.info? e).map (·.size)
 | _ => none
theorem qex {t : TypeId} (h : isOne P t = true) (w : World) : (isAgg t).run P w = .ok false w := by
 unfold isOne at h
 cases hu : P.underlying t with
 | none => rw [hu] at h; cases h
 | some d => rw [hu] at h; simp only [isAgg, Sem.run_bind, run_underlying hu, Result.andThen_ok]; cases d <;> first | rfl | cases h
theorem Yl.qh {t : TypeId} {x : Operand} {p : Addr} (hop : o.op = .load t x) (hx : look σ x = some (.pointer (some p))) (ht : isOne P t = true) (hc : ∀ w, S w → w.cell? p = some v) : Yl P S σ o v := fun a n D HF w hS => by
 unfold execOp
 simp [hop, HF.eval hx, Instr.loadAt, Instr.sureAddr, loadVar, qex ht, load, Sem.run, hc w hS]
theorem Yl.zg {t : TypeId} {x : Operand} {b off m : Nat} {cs : Array Value} (hop : o.op = .load t x) (hx : look σ x = some (.pointer (some ⟨b, off, none⟩))) (si : SI P t m) (hm : cs.size = m) (hc : ∀ w, S w → w.rangeAt b off cs.toList) : Yl P S σ o (.agg cs) := fun a n D HF w hS => by
 obtain ⟨ds, hu, hd⟩ := si.desc
 have hl := run_loadVar_mid (P := P) w b off t cs.toList ds (hc w hS) hu hd (by rw [si.size, ← hm]; simp)
 unfold execOp
 simp [hop, HF.eval hx, Instr.loadAt, Instr.sureAddr, hl]
theorem Yl.indexAddr {t : TypeId} {x ix : Operand} {ad : Addr} {m c y sz : Nat} {k : IntKind} (hop : o.op = .indexAddr t x ix) (hx : look σ x = some (.slice (some ad) m c)) (hi : look σ ix = some (.int k (y : Int))) (hy : y < m) (he : qnb P t = some sz) : Yl P S σ o (.pointer (some (ad.add (y * sz)))) := fun a n D HF w hS => by
 unfold qnb at he
 split at he
 ·rename_i e hu
  obtain ⟨i, hi', rfl⟩ := Option.map_eq_some_iff.1 he
  unfold execOp
  have h1 : ¬ m ≤ y := by omega
  simp [hop, HF.eval hx, HF.eval hi, Instr.indexAt, asIntOf, run_underlying hu, hy, sizeOf, typeInfo, hi']
 ·cases he
def isSl (P : Program) (t : TypeId) : Bool := match P.underlying t with
 | some (.slice _) => true
 | _ => false
theorem Yl.len {x : Operand} {t : TypeId} {A : Option Addr} {m c : Nat} (hop : o.op = .call { callee := .builtin .len, args := #[x], argTypes := #[t] }) (hx : look σ x = some (.slice A m c)) (ht : isSl P t = true) : Yl P S σ o (.int .i64 (m : Int)) := fun a n D HF w hS => by
 unfold isSl at ht
 split at ht
 ·rename_i e hu
  unfold execOp
  simp [hop, resolve, invoke, builtin, HF.eval hx, Builtin.len_, run_underlying hu, goInt]
 ·cases ht
theorem Yl.min {x y : Operand} {ts : Array TypeId} {k : IntKind} {p q : Int} (hop : o.op = .call { callee := .builtin .min, args := #[x, y], argTypes := ts }) (hx : look σ x = some (.int k p)) (hy : look σ y = some (.int k q)) : Yl P S σ o (.int k (if q < p then q else p)) := fun a n D HF w hS => by
 unfold execOp
 simp [hop, resolve, invoke, builtin, HF.eval hx, HF.eval hy, Builtin.min_, Builtin.min2]
theorem Yl.max {x y : Operand} {ts : Array TypeId} {k : IntKind} {p q : Int} (hop : o.op = .call { callee := .builtin .max, args := #[x, y], argTypes := ts }) (hx : look σ x = some (.int k p)) (hy : look σ y = some (.int k q)) : Yl P S σ o (.int k (if q > p then q else p)) := fun a n D HF w hS => by
 unfold execOp
 simp [hop, resolve, invoke, builtin, HF.eval hx, HF.eval hy, Builtin.max_, Builtin.max2]
theorem Yl.as {u : Value} (h : Yl P S σ o v) (e : v = u) : Yl P S σ o u := e ▸ h
theorem Yl.ix {t : TypeId} {x ix : Operand} (g of y sz : Nat) {m c : Nat} {k : IntKind} (hop : o.op = .indexAddr t x ix) (hx : look σ x = some (.slice (some ⟨g, of, none⟩) m c)) (hi : look σ ix = some (.int k (y : Int))) (hy : y < m := by omega) (he : qnb P t = some sz := by kernel_rfl) : Yl P S σ o (.pointer (some ⟨g, of + y * sz, none⟩)) :=
 (Yl.indexAddr (ad := ⟨g, of, none⟩) hop hx hi hy he).as (by rw [Addr.add_mid])
theorem Yl.ix0 {t : TypeId} {x ix : Operand} (g y sz : Nat) {m c : Nat} {k : IntKind} (hop : o.op = .indexAddr t x ix) (hx : look σ x = some (.slice (some ⟨g, 0, none⟩) m c)) (hi : look σ ix = some (.int k (y : Int))) (hy : y < m := by omega) (he : qnb P t = some sz := by kernel_rfl) : Yl P S σ o (.pointer (some ⟨g, y * sz, none⟩)) :=
 (Yl.indexAddr (ad := ⟨g, 0, none⟩) hop hx hi hy he).as (by rw [Addr.add_mid, Nat.zero_add])
end
section
variable {P : Program} {Q : Exit → Act → World → Prop} {a : Act} {W w : World} {n d : Nat} {D : List Deferred} {σ : List (Nat × Value)} {o : Oper} {v : Value} {K : Act → World → Prop} {fs : List Fact}
def qb0 (P : Program) (e : TypeId) : Option (Array Value) := ((P.info? e).bind (·.zero)).map Value.cells
theorem qvh {b : Value} {e : TypeId} {cs : Array Value} (hr : (execOp a.eval o).run P w = .ok (.value (.pointer (some ⟨w.heap.size, 0, none⟩))) (w.alloc (.cells cs e))) (HF : Fr a n D σ) (HM : Mem W w fs) (hd : o.dst = some d) (hdn : d < n)
  (k : ∀ a' w' g, Fr a' n D ((d, .pointer (some ⟨g, 0, none⟩)) :: σ) → Mem W w' (.blk g cs e :: fs) → K a' w') : o.wp P a w K Q := by
 have _ := b
 unfold Oper.wp
 rw [hr, Oper.upon_value, hd]
 exact k _ _ _ (HF.put hdn _) (HM.alloc cs e)
theorem qr (HF : Fr a n D σ) (HM : Mem W w fs) {e : TypeId} {cs : Array Value} (hop : o.op = .alloc e) (hz : qb0 P e = some cs) (hd : o.dst = some d) (hdn : d < n)
  (k : ∀ a' w' g, Fr a' n D ((d, .pointer (some ⟨g, 0, none⟩)) :: σ) → Mem W w' (.blk g cs e :: fs) → K a' w') : o.wp P a w K Q := by
 refine qvh (b := undef) ?_ HF HM hd hdn k
 unfold qb0 at hz
 obtain ⟨z, hz1, rfl⟩ := Option.map_eq_some_iff.1 hz
 obtain ⟨i, hi, hz2⟩ := Option.bind_eq_some_iff.1 hz1
 unfold execOp
 simp [hop, Instr.alloc, zeroValue, typeInfo, hi, hz2, newVar, newRow, newObj]
 rfl
theorem e_box (HF : Fr a n D σ) (HM : Mem W w fs) {e : TypeId} {x : Operand} (hop : o.op = .box e x) (hx : look σ x = some v) {cs : Array Value} (hc : v.cells = cs) (hd : o.dst = some d) (hdn : d < n)
  (k : ∀ a' w' g, Fr a' n D ((d, .pointer (some ⟨g, 0, none⟩)) :: σ) → Mem W w' (.blk g cs e :: fs) → K a' w') : o.wp P a w K Q := by
 subst hc
 refine qvh (b := undef) ?_ HF HM hd hdn k
 unfold execOp
 simp [hop, HF.eval hx, Instr.box, newVar, newRow, newObj]
 rfl
theorem qc4 {t : TypeId} {g off : Nat} (hs : (P.info? t).map (·.size) = some 1) (hv : v.oneCell' = true) {u : Value} (hc : w.cell? ⟨g, off, none⟩ = some u) (hf : w.frozen? ⟨g, off, none⟩ = false) :
  (Instr.storeAt t (.pointer (some ⟨g, off, none⟩)) v).run P w = .ok () (w.setCell ⟨g, off, none⟩ v) := by
 have ht : w.there g off 1 := fun j hj => by
  obtain rfl : j = 0 := by omega
  simp [hc, hf]
 have hv1 : v.cells = #[v] := by cases v <;> first | rfl | cases hv
 have := run_storeVar_mid (P := P) w g off t #[v] (by simpa using ht) (by simpa using hs) (by simp [hv])
 have e2 : storeVar t ⟨g, off, none⟩ v = storeVar t ⟨g, off, none⟩ (.agg #[v]) := by
  unfold storeVar
  rw [hv1]
  rfl
 simp only [Instr.storeAt, Instr.sureAddr, Sem.run_bind, Sem.run_pure, Result.andThen_ok, e2, this]
 rfl
theorem qo (HF : Fr a n D σ) (HM : Mem W w fs) {t : TypeId} {x y : Operand} {i g off : Nat} {cs : Array Value} {tb : TypeId} (hop : o.op = .store t x y) (hd : o.dst = none) (hx : look σ x = some (.pointer (some ⟨g, off, none⟩))) (hy : look σ y = some v) (hs : (P.info? t).map (·.size) = some 1) (hv : v.oneCell' = true)
  (hi : fs[i]? = some (.blk g cs tb)) (ho : off < cs.size) (k : ∀ w', Mem W w' (fs.set i (.blk g (cs.setIfInBounds off v) tb)) → K a w') : o.wp P a w K Q := by
 have hb := HM.blk hi
 have hc : w.cell? ⟨g, off, none⟩ = some cs[off] := HM.cell hi (Array.getElem?_eq_getElem ho)
 have hf : w.frozen? ⟨g, off, none⟩ = false := by simp [World.frozen?, hb]
 unfold Oper.wp execOp
 simp only [hop, HF.eval hx, HF.eval hy, Sem.run_bind, qc4 hs hv hc hf, Result.andThen_ok, Sem.run_pure, Oper.upon_skip, hd]
 exact k _ (HM.set hi v)
theorem qoh (HF : Fr a n D σ) (HM : Mem W w fs) {t : TypeId} {x y : Operand} {i g m : Nat} {cs ds : Array Value} {tb : TypeId} (hop : o.op = .store t x y) (hd : o.dst = none) (hx : look σ x = some (.pointer (some ⟨g, 0, none⟩))) (hy : look σ y = some (.agg ds)) (si : SI P t m) (hc : cs.size = m) (hm : ds.size = m) (h1 : ∀ u ∈ ds.toList, u.oneCell' = true)
  (hi : fs[i]? = some (.blk g cs tb)) (k : ∀ w', Mem W w' (fs.set i (.blk g ds tb)) → K a w') : o.wp P a w K Q := by
 have hb := HM.blk hi
 have hl := run_storeVar_mid (P := P) w g 0 t ds (by rw [hm]; exact za hb 0 m (by omega)) (by rw [hm]; exact si.size) (by simpa using all_oneCell_toArray h1)
 unfold Oper.wp execOp
 simp only [hop, HF.eval hx, HF.eval hy, Sem.run_bind, Instr.storeAt, Instr.sureAddr, Sem.run_pure, hl, Result.andThen_ok, Oper.upon_skip, hd]
 exact k _ (HM.setAll hi (by omega))
def callable (P : Program) (f : FuncId) : Bool := match P.funcs[f]? with
 | some fn => fn.name != "runtime.NumGoroutine" && fn.body.isSome
 | none => false
theorem qdj {f : FuncId} (h : callable P f = true) (args : Array Value) (w : World) : (callFunc f args).run P w = .ok (.enter f args) w := by
 unfold callable at h
 split at h
 ·rename_i fn hf
  rw [Bool.and_eq_true, bne_iff_ne] at h
  have hb : fn.body ≠ none := by intro e; rw [e] at h; simp at h
  simp [callFunc, hf, h.1, hb, program, Sem.run, Sem.run_bind]
 ·cases h
def looks (σ : List (Nat × Value)) : List Operand → Option (List Value)
 | [] => some []
 | x :: r => match look σ x, looks σ r with
  | some v, some vs => some (v :: vs)
  | _, _ => none
theorem qcn (HF : Fr a n D σ) : ∀ {xs : List Operand} {vs : List Value}, looks σ xs = some vs → xs.map a.eval = vs
 | [], vs, h => by cases h; rfl
 | x :: r, vs, h => by
  unfold looks at h
  split at h
  ·rename_i v us hx hr
   injection h with h
   subst h
   rw [List.map_cons, HF.eval hx, qcn HF hr]
  ·cases h
theorem qvi (HF : Fr a n D σ) {f : FuncId} {xs : Array Operand} {ts : Array TypeId} {vs : List Value} {R : Ending → World → Prop} (hop : o.op = .call { callee := .value (.func f), args := xs, argTypes := ts }) (hv : looks σ xs.toList = some vs) (hf : callable P f = true) (hd : o.dst = some d) (hdn : d < n)
  (hC : Calls P f vs.toArray w R) (k : ∀ e w', R e w' → ∃ v, e = .returned v ∧ ∀ a', Fr a' n D ((d, v) :: σ) → K a' w') : o.wp P a w K Q := by
 have e1 : xs.map a.eval = vs.toArray := by
  have := qcn HF hv
  rw [← this, ← Array.toList_map, Array.toArray_toList]
 unfold Oper.wp execOp
 simp only [hop, resolve, Act.eval, Deferred.ofValue, invoke, Sem.run_bind, Sem.run_pure, Result.andThen_ok]
 have e2 : xs.map (fun x => a.eval x) = vs.toArray := e1
 have e3 : #[] ++ Array.map a.eval xs ++ #[] = vs.toArray := by simp [e1]
 show Oper.upon P o a K Q (((callFunc f (#[] ++ Array.map a.eval xs ++ #[])).run P w))
 rw [e3, qdj hf, Oper.upon_enter]
 refine hC.mono fun e w' he => ?_
 obtain ⟨v, rfl, h2⟩ := k e w' he
 show K (a.put o.dst v) w'
 rw [hd]
 exact h2 _ (HF.put hdn v)
theorem e_cl (HF : Fr a n D σ) (vs : List Value) {f : FuncId} {xs : Array Operand} {ts : Array TypeId} {R : Ending → World → Prop} (hop : o.op = .call { callee := .value (.func f), args := xs, argTypes := ts }) (hd : o.dst = some d) (hC : Calls P f vs.toArray w R)
  (k : ∀ e w', R e w' → ∃ v, e = .returned v ∧ ∀ a', Fr a' n D ((d, v) :: σ) → K a' w') (hv : looks σ xs.toList = some vs := by kernel_rfl) (hf : callable P f = true := by kernel_rfl) (hdn : d < n := by decide) : o.wp P a w K Q := qvi HF hop hv hf hd hdn hC k
theorem e_is (HF : Fr a n D σ) (HM : Mem W w fs) (vs : List Value) (v : Value) {f : FuncId} {xs : Array Operand} {ts : Array TypeId} (hop : o.op = .call { callee := .value (.func f), args := xs, argTypes := ts }) (hd : o.dst = some d)
  (hC : Calls P f vs.toArray w (fun r w' => r = .returned v ∧ Below w.heap.size w w')) (k : ∀ w', Below w.heap.size w w' → Mem W w' fs → ∀ a', Fr a' n D ((d, v) :: σ) → K a' w') (hv : looks σ xs.toList = some vs := by kernel_rfl) (hf : callable P f = true := by kernel_rfl) (hdn : d < n := by decide) : o.wp P a w K Q :=
 qvi HF hop hv hf hd hdn hC fun _ w' ⟨h1, h2⟩ => ⟨v, h1, k w' h2 (HM.call h2)⟩
theorem e_sa (HF : Fr a n D σ) (HM : Mem W w fs) (i : Nat) {t : TypeId} {x y : Operand} {g m : Nat} {cs ds : Array Value} {tb : TypeId} (hop : o.op = .store t x y) (hd : o.dst = none) (hx : look σ x = some (.pointer (some ⟨g, 0, none⟩))) (hy : look σ y = some (.agg ds)) (hi : fs[i]? = some (.blk g cs tb)) (si : SI P t m) (hc : cs.size = m) (hm : ds.size = m) (h1 : ∀ u ∈ ds.toList, u.oneCell' = true)
  (k : ∀ w', Mem W w' (fs.set i (.blk g ds tb)) → K a w') : o.wp P a w K Q := qoh HF HM hop hd hx hy si hc hm h1 hi k
end
section
variable {P : Program} {Q : Exit → Act → World → Prop} {a : Act} {W w : World} {n d : Nat} {D : List Deferred} {σ : List (Nat × Value)} {o : Oper} {v : Value} {K : Act → World → Prop} {fs : List Fact}
theorem qx2 {base : Nat} {e : TypeId} {size m : Nat} {xs : List Value} (h : w.ownsRow base e size v m xs) (hm : 0 < m) : ∃ g c, v = .slice (some ⟨g, 0, none⟩) m c ∧ m ≤ c := by
 rcases h.2 with ⟨_, h2⟩ | ⟨g, cap, cur, h1, _, _, h2, _⟩
 ·omega
 ·exact ⟨g, cap, h1, h2⟩
theorem qdk {base : Nat} {e : TypeId} {size m : Nat} {xs : List Value} (h : w.ownsRow base e size v m xs) : ∃ A c, v = .slice A m c ∧ m ≤ c := by
 rcases h.2 with ⟨h1, h2⟩ | ⟨g, cap, cur, h1, _, _, h2, _⟩
 ·subst h2; exact ⟨_, _, h1, Nat.le_refl _⟩
 ·exact ⟨_, cap, h1, h2⟩
theorem qac (HF : Fr a n D σ) (HM : Mem W w fs) {s x : Operand} {t e : TypeId} {z : Value} {size bytes i m0 m c B : Nat} {A : Option Addr} {xs news : List Value} (hop : o.op = .call { callee := .builtin .append, args := #[s, x], argTypes := #[t, t] }) (ei : EI P t e z size bytes)
  (hs : look σ s = some v) (hx : look σ x = some (.slice A m c)) (hi : fs[i]? = some (.row v m0 xs e size)) (hr : Rd w B size A m news) (h1 : ∀ u ∈ news, u.oneCell' = true) (hb : (m0 + m) * bytes ≤ 140737488355328) (h63 : m0 + m ≤ 9223372036854775807)
  (hd : o.dst = some d) (hdn : d < n) (k : ∀ a' w' A' c', Fr a' n D ((d, .slice A' (m0 + m) c') :: σ) → Mem W w' (fs.set i (.row (.slice A' (m0 + m) c') (m0 + m) (xs ++ news) e size)) → m0 + m ≤ c' → K a' w') : o.wp P a w K Q :=
 qgp hop ei (HM.own hi) (HF.eval hs) hr (HF.eval hx) h1 hb h63 HM.size fun A' c' w' ho hg hbl => by
  rw [hd]
  refine k _ _ _ _ (HF.put hdn _) (HM.append hi ho hg hbl) ?_
  rcases ho.2 with ⟨h2, h3⟩ | ⟨g, cap, cur, h2, _, _, h3, _⟩
  ·omega
  ·injection h2 with _ _ h4; omega
def qdz (σ : List (Nat × Value)) : List (Nat × Operand) → Option (List (Nat × Value))
 | [] => some []
 | (i, x) :: r => match look σ x, qdz σ r with
  | some v, some vs => some ((i, v) :: vs)
  | _, _ => none
theorem qf7 (HF : Fr a n D σ) : ∀ {ps : List (Nat × Operand)} {vs : List (Nat × Value)}, qdz σ ps = some vs → ps.map (fun p => (p.1, a.eval p.2)) = vs
 | [], vs, h => by cases h; rfl
 | (i, x) :: r, vs, h => by
  unfold qdz at h
  split at h
  ·rename_i v us hx hr
   injection h with h
   subst h
   rw [List.map_cons, HF.eval hx, qf7 HF hr]
  ·cases h
theorem qf8 (HF : Fr a n D σ) {ps : Array (Nat × Operand)} {vs : List (Nat × Value)} (h : qdz σ ps.toList = some vs) : ps.map (fun p => (p.1, a.eval p.2)) = vs.toArray := by
 rw [← qf7 HF h, ← Array.toList_map, Array.toArray_toList]
def qh6 (z : Array Value) (m : Nat) : Array Value := (Array.range m).map (z[· % z.size]!)
theorem qar (HF : Fr a n D σ) (HM : Mem W w fs) {t len e : Nat} {ps : Array (Nat × Operand)} {vs : List (Nat × Value)} {z : Value} {size bytes : Nat} {cs : Array Value} (hop : o.op = .buildSlice t len ps) (ei : EI P t e z size bytes) (hl : decide (0 < len ∧ len * size ≤ 16777216) = true) (hv : qdz σ ps.toList = some vs)
  (hf : Instr.fill (fun i => some (i * size, size)) (qh6 z.cells (len * size)) vs = some cs) (hd : o.dst = some d) (hdn : d < n)
  (k : ∀ a' w' g, Fr a' n D ((d, .slice (some ⟨g, 0, none⟩) len len) :: σ) → Mem W w' (.blk g cs e :: fs) → K a' w') : o.wp P a w K Q := by
 obtain ⟨i, hi, hz, hsz, _⟩ := info_parts ei.hi
 have hpos := ei.hs
 simp only [decide_eq_true_eq] at hl
 have h0 : ¬ len * size = 0 := by
  have := Nat.mul_pos hl.1 hpos
  omega
 have h2 : ¬ len * size > 2 ^ 24 := by omega
 have hrun : (execOp a.eval o).run P w = .ok (.value (.slice (some ⟨w.heap.size, 0, none⟩) len len)) (w.alloc (.cells cs e)) := by
  unfold execOp
  have hpm := qf8 HF hv
  unfold qh6 at hf
  simp only [hop]
  have e1 : (Instr.buildSlice t len (ps.map fun p => (p.1, a.eval p.2))).run P w = .ok (.slice (some ⟨w.heap.size, 0, none⟩) len len) (w.alloc (.cells cs e)) := by
   rw [hpm]
   unfold Instr.buildSlice
   simp only [Sem.run_bind, run_underlying ei.ht, Result.andThen_ok, sizeOf, typeInfo, program, Sem.run, hi, Sem.run_pure, hsz, if_neg h2, if_neg h0, zeroValue, hz, hf, newRow, newObj]
   rfl
  simp only [Sem.run_bind, Sem.run_pure]
  show ((Instr.buildSlice t len (ps.map fun p => (p.1, a.eval p.2))).run P w).andThen _ = _
  rw [e1]
  rfl
 unfold Oper.wp
 rw [hrun, Oper.upon_value, hd]
 exact k _ _ _ (HF.put hdn _) (HM.alloc cs e)
theorem Mem.qjx (h : Mem W w fs) {i g m c : Nat} {e : TypeId} {size : Nat} {xs : List Value} (hi : fs[i]? = some (.row (.slice (some ⟨g, 0, none⟩) m c) m xs e size)) (off : Nat) {ys : List Value} (hy : ∀ j u, ys[j]? = some u → xs[off + j]? = some u) : w.rangeAt g off ys := fun j u hu => by
 have ho := h.own hi
 have := ho.cells (g := g) rfl (off + j) u (hy j u hu)
 rw [Addr.add_mid, Nat.zero_add] at this
 exact this
theorem Mem.qyo (h : Mem W w fs) {i g m c : Nat} {e : TypeId} {size : Nat} {xs : List Value} (hi : fs[i]? = some (.row (.slice (some ⟨g, 0, none⟩) m c) m xs e size)) : w.rangeAt g 0 xs := h.qjx hi 0 (fun j u hu => by rw [Nat.zero_add]; exact hu)
theorem qtr (HF : Fr a n D σ) (HM : Mem W w fs) {t e : Nat} {z : Value} {size bytes : Nat} (hop : o.op = .buildSlice t 0 #[]) (ei : EI P t e z size bytes) (hd : o.dst = some d) (hdn : d < n)
  (k : ∀ a' w' g, Fr a' n D ((d, .slice (some ⟨g, 0, none⟩) 0 0) :: σ) → Mem W w' (.row (.slice (some ⟨g, 0, none⟩) 0 0) 0 [] e size :: fs) → K a' w') : o.wp P a w K Q := by
 obtain ⟨i, hi, hz, hsz, _⟩ := info_parts ei.hi
 have hrun : (execOp a.eval o).run P w = .ok (.value (.slice (some ⟨w.heap.size, 0, none⟩) 0 0)) (w.alloc (.cells #[] e)) := by
  unfold execOp
  simp only [hop]
  have e1 : (Instr.buildSlice t 0 #[]).run P w = .ok (.slice (some ⟨w.heap.size, 0, none⟩) 0 0) (w.alloc (.cells #[] e)) := by
   unfold Instr.buildSlice
   simp only [Sem.run_bind, run_underlying ei.ht, Result.andThen_ok, sizeOf, typeInfo, program, Sem.run, hi, Sem.run_pure, newRow, newObj]
   simp [Instr.fill, show Array.range 0 = #[] from rfl]
   rfl
  simp only [Sem.run_bind, Sem.run_pure, List.map_toArray, List.map_nil]
  show ((Instr.buildSlice t 0 #[]).run P w).andThen _ = _
  rw [e1]
  rfl
 unfold Oper.wp
 rw [hrun, Oper.upon_value, hd]
 refine k _ _ w.heap.size (HF.put hdn _) ?_
 have := (HM.alloc #[] e).blkRow (i := 0) (size := size) (n := 0) rfl (by simp) (by omega)
 exact this
def qey : Nat → List Value → List (Nat × Value)
 | _, [] => []
 | i, v :: r => (i, v) :: qey (i + 1) r
theorem qdl : ∀ (vs : List Value) (i t : Nat) (v : Value), (qey i vs).lookup t = some v → i ≤ t ∧ vs[t - i]? = some v
 | [], _, _, _, h => by cases h
 | u :: r, i, t, v, h => by
  rw [qey, List.lookup_cons] at h
  split at h
  ·rename_i e
   rw [beq_iff_eq] at e
   subst e
   exact ⟨Nat.le_refl _, by simpa using h⟩
  ·obtain ⟨h1, h2⟩ := qdl r (i + 1) t v h
   refine ⟨by omega, ?_⟩
   rw [show t - i = (t - (i + 1)) + 1 by omega, List.getElem?_cons_succ]
   exact h2
theorem qg {f N : Nat} {fn : Func} {c : Code} {vs : List Value} {R : Ending → World → Prop} (hf : P.funcs[f]? = some fn) (hb : fn.body = some c) (hn : fn.ntmps = N) (hl : decide (vs.length ≤ N) = true) {σ0 : List (Nat × Value)} (h0 : qey 0 vs = σ0)
  (k : ∀ a, Fr a N [] σ0 → c.wp P (bodyPost P fn R) a w) : Calls P f vs.toArray w R := by
 subst h0
 rw [decide_eq_true_eq] at hl
 refine calls_of_wp hf hb (k _ ⟨by simp [hn]; omega, rfl, fun t v hv => ?_⟩)
 obtain ⟨_, h1⟩ := qdl vs 0 t v hv
 rw [Nat.sub_zero] at h1
 have hlt := (List.getElem?_eq_some_iff.1 h1).1
 simp only [Array.getD_eq_getD_getElem?, Array.getElem?_append, List.size_toArray, if_pos hlt]
 simp [h1]
def qez (tmps : Array Value) : ResultVar → Sem Value
 | .tmp t => pure (tmps.getD t undef)
 | .cell b t => do loadVar t (← asAddr (tmps.getD b undef))
def qa9 (P : Program) (a : Act) (w : World) (r : ResultVar) (v : Value) : Prop := (qez a.tmps r).run P w = .ok v w
theorem qc5 (fn : Func) (tmps : Array Value) : results fn tmps = (do
 let vs ← fn.results.mapM (qez tmps)
 pure (if h : vs.size = 1 then vs[0] else .tuple vs)) := by
 unfold results
 have : qez tmps = (fun | .tmp t => pure (tmps.getD t undef) | .cell a t => do loadVar t (← asAddr (tmps.getD a undef))) := by
  funext r; cases r <;> rfl
 rw [this]
 rfl
theorem qa9.tmp {t : Nat} (HF : Fr a n D σ) (h : σ.lookup t = some v) : qa9 P a w (.tmp t) v := by
 unfold qa9 qez
 simp only [HF.slot t v h]
 rfl
theorem qa9.cellS {b i g m : Nat} {t tb : TypeId} {cs : Array Value} (HF : Fr a n D σ) (HM : Mem W w fs) (h : σ.lookup b = some (.pointer (some ⟨g, 0, none⟩))) (hi : fs[i]? = some (.blk g cs tb)) (si : SI P t m) (hm : cs.size = m) : qa9 P a w (.cell b t) (.agg cs) := by
 obtain ⟨ds, hu, hd⟩ := si.desc
 have hl := run_loadVar_mid (P := P) w g 0 t cs.toList ds (qd (HM.blk hi)) hu hd (by rw [si.size, ← hm]; simp)
 unfold qa9 qez
 simp only [HF.slot b _ h]
 simp [asAddr, hl]
theorem qa9.cell1 {b i g : Nat} {t tb : TypeId} {cs : Array Value} (HF : Fr a n D σ) (HM : Mem W w fs) (h : σ.lookup b = some (.pointer (some ⟨g, 0, none⟩))) (hi : fs[i]? = some (.blk g cs tb)) (ht : isOne P t = true) (hc : cs[0]? = some v) : qa9 P a w (.cell b t) v := by
 unfold qa9 qez
 simp only [HF.slot b _ h]
 simp [asAddr, loadVar, qex ht, load, Sem.run, HM.cell hi hc]
section
variable {fn : Func} {R : Ending → World → Prop}
theorem ret1 {r1 : ResultVar} {v1 : Value} (hr : fn.results = #[r1]) (HF : Fr a n [] σ) (h1 : qa9 P a w r1 v1) (hR : R (.returned v1) w) : bodyPost P fn R .ret a w :=
 bodyPost_ret (v := v1) (by
  unfold qa9 at h1
  rw [qc5, hr]
  generalize qez a.tmps = f at *
  simp [h1]) HF.defers hR
theorem ret2 {r1 r2 : ResultVar} {v1 v2 : Value} (hr : fn.results = #[r1, r2]) (HF : Fr a n [] σ) (h1 : qa9 P a w r1 v1) (h2 : qa9 P a w r2 v2) (hR : R (.returned (.tuple #[v1, v2])) w) : bodyPost P fn R .ret a w :=
 bodyPost_ret (v := .tuple #[v1, v2]) (by
  unfold qa9 at h1 h2
  rw [qc5, hr]
  generalize qez a.tmps = f at *
  simp [h1, h2]) HF.defers hR
theorem ret3 {r1 r2 r3 : ResultVar} {v1 v2 v3 : Value} (hr : fn.results = #[r1, r2, r3]) (HF : Fr a n [] σ) (h1 : qa9 P a w r1 v1) (h2 : qa9 P a w r2 v2) (h3 : qa9 P a w r3 v3) (hR : R (.returned (.tuple #[v1, v2, v3])) w) : bodyPost P fn R .ret a w :=
 bodyPost_ret (v := .tuple #[v1, v2, v3]) (by
  unfold qa9 at h1 h2 h3
  rw [qc5, hr]
  generalize qez a.tmps = f at *
  simp [h1, h2, h3]) HF.defers hR
end
theorem qf {c : Operand} {x y : Code} (HF : Fr a n D σ) (hc : look σ c = some (.bool true)) (h : x.wp P Q a w) : (Code.cond c x y).wp P Q a w := wp_cond_true (HF.eval hc) h
theorem qe {c : Operand} {x y : Code} (HF : Fr a n D σ) (hc : look σ c = some (.bool false)) (h : y.wp P Q a w) : (Code.cond c x y).wp P Q a w := wp_cond_false (HF.eval hc) h
theorem Fr.as {u : Value} {t : Nat} (h : Fr a n D σ) (hl : σ.lookup t = some v) (e : v = u) : Fr a n D ((t, u) :: σ) := by
 subst e
 refine ⟨h.size, h.defers, fun s x hx => ?_⟩
 rw [List.lookup_cons] at hx
 split at hx
 ·rename_i hs
  rw [beq_iff_eq] at hs
  subst hs
  injection hx with hx
  subst hx
  exact h.slot s v hl
 ·exact h.slot s x hx
theorem qbt {x y : Code} (R : Act → World → Prop) (h : x.wp P (Exit.then R Q) a w) (k : ∀ a w, R a w → y.wp P Q a w) : (Code.seq x y).wp P Q a w :=
 wp_seq (Code.wp_mono (fun e a w hq => by cases e <;> first | exact k _ _ hq | exact hq) h)
theorem zk {c : Code} (J : Nat → Act → World → Prop) {m : Nat} (h0 : J m a w) (round : ∀ k a w, J k a w → c.wp P (Exit.then (fun a' w' => ∃ k', k' < k ∧ J k' a' w') Q) a w) : (Code.loop c).wp P Q a w := by
 intro b ks cs
 have key : ∀ m a w, J m a w → ∃ e a' w', Q e a' w' ∧ Arrives P (lone (b.at a (.code c :: .inLoop c :: ks)) cs w) b ks cs e a' w' := by
  intro m
  induction m using Nat.strongRecOn with
  | _ m ih =>
   intro a w hJ
   obtain ⟨e, a1, w1, hq, harr⟩ := round m a w hJ b (.inLoop c :: ks) cs
   cases e with
   | normal =>
    obtain ⟨m', hlt, hJ'⟩ := hq
    obtain ⟨e2, a2, w2, hq2, harr2⟩ := ih m' hlt a1 w1 hJ'
    exact ⟨e2, a2, w2, hq2, .of_steps (Steps.trans harr (.one step_inLoop)) harr2⟩
   | exit id => exact ⟨_, a1, w1, hq, .pass (x := .inLoop c) rfl (fun _ _ => .inl (by simp)) harr⟩
   | goto l => exact ⟨_, a1, w1, hq, .pass (x := .inLoop c) rfl (fun _ _ => .inl (by simp)) harr⟩
   | ret => exact ⟨_, a1, w1, hq, .pass (x := .inLoop c) rfl (fun _ _ => .inl (by simp)) harr⟩
   | panic ch => exact ⟨_, a1, w1, hq, .pass (x := .inLoop c) rfl (fun _ _ => .inl (by simp)) harr⟩
   | outgrown => exact ⟨_, a1, w1, hq, .pass (x := .inLoop c) rfl (fun _ _ => .inl (by simp)) harr⟩
 obtain ⟨e, a', w', hq, harr⟩ := key m a w h0
 exact ⟨e, a', w', hq, .of_steps (.one step_loop) harr⟩
end
def putAt (xs : List Value) (off : Nat) (vs : List Value) : List Value := xs.take off ++ vs ++ xs.drop (off + vs.length)
theorem qkj {xs : List Value} {off : Nat} {vs : List Value} (h : off + vs.length ≤ xs.length) : (putAt xs off vs).length = xs.length := by
 unfold putAt
 simp only [List.length_append, List.length_take, List.length_drop]
 omega
theorem qkk {xs : List Value} {off : Nat} {vs : List Value} (h : off + vs.length ≤ xs.length) (j : Nat) : (putAt xs off vs)[j]? = if off ≤ j ∧ j < off + vs.length then vs[j - off]? else xs[j]? := by
 unfold putAt
 have h1 : (xs.take off).length = off := by rw [List.length_take]; omega
 rw [List.append_assoc]
 rcases Nat.lt_or_ge j off with h2 | h2
 ·rw [if_neg (by omega), List.getElem?_append_left (by omega), List.getElem?_take, if_pos h2]
 ·rw [List.getElem?_append_right (by omega), h1]
  rcases Nat.lt_or_ge j (off + vs.length) with h3 | h3
  ·rw [if_pos ⟨h2, h3⟩, List.getElem?_append_left (by omega)]
  ·rw [if_neg (by omega), List.getElem?_append_right (by omega), List.getElem?_drop]
   congr 1
   omega
theorem qfq {w : World} {g : Nat} {cur : Array Value} {e : TypeId} (hb : w.heap[g]? = some (.cells cur e (0, 0))) (off : Nat) (vs : List Value) (hl : off + vs.length ≤ cur.size) :
  (w.setCells g off vs).heap[g]? = some (.cells (putAt cur.toList off vs).toArray e (0, 0)) := by
 have h1 : cur = (cur.toList.take off ++ (cur.toList.drop off).take vs.length ++ cur.toList.drop (off + vs.length)).toArray := by
  apply Array.toList_inj.1
  simp only [List.append_assoc]
  rw [← List.drop_drop, List.take_append_drop, List.take_append_drop]
 have h2 := qbs g e vs w (cur.toList.take off) (cur.toList.drop (off + vs.length)) ((cur.toList.drop off).take vs.length) (by rw [← h1]; exact hb) (by simp only [List.length_take, List.length_drop, Array.length_toList]; omega)
 rw [List.length_take, Array.length_toList, Nat.min_eq_left (by omega)] at h2
 exact h2
section
variable {P : Program} {Q : Exit → Act → World → Prop} {a : Act} {W w : World} {n d : Nat} {D : List Deferred} {σ : List (Nat × Value)} {o : Oper} {v : Value} {K : Act → World → Prop} {fs : List Fact}
theorem Mem.rowSet (h : Mem W w fs) {i g m c : Nat} {e : TypeId} {size : Nat} {xs : List Value} (hi : fs[i]? = some (.row (.slice (some ⟨g, 0, none⟩) m c) m xs e size)) {off : Nat} {vs : List Value} (hl : off + vs.length ≤ xs.length) :
  Mem W (w.setCells g off vs) (fs.set i (.row (.slice (some ⟨g, 0, none⟩) m c) m (putAt xs off vs) e size)) := by
 have ho := h.own hi
 obtain ⟨hlen, h2⟩ := ho
 rcases h2 with ⟨h3, _⟩ | ⟨g', cap, cur, hv, hb, hg, hnc, hcm, hcs, ht⟩
 ·cases h3
 ·injection hv with hv hv2 hv3
  injection hv with hv
  injection hv with hv
  subst hv; subst hv3
  have hcur : m * size ≤ cur.size := by rw [hcs]; exact Nat.mul_le_mul_right _ hnc
  refine h.turn hi (below_setCells h.below hb off vs) (fun k hk hne => zu _ _ _ _ _ (fun e => hne (by rw [e]; rfl))) ?_ (fun g' hg' => .inl hg')
  refine ⟨by rw [qkj hl]; exact hlen, .inr ⟨g, c, _, rfl, hb, qfq hg off vs (by omega), hnc, hcm, ?_, ?_⟩⟩
  ·rw [List.size_toArray, qkj (by simpa using (by omega : off + vs.length ≤ cur.size)), Array.length_toList, hcs]
  ·show (putAt cur.toList off vs).take (m * size) = putAt xs off vs
   subst ht
   have hl' : off + vs.length ≤ cur.toList.length ∧ off + vs.length ≤ m * size := by
    rw [List.length_take, Array.length_toList] at hl
    rw [Array.length_toList]
    omega
   apply List.ext_getElem?
   intro j
   rw [qkk hl, List.getElem?_take, List.getElem?_take, qkk hl'.1]
   by_cases h3 : off ≤ j ∧ j < off + vs.length
   ·rw [if_pos h3, if_pos (by omega), if_pos h3]
   ·rw [if_neg h3, if_neg h3]
theorem qhv (h : Mem W w fs) {i g m c : Nat} {e : TypeId} {size : Nat} {xs : List Value} (hi : fs[i]? = some (.row (.slice (some ⟨g, 0, none⟩) m c) m xs e size)) (off k : Nat) (hl : off + k ≤ xs.length) : w.there g off k := by
 have ho := h.own hi
 obtain ⟨hlen, h2⟩ := ho
 rcases h2 with ⟨h3, _⟩ | ⟨g', cap, cur, hv, hb, hg, hnc, hcm, hcs, ht⟩
 ·cases h3
 ·injection hv with hv hv2 hv3
  injection hv with hv
  injection hv with hv
  subst hv; subst hv3
  have hcur : m * size ≤ cur.size := by rw [hcs]; exact Nat.mul_le_mul_right _ hnc
  exact za hg off k (by omega)
theorem qoi (HF : Fr a n D σ) (HM : Mem W w fs) {t : TypeId} {x y : Operand} {i g off m c : Nat} {xs : List Value} {e : TypeId} {size : Nat} (hop : o.op = .store t x y) (hd : o.dst = none) (hx : look σ x = some (.pointer (some ⟨g, off, none⟩))) (hy : look σ y = some v) (hs : (P.info? t).map (·.size) = some 1) (hv : v.oneCell' = true)
  (hi : fs[i]? = some (.row (.slice (some ⟨g, 0, none⟩) m c) m xs e size)) (ho : off < xs.length) (k : ∀ w', Mem W w' (fs.set i (.row (.slice (some ⟨g, 0, none⟩) m c) m (putAt xs off [v]) e size)) → K a w') : o.wp P a w K Q := by
 have ht := qhv HM hi off 1 (by omega) 0 (by omega)
 rw [Nat.add_zero] at ht
 obtain ⟨u, hu⟩ := Option.isSome_iff_exists.1 ht.1
 unfold Oper.wp execOp
 simp only [hop, HF.eval hx, HF.eval hy, Sem.run_bind, qc4 hs hv hu ht.2, Result.andThen_ok, Sem.run_pure, Oper.upon_skip, hd]
 exact k _ (HM.rowSet hi (vs := [v]) ho)
theorem Mem.asRow (h : Mem W w fs) {i m : Nat} {e : TypeId} {size : Nat} {xs ys : List Value} (hi : fs[i]? = some (.row v m xs e size)) (he : xs = ys) : Mem W w (fs.set i (.row v m ys e size)) := by
 subst he
 obtain ⟨hl, hg⟩ := List.getElem?_eq_some_iff.1 hi
 rw [← hg, List.set_getElem_self]
 exact h
end
theorem qh7 {α : Type} (f : α → List Value) (sz : Nat) (hf : ∀ x, (f x).length = sz) : ∀ (l : List α) (k : Nat) (x : α), k < l.length → putAt (l.flatMap f) (k * sz) (f x) = (l.set k x).flatMap f
 | [], k, x, h => by simp at h
 | y :: r, 0, x, h => by
  unfold putAt
  rw [Nat.zero_mul, Nat.zero_add, hf, List.flatMap_cons, List.set_cons_zero, List.flatMap_cons, List.take_zero, List.nil_append, List.drop_append_of_le_length (by rw [hf]; exact Nat.le_refl _), List.drop_of_length_le (by rw [hf]; exact Nat.le_refl _), List.nil_append]
 | y :: r, k + 1, x, h => by
  have ih := qh7 f sz hf r k x (by simpa using h)
  unfold putAt at ih ⊢
  rw [List.flatMap_cons, List.set_cons_succ, List.flatMap_cons, ← ih, Nat.succ_mul]
  have e1 : (f y ++ r.flatMap f).take (k * sz + sz) = f y ++ (r.flatMap f).take (k * sz) := by
   rw [List.take_append, List.take_of_length_le (by rw [hf]; omega), hf, Nat.add_sub_cancel]
  have e2 : (f y ++ r.flatMap f).drop (k * sz + sz + (f x).length) = (r.flatMap f).drop (k * sz + (f x).length) := by
   rw [List.drop_append, List.drop_of_length_le (by rw [hf]; omega), List.nil_append, hf y]
   congr 1
   omega
  rw [e1, e2]
  simp only [List.append_assoc]
theorem Mem.qdv {W w : World} {fs : List Fact} (h : Mem W w fs) {α : Type} {f : α → List Value} {sz : Nat} (hf : ∀ x, (f x).length = sz) {i g m c : Nat} {e : TypeId} {l : List α} (hi : fs[i]? = some (.row (.slice (some ⟨g, 0, none⟩) m c) m (l.flatMap f) e sz)) {k off : Nat} {x : α} {v : Value} (hk : l[k]? = some x) (hv : (f x)[off]? = some v) : w.cell? ⟨g, k * sz + off, none⟩ = some v := by
 obtain ⟨hl, he⟩ := List.getElem?_eq_some_iff.1 hk
 have ho : off < sz := by have := (List.getElem?_eq_some_iff.1 hv).1; rwa [hf] at this
 have := h.qjx hi (k * sz + off) (ys := [v]) (fun j u hu => by
  cases j with
  | zero =>
   injection hu with hu
   subst hu
   rw [Nat.add_zero, qfi f sz hf l k off hl ho, he]
   exact hv
  | succ j => cases hu)
 exact this 0 v rfl
section
variable {w : World} {B size n : Nat} {A : Option Addr} {xs : List Value} {g o : Nat}
theorem Rd.qas (h : Rd w B size A n xs) (hn : 0 < n) (hs : 0 < size) : ∃ g o, A = some ⟨g, o, none⟩ ∧ g < B := by
 obtain ⟨ad, rfl, hb, hc⟩ := h.row hn
 have hl := h.len
 have h1 : n * size ≥ 1 * 1 := Nat.mul_le_mul hn hs
 have hsp := qj5 (hc 0 _ (List.getElem?_eq_getElem (by omega)))
 have hs' : ad.spot = none := by simpa [Addr.add] using hsp
 obtain ⟨g, o, sp⟩ := ad
 cases hs'
 exact ⟨g, o, rfl, hb⟩
theorem Rd.range (h : Rd w B size (some ⟨g, o, none⟩) n xs) : w.rangeAt g o xs := fun j u hu => by
 have hj := (List.getElem?_eq_some_iff.1 hu).1
 rcases Nat.eq_zero_or_pos n with rfl | hn
 ·have := h.len; omega
 ·obtain ⟨ad, e, hb, hc⟩ := h.row hn
  injection e with e
  subst e
  have := hc j u hu
  rwa [Addr.add_mid] at this
theorem Rd.qbv (h : Rd w B 1 (some ⟨g, o, none⟩) n xs) {k : Nat} {u : Value} (hu : xs[k]? = some u) : w.cell? ⟨g, o + k * 1, none⟩ = some u := by rw [Nat.mul_one]; exact h.range k u hu
theorem Rd.qce {α : Type} {f : α → List Value} (hf : ∀ x, (f x).length = size) {l : List α} (h : Rd w B size (some ⟨g, o, none⟩) n (l.flatMap f)) {k : Nat} {x : α} (hk : l[k]? = some x) : w.rangeAt g (o + k * size) (f x) := fun j u hu => by
 obtain ⟨hl, he⟩ := List.getElem?_eq_some_iff.1 hk
 have hj : j < size := by have := (List.getElem?_eq_some_iff.1 hu).1; rwa [hf] at this
 have h1 := h.range (k * size + j) u ((qfi f size hf l k j hl hj).trans (by rw [he]; exact hu))
 rw [← Nat.add_assoc] at h1
 exact h1
theorem Rd.partAt {α : Type} {f : α → List Value} (hf : ∀ x, (f x).length = size) {l : List α} (h : Rd w B size (some ⟨g, o, none⟩) n (l.flatMap f)) {k j : Nat} {x : α} {u : Value} (hk : l[k]? = some x) (hu : (f x)[j]? = some u) : w.cell? ⟨g, o + k * size + j, none⟩ = some u := h.qce hf hk j u hu
end
section
variable {W w : World} {fs : List Fact}
theorem Mem.qgg (h : Mem W w fs) {i g m c : Nat} {e : TypeId} {xs : List Value} (hi : fs[i]? = some (.row (.slice (some ⟨g, 0, none⟩) m c) m xs e 1)) {k : Nat} {u : Value} (hu : xs[k]? = some u) : w.cell? ⟨g, k * 1, none⟩ = some u := by
 have h1 := h.qyo hi k u hu
 rwa [Nat.zero_add, ← Nat.mul_one k] at h1
theorem Mem.reRow (h : Mem W w fs) {i n n' : Nat} {A : Option Addr} {c size : Nat} {e : TypeId} {xs ys : List Value} (hi : fs[i]? = some (.row (.slice A n c) n xs e size)) (hn : n = n') (hx : xs = ys) : Mem W w (fs.set i (.row (.slice A n' c) n' ys e size)) := by
 subst hn; subst hx
 obtain ⟨hl, he⟩ := List.getElem?_eq_some_iff.1 hi
 rw [← he, List.set_getElem_self]
 exact h
end
theorem qab {α : Type} {F : α → Value} {l : List α} {k : Nat} {x : α} (h : l[k]? = some x) : (l.map F)[k]? = some (F x) := by rw [List.getElem?_map, h]; rfl
section
variable {P : Program} {Q : Exit → Act → World → Prop} {a : Act} {W w : World} {n d : Nat} {D : List Deferred} {σ : List (Nat × Value)} {o : Oper} {K : Act → World → Prop} {fs : List Fact}
theorem qwk (HF : Fr a n D σ) (HM : Mem W w fs) {t e : Nat} {l c : Operand} {z : Value} {size bytes m : Nat} {kl kc : IntKind} (hop : o.op = .makeSlice t l c) (ei : EI P t e z size bytes) (hl : look σ l = some (.int kl 0)) (hc : look σ c = some (.int kc (m : Int))) (hb : bytes * m ≤ 281474976710656) (h63 : m ≤ 9223372036854775807) (hd : o.dst = some d) (hdn : d < n)
  (k : ∀ a' w' g, Fr a' n D ((d, .slice (some ⟨g, 0, none⟩) 0 m) :: σ) → Mem W w' (.row (.slice (some ⟨g, 0, none⟩) 0 m) 0 [] e size :: fs) → K a' w') : o.wp P a w K Q := by
 obtain ⟨i, hi, hz, hsz, hby⟩ := info_parts ei.hi
 obtain ⟨w', hrun, hown, hgr⟩ := run_make_own (P := P) w w.heap.size t e i z size ei.ht hi hz hsz kl kc m (by rw [hby]; exact hb) h63 (Nat.le_refl _)
 have e1 : (execOp a.eval o).run P w = .ok (.value (.slice (some ⟨w.heap.size, 0, none⟩) 0 m)) w' := by
  unfold execOp
  simp only [hop, HF.eval hl, HF.eval hc, Sem.run_bind]
  rw [hrun]
  rfl
 unfold Oper.wp
 rw [e1, Oper.upon_value, hd]
 exact k _ _ _ (HF.put hdn _) (HM.callRow ((Below.refl _ _).grown hgr (Nat.le_refl _) (fun _ h => by cases h)) hown)
end
theorem Rd.pre {w : World} {B n m : Nat} {A : Option Addr} {l r : List Nat} (h : Rd w B 1 A m ((l ++ r).map B8)) (hl : l.length = n) (hm : n ≤ m) : Rd w B 1 A n (l.map B8) := by
 have h1 := h.upto hm
 rwa [Nat.mul_one, List.map_append, List.take_append_of_le_length (by simp [hl]), List.take_of_length_le (by simp [hl])] at h1
theorem Mem.sub {W w : World} {fs : List Fact} (h : Mem W w fs) {i g : Nat} {cs : Array Value} {t : TypeId} (hi : fs[i]? = some (.blk g cs t)) (off : Nat) {ds : Array Value} (he : (cs.toList.drop off).take ds.size = ds.toList) : w.rangeAt g off ds.toList := fun j u hu => by
 have hr : w.rangeAt g 0 cs.toList := qd (h.blk hi)
 have hc : cs.toList[off + j]? = some u := by
  rw [← he, List.getElem?_take] at hu
  split at hu
  ·rwa [List.getElem?_drop] at hu
  ·cases hu
 have := hr (off + j) u hc
 rwa [Nat.zero_add] at this
theorem qqr {α : Type} (F : α → Value) (l : List α) (k : Nat) (x : α) (hk : k < l.length) : putAt (l.map F) (k * 1) [F x] = (l.set k x).map F := by
 have h1 : ∀ l : List α, l.map F = l.flatMap fun x => [F x] := fun l => by induction l with
  | nil => rfl
  | cons a r ih => rw [List.map_cons, List.flatMap_cons, ih]; rfl
 rw [h1, h1, ← qh7 (fun x => [F x]) 1 (fun _ => rfl) l k x hk]
section
variable {P : Program} {S : World → Prop} {σ : List (Nat × Value)} {o : Oper}
end
theorem Rd.toB8 {w : World} {B n k : Nat} {A : Option Addr} {l : List Nat} (h : Rd w B 1 A n (l.map B8)) (hk : k ≤ n) : Rd w B 1 A k ((l.take k).map B8) := by
 have h1 := h.upto hk
 rwa [Nat.mul_one, ← List.map_take] at h1
def I64i (x : Int) : Value := .int .i64 x
theorem Mem.picksT {W w : World} {fs fs' : List Fact} (h : Mem W w fs) (n : Nat) (is : List Nat) (hn : is.Nodup) (hlt : (is.all (· < n)) = true) (he : Go.Proofs.YtfeheccoijnbaaaDoor.picks fs is ++ fs.drop n = fs') : Mem W w fs' := by
 subst he
 refine ⟨h.below, fun f hf => ?_, List.pairwise_append.2 ⟨qbi h.apart hn, ?_, ?_⟩⟩
 ·rcases List.mem_append.1 hf with hf | hf
  ·obtain ⟨j, _, hj⟩ := List.mem_filterMap.1 hf
   exact h.holds f (List.mem_of_getElem? hj)
  ·exact h.holds f (List.mem_of_mem_drop hf)
 ·exact h.apart.sublist (List.drop_sublist _ _)
 ·intro f hf g hg
  obtain ⟨j, hj, hjf⟩ := List.mem_filterMap.1 hf
  have hjn : j < n := by simpa using List.all_eq_true.1 hlt j hj
  obtain ⟨i, hi, hig⟩ := List.getElem_of_mem hg
  rw [List.getElem_drop] at hig
  rw [List.length_drop] at hi
  obtain ⟨hjl, hje⟩ := List.getElem?_eq_some_iff.1 hjf
  have := List.pairwise_iff_getElem.1 h.apart j (n + i) hjl (by omega) (by omega)
  rwa [hje, hig] at this
end Go.Proofs.YtfeheccoijnbaaaDoor
namespace Go.Proofs.YtfeheccoijnbaaaDoor
open Go.RowKit Go.MapKept
section
variable {P : Program} {Q : Exit → Act → World → Prop} {a : Act} {W w : World} {n d : Nat} {D : List Deferred} {σ : List (Nat × Value)} {o : Oper} {K : Act → World → Prop} {fs : List Fact} {S : World → Prop}
theorem Mem.objAt (h : Mem W w fs) {i g : Nat} {ob : Obj} (hi : fs[i]? = some (.obj g ob)) : w.heap[g]? = some ob := (h.holds _ (List.mem_of_getElem? hi)).2
theorem Mem.setObj (h : Mem W w fs) {i g : Nat} {ob : Obj} (hi : fs[i]? = some (.obj g ob)) (ob' : Obj) : Mem W { w with heap := w.heap.setIfInBounds g ob' } (fs.set i (.obj g ob')) := by
 have hb := h.holds _ (List.mem_of_getElem? hi)
 have hlt := zh hb.2
 have hother : ∀ k, k ≠ g → (w.heap.setIfInBounds g ob')[k]? = w.heap[k]? := fun k hk => Array.getElem?_setIfInBounds_ne (Ne.symm hk)
 refine h.turn hi ⟨h.below.os, h.below.tape, h.below.output, by simpa using h.below.size, fun k hk => ?_⟩ (fun k _ hne => hother k (fun e => hne (by rw [e]; rfl))) ⟨hb.1, ?_⟩ (fun g' hg' => .inl hg')
 ·have := hb.1
  exact (hother k (by omega)).trans (h.below.block k hk)
 ·show (w.heap.setIfInBounds g ob')[g]? = some ob'
  rw [Array.getElem?_setIfInBounds_self]
  simp [hlt]
theorem qqs (HF : Fr a n D σ) (HM : Mem W w fs) {t : TypeId} (hop : o.op = .makeMap t none) (hd : o.dst = some d) (hdn : d < n)
  (k : ∀ a' w' g, Fr a' n D ((d, .map (some g)) :: σ) → Mem W w' (.obj g (.map #[] 0) :: fs) → K a' w') : o.wp P a w K Q := by
 have e1 : (execOp a.eval o).run P w = .ok (.value (.map (some w.heap.size))) (w.alloc (.map #[] 0)) := by
  unfold execOp
  simp only [hop, Sem.run_bind]
  rfl
 unfold Oper.wp
 rw [e1, Oper.upon_value, hd]
 exact k _ _ _ (HF.put hdn _) (HM.allocObj _)
theorem qnc (HF : Fr a n D σ) (HM : Mem W w fs) {t kt et : TypeId} {kd : TypeDesc} {m x y : Operand} {i g clock : Nat} {es : Array MapEntry} {key val : Value} (hop : o.op = .mapUpdate t m x y ∨ o.op = .insert t m x y) (hd : o.dst = none) (ht : P.underlying t = some (.map kt et)) (hk : P.underlying kt = some kd)
  (hm : look σ m = some (.map (some g))) (hx : look σ x = some key) (hy : look σ y = some val) (hi : fs[i]? = some (.obj g (.map es clock))) (hkey : IsKey kd key) (hf : Instr.findNow kd key es.toList 0 = some none)
  (k : ∀ w', Mem W w' (fs.set i (.obj g (.map (es.push { key, val, born := clock }) (clock + 1)))) → K a w') : o.wp P a w K Q := by
 have hb := HM.objAt hi
 have e1 : (Instr.mapUpdate t (.map (some g)) key val).run P w = .ok () { w with heap := w.heap.setIfInBounds g (.map (es.push { key, val, born := clock }) (clock + 1)) } := by
  unfold Instr.mapUpdate
  simp only [Sem.run_bind, run_underlying ht, Result.andThen_ok, MapKept.run_getObj_map hb, run_checkKey hk hkey, run_findKey hk hf, MapKept.run_setObj_map _ hb]
 unfold Oper.wp execOp
 rcases hop with hop | hop <;> simp only [hop, HF.eval hm, HF.eval hx, HF.eval hy, Sem.run_bind, e1, Result.andThen_ok, Sem.run_pure, Oper.upon_skip, hd]
 ·exact k _ (HM.setObj hi _)
 ·exact k _ (HM.setObj hi _)
theorem Yl.qly {t kt et : TypeId} {kd : TypeDesc} {m x : Operand} {g clock j : Nat} {es : Array MapEntry} {key v : Value} (hop : o.op = .lookup t m x false) (ht : P.underlying t = some (.map kt et)) (hk : P.underlying kt = some kd) (hm : look σ m = some (.map (some g))) (hx : look σ x = some key) (hb : ∀ w, S w → w.heap[g]? = some (.map es clock)) (hkey : IsKey kd key) (hf : Instr.findNow kd key es.toList 0 = some (some (j, v))) :
  Yl P S σ o v := fun a n D HF w hS => by
 have e1 : (Instr.lookup t (.map (some g)) key false).run P w = .ok v w := by
  unfold Instr.lookup
  simp only [Sem.run_bind, run_underlying ht, Result.andThen_ok, MapKept.run_getObj_map (hb w hS), Sem.run_pure, run_checkKey hk hkey, run_findKey hk hf]
  rfl
 unfold execOp
 simp only [hop, HF.eval hm, HF.eval hx, Sem.run_bind, e1, Result.andThen_ok, Sem.run_pure]
theorem Yl.qpp {t kt et : TypeId} {kd : TypeDesc} {m x : Operand} {g clock : Nat} {es : Array MapEntry} {key z : Value} (hop : o.op = .lookup t m x false) (ht : P.underlying t = some (.map kt et)) (hk : P.underlying kt = some kd) (hm : look σ m = some (.map (some g))) (hx : look σ x = some key) (hb : ∀ w, S w → w.heap[g]? = some (.map es clock)) (hkey : IsKey kd key) (hf : Instr.findNow kd key es.toList 0 = some none) (hz : (P.info? et).bind (·.zero) = some z) :
  Yl P S σ o z := fun a n D HF w hS => by
 obtain ⟨inf, hi, hiz⟩ := Option.bind_eq_some_iff.1 hz
 have e1 : (Instr.lookup t (.map (some g)) key false).run P w = .ok z w := by
  unfold Instr.lookup
  simp only [Sem.run_bind, run_underlying ht, Result.andThen_ok, MapKept.run_getObj_map (hb w hS), Sem.run_pure, run_checkKey hk hkey, run_findKey hk hf, zeroValue, typeInfo, program, Sem.run, hi, hiz]
  rfl
 unfold execOp
 simp only [hop, HF.eval hm, HF.eval hx, Sem.run_bind, e1, Result.andThen_ok, Sem.run_pure]
theorem Yl.makeFunc {fn : Fn} {xs ys : Array Operand} {fst caps : List Value} (hop : o.op = .makeFunc fn xs ys) (hx : looks σ xs.toList = some fst) (hy : looks σ ys.toList = some caps) : Yl P S σ o (.func fn fst.toArray caps.toArray) := fun a n D HF w hS => by
 have e1 : xs.map a.eval = fst.toArray := by
  have := qcn HF hx
  rw [← this, ← Array.toList_map, Array.toArray_toList]
 have e2 : ys.map a.eval = caps.toArray := by
  have := qcn HF hy
  rw [← this, ← Array.toList_map, Array.toArray_toList]
 unfold execOp
 simp only [hop, Instr.makeFunc, Sem.run_bind, Sem.run_pure, Result.andThen_ok]
 show Result.ok (Next.value (.func fn (Array.map a.eval xs) (Array.map a.eval ys))) w = _
 rw [e1, e2]
theorem qcf (HF : Fr a n D σ) {fo : Operand} {f : FuncId} {xs : Array Operand} {ts : Array TypeId} {vs fst caps : List Value} {R : Ending → World → Prop} (hop : o.op = .call { callee := .value fo, args := xs, argTypes := ts }) (hfo : look σ fo = some (.func (.func f) fst.toArray caps.toArray)) (hv : looks σ xs.toList = some vs) (hf : callable P f = true) (hd : o.dst = some d) (hdn : d < n)
  (hC : Calls P f (fst ++ vs ++ caps).toArray w R) (k : ∀ e w', R e w' → ∃ v, e = .returned v ∧ ∀ a', Fr a' n D ((d, v) :: σ) → K a' w') : o.wp P a w K Q := by
 have e1 : xs.map a.eval = vs.toArray := by
  have := qcn HF hv
  rw [← this, ← Array.toList_map, Array.toArray_toList]
 unfold Oper.wp execOp
 simp only [hop, resolve, HF.eval hfo, Deferred.ofValue, invoke, Sem.run_bind, Sem.run_pure, Result.andThen_ok]
 have e3 : fst.toArray ++ Array.map a.eval xs ++ caps.toArray = (fst ++ vs ++ caps).toArray := by simp [e1]
 show Oper.upon P o a K Q (((callFunc f (fst.toArray ++ Array.map a.eval xs ++ caps.toArray)).run P w))
 rw [e3, qdj hf, Oper.upon_enter]
 refine hC.mono fun e w' he => ?_
 obtain ⟨v, rfl, h2⟩ := k e w' he
 show K (a.put o.dst v) w'
 rw [hd]
 exact h2 _ (HF.put hdn v)
end
end Go.Proofs.YtfeheccoijnbaaaDoor
namespace Go.Proofs.YtfeheccoijnbaaaDoor
open Go.RowKit
def mostN : Go.IntKind → Nat
 | .i8 => 127 | .i16 => 32767 | .i32 => 2147483647 | .i64 => 9223372036854775807
 | .u8 => 255 | .u16 => 65535 | .u32 => 4294967295 | .u64 => 18446744073709551615
theorem qca (k : Go.IntKind) {m : Nat} (h : m ≤ mostN k) : Go.IntKind.wrap k (m : Int) = (m : Int) := by
 cases k <;> simp only [mostN] at h
 ·exact IntWalk.i8_in _ (by omega)
 ·exact IntWalk.i16_in _ (by omega)
 ·exact IntWalk.i32_in _ (by omega)
 ·exact IntWalk.i64_in _ (by omega)
 ·exact IntWalk.u8_in _ (by omega)
 ·exact IntWalk.u16_in _ (by omega)
 ·exact IntWalk.u32_in _ (by omega)
 ·exact IntWalk.u64_in _ (by omega)
theorem qi {x : Int} {m : Nat} (h : x = (m : Int)) (hb : m ≤ 9223372036854775807) : Value.int .i64 (Go.IntKind.i64.wrap x) = .int .i64 (m : Int) := by subst h; rw [qca .i64 hb]
theorem qaw {x : Int} {m : Nat} (h : x = (m : Int)) (hb : m ≤ 18446744073709551615) : Value.int .u64 (Go.IntKind.u64.wrap x) = .int .u64 (m : Int) := by subst h; rw [qca .u64 hb]
theorem qdm {x : Int} {m : Nat} (h : x = (m : Int)) (hb : m ≤ 4294967295) : Value.int .u32 (Go.IntKind.u32.wrap x) = .int .u32 (m : Int) := by subst h; rw [qca .u32 hb]
theorem qvj {x : Int} {m : Nat} (h : x = (m : Int)) (hb : m ≤ 255) : Value.int .u8 (Go.IntKind.u8.wrap x) = .int .u8 (m : Int) := by subst h; rw [qca .u8 hb]
theorem qh8 (m : Nat) : Value.int .u8 (Go.IntKind.u8.wrap (m : Int)) = .int .u8 ((m % 256 : Nat) : Int) := by
 rw [Go.IntKind.wrap_u8]; simp
theorem qao (k : Go.IntKind) (m n : Nat) : Value.int k (Int.tmod (m : Int) (n : Int)) = .int k ((m % n : Nat) : Int) := by rw [Int.tmod_eq_emod_of_nonneg (by omega)]; rfl
theorem qd0 (k : Go.IntKind) (m : Nat) {j : Nat} {p : Int} {q : Nat} (hp : p = (j : Int)) (hq : 2 ^ (min p.toNat k.bits) = q) : Value.int k (Int.fdiv (m : Int) (2 ^ (min p.toNat k.bits))) = .int k ((m / q : Nat) : Int) := by
 subst hp; subst hq
 congr 1
 rw [Int.fdiv_eq_ediv_of_nonneg _ (by exact_mod_cast Nat.zero_le _)]
 norm_cast
theorem qco (w : Nat) {m : Nat} (h : m < 2 ^ w) : (BitVec.ofInt w (m : Int)).toNat = m := by
 rw [BitVec.toNat_ofInt]
 have : ((m : Int) % ((2 ^ w : Nat) : Int)) = (m : Int) := Int.emod_eq_of_lt (by omega) (by exact_mod_cast h)
 rw [this]; rfl
theorem qwl (k : Go.IntKind) {m n : Nat} (hm : m < 2 ^ k.bits) (hn : n < 2 ^ k.bits) (hr : m &&& n ≤ mostN k) : Value.int k (Go.IntKind.wrap k (BitVec.ofInt k.bits (m : Int) &&& BitVec.ofInt k.bits (n : Int)).toNat) = .int k ((m &&& n : Nat) : Int) := by
 rw [BitVec.toNat_and, qco _ hm, qco _ hn, qca k hr]
theorem qqt (k : Go.IntKind) {m n : Nat} (hm : m < 2 ^ k.bits) (hn : n < 2 ^ k.bits) (hr : m ||| n ≤ mostN k) : Value.int k (Go.IntKind.wrap k (BitVec.ofInt k.bits (m : Int) ||| BitVec.ofInt k.bits (n : Int)).toNat) = .int k ((m ||| n : Nat) : Int) := by
 rw [BitVec.toNat_or, qco _ hm, qco _ hn, qca k hr]
theorem qwm (k : Go.IntKind) {m n : Nat} (hm : m < 2 ^ k.bits) (hn : n < 2 ^ k.bits) (hr : m ^^^ n ≤ mostN k) : Value.int k (Go.IntKind.wrap k (BitVec.ofInt k.bits (m : Int) ^^^ BitVec.ofInt k.bits (n : Int)).toNat) = .int k ((m ^^^ n : Nat) : Int) := by
 rw [BitVec.toNat_xor, qco _ hm, qco _ hn, qca k hr]
theorem qts (k : Go.IntKind) {m j n : Nat} (hn : n = 2 ^ j - 1) (hj : 2 ^ j - 1 ≤ mostN k) (hm : m < 2 ^ k.bits) (hn2 : n < 2 ^ k.bits) : Value.int k (Go.IntKind.wrap k (BitVec.ofInt k.bits (m : Int) &&& BitVec.ofInt k.bits (n : Int)).toNat) = .int k ((m % 2 ^ j : Nat) : Int) := by
 subst hn
 have h := Nat.and_two_pow_sub_one_eq_mod m j
 rw [qwl k hm hn2 (by rw [h]; have := Nat.mod_lt m (Nat.two_pow_pos j); omega), h]
theorem qx3 {m n : Nat} (hm : m < 4294967296) (hn : n < 4294967296) : Value.int .u32 (Go.IntKind.u32.wrap (BitVec.ofInt Go.IntKind.u32.bits (m : Int) ||| BitVec.ofInt Go.IntKind.u32.bits (n : Int)).toNat) = .int .u32 ((m ||| n : Nat) : Int) :=
 qqt .u32 (by show m < 4294967296; omega) (by show n < 4294967296; omega) (by have h : m ||| n < 4294967296 := Nat.or_lt_two_pow (n := 32) (by simpa using hm) (by simpa using hn); show _ ≤ 4294967295; omega)
theorem qjc {m n : Nat} (hm : m < 4294967296) (hn : n < 4294967296) : Value.int .u32 (Go.IntKind.u32.wrap (BitVec.ofInt Go.IntKind.u32.bits (m : Int) ^^^ BitVec.ofInt Go.IntKind.u32.bits (n : Int)).toNat) = .int .u32 ((m ^^^ n : Nat) : Int) :=
 qwm .u32 (by show m < 4294967296; omega) (by show n < 4294967296; omega) (by have h : m ^^^ n < 4294967296 := Nat.xor_lt_two_pow (n := 32) (by simpa using hm) (by simpa using hn); show _ ≤ 4294967295; omega)
theorem qnd {m j n : Nat} (hn : n = 2 ^ j - 1) (hn2 : n < 4294967296) (hm : m < 4294967296) : Value.int .u32 (Go.IntKind.u32.wrap (BitVec.ofInt Go.IntKind.u32.bits (m : Int) &&& BitVec.ofInt Go.IntKind.u32.bits (n : Int)).toNat) = .int .u32 ((m % 2 ^ j : Nat) : Int) :=
 qts .u32 hn (by rw [← hn]; show n ≤ 4294967295; omega) (by show m < 4294967296; omega) (by show n < 4294967296; omega)
theorem qx4 {m n : Nat} (hm : m < 18446744073709551616) (hn : n < 18446744073709551616) : Value.int .u64 (Go.IntKind.u64.wrap (BitVec.ofInt Go.IntKind.u64.bits (m : Int) ||| BitVec.ofInt Go.IntKind.u64.bits (n : Int)).toNat) = .int .u64 ((m ||| n : Nat) : Int) :=
 qqt .u64 (by show m < 18446744073709551616; omega) (by show n < 18446744073709551616; omega) (by have h : m ||| n < 18446744073709551616 := Nat.or_lt_two_pow (n := 64) (by simpa using hm) (by simpa using hn); show _ ≤ 18446744073709551615; omega)
theorem qx5 {m n : Nat} (hm : m < 9223372036854775808) (hn : n < 9223372036854775808) : Value.int .i64 (Go.IntKind.i64.wrap (BitVec.ofInt Go.IntKind.i64.bits (m : Int) ||| BitVec.ofInt Go.IntKind.i64.bits (n : Int)).toNat) = .int .i64 ((m ||| n : Nat) : Int) :=
 qqt .i64 (by show m < 18446744073709551616; omega) (by show n < 18446744073709551616; omega) (by have h : m ||| n < 9223372036854775808 := Nat.or_lt_two_pow (n := 63) (by simpa using hm) (by simpa using hn); show _ ≤ 9223372036854775807; omega)
theorem getD_at {α : Type} {l : List α} {k : Nat} (d : α) (h : k < l.length) : l[k]? = some (l.getD k d) := by
 rw [List.getD_eq_getElem?_getD, List.getElem?_eq_getElem h]; rfl
theorem qap {α : Type} {l : List α} {k : Nat} (d : α) (h : k < l.length) : l.getD k d ∈ l := List.mem_of_getElem? (getD_at d h)
theorem getD_lt {l : List Nat} {m : Nat} (hl : ∀ b ∈ l, b < m) {k : Nat} (h : k < l.length) : l.getD k 0 < m := hl _ (qap 0 h)
section
variable {W w w' : World} {fs gs fs' : List Fact}
theorem Mem.perm (h : Mem W w fs) (hp : fs.Perm fs') : Mem W w fs' :=
 ⟨h.below, fun f hf => h.holds f (hp.mem_iff.2 hf), (hp.pairwise_iff (fun {_ _} hab => hab.symm)).1 h.apart⟩
theorem Mem.subl (h : Mem W w fs) (hs : fs'.Sublist fs) : Mem W w fs' :=
 ⟨h.below, fun f hf => h.holds f (hs.subset hf), h.apart.sublist hs⟩
theorem Fact.holds.base {b b' : Nat} {f : Fact} (h : f.holds b w) (hb : b' ≤ b) : f.holds b' w := by
 cases f with
 | blk g cs t => exact ⟨Nat.le_trans hb h.1, h.2⟩
 | obj g o => exact ⟨Nat.le_trans hb h.1, h.2⟩
 | row v n xs e size => exact qeo h hb
theorem Mem.join (h : Mem W w fs) (k : Mem w w' gs) : Mem W w' (gs ++ fs) := by
 have hf := h.call k.below
 refine ⟨hf.below, ?_, ?_⟩
 ·intro f hm
  rcases List.mem_append.1 hm with hm | hm
  ·exact (k.holds f hm).base h.size
  ·exact hf.holds f hm
 ·refine List.pairwise_append.2 ⟨k.apart, h.apart, ?_⟩
  intro f hfm g hgm x hx hgx
  have h1 := ((k.holds f hfm).lt hx).1
  have h2 := ((h.holds g hgm).lt hgx).2
  omega
theorem Mem.qyx {A : Option Addr} {n c : Nat} {xs : List Value} {e : TypeId} {size : Nat} (h : Mem W w fs) (hf : Fact.row (.slice A n c) n xs e size ∈ fs) : Rd w w.heap.size size A n xs := by
 obtain ⟨i, hi⟩ := List.mem_iff_getElem?.1 hf
 exact h.rd hi
structure Own where
 A : Option Addr
 n : Nat
 c : Nat
 xs : List Value
def Own.fact (e : TypeId) (size : Nat) (p : Own) : Fact := .row (.slice p.A p.n p.c) p.n p.xs e size
def ownsF (e : TypeId) (size : Nat) (ps : List Own) : List Fact := ps.map (Own.fact e size)
end
section
variable {P : Program} {ops : Array Oper} {Q : Exit → Act → World → Prop} {a : Act} {w : World}
theorem qrc {id : Nat} {W : World} {fs : List Fact} (HM : Mem W w fs) (fs' : List Fact) (n : Nat) (is ex : List Nat) (h : Mem W w.drew fs → Mem W w.drew fs' → qak P .any ops Q (fun wS => Mem W wS fs') ex ops.size (Array.replicate ops.size false) a w.drew)
  (hm : P.follows .mixedOrders = true := by kernel_rfl) (hn : is.Nodup := by decide) (hlt : (is.all (· < n)) = true := by decide) (he : picks fs is ++ fs.drop n = fs' := by rfl) : (Code.region id ops true).wp P Q a w :=
 qkh hm _ ex (h HM.drew (HM.drew.picksT n is hn hlt he))
end
section
variable {P : Program} {ops : Array Oper} {Q : Exit → Act → World → Prop} {a : Act} {W w : World} {l n N i d : Nat} {D : List Deferred} {σ σ' : List (Nat × Value)} {K : Act → World → Prop} {fs : List Fact} {o : Oper}
theorem qhi (hQ : ¬ LetsOut Q) : ∀ (os : List Oper), (∀ o ∈ os, ∀ c, o.op ≠ .defer c) → ∀ a w, wpList P ops Q os a w → wpListIn (Fence.wide.inRound l) 0 P ops Q os a w
 | [], _, _, _, h => h
 | o :: os, hos, a, w, h => by
  unfold wpList at h
  unfold wpListIn
  split at h
  ·rename_i hw
   rw [if_pos hw]
   exact qkb (hos o List.mem_cons_self) hQ (fun a w h => qhi hQ os (fun o ho => hos o (List.mem_cons_of_mem _ ho)) a w h) h
  ·rename_i hw
   rw [if_neg hw]
   exact ⟨fun _ _ => trivial, qhi hQ os (fun o ho => hos o (List.mem_cons_of_mem _ ho)) _ _ h⟩
theorem zm {id : Nat} (h : qae P ops Q 0 a w) (hd : qgv ops = true := by kernel_rfl) (hQ : ¬ LetsOut Q := by intro ⟨_, _, h⟩; exact h) : (Code.region id ops false).wpIn (Fence.wide.inRound l) 0 P Q a w :=
 wpIn_region_list (qhi hQ _ (fun o ho => by
  obtain ⟨j, hj⟩ := List.mem_iff_getElem?.1 ho
  exact qh3 hd (i := j) (by simpa using hj)) a w (by simpa [qae] using h))
theorem qr8 {id : Nat} (HM : Mem W w fs) (fs' : List Fact) (m : Nat) (is ex : List Nat) (h : Mem W w.drew fs → Mem W w.drew fs' → qak P .any ops Q (fun wS => Mem W wS fs') ex ops.size (Array.replicate ops.size false) a w.drew)
  (hm : P.follows .mixedOrders = true := by kernel_rfl) (hn : is.Nodup := by decide) (hlt : (is.all (· < m)) = true := by decide) (he : picks fs is ++ fs.drop m = fs' := by rfl) (hd : qgv ops = true := by kernel_rfl) (hQ : ¬ LetsOut Q := by intro ⟨_, _, h⟩; exact h) : (Code.region id ops true).wpIn (Fence.wide.inRound l) 0 P Q a w :=
 wpIn_region_any hm (qes hd hQ _ _ _ _ (qc2 _ _ _ _ (h HM.drew (HM.drew.picksT m is hn hlt he))))
theorem qhj {F : Fence} {c : Operand} {x y : Code} (HF : Fr a n D σ) (hc : look σ c = some (.bool true)) (h : x.wpIn F 0 P Q a w) : (Code.cond c x y).wpIn F 0 P Q a w := wpIn_cond_true (HF.eval hc) h
theorem qge {F : Fence} {c : Operand} {x y : Code} (HF : Fr a n D σ) (hc : look σ c = some (.bool false)) (h : y.wpIn F 0 P Q a w) : (Code.cond c x y).wpIn F 0 P Q a w := wpIn_cond_false (HF.eval hc) h
def qb6 (fn : FuncId) (tmps : Array Value) (ps : Array Tmp) (assign body : Code) (D : Nat) (st : LoopState) (pe : Option Code) : Loop := { state := st, pending := pe, fn, tmps, params := ps, assign, body, defers := D }
def roundEnd (W : World) (l : Nat) (rec : LoopState → Option Code → Loop) (R : Ending → World → Prop) : Exit → Act → World → Prop
 | .normal, _, w => ∃ F, Mem W w (.obj l (.loop (rec .busy none)) :: F) ∧ ∀ w', Mem W w' (.obj l (.loop (rec .ready none)) :: F) → R (.returned (.bool true)) w'
 | .ret, _, w => ∃ F, Mem W w (.obj l (.loop (rec .busy none)) :: F) ∧ ∀ w', Mem W w' (.obj l (.loop (rec .done (some .ret))) :: F) → R (.returned (.bool false)) w'
 | .exit id, _, w => ∃ F, Mem W w (.obj l (.loop (rec .busy none)) :: F) ∧ ∀ w', Mem W w' (.obj l (.loop (rec .done (some (.exit id)))) :: F) → R (.returned (.bool false)) w'
 | _, _, _ => False
theorem qmt {fn : FuncId} {tmps : Array Value} {ps : Array Tmp} {assign body : Code} {B : Nat} {args : Array Value} {F : List Fact} {R : Ending → World → Prop} (HM : Mem W w (.obj l (.loop (qb6 fn tmps ps assign body B .ready none)) :: F)) (hs : args.size = ps.size)
  (h : assign.wpIn (Fence.wide.inRound l) 0 P (Exit.then (fun a1 w1 => ∃ F1, Mem W w1 (.obj l (.loop (qb6 fn tmps ps assign body B .ready none)) :: F1) ∧ ∀ w2, Mem W w2 (.obj l (.loop (qb6 fn tmps ps assign body B .busy none)) :: F1) → body.wpIn (Fence.wide.inRound l) 0 P (roundEnd W l (qb6 fn tmps ps assign body B) R) a1 w2) (fun _ _ _ => False))
   { tmps := (ps.zip args).foldl (fun t (p, v) => t.setIfInBounds p v) tmps, defers := [] } w) : YieldAt Fence.wide 0 P l args w R := by
 have hl := HM.objAt (i := 0) rfl
 refine ⟨fn, _, assign, body, run_yield hl hs, roundIn_of_wpIn trivial (wpIn_mono h ?_)⟩
 rintro e a1 w1 hq
 cases e with
 | normal =>
  obtain ⟨F1, h1, h2⟩ := hq
  refine ⟨_, run_beginRound (h1.objAt (i := 0) rfl) rfl, ?_⟩
  refine wpIn_mono (h2 _ (h1.setObj (i := 0) rfl _)) ?_
  rintro e a2 w2 hq
  cases e with
  | normal =>
   obtain ⟨F2, h3, h4⟩ := hq
   exact ⟨_, _, run_endRound none (h3.objAt (i := 0) rfl), h4 _ (h3.setObj (i := 0) rfl _)⟩
  | ret =>
   obtain ⟨F2, h3, h4⟩ := hq
   exact ⟨_, _, run_endRound (some .ret) (h3.objAt (i := 0) rfl), h4 _ (h3.setObj (i := 0) rfl _)⟩
  | exit id =>
   obtain ⟨F2, h3, h4⟩ := hq
   exact ⟨_, _, run_endRound (some (.exit id)) (h3.objAt (i := 0) rfl), h4 _ (h3.setObj (i := 0) rfl _)⟩
  | goto t => exact hq.elim
  | panic c => exact hq.elim
  | outgrown => exact hq.elim
 | exit id => exact hq.elim
 | goto t => exact hq.elim
 | ret => exact hq.elim
 | panic c => exact hq.elim
 | outgrown => exact hq.elim
theorem Fr.zip2 {tmps : Array Value} {p1 p2 : Nat} {v1 v2 : Value} (h : Fr { tmps := tmps, defers := [] } n D σ) (h1 : p1 < n) (h2 : p2 < n) : Fr { tmps := (#[p1, p2].zip #[v1, v2]).foldl (fun t (p, v) => t.setIfInBounds p v) tmps, defers := [] } n D ((p2, v2) :: (p1, v1) :: σ) := by
 have h3 := (h.put h1 v1).put h2 v2
 simpa [Act.put] using h3
theorem qgf {rec : LoopState → Option Code → Loop} {assign body : Code} {B p1 p2 : Nat} {v1 v2 : Value} {F : List Fact} {R : Ending → World → Prop} (hrec : ∃ fn tmps, rec = qb6 fn tmps #[p1, p2] assign body B ∧ Fr { tmps := tmps, defers := [] } n [] σ) (HM : Mem W w (.obj l (.loop (rec .ready none)) :: F)) (h1 : p1 < n) (h2 : p2 < n)
  (h : ∀ a, Fr a n [] ((p2, v2) :: (p1, v1) :: σ) → assign.wpIn (Fence.wide.inRound l) 0 P (Exit.then (fun a1 w1 => ∃ F1, Mem W w1 (.obj l (.loop (rec .ready none)) :: F1) ∧ ∀ w2, Mem W w2 (.obj l (.loop (rec .busy none)) :: F1) → body.wpIn (Fence.wide.inRound l) 0 P (roundEnd W l rec R) a1 w2) (fun _ _ _ => False)) a w) : YieldAt Fence.wide 0 P l #[v1, v2] w R := by
 obtain ⟨fn, tmps, rfl, HF⟩ := hrec
 exact qmt HM rfl (h _ (HF.zip2 h1 h2))
theorem qnr {a : Act} {w : World} {K K' : Act → World → Prop} (hQ : ¬ LetsOut Q) (hK : ∀ a w, K a w → K' a w) (h : o.wp P a w K Q ∨ (o.asks P a w ∧ LetsOut Q)) : o.wpIn Fence.wide 0 P a w K' Q := by
 rcases h with h | h
 ·refine ⟨fun _ _ => trivial, ?_⟩
  rw [show Fence.wide.round = none from rfl, Oper.semAt_none]
  unfold Oper.wp at h
  generalize (execOp a.eval o).run P w = r at h
  cases r with
  | ok x w' =>
   cases x with
   | value v => exact hK _ _ h
   | skip => exact hK _ _ h
   | defer d => exact hK _ _ h
   | enter f args =>
    refine ⟨fun h => by simp [Fence.wide] at h, ?_⟩
    show CallsIn Fence.wide 0 P f args w' _
    refine (callsIn_wide.2 h).mono ?_
    intro e w'' he
    cases e with
    | returned v => exact hK _ _ he
    | panicked c => exact he
    | outgrown => exact he
   | row r args =>
    refine ⟨fun h => by simp [Fence.wide] at h, fun c cs _ => ?_⟩
    obtain ⟨v, w'', h1, h2⟩ := (h : Rows P r args w' _) c cs
    exact ⟨v, w'', hK _ _ h1, stepsIn_wide.2 h2⟩
   | _ => exact (h : False).elim
  | halt hh w' =>
   cases hh with
   | panic v => exact h
   | _ => exact (h : False).elim
 ·exact absurd h.2 hQ
theorem qjo (hQ : ¬ LetsOut Q) : ∀ (os : List Oper) (a : Act) (w : World), wpList P ops Q os a w → wpListIn Fence.wide 0 P ops Q os a w
 | [], _, _, h => h
 | o :: os, a, w, h => by
  unfold wpList at h
  unfold wpListIn
  split at h
  ·rename_i hw
   rw [if_pos hw]
   exact qnr hQ (fun a w h => qjo hQ os a w h) h
  ·rename_i hw
   rw [if_neg hw]
   exact ⟨fun _ _ => trivial, qjo hQ os _ _ h⟩
theorem qla {pre : Array Oper} (hQ : ¬ LetsOut Q) (K : Act → World → Prop) (os2 : List Oper) (hK : ∀ a w, K a w → wpListIn Fence.wide 0 P ops Q os2 a w) : ∀ (os : List Oper), (∀ o ∈ os, o.guard = none) → ∀ a w, wpList P pre (Exit.then K Q) os a w → wpListIn Fence.wide 0 P ops Q (os ++ os2) a w
 | [], _, a, w, h => hK a w h
 | o :: os, hg, a, w, h => by
  have h1 : ∀ x, Region.wanted o x = true := fun x => by unfold Region.wanted; rw [hg o List.mem_cons_self]
  unfold wpList at h
  rw [if_pos (h1 _)] at h
  show if Region.wanted o (yielded ops a.tmps) = true then _ else _
  rw [if_pos (h1 _)]
  have h2 := qnr (Q := Exit.then K Q) (K' := wpListIn Fence.wide 0 P ops Q (os ++ os2)) (fun ⟨a, w, h⟩ => hQ ⟨a, w, h⟩) (fun a w h => qla hQ K os2 hK os (fun o ho => hg o (List.mem_cons_of_mem _ ho)) a w h) h
  refine ⟨h2.1, ?_⟩
  have h3 := h2.2
  generalize (o.semAt Fence.wide.round a.eval).run P w = r at h3
  cases r with
  | ok x w' =>
   cases x with
   | enter f args =>
    refine ⟨h3.1, h3.2.mono ?_⟩
    intro e w'' he
    cases e with
    | returned v => exact he
    | panicked c => exact he
    | outgrown => exact he
   | round l f tmps assign body =>
    refine ⟨h3.1, h3.2.mono ?_⟩
    intro e w'' he
    cases e with
    | returned v => exact he
    | panicked c => exact he
    | outgrown => exact he
   | _ => exact h3
  | halt hh w' =>
   cases hh with
   | panic v => exact h3
   | _ => exact h3
theorem qlb {id i : Nat} (h : qae P (ops.toList.take i).toArray (Exit.then (fun a w => ∃ o, ops[i]? = some o ∧ o.guard = none ∧ o.wpIn Fence.wide 0 P a w (wpListIn Fence.wide 0 P ops Q (ops.toList.drop (i + 1))) Q) Q) 0 a w) (hg : ((ops.toList.take i).all fun o => o.guard.isNone) = true := by kernel_rfl) (hQ : ¬ LetsOut Q := by intro ⟨_, _, h⟩; obtain ⟨_, h, _⟩ := h; cases h) : (Code.region id ops false).wp P Q a w := by
 refine wpIn_wide.1 (wpIn_region_list (n := 0) ?_)
 have h0 : wpList P (ops.toList.take i).toArray (Exit.then (fun a w => ∃ o, ops[i]? = some o ∧ o.guard = none ∧ o.wpIn Fence.wide 0 P a w (wpListIn Fence.wide 0 P ops Q (ops.toList.drop (i + 1))) Q) Q) (ops.toList.take i) a w := by simpa [qae] using h
 have h1 := qla (ops := ops) hQ _ (ops.toList.drop i) (fun a w ⟨o, ho, hn, h⟩ => by
  obtain ⟨hl, he⟩ := Array.getElem?_eq_some_iff.1 ho
  rw [List.drop_eq_getElem_cons (by simpa using hl), Array.getElem_toList, he]
  unfold wpListIn
  rw [if_pos (by unfold Region.wanted; rw [hn])]
  exact h) (ops.toList.take i) (fun o ho => by
  have := List.all_eq_true.1 hg o ho
  simpa using this) a w h0
 rwa [List.take_append_drop] at h1
theorem Mem.qxk {r : Fact} {es F : List Fact} (h : Mem W w (r :: (es ++ F))) : Mem W w (r :: (F ++ es)) := h.perm (List.Perm.cons _ List.perm_append_comm)
theorem Mem.qtc {es F : List Fact} (h : Mem W w (F ++ es)) : Mem W w (es ++ F) := h.perm List.perm_append_comm
theorem Mem.qn8 (es : List Fact) {F : List Fact} (h : Mem W w (es ++ F)) : Mem W w F := h.subl (List.sublist_append_right es F)
theorem qut (HF : Fr a n D σ) {fo : Operand} {xs : Array Operand} {ts : Array TypeId} {vs : List Value} {R : Ending → World → Prop} (ho : ops[i]? = some o) (hn : o.guard = none) (hop : o.op = .call { callee := .value fo, args := xs, argTypes := ts }) (hfo : look σ fo = some (.func (.yield l) #[] #[])) (hv : looks σ xs.toList = some vs) (hd : o.dst = some d) (hdn : d < n)
  (hy : YieldAt Fence.wide 0 P l vs.toArray w R) (hR : ∀ e w', R e w' → ∃ v, e = .returned v) (k : ∀ v w' a', R (.returned v) w' → Fr a' n D ((d, v) :: σ) → qae P ops Q (i + 1) a' w') (hQ : ¬ LetsOut Q := by intro ⟨_, _, h⟩; obtain ⟨_, h, _⟩ := h; cases h) :
  ∃ o, ops[i]? = some o ∧ o.guard = none ∧ o.wpIn Fence.wide 0 P a w (wpListIn Fence.wide 0 P ops Q (ops.toList.drop (i + 1))) Q := by
 refine ⟨o, ho, hn, fun _ _ => trivial, ?_⟩
 have e1 : xs.map a.eval = vs.toArray := by
  have := qcn HF hv
  rw [← this, ← Array.toList_map, Array.toArray_toList]
 obtain ⟨fn, tmps, assign, body, h1, h2⟩ := hy
 rw [show Fence.wide.round = none from rfl, Oper.semAt_none]
 unfold execOp
 simp only [hop, resolve, HF.eval hfo, Deferred.ofValue, invoke, Sem.run_bind, Sem.run_pure, Result.andThen_ok]
 have e2 : (#[] : Array Value) ++ Array.map a.eval xs ++ #[] = vs.toArray := by simp [e1]
 show Oper.uponIn Fence.wide 0 P o a _ Q ((Instr.yield l (#[] ++ Array.map a.eval xs ++ #[])).run P w)
 rw [e2, h1]
 refine ⟨fun h => by simp [Fence.wide] at h, h2.mono ?_⟩
 intro e w' he
 obtain ⟨v, rfl⟩ := hR e w' he
 show wpListIn Fence.wide 0 P ops Q (ops.toList.drop (i + 1)) (a.put o.dst v) w'
 rw [hd]
 exact qjo hQ _ _ _ (k v w' _ he (HF.put hdn v))
theorem qvu {g : Operand} {ps : Array Tmp} {assign body : Code} {gf : Nat} {caps : List Value} (HF : Fr a n [] σ) (HM : Mem W w fs) (J : List Fact → Prop) (X : Code → List Fact → Prop) (hg : look σ g = some (.func (.func gf) #[] caps.toArray)) (hcl : callable P gf = true)
  (hit : ∀ (l B : Nat) (rec : LoopState → Option Code → Loop) (w1 : World), (∃ fn tmps, rec = qb6 fn tmps ps assign body B ∧ Fr { tmps := tmps, defers := [] } n [] σ) → Mem W w1 (.obj l (.loop (rec .ready none)) :: .obj B (.deferred (some [])) :: fs) →
   Calls P gf (.func (.yield l) #[] #[] :: caps).toArray w1 fun r w' => ∃ v, r = .returned v ∧ ((∃ F, J F ∧ Mem W w' (.obj l (.loop (rec .ready none)) :: .obj B (.deferred (some [])) :: F)) ∨ ∃ c F, X c F ∧ Mem W w' (.obj l (.loop (rec .done (some c))) :: .obj B (.deferred (some [])) :: F)))
  (hdone : ∀ (B : Nat) (a' : Act) (w' : World) (F : List Fact), J F → Fr a' n [{ target := .collected B, args := #[] }] σ → Mem W w' (.obj B (.deferred (some [])) :: F) → Q .normal a' w')
  (hstop : ∀ (c : Code) (B : Nat) (a' : Act) (w' : World) (F : List Fact), X c F → Fr a' n [{ target := .collected B, args := #[] }] σ → Mem W w' (.obj B (.deferred (some [])) :: F) → c.wp P Q a' w') :
  (Code.rangeFunc g ps assign body).wp P Q a w := by
 refine (wpIn_wide (n := 0)).1 (wpIn_rangeFunc ?_)
 intro fn _
 show ∃ l mark w₁ d w₁' f args w₂, (Instr.enterLoop fn a.tmps ps assign body none).run P w = .ok (l, mark) w₁ ∧ _
 have h1 := (HM.allocObj (.deferred (some []))).allocObj (.loop (qb6 fn a.tmps ps assign body w.heap.size .ready none))
 rw [World.size_alloc] at h1
 have HF1 : Fr { tmps := a.tmps, defers := [] } n [] σ := ⟨HF.size, rfl, HF.slot⟩
 have HF2 : Fr { a with defers := { target := .collected w.heap.size, args := #[] } :: a.defers } n [{ target := .collected w.heap.size, args := #[] }] σ := ⟨HF.size, by show _ :: a.defers = _; rw [HF.defers], HF.slot⟩
 have hE : (Instr.enterLoop fn a.tmps ps assign body none).run P w = .ok (w.heap.size + 1, [{ target := .collected w.heap.size, args := #[] }]) ((w.alloc (.deferred (some []))).alloc (.loop (qb6 fn a.tmps ps assign body w.heap.size .ready none))) := run_enterLoop_outer _ _ _ _ _
 generalize (w.alloc (.deferred (some []))).alloc (.loop (qb6 fn a.tmps ps assign body w.heap.size .ready none)) = W1 at h1 hE
 refine ⟨w.heap.size + 1, [{ target := .collected w.heap.size, args := #[] }], W1, { target := .fn (.func gf) caps.toArray, args := #[.func (.yield (w.heap.size + 1)) #[] #[]] }, W1, gf, #[.func (.yield (w.heap.size + 1)) #[] #[]] ++ caps.toArray, W1, hE, ?_, fun _ _ => trivial, ?_, fun h => by simp [Fence.wide] at h, ?_⟩
 ·simp only [resolve, HF.eval hg]
  simp [go_sem]
 ·simp [invoke, go_sem, qdj hcl]
 ·have e : (#[.func (.yield (w.heap.size + 1)) #[] #[]] ++ caps.toArray : Array Value) = (.func (.yield (w.heap.size + 1)) #[] #[] :: caps).toArray := by simp
  rw [e]
  refine callsIn_wide.2 ((hit _ _ _ _ ⟨fn, a.tmps, rfl, HF1⟩ h1).mono ?_)
  rintro e w' ⟨v, rfl, (⟨F, hJ, hM⟩ | ⟨c, F, hX, hM⟩)⟩
  ·have h2 := run_endLoop (P := P) (hM.objAt (i := 0) rfl) (by simp [qb6])
   exact ⟨none, _, h2, hdone _ _ _ F hJ HF2 (hM.setObj (i := 0) rfl _).tail⟩
  ·have h2 := run_endLoop (P := P) (hM.objAt (i := 0) rfl) (by simp [qb6])
   exact ⟨some c, _, h2, wpIn_wide.2 (hstop c _ _ _ F hX HF2 (hM.setObj (i := 0) rfl _).tail)⟩
def bodyM (P : Program) (fn : Func) (R : Ending → World → Prop) : Exit → Act → World → Prop
 | .normal, a, w | .ret, a, w => LeavesInM Fence.wide 0 P fn a.tmps R a.defers .returning w
 | _, _, _ => False
theorem qe8 {f N : Nat} {fn : Func} {c : Code} {vs : List Value} {R : Ending → World → Prop} (hf : P.funcs[f]? = some fn) (hb : fn.body = some c) (hn : fn.ntmps = N) (hl : decide (vs.length ≤ N) = true) {σ0 : List (Nat × Value)} (h0 : qey 0 vs = σ0)
  (k : ∀ a, Fr a N [] σ0 → c.wp P (bodyM P fn R) a w) : Calls P f vs.toArray w R := by
 subst h0
 rw [decide_eq_true_eq] at hl
 refine (callsIn_wide (n := 0)).1 (callsIn_of_wp_marks hf hb trivial (wpIn_wide.2 (Code.wp_mono (fun e a w h => by cases e <;> first | exact h | exact (h : False).elim) (k _ ⟨by simp [hn]; omega, rfl, fun t v hv => ?_⟩))) rfl)
 obtain ⟨_, h1⟩ := qdl vs 0 t v hv
 rw [Nat.sub_zero] at h1
 have hlt := (List.getElem?_eq_some_iff.1 h1).1
 simp only [Array.getD_eq_getD_getElem?, Array.getElem?_append, List.size_toArray, if_pos hlt]
 simp [h1]
section
variable {fn : Func} {R : Ending → World → Prop}
theorem qvv (h : bodyPost P fn R .ret a w) : bodyM P fn R .ret a w := by
 obtain ⟨hd, v, hr, hR⟩ := h
 show LeavesInM Fence.wide 0 P fn a.tmps R a.defers .returning w
 rw [hd]
 exact ⟨v, hr, hR⟩
theorem qjp {B : Nat} (HF : Fr a n [{ target := .collected B, args := #[] }] σ) (HM : Mem W w fs) (hi : fs[i]? = some (.obj B (.deferred (some [])))) (h : ∀ (a' : Act) (w' : World), Fr a' n [] σ → Mem W w' (fs.set i (.obj B (.deferred none))) → bodyPost P fn R .ret a' w') : bodyM P fn R .ret a w := by
 obtain ⟨_, v, hr, hR⟩ := h { tmps := a.tmps, defers := [] } _ ⟨HF.size, rfl, HF.slot⟩ (HM.setObj hi (.deferred none))
 show LeavesInM Fence.wide 0 P fn a.tmps R a.defers .returning w
 rw [HF.defers]
 exact ⟨fun h => (nomatch h), .inl ⟨B, _, rfl, run_takeDeferred (HM.objAt hi), v, hr, hR⟩⟩
theorem ret0 (hr : fn.results = #[]) (HF : Fr a n [] σ) (hR : R (.returned (.tuple #[])) w) : bodyPost P fn R .ret a w :=
 bodyPost_ret (v := .tuple #[]) (by
  rw [qc5, hr]
  simp) HF.defers hR
theorem norm0 (hr : fn.results = #[]) (HF : Fr a n [] σ) (hR : R (.returned (.tuple #[])) w) : bodyPost P fn R .normal a w := ret0 hr HF hR
end
end
theorem Yl.str {S : World → Prop} {σ : List (Nat × Value)} {o : Oper} {x : Operand} {A : Option Addr} {n c : Nat} {l : List Nat} (hop : o.op = .convert 54 9 x) (hx : look σ x = some (.slice A n c)) (hr : ∀ w, S w → Rd w w.heap.size 1 A n (l.map B8)) : Yl Tryd.prog S σ o (.string (bstr l)) := fun a m D HF w hS => by
 unfold execOp
 simp [hop, HF.eval hx, qwg (hr w hS)]
theorem qf9 (l : List Nat) : ∀ u ∈ l.map B8, u.oneCell' = true := by
 intro u hu
 obtain ⟨x, _, rfl⟩ := List.mem_map.1 hu
 rfl
theorem Rd.qn7 {w : World} {B n k cap : Nat} {A : Option Addr} {l : List Nat} (h : Rd w B 1 A n (l.map B8)) (hk : k ≤ n) (hc : n ≤ cap) : Rd w B 1 (if cap = k then A else A.map (·.add (k * 1))) (n - k) ((l.drop k).map B8) := by
 have h1 := h.from hk hc
 rw [List.map_drop]
 have e : (l.map B8).drop (k * 1) = (l.map B8).drop k := by rw [Nat.mul_one]
 rw [← e]
 exact h1
theorem Laid.mem {B : Nat} {W w : World} {fs : List Fact} (h : Laid B W) (hM : Mem W w fs) (hB : B ≤ W.heap.size) : Laid B w := h.below hM.below hB
theorem Mem.le {W w : World} {fs : List Fact} (h : Mem W w fs) {B : Nat} (hB : B ≤ W.heap.size) : B ≤ w.heap.size := Nat.le_trans hB h.size
theorem qg0 {x : Int} (h : -9223372036854775808 ≤ x ∧ x ≤ 9223372036854775807) : Value.int .i64 (IntKind.i64.wrap x) = .int .i64 x := by rw [IntWalk.i64_in x h]
def qa6 (w : World) (er : Nat) (R : List Nat) (r : Ending) (w' : World) : Prop :=
 (∃ A c, r = .returned (.tuple #[.slice A R.length c, .int .i64 (er : Int)]) ∧ w'.ownsRow w.heap.size 5 1 (.slice A R.length c) R.length (R.map B8) ∧ R.length ≤ c) ∧ Below w.heap.size w w'
theorem BytesPost.is {w w' : World} {r : Ending} {er er' : Nat} {R R' : List Nat} (h : BytesPost w er R r w') (h1 : er = er') (h2 : R = R') : qa6 w er' R' r w' := by
 subst h1; subst h2
 obtain ⟨⟨v, rfl, ho⟩, hb⟩ := h
 obtain ⟨A, c, rfl, hc⟩ := qdk ho
 exact ⟨⟨A, c, rfl, ho, hc⟩, hb⟩
theorem qtt (b : Bs) (A : Option Addr) (n c : Nat) (l : List Ev) (hok : ∀ e ∈ l, e.Ok) (B : Nat) (w : World) (hL : Laid B w) (hB : B ≤ w.heap.size) (hr : Rd w w.heap.size 11 A n (l.flatMap evL)) (hn : n ≤ 1000000000000) {er : Nat} {R : List Nat} (h1 : ze b l = er) (h2 : zj b l = R) :
  Calls Tryd.prog 64 #[.agg b.cells, .slice A n c] w (qa6 w er R) :=
 (qqc b A n c l hok B w hL hB hr hn).mono fun _ _ h => h.is h1 h2
section
variable {P : Program} {S : World → Prop} {σ : List (Nat × Value)} {o : Oper} {t e : TypeId} {z : Value} {size bytes : Nat}
theorem Yl.sliceFrom (ei : EI P t e z size bytes) {x lo : Operand} {A : Option Addr} {m c j : Nat} {k : IntKind} (hop : o.op = .slice t x (some lo) none none) (hx : look σ x = some (.slice A m c)) (hl : look σ lo = some (.int k (j : Int))) (hj : j ≤ m) :
  Yl P S σ o (.slice (if c = j then A else A.map (·.add (j * size))) (m - j) (c - j)) := fun a n D HF w hS => by
 unfold execOp
 simp only [hop, HF.eval hx, HF.eval hl, Option.map_some, Option.map_none, Sem.run_bind, Sem.run_pure, qeb (P := P) ei hj, Result.andThen_ok]
theorem Yl.qbq (ei : EI P t e z size bytes) {x hi : Operand} {A : Option Addr} {m c j : Nat} {k : IntKind} (hop : o.op = .slice t x none (some hi) none) (hx : look σ x = some (.slice A m c)) (hl : look σ hi = some (.int k (j : Int))) (hj : j ≤ c) :
  Yl P S σ o (.slice A j c) := fun a n D HF w hS => by
 unfold execOp
 simp only [hop, HF.eval hx, HF.eval hl, Option.map_some, Option.map_none, Sem.run_bind, Sem.run_pure, qht (P := P) ei hj, Result.andThen_ok]
end
section
variable {P : Program} {S : World → Prop} {σ : List (Nat × Value)} {o : Oper}
def placesOf (P : Program) : List Field → Option (List (Nat × Nat))
 | [] => some []
 | f :: r => match P.info? f.type, placesOf P r with
  | some i, some l => some ((f.offset, i.size) :: l)
  | _, _ => none
theorem qga : ∀ {fs : List Field} {l : List (Nat × Nat)}, placesOf P fs = some l → ∀ w, (fs.mapM fun f => (do pure (f.offset, ← sizeOf f.type) : Sem (Nat × Nat))).run P w = .ok l w
 | [], l, h, w => by cases h; rfl
 | f :: r, l, h, w => by
  unfold placesOf at h
  split at h
  ·rename_i i l' hi hr
   injection h with h
   subst h
   simp [List.mapM_cons, sizeOf, typeInfo, hi]
   have := qga hr w
   simp [sizeOf, typeInfo] at this
   simp [this]
  ·cases h
def qh9 (P : Program) (t : TypeId) (vs : List (Nat × Value)) : Option (Array Value) := match P.underlying t, qb0 P t with
 | some (.struct fs), some z => match placesOf P fs.toList with
  | some l => Instr.fill (l.toArray[·]?) z vs
  | none => none
 | _, _ => none
theorem Yl.build {t : TypeId} {ps : Array (Nat × Operand)} {vs : List (Nat × Value)} {cs : Array Value} (hop : o.op = .build t ps) (hv : qdz σ ps.toList = some vs) (hb : qh9 P t vs = some cs) : Yl P S σ o (.agg cs) := fun a n D HF w hS => by
 have hpm := qf8 HF hv
 have e1 : (Instr.build t (ps.map fun p => (p.1, a.eval p.2))).run P w = .ok (.agg cs) w := by
  rw [hpm]
  unfold qh9 at hb
  split at hb
  ·rename_i fs z hu hz
   split at hb
   ·rename_i l hl
    unfold qb0 at hz
    obtain ⟨zv, hz1, rfl⟩ := Option.map_eq_some_iff.1 hz
    obtain ⟨i, hi, hz2⟩ := Option.bind_eq_some_iff.1 hz1
    have hm : (fs.mapM fun f => (do Pure.pure (f.offset, ← sizeOf f.type) : Sem (Nat × Nat))).run P w = .ok l.toArray w := by
     rw [← Array.toArray_toList (xs := fs), List.mapM_toArray]
     simp only [Sem.run_map, qga hl]
     rfl
    unfold Instr.build
    simp only [Sem.run_bind, zeroValue, typeInfo, program, Sem.run, hi, hz2, Sem.run_pure, Result.andThen_ok, run_underlying hu, hm, hb]
   ·cases hb
  ·cases hb
 unfold execOp
 simp only [hop, Sem.run_bind, Sem.run_pure]
 show ((Instr.build t (ps.map fun p => (p.1, a.eval p.2))).run P w).andThen _ = _
 rw [e1]
 rfl
end
theorem qbj {w : World} {base : Nat} {e : TypeId} {size n c : Nat} {A : Option Addr} {xs : List Value} (h : w.ownsRow base e size (.slice A n c) n xs) (hn : 0 < n) : ∃ g, A = some ⟨g, 0, none⟩ := by
 obtain ⟨g, c', h1, _⟩ := qx2 h hn
 injection h1 with h1 _ _
 exact ⟨g, h1⟩
theorem Mem.qff {W w : World} {fs : List Fact} (h : Mem W w fs) {α : Type} {f : α → List Value} {sz : Nat} (hf : ∀ x, (f x).length = sz) {i g m c : Nat} {e : TypeId} {l : List α} (hi : fs[i]? = some (.row (.slice (some ⟨g, 0, none⟩) m c) m (l.flatMap f) e sz)) {k : Nat} {x : α} (hk : l[k]? = some x) : w.rangeAt g (k * sz) (f x) :=
 h.qjx hi (k * sz) fun j u hu => by
  obtain ⟨hl, he⟩ := List.getElem?_eq_some_iff.1 hk
  have hj : j < sz := by have := (List.getElem?_eq_some_iff.1 hu).1; rwa [hf] at this
  rw [qfi f sz hf l k j hl hj, he]
  exact hu
theorem qvk (A : Option Addr) (n c : Nat) (l : List Ev) (hok : ∀ e ∈ l, e.Ok) (B : Nat) (w : World) (hL : Laid B w) (hB : B ≤ w.heap.size) (hr : Rd w w.heap.size 11 A n (l.flatMap evL)) (hn : n ≤ 140737488355328) {i : Int} {er : Nat} (h : rowR l = (i, er)) :
  Calls Tryd.prog 55 #[.slice A n c] w fun r w' => r = .returned (.tuple #[.int .i64 i, .int .i64 (er : Int)]) ∧ Below w.heap.size w w' :=
 (qfk A n c l hok B w hL hB hr hn).mono fun _ _ p => ⟨by rw [p.ret, h], p.below⟩
theorem qwn (b : Bs) (e : Ev) (he : e.Ok) (B : Nat) (w : World) (hL : Laid B w) (hB : B ≤ w.heap.size) {L er : Nat} (h1 : (qb1 b e).length = L) (h2 : qah b e = er) :
  Calls Tryd.prog 58 #[.agg b.cells, .agg e.cells] w fun r w' => r = .returned (.tuple #[.int .i64 (L : Int), .int .i64 (er : Int)]) ∧ Below w.heap.size w w' :=
 (qtl b e he B w hL hB).mono fun _ _ p => ⟨by rw [p.1, h1, h2], p.2⟩
theorem qwo (b : Bs) (cpu : Nat) (hcpu : cpu < 256) (A : Option Addr) (n c : Nat) (m : Int) (hm : I64 m) (l : List Nat) (B : Nat) (w : World) (hL : Laid B w) (hB : B ≤ w.heap.size) (hr : Rd w w.heap.size 1 A n (l.map B8)) (hc : n ≤ c) (hl : ∀ b ∈ l, b < 256) (hn : n ≤ 200000000000000) (hlim : qqe m l) {es : List Ev} {L er : Nat} (h : readR b cpu m l = (es, L, er)) :
  Calls Tryd.prog 84 #[.agg b.cells, .int .u8 (cpu : Int), .int .i64 m, .slice A n c] w fun r w' => (∃ A c, r = .returned (.tuple #[.slice A es.length c, .int .i64 (L : Int), .int .i64 (er : Int)]) ∧ w'.ownsRow w.heap.size 45 11 (.slice A es.length c) es.length (es.flatMap evL) ∧ es.length ≤ c) ∧ Below w.heap.size w w' :=
 (qqf b cpu hcpu A n c m hm l B w hL hB hr hc hl hn hlim).mono fun r w' p => by
  rw [h] at p
  obtain ⟨⟨v, rfl, ho⟩, hb⟩ := p
  obtain ⟨A, c, rfl, hc⟩ := qdk ho
  exact ⟨⟨A, c, rfl, ho, hc⟩, hb⟩
section
variable {P : Program} {S : World → Prop} {σ : List (Nat × Value)} {o : Oper} {v : Value}
def qfr (P : Program) (t : TypeId) : Bool := match P.underlying t with
 | some (.func _ _ _) => true
 | _ => false
theorem qoj {t : TypeId} {f : Fn} {xs ys : Array Value} (ht : qfr P t = true) (w : World) : (Op.equal t (.func f xs ys) .nilFunc).run P w = .ok false w := by
 unfold qfr at ht
 split at ht
 ·rename_i hu
  show (Op.equalIn (9999 + 1) t (.func f xs ys) .nilFunc).run P w = _
  unfold Op.equalIn
  simp only [Sem.run_bind, run_underlying hu, Result.andThen_ok]
  rfl
 ·cases ht
theorem qqu {t : TypeId} (ht : qfr P t = true) (w : World) : (Op.equal t .nilFunc .nilFunc).run P w = .ok true w := by
 unfold qfr at ht
 split at ht
 ·rename_i hu
  show (Op.equalIn (9999 + 1) t .nilFunc .nilFunc).run P w = _
  unfold Op.equalIn
  simp only [Sem.run_bind, run_underlying hu, Result.andThen_ok]
  rfl
 ·cases ht
theorem Yl.qta {t u : TypeId} {x y : Operand} {f : Fn} {xs ys : Array Value} (hop : o.op = .binOp .neq t x y u) (hx : look σ x = some (.func f xs ys)) (hy : look σ y = some .nilFunc) (ht : qfr P t = true) : Yl P S σ o (.bool true) := fun a n D HF w hS => by
 unfold execOp
 have e : (binOp .neq t (.func f xs ys) .nilFunc).run P w = .ok (.bool true) w := by
  show ((do Pure.pure (.bool (!(← Op.equal t (.func f xs ys) .nilFunc))) : Sem Value)).run P w = _
  simp [qoj ht]
 simp only [hop, HF.eval hx, HF.eval hy, Sem.run_bind, qaj (P := P) .neq t x y (a := .func f xs ys) rfl, Result.andThen_ok, e, Sem.run_pure]
theorem Yl.qyp {t u : TypeId} {x y : Operand} (hop : o.op = .binOp .neq t x y u) (hx : look σ x = some .nilFunc) (hy : look σ y = some .nilFunc) (ht : qfr P t = true) : Yl P S σ o (.bool false) := fun a n D HF w hS => by
 unfold execOp
 have e : (binOp .neq t .nilFunc .nilFunc).run P w = .ok (.bool false) w := by
  show ((do Pure.pure (.bool (!(← Op.equal t .nilFunc .nilFunc))) : Sem Value)).run P w = _
  simp [qqu ht]
 simp only [hop, HF.eval hx, HF.eval hy, Sem.run_bind, qaj (P := P) .neq t x y (a := .nilFunc) rfl, Result.andThen_ok, e, Sem.run_pure]
theorem Yl.qyq {t : TypeId} {x : Operand} {m : Nat} (hop : o.op = .unOp .xor t x) (hx : look σ x = some (.int .u32 (m : Int))) (hm : m < 4294967296) : Yl P S σ o (.int .u32 ((m ^^^ 4294967295 : Nat) : Int)) := fun a n D HF w hS => by
 have h1 := qjc (m := 4294967295) (n := m) (by decide) hm
 rw [Nat.xor_comm] at h1
 unfold execOp
 simp only [hop, HF.eval hx, Op.unary]
 rw [← h1]
 rfl
def qqv (P : Program) (t : TypeId) : Option (Nat × Nat) := match P.underlying t with
 | some (.array n e) => (P.info? e).map fun i => (n, i.size)
 | _ => none
theorem Yl.zz {t : TypeId} {x ix : Operand} {ad : Addr} {m y sz : Nat} {k : IntKind} (hop : o.op = .indexAddr t x ix) (hx : look σ x = some (.pointer (some ad))) (hi : look σ ix = some (.int k (y : Int))) (he : qqv P t = some (m, sz)) (hy : y < m) : Yl P S σ o (.pointer (some (ad.add (y * sz)))) := fun a n D HF w hS => by
 unfold qqv at he
 split at he
 ·rename_i m' e hu
  obtain ⟨i, hi', he⟩ := Option.map_eq_some_iff.1 he
  injection he with h1 h2
  subst h1; subst h2
  unfold execOp
  simp [hop, HF.eval hx, HF.eval hi, Instr.indexAt, asIntOf, run_underlying hu, hy, sizeOf, typeInfo, hi', Instr.sureAddr]
 ·cases he
theorem Yl.qlz {t e : TypeId} {z : Value} {size bytes : Nat} (ei : EI P t e z size bytes) {x lo hi : Operand} {A : Option Addr} {m c i j : Nat} {k k' : IntKind} (hop : o.op = .slice t x (some lo) (some hi) none) (hx : look σ x = some (.slice A m c)) (hl : look σ lo = some (.int k (i : Int))) (hh : look σ hi = some (.int k' (j : Int))) (hij : i ≤ j) (hj : j ≤ c) :
  Yl P S σ o (.slice (if c = i then A else A.map (·.add (i * size))) (j - i) (c - i)) := fun a n D HF w hS => by
 obtain ⟨inf, hinf, _, hs, _⟩ := info_parts ei.hi
 have hi' : i ≤ c := Nat.le_trans hij hj
 have e1 : (Instr.sliceAt t (.slice A m c) (some (.int k (i : Int))) (some (.int k' (j : Int))) none).run P w = .ok (.slice (if c = i then A else A.map (·.add (i * size))) (j - i) (c - i)) w := by
  subst hs
  simp [Instr.sliceAt, run_underlying ei.ht, Instr.slice, Instr.sliceBounds, Instr.sliceBound, asIntOf, hij, hj, sizeOf, typeInfo, hinf]
 unfold execOp
 simp only [hop, HF.eval hx, HF.eval hl, HF.eval hh, Option.map_some, Option.map_none, Sem.run_bind, e1, Result.andThen_ok]
 rfl
def qvl (P : Program) (t : TypeId) : Option Nat := match P.underlying t with
 | some (.array n _) => some n
 | _ => none
theorem Yl.arrayAt {t : TypeId} {x : Operand} {A : Option Addr} {m c k : Nat} (hop : o.op = .sliceToArrayPointer t x) (hx : look σ x = some (.slice A m c)) (ht : qvl P t = some k) (hk : k ≤ m) : Yl P S σ o (.pointer A) := fun a n D HF w hS => by
 unfold qvl at ht
 split at ht
 ·rename_i m' e hu
  injection ht with ht; subst ht
  unfold execOp
  simp [hop, HF.eval hx, Instr.arrayAt, run_underlying hu, Nat.not_lt.2 hk]
 ·cases ht
end
theorem Rd.mid {w : World} {B size n c i j : Nat} {A : Option Addr} {xs : List Value} (h : Rd w B size A n xs) (hij : i ≤ j) (hj : j ≤ n) (hc : n ≤ c) :
  Rd w B size (if c = i then A else A.map (·.add (i * size))) (j - i) ((xs.take (j * size)).drop (i * size)) := by
 have h1 := h.from (k := i) (cap := c) (by omega) hc
 have h2 := h1.upto (k := j - i) (by omega)
 rw [List.drop_take, ← Nat.sub_mul]
 exact h2
theorem Rd.ql0 {w : World} {B n c i j : Nat} {A : Option Addr} {l : List Nat} (h : Rd w B 1 A n (l.map B8)) (hij : i ≤ j) (hj : j ≤ n) (hc : n ≤ c) :
  Rd w B 1 (if c = i then A else A.map (·.add (i * 1))) (j - i) (((l.take j).drop i).map B8) := by
 have h1 := h.mid hij hj hc
 rw [Nat.mul_one, Nat.mul_one, ← List.map_take, ← List.map_drop] at h1
 rw [Nat.mul_one]
 exact h1
section
variable {W w : World} {fs : List Fact}
theorem Mem.oldBlk (h : Mem W w fs) {g : Nat} {ob : Obj} (hb : W.heap[g]? = some ob) : w.heap[g]? = some ob := (h.below.block g (zh hb)).trans hb
theorem Mem.zd (h : Mem W w fs) {g off : Nat} {cs : Array Value} {t : TypeId} {v : Value} (hb : W.heap[g]? = some (.cells cs t (0, 0))) (hc : cs[off]? = some v) : w.cell? ⟨g, off, none⟩ = some v := by
 simp [World.cell?, h.oldBlk hb, hc]
end
section
variable {P : Program} {Q : Exit → Act → World → Prop} {a : Act} {W w : World} {n d : Nat} {D : List Deferred} {σ : List (Nat × Value)} {o : Oper} {K : Act → World → Prop} {fs : List Fact} {S : World → Prop}
theorem Yl.cap {x : Operand} {t : TypeId} {A : Option Addr} {m c : Nat} (hop : o.op = .call { callee := .builtin .cap, args := #[x], argTypes := #[t] }) (hx : look σ x = some (.slice A m c)) (ht : isSl P t = true) : Yl P S σ o (.int .i64 (c : Int)) := fun a n D HF w hS => by
 unfold isSl at ht
 split at ht
 ·rename_i e hu
  unfold execOp
  simp [hop, resolve, invoke, builtin, HF.eval hx, Builtin.cap_, run_underlying hu, goInt]
 ·cases ht
theorem qjd (HF : Fr a n D σ) (HM : Mem W w fs) {s x : Operand} {t tn e : TypeId} {z : Value} {size bytes m : Nat} {kn k : IntKind} (hop : o.op = .call { callee := .builtin .append, args := #[s, x], argTypes := #[t, tn] }) (ei : EI P t e z size bytes) (htn : P.underlying tn = some (.int kn))
  (hs : look σ s = some (.slice none 0 0)) (hx : look σ x = some (.int k (m : Int))) (h0 : 0 < m) (h63 : m ≤ 4611686018427387904) (hb : m * bytes ≤ 281474976710656)
  (hd : o.dst = some d) (hdn : d < n) (kk : ∀ a' w' g c', Fr a' n D ((d, .slice (some ⟨g, 0, none⟩) m c') :: σ) → Mem W w' (.row (.slice (some ⟨g, 0, none⟩) m c') m (Builtin.zeroCells z.cells m).toList e size :: fs) → m ≤ c' → K a' w') : o.wp P a w K Q := by
 obtain ⟨i, hi, hz, hsz, hby⟩ := info_parts ei.hi
 have hr := Lib.run_append_nil_zeros (P := P) w t tn o.type e i z k kn ei.ht htn hi hz m h0 (by rw [hsz]; exact ei.hs) (by omega) (by rw [hby]; exact hb)
 have h1 : m ≤ grownCap w m 0 e := grownCap_ge w m 0 e
 have h2 : grownCap w m 0 e ≤ maxLen := grownCap_le_maxLen w m 0 e (by unfold maxLen; omega)
 have hzl : (Builtin.zeroCells z.cells m).size = m * size := by rw [size_zeroCells, ei.hz]
 have hown : (w.drew.alloc (.cells (Builtin.zeroCells z.cells m ++ Builtin.zeroCells z.cells (grownCap w m 0 e - m)) e)).ownsRow w.heap.size e size (.slice (some ⟨w.heap.size, 0, none⟩) m (grownCap w m 0 e)) m (Builtin.zeroCells z.cells m).toList := by
  refine ⟨by simpa using hzl, .inr ⟨w.heap.size, _, _, rfl, Nat.le_refl _, World.alloc_heap_new w.drew _, h1, h2, ?_, ?_⟩⟩
  ·rw [Array.size_append, hzl, size_zeroCells, ei.hz, ← Nat.add_mul]
   congr 1
   omega
  ·rw [Array.toList_append, ← hzl, ← Array.length_toList]
   exact List.take_left
 unfold Oper.wp execOp
 simp only [hop, resolve, invoke, builtin, Sem.run_bind, Sem.run_pure, Result.andThen_ok, List.map_toArray, List.map_cons, List.map_nil, HF.eval hs, HF.eval hx, hr]
 rw [Oper.upon_value, hd]
 exact kk _ _ w.heap.size _ (HF.put hdn _) (HM.callRow ((Below.refl _ _).drew.alloc (by simp) _) hown) h1
theorem Mem.shrink (h : Mem W w fs) {i m k c size : Nat} {A : Option Addr} {e : TypeId} {xs : List Value} (hi : fs[i]? = some (.row (.slice A m c) m xs e size)) (hk : k ≤ m) (hA : A = none → k = 0 ∧ c = 0) : Mem W w (fs.set i (.row (.slice A k c) k (xs.take (k * size)) e size)) := by
 have ho := h.own hi
 refine h.turn hi h.below (fun _ _ _ => rfl) ?_ (fun g' hg' => .inl (by cases A <;> exact hg'))
 refine ⟨by rw [List.length_take, ho.1]; exact Nat.min_eq_left (Nat.mul_le_mul_right _ hk), ?_⟩
 rcases ho.2 with ⟨h1, h2⟩ | ⟨g, cap, cur, h1, h2, h3, h4, h5, h6, h7⟩
 ·injection h1 with h1 _ _
  obtain ⟨rfl, rfl⟩ := hA h1
  subst h1
  exact .inl ⟨rfl, rfl⟩
 ·injection h1 with h1 _ h8
  subst h1; subst h8
  refine .inr ⟨g, c, cur, rfl, h2, h3, by omega, h5, h6, ?_⟩
  rw [← h7, List.take_take, Nat.min_eq_left (Nat.mul_le_mul_right _ hk)]
end
theorem qvm {m n j : Nat} (hm : m < 2 ^ j) : m ||| n * 2 ^ j = m + n * 2 ^ j := by
 have := Nat.two_pow_add_eq_or_of_lt hm n
 rw [Nat.or_comm, Nat.mul_comm n, ← this, Nat.add_comm]
theorem qje {m n j p : Nat} (hp : 2 ^ j = p) (hm : m < p) (hb : m + n * p < 4294967296) : Value.int .u32 (Go.IntKind.u32.wrap (BitVec.ofInt Go.IntKind.u32.bits (m : Int) ||| BitVec.ofInt Go.IntKind.u32.bits ((n * p : Nat) : Int)).toNat) = .int .u32 ((m + n * p : Nat) : Int) := by
 subst hp
 have h := qx3 (m := m) (n := n * 2 ^ j) (by omega) (by omega)
 rw [qvm hm] at h
 exact h
theorem qtu {m n j p : Nat} (hp : 2 ^ j = p) (hm : n < p) (hb : m * p + n < 9223372036854775808) : Value.int .i64 (Go.IntKind.i64.wrap (BitVec.ofInt Go.IntKind.i64.bits ((m * p : Nat) : Int) ||| BitVec.ofInt Go.IntKind.i64.bits (n : Int)).toNat) = .int .i64 ((m * p + n : Nat) : Int) := by
 subst hp
 have h := qx5 (m := m * 2 ^ j) (n := n) (by omega) (by omega)
 rw [Nat.or_comm, qvm hm, Nat.add_comm] at h
 exact h
structure Part where
 A : Option Addr
 c : Nat
 l : List Nat
def Part.val (p : Part) : Value := .slice p.A p.l.length p.c
theorem qcp {l : List Part} {k : Nat} {d : Part} (h : k < l.length) : (l.take (k + 1)).flatMap (·.l) = (l.take k).flatMap (·.l) ++ (l.getD k d).l := by
 rw [List.take_add_one, getD_at d h]; simp
theorem qe0 {l : List Part} (k : Nat) : ((l.take k).flatMap (·.l)).length ≤ (l.flatMap (·.l)).length := by
 conv => rhs; rw [← List.take_append_drop k l]
 rw [List.flatMap_append, List.length_append]
 omega
set_option linter.all false
def qrl (P : Program) (t : TypeId) : Bool := match P.underlying t with
 | some (.array n e) => n == 2 && (P.cellsOf e == 1 && (isOne P e && match P.underlying e with
  | some (.int _) => true
  | _ => false))
 | _ => false
theorem qud {P : Program} {t : TypeId} (ht : qrl P t = true) {k : Go.IntKind} (a b c d : Int) (w : World) :
  (Op.equal t (.agg #[.int k a, .int k b]) (.agg #[.int k c, .int k d])).run P w = .ok (a == c && b == d) w := by
 unfold qrl at ht
 split at ht
 ·rename_i n e hu
  simp only [Bool.and_eq_true, beq_iff_eq] at ht
  obtain ⟨h1, h2, h3, h4⟩ := ht
  subst h1
  split at h4
  ·rename_i k' hk
   obtain ⟨i, hi⟩ := info_of_underlying hk
   show (Op.equalIn (9999 + 1) t _ _).run P w = _
   rw [run_equalIn_array w 9999 _ _ hu hi, h2]
   have hp : ∀ (xs : Array Value) (j : Nat) (v : Value), xs[j]? = some v → (part e xs j).run P w = .ok v w := fun xs j v h => by
    unfold part
    simp [qex h3, h]
   have he : ∀ x y, (Op.equalIn 9999 e (.int k x) (.int k y)).run P w = .ok (x == y) w := fun x y => run_equalIn_int w 9998 e k k' x y hk
   show (Op.eqItems 9999 e 1 _ _ [0, 1]).run P w = _
   have p1 : (part e #[.int k a, .int k b] 0).run P w = .ok (.int k a) w := hp _ _ _ rfl
   have p2 : (part e #[.int k c, .int k d] 0).run P w = .ok (.int k c) w := hp _ _ _ rfl
   have p3 : (part e #[.int k a, .int k b] 1).run P w = .ok (.int k b) w := hp _ _ _ rfl
   have p4 : (part e #[.int k c, .int k d] 1).run P w = .ok (.int k d) w := hp _ _ _ rfl
   have q1 := he a c
   have q2 := he b d
   generalize (9999 : Nat) = dd at q1 q2 ⊢
   simp only [Op.eqItems, Sem.run_bind, Nat.zero_mul, Nat.one_mul, p1, p2, q1, Result.andThen_ok]
   cases h5 : (a == c) <;> cases h6 : (b == d) <;> simp [p3, p4, q2, h6]
  ·cases h4
 ·cases ht
section
variable {P : Program} {S : World → Prop} {σ : List (Nat × Value)} {o : Oper}
theorem qkz {t : TypeId} (hg : P.eqGuardType P.depth t = false) (op : BinOp) (x y : Operand) (a b : Array Value) (w : World) : (eqGuard op t x y (.agg a) (.agg b)).run P w = .ok () w := by
 unfold eqGuard
 cases op <;> simp <;> simp [hg]
theorem Yl.qxj {t u : TypeId} {p q : Operand} {k : Go.IntKind} {a b c d : Int} (hop : o.op = .binOp .neq t p q u) (hx : look σ p = some (.agg #[.int k a, .int k b])) (hy : look σ q = some (.agg #[.int k c, .int k d])) (ht : qrl P t = true) (hg : P.eqGuardType P.depth t = false) : Yl P S σ o (.bool (!(a == c && b == d))) := fun ac n D HF w hS => by
 unfold execOp
 have e : (binOp .neq t (.agg #[.int k a, .int k b]) (.agg #[.int k c, .int k d])).run P w = .ok (.bool (!(a == c && b == d))) w := by
  show ((do Pure.pure (.bool (!(← Op.equal t (.agg #[.int k a, .int k b]) (.agg #[.int k c, .int k d])))) : Sem Value)).run P w = _
  simp [qud ht]
 simp only [hop, HF.eval hx, HF.eval hy, Sem.run_bind, qkz hg, Result.andThen_ok, e, Sem.run_pure]
end
theorem qyd {w : World} {B n g o k : Nat} {l : List Nat} (h : Rd w B 1 (some ⟨g, o, none⟩) n (l.map B8)) (hk : k + 2 ≤ l.length) : w.rangeAt g (o + k) (#[B8 (l.getD k 0), B8 (l.getD (k + 1) 0)] : Array Value).toList := fun j v hv => by
 have hr := h.range
 rw [Nat.add_assoc]
 refine hr (k + j) v ?_
 rcases j with _ | _ | j
 ·simp at hv
  rw [Nat.add_zero, ← hv]
  exact qab (getD_at 0 (by omega))
 ·simp at hv
  rw [← hv]
  exact qab (getD_at 0 (by omega))
 ·simp at hv
section
variable {P : Program} {S : World → Prop} {σ : List (Nat × Value)} {o : Oper}
theorem Yl.remN {t u : TypeId} {x y : Operand} {k : Go.IntKind} {m n : Nat} (hop : o.op = .binOp .rem t x y u) (hx : look σ x = some (.int k (m : Int))) (hy : look σ y = some (.int k (n : Int))) (hn : 0 < n) : Yl P S σ o (.int k ((m % n : Nat) : Int)) := fun a N D HF w hS => by
 have hb : qke .rem (.int k (m : Int)) (.int k (n : Int)) = some (.int k ((m % n : Nat) : Int)) := by
  show (if k = k then qql .rem k (m : Int) (n : Int) else none) = _
  rw [if_pos rfl]
  show (if (n : Int) = 0 then none else some (Value.int k ((m : Int).tmod (n : Int)))) = _
  rw [if_neg (by omega)]
  exact congrArg some (qao k m n)
 unfold execOp
 simp [hop, HF.eval hx, HF.eval hy, qaj (P := P) .rem t x y (a := .int k (m : Int)) rfl, qdy hb t]
theorem Yl.shlN {t u : TypeId} {x y : Operand} {k k' : Go.IntKind} {m n : Nat} (hop : o.op = .binOp .shl t x y u) (hx : look σ x = some (.int k (m : Int))) (hy : look σ y = some (.int k' (n : Int))) (hn : n ≤ k.bits) (hm : m * 2 ^ n ≤ mostN k) : Yl P S σ o (.int k ((m * 2 ^ n : Nat) : Int)) := fun a N D HF w hS => by
 have hb : qke .shl (.int k (m : Int)) (.int k' (n : Int)) = some (.int k ((m * 2 ^ n : Nat) : Int)) := by
  show (if (n : Int) < 0 then none else some (Value.int k (k.wrap ((m : Int) * 2 ^ (Min.min (n : Int).toNat k.bits))))) = _
  rw [if_neg (by omega)]
  have e : (m : Int) * 2 ^ (Min.min (n : Int).toNat k.bits) = ((m * 2 ^ n : Nat) : Int) := by rw [Int.toNat_natCast, Nat.min_eq_left hn]; norm_cast
  rw [e, qca k hm]
 unfold execOp
 simp [hop, HF.eval hx, HF.eval hy, qaj (P := P) .shl t x y (a := .int k (m : Int)) rfl, qdy hb t]
end
structure SmPost (x : Sm) (w : World) (r : Ending) (w' : World) : Prop where
 ret : r = .returned (.agg x.ev.cells)
 below : Below w.heap.size w w'
theorem qw6 (t : Nat) : Value.int .i64 (if (1 : Int) > (t : Int) then 1 else (t : Int)) = .int .i64 ((max t 1 : Nat) : Int) := by congr 1; split <;> omega
theorem pow64 {c : Nat} (hc : c < 64) : 2 ^ c < 18446744073709551616 := by
 have : (2 : Nat) ^ c < 2 ^ 64 := Nat.pow_lt_pow_right (by omega) hc
 omega
theorem qyh {m c : Nat} (hm : m < 18446744073709551616) (hc : c < 64) : Value.int .u64 (IntKind.u64.wrap (BitVec.ofInt IntKind.u64.bits (m : Int) ||| BitVec.ofInt IntKind.u64.bits ((2 ^ c : Nat) : Int)).toNat) = .int .u64 ((m ||| 2 ^ c : Nat) : Int) := qx4 (m := m) (n := 2 ^ c) hm (pow64 hc)
theorem quz {S : World → Prop} {σ : List (Nat × Value)} {o : Oper} {t u : TypeId} {x y : Operand} {k' : Go.IntKind} {c : Nat} (hop : o.op = .binOp .shl t x y u) (hx : look σ x = some (.int .u64 1)) (hy : look σ y = some (.int k' (c : Int))) (hc : c < 64) : Yl Tryd.prog S σ o (.int .u64 ((2 ^ c : Nat) : Int)) := by
 have h := Yl.shlN (P := Tryd.prog) (S := S) (σ := σ) (m := 1) (n := c) hop hx hy (by show c ≤ 64; omega) (by show 1 * 2 ^ c ≤ 18446744073709551615; have := pow64 hc; omega)
 rwa [Nat.one_mul] at h
theorem qsm (x : Sm) (h : x.Ok) (w : World) : Calls Tryd.prog 54 #[.agg x.cells] w (SmPost x w) := by
 refine qg (vs := [.agg x.cells]) Tryd.func54 rfl rfl (by kernel_rfl) (σ0 := [(0, .agg x.cells)]) rfl ?_
 intro a HF
 have HM := Mem.start w
 refine wp_seq (qa ?_)
 refine fo HF 0 rfl rfl ?_
 refine e_box HF HM (cs := x.cells) rfl rfl rfl rfl (by decide) ?_
 clear HF HM; intro a w1 g1 HF HM
 refine fo HF 1 rfl rfl ?_
 refine qr HF HM (cs := #[vI 0, vI 0, vB 0, vB 0, vI 0, vI 0, vI 0, vI 0, vI 0, vQ 0, vI 0]) rfl (by kernel_rfl) rfl (by decide) ?_
 clear HF HM; intro a w2 g2 HF HM
 refine qb rfl ?_
 obtain ⟨h1, h2, h3, h4, h5, h6, h7, h8, h9, h10, h11⟩ := h
 refine wp_seq (qa ?_)
 refine fp HF 1 0 [(7, vP g1 2)] fun a HF => ?_
 refine fy HF HM 1 rfl rfl rfl (v := vW x.seq) (Yl.qh rfl rfl (by kernel_rfl) (fun _ h => h.cell (i := 1) rfl (rfl))) fun a HF => ?_
 refine fp HF 1 2 [(9, vI (IntKind.i64.wrap (x.seq : Int)))] fun a HF => ?_
 replace HF := HF.sp 9 (vI x.seq) rfl (qi rfl (by omega))
 refine fp HF 1 3 [(10, vI (IntKind.i64.wrap (1 + (x.seq : Int))))] fun a HF => ?_
 replace HF := HF.sp 10 (vI (1 + x.seq : Nat)) rfl (qi (by omega) (by omega))
 refine fp HF 1 4 [(11, vP g1 3)] fun a HF => ?_
 refine fy HF HM 5 rfl rfl rfl (v := vW x.time) (Yl.qh rfl rfl (by kernel_rfl) (fun _ h => h.cell (i := 1) rfl (rfl))) fun a HF => ?_
 refine fp HF 1 6 [(13, vI (IntKind.i64.wrap (x.time : Int)))] fun a HF => ?_
 replace HF := HF.sp 13 (vI x.time) rfl (qi rfl (by omega))
 refine fp HF 1 7 [(14, vP g1 1)] fun a HF => ?_
 refine fy HF HM 8 rfl rfl rfl (v := vB x.cpu) (Yl.qh rfl rfl (by kernel_rfl) (fun _ h => h.cell (i := 1) rfl (rfl))) fun a HF => ?_
 refine fp HF 1 9 [(16, vB (Int.tmod (x.cpu : Int) 64))] fun a HF => ?_
 replace HF := HF.sp 16 (vB (x.cpu % 64 : Nat)) rfl (qao .u8 _ 64)
 refine fp HF 1 10 [(17, vP g1 0)] fun a HF => ?_
 refine fy HF HM 11 rfl rfl rfl (v := vB x.kind) (Yl.qh rfl rfl (by kernel_rfl) (fun _ h => h.cell (i := 1) rfl (rfl))) fun a HF => ?_
 refine fp HF 1 12 [(19, vB (Int.tmod (x.kind : Int) 10))] fun a HF => ?_
 replace HF := HF.sp 19 (vB (x.kind % 10 : Nat)) rfl (qao .u8 _ 10)
 refine fp HF 1 13 [(20, vB (IntKind.u8.wrap (1 + ((x.kind % 10 : Nat) : Int))))] fun a HF => ?_
 replace HF := HF.sp 20 (vB (1 + (x.kind % 10) : Nat)) rfl (qvj (by omega) (by omega))
 refine fy HF HM 14 rfl rfl rfl (v := .agg #[vI (1 + x.seq : Nat), vI x.time, vB (x.cpu % 64 : Nat), vB (1 + (x.kind % 10) : Nat), vI 0, vI 0, vI 0, vI 0, vI 0, vQ 0, vI 0]) (Yl.build (vs := [(0, vI (1 + x.seq : Nat)), (1, vI x.time), (2, vB (x.cpu % 64 : Nat)), (3, vB (1 + (x.kind % 10) : Nat))]) rfl (by kernel_rfl) (by kernel_rfl)) fun a HF => ?_
 refine fo HF 15 rfl rfl ?_
 refine qr HF HM (cs := #[vI 0, vI 0, vB 0, vB 0, vI 0, vI 0, vI 0, vI 0, vI 0, vQ 0, vI 0]) rfl (by kernel_rfl) rfl (by decide) ?_
 clear HF HM; intro a w3 g3 HF HM
 refine fo HF 16 rfl rfl ?_
 refine e_sa HF HM 0 rfl rfl rfl rfl rfl ⟨(by kernel_rfl), (by kernel_rfl)⟩ rfl rfl (by simp [Value.oneCell']) ?_
 clear HM; intro w1_16 HM
 refine qb rfl (wp_seq ?_)
 refine qaf HM [.blk g3 #[vI (1 + x.seq : Nat), vI x.time, vB (x.cpu % 64 : Nat), vB (1 + (x.kind % 10) : Nat), vI 0, vI 0, vI 0, vI 0, vI 0, vQ 0, vI 0] 45, .blk g2 #[vI 0, vI 0, vB 0, vB 0, vI 0, vI 0, vI 0, vI 0, vI 0, vQ 0, vI 0] 45, .blk g1 x.cells 124] [0, 1, 2] [] fun HM HS => ?_
 refine ap HF (fun _ => HS) [0, 5, 10] #[true, false, false, false, false, true, false, false, false, false, true, false, false, false, false, false, false, false] [(32, vP g1 9), (27, vP g1 7), (22, vP g1 4)] fun a HF => ?_
 refine ay HF HS 1 rfl rfl rfl (v := vW x.task) (Yl.qh rfl rfl (by kernel_rfl) (fun _ h => h.cell (i := 2) rfl (rfl))) fun a HF => ?_
 refine qp HF (fun _ => HS) (i := 2) rfl rfl (d := 24) rfl (by decide) (by kernel_rfl) (fun _ _ _ h => h) (v := vI (IntKind.i64.wrap (x.task : Int))) (fun _ => Yl.pure (by kernel_rfl)) fun a HF => ?_
 replace HF := HF.sp 24 (vI x.task) rfl (qi rfl (by omega))
 refine qp HF (fun _ => HS) (i := 3) rfl rfl (d := 25) rfl (by decide) (by kernel_rfl) (fun _ _ _ h => h) (v := vI (Int.tmod (x.task : Int) 65535)) (fun _ => Yl.pure (by kernel_rfl)) fun a HF => ?_
 replace HF := HF.sp 25 (vI (x.task % 65535 : Nat)) rfl (qao .i64 _ 65535)
 refine qp HF (fun _ => HS) (i := 4) rfl rfl (d := 26) rfl (by decide) (by kernel_rfl) (fun _ _ _ h => h) (v := vI (IntKind.i64.wrap (1 + ((x.task % 65535 : Nat) : Int)))) (fun _ => Yl.pure (by kernel_rfl)) fun a HF => ?_
 replace HF := HF.sp 26 (vI (1 + (x.task % 65535) : Nat)) rfl (qi (by omega) (by omega))
 refine ap HF (fun _ => HS) [15] #[true, true, true, true, true, true, false, false, false, false, true, false, false, false, false, true, false, false] [(4, vI (1 + (x.task % 65535) : Nat))] fun a HF => ?_
 refine ay HF HS 6 rfl rfl rfl (v := vW x.weight) (Yl.qh rfl rfl (by kernel_rfl) (fun _ h => h.cell (i := 2) rfl (rfl))) fun a HF => ?_
 refine qp HF (fun _ => HS) (i := 7) rfl rfl (d := 29) rfl (by decide) (by kernel_rfl) (fun _ _ _ h => h) (v := vI (IntKind.i64.wrap (x.weight : Int))) (fun _ => Yl.pure (by kernel_rfl)) fun a HF => ?_
 replace HF := HF.sp 29 (vI x.weight) rfl (qi rfl (by omega))
 refine qp HF (fun _ => HS) (i := 8) rfl rfl (d := 30) rfl (by decide) (by kernel_rfl) (fun _ _ _ h => h) (v := vI (Int.tmod (x.weight : Int) 65536)) (fun _ => Yl.pure (by kernel_rfl)) fun a HF => ?_
 replace HF := HF.sp 30 (vI (x.weight % 65536 : Nat)) rfl (qao .i64 _ 65536)
 refine qp HF (fun _ => HS) (i := 9) rfl rfl (d := 31) rfl (by decide) (by kernel_rfl) (fun _ _ _ h => h) (v := vI (IntKind.i64.wrap (1 + ((x.weight % 65536 : Nat) : Int)))) (fun _ => Yl.pure (by kernel_rfl)) fun a HF => ?_
 replace HF := HF.sp 31 (vI (1 + (x.weight % 65536) : Nat)) rfl (qi (by omega) (by omega))
 refine ap HF (fun _ => HS) [16] #[true, true, true, true, true, true, true, true, true, true, true, false, false, false, false, true, true, false] [(5, vI (1 + (x.weight % 65536) : Nat))] fun a HF => ?_
 refine ay HF HS 11 rfl rfl rfl (v := vW x.got) (Yl.qh rfl rfl (by kernel_rfl) (fun _ h => h.cell (i := 2) rfl (rfl))) fun a HF => ?_
 refine qp HF (fun _ => HS) (i := 12) rfl rfl (d := 34) rfl (by decide) (by kernel_rfl) (fun _ _ _ h => h) (v := vI (IntKind.i64.wrap (x.got : Int))) (fun _ => Yl.pure (by kernel_rfl)) fun a HF => ?_
 replace HF := HF.sp 34 (vI x.got) rfl (qi rfl (by omega))
 refine qp HF (fun _ => HS) (i := 13) rfl rfl (d := 35) rfl (by decide) (by kernel_rfl) (fun _ _ _ h => h) (v := vI (Int.tmod (x.got : Int) 65535)) (fun _ => Yl.pure (by kernel_rfl)) fun a HF => ?_
 replace HF := HF.sp 35 (vI (x.got % 65535 : Nat)) rfl (qao .i64 _ 65535)
 refine qp HF (fun _ => HS) (i := 14) rfl rfl (d := 36) rfl (by decide) (by kernel_rfl) (fun _ _ _ h => h) (v := vI (IntKind.i64.wrap (1 + ((x.got % 65535 : Nat) : Int)))) (fun _ => Yl.pure (by kernel_rfl)) fun a HF => ?_
 replace HF := HF.sp 36 (vI (1 + (x.got % 65535) : Nat)) rfl (qi (by omega) (by omega))
 refine ap HF (fun _ => HS) [17] #[true, true, true, true, true, true, true, true, true, true, true, true, true, true, true, true, true, true] [(6, vI (1 + (x.got % 65535) : Nat))] fun a HF => ?_
 refine qn (by kernel_rfl) ?_
 replace HF := HF.to [(6, vI (1 + (x.got % 65535) : Nat)), (5, vI (1 + (x.weight % 65536) : Nat)), (4, vI (1 + (x.task % 65535) : Nat)), (3, vP g3 0), (2, vP g2 0), (1, vP g1 0)]
 refine wp_seq (wp_seq (qa ?_))
 refine fp HF 1 0 [(37, vP g3 3)] fun a HF => ?_
 refine fy HF HM 1 rfl rfl rfl (Yl.qh rfl rfl (by kernel_rfl) (fun _ h => h.cell (i := 0) rfl rfl)) fun a HF => ?_
 refine qb rfl (wp_block (wp_seq (qa ?_)))
 refine fp HF 2 0 [(41, .bool (((1 + (x.kind % 10) : Nat) : Int) == (1 : Int)))] fun a HF => ?_
 refine qb rfl ?_
 rcases HF.tf 41 rfl with ⟨hb41, HF⟩ | ⟨hb41, HF⟩
 ·
  have hd41 := eq_of_beq hb41
  refine qf HF rfl ?_
  refine qaf HM [.blk g2 #[vI 0, vI 0, vB 0, vB 0, vI 0, vI 0, vI 0, vI 0, vI 0, vQ 0, vI 0] 45, .blk g1 x.cells 124] [1, 2] [19] fun HM HS => ?_
  refine ap HF (fun _ => HS) [0, 1, 5, 6, 8] #[true, true, false, false, false, true, true, false, true, false, false, false, false, false, false, false, false, false, false, false] [(51, vP g3 2), (49, vP g1 10), (48, vI (1 + (x.weight % 65536) : Nat)), (44, vP g1 5), (43, vI (1 + (x.task % 65535) : Nat))] fun a HF => ?_
  refine ay HF HS 2 rfl rfl rfl (v := vW x.group) (Yl.qh rfl rfl (by kernel_rfl) (fun _ h => h.cell (i := 1) rfl (rfl))) fun a HF => ?_
  refine qp HF (fun _ => HS) (i := 3) rfl rfl (d := 46) rfl (by decide) (by kernel_rfl) (fun _ _ _ h => h) (v := vI (IntKind.i64.wrap (x.group : Int))) (fun _ => Yl.pure (by kernel_rfl)) fun a HF => ?_
  replace HF := HF.sp 46 (vI x.group) rfl (qi rfl (by omega))
  refine qp HF (fun _ => HS) (i := 4) rfl rfl (d := 47) rfl (by decide) (by kernel_rfl) (fun _ _ _ h => h) (v := vI (Int.tmod (x.group : Int) 256)) (fun _ => Yl.pure (by kernel_rfl)) fun a HF => ?_
  replace HF := HF.sp 47 (vI (x.group % 256 : Nat)) rfl (qao .i64 _ 256)
  refine ay HF HS 7 rfl rfl rfl (v := vQ x.mask) (Yl.qh rfl rfl (by kernel_rfl) (fun _ h => h.cell (i := 1) rfl (rfl))) fun a HF => ?_
  refine qj [9] (by kernel_rfl) rfl ?_
  refine all_cons ?_ all_nil
  refine qm HF (i := 9) rfl rfl ?_
  refine Yl.wp (S := fun wS => Mem w wS _) (v := vB (x.cpu % 64 : Nat)) (Yl.qh rfl rfl (by kernel_rfl) (fun _ h => h.cell (i := 0) rfl rfl)) HF HM rfl (by decide) fun a HF => ?_
  refine keepS HS (fun HS => ?_)
  refine ap HF (fun _ => HS) [12] #[true, true, true, true, true, true, true, true, true, true, false, false, true, false, false, false, false, false, false, false] [(55, vP g3 4)] fun a HF => ?_
  refine ay HF HS 10 rfl rfl rfl (v := vQ (2 ^ (x.cpu % 64) : Nat)) (quz rfl rfl rfl (Nat.mod_lt _ (by decide))) fun a HF => ?_
  refine qp HF (fun _ => HS) (i := 11) rfl rfl (d := 54) rfl (by decide) (by kernel_rfl) (fun _ _ _ h => h) (v := vQ (IntKind.u64.wrap (BitVec.ofInt (IntKind.u64).bits (x.mask : Int) ||| BitVec.ofInt (IntKind.u64).bits ((2 ^ (x.cpu % 64) : Nat) : Int)).toNat)) (fun _ => Yl.pure (by kernel_rfl)) fun a HF => ?_
  replace HF := HF.sp 54 (vQ (x.mask ||| 2 ^ (x.cpu % 64) : Nat)) rfl (qyh h11 (Nat.mod_lt _ (by decide)))
  refine qj [13] (by kernel_rfl) rfl ?_
  refine all_cons ?_ all_nil
  refine qm HF (i := 13) rfl rfl ?_
  refine qo HF HM (i := 0) rfl rfl rfl rfl (by kernel_rfl) rfl rfl (by simp) ?_
  clear HM; intro w6_13 HM
  refine keepS (HM.picks [1, 2] (by decide) rfl) (fun HS => ?_)
  refine ap HF (fun _ => HS) [14] #[true, true, true, true, true, true, true, true, true, true, true, true, true, true, true, false, false, false, false, false] [(56, vP g3 5)] fun a HF => ?_
  refine qj [15] (by kernel_rfl) rfl ?_
  refine all_cons ?_ all_nil
  refine qm HF (i := 15) rfl rfl ?_
  refine qo HF HM (i := 0) rfl rfl rfl rfl (by kernel_rfl) rfl rfl (by simp) ?_
  clear HM; intro w6_15 HM
  refine keepS (HM.picks [1, 2] (by decide) rfl) (fun HS => ?_)
  refine ap HF (fun _ => HS) [16] #[true, true, true, true, true, true, true, true, true, true, true, true, true, true, true, true, true, false, false, false] [(57, vP g3 7)] fun a HF => ?_
  refine qj [17] (by kernel_rfl) rfl ?_
  refine all_cons ?_ all_nil
  refine qm HF (i := 17) rfl rfl ?_
  refine qo HF HM (i := 0) rfl rfl rfl rfl (by kernel_rfl) rfl rfl (by simp) ?_
  clear HM; intro w6_17 HM
  refine keepS (HM.picks [1, 2] (by decide) rfl) (fun HS => ?_)
  refine ap HF (fun _ => HS) [18] #[true, true, true, true, true, true, true, true, true, true, true, true, true, true, true, true, true, true, true, false] [(58, vP g3 9)] fun a HF => ?_
  refine qj [19] (by kernel_rfl) rfl ?_
  refine all_cons ?_ all_nil
  refine qm HF (i := 19) rfl rfl ?_
  refine qo HF HM (i := 0) rfl rfl rfl rfl (by kernel_rfl) rfl rfl (by simp) ?_
  clear HM; intro w6_19 HM
  refine noS (by kernel_rfl) ?_
  refine qn (by kernel_rfl) ?_
  refine wp_seq (qa ?_)
  refine fy HF HM 0 rfl rfl rfl (v := .agg #[vI (1 + x.seq : Nat), vI x.time, vB (x.cpu % 64 : Nat), vB (1 + (x.kind % 10) : Nat), vI (1 + (x.task % 65535) : Nat), vI (x.group % 256 : Nat), vI 0, vI (1 + (x.weight % 65536) : Nat), vI 0, vQ (x.mask ||| 2 ^ (x.cpu % 64) : Nat), vI 0]) (Yl.zg rfl rfl ⟨(by kernel_rfl), (by kernel_rfl)⟩ rfl (fun _ h => qd (h.blk (i := 0) rfl))) fun a HF => ?_
  refine fo HF 1 rfl rfl ?_
  refine e_sa HF HM 1 rfl rfl rfl rfl rfl ⟨(by kernel_rfl), (by kernel_rfl)⟩ rfl rfl (by simp [Value.oneCell']) ?_
  clear HM; intro w19_1 HM
  refine qb rfl (wp_ret ?_)
  have hk : x.kind % 10 = 0 := by omega
  exact ret1 rfl HF (.cellS (i := 1) HF HM rfl rfl ⟨(by kernel_rfl), (by kernel_rfl)⟩ rfl) (⟨by simp [Sm.ev, Ev.cells, hk], HM.below⟩)
 have hd41 := ne_of_beq_false hb41
 refine qe HF rfl (wp_seq (qa ?_))
 refine fp HF 2 0 [(59, .bool (((1 + (x.kind % 10) : Nat) : Int) == (2 : Int)))] fun a HF => ?_
 refine qb rfl ?_
 rcases HF.tf 59 rfl with ⟨hb59, HF⟩ | ⟨hb59, HF⟩
 ·
  have hd59 := eq_of_beq hb59
  refine qf HF rfl (qa ?_)
  refine fp HF 2 0 [(62, vP g3 4), (61, vI (1 + (x.task % 65535) : Nat))] fun a HF => ?_
  refine fo HF 2 rfl rfl ?_
  refine qo HF HM (i := 0) rfl rfl rfl rfl (by kernel_rfl) rfl rfl (by simp) ?_
  clear HM; intro w8_2 HM
  refine qb rfl (wp_seq (qa ?_))
  refine fy HF HM 0 rfl rfl rfl (v := .agg #[vI (1 + x.seq : Nat), vI x.time, vB (x.cpu % 64 : Nat), vB (1 + (x.kind % 10) : Nat), vI (1 + (x.task % 65535) : Nat), vI 0, vI 0, vI 0, vI 0, vQ 0, vI 0]) (Yl.zg rfl rfl ⟨(by kernel_rfl), (by kernel_rfl)⟩ rfl (fun _ h => qd (h.blk (i := 0) rfl))) fun a HF => ?_
  refine fo HF 1 rfl rfl ?_
  refine e_sa HF HM 1 rfl rfl rfl rfl rfl ⟨(by kernel_rfl), (by kernel_rfl)⟩ rfl rfl (by simp [Value.oneCell']) ?_
  clear HM; intro w19_1 HM
  refine qb rfl (wp_ret ?_)
  have hk : x.kind % 10 = 1 := by omega
  exact ret1 rfl HF (.cellS (i := 1) HF HM rfl rfl ⟨(by kernel_rfl), (by kernel_rfl)⟩ rfl) (⟨by simp [Sm.ev, Ev.cells, hk], HM.below⟩)
 have hd59 := ne_of_beq_false hb59
 refine qe HF rfl (wp_seq (qa ?_))
 refine fp HF 2 0 [(63, .bool (((1 + (x.kind % 10) : Nat) : Int) == (5 : Int)))] fun a HF => ?_
 refine qb rfl ?_
 rcases HF.tf 63 rfl with ⟨hb63, HF⟩ | ⟨hb63, HF⟩
 ·
  have hd63 := eq_of_beq hb63
  refine qf HF rfl (qa ?_)
  refine fp HF 1 0 [(65, vP g1 8)] fun a HF => ?_
  refine fy HF HM 1 rfl rfl rfl (v := vW x.ticks) (Yl.qh rfl rfl (by kernel_rfl) (fun _ h => h.cell (i := 2) rfl (rfl))) fun a HF => ?_
  refine fp HF 1 2 [(67, vI (IntKind.i64.wrap (x.ticks : Int)))] fun a HF => ?_
  replace HF := HF.sp 67 (vI x.ticks) rfl (qi rfl (by omega))
  refine fy HF HM 3 rfl rfl rfl (v := vI (if (1 : Int) > (x.ticks : Int) then 1 else (x.ticks : Int))) (Yl.max rfl rfl rfl) fun a HF => ?_
  replace HF := HF.sp 68 (vI (max x.ticks 1 : Nat)) rfl (qw6 _)
  refine fp HF 2 4 [(70, vI (IntKind.i64.wrap (((1 + (x.got % 65535) : Nat) : Int) - 1)))] fun a HF => ?_
  replace HF := HF.sp 70 (vI (x.got % 65535 : Nat)) rfl (qi (by omega) (by omega))
  refine fp HF 1 6 [(71, vP g3 8)] fun a HF => ?_
  refine fo HF 7 rfl rfl ?_
  refine qo HF HM (i := 0) rfl rfl rfl rfl (by kernel_rfl) rfl rfl (by simp) ?_
  clear HM; intro w10_7 HM
  refine fp HF 1 8 [(72, vP g3 10)] fun a HF => ?_
  refine fo HF 9 rfl rfl ?_
  refine qo HF HM (i := 0) rfl rfl rfl rfl (by kernel_rfl) rfl rfl (by simp) ?_
  clear HM; intro w10_9 HM
  refine qb rfl (wp_seq (qa ?_))
  refine fy HF HM 0 rfl rfl rfl (v := .agg #[vI (1 + x.seq : Nat), vI x.time, vB (x.cpu % 64 : Nat), vB (1 + (x.kind % 10) : Nat), vI 0, vI 0, vI 0, vI 0, vI (max x.ticks 1 : Nat), vQ 0, vI (x.got % 65535 : Nat)]) (Yl.zg rfl rfl ⟨(by kernel_rfl), (by kernel_rfl)⟩ rfl (fun _ h => qd (h.blk (i := 0) rfl))) fun a HF => ?_
  refine fo HF 1 rfl rfl ?_
  refine e_sa HF HM 1 rfl rfl rfl rfl rfl ⟨(by kernel_rfl), (by kernel_rfl)⟩ rfl rfl (by simp [Value.oneCell']) ?_
  clear HM; intro w19_1 HM
  refine qb rfl (wp_ret ?_)
  have hk : x.kind % 10 = 4 := by omega
  exact ret1 rfl HF (.cellS (i := 1) HF HM rfl rfl ⟨(by kernel_rfl), (by kernel_rfl)⟩ rfl) (⟨by simp [Sm.ev, Ev.cells, hk], HM.below⟩)
 have hd63 := ne_of_beq_false hb63
 refine qe HF rfl (wp_seq (qa ?_))
 refine fp HF 2 0 [(73, .bool (((1 + (x.kind % 10) : Nat) : Int) == (6 : Int)))] fun a HF => ?_
 refine qb rfl ?_
 rcases HF.tf 73 rfl with ⟨hb73, HF⟩ | ⟨hb73, HF⟩
 ·
  have hd73 := eq_of_beq hb73
  refine qf HF rfl (qa ?_)
  refine fp HF 2 0 [(76, vI (IntKind.i64.wrap (((1 + (x.got % 65535) : Nat) : Int) - 1)))] fun a HF => ?_
  replace HF := HF.sp 76 (vI (x.got % 65535 : Nat)) rfl (qi (by omega) (by omega))
  refine fp HF 1 2 [(77, vP g3 10)] fun a HF => ?_
  refine fo HF 3 rfl rfl ?_
  refine qo HF HM (i := 0) rfl rfl rfl rfl (by kernel_rfl) rfl rfl (by simp) ?_
  clear HM; intro w12_3 HM
  refine qb rfl (wp_seq (qa ?_))
  refine fy HF HM 0 rfl rfl rfl (v := .agg #[vI (1 + x.seq : Nat), vI x.time, vB (x.cpu % 64 : Nat), vB (1 + (x.kind % 10) : Nat), vI 0, vI 0, vI 0, vI 0, vI 0, vQ 0, vI (x.got % 65535 : Nat)]) (Yl.zg rfl rfl ⟨(by kernel_rfl), (by kernel_rfl)⟩ rfl (fun _ h => qd (h.blk (i := 0) rfl))) fun a HF => ?_
  refine fo HF 1 rfl rfl ?_
  refine e_sa HF HM 1 rfl rfl rfl rfl rfl ⟨(by kernel_rfl), (by kernel_rfl)⟩ rfl rfl (by simp [Value.oneCell']) ?_
  clear HM; intro w19_1 HM
  refine qb rfl (wp_ret ?_)
  have hk : x.kind % 10 = 5 := by omega
  exact ret1 rfl HF (.cellS (i := 1) HF HM rfl rfl ⟨(by kernel_rfl), (by kernel_rfl)⟩ rfl) (⟨by simp [Sm.ev, Ev.cells, hk], HM.below⟩)
 have hd73 := ne_of_beq_false hb73
 refine qe HF rfl (wp_seq (qa ?_))
 refine fp HF 2 0 [(78, .bool (((1 + (x.kind % 10) : Nat) : Int) == (7 : Int)))] fun a HF => ?_
 refine qb rfl ?_
 rcases HF.tf 78 rfl with ⟨hb78, HF⟩ | ⟨hb78, HF⟩
 ·
  have hd78 := eq_of_beq hb78
  refine qf HF rfl (qa ?_)
  refine fp HF 3 0 [(82, vP g3 4), (81, vI (1 + (x.weight % 65536) : Nat)), (80, vI (1 + (x.task % 65535) : Nat))] fun a HF => ?_
  refine fo HF 3 rfl rfl ?_
  refine qo HF HM (i := 0) rfl rfl rfl rfl (by kernel_rfl) rfl rfl (by simp) ?_
  clear HM; intro w14_3 HM
  refine fp HF 1 4 [(83, vP g3 7)] fun a HF => ?_
  refine fo HF 5 rfl rfl ?_
  refine qo HF HM (i := 0) rfl rfl rfl rfl (by kernel_rfl) rfl rfl (by simp) ?_
  clear HM; intro w14_5 HM
  refine qb rfl (wp_seq (qa ?_))
  refine fy HF HM 0 rfl rfl rfl (v := .agg #[vI (1 + x.seq : Nat), vI x.time, vB (x.cpu % 64 : Nat), vB (1 + (x.kind % 10) : Nat), vI (1 + (x.task % 65535) : Nat), vI 0, vI 0, vI (1 + (x.weight % 65536) : Nat), vI 0, vQ 0, vI 0]) (Yl.zg rfl rfl ⟨(by kernel_rfl), (by kernel_rfl)⟩ rfl (fun _ h => qd (h.blk (i := 0) rfl))) fun a HF => ?_
  refine fo HF 1 rfl rfl ?_
  refine e_sa HF HM 1 rfl rfl rfl rfl rfl ⟨(by kernel_rfl), (by kernel_rfl)⟩ rfl rfl (by simp [Value.oneCell']) ?_
  clear HM; intro w19_1 HM
  refine qb rfl (wp_ret ?_)
  have hk : x.kind % 10 = 6 := by omega
  exact ret1 rfl HF (.cellS (i := 1) HF HM rfl rfl ⟨(by kernel_rfl), (by kernel_rfl)⟩ rfl) (⟨by simp [Sm.ev, Ev.cells, hk], HM.below⟩)
 have hd78 := ne_of_beq_false hb78
 refine qe HF rfl (wp_seq (qa ?_))
 refine fp HF 2 0 [(84, .bool (((1 + (x.kind % 10) : Nat) : Int) == (8 : Int)))] fun a HF => ?_
 refine qb rfl ?_
 rcases HF.tf 84 rfl with ⟨hb84, HF⟩ | ⟨hb84, HF⟩
 ·
  have hd84 := eq_of_beq hb84
  refine qf HF rfl (qa ?_)
  refine fp HF 1 0 [(86, vP g1 5)] fun a HF => ?_
  refine fy HF HM 1 rfl rfl rfl (v := vW x.group) (Yl.qh rfl rfl (by kernel_rfl) (fun _ h => h.cell (i := 2) rfl (rfl))) fun a HF => ?_
  refine fp HF 1 2 [(88, vI (IntKind.i64.wrap (x.group : Int)))] fun a HF => ?_
  replace HF := HF.sp 88 (vI x.group) rfl (qi rfl (by omega))
  refine fp HF 1 3 [(89, vI (Int.tmod (x.group : Int) 255))] fun a HF => ?_
  replace HF := HF.sp 89 (vI (x.group % 255 : Nat)) rfl (qao .i64 _ 255)
  refine fp HF 1 4 [(90, vI (IntKind.i64.wrap (1 + ((x.group % 255 : Nat) : Int))))] fun a HF => ?_
  replace HF := HF.sp 90 (vI (1 + (x.group % 255) : Nat)) rfl (qi (by omega) (by omega))
  refine fp HF 2 5 [(92, vP g3 5), (91, vI (1 + (x.weight % 65536) : Nat))] fun a HF => ?_
  refine fo HF 7 rfl rfl ?_
  refine qo HF HM (i := 0) rfl rfl rfl rfl (by kernel_rfl) rfl rfl (by simp) ?_
  clear HM; intro w16_7 HM
  refine fp HF 1 8 [(93, vP g3 7)] fun a HF => ?_
  refine fo HF 9 rfl rfl ?_
  refine qo HF HM (i := 0) rfl rfl rfl rfl (by kernel_rfl) rfl rfl (by simp) ?_
  clear HM; intro w16_9 HM
  refine qb rfl (wp_seq (qa ?_))
  refine fy HF HM 0 rfl rfl rfl (v := .agg #[vI (1 + x.seq : Nat), vI x.time, vB (x.cpu % 64 : Nat), vB (1 + (x.kind % 10) : Nat), vI 0, vI (1 + (x.group % 255) : Nat), vI 0, vI (1 + (x.weight % 65536) : Nat), vI 0, vQ 0, vI 0]) (Yl.zg rfl rfl ⟨(by kernel_rfl), (by kernel_rfl)⟩ rfl (fun _ h => qd (h.blk (i := 0) rfl))) fun a HF => ?_
  refine fo HF 1 rfl rfl ?_
  refine e_sa HF HM 1 rfl rfl rfl rfl rfl ⟨(by kernel_rfl), (by kernel_rfl)⟩ rfl rfl (by simp [Value.oneCell']) ?_
  clear HM; intro w19_1 HM
  refine qb rfl (wp_ret ?_)
  have hk : x.kind % 10 = 7 := by omega
  exact ret1 rfl HF (.cellS (i := 1) HF HM rfl rfl ⟨(by kernel_rfl), (by kernel_rfl)⟩ rfl) (⟨by simp [Sm.ev, Ev.cells, hk], HM.below⟩)
 have hd84 := ne_of_beq_false hb84
 refine qe HF rfl (wp_seq (qa ?_))
 refine fp HF 2 0 [(94, .bool (((1 + (x.kind % 10) : Nat) : Int) == (9 : Int)))] fun a HF => ?_
 refine qb rfl ?_
 rcases HF.tf 94 rfl with ⟨hb94, HF⟩ | ⟨hb94, HF⟩
 ·
  have hd94 := eq_of_beq hb94
  refine qf HF rfl ?_
  refine qaf HM [.blk g2 #[vI 0, vI 0, vB 0, vB 0, vI 0, vI 0, vI 0, vI 0, vI 0, vQ 0, vI 0] 45, .blk g1 x.cells 124] [1, 2] [14] fun HM HS => ?_
  refine ap HF (fun _ => HS) [0, 1, 5] #[true, true, false, false, false, true, false, false, false, false, false, false, false, false, false] [(101, vP g1 6), (97, vP g3 2), (96, vI (1 + (x.task % 65535) : Nat))] fun a HF => ?_
  refine ay HF HS 6 rfl rfl rfl (v := vW x.to) (Yl.qh rfl rfl (by kernel_rfl) (fun _ h => h.cell (i := 1) rfl (rfl))) fun a HF => ?_
  refine qp HF (fun _ => HS) (i := 7) rfl rfl (d := 103) rfl (by decide) (by kernel_rfl) (fun _ _ _ h => h) (v := vI (IntKind.i64.wrap (x.to : Int))) (fun _ => Yl.pure (by kernel_rfl)) fun a HF => ?_
  replace HF := HF.sp 103 (vI x.to) rfl (qi rfl (by omega))
  refine qp HF (fun _ => HS) (i := 8) rfl rfl (d := 104) rfl (by decide) (by kernel_rfl) (fun _ _ _ h => h) (v := vI (Int.tmod (x.to : Int) 63)) (fun _ => Yl.pure (by kernel_rfl)) fun a HF => ?_
  replace HF := HF.sp 104 (vI (x.to % 63 : Nat)) rfl (qao .i64 _ 63)
  refine qj [2] (by kernel_rfl) rfl ?_
  refine all_cons ?_ all_nil
  refine qm HF (i := 2) rfl rfl ?_
  refine Yl.wp (S := fun wS => Mem w wS _) (v := vB (x.cpu % 64 : Nat)) (Yl.qh rfl rfl (by kernel_rfl) (fun _ h => h.cell (i := 0) rfl rfl)) HF HM rfl (by decide) fun a HF => ?_
  refine keepS HS (fun HS => ?_)
  refine ap HF (fun _ => HS) [11] #[true, true, true, false, false, true, true, true, true, false, false, true, false, false, false] [(107, vP g3 4)] fun a HF => ?_
  refine qp HF (fun _ => HS) (i := 3) rfl rfl (d := 99) rfl (by decide) (by kernel_rfl) (fun _ _ _ h => h) (v := vI (IntKind.i64.wrap ((x.cpu % 64 : Nat) : Int))) (fun _ => Yl.pure (by kernel_rfl)) fun a HF => ?_
  replace HF := HF.sp 99 (vI (x.cpu % 64 : Nat)) rfl (qi rfl (by omega))
  refine qp HF (fun _ => HS) (i := 4) rfl rfl (d := 100) rfl (by decide) (by kernel_rfl) (fun _ _ _ h => h) (v := vI (IntKind.i64.wrap (((x.cpu % 64 : Nat) : Int) + 1))) (fun _ => Yl.pure (by kernel_rfl)) fun a HF => ?_
  replace HF := HF.sp 100 (vI (x.cpu % 64 + 1 : Nat)) rfl (qi (by omega) (by omega))
  refine qp HF (fun _ => HS) (i := 9) rfl rfl (d := 105) rfl (by decide) (by kernel_rfl) (fun _ _ _ h => h) (v := vI (IntKind.i64.wrap (((x.cpu % 64 + 1 : Nat) : Int) + ((x.to % 63 : Nat) : Int)))) (fun _ => Yl.pure (by kernel_rfl)) fun a HF => ?_
  replace HF := HF.sp 105 (vI (x.cpu % 64 + 1 + (x.to % 63) : Nat)) rfl (qi (by omega) (by omega))
  refine qp HF (fun _ => HS) (i := 10) rfl rfl (d := 106) rfl (by decide) (by kernel_rfl) (fun _ _ _ h => h) (v := vI (Int.tmod ((x.cpu % 64 + 1 + (x.to % 63) : Nat) : Int) 64)) (fun _ => Yl.pure (by kernel_rfl)) fun a HF => ?_
  replace HF := HF.sp 106 (vI ((x.cpu % 64 + 1 + (x.to % 63)) % 64 : Nat)) rfl (qao .i64 _ 64)
  refine qj [12] (by kernel_rfl) rfl ?_
  refine all_cons ?_ all_nil
  refine qm HF (i := 12) rfl rfl ?_
  refine qo HF HM (i := 0) rfl rfl rfl rfl (by kernel_rfl) rfl rfl (by simp) ?_
  clear HM; intro w18_12 HM
  refine keepS (HM.picks [1, 2] (by decide) rfl) (fun HS => ?_)
  refine ap HF (fun _ => HS) [13] #[true, true, true, true, true, true, true, true, true, true, true, true, true, true, false] [(108, vP g3 6)] fun a HF => ?_
  refine qj [14] (by kernel_rfl) rfl ?_
  refine all_cons ?_ all_nil
  refine qm HF (i := 14) rfl rfl ?_
  refine qo HF HM (i := 0) rfl rfl rfl rfl (by kernel_rfl) rfl rfl (by simp) ?_
  clear HM; intro w18_14 HM
  refine noS (by kernel_rfl) ?_
  refine qn (by kernel_rfl) ?_
  refine wp_seq (qa ?_)
  refine fy HF HM 0 rfl rfl rfl (v := .agg #[vI (1 + x.seq : Nat), vI x.time, vB (x.cpu % 64 : Nat), vB (1 + (x.kind % 10) : Nat), vI (1 + (x.task % 65535) : Nat), vI 0, vI ((x.cpu % 64 + 1 + (x.to % 63)) % 64 : Nat), vI 0, vI 0, vQ 0, vI 0]) (Yl.zg rfl rfl ⟨(by kernel_rfl), (by kernel_rfl)⟩ rfl (fun _ h => qd (h.blk (i := 0) rfl))) fun a HF => ?_
  refine fo HF 1 rfl rfl ?_
  refine e_sa HF HM 1 rfl rfl rfl rfl rfl ⟨(by kernel_rfl), (by kernel_rfl)⟩ rfl rfl (by simp [Value.oneCell']) ?_
  clear HM; intro w19_1 HM
  refine qb rfl (wp_ret ?_)
  have hk : x.kind % 10 = 8 := by omega
  exact ret1 rfl HF (.cellS (i := 1) HF HM rfl rfl ⟨(by kernel_rfl), (by kernel_rfl)⟩ rfl) (⟨by simp [Sm.ev, Ev.cells, hk], HM.below⟩)
 have hd94 := ne_of_beq_false hb94
 refine qe HF rfl (qa ?_)
 refine fp HF 2 0 [(40, vP g3 10), (39, vI (1 + (x.got % 65535) : Nat))] fun a HF => ?_
 refine fo HF 2 rfl rfl ?_
 refine qo HF HM (i := 0) rfl rfl rfl rfl (by kernel_rfl) rfl rfl (by simp) ?_
 clear HM; intro w4_2 HM
 refine qb rfl (wp_seq (qa ?_))
 refine fy HF HM 0 rfl rfl rfl (v := .agg #[vI (1 + x.seq : Nat), vI x.time, vB (x.cpu % 64 : Nat), vB (1 + (x.kind % 10) : Nat), vI 0, vI 0, vI 0, vI 0, vI 0, vQ 0, vI (1 + (x.got % 65535) : Nat)]) (Yl.zg rfl rfl ⟨(by kernel_rfl), (by kernel_rfl)⟩ rfl (fun _ h => qd (h.blk (i := 0) rfl))) fun a HF => ?_
 refine fo HF 1 rfl rfl ?_
 refine e_sa HF HM 1 rfl rfl rfl rfl rfl ⟨(by kernel_rfl), (by kernel_rfl)⟩ rfl rfl (by simp [Value.oneCell']) ?_
 clear HM; intro w19_1 HM
 refine qb rfl (wp_ret ?_)
 have k0 : x.kind % 10 ≠ 0 := (by omega); have k1 : x.kind % 10 ≠ 1 := (by omega); have k4 : x.kind % 10 ≠ 4 := (by omega); have k5 : x.kind % 10 ≠ 5 := (by omega); have k6 : x.kind % 10 ≠ 6 := (by omega); have k7 : x.kind % 10 ≠ 7 := (by omega); have k8 : x.kind % 10 ≠ 8 := (by omega); have k9 : (x.kind % 10 = 2 ∨ x.kind % 10 = 3 ∨ x.kind % 10 = 9) := by omega
 exact ret1 rfl HF (.cellS (i := 1) HF HM rfl rfl ⟨(by kernel_rfl), (by kernel_rfl)⟩ rfl) (⟨by simp [Sm.ev, Ev.cells, k0, k1, k4, k5, k6, k7, k8, k9], HM.below⟩)
theorem qll {α : Type} (f : α → List Value) (sz : Nat) (hf : ∀ x, (f x).length = sz) : ∀ (l : List α) (k : Nat), (l.flatMap f).take (k * sz) = (l.take k).flatMap f
 | [], _ => by simp
 | _ :: _, 0 => by simp
 | x :: l, k + 1 => by
  rw [List.flatMap_cons, List.take_succ_cons, List.flatMap_cons, List.take_append, List.take_of_length_le (by rw [hf, Nat.succ_mul]; omega), hf, ← qll f sz hf l k]
  congr 2
  rw [Nat.succ_mul]; omega
def smL (x : Sm) : List Value := x.cells.toList
theorem qjs (x : Sm) : (smL x).length = 11 := rfl
theorem si_sm : SI Tryd.prog 124 11 := ⟨by kernel_rfl, by kernel_rfl⟩
theorem qir (x : Sm) : x.cells.size = 11 := rfl
theorem qyi (x : Sm) : ∀ v ∈ x.cells.toList, v.oneCell' = true := by intro v hv; simp [Sm.cells] at hv; rcases hv with rfl | rfl | rfl | rfl | rfl | rfl | rfl | rfl | rfl | rfl | rfl <;> rfl
structure RowsPost (w : World) (es : List Ev) (r : Ending) (w' : World) : Prop where
 ret : ∃ v, r = .returned v ∧ w'.ownsRow w.heap.size 45 11 v es.length (es.flatMap evL)
 below : Below w.heap.size w w'
theorem qlm {w W : World} {B g gy ge : Nat} {c0 c1 : Value} {tb : TypeId} {Oy Oe : Obj} (hB : Below B w W) (hBW : B ≤ W.heap.size) (hg : B ≤ g) (hbg : W.heap[g]? = some (.cells #[c0, c1] tb (0, 0))) (hby : W.heap[gy]? = some Oy) (hbe : W.heap[ge]? = some Oe) (hn1 : gy ≠ g) (hn2 : ge ≠ g) (o : Nat) (v : Value) (O : Obj) :
  (((W.setCell ⟨g, o, none⟩ v).alloc O).drew).heap[g]? = some (.cells (#[c0, c1].setIfInBounds o v) tb (0, 0)) ∧ (((W.setCell ⟨g, o, none⟩ v).alloc O).drew).heap[gy]? = some Oy ∧ (((W.setCell ⟨g, o, none⟩ v).alloc O).drew).heap[ge]? = some Oe ∧ Below B w (((W.setCell ⟨g, o, none⟩ v).alloc O).drew) ∧ W.heap.size + 1 ≤ (((W.setCell ⟨g, o, none⟩ v).alloc O).drew).heap.size ∧ W.grownBy (((W.setCell ⟨g, o, none⟩ v).alloc O).drew) (some g) := by
 have hs : (W.setCell ⟨g, o, none⟩ v).heap.size = W.heap.size := by simp [World.setCell]
 have h1 : ∀ k, k < W.heap.size → (((W.setCell ⟨g, o, none⟩ v).alloc O).drew).heap[k]? = (W.setCell ⟨g, o, none⟩ v).heap[k]? := fun k hk => Below.heap_alloc _ _ _ (by rw [hs]; exact hk)
 refine ⟨(h1 g (zh hbg)).trans ?_, (h1 gy (zh hby)).trans ((Below.heap_setCell _ _ _ _ hn1).trans hby), (h1 ge (zh hbe)).trans ((Below.heap_setCell _ _ _ _ hn2).trans hbe), ?_, ?_, ?_⟩
 ·simp [World.setCell, Array.getElem?_modify, hbg]
 ·exact ((hB.setCell hg _).alloc (by rw [hs]; exact hBW) _).drew
 ·show _ ≤ ((W.setCell ⟨g, o, none⟩ v).alloc O).heap.size
  rw [World.size_alloc, hs]; omega
 ·refine ⟨rfl, rfl, rfl, ?_, fun k hk hn => ?_⟩
  ·show W.heap.size ≤ ((W.setCell ⟨g, o, none⟩ v).alloc O).heap.size
   rw [World.size_alloc, hs]; omega
  ·exact (h1 k hk).trans (Below.heap_setCell _ _ _ _ (fun e => hn (by rw [e])))
theorem qo8 {w W : World} {B g ge : Nat} {e : Ev} {te : TypeId} {Og : Obj} (hB : Below B w W) (hge : B ≤ ge) (hbg : W.heap[g]? = some Og) (hbe : W.heap[ge]? = some (.cells e.cells te (0, 0))) (hn : g ≠ ge) (s t : Int) (W' : World)
  (hW : W' = ((W.setCell ⟨ge, 0, none⟩ (.int .i64 s)).setCell ⟨ge, 1, none⟩ (.int .i64 t)).drew ∨ W' = ((W.setCell ⟨ge, 1, none⟩ (.int .i64 t)).setCell ⟨ge, 0, none⟩ (.int .i64 s)).drew) :
  W'.heap[g]? = some Og ∧ W'.heap[ge]? = some (.cells (e.moved s t).cells te (0, 0)) ∧ Below B w W' ∧ W.grownBy W' (some ge) := by
 have key : ∀ (i j : Nat) (u v : Value), ((e.cells.setIfInBounds i u).setIfInBounds j v) = (e.moved s t).cells →
   (((W.setCell ⟨ge, i, none⟩ u).setCell ⟨ge, j, none⟩ v).drew).heap[g]? = some Og ∧ (((W.setCell ⟨ge, i, none⟩ u).setCell ⟨ge, j, none⟩ v).drew).heap[ge]? = some (.cells (e.moved s t).cells te (0, 0)) ∧ Below B w (((W.setCell ⟨ge, i, none⟩ u).setCell ⟨ge, j, none⟩ v).drew) ∧ W.grownBy (((W.setCell ⟨ge, i, none⟩ u).setCell ⟨ge, j, none⟩ v).drew) (some ge) := by
  intro i j u v h
  have hsame : (((W.setCell ⟨ge, i, none⟩ u).setCell ⟨ge, j, none⟩ v).drew).heap[ge]? = some (.cells (e.moved s t).cells te (0, 0)) := by
   rw [← h]; simp [World.setCell, World.drew, Array.getElem?_modify, hbe]
  refine ⟨?_, hsame, ((hB.setCell hge _).setCell hge _).drew, ⟨rfl, rfl, rfl, by simp [World.setCell, World.drew], fun k hk hnk => ?_⟩⟩
  ·exact (Below.heap_setCell _ _ _ _ hn).trans ((Below.heap_setCell _ _ _ _ hn).trans hbg)
  ·exact (Below.heap_setCell _ _ _ _ (fun e => hnk (by rw [e]))).trans (Below.heap_setCell _ _ _ _ (fun e => hnk (by rw [e])))
 rcases hW with rfl | rfl
 ·exact key 0 1 _ _ rfl
 ·exact key 1 0 _ _ rfl
theorem Rd.qxm (w : World) (cs : List Value) (t : TypeId) (sz b : Nat) (hb : w.heap.size = b) (hs : cs.length = sz) : Rd (w.alloc (.cells cs.toArray t)).drew (b + 1) sz (some ⟨b, 0, none⟩) 1 cs := by subst hb; exact Rd.block w cs t sz hs
theorem qw7 {cpu : Nat} {x y : Sm} {a : Bs} {z : Ev} {S1 R1 S2 R2 : Nat} (hyx : ({ x with cpu := cpu } : Sm) = y) (h1 : stepS x.kind = S1) (h2 : x.seq % S1 = R1) (h3 : stepT x.kind = S2) (h4 : x.time % S2 = R2) (hz : y.ev.moved (a.seq + (1 + (R1 : Int))) (a.time + (R2 : Int)) = z) (r : List Sm) :
  qb7 cpu a (x :: r) = z :: qb7 cpu ⟨a.seq + (1 + (R1 : Int)), a.time + (R2 : Int)⟩ r := by
 subst hyx h1 h2 h3 h4 hz
 rw [qb7]
 have hs : a.step x = ⟨a.seq + (1 + ((x.seq % stepS x.kind : Nat) : Int)), a.time + ((x.time % stepT x.kind : Nat) : Int)⟩ := by
  unfold Bs.step
  simp
 rw [hs]
theorem qo9 {X : World} {base : Nat} {e : TypeId} {size : Nat} {v : Value} {n : Nat} {xs : List Value} (h : X.drew.ownsRow base e size v n xs) : X.ownsRow base e size v n xs := h
theorem qsn (W : World) (p q : Addr) (u v : Value) : ((W.setCell p u).setCell q v).heap.size = W.heap.size := by simp [World.setCell]
def qnw (w : World) (g : Nat) (cpu : Nat) (b : Bs) (l : List Sm) (m : Nat) (v i : Value) (wr : World) : Prop :=
 ∃ (k : Nat) (pre : List Ev) (a : Bs), k ≤ m ∧ i = .int .i64 (k : Int) ∧ qb7 cpu b.start l = pre ++ qb7 cpu a (l.drop k) ∧ pre.length = k ∧
  wr.ownsRow w.heap.size 45 11 v k (pre.flatMap evL) ∧ (∀ h, v.ownBlock = some h → h ≠ g) ∧
  wr.heap[g]? = some (.cells a.cells 26 (0, 0)) ∧
  0 ≤ a.seq ∧ a.seq ≤ 1099511627776 + 4294967296 * (k : Int) ∧ 0 ≤ a.time ∧ a.time ≤ 1099511627776 + 4294967296 * (k : Int) ∧ Below w.heap.size w wr
theorem qpa {w X : World} {B g : Nat} {Og : Obj} (hg : X.drew.heap[g]? = some Og) (hB : Below B w X.drew) (hBX : B ≤ X.heap.size) (O : Obj) :
  B ≤ ((X.alloc O).drew).heap.size ∧ g < ((X.alloc O).drew).heap.size ∧ ((X.alloc O).drew).heap[g]? = some Og ∧ Below B w ((X.alloc O).drew) := by
 have hs : ((X.alloc O).drew).heap.size = X.heap.size + 1 := by show (X.alloc O).heap.size = _; rw [World.size_alloc]
 have hl : g < X.heap.size := zh (show X.heap[g]? = some Og from hg)
 have hB' : Below B w X := ⟨hB.os, hB.tape, hB.output, hB.size, hB.block⟩
 exact ⟨by omega, by omega, (Below.heap_alloc X O g hl).trans hg, (hB'.alloc hBX O).drew⟩
theorem qpb {w Wx w5 : World} {g cpu M k : Nat} {b a a' : Bs} {l : List Sm} {x : Sm} {pre : List Ev} {z : Ev} {A1 A2 : Option Addr} {c1 c2 : Nat}
  (hlt : k < M) (hsp : qb7 cpu b.start l = pre ++ qb7 cpu a (l.drop k)) (hdr : l.drop k = x :: l.drop (k + 1)) (hst : qb7 cpu a (x :: l.drop (k + 1)) = z :: qb7 cpu a' (l.drop (k + 1))) (hpl : pre.length = k)
  (hne : ∀ h, (Value.slice A1 k c1).ownBlock = some h → h ≠ g) (hbase : ∀ h, (Value.slice A1 k c1).ownBlock = some h → w.heap.size ≤ h)
  (hf : w.heap.size ≤ Wx.heap.size ∧ g < Wx.heap.size ∧ Wx.heap[g]? = some (.cells a'.cells 26 (0, 0)) ∧ Below w.heap.size w Wx)
  (hown5 : w5.ownsRow w.heap.size 45 11 (.slice A2 (k + 1) c2) (k + 1) (pre.flatMap evL ++ evL z)) (hgr5 : Wx.grownBy w5 (Value.slice A1 k c1).ownBlock)
  (hbl5 : (Value.slice A2 (k + 1) c2).ownBlock = (Value.slice A1 k c1).ownBlock ∨ (Value.slice A2 (k + 1) c2).ownBlock = some Wx.heap.size)
  (ha1 : 0 ≤ a'.seq) (ha2 : a'.seq ≤ 1099511627776 + 4294967296 * ((k : Int) + 1)) (ha3 : 0 ≤ a'.time) (ha4 : a'.time ≤ 1099511627776 + 4294967296 * ((k : Int) + 1)) :
  qnw w g cpu b l M (.slice A2 (k + 1) c2) (.int .i64 ((k : Int) + 1)) w5 := by
 obtain ⟨f1, f2, f3, f4⟩ := hf
 refine ⟨k + 1, pre ++ [z], a', by omega, by go_num, ?_, by simp [hpl], ?_, ?_, ?_, ha1, by omega, ha3, by omega, ?_⟩
 ·rw [hsp, hdr, hst, List.append_assoc]; rfl
 ·rw [List.flatMap_append]; simpa using hown5
 ·intro h hh
  rcases hbl5 with h1 | h1
  ·exact hne h (h1.symm.trans hh)
  ·have h3 := h1.symm.trans hh
   injection h3 with h3
   omega
 ·exact (hgr5.block g f2 (fun e => hne g e.symm rfl)).trans f3
 ·exact f4.grown hgr5 f1 hbase
set_option maxRecDepth 100000 in
set_option maxHeartbeats 4000000 in
theorem qso (cpu : Nat) (hcpu : cpu < 256) (b : Bs) (hb : b.Ok) (A : Option Addr) (n c : Nat) (l : List Sm) (hl : ∀ x ∈ l, x.Ok) (w : World) (hr : Rd w w.heap.size 11 A n (l.flatMap smL)) (hc : n ≤ c) (hn : n ≤ 9223372036854775807) :
  Calls Tryd.prog 33 #[.int .u8 (cpu : Int), .agg b.cells, .slice A n c] w (RowsPost w (madeL cpu b l)) := by
 have hlen : l.length = n := by have := hr.len; rw [qau smL 11 qjs] at this; omega
 obtain ⟨_, hs1, hs2, ht1, ht2⟩ := qhl b
 obtain ⟨s, hs⟩ : ∃ s, b.based.seq = s := ⟨_, rfl⟩
 obtain ⟨t, ht⟩ : ∃ t, b.based.time = t := ⟨_, rfl⟩
 have hbc : b.based.cells = #[.int .i64 s, .int .i64 t] := by rw [← hs, ← ht]; rfl
 have HST := hide (show b.start = ⟨s - 1, t⟩ by rw [← hs, ← ht]; rfl)
 have HBA := hide (fun W => (qsl b hb W).mono (R' := fun r w' => r = .returned (.agg #[.int .i64 s, .int .i64 t]) ∧ Below W.heap.size W w') fun r w' h => ⟨by rw [h.ret, hbc], h.below⟩)
 rw [hs] at hs1 hs2
 rw [ht] at ht1 ht2
 have HX := hide (qd (World.alloc_heap_new w (.cells b.cells 26)))
 have HB2 := hide (zw b)
 have hb1 : Below w.heap.size w (w.alloc (.cells b.cells 26)) := (Below.refl _ _).alloc (Nat.le_refl _) _
 have HLN := hide hlen
 obtain ⟨M, hM⟩ : ∃ M, min n 200 = M := ⟨_, rfl⟩
 have hM1 : M ≤ n := by omega
 have hM2 : M ≤ 200 := by omega
 have hm1 : min (n : Int) 200 = (M : Int) := by omega
 have hm2 : (if (n : Int) ≤ 200 then (n : Int) else 200) = (M : Int) := by split <;> omega
 have hm3 : (if (n : Int) < 200 then (n : Int) else 200) = (M : Int) := by split <;> omega
 have hm4 : (if (200 : Int) < (n : Int) then (200 : Int) else (n : Int)) = (M : Int) := by split <;> omega
 have HM := hide hM
 clear hM
 have hnl : 0 ≤ (n : Int) := by omega
 clear hs ht hbc hlen
 generalize b.cells = ds at *
 go_enter Tryd.func33, Tryd.ntmps33
 go_wp2_with (first
  | (with_reducible refine zf HX.out rfl rfl rfl si_bs HB2.out ?_)
  | (go_at_call 53; refine (HBA.out _).mono ?_; rintro r w1 ⟨rfl, hb2⟩))
 clear hm1 hm2 hm3 hm4
 have hb3 : Below w.heap.size w w1 := hb1.trans (hb2.mono (by simp))
 have hg : w.heap.size < w1.heap.size := by have := hb2.size; simp at this; omega
 have HRT := hr.upto (k := M) (by omega)
 rw [qll smL 11 qjs] at HRT
 have HRT := hide HRT
 go_loopw [8, 24] (qnw w w1.heap.size cpu b (l.take M) M) (fun _ i _ => M - (intOf i).toNat)
 case atStart =>
  refine ⟨0, [], ⟨s - 1, t⟩, by omega, rfl, by rw [HST.out]; rfl, rfl, World.ownsRow_nil _ _ _ _, (fun h hh => by cases hh), World.alloc_heap_new w1 _, ?_, ?_, ?_, ?_, hb3.alloc (by omega) _⟩
  all_goals simp; omega
 case round =>
  obtain ⟨k, pre, a, hk, rfl, hsp, hpl, hown, hne, hbx, ha1, ha2, ha3, ha4, hB⟩ := hrel
  have hkl : (l.take M).length = M := by rw [List.length_take, HLN.out]; omega
  have hz := hB.size
  obtain ⟨A1, c1, rfl⟩ := qan hown
  by_cases hlt : k < M
  ·have h0M : 0 < M := by omega
   obtain ⟨gA, oA, hA, hgb, _, hcells⟩ := (HRT.out.below hB).struct qjs (by omega) h0M
   subst hA
   have hE0 := hcells k (by omega)
   have hx := hl _ (List.mem_of_mem_take (List.getElem_mem (by omega : k < (l.take M).length)))
   have HDR := hide (List.drop_eq_getElem_cons (by omega : k < (l.take M).length))
   obtain ⟨x, hxe⟩ : ∃ x, (l.take M)[k] = x := ⟨_, rfl⟩
   rw [hxe] at hE0 hx HDR
   have hE := hide (show wr.rangeAt gA (oA + k * 11) x.cells.toList from hE0)
   obtain ⟨y, hyx⟩ : ∃ y : Sm, ({ x with cpu := cpu } : Sm) = y := ⟨_, rfl⟩
   have hy : y.Ok := by rw [← hyx]; exact ⟨hx.kind, hcpu, hx.seq, hx.time, hx.task, hx.group, hx.to, hx.weight, hx.ticks, hx.got, hx.mask⟩
   have HXC := hide (qir x)
   have HYC := hide (qir y)
   have HX1 := hide (qyi x)
   have hS : x.cells.setIfInBounds 1 (.int .u8 (cpu : Int)) = y.cells := by rw [← hyx]; rfl
   have HSM := hide (fun W => (qsm y hy W).mono (R' := fun r w' => r = .returned (.agg y.ev.cells) ∧ Below W.heap.size W w') fun r w' h => ⟨h.ret, h.below⟩)
   have HEC := hide (qu y.ev)
   have HE1 := hide (qaa y.ev)
   have p1 : x.cells[1]? = some (.int .u8 (x.cpu : Int)) := rfl
   have q0 : y.cells[0]? = some (.int .u8 (x.kind : Int)) := by rw [← hyx]; rfl
   have q2 : y.cells[2]? = some (.int .u32 (x.seq : Int)) := by rw [← hyx]; rfl
   have q3 : y.cells[3]? = some (.int .u32 (x.time : Int)) := by rw [← hyx]; rfl
   have HYX := hide hyx
   have HXO := hide hx
   clear hyx hx
   generalize hxs : x.cells = xs at *
   generalize hys : y.cells = ys at *
   generalize hes : y.ev.cells = es at *
   have HES := hide hes
   clear hcells hxe hE0 hxs hys hes
   go_wp2_with (first
    | (with_reducible refine zf hE.out rfl rfl rfl si_sm HXC.out ?_)
    | (refine qa4 rfl rfl rfl rfl si_sm rfl HXC.out HX1.out ?_)
    | (with_reducible refine zf (qd (World.alloc_heap_new wr (.cells ys 124))) rfl rfl rfl si_sm HYC.out ?_)
    | (go_at_call 54; refine (HSM.out _).mono ?_; rintro r w3 ⟨rfl, hb4⟩)
    | (refine qa4 rfl rfl rfl rfl si_ev rfl HEC.out HE1.out ?_))
   have z4 : wr.heap.size + 1 ≤ w3.heap.size := by have := hb4.size; simpa using this
   have hgr : w1.heap.size < wr.heap.size := zh hbx
   have hb5 : Below (wr.heap.size + 1) (wr.alloc (.cells ys 124)) (w3.alloc (.cells es 45)) := (hb4.mono (by simp)).alloc z4 _
   have hbg : (w3.alloc (.cells es 45)).heap[w1.heap.size]? = some (.cells a.cells 26 (0, 0)) := (hb5.block _ (by omega)).trans ((Below.heap_alloc _ _ _ hgr).trans hbx)
   have hby : (w3.alloc (.cells es 45)).heap[wr.heap.size]? = some (.cells ys 124 (0, 0)) := (hb5.block _ (by omega)).trans (World.alloc_heap_new wr _)
   have hbe : (w3.alloc (.cells es 45)).heap[w3.heap.size]? = some (.cells es 45 (0, 0)) := World.alloc_heap_new w3 _
   have hz2 : w3.heap.size < (w3.alloc (.cells es 45)).heap.size := by simp
   have hB2 : Below w.heap.size w (w3.alloc (.cells es 45)) := (hB.alloc hz _).trans (hb5.mono (by omega))
   obtain ⟨W2, hW2⟩ : ∃ W2, w3.alloc (.cells es 45) = W2 := ⟨_, rfl⟩
   rw [hW2] at hbg hby hbe hz2 hb5 hB2 ⊢
   have HW2 := hide hW2
   have g0 : W2.cell? ⟨w1.heap.size, 0, none⟩ = some (.int .i64 a.seq) := by simp [World.cell?, hbg, Bs.cells]
   have g1 : W2.cell? ⟨w1.heap.size, 1, none⟩ = some (.int .i64 a.time) := by simp [World.cell?, hbg, Bs.cells]
   have gf : ∀ o, W2.frozen? ⟨w1.heap.size, o, none⟩ = false := fun o => by simp [World.frozen?, hbg]
   have y0 : W2.cell? ⟨wr.heap.size, 0, none⟩ = some (.int .u8 (x.kind : Int)) := by simp [World.cell?, hby, q0]
   have y2 : W2.cell? ⟨wr.heap.size, 2, none⟩ = some (.int .u32 (x.seq : Int)) := by simp [World.cell?, hby, q2]
   have y3 : W2.cell? ⟨wr.heap.size, 3, none⟩ = some (.int .u32 (x.time : Int)) := by simp [World.cell?, hby, q3]
   have hk1 := HXO.out.kind
   have hk2 := HXO.out.seq
   have hk3 := HXO.out.time
   have z5 : w1.heap.size < w3.heap.size := by omega
   have z6 : wr.heap.size < W2.heap.size := by omega
   have z7 : w1.heap.size < W2.heap.size := by omega
   have g0' : ∀ o, (W2.alloc o).cell? ⟨w1.heap.size, 0, none⟩ = some (.int .i64 a.seq) := fun o => (World.cell?_alloc_lt W2 o ⟨w1.heap.size, 0, none⟩ z7).trans g0
   have gf' : ∀ o i, (W2.alloc o).frozen? ⟨w1.heap.size, i, none⟩ = false := fun o i => (World.frozen?_alloc_old W2 o ⟨w1.heap.size, i, none⟩ (Nat.ne_of_lt z7)).trans (gf i)
   have y0' : ∀ o, (W2.alloc o).cell? ⟨wr.heap.size, 0, none⟩ = some (.int .u8 (x.kind : Int)) := fun o => (World.cell?_alloc_lt W2 o ⟨wr.heap.size, 0, none⟩ z6).trans y0
   have y2' : ∀ o, (W2.alloc o).cell? ⟨wr.heap.size, 2, none⟩ = some (.int .u32 (x.seq : Int)) := fun o => (World.cell?_alloc_lt W2 o ⟨wr.heap.size, 2, none⟩ z6).trans y2
   obtain ⟨J, hJ⟩ : ∃ J, x.kind / 16 % 4 = J := ⟨_, rfl⟩
   obtain ⟨S1, hS1⟩ : ∃ J, stepS x.kind = J := ⟨_, rfl⟩
   obtain ⟨R1, hR1⟩ : ∃ J, x.seq % S1 = J := ⟨_, rfl⟩
   have hJ4 : J < 4 := by omega
   have hSJ : (#[.int .i64 1, .int .i64 3, .int .i64 200, .int .i64 4294967296] : Array Value)[J]? = some (.int .i64 (S1 : Int)) ∧ 0 < S1 := by
    unfold stepS at hS1
    rw [hJ] at hS1
    have h4 : J = 0 ∨ J = 1 ∨ J = 2 ∨ J = 3 := by omega
    rcases h4 with rfl | rfl | rfl | rfl <;> (subst hS1; exact ⟨rfl, by decide⟩)
   have hlit : (W2.alloc (.cells #[.int .i64 1, .int .i64 3, .int .i64 200, .int .i64 4294967296] 3)).cell? ⟨W2.heap.size, J, none⟩ = some (.int .i64 (S1 : Int)) := by rw [World.cell?_alloc_new]; exact hSJ.1
   have hS0 : (0 : Int) < (S1 : Int) := by have := hSJ.2; omega
   have hS0' : ((S1 : Int) == 0) = false := by rw [beq_eq_false_iff_ne]; omega
   have hS0'' : (S1 : Int) ≠ 0 := by omega
   have htm : ((x.kind : Int) / 16).tmod 4 = (J : Int) := by rw [Int.tmod_eq_emod_of_nonneg (by omega), ← hJ]; simp
   have htr : ((x.seq : Int)).tmod (S1 : Int) = (R1 : Int) := by rw [Int.tmod_eq_emod_of_nonneg (by omega), ← hR1]; simp
   have hRb : R1 ≤ x.seq := by rw [← hR1]; exact Nat.mod_le _ _
   have HR1 := hide hR1
   have HS1 := hide hS1
   have hJi : 0 ≤ (J : Int) := by omega
   have hJi4 : (J : Int) < 4 := by omega
   have hR0 : 0 ≤ (R1 : Int) := by omega
   have hRm : (R1 : Int) ≤ 4294967296 := by omega
   have ha2' : a.seq ≤ 1958505087000000 := by omega
   have HQ := hide (And.intro q0 q3)
   clear hW2 hb5 q0 q2 q3 p1 hS hr hR1 hS1 hJ hSJ
   have hbs := qlm hB2 hB2.size (by omega : w.heap.size ≤ w1.heap.size) hbg hby hbe (by omega) (by omega) 0 (.int .i64 (a.seq + (1 + (R1 : Int)))) (.cells #[.int .i64 1, .int .i64 3, .int .i64 200, .int .i64 4294967296] 3)
   have HBS := hide hbs
   clear hbs hbg hby hbe
   go_frame
   go_cut [] from 32 to 47 (fun wx => Hid ((((W2.setCell ⟨w1.heap.size, 0, none⟩ (.int .i64 (a.seq + (1 + (R1 : Int))))).alloc (.cells #[.int .i64 1, .int .i64 3, .int .i64 200, .int .i64 4294967296] 3)).drew) = wx))
   case first =>
    go_region
    all_goals (go_wp2_with fail; go_meet; exact hide rfl)
   clear g0' gf' y0' y2' hlit g0 g1 gf y0 y2 y3 hS0 hS0' hS0'' htm htr hJi hJi4 hJ4
   have hW3 := hcut.out
   obtain ⟨b31, b32, b33, b34, b35, b36⟩ := HBS.out
   rw [hW3] at b31 b32 b33 b34 b35 b36
   clear hcut
   obtain ⟨W3, hWW⟩ : ∃ W3, wc = W3 := ⟨_, rfl⟩
   rw [hWW] at b31 b32 b33 b34 b35 b36 ⊢
   clear hWW
   go_wp2
   clear hW3 HBS
   have b31' : W3.heap[w1.heap.size]? = some (.cells #[.int .i64 (a.seq + (1 + (R1 : Int))), .int .i64 a.time] 26 (0, 0)) := b31
   clear b31
   have z8 : wr.heap.size < W3.heap.size := by omega
   have z9 : w1.heap.size < W3.heap.size := by omega
   have g0 : W3.cell? ⟨w1.heap.size, 0, none⟩ = some (.int .i64 (a.seq + (1 + (R1 : Int)))) := by simp [World.cell?, b31']
   have g1 : W3.cell? ⟨w1.heap.size, 1, none⟩ = some (.int .i64 a.time) := by simp [World.cell?, b31']
   have gf : ∀ o, W3.frozen? ⟨w1.heap.size, o, none⟩ = false := fun o => by simp [World.frozen?, b31']
   have y0 : W3.cell? ⟨wr.heap.size, 0, none⟩ = some (.int .u8 (x.kind : Int)) := by simp [World.cell?, b32, HQ.out.1]
   have y3 : W3.cell? ⟨wr.heap.size, 3, none⟩ = some (.int .u32 (x.time : Int)) := by simp [World.cell?, b32, HQ.out.2]
   have g1' : ∀ o, (W3.alloc o).cell? ⟨w1.heap.size, 1, none⟩ = some (.int .i64 a.time) := fun o => (World.cell?_alloc_lt W3 o ⟨w1.heap.size, 1, none⟩ z9).trans g1
   have gf' : ∀ o i, (W3.alloc o).frozen? ⟨w1.heap.size, i, none⟩ = false := fun o i => (World.frozen?_alloc_old W3 o ⟨w1.heap.size, i, none⟩ (Nat.ne_of_lt z9)).trans (gf i)
   have y0' : ∀ o, (W3.alloc o).cell? ⟨wr.heap.size, 0, none⟩ = some (.int .u8 (x.kind : Int)) := fun o => (World.cell?_alloc_lt W3 o ⟨wr.heap.size, 0, none⟩ z8).trans y0
   have y3' : ∀ o, (W3.alloc o).cell? ⟨wr.heap.size, 3, none⟩ = some (.int .u32 (x.time : Int)) := fun o => (World.cell?_alloc_lt W3 o ⟨wr.heap.size, 3, none⟩ z8).trans y3
   obtain ⟨J2, hJ⟩ : ∃ J, x.kind / 64 = J := ⟨_, rfl⟩
   obtain ⟨S2, hS2⟩ : ∃ J, stepT x.kind = J := ⟨_, rfl⟩
   obtain ⟨R2, hR2⟩ : ∃ J, x.time % S2 = J := ⟨_, rfl⟩
   have hJ4 : J2 < 4 := by omega
   have hSJ : (#[.int .i64 1, .int .i64 300, .int .i64 100000, .int .i64 4294967296] : Array Value)[J2]? = some (.int .i64 (S2 : Int)) ∧ 0 < S2 := by
    unfold stepT at hS2
    rw [hJ] at hS2
    have h4 : J2 = 0 ∨ J2 = 1 ∨ J2 = 2 ∨ J2 = 3 := by omega
    rcases h4 with rfl | rfl | rfl | rfl <;> (subst hS2; exact ⟨rfl, by decide⟩)
   have hlit : (W3.alloc (.cells #[.int .i64 1, .int .i64 300, .int .i64 100000, .int .i64 4294967296] 3)).cell? ⟨W3.heap.size, J2, none⟩ = some (.int .i64 (S2 : Int)) := by rw [World.cell?_alloc_new]; exact hSJ.1
   have hS0 : (0 : Int) < (S2 : Int) := by have := hSJ.2; omega
   have hS0' : ((S2 : Int) == 0) = false := by rw [beq_eq_false_iff_ne]; omega
   have hS0'' : (S2 : Int) ≠ 0 := by omega
   have htm : (x.kind : Int) / 64 = (J2 : Int) := by rw [← hJ]; simp
   have htr : ((x.time : Int)).tmod (S2 : Int) = (R2 : Int) := by rw [Int.tmod_eq_emod_of_nonneg (by omega), ← hR2]; simp
   have hRb2 : R2 ≤ x.time := by rw [← hR2]; exact Nat.mod_le _ _
   have HR2 := hide hR2
   have HS2 := hide hS2
   have hJi : 0 ≤ (J2 : Int) := by omega
   have hJi4 : (J2 : Int) < 4 := by omega
   have hR20 : 0 ≤ (R2 : Int) := by omega
   have hR2m : (R2 : Int) ≤ 4294967296 := by omega
   have ha4' : a.time ≤ 1958505087000000 := by omega
   have hbs := qlm b34 b34.size (by omega : w.heap.size ≤ w1.heap.size) b31' b32 b33 (by omega) (by omega) 1 (.int .i64 (a.time + (R2 : Int))) (.cells #[.int .i64 1, .int .i64 300, .int .i64 100000, .int .i64 4294967296] 3)
   have HBS := hide hbs
   clear hJ4 hR2 hS2 hJ hSJ hbs b31' b32 b33
   go_cut [] from 48 to 61 (fun wx => Hid ((((W3.setCell ⟨w1.heap.size, 1, none⟩ (.int .i64 (a.time + (R2 : Int)))).alloc (.cells #[.int .i64 1, .int .i64 300, .int .i64 100000, .int .i64 4294967296] 3)).drew) = wx))
   case first =>
    go_region
    all_goals (go_wp2_with fail; go_meet; exact hide rfl)
   clear gf' y0' y3' hlit g1 g0 gf y0 y3 hS0 hS0' hS0'' htm htr hJi hJi4 g1'
   have hW4 := hcut.out
   obtain ⟨b41, b42, b43, b44, b45, b46⟩ := HBS.out
   rw [hW4] at b41 b42 b43 b44 b45 b46
   clear hcut
   obtain ⟨W4, hWW⟩ : ∃ W4, wc = W4 := ⟨_, rfl⟩
   rw [hWW] at b41 b42 b43 b44 b45 b46 ⊢
   clear hWW
   go_wp2
   clear hW4 HBS
   have b41' : W4.heap[w1.heap.size]? = some (.cells #[.int .i64 (a.seq + (1 + (R1 : Int))), .int .i64 (a.time + (R2 : Int))] 26 (0, 0)) := b41
   clear b41
   have g0 : W4.cell? ⟨w1.heap.size, 0, none⟩ = some (.int .i64 (a.seq + (1 + (R1 : Int)))) := by simp [World.cell?, b41']
   have g1 : W4.cell? ⟨w1.heap.size, 1, none⟩ = some (.int .i64 (a.time + (R2 : Int))) := by simp [World.cell?, b41']
   have z10 : w3.heap.size ≠ w1.heap.size := by omega
   have e0 : W4.cell? ⟨w3.heap.size, 0, none⟩ = some (.int .i64 y.ev.seq) := by simp [World.cell?, b43, ← HES.out, Ev.cells]
   have e1 : W4.cell? ⟨w3.heap.size, 1, none⟩ = some (.int .i64 y.ev.time) := by simp [World.cell?, b43, ← HES.out, Ev.cells]
   have ef : ∀ o, W4.frozen? ⟨w3.heap.size, o, none⟩ = false := fun o => by simp [World.frozen?, b43]
   have HZ1 := hide (qu (y.ev.moved (a.seq + (1 + (R1 : Int))) (a.time + (R2 : Int))))
   have HZ2 := hide (qaa (y.ev.moved (a.seq + (1 + (R1 : Int))) (a.time + (R2 : Int))))
   have hmv := qo8 b44 (by omega : w.heap.size ≤ w3.heap.size) b41' (by rw [HES.out]; exact b43) (by omega) (a.seq + (1 + (R1 : Int))) (a.time + (R2 : Int)) _ (Or.inl rfl)
   obtain ⟨z, hz'⟩ : ∃ z, y.ev.moved (a.seq + (1 + (R1 : Int))) (a.time + (R2 : Int)) = z := ⟨_, rfl⟩
   rw [hz'] at HZ1 HZ2 hmv
   have hcz : z.cells = #[.int .i64 z.seq, .int .i64 z.time, .int .u8 (z.cpu : Int), .int .u8 (z.kind : Int), .int .i64 z.task, .int .i64 z.group, .int .i64 z.to, .int .i64 z.weight, .int .i64 z.ticks, .int .u64 (z.mask : Int), .int .i64 z.got] := rfl
   rw [hcz] at HZ1 HZ2 hmv
   have HMV := hide hmv
   have HZE := hide hz'
   clear hmv hz' hcz
   have HEV1 := hide (qaa z)
   have HZC := hide (qd HMV.out.2.1)
   have hch : Chg [w1.heap.size] wr W4 := (((((Chg.refl _ wr).alloc (.cells ys 124)).qpn hb4).alloc (.cells es 45)).qf1 (HW2.out ▸ b36) (fun g hg => by cases hg; simp)).qf1 b46 (fun g hg => by cases hg; simp)
   have hch2 := hch.qf1 HMV.out.2.2.2 (fun g hg => by cases hg; exact .inr (by omega))
   have HOX := hide (qo9 ((hch2.keep (Nat.zero_le _)).ownsRow hown (fun g hg => by have := hne g hg; simpa using this)))
   have HSX := hide (qsn W4 ⟨w3.heap.size, 0, none⟩ ⟨w3.heap.size, 1, none⟩ (.int .i64 (a.seq + (1 + (R1 : Int)))) (.int .i64 (a.time + (R2 : Int))))
   have HTF := hide (qpa (Og := .cells (Bs.cells ⟨a.seq + (1 + (R1 : Int)), a.time + (R2 : Int)⟩) 26 (0, 0)) HMV.out.1 HMV.out.2.2.1 (by rw [HSX.out]; omega))
   have hc1 : (k + 1) * 80 ≤ 140737488355328 := by omega
   have hc2 : k + 1 ≤ 9223372036854775807 := by omega
   have z11 : w.heap.size ≤ W4.heap.size := by omega
   have z12 : k + 1 ≤ 1000 := by omega
   go_region
   all_goals
    clear e0 e1 ef g0 g1
    go_wp2_with (first
     | (with_reducible refine zf HZC.out rfl rfl rfl si_ev HZ1.out ?_)
     | (at_builtin; refine qdd rfl rfl ei_ev ((HOX.out.alloc _).drew) rfl (Rd.qxm _ (evL z) _ 11 W4.heap.size HSX.out rfl) rfl HEV1.out hc1 hc2 (HTF.out _).1 ?_; intro A2 c2 w5 hown5 hgr5 hbl5))
    refine ⟨qpb hlt hsp HDR.out (qw7 HYX.out HS1.out HR1.out HS2.out HR2.out HZE.out _) hpl hne (fun h hh => (hown.lt h hh).1) (HTF.out _) hown5 hgr5 hbl5 ?_ ?_ ?_ ?_, by simp [intOf]; omega⟩
    ·show 0 ≤ a.seq + (1 + (R1 : Int)); omega
    ·show a.seq + (1 + (R1 : Int)) ≤ _; omega
    ·show 0 ≤ a.time + (R2 : Int); omega
    ·show a.time + (R2 : Int) ≤ _; omega
  ·obtain rfl : k = M := by omega
   have h1 : List.drop k (List.take k l) = [] := by rw [List.drop_eq_nil_of_le]; omega
   rw [h1] at hsp
   have h2 : List.take 200 l = List.take k l := by
    have h3 := HM.out
    have h4 := HLN.out
    rcases Nat.lt_or_ge n 200 with h5 | h5
    ·rw [List.take_of_length_le (by omega), List.take_of_length_le (by omega)]
    ·rw [show k = 200 by omega]
   have h3 : madeL cpu b l = pre := by
    unfold madeL
    rw [h2, hsp]
    simp [qb7]
   have H3 := hide h3
   clear h1 h2 h3 hsp
   go_wp2
   go_ret
   refine ⟨⟨_, rfl, ?_⟩, hB⟩
   rw [H3.out, hpl]
   exact hown
section
variable {P : Program} {S : World → Prop} {σ : List (Nat × Value)} {o : Oper} {v : Value}
def qsa (P : Program) (t : TypeId) : Bool := match P.underlying t with
 | some (.pointer _) => true
 | _ => false
theorem qsb {t : TypeId} {a : Option Addr} (ht : qsa P t = true) (w : World) : (Op.equal t (.pointer a) (.pointer none)).run P w = .ok a.isNone w := by
 unfold qsa at ht
 split at ht
 ·rename_i hu
  show (Op.equalIn (9999 + 1) t (.pointer a) (.pointer none)).run P w = _
  unfold Op.equalIn
  cases a <;> simp only [Sem.run_bind, run_underlying hu, Result.andThen_ok] <;> rfl
 ·cases ht
theorem quu {t : TypeId} {a : Option Addr} {m c m' c' : Nat} (ht : isSl P t = true) (w : World) : (Op.equal t (.slice a m c) (.slice none m' c')).run P w = .ok a.isNone w := by
 unfold isSl at ht
 split at ht
 ·rename_i hu
  show (Op.equalIn (9999 + 1) t (.slice a m c) (.slice none m' c')).run P w = _
  unfold Op.equalIn
  cases a <;> simp only [Sem.run_bind, run_underlying hu, Result.andThen_ok] <;> rfl
 ·cases ht
theorem Yl.ql1 {b : Bool} {t u : TypeId} {x y : Operand} {a : Option Addr} (hop : o.op = .binOp .eql t x y u) (hx : look σ x = some (.pointer a)) (hy : look σ y = some (.pointer none)) (hb : a.isNone = b := by rfl) (ht : qsa P t = true := by kernel_rfl) : Yl P S σ o (.bool b) := fun _ n D HF w hS => by
 subst hb
 unfold execOp
 have e : (binOp .eql t (.pointer a) (.pointer none)).run P w = .ok (.bool a.isNone) w := by
  show ((do Pure.pure (.bool (← Op.equal t (.pointer a) (.pointer none))) : Sem Value)).run P w = _
  simp [qsb ht]
 simp only [hop, HF.eval hx, HF.eval hy, Sem.run_bind, qaj (P := P) .eql t x y (a := .pointer a) rfl, Result.andThen_ok, e, Sem.run_pure]
theorem Yl.qy2 {b : Bool} {t u : TypeId} {x y : Operand} {a : Option Addr} {m c m' c' : Nat} (hop : o.op = .binOp .eql t x y u) (hx : look σ x = some (.slice a m c)) (hy : look σ y = some (.slice none m' c')) (hb : a.isNone = b := by rfl) (ht : isSl P t = true := by kernel_rfl) : Yl P S σ o (.bool b) := fun _ n D HF w hS => by
 subst hb
 unfold execOp
 have e : (binOp .eql t (.slice a m c) (.slice none m' c')).run P w = .ok (.bool a.isNone) w := by
  show ((do Pure.pure (.bool (← Op.equal t (.slice a m c) (.slice none m' c'))) : Sem Value)).run P w = _
  simp [quu ht]
 simp only [hop, HF.eval hx, HF.eval hy, Sem.run_bind, qaj (P := P) .eql t x y (a := .slice a m c) rfl, Result.andThen_ok, e, Sem.run_pure]
theorem Yl.nilCheck {x : Operand} {p : Addr} (hop : o.op = .nilCheck x) (hx : look σ x = some (.pointer (some p))) : Yl P S σ o (.pointer (some p)) := fun _ n D HF w hS => by
 unfold execOp
 simp only [hop, HF.eval hx]
 rfl
end
section
variable {P : Program} {S : World → Prop} {σ : List (Nat × Value)} {o : Oper} {b : Bool}
end
section
variable {P : Program} {S : World → Prop} {σ : List (Nat × Value)} {o : Oper}
end
section
variable {P : Program} {Q : Exit → Act → World → Prop} {W : World} {a : Act} {w : World} {n d : Nat} {D : List Deferred} {σ : List (Nat × Value)} {fs : List Fact} {o : Oper} {K : Act → World → Prop}
end
def SizeJ (w : World) (k : Nat) (W : World) : Prop := W.heap[w.heap.size]? = some (.cells #[.int .i64 (k : Int)] 3 (0, 0)) ∧ w.grownBy W none ∧ w.heap.size + 2 ≤ W.heap.size
def SizeA (w : World) (x k : Nat) (a' : Act) (_ : World) : Prop :=
 ∃ p, (grp 10 x)[k]? = some p ∧ a' = { tmps := #[.int .u64 (x : Int), undef, .int .i64 0, .pointer (some ⟨w.heap.size, 0, none⟩), .int .u64 (x : Int), .func (.func 93) #[] #[.pointer (some ⟨w.heap.size + 1, 0, none⟩)], .int .u8 (p.1 : Int), .bool p.2, undef, undef, undef], defers := [] }
theorem qum {W : World} {g : Nat} {x y : Value} {t : TypeId} (h : W.heap[g]? = some (.cells #[x] t (0, 0))) : (W.setCell ⟨g, 0, none⟩ y).heap[g]? = some (.cells #[y] t (0, 0)) := by
 simp [World.setCell, Array.getElem?_modify, h]
set_option maxRecDepth 100000 in
set_option maxHeartbeats 400000 in
theorem qru (x : Nat) (w : World) (hx : x < 18446744073709551616) :
  Calls Tryd.prog 59 #[.int .u64 (x : Int)] w fun e w' => e = .returned (.int .i64 ((vbytes x).length : Int)) ∧ Below w.heap.size w w' := by
 refine callsIn_wide.1 (callsIn_of_wp_marks (n := 0) Tryd.func59 rfl trivial ?_ rfl)
 simp only [Tryd.ntmps59, List.size_toArray, List.length_cons, List.length_nil, Nat.reduceAdd, Nat.reduceSub, Array.replicate_succ, Array.replicate_zero, List.push_toArray, List.append_toArray, List.nil_append, List.cons_append]
 gi_wp2_with (refine ⟨trivial, rfl, ?_⟩; refine (callsIn_wide.2 (qh1 x _)).mono ?_; rintro e w' ⟨rfl, rfl⟩)
 obtain ⟨W0, hW0⟩ : ∃ W0, W0 = (w.alloc (.cells #[.int .i64 0] 3)).alloc (.cells #[.int .u64 (x : Int)] 43) := ⟨_, rfl⟩
 have hsz : W0.heap.size = w.heap.size + 2 := by rw [hW0]; simp
 have hlen := qdx 10 x
 have hbx : W0.heap[w.heap.size]? = some (.cells #[.int .i64 0] 3 (0, 0)) := by
  subst hW0
  exact (Below.heap_alloc _ _ _ (by simp)).trans (World.alloc_heap_new w _)
 have hgr : w.grownBy W0 none := by subst hW0; exact (World.grownBy_alloc w _ _).trans (World.grownBy_alloc _ _ _)
 have hxc : W0.cell? ⟨w.heap.size + 1, 0, none⟩ = some (.int .u64 (x : Int)) := by subst hW0; have := World.cell?_alloc_new (w.alloc (.cells #[.int .i64 0] 3)) #[.int .u64 (x : Int)] 43 0; rw [World.size_alloc] at this; exact this
 have hxf : W0.frozen? ⟨w.heap.size + 1, 0, none⟩ = false := by subst hW0; have := World.frozen?_alloc_new (w.alloc (.cells #[.int .i64 0] 3)) #[.int .u64 (x : Int)] 43 0; rw [World.size_alloc] at this; exact this
 rw [← hW0]
 clear hW0
 refine qi0 rfl (enters_of Tryd.func93 (by kernel_rfl) rfl) (qf3 (w.heap.size + 1) x W0 hx hxc hxf) (by intro y hy; obtain ⟨p, _, rfl⟩ := List.mem_map.1 hy; rfl) (by simp [hsz])
  (fun _ b => b = w.heap.size) (SizeJ w) (fun _ _ _ => False) ?hJ ?hJx ?hJ0 ?hJx0 ?hTd ?hN ?h0 (SizeA w x) ?hA ?hassign ?hbody ?hdone ?hstop
 case hJ =>
  rintro k W W' ⟨hb, hg, hs⟩ hk
  have h1 : w.heap.size ∉ [w.heap.size + 1] := by simp
  exact ⟨⟨hk.obj _ _ hb rfl h1, Keep.grown hg hk (by omega) (by simp), Nat.le_trans hs hk.size⟩, fun b h => h⟩
 case hJx => exact fun _ _ _ _ h _ => h.elim
 case hJ0 => rintro k W ⟨_, _, hs⟩; omega
 case hJx0 => exact fun _ _ _ h => h.elim
 case hTd => rintro k W b ⟨hb, _⟩ rfl; exact ⟨_, hb, rfl⟩
 case hN => rintro b rfl ht; omega
 case h0 => exact ⟨hbx, hgr, by omega⟩
 case hA => exact fun _ _ _ _ h _ => h
 case hassign =>
  rintro l k hk W _
  simp only [List.getElem_map, encG]
  have hp : (grp 10 x)[k]? = some ((grp 10 x)[k]'(by simpa using hk)) := List.getElem?_eq_getElem _
  generalize (grp 10 x)[k]'(by simpa using hk) = p at hp
  gi_wp2
  exact ⟨Chg.refl _ _, p, hp, by simp⟩
 case hbody =>
  rintro l k a' W hk hl hr ⟨p, hp, rfl⟩ ⟨hb, hg, hs⟩
  have hc : W.cell? ⟨w.heap.size, 0, none⟩ = some (.int .i64 (k : Int)) := by simp [World.cell?, hb]
  have hf : W.frozen? ⟨w.heap.size, 0, none⟩ = false := by simp [World.frozen?, hb]
  have hkl : k < (grp 10 x).length := by simpa using hk
  have hki : (k : Int) ≤ 10 := by omega
  have HB := hide hb
  have HG := hide hg
  clear hp hr hb hg hbx hgr
  gi_wp2
  rw [Oper.semAt_eq _ _ _ (by intro c h; cases h)]
  have e1 : ∀ (ρ : Operand → Value) (o : Oper), o.op = .load 3 (.tmp 3) → ρ (.tmp 3) = .pointer (some ⟨w.heap.size, 0, none⟩) → (execOp ρ o).run Tryd.prog W = .ok (.value (.int .i64 (k : Int))) W := fun ρ o h1 h2 => by
   have hone : (isAgg 3).run Tryd.prog W = .ok false W := by kernel_rfl
   unfold execOp
   simp [h1, h2, Instr.loadAt, Instr.sureAddr, loadVar, hone, load, Sem.run, hc]
  rw [e1 _ _ rfl rfl, Oper.uponIn_value]
  gi_wp2
  rw [Oper.semAt_eq _ _ _ (by intro c h; cases h)]
  have e2 : ∀ (ρ : Operand → Value) (o : Oper), o.op = .binOp .add 3 (.tmp 8) (.const (.int .i64 1)) 3 → ρ (.tmp 8) = .int .i64 (k : Int) → ρ (.const (.int .i64 1)) = .int .i64 1 → (execOp ρ o).run Tryd.prog W = .ok (.value (.int .i64 ((k : Int) + 1))) W := fun ρ o h1 h2 h3 => by
   unfold execOp
   have e : IntKind.i64.wrap ((k : Int) + 1) = (k : Int) + 1 := IntWalk.i64_in _ (by omega)
   have eb : (binOp .add 3 (.int .i64 (k : Int)) (.int .i64 1)).run Tryd.prog W = .ok (.int .i64 ((k : Int) + 1)) W := by rw [qdy (P := Tryd.prog) (v := .int .i64 (IntKind.i64.wrap ((k : Int) + 1))) rfl 3 W, e]
   simp only [h1, h2, h3, Sem.run_bind, qaj (P := Tryd.prog) .add 3 (.tmp 8) (.const (.int .i64 1)) (a := .int .i64 (k : Int)) rfl, Result.andThen_ok, eb, Sem.run_pure]
  rw [e2 _ _ rfl rfl rfl, Oper.uponIn_value]
  gi_wp2
  rw [Oper.semAt_eq _ _ _ (by intro c h; cases h)]
  have e3 : ∀ (ρ : Operand → Value) (o : Oper), o.op = .store 3 (.tmp 3) (.tmp 9) → ρ (.tmp 3) = .pointer (some ⟨w.heap.size, 0, none⟩) → ρ (.tmp 9) = .int .i64 ((k : Int) + 1) → (execOp ρ o).run Tryd.prog W = .ok .skip (W.setCell ⟨w.heap.size, 0, none⟩ (.int .i64 ((k : Int) + 1))) := fun ρ o h1 h2 h3 => by
   unfold execOp
   simp only [h1, h2, h3, Sem.run_bind, qc4 (P := Tryd.prog) (t := 3) (v := .int .i64 ((k : Int) + 1)) (by kernel_rfl) rfl hc hf, Result.andThen_ok, Sem.run_pure]
  rw [e3 _ _ rfl rfl rfl, Oper.uponIn_skip]
  gi_wp2
  have hst : ChgT (fun _ b => b = w.heap.size) W (W.setCell ⟨w.heap.size, 0, none⟩ (.int .i64 ((k : Int) + 1))) :=
   ⟨rfl, rfl, rfl, by simp [World.setCell], fun b _ hT => Below.heap_setCell _ _ _ _ hT, fun b h => .inl h⟩
  refine ⟨hst, ?_, ?_, by have := hst.size; omega⟩
  ·exact qum HB.out
  ·exact hst.grown HG.out (fun b hb1 hb2 => by omega)
 case hdone =>
  rintro D W hD ⟨hb, hg, hs⟩ hK
  have HG := hide hg
  have hc : W.cell? ⟨w.heap.size, 0, none⟩ = some (.int .i64 (((grp 10 x).map encG).length : Int)) := by simp [World.cell?, hb]
  have hkp : Keep W0.heap.size [] W (W.putObj D (.deferred none)) := Keep.putObj W _ hK rfl hD
  clear hb hg hbx hgr
  gi_wp2
  refine ⟨by simp, .inl ⟨_, _, rfl, run_takeDeferred hK, ?_⟩⟩
  refine ⟨_, results_tmp rfl _ _ _, ?_, ?_⟩
  ·simp [vbytes]
  ·exact (Below.refl _ _).grown (Keep.grown HG.out hkp (by omega) (by simp)) (Nat.le_refl _) (fun _ h => by cases h)
 case hstop => exact fun _ _ _ _ _ _ _ h _ => h.elim
def intAt (xs : Array Value) (i : Nat) : Int := match xs[i]? with
 | some (.int _ n) => n
 | _ => 0
def qjf (P : Program) (f : Field) (i : Nat) : Bool := f.name != "_" && (f.offset == i && (isOne P f.type && match P.underlying f.type with
 | some (.int _) => true
 | _ => false))
theorem qe1 {P : Program} (d : Nat) (xs ys : Array Value) : ∀ (fs : List Field) (i : Nat) (w : World), (∀ j, j < fs.length → ∃ f k a b, fs[j]? = some f ∧ qjf P f (i + j) = true ∧ xs[i + j]? = some (.int k a) ∧ ys[i + j]? = some (.int k b)) →
  (Op.eqFields (d + 1) xs ys fs).run P w = .ok ((List.range fs.length).all fun j => intAt xs (i + j) == intAt ys (i + j)) w
 | [], i, w, _ => rfl
 | f :: fs, i, w, h => by
  obtain ⟨f', k, a, b, hf, hb, hx, hy⟩ := h 0 (by simp)
  simp only [List.getElem?_cons_zero, Option.some.injEq] at hf
  subst hf
  simp only [qjf, Bool.and_eq_true, bne_iff_ne, beq_iff_eq, Nat.add_zero] at hb
  obtain ⟨h1, h2, h3, h4⟩ := hb
  rw [Nat.add_zero] at hx hy
  have ih := qe1 d xs ys fs (i + 1) w (fun j hj => by
   obtain ⟨f, k, a, b, hf, hb, hx, hy⟩ := h (j + 1) (by simpa using hj)
   refine ⟨f, k, a, b, by simpa using hf, ?_, ?_, ?_⟩
   ·rw [show i + 1 + j = i + (j + 1) by omega]; exact hb
   ·rw [show i + 1 + j = i + (j + 1) by omega]; exact hx
   ·rw [show i + 1 + j = i + (j + 1) by omega]; exact hy)
  have hu : ∃ k', P.underlying f.type = some (.int k') := by
   split at h4
   ·rename_i k' hk; exact ⟨k', hk⟩
   ·cases h4
  obtain ⟨k', hu⟩ := hu
  have hxi : intAt xs i = a := by simp [intAt, hx]
  have hyi : intAt ys i = b := by simp [intAt, hy]
  have e : (List.range (f :: fs).length).all (fun j => intAt xs (i + j) == intAt ys (i + j)) = ((a == b) && (List.range fs.length).all fun j => intAt xs (i + 1 + j) == intAt ys (i + 1 + j)) := by
   rw [List.length_cons, List.range_succ_eq_map, List.all_cons, Nat.add_zero, hxi, hyi, List.all_map]
   congr 2
   funext j
   simp only [Function.comp_apply, Nat.succ_eq_add_one]
   rw [show i + (j + 1) = i + 1 + j by omega]
  rw [e]
  unfold Op.eqFields
  rw [if_pos h1]
  simp only [Sem.run_bind, part, qex h3, Result.andThen_ok, Bool.false_eq_true, if_false, h2, hx, hy, Sem.run_pure, run_equalIn_int w d f.type k k' a b hu]
  cases hab : (a == b)
  ·simp
  ·simp [ih]
def qe2 (P : Program) (t : TypeId) : Bool := !P.stoodInHeld t && (!P.eqGuardType P.depth t && ((P.fieldsOf t).size == 11 && ((List.range 11).all fun i => match (P.fieldsOf t).toList[i]? with
 | some f => qjf P f i
 | none => false)))
theorem qmb {P : Program} {t : TypeId} (h : (P.fieldsOf t).size = 11) : P.underlying t = some (.struct (P.fieldsOf t)) := by
 unfold Program.fieldsOf at h ⊢
 split at h
 ·rename_i fs hu; rw [hu]
 ·cases h
theorem qqw (e : Ev) : ∀ i, i < 11 → ∃ k, e.cells[i]? = some (.int k (intAt e.cells i)) ∧ ∀ e' : Ev, e'.cells[i]? = some (.int k (intAt e'.cells i)) := by
 intro i hi
 have h : i = 0 ∨ i = 1 ∨ i = 2 ∨ i = 3 ∨ i = 4 ∨ i = 5 ∨ i = 6 ∨ i = 7 ∨ i = 8 ∨ i = 9 ∨ i = 10 := by omega
 rcases h with rfl | rfl | rfl | rfl | rfl | rfl | rfl | rfl | rfl | rfl | rfl <;> exact ⟨_, rfl, fun _ => rfl⟩
instance evDec : DecidableEq Ev := fun ⟨a0, a1, a2, a3, a4, a5, a6, a7, a8, a9, a10⟩ ⟨b0, b1, b2, b3, b4, b5, b6, b7, b8, b9, b10⟩ =>
 decidable_of_iff (a0 = b0 ∧ a1 = b1 ∧ a2 = b2 ∧ a3 = b3 ∧ a4 = b4 ∧ a5 = b5 ∧ a6 = b6 ∧ a7 = b7 ∧ a8 = b8 ∧ a9 = b9 ∧ a10 = b10) (by rw [Ev.mk.injEq])
theorem qx6 (x y : Ev) : ((List.range 11).all fun j => intAt x.cells (0 + j) == intAt y.cells (0 + j)) = decide (x = y) := by
 rw [Bool.eq_iff_iff, decide_eq_true_eq]
 constructor
 ·intro h
  have g : ∀ j, j < 11 → intAt x.cells j = intAt y.cells j := fun j hj => by
   have := List.all_eq_true.1 h j (List.mem_range.2 hj)
   simpa using this
  obtain ⟨a0, a1, a2, a3, a4, a5, a6, a7, a8, a9, a10⟩ := x
  obtain ⟨b0, b1, b2, b3, b4, b5, b6, b7, b8, b9, b10⟩ := y
  have g0 : a0 = b0 := g 0 (by decide)
  have g1 : a1 = b1 := g 1 (by decide)
  have g2 : (a2 : Int) = b2 := g 2 (by decide)
  have g3 : (a3 : Int) = b3 := g 3 (by decide)
  have g4 : a4 = b4 := g 4 (by decide)
  have g5 : a5 = b5 := g 5 (by decide)
  have g6 : a6 = b6 := g 6 (by decide)
  have g7 : a7 = b7 := g 7 (by decide)
  have g8 : a8 = b8 := g 8 (by decide)
  have g9 : (a9 : Int) = b9 := g 9 (by decide)
  have g10 : a10 = b10 := g 10 (by decide)
  have g2' : a2 = b2 := by omega
  have g3' : a3 = b3 := by omega
  have g9' : a9 = b9 := by omega
  subst g0 g1 g2' g3' g4 g5 g6 g7 g8 g9' g10
  rfl
 ·rintro rfl
  simp
theorem qtv {P : Program} {t : TypeId} (ht : qe2 P t = true) (x y : Ev) (w : World) : (Op.equal t (.agg x.cells) (.agg y.cells)).run P w = .ok (decide (x = y)) w := by
 simp only [qe2, Bool.and_eq_true, Bool.not_eq_true', beq_iff_eq] at ht
 obtain ⟨h1, _, h3, h4⟩ := ht
 unfold Op.equal
 rw [show Op.maxDepth = 9998 + 1 + 1 from rfl, run_equalIn_struct w 9999 t _ _ (qmb h3) h1, qe1 9998 _ _ _ 0 w]
 ·rw [Array.length_toList, h3, qx6]
 ·intro j hj
  rw [Array.length_toList, h3] at hj
  have := List.all_eq_true.1 h4 j (List.mem_range.2 hj)
  split at this
  ·rename_i f hf
   obtain ⟨k, hk, hk'⟩ := qqw x j hj
   rw [Nat.zero_add]
   exact ⟨f, k, _, _, hf, this, hk, hk' y⟩
  ·cases this
theorem qok {P : Program} {t : TypeId} (ht : qe2 P t = true) (op : BinOp) (x y : Operand) (a b : Array Value) (w : World) : (eqGuard op t x y (.agg a) (.agg b)).run P w = .ok () w := by
 simp only [qe2, Bool.and_eq_true, Bool.not_eq_true', beq_iff_eq] at ht
 obtain ⟨_, h2, _⟩ := ht
 unfold eqGuard
 cases op <;> simp <;> simp [h2]
section
variable {P : Program} {S : World → Prop} {σ : List (Nat × Value)} {o : Oper}
theorem Yl.qyr {t u : TypeId} {p q : Operand} {x y : Ev} (hop : o.op = .binOp .neq t p q u) (hx : look σ p = some (.agg x.cells)) (hy : look σ q = some (.agg y.cells)) (ht : qe2 P t = true) : Yl P S σ o (.bool (!decide (x = y))) := fun a n D HF w hS => by
 unfold execOp
 have e : (binOp .neq t (.agg x.cells) (.agg y.cells)).run P w = .ok (.bool (!decide (x = y))) w := by
  show ((do Pure.pure (.bool (!(← Op.equal t (.agg x.cells) (.agg y.cells)))) : Sem Value)).run P w = _
  simp [qtv ht]
 simp only [hop, HF.eval hx, HF.eval hy, Sem.run_bind, qok ht, Result.andThen_ok, e, Sem.run_pure]
end
def Bk.cells (b : Bk) (A : Option Addr) (c : Nat) : Array Value := #[.int .u8 (b.kind : Int), .int .u8 (b.cpu : Int), .int .i64 b.lost, .int .i64 b.next, .slice A b.evs.length c]
theorem qb3 (b : Bk) (A : Option Addr) (c : Nat) : ∀ v ∈ (b.cells A c).toList, v.oneCell' = true := by intro v hv; simp [Bk.cells] at hv; rcases hv with rfl | rfl | rfl | rfl | rfl <;> rfl
theorem si_bk : SI Tryd.prog 41 5 := ⟨by kernel_rfl, by kernel_rfl⟩
theorem ei_bb : EI Tryd.prog 154 54 (.slice none 0 0) 1 24 := ⟨by kernel_rfl, by kernel_rfl, rfl, by omega⟩
theorem si_a2 : SI Tryd.prog 105 2 := ⟨by kernel_rfl, by kernel_rfl⟩
structure LaidX (B : Nat) (w : World) : Prop where
 laid : Laid B w
 halves : ∀ k, k < 16 → w.cell? ⟨2, k, none⟩ = some (.int .u32 ((qax.getD k 0 : Nat) : Int))
 big3 : 2 < B
 magic0 : w.cell? ⟨0, 0, none⟩ = some (.int .u8 113)
 magic1 : w.cell? ⟨0, 1, none⟩ = some (.int .u8 116)
 big4 : 0 < B
theorem LaidX.qag {B : Nat} {w w' : World} (h : LaidX B w) (hk : ∀ p : Addr, p.block < B → w'.cell? p = w.cell? p) : LaidX B w' :=
 ⟨h.laid.qag hk, fun k hk' => (hk _ h.big3).trans (h.halves k hk'), h.big3, (hk _ h.big4).trans h.magic0, (hk _ h.big4).trans h.magic1, h.big4⟩
theorem LaidX.mem {B : Nat} {W w : World} {fs : List Fact} (h : LaidX B W) (hM : Mem W w fs) (hB : B ≤ W.heap.size) : LaidX B w := h.qag fun _ hp => hM.below.cell (by omega)
theorem LaidX.below {B B' : Nat} {w w' : World} (h : LaidX B w) (hb : Below B' w w') (hB : B ≤ B') : LaidX B w' := h.qag fun p hp => hb.cell (by omega)
theorem qg4 (k : Nat) (h : k < 16) : qax.getD k 0 < 4294967296 := by
 have : ∀ k, k < 16 → qax.getD k 0 < 4294967296 := by decide
 exact this k h
theorem qnh {B : Nat} {W w : World} {fs : List Fact} (h : LaidX B W) (hM : Mem W w fs) (hB : B ≤ W.heap.size) {k : Nat} (hk : k < 16) : w.cell? ⟨2, k * 1, none⟩ = some (.int .u32 ((qax.getD k 0 : Nat) : Int)) := by
 rw [Nat.mul_one]; exact (h.mem hM hB).halves k hk
theorem qt4 {B : Nat} {W w : World} {fs : List Fact} (h : LaidX B W) (hM : Mem W w fs) (hB : B ≤ W.heap.size) : w.rangeAt 0 0 (#[Value.int .u8 113, .int .u8 116] : Array Value).toList := fun j v hv => by
 have h1 := (h.mem hM hB).magic0
 have h2 := (h.mem hM hB).magic1
 rcases j with _ | _ | j
 ·simp at hv; subst hv; exact h1
 ·simp at hv; subst hv; exact h2
 ·simp at hv
def Is (w : World) (v : Value) (r : Ending) (w' : World) : Prop := r = .returned v ∧ Below w.heap.size w w'
def qai (w : World) (R : List Nat) (r : Ending) (w' : World) : Prop :=
 (∃ A c, r = .returned (.slice A R.length c) ∧ w'.ownsRow w.heap.size 5 1 (.slice A R.length c) R.length (R.map B8) ∧ R.length ≤ c) ∧ Below w.heap.size w w'
theorem qai.as {w w' : World} {R R' : List Nat} {r : Ending} (h : qai w R r w') (e : R = R') : qai w R' r w' := e ▸ h
theorem qkq {w w' : World} {R xs : List Nat} {n c : Nat} {A : Option Addr} (ho : w'.ownsRow w.heap.size 5 1 (.slice A n c) n (xs.map B8)) (hc : n ≤ c) (hn : n = R.length) (hx : xs = R) (hb : Below w.heap.size w w') : qai w R (.returned (.slice A n c)) w' := by
 subst hx; subst hn
 exact ⟨⟨A, c, rfl, ho, hc⟩, hb⟩
theorem qop {x : Nat} {w : World} (hx : x < 18446744073709551616) : Calls Tryd.prog 74 #[.slice none 0 0, .int .u64 (x : Int)] w (qai w (vbytes x)) :=
 (qp0 x w w.heap.size (.slice none 0 0) 0 [] hx (World.ownsRow_nil _ _ _ _) (Nat.le_refl _) (by omega)).mono fun e w' ⟨v, h1, h2, h3, _⟩ => by
  rw [Nat.zero_add, List.nil_append] at h2
  obtain ⟨A, c, rfl, hc⟩ := qdk h2
  exact ⟨⟨A, c, h1, h2, hc⟩, (Below.refl _ _).grown h3 (Nat.le_refl _) (fun g hg => by cases hg)⟩
theorem qq8 (A : Option Addr) (n c : Nat) (ls : List Nat) (w : World) (hr : Rd w w.heap.size 1 A n (ls.map U64)) (hls : ∀ x ∈ ls, x < 18446744073709551616) (hn : 10 * n ≤ 140737488355000) :
  Calls Tryd.prog 57 #[.slice A n c] w (qai w (ls.flatMap vbytes)) :=
 (qf4 A n c ls w hr hls hn).mono fun e w' ⟨v, h1, h2, h3⟩ => by
  obtain ⟨A, c, rfl, hc⟩ := qdk h2
  exact ⟨⟨A, c, h1, h2, hc⟩, h3⟩
theorem qg5 {b : Bk} (h : b.evs.length ≠ 0) : b.qgh = decide ((b.evs.getD 0 Ev.zero).cpu = b.cpu) := by
 unfold Bk.qgh
 cases hb : b.evs with
 | nil => rw [hb] at h; simp at h
 | cons e r => rfl
theorem qic {b : Bk} (h : b.evs.length = 0) : b.qgh = decide (0 < b.lost) := by
 unfold Bk.qgh
 rw [List.length_eq_zero_iff] at h
 rw [h]
theorem qq9 (b : Bk) : b.base = ⟨(b.evs.getD 0 Ev.zero).seq, (b.evs.getD 0 Ev.zero).time⟩ := by
 unfold Bk.base Ev.at
 cases b.evs <;> rfl
theorem qya (k : Nat) : k = 1 ∨ k = 2 ∨ (k ≠ 1 ∧ k ≠ 2) := by omega
theorem qni {b : Bk} (hok : b.Ok) (h : b.fits = true) (hk : b.kind ≠ 2) (hn : b.evs.length ≠ 0) : 0 ≤ b.base.seq ∧ b.base.seq ≤ 281474976710656 ∧ 0 ≤ b.base.time ∧ b.base.time ≤ 281474976710656 := by
 obtain ⟨e, r, g⟩ := qgk hok (qe6 h hk).2 hn
 have := g.right
 rw [← g.base] at this
 have h4 : 1 ≤ b.base.seq ∧ b.base.seq ≤ 281474976710656 ∧ 0 ≤ b.base.time ∧ b.base.time ≤ 281474976710656 := by simpa [Bs.right] using this
 omega
theorem qkr {b : Bk} (h : b.fits = true) (hk : b.kind ≠ 2) : b.kind = 1 ∧ 0 ≤ b.lost ∧ b.lost ≤ 281474976710656 ∧ b.cpu < 64 ∧ b.next = 0 := by
 obtain ⟨h1, h2⟩ := qe6 h hk
 unfold Bk.qcw at h2
 rw [decide_eq_true_eq] at h2
 omega
theorem qg6 {b : Bk} (h : b.fits = true) (hk : b.kind = 2) : 1 ≤ b.next ∧ b.next ≤ 281474976710657 ∧ b.cpu = 0 ∧ b.lost = 0 ∧ b.evs.length = 0 := by
 have h2 := qnf h hk
 unfold Bk.qf2 at h2
 rw [decide_eq_true_eq] at h2
 exact h2
theorem qmg (c : Nat) (l : List Nat) (x : Nat) : qw c (l ++ [x]) = qd1 (qw c l) x := by unfold qw; rw [List.foldl_append]; rfl
theorem qmh {c k : Nat} {l : List Nat} (h : k < l.length) : qw c (l.take (k + 1)) = qd1 (qw c (l.take k)) (l.getD k 0) := by
 rw [List.take_add_one, getD_at 0 h]; exact qmg _ _ _
theorem qbc {l : List Nat} {m : Nat} (h : ∀ b ∈ l, b < m) (k : Nat) : ∀ b ∈ l.take k, b < m := fun b hb => h b (List.mem_of_mem_take hb)
theorem qa7 {l : List Nat} {m : Nat} (h : ∀ b ∈ l, b < m) (k : Nat) : ∀ b ∈ l.drop k, b < m := fun b hb => h b (List.mem_of_mem_drop hb)
theorem qyb {c : Nat} (h : c < 4294967296) : nib c < 4294967296 := qe4 (by omega) (qg4 _ (by omega))
theorem qks (l : List Nat) : qz l < 4294967296 := by unfold qz; omega
theorem qvo (n : Nat) : ∀ b ∈ le4 n, b < 256 := by intro b hb; simp [le4] at hb; omega
theorem qra (n : Nat) : (le4 n).length = 4 := rfl
theorem qgl (l : List Nat) : (sealL l).length = l.length + 4 := by unfold sealL; rw [List.length_append, qra]
theorem qwr {l : List Nat} (hl : ∀ b ∈ l, b < 256) : ∀ b ∈ sealL l, b < 256 := by
 intro b hb
 rcases List.mem_append.1 hb with h | h
 ·exact hl b h
 ·exact qvo _ b h
end Go.Proofs.YtfeheccoijnbaaaDoor
namespace Go.Proofs.YtfeheccoijnbaaaDoor
open Go.RowKit Go.ChangeShapes Go.WideShapes
theorem qt5 {W : World} {fuel : Nat} {cs : List Value} {zs : List Nat} {p : List MemPlace}
  (h : DataW.trod (fun _ => ()) Tryd.prog W 0 (fun _ => true) false fuel 49 cs = some (.slice (zs.map fun z : Nat => .lit (.int .i64 (z : Int))) [], p)) :
  ∃ A c, cs = [.slice A zs.length c] ∧ Rd W W.heap.size 1 A zs.length (zs.map I64v) := by
 obtain ⟨a, cap, hcs, hl, hall⟩ := open_row (e := 3) (by kernel_rfl) (by kernel_rfl) h
 have hcell : ∀ i z, zs[i]? = some z → W.cell? (a.add i) = some (I64v z) := by
  intro i z hz
  obtain ⟨v, n, q, hc, ht⟩ := hall i (.lit (.int .i64 (z : Int))) (by rw [List.getElem?_map, hz]; rfl)
  obtain ⟨z', e1, e2, _⟩ := DataW.trod_int (k := .i64) (by kernel_rfl) ht
  injection e1 with e1
  injection e2 with e2
  subst e1
  simp only [DataW.lit.injEq, Lit.int.injEq, true_and] at e2
  rw [hc, ← e2]
  rfl
 refine ⟨some a, cap, by rw [hcs, List.length_map], by simp, fun hn => ⟨a, rfl, ?_, ?_⟩⟩
 ·cases zs with
  | nil => simp at hn
  | cons z zs =>
   have := World.block_lt_of_cell? W _ (hcell 0 z rfl)
   simpa [Addr.add] using this
 ·intro j u hu
  rw [List.getElem?_map] at hu
  cases hz : zs[j]? with
  | none => simp [hz] at hu
  | some z => rw [hz] at hu; cases hu; exact hcell j z hz
theorem qmi {W : World} (h : laidMetH Tryd.prog Rows.streamCutsRow.laid W) : Laid W.heap.size W := by
 rw [MakeChecks.laidMetH_plain _ _ _ (by kernel_rfl)] at h
 obtain ⟨g1, t1, cs1, f1, p1, hg1, ht1, hv1, hd1⟩ := Lib.laidMet.reads h (n := "quantum/event.fields") (d := Rows.laid_quantum_event_fields) (List.mem_cons_self ..)
 obtain ⟨g2, t2, cs2, f2, p2, hg2, ht2, hv2, hd2⟩ := Lib.laidMet.reads h (n := "quantum/event.uses") (d := Rows.laid_quantum_event_uses) (List.mem_cons_of_mem _ (List.mem_cons_self ..))
 have gg1 : Tryd.prog.globalNamed "quantum/event.fields" = some 3 := by kernel_rfl
 have gg2 : Tryd.prog.globalNamed "quantum/event.uses" = some 1 := by kernel_rfl
 obtain rfl := Option.some.inj (gg1.symm.trans hg1)
 obtain rfl := Option.some.inj (gg2.symm.trans hg2)
 have ty1 : (Tryd.prog.globals[3]?).map (·.type) = some 208 := by kernel_rfl
 have ty2 : (Tryd.prog.globals[1]?).map (·.type) = some 166 := by kernel_rfl
 obtain rfl := Option.some.inj (ty1.symm.trans ht1)
 obtain rfl := Option.some.inj (ty2.symm.trans ht2)
 have one1 : Tryd.prog.cellsOf 9 = 1 := by kernel_rfl
 have one2 : Tryd.prog.cellsOf 49 = 1 := by kernel_rfl
 have c1 : ∀ i v, cs1.toList[i]? = some v → W.cell? ⟨3, i, none⟩ = some v := fun i v hv => by
  rw [World.var?_cell gg1 hv1 i]; simpa using hv
 have c2 : ∀ i v, cs2.toList[i]? = some v → W.cell? ⟨1, i, none⟩ = some v := fun i v hv => by
  rw [World.var?_cell gg2 hv2 i]; simpa using hv
 have at1 : ∀ (cs : List Value) (i : Nat) (v : Value), (cs.drop (i * 1)).take 1 = [v] → cs[i]? = some v := by
  intro cs i v h
  have := congrArg (·[0]?) h
  simpa [List.getElem?_take, List.getElem?_drop] using this
 have str : ∀ i, i < 7 → ∃ s : ByteArray, W.cell? ⟨3, i, none⟩ = some (.string s) := by
  intro i hi
  obtain ⟨f', d, q, _, ht⟩ := Lib.array_elem (n := 7) (e := 9) (by kernel_rfl) hd1 i hi
  rw [one1] at ht
  obtain ⟨s, hs, _⟩ := DataW.trod_string (by kernel_rfl) ht
  exact ⟨s, c1 i _ (at1 _ _ _ hs)⟩
 have row : ∀ k, k < 11 → ∃ A c, W.cell? ⟨1, k, none⟩ = some (.slice A (usesL k).length c) ∧ Rd W W.heap.size 1 A (usesL k).length ((usesL k).map I64v) := by
  intro k hk
  obtain ⟨f', d, q, hd, ht⟩ := Lib.array_elem (n := 11) (e := 49) (by kernel_rfl) hd2 k hk
  rw [one2] at ht
  by_cases h0 : k = 0
  ·subst h0
   simp only [List.getElem?_cons_zero, Option.some.injEq] at hd
   subst hd
   rcases DataW.trod_slice (e := 3) (by kernel_rfl) ht with ⟨hc, _⟩ | ⟨a, len, cap, elems, rest, n, _, _, hx, _⟩
   ·exact ⟨none, 0, c2 0 _ (at1 _ _ _ hc), Rd.nil⟩
   ·simp at hx
  ·have hd' : d = .slice ((usesL k).map fun z : Nat => .lit (.int .i64 (z : Int))) [] := by
    have hk' : k = 1 ∨ k = 2 ∨ k = 3 ∨ k = 4 ∨ k = 5 ∨ k = 6 ∨ k = 7 ∨ k = 8 ∨ k = 9 ∨ k = 10 := by omega
    rcases hk' with rfl | rfl | rfl | rfl | rfl | rfl | rfl | rfl | rfl | rfl <;> exact (Option.some.inj hd).symm
   subst hd'
   obtain ⟨A, c, hc, hr⟩ := qt5 ht
   exact ⟨A, c, c2 k _ (at1 _ _ _ hc), hr⟩
 refine ⟨row, ?_, str, ?_⟩
 ·obtain ⟨A, c, h1, _⟩ := row 0 (by omega)
  exact World.block_lt_of_cell? W _ h1
 ·obtain ⟨s, h1⟩ := str 0 (by omega)
  exact World.block_lt_of_cell? W _ h1
theorem qrb : Tryd.prog.underlying 29 = some (.int .u32) := by kernel_rfl
set_option maxRecDepth 100000 in
theorem qkt {W : World} (h : laidMetH Tryd.prog Rows.streamCutsRow.laid W) : LaidX W.heap.size W := by
 have hl := qmi h
 rw [MakeChecks.laidMetH_plain _ _ _ (by kernel_rfl)] at h
 obtain ⟨g1, t1, cs1, f1, p1, hg1, ht1, hv1, hd1⟩ := Lib.laidMet.reads h (n := "quantum/crc.halves") (d := Rows.laid_quantum_crc_halves) (List.mem_cons_of_mem _ (List.mem_cons_of_mem _ (List.mem_cons_self ..)))
 obtain ⟨g2, t2, cs2, f2, p2, hg2, ht2, hv2, hd2⟩ := Lib.laidMet.reads h (n := "quantum/block.magic") (d := Rows.laid_quantum_block_magic) (List.mem_cons_of_mem _ (List.mem_cons_of_mem _ (List.mem_cons_of_mem _ (List.mem_cons_self ..))))
 have gg1 : Tryd.prog.globalNamed "quantum/crc.halves" = some 2 := by kernel_rfl
 have gg2 : Tryd.prog.globalNamed "quantum/block.magic" = some 0 := by kernel_rfl
 obtain rfl := Option.some.inj (gg1.symm.trans hg1)
 obtain rfl := Option.some.inj (gg2.symm.trans hg2)
 have ty1 : (Tryd.prog.globals[2]?).map (·.type) = some 196 := by kernel_rfl
 have ty2 : (Tryd.prog.globals[0]?).map (·.type) = some 105 := by kernel_rfl
 obtain rfl := Option.some.inj (ty1.symm.trans ht1)
 obtain rfl := Option.some.inj (ty2.symm.trans ht2)
 have one1 : Tryd.prog.cellsOf 29 = 1 := by kernel_rfl
 have one2 : Tryd.prog.cellsOf 5 = 1 := by kernel_rfl
 have c1 : ∀ i v, cs1.toList[i]? = some v → W.cell? ⟨2, i, none⟩ = some v := fun i v hv => by
  rw [World.var?_cell gg1 hv1 i]; simpa using hv
 have c2 : ∀ i v, cs2.toList[i]? = some v → W.cell? ⟨0, i, none⟩ = some v := fun i v hv => by
  rw [World.var?_cell gg2 hv2 i]; simpa using hv
 have at1 : ∀ (cs : List Value) (i : Nat) (v : Value), (cs.drop (i * 1)).take 1 = [v] → cs[i]? = some v := by
  intro cs i v h
  have := congrArg (·[0]?) h
  simpa [List.getElem?_take, List.getElem?_drop] using this
 have hal : ∀ k, k < 16 → W.cell? ⟨2, k, none⟩ = some (.int .u32 ((qax.getD k 0 : Nat) : Int)) := by
  intro k hk
  obtain ⟨f', d, q, hd, ht⟩ := Lib.array_elem (n := 16) (e := 29) (by kernel_rfl) hd1 k hk
  rw [one1] at ht
  have hdk : d = .lit (.int .u32 ((qax.getD k 0 : Nat) : Int)) := by
   have hk' : k = 0 ∨ k = 1 ∨ k = 2 ∨ k = 3 ∨ k = 4 ∨ k = 5 ∨ k = 6 ∨ k = 7 ∨ k = 8 ∨ k = 9 ∨ k = 10 ∨ k = 11 ∨ k = 12 ∨ k = 13 ∨ k = 14 ∨ k = 15 := by omega
   rcases hk' with rfl | rfl | rfl | rfl | rfl | rfl | rfl | rfl | rfl | rfl | rfl | rfl | rfl | rfl | rfl | rfl <;> exact (Option.some.inj hd).symm
  subst hdk
  obtain ⟨z, e1, e2, _⟩ := DataW.trod_int qrb ht
  have e2 := congrArg Prod.fst e2
  simp only [DataW.lit.injEq, Lit.int.injEq, true_and] at e2
  exact c1 k _ (by rw [at1 _ _ _ e1, ← e2])
 have mag : ∀ k, k < 2 → W.cell? ⟨0, k, none⟩ = some (.int .u8 (([113, 116].getD k 0 : Nat) : Int)) := by
  intro k hk
  obtain ⟨f', d, q, hd, ht⟩ := Lib.array_elem (n := 2) (e := 5) (by kernel_rfl) hd2 k hk
  rw [one2] at ht
  have hdk : d = .lit (.int .u8 (([113, 116].getD k 0 : Nat) : Int)) := by
   have hk' : k = 0 ∨ k = 1 := by omega
   rcases hk' with rfl | rfl <;> exact (Option.some.inj hd).symm
  subst hdk
  obtain ⟨z, e1, e2, _⟩ := DataW.trod_int qqh ht
  have e2 := congrArg Prod.fst e2
  simp only [DataW.lit.injEq, Lit.int.injEq, true_and] at e2
  exact c2 k _ (by rw [at1 _ _ _ e1, ← e2])
 exact ⟨hl, hal, World.block_lt_of_cell? W _ (hal 0 (by omega)), mag 0 (by omega), mag 1 (by omega), World.block_lt_of_cell? W _ (mag 0 (by omega))⟩
end Go.Proofs.YtfeheccoijnbaaaDoor
namespace Go.Proofs.YtfeheccoijnbaaaDoor
open Go.RowKit
theorem qt6 (n : Nat) (hn : n ≤ 1000000000000) (w : World) :
    Calls Tryd.prog 80 #[.slice none 0 0, .int .i64 (n : Int)] w fun r w' => (∃ A c, r = .returned (.slice A 0 c) ∧ w'.ownsRow w.heap.size 5 1 (.slice A 0 c) 0 []) ∧ Below w.heap.size w w' := by
 refine qg (vs := [.slice none 0 0, vI n]) Tryd.func80 rfl rfl (by kernel_rfl) (σ0 := [(0, .slice none 0 0), (1, vI n)]) rfl ?_
 intro a HF
 have HM := Mem.start w
 refine wp_seq (qa ?_)
 refine fp HF 1 0 [(4, .slice none 0 0)] fun a HF => ?_
 refine qb rfl (wp_seq (wp_seq (qa ?_)))
 refine fp HF 2 0 [(6, .bool (decide ((n : Int) < (0 : Int))))] fun a HF => ?_
 refine qb rfl ?_
 rcases HF.tf 6 rfl with ⟨hb6, HF⟩ | ⟨hb6, HF⟩
 ·
  have hd6 := of_decide_eq_true hb6
  omega
 have hd6 := of_decide_eq_false hb6
 refine qe HF rfl (wp_skip (wp_seq (wp_seq (qa ?_))))
 refine fp HF 2 0 [(9, .slice none 0 0), (8, vI n)] fun a HF => ?_
 refine fy HF HM 2 rfl rfl rfl (Yl.cap rfl rfl (by kernel_rfl)) fun a HF => ?_
 refine fp HF 1 3 [(11, .slice none 0 0)] fun a HF => ?_
 refine fy HF HM 4 rfl rfl rfl (Yl.len rfl rfl (by kernel_rfl)) fun a HF => ?_
 refine fp HF 2 5 [(14, vI (IntKind.i64.wrap ((n : Int) - 0)))] fun a HF => ?_
 replace HF := HF.sp 14 (vI n) rfl (qi (by omega) (by omega))
 refine fp HF 1 7 [(1, vI n)] fun a HF => ?_
 refine qb rfl (wp_seq (qa ?_))
 refine fp HF 2 0 [(16, .bool (decide ((n : Int) > (0 : Int))))] fun a HF => ?_
 refine qb rfl ?_
 rcases HF.tf 16 rfl with ⟨hb16, HF⟩ | ⟨hb16, HF⟩
 ·
  have hd16 := of_decide_eq_true hb16
  refine qf HF rfl (qa ?_)
  refine fp HF 2 0 [(18, .slice none 0 0), (17, .slice none 0 0)] fun a HF => ?_
  refine fy HF HM 2 rfl rfl rfl (Yl.cap rfl rfl (by kernel_rfl)) fun a HF => ?_
  refine fy HF HM 3 rfl rfl rfl (v := .slice none 0 0) (Yl.qbq ei_u8 (j := 0) rfl rfl rfl (by omega)) fun a HF => ?_
  refine fp HF 1 4 [(21, vI n)] fun a HF => ?_
  refine fo HF 5 rfl rfl ?_
  refine qjd HF HM (kn := .i64) (m := n) rfl ei_u8 (by kernel_rfl) rfl rfl (by omega) (by omega) (by omega) rfl (by decide) ?_
  clear HF HM; intro a w22 g22 c22 HF HM hc22
  refine fp HF 1 6 [(23, .slice none 0 0)] fun a HF => ?_
  refine fy HF HM 7 rfl rfl rfl (Yl.len rfl rfl (by kernel_rfl)) fun a HF => ?_
  refine fy HF HM 8 rfl rfl rfl (v := vS g22 0 c22) (Yl.qbq ei_u8 (j := 0) rfl rfl rfl (by omega)) fun a HF => ?_
  refine fp HF 1 9 [(0, vS g22 0 c22)] fun a HF => ?_
  refine qb rfl ?_
  replace HM := (HM.shrink (i := 0) (k := 0) rfl (Nat.zero_le _) (fun h => by cases h)).asRow (i := 0) (ys := []) rfl (by simp)
  refine wp_seq (qa ?_)
  refine fp HF 2 0 [(4, vS g22 0 c22)] fun a HF => ?_
  refine qb rfl (wp_ret ?_)
  exact ret1 rfl HF (.tmp HF rfl) (⟨⟨_, _, rfl, HM.own (i := 0) rfl⟩, HM.below⟩)
 have hd16 := of_decide_eq_false hb16
 refine qe HF rfl (wp_skip (wp_seq (qa ?_)))
 refine fp HF 2 0 [(4, .slice none 0 0)] fun a HF => ?_
 refine qb rfl (wp_ret ?_)
 exact ret1 rfl HF (.tmp HF rfl) (⟨⟨_, _, rfl, World.ownsRow_nil _ _ _ _⟩, HM.below⟩)
theorem qoq (A : Option Addr) (n c : Nat) (ps : List Part) (w : World) (hr : Rd w w.heap.size 1 A n (ps.map Part.val)) (hln : ps.length = n) (hn : n ≤ 1000000) (hps : ∀ p ∈ ps, Rd w w.heap.size 1 p.A p.l.length (p.l.map B8)) (htot : (ps.flatMap (·.l)).length ≤ 1000000000000) :
    Calls Tryd.prog 65 #[.slice A n c] w (qai w (ps.flatMap (·.l))) := by
 refine qg (vs := [.slice A n c]) Tryd.func65 rfl rfl (by kernel_rfl) (σ0 := [(0, .slice A n c)]) rfl ?_
 intro a HF
 have HM := Mem.start w
 refine wp_seq (qa ?_)
 refine fp HF 1 0 [(2, .slice none 0 0)] fun a HF => ?_
 refine qb rfl (wp_seq (qa ?_))
 refine fp HF 1 0 [(3, vI 0)] fun a HF => ?_
 refine qb rfl (wp_seq (wp_seq (qa ?_)))
 refine fp HF 1 0 [(9, .slice A n c)] fun a HF => ?_
 refine fy HF HM 1 rfl rfl rfl (Yl.len rfl rfl (by kernel_rfl)) fun a HF => ?_
 refine fp HF 1 2 [(11, vI 0)] fun a HF => ?_
 refine qb rfl (wp_block ?_)
 refine zk (fun mS aS wS => ∃ (k : Nat), (k ≤ n) ∧ mS = n - k ∧ Fr aS 36 [] [(11, vI k), (10, vI n), (9, .slice A n c), (3, vI (((ps.take k).flatMap (·.l)).length)), (2, .slice none 0 0), (0, .slice A n c)] ∧ Mem w wS []) (m := n - 0) ⟨0, Nat.zero_le _, rfl, HF.sub (by kernel_rfl), HM.picks [] (by decide) rfl⟩ ?_
 clear HF HM; rintro mS a w_ ⟨k, hk, rfl, HF, HM⟩
 have hpk := qe0 (l := ps) k
 have hpk1 := qe0 (l := ps) (k + 1)
 refine wp_seq (qa ?_)
 refine fp HF 1 0 [(12, .bool (decide ((k : Int) < (n : Int))))] fun a HF => ?_
 refine qb rfl (wp_seq ?_)
 rcases HF.tf 12 rfl with ⟨hb12, HF⟩ | ⟨hb12, HF⟩
 ·
  have hd12 := of_decide_eq_true hb12
  have hk12 : k < n := by omega
  refine qf HF rfl (wp_skip (wp_seq (wp_block (wp_seq (qa ?_)))))
  obtain ⟨gA, oA, rfl, _⟩ := hr.qas (Nat.lt_of_le_of_lt (Nat.zero_le _) (show k < n from by omega)) (by decide)
  refine fy HF HM 0 rfl rfl rfl (v := vP gA (oA + k * 1)) (Yl.ix gA oA k 1 rfl rfl rfl) fun a HF => ?_
  refine fy HF HM 1 rfl rfl rfl (v := .slice ((ps.getD k (⟨none, 0, []⟩ : Part)).A) ((ps.getD k (⟨none, 0, []⟩ : Part)).l.length) ((ps.getD k (⟨none, 0, []⟩ : Part)).c)) (Yl.qh rfl rfl (by kernel_rfl) (fun _ h => (h.old hr).qbv (k := k) (qab (F := Part.val) (k := k) (x := (ps.getD k (⟨none, 0, []⟩ : Part))) ((getD_at (⟨none, 0, []⟩ : Part) (k := k) (by first | omega | (simp; omega))))))) fun a HF => ?_
  refine fp HF 1 2 [(5, .slice ((ps.getD k (⟨none, 0, []⟩ : Part)).A) ((ps.getD k (⟨none, 0, []⟩ : Part)).l.length) ((ps.getD k (⟨none, 0, []⟩ : Part)).c))] fun a HF => ?_
  refine qb rfl (wp_seq (qa ?_))
  refine fp HF 2 0 [(16, .slice ((ps.getD k (⟨none, 0, []⟩ : Part)).A) ((ps.getD k (⟨none, 0, []⟩ : Part)).l.length) ((ps.getD k (⟨none, 0, []⟩ : Part)).c)), (15, vI (((ps.take k).flatMap (·.l)).length))] fun a HF => ?_
  refine fy HF HM 2 rfl rfl rfl (Yl.len rfl rfl (by kernel_rfl)) fun a HF => ?_
  refine fp HF 1 3 [(18, vI (IntKind.i64.wrap ((((ps.take k).flatMap (·.l)).length : Int) + (((ps.getD k (⟨none, 0, []⟩ : Part)).l.length : Nat) : Int))))] fun a HF => ?_
  replace HF := HF.sp 18 (vI (((ps.take (k + 1)).flatMap (·.l)).length)) rfl (qi (by rw [qcp (d := (⟨none, 0, []⟩ : Part)) (by omega), List.length_append]; omega) (by have := qe0 (l := ps) (k + 1); omega))
  refine fp HF 1 4 [(3, vI (((ps.take (k + 1)).flatMap (·.l)).length))] fun a HF => ?_
  refine qb rfl (wp_seq (qa ?_))
  refine fp HF 2 0 [(20, .bool (decide ((((ps.take (k + 1)).flatMap (·.l)).length : Int) < (0 : Int))))] fun a HF => ?_
  refine qb rfl ?_
  rcases HF.tf 20 rfl with ⟨hb20, HF⟩ | ⟨hb20, HF⟩
  ·
   have hd20 := of_decide_eq_true hb20
   omega
  have hd20 := of_decide_eq_false hb20
  refine qe HF rfl (wp_skip (qa ?_))
  refine fp HF 1 0 [(22, vI (IntKind.i64.wrap ((k : Int) + 1)))] fun a HF => ?_
  replace HF := HF.sp 22 (vI (k + 1 : Nat)) rfl (qi (by omega) (by omega))
  refine fp HF 1 1 [(11, vI (k + 1 : Nat))] fun a HF => ?_
  refine qb rfl ?_
  exact ⟨_, (by omega), k + 1, by omega, rfl, HF.sub (by kernel_rfl), HM.picks [] (by decide) rfl⟩
 have hd12 := of_decide_eq_false hb12
 obtain rfl : n = k := by omega
 refine qe HF rfl (wp_exit (wp_seq (qa ?_)))
 refine fp HF 1 0 [(23, vI (((ps.take n).flatMap (·.l)).length))] fun a HF => ?_
 refine fo HF 1 rfl rfl ?_
 refine e_cl HF [.slice none 0 0, vI (((ps.take n).flatMap (·.l)).length)] rfl rfl (qt6 _ (by omega) _) ?_
 rintro _ w24 ⟨⟨A24, c24, rfl, ho⟩, hbw⟩
 refine ⟨_, rfl, ?_⟩
 replace HM := HM.callRow hbw ho
 clear HF; intro a HF
 refine fp HF 1 2 [(6, .slice A24 0 c24)] fun a HF => ?_
 refine qb rfl (wp_seq (wp_seq (qa ?_)))
 refine fp HF 1 0 [(25, .slice A n c)] fun a HF => ?_
 refine fy HF HM 1 rfl rfl rfl (Yl.len rfl rfl (by kernel_rfl)) fun a HF => ?_
 refine fp HF 1 2 [(27, vI 0)] fun a HF => ?_
 refine qb rfl (wp_block ?_)
 refine zk (fun mS aS wS => ∃ (k : Nat) (Ak : Option Addr) (ck : Nat), (k ≤ n) ∧ (((ps.take k).flatMap (·.l)).length ≤ ck) ∧ mS = n - k ∧ Fr aS 36 [] [(27, vI k), (26, vI n), (25, .slice A n c), (6, .slice Ak (((ps.take k).flatMap (·.l)).length) ck), (12, .bool false), (11, vI n), (10, vI n), (9, .slice A n c), (3, vI (((ps.take n).flatMap (·.l)).length)), (2, .slice none 0 0), (0, .slice A n c)] ∧ Mem w wS [.row (.slice Ak (((ps.take k).flatMap (·.l)).length) ck) (((ps.take k).flatMap (·.l)).length) (((ps.take k).flatMap (·.l)).map B8) 5 1]) (m := n - 0) ⟨0, A24, c24, Nat.zero_le _, Nat.zero_le _, rfl, HF.sub (by kernel_rfl), HM.picks [0] (by decide) rfl⟩ ?_
 clear HF HM; rintro mS a w_ ⟨k, Ak, ck, hk, hck, rfl, HF, HM⟩
 refine wp_seq (qa ?_)
 refine fp HF 1 0 [(28, .bool (decide ((k : Int) < (n : Int))))] fun a HF => ?_
 refine qb rfl (wp_seq ?_)
 rcases HF.tf 28 rfl with ⟨hb28, HF⟩ | ⟨hb28, HF⟩
 ·
  have hd28 := of_decide_eq_true hb28
  have hk28 : k < n := by omega
  refine qf HF rfl (wp_skip (wp_seq (wp_block (wp_seq (qa ?_)))))
  obtain ⟨gA, oA, rfl, _⟩ := hr.qas (Nat.lt_of_le_of_lt (Nat.zero_le _) (show k < n from by omega)) (by decide)
  refine fy HF HM 0 rfl rfl rfl (v := vP gA (oA + k * 1)) (Yl.ix gA oA k 1 rfl rfl rfl) fun a HF => ?_
  refine fy HF HM 1 rfl rfl rfl (v := .slice ((ps.getD k (⟨none, 0, []⟩ : Part)).A) ((ps.getD k (⟨none, 0, []⟩ : Part)).l.length) ((ps.getD k (⟨none, 0, []⟩ : Part)).c)) (Yl.qh rfl rfl (by kernel_rfl) (fun _ h => (h.old hr).qbv (k := k) (qab (F := Part.val) (k := k) (x := (ps.getD k (⟨none, 0, []⟩ : Part))) ((getD_at (⟨none, 0, []⟩ : Part) (k := k) (by first | omega | (simp; omega))))))) fun a HF => ?_
  refine fp HF 1 2 [(8, .slice ((ps.getD k (⟨none, 0, []⟩ : Part)).A) ((ps.getD k (⟨none, 0, []⟩ : Part)).l.length) ((ps.getD k (⟨none, 0, []⟩ : Part)).c))] fun a HF => ?_
  refine qb rfl (qa ?_)
  refine fp HF 2 0 [(32, .slice ((ps.getD k (⟨none, 0, []⟩ : Part)).A) ((ps.getD k (⟨none, 0, []⟩ : Part)).l.length) ((ps.getD k (⟨none, 0, []⟩ : Part)).c)), (31, .slice Ak (((ps.take k).flatMap (·.l)).length) ck)] fun a HF => ?_
  refine fo HF 2 rfl rfl ?_
  refine qac HF HM (i := 0) rfl ei_u8 rfl rfl rfl (news := ((ps.getD k (⟨none, 0, []⟩ : Part)).l.map B8)) (HM.old (hps _ (qap _ (by omega)))) (qf9 _) (by have := qe0 (l := ps) (k + 1); rw [qcp (d := (⟨none, 0, []⟩ : Part)) (by omega), List.length_append] at this; omega) (by have := qe0 (l := ps) (k + 1); rw [qcp (d := (⟨none, 0, []⟩ : Part)) (by omega), List.length_append] at this; omega) rfl (by decide) ?_
  clear HF HM; intro a w33 A33 c33 HF HM hc33
  refine fp HF 1 3 [(6, .slice A33 (((ps.take k).flatMap (·.l)).length + (ps.getD k (⟨none, 0, []⟩ : Part)).l.length) c33)] fun a HF => ?_
  refine qb rfl ?_
  have hnA33 : ((ps.take k).flatMap (·.l)).length + (ps.getD k (⟨none, 0, []⟩ : Part)).l.length = ((ps.take (k + 1)).flatMap (·.l)).length := by rw [qcp (d := (⟨none, 0, []⟩ : Part)) (by omega), List.length_append]
  replace HM := HM.reRow (i := 0) (ys := ((ps.take (k + 1)).flatMap (·.l)).map B8) rfl hnA33 (by rw [qcp (d := (⟨none, 0, []⟩ : Part)) (by omega), List.map_append])
  rw [hnA33] at hc33
  replace HF := HF.as (t := 6) (u := .slice A33 (((ps.take (k + 1)).flatMap (·.l)).length) c33) rfl (by rw [hnA33])
  replace HF := HF.as (t := 33) (u := .slice A33 (((ps.take (k + 1)).flatMap (·.l)).length) c33) rfl (by rw [hnA33])
  refine qa ?_
  refine fp HF 1 0 [(34, vI (IntKind.i64.wrap ((k : Int) + 1)))] fun a HF => ?_
  replace HF := HF.sp 34 (vI (k + 1 : Nat)) rfl (qi (by omega) (by omega))
  refine fp HF 1 1 [(27, vI (k + 1 : Nat))] fun a HF => ?_
  refine qb rfl ?_
  exact ⟨_, (by omega), k + 1, A33, c33, by omega, hc33, rfl, HF.sub (by kernel_rfl), HM.picks [0] (by decide) rfl⟩
 have hd28 := of_decide_eq_false hb28
 obtain rfl : n = k := by omega
 refine qe HF rfl (wp_exit (wp_seq (qa ?_)))
 refine fp HF 2 0 [(2, .slice Ak (((ps.take n).flatMap (·.l)).length) ck)] fun a HF => ?_
 refine qb rfl (wp_ret ?_)
 exact ret1 rfl HF (.tmp HF rfl) (qkq (HM.own (i := 0) rfl) hck (by rw [List.take_of_length_le (by omega)]) (by rw [List.take_of_length_le (by omega)]) HM.below)
theorem qku {a b : List Ev} {k : Nat} (h : a.take k = b.take k) (ha : k < a.length) (hb : k < b.length) (he : a.getD k Ev.zero = b.getD k Ev.zero) : a.take (k + 1) = b.take (k + 1) := by
 rw [List.take_add_one, List.take_add_one, getD_at Ev.zero ha, getD_at Ev.zero hb, h, he]
theorem qmj {a b : List Ev} {k : Nat} (h : a.take k = b.take k) (ha : a.length ≤ k) (hb : b.length ≤ k) : a = b := by
 rwa [List.take_of_length_le ha, List.take_of_length_le hb] at h
theorem qrd (A A2 : Option Addr) (n m c c2 : Nat) (es gs : List Ev) (w : World) (hr : Rd w w.heap.size 11 A n (es.flatMap evL)) (hr2 : Rd w w.heap.size 11 A2 m (gs.flatMap evL)) (hla : es.length = n) (hlb : gs.length = m) (hn : n ≤ 1000000000000) :
    Calls Tryd.prog 43 #[.slice A n c, .slice A2 m c2] w (Is w (.bool (decide (es = gs)))) := by
 refine qg (vs := [.slice A n c, .slice A2 m c2]) Tryd.func43 rfl rfl (by kernel_rfl) (σ0 := [(0, .slice A n c), (1, .slice A2 m c2)]) rfl ?_
 intro a HF
 have HM := Mem.start w
 refine wp_seq (qa ?_)
 refine fp HF 1 0 [(4, .bool false)] fun a HF => ?_
 refine qb rfl (wp_seq (wp_seq (qa ?_)))
 refine fp HF 1 0 [(6, .slice A n c)] fun a HF => ?_
 refine fy HF HM 1 rfl rfl rfl (Yl.len rfl rfl (by kernel_rfl)) fun a HF => ?_
 refine fp HF 1 2 [(8, .slice A2 m c2)] fun a HF => ?_
 refine fy HF HM 3 rfl rfl rfl (Yl.len rfl rfl (by kernel_rfl)) fun a HF => ?_
 refine fp HF 1 4 [(10, .bool ((n : Int) != (m : Int)))] fun a HF => ?_
 refine qb rfl ?_
 rcases HF.tf 10 rfl with ⟨hb10, HF⟩ | ⟨hb10, HF⟩
 ·
  have hd10 := bne_iff_ne.1 hb10
  refine qf HF rfl (wp_seq (qa ?_))
  refine fp HF 1 0 [(4, .bool false)] fun a HF => ?_
  refine qb rfl (wp_ret ?_)
  exact ret1 rfl HF (.tmp HF rfl) (⟨by rw [decide_eq_false (fun h => by rw [h] at hla; omega)], HM.below⟩)
 have hd10 := bne_eq_false_iff_eq.1 hb10
 refine qe HF rfl (wp_skip (wp_seq (wp_seq (qa ?_))))
 refine fp HF 1 0 [(11, .slice A n c)] fun a HF => ?_
 refine fy HF HM 1 rfl rfl rfl (Yl.len rfl rfl (by kernel_rfl)) fun a HF => ?_
 refine fp HF 1 2 [(13, vI 0)] fun a HF => ?_
 refine qb rfl (wp_block ?_)
 refine zk (fun mS aS wS => ∃ (k : Nat), (k ≤ n) ∧ (es.take k = gs.take k) ∧ mS = n - k ∧ Fr aS 26 [] [(13, vI k), (12, vI n), (10, .bool false), (4, .bool false), (0, .slice A n c), (1, .slice A2 m c2)] ∧ Mem w wS []) (m := n - 0) ⟨0, Nat.zero_le _, rfl, rfl, HF.sub (by kernel_rfl), HM.picks [] (by decide) rfl⟩ ?_
 clear HF HM; rintro mS a w_ ⟨k, hk, heq, rfl, HF, HM⟩
 refine wp_seq (qa ?_)
 refine fp HF 1 0 [(14, .bool (decide ((k : Int) < (n : Int))))] fun a HF => ?_
 refine qb rfl (wp_seq ?_)
 rcases HF.tf 14 rfl with ⟨hb14, HF⟩ | ⟨hb14, HF⟩
 ·
  have hd14 := of_decide_eq_true hb14
  have hk14 : k < n := by omega
  refine qf HF rfl (wp_skip (wp_seq (wp_block (wp_seq (qa ?_)))))
  refine fp HF 2 0 [(5, vI k)] fun a HF => ?_
  refine qb rfl (wp_seq ?_)
  refine qaf HM [] [] [] fun HM HS => ?_
  refine ap HF (fun _ => HS) [0, 1, 4, 5] #[true, true, false, false, true, true, false, false, false] [(21, vI k), (20, .slice A2 m c2), (17, vI k), (16, .slice A n c)] fun a HF => ?_
  obtain ⟨gA, oA, rfl, _⟩ := hr.qas (Nat.lt_of_le_of_lt (Nat.zero_le _) (show k < n from by omega)) (by decide)
  refine ay HF HS 2 rfl rfl rfl (v := vP gA (oA + k * 11)) (Yl.ix gA oA k 11 rfl rfl rfl) fun a HF => ?_
  refine ay HF HS 3 rfl rfl rfl (v := .agg ((es.getD k Ev.zero).cells)) (Yl.zg rfl rfl ⟨(by kernel_rfl), (by kernel_rfl)⟩ rfl (fun _ h => (h.old hr).qce zr ((getD_at Ev.zero (k := k) (by first | omega | (simp; omega)))))) fun a HF => ?_
  obtain ⟨gA2, oA2, rfl, _⟩ := hr2.qas (Nat.lt_of_le_of_lt (Nat.zero_le _) (show k < m from by omega)) (by decide)
  refine ay HF HS 6 rfl rfl rfl (v := vP gA2 (oA2 + k * 11)) (Yl.ix gA2 oA2 k 11 rfl rfl rfl) fun a HF => ?_
  refine ay HF HS 7 rfl rfl rfl (v := .agg ((gs.getD k Ev.zero).cells)) (Yl.zg rfl rfl ⟨(by kernel_rfl), (by kernel_rfl)⟩ rfl (fun _ h => (h.old hr2).qce zr ((getD_at Ev.zero (k := k) (by first | omega | (simp; omega)))))) fun a HF => ?_
  refine ay HF HS 8 rfl rfl rfl (v := .bool (!(decide ((es.getD k Ev.zero) = (gs.getD k Ev.zero))))) (Yl.qyr (x := (es.getD k Ev.zero)) (y := (gs.getD k Ev.zero)) rfl rfl rfl (by kernel_rfl)) fun a HF => ?_
  refine qn (by kernel_rfl) ?_
  rcases HF.tf 24 rfl with ⟨hb24, HF⟩ | ⟨hb24, HF⟩
  ·
   have hd24 := of_decide_eq_false ((Bool.not_eq_true' _).mp hb24)
   refine qf HF rfl (wp_seq (qa ?_))
   refine fp HF 1 0 [(4, .bool false)] fun a HF => ?_
   refine qb rfl (wp_ret ?_)
   exact ret1 rfl HF (.tmp HF rfl) (⟨by rw [decide_eq_false (fun h => by rw [h] at hb24; simp at hb24)], HM.below⟩)
  have hd24 := of_decide_eq_true ((Bool.not_eq_false' _).mp hb24)
  refine qe HF rfl (wp_skip (qa ?_))
  refine fp HF 1 0 [(25, vI (IntKind.i64.wrap ((k : Int) + 1)))] fun a HF => ?_
  replace HF := HF.sp 25 (vI (k + 1 : Nat)) rfl (qi (by omega) (by omega))
  refine fp HF 1 1 [(13, vI (k + 1 : Nat))] fun a HF => ?_
  refine qb rfl ?_
  exact ⟨_, (by omega), k + 1, by omega, qku heq (by omega) (by omega) (by simpa using hb24), rfl, HF.sub (by kernel_rfl), HM.picks [] (by decide) rfl⟩
 have hd14 := of_decide_eq_false hb14
 have hkn : k = n := by omega
 refine qe HF rfl (wp_exit (wp_seq (qa ?_)))
 refine fp HF 1 0 [(4, .bool true)] fun a HF => ?_
 refine qb rfl (wp_ret ?_)
 exact ret1 rfl HF (.tmp HF rfl) (⟨by rw [decide_eq_true (qmj heq (by omega) (by omega))], HM.below⟩)
theorem qor (c : Nat) (hc : c < 4294967296) (A : Option Addr) (n cp : Nat) (l : List Nat) (B : Nat) (w : World) (hL : LaidX B w) (hB : B ≤ w.heap.size) (hr : Rd w w.heap.size 1 A n (l.map B8)) (hln : l.length = n) (hn : n ≤ 140737488355328) (hl : ∀ b ∈ l, b < 256) :
    Calls Tryd.prog 94 #[.int .u32 (c : Int), .slice A n cp] w (Is w (.int .u32 (qw c l : Int))) := by
 refine qg (vs := [vW c, .slice A n cp]) Tryd.func94 rfl rfl (by kernel_rfl) (σ0 := [(0, vW c), (1, .slice A n cp)]) rfl ?_
 intro a HF
 have HM := Mem.start w
 refine wp_seq (qa ?_)
 refine fp HF 1 0 [(4, vW 0)] fun a HF => ?_
 refine qb rfl (wp_seq (wp_seq (qa ?_)))
 refine fp HF 1 0 [(7, .slice A n cp)] fun a HF => ?_
 refine fy HF HM 1 rfl rfl rfl (Yl.len rfl rfl (by kernel_rfl)) fun a HF => ?_
 refine fp HF 1 2 [(9, vI 0)] fun a HF => ?_
 refine qb rfl (wp_block ?_)
 refine zk (fun mS aS wS => ∃ (k : Nat), (k ≤ n) ∧ mS = n - k ∧ Fr aS 33 [] [(9, vI k), (8, vI n), (7, .slice A n cp), (4, vW 0), (0, vW (qw c (l.take k)))] ∧ Mem w wS []) (m := n - 0) ⟨0, Nat.zero_le _, rfl, HF.sub (by kernel_rfl), HM.picks [] (by decide) rfl⟩ ?_
 clear HF HM; rintro mS a w_ ⟨k, hk, rfl, HF, HM⟩
 have hcr := qe5 (l.take k) hc (qbc hl k)
 refine wp_seq (qa ?_)
 refine fp HF 1 0 [(10, .bool (decide ((k : Int) < (n : Int))))] fun a HF => ?_
 refine qb rfl (wp_seq ?_)
 rcases HF.tf 10 rfl with ⟨hb10, HF⟩ | ⟨hb10, HF⟩
 ·
  have hd10 := of_decide_eq_true hb10
  refine qf HF rfl (wp_skip (wp_seq (wp_block (wp_seq (qa ?_)))))
  obtain ⟨gA, oA, rfl, _⟩ := hr.qas (Nat.lt_of_le_of_lt (Nat.zero_le _) (show k < n from by omega)) (by decide)
  refine fy HF HM 0 rfl rfl rfl (v := vP gA (oA + k * 1)) (Yl.ix gA oA k 1 rfl rfl rfl) fun a HF => ?_
  have hx34 := getD_lt hl (k := k) (by first | omega | (simp; omega))
  refine fy HF HM 1 rfl rfl rfl (v := vB (l.getD k 0)) (Yl.qh rfl rfl (by kernel_rfl) (fun _ h => (h.old hr).qbv (k := k) (qab (F := B8) (k := k) (x := (l.getD k 0)) ((getD_at 0 (k := k) (by first | omega | (simp; omega))))))) fun a HF => ?_
  refine fp HF 1 2 [(6, vB (l.getD k 0))] fun a HF => ?_
  refine qb rfl (wp_seq (qa ?_))
  refine fp HF 3 0 [(15, vW (IntKind.u32.wrap ((l.getD k 0) : Int))), (13, vW (qw c (l.take k)))] fun a HF => ?_
  replace HF := HF.sp 15 (vW (l.getD k 0)) rfl (qdm rfl (by omega))
  refine fp HF 1 3 [(16, vW (IntKind.u32.wrap (BitVec.ofInt (IntKind.u32).bits (qw c (l.take k) : Int) ^^^ BitVec.ofInt (IntKind.u32).bits ((l.getD k 0) : Int)).toNat))] fun a HF => ?_
  replace HF := HF.sp 16 (vW ((qw c (l.take k)) ^^^ (l.getD k 0) : Nat)) rfl (qjc (m := qw c (l.take k)) (n := (l.getD k 0)) (by omega) (by omega))
  refine fp HF 1 4 [(0, vW ((qw c (l.take k)) ^^^ (l.getD k 0) : Nat))] fun a HF => ?_
  refine qb rfl ?_
  have hy := qe4 hcr (show l.getD k 0 < 4294967296 by omega)
  refine wp_seq (qa ?_)
  refine fp HF 2 0 [(18, vW (Int.fdiv (((qw c (l.take k)) ^^^ (l.getD k 0) : Nat) : Int) (2 ^ (min (4 : Int).toNat (IntKind.u32).bits))))] fun a HF => ?_
  replace HF := HF.sp 18 (vW (((qw c (l.take k)) ^^^ (l.getD k 0)) / 16 : Nat)) rfl (qd0 .u32 ((qw c (l.take k)) ^^^ (l.getD k 0)) (j := 4) (q := 16) rfl rfl)
  refine fp HF 2 2 [(20, vW (IntKind.u32.wrap (BitVec.ofInt (IntKind.u32).bits (((qw c (l.take k)) ^^^ (l.getD k 0) : Nat) : Int) &&& BitVec.ofInt (IntKind.u32).bits 15).toNat))] fun a HF => ?_
  replace HF := HF.sp 20 (vW (((qw c (l.take k)) ^^^ (l.getD k 0)) % 16 : Nat)) rfl (qnd (n := 15) (j := 4) rfl (by decide) (by omega))
  refine fy HF HM 4 rfl rfl rfl (v := vP 2 ((((qw c (l.take k)) ^^^ (l.getD k 0)) % 16) * 1)) ((Yl.zz (ad := ⟨2, 0, none⟩) (m := 16) (y := ((qw c (l.take k)) ^^^ (l.getD k 0)) % 16) (sz := 1) rfl rfl rfl (by kernel_rfl) (by omega)).as (by rw [Addr.add_mid, Nat.zero_add])) fun a HF => ?_
  refine fy HF HM 5 rfl rfl rfl (v := vW (qax.getD (((qw c (l.take k)) ^^^ (l.getD k 0)) % 16) 0)) (Yl.qh rfl rfl (by kernel_rfl) (fun _ h => qnh hL h hB (k := (((qw c (l.take k)) ^^^ (l.getD k 0)) % 16)) (by omega))) fun a HF => ?_
  refine fp HF 1 6 [(23, vW (IntKind.u32.wrap (BitVec.ofInt (IntKind.u32).bits ((((qw c (l.take k)) ^^^ (l.getD k 0)) / 16 : Nat) : Int) ^^^ BitVec.ofInt (IntKind.u32).bits (qax.getD (((qw c (l.take k)) ^^^ (l.getD k 0)) % 16) 0 : Int)).toNat))] fun a HF => ?_
  replace HF := HF.sp 23 (vW (nib (qw c (l.take k) ^^^ l.getD k 0))) rfl (by have h := qjc (m := (qw c (l.take k) ^^^ l.getD k 0) / 16) (n := qax.getD ((qw c (l.take k) ^^^ l.getD k 0) % 16) 0) (by omega) (qg4 _ (by omega)); exact h)
  refine fp HF 1 7 [(0, vW (nib (qw c (l.take k) ^^^ l.getD k 0)))] fun a HF => ?_
  refine qb rfl ?_
  have hz := qyb hy
  refine qa ?_
  refine fp HF 2 0 [(25, vW (Int.fdiv (nib (qw c (l.take k) ^^^ l.getD k 0) : Int) (2 ^ (min (4 : Int).toNat (IntKind.u32).bits))))] fun a HF => ?_
  replace HF := HF.sp 25 (vW ((nib (qw c (l.take k) ^^^ l.getD k 0)) / 16 : Nat)) rfl (qd0 .u32 (nib (qw c (l.take k) ^^^ l.getD k 0)) (j := 4) (q := 16) rfl rfl)
  refine fp HF 2 2 [(27, vW (IntKind.u32.wrap (BitVec.ofInt (IntKind.u32).bits (nib (qw c (l.take k) ^^^ l.getD k 0) : Int) &&& BitVec.ofInt (IntKind.u32).bits 15).toNat))] fun a HF => ?_
  replace HF := HF.sp 27 (vW ((nib (qw c (l.take k) ^^^ l.getD k 0)) % 16 : Nat)) rfl (qnd (n := 15) (j := 4) rfl (by decide) (by omega))
  refine fy HF HM 4 rfl rfl rfl (v := vP 2 (((nib (qw c (l.take k) ^^^ l.getD k 0)) % 16) * 1)) ((Yl.zz (ad := ⟨2, 0, none⟩) (m := 16) (y := (nib (qw c (l.take k) ^^^ l.getD k 0)) % 16) (sz := 1) rfl rfl rfl (by kernel_rfl) (by omega)).as (by rw [Addr.add_mid, Nat.zero_add])) fun a HF => ?_
  refine fy HF HM 5 rfl rfl rfl (v := vW (qax.getD ((nib (qw c (l.take k) ^^^ l.getD k 0)) % 16) 0)) (Yl.qh rfl rfl (by kernel_rfl) (fun _ h => qnh hL h hB (k := ((nib (qw c (l.take k) ^^^ l.getD k 0)) % 16)) (by omega))) fun a HF => ?_
  refine fp HF 1 6 [(30, vW (IntKind.u32.wrap (BitVec.ofInt (IntKind.u32).bits (((nib (qw c (l.take k) ^^^ l.getD k 0)) / 16 : Nat) : Int) ^^^ BitVec.ofInt (IntKind.u32).bits (qax.getD ((nib (qw c (l.take k) ^^^ l.getD k 0)) % 16) 0 : Int)).toNat))] fun a HF => ?_
  replace HF := HF.sp 30 (vW (qw c (l.take (k + 1)))) rfl (by have h := qjc (m := nib (qw c (l.take k) ^^^ l.getD k 0) / 16) (n := qax.getD (nib (qw c (l.take k) ^^^ l.getD k 0) % 16) 0) (by omega) (qg4 _ (by omega)); rw [qmh (by omega)]; exact h)
  refine fp HF 1 7 [(0, vW (qw c (l.take (k + 1))))] fun a HF => ?_
  refine qb rfl (qa ?_)
  refine fp HF 1 0 [(31, vI (IntKind.i64.wrap ((k : Int) + 1)))] fun a HF => ?_
  replace HF := HF.sp 31 (vI (k + 1 : Nat)) rfl (qi (by omega) (by omega))
  refine fp HF 1 1 [(9, vI (k + 1 : Nat))] fun a HF => ?_
  refine qb rfl ?_
  exact ⟨_, (by omega), k + 1, by omega, rfl, HF.sub (by kernel_rfl), HM.picks [] (by decide) rfl⟩
 have hd10 := of_decide_eq_false hb10
 obtain rfl : n = k := by omega
 refine qe HF rfl (wp_exit (wp_seq (qa ?_)))
 refine fp HF 2 0 [(4, vW (qw c (l.take n)))] fun a HF => ?_
 refine qb rfl (wp_ret ?_)
 exact ret1 rfl HF (.tmp HF rfl) (⟨by rw [List.take_of_length_le (by omega)], HM.below⟩)
theorem qos (c : Nat) (hc0 : c < 4294967296) (A : Option Addr) (n cp : Nat) (l : List Nat) (B : Nat) (w : World) (hL : LaidX B w) (hB : B ≤ w.heap.size) (hr : Rd w w.heap.size 1 A n (l.map B8)) (hln : l.length = n) (hn : n ≤ 140737488355328) (hl : ∀ b ∈ l, b < 256) :
    Calls Tryd.prog 81 #[.int .u32 (c : Int), .slice A n cp] w (Is w (.int .u32 ((qw (c ^^^ 4294967295) l ^^^ 4294967295 : Nat) : Int))) := by
 refine qg (vs := [vW c, .slice A n cp]) Tryd.func81 rfl rfl (by kernel_rfl) (σ0 := [(0, vW c), (1, .slice A n cp)]) rfl ?_
 intro a HF
 have HM := Mem.start w
 refine wp_seq (qa ?_)
 refine fp HF 1 0 [(4, vW 0)] fun a HF => ?_
 refine qb rfl ?_
 have hc := qe4 hc0 (show 4294967295 < 4294967296 by decide)
 have hcr := qe5 l hc hl
 refine wp_seq (qa ?_)
 refine fp HF 1 0 [(5, vW c)] fun a HF => ?_
 refine fy HF HM 1 rfl rfl rfl (v := vW (c ^^^ 4294967295 : Nat)) (Yl.qyq (m := c) rfl rfl (by omega)) fun a HF => ?_
 refine fp HF 1 2 [(7, .slice A n cp)] fun a HF => ?_
 refine fo HF 3 rfl rfl ?_
 refine e_is HF HM [vW (c ^^^ 4294967295 : Nat), .slice A n cp] (vW (qw (c ^^^ 4294967295) l)) rfl rfl (qor _ hc _ _ _ l B _ (hL.mem HM hB) (HM.le hB) (HM.old hr) hln hn hl) fun w8 hbw HM a HF => ?_
 refine fy HF HM 4 rfl rfl rfl (v := vW ((qw (c ^^^ 4294967295) l) ^^^ 4294967295 : Nat)) (Yl.qyq (m := qw (c ^^^ 4294967295) l) rfl rfl (by omega)) fun a HF => ?_
 refine fp HF 1 5 [(4, vW ((qw (c ^^^ 4294967295) l) ^^^ 4294967295 : Nat))] fun a HF => ?_
 refine qb rfl (wp_ret ?_)
 exact ret1 rfl HF (.tmp HF rfl) (⟨rfl, HM.below⟩)
theorem qid (A : Option Addr) (n cp : Nat) (l : List Nat) (B : Nat) (w : World) (hL : LaidX B w) (hB : B ≤ w.heap.size) (hr : Rd w w.heap.size 1 A n (l.map B8)) (hln : l.length = n) (hn : n ≤ 140737488355328) (hl : ∀ b ∈ l, b < 256) :
    Calls Tryd.prog 66 #[.slice A n cp] w (Is w (.int .u32 (qz l : Int))) := by
 refine qg (vs := [.slice A n cp]) Tryd.func66 rfl rfl (by kernel_rfl) (σ0 := [(0, .slice A n cp)]) rfl ?_
 intro a HF
 have HM := Mem.start w
 refine wp_seq (qa ?_)
 refine fp HF 1 0 [(2, vW 0)] fun a HF => ?_
 refine qb rfl (wp_seq (qa ?_))
 refine fp HF 1 0 [(3, .slice A n cp)] fun a HF => ?_
 refine fo HF 1 rfl rfl ?_
 refine e_cl HF [vW 0, .slice A n cp] rfl rfl (qos 0 (by decide) _ _ _ l B _ (hL.mem HM hB) (HM.le hB) (HM.old hr) hln hn hl) ?_
 rintro _ w4 ⟨rfl, hbw⟩
 rw [show (qw (0 ^^^ 4294967295) l ^^^ 4294967295 : Nat) = qz l from qt3 (qe5 l (by decide) hl)]
 refine ⟨_, rfl, ?_⟩
 replace HM := HM.call hbw
 clear HF; intro a HF
 refine fp HF 1 2 [(2, vW (qz l))] fun a HF => ?_
 refine qb rfl (wp_ret ?_)
 exact ret1 rfl HF (.tmp HF rfl) (⟨rfl, HM.below⟩)
theorem qws {w w' : World} {l : List Nat} {n c : Nat} {A : Option Addr} (hln : l.length = n) (ho : w'.ownsRow w.heap.size 5 1 (.slice A (0 + n + 4) c) (0 + n + 4) ([] ++ l.map B8 ++ (le4 (qz l)).map B8)) (hc : 0 + n + 4 ≤ c) (hb : Below w.heap.size w w') : qa6 w 0 (sealL l) (.returned (.tuple #[.slice A (0 + n + 4) c, .int .i64 0])) w' := by
 have e : 0 + n + 4 = (sealL l).length := by rw [qgl]; omega
 rw [e] at ho hc ⊢
 refine ⟨⟨A, c, rfl, ?_, hc⟩, hb⟩
 have e2 : ([] ++ l.map B8 ++ (le4 (qz l)).map B8) = (sealL l).map B8 := by simp [sealL]
 rw [e2] at ho
 exact ho
theorem qt7 (A : Option Addr) (n cp : Nat) (l : List Nat) (B : Nat) (w : World) (hL : LaidX B w) (hB : B ≤ w.heap.size) (hr : Rd w w.heap.size 1 A n (l.map B8)) (hln : l.length = n) (hn : n ≤ 16777216) (hl : ∀ b ∈ l, b < 256) :
    Calls Tryd.prog 46 #[.slice A n cp] w (qa6 w 0 (sealL l)) := by
 refine qg (vs := [.slice A n cp]) Tryd.func46 rfl rfl (by kernel_rfl) (σ0 := [(0, .slice A n cp)]) rfl ?_
 intro a HF
 have HM := Mem.start w
 refine wp_seq (qa ?_)
 refine fp HF 2 0 [(3, vI 0), (2, .slice none 0 0)] fun a HF => ?_
 refine qb rfl (wp_seq (wp_seq (qa ?_)))
 refine fp HF 1 0 [(6, .slice A n cp)] fun a HF => ?_
 refine fy HF HM 1 rfl rfl rfl (Yl.len rfl rfl (by kernel_rfl)) fun a HF => ?_
 refine fp HF 1 2 [(8, .bool (decide ((n : Int) > (16777216 : Int))))] fun a HF => ?_
 refine qb rfl ?_
 rcases HF.tf 8 rfl with ⟨hb8, HF⟩ | ⟨hb8, HF⟩
 ·
  have hd8 := of_decide_eq_true hb8
  omega
 have hd8 := of_decide_eq_false hb8
 refine qe HF rfl (wp_skip (wp_seq (qa ?_)))
 refine fp HF 1 0 [(9, .slice A n cp)] fun a HF => ?_
 refine fo HF 1 rfl rfl ?_
 refine e_is HF HM [.slice A n cp] (vW (qz l)) rfl rfl (qid _ _ _ l B _ (hL.mem HM hB) (HM.le hB) (HM.old hr) (hln) (by omega) (hl)) fun w10 hbw HM a HF => ?_
 refine fp HF 1 2 [(4, vW (qz l))] fun a HF => ?_
 refine qb rfl ?_
 have hcs := qks l
 refine wp_seq (qa ?_)
 refine fp HF 1 0 [(11, .slice A n cp)] fun a HF => ?_
 refine fy HF HM 1 rfl rfl rfl (Yl.len rfl rfl (by kernel_rfl)) fun a HF => ?_
 refine fp HF 1 2 [(13, vI (IntKind.i64.wrap ((n : Int) + 4)))] fun a HF => ?_
 replace HF := HF.sp 13 (vI (n + 4 : Nat)) rfl (qi (by omega) (by omega))
 refine fo HF 3 rfl rfl ?_
 refine qwk HF HM (m := (n + 4)) rfl ei_u8 rfl rfl (by omega) (by omega) rfl (by decide) ?_
 clear HF HM; intro a w14 g14 HF HM
 refine fp HF 1 4 [(15, .slice A n cp)] fun a HF => ?_
 refine fo HF 5 rfl rfl ?_
 refine qac HF HM (i := 0) rfl ei_u8 rfl rfl rfl (news := (l.map B8)) (HM.old hr) (qf9 _) (by omega) (by omega) rfl (by decide) ?_
 clear HF HM; intro a w16 A16 c16 HF HM hc16
 refine fp HF 1 6 [(5, .slice A16 (0 + n) c16)] fun a HF => ?_
 refine qb rfl (wp_seq (qa ?_))
 refine fp HF 3 0 [(19, vB (IntKind.u8.wrap (qz l : Int))), (17, .slice A16 (0 + n) c16)] fun a HF => ?_
 replace HF := HF.sp 19 (vB ((qz l) % 256 : Nat)) rfl (qh8 (qz l))
 refine fp HF 2 3 [(21, vW (Int.fdiv (qz l : Int) (2 ^ (min (8 : Int).toNat (IntKind.u32).bits))))] fun a HF => ?_
 replace HF := HF.sp 21 (vW ((qz l) / 256 : Nat)) rfl (qd0 .u32 (qz l) (j := 8) (q := 256) rfl rfl)
 refine fp HF 1 5 [(22, vB (IntKind.u8.wrap (((qz l) / 256 : Nat) : Int)))] fun a HF => ?_
 replace HF := HF.sp 22 (vB (((qz l) / 256) % 256 : Nat)) rfl (qh8 ((qz l) / 256))
 refine fp HF 2 6 [(24, vW (Int.fdiv (qz l : Int) (2 ^ (min (16 : Int).toNat (IntKind.u32).bits))))] fun a HF => ?_
 replace HF := HF.sp 24 (vW ((qz l) / 65536 : Nat)) rfl (qd0 .u32 (qz l) (j := 16) (q := 65536) rfl rfl)
 refine fp HF 1 8 [(25, vB (IntKind.u8.wrap (((qz l) / 65536 : Nat) : Int)))] fun a HF => ?_
 replace HF := HF.sp 25 (vB (((qz l) / 65536) % 256 : Nat)) rfl (qh8 ((qz l) / 65536))
 refine fp HF 2 9 [(27, vW (Int.fdiv (qz l : Int) (2 ^ (min (24 : Int).toNat (IntKind.u32).bits))))] fun a HF => ?_
 replace HF := HF.sp 27 (vW ((qz l) / 16777216 : Nat)) rfl (qd0 .u32 (qz l) (j := 24) (q := 16777216) rfl rfl)
 refine fp HF 1 11 [(28, vB (IntKind.u8.wrap (((qz l) / 16777216 : Nat) : Int)))] fun a HF => ?_
 replace HF := HF.sp 28 (vB (((qz l) / 16777216) % 256 : Nat)) rfl (qh8 ((qz l) / 16777216))
 refine fo HF 12 rfl rfl ?_
 refine qar HF HM (vs := [(0, vB ((qz l) % 256 : Nat)), (1, vB (((qz l) / 256) % 256 : Nat)), (2, vB (((qz l) / 65536) % 256 : Nat)), (3, vB (((qz l) / 16777216) % 256 : Nat))]) (cs := #[vB ((qz l) % 256 : Nat), vB (((qz l) / 256) % 256 : Nat), vB (((qz l) / 65536) % 256 : Nat), vB (((qz l) / 16777216) % 256 : Nat)]) rfl ei_u8 (by decide) rfl (by kernel_rfl) rfl (by decide) ?_
 clear HF HM; intro a w29 g29 HF HM
 refine fo HF 13 rfl rfl ?_
 refine qac HF HM (i := 1) rfl ei_u8 rfl rfl rfl (news := ((le4 (qz l)).map B8)) (HM.rdBlk (i := 0) (n := 4) (size := 1) rfl rfl) (qf9 _) (by omega) (by omega) rfl (by decide) ?_
 clear HF HM; intro a w30 A30 c30 HF HM hc30
 refine fp HF 2 14 [(3, vI 0), (2, .slice A30 (0 + n + 4) c30)] fun a HF => ?_
 refine qb rfl (wp_ret ?_)
 replace HM := HM.picks (fs' := [.row (.slice A30 (0 + n + 4) c30) (0 + n + 4) (([] ++ (l.map B8)) ++ ((le4 (qz l)).map B8)) 5 1]) [1] (by decide) rfl
 exact ret2 rfl HF (.tmp HF rfl) (.tmp HF rfl) (qws hln (HM.own (i := 0) rfl) hc30 HM.below)
end Go.Proofs.YtfeheccoijnbaaaDoor
