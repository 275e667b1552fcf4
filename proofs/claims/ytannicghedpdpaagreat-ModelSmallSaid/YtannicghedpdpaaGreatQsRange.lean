/- A part of the proof. -/
import Derived.RangeFuncNested
import Derived.RangeFuncCalls
import Derived.WalkKit
import Derived.Deep.Draws
namespace Go.Proofs.YtannicghedpdpaaGreat
open Go.RowKit
def datum : Obj → Bool
 | .cells .. => true
 | .map .. => true
 | _ => false
structure Chg (S : List Nat) (w w' : World) : Prop where
 os : w'.os = w.os
 tape : w'.tape = w.tape
 output : w'.output = w.output
 size : w.heap.size ≤ w'.heap.size
 block : ∀ k, k < w.heap.size → k ∉ S → w'.heap[k]? = w.heap[k]?
structure Keep (B : Nat) (S : List Nat) (w w' : World) : Prop where
 os : w'.os = w.os
 tape : w'.tape = w.tape
 output : w'.output = w.output
 size : w.heap.size ≤ w'.heap.size
 block : ∀ k, k < B → k ∉ S → w'.heap[k]? = w.heap[k]?
 obj : ∀ k o, w.heap[k]? = some o → datum o = true → k ∉ S → w'.heap[k]? = some o
theorem qb9 {w : World} {k : Nat} {o : Obj} (h : w.heap[k]? = some o) : k < w.heap.size := (Array.getElem?_eq_some_iff.1 h).1
theorem Chg.refl (S : List Nat) (w : World) : Chg S w w := ⟨rfl, rfl, rfl, Nat.le_refl _, fun _ _ _ => rfl⟩
theorem Chg.trans {S : List Nat} {a b c : World} (h : Chg S a b) (k : Chg S b c) : Chg S a c :=
 ⟨k.os.trans h.os, k.tape.trans h.tape, k.output.trans h.output, Nat.le_trans h.size k.size, fun i hi hs => (k.block i (Nat.lt_of_lt_of_le hi h.size) hs).trans (h.block i hi hs)⟩
theorem Chg.mono {S S' : List Nat} {a b : World} (h : Chg S a b) (hs : ∀ k ∈ S, k ∈ S' ∨ a.heap.size ≤ k) : Chg S' a b :=
 ⟨h.os, h.tape, h.output, h.size, fun k hk hn => h.block k hk (fun hm => by rcases hs k hm with h1 | h1; exact hn h1; omega)⟩
theorem Chg.below {a b : World} (h : Chg [] a b) : Below a.heap.size a b := ⟨h.os, h.tape, h.output, h.size, fun k hk => h.block k hk (by simp)⟩
theorem Chg.keep {B : Nat} {S : List Nat} {a b : World} (h : Chg S a b) (hB : B ≤ a.heap.size) : Keep B S a b :=
 ⟨h.os, h.tape, h.output, h.size, fun k hk hs => h.block k (by omega) hs, fun k o ho _ hs => (h.block k (qb9 ho) hs).trans ho⟩
theorem Chg.alloc {S : List Nat} {a b : World} (h : Chg S a b) (o : Obj) : Chg S a (b.alloc o) :=
 h.trans ⟨rfl, rfl, rfl, by simp, fun k hk _ => Below.heap_alloc _ _ _ hk⟩
theorem Chg.setCell {S : List Nat} {a b : World} (h : Chg S a b) {p : Addr} (hp : p.block ∈ S ∨ a.heap.size ≤ p.block) (u : Value) : Chg S a (b.setCell p u) :=
 ⟨h.os, h.tape, h.output, by simpa [World.setCell] using h.size, fun k hk hs => (Below.heap_setCell b p u k (fun e => by subst e; rcases hp with h1 | h1; exact hs h1; omega)).trans (h.block k hk hs)⟩
theorem Chg.drew {S : List Nat} {a b : World} (h : Chg S a b) : Chg S a b.drew := ⟨h.os, h.tape, h.output, h.size, h.block⟩
theorem Chg.same {S : List Nat} {a b : World} (h : Chg S a b) {k : Nat} {o : Obj} (ho : a.heap[k]? = some o) (hs : k ∉ S) : b.heap[k]? = some o := (h.block k (qb9 ho) hs).trans ho
theorem Keep.refl (B : Nat) (S : List Nat) (w : World) : Keep B S w w := ⟨rfl, rfl, rfl, Nat.le_refl _, fun _ _ _ => rfl, fun _ _ h _ _ => h⟩
theorem Keep.trans {B : Nat} {S : List Nat} {a b c : World} (h : Keep B S a b) (k : Keep B S b c) : Keep B S a c :=
  ⟨k.os.trans h.os, k.tape.trans h.tape, k.output.trans h.output, Nat.le_trans h.size k.size, fun i hi hs => (k.block i hi hs).trans (h.block i hi hs),
   fun i o ho hd hs => k.obj i o (h.obj i o ho hd hs) hd hs⟩
theorem Keep.mono {B B' : Nat} {S S' : List Nat} {a b : World} (h : Keep B S a b) (hB : B' ≤ B) (hs : ∀ k ∈ S, k ∈ S') : Keep B' S' a b :=
 ⟨h.os, h.tape, h.output, h.size, fun k hk hn => h.block k (by omega) (fun hm => hn (hs k hm)), fun k o ho hd hn => h.obj k o ho hd (fun hm => hn (hs k hm))⟩
theorem Keep.below {B B' : Nat} {S : List Nat} {a b : World} (h : Keep B S a b) (hB : B' ≤ B) (hs : ∀ k ∈ S, B' ≤ k) : Below B' a b :=
 ⟨h.os, h.tape, h.output, h.size, fun k hk => h.block k (by omega) (fun hm => by have := hs k hm; omega)⟩
theorem Keep.cell {B : Nat} {S : List Nat} {a b : World} (h : Keep B S a b) {p : Addr} {v : Value} (hc : a.cell? p = some v) (hs : p.block ∉ S) : b.cell? p = some v := by
 unfold World.cell? at hc ⊢
 split at hc
 ·rename_i c e f hb
  rw [h.obj _ _ hb rfl hs]; exact hc
 ·cases hc
theorem Keep.ownsRow {B : Nat} {S : List Nat} {a b : World} (h : Keep B S a b) {base : Nat} {e : TypeId} {size : Nat} {v : Value} {n : Nat} {xs : List Value}
  (ho : a.ownsRow base e size v n xs) (hs : ∀ g, v.ownBlock = some g → g ∉ S) : b.ownsRow base e size v n xs := by
 refine ⟨ho.1, ?_⟩
 rcases ho.2 with h1 | ⟨g, cap, cur, rfl, hb, hg, r⟩
 ·exact .inl h1
 ·exact .inr ⟨g, cap, cur, rfl, hb, h.obj g _ hg rfl (hs g rfl), r⟩
structure ChgT (T : World → Nat → Prop) (w w' : World) : Prop where
 os : w'.os = w.os
 tape : w'.tape = w.tape
 output : w'.output = w.output
 size : w.heap.size ≤ w'.heap.size
 block : ∀ k, k < w.heap.size → ¬ T w k → w'.heap[k]? = w.heap[k]?
 own : ∀ k, T w' k → T w k ∨ w.heap.size ≤ k
structure Yielded (T : World → Nat → Prop) (w w' : World) : Prop where
 size : w.heap.size ≤ w'.heap.size
 obj : ∀ k o, w.heap[k]? = some o → datum o = true → ¬ T w k → w'.heap[k]? = some o
 own : ∀ k, T w' k → T w k ∨ w.heap.size ≤ k
theorem Yielded.cell {T : World → Nat → Prop} {a b : World} (h : Yielded T a b) {p : Addr} {v : Value} (hc : a.cell? p = some v) (hs : ¬ T a p.block) : b.cell? p = some v := by
 unfold World.cell? at hc ⊢
 split at hc
 ·rename_i c e f hb
  rw [h.obj _ _ hb rfl hs]; exact hc
 ·cases hc
theorem Yielded.not {T : World → Nat → Prop} {a b : World} (h : Yielded T a b) {k : Nat} (hk : k < a.heap.size) (hs : ¬ T a k) : ¬ T b k := fun ht => by
 rcases h.own k ht with h1 | h1
 ·exact hs h1
 ·omega
section
variable {P : Program} {g : Operand} {ps : Array Tmp} {assign body : Code} {Q : Exit → Act → World → Prop} {a : Act} {w : World} {gf : Nat} {lb : Array Value} {xs : List (Array Value)} {S : List Nat} {N : Nat → Prop}
end
end Go.Proofs.YtannicghedpdpaaGreat
