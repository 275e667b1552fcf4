/- A part of the proof. -/
import Derived.Test.YtannicghedpdpaaGreatQtStaQ
import Derived.Test.YtannicghedpdpaaGreatQtLst
namespace Go.Proofs.YtannicghedpdpaaGreat
open Go.RowKit
theorem qd7 {α : Type} (d : α) {l m : List α} (hl : l.length = m.length) (hu : ∀ i, i < l.length → l.getD i d = m.getD i d) : l = m := by
 apply List.ext_getElem hl
 intro i h1 h2
 have := hu i h1
 rwa [List.getD_eq_getElem?_getD, List.getD_eq_getElem?_getD, List.getElem?_eq_getElem h1, List.getElem?_eq_getElem h2] at this
theorem qd8 {α : Type} {f g : Nat → α} : ∀ i, i < 0 → f i = g i := fun i h => by omega
theorem qd9 {α : Type} {f g : Nat → α} {k : Nat} (h : ∀ i, i < k → f i = g i) (hk : f k = g k) : ∀ i, i < k + 1 → f i = g i := fun i hi => by
 rcases Nat.lt_or_ge i k with h1 | h1
 ·exact h i h1
 ·obtain rfl : i = k := by omega
  exact hk
theorem qsr (x y : Tk) : zj Tryz.prog 4 81 (.agg x.cells) (.agg y.cells) = some (decide (x = y)) := by
 have h : zj Tryz.prog 4 81 (.agg x.cells) (.agg y.cells) = some ((x.id == y.id) && ((x.group == y.group) && ((x.weight == y.weight) && ((x.cpu == y.cpu) && (((x.mask : Int) == (y.mask : Int)) && ((x.ready == y.ready) && (((x.v : Int) == (y.v : Int)) && (((x.r : Int) == (y.r : Int)) && true)))))))) := by kernel_rfl
 refine h.trans (congrArg some ?_)
 obtain ⟨a1, a2, a3, a4, a5, a6, a7, a8⟩ := x
 obtain ⟨b1, b2, b3, b4, b5, b6, b7, b8⟩ := y
 rw [Bool.eq_iff_iff]
 simp only [Bool.and_eq_true, beq_iff_eq, decide_eq_true_eq, Tk.mk.injEq, and_true, Int.ofNat_inj]
theorem qss (x y : Sp) : zj Tryz.prog 4 83 (.agg x.cells) (.agg y.cells) = some (decide (x = y)) := by
 have h : zj Tryz.prog 4 83 (.agg x.cells) (.agg y.cells) = some (((x.v : Int) == (y.v : Int)) && (((x.r : Int) == (y.r : Int)) && (((x.floor : Int) == (y.floor : Int)) && true))) := by kernel_rfl
 refine h.trans (congrArg some ?_)
 obtain ⟨a1, a2, a3⟩ := x
 obtain ⟨b1, b2, b3⟩ := y
 rw [Bool.eq_iff_iff]
 simp only [Bool.and_eq_true, beq_iff_eq, decide_eq_true_eq, Sp.mk.injEq, and_true, Int.ofNat_inj]
def rowsL (x : Stm) : List (List Sp) := x.rs.map Rw.l
theorem ql2 (x : Stm) : (rowsL x).length = x.rs.length := List.length_map ..
def CfgEq (a b : Stm) : Prop := a.cpus = b.cpus ∧ a.credit = b.credit ∧ a.gs = b.gs
instance cfgEqDec (a b : Stm) : Decidable (CfgEq a b) := by unfold CfgEq; infer_instance
def StaEq (a b : Stm) : Prop := CfgEq a b ∧ a.cl = b.cl ∧ a.cu = b.cu ∧ a.ts = b.ts ∧ rowsL a = rowsL b
instance staEqDec (a b : Stm) : Decidable (StaEq a b) := by unfold StaEq; infer_instance
theorem qa3 {l : List Rw} {i : Nat} (h : i < l.length) : (l.map Rw.l).getD i [] = (l.getD i Rw.zero).l := by
 rw [List.getD_eq_getElem?_getD, List.getD_eq_getElem?_getD, List.getElem?_map, List.getElem?_eq_getElem h]
 rfl
theorem qpn {l m : List Rw} (hl : l.length = m.length) (hu : ∀ i, i < l.length → (l.getD i Rw.zero).l = (m.getD i Rw.zero).l) : l.map Rw.l = m.map Rw.l :=
 qd7 [] (by simpa using hl) fun i hi => by
  rw [List.length_map] at hi
  rw [qa3 hi, qa3 om]
  exact hu i hi
theorem qpo {l m : List Rw} {k : Nat} (h1 : k < l.length) (h2 : k < m.length) (h : (l.getD k Rw.zero).l ≠ (m.getD k Rw.zero).l) : l.map Rw.l ≠ m.map Rw.l := fun e => h (by rw [← qa3 h1, ← qa3 h2, e])
end Go.Proofs.YtannicghedpdpaaGreat
