/- A part of the proof. -/
import Derived.Test.YtannicghedpdpaaQdStaQ
import Derived.Test.YtannicghedpdpaaQdLst
namespace Go.Proofs.Ytannicghedpdpaa
open Go.RowKit
theorem qo7 (x y : Tk) : q9 Try.prog 4 52 (.agg x.cells) (.agg y.cells) = some (decide (x = y)) := by
 have h : q9 Try.prog 4 52 (.agg x.cells) (.agg y.cells) = some ((x.id == y.id) && ((x.group == y.group) && ((x.weight == y.weight) && ((x.cpu == y.cpu) && (((x.mask : Int) == (y.mask : Int)) && ((x.ready == y.ready) && (((x.v : Int) == (y.v : Int)) && (((x.r : Int) == (y.r : Int)) && true)))))))) := by kernel_rfl
 refine h.trans (congrArg some ?_)
 obtain ⟨a1, a2, a3, a4, a5, a6, a7, a8⟩ := x
 obtain ⟨b1, b2, b3, b4, b5, b6, b7, b8⟩ := y
 rw [Bool.eq_iff_iff]
 simp only [Bool.and_eq_true, beq_iff_eq, decide_eq_true_eq, Tk.mk.injEq, and_true, Int.ofNat_inj]
def rowsL (x : Stm) : List (List Sp) := x.rs.map Rw.l
def CfgEq (a b : Stm) : Prop := a.cpus = b.cpus ∧ a.credit = b.credit ∧ a.gs = b.gs
instance cfgEqDec (a b : Stm) : Decidable (CfgEq a b) := by unfold CfgEq; infer_instance
def StaEq (a b : Stm) : Prop := CfgEq a b ∧ a.cl = b.cl ∧ a.cu = b.cu ∧ a.ts = b.ts ∧ rowsL a = rowsL b
instance staEqDec (a b : Stm) : Decidable (StaEq a b) := by unfold StaEq; infer_instance
theorem qfi {l : List Rw} {i : Nat} (h : i < l.length) : (l.map Rw.l).getD i [] = (l.getD i Rw.zero).l := by
 rw [List.getD_eq_getElem?_getD, List.getD_eq_getElem?_getD, List.getElem?_map, List.getElem?_eq_getElem h]
 rfl
end Go.Proofs.Ytannicghedpdpaa
