/- A part of the proof. -/
import Derived.Test.YtannicghedpdpaaQfStaQ
import Derived.Test.YtannicghedpdpaaQfLst
namespace Go.Proofs.Ytannicghedpdpaa
open Go.RowKit
def rowsL (x : Stm) : List (List Sp) := x.rs.map Rw.l
def CfgEq (a b : Stm) : Prop := a.cpus = b.cpus ∧ a.credit = b.credit ∧ a.gs = b.gs
instance cfgEqDec (a b : Stm) : Decidable (CfgEq a b) := by unfold CfgEq; infer_instance
def StaEq (a b : Stm) : Prop := CfgEq a b ∧ a.cl = b.cl ∧ a.cu = b.cu ∧ a.ts = b.ts ∧ rowsL a = rowsL b
instance staEqDec (a b : Stm) : Decidable (StaEq a b) := by unfold StaEq; infer_instance
theorem qfk {l : List Rw} {i : Nat} (h : i < l.length) : (l.map Rw.l).getD i [] = (l.getD i Rw.zero).l := by
 rw [List.getD_eq_getElem?_getD, List.getD_eq_getElem?_getD, List.getElem?_map, List.getElem?_eq_getElem h]
 rfl
end Go.Proofs.Ytannicghedpdpaa
