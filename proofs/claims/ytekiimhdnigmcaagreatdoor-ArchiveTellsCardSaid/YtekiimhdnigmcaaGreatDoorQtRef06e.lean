/- A part of the proof. -/
import Derived.Test.YtekiimhdnigmcaaGreatDoorQtRef06d
namespace Go.Proofs.YtekiimhdnigmcaaGreatDoor
open Go.RowKit
theorem qqo (k:Nat):(List.range 7).filter (fun i=>(aJ k).contains i)=aJ k:=by
 obtain rfl|rfl|rfl|rfl|rfl|rfl|rfl|rfl|rfl|rfl|⟨hu,_⟩:=qi4 k
 all_goals first|decide|(rw [hu];decide)
def upTo (kd k:Nat):List Nat:=(List.range k).filter fun i=>(aJ kd).contains i
theorem qvp {kd k:Nat} (h:(aJ kd).contains k=true):upTo kd (k+1)=upTo kd k++[k]:=by unfold upTo;rw [List.range_succ,List.filter_append];simp only [List.filter_cons,h];rfl
theorem zb3 {kd k:Nat} (h:(aJ kd).contains k=false):upTo kd (k+1)=upTo kd k:=by unfold upTo;rw [List.range_succ,List.filter_append];simp only [List.filter_cons,h];simp
theorem zer (kd:Nat):upTo kd 7=aJ kd:=qqo kd
theorem q7j (kd k:Nat) (hk:k≤7):(upTo kd k).length≤7:=by unfold upTo;exact Nat.le_trans (List.length_filter_le _ _) (by simp;exact hk)
structure Jt (w:World) (n:Nat) (r:Ending) (w':World):Prop where
 ret:∃v xs,r= .returned v∧w'.ownsRow w.heap.size 9 1 v n xs
 below:Below w.heap.size w w'
end Go.Proofs.YtekiimhdnigmcaaGreatDoor
