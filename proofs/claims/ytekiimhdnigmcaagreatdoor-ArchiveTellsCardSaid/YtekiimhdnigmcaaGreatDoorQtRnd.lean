/- A part of the proof. -/
import Derived.Test.YtekiimhdnigmcaaGreatDoorQtStr
import Derived.RangeFuncNested
import Derived.RangeFuncCalls
namespace Go.Proofs.YtekiimhdnigmcaaGreatDoor
open Go.RowKit
section
variable {P:Program} {ops:Array Oper} {Q:Exit→Act→World→Prop} {l:Nat} {md:Region.Mode}
def qyq (ops:Array Oper):Bool:=ops.all fun o=>match o.op with| .defer _=>false|_=>true
theorem qwj {i:Nat} {o:Oper} (h:qyq ops=true) (hi:ops[i]?=some o):∀c,o.op≠ .defer c:=by
 intro c hc
 have hm:o∈ops:=Array.mem_of_getElem? hi
 have:=(Array.all_eq_true_iff_forall_mem.1 h) o hm
 rw [hc] at this
 cases this
theorem qyr {o:Oper} {a:Act} {w:World} {K K':Act→World→Prop} (hd:∀c,o.op≠ .defer c) (hQ:¬LetsOut Q) (hK:∀a w,K a w→K' a w) (h:o.wp P a w K Q∨(o.asks P a w∧LetsOut Q)):o.wpIn (Fence.wide.inRound l) 0 P a w K' Q:=by
 rcases h with h|h
 ·refine ⟨fun _ _=>trivial,?_⟩
  rw [show (Fence.wide.inRound l).round=some l from rfl,Oper.semAt_some l _ _ hd]
  unfold Oper.wp at h
  generalize (execOp a.eval o).run P w=r at h
  cases r with
  | ok x w' =>
   cases x with
   |value v=>exact hK _ _ h
   |skip=>exact hK _ _ h
   |defer d=>exact hK _ _ h
   |enter f args=>
    refine ⟨fun h=>by simp [Fence.wide,Fence.inRound] at h,?_⟩
    show CallsIn Fence.wide 0 P f args w' _
    refine (callsIn_wide.2 h).mono ?_
    intro e w'' he
    cases e with
    |returned v=>exact hK _ _ he
    |panicked c=>exact he
    |outgrown=>exact he
   |row r args=>
    refine ⟨fun h=>by simp [Fence.wide,Fence.inRound] at h,fun c cs _=>?_⟩
    obtain ⟨v,w'',h1,h2⟩:=(h:Rows P r args w' _) c cs
    exact ⟨v,w'',hK _ _ h1,stepsIn_wide.2 h2⟩
   |_=>exact (h:False).elim
  |halt hh w'=>
   cases hh with
   |panic v=>exact h
   |_=>exact (h:False).elim
 ·exact absurd h.2 hQ
end
end Go.Proofs.YtekiimhdnigmcaaGreatDoor
