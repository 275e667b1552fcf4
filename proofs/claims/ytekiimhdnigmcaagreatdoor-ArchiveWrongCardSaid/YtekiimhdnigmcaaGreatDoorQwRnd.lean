/- A part of the proof. -/
import Derived.Test.YtekiimhdnigmcaaGreatDoorQwStr
import Derived.RangeFuncNested
import Derived.RangeFuncCalls
namespace Go.Proofs.YtekiimhdnigmcaaGreatDoor
open Go.RowKit
section
variable {P:Program} {ops:Array Oper} {Q:Exit→Act→World→Prop} {l:Nat} {md:Region.Mode}
def UO (ops:Array Oper):Bool:=ops.all λo=>match o.op with| .defer _=>false|_=>true
theorem qx6 {i:Nat} {o:Oper} (h:UO ops=true) (hi:ops[i]?=some o):∀c,o.op≠ .defer c:=by
 intro c hc
 have hm:o∈ops:=Array.mem_of_getElem? hi
 have:=(Array.all_eq_true_iff_forall_mem.1 h) o hm
 rw [hc] at this
 cases this
theorem q1e {o:Oper} {a:Act} {w:World} {K K':Act→World→Prop} (k:∀c,o.op≠ .defer c) (m:¬LetsOut Q) (b:∀a w,K a w→K' a w) (h:o.wp P a w K Q∨(o.asks P a w∧LetsOut Q)):o.wpIn (Fence.wide.inRound l) 0 P a w K' Q:=by
 rcases h with h|h
 ·refine ⟨λ_ _=>trivial,?_⟩
  rw [show (Fence.wide.inRound l).round=some l from rfl,Oper.semAt_some l _ _ k]
  unfold Oper.wp at h
  generalize (execOp a.eval o).run P w=r at h
  cases r with
  | ok x i =>
   cases x with
   |value v=>exact b _ _ h
   |skip=>exact b _ _ h
   |defer d=>exact b _ _ h
   |enter f args=>
    refine ⟨λh=>by simp [Fence.wide,Fence.inRound] at h,?_⟩
    show CallsIn Fence.wide 0 P f args i _
    refine (callsIn_wide.2 h).mono ?_
    intro e g j
    cases e with
    |returned v=>exact b _ _ j
    |panicked c=>exact j
    |outgrown=>exact j
   |row r args=>
    refine ⟨λh=>by simp [Fence.wide,Fence.inRound] at h,λc n _=>?_⟩
    obtain ⟨v,g,h1,h2⟩:=(h:Rows P r args i _) c n
    exact ⟨v,g,b _ _ h1,stepsIn_wide.2 h2⟩
   |_=>exact (h:False).elim
  |halt p i=>
   cases p with
   |panic v=>exact h
   |_=>exact (h:False).elim
 ·exact absurd h.2 m
end
end Go.Proofs.YtekiimhdnigmcaaGreatDoor
