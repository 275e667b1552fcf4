/- A part of the proof. -/
import Derived.Test.YtekiimhdnigmcaaGreatDoorQtWithAll
namespace Go.Proofs.YtekiimhdnigmcaaGreatDoor
open Go.RowKit
set_option maxRecDepth 100000 in
set_option maxHeartbeats 2000000 in
theorem qqm (k i:Nat) (hi:i<7) (hk:k<256) (w:World):
  Calls Tryz.prog 288 #[.int .u8 (k:Int),.int .i64 (i:Int)] w fun r w'=>r= .returned (.bool ((aJ k).contains i))∧w'=w:=by
 obtain rfl|rfl|rfl|rfl|rfl|rfl|rfl|rfl|rfl|rfl|⟨hu,hk'⟩:=qi4 k
 case inr.inr.inr.inr.inr.inr.inr.inr.inr.inr=>
  have b1:((k:Int)==1)=false:=by rw [beq_eq_false_iff_ne];omega
  have b2:((k:Int)==2)=false:=by rw [beq_eq_false_iff_ne];omega
  have b3:((k:Int)==3)=false:=by rw [beq_eq_false_iff_ne];omega
  have b4:((k:Int)==4)=false:=by rw [beq_eq_false_iff_ne];omega
  have b5:((k:Int)==5)=false:=by rw [beq_eq_false_iff_ne];omega
  have b6:((k:Int)==6)=false:=by rw [beq_eq_false_iff_ne];omega
  have b7:((k:Int)==7)=false:=by rw [beq_eq_false_iff_ne];omega
  have b8:((k:Int)==8)=false:=by rw [beq_eq_false_iff_ne];omega
  have b9:((k:Int)==9)=false:=by rw [beq_eq_false_iff_ne];omega
  have b10:((k:Int)==10)=false:=by rw [beq_eq_false_iff_ne];omega
  have HU:=hide (show (aJ k).contains i=false by rw [hu];rfl)
  clear hu hk'
  go_enter Tryz.func288,Tryz.ntmps288
  go_wp2
  go_ret
  exact ⟨by rw [HU.out];rfl,rfl⟩
 all_goals
  generalize hv:List.contains _ i=v
  have HV:=hide hv
  clear hv
  go_enter Tryz.func288,Tryz.ntmps288
  go_wp2
  all_goals
   go_ret
   refine ⟨?_,rfl⟩
   rw [←HV.out]
   obtain rfl|rfl|rfl|rfl|rfl|rfl|rfl:i=0∨i=1∨i=2∨i=3∨i=4∨i=5∨i=6:=by omega
   all_goals first|rfl|(exfalso;omega)|(simp at*)
end Go.Proofs.YtekiimhdnigmcaaGreatDoor
