/- A part of the proof. -/
import Derived.Test.YtcajpeiobkcliaaGreatDoorQiSep11
import Derived.Test.YtcajpeiobkcliaaGreatDoorQiRound
import Derived.Recover
namespace Go.Proofs.YtcajpeiobkcliaaGreatDoor
open Go.RowKit
section
variable {P:Program} {Q:Exit→Act→World→Prop} {a:Act} {W w:World} {n d:Nat} {D:List Deferred} {σ:List (Nat×Value)} {o:Oper} {v:Value} {K:Act→World→Prop} {fs:List Fact}
end
end Go.Proofs.YtcajpeiobkcliaaGreatDoor
