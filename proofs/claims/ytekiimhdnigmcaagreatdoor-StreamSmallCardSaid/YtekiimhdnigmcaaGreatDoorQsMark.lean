/- A part of the proof. -/
import Derived.Test.YtekiimhdnigmcaaGreatDoorQsSep6
namespace Go.Proofs.YtekiimhdnigmcaaGreatDoor
open Go.RowKit
section
variable {P:Program} {Q:Exit→Act→World→Prop} {a:Act} {W w:World} {n d:Nat} {D:List Deferred} {σ:List (Nat×Value)} {o:Oper} {K:Act→World→Prop} {fs:List Fact}
end
end Go.Proofs.YtekiimhdnigmcaaGreatDoor
