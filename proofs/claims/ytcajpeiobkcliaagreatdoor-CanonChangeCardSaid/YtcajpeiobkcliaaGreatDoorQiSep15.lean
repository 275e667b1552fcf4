/- A part of the proof. -/
import Derived.Test.YtcajpeiobkcliaaGreatDoorQiSep14
import Derived.ChangeKeysEq
namespace Go.Proofs.YtcajpeiobkcliaaGreatDoor
open Go.RowKit
set_option linter.all false
section
variable {P:Program} {S:World→Prop} {σ:List (Nat×Value)} {o:Oper}
end
end Go.Proofs.YtcajpeiobkcliaaGreatDoor
