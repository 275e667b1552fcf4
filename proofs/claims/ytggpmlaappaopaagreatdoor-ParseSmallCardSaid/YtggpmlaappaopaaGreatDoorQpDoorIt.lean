/- A part of the proof. -/
import Derived.Test.YtggpmlaappaopaaGreatDoorQpDoorE
namespace Go.Proofs.YtggpmlaappaopaaGreatDoor
open Go.RowKit Go.ChangeShapes Go.WideShapes Go.ChangeAt
section
variable {H : Type} {enc : TypeId × Value → H} {P : Program} {W : World} {sp : Nat → Bool} {held : Bool}
end
end Go.Proofs.YtggpmlaappaopaaGreatDoor
