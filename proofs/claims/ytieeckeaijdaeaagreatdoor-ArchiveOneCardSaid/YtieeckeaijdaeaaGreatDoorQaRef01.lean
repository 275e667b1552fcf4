/- A part of the proof. -/
import Derived.Test.YtieeckeaijdaeaaGreatDoorQaVarRead
namespace Go.Proofs.YtieeckeaijdaeaaGreatDoor
open Go.RowKit
end Go.Proofs.YtieeckeaijdaeaaGreatDoor
