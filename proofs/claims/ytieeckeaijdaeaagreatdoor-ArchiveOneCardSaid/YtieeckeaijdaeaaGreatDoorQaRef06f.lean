/- A part of the proof. -/
import Derived.Test.YtieeckeaijdaeaaGreatDoorQaRef06e
namespace Go.Proofs.YtieeckeaijdaeaaGreatDoor
open Go.RowKit
end Go.Proofs.YtieeckeaijdaeaaGreatDoor
