/- A part of the proof. -/
import Derived.Test.YtekiimhdnigmcaaGreatDoorQwRef06e
namespace Go.Proofs.YtekiimhdnigmcaaGreatDoor
open Go.RowKit
end Go.Proofs.YtekiimhdnigmcaaGreatDoor
