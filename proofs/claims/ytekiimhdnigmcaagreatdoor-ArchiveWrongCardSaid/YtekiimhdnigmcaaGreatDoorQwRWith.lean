/- A part of the proof. -/
import Derived.Test.YtekiimhdnigmcaaGreatDoorQwRef06f
namespace Go.Proofs.YtekiimhdnigmcaaGreatDoor
open Go.RowKit
end Go.Proofs.YtekiimhdnigmcaaGreatDoor
