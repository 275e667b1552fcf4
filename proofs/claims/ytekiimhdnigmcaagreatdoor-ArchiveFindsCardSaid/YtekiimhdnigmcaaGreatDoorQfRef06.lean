/- A part of the proof. -/
import Derived.Test.YtekiimhdnigmcaaGreatDoorQfWithAll
namespace Go.Proofs.YtekiimhdnigmcaaGreatDoor
open Go.RowKit
end Go.Proofs.YtekiimhdnigmcaaGreatDoor
