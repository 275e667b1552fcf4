/- A part of the proof. -/
import Derived.Test.YtekiimhdnigmcaaGreatDoorQwVarRead
namespace Go.Proofs.YtekiimhdnigmcaaGreatDoor
open Go.RowKit
end Go.Proofs.YtekiimhdnigmcaaGreatDoor
