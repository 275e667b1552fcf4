/- A part of the proof. -/
import Derived.Test.YtekiimhdnigmcaaGreatDoorQtRef06f
namespace Go.Proofs.YtekiimhdnigmcaaGreatDoor
open Go.RowKit
end Go.Proofs.YtekiimhdnigmcaaGreatDoor
