/- A part of the proof. -/
import Derived.Test.YtekiimhdnigmcaaGreatDoorQwWith
namespace Go.Proofs.YtekiimhdnigmcaaGreatDoor
open Go.RowKit
end Go.Proofs.YtekiimhdnigmcaaGreatDoor
