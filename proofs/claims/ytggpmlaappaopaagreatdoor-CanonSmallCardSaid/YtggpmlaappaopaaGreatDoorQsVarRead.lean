/- A part of the proof. -/
import Derived.Test.YtggpmlaappaopaaGreatDoorQsVarint
namespace Go.Proofs.YtggpmlaappaopaaGreatDoor
open Go.RowKit
end Go.Proofs.YtggpmlaappaopaaGreatDoor
