/- A part of the proof. -/
import Derived.Test.YtggpmlaappaopaaGreatDoorQcVarint
namespace Go.Proofs.YtggpmlaappaopaaGreatDoor
open Go.RowKit
end Go.Proofs.YtggpmlaappaopaaGreatDoor
