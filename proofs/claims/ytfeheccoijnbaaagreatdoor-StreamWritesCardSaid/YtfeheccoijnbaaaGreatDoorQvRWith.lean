/- A part of the proof. -/
import Derived.Test.YtfeheccoijnbaaaGreatDoorQvRef06f
namespace Go.Proofs.YtfeheccoijnbaaaGreatDoor
open Go.RowKit
end Go.Proofs.YtfeheccoijnbaaaGreatDoor
