/- A part of the proof. -/
import Derived.Test.YtfeheccoijnbaaaDoorQsWithAll
namespace Go.Proofs.YtfeheccoijnbaaaDoor
open Go.RowKit
end Go.Proofs.YtfeheccoijnbaaaDoor
