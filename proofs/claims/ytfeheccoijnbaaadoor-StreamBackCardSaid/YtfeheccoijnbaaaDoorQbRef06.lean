/- A part of the proof. -/
import Derived.Test.YtfeheccoijnbaaaDoorQbWithAll
namespace Go.Proofs.YtfeheccoijnbaaaDoor
open Go.RowKit
end Go.Proofs.YtfeheccoijnbaaaDoor
