/- A part of the proof. -/
import Derived.Test.YtfeheccoijnbaaaDoorQjRef06d
namespace Go.Proofs.YtfeheccoijnbaaaDoor
open Go.RowKit
end Go.Proofs.YtfeheccoijnbaaaDoor
