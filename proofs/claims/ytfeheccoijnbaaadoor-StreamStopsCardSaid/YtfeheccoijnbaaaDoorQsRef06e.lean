/- A part of the proof. -/
import Derived.Test.YtfeheccoijnbaaaDoorQsRef06d
namespace Go.Proofs.YtfeheccoijnbaaaDoor
open Go.RowKit
end Go.Proofs.YtfeheccoijnbaaaDoor
