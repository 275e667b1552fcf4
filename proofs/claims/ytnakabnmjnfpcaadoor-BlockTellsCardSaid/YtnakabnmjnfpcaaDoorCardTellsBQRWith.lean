/- A part of the proof. -/
import Derived.Test.YtnakabnmjnfpcaaDoorCardTellsBQRef06f
namespace Go.Proofs.YtnakabnmjnfpcaaDoor
open Go.RowKit
end Go.Proofs.YtnakabnmjnfpcaaDoor
