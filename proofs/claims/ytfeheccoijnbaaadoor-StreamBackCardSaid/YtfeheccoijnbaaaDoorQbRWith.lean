/- A part of the proof. -/
import Derived.Test.YtfeheccoijnbaaaDoorQbRef06f
namespace Go.Proofs.YtfeheccoijnbaaaDoor
open Go.RowKit
def Small (p : Nat × Nat) : Prop := p.1 = 5 ∨ p.2 < 4611686018427387904
end Go.Proofs.YtfeheccoijnbaaaDoor
