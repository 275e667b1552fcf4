/- A part of the proof. -/
import Derived.Test.YtcajpeiobkcliaaGreatDoorQfNod
import Derived.Test.YtcajpeiobkcliaaGreatDoorQfSep17
import Derived.Test.YtcajpeiobkcliaaGreatDoorQfSep13
import Derived.Test.YtcajpeiobkcliaaGreatDoorQfArrO
namespace Go.Proofs.YtcajpeiobkcliaaGreatDoor
open Go.RowKit
def qbr (l : List Nat) (ps : List Nat) : Nat → List Nat
 | 0 => l
 | i + 1 => flipL (qbr l ps i) (ps.getD i 0)
theorem qaa (l ps : List Nat) : ∀ i, (qbr l ps i).length = l.length
 | 0 => rfl
 | i + 1 => by rw [qbr, qo0, qaa]
theorem qcb {l : List Nat} (hl : ∀ x ∈ l, x < 256) (ps : List Nat) : ∀ i, ∀ x ∈ qbr l ps i, x < 256
 | 0 => hl
 | i + 1 => by rw [qbr]; exact qsy (qcb hl ps i) _
end Go.Proofs.YtcajpeiobkcliaaGreatDoor
