/- A part of the proof. -/
import Derived.Test.YtcajpeiobkcliaaGreatDoorQwVarint
namespace Go.Proofs.YtcajpeiobkcliaaGreatDoor
open Go.RowKit
def vgo : Nat → Nat → List Nat → Nat × Nat × Nat
 | _, _, [] => (0, 0, 10)
 | i, acc, b :: r =>
  if i = 9 ∧ 1 < b then (0, 0, 11) else if 0 < i ∧ b = 0 then (0, 0, 12) else
  if b < 128 then (acc + b * 128 ^ i, i + 1, 0) else vgo (i + 1) (acc + (b - 128) * 128 ^ i) r
def vread (l : List Nat) : Nat × Nat × Nat := vgo 0 0 l
end Go.Proofs.YtcajpeiobkcliaaGreatDoor
