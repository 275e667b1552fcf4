/- A part of the proof. -/
import Derived.Test.YtggpmlaappaopaaGreatDoorQtSep15
namespace Go.Proofs.YtggpmlaappaopaaGreatDoor
open Go.RowKit
section
variable {P : Program} {S : World → Prop} {σ : List (Nat × Value)} {o : Oper}
theorem Yl.shrN {t u : TypeId} {x y : Operand} {k k' : Go.IntKind} {m n : Nat} (hop : o.op = .binOp .shr t x y u) (hx : look σ x = some (.int k (m : Int))) (hy : look σ y = some (.int k' (n : Int))) (hn : n ≤ k.bits) : Yl P S σ o (.int k ((m / 2 ^ n : Nat) : Int)) := fun a N D HF w hS => by
 have hb : qjl .shr (.int k (m : Int)) (.int k' (n : Int)) = some (.int k ((m / 2 ^ n : Nat) : Int)) := by
  show (if (n : Int) < 0 then none else some (Value.int k (Int.fdiv (m : Int) (2 ^ (Min.min (n : Int).toNat k.bits))))) = _
  rw [if_neg (by omega)]
  exact congrArg some (qdq k m (j := n) rfl (by rw [Int.toNat_natCast, Nat.min_eq_left hn]))
 unfold execOp
 simp [hop, HF.eval hx, HF.eval hy, qb1 (P := P) .shr t x y (a := .int k (m : Int)) rfl, qei hb t]
theorem Yl.shlN {t u : TypeId} {x y : Operand} {k k' : Go.IntKind} {m n : Nat} (hop : o.op = .binOp .shl t x y u) (hx : look σ x = some (.int k (m : Int))) (hy : look σ y = some (.int k' (n : Int))) (hn : n ≤ k.bits) (hm : m * 2 ^ n ≤ mostN k) : Yl P S σ o (.int k ((m * 2 ^ n : Nat) : Int)) := fun a N D HF w hS => by
 have hb : qjl .shl (.int k (m : Int)) (.int k' (n : Int)) = some (.int k ((m * 2 ^ n : Nat) : Int)) := by
  show (if (n : Int) < 0 then none else some (Value.int k (k.wrap ((m : Int) * 2 ^ (Min.min (n : Int).toNat k.bits))))) = _
  rw [if_neg (by omega)]
  have e : (m : Int) * 2 ^ (Min.min (n : Int).toNat k.bits) = ((m * 2 ^ n : Nat) : Int) := by rw [Int.toNat_natCast, Nat.min_eq_left hn]; norm_cast
  rw [e, qbi k hm]
 unfold execOp
 simp [hop, HF.eval hx, HF.eval hy, qb1 (P := P) .shl t x y (a := .int k (m : Int)) rfl, qei hb t]
end
end Go.Proofs.YtggpmlaappaopaaGreatDoor
