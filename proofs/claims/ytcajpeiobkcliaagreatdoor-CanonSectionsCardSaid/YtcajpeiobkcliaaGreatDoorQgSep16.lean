/- A part of the proof. -/
import Derived.Test.YtcajpeiobkcliaaGreatDoorQgSep15
namespace Go.Proofs.YtcajpeiobkcliaaGreatDoor
open Go.RowKit
section
variable {P : Program} {S : World → Prop} {σ : List (Nat × Value)} {o : Oper}
theorem Yl.remN {t u : TypeId} {x y : Operand} {k : Go.IntKind} {m n : Nat} (hop : o.op = .binOp .rem t x y u) (hx : look σ x = some (.int k (m : Int))) (hy : look σ y = some (.int k (n : Int))) (hn : 0 < n) : Yl P S σ o (.int k ((m % n : Nat) : Int)) := fun a N D Z w hS => by
 have hb : qb4 .rem (.int k (m : Int)) (.int k (n : Int)) = some (.int k ((m % n : Nat) : Int)) := by
  show (if k = k then qhz .rem k (m : Int) (n : Int) else none) = _
  rw [if_pos rfl]
  show (if (n : Int) = 0 then none else some (Value.int k ((m : Int).tmod (n : Int)))) = _
  rw [if_neg om]
  exact congrArg some (qaj k m n)
 unfold execOp
 simp [hop, Z.eval hx, Z.eval hy, qac (P := P) .rem t x y (a := .int k (m : Int)) rfl, qb5 hb t]
theorem Yl.quoN {t u : TypeId} {x y : Operand} {k : Go.IntKind} {m n : Nat} (hop : o.op = .binOp .quo t x y u) (hx : look σ x = some (.int k (m : Int))) (hy : look σ y = some (.int k (n : Int))) (hn : 0 < n) (hm : m ≤ mostN k) : Yl P S σ o (.int k ((m / n : Nat) : Int)) := fun a N D Z w hS => by
 have hb : qb4 .quo (.int k (m : Int)) (.int k (n : Int)) = some (.int k ((m / n : Nat) : Int)) := by
  show (if k = k then qhz .quo k (m : Int) (n : Int) else none) = _
  rw [if_pos rfl]
  show (if (n : Int) = 0 then none else some (Value.int k (k.wrap ((m : Int).tdiv (n : Int))))) = _
  rw [if_neg om]
  exact congrArg some (qvo k n hm)
 unfold execOp
 simp [hop, Z.eval hx, Z.eval hy, qac (P := P) .quo t x y (a := .int k (m : Int)) rfl, qb5 hb t]
theorem Yl.shrN {t u : TypeId} {x y : Operand} {k k' : Go.IntKind} {m n : Nat} (hop : o.op = .binOp .shr t x y u) (hx : look σ x = some (.int k (m : Int))) (hy : look σ y = some (.int k' (n : Int))) (hn : n ≤ k.bits) : Yl P S σ o (.int k ((m / 2 ^ n : Nat) : Int)) := fun a N D Z w hS => by
 have hb : qb4 .shr (.int k (m : Int)) (.int k' (n : Int)) = some (.int k ((m / 2 ^ n : Nat) : Int)) := by
  show (if (n : Int) < 0 then none else some (Value.int k (Int.fdiv (m : Int) (2 ^ (Min.min (n : Int).toNat k.bits))))) = _
  rw [if_neg om]
  exact congrArg some (qbm k m (j := n) rfl (by rw [Int.toNat_natCast, Nat.min_eq_left hn]))
 unfold execOp
 simp [hop, Z.eval hx, Z.eval hy, qac (P := P) .shr t x y (a := .int k (m : Int)) rfl, qb5 hb t]
theorem Yl.shlN {t u : TypeId} {x y : Operand} {k k' : Go.IntKind} {m n : Nat} (hop : o.op = .binOp .shl t x y u) (hx : look σ x = some (.int k (m : Int))) (hy : look σ y = some (.int k' (n : Int))) (hn : n ≤ k.bits) (hm : m * 2 ^ n ≤ mostN k) : Yl P S σ o (.int k ((m * 2 ^ n : Nat) : Int)) := fun a N D Z w hS => by
 have hb : qb4 .shl (.int k (m : Int)) (.int k' (n : Int)) = some (.int k ((m * 2 ^ n : Nat) : Int)) := by
  show (if (n : Int) < 0 then none else some (Value.int k (k.wrap ((m : Int) * 2 ^ (Min.min (n : Int).toNat k.bits))))) = _
  rw [if_neg om]
  have e : (m : Int) * 2 ^ (Min.min (n : Int).toNat k.bits) = ((m * 2 ^ n : Nat) : Int) := by rw [Int.toNat_natCast, Nat.min_eq_left hn]; norm_cast
  rw [e, qa7 k hm]
 unfold execOp
 simp [hop, Z.eval hx, Z.eval hy, qac (P := P) .shl t x y (a := .int k (m : Int)) rfl, qb5 hb t]
end
end Go.Proofs.YtcajpeiobkcliaaGreatDoor
