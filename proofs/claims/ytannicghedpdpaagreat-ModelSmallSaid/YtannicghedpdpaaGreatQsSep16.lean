/- A part of the proof. -/
import Derived.Test.YtannicghedpdpaaGreatQsSep15
namespace Go.Proofs.YtannicghedpdpaaGreat
open Go.RowKit
section
variable {P : Program} {S : World → Prop} {σ : List (Nat × Value)} {o : Oper}
theorem Yl.remN {t u : TypeId} {x y : Operand} {k : Go.IntKind} {m n : Nat} (hop : o.op = .binOp .rem t x y u) (hx : look σ x = some (.int k (m : Int))) (hy : look σ y = some (.int k (n : Int))) (hn : 0 < n) : Yl P S σ o (.int k ((m % n : Nat) : Int)) := fun a N D I w hS => by
 have hb : qca .rem (.int k (m : Int)) (.int k (n : Int)) = some (.int k ((m % n : Nat) : Int)) := by
  show (if k = k then qhj .rem k (m : Int) (n : Int) else none) = _
  rw [if_pos rfl]
  show (if (n : Int) = 0 then none else some (Value.int k ((m : Int).tmod (n : Int)))) = _
  rw [if_neg om]
  exact congrArg some (qav k m n)
 unfold execOp
 simp [hop, I.eval hx, I.eval hy, qak (P := P) .rem t x y (a := .int k (m : Int)) rfl, qcy hb t]
theorem Yl.quoN {t u : TypeId} {x y : Operand} {k : Go.IntKind} {m n : Nat} (hop : o.op = .binOp .quo t x y u) (hx : look σ x = some (.int k (m : Int))) (hy : look σ y = some (.int k (n : Int))) (hn : 0 < n) (hm : m ≤ mostN k) : Yl P S σ o (.int k ((m / n : Nat) : Int)) := fun a N D I w hS => by
 have hb : qca .quo (.int k (m : Int)) (.int k (n : Int)) = some (.int k ((m / n : Nat) : Int)) := by
  show (if k = k then qhj .quo k (m : Int) (n : Int) else none) = _
  rw [if_pos rfl]
  show (if (n : Int) = 0 then none else some (Value.int k (k.wrap ((m : Int).tdiv (n : Int))))) = _
  rw [if_neg om]
  exact congrArg some (qii k n hm)
 unfold execOp
 simp [hop, I.eval hx, I.eval hy, qak (P := P) .quo t x y (a := .int k (m : Int)) rfl, qcy hb t]
theorem Yl.shrN {t u : TypeId} {x y : Operand} {k k' : Go.IntKind} {m n : Nat} (hop : o.op = .binOp .shr t x y u) (hx : look σ x = some (.int k (m : Int))) (hy : look σ y = some (.int k' (n : Int))) (hn : n ≤ k.bits) : Yl P S σ o (.int k ((m / 2 ^ n : Nat) : Int)) := fun a N D I w hS => by
 have hb : qca .shr (.int k (m : Int)) (.int k' (n : Int)) = some (.int k ((m / 2 ^ n : Nat) : Int)) := by
  show (if (n : Int) < 0 then none else some (Value.int k (Int.fdiv (m : Int) (2 ^ (Min.min (n : Int).toNat k.bits))))) = _
  rw [if_neg om]
  exact congrArg some (qij k m (j := n) rfl (by rw [Int.toNat_natCast, Nat.min_eq_left hn]))
 unfold execOp
 simp [hop, I.eval hx, I.eval hy, qak (P := P) .shr t x y (a := .int k (m : Int)) rfl, qcy hb t]
def qlm (P : Program) (t : TypeId) : Bool := match P.underlying t with
 | some .bool => true
 | _ => false
theorem qoc {t : TypeId} (ht : qlm P t = true) (x y : Bool) (w : World) : (Op.equal t (.bool x) (.bool y)).run P w = .ok (x == y) w := by
 unfold qlm at ht
 split at ht
 ·rename_i hu
  show (Op.equalIn (9999 + 1) t (.bool x) (.bool y)).run P w = _
  exact run_equalIn_bool w 9999 t x y hu
 ·cases ht
theorem Yl.qxk {t u : TypeId} {p q : Operand} {x y : Bool} (hop : o.op = .binOp .neq t p q u) (hx : look σ p = some (.bool x)) (hy : look σ q = some (.bool y)) (ht : qlm P t = true) : Yl P S σ o (.bool (!(x == y))) := fun a n D I w hS => by
 unfold execOp
 have e : (binOp .neq t (.bool x) (.bool y)).run P w = .ok (.bool (!(x == y))) w := by
  show ((do Pure.pure (.bool (!(← Op.equal t (.bool x) (.bool y)))) : Sem Value)).run P w = _
  simp [qoc ht]
 simp only [hop, I.eval hx, I.eval hy, Sem.run_bind, qak (P := P) .neq t p q (a := .bool x) rfl, Result.andThen_ok, e, Sem.run_pure]
end
end Go.Proofs.YtannicghedpdpaaGreat
