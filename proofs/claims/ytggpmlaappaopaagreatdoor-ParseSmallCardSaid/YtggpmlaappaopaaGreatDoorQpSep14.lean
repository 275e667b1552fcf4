/- A part of the proof. -/
import Derived.Test.YtggpmlaappaopaaGreatDoorQpSep13
import Derived.Lib.AppendZeros
namespace Go.Proofs.YtggpmlaappaopaaGreatDoor
open Go.RowKit
section
variable {P : Program} {Q : Exit → Act → World → Prop} {a : Act} {W w : World} {n d : Nat} {D : List Deferred} {σ : List (Nat × Value)} {o : Oper} {K : Act → World → Prop} {fs : List Fact} {S : World → Prop}
theorem Yl.cap {x : Operand} {t : TypeId} {A : Option Addr} {m c : Nat} (hop : o.op = .call { callee := .builtin .cap, args := #[x], argTypes := #[t] }) (hx : look σ x = some (.slice A m c)) (ht : isSl P t = true) : Yl P S σ o (.int .i64 (c : Int)) := fun a n D M w hS => by
 unfold isSl at ht
 split at ht
 ·rename_i e hu
  unfold execOp
  simp [hop, resolve, invoke, builtin, M.eval hx, Builtin.cap_, run_underlying hu, goInt]
 ·cases ht
end
theorem q08 {m n j : Nat} (hm : m < 2 ^ j) : m ||| n * 2 ^ j = m + n * 2 ^ j := by
 have := Nat.two_pow_add_eq_or_of_lt hm n
 rw [Nat.or_comm, Nat.mul_comm n, ← this, Nat.add_comm]
theorem qi2 {m n j p : Nat} (hp : 2 ^ j = p) (hm : m < p) (hb : m + n * p < 4294967296) : Value.int .u32 (Go.IntKind.u32.wrap (BitVec.ofInt Go.IntKind.u32.bits (m : Int) ||| BitVec.ofInt Go.IntKind.u32.bits ((n * p : Nat) : Int)).toNat) = .int .u32 ((m + n * p : Nat) : Int) := by
 subst hp
 have h := q07 (m := m) (n := n * 2 ^ j) (by omega) (by omega)
 rw [q08 hm] at h
 exact h
structure Part where
 A : Option Addr
 c : Nat
 l : List Nat
def Part.val (p : Part) : Value := .slice p.A p.l.length p.c
end Go.Proofs.YtggpmlaappaopaaGreatDoor
