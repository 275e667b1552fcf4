/- A part of the proof. -/
import Derived.Test.YtggpmlaappaopaaGreatDoorQsSep8
import Derived.Deep.Upon
namespace Go.Proofs.YtggpmlaappaopaaGreatDoor
open Go.RowKit
theorem qrj {P : Program} (w : World) {size : Nat} {tx e' : TypeId} (hk : P.underlying tx = some (.slice e')) (A : Option Addr) (c : Nat) : Src P size tx (.slice A 0 c) 0 [] w := by
 cases A with
 | none => exact Src.ofNil w hk c
 | some a => exact Src.ofSlice w hk a 0 c [] (by simp) (fun j u h => by simp at h) (by simp)
section
variable {P : Program} {S : World → Prop} {σ : List (Nat × Value)} {o : Oper}
theorem Yl.qh8 {t e : TypeId} {z : Value} {size bytes m cap c : Nat} {A A2 : Option Addr} {s x : Operand} (hop : o.op = .call { callee := .builtin .append, args := #[s, x], argTypes := #[t, t] }) (ei : EI P t e z size bytes) (hs : look σ s = some (.slice A m cap)) (hx : look σ x = some (.slice A2 0 c)) (hm : m ≤ cap) :
  Yl P S σ o (.slice A m cap) := fun a n D HF w hS => by
 obtain ⟨i, hi, hz, hsz, hby⟩ := info_parts ei.hi
 have hrun := run_append_nothing (P := P) w t t o.type e i ei.ht hi A m cap hm (.slice A2 0 c) (qrj w ei.ht A2 c)
 unfold execOp
 simp only [hop, resolve, invoke, builtin, Sem.run_bind, Sem.run_pure, Result.andThen_ok, List.map_toArray, List.map_cons, List.map_nil, HF.eval hs, HF.eval hx, hrun]
end
theorem Rd.toB8 {w : World} {B n k : Nat} {A : Option Addr} {l : List Nat} (h : Rd w B 1 A n (l.map B8)) (hk : k ≤ n) : Rd w B 1 A k ((l.take k).map B8) := by
 have h1 := h.upto hk
 rwa [Nat.mul_one, ← List.map_take] at h1
def I64i (x : Int) : Value := .int .i64 x
end Go.Proofs.YtggpmlaappaopaaGreatDoor
