/- A part of the proof. -/
import Derived.Test.YtggpmlaappaopaaGreatDoorQsSep12
import Derived.Test.YtggpmlaappaopaaGreatDoorQsSepU
namespace Go.Proofs.YtggpmlaappaopaaGreatDoor
open Go.RowKit
section
variable {P : Program} {S : World → Prop} {σ : List (Nat × Value)} {o : Oper} {v : Value}
theorem Yl.qwi {t : TypeId} {x : Operand} {m : Nat} (hop : o.op = .unOp .xor t x) (hx : look σ x = some (.int .u32 (m : Int))) (hm : m < 4294967296) : Yl P S σ o (.int .u32 ((m ^^^ 4294967295 : Nat) : Int)) := fun a n D HF w hS => by
 have h1 := qfb (m := 4294967295) (n := m) (by decide) hm
 rw [Nat.xor_comm] at h1
 unfold execOp
 simp only [hop, HF.eval hx, Op.unary]
 rw [← h1]
 rfl
def qog (P : Program) (t : TypeId) : Option (Nat × Nat) := match P.underlying t with
 | some (.array n e) => (P.info? e).map fun i => (n, i.size)
 | _ => none
theorem Yl.qeh {t : TypeId} {x ix : Operand} {ad : Addr} {m y sz : Nat} {k : IntKind} (hop : o.op = .indexAddr t x ix) (hx : look σ x = some (.pointer (some ad))) (hi : look σ ix = some (.int k (y : Int))) (he : qog P t = some (m, sz)) (hy : y < m) : Yl P S σ o (.pointer (some (ad.add (y * sz)))) := fun a n D HF w hS => by
 unfold qog at he
 split at he
 ·rename_i m' e hu
  obtain ⟨i, hi', he⟩ := Option.map_eq_some_iff.1 he
  injection he with h1 h2
  subst h1; subst h2
  unfold execOp
  simp [hop, HF.eval hx, HF.eval hi, Instr.indexAt, asIntOf, run_underlying hu, hy, sizeOf, typeInfo, hi', Instr.sureAddr]
 ·cases he
end
section
variable {W w : World} {fs : List Fact}
theorem Mem.oldBlk (h : Mem W w fs) {g : Nat} {ob : Obj} (hb : W.heap[g]? = some ob) : w.heap[g]? = some ob := (h.below.block g (qap hb)).trans hb
theorem Mem.qf0 (h : Mem W w fs) {g off : Nat} {cs : Array Value} {t : TypeId} {v : Value} (hb : W.heap[g]? = some (.cells cs t (0, 0))) (hc : cs[off]? = some v) : w.cell? ⟨g, off, none⟩ = some v := by
 simp [World.cell?, h.oldBlk hb, hc]
end
end Go.Proofs.YtggpmlaappaopaaGreatDoor
