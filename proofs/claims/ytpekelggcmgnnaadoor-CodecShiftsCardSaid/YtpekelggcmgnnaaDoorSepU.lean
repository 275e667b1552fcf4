/- The steps at bytes and strings; contracts of the codec in the form that the walks take. -/
import Derived.Test.YtpekelggcmgnnaaDoorSep5
import Derived.Test.YtpekelggcmgnnaaDoorConv
import Derived.Test.YtpekelggcmgnnaaDoorAwake
import Derived.IntWalk
namespace Go.Proofs.YtpekelggcmgnnaaDoor
open Go.RowKit

theorem Yl.str {S : World → Prop} {σ : List (Nat × Value)} {o : Oper} {x : Operand} {A : Option Addr} {n c : Nat} {l : List Nat} (hop : o.op = .convert 25 9 x) (hx : look σ x = some (.slice A n c)) (hr : ∀ w, S w → Rd w w.heap.size 1 A n (l.map B8)) : Yl Tryd.prog S σ o (.string (bstr l)) := fun a m D HF w hS => by
  unfold execOp
  simp [hop, HF.eval hx, conv_u8 (hr w hS)]
theorem bstr_eq (l : List Nat) : ((bstr l).toList == (bstr l).toList) = true := by simp
theorem Laid.mem {B : Nat} {W w : World} {fs : List Fact} (h : Laid B W) (hM : Mem W w fs) (hB : B ≤ W.heap.size) : Laid B w := h.below hM.below hB
theorem Mem.le {W w : World} {fs : List Fact} (h : Mem W w fs) {B : Nat} (hB : B ≤ W.heap.size) : B ≤ w.heap.size := Nat.le_trans hB h.size
theorem i64_as {x : Int} (h : -9223372036854775808 ≤ x ∧ x ≤ 9223372036854775807) : Value.int .i64 (IntKind.i64.wrap x) = .int .i64 x := by rw [IntWalk.i64_in x h]
/-- Bytes that a callee hands over, and a number beside them. -/
def BytesIs (w : World) (er : Nat) (R : List Nat) (r : Ending) (w' : World) : Prop :=
  (∃ A c, r = .returned (.tuple #[.slice A R.length c, .int .i64 (er : Int)]) ∧ w'.ownsRow w.heap.size 5 1 (.slice A R.length c) R.length (R.map B8) ∧ R.length ≤ c) ∧ Below w.heap.size w w'
theorem BytesPost.is {w w' : World} {r : Ending} {er er' : Nat} {R R' : List Nat} (h : BytesPost w er R r w') (h1 : er = er') (h2 : R = R') : BytesIs w er' R' r w' := by
  subst h1; subst h2
  obtain ⟨⟨v, rfl, ho⟩, hb⟩ := h
  obtain ⟨A, c, rfl, hc⟩ := own_slice ho
  exact ⟨⟨A, c, rfl, ho, hc⟩, hb⟩
theorem put_is (b : Bs) (e : Ev) (he : e.Ok) (B : Nat) (w : World) (hL : Laid B w) (hB : B ≤ w.heap.size) {er : Nat} {R : List Nat} (h1 : putErr b e = er) (h2 : putOut b e = R) :
    Calls Tryd.prog 18 #[.agg b.cells, .agg e.cells] w (BytesIs w er R) :=
  (put1_any b e he B w hL hB).mono fun _ _ h => h.is h1 h2
theorem write_is (b : Bs) (A : Option Addr) (n c : Nat) (l : List Ev) (hok : ∀ e ∈ l, e.Ok) (B : Nat) (w : World) (hL : Laid B w) (hB : B ≤ w.heap.size) (hr : Rd w w.heap.size 11 A n (l.flatMap evL)) (hn : n ≤ 1000000000000) {er : Nat} {R : List Nat} (h1 : writeErr b l = er) (h2 : writeOut b l = R) :
    Calls Tryd.prog 14 #[.agg b.cells, .slice A n c] w (BytesIs w er R) :=
  (write_any b A n c l hok B w hL hB hr hn).mono fun _ _ h => h.is h1 h2
end Go.Proofs.YtpekelggcmgnnaaDoor
