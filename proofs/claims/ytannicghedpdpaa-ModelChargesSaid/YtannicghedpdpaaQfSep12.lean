/- A part of the proof. -/
import Derived.Test.YtannicghedpdpaaQfSep11
import Derived.IntWalk
namespace Go.Proofs.Ytannicghedpdpaa
open Go.RowKit
def mostN : Go.IntKind → Nat
 | .i8 => 127 | .i16 => 32767 | .i32 => 2147483647 | .i64 => 9223372036854775807
 | .u8 => 255 | .u16 => 65535 | .u32 => 4294967295 | .u64 => 18446744073709551615
theorem qat (k : Go.IntKind) {m : Nat} (h : m ≤ mostN k) : Go.IntKind.wrap k (m : Int) = (m : Int) := by
 cases k <;> simp only [mostN] at h
 ·exact IntWalk.i8_in _ om
 ·exact IntWalk.i16_in _ om
 ·exact IntWalk.i32_in _ om
 ·exact IntWalk.i64_in _ om
 ·exact IntWalk.u8_in _ om
 ·exact IntWalk.u16_in _ om
 ·exact IntWalk.u32_in _ om
 ·exact IntWalk.u64_in _ om
theorem qau {x : Int} {m : Nat} (h : x = (m : Int)) (hb : m ≤ 9223372036854775807) : Value.int .i64 (Go.IntKind.i64.wrap x) = .int .i64 (m : Int) := by subst h; rw [qat .i64 hb]
theorem qdb {x : Int} {m : Nat} (h : x = (m : Int)) (hb : m ≤ 18446744073709551615) : Value.int .u64 (Go.IntKind.u64.wrap x) = .int .u64 (m : Int) := by subst h; rw [qat .u64 hb]
theorem qdc {x : Int} {m : Nat} (h : x = (m : Int)) (hb : m ≤ 4294967295) : Value.int .u32 (Go.IntKind.u32.wrap x) = .int .u32 (m : Int) := by subst h; rw [qat .u32 hb]
theorem zh (k : Go.IntKind) (m n : Nat) : Value.int k (Int.tmod (m : Int) (n : Int)) = .int k ((m % n : Nat) : Int) := by rw [Int.tmod_eq_emod_of_nonneg om]; rfl
theorem qoz (k : Go.IntKind) {m : Nat} (n : Nat) (h : m ≤ mostN k) : Value.int k (Go.IntKind.wrap k (Int.tdiv (m : Int) (n : Int))) = .int k ((m / n : Nat) : Int) := by
 rw [Int.tdiv_eq_ediv_of_nonneg om, show ((m : Int) / (n : Int)) = ((m / n : Nat) : Int) from rfl, qat k (Nat.le_trans (Nat.div_le_self _ _) h)]
theorem qf0 (k : Go.IntKind) (m : Nat) {j : Nat} {p : Int} {q : Nat} (hp : p = (j : Int)) (hq : 2 ^ (min p.toNat k.bits) = q) : Value.int k (Int.fdiv (m : Int) (2 ^ (min p.toNat k.bits))) = .int k ((m / q : Nat) : Int) := by
 subst hp; subst hq
 congr 1
 rw [Int.fdiv_eq_ediv_of_nonneg _ (by exact_mod_cast Nat.zero_le _)]
 norm_cast
theorem qcr (w : Nat) {m : Nat} (h : m < 2 ^ w) : (BitVec.ofInt w (m : Int)).toNat = m := by
 rw [BitVec.toNat_ofInt]
 have : ((m : Int) % ((2 ^ w : Nat) : Int)) = (m : Int) := Int.emod_eq_of_lt om (by exact_mod_cast h)
 rw [this]; rfl
theorem qq4 (k : Go.IntKind) {m n : Nat} (hm : m < 2 ^ k.bits) (hn : n < 2 ^ k.bits) (hr : m &&& n ≤ mostN k) : Value.int k (Go.IntKind.wrap k (BitVec.ofInt k.bits (m : Int) &&& BitVec.ofInt k.bits (n : Int)).toNat) = .int k ((m &&& n : Nat) : Int) := by
 rw [BitVec.toNat_and, qcr _ hm, qcr _ hn, qat k hr]
theorem qst (k : Go.IntKind) {m n : Nat} (hm : m < 2 ^ k.bits) (hn : n < 2 ^ k.bits) (hr : m ||| n ≤ mostN k) : Value.int k (Go.IntKind.wrap k (BitVec.ofInt k.bits (m : Int) ||| BitVec.ofInt k.bits (n : Int)).toNat) = .int k ((m ||| n : Nat) : Int) := by
 rw [BitVec.toNat_or, qcr _ hm, qcr _ hn, qat k hr]
theorem qo0 (k : Go.IntKind) {m j n : Nat} (hn : n = 2 ^ j - 1) (hj : 2 ^ j - 1 ≤ mostN k) (hm : m < 2 ^ k.bits) (hn2 : n < 2 ^ k.bits) : Value.int k (Go.IntKind.wrap k (BitVec.ofInt k.bits (m : Int) &&& BitVec.ofInt k.bits (n : Int)).toNat) = .int k ((m % 2 ^ j : Nat) : Int) := by
 subst hn
 have h := Nat.and_two_pow_sub_one_eq_mod m j
 rw [qq4 k hm hn2 (by rw [h]; have := Nat.mod_lt m (Nat.two_pow_pos j); omega), h]
theorem qsu {m n : Nat} (hm : m < 18446744073709551616) (hn : n < 18446744073709551616) : Value.int .u64 (Go.IntKind.u64.wrap (BitVec.ofInt Go.IntKind.u64.bits (m : Int) ||| BitVec.ofInt Go.IntKind.u64.bits (n : Int)).toNat) = .int .u64 ((m ||| n : Nat) : Int) :=
 qst .u64 (by show m < 18446744073709551616; omega) (by show n < 18446744073709551616; omega) (by have h : m ||| n < 18446744073709551616 := Nat.or_lt_two_pow (n := 64) (by simpa using hm) (by simpa using hn); show _ ≤ 18446744073709551615; omega)
theorem qf1 {m j n : Nat} (hn : n = 2 ^ j - 1) (hn2 : n < 18446744073709551616) (hm : m < 18446744073709551616) : Value.int .u64 (Go.IntKind.u64.wrap (BitVec.ofInt Go.IntKind.u64.bits (m : Int) &&& BitVec.ofInt Go.IntKind.u64.bits (n : Int)).toNat) = .int .u64 ((m % 2 ^ j : Nat) : Int) :=
 qo0 .u64 hn (by rw [← hn]; show n ≤ 18446744073709551615; omega) (by show m < 18446744073709551616; omega) (by show n < 18446744073709551616; omega)
theorem getD_at {α : Type} {l : List α} {k : Nat} (d : α) (h : k < l.length) : l[k]? = some (l.getD k d) := by
 rw [List.getD_eq_getElem?_getD, List.getElem?_eq_getElem h]; rfl
theorem qj {α : Type} {l : List α} {k : Nat} (d : α) (h : k < l.length) : l.getD k d ∈ l := List.mem_of_getElem? (getD_at d h)
end Go.Proofs.Ytannicghedpdpaa
