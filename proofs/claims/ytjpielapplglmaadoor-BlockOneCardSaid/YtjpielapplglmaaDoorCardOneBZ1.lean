/- Texts laid together: Sep11, Sep12, SepU, Sep13, Sep14, Sep15, EvEq, BlkM, DoorLB, Blk1W, CrcW, LenW, Blk2W, BlkT, BlkU. -/
import Derived.Test.YtjpielapplglmaaDoorSep10
import Derived.MapKept
import Derived.IntWalk
import Derived.Test.YtjpielapplglmaaDoorSep5
import Derived.Test.YtjpielapplglmaaDoorConv
import Derived.Lib.AppendZeros
import Derived.ChangeKeysEq
import Derived.Laws.StructEq
import Derived.Test.YtjpielapplglmaaDoorBlkS
import Derived.Test.YtjpielapplglmaaDoorDoor
import Derived.Test.YtjpielapplglmaaDoorRows
import Derived.Test.YtjpielapplglmaaDoorBlkR
/- Generic: maps of the call's own, known whole; functions with captured values. No program is in sight. -/
namespace Go.Proofs.YtjpielapplglmaaDoor
open Go.RowKit Go.MapKept

section
variable {P : Program} {Q : Exit → Act → World → Prop} {a : Act} {W w : World} {n d : Nat} {D : List Deferred} {σ : List (Nat × Value)} {o : Oper} {K : Act → World → Prop} {fs : List Fact} {S : World → Prop}
theorem Mem.objAt (h : Mem W w fs) {i g : Nat} {ob : Obj} (hi : fs[i]? = some (.obj g ob)) : w.heap[g]? = some ob := (h.holds _ (List.mem_of_getElem? hi)).2
theorem Mem.setObj (h : Mem W w fs) {i g : Nat} {ob : Obj} (hi : fs[i]? = some (.obj g ob)) (ob' : Obj) : Mem W { w with heap := w.heap.setIfInBounds g ob' } (fs.set i (.obj g ob')) := by
  have hb := h.holds _ (List.mem_of_getElem? hi)
  have hlt := blk_lt hb.2
  have hother : ∀ k, k ≠ g → (w.heap.setIfInBounds g ob')[k]? = w.heap[k]? := fun k hk => Array.getElem?_setIfInBounds_ne (Ne.symm hk)
  refine h.turn hi ⟨h.below.os, h.below.tape, h.below.output, by simpa using h.below.size, fun k hk => ?_⟩ (fun k _ hne => hother k (fun e => hne (by rw [e]; rfl))) ⟨hb.1, ?_⟩ (fun g' hg' => .inl hg')
  · have := hb.1
    exact (hother k (by omega)).trans (h.below.block k hk)
  · show (w.heap.setIfInBounds g ob')[g]? = some ob'
    rw [Array.getElem?_setIfInBounds_self]
    simp [hlt]
/-- A map is made. -/
theorem e_makeMap (HF : Fr a n D σ) (HM : Mem W w fs) {t : TypeId} (hop : o.op = .makeMap t none) (hd : o.dst = some d) (hdn : d < n)
    (k : ∀ a' w' g, Fr a' n D ((d, .map (some g)) :: σ) → Mem W w' (.obj g (.map #[] 0) :: fs) → K a' w') : o.wp P a w K Q := by
  have e1 : (execOp a.eval o).run P w = .ok (.value (.map (some w.heap.size))) (w.alloc (.map #[] 0)) := by
    unfold execOp
    simp only [hop, Sem.run_bind]
    rfl
  unfold Oper.wp
  rw [e1, Oper.upon_value, hd]
  exact k _ _ _ (HF.put hdn _) (HM.allocObj _)
/-- A key that a map has not yet. -/
theorem e_mapNew (HF : Fr a n D σ) (HM : Mem W w fs) {t kt et : TypeId} {kd : TypeDesc} {m x y : Operand} {i g clock : Nat} {es : Array MapEntry} {key val : Value} (hop : o.op = .mapUpdate t m x y ∨ o.op = .insert t m x y) (hd : o.dst = none) (ht : P.underlying t = some (.map kt et)) (hk : P.underlying kt = some kd)
    (hm : look σ m = some (.map (some g))) (hx : look σ x = some key) (hy : look σ y = some val) (hi : fs[i]? = some (.obj g (.map es clock))) (hkey : IsKey kd key) (hf : Instr.findNow kd key es.toList 0 = some none)
    (k : ∀ w', Mem W w' (fs.set i (.obj g (.map (es.push { key, val, born := clock }) (clock + 1)))) → K a w') : o.wp P a w K Q := by
  have hb := HM.objAt hi
  have e1 : (Instr.mapUpdate t (.map (some g)) key val).run P w = .ok () { w with heap := w.heap.setIfInBounds g (.map (es.push { key, val, born := clock }) (clock + 1)) } := by
    unfold Instr.mapUpdate
    simp only [Sem.run_bind, run_underlying ht, Result.andThen_ok, MapKept.run_getObj_map hb, run_checkKey hk hkey, run_findKey hk hf, MapKept.run_setObj_map _ hb]
  unfold Oper.wp execOp
  rcases hop with hop | hop <;> simp only [hop, HF.eval hm, HF.eval hx, HF.eval hy, Sem.run_bind, e1, Result.andThen_ok, Sem.run_pure, Oper.upon_skip, hd]
  · exact k _ (HM.setObj hi _)
  · exact k _ (HM.setObj hi _)
/-- What a map has under a key. -/
theorem Yl.lookupHas {t kt et : TypeId} {kd : TypeDesc} {m x : Operand} {g clock j : Nat} {es : Array MapEntry} {key v : Value} (hop : o.op = .lookup t m x false) (ht : P.underlying t = some (.map kt et)) (hk : P.underlying kt = some kd) (hm : look σ m = some (.map (some g))) (hx : look σ x = some key) (hb : ∀ w, S w → w.heap[g]? = some (.map es clock)) (hkey : IsKey kd key) (hf : Instr.findNow kd key es.toList 0 = some (some (j, v))) :
    Yl P S σ o v := fun a n D HF w hS => by
  have e1 : (Instr.lookup t (.map (some g)) key false).run P w = .ok v w := by
    unfold Instr.lookup
    simp only [Sem.run_bind, run_underlying ht, Result.andThen_ok, MapKept.run_getObj_map (hb w hS), Sem.run_pure, run_checkKey hk hkey, run_findKey hk hf]
    rfl
  unfold execOp
  simp only [hop, HF.eval hm, HF.eval hx, Sem.run_bind, e1, Result.andThen_ok, Sem.run_pure]
theorem Yl.lookupNone {t kt et : TypeId} {kd : TypeDesc} {m x : Operand} {g clock : Nat} {es : Array MapEntry} {key z : Value} (hop : o.op = .lookup t m x false) (ht : P.underlying t = some (.map kt et)) (hk : P.underlying kt = some kd) (hm : look σ m = some (.map (some g))) (hx : look σ x = some key) (hb : ∀ w, S w → w.heap[g]? = some (.map es clock)) (hkey : IsKey kd key) (hf : Instr.findNow kd key es.toList 0 = some none) (hz : (P.info? et).bind (·.zero) = some z) :
    Yl P S σ o z := fun a n D HF w hS => by
  obtain ⟨inf, hi, hiz⟩ := Option.bind_eq_some_iff.1 hz
  have e1 : (Instr.lookup t (.map (some g)) key false).run P w = .ok z w := by
    unfold Instr.lookup
    simp only [Sem.run_bind, run_underlying ht, Result.andThen_ok, MapKept.run_getObj_map (hb w hS), Sem.run_pure, run_checkKey hk hkey, run_findKey hk hf, zeroValue, typeInfo, program, Sem.run, hi, hiz]
    rfl
  unfold execOp
  simp only [hop, HF.eval hm, HF.eval hx, Sem.run_bind, e1, Result.andThen_ok, Sem.run_pure]
theorem Yl.makeFunc {fn : Fn} {xs ys : Array Operand} {fst caps : List Value} (hop : o.op = .makeFunc fn xs ys) (hx : looks σ xs.toList = some fst) (hy : looks σ ys.toList = some caps) : Yl P S σ o (.func fn fst.toArray caps.toArray) := fun a n D HF w hS => by
  have e1 : xs.map a.eval = fst.toArray := by
    have := looks_map HF hx
    rw [← this, ← Array.toList_map, Array.toArray_toList]
  have e2 : ys.map a.eval = caps.toArray := by
    have := looks_map HF hy
    rw [← this, ← Array.toList_map, Array.toArray_toList]
  unfold execOp
  simp only [hop, Instr.makeFunc, Sem.run_bind, Sem.run_pure, Result.andThen_ok]
  show Result.ok (Next.value (.func fn (Array.map a.eval xs) (Array.map a.eval ys))) w = _
  rw [e1, e2]
/-- A call of a function value, by the contract of its function. -/
theorem e_callv (HF : Fr a n D σ) {fo : Operand} {f : FuncId} {xs : Array Operand} {ts : Array TypeId} {vs fst caps : List Value} {R : Ending → World → Prop} (hop : o.op = .call { callee := .value fo, args := xs, argTypes := ts }) (hfo : look σ fo = some (.func (.func f) fst.toArray caps.toArray)) (hv : looks σ xs.toList = some vs) (hf : callable P f = true) (hd : o.dst = some d) (hdn : d < n)
    (hC : Calls P f (fst ++ vs ++ caps).toArray w R) (k : ∀ e w', R e w' → ∃ v, e = .returned v ∧ ∀ a', Fr a' n D ((d, v) :: σ) → K a' w') : o.wp P a w K Q := by
  have e1 : xs.map a.eval = vs.toArray := by
    have := looks_map HF hv
    rw [← this, ← Array.toList_map, Array.toArray_toList]
  unfold Oper.wp execOp
  simp only [hop, resolve, HF.eval hfo, Deferred.ofValue, invoke, Sem.run_bind, Sem.run_pure, Result.andThen_ok]
  have e3 : fst.toArray ++ Array.map a.eval xs ++ caps.toArray = (fst ++ vs ++ caps).toArray := by simp [e1]
  show Oper.upon P o a K Q (((callFunc f (fst.toArray ++ Array.map a.eval xs ++ caps.toArray)).run P w))
  rw [e3, callable_run hf, Oper.upon_enter]
  refine hC.mono fun e w' he => ?_
  obtain ⟨v, rfl, h2⟩ := k e w' he
  show K (a.put o.dst v) w'
  rw [hd]
  exact h2 _ (HF.put hdn v)
end
end Go.Proofs.YtjpielapplglmaaDoor

/- Generic: numbers as natural numbers. No program is in sight. -/
namespace Go.Proofs.YtjpielapplglmaaDoor
open Go.RowKit

/-- The greatest number of a kind. -/
def mostN : Go.IntKind → Nat
  | .i8 => 127 | .i16 => 32767 | .i32 => 2147483647 | .i64 => 9223372036854775807
  | .u8 => 255 | .u16 => 65535 | .u32 => 4294967295 | .u64 => 18446744073709551615
theorem wrap_nat (k : Go.IntKind) {m : Nat} (h : m ≤ mostN k) : Go.IntKind.wrap k (m : Int) = (m : Int) := by
  cases k <;> simp only [mostN] at h
  · exact IntWalk.i8_in _ (by omega)
  · exact IntWalk.i16_in _ (by omega)
  · exact IntWalk.i32_in _ (by omega)
  · exact IntWalk.i64_in _ (by omega)
  · exact IntWalk.u8_in _ (by omega)
  · exact IntWalk.u16_in _ (by omega)
  · exact IntWalk.u32_in _ (by omega)
  · exact IntWalk.u64_in _ (by omega)
theorem i64_nat {x : Int} {m : Nat} (h : x = (m : Int)) (hb : m ≤ 9223372036854775807) : Value.int .i64 (Go.IntKind.i64.wrap x) = .int .i64 (m : Int) := by subst h; rw [wrap_nat .i64 hb]
theorem u64_nat {x : Int} {m : Nat} (h : x = (m : Int)) (hb : m ≤ 18446744073709551615) : Value.int .u64 (Go.IntKind.u64.wrap x) = .int .u64 (m : Int) := by subst h; rw [wrap_nat .u64 hb]
theorem u32_nat {x : Int} {m : Nat} (h : x = (m : Int)) (hb : m ≤ 4294967295) : Value.int .u32 (Go.IntKind.u32.wrap x) = .int .u32 (m : Int) := by subst h; rw [wrap_nat .u32 hb]
theorem u16_nat {x : Int} {m : Nat} (h : x = (m : Int)) (hb : m ≤ 65535) : Value.int .u16 (Go.IntKind.u16.wrap x) = .int .u16 (m : Int) := by subst h; rw [wrap_nat .u16 hb]
theorem u8_nat {x : Int} {m : Nat} (h : x = (m : Int)) (hb : m ≤ 255) : Value.int .u8 (Go.IntKind.u8.wrap x) = .int .u8 (m : Int) := by subst h; rw [wrap_nat .u8 hb]
theorem u8_mod (m : Nat) : Value.int .u8 (Go.IntKind.u8.wrap (m : Int)) = .int .u8 ((m % 256 : Nat) : Int) := by
  rw [Go.IntKind.wrap_u8]; simp
theorem u32_mod (m : Nat) : Value.int .u32 (Go.IntKind.u32.wrap (m : Int)) = .int .u32 ((m % 4294967296 : Nat) : Int) := by
  rw [Go.IntKind.wrap_u32]; simp
theorem u64_mod (m : Nat) : Value.int .u64 (Go.IntKind.u64.wrap (m : Int)) = .int .u64 ((m % 18446744073709551616 : Nat) : Int) := by
  rw [Go.IntKind.wrap_u64]; simp
theorem tmod_nat (k : Go.IntKind) (m n : Nat) : Value.int k (Int.tmod (m : Int) (n : Int)) = .int k ((m % n : Nat) : Int) := by rw [Int.tmod_eq_emod_of_nonneg (by omega)]; rfl
theorem tdiv_nat (k : Go.IntKind) {m : Nat} (n : Nat) (h : m ≤ mostN k) : Value.int k (Go.IntKind.wrap k (Int.tdiv (m : Int) (n : Int))) = .int k ((m / n : Nat) : Int) := by
  rw [Int.tdiv_eq_ediv_of_nonneg (by omega), show ((m : Int) / (n : Int)) = ((m / n : Nat) : Int) from rfl, wrap_nat k (Nat.le_trans (Nat.div_le_self _ _) h)]
theorem fdiv_nat (k : Go.IntKind) (m : Nat) {j : Nat} {p : Int} {q : Nat} (hp : p = (j : Int)) (hq : 2 ^ (min p.toNat k.bits) = q) : Value.int k (Int.fdiv (m : Int) (2 ^ (min p.toNat k.bits))) = .int k ((m / q : Nat) : Int) := by
  subst hp; subst hq
  congr 1
  rw [Int.fdiv_eq_ediv_of_nonneg _ (by exact_mod_cast Nat.zero_le _)]
  norm_cast
theorem ofInt_nat (w : Nat) {m : Nat} (h : m < 2 ^ w) : (BitVec.ofInt w (m : Int)).toNat = m := by
  rw [BitVec.toNat_ofInt]
  have : ((m : Int) % ((2 ^ w : Nat) : Int)) = (m : Int) := Int.emod_eq_of_lt (by omega) (by exact_mod_cast h)
  rw [this]; rfl
theorem and_nat (k : Go.IntKind) {m n : Nat} (hm : m < 2 ^ k.bits) (hn : n < 2 ^ k.bits) (hr : m &&& n ≤ mostN k) : Value.int k (Go.IntKind.wrap k (BitVec.ofInt k.bits (m : Int) &&& BitVec.ofInt k.bits (n : Int)).toNat) = .int k ((m &&& n : Nat) : Int) := by
  rw [BitVec.toNat_and, ofInt_nat _ hm, ofInt_nat _ hn, wrap_nat k hr]
theorem or_nat (k : Go.IntKind) {m n : Nat} (hm : m < 2 ^ k.bits) (hn : n < 2 ^ k.bits) (hr : m ||| n ≤ mostN k) : Value.int k (Go.IntKind.wrap k (BitVec.ofInt k.bits (m : Int) ||| BitVec.ofInt k.bits (n : Int)).toNat) = .int k ((m ||| n : Nat) : Int) := by
  rw [BitVec.toNat_or, ofInt_nat _ hm, ofInt_nat _ hn, wrap_nat k hr]
theorem xor_nat (k : Go.IntKind) {m n : Nat} (hm : m < 2 ^ k.bits) (hn : n < 2 ^ k.bits) (hr : m ^^^ n ≤ mostN k) : Value.int k (Go.IntKind.wrap k (BitVec.ofInt k.bits (m : Int) ^^^ BitVec.ofInt k.bits (n : Int)).toNat) = .int k ((m ^^^ n : Nat) : Int) := by
  rw [BitVec.toNat_xor, ofInt_nat _ hm, ofInt_nat _ hn, wrap_nat k hr]
theorem and_mask (k : Go.IntKind) {m j n : Nat} (hn : n = 2 ^ j - 1) (hj : 2 ^ j - 1 ≤ mostN k) (hm : m < 2 ^ k.bits) (hn2 : n < 2 ^ k.bits) : Value.int k (Go.IntKind.wrap k (BitVec.ofInt k.bits (m : Int) &&& BitVec.ofInt k.bits (n : Int)).toNat) = .int k ((m % 2 ^ j : Nat) : Int) := by
  subst hn
  have h := Nat.and_two_pow_sub_one_eq_mod m j
  rw [and_nat k hm hn2 (by rw [h]; have := Nat.mod_lt m (Nat.two_pow_pos j); omega), h]
theorem and_u8 {m n : Nat} (hm : m < 256) (hn : n < 256) : Value.int .u8 (Go.IntKind.u8.wrap (BitVec.ofInt Go.IntKind.u8.bits (m : Int) &&& BitVec.ofInt Go.IntKind.u8.bits (n : Int)).toNat) = .int .u8 ((m &&& n : Nat) : Int) :=
  and_nat .u8 (by show m < 256; omega) (by show n < 256; omega) (by have h : m &&& n < 256 := Nat.and_lt_two_pow m (n := 8) (by simpa using hn); show _ ≤ 255; omega)
theorem or_u8 {m n : Nat} (hm : m < 256) (hn : n < 256) : Value.int .u8 (Go.IntKind.u8.wrap (BitVec.ofInt Go.IntKind.u8.bits (m : Int) ||| BitVec.ofInt Go.IntKind.u8.bits (n : Int)).toNat) = .int .u8 ((m ||| n : Nat) : Int) :=
  or_nat .u8 (by show m < 256; omega) (by show n < 256; omega) (by have h : m ||| n < 256 := Nat.or_lt_two_pow (n := 8) (by simpa using hm) (by simpa using hn); show _ ≤ 255; omega)
theorem xor_u8 {m n : Nat} (hm : m < 256) (hn : n < 256) : Value.int .u8 (Go.IntKind.u8.wrap (BitVec.ofInt Go.IntKind.u8.bits (m : Int) ^^^ BitVec.ofInt Go.IntKind.u8.bits (n : Int)).toNat) = .int .u8 ((m ^^^ n : Nat) : Int) :=
  xor_nat .u8 (by show m < 256; omega) (by show n < 256; omega) (by have h : m ^^^ n < 256 := Nat.xor_lt_two_pow (n := 8) (by simpa using hm) (by simpa using hn); show _ ≤ 255; omega)
theorem mask_u8 {m j n : Nat} (hn : n = 2 ^ j - 1) (hn2 : n < 256) (hm : m < 256) : Value.int .u8 (Go.IntKind.u8.wrap (BitVec.ofInt Go.IntKind.u8.bits (m : Int) &&& BitVec.ofInt Go.IntKind.u8.bits (n : Int)).toNat) = .int .u8 ((m % 2 ^ j : Nat) : Int) :=
  and_mask .u8 hn (by rw [← hn]; show n ≤ 255; omega) (by show m < 256; omega) (by show n < 256; omega)
theorem and_u16 {m n : Nat} (hm : m < 65536) (hn : n < 65536) : Value.int .u16 (Go.IntKind.u16.wrap (BitVec.ofInt Go.IntKind.u16.bits (m : Int) &&& BitVec.ofInt Go.IntKind.u16.bits (n : Int)).toNat) = .int .u16 ((m &&& n : Nat) : Int) :=
  and_nat .u16 (by show m < 65536; omega) (by show n < 65536; omega) (by have h : m &&& n < 65536 := Nat.and_lt_two_pow m (n := 16) (by simpa using hn); show _ ≤ 65535; omega)
theorem or_u16 {m n : Nat} (hm : m < 65536) (hn : n < 65536) : Value.int .u16 (Go.IntKind.u16.wrap (BitVec.ofInt Go.IntKind.u16.bits (m : Int) ||| BitVec.ofInt Go.IntKind.u16.bits (n : Int)).toNat) = .int .u16 ((m ||| n : Nat) : Int) :=
  or_nat .u16 (by show m < 65536; omega) (by show n < 65536; omega) (by have h : m ||| n < 65536 := Nat.or_lt_two_pow (n := 16) (by simpa using hm) (by simpa using hn); show _ ≤ 65535; omega)
theorem xor_u16 {m n : Nat} (hm : m < 65536) (hn : n < 65536) : Value.int .u16 (Go.IntKind.u16.wrap (BitVec.ofInt Go.IntKind.u16.bits (m : Int) ^^^ BitVec.ofInt Go.IntKind.u16.bits (n : Int)).toNat) = .int .u16 ((m ^^^ n : Nat) : Int) :=
  xor_nat .u16 (by show m < 65536; omega) (by show n < 65536; omega) (by have h : m ^^^ n < 65536 := Nat.xor_lt_two_pow (n := 16) (by simpa using hm) (by simpa using hn); show _ ≤ 65535; omega)
theorem mask_u16 {m j n : Nat} (hn : n = 2 ^ j - 1) (hn2 : n < 65536) (hm : m < 65536) : Value.int .u16 (Go.IntKind.u16.wrap (BitVec.ofInt Go.IntKind.u16.bits (m : Int) &&& BitVec.ofInt Go.IntKind.u16.bits (n : Int)).toNat) = .int .u16 ((m % 2 ^ j : Nat) : Int) :=
  and_mask .u16 hn (by rw [← hn]; show n ≤ 65535; omega) (by show m < 65536; omega) (by show n < 65536; omega)
theorem and_u32 {m n : Nat} (hm : m < 4294967296) (hn : n < 4294967296) : Value.int .u32 (Go.IntKind.u32.wrap (BitVec.ofInt Go.IntKind.u32.bits (m : Int) &&& BitVec.ofInt Go.IntKind.u32.bits (n : Int)).toNat) = .int .u32 ((m &&& n : Nat) : Int) :=
  and_nat .u32 (by show m < 4294967296; omega) (by show n < 4294967296; omega) (by have h : m &&& n < 4294967296 := Nat.and_lt_two_pow m (n := 32) (by simpa using hn); show _ ≤ 4294967295; omega)
theorem or_u32 {m n : Nat} (hm : m < 4294967296) (hn : n < 4294967296) : Value.int .u32 (Go.IntKind.u32.wrap (BitVec.ofInt Go.IntKind.u32.bits (m : Int) ||| BitVec.ofInt Go.IntKind.u32.bits (n : Int)).toNat) = .int .u32 ((m ||| n : Nat) : Int) :=
  or_nat .u32 (by show m < 4294967296; omega) (by show n < 4294967296; omega) (by have h : m ||| n < 4294967296 := Nat.or_lt_two_pow (n := 32) (by simpa using hm) (by simpa using hn); show _ ≤ 4294967295; omega)
theorem xor_u32 {m n : Nat} (hm : m < 4294967296) (hn : n < 4294967296) : Value.int .u32 (Go.IntKind.u32.wrap (BitVec.ofInt Go.IntKind.u32.bits (m : Int) ^^^ BitVec.ofInt Go.IntKind.u32.bits (n : Int)).toNat) = .int .u32 ((m ^^^ n : Nat) : Int) :=
  xor_nat .u32 (by show m < 4294967296; omega) (by show n < 4294967296; omega) (by have h : m ^^^ n < 4294967296 := Nat.xor_lt_two_pow (n := 32) (by simpa using hm) (by simpa using hn); show _ ≤ 4294967295; omega)
theorem mask_u32 {m j n : Nat} (hn : n = 2 ^ j - 1) (hn2 : n < 4294967296) (hm : m < 4294967296) : Value.int .u32 (Go.IntKind.u32.wrap (BitVec.ofInt Go.IntKind.u32.bits (m : Int) &&& BitVec.ofInt Go.IntKind.u32.bits (n : Int)).toNat) = .int .u32 ((m % 2 ^ j : Nat) : Int) :=
  and_mask .u32 hn (by rw [← hn]; show n ≤ 4294967295; omega) (by show m < 4294967296; omega) (by show n < 4294967296; omega)
theorem and_u64 {m n : Nat} (hm : m < 18446744073709551616) (hn : n < 18446744073709551616) : Value.int .u64 (Go.IntKind.u64.wrap (BitVec.ofInt Go.IntKind.u64.bits (m : Int) &&& BitVec.ofInt Go.IntKind.u64.bits (n : Int)).toNat) = .int .u64 ((m &&& n : Nat) : Int) :=
  and_nat .u64 (by show m < 18446744073709551616; omega) (by show n < 18446744073709551616; omega) (by have h : m &&& n < 18446744073709551616 := Nat.and_lt_two_pow m (n := 64) (by simpa using hn); show _ ≤ 18446744073709551615; omega)
theorem or_u64 {m n : Nat} (hm : m < 18446744073709551616) (hn : n < 18446744073709551616) : Value.int .u64 (Go.IntKind.u64.wrap (BitVec.ofInt Go.IntKind.u64.bits (m : Int) ||| BitVec.ofInt Go.IntKind.u64.bits (n : Int)).toNat) = .int .u64 ((m ||| n : Nat) : Int) :=
  or_nat .u64 (by show m < 18446744073709551616; omega) (by show n < 18446744073709551616; omega) (by have h : m ||| n < 18446744073709551616 := Nat.or_lt_two_pow (n := 64) (by simpa using hm) (by simpa using hn); show _ ≤ 18446744073709551615; omega)
theorem xor_u64 {m n : Nat} (hm : m < 18446744073709551616) (hn : n < 18446744073709551616) : Value.int .u64 (Go.IntKind.u64.wrap (BitVec.ofInt Go.IntKind.u64.bits (m : Int) ^^^ BitVec.ofInt Go.IntKind.u64.bits (n : Int)).toNat) = .int .u64 ((m ^^^ n : Nat) : Int) :=
  xor_nat .u64 (by show m < 18446744073709551616; omega) (by show n < 18446744073709551616; omega) (by have h : m ^^^ n < 18446744073709551616 := Nat.xor_lt_two_pow (n := 64) (by simpa using hm) (by simpa using hn); show _ ≤ 18446744073709551615; omega)
theorem mask_u64 {m j n : Nat} (hn : n = 2 ^ j - 1) (hn2 : n < 18446744073709551616) (hm : m < 18446744073709551616) : Value.int .u64 (Go.IntKind.u64.wrap (BitVec.ofInt Go.IntKind.u64.bits (m : Int) &&& BitVec.ofInt Go.IntKind.u64.bits (n : Int)).toNat) = .int .u64 ((m % 2 ^ j : Nat) : Int) :=
  and_mask .u64 hn (by rw [← hn]; show n ≤ 18446744073709551615; omega) (by show m < 18446744073709551616; omega) (by show n < 18446744073709551616; omega)
theorem and_i64 {m n : Nat} (hm : m < 9223372036854775808) (hn : n < 9223372036854775808) : Value.int .i64 (Go.IntKind.i64.wrap (BitVec.ofInt Go.IntKind.i64.bits (m : Int) &&& BitVec.ofInt Go.IntKind.i64.bits (n : Int)).toNat) = .int .i64 ((m &&& n : Nat) : Int) :=
  and_nat .i64 (by show m < 18446744073709551616; omega) (by show n < 18446744073709551616; omega) (by have h : m &&& n < 9223372036854775808 := Nat.and_lt_two_pow m (n := 63) (by simpa using hn); show _ ≤ 9223372036854775807; omega)
theorem or_i64 {m n : Nat} (hm : m < 9223372036854775808) (hn : n < 9223372036854775808) : Value.int .i64 (Go.IntKind.i64.wrap (BitVec.ofInt Go.IntKind.i64.bits (m : Int) ||| BitVec.ofInt Go.IntKind.i64.bits (n : Int)).toNat) = .int .i64 ((m ||| n : Nat) : Int) :=
  or_nat .i64 (by show m < 18446744073709551616; omega) (by show n < 18446744073709551616; omega) (by have h : m ||| n < 9223372036854775808 := Nat.or_lt_two_pow (n := 63) (by simpa using hm) (by simpa using hn); show _ ≤ 9223372036854775807; omega)
theorem xor_i64 {m n : Nat} (hm : m < 9223372036854775808) (hn : n < 9223372036854775808) : Value.int .i64 (Go.IntKind.i64.wrap (BitVec.ofInt Go.IntKind.i64.bits (m : Int) ^^^ BitVec.ofInt Go.IntKind.i64.bits (n : Int)).toNat) = .int .i64 ((m ^^^ n : Nat) : Int) :=
  xor_nat .i64 (by show m < 18446744073709551616; omega) (by show n < 18446744073709551616; omega) (by have h : m ^^^ n < 9223372036854775808 := Nat.xor_lt_two_pow (n := 63) (by simpa using hm) (by simpa using hn); show _ ≤ 9223372036854775807; omega)
theorem mask_i64 {m j n : Nat} (hn : n = 2 ^ j - 1) (hn2 : n < 9223372036854775808) (hm : m < 9223372036854775808) : Value.int .i64 (Go.IntKind.i64.wrap (BitVec.ofInt Go.IntKind.i64.bits (m : Int) &&& BitVec.ofInt Go.IntKind.i64.bits (n : Int)).toNat) = .int .i64 ((m % 2 ^ j : Nat) : Int) :=
  and_mask .i64 hn (by rw [← hn]; show n ≤ 9223372036854775807; omega) (by show m < 18446744073709551616; omega) (by show n < 18446744073709551616; omega)
theorem int_eq_nat {a b : Nat} : (((a : Int) == (b : Int)) = true) = (a = b) := by
  rw [beq_iff_eq]; exact propext ⟨fun h => by omega, fun h => by rw [h]⟩
theorem getD_at {α : Type} {l : List α} {k : Nat} (d : α) (h : k < l.length) : l[k]? = some (l.getD k d) := by
  rw [List.getD_eq_getElem?_getD, List.getElem?_eq_getElem h]; rfl
theorem getD_mem {α : Type} {l : List α} {k : Nat} (d : α) (h : k < l.length) : l.getD k d ∈ l := List.mem_of_getElem? (getD_at d h)
theorem getD_lt {l : List Nat} {m : Nat} (hl : ∀ b ∈ l, b < m) {k : Nat} (h : k < l.length) : l.getD k 0 < m := hl _ (getD_mem 0 h)
theorem b_eq {a b : Int} {c : Bool} (h : (a == b) = c) : if c then a = b else a ≠ b := by cases c <;> simpa using h
theorem b_ne {a b : Int} {c : Bool} (h : (a != b) = c) : if c then a ≠ b else a = b := by cases c <;> simpa using h
end Go.Proofs.YtjpielapplglmaaDoor

/- The steps at bytes and strings; contracts of the codec in the form that the walks take. -/
namespace Go.Proofs.YtjpielapplglmaaDoor
open Go.RowKit

theorem Yl.str {S : World → Prop} {σ : List (Nat × Value)} {o : Oper} {x : Operand} {A : Option Addr} {n c : Nat} {l : List Nat} (hop : o.op = .convert 22 9 x) (hx : look σ x = some (.slice A n c)) (hr : ∀ w, S w → Rd w w.heap.size 1 A n (l.map B8)) : Yl Tryd.prog S σ o (.string (bstr l)) := fun a m D HF w hS => by
  unfold execOp
  simp [hop, HF.eval hx, conv_u8 (hr w hS)]
theorem one_B8 (l : List Nat) : ∀ u ∈ l.map B8, u.oneCell' = true := by
  intro u hu
  obtain ⟨x, _, rfl⟩ := List.mem_map.1 hu
  rfl
theorem Rd.fromB8 {w : World} {B n k cap : Nat} {A : Option Addr} {l : List Nat} (h : Rd w B 1 A n (l.map B8)) (hk : k ≤ n) (hc : n ≤ cap) : Rd w B 1 (if cap = k then A else A.map (·.add (k * 1))) (n - k) ((l.drop k).map B8) := by
  have h1 := h.from hk hc
  rw [List.map_drop]
  have e : (l.map B8).drop (k * 1) = (l.map B8).drop k := by rw [Nat.mul_one]
  rw [← e]
  exact h1
theorem bstr_eq (l : List Nat) : ((bstr l).toList == (bstr l).toList) = true := by simp
theorem Laid.mem {B : Nat} {W w : World} {fs : List Fact} (h : Laid B W) (hM : Mem W w fs) (hB : B ≤ W.heap.size) : Laid B w := h.below hM.below hB
theorem Mem.le {W w : World} {fs : List Fact} (h : Mem W w fs) {B : Nat} (hB : B ≤ W.heap.size) : B ≤ w.heap.size := Nat.le_trans hB h.size
theorem i64_as {x : Int} (h : -9223372036854775808 ≤ x ∧ x ≤ 9223372036854775807) : Value.int .i64 (IntKind.i64.wrap x) = .int .i64 x := by rw [IntWalk.i64_in x h]
/-- Bytes that a callee hands over, and a number beside them. -/
def BytesIs (w : World) (er : Nat) (R : List Nat) (r : Ending) (w' : World) : Prop :=
  (∃ A c, r = .returned (.tuple #[.slice A R.length c, .int .i64 (er : Int)]) ∧ w'.ownsRow w.heap.size 5 1 (.slice A R.length c) R.length (R.map B8) ∧ R.length ≤ c) ∧ Below w.heap.size w w'
theorem BytesPost.is {w w' : World} {r : Ending} {er er' : Nat} {R R' : List Nat} (h : BytesPost w er R r w') (h1 : er = er') (h2 : R = R') : BytesIs w er' R' r w' := by
  subst h1; subst h2
  obtain ⟨⟨v, rfl, ho⟩, hb⟩ := h
  obtain ⟨A, c, rfl, hc⟩ := own_slice ho
  exact ⟨⟨A, c, rfl, ho, hc⟩, hb⟩
theorem put_is (b : Bs) (e : Ev) (he : e.Ok) (B : Nat) (w : World) (hL : Laid B w) (hB : B ≤ w.heap.size) {er : Nat} {R : List Nat} (h1 : putErr b e = er) (h2 : putOut b e = R) :
    Calls Tryd.prog 63 #[.agg b.cells, .agg e.cells] w (BytesIs w er R) :=
  (put1_any b e he B w hL hB).mono fun _ _ h => h.is h1 h2
theorem write_is (b : Bs) (A : Option Addr) (n c : Nat) (l : List Ev) (hok : ∀ e ∈ l, e.Ok) (B : Nat) (w : World) (hL : Laid B w) (hB : B ≤ w.heap.size) (hr : Rd w w.heap.size 11 A n (l.flatMap evL)) (hn : n ≤ 1000000000000) {er : Nat} {R : List Nat} (h1 : writeErr b l = er) (h2 : writeOut b l = R) :
    Calls Tryd.prog 56 #[.agg b.cells, .slice A n c] w (BytesIs w er R) :=
  (write_any b A n c l hok B w hL hB hr hn).mono fun _ _ h => h.is h1 h2
section
variable {P : Program} {S : World → Prop} {σ : List (Nat × Value)} {o : Oper} {t e : TypeId} {z : Value} {size bytes : Nat}
theorem Yl.sliceFrom (ei : EI P t e z size bytes) {x lo : Operand} {A : Option Addr} {m c j : Nat} {k : IntKind} (hop : o.op = .slice t x (some lo) none none) (hx : look σ x = some (.slice A m c)) (hl : look σ lo = some (.int k (j : Int))) (hj : j ≤ m) :
    Yl P S σ o (.slice (if c = j then A else A.map (·.add (j * size))) (m - j) (c - j)) := fun a n D HF w hS => by
  unfold execOp
  simp only [hop, HF.eval hx, HF.eval hl, Option.map_some, Option.map_none, Sem.run_bind, Sem.run_pure, slice_from_run (P := P) ei hj, Result.andThen_ok]
theorem Yl.sliceUpto (ei : EI P t e z size bytes) {x hi : Operand} {A : Option Addr} {m c j : Nat} {k : IntKind} (hop : o.op = .slice t x none (some hi) none) (hx : look σ x = some (.slice A m c)) (hl : look σ hi = some (.int k (j : Int))) (hj : j ≤ c) :
    Yl P S σ o (.slice A j c) := fun a n D HF w hS => by
  unfold execOp
  simp only [hop, HF.eval hx, HF.eval hl, Option.map_some, Option.map_none, Sem.run_bind, Sem.run_pure, slice_upto_run (P := P) ei hj, Result.andThen_ok]
end
section
variable {P : Program} {S : World → Prop} {σ : List (Nat × Value)} {o : Oper}
def placesOf (P : Program) : List Field → Option (List (Nat × Nat))
  | [] => some []
  | f :: r => match P.info? f.type, placesOf P r with
    | some i, some l => some ((f.offset, i.size) :: l)
    | _, _ => none
theorem placesOf_run : ∀ {fs : List Field} {l : List (Nat × Nat)}, placesOf P fs = some l → ∀ w, (fs.mapM fun f => (do pure (f.offset, ← sizeOf f.type) : Sem (Nat × Nat))).run P w = .ok l w
  | [], l, h, w => by cases h; rfl
  | f :: r, l, h, w => by
    unfold placesOf at h
    split at h
    · rename_i i l' hi hr
      injection h with h
      subst h
      simp [List.mapM_cons, sizeOf, typeInfo, hi]
      have := placesOf_run hr w
      simp [sizeOf, typeInfo] at this
      simp [this]
    · cases h
def buildCells (P : Program) (t : TypeId) (vs : List (Nat × Value)) : Option (Array Value) := match P.underlying t, zeroCells' P t with
  | some (.struct fs), some z => match placesOf P fs.toList with
    | some l => Instr.fill (l.toArray[·]?) z vs
    | none => none
  | _, _ => none
/-- A struct written out. -/
theorem Yl.build {t : TypeId} {ps : Array (Nat × Operand)} {vs : List (Nat × Value)} {cs : Array Value} (hop : o.op = .build t ps) (hv : partVals σ ps.toList = some vs) (hb : buildCells P t vs = some cs) : Yl P S σ o (.agg cs) := fun a n D HF w hS => by
  have hpm := partVals_arr HF hv
  have e1 : (Instr.build t (ps.map fun p => (p.1, a.eval p.2))).run P w = .ok (.agg cs) w := by
    rw [hpm]
    unfold buildCells at hb
    split at hb
    · rename_i fs z hu hz
      split at hb
      · rename_i l hl
        unfold zeroCells' at hz
        obtain ⟨zv, hz1, rfl⟩ := Option.map_eq_some_iff.1 hz
        obtain ⟨i, hi, hz2⟩ := Option.bind_eq_some_iff.1 hz1
        have hm : (fs.mapM fun f => (do Pure.pure (f.offset, ← sizeOf f.type) : Sem (Nat × Nat))).run P w = .ok l.toArray w := by
          rw [← Array.toArray_toList (xs := fs), List.mapM_toArray]
          simp only [Sem.run_map, placesOf_run hl]
          rfl
        unfold Instr.build
        simp only [Sem.run_bind, zeroValue, typeInfo, program, Sem.run, hi, hz2, Sem.run_pure, Result.andThen_ok, run_underlying hu, hm, hb]
      · cases hb
    · cases hb
  unfold execOp
  simp only [hop, Sem.run_bind, Sem.run_pure]
  show ((Instr.build t (ps.map fun p => (p.1, a.eval p.2))).run P w).andThen _ = _
  rw [e1]
  rfl
end
theorem own_some {w : World} {base : Nat} {e : TypeId} {size n c : Nat} {A : Option Addr} {xs : List Value} (h : w.ownsRow base e size (.slice A n c) n xs) (hn : 0 < n) : ∃ g, A = some ⟨g, 0, none⟩ := by
  obtain ⟨g, c', h1, _⟩ := own_at h hn
  injection h1 with h1 _ _
  exact ⟨g, h1⟩
/-- The struct at k of a row of the call's own. -/
theorem Mem.rowStruct {W w : World} {fs : List Fact} (h : Mem W w fs) {α : Type} {f : α → List Value} {sz : Nat} (hf : ∀ x, (f x).length = sz) {i g m c : Nat} {e : TypeId} {l : List α} (hi : fs[i]? = some (.row (.slice (some ⟨g, 0, none⟩) m c) m (l.flatMap f) e sz)) {k : Nat} {x : α} (hk : l[k]? = some x) : w.rangeAt g (k * sz) (f x) :=
  h.rowRange hi (k * sz) fun j u hu => by
    obtain ⟨hl, he⟩ := List.getElem?_eq_some_iff.1 hk
    have hj : j < sz := by have := (List.getElem?_eq_some_iff.1 hu).1; rwa [hf] at this
    rw [flat_at f sz hf l k j hl hj, he]
    exact hu
theorem row_is (A : Option Addr) (n c : Nat) (l : List Ev) (hok : ∀ e ∈ l, e.Ok) (B : Nat) (w : World) (hL : Laid B w) (hB : B ≤ w.heap.size) (hr : Rd w w.heap.size 11 A n (l.flatMap evL)) (hn : n ≤ 140737488355328) {i : Int} {er : Nat} (h : rowR l = (i, er)) :
    Calls Tryd.prog 53 #[.slice A n c] w fun r w' => r = .returned (.tuple #[.int .i64 i, .int .i64 (er : Int)]) ∧ Below w.heap.size w w' :=
  (row_any A n c l hok B w hL hB hr hn).mono fun _ _ p => ⟨by rw [p.ret, h], p.below⟩
theorem size_is (b : Bs) (e : Ev) (he : e.Ok) (B : Nat) (w : World) (hL : Laid B w) (hB : B ≤ w.heap.size) {L er : Nat} (h1 : (putOut b e).length = L) (h2 : putErr b e = er) :
    Calls Tryd.prog 42 #[.agg b.cells, .agg e.cells] w fun r w' => r = .returned (.tuple #[.int .i64 (L : Int), .int .i64 (er : Int)]) ∧ Below w.heap.size w w' :=
  (size_any b e he B w hL hB).mono fun _ _ p => ⟨by rw [p.1, h1, h2], p.2⟩
theorem take_is (b : Bs) (cpu : Nat) (hcpu : cpu < 256) (A : Option Addr) (n c : Nat) (l : List Nat) (B : Nat) (w : World) (hL : Laid B w) (hB : B ≤ w.heap.size) (hr : Rd w w.heap.size 1 A n (l.map B8)) (hc : n ≤ c) (hl : ∀ b ∈ l, b < 256) (hn : n ≤ 200000000000000) {e : Ev} {L er : Nat} (h : takeR b cpu l = (e, L, er)) :
    Calls Tryd.prog 94 #[.agg b.cells, .int .u8 (cpu : Int), .slice A n c] w fun r w' => r = .returned (.tuple #[.agg e.cells, .int .i64 (L : Int), .int .i64 (er : Int)]) ∧ Below w.heap.size w w' :=
  (take_any b cpu hcpu A n c l B w hL hB hr hc hl hn).mono fun _ _ p => ⟨by rw [p.ret, h], p.below⟩
theorem read_is (b : Bs) (cpu : Nat) (hcpu : cpu < 256) (A : Option Addr) (n c : Nat) (m : Int) (hm : I64 m) (l : List Nat) (B : Nat) (w : World) (hL : Laid B w) (hB : B ≤ w.heap.size) (hr : Rd w w.heap.size 1 A n (l.map B8)) (hc : n ≤ c) (hl : ∀ b ∈ l, b < 256) (hn : n ≤ 200000000000000) (hlim : ReadLim m l) {es : List Ev} {L er : Nat} (h : readR b cpu m l = (es, L, er)) :
    Calls Tryd.prog 61 #[.agg b.cells, .int .u8 (cpu : Int), .int .i64 m, .slice A n c] w fun r w' => (∃ A c, r = .returned (.tuple #[.slice A es.length c, .int .i64 (L : Int), .int .i64 (er : Int)]) ∧ w'.ownsRow w.heap.size 55 11 (.slice A es.length c) es.length (es.flatMap evL) ∧ es.length ≤ c) ∧ Below w.heap.size w w' :=
  (cread_any b cpu hcpu A n c m hm l B w hL hB hr hc hl hn hlim).mono fun r w' p => by
    rw [h] at p
    obtain ⟨⟨v, rfl, ho⟩, hb⟩ := p
    obtain ⟨A, c, rfl, hc⟩ := own_slice ho
    exact ⟨⟨A, c, rfl, ho, hc⟩, hb⟩
end Go.Proofs.YtjpielapplglmaaDoor

/- Generic: more operations: function values against nil, the bitwise complement, arrays in memory, slices with both bounds, blocks of others. No program is in sight. -/
namespace Go.Proofs.YtjpielapplglmaaDoor
open Go.RowKit

section
variable {P : Program} {S : World → Prop} {σ : List (Nat × Value)} {o : Oper} {v : Value}
def isFuncT (P : Program) (t : TypeId) : Bool := match P.underlying t with
  | some (.func _ _ _) => true
  | _ => false
theorem equal_func {t : TypeId} {f : Fn} {xs ys : Array Value} (ht : isFuncT P t = true) (w : World) : (Op.equal t (.func f xs ys) .nilFunc).run P w = .ok false w := by
  unfold isFuncT at ht
  split at ht
  · rename_i hu
    show (Op.equalIn (9999 + 1) t (.func f xs ys) .nilFunc).run P w = _
    unfold Op.equalIn
    simp only [Sem.run_bind, run_underlying hu, Result.andThen_ok]
    rfl
  · cases ht
theorem equal_nil {t : TypeId} (ht : isFuncT P t = true) (w : World) : (Op.equal t .nilFunc .nilFunc).run P w = .ok true w := by
  unfold isFuncT at ht
  split at ht
  · rename_i hu
    show (Op.equalIn (9999 + 1) t .nilFunc .nilFunc).run P w = _
    unfold Op.equalIn
    simp only [Sem.run_bind, run_underlying hu, Result.andThen_ok]
    rfl
  · cases ht
theorem Yl.neqFunc {t u : TypeId} {x y : Operand} {f : Fn} {xs ys : Array Value} (hop : o.op = .binOp .neq t x y u) (hx : look σ x = some (.func f xs ys)) (hy : look σ y = some .nilFunc) (ht : isFuncT P t = true) : Yl P S σ o (.bool true) := fun a n D HF w hS => by
  unfold execOp
  have e : (binOp .neq t (.func f xs ys) .nilFunc).run P w = .ok (.bool true) w := by
    show ((do Pure.pure (.bool (!(← Op.equal t (.func f xs ys) .nilFunc))) : Sem Value)).run P w = _
    simp [equal_func ht]
  simp only [hop, HF.eval hx, HF.eval hy, Sem.run_bind, eqGuard_run (P := P) .neq t x y (a := .func f xs ys) rfl, Result.andThen_ok, e, Sem.run_pure]
theorem Yl.neqNil {t u : TypeId} {x y : Operand} (hop : o.op = .binOp .neq t x y u) (hx : look σ x = some .nilFunc) (hy : look σ y = some .nilFunc) (ht : isFuncT P t = true) : Yl P S σ o (.bool false) := fun a n D HF w hS => by
  unfold execOp
  have e : (binOp .neq t .nilFunc .nilFunc).run P w = .ok (.bool false) w := by
    show ((do Pure.pure (.bool (!(← Op.equal t .nilFunc .nilFunc))) : Sem Value)).run P w = _
    simp [equal_nil ht]
  simp only [hop, HF.eval hx, HF.eval hy, Sem.run_bind, eqGuard_run (P := P) .neq t x y (a := .nilFunc) rfl, Result.andThen_ok, e, Sem.run_pure]
theorem Yl.not32 {t : TypeId} {x : Operand} {m : Nat} (hop : o.op = .unOp .xor t x) (hx : look σ x = some (.int .u32 (m : Int))) (hm : m < 4294967296) : Yl P S σ o (.int .u32 ((m ^^^ 4294967295 : Nat) : Int)) := fun a n D HF w hS => by
  have h1 := xor_u32 (m := 4294967295) (n := m) (by decide) hm
  rw [Nat.xor_comm] at h1
  unfold execOp
  simp only [hop, HF.eval hx, Op.unary]
  rw [← h1]
  rfl
/-- An element of an array in memory. -/
def arrElem (P : Program) (t : TypeId) : Option (Nat × Nat) := match P.underlying t with
  | some (.array n e) => (P.info? e).map fun i => (n, i.size)
  | _ => none
theorem Yl.indexAddrA {t : TypeId} {x ix : Operand} {ad : Addr} {m y sz : Nat} {k : IntKind} (hop : o.op = .indexAddr t x ix) (hx : look σ x = some (.pointer (some ad))) (hi : look σ ix = some (.int k (y : Int))) (he : arrElem P t = some (m, sz)) (hy : y < m) : Yl P S σ o (.pointer (some (ad.add (y * sz)))) := fun a n D HF w hS => by
  unfold arrElem at he
  split at he
  · rename_i m' e hu
    obtain ⟨i, hi', he⟩ := Option.map_eq_some_iff.1 he
    injection he with h1 h2
    subst h1; subst h2
    unfold execOp
    simp [hop, HF.eval hx, HF.eval hi, Instr.indexAt, asIntOf, run_underlying hu, hy, sizeOf, typeInfo, hi', Instr.sureAddr]
  · cases he
theorem Yl.slice2 {t e : TypeId} {z : Value} {size bytes : Nat} (ei : EI P t e z size bytes) {x lo hi : Operand} {A : Option Addr} {m c i j : Nat} {k k' : IntKind} (hop : o.op = .slice t x (some lo) (some hi) none) (hx : look σ x = some (.slice A m c)) (hl : look σ lo = some (.int k (i : Int))) (hh : look σ hi = some (.int k' (j : Int))) (hij : i ≤ j) (hj : j ≤ c) :
    Yl P S σ o (.slice (if c = i then A else A.map (·.add (i * size))) (j - i) (c - i)) := fun a n D HF w hS => by
  obtain ⟨inf, hinf, _, hs, _⟩ := info_parts ei.hi
  have hi' : i ≤ c := Nat.le_trans hij hj
  have e1 : (Instr.sliceAt t (.slice A m c) (some (.int k (i : Int))) (some (.int k' (j : Int))) none).run P w = .ok (.slice (if c = i then A else A.map (·.add (i * size))) (j - i) (c - i)) w := by
    subst hs
    simp [Instr.sliceAt, run_underlying ei.ht, Instr.slice, Instr.sliceBounds, Instr.sliceBound, asIntOf, hij, hj, sizeOf, typeInfo, hinf]
  unfold execOp
  simp only [hop, HF.eval hx, HF.eval hl, HF.eval hh, Option.map_some, Option.map_none, Sem.run_bind, e1, Result.andThen_ok]
  rfl
def arrLen (P : Program) (t : TypeId) : Option Nat := match P.underlying t with
  | some (.array n _) => some n
  | _ => none
theorem Yl.arrayAt {t : TypeId} {x : Operand} {A : Option Addr} {m c k : Nat} (hop : o.op = .sliceToArrayPointer t x) (hx : look σ x = some (.slice A m c)) (ht : arrLen P t = some k) (hk : k ≤ m) : Yl P S σ o (.pointer A) := fun a n D HF w hS => by
  unfold arrLen at ht
  split at ht
  · rename_i m' e hu
    injection ht with ht; subst ht
    unfold execOp
    simp [hop, HF.eval hx, Instr.arrayAt, run_underlying hu, Nat.not_lt.2 hk]
  · cases ht
end

/-! Slices of slices. -/
theorem Rd.mid {w : World} {B size n c i j : Nat} {A : Option Addr} {xs : List Value} (h : Rd w B size A n xs) (hij : i ≤ j) (hj : j ≤ n) (hc : n ≤ c) :
    Rd w B size (if c = i then A else A.map (·.add (i * size))) (j - i) ((xs.take (j * size)).drop (i * size)) := by
  have h1 := h.from (k := i) (cap := c) (by omega) hc
  have h2 := h1.upto (k := j - i) (by omega)
  rw [List.drop_take, ← Nat.sub_mul]
  exact h2
theorem Rd.midB8 {w : World} {B n c i j : Nat} {A : Option Addr} {l : List Nat} (h : Rd w B 1 A n (l.map B8)) (hij : i ≤ j) (hj : j ≤ n) (hc : n ≤ c) :
    Rd w B 1 (if c = i then A else A.map (·.add (i * 1))) (j - i) (((l.take j).drop i).map B8) := by
  have h1 := h.mid hij hj hc
  rw [Nat.mul_one, Nat.mul_one, ← List.map_take, ← List.map_drop] at h1
  rw [Nat.mul_one]
  exact h1

/-! Blocks of others: what lay when the call began lies there still. -/
section
variable {W w : World} {fs : List Fact}
theorem Mem.oldBlk (h : Mem W w fs) {g : Nat} {ob : Obj} (hb : W.heap[g]? = some ob) : w.heap[g]? = some ob := (h.below.block g (blk_lt hb)).trans hb
theorem Mem.oldCell (h : Mem W w fs) {g off : Nat} {cs : Array Value} {t : TypeId} {v : Value} (hb : W.heap[g]? = some (.cells cs t (0, 0))) (hc : cs[off]? = some v) : w.cell? ⟨g, off, none⟩ = some v := by
  simp [World.cell?, h.oldBlk hb, hc]
theorem Mem.oldAll (h : Mem W w fs) {g : Nat} {cs : Array Value} {t : TypeId} (hb : W.heap[g]? = some (.cells cs t (0, 0))) : w.rangeAt g 0 cs.toList := range_of_block (h.oldBlk hb)
theorem Mem.oldAt (h : Mem W w fs) {p : Addr} {v : Value} (hb : W.cell? p = some v) : w.cell? p = some v := by
  have hlt : p.block < W.heap.size := World.block_lt_of_cell? W _ hb
  exact (h.below.cell hlt).trans hb
theorem Mem.blkAll (h : Mem W w fs) {i g : Nat} {cs : Array Value} {t : TypeId} (hi : fs[i]? = some (.blk g cs t)) : w.heap[g]? = some (.cells cs t (0, 0)) := h.blk hi
end
end Go.Proofs.YtjpielapplglmaaDoor

/- Generic: cap; append of zeros onto nil; a row made shorter; parts of bytes. No program is in sight. -/
namespace Go.Proofs.YtjpielapplglmaaDoor
open Go.RowKit

section
variable {P : Program} {Q : Exit → Act → World → Prop} {a : Act} {W w : World} {n d : Nat} {D : List Deferred} {σ : List (Nat × Value)} {o : Oper} {K : Act → World → Prop} {fs : List Fact} {S : World → Prop}
theorem Yl.cap {x : Operand} {t : TypeId} {A : Option Addr} {m c : Nat} (hop : o.op = .call { callee := .builtin .cap, args := #[x], argTypes := #[t] }) (hx : look σ x = some (.slice A m c)) (ht : isSl P t = true) : Yl P S σ o (.int .i64 (c : Int)) := fun a n D HF w hS => by
  unfold isSl at ht
  split at ht
  · rename_i e hu
    unfold execOp
    simp [hop, resolve, invoke, builtin, HF.eval hx, Builtin.cap_, run_underlying hu, goInt]
  · cases ht
/-- append(nil, make(.., m)...): a new row of zeros. -/
theorem e_appendZeros (HF : Fr a n D σ) (HM : Mem W w fs) {s x : Operand} {t tn e : TypeId} {z : Value} {size bytes m : Nat} {kn k : IntKind} (hop : o.op = .call { callee := .builtin .append, args := #[s, x], argTypes := #[t, tn] }) (ei : EI P t e z size bytes) (htn : P.underlying tn = some (.int kn))
    (hs : look σ s = some (.slice none 0 0)) (hx : look σ x = some (.int k (m : Int))) (h0 : 0 < m) (h63 : m ≤ 4611686018427387904) (hb : m * bytes ≤ 281474976710656)
    (hd : o.dst = some d) (hdn : d < n) (kk : ∀ a' w' g c', Fr a' n D ((d, .slice (some ⟨g, 0, none⟩) m c') :: σ) → Mem W w' (.row (.slice (some ⟨g, 0, none⟩) m c') m (Builtin.zeroCells z.cells m).toList e size :: fs) → m ≤ c' → K a' w') : o.wp P a w K Q := by
  obtain ⟨i, hi, hz, hsz, hby⟩ := info_parts ei.hi
  have hr := Lib.run_append_nil_zeros (P := P) w t tn o.type e i z k kn ei.ht htn hi hz m h0 (by rw [hsz]; exact ei.hs) (by omega) (by rw [hby]; exact hb)
  have h1 : m ≤ grownCap w m 0 e := grownCap_ge w m 0 e
  have h2 : grownCap w m 0 e ≤ maxLen := grownCap_le_maxLen w m 0 e (by unfold maxLen; omega)
  have hzl : (Builtin.zeroCells z.cells m).size = m * size := by rw [size_zeroCells, ei.hz]
  have hown : (w.drew.alloc (.cells (Builtin.zeroCells z.cells m ++ Builtin.zeroCells z.cells (grownCap w m 0 e - m)) e)).ownsRow w.heap.size e size (.slice (some ⟨w.heap.size, 0, none⟩) m (grownCap w m 0 e)) m (Builtin.zeroCells z.cells m).toList := by
    refine ⟨by simpa using hzl, .inr ⟨w.heap.size, _, _, rfl, Nat.le_refl _, World.alloc_heap_new w.drew _, h1, h2, ?_, ?_⟩⟩
    · rw [Array.size_append, hzl, size_zeroCells, ei.hz, ← Nat.add_mul]
      congr 1
      omega
    · rw [Array.toList_append, ← hzl, ← Array.length_toList]
      exact List.take_left
  unfold Oper.wp execOp
  simp only [hop, resolve, invoke, builtin, Sem.run_bind, Sem.run_pure, Result.andThen_ok, List.map_toArray, List.map_cons, List.map_nil, HF.eval hs, HF.eval hx, hr]
  rw [Oper.upon_value, hd]
  exact kk _ _ w.heap.size _ (HF.put hdn _) (HM.callRow ((Below.refl _ _).drew.alloc (by simp) _) hown) h1
/-- A row made shorter. -/
theorem Mem.shrink (h : Mem W w fs) {i m k c size : Nat} {A : Option Addr} {e : TypeId} {xs : List Value} (hi : fs[i]? = some (.row (.slice A m c) m xs e size)) (hk : k ≤ m) (hA : A = none → k = 0 ∧ c = 0) : Mem W w (fs.set i (.row (.slice A k c) k (xs.take (k * size)) e size)) := by
  have ho := h.own hi
  refine h.turn hi h.below (fun _ _ _ => rfl) ?_ (fun g' hg' => .inl (by cases A <;> exact hg'))
  refine ⟨by rw [List.length_take, ho.1]; exact Nat.min_eq_left (Nat.mul_le_mul_right _ hk), ?_⟩
  rcases ho.2 with ⟨h1, h2⟩ | ⟨g, cap, cur, h1, h2, h3, h4, h5, h6, h7⟩
  · injection h1 with h1 _ _
    obtain ⟨rfl, rfl⟩ := hA h1
    subst h1
    exact .inl ⟨rfl, rfl⟩
  · injection h1 with h1 _ h8
    subst h1; subst h8
    refine .inr ⟨g, c, cur, rfl, h2, h3, by omega, h5, h6, ?_⟩
    rw [← h7, List.take_take, Nat.min_eq_left (Nat.mul_le_mul_right _ hk)]
end
theorem or_mul {m n j : Nat} (hm : m < 2 ^ j) : m ||| n * 2 ^ j = m + n * 2 ^ j := by
  have := Nat.two_pow_add_eq_or_of_lt hm n
  rw [Nat.or_comm, Nat.mul_comm n, ← this, Nat.add_comm]
theorem or_sum32 {m n j p : Nat} (hp : 2 ^ j = p) (hm : m < p) (hb : m + n * p < 4294967296) : Value.int .u32 (Go.IntKind.u32.wrap (BitVec.ofInt Go.IntKind.u32.bits (m : Int) ||| BitVec.ofInt Go.IntKind.u32.bits ((n * p : Nat) : Int)).toNat) = .int .u32 ((m + n * p : Nat) : Int) := by
  subst hp
  have h := or_u32 (m := m) (n := n * 2 ^ j) (by omega) (by omega)
  rw [or_mul hm] at h
  exact h
theorem or_sum64 {m n j p : Nat} (hp : 2 ^ j = p) (hm : n < p) (hb : m * p + n < 9223372036854775808) : Value.int .i64 (Go.IntKind.i64.wrap (BitVec.ofInt Go.IntKind.i64.bits ((m * p : Nat) : Int) ||| BitVec.ofInt Go.IntKind.i64.bits (n : Int)).toNat) = .int .i64 ((m * p + n : Nat) : Int) := by
  subst hp
  have h := or_i64 (m := m * 2 ^ j) (n := n) (by omega) (by omega)
  rw [Nat.or_comm, or_mul hm, Nat.add_comm] at h
  exact h
/-- A slice of bytes, as an element of a slice. -/
structure Part where
  A : Option Addr
  c : Nat
  l : List Nat
def Part.val (p : Part) : Value := .slice p.A p.l.length p.c
theorem parts_snoc {l : List Part} {k : Nat} {d : Part} (h : k < l.length) : (l.take (k + 1)).flatMap (·.l) = (l.take k).flatMap (·.l) ++ (l.getD k d).l := by
  rw [List.take_add_one, getD_at d h]; simp
theorem parts_le {l : List Part} (k : Nat) : ((l.take k).flatMap (·.l)).length ≤ (l.flatMap (·.l)).length := by
  conv => rhs; rw [← List.take_append_drop k l]
  rw [List.flatMap_append, List.length_append]
  omega
end Go.Proofs.YtjpielapplglmaaDoor

/- Generic: arrays of two numbers compared; part of a slice read as an array. No program is in sight. -/
namespace Go.Proofs.YtjpielapplglmaaDoor
open Go.RowKit
set_option linter.all false

/-- Is t an array of two integers? -/
def arr2Ok (P : Program) (t : TypeId) : Bool := match P.underlying t with
  | some (.array n e) => n == 2 && (P.cellsOf e == 1 && (isOne P e && match P.underlying e with
    | some (.int _) => true
    | _ => false))
  | _ => false
theorem arr2_run {P : Program} {t : TypeId} (ht : arr2Ok P t = true) {k : Go.IntKind} (a b c d : Int) (w : World) :
    (Op.equal t (.agg #[.int k a, .int k b]) (.agg #[.int k c, .int k d])).run P w = .ok (a == c && b == d) w := by
  unfold arr2Ok at ht
  split at ht
  · rename_i n e hu
    simp only [Bool.and_eq_true, beq_iff_eq] at ht
    obtain ⟨h1, h2, h3, h4⟩ := ht
    subst h1
    split at h4
    · rename_i k' hk
      obtain ⟨i, hi⟩ := info_of_underlying hk
      show (Op.equalIn (9999 + 1) t _ _).run P w = _
      rw [run_equalIn_array w 9999 _ _ hu hi, h2]
      have hp : ∀ (xs : Array Value) (j : Nat) (v : Value), xs[j]? = some v → (part e xs j).run P w = .ok v w := fun xs j v h => by
        unfold part
        simp [isAgg_one h3, h]
      have he : ∀ x y, (Op.equalIn 9999 e (.int k x) (.int k y)).run P w = .ok (x == y) w := fun x y => run_equalIn_int w 9998 e k k' x y hk
      show (Op.eqItems 9999 e 1 _ _ [0, 1]).run P w = _
      have p1 : (part e #[.int k a, .int k b] 0).run P w = .ok (.int k a) w := hp _ _ _ rfl
      have p2 : (part e #[.int k c, .int k d] 0).run P w = .ok (.int k c) w := hp _ _ _ rfl
      have p3 : (part e #[.int k a, .int k b] 1).run P w = .ok (.int k b) w := hp _ _ _ rfl
      have p4 : (part e #[.int k c, .int k d] 1).run P w = .ok (.int k d) w := hp _ _ _ rfl
      have q1 := he a c
      have q2 := he b d
      generalize (9999 : Nat) = dd at q1 q2 ⊢
      simp only [Op.eqItems, Sem.run_bind, Nat.zero_mul, Nat.one_mul, p1, p2, q1, Result.andThen_ok]
      cases h5 : (a == c) <;> cases h6 : (b == d) <;> simp [p3, p4, q2, h6]
    · cases h4
  · cases ht
section
variable {P : Program} {S : World → Prop} {σ : List (Nat × Value)} {o : Oper}
theorem eqGuard_arr2 {t : TypeId} (hg : P.eqGuardType P.depth t = false) (op : BinOp) (x y : Operand) (a b : Array Value) (w : World) : (eqGuard op t x y (.agg a) (.agg b)).run P w = .ok () w := by
  unfold eqGuard
  cases op <;> simp <;> simp [hg]
theorem Yl.neqArr2 {t u : TypeId} {p q : Operand} {k : Go.IntKind} {a b c d : Int} (hop : o.op = .binOp .neq t p q u) (hx : look σ p = some (.agg #[.int k a, .int k b])) (hy : look σ q = some (.agg #[.int k c, .int k d])) (ht : arr2Ok P t = true) (hg : P.eqGuardType P.depth t = false) : Yl P S σ o (.bool (!(a == c && b == d))) := fun ac n D HF w hS => by
  unfold execOp
  have e : (binOp .neq t (.agg #[.int k a, .int k b]) (.agg #[.int k c, .int k d])).run P w = .ok (.bool (!(a == c && b == d))) w := by
    show ((do Pure.pure (.bool (!(← Op.equal t (.agg #[.int k a, .int k b]) (.agg #[.int k c, .int k d])))) : Sem Value)).run P w = _
    simp [arr2_run ht]
  simp only [hop, HF.eval hx, HF.eval hy, Sem.run_bind, eqGuard_arr2 hg, Result.andThen_ok, e, Sem.run_pure]
end
theorem arr2At {w : World} {B n g o k : Nat} {l : List Nat} (h : Rd w B 1 (some ⟨g, o, none⟩) n (l.map B8)) (hk : k + 2 ≤ l.length) : w.rangeAt g (o + k) (#[B8 (l.getD k 0), B8 (l.getD (k + 1) 0)] : Array Value).toList := fun j v hv => by
  have hr := h.range
  rw [Nat.add_assoc]
  refine hr (k + j) v ?_
  rcases j with _ | _ | j
  · simp at hv
    rw [Nat.add_zero, ← hv]
    exact map_at (getD_at 0 (by omega))
  · simp at hv
    rw [← hv]
    exact map_at (getD_at 0 (by omega))
  · simp at hv
end Go.Proofs.YtjpielapplglmaaDoor

/- Two events are compared. -/
namespace Go.Proofs.YtjpielapplglmaaDoor
open Go.RowKit

def intAt (xs : Array Value) (i : Nat) : Int := match xs[i]? with
  | some (.int _ n) => n
  | _ => 0
def eqFieldB (P : Program) (f : Field) (i : Nat) : Bool := f.name != "_" && (f.offset == i && (isOne P f.type && match P.underlying f.type with
  | some (.int _) => true
  | _ => false))
theorem eqFields_ints {P : Program} (d : Nat) (xs ys : Array Value) : ∀ (fs : List Field) (i : Nat) (w : World), (∀ j, j < fs.length → ∃ f k a b, fs[j]? = some f ∧ eqFieldB P f (i + j) = true ∧ xs[i + j]? = some (.int k a) ∧ ys[i + j]? = some (.int k b)) →
    (Op.eqFields (d + 1) xs ys fs).run P w = .ok ((List.range fs.length).all fun j => intAt xs (i + j) == intAt ys (i + j)) w
  | [], i, w, _ => rfl
  | f :: fs, i, w, h => by
    obtain ⟨f', k, a, b, hf, hb, hx, hy⟩ := h 0 (by simp)
    simp only [List.getElem?_cons_zero, Option.some.injEq] at hf
    subst hf
    simp only [eqFieldB, Bool.and_eq_true, bne_iff_ne, beq_iff_eq, Nat.add_zero] at hb
    obtain ⟨h1, h2, h3, h4⟩ := hb
    rw [Nat.add_zero] at hx hy
    have ih := eqFields_ints d xs ys fs (i + 1) w (fun j hj => by
      obtain ⟨f, k, a, b, hf, hb, hx, hy⟩ := h (j + 1) (by simpa using hj)
      refine ⟨f, k, a, b, by simpa using hf, ?_, ?_, ?_⟩
      · rw [show i + 1 + j = i + (j + 1) by omega]; exact hb
      · rw [show i + 1 + j = i + (j + 1) by omega]; exact hx
      · rw [show i + 1 + j = i + (j + 1) by omega]; exact hy)
    have hu : ∃ k', P.underlying f.type = some (.int k') := by
      split at h4
      · rename_i k' hk; exact ⟨k', hk⟩
      · cases h4
    obtain ⟨k', hu⟩ := hu
    have hxi : intAt xs i = a := by simp [intAt, hx]
    have hyi : intAt ys i = b := by simp [intAt, hy]
    have e : (List.range (f :: fs).length).all (fun j => intAt xs (i + j) == intAt ys (i + j)) = ((a == b) && (List.range fs.length).all fun j => intAt xs (i + 1 + j) == intAt ys (i + 1 + j)) := by
      rw [List.length_cons, List.range_succ_eq_map, List.all_cons, Nat.add_zero, hxi, hyi, List.all_map]
      congr 2
      funext j
      simp only [Function.comp_apply, Nat.succ_eq_add_one]
      rw [show i + (j + 1) = i + 1 + j by omega]
    rw [e]
    unfold Op.eqFields
    rw [if_pos h1]
    simp only [Sem.run_bind, part, isAgg_one h3, Result.andThen_ok, Bool.false_eq_true, if_false, h2, hx, hy, Sem.run_pure, run_equalIn_int w d f.type k k' a b hu]
    cases hab : (a == b)
    · simp
    · simp [ih]
def evTypeOk (P : Program) (t : TypeId) : Bool := !P.stoodInHeld t && (!P.eqGuardType P.depth t && ((P.fieldsOf t).size == 11 && ((List.range 11).all fun i => match (P.fieldsOf t).toList[i]? with
  | some f => eqFieldB P f i
  | none => false)))
theorem isStruct_of {P : Program} {t : TypeId} (h : (P.fieldsOf t).size = 11) : P.underlying t = some (.struct (P.fieldsOf t)) := by
  unfold Program.fieldsOf at h ⊢
  split at h
  · rename_i fs hu; rw [hu]
  · cases h
theorem ev_at_int (e : Ev) : ∀ i, i < 11 → ∃ k, e.cells[i]? = some (.int k (intAt e.cells i)) ∧ ∀ e' : Ev, e'.cells[i]? = some (.int k (intAt e'.cells i)) := by
  intro i hi
  have h : i = 0 ∨ i = 1 ∨ i = 2 ∨ i = 3 ∨ i = 4 ∨ i = 5 ∨ i = 6 ∨ i = 7 ∨ i = 8 ∨ i = 9 ∨ i = 10 := by omega
  rcases h with rfl | rfl | rfl | rfl | rfl | rfl | rfl | rfl | rfl | rfl | rfl <;> exact ⟨_, rfl, fun _ => rfl⟩
instance evDec : DecidableEq Ev := fun ⟨a0, a1, a2, a3, a4, a5, a6, a7, a8, a9, a10⟩ ⟨b0, b1, b2, b3, b4, b5, b6, b7, b8, b9, b10⟩ =>
  decidable_of_iff (a0 = b0 ∧ a1 = b1 ∧ a2 = b2 ∧ a3 = b3 ∧ a4 = b4 ∧ a5 = b5 ∧ a6 = b6 ∧ a7 = b7 ∧ a8 = b8 ∧ a9 = b9 ∧ a10 = b10) (by rw [Ev.mk.injEq])
theorem ev_all (x y : Ev) : ((List.range 11).all fun j => intAt x.cells (0 + j) == intAt y.cells (0 + j)) = decide (x = y) := by
  rw [Bool.eq_iff_iff, decide_eq_true_eq]
  constructor
  · intro h
    have g : ∀ j, j < 11 → intAt x.cells j = intAt y.cells j := fun j hj => by
      have := List.all_eq_true.1 h j (List.mem_range.2 hj)
      simpa using this
    obtain ⟨a0, a1, a2, a3, a4, a5, a6, a7, a8, a9, a10⟩ := x
    obtain ⟨b0, b1, b2, b3, b4, b5, b6, b7, b8, b9, b10⟩ := y
    have g0 : a0 = b0 := g 0 (by decide)
    have g1 : a1 = b1 := g 1 (by decide)
    have g2 : (a2 : Int) = b2 := g 2 (by decide)
    have g3 : (a3 : Int) = b3 := g 3 (by decide)
    have g4 : a4 = b4 := g 4 (by decide)
    have g5 : a5 = b5 := g 5 (by decide)
    have g6 : a6 = b6 := g 6 (by decide)
    have g7 : a7 = b7 := g 7 (by decide)
    have g8 : a8 = b8 := g 8 (by decide)
    have g9 : (a9 : Int) = b9 := g 9 (by decide)
    have g10 : a10 = b10 := g 10 (by decide)
    have g2' : a2 = b2 := by omega
    have g3' : a3 = b3 := by omega
    have g9' : a9 = b9 := by omega
    subst g0 g1 g2' g3' g4 g5 g6 g7 g8 g9' g10
    rfl
  · rintro rfl
    simp
theorem evEq_run {P : Program} {t : TypeId} (ht : evTypeOk P t = true) (x y : Ev) (w : World) : (Op.equal t (.agg x.cells) (.agg y.cells)).run P w = .ok (decide (x = y)) w := by
  simp only [evTypeOk, Bool.and_eq_true, Bool.not_eq_true', beq_iff_eq] at ht
  obtain ⟨h1, _, h3, h4⟩ := ht
  unfold Op.equal
  rw [show Op.maxDepth = 9998 + 1 + 1 from rfl, run_equalIn_struct w 9999 t _ _ (isStruct_of h3) h1, eqFields_ints 9998 _ _ _ 0 w]
  · rw [Array.length_toList, h3, ev_all]
  · intro j hj
    rw [Array.length_toList, h3] at hj
    have := List.all_eq_true.1 h4 j (List.mem_range.2 hj)
    split at this
    · rename_i f hf
      obtain ⟨k, hk, hk'⟩ := ev_at_int x j hj
      rw [Nat.zero_add]
      exact ⟨f, k, _, _, hf, this, hk, hk' y⟩
    · cases this
theorem eqGuard_ev {P : Program} {t : TypeId} (ht : evTypeOk P t = true) (op : BinOp) (x y : Operand) (a b : Array Value) (w : World) : (eqGuard op t x y (.agg a) (.agg b)).run P w = .ok () w := by
  simp only [evTypeOk, Bool.and_eq_true, Bool.not_eq_true', beq_iff_eq] at ht
  obtain ⟨_, h2, _⟩ := ht
  unfold eqGuard
  cases op <;> simp <;> simp [h2]
section
variable {P : Program} {S : World → Prop} {σ : List (Nat × Value)} {o : Oper}
theorem Yl.neqEv {t u : TypeId} {p q : Operand} {x y : Ev} (hop : o.op = .binOp .neq t p q u) (hx : look σ p = some (.agg x.cells)) (hy : look σ q = some (.agg y.cells)) (ht : evTypeOk P t = true) : Yl P S σ o (.bool (!decide (x = y))) := fun a n D HF w hS => by
  unfold execOp
  have e : (binOp .neq t (.agg x.cells) (.agg y.cells)).run P w = .ok (.bool (!decide (x = y))) w := by
    show ((do Pure.pure (.bool (!(← Op.equal t (.agg x.cells) (.agg y.cells)))) : Sem Value)).run P w = _
    simp [evEq_run ht]
  simp only [hop, HF.eval hx, HF.eval hy, Sem.run_bind, eqGuard_ev ht, Result.andThen_ok, e, Sem.run_pure]
theorem Yl.eqlEv {t u : TypeId} {p q : Operand} {x y : Ev} (hop : o.op = .binOp .eql t p q u) (hx : look σ p = some (.agg x.cells)) (hy : look σ q = some (.agg y.cells)) (ht : evTypeOk P t = true) : Yl P S σ o (.bool (decide (x = y))) := fun a n D HF w hS => by
  unfold execOp
  have e : (binOp .eql t (.agg x.cells) (.agg y.cells)).run P w = .ok (.bool (decide (x = y))) w := by
    show ((do Pure.pure (.bool (← Op.equal t (.agg x.cells) (.agg y.cells))) : Sem Value)).run P w = _
    simp [evEq_run ht]
  simp only [hop, HF.eval hx, HF.eval hy, Sem.run_bind, eqGuard_ev ht, Result.andThen_ok, e, Sem.run_pure]
end
theorem ev_type_ok : evTypeOk Tryd.prog 55 = true := by kernel_rfl
end Go.Proofs.YtjpielapplglmaaDoor

/- Blocks in memory; the package variables of the checksum and of blocks; forms of contracts. -/
namespace Go.Proofs.YtjpielapplglmaaDoor
open Go.RowKit

def Bk.cells (b : Bk) (A : Option Addr) (c : Nat) : Array Value := #[.int .u8 (b.kind : Int), .int .u8 (b.cpu : Int), .int .i64 b.lost, .int .i64 b.next, .slice A b.evs.length c]
theorem bk_one (b : Bk) (A : Option Addr) (c : Nat) : ∀ v ∈ (b.cells A c).toList, v.oneCell' = true := by intro v hv; simp [Bk.cells] at hv; rcases hv with rfl | rfl | rfl | rfl | rfl <;> rfl
theorem si_bk : SI Tryd.prog 37 5 := ⟨by kernel_rfl, by kernel_rfl⟩
theorem ei_bb : EI Tryd.prog 123 22 (.slice none 0 0) 1 24 := ⟨by kernel_rfl, by kernel_rfl, rfl, by omega⟩
theorem si_a2 : SI Tryd.prog 73 2 := ⟨by kernel_rfl, by kernel_rfl⟩
/-- The package variables that are read. -/
structure LaidX (B : Nat) (w : World) : Prop where
  laid : Laid B w
  halves : ∀ k, k < 16 → w.cell? ⟨2, k, none⟩ = some (.int .u32 ((halvesL.getD k 0 : Nat) : Int))
  big3 : 2 < B
  magic0 : w.cell? ⟨0, 0, none⟩ = some (.int .u8 113)
  magic1 : w.cell? ⟨0, 1, none⟩ = some (.int .u8 116)
  big4 : 0 < B
theorem LaidX.keepAll {B : Nat} {w w' : World} (h : LaidX B w) (hk : ∀ p : Addr, p.block < B → w'.cell? p = w.cell? p) : LaidX B w' :=
  ⟨h.laid.keepAll hk, fun k hk' => (hk _ h.big3).trans (h.halves k hk'), h.big3, (hk _ h.big4).trans h.magic0, (hk _ h.big4).trans h.magic1, h.big4⟩
theorem LaidX.mem {B : Nat} {W w : World} {fs : List Fact} (h : LaidX B W) (hM : Mem W w fs) (hB : B ≤ W.heap.size) : LaidX B w := h.keepAll fun _ hp => hM.below.cell (by omega)
theorem LaidX.below {B B' : Nat} {w w' : World} (h : LaidX B w) (hb : Below B' w w') (hB : B ≤ B') : LaidX B w' := h.keepAll fun p hp => hb.cell (by omega)
theorem halves_lt (k : Nat) (h : k < 16) : halvesL.getD k 0 < 4294967296 := by
  have : ∀ k, k < 16 → halvesL.getD k 0 < 4294967296 := by decide
  exact this k h
theorem halvesAt {B : Nat} {W w : World} {fs : List Fact} (h : LaidX B W) (hM : Mem W w fs) (hB : B ≤ W.heap.size) {k : Nat} (hk : k < 16) : w.cell? ⟨2, k * 1, none⟩ = some (.int .u32 ((halvesL.getD k 0 : Nat) : Int)) := by
  rw [Nat.mul_one]; exact (h.mem hM hB).halves k hk
theorem magicAll {B : Nat} {W w : World} {fs : List Fact} (h : LaidX B W) (hM : Mem W w fs) (hB : B ≤ W.heap.size) : w.rangeAt 0 0 (#[Value.int .u8 113, .int .u8 116] : Array Value).toList := fun j v hv => by
  have h1 := (h.mem hM hB).magic0
  have h2 := (h.mem hM hB).magic1
  rcases j with _ | _ | j
  · simp at hv; subst hv; exact h1
  · simp at hv; subst hv; exact h2
  · simp at hv
/-- An answer, and everything lies as it lay. -/
def Is (w : World) (v : Value) (r : Ending) (w' : World) : Prop := r = .returned v ∧ Below w.heap.size w w'
/-- Bytes that a callee hands over. -/
def BytesOne (w : World) (R : List Nat) (r : Ending) (w' : World) : Prop :=
  (∃ A c, r = .returned (.slice A R.length c) ∧ w'.ownsRow w.heap.size 5 1 (.slice A R.length c) R.length (R.map B8) ∧ R.length ≤ c) ∧ Below w.heap.size w w'
theorem BytesOne.as {w w' : World} {R R' : List Nat} {r : Ending} (h : BytesOne w R r w') (e : R = R') : BytesOne w R' r w' := e ▸ h
theorem bytesOne_row {w w' : World} {R xs : List Nat} {n c : Nat} {A : Option Addr} (ho : w'.ownsRow w.heap.size 5 1 (.slice A n c) n (xs.map B8)) (hc : n ≤ c) (hn : n = R.length) (hx : xs = R) (hb : Below w.heap.size w w') : BytesOne w R (.returned (.slice A n c)) w' := by
  subst hx; subst hn
  exact ⟨⟨A, c, rfl, ho, hc⟩, hb⟩
theorem vwrite_put {x : Nat} {w : World} (hx : x < 18446744073709551616) : Calls Tryd.prog 62 #[.slice none 0 0, .int .u64 (x : Int)] w (BytesOne w (vbytes x)) :=
  (put_any x w w.heap.size (.slice none 0 0) 0 [] hx (World.ownsRow_nil _ _ _ _) (Nat.le_refl _) (by omega)).mono fun e w' ⟨v, h1, h2, h3, _⟩ => by
    rw [Nat.zero_add, List.nil_append] at h2
    obtain ⟨A, c, rfl, hc⟩ := own_slice h2
    exact ⟨⟨A, c, h1, h2, hc⟩, (Below.refl _ _).grown h3 (Nat.le_refl _) (fun g hg => by cases hg)⟩
theorem vall_is (A : Option Addr) (n c : Nat) (ls : List Nat) (w : World) (hr : Rd w w.heap.size 1 A n (ls.map U64)) (hls : ∀ x ∈ ls, x < 18446744073709551616) (hn : 10 * n ≤ 140737488355000) :
    Calls Tryd.prog 41 #[.slice A n c] w (BytesOne w (ls.flatMap vbytes)) :=
  (writeAll_any A n c ls w hr hls hn).mono fun e w' ⟨v, h1, h2, h3⟩ => by
    obtain ⟨A, c, rfl, hc⟩ := own_slice h2
    exact ⟨⟨A, c, h1, h2, hc⟩, h3⟩
theorem headOk_cons {b : Bk} (h : b.evs.length ≠ 0) : b.headOk = decide ((b.evs.getD 0 Ev.zero).cpu = b.cpu) := by
  unfold Bk.headOk
  cases hb : b.evs with
  | nil => rw [hb] at h; simp at h
  | cons e r => rfl
theorem headOk_nil {b : Bk} (h : b.evs.length = 0) : b.headOk = decide (0 < b.lost) := by
  unfold Bk.headOk
  rw [List.length_eq_zero_iff] at h
  rw [h]
theorem base_getD (b : Bk) : b.base = ⟨(b.evs.getD 0 Ev.zero).seq, (b.evs.getD 0 Ev.zero).time⟩ := by
  unfold Bk.base Ev.at
  cases b.evs <;> rfl
theorem kinds3 (k : Nat) : k = 1 ∨ k = 2 ∨ (k ≠ 1 ∧ k ≠ 2) := by omega
/-- What is known of a base whose events fit. -/
theorem base_bnd {b : Bk} (hok : b.Ok) (h : b.fits = true) (hk : b.kind ≠ 2) (hn : b.evs.length ≠ 0) : 0 ≤ b.base.seq ∧ b.base.seq ≤ 281474976710656 ∧ 0 ≤ b.base.time ∧ b.base.time ≤ 281474976710656 := by
  obtain ⟨e, r, g⟩ := fits_row hok (fits_evs h hk).2 hn
  have := g.right
  rw [← g.base] at this
  have h4 : 1 ≤ b.base.seq ∧ b.base.seq ≤ 281474976710656 ∧ 0 ≤ b.base.time ∧ b.base.time ≤ 281474976710656 := by simpa [Bs.right] using this
  omega
theorem fits_lost {b : Bk} (h : b.fits = true) (hk : b.kind ≠ 2) : b.kind = 1 ∧ 0 ≤ b.lost ∧ b.lost ≤ 281474976710656 ∧ b.cpu < 64 ∧ b.next = 0 := by
  obtain ⟨h1, h2⟩ := fits_evs h hk
  unfold Bk.fitsE at h2
  rw [decide_eq_true_eq] at h2
  omega
theorem fits_next {b : Bk} (h : b.fits = true) (hk : b.kind = 2) : 1 ≤ b.next ∧ b.next ≤ 281474976710657 ∧ b.cpu = 0 ∧ b.lost = 0 ∧ b.evs.length = 0 := by
  have h2 := fits_end h hk
  unfold Bk.fitsN at h2
  rw [decide_eq_true_eq] at h2
  exact h2
theorem crcRun_snoc (c : Nat) (l : List Nat) (x : Nat) : crcRun c (l ++ [x]) = byteStep (crcRun c l) x := by unfold crcRun; rw [List.foldl_append]; rfl
theorem crcRun_take {c k : Nat} {l : List Nat} (h : k < l.length) : crcRun c (l.take (k + 1)) = byteStep (crcRun c (l.take k)) (l.getD k 0) := by
  rw [List.take_add_one, getD_at 0 h]; exact crcRun_snoc _ _ _
theorem take_lt {l : List Nat} {m : Nat} (h : ∀ b ∈ l, b < m) (k : Nat) : ∀ b ∈ l.take k, b < m := fun b hb => h b (List.mem_of_mem_take hb)
theorem drop_lt {l : List Nat} {m : Nat} (h : ∀ b ∈ l, b < m) (k : Nat) : ∀ b ∈ l.drop k, b < m := fun b hb => h b (List.mem_of_mem_drop hb)
theorem nib_lt {c : Nat} (h : c < 4294967296) : nib c < 4294967296 := xor_lt32 (by omega) (halves_lt _ (by omega))
theorem crcSum_lt (l : List Nat) : crcSum l < 4294967296 := by unfold crcSum; omega
theorem le4_lt (n : Nat) : ∀ b ∈ le4 n, b < 256 := by intro b hb; simp [le4] at hb; omega
theorem le4_len (n : Nat) : (le4 n).length = 4 := rfl
theorem seal_len (l : List Nat) : (sealL l).length = l.length + 4 := by unfold sealL; rw [List.length_append, le4_len]
theorem seal_lt {l : List Nat} (hl : ∀ b ∈ l, b < 256) : ∀ b ∈ sealL l, b < 256 := by
  intro b hb
  rcases List.mem_append.1 hb with h | h
  · exact hl b h
  · exact le4_lt _ b h
end Go.Proofs.YtjpielapplglmaaDoor

/- What a row of layer 10 gives: the listed variables. -/
namespace Go.Proofs.YtjpielapplglmaaDoor
open Go.RowKit Go.ChangeShapes Go.WideShapes

theorem uses_row {W : World} {fuel : Nat} {cs : List Value} {zs : List Nat} {p : List MemPlace}
    (h : DataW.trod (fun _ => ()) Tryd.prog W 0 (fun _ => true) false fuel 82 cs = some (.slice (zs.map fun z : Nat => .lit (.int .i64 (z : Int))) [], p)) :
    ∃ A c, cs = [.slice A zs.length c] ∧ Rd W W.heap.size 1 A zs.length (zs.map I64v) := by
  obtain ⟨a, cap, hcs, hl, hall⟩ := open_row (e := 3) (by kernel_rfl) (by kernel_rfl) h
  have hcell : ∀ i z, zs[i]? = some z → W.cell? (a.add i) = some (I64v z) := by
    intro i z hz
    obtain ⟨v, n, q, hc, ht⟩ := hall i (.lit (.int .i64 (z : Int))) (by rw [List.getElem?_map, hz]; rfl)
    obtain ⟨z', e1, e2, _⟩ := DataW.trod_int (k := .i64) (by kernel_rfl) ht
    injection e1 with e1
    injection e2 with e2
    subst e1
    simp only [DataW.lit.injEq, Lit.int.injEq, true_and] at e2
    rw [hc, ← e2]
    rfl
  refine ⟨some a, cap, by rw [hcs, List.length_map], by simp, fun hn => ⟨a, rfl, ?_, ?_⟩⟩
  · cases zs with
    | nil => simp at hn
    | cons z zs =>
      have := World.block_lt_of_cell? W _ (hcell 0 z rfl)
      simpa [Addr.add] using this
  · intro j u hu
    rw [List.getElem?_map] at hu
    cases hz : zs[j]? with
    | none => simp [hz] at hu
    | some z => rw [hz] at hu; cases hu; exact hcell j z hz
theorem laid_of_row {W : World} (h : laidMetH Tryd.prog Rows.blockReadsRow.laid W) : Laid W.heap.size W := by
  rw [MakeChecks.laidMetH_plain _ _ _ (by kernel_rfl)] at h
  obtain ⟨g1, t1, cs1, f1, p1, hg1, ht1, hv1, hd1⟩ := Lib.laidMet.reads h (n := "quantum/event.fields") (d := Rows.laid_quantum_event_fields) (List.mem_cons_self ..)
  obtain ⟨g2, t2, cs2, f2, p2, hg2, ht2, hv2, hd2⟩ := Lib.laidMet.reads h (n := "quantum/event.uses") (d := Rows.laid_quantum_event_uses) (List.mem_cons_of_mem _ (List.mem_cons_self ..))
  have gg1 : Tryd.prog.globalNamed "quantum/event.fields" = some 3 := by kernel_rfl
  have gg2 : Tryd.prog.globalNamed "quantum/event.uses" = some 1 := by kernel_rfl
  obtain rfl := Option.some.inj (gg1.symm.trans hg1)
  obtain rfl := Option.some.inj (gg2.symm.trans hg2)
  have ty1 : (Tryd.prog.globals[3]?).map (·.type) = some 177 := by kernel_rfl
  have ty2 : (Tryd.prog.globals[1]?).map (·.type) = some 143 := by kernel_rfl
  obtain rfl := Option.some.inj (ty1.symm.trans ht1)
  obtain rfl := Option.some.inj (ty2.symm.trans ht2)
  have one1 : Tryd.prog.cellsOf 9 = 1 := by kernel_rfl
  have one2 : Tryd.prog.cellsOf 82 = 1 := by kernel_rfl
  have c1 : ∀ i v, cs1.toList[i]? = some v → W.cell? ⟨3, i, none⟩ = some v := fun i v hv => by
    rw [World.var?_cell gg1 hv1 i]; simpa using hv
  have c2 : ∀ i v, cs2.toList[i]? = some v → W.cell? ⟨1, i, none⟩ = some v := fun i v hv => by
    rw [World.var?_cell gg2 hv2 i]; simpa using hv
  have at1 : ∀ (cs : List Value) (i : Nat) (v : Value), (cs.drop (i * 1)).take 1 = [v] → cs[i]? = some v := by
    intro cs i v h
    have := congrArg (·[0]?) h
    simpa [List.getElem?_take, List.getElem?_drop] using this
  have str : ∀ i, i < 7 → ∃ s : ByteArray, W.cell? ⟨3, i, none⟩ = some (.string s) := by
    intro i hi
    obtain ⟨f', d, q, _, ht⟩ := Lib.array_elem (n := 7) (e := 9) (by kernel_rfl) hd1 i hi
    rw [one1] at ht
    obtain ⟨s, hs, _⟩ := DataW.trod_string (by kernel_rfl) ht
    exact ⟨s, c1 i _ (at1 _ _ _ hs)⟩
  have row : ∀ k, k < 11 → ∃ A c, W.cell? ⟨1, k, none⟩ = some (.slice A (usesL k).length c) ∧ Rd W W.heap.size 1 A (usesL k).length ((usesL k).map I64v) := by
    intro k hk
    obtain ⟨f', d, q, hd, ht⟩ := Lib.array_elem (n := 11) (e := 82) (by kernel_rfl) hd2 k hk
    rw [one2] at ht
    by_cases h0 : k = 0
    · subst h0
      simp only [List.getElem?_cons_zero, Option.some.injEq] at hd
      subst hd
      rcases DataW.trod_slice (e := 3) (by kernel_rfl) ht with ⟨hc, _⟩ | ⟨a, len, cap, elems, rest, n, _, _, hx, _⟩
      · exact ⟨none, 0, c2 0 _ (at1 _ _ _ hc), Rd.nil⟩
      · simp at hx
    · have hd' : d = .slice ((usesL k).map fun z : Nat => .lit (.int .i64 (z : Int))) [] := by
        have hk' : k = 1 ∨ k = 2 ∨ k = 3 ∨ k = 4 ∨ k = 5 ∨ k = 6 ∨ k = 7 ∨ k = 8 ∨ k = 9 ∨ k = 10 := by omega
        rcases hk' with rfl | rfl | rfl | rfl | rfl | rfl | rfl | rfl | rfl | rfl <;> exact (Option.some.inj hd).symm
      subst hd'
      obtain ⟨A, c, hc, hr⟩ := uses_row ht
      exact ⟨A, c, c2 k _ (at1 _ _ _ hc), hr⟩
  refine ⟨row, ?_, str, ?_⟩
  · obtain ⟨A, c, h1, _⟩ := row 0 (by omega)
    exact World.block_lt_of_cell? W _ h1
  · obtain ⟨s, h1⟩ := str 0 (by omega)
    exact World.block_lt_of_cell? W _ h1

theorem und_u32 : Tryd.prog.underlying 25 = some (.int .u32) := by kernel_rfl
set_option maxRecDepth 100000 in
theorem laidX_of_row {W : World} (h : laidMetH Tryd.prog Rows.blockReadsRow.laid W) : LaidX W.heap.size W := by
  have hl := laid_of_row h
  rw [MakeChecks.laidMetH_plain _ _ _ (by kernel_rfl)] at h
  obtain ⟨g1, t1, cs1, f1, p1, hg1, ht1, hv1, hd1⟩ := Lib.laidMet.reads h (n := "quantum/crc.halves") (d := Rows.laid_quantum_crc_halves) (List.mem_cons_of_mem _ (List.mem_cons_of_mem _ (List.mem_cons_self ..)))
  obtain ⟨g2, t2, cs2, f2, p2, hg2, ht2, hv2, hd2⟩ := Lib.laidMet.reads h (n := "quantum/block.magic") (d := Rows.laid_quantum_block_magic) (List.mem_cons_of_mem _ (List.mem_cons_of_mem _ (List.mem_cons_of_mem _ (List.mem_cons_self ..))))
  have gg1 : Tryd.prog.globalNamed "quantum/crc.halves" = some 2 := by kernel_rfl
  have gg2 : Tryd.prog.globalNamed "quantum/block.magic" = some 0 := by kernel_rfl
  obtain rfl := Option.some.inj (gg1.symm.trans hg1)
  obtain rfl := Option.some.inj (gg2.symm.trans hg2)
  have ty1 : (Tryd.prog.globals[2]?).map (·.type) = some 168 := by kernel_rfl
  have ty2 : (Tryd.prog.globals[0]?).map (·.type) = some 73 := by kernel_rfl
  obtain rfl := Option.some.inj (ty1.symm.trans ht1)
  obtain rfl := Option.some.inj (ty2.symm.trans ht2)
  have one1 : Tryd.prog.cellsOf 25 = 1 := by kernel_rfl
  have one2 : Tryd.prog.cellsOf 5 = 1 := by kernel_rfl
  have c1 : ∀ i v, cs1.toList[i]? = some v → W.cell? ⟨2, i, none⟩ = some v := fun i v hv => by
    rw [World.var?_cell gg1 hv1 i]; simpa using hv
  have c2 : ∀ i v, cs2.toList[i]? = some v → W.cell? ⟨0, i, none⟩ = some v := fun i v hv => by
    rw [World.var?_cell gg2 hv2 i]; simpa using hv
  have at1 : ∀ (cs : List Value) (i : Nat) (v : Value), (cs.drop (i * 1)).take 1 = [v] → cs[i]? = some v := by
    intro cs i v h
    have := congrArg (·[0]?) h
    simpa [List.getElem?_take, List.getElem?_drop] using this
  have hal : ∀ k, k < 16 → W.cell? ⟨2, k, none⟩ = some (.int .u32 ((halvesL.getD k 0 : Nat) : Int)) := by
    intro k hk
    obtain ⟨f', d, q, hd, ht⟩ := Lib.array_elem (n := 16) (e := 25) (by kernel_rfl) hd1 k hk
    rw [one1] at ht
    have hdk : d = .lit (.int .u32 ((halvesL.getD k 0 : Nat) : Int)) := by
      have hk' : k = 0 ∨ k = 1 ∨ k = 2 ∨ k = 3 ∨ k = 4 ∨ k = 5 ∨ k = 6 ∨ k = 7 ∨ k = 8 ∨ k = 9 ∨ k = 10 ∨ k = 11 ∨ k = 12 ∨ k = 13 ∨ k = 14 ∨ k = 15 := by omega
      rcases hk' with rfl | rfl | rfl | rfl | rfl | rfl | rfl | rfl | rfl | rfl | rfl | rfl | rfl | rfl | rfl | rfl <;> exact (Option.some.inj hd).symm
    subst hdk
    obtain ⟨z, e1, e2, _⟩ := DataW.trod_int und_u32 ht
    have e2 := congrArg Prod.fst e2
    simp only [DataW.lit.injEq, Lit.int.injEq, true_and] at e2
    exact c1 k _ (by rw [at1 _ _ _ e1, ← e2])
  have mag : ∀ k, k < 2 → W.cell? ⟨0, k, none⟩ = some (.int .u8 (([113, 116].getD k 0 : Nat) : Int)) := by
    intro k hk
    obtain ⟨f', d, q, hd, ht⟩ := Lib.array_elem (n := 2) (e := 5) (by kernel_rfl) hd2 k hk
    rw [one2] at ht
    have hdk : d = .lit (.int .u8 (([113, 116].getD k 0 : Nat) : Int)) := by
      have hk' : k = 0 ∨ k = 1 := by omega
      rcases hk' with rfl | rfl <;> exact (Option.some.inj hd).symm
    subst hdk
    obtain ⟨z, e1, e2, _⟩ := DataW.trod_int und_u8 ht
    have e2 := congrArg Prod.fst e2
    simp only [DataW.lit.injEq, Lit.int.injEq, true_and] at e2
    exact c2 k _ (by rw [at1 _ _ _ e1, ← e2])
  exact ⟨hl, hal, World.block_lt_of_cell? W _ (hal 0 (by omega)), mag 0 (by omega), mag 1 (by omega), World.block_lt_of_cell? W _ (mag 0 (by omega))⟩
end Go.Proofs.YtjpielapplglmaaDoor

/- slices.Grow, Concat, Equal: the walks. -/
set_option linter.all false
namespace Go.Proofs.YtjpielapplglmaaDoor
open Go.RowKit
set_option maxRecDepth 100000 in
set_option maxHeartbeats 4000000 in
theorem grow_any (n : Nat) (hn : n ≤ 1000000000000) (w : World) :
    Calls Tryd.prog 77 #[.slice none 0 0, .int .i64 (n : Int)] w fun r w' => (∃ A c, r = .returned (.slice A 0 c) ∧ w'.ownsRow w.heap.size 5 1 (.slice A 0 c) 0 []) ∧ Below w.heap.size w w' := by
  refine calls_enter (vs := [.slice none 0 0, .int .i64 (n : Int)]) Tryd.func77 rfl rfl (by kernel_rfl) (σ0 := [(0, .slice none 0 0), (1, .int .i64 (n : Int))]) rfl ?_
  intro a HF
  have HM := Mem.start w
  refine wp_seq ?_
  refine from_start ?_
  refine from_pures HF 1 0 (j := 1) [(4, .slice none 0 0)] (by kernel_rfl) rfl ?_; clear HF; intro a HF
  refine from_done rfl ?_
  refine wp_seq ?_
  refine wp_seq ?_
  refine from_start ?_
  refine from_pures HF 2 0 (j := 2) [(6, .bool (decide (((n : Int) : Int) < (0 : Int)))), (5, .int .i64 (n : Int))] (by kernel_rfl) rfl ?_; clear HF; intro a HF
  refine from_done rfl ?_
  replace HF := HF.sub (σ' := [(6, .bool (decide (((n : Int) : Int) < (0 : Int)))), (4, .slice none 0 0), (0, .slice none 0 0), (1, .int .i64 (n : Int))]) (by kernel_rfl)
  rcases Bool.eq_false_or_eq_true (decide (((n : Int) : Int) < (0 : Int))) with hb6 | hb6
  · have HF := HF.as (t := 6) (u := .bool true) rfl (by rw [hb6])
    have hd6 := of_decide_eq_true hb6
    omega
  · have HF := HF.as (t := 6) (u := .bool false) rfl (by rw [hb6])
    have hd6 := of_decide_eq_false hb6
    refine cond_false HF rfl ?_
    refine wp_skip ?_
    refine wp_seq ?_
    refine wp_seq ?_
    refine from_start ?_
    refine from_pures HF 2 0 (j := 2) [(9, .slice none 0 0), (8, .int .i64 (n : Int))] (by kernel_rfl) rfl ?_; clear HF; intro a HF
    refine from_yl (S := fun wS => Mem w wS _) HF HM (i := 2) rfl rfl (d := 10) rfl (by decide) (v := .int .i64 0) (Yl.cap rfl rfl (by kernel_rfl)) ?_; clear HF; intro a HF
    refine from_pures HF 1 3 (j := 4) [(11, .slice none 0 0)] (by kernel_rfl) rfl ?_; clear HF; intro a HF
    refine from_yl (S := fun wS => Mem w wS _) HF HM (i := 4) rfl rfl (d := 12) rfl (by decide) (v := .int .i64 0) (Yl.len rfl rfl (by kernel_rfl)) ?_; clear HF; intro a HF
    refine from_pures HF 2 5 (j := 7) [(14, .int .i64 (IntKind.i64.wrap ((n : Int) - 0))), (13, .int .i64 0)] (by kernel_rfl) rfl ?_; clear HF; intro a HF
    replace HF := HF.as (t := 14) (u := .int .i64 (n : Int)) rfl (i64_nat (by omega) (by omega))
    refine from_pures HF 1 7 (j := 8) [(1, .int .i64 (n : Int))] (by kernel_rfl) rfl ?_; clear HF; intro a HF
    refine from_done rfl ?_
    replace HF := HF.sub (σ' := [(1, .int .i64 (n : Int)), (6, .bool false), (4, .slice none 0 0), (0, .slice none 0 0)]) (by kernel_rfl)
    refine wp_seq ?_
    refine from_start ?_
    refine from_pures HF 2 0 (j := 2) [(16, .bool (decide (((n : Int) : Int) > (0 : Int)))), (15, .int .i64 (n : Int))] (by kernel_rfl) rfl ?_; clear HF; intro a HF
    refine from_done rfl ?_
    replace HF := HF.sub (σ' := [(16, .bool (decide (((n : Int) : Int) > (0 : Int)))), (1, .int .i64 (n : Int)), (6, .bool false), (4, .slice none 0 0), (0, .slice none 0 0)]) (by kernel_rfl)
    rcases Bool.eq_false_or_eq_true (decide (((n : Int) : Int) > (0 : Int))) with hb16 | hb16
    · have HF := HF.as (t := 16) (u := .bool true) rfl (by rw [hb16])
      have hd16 := of_decide_eq_true hb16
      refine cond_true HF rfl ?_
      refine from_start ?_
      refine from_pures HF 2 0 (j := 2) [(18, .slice none 0 0), (17, .slice none 0 0)] (by kernel_rfl) rfl ?_; clear HF; intro a HF
      refine from_yl (S := fun wS => Mem w wS _) HF HM (i := 2) rfl rfl (d := 19) rfl (by decide) (v := .int .i64 0) (Yl.cap rfl rfl (by kernel_rfl)) ?_; clear HF; intro a HF
      refine from_yl (S := fun wS => Mem w wS _) HF HM (i := 3) rfl rfl (d := 20) rfl (by decide) (v := .slice none 0 0) (Yl.sliceUpto ei_u8 (j := 0) rfl rfl rfl (by omega)) ?_; clear HF; intro a HF
      refine from_pures HF 1 4 (j := 5) [(21, .int .i64 (n : Int))] (by kernel_rfl) rfl ?_; clear HF; intro a HF
      refine from_op HF (i := 5) rfl rfl ?_
      refine e_appendZeros HF HM (kn := .i64) (m := n) rfl ei_u8 (by kernel_rfl) rfl rfl (by omega) (by omega) (by omega) rfl (by decide) ?_
      clear HF HM; intro a w22 g22 c22 HF HM hc22
      refine from_pures HF 1 6 (j := 7) [(23, .slice none 0 0)] (by kernel_rfl) rfl ?_; clear HF; intro a HF
      refine from_yl (S := fun wS => Mem w wS _) HF HM (i := 7) rfl rfl (d := 24) rfl (by decide) (v := .int .i64 0) (Yl.len rfl rfl (by kernel_rfl)) ?_; clear HF; intro a HF
      refine from_yl (S := fun wS => Mem w wS _) HF HM (i := 8) rfl rfl (d := 25) rfl (by decide) (v := .slice (some ⟨g22, 0, none⟩) 0 c22) (Yl.sliceUpto ei_u8 (j := 0) rfl rfl rfl (by omega)) ?_; clear HF; intro a HF
      refine from_pures HF 1 9 (j := 10) [(0, .slice (some ⟨g22, 0, none⟩) 0 c22)] (by kernel_rfl) rfl ?_; clear HF; intro a HF
      refine from_done rfl ?_
      replace HF := HF.sub (σ' := [(0, .slice (some ⟨g22, 0, none⟩) 0 c22), (16, .bool true), (1, .int .i64 (n : Int)), (6, .bool false), (4, .slice none 0 0)]) (by kernel_rfl)
      replace HM := (HM.shrink (i := 0) (k := 0) rfl (Nat.zero_le _) (fun h => by cases h)).asRow (i := 0) (ys := []) rfl (by simp)
      refine wp_seq ?_
      refine from_start ?_
      refine from_pures HF 2 0 (j := 2) [(4, .slice (some ⟨g22, 0, none⟩) 0 c22), (26, .slice (some ⟨g22, 0, none⟩) 0 c22)] (by kernel_rfl) rfl ?_; clear HF; intro a HF
      refine from_done rfl ?_
      replace HF := HF.sub (σ' := [(4, .slice (some ⟨g22, 0, none⟩) 0 c22), (0, .slice (some ⟨g22, 0, none⟩) 0 c22), (16, .bool true), (1, .int .i64 (n : Int)), (6, .bool false)]) (by kernel_rfl)
      refine wp_ret ?_
      exact ret1 rfl HF (.tmp HF rfl) (⟨⟨_, _, rfl, HM.own (i := 0) rfl⟩, HM.below⟩)
    · have HF := HF.as (t := 16) (u := .bool false) rfl (by rw [hb16])
      have hd16 := of_decide_eq_false hb16
      refine cond_false HF rfl ?_
      refine wp_skip ?_
      refine wp_seq ?_
      refine from_start ?_
      refine from_pures HF 2 0 (j := 2) [(4, .slice none 0 0), (26, .slice none 0 0)] (by kernel_rfl) rfl ?_; clear HF; intro a HF
      refine from_done rfl ?_
      replace HF := HF.sub (σ' := [(4, .slice none 0 0), (16, .bool false), (1, .int .i64 (n : Int)), (6, .bool false), (0, .slice none 0 0)]) (by kernel_rfl)
      refine wp_ret ?_
      exact ret1 rfl HF (.tmp HF rfl) (⟨⟨_, _, rfl, World.ownsRow_nil _ _ _ _⟩, HM.below⟩)
set_option maxRecDepth 100000 in
set_option maxHeartbeats 4000000 in
theorem concat_any (A : Option Addr) (n c : Nat) (ps : List Part) (w : World) (hr : Rd w w.heap.size 1 A n (ps.map Part.val)) (hln : ps.length = n) (hn : n ≤ 1000000) (hps : ∀ p ∈ ps, Rd w w.heap.size 1 p.A p.l.length (p.l.map B8)) (htot : (ps.flatMap (·.l)).length ≤ 1000000000000) :
    Calls Tryd.prog 57 #[.slice A n c] w (BytesOne w (ps.flatMap (·.l))) := by
  refine calls_enter (vs := [.slice A n c]) Tryd.func57 rfl rfl (by kernel_rfl) (σ0 := [(0, .slice A n c)]) rfl ?_
  intro a HF
  have HM := Mem.start w
  refine wp_seq ?_
  refine from_start ?_
  refine from_pures HF 1 0 (j := 1) [(2, .slice none 0 0)] (by kernel_rfl) rfl ?_; clear HF; intro a HF
  refine from_done rfl ?_
  refine wp_seq ?_
  refine from_start ?_
  refine from_pures HF 1 0 (j := 1) [(3, .int .i64 0)] (by kernel_rfl) rfl ?_; clear HF; intro a HF
  refine from_done rfl ?_
  refine wp_seq ?_
  refine wp_seq ?_
  refine from_start ?_
  refine from_pures HF 1 0 (j := 1) [(9, .slice A n c)] (by kernel_rfl) rfl ?_; clear HF; intro a HF
  refine from_yl (S := fun wS => Mem w wS _) HF HM (i := 1) rfl rfl (d := 10) rfl (by decide) (v := .int .i64 ((n : Nat) : Int)) (Yl.len rfl rfl (by kernel_rfl)) ?_; clear HF; intro a HF
  refine from_pures HF 1 2 (j := 3) [(11, .int .i64 0)] (by kernel_rfl) rfl ?_; clear HF; intro a HF
  refine from_done rfl ?_
  refine wp_block ?_
  refine loop_nat (fun mS aS wS => ∃ (k : Nat), (k ≤ n) ∧ mS = n - k ∧ Fr aS 36 [] [(11, .int .i64 (k : Int)), (10, .int .i64 ((n : Nat) : Int)), (9, .slice A n c), (3, .int .i64 (((ps.take k).flatMap (·.l)).length : Int)), (2, .slice none 0 0), (0, .slice A n c)] ∧ Mem w wS []) (m := n - 0) ⟨0, Nat.zero_le _, rfl, HF.sub (by kernel_rfl), HM.picks [] (by decide) rfl⟩ ?_
  clear HF HM; rintro mS a w_ ⟨k, hk, rfl, HF, HM⟩
  have hpk := parts_le (l := ps) k
  have hpk1 := parts_le (l := ps) (k + 1)
  refine wp_seq ?_
  refine from_start ?_
  refine from_pures HF 1 0 (j := 1) [(12, .bool (decide (((k : Int) : Int) < (((n : Nat) : Int) : Int))))] (by kernel_rfl) rfl ?_; clear HF; intro a HF
  refine from_done rfl ?_
  refine wp_seq ?_
  rcases Bool.eq_false_or_eq_true (decide (((k : Int) : Int) < (((n : Nat) : Int) : Int))) with hb12 | hb12
  · have HF := HF.as (t := 12) (u := .bool true) rfl (by rw [hb12])
    have hd12 := of_decide_eq_true hb12
    have hk12 : k < n := by omega
    refine cond_true HF rfl ?_
    refine wp_skip ?_
    refine wp_seq ?_
    refine wp_block ?_
    refine wp_seq ?_
    refine from_start ?_
    obtain ⟨gA, oA, rfl, _⟩ := hr.some_at (Nat.lt_of_le_of_lt (Nat.zero_le _) (show k < n from by omega)) (by decide)
    refine from_yl (S := fun wS => Mem w wS _) HF HM (i := 0) rfl rfl (d := 13) rfl (by decide) (v := .pointer (some ⟨gA, oA + k * 1, none⟩)) ((Yl.indexAddr (ad := ⟨gA, oA, none⟩) (y := k) (sz := 1) rfl rfl rfl (by omega) (by kernel_rfl)).as (by rw [Addr.add_mid])) ?_; clear HF; intro a HF
    refine from_yl (S := fun wS => Mem w wS _) HF HM (i := 1) rfl rfl (d := 14) rfl (by decide) (v := .slice ((ps.getD k (⟨none, 0, []⟩ : Part)).A) ((ps.getD k (⟨none, 0, []⟩ : Part)).l.length) ((ps.getD k (⟨none, 0, []⟩ : Part)).c)) (Yl.load1 rfl rfl (by kernel_rfl) (fun _ h => (h.old hr).oneAt1 (k := k) (map_at (F := Part.val) (k := k) (x := (ps.getD k (⟨none, 0, []⟩ : Part))) ((getD_at (⟨none, 0, []⟩ : Part) (k := k) (by first | omega | (simp; omega))))))) ?_; clear HF; intro a HF
    refine from_pures HF 1 2 (j := 3) [(5, .slice ((ps.getD k (⟨none, 0, []⟩ : Part)).A) ((ps.getD k (⟨none, 0, []⟩ : Part)).l.length) ((ps.getD k (⟨none, 0, []⟩ : Part)).c))] (by kernel_rfl) rfl ?_; clear HF; intro a HF
    refine from_done rfl ?_
    replace HF := HF.sub (σ' := [(5, .slice ((ps.getD k (⟨none, 0, []⟩ : Part)).A) ((ps.getD k (⟨none, 0, []⟩ : Part)).l.length) ((ps.getD k (⟨none, 0, []⟩ : Part)).c)), (12, .bool true), (11, .int .i64 (k : Int)), (10, .int .i64 ((n : Nat) : Int)), (9, .slice (some ⟨gA, oA, none⟩) n c), (3, .int .i64 (((ps.take k).flatMap (·.l)).length : Int)), (2, .slice none 0 0), (0, .slice (some ⟨gA, oA, none⟩) n c)]) (by kernel_rfl)
    refine wp_seq ?_
    refine from_start ?_
    refine from_pures HF 2 0 (j := 2) [(16, .slice ((ps.getD k (⟨none, 0, []⟩ : Part)).A) ((ps.getD k (⟨none, 0, []⟩ : Part)).l.length) ((ps.getD k (⟨none, 0, []⟩ : Part)).c)), (15, .int .i64 (((ps.take k).flatMap (·.l)).length : Int))] (by kernel_rfl) rfl ?_; clear HF; intro a HF
    refine from_yl (S := fun wS => Mem w wS _) HF HM (i := 2) rfl rfl (d := 17) rfl (by decide) (v := .int .i64 (((ps.getD k (⟨none, 0, []⟩ : Part)).l.length : Nat) : Int)) (Yl.len rfl rfl (by kernel_rfl)) ?_; clear HF; intro a HF
    refine from_pures HF 1 3 (j := 4) [(18, .int .i64 (IntKind.i64.wrap ((((ps.take k).flatMap (·.l)).length : Int) + (((ps.getD k (⟨none, 0, []⟩ : Part)).l.length : Nat) : Int))))] (by kernel_rfl) rfl ?_; clear HF; intro a HF
    replace HF := HF.as (t := 18) (u := .int .i64 (((ps.take (k + 1)).flatMap (·.l)).length : Int)) rfl (i64_nat (by rw [parts_snoc (d := (⟨none, 0, []⟩ : Part)) (by omega), List.length_append]; omega) (by have := parts_le (l := ps) (k + 1); omega))
    refine from_pures HF 1 4 (j := 5) [(3, .int .i64 (((ps.take (k + 1)).flatMap (·.l)).length : Int))] (by kernel_rfl) rfl ?_; clear HF; intro a HF
    refine from_done rfl ?_
    replace HF := HF.sub (σ' := [(3, .int .i64 (((ps.take (k + 1)).flatMap (·.l)).length : Int)), (5, .slice ((ps.getD k (⟨none, 0, []⟩ : Part)).A) ((ps.getD k (⟨none, 0, []⟩ : Part)).l.length) ((ps.getD k (⟨none, 0, []⟩ : Part)).c)), (12, .bool true), (11, .int .i64 (k : Int)), (10, .int .i64 ((n : Nat) : Int)), (9, .slice (some ⟨gA, oA, none⟩) n c), (2, .slice none 0 0), (0, .slice (some ⟨gA, oA, none⟩) n c)]) (by kernel_rfl)
    refine wp_seq ?_
    refine from_start ?_
    refine from_pures HF 2 0 (j := 2) [(20, .bool (decide (((((ps.take (k + 1)).flatMap (·.l)).length : Int) : Int) < (0 : Int)))), (19, .int .i64 (((ps.take (k + 1)).flatMap (·.l)).length : Int))] (by kernel_rfl) rfl ?_; clear HF; intro a HF
    refine from_done rfl ?_
    replace HF := HF.sub (σ' := [(20, .bool (decide (((((ps.take (k + 1)).flatMap (·.l)).length : Int) : Int) < (0 : Int)))), (3, .int .i64 (((ps.take (k + 1)).flatMap (·.l)).length : Int)), (5, .slice ((ps.getD k (⟨none, 0, []⟩ : Part)).A) ((ps.getD k (⟨none, 0, []⟩ : Part)).l.length) ((ps.getD k (⟨none, 0, []⟩ : Part)).c)), (12, .bool true), (11, .int .i64 (k : Int)), (10, .int .i64 ((n : Nat) : Int)), (9, .slice (some ⟨gA, oA, none⟩) n c), (2, .slice none 0 0), (0, .slice (some ⟨gA, oA, none⟩) n c)]) (by kernel_rfl)
    rcases Bool.eq_false_or_eq_true (decide (((((ps.take (k + 1)).flatMap (·.l)).length : Int) : Int) < (0 : Int))) with hb20 | hb20
    · have HF := HF.as (t := 20) (u := .bool true) rfl (by rw [hb20])
      have hd20 := of_decide_eq_true hb20
      omega
    · have HF := HF.as (t := 20) (u := .bool false) rfl (by rw [hb20])
      have hd20 := of_decide_eq_false hb20
      refine cond_false HF rfl ?_
      refine wp_skip ?_
      refine from_start ?_
      refine from_pures HF 1 0 (j := 1) [(22, .int .i64 (IntKind.i64.wrap ((k : Int) + 1)))] (by kernel_rfl) rfl ?_; clear HF; intro a HF
      replace HF := HF.as (t := 22) (u := .int .i64 ((k + 1 : Nat) : Int)) rfl (i64_nat (by omega) (by omega))
      refine from_pures HF 1 1 (j := 2) [(11, .int .i64 ((k + 1 : Nat) : Int))] (by kernel_rfl) rfl ?_; clear HF; intro a HF
      refine from_done rfl ?_
      replace HF := HF.sub (σ' := [(11, .int .i64 ((k + 1 : Nat) : Int)), (20, .bool false), (3, .int .i64 (((ps.take (k + 1)).flatMap (·.l)).length : Int)), (5, .slice ((ps.getD k (⟨none, 0, []⟩ : Part)).A) ((ps.getD k (⟨none, 0, []⟩ : Part)).l.length) ((ps.getD k (⟨none, 0, []⟩ : Part)).c)), (12, .bool true), (10, .int .i64 ((n : Nat) : Int)), (9, .slice (some ⟨gA, oA, none⟩) n c), (2, .slice none 0 0), (0, .slice (some ⟨gA, oA, none⟩) n c)]) (by kernel_rfl)
      exact ⟨_, (by omega), k + 1, by omega, rfl, HF.sub (by kernel_rfl), HM.picks [] (by decide) rfl⟩
  · have HF := HF.as (t := 12) (u := .bool false) rfl (by rw [hb12])
    have hd12 := of_decide_eq_false hb12
    obtain rfl : n = k := by omega
    refine cond_false HF rfl ?_
    refine wp_exit ?_
    refine wp_seq ?_
    refine from_start ?_
    refine from_pures HF 1 0 (j := 1) [(23, .int .i64 (((ps.take n).flatMap (·.l)).length : Int))] (by kernel_rfl) rfl ?_; clear HF; intro a HF
    refine from_op HF (i := 1) rfl rfl ?_
    refine e_call HF (vs := [.slice none 0 0, .int .i64 (((ps.take n).flatMap (·.l)).length : Int)]) rfl (by kernel_rfl) (by kernel_rfl) rfl (by decide) (grow_any _ (by omega) _) ?_
    rintro _ w24 ⟨⟨A24, c24, rfl, ho⟩, hbw⟩
    refine ⟨_, rfl, ?_⟩
    replace HM := HM.callRow hbw ho
    clear HF; intro a HF
    refine from_pures HF 1 2 (j := 3) [(6, .slice A24 0 c24)] (by kernel_rfl) rfl ?_; clear HF; intro a HF
    refine from_done rfl ?_
    replace HF := HF.sub (σ' := [(6, .slice A24 0 c24), (12, .bool false), (11, .int .i64 (n : Int)), (10, .int .i64 ((n : Nat) : Int)), (9, .slice A n c), (3, .int .i64 (((ps.take n).flatMap (·.l)).length : Int)), (2, .slice none 0 0), (0, .slice A n c)]) (by kernel_rfl)
    refine wp_seq ?_
    refine wp_seq ?_
    refine from_start ?_
    refine from_pures HF 1 0 (j := 1) [(25, .slice A n c)] (by kernel_rfl) rfl ?_; clear HF; intro a HF
    refine from_yl (S := fun wS => Mem w wS _) HF HM (i := 1) rfl rfl (d := 26) rfl (by decide) (v := .int .i64 ((n : Nat) : Int)) (Yl.len rfl rfl (by kernel_rfl)) ?_; clear HF; intro a HF
    refine from_pures HF 1 2 (j := 3) [(27, .int .i64 0)] (by kernel_rfl) rfl ?_; clear HF; intro a HF
    refine from_done rfl ?_
    refine wp_block ?_
    refine loop_nat (fun mS aS wS => ∃ (k : Nat) (Ak : Option Addr) (ck : Nat), (k ≤ n) ∧ (((ps.take k).flatMap (·.l)).length ≤ ck) ∧ mS = n - k ∧ Fr aS 36 [] [(27, .int .i64 (k : Int)), (26, .int .i64 ((n : Nat) : Int)), (25, .slice A n c), (6, .slice Ak (((ps.take k).flatMap (·.l)).length) ck), (12, .bool false), (11, .int .i64 (n : Int)), (10, .int .i64 ((n : Nat) : Int)), (9, .slice A n c), (3, .int .i64 (((ps.take n).flatMap (·.l)).length : Int)), (2, .slice none 0 0), (0, .slice A n c)] ∧ Mem w wS [.row (.slice Ak (((ps.take k).flatMap (·.l)).length) ck) (((ps.take k).flatMap (·.l)).length) (((ps.take k).flatMap (·.l)).map B8) 5 1]) (m := n - 0) ⟨0, A24, c24, Nat.zero_le _, Nat.zero_le _, rfl, HF.sub (by kernel_rfl), HM.picks [0] (by decide) rfl⟩ ?_
    clear HF HM; rintro mS a w_ ⟨k, Ak, ck, hk, hck, rfl, HF, HM⟩
    refine wp_seq ?_
    refine from_start ?_
    refine from_pures HF 1 0 (j := 1) [(28, .bool (decide (((k : Int) : Int) < (((n : Nat) : Int) : Int))))] (by kernel_rfl) rfl ?_; clear HF; intro a HF
    refine from_done rfl ?_
    refine wp_seq ?_
    rcases Bool.eq_false_or_eq_true (decide (((k : Int) : Int) < (((n : Nat) : Int) : Int))) with hb28 | hb28
    · have HF := HF.as (t := 28) (u := .bool true) rfl (by rw [hb28])
      have hd28 := of_decide_eq_true hb28
      have hk28 : k < n := by omega
      refine cond_true HF rfl ?_
      refine wp_skip ?_
      refine wp_seq ?_
      refine wp_block ?_
      refine wp_seq ?_
      refine from_start ?_
      obtain ⟨gA, oA, rfl, _⟩ := hr.some_at (Nat.lt_of_le_of_lt (Nat.zero_le _) (show k < n from by omega)) (by decide)
      refine from_yl (S := fun wS => Mem w wS _) HF HM (i := 0) rfl rfl (d := 29) rfl (by decide) (v := .pointer (some ⟨gA, oA + k * 1, none⟩)) ((Yl.indexAddr (ad := ⟨gA, oA, none⟩) (y := k) (sz := 1) rfl rfl rfl (by omega) (by kernel_rfl)).as (by rw [Addr.add_mid])) ?_; clear HF; intro a HF
      refine from_yl (S := fun wS => Mem w wS _) HF HM (i := 1) rfl rfl (d := 30) rfl (by decide) (v := .slice ((ps.getD k (⟨none, 0, []⟩ : Part)).A) ((ps.getD k (⟨none, 0, []⟩ : Part)).l.length) ((ps.getD k (⟨none, 0, []⟩ : Part)).c)) (Yl.load1 rfl rfl (by kernel_rfl) (fun _ h => (h.old hr).oneAt1 (k := k) (map_at (F := Part.val) (k := k) (x := (ps.getD k (⟨none, 0, []⟩ : Part))) ((getD_at (⟨none, 0, []⟩ : Part) (k := k) (by first | omega | (simp; omega))))))) ?_; clear HF; intro a HF
      refine from_pures HF 1 2 (j := 3) [(8, .slice ((ps.getD k (⟨none, 0, []⟩ : Part)).A) ((ps.getD k (⟨none, 0, []⟩ : Part)).l.length) ((ps.getD k (⟨none, 0, []⟩ : Part)).c))] (by kernel_rfl) rfl ?_; clear HF; intro a HF
      refine from_done rfl ?_
      replace HF := HF.sub (σ' := [(8, .slice ((ps.getD k (⟨none, 0, []⟩ : Part)).A) ((ps.getD k (⟨none, 0, []⟩ : Part)).l.length) ((ps.getD k (⟨none, 0, []⟩ : Part)).c)), (28, .bool true), (27, .int .i64 (k : Int)), (26, .int .i64 ((n : Nat) : Int)), (25, .slice (some ⟨gA, oA, none⟩) n c), (6, .slice Ak (((ps.take k).flatMap (·.l)).length) ck), (12, .bool false), (11, .int .i64 (n : Int)), (10, .int .i64 ((n : Nat) : Int)), (9, .slice (some ⟨gA, oA, none⟩) n c), (3, .int .i64 (((ps.take n).flatMap (·.l)).length : Int)), (2, .slice none 0 0), (0, .slice (some ⟨gA, oA, none⟩) n c)]) (by kernel_rfl)
      refine from_start ?_
      refine from_pures HF 2 0 (j := 2) [(32, .slice ((ps.getD k (⟨none, 0, []⟩ : Part)).A) ((ps.getD k (⟨none, 0, []⟩ : Part)).l.length) ((ps.getD k (⟨none, 0, []⟩ : Part)).c)), (31, .slice Ak (((ps.take k).flatMap (·.l)).length) ck)] (by kernel_rfl) rfl ?_; clear HF; intro a HF
      refine from_op HF (i := 2) rfl rfl ?_
      refine e_append HF HM (i := 0) rfl ei_u8 rfl rfl rfl (news := ((ps.getD k (⟨none, 0, []⟩ : Part)).l.map B8)) (HM.old (hps _ (getD_mem _ (by omega)))) (one_B8 _) (by have := parts_le (l := ps) (k + 1); rw [parts_snoc (d := (⟨none, 0, []⟩ : Part)) (by omega), List.length_append] at this; omega) (by have := parts_le (l := ps) (k + 1); rw [parts_snoc (d := (⟨none, 0, []⟩ : Part)) (by omega), List.length_append] at this; omega) rfl (by decide) ?_
      clear HF HM; intro a w33 A33 c33 HF HM hc33
      refine from_pures HF 1 3 (j := 4) [(6, .slice A33 (((ps.take k).flatMap (·.l)).length + (ps.getD k (⟨none, 0, []⟩ : Part)).l.length) c33)] (by kernel_rfl) rfl ?_; clear HF; intro a HF
      refine from_done rfl ?_
      replace HF := HF.sub (σ' := [(6, .slice A33 (((ps.take k).flatMap (·.l)).length + (ps.getD k (⟨none, 0, []⟩ : Part)).l.length) c33), (8, .slice ((ps.getD k (⟨none, 0, []⟩ : Part)).A) ((ps.getD k (⟨none, 0, []⟩ : Part)).l.length) ((ps.getD k (⟨none, 0, []⟩ : Part)).c)), (28, .bool true), (27, .int .i64 (k : Int)), (26, .int .i64 ((n : Nat) : Int)), (25, .slice (some ⟨gA, oA, none⟩) n c), (12, .bool false), (11, .int .i64 (n : Int)), (10, .int .i64 ((n : Nat) : Int)), (9, .slice (some ⟨gA, oA, none⟩) n c), (3, .int .i64 (((ps.take n).flatMap (·.l)).length : Int)), (2, .slice none 0 0), (0, .slice (some ⟨gA, oA, none⟩) n c)]) (by kernel_rfl)
      have hnA33 : ((ps.take k).flatMap (·.l)).length + (ps.getD k (⟨none, 0, []⟩ : Part)).l.length = ((ps.take (k + 1)).flatMap (·.l)).length := by rw [parts_snoc (d := (⟨none, 0, []⟩ : Part)) (by omega), List.length_append]
      replace HM := HM.reRow (i := 0) (ys := ((ps.take (k + 1)).flatMap (·.l)).map B8) rfl hnA33 (by rw [parts_snoc (d := (⟨none, 0, []⟩ : Part)) (by omega), List.map_append])
      rw [hnA33] at hc33
      replace HF := HF.as (t := 6) (u := .slice A33 (((ps.take (k + 1)).flatMap (·.l)).length) c33) rfl (by rw [hnA33])
      refine from_start ?_
      refine from_pures HF 1 0 (j := 1) [(34, .int .i64 (IntKind.i64.wrap ((k : Int) + 1)))] (by kernel_rfl) rfl ?_; clear HF; intro a HF
      replace HF := HF.as (t := 34) (u := .int .i64 ((k + 1 : Nat) : Int)) rfl (i64_nat (by omega) (by omega))
      refine from_pures HF 1 1 (j := 2) [(27, .int .i64 ((k + 1 : Nat) : Int))] (by kernel_rfl) rfl ?_; clear HF; intro a HF
      refine from_done rfl ?_
      replace HF := HF.sub (σ' := [(27, .int .i64 ((k + 1 : Nat) : Int)), (6, .slice A33 (((ps.take (k + 1)).flatMap (·.l)).length) c33), (8, .slice ((ps.getD k (⟨none, 0, []⟩ : Part)).A) ((ps.getD k (⟨none, 0, []⟩ : Part)).l.length) ((ps.getD k (⟨none, 0, []⟩ : Part)).c)), (28, .bool true), (26, .int .i64 ((n : Nat) : Int)), (25, .slice (some ⟨gA, oA, none⟩) n c), (12, .bool false), (11, .int .i64 (n : Int)), (10, .int .i64 ((n : Nat) : Int)), (9, .slice (some ⟨gA, oA, none⟩) n c), (3, .int .i64 (((ps.take n).flatMap (·.l)).length : Int)), (2, .slice none 0 0), (0, .slice (some ⟨gA, oA, none⟩) n c)]) (by kernel_rfl)
      exact ⟨_, (by omega), k + 1, A33, c33, by omega, hc33, rfl, HF.sub (by kernel_rfl), HM.picks [0] (by decide) rfl⟩
    · have HF := HF.as (t := 28) (u := .bool false) rfl (by rw [hb28])
      have hd28 := of_decide_eq_false hb28
      obtain rfl : n = k := by omega
      refine cond_false HF rfl ?_
      refine wp_exit ?_
      refine wp_seq ?_
      refine from_start ?_
      refine from_pures HF 2 0 (j := 2) [(2, .slice Ak (((ps.take n).flatMap (·.l)).length) ck), (35, .slice Ak (((ps.take n).flatMap (·.l)).length) ck)] (by kernel_rfl) rfl ?_; clear HF; intro a HF
      refine from_done rfl ?_
      replace HF := HF.sub (σ' := [(2, .slice Ak (((ps.take n).flatMap (·.l)).length) ck), (28, .bool false), (27, .int .i64 (n : Int)), (26, .int .i64 ((n : Nat) : Int)), (25, .slice A n c), (6, .slice Ak (((ps.take n).flatMap (·.l)).length) ck), (12, .bool false), (11, .int .i64 (n : Int)), (10, .int .i64 ((n : Nat) : Int)), (9, .slice A n c), (3, .int .i64 (((ps.take n).flatMap (·.l)).length : Int)), (0, .slice A n c)]) (by kernel_rfl)
      refine wp_ret ?_
      exact ret1 rfl HF (.tmp HF rfl) (bytesOne_row (HM.own (i := 0) rfl) hck (by rw [List.take_of_length_le (by omega)]) (by rw [List.take_of_length_le (by omega)]) HM.below)
theorem take_eq_snoc {a b : List Ev} {k : Nat} (h : a.take k = b.take k) (ha : k < a.length) (hb : k < b.length) (he : a.getD k Ev.zero = b.getD k Ev.zero) : a.take (k + 1) = b.take (k + 1) := by
  rw [List.take_add_one, List.take_add_one, getD_at Ev.zero ha, getD_at Ev.zero hb, h, he]
theorem take_all_eq {a b : List Ev} {k : Nat} (h : a.take k = b.take k) (ha : a.length ≤ k) (hb : b.length ≤ k) : a = b := by
  rwa [List.take_of_length_le ha, List.take_of_length_le hb] at h
set_option maxRecDepth 100000 in
set_option maxHeartbeats 4000000 in
theorem equal_any (A A2 : Option Addr) (n m c c2 : Nat) (es gs : List Ev) (w : World) (hr : Rd w w.heap.size 11 A n (es.flatMap evL)) (hr2 : Rd w w.heap.size 11 A2 m (gs.flatMap evL)) (hla : es.length = n) (hlb : gs.length = m) (hn : n ≤ 1000000000000) :
    Calls Tryd.prog 37 #[.slice A n c, .slice A2 m c2] w (Is w (.bool (decide (es = gs)))) := by
  refine calls_enter (vs := [.slice A n c, .slice A2 m c2]) Tryd.func37 rfl rfl (by kernel_rfl) (σ0 := [(0, .slice A n c), (1, .slice A2 m c2)]) rfl ?_
  intro a HF
  have HM := Mem.start w
  refine wp_seq ?_
  refine from_start ?_
  refine from_pures HF 1 0 (j := 1) [(4, .bool false)] (by kernel_rfl) rfl ?_; clear HF; intro a HF
  refine from_done rfl ?_
  refine wp_seq ?_
  refine wp_seq ?_
  refine from_start ?_
  refine from_pures HF 1 0 (j := 1) [(6, .slice A n c)] (by kernel_rfl) rfl ?_; clear HF; intro a HF
  refine from_yl (S := fun wS => Mem w wS _) HF HM (i := 1) rfl rfl (d := 7) rfl (by decide) (v := .int .i64 ((n : Nat) : Int)) (Yl.len rfl rfl (by kernel_rfl)) ?_; clear HF; intro a HF
  refine from_pures HF 1 2 (j := 3) [(8, .slice A2 m c2)] (by kernel_rfl) rfl ?_; clear HF; intro a HF
  refine from_yl (S := fun wS => Mem w wS _) HF HM (i := 3) rfl rfl (d := 9) rfl (by decide) (v := .int .i64 ((m : Nat) : Int)) (Yl.len rfl rfl (by kernel_rfl)) ?_; clear HF; intro a HF
  refine from_pures HF 1 4 (j := 5) [(10, .bool ((((n : Nat) : Int) : Int) != (((m : Nat) : Int) : Int)))] (by kernel_rfl) rfl ?_; clear HF; intro a HF
  refine from_done rfl ?_
  replace HF := HF.sub (σ' := [(10, .bool ((((n : Nat) : Int) : Int) != (((m : Nat) : Int) : Int))), (4, .bool false), (0, .slice A n c), (1, .slice A2 m c2)]) (by kernel_rfl)
  rcases Bool.eq_false_or_eq_true ((((n : Nat) : Int) : Int) != (((m : Nat) : Int) : Int)) with hb10 | hb10
  · have HF := HF.as (t := 10) (u := .bool true) rfl (by rw [hb10])
    have hd10 := bne_iff_ne.1 hb10
    refine cond_true HF rfl ?_
    refine wp_seq ?_
    refine from_start ?_
    refine from_pures HF 1 0 (j := 1) [(4, .bool false)] (by kernel_rfl) rfl ?_; clear HF; intro a HF
    refine from_done rfl ?_
    replace HF := HF.sub (σ' := [(4, .bool false), (10, .bool true), (0, .slice A n c), (1, .slice A2 m c2)]) (by kernel_rfl)
    refine wp_ret ?_
    exact ret1 rfl HF (.tmp HF rfl) (⟨by rw [decide_eq_false (fun h => by rw [h] at hla; omega)], HM.below⟩)
  · have HF := HF.as (t := 10) (u := .bool false) rfl (by rw [hb10])
    have hd10 := bne_eq_false_iff_eq.1 hb10
    refine cond_false HF rfl ?_
    refine wp_skip ?_
    refine wp_seq ?_
    refine wp_seq ?_
    refine from_start ?_
    refine from_pures HF 1 0 (j := 1) [(11, .slice A n c)] (by kernel_rfl) rfl ?_; clear HF; intro a HF
    refine from_yl (S := fun wS => Mem w wS _) HF HM (i := 1) rfl rfl (d := 12) rfl (by decide) (v := .int .i64 ((n : Nat) : Int)) (Yl.len rfl rfl (by kernel_rfl)) ?_; clear HF; intro a HF
    refine from_pures HF 1 2 (j := 3) [(13, .int .i64 0)] (by kernel_rfl) rfl ?_; clear HF; intro a HF
    refine from_done rfl ?_
    replace HF := HF.sub (σ' := [(13, .int .i64 0), (12, .int .i64 ((n : Nat) : Int)), (10, .bool false), (4, .bool false), (0, .slice A n c), (1, .slice A2 m c2)]) (by kernel_rfl)
    refine wp_block ?_
    refine loop_nat (fun mS aS wS => ∃ (k : Nat), (k ≤ n) ∧ (es.take k = gs.take k) ∧ mS = n - k ∧ Fr aS 26 [] [(13, .int .i64 (k : Int)), (12, .int .i64 ((n : Nat) : Int)), (10, .bool false), (4, .bool false), (0, .slice A n c), (1, .slice A2 m c2)] ∧ Mem w wS []) (m := n - 0) ⟨0, Nat.zero_le _, rfl, rfl, HF.sub (by kernel_rfl), HM.picks [] (by decide) rfl⟩ ?_
    clear HF HM; rintro mS a w_ ⟨k, hk, heq, rfl, HF, HM⟩
    refine wp_seq ?_
    refine from_start ?_
    refine from_pures HF 1 0 (j := 1) [(14, .bool (decide (((k : Int) : Int) < (((n : Nat) : Int) : Int))))] (by kernel_rfl) rfl ?_; clear HF; intro a HF
    refine from_done rfl ?_
    refine wp_seq ?_
    rcases Bool.eq_false_or_eq_true (decide (((k : Int) : Int) < (((n : Nat) : Int) : Int))) with hb14 | hb14
    · have HF := HF.as (t := 14) (u := .bool true) rfl (by rw [hb14])
      have hd14 := of_decide_eq_true hb14
      have hk14 : k < n := by omega
      refine cond_true HF rfl ?_
      refine wp_skip ?_
      refine wp_seq ?_
      refine wp_block ?_
      refine wp_seq ?_
      refine from_start ?_
      refine from_pures HF 2 0 (j := 2) [(5, .int .i64 (k : Int)), (15, .int .i64 (k : Int))] (by kernel_rfl) rfl ?_; clear HF; intro a HF
      refine from_done rfl ?_
      replace HF := HF.sub (σ' := [(5, .int .i64 (k : Int)), (14, .bool true), (13, .int .i64 (k : Int)), (12, .int .i64 ((n : Nat) : Int)), (10, .bool false), (4, .bool false), (0, .slice A n c), (1, .slice A2 m c2)]) (by kernel_rfl)
      refine wp_seq ?_
      refine any_start (by kernel_rfl) (fun wS => Mem w wS []) [] ?_
      replace HM := HM.drew
      have HS := HM.picks (fs' := []) [] (by decide) rfl
      refine any_pures HF (fun _ => HS) (fun _ _ d _ _ h => by cases d <;> exact h) [0, 1, 4, 5] #[true, true, false, false, true, true, false, false, false] [(21, .int .i64 (k : Int)), (20, .slice A2 m c2), (17, .int .i64 (k : Int)), (16, .slice A n c)] (by kernel_rfl) ?_; clear HF; intro a HF
      obtain ⟨gA, oA, rfl, _⟩ := hr.some_at (Nat.lt_of_le_of_lt (Nat.zero_le _) (show k < n from by omega)) (by decide)
      refine any_yl HF HS (i := 2) rfl rfl (d := 18) rfl (by decide) (by kernel_rfl) (fun _ _ _ h => h) (v := .pointer (some ⟨gA, oA + k * 11, none⟩)) ((Yl.indexAddr (ad := ⟨gA, oA, none⟩) (y := k) (sz := 11) rfl rfl rfl (by omega) (by kernel_rfl)).as (by rw [Addr.add_mid])) ?_; clear HF; intro a HF
      refine any_yl HF HS (i := 3) rfl rfl (d := 19) rfl (by decide) (by kernel_rfl) (fun _ _ _ h => h) (v := .agg ((es.getD k Ev.zero).cells)) (Yl.loadS rfl rfl ⟨(by kernel_rfl), (by kernel_rfl)⟩ rfl (fun _ h => (h.old hr).structAt evL_len ((getD_at Ev.zero (k := k) (by first | omega | (simp; omega)))))) ?_; clear HF; intro a HF
      obtain ⟨gA2, oA2, rfl, _⟩ := hr2.some_at (Nat.lt_of_le_of_lt (Nat.zero_le _) (show k < m from by omega)) (by decide)
      refine any_yl HF HS (i := 6) rfl rfl (d := 22) rfl (by decide) (by kernel_rfl) (fun _ _ _ h => h) (v := .pointer (some ⟨gA2, oA2 + k * 11, none⟩)) ((Yl.indexAddr (ad := ⟨gA2, oA2, none⟩) (y := k) (sz := 11) rfl rfl rfl (by omega) (by kernel_rfl)).as (by rw [Addr.add_mid])) ?_; clear HF; intro a HF
      refine any_yl HF HS (i := 7) rfl rfl (d := 23) rfl (by decide) (by kernel_rfl) (fun _ _ _ h => h) (v := .agg ((gs.getD k Ev.zero).cells)) (Yl.loadS rfl rfl ⟨(by kernel_rfl), (by kernel_rfl)⟩ rfl (fun _ h => (h.old hr2).structAt evL_len ((getD_at Ev.zero (k := k) (by first | omega | (simp; omega)))))) ?_; clear HF; intro a HF
      refine any_yl HF HS (i := 8) rfl rfl (d := 24) rfl (by decide) (by kernel_rfl) (fun _ _ _ h => h) (v := .bool (!(decide ((es.getD k Ev.zero) = (gs.getD k Ev.zero))))) (Yl.neqEv (x := (es.getD k Ev.zero)) (y := (gs.getD k Ev.zero)) rfl rfl rfl (by kernel_rfl)) ?_; clear HF; intro a HF
      refine any_done (by kernel_rfl) ?_
      replace HF := HF.sub (σ' := [(24, .bool (!(decide ((es.getD k Ev.zero) = (gs.getD k Ev.zero))))), (5, .int .i64 (k : Int)), (14, .bool true), (13, .int .i64 (k : Int)), (12, .int .i64 ((n : Nat) : Int)), (10, .bool false), (4, .bool false), (0, .slice (some ⟨gA, oA, none⟩) n c), (1, .slice (some ⟨gA2, oA2, none⟩) m c2)]) (by kernel_rfl)
      rcases Bool.eq_false_or_eq_true (!(decide ((es.getD k Ev.zero) = (gs.getD k Ev.zero)))) with hb24 | hb24
      · have HF := HF.as (t := 24) (u := .bool true) rfl (by rw [hb24])
        refine cond_true HF rfl ?_
        refine wp_seq ?_
        refine from_start ?_
        refine from_pures HF 1 0 (j := 1) [(4, .bool false)] (by kernel_rfl) rfl ?_; clear HF; intro a HF
        refine from_done rfl ?_
        replace HF := HF.sub (σ' := [(4, .bool false), (24, .bool true), (5, .int .i64 (k : Int)), (14, .bool true), (13, .int .i64 (k : Int)), (12, .int .i64 ((n : Nat) : Int)), (10, .bool false), (0, .slice (some ⟨gA, oA, none⟩) n c), (1, .slice (some ⟨gA2, oA2, none⟩) m c2)]) (by kernel_rfl)
        refine wp_ret ?_
        exact ret1 rfl HF (.tmp HF rfl) (⟨by rw [decide_eq_false (fun h => by rw [h] at hb24; simp at hb24)], HM.below⟩)
      · have HF := HF.as (t := 24) (u := .bool false) rfl (by rw [hb24])
        refine cond_false HF rfl ?_
        refine wp_skip ?_
        refine from_start ?_
        refine from_pures HF 1 0 (j := 1) [(25, .int .i64 (IntKind.i64.wrap ((k : Int) + 1)))] (by kernel_rfl) rfl ?_; clear HF; intro a HF
        replace HF := HF.as (t := 25) (u := .int .i64 ((k + 1 : Nat) : Int)) rfl (i64_nat (by omega) (by omega))
        refine from_pures HF 1 1 (j := 2) [(13, .int .i64 ((k + 1 : Nat) : Int))] (by kernel_rfl) rfl ?_; clear HF; intro a HF
        refine from_done rfl ?_
        replace HF := HF.sub (σ' := [(13, .int .i64 ((k + 1 : Nat) : Int)), (24, .bool false), (5, .int .i64 (k : Int)), (14, .bool true), (12, .int .i64 ((n : Nat) : Int)), (10, .bool false), (4, .bool false), (0, .slice (some ⟨gA, oA, none⟩) n c), (1, .slice (some ⟨gA2, oA2, none⟩) m c2)]) (by kernel_rfl)
        exact ⟨_, (by omega), k + 1, by omega, take_eq_snoc heq (by omega) (by omega) (by simpa using hb24), rfl, HF.sub (by kernel_rfl), HM.picks [] (by decide) rfl⟩
    · have HF := HF.as (t := 14) (u := .bool false) rfl (by rw [hb14])
      have hd14 := of_decide_eq_false hb14
      have hkn : k = n := by omega
      refine cond_false HF rfl ?_
      refine wp_exit ?_
      refine wp_seq ?_
      refine from_start ?_
      refine from_pures HF 1 0 (j := 1) [(4, .bool true)] (by kernel_rfl) rfl ?_; clear HF; intro a HF
      refine from_done rfl ?_
      replace HF := HF.sub (σ' := [(4, .bool true), (14, .bool false), (13, .int .i64 (k : Int)), (12, .int .i64 ((n : Nat) : Int)), (10, .bool false), (0, .slice A n c), (1, .slice A2 m c2)]) (by kernel_rfl)
      refine wp_ret ?_
      exact ret1 rfl HF (.tmp HF rfl) (⟨by rw [decide_eq_true (take_all_eq heq (by omega) (by omega))], HM.below⟩)
end Go.Proofs.YtjpielapplglmaaDoor

/- The checksum: the walks. -/
set_option linter.all false
namespace Go.Proofs.YtjpielapplglmaaDoor
open Go.RowKit
set_option maxRecDepth 100000 in
set_option maxHeartbeats 4000000 in
theorem crcrun_any (c : Nat) (hc : c < 4294967296) (A : Option Addr) (n cp : Nat) (l : List Nat) (B : Nat) (w : World) (hL : LaidX B w) (hB : B ≤ w.heap.size) (hr : Rd w w.heap.size 1 A n (l.map B8)) (hln : l.length = n) (hn : n ≤ 140737488355328) (hl : ∀ b ∈ l, b < 256) :
    Calls Tryd.prog 92 #[.int .u32 (c : Int), .slice A n cp] w (Is w (.int .u32 (crcRun c l : Int))) := by
  refine calls_enter (vs := [.int .u32 (c : Int), .slice A n cp]) Tryd.func92 rfl rfl (by kernel_rfl) (σ0 := [(0, .int .u32 (c : Int)), (1, .slice A n cp)]) rfl ?_
  intro a HF
  have HM := Mem.start w
  refine wp_seq ?_
  refine from_start ?_
  refine from_pures HF 1 0 (j := 1) [(4, .int .u32 0)] (by kernel_rfl) rfl ?_; clear HF; intro a HF
  refine from_done rfl ?_
  refine wp_seq ?_
  refine wp_seq ?_
  refine from_start ?_
  refine from_pures HF 1 0 (j := 1) [(7, .slice A n cp)] (by kernel_rfl) rfl ?_; clear HF; intro a HF
  refine from_yl (S := fun wS => Mem w wS _) HF HM (i := 1) rfl rfl (d := 8) rfl (by decide) (v := .int .i64 ((n : Nat) : Int)) (Yl.len rfl rfl (by kernel_rfl)) ?_; clear HF; intro a HF
  refine from_pures HF 1 2 (j := 3) [(9, .int .i64 0)] (by kernel_rfl) rfl ?_; clear HF; intro a HF
  refine from_done rfl ?_
  replace HF := HF.sub (σ' := [(9, .int .i64 0), (8, .int .i64 ((n : Nat) : Int)), (7, .slice A n cp), (4, .int .u32 0), (0, .int .u32 (c : Int))]) (by kernel_rfl)
  refine wp_block ?_
  refine loop_nat (fun mS aS wS => ∃ (k : Nat), (k ≤ n) ∧ mS = n - k ∧ Fr aS 33 [] [(9, .int .i64 (k : Int)), (8, .int .i64 ((n : Nat) : Int)), (7, .slice A n cp), (4, .int .u32 0), (0, .int .u32 (crcRun c (l.take k) : Int))] ∧ Mem w wS []) (m := n - 0) ⟨0, Nat.zero_le _, rfl, HF.sub (by kernel_rfl), HM.picks [] (by decide) rfl⟩ ?_
  clear HF HM; rintro mS a w_ ⟨k, hk, rfl, HF, HM⟩
  have hcr := crcRun_lt (l.take k) hc (take_lt hl k)
  refine wp_seq ?_
  refine from_start ?_
  refine from_pures HF 1 0 (j := 1) [(10, .bool (decide (((k : Int) : Int) < (((n : Nat) : Int) : Int))))] (by kernel_rfl) rfl ?_; clear HF; intro a HF
  refine from_done rfl ?_
  refine wp_seq ?_
  rcases Bool.eq_false_or_eq_true (decide (((k : Int) : Int) < (((n : Nat) : Int) : Int))) with hb10 | hb10
  · have HF := HF.as (t := 10) (u := .bool true) rfl (by rw [hb10])
    have hd10 := of_decide_eq_true hb10
    refine cond_true HF rfl ?_
    refine wp_skip ?_
    refine wp_seq ?_
    refine wp_block ?_
    refine wp_seq ?_
    refine from_start ?_
    obtain ⟨gA, oA, rfl, _⟩ := hr.some_at (Nat.lt_of_le_of_lt (Nat.zero_le _) (show k < n from by omega)) (by decide)
    refine from_yl (S := fun wS => Mem w wS _) HF HM (i := 0) rfl rfl (d := 11) rfl (by decide) (v := .pointer (some ⟨gA, oA + k * 1, none⟩)) ((Yl.indexAddr (ad := ⟨gA, oA, none⟩) (y := k) (sz := 1) rfl rfl rfl (by omega) (by kernel_rfl)).as (by rw [Addr.add_mid])) ?_; clear HF; intro a HF
    have hx35 := getD_lt hl (k := k) (by first | omega | (simp; omega))
    refine from_yl (S := fun wS => Mem w wS _) HF HM (i := 1) rfl rfl (d := 12) rfl (by decide) (v := .int .u8 ((l.getD k 0) : Int)) (Yl.load1 rfl rfl (by kernel_rfl) (fun _ h => (h.old hr).oneAt1 (k := k) (map_at (F := B8) (k := k) (x := (l.getD k 0)) ((getD_at 0 (k := k) (by first | omega | (simp; omega))))))) ?_; clear HF; intro a HF
    refine from_pures HF 1 2 (j := 3) [(6, .int .u8 ((l.getD k 0) : Int))] (by kernel_rfl) rfl ?_; clear HF; intro a HF
    refine from_done rfl ?_
    replace HF := HF.sub (σ' := [(6, .int .u8 ((l.getD k 0) : Int)), (10, .bool true), (9, .int .i64 (k : Int)), (8, .int .i64 ((n : Nat) : Int)), (7, .slice (some ⟨gA, oA, none⟩) n cp), (4, .int .u32 0), (0, .int .u32 (crcRun c (l.take k) : Int))]) (by kernel_rfl)
    refine wp_seq ?_
    refine from_start ?_
    refine from_pures HF 3 0 (j := 3) [(15, .int .u32 (IntKind.u32.wrap ((l.getD k 0) : Int))), (14, .int .u8 ((l.getD k 0) : Int)), (13, .int .u32 (crcRun c (l.take k) : Int))] (by kernel_rfl) rfl ?_; clear HF; intro a HF
    replace HF := HF.as (t := 15) (u := .int .u32 ((l.getD k 0) : Int)) rfl (u32_nat rfl (by omega))
    refine from_pures HF 1 3 (j := 4) [(16, .int .u32 (IntKind.u32.wrap (BitVec.ofInt (IntKind.u32).bits (crcRun c (l.take k) : Int) ^^^ BitVec.ofInt (IntKind.u32).bits ((l.getD k 0) : Int)).toNat))] (by kernel_rfl) rfl ?_; clear HF; intro a HF
    replace HF := HF.as (t := 16) (u := .int .u32 (((crcRun c (l.take k)) ^^^ (l.getD k 0) : Nat) : Int)) rfl (xor_u32 (m := crcRun c (l.take k)) (n := (l.getD k 0)) (by omega) (by omega))
    refine from_pures HF 1 4 (j := 5) [(0, .int .u32 (((crcRun c (l.take k)) ^^^ (l.getD k 0) : Nat) : Int))] (by kernel_rfl) rfl ?_; clear HF; intro a HF
    refine from_done rfl ?_
    replace HF := HF.sub (σ' := [(0, .int .u32 (((crcRun c (l.take k)) ^^^ (l.getD k 0) : Nat) : Int)), (6, .int .u8 ((l.getD k 0) : Int)), (10, .bool true), (9, .int .i64 (k : Int)), (8, .int .i64 ((n : Nat) : Int)), (7, .slice (some ⟨gA, oA, none⟩) n cp), (4, .int .u32 0)]) (by kernel_rfl)
    have hy := xor_lt32 hcr (show l.getD k 0 < 4294967296 by omega)
    refine wp_seq ?_
    refine from_start ?_
    refine from_pures HF 2 0 (j := 2) [(18, .int .u32 (Int.fdiv (((crcRun c (l.take k)) ^^^ (l.getD k 0) : Nat) : Int) (2 ^ (min (4 : Int).toNat (IntKind.u32).bits)))), (17, .int .u32 (((crcRun c (l.take k)) ^^^ (l.getD k 0) : Nat) : Int))] (by kernel_rfl) rfl ?_; clear HF; intro a HF
    replace HF := HF.as (t := 18) (u := .int .u32 ((((crcRun c (l.take k)) ^^^ (l.getD k 0)) / 16 : Nat) : Int)) rfl (fdiv_nat .u32 ((crcRun c (l.take k)) ^^^ (l.getD k 0)) (j := 4) (q := 16) rfl rfl)
    refine from_pures HF 2 2 (j := 4) [(20, .int .u32 (IntKind.u32.wrap (BitVec.ofInt (IntKind.u32).bits (((crcRun c (l.take k)) ^^^ (l.getD k 0) : Nat) : Int) &&& BitVec.ofInt (IntKind.u32).bits 15).toNat)), (19, .int .u32 (((crcRun c (l.take k)) ^^^ (l.getD k 0) : Nat) : Int))] (by kernel_rfl) rfl ?_; clear HF; intro a HF
    replace HF := HF.as (t := 20) (u := .int .u32 ((((crcRun c (l.take k)) ^^^ (l.getD k 0)) % 16 : Nat) : Int)) rfl (mask_u32 (n := 15) (j := 4) rfl (by decide) (by omega))
    refine from_yl (S := fun wS => Mem w wS _) HF HM (i := 4) rfl rfl (d := 21) rfl (by decide) (v := .pointer (some ⟨2, (((crcRun c (l.take k)) ^^^ (l.getD k 0)) % 16) * 1, none⟩)) ((Yl.indexAddrA (ad := ⟨2, 0, none⟩) (m := 16) (y := ((crcRun c (l.take k)) ^^^ (l.getD k 0)) % 16) (sz := 1) rfl rfl rfl (by kernel_rfl) (by omega)).as (by rw [Addr.add_mid, Nat.zero_add])) ?_; clear HF; intro a HF
    refine from_yl (S := fun wS => Mem w wS _) HF HM (i := 5) rfl rfl (d := 22) rfl (by decide) (v := .int .u32 (halvesL.getD (((crcRun c (l.take k)) ^^^ (l.getD k 0)) % 16) 0 : Int)) (Yl.load1 rfl rfl (by kernel_rfl) (fun _ h => halvesAt hL h hB (k := (((crcRun c (l.take k)) ^^^ (l.getD k 0)) % 16)) (by omega))) ?_; clear HF; intro a HF
    refine from_pures HF 1 6 (j := 7) [(23, .int .u32 (IntKind.u32.wrap (BitVec.ofInt (IntKind.u32).bits ((((crcRun c (l.take k)) ^^^ (l.getD k 0)) / 16 : Nat) : Int) ^^^ BitVec.ofInt (IntKind.u32).bits (halvesL.getD (((crcRun c (l.take k)) ^^^ (l.getD k 0)) % 16) 0 : Int)).toNat))] (by kernel_rfl) rfl ?_; clear HF; intro a HF
    replace HF := HF.as (t := 23) (u := .int .u32 (nib (crcRun c (l.take k) ^^^ l.getD k 0) : Int)) rfl (by have h := xor_u32 (m := (crcRun c (l.take k) ^^^ l.getD k 0) / 16) (n := halvesL.getD ((crcRun c (l.take k) ^^^ l.getD k 0) % 16) 0) (by omega) (halves_lt _ (by omega)); exact h)
    refine from_pures HF 1 7 (j := 8) [(0, .int .u32 (nib (crcRun c (l.take k) ^^^ l.getD k 0) : Int))] (by kernel_rfl) rfl ?_; clear HF; intro a HF
    refine from_done rfl ?_
    replace HF := HF.sub (σ' := [(0, .int .u32 (nib (crcRun c (l.take k) ^^^ l.getD k 0) : Int)), (6, .int .u8 ((l.getD k 0) : Int)), (10, .bool true), (9, .int .i64 (k : Int)), (8, .int .i64 ((n : Nat) : Int)), (7, .slice (some ⟨gA, oA, none⟩) n cp), (4, .int .u32 0)]) (by kernel_rfl)
    have hz := nib_lt hy
    refine from_start ?_
    refine from_pures HF 2 0 (j := 2) [(25, .int .u32 (Int.fdiv (nib (crcRun c (l.take k) ^^^ l.getD k 0) : Int) (2 ^ (min (4 : Int).toNat (IntKind.u32).bits)))), (24, .int .u32 (nib (crcRun c (l.take k) ^^^ l.getD k 0) : Int))] (by kernel_rfl) rfl ?_; clear HF; intro a HF
    replace HF := HF.as (t := 25) (u := .int .u32 (((nib (crcRun c (l.take k) ^^^ l.getD k 0)) / 16 : Nat) : Int)) rfl (fdiv_nat .u32 (nib (crcRun c (l.take k) ^^^ l.getD k 0)) (j := 4) (q := 16) rfl rfl)
    refine from_pures HF 2 2 (j := 4) [(27, .int .u32 (IntKind.u32.wrap (BitVec.ofInt (IntKind.u32).bits (nib (crcRun c (l.take k) ^^^ l.getD k 0) : Int) &&& BitVec.ofInt (IntKind.u32).bits 15).toNat)), (26, .int .u32 (nib (crcRun c (l.take k) ^^^ l.getD k 0) : Int))] (by kernel_rfl) rfl ?_; clear HF; intro a HF
    replace HF := HF.as (t := 27) (u := .int .u32 (((nib (crcRun c (l.take k) ^^^ l.getD k 0)) % 16 : Nat) : Int)) rfl (mask_u32 (n := 15) (j := 4) rfl (by decide) (by omega))
    refine from_yl (S := fun wS => Mem w wS _) HF HM (i := 4) rfl rfl (d := 28) rfl (by decide) (v := .pointer (some ⟨2, ((nib (crcRun c (l.take k) ^^^ l.getD k 0)) % 16) * 1, none⟩)) ((Yl.indexAddrA (ad := ⟨2, 0, none⟩) (m := 16) (y := (nib (crcRun c (l.take k) ^^^ l.getD k 0)) % 16) (sz := 1) rfl rfl rfl (by kernel_rfl) (by omega)).as (by rw [Addr.add_mid, Nat.zero_add])) ?_; clear HF; intro a HF
    refine from_yl (S := fun wS => Mem w wS _) HF HM (i := 5) rfl rfl (d := 29) rfl (by decide) (v := .int .u32 (halvesL.getD ((nib (crcRun c (l.take k) ^^^ l.getD k 0)) % 16) 0 : Int)) (Yl.load1 rfl rfl (by kernel_rfl) (fun _ h => halvesAt hL h hB (k := ((nib (crcRun c (l.take k) ^^^ l.getD k 0)) % 16)) (by omega))) ?_; clear HF; intro a HF
    refine from_pures HF 1 6 (j := 7) [(30, .int .u32 (IntKind.u32.wrap (BitVec.ofInt (IntKind.u32).bits (((nib (crcRun c (l.take k) ^^^ l.getD k 0)) / 16 : Nat) : Int) ^^^ BitVec.ofInt (IntKind.u32).bits (halvesL.getD ((nib (crcRun c (l.take k) ^^^ l.getD k 0)) % 16) 0 : Int)).toNat))] (by kernel_rfl) rfl ?_; clear HF; intro a HF
    replace HF := HF.as (t := 30) (u := .int .u32 (crcRun c (l.take (k + 1)) : Int)) rfl (by have h := xor_u32 (m := nib (crcRun c (l.take k) ^^^ l.getD k 0) / 16) (n := halvesL.getD (nib (crcRun c (l.take k) ^^^ l.getD k 0) % 16) 0) (by omega) (halves_lt _ (by omega)); rw [crcRun_take (by omega)]; exact h)
    refine from_pures HF 1 7 (j := 8) [(0, .int .u32 (crcRun c (l.take (k + 1)) : Int))] (by kernel_rfl) rfl ?_; clear HF; intro a HF
    refine from_done rfl ?_
    replace HF := HF.sub (σ' := [(0, .int .u32 (crcRun c (l.take (k + 1)) : Int)), (6, .int .u8 ((l.getD k 0) : Int)), (10, .bool true), (9, .int .i64 (k : Int)), (8, .int .i64 ((n : Nat) : Int)), (7, .slice (some ⟨gA, oA, none⟩) n cp), (4, .int .u32 0)]) (by kernel_rfl)
    refine from_start ?_
    refine from_pures HF 1 0 (j := 1) [(31, .int .i64 (IntKind.i64.wrap ((k : Int) + 1)))] (by kernel_rfl) rfl ?_; clear HF; intro a HF
    replace HF := HF.as (t := 31) (u := .int .i64 ((k + 1 : Nat) : Int)) rfl (i64_nat (by omega) (by omega))
    refine from_pures HF 1 1 (j := 2) [(9, .int .i64 ((k + 1 : Nat) : Int))] (by kernel_rfl) rfl ?_; clear HF; intro a HF
    refine from_done rfl ?_
    replace HF := HF.sub (σ' := [(9, .int .i64 ((k + 1 : Nat) : Int)), (0, .int .u32 (crcRun c (l.take (k + 1)) : Int)), (6, .int .u8 ((l.getD k 0) : Int)), (10, .bool true), (8, .int .i64 ((n : Nat) : Int)), (7, .slice (some ⟨gA, oA, none⟩) n cp), (4, .int .u32 0)]) (by kernel_rfl)
    exact ⟨_, (by omega), k + 1, by omega, rfl, HF.sub (by kernel_rfl), HM.picks [] (by decide) rfl⟩
  · have HF := HF.as (t := 10) (u := .bool false) rfl (by rw [hb10])
    have hd10 := of_decide_eq_false hb10
    obtain rfl : n = k := by omega
    refine cond_false HF rfl ?_
    refine wp_exit ?_
    refine wp_seq ?_
    refine from_start ?_
    refine from_pures HF 2 0 (j := 2) [(4, .int .u32 (crcRun c (l.take n) : Int)), (32, .int .u32 (crcRun c (l.take n) : Int))] (by kernel_rfl) rfl ?_; clear HF; intro a HF
    refine from_done rfl ?_
    replace HF := HF.sub (σ' := [(4, .int .u32 (crcRun c (l.take n) : Int)), (10, .bool false), (9, .int .i64 (n : Int)), (8, .int .i64 ((n : Nat) : Int)), (7, .slice A n cp), (0, .int .u32 (crcRun c (l.take n) : Int))]) (by kernel_rfl)
    refine wp_ret ?_
    exact ret1 rfl HF (.tmp HF rfl) (⟨by rw [List.take_of_length_le (by omega)], HM.below⟩)
set_option maxRecDepth 100000 in
set_option maxHeartbeats 4000000 in
theorem crcupd_any (c : Nat) (hc0 : c < 4294967296) (A : Option Addr) (n cp : Nat) (l : List Nat) (B : Nat) (w : World) (hL : LaidX B w) (hB : B ≤ w.heap.size) (hr : Rd w w.heap.size 1 A n (l.map B8)) (hln : l.length = n) (hn : n ≤ 140737488355328) (hl : ∀ b ∈ l, b < 256) :
    Calls Tryd.prog 78 #[.int .u32 (c : Int), .slice A n cp] w (Is w (.int .u32 ((crcRun (c ^^^ 4294967295) l ^^^ 4294967295 : Nat) : Int))) := by
  refine calls_enter (vs := [.int .u32 (c : Int), .slice A n cp]) Tryd.func78 rfl rfl (by kernel_rfl) (σ0 := [(0, .int .u32 (c : Int)), (1, .slice A n cp)]) rfl ?_
  intro a HF
  have HM := Mem.start w
  refine wp_seq ?_
  refine from_start ?_
  refine from_pures HF 1 0 (j := 1) [(4, .int .u32 0)] (by kernel_rfl) rfl ?_; clear HF; intro a HF
  refine from_done rfl ?_
  have hc := xor_lt32 hc0 (show 4294967295 < 4294967296 by decide)
  have hcr := crcRun_lt l hc hl
  refine wp_seq ?_
  refine from_start ?_
  refine from_pures HF 1 0 (j := 1) [(5, .int .u32 (c : Int))] (by kernel_rfl) rfl ?_; clear HF; intro a HF
  refine from_yl (S := fun wS => Mem w wS _) HF HM (i := 1) rfl rfl (d := 6) rfl (by decide) (v := .int .u32 ((c ^^^ 4294967295 : Nat) : Int)) (Yl.not32 (m := c) rfl rfl (by omega)) ?_; clear HF; intro a HF
  refine from_pures HF 1 2 (j := 3) [(7, .slice A n cp)] (by kernel_rfl) rfl ?_; clear HF; intro a HF
  refine from_op HF (i := 3) rfl rfl ?_
  refine e_call HF (vs := [.int .u32 ((c ^^^ 4294967295 : Nat) : Int), .slice A n cp]) rfl (by kernel_rfl) (by kernel_rfl) rfl (by decide) (crcrun_any _ hc _ _ _ l B _ (hL.mem HM hB) (HM.le hB) (HM.old hr) hln hn hl) ?_
  rintro _ w8 ⟨rfl, hbw⟩
  refine ⟨_, rfl, ?_⟩
  replace HM := HM.call hbw
  clear HF; intro a HF
  refine from_yl (S := fun wS => Mem w wS _) HF HM (i := 4) rfl rfl (d := 9) rfl (by decide) (v := .int .u32 (((crcRun (c ^^^ 4294967295) l) ^^^ 4294967295 : Nat) : Int)) (Yl.not32 (m := crcRun (c ^^^ 4294967295) l) rfl rfl (by omega)) ?_; clear HF; intro a HF
  refine from_pures HF 1 5 (j := 6) [(4, .int .u32 (((crcRun (c ^^^ 4294967295) l) ^^^ 4294967295 : Nat) : Int))] (by kernel_rfl) rfl ?_; clear HF; intro a HF
  refine from_done rfl ?_
  replace HF := HF.sub (σ' := [(4, .int .u32 (((crcRun (c ^^^ 4294967295) l) ^^^ 4294967295 : Nat) : Int))]) (by kernel_rfl)
  refine wp_ret ?_
  exact ret1 rfl HF (.tmp HF rfl) (⟨rfl, HM.below⟩)
set_option maxRecDepth 100000 in
set_option maxHeartbeats 4000000 in
theorem crcsum_any (A : Option Addr) (n cp : Nat) (l : List Nat) (B : Nat) (w : World) (hL : LaidX B w) (hB : B ≤ w.heap.size) (hr : Rd w w.heap.size 1 A n (l.map B8)) (hln : l.length = n) (hn : n ≤ 140737488355328) (hl : ∀ b ∈ l, b < 256) :
    Calls Tryd.prog 58 #[.slice A n cp] w (Is w (.int .u32 (crcSum l : Int))) := by
  refine calls_enter (vs := [.slice A n cp]) Tryd.func58 rfl rfl (by kernel_rfl) (σ0 := [(0, .slice A n cp)]) rfl ?_
  intro a HF
  have HM := Mem.start w
  refine wp_seq ?_
  refine from_start ?_
  refine from_pures HF 1 0 (j := 1) [(2, .int .u32 0)] (by kernel_rfl) rfl ?_; clear HF; intro a HF
  refine from_done rfl ?_
  refine wp_seq ?_
  refine from_start ?_
  refine from_pures HF 1 0 (j := 1) [(3, .slice A n cp)] (by kernel_rfl) rfl ?_; clear HF; intro a HF
  refine from_op HF (i := 1) rfl rfl ?_
  refine e_call HF (vs := [.int .u32 0, .slice A n cp]) rfl (by kernel_rfl) (by kernel_rfl) rfl (by decide) (crcupd_any 0 (by decide) _ _ _ l B _ (hL.mem HM hB) (HM.le hB) (HM.old hr) hln hn hl) ?_
  rintro _ w4 ⟨rfl, hbw⟩
  rw [show (crcRun (0 ^^^ 4294967295) l ^^^ 4294967295 : Nat) = crcSum l from xor_ones (crcRun_lt l (by decide) hl)]
  refine ⟨_, rfl, ?_⟩
  replace HM := HM.call hbw
  clear HF; intro a HF
  refine from_pures HF 1 2 (j := 3) [(2, .int .u32 (crcSum l : Int))] (by kernel_rfl) rfl ?_; clear HF; intro a HF
  refine from_done rfl ?_
  replace HF := HF.sub (σ' := [(2, .int .u32 (crcSum l : Int))]) (by kernel_rfl)
  refine wp_ret ?_
  exact ret1 rfl HF (.tmp HF rfl) (⟨rfl, HM.below⟩)
theorem seal_is {w w' : World} {l : List Nat} {n c : Nat} {A : Option Addr} (hln : l.length = n) (ho : w'.ownsRow w.heap.size 5 1 (.slice A (0 + n + 4) c) (0 + n + 4) ([] ++ l.map B8 ++ (le4 (crcSum l)).map B8)) (hc : 0 + n + 4 ≤ c) (hb : Below w.heap.size w w') : BytesIs w 0 (sealL l) (.returned (.tuple #[.slice A (0 + n + 4) c, .int .i64 0])) w' := by
  have e : 0 + n + 4 = (sealL l).length := by rw [seal_len]; omega
  rw [e] at ho hc ⊢
  refine ⟨⟨A, c, rfl, ?_, hc⟩, hb⟩
  have e2 : ([] ++ l.map B8 ++ (le4 (crcSum l)).map B8) = (sealL l).map B8 := by simp [sealL]
  rw [e2] at ho
  exact ho
set_option maxRecDepth 100000 in
set_option maxHeartbeats 4000000 in
theorem seal_any (A : Option Addr) (n cp : Nat) (l : List Nat) (B : Nat) (w : World) (hL : LaidX B w) (hB : B ≤ w.heap.size) (hr : Rd w w.heap.size 1 A n (l.map B8)) (hln : l.length = n) (hn : n ≤ 16777216) (hl : ∀ b ∈ l, b < 256) :
    Calls Tryd.prog 34 #[.slice A n cp] w (BytesIs w 0 (sealL l)) := by
  refine calls_enter (vs := [.slice A n cp]) Tryd.func34 rfl rfl (by kernel_rfl) (σ0 := [(0, .slice A n cp)]) rfl ?_
  intro a HF
  have HM := Mem.start w
  refine wp_seq ?_
  refine from_start ?_
  refine from_pures HF 2 0 (j := 2) [(3, .int .i64 0), (2, .slice none 0 0)] (by kernel_rfl) rfl ?_; clear HF; intro a HF
  refine from_done rfl ?_
  refine wp_seq ?_
  refine wp_seq ?_
  refine from_start ?_
  refine from_pures HF 1 0 (j := 1) [(6, .slice A n cp)] (by kernel_rfl) rfl ?_; clear HF; intro a HF
  refine from_yl (S := fun wS => Mem w wS _) HF HM (i := 1) rfl rfl (d := 7) rfl (by decide) (v := .int .i64 ((n : Nat) : Int)) (Yl.len rfl rfl (by kernel_rfl)) ?_; clear HF; intro a HF
  refine from_pures HF 1 2 (j := 3) [(8, .bool (decide ((((n : Nat) : Int) : Int) > (16777216 : Int))))] (by kernel_rfl) rfl ?_; clear HF; intro a HF
  refine from_done rfl ?_
  replace HF := HF.sub (σ' := [(8, .bool (decide ((((n : Nat) : Int) : Int) > (16777216 : Int)))), (3, .int .i64 0), (2, .slice none 0 0), (0, .slice A n cp)]) (by kernel_rfl)
  rcases Bool.eq_false_or_eq_true (decide ((((n : Nat) : Int) : Int) > (16777216 : Int))) with hb8 | hb8
  · have HF := HF.as (t := 8) (u := .bool true) rfl (by rw [hb8])
    have hd8 := of_decide_eq_true hb8
    omega
  · have HF := HF.as (t := 8) (u := .bool false) rfl (by rw [hb8])
    have hd8 := of_decide_eq_false hb8
    refine cond_false HF rfl ?_
    refine wp_skip ?_
    refine wp_seq ?_
    refine from_start ?_
    refine from_pures HF 1 0 (j := 1) [(9, .slice A n cp)] (by kernel_rfl) rfl ?_; clear HF; intro a HF
    refine from_op HF (i := 1) rfl rfl ?_
    refine e_call HF (vs := [.slice A n cp]) rfl (by kernel_rfl) (by kernel_rfl) rfl (by decide) (crcsum_any _ _ _ l B _ (hL.mem HM hB) (HM.le hB) (HM.old hr) (hln) (by omega) (hl)) ?_
    rintro _ w10 ⟨rfl, hbw⟩
    refine ⟨_, rfl, ?_⟩
    replace HM := HM.call hbw
    clear HF; intro a HF
    refine from_pures HF 1 2 (j := 3) [(4, .int .u32 (crcSum l : Int))] (by kernel_rfl) rfl ?_; clear HF; intro a HF
    refine from_done rfl ?_
    replace HF := HF.sub (σ' := [(4, .int .u32 (crcSum l : Int)), (8, .bool false), (3, .int .i64 0), (2, .slice none 0 0), (0, .slice A n cp)]) (by kernel_rfl)
    have hcs := crcSum_lt l
    refine wp_seq ?_
    refine from_start ?_
    refine from_pures HF 1 0 (j := 1) [(11, .slice A n cp)] (by kernel_rfl) rfl ?_; clear HF; intro a HF
    refine from_yl (S := fun wS => Mem w wS _) HF HM (i := 1) rfl rfl (d := 12) rfl (by decide) (v := .int .i64 ((n : Nat) : Int)) (Yl.len rfl rfl (by kernel_rfl)) ?_; clear HF; intro a HF
    refine from_pures HF 1 2 (j := 3) [(13, .int .i64 (IntKind.i64.wrap (((n : Nat) : Int) + 4)))] (by kernel_rfl) rfl ?_; clear HF; intro a HF
    replace HF := HF.as (t := 13) (u := .int .i64 ((n + 4 : Nat) : Int)) rfl (i64_nat (by omega) (by omega))
    refine from_op HF (i := 3) rfl rfl ?_
    refine e_make0 HF HM (m := (n + 4)) rfl ei_u8 rfl rfl (by omega) (by omega) rfl (by decide) ?_
    clear HF HM; intro a w14 g14 HF HM
    refine from_pures HF 1 4 (j := 5) [(15, .slice A n cp)] (by kernel_rfl) rfl ?_; clear HF; intro a HF
    refine from_op HF (i := 5) rfl rfl ?_
    refine e_append HF HM (i := 0) rfl ei_u8 rfl rfl rfl (news := (l.map B8)) (HM.old hr) (one_B8 _) (by omega) (by omega) rfl (by decide) ?_
    clear HF HM; intro a w16 A16 c16 HF HM hc16
    refine from_pures HF 1 6 (j := 7) [(5, .slice A16 (0 + n) c16)] (by kernel_rfl) rfl ?_; clear HF; intro a HF
    refine from_done rfl ?_
    replace HF := HF.sub (σ' := [(5, .slice A16 (0 + n) c16), (4, .int .u32 (crcSum l : Int)), (8, .bool false), (3, .int .i64 0), (2, .slice none 0 0), (0, .slice A n cp)]) (by kernel_rfl)
    refine wp_seq ?_
    refine from_start ?_
    refine from_pures HF 3 0 (j := 3) [(19, .int .u8 (IntKind.u8.wrap (crcSum l : Int))), (18, .int .u32 (crcSum l : Int)), (17, .slice A16 (0 + n) c16)] (by kernel_rfl) rfl ?_; clear HF; intro a HF
    replace HF := HF.as (t := 19) (u := .int .u8 (((crcSum l) % 256 : Nat) : Int)) rfl (u8_mod (crcSum l))
    refine from_pures HF 2 3 (j := 5) [(21, .int .u32 (Int.fdiv (crcSum l : Int) (2 ^ (min (8 : Int).toNat (IntKind.u32).bits)))), (20, .int .u32 (crcSum l : Int))] (by kernel_rfl) rfl ?_; clear HF; intro a HF
    replace HF := HF.as (t := 21) (u := .int .u32 (((crcSum l) / 256 : Nat) : Int)) rfl (fdiv_nat .u32 (crcSum l) (j := 8) (q := 256) rfl rfl)
    refine from_pures HF 1 5 (j := 6) [(22, .int .u8 (IntKind.u8.wrap (((crcSum l) / 256 : Nat) : Int)))] (by kernel_rfl) rfl ?_; clear HF; intro a HF
    replace HF := HF.as (t := 22) (u := .int .u8 ((((crcSum l) / 256) % 256 : Nat) : Int)) rfl (u8_mod ((crcSum l) / 256))
    refine from_pures HF 2 6 (j := 8) [(24, .int .u32 (Int.fdiv (crcSum l : Int) (2 ^ (min (16 : Int).toNat (IntKind.u32).bits)))), (23, .int .u32 (crcSum l : Int))] (by kernel_rfl) rfl ?_; clear HF; intro a HF
    replace HF := HF.as (t := 24) (u := .int .u32 (((crcSum l) / 65536 : Nat) : Int)) rfl (fdiv_nat .u32 (crcSum l) (j := 16) (q := 65536) rfl rfl)
    refine from_pures HF 1 8 (j := 9) [(25, .int .u8 (IntKind.u8.wrap (((crcSum l) / 65536 : Nat) : Int)))] (by kernel_rfl) rfl ?_; clear HF; intro a HF
    replace HF := HF.as (t := 25) (u := .int .u8 ((((crcSum l) / 65536) % 256 : Nat) : Int)) rfl (u8_mod ((crcSum l) / 65536))
    refine from_pures HF 2 9 (j := 11) [(27, .int .u32 (Int.fdiv (crcSum l : Int) (2 ^ (min (24 : Int).toNat (IntKind.u32).bits)))), (26, .int .u32 (crcSum l : Int))] (by kernel_rfl) rfl ?_; clear HF; intro a HF
    replace HF := HF.as (t := 27) (u := .int .u32 (((crcSum l) / 16777216 : Nat) : Int)) rfl (fdiv_nat .u32 (crcSum l) (j := 24) (q := 16777216) rfl rfl)
    refine from_pures HF 1 11 (j := 12) [(28, .int .u8 (IntKind.u8.wrap (((crcSum l) / 16777216 : Nat) : Int)))] (by kernel_rfl) rfl ?_; clear HF; intro a HF
    replace HF := HF.as (t := 28) (u := .int .u8 ((((crcSum l) / 16777216) % 256 : Nat) : Int)) rfl (u8_mod ((crcSum l) / 16777216))
    refine from_op HF (i := 12) rfl rfl ?_
    refine e_slice HF HM (vs := [(0, .int .u8 (((crcSum l) % 256 : Nat) : Int)), (1, .int .u8 ((((crcSum l) / 256) % 256 : Nat) : Int)), (2, .int .u8 ((((crcSum l) / 65536) % 256 : Nat) : Int)), (3, .int .u8 ((((crcSum l) / 16777216) % 256 : Nat) : Int))]) (cs := #[.int .u8 (((crcSum l) % 256 : Nat) : Int), .int .u8 ((((crcSum l) / 256) % 256 : Nat) : Int), .int .u8 ((((crcSum l) / 65536) % 256 : Nat) : Int), .int .u8 ((((crcSum l) / 16777216) % 256 : Nat) : Int)]) rfl ei_u8 (by decide) rfl (by kernel_rfl) rfl (by decide) ?_
    clear HF HM; intro a w29 g29 HF HM
    refine from_op HF (i := 13) rfl rfl ?_
    refine e_append HF HM (i := 1) rfl ei_u8 rfl rfl rfl (news := ((le4 (crcSum l)).map B8)) (HM.rdBlk (i := 0) (n := 4) (size := 1) rfl rfl) (one_B8 _) (by omega) (by omega) rfl (by decide) ?_
    clear HF HM; intro a w30 A30 c30 HF HM hc30
    refine from_pures HF 2 14 (j := 16) [(3, .int .i64 0), (2, .slice A30 (0 + n + 4) c30)] (by kernel_rfl) rfl ?_; clear HF; intro a HF
    refine from_done rfl ?_
    replace HF := HF.sub (σ' := [(3, .int .i64 0), (2, .slice A30 (0 + n + 4) c30), (8, .bool false), (0, .slice A n cp)]) (by kernel_rfl)
    replace HM := HM.picks (fs' := [.row (.slice A30 (0 + n + 4) c30) (0 + n + 4) (([] ++ (l.map B8)) ++ ((le4 (crcSum l)).map B8)) 5 1]) [1] (by decide) rfl
    refine wp_ret ?_
    exact ret2 rfl HF (.tmp HF rfl) (.tmp HF rfl) (seal_is hln (HM.own (i := 0) rfl) hc30 HM.below)
end Go.Proofs.YtjpielapplglmaaDoor

/- Sealed bytes, the length of a block: the walks. -/
set_option linter.all false
namespace Go.Proofs.YtjpielapplglmaaDoor
open Go.RowKit
theorem sealed_val {l : List Nat} {n : Nat} (hln : l.length = n) (h : 4 ≤ n) : (((crcSum (l.take (n - 4)) : Nat) : Int) == ((l.getD (n - 4) 0 + l.getD (n - 4 + 1) 0 * 256 + l.getD (n - 4 + 2) 0 * 65536 + l.getD (n - 4 + 3) 0 * 16777216 : Nat) : Int)) = sealedR l := by
  subst hln
  have hd : ∀ i, (l.drop (l.length - 4)).getD i 0 = l.getD (l.length - 4 + i) 0 := fun i => by rw [List.getD_eq_getElem?_getD, List.getElem?_drop, ← List.getD_eq_getElem?_getD]
  unfold sealedR num4
  rw [hd, hd, hd, hd, Bool.eq_iff_iff, beq_iff_eq, decide_eq_true_eq]
  simp only [Nat.add_zero]
  constructor
  · intro h1; exact ⟨h, by omega⟩
  · intro h1; have := h1.2; omega
theorem sealed_short {l : List Nat} {n : Nat} (hln : l.length = n) (h : n < 4) : sealedR l = false := by unfold sealedR; rw [decide_eq_false]; omega
def numUp (l : List Nat) : Nat → Nat
  | 0 => 0
  | k + 1 => numUp l k * 256 + l.getD (3 - k) 0
theorem numUp_all (l : List Nat) : numUp l 4 = num4 l := by simp [numUp, num4]; omega
theorem numUp_lt {l : List Nat} (hl : ∀ b ∈ l, b < 256) (hn : 4 ≤ l.length) : ∀ k, k ≤ 4 → numUp l k < 256 ^ k
  | 0, _ => by show 0 < 1; decide
  | k + 1, h => by
    have h1 := numUp_lt hl hn k (by omega)
    have h2 := getD_lt hl (k := 3 - k) (by omega)
    rw [numUp, Nat.pow_succ]
    omega
theorem numUp_small {l : List Nat} (hl : ∀ b ∈ l, b < 256) (hn : 4 ≤ l.length) {k : Nat} (h : k ≤ 4) : numUp l k < 4294967296 := by
  have h1 := numUp_lt hl hn k h
  have h2 : (256 : Nat) ^ k ≤ 256 ^ 4 := Nat.pow_le_pow_right (by decide) h
  omega
set_option maxRecDepth 100000 in
set_option maxHeartbeats 4000000 in
theorem sealed_any (A : Option Addr) (n cp : Nat) (l : List Nat) (B : Nat) (w : World) (hL : LaidX B w) (hB : B ≤ w.heap.size) (hr : Rd w w.heap.size 1 A n (l.map B8)) (hc : n ≤ cp) (hln : l.length = n) (hn : n ≤ 140737488355328) (hl : ∀ b ∈ l, b < 256) :
    Calls Tryd.prog 35 #[.slice A n cp] w (Is w (.bool (sealedR l))) := by
  refine calls_enter (vs := [.slice A n cp]) Tryd.func35 rfl rfl (by kernel_rfl) (σ0 := [(0, .slice A n cp)]) rfl ?_
  intro a HF
  have HM := Mem.start w
  refine wp_seq ?_
  refine from_start ?_
  refine from_pures HF 1 0 (j := 1) [(2, .bool false)] (by kernel_rfl) rfl ?_; clear HF; intro a HF
  refine from_done rfl ?_
  refine wp_seq ?_
  refine from_start ?_
  refine from_pures HF 1 0 (j := 1) [(4, .slice A n cp)] (by kernel_rfl) rfl ?_; clear HF; intro a HF
  refine from_yl (S := fun wS => Mem w wS _) HF HM (i := 1) rfl rfl (d := 5) rfl (by decide) (v := .int .i64 ((n : Nat) : Int)) (Yl.len rfl rfl (by kernel_rfl)) ?_; clear HF; intro a HF
  refine from_pures HF 1 2 (j := 3) [(6, .int .i64 (IntKind.i64.wrap (((n : Nat) : Int) - 4)))] (by kernel_rfl) rfl ?_; clear HF; intro a HF
  replace HF := HF.as (t := 6) (u := .int .i64 ((n : Int) - 4)) rfl (i64_as ⟨by omega, by omega⟩)
  refine from_pures HF 1 3 (j := 4) [(3, .int .i64 ((n : Int) - 4))] (by kernel_rfl) rfl ?_; clear HF; intro a HF
  refine from_done rfl ?_
  replace HF := HF.sub (σ' := [(3, .int .i64 ((n : Int) - 4)), (2, .bool false), (0, .slice A n cp)]) (by kernel_rfl)
  refine wp_seq ?_
  refine wp_seq ?_
  refine from_start ?_
  refine from_pures HF 2 0 (j := 2) [(8, .bool (decide (((n : Int) - 4 : Int) < (0 : Int)))), (7, .int .i64 ((n : Int) - 4))] (by kernel_rfl) rfl ?_; clear HF; intro a HF
  refine from_done rfl ?_
  replace HF := HF.sub (σ' := [(8, .bool (decide (((n : Int) - 4 : Int) < (0 : Int)))), (3, .int .i64 ((n : Int) - 4)), (2, .bool false), (0, .slice A n cp)]) (by kernel_rfl)
  rcases Bool.eq_false_or_eq_true (decide (((n : Int) - 4 : Int) < (0 : Int))) with hb8 | hb8
  · have HF := HF.as (t := 8) (u := .bool true) rfl (by rw [hb8])
    have hd8 := of_decide_eq_true hb8
    refine cond_true HF rfl ?_
    refine wp_seq ?_
    refine from_start ?_
    refine from_pures HF 1 0 (j := 1) [(2, .bool false)] (by kernel_rfl) rfl ?_; clear HF; intro a HF
    refine from_done rfl ?_
    replace HF := HF.sub (σ' := [(2, .bool false), (8, .bool true), (3, .int .i64 ((n : Int) - 4)), (0, .slice A n cp)]) (by kernel_rfl)
    refine wp_ret ?_
    exact ret1 rfl HF (.tmp HF rfl) (⟨by rw [sealed_short hln (by omega)], HM.below⟩)
  · have HF := HF.as (t := 8) (u := .bool false) rfl (by rw [hb8])
    have hd8 := of_decide_eq_false hb8
    replace HF := HF.as (t := 3) (u := .int .i64 ((n - 4 : Nat) : Int)) rfl (by congr 1; omega)
    refine cond_false HF rfl ?_
    refine wp_skip ?_
    refine wp_seq ?_
    refine any_start (by kernel_rfl) (fun wS => Mem w wS []) [] ?_
    replace HM := HM.drew
    have HS := HM.picks (fs' := []) [] (by decide) rfl
    refine any_pures HF (fun _ => HS) (fun _ _ d _ _ h => by cases d <;> exact h) [0, 1, 4, 5, 9, 10, 17, 18, 25, 26] #[true, true, false, false, true, true, false, false, false, true, true, false, false, false, false, false, false, true, true, false, false, false, false, false, false, true, true, false, false, false, false, false, false, false, false] [(35, .int .i64 ((n - 4 : Nat) : Int)), (34, .slice A n cp), (27, .int .i64 ((n - 4 : Nat) : Int)), (26, .slice A n cp), (19, .int .i64 ((n - 4 : Nat) : Int)), (18, .slice A n cp), (14, .int .i64 ((n - 4 : Nat) : Int)), (13, .slice A n cp), (10, .int .i64 ((n - 4 : Nat) : Int)), (9, .slice A n cp)] (by kernel_rfl) ?_; clear HF; intro a HF
    refine any_yl HF HS (i := 2) rfl rfl (d := 11) rfl (by decide) (by kernel_rfl) (fun _ _ _ h => h) (v := .slice A (n - 4) cp) (Yl.sliceUpto ei_u8 (j := n - 4) rfl rfl rfl (by omega)) ?_; clear HF; intro a HF
    obtain ⟨gA, oA, rfl, _⟩ := hr.some_at (Nat.lt_of_le_of_lt (Nat.zero_le _) (show n - 4 < n from by omega)) (by decide)
    refine any_yl HF HS (i := 6) rfl rfl (d := 15) rfl (by decide) (by kernel_rfl) (fun _ _ _ h => h) (v := .pointer (some ⟨gA, oA + (n - 4) * 1, none⟩)) ((Yl.indexAddr (ad := ⟨gA, oA, none⟩) (y := n - 4) (sz := 1) rfl rfl rfl (by omega) (by kernel_rfl)).as (by rw [Addr.add_mid])) ?_; clear HF; intro a HF
    have hx46 := getD_lt hl (k := (n - 4)) (by first | omega | (simp; omega))
    refine any_yl HF HS (i := 7) rfl rfl (d := 16) rfl (by decide) (by kernel_rfl) (fun _ _ _ h => h) (v := .int .u8 ((l.getD (n - 4) 0) : Int)) (Yl.load1 rfl rfl (by kernel_rfl) (fun _ h => (h.old hr).oneAt1 (k := (n - 4)) (map_at (F := B8) (k := (n - 4)) (x := (l.getD (n - 4) 0)) ((getD_at 0 (k := (n - 4)) (by first | omega | (simp; omega))))))) ?_; clear HF; intro a HF
    refine any_pure HF (fun _ => HS) (i := 8) rfl rfl (d := 17) rfl (by decide) (by kernel_rfl) (fun _ _ _ h => h) (v := .int .u32 (IntKind.u32.wrap ((l.getD (n - 4) 0) : Int))) (fun _ => Yl.pure (by kernel_rfl)) ?_; clear HF; intro a HF
    replace HF := HF.as (t := 17) (u := .int .u32 ((l.getD (n - 4) 0) : Int)) rfl (u32_nat rfl (by omega))
    refine any_pure HF (fun _ => HS) (i := 11) rfl rfl (d := 20) rfl (by decide) (by kernel_rfl) (fun _ _ _ h => h) (v := .int .i64 (IntKind.i64.wrap (((n - 4 : Nat) : Int) + 1))) (fun _ => Yl.pure (by kernel_rfl)) ?_; clear HF; intro a HF
    replace HF := HF.as (t := 20) (u := .int .i64 (((n - 4) + 1 : Nat) : Int)) rfl (i64_nat (by omega) (by omega))
    refine any_yl HF HS (i := 12) rfl rfl (d := 21) rfl (by decide) (by kernel_rfl) (fun _ _ _ h => h) (v := .pointer (some ⟨gA, oA + ((n - 4) + 1) * 1, none⟩)) ((Yl.indexAddr (ad := ⟨gA, oA, none⟩) (y := (n - 4) + 1) (sz := 1) rfl rfl rfl (by omega) (by kernel_rfl)).as (by rw [Addr.add_mid])) ?_; clear HF; intro a HF
    have hx53 := getD_lt hl (k := ((n - 4) + 1)) (by first | omega | (simp; omega))
    refine any_yl HF HS (i := 13) rfl rfl (d := 22) rfl (by decide) (by kernel_rfl) (fun _ _ _ h => h) (v := .int .u8 ((l.getD ((n - 4) + 1) 0) : Int)) (Yl.load1 rfl rfl (by kernel_rfl) (fun _ h => (h.old hr).oneAt1 (k := ((n - 4) + 1)) (map_at (F := B8) (k := ((n - 4) + 1)) (x := (l.getD ((n - 4) + 1) 0)) ((getD_at 0 (k := ((n - 4) + 1)) (by first | omega | (simp; omega))))))) ?_; clear HF; intro a HF
    refine any_pure HF (fun _ => HS) (i := 14) rfl rfl (d := 23) rfl (by decide) (by kernel_rfl) (fun _ _ _ h => h) (v := .int .u32 (IntKind.u32.wrap ((l.getD ((n - 4) + 1) 0) : Int))) (fun _ => Yl.pure (by kernel_rfl)) ?_; clear HF; intro a HF
    replace HF := HF.as (t := 23) (u := .int .u32 ((l.getD ((n - 4) + 1) 0) : Int)) rfl (u32_nat rfl (by omega))
    refine any_pure HF (fun _ => HS) (i := 15) rfl rfl (d := 24) rfl (by decide) (by kernel_rfl) (fun _ _ _ h => h) (v := .int .u32 (IntKind.u32.wrap (((l.getD ((n - 4) + 1) 0) : Int) * 2 ^ (min (8 : Int).toNat (IntKind.u32).bits)))) (fun _ => Yl.pure (by kernel_rfl)) ?_; clear HF; intro a HF
    replace HF := HF.as (t := 24) (u := .int .u32 (((l.getD ((n - 4) + 1) 0) * 256 : Nat) : Int)) rfl (u32_nat (by rw [show (2 : Int) ^ (min (8 : Int).toNat (IntKind.u32).bits) = 256 from rfl]; omega) (by omega))
    refine any_pure HF (fun _ => HS) (i := 16) rfl rfl (d := 25) rfl (by decide) (by kernel_rfl) (fun _ _ _ h => h) (v := .int .u32 (IntKind.u32.wrap (BitVec.ofInt (IntKind.u32).bits ((l.getD (n - 4) 0) : Int) ||| BitVec.ofInt (IntKind.u32).bits (((l.getD ((n - 4) + 1) 0) * 256 : Nat) : Int)).toNat)) (fun _ => Yl.pure (by kernel_rfl)) ?_; clear HF; intro a HF
    replace HF := HF.as (t := 25) (u := .int .u32 ((l.getD (n - 4) 0 + l.getD (n - 4 + 1) 0 * 256 : Nat) : Int)) rfl (or_sum32 (m := l.getD (n - 4) 0) (n := l.getD (n - 4 + 1) 0) (j := 8) (p := 256) rfl (by omega) (by omega))
    refine any_pure HF (fun _ => HS) (i := 19) rfl rfl (d := 28) rfl (by decide) (by kernel_rfl) (fun _ _ _ h => h) (v := .int .i64 (IntKind.i64.wrap (((n - 4 : Nat) : Int) + 2))) (fun _ => Yl.pure (by kernel_rfl)) ?_; clear HF; intro a HF
    replace HF := HF.as (t := 28) (u := .int .i64 (((n - 4) + 2 : Nat) : Int)) rfl (i64_nat (by omega) (by omega))
    refine any_yl HF HS (i := 20) rfl rfl (d := 29) rfl (by decide) (by kernel_rfl) (fun _ _ _ h => h) (v := .pointer (some ⟨gA, oA + ((n - 4) + 2) * 1, none⟩)) ((Yl.indexAddr (ad := ⟨gA, oA, none⟩) (y := (n - 4) + 2) (sz := 1) rfl rfl rfl (by omega) (by kernel_rfl)).as (by rw [Addr.add_mid])) ?_; clear HF; intro a HF
    have hx64 := getD_lt hl (k := ((n - 4) + 2)) (by first | omega | (simp; omega))
    refine any_yl HF HS (i := 21) rfl rfl (d := 30) rfl (by decide) (by kernel_rfl) (fun _ _ _ h => h) (v := .int .u8 ((l.getD ((n - 4) + 2) 0) : Int)) (Yl.load1 rfl rfl (by kernel_rfl) (fun _ h => (h.old hr).oneAt1 (k := ((n - 4) + 2)) (map_at (F := B8) (k := ((n - 4) + 2)) (x := (l.getD ((n - 4) + 2) 0)) ((getD_at 0 (k := ((n - 4) + 2)) (by first | omega | (simp; omega))))))) ?_; clear HF; intro a HF
    refine any_pure HF (fun _ => HS) (i := 22) rfl rfl (d := 31) rfl (by decide) (by kernel_rfl) (fun _ _ _ h => h) (v := .int .u32 (IntKind.u32.wrap ((l.getD ((n - 4) + 2) 0) : Int))) (fun _ => Yl.pure (by kernel_rfl)) ?_; clear HF; intro a HF
    replace HF := HF.as (t := 31) (u := .int .u32 ((l.getD ((n - 4) + 2) 0) : Int)) rfl (u32_nat rfl (by omega))
    refine any_pure HF (fun _ => HS) (i := 23) rfl rfl (d := 32) rfl (by decide) (by kernel_rfl) (fun _ _ _ h => h) (v := .int .u32 (IntKind.u32.wrap (((l.getD ((n - 4) + 2) 0) : Int) * 2 ^ (min (16 : Int).toNat (IntKind.u32).bits)))) (fun _ => Yl.pure (by kernel_rfl)) ?_; clear HF; intro a HF
    replace HF := HF.as (t := 32) (u := .int .u32 (((l.getD ((n - 4) + 2) 0) * 65536 : Nat) : Int)) rfl (u32_nat (by rw [show (2 : Int) ^ (min (16 : Int).toNat (IntKind.u32).bits) = 65536 from rfl]; omega) (by omega))
    refine any_pure HF (fun _ => HS) (i := 24) rfl rfl (d := 33) rfl (by decide) (by kernel_rfl) (fun _ _ _ h => h) (v := .int .u32 (IntKind.u32.wrap (BitVec.ofInt (IntKind.u32).bits ((l.getD (n - 4) 0 + l.getD (n - 4 + 1) 0 * 256 : Nat) : Int) ||| BitVec.ofInt (IntKind.u32).bits (((l.getD ((n - 4) + 2) 0) * 65536 : Nat) : Int)).toNat)) (fun _ => Yl.pure (by kernel_rfl)) ?_; clear HF; intro a HF
    replace HF := HF.as (t := 33) (u := .int .u32 ((l.getD (n - 4) 0 + l.getD (n - 4 + 1) 0 * 256 + l.getD (n - 4 + 2) 0 * 65536 : Nat) : Int)) rfl (or_sum32 (m := l.getD (n - 4) 0 + l.getD (n - 4 + 1) 0 * 256) (n := l.getD (n - 4 + 2) 0) (j := 16) (p := 65536) rfl (by omega) (by omega))
    refine any_pure HF (fun _ => HS) (i := 27) rfl rfl (d := 36) rfl (by decide) (by kernel_rfl) (fun _ _ _ h => h) (v := .int .i64 (IntKind.i64.wrap (((n - 4 : Nat) : Int) + 3))) (fun _ => Yl.pure (by kernel_rfl)) ?_; clear HF; intro a HF
    replace HF := HF.as (t := 36) (u := .int .i64 (((n - 4) + 3 : Nat) : Int)) rfl (i64_nat (by omega) (by omega))
    refine any_yl HF HS (i := 28) rfl rfl (d := 37) rfl (by decide) (by kernel_rfl) (fun _ _ _ h => h) (v := .pointer (some ⟨gA, oA + ((n - 4) + 3) * 1, none⟩)) ((Yl.indexAddr (ad := ⟨gA, oA, none⟩) (y := (n - 4) + 3) (sz := 1) rfl rfl rfl (by omega) (by kernel_rfl)).as (by rw [Addr.add_mid])) ?_; clear HF; intro a HF
    have hx75 := getD_lt hl (k := ((n - 4) + 3)) (by first | omega | (simp; omega))
    refine any_yl HF HS (i := 29) rfl rfl (d := 38) rfl (by decide) (by kernel_rfl) (fun _ _ _ h => h) (v := .int .u8 ((l.getD ((n - 4) + 3) 0) : Int)) (Yl.load1 rfl rfl (by kernel_rfl) (fun _ h => (h.old hr).oneAt1 (k := ((n - 4) + 3)) (map_at (F := B8) (k := ((n - 4) + 3)) (x := (l.getD ((n - 4) + 3) 0)) ((getD_at 0 (k := ((n - 4) + 3)) (by first | omega | (simp; omega))))))) ?_; clear HF; intro a HF
    refine any_pure HF (fun _ => HS) (i := 30) rfl rfl (d := 39) rfl (by decide) (by kernel_rfl) (fun _ _ _ h => h) (v := .int .u32 (IntKind.u32.wrap ((l.getD ((n - 4) + 3) 0) : Int))) (fun _ => Yl.pure (by kernel_rfl)) ?_; clear HF; intro a HF
    replace HF := HF.as (t := 39) (u := .int .u32 ((l.getD ((n - 4) + 3) 0) : Int)) rfl (u32_nat rfl (by omega))
    refine any_pure HF (fun _ => HS) (i := 31) rfl rfl (d := 40) rfl (by decide) (by kernel_rfl) (fun _ _ _ h => h) (v := .int .u32 (IntKind.u32.wrap (((l.getD ((n - 4) + 3) 0) : Int) * 2 ^ (min (24 : Int).toNat (IntKind.u32).bits)))) (fun _ => Yl.pure (by kernel_rfl)) ?_; clear HF; intro a HF
    replace HF := HF.as (t := 40) (u := .int .u32 (((l.getD ((n - 4) + 3) 0) * 16777216 : Nat) : Int)) rfl (u32_nat (by rw [show (2 : Int) ^ (min (24 : Int).toNat (IntKind.u32).bits) = 16777216 from rfl]; omega) (by omega))
    refine any_pure HF (fun _ => HS) (i := 32) rfl rfl (d := 41) rfl (by decide) (by kernel_rfl) (fun _ _ _ h => h) (v := .int .u32 (IntKind.u32.wrap (BitVec.ofInt (IntKind.u32).bits ((l.getD (n - 4) 0 + l.getD (n - 4 + 1) 0 * 256 + l.getD (n - 4 + 2) 0 * 65536 : Nat) : Int) ||| BitVec.ofInt (IntKind.u32).bits (((l.getD ((n - 4) + 3) 0) * 16777216 : Nat) : Int)).toNat)) (fun _ => Yl.pure (by kernel_rfl)) ?_; clear HF; intro a HF
    replace HF := HF.as (t := 41) (u := .int .u32 ((l.getD (n - 4) 0 + l.getD (n - 4 + 1) 0 * 256 + l.getD (n - 4 + 2) 0 * 65536 + l.getD (n - 4 + 3) 0 * 16777216 : Nat) : Int)) rfl (or_sum32 (m := l.getD (n - 4) 0 + l.getD (n - 4 + 1) 0 * 256 + l.getD (n - 4 + 2) 0 * 65536) (n := l.getD (n - 4 + 3) 0) (j := 24) (p := 16777216) rfl (by omega) (by omega))
    refine any_all [3] (by kernel_rfl) rfl ?_
    refine all_cons ?_ all_nil
    refine any_op HF (i := 3) rfl rfl ?_
    refine e_call HF (vs := [.slice (some ⟨gA, oA, none⟩) (n - 4) cp]) rfl (by kernel_rfl) (by kernel_rfl) rfl (by decide) (crcsum_any _ _ _ (l.take (n - 4)) B _ (hL.mem HM hB) (HM.le hB) ((HM.old hr).toB8 (by omega)) (by rw [List.length_take]; omega) (by omega) (take_lt hl _)) ?_
    rintro _ w12 ⟨rfl, hbw⟩
    refine ⟨_, rfl, ?_⟩
    replace HM := HM.call hbw
    clear HF; intro a HF
    refine keepS (HM.picks [] (by decide) rfl) (fun HS => ?_)
    refine any_pures HF (fun _ => HS) (fun _ _ d _ _ h => by cases d <;> exact h) [33, 34] #[true, true, true, true, true, true, true, true, true, true, true, true, true, true, true, true, true, true, true, true, true, true, true, true, true, true, true, true, true, true, true, true, true, true, true] [(2, .bool (((crcSum (l.take (n - 4)) : Int) : Int) == (((l.getD (n - 4) 0 + l.getD (n - 4 + 1) 0 * 256 + l.getD (n - 4 + 2) 0 * 65536 + l.getD (n - 4 + 3) 0 * 16777216 : Nat) : Int) : Int))), (42, .bool (((crcSum (l.take (n - 4)) : Int) : Int) == (((l.getD (n - 4) 0 + l.getD (n - 4 + 1) 0 * 256 + l.getD (n - 4 + 2) 0 * 65536 + l.getD (n - 4 + 3) 0 * 16777216 : Nat) : Int) : Int)))] (by kernel_rfl) ?_; clear HF; intro a HF
    refine any_done (by kernel_rfl) ?_
    replace HF := HF.sub (σ' := [(2, .bool (((crcSum (l.take (n - 4)) : Int) : Int) == (((l.getD (n - 4) 0 + l.getD (n - 4 + 1) 0 * 256 + l.getD (n - 4 + 2) 0 * 65536 + l.getD (n - 4 + 3) 0 * 16777216 : Nat) : Int) : Int))), (3, .int .i64 ((n - 4 : Nat) : Int)), (8, .bool false), (0, .slice (some ⟨gA, oA, none⟩) n cp)]) (by kernel_rfl)
    refine wp_ret ?_
    exact ret1 rfl HF (.tmp HF rfl) (⟨by rw [sealed_val hln (by omega)], HM.below⟩)
theorem len_is {w w' : World} {l : List Nat} {n e : Nat} (h : lenR l = (n, e)) (hb : Below w.heap.size w w') : Is w (.tuple #[.int .i64 ((lenR l).1 : Int), .int .i64 ((lenR l).2 : Int)]) (.returned (.tuple #[.int .i64 (n : Int), .int .i64 (e : Int)])) w' := by rw [h]; exact ⟨rfl, hb⟩
set_option maxRecDepth 100000 in
set_option maxHeartbeats 4000000 in
theorem length_any (A : Option Addr) (n cp : Nat) (l : List Nat) (w : World) (hr : Rd w w.heap.size 1 A n (l.map B8)) (hln : l.length = n) (hn : n ≤ 9223372036854775807) (hl : ∀ b ∈ l, b < 256) :
    Calls Tryd.prog 17 #[.slice A n cp] w (Is w (.tuple #[.int .i64 ((lenR l).1 : Int), .int .i64 ((lenR l).2 : Int)])) := by
  refine calls_enter (vs := [.slice A n cp]) Tryd.func17 rfl rfl (by kernel_rfl) (σ0 := [(0, .slice A n cp)]) rfl ?_
  intro a HF
  have HM := Mem.start w
  refine wp_seq ?_
  refine from_start ?_
  refine from_pures HF 2 0 (j := 2) [(3, .int .i64 0), (2, .int .i64 0)] (by kernel_rfl) rfl ?_; clear HF; intro a HF
  refine from_done rfl ?_
  refine wp_seq ?_
  refine wp_seq ?_
  refine from_start ?_
  refine from_pures HF 1 0 (j := 1) [(6, .slice A n cp)] (by kernel_rfl) rfl ?_; clear HF; intro a HF
  refine from_yl (S := fun wS => Mem w wS _) HF HM (i := 1) rfl rfl (d := 7) rfl (by decide) (v := .int .i64 ((n : Nat) : Int)) (Yl.len rfl rfl (by kernel_rfl)) ?_; clear HF; intro a HF
  refine from_pures HF 1 2 (j := 3) [(8, .bool (decide ((((n : Nat) : Int) : Int) < (4 : Int))))] (by kernel_rfl) rfl ?_; clear HF; intro a HF
  refine from_done rfl ?_
  replace HF := HF.sub (σ' := [(8, .bool (decide ((((n : Nat) : Int) : Int) < (4 : Int)))), (3, .int .i64 0), (2, .int .i64 0), (0, .slice A n cp)]) (by kernel_rfl)
  rcases Bool.eq_false_or_eq_true (decide ((((n : Nat) : Int) : Int) < (4 : Int))) with hb8 | hb8
  · have HF := HF.as (t := 8) (u := .bool true) rfl (by rw [hb8])
    have hd8 := of_decide_eq_true hb8
    refine cond_true HF rfl ?_
    refine wp_seq ?_
    refine from_start ?_
    refine from_pures HF 2 0 (j := 2) [(3, .int .i64 100), (2, .int .i64 0)] (by kernel_rfl) rfl ?_; clear HF; intro a HF
    refine from_done rfl ?_
    replace HF := HF.sub (σ' := [(3, .int .i64 100), (2, .int .i64 0), (8, .bool true), (0, .slice A n cp)]) (by kernel_rfl)
    refine wp_ret ?_
    exact ret2 rfl HF (.tmp HF rfl) (.tmp HF rfl) (len_is (by unfold lenR; rw [if_pos (by omega)]) HM.below)
  · have HF := HF.as (t := 8) (u := .bool false) rfl (by rw [hb8])
    have hd8 := of_decide_eq_false hb8
    refine cond_false HF rfl ?_
    refine wp_skip ?_
    refine wp_seq ?_
    refine from_start ?_
    refine from_pures HF 1 0 (j := 1) [(4, .int .i64 0)] (by kernel_rfl) rfl ?_; clear HF; intro a HF
    refine from_done rfl ?_
    replace HF := HF.sub (σ' := [(4, .int .i64 0), (8, .bool false), (3, .int .i64 0), (2, .int .i64 0), (0, .slice A n cp)]) (by kernel_rfl)
    refine wp_seq ?_
    refine wp_seq ?_
    refine from_start ?_
    refine from_pures HF 1 0 (j := 1) [(5, .int .i64 3)] (by kernel_rfl) rfl ?_; clear HF; intro a HF
    refine from_done rfl ?_
    refine wp_block ?_
    refine loop_nat (fun mS aS wS => ∃ (k : Nat), (k ≤ 4) ∧ mS = 4 - k ∧ Fr aS 34 [] [(5, .int .i64 (3 - (k : Int))), (4, .int .i64 (numUp l k : Int)), (8, .bool false), (3, .int .i64 0), (2, .int .i64 0), (0, .slice A n cp)] ∧ Mem w wS []) (m := 4 - 0) ⟨0, Nat.zero_le _, rfl, HF.sub (by kernel_rfl), HM.picks [] (by decide) rfl⟩ ?_
    clear HF HM; rintro mS a w_ ⟨k, hk, rfl, HF, HM⟩
    have hu := numUp_small hl (by omega) hk
    refine wp_seq ?_
    refine wp_seq ?_
    refine from_start ?_
    refine from_pures HF 2 0 (j := 2) [(10, .bool (decide ((3 - (k : Int) : Int) ≥ (0 : Int)))), (9, .int .i64 (3 - (k : Int)))] (by kernel_rfl) rfl ?_; clear HF; intro a HF
    refine from_done rfl ?_
    replace HF := HF.sub (σ' := [(10, .bool (decide ((3 - (k : Int) : Int) ≥ (0 : Int)))), (5, .int .i64 (3 - (k : Int))), (4, .int .i64 (numUp l k : Int)), (8, .bool false), (3, .int .i64 0), (2, .int .i64 0), (0, .slice A n cp)]) (by kernel_rfl)
    rcases Bool.eq_false_or_eq_true (decide ((3 - (k : Int) : Int) ≥ (0 : Int))) with hb10 | hb10
    · have HF := HF.as (t := 10) (u := .bool true) rfl (by rw [hb10])
      have hd10 := of_decide_eq_true hb10
      have hk3 : k ≤ 3 := by omega
      refine cond_true HF rfl ?_
      refine wp_skip ?_
      refine wp_seq ?_
      refine wp_block ?_
      refine from_start ?_
      refine from_pures HF 2 0 (j := 2) [(14, .int .i64 (IntKind.i64.wrap ((numUp l k : Int) * 2 ^ (min (8 : Int).toNat (IntKind.i64).bits)))), (13, .int .i64 (numUp l k : Int))] (by kernel_rfl) rfl ?_; clear HF; intro a HF
      replace HF := HF.as (t := 14) (u := .int .i64 (((numUp l k) * 256 : Nat) : Int)) rfl (i64_nat (by rw [show (2 : Int) ^ (min (8 : Int).toNat (IntKind.i64).bits) = 256 from rfl]; omega) (by omega))
      refine from_pures HF 2 2 (j := 4) [(16, .int .i64 (3 - (k : Int))), (15, .slice A n cp)] (by kernel_rfl) rfl ?_; clear HF; intro a HF
      replace HF := HF.as (t := 16) (u := .int .i64 ((3 - k : Nat) : Int)) rfl (by congr 1; omega)
      obtain ⟨gA, oA, rfl, _⟩ := hr.some_at (Nat.lt_of_le_of_lt (Nat.zero_le _) (show 3 - k < n from by omega)) (by decide)
      refine from_yl (S := fun wS => Mem w wS _) HF HM (i := 4) rfl rfl (d := 17) rfl (by decide) (v := .pointer (some ⟨gA, oA + (3 - k) * 1, none⟩)) ((Yl.indexAddr (ad := ⟨gA, oA, none⟩) (y := 3 - k) (sz := 1) rfl rfl rfl (by omega) (by kernel_rfl)).as (by rw [Addr.add_mid])) ?_; clear HF; intro a HF
      have hx65 := getD_lt hl (k := (3 - k)) (by first | omega | (simp; omega))
      refine from_yl (S := fun wS => Mem w wS _) HF HM (i := 5) rfl rfl (d := 18) rfl (by decide) (v := .int .u8 ((l.getD (3 - k) 0) : Int)) (Yl.load1 rfl rfl (by kernel_rfl) (fun _ h => (h.old hr).oneAt1 (k := (3 - k)) (map_at (F := B8) (k := (3 - k)) (x := (l.getD (3 - k) 0)) ((getD_at 0 (k := (3 - k)) (by first | omega | (simp; omega))))))) ?_; clear HF; intro a HF
      refine from_pures HF 1 6 (j := 7) [(19, .int .i64 (IntKind.i64.wrap ((l.getD (3 - k) 0) : Int)))] (by kernel_rfl) rfl ?_; clear HF; intro a HF
      replace HF := HF.as (t := 19) (u := .int .i64 ((l.getD (3 - k) 0) : Int)) rfl (i64_nat rfl (by omega))
      refine from_pures HF 1 7 (j := 8) [(20, .int .i64 (IntKind.i64.wrap (BitVec.ofInt (IntKind.i64).bits (((numUp l k) * 256 : Nat) : Int) ||| BitVec.ofInt (IntKind.i64).bits ((l.getD (3 - k) 0) : Int)).toNat))] (by kernel_rfl) rfl ?_; clear HF; intro a HF
      replace HF := HF.as (t := 20) (u := .int .i64 (numUp l (k + 1) : Int)) rfl (by have h := or_sum64 (m := numUp l k) (n := l.getD (3 - k) 0) (j := 8) (p := 256) rfl (by omega) (by omega); exact h)
      refine from_pures HF 1 8 (j := 9) [(4, .int .i64 (numUp l (k + 1) : Int))] (by kernel_rfl) rfl ?_; clear HF; intro a HF
      refine from_done rfl ?_
      replace HF := HF.sub (σ' := [(4, .int .i64 (numUp l (k + 1) : Int)), (10, .bool true), (5, .int .i64 (3 - (k : Int))), (8, .bool false), (3, .int .i64 0), (2, .int .i64 0), (0, .slice (some ⟨gA, oA, none⟩) n cp)]) (by kernel_rfl)
      refine from_start ?_
      refine from_pures HF 2 0 (j := 2) [(12, .int .i64 (IntKind.i64.wrap ((3 - (k : Int)) - 1))), (11, .int .i64 (3 - (k : Int)))] (by kernel_rfl) rfl ?_; clear HF; intro a HF
      replace HF := HF.as (t := 12) (u := .int .i64 (3 - ((k + 1 : Nat) : Int))) rfl (by rw [IntWalk.i64_in _ (by omega)]; congr 1; omega)
      refine from_pures HF 1 2 (j := 3) [(5, .int .i64 (3 - ((k + 1 : Nat) : Int)))] (by kernel_rfl) rfl ?_; clear HF; intro a HF
      refine from_done rfl ?_
      replace HF := HF.sub (σ' := [(5, .int .i64 (3 - ((k + 1 : Nat) : Int))), (4, .int .i64 (numUp l (k + 1) : Int)), (10, .bool true), (8, .bool false), (3, .int .i64 0), (2, .int .i64 0), (0, .slice (some ⟨gA, oA, none⟩) n cp)]) (by kernel_rfl)
      exact ⟨_, (by omega), k + 1, by omega, rfl, HF.sub (by kernel_rfl), HM.picks [] (by decide) rfl⟩
    · have HF := HF.as (t := 10) (u := .bool false) rfl (by rw [hb10])
      have hd10 := of_decide_eq_false hb10
      obtain rfl : k = 4 := by omega
      replace HF := HF.as (t := 4) (u := .int .i64 (num4 l : Int)) rfl (by rw [numUp_all])
      rw [numUp_all] at hu
      refine cond_false HF rfl ?_
      refine wp_exit ?_
      refine wp_seq ?_
      refine wp_block ?_
      refine wp_seq ?_
      refine from_start ?_
      refine from_pures HF 3 0 (j := 3) [(24, .bool (decide (((num4 l : Int) : Int) < (13 : Int)))), (23, .bool (decide (((num4 l : Int) : Int) < (13 : Int)))), (22, .int .i64 (num4 l : Int))] (by kernel_rfl) rfl ?_; clear HF; intro a HF
      rcases Bool.eq_false_or_eq_true (decide (((num4 l : Int) : Int) < (13 : Int))) with hb24 | hb24
      · have HF := HF.as (t := 24) (u := .bool true) rfl (by rw [hb24])
        have hd24 := of_decide_eq_true hb24
        refine from_pures HF 4 3 (j := 7) [(21, .bool true), (27, .bool true), (26, undef), (25, undef)] (by kernel_rfl) rfl ?_; clear HF; intro a HF
        refine from_done rfl ?_
        replace HF := HF.sub (σ' := [(21, .bool true), (4, .int .i64 (num4 l : Int)), (10, .bool false), (5, .int .i64 (3 - (4 : Int))), (8, .bool false), (3, .int .i64 0), (2, .int .i64 0), (0, .slice A n cp)]) (by kernel_rfl)
        refine cond_true HF rfl ?_
        refine wp_seq ?_
        refine from_start ?_
        refine from_pures HF 2 0 (j := 2) [(3, .int .i64 101), (2, .int .i64 0)] (by kernel_rfl) rfl ?_; clear HF; intro a HF
        refine from_done rfl ?_
        replace HF := HF.sub (σ' := [(3, .int .i64 101), (2, .int .i64 0), (21, .bool true), (4, .int .i64 (num4 l : Int)), (10, .bool false), (5, .int .i64 (3 - (4 : Int))), (8, .bool false), (0, .slice A n cp)]) (by kernel_rfl)
        refine wp_ret ?_
        exact ret2 rfl HF (.tmp HF rfl) (.tmp HF rfl) (len_is (by unfold lenR; rw [if_neg (by omega), if_pos (by omega)]) HM.below)
      · have HF := HF.as (t := 24) (u := .bool false) rfl (by rw [hb24])
        have hd24 := of_decide_eq_false hb24
        refine from_pures HF 4 3 (j := 7) [(21, .bool (decide (((num4 l : Int) : Int) > (4096 : Int)))), (27, .bool (decide (((num4 l : Int) : Int) > (4096 : Int)))), (26, .bool (decide (((num4 l : Int) : Int) > (4096 : Int)))), (25, .int .i64 (num4 l : Int))] (by kernel_rfl) rfl ?_; clear HF; intro a HF
        refine from_done rfl ?_
        replace HF := HF.sub (σ' := [(21, .bool (decide (((num4 l : Int) : Int) > (4096 : Int)))), (4, .int .i64 (num4 l : Int)), (10, .bool false), (5, .int .i64 (3 - (4 : Int))), (8, .bool false), (3, .int .i64 0), (2, .int .i64 0), (0, .slice A n cp)]) (by kernel_rfl)
        rcases Bool.eq_false_or_eq_true (decide (((num4 l : Int) : Int) > (4096 : Int))) with hb21 | hb21
        · have HF := HF.as (t := 21) (u := .bool true) rfl (by rw [hb21])
          have hd21 := of_decide_eq_true hb21
          refine cond_true HF rfl ?_
          refine wp_seq ?_
          refine from_start ?_
          refine from_pures HF 2 0 (j := 2) [(3, .int .i64 101), (2, .int .i64 0)] (by kernel_rfl) rfl ?_; clear HF; intro a HF
          refine from_done rfl ?_
          replace HF := HF.sub (σ' := [(3, .int .i64 101), (2, .int .i64 0), (21, .bool true), (4, .int .i64 (num4 l : Int)), (10, .bool false), (5, .int .i64 (3 - (4 : Int))), (8, .bool false), (0, .slice A n cp)]) (by kernel_rfl)
          refine wp_ret ?_
          exact ret2 rfl HF (.tmp HF rfl) (.tmp HF rfl) (len_is (by unfold lenR; rw [if_neg (by omega), if_pos (by omega)]) HM.below)
        · have HF := HF.as (t := 21) (u := .bool false) rfl (by rw [hb21])
          have hd21 := of_decide_eq_false hb21
          refine cond_false HF rfl ?_
          refine wp_seq ?_
          refine from_start ?_
          refine from_pures HF 2 0 (j := 2) [(30, .slice A n cp), (29, .int .i64 (num4 l : Int))] (by kernel_rfl) rfl ?_; clear HF; intro a HF
          refine from_yl (S := fun wS => Mem w wS _) HF HM (i := 2) rfl rfl (d := 31) rfl (by decide) (v := .int .i64 ((n : Nat) : Int)) (Yl.len rfl rfl (by kernel_rfl)) ?_; clear HF; intro a HF
          refine from_pures HF 2 3 (j := 5) [(28, .bool (decide (((num4 l : Int) : Int) > (((n : Nat) : Int) : Int)))), (32, .bool (decide (((num4 l : Int) : Int) > (((n : Nat) : Int) : Int))))] (by kernel_rfl) rfl ?_; clear HF; intro a HF
          refine from_done rfl ?_
          replace HF := HF.sub (σ' := [(28, .bool (decide (((num4 l : Int) : Int) > (((n : Nat) : Int) : Int)))), (21, .bool false), (4, .int .i64 (num4 l : Int)), (10, .bool false), (5, .int .i64 (3 - (4 : Int))), (8, .bool false), (3, .int .i64 0), (2, .int .i64 0), (0, .slice A n cp)]) (by kernel_rfl)
          rcases Bool.eq_false_or_eq_true (decide (((num4 l : Int) : Int) > (((n : Nat) : Int) : Int))) with hb28 | hb28
          · have HF := HF.as (t := 28) (u := .bool true) rfl (by rw [hb28])
            have hd28 := of_decide_eq_true hb28
            refine cond_true HF rfl ?_
            refine wp_seq ?_
            refine from_start ?_
            refine from_pures HF 2 0 (j := 2) [(3, .int .i64 100), (2, .int .i64 0)] (by kernel_rfl) rfl ?_; clear HF; intro a HF
            refine from_done rfl ?_
            replace HF := HF.sub (σ' := [(3, .int .i64 100), (2, .int .i64 0), (28, .bool true), (21, .bool false), (4, .int .i64 (num4 l : Int)), (10, .bool false), (5, .int .i64 (3 - (4 : Int))), (8, .bool false), (0, .slice A n cp)]) (by kernel_rfl)
            refine wp_ret ?_
            exact ret2 rfl HF (.tmp HF rfl) (.tmp HF rfl) (len_is (by unfold lenR; rw [if_neg (by omega), if_neg (by omega), if_pos (by omega)]) HM.below)
          · have HF := HF.as (t := 28) (u := .bool false) rfl (by rw [hb28])
            have hd28 := of_decide_eq_false hb28
            refine cond_false HF rfl ?_
            refine wp_skip ?_
            refine wp_seq ?_
            refine from_start ?_
            refine from_pures HF 3 0 (j := 3) [(3, .int .i64 0), (2, .int .i64 (num4 l : Int)), (33, .int .i64 (num4 l : Int))] (by kernel_rfl) rfl ?_; clear HF; intro a HF
            refine from_done rfl ?_
            replace HF := HF.sub (σ' := [(3, .int .i64 0), (2, .int .i64 (num4 l : Int)), (28, .bool false), (21, .bool false), (4, .int .i64 (num4 l : Int)), (10, .bool false), (5, .int .i64 (3 - (4 : Int))), (8, .bool false), (0, .slice A n cp)]) (by kernel_rfl)
            refine wp_ret ?_
            exact ret2 rfl HF (.tmp HF rfl) (.tmp HF rfl) (len_is (by unfold lenR; rw [if_neg (by omega), if_neg (by omega), if_neg (by omega)]) HM.below)
end Go.Proofs.YtjpielapplglmaaDoor

/- Blocks: fits, base, body: the walks. -/
set_option linter.all false
namespace Go.Proofs.YtjpielapplglmaaDoor
open Go.RowKit
set_option maxRecDepth 100000 in
set_option maxHeartbeats 4000000 in
theorem fits1_any (g : Nat) (b : Bk) (hok : b.Ok) (A : Option Addr) (c B : Nat) (w : World) (hL : LaidX B w) (hB : B ≤ w.heap.size) (hr : Rd w w.heap.size 11 A b.evs.length (b.evs.flatMap evL)) (hn : b.evs.length ≤ 1000000) (hb : w.heap[g]? = some (.cells (b.cells A c) 37 (0, 0))) :
    Calls Tryd.prog 52 #[.pointer (some ⟨g, 0, none⟩)] w (Is w (.bool b.fitsE)) := by
  refine calls_enter (vs := [.pointer (some ⟨g, 0, none⟩)]) Tryd.func52 rfl rfl (by kernel_rfl) (σ0 := [(0, .pointer (some ⟨g, 0, none⟩))]) rfl ?_
  intro a HF
  have HM := Mem.start w
  refine wp_seq ?_
  refine from_start ?_
  refine from_pures HF 1 0 (j := 1) [(1, .bool false)] (by kernel_rfl) rfl ?_; clear HF; intro a HF
  refine from_done rfl ?_
  refine wp_seq ?_
  refine wp_seq ?_
  refine from_start ?_
  refine from_pures HF 1 0 (j := 1) [(5, .pointer (some ⟨g, 4, none⟩))] (by kernel_rfl) rfl ?_; clear HF; intro a HF
  refine from_yl (S := fun wS => Mem w wS _) HF HM (i := 1) rfl rfl (d := 6) rfl (by decide) (v := .slice A b.evs.length c) (Yl.load1 rfl rfl (by kernel_rfl) (fun _ h => h.oldCell hb rfl)) ?_; clear HF; intro a HF
  refine from_op HF (i := 2) rfl rfl ?_
  refine e_call HF (vs := [.slice A b.evs.length c]) rfl (by kernel_rfl) (by kernel_rfl) rfl (by decide) (row_is A b.evs.length c b.evs hok.evs B _ (hL.mem HM hB).laid (HM.le hB) (HM.old hr) (by omega) (i := (rowR b.evs).1) (er := (rowR b.evs).2) rfl) ?_
  rintro _ w7 ⟨rfl, hbw⟩
  refine ⟨_, rfl, ?_⟩
  replace HM := HM.call hbw
  clear HF; intro a HF
  refine from_pures HF 5 3 (j := 8) [(3, .int .i64 ((rowR b.evs).2 : Int)), (2, .int .i64 ((rowR b.evs).1)), (9, .int .i64 ((rowR b.evs).2 : Int)), (8, .int .i64 ((rowR b.evs).1)), (4, .tuple #[.int .i64 ((rowR b.evs).1), .int .i64 ((rowR b.evs).2 : Int)])] (by kernel_rfl) rfl ?_; clear HF; intro a HF
  refine from_done rfl ?_
  replace HF := HF.sub (σ' := [(3, .int .i64 ((rowR b.evs).2 : Int)), (1, .bool false), (0, .pointer (some ⟨g, 0, none⟩))]) (by kernel_rfl)
  refine wp_seq ?_
  refine from_start ?_
  refine from_pures HF 3 0 (j := 3) [(12, .bool ((((rowR b.evs).2 : Int) : Int) != (0 : Int))), (11, .bool ((((rowR b.evs).2 : Int) : Int) != (0 : Int))), (10, .int .i64 ((rowR b.evs).2 : Int))] (by kernel_rfl) rfl ?_; clear HF; intro a HF
  rcases Bool.eq_false_or_eq_true ((((rowR b.evs).2 : Int) : Int) != (0 : Int)) with hb12 | hb12
  · have HF := HF.as (t := 12) (u := .bool true) rfl (by rw [hb12])
    have hd12 := bne_iff_ne.1 hb12
    refine from_pures HF 19 3 (j := 22) [(31, .bool true), (30, undef), (29, undef), (28, undef), (27, .bool true), (26, .bool true), (25, undef), (24, undef), (23, undef), (22, .bool true), (21, .bool true), (20, undef), (19, undef), (18, undef), (17, .bool true), (16, .bool true), (15, undef), (14, undef), (13, undef)] (by kernel_rfl) rfl ?_; clear HF; intro a HF
    refine from_done rfl ?_
    replace HF := HF.sub (σ' := [(31, .bool true), (1, .bool false), (0, .pointer (some ⟨g, 0, none⟩))]) (by kernel_rfl)
    refine cond_true HF rfl ?_
    refine wp_seq ?_
    refine from_start ?_
    refine from_pures HF 1 0 (j := 1) [(1, .bool false)] (by kernel_rfl) rfl ?_; clear HF; intro a HF
    refine from_done rfl ?_
    replace HF := HF.sub (σ' := [(1, .bool false), (31, .bool true), (0, .pointer (some ⟨g, 0, none⟩))]) (by kernel_rfl)
    refine wp_ret ?_
    exact ret1 rfl HF (.tmp HF rfl) (⟨by rw [show b.fitsE = false from decide_eq_false (by omega)], HM.below⟩)
  · have HF := HF.as (t := 12) (u := .bool false) rfl (by rw [hb12])
    have hd12 := bne_eq_false_iff_eq.1 hb12
    refine from_pures HF 1 3 (j := 4) [(13, .pointer (some ⟨g, 1, none⟩))] (by kernel_rfl) rfl ?_; clear HF; intro a HF
    refine from_yl (S := fun wS => Mem w wS _) HF HM (i := 4) rfl rfl (d := 14) rfl (by decide) (v := .int .u8 (b.cpu : Int)) (Yl.load1 rfl rfl (by kernel_rfl) (fun _ h => h.oldCell hb rfl)) ?_; clear HF; intro a HF
    refine from_pures HF 3 5 (j := 8) [(17, .bool (decide (((b.cpu : Int) : Int) ≥ (64 : Int)))), (16, .bool (decide (((b.cpu : Int) : Int) ≥ (64 : Int)))), (15, .bool (decide (((b.cpu : Int) : Int) ≥ (64 : Int))))] (by kernel_rfl) rfl ?_; clear HF; intro a HF
    rcases Bool.eq_false_or_eq_true (decide (((b.cpu : Int) : Int) ≥ (64 : Int))) with hb17 | hb17
    · have HF := HF.as (t := 17) (u := .bool true) rfl (by rw [hb17])
      have hd17 := of_decide_eq_true hb17
      refine from_pures HF 14 8 (j := 22) [(31, .bool true), (30, undef), (29, undef), (28, undef), (27, .bool true), (26, .bool true), (25, undef), (24, undef), (23, undef), (22, .bool true), (21, .bool true), (20, undef), (19, undef), (18, undef)] (by kernel_rfl) rfl ?_; clear HF; intro a HF
      refine from_done rfl ?_
      replace HF := HF.sub (σ' := [(31, .bool true), (1, .bool false), (0, .pointer (some ⟨g, 0, none⟩))]) (by kernel_rfl)
      refine cond_true HF rfl ?_
      refine wp_seq ?_
      refine from_start ?_
      refine from_pures HF 1 0 (j := 1) [(1, .bool false)] (by kernel_rfl) rfl ?_; clear HF; intro a HF
      refine from_done rfl ?_
      replace HF := HF.sub (σ' := [(1, .bool false), (31, .bool true), (0, .pointer (some ⟨g, 0, none⟩))]) (by kernel_rfl)
      refine wp_ret ?_
      exact ret1 rfl HF (.tmp HF rfl) (⟨by rw [show b.fitsE = false from decide_eq_false (by omega)], HM.below⟩)
    · have HF := HF.as (t := 17) (u := .bool false) rfl (by rw [hb17])
      have hd17 := of_decide_eq_false hb17
      refine from_pures HF 1 8 (j := 9) [(18, .pointer (some ⟨g, 2, none⟩))] (by kernel_rfl) rfl ?_; clear HF; intro a HF
      refine from_yl (S := fun wS => Mem w wS _) HF HM (i := 9) rfl rfl (d := 19) rfl (by decide) (v := .int .i64 b.lost) (Yl.load1 rfl rfl (by kernel_rfl) (fun _ h => h.oldCell hb rfl)) ?_; clear HF; intro a HF
      refine from_pures HF 3 10 (j := 13) [(22, .bool (decide ((b.lost : Int) < (0 : Int)))), (21, .bool (decide ((b.lost : Int) < (0 : Int)))), (20, .bool (decide ((b.lost : Int) < (0 : Int))))] (by kernel_rfl) rfl ?_; clear HF; intro a HF
      rcases Bool.eq_false_or_eq_true (decide ((b.lost : Int) < (0 : Int))) with hb22 | hb22
      · have HF := HF.as (t := 22) (u := .bool true) rfl (by rw [hb22])
        have hd22 := of_decide_eq_true hb22
        refine from_pures HF 9 13 (j := 22) [(31, .bool true), (30, undef), (29, undef), (28, undef), (27, .bool true), (26, .bool true), (25, undef), (24, undef), (23, undef)] (by kernel_rfl) rfl ?_; clear HF; intro a HF
        refine from_done rfl ?_
        replace HF := HF.sub (σ' := [(31, .bool true), (1, .bool false), (0, .pointer (some ⟨g, 0, none⟩))]) (by kernel_rfl)
        refine cond_true HF rfl ?_
        refine wp_seq ?_
        refine from_start ?_
        refine from_pures HF 1 0 (j := 1) [(1, .bool false)] (by kernel_rfl) rfl ?_; clear HF; intro a HF
        refine from_done rfl ?_
        replace HF := HF.sub (σ' := [(1, .bool false), (31, .bool true), (0, .pointer (some ⟨g, 0, none⟩))]) (by kernel_rfl)
        refine wp_ret ?_
        exact ret1 rfl HF (.tmp HF rfl) (⟨by rw [show b.fitsE = false from decide_eq_false (by omega)], HM.below⟩)
      · have HF := HF.as (t := 22) (u := .bool false) rfl (by rw [hb22])
        have hd22 := of_decide_eq_false hb22
        refine from_pures HF 1 13 (j := 14) [(23, .pointer (some ⟨g, 2, none⟩))] (by kernel_rfl) rfl ?_; clear HF; intro a HF
        refine from_yl (S := fun wS => Mem w wS _) HF HM (i := 14) rfl rfl (d := 24) rfl (by decide) (v := .int .i64 b.lost) (Yl.load1 rfl rfl (by kernel_rfl) (fun _ h => h.oldCell hb rfl)) ?_; clear HF; intro a HF
        refine from_pures HF 3 15 (j := 18) [(27, .bool (decide ((b.lost : Int) > (281474976710656 : Int)))), (26, .bool (decide ((b.lost : Int) > (281474976710656 : Int)))), (25, .bool (decide ((b.lost : Int) > (281474976710656 : Int))))] (by kernel_rfl) rfl ?_; clear HF; intro a HF
        rcases Bool.eq_false_or_eq_true (decide ((b.lost : Int) > (281474976710656 : Int))) with hb27 | hb27
        · have HF := HF.as (t := 27) (u := .bool true) rfl (by rw [hb27])
          have hd27 := of_decide_eq_true hb27
          refine from_pures HF 4 18 (j := 22) [(31, .bool true), (30, undef), (29, undef), (28, undef)] (by kernel_rfl) rfl ?_; clear HF; intro a HF
          refine from_done rfl ?_
          replace HF := HF.sub (σ' := [(31, .bool true), (1, .bool false), (0, .pointer (some ⟨g, 0, none⟩))]) (by kernel_rfl)
          refine cond_true HF rfl ?_
          refine wp_seq ?_
          refine from_start ?_
          refine from_pures HF 1 0 (j := 1) [(1, .bool false)] (by kernel_rfl) rfl ?_; clear HF; intro a HF
          refine from_done rfl ?_
          replace HF := HF.sub (σ' := [(1, .bool false), (31, .bool true), (0, .pointer (some ⟨g, 0, none⟩))]) (by kernel_rfl)
          refine wp_ret ?_
          exact ret1 rfl HF (.tmp HF rfl) (⟨by rw [show b.fitsE = false from decide_eq_false (by omega)], HM.below⟩)
        · have HF := HF.as (t := 27) (u := .bool false) rfl (by rw [hb27])
          have hd27 := of_decide_eq_false hb27
          refine from_pures HF 1 18 (j := 19) [(28, .pointer (some ⟨g, 3, none⟩))] (by kernel_rfl) rfl ?_; clear HF; intro a HF
          refine from_yl (S := fun wS => Mem w wS _) HF HM (i := 19) rfl rfl (d := 29) rfl (by decide) (v := .int .i64 b.next) (Yl.load1 rfl rfl (by kernel_rfl) (fun _ h => h.oldCell hb rfl)) ?_; clear HF; intro a HF
          refine from_pures HF 2 20 (j := 22) [(31, .bool ((b.next : Int) != (0 : Int))), (30, .bool ((b.next : Int) != (0 : Int)))] (by kernel_rfl) rfl ?_; clear HF; intro a HF
          refine from_done rfl ?_
          replace HF := HF.sub (σ' := [(31, .bool ((b.next : Int) != (0 : Int))), (1, .bool false), (0, .pointer (some ⟨g, 0, none⟩))]) (by kernel_rfl)
          rcases Bool.eq_false_or_eq_true ((b.next : Int) != (0 : Int)) with hb31 | hb31
          · have HF := HF.as (t := 31) (u := .bool true) rfl (by rw [hb31])
            have hd31 := bne_iff_ne.1 hb31
            refine cond_true HF rfl ?_
            refine wp_seq ?_
            refine from_start ?_
            refine from_pures HF 1 0 (j := 1) [(1, .bool false)] (by kernel_rfl) rfl ?_; clear HF; intro a HF
            refine from_done rfl ?_
            replace HF := HF.sub (σ' := [(1, .bool false), (31, .bool true), (0, .pointer (some ⟨g, 0, none⟩))]) (by kernel_rfl)
            refine wp_ret ?_
            exact ret1 rfl HF (.tmp HF rfl) (⟨by rw [show b.fitsE = false from decide_eq_false (by omega)], HM.below⟩)
          · have HF := HF.as (t := 31) (u := .bool false) rfl (by rw [hb31])
            have hd31 := bne_eq_false_iff_eq.1 hb31
            refine cond_false HF rfl ?_
            refine wp_skip ?_
            refine wp_seq ?_
            refine wp_seq ?_
            refine from_start ?_
            refine from_pures HF 1 0 (j := 1) [(32, .pointer (some ⟨g, 4, none⟩))] (by kernel_rfl) rfl ?_; clear HF; intro a HF
            refine from_yl (S := fun wS => Mem w wS _) HF HM (i := 1) rfl rfl (d := 33) rfl (by decide) (v := .slice A b.evs.length c) (Yl.load1 rfl rfl (by kernel_rfl) (fun _ h => h.oldCell hb rfl)) ?_; clear HF; intro a HF
            refine from_yl (S := fun wS => Mem w wS _) HF HM (i := 2) rfl rfl (d := 34) rfl (by decide) (v := .int .i64 ((b.evs.length : Nat) : Int)) (Yl.len rfl rfl (by kernel_rfl)) ?_; clear HF; intro a HF
            refine from_pures HF 1 3 (j := 4) [(35, .bool ((((b.evs.length : Nat) : Int) : Int) == (0 : Int)))] (by kernel_rfl) rfl ?_; clear HF; intro a HF
            refine from_done rfl ?_
            replace HF := HF.sub (σ' := [(35, .bool ((((b.evs.length : Nat) : Int) : Int) == (0 : Int))), (31, .bool false), (1, .bool false), (0, .pointer (some ⟨g, 0, none⟩))]) (by kernel_rfl)
            rcases Bool.eq_false_or_eq_true ((((b.evs.length : Nat) : Int) : Int) == (0 : Int)) with hb35 | hb35
            · have HF := HF.as (t := 35) (u := .bool true) rfl (by rw [hb35])
              have hd35 := eq_of_beq hb35
              refine cond_true HF rfl ?_
              refine wp_seq ?_
              refine from_start ?_
              refine from_pures HF 1 0 (j := 1) [(36, .pointer (some ⟨g, 2, none⟩))] (by kernel_rfl) rfl ?_; clear HF; intro a HF
              refine from_yl (S := fun wS => Mem w wS _) HF HM (i := 1) rfl rfl (d := 37) rfl (by decide) (v := .int .i64 b.lost) (Yl.load1 rfl rfl (by kernel_rfl) (fun _ h => h.oldCell hb rfl)) ?_; clear HF; intro a HF
              refine from_pures HF 2 2 (j := 4) [(1, .bool (decide ((b.lost : Int) > (0 : Int)))), (38, .bool (decide ((b.lost : Int) > (0 : Int))))] (by kernel_rfl) rfl ?_; clear HF; intro a HF
              refine from_done rfl ?_
              replace HF := HF.sub (σ' := [(1, .bool (decide ((b.lost : Int) > (0 : Int)))), (35, .bool true), (31, .bool false), (0, .pointer (some ⟨g, 0, none⟩))]) (by kernel_rfl)
              refine wp_ret ?_
              exact ret1 rfl HF (.tmp HF rfl) (⟨by rw [Bool.eq_iff_iff.2 (show (decide ((b.lost : Int) > (0 : Int))) = true ↔ b.fitsE = true by unfold Bk.fitsE; rw [headOk_nil (by omega)]; simp only [decide_eq_true_eq, beq_iff_eq]; omega)], HM.below⟩)
            · have HF := HF.as (t := 35) (u := .bool false) rfl (by rw [hb35])
              have hd35 := ne_of_beq_false hb35
              refine cond_false HF rfl ?_
              refine wp_skip ?_
              refine wp_seq ?_
              refine any_start (by kernel_rfl) (fun wS => Mem w wS []) [] ?_
              replace HM := HM.drew
              have HS := HM.picks (fs' := []) [] (by decide) rfl
              refine any_pures HF (fun _ => HS) (fun _ _ d _ _ h => by cases d <;> exact h) [0, 5] #[true, false, false, false, false, true, false, false, false] [(44, .pointer (some ⟨g, 1, none⟩)), (39, .pointer (some ⟨g, 4, none⟩))] (by kernel_rfl) ?_; clear HF; intro a HF
              refine any_yl HF HS (i := 1) rfl rfl (d := 40) rfl (by decide) (by kernel_rfl) (fun _ _ _ h => h) (v := .slice A b.evs.length c) (Yl.load1 rfl rfl (by kernel_rfl) (fun _ h => h.oldCell hb rfl)) ?_; clear HF; intro a HF
              obtain ⟨gA, oA, rfl, _⟩ := hr.some_at (Nat.lt_of_le_of_lt (Nat.zero_le _) (show 0 < b.evs.length from by omega)) (by decide)
              refine any_yl HF HS (i := 2) rfl rfl (d := 41) rfl (by decide) (by kernel_rfl) (fun _ _ _ h => h) (v := .pointer (some ⟨gA, oA, none⟩)) (Yl.indexAddr (ad := ⟨gA, oA, none⟩) (y := 0) (sz := 11) rfl rfl rfl (by omega) (by kernel_rfl)) ?_; clear HF; intro a HF
              refine any_pures HF (fun _ => HS) (fun _ _ d _ _ h => by cases d <;> exact h) [3] #[true, true, true, true, false, true, false, false, false] [(42, .pointer (some ⟨gA, oA + 2, none⟩))] (by kernel_rfl) ?_; clear HF; intro a HF
              refine any_yl HF HS (i := 4) rfl rfl (d := 43) rfl (by decide) (by kernel_rfl) (fun _ _ _ h => h) (v := .int .u8 ((b.evs.getD 0 Ev.zero).cpu : Int)) (Yl.load1 rfl rfl (by kernel_rfl) (fun _ h => (h.old hr).partAt evL_len (k := 0) (j := 2) (x := (b.evs.getD 0 Ev.zero)) ((getD_at Ev.zero (k := 0) (by first | omega | (simp; omega)))) rfl)) ?_; clear HF; intro a HF
              refine any_yl HF HS (i := 6) rfl rfl (d := 45) rfl (by decide) (by kernel_rfl) (fun _ _ _ h => h) (v := .int .u8 (b.cpu : Int)) (Yl.load1 rfl rfl (by kernel_rfl) (fun _ h => h.oldCell hb rfl)) ?_; clear HF; intro a HF
              refine any_pures HF (fun _ => HS) (fun _ _ d _ _ h => by cases d <;> exact h) [7, 8] #[true, true, true, true, true, true, true, true, true] [(1, .bool ((((b.evs.getD 0 Ev.zero).cpu : Int) : Int) == ((b.cpu : Int) : Int))), (46, .bool ((((b.evs.getD 0 Ev.zero).cpu : Int) : Int) == ((b.cpu : Int) : Int)))] (by kernel_rfl) ?_; clear HF; intro a HF
              refine any_done (by kernel_rfl) ?_
              replace HF := HF.sub (σ' := [(1, .bool ((((b.evs.getD 0 Ev.zero).cpu : Int) : Int) == ((b.cpu : Int) : Int))), (35, .bool false), (31, .bool false), (0, .pointer (some ⟨g, 0, none⟩))]) (by kernel_rfl)
              refine wp_ret ?_
              exact ret1 rfl HF (.tmp HF rfl) (⟨by rw [Bool.eq_iff_iff.2 (show ((((b.evs.getD 0 Ev.zero).cpu : Int) : Int) == ((b.cpu : Int) : Int)) = true ↔ b.fitsE = true by unfold Bk.fitsE; rw [headOk_cons (by omega)]; simp only [decide_eq_true_eq, beq_iff_eq]; omega)], HM.below⟩)
set_option maxRecDepth 100000 in
set_option maxHeartbeats 4000000 in
theorem fits2_any (g : Nat) (b : Bk) (A : Option Addr) (c : Nat) (w : World) (hb : w.heap[g]? = some (.cells (b.cells A c) 37 (0, 0))) :
    Calls Tryd.prog 54 #[.pointer (some ⟨g, 0, none⟩)] w (Is w (.bool b.fitsN)) := by
  refine calls_enter (vs := [.pointer (some ⟨g, 0, none⟩)]) Tryd.func54 rfl rfl (by kernel_rfl) (σ0 := [(0, .pointer (some ⟨g, 0, none⟩))]) rfl ?_
  intro a HF
  have HM := Mem.start w
  refine wp_seq ?_
  refine from_start ?_
  refine from_pures HF 1 0 (j := 1) [(1, .bool false)] (by kernel_rfl) rfl ?_; clear HF; intro a HF
  refine from_done rfl ?_
  refine wp_seq ?_
  refine from_start ?_
  refine from_pures HF 1 0 (j := 1) [(2, .pointer (some ⟨g, 3, none⟩))] (by kernel_rfl) rfl ?_; clear HF; intro a HF
  refine from_yl (S := fun wS => Mem w wS _) HF HM (i := 1) rfl rfl (d := 3) rfl (by decide) (v := .int .i64 b.next) (Yl.load1 rfl rfl (by kernel_rfl) (fun _ h => h.oldCell hb rfl)) ?_; clear HF; intro a HF
  refine from_pures HF 2 2 (j := 4) [(5, .bool (decide ((b.next : Int) ≥ (1 : Int)))), (4, .bool (decide ((b.next : Int) ≥ (1 : Int))))] (by kernel_rfl) rfl ?_; clear HF; intro a HF
  rcases Bool.eq_false_or_eq_true (decide ((b.next : Int) ≥ (1 : Int))) with hb5 | hb5
  · have HF := HF.as (t := 5) (u := .bool true) rfl (by rw [hb5])
    have hd5 := of_decide_eq_true hb5
    refine from_pures HF 1 4 (j := 5) [(6, .pointer (some ⟨g, 3, none⟩))] (by kernel_rfl) rfl ?_; clear HF; intro a HF
    refine from_yl (S := fun wS => Mem w wS _) HF HM (i := 5) rfl rfl (d := 7) rfl (by decide) (v := .int .i64 b.next) (Yl.load1 rfl rfl (by kernel_rfl) (fun _ h => h.oldCell hb rfl)) ?_; clear HF; intro a HF
    refine from_pures HF 3 6 (j := 9) [(10, .bool (decide ((b.next : Int) ≤ (281474976710657 : Int)))), (9, .bool (decide ((b.next : Int) ≤ (281474976710657 : Int)))), (8, .bool (decide ((b.next : Int) ≤ (281474976710657 : Int))))] (by kernel_rfl) rfl ?_; clear HF; intro a HF
    rcases Bool.eq_false_or_eq_true (decide ((b.next : Int) ≤ (281474976710657 : Int))) with hb10 | hb10
    · have HF := HF.as (t := 10) (u := .bool true) rfl (by rw [hb10])
      have hd10 := of_decide_eq_true hb10
      refine from_pures HF 1 9 (j := 10) [(11, .pointer (some ⟨g, 1, none⟩))] (by kernel_rfl) rfl ?_; clear HF; intro a HF
      refine from_yl (S := fun wS => Mem w wS _) HF HM (i := 10) rfl rfl (d := 12) rfl (by decide) (v := .int .u8 (b.cpu : Int)) (Yl.load1 rfl rfl (by kernel_rfl) (fun _ h => h.oldCell hb rfl)) ?_; clear HF; intro a HF
      refine from_pures HF 3 11 (j := 14) [(15, .bool (((b.cpu : Int) : Int) == (0 : Int))), (14, .bool (((b.cpu : Int) : Int) == (0 : Int))), (13, .bool (((b.cpu : Int) : Int) == (0 : Int)))] (by kernel_rfl) rfl ?_; clear HF; intro a HF
      rcases Bool.eq_false_or_eq_true (((b.cpu : Int) : Int) == (0 : Int)) with hb15 | hb15
      · have HF := HF.as (t := 15) (u := .bool true) rfl (by rw [hb15])
        have hd15 := eq_of_beq hb15
        refine from_pures HF 1 14 (j := 15) [(16, .pointer (some ⟨g, 2, none⟩))] (by kernel_rfl) rfl ?_; clear HF; intro a HF
        refine from_yl (S := fun wS => Mem w wS _) HF HM (i := 15) rfl rfl (d := 17) rfl (by decide) (v := .int .i64 b.lost) (Yl.load1 rfl rfl (by kernel_rfl) (fun _ h => h.oldCell hb rfl)) ?_; clear HF; intro a HF
        refine from_pures HF 3 16 (j := 19) [(20, .bool ((b.lost : Int) == (0 : Int))), (19, .bool ((b.lost : Int) == (0 : Int))), (18, .bool ((b.lost : Int) == (0 : Int)))] (by kernel_rfl) rfl ?_; clear HF; intro a HF
        rcases Bool.eq_false_or_eq_true ((b.lost : Int) == (0 : Int)) with hb20 | hb20
        · have HF := HF.as (t := 20) (u := .bool true) rfl (by rw [hb20])
          have hd20 := eq_of_beq hb20
          refine from_pures HF 1 19 (j := 20) [(21, .pointer (some ⟨g, 4, none⟩))] (by kernel_rfl) rfl ?_; clear HF; intro a HF
          refine from_yl (S := fun wS => Mem w wS _) HF HM (i := 20) rfl rfl (d := 22) rfl (by decide) (v := .slice A b.evs.length c) (Yl.load1 rfl rfl (by kernel_rfl) (fun _ h => h.oldCell hb rfl)) ?_; clear HF; intro a HF
          refine from_yl (S := fun wS => Mem w wS _) HF HM (i := 21) rfl rfl (d := 23) rfl (by decide) (v := .int .i64 ((b.evs.length : Nat) : Int)) (Yl.len rfl rfl (by kernel_rfl)) ?_; clear HF; intro a HF
          refine from_pures HF 3 22 (j := 25) [(1, .bool ((((b.evs.length : Nat) : Int) : Int) == (0 : Int))), (25, .bool ((((b.evs.length : Nat) : Int) : Int) == (0 : Int))), (24, .bool ((((b.evs.length : Nat) : Int) : Int) == (0 : Int)))] (by kernel_rfl) rfl ?_; clear HF; intro a HF
          refine from_done rfl ?_
          replace HF := HF.sub (σ' := [(1, .bool ((((b.evs.length : Nat) : Int) : Int) == (0 : Int)))]) (by kernel_rfl)
          refine wp_ret ?_
          exact ret1 rfl HF (.tmp HF rfl) (⟨by rw [Bool.eq_iff_iff.2 (show ((((b.evs.length : Nat) : Int) : Int) == (0 : Int)) = true ↔ b.fitsN = true by unfold Bk.fitsN; simp only [decide_eq_true_eq, beq_iff_eq]; omega)], HM.below⟩)
        · have HF := HF.as (t := 20) (u := .bool false) rfl (by rw [hb20])
          have hd20 := ne_of_beq_false hb20
          refine from_pures HF 6 19 (j := 25) [(1, .bool false), (25, .bool false), (24, undef), (23, undef), (22, undef), (21, undef)] (by kernel_rfl) rfl ?_; clear HF; intro a HF
          refine from_done rfl ?_
          replace HF := HF.sub (σ' := [(1, .bool false)]) (by kernel_rfl)
          refine wp_ret ?_
          exact ret1 rfl HF (.tmp HF rfl) (⟨by rw [show b.fitsN = false from decide_eq_false (by omega)], HM.below⟩)
      · have HF := HF.as (t := 15) (u := .bool false) rfl (by rw [hb15])
        have hd15 := ne_of_beq_false hb15
        refine from_pures HF 11 14 (j := 25) [(1, .bool false), (25, .bool false), (24, undef), (23, undef), (22, undef), (21, undef), (20, .bool false), (19, .bool false), (18, undef), (17, undef), (16, undef)] (by kernel_rfl) rfl ?_; clear HF; intro a HF
        refine from_done rfl ?_
        replace HF := HF.sub (σ' := [(1, .bool false)]) (by kernel_rfl)
        refine wp_ret ?_
        exact ret1 rfl HF (.tmp HF rfl) (⟨by rw [show b.fitsN = false from decide_eq_false (by omega)], HM.below⟩)
    · have HF := HF.as (t := 10) (u := .bool false) rfl (by rw [hb10])
      have hd10 := of_decide_eq_false hb10
      refine from_pures HF 16 9 (j := 25) [(1, .bool false), (25, .bool false), (24, undef), (23, undef), (22, undef), (21, undef), (20, .bool false), (19, .bool false), (18, undef), (17, undef), (16, undef), (15, .bool false), (14, .bool false), (13, undef), (12, undef), (11, undef)] (by kernel_rfl) rfl ?_; clear HF; intro a HF
      refine from_done rfl ?_
      replace HF := HF.sub (σ' := [(1, .bool false)]) (by kernel_rfl)
      refine wp_ret ?_
      exact ret1 rfl HF (.tmp HF rfl) (⟨by rw [show b.fitsN = false from decide_eq_false (by omega)], HM.below⟩)
  · have HF := HF.as (t := 5) (u := .bool false) rfl (by rw [hb5])
    have hd5 := of_decide_eq_false hb5
    refine from_pures HF 21 4 (j := 25) [(1, .bool false), (25, .bool false), (24, undef), (23, undef), (22, undef), (21, undef), (20, .bool false), (19, .bool false), (18, undef), (17, undef), (16, undef), (15, .bool false), (14, .bool false), (13, undef), (12, undef), (11, undef), (10, .bool false), (9, .bool false), (8, undef), (7, undef), (6, undef)] (by kernel_rfl) rfl ?_; clear HF; intro a HF
    refine from_done rfl ?_
    replace HF := HF.sub (σ' := [(1, .bool false)]) (by kernel_rfl)
    refine wp_ret ?_
    exact ret1 rfl HF (.tmp HF rfl) (⟨by rw [show b.fitsN = false from decide_eq_false (by omega)], HM.below⟩)
set_option maxRecDepth 100000 in
set_option maxHeartbeats 4000000 in
theorem fits_any (b : Bk) (hok : b.Ok) (A : Option Addr) (c B : Nat) (w : World) (hL : LaidX B w) (hB : B ≤ w.heap.size) (hr : Rd w w.heap.size 11 A b.evs.length (b.evs.flatMap evL)) (hn : b.evs.length ≤ 1000000) :
    Calls Tryd.prog 32 #[.agg (b.cells A c)] w (Is w (.bool b.fits)) := by
  refine calls_enter (vs := [.agg (b.cells A c)]) Tryd.func32 rfl rfl (by kernel_rfl) (σ0 := [(0, .agg (b.cells A c))]) rfl ?_
  intro a HF
  have HM := Mem.start w
  refine wp_seq ?_
  refine from_start ?_
  refine from_op HF (i := 0) rfl rfl ?_
  refine e_box HF HM (cs := (b.cells A c)) rfl rfl rfl rfl (by decide) ?_
  clear HF HM; intro a w1 g1 HF HM
  refine from_pures HF 1 1 (j := 2) [(2, .bool false)] (by kernel_rfl) rfl ?_; clear HF; intro a HF
  refine from_done rfl ?_
  replace HF := HF.sub (σ' := [(2, .bool false), (1, .pointer (some ⟨g1, 0, none⟩))]) (by kernel_rfl)
  refine wp_seq ?_
  refine from_start ?_
  refine from_op HF (i := 0) rfl rfl ?_
  refine e_makeMap HF HM rfl rfl (by decide) ?_
  clear HF HM; intro a w5 g5 HF HM
  refine from_yl (S := fun wS => Mem w wS _) HF HM (i := 1) rfl rfl (d := 6) rfl (by decide) (v := .func (.func 52) #[] #[.pointer (some ⟨g1, 0, none⟩)]) (Yl.makeFunc (fst := []) (caps := [.pointer (some ⟨g1, 0, none⟩)]) rfl rfl rfl) ?_; clear HF; intro a HF
  refine from_op HF (i := 2) rfl rfl ?_
  refine e_mapNew HF HM (i := 0) (kt := 5) (et := 24) (kd := .int .u8) (Or.inr rfl) rfl (by kernel_rfl) (by kernel_rfl) rfl rfl rfl rfl (by first | trivial | rfl) (rfl) ?_
  clear HM; intro w1_2 HM
  refine from_yl (S := fun wS => Mem w wS _) HF HM (i := 3) rfl rfl (d := 7) rfl (by decide) (v := .func (.func 54) #[] #[.pointer (some ⟨g1, 0, none⟩)]) (Yl.makeFunc (fst := []) (caps := [.pointer (some ⟨g1, 0, none⟩)]) rfl rfl rfl) ?_; clear HF; intro a HF
  refine from_op HF (i := 4) rfl rfl ?_
  refine e_mapNew HF HM (i := 0) (kt := 5) (et := 24) (kd := .int .u8) (Or.inr rfl) rfl (by kernel_rfl) (by kernel_rfl) rfl rfl rfl rfl (by first | trivial | rfl) (rfl) ?_
  clear HM; intro w1_4 HM
  refine from_pures HF 2 5 (j := 7) [(3, .map (some g5)), (8, .map (some g5))] (by kernel_rfl) rfl ?_; clear HF; intro a HF
  refine from_done rfl ?_
  replace HF := HF.sub (σ' := [(3, .map (some g5)), (2, .bool false), (1, .pointer (some ⟨g1, 0, none⟩))]) (by kernel_rfl)
  rcases kinds3 b.kind with hk | hk | ⟨hk, hk2⟩
  ·
    refine wp_seq ?_
    refine from_start ?_
    refine from_pures HF 2 0 (j := 2) [(10, .pointer (some ⟨g1, 0, none⟩)), (9, .map (some g5))] (by kernel_rfl) rfl ?_; clear HF; intro a HF
    refine from_yl (S := fun wS => Mem w wS _) HF HM (i := 2) rfl rfl (d := 11) rfl (by decide) (v := .int .u8 (b.kind : Int)) (Yl.load1 rfl rfl (by kernel_rfl) (fun _ h => h.cell (i := 1) rfl rfl)) ?_; clear HF; intro a HF
    refine from_yl (S := fun wS => Mem w wS _) HF HM (i := 3) rfl rfl (d := 12) rfl (by decide) (v := .func (.func 52) #[] #[.pointer (some ⟨g1, 0, none⟩)]) (Yl.lookupHas (kt := 5) (et := 24) (kd := .int .u8) (j := 0) (es := (#[].push { key := .int .u8 1, val := .func (.func 52) #[] #[.pointer (some ⟨g1, 0, none⟩)], born := 0 }).push { key := .int .u8 2, val := .func (.func 54) #[] #[.pointer (some ⟨g1, 0, none⟩)], born := 0 + 1 }) (clock := 0 + 1 + 1) rfl (by kernel_rfl) (by kernel_rfl) rfl rfl (fun _ h => h.objAt (i := 0) rfl) (by first | trivial | rfl) (by rw [hk]; rfl)) ?_; clear HF; intro a HF
    refine from_pures HF 1 4 (j := 5) [(4, .func (.func 52) #[] #[.pointer (some ⟨g1, 0, none⟩)])] (by kernel_rfl) rfl ?_; clear HF; intro a HF
    refine from_done rfl ?_
    replace HF := HF.sub (σ' := [(4, .func (.func 52) #[] #[.pointer (some ⟨g1, 0, none⟩)]), (2, .bool false), (1, .pointer (some ⟨g1, 0, none⟩))]) (by kernel_rfl)
    replace HM := HM.picks (fs' := [.blk g1 (b.cells A c) 37]) [1] (by decide) rfl
    refine wp_seq ?_
    refine from_start ?_
    refine from_pures HF 1 0 (j := 1) [(13, .func (.func 52) #[] #[.pointer (some ⟨g1, 0, none⟩)])] (by kernel_rfl) rfl ?_; clear HF; intro a HF
    refine from_yl (S := fun wS => Mem w wS _) HF HM (i := 1) rfl rfl (d := 14) rfl (by decide) (v := .bool true) (Yl.neqFunc rfl rfl rfl (by kernel_rfl)) ?_; clear HF; intro a HF
    refine from_pures HF 2 2 (j := 4) [(16, .func (.func 52) #[] #[.pointer (some ⟨g1, 0, none⟩)]), (15, .bool true)] (by kernel_rfl) rfl ?_; clear HF; intro a HF
    refine from_op HF (i := 4) rfl rfl ?_
    refine e_callv HF (f := 52) (vs := []) (fst := []) (caps := [.pointer (some ⟨g1, 0, none⟩)]) rfl rfl rfl (by kernel_rfl) rfl (by decide) (fits1_any _ b hok A c B _ (hL.mem HM hB) (HM.le hB) (HM.old hr) hn (HM.blk (i := 0) rfl)) ?_
    rintro _ w17 ⟨rfl, hbw⟩
    refine ⟨_, rfl, ?_⟩
    replace HM := HM.call hbw
    clear HF; intro a HF
    refine from_pures HF 2 5 (j := 7) [(2, .bool b.fitsE), (18, .bool b.fitsE)] (by kernel_rfl) rfl ?_; clear HF; intro a HF
    refine from_done rfl ?_
    replace HF := HF.sub (σ' := [(2, .bool b.fitsE), (1, .pointer (some ⟨g1, 0, none⟩))]) (by kernel_rfl)
    refine wp_ret ?_
    exact ret1 rfl HF (.tmp HF rfl) (⟨by unfold Bk.fits; rw [if_pos hk], HM.below⟩)
  ·
    refine wp_seq ?_
    refine from_start ?_
    refine from_pures HF 2 0 (j := 2) [(10, .pointer (some ⟨g1, 0, none⟩)), (9, .map (some g5))] (by kernel_rfl) rfl ?_; clear HF; intro a HF
    refine from_yl (S := fun wS => Mem w wS _) HF HM (i := 2) rfl rfl (d := 11) rfl (by decide) (v := .int .u8 (b.kind : Int)) (Yl.load1 rfl rfl (by kernel_rfl) (fun _ h => h.cell (i := 1) rfl rfl)) ?_; clear HF; intro a HF
    refine from_yl (S := fun wS => Mem w wS _) HF HM (i := 3) rfl rfl (d := 12) rfl (by decide) (v := .func (.func 54) #[] #[.pointer (some ⟨g1, 0, none⟩)]) (Yl.lookupHas (kt := 5) (et := 24) (kd := .int .u8) (j := 1) (es := (#[].push { key := .int .u8 1, val := .func (.func 52) #[] #[.pointer (some ⟨g1, 0, none⟩)], born := 0 }).push { key := .int .u8 2, val := .func (.func 54) #[] #[.pointer (some ⟨g1, 0, none⟩)], born := 0 + 1 }) (clock := 0 + 1 + 1) rfl (by kernel_rfl) (by kernel_rfl) rfl rfl (fun _ h => h.objAt (i := 0) rfl) (by first | trivial | rfl) (by rw [hk]; rfl)) ?_; clear HF; intro a HF
    refine from_pures HF 1 4 (j := 5) [(4, .func (.func 54) #[] #[.pointer (some ⟨g1, 0, none⟩)])] (by kernel_rfl) rfl ?_; clear HF; intro a HF
    refine from_done rfl ?_
    replace HF := HF.sub (σ' := [(4, .func (.func 54) #[] #[.pointer (some ⟨g1, 0, none⟩)]), (2, .bool false), (1, .pointer (some ⟨g1, 0, none⟩))]) (by kernel_rfl)
    replace HM := HM.picks (fs' := [.blk g1 (b.cells A c) 37]) [1] (by decide) rfl
    refine wp_seq ?_
    refine from_start ?_
    refine from_pures HF 1 0 (j := 1) [(13, .func (.func 54) #[] #[.pointer (some ⟨g1, 0, none⟩)])] (by kernel_rfl) rfl ?_; clear HF; intro a HF
    refine from_yl (S := fun wS => Mem w wS _) HF HM (i := 1) rfl rfl (d := 14) rfl (by decide) (v := .bool true) (Yl.neqFunc rfl rfl rfl (by kernel_rfl)) ?_; clear HF; intro a HF
    refine from_pures HF 2 2 (j := 4) [(16, .func (.func 54) #[] #[.pointer (some ⟨g1, 0, none⟩)]), (15, .bool true)] (by kernel_rfl) rfl ?_; clear HF; intro a HF
    refine from_op HF (i := 4) rfl rfl ?_
    refine e_callv HF (f := 54) (vs := []) (fst := []) (caps := [.pointer (some ⟨g1, 0, none⟩)]) rfl rfl rfl (by kernel_rfl) rfl (by decide) (fits2_any _ b A c _ (HM.blk (i := 0) rfl)) ?_
    rintro _ w17 ⟨rfl, hbw⟩
    refine ⟨_, rfl, ?_⟩
    replace HM := HM.call hbw
    clear HF; intro a HF
    refine from_pures HF 2 5 (j := 7) [(2, .bool b.fitsN), (18, .bool b.fitsN)] (by kernel_rfl) rfl ?_; clear HF; intro a HF
    refine from_done rfl ?_
    replace HF := HF.sub (σ' := [(2, .bool b.fitsN), (1, .pointer (some ⟨g1, 0, none⟩))]) (by kernel_rfl)
    refine wp_ret ?_
    exact ret1 rfl HF (.tmp HF rfl) (⟨by unfold Bk.fits; rw [if_neg (by omega), if_pos hk], HM.below⟩)
  ·
    refine wp_seq ?_
    refine from_start ?_
    refine from_pures HF 2 0 (j := 2) [(10, .pointer (some ⟨g1, 0, none⟩)), (9, .map (some g5))] (by kernel_rfl) rfl ?_; clear HF; intro a HF
    refine from_yl (S := fun wS => Mem w wS _) HF HM (i := 2) rfl rfl (d := 11) rfl (by decide) (v := .int .u8 (b.kind : Int)) (Yl.load1 rfl rfl (by kernel_rfl) (fun _ h => h.cell (i := 1) rfl rfl)) ?_; clear HF; intro a HF
    refine from_yl (S := fun wS => Mem w wS _) HF HM (i := 3) rfl rfl (d := 12) rfl (by decide) (v := .nilFunc) (Yl.lookupNone (kt := 5) (et := 24) (kd := .int .u8) (es := (#[].push { key := .int .u8 1, val := .func (.func 52) #[] #[.pointer (some ⟨g1, 0, none⟩)], born := 0 }).push { key := .int .u8 2, val := .func (.func 54) #[] #[.pointer (some ⟨g1, 0, none⟩)], born := 0 + 1 }) (clock := 0 + 1 + 1) rfl (by kernel_rfl) (by kernel_rfl) rfl rfl (fun _ h => h.objAt (i := 0) rfl) (by first | trivial | rfl) (by have e1 : ((b.kind : Int) == 1) = false := (by rw [beq_eq_false_iff_ne]; omega); have e2 : ((b.kind : Int) == 2) = false := (by rw [beq_eq_false_iff_ne]; omega); simp [Instr.findNow, Instr.sameNow, e1, e2]) (by kernel_rfl)) ?_; clear HF; intro a HF
    refine from_pures HF 1 4 (j := 5) [(4, .nilFunc)] (by kernel_rfl) rfl ?_; clear HF; intro a HF
    refine from_done rfl ?_
    replace HF := HF.sub (σ' := [(4, .nilFunc), (2, .bool false), (1, .pointer (some ⟨g1, 0, none⟩))]) (by kernel_rfl)
    replace HM := HM.picks (fs' := [.blk g1 (b.cells A c) 37]) [1] (by decide) rfl
    refine wp_seq ?_
    refine from_start ?_
    refine from_pures HF 1 0 (j := 1) [(13, .nilFunc)] (by kernel_rfl) rfl ?_; clear HF; intro a HF
    refine from_yl (S := fun wS => Mem w wS _) HF HM (i := 1) rfl rfl (d := 14) rfl (by decide) (v := .bool false) (Yl.neqNil rfl rfl rfl (by kernel_rfl)) ?_; clear HF; intro a HF
    refine from_pures HF 5 2 (j := 7) [(2, .bool false), (18, .bool false), (17, undef), (16, undef), (15, .bool false)] (by kernel_rfl) rfl ?_; clear HF; intro a HF
    refine from_done rfl ?_
    replace HF := HF.sub (σ' := [(2, .bool false), (1, .pointer (some ⟨g1, 0, none⟩))]) (by kernel_rfl)
    refine wp_ret ?_
    exact ret1 rfl HF (.tmp HF rfl) (⟨by unfold Bk.fits; rw [if_neg hk, if_neg hk2], HM.below⟩)
set_option maxRecDepth 100000 in
set_option maxHeartbeats 4000000 in
theorem base_any (b : Bk) (A : Option Addr) (c : Nat) (w : World) (hr : Rd w w.heap.size 11 A b.evs.length (b.evs.flatMap evL)) (h0 : b.evs.length ≠ 0) :
    Calls Tryd.prog 40 #[.agg (b.cells A c)] w (Is w (.agg b.base.cells)) := by
  refine calls_enter (vs := [.agg (b.cells A c)]) Tryd.func40 rfl rfl (by kernel_rfl) (σ0 := [(0, .agg (b.cells A c))]) rfl ?_
  intro a HF
  have HM := Mem.start w
  refine wp_seq ?_
  refine from_start ?_
  refine from_op HF (i := 0) rfl rfl ?_
  refine e_box HF HM (cs := (b.cells A c)) rfl rfl rfl rfl (by decide) ?_
  clear HF HM; intro a w1 g1 HF HM
  refine from_op HF (i := 1) rfl rfl ?_
  refine e_alloc HF HM (cs := #[.int .i64 0, .int .i64 0]) rfl (by kernel_rfl) rfl (by decide) ?_
  clear HF HM; intro a w2 g2 HF HM
  refine from_done rfl ?_
  replace HF := HF.sub (σ' := [(2, .pointer (some ⟨g2, 0, none⟩)), (1, .pointer (some ⟨g1, 0, none⟩))]) (by kernel_rfl)
  refine wp_seq ?_
  refine any_start (by kernel_rfl) (fun wS => Mem w wS [.blk g2 #[.int .i64 0, .int .i64 0] 27, .blk g1 (b.cells A c) 37]) [11] ?_
  replace HM := HM.drew
  have HS := HM.picks (fs' := [.blk g2 #[.int .i64 0, .int .i64 0] 27, .blk g1 (b.cells A c) 37]) [0, 1] (by decide) rfl
  refine any_pures HF (fun _ => HS) (fun _ _ d _ _ h => by cases d <;> exact h) [0, 5] #[true, false, false, false, false, true, false, false, false, false, false, false] [(8, .pointer (some ⟨g1, 4, none⟩)), (3, .pointer (some ⟨g1, 4, none⟩))] (by kernel_rfl) ?_; clear HF; intro a HF
  refine any_yl HF HS (i := 1) rfl rfl (d := 4) rfl (by decide) (by kernel_rfl) (fun _ _ _ h => h) (v := .slice A b.evs.length c) (Yl.load1 rfl rfl (by kernel_rfl) (fun _ h => h.cell (i := 1) rfl rfl)) ?_; clear HF; intro a HF
  obtain ⟨gA, oA, rfl, _⟩ := hr.some_at (Nat.lt_of_le_of_lt (Nat.zero_le _) (show 0 < b.evs.length from by omega)) (by decide)
  refine any_yl HF HS (i := 2) rfl rfl (d := 5) rfl (by decide) (by kernel_rfl) (fun _ _ _ h => h) (v := .pointer (some ⟨gA, oA, none⟩)) (Yl.indexAddr (ad := ⟨gA, oA, none⟩) (y := 0) (sz := 11) rfl rfl rfl (by omega) (by kernel_rfl)) ?_; clear HF; intro a HF
  refine any_pures HF (fun _ => HS) (fun _ _ d _ _ h => by cases d <;> exact h) [3] #[true, true, true, true, false, true, false, false, false, false, false, false] [(6, .pointer (some ⟨gA, oA, none⟩))] (by kernel_rfl) ?_; clear HF; intro a HF
  refine any_yl HF HS (i := 4) rfl rfl (d := 7) rfl (by decide) (by kernel_rfl) (fun _ _ _ h => h) (v := .int .i64 ((b.evs.getD 0 Ev.zero).seq)) (Yl.load1 rfl rfl (by kernel_rfl) (fun _ h => (by have := (h.old hr).partAt evL_len (k := 0) (j := 0) (x := (b.evs.getD 0 Ev.zero)) ((getD_at Ev.zero (k := 0) (by first | omega | (simp; omega)))) rfl; simpa using this))) ?_; clear HF; intro a HF
  refine any_yl HF HS (i := 6) rfl rfl (d := 9) rfl (by decide) (by kernel_rfl) (fun _ _ _ h => h) (v := .slice (some ⟨gA, oA, none⟩) b.evs.length c) (Yl.load1 rfl rfl (by kernel_rfl) (fun _ h => h.cell (i := 1) rfl rfl)) ?_; clear HF; intro a HF
  refine any_yl HF HS (i := 7) rfl rfl (d := 10) rfl (by decide) (by kernel_rfl) (fun _ _ _ h => h) (v := .pointer (some ⟨gA, oA, none⟩)) (Yl.indexAddr (ad := ⟨gA, oA, none⟩) (y := 0) (sz := 11) rfl rfl rfl (by omega) (by kernel_rfl)) ?_; clear HF; intro a HF
  refine any_pures HF (fun _ => HS) (fun _ _ d _ _ h => by cases d <;> exact h) [8] #[true, true, true, true, true, true, true, true, true, false, false, false] [(11, .pointer (some ⟨gA, oA + 1, none⟩))] (by kernel_rfl) ?_; clear HF; intro a HF
  refine any_yl HF HS (i := 9) rfl rfl (d := 12) rfl (by decide) (by kernel_rfl) (fun _ _ _ h => h) (v := .int .i64 ((b.evs.getD 0 Ev.zero).time)) (Yl.load1 rfl rfl (by kernel_rfl) (fun _ h => (h.old hr).partAt evL_len (k := 0) (j := 1) (x := (b.evs.getD 0 Ev.zero)) ((getD_at Ev.zero (k := 0) (by first | omega | (simp; omega)))) rfl)) ?_; clear HF; intro a HF
  refine any_yl HF HS (i := 10) rfl rfl (d := 13) rfl (by decide) (by kernel_rfl) (fun _ _ _ h => h) (v := .agg #[.int .i64 ((b.evs.getD 0 Ev.zero).seq), .int .i64 ((b.evs.getD 0 Ev.zero).time)]) (Yl.build (vs := [(0, .int .i64 ((b.evs.getD 0 Ev.zero).seq)), (1, .int .i64 ((b.evs.getD 0 Ev.zero).time))]) rfl (by kernel_rfl) (by kernel_rfl)) ?_; clear HF; intro a HF
  refine any_all [11] (by kernel_rfl) rfl ?_
  refine all_cons ?_ all_nil
  refine any_op HF (i := 11) rfl rfl ?_
  refine e_storeAll HF HM (i := 0) (cs := #[.int .i64 0, .int .i64 0]) (ds := #[.int .i64 ((b.evs.getD 0 Ev.zero).seq), .int .i64 ((b.evs.getD 0 Ev.zero).time)]) rfl rfl rfl rfl ⟨(by kernel_rfl), (by kernel_rfl)⟩ rfl rfl (by simp [Value.oneCell']) rfl ?_
  clear HM; intro w1_11 HM
  refine noS (by kernel_rfl) ?_
  refine any_done (by kernel_rfl) ?_
  replace HF := HF.sub (σ' := [(2, .pointer (some ⟨g2, 0, none⟩))]) (by kernel_rfl)
  replace HM := HM.picks (fs' := [.blk g2 #[.int .i64 ((b.evs.getD 0 Ev.zero).seq), .int .i64 ((b.evs.getD 0 Ev.zero).time)] 27]) [0] (by decide) rfl
  refine wp_ret ?_
  exact ret1 rfl HF (.cellS (i := 0) HF HM rfl rfl ⟨(by kernel_rfl), (by kernel_rfl)⟩ rfl) (⟨by rw [base_getD]; rfl, HM.below⟩)
set_option maxRecDepth 100000 in
set_option maxHeartbeats 4000000 in
theorem vwrite_any (x : Nat) (hx : x < 18446744073709551616) (w : World) :
    Calls Tryd.prog 55 #[.int .u64 (x : Int)] w (BytesOne w (vbytes x)) := by
  refine calls_enter (vs := [.int .u64 (x : Int)]) Tryd.func55 rfl rfl (by kernel_rfl) (σ0 := [(0, .int .u64 (x : Int))]) rfl ?_
  intro a HF
  have HM := Mem.start w
  refine wp_seq ?_
  refine from_start ?_
  refine from_pures HF 1 0 (j := 1) [(2, .slice none 0 0)] (by kernel_rfl) rfl ?_; clear HF; intro a HF
  refine from_done rfl ?_
  refine wp_seq ?_
  refine from_start ?_
  refine from_pures HF 1 0 (j := 1) [(3, .int .u64 (x : Int))] (by kernel_rfl) rfl ?_; clear HF; intro a HF
  refine from_op HF (i := 1) rfl rfl ?_
  refine e_call HF (vs := [.slice none 0 0, .int .u64 (x : Int)]) rfl (by kernel_rfl) (by kernel_rfl) rfl (by decide) (vwrite_put hx) ?_
  rintro _ w4 ⟨⟨A4, c4, rfl, ho, hc4⟩, hbw⟩
  refine ⟨_, rfl, ?_⟩
  replace HM := HM.callRow hbw ho
  clear HF; intro a HF
  refine from_pures HF 1 2 (j := 3) [(2, .slice A4 ((vbytes x).length) c4)] (by kernel_rfl) rfl ?_; clear HF; intro a HF
  refine from_done rfl ?_
  replace HF := HF.sub (σ' := [(2, .slice A4 ((vbytes x).length) c4)]) (by kernel_rfl)
  refine wp_ret ?_
  exact ret1 rfl HF (.tmp HF rfl) (⟨⟨_, _, rfl, HM.own (i := 0) rfl, hc4⟩, HM.below⟩)
theorem all4 {w : World} {a b c d : Part} (ha : Rd w w.heap.size 1 a.A a.l.length (a.l.map B8)) (hb : Rd w w.heap.size 1 b.A b.l.length (b.l.map B8)) (hc : Rd w w.heap.size 1 c.A c.l.length (c.l.map B8)) (hd : Rd w w.heap.size 1 d.A d.l.length (d.l.map B8)) : ∀ p ∈ [a, b, c, d], Rd w w.heap.size 1 p.A p.l.length (p.l.map B8) := by
  intro p hp
  simp only [List.mem_cons, List.not_mem_nil, or_false] at hp
  rcases hp with rfl | rfl | rfl | rfl
  · exact ha
  · exact hb
  · exact hc
  · exact hd
set_option maxRecDepth 100000 in
set_option maxHeartbeats 4000000 in
theorem body_any (b : Bk) (hok : b.Ok) (A : Option Addr) (c B : Nat) (w : World) (hL : LaidX B w) (hB : B ≤ w.heap.size) (hr : Rd w w.heap.size 11 A b.evs.length (b.evs.flatMap evL)) (hn : b.evs.length ≤ 1000000) (hf : b.fits = true) :
    Calls Tryd.prog 33 #[.agg (b.cells A c)] w (BytesOne w b.body) := by
  have hcpu := hok.cpu
  refine calls_enter (vs := [.agg (b.cells A c)]) Tryd.func33 rfl rfl (by kernel_rfl) (σ0 := [(0, .agg (b.cells A c))]) rfl ?_
  intro a HF
  have HM := Mem.start w
  refine wp_seq ?_
  refine from_start ?_
  refine from_op HF (i := 0) rfl rfl ?_
  refine e_box HF HM (cs := (b.cells A c)) rfl rfl rfl rfl (by decide) ?_
  clear HF HM; intro a w1 g1 HF HM
  refine from_pures HF 1 1 (j := 2) [(2, .slice none 0 0)] (by kernel_rfl) rfl ?_; clear HF; intro a HF
  refine from_done rfl ?_
  replace HF := HF.sub (σ' := [(2, .slice none 0 0), (1, .pointer (some ⟨g1, 0, none⟩))]) (by kernel_rfl)
  refine wp_seq ?_
  refine wp_seq ?_
  refine from_start ?_
  refine from_pures HF 1 0 (j := 1) [(7, .pointer (some ⟨g1, 0, none⟩))] (by kernel_rfl) rfl ?_; clear HF; intro a HF
  refine from_yl (S := fun wS => Mem w wS _) HF HM (i := 1) rfl rfl (d := 8) rfl (by decide) (v := .int .u8 (b.kind : Int)) (Yl.load1 rfl rfl (by kernel_rfl) (fun _ h => h.cell (i := 0) rfl rfl)) ?_; clear HF; intro a HF
  refine from_pures HF 1 2 (j := 3) [(9, .bool (((b.kind : Int) : Int) == (2 : Int)))] (by kernel_rfl) rfl ?_; clear HF; intro a HF
  refine from_done rfl ?_
  replace HF := HF.sub (σ' := [(9, .bool (((b.kind : Int) : Int) == (2 : Int))), (2, .slice none 0 0), (1, .pointer (some ⟨g1, 0, none⟩))]) (by kernel_rfl)
  rcases Bool.eq_false_or_eq_true (((b.kind : Int) : Int) == (2 : Int)) with hb9 | hb9
  · have HF := HF.as (t := 9) (u := .bool true) rfl (by rw [hb9])
    have hd9 := eq_of_beq hb9
    have hk : b.kind = 2 := by omega
    obtain ⟨n1, n2, n3, n4, n5⟩ := fits_next hf hk
    refine cond_true HF rfl ?_
    refine wp_seq ?_
    refine from_start ?_
    refine from_pures HF 1 0 (j := 1) [(10, .pointer (some ⟨g1, 3, none⟩))] (by kernel_rfl) rfl ?_; clear HF; intro a HF
    refine from_yl (S := fun wS => Mem w wS _) HF HM (i := 1) rfl rfl (d := 11) rfl (by decide) (v := .int .i64 b.next) (Yl.load1 rfl rfl (by kernel_rfl) (fun _ h => h.cell (i := 0) rfl rfl)) ?_; clear HF; intro a HF
    refine from_pures HF 1 2 (j := 3) [(12, .int .u64 (IntKind.u64.wrap b.next))] (by kernel_rfl) rfl ?_; clear HF; intro a HF
    replace HF := HF.as (t := 12) (u := .int .u64 (b.next.toNat : Int)) rfl (u64_nat (by omega) (by omega))
    refine from_op HF (i := 3) rfl rfl ?_
    refine e_call HF (vs := [.int .u64 (b.next.toNat : Int)]) rfl (by kernel_rfl) (by kernel_rfl) rfl (by decide) (vwrite_any b.next.toNat (by omega) _) ?_
    rintro _ w13 ⟨⟨A13, c13, rfl, ho, hc13⟩, hbw⟩
    refine ⟨_, rfl, ?_⟩
    replace HM := HM.callRow hbw ho
    clear HF; intro a HF
    refine from_pures HF 1 4 (j := 5) [(2, .slice A13 ((vbytes b.next.toNat).length) c13)] (by kernel_rfl) rfl ?_; clear HF; intro a HF
    refine from_done rfl ?_
    replace HF := HF.sub (σ' := [(2, .slice A13 ((vbytes b.next.toNat).length) c13), (9, .bool true), (1, .pointer (some ⟨g1, 0, none⟩))]) (by kernel_rfl)
    refine wp_ret ?_
    exact ret1 rfl HF (.tmp HF rfl) (BytesOne.as ⟨⟨_, _, rfl, HM.own (i := 0) rfl, hc13⟩, HM.below⟩ (by unfold Bk.body; rw [if_pos hk]))
  · have HF := HF.as (t := 9) (u := .bool false) rfl (by rw [hb9])
    have hd9 := ne_of_beq_false hb9
    have hk : b.kind ≠ 2 := by omega
    obtain ⟨m0, m1, m2, m3, m4⟩ := fits_lost hf hk
    refine cond_false HF rfl ?_
    refine wp_skip ?_
    refine wp_seq ?_
    refine from_start ?_
    refine from_pures HF 1 0 (j := 1) [(14, .pointer (some ⟨g1, 1, none⟩))] (by kernel_rfl) rfl ?_; clear HF; intro a HF
    refine from_yl (S := fun wS => Mem w wS _) HF HM (i := 1) rfl rfl (d := 15) rfl (by decide) (v := .int .u8 (b.cpu : Int)) (Yl.load1 rfl rfl (by kernel_rfl) (fun _ h => h.cell (i := 0) rfl rfl)) ?_; clear HF; intro a HF
    refine from_pures HF 1 2 (j := 3) [(16, .int .u64 (IntKind.u64.wrap (b.cpu : Int)))] (by kernel_rfl) rfl ?_; clear HF; intro a HF
    replace HF := HF.as (t := 16) (u := .int .u64 (b.cpu : Int)) rfl (u64_nat rfl (by omega))
    refine from_pures HF 1 3 (j := 4) [(17, .pointer (some ⟨g1, 2, none⟩))] (by kernel_rfl) rfl ?_; clear HF; intro a HF
    refine from_yl (S := fun wS => Mem w wS _) HF HM (i := 4) rfl rfl (d := 18) rfl (by decide) (v := .int .i64 b.lost) (Yl.load1 rfl rfl (by kernel_rfl) (fun _ h => h.cell (i := 0) rfl rfl)) ?_; clear HF; intro a HF
    refine from_pures HF 1 5 (j := 6) [(19, .int .u64 (IntKind.u64.wrap b.lost))] (by kernel_rfl) rfl ?_; clear HF; intro a HF
    replace HF := HF.as (t := 19) (u := .int .u64 (b.lost.toNat : Int)) rfl (u64_nat (by omega) (by omega))
    refine from_pures HF 1 6 (j := 7) [(20, .pointer (some ⟨g1, 4, none⟩))] (by kernel_rfl) rfl ?_; clear HF; intro a HF
    refine from_yl (S := fun wS => Mem w wS _) HF HM (i := 7) rfl rfl (d := 21) rfl (by decide) (v := .slice A b.evs.length c) (Yl.load1 rfl rfl (by kernel_rfl) (fun _ h => h.cell (i := 0) rfl rfl)) ?_; clear HF; intro a HF
    refine from_yl (S := fun wS => Mem w wS _) HF HM (i := 8) rfl rfl (d := 22) rfl (by decide) (v := .int .i64 ((b.evs.length : Nat) : Int)) (Yl.len rfl rfl (by kernel_rfl)) ?_; clear HF; intro a HF
    refine from_pures HF 1 9 (j := 10) [(23, .int .u64 (IntKind.u64.wrap ((b.evs.length : Nat) : Int)))] (by kernel_rfl) rfl ?_; clear HF; intro a HF
    replace HF := HF.as (t := 23) (u := .int .u64 (b.evs.length : Int)) rfl (u64_nat rfl (by omega))
    refine from_op HF (i := 10) rfl rfl ?_
    refine e_slice HF HM (vs := [(0, .int .u64 (b.cpu : Int)), (1, .int .u64 (b.lost.toNat : Int)), (2, .int .u64 (b.evs.length : Int))]) (cs := #[.int .u64 (b.cpu : Int), .int .u64 (b.lost.toNat : Int), .int .u64 (b.evs.length : Int)]) rfl ei_u64 (by decide) rfl (by kernel_rfl) rfl (by decide) ?_
    clear HF HM; intro a w24 g24 HF HM
    refine from_op HF (i := 11) rfl rfl ?_
    refine e_call HF (vs := [.slice (some ⟨g24, 0, none⟩) 3 3]) rfl (by kernel_rfl) (by kernel_rfl) rfl (by decide) (vall_is _ 3 _ [b.cpu, b.lost.toNat, b.evs.length] _ (HM.rdBlk (i := 0) (n := 3) (size := 1) rfl rfl) (by intro x hx; simp only [List.mem_cons, List.not_mem_nil, or_false] at hx; omega) (by omega)) ?_
    rintro _ w25 ⟨⟨A25, c25, rfl, ho, hc25⟩, hbw⟩
    refine ⟨_, rfl, ?_⟩
    replace HM := HM.callRow hbw ho
    clear HF; intro a HF
    refine from_pures HF 1 12 (j := 13) [(3, .slice A25 (([b.cpu, b.lost.toNat, b.evs.length].flatMap vbytes).length) c25)] (by kernel_rfl) rfl ?_; clear HF; intro a HF
    refine from_done rfl ?_
    replace HF := HF.sub (σ' := [(3, .slice A25 (([b.cpu, b.lost.toNat, b.evs.length].flatMap vbytes).length) c25), (9, .bool false), (2, .slice none 0 0), (1, .pointer (some ⟨g1, 0, none⟩))]) (by kernel_rfl)
    replace HM := HM.picks (fs' := [.row (.slice A25 (([b.cpu, b.lost.toNat, b.evs.length].flatMap vbytes).length) c25) (([b.cpu, b.lost.toNat, b.evs.length].flatMap vbytes).length) (([b.cpu, b.lost.toNat, b.evs.length].flatMap vbytes).map B8) 5 1, .blk g1 (b.cells A c) 37]) [0, 2] (by decide) rfl
    refine wp_seq ?_
    refine wp_seq ?_
    refine from_start ?_
    refine from_pures HF 1 0 (j := 1) [(26, .pointer (some ⟨g1, 4, none⟩))] (by kernel_rfl) rfl ?_; clear HF; intro a HF
    refine from_yl (S := fun wS => Mem w wS _) HF HM (i := 1) rfl rfl (d := 27) rfl (by decide) (v := .slice A b.evs.length c) (Yl.load1 rfl rfl (by kernel_rfl) (fun _ h => h.cell (i := 1) rfl rfl)) ?_; clear HF; intro a HF
    refine from_yl (S := fun wS => Mem w wS _) HF HM (i := 2) rfl rfl (d := 28) rfl (by decide) (v := .int .i64 ((b.evs.length : Nat) : Int)) (Yl.len rfl rfl (by kernel_rfl)) ?_; clear HF; intro a HF
    refine from_pures HF 1 3 (j := 4) [(29, .bool ((((b.evs.length : Nat) : Int) : Int) == (0 : Int)))] (by kernel_rfl) rfl ?_; clear HF; intro a HF
    refine from_done rfl ?_
    replace HF := HF.sub (σ' := [(29, .bool ((((b.evs.length : Nat) : Int) : Int) == (0 : Int))), (3, .slice A25 (([b.cpu, b.lost.toNat, b.evs.length].flatMap vbytes).length) c25), (9, .bool false), (2, .slice none 0 0), (1, .pointer (some ⟨g1, 0, none⟩))]) (by kernel_rfl)
    rcases Bool.eq_false_or_eq_true ((((b.evs.length : Nat) : Int) : Int) == (0 : Int)) with hb29 | hb29
    · have HF := HF.as (t := 29) (u := .bool true) rfl (by rw [hb29])
      have hd29 := eq_of_beq hb29
      refine cond_true HF rfl ?_
      refine wp_seq ?_
      refine from_start ?_
      refine from_pures HF 2 0 (j := 2) [(2, .slice A25 (([b.cpu, b.lost.toNat, b.evs.length].flatMap vbytes).length) c25), (30, .slice A25 (([b.cpu, b.lost.toNat, b.evs.length].flatMap vbytes).length) c25)] (by kernel_rfl) rfl ?_; clear HF; intro a HF
      refine from_done rfl ?_
      replace HF := HF.sub (σ' := [(2, .slice A25 (([b.cpu, b.lost.toNat, b.evs.length].flatMap vbytes).length) c25), (29, .bool true), (3, .slice A25 (([b.cpu, b.lost.toNat, b.evs.length].flatMap vbytes).length) c25), (9, .bool false), (1, .pointer (some ⟨g1, 0, none⟩))]) (by kernel_rfl)
      refine wp_ret ?_
      exact ret1 rfl HF (.tmp HF rfl) (BytesOne.as ⟨⟨_, _, rfl, HM.own (i := 0) rfl, hc25⟩, HM.below⟩ (by unfold Bk.body; rw [if_neg hk, if_pos (by omega)]; simp))
    · have HF := HF.as (t := 29) (u := .bool false) rfl (by rw [hb29])
      have hd29 := ne_of_beq_false hb29
      have hw := fits_write hok (fits_evs hf hk).2 (by omega)
      obtain ⟨q1, q2, q3, q4⟩ := base_bnd hok hf hk (by omega)
      refine cond_false HF rfl ?_
      refine wp_skip ?_
      refine wp_seq ?_
      refine from_start ?_
      refine from_yl (S := fun wS => Mem w wS _) HF HM (i := 0) rfl rfl (d := 31) rfl (by decide) (v := .agg (b.cells A c)) (Yl.loadS rfl rfl si_bk rfl (fun _ h => range_of_block (h.blk (i := 1) rfl))) ?_; clear HF; intro a HF
      refine from_op HF (i := 1) rfl rfl ?_
      refine e_call HF (vs := [.agg (b.cells A c)]) rfl (by kernel_rfl) (by kernel_rfl) rfl (by decide) (base_any b A c _ (HM.old hr) (by omega)) ?_
      rintro _ w32 ⟨rfl, hbw⟩
      refine ⟨_, rfl, ?_⟩
      replace HM := HM.call hbw
      clear HF; intro a HF
      refine from_op HF (i := 2) rfl rfl ?_
      refine e_alloc HF HM (cs := #[.int .i64 0, .int .i64 0]) rfl (by kernel_rfl) rfl (by decide) ?_
      clear HF HM; intro a w4 g4 HF HM
      refine from_op HF (i := 3) rfl rfl ?_
      refine e_storeAll HF HM (i := 0) (cs := #[.int .i64 0, .int .i64 0]) (ds := b.base.cells) rfl rfl rfl rfl ⟨(by kernel_rfl), (by kernel_rfl)⟩ rfl rfl (bs_one b.base) rfl ?_
      clear HM; intro w6_3 HM
      refine from_done rfl ?_
      replace HF := HF.sub (σ' := [(4, .pointer (some ⟨g4, 0, none⟩)), (29, .bool false), (3, .slice A25 (([b.cpu, b.lost.toNat, b.evs.length].flatMap vbytes).length) c25), (9, .bool false), (2, .slice none 0 0), (1, .pointer (some ⟨g1, 0, none⟩))]) (by kernel_rfl)
      refine wp_seq ?_
      refine from_start ?_
      refine from_yl (S := fun wS => Mem w wS _) HF HM (i := 0) rfl rfl (d := 34) rfl (by decide) (v := .agg b.base.cells) (Yl.loadS rfl rfl ⟨(by kernel_rfl), (by kernel_rfl)⟩ rfl (fun _ h => range_of_block (h.blk (i := 0) rfl))) ?_; clear HF; intro a HF
      refine from_pures HF 1 1 (j := 2) [(35, .pointer (some ⟨g1, 4, none⟩))] (by kernel_rfl) rfl ?_; clear HF; intro a HF
      refine from_yl (S := fun wS => Mem w wS _) HF HM (i := 2) rfl rfl (d := 36) rfl (by decide) (v := .slice A b.evs.length c) (Yl.load1 rfl rfl (by kernel_rfl) (fun _ h => h.cell (i := 2) rfl rfl)) ?_; clear HF; intro a HF
      refine from_op HF (i := 3) rfl rfl ?_
      refine e_call HF (vs := [.agg b.base.cells, .slice A b.evs.length c]) rfl (by kernel_rfl) (by kernel_rfl) rfl (by decide) (write_is b.base A b.evs.length c b.evs hok.evs B _ (hL.mem HM hB).laid (HM.le hB) (HM.old hr) (by omega) hw.1 hw.2) ?_
      rintro _ w37 ⟨⟨A37, c37, rfl, ho, hc37⟩, hbw⟩
      refine ⟨_, rfl, ?_⟩
      replace HM := HM.callRow hbw ho
      clear HF; intro a HF
      refine from_pures HF 5 4 (j := 9) [(6, .int .i64 0), (5, .slice A37 ((recs b.base b.evs).length) c37), (39, .int .i64 0), (38, .slice A37 ((recs b.base b.evs).length) c37), (33, .tuple #[.slice A37 ((recs b.base b.evs).length) c37, .int .i64 0])] (by kernel_rfl) rfl ?_; clear HF; intro a HF
      refine from_done rfl ?_
      replace HF := HF.sub (σ' := [(5, .slice A37 ((recs b.base b.evs).length) c37), (4, .pointer (some ⟨g4, 0, none⟩)), (29, .bool false), (3, .slice A25 (([b.cpu, b.lost.toNat, b.evs.length].flatMap vbytes).length) c25), (9, .bool false), (2, .slice none 0 0), (1, .pointer (some ⟨g1, 0, none⟩))]) (by kernel_rfl)
      refine wp_seq ?_
      refine any_start (by kernel_rfl) (fun wS => Mem w wS [.row (.slice A37 ((recs b.base b.evs).length) c37) ((recs b.base b.evs).length) ((recs b.base b.evs).map B8) 5 1, .blk g4 b.base.cells 27, .row (.slice A25 (([b.cpu, b.lost.toNat, b.evs.length].flatMap vbytes).length) c25) (([b.cpu, b.lost.toNat, b.evs.length].flatMap vbytes).length) (([b.cpu, b.lost.toNat, b.evs.length].flatMap vbytes).map B8) 5 1, .blk g1 (b.cells A c) 37]) [] ?_
      replace HM := HM.drew
      have HS := HM.picks (fs' := [.row (.slice A37 ((recs b.base b.evs).length) c37) ((recs b.base b.evs).length) ((recs b.base b.evs).map B8) 5 1, .blk g4 b.base.cells 27, .row (.slice A25 (([b.cpu, b.lost.toNat, b.evs.length].flatMap vbytes).length) c25) (([b.cpu, b.lost.toNat, b.evs.length].flatMap vbytes).length) (([b.cpu, b.lost.toNat, b.evs.length].flatMap vbytes).map B8) 5 1, .blk g1 (b.cells A c) 37]) [0, 1, 2, 3] (by decide) rfl
      refine any_pures HF (fun _ => HS) (fun _ _ d _ _ h => by cases d <;> exact h) [0, 1, 5, 9] #[true, true, false, false, false, true, false, false, false, true, false, false, false] [(49, .slice A37 ((recs b.base b.evs).length) c37), (45, .pointer (some ⟨g4, 1, none⟩)), (41, .pointer (some ⟨g4, 0, none⟩)), (40, .slice A25 (([b.cpu, b.lost.toNat, b.evs.length].flatMap vbytes).length) c25)] (by kernel_rfl) ?_; clear HF; intro a HF
      refine any_yl HF HS (i := 2) rfl rfl (d := 42) rfl (by decide) (by kernel_rfl) (fun _ _ _ h => h) (v := .int .i64 b.base.seq) (Yl.load1 rfl rfl (by kernel_rfl) (fun _ h => h.cell (i := 1) rfl rfl)) ?_; clear HF; intro a HF
      refine any_pure HF (fun _ => HS) (i := 3) rfl rfl (d := 43) rfl (by decide) (by kernel_rfl) (fun _ _ _ h => h) (v := .int .u64 (IntKind.u64.wrap b.base.seq)) (fun _ => Yl.pure (by kernel_rfl)) ?_; clear HF; intro a HF
      replace HF := HF.as (t := 43) (u := .int .u64 (b.base.seq.toNat : Int)) rfl (u64_nat (by omega) (by omega))
      refine any_yl HF HS (i := 6) rfl rfl (d := 46) rfl (by decide) (by kernel_rfl) (fun _ _ _ h => h) (v := .int .i64 b.base.time) (Yl.load1 rfl rfl (by kernel_rfl) (fun _ h => h.cell (i := 1) rfl rfl)) ?_; clear HF; intro a HF
      refine any_pure HF (fun _ => HS) (i := 7) rfl rfl (d := 47) rfl (by decide) (by kernel_rfl) (fun _ _ _ h => h) (v := .int .u64 (IntKind.u64.wrap b.base.time)) (fun _ => Yl.pure (by kernel_rfl)) ?_; clear HF; intro a HF
      replace HF := HF.as (t := 47) (u := .int .u64 (b.base.time.toNat : Int)) rfl (u64_nat (by omega) (by omega))
      refine any_all [4] (by kernel_rfl) rfl ?_
      refine all_cons ?_ all_nil
      refine any_op HF (i := 4) rfl rfl ?_
      refine e_call HF (vs := [.int .u64 (b.base.seq.toNat : Int)]) rfl (by kernel_rfl) (by kernel_rfl) rfl (by decide) (vwrite_any b.base.seq.toNat (by omega) _) ?_
      rintro _ w44 ⟨⟨A44, c44, rfl, ho, hc44⟩, hbw⟩
      refine ⟨_, rfl, ?_⟩
      replace HM := HM.callRow hbw ho
      clear HF; intro a HF
      refine keepS (HM.picks [1, 2, 3, 4] (by decide) rfl) (fun HS => ?_)
      refine any_all [8] (by kernel_rfl) rfl ?_
      refine all_cons ?_ all_nil
      refine any_op HF (i := 8) rfl rfl ?_
      refine e_call HF (vs := [.int .u64 (b.base.time.toNat : Int)]) rfl (by kernel_rfl) (by kernel_rfl) rfl (by decide) (vwrite_any b.base.time.toNat (by omega) _) ?_
      rintro _ w48 ⟨⟨A48, c48, rfl, ho, hc48⟩, hbw⟩
      refine ⟨_, rfl, ?_⟩
      replace HM := HM.callRow hbw ho
      clear HF; intro a HF
      refine keepS (HM.picks [2, 3, 4, 5] (by decide) rfl) (fun HS => ?_)
      refine any_all [10] (by kernel_rfl) rfl ?_
      refine all_cons ?_ all_nil
      refine any_op HF (i := 10) rfl rfl ?_
      refine e_slice HF HM (vs := [(0, .slice A25 (([b.cpu, b.lost.toNat, b.evs.length].flatMap vbytes).length) c25), (1, .slice A44 ((vbytes b.base.seq.toNat).length) c44), (2, .slice A48 ((vbytes b.base.time.toNat).length) c48), (3, .slice A37 ((recs b.base b.evs).length) c37)]) (cs := #[.slice A25 (([b.cpu, b.lost.toNat, b.evs.length].flatMap vbytes).length) c25, .slice A44 ((vbytes b.base.seq.toNat).length) c44, .slice A48 ((vbytes b.base.time.toNat).length) c48, .slice A37 ((recs b.base b.evs).length) c37]) rfl ei_bb (by decide) rfl (by kernel_rfl) rfl (by decide) ?_
      clear HF HM; intro a w50 g50 HF HM
      refine keepS (HM.picks [3, 4, 5, 6] (by decide) rfl) (fun HS => ?_)
      refine any_all [11] (by kernel_rfl) rfl ?_
      refine all_cons ?_ all_nil
      refine any_op HF (i := 11) rfl rfl ?_
      have hps := all4 (a := ⟨A25, c25, [b.cpu, b.lost.toNat, b.evs.length].flatMap vbytes⟩) (b := ⟨A44, c44, vbytes b.base.seq.toNat⟩) (c := ⟨A48, c48, vbytes b.base.time.toNat⟩) (d := ⟨A37, c37, recs b.base b.evs⟩) (HM.rd (i := 5) rfl) (HM.rd (i := 2) rfl) (HM.rd (i := 1) rfl) (HM.rd (i := 3) rfl)
      refine e_call HF (vs := [.slice (some ⟨g50, 0, none⟩) 4 4]) rfl (by kernel_rfl) (by kernel_rfl) rfl (by decide) ((concat_any _ 4 _ [⟨A25, c25, [b.cpu, b.lost.toNat, b.evs.length].flatMap vbytes⟩, ⟨A44, c44, vbytes b.base.seq.toNat⟩, ⟨A48, c48, vbytes b.base.time.toNat⟩, ⟨A37, c37, recs b.base b.evs⟩] _ (HM.rdBlk (i := 0) (n := 4) (size := 1) rfl rfl) rfl (by omega) hps (by have h1 := flat_length [b.cpu, b.lost.toNat, b.evs.length]; have h2 := vbytes_length b.base.seq.toNat; have h3 := vbytes_length b.base.time.toNat; have h4 := recsLenB b.evs b.base; simp only [List.flatMap_cons, List.flatMap_nil, List.length_append, List.append_nil, List.length_cons, List.length_nil] at h1 ⊢; omega)).mono (fun _ _ h => h.as (R' := vbytes b.cpu ++ vbytes b.lost.toNat ++ vbytes b.evs.length ++ (vbytes b.base.seq.toNat ++ vbytes b.base.time.toNat ++ recs b.base b.evs)) (by simp))) ?_
      rintro _ w51 ⟨⟨A51, c51, rfl, ho, hc51⟩, hbw⟩
      refine ⟨_, rfl, ?_⟩
      replace HM := HM.callRow hbw ho
      clear HF; intro a HF
      refine keepS (HM.picks [4, 5, 6, 7] (by decide) rfl) (fun HS => ?_)
      refine any_pures HF (fun _ => HS) (fun _ _ d _ _ h => by cases d <;> exact h) [12] #[true, true, true, true, true, true, true, true, true, true, true, true, true] [(2, .slice A51 ((vbytes b.cpu ++ vbytes b.lost.toNat ++ vbytes b.evs.length ++ (vbytes b.base.seq.toNat ++ vbytes b.base.time.toNat ++ recs b.base b.evs)).length) c51)] (by kernel_rfl) ?_; clear HF; intro a HF
      refine any_done (by kernel_rfl) ?_
      replace HF := HF.sub (σ' := [(2, .slice A51 ((vbytes b.cpu ++ vbytes b.lost.toNat ++ vbytes b.evs.length ++ (vbytes b.base.seq.toNat ++ vbytes b.base.time.toNat ++ recs b.base b.evs)).length) c51), (4, .pointer (some ⟨g4, 0, none⟩)), (29, .bool false), (3, .slice A25 (([b.cpu, b.lost.toNat, b.evs.length].flatMap vbytes).length) c25), (9, .bool false), (1, .pointer (some ⟨g1, 0, none⟩))]) (by kernel_rfl)
      replace HM := HM.picks (fs' := [.row (.slice A51 ((vbytes b.cpu ++ vbytes b.lost.toNat ++ vbytes b.evs.length ++ (vbytes b.base.seq.toNat ++ vbytes b.base.time.toNat ++ recs b.base b.evs)).length) c51) ((vbytes b.cpu ++ vbytes b.lost.toNat ++ vbytes b.evs.length ++ (vbytes b.base.seq.toNat ++ vbytes b.base.time.toNat ++ recs b.base b.evs)).length) ((vbytes b.cpu ++ vbytes b.lost.toNat ++ vbytes b.evs.length ++ (vbytes b.base.seq.toNat ++ vbytes b.base.time.toNat ++ recs b.base b.evs)).map B8) 5 1, .blk g4 b.base.cells 27, .row (.slice A25 (([b.cpu, b.lost.toNat, b.evs.length].flatMap vbytes).length) c25) (([b.cpu, b.lost.toNat, b.evs.length].flatMap vbytes).length) (([b.cpu, b.lost.toNat, b.evs.length].flatMap vbytes).map B8) 5 1, .blk g1 (b.cells A c) 37]) [0, 5, 6, 7] (by decide) rfl
      refine wp_ret ?_
      exact ret1 rfl HF (.tmp HF rfl) (BytesOne.as ⟨⟨_, _, rfl, HM.own (i := 0) rfl, hc51⟩, HM.below⟩ (by unfold Bk.body; rw [if_neg hk, if_neg (by omega)]))
end Go.Proofs.YtjpielapplglmaaDoor

/- Blocks: plain lemmas for the walks of Write, parse and Read. -/
namespace Go.Proofs.YtjpielapplglmaaDoor
open Go.RowKit

instance bkDec : DecidableEq Bk := fun ⟨a0, a1, a2, a3, a4⟩ ⟨b0, b1, b2, b3, b4⟩ =>
  decidable_of_iff (a0 = b0 ∧ a1 = b1 ∧ a2 = b2 ∧ a3 = b3 ∧ a4 = b4) (by simp)
theorem raw_cells {b : Bk} (h : 8 + b.body.length + 4 ≤ 4096) : (#[Value.int .u8 (((8 + b.body.length + 4) % 256 : Nat) : Int), .int .u8 (((8 + b.body.length + 4) / 256 % 256 : Nat) : Int), .int .u8 0, .int .u8 0, .int .u8 113, .int .u8 116, .int .u8 1, .int .u8 (b.kind : Int)] : Array Value).toList ++ b.body.map B8 = b.raw.map B8 := by
  have e0 : 8 + b.body.length + 4 = 12 + b.body.length := by omega
  have e1 : (12 + b.body.length) / 65536 % 256 = 0 := by omega
  have e2 : (12 + b.body.length) / 16777216 % 256 = 0 := by omega
  unfold Bk.raw le4
  rw [e0, e1, e2]
  simp [B8]
theorem vbytes_lt (x : Nat) : ∀ b ∈ vbytes x, b < 256 := by
  intro b hb
  unfold vbytes at hb
  obtain ⟨p, hp, rfl⟩ := List.mem_map.1 hb
  have := grp_lt 10 x p hp
  unfold vbyte
  split <;> omega
theorem recBytes_lt {b : Bs} {e : Ev} (h : e.kind < 256) : ∀ x ∈ recBytes b e, x < 256 := by
  intro x hx
  unfold recBytes at hx
  rcases List.mem_cons.1 hx with rfl | hx
  · exact h
  · obtain ⟨y, _, hy⟩ := List.mem_flatMap.1 hx
    exact vbytes_lt y x hy
theorem recs_lt : ∀ (l : List Ev) (b : Bs), (∀ e ∈ l, e.Ok) → ∀ x ∈ recs b l, x < 256
  | [], _, _, x, hx => by simp [recs] at hx
  | e :: r, b, hok, x, hx => by
    rw [recs] at hx
    rcases List.mem_append.1 hx with h | h
    · exact recBytes_lt (hok e (by simp)).kind x h
    · exact recs_lt r e.at (fun y hy => hok y (by simp [hy])) x h
theorem body_lt {b : Bk} (hok : b.Ok) : ∀ x ∈ b.body, x < 256 := by
  intro x hx
  unfold Bk.body at hx
  split at hx
  · exact vbytes_lt _ x hx
  · rcases List.mem_append.1 hx with h | h
    · rcases List.mem_append.1 h with h | h
      · rcases List.mem_append.1 h with h | h
        · exact vbytes_lt _ x h
        · exact vbytes_lt _ x h
      · exact vbytes_lt _ x h
    · split at h
      · cases h
      · rcases List.mem_append.1 h with h | h
        · rcases List.mem_append.1 h with h | h
          · exact vbytes_lt _ x h
          · exact vbytes_lt _ x h
        · exact recs_lt _ _ hok.evs x h
theorem raw_lt {b : Bk} (hok : b.Ok) : ∀ x ∈ b.raw, x < 256 := by
  intro x hx
  unfold Bk.raw at hx
  rcases List.mem_append.1 hx with h | h
  · rcases List.mem_append.1 h with h | h
    · exact le4_lt _ x h
    · simp only [List.mem_cons, List.not_mem_nil, or_false] at h
      have := hok.kind
      omega
  · exact body_lt hok x h
theorem raw_length (b : Bk) : b.raw.length = 8 + b.body.length := by unfold Bk.raw le4; simp; omega
theorem body_length (b : Bk) : b.body.length ≤ 50 + 61 * b.evs.length := by
  unfold Bk.body
  split
  · have := vbytes_length b.next.toNat; omega
  · have h1 := vbytes_length b.cpu
    have h2 := vbytes_length b.lost.toNat
    have h3 := vbytes_length b.evs.length
    have h4 := vbytes_length b.base.seq.toNat
    have h5 := vbytes_length b.base.time.toNat
    have h6 := recsLenB b.evs b.base
    split <;> simp only [List.length_append, List.length_nil] <;> omega
theorem bk_nil {w w' : World} {b : Bk} {er : Nat} (h : b.err = er) (he : er ≠ 0) (hb : Below w.heap.size w w') : BytesIs w b.err b.out (.returned (.tuple #[.slice none 0 0, .int .i64 (er : Int)])) w' := by
  have h2 : b.out = [] := by unfold Bk.out; rw [if_neg (by omega)]
  rw [h, h2]
  exact ⟨⟨none, 0, rfl, World.ownsRow_nil _ _ _ _, Nat.le_refl _⟩, hb⟩
theorem bk_out {b : Bk} (h : b.err = 0) : b.out = sealL b.raw := by unfold Bk.out; rw [if_pos h]
theorem out_len (b : Bk) : b.out.length ≤ 4096 := by
  unfold Bk.out
  split
  · rename_i h
    unfold Bk.err at h
    split at h
    · cases h
    · split at h
      · cases h
      · rw [seal_len, raw_length]; omega
  · simp
theorem out_lt {b : Bk} (hok : b.Ok) : ∀ x ∈ b.out, x < 256 := by
  unfold Bk.out
  split
  · exact seal_lt (raw_lt hok)
  · intro x hx; cases hx
theorem err_le (b : Bk) : b.err ≤ 107 := by unfold Bk.err; split <;> (try split) <;> omega

/-! parse -/
theorem tkVal_le (most : Nat) (l : List Nat) : tkVal most l ≤ most := by unfold tkVal; split <;> omega
theorem tkVal_min (most : Nat) (l : List Nat) : (if ((most : Nat) : Int) < (((vread l).1 : Nat) : Int) then ((most : Nat) : Int) else (((vread l).1 : Nat) : Int)) = ((tkVal most l : Nat) : Int) := by unfold tkVal; split <;> split <;> omega
theorem tkRest_len (l : List Nat) : (tkRest l).length = l.length - (vread l).2.1 := by unfold tkRest; rw [List.length_drop]
theorem tkRest_le (l : List Nat) : (tkRest l).length ≤ l.length := by rw [tkRest_len]; omega
theorem tkOk_false {most : Nat} {l : List Nat} (h : (vread l).2.2 ≠ 0) : tkOk most l = false := by unfold tkOk; rw [decide_eq_false]; omega
def TakeIs (W : World) (gb gk : Nat) (l : List Nat) (okb : Bool) (most : Nat) (fr : List Fact) (r : Ending) (w' : World) : Prop :=
  r = .returned (.int .i64 ((tkVal most l : Nat) : Int)) ∧ ∃ A' c', Rd W W.heap.size 1 A' (tkRest l).length ((tkRest l).map B8) ∧ (tkRest l).length ≤ c' ∧
    Mem W w' (.blk gb #[.slice A' (tkRest l).length c'] 22 :: .blk gk #[.bool (okb && tkOk most l)] 4 :: fr)
theorem takeIs_of {W w' : World} {gb gk n c most : Nat} {l : List Nat} {okb ok2 : Bool} {A : Option Addr} {fr : List Fact} (hr : Rd W W.heap.size 1 A l.length (l.map B8)) (hc : l.length ≤ c) (h2 : (okb && tkOk most l) = ok2) (hn : n = l.length)
    (HM : Mem W w' (.blk gb #[.slice (if c = (vread l).2.1 then A else A.map (·.add ((vread l).2.1 * 1))) (n - (vread l).2.1) (c - (vread l).2.1)] 22 :: .blk gk #[.bool ok2] 4 :: fr)) :
    TakeIs W gb gk l okb most fr (.returned (.int .i64 ((tkVal most l : Nat) : Int))) w' := by
  subst h2; subst hn
  refine ⟨rfl, (if c = (vread l).2.1 then A else A.map (·.add ((vread l).2.1 * 1))), c - (vread l).2.1, ?_, ?_, ?_⟩
  · rw [tkRest_len]
    exact hr.fromB8 (vread_len l) hc
  · rw [tkRest_len]; omega
  · rw [tkRest_len]; exact HM
/-- What parse hands over. -/
def ParseIs (w : World) (q : Option Bk) (r : Ending) (w' : World) : Prop :=
  (∃ cs : Array Value, r = .returned (.tuple #[.agg cs, .bool q.isSome]) ∧ cs.size = 5 ∧ (∀ v ∈ cs.toList, v.oneCell' = true) ∧
    (∀ b, q = some b → ∃ A c, cs = b.cells A c ∧ w'.ownsRow w.heap.size 55 11 (.slice A b.evs.length c) b.evs.length (b.evs.flatMap evL) ∧ b.evs.length ≤ c)) ∧ Below w.heap.size w w'
theorem parseIs_none {w w' : World} {q : Option Bk} {cs : Array Value} (h : q = none) (hs : cs.size = 5) (h1 : ∀ v ∈ cs.toList, v.oneCell' = true) (hb : Below w.heap.size w w') : ParseIs w q (.returned (.tuple #[.agg cs, .bool false])) w' := by
  subst h
  exact ⟨⟨cs, rfl, hs, h1, fun b h => by cases h⟩, hb⟩
theorem parseIs_some {w w' : World} {q : Option Bk} {b : Bk} {A : Option Addr} {c : Nat} (h : q = some b) (ho : w'.ownsRow w.heap.size 55 11 (.slice A b.evs.length c) b.evs.length (b.evs.flatMap evL)) (hc : b.evs.length ≤ c) (hb : Below w.heap.size w w') : ParseIs w q (.returned (.tuple #[.agg (b.cells A c), .bool true])) w' := by
  subst h
  exact ⟨⟨_, rfl, rfl, bk_one _ _ _, fun b' h => by injection h with h; subst h; exact ⟨A, c, rfl, ho, hc⟩⟩, hb⟩
theorem tk3 {l : List Nat} : (((true && tkOk 63 l) && tkOk 281474976710656 (tkRest l)) && tkOk 4096 (tkRest (tkRest l))) = parse3 l := by unfold parse3; simp
theorem parseR_end (l : List Nat) : parseR 2 l = parseEnd l := by unfold parseR; rw [if_pos rfl]
theorem parseR_evs (l : List Nat) : parseR 1 l = parseEvs l := by unfold parseR; rw [if_neg (by omega)]
theorem endOk {x : Nat} (h : x ≤ 281474976710657) : Bk.Ok ⟨2, 0, 0, (x : Int), []⟩ := ⟨by show 2 < 256; decide, by show 0 < 256; decide, by unfold I64; simp, small_i64 h, by simp⟩
theorem evsOk {cpu lost : Nat} {es : List Ev} (h : cpu < 256) (hl : lost ≤ 281474976710656) (he : ∀ e ∈ es, e.Ok) : Bk.Ok ⟨1, cpu, (lost : Int), 0, es⟩ := ⟨by show 1 < 256; decide, h, small_i64 (by show lost ≤ _; omega), by unfold I64; simp, he⟩
theorem parseEvs_full {l : List Nat} {q : List Ev × Nat × Nat} (h3 : parse3 l = true) (h0 : 0 < tkVal 4096 (tkRest (tkRest l)))
    (hq : readR ⟨(tkVal 281474976710656 (tkRest (tkRest (tkRest l))) : Int), (tkVal 281474976710656 (tkRest (tkRest (tkRest (tkRest l)))) : Int)⟩ (tkVal 63 l) (tkVal 4096 (tkRest (tkRest l)) : Int) (tkRest (tkRest (tkRest (tkRest (tkRest l))))) = q) :
    parseEvs l = parseRows (tkVal 63 l) (tkVal 281474976710656 (tkRest l)) (tkRest (tkRest (tkRest l))) q := by
  unfold parseEvs
  rw [if_pos ⟨h3, h0⟩, hq]
theorem parseRows_none {cpu lost : Nat} {l : List Nat} {q : List Ev × Nat × Nat} (h : ¬ (q.2.2 = 0 ∧ (q.1.getD 0 Ev.zero).seq = (tkVal 281474976710656 l : Int) ∧ (q.1.getD 0 Ev.zero).time = (tkVal 281474976710656 (tkRest l) : Int) ∧ tkOk 281474976710656 l = true ∧ tkOk 281474976710656 (tkRest l) = true ∧ (tkRest (tkRest l)).length - q.2.1 = 0 ∧ Bk.fits ⟨1, cpu, lost, 0, q.1⟩ = true)) : parseRows cpu lost l q = none := by
  unfold parseRows
  rw [if_neg]
  intro hh
  obtain ⟨h1, h2, h3, h4, h5, h6, h7⟩ := hh
  rw [List.length_drop] at h6
  have e : q.1.headD Ev.zero = q.1.getD 0 Ev.zero := by cases q.1 <;> rfl
  rw [e] at h2 h3
  exact h ⟨h1, h2, h3, h4, h5, h6, h7⟩
theorem parseRows_some {cpu lost : Nat} {l : List Nat} {q : List Ev × Nat × Nat} (h : q.2.2 = 0 ∧ (q.1.getD 0 Ev.zero).seq = (tkVal 281474976710656 l : Int) ∧ (q.1.getD 0 Ev.zero).time = (tkVal 281474976710656 (tkRest l) : Int) ∧ tkOk 281474976710656 l = true ∧ tkOk 281474976710656 (tkRest l) = true ∧ (tkRest (tkRest l)).length - q.2.1 = 0 ∧ Bk.fits ⟨1, cpu, lost, 0, q.1⟩ = true) : parseRows cpu lost l q = some ⟨1, cpu, lost, 0, q.1⟩ := by
  unfold parseRows
  rw [if_pos]
  obtain ⟨h1, h2, h3, h4, h5, h6, h7⟩ := h
  have e : q.1.headD Ev.zero = q.1.getD 0 Ev.zero := by cases q.1 <;> rfl
  rw [e, List.length_drop]
  exact ⟨h1, h2, h3, h4, h5, h6, h7⟩
theorem parseEvs_few {l : List Nat} (h : ¬ (parse3 l = true ∧ 0 < tkVal 4096 (tkRest (tkRest l)))) (h2 : ¬ (parse3 l = true ∧ (tkRest (tkRest (tkRest l))).length = 0 ∧ Bk.fits ⟨1, tkVal 63 l, tkVal 281474976710656 (tkRest l), 0, []⟩ = true)) : parseEvs l = none := by
  unfold parseEvs
  rw [if_neg h, if_neg h2]
theorem parseEvs_lost {l : List Nat} (h : ¬ 0 < tkVal 4096 (tkRest (tkRest l))) (h2 : parse3 l = true ∧ (tkRest (tkRest (tkRest l))).length = 0 ∧ Bk.fits ⟨1, tkVal 63 l, tkVal 281474976710656 (tkRest l), 0, []⟩ = true) : parseEvs l = some ⟨1, tkVal 63 l, tkVal 281474976710656 (tkRest l), 0, []⟩ := by
  unfold parseEvs
  rw [if_neg (fun hh => h hh.2), if_pos h2]
theorem parseEnd_is (l : List Nat) : (parseEnd l).isSome = (tkOk 281474976710657 l && (decide ((tkRest l).length = 0) && Bk.fits ⟨2, 0, 0, (tkVal 281474976710657 l : Int), []⟩)) := by
  unfold parseEnd
  split
  · rename_i h; rw [h.1, decide_eq_true h.2.1, h.2.2]; rfl
  · rename_i h
    show false = _
    rw [eq_comm, Bool.eq_false_iff]
    intro hh
    simp only [Bool.and_eq_true, decide_eq_true_eq] at hh
    exact h ⟨hh.1, hh.2.1, hh.2.2⟩
theorem parseEnd_val {l : List Nat} (h : (parseEnd l).isSome = true) : parseEnd l = some ⟨2, 0, 0, (tkVal 281474976710657 l : Int), []⟩ := by
  unfold parseEnd at h ⊢
  split
  · rfl
  · rename_i h2; rw [if_neg h2] at h; cases h
theorem few_is {l : List Nat} (h : ¬ (parse3 l = true ∧ 0 < tkVal 4096 (tkRest (tkRest l)))) : (parseEvs l).isSome = (parse3 l && (decide ((tkRest (tkRest (tkRest l))).length = 0) && Bk.fits ⟨1, tkVal 63 l, (tkVal 281474976710656 (tkRest l) : Int), 0, []⟩)) := by
  unfold parseEvs
  rw [if_neg h]
  split
  · rename_i h; rw [h.1, decide_eq_true h.2.1, h.2.2]; rfl
  · rename_i h
    show false = _
    rw [eq_comm, Bool.eq_false_iff]
    intro hh
    simp only [Bool.and_eq_true, decide_eq_true_eq] at hh
    exact h ⟨hh.1, hh.2.1, hh.2.2⟩
theorem few_val {l : List Nat} (h : ¬ (parse3 l = true ∧ 0 < tkVal 4096 (tkRest (tkRest l)))) (hs : (parseEvs l).isSome = true) : parseEvs l = some ⟨1, tkVal 63 l, (tkVal 281474976710656 (tkRest l) : Int), 0, []⟩ := by
  unfold parseEvs at hs ⊢
  rw [if_neg h] at hs ⊢
  split
  · rfl
  · rename_i h2; rw [if_neg h2] at hs; cases hs
theorem rows_is {cpu lost L : Nat} {l : List Nat} {es : List Ev} (h : (es.getD 0 Ev.zero).seq = (tkVal 281474976710656 l : Int) ∧ (es.getD 0 Ev.zero).time = (tkVal 281474976710656 (tkRest l) : Int)) : (parseRows cpu lost l (es, L, 0)).isSome = ((tkOk 281474976710656 l && tkOk 281474976710656 (tkRest l)) && (decide ((tkRest (tkRest l)).length - L = 0) && Bk.fits ⟨1, cpu, (lost : Int), 0, es⟩)) := by
  cases hc : ((tkOk 281474976710656 l && tkOk 281474976710656 (tkRest l)) && (decide ((tkRest (tkRest l)).length - L = 0) && Bk.fits ⟨1, cpu, (lost : Int), 0, es⟩)) with
  | true =>
    simp only [Bool.and_eq_true, decide_eq_true_eq] at hc
    rw [parseRows_some ⟨rfl, h.1, h.2, hc.1.1, hc.1.2, hc.2.1, hc.2.2⟩]
    rfl
  | false =>
    rw [parseRows_none]
    · rfl
    · intro hh
      obtain ⟨h1, h2, h3, h4, h5, h6, h7⟩ := hh
      rw [h4, h5, h7, decide_eq_true h6] at hc
      cases hc
theorem rows_val {cpu lost : Nat} {l : List Nat} {q : List Ev × Nat × Nat} (h : (parseRows cpu lost l q).isSome = true) : parseRows cpu lost l q = some ⟨1, cpu, (lost : Int), 0, q.1⟩ := by
  unfold parseRows at h ⊢
  split
  · rfl
  · rename_i h2; rw [if_neg h2] at h; cases h
theorem ParseIs.none {w w' : World} {q : Option Bk} {r : Ending} (h : ParseIs w q r w') (hq : q = none) : (∃ cs : Array Value, r = .returned (.tuple #[.agg cs, .bool false]) ∧ cs.size = 5 ∧ (∀ v ∈ cs.toList, v.oneCell' = true)) ∧ Below w.heap.size w w' := by
  subst hq
  obtain ⟨⟨cs, h1, h2, h3, _⟩, h4⟩ := h
  exact ⟨⟨cs, h1, h2, h3⟩, h4⟩
theorem ParseIs.some {w w' : World} {q : Option Bk} {b : Bk} {r : Ending} (h : ParseIs w q r w') (hq : q = some b) : (∃ A c, r = .returned (.tuple #[.agg (b.cells A c), .bool true]) ∧ w'.ownsRow w.heap.size 55 11 (.slice A b.evs.length c) b.evs.length (b.evs.flatMap evL) ∧ b.evs.length ≤ c) ∧ Below w.heap.size w w' := by
  subst hq
  obtain ⟨⟨cs, h1, h2, h3, h5⟩, h4⟩ := h
  obtain ⟨A, c, rfl, h6, h7⟩ := h5 b rfl
  exact ⟨⟨A, c, h1, h6, h7⟩, h4⟩
/-- What Read hands over. -/
def BReadIs (T : TypeId) (w : World) (q : Bk × Nat × Nat) (r : Ending) (w' : World) : Prop :=
  (∃ A c, r = .returned (.tuple #[.agg (q.1.cells A c), .int .i64 (q.2.1 : Int), .int .i64 (q.2.2 : Int)]) ∧ w'.ownsRow w.heap.size T 11 (.slice A q.1.evs.length c) q.1.evs.length (q.1.evs.flatMap evL) ∧ q.1.evs.length ≤ c) ∧ Below w.heap.size w w'
theorem breadIs_bad {T : TypeId} {w w' : World} {q : Bk × Nat × Nat} {er : Nat} (h : q = (Bk.zero, 0, er)) (hb : Below w.heap.size w w') : BReadIs T w q (.returned (.tuple #[.agg #[.int .u8 0, .int .u8 0, .int .i64 0, .int .i64 0, .slice none 0 0], .int .i64 0, .int .i64 (er : Int)])) w' := by
  subst h
  exact ⟨⟨none, 0, rfl, World.ownsRow_nil _ _ _ _, Nat.le_refl _⟩, hb⟩
theorem breadIs_ok {T : TypeId} {w w' : World} {q : Bk × Nat × Nat} {b : Bk} {m c : Nat} {A : Option Addr} (h : q = (b, m, 0)) (ho : w'.ownsRow w.heap.size T 11 (.slice A b.evs.length c) b.evs.length (b.evs.flatMap evL)) (hc : b.evs.length ≤ c) (hb : Below w.heap.size w w') : BReadIs T w q (.returned (.tuple #[.agg (b.cells A c), .int .i64 (m : Int), .int .i64 0])) w' := by
  subst h
  exact ⟨⟨A, c, rfl, ho, hc⟩, hb⟩
theorem readB_len {l : List Nat} (h : (lenR l).2 ≠ 0) : readB l = (Bk.zero, 0, (lenR l).2) := by unfold readB; rw [if_pos h]
theorem readB_none {l L : List Nat} {e : Nat} (h : (lenR l).2 = 0) (hL : L = l.take (lenR l).1) (hb : blkOf L = (none, e)) : readB l = (Bk.zero, 0, e) := by unfold readB; rw [if_neg (by omega), ← hL, hb]
theorem readB_some {l L : List Nat} {b : Bk} {e : Nat} (h : (lenR l).2 = 0) (hL : L = l.take (lenR l).1) (hb : blkOf L = (some b, e)) : readB l = (b, (lenR l).1, 0) := by unfold readB; rw [if_neg (by omega), ← hL, hb]
theorem tk5 {l : List Nat} {m1 m2 m3 m4 m5 : Nat} {a b c d e : List Nat} : (((((true && tkOk m1 a) && tkOk m2 b) && tkOk m3 c) && tkOk m4 d) && tkOk m5 e) = ((((true && tkOk m1 a) && tkOk m2 b) && tkOk m3 c) && (tkOk m4 d && tkOk m5 e)) := by
  have _ := l
  rw [Bool.and_assoc]
end Go.Proofs.YtjpielapplglmaaDoor

/- Blocks, plain laws: what is read is written as the same bytes; what is written is read back, whatever follows. -/
namespace Go.Proofs.YtjpielapplglmaaDoor
open Go.RowKit

theorem le4_drop {l : List Nat} (hl : ∀ x ∈ l, x < 256) (h : 4 ≤ l.length) : le4 (num4 (l.drop (l.length - 4))) = l.drop (l.length - 4) := by
  have h1 : (l.drop (l.length - 4)).length = 4 := by rw [List.length_drop]; omega
  rw [le4_num4 (drop_lt hl _) (by omega), List.take_of_length_le (by omega)]
theorem seal_of {l : List Nat} (hl : ∀ x ∈ l, x < 256) (h : sealedR l = true) : sealL (l.take (l.length - 4)) = l := by
  unfold sealedR at h
  rw [decide_eq_true_eq] at h
  unfold sealL
  rw [h.2, le4_drop hl h.1, List.take_append_drop]
theorem readB_bad {l : List Nat} {b : Bk} {m er : Nat} (h : readB l = (b, m, er)) (he : er ≠ 0) : b = Bk.zero ∧ m = 0 := by
  unfold readB at h
  split at h
  · simp only [Prod.mk.injEq] at h; exact ⟨h.1.symm, h.2.1.symm⟩
  · split at h
    · simp only [Prod.mk.injEq] at h; exact absurd h.2.2.symm he
    · simp only [Prod.mk.injEq] at h; exact ⟨h.1.symm, h.2.1.symm⟩
theorem blkOf_err {l : List Nat} (h : (blkOf l).1 = none) : (blkOf l).2 ≠ 0 := by
  unfold blkOf at h ⊢
  split
  · decide
  · rename_i h1
    rw [if_neg h1] at h
    split
    · decide
    · rename_i h2
      rw [if_neg h2] at h
      split
      · decide
      · rename_i h3
        rw [if_neg h3] at h
        split
        · decide
        · rename_i h4
          rw [if_neg h4] at h
          split
          · decide
          · rename_i b hb
            rw [hb] at h
            cases h
/-- What is known of bytes that are a block. -/
structure OneForm (l : List Nat) (b : Bk) (m : Nat) : Prop where
  ok : b.Ok
  fits : b.fits = true
  err : b.err = 0
  out : b.out = l.take m
  len : m ≤ l.length
  evs : b.evs.length ≤ 4096
  least : 13 ≤ m
  most : m ≤ 4096
theorem one_form {l : List Nat} {b : Bk} {m : Nat} (hl : ∀ x ∈ l, x < 256) (h : readB l = (b, m, 0)) : OneForm l b m := by
  unfold readB at h
  split at h
  · rename_i h0; simp only [Prod.mk.injEq] at h; exact absurd h.2.2 h0
  · rename_i h0
    obtain ⟨h1, h2, h3, h4⟩ := lenR_ok (show (lenR l).2 = 0 by omega)
    split at h
    · rename_i b' hb
      simp only [Prod.mk.injEq] at h
      obtain ⟨rfl, rfl, _⟩ := h
      generalize (lenR l).1 = n at h1 h2 h3 h4 hb
      have hL : ∀ x ∈ l.take n, x < 256 := take_lt hl n
      have hlen : (l.take n).length = n := by rw [List.length_take]; omega
      have hnum : num4 (l.take n) = n := by rw [num4_take (by omega)]; exact h1
      obtain ⟨L, hLe⟩ : ∃ L, L = l.take n := ⟨_, rfl⟩
      rw [← hLe] at hb hL hlen hnum
      unfold blkOf at hb
      split at hb
      · cases hb
      · rename_i s1
        split at hb
        · cases hb
        · rename_i s2
          split at hb
          · cases hb
          · rename_i s3
            split at hb
            · cases hb
            · rename_i s4
              split at hb
              · cases hb
              · rename_i b'' hp
                injection hb with hb
                subst hb
                have hk : L.getD 7 0 = 1 ∨ L.getD 7 0 = 2 := by omega
                have s2 : L.getD 4 0 = 113 ∧ L.getD 5 0 = 116 := Decidable.of_not_not s2
                obtain ⟨q1, q2, q3, q4, q5⟩ := parse_back hk (drop_lt (take_lt hL _) _) hp
                have herr : b''.err = 0 := by
                  unfold Bk.err
                  rw [if_neg (by simp [q3]), if_neg (by rw [q4, List.length_drop, List.length_take]; omega)]
                refine ⟨q2, q3, herr, ?_, h4, q5, h2, h3⟩
                rw [← hLe, bk_out herr, raw_take hL (by omega) (by omega) s2.1 s2.2 (by omega) q1.symm q4]
                exact seal_of hL (by simpa using s1)
    · rename_i hb
      simp only [Prod.mk.injEq] at h
      exact absurd h.2.2 (blkOf_err hb)
theorem vbytes_pos (x : Nat) : 1 ≤ (vbytes x).length := by
  unfold vbytes
  rw [List.length_map]
  rcases Nat.lt_or_ge x 128 with h | h
  · rw [grp_one 9 x h]; simp
  · rw [grp_more 9 x h]; simp
theorem body_pos (b : Bk) : 1 ≤ b.body.length := by
  unfold Bk.body
  split
  · exact vbytes_pos _
  · have := vbytes_pos b.cpu
    simp only [List.length_append]
    omega
theorem out_length {b : Bk} (h : b.err = 0) : b.out.length = 12 + b.body.length := by rw [bk_out h, seal_len, raw_length]; omega
theorem err_zero {b : Bk} (h : b.err = 0) : b.fits = true ∧ 12 + b.body.length ≤ 4096 := by
  unfold Bk.err at h
  split at h
  · cases h
  · rename_i h1
    split at h
    · cases h
    · rename_i h2
      exact ⟨by simpa using h1, by omega⟩
theorem err_is {b : Bk} (h : b.fits = true) (h2 : 12 + b.body.length ≤ 4096) : b.err = 0 := by
  unfold Bk.err
  rw [if_neg (by simp [h]), if_neg (by omega)]
theorem sealed_seal {l : List Nat} : sealedR (sealL l) = true := by
  have hlt : crcSum l < 4294967296 := crcSum_lt l
  have e : (sealL l).length - 4 = l.length := by rw [seal_len]; omega
  unfold sealedR
  rw [decide_eq_true_eq, e]
  unfold sealL
  refine ⟨by rw [List.length_append, le4_len]; omega, ?_⟩
  rw [List.take_left, List.drop_left]
  have := num4_le4 hlt []
  rw [List.append_nil] at this
  exact this.symm
theorem out_head {b : Bk} (h : b.err = 0) : b.out.getD 4 0 = 113 ∧ b.out.getD 5 0 = 116 ∧ b.out.getD 6 0 = 1 ∧ b.out.getD 7 0 = b.kind ∧ (b.out.take (b.out.length - 4)).drop 8 = b.body := by
  have e : b.out.length - 4 = b.raw.length := by rw [out_length h, raw_length]; omega
  rw [e, bk_out h]
  unfold sealL
  rw [List.take_left, raw_drop]
  refine ⟨rfl, rfl, rfl, rfl, rfl⟩
theorem num4_out {b : Bk} (h : b.err = 0) (t : List Nat) : num4 (b.out ++ t) = b.out.length := by
  obtain ⟨h1, h2⟩ := err_zero h
  rw [out_length h, bk_out h]
  unfold sealL Bk.raw
  simp only [List.append_assoc]
  exact num4_le4 (by omega) _
theorem kind_of_fits {b : Bk} (h : b.fits = true) : b.kind = 1 ∨ b.kind = 2 := by
  unfold Bk.fits at h
  split at h
  · left; assumption
  · split at h
    · right; assumption
    · cases h
theorem evs_of_fits {b : Bk} (h : b.fits = true) (h2 : 12 + b.body.length ≤ 4096) : b.evs.length ≤ 4096 := by
  by_cases hk : b.kind = 2
  · have := fits_next h hk; omega
  · have := bk_len hk; omega
theorem blkOf_out {b : Bk} (hok : b.Ok) (h : b.err = 0) : blkOf b.out = (some b, 0) := by
  obtain ⟨h1, h2⟩ := err_zero h
  obtain ⟨g1, g2, g3, g4, g5⟩ := out_head h
  have hs : sealedR b.out = true := by rw [bk_out h]; exact sealed_seal
  have hk := kind_of_fits h1
  unfold blkOf
  rw [if_neg (by rw [hs]; decide), if_neg (fun hh => hh ⟨g1, g2⟩), if_neg (by omega), if_neg (by omega), g4, g5, parse_body hok h1 (evs_of_fits h1 h2)]
/-- What is written is read back, whatever follows. -/
theorem read_out {b : Bk} (hok : b.Ok) (h : b.err = 0) (t : List Nat) : readB (b.out ++ t) = (b, b.out.length, 0) := by
  obtain ⟨h1, h2⟩ := err_zero h
  have h3 := out_length h
  have h4 := body_pos b
  have hn := num4_out h t
  have hlen : lenR (b.out ++ t) = (b.out.length, 0) := by
    unfold lenR
    rw [hn, if_neg (by rw [List.length_append]; omega), if_neg (by omega), if_neg (by rw [List.length_append]; omega)]
  refine (readB_some (b := b) (e := 0) (L := b.out) (by rw [hlen]) (by rw [hlen]; exact List.take_left.symm) (blkOf_out hok h)).trans ?_
  rw [hlen]
theorem out_inj {a b : Bk} (ha : a.Ok) (hb : b.Ok) (ea : a.err = 0) (eb : b.err = 0) (h : a.out = b.out) : a = b := by
  have h1 := read_out ha ea []
  have h2 := read_out hb eb []
  rw [h, h2] at h1
  simp only [Prod.mk.injEq] at h1
  exact h1.1.symm
end Go.Proofs.YtjpielapplglmaaDoor

