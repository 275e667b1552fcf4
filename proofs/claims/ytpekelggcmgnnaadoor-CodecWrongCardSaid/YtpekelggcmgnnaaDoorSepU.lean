/- The steps at bytes and strings; contracts of the codec in the form that the walks take. -/
import Derived.Test.YtpekelggcmgnnaaDoorSep5
import Derived.Test.YtpekelggcmgnnaaDoorConv
import Derived.Test.YtpekelggcmgnnaaDoorAwake
import Derived.IntWalk
namespace Go.Proofs.YtpekelggcmgnnaaDoor
open Go.RowKit

theorem Yl.str {S : World → Prop} {σ : List (Nat × Value)} {o : Oper} {x : Operand} {A : Option Addr} {n c : Nat} {l : List Nat} (hop : o.op = .convert 25 9 x) (hx : look σ x = some (.slice A n c)) (hr : ∀ w, S w → Rd w w.heap.size 1 A n (l.map B8)) : Yl Tryd.prog S σ o (.string (bstr l)) := fun a m D HF w hS => by
  unfold execOp
  simp [hop, HF.eval hx, conv_u8 (hr w hS)]
theorem one_B8 (l : List Nat) : ∀ u ∈ l.map B8, u.oneCell' = true := by
  intro u hu
  obtain ⟨x, _, rfl⟩ := List.mem_map.1 hu
  rfl
theorem Rd.fromB8 {w : World} {B n k cap : Nat} {A : Option Addr} {l : List Nat} (h : Rd w B 1 A n (l.map B8)) (hk : k ≤ n) (hc : n ≤ cap) : Rd w B 1 (if cap = k then A else A.map (·.add (k * 1))) (n - k) ((l.drop k).map B8) := by
  have h1 := h.from hk hc
  rw [List.map_drop]
  have e : (l.map B8).drop (k * 1) = (l.map B8).drop k := by rw [Nat.mul_one]
  rw [← e]
  exact h1
theorem bstr_eq (l : List Nat) : ((bstr l).toList == (bstr l).toList) = true := by simp
theorem Laid.mem {B : Nat} {W w : World} {fs : List Fact} (h : Laid B W) (hM : Mem W w fs) (hB : B ≤ W.heap.size) : Laid B w := h.below hM.below hB
theorem Mem.le {W w : World} {fs : List Fact} (h : Mem W w fs) {B : Nat} (hB : B ≤ W.heap.size) : B ≤ w.heap.size := Nat.le_trans hB h.size
theorem i64_as {x : Int} (h : -9223372036854775808 ≤ x ∧ x ≤ 9223372036854775807) : Value.int .i64 (IntKind.i64.wrap x) = .int .i64 x := by rw [IntWalk.i64_in x h]
/-- Bytes that a callee hands over, and a number beside them. -/
def BytesIs (w : World) (er : Nat) (R : List Nat) (r : Ending) (w' : World) : Prop :=
  (∃ A c, r = .returned (.tuple #[.slice A R.length c, .int .i64 (er : Int)]) ∧ w'.ownsRow w.heap.size 5 1 (.slice A R.length c) R.length (R.map B8) ∧ R.length ≤ c) ∧ Below w.heap.size w w'
theorem BytesPost.is {w w' : World} {r : Ending} {er er' : Nat} {R R' : List Nat} (h : BytesPost w er R r w') (h1 : er = er') (h2 : R = R') : BytesIs w er' R' r w' := by
  subst h1; subst h2
  obtain ⟨⟨v, rfl, ho⟩, hb⟩ := h
  obtain ⟨A, c, rfl, hc⟩ := own_slice ho
  exact ⟨⟨A, c, rfl, ho, hc⟩, hb⟩
theorem put_is (b : Bs) (e : Ev) (he : e.Ok) (B : Nat) (w : World) (hL : Laid B w) (hB : B ≤ w.heap.size) {er : Nat} {R : List Nat} (h1 : putErr b e = er) (h2 : putOut b e = R) :
    Calls Tryd.prog 18 #[.agg b.cells, .agg e.cells] w (BytesIs w er R) :=
  (put1_any b e he B w hL hB).mono fun _ _ h => h.is h1 h2
theorem write_is (b : Bs) (A : Option Addr) (n c : Nat) (l : List Ev) (hok : ∀ e ∈ l, e.Ok) (B : Nat) (w : World) (hL : Laid B w) (hB : B ≤ w.heap.size) (hr : Rd w w.heap.size 11 A n (l.flatMap evL)) (hn : n ≤ 1000000000000) {er : Nat} {R : List Nat} (h1 : writeErr b l = er) (h2 : writeOut b l = R) :
    Calls Tryd.prog 14 #[.agg b.cells, .slice A n c] w (BytesIs w er R) :=
  (write_any b A n c l hok B w hL hB hr hn).mono fun _ _ h => h.is h1 h2
section
variable {P : Program} {S : World → Prop} {σ : List (Nat × Value)} {o : Oper} {t e : TypeId} {z : Value} {size bytes : Nat}
theorem Yl.sliceFrom (ei : EI P t e z size bytes) {x lo : Operand} {A : Option Addr} {m c j : Nat} {k : IntKind} (hop : o.op = .slice t x (some lo) none none) (hx : look σ x = some (.slice A m c)) (hl : look σ lo = some (.int k (j : Int))) (hj : j ≤ m) :
    Yl P S σ o (.slice (if c = j then A else A.map (·.add (j * size))) (m - j) (c - j)) := fun a n D HF w hS => by
  unfold execOp
  simp only [hop, HF.eval hx, HF.eval hl, Option.map_some, Option.map_none, Sem.run_bind, Sem.run_pure, slice_from_run (P := P) ei hj, Result.andThen_ok]
theorem Yl.sliceUpto (ei : EI P t e z size bytes) {x hi : Operand} {A : Option Addr} {m c j : Nat} {k : IntKind} (hop : o.op = .slice t x none (some hi) none) (hx : look σ x = some (.slice A m c)) (hl : look σ hi = some (.int k (j : Int))) (hj : j ≤ c) :
    Yl P S σ o (.slice A j c) := fun a n D HF w hS => by
  unfold execOp
  simp only [hop, HF.eval hx, HF.eval hl, Option.map_some, Option.map_none, Sem.run_bind, Sem.run_pure, slice_upto_run (P := P) ei hj, Result.andThen_ok]
end
section
variable {P : Program} {S : World → Prop} {σ : List (Nat × Value)} {o : Oper}
def placesOf (P : Program) : List Field → Option (List (Nat × Nat))
  | [] => some []
  | f :: r => match P.info? f.type, placesOf P r with
    | some i, some l => some ((f.offset, i.size) :: l)
    | _, _ => none
theorem placesOf_run : ∀ {fs : List Field} {l : List (Nat × Nat)}, placesOf P fs = some l → ∀ w, (fs.mapM fun f => (do pure (f.offset, ← sizeOf f.type) : Sem (Nat × Nat))).run P w = .ok l w
  | [], l, h, w => by cases h; rfl
  | f :: r, l, h, w => by
    unfold placesOf at h
    split at h
    · rename_i i l' hi hr
      injection h with h
      subst h
      simp [List.mapM_cons, sizeOf, typeInfo, hi]
      have := placesOf_run hr w
      simp [sizeOf, typeInfo] at this
      simp [this]
    · cases h
def buildCells (P : Program) (t : TypeId) (vs : List (Nat × Value)) : Option (Array Value) := match P.underlying t, zeroCells' P t with
  | some (.struct fs), some z => match placesOf P fs.toList with
    | some l => Instr.fill (l.toArray[·]?) z vs
    | none => none
  | _, _ => none
/-- A struct written out. -/
theorem Yl.build {t : TypeId} {ps : Array (Nat × Operand)} {vs : List (Nat × Value)} {cs : Array Value} (hop : o.op = .build t ps) (hv : partVals σ ps.toList = some vs) (hb : buildCells P t vs = some cs) : Yl P S σ o (.agg cs) := fun a n D HF w hS => by
  have hpm := partVals_arr HF hv
  have e1 : (Instr.build t (ps.map fun p => (p.1, a.eval p.2))).run P w = .ok (.agg cs) w := by
    rw [hpm]
    unfold buildCells at hb
    split at hb
    · rename_i fs z hu hz
      split at hb
      · rename_i l hl
        unfold zeroCells' at hz
        obtain ⟨zv, hz1, rfl⟩ := Option.map_eq_some_iff.1 hz
        obtain ⟨i, hi, hz2⟩ := Option.bind_eq_some_iff.1 hz1
        have hm : (fs.mapM fun f => (do Pure.pure (f.offset, ← sizeOf f.type) : Sem (Nat × Nat))).run P w = .ok l.toArray w := by
          rw [← Array.toArray_toList (xs := fs), List.mapM_toArray]
          simp only [Sem.run_map, placesOf_run hl]
          rfl
        unfold Instr.build
        simp only [Sem.run_bind, zeroValue, typeInfo, program, Sem.run, hi, hz2, Sem.run_pure, Result.andThen_ok, run_underlying hu, hm, hb]
      · cases hb
    · cases hb
  unfold execOp
  simp only [hop, Sem.run_bind, Sem.run_pure]
  show ((Instr.build t (ps.map fun p => (p.1, a.eval p.2))).run P w).andThen _ = _
  rw [e1]
  rfl
end
theorem own_some {w : World} {base : Nat} {e : TypeId} {size n c : Nat} {A : Option Addr} {xs : List Value} (h : w.ownsRow base e size (.slice A n c) n xs) (hn : 0 < n) : ∃ g, A = some ⟨g, 0, none⟩ := by
  obtain ⟨g, c', h1, _⟩ := own_at h hn
  injection h1 with h1 _ _
  exact ⟨g, h1⟩
/-- The struct at k of a row of the call's own. -/
theorem Mem.rowStruct {W w : World} {fs : List Fact} (h : Mem W w fs) {α : Type} {f : α → List Value} {sz : Nat} (hf : ∀ x, (f x).length = sz) {i g m c : Nat} {e : TypeId} {l : List α} (hi : fs[i]? = some (.row (.slice (some ⟨g, 0, none⟩) m c) m (l.flatMap f) e sz)) {k : Nat} {x : α} (hk : l[k]? = some x) : w.rangeAt g (k * sz) (f x) :=
  h.rowRange hi (k * sz) fun j u hu => by
    obtain ⟨hl, he⟩ := List.getElem?_eq_some_iff.1 hk
    have hj : j < sz := by have := (List.getElem?_eq_some_iff.1 hu).1; rwa [hf] at this
    rw [flat_at f sz hf l k j hl hj, he]
    exact hu
theorem row_is (A : Option Addr) (n c : Nat) (l : List Ev) (hok : ∀ e ∈ l, e.Ok) (B : Nat) (w : World) (hL : Laid B w) (hB : B ≤ w.heap.size) (hr : Rd w w.heap.size 11 A n (l.flatMap evL)) (hn : n ≤ 140737488355328) {i : Int} {er : Nat} (h : rowR l = (i, er)) :
    Calls Tryd.prog 21 #[.slice A n c] w fun r w' => r = .returned (.tuple #[.int .i64 i, .int .i64 (er : Int)]) ∧ Below w.heap.size w w' :=
  (row_any A n c l hok B w hL hB hr hn).mono fun _ _ p => ⟨by rw [p.ret, h], p.below⟩
theorem size_is (b : Bs) (e : Ev) (he : e.Ok) (B : Nat) (w : World) (hL : Laid B w) (hB : B ≤ w.heap.size) {L er : Nat} (h1 : (putOut b e).length = L) (h2 : putErr b e = er) :
    Calls Tryd.prog 25 #[.agg b.cells, .agg e.cells] w fun r w' => r = .returned (.tuple #[.int .i64 (L : Int), .int .i64 (er : Int)]) ∧ Below w.heap.size w w' :=
  (size_any b e he B w hL hB).mono fun _ _ p => ⟨by rw [p.1, h1, h2], p.2⟩
theorem take_is (b : Bs) (cpu : Nat) (hcpu : cpu < 256) (A : Option Addr) (n c : Nat) (l : List Nat) (B : Nat) (w : World) (hL : Laid B w) (hB : B ≤ w.heap.size) (hr : Rd w w.heap.size 1 A n (l.map B8)) (hc : n ≤ c) (hl : ∀ b ∈ l, b < 256) (hn : n ≤ 200000000000000) {e : Ev} {L er : Nat} (h : takeR b cpu l = (e, L, er)) :
    Calls Tryd.prog 20 #[.agg b.cells, .int .u8 (cpu : Int), .slice A n c] w fun r w' => r = .returned (.tuple #[.agg e.cells, .int .i64 (L : Int), .int .i64 (er : Int)]) ∧ Below w.heap.size w w' :=
  (take_any b cpu hcpu A n c l B w hL hB hr hc hl hn).mono fun _ _ p => ⟨by rw [p.ret, h], p.below⟩
theorem read_is (b : Bs) (cpu : Nat) (hcpu : cpu < 256) (A : Option Addr) (n c : Nat) (m : Int) (hm : I64 m) (l : List Nat) (B : Nat) (w : World) (hL : Laid B w) (hB : B ≤ w.heap.size) (hr : Rd w w.heap.size 1 A n (l.map B8)) (hc : n ≤ c) (hl : ∀ b ∈ l, b < 256) (hn : n ≤ 200000000000000) (hlim : ReadLim m l) {es : List Ev} {L er : Nat} (h : readR b cpu m l = (es, L, er)) :
    Calls Tryd.prog 13 #[.agg b.cells, .int .u8 (cpu : Int), .int .i64 m, .slice A n c] w fun r w' => (∃ A c, r = .returned (.tuple #[.slice A es.length c, .int .i64 (L : Int), .int .i64 (er : Int)]) ∧ w'.ownsRow w.heap.size 37 11 (.slice A es.length c) es.length (es.flatMap evL) ∧ es.length ≤ c) ∧ Below w.heap.size w w' :=
  (cread_any b cpu hcpu A n c m hm l B w hL hB hr hc hl hn hlim).mono fun r w' p => by
    rw [h] at p
    obtain ⟨⟨v, rfl, ho⟩, hb⟩ := p
    obtain ⟨A, c, rfl, hc⟩ := own_slice ho
    exact ⟨⟨A, c, rfl, ho, hc⟩, hb⟩
end Go.Proofs.YtpekelggcmgnnaaDoor
