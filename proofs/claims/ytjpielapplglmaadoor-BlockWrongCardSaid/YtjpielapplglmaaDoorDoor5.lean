/- What the reading of an argument gives: structs, bytes and events as parts. -/
import Derived.Test.YtjpielapplglmaaDoorDoor4
namespace Go.Proofs.YtjpielapplglmaaDoor
open Go.RowKit Go.ChangeShapes Go.WideShapes Go.ChangeAt

/-- Field i of a struct lies at off and is of such a type. -/
def fieldAt (P : Program) (t : TypeId) (i off : Nat) (u : TypeId) : Bool := match P.underlying t with
  | some (.struct fs) => match fs[i]? with
    | some f => decide (f.offset = off) && decide (f.type = u)
    | none => false
  | _ => false
section
variable {H : Type} {enc : TypeId × Value → H} {P : Program} {W : World} {b0 : Nat} {sp : Nat → Bool} {held : Bool}
theorem struct_field {t u : TypeId} {i off : Nat} (hf : fieldAt P t i off u = true) {fuel : Nat} {cs : List Value} {x : DataW H × List MemPlace} (h : DataW.trod enc P W b0 sp held fuel t cs = some x) :
    cs.length = P.cellsOf t ∧ ∃ n y, DataW.trod enc P W b0 sp held n u ((cs.drop off).take (P.cellsOf u)) = some y := by
  unfold fieldAt at hf
  split at hf
  · rename_i fs hu
    split at hf
    · rename_i f hfi
      simp only [Bool.and_eq_true, decide_eq_true_eq] at hf
      obtain ⟨xs, n, _, _, hl, hx, he⟩ := DataW.trod_struct hu h
      refine ⟨hl, n, ?_⟩
      have h5 := he i f hfi
      have hi : i < fs.size := (Array.getElem?_eq_some_iff.1 hfi).1
      rw [List.getElem?_eq_getElem (by omega), hf.1, hf.2] at h5
      exact ⟨_, h5⟩
    · cases hf
  · cases hf
end
section
variable {H : Type} {enc : TypeId × Value → H} {W : World} {b0 : Nat} {v : Value} {d : DataW H} {p : List MemPlace}
def bsKinds : List Go.IntKind := [.i64, .i64]
theorem bs_fields : intFields Tryd.prog 27 bsKinds = true := by kernel_rfl
theorem und_events : Tryd.prog.underlying 35 = some (.slice 55) := by kernel_rfl
set_option maxRecDepth 100000 in
theorem trod_bytes {fuel : Nat} {cs : List Value} {x : DataW H × List MemPlace} (hf : DataW.trod enc Tryd.prog W 0 (fun _ => true) true fuel 22 cs = some x) :
    ∃ (A : Option Addr) (n c : Nat) (l : List Nat), cs = [.slice A n c] ∧ n ≤ c ∧ c ≤ maxLen ∧ (∀ b ∈ l, b < 256) ∧ Rd W W.heap.size 1 A n (l.map B8) := by
  rcases open_ints und_bytes und_u8 cells_u8 hf with ⟨hcs, hx⟩ | ⟨a, len', cap', zs, hcs, _, hl, hm, hz, hx, hcell, hwz⟩
  · exact ⟨none, 0, 0, [], hcs, Nat.le_refl _, by unfold maxLen; omega, by simp, Rd.nil⟩
  · simp only [if_true] at hz
    have hat : ∀ i z, zs[i]? = some z → W.cell? (a.add i) = some (.int .u8 z) ∧ 0 ≤ z ∧ z ≤ 255 := by
      intro i z hi
      obtain ⟨hlt, e⟩ := List.getElem?_eq_some_iff.1 hi
      refine ⟨by rw [hcell i hlt, List.getD_eq_getElem?_getD, hi]; rfl, u8_wf (hwz z (List.mem_of_getElem? hi))⟩
    refine ⟨some a, len', cap', (zs.take len').map Int.toNat, hcs, hl, hm, ?_, by simp; omega, fun hn => ⟨a, rfl, ?_, ?_⟩⟩
    · intro b hb
      obtain ⟨z, hz', rfl⟩ := List.mem_map.1 hb
      have := u8_wf (hwz z (List.mem_of_mem_take hz'))
      omega
    · have h0 : 0 < zs.length := by omega
      have := (hat 0 zs[0] (by simp [h0])).1
      have := World.block_lt_of_cell? W _ this
      simpa [Addr.add] using this
    · intro j u hu
      rw [List.map_map, List.getElem?_map] at hu
      cases hz' : (zs.take len')[j]? with
      | none => simp [hz'] at hu
      | some z =>
        rw [hz'] at hu
        simp only [Option.map_some, Option.some.injEq] at hu
        have hz'' : zs[j]? = some z := by
          rw [List.getElem?_take] at hz'
          split at hz'
          · exact hz'
          · cases hz'
        have h3 := hat j z hz''
        rw [h3.1, ← hu]
        simp [B8, Int.toNat_of_nonneg h3.2.1]
set_option maxRecDepth 100000 in
theorem trod_events {fuel : Nat} {cs : List Value} {x : DataW H × List MemPlace} (hf : DataW.trod enc Tryd.prog W 0 (fun _ => true) true fuel 35 cs = some x) :
    ∃ (A : Option Addr) (n c : Nat) (l : List Ev), cs = [.slice A n c] ∧ n ≤ c ∧ c ≤ maxLen ∧ (∀ x ∈ l, x.Ok) ∧ Rd W W.heap.size 11 A n (l.flatMap evL) := by
  obtain ⟨A, n, c, css, hcs, h1, h2, _, h3, h4⟩ := slice_structs und_events ev_fields (by decide) hf
  obtain ⟨l, h5, h6⟩ := exists_evs css h3
  exact ⟨A, n, c, l, hcs, h1, h2, h6, by rw [h5]; exact h4⟩
theorem one_of_take {cs : List Value} {off : Nat} {u : Value} (h : (cs.drop off).take 1 = [u]) : cs[off]? = some u := by
  have := congrArg (·[0]?) h
  simpa [List.getElem?_take, List.getElem?_drop] using this
theorem cells_evs : Tryd.prog.cellsOf 35 = 1 := by kernel_rfl
theorem cells_bytes : Tryd.prog.cellsOf 22 = 1 := by kernel_rfl
theorem cells_int : Tryd.prog.cellsOf 3 = 1 := by kernel_rfl
def isStructT (P : Program) (t : TypeId) : Bool := match P.underlying t with | some (.struct _) => true | _ => false
theorem of_isStructT {P : Program} {t : TypeId} (h : isStructT P t = true) : ∃ fs, P.underlying t = some (.struct fs) := by
  unfold isStructT at h
  split at h
  · rename_i fs hu; exact ⟨fs, hu⟩
  · cases h
end
end Go.Proofs.YtjpielapplglmaaDoor
