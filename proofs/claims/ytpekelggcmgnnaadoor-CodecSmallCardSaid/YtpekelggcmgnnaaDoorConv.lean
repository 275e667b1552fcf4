/- Bytes as a string; the example events; awake. -/
import Derived.Test.YtpekelggcmgnnaaDoorCod9
import Derived.Laws.BytesString
import Derived.Laws.BytesArg
namespace Go.Proofs.YtpekelggcmgnnaaDoor
open Go.RowKit

def bstr (l : List Nat) : ByteArray := ⟨(l.map fun b => UInt8.ofNat b).toArray⟩
theorem conv_str {P : Program} {ts tsl te : TypeId} (hs : P.underlying tsl = some (.slice te)) (he : P.underlying te = some (.int .u8)) (hd : P.underlying ts = some .string) {w : World} {B : Nat} {A : Option Addr} {n c : Nat} {l : List Nat} (hr : Rd w B 1 A n (l.map B8)) :
    (convert tsl ts (.slice A n c)).run P w = .ok (.string (bstr l)) w := by
  have hlen : l.length = n := by simpa using hr.len
  cases A with
  | none =>
    have hn : n = 0 := by
      rcases Nat.eq_zero_or_pos n with h | h
      · exact h
      · obtain ⟨ad, h1, _⟩ := hr.row h; cases h1
    have hl : l = [] := List.eq_nil_of_length_eq_zero (by omega)
    subst hl
    rw [run_convert_bytes_nil w tsl te hs he n c ts hd]
    rfl
  | some a =>
    have hcells : ∀ j u, (l.map B8)[j]? = some u → w.cell? (a.add j) = some u := by
      intro j u hu
      rcases Nat.eq_zero_or_pos n with h | h
      · have : l = [] := List.eq_nil_of_length_eq_zero (by omega)
        subst this; simp at hu
      · obtain ⟨ad, h1, _, h2⟩ := hr.row h
        injection h1 with h1; subst h1
        exact h2 j u hu
    have hl := run_loadCells_list (P := P) w a (l.map B8) hcells
    have e : l.map B8 = (l.map (fun b : Nat => (b : Int))).map (Value.int .u8) := by rw [List.map_map]; rfl
    rw [List.length_map, hlen, e] at hl
    rw [run_convert_bytes_string w tsl ts te _ n c hs he hd, run_bytesToString w a n c _ hl, foldl_push_bytes]
    simp [bstr, ByteArray.empty, ByteArray.emptyWithCapacity]
    rfl
theorem conv_u8 {w : World} {B : Nat} {A : Option Addr} {n c : Nat} {l : List Nat} (hr : Rd w B 1 A n (l.map B8)) : (convert 25 9 (.slice A n c)).run Tryd.prog w = .ok (.string (bstr l)) w :=
  conv_str (te := 5) (by kernel_rfl) (by kernel_rfl) (by kernel_rfl) hr
theorem bstr_inj {l m : List Nat} (hl : ∀ b ∈ l, b < 256) (hm : ∀ b ∈ m, b < 256) (h : bstr l = bstr m) : l = m := by
  unfold bstr at h
  injection h with h
  have h2 : (l.map fun b => UInt8.ofNat b) = (m.map fun b => UInt8.ofNat b) := by simpa using h
  have h3 := congrArg (List.map fun x : UInt8 => x.toNat) h2
  rw [List.map_map, List.map_map] at h3
  have e : ∀ l : List Nat, (∀ b ∈ l, b < 256) → l.map ((fun x : UInt8 => x.toNat) ∘ fun b => UInt8.ofNat b) = l := fun l hl => by
    conv => rhs; rw [← List.map_id l]
    exact List.map_congr_left (fun b hb => by have := hl b hb; simp; omega)
  rwa [e l hl, e m hm] at h3

def exA : Ev := ⟨1, 0, 2, 1, 7, 0, 0, 1024, 0, 255, 0⟩
def exB : Ev := ⟨5, 340, 2, 5, 0, 0, 0, 0, 40, 0, 7⟩
theorem exA_ok : exA.Ok := ⟨⟨by decide, by decide⟩, ⟨by decide, by decide⟩, by decide, by decide, ⟨by decide, by decide⟩, ⟨by decide, by decide⟩, ⟨by decide, by decide⟩, ⟨by decide, by decide⟩, ⟨by decide, by decide⟩, by decide, ⟨by decide, by decide⟩⟩
theorem exB_ok : exB.Ok := ⟨⟨by decide, by decide⟩, ⟨by decide, by decide⟩, by decide, by decide, ⟨by decide, by decide⟩, ⟨by decide, by decide⟩, ⟨by decide, by decide⟩, ⟨by decide, by decide⟩, ⟨by decide, by decide⟩, by decide, ⟨by decide, by decide⟩⟩

set_option maxHeartbeats 400000 in
theorem example_any (w : World) : Calls Tryd.prog 23 #[] w fun r w' => r = .returned (.tuple #[.agg exA.cells, .agg exB.cells]) ∧ Below w.heap.size w w' := by
  go_enter Tryd.func23, Tryd.ntmps23
  go_wp2
  refine bodyPost_ret (v := .tuple #[.agg exA.cells, .agg exB.cells]) (by simp [results, Tryd.results23, go_sem, exA, exB, Ev.cells]) rfl ⟨rfl, ((Below.refl _ _).alloc (Nat.le_refl _) _).alloc (by simp) _⟩

theorem aw1 : putErr ⟨1, 0⟩ exA = 0 ∧ putOut ⟨1, 0⟩ exA = [1, 0, 0, 7, 0, 128, 8, 255, 1] := by decide +kernel
theorem aw2 : putErr ⟨3, 300⟩ exB = 0 ∧ putOut ⟨3, 300⟩ exB = [5, 2, 40, 40, 7] := by decide +kernel
theorem aw3 : putErr ⟨6, 0⟩ exB = 70 ∧ putOut ⟨6, 0⟩ exB = [] := by decide +kernel
theorem aw4 : (takeR ⟨3, 300⟩ 2 [5, 2, 40, 40, 7, 9]).1 = exB ∧ (takeR ⟨3, 300⟩ 2 [5, 2, 40, 40, 7, 9]).2 = (5, 0) := by constructor <;> kernel_rfl
theorem aw5 : (takeR ⟨3, 0⟩ 2 [5, 2, 40]).2.2 = 10 := by kernel_rfl
theorem aw6 : (takeR ⟨3, 0⟩ 64 [5, 2, 40, 40, 7]).2.2 = 61 := by kernel_rfl
theorem aw7 : writeErr ⟨1, 0⟩ [exA, exB] = 0 ∧ writeOut ⟨1, 0⟩ [exA, exB] = [1, 0, 0, 7, 0, 128, 8, 255, 1, 5, 4, 212, 2, 40, 7] := by decide +kernel
theorem aw8 : (readR ⟨1, 0⟩ 2 2 [6, 0, 0, 0, 6, 0, 0, 0]).2.2 = 71 := by kernel_rfl
end Go.Proofs.YtpekelggcmgnnaaDoor
