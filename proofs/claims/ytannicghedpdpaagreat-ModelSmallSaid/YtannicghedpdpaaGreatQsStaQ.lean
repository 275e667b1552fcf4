/- A part of the proof. -/
import Derived.Test.YtannicghedpdpaaGreatQsStaH
import Derived.Test.YtannicghedpdpaaGreatQsSep19
namespace Go.Proofs.YtannicghedpdpaaGreat
open Go.RowKit
def cmpI (a b : Int) : Int := if a < b then -1 else if b < a then 1 else 0
theorem qqt {a b : Int} : decide (cmpI a b < 0) = decide (a < b) := by
 unfold cmpI
 split
 ·rename_i h; rw [decide_eq_true h]; rfl
 ·rename_i h; rw [decide_eq_false h]; split <;> rfl
theorem qqu {a b : Int} : (cmpI a b == 0) = decide (a = b) := by
 unfold cmpI
 split
 ·rename_i h; rw [decide_eq_false om]; rfl
 ·split
  ·rw [decide_eq_false om]; rfl
  ·rw [decide_eq_true om]; rfl
theorem qv8 {a b : Int} : (cmpI a b != 0) = decide (a ≠ b) := by
 rw [bne, qqu, decide_not]
def SortT (l : List Tk) : Prop := ∀ i j, i < j → j < l.length → (l.getD i Tk.zero).id < (l.getD j Tk.zero).id
theorem qqv {x : Stm} (h : ShAt x) : SortT x.ts := by
 have step : ∀ i, i + 1 < x.ts.length → (x.ts.getD i Tk.zero).id < (x.ts.getD (i + 1) Tk.zero).id := fun i hi => by
  have := (qip (h.tk (i + 1) hi)).1
  rw [Nat.add_sub_cancel] at this
  rcases this with h | h
  ·omega
  ·exact h
 intro i j hij
 induction j with
 | zero => omega
 | succ j ih =>
  intro hj
  have h1 := step j hj
  rcases Nat.lt_or_ge i j with h2 | h2
  ·have := ih h2 om; omega
  ·obtain rfl : i = j := by omega
   exact h1
theorem qee {l : List Tk} {id : Int} {i : Nat} (hi : i < l.length) (h : (l.getD i Tk.zero).id = id) (hn : ∀ k, k < i → (l.getD k Tk.zero).id ≠ id) : findS l id = some i := by
 unfold findS
 rw [List.findIdx?_eq_some_iff_getElem]
 have e : ∀ k (hk : k < l.length), l.getD k Tk.zero = l[k] := fun k hk => by rw [List.getD_eq_getElem?_getD, List.getElem?_eq_getElem hk]; rfl
 refine ⟨hi, by rw [← e i hi]; exact beq_iff_eq.2 h, fun k hk => ?_⟩
 have := hn k hk
 rw [e k om] at this
 simpa using this
theorem qgg {l : List Tk} {id : Int} (hn : ∀ k, k < l.length → (l.getD k Tk.zero).id ≠ id) : findS l id = none := by
 unfold findS
 rw [List.findIdx?_eq_none_iff]
 intro t ht
 obtain ⟨k, hk, rfl⟩ := List.getElem_of_mem ht
 have := hn k hk
 rw [List.getD_eq_getElem?_getD, List.getElem?_eq_getElem hk] at this
 simpa using this
theorem qqw {l : List Tk} {id : Int} {i : Nat} (h : findS l id = some i) : i < l.length ∧ (l.getD i Tk.zero).id = id := by
 unfold findS at h
 rw [List.findIdx?_eq_some_iff_getElem] at h
 obtain ⟨hi, h1, _⟩ := h
 exact ⟨hi, by rw [List.getD_eq_getElem?_getD, List.getElem?_eq_getElem hi]; exact beq_iff_eq.1 h1⟩
def fidx (l : List Tk) (id : Int) : Int := match findS l id with
 | some i => (i : Int)
 | none => -1
def qfv (w : World) (l : List Tk) (id : Int) (r : Ending) (w' : World) : Prop := (∃ (i : Nat) (b : Bool), r = .returned (.tuple #[.int .i64 (i : Int), .bool b]) ∧ i ≤ l.length ∧ (if b = true then (i : Int) else -1) = fidx l id) ∧ Below w.heap.size w w'
theorem qqx {w w' : World} {l : List Tk} {id : Int} {i : Nat} (hs : SortT l) (hi : i < l.length) (h1 : ∀ k, k < i → (l.getD k Tk.zero).id < id) (h2 : ∀ k, i ≤ k → k < l.length → id ≤ (l.getD k Tk.zero).id) (hb : Below w.heap.size w w') : qfv w l id (.returned (.tuple #[.int .i64 (i : Int), .bool (decide ((l.getD i Tk.zero).id = id))])) w' := by
 refine ⟨⟨i, _, rfl, by omega, ?_⟩, hb⟩
 unfold fidx
 by_cases h : (l.getD i Tk.zero).id = id
 ·rw [decide_eq_true h, if_pos rfl, qee hi h (fun k hk => by have := h1 k hk; omega)]
 ·rw [decide_eq_false h, if_neg de, qgg (fun k hk => ?_)]
  rcases Nat.lt_or_ge k i with h3 | h3
  ·have := h1 k h3; omega
  ·have h4 := h2 i (Nat.le_refl _) hi
   rcases Nat.lt_or_ge i k with h5 | h5
   ·have := hs i k h5 hk; omega
   ·obtain rfl : k = i := by omega
    exact h
theorem search_end {w w' : World} {l : List Tk} {id : Int} (h1 : ∀ k, k < l.length → (l.getD k Tk.zero).id < id) (hb : Below w.heap.size w w') : qfv w l id (.returned (.tuple #[.int .i64 (l.length : Int), .bool false])) w' := by
 refine ⟨⟨_, _, rfl, Nat.le_refl _, ?_⟩, hb⟩
 unfold fidx
 rw [if_neg de, qgg (fun k hk => by have := h1 k hk; omega)]
theorem qef {x : Stm} {c : Nat} (h0 : x.cu.getD c 0 ≠ 0) {i : Nat} (hi : findS x.ts (x.cu.getD c 0) = some i) : curOk x.sta c = ((x.ts.getD i Tk.zero).ready && decide ((x.ts.getD i Tk.zero).cpu = c)) := by
 unfold curOk
 rw [show findS x.sta.ts (x.sta.cu.getD c 0) = some i from hi, show decide (x.sta.cu.getD c 0 = 0) = false from decide_eq_false h0]
 rfl
theorem qe2 {x : Stm} {c : Nat} (h0 : x.cu.getD c 0 ≠ 0) (hi : findS x.ts (x.cu.getD c 0) = none) : curOk x.sta c = false := by
 unfold curOk
 rw [show findS x.sta.ts (x.sta.cu.getD c 0) = none from hi, show decide (x.sta.cu.getD c 0 = 0) = false from decide_eq_false h0]
 rfl
theorem qhq {x : Stm} {c : Nat} (h0 : x.cu.getD c 0 = 0) : curOk x.sta c = true := by
 unfold curOk
 rw [show decide (x.sta.cu.getD c 0 = 0) = true from decide_eq_true h0]
 rfl
theorem qe3 (l : List Tk) (id : Int) : (fidx l id = -1 ∧ findS l id = none) ∨ ∃ i : Nat, fidx l id = i ∧ findS l id = some i ∧ i < l.length ∧ (l.getD i Tk.zero).id = id := by
 unfold fidx
 cases h : findS l id with
 | none => exact .inl ⟨rfl, rfl⟩
 | some i => exact .inr ⟨i, rfl, rfl, qqw h⟩
def Mb.nums (m : Mb) : List Nat := [m.v, m.k, m.id]
def Mb.cells (m : Mb) : Array Value := #[.int .u64 (m.v : Int), .int .u64 (m.k : Int), .int .u64 (m.id : Int)]
def Mb.Ok (m : Mb) : Prop := m.v < 18446744073709551616 ∧ m.k < 18446744073709551616 ∧ m.id < 18446744073709551616
theorem qgh (x : Mb) : ∀ v ∈ x.cells.toList, v.oneCell' = true := by simp [Mb.cells, Value.oneCell']
theorem qtv {a b : Mb} {k : Nat} (hk : k < 3) (he : ∀ i, i < k → a.nums.getD i 0 = b.nums.getD i 0) (hn : a.nums.getD k 0 ≠ b.nums.getD k 0) : decide (cmpI (a.nums.getD k 0 : Int) (b.nums.getD k 0 : Int) < 0) = a.lt b := by
 rw [qqt]
 obtain ⟨a0, a1, a2⟩ := a
 obtain ⟨b0, b1, b2⟩ := b
 unfold Mb.lt
 rw [decide_eq_decide]
 dsimp only
 rcases k with _ | _ | _ | k
 ·simp [Mb.nums] at hn ⊢; omega
 ·have h0 := he 0 om
  simp [Mb.nums] at hn h0 ⊢; omega
 ·have h0 := he 0 om
  have h1 := he 1 om
  simp [Mb.nums] at hn h0 h1 ⊢; omega
 ·omega
theorem qtw {a b : Mb} (he : ∀ i, i < 3 → a.nums.getD i 0 = b.nums.getD i 0) : a.lt b = false := by
 obtain ⟨a0, a1, a2⟩ := a
 obtain ⟨b0, b1, b2⟩ := b
 have h0 := he 0 om
 have h1 := he 1 om
 have h2 := he 2 om
 simp [Mb.nums] at h0 h1 h2
 subst h0; subst h1; subst h2
 unfold Mb.lt
 rw [decide_eq_false_iff_not]
 simp
def MbCmp (w : World) (a b : Mb) (r : Ending) (w' : World) : Prop := (∃ c : Int, r = .returned (.int .i64 c) ∧ decide (c < 0) = a.lt b) ∧ Below w.heap.size w w'
theorem qhr (b : Mb) (l : List Mb) (m : Mb) : bestM b (l ++ [m]) = if m.lt (bestM b l) then m else bestM b l := by unfold bestM; rw [List.foldl_append]; rfl
theorem qah {α β : Type} {f : α → Option β} {l : List α} {k : Nat} (d : α) (hk : k < l.length) : (l.take (k + 1)).filterMap f = (l.take k).filterMap f ++ (f (l.getD k d)).toList := by
 rw [takeSnoc' d hk, List.filterMap_append]
 congr 1
where
 takeSnoc' {α : Type} {l : List α} {k : Nat} (d : α) (hk : k < l.length) : l.take (k + 1) = l.take k ++ [l.getD k d] := by
  rw [List.take_add_one, List.getElem?_eq_getElem hk, List.getD_eq_getElem?_getD, List.getElem?_eq_getElem hk]
  rfl
theorem qtx {w w' : World} {a b : Mb} {k : Nat} (hk : k < 3) (he : ∀ i, i < k → a.nums.getD i 0 = b.nums.getD i 0) (hn : a.nums.getD k 0 ≠ b.nums.getD k 0) (hb : Below w.heap.size w w') : MbCmp w a b (.returned (.int .i64 (cmpI (a.nums.getD k 0 : Int) (b.nums.getD k 0 : Int)))) w' := ⟨⟨_, rfl, qtv hk he hn⟩, hb⟩
theorem qty {w w' : World} {a b : Mb} (he : ∀ i, i < 3 → a.nums.getD i 0 = b.nums.getD i 0) (hb : Below w.heap.size w w') : MbCmp w a b (.returned (.int .i64 0)) w' := ⟨⟨_, rfl, by rw [qtw he]; rfl⟩, hb⟩
theorem qlp {n g h : Nat} (h1 : g + 1 ≤ h) (h2 : h < n) : ((List.range n).drop (g + 1)).getD (h - (g + 1)) 0 = h ∧ h - (g + 1) < ((List.range n).drop (g + 1)).length := by
 have hl : h - (g + 1) < ((List.range n).drop (g + 1)).length := by simp; omega
 refine ⟨?_, hl⟩
 rw [List.getD_eq_getElem?_getD, List.getElem?_eq_getElem hl, List.getElem_drop, List.getElem_range]
 show g + 1 + (h - (g + 1)) = h
 omega
theorem qiq {β : Type} {f : Nat → Option β} {n g h : Nat} (h1 : g + 1 ≤ h) (h2 : h < n) : (((List.range n).drop (g + 1)).take (h + 1 - (g + 1))).filterMap f = (((List.range n).drop (g + 1)).take (h - (g + 1))).filterMap f ++ (f h).toList := by
 obtain ⟨e, hl⟩ := qlp h1 h2
 have := qah (f := f) 0 hl
 rw [e] at this
 rw [show h + 1 - (g + 1) = h - (g + 1) + 1 by omega]
 exact this
theorem qqy {β : Type} {f : Nat → Option β} {n g : Nat} : (((List.range n).drop (g + 1)).take (n - (g + 1))).filterMap f = ((List.range n).drop (g + 1)).filterMap f := by rw [List.take_of_length_le (by simp)]
section
variable {x : Stm} {g c h : Nat} {m : Nat → List Mb}
theorem qj7 (hp : (x.gs.getD h Gr.zero).parent ≠ g) : grpM x.sta c m g h = none := if_neg (fun hh => hp hh.1)
theorem qj8 (hm : m h = []) : grpM x.sta c m g h = none := if_neg (fun hh => hh.2 hm)
theorem qm9 (hr : h < x.rs.length) (hp : (x.gs.getD h Gr.zero).parent = g) (hm : m h ≠ []) : grpM x.sta c m g h = some ⟨((x.rs.getD h Rw.zero).l.getD c Sp.zero).v, 1, h⟩ := by
 unfold grpM
 rw [if_pos ⟨hp, hm⟩]
 unfold Sta.spot
 rw [rs_at hr]
theorem r_no0 (h0 : zi x.sta = false) : qax x.sta = false := by unfold qax; rw [h0]; rfl
theorem r_no1 (hc : c < x.cu.length) (h : curOk x.sta c = false) : qax x.sta = false := by unfold qax; rw [zf (n := x.sta.cu.length) hc (by rw [h]; rfl), Bool.and_false]
theorem r_no2 (hc : c < x.cu.length) (hg : g < x.rs.length) (h : lowS x.sta g c = false) : qax x.sta = false := by
 unfold qax
 rw [zf (n := x.sta.cu.length) hc (by rw [zf (n := x.sta.sp.length) (p := fun g => lowS x.sta g c) (i := g) (by rwa [zg]) h, Bool.and_false]), Bool.and_false]
theorem r_yes (h0 : zi x.sta = true) (hu : UpTo x.cu.length fun c => curOk x.sta c && allN x.rs.length fun g => lowS x.sta g c) : qax x.sta = true := by
 unfold qax
 rw [h0, zg, show allN x.sta.cu.length _ = true from hu.all]
 rfl
theorem qlq (h : memS x.sta g c = []) : lowS x.sta g c = true := decide_eq_true (.inl h)
theorem qqz (h : memS x.sta g c ≠ []) : lowS x.sta g c = decide ((bestM topM (memS x.sta g c)).v ≤ (x.sta.spot g c).floor) := by
 unfold lowS
 exact decide_eq_decide.2 ⟨fun hh => hh.resolve_left h, .inr⟩
theorem qgi (hr : g < x.rs.length) : x.sta.spot g c = (x.rs.getD g Rw.zero).l.getD c Sp.zero := by unfold Sta.spot; rw [rs_at hr]
end
end Go.Proofs.YtannicghedpdpaaGreat
