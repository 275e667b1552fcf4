/- A part of the proof. -/
import Derived.Test.YtannicghedpdpaaGreatQtSame
import Derived.Test.YtannicghedpdpaaGreatQtTail
import Derived.Test.YtannicghedpdpaaGreatQtSep6
set_option linter.all false
namespace Go.Proofs.YtannicghedpdpaaGreat
open Go.RowKit
section
variable {P : Program} {Q : Exit → Act → World → Prop} {a : Act} {W w : World} {n d : Nat} {D : List Deferred} {σ : List (Nat × Value)} {o : Oper} {K : Act → World → Prop} {fs : List Fact}
end
def rwF (t : TypeId) (q : List Rw) : List Fact := ownsF t 3 (q.map Rw.own)
section
variable {W w w' : World} {fs gs a T : List Fact} {t : TypeId} {q : List Rw}
theorem qpp {x : Rw} (hq : x ∈ q) : Fact.row (.slice x.A x.l.length x.c) x.l.length (x.l.flatMap spL) t 3 ∈ rwF t q := List.mem_map_of_mem (List.mem_map_of_mem hq)
theorem Mem.toRw {A : Option Addr} {c : Nat} {l : List Sp} (h : Mem W w (.row (.slice A l.length c) l.length (l.flatMap spL) t 3 :: (fs ++ rwF t q))) : Mem W w (fs ++ rwF t (q ++ [⟨A, c, l⟩])) := by
 have h1 := Mem.qxp h
 unfold rwF
 rw [List.map_append]
 exact h1
theorem Mem.joinT (h : Mem W w fs) (k : Mem w w' gs) : Mem W w' (fs ++ gs) := (h.join k).perm List.perm_append_comm
end
def stF (x : Stm) : List Fact := [.row (.slice x.gA x.gs.length x.gc) x.gs.length (x.gs.flatMap grL) 50 2, .row (.slice x.lA x.cl.length x.lc) x.cl.length (x.cl.map I64i) 3 1, .row (.slice x.uA x.cu.length x.uc) x.cu.length (x.cu.map I64i) 3 1, .row (.slice x.tA x.ts.length x.tc) x.ts.length (x.ts.flatMap tkL) 81 8, .row (.slice x.sA x.rs.length x.sc) x.rs.length (x.rs.map Rw.val) 63 1] ++ rwF 83 x.rs
section
variable {W w w' : World} {fs T : List Fact} {x : Stm}
theorem Mem.stOf (h : Mem W w fs) (hs : ∀ f ∈ stF x, f ∈ fs) : StRd w x :=
 ⟨h.rdMem (hs _ (List.mem_of_getElem? (i := 0) (l := stF x) rfl)), h.rdMem (hs _ (List.mem_of_getElem? (i := 1) (l := stF x) rfl)), h.rdMem (hs _ (List.mem_of_getElem? (i := 2) (l := stF x) rfl)), h.rdMem (hs _ (List.mem_of_getElem? (i := 3) (l := stF x) rfl)), h.rdMem (hs _ (List.mem_of_getElem? (i := 4) (l := stF x) rfl)), fun y hy => h.rdMem (hs _ (List.mem_append_right _ (qpp hy)))⟩
theorem Mem.stL (n : Nat) (h : Mem W w fs) (he : fs.drop n = stF x ++ T) : StRd w x := h.stOf fun f hf => List.mem_of_mem_drop (he ▸ List.mem_append_left _ hf)
end
def ql3 (w : World) (x : Stm) (r : Ending) (w' : World) : Prop := ∃ y : Stm, r = .returned (.agg y.cells) ∧ StaEq x y ∧ StCap y ∧ Mem w w' (stF y)
theorem ql4 (l : List Gr) : ∀ u ∈ l.flatMap grL, u.oneCell' = true := by
 intro u hu
 obtain ⟨x, _, hx⟩ := List.mem_flatMap.1 hu
 simp only [grL, List.mem_cons, List.not_mem_nil, or_false] at hx
 rcases hx with rfl | rfl <;> rfl
theorem quj (l : List Sp) : ∀ u ∈ l.flatMap spL, u.oneCell' = true := by
 intro u hu
 obtain ⟨x, _, hx⟩ := List.mem_flatMap.1 hu
 simp only [spL, List.mem_cons, List.not_mem_nil, or_false] at hx
 rcases hx with rfl | rfl | rfl <;> rfl
theorem qbs (l : List Tk) : ∀ u ∈ l.flatMap tkL, u.oneCell' = true := by
 intro u hu
 obtain ⟨x, _, hx⟩ := List.mem_flatMap.1 hu
 simp only [tkL, List.mem_cons, List.not_mem_nil, or_false] at hx
 rcases hx with rfl | rfl | rfl | rfl | rfl | rfl | rfl | rfl <;> rfl
theorem qkx (l : List Int) : ∀ u ∈ l.map I64i, u.oneCell' = true := by
 intro u hu
 obtain ⟨x, _, rfl⟩ := List.mem_map.1 hu
 rfl
theorem qpq (l : List Rw) : ∀ u ∈ l.map Rw.val, u.oneCell' = true := by
 intro u hu
 obtain ⟨x, _, rfl⟩ := List.mem_map.1 hu
 rfl
theorem ql5 {l : List Rw} {k : Nat} (h : k < l.length) : (l.take (k + 1)).map Rw.l = (l.take k).map Rw.l ++ [(l.getD k Rw.zero).l] := by rw [qcz Rw.zero h, List.map_append]; rfl
theorem qf1 {a b : Stm} (h : StaEq a b) : b.sta = a.sta := by
 obtain ⟨⟨h1, h2, h3⟩, h4, h5, h6, h7⟩ := h
 unfold Stm.sta
 rw [h1, h2, h3, h4, h5, h6, show a.rs.map Rw.l = b.rs.map Rw.l from h7]
theorem qg5 {a b : Stm} (h : rowsL a = rowsL b) : a.rs.length = b.rs.length := by rw [← ql2 a, h, ql2]
def LitP (x : Stm) : Prop := x.ts.length ≤ 60 ∧ x.gs.length ≤ 12 ∧ x.rs.length ≤ 12 ∧ x.cl.length ≤ 8 ∧ x.cu.length ≤ 8 ∧ ∀ k, k < x.rs.length → (x.rs.getD k Rw.zero).l.length ≤ 8
instance litDec (x : Stm) : Decidable (LitP x) := by unfold LitP; infer_instance
end Go.Proofs.YtannicghedpdpaaGreat
