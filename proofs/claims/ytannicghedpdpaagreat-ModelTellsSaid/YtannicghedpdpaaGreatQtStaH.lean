/- A part of the proof. -/
import Derived.Test.YtannicghedpdpaaGreatQtStaG
namespace Go.Proofs.YtannicghedpdpaaGreat
open Go.RowKit
section
variable {x : Stm} {g c i : Nat}
theorem zl : x.sta.sp.length = x.rs.length := List.length_map ..
theorem qpg : qlu x.sta = decide ((x.cl.length : Int) = x.cpus ∧ (x.cu.length : Int) = x.cpus ∧ x.rs.length = x.gs.length) := by unfold qlu; rw [zl]; rfl
structure ShAt (x : Stm) : Prop where
 cfg : cfgOk x.sta = true
 cl : (x.cl.length : Int) = x.cpus
 cu : (x.cu.length : Int) = x.cpus
 rs : x.rs.length = x.gs.length
 cls : ∀ c, c < x.cl.length → clOk (x.cl.getD c 0) = true
 row : ∀ g, g < x.rs.length → rowOk x.sta g = true
 tk : ∀ i, i < x.ts.length → tkAt x.sta i = true
theorem sh_at (h : qep x.sta = true) : ShAt x := by
 unfold qep at h
 simp only [Bool.and_eq_true] at h
 obtain ⟨⟨h1, h2⟩, h3, h4, h5⟩ := h
 rw [qpg, decide_eq_true_eq] at h2
 rw [zl] at h4
 exact ⟨h1, h2.1, h2.2.1, h2.2.2, fun c hc => qbm h3 hc, fun g hg => qbm h4 hg, fun i hi => qbm h5 hi⟩
theorem qui (hg : g < x.rs.length) : rowOk x.sta g = (decide (((x.rs.getD g Rw.zero).l.length : Int) = x.cpus) && allN (x.rs.getD g Rw.zero).l.length fun c => spOk x.sta g ((x.rs.getD g Rw.zero).l.getD c Sp.zero)) := by
 unfold rowOk Sta.spot
 rw [rs_at hg]
 rfl
theorem qu8 (hg : g < x.rs.length) (h : ((x.rs.getD g Rw.zero).l.length : Int) = x.cpus) (hu : UpTo (x.rs.getD g Rw.zero).l.length (fun c => spOk x.sta g ((x.rs.getD g Rw.zero).l.getD c Sp.zero))) : rowOk x.sta g = true := by rw [qui hg, decide_eq_true h, hu.all]; rfl
theorem qg2 (hg : g < x.rs.length) (h : rowOk x.sta g = true) : ((x.rs.getD g Rw.zero).l.length : Int) = x.cpus ∧ ∀ c, c < (x.rs.getD g Rw.zero).l.length → spOk x.sta g ((x.rs.getD g Rw.zero).l.getD c Sp.zero) = true := by
 rw [qui hg, Bool.and_eq_true, decide_eq_true_eq] at h
 exact ⟨h.1, fun c hc => qbm h.2 hc⟩
variable {z : Sp}
theorem qh5 (h : tkAt x.sta i = true) : (i = 0 ∨ (x.ts.getD (i - 1) Tk.zero).id < (x.ts.getD i Tk.zero).id) ∧ tkOk1 x.sta (x.ts.getD i Tk.zero) = true := by
 unfold tkAt at h
 rw [Bool.and_eq_true, Bool.or_eq_true, beq_iff_eq, decide_eq_true_eq] at h
 exact h
end
theorem wt_at {l : List Gr} (h : gsOk l = true) {g : Nat} (hg : g < l.length) : 1 ≤ (l.getD g Gr.zero).weight ∧ (l.getD g Gr.zero).weight ≤ 65536 := by
 obtain ⟨_, _, h3, h4⟩ := qh h
 rcases Nat.eq_zero_or_pos g with h0 | h0
 ·subst h0; rw [h3]; decide
 ·have := h4 g hg
  unfold gOk wOk at this
  rw [Bool.or_eq_true, beq_iff_eq, decide_eq_true_eq, decide_eq_true_eq] at this
  rcases this with h | h
  ·omega
  ·exact h.2.2.1
end Go.Proofs.YtannicghedpdpaaGreat
