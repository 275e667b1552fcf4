/- A part of the proof. -/
import Derived.Test.YtcajpeiobkcliaaGreatDoorQwStaG
namespace Go.Proofs.YtcajpeiobkcliaaGreatDoor
open Go.RowKit
section
variable {x : Stm} {g c i : Nat}
theorem zf : x.sta.sp.length = x.rs.length := List.length_map ..
theorem ql7 : qnk x.sta = decide ((x.cl.length : Int) = x.cpus ∧ (x.cu.length : Int) = x.cpus ∧ x.rs.length = x.gs.length) := by unfold qnk; rw [zf]; rfl
theorem q0w (h : cfgOk x.sta = false) : za x.sta = false := by unfold za; rw [h]; rfl
theorem qr1 (h : ¬ ((x.cl.length : Int) = x.cpus ∧ (x.cu.length : Int) = x.cpus ∧ x.rs.length = x.gs.length)) : za x.sta = false := by unfold za; rw [ql7, decide_eq_false h, Bool.and_false, Bool.false_and]
theorem sh_cl (h : allN x.cl.length (fun c => clOk (x.cl.getD c 0)) = false) : za x.sta = false := by unfold za; rw [show allN x.sta.cl.length (fun c => clOk (x.sta.cl.getD c 0)) = false from h]; simp
theorem qxn (hg : g < x.rs.length) (h : rowOk x.sta g = false) : za x.sta = false := by unfold za; rw [qbj (n := x.sta.sp.length) (by rwa [zf]) h]; simp
theorem sh_tk (hi : i < x.ts.length) (h : tkAt x.sta i = false) : za x.sta = false := by unfold za; rw [qbj (n := x.sta.ts.length) hi h]; simp
theorem q0x (h1 : cfgOk x.sta = true) (h2 : (x.cl.length : Int) = x.cpus ∧ (x.cu.length : Int) = x.cpus ∧ x.rs.length = x.gs.length) (h3 : allN x.cl.length (fun c => clOk (x.cl.getD c 0)) = true) (h4 : UpTo x.rs.length (rowOk x.sta)) (h5 : UpTo x.ts.length (tkAt x.sta)) : za x.sta = true := by
 unfold za
 rw [h1, ql7, decide_eq_true h2, show allN x.sta.cl.length (fun c => clOk (x.sta.cl.getD c 0)) = true from h3, zf, h4.all, show allN x.sta.ts.length (tkAt x.sta) = true from h5.all]
 rfl
structure ShAt (x : Stm) : Prop where
 cfg : cfgOk x.sta = true
 cl : (x.cl.length : Int) = x.cpus
 cu : (x.cu.length : Int) = x.cpus
 rs : x.rs.length = x.gs.length
 cls : ∀ c, c < x.cl.length → clOk (x.cl.getD c 0) = true
 row : ∀ g, g < x.rs.length → rowOk x.sta g = true
 tk : ∀ i, i < x.ts.length → tkAt x.sta i = true
theorem sh_at (h : za x.sta = true) : ShAt x := by
 unfold za at h
 simp only [Bool.and_eq_true] at h
 obtain ⟨⟨h1, h2⟩, h3, h4, h5⟩ := h
 rw [ql7, decide_eq_true_eq] at h2
 rw [zf] at h4
 exact ⟨h1, h2.1, h2.2.1, h2.2.2, fun c hc => qbd h3 hc, fun g hg => qbd h4 hg, fun i hi => qbd h5 hi⟩
theorem qnp (hg : g < x.rs.length) : rowOk x.sta g = (decide (((x.rs.getD g Rw.zero).l.length : Int) = x.cpus) && allN (x.rs.getD g Rw.zero).l.length fun c => spOk x.sta g ((x.rs.getD g Rw.zero).l.getD c Sp.zero)) := by
 unfold rowOk Sta.spot
 rw [rs_at hg]
 rfl
theorem qym (hg : g < x.rs.length) (h : ((x.rs.getD g Rw.zero).l.length : Int) ≠ x.cpus) : rowOk x.sta g = false := by rw [qnp hg, decide_eq_false h]; rfl
theorem qyn (hg : g < x.rs.length) (hc : c < (x.rs.getD g Rw.zero).l.length) (h : spOk x.sta g ((x.rs.getD g Rw.zero).l.getD c Sp.zero) = false) : rowOk x.sta g = false := by rw [qnp hg, qbj hc h, Bool.and_false]
theorem qr2 (hg : g < x.rs.length) (h : ((x.rs.getD g Rw.zero).l.length : Int) = x.cpus) (hu : UpTo (x.rs.getD g Rw.zero).l.length (fun c => spOk x.sta g ((x.rs.getD g Rw.zero).l.getD c Sp.zero))) : rowOk x.sta g = true := by rw [qnp hg, decide_eq_true h, hu.all]; rfl
theorem qgh (hg : g < x.rs.length) (h : rowOk x.sta g = true) : ((x.rs.getD g Rw.zero).l.length : Int) = x.cpus ∧ ∀ c, c < (x.rs.getD g Rw.zero).l.length → spOk x.sta g ((x.rs.getD g Rw.zero).l.getD c Sp.zero) = true := by
 rw [qnp hg, Bool.and_eq_true, decide_eq_true_eq] at h
 exact ⟨h.1, fun c hc => qbd h.2 hc⟩
variable {z : Sp}
theorem q0y (h : entOk z.v z.r (x.gs.getD g Gr.zero).weight = false) : spOk x.sta g z = false := by unfold spOk; rw [show entOk z.v z.r (x.sta.gs.getD g Gr.zero).weight = false from h]; rfl
theorem q0z (h0 : g = 0) (h : ¬ (z.v = 0 ∧ z.r = 0)) : spOk x.sta g z = false := by unfold spOk; rw [decide_eq_false h, h0]; simp
theorem qyo (h : entOk z.v z.r (x.gs.getD g Gr.zero).weight = true) (h0 : g ≠ 0) : spOk x.sta g z = true := by unfold spOk; rw [show entOk z.v z.r (x.sta.gs.getD g Gr.zero).weight = true from h]; simp [h0]
theorem qyp (h : entOk z.v z.r (x.gs.getD g Gr.zero).weight = true) (h0 : g = 0) (hv : z.v = 0) : ((z.r : Int) != (0 : Int)) = !spOk x.sta g z := by
 unfold spOk
 rw [show entOk z.v z.r (x.sta.gs.getD g Gr.zero).weight = true from h, h0, hv]
 rw [Bool.eq_iff_iff, bne_iff_ne]
 simp
theorem qr3 (h0 : i = 0 ∨ (x.ts.getD (i - 1) Tk.zero).id < (x.ts.getD i Tk.zero).id) : tkAt x.sta i = tkOk1 x.sta (x.ts.getD i Tk.zero) := by
 unfold tkAt
 rw [show (i == 0 || decide ((x.sta.ts.getD (i - 1) Tk.zero).id < (x.sta.ts.getD i Tk.zero).id)) = true from by rw [Bool.or_eq_true, beq_iff_eq, decide_eq_true_eq]; exact h0]
 rfl
theorem qvb (h0 : 0 < i) (h : ¬ (x.ts.getD (i - 1) Tk.zero).id < (x.ts.getD i Tk.zero).id) : tkAt x.sta i = false := by
 unfold tkAt
 rw [show decide ((x.sta.ts.getD (i - 1) Tk.zero).id < (x.sta.ts.getD i Tk.zero).id) = false from decide_eq_false h, show (i == 0) = false from by rw [beq_eq_false_iff_ne]; omega]
 rfl
theorem qgi (h : tkAt x.sta i = true) : (i = 0 ∨ (x.ts.getD (i - 1) Tk.zero).id < (x.ts.getD i Tk.zero).id) ∧ tkOk1 x.sta (x.ts.getD i Tk.zero) = true := by
 unfold tkAt at h
 rw [Bool.and_eq_true, Bool.or_eq_true, beq_iff_eq, decide_eq_true_eq] at h
 exact h
end
theorem wt_at {l : List Gr} (h : gsOk l = true) {g : Nat} (hg : g < l.length) : 1 ≤ (l.getD g Gr.zero).weight ∧ (l.getD g Gr.zero).weight ≤ 65536 := by
 obtain ⟨_, _, h3, h4⟩ := qk h
 rcases Nat.eq_zero_or_pos g with h0 | h0
 ·subst h0; rw [h3]; decide
 ·have := h4 g hg
  unfold gOk wOk at this
  rw [Bool.or_eq_true, beq_iff_eq, decide_eq_true_eq, decide_eq_true_eq] at this
  rcases this with h | h
  ·omega
  ·exact h.2.2.1
end Go.Proofs.YtcajpeiobkcliaaGreatDoor
