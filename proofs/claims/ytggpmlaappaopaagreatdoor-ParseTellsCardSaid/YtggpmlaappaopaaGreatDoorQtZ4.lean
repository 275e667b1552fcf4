/- Parts. -/
import Derived.Test.YtggpmlaappaopaaGreatDoorQtRef01
import Derived.Test.YtggpmlaappaopaaGreatDoorQtSep20
import Derived.Test.YtggpmlaappaopaaGreatDoorQtSep11
import Derived.Test.YtggpmlaappaopaaGreatDoorQtRnd2
import Derived.Test.YtggpmlaappaopaaGreatDoorQtZ3
set_option linter.all false
set_option maxRecDepth 100000
set_option maxHeartbeats 4000000
namespace Go.Proofs.YtggpmlaappaopaaGreatDoor
open Go.RowKit
theorem qvu {b : List Nat} {p : Pr} (hb : 3 ≤ b.length) (h : prs b = .ok p) : 3 ≤ p.e1 ∧ p.e1 ≤ p.e2 ∧ p.e2 ≤ p.e3 ∧ p.e3 ≤ p.e4 ∧ p.e4 ≤ p.e5 ∧ p.e5 ≤ p.e6 ∧ p.e6 ≤ p.e7 ∧ p.e7 = b.length := by
 obtain ⟨nx, e1, h1, h⟩ := qfn h
 obtain ⟨cp, a1, h2, c2, h⟩ := qcw h
 obtain ⟨cr, a2, h3, h⟩ := qfn h
 obtain ⟨gp, e2, h4, c4, h⟩ := qcw h
 obtain ⟨gs, e3, h5, h⟩ := qax h
 obtain ⟨cl, e4, h6, h⟩ := qax h
 obtain ⟨cu, e5, h7, h⟩ := qax h
 obtain ⟨tk, a3, h8, c8, h⟩ := qcw h
 obtain ⟨ts, e6, h9, h⟩ := qax h
 obtain ⟨sp, e7, h10, h⟩ := qax h
 unfold prs10 at h
 split at h
 ·cases h
 rename_i he
 injection h with h
 subst h
 have i1 := h1.2
 have i2 := h2.2
 have i3 := h3.2
 have i4 := h4.2
 have i5 := h5.2
 have i6 := h6.2
 have i7 := h7.2
 have i8 := h8.2
 have i9 := h9.2
 have i10 := h10.2
 refine ⟨i1, ?_, i5, i6, i7, ?_, i10, Decidable.of_not_not he⟩
 ·show e1 ≤ e2; omega
 ·show e5 ≤ e6; omega
theorem qvv {l : List Nat} {p : Pr} (hl : ∀ z ∈ l, z < 256) (h : opnR l = .ok p) : 3 ≤ p.e1 ∧ p.e1 ≤ p.e2 ∧ p.e2 ≤ p.e3 ∧ p.e3 ≤ p.e4 ∧ p.e4 ≤ p.e5 ∧ p.e5 ≤ p.e6 ∧ p.e6 ≤ p.e7 ∧ p.e7 + 4 = l.length := by
 have h0 := qde hl h
 unfold opnR at h
 repeat (split at h; · cases h)
 have hlen : (l.take (l.length - 4)).length = l.length - 4 := by rw [List.length_take]; omega
 have := qvu (by omega) h
 omega
theorem qd4 (p : Pr) : p.secs.length = 9 := rfl
theorem qnp {l : List Nat} {p : Pr} (hl : ∀ z ∈ l, z < 256) (h : opnR l = .ok p) {i : Nat} (hi : i < p.secs.length) : (p.secs.getD i Sec.zero).fr ≤ (p.secs.getD i Sec.zero).to ∧ (p.secs.getD i Sec.zero).to ≤ l.length := by
 obtain ⟨h1, h2, h3, h4, h5, h6, h7, h8⟩ := qvv hl h
 rw [qd4] at hi
 unfold Pr.secs qm
 match i, hi with
 | 0, _ => exact ⟨Nat.zero_le _, show 3 ≤ l.length by omega⟩
 | 1, _ => exact ⟨h1, show p.e1 ≤ l.length by omega⟩
 | 2, _ => exact ⟨h2, show p.e2 ≤ l.length by omega⟩
 | 3, _ => exact ⟨h3, show p.e3 ≤ l.length by omega⟩
 | 4, _ => exact ⟨h4, show p.e4 ≤ l.length by omega⟩
 | 5, _ => exact ⟨h5, show p.e5 ≤ l.length by omega⟩
 | 6, _ => exact ⟨h6, show p.e6 ≤ l.length by omega⟩
 | 7, _ => exact ⟨h7, show p.e7 ≤ l.length by omega⟩
 | 8, _ => exact ⟨show p.e7 ≤ p.e7 + 4 by omega, show p.e7 + 4 ≤ l.length by omega⟩
def cutB (l : List Nat) (x : Sec) : List Nat := (l.take x.to).drop x.fr
theorem qnq {l : List Nat} (hl : ∀ z ∈ l, z < 256) (x : Sec) : ∀ z ∈ cutB l x, z < 256 := fun z hz => hl z (List.mem_of_mem_take (List.mem_of_mem_drop hz))
theorem qnr {w : World} {B c : Nat} {A : Option Addr} {l : List Nat} {x : Sec} (h : Rd w B 1 A l.length (l.map B8)) (h1 : x.fr ≤ x.to ∧ x.to ≤ l.length) (hc : l.length ≤ c) : Rd w B 1 (if c = x.fr then A else A.map (·.add (x.fr * 1))) (x.to - x.fr) ((cutB l x).map B8) := h.q0a h1.1 h1.2 hc
def difF (a b : List Nat) (X Y : List Sec) : Nat → Nat → ByteArray
 | 0, _ => ⟨#[]⟩
 | f + 1, i => if cutB a (X.getD i Sec.zero) = cutB b (Y.getD i Sec.zero) then difF a b X Y f (i + 1) else (X.getD i Sec.zero).nm
def difE (a b : List Nat) : Nat := if errR a = 0 then errR b else errR a
def difN (a b : List Nat) : ByteArray := match opnR a, opnR b with
 | .ok p, .ok q => difF a b p.secs q.secs 9 0
 | _, _ => ⟨#[]⟩
section
variable {a b : List Nat} {p q : Pr} {k : Nat} {X Y : List Sec} {i : Nat}
theorem qsi (h : opnR a = .error k) : difE a b = k ∧ difN a b = ⟨#[]⟩ := by
 have := qb8 h
 unfold difE difN
 rw [qdb h, h, if_neg (by omega)]
 exact ⟨rfl, rfl⟩
theorem qsj (h : opnR a = .ok p) (h2 : opnR b = .error k) : difE a b = k ∧ difN a b = ⟨#[]⟩ := by
 unfold difE difN
 rw [qcn h, qdb h2, h, h2, if_pos rfl]
 exact ⟨rfl, rfl⟩
theorem qxo (h : opnR a = .ok p) (h2 : opnR b = .ok q) : difE a b = 0 ∧ difN a b = difF a b p.secs q.secs (9 - 0) 0 := by
 unfold difE difN
 rw [qcn h, qcn h2, h, h2, if_pos rfl]
 exact ⟨rfl, rfl⟩
theorem qns (hi : i < 9) (h : cutB a (X.getD i Sec.zero) = cutB b (Y.getD i Sec.zero)) : difF a b X Y (9 - i) i = difF a b X Y (9 - (i + 1)) (i + 1) := by
 rw [show 9 - i = (9 - (i + 1)) + 1 by omega]
 exact if_pos h
theorem qnt (hi : i < 9) (h : ¬ cutB a (X.getD i Sec.zero) = cutB b (Y.getD i Sec.zero)) : difF a b X Y (9 - i) i = (X.getD i Sec.zero).nm := by
 rw [show 9 - i = (9 - (i + 1)) + 1 by omega]
 exact if_neg h
theorem qsk (hi : ¬ i < 9) : difF a b X Y (9 - i) i = ⟨#[]⟩ := by
 rw [show 9 - i = 0 by omega]
 rfl
end
theorem Mem.zeroSt {W w : World} (h : Mem W w []) : Mem W w (stF qcp.st) := ((((h.nil 44 1).nil 46 8).nil 3 1).nil 3 1).nil 40 2
theorem qvw : StCap qcp.st := ⟨Nat.le_refl _, Nat.le_refl _, Nat.le_refl _, Nat.le_refl _, Nat.le_refl _, fun y hy => by cases hy⟩
theorem qsl (s : Snm) : SnEq s s := sn_of rfl (qo6 _)
def qks (w : World) (er : Nat) (s : Snm) (r : Ending) (w' : World) : Prop := ∃ z : Snm, r = .returned (.tuple #[.agg z.cells, .int .i64 (er : Int)]) ∧ SnEq s z ∧ StCap z.st ∧ Mem w w' (stF z.st)
theorem qau {w w' : World} {er k : Nat} {s : Snm} {r : Ending} (h : er = k ∧ s = qcp) (hr : r = .returned (.tuple #[.agg qcp.cells, .int .i64 (k : Int)])) (HM : Mem w w' []) : qks w er s r w' := by
 obtain ⟨rfl, rfl⟩ := h
 exact ⟨qcp, hr, qsl _, qvw, HM.zeroSt⟩
theorem qkt {w w' : World} {er : Nat} {s t z : Snm} {r : Ending} (h : er = 0 ∧ s = t) (hr : r = .returned (.tuple #[.agg z.cells, .int .i64 0])) (hz : SnEq t z) (hc : StCap z.st) (HM : Mem w w' (stF z.st)) : qks w er s r w' := by
 obtain ⟨rfl, rfl⟩ := h
 exact ⟨z, hr, hz, hc, HM⟩
theorem qxp {s z : Snm} (h : SnEq s z) (hok : s.st.sta.Ok) : z.st.sta.Ok := by rw [qw8 (qck h)]; exact hok
theorem qx.zero {b : List Nat} {a e : Nat} (h : qx b 0 a [] e) : e = a := ((qx.nil b a).one h).2
theorem qx.uncons {b : List Nat} {k a e x : Nat} {xs : List Nat} (h : qx b (k + 1) a (x :: xs) e) : ∃ c, NumAt b a x c ∧ qx b k c xs e := by
 obtain ⟨h1, h2⟩ := h
 rw [readN] at h1
 split at h1
 ·rename_i h3; simp at h1
 ·rename_i h3
  split at h1
  ·rename_i h4; simp at h1
  ·rename_i h4
   simp only [Prod.mk.injEq, List.cons.injEq] at h1
   obtain ⟨⟨hx, hxs⟩, hu, _⟩ := h1
   refine ⟨a + (vread (b.drop a)).2.1, .of ?_, ?_, by omega⟩
   ·rw [← hx]
    have : (vread (b.drop a)).2.2 = 0 := by omega
    rw [← this]
   ·rw [List.drop_drop] at hxs hu h4
    rw [← hxs, show e - (a + (vread (b.drop a)).2.1) = (readN k (b.drop (a + (vread (b.drop a)).2.1))).2.1 by omega]
    have : (readN k (b.drop (a + (vread (b.drop a)).2.1))).2.2 = 0 := by omega
    rw [← this]
def wantN (i : Nat) (L : List (List Nat)) : Nat :=
 if i = 1 then 1 else if i = 2 then 3 else if i = 3 then 2 * ((L.getD 2 []).getD 2 0 - 1) else if i = 4 ∨ i = 5 then (L.getD 2 []).getD 0 0 else if i = 7 then (L.getD 2 []).getD 0 0 * (1 + 3 * ((L.getD 2 []).getD 2 0 - 1)) else 0
def needN (i : Nat) (L : List (List Nat)) (xs : List Nat) : Nat := if i = 6 then (if xs.length = 0 then 1 else 1 + 8 * xs.getD 0 0) else wantN i L
def chkN (i : Nat) (xs : List Nat) : Prop := (i = 2 → (0 < xs.length → 1 ≤ xs.getD 0 0 ∧ xs.getD 0 0 ≤ 64) ∧ (2 < xs.length → 1 ≤ xs.getD 2 0 ∧ xs.getD 2 0 ≤ 256)) ∧ (i = 6 → 0 < xs.length → xs.getD 0 0 ≤ 65535)
def RefAt (b : List Nat) (i : Nat) (L : List (List Nat)) (E : List Nat) (a : Nat) : Prop :=
 (i = 1 ∧ L = [[]] ∧ E = [3] ∧ a = 3) ∨
 (i = 2 ∧ ∃ nx, L = [[], [nx]] ∧ E = [3, a] ∧ prs b = prs1 b nx a) ∨
 (i = 3 ∧ ∃ nx e1 cp a1 cr a2 gp, L = [[], [nx], [cp, cr, gp]] ∧ E = [3, e1, a] ∧ (1 ≤ cp ∧ cp ≤ 64 ∧ 1 ≤ gp ∧ gp ≤ 256) ∧ prs b = prs4 b nx e1 cp a1 cr a2 gp a) ∨
 (i = 4 ∧ ∃ nx e1 cp a1 cr a2 gp e2 gs, L = [[], [nx], [cp, cr, gp], gs] ∧ E = [3, e1, e2, a] ∧ (1 ≤ cp ∧ cp ≤ 64 ∧ 1 ≤ gp ∧ gp ≤ 256) ∧ prs b = prs5 b nx e1 cp a1 cr a2 gp e2 gs a) ∨
 (i = 5 ∧ ∃ nx e1 cp a1 cr a2 gp e2 gs e3 cl, L = [[], [nx], [cp, cr, gp], gs, cl] ∧ E = [3, e1, e2, e3, a] ∧ (1 ≤ cp ∧ cp ≤ 64 ∧ 1 ≤ gp ∧ gp ≤ 256) ∧ prs b = prs6 b nx e1 cp a1 cr a2 gp e2 gs e3 cl a) ∨
 (i = 6 ∧ ∃ nx e1 cp a1 cr a2 gp e2 gs e3 cl e4 cu, L = [[], [nx], [cp, cr, gp], gs, cl, cu] ∧ E = [3, e1, e2, e3, e4, a] ∧ (1 ≤ cp ∧ cp ≤ 64 ∧ 1 ≤ gp ∧ gp ≤ 256) ∧ prs b = prs7 b nx e1 cp a1 cr a2 gp e2 gs e3 cl e4 cu a) ∨
 (i = 7 ∧ ∃ nx e1 cp a1 cr a2 gp e2 gs e3 cl e4 cu e5 tk a3 ts, L = [[], [nx], [cp, cr, gp], gs, cl, cu, tk :: ts] ∧ E = [3, e1, e2, e3, e4, e5, a] ∧ (1 ≤ cp ∧ cp ≤ 64 ∧ 1 ≤ gp ∧ gp ≤ 256) ∧ prs b = prs9 b nx e1 cp a1 cr a2 gp e2 gs e3 cl e4 cu e5 tk a3 ts a) ∨
 (i = 8 ∧ ∃ nx e1 cp a1 cr a2 gp e2 gs e3 cl e4 cu e5 tk a3 ts e6 sp, L = [[], [nx], [cp, cr, gp], gs, cl, cu, tk :: ts, sp] ∧ E = [3, e1, e2, e3, e4, e5, e6, a] ∧ (1 ≤ cp ∧ cp ≤ 64 ∧ 1 ≤ gp ∧ gp ≤ 256) ∧ prs b = prs10 b nx e1 cp a1 cr a2 gp e2 gs e3 cl e4 cu e5 tk a3 ts e6 sp a)
theorem qkx {xs : List Nat} (h : xs.length < 3) : xs = [] ∨ (∃ x, xs = [x]) ∨ ∃ x y, xs = [x, y] := by
 match xs, h with
 | [], _ => exact .inl rfl
 | [x], _ => exact .inr (.inl ⟨x, rfl⟩)
 | [x, y], _ => exact .inr (.inr ⟨x, y, rfl⟩)
 | _ :: _ :: _ :: _, h => exact absurd h (by simp)
section
variable {b : List Nat} {i a e : Nat} {L : List (List Nat)} {E xs : List Nat}
theorem qs2 : RefAt b 1 [[]] [3] 3 := .inl ⟨rfl, rfl, rfl, rfl⟩
theorem qs3 (h : RefAt b i L E a) (hi : 3 ≤ i) : 3 ≤ L.length ∧ ∃ cp cr gp, L.getD 2 [] = [cp, cr, gp] ∧ 1 ≤ cp ∧ cp ≤ 64 ∧ 1 ≤ gp ∧ gp ≤ 256 := by
 rcases h with ⟨rfl, _⟩ | ⟨rfl, _⟩ | ⟨rfl, _, _, cp, _, cr, _, gp, rfl, _, h, _⟩ | ⟨rfl, _, _, cp, _, cr, _, gp, _, _, rfl, _, h, _⟩ | ⟨rfl, _, _, cp, _, cr, _, gp, _, _, _, _, rfl, _, h, _⟩ | ⟨rfl, _, _, cp, _, cr, _, gp, _, _, _, _, _, _, rfl, _, h, _⟩ | ⟨rfl, _, _, cp, _, cr, _, gp, _, _, _, _, _, _, _, _, _, _, rfl, _, h, _⟩ | ⟨rfl, _, _, cp, _, cr, _, gp, _, _, _, _, _, _, _, _, _, _, _, _, rfl, _, h, _⟩
 ·omega
 ·omega
 all_goals exact ⟨by simp, cp, cr, gp, rfl, h⟩
theorem qzf (h : RefAt b i L E a) : wantN i L ≤ 50000 := by
 unfold wantN
 rcases Nat.lt_or_ge i 3 with h1 | h1
 ·split
  ·omega
  ·split
   ·omega
   ·rw [if_neg (by omega), if_neg (by omega), if_neg (by omega)]; omega
 ·obtain ⟨_, cp, cr, gp, h2, h3, h4, h5, h6⟩ := qs3 h h1
  rw [h2, if_neg (by omega), if_neg (by omega)]
  show (if i = 3 then 2 * (gp - 1) else if i = 4 ∨ i = 5 then cp else if i = 7 then cp * (1 + 3 * (gp - 1)) else 0) ≤ 50000
  have h7 : cp * (1 + 3 * (gp - 1)) ≤ 64 * (1 + 3 * 255) := Nat.mul_le_mul h4 (by omega)
  split
  ·omega
  ·split
   ·omega
   ·split <;> omega
theorem qzg (h : RefAt b i L E a) (hc : chkN i xs) : needN i L xs ≤ 524281 := by
 unfold needN
 split
 ·rename_i h6
  split
  ·omega
  ·rename_i h7
   have := hc.2 h6 (by omega)
   omega
 ·have := qzf h; omega
theorem qbv {x : Nat} (hn : xs.length < needN i L xs) : (xs ++ [x]).length ≤ needN i L (xs ++ [x]) := by
 unfold needN at *
 rw [List.length_append]
 show xs.length + 1 ≤ _
 split
 ·rename_i h6
  rw [if_pos h6] at hn
  rw [if_neg (show ¬ (xs.length + [x].length = 0) by simp)]
  by_cases h7 : xs.length = 0
  ·omega
  ·rw [if_neg h7] at hn
   rw [qbc (by omega)]
   omega
 ·rename_i h6
  rw [if_neg h6] at hn
  omega
theorem qzh (i : Nat) : chkN i [] := ⟨fun _ => ⟨fun h => absurd h (Nat.lt_irrefl 0), fun h => absurd h (by decide)⟩, fun _ h => absurd h (Nat.lt_irrefl 0)⟩
theorem qzi (h : RefAt b i L E a) (hi : i < 8) (hp : qx b xs.length a xs e) (hc : chkN i xs) (hn : xs.length < needN i L xs) (hv : (vread (b.drop e)).2.2 ≠ 0) : prs b = .error 344 := by
 rcases h with ⟨rfl, rfl, rfl, rfl⟩ | ⟨rfl, nx, rfl, rfl, h⟩ | ⟨rfl, nx, e1, cp, a1, cr, a2, gp, rfl, rfl, hb, h⟩ | ⟨rfl, nx, e1, cp, a1, cr, a2, gp, e2, gs, rfl, rfl, hb, h⟩ | ⟨rfl, nx, e1, cp, a1, cr, a2, gp, e2, gs, e3, cl, rfl, rfl, hb, h⟩ | ⟨rfl, nx, e1, cp, a1, cr, a2, gp, e2, gs, e3, cl, e4, cu, rfl, rfl, hb, h⟩ | ⟨rfl, nx, e1, cp, a1, cr, a2, gp, e2, gs, e3, cl, e4, cu, e5, tk, a3, ts, rfl, rfl, hb, h⟩ | ⟨rfl, _⟩
 ·have : xs = [] := List.length_eq_zero_iff.1 (by have : xs.length < 1 := hn; omega)
  subst this
  obtain rfl := hp.zero
  exact qev hv
 ·rcases qkx (xs := xs) hn with rfl | ⟨x, rfl⟩ | ⟨x, y, rfl⟩
  ·obtain rfl := hp.zero
   exact h.trans (qda hv)
  ·obtain ⟨c1, n1, hp⟩ := hp.uncons
   obtain rfl := hp.zero
   have := (hc.1 rfl).1 (by simp)
   exact h.trans ((n1.goC (by show ¬ (x < 1 ∨ 64 < x); have : 1 ≤ x ∧ x ≤ 64 := this; omega)).trans (qev hv))
  ·obtain ⟨c1, n1, hp⟩ := hp.uncons
   obtain ⟨c2, n2, hp⟩ := hp.uncons
   obtain rfl := hp.zero
   have := (hc.1 rfl).1 (by simp)
   exact h.trans ((n1.goC (by show ¬ (x < 1 ∨ 64 < x); have : 1 ≤ x ∧ x ≤ 64 := this; omega)).trans (n2.go1.trans (qda hv)))
 ·exact h.trans (qbb (hp.stuck hn hv))
 ·exact h.trans (qbb (hp.stuck hn hv))
 ·exact h.trans (qbb (hp.stuck hn hv))
 ·rcases xs with _ | ⟨x, xs⟩
  ·obtain rfl := hp.zero
   exact h.trans (qda hv)
  ·obtain ⟨c1, n1, hp⟩ := hp.uncons
   have h6 : x ≤ 65535 := hc.2 rfl (by simp)
   have hn : xs.length + 1 < 1 + 8 * x := hn
   exact h.trans ((n1.goC (by omega)).trans (qbb (hp.stuck (m := 8 * x) (by omega) hv)))
 ·refine h.trans (qbb (hp.stuck ?_ hv))
  have hn : xs.length < cp * (1 + 3 * (gp - 1)) := hn
  rw [Nat.mul_add, Nat.mul_one, ← Nat.mul_assoc, Nat.mul_comm cp 3] at hn
  exact hn
 ·omega
theorem qd5 {x e2 : Nat} (h : RefAt b i L E a) (hp : qx b xs.length a xs e) (hc : chkN i xs) (hn : xs.length < needN i L xs) (hv : NumAt b e x e2) (hx : ¬ chkN i (xs ++ [x])) : prs b = .error 345 := by
 rcases h with ⟨rfl, _⟩ | ⟨rfl, nx, rfl, rfl, h⟩ | ⟨rfl, _⟩ | ⟨rfl, _⟩ | ⟨rfl, _⟩ | ⟨rfl, nx, e1, cp, a1, cr, a2, gp, e2, gs, e3, cl, e4, cu, rfl, rfl, hb, h⟩ | ⟨rfl, _⟩ | ⟨rfl, _⟩
 ·exact absurd ⟨fun h => absurd h (by decide), fun h => absurd h (by decide)⟩ hx
 ·rcases qkx (xs := xs) hn with rfl | ⟨y, rfl⟩ | ⟨y, z, rfl⟩
  ·obtain rfl := hp.zero
   refine h.trans (hv.bad ?_)
   by_cases h1 : x < 1 ∨ 64 < x
   ·exact h1
   ·exact absurd ⟨fun _ => ⟨fun _ => show 1 ≤ x ∧ x ≤ 64 by omega, fun h => absurd h (by simp)⟩, fun h => absurd h (by decide)⟩ hx
  ·exact absurd ⟨fun _ => ⟨fun _ => (hc.1 rfl).1 (by simp), fun h => absurd h (by simp)⟩, fun h => absurd h (by decide)⟩ hx
  ·obtain ⟨c1, n1, hp⟩ := hp.uncons
   obtain ⟨c2, n2, hp⟩ := hp.uncons
   obtain rfl := hp.zero
   have h2 : 1 ≤ y ∧ y ≤ 64 := (hc.1 rfl).1 (by simp)
   refine h.trans ((n1.goC (by omega)).trans (n2.go1.trans (hv.bad ?_)))
   by_cases h1 : x < 1 ∨ 256 < x
   ·exact h1
   ·exact absurd ⟨fun _ => ⟨fun _ => h2, fun _ => show 1 ≤ x ∧ x ≤ 256 by omega⟩, fun h => absurd h (by decide)⟩ hx
 ·exact absurd ⟨fun h => absurd h (by decide), fun h => absurd h (by decide)⟩ hx
 ·exact absurd ⟨fun h => absurd h (by decide), fun h => absurd h (by decide)⟩ hx
 ·exact absurd ⟨fun h => absurd h (by decide), fun h => absurd h (by decide)⟩ hx
 ·rcases xs with _ | ⟨y, xs⟩
  ·obtain rfl := hp.zero
   refine h.trans (hv.bad ?_)
   by_cases h1 : x < 0 ∨ 65535 < x
   ·exact h1
   ·exact absurd ⟨fun h => absurd h (by decide), fun _ _ => show x ≤ 65535 by omega⟩ hx
  ·exact absurd ⟨fun h => absurd h (by decide), fun _ _ => hc.2 rfl (by simp)⟩ hx
 ·exact absurd ⟨fun h => absurd h (by decide), fun h => absurd h (by decide)⟩ hx
 ·exact absurd ⟨fun h => absurd h (by decide), fun h => absurd h (by decide)⟩ hx
theorem qs4 (h : RefAt b i L E a) (hi : i < 8) (hp : qx b xs.length a xs e) (hc : chkN i xs) (hn : xs.length = needN i L xs) : RefAt b (i + 1) (L ++ [xs]) (E ++ [e]) e := by
 rcases h with ⟨rfl, rfl, rfl, rfl⟩ | ⟨rfl, nx, rfl, rfl, h⟩ | ⟨rfl, nx, e1, cp, a1, cr, a2, gp, rfl, rfl, hb, h⟩ | ⟨rfl, nx, e1, cp, a1, cr, a2, gp, e2, gs, rfl, rfl, hb, h⟩ | ⟨rfl, nx, e1, cp, a1, cr, a2, gp, e2, gs, e3, cl, rfl, rfl, hb, h⟩ | ⟨rfl, nx, e1, cp, a1, cr, a2, gp, e2, gs, e3, cl, e4, cu, rfl, rfl, hb, h⟩ | ⟨rfl, nx, e1, cp, a1, cr, a2, gp, e2, gs, e3, cl, e4, cu, e5, tk, a3, ts, rfl, rfl, hb, h⟩ | ⟨rfl, _⟩
 ·obtain ⟨x, rfl⟩ : ∃ x, xs = [x] := List.length_eq_one_iff.1 hn
  obtain ⟨c1, n1, hp⟩ := hp.uncons
  obtain rfl := hp.zero
  exact .inr (.inl ⟨rfl, x, rfl, rfl, n1.go1⟩)
 ·match xs, hn, hp, hc with
  | [x, y, z], _, hp, hc =>
   obtain ⟨c1, n1, hp⟩ := hp.uncons
   obtain ⟨c2, n2, hp⟩ := hp.uncons
   obtain ⟨c3, n3, hp⟩ := hp.uncons
   obtain rfl := hp.zero
   have h2 : 1 ≤ x ∧ x ≤ 64 := (hc.1 rfl).1 (by simp)
   have h3 : 1 ≤ z ∧ z ≤ 256 := (hc.1 rfl).2 (by simp)
   exact .inr (.inr (.inl ⟨rfl, nx, _, x, c1, y, c2, z, rfl, rfl, ⟨h2.1, h2.2, h3.1, h3.2⟩, h.trans ((n1.goC (by omega)).trans (n2.go1.trans (n3.goC (by omega))))⟩))
 ·refine .inr (.inr (.inr (.inl ⟨rfl, nx, e1, cp, a1, cr, a2, gp, _, xs, rfl, rfl, hb, ?_⟩)))
  rw [hn] at hp
  exact h.trans hp.goK
 ·refine .inr (.inr (.inr (.inr (.inl ⟨rfl, nx, e1, cp, a1, cr, a2, gp, e2, gs, _, xs, rfl, rfl, hb, ?_⟩))))
  rw [hn] at hp
  exact h.trans hp.goK
 ·refine .inr (.inr (.inr (.inr (.inr (.inl ⟨rfl, nx, e1, cp, a1, cr, a2, gp, e2, gs, e3, cl, _, xs, rfl, rfl, hb, ?_⟩)))))
  rw [hn] at hp
  exact h.trans hp.goK
 ·rcases xs with _ | ⟨x, xs⟩
  ·exact absurd hn (show ¬ ((0 : Nat) = 1) by decide)
  ·obtain ⟨c1, n1, hp⟩ := hp.uncons
   have h6 : x ≤ 65535 := hc.2 rfl (by simp)
   have hn : xs.length + 1 = 1 + 8 * x := hn
   rw [show xs.length = 8 * x by omega] at hp
   exact .inr (.inr (.inr (.inr (.inr (.inr (.inl ⟨rfl, nx, e1, cp, a1, cr, a2, gp, e2, gs, e3, cl, e4, cu, _, x, c1, xs, rfl, rfl, hb, h.trans ((n1.goC (by omega)).trans hp.goK)⟩))))))
 ·refine .inr (.inr (.inr (.inr (.inr (.inr (.inr ⟨rfl, nx, e1, cp, a1, cr, a2, gp, e2, gs, e3, cl, e4, cu, e5, tk, a3, ts, _, xs, rfl, rfl, hb, ?_⟩))))))
  have hn : xs.length = cp * (1 + 3 * (gp - 1)) := hn
  rw [Nat.mul_add, Nat.mul_one, ← Nat.mul_assoc, Nat.mul_comm cp 3] at hn
  rw [hn] at hp
  exact h.trans hp.goK
 ·omega
end
def Pr.lists (p : Pr) : List (List Nat) := [[], [p.nx], [p.cp, p.cr, p.gp], p.gs, p.cl, p.cu, p.tk :: p.ts, p.sp, []]
def Pr.ends (p : Pr) : List Nat := [3, p.e1, p.e2, p.e3, p.e4, p.e5, p.e6, p.e7, p.e7 + 4]
theorem qv5 {b : List Nat} {L : List (List Nat)} {E : List Nat} {a : Nat} (h : RefAt b 8 L E a) (ha : a ≠ b.length) : prs b = .error 346 := by
 rcases h with ⟨h, _⟩ | ⟨h, _⟩ | ⟨h, _⟩ | ⟨h, _⟩ | ⟨h, _⟩ | ⟨h, _⟩ | ⟨h, _⟩ | ⟨_, nx, e1, cp, a1, cr, a2, gp, e2, gs, e3, cl, e4, cu, e5, tk, a3, ts, e6, sp, rfl, rfl, hb, h⟩
 all_goals first | (exact absurd h (by decide)) | exact h.trans (if_pos ha)
theorem qzj {b : List Nat} {L : List (List Nat)} {E : List Nat} {a : Nat} (h : RefAt b 8 L E a) (ha : a = b.length) : ∃ p, prs b = .ok p ∧ p.lists = L ++ [[]] ∧ p.ends = E ++ [b.length + 4] := by
 subst ha
 rcases h with ⟨h, _⟩ | ⟨h, _⟩ | ⟨h, _⟩ | ⟨h, _⟩ | ⟨h, _⟩ | ⟨h, _⟩ | ⟨h, _⟩ | ⟨_, nx, e1, cp, a1, cr, a2, gp, e2, gs, e3, cl, e4, cu, e5, tk, a3, ts, e6, sp, rfl, rfl, hb, h⟩
 all_goals first | (exact absurd h (by decide)) | exact ⟨_, h.trans (if_neg (fun h => h rfl)), rfl, rfl⟩
def nmN (nm : ByteArray) (j : Nat) : Bool := nm.toList == (nmR j).toList
def wantR (nm : ByteArray) (L : List (List Nat)) : Nat :=
 if nmN nm 1 = true then 1 else if nmN nm 2 = true then 3 else if nmN nm 3 = true then 2 * ((L.getD 2 []).getD 2 0 - 1) else if nmN nm 4 = true then (L.getD 2 []).getD 0 0 else if nmN nm 5 = true then (L.getD 2 []).getD 0 0 else if nmN nm 7 = true then (L.getD 2 []).getD 0 0 * (1 + 3 * ((L.getD 2 []).getD 2 0 - 1)) else 0
theorem qc6 {i j : Nat} (hi : i < 9) (hj : j < 9) : nmN (nmR i) j = decide (i = j) := nm_eq hi hj
theorem qzk {i : Nat} (hi : i < 9) (L : List (List Nat)) : wantR (nmR i) L = wantN i L := by
 unfold wantR wantN
 rw [qc6 hi (by decide), qc6 hi (by decide), qc6 hi (by decide), qc6 hi (by decide), qc6 hi (by decide), qc6 hi (by decide)]
 simp only [decide_eq_true_eq]
 by_cases h4 : i = 4
 ·subst h4; rfl
 ·by_cases h5 : i = 5
  ·subst h5; rfl
  ·rw [if_neg h4, if_neg h5]
   simp only [h4, h5, or_self, if_false]
structure Nw where
 A : Option Addr
 c : Nat
 l : List Nat
def Nw.zero : Nw := ⟨none, 0, []⟩
def Nw.val (x : Nw) : Value := .slice x.A x.l.length x.c
def Nw.own (x : Nw) : Own := ⟨x.A, x.l.length, x.c, x.l.map U64⟩
def nwF (t : TypeId) (q : List Nw) : List Fact := ownsF t 1 (q.map Nw.own)
section
variable {W w w' : World} {fs : List Fact} {t : TypeId} {q : List Nw}
theorem qzl {x : Nw} (hq : x ∈ q) : Fact.row (.slice x.A x.l.length x.c) x.l.length (x.l.map U64) t 1 ∈ nwF t q := List.mem_map_of_mem (List.mem_map_of_mem hq)
theorem Mem.toNw {A : Option Addr} {c : Nat} {l : List Nat} (h : Mem W w (.row (.slice A l.length c) l.length (l.map U64) t 1 :: (fs ++ nwF t q))) : Mem W w (fs ++ nwF t (q ++ [⟨A, c, l⟩])) := by
 have h1 := Mem.qx0 h
 unfold nwF
 rw [List.map_append]
 exact h1
end
theorem qxt (l : List Nw) : ∀ u ∈ l.map Nw.val, u.oneCell' = true := by
 intro u hu
 obtain ⟨x, _, rfl⟩ := List.mem_map.1 hu
 rfl
theorem qnx (l : List Nat) : ∀ u ∈ l.map I64v, u.oneCell' = true := by
 intro u hu
 obtain ⟨x, _, rfl⟩ := List.mem_map.1 hu
 rfl
section
variable {nm : ByteArray} {L : List (List Nat)}
theorem q1e (h1 : nmN nm 1 = true) : wantR nm L = 1 := by unfold wantR; rw [h1]; rfl
theorem q1f (h1 : nmN nm 1 = false) (h2 : nmN nm 2 = true) : wantR nm L = 3 := by unfold wantR; rw [h1, h2]; rfl
theorem q1g (h1 : nmN nm 1 = false) (h2 : nmN nm 2 = false) (h3 : nmN nm 3 = true) : wantR nm L = 2 * ((L.getD 2 []).getD 2 0 - 1) := by unfold wantR; rw [h1, h2, h3]; rfl
theorem q1h (h1 : nmN nm 1 = false) (h2 : nmN nm 2 = false) (h3 : nmN nm 3 = false) (h4 : nmN nm 4 = true) : wantR nm L = (L.getD 2 []).getD 0 0 := by unfold wantR; rw [h1, h2, h3, h4]; rfl
theorem q1i (h1 : nmN nm 1 = false) (h2 : nmN nm 2 = false) (h3 : nmN nm 3 = false) (h4 : nmN nm 4 = false) (h5 : nmN nm 5 = true) : wantR nm L = (L.getD 2 []).getD 0 0 := by unfold wantR; rw [h1, h2, h3, h4, h5]; rfl
theorem q1j (h1 : nmN nm 1 = false) (h2 : nmN nm 2 = false) (h3 : nmN nm 3 = false) (h4 : nmN nm 4 = false) (h5 : nmN nm 5 = false) (h7 : nmN nm 7 = true) : wantR nm L = (L.getD 2 []).getD 0 0 * (1 + 3 * ((L.getD 2 []).getD 2 0 - 1)) := by unfold wantR; rw [h1, h2, h3, h4, h5, h7]; rfl
theorem q1k (h1 : nmN nm 1 = false) (h2 : nmN nm 2 = false) (h3 : nmN nm 3 = false) (h4 : nmN nm 4 = false) (h5 : nmN nm 5 = false) (h7 : nmN nm 7 = false) : wantR nm L = 0 := by unfold wantR; rw [h1, h2, h3, h4, h5, h7]; rfl
end
theorem qd6 {q : List Nw} {k : Nat} (h : k < q.length) : (q.map Nw.l).getD k [] = (q.getD k Nw.zero).l := by
 rw [List.getD_eq_getElem?_getD, List.getD_eq_getElem?_getD, List.getElem?_map, List.getElem?_eq_getElem h]
 rfl
def NwRd (w : World) (q : List Nw) : Prop := ∀ y ∈ q, Rd w w.heap.size 1 y.A y.l.length (y.l.map U64)
theorem NwRd.old {W w : World} {fs : List Fact} {q : List Nw} (h : NwRd W q) (HM : Mem W w fs) : NwRd w q := fun y hy => HM.old (h y hy)
theorem NwRd.at {w : World} {q : List Nw} (h : NwRd w q) {k : Nat} (hk : k < q.length) : Rd w w.heap.size 1 (q.getD k Nw.zero).A (q.getD k Nw.zero).l.length ((q.getD k Nw.zero).l.map U64) := h _ (qu Nw.zero hk)
theorem Mem.nwAt {W w : World} {fs : List Fact} {t : TypeId} {q : List Nw} (n : Nat) (h : Mem W w fs) (he : fs.drop n = nwF t q) : NwRd w q := fun y hy => h.qlc (List.mem_of_mem_drop (he ▸ qzl hy))
def Cfg3 (q : List Nw) : Prop := 3 ≤ q.length ∧ ∃ cp cr gp, (q.getD 2 Nw.zero).l = [cp, cr, gp] ∧ 1 ≤ cp ∧ cp ≤ 64 ∧ 1 ≤ gp ∧ gp ≤ 256
theorem qzm {b : List Nat} {i a : Nat} {q : List Nw} {E : List Nat} (h : RefAt b i (q.map Nw.l) E a) (hi : 3 ≤ i) : Cfg3 q := by
 obtain ⟨h1, cp, cr, gp, h2, h3⟩ := qs3 h hi
 rw [List.length_map] at h1
 rw [qd6 (by omega)] at h2
 exact ⟨h1, cp, cr, gp, h2, h3⟩
theorem qzn {i : Nat} (hi : i < 9) (h : nmN (nmR i) 3 = true ∨ nmN (nmR i) 4 = true ∨ nmN (nmR i) 5 = true ∨ nmN (nmR i) 7 = true) : 3 ≤ i := by
 rw [qc6 hi (by decide), qc6 hi (by decide), qc6 hi (by decide), qc6 hi (by decide)] at h
 simp only [decide_eq_true_eq] at h
 omega
instance chkDec (i : Nat) (xs : List Nat) : Decidable (chkN i xs) := by unfold chkN; infer_instance
theorem qam {i x : Nat} {xs : List Nat} (hc : chkN i xs) (h3 : i = 2 → xs.length < 3) : chkN i (xs ++ [x]) ↔ ((i = 2 ∧ xs.length = 0 → 1 ≤ x ∧ x ≤ 64) ∧ (i = 2 ∧ xs.length = 2 → 1 ≤ x ∧ x ≤ 256) ∧ (i = 6 ∧ xs.length = 0 → x ≤ 65535)) := by
 have hl : (xs ++ [x]).length = xs.length + 1 := by simp
 have hh : ∀ k, k < xs.length → (xs ++ [x]).getD k 0 = xs.getD k 0 := fun k hk => qbc hk
 have ht : (xs ++ [x]).getD xs.length 0 = x := (qbd (j := 0) rfl)
 unfold chkN at *
 rw [hl]
 constructor
 ·rintro ⟨h1, h2⟩
  refine ⟨fun ⟨a, k⟩ => ?_, fun ⟨a, k⟩ => ?_, fun ⟨a, k⟩ => ?_⟩
  ·have := (h1 a).1 (by omega)
   rw [k] at ht
   rwa [ht] at this
  ·have := (h1 a).2 (by omega)
   rw [k] at ht
   rwa [ht] at this
  ·have := h2 a (by omega)
   rw [k] at ht
   rwa [ht] at this
 ·rintro ⟨h1, h2, h4⟩
  refine ⟨fun a => ⟨fun _ => ?_, fun k => ?_⟩, fun a _ => ?_⟩
  ·by_cases h0 : xs.length = 0
   ·rw [h0] at ht; rw [ht]; exact h1 ⟨a, h0⟩
   ·rw [hh 0 (by omega)]; exact (hc.1 a).1 (by omega)
  ·have := h3 a
   have h5 : xs.length = 2 := by omega
   rw [h5] at ht; rw [ht]; exact h2 ⟨a, h5⟩
  ·by_cases h0 : xs.length = 0
   ·rw [h0] at ht; rw [ht]; exact h4 ⟨a, h0⟩
   ·rw [hh 0 (by omega)]; exact hc.2 a (by omega)
section
variable {i x : Nat} {L : List (List Nat)} {xs : List Nat}
theorem q1l (h : i = 6) : needN i L [] = 1 := by unfold needN; rw [if_pos h]; rfl
theorem qny (h : i ≠ 6) : needN i L xs = wantN i L := by unfold needN; rw [if_neg h]
theorem qcq (h : ¬ (i = 6 ∧ xs.length = 0)) : needN i L (xs ++ [x]) = needN i L xs := by
 by_cases h6 : i = 6
 ·unfold needN
  rw [if_pos h6, if_pos h6, if_neg (show ¬ (xs ++ [x]).length = 0 by simp), if_neg (show ¬ xs.length = 0 from fun h0 => h ⟨h6, h0⟩), qbc (by have : xs.length ≠ 0 := fun h0 => h ⟨h6, h0⟩; omega)]
 ·rw [qny h6, qny h6]
theorem qpe (h6 : i = 6) (h0 : xs.length = 0) : needN i L (xs ++ [x]) = 1 + 8 * x := by
 obtain rfl : xs = [] := List.length_eq_zero_iff.1 h0
 unfold needN
 rw [if_pos h6]
 rfl
theorem qan (h : i = 2) (hn : xs.length < needN i L xs) : xs.length < 3 := by
 rw [qny (by omega)] at hn
 subst h
 exact hn
end
theorem qv6 (i n : Nat) : (i = 2 ∧ n = 0) ∨ (i = 2 ∧ n = 2) ∨ (i = 2 ∧ n ≠ 0 ∧ n ≠ 2) ∨ (i = 6 ∧ n = 0) ∨ (i = 6 ∧ n ≠ 0) ∨ (i ≠ 2 ∧ i ≠ 6) := by omega
def qnz (w : World) (l : List Nat) (r : Ending) (w' : World) : Prop := (∃ k : Nat, opnR l = .error k ∧ Is w (.tuple #[.slice none 0 0, .slice none 0 0, .int .i64 (k : Int)]) r w') ∨
 (∃ (p : Pr) (Q : List Nw) (A : Option Addr) (c : Nat) (EA : Option Addr) (ec : Nat), opnR l = .ok p ∧ Q.map Nw.l = p.lists ∧ (∀ y ∈ Q, y.l.length ≤ y.c) ∧ Q.length ≤ c ∧ p.ends.length ≤ ec ∧ r = .returned (.tuple #[.slice A Q.length c, .slice EA p.ends.length ec, .int .i64 0]) ∧
  Mem w w' (.row (.slice A Q.length c) Q.length (Q.map Nw.val) 58 1 :: .row (.slice EA p.ends.length ec) p.ends.length (p.ends.map I64v) 3 1 :: nwF 22 Q))
theorem zp {w w' : World} {l : List Nat} {r : Ending} {k : Nat} (n : Int) (h : opnR l = .error k) (hk : n = k) (hr : r = .returned (.tuple #[.slice none 0 0, .slice none 0 0, .int .i64 n])) (hb : Below w.heap.size w w') : qnz w l r w' := .inl ⟨k, h, by rw [hr, hk], hb⟩
theorem qs5 {w w' : World} {l E : List Nat} {r : Ending} {p : Pr} {Q : List Nw} {A EA : Option Addr} {c ec : Nat} (h : opnR l = .ok p) (h2 : p.lists = Q.map Nw.l) (h3 : p.ends = E) (h4 : ∀ y ∈ Q, y.l.length ≤ y.c) (h5 : Q.length ≤ c) (h6 : E.length ≤ ec) (hr : r = .returned (.tuple #[.slice A Q.length c, .slice EA E.length ec, .int .i64 0]))
  (HM : Mem w w' (.row (.slice A Q.length c) Q.length (Q.map Nw.val) 58 1 :: .row (.slice EA E.length ec) E.length (E.map I64v) 3 1 :: nwF 22 Q)) : qnz w l r w' := by
 subst h3
 exact .inr ⟨p, Q, A, c, EA, ec, h, h2.symm, h4, h5, h6, hr, HM⟩
theorem qs6 {A : Option Addr} {n c : Nat} {l : List Nat} {w : World} {x m er : Nat} (h : vread l = (x, m, er)) (hr : Rd w w.heap.size 1 A n (l.map B8)) (hl : ∀ b ∈ l, b < 256) (hn : n ≤ 140737488355328) :
  Calls Tryz.prog 102 #[.slice A n c] w (Is w (.tuple #[.int .u64 (x : Int), .int .i64 (m : Int), .int .i64 (er : Int)])) := by
 refine (qpd A n c w.heap.size l w hr hl hn).mono fun r w' h1 => ?_
 obtain ⟨h2, h3⟩ := h1
 subst h3
 rw [h] at h2
 exact ⟨h2, Below.refl _ _⟩
theorem ei_nw : EI Tryz.prog 135 58 (.slice none 0 0) 1 24 := ⟨by kernel_rfl, by kernel_rfl, rfl, by omega⟩
theorem qpo (nm : ByteArray) (A : Option Addr) (c : Nat) (Q : List Nw) (w : World) (hr : Rd w w.heap.size 1 A Q.length (Q.map Nw.val)) (hq : NwRd w Q) (hS : (nmN nm 3 = true ∨ nmN nm 4 = true ∨ nmN nm 5 = true ∨ nmN nm 7 = true) → Cfg3 Q) :
    Calls Tryz.prog 101 #[.string nm, .slice A Q.length c] w (Is w (.int .i64 (wantR nm (Q.map Nw.l) : Int))) := by
 refine s_ce Tryz.func101 [.string nm, .slice A Q.length c] [(0, .string nm), (1, .slice A Q.length c)] fun a HF => ?_
 have HM := Mem.start w
 refine s_fs1 ?_
 refine fp HF 1 0 [(4, vI 0)] fun a HF => ?_
 refine s_d0 (wp_seq (s_fs1 ?_))
 refine fp HF 1 0 [(5, .string nm)] fun a HF => ?_
 refine s_d0 (wp_block (s_fs1 ?_))
 refine fp HF 2 0 [(6, .bool ((nm).toList == ((ByteArray.mk #[110, 101, 120, 116])).toList))] fun a HF => ?_
 refine s_d0 ?_
 rcases HF.tf 6 rfl with ⟨hb6, HF⟩ | ⟨hb6, HF⟩
 ·
  refine s_ct HF (s_fs1 ?_)
  refine fp HF 1 0 [(4, vI 1)] fun a HF => ?_
  refine s_d0 (wp_ret ?_)
  exact s_rt1 rfl HF rfl (⟨by rw [q1e hb6]; rfl, HM.below⟩)
 refine s_cf HF (s_fs1 ?_)
 refine fp HF 2 0 [(8, .bool ((nm).toList == ((ByteArray.mk #[99, 111, 110, 102, 105, 103])).toList))] fun a HF => ?_
 refine s_d0 ?_
 rcases HF.tf 8 rfl with ⟨hb8, HF⟩ | ⟨hb8, HF⟩
 ·
  refine s_ct HF (s_fs1 ?_)
  refine fp HF 1 0 [(4, vI 3)] fun a HF => ?_
  refine s_d0 (wp_ret ?_)
  exact s_rt1 rfl HF rfl (⟨by rw [q1f hb6 hb8]; rfl, HM.below⟩)
 refine s_cf HF (s_fs1 ?_)
 refine fp HF 2 0 [(10, .bool ((nm).toList == ((ByteArray.mk #[103, 114, 111, 117, 112, 115])).toList))] fun a HF => ?_
 refine s_d0 ?_
 rcases HF.tf 10 rfl with ⟨hb10, HF⟩ | ⟨hb10, HF⟩
 ·
  obtain ⟨h3, cp, cr, gp, hcfg, b1, b2, b3, b4⟩ := hS (.inl hb10)
  obtain ⟨y, hy⟩ : ∃ y, Q.getD 2 Nw.zero = y := ⟨_, rfl⟩
  rw [hy] at hcfg
  have hyr := hq.at (k := 2) (by omega)
  rw [hy] at hyr
  have hyl : y.l.length = 3 := by rw [hcfg]; rfl
  have hw0 : ((Q.map Nw.l).getD 2 []).getD 0 0 = cp := by rw [qd6 (by omega), hy, hcfg]; rfl
  have hw2 : ((Q.map Nw.l).getD 2 []).getD 2 0 = gp := by rw [qd6 (by omega), hy, hcfg]; rfl
  obtain ⟨gA, oA, rfl, _⟩ := hr.qj (Nat.lt_of_le_of_lt (Nat.zero_le _) (show 2 < Q.length from (by omega : 2 < Q.length))) (by decide)
  obtain ⟨gq1, oq1, hq1, _⟩ := Rd.qj hyr (Nat.lt_of_le_of_lt (Nat.zero_le _) (show 2 < y.l.length from (by omega : 2 < y.l.length))) (by decide)
  have hrq1 := hyr; rw [hq1] at hrq1
  refine s_ct HF (s_fs1 ?_)
  refine fp HF 1 0 [(12, .slice (some ⟨gA, oA, none⟩) Q.length c)] fun a HF => ?_
  refine s_fz HF HM 1 rfl (v := vP gA (oA + 2)) (Yl.indexAddr (ad := ⟨gA, oA, none⟩) (y := 2) (sz := 1) rfl rfl rfl (by omega) (by kernel_rfl)) fun a HF => ?_
  refine s_fz HF HM 2 rfl (v := .slice ((Q.getD 2 Nw.zero).A) ((Q.getD 2 Nw.zero).l.length) ((Q.getD 2 Nw.zero).c)) (Yl.o1 hr 2 Nw.zero (by omega) rfl rfl) fun a HF => ?_
  replace HF := HF.sp 14 (.slice y.A y.l.length y.c) rfl (by rw [hy])
  replace HF := HF.sp 14 (.slice (some ⟨gq1, oq1, none⟩) y.l.length y.c) rfl (by rw [hq1]; try rfl)
  refine s_fz HF HM 3 rfl (v := vP gq1 (oq1 + 2)) (Yl.indexAddr (ad := ⟨gq1, oq1, none⟩) (y := 2) (sz := 1) rfl rfl rfl (by omega) (by kernel_rfl)) fun a HF => ?_
  refine s_fz HF HM 4 rfl (v := vQ (y.l.getD 2 0)) (Yl.o1 hrq1 2 0 (by omega) rfl rfl) fun a HF => ?_
  replace HF := HF.sp 16 (vQ gp) rfl (by rw [hcfg]; rfl)
  refine fp HF 1 5 [(17, vI (IntKind.i64.wrap (gp : Int)))] fun a HF => ?_
  replace HF := HF.sp 17 (vI gp) rfl (qc rfl (by omega))
  refine fp HF 1 6 [(18, vI (IntKind.i64.wrap ((gp : Int) - 1)))] fun a HF => ?_
  replace HF := HF.sp 18 (vI (gp - 1 : Nat)) rfl (qc (by omega) (by omega))
  refine fp HF 1 7 [(19, vI (IntKind.i64.wrap (2 * ((gp - 1 : Nat) : Int))))] fun a HF => ?_
  replace HF := HF.sp 19 (vI (2 * (gp - 1) : Nat)) rfl (qc (by omega) (by omega))
  refine fp HF 1 8 [(4, vI (2 * (gp - 1) : Nat))] fun a HF => ?_
  refine s_d0 (wp_ret ?_)
  exact s_rt1 rfl HF rfl (⟨by rw [q1g hb6 hb8 hb10, hw2], HM.below⟩)
 refine s_cf HF (wp_seq (s_fs1 ?_))
 refine fp HF 2 0 [(20, .bool ((nm).toList == ((ByteArray.mk #[99, 108, 111, 99, 107, 115])).toList))] fun a HF => ?_
 refine s_d0 ?_
 rcases HF.tf 20 rfl with ⟨hb20, HF⟩ | ⟨hb20, HF⟩
 ·
  obtain ⟨h3, cp, cr, gp, hcfg, b1, b2, b3, b4⟩ := hS (.inr (.inl hb20))
  obtain ⟨y, hy⟩ : ∃ y, Q.getD 2 Nw.zero = y := ⟨_, rfl⟩
  rw [hy] at hcfg
  have hyr := hq.at (k := 2) (by omega)
  rw [hy] at hyr
  have hyl : y.l.length = 3 := by rw [hcfg]; rfl
  have hw0 : ((Q.map Nw.l).getD 2 []).getD 0 0 = cp := by rw [qd6 (by omega), hy, hcfg]; rfl
  have hw2 : ((Q.map Nw.l).getD 2 []).getD 2 0 = gp := by rw [qd6 (by omega), hy, hcfg]; rfl
  obtain ⟨gA, oA, rfl, _⟩ := hr.qj (Nat.lt_of_le_of_lt (Nat.zero_le _) (show 2 < Q.length from (by omega : 2 < Q.length))) (by decide)
  obtain ⟨gq2, oq2, hq2, _⟩ := Rd.qj hyr (Nat.lt_of_le_of_lt (Nat.zero_le _) (show 2 < y.l.length from (by omega : 2 < y.l.length))) (by decide)
  have hrq2 := hyr; rw [hq2] at hrq2
  refine s_ct HF (wp_skip (s_ct HF (s_fs1 ?_)))
  refine fp HF 1 0 [(23, .slice (some ⟨gA, oA, none⟩) Q.length c)] fun a HF => ?_
  refine s_fz HF HM 1 rfl (v := vP gA (oA + 2)) (Yl.indexAddr (ad := ⟨gA, oA, none⟩) (y := 2) (sz := 1) rfl rfl rfl (by omega) (by kernel_rfl)) fun a HF => ?_
  refine s_fz HF HM 2 rfl (v := .slice ((Q.getD 2 Nw.zero).A) ((Q.getD 2 Nw.zero).l.length) ((Q.getD 2 Nw.zero).c)) (Yl.o1 hr 2 Nw.zero (by omega) rfl rfl) fun a HF => ?_
  replace HF := HF.sp 25 (.slice y.A y.l.length y.c) rfl (by rw [hy])
  replace HF := HF.sp 25 (.slice (some ⟨gq2, oq2, none⟩) y.l.length y.c) rfl (by rw [hq2]; try rfl)
  refine s_fz HF HM 3 rfl (v := vP gq2 oq2) (Yl.indexAddr (ad := ⟨gq2, oq2, none⟩) (y := 0) (sz := 1) rfl rfl rfl (by omega) (by kernel_rfl)) fun a HF => ?_
  refine s_fz HF HM 4 rfl (v := vQ (y.l.getD 0 0)) (Yl.o1 hrq2 0 0 (by omega) rfl rfl) fun a HF => ?_
  replace HF := HF.sp 27 (vQ cp) rfl (by rw [hcfg]; rfl)
  refine fp HF 1 5 [(28, vI (IntKind.i64.wrap (cp : Int)))] fun a HF => ?_
  replace HF := HF.sp 28 (vI cp) rfl (qc rfl (by omega))
  refine fp HF 1 6 [(4, vI cp)] fun a HF => ?_
  refine s_d0 (wp_ret ?_)
  exact s_rt1 rfl HF rfl (⟨by rw [q1h hb6 hb8 hb10 hb20, hw0], HM.below⟩)
 have hb4 := hb20
 refine s_cf HF (qa ?_)
 refine fp HF 2 0 [(20, .bool ((nm).toList == ((ByteArray.mk #[99, 117, 114, 114, 101, 110, 116])).toList))] fun a HF => ?_
 refine s_d0 ?_
 rcases HF.tf 20 rfl with ⟨hb20, HF⟩ | ⟨hb20, HF⟩
 ·
  obtain ⟨h3, cp, cr, gp, hcfg, b1, b2, b3, b4⟩ := hS (.inr (.inr (.inl hb20)))
  obtain ⟨y, hy⟩ : ∃ y, Q.getD 2 Nw.zero = y := ⟨_, rfl⟩
  rw [hy] at hcfg
  have hyr := hq.at (k := 2) (by omega)
  rw [hy] at hyr
  have hyl : y.l.length = 3 := by rw [hcfg]; rfl
  have hw0 : ((Q.map Nw.l).getD 2 []).getD 0 0 = cp := by rw [qd6 (by omega), hy, hcfg]; rfl
  have hw2 : ((Q.map Nw.l).getD 2 []).getD 2 0 = gp := by rw [qd6 (by omega), hy, hcfg]; rfl
  obtain ⟨gA, oA, rfl, _⟩ := hr.qj (Nat.lt_of_le_of_lt (Nat.zero_le _) (show 2 < Q.length from (by omega : 2 < Q.length))) (by decide)
  obtain ⟨gq3, oq3, hq3, _⟩ := Rd.qj hyr (Nat.lt_of_le_of_lt (Nat.zero_le _) (show 2 < y.l.length from (by omega : 2 < y.l.length))) (by decide)
  have hrq3 := hyr; rw [hq3] at hrq3
  refine s_ct HF (s_fs1 ?_)
  refine fp HF 1 0 [(23, .slice (some ⟨gA, oA, none⟩) Q.length c)] fun a HF => ?_
  refine s_fz HF HM 1 rfl (v := vP gA (oA + 2)) (Yl.indexAddr (ad := ⟨gA, oA, none⟩) (y := 2) (sz := 1) rfl rfl rfl (by omega) (by kernel_rfl)) fun a HF => ?_
  refine s_fz HF HM 2 rfl (v := .slice ((Q.getD 2 Nw.zero).A) ((Q.getD 2 Nw.zero).l.length) ((Q.getD 2 Nw.zero).c)) (Yl.o1 hr 2 Nw.zero (by omega) rfl rfl) fun a HF => ?_
  replace HF := HF.sp 25 (.slice y.A y.l.length y.c) rfl (by rw [hy])
  replace HF := HF.sp 25 (.slice (some ⟨gq3, oq3, none⟩) y.l.length y.c) rfl (by rw [hq3]; try rfl)
  refine s_fz HF HM 3 rfl (v := vP gq3 oq3) (Yl.indexAddr (ad := ⟨gq3, oq3, none⟩) (y := 0) (sz := 1) rfl rfl rfl (by omega) (by kernel_rfl)) fun a HF => ?_
  refine s_fz HF HM 4 rfl (v := vQ (y.l.getD 0 0)) (Yl.o1 hrq3 0 0 (by omega) rfl rfl) fun a HF => ?_
  replace HF := HF.sp 27 (vQ cp) rfl (by rw [hcfg]; rfl)
  refine fp HF 1 5 [(28, vI (IntKind.i64.wrap (cp : Int)))] fun a HF => ?_
  replace HF := HF.sp 28 (vI cp) rfl (qc rfl (by omega))
  refine fp HF 1 6 [(4, vI cp)] fun a HF => ?_
  refine s_d0 (wp_ret ?_)
  exact s_rt1 rfl HF rfl (⟨by rw [q1i hb6 hb8 hb10 hb4 hb20, hw0], HM.below⟩)
 have hb45 := hb20
 refine s_cf HF (s_fs1 ?_)
 refine fp HF 2 0 [(29, .bool ((nm).toList == ((ByteArray.mk #[115, 112, 111, 116, 115])).toList))] fun a HF => ?_
 refine s_d0 ?_
 rcases HF.tf 29 rfl with ⟨hb29, HF⟩ | ⟨hb29, HF⟩
 ·
  obtain ⟨h3, cp, cr, gp, hcfg, b1, b2, b3, b4⟩ := hS (.inr (.inr (.inr hb29)))
  obtain ⟨y, hy⟩ : ∃ y, Q.getD 2 Nw.zero = y := ⟨_, rfl⟩
  rw [hy] at hcfg
  have hyr := hq.at (k := 2) (by omega)
  rw [hy] at hyr
  have hyl : y.l.length = 3 := by rw [hcfg]; rfl
  have hw0 : ((Q.map Nw.l).getD 2 []).getD 0 0 = cp := by rw [qd6 (by omega), hy, hcfg]; rfl
  have hw2 : ((Q.map Nw.l).getD 2 []).getD 2 0 = gp := by rw [qd6 (by omega), hy, hcfg]; rfl
  obtain ⟨gA, oA, rfl, _⟩ := hr.qj (Nat.lt_of_le_of_lt (Nat.zero_le _) (show 2 < Q.length from (by omega : 2 < Q.length))) (by decide)
  obtain ⟨gq4, oq4, hq4, _⟩ := Rd.qj hyr (Nat.lt_of_le_of_lt (Nat.zero_le _) (show 2 < y.l.length from (by omega : 2 < y.l.length))) (by decide)
  have hrq4 := hyr; rw [hq4] at hrq4
  refine s_ct HF (wp_seq ?_)
  refine za HM [] [] [] fun HM HS => ?_
  refine ap HF (fun _ => HS) [0, 6] (bf 17 [0, 6]) [(37, .slice (some ⟨gA, oA, none⟩) Q.length c), (31, .slice (some ⟨gA, oA, none⟩) Q.length c)] fun a HF => ?_
  refine s_az HF HS 1 rfl (v := vP gA (oA + 2)) (Yl.indexAddr (ad := ⟨gA, oA, none⟩) (y := 2) (sz := 1) rfl rfl rfl (by omega) (by kernel_rfl)) fun a HF => ?_
  refine s_az HF HS 2 rfl (v := .slice ((Q.getD 2 Nw.zero).A) ((Q.getD 2 Nw.zero).l.length) ((Q.getD 2 Nw.zero).c)) (Yl.o1 hr 2 Nw.zero (by omega) rfl rfl) fun a HF => ?_
  replace HF := HF.sp 33 (.slice y.A y.l.length y.c) rfl (by rw [hy])
  replace HF := HF.sp 33 (.slice (some ⟨gq4, oq4, none⟩) y.l.length y.c) rfl (by rw [hq4]; try rfl)
  refine s_az HF HS 3 rfl (v := vP gq4 oq4) (Yl.indexAddr (ad := ⟨gq4, oq4, none⟩) (y := 0) (sz := 1) rfl rfl rfl (by omega) (by kernel_rfl)) fun a HF => ?_
  refine s_az HF HS 4 rfl (v := vQ (y.l.getD 0 0)) (Yl.o1 hrq4 0 0 (by omega) rfl rfl) fun a HF => ?_
  replace HF := HF.sp 35 (vQ cp) rfl (by rw [hcfg]; rfl)
  refine qh HF (fun _ => HS) (i := 5) rfl rfl (d := 36) rfl (by decide) (by kernel_rfl) (fun _ _ _ h => h) (v := vI (IntKind.i64.wrap (cp : Int))) (fun _ => Yl.pure (by kernel_rfl)) fun a HF => ?_
  replace HF := HF.sp 36 (vI cp) rfl (qc rfl (by omega))
  refine s_az HF HS 7 rfl (v := vP gA (oA + 2)) (Yl.indexAddr (ad := ⟨gA, oA, none⟩) (y := 2) (sz := 1) rfl rfl rfl (by omega) (by kernel_rfl)) fun a HF => ?_
  refine s_az HF HS 8 rfl (v := .slice ((Q.getD 2 Nw.zero).A) ((Q.getD 2 Nw.zero).l.length) ((Q.getD 2 Nw.zero).c)) (Yl.o1 hr 2 Nw.zero (by omega) rfl rfl) fun a HF => ?_
  replace HF := HF.sp 39 (.slice y.A y.l.length y.c) rfl (by rw [hy])
  replace HF := HF.sp 39 (.slice (some ⟨gq4, oq4, none⟩) y.l.length y.c) rfl (by rw [hq4]; try rfl)
  refine s_az HF HS 9 rfl (v := vP gq4 (oq4 + 2)) (Yl.indexAddr (ad := ⟨gq4, oq4, none⟩) (y := 2) (sz := 1) rfl rfl rfl (by omega) (by kernel_rfl)) fun a HF => ?_
  refine s_az HF HS 10 rfl (v := vQ (y.l.getD 2 0)) (Yl.o1 hrq4 2 0 (by omega) rfl rfl) fun a HF => ?_
  replace HF := HF.sp 41 (vQ gp) rfl (by rw [hcfg]; rfl)
  refine qh HF (fun _ => HS) (i := 11) rfl rfl (d := 42) rfl (by decide) (by kernel_rfl) (fun _ _ _ h => h) (v := vI (IntKind.i64.wrap (gp : Int))) (fun _ => Yl.pure (by kernel_rfl)) fun a HF => ?_
  replace HF := HF.sp 42 (vI gp) rfl (qc rfl (by omega))
  refine qh HF (fun _ => HS) (i := 12) rfl rfl (d := 43) rfl (by decide) (by kernel_rfl) (fun _ _ _ h => h) (v := vI (IntKind.i64.wrap ((gp : Int) - 1))) (fun _ => Yl.pure (by kernel_rfl)) fun a HF => ?_
  replace HF := HF.sp 43 (vI (gp - 1 : Nat)) rfl (qc (by omega) (by omega))
  refine qh HF (fun _ => HS) (i := 13) rfl rfl (d := 44) rfl (by decide) (by kernel_rfl) (fun _ _ _ h => h) (v := vI (IntKind.i64.wrap (3 * ((gp - 1 : Nat) : Int)))) (fun _ => Yl.pure (by kernel_rfl)) fun a HF => ?_
  replace HF := HF.sp 44 (vI (3 * (gp - 1) : Nat)) rfl (qc (by omega) (by omega))
  refine qh HF (fun _ => HS) (i := 14) rfl rfl (d := 45) rfl (by decide) (by kernel_rfl) (fun _ _ _ h => h) (v := vI (IntKind.i64.wrap (1 + ((3 * (gp - 1) : Nat) : Int)))) (fun _ => Yl.pure (by kernel_rfl)) fun a HF => ?_
  replace HF := HF.sp 45 (vI (1 + (3 * (gp - 1)) : Nat)) rfl (qc (by omega) (by omega))
  refine qh HF (fun _ => HS) (i := 15) rfl rfl (d := 46) rfl (by decide) (by kernel_rfl) (fun _ _ _ h => h) (v := vI (IntKind.i64.wrap ((cp : Int) * ((1 + (3 * (gp - 1)) : Nat) : Int)))) (fun _ => Yl.pure (by kernel_rfl)) fun a HF => ?_
  replace HF := HF.sp 46 (vI (cp * (1 + 3 * (gp - 1)) : Nat)) rfl (qgs (by have : cp * (1 + 3 * (gp - 1)) ≤ 64 * (1 + 3 * 255) := Nat.mul_le_mul b2 (by omega); omega))
  refine ap HF (fun _ => HS) [16] (bt 17 []) [(4, vI (cp * (1 + 3 * (gp - 1)) : Nat))] fun a HF => ?_
  refine qk (by kernel_rfl) ?_
  refine wp_ret ?_
  exact s_rt1 rfl HF rfl (⟨by rw [q1j hb6 hb8 hb10 hb4 hb45 hb29, hw0, hw2], HM.below⟩)
 refine s_cf HF (wp_skip (s_fs1 ?_))
 refine fp HF 1 0 [(4, vI 0)] fun a HF => ?_
 refine s_d0 (wp_ret ?_)
 exact s_rt1 rfl HF rfl (⟨by rw [q1k hb6 hb8 hb10 hb4 hb45 hb29]; rfl, HM.below⟩)
theorem qtm {i : Nat} (hi : i < 9) (A : Option Addr) (c : Nat) (Q : List Nw) (w : World) (hr : Rd w w.heap.size 1 A Q.length (Q.map Nw.val)) (hq : NwRd w Q) (hS : (nmN (nmR i) 3 = true ∨ nmN (nmR i) 4 = true ∨ nmN (nmR i) 5 = true ∨ nmN (nmR i) 7 = true) → Cfg3 Q) :
  Calls Tryz.prog 101 #[.string (nmR i), .slice A Q.length c] w (Is w (.int .i64 (wantN i (Q.map Nw.l) : Int))) := by
 rw [← qzk hi]
 exact qpo (nmR i) A c Q w hr hq hS
theorem qg0 (A : Option Addr) (c : Nat) (l : List Nat) (w : World) (hr : Rd w w.heap.size 1 A l.length (l.map B8)) (hc : l.length ≤ c) (hn : l.length ≤ 100000000) (hl : ∀ z ∈ l, z < 256) :
    Calls Tryz.prog 72 #[.slice A l.length c] w (qnz w l) := by
 refine s_ce Tryz.func72 [.slice A l.length c] [(0, .slice A l.length c)] fun a HF => ?_
 have HM := Mem.start w
 refine s_fs1 ?_
 refine fp HF 3 0 [(4, vI 0), (3, .slice none 0 0), (2, .slice none 0 0)] fun a HF => ?_
 refine s_d0 (wp_seq (s_fs1 ?_))
 refine fp HF 1 0 [(20, .slice A l.length c)] fun a HF => ?_
 refine s_fl HF 1 fun a HF => ?_
 refine fp HF 1 2 [(22, .bool (decide ((l.length : Int) < (15 : Int))))] fun a HF => ?_
 refine s_d0 ?_
 rcases HF.tf 22 rfl with ⟨hb22, HF⟩ | ⟨hb22, HF⟩
 ·
  have hd22 := of_decide_eq_true hb22
  refine s_ct HF (s_fs1 ?_)
  refine fp HF 3 0 [(4, vI 340), (3, .slice none 0 0), (2, .slice none 0 0)] fun a HF => ?_
  refine s_d0 (wp_ret ?_)
  exact s_rt3 rfl HF rfl rfl rfl (zp _ (qkr (by omega)) rfl rfl HM.below)
 have hd22 := of_decide_eq_false hb22
 refine s_cf HF (wp_skip (wp_seq (s_fs1 ?_)))
 refine fp HF 1 0 [(23, .slice A l.length c)] fun a HF => ?_
 refine s_fl HF 1 fun a HF => ?_
 refine fp HF 1 2 [(25, .bool (decide ((l.length : Int) > (16777216 : Int))))] fun a HF => ?_
 refine s_d0 ?_
 rcases HF.tf 25 rfl with ⟨hb25, HF⟩ | ⟨hb25, HF⟩
 ·
  have hd25 := of_decide_eq_true hb25
  refine s_ct HF (s_fs1 ?_)
  refine fp HF 3 0 [(4, vI 3), (3, .slice none 0 0), (2, .slice none 0 0)] fun a HF => ?_
  refine s_d0 (wp_ret ?_)
  exact s_rt3 rfl HF rfl rfl rfl (zp _ (qni (by omega) (by omega)) rfl rfl HM.below)
 have hd25 := of_decide_eq_false hb25
 refine s_cf HF (wp_skip (wp_seq (s_fs1 ?_)))
 refine fp HF 1 0 [(26, .slice A l.length c)] fun a HF => ?_
 refine fo HF 1 rfl rfl (e_is HF HM [.slice A l.length c] (.bool (q0 l)) rfl rfl (qk4 A l.length c l _ (HM.old hr) hc rfl hn hl) fun w27 hbw HM a HF => ?_)
 refine fp HF 1 2 [(28, .bool (!(q0 l)))] fun a HF => ?_
 refine s_d0 ?_
 rcases HF.tf 28 rfl with ⟨hb28, HF⟩ | ⟨hb28, HF⟩
 ·
  have hs16 : q0 l = false := by simpa using hb28
  refine s_ct HF (s_fs1 ?_)
  refine fp HF 3 0 [(4, vI 341), (3, .slice none 0 0), (2, .slice none 0 0)] fun a HF => ?_
  refine s_d0 (wp_ret ?_)
  exact s_rt3 rfl HF rfl rfl rfl (zp _ (qr5 (by omega) (by omega) hs16) rfl rfl HM.below)
 have hs16 : q0 l = true := by simpa using hb28
 refine s_cf HF (wp_skip (wp_seq (s_fs1 ?_)))
 refine fp HF 1 0 [(29, .slice A l.length c)] fun a HF => ?_
 obtain ⟨gA, oA, rfl, _⟩ := hr.qj (Nat.lt_of_le_of_lt (Nat.zero_le _) (show 0 < l.length from by omega)) (by decide)
 refine s_fz HF HM 1 rfl (v := vP gA oA) (Yl.indexAddr (ad := ⟨gA, oA, none⟩) (y := 0) (sz := 1) rfl rfl rfl (by omega) (by kernel_rfl)) fun a HF => ?_
 refine s_fz HF HM 2 rfl (v := vB (l.getD 0 0)) (Yl.o1 hr 0 0 (by first | omega | (simp; omega)) rfl rfl) fun a HF => ?_
 refine fp HF 2 3 [(33, .bool (((l.getD 0 0) : Int) != (113 : Int)))] fun a HF => ?_
 rcases HF.tf 33 rfl with ⟨hb33, HF⟩ | ⟨hb33, HF⟩
 ·
  have hd33 := bne_iff_ne.1 hb33
  refine fp HF 5 5 [(38, .bool true)] fun a HF => ?_
  refine s_d0 (s_ct HF (s_fs1 ?_))
  refine fp HF 3 0 [(4, vI 342), (3, .slice none 0 0), (2, .slice none 0 0)] fun a HF => ?_
  refine s_d0 (wp_ret ?_)
  exact s_rt3 rfl HF rfl rfl rfl (zp _ (qdy (by omega) (by omega) hs16 (by omega)) rfl rfl HM.below)
 have hd33 := bne_eq_false_iff_eq.1 hb33
 refine fp HF 1 5 [(34, .slice (some ⟨gA, oA, none⟩) l.length c)] fun a HF => ?_
 refine s_fz HF HM 6 rfl (v := vP gA (oA + 1)) (Yl.indexAddr (ad := ⟨gA, oA, none⟩) (y := 1) (sz := 1) rfl rfl rfl (by omega) (by kernel_rfl)) fun a HF => ?_
 refine s_fz HF HM 7 rfl (v := vB (l.getD 1 0)) (Yl.o1 hr 1 0 (by first | omega | (simp; omega)) rfl rfl) fun a HF => ?_
 refine fp HF 2 8 [(38, .bool (((l.getD 1 0) : Int) != (115 : Int)))] fun a HF => ?_
 refine s_d0 ?_
 rcases HF.tf 38 rfl with ⟨hb38, HF⟩ | ⟨hb38, HF⟩
 ·
  have hd38 := bne_iff_ne.1 hb38
  refine s_ct HF (s_fs1 ?_)
  refine fp HF 3 0 [(4, vI 342), (3, .slice none 0 0), (2, .slice none 0 0)] fun a HF => ?_
  refine s_d0 (wp_ret ?_)
  exact s_rt3 rfl HF rfl rfl rfl (zp _ (qdy (by omega) (by omega) hs16 (by omega)) rfl rfl HM.below)
 have hd38 := bne_eq_false_iff_eq.1 hb38
 refine s_cf HF (wp_skip (wp_seq (s_fs1 ?_)))
 refine fp HF 1 0 [(39, .slice (some ⟨gA, oA, none⟩) l.length c)] fun a HF => ?_
 refine s_fz HF HM 1 rfl (v := vP gA (oA + 2)) (Yl.indexAddr (ad := ⟨gA, oA, none⟩) (y := 2) (sz := 1) rfl rfl rfl (by omega) (by kernel_rfl)) fun a HF => ?_
 refine s_fz HF HM 2 rfl (v := vB (l.getD 2 0)) (Yl.o1 hr 2 0 (by first | omega | (simp; omega)) rfl rfl) fun a HF => ?_
 refine fp HF 1 3 [(42, .bool (((l.getD 2 0) : Int) != (1 : Int)))] fun a HF => ?_
 refine s_d0 ?_
 rcases HF.tf 42 rfl with ⟨hb42, HF⟩ | ⟨hb42, HF⟩
 ·
  have hd42 := bne_iff_ne.1 hb42
  refine s_ct HF (s_fs1 ?_)
  refine fp HF 3 0 [(4, vI 343), (3, .slice none 0 0), (2, .slice none 0 0)] fun a HF => ?_
  refine s_d0 (wp_ret ?_)
  exact s_rt3 rfl HF rfl rfl rfl (zp _ (qgt (by omega) (by omega) hs16 (by omega) (by omega)) rfl rfl HM.below)
 have hd42 := bne_eq_false_iff_eq.1 hb42
 refine s_cf HF (wp_skip (s_fs1 ?_))
 refine fo HF 0 rfl rfl (s_el HF HM ei_nw [(0, .slice none 0 0)] #[.slice none 0 0] ?_)
 clear HF HM; intro a w43 g43 HF HM
 refine fo HF 1 rfl rfl (s_el HF HM qbf [(0, vI 3)] #[vI 3] ?_)
 clear HF HM; intro a w44 g44 HF HM
 refine fp HF 2 2 [(6, vS g44 1 1), (5, vS g43 1 1)] fun a HF => ?_
 refine s_d0 ?_
 replace HM := (HM.blkRow (i := 1) (n := 1) (size := 1) rfl rfl (by decide)).asRow (i := 1) (ys := ([Nw.zero] : List Nw).map Nw.val) rfl (rfl)
 replace HM := (HM.blkRow (i := 0) (n := 1) (size := 1) rfl rfl (by decide)).asRow (i := 0) (ys := ([3] : List Nat).map I64v) rfl (rfl)
 replace HM := HM.nil 22 1
 replace HM := HM.newTail 22 1
 replace HM := Mem.toNw (A := none) (c := 0) (l := []) (q := []) (fs := [.row (vS g44 1 1) 1 (([3] : List Nat).map I64v) 3 1, .row (vS g43 1 1) 1 (([Nw.zero] : List Nw).map Nw.val) 58 1]) HM
 replace HM : Mem w _ (.row (vS g44 1 1) 1 (([3] : List Nat).map I64v) 3 1 :: .row (vS g43 1 1) 1 (([Nw.zero] : List Nw).map Nw.val) 58 1 :: nwF 22 [Nw.zero]) := HM
 refine s_fs1 ?_
 refine fp HF 1 0 [(45, .slice (some ⟨gA, oA, none⟩) l.length c)] fun a HF => ?_
 refine s_fl HF 1 fun a HF => ?_
 refine fp HF 1 2 [(47, vI (IntKind.i64.wrap ((l.length : Int) - 4)))] fun a HF => ?_
 replace HF := HF.sp 47 (vI (l.length - 4 : Nat)) rfl (qc (by omega) (by omega))
 refine fp HF 2 3 [(8, vI (l.length - 4 : Nat)), (7, vI 3)] fun a HF => ?_
 refine s_d0 (s_fs1 ?_)
 refine fo HF 0 rfl rfl ?_
 refine e_cl HF [] rfl rfl (qey _) ?_
 rintro _ w48 ⟨⟨g48, rfl, ho⟩, hbw⟩
 refine ⟨_, rfl, ?_⟩
 replace HM := HM.callRow hbw ho
 clear HF; intro a HF
 refine fp HF 1 1 [(9, vS g48 9 9)] fun a HF => ?_
 refine s_d0 (wp_seq (wp_seq ?_))
 obtain ⟨b, hbd⟩ : ∃ b, l.take (l.length - 4) = b := ⟨_, rfl⟩
 have hbl : b.length = l.length - 4 := by rw [← hbd, List.length_take]; omega
 have hlb : ∀ z ∈ b, z < 256 := fun z hz => hl z (List.mem_of_mem_take (hbd ▸ hz))
 have hop := qr6 (by omega) (by omega) hs16 (by omega) (by omega)
 rw [hbd] at hop
 skip
 ·
  refine qa ?_
  refine fp HF 1 0 [(10, vI 1)] fun a HF => ?_
  refine s_d0 (wp_block ?_)
  refine qi (fun mS aS wS => ∃ (i : Nat) (Q : List Nw) (Aq : Option Addr) (cq : Nat) (E : List Nat) (Ae : Option Addr) (ce : Nat) (p0 : Nat), (1 ≤ i) ∧ (i ≤ 8) ∧ (RefAt b i (Q.map Nw.l) E p0) ∧ (p0 ≤ b.length) ∧ (Q.length = i) ∧ (E.length = i) ∧ (∀ y ∈ Q, y.l.length ≤ y.c) ∧ (Q.length ≤ cq) ∧ (E.length ≤ ce) ∧ mS = 8 - i ∧ Fr aS 165 [] [(10, vI i), (9, vS g48 9 9), (8, vI (l.length - 4 : Nat)), (7, vI p0), (6, .slice Ae E.length ce), (5, .slice Aq Q.length cq), (42, .bool false), (38, .bool false), (28, .bool false), (25, .bool false), (22, .bool false), (4, vI 0), (3, .slice none 0 0), (2, .slice none 0 0), (0, .slice (some ⟨gA, oA, none⟩) l.length c)] ∧ Mem w wS (.row (vS g48 9 9) 9 (nameL.map StrC) 9 1 :: .row (.slice Ae E.length ce) E.length (E.map I64v) 3 1 :: .row (.slice Aq Q.length cq) Q.length (Q.map Nw.val) 58 1 :: nwF 22 Q)) (m := 8 - 1) ⟨1, [Nw.zero], (some ⟨g43, 0, none⟩), 1, [3], (some ⟨g44, 0, none⟩), 1, 3, Nat.le_refl _, by decide, qs2, by omega, rfl, rfl, (fun q h => by rw [List.mem_singleton] at h; subst h; exact Nat.le_refl _), Nat.le_refl _, Nat.le_refl _, rfl, HF.sub (by kernel_rfl), HM.pt 3 [0, 1, 2]⟩ ?_
  clear HF HM; rintro mS a w_ ⟨i, Q, Aq, cq, E, Ae, ce, p0, hi1, hi8, hR, ha, hql, hel, hqc, hcq, hce, rfl, HF, HM⟩
  refine wp_seq (s_fs1 ?_)
  refine fp HF 2 0 [(50, .bool (decide ((i : Int) < (8 : Int))))] fun a HF => ?_
  refine s_d0 ?_
  rcases HF.tf 50 rfl with ⟨hb50, HF⟩ | ⟨hb50, HF⟩
  ·
   have hd50 := of_decide_eq_true hb50
   refine s_ct HF (wp_skip (wp_seq (wp_block (s_fs1 ?_))))
   refine fp HF 1 0 [(11, .slice none 0 0)] fun a HF => ?_
   refine s_d0 (s_fs1 ?_)
   refine fp HF 2 0 [(54, vI i), (53, vS g48 9 9)] fun a HF => ?_
   refine s_fz HF HM 2 rfl (v := vP g48 (i * 1)) (Yl.ix0 g48 i 1 rfl rfl rfl) fun a HF => ?_
   refine s_fz HF HM 3 rfl (v := .string (nmR i)) (Yl.r1 0 i [] (show i < nameL.length from by have : nameL.length = 9 := rfl; omega) rfl rfl rfl) fun a HF => ?_
   refine fp HF 1 4 [(57, .slice Aq Q.length cq)] fun a HF => ?_
   refine fo HF 5 rfl rfl (e_is HF HM [.string (nmR i), .slice Aq Q.length cq] (vI (wantN i (Q.map Nw.l))) rfl rfl (qtm (by omega) Aq cq Q _ (HM.rd (i := 2) rfl) (HM.nwAt 3 rfl) (fun h => qzm hR (qzn (by omega) h))) fun w58 hbw HM a HF => ?_)
   refine fp HF 1 6 [(12, vI (wantN i (Q.map Nw.l)))] fun a HF => ?_
   refine s_d0 ?_
   refine qa3 (fun aS wS => Fr aS 165 [] [(12, vI (needN i (Q.map Nw.l) [])), (11, .slice none 0 0), (50, .bool true), (10, vI i), (9, vS g48 9 9), (8, vI (l.length - 4 : Nat)), (7, vI p0), (6, .slice Ae E.length ce), (5, .slice Aq Q.length cq), (42, .bool false), (38, .bool false), (28, .bool false), (25, .bool false), (22, .bool false), (4, vI 0), (3, .slice none 0 0), (2, .slice none 0 0), (0, .slice (some ⟨gA, oA, none⟩) l.length c)] ∧ Mem w wS (.row (vS g48 9 9) 9 (nameL.map StrC) 9 1 :: .row (.slice Ae E.length ce) E.length (E.map I64v) 3 1 :: .row (.slice Aq Q.length cq) Q.length (Q.map Nw.val) 58 1 :: nwF 22 Q)) ?_ ?_
   ·
    refine s_fs1 ?_
    refine fp HF 2 0 [(60, vI i), (59, vS g48 9 9)] fun a HF => ?_
    refine s_fz HF HM 2 rfl (v := vP g48 (i * 1)) (Yl.ix0 g48 i 1 rfl rfl rfl) fun a HF => ?_
    refine s_fz HF HM 3 rfl (v := .string (nmR i)) (Yl.r1 0 i [] (show i < nameL.length from by have : nameL.length = 9 := rfl; omega) rfl rfl rfl) fun a HF => ?_
    refine fp HF 1 4 [(63, .bool (((nmR i)).toList == ((ByteArray.mk #[116, 97, 115, 107, 115])).toList))] fun a HF => ?_
    replace HF := HF.sp 63 (.bool (decide (i = 6))) rfl (congrArg Value.bool (nm_eq (k := 6) (by omega) (by omega)))
    refine s_d0 ?_
    rcases HF.tf 63 rfl with ⟨hb63, HF⟩ | ⟨hb63, HF⟩
    ·
     have hd63 := of_decide_eq_true hb63
     refine s_ct HF (qa ?_)
     refine fp HF 1 0 [(12, vI 1)] fun a HF => ?_
     refine s_d0 ?_
     have HF := HF.sp 12 (vI (needN i (Q.map Nw.l) [])) rfl (by rw [q1l hd63]; rfl)
     exact ⟨HF.sub (by kernel_rfl), HM.pt 3 [0, 1, 2]⟩
    have hd63 := of_decide_eq_false hb63
    refine s_cf HF (wp_skip ?_)
    have HF := HF.sp 12 (vI (needN i (Q.map Nw.l) [])) rfl (by rw [qny hd63])
    exact ⟨HF.sub (by kernel_rfl), HM.pt 3 [0, 1, 2]⟩
   clear HF HM; rintro a wM63 ⟨HF, HM⟩
   refine wp_seq (s_fs1 ?_)
   refine fp HF 1 0 [(13, vI 0)] fun a HF => ?_
   refine s_d0 ?_
   replace HM := HM.nil 22 1
   refine wp_block ?_
   refine qi (fun mS aS wS => ∃ (X : List Nat) (Ax : Option Addr) (cx : Nat) (p1 : Nat), (qx b X.length p0 X p1) ∧ (chkN i X) ∧ (X.length ≤ needN i (Q.map Nw.l) X) ∧ (p1 ≤ b.length) ∧ (X.length ≤ cx) ∧ mS = b.length - p1 ∧ Fr aS 165 [] [(13, vI X.length), (12, vI (needN i (Q.map Nw.l) X)), (11, .slice Ax X.length cx), (50, .bool true), (10, vI i), (9, vS g48 9 9), (8, vI (l.length - 4 : Nat)), (7, vI p1), (6, .slice Ae E.length ce), (5, .slice Aq Q.length cq), (42, .bool false), (38, .bool false), (28, .bool false), (25, .bool false), (22, .bool false), (4, vI 0), (3, .slice none 0 0), (2, .slice none 0 0), (0, .slice (some ⟨gA, oA, none⟩) l.length c)] ∧ Mem w wS (.row (.slice Ax X.length cx) X.length (X.map U64) 22 1 :: .row (vS g48 9 9) 9 (nameL.map StrC) 9 1 :: .row (.slice Ae E.length ce) E.length (E.map I64v) 3 1 :: .row (.slice Aq Q.length cq) Q.length (Q.map Nw.val) 58 1 :: nwF 22 Q)) (m := b.length - p0) ⟨[], none, 0, p0, qx.nil b p0, qzh i, Nat.zero_le _, ha, Nat.le_refl _, rfl, HF.sub (by kernel_rfl), HM.pt 4 [0, 1, 2, 3]⟩ ?_
   clear HF HM; rintro mS a w_ ⟨X, Ax, cx, p1, hX, hcX, hnX, hp1, hXc, rfl, HF, HM⟩
   refine wp_seq (s_fs1 ?_)
   refine fp HF 3 0 [(66, .bool (decide ((X.length : Int) < (needN i (Q.map Nw.l) X : Int))))] fun a HF => ?_
   refine s_d0 ?_
   rcases HF.tf 66 rfl with ⟨hb66, HF⟩ | ⟨hb66, HF⟩
   ·
    have hd66 := of_decide_eq_true hb66
    refine s_ct HF (wp_skip (wp_seq (wp_block (wp_seq ?_))))
    obtain ⟨x, n, er, hv⟩ : ∃ x n er, vread (b.drop p1) = (x, n, er) := ⟨_, _, _, rfl⟩
    ·
     have hlt : X.length < needN i (Q.map Nw.l) X := by omega
     refine qa ?_
     refine fp HF 3 0 [(72, vI (l.length - 4 : Nat)), (71, vI p1), (70, .slice (some ⟨gA, oA, none⟩) l.length c)] fun a HF => ?_
     refine s_fz HF HM 3 rfl (v := .slice (if c = p1 then some ⟨gA, oA, none⟩ else (some ⟨gA, oA, none⟩ : Option Addr).map (·.add (p1 * 1))) ((l.length - 4) - p1) (c - p1)) (Yl.qic ei_u8 (i := p1) (j := (l.length - 4)) rfl rfl rfl rfl (by omega) (by omega)) fun a HF => ?_
     refine fo HF 4 rfl rfl ?_
     refine e_is HF HM [.slice (if c = p1 then some ⟨gA, oA, none⟩ else (some ⟨gA, oA, none⟩ : Option Addr).map (·.add (p1 * 1))) ((l.length - 4) - p1) (c - p1)] (.tuple #[vQ x, vI n, vI er]) rfl rfl (qs6 hv (by have h1 := (HM.old hr).q0a (i := p1) (j := l.length - 4) (by omega) (by omega) hc; rw [hbd] at h1; exact h1) (fun z hz => hlb z (List.mem_of_mem_drop hz)) (by omega)) fun w74 hbw HM a HF => ?_
     refine fp HF 7 5 [(16, vI er), (15, vI n), (14, vQ x)] fun a HF => ?_
     refine s_d0 (wp_seq (s_fs1 ?_))
     refine fp HF 2 0 [(79, .bool ((er : Int) != (0 : Int)))] fun a HF => ?_
     refine s_d0 ?_
     rcases HF.tf 79 rfl with ⟨hb79, HF⟩ | ⟨hb79, HF⟩
     ·
      have hd79 := bne_iff_ne.1 hb79
      refine s_ct HF (s_fs1 ?_)
      refine fp HF 3 0 [(4, vI 344), (3, .slice none 0 0), (2, .slice none 0 0)] fun a HF => ?_
      refine s_d0 (wp_ret ?_)
      exact s_rt3 rfl HF rfl rfl rfl (zp _ (hop.trans (qzi hR (by omega) hX hcX hlt (qkq hv (by omega)))) rfl rfl HM.below)
     have hd79 := bne_eq_false_iff_eq.1 hb79
     obtain rfl : er = 0 := by omega
     have hin := (NumAt.of hv).in hp1
     have hxu := (NumAt.of hv).lt hlb
     have hxl := qzg hR hcX
     refine s_cf HF (wp_skip (s_fs1 ?_))
     refine fp HF 2 0 [(81, vQ x), (80, .slice Ax X.length cx)] fun a HF => ?_
     refine fo HF 2 rfl rfl (s_el HF HM q2 [(0, vQ x)] #[vQ x] ?_)
     clear HF HM; intro a w82 g82 HF HM
     refine fo HF 3 rfl rfl (qo HF HM (i := 1) rfl q2 rfl rfl rfl (news := [U64 x]) (HM.rdBlk (i := 0) (n := 1) (size := 1) rfl rfl) (by simp [Value.oneCell', U64, B8]) (by omega) (by omega) rfl (by decide) ?_)
     clear HF HM; intro a w83 A83 c83 HF HM hc83
     refine fp HF 1 4 [(11, .slice A83 (X.length + 1) c83)] fun a HF => ?_
     refine s_d0 ?_
     have hnA83 : X.length + 1 = (X ++ [x]).length := qs rfl
     replace HM := HM.reRow (i := 1) (ys := (X ++ [x]).map U64) rfl hnA83 (by simp)
     rw [hnA83] at hc83
     replace HF := HF.sp 11 (.slice A83 ((X ++ [x]).length) c83) rfl (by rw [hnA83])
     replace HF := HF.sp 83 (.slice A83 ((X ++ [x]).length) c83) rfl (by rw [hnA83])
     refine s_fs1 ?_
     refine fp HF 3 0 [(86, vI (IntKind.i64.wrap ((p1 : Int) + (n : Int))))] fun a HF => ?_
     replace HF := HF.sp 86 (vI (p1 + n : Nat)) rfl (qc (by omega) (by omega))
     refine fp HF 1 3 [(7, vI (p1 + n : Nat))] fun a HF => ?_
     refine s_d0 ?_
     rcases qv6 i X.length with ⟨hi2, hk⟩ | ⟨hi2, hk⟩ | ⟨hi2, hk, hk2⟩ | ⟨hi6, hk⟩ | ⟨hi6, hk⟩ | ⟨hi2, hi6⟩
     ·
      refine wp_seq ?_
      refine zf HM (.blk g82 #[vQ x] 22 :: .row (.slice A83 ((X ++ [x]).length) c83) ((X ++ [x]).length) ((X ++ [x]).map U64) 22 1 :: .row (vS g48 9 9) 9 (nameL.map StrC) 9 1 :: .row (.slice Ae E.length ce) E.length (E.map I64v) 3 1 :: .row (.slice Aq Q.length cq) Q.length (Q.map Nw.val) 58 1 :: nwF 22 Q) 5 [0, 1, 2, 3, 4] [] fun HM HS => ?_
      refine ap HF (fun _ => HS) [0, 1, 9, 10, 18, 19] (bf 30 [0, 1, 9, 10, 18, 19]) [(106, vI i), (105, vS g48 9 9), (97, vI i), (96, vS g48 9 9), (88, vI i), (87, vS g48 9 9)] fun a HF => ?_
      refine s_az HF HS 2 rfl (v := vP g48 (i * 1)) (Yl.ix0 g48 i 1 rfl rfl rfl) fun a HF => ?_
      refine s_az HF HS 3 rfl (v := .string (nmR i)) (Yl.r1 2 i [] (show i < nameL.length from by have : nameL.length = 9 := rfl; omega) rfl rfl rfl) fun a HF => ?_
      refine qh HF (fun _ => HS) (i := 4) rfl rfl (d := 91) rfl (by decide) (by kernel_rfl) (fun _ _ _ h => h) (v := .bool (((nmR i)).toList == ((ByteArray.mk #[99, 111, 110, 102, 105, 103])).toList)) (fun _ => Yl.pure (by kernel_rfl)) fun a HF => ?_
      replace HF := HF.sp 91 (.bool true) rfl (congrArg Value.bool ((nm_eq (k := 2) (by omega) (by omega)).trans (decide_eq_true (show i = 2 from by omega))))
      refine ap HF (fun _ => HS) [5, 6] (bf 30 [0, 1, 2, 3, 4, 5, 6, 9, 10, 18, 19]) [(93, vI X.length), (92, .bool true)] fun a HF => ?_
      refine qh HF (fun _ => HS) (i := 7) rfl rfl (d := 94) rfl (by decide) (by kernel_rfl) (fun _ _ _ h => h) (v := .bool ((X.length : Int) == (0 : Int))) (fun _ => Yl.pure (by kernel_rfl)) fun a HF => ?_
      replace HF := HF.sp 94 (.bool true) rfl (by rw [hk]; rfl)
      refine ap HF (fun _ => HS) [8] (bf 30 [0, 1, 2, 3, 4, 5, 6, 7, 8, 9, 10, 18, 19]) [(95, .bool true)] fun a HF => ?_
      refine s_az HF HS 11 rfl (v := vP g48 (i * 1)) (Yl.ix0 g48 i 1 rfl rfl rfl) fun a HF => ?_
      refine s_az HF HS 12 rfl (v := .string (nmR i)) (Yl.r1 2 i [] (show i < nameL.length from by have : nameL.length = 9 := rfl; omega) rfl rfl rfl) fun a HF => ?_
      refine qh HF (fun _ => HS) (i := 13) rfl rfl (d := 100) rfl (by decide) (by kernel_rfl) (fun _ _ _ h => h) (v := .bool (((nmR i)).toList == ((ByteArray.mk #[99, 111, 110, 102, 105, 103])).toList)) (fun _ => Yl.pure (by kernel_rfl)) fun a HF => ?_
      replace HF := HF.sp 100 (.bool true) rfl (congrArg Value.bool ((nm_eq (k := 2) (by omega) (by omega)).trans (decide_eq_true (show i = 2 from by omega))))
      refine ap HF (fun _ => HS) [14, 15] (bt 30 [16, 17, 20, 21, 22, 23, 24, 25, 26, 27, 28, 29]) [(102, vI X.length), (101, .bool true)] fun a HF => ?_
      refine qh HF (fun _ => HS) (i := 16) rfl rfl (d := 103) rfl (by decide) (by kernel_rfl) (fun _ _ _ h => h) (v := .bool ((X.length : Int) == (2 : Int))) (fun _ => Yl.pure (by kernel_rfl)) fun a HF => ?_
      replace HF := HF.sp 103 (.bool false) rfl (by rw [beq_eq_false_iff_ne.2 (by omega)])
      refine ap HF (fun _ => HS) [17] (bt 30 [20, 21, 22, 23, 24, 25, 26, 27, 28, 29]) [(104, .bool false)] fun a HF => ?_
      refine s_az HF HS 20 rfl (v := vP g48 (i * 1)) (Yl.ix0 g48 i 1 rfl rfl rfl) fun a HF => ?_
      refine s_az HF HS 21 rfl (v := .string (nmR i)) (Yl.r1 2 i [] (show i < nameL.length from by have : nameL.length = 9 := rfl; omega) rfl rfl rfl) fun a HF => ?_
      refine qh HF (fun _ => HS) (i := 22) rfl rfl (d := 109) rfl (by decide) (by kernel_rfl) (fun _ _ _ h => h) (v := .bool (((nmR i)).toList == ((ByteArray.mk #[116, 97, 115, 107, 115])).toList)) (fun _ => Yl.pure (by kernel_rfl)) fun a HF => ?_
      replace HF := HF.sp 109 (.bool false) rfl (congrArg Value.bool ((nm_eq (k := 6) (by omega) (by omega)).trans (decide_eq_false (show ¬ i = 6 from by omega))))
      refine ap HF (fun _ => HS) [23, 24, 25, 26, 27, 28, 29] (bt 30 []) [(19, .bool false), (18, .bool false), (17, .bool true)] fun a HF => ?_
      refine qk (by kernel_rfl) ?_
      replace HF := HF.to [(19, .bool false), (18, .bool false), (17, .bool true), (7, vI (p1 + n : Nat)), (83, .slice A83 ((X ++ [x]).length) c83), (11, .slice A83 ((X ++ [x]).length) c83), (79, .bool false), (16, vI 0), (15, vI n), (14, vQ x), (66, .bool true), (13, vI X.length), (12, vI (needN i (Q.map Nw.l) X)), (50, .bool true), (10, vI i), (9, vS g48 9 9), (8, vI (l.length - 4 : Nat)), (6, .slice Ae E.length ce), (5, .slice Aq Q.length cq), (42, .bool false), (38, .bool false), (28, .bool false), (25, .bool false), (22, .bool false), (4, vI 0), (3, .slice none 0 0), (2, .slice none 0 0), (0, .slice (some ⟨gA, oA, none⟩) l.length c)]
      refine wp_seq (s_fs1 ?_)
      refine fp HF 5 0 [(118, .bool (decide ((x : Int) < (1 : Int)))), (115, .bool true)] fun a HF => ?_
      rcases HF.tf 118 rfl with ⟨hb118, HF⟩ | ⟨hb118, HF⟩
      ·
       have hd118 := of_decide_eq_true hb118
       refine fp HF 22 5 [(140, .bool true)] fun a HF => ?_
       refine s_d0 (s_ct HF (s_fs1 ?_))
       refine fp HF 3 0 [(4, vI 345), (3, .slice none 0 0), (2, .slice none 0 0)] fun a HF => ?_
       refine s_d0 (wp_ret ?_)
       exact s_rt3 rfl HF rfl rfl rfl (zp _ (hop.trans (qd5 hR hX hcX hlt (.of hv) (fun h => by have := (qam hcX (fun h => qan h hlt)).1 h; omega))) rfl rfl HM.below)
      have hd118 := of_decide_eq_false hb118
      refine fp HF 5 5 [(123, .bool (decide ((x : Int) > (64 : Int))))] fun a HF => ?_
      rcases HF.tf 123 rfl with ⟨hb123, HF⟩ | ⟨hb123, HF⟩
      ·
       have hd123 := of_decide_eq_true hb123
       refine fp HF 17 10 [(140, .bool true)] fun a HF => ?_
       refine s_d0 (s_ct HF (s_fs1 ?_))
       refine fp HF 3 0 [(4, vI 345), (3, .slice none 0 0), (2, .slice none 0 0)] fun a HF => ?_
       refine s_d0 (wp_ret ?_)
       exact s_rt3 rfl HF rfl rfl rfl (zp _ (hop.trans (qd5 hR hX hcX hlt (.of hv) (fun h => by have := (qam hcX (fun h => qan h hlt)).1 h; omega))) rfl rfl HM.below)
      have hd123 := of_decide_eq_false hb123
      refine fp HF 17 10 [(140, .bool false)] fun a HF => ?_
      refine s_d0 (s_cf HF (wp_skip (wp_seq ?_)))
      skip
      ·
       have hcs := qam (x := x) hcX (fun h => qan h hlt)
       have hc2 : chkN i (X ++ [x]) := hcs.2 (by omega)
       refine qa ?_
       refine fp HF 1 0 [(141, .bool false)] fun a HF => ?_
       refine s_d0 (s_cf HF (wp_skip (qa ?_)))
       refine fp HF 2 0 [(68, vI (IntKind.i64.wrap ((X.length : Int) + 1)))] fun a HF => ?_
       replace HF := HF.sp 68 (vI (X.length + 1 : Nat)) rfl (qc (by omega) (by omega))
       refine fp HF 1 2 [(13, vI (X.length + 1 : Nat))] fun a HF => ?_
       refine s_d0 ?_
       replace HF := HF.sp 12 (vI (needN i (Q.map Nw.l) (X ++ [x]))) rfl (by rw [qcq (by omega)])
       replace HF := HF.sp 13 (vI ((X ++ [x]).length)) rfl (by rw [List.length_append]; rfl)
       exact ⟨_, (by omega), (X ++ [x]), A83, c83, p1 + n, by rw [List.length_append]; exact hX.snoc (.of hv), hc2, qbv hlt, hin.2, hc83, rfl, HF.sub (by kernel_rfl), HM.pt 5 [1, 2, 3, 4]⟩
     ·
      refine wp_seq ?_
      refine zf HM (.blk g82 #[vQ x] 22 :: .row (.slice A83 ((X ++ [x]).length) c83) ((X ++ [x]).length) ((X ++ [x]).map U64) 22 1 :: .row (vS g48 9 9) 9 (nameL.map StrC) 9 1 :: .row (.slice Ae E.length ce) E.length (E.map I64v) 3 1 :: .row (.slice Aq Q.length cq) Q.length (Q.map Nw.val) 58 1 :: nwF 22 Q) 5 [0, 1, 2, 3, 4] [] fun HM HS => ?_
      refine ap HF (fun _ => HS) [0, 1, 9, 10, 18, 19] (bf 30 [0, 1, 9, 10, 18, 19]) [(106, vI i), (105, vS g48 9 9), (97, vI i), (96, vS g48 9 9), (88, vI i), (87, vS g48 9 9)] fun a HF => ?_
      refine s_az HF HS 2 rfl (v := vP g48 (i * 1)) (Yl.ix0 g48 i 1 rfl rfl rfl) fun a HF => ?_
      refine s_az HF HS 3 rfl (v := .string (nmR i)) (Yl.r1 2 i [] (show i < nameL.length from by have : nameL.length = 9 := rfl; omega) rfl rfl rfl) fun a HF => ?_
      refine qh HF (fun _ => HS) (i := 4) rfl rfl (d := 91) rfl (by decide) (by kernel_rfl) (fun _ _ _ h => h) (v := .bool (((nmR i)).toList == ((ByteArray.mk #[99, 111, 110, 102, 105, 103])).toList)) (fun _ => Yl.pure (by kernel_rfl)) fun a HF => ?_
      replace HF := HF.sp 91 (.bool true) rfl (congrArg Value.bool ((nm_eq (k := 2) (by omega) (by omega)).trans (decide_eq_true (show i = 2 from by omega))))
      refine ap HF (fun _ => HS) [5, 6] (bf 30 [0, 1, 2, 3, 4, 5, 6, 9, 10, 18, 19]) [(93, vI X.length), (92, .bool true)] fun a HF => ?_
      refine qh HF (fun _ => HS) (i := 7) rfl rfl (d := 94) rfl (by decide) (by kernel_rfl) (fun _ _ _ h => h) (v := .bool ((X.length : Int) == (0 : Int))) (fun _ => Yl.pure (by kernel_rfl)) fun a HF => ?_
      replace HF := HF.sp 94 (.bool false) rfl (by rw [beq_eq_false_iff_ne.2 (by omega)])
      refine ap HF (fun _ => HS) [8] (bf 30 [0, 1, 2, 3, 4, 5, 6, 7, 8, 9, 10, 18, 19]) [(95, .bool false)] fun a HF => ?_
      refine s_az HF HS 11 rfl (v := vP g48 (i * 1)) (Yl.ix0 g48 i 1 rfl rfl rfl) fun a HF => ?_
      refine s_az HF HS 12 rfl (v := .string (nmR i)) (Yl.r1 2 i [] (show i < nameL.length from by have : nameL.length = 9 := rfl; omega) rfl rfl rfl) fun a HF => ?_
      refine qh HF (fun _ => HS) (i := 13) rfl rfl (d := 100) rfl (by decide) (by kernel_rfl) (fun _ _ _ h => h) (v := .bool (((nmR i)).toList == ((ByteArray.mk #[99, 111, 110, 102, 105, 103])).toList)) (fun _ => Yl.pure (by kernel_rfl)) fun a HF => ?_
      replace HF := HF.sp 100 (.bool true) rfl (congrArg Value.bool ((nm_eq (k := 2) (by omega) (by omega)).trans (decide_eq_true (show i = 2 from by omega))))
      refine ap HF (fun _ => HS) [14, 15] (bt 30 [16, 17, 20, 21, 22, 23, 24, 25, 26, 27, 28, 29]) [(102, vI X.length), (101, .bool true)] fun a HF => ?_
      refine qh HF (fun _ => HS) (i := 16) rfl rfl (d := 103) rfl (by decide) (by kernel_rfl) (fun _ _ _ h => h) (v := .bool ((X.length : Int) == (2 : Int))) (fun _ => Yl.pure (by kernel_rfl)) fun a HF => ?_
      replace HF := HF.sp 103 (.bool true) rfl (by rw [hk]; rfl)
      refine ap HF (fun _ => HS) [17] (bt 30 [20, 21, 22, 23, 24, 25, 26, 27, 28, 29]) [(104, .bool true)] fun a HF => ?_
      refine s_az HF HS 20 rfl (v := vP g48 (i * 1)) (Yl.ix0 g48 i 1 rfl rfl rfl) fun a HF => ?_
      refine s_az HF HS 21 rfl (v := .string (nmR i)) (Yl.r1 2 i [] (show i < nameL.length from by have : nameL.length = 9 := rfl; omega) rfl rfl rfl) fun a HF => ?_
      refine qh HF (fun _ => HS) (i := 22) rfl rfl (d := 109) rfl (by decide) (by kernel_rfl) (fun _ _ _ h => h) (v := .bool (((nmR i)).toList == ((ByteArray.mk #[116, 97, 115, 107, 115])).toList)) (fun _ => Yl.pure (by kernel_rfl)) fun a HF => ?_
      replace HF := HF.sp 109 (.bool false) rfl (congrArg Value.bool ((nm_eq (k := 6) (by omega) (by omega)).trans (decide_eq_false (show ¬ i = 6 from by omega))))
      refine ap HF (fun _ => HS) [23, 24, 25, 26, 27, 28, 29] (bt 30 []) [(19, .bool false), (18, .bool true), (17, .bool false)] fun a HF => ?_
      refine qk (by kernel_rfl) ?_
      replace HF := HF.to [(19, .bool false), (18, .bool true), (17, .bool false), (7, vI (p1 + n : Nat)), (83, .slice A83 ((X ++ [x]).length) c83), (11, .slice A83 ((X ++ [x]).length) c83), (79, .bool false), (16, vI 0), (15, vI n), (14, vQ x), (66, .bool true), (13, vI X.length), (12, vI (needN i (Q.map Nw.l) X)), (50, .bool true), (10, vI i), (9, vS g48 9 9), (8, vI (l.length - 4 : Nat)), (6, .slice Ae E.length ce), (5, .slice Aq Q.length cq), (42, .bool false), (38, .bool false), (28, .bool false), (25, .bool false), (22, .bool false), (4, vI 0), (3, .slice none 0 0), (2, .slice none 0 0), (0, .slice (some ⟨gA, oA, none⟩) l.length c)]
      refine wp_seq (s_fs1 ?_)
      refine fp HF 15 0 [(128, .bool (decide ((x : Int) < (1 : Int)))), (125, .bool true), (123, .bool false)] fun a HF => ?_
      rcases HF.tf 128 rfl with ⟨hb128, HF⟩ | ⟨hb128, HF⟩
      ·
       have hd128 := of_decide_eq_true hb128
       refine fp HF 12 15 [(140, .bool true)] fun a HF => ?_
       refine s_d0 (s_ct HF (s_fs1 ?_))
       refine fp HF 3 0 [(4, vI 345), (3, .slice none 0 0), (2, .slice none 0 0)] fun a HF => ?_
       refine s_d0 (wp_ret ?_)
       exact s_rt3 rfl HF rfl rfl rfl (zp _ (hop.trans (qd5 hR hX hcX hlt (.of hv) (fun h => by have := (qam hcX (fun h => qan h hlt)).1 h; omega))) rfl rfl HM.below)
      have hd128 := of_decide_eq_false hb128
      refine fp HF 6 15 [(134, .bool (decide ((x : Int) > (256 : Int))))] fun a HF => ?_
      rcases HF.tf 134 rfl with ⟨hb134, HF⟩ | ⟨hb134, HF⟩
      ·
       have hd134 := of_decide_eq_true hb134
       refine fp HF 6 21 [(140, .bool true)] fun a HF => ?_
       refine s_d0 (s_ct HF (s_fs1 ?_))
       refine fp HF 3 0 [(4, vI 345), (3, .slice none 0 0), (2, .slice none 0 0)] fun a HF => ?_
       refine s_d0 (wp_ret ?_)
       exact s_rt3 rfl HF rfl rfl rfl (zp _ (hop.trans (qd5 hR hX hcX hlt (.of hv) (fun h => by have := (qam hcX (fun h => qan h hlt)).1 h; omega))) rfl rfl HM.below)
      have hd134 := of_decide_eq_false hb134
      refine fp HF 6 21 [(140, .bool false)] fun a HF => ?_
      refine s_d0 (s_cf HF (wp_skip (wp_seq ?_)))
      skip
      ·
       have hcs := qam (x := x) hcX (fun h => qan h hlt)
       have hc2 : chkN i (X ++ [x]) := hcs.2 (by omega)
       refine qa ?_
       refine fp HF 1 0 [(141, .bool false)] fun a HF => ?_
       refine s_d0 (s_cf HF (wp_skip (qa ?_)))
       refine fp HF 2 0 [(68, vI (IntKind.i64.wrap ((X.length : Int) + 1)))] fun a HF => ?_
       replace HF := HF.sp 68 (vI (X.length + 1 : Nat)) rfl (qc (by omega) (by omega))
       refine fp HF 1 2 [(13, vI (X.length + 1 : Nat))] fun a HF => ?_
       refine s_d0 ?_
       replace HF := HF.sp 12 (vI (needN i (Q.map Nw.l) (X ++ [x]))) rfl (by rw [qcq (by omega)])
       replace HF := HF.sp 13 (vI ((X ++ [x]).length)) rfl (by rw [List.length_append]; rfl)
       exact ⟨_, (by omega), (X ++ [x]), A83, c83, p1 + n, by rw [List.length_append]; exact hX.snoc (.of hv), hc2, qbv hlt, hin.2, hc83, rfl, HF.sub (by kernel_rfl), HM.pt 5 [1, 2, 3, 4]⟩
     ·
      refine wp_seq ?_
      refine zf HM (.blk g82 #[vQ x] 22 :: .row (.slice A83 ((X ++ [x]).length) c83) ((X ++ [x]).length) ((X ++ [x]).map U64) 22 1 :: .row (vS g48 9 9) 9 (nameL.map StrC) 9 1 :: .row (.slice Ae E.length ce) E.length (E.map I64v) 3 1 :: .row (.slice Aq Q.length cq) Q.length (Q.map Nw.val) 58 1 :: nwF 22 Q) 5 [0, 1, 2, 3, 4] [] fun HM HS => ?_
      refine ap HF (fun _ => HS) [0, 1, 9, 10, 18, 19] (bf 30 [0, 1, 9, 10, 18, 19]) [(106, vI i), (105, vS g48 9 9), (97, vI i), (96, vS g48 9 9), (88, vI i), (87, vS g48 9 9)] fun a HF => ?_
      refine s_az HF HS 2 rfl (v := vP g48 (i * 1)) (Yl.ix0 g48 i 1 rfl rfl rfl) fun a HF => ?_
      refine s_az HF HS 3 rfl (v := .string (nmR i)) (Yl.r1 2 i [] (show i < nameL.length from by have : nameL.length = 9 := rfl; omega) rfl rfl rfl) fun a HF => ?_
      refine qh HF (fun _ => HS) (i := 4) rfl rfl (d := 91) rfl (by decide) (by kernel_rfl) (fun _ _ _ h => h) (v := .bool (((nmR i)).toList == ((ByteArray.mk #[99, 111, 110, 102, 105, 103])).toList)) (fun _ => Yl.pure (by kernel_rfl)) fun a HF => ?_
      replace HF := HF.sp 91 (.bool true) rfl (congrArg Value.bool ((nm_eq (k := 2) (by omega) (by omega)).trans (decide_eq_true (show i = 2 from by omega))))
      refine ap HF (fun _ => HS) [5, 6] (bf 30 [0, 1, 2, 3, 4, 5, 6, 9, 10, 18, 19]) [(93, vI X.length), (92, .bool true)] fun a HF => ?_
      refine qh HF (fun _ => HS) (i := 7) rfl rfl (d := 94) rfl (by decide) (by kernel_rfl) (fun _ _ _ h => h) (v := .bool ((X.length : Int) == (0 : Int))) (fun _ => Yl.pure (by kernel_rfl)) fun a HF => ?_
      replace HF := HF.sp 94 (.bool false) rfl (by rw [beq_eq_false_iff_ne.2 (by omega)])
      refine ap HF (fun _ => HS) [8] (bf 30 [0, 1, 2, 3, 4, 5, 6, 7, 8, 9, 10, 18, 19]) [(95, .bool false)] fun a HF => ?_
      refine s_az HF HS 11 rfl (v := vP g48 (i * 1)) (Yl.ix0 g48 i 1 rfl rfl rfl) fun a HF => ?_
      refine s_az HF HS 12 rfl (v := .string (nmR i)) (Yl.r1 2 i [] (show i < nameL.length from by have : nameL.length = 9 := rfl; omega) rfl rfl rfl) fun a HF => ?_
      refine qh HF (fun _ => HS) (i := 13) rfl rfl (d := 100) rfl (by decide) (by kernel_rfl) (fun _ _ _ h => h) (v := .bool (((nmR i)).toList == ((ByteArray.mk #[99, 111, 110, 102, 105, 103])).toList)) (fun _ => Yl.pure (by kernel_rfl)) fun a HF => ?_
      replace HF := HF.sp 100 (.bool true) rfl (congrArg Value.bool ((nm_eq (k := 2) (by omega) (by omega)).trans (decide_eq_true (show i = 2 from by omega))))
      refine ap HF (fun _ => HS) [14, 15] (bt 30 [16, 17, 20, 21, 22, 23, 24, 25, 26, 27, 28, 29]) [(102, vI X.length), (101, .bool true)] fun a HF => ?_
      refine qh HF (fun _ => HS) (i := 16) rfl rfl (d := 103) rfl (by decide) (by kernel_rfl) (fun _ _ _ h => h) (v := .bool ((X.length : Int) == (2 : Int))) (fun _ => Yl.pure (by kernel_rfl)) fun a HF => ?_
      replace HF := HF.sp 103 (.bool false) rfl (by rw [beq_eq_false_iff_ne.2 (by omega)])
      refine ap HF (fun _ => HS) [17] (bt 30 [20, 21, 22, 23, 24, 25, 26, 27, 28, 29]) [(104, .bool false)] fun a HF => ?_
      refine s_az HF HS 20 rfl (v := vP g48 (i * 1)) (Yl.ix0 g48 i 1 rfl rfl rfl) fun a HF => ?_
      refine s_az HF HS 21 rfl (v := .string (nmR i)) (Yl.r1 2 i [] (show i < nameL.length from by have : nameL.length = 9 := rfl; omega) rfl rfl rfl) fun a HF => ?_
      refine qh HF (fun _ => HS) (i := 22) rfl rfl (d := 109) rfl (by decide) (by kernel_rfl) (fun _ _ _ h => h) (v := .bool (((nmR i)).toList == ((ByteArray.mk #[116, 97, 115, 107, 115])).toList)) (fun _ => Yl.pure (by kernel_rfl)) fun a HF => ?_
      replace HF := HF.sp 109 (.bool false) rfl (congrArg Value.bool ((nm_eq (k := 6) (by omega) (by omega)).trans (decide_eq_false (show ¬ i = 6 from by omega))))
      refine ap HF (fun _ => HS) [23, 24, 25, 26, 27, 28, 29] (bt 30 []) [(19, .bool false), (18, .bool false), (17, .bool false)] fun a HF => ?_
      refine qk (by kernel_rfl) ?_
      replace HF := HF.to [(19, .bool false), (18, .bool false), (17, .bool false), (7, vI (p1 + n : Nat)), (83, .slice A83 ((X ++ [x]).length) c83), (11, .slice A83 ((X ++ [x]).length) c83), (79, .bool false), (16, vI 0), (15, vI n), (14, vQ x), (66, .bool true), (13, vI X.length), (12, vI (needN i (Q.map Nw.l) X)), (50, .bool true), (10, vI i), (9, vS g48 9 9), (8, vI (l.length - 4 : Nat)), (6, .slice Ae E.length ce), (5, .slice Aq Q.length cq), (42, .bool false), (38, .bool false), (28, .bool false), (25, .bool false), (22, .bool false), (4, vI 0), (3, .slice none 0 0), (2, .slice none 0 0), (0, .slice (some ⟨gA, oA, none⟩) l.length c)]
      refine wp_seq (s_fs1 ?_)
      refine fp HF 27 0 [(140, .bool false)] fun a HF => ?_
      refine s_d0 (s_cf HF (wp_skip (wp_seq ?_)))
      skip
      ·
       have hcs := qam (x := x) hcX (fun h => qan h hlt)
       have hc2 : chkN i (X ++ [x]) := hcs.2 (by omega)
       refine qa ?_
       refine fp HF 1 0 [(141, .bool false)] fun a HF => ?_
       refine s_d0 (s_cf HF (wp_skip (qa ?_)))
       refine fp HF 2 0 [(68, vI (IntKind.i64.wrap ((X.length : Int) + 1)))] fun a HF => ?_
       replace HF := HF.sp 68 (vI (X.length + 1 : Nat)) rfl (qc (by omega) (by omega))
       refine fp HF 1 2 [(13, vI (X.length + 1 : Nat))] fun a HF => ?_
       refine s_d0 ?_
       replace HF := HF.sp 12 (vI (needN i (Q.map Nw.l) (X ++ [x]))) rfl (by rw [qcq (by omega)])
       replace HF := HF.sp 13 (vI ((X ++ [x]).length)) rfl (by rw [List.length_append]; rfl)
       exact ⟨_, (by omega), (X ++ [x]), A83, c83, p1 + n, by rw [List.length_append]; exact hX.snoc (.of hv), hc2, qbv hlt, hin.2, hc83, rfl, HF.sub (by kernel_rfl), HM.pt 5 [1, 2, 3, 4]⟩
     ·
      refine wp_seq ?_
      refine zf HM (.blk g82 #[vQ x] 22 :: .row (.slice A83 ((X ++ [x]).length) c83) ((X ++ [x]).length) ((X ++ [x]).map U64) 22 1 :: .row (vS g48 9 9) 9 (nameL.map StrC) 9 1 :: .row (.slice Ae E.length ce) E.length (E.map I64v) 3 1 :: .row (.slice Aq Q.length cq) Q.length (Q.map Nw.val) 58 1 :: nwF 22 Q) 5 [0, 1, 2, 3, 4] [] fun HM HS => ?_
      refine ap HF (fun _ => HS) [0, 1, 9, 10, 18, 19] (bf 30 [0, 1, 9, 10, 18, 19]) [(106, vI i), (105, vS g48 9 9), (97, vI i), (96, vS g48 9 9), (88, vI i), (87, vS g48 9 9)] fun a HF => ?_
      refine s_az HF HS 2 rfl (v := vP g48 (i * 1)) (Yl.ix0 g48 i 1 rfl rfl rfl) fun a HF => ?_
      refine s_az HF HS 3 rfl (v := .string (nmR i)) (Yl.r1 2 i [] (show i < nameL.length from by have : nameL.length = 9 := rfl; omega) rfl rfl rfl) fun a HF => ?_
      refine qh HF (fun _ => HS) (i := 4) rfl rfl (d := 91) rfl (by decide) (by kernel_rfl) (fun _ _ _ h => h) (v := .bool (((nmR i)).toList == ((ByteArray.mk #[99, 111, 110, 102, 105, 103])).toList)) (fun _ => Yl.pure (by kernel_rfl)) fun a HF => ?_
      replace HF := HF.sp 91 (.bool false) rfl (congrArg Value.bool ((nm_eq (k := 2) (by omega) (by omega)).trans (decide_eq_false (show ¬ i = 2 from by omega))))
      refine ap HF (fun _ => HS) [5, 6, 7, 8] (bf 30 [0, 1, 2, 3, 4, 5, 6, 7, 8, 9, 10, 18, 19]) [(95, .bool false)] fun a HF => ?_
      refine s_az HF HS 11 rfl (v := vP g48 (i * 1)) (Yl.ix0 g48 i 1 rfl rfl rfl) fun a HF => ?_
      refine s_az HF HS 12 rfl (v := .string (nmR i)) (Yl.r1 2 i [] (show i < nameL.length from by have : nameL.length = 9 := rfl; omega) rfl rfl rfl) fun a HF => ?_
      refine qh HF (fun _ => HS) (i := 13) rfl rfl (d := 100) rfl (by decide) (by kernel_rfl) (fun _ _ _ h => h) (v := .bool (((nmR i)).toList == ((ByteArray.mk #[99, 111, 110, 102, 105, 103])).toList)) (fun _ => Yl.pure (by kernel_rfl)) fun a HF => ?_
      replace HF := HF.sp 100 (.bool false) rfl (congrArg Value.bool ((nm_eq (k := 2) (by omega) (by omega)).trans (decide_eq_false (show ¬ i = 2 from by omega))))
      refine ap HF (fun _ => HS) [14, 15, 16, 17] (bt 30 [20, 21, 22, 23, 24, 25, 26, 27, 28, 29]) [(104, .bool false)] fun a HF => ?_
      refine s_az HF HS 20 rfl (v := vP g48 (i * 1)) (Yl.ix0 g48 i 1 rfl rfl rfl) fun a HF => ?_
      refine s_az HF HS 21 rfl (v := .string (nmR i)) (Yl.r1 2 i [] (show i < nameL.length from by have : nameL.length = 9 := rfl; omega) rfl rfl rfl) fun a HF => ?_
      refine qh HF (fun _ => HS) (i := 22) rfl rfl (d := 109) rfl (by decide) (by kernel_rfl) (fun _ _ _ h => h) (v := .bool (((nmR i)).toList == ((ByteArray.mk #[116, 97, 115, 107, 115])).toList)) (fun _ => Yl.pure (by kernel_rfl)) fun a HF => ?_
      replace HF := HF.sp 109 (.bool true) rfl (congrArg Value.bool ((nm_eq (k := 6) (by omega) (by omega)).trans (decide_eq_true (show i = 6 from by omega))))
      refine ap HF (fun _ => HS) [23, 24, 27, 28] (bt 30 [25, 26, 29]) [(18, .bool false), (17, .bool false), (111, vI X.length), (110, .bool true)] fun a HF => ?_
      refine qh HF (fun _ => HS) (i := 25) rfl rfl (d := 112) rfl (by decide) (by kernel_rfl) (fun _ _ _ h => h) (v := .bool ((X.length : Int) == (0 : Int))) (fun _ => Yl.pure (by kernel_rfl)) fun a HF => ?_
      replace HF := HF.sp 112 (.bool true) rfl (by rw [hk]; rfl)
      refine ap HF (fun _ => HS) [26, 29] (bt 30 []) [(19, .bool true)] fun a HF => ?_
      refine qk (by kernel_rfl) ?_
      refine wp_seq (s_fs1 ?_)
      refine fp HF 27 0 [(140, .bool (decide ((x : Int) > (65535 : Int))))] fun a HF => ?_
      refine s_d0 ?_
      rcases HF.tf 140 rfl with ⟨hb140, HF⟩ | ⟨hb140, HF⟩
      ·
       have hd140 := of_decide_eq_true hb140
       refine s_ct HF (s_fs1 ?_)
       refine fp HF 3 0 [(4, vI 345), (3, .slice none 0 0), (2, .slice none 0 0)] fun a HF => ?_
       refine s_d0 ?_
       replace HF := HF.to [(4, vI 345), (3, .slice none 0 0), (2, .slice none 0 0), (140, .bool true), (19, .bool true), (18, .bool false), (17, .bool false), (7, vI (p1 + n : Nat)), (83, .slice A83 ((X ++ [x]).length) c83), (11, .slice A83 ((X ++ [x]).length) c83), (79, .bool false), (16, vI 0), (15, vI n), (14, vQ x), (66, .bool true), (13, vI X.length), (12, vI (needN i (Q.map Nw.l) X)), (50, .bool true), (10, vI i), (9, vS g48 9 9), (8, vI (l.length - 4 : Nat)), (6, .slice Ae E.length ce), (5, .slice Aq Q.length cq), (42, .bool false), (38, .bool false), (28, .bool false), (25, .bool false), (22, .bool false), (0, .slice (some ⟨gA, oA, none⟩) l.length c)]
       refine wp_ret ?_
       exact s_rt3 rfl HF rfl rfl rfl (zp _ (hop.trans (qd5 hR hX hcX hlt (.of hv) (fun h => by have := (qam hcX (fun h => qan h hlt)).1 h; omega))) rfl rfl HM.below)
      have hd140 := of_decide_eq_false hb140
      refine s_cf HF (wp_skip (wp_seq ?_))
      skip
      ·
       have hcs := qam (x := x) hcX (fun h => qan h hlt)
       have hc2 : chkN i (X ++ [x]) := hcs.2 (by omega)
       refine qa ?_
       refine fp HF 1 0 [(141, .bool true)] fun a HF => ?_
       refine s_d0 ?_
       replace HF := HF.to [(141, .bool true), (140, .bool false), (19, .bool true), (18, .bool false), (17, .bool false), (7, vI (p1 + n : Nat)), (83, .slice A83 ((X ++ [x]).length) c83), (11, .slice A83 ((X ++ [x]).length) c83), (79, .bool false), (16, vI 0), (15, vI n), (14, vQ x), (66, .bool true), (13, vI X.length), (12, vI (needN i (Q.map Nw.l) X)), (50, .bool true), (10, vI i), (9, vS g48 9 9), (8, vI (l.length - 4 : Nat)), (6, .slice Ae E.length ce), (5, .slice Aq Q.length cq), (42, .bool false), (38, .bool false), (28, .bool false), (25, .bool false), (22, .bool false), (4, vI 0), (3, .slice none 0 0), (2, .slice none 0 0), (0, .slice (some ⟨gA, oA, none⟩) l.length c)]
       refine s_ct HF (qa ?_)
       refine fp HF 2 0 [(143, vI (IntKind.i64.wrap (x : Int)))] fun a HF => ?_
       replace HF := HF.sp 143 (vI x) rfl (qc rfl (by omega))
       refine fp HF 1 2 [(144, vI (IntKind.i64.wrap (8 * (x : Int))))] fun a HF => ?_
       replace HF := HF.sp 144 (vI (8 * x : Nat)) rfl (qc (by omega) (by omega))
       refine fp HF 1 3 [(145, vI (IntKind.i64.wrap (1 + ((8 * x : Nat) : Int))))] fun a HF => ?_
       replace HF := HF.sp 145 (vI (1 + (8 * x) : Nat)) rfl (qc (by omega) (by omega))
       refine fp HF 1 4 [(12, vI (1 + (8 * x) : Nat))] fun a HF => ?_
       refine s_d0 (qa ?_)
       refine fp HF 2 0 [(68, vI (IntKind.i64.wrap ((X.length : Int) + 1)))] fun a HF => ?_
       replace HF := HF.sp 68 (vI (X.length + 1 : Nat)) rfl (qc (by omega) (by omega))
       refine fp HF 1 2 [(13, vI (X.length + 1 : Nat))] fun a HF => ?_
       refine s_d0 ?_
       replace HF := HF.sp 12 (vI (needN i (Q.map Nw.l) (X ++ [x]))) rfl (by rw [qpe hi6 hk])
       replace HF := HF.sp 13 (vI ((X ++ [x]).length)) rfl (by rw [List.length_append]; rfl)
       exact ⟨_, (by omega), (X ++ [x]), A83, c83, p1 + n, by rw [List.length_append]; exact hX.snoc (.of hv), hc2, qbv hlt, hin.2, hc83, rfl, HF.sub (by kernel_rfl), HM.pt 5 [1, 2, 3, 4]⟩
     ·
      refine wp_seq ?_
      refine zf HM (.blk g82 #[vQ x] 22 :: .row (.slice A83 ((X ++ [x]).length) c83) ((X ++ [x]).length) ((X ++ [x]).map U64) 22 1 :: .row (vS g48 9 9) 9 (nameL.map StrC) 9 1 :: .row (.slice Ae E.length ce) E.length (E.map I64v) 3 1 :: .row (.slice Aq Q.length cq) Q.length (Q.map Nw.val) 58 1 :: nwF 22 Q) 5 [0, 1, 2, 3, 4] [] fun HM HS => ?_
      refine ap HF (fun _ => HS) [0, 1, 9, 10, 18, 19] (bf 30 [0, 1, 9, 10, 18, 19]) [(106, vI i), (105, vS g48 9 9), (97, vI i), (96, vS g48 9 9), (88, vI i), (87, vS g48 9 9)] fun a HF => ?_
      refine s_az HF HS 2 rfl (v := vP g48 (i * 1)) (Yl.ix0 g48 i 1 rfl rfl rfl) fun a HF => ?_
      refine s_az HF HS 3 rfl (v := .string (nmR i)) (Yl.r1 2 i [] (show i < nameL.length from by have : nameL.length = 9 := rfl; omega) rfl rfl rfl) fun a HF => ?_
      refine qh HF (fun _ => HS) (i := 4) rfl rfl (d := 91) rfl (by decide) (by kernel_rfl) (fun _ _ _ h => h) (v := .bool (((nmR i)).toList == ((ByteArray.mk #[99, 111, 110, 102, 105, 103])).toList)) (fun _ => Yl.pure (by kernel_rfl)) fun a HF => ?_
      replace HF := HF.sp 91 (.bool false) rfl (congrArg Value.bool ((nm_eq (k := 2) (by omega) (by omega)).trans (decide_eq_false (show ¬ i = 2 from by omega))))
      refine ap HF (fun _ => HS) [5, 6, 7, 8] (bf 30 [0, 1, 2, 3, 4, 5, 6, 7, 8, 9, 10, 18, 19]) [(95, .bool false)] fun a HF => ?_
      refine s_az HF HS 11 rfl (v := vP g48 (i * 1)) (Yl.ix0 g48 i 1 rfl rfl rfl) fun a HF => ?_
      refine s_az HF HS 12 rfl (v := .string (nmR i)) (Yl.r1 2 i [] (show i < nameL.length from by have : nameL.length = 9 := rfl; omega) rfl rfl rfl) fun a HF => ?_
      refine qh HF (fun _ => HS) (i := 13) rfl rfl (d := 100) rfl (by decide) (by kernel_rfl) (fun _ _ _ h => h) (v := .bool (((nmR i)).toList == ((ByteArray.mk #[99, 111, 110, 102, 105, 103])).toList)) (fun _ => Yl.pure (by kernel_rfl)) fun a HF => ?_
      replace HF := HF.sp 100 (.bool false) rfl (congrArg Value.bool ((nm_eq (k := 2) (by omega) (by omega)).trans (decide_eq_false (show ¬ i = 2 from by omega))))
      refine ap HF (fun _ => HS) [14, 15, 16, 17] (bt 30 [20, 21, 22, 23, 24, 25, 26, 27, 28, 29]) [(104, .bool false)] fun a HF => ?_
      refine s_az HF HS 20 rfl (v := vP g48 (i * 1)) (Yl.ix0 g48 i 1 rfl rfl rfl) fun a HF => ?_
      refine s_az HF HS 21 rfl (v := .string (nmR i)) (Yl.r1 2 i [] (show i < nameL.length from by have : nameL.length = 9 := rfl; omega) rfl rfl rfl) fun a HF => ?_
      refine qh HF (fun _ => HS) (i := 22) rfl rfl (d := 109) rfl (by decide) (by kernel_rfl) (fun _ _ _ h => h) (v := .bool (((nmR i)).toList == ((ByteArray.mk #[116, 97, 115, 107, 115])).toList)) (fun _ => Yl.pure (by kernel_rfl)) fun a HF => ?_
      replace HF := HF.sp 109 (.bool true) rfl (congrArg Value.bool ((nm_eq (k := 6) (by omega) (by omega)).trans (decide_eq_true (show i = 6 from by omega))))
      refine ap HF (fun _ => HS) [23, 24, 27, 28] (bt 30 [25, 26, 29]) [(18, .bool false), (17, .bool false), (111, vI X.length), (110, .bool true)] fun a HF => ?_
      refine qh HF (fun _ => HS) (i := 25) rfl rfl (d := 112) rfl (by decide) (by kernel_rfl) (fun _ _ _ h => h) (v := .bool ((X.length : Int) == (0 : Int))) (fun _ => Yl.pure (by kernel_rfl)) fun a HF => ?_
      replace HF := HF.sp 112 (.bool false) rfl (by rw [beq_eq_false_iff_ne.2 (by omega)])
      refine ap HF (fun _ => HS) [26, 29] (bt 30 []) [(19, .bool false)] fun a HF => ?_
      refine qk (by kernel_rfl) ?_
      refine wp_seq (s_fs1 ?_)
      refine fp HF 27 0 [(140, .bool false)] fun a HF => ?_
      refine s_d0 (s_cf HF (wp_skip (wp_seq ?_)))
      skip
      ·
       have hcs := qam (x := x) hcX (fun h => qan h hlt)
       have hc2 : chkN i (X ++ [x]) := hcs.2 (by omega)
       refine qa ?_
       refine fp HF 1 0 [(141, .bool false)] fun a HF => ?_
       refine s_d0 (s_cf HF (wp_skip (qa ?_)))
       refine fp HF 2 0 [(68, vI (IntKind.i64.wrap ((X.length : Int) + 1)))] fun a HF => ?_
       replace HF := HF.sp 68 (vI (X.length + 1 : Nat)) rfl (qc (by omega) (by omega))
       refine fp HF 1 2 [(13, vI (X.length + 1 : Nat))] fun a HF => ?_
       refine s_d0 ?_
       replace HF := HF.to [(13, vI (X.length + 1 : Nat)), (141, .bool false), (140, .bool false), (19, .bool false), (18, .bool false), (17, .bool false), (7, vI (p1 + n : Nat)), (83, .slice A83 ((X ++ [x]).length) c83), (11, .slice A83 ((X ++ [x]).length) c83), (79, .bool false), (16, vI 0), (15, vI n), (14, vQ x), (66, .bool true), (12, vI (needN i (Q.map Nw.l) X)), (50, .bool true), (10, vI i), (9, vS g48 9 9), (8, vI (l.length - 4 : Nat)), (6, .slice Ae E.length ce), (5, .slice Aq Q.length cq), (42, .bool false), (38, .bool false), (28, .bool false), (25, .bool false), (22, .bool false), (4, vI 0), (3, .slice none 0 0), (2, .slice none 0 0), (0, .slice (some ⟨gA, oA, none⟩) l.length c)]
       replace HF := HF.sp 12 (vI (needN i (Q.map Nw.l) (X ++ [x]))) rfl (by rw [qcq (by omega)])
       replace HF := HF.sp 13 (vI ((X ++ [x]).length)) rfl (by rw [List.length_append]; rfl)
       exact ⟨_, (by omega), (X ++ [x]), A83, c83, p1 + n, by rw [List.length_append]; exact hX.snoc (.of hv), hc2, qbv hlt, hin.2, hc83, rfl, HF.sub (by kernel_rfl), HM.pt 5 [1, 2, 3, 4]⟩
     ·
      refine wp_seq ?_
      refine zf HM (.blk g82 #[vQ x] 22 :: .row (.slice A83 ((X ++ [x]).length) c83) ((X ++ [x]).length) ((X ++ [x]).map U64) 22 1 :: .row (vS g48 9 9) 9 (nameL.map StrC) 9 1 :: .row (.slice Ae E.length ce) E.length (E.map I64v) 3 1 :: .row (.slice Aq Q.length cq) Q.length (Q.map Nw.val) 58 1 :: nwF 22 Q) 5 [0, 1, 2, 3, 4] [] fun HM HS => ?_
      refine ap HF (fun _ => HS) [0, 1, 9, 10, 18, 19] (bf 30 [0, 1, 9, 10, 18, 19]) [(106, vI i), (105, vS g48 9 9), (97, vI i), (96, vS g48 9 9), (88, vI i), (87, vS g48 9 9)] fun a HF => ?_
      refine s_az HF HS 2 rfl (v := vP g48 (i * 1)) (Yl.ix0 g48 i 1 rfl rfl rfl) fun a HF => ?_
      refine s_az HF HS 3 rfl (v := .string (nmR i)) (Yl.r1 2 i [] (show i < nameL.length from by have : nameL.length = 9 := rfl; omega) rfl rfl rfl) fun a HF => ?_
      refine qh HF (fun _ => HS) (i := 4) rfl rfl (d := 91) rfl (by decide) (by kernel_rfl) (fun _ _ _ h => h) (v := .bool (((nmR i)).toList == ((ByteArray.mk #[99, 111, 110, 102, 105, 103])).toList)) (fun _ => Yl.pure (by kernel_rfl)) fun a HF => ?_
      replace HF := HF.sp 91 (.bool false) rfl (congrArg Value.bool ((nm_eq (k := 2) (by omega) (by omega)).trans (decide_eq_false (show ¬ i = 2 from by omega))))
      refine ap HF (fun _ => HS) [5, 6, 7, 8] (bf 30 [0, 1, 2, 3, 4, 5, 6, 7, 8, 9, 10, 18, 19]) [(95, .bool false)] fun a HF => ?_
      refine s_az HF HS 11 rfl (v := vP g48 (i * 1)) (Yl.ix0 g48 i 1 rfl rfl rfl) fun a HF => ?_
      refine s_az HF HS 12 rfl (v := .string (nmR i)) (Yl.r1 2 i [] (show i < nameL.length from by have : nameL.length = 9 := rfl; omega) rfl rfl rfl) fun a HF => ?_
      refine qh HF (fun _ => HS) (i := 13) rfl rfl (d := 100) rfl (by decide) (by kernel_rfl) (fun _ _ _ h => h) (v := .bool (((nmR i)).toList == ((ByteArray.mk #[99, 111, 110, 102, 105, 103])).toList)) (fun _ => Yl.pure (by kernel_rfl)) fun a HF => ?_
      replace HF := HF.sp 100 (.bool false) rfl (congrArg Value.bool ((nm_eq (k := 2) (by omega) (by omega)).trans (decide_eq_false (show ¬ i = 2 from by omega))))
      refine ap HF (fun _ => HS) [14, 15, 16, 17] (bt 30 [20, 21, 22, 23, 24, 25, 26, 27, 28, 29]) [(104, .bool false)] fun a HF => ?_
      refine s_az HF HS 20 rfl (v := vP g48 (i * 1)) (Yl.ix0 g48 i 1 rfl rfl rfl) fun a HF => ?_
      refine s_az HF HS 21 rfl (v := .string (nmR i)) (Yl.r1 2 i [] (show i < nameL.length from by have : nameL.length = 9 := rfl; omega) rfl rfl rfl) fun a HF => ?_
      refine qh HF (fun _ => HS) (i := 22) rfl rfl (d := 109) rfl (by decide) (by kernel_rfl) (fun _ _ _ h => h) (v := .bool (((nmR i)).toList == ((ByteArray.mk #[116, 97, 115, 107, 115])).toList)) (fun _ => Yl.pure (by kernel_rfl)) fun a HF => ?_
      replace HF := HF.sp 109 (.bool false) rfl (congrArg Value.bool ((nm_eq (k := 6) (by omega) (by omega)).trans (decide_eq_false (show ¬ i = 6 from by omega))))
      refine ap HF (fun _ => HS) [23, 24, 25, 26, 27, 28, 29] (bt 30 []) [(19, .bool false), (18, .bool false), (17, .bool false)] fun a HF => ?_
      refine qk (by kernel_rfl) ?_
      refine wp_seq (s_fs1 ?_)
      refine fp HF 27 0 [(140, .bool false)] fun a HF => ?_
      refine s_d0 (s_cf HF (wp_skip (wp_seq ?_)))
      skip
      ·
       have hcs := qam (x := x) hcX (fun h => qan h hlt)
       have hc2 : chkN i (X ++ [x]) := hcs.2 (by omega)
       refine qa ?_
       refine fp HF 1 0 [(141, .bool false)] fun a HF => ?_
       refine s_d0 (s_cf HF (wp_skip (qa ?_)))
       refine fp HF 2 0 [(68, vI (IntKind.i64.wrap ((X.length : Int) + 1)))] fun a HF => ?_
       replace HF := HF.sp 68 (vI (X.length + 1 : Nat)) rfl (qc (by omega) (by omega))
       refine fp HF 1 2 [(13, vI (X.length + 1 : Nat))] fun a HF => ?_
       refine s_d0 ?_
       replace HF := HF.sp 12 (vI (needN i (Q.map Nw.l) (X ++ [x]))) rfl (by rw [qcq (by omega)])
       replace HF := HF.sp 13 (vI ((X ++ [x]).length)) rfl (by rw [List.length_append]; rfl)
       exact ⟨_, (by omega), (X ++ [x]), A83, c83, p1 + n, by rw [List.length_append]; exact hX.snoc (.of hv), hc2, qbv hlt, hin.2, hc83, rfl, HF.sub (by kernel_rfl), HM.pt 5 [1, 2, 3, 4]⟩
   have hd66 := of_decide_eq_false hb66
   refine s_cf HF (wp_exit (s_fs1 ?_))
   refine fp HF 2 0 [(147, .slice Ax X.length cx), (146, .slice Aq Q.length cq)] fun a HF => ?_
   refine fo HF 2 rfl rfl (s_el HF HM ei_nw [(0, .slice Ax X.length cx)] #[.slice Ax X.length cx] ?_)
   clear HF HM; intro a w148 g148 HF HM
   refine fo HF 3 rfl rfl (qo HF HM (i := 4) rfl ei_nw rfl rfl rfl (news := ([(⟨Ax, cx, X⟩ : Nw)].map Nw.val)) (HM.rdBlk (i := 0) (n := 1) (size := 1) rfl rfl) (qxt _) (by omega) (by omega) rfl (by decide) ?_)
   clear HF HM; intro a w149 A149 c149 HF HM hc149
   refine fp HF 1 4 [(5, .slice A149 (Q.length + 1) c149)] fun a HF => ?_
   refine s_d0 ?_
   have hnA149 : Q.length + 1 = (Q ++ [(⟨Ax, cx, X⟩ : Nw)]).length := qs rfl
   replace HM := HM.reRow (i := 4) (ys := (Q ++ [(⟨Ax, cx, X⟩ : Nw)]).map Nw.val) rfl hnA149 (List.map_append.symm)
   rw [hnA149] at hc149
   replace HF := HF.sp 5 (.slice A149 ((Q ++ [(⟨Ax, cx, X⟩ : Nw)]).length) c149) rfl (by rw [hnA149])
   replace HF := HF.sp 149 (.slice A149 ((Q ++ [(⟨Ax, cx, X⟩ : Nw)]).length) c149) rfl (by rw [hnA149])
   replace HM := HM.pt (fs' := (.row (.slice Ax X.length cx) X.length (X.map U64) 22 1 :: .row (vS g48 9 9) 9 (nameL.map StrC) 9 1 :: .row (.slice Ae E.length ce) E.length (E.map I64v) 3 1 :: .row (.slice A149 ((Q ++ [(⟨Ax, cx, X⟩ : Nw)]).length) c149) ((Q ++ [(⟨Ax, cx, X⟩ : Nw)]).length) ((Q ++ [(⟨Ax, cx, X⟩ : Nw)]).map Nw.val) 58 1 :: nwF 22 Q)) 5 [1, 2, 3, 4]
   replace HM := Mem.toNw (A := Ax) (c := cx) (l := X) (fs := [.row (vS g48 9 9) 9 (nameL.map StrC) 9 1, .row (.slice Ae E.length ce) E.length (E.map I64v) 3 1, .row (.slice A149 ((Q ++ [(⟨Ax, cx, X⟩ : Nw)]).length) c149) ((Q ++ [(⟨Ax, cx, X⟩ : Nw)]).length) ((Q ++ [(⟨Ax, cx, X⟩ : Nw)]).map Nw.val) 58 1]) HM
   replace HM : Mem w _ (.row (vS g48 9 9) 9 (nameL.map StrC) 9 1 :: .row (.slice Ae E.length ce) E.length (E.map I64v) 3 1 :: .row (.slice A149 ((Q ++ [(⟨Ax, cx, X⟩ : Nw)]).length) c149) ((Q ++ [(⟨Ax, cx, X⟩ : Nw)]).length) ((Q ++ [(⟨Ax, cx, X⟩ : Nw)]).map Nw.val) 58 1 :: nwF 22 (Q ++ [(⟨Ax, cx, X⟩ : Nw)])) := HM
   refine qa ?_
   refine fp HF 2 0 [(151, vI p1), (150, .slice Ae E.length ce)] fun a HF => ?_
   refine fo HF 2 rfl rfl (s_el HF HM qbf [(0, vI p1)] #[vI p1] ?_)
   clear HF HM; intro a w152 g152 HF HM
   refine fo HF 3 rfl rfl (qo HF HM (i := 2) rfl qbf rfl rfl rfl (news := ([p1].map I64v)) (HM.rdBlk (i := 0) (n := 1) (size := 1) rfl rfl) (qnx _) (by omega) (by omega) rfl (by decide) ?_)
   clear HF HM; intro a w153 A153 c153 HF HM hc153
   refine fp HF 1 4 [(6, .slice A153 (E.length + 1) c153)] fun a HF => ?_
   refine s_d0 ?_
   have hnA153 : E.length + 1 = (E ++ [p1]).length := qs rfl
   replace HM := HM.reRow (i := 2) (ys := (E ++ [p1]).map I64v) rfl hnA153 (List.map_append.symm)
   rw [hnA153] at hc153
   replace HF := HF.sp 6 (.slice A153 ((E ++ [p1]).length) c153) rfl (by rw [hnA153])
   replace HF := HF.sp 153 (.slice A153 ((E ++ [p1]).length) c153) rfl (by rw [hnA153])
   refine qa ?_
   refine fp HF 2 0 [(52, vI (IntKind.i64.wrap ((i : Int) + 1)))] fun a HF => ?_
   replace HF := HF.sp 52 (vI (i + 1 : Nat)) rfl (qc (by omega) (by omega))
   refine fp HF 1 2 [(10, vI (i + 1 : Nat))] fun a HF => ?_
   refine s_d0 ?_
   exact ⟨_, (by omega), i + 1, (Q ++ [(⟨Ax, cx, X⟩ : Nw)]), A149, c149, (E ++ [p1]), A153, c153, p1, by omega, by omega, by rw [List.map_append]; exact qs4 (xs := X) hR (by omega) hX hcX (by omega), hp1, by rw [List.length_append, hql]; rfl, by rw [List.length_append, hel]; rfl, (fun q h => (List.mem_append.1 h).elim (hqc q) (fun h => by rw [List.mem_singleton] at h; subst h; exact hXc)), hc149, hc153, rfl, HF.sub (by kernel_rfl), HM.pt 4 [1, 2, 3]⟩
  have hd50 := of_decide_eq_false hb50
  obtain rfl : i = 8 := by omega
  refine s_cf HF (wp_exit (wp_seq (s_fs1 ?_)))
  refine fp HF 3 0 [(156, .bool (decide ((p0 : Int) < ((l.length - 4 : Nat) : Int))))] fun a HF => ?_
  refine s_d0 ?_
  rcases HF.tf 156 rfl with ⟨hb156, HF⟩ | ⟨hb156, HF⟩
  ·
   have hd156 := of_decide_eq_true hb156
   refine s_ct HF (s_fs1 ?_)
   refine fp HF 3 0 [(4, vI 346), (3, .slice none 0 0), (2, .slice none 0 0)] fun a HF => ?_
   refine s_d0 (wp_ret ?_)
   exact s_rt3 rfl HF rfl rfl rfl (zp _ (hop.trans (qv5 hR (by omega))) rfl rfl HM.below)
  have hd156 := of_decide_eq_false hb156
  refine s_cf HF (wp_skip (s_fs1 ?_))
  refine fp HF 1 0 [(157, .slice Aq Q.length cq)] fun a HF => ?_
  refine fo HF 1 rfl rfl (s_el HF HM ei_nw [(0, .slice none 0 0)] #[.slice none 0 0] ?_)
  clear HF HM; intro a w158 g158 HF HM
  refine fo HF 2 rfl rfl (qo HF HM (i := 3) rfl ei_nw rfl rfl rfl (news := ([Nw.zero].map Nw.val)) (HM.rdBlk (i := 0) (n := 1) (size := 1) rfl rfl) (qxt _) (by omega) (by omega) rfl (by decide) ?_)
  clear HF HM; intro a w159 A159 c159 HF HM hc159
  refine fp HF 2 3 [(161, .slice (some ⟨gA, oA, none⟩) l.length c), (160, .slice Ae E.length ce)] fun a HF => ?_
  refine s_fl HF 5 fun a HF => ?_
  replace HF := HF.sp 162 (vI (b.length + 4 : Nat)) rfl (by rw [show l.length = b.length + 4 by omega])
  refine fo HF 6 rfl rfl (s_el HF HM qbf [(0, vI (b.length + 4 : Nat))] #[vI (b.length + 4 : Nat)] ?_)
  clear HF HM; intro a w163 g163 HF HM
  refine fo HF 7 rfl rfl (qo HF HM (i := 3) rfl qbf rfl rfl rfl (news := ([b.length + 4].map I64v)) (HM.rdBlk (i := 0) (n := 1) (size := 1) rfl rfl) (qnx _) (by omega) (by omega) rfl (by decide) ?_)
  clear HF HM; intro a w164 A164 c164 HF HM hc164
  refine fp HF 3 8 [(4, vI 0), (3, .slice A164 (E.length + 1) c164), (2, .slice A159 (Q.length + 1) c159)] fun a HF => ?_
  refine s_d0 ?_
  have hnA159 : Q.length + 1 = (Q ++ [Nw.zero]).length := qs rfl
  replace HM := HM.reRow (i := 4) (ys := (Q ++ [Nw.zero]).map Nw.val) rfl hnA159 (List.map_append.symm)
  rw [hnA159] at hc159
  replace HF := HF.sp 2 (.slice A159 ((Q ++ [Nw.zero]).length) c159) rfl (by rw [hnA159])
  replace HF := HF.sp 159 (.slice A159 ((Q ++ [Nw.zero]).length) c159) rfl (by rw [hnA159])
  have hnA164 : E.length + 1 = (E ++ [b.length + 4]).length := qs rfl
  replace HM := HM.reRow (i := 3) (ys := (E ++ [b.length + 4]).map I64v) rfl hnA164 (List.map_append.symm)
  rw [hnA164] at hc164
  replace HF := HF.sp 3 (.slice A164 ((E ++ [b.length + 4]).length) c164) rfl (by rw [hnA164])
  replace HF := HF.sp 164 (.slice A164 ((E ++ [b.length + 4]).length) c164) rfl (by rw [hnA164])
  replace HM := HM.nil 22 1
  replace HM := HM.pt (fs' := (.row (.slice none 0 0) 0 [] 22 1 :: .row (vS g48 9 9) 9 (nameL.map StrC) 9 1 :: .row (.slice A164 ((E ++ [b.length + 4]).length) c164) ((E ++ [b.length + 4]).length) ((E ++ [b.length + 4]).map I64v) 3 1 :: .row (.slice A159 ((Q ++ [Nw.zero]).length) c159) ((Q ++ [Nw.zero]).length) ((Q ++ [Nw.zero]).map Nw.val) 58 1 :: nwF 22 Q)) 6 [0, 3, 4, 5]
  replace HM := Mem.toNw (A := none) (c := 0) (l := []) (fs := [.row (vS g48 9 9) 9 (nameL.map StrC) 9 1, .row (.slice A164 ((E ++ [b.length + 4]).length) c164) ((E ++ [b.length + 4]).length) ((E ++ [b.length + 4]).map I64v) 3 1, .row (.slice A159 ((Q ++ [Nw.zero]).length) c159) ((Q ++ [Nw.zero]).length) ((Q ++ [Nw.zero]).map Nw.val) 58 1]) HM
  replace HM : Mem w _ (.row (vS g48 9 9) 9 (nameL.map StrC) 9 1 :: .row (.slice A164 ((E ++ [b.length + 4]).length) c164) ((E ++ [b.length + 4]).length) ((E ++ [b.length + 4]).map I64v) 3 1 :: .row (.slice A159 ((Q ++ [Nw.zero]).length) c159) ((Q ++ [Nw.zero]).length) ((Q ++ [Nw.zero]).map Nw.val) 58 1 :: nwF 22 (Q ++ [Nw.zero])) := HM
  refine wp_ret ?_
  obtain ⟨p, hp, hpl, hpe⟩ := qzj hR (by omega)
  exact s_rt3 rfl HF rfl rfl rfl (qs5 (hop.trans hp) (by rw [hpl, List.map_append]; rfl) hpe (fun q h => (List.mem_append.1 h).elim (hqc q) (fun h => by rw [List.mem_singleton] at h; subst h; exact Nat.le_refl _)) hc159 hc164 rfl (HM.pt 3 [2, 1]))
def NumIs (W : World) (g p : Nat) (A : Option Addr) (c : Nat) (b q : List Nat) (sv : Value) (fs : List Fact) (r : Ending) (w' : World) : Prop :=
 (∃ x e NA nc, NumAt b p x e ∧ r = .returned (.int .u64 (x : Int)) ∧ (q ++ [x]).length ≤ nc ∧ Mem W w' (.blk g #[.slice A b.length c, .int .i64 (e : Int), .slice NA (q ++ [x]).length nc, sv] 109 :: .row (.slice NA (q ++ [x]).length nc) (q ++ [x]).length ((q ++ [x]).map U64) 22 1 :: fs)) ∨ ((vread (b.drop p)).2.2 ≠ 0 ∧ Dies W fs (pan errT 344) r w')
theorem qwb {W w' : World} {g p : Nat} {A : Option Addr} {c : Nat} {b q : List Nat} {sv : Value} {fs : List Fact} {r : Ending} (h : (vread (b.drop p)).2.2 ≠ 0) (hd : Dies W fs (pan errT 344) r w') : NumIs W g p A c b q sv fs r w' := .inr ⟨h, hd⟩
theorem qwc {W w' : World} {g p : Nat} {A : Option Addr} {c : Nat} {b q : List Nat} {sv : Value} {fs : List Fact} {r : Ending} {x e nc : Nat} {NA : Option Addr} (h : NumAt b p x e) (hr : r = .returned (.int .u64 (x : Int))) (hc : (q ++ [x]).length ≤ nc) (hm : Mem W w' (.blk g #[.slice A b.length c, .int .i64 (e : Int), .slice NA (q ++ [x]).length nc, sv] 109 :: .row (.slice NA (q ++ [x]).length nc) (q ++ [x]).length ((q ++ [x]).map U64) 22 1 :: fs)) : NumIs W g p A c b q sv fs r w' := .inl ⟨x, e, NA, nc, h, hr, hc, hm⟩
theorem qib (W w : World) (g p : Nat) (A NA : Option Addr) (c nc : Nat) (b q : List Nat) (sv : Value) (fs : List Fact) (HW : Mem W w (.blk g #[.slice A b.length c, vI p, .slice NA q.length nc, sv] 109 :: .row (.slice NA q.length nc) q.length (q.map U64) 22 1 :: fs)) (hin : Rd W W.heap.size 1 A b.length (b.map B8)) (hbc : b.length ≤ c) (hl : ∀ z ∈ b, z < 256) (hb : b.length ≤ 16777216) (ha : p ≤ b.length) (hq : q.length ≤ p) :
    Calls Tryz.prog 106 #[.pointer (some ⟨g, 0, none⟩)] w (NumIs W g p A c b q sv fs) := by
 refine s_ce Tryz.func106 [vP g 0] [(0, vP g 0)] fun a HF => ?_
 have HM := Mem.start w
 replace HM := HW
 have hv : ∃ x n er, vread (b.drop p) = (x, n, er) := ⟨_, _, _, rfl⟩
 obtain ⟨x, n, er, hv⟩ := hv
 have hl2 : ∀ z ∈ b.drop p, z < 256 := fun z hz => hl z (List.mem_of_mem_drop hz)
 have hdl : (b.drop p).length = b.length - p := List.length_drop
 refine s_fs1 ?_
 refine fp HF 1 0 [(2, vQ 0)] fun a HF => ?_
 refine s_d0 (wp_seq ?_)
 refine zf HM (.blk g #[.slice A b.length c, vI p, .slice NA q.length nc, sv] 109 :: .row (.slice NA q.length nc) q.length (q.map U64) 22 1 :: fs) 2 [0, 1] [] fun HM HS => ?_
 refine ap HF (fun _ => HS) [0, 4] (bf 17 [0, 4]) [(11, vP g 0), (7, vP g 0)] fun a HF => ?_
 refine s_az HF HS 1 rfl (v := vP g 0) (Yl.nilCheck rfl rfl) fun a HF => ?_
 refine ap HF (fun _ => HS) [2] (bf 17 [0, 1, 2, 4]) [(9, vP g 0)] fun a HF => ?_
 refine s_ac HF HS 3 0 fun a HF => ?_
 refine s_az HF HS 5 rfl (v := vP g 0) (Yl.nilCheck rfl rfl) fun a HF => ?_
 refine ap HF (fun _ => HS) [6] (bf 17 [0, 1, 2, 3, 4, 5, 6]) [(13, vP g 1)] fun a HF => ?_
 refine s_ac HF HS 7 0 fun a HF => ?_
 refine s_az HF HS 8 rfl (v := .slice (if c = p then A else A.map (·.add (p * 1))) (b.length - p) (c - p)) (Yl.sliceFrom ei_u8 (j := p) rfl rfl rfl (by omega)) fun a HF => ?_
 replace HF := HF.sp 15 (.slice (if c = p then A else A.map (·.add (p * 1))) ((b.drop p).length) (c - p)) rfl (by rw [List.length_drop])
 refine qe [9] (by kernel_rfl) rfl ?_
 refine all_cons ?_ all_nil
 refine qf HF (i := 9) rfl rfl ?_
 refine e_is HF HM [.slice (if c = p then A else A.map (·.add (p * 1))) ((b.drop p).length) (c - p)] (.tuple #[vQ x, vI n, vI er]) rfl rfl (qvp hv (rd_at (HM.old hin) ha hbc) hl2 (by omega)) fun w16 hbw HM a HF => ?_
 refine keepS (HM.pt 2 [0, 1]) (fun HS => ?_)
 refine ap HF (fun _ => HS) [10, 11, 12, 13, 14, 15, 16] (bt 17 []) [(5, vI er), (4, vI n), (3, vQ x)] fun a HF => ?_
 refine qk (by kernel_rfl) ?_
 refine wp_seq (s_fs1 ?_)
 refine fp HF 2 0 [(21, .bool ((er : Int) != (0 : Int)))] fun a HF => ?_
 refine s_d0 ?_
 rcases HF.tf 21 rfl with ⟨hb21, HF⟩ | ⟨hb21, HF⟩
 ·
  have hd21 := bne_iff_ne.1 hb21
  refine s_ct HF (qa ?_)
  refine fo HF 0 rfl rfl ?_
  exact qal HF [vI 344] rfl (qfm 344 _ (HM.pt 2 [])) fun w2 HM => qbt HF (qwb (qkq hv hd21) ⟨rfl, HM⟩)
 have hd21 := bne_eq_false_iff_eq.1 hb21
 have her : er = 0 := by omega
 subst her
 have hin2 := qng ha hv
 refine s_cf HF (wp_skip (s_fs1 ?_))
 refine fp HF 1 0 [(23, vP g 0)] fun a HF => ?_
 refine s_fk HF 1 fun a HF => ?_
 refine fp HF 1 2 [(25, vP g 1)] fun a HF => ?_
 refine s_fc HF HM 3 0 fun a HF => ?_
 refine fp HF 2 4 [(28, vI (IntKind.i64.wrap ((p : Int) + (n : Int))))] fun a HF => ?_
 replace HF := HF.sp 28 (vI (p + n : Nat)) rfl (qc (by omega) (by omega))
 refine s_fk HF 6 fun a HF => ?_
 refine fp HF 1 7 [(30, vP g 1)] fun a HF => ?_
 refine fo HF 8 rfl rfl (s_es HF HM 0 ?_)
 clear HM; intro w4_8 HM
 refine s_d0 (s_fs1 ?_)
 refine fp HF 2 0 [(32, vP g 0), (31, vP g 0)] fun a HF => ?_
 refine s_fk HF 2 fun a HF => ?_
 refine fp HF 1 3 [(34, vP g 2)] fun a HF => ?_
 refine s_fc HF HM 4 0 fun a HF => ?_
 refine fp HF 1 5 [(36, vQ x)] fun a HF => ?_
 refine fo HF 6 rfl rfl (s_el HF HM q2 [(0, vQ x)] #[vQ x] ?_)
 clear HF HM; intro a w37 g37 HF HM
 refine fo HF 7 rfl rfl (qo HF HM (i := 2) rfl q2 rfl rfl rfl (news := [U64 x]) (HM.rdBlk (i := 0) (n := 1) (size := 1) rfl rfl) (by simp [Value.oneCell', U64, B8]) (by omega) (by omega) rfl (by decide) ?_)
 clear HF HM; intro a w38 A38 c38 HF HM hc38
 refine s_fk HF 8 fun a HF => ?_
 refine fp HF 1 9 [(40, vP g 2)] fun a HF => ?_
 refine fo HF 10 rfl rfl (s_es HF HM 1 ?_)
 clear HM; intro w5_10 HM
 refine s_d0 ?_
 have hnA38 : q.length + 1 = (q ++ [x]).length := qs rfl
 replace HM := HM.reRow (i := 2) (ys := (q ++ [x]).map U64) rfl hnA38 (by simp)
 rw [hnA38] at hc38
 replace HF := HF.sp 38 (.slice A38 ((q ++ [x]).length) c38) rfl (by rw [hnA38])
 replace HM := HM.reBlk (i := 1) (ds := #[.slice A b.length c, vI (p + n : Nat), .slice A38 ((q ++ [x]).length) c38, sv]) rfl (by rw [hnA38]; rfl)
 refine s_fs1 ?_
 refine fp HF 2 0 [(2, vQ x)] fun a HF => ?_
 refine s_d0 (wp_ret ?_)
 exact s_rt1 rfl HF rfl (qwc (.of hv) rfl hc38 (HM.pt 3 [1, 2]))
theorem qea (W w : World) (g p : Nat) (A NA : Option Addr) (c nc : Nat) (b q : List Nat) (sv : Value) (fs : List Fact) (HW : Mem W w (.blk g #[.slice A b.length c, vI p, .slice NA q.length nc, sv] 109 :: .row (.slice NA q.length nc) q.length (q.map U64) 22 1 :: fs)) (hin : Rd W W.heap.size 1 A b.length (b.map B8)) (hbc : b.length ≤ c) (hl : ∀ z ∈ b, z < 256) (hb : b.length ≤ 16777216) (ha : p ≤ b.length) (hq : q.length ≤ p) {x e : Nat} (h : NumAt b p x e) :
  Calls Tryz.prog 106 #[.pointer (some ⟨g, 0, none⟩)] w (fun r w' => r = .returned (.int .u64 (x : Int)) ∧ ∃ NA nc, (q ++ [x]).length ≤ nc ∧ Mem W w' (.blk g #[.slice A b.length c, .int .i64 (e : Int), .slice NA (q ++ [x]).length nc, sv] 109 :: .row (.slice NA (q ++ [x]).length nc) (q ++ [x]).length ((q ++ [x]).map U64) 22 1 :: fs)) :=
 (qib W w g p A NA c nc b q sv fs HW hin hbc hl hb ha hq).mono fun r w' h1 => by
  rcases h1 with ⟨x2, e2, NA, nc, h2, h3, h4, h5⟩ | ⟨h2, _⟩
  ·obtain ⟨rfl, rfl⟩ := NumAt.one h h2
   exact ⟨h3, NA, nc, h4, h5⟩
  ·rw [h.1] at h2; exact absurd rfl h2
theorem qeb (W w : World) (g p : Nat) (A NA : Option Addr) (c nc : Nat) (b q : List Nat) (sv : Value) (fs : List Fact) (HW : Mem W w (.blk g #[.slice A b.length c, vI p, .slice NA q.length nc, sv] 109 :: .row (.slice NA q.length nc) q.length (q.map U64) 22 1 :: fs)) (hin : Rd W W.heap.size 1 A b.length (b.map B8)) (hbc : b.length ≤ c) (hl : ∀ z ∈ b, z < 256) (hb : b.length ≤ 16777216) (ha : p ≤ b.length) (hq : q.length ≤ p) (h : (vread (b.drop p)).2.2 ≠ 0) :
  Calls Tryz.prog 106 #[.pointer (some ⟨g, 0, none⟩)] w (Dies W fs (pan errT 344)) :=
 (qib W w g p A NA c nc b q sv fs HW hin hbc hl hb ha hq).mono fun r w' h1 => by
  rcases h1 with ⟨x2, e2, NA, nc, h2, h3, h4, h5⟩ | ⟨_, h2⟩
  ·rw [h2.1] at h; exact absurd rfl h
  ·exact h2
def CntIs (W : World) (g p : Nat) (A : Option Addr) (c : Nat) (b q : List Nat) (sv : Value) (lo hi : Nat) (fs : List Fact) (r : Ending) (w' : World) : Prop :=
 (∃ x e NA nc, NumAt b p x e ∧ ¬ (x < lo ∨ hi < x) ∧ r = .returned (.int .i64 (x : Int)) ∧ (q ++ [x]).length ≤ nc ∧ Mem W w' (.blk g #[.slice A b.length c, .int .i64 (e : Int), .slice NA (q ++ [x]).length nc, sv] 109 :: .row (.slice NA (q ++ [x]).length nc) (q ++ [x]).length ((q ++ [x]).map U64) 22 1 :: fs)) ∨ ((∃ x e, NumAt b p x e ∧ (x < lo ∨ hi < x)) ∧ Dies W fs (pan errT 345) r w') ∨ ((vread (b.drop p)).2.2 ≠ 0 ∧ Dies W fs (pan errT 344) r w')
theorem qwd {W w' : World} {g p : Nat} {A : Option Addr} {c : Nat} {b q : List Nat} {sv : Value} {fs : List Fact} {r : Ending} {lo hi : Nat} (h : (vread (b.drop p)).2.2 ≠ 0) (hd : Dies W fs (pan errT 344) r w') : CntIs W g p A c b q sv lo hi fs r w' := .inr (.inr ⟨h, hd⟩)
theorem qk7 {W w' : World} {g p : Nat} {A : Option Addr} {c : Nat} {b q : List Nat} {sv : Value} {fs : List Fact} {r : Ending} {lo hi x e : Nat} (h : NumAt b p x e) (h2 : x < lo ∨ hi < x) (hd : Dies W fs (pan errT 345) r w') : CntIs W g p A c b q sv lo hi fs r w' := .inr (.inl ⟨⟨x, e, h, h2⟩, hd⟩)
theorem qwe {W w' : World} {g p : Nat} {A : Option Addr} {c : Nat} {b q : List Nat} {sv : Value} {fs : List Fact} {r : Ending} {lo hi x e nc : Nat} {NA : Option Addr} (h : NumAt b p x e) (h2 : ¬ (x < lo ∨ hi < x)) (hr : r = .returned (.int .i64 (x : Int))) (hc : (q ++ [x]).length ≤ nc) (hm : Mem W w' (.blk g #[.slice A b.length c, .int .i64 (e : Int), .slice NA (q ++ [x]).length nc, sv] 109 :: .row (.slice NA (q ++ [x]).length nc) (q ++ [x]).length ((q ++ [x]).map U64) 22 1 :: fs)) : CntIs W g p A c b q sv lo hi fs r w' := .inl ⟨x, e, NA, nc, h, h2, hr, hc, hm⟩
theorem qg1 (W w : World) (g p : Nat) (A NA : Option Addr) (c nc : Nat) (b q : List Nat) (sv : Value) (fs : List Fact) (lo hi : Nat) (hhi : hi < 9223372036854775808) (HW : Mem W w (.blk g #[.slice A b.length c, vI p, .slice NA q.length nc, sv] 109 :: .row (.slice NA q.length nc) q.length (q.map U64) 22 1 :: fs)) (hin : Rd W W.heap.size 1 A b.length (b.map B8)) (hbc : b.length ≤ c) (hl : ∀ z ∈ b, z < 256) (hb : b.length ≤ 16777216) (ha : p ≤ b.length) (hq : q.length ≤ p) :
    Calls Tryz.prog 107 #[.pointer (some ⟨g, 0, none⟩), .int .u64 (lo : Int), .int .u64 (hi : Int)] w (CntIs W g p A c b q sv lo hi fs) := by
 refine s_ce Tryz.func107 [vP g 0, vQ lo, vQ hi] [(0, vP g 0), (1, vQ lo), (2, vQ hi)] fun a HF => ?_
 have HM := Mem.start w
 replace HM := HW
 refine s_fs1 ?_
 refine fp HF 1 0 [(6, vI 0)] fun a HF => ?_
 refine s_d0 (wp_seq ?_)
 rcases qh3 b p with hv | ⟨x, e, hv⟩
 ·
  refine qa ?_
  refine fp HF 1 0 [(8, vP g 0)] fun a HF => ?_
  refine fo HF 1 rfl rfl ?_
  exact qal HF [vP g 0] rfl (qeb W _ g p A NA c nc b q sv _ (HM.pt 2 [0, 1]) hin hbc hl hb ha hq hv) fun w2 HM => qbt HF (qwd hv ⟨rfl, (HM)⟩)
 ·
  have hx := hv.lt hl
  refine qa ?_
  refine fp HF 1 0 [(8, vP g 0)] fun a HF => ?_
  refine fo HF 1 rfl rfl ?_
  refine e_cl HF [vP g 0] rfl rfl (qea W _ g p A NA c nc b q sv _ (HM.pt 2 [0, 1]) hin hbc hl hb ha hq hv) ?_
  rintro _ w9 ⟨rfl, A9, c9, hc9, HM2⟩
  refine ⟨_, rfl, ?_⟩
  replace HM := HM2
  clear HF; intro a HF
  refine fp HF 1 2 [(7, vQ x)] fun a HF => ?_
  refine s_d0 (wp_seq (s_fs1 ?_))
  refine fp HF 4 0 [(13, .bool (decide ((x : Int) < (lo : Int))))] fun a HF => ?_
  rcases HF.tf 13 rfl with ⟨hb13, HF⟩ | ⟨hb13, HF⟩
  ·
   have hd13 := of_decide_eq_true hb13
   refine fp HF 4 4 [(17, .bool true)] fun a HF => ?_
   refine s_d0 (s_ct HF (qa ?_))
   refine fo HF 0 rfl rfl ?_
   exact qal HF [vI 345] rfl (qfm 345 _ (HM.pt 2 [])) fun w2 HM => qbt HF (qk7 hv (.inl (by omega)) ⟨rfl, HM⟩)
  have hd13 := of_decide_eq_false hb13
  refine fp HF 4 4 [(17, .bool (decide ((x : Int) > (hi : Int))))] fun a HF => ?_
  refine s_d0 ?_
  rcases HF.tf 17 rfl with ⟨hb17, HF⟩ | ⟨hb17, HF⟩
  ·
   have hd17 := of_decide_eq_true hb17
   refine s_ct HF (qa ?_)
   refine fo HF 0 rfl rfl ?_
   exact qal HF [vI 345] rfl (qfm 345 _ (HM.pt 2 [])) fun w2 HM => qbt HF (qk7 hv (.inr (by omega)) ⟨rfl, HM⟩)
  have hd17 := of_decide_eq_false hb17
  refine s_cf HF (wp_skip (s_fs1 ?_))
  refine fp HF 2 0 [(20, vI (IntKind.i64.wrap (x : Int)))] fun a HF => ?_
  replace HF := HF.sp 20 (vI x) rfl (qc rfl (by omega))
  refine fp HF 1 2 [(6, vI x)] fun a HF => ?_
  refine s_d0 (wp_ret ?_)
  exact s_rt1 rfl HF rfl (qwe hv (by omega) rfl hc9 (HM.pt 2 [0, 1]))
theorem qfq (W w : World) (g p : Nat) (A NA : Option Addr) (c nc : Nat) (b q : List Nat) (sv : Value) (fs : List Fact) (lo hi : Nat) (hhi : hi < 9223372036854775808) (HW : Mem W w (.blk g #[.slice A b.length c, vI p, .slice NA q.length nc, sv] 109 :: .row (.slice NA q.length nc) q.length (q.map U64) 22 1 :: fs)) (hin : Rd W W.heap.size 1 A b.length (b.map B8)) (hbc : b.length ≤ c) (hl : ∀ z ∈ b, z < 256) (hb : b.length ≤ 16777216) (ha : p ≤ b.length) (hq : q.length ≤ p) {x e : Nat} (h : NumAt b p x e) (hh : ¬ (x < lo ∨ hi < x)) :
  Calls Tryz.prog 107 #[.pointer (some ⟨g, 0, none⟩), .int .u64 (lo : Int), .int .u64 (hi : Int)] w (fun r w' => r = .returned (.int .i64 (x : Int)) ∧ ∃ NA nc, (q ++ [x]).length ≤ nc ∧ Mem W w' (.blk g #[.slice A b.length c, .int .i64 (e : Int), .slice NA (q ++ [x]).length nc, sv] 109 :: .row (.slice NA (q ++ [x]).length nc) (q ++ [x]).length ((q ++ [x]).map U64) 22 1 :: fs)) :=
 (qg1 W w g p A NA c nc b q sv fs lo hi hhi HW hin hbc hl hb ha hq).mono fun r w' h1 => by
  rcases h1 with ⟨x2, e2, NA, nc, h2, _, h3, h4, h5⟩ | ⟨⟨x2, e2, h2, h3⟩, _⟩ | ⟨h2, _⟩
  ·obtain ⟨rfl, rfl⟩ := NumAt.one h h2
   exact ⟨h3, NA, nc, h4, h5⟩
  ·obtain ⟨rfl, rfl⟩ := NumAt.one h h2
   exact absurd h3 hh
  ·rw [h.1] at h2; exact absurd rfl h2
theorem qg2 (W w : World) (g p : Nat) (A NA : Option Addr) (c nc : Nat) (b q : List Nat) (sv : Value) (fs : List Fact) (lo hi : Nat) (hhi : hi < 9223372036854775808) (HW : Mem W w (.blk g #[.slice A b.length c, vI p, .slice NA q.length nc, sv] 109 :: .row (.slice NA q.length nc) q.length (q.map U64) 22 1 :: fs)) (hin : Rd W W.heap.size 1 A b.length (b.map B8)) (hbc : b.length ≤ c) (hl : ∀ z ∈ b, z < 256) (hb : b.length ≤ 16777216) (ha : p ≤ b.length) (hq : q.length ≤ p) {x e : Nat} (h : NumAt b p x e) (hh : x < lo ∨ hi < x) :
  Calls Tryz.prog 107 #[.pointer (some ⟨g, 0, none⟩), .int .u64 (lo : Int), .int .u64 (hi : Int)] w (Dies W fs (pan errT 345)) :=
 (qg1 W w g p A NA c nc b q sv fs lo hi hhi HW hin hbc hl hb ha hq).mono fun r w' h1 => by
  rcases h1 with ⟨x2, e2, NA, nc, h2, h3, _⟩ | ⟨_, h2⟩ | ⟨h2, _⟩
  ·obtain ⟨rfl, rfl⟩ := NumAt.one h h2
   exact absurd hh h3
  ·exact h2
  ·rw [h.1] at h2; exact absurd rfl h2
theorem qi8 (W w : World) (g p : Nat) (A NA : Option Addr) (c nc : Nat) (b q : List Nat) (sv : Value) (fs : List Fact) (lo hi : Nat) (hhi : hi < 9223372036854775808) (HW : Mem W w (.blk g #[.slice A b.length c, vI p, .slice NA q.length nc, sv] 109 :: .row (.slice NA q.length nc) q.length (q.map U64) 22 1 :: fs)) (hin : Rd W W.heap.size 1 A b.length (b.map B8)) (hbc : b.length ≤ c) (hl : ∀ z ∈ b, z < 256) (hb : b.length ≤ 16777216) (ha : p ≤ b.length) (hq : q.length ≤ p) (h : (vread (b.drop p)).2.2 ≠ 0) :
  Calls Tryz.prog 107 #[.pointer (some ⟨g, 0, none⟩), .int .u64 (lo : Int), .int .u64 (hi : Int)] w (Dies W fs (pan errT 344)) :=
 (qg1 W w g p A NA c nc b q sv fs lo hi hhi HW hin hbc hl hb ha hq).mono fun r w' h1 => by
  rcases h1 with ⟨x2, e2, NA, nc, h2, _⟩ | ⟨⟨x2, e2, h2, _⟩, _⟩ | ⟨_, h2⟩
  ·rw [h2.1] at h; exact absurd rfl h
  ·rw [h2.1] at h; exact absurd rfl h
  ·exact h2
def qtt (W : World) (g p : Nat) (A : Option Addr) (c : Nat) (b q : List Nat) (sv : Value) (n : Nat) (fs : List Fact) (r : Ending) (w' : World) : Prop :=
 (∃ xs e NA nc, qx b n p xs e ∧ r = .returned (.tuple #[]) ∧ (q ++ xs).length ≤ nc ∧ Mem W w' (.blk g #[.slice A b.length c, .int .i64 (e : Int), .slice NA (q ++ xs).length nc, sv] 109 :: .row (.slice NA (q ++ xs).length nc) (q ++ xs).length ((q ++ xs).map U64) 22 1 :: fs)) ∨ ((readN n (b.drop p)).2.2 ≠ 0 ∧ Dies W fs (pan errT 344) r w')
theorem qtu {W w' : World} {g p : Nat} {A : Option Addr} {c : Nat} {b q : List Nat} {sv : Value} {fs : List Fact} {r : Ending} {n : Nat} (h : (readN n (b.drop p)).2.2 ≠ 0) (hd : Dies W fs (pan errT 344) r w') : qtt W g p A c b q sv n fs r w' := .inr ⟨h, hd⟩
theorem qtv {W w' : World} {g p : Nat} {A : Option Addr} {c : Nat} {b q : List Nat} {sv : Value} {fs : List Fact} {r : Ending} {n e nc : Nat} {xs : List Nat} {NA : Option Addr} (h : qx b n p xs e) (hr : r = .returned (.tuple #[])) (hc : (q ++ xs).length ≤ nc) (hm : Mem W w' (.blk g #[.slice A b.length c, .int .i64 (e : Int), .slice NA (q ++ xs).length nc, sv] 109 :: .row (.slice NA (q ++ xs).length nc) (q ++ xs).length ((q ++ xs).map U64) 22 1 :: fs)) : qtt W g p A c b q sv n fs r w' := .inl ⟨xs, e, NA, nc, h, hr, hc, hm⟩
theorem qog (W w : World) (g p : Nat) (A NA : Option Addr) (c nc : Nat) (b q : List Nat) (sv : Value) (fs : List Fact) (n : Nat) (hnn : n ≤ 1000000) (hnc : q.length ≤ nc) (HW : Mem W w (.blk g #[.slice A b.length c, vI p, .slice NA q.length nc, sv] 109 :: .row (.slice NA q.length nc) q.length (q.map U64) 22 1 :: fs)) (hin : Rd W W.heap.size 1 A b.length (b.map B8)) (hbc : b.length ≤ c) (hl : ∀ z ∈ b, z < 256) (hb : b.length ≤ 16777216) (ha : p ≤ b.length) (hq : q.length ≤ p) :
    Calls Tryz.prog 108 #[.pointer (some ⟨g, 0, none⟩), .int .i64 (n : Int)] w (qtt W g p A c b q sv n fs) := by
 refine s_ce Tryz.func108 [vP g 0, vI n] [(0, vP g 0), (1, vI n)] fun a HF => ?_
 have HM := Mem.start w
 replace HM := HW
 refine s_fs1 ?_
 refine fp HF 2 0 [(5, vI 0), (4, vI n)] fun a HF => ?_
 refine s_d0 ?_
 rw [← List.append_nil q] at HM
 refine wp_block ?_
 refine qi (fun mS aS wS => ∃ (k : Nat) (xs : List Nat) (e : Nat) (NA : Option Addr) (nc : Nat), (qx b k p xs e) ∧ (k ≤ n) ∧ ((q ++ xs).length ≤ nc) ∧ mS = n - k ∧ Fr aS 10 [] [(0, vP g 0), (4, vI n), (5, vI k)] ∧ Mem W wS (.blk g #[.slice A b.length c, vI e, .slice NA ((q ++ xs).length) nc, sv] 109 :: .row (.slice NA ((q ++ xs).length) nc) ((q ++ xs).length) ((q ++ xs).map U64) 22 1 :: fs)) (m := n - 0) ⟨0, [], p, NA, nc, qx.nil b p, Nat.zero_le _, (by rw [List.append_nil]; exact hnc), rfl, HF.sub (by kernel_rfl), HM.pt 2 [0, 1]⟩ ?_
 clear HF HM; rintro mS a w_ ⟨k, xs, e, NA, nc, hxs, hle, hnc, rfl, HF, HM⟩
 have hin2 := hxs.in ha
 refine s_fs1 ?_
 refine fp HF 1 0 [(6, .bool (decide ((k : Int) < (n : Int))))] fun a HF => ?_
 refine s_d0 (wp_seq ?_)
 rcases HF.tf 6 rfl with ⟨hb6, HF⟩ | ⟨hb6, HF⟩
 ·
  have hd6 := of_decide_eq_true hb6
  refine s_ct HF (wp_skip (wp_seq (wp_block ?_)))
  have hkn : k < n := by omega
  rcases qh3 b e with hv | ⟨x, e2, hv⟩
  ·
   refine qa ?_
   refine fp HF 1 0 [(7, vP g 0)] fun a HF => ?_
   refine fo HF 1 rfl rfl ?_
   exact qal HF [vP g 0] rfl (qeb W _ g e A NA c nc b (q ++ xs) sv _ (HM.pt 2 [0, 1]) hin hbc hl hb (by omega) (by rw [List.length_append]; omega) hv) fun w2 HM => qbt HF (qtu (hxs.stuck hkn hv) ⟨rfl, HM⟩)
  ·
   refine qa ?_
   refine fp HF 1 0 [(7, vP g 0)] fun a HF => ?_
   refine fo HF 1 rfl rfl ?_
   refine e_cl HF [vP g 0] rfl rfl (qea W _ g e A NA c nc b (q ++ xs) sv _ (HM.pt 2 [0, 1]) hin hbc hl hb (by omega) (by rw [List.length_append]; omega) hv) ?_
   rintro _ w8 ⟨rfl, A8, c8, hc8, HM2⟩
   refine ⟨_, rfl, ?_⟩
   replace HM := HM2
   clear HF; intro a HF
   refine s_d0 ?_
   rw [List.append_assoc] at HM
   refine qa ?_
   refine fp HF 1 0 [(9, vI (IntKind.i64.wrap ((k : Int) + 1)))] fun a HF => ?_
   replace HF := HF.sp 9 (vI (k + 1 : Nat)) rfl (qc (by omega) (by omega))
   refine fp HF 1 1 [(5, vI (k + 1 : Nat))] fun a HF => ?_
   refine s_d0 ?_
   exact ⟨_, (by omega), k + 1, (xs ++ [x]), e2, A8, c8, hxs.snoc hv, hkn, (by rwa [List.append_assoc] at hc8), rfl, HF.sub (by kernel_rfl), HM.pt 2 [0, 1]⟩
 have hd6 := of_decide_eq_false hb6
 refine s_cf HF (wp_exit ?_)
 obtain rfl : k = n := by omega
 exact norm0 rfl HF (qtv hxs rfl hnc HM)
theorem qg3 (W w : World) (g p : Nat) (A NA : Option Addr) (c nc : Nat) (b q : List Nat) (sv : Value) (fs : List Fact) (n : Nat) (hnn : n ≤ 1000000) (hnc : q.length ≤ nc) (HW : Mem W w (.blk g #[.slice A b.length c, vI p, .slice NA q.length nc, sv] 109 :: .row (.slice NA q.length nc) q.length (q.map U64) 22 1 :: fs)) (hin : Rd W W.heap.size 1 A b.length (b.map B8)) (hbc : b.length ≤ c) (hl : ∀ z ∈ b, z < 256) (hb : b.length ≤ 16777216) (ha : p ≤ b.length) (hq : q.length ≤ p) {xs : List Nat} {e : Nat} (h : qx b n p xs e) :
  Calls Tryz.prog 108 #[.pointer (some ⟨g, 0, none⟩), .int .i64 (n : Int)] w (fun r w' => r = .returned (.tuple #[]) ∧ ∃ NA nc, (q ++ xs).length ≤ nc ∧ Mem W w' (.blk g #[.slice A b.length c, .int .i64 (e : Int), .slice NA (q ++ xs).length nc, sv] 109 :: .row (.slice NA (q ++ xs).length nc) (q ++ xs).length ((q ++ xs).map U64) 22 1 :: fs)) :=
 (qog W w g p A NA c nc b q sv fs n hnn hnc HW hin hbc hl hb ha hq).mono fun r w' h1 => by
  rcases h1 with ⟨x2, e2, NA, nc, h2, h3, h4, h5⟩ | ⟨h2, _⟩
  ·obtain ⟨rfl, rfl⟩ := qx.one h h2
   exact ⟨h3, NA, nc, h4, h5⟩
  ·rw [h.1] at h2; exact absurd rfl h2
theorem qg4 (W w : World) (g p : Nat) (A NA : Option Addr) (c nc : Nat) (b q : List Nat) (sv : Value) (fs : List Fact) (n : Nat) (hnn : n ≤ 1000000) (hnc : q.length ≤ nc) (HW : Mem W w (.blk g #[.slice A b.length c, vI p, .slice NA q.length nc, sv] 109 :: .row (.slice NA q.length nc) q.length (q.map U64) 22 1 :: fs)) (hin : Rd W W.heap.size 1 A b.length (b.map B8)) (hbc : b.length ≤ c) (hl : ∀ z ∈ b, z < 256) (hb : b.length ≤ 16777216) (ha : p ≤ b.length) (hq : q.length ≤ p) (h : (readN n (b.drop p)).2.2 ≠ 0) :
  Calls Tryz.prog 108 #[.pointer (some ⟨g, 0, none⟩), .int .i64 (n : Int)] w (Dies W fs (pan errT 344)) :=
 (qog W w g p A NA c nc b q sv fs n hnn hnc HW hin hbc hl hb ha hq).mono fun r w' h1 => by
  rcases h1 with ⟨x2, e2, NA, nc, h2, h3, h4, h5⟩ | ⟨_, h2⟩
  ·rw [h2.1] at h; exact absurd rfl h
  ·exact h2
theorem q1o (W w : World) (g p : Nat) (iv nv : Value) (SA : Option Addr) (sc : Nat) (l : List Sec) (nm : ByteArray) (fs : List Fact) (HW : Mem W w (.blk g #[iv, .int .i64 (p : Int), nv, .slice SA l.length sc] 109 :: .row (.slice SA l.length sc) l.length (l.flatMap secL) 82 3 :: fs)) (hll : l.length ≤ 1000) :
    Calls Tryz.prog 105 #[.pointer (some ⟨g, 0, none⟩), .string nm] w (fun r w' => r = .returned (.tuple #[]) ∧ ∃ SA sc, (l ++ [(⟨nm, zh l, p⟩ : Sec)]).length ≤ sc ∧ Mem W w' (.blk g #[iv, .int .i64 (p : Int), nv, .slice SA (l ++ [(⟨nm, zh l, p⟩ : Sec)]).length sc] 109 :: .row (.slice SA (l ++ [(⟨nm, zh l, p⟩ : Sec)]).length sc) (l ++ [(⟨nm, zh l, p⟩ : Sec)]).length ((l ++ [(⟨nm, zh l, p⟩ : Sec)]).flatMap secL) 82 3 :: fs)) := by
 refine s_ce Tryz.func105 [vP g 0, .string nm] [(0, vP g 0), (1, .string nm)] fun a HF => ?_
 have HM := Mem.start w
 replace HM := HW
 refine s_fs1 ?_
 refine fp HF 1 0 [(4, vI 0)] fun a HF => ?_
 refine s_d0 (wp_seq (s_fs1 ?_))
 refine fp HF 1 0 [(6, vP g 0)] fun a HF => ?_
 refine s_fk HF 1 fun a HF => ?_
 refine fp HF 1 2 [(8, vP g 3)] fun a HF => ?_
 refine s_fc HF HM 3 0 fun a HF => ?_
 refine s_fl HF 4 fun a HF => ?_
 refine fp HF 1 5 [(5, vI l.length)] fun a HF => ?_
 refine s_d0 (s_fs1 ?_)
 refine fp HF 2 0 [(12, .bool (decide ((l.length : Int) > (0 : Int))))] fun a HF => ?_
 refine s_d0 ?_
 rcases HF.tf 12 rfl with ⟨hb12, HF⟩ | ⟨hb12, HF⟩
 ·
  have hd12 := of_decide_eq_true hb12
  refine s_ct HF (qa ?_)
  refine fp HF 1 0 [(13, vP g 0)] fun a HF => ?_
  refine s_fk HF 1 fun a HF => ?_
  refine fp HF 1 2 [(15, vP g 3)] fun a HF => ?_
  refine s_fc HF HM 3 0 fun a HF => ?_
  refine fp HF 2 4 [(18, vI (IntKind.i64.wrap ((l.length : Int) - 1)))] fun a HF => ?_
  replace HF := HF.sp 18 (vI (l.length - 1 : Nat)) rfl (qc (by omega) (by omega))
  obtain ⟨gSA, rfl⟩ := q8 (HM.own (i := 1) rfl) (Nat.lt_of_le_of_lt (Nat.zero_le _) (show l.length - 1 < l.length from by omega))
  refine s_fz HF HM 6 rfl (v := vP gSA ((l.length - 1) * 3)) (Yl.ix0 gSA (l.length - 1) 3 rfl rfl rfl) fun a HF => ?_
  refine fp HF 1 7 [(20, vP gSA ((l.length - 1) * 3 + 2))] fun a HF => ?_
  refine s_fz HF HM 8 rfl (v := vI ((l.getD (l.length - 1) Sec.zero).to)) (Yl.qd rfl rfl (by kernel_rfl) (fun _ h => h.qbe zy (i := 1) rfl (k := (l.length - 1)) (off := 2) (x := (l.getD (l.length - 1) Sec.zero)) ((getD_at Sec.zero (by omega))) rfl)) fun a HF => ?_
  replace HF := HF.sp 21 (vI (zh l)) rfl (rfl)
  refine fp HF 1 9 [(4, vI (zh l))] fun a HF => ?_
  refine s_d0 ?_
  refine zf HM (.blk g #[iv, vI p, nv, vS gSA l.length sc] 109 :: fs) 2 [0] [16] fun HM HS => ?_
  refine ap HF (fun _ => HS) [0, 1, 5, 6, 7] (bf 17 [0, 1, 5, 6, 7]) [(29, vP g 0), (28, vI (zh l)), (27, .string nm), (23, vP g 0), (22, vP g 0)] fun a HF => ?_
  refine s_az HF HS 2 rfl (v := vP g 0) (Yl.nilCheck rfl rfl) fun a HF => ?_
  refine ap HF (fun _ => HS) [3] (bf 17 [0, 1, 2, 3, 5, 6, 7]) [(25, vP g 3)] fun a HF => ?_
  refine s_ac HF HS 4 0 fun a HF => ?_
  refine s_az HF HS 8 rfl (v := vP g 0) (Yl.nilCheck rfl rfl) fun a HF => ?_
  refine ap HF (fun _ => HS) [9] (bt 17 [10, 11, 12, 13, 14, 15, 16]) [(31, vP g 1)] fun a HF => ?_
  refine s_ac HF HS 10 0 fun a HF => ?_
  refine s_az HF HS 11 rfl (v := .agg #[.string nm, vI (zh l), vI p]) (Yl.build (vs := [(0, .string nm), (1, vI (zh l)), (2, vI p)]) rfl (by kernel_rfl) (by kernel_rfl)) fun a HF => ?_
  refine qe [12] (by kernel_rfl) rfl ?_
  refine all_cons ?_ all_nil
  refine qf HF (i := 12) rfl rfl ?_
  refine s_el HF HM qn0 [(0, .agg #[.string nm, vI (zh l), vI p])] #[.string nm, vI (zh l), vI p] ?_
  clear HF HM; intro a w34 g34 HF HM
  refine keepS (HM.pt 3 [1]) (fun HS => ?_)
  refine qe [13] (by kernel_rfl) rfl ?_
  refine all_cons ?_ all_nil
  refine qf HF (i := 13) rfl rfl ?_
  refine qo HF HM (i := 2) rfl qn0 rfl rfl rfl (news := ([(⟨nm, zh l, p⟩ : Sec)].flatMap secL)) (HM.rdBlk (i := 0) (n := 1) (size := 3) rfl rfl) (qly _) (by omega) (by omega) rfl (by decide) ?_
  clear HF HM; intro a w35 A35 c35 HF HM hc35
  refine keepS (HM.pt 3 [1]) (fun HS => ?_)
  refine qh HF (fun _ => HS) (i := 14) rfl rfl (d := 36) rfl (by decide) (by kernel_rfl) (fun _ _ _ h => h) (v := vP g 0) (fun _ => Yl.nilCheck rfl rfl) fun a HF => ?_
  refine ap HF (fun _ => HS) [15] (bt 17 [16]) [(37, vP g 3)] fun a HF => ?_
  refine qe [16] (by kernel_rfl) rfl ?_
  refine all_cons ?_ all_nil
  refine qf HF (i := 16) rfl rfl ?_
  refine s_es HF HM 1 ?_
  clear HM; intro w4_16 HM
  refine noS (by kernel_rfl) ?_
  refine qk (by kernel_rfl) ?_
  have hnA35 : l.length + 1 = (l ++ [(⟨nm, zh l, p⟩ : Sec)]).length := qs rfl
  replace HM := HM.reRow (i := 2) (ys := (l ++ [(⟨nm, zh l, p⟩ : Sec)]).flatMap secL) rfl hnA35 (List.flatMap_append.symm)
  rw [hnA35] at hc35
  replace HF := HF.sp 35 (.slice A35 ((l ++ [(⟨nm, zh l, p⟩ : Sec)]).length) c35) rfl (by rw [hnA35])
  replace HM := HM.reBlk (i := 1) (ds := #[iv, vI p, nv, .slice A35 ((l ++ [(⟨nm, zh l, p⟩ : Sec)]).length) c35]) rfl (by rw [hnA35]; rfl)
  exact norm0 rfl HF ⟨rfl, A35, c35, hc35, HM.pt 3 [1, 2]⟩
 have hd12 := of_decide_eq_false hb12
 replace HF := HF.sp 4 (vI (zh l)) rfl (by rw [qvo (l := l) (by omega)]; rfl)
 refine s_cf HF (wp_skip ?_)
 refine zf HM (.blk g #[iv, vI p, nv, .slice SA l.length sc] 109 :: fs) 2 [0] [16] fun HM HS => ?_
 refine ap HF (fun _ => HS) [0, 1, 5, 6, 7] (bf 17 [0, 1, 5, 6, 7]) [(29, vP g 0), (28, vI (zh l)), (27, .string nm), (23, vP g 0), (22, vP g 0)] fun a HF => ?_
 refine s_az HF HS 2 rfl (v := vP g 0) (Yl.nilCheck rfl rfl) fun a HF => ?_
 refine ap HF (fun _ => HS) [3] (bf 17 [0, 1, 2, 3, 5, 6, 7]) [(25, vP g 3)] fun a HF => ?_
 refine s_ac HF HS 4 0 fun a HF => ?_
 refine s_az HF HS 8 rfl (v := vP g 0) (Yl.nilCheck rfl rfl) fun a HF => ?_
 refine ap HF (fun _ => HS) [9] (bt 17 [10, 11, 12, 13, 14, 15, 16]) [(31, vP g 1)] fun a HF => ?_
 refine s_ac HF HS 10 0 fun a HF => ?_
 refine s_az HF HS 11 rfl (v := .agg #[.string nm, vI (zh l), vI p]) (Yl.build (vs := [(0, .string nm), (1, vI (zh l)), (2, vI p)]) rfl (by kernel_rfl) (by kernel_rfl)) fun a HF => ?_
 refine qe [12] (by kernel_rfl) rfl ?_
 refine all_cons ?_ all_nil
 refine qf HF (i := 12) rfl rfl ?_
 refine s_el HF HM qn0 [(0, .agg #[.string nm, vI (zh l), vI p])] #[.string nm, vI (zh l), vI p] ?_
 clear HF HM; intro a w34 g34 HF HM
 refine keepS (HM.pt 3 [1]) (fun HS => ?_)
 refine qe [13] (by kernel_rfl) rfl ?_
 refine all_cons ?_ all_nil
 refine qf HF (i := 13) rfl rfl ?_
 refine qo HF HM (i := 2) rfl qn0 rfl rfl rfl (news := ([(⟨nm, zh l, p⟩ : Sec)].flatMap secL)) (HM.rdBlk (i := 0) (n := 1) (size := 3) rfl rfl) (qly _) (by omega) (by omega) rfl (by decide) ?_
 clear HF HM; intro a w35 A35 c35 HF HM hc35
 refine keepS (HM.pt 3 [1]) (fun HS => ?_)
 refine qh HF (fun _ => HS) (i := 14) rfl rfl (d := 36) rfl (by decide) (by kernel_rfl) (fun _ _ _ h => h) (v := vP g 0) (fun _ => Yl.nilCheck rfl rfl) fun a HF => ?_
 refine ap HF (fun _ => HS) [15] (bt 17 [16]) [(37, vP g 3)] fun a HF => ?_
 refine qe [16] (by kernel_rfl) rfl ?_
 refine all_cons ?_ all_nil
 refine qf HF (i := 16) rfl rfl ?_
 refine s_es HF HM 1 ?_
 clear HM; intro w4_16 HM
 refine noS (by kernel_rfl) ?_
 refine qk (by kernel_rfl) ?_
 have hnA35 : l.length + 1 = (l ++ [(⟨nm, zh l, p⟩ : Sec)]).length := qs rfl
 replace HM := HM.reRow (i := 2) (ys := (l ++ [(⟨nm, zh l, p⟩ : Sec)]).flatMap secL) rfl hnA35 (List.flatMap_append.symm)
 rw [hnA35] at hc35
 replace HF := HF.sp 35 (.slice A35 ((l ++ [(⟨nm, zh l, p⟩ : Sec)]).length) c35) rfl (by rw [hnA35])
 replace HM := HM.reBlk (i := 1) (ds := #[iv, vI p, nv, .slice A35 ((l ++ [(⟨nm, zh l, p⟩ : Sec)]).length) c35]) rfl (by rw [hnA35]; rfl)
 exact norm0 rfl HF ⟨rfl, A35, c35, hc35, HM.pt 3 [1, 2]⟩
theorem qec (W w : World) (g p : Nat) (iv nv : Value) (SA : Option Addr) (sc : Nat) (l : List Sec) (nm : ByteArray) (fs : List Fact) (HW : Mem W w (.blk g #[iv, .int .i64 (p : Int), nv, .slice SA l.length sc] 109 :: .row (.slice SA l.length sc) l.length (l.flatMap secL) 82 3 :: fs)) (hll : l.length ≤ 1000) {l2 : List Sec} (h : l ++ [(⟨nm, zh l, p⟩ : Sec)] = l2) :
  Calls Tryz.prog 105 #[.pointer (some ⟨g, 0, none⟩), .string nm] w (fun r w' => r = .returned (.tuple #[]) ∧ ∃ SA sc, l2.length ≤ sc ∧ Mem W w' (.blk g #[iv, .int .i64 (p : Int), nv, .slice SA l2.length sc] 109 :: .row (.slice SA l2.length sc) l2.length (l2.flatMap secL) 82 3 :: fs)) := by
 subst h
 exact q1o W w g p iv nv SA sc l nm fs HW hll
def qoh (W : World) (g : Nat) (A : Option Addr) (c : Nat) (b : List Nat) (fs : List Fact) (r : Ending) (w' : World) : Prop :=
 (∃ p NA nc SA sc, prs b = .ok p ∧ r = .returned (.int .i64 0) ∧ p.nums.length ≤ nc ∧ p.secs.length ≤ sc ∧ Mem W w' (.blk g #[.slice A b.length c, .int .i64 ((b.length + 4 : Nat) : Int), .slice NA p.nums.length nc, .slice SA p.secs.length sc] 109 :: .row (.slice NA p.nums.length nc) p.nums.length (p.nums.map U64) 22 1 :: .row (.slice SA p.secs.length sc) p.secs.length (p.secs.flatMap secL) 82 3 :: fs)) ∨ (∃ k : Nat, prs b = .error k ∧ r = .returned (.int .i64 (k : Int)) ∧ Mem W w' fs)
section
variable {W w : World} {g g2 c k i n : Nat} {A : Option Addr} {b : List Nat} {fs ks : List Fact} {σ : List (Nat × Value)} {a : Act}
theorem zl (HF : Fr a n [{ target := .fn (.func 104) [Value.pointer (some ⟨g2, 0, none⟩)].toArray, args := #[] }] σ) (h2 : σ.lookup 2 = some (.pointer (some ⟨g2, 0, none⟩))) (HM : Mem W w ks) (hi : ks[i]? = some (.blk g2 #[.int .i64 0] errT)) (hp : prs b = .error k) (j : List Nat) (hj : j.Nodup) (he : picks (ks.set i (.blk g2 #[.int .i64 (k : Int)] errT)) j = fs) :
  Leaves Tryz.prog Tryz.f78 a.tmps (qoh W g A c b fs) a.defers (.panicking (pan errT k)) w := by
 refine qpa (v := .int .i64 (k : Int)) HF (by kernel_rfl) (qr7 k 0 w HM hi rfl) rfl fun w' hm => ⟨?_, .inr ⟨k, hp, rfl, hm.picks j hj he⟩⟩
 have hl := (List.getElem?_eq_some_iff.1 hi).1
 exact zu.cell1 (i := i) HF hm h2 (List.getElem?_set_self hl) (by kernel_rfl) rfl
theorem qwf (HF : Fr a n [{ target := .fn (.func 104) [Value.pointer (some ⟨g2, 0, none⟩)].toArray, args := #[] }] σ) (h2 : σ.lookup 2 = some (.pointer (some ⟨g2, 0, none⟩))) (HM : Mem W w ks) (hi : ks[i]? = some (.blk g2 #[.int .i64 0] errT)) (hk : ∀ w', Mem W w' (ks.set i (.blk g2 #[.int .i64 0] errT)) → qoh W g A c b fs (.returned (.int .i64 0)) w') :
  Leaves Tryz.prog Tryz.f78 a.tmps (qoh W g A c b fs) a.defers .returning w := by
 refine qr2 (v := .int .i64 0) HF (by kernel_rfl) (qpb 0 w HM hi rfl) rfl fun w' hm => ⟨?_, hk w' hm⟩
 have hl := (List.getElem?_eq_some_iff.1 hi).1
 exact zu.cell1 (i := i) HF hm h2 (List.getElem?_set_self hl) (by kernel_rfl) rfl
end
theorem qoi (nx cp cr gp : Nat) (gs cl cu : List Nat) (tk : Nat) (ts sp : List Nat) (e1 e2 e3 e4 e5 e6 e7 : Nat) : (⟨nx, cp, cr, gp, gs, cl, cu, tk, ts, sp, e1, e2, e3, e4, e5, e6, e7⟩ : Pr).nums = ((((((((((([] : List Nat) ++ [nx]) ++ [cp]) ++ [cr]) ++ [gp]) ++ gs) ++ cl) ++ cu) ++ [tk]) ++ ts) ++ sp) := by simp [Pr.nums]
theorem qoj (W w : World) (g : Nat) (A : Option Addr) (c : Nat) (b : List Nat) (HW : Mem W w [.blk g #[.slice A b.length c, .int .i64 0, .slice none 0 0, .slice none 0 0] 109]) (hin : Rd W W.heap.size 1 A b.length (b.map B8)) (hbc : b.length ≤ c) (hl : ∀ z ∈ b, z < 256) (hb : b.length ≤ 16777216) (hb3 : 3 ≤ b.length) :
    Calls Tryz.prog 78 #[.pointer (some ⟨g, 0, none⟩)] w (qoh W g A c b []) := by
 refine qkn (vs := [vP g 0]) Tryz.func78 rfl rfl (by kernel_rfl) (σ0 := [(0, vP g 0)]) rfl ?_
 intro a HF
 have HM := Mem.start w
 replace HM := (HW.nil 82 3).nil 22 1
 have hc0 : ([] : List Nat).length ≤ 0 := Nat.le_refl _
 have hp : prs b = prs b := rfl
 have hq0 : ([] : List Nat).length ≤ 3 := Nat.zero_le _
 refine s_fs1 ?_
 refine fo HF 0 rfl rfl (s_ea HF HM #[vI 0] ?_)
 clear HF HM; intro a w2 g2 HF HM
 refine s_d0 (s_fs1 ?_)
 refine s_fz HF HM 0 rfl (v := .func (.func 104) #[] #[vP g2 0]) (Yl.makeFunc (fst := []) (caps := [vP g2 0]) rfl rfl rfl) fun a HF => ?_
 refine fo HF 1 rfl rfl ?_
 refine qyx HF (f := 104) (caps := [vP g2 0]) rfl rfl rfl ?_
 clear HF; intro a HF
 refine s_d0 (s_fs1 ?_)
 refine fp HF 1 0 [(6, vP g 0)] fun a HF => ?_
 refine s_fk HF 1 fun a HF => ?_
 refine fp HF 1 2 [(8, vP g 1)] fun a HF => ?_
 refine fo HF 3 rfl rfl (s_es HF HM 3 ?_)
 clear HM; intro w2_3 HM
 refine s_d0 (s_fs1 ?_)
 refine fp HF 1 0 [(9, vP g 0)] fun a HF => ?_
 refine fo HF 1 rfl rfl ?_
 refine e_cl HF [vP g 0, .string (ByteArray.mk #[104, 101, 97, 100])] rfl rfl (qec (l2 := [qm]) W _ g 3 _ _ none 0 ([] : List Sec) _ _ (HM.pk [3, 2, 0, 1]) (Nat.le_of_ble_eq_true rfl) rfl) ?_
 rintro _ w10 ⟨rfl, S10, k10, hk10, HM2⟩
 refine ⟨_, rfl, ?_⟩
 replace HM := HM2
 clear HF; intro a HF
 refine s_d0 ?_
 replace HM : Mem W _ [.blk g #[.slice A b.length c, vI 3, .slice none (([] : List Nat).length) 0, .slice S10 ([qm].length) k10] 109, .row (.slice S10 ([qm].length) k10) ([qm].length) ([qm].flatMap secL) 82 3, .blk g2 #[vI 0] 53, .row (.slice none (([] : List Nat).length) 0) (([] : List Nat).length) (([] : List Nat).map U64) 22 1] := HM
 refine wp_seq ?_
 rcases qh3 b 3 with hv_e1 | ⟨nx, e1, hv_e1⟩
 ·
  refine qa ?_
  refine fp HF 1 0 [(11, vP g 0)] fun a HF => ?_
  refine fo HF 1 rfl rfl ?_
  exact qal HF [vP g 0] rfl (qeb W _ g 3 A none c 0 b ([] : List Nat) (.slice S10 ([qm].length) k10) _ (HM.pk [0, 3, 1, 2]) hin hbc hl hb hb3 hq0 hv_e1) fun w2 HM => zl HF rfl HM (i := 1) rfl (hp.trans (qev hv_e1)) [] (by decide) rfl
 ·
  have hp := hp.trans hv_e1.go1
  have hi_e1 := hv_e1.in hb3
  have hq_e1 := q_le1 (x := nx) hq0 hi_e1.1
  refine qa ?_
  refine fp HF 1 0 [(11, vP g 0)] fun a HF => ?_
  refine fo HF 1 rfl rfl ?_
  refine e_cl HF [vP g 0] rfl rfl (qea W _ g 3 A none c 0 b ([] : List Nat) (.slice S10 ([qm].length) k10) _ (HM.pk [0, 3, 1, 2]) hin hbc hl hb hb3 hq0 hv_e1) ?_
  rintro _ w12 ⟨rfl, A12, c12, hc12, HM2⟩
  refine ⟨_, rfl, ?_⟩
  replace HM := HM2
  clear HF; intro a HF
  refine s_d0 (s_fs1 ?_)
  refine fp HF 1 0 [(13, vP g 0)] fun a HF => ?_
  refine fo HF 1 rfl rfl ?_
  refine e_cl HF [vP g 0, .string (ByteArray.mk #[110, 101, 120, 116])] rfl rfl (qec (l2 := [qm, ⟨qb 0, 3, e1⟩]) W _ g e1 _ _ S10 k10 ([qm]) _ _ (HM.pk [0, 2, 1, 3]) (Nat.le_of_ble_eq_true rfl) rfl) ?_
  rintro _ w14 ⟨rfl, S14, k14, hk14, HM2⟩
  refine ⟨_, rfl, ?_⟩
  replace HM := HM2
  clear HF; intro a HF
  refine s_d0 ?_
  replace HM : Mem W _ [.blk g #[.slice A b.length c, vI e1, .slice A12 ((([] : List Nat) ++ [nx]).length) c12, .slice S14 ([qm, ⟨qb 0, 3, e1⟩].length) k14] 109, .row (.slice S14 ([qm, ⟨qb 0, 3, e1⟩].length) k14) ([qm, ⟨qb 0, 3, e1⟩].length) ([qm, ⟨qb 0, 3, e1⟩].flatMap secL) 82 3, .row (.slice A12 ((([] : List Nat) ++ [nx]).length) c12) ((([] : List Nat) ++ [nx]).length) ((([] : List Nat) ++ [nx]).map U64) 22 1, .blk g2 #[vI 0] 53] := HM
  refine wp_seq ?_
  rcases qnh b e1 1 64 with hv_a1 | ⟨cp, a1, hv_a1, hr_a1⟩ | ⟨cp, a1, hv_a1, hr_a1⟩
  ·
   refine qa ?_
   refine fp HF 1 0 [(15, vP g 0)] fun a HF => ?_
   refine fo HF 1 rfl rfl ?_
   exact qal HF [vP g 0, vQ 1, vQ 64] rfl (qi8 W _ g e1 A A12 c c12 b (([] : List Nat) ++ [nx]) (.slice S14 ([qm, ⟨qb 0, 3, e1⟩].length) k14) _ 1 64 (by decide) (HM.pk [0, 2, 1, 3]) hin hbc hl hb hi_e1.2 hq_e1 hv_a1) fun w2 HM => zl HF rfl HM (i := 1) rfl (hp.trans (qda hv_a1)) [] (by decide) rfl
  ·
   refine qa ?_
   refine fp HF 1 0 [(15, vP g 0)] fun a HF => ?_
   refine fo HF 1 rfl rfl ?_
   exact qal HF [vP g 0, vQ 1, vQ 64] rfl (qg2 W _ g e1 A A12 c c12 b (([] : List Nat) ++ [nx]) (.slice S14 ([qm, ⟨qb 0, 3, e1⟩].length) k14) _ 1 64 (by decide) (HM.pk [0, 2, 1, 3]) hin hbc hl hb hi_e1.2 hq_e1 hv_a1 hr_a1) fun w2 HM => zl HF rfl HM (i := 1) rfl (hp.trans (hv_a1.bad hr_a1)) [] (by decide) rfl
  ·
   have hp := hp.trans (hv_a1.goC hr_a1)
   have hi_a1 := hv_a1.in hi_e1.2
   have hq_a1 := q_le1 (x := cp) hq_e1 hi_a1.1
   refine qa ?_
   refine fp HF 1 0 [(15, vP g 0)] fun a HF => ?_
   refine fo HF 1 rfl rfl ?_
   refine e_cl HF [vP g 0, vQ 1, vQ 64] rfl rfl (qfq W _ g e1 A A12 c c12 b (([] : List Nat) ++ [nx]) (.slice S14 ([qm, ⟨qb 0, 3, e1⟩].length) k14) _ 1 64 (by decide) (HM.pk [0, 2, 1, 3]) hin hbc hl hb hi_e1.2 hq_e1 hv_a1 hr_a1) ?_
   rintro _ w16 ⟨rfl, A16, c16, hc16, HM2⟩
   refine ⟨_, rfl, ?_⟩
   replace HM := HM2
   clear HF; intro a HF
   refine fp HF 1 2 [(3, vI cp)] fun a HF => ?_
   refine s_d0 (wp_seq ?_)
   rcases qh3 b a1 with hv_a2 | ⟨cr, a2, hv_a2⟩
   ·
    refine qa ?_
    refine fp HF 1 0 [(17, vP g 0)] fun a HF => ?_
    refine fo HF 1 rfl rfl ?_
    exact qal HF [vP g 0] rfl (qeb W _ g a1 A A16 c c16 b ((([] : List Nat) ++ [nx]) ++ [cp]) (.slice S14 ([qm, ⟨qb 0, 3, e1⟩].length) k14) _ (HM.pk [0, 1, 2, 3]) hin hbc hl hb hi_a1.2 hq_a1 hv_a2) fun w2 HM => zl HF rfl HM (i := 1) rfl (hp.trans (qev hv_a2)) [] (by decide) rfl
   ·
    have hp := hp.trans hv_a2.go1
    have hi_a2 := hv_a2.in hi_a1.2
    have hq_a2 := q_le1 (x := cr) hq_a1 hi_a2.1
    refine qa ?_
    refine fp HF 1 0 [(17, vP g 0)] fun a HF => ?_
    refine fo HF 1 rfl rfl ?_
    refine e_cl HF [vP g 0] rfl rfl (qea W _ g a1 A A16 c c16 b ((([] : List Nat) ++ [nx]) ++ [cp]) (.slice S14 ([qm, ⟨qb 0, 3, e1⟩].length) k14) _ (HM.pk [0, 1, 2, 3]) hin hbc hl hb hi_a1.2 hq_a1 hv_a2) ?_
    rintro _ w18 ⟨rfl, A18, c18, hc18, HM2⟩
    refine ⟨_, rfl, ?_⟩
    replace HM := HM2
    clear HF; intro a HF
    refine s_d0 (wp_seq ?_)
    rcases qnh b a2 1 256 with hv_e2 | ⟨gp, e2, hv_e2, hr_e2⟩ | ⟨gp, e2, hv_e2, hr_e2⟩
    ·
     refine qa ?_
     refine fp HF 1 0 [(19, vP g 0)] fun a HF => ?_
     refine fo HF 1 rfl rfl ?_
     exact qal HF [vP g 0, vQ 1, vQ 256] rfl (qi8 W _ g a2 A A18 c c18 b (((([] : List Nat) ++ [nx]) ++ [cp]) ++ [cr]) (.slice S14 ([qm, ⟨qb 0, 3, e1⟩].length) k14) _ 1 256 (by decide) (HM.pk [0, 1, 2, 3]) hin hbc hl hb hi_a2.2 hq_a2 hv_e2) fun w2 HM => zl HF rfl HM (i := 1) rfl (hp.trans (qda hv_e2)) [] (by decide) rfl
    ·
     refine qa ?_
     refine fp HF 1 0 [(19, vP g 0)] fun a HF => ?_
     refine fo HF 1 rfl rfl ?_
     exact qal HF [vP g 0, vQ 1, vQ 256] rfl (qg2 W _ g a2 A A18 c c18 b (((([] : List Nat) ++ [nx]) ++ [cp]) ++ [cr]) (.slice S14 ([qm, ⟨qb 0, 3, e1⟩].length) k14) _ 1 256 (by decide) (HM.pk [0, 1, 2, 3]) hin hbc hl hb hi_a2.2 hq_a2 hv_e2 hr_e2) fun w2 HM => zl HF rfl HM (i := 1) rfl (hp.trans (hv_e2.bad hr_e2)) [] (by decide) rfl
    ·
     have hp := hp.trans (hv_e2.goC hr_e2)
     have hi_e2 := hv_e2.in hi_a2.2
     have hq_e2 := q_le1 (x := gp) hq_a2 hi_e2.1
     refine qa ?_
     refine fp HF 1 0 [(19, vP g 0)] fun a HF => ?_
     refine fo HF 1 rfl rfl ?_
     refine e_cl HF [vP g 0, vQ 1, vQ 256] rfl rfl (qfq W _ g a2 A A18 c c18 b (((([] : List Nat) ++ [nx]) ++ [cp]) ++ [cr]) (.slice S14 ([qm, ⟨qb 0, 3, e1⟩].length) k14) _ 1 256 (by decide) (HM.pk [0, 1, 2, 3]) hin hbc hl hb hi_a2.2 hq_a2 hv_e2 hr_e2) ?_
     rintro _ w20 ⟨rfl, A20, c20, hc20, HM2⟩
     refine ⟨_, rfl, ?_⟩
     replace HM := HM2
     clear HF; intro a HF
     refine fp HF 1 2 [(4, vI gp)] fun a HF => ?_
     refine s_d0 ?_
     have h3 : 3 * cp * (gp - 1) ≤ 192 * 255 := Nat.mul_le_mul (by omega) (by omega)
     refine s_fs1 ?_
     refine fp HF 1 0 [(21, vP g 0)] fun a HF => ?_
     refine fo HF 1 rfl rfl ?_
     refine e_cl HF [vP g 0, .string (ByteArray.mk #[99, 111, 110, 102, 105, 103])] rfl rfl (qec (l2 := [qm, ⟨qb 0, 3, e1⟩, ⟨qb 1, e1, e2⟩]) W _ g e2 _ _ S14 k14 ([qm, ⟨qb 0, 3, e1⟩]) _ _ (HM.pk [0, 2, 1, 3]) (Nat.le_of_ble_eq_true rfl) rfl) ?_
     rintro _ w22 ⟨rfl, S22, k22, hk22, HM2⟩
     refine ⟨_, rfl, ?_⟩
     replace HM := HM2
     clear HF; intro a HF
     refine s_d0 ?_
     replace HM : Mem W _ [.blk g #[.slice A b.length c, vI e2, .slice A20 (((((([] : List Nat) ++ [nx]) ++ [cp]) ++ [cr]) ++ [gp]).length) c20, .slice S22 ([qm, ⟨qb 0, 3, e1⟩, ⟨qb 1, e1, e2⟩].length) k22] 109, .row (.slice S22 ([qm, ⟨qb 0, 3, e1⟩, ⟨qb 1, e1, e2⟩].length) k22) ([qm, ⟨qb 0, 3, e1⟩, ⟨qb 1, e1, e2⟩].length) ([qm, ⟨qb 0, 3, e1⟩, ⟨qb 1, e1, e2⟩].flatMap secL) 82 3, .row (.slice A20 (((((([] : List Nat) ++ [nx]) ++ [cp]) ++ [cr]) ++ [gp]).length) c20) (((((([] : List Nat) ++ [nx]) ++ [cp]) ++ [cr]) ++ [gp]).length) (((((([] : List Nat) ++ [nx]) ++ [cp]) ++ [cr]) ++ [gp]).map U64) 22 1, .blk g2 #[vI 0] 53] := HM
     refine wp_seq ?_
     rcases qew b (2 * (gp - 1)) e2 with hv_e3 | ⟨gs, e3, hv_e3⟩
     ·
      refine qa ?_
      refine fp HF 3 0 [(25, vI (IntKind.i64.wrap ((gp : Int) - 1))), (23, vP g 0)] fun a HF => ?_
      replace HF := HF.sp 25 (vI (gp - 1 : Nat)) rfl (qc (by omega) (by omega))
      refine fp HF 1 3 [(26, vI (IntKind.i64.wrap (2 * ((gp - 1 : Nat) : Int))))] fun a HF => ?_
      replace HF := HF.sp 26 (vI (2 * (gp - 1) : Nat)) rfl (qc (by omega) (by omega))
      refine fo HF 4 rfl rfl ?_
      exact qal HF [vP g 0, vI (2 * (gp - 1) : Nat)] rfl (qg4 W _ g e2 A A20 c c20 b ((((([] : List Nat) ++ [nx]) ++ [cp]) ++ [cr]) ++ [gp]) (.slice S22 ([qm, ⟨qb 0, 3, e1⟩, ⟨qb 1, e1, e2⟩].length) k22) _ (2 * (gp - 1)) (by omega) hc20 (HM.pk [0, 2, 1, 3]) hin hbc hl hb hi_e2.2 hq_e2 hv_e3) fun w2 HM => zl HF rfl HM (i := 1) rfl (hp.trans (qbb hv_e3)) [] (by decide) rfl
     ·
      have hp := hp.trans hv_e3.goK
      have hi_e3 := hv_e3.in hi_e2.2
      have hq_e3 := q_leK (xs := gs) hq_e2 hi_e3.1 hi_e3.2.1
      refine qa ?_
      refine fp HF 3 0 [(25, vI (IntKind.i64.wrap ((gp : Int) - 1))), (23, vP g 0)] fun a HF => ?_
      replace HF := HF.sp 25 (vI (gp - 1 : Nat)) rfl (qc (by omega) (by omega))
      refine fp HF 1 3 [(26, vI (IntKind.i64.wrap (2 * ((gp - 1 : Nat) : Int))))] fun a HF => ?_
      replace HF := HF.sp 26 (vI (2 * (gp - 1) : Nat)) rfl (qc (by omega) (by omega))
      refine fo HF 4 rfl rfl ?_
      refine e_cl HF [vP g 0, vI (2 * (gp - 1) : Nat)] rfl rfl (qg3 W _ g e2 A A20 c c20 b ((((([] : List Nat) ++ [nx]) ++ [cp]) ++ [cr]) ++ [gp]) (.slice S22 ([qm, ⟨qb 0, 3, e1⟩, ⟨qb 1, e1, e2⟩].length) k22) _ (2 * (gp - 1)) (by omega) hc20 (HM.pk [0, 2, 1, 3]) hin hbc hl hb hi_e2.2 hq_e2 hv_e3) ?_
      rintro _ w27 ⟨rfl, A27, c27, hc27, HM2⟩
      refine ⟨_, rfl, ?_⟩
      replace HM := HM2
      clear HF; intro a HF
      refine s_d0 (s_fs1 ?_)
      refine fp HF 1 0 [(28, vP g 0)] fun a HF => ?_
      refine fo HF 1 rfl rfl ?_
      refine e_cl HF [vP g 0, .string (ByteArray.mk #[103, 114, 111, 117, 112, 115])] rfl rfl (qec (l2 := [qm, ⟨qb 0, 3, e1⟩, ⟨qb 1, e1, e2⟩, ⟨qb 2, e2, e3⟩]) W _ g e3 _ _ S22 k22 ([qm, ⟨qb 0, 3, e1⟩, ⟨qb 1, e1, e2⟩]) _ _ (HM.pk [0, 2, 1, 3]) (Nat.le_of_ble_eq_true rfl) rfl) ?_
      rintro _ w29 ⟨rfl, S29, k29, hk29, HM2⟩
      refine ⟨_, rfl, ?_⟩
      replace HM := HM2
      clear HF; intro a HF
      refine s_d0 ?_
      replace HM : Mem W _ [.blk g #[.slice A b.length c, vI e3, .slice A27 ((((((([] : List Nat) ++ [nx]) ++ [cp]) ++ [cr]) ++ [gp]) ++ gs).length) c27, .slice S29 ([qm, ⟨qb 0, 3, e1⟩, ⟨qb 1, e1, e2⟩, ⟨qb 2, e2, e3⟩].length) k29] 109, .row (.slice S29 ([qm, ⟨qb 0, 3, e1⟩, ⟨qb 1, e1, e2⟩, ⟨qb 2, e2, e3⟩].length) k29) ([qm, ⟨qb 0, 3, e1⟩, ⟨qb 1, e1, e2⟩, ⟨qb 2, e2, e3⟩].length) ([qm, ⟨qb 0, 3, e1⟩, ⟨qb 1, e1, e2⟩, ⟨qb 2, e2, e3⟩].flatMap secL) 82 3, .row (.slice A27 ((((((([] : List Nat) ++ [nx]) ++ [cp]) ++ [cr]) ++ [gp]) ++ gs).length) c27) ((((((([] : List Nat) ++ [nx]) ++ [cp]) ++ [cr]) ++ [gp]) ++ gs).length) ((((((([] : List Nat) ++ [nx]) ++ [cp]) ++ [cr]) ++ [gp]) ++ gs).map U64) 22 1, .blk g2 #[vI 0] 53] := HM
      refine wp_seq ?_
      rcases qew b cp e3 with hv_e4 | ⟨cl, e4, hv_e4⟩
      ·
       refine qa ?_
       refine fp HF 2 0 [(31, vI cp), (30, vP g 0)] fun a HF => ?_
       refine fo HF 2 rfl rfl ?_
       exact qal HF [vP g 0, vI cp] rfl (qg4 W _ g e3 A A27 c c27 b (((((([] : List Nat) ++ [nx]) ++ [cp]) ++ [cr]) ++ [gp]) ++ gs) (.slice S29 ([qm, ⟨qb 0, 3, e1⟩, ⟨qb 1, e1, e2⟩, ⟨qb 2, e2, e3⟩].length) k29) _ cp (by omega) hc27 (HM.pk [0, 2, 1, 3]) hin hbc hl hb hi_e3.2.2 hq_e3 hv_e4) fun w2 HM => zl HF rfl HM (i := 1) rfl (hp.trans (qbb hv_e4)) [] (by decide) rfl
      ·
       have hp := hp.trans hv_e4.goK
       have hi_e4 := hv_e4.in hi_e3.2.2
       have hq_e4 := q_leK (xs := cl) hq_e3 hi_e4.1 hi_e4.2.1
       refine qa ?_
       refine fp HF 2 0 [(31, vI cp), (30, vP g 0)] fun a HF => ?_
       refine fo HF 2 rfl rfl ?_
       refine e_cl HF [vP g 0, vI cp] rfl rfl (qg3 W _ g e3 A A27 c c27 b (((((([] : List Nat) ++ [nx]) ++ [cp]) ++ [cr]) ++ [gp]) ++ gs) (.slice S29 ([qm, ⟨qb 0, 3, e1⟩, ⟨qb 1, e1, e2⟩, ⟨qb 2, e2, e3⟩].length) k29) _ cp (by omega) hc27 (HM.pk [0, 2, 1, 3]) hin hbc hl hb hi_e3.2.2 hq_e3 hv_e4) ?_
       rintro _ w32 ⟨rfl, A32, c32, hc32, HM2⟩
       refine ⟨_, rfl, ?_⟩
       replace HM := HM2
       clear HF; intro a HF
       refine s_d0 (s_fs1 ?_)
       refine fp HF 1 0 [(33, vP g 0)] fun a HF => ?_
       refine fo HF 1 rfl rfl ?_
       refine e_cl HF [vP g 0, .string (ByteArray.mk #[99, 108, 111, 99, 107, 115])] rfl rfl (qec (l2 := [qm, ⟨qb 0, 3, e1⟩, ⟨qb 1, e1, e2⟩, ⟨qb 2, e2, e3⟩, ⟨qb 3, e3, e4⟩]) W _ g e4 _ _ S29 k29 ([qm, ⟨qb 0, 3, e1⟩, ⟨qb 1, e1, e2⟩, ⟨qb 2, e2, e3⟩]) _ _ (HM.pk [0, 2, 1, 3]) (Nat.le_of_ble_eq_true rfl) rfl) ?_
       rintro _ w34 ⟨rfl, S34, k34, hk34, HM2⟩
       refine ⟨_, rfl, ?_⟩
       replace HM := HM2
       clear HF; intro a HF
       refine s_d0 ?_
       replace HM : Mem W _ [.blk g #[.slice A b.length c, vI e4, .slice A32 (((((((([] : List Nat) ++ [nx]) ++ [cp]) ++ [cr]) ++ [gp]) ++ gs) ++ cl).length) c32, .slice S34 ([qm, ⟨qb 0, 3, e1⟩, ⟨qb 1, e1, e2⟩, ⟨qb 2, e2, e3⟩, ⟨qb 3, e3, e4⟩].length) k34] 109, .row (.slice S34 ([qm, ⟨qb 0, 3, e1⟩, ⟨qb 1, e1, e2⟩, ⟨qb 2, e2, e3⟩, ⟨qb 3, e3, e4⟩].length) k34) ([qm, ⟨qb 0, 3, e1⟩, ⟨qb 1, e1, e2⟩, ⟨qb 2, e2, e3⟩, ⟨qb 3, e3, e4⟩].length) ([qm, ⟨qb 0, 3, e1⟩, ⟨qb 1, e1, e2⟩, ⟨qb 2, e2, e3⟩, ⟨qb 3, e3, e4⟩].flatMap secL) 82 3, .row (.slice A32 (((((((([] : List Nat) ++ [nx]) ++ [cp]) ++ [cr]) ++ [gp]) ++ gs) ++ cl).length) c32) (((((((([] : List Nat) ++ [nx]) ++ [cp]) ++ [cr]) ++ [gp]) ++ gs) ++ cl).length) (((((((([] : List Nat) ++ [nx]) ++ [cp]) ++ [cr]) ++ [gp]) ++ gs) ++ cl).map U64) 22 1, .blk g2 #[vI 0] 53] := HM
       refine wp_seq ?_
       rcases qew b cp e4 with hv_e5 | ⟨cu, e5, hv_e5⟩
       ·
        refine qa ?_
        refine fp HF 2 0 [(36, vI cp), (35, vP g 0)] fun a HF => ?_
        refine fo HF 2 rfl rfl ?_
        exact qal HF [vP g 0, vI cp] rfl (qg4 W _ g e4 A A32 c c32 b ((((((([] : List Nat) ++ [nx]) ++ [cp]) ++ [cr]) ++ [gp]) ++ gs) ++ cl) (.slice S34 ([qm, ⟨qb 0, 3, e1⟩, ⟨qb 1, e1, e2⟩, ⟨qb 2, e2, e3⟩, ⟨qb 3, e3, e4⟩].length) k34) _ cp (by omega) hc32 (HM.pk [0, 2, 1, 3]) hin hbc hl hb hi_e4.2.2 hq_e4 hv_e5) fun w2 HM => zl HF rfl HM (i := 1) rfl (hp.trans (qbb hv_e5)) [] (by decide) rfl
       ·
        have hp := hp.trans hv_e5.goK
        have hi_e5 := hv_e5.in hi_e4.2.2
        have hq_e5 := q_leK (xs := cu) hq_e4 hi_e5.1 hi_e5.2.1
        refine qa ?_
        refine fp HF 2 0 [(36, vI cp), (35, vP g 0)] fun a HF => ?_
        refine fo HF 2 rfl rfl ?_
        refine e_cl HF [vP g 0, vI cp] rfl rfl (qg3 W _ g e4 A A32 c c32 b ((((((([] : List Nat) ++ [nx]) ++ [cp]) ++ [cr]) ++ [gp]) ++ gs) ++ cl) (.slice S34 ([qm, ⟨qb 0, 3, e1⟩, ⟨qb 1, e1, e2⟩, ⟨qb 2, e2, e3⟩, ⟨qb 3, e3, e4⟩].length) k34) _ cp (by omega) hc32 (HM.pk [0, 2, 1, 3]) hin hbc hl hb hi_e4.2.2 hq_e4 hv_e5) ?_
        rintro _ w37 ⟨rfl, A37, c37, hc37, HM2⟩
        refine ⟨_, rfl, ?_⟩
        replace HM := HM2
        clear HF; intro a HF
        refine s_d0 (s_fs1 ?_)
        refine fp HF 1 0 [(38, vP g 0)] fun a HF => ?_
        refine fo HF 1 rfl rfl ?_
        refine e_cl HF [vP g 0, .string (ByteArray.mk #[99, 117, 114, 114, 101, 110, 116])] rfl rfl (qec (l2 := [qm, ⟨qb 0, 3, e1⟩, ⟨qb 1, e1, e2⟩, ⟨qb 2, e2, e3⟩, ⟨qb 3, e3, e4⟩, ⟨qb 4, e4, e5⟩]) W _ g e5 _ _ S34 k34 ([qm, ⟨qb 0, 3, e1⟩, ⟨qb 1, e1, e2⟩, ⟨qb 2, e2, e3⟩, ⟨qb 3, e3, e4⟩]) _ _ (HM.pk [0, 2, 1, 3]) (Nat.le_of_ble_eq_true rfl) rfl) ?_
        rintro _ w39 ⟨rfl, S39, k39, hk39, HM2⟩
        refine ⟨_, rfl, ?_⟩
        replace HM := HM2
        clear HF; intro a HF
        refine s_d0 ?_
        replace HM : Mem W _ [.blk g #[.slice A b.length c, vI e5, .slice A37 ((((((((([] : List Nat) ++ [nx]) ++ [cp]) ++ [cr]) ++ [gp]) ++ gs) ++ cl) ++ cu).length) c37, .slice S39 ([qm, ⟨qb 0, 3, e1⟩, ⟨qb 1, e1, e2⟩, ⟨qb 2, e2, e3⟩, ⟨qb 3, e3, e4⟩, ⟨qb 4, e4, e5⟩].length) k39] 109, .row (.slice S39 ([qm, ⟨qb 0, 3, e1⟩, ⟨qb 1, e1, e2⟩, ⟨qb 2, e2, e3⟩, ⟨qb 3, e3, e4⟩, ⟨qb 4, e4, e5⟩].length) k39) ([qm, ⟨qb 0, 3, e1⟩, ⟨qb 1, e1, e2⟩, ⟨qb 2, e2, e3⟩, ⟨qb 3, e3, e4⟩, ⟨qb 4, e4, e5⟩].length) ([qm, ⟨qb 0, 3, e1⟩, ⟨qb 1, e1, e2⟩, ⟨qb 2, e2, e3⟩, ⟨qb 3, e3, e4⟩, ⟨qb 4, e4, e5⟩].flatMap secL) 82 3, .row (.slice A37 ((((((((([] : List Nat) ++ [nx]) ++ [cp]) ++ [cr]) ++ [gp]) ++ gs) ++ cl) ++ cu).length) c37) ((((((((([] : List Nat) ++ [nx]) ++ [cp]) ++ [cr]) ++ [gp]) ++ gs) ++ cl) ++ cu).length) ((((((((([] : List Nat) ++ [nx]) ++ [cp]) ++ [cr]) ++ [gp]) ++ gs) ++ cl) ++ cu).map U64) 22 1, .blk g2 #[vI 0] 53] := HM
        refine wp_seq ?_
        rcases qnh b e5 0 65535 with hv_a3 | ⟨tk, a3, hv_a3, hr_a3⟩ | ⟨tk, a3, hv_a3, hr_a3⟩
        ·
         refine qa ?_
         refine fp HF 2 0 [(41, vP g 0), (40, vP g 0)] fun a HF => ?_
         refine fo HF 2 rfl rfl ?_
         exact qal HF [vP g 0, vQ 0, vQ 65535] rfl (qi8 W _ g e5 A A37 c c37 b (((((((([] : List Nat) ++ [nx]) ++ [cp]) ++ [cr]) ++ [gp]) ++ gs) ++ cl) ++ cu) (.slice S39 ([qm, ⟨qb 0, 3, e1⟩, ⟨qb 1, e1, e2⟩, ⟨qb 2, e2, e3⟩, ⟨qb 3, e3, e4⟩, ⟨qb 4, e4, e5⟩].length) k39) _ 0 65535 (by decide) (HM.pk [0, 2, 1, 3]) hin hbc hl hb hi_e5.2.2 hq_e5 hv_a3) fun w2 HM => zl HF rfl HM (i := 1) rfl (hp.trans (qda hv_a3)) [] (by decide) rfl
        ·
         refine qa ?_
         refine fp HF 2 0 [(41, vP g 0), (40, vP g 0)] fun a HF => ?_
         refine fo HF 2 rfl rfl ?_
         exact qal HF [vP g 0, vQ 0, vQ 65535] rfl (qg2 W _ g e5 A A37 c c37 b (((((((([] : List Nat) ++ [nx]) ++ [cp]) ++ [cr]) ++ [gp]) ++ gs) ++ cl) ++ cu) (.slice S39 ([qm, ⟨qb 0, 3, e1⟩, ⟨qb 1, e1, e2⟩, ⟨qb 2, e2, e3⟩, ⟨qb 3, e3, e4⟩, ⟨qb 4, e4, e5⟩].length) k39) _ 0 65535 (by decide) (HM.pk [0, 2, 1, 3]) hin hbc hl hb hi_e5.2.2 hq_e5 hv_a3 hr_a3) fun w2 HM => zl HF rfl HM (i := 1) rfl (hp.trans (hv_a3.bad hr_a3)) [] (by decide) rfl
        ·
         have hp := hp.trans (hv_a3.goC hr_a3)
         have hi_a3 := hv_a3.in hi_e5.2.2
         have hq_a3 := q_le1 (x := tk) hq_e5 hi_a3.1
         rcases qew b (8 * tk) a3 with hv_e6 | ⟨ts, e6, hv_e6⟩
         ·
          refine qa ?_
          refine fp HF 2 0 [(41, vP g 0), (40, vP g 0)] fun a HF => ?_
          refine fo HF 2 rfl rfl ?_
          refine e_cl HF [vP g 0, vQ 0, vQ 65535] rfl rfl (qfq W _ g e5 A A37 c c37 b (((((((([] : List Nat) ++ [nx]) ++ [cp]) ++ [cr]) ++ [gp]) ++ gs) ++ cl) ++ cu) (.slice S39 ([qm, ⟨qb 0, 3, e1⟩, ⟨qb 1, e1, e2⟩, ⟨qb 2, e2, e3⟩, ⟨qb 3, e3, e4⟩, ⟨qb 4, e4, e5⟩].length) k39) _ 0 65535 (by decide) (HM.pk [0, 2, 1, 3]) hin hbc hl hb hi_e5.2.2 hq_e5 hv_a3 hr_a3) ?_
          rintro _ w42 ⟨rfl, A42, c42, hc42, HM2⟩
          refine ⟨_, rfl, ?_⟩
          replace HM := HM2
          clear HF; intro a HF
          refine fp HF 1 3 [(43, vI (IntKind.i64.wrap (8 * (tk : Int))))] fun a HF => ?_
          replace HF := HF.sp 43 (vI (8 * tk : Nat)) rfl (qc (by omega) (by omega))
          refine fo HF 4 rfl rfl ?_
          exact qal HF [vP g 0, vI (8 * tk : Nat)] rfl (qg4 W _ g a3 A A42 c c42 b ((((((((([] : List Nat) ++ [nx]) ++ [cp]) ++ [cr]) ++ [gp]) ++ gs) ++ cl) ++ cu) ++ [tk]) (.slice S39 ([qm, ⟨qb 0, 3, e1⟩, ⟨qb 1, e1, e2⟩, ⟨qb 2, e2, e3⟩, ⟨qb 3, e3, e4⟩, ⟨qb 4, e4, e5⟩].length) k39) _ (8 * tk) (by omega) hc42 (HM.pk [0, 1, 2, 3]) hin hbc hl hb hi_a3.2 hq_a3 hv_e6) fun w2 HM => zl HF rfl HM (i := 1) rfl (hp.trans (qbb hv_e6)) [] (by decide) rfl
         ·
          have hp := hp.trans hv_e6.goK
          have hi_e6 := hv_e6.in hi_a3.2
          have hq_e6 := q_leK (xs := ts) hq_a3 hi_e6.1 hi_e6.2.1
          refine qa ?_
          refine fp HF 2 0 [(41, vP g 0), (40, vP g 0)] fun a HF => ?_
          refine fo HF 2 rfl rfl ?_
          refine e_cl HF [vP g 0, vQ 0, vQ 65535] rfl rfl (qfq W _ g e5 A A37 c c37 b (((((((([] : List Nat) ++ [nx]) ++ [cp]) ++ [cr]) ++ [gp]) ++ gs) ++ cl) ++ cu) (.slice S39 ([qm, ⟨qb 0, 3, e1⟩, ⟨qb 1, e1, e2⟩, ⟨qb 2, e2, e3⟩, ⟨qb 3, e3, e4⟩, ⟨qb 4, e4, e5⟩].length) k39) _ 0 65535 (by decide) (HM.pk [0, 2, 1, 3]) hin hbc hl hb hi_e5.2.2 hq_e5 hv_a3 hr_a3) ?_
          rintro _ w42 ⟨rfl, A42, c42, hc42, HM2⟩
          refine ⟨_, rfl, ?_⟩
          replace HM := HM2
          clear HF; intro a HF
          refine fp HF 1 3 [(43, vI (IntKind.i64.wrap (8 * (tk : Int))))] fun a HF => ?_
          replace HF := HF.sp 43 (vI (8 * tk : Nat)) rfl (qc (by omega) (by omega))
          refine fo HF 4 rfl rfl ?_
          refine e_cl HF [vP g 0, vI (8 * tk : Nat)] rfl rfl (qg3 W _ g a3 A A42 c c42 b ((((((((([] : List Nat) ++ [nx]) ++ [cp]) ++ [cr]) ++ [gp]) ++ gs) ++ cl) ++ cu) ++ [tk]) (.slice S39 ([qm, ⟨qb 0, 3, e1⟩, ⟨qb 1, e1, e2⟩, ⟨qb 2, e2, e3⟩, ⟨qb 3, e3, e4⟩, ⟨qb 4, e4, e5⟩].length) k39) _ (8 * tk) (by omega) hc42 (HM.pk [0, 1, 2, 3]) hin hbc hl hb hi_a3.2 hq_a3 hv_e6) ?_
          rintro _ w44 ⟨rfl, A44, c44, hc44, HM2⟩
          refine ⟨_, rfl, ?_⟩
          replace HM := HM2
          clear HF; intro a HF
          refine s_d0 ?_
          replace HF := HF.to [(4, vI gp), (3, vI cp), (2, vP g2 0), (0, vP g 0)]
          refine s_fs1 ?_
          refine fp HF 1 0 [(45, vP g 0)] fun a HF => ?_
          refine fo HF 1 rfl rfl ?_
          refine e_cl HF [vP g 0, .string (ByteArray.mk #[116, 97, 115, 107, 115])] rfl rfl (qec (l2 := [qm, ⟨qb 0, 3, e1⟩, ⟨qb 1, e1, e2⟩, ⟨qb 2, e2, e3⟩, ⟨qb 3, e3, e4⟩, ⟨qb 4, e4, e5⟩, ⟨qb 5, e5, e6⟩]) W _ g e6 _ _ S39 k39 ([qm, ⟨qb 0, 3, e1⟩, ⟨qb 1, e1, e2⟩, ⟨qb 2, e2, e3⟩, ⟨qb 3, e3, e4⟩, ⟨qb 4, e4, e5⟩]) _ _ (HM.pk [0, 2, 1, 3]) (Nat.le_of_ble_eq_true rfl) rfl) ?_
          rintro _ w46 ⟨rfl, S46, k46, hk46, HM2⟩
          refine ⟨_, rfl, ?_⟩
          replace HM := HM2
          clear HF; intro a HF
          refine s_d0 ?_
          replace HM : Mem W _ [.blk g #[.slice A b.length c, vI e6, .slice A44 ((((((((((([] : List Nat) ++ [nx]) ++ [cp]) ++ [cr]) ++ [gp]) ++ gs) ++ cl) ++ cu) ++ [tk]) ++ ts).length) c44, .slice S46 ([qm, ⟨qb 0, 3, e1⟩, ⟨qb 1, e1, e2⟩, ⟨qb 2, e2, e3⟩, ⟨qb 3, e3, e4⟩, ⟨qb 4, e4, e5⟩, ⟨qb 5, e5, e6⟩].length) k46] 109, .row (.slice S46 ([qm, ⟨qb 0, 3, e1⟩, ⟨qb 1, e1, e2⟩, ⟨qb 2, e2, e3⟩, ⟨qb 3, e3, e4⟩, ⟨qb 4, e4, e5⟩, ⟨qb 5, e5, e6⟩].length) k46) ([qm, ⟨qb 0, 3, e1⟩, ⟨qb 1, e1, e2⟩, ⟨qb 2, e2, e3⟩, ⟨qb 3, e3, e4⟩, ⟨qb 4, e4, e5⟩, ⟨qb 5, e5, e6⟩].length) ([qm, ⟨qb 0, 3, e1⟩, ⟨qb 1, e1, e2⟩, ⟨qb 2, e2, e3⟩, ⟨qb 3, e3, e4⟩, ⟨qb 4, e4, e5⟩, ⟨qb 5, e5, e6⟩].flatMap secL) 82 3, .row (.slice A44 ((((((((((([] : List Nat) ++ [nx]) ++ [cp]) ++ [cr]) ++ [gp]) ++ gs) ++ cl) ++ cu) ++ [tk]) ++ ts).length) c44) ((((((((((([] : List Nat) ++ [nx]) ++ [cp]) ++ [cr]) ++ [gp]) ++ gs) ++ cl) ++ cu) ++ [tk]) ++ ts).length) ((((((((((([] : List Nat) ++ [nx]) ++ [cp]) ++ [cr]) ++ [gp]) ++ gs) ++ cl) ++ cu) ++ [tk]) ++ ts).map U64) 22 1, .blk g2 #[vI 0] 53] := HM
          refine wp_seq ?_
          rcases qew b (cp + 3 * cp * (gp - 1)) e6 with hv_e7 | ⟨sp, e7, hv_e7⟩
          ·
           refine qa ?_
           refine fp HF 4 0 [(50, vI (IntKind.i64.wrap (3 * (cp : Int)))), (48, vI cp), (47, vP g 0)] fun a HF => ?_
           replace HF := HF.sp 50 (vI (3 * cp : Nat)) rfl (qc (by omega) (by omega))
           refine fp HF 2 4 [(52, vI (IntKind.i64.wrap ((gp : Int) - 1)))] fun a HF => ?_
           replace HF := HF.sp 52 (vI (gp - 1 : Nat)) rfl (qc (by omega) (by omega))
           refine fp HF 1 6 [(53, vI (IntKind.i64.wrap (((3 * cp : Nat) : Int) * ((gp - 1 : Nat) : Int))))] fun a HF => ?_
           replace HF := HF.sp 53 (vI (3 * cp * (gp - 1) : Nat)) rfl (qgs (m := 3 * cp) (n := gp - 1) (by have := h3; omega))
           refine fp HF 1 7 [(54, vI (IntKind.i64.wrap ((cp : Int) + ((3 * cp * (gp - 1) : Nat) : Int))))] fun a HF => ?_
           replace HF := HF.sp 54 (vI (cp + (3 * cp * (gp - 1)) : Nat)) rfl (qc (by omega) (by omega))
           refine fo HF 8 rfl rfl ?_
           exact qal HF [vP g 0, vI (cp + (3 * cp * (gp - 1)) : Nat)] rfl (qg4 W _ g e6 A A44 c c44 b (((((((((([] : List Nat) ++ [nx]) ++ [cp]) ++ [cr]) ++ [gp]) ++ gs) ++ cl) ++ cu) ++ [tk]) ++ ts) (.slice S46 ([qm, ⟨qb 0, 3, e1⟩, ⟨qb 1, e1, e2⟩, ⟨qb 2, e2, e3⟩, ⟨qb 3, e3, e4⟩, ⟨qb 4, e4, e5⟩, ⟨qb 5, e5, e6⟩].length) k46) _ (cp + (3 * cp * (gp - 1))) (by omega) hc44 (HM.pk [0, 2, 1, 3]) hin hbc hl hb hi_e6.2.2 hq_e6 hv_e7) fun w2 HM => zl HF rfl HM (i := 1) rfl (hp.trans (qbb hv_e7)) [] (by decide) rfl
          ·
           have hp := hp.trans hv_e7.goK
           have hi_e7 := hv_e7.in hi_e6.2.2
           have hq_e7 := q_leK (xs := sp) hq_e6 hi_e7.1 hi_e7.2.1
           refine qa ?_
           refine fp HF 4 0 [(50, vI (IntKind.i64.wrap (3 * (cp : Int)))), (48, vI cp), (47, vP g 0)] fun a HF => ?_
           replace HF := HF.sp 50 (vI (3 * cp : Nat)) rfl (qc (by omega) (by omega))
           refine fp HF 2 4 [(52, vI (IntKind.i64.wrap ((gp : Int) - 1)))] fun a HF => ?_
           replace HF := HF.sp 52 (vI (gp - 1 : Nat)) rfl (qc (by omega) (by omega))
           refine fp HF 1 6 [(53, vI (IntKind.i64.wrap (((3 * cp : Nat) : Int) * ((gp - 1 : Nat) : Int))))] fun a HF => ?_
           replace HF := HF.sp 53 (vI (3 * cp * (gp - 1) : Nat)) rfl (qgs (m := 3 * cp) (n := gp - 1) (by have := h3; omega))
           refine fp HF 1 7 [(54, vI (IntKind.i64.wrap ((cp : Int) + ((3 * cp * (gp - 1) : Nat) : Int))))] fun a HF => ?_
           replace HF := HF.sp 54 (vI (cp + (3 * cp * (gp - 1)) : Nat)) rfl (qc (by omega) (by omega))
           refine fo HF 8 rfl rfl ?_
           refine e_cl HF [vP g 0, vI (cp + (3 * cp * (gp - 1)) : Nat)] rfl rfl (qg3 W _ g e6 A A44 c c44 b (((((((((([] : List Nat) ++ [nx]) ++ [cp]) ++ [cr]) ++ [gp]) ++ gs) ++ cl) ++ cu) ++ [tk]) ++ ts) (.slice S46 ([qm, ⟨qb 0, 3, e1⟩, ⟨qb 1, e1, e2⟩, ⟨qb 2, e2, e3⟩, ⟨qb 3, e3, e4⟩, ⟨qb 4, e4, e5⟩, ⟨qb 5, e5, e6⟩].length) k46) _ (cp + (3 * cp * (gp - 1))) (by omega) hc44 (HM.pk [0, 2, 1, 3]) hin hbc hl hb hi_e6.2.2 hq_e6 hv_e7) ?_
           rintro _ w55 ⟨rfl, A55, c55, hc55, HM2⟩
           refine ⟨_, rfl, ?_⟩
           replace HM := HM2
           clear HF; intro a HF
           refine s_d0 (s_fs1 ?_)
           refine fp HF 1 0 [(56, vP g 0)] fun a HF => ?_
           refine fo HF 1 rfl rfl ?_
           refine e_cl HF [vP g 0, .string (ByteArray.mk #[115, 112, 111, 116, 115])] rfl rfl (qec (l2 := [qm, ⟨qb 0, 3, e1⟩, ⟨qb 1, e1, e2⟩, ⟨qb 2, e2, e3⟩, ⟨qb 3, e3, e4⟩, ⟨qb 4, e4, e5⟩, ⟨qb 5, e5, e6⟩, ⟨qb 6, e6, e7⟩]) W _ g e7 _ _ S46 k46 ([qm, ⟨qb 0, 3, e1⟩, ⟨qb 1, e1, e2⟩, ⟨qb 2, e2, e3⟩, ⟨qb 3, e3, e4⟩, ⟨qb 4, e4, e5⟩, ⟨qb 5, e5, e6⟩]) _ _ (HM.pk [0, 2, 1, 3]) (Nat.le_of_ble_eq_true rfl) rfl) ?_
           rintro _ w57 ⟨rfl, S57, k57, hk57, HM2⟩
           refine ⟨_, rfl, ?_⟩
           replace HM := HM2
           clear HF; intro a HF
           refine s_d0 ?_
           replace HM : Mem W _ [.blk g #[.slice A b.length c, vI e7, .slice A55 (((((((((((([] : List Nat) ++ [nx]) ++ [cp]) ++ [cr]) ++ [gp]) ++ gs) ++ cl) ++ cu) ++ [tk]) ++ ts) ++ sp).length) c55, .slice S57 ([qm, ⟨qb 0, 3, e1⟩, ⟨qb 1, e1, e2⟩, ⟨qb 2, e2, e3⟩, ⟨qb 3, e3, e4⟩, ⟨qb 4, e4, e5⟩, ⟨qb 5, e5, e6⟩, ⟨qb 6, e6, e7⟩].length) k57] 109, .row (.slice S57 ([qm, ⟨qb 0, 3, e1⟩, ⟨qb 1, e1, e2⟩, ⟨qb 2, e2, e3⟩, ⟨qb 3, e3, e4⟩, ⟨qb 4, e4, e5⟩, ⟨qb 5, e5, e6⟩, ⟨qb 6, e6, e7⟩].length) k57) ([qm, ⟨qb 0, 3, e1⟩, ⟨qb 1, e1, e2⟩, ⟨qb 2, e2, e3⟩, ⟨qb 3, e3, e4⟩, ⟨qb 4, e4, e5⟩, ⟨qb 5, e5, e6⟩, ⟨qb 6, e6, e7⟩].length) ([qm, ⟨qb 0, 3, e1⟩, ⟨qb 1, e1, e2⟩, ⟨qb 2, e2, e3⟩, ⟨qb 3, e3, e4⟩, ⟨qb 4, e4, e5⟩, ⟨qb 5, e5, e6⟩, ⟨qb 6, e6, e7⟩].flatMap secL) 82 3, .row (.slice A55 (((((((((((([] : List Nat) ++ [nx]) ++ [cp]) ++ [cr]) ++ [gp]) ++ gs) ++ cl) ++ cu) ++ [tk]) ++ ts) ++ sp).length) c55) (((((((((((([] : List Nat) ++ [nx]) ++ [cp]) ++ [cr]) ++ [gp]) ++ gs) ++ cl) ++ cu) ++ [tk]) ++ ts) ++ sp).length) (((((((((((([] : List Nat) ++ [nx]) ++ [cp]) ++ [cr]) ++ [gp]) ++ gs) ++ cl) ++ cu) ++ [tk]) ++ ts) ++ sp).map U64) 22 1, .blk g2 #[vI 0] 53] := HM
           refine wp_seq (wp_seq ?_)
           refine qyw ?_
           refine za HM [.blk g #[.slice A b.length c, vI e7, .slice A55 (((((((((((([] : List Nat) ++ [nx]) ++ [cp]) ++ [cr]) ++ [gp]) ++ gs) ++ cl) ++ cu) ++ [tk]) ++ ts) ++ sp).length) c55, .slice S57 ([qm, ⟨qb 0, 3, e1⟩, ⟨qb 1, e1, e2⟩, ⟨qb 2, e2, e3⟩, ⟨qb 3, e3, e4⟩, ⟨qb 4, e4, e5⟩, ⟨qb 5, e5, e6⟩, ⟨qb 6, e6, e7⟩].length) k57] 109, .row (.slice S57 ([qm, ⟨qb 0, 3, e1⟩, ⟨qb 1, e1, e2⟩, ⟨qb 2, e2, e3⟩, ⟨qb 3, e3, e4⟩, ⟨qb 4, e4, e5⟩, ⟨qb 5, e5, e6⟩, ⟨qb 6, e6, e7⟩].length) k57) ([qm, ⟨qb 0, 3, e1⟩, ⟨qb 1, e1, e2⟩, ⟨qb 2, e2, e3⟩, ⟨qb 3, e3, e4⟩, ⟨qb 4, e4, e5⟩, ⟨qb 5, e5, e6⟩, ⟨qb 6, e6, e7⟩].length) ([qm, ⟨qb 0, 3, e1⟩, ⟨qb 1, e1, e2⟩, ⟨qb 2, e2, e3⟩, ⟨qb 3, e3, e4⟩, ⟨qb 4, e4, e5⟩, ⟨qb 5, e5, e6⟩, ⟨qb 6, e6, e7⟩].flatMap secL) 82 3, .row (.slice A55 (((((((((((([] : List Nat) ++ [nx]) ++ [cp]) ++ [cr]) ++ [gp]) ++ gs) ++ cl) ++ cu) ++ [tk]) ++ ts) ++ sp).length) c55) (((((((((((([] : List Nat) ++ [nx]) ++ [cp]) ++ [cr]) ++ [gp]) ++ gs) ++ cl) ++ cu) ++ [tk]) ++ ts) ++ sp).length) (((((((((((([] : List Nat) ++ [nx]) ++ [cp]) ++ [cr]) ++ [gp]) ++ gs) ++ cl) ++ cu) ++ [tk]) ++ ts) ++ sp).map U64) 22 1, .blk g2 #[vI 0] 53] [0, 1, 2, 3] [] fun HM HS => ?_
           refine ap HF (fun _ => HS) [0, 4] (bf 10 [0, 4]) [(62, vP g 0), (58, vP g 0)] fun a HF => ?_
           refine s_az HF HS 1 rfl (v := vP g 0) (Yl.nilCheck rfl rfl) fun a HF => ?_
           refine ap HF (fun _ => HS) [2] (bf 10 [0, 1, 2, 4]) [(60, vP g 1)] fun a HF => ?_
           refine s_ac HF HS 3 0 fun a HF => ?_
           refine s_az HF HS 5 rfl (v := vP g 0) (Yl.nilCheck rfl rfl) fun a HF => ?_
           refine ap HF (fun _ => HS) [6] (bt 10 [7, 8, 9]) [(64, vP g 0)] fun a HF => ?_
           refine s_ac HF HS 7 0 fun a HF => ?_
           refine s_al HF HS 8 fun a HF => ?_
           refine ap HF (fun _ => HS) [9] (bt 10 []) [(67, .bool ((e7 : Int) != (b.length : Int)))] fun a HF => ?_
           refine qk (by kernel_rfl) ?_
           rcases HF.tf 67 rfl with ⟨hb67, HF⟩ | ⟨hb67, HF⟩
           ·
            have hd67 := bne_iff_ne.1 hb67
            have hne : e7 ≠ b.length := by omega
            refine s_ct HF (qa ?_)
            refine fo HF 0 rfl rfl ?_
            exact qal HF [vI 346] rfl (qfm 346 _ HM) fun w2 HM => zl HF rfl HM (i := 3) rfl (hp.trans (if_pos hne)) [] (by decide) rfl
           have hd67 := bne_eq_false_iff_eq.1 hb67
           obtain rfl : e7 = b.length := by omega
           have hp := hp.trans (if_neg (fun h => h rfl))
           obtain ⟨qn, hqn⟩ : ∃ qn, ((((((((((([] : List Nat) ++ [nx]) ++ [cp]) ++ [cr]) ++ [gp]) ++ gs) ++ cl) ++ cu) ++ [tk]) ++ ts) ++ sp) = qn := ⟨_, rfl⟩
           rw [hqn] at HM hc55
           refine s_cf HF (wp_skip (s_fs1 ?_))
           refine fp HF 1 0 [(69, vP g 0)] fun a HF => ?_
           refine s_fk HF 1 fun a HF => ?_
           refine fp HF 1 2 [(71, vP g 1)] fun a HF => ?_
           refine s_fc HF HM 3 0 fun a HF => ?_
           refine fp HF 1 4 [(73, vI (IntKind.i64.wrap ((b.length : Int) + 4)))] fun a HF => ?_
           replace HF := HF.sp 73 (vI (b.length + 4 : Nat)) rfl (qc (by omega) (by omega))
           refine s_fk HF 5 fun a HF => ?_
           refine fp HF 1 6 [(75, vP g 1)] fun a HF => ?_
           refine fo HF 7 rfl rfl (s_es HF HM 0 ?_)
           clear HM; intro w22_7 HM
           refine s_d0 (s_fs1 ?_)
           refine fp HF 1 0 [(76, vP g 0)] fun a HF => ?_
           refine fo HF 1 rfl rfl ?_
           refine e_cl HF [vP g 0, .string (ByteArray.mk #[115, 117, 109])] rfl rfl (qec (l2 := [qm, ⟨qb 0, 3, e1⟩, ⟨qb 1, e1, e2⟩, ⟨qb 2, e2, e3⟩, ⟨qb 3, e3, e4⟩, ⟨qb 4, e4, e5⟩, ⟨qb 5, e5, e6⟩, ⟨qb 6, e6, b.length⟩, ⟨⟨#[115, 117, 109]⟩, b.length, b.length + 4⟩]) W _ g (b.length + 4 : Nat) _ _ S57 k57 ([qm, ⟨qb 0, 3, e1⟩, ⟨qb 1, e1, e2⟩, ⟨qb 2, e2, e3⟩, ⟨qb 3, e3, e4⟩, ⟨qb 4, e4, e5⟩, ⟨qb 5, e5, e6⟩, ⟨qb 6, e6, b.length⟩]) _ _ (HM.pk [0, 1, 2, 3]) (Nat.le_of_ble_eq_true rfl) rfl) ?_
           rintro _ w77 ⟨rfl, S77, k77, hk77, HM2⟩
           refine ⟨_, rfl, ?_⟩
           replace HM := HM2
           clear HF; intro a HF
           refine s_d0 ?_
           replace HM : Mem W _ [.blk g #[.slice A b.length c, vI (b.length + 4 : Nat), .slice A55 qn.length c55, .slice S77 ([qm, ⟨qb 0, 3, e1⟩, ⟨qb 1, e1, e2⟩, ⟨qb 2, e2, e3⟩, ⟨qb 3, e3, e4⟩, ⟨qb 4, e4, e5⟩, ⟨qb 5, e5, e6⟩, ⟨qb 6, e6, b.length⟩, ⟨⟨#[115, 117, 109]⟩, b.length, b.length + 4⟩].length) k77] 109, .row (.slice S77 ([qm, ⟨qb 0, 3, e1⟩, ⟨qb 1, e1, e2⟩, ⟨qb 2, e2, e3⟩, ⟨qb 3, e3, e4⟩, ⟨qb 4, e4, e5⟩, ⟨qb 5, e5, e6⟩, ⟨qb 6, e6, b.length⟩, ⟨⟨#[115, 117, 109]⟩, b.length, b.length + 4⟩].length) k77) ([qm, ⟨qb 0, 3, e1⟩, ⟨qb 1, e1, e2⟩, ⟨qb 2, e2, e3⟩, ⟨qb 3, e3, e4⟩, ⟨qb 4, e4, e5⟩, ⟨qb 5, e5, e6⟩, ⟨qb 6, e6, b.length⟩, ⟨⟨#[115, 117, 109]⟩, b.length, b.length + 4⟩].length) ([qm, ⟨qb 0, 3, e1⟩, ⟨qb 1, e1, e2⟩, ⟨qb 2, e2, e3⟩, ⟨qb 3, e3, e4⟩, ⟨qb 4, e4, e5⟩, ⟨qb 5, e5, e6⟩, ⟨qb 6, e6, b.length⟩, ⟨⟨#[115, 117, 109]⟩, b.length, b.length + 4⟩].flatMap secL) 82 3, .row (.slice A55 qn.length c55) qn.length (qn.map U64) 22 1, .blk g2 #[vI 0] 53] := HM
           refine s_fs1 ?_
           refine fo HF 0 rfl rfl (s_es HF HM 3 ?_)
           clear HM; intro w24_0 HM
           refine s_d0 (wp_ret ?_)
           exact qwf HF rfl HM (i := 3) rfl fun w3 HM => .inl ⟨(⟨nx, cp, cr, gp, gs, cl, cu, tk, ts, sp, e1, e2, e3, e4, e5, e6, b.length⟩ : Pr), A55, c55, S77, k77, hp, rfl, by subst hqn; rw [qoi]; exact hc55, hk77, by subst hqn; rw [qoi]; exact HM.pk [0, 2, 1]⟩
theorem qzx (W w : World) (g : Nat) (A : Option Addr) (c : Nat) (b : List Nat) (HW : Mem W w [.blk g #[.slice A b.length c, .int .i64 0, .slice none 0 0, .slice none 0 0] 109]) (hin : Rd W W.heap.size 1 A b.length (b.map B8)) (hbc : b.length ≤ c) (hl : ∀ z ∈ b, z < 256) (hb : b.length ≤ 16777216) (hb3 : 3 ≤ b.length) {p : Pr} (h : prs b = .ok p) : Calls Tryz.prog 78 #[.pointer (some ⟨g, 0, none⟩)] w (fun r w' => r = .returned (.int .i64 0) ∧ ∃ NA nc SA sc, p.nums.length ≤ nc ∧ p.secs.length ≤ sc ∧ Mem W w' [.blk g #[.slice A b.length c, .int .i64 ((b.length + 4 : Nat) : Int), .slice NA p.nums.length nc, .slice SA p.secs.length sc] 109, .row (.slice NA p.nums.length nc) p.nums.length (p.nums.map U64) 22 1, .row (.slice SA p.secs.length sc) p.secs.length (p.secs.flatMap secL) 82 3]) :=
 (qoj W w g A c b HW hin hbc hl hb hb3).mono fun r w' h1 => by
  rcases h1 with ⟨p2, NA, nc, SA, sc, h2, h3, h4, h5, h6⟩ | ⟨k, h2, _⟩
  ·obtain rfl : p2 = p := by rw [h] at h2; injection h2 with h2; exact h2.symm
   exact ⟨h3, NA, nc, SA, sc, h4, h5, h6⟩
  ·rw [h] at h2; cases h2
theorem qzy (W w : World) (g : Nat) (A : Option Addr) (c : Nat) (b : List Nat) (HW : Mem W w [.blk g #[.slice A b.length c, .int .i64 0, .slice none 0 0, .slice none 0 0] 109]) (hin : Rd W W.heap.size 1 A b.length (b.map B8)) (hbc : b.length ≤ c) (hl : ∀ z ∈ b, z < 256) (hb : b.length ≤ 16777216) (hb3 : 3 ≤ b.length) {k : Nat} (h : prs b = .error k) : Calls Tryz.prog 78 #[.pointer (some ⟨g, 0, none⟩)] w (fun r w' => r = .returned (.int .i64 (k : Int)) ∧ Mem W w' []) :=
 (qoj W w g A c b HW hin hbc hl hb hb3).mono fun r w' h1 => by
  rcases h1 with ⟨p2, NA, nc, SA, sc, h2, _⟩ | ⟨k2, h2, h3, h4⟩
  ·rw [h] at h2; cases h2
  ·obtain rfl : k2 = k := by rw [h] at h2; injection h2 with h2; exact h2.symm
   exact ⟨h3, h4⟩
def OpnIs (w : World) (l : List Nat) (r : Ending) (w' : World) : Prop := (∃ p, opnR l = .ok p ∧ ∃ g iv av NA nc SA sc, r = .returned (.tuple #[.pointer (some ⟨g, 0, none⟩), .int .i64 0]) ∧ p.nums.length ≤ nc ∧ p.secs.length ≤ sc ∧ Mem w w' [.blk g #[iv, av, .slice NA p.nums.length nc, .slice SA p.secs.length sc] 109, .row (.slice NA p.nums.length nc) p.nums.length (p.nums.map U64) 22 1, .row (.slice SA p.secs.length sc) p.secs.length (p.secs.flatMap secL) 82 3]) ∨ (∃ k : Nat, opnR l = .error k ∧ Is w (.tuple #[.pointer none, .int .i64 (k : Int)]) r w')
theorem qcd {w w' : World} {l : List Nat} {r : Ending} {k : Nat} (n : Int) (h : opnR l = .error k) (hk : n = k) (hr : r = .returned (.tuple #[.pointer none, .int .i64 n])) (hb : Below w.heap.size w w') : OpnIs w l r w' := .inr ⟨k, h, by rw [hr, hk], hb⟩
theorem qok (A : Option Addr) (c : Nat) (l : List Nat) (B : Nat) (w : World) (hL : LaidX B w) (hB : B ≤ w.heap.size) (hr : Rd w w.heap.size 1 A l.length (l.map B8)) (hc : l.length ≤ c) (hn : l.length ≤ 100000000) (hl : ∀ z ∈ l, z < 256) :
    Calls Tryz.prog 50 #[.slice A l.length c] w (OpnIs w l) := by
 refine s_ce Tryz.func50 [.slice A l.length c] [(0, .slice A l.length c)] fun a HF => ?_
 have HM := Mem.start w
 refine s_fs1 ?_
 refine fp HF 2 0 [(3, vI 0), (2, .pointer none)] fun a HF => ?_
 refine s_d0 (wp_seq (wp_block (s_fs1 ?_)))
 refine fp HF 1 0 [(7, .slice A l.length c)] fun a HF => ?_
 refine s_fl HF 1 fun a HF => ?_
 refine fp HF 2 2 [(6, .bool (decide ((l.length : Int) < (15 : Int))))] fun a HF => ?_
 refine s_d0 ?_
 rcases HF.tf 6 rfl with ⟨hb6, HF⟩ | ⟨hb6, HF⟩
 ·
  have hd6 := of_decide_eq_true hb6
  refine s_ct HF (s_fs1 ?_)
  refine fp HF 2 0 [(3, vI 340), (2, .pointer none)] fun a HF => ?_
  refine s_d0 (wp_ret ?_)
  exact s_rt2 rfl HF rfl rfl (qcd _ (qkr (by omega)) rfl rfl HM.below)
 have hd6 := of_decide_eq_false hb6
 refine s_cf HF (s_fs1 ?_)
 refine fp HF 1 0 [(11, .slice A l.length c)] fun a HF => ?_
 refine s_fl HF 1 fun a HF => ?_
 refine fp HF 2 2 [(10, .bool (decide ((l.length : Int) > (16777216 : Int))))] fun a HF => ?_
 refine s_d0 ?_
 rcases HF.tf 10 rfl with ⟨hb10, HF⟩ | ⟨hb10, HF⟩
 ·
  have hd10 := of_decide_eq_true hb10
  refine s_ct HF (s_fs1 ?_)
  refine fp HF 2 0 [(3, vI 3), (2, .pointer none)] fun a HF => ?_
  refine s_d0 (wp_ret ?_)
  exact s_rt2 rfl HF rfl rfl (qcd _ (qni (by omega) (by omega)) rfl rfl HM.below)
 have hd10 := of_decide_eq_false hb10
 refine s_cf HF (s_fs1 ?_)
 refine fp HF 1 0 [(15, .slice A l.length c)] fun a HF => ?_
 refine fo HF 1 rfl rfl (e_is HF HM [.slice A l.length c] (.bool (q0 l)) rfl rfl (qpt A l.length c l B _ (hL.mem HM hB) (HM.le hB) (HM.old hr) hc rfl (by omega) hl) fun w16 hbw HM a HF => ?_)
 refine fp HF 2 2 [(14, .bool (!(q0 l)))] fun a HF => ?_
 refine s_d0 ?_
 rcases HF.tf 14 rfl with ⟨hb14, HF⟩ | ⟨hb14, HF⟩
 ·
  have hs16 : q0 l = false := by simpa using hb14
  refine s_ct HF (s_fs1 ?_)
  refine fp HF 2 0 [(3, vI 341), (2, .pointer none)] fun a HF => ?_
  refine s_d0 (wp_ret ?_)
  exact s_rt2 rfl HF rfl rfl (qcd _ (qr5 (by omega) (by omega) hs16) rfl rfl HM.below)
 have hs16 : q0 l = true := by simpa using hb14
 refine s_cf HF (s_fs1 ?_)
 refine fp HF 1 0 [(19, .slice A l.length c)] fun a HF => ?_
 obtain ⟨gA, oA, rfl, _⟩ := hr.qj (Nat.lt_of_le_of_lt (Nat.zero_le _) (show 0 < l.length from by omega)) (by decide)
 refine s_fz HF HM 1 rfl (v := vP gA oA) (Yl.indexAddr (ad := ⟨gA, oA, none⟩) (y := 0) (sz := 1) rfl rfl rfl (by omega) (by kernel_rfl)) fun a HF => ?_
 refine s_fz HF HM 2 rfl (v := vB (l.getD 0 0)) (Yl.o1 hr 0 0 (by first | omega | (simp; omega)) rfl rfl) fun a HF => ?_
 refine fp HF 2 3 [(23, .bool (((l.getD 0 0) : Int) != (113 : Int)))] fun a HF => ?_
 rcases HF.tf 23 rfl with ⟨hb23, HF⟩ | ⟨hb23, HF⟩
 ·
  have hd23 := bne_iff_ne.1 hb23
  refine fp HF 6 5 [(18, .bool true)] fun a HF => ?_
  refine s_d0 (s_ct HF (s_fs1 ?_))
  refine fp HF 2 0 [(3, vI 342), (2, .pointer none)] fun a HF => ?_
  refine s_d0 (wp_ret ?_)
  exact s_rt2 rfl HF rfl rfl (qcd _ (qdy (by omega) (by omega) hs16 (by omega)) rfl rfl HM.below)
 have hd23 := bne_eq_false_iff_eq.1 hb23
 refine fp HF 1 5 [(24, .slice (some ⟨gA, oA, none⟩) l.length c)] fun a HF => ?_
 refine s_fz HF HM 6 rfl (v := vP gA (oA + 1)) (Yl.indexAddr (ad := ⟨gA, oA, none⟩) (y := 1) (sz := 1) rfl rfl rfl (by omega) (by kernel_rfl)) fun a HF => ?_
 refine s_fz HF HM 7 rfl (v := vB (l.getD 1 0)) (Yl.o1 hr 1 0 (by first | omega | (simp; omega)) rfl rfl) fun a HF => ?_
 refine fp HF 3 8 [(18, .bool (((l.getD 1 0) : Int) != (115 : Int)))] fun a HF => ?_
 refine s_d0 ?_
 rcases HF.tf 18 rfl with ⟨hb18, HF⟩ | ⟨hb18, HF⟩
 ·
  have hd18 := bne_iff_ne.1 hb18
  refine s_ct HF (s_fs1 ?_)
  refine fp HF 2 0 [(3, vI 342), (2, .pointer none)] fun a HF => ?_
  refine s_d0 (wp_ret ?_)
  exact s_rt2 rfl HF rfl rfl (qcd _ (qdy (by omega) (by omega) hs16 (by omega)) rfl rfl HM.below)
 have hd18 := bne_eq_false_iff_eq.1 hb18
 refine s_cf HF (s_fs1 ?_)
 refine fp HF 1 0 [(30, .slice (some ⟨gA, oA, none⟩) l.length c)] fun a HF => ?_
 refine s_fz HF HM 1 rfl (v := vP gA (oA + 2)) (Yl.indexAddr (ad := ⟨gA, oA, none⟩) (y := 2) (sz := 1) rfl rfl rfl (by omega) (by kernel_rfl)) fun a HF => ?_
 refine s_fz HF HM 2 rfl (v := vB (l.getD 2 0)) (Yl.o1 hr 2 0 (by first | omega | (simp; omega)) rfl rfl) fun a HF => ?_
 refine fp HF 2 3 [(29, .bool (((l.getD 2 0) : Int) != (1 : Int)))] fun a HF => ?_
 refine s_d0 ?_
 rcases HF.tf 29 rfl with ⟨hb29, HF⟩ | ⟨hb29, HF⟩
 ·
  have hd29 := bne_iff_ne.1 hb29
  refine s_ct HF (s_fs1 ?_)
  refine fp HF 2 0 [(3, vI 343), (2, .pointer none)] fun a HF => ?_
  refine s_d0 (wp_ret ?_)
  exact s_rt2 rfl HF rfl rfl (qcd _ (qgt (by omega) (by omega) hs16 (by omega) (by omega)) rfl rfl HM.below)
 have hd29 := bne_eq_false_iff_eq.1 hb29
 refine s_cf HF (wp_skip (wp_seq ?_))
 obtain ⟨b, hbd⟩ : ∃ b, l.take (l.length - 4) = b := ⟨_, rfl⟩
 have hbl : b.length = l.length - 4 := by rw [← hbd, List.length_take]; omega
 have hrb : Rd w w.heap.size 1 (some ⟨gA, oA, none⟩) b.length (b.map B8) := by rw [hbl, ← hbd]; exact hr.toB8 (by omega)
 have hlb : ∀ z ∈ b, z < 256 := fun z hz => hl z (List.mem_of_mem_take (hbd ▸ hz))
 have hop := qr6 (by omega) (by omega) hs16 (by omega) (by omega)
 rw [hbd] at hop
 skip
 ·
  refine qa ?_
  refine fp HF 2 0 [(35, .slice (some ⟨gA, oA, none⟩) l.length c), (34, .slice (some ⟨gA, oA, none⟩) l.length c)] fun a HF => ?_
  refine s_fl HF 2 fun a HF => ?_
  refine fp HF 1 3 [(37, vI (IntKind.i64.wrap ((l.length : Int) - 4)))] fun a HF => ?_
  replace HF := HF.sp 37 (vI (l.length - 4 : Nat)) rfl (qc (by omega) (by omega))
  refine s_fz HF HM 4 rfl (v := .slice (some ⟨gA, oA, none⟩) (l.length - 4) c) (Yl.qap ei_u8 (j := l.length - 4) rfl rfl rfl (by omega)) fun a HF => ?_
  replace HF := HF.sp 38 (.slice (some ⟨gA, oA, none⟩) b.length c) rfl (by rw [hbl])
  refine s_fz HF HM 5 rfl (v := .agg #[.slice (some ⟨gA, oA, none⟩) b.length c, vI 0, .slice none 0 0, .slice none 0 0]) (Yl.build (vs := [(0, .slice (some ⟨gA, oA, none⟩) b.length c)]) rfl (by kernel_rfl) (by kernel_rfl)) fun a HF => ?_
  refine fo HF 6 rfl rfl (s_eb HF HM #[.slice (some ⟨gA, oA, none⟩) b.length c, vI 0, .slice none 0 0, .slice none 0 0] ?_)
  clear HF HM; intro a w40 g40 HF HM
  refine fp HF 1 7 [(4, vP g40 0)] fun a HF => ?_
  refine s_d0 (wp_seq (wp_seq ?_))
  rcases hpr : prs b with k | p
  ·
   have hke := qr4 hpr
   refine qa ?_
   refine fp HF 1 0 [(41, vP g40 0)] fun a HF => ?_
   refine fo HF 1 rfl rfl ?_
   refine s_em HF [vP g40 0] (qzy w _ g40 (some ⟨gA, oA, none⟩) c b (HM.pk [0]) hrb (by omega) hlb (by omega) (by omega) hpr) fun w42 HM a HF => ?_
   refine fp HF 1 2 [(5, vI k)] fun a HF => ?_
   refine s_d0 (s_fs1 ?_)
   refine fp HF 2 0 [(44, .bool ((k : Int) != (0 : Int)))] fun a HF => ?_
   refine s_d0 ?_
   rcases HF.tf 44 rfl with ⟨hb44, HF⟩ | ⟨hb44, HF⟩
   ·
    have hd44 := bne_iff_ne.1 hb44
    refine s_ct HF (s_fs1 ?_)
    refine fp HF 3 0 [(3, vI k), (2, .pointer none)] fun a HF => ?_
    refine s_d0 (wp_ret ?_)
    exact s_rt2 rfl HF rfl rfl (qcd _ (hop.trans hpr) rfl rfl HM.below)
   have hd44 := bne_eq_false_iff_eq.1 hb44
   exfalso; omega
  ·
   refine qa ?_
   refine fp HF 1 0 [(41, vP g40 0)] fun a HF => ?_
   refine fo HF 1 rfl rfl ?_
   refine e_cl HF [vP g40 0] rfl rfl (qzx w _ g40 (some ⟨gA, oA, none⟩) c b (HM.pk [0]) hrb (by omega) hlb (by omega) (by omega) hpr) ?_
   rintro _ w42 ⟨rfl, NA, nc, SA, sc, hnc, hsc, HM2⟩
   refine ⟨_, rfl, ?_⟩
   replace HM := HM2
   clear HF; intro a HF
   refine fp HF 1 2 [(5, vI 0)] fun a HF => ?_
   refine s_d0 (s_fs1 ?_)
   refine fp HF 2 0 [(44, .bool false)] fun a HF => ?_
   refine s_d0 (s_cf HF (wp_skip (s_fs1 ?_)))
   refine fp HF 3 0 [(3, vI 0), (2, vP g40 0)] fun a HF => ?_
   refine s_d0 (wp_ret ?_)
   exact s_rt2 rfl HF rfl rfl (.inl ⟨p, hop.trans hpr, _, _, _, NA, nc, SA, sc, rfl, hnc, hsc, HM⟩)
theorem qmj (A : Option Addr) (c : Nat) (l : List Nat) (B : Nat) (w : World) (hL : LaidX B w) (hB : B ≤ w.heap.size) (hr : Rd w w.heap.size 1 A l.length (l.map B8)) (hc : l.length ≤ c) (hn : l.length ≤ 100000000) (hl : ∀ z ∈ l, z < 256) {p : Pr} (h : opnR l = .ok p) : Calls Tryz.prog 50 #[.slice A l.length c] w (fun r w' => ∃ g iv av NA nc SA sc, r = .returned (.tuple #[.pointer (some ⟨g, 0, none⟩), .int .i64 0]) ∧ p.nums.length ≤ nc ∧ p.secs.length ≤ sc ∧ Mem w w' [.blk g #[iv, av, .slice NA p.nums.length nc, .slice SA p.secs.length sc] 109, .row (.slice NA p.nums.length nc) p.nums.length (p.nums.map U64) 22 1, .row (.slice SA p.secs.length sc) p.secs.length (p.secs.flatMap secL) 82 3]) :=
 (qok A c l B w hL hB hr hc hn hl).mono fun r w' h1 => by
  rcases h1 with ⟨p2, h2, h3⟩ | ⟨k, h2, _⟩
  ·obtain rfl : p2 = p := by rw [h] at h2; injection h2 with h2; exact h2.symm
   exact h3
  ·rw [h] at h2; cases h2
theorem qmk (A : Option Addr) (c : Nat) (l : List Nat) (B : Nat) (w : World) (hL : LaidX B w) (hB : B ≤ w.heap.size) (hr : Rd w w.heap.size 1 A l.length (l.map B8)) (hc : l.length ≤ c) (hn : l.length ≤ 100000000) (hl : ∀ z ∈ l, z < 256) {k : Nat} (h : opnR l = .error k) : Calls Tryz.prog 50 #[.slice A l.length c] w (Is w (.tuple #[.pointer none, .int .i64 (k : Int)])) :=
 (qok A c l B w hL hB hr hc hn hl).mono fun r w' h1 => by
  rcases h1 with ⟨p2, h2, _⟩ | ⟨k2, h2, h3⟩
  ·rw [h] at h2; cases h2
  ·obtain rfl : k2 = k := by rw [h] at h2; injection h2 with h2; exact h2.symm
   exact h3
theorem qfc (A : Option Addr) (c : Nat) (l : List Nat) (B : Nat) (w : World) (hL : LaidX B w) (hB : B ≤ w.heap.size) (hr : Rd w w.heap.size 1 A l.length (l.map B8)) (hc : l.length ≤ c) (hn : l.length ≤ 100000000) (hl : ∀ z ∈ l, z < 256) :
    Calls Tryz.prog 40 #[.slice A l.length c] w (qgm w (errR l) (pnums l)) := by
 refine s_ce Tryz.func40 [.slice A l.length c] [(0, .slice A l.length c)] fun a HF => ?_
 have HM := Mem.start w
 refine s_fs1 ?_
 refine fp HF 2 0 [(3, vI 0), (2, .slice none 0 0)] fun a HF => ?_
 refine s_d0 (wp_seq ?_)
 rcases hop : opnR l with k | p
 ·
  have hke := qb8 hop
  refine qa ?_
  refine fp HF 1 0 [(7, .slice A l.length c)] fun a HF => ?_
  refine fo HF 1 rfl rfl (e_is HF HM [.slice A l.length c] (.tuple #[.pointer none, vI k]) rfl rfl (qmk A c l B _ (hL.mem HM hB) (HM.le hB) (HM.old hr) hc hn hl hop) fun w8 hbw HM a HF => ?_)
  refine fp HF 5 2 [(5, vI k), (4, .pointer none)] fun a HF => ?_
  refine s_d0 (wp_seq (s_fs1 ?_))
  refine fp HF 2 0 [(12, .bool ((k : Int) != (0 : Int)))] fun a HF => ?_
  refine s_d0 ?_
  rcases HF.tf 12 rfl with ⟨hb12, HF⟩ | ⟨hb12, HF⟩
  ·
   have hd12 := bne_iff_ne.1 hb12
   refine s_ct HF (s_fs1 ?_)
   refine fp HF 3 0 [(3, vI k), (2, .slice none 0 0)] fun a HF => ?_
   refine s_d0 (wp_ret ?_)
   exact s_rt2 rfl HF rfl rfl (qhu _ (by rw [qdb hop]) (qiu hop) HM.below)
  have hd12 := bne_eq_false_iff_eq.1 hb12
  exfalso; omega
 ·
  refine qa ?_
  refine fp HF 1 0 [(7, .slice A l.length c)] fun a HF => ?_
  refine fo HF 1 rfl rfl ?_
  refine e_cl HF [.slice A l.length c] rfl rfl (qmj A c l B _ (hL.mem HM hB) (HM.le hB) (HM.old hr) hc hn hl hop) ?_
  rintro _ w8 ⟨g8, iv, av, NA, nc, SA, sc, rfl, hnc, hsc, hm⟩
  refine ⟨_, rfl, ?_⟩
  replace HM := HM.join hm
  clear HF; intro a HF
  refine fp HF 5 2 [(5, vI 0), (4, vP g8 0)] fun a HF => ?_
  refine s_d0 (wp_seq (s_fs1 ?_))
  refine fp HF 2 0 [(12, .bool false)] fun a HF => ?_
  refine s_d0 (s_cf HF (wp_skip (s_fs1 ?_)))
  refine fp HF 1 0 [(14, vP g8 0)] fun a HF => ?_
  refine s_fk HF 1 fun a HF => ?_
  refine fp HF 1 2 [(16, vP g8 2)] fun a HF => ?_
  refine s_fc HF HM 3 0 fun a HF => ?_
  refine fp HF 2 4 [(3, vI 0), (2, .slice NA p.nums.length nc)] fun a HF => ?_
  refine s_d0 (wp_ret ?_)
  exact s_rt2 rfl HF rfl rfl (qet (er' := 0) (qcn hop).symm (qit hop).symm (HM.own (i := 1) rfl) hnc HM.below)
theorem qce (A : Option Addr) (c : Nat) (l : List Nat) (B : Nat) (w : World) (hL : LaidX B w) (hB : B ≤ w.heap.size) (hr : Rd w w.heap.size 1 A l.length (l.map B8)) (hc : l.length ≤ c) (hn : l.length ≤ 100000000) (hl : ∀ z ∈ l, z < 256) :
    Calls Tryz.prog 42 #[.slice A l.length c] w (qcj 82 w (errR l) (psecs l)) := by
 refine s_ce Tryz.func42 [.slice A l.length c] [(0, .slice A l.length c)] fun a HF => ?_
 have HM := Mem.start w
 refine s_fs1 ?_
 refine fp HF 2 0 [(3, vI 0), (2, .slice none 0 0)] fun a HF => ?_
 refine s_d0 (wp_seq ?_)
 rcases hop : opnR l with k | p
 ·
  have hke := qb8 hop
  refine qa ?_
  refine fp HF 1 0 [(7, .slice A l.length c)] fun a HF => ?_
  refine fo HF 1 rfl rfl (e_is HF HM [.slice A l.length c] (.tuple #[.pointer none, vI k]) rfl rfl (qmk A c l B _ (hL.mem HM hB) (HM.le hB) (HM.old hr) hc hn hl hop) fun w8 hbw HM a HF => ?_)
  refine fp HF 5 2 [(5, vI k), (4, .pointer none)] fun a HF => ?_
  refine s_d0 (wp_seq (s_fs1 ?_))
  refine fp HF 2 0 [(12, .bool ((k : Int) != (0 : Int)))] fun a HF => ?_
  refine s_d0 ?_
  rcases HF.tf 12 rfl with ⟨hb12, HF⟩ | ⟨hb12, HF⟩
  ·
   have hd12 := bne_iff_ne.1 hb12
   refine s_ct HF (s_fs1 ?_)
   refine fp HF 3 0 [(3, vI k), (2, .slice none 0 0)] fun a HF => ?_
   refine s_d0 (wp_ret ?_)
   exact s_rt2 rfl HF rfl rfl (qo5 _ (by rw [qdb hop]) (qd0 hop) HM.below)
  have hd12 := bne_eq_false_iff_eq.1 hb12
  exfalso; omega
 ·
  refine qa ?_
  refine fp HF 1 0 [(7, .slice A l.length c)] fun a HF => ?_
  refine fo HF 1 rfl rfl ?_
  refine e_cl HF [.slice A l.length c] rfl rfl (qmj A c l B _ (hL.mem HM hB) (HM.le hB) (HM.old hr) hc hn hl hop) ?_
  rintro _ w8 ⟨g8, iv, av, NA, nc, SA, sc, rfl, hnc, hsc, hm⟩
  refine ⟨_, rfl, ?_⟩
  replace HM := HM.join hm
  clear HF; intro a HF
  refine fp HF 5 2 [(5, vI 0), (4, vP g8 0)] fun a HF => ?_
  refine s_d0 (wp_seq (s_fs1 ?_))
  refine fp HF 2 0 [(12, .bool false)] fun a HF => ?_
  refine s_d0 (s_cf HF (wp_skip (s_fs1 ?_)))
  refine fp HF 1 0 [(14, vP g8 0)] fun a HF => ?_
  refine s_fk HF 1 fun a HF => ?_
  refine fp HF 1 2 [(16, vP g8 3)] fun a HF => ?_
  refine s_fc HF HM 3 0 fun a HF => ?_
  refine fp HF 2 4 [(3, vI 0), (2, .slice SA p.secs.length sc)] fun a HF => ?_
  refine s_d0 (wp_ret ?_)
  exact s_rt2 rfl HF rfl rfl (qhv (er' := 0) (qcn hop).symm (qdz hop).symm (HM.own (i := 2) rfl) hsc HM.below)
def qk5 (W : World) (g k : Nat) (NA : Option Addr) (nc : Nat) (q : List Nat) (o : Bool) (fs : List Fact) (v : Value) (r : Ending) (w' : World) : Prop := r = .returned v ∧ Mem W w' (.blk g #[.slice (srcA NA nc k) (q.length - k) (nc - k), .bool o] 111 :: .row (.slice NA q.length nc) q.length (q.map U64) 22 1 :: fs)
theorem qk6 {W w' : World} {g k : Nat} {NA : Option Addr} {nc : Nat} {q : List Nat} {o b : Bool} {fs : List Fact} {v : Value} {r : Ending} (hr : r = .returned v) (ho : b = o) (HM : Mem W w' (.blk g #[.slice (srcA NA nc k) (q.length - k) (nc - k), .bool b] 111 :: .row (.slice NA q.length nc) q.length (q.map U64) 22 1 :: fs)) : qk5 W g k NA nc q o fs v r w' := by subst ho; exact ⟨hr, HM⟩
theorem qv9 (x m : Nat) : decide ((x : Int) ≤ (m : Int)) = dle x m := decide_eq_decide.2 Int.ofNat_le
theorem qof (m : Nat) (W w : World) (g k : Nat) (NA : Option Addr) (nc : Nat) (q : List Nat) (o : Bool) (fs : List Fact) (HW : Mem W w (.blk g #[.slice (srcA NA nc k) (q.length - k) (nc - k), .bool o] 111 :: .row (.slice NA q.length nc) q.length (q.map U64) 22 1 :: fs)) (hqc : q.length ≤ nc) (hk : k < q.length) :
    Calls Tryz.prog 80 #[.pointer (some ⟨g, 0, none⟩), .int .u64 (m : Int)] w (qk5 W g (k + 1) NA nc q (o && dle (q.getD k 0) m) fs (.int .u64 (q.getD k 0 : Int))) := by
 refine s_ce Tryz.func80 [vP g 0, vQ m] [(0, vP g 0), (1, vQ m)] fun a HF => ?_
 have HM := Mem.start w
 replace HM := HW
 obtain ⟨gS, oS, hA, _⟩ := Rd.qj (qr9 (HM.rd (i := 1) rfl) hqc k (by omega)) (by omega) (by decide)
 refine s_fs1 ?_
 refine fp HF 1 0 [(4, vQ 0)] fun a HF => ?_
 refine s_d0 (s_fs1 ?_)
 refine fp HF 1 0 [(6, vP g 0)] fun a HF => ?_
 refine s_fk HF 1 fun a HF => ?_
 refine fp HF 1 2 [(8, vP g 0)] fun a HF => ?_
 refine s_fc HF HM 3 0 fun a HF => ?_
 replace HF := HF.sp 9 (.slice (some ⟨gS, oS, none⟩) (q.length - k) (nc - k)) rfl (by rw [hA]; rfl)
 refine s_fz HF HM 4 rfl (v := vP gS oS) (Yl.indexAddr (ad := ⟨gS, oS, none⟩) (y := 0) (sz := 1) rfl rfl rfl (by omega) (by kernel_rfl)) fun a HF => ?_
 refine s_fz HF HM 5 rfl (v := vQ (q.getD k 0)) (Yl.qd rfl rfl (by kernel_rfl) (fun _ h => q02 (h.rd (i := 1) rfl) hqc hk hA)) fun a HF => ?_
 refine fp HF 1 6 [(5, vQ (q.getD k 0))] fun a HF => ?_
 refine s_d0 (s_fs1 ?_)
 refine fp HF 2 0 [(13, vP g 0), (12, vP g 0)] fun a HF => ?_
 refine s_fk HF 2 fun a HF => ?_
 refine fp HF 1 3 [(15, vP g 0)] fun a HF => ?_
 refine s_fc HF HM 4 0 fun a HF => ?_
 refine s_fz HF HM 5 rfl (v := .slice (if nc - k = 1 then srcA NA nc k else (srcA NA nc k : Option Addr).map (·.add (1 * 1))) ((q.length - k) - 1) ((nc - k) - 1)) (Yl.sliceFrom q2 (j := 1) rfl rfl rfl (by omega)) fun a HF => ?_
 replace HF := HF.sp 17 (.slice (srcA NA nc (k + 1)) (q.length - (k + 1)) (nc - (k + 1))) rfl (rfl)
 refine s_fk HF 6 fun a HF => ?_
 refine fp HF 1 7 [(19, vP g 0)] fun a HF => ?_
 refine fo HF 8 rfl rfl (s_es HF HM 0 ?_)
 clear HM; intro w2_8 HM
 refine s_d0 (s_fs1 ?_)
 refine fp HF 2 0 [(21, vP g 0), (20, vP g 0)] fun a HF => ?_
 refine s_fk HF 2 fun a HF => ?_
 refine fp HF 1 3 [(23, vP g 1)] fun a HF => ?_
 refine s_fc HF HM 4 0 fun a HF => ?_
 refine fp HF 1 5 [(25, .bool o)] fun a HF => ?_
 rcases HF.tf 25 rfl with ⟨hb25, HF⟩ | ⟨hb25, HF⟩
 ·
  refine fp HF 4 6 [(29, .bool (decide ((q.getD k 0 : Int) ≤ (m : Int))))] fun a HF => ?_
  refine s_fk HF 10 fun a HF => ?_
  refine fp HF 1 11 [(31, vP g 1)] fun a HF => ?_
  refine fo HF 12 rfl rfl (s_es HF HM 0 ?_)
  clear HM; intro w3_12 HM
  refine s_d0 (s_fs1 ?_)
  refine fp HF 2 0 [(4, vQ (q.getD k 0))] fun a HF => ?_
  refine s_d0 (wp_ret ?_)
  exact s_rt1 rfl HF rfl (qk6 rfl (by rw [hb25, Bool.true_and]; exact qv9 _ _) HM)
 refine fp HF 4 6 [(29, .bool false)] fun a HF => ?_
 refine s_fk HF 10 fun a HF => ?_
 refine fp HF 1 11 [(31, vP g 1)] fun a HF => ?_
 refine fo HF 12 rfl rfl (s_es HF HM 0 ?_)
 clear HM; intro w3_12 HM
 refine s_d0 (s_fs1 ?_)
 refine fp HF 2 0 [(4, vQ (q.getD k 0))] fun a HF => ?_
 refine s_d0 (wp_ret ?_)
 exact s_rt1 rfl HF rfl (qk6 rfl (by rw [hb25]; rfl) HM)
theorem qcc (m : Nat) (W w : World) (g k : Nat) (NA : Option Addr) (nc : Nat) (q : List Nat) (o : Bool) (fs : List Fact) (HW : Mem W w (.blk g #[.slice (srcA NA nc k) (q.length - k) (nc - k), .bool o] 111 :: .row (.slice NA q.length nc) q.length (q.map U64) 22 1 :: fs)) (hqc : q.length ≤ nc) (hk : k < q.length) {x k2 : Nat} {o2 : Bool} (hx : q.getD k 0 = x) (h2 : k + 1 = k2) (ho : (o && dle x m) = o2) : Calls Tryz.prog 80 #[.pointer (some ⟨g, 0, none⟩), .int .u64 (m : Int)] w (qk5 W g k2 NA nc q o2 fs (.int .u64 (x : Int))) := by
 subst hx; subst h2; subst ho
 exact qof m W w g k NA nc q o fs HW hqc hk
theorem qtq (W w : World) (g k : Nat) (NA : Option Addr) (nc : Nat) (q : List Nat) (o : Bool) (fs : List Fact) (HW : Mem W w (.blk g #[.slice (srcA NA nc k) (q.length - k) (nc - k), .bool o] 111 :: .row (.slice NA q.length nc) q.length (q.map U64) 22 1 :: fs)) (hqc : q.length ≤ nc) (hk : k < q.length) :
    Calls Tryz.prog 79 #[.pointer (some ⟨g, 0, none⟩)] w (qk5 W g (k + 1) NA nc q (o && dle (q.getD k 0) mostI) fs (.int .i64 (toI (q.getD k 0)))) := by
 refine s_ce Tryz.func79 [vP g 0] [(0, vP g 0)] fun a HF => ?_
 have HM := Mem.start w
 replace HM := HW
 refine s_fs1 ?_
 refine fp HF 1 0 [(2, vI 0)] fun a HF => ?_
 refine s_d0 (s_fs1 ?_)
 refine fp HF 1 0 [(3, vP g 0)] fun a HF => ?_
 refine fo HF 1 rfl rfl ?_
 refine s_em HF [vP g 0, vQ 4611686018427387904] (qof mostI W _ g k NA nc q o fs HM hqc hk) fun w4 HM a HF => ?_
 refine fp HF 1 2 [(5, vI (IntKind.i64.wrap (q.getD k 0 : Int)))] fun a HF => ?_
 replace HF := HF.sp 5 (vI (toI (q.getD k 0))) rfl (rfl)
 refine fp HF 1 3 [(2, vI (toI (q.getD k 0)))] fun a HF => ?_
 refine s_d0 (wp_ret ?_)
 exact s_rt1 rfl HF rfl (⟨rfl, HM⟩)
theorem z8 (W w : World) (g k : Nat) (NA : Option Addr) (nc : Nat) (q : List Nat) (o : Bool) (fs : List Fact) (HW : Mem W w (.blk g #[.slice (srcA NA nc k) (q.length - k) (nc - k), .bool o] 111 :: .row (.slice NA q.length nc) q.length (q.map U64) 22 1 :: fs)) (hqc : q.length ≤ nc) (hk : k < q.length) {x k2 : Nat} {o2 : Bool} {v : Int} (hx : q.getD k 0 = x) (h2 : k + 1 = k2) (ho : (o && dle x mostI) = o2) (hv : toI x = v) : Calls Tryz.prog 79 #[.pointer (some ⟨g, 0, none⟩)] w (qk5 W g k2 NA nc q o2 fs (.int .i64 v)) := by
 subst hx; subst h2; subst ho; subst hv
 exact qtq W w g k NA nc q o fs HW hqc hk
theorem Mem.q15 {W w : World} {f r1 r2 r3 r4 r5 : Fact} {fs rs : List Fact} (h : Mem W w (f :: r1 :: r2 :: r3 :: r4 :: r5 :: (fs ++ rs))) : Mem W w (f :: (fs ++ ([r1, r2, r3, r4, r5] ++ rs))) := h.perm ((List.perm_append_comm_assoc [r1, r2, r3, r4, r5] fs rs).cons f)
theorem qzv (x : Nat) : ((x : Int) == (1 : Int)) = decide (x = 1) := by
 rw [Bool.eq_iff_iff, beq_iff_eq, decide_eq_true_eq]
 omega
theorem qwa {p : Pr} {j : Nat} (h : 0 < j) : p.okG (j + 1) = ((p.okG j && dle (p.gs.getD (2 * (j - 1)) 0) mostI) && dle (p.gs.getD (2 * (j - 1) + 1) 0) mostI) := if_neg (by omega)
theorem qtr {p : Pr} {j : Nat} (h : j = 0) : p.okG (j + 1) = p.okG j := by subst h; rfl
theorem so_s0 {p : Pr} {y x : Nat} (h : y = 0) : p.so y (x + 1) = p.so y x + 1 := by subst h; rw [qb9, qb9]
theorem so_s3 {p : Pr} {y x : Nat} (h : 0 < y) : p.so y (x + 1) = p.so y x + 3 := by rw [qbu h, qbu h]; omega
theorem okR_z {p : Pr} {b : Bool} {y x : Nat} (h : y = 0) : p.okR b y (x + 1) = (p.okR b y x && dle (p.sn y x 0) 18446744073709551615) := if_pos h
theorem okR_p {p : Pr} {b : Bool} {y x : Nat} (h : 0 < y) : p.okR b y (x + 1) = (((p.okR b y x && dle (p.sn y x 0) 18446744073709551615) && dle (p.sn y x 1) 4294967295) && dle (p.sn y x 2) 18446744073709551615) := if_neg (by omega)
def qzw (W : World) (g : Nat) (p : Pr) (fs : List Fact) (r : Ending) (w' : World) : Prop := ∃ (z : Snm) (A : Option Addr) (n c : Nat), r = .returned (.agg z.cells) ∧ SnEq p.snA z ∧ StCap z.st ∧ Mem W w' (.blk g #[.slice A n c, .bool p.okB] 111 :: (fs ++ stF z.st))
theorem qts (W w : World) (g : Nat) (NA : Option Addr) (nc : Nat) (p : Pr) (h : p.Fit) (fs : List Fact) (HW : Mem W w (.blk g #[.slice NA p.nums.length nc, .bool true] 111 :: .row (.slice NA p.nums.length nc) p.nums.length (p.nums.map U64) 22 1 :: fs)) (hnc : p.nums.length ≤ nc) :
    Calls Tryz.prog 51 #[.pointer (some ⟨g, 0, none⟩)] w (qzw W g p fs) := by
 obtain ⟨hnl, hsl⟩ := qnk h
 have n0 := qvq p
 have eC : p.oC = 4 + 2 * (p.gp - 1) := rfl
 have eT : p.oT = p.oC + 2 * p.cp := rfl
 have eS : p.oS = p.oT + 1 + 8 * p.tk := rfl
 have c1 := h.cp1; have c2 := h.cp2; have c3 := h.gp1; have c4 := h.gp2; have c5 := h.tk
 refine s_ce Tryz.func51 [vP g 0] [(0, vP g 0)] fun a HF => ?_
 have HM := Mem.start w
 replace HM := HW
 refine s_fs1 ?_
 refine fo HF 0 rfl rfl (s_ea HF HM #[vI 0, vI 0, vQ 0, .slice none 0 0, .slice none 0 0, .slice none 0 0, .slice none 0 0, .slice none 0 0] ?_)
 clear HF HM; intro a w2 g2 HF HM
 refine s_d0 (s_fs1 ?_)
 refine fp HF 1 0 [(12, vP g 0)] fun a HF => ?_
 refine fo HF 1 rfl rfl ?_
 refine s_em HF [vP g 0] (z8 W _ g 0 NA nc p.nums true _ (HM.pt 3 [1, 2, 0]) hnc (by omega) (x := p.nx) (k2 := 1) (o2 := true && dle p.nx mostI) (n0.1) (rfl) (rfl) (rfl)) fun w13 HM a HF => ?_
 refine s_fz HF HM 2 rfl (v := .agg #[vI (toI p.nx), vI 0, vQ 0, .slice none 0 0, .slice none 0 0, .slice none 0 0, .slice none 0 0, .slice none 0 0]) (Yl.build (vs := [(0, vI (toI p.nx))]) rfl (by kernel_rfl) (by kernel_rfl)) fun a HF => ?_
 refine fo HF 3 rfl rfl (s_ea HF HM #[vI 0, vI 0, vQ 0, .slice none 0 0, .slice none 0 0, .slice none 0 0, .slice none 0 0, .slice none 0 0] ?_)
 clear HF HM; intro a w3 g3 HF HM
 refine fo HF 4 rfl rfl (e_sa HF HM 0 rfl rfl rfl rfl rfl z4 rfl rfl (by simp [Value.oneCell']) ?_)
 clear HM; intro w1_4 HM
 refine s_d0 (s_fs1 ?_)
 refine fp HF 2 0 [(4, vP g3 1)] fun a HF => ?_
 refine s_d0 (s_fs1 ?_)
 refine fp HF 3 0 [(18, vP g 0), (17, vP g3 1), (16, vP g3 1)] fun a HF => ?_
 refine fo HF 3 rfl rfl ?_
 refine s_em HF [vP g 0] (z8 W _ g 1 NA nc p.nums (true && dle p.nx mostI) _ (HM.pt 4 [1, 2, 0, 3]) hnc (by omega) (x := p.cp) (k2 := 2) (o2 := (true && dle p.nx mostI) && dle p.cp mostI) (n0.2.1) (rfl) (rfl) (qix (by omega))) fun w19 HM a HF => ?_
 refine fp HF 1 4 [(20, vP g 0)] fun a HF => ?_
 refine fo HF 5 rfl rfl ?_
 refine s_em HF [vP g 0, vQ 18446744073709551615] (qcc 18446744073709551615 W _ g 2 NA nc p.nums ((true && dle p.nx mostI) && dle p.cp mostI) _ (HM.pt 4 [0, 1, 2, 3]) hnc (by omega) (x := p.cr) (k2 := 3) (o2 := ((true && dle p.nx mostI) && dle p.cp mostI) && dle p.cr 18446744073709551615) (n0.2.2.1) (rfl) (rfl)) fun w21 HM a HF => ?_
 refine s_fk HF 6 fun a HF => ?_
 refine fp HF 2 7 [(24, vP g3 1)] fun a HF => ?_
 refine fo HF 9 rfl rfl (s_es HF HM 2 ?_)
 clear HM; intro w3_9 HM
 refine s_fk HF 10 fun a HF => ?_
 refine fp HF 2 11 [(27, vP g3 2)] fun a HF => ?_
 refine fo HF 13 rfl rfl (s_es HF HM 2 ?_)
 clear HM; intro w3_13 HM
 refine s_d0 (wp_seq (s_fs1 ?_))
 refine fp HF 1 0 [(28, vP g 0)] fun a HF => ?_
 refine fo HF 1 rfl rfl ?_
 refine s_em HF [vP g 0] (z8 W _ g 3 NA nc p.nums (((true && dle p.nx mostI) && dle p.cp mostI) && dle p.cr 18446744073709551615) _ (HM.pt 4 [0, 1, 2, 3]) hnc (by omega) (x := p.gp) (k2 := 4 + 2 * (0 - 1)) (o2 := p.okG 0) (n0.2.2.2) (rfl) (rfl) (qix (by omega))) fun w29 HM a HF => ?_
 refine fp HF 1 2 [(30, vI 0)] fun a HF => ?_
 refine s_d0 ?_
 replace HM := HM.nil 40 2
 refine wp_block ?_
 refine qi (fun mS aS wS => ∃ (j : Nat) (G : List Gr) (Ag : Option Addr) (cg : Nat), (j ≤ p.gp) ∧ (G = mapR j p.grp) ∧ (G.length = j) ∧ (G.length ≤ cg) ∧ mS = p.gp - j ∧ Fr aS 191 [] [(30, vI j), (29, vI p.gp), (4, vP g3 1), (3, vP g3 0), (2, vP g2 0), (0, vP g 0)] ∧ Mem W wS (.row (.slice Ag G.length cg) G.length (G.flatMap grL) 40 2 :: .blk g #[.slice (srcA NA nc (4 + 2 * (j - 1))) (p.nums.length - (4 + 2 * (j - 1))) (nc - (4 + 2 * (j - 1))), .bool (p.okG j)] 111 :: .row (.slice NA p.nums.length nc) p.nums.length (p.nums.map U64) 22 1 :: .blk g3 #[vI (toI p.nx), vI p.cp, vQ p.cr, .slice Ag G.length cg, .slice none 0 0, .slice none 0 0, .slice none 0 0, .slice none 0 0] 32 :: .blk g2 #[vI 0, vI 0, vQ 0, .slice none 0 0, .slice none 0 0, .slice none 0 0, .slice none 0 0, .slice none 0 0] 32 :: fs)) (m := p.gp - 0) ⟨0, [], none, 0, Nat.zero_le _, rfl, rfl, Nat.le_refl _, rfl, HF.sub (by kernel_rfl), HM.pt 5 [0, 1, 2, 3, 4]⟩ ?_
 clear HF HM; rintro mS a w_ ⟨j, G, Ag, cg, hj, hG, hGl, hGc, rfl, HF, HM⟩
 refine s_fs1 ?_
 refine fp HF 1 0 [(31, .bool (decide ((j : Int) < (p.gp : Int))))] fun a HF => ?_
 refine s_d0 (wp_seq ?_)
 rcases HF.tf 31 rfl with ⟨hb31, HF⟩ | ⟨hb31, HF⟩
 ·
  have hd31 := of_decide_eq_true hb31
  refine s_ct HF (wp_skip (wp_seq (wp_block (s_fs1 ?_))))
  refine fp HF 2 0 [(5, vI j)] fun a HF => ?_
  refine s_d0 (s_fs1 ?_)
  refine s_fz HF HM 0 rfl (v := .agg #[vI 0, vI 1]) (Yl.build (vs := [(1, vI 1)]) rfl (by kernel_rfl) (by kernel_rfl)) fun a HF => ?_
  refine fo HF 1 rfl rfl (s_ea HF HM #[vI 0, vI 0] ?_)
  clear HF HM; intro a w6 g6 HF HM
  refine fo HF 2 rfl rfl (e_sa HF HM 0 rfl rfl rfl rfl rfl si_gr rfl rfl (by simp [Value.oneCell']) ?_)
  clear HM; intro w7_2 HM
  refine s_d0 (wp_seq (s_fs1 ?_))
  refine fp HF 2 0 [(35, .bool (decide ((j : Int) > (0 : Int))))] fun a HF => ?_
  refine s_d0 ?_
  rcases HF.tf 35 rfl with ⟨hb35, HF⟩ | ⟨hb35, HF⟩
  ·
   have hd35 := of_decide_eq_true hb35
   have hgr : p.grp j = ⟨toI (p.gs.getD (2 * (j - 1)) 0), toI (p.gs.getD (2 * (j - 1) + 1) 0)⟩ := if_neg (by omega)
   refine s_ct HF (qa ?_)
   refine fp HF 1 0 [(36, vP g 0)] fun a HF => ?_
   refine fo HF 1 rfl rfl ?_
   refine s_em HF [vP g 0] (z8 W _ g (4 + 2 * (j - 1)) NA nc p.nums (p.okG j) _ (HM.pt 6 [2, 3, 0, 1, 4, 5]) hnc (by omega) (x := p.gs.getD (2 * (j - 1)) 0) (k2 := 4 + (2 * (j - 1) + 1)) (o2 := p.okG j && dle (p.gs.getD (2 * (j - 1)) 0) mostI) (qr8 h (j := 2 * (j - 1)) (by omega)) (rfl) (rfl) (rfl)) fun w37 HM a HF => ?_
   refine fp HF 1 2 [(38, vP g 0)] fun a HF => ?_
   refine fo HF 3 rfl rfl ?_
   refine s_em HF [vP g 0] (z8 W _ g (4 + (2 * (j - 1) + 1)) NA nc p.nums (p.okG j && dle (p.gs.getD (2 * (j - 1)) 0) mostI) _ (HM.pt 6 [0, 1, 2, 3, 4, 5]) hnc (by omega) (x := p.gs.getD (2 * (j - 1) + 1) 0) (k2 := 4 + 2 * (j + 1 - 1)) (o2 := (p.okG j && dle (p.gs.getD (2 * (j - 1)) 0) mostI) && dle (p.gs.getD (2 * (j - 1) + 1) 0) mostI) (qr8 h (j := 2 * (j - 1) + 1) (by omega)) (by omega) (rfl) (rfl)) fun w39 HM a HF => ?_
   refine fp HF 1 4 [(40, vP g6 0)] fun a HF => ?_
   refine fo HF 5 rfl rfl (s_es HF HM 2 ?_)
   clear HM; intro w9_5 HM
   refine fp HF 1 6 [(41, vP g6 1)] fun a HF => ?_
   refine fo HF 7 rfl rfl (s_es HF HM 2 ?_)
   clear HM; intro w9_7 HM
   refine s_d0 ?_
   replace HM : Mem W _ (.blk g #[.slice (srcA NA nc (4 + 2 * (j + 1 - 1))) (p.nums.length - (4 + 2 * (j + 1 - 1))) (nc - (4 + 2 * (j + 1 - 1))), .bool ((p.okG j && dle (p.gs.getD (2 * (j - 1)) 0) mostI) && dle (p.gs.getD (2 * (j - 1) + 1) 0) mostI)] 111 :: .row (.slice NA p.nums.length nc) p.nums.length (p.nums.map U64) 22 1 :: .blk g6 #[vI (toI (p.gs.getD (2 * (j - 1)) 0)), vI (toI (p.gs.getD (2 * (j - 1) + 1) 0))] 40 :: .row (.slice Ag G.length cg) G.length (G.flatMap grL) 40 2 :: .blk g3 #[vI (toI p.nx), vI p.cp, vQ p.cr, .slice Ag G.length cg, .slice none 0 0, .slice none 0 0, .slice none 0 0, .slice none 0 0] 32 :: .blk g2 #[vI 0, vI 0, vQ 0, .slice none 0 0, .slice none 0 0, .slice none 0 0, .slice none 0 0, .slice none 0 0] 32 :: fs) := HM
   refine zf HM (.blk g #[.slice (srcA NA nc (4 + 2 * (j + 1 - 1))) (p.nums.length - (4 + 2 * (j + 1 - 1))) (nc - (4 + 2 * (j + 1 - 1))), .bool ((p.okG j && dle (p.gs.getD (2 * (j - 1)) 0) mostI) && dle (p.gs.getD (2 * (j - 1) + 1) 0) mostI)] 111 :: .row (.slice NA p.nums.length nc) p.nums.length (p.nums.map U64) 22 1 :: .blk g6 #[vI (toI (p.gs.getD (2 * (j - 1)) 0)), vI (toI (p.gs.getD (2 * (j - 1) + 1) 0))] 40 :: .blk g3 #[vI (toI p.nx), vI p.cp, vQ p.cr, .slice Ag G.length cg, .slice none 0 0, .slice none 0 0, .slice none 0 0, .slice none 0 0] 32 :: .blk g2 #[vI 0, vI 0, vQ 0, .slice none 0 0, .slice none 0 0, .slice none 0 0, .slice none 0 0, .slice none 0 0] 32 :: fs) 6 [0, 1, 2, 4, 5] [12] fun HM HS => ?_
   refine ap HF (fun _ => HS) [0, 1] (bf 13 [0, 1]) [(43, vP g3 1), (42, vP g3 1)] fun a HF => ?_
   refine s_az HF HS 2 rfl (v := vP g3 1) (Yl.nilCheck rfl rfl) fun a HF => ?_
   refine ap HF (fun _ => HS) [3, 4] (bf 13 [0, 1, 2, 3, 4]) [(46, vP g3 3)] fun a HF => ?_
   refine s_ac HF HS 5 3 fun a HF => ?_
   refine s_az HF HS 6 rfl (v := .agg #[vI (toI (p.gs.getD (2 * (j - 1)) 0)), vI (toI (p.gs.getD (2 * (j - 1) + 1) 0))]) (Yl.qt rfl rfl si_gr rfl (fun _ h => qg (h.blk (i := 2) rfl))) fun a HF => ?_
   refine qe [7] (by kernel_rfl) rfl ?_
   refine all_cons ?_ all_nil
   refine qf HF (i := 7) rfl rfl ?_
   refine s_el HF HM ei_gr [(0, .agg #[vI (toI (p.gs.getD (2 * (j - 1)) 0)), vI (toI (p.gs.getD (2 * (j - 1) + 1) 0))])] #[vI (toI (p.gs.getD (2 * (j - 1)) 0)), vI (toI (p.gs.getD (2 * (j - 1) + 1) 0))] ?_
   clear HF HM; intro a w49 g49 HF HM
   refine keepS (HM.pt 7 [1, 2, 3, 5, 6]) (fun HS => ?_)
   refine qe [8] (by kernel_rfl) rfl ?_
   refine all_cons ?_ all_nil
   refine qf HF (i := 8) rfl rfl ?_
   refine qo HF HM (i := 4) rfl ei_gr rfl rfl rfl (news := ([(⟨toI (p.gs.getD (2 * (j - 1)) 0), toI (p.gs.getD (2 * (j - 1) + 1) 0)⟩ : Gr)].flatMap grL)) (HM.rdBlk (i := 0) (n := 1) (size := 2) rfl rfl) (qna _) (by omega) (by omega) rfl (by decide) ?_
   clear HF HM; intro a w50 A50 c50 HF HM hc50
   refine keepS (HM.pt 7 [1, 2, 3, 5, 6]) (fun HS => ?_)
   refine qh HF (fun _ => HS) (i := 9) rfl rfl (d := 51) rfl (by decide) (by kernel_rfl) (fun _ _ _ h => h) (v := vP g3 1) (fun _ => Yl.nilCheck rfl rfl) fun a HF => ?_
   refine ap HF (fun _ => HS) [10, 11] (bt 13 [12]) [(53, vP g3 3)] fun a HF => ?_
   refine qe [12] (by kernel_rfl) rfl ?_
   refine all_cons ?_ all_nil
   refine qf HF (i := 12) rfl rfl ?_
   refine s_es HF HM 5 ?_
   clear HM; intro w10_12 HM
   refine noS (by kernel_rfl) ?_
   refine qk (by kernel_rfl) ?_
   have hnA50 : G.length + 1 = (G ++ [p.grp j]).length := qs rfl
   replace HM := HM.reRow (i := 4) (ys := (G ++ [p.grp j]).flatMap grL) rfl hnA50 (by rw [hgr]; exact List.flatMap_append.symm)
   rw [hnA50] at hc50
   replace HF := HF.sp 50 (.slice A50 ((G ++ [p.grp j]).length) c50) rfl (by rw [hnA50])
   replace HM := HM.reBlk (i := 5) (ds := #[vI (toI p.nx), vI p.cp, vQ p.cr, .slice A50 ((G ++ [p.grp j]).length) c50, .slice none 0 0, .slice none 0 0, .slice none 0 0, .slice none 0 0]) rfl (by rw [hnA50]; rfl)
   refine qa ?_
   refine fp HF 1 0 [(54, vI (IntKind.i64.wrap ((j : Int) + 1)))] fun a HF => ?_
   replace HF := HF.sp 54 (vI (j + 1 : Nat)) rfl (qc (by omega) (by omega))
   refine fp HF 1 1 [(30, vI (j + 1 : Nat))] fun a HF => ?_
   refine s_d0 ?_
   replace HM := HM.reBlk (i := 1) (ds := #[.slice (srcA NA nc (4 + 2 * (j + 1 - 1))) (p.nums.length - (4 + 2 * (j + 1 - 1))) (nc - (4 + 2 * (j + 1 - 1))), .bool (p.okG (j + 1))]) rfl (by rw [qwa (by omega)])
   exact ⟨_, (by omega), j + 1, (G ++ [p.grp j]), A50, c50, by omega, by rw [hG, q1], by rw [List.length_append, hGl]; rfl, hc50, rfl, HF.sub (by kernel_rfl), HM.pt 7 [4, 1, 2, 5, 6]⟩
  have hd35 := of_decide_eq_false hb35
  have hgr : p.grp j = ⟨0, 1⟩ := if_pos (by omega)
  refine s_cf HF (wp_skip ?_)
  refine zf HM (.blk g6 #[vI 0, vI 1] 40 :: .blk g #[.slice (srcA NA nc (4 + 2 * (j - 1))) (p.nums.length - (4 + 2 * (j - 1))) (nc - (4 + 2 * (j - 1))), .bool (p.okG j)] 111 :: .row (.slice NA p.nums.length nc) p.nums.length (p.nums.map U64) 22 1 :: .blk g3 #[vI (toI p.nx), vI p.cp, vQ p.cr, .slice Ag G.length cg, .slice none 0 0, .slice none 0 0, .slice none 0 0, .slice none 0 0] 32 :: .blk g2 #[vI 0, vI 0, vQ 0, .slice none 0 0, .slice none 0 0, .slice none 0 0, .slice none 0 0, .slice none 0 0] 32 :: fs) 6 [0, 2, 3, 4, 5] [12] fun HM HS => ?_
  refine ap HF (fun _ => HS) [0, 1] (bf 13 [0, 1]) [(43, vP g3 1), (42, vP g3 1)] fun a HF => ?_
  refine s_az HF HS 2 rfl (v := vP g3 1) (Yl.nilCheck rfl rfl) fun a HF => ?_
  refine ap HF (fun _ => HS) [3, 4] (bf 13 [0, 1, 2, 3, 4]) [(46, vP g3 3)] fun a HF => ?_
  refine s_ac HF HS 5 3 fun a HF => ?_
  refine s_az HF HS 6 rfl (v := .agg #[vI 0, vI 1]) (Yl.qt rfl rfl si_gr rfl (fun _ h => qg (h.blk (i := 0) rfl))) fun a HF => ?_
  refine qe [7] (by kernel_rfl) rfl ?_
  refine all_cons ?_ all_nil
  refine qf HF (i := 7) rfl rfl ?_
  refine s_el HF HM ei_gr [(0, .agg #[vI 0, vI 1])] #[vI 0, vI 1] ?_
  clear HF HM; intro a w49 g49 HF HM
  refine keepS (HM.pt 7 [1, 3, 4, 5, 6]) (fun HS => ?_)
  refine qe [8] (by kernel_rfl) rfl ?_
  refine all_cons ?_ all_nil
  refine qf HF (i := 8) rfl rfl ?_
  refine qo HF HM (i := 2) rfl ei_gr rfl rfl rfl (news := ([(⟨0, 1⟩ : Gr)].flatMap grL)) (HM.rdBlk (i := 0) (n := 1) (size := 2) rfl rfl) (qna _) (by omega) (by omega) rfl (by decide) ?_
  clear HF HM; intro a w50 A50 c50 HF HM hc50
  refine keepS (HM.pt 7 [1, 3, 4, 5, 6]) (fun HS => ?_)
  refine qh HF (fun _ => HS) (i := 9) rfl rfl (d := 51) rfl (by decide) (by kernel_rfl) (fun _ _ _ h => h) (v := vP g3 1) (fun _ => Yl.nilCheck rfl rfl) fun a HF => ?_
  refine ap HF (fun _ => HS) [10, 11] (bt 13 [12]) [(53, vP g3 3)] fun a HF => ?_
  refine qe [12] (by kernel_rfl) rfl ?_
  refine all_cons ?_ all_nil
  refine qf HF (i := 12) rfl rfl ?_
  refine s_es HF HM 5 ?_
  clear HM; intro w10_12 HM
  refine noS (by kernel_rfl) ?_
  refine qk (by kernel_rfl) ?_
  have hnA50 : G.length + 1 = (G ++ [p.grp j]).length := qs rfl
  replace HM := HM.reRow (i := 2) (ys := (G ++ [p.grp j]).flatMap grL) rfl hnA50 (by rw [hgr]; exact List.flatMap_append.symm)
  rw [hnA50] at hc50
  replace HF := HF.sp 50 (.slice A50 ((G ++ [p.grp j]).length) c50) rfl (by rw [hnA50])
  replace HM := HM.reBlk (i := 5) (ds := #[vI (toI p.nx), vI p.cp, vQ p.cr, .slice A50 ((G ++ [p.grp j]).length) c50, .slice none 0 0, .slice none 0 0, .slice none 0 0, .slice none 0 0]) rfl (by rw [hnA50]; rfl)
  refine qa ?_
  refine fp HF 1 0 [(54, vI (IntKind.i64.wrap ((j : Int) + 1)))] fun a HF => ?_
  replace HF := HF.sp 54 (vI (j + 1 : Nat)) rfl (qc (by omega) (by omega))
  refine fp HF 1 1 [(30, vI (j + 1 : Nat))] fun a HF => ?_
  refine s_d0 ?_
  replace HM := HM.reBlk (i := 3) (ds := #[.slice (srcA NA nc (4 + 2 * (j + 1 - 1))) (p.nums.length - (4 + 2 * (j + 1 - 1))) (nc - (4 + 2 * (j + 1 - 1))), .bool (p.okG (j + 1))]) rfl (by rw [qtr (by omega), show 4 + 2 * (j + 1 - 1) = 4 + 2 * (j - 1) by omega])
  exact ⟨_, (by omega), j + 1, (G ++ [p.grp j]), A50, c50, by omega, by rw [hG, q1], by rw [List.length_append, hGl]; rfl, hc50, rfl, HF.sub (by kernel_rfl), HM.pt 7 [2, 3, 4, 5, 6]⟩
 have hd31 := of_decide_eq_false hb31
 refine s_cf HF (wp_exit (wp_seq (s_fs1 ?_)))
 refine fp HF 1 0 [(55, vP g3 1)] fun a HF => ?_
 refine s_fk HF 1 fun a HF => ?_
 refine fp HF 2 2 [(58, vP g3 1)] fun a HF => ?_
 refine s_fc HF HM 4 3 fun a HF => ?_
 refine fp HF 1 5 [(60, vI 0)] fun a HF => ?_
 refine s_d0 ?_
 replace HM := HM.nil 3 1
 replace HM := HM.reBlk (i := 2) (ds := #[.slice (srcA NA nc (p.oC + 0)) (p.nums.length - (p.oC + 0)) (nc - (p.oC + 0)), .bool (p.okC 0)]) rfl (by rw [show j = p.gp by omega]; rfl)
 refine wp_block ?_
 refine qi (fun mS aS wS => ∃ (k : Nat) (C : List Int) (Al : Option Addr) (cl : Nat), (k ≤ p.cp) ∧ (C = mapR k fun i => toI (p.cl.getD i 0)) ∧ (C.length = k) ∧ (C.length ≤ cl) ∧ mS = p.cp - k ∧ Fr aS 191 [] [(60, vI k), (59, vI p.cp), (31, .bool false), (30, vI j), (29, vI p.gp), (4, vP g3 1), (3, vP g3 0), (2, vP g2 0), (0, vP g 0)] ∧ Mem W wS (.row (.slice Al C.length cl) C.length (C.map I64i) 3 1 :: .row (.slice Ag G.length cg) G.length (G.flatMap grL) 40 2 :: .blk g #[.slice (srcA NA nc (p.oC + k)) (p.nums.length - (p.oC + k)) (nc - (p.oC + k)), .bool (p.okC k)] 111 :: .row (.slice NA p.nums.length nc) p.nums.length (p.nums.map U64) 22 1 :: .blk g3 #[vI (toI p.nx), vI p.cp, vQ p.cr, .slice Ag G.length cg, .slice Al C.length cl, .slice none 0 0, .slice none 0 0, .slice none 0 0] 32 :: .blk g2 #[vI 0, vI 0, vQ 0, .slice none 0 0, .slice none 0 0, .slice none 0 0, .slice none 0 0, .slice none 0 0] 32 :: fs)) (m := p.cp - 0) ⟨0, [], none, 0, Nat.zero_le _, rfl, rfl, Nat.le_refl _, rfl, HF.sub (by kernel_rfl), HM.pt 6 [0, 1, 2, 3, 4, 5]⟩ ?_
 clear HF HM; rintro mS a w_ ⟨k, C, Al, cl, hk, hC, hCl, hCc, rfl, HF, HM⟩
 refine s_fs1 ?_
 refine fp HF 1 0 [(61, .bool (decide ((k : Int) < (p.cp : Int))))] fun a HF => ?_
 refine s_d0 (wp_seq ?_)
 rcases HF.tf 61 rfl with ⟨hb61, HF⟩ | ⟨hb61, HF⟩
 ·
  have hd61 := of_decide_eq_true hb61
  refine s_ct HF (wp_skip (wp_seq (wp_block ?_)))
  refine zf HM (.row (.slice Ag G.length cg) G.length (G.flatMap grL) 40 2 :: .row (.slice NA p.nums.length nc) p.nums.length (p.nums.map U64) 22 1 :: .blk g3 #[vI (toI p.nx), vI p.cp, vQ p.cr, .slice Ag G.length cg, .slice Al C.length cl, .slice none 0 0, .slice none 0 0, .slice none 0 0] 32 :: .blk g2 #[vI 0, vI 0, vQ 0, .slice none 0 0, .slice none 0 0, .slice none 0 0, .slice none 0 0, .slice none 0 0] 32 :: fs) 6 [1, 3, 4, 5] [11] fun HM HS => ?_
  refine ap HF (fun _ => HS) [0, 1, 5] (bf 12 [0, 1, 5]) [(67, vP g 0), (63, vP g3 1), (62, vP g3 1)] fun a HF => ?_
  refine s_az HF HS 2 rfl (v := vP g3 1) (Yl.nilCheck rfl rfl) fun a HF => ?_
  refine ap HF (fun _ => HS) [3] (bf 12 [0, 1, 2, 3, 5]) [(65, vP g3 4)] fun a HF => ?_
  refine s_ac HF HS 4 2 fun a HF => ?_
  refine qe [6] (by kernel_rfl) rfl ?_
  refine all_cons ?_ all_nil
  refine qf HF (i := 6) rfl rfl ?_
  refine s_em HF [vP g 0] (z8 W _ g (p.oC + k) NA nc p.nums (p.okC k) _ (HM.pt 6 [2, 3, 0, 1, 4, 5]) hnc (by omega) (x := p.cl.getD k 0) (k2 := p.oC + (k + 1)) (o2 := p.okC (k + 1)) (qy1 h (by omega)) (rfl) (rfl) (rfl)) fun w68 HM a HF => ?_
  refine keepS (HM.pt 6 [3, 1, 4, 5]) (fun HS => ?_)
  refine qe [7] (by kernel_rfl) rfl ?_
  refine all_cons ?_ all_nil
  refine qf HF (i := 7) rfl rfl ?_
  refine s_el HF HM qbf [(0, vI (toI (p.cl.getD k 0)))] #[vI (toI (p.cl.getD k 0))] ?_
  clear HF HM; intro a w69 g69 HF HM
  refine keepS (HM.pt 7 [4, 2, 5, 6]) (fun HS => ?_)
  refine qe [8] (by kernel_rfl) rfl ?_
  refine all_cons ?_ all_nil
  refine qf HF (i := 8) rfl rfl ?_
  refine qo HF HM (i := 3) rfl qbf rfl rfl rfl (news := ([toI (p.cl.getD k 0)].map I64i)) (HM.rdBlk (i := 0) (n := 1) (size := 1) rfl rfl) (qgn _) (by omega) (by omega) rfl (by decide) ?_
  clear HF HM; intro a w70 A70 c70 HF HM hc70
  refine keepS (HM.pt 7 [4, 2, 5, 6]) (fun HS => ?_)
  refine qh HF (fun _ => HS) (i := 9) rfl rfl (d := 71) rfl (by decide) (by kernel_rfl) (fun _ _ _ h => h) (v := vP g3 1) (fun _ => Yl.nilCheck rfl rfl) fun a HF => ?_
  refine ap HF (fun _ => HS) [10] (bt 12 [11]) [(72, vP g3 4)] fun a HF => ?_
  refine qe [11] (by kernel_rfl) rfl ?_
  refine all_cons ?_ all_nil
  refine qf HF (i := 11) rfl rfl ?_
  refine s_es HF HM 5 ?_
  clear HM; intro w14_11 HM
  refine noS (by kernel_rfl) ?_
  refine qk (by kernel_rfl) ?_
  have hnA70 : C.length + 1 = (C ++ [toI (p.cl.getD k 0)]).length := qs rfl
  replace HM := HM.reRow (i := 3) (ys := (C ++ [toI (p.cl.getD k 0)]).map I64i) rfl hnA70 (by exact List.map_append.symm)
  rw [hnA70] at hc70
  replace HF := HF.sp 70 (.slice A70 ((C ++ [toI (p.cl.getD k 0)]).length) c70) rfl (by rw [hnA70])
  replace HM := HM.reBlk (i := 5) (ds := #[vI (toI p.nx), vI p.cp, vQ p.cr, .slice Ag G.length cg, .slice A70 ((C ++ [toI (p.cl.getD k 0)]).length) c70, .slice none 0 0, .slice none 0 0, .slice none 0 0]) rfl (by rw [hnA70]; rfl)
  refine qa ?_
  refine fp HF 1 0 [(73, vI (IntKind.i64.wrap ((k : Int) + 1)))] fun a HF => ?_
  replace HF := HF.sp 73 (vI (k + 1 : Nat)) rfl (qc (by omega) (by omega))
  refine fp HF 1 1 [(60, vI (k + 1 : Nat))] fun a HF => ?_
  refine s_d0 ?_
  exact ⟨_, (by omega), k + 1, (C ++ [toI (p.cl.getD k 0)]), A70, c70, by omega, by rw [hC, q1], by rw [List.length_append, hCl]; rfl, hc70, rfl, HF.sub (by kernel_rfl), HM.pt 7 [3, 4, 1, 2, 5, 6]⟩
 have hd61 := of_decide_eq_false hb61
 refine s_cf HF (wp_exit (wp_seq (s_fs1 ?_)))
 refine fp HF 1 0 [(74, vP g3 1)] fun a HF => ?_
 refine s_fk HF 1 fun a HF => ?_
 refine fp HF 2 2 [(77, vP g3 1)] fun a HF => ?_
 refine s_fc HF HM 4 4 fun a HF => ?_
 refine fp HF 1 5 [(79, vI 0)] fun a HF => ?_
 refine s_d0 ?_
 replace HM := HM.nil 3 1
 replace HM := HM.reBlk (i := 3) (ds := #[.slice (srcA NA nc (p.oC + p.cp + 0)) (p.nums.length - (p.oC + p.cp + 0)) (nc - (p.oC + p.cp + 0)), .bool (p.okU 0)]) rfl (by rw [show k = p.cp by omega]; rfl)
 refine wp_block ?_
 refine qi (fun mS aS wS => ∃ (u : Nat) (U : List Int) (Au : Option Addr) (cu : Nat), (u ≤ p.cp) ∧ (U = mapR u fun i => toI (p.cu.getD i 0)) ∧ (U.length = u) ∧ (U.length ≤ cu) ∧ mS = p.cp - u ∧ Fr aS 191 [] [(79, vI u), (78, vI p.cp), (61, .bool false), (60, vI k), (59, vI p.cp), (31, .bool false), (30, vI j), (29, vI p.gp), (4, vP g3 1), (3, vP g3 0), (2, vP g2 0), (0, vP g 0)] ∧ Mem W wS (.row (.slice Au U.length cu) U.length (U.map I64i) 3 1 :: .row (.slice Al C.length cl) C.length (C.map I64i) 3 1 :: .row (.slice Ag G.length cg) G.length (G.flatMap grL) 40 2 :: .blk g #[.slice (srcA NA nc (p.oC + p.cp + u)) (p.nums.length - (p.oC + p.cp + u)) (nc - (p.oC + p.cp + u)), .bool (p.okU u)] 111 :: .row (.slice NA p.nums.length nc) p.nums.length (p.nums.map U64) 22 1 :: .blk g3 #[vI (toI p.nx), vI p.cp, vQ p.cr, .slice Ag G.length cg, .slice Al C.length cl, .slice Au U.length cu, .slice none 0 0, .slice none 0 0] 32 :: .blk g2 #[vI 0, vI 0, vQ 0, .slice none 0 0, .slice none 0 0, .slice none 0 0, .slice none 0 0, .slice none 0 0] 32 :: fs)) (m := p.cp - 0) ⟨0, [], none, 0, Nat.zero_le _, rfl, rfl, Nat.le_refl _, rfl, HF.sub (by kernel_rfl), HM.pt 7 [0, 1, 2, 3, 4, 5, 6]⟩ ?_
 clear HF HM; rintro mS a w_ ⟨u, U, Au, cu, hu, hU, hUl, hUc, rfl, HF, HM⟩
 refine s_fs1 ?_
 refine fp HF 1 0 [(80, .bool (decide ((u : Int) < (p.cp : Int))))] fun a HF => ?_
 refine s_d0 (wp_seq ?_)
 rcases HF.tf 80 rfl with ⟨hb80, HF⟩ | ⟨hb80, HF⟩
 ·
  have hd80 := of_decide_eq_true hb80
  refine s_ct HF (wp_skip (wp_seq (wp_block ?_)))
  refine zf HM (.row (.slice Al C.length cl) C.length (C.map I64i) 3 1 :: .row (.slice Ag G.length cg) G.length (G.flatMap grL) 40 2 :: .row (.slice NA p.nums.length nc) p.nums.length (p.nums.map U64) 22 1 :: .blk g3 #[vI (toI p.nx), vI p.cp, vQ p.cr, .slice Ag G.length cg, .slice Al C.length cl, .slice Au U.length cu, .slice none 0 0, .slice none 0 0] 32 :: .blk g2 #[vI 0, vI 0, vQ 0, .slice none 0 0, .slice none 0 0, .slice none 0 0, .slice none 0 0, .slice none 0 0] 32 :: fs) 7 [1, 2, 4, 5, 6] [11] fun HM HS => ?_
  refine ap HF (fun _ => HS) [0, 1, 5] (bf 12 [0, 1, 5]) [(86, vP g 0), (82, vP g3 1), (81, vP g3 1)] fun a HF => ?_
  refine s_az HF HS 2 rfl (v := vP g3 1) (Yl.nilCheck rfl rfl) fun a HF => ?_
  refine ap HF (fun _ => HS) [3] (bf 12 [0, 1, 2, 3, 5]) [(84, vP g3 5)] fun a HF => ?_
  refine s_ac HF HS 4 3 fun a HF => ?_
  refine qe [6] (by kernel_rfl) rfl ?_
  refine all_cons ?_ all_nil
  refine qf HF (i := 6) rfl rfl ?_
  refine s_em HF [vP g 0] (z8 W _ g (p.oC + p.cp + u) NA nc p.nums (p.okU u) _ (HM.pt 7 [3, 4, 0, 1, 2, 5, 6]) hnc (by omega) (x := p.cu.getD u 0) (k2 := p.oC + p.cp + (u + 1)) (o2 := p.okU (u + 1)) (qy2 h (by omega)) (rfl) (rfl) (rfl)) fun w87 HM a HF => ?_
  refine keepS (HM.pt 7 [3, 4, 1, 5, 6]) (fun HS => ?_)
  refine qe [7] (by kernel_rfl) rfl ?_
  refine all_cons ?_ all_nil
  refine qf HF (i := 7) rfl rfl ?_
  refine s_el HF HM qbf [(0, vI (toI (p.cu.getD u 0)))] #[vI (toI (p.cu.getD u 0))] ?_
  clear HF HM; intro a w88 g88 HF HM
  refine keepS (HM.pt 8 [4, 5, 2, 6, 7]) (fun HS => ?_)
  refine qe [8] (by kernel_rfl) rfl ?_
  refine all_cons ?_ all_nil
  refine qf HF (i := 8) rfl rfl ?_
  refine qo HF HM (i := 3) rfl qbf rfl rfl rfl (news := ([toI (p.cu.getD u 0)].map I64i)) (HM.rdBlk (i := 0) (n := 1) (size := 1) rfl rfl) (qgn _) (by omega) (by omega) rfl (by decide) ?_
  clear HF HM; intro a w89 A89 c89 HF HM hc89
  refine keepS (HM.pt 8 [4, 5, 2, 6, 7]) (fun HS => ?_)
  refine qh HF (fun _ => HS) (i := 9) rfl rfl (d := 90) rfl (by decide) (by kernel_rfl) (fun _ _ _ h => h) (v := vP g3 1) (fun _ => Yl.nilCheck rfl rfl) fun a HF => ?_
  refine ap HF (fun _ => HS) [10] (bt 12 [11]) [(91, vP g3 5)] fun a HF => ?_
  refine qe [11] (by kernel_rfl) rfl ?_
  refine all_cons ?_ all_nil
  refine qf HF (i := 11) rfl rfl ?_
  refine s_es HF HM 6 ?_
  clear HM; intro w18_11 HM
  refine noS (by kernel_rfl) ?_
  refine qk (by kernel_rfl) ?_
  have hnA89 : U.length + 1 = (U ++ [toI (p.cu.getD u 0)]).length := qs rfl
  replace HM := HM.reRow (i := 3) (ys := (U ++ [toI (p.cu.getD u 0)]).map I64i) rfl hnA89 (by exact List.map_append.symm)
  rw [hnA89] at hc89
  replace HF := HF.sp 89 (.slice A89 ((U ++ [toI (p.cu.getD u 0)]).length) c89) rfl (by rw [hnA89])
  replace HM := HM.reBlk (i := 6) (ds := #[vI (toI p.nx), vI p.cp, vQ p.cr, .slice Ag G.length cg, .slice Al C.length cl, .slice A89 ((U ++ [toI (p.cu.getD u 0)]).length) c89, .slice none 0 0, .slice none 0 0]) rfl (by rw [hnA89]; rfl)
  refine qa ?_
  refine fp HF 1 0 [(92, vI (IntKind.i64.wrap ((u : Int) + 1)))] fun a HF => ?_
  replace HF := HF.sp 92 (vI (u + 1 : Nat)) rfl (qc (by omega) (by omega))
  refine fp HF 1 1 [(79, vI (u + 1 : Nat))] fun a HF => ?_
  refine s_d0 ?_
  exact ⟨_, (by omega), u + 1, (U ++ [toI (p.cu.getD u 0)]), A89, c89, by omega, by rw [hU, q1], by rw [List.length_append, hUl]; rfl, hc89, rfl, HF.sub (by kernel_rfl), HM.pt 8 [3, 4, 5, 1, 2, 6, 7]⟩
 have hd80 := of_decide_eq_false hb80
 refine s_cf HF (wp_exit (s_fs1 ?_))
 refine fp HF 1 0 [(7, vI 0)] fun a HF => ?_
 refine s_d0 ?_
 replace HM := HM.reBlk (i := 3) (ds := #[.slice (srcA NA nc p.oT) (p.nums.length - p.oT) (nc - p.oT), .bool (p.okU p.cp)]) rfl (by rw [show u = p.cp by omega, show p.oC + p.cp + p.cp = p.oT by omega])
 refine wp_seq (s_fs1 ?_)
 refine fp HF 1 0 [(93, vP g 0)] fun a HF => ?_
 refine fo HF 1 rfl rfl ?_
 refine s_em HF [vP g 0] (z8 W _ g p.oT NA nc p.nums (p.okU p.cp) _ (HM.pt 7 [3, 4, 0, 1, 2, 5, 6]) hnc (by omega) (x := p.tk) (k2 := p.oT + 1 + 8 * 0) (o2 := p.okT 0) (qy3 h) (rfl) (rfl) (qix (by omega))) fun w94 HM a HF => ?_
 refine fp HF 1 2 [(95, vI 0)] fun a HF => ?_
 refine s_d0 ?_
 replace HM := HM.nil 46 8
 refine wp_block ?_
 refine qi (fun mS aS wS => ∃ (i : Nat) (T : List Tk) (At : Option Addr) (ct : Nat), (i ≤ p.tk) ∧ (T = mapR i p.tsk) ∧ (T.length = i) ∧ (T.length ≤ ct) ∧ mS = p.tk - i ∧ Fr aS 191 [] [(95, vI i), (94, vI p.tk), (7, vI (p.idB i)), (80, .bool false), (79, vI u), (78, vI p.cp), (61, .bool false), (60, vI k), (59, vI p.cp), (31, .bool false), (30, vI j), (29, vI p.gp), (4, vP g3 1), (3, vP g3 0), (2, vP g2 0), (0, vP g 0)] ∧ Mem W wS (.row (.slice At T.length ct) T.length (T.flatMap tkL) 46 8 :: .blk g #[.slice (srcA NA nc (p.oT + 1 + 8 * i)) (p.nums.length - (p.oT + 1 + 8 * i)) (nc - (p.oT + 1 + 8 * i)), .bool (p.okT i)] 111 :: .row (.slice NA p.nums.length nc) p.nums.length (p.nums.map U64) 22 1 :: .row (.slice Au U.length cu) U.length (U.map I64i) 3 1 :: .row (.slice Al C.length cl) C.length (C.map I64i) 3 1 :: .row (.slice Ag G.length cg) G.length (G.flatMap grL) 40 2 :: .blk g3 #[vI (toI p.nx), vI p.cp, vQ p.cr, .slice Ag G.length cg, .slice Al C.length cl, .slice Au U.length cu, .slice At T.length ct, .slice none 0 0] 32 :: .blk g2 #[vI 0, vI 0, vQ 0, .slice none 0 0, .slice none 0 0, .slice none 0 0, .slice none 0 0, .slice none 0 0] 32 :: fs)) (m := p.tk - 0) ⟨0, [], none, 0, Nat.zero_le _, rfl, rfl, Nat.le_refl _, rfl, HF.sub (by kernel_rfl), HM.pt 8 [0, 1, 2, 3, 4, 5, 6, 7]⟩ ?_
 clear HF HM; rintro mS a w_ ⟨i, T, At, ct, hi, hT, hTl, hTc, rfl, HF, HM⟩
 refine s_fs1 ?_
 refine fp HF 1 0 [(96, .bool (decide ((i : Int) < (p.tk : Int))))] fun a HF => ?_
 refine s_d0 (wp_seq ?_)
 rcases HF.tf 96 rfl with ⟨hb96, HF⟩ | ⟨hb96, HF⟩
 ·
  have hd96 := of_decide_eq_true hb96
  refine s_ct HF (wp_skip (wp_seq (wp_block (s_fs1 ?_))))
  refine fp HF 2 0 [(98, vP g 0), (97, vI (p.idB i))] fun a HF => ?_
  refine fo HF 2 rfl rfl ?_
  refine s_em HF [vP g 0] (z8 W _ g (p.oT + 1 + 8 * i) NA nc p.nums (p.okT i) _ (HM.pt 8 [1, 2, 0, 3, 4, 5, 6, 7]) hnc (by omega) (x := p.tn i 0) (k2 := p.oT + 1 + (8 * i + 1)) (o2 := p.okT i && dle (p.tn i 0) mostI) (qco h (j := 8 * i) (by omega)) (rfl) (rfl) (rfl)) fun w99 HM a HF => ?_
  refine fp HF 1 3 [(100, vI (IntKind.i64.wrap ((p.idB i) + (toI (p.tn i 0)))))] fun a HF => ?_
  replace HF := HF.sp 100 (vI (p.idA i)) rfl (rfl)
  refine fp HF 1 4 [(7, vI (p.idA i))] fun a HF => ?_
  refine s_d0 (s_fs1 ?_)
  refine fp HF 2 0 [(102, vP g 0), (101, vI (p.idA i))] fun a HF => ?_
  refine fo HF 2 rfl rfl ?_
  refine s_em HF [vP g 0] (z8 W _ g (p.oT + 1 + (8 * i + 1)) NA nc p.nums (p.okT i && dle (p.tn i 0) mostI) _ (HM.pt 8 [0, 1, 2, 3, 4, 5, 6, 7]) hnc (by omega) (x := p.tn i 1) (k2 := p.oT + 1 + (8 * i + 2)) (o2 := (p.okT i && dle (p.tn i 0) mostI) && dle (p.tn i 1) mostI) (qco h (j := 8 * i + 1) (by omega)) (rfl) (rfl) (rfl)) fun w103 HM a HF => ?_
  refine fp HF 1 3 [(104, vP g 0)] fun a HF => ?_
  refine fo HF 4 rfl rfl ?_
  refine s_em HF [vP g 0] (z8 W _ g (p.oT + 1 + (8 * i + 2)) NA nc p.nums ((p.okT i && dle (p.tn i 0) mostI) && dle (p.tn i 1) mostI) _ (HM.pt 8 [0, 1, 2, 3, 4, 5, 6, 7]) hnc (by omega) (x := p.tn i 2) (k2 := p.oT + 1 + (8 * i + 3)) (o2 := ((p.okT i && dle (p.tn i 0) mostI) && dle (p.tn i 1) mostI) && dle (p.tn i 2) mostI) (qco h (j := 8 * i + 2) (by omega)) (rfl) (rfl) (rfl)) fun w105 HM a HF => ?_
  refine fp HF 1 5 [(106, vP g 0)] fun a HF => ?_
  refine fo HF 6 rfl rfl ?_
  refine s_em HF [vP g 0] (z8 W _ g (p.oT + 1 + (8 * i + 3)) NA nc p.nums (((p.okT i && dle (p.tn i 0) mostI) && dle (p.tn i 1) mostI) && dle (p.tn i 2) mostI) _ (HM.pt 8 [0, 1, 2, 3, 4, 5, 6, 7]) hnc (by omega) (x := p.tn i 3) (k2 := p.oT + 1 + (8 * i + 4)) (o2 := (((p.okT i && dle (p.tn i 0) mostI) && dle (p.tn i 1) mostI) && dle (p.tn i 2) mostI) && dle (p.tn i 3) mostI) (qco h (j := 8 * i + 3) (by omega)) (rfl) (rfl) (rfl)) fun w107 HM a HF => ?_
  refine fp HF 1 7 [(108, vP g 0)] fun a HF => ?_
  refine fo HF 8 rfl rfl ?_
  refine s_em HF [vP g 0, vQ 18446744073709551615] (qcc 18446744073709551615 W _ g (p.oT + 1 + (8 * i + 4)) NA nc p.nums ((((p.okT i && dle (p.tn i 0) mostI) && dle (p.tn i 1) mostI) && dle (p.tn i 2) mostI) && dle (p.tn i 3) mostI) _ (HM.pt 8 [0, 1, 2, 3, 4, 5, 6, 7]) hnc (by omega) (x := p.tn i 4) (k2 := p.oT + 1 + (8 * i + 5)) (o2 := ((((p.okT i && dle (p.tn i 0) mostI) && dle (p.tn i 1) mostI) && dle (p.tn i 2) mostI) && dle (p.tn i 3) mostI) && dle (p.tn i 4) 18446744073709551615) (qco h (j := 8 * i + 4) (by omega)) (rfl) (rfl)) fun w109 HM a HF => ?_
  refine s_fz HF HM 9 rfl (v := .agg #[vI (p.idA i), vI (toI (p.tn i 1)), vI (toI (p.tn i 2)), vI (toI (p.tn i 3)), vQ (p.tn i 4), .bool false, vQ 0, vW 0]) (Yl.build (vs := [(0, vI (p.idA i)), (1, vI (toI (p.tn i 1))), (2, vI (toI (p.tn i 2))), (3, vI (toI (p.tn i 3))), (4, vQ (p.tn i 4))]) rfl (by kernel_rfl) (by kernel_rfl)) fun a HF => ?_
  refine fo HF 10 rfl rfl (s_ea HF HM #[vI 0, vI 0, vI 0, vI 0, vQ 0, .bool false, vQ 0, vW 0] ?_)
  clear HF HM; intro a w8 g8 HF HM
  refine fo HF 11 rfl rfl (e_sa HF HM 0 rfl rfl rfl rfl rfl si_tk rfl rfl (by simp [Value.oneCell']) ?_)
  clear HM; intro w24_11 HM
  refine s_d0 ?_
  replace HM : Mem W _ (.blk g8 #[vI (p.idA i), vI (toI (p.tn i 1)), vI (toI (p.tn i 2)), vI (toI (p.tn i 3)), vQ (p.tn i 4), .bool false, vQ 0, vW 0] 46 :: .blk g #[.slice (srcA NA nc (p.oT + 1 + (8 * i + 5))) (p.nums.length - (p.oT + 1 + (8 * i + 5))) (nc - (p.oT + 1 + (8 * i + 5))), .bool (((((p.okT i && dle (p.tn i 0) mostI) && dle (p.tn i 1) mostI) && dle (p.tn i 2) mostI) && dle (p.tn i 3) mostI) && dle (p.tn i 4) 18446744073709551615)] 111 :: .row (.slice NA p.nums.length nc) p.nums.length (p.nums.map U64) 22 1 :: .row (.slice At T.length ct) T.length (T.flatMap tkL) 46 8 :: .row (.slice Au U.length cu) U.length (U.map I64i) 3 1 :: .row (.slice Al C.length cl) C.length (C.map I64i) 3 1 :: .row (.slice Ag G.length cg) G.length (G.flatMap grL) 40 2 :: .blk g3 #[vI (toI p.nx), vI p.cp, vQ p.cr, .slice Ag G.length cg, .slice Al C.length cl, .slice Au U.length cu, .slice At T.length ct, .slice none 0 0] 32 :: .blk g2 #[vI 0, vI 0, vQ 0, .slice none 0 0, .slice none 0 0, .slice none 0 0, .slice none 0 0, .slice none 0 0] 32 :: fs) := HM
  refine s_fs1 ?_
  refine fp HF 1 0 [(111, vP g 0)] fun a HF => ?_
  refine fo HF 1 rfl rfl ?_
  refine s_em HF [vP g 0, vQ 1] (qcc 1 W _ g (p.oT + 1 + (8 * i + 5)) NA nc p.nums (((((p.okT i && dle (p.tn i 0) mostI) && dle (p.tn i 1) mostI) && dle (p.tn i 2) mostI) && dle (p.tn i 3) mostI) && dle (p.tn i 4) 18446744073709551615) _ (HM.pt 9 [1, 2, 0, 3, 4, 5, 6, 7, 8]) hnc (by omega) (x := p.tn i 5) (k2 := p.oT + 1 + (8 * i + 6)) (o2 := (((((p.okT i && dle (p.tn i 0) mostI) && dle (p.tn i 1) mostI) && dle (p.tn i 2) mostI) && dle (p.tn i 3) mostI) && dle (p.tn i 4) 18446744073709551615) && dle (p.tn i 5) 1) (qco h (j := 8 * i + 5) (by omega)) (rfl) (rfl)) fun w112 HM a HF => ?_
  refine fp HF 1 2 [(113, .bool ((p.tn i 5 : Int) == (1 : Int)))] fun a HF => ?_
  replace HF := HF.sp 113 (.bool (decide (p.tn i 5 = 1))) rfl (congrArg Value.bool (qzv _))
  refine fp HF 1 3 [(114, vP g 0)] fun a HF => ?_
  refine fo HF 4 rfl rfl ?_
  refine s_em HF [vP g 0, vQ 18446744073709551615] (qcc 18446744073709551615 W _ g (p.oT + 1 + (8 * i + 6)) NA nc p.nums ((((((p.okT i && dle (p.tn i 0) mostI) && dle (p.tn i 1) mostI) && dle (p.tn i 2) mostI) && dle (p.tn i 3) mostI) && dle (p.tn i 4) 18446744073709551615) && dle (p.tn i 5) 1) _ (HM.pt 9 [0, 1, 2, 3, 4, 5, 6, 7, 8]) hnc (by omega) (x := p.tn i 6) (k2 := p.oT + 1 + (8 * i + 7)) (o2 := ((((((p.okT i && dle (p.tn i 0) mostI) && dle (p.tn i 1) mostI) && dle (p.tn i 2) mostI) && dle (p.tn i 3) mostI) && dle (p.tn i 4) 18446744073709551615) && dle (p.tn i 5) 1) && dle (p.tn i 6) 18446744073709551615) (qco h (j := 8 * i + 6) (by omega)) (rfl) (rfl)) fun w115 HM a HF => ?_
  refine fp HF 1 5 [(116, vP g 0)] fun a HF => ?_
  refine fo HF 6 rfl rfl ?_
  refine s_em HF [vP g 0, vQ 4294967295] (qcc 4294967295 W _ g (p.oT + 1 + (8 * i + 7)) NA nc p.nums (((((((p.okT i && dle (p.tn i 0) mostI) && dle (p.tn i 1) mostI) && dle (p.tn i 2) mostI) && dle (p.tn i 3) mostI) && dle (p.tn i 4) 18446744073709551615) && dle (p.tn i 5) 1) && dle (p.tn i 6) 18446744073709551615) _ (HM.pt 9 [0, 1, 2, 3, 4, 5, 6, 7, 8]) hnc (by omega) (x := p.tn i 7) (k2 := p.oT + 1 + 8 * (i + 1)) (o2 := (((((((p.okT i && dle (p.tn i 0) mostI) && dle (p.tn i 1) mostI) && dle (p.tn i 2) mostI) && dle (p.tn i 3) mostI) && dle (p.tn i 4) 18446744073709551615) && dle (p.tn i 5) 1) && dle (p.tn i 6) 18446744073709551615) && dle (p.tn i 7) 4294967295) (qco h (j := 8 * i + 7) (by omega)) (by omega) (rfl)) fun w117 HM a HF => ?_
  refine fp HF 1 7 [(118, vW (IntKind.u32.wrap (p.tn i 7 : Int)))] fun a HF => ?_
  replace HF := HF.sp 118 (vW ((p.tn i 7) % 4294967296 : Nat)) rfl (qij (p.tn i 7))
  refine fp HF 1 8 [(119, vP g8 5)] fun a HF => ?_
  refine fo HF 9 rfl rfl (s_es HF HM 2 ?_)
  clear HM; intro w25_9 HM
  refine fp HF 1 10 [(120, vP g8 6)] fun a HF => ?_
  refine fo HF 11 rfl rfl (s_es HF HM 2 ?_)
  clear HM; intro w25_11 HM
  refine fp HF 1 12 [(121, vP g8 7)] fun a HF => ?_
  refine fo HF 13 rfl rfl (s_es HF HM 2 ?_)
  clear HM; intro w25_13 HM
  refine s_d0 ?_
  replace HM : Mem W _ (.blk g #[.slice (srcA NA nc (p.oT + 1 + 8 * (i + 1))) (p.nums.length - (p.oT + 1 + 8 * (i + 1))) (nc - (p.oT + 1 + 8 * (i + 1))), .bool ((((((((p.okT i && dle (p.tn i 0) mostI) && dle (p.tn i 1) mostI) && dle (p.tn i 2) mostI) && dle (p.tn i 3) mostI) && dle (p.tn i 4) 18446744073709551615) && dle (p.tn i 5) 1) && dle (p.tn i 6) 18446744073709551615) && dle (p.tn i 7) 4294967295)] 111 :: .row (.slice NA p.nums.length nc) p.nums.length (p.nums.map U64) 22 1 :: .blk g8 #[vI (p.idA i), vI (toI (p.tn i 1)), vI (toI (p.tn i 2)), vI (toI (p.tn i 3)), vQ (p.tn i 4), .bool (decide (p.tn i 5 = 1)), vQ (p.tn i 6), vW ((p.tn i 7) % 4294967296 : Nat)] 46 :: .row (.slice At T.length ct) T.length (T.flatMap tkL) 46 8 :: .row (.slice Au U.length cu) U.length (U.map I64i) 3 1 :: .row (.slice Al C.length cl) C.length (C.map I64i) 3 1 :: .row (.slice Ag G.length cg) G.length (G.flatMap grL) 40 2 :: .blk g3 #[vI (toI p.nx), vI p.cp, vQ p.cr, .slice Ag G.length cg, .slice Al C.length cl, .slice Au U.length cu, .slice At T.length ct, .slice none 0 0] 32 :: .blk g2 #[vI 0, vI 0, vQ 0, .slice none 0 0, .slice none 0 0, .slice none 0 0, .slice none 0 0, .slice none 0 0] 32 :: fs) := HM
  refine wp_seq ?_
  refine zf HM (.blk g #[.slice (srcA NA nc (p.oT + 1 + 8 * (i + 1))) (p.nums.length - (p.oT + 1 + 8 * (i + 1))) (nc - (p.oT + 1 + 8 * (i + 1))), .bool ((((((((p.okT i && dle (p.tn i 0) mostI) && dle (p.tn i 1) mostI) && dle (p.tn i 2) mostI) && dle (p.tn i 3) mostI) && dle (p.tn i 4) 18446744073709551615) && dle (p.tn i 5) 1) && dle (p.tn i 6) 18446744073709551615) && dle (p.tn i 7) 4294967295)] 111 :: .row (.slice NA p.nums.length nc) p.nums.length (p.nums.map U64) 22 1 :: .blk g8 #[vI (p.idA i), vI (toI (p.tn i 1)), vI (toI (p.tn i 2)), vI (toI (p.tn i 3)), vQ (p.tn i 4), .bool (decide (p.tn i 5 = 1)), vQ (p.tn i 6), vW ((p.tn i 7) % 4294967296 : Nat)] 46 :: .row (.slice Au U.length cu) U.length (U.map I64i) 3 1 :: .row (.slice Al C.length cl) C.length (C.map I64i) 3 1 :: .row (.slice Ag G.length cg) G.length (G.flatMap grL) 40 2 :: .blk g3 #[vI (toI p.nx), vI p.cp, vQ p.cr, .slice Ag G.length cg, .slice Al C.length cl, .slice Au U.length cu, .slice At T.length ct, .slice none 0 0] 32 :: .blk g2 #[vI 0, vI 0, vQ 0, .slice none 0 0, .slice none 0 0, .slice none 0 0, .slice none 0 0, .slice none 0 0] 32 :: fs) 9 [0, 1, 2, 4, 5, 6, 7, 8] [10] fun HM HS => ?_
  refine ap HF (fun _ => HS) [0, 1] (bf 11 [0, 1]) [(123, vP g3 1), (122, vP g3 1)] fun a HF => ?_
  refine s_az HF HS 2 rfl (v := vP g3 1) (Yl.nilCheck rfl rfl) fun a HF => ?_
  refine ap HF (fun _ => HS) [3] (bf 11 [0, 1, 2, 3]) [(125, vP g3 6)] fun a HF => ?_
  refine s_ac HF HS 4 6 fun a HF => ?_
  refine s_az HF HS 5 rfl (v := .agg #[vI (p.idA i), vI (toI (p.tn i 1)), vI (toI (p.tn i 2)), vI (toI (p.tn i 3)), vQ (p.tn i 4), .bool (decide (p.tn i 5 = 1)), vQ (p.tn i 6), vW ((p.tn i 7) % 4294967296 : Nat)]) (Yl.qt rfl rfl si_tk rfl (fun _ h => qg (h.blk (i := 2) rfl))) fun a HF => ?_
  refine qe [6] (by kernel_rfl) rfl ?_
  refine all_cons ?_ all_nil
  refine qf HF (i := 6) rfl rfl ?_
  refine s_el HF HM ei_tk [(0, .agg #[vI (p.idA i), vI (toI (p.tn i 1)), vI (toI (p.tn i 2)), vI (toI (p.tn i 3)), vQ (p.tn i 4), .bool (decide (p.tn i 5 = 1)), vQ (p.tn i 6), vW ((p.tn i 7) % 4294967296 : Nat)])] #[vI (p.idA i), vI (toI (p.tn i 1)), vI (toI (p.tn i 2)), vI (toI (p.tn i 3)), vQ (p.tn i 4), .bool (decide (p.tn i 5 = 1)), vQ (p.tn i 6), vW ((p.tn i 7) % 4294967296 : Nat)] ?_
  clear HF HM; intro a w128 g128 HF HM
  refine keepS (HM.pt 10 [1, 2, 3, 5, 6, 7, 8, 9]) (fun HS => ?_)
  refine qe [7] (by kernel_rfl) rfl ?_
  refine all_cons ?_ all_nil
  refine qf HF (i := 7) rfl rfl ?_
  refine qo HF HM (i := 4) rfl ei_tk rfl rfl rfl (news := ([p.tsk i].flatMap tkL)) (HM.rdBlk (i := 0) (n := 1) (size := 8) rfl rfl) (qnb _) (by omega) (by omega) rfl (by decide) ?_
  clear HF HM; intro a w129 A129 c129 HF HM hc129
  refine keepS (HM.pt 10 [1, 2, 3, 5, 6, 7, 8, 9]) (fun HS => ?_)
  refine qh HF (fun _ => HS) (i := 8) rfl rfl (d := 130) rfl (by decide) (by kernel_rfl) (fun _ _ _ h => h) (v := vP g3 1) (fun _ => Yl.nilCheck rfl rfl) fun a HF => ?_
  refine ap HF (fun _ => HS) [9] (bt 11 [10]) [(131, vP g3 6)] fun a HF => ?_
  refine qe [10] (by kernel_rfl) rfl ?_
  refine all_cons ?_ all_nil
  refine qf HF (i := 10) rfl rfl ?_
  refine s_es HF HM 8 ?_
  clear HM; intro w26_10 HM
  refine noS (by kernel_rfl) ?_
  refine qk (by kernel_rfl) ?_
  have hnA129 : T.length + 1 = (T ++ [p.tsk i]).length := qs rfl
  replace HM := HM.reRow (i := 4) (ys := (T ++ [p.tsk i]).flatMap tkL) rfl hnA129 (by exact List.flatMap_append.symm)
  rw [hnA129] at hc129
  replace HF := HF.sp 129 (.slice A129 ((T ++ [p.tsk i]).length) c129) rfl (by rw [hnA129])
  replace HM := HM.reBlk (i := 8) (ds := #[vI (toI p.nx), vI p.cp, vQ p.cr, .slice Ag G.length cg, .slice Al C.length cl, .slice Au U.length cu, .slice A129 ((T ++ [p.tsk i]).length) c129, .slice none 0 0]) rfl (by rw [hnA129]; rfl)
  refine s_fs1 ?_
  refine fp HF 2 0 [(133, vP g 0), (132, vP g 0)] fun a HF => ?_
  refine s_fk HF 2 fun a HF => ?_
  refine fp HF 1 3 [(135, vP g 1)] fun a HF => ?_
  refine s_fc HF HM 4 1 fun a HF => ?_
  refine fp HF 1 5 [(137, .bool ((((((((p.okT i && dle (p.tn i 0) mostI) && dle (p.tn i 1) mostI) && dle (p.tn i 2) mostI) && dle (p.tn i 3) mostI) && dle (p.tn i 4) 18446744073709551615) && dle (p.tn i 5) 1) && dle (p.tn i 6) 18446744073709551615) && dle (p.tn i 7) 4294967295))] fun a HF => ?_
  rcases HF.tf 137 rfl with ⟨hb137, HF⟩ | ⟨hb137, HF⟩
  ·
   refine fp HF 3 6 [(140, .bool (decide ((p.idA i : Int) ≤ (65535 : Int))))] fun a HF => ?_
   refine s_fk HF 9 fun a HF => ?_
   refine fp HF 1 10 [(142, vP g 1)] fun a HF => ?_
   refine fo HF 11 rfl rfl (s_es HF HM 1 ?_)
   clear HM; intro w27_11 HM
   refine s_d0 ?_
   replace HF := HF.to [(129, .slice A129 ((T ++ [p.tsk i]).length) c129), (8, vP g8 0), (7, vI (p.idA i)), (96, .bool true), (95, vI i), (94, vI p.tk), (80, .bool false), (79, vI u), (78, vI p.cp), (61, .bool false), (60, vI k), (59, vI p.cp), (31, .bool false), (30, vI j), (29, vI p.gp), (4, vP g3 1), (3, vP g3 0), (2, vP g2 0), (0, vP g 0)]
   refine qa ?_
   refine fp HF 1 0 [(143, vI (p.idA i))] fun a HF => ?_
   refine s_fz HF HM 1 rfl (v := vI (if (65535 : Int) < (p.idA i : Int) then 65535 else p.idA i)) (Yl.min rfl rfl rfl) fun a HF => ?_
   replace HF := HF.sp 144 (vI (p.idB (i + 1))) rfl (rfl)
   refine fp HF 1 2 [(7, vI (p.idB (i + 1)))] fun a HF => ?_
   refine s_d0 (qa ?_)
   refine fp HF 1 0 [(145, vI (IntKind.i64.wrap ((i : Int) + 1)))] fun a HF => ?_
   replace HF := HF.sp 145 (vI (i + 1 : Nat)) rfl (qc (by omega) (by omega))
   refine fp HF 1 1 [(95, vI (i + 1 : Nat))] fun a HF => ?_
   refine s_d0 ?_
   replace HM := HM.reBlk (i := 1) (ds := #[.slice (srcA NA nc (p.oT + 1 + 8 * (i + 1))) (p.nums.length - (p.oT + 1 + 8 * (i + 1))) (nc - (p.oT + 1 + 8 * (i + 1))), .bool (p.okT (i + 1))]) rfl (by rw [show p.okT (i + 1) = (((((((((p.okT i && dle (p.tn i 0) mostI) && dle (p.tn i 1) mostI) && dle (p.tn i 2) mostI) && dle (p.tn i 3) mostI) && dle (p.tn i 4) 18446744073709551615) && dle (p.tn i 5) 1) && dle (p.tn i 6) 18446744073709551615) && dle (p.tn i 7) 4294967295) && decide (p.idA i ≤ 65535)) from rfl, hb137]; rfl)
   exact ⟨_, (by omega), i + 1, (T ++ [p.tsk i]), A129, c129, by omega, by rw [hT, q1], by rw [List.length_append, hTl]; rfl, hc129, rfl, HF.sub (by kernel_rfl), HM.pt 10 [4, 1, 2, 5, 6, 7, 8, 9]⟩
  refine fp HF 3 6 [(140, .bool false)] fun a HF => ?_
  refine s_fk HF 9 fun a HF => ?_
  refine fp HF 1 10 [(142, vP g 1)] fun a HF => ?_
  refine fo HF 11 rfl rfl (s_es HF HM 1 ?_)
  clear HM; intro w27_11 HM
  refine s_d0 ?_
  replace HF := HF.to [(129, .slice A129 ((T ++ [p.tsk i]).length) c129), (8, vP g8 0), (7, vI (p.idA i)), (96, .bool true), (95, vI i), (94, vI p.tk), (80, .bool false), (79, vI u), (78, vI p.cp), (61, .bool false), (60, vI k), (59, vI p.cp), (31, .bool false), (30, vI j), (29, vI p.gp), (4, vP g3 1), (3, vP g3 0), (2, vP g2 0), (0, vP g 0)]
  refine qa ?_
  refine fp HF 1 0 [(143, vI (p.idA i))] fun a HF => ?_
  refine s_fz HF HM 1 rfl (v := vI (if (65535 : Int) < (p.idA i : Int) then 65535 else p.idA i)) (Yl.min rfl rfl rfl) fun a HF => ?_
  replace HF := HF.sp 144 (vI (p.idB (i + 1))) rfl (rfl)
  refine fp HF 1 2 [(7, vI (p.idB (i + 1)))] fun a HF => ?_
  refine s_d0 (qa ?_)
  refine fp HF 1 0 [(145, vI (IntKind.i64.wrap ((i : Int) + 1)))] fun a HF => ?_
  replace HF := HF.sp 145 (vI (i + 1 : Nat)) rfl (qc (by omega) (by omega))
  refine fp HF 1 1 [(95, vI (i + 1 : Nat))] fun a HF => ?_
  refine s_d0 ?_
  replace HM := HM.reBlk (i := 1) (ds := #[.slice (srcA NA nc (p.oT + 1 + 8 * (i + 1))) (p.nums.length - (p.oT + 1 + 8 * (i + 1))) (nc - (p.oT + 1 + 8 * (i + 1))), .bool (p.okT (i + 1))]) rfl (by rw [show p.okT (i + 1) = (((((((((p.okT i && dle (p.tn i 0) mostI) && dle (p.tn i 1) mostI) && dle (p.tn i 2) mostI) && dle (p.tn i 3) mostI) && dle (p.tn i 4) 18446744073709551615) && dle (p.tn i 5) 1) && dle (p.tn i 6) 18446744073709551615) && dle (p.tn i 7) 4294967295) && decide (p.idA i ≤ 65535)) from rfl, hb137]; rfl)
  exact ⟨_, (by omega), i + 1, (T ++ [p.tsk i]), A129, c129, by omega, by rw [hT, q1], by rw [List.length_append, hTl]; rfl, hc129, rfl, HF.sub (by kernel_rfl), HM.pt 10 [4, 1, 2, 5, 6, 7, 8, 9]⟩
 have hd96 := of_decide_eq_false hb96
 refine s_cf HF (wp_exit (wp_seq (s_fs1 ?_)))
 refine fp HF 1 0 [(146, vP g3 1)] fun a HF => ?_
 refine s_fk HF 1 fun a HF => ?_
 refine fp HF 2 2 [(149, vP g3 3)] fun a HF => ?_
 refine s_fc HF HM 4 6 fun a HF => ?_
 refine s_fl HF 5 fun a HF => ?_
 refine fp HF 1 6 [(152, vI 0)] fun a HF => ?_
 refine s_d0 ?_
 replace HM := HM.reBlk (i := 1) (ds := #[.slice (srcA NA nc (p.oS + p.so 0 0)) (p.nums.length - (p.oS + p.so 0 0)) (nc - (p.oS + p.so 0 0)), .bool (p.okS 0)]) rfl (by rw [show i = p.tk by omega]; rfl)
 replace HM := HM.nil 44 1
 replace HM := HM.newTail 43 3
 replace HM : Mem W _ (.row (.slice none 0 0) 0 [] 44 1 :: .row (.slice At T.length ct) T.length (T.flatMap tkL) 46 8 :: .blk g #[.slice (srcA NA nc (p.oS + p.so 0 0)) (p.nums.length - (p.oS + p.so 0 0)) (nc - (p.oS + p.so 0 0)), .bool (p.okS 0)] 111 :: .row (.slice NA p.nums.length nc) p.nums.length (p.nums.map U64) 22 1 :: .row (.slice Au U.length cu) U.length (U.map I64i) 3 1 :: .row (.slice Al C.length cl) C.length (C.map I64i) 3 1 :: .row (.slice Ag G.length cg) G.length (G.flatMap grL) 40 2 :: .blk g3 #[vI (toI p.nx), vI p.cp, vQ p.cr, .slice Ag G.length cg, .slice Al C.length cl, .slice Au U.length cu, .slice At T.length ct, .slice none 0 0] 32 :: .blk g2 #[vI 0, vI 0, vQ 0, .slice none 0 0, .slice none 0 0, .slice none 0 0, .slice none 0 0, .slice none 0 0] 32 :: (fs ++ (rwF 43 []))) := HM
 refine wp_block ?_
 refine qi (fun mS aS wS => ∃ (y : Nat) (z : List Rw) (As : Option Addr) (cs : Nat), (y ≤ G.length) ∧ (z.length = y) ∧ (z.map Rw.l = mapR y p.row) ∧ (∀ q ∈ z, q.l.length ≤ q.c) ∧ (z.length ≤ cs) ∧ mS = G.length - y ∧ Fr aS 191 [] [(152, vI y), (151, vI G.length), (96, .bool false), (95, vI i), (94, vI p.tk), (7, vI (p.idB i)), (80, .bool false), (79, vI u), (78, vI p.cp), (61, .bool false), (60, vI k), (59, vI p.cp), (31, .bool false), (30, vI j), (29, vI p.gp), (4, vP g3 1), (3, vP g3 0), (2, vP g2 0), (0, vP g 0)] ∧ Mem W wS (.row (.slice As z.length cs) z.length (z.map Rw.val) 44 1 :: .row (.slice At T.length ct) T.length (T.flatMap tkL) 46 8 :: .blk g #[.slice (srcA NA nc (p.oS + p.so y 0)) (p.nums.length - (p.oS + p.so y 0)) (nc - (p.oS + p.so y 0)), .bool (p.okS y)] 111 :: .row (.slice NA p.nums.length nc) p.nums.length (p.nums.map U64) 22 1 :: .row (.slice Au U.length cu) U.length (U.map I64i) 3 1 :: .row (.slice Al C.length cl) C.length (C.map I64i) 3 1 :: .row (.slice Ag G.length cg) G.length (G.flatMap grL) 40 2 :: .blk g3 #[vI (toI p.nx), vI p.cp, vQ p.cr, .slice Ag G.length cg, .slice Al C.length cl, .slice Au U.length cu, .slice At T.length ct, .slice As z.length cs] 32 :: .blk g2 #[vI 0, vI 0, vQ 0, .slice none 0 0, .slice none 0 0, .slice none 0 0, .slice none 0 0, .slice none 0 0] 32 :: (fs ++ (rwF 43 z)))) (m := G.length - 0) ⟨0, [], none, 0, Nat.zero_le _, rfl, rfl, (fun q h => by cases h), Nat.le_refl _, rfl, HF.sub (by kernel_rfl), HM.pt 9 [0, 1, 2, 3, 4, 5, 6, 7, 8]⟩ ?_
 clear HF HM; rintro mS a w_ ⟨y, z, As, cs, hy, hzl, hz, hzc, hcs, rfl, HF, HM⟩
 refine s_fs1 ?_
 refine fp HF 1 0 [(153, .bool (decide ((y : Int) < (G.length : Int))))] fun a HF => ?_
 refine s_d0 (wp_seq ?_)
 rcases HF.tf 153 rfl with ⟨hb153, HF⟩ | ⟨hb153, HF⟩
 ·
  have hd153 := of_decide_eq_true hb153
  have hyg : y < p.gp := by omega
  refine s_ct HF (wp_skip (wp_seq (wp_block (s_fs1 ?_))))
  refine fp HF 2 0 [(9, vI y)] fun a HF => ?_
  refine s_d0 (s_fs1 ?_)
  refine fp HF 1 0 [(10, .slice none 0 0)] fun a HF => ?_
  refine s_d0 ?_
  replace HM := HM.nil 43 3
  refine wp_seq (s_fs1 ?_)
  refine fp HF 1 0 [(155, vP g3 1)] fun a HF => ?_
  refine s_fk HF 1 fun a HF => ?_
  refine fp HF 2 2 [(158, vP g3 1)] fun a HF => ?_
  refine s_fc HF HM 4 8 fun a HF => ?_
  refine fp HF 1 5 [(160, vI 0)] fun a HF => ?_
  refine s_d0 (wp_block ?_)
  refine qi (fun mS aS wS => ∃ (x : Nat) (R : List Sp) (Ar : Option Addr) (cr : Nat), (x ≤ p.cp) ∧ (R = mapR x (p.spt y)) ∧ (R.length = x) ∧ (R.length ≤ cr) ∧ mS = p.cp - x ∧ Fr aS 191 [] [(160, vI x), (159, vI p.cp), (10, .slice Ar R.length cr), (9, vI y), (153, .bool true), (152, vI y), (151, vI G.length), (96, .bool false), (95, vI i), (94, vI p.tk), (7, vI (p.idB i)), (80, .bool false), (79, vI u), (78, vI p.cp), (61, .bool false), (60, vI k), (59, vI p.cp), (31, .bool false), (30, vI j), (29, vI p.gp), (4, vP g3 1), (3, vP g3 0), (2, vP g2 0), (0, vP g 0)] ∧ Mem W wS (.row (.slice Ar R.length cr) R.length (R.flatMap spL) 43 3 :: .row (.slice As z.length cs) z.length (z.map Rw.val) 44 1 :: .row (.slice At T.length ct) T.length (T.flatMap tkL) 46 8 :: .blk g #[.slice (srcA NA nc (p.oS + p.so y x)) (p.nums.length - (p.oS + p.so y x)) (nc - (p.oS + p.so y x)), .bool (p.okR (p.okS y) y x)] 111 :: .row (.slice NA p.nums.length nc) p.nums.length (p.nums.map U64) 22 1 :: .row (.slice Au U.length cu) U.length (U.map I64i) 3 1 :: .row (.slice Al C.length cl) C.length (C.map I64i) 3 1 :: .row (.slice Ag G.length cg) G.length (G.flatMap grL) 40 2 :: .blk g3 #[vI (toI p.nx), vI p.cp, vQ p.cr, .slice Ag G.length cg, .slice Al C.length cl, .slice Au U.length cu, .slice At T.length ct, .slice As z.length cs] 32 :: .blk g2 #[vI 0, vI 0, vQ 0, .slice none 0 0, .slice none 0 0, .slice none 0 0, .slice none 0 0, .slice none 0 0] 32 :: (fs ++ (rwF 43 z)))) (m := p.cp - 0) ⟨0, [], none, 0, Nat.zero_le _, rfl, rfl, Nat.le_refl _, rfl, HF.sub (by kernel_rfl), HM.pt 10 [0, 1, 2, 3, 4, 5, 6, 7, 8, 9]⟩ ?_
  clear HF HM; rintro mS a w_ ⟨x, R, Ar, cr, hx, hR, hRl, hRc, rfl, HF, HM⟩
  refine s_fs1 ?_
  refine fp HF 1 0 [(161, .bool (decide ((x : Int) < (p.cp : Int))))] fun a HF => ?_
  refine s_d0 (wp_seq ?_)
  rcases HF.tf 161 rfl with ⟨hb161, HF⟩ | ⟨hb161, HF⟩
  ·
   have hd161 := of_decide_eq_true hb161
   have hxc : x < p.cp := by omega
   have hin := so_in h hyg hxc
   refine s_ct HF (wp_skip (wp_seq (wp_block (s_fs1 ?_))))
   refine fo HF 0 rfl rfl (s_ea HF HM #[vQ 0, vW 0, vQ 0] ?_)
   clear HF HM; intro a w11 g11 HF HM
   refine s_d0 (wp_seq (s_fs1 ?_))
   refine fp HF 2 0 [(163, .bool (decide ((y : Int) > (0 : Int))))] fun a HF => ?_
   refine s_d0 ?_
   rcases HF.tf 163 rfl with ⟨hb163, HF⟩ | ⟨hb163, HF⟩
   ·
    have hd163 := of_decide_eq_true hb163
    rw [if_neg (by omega)] at hin
    have hsp : p.spt y x = ⟨p.sn y x 0, p.sn y x 1 % 4294967296, p.sn y x 2⟩ := if_neg (by omega)
    refine s_ct HF (qa ?_)
    refine fp HF 1 0 [(164, vP g 0)] fun a HF => ?_
    refine fo HF 1 rfl rfl ?_
    refine s_em HF [vP g 0, vQ 18446744073709551615] (qcc 18446744073709551615 W _ g (p.oS + p.so y x) NA nc p.nums (p.okR (p.okS y) y x) _ (HM.pt 11 [4, 5, 0, 1, 2, 3, 6, 7, 8, 9, 10]) hnc (by omega) (x := p.sn y x 0) (k2 := p.oS + (p.so y x + 1)) (o2 := p.okR (p.okS y) y x && dle (p.sn y x 0) 18446744073709551615) (qiv h (p.so y x)) (rfl) (rfl)) fun w165 HM a HF => ?_
    refine fp HF 1 2 [(166, vP g 0)] fun a HF => ?_
    refine fo HF 3 rfl rfl ?_
    refine s_em HF [vP g 0, vQ 4294967295] (qcc 4294967295 W _ g (p.oS + (p.so y x + 1)) NA nc p.nums (p.okR (p.okS y) y x && dle (p.sn y x 0) 18446744073709551615) _ (HM.pt 11 [0, 1, 2, 3, 4, 5, 6, 7, 8, 9, 10]) hnc (by omega) (x := p.sn y x 1) (k2 := p.oS + (p.so y x + 2)) (o2 := (p.okR (p.okS y) y x && dle (p.sn y x 0) 18446744073709551615) && dle (p.sn y x 1) 4294967295) (qiv h (p.so y x + 1)) (rfl) (rfl)) fun w167 HM a HF => ?_
    refine fp HF 1 4 [(168, vW (IntKind.u32.wrap (p.sn y x 1 : Int)))] fun a HF => ?_
    replace HF := HF.sp 168 (vW ((p.sn y x 1) % 4294967296 : Nat)) rfl (qij (p.sn y x 1))
    refine fp HF 1 5 [(169, vP g11 0)] fun a HF => ?_
    refine fo HF 6 rfl rfl (s_es HF HM 2 ?_)
    clear HM; intro w38_6 HM
    refine fp HF 1 7 [(170, vP g11 1)] fun a HF => ?_
    refine fo HF 8 rfl rfl (s_es HF HM 2 ?_)
    clear HM; intro w38_8 HM
    refine s_d0 ?_
    replace HM : Mem W _ (.blk g #[.slice (srcA NA nc (p.oS + (p.so y x + 2))) (p.nums.length - (p.oS + (p.so y x + 2))) (nc - (p.oS + (p.so y x + 2))), .bool ((p.okR (p.okS y) y x && dle (p.sn y x 0) 18446744073709551615) && dle (p.sn y x 1) 4294967295)] 111 :: .row (.slice NA p.nums.length nc) p.nums.length (p.nums.map U64) 22 1 :: .blk g11 #[vQ (p.sn y x 0), vW ((p.sn y x 1) % 4294967296 : Nat), vQ 0] 43 :: .row (.slice Ar R.length cr) R.length (R.flatMap spL) 43 3 :: .row (.slice As z.length cs) z.length (z.map Rw.val) 44 1 :: .row (.slice At T.length ct) T.length (T.flatMap tkL) 46 8 :: .row (.slice Au U.length cu) U.length (U.map I64i) 3 1 :: .row (.slice Al C.length cl) C.length (C.map I64i) 3 1 :: .row (.slice Ag G.length cg) G.length (G.flatMap grL) 40 2 :: .blk g3 #[vI (toI p.nx), vI p.cp, vQ p.cr, .slice Ag G.length cg, .slice Al C.length cl, .slice Au U.length cu, .slice At T.length ct, .slice As z.length cs] 32 :: .blk g2 #[vI 0, vI 0, vQ 0, .slice none 0 0, .slice none 0 0, .slice none 0 0, .slice none 0 0, .slice none 0 0] 32 :: (fs ++ (rwF 43 z))) := HM
    refine s_fs1 ?_
    refine fp HF 1 0 [(171, vP g 0)] fun a HF => ?_
    refine fo HF 1 rfl rfl ?_
    refine s_em HF [vP g 0, vQ 18446744073709551615] (qcc 18446744073709551615 W _ g (p.oS + (p.so y x + 2)) NA nc p.nums ((p.okR (p.okS y) y x && dle (p.sn y x 0) 18446744073709551615) && dle (p.sn y x 1) 4294967295) _ (HM.pt 11 [0, 1, 2, 3, 4, 5, 6, 7, 8, 9, 10]) hnc (by omega) (x := p.sn y x 2) (k2 := p.oS + p.so y (x + 1)) (o2 := p.okR (p.okS y) y (x + 1)) (qiv h (p.so y x + 2)) (by rw [so_s3 (by omega)]; rfl) ((okR_p (by omega)).symm)) fun w172 HM a HF => ?_
    refine fp HF 1 2 [(173, vP g11 2)] fun a HF => ?_
    refine fo HF 3 rfl rfl (s_es HF HM 2 ?_)
    clear HM; intro w39_3 HM
    refine s_d0 ?_
    replace HM : Mem W _ (.blk g #[.slice (srcA NA nc (p.oS + p.so y (x + 1))) (p.nums.length - (p.oS + p.so y (x + 1))) (nc - (p.oS + p.so y (x + 1))), .bool (p.okR (p.okS y) y (x + 1))] 111 :: .row (.slice NA p.nums.length nc) p.nums.length (p.nums.map U64) 22 1 :: .blk g11 #[vQ (p.sn y x 0), vW ((p.sn y x 1) % 4294967296 : Nat), vQ (p.sn y x 2)] 43 :: .row (.slice Ar R.length cr) R.length (R.flatMap spL) 43 3 :: .row (.slice As z.length cs) z.length (z.map Rw.val) 44 1 :: .row (.slice At T.length ct) T.length (T.flatMap tkL) 46 8 :: .row (.slice Au U.length cu) U.length (U.map I64i) 3 1 :: .row (.slice Al C.length cl) C.length (C.map I64i) 3 1 :: .row (.slice Ag G.length cg) G.length (G.flatMap grL) 40 2 :: .blk g3 #[vI (toI p.nx), vI p.cp, vQ p.cr, .slice Ag G.length cg, .slice Al C.length cl, .slice Au U.length cu, .slice At T.length ct, .slice As z.length cs] 32 :: .blk g2 #[vI 0, vI 0, vQ 0, .slice none 0 0, .slice none 0 0, .slice none 0 0, .slice none 0 0, .slice none 0 0] 32 :: (fs ++ (rwF 43 z))) := HM
    refine qa ?_
    refine fp HF 1 0 [(174, .slice Ar R.length cr)] fun a HF => ?_
    refine s_fz HF HM 1 rfl (v := .agg #[vQ (p.sn y x 0), vW ((p.sn y x 1) % 4294967296 : Nat), vQ (p.sn y x 2)]) (Yl.qt rfl rfl si_sp rfl (fun _ h => qg (h.blk (i := 2) rfl))) fun a HF => ?_
    refine fo HF 2 rfl rfl (s_el HF HM ei_sp [(0, .agg #[vQ (p.sn y x 0), vW ((p.sn y x 1) % 4294967296 : Nat), vQ (p.sn y x 2)])] #[vQ (p.sn y x 0), vW ((p.sn y x 1) % 4294967296 : Nat), vQ (p.sn y x 2)] ?_)
    clear HF HM; intro a w176 g176 HF HM
    refine fo HF 3 rfl rfl (qo HF HM (i := 4) rfl ei_sp rfl rfl rfl (news := ([(⟨p.sn y x 0, p.sn y x 1 % 4294967296, p.sn y x 2⟩ : Sp)].flatMap spL)) (HM.rdBlk (i := 0) (n := 1) (size := 3) rfl rfl) (qkg _) (by omega) (by omega) rfl (by decide) ?_)
    clear HF HM; intro a w177 A177 c177 HF HM hc177
    refine fp HF 1 4 [(10, .slice A177 (R.length + 1) c177)] fun a HF => ?_
    refine s_d0 ?_
    have hnA177 : R.length + 1 = (R ++ [p.spt y x]).length := qs rfl
    replace HM := HM.reRow (i := 4) (ys := (R ++ [p.spt y x]).flatMap spL) rfl hnA177 (by rw [hsp]; exact List.flatMap_append.symm)
    rw [hnA177] at hc177
    replace HF := HF.sp 10 (.slice A177 ((R ++ [p.spt y x]).length) c177) rfl (by rw [hnA177])
    replace HF := HF.sp 177 (.slice A177 ((R ++ [p.spt y x]).length) c177) rfl (by rw [hnA177])
    refine qa ?_
    refine fp HF 1 0 [(178, vI (IntKind.i64.wrap ((x : Int) + 1)))] fun a HF => ?_
    replace HF := HF.sp 178 (vI (x + 1 : Nat)) rfl (qc (by omega) (by omega))
    refine fp HF 1 1 [(160, vI (x + 1 : Nat))] fun a HF => ?_
    refine s_d0 ?_
    exact ⟨_, (by omega), x + 1, (R ++ [p.spt y x]), A177, c177, by omega, by rw [hR, q1], by rw [List.length_append, hRl]; rfl, hc177, rfl, HF.sub (by kernel_rfl), HM.pt 12 [4, 5, 6, 1, 2, 7, 8, 9, 10, 11]⟩
   have hd163 := of_decide_eq_false hb163
   rw [if_pos (by omega)] at hin
   have hsp : p.spt y x = ⟨0, 0, p.sn y x 0⟩ := if_pos (by omega)
   refine s_cf HF (wp_skip (s_fs1 ?_))
   refine fp HF 1 0 [(171, vP g 0)] fun a HF => ?_
   refine fo HF 1 rfl rfl ?_
   refine s_em HF [vP g 0, vQ 18446744073709551615] (qcc 18446744073709551615 W _ g (p.oS + p.so y x) NA nc p.nums (p.okR (p.okS y) y x) _ (HM.pt 11 [4, 5, 0, 1, 2, 3, 6, 7, 8, 9, 10]) hnc (by omega) (x := p.sn y x 0) (k2 := p.oS + p.so y (x + 1)) (o2 := p.okR (p.okS y) y (x + 1)) (qiv h (p.so y x)) (by rw [so_s0 (by omega)]; rfl) ((okR_z (by omega)).symm)) fun w172 HM a HF => ?_
   refine fp HF 1 2 [(173, vP g11 2)] fun a HF => ?_
   refine fo HF 3 rfl rfl (s_es HF HM 2 ?_)
   clear HM; intro w39_3 HM
   refine s_d0 ?_
   replace HM : Mem W _ (.blk g #[.slice (srcA NA nc (p.oS + p.so y (x + 1))) (p.nums.length - (p.oS + p.so y (x + 1))) (nc - (p.oS + p.so y (x + 1))), .bool (p.okR (p.okS y) y (x + 1))] 111 :: .row (.slice NA p.nums.length nc) p.nums.length (p.nums.map U64) 22 1 :: .blk g11 #[vQ 0, vW 0, vQ (p.sn y x 0)] 43 :: .row (.slice Ar R.length cr) R.length (R.flatMap spL) 43 3 :: .row (.slice As z.length cs) z.length (z.map Rw.val) 44 1 :: .row (.slice At T.length ct) T.length (T.flatMap tkL) 46 8 :: .row (.slice Au U.length cu) U.length (U.map I64i) 3 1 :: .row (.slice Al C.length cl) C.length (C.map I64i) 3 1 :: .row (.slice Ag G.length cg) G.length (G.flatMap grL) 40 2 :: .blk g3 #[vI (toI p.nx), vI p.cp, vQ p.cr, .slice Ag G.length cg, .slice Al C.length cl, .slice Au U.length cu, .slice At T.length ct, .slice As z.length cs] 32 :: .blk g2 #[vI 0, vI 0, vQ 0, .slice none 0 0, .slice none 0 0, .slice none 0 0, .slice none 0 0, .slice none 0 0] 32 :: (fs ++ (rwF 43 z))) := HM
   refine qa ?_
   refine fp HF 1 0 [(174, .slice Ar R.length cr)] fun a HF => ?_
   refine s_fz HF HM 1 rfl (v := .agg #[vQ 0, vW 0, vQ (p.sn y x 0)]) (Yl.qt rfl rfl si_sp rfl (fun _ h => qg (h.blk (i := 2) rfl))) fun a HF => ?_
   refine fo HF 2 rfl rfl (s_el HF HM ei_sp [(0, .agg #[vQ 0, vW 0, vQ (p.sn y x 0)])] #[vQ 0, vW 0, vQ (p.sn y x 0)] ?_)
   clear HF HM; intro a w176 g176 HF HM
   refine fo HF 3 rfl rfl (qo HF HM (i := 4) rfl ei_sp rfl rfl rfl (news := ([(⟨0, 0, p.sn y x 0⟩ : Sp)].flatMap spL)) (HM.rdBlk (i := 0) (n := 1) (size := 3) rfl rfl) (qkg _) (by omega) (by omega) rfl (by decide) ?_)
   clear HF HM; intro a w177 A177 c177 HF HM hc177
   refine fp HF 1 4 [(10, .slice A177 (R.length + 1) c177)] fun a HF => ?_
   refine s_d0 ?_
   have hnA177 : R.length + 1 = (R ++ [p.spt y x]).length := qs rfl
   replace HM := HM.reRow (i := 4) (ys := (R ++ [p.spt y x]).flatMap spL) rfl hnA177 (by rw [hsp]; exact List.flatMap_append.symm)
   rw [hnA177] at hc177
   replace HF := HF.sp 10 (.slice A177 ((R ++ [p.spt y x]).length) c177) rfl (by rw [hnA177])
   replace HF := HF.sp 177 (.slice A177 ((R ++ [p.spt y x]).length) c177) rfl (by rw [hnA177])
   refine qa ?_
   refine fp HF 1 0 [(178, vI (IntKind.i64.wrap ((x : Int) + 1)))] fun a HF => ?_
   replace HF := HF.sp 178 (vI (x + 1 : Nat)) rfl (qc (by omega) (by omega))
   refine fp HF 1 1 [(160, vI (x + 1 : Nat))] fun a HF => ?_
   refine s_d0 ?_
   exact ⟨_, (by omega), x + 1, (R ++ [p.spt y x]), A177, c177, by omega, by rw [hR, q1], by rw [List.length_append, hRl]; rfl, hc177, rfl, HF.sub (by kernel_rfl), HM.pt 12 [4, 5, 6, 1, 2, 7, 8, 9, 10, 11]⟩
  have hd161 := of_decide_eq_false hb161
  refine s_cf HF (wp_exit (qa ?_))
  refine fp HF 2 0 [(180, vP g3 1), (179, vP g3 1)] fun a HF => ?_
  refine s_fk HF 2 fun a HF => ?_
  refine fp HF 1 3 [(182, vP g3 7)] fun a HF => ?_
  refine s_fc HF HM 4 8 fun a HF => ?_
  refine fp HF 1 5 [(184, .slice Ar R.length cr)] fun a HF => ?_
  refine fo HF 6 rfl rfl (s_el HF HM ei_rw [(0, .slice Ar R.length cr)] #[.slice Ar R.length cr] ?_)
  clear HF HM; intro a w185 g185 HF HM
  refine fo HF 7 rfl rfl (qo HF HM (i := 2) rfl ei_rw rfl rfl rfl (news := ([(⟨Ar, cr, R⟩ : Rw)].map Rw.val)) (HM.rdBlk (i := 0) (n := 1) (size := 1) rfl rfl) (qrr _) (by omega) (by omega) rfl (by decide) ?_)
  clear HF HM; intro a w186 A186 c186 HF HM hc186
  refine s_fk HF 8 fun a HF => ?_
  refine fp HF 1 9 [(188, vP g3 7)] fun a HF => ?_
  refine fo HF 10 rfl rfl (s_es HF HM 9 ?_)
  clear HM; intro w42_10 HM
  refine s_d0 ?_
  have hnA186 : z.length + 1 = (z ++ [(⟨Ar, cr, R⟩ : Rw)]).length := qs rfl
  replace HM := HM.reRow (i := 2) (ys := (z ++ [(⟨Ar, cr, R⟩ : Rw)]).map Rw.val) rfl hnA186 (by exact List.map_append.symm)
  rw [hnA186] at hc186
  replace HF := HF.sp 186 (.slice A186 ((z ++ [(⟨Ar, cr, R⟩ : Rw)]).length) c186) rfl (by rw [hnA186])
  replace HM := HM.reBlk (i := 9) (ds := #[vI (toI p.nx), vI p.cp, vQ p.cr, .slice Ag G.length cg, .slice Al C.length cl, .slice Au U.length cu, .slice At T.length ct, .slice A186 ((z ++ [(⟨Ar, cr, R⟩ : Rw)]).length) c186]) rfl (by rw [hnA186]; rfl)
  replace HM := HM.pt (fs' := (.row (.slice Ar R.length cr) R.length (R.flatMap spL) 43 3 :: .row (.slice A186 ((z ++ [(⟨Ar, cr, R⟩ : Rw)]).length) c186) ((z ++ [(⟨Ar, cr, R⟩ : Rw)]).length) ((z ++ [(⟨Ar, cr, R⟩ : Rw)]).map Rw.val) 44 1 :: .row (.slice At T.length ct) T.length (T.flatMap tkL) 46 8 :: .blk g #[.slice (srcA NA nc (p.oS + p.so y x)) (p.nums.length - (p.oS + p.so y x)) (nc - (p.oS + p.so y x)), .bool (p.okR (p.okS y) y x)] 111 :: .row (.slice NA p.nums.length nc) p.nums.length (p.nums.map U64) 22 1 :: .row (.slice Au U.length cu) U.length (U.map I64i) 3 1 :: .row (.slice Al C.length cl) C.length (C.map I64i) 3 1 :: .row (.slice Ag G.length cg) G.length (G.flatMap grL) 40 2 :: .blk g3 #[vI (toI p.nx), vI p.cp, vQ p.cr, .slice Ag G.length cg, .slice Al C.length cl, .slice Au U.length cu, .slice At T.length ct, .slice A186 ((z ++ [(⟨Ar, cr, R⟩ : Rw)]).length) c186] 32 :: .blk g2 #[vI 0, vI 0, vQ 0, .slice none 0 0, .slice none 0 0, .slice none 0 0, .slice none 0 0, .slice none 0 0] 32 :: (fs ++ (rwF 43 z)))) 11 [1, 2, 3, 4, 5, 6, 7, 8, 9, 10]
  replace HM := Mem.toRw (fs := (.row (.slice A186 ((z ++ [(⟨Ar, cr, R⟩ : Rw)]).length) c186) ((z ++ [(⟨Ar, cr, R⟩ : Rw)]).length) ((z ++ [(⟨Ar, cr, R⟩ : Rw)]).map Rw.val) 44 1 :: .row (.slice At T.length ct) T.length (T.flatMap tkL) 46 8 :: .blk g #[.slice (srcA NA nc (p.oS + p.so y x)) (p.nums.length - (p.oS + p.so y x)) (nc - (p.oS + p.so y x)), .bool (p.okR (p.okS y) y x)] 111 :: .row (.slice NA p.nums.length nc) p.nums.length (p.nums.map U64) 22 1 :: .row (.slice Au U.length cu) U.length (U.map I64i) 3 1 :: .row (.slice Al C.length cl) C.length (C.map I64i) 3 1 :: .row (.slice Ag G.length cg) G.length (G.flatMap grL) 40 2 :: .blk g3 #[vI (toI p.nx), vI p.cp, vQ p.cr, .slice Ag G.length cg, .slice Al C.length cl, .slice Au U.length cu, .slice At T.length ct, .slice A186 ((z ++ [(⟨Ar, cr, R⟩ : Rw)]).length) c186] 32 :: .blk g2 #[vI 0, vI 0, vQ 0, .slice none 0 0, .slice none 0 0, .slice none 0 0, .slice none 0 0, .slice none 0 0] 32 :: fs)) HM
  replace HM : Mem W _ (.row (.slice A186 ((z ++ [(⟨Ar, cr, R⟩ : Rw)]).length) c186) ((z ++ [(⟨Ar, cr, R⟩ : Rw)]).length) ((z ++ [(⟨Ar, cr, R⟩ : Rw)]).map Rw.val) 44 1 :: .row (.slice At T.length ct) T.length (T.flatMap tkL) 46 8 :: .blk g #[.slice (srcA NA nc (p.oS + p.so y x)) (p.nums.length - (p.oS + p.so y x)) (nc - (p.oS + p.so y x)), .bool (p.okR (p.okS y) y x)] 111 :: .row (.slice NA p.nums.length nc) p.nums.length (p.nums.map U64) 22 1 :: .row (.slice Au U.length cu) U.length (U.map I64i) 3 1 :: .row (.slice Al C.length cl) C.length (C.map I64i) 3 1 :: .row (.slice Ag G.length cg) G.length (G.flatMap grL) 40 2 :: .blk g3 #[vI (toI p.nx), vI p.cp, vQ p.cr, .slice Ag G.length cg, .slice Al C.length cl, .slice Au U.length cu, .slice At T.length ct, .slice A186 ((z ++ [(⟨Ar, cr, R⟩ : Rw)]).length) c186] 32 :: .blk g2 #[vI 0, vI 0, vQ 0, .slice none 0 0, .slice none 0 0, .slice none 0 0, .slice none 0 0, .slice none 0 0] 32 :: (fs ++ (rwF 43 (z ++ [(⟨Ar, cr, R⟩ : Rw)])))) := HM
  refine qa ?_
  refine fp HF 1 0 [(189, vI (IntKind.i64.wrap ((y : Int) + 1)))] fun a HF => ?_
  replace HF := HF.sp 189 (vI (y + 1 : Nat)) rfl (qc (by omega) (by omega))
  refine fp HF 1 1 [(152, vI (y + 1 : Nat))] fun a HF => ?_
  refine s_d0 ?_
  replace HM := HM.reBlk (i := 2) (ds := #[.slice (srcA NA nc (p.oS + p.so (y + 1) 0)) (p.nums.length - (p.oS + p.so (y + 1) 0)) (nc - (p.oS + p.so (y + 1) 0)), .bool (p.okS (y + 1))]) rfl (by rw [qgu, show x = p.cp by omega]; rfl)
  exact ⟨_, (by omega), y + 1, (z ++ [(⟨Ar, cr, R⟩ : Rw)]), A186, c186, by omega, by rw [List.length_append, hzl]; rfl, by rw [List.map_append, hz, q1, hR, show x = p.cp by omega]; rfl, fun q h => (List.mem_append.1 h).elim (hzc q) (fun h => by rw [List.mem_singleton] at h; subst h; exact hRc), hc186, rfl, HF.sub (by kernel_rfl), HM.pt 9 [0, 1, 2, 3, 4, 5, 6, 7, 8]⟩
 have hd153 := of_decide_eq_false hb153
 have e0 : y = p.gp := by omega
 have e1 : mapR p.gp p.grp = G := by rw [hG, show j = p.gp by omega]
 have e2 : p.cl.map toI = C := by rw [hC, show k = p.cp by omega]; exact (qd1 h.cl toI).symm
 have e3 : p.cu.map toI = U := by rw [hU, show u = p.cp by omega]; exact (qd1 h.cu toI).symm
 have e4 : mapR p.tk p.tsk = T := by rw [hT, show i = p.tk by omega]
 have e5 : (mapR p.gp fun g => (⟨none, 0, p.row g⟩ : Rw)).map Rw.l = z.map Rw.l := by rw [hz, e0]; exact qnj _ _ _
 refine s_cf HF (wp_exit (s_fs1 ?_))
 refine s_fz HF HM 0 rfl (v := .agg #[vI (toI p.nx), vI p.cp, vQ p.cr, .slice Ag G.length cg, .slice Al C.length cl, .slice Au U.length cu, .slice At T.length ct, .slice As z.length cs]) (Yl.qt rfl rfl z4 rfl (fun _ h => qg (h.blk (i := 7) rfl))) fun a HF => ?_
 refine fo HF 1 rfl rfl (e_sa HF HM 8 rfl rfl rfl rfl rfl z4 rfl rfl (by simp [Value.oneCell']) ?_)
 clear HM; intro w44_1 HM
 refine s_d0 ?_
 replace HM := HM.reBlk (i := 2) (ds := #[.slice (srcA NA nc (p.oS + p.so p.gp 0)) (p.nums.length - (p.oS + p.so p.gp 0)) (nc - (p.oS + p.so p.gp 0)), .bool p.okB]) rfl (by rw [e0]; rfl)
 refine wp_ret ?_
 exact ret1 rfl HF (.cellS (i := 8) HF HM rfl rfl z4 rfl) (⟨(⟨toI p.nx, ⟨(p.cp : Int), p.cr, Ag, cg, G, Al, cl, C, Au, cu, U, At, ct, T, As, cs, z⟩⟩ : Snm), _, _, _, rfl, sn_of rfl ⟨⟨rfl, rfl, e1⟩, e2, e3, e4, e5⟩, ⟨hGc, hCc, hUc, hTc, hcs, hzc⟩, Mem.q15 (HM.pt 9 [2, 6, 5, 4, 1, 0])⟩)
end Go.Proofs.YtggpmlaappaopaaGreatDoor
