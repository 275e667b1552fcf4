/- A part of the proof. -/
import Derived.Test.YtfeheccoijnbaaaGreatDoorQvOneWay
import Derived.Test.YtfeheccoijnbaaaGreatDoorQvBack
import Derived.Test.YtfeheccoijnbaaaGreatDoorQvCrcP
namespace Go.Proofs.YtfeheccoijnbaaaGreatDoor
open Go.RowKit
structure Bk where
 kind : Nat
 cpu : Nat
 lost : Int
 next : Int
 evs : List Ev
structure Bk.Ok (b : Bk) : Prop where
 kind : b.kind < 256
 cpu : b.cpu < 256
 lost : I64 b.lost
 next : I64 b.next
 evs : ∀ e ∈ b.evs, e.Ok
def Bk.zero : Bk := ⟨0, 0, 0, 0, []⟩
def Bk.qir (b : Bk) : Bool := match b.evs with
 | [] => decide (0 < b.lost)
 | e :: _ => decide (e.cpu = b.cpu)
def Bk.qds (b : Bk) : Bool := decide ((rowR b.evs).2 = 0 ∧ b.cpu < 64 ∧ 0 ≤ b.lost ∧ b.lost ≤ 281474976710656 ∧ b.next = 0 ∧ b.qir = true)
def Bk.qis (b : Bk) : Bool := decide (1 ≤ b.next ∧ b.next ≤ 281474976710657 ∧ b.cpu = 0 ∧ b.lost = 0 ∧ b.evs.length = 0)
def Bk.fits (b : Bk) : Bool := if b.kind = 1 then b.qds else if b.kind = 2 then b.qis else false
def Bk.base (b : Bk) : Bs := (b.evs.headD Ev.zero).at
def Bk.body (b : Bk) : List Nat :=
 if b.kind = 2 then vbytes b.next.toNat
 else vbytes b.cpu ++ vbytes b.lost.toNat ++ vbytes b.evs.length ++ (if b.evs.length = 0 then [] else vbytes b.base.seq.toNat ++ vbytes b.base.time.toNat ++ recs b.base b.evs)
def le4 (n : Nat) : List Nat := [n % 256, n / 256 % 256, n / 65536 % 256, n / 16777216 % 256]
def Bk.raw (b : Bk) : List Nat := le4 (12 + b.body.length) ++ [113, 116, 1, b.kind] ++ b.body
def sealL (l : List Nat) : List Nat := l ++ le4 (qp l)
def Bk.err (b : Bk) : Nat := if b.fits = false then 107 else if 4096 < 12 + b.body.length then 3 else 0
def Bk.out (b : Bk) : List Nat := if b.err = 0 then sealL b.raw else []
def num4 (l : List Nat) : Nat := l.getD 0 0 + 256 * l.getD 1 0 + 65536 * l.getD 2 0 + 16777216 * l.getD 3 0
def lenR (l : List Nat) : Nat × Nat := if l.length < 4 then (0, 100) else if num4 l < 13 ∨ 4096 < num4 l then (0, 101) else if l.length < num4 l then (0, 100) else (num4 l, 0)
def qca (l : List Nat) : Bool := decide (4 ≤ l.length ∧ qp (l.take (l.length - 4)) = num4 (l.drop (l.length - 4)))
def tkOk (most : Nat) (l : List Nat) : Bool := decide ((vread l).2.2 = 0 ∧ (vread l).1 ≤ most)
def qc (l : List Nat) : List Nat := l.drop (vread l).2.1
def tkVal (most : Nat) (l : List Nat) : Nat := if most < (vread l).1 then most else (vread l).1
def qa8 (l : List Nat) : Option Bk :=
 if tkOk 281474976710657 l = true ∧ (qc l).length = 0 ∧ Bk.fits ⟨2, 0, 0, tkVal 281474976710657 l, []⟩ = true then some ⟨2, 0, 0, tkVal 281474976710657 l, []⟩ else none
def qau (cpu lost : Nat) (l : List Nat) (q : List Ev × Nat × Nat) : Option Bk :=
 if q.2.2 = 0 ∧ (q.1.headD Ev.zero).seq = tkVal 281474976710656 l ∧ (q.1.headD Ev.zero).time = tkVal 281474976710656 (qc l) ∧ tkOk 281474976710656 l = true ∧ tkOk 281474976710656 (qc l) = true ∧ ((qc (qc l)).drop q.2.1).length = 0 ∧ Bk.fits ⟨1, cpu, lost, 0, q.1⟩ = true then some ⟨1, cpu, lost, 0, q.1⟩ else none
def qc9 (l : List Nat) : Bool := tkOk 63 l && tkOk 281474976710656 (qc l) && tkOk 4096 (qc (qc l))
def zp (l : List Nat) : Option Bk :=
 if qc9 l = true ∧ 0 < tkVal 4096 (qc (qc l)) then
  qau (tkVal 63 l) (tkVal 281474976710656 (qc l)) (qc (qc (qc l)))
   (readR ⟨tkVal 281474976710656 (qc (qc (qc l))), tkVal 281474976710656 (qc (qc (qc (qc l))))⟩ (tkVal 63 l) (tkVal 4096 (qc (qc l))) (qc (qc (qc (qc (qc l))))))
 else if qc9 l = true ∧ (qc (qc (qc l))).length = 0 ∧ Bk.fits ⟨1, tkVal 63 l, tkVal 281474976710656 (qc l), 0, []⟩ = true then some ⟨1, tkVal 63 l, tkVal 281474976710656 (qc l), 0, []⟩ else none
def qes (kind : Nat) (l : List Nat) : Option Bk := if kind = 2 then qa8 l else zp l
def blkOf (l : List Nat) : Option Bk × Nat :=
 if qca l = false then (none, 102)
 else if ¬ (l.getD 4 0 = 113 ∧ l.getD 5 0 = 116) then (none, 103)
 else if l.getD 6 0 ≠ 1 then (none, 104)
 else if l.getD 7 0 ≠ 1 ∧ l.getD 7 0 ≠ 2 then (none, 105)
 else match qes (l.getD 7 0) ((l.take (l.length - 4)).drop 8) with
  | none => (none, 106)
  | some b => (some b, 0)
def readB (l : List Nat) : Bk × Nat × Nat :=
 if (lenR l).2 ≠ 0 then (Bk.zero, 0, (lenR l).2)
 else match (blkOf (l.take (lenR l).1)).1 with
  | some b => (b, (lenR l).1, 0)
  | none => (Bk.zero, 0, (blkOf (l.take (lenR l).1)).2)
theorem qdo {most : Nat} {l : List Nat} (hl : ∀ x ∈ l, x < 256) (h : tkOk most l = true) : ∃ x m, vread l = (x, m, 0) ∧ tkVal most l = x ∧ x ≤ most ∧ vbytes x = l.take m ∧ qc l = l.drop m ∧ vbytes x ++ qc l = l := by
 unfold tkOk at h
 rw [decide_eq_true_eq] at h
 refine ⟨(vread l).1, (vread l).2.1, by rw [← h.1], by unfold tkVal; rw [if_neg (by omega)], h.2, ?_, rfl, ?_⟩
 ·exact qgc hl (by rw [← h.1])
 ·have := qgc hl (show vread l = ((vread l).1, (vread l).2.1, 0) by rw [← h.1])
  rw [this]
  exact List.take_append_drop _ _
theorem qaa {l : List Nat} (hl : ∀ x ∈ l, x < 256) : ∀ x ∈ qc l, x < 256 := fun x hx => hl x (List.mem_of_mem_drop hx)
theorem qv7 {b : Bk} (h : b.fits = true) (hk : b.kind = 2) : b.qis = true := by unfold Bk.fits at h; rwa [if_neg (by omega), if_pos hk] at h
theorem qeg {b : Bk} (h : b.fits = true) (hk : b.kind ≠ 2) : b.kind = 1 ∧ b.qds = true := by
 unfold Bk.fits at h
 split at h
 ·rename_i h1; exact ⟨h1, h⟩
 ·cases h
theorem qs7 (b : Bs) (e : Ev) : (zr b e).length ≤ 61 := by
 unfold zr qaw
 have h1 := qm (e.seq - b.seq).toNat
 have h2 := qm (e.time - b.time).toNat
 have h3 := qao e.vals
 have h4 : e.vals.length ≤ 4 := by unfold Ev.vals; rw [List.length_map]; exact qbe _
 simp only [List.length_cons, List.flatMap_cons, List.length_append]
 omega
theorem qfk : ∀ (l : List Ev) (b : Bs), (recs b l).length ≤ 61 * l.length
 | [], _ => by simp [recs]
 | e :: r, b => by
  have h1 := qs7 b e
  have h2 := qfk r e.at
  rw [recs, List.length_append, List.length_cons]
  omega
theorem qd4 {cpu : Nat} : ∀ (es : List Ev) (p : Option Ev) (b : Bs) (i : Nat), (∀ e ∈ es, e.Ok) → b.right = true → (∀ e ∈ es.head?, b.behind e = true ∧ e.cpu = cpu) → (∀ q, p = some q → b = q.at ∧ q.cpu = cpu) → (rowGo p i es).2 = 0 → Chain cpu p b es
 | [], _, _, _, _, _, _, _, _ => trivial
 | e :: r, p, b, i, hok, hb, hh, hp, h => by
  rw [rowGo] at h
  split at h
  ·rename_i h1; exact absurd h h1
  ·rename_i h1
   split at h
   ·cases h
   ·rename_i h2
    have hc : e.check = 0 := by omega
    obtain ⟨g1, g2⟩ := hh e (by simp)
    refine ⟨⟨hb, hc, hok e (by simp), g1⟩, g2, ?_, ?_⟩
    ·intro q hq
     subst hq
     simp [Ev.after] at h2
     omega
    ·refine qd4 r (some e) e.at (i + 1) (fun x hx => hok x (by simp [hx])) (qg2 hc) ?_ (fun q hq => by injection hq with hq; subst hq; exact ⟨rfl, g2⟩) h
     intro x hx
     cases r with
     | nil => cases hx
     | cons y r =>
      simp at hx
      subst hx
      rw [rowGo] at h
      split at h
      ·rename_i h3; exact absurd h h3
      ·split at h
       ·cases h
       ·rename_i h4
        simp [Ev.after] at h4
        refine ⟨?_, by omega⟩
        unfold Bs.behind Ev.at
        rw [decide_eq_true_eq]
        exact ⟨by show e.seq ≤ y.seq; omega, h4.2.2⟩
theorem qpb {l : List Ev} {e : Ev} (h : (rowR l).2 = 0) (he : l.head? = some e) : e.check = 0 := by
 cases l with
 | nil => cases he
 | cons x r =>
  injection he with he
  subst he
  unfold rowR at h
  rw [rowGo] at h
  split at h
  ·rename_i h1; exact absurd h h1
  ·omega
theorem qhs (e : Ev) : e.at.behind e = true := by unfold Bs.behind Ev.at; rw [decide_eq_true_eq]; exact ⟨Int.le_refl _, Int.le_refl _⟩
structure EvsFit (b : Bk) (e : Ev) (r : List Ev) : Prop where
 evs : b.evs = e :: r
 cpu : e.cpu = b.cpu
 base : b.base = e.at
 check : e.check = 0
 right : e.at.right = true
 chain : Chain b.cpu none e.at b.evs
theorem qg3 {b : Bk} (hok : b.Ok) (h : b.qds = true) (hn : b.evs.length ≠ 0) : ∃ e r, EvsFit b e r := by
 unfold Bk.qds at h
 rw [decide_eq_true_eq] at h
 obtain ⟨h1, h2, h3, h4, h5, h6⟩ := h
 cases hev : b.evs with
 | nil => rw [hev] at hn; simp at hn
 | cons e r =>
  have hc : e.check = 0 := qpb h1 (by rw [hev]; rfl)
  have hcpu : e.cpu = b.cpu := by unfold Bk.qir at h6; rw [hev] at h6; simpa using h6
  refine ⟨e, r, hev, hcpu, by unfold Bk.base; rw [hev]; rfl, hc, qg2 hc, ?_⟩
  refine qd4 b.evs none e.at 0 hok.evs (qg2 hc) ?_ (fun q hq => by cases hq) h1
  intro x hx
  rw [hev] at hx
  simp at hx
  subst hx
  exact ⟨qhs _, hcpu⟩
theorem qjg {b : Bk} (hok : b.Ok) (h : b.qds = true) (hn : b.evs.length ≠ 0) : qz b.base b.evs = 0 ∧ zo b.base b.evs = recs b.base b.evs := by
 obtain ⟨e, r, g⟩ := qg3 hok h hn
 rw [g.base]
 obtain ⟨_, h1, h2⟩ := ql1 g.right g.chain
 exact ⟨h1, h2⟩
theorem qd5 {x : Nat} (h : x ≤ 281474976710657) : I64 (x : Int) := by unfold I64; omega
theorem qqr {k : Nat} (hk : k = 1 ∨ k = 2) {l : List Nat} (hl : ∀ x ∈ l, x < 256) {b : Bk} (h : qes k l = some b) : b.kind = k ∧ b.Ok ∧ b.fits = true ∧ b.body = l ∧ b.evs.length ≤ 4096 := by
 unfold qes at h
 split at h
 ·rename_i hk2
  unfold qa8 at h
  split at h
  ·rename_i hc
   obtain ⟨c1, c2, c3⟩ := hc
   obtain ⟨x, m, v1, v2, v3, v4, v5, v6⟩ := qdo hl c1
   injection h with h
   subst h
   rw [v2] at c3 ⊢
   refine ⟨hk2.symm, ⟨by show 2 < 256; decide, by show 0 < 256; decide, by unfold I64; simp, qd5 v3, by simp⟩, c3, ?_, by simp⟩
   rw [List.length_eq_zero_iff] at c2
   rw [c2, List.append_nil] at v6
   unfold Bk.body
   rw [if_pos rfl]
   simpa using v6
  ·cases h
 ·rename_i hk2
  have hk1 : k = 1 := by omega
  unfold zp at h
  split at h
  ·rename_i hc
   obtain ⟨c1, c2⟩ := hc
   unfold qc9 at c1
   simp only [Bool.and_eq_true] at c1
   obtain ⟨⟨c1, c3⟩, c4⟩ := c1
   obtain ⟨x1, m1, _, u1, u2, _, _, u3⟩ := qdo hl c1
   have hl1 := qaa hl
   obtain ⟨x2, m2, _, u4, u5, _, _, u6⟩ := qdo hl1 c3
   have hl2 := qaa hl1
   obtain ⟨x3, m3, _, u7, u8, _, _, u9⟩ := qdo hl2 c4
   have hl3 := qaa hl2
   rw [u1, u4, u7] at h
   rw [u7] at c2
   generalize qc (qc (qc l)) = l3 at h u9 hl3
   unfold qau at h
   split at h
   ·rename_i hd
    obtain ⟨d1, d2, d3, d4, d5, d6, d7⟩ := hd
    obtain ⟨y1, _, _, w1, w2, _, _, w3⟩ := qdo hl3 d4
    have hl4 := qaa hl3
    obtain ⟨y2, _, _, w4, w5, _, _, w6⟩ := qdo hl4 d5
    have hl5 := qaa hl4
    rw [w1, w4] at h d1 d2 d3 d6 d7
    generalize qc (qc l3) = l5 at h w6 hl5 d1 d2 d3 d6 d7
    generalize hq : readR ⟨(y1 : Int), (y2 : Int)⟩ x1 (x3 : Int) l5 = q at h d1 d2 d3 d6 d7
    obtain ⟨es, u, er⟩ := q
    simp only at h d1 d2 d3 d6 d7
    subst d1
    injection h with h
    subst h
    obtain ⟨r1, r2, r3, r4, r5⟩ := qgd (by omega) hl5 hq
    have hes : es.length = x3 := by omega
    refine ⟨hk1.symm, ⟨by show 1 < 256; decide, by show x1 < 256; omega, qd5 (by show x2 ≤ _; omega), by unfold I64; simp, fun e he => (r5 e he).1⟩, d7, ?_, by show es.length ≤ 4096; omega⟩
    have hu : l5.take u = l5 := List.take_of_length_le (by rw [List.length_drop] at d6; omega)
    rw [hu] at r3
    have hrecs : recs ⟨(y1 : Int), (y2 : Int)⟩ es = l5 := by
     unfold zo at r3
     rw [if_pos r2] at r3
     exact r3
    unfold Bk.body
    rw [if_neg (by show ¬ 1 = 2; omega)]
    show vbytes x1 ++ vbytes ((x2 : Int)).toNat ++ vbytes es.length ++ (if es.length = 0 then [] else vbytes (Bk.base ⟨1, x1, x2, 0, es⟩).seq.toNat ++ vbytes (Bk.base ⟨1, x1, x2, 0, es⟩).time.toNat ++ recs (Bk.base ⟨1, x1, x2, 0, es⟩) es) = l
    have hbase : Bk.base ⟨1, x1, x2, 0, es⟩ = ⟨(y1 : Int), (y2 : Int)⟩ := by
     unfold Bk.base Ev.at
     show (⟨(es.headD Ev.zero).seq, (es.headD Ev.zero).time⟩ : Bs) = _
     rw [d2, d3]
    rw [hbase, hrecs, if_neg (by omega), hes, Int.toNat_natCast, ← u3, ← u6, ← u9, ← w3, ← w6]
    simp
   ·cases h
  ·split at h
   ·rename_i hc0 hc
    obtain ⟨c1, c2, c3⟩ := hc
    have c0 : ¬ 0 < tkVal 4096 (qc (qc l)) := fun hh => hc0 ⟨c1, hh⟩
    unfold qc9 at c1
    simp only [Bool.and_eq_true] at c1
    obtain ⟨⟨c1, c5⟩, c4⟩ := c1
    obtain ⟨x1, m1, _, u1, u2, _, _, u3⟩ := qdo hl c1
    have hl1 := qaa hl
    obtain ⟨x2, m2, _, u4, u5, _, _, u6⟩ := qdo hl1 c5
    have hl2 := qaa hl1
    obtain ⟨x3, m3, _, u7, u8, _, _, u9⟩ := qdo hl2 c4
    rw [u1, u4] at h c3
    rw [u7] at c0
    obtain rfl : x3 = 0 := by omega
    injection h with h
    subst h
    refine ⟨hk1.symm, ⟨by show 1 < 256; decide, by show x1 < 256; omega, qd5 (by show x2 ≤ _; omega), by unfold I64; simp, by simp⟩, c3, ?_, by simp⟩
    rw [List.length_eq_zero_iff] at c2
    rw [c2, List.append_nil] at u9
    unfold Bk.body
    rw [if_neg (by show ¬ 1 = 2; omega)]
    show vbytes x1 ++ vbytes ((x2 : Int)).toNat ++ vbytes 0 ++ [] = l
    rw [Int.toNat_natCast, ← u3, ← u6, ← u9]
    simp
   ·cases h
end Go.Proofs.YtfeheccoijnbaaaGreatDoor
