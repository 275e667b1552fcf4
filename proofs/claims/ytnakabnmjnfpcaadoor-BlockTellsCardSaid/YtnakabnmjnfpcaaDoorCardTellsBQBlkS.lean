/- A part of the proof. -/
import Derived.Test.YtnakabnmjnfpcaaDoorCardTellsBQOneWay
import Derived.Test.YtnakabnmjnfpcaaDoorCardTellsBQBack
import Derived.Test.YtnakabnmjnfpcaaDoorCardTellsBQCrcP
namespace Go.Proofs.YtnakabnmjnfpcaaDoor
open Go.RowKit
structure Bk where
  kind : Nat
  cpu : Nat
  lost : Int
  next : Int
  evs : List Ev
structure Bk.Ok (b : Bk) : Prop where
  kind : b.kind < 256
  cpu : b.cpu < 256
  lost : I64 b.lost
  next : I64 b.next
  evs : ∀ e ∈ b.evs, e.Ok
def Bk.zero : Bk := ⟨0, 0, 0, 0, []⟩
def Bk.headOk (b : Bk) : Bool := match b.evs with
  | [] => decide (0 < b.lost)
  | e :: _ => decide (e.cpu = b.cpu)
def Bk.fitsE (b : Bk) : Bool := decide ((rowR b.evs).2 = 0 ∧ b.cpu < 64 ∧ 0 ≤ b.lost ∧ b.lost ≤ 281474976710656 ∧ b.next = 0 ∧ b.headOk = true)
def Bk.fitsN (b : Bk) : Bool := decide (1 ≤ b.next ∧ b.next ≤ 281474976710657 ∧ b.cpu = 0 ∧ b.lost = 0 ∧ b.evs.length = 0)
def Bk.fits (b : Bk) : Bool := if b.kind = 1 then b.fitsE else if b.kind = 2 then b.fitsN else false
def Bk.base (b : Bk) : Bs := (b.evs.headD Ev.zero).at
def Bk.body (b : Bk) : List Nat :=
  if b.kind = 2 then vbytes b.next.toNat
  else vbytes b.cpu ++ vbytes b.lost.toNat ++ vbytes b.evs.length ++ (if b.evs.length = 0 then [] else vbytes b.base.seq.toNat ++ vbytes b.base.time.toNat ++ recs b.base b.evs)
def le4 (n : Nat) : List Nat := [n % 256, n / 256 % 256, n / 65536 % 256, n / 16777216 % 256]
def Bk.raw (b : Bk) : List Nat := le4 (12 + b.body.length) ++ [113, 116, 1, b.kind] ++ b.body
def sealL (l : List Nat) : List Nat := l ++ le4 (crcSum l)
def Bk.err (b : Bk) : Nat := if b.fits = false then 107 else if 4096 < 12 + b.body.length then 3 else 0
def Bk.out (b : Bk) : List Nat := if b.err = 0 then sealL b.raw else []
def num4 (l : List Nat) : Nat := l.getD 0 0 + 256 * l.getD 1 0 + 65536 * l.getD 2 0 + 16777216 * l.getD 3 0
def lenR (l : List Nat) : Nat × Nat := if l.length < 4 then (0, 100) else if num4 l < 13 ∨ 4096 < num4 l then (0, 101) else if l.length < num4 l then (0, 100) else (num4 l, 0)
def sealedR (l : List Nat) : Bool := decide (4 ≤ l.length ∧ crcSum (l.take (l.length - 4)) = num4 (l.drop (l.length - 4)))
def tkOk (most : Nat) (l : List Nat) : Bool := decide ((vread l).2.2 = 0 ∧ (vread l).1 ≤ most)
def tkRest (l : List Nat) : List Nat := l.drop (vread l).2.1
def tkVal (most : Nat) (l : List Nat) : Nat := if most < (vread l).1 then most else (vread l).1
def parseEnd (l : List Nat) : Option Bk :=
  if tkOk 281474976710657 l = true ∧ (tkRest l).length = 0 ∧ Bk.fits ⟨2, 0, 0, tkVal 281474976710657 l, []⟩ = true then some ⟨2, 0, 0, tkVal 281474976710657 l, []⟩ else none
/-- The events behind cpu, lost and count: l is what stands behind these. -/
def parseRows (cpu lost : Nat) (l : List Nat) (q : List Ev × Nat × Nat) : Option Bk :=
  if q.2.2 = 0 ∧ (q.1.headD Ev.zero).seq = tkVal 281474976710656 l ∧ (q.1.headD Ev.zero).time = tkVal 281474976710656 (tkRest l) ∧ tkOk 281474976710656 l = true ∧ tkOk 281474976710656 (tkRest l) = true ∧ ((tkRest (tkRest l)).drop q.2.1).length = 0 ∧ Bk.fits ⟨1, cpu, lost, 0, q.1⟩ = true then some ⟨1, cpu, lost, 0, q.1⟩ else none
def parse3 (l : List Nat) : Bool := tkOk 63 l && tkOk 281474976710656 (tkRest l) && tkOk 4096 (tkRest (tkRest l))
def parseEvs (l : List Nat) : Option Bk :=
  if parse3 l = true ∧ 0 < tkVal 4096 (tkRest (tkRest l)) then
    parseRows (tkVal 63 l) (tkVal 281474976710656 (tkRest l)) (tkRest (tkRest (tkRest l)))
      (readR ⟨tkVal 281474976710656 (tkRest (tkRest (tkRest l))), tkVal 281474976710656 (tkRest (tkRest (tkRest (tkRest l))))⟩ (tkVal 63 l) (tkVal 4096 (tkRest (tkRest l))) (tkRest (tkRest (tkRest (tkRest (tkRest l))))))
  else if parse3 l = true ∧ (tkRest (tkRest (tkRest l))).length = 0 ∧ Bk.fits ⟨1, tkVal 63 l, tkVal 281474976710656 (tkRest l), 0, []⟩ = true then some ⟨1, tkVal 63 l, tkVal 281474976710656 (tkRest l), 0, []⟩ else none
def parseR (kind : Nat) (l : List Nat) : Option Bk := if kind = 2 then parseEnd l else parseEvs l
/-- What a block's bytes hold, whole. -/
def blkOf (l : List Nat) : Option Bk × Nat :=
  if sealedR l = false then (none, 102)
  else if ¬ (l.getD 4 0 = 113 ∧ l.getD 5 0 = 116) then (none, 103)
  else if l.getD 6 0 ≠ 1 then (none, 104)
  else if l.getD 7 0 ≠ 1 ∧ l.getD 7 0 ≠ 2 then (none, 105)
  else match parseR (l.getD 7 0) ((l.take (l.length - 4)).drop 8) with
    | none => (none, 106)
    | some b => (some b, 0)
def readB (l : List Nat) : Bk × Nat × Nat :=
  if (lenR l).2 ≠ 0 then (Bk.zero, 0, (lenR l).2)
  else match (blkOf (l.take (lenR l).1)).1 with
    | some b => (b, (lenR l).1, 0)
    | none => (Bk.zero, 0, (blkOf (l.take (lenR l).1)).2)
theorem tk_rest_lt {l : List Nat} (hl : ∀ x ∈ l, x < 256) : ∀ x ∈ tkRest l, x < 256 := fun x hx => hl x (List.mem_of_mem_drop hx)
theorem fits_end {b : Bk} (h : b.fits = true) (hk : b.kind = 2) : b.fitsN = true := by unfold Bk.fits at h; rwa [if_neg (by omega), if_pos hk] at h
theorem fits_evs {b : Bk} (h : b.fits = true) (hk : b.kind ≠ 2) : b.kind = 1 ∧ b.fitsE = true := by
  unfold Bk.fits at h
  split at h
  · rename_i h1; exact ⟨h1, h⟩
  · cases h
theorem recBytesB (b : Bs) (e : Ev) : (recBytes b e).length ≤ 61 := by
  unfold recBytes recNums
  have h1 := vbytes_length (e.seq - b.seq).toNat
  have h2 := vbytes_length (e.time - b.time).toNat
  have h3 := flat_length e.vals
  have h4 : e.vals.length ≤ 4 := by unfold Ev.vals; rw [List.length_map]; exact usesL_len _
  simp only [List.length_cons, List.flatMap_cons, List.length_append]
  omega
theorem recsLenB : ∀ (l : List Ev) (b : Bs), (recs b l).length ≤ 61 * l.length
  | [], _ => by simp [recs]
  | e :: r, b => by
    have h1 := recBytesB b e
    have h2 := recsLenB r e.at
    rw [recs, List.length_append, List.length_cons]
    omega
/-- A right row is a chain. -/
theorem chain_of_row {cpu : Nat} : ∀ (es : List Ev) (p : Option Ev) (b : Bs) (i : Nat), (∀ e ∈ es, e.Ok) → b.right = true → (∀ e ∈ es.head?, b.behind e = true ∧ e.cpu = cpu) → (∀ q, p = some q → b = q.at ∧ q.cpu = cpu) → (rowGo p i es).2 = 0 → Chain cpu p b es
  | [], _, _, _, _, _, _, _, _ => trivial
  | e :: r, p, b, i, hok, hb, hh, hp, h => by
    rw [rowGo] at h
    split at h
    · rename_i h1; exact absurd h h1
    · rename_i h1
      split at h
      · cases h
      · rename_i h2
        have hc : e.check = 0 := by omega
        obtain ⟨g1, g2⟩ := hh e (by simp)
        refine ⟨⟨hb, hc, hok e (by simp), g1⟩, g2, ?_, ?_⟩
        · intro q hq
          subst hq
          simp [Ev.after] at h2
          omega
        · refine chain_of_row r (some e) e.at (i + 1) (fun x hx => hok x (by simp [hx])) (at_right hc) ?_ (fun q hq => by injection hq with hq; subst hq; exact ⟨rfl, g2⟩) h
          intro x hx
          cases r with
          | nil => cases hx
          | cons y r =>
            simp at hx
            subst hx
            rw [rowGo] at h
            split at h
            · rename_i h3; exact absurd h h3
            · split at h
              · cases h
              · rename_i h4
                simp [Ev.after] at h4
                refine ⟨?_, by omega⟩
                unfold Bs.behind Ev.at
                rw [decide_eq_true_eq]
                exact ⟨by show e.seq ≤ y.seq; omega, h4.2.2⟩
theorem row_head {l : List Ev} {e : Ev} (h : (rowR l).2 = 0) (he : l.head? = some e) : e.check = 0 := by
  cases l with
  | nil => cases he
  | cons x r =>
    injection he with he
    subst he
    unfold rowR at h
    rw [rowGo] at h
    split at h
    · rename_i h1; exact absurd h h1
    · omega
theorem behind_self (e : Ev) : e.at.behind e = true := by unfold Bs.behind Ev.at; rw [decide_eq_true_eq]; exact ⟨Int.le_refl _, Int.le_refl _⟩
/-- What fits and has events. -/
structure EvsFit (b : Bk) (e : Ev) (r : List Ev) : Prop where
  evs : b.evs = e :: r
  cpu : e.cpu = b.cpu
  base : b.base = e.at
  check : e.check = 0
  right : e.at.right = true
  chain : Chain b.cpu none e.at b.evs
theorem fits_row {b : Bk} (hok : b.Ok) (h : b.fitsE = true) (hn : b.evs.length ≠ 0) : ∃ e r, EvsFit b e r := by
  unfold Bk.fitsE at h
  rw [decide_eq_true_eq] at h
  obtain ⟨h1, h2, h3, h4, h5, h6⟩ := h
  cases hev : b.evs with
  | nil => rw [hev] at hn; simp at hn
  | cons e r =>
    have hc : e.check = 0 := row_head h1 (by rw [hev]; rfl)
    have hcpu : e.cpu = b.cpu := by unfold Bk.headOk at h6; rw [hev] at h6; simpa using h6
    refine ⟨e, r, hev, hcpu, by unfold Bk.base; rw [hev]; rfl, hc, at_right hc, ?_⟩
    refine chain_of_row b.evs none e.at 0 hok.evs (at_right hc) ?_ (fun q hq => by cases hq) h1
    intro x hx
    rw [hev] at hx
    simp at hx
    subst hx
    exact ⟨behind_self _, hcpu⟩
theorem fits_write {b : Bk} (hok : b.Ok) (h : b.fitsE = true) (hn : b.evs.length ≠ 0) : writeErr b.base b.evs = 0 ∧ writeOut b.base b.evs = recs b.base b.evs := by
  obtain ⟨e, r, g⟩ := fits_row hok h hn
  rw [g.base]
  obtain ⟨_, h1, h2⟩ := write_fwd g.right g.chain
  exact ⟨h1, h2⟩
theorem small_i64 {x : Nat} (h : x ≤ 281474976710657) : I64 (x : Int) := by unfold I64; omega
end Go.Proofs.YtnakabnmjnfpcaaDoor
