/- Parts. -/
import Derived.Test.YtnakabnmjnfpcaaGreatDoorQRef01
import Derived.Test.YtnakabnmjnfpcaaGreatDoorQZ3
set_option linter.all false
set_option maxRecDepth 100000
set_option maxHeartbeats 8000000
namespace Go.Proofs.YtnakabnmjnfpcaaGreatDoor
open Go.RowKit
theorem qkh {cpu : Nat} : ∀ (l : List Ev) (p : Option Ev) (b : Bs), Chain cpu p b l → ∀ e ∈ l, e.cpu = cpu
 | [], _, _, _, e, he => by cases he
 | x :: r, p, b, h, e, he => by
  obtain ⟨h1, h2, h3, h4⟩ := h
  rcases List.mem_cons.1 he with rfl | he
  ·exact h2
  ·exact qkh r (some x) x.at h4 e he
theorem qid {cpu : Nat} : ∀ (l : List Ev) (p : Option Ev) (b : Bs) (k : Nat), Chain cpu p b l → Chain cpu p b (l.take k)
 | [], _, _, k, _ => by rw [List.take_nil]; trivial
 | _ :: _, _, _, 0, _ => trivial
 | e :: r, _, _, k + 1, h => ⟨h.1, h.2.1, h.2.2.1, qid r (some e) e.at k h.2.2.2⟩
theorem qf3 {b : Bk} (h : b.kind = 2) : b.fits = decide (1 ≤ b.next ∧ b.next ≤ 281474976710657 ∧ b.cpu = 0 ∧ b.lost = 0 ∧ b.evs.length = 0) := by
 unfold Bk.fits; rw [if_neg (by omega), if_pos h]; rfl
theorem qeu {b : Bk} (h2 : b.kind ≠ 2) (h : b.kind ≠ 1 ∨ 63 < b.cpu ∨ b.lost < 0 ∨ 281474976710656 < b.lost ∨ b.next ≠ 0 ∨ (b.lost = 0 ∧ b.evs.length = 0)) : b.fits = false := by
 unfold Bk.fits
 by_cases h1 : b.kind = 1
 ·rw [if_pos h1]
  unfold Bk.qc1
  rw [decide_eq_false_iff_not]
  rintro ⟨a1, a2, a3, a4, a5, a6⟩
  rcases h with h | h | h | h | h | ⟨h, h'⟩
  ·exact h h1
  ·omega
  ·omega
  ·omega
  ·exact h a5
  ·rw [qgr h', decide_eq_true_eq] at a6
   omega
 ·rw [if_neg h1, if_neg h2]
theorem qoj {b : Bk} (hok : b.Ok) (h2 : b.kind ≠ 2) {k : Nat} (hk : k < b.evs.length) (h : (b.evs.getD k Ev.zero).cpu ≠ b.cpu) : b.fits = false := by
 rw [Bool.eq_false_iff]
 intro hf
 obtain ⟨h1, hE⟩ := qb6 hf h2
 obtain ⟨e, r, g⟩ := qdw hok hE (by omega)
 exact h (qkh _ _ _ g.chain _ (qds Ev.zero hk))
theorem qie {b : Bk} (h1 : b.kind = 1) (h2 : b.cpu ≤ 63) (h3 : 0 ≤ b.lost) (h4 : b.lost ≤ 281474976710656) (h5 : b.next = 0) (h6 : ¬ (b.lost = 0 ∧ b.evs.length = 0)) (hall : ∀ k, k < b.evs.length → (b.evs.getD k Ev.zero).cpu = b.cpu) :
  b.fits = decide ((rowR b.evs).2 = 0) := by
 have hh : b.qin = true := by
  by_cases h : b.evs.length = 0
  ·rw [qgr h, decide_eq_true_eq]; omega
  ·rw [qh4 h, decide_eq_true_eq]; exact hall 0 (by omega)
 unfold Bk.fits
 rw [if_pos h1]
 unfold Bk.qc1
 rw [Bool.eq_iff_iff, decide_eq_true_eq, decide_eq_true_eq]
 exact ⟨fun h => h.1, fun h => ⟨h, by omega, h3, h4, h5, hh⟩⟩
def Bk.upto (b : Bk) (n : Nat) : Bk := ⟨b.kind, b.cpu, b.lost, b.next, b.evs.take n⟩
theorem qxe {b : Bk} (hok : b.Ok) (n : Nat) : (b.upto n).Ok := ⟨hok.kind, hok.cpu, hok.lost, hok.next, fun e he => hok.evs e (List.mem_of_mem_take he)⟩
theorem qev {b : Bk} {n : Nat} (h : n ≤ b.evs.length) : (b.upto n).evs.length = n := by show (b.evs.take n).length = n; rw [List.length_take]; omega
theorem qsy {b : Bk} (hok : b.Ok) (h : b.fits = true) {n : Nat} (h1 : 0 < n) (h2 : n ≤ b.evs.length) : (b.upto n).fits = true := by
 have hk : b.kind ≠ 2 := fun h2 => by
  have := qfz h h2
  unfold Bk.qfk at this
  rw [decide_eq_true_eq] at this
  omega
 obtain ⟨k1, hE⟩ := qb6 h hk
 obtain ⟨e, r, g⟩ := qdw hok hE (by omega)
 unfold Bk.qc1 at hE
 rw [decide_eq_true_eq] at hE
 obtain ⟨a1, a2, a3, a4, a5, a6⟩ := hE
 have hw := (qlh g.right (qid _ _ _ n g.chain)).1
 rw [qie (b := b.upto n) k1 (by show b.cpu ≤ 63; omega) a3 a4 a5 (by rw [qev h2]; omega), decide_eq_true_eq]
 ·show (rowR (b.evs.take n)).2 = 0
  rw [hw]
 ·intro k hk
  exact qkh _ _ _ (qid _ _ _ n g.chain) _ (qds Ev.zero hk)
theorem qsz {b : Bk} (hk : b.kind = 1) {n : Nat} (h1 : 0 < n) (h2 : n ≤ b.evs.length) : 12 + (b.upto n).body.length = b.sz n + (vbytes n).length := by
 have hb : (b.upto n).base = b.base := by
  unfold Bk.base Bk.upto
  cases hl : b.evs with
  | nil => simp
  | cons e r =>
   cases n with
   | zero => omega
   | succ j => rfl
 have hl2 := qev h2
 unfold Bk.body Bk.sz
 rw [if_neg (by show ¬ b.kind = 2; omega), hb]
 simp only [hl2]
 rw [if_neg (by omega)]
 show 12 + (vbytes b.cpu ++ vbytes b.lost.toNat ++ vbytes n ++ (vbytes b.base.seq.toNat ++ vbytes b.base.time.toNat ++ recs b.base (b.evs.take n))).length = _
 simp only [List.length_append]
 omega
theorem qs0 : ∀ (f x y : Nat), x ≤ y → (grp f x).length ≤ (grp f y).length
 | 0, x, y, _ => by simp [grp]
 | f + 1, x, y, h => by
  rcases Nat.lt_or_ge x 128 with h1 | h1
  ·rw [qdj f x h1]
   rcases Nat.lt_or_ge y 128 with h2 | h2
   ·rw [qdj f y h2]; simp
   ·rw [qb2 f y h2]; simp
  ·rw [qb2 f x h1, qb2 f y (by omega)]
   have := qs0 f (x / 128) (y / 128) (Nat.div_le_div_right h)
   simp only [List.length_cons]
   omega
theorem qpw {x y : Nat} (h : x ≤ y) : (vbytes x).length ≤ (vbytes y).length := by unfold vbytes; rw [List.length_map, List.length_map]; exact qs0 10 x y h
theorem qyn {b : Bk} {i j : Nat} (h : i ≤ j) : b.sz i ≤ b.sz j := by
 induction h with
 | refl => exact Nat.le_refl _
 | @step j _ ih =>
  refine Nat.le_trans ih ?_
  rcases Nat.lt_or_ge j b.evs.length with h1 | h1
  ·rw [qsx h1]; omega
  ·unfold Bk.sz
   rw [List.take_of_length_le h1, List.take_of_length_le (by omega : b.evs.length ≤ j + 1)]
   omega
theorem qvn {b : Bk} {i j : Nat} (h : i ≤ j) (hj : b.big j = false) : b.big i = false := by
 unfold Bk.big at hj ⊢
 rw [decide_eq_false_iff_not] at hj ⊢
 have h1 := qyn (b := b) h
 have h2 := qpw h
 omega
theorem qlv {b : Bk} {n : Nat} (hn : n ≤ b.evs.length) (h1 : 0 < n → b.big n = false) (h2 : ∀ m, n < m → m ≤ b.evs.length → b.big m = true) : b.qqs = n := by
 have hno : ∀ i, i < n → b.big (i + 1) = false := fun i hi => qvn (by omega) (h1 (by omega))
 rcases Nat.lt_or_ge n b.evs.length with h | h
 ·exact qoi h hno (h2 _ (by omega) (by omega))
 ·have : n = b.evs.length := by omega
  subst this
  exact qic hno
theorem qw : SI Tryz.prog 37 5 := ⟨by kernel_rfl, by kernel_rfl⟩
theorem qon {b : Bk} (hk : b.kind = 2) : vbytes b.next.toNat = b.body := by unfold Bk.body; rw [if_pos hk]
theorem ql6 {b : Bk} (hk : b.kind ≠ 2) (h : b.evs.length = 0) : [b.cpu, b.lost.toNat, b.evs.length].flatMap vbytes = b.body := by
 unfold Bk.body
 rw [if_neg hk, if_pos h]
 simp
theorem ql7 {b : Bk} (hk : b.kind ≠ 2) (h : b.evs.length ≠ 0) : [b.cpu, b.lost.toNat, b.evs.length].flatMap vbytes ++ [(b.evs.getD 0 Ev.zero).seq.toNat, (b.evs.getD 0 Ev.zero).time.toNat].flatMap vbytes ++ recs b.base b.evs = b.body := by
 unfold Bk.body
 rw [if_neg hk, if_neg h, qeg]
 simp
theorem raw10 (b : Bk) : ((#[Value.int .u8 (((b.body.length + 12) % 256 : Nat) : Int), .int .u8 (((b.body.length + 12) / 256 % 256 : Nat) : Int), .int .u8 (((b.body.length + 12) / 65536 % 256 : Nat) : Int), .int .u8 (((b.body.length + 12) / 16777216 % 256 : Nat) : Int), .int .u8 113, .int .u8 116, .int .u8 1, .int .u8 (b.kind : Int)] : Array Value).toList ++ b.body.map B8) = b.raw.map B8 := by
 unfold Bk.raw le4
 rw [Nat.add_comm 12]
 rfl
theorem bk_ok {w w' : World} {b : Bk} {A : Option Addr} {c : Nat} (h : b.err = 0) (ho : w'.ownsRow w.heap.size 5 1 (.slice A (sealL b.raw).length c) (sealL b.raw).length ((sealL b.raw).map B8)) (hc : (sealL b.raw).length ≤ c) (hb : Below w.heap.size w w') :
  qa3 w b.err b.out (.returned (.tuple #[.slice A (sealL b.raw).length c, .int .i64 0])) w' :=
 qa3.as (er := 0) (R := sealL b.raw) ⟨⟨A, c, rfl, ho, hc⟩, hb⟩ h.symm (qwl h).symm
def qwp (w : World) (A0 : Option Addr) (l : List Nat) (q : List Nat × List Nat) (r : Ending) (w' : World) : Prop :=
 (∃ A c X cX, r = .returned (.tuple #[.slice A q.1.length c, .slice X q.2.length cX]) ∧ w'.ownsRow w.heap.size 22 1 (.slice A q.1.length c) q.1.length (q.1.map U64) ∧ q.1.length ≤ c ∧ (∀ v : World, Rd v v.heap.size 1 A0 l.length (l.map B8) → Rd v v.heap.size 1 X q.2.length (q.2.map B8)) ∧ q.2.length ≤ cX) ∧ Below w.heap.size w w'
theorem ql8 {w w' : World} {A0 : Option Addr} {l : List Nat} {q : List Nat × List Nat} {xs rl : List Nat} {A X : Option Addr} {c cX : Nat} (h : q = (xs, rl)) (ho : w'.ownsRow w.heap.size 22 1 (.slice A xs.length c) xs.length (xs.map U64)) (hc : xs.length ≤ c) (hr : ∀ v : World, Rd v v.heap.size 1 A0 l.length (l.map B8) → Rd v v.heap.size 1 X rl.length (rl.map B8)) (hX : rl.length ≤ cX) (hb : Below w.heap.size w w') :
  qwp w A0 l q (.returned (.tuple #[.slice A xs.length c, .slice X rl.length cX])) w' := by
 subst h
 exact ⟨⟨A, c, X, cX, rfl, ho, hc, hr, hX⟩, hb⟩
theorem qxg {w : World} {B c : Nat} {X : Option Addr} {l : List Nat} (h : Rd w B 1 X l.length (l.map B8)) (hc : l.length ≤ c) : Rd w B 1 (if c = (vread l).2.1 then X else X.map (·.add ((vread l).2.1 * 1))) (qc l).length ((qc l).map B8) := by
 have h1 := h.qd4 (i := (vread l).2.1) (j := l.length) (qbc l) (Nat.le_refl _) hc
 rw [List.take_length] at h1
 rw [qby]
 exact h1
theorem qte {m : Nat} {l xs rl : List Nat} (hj : numsR m l = (xs ++ (numsR (m - xs.length) rl).1, (numsR (m - xs.length) rl).2)) (h : m ≤ xs.length) : numsR m l = (xs, rl) := by
 rw [hj, show m - xs.length = 0 by omega]
 simp [numsR]
theorem qvu {m : Nat} {l xs rl : List Nat} (hj : numsR m l = (xs ++ (numsR (m - xs.length) rl).1, (numsR (m - xs.length) rl).2)) (h : xs.length < m) (hb : (vread rl).2.2 ≠ 0) : numsR m l = (xs, rl) := by
 rw [hj, show m - xs.length = (m - xs.length - 1) + 1 by omega, numsR, if_neg hb]
 simp
theorem qtf {m : Nat} {l xs rl : List Nat} (hj : numsR m l = (xs ++ (numsR (m - xs.length) rl).1, (numsR (m - xs.length) rl).2)) (h : xs.length < m) (hb : (vread rl).2.2 = 0) :
  numsR m l = ((xs ++ [(vread rl).1]) ++ (numsR (m - (xs ++ [(vread rl).1]).length) (qc rl)).1, (numsR (m - (xs ++ [(vread rl).1]).length) (qc rl)).2) := by
 rw [hj, show m - xs.length = (m - (xs ++ [(vread rl).1]).length) + 1 by rw [List.length_append, List.length_singleton]; omega, numsR, if_pos hb]
 simp
def qoo (w : World) (b : Bk) (r : Ending) (w' : World) : Prop :=
 (∃ A c, r = .returned (.agg (b.cells A c)) ∧ w'.ownsRow w.heap.size 58 11 (.slice A b.evs.length c) b.evs.length (b.evs.flatMap evL) ∧ b.evs.length ≤ c) ∧ Below w.heap.size w w'
theorem qex {w w' : World} {b : Bk} {k c : Nat} {lo nx : Int} (h : b = ⟨k, c, lo, nx, []⟩) (hb : Below w.heap.size w w') : qoo w b (.returned (.agg #[.int .u8 (k : Int), .int .u8 (c : Int), .int .i64 lo, .int .i64 nx, .slice none 0 0])) w' := by
 subst h
 exact ⟨⟨none, 0, rfl, World.ownsRow_nil _ _ _ _, Nat.le_refl _⟩, hb⟩
theorem qvv {w w' : World} {b : Bk} {k c cA : Nat} {lo nx : Int} {es : List Ev} {A : Option Addr} (h : b = ⟨k, c, lo, nx, es⟩) (ho : w'.ownsRow w.heap.size 58 11 (.slice A es.length cA) es.length (es.flatMap evL)) (hc : es.length ≤ cA) (hb : Below w.heap.size w w') : qoo w b (.returned (.agg #[.int .u8 (k : Int), .int .u8 (c : Int), .int .i64 lo, .int .i64 nx, .slice A es.length cA])) w' := by
 subst h
 exact ⟨⟨A, cA, rfl, ho, hc⟩, hb⟩
def qnk (w : World) (q : Bk × Nat × Nat) (r : Ending) (w' : World) : Prop :=
 (∃ A c, r = .returned (.tuple #[.agg (q.1.cells A c), .int .i64 (q.2.1 : Int), .int .i64 (q.2.2 : Int)]) ∧ w'.ownsRow w.heap.size 58 11 (.slice A q.1.evs.length c) q.1.evs.length (q.1.evs.flatMap evL) ∧ q.1.evs.length ≤ c) ∧ Below w.heap.size w w'
theorem qcg {w w' : World} {q : Bk × Nat × Nat} {er : Nat} (h : q = (Bk.zero, 0, er)) (hb : Below w.heap.size w w') : qnk w q (.returned (.tuple #[.agg #[.int .u8 0, .int .u8 0, .int .i64 0, .int .i64 0, .slice none 0 0], .int .i64 0, .int .i64 (er : Int)])) w' := by
 subst h
 exact ⟨⟨none, 0, rfl, World.ownsRow_nil _ _ _ _, Nat.le_refl _⟩, hb⟩
theorem qop {w w' : World} {q : Bk × Nat × Nat} {b : Bk} {m c : Nat} {A : Option Addr} (h : q = (b, m, 0)) (ho : w'.ownsRow w.heap.size 58 11 (.slice A b.evs.length c) b.evs.length (b.evs.flatMap evL)) (hc : b.evs.length ≤ c) (hb : Below w.heap.size w w') : qnk w q (.returned (.tuple #[.agg (b.cells A c), .int .i64 (m : Int), .int .i64 0])) w' := by
 subst h
 exact ⟨⟨A, c, rfl, ho, hc⟩, hb⟩
theorem qwq {q : Bk} {l : List Nat} (he : q.err = 0) : (!decide (q.raw = l)) = decide (q.err ≠ 0 ∨ q.raw ≠ l) := by
 rw [Bool.eq_iff_iff, Bool.not_eq_true', decide_eq_false_iff_not, decide_eq_true_eq]
 exact ⟨.inr, fun h => h.elim (fun h => absurd he h) id⟩
theorem qvw {l : List Nat} (h : (lenR l).2 ≠ 0) : refB l = (Bk.zero, 0, (lenR l).2) := by unfold refB; rw [if_pos h]
theorem qc0 {l L : List Nat} {e : Nat} (h : (lenR l).2 = 0) (hL : L = l.take (lenR l).1) (hb : refOf L = (none, e)) : refB l = (Bk.zero, 0, e) := by unfold refB; rw [if_neg (by omega), ← hL, hb]
theorem ql9 {l L : List Nat} {b : Bk} {e : Nat} (h : (lenR l).2 = 0) (hL : L = l.take (lenR l).1) (hb : refOf L = (some b, e)) : refB l = (b, (lenR l).1, 0) := by unfold refB; rw [if_neg (by omega), ← hL, hb]
theorem qma {k : Nat} {l : List Nat} {n : Int} (h : k = 2) (hn : n = if (numsR 1 l).1.length = 1 then wrap64 ((numsR 1 l).1.getD 0 0 : Int) else 0) : loose k l = ⟨k, 0, 0, n, []⟩ := by
 subst h; subst hn; unfold loose looseEnd; rw [if_pos rfl]
theorem qtg {k : Nat} {l : List Nat} (h : k ≠ 2) (hn : (numsR 3 l).1.length < 3) : loose k l = ⟨k, 0, 0, 0, []⟩ := by
 unfold loose qdy; rw [if_neg h, if_pos hn]
theorem qf6 {k : Nat} {l : List Nat} {es : List Ev} (h : k ≠ 2) (hn : ¬ (numsR 3 l).1.length < 3) (he : es = qav ((numsR 3 l).1.getD 0 0 % 256) ((numsR 3 l).1.getD 2 0) (numsR 3 l).2) :
  loose k l = ⟨k, (numsR 3 l).1.getD 0 0 % 256, wrap64 ((numsR 3 l).1.getD 1 0 : Int), 0, es⟩ := by
 subst he; unfold loose qdy; rw [if_neg h, if_neg hn]
theorem qdz {cpu n : Nat} {l : List Nat} (h : ¬ (0 < n ∧ n ≤ 4096 ∧ (numsR 2 l).1.length = 2)) : [] = qav cpu n l := by unfold qav; rw [if_neg h]
theorem qko {cpu n : Nat} {l : List Nat} (h : 0 < n ∧ n ≤ 4096 ∧ (numsR 2 l).1.length = 2) : (readR ⟨wrap64 ((numsR 2 l).1.getD 0 0 : Int), wrap64 ((numsR 2 l).1.getD 1 0 : Int)⟩ cpu n (numsR 2 l).2).1 = qav cpu n l := by unfold qav; rw [if_pos h]
theorem qjj (cpu : Nat) : ∀ (n : Nat) (b : Bs) (p : Option Ev) (l : List Nat), (zc cpu n b p l).1.length ≤ n
 | 0, _, _, _ => Nat.le_refl _
 | n + 1, b, p, l => by
  rw [zc]
  split
  ·exact Nat.zero_le _
  ·split
   ·exact Nat.zero_le _
   ·split
    ·exact Nat.zero_le _
    ·show (_ :: _).length ≤ _
     rw [List.length_cons]
     exact Nat.succ_le_succ (qjj cpu n _ _ _)
theorem qth (b : Bs) (cpu n : Nat) (l : List Nat) : (readR b cpu (n : Int) l).1.length ≤ n := by
 unfold readR
 split
 ·exact Nat.zero_le _
 ·split
  ·exact Nat.zero_le _
  ·exact qjj cpu _ _ _ _
theorem qdg : ∀ (m : Nat) (l : List Nat), (numsR m l).2.length ≤ l.length
 | 0, l => Nat.le_refl _
 | m + 1, l => by
  rw [numsR]
  split
  ·exact Nat.le_trans (qdg m _) (qcz l)
  ·exact Nat.le_refl _
def updUp {α : Type} (f : α → α) (l : List α) (k : Nat) : List α := (l.take k).map f ++ l.drop k
theorem qik {α : Type} (f : α → α) (l : List α) (k : Nat) : (updUp f l k).length = l.length := by
 unfold updUp
 rw [List.length_append, List.length_map, List.length_take, List.length_drop]
 omega
theorem qjt {α : Type} (f : α → α) (l : List α) : updUp f l 0 = l := by simp [updUp]
theorem qo5 {α : Type} (f : α → α) (l : List α) {k : Nat} (d : α) (h : k < l.length) : (updUp f l k)[k]? = some (l.getD k d) := by
 unfold updUp
 rw [List.getElem?_append_right (by rw [List.length_map, List.length_take]; omega), List.length_map, List.length_take, Nat.min_eq_left (by omega), Nat.sub_self, List.getElem?_drop, List.getD_eq_getElem?_getD, Nat.add_zero, List.getElem?_eq_getElem h]
 rfl
theorem qqi {α : Type} (f : α → α) (l : List α) {k : Nat} (d : α) (h : k < l.length) : (updUp f l k).getD k d = l.getD k d := by
 rw [List.getD_eq_getElem?_getD, qo5 f l d h]; rfl
theorem qju {α : Type} (f : α → α) (l : List α) {k : Nat} (d : α) (h : k < l.length) : (updUp f l k).set k (f (l.getD k d)) = updUp f l (k + 1) := by
 unfold updUp
 have hk : (l.take k).length = k := by rw [List.length_take]; omega
 have hd : l.drop k = l.getD k d :: l.drop (k + 1) := by
  rw [List.getD_eq_getElem?_getD, List.getElem?_eq_getElem h]
  exact List.drop_eq_getElem_cons h
 have ht : l.take (k + 1) = l.take k ++ [l.getD k d] := by
  rw [List.take_succ_eq_append_getElem h, List.getD_eq_getElem?_getD, List.getElem?_eq_getElem h]
  rfl
 rw [List.set_append, if_neg (by rw [List.length_map]; omega), List.length_map, hk, Nat.sub_self, hd, List.set_cons_zero, ht, List.map_append, List.append_assoc]
 rfl
def qhf (e : Ev) : Ev := { e with seq := -1 }
theorem qqj (e : Ev) : evL (qhf e) = (evL e).set 0 (.int .i64 (-1)) := rfl
def incB (x : Nat) : Nat := (x + 1) % 256
theorem qnu {l : List Ev} {k : Nat} (h : k < l.length) : (l.take (k + 1)).flatMap evL = (l.take k).flatMap evL ++ evL (l.getD k Ev.zero) := by
 rw [List.take_succ_eq_append_getElem h, List.getD_eq_getElem?_getD, List.getElem?_eq_getElem h, List.flatMap_append]
 simp
theorem qxm (l : List Ev) : ∀ v ∈ l.flatMap evL, v.oneCell' = true := by
 intro v hv
 obtain ⟨e, _, hv⟩ := List.mem_flatMap.1 hv
 exact zn e v hv
def qyv (w : World) (b : Bk) (r : Ending) (w' : World) : Prop :=
 (∃ A c, r = .returned (.agg (b.cells A c)) ∧ w'.ownsRow w.heap.size 24 11 (.slice A b.evs.length c) b.evs.length (b.evs.flatMap evL) ∧ b.evs.length ≤ c) ∧ Below w.heap.size w w'
structure Kc where
 b : Bk
 A : Option Addr
 c : Nat
def Kc.zero : Kc := ⟨Bk.zero, none, 0⟩
def kcL (x : Kc) : List Value := (x.b.cells x.A x.c).toList
theorem qxp (x : Kc) : (kcL x).length = 5 := rfl
theorem qyw : EI Tryz.prog 32 28 (.agg #[.int .u8 0, .int .u8 0, .int .i64 0, .int .i64 0, .slice none 0 0]) 5 48 := ⟨by kernel_rfl, by kernel_rfl, rfl, by omega⟩
theorem qxq : EI Tryz.prog 42 9 (.string (ByteArray.mk #[])) 1 16 := ⟨by kernel_rfl, by kernel_rfl, rfl, by omega⟩
theorem qnw : EI Tryz.prog 29 3 (.int .i64 0) 1 8 := ⟨by kernel_rfl, by kernel_rfl, rfl, by omega⟩
theorem bkOk {k c : Nat} {lo nx : Int} {es : List Ev} (hk : k < 256) (hc : c < 256) (hl : I64 lo) (hn : I64 nx) (he : ∀ e ∈ es, e.Ok) : Bk.Ok ⟨k, c, lo, nx, es⟩ := ⟨hk, hc, hl, hn, he⟩
theorem evOk {s t : Int} {c k : Nat} (hs : I64 s) (ht : I64 t) (hc : c < 256) (hk : k < 256) : Ev.Ok { Ev.zero with seq := s, time := t, cpu := c, kind := k } :=
 have z : I64 0 := ⟨by decide, by decide⟩
 ⟨hs, ht, hc, hk, z, z, z, z, z, by show (0 : Nat) < 18446744073709551616; decide, z⟩
def pickB : Ev := { Ev.zero with seq := 9, time := 340, cpu := 2, kind := 6 }
def numB (n : Int) : Ev := { Ev.zero with seq := n, time := n, cpu := 2, kind := 6 }
def oneB : Bk := ⟨1, 2, 300, 0, [tickE, pickB]⟩
theorem qml : ∀ e ∈ [tickE, pickB], e.Ok := by
 intro e he
 simp only [List.mem_cons, List.not_mem_nil, or_false] at he
 rcases he with rfl | rfl
 ·exact qsv
 ·exact evOk (by unfold I64; decide) (by unfold I64; decide) (by decide) (by decide)
theorem qyx {n : Int} (h : I64 n) : ∀ e ∈ [numB n, tickE], e.Ok := by
 intro e he
 simp only [List.mem_cons, List.not_mem_nil, or_false] at he
 rcases he with rfl | rfl
 ·exact evOk h h (by decide) (by decide)
 ·exact qsv
theorem noEvs : ∀ e ∈ ([] : List Ev), e.Ok := fun _ h => by cases h
theorem qnx : oneB.Ok := bkOk (by decide) (by decide) (by unfold I64; decide) (by unfold I64; decide) qml
def qcj : List Int := [-9223372036854775808, -1, 0, 1, 2, 63, 64, 127, 128, 281474976710655, 281474976710656, 281474976710657, 281474976710658, 9223372036854775807]
theorem qny (k : Nat) : I64 (qcj.getD k 0) := by
 by_cases h : k < 14
 ·have : ∀ k, k < 14 → (-9223372036854775808 ≤ qcj.getD k 0 ∧ qcj.getD k 0 ≤ 9223372036854775807) := by decide
  exact this k h
 ·rw [List.getD_eq_getElem?_getD, List.getElem?_eq_none (by show 14 ≤ k; omega)]
  unfold I64; decide
theorem qtz {n : Int} : Value.int .u8 (Go.IntKind.u8.wrap n) = .int .u8 (((n % 256).toNat : Nat) : Int) := by
 rw [Go.IntKind.wrap_u8]; congr 1; omega
def six : List Nat := [0, 1, 2, 64, 128, 255]
theorem qyy : ∀ b ∈ six, b < 256 := by decide
def StrB (l : List Nat) : Value := .string (bstr l)
def qek : List (List Nat) := [[113, 116, 1, 1], [113, 116, 1, 2], [113, 116, 1, 3], [113, 116, 2, 1], [81, 116, 1, 1], [113, 84, 2, 3], [113, 116, 0, 0], [116, 113, 1, 2]]
theorem qt0 {k : Nat} (h : k < 8) : (qek.getD k []).length = 4 ∧ ∀ b ∈ qek.getD k [], b < 256 := by
 have : ∀ k, k < 8 → ((qek.getD k []).length = 4 ∧ ∀ b ∈ qek.getD k [], b < 256) := by decide
 exact this k h
def lev (k : Nat) : Ev := { Ev.zero with seq := ((1 + k : Nat) : Int), cpu := 1, kind := 6 }
def longE (k : Nat) : List Ev := (List.range k).map lev
theorem qgc (k : Nat) : (longE k).length = k := by unfold longE; rw [List.length_map, List.length_range]
theorem qqo (k : Nat) : (longE (k + 1)).flatMap evL = (longE k).flatMap evL ++ evL (lev k) := by unfold longE; rw [List.range_succ, List.map_append, List.flatMap_append]; simp
theorem qo6 {k : Nat} (h : k ≤ 1100) : ∀ e ∈ longE k, e.Ok := by
 intro e he
 obtain ⟨i, hi, rfl⟩ := List.mem_map.1 he
 have := List.mem_range.1 hi
 exact evOk (by unfold I64; omega) (by unfold I64; decide) (by decide) (by decide)
theorem qfj (n : Nat) : ∀ e ∈ (longE 1100).take n, e.Ok := fun e he => qo6 (Nat.le_refl _) e (List.mem_of_mem_take he)
theorem qmm {n : Nat} (h : n ≤ 1100) : ((longE 1100).take n).length = n := by rw [List.length_take, qgc]; omega
def nine : List Nat := [127, 128, 1016, 1017, 1018, 1019, 1020, 1021, 1100]
theorem qxr : ∀ b ∈ nine, b < 1101 := by decide
def five : List Nat := [1, 128, 16384, 2097152, 281474976710656]
theorem qxs : ∀ b ∈ five, b < 281474976710657 := by decide
theorem qaj {a b : List Nat} (ha : ∀ x ∈ a, x < 256) (hb : ∀ x ∈ b, x < 256) : ∀ x ∈ a ++ b, x < 256 := fun x hx => (List.mem_append.1 hx).elim (ha x) (hb x)
theorem qo7 {c : Nat} (h : c < 256) : ∀ x ∈ [c], x < 256 := by intro x hx; simp at hx; omega
theorem qt1 {a : List Nat} {k c : Nat} (ha : ∀ x ∈ a, x < 256) (h : c < 256) : ∀ x ∈ a.set k c, x < 256 := fun x hx => (List.mem_or_eq_of_mem_set hx).elim (ha x) (fun e => by omega)
def blks (g : Nat) : List Kc := [⟨oneB, some ⟨g, 0, none⟩, 2⟩, ⟨⟨2, 0, 0, 130, []⟩, none, 0⟩, ⟨⟨1, 1, 1, 0, []⟩, none, 0⟩]
structure Small3 (b : Bk) : Prop where
 ok : b.Ok
 fits : b.fits = true
 few : b.evs.length ≤ 2
theorem fits1 : oneB.fits = true := by decide +kernel
theorem fits2 : Bk.fits ⟨2, 0, 0, 130, []⟩ = true := by decide +kernel
theorem fits3 : Bk.fits ⟨1, 1, 1, 0, []⟩ = true := by decide +kernel
theorem qxt (g : Nat) : ∀ y ∈ blks g, Small3 y.b := by
 intro y hy
 simp only [blks, List.mem_cons, List.not_mem_nil, or_false] at hy
 rcases hy with rfl | rfl | rfl
 ·exact ⟨qnx, fits1, by show 2 ≤ 2; decide⟩
 ·exact ⟨bkOk (by decide) (by decide) (by unfold I64; decide) (by unfold I64; decide) noEvs, fits2, Nat.zero_le _⟩
 ·exact ⟨bkOk (by decide) (by decide) (by unfold I64; decide) (by unfold I64; decide) noEvs, fits3, Nat.zero_le _⟩
theorem Small3.len {b : Bk} (h : Small3 b) : 9 ≤ b.raw.length ∧ b.raw.length ≤ 1000 := by
 have h1 := qvl b
 have h2 := qa4 b
 have h3 := h.few
 rw [qbn]
 omega
theorem qxu {W : World} {B g : Nat} (h : Rd W B 11 (some ⟨g, 0, none⟩) 2 ([tickE, pickB].flatMap evL)) : ∀ y ∈ blks g, Rd W B 11 y.A y.b.evs.length (y.b.evs.flatMap evL) := by
 intro y hy
 simp only [blks, List.mem_cons, List.not_mem_nil, or_false] at hy
 rcases hy with rfl | rfl | rfl
 ·exact h
 ·exact Rd.nil
 ·exact Rd.nil
section
variable {W w : World} {fs : List Fact}
theorem Mem.asBlk (h : Mem W w fs) {i g : Nat} {cs ds : Array Value} {t : TypeId} (hi : fs[i]? = some (.blk g cs t)) (he : cs = ds) : Mem W w (fs.set i (.blk g ds t)) := by
 subst he
 obtain ⟨hl, h2⟩ := List.getElem?_eq_some_iff.1 hi
 rw [← h2, List.set_getElem_self]
 exact h
end
theorem qd1 (b : Bs) (w : World) : Calls Tryz.prog 43 #[.agg b.cells] w (BoolPost w b.right) := by
 refine qg (vs := [.agg b.cells]) Tryz.func43 rfl rfl (by kernel_rfl) (σ0 := [(0, .agg b.cells)]) rfl ?_
 intro a HF
 have HM := Mem.start w
 refine wp_seq (qa ?_)
 refine fo HF 0 rfl rfl ?_
 refine e_box HF HM (cs := b.cells) rfl rfl rfl rfl (by decide) ?_
 clear HF HM; intro a w1 g1 HF HM
 refine fp HF 1 1 [(2, .bool false)] fun a HF => ?_
 refine qb rfl (wp_seq (qa ?_))
 refine fp HF 1 0 [(3, vP g1 0)] fun a HF => ?_
 refine fy HF HM 1 rfl rfl rfl (v := vI b.seq) (Yl.qh rfl rfl (by kernel_rfl) (fun _ h => h.cell (i := 0) rfl (rfl))) fun a HF => ?_
 refine fp HF 2 2 [(6, .bool (decide ((b.seq : Int) ≥ (1 : Int))))] fun a HF => ?_
 rcases HF.tf 6 rfl with ⟨hb6, HF⟩ | ⟨hb6, HF⟩
 ·
  refine fp HF 1 4 [(7, vP g1 0)] fun a HF => ?_
  refine fy HF HM 5 rfl rfl rfl (v := vI b.seq) (Yl.qh rfl rfl (by kernel_rfl) (fun _ h => h.cell (i := 0) rfl (rfl))) fun a HF => ?_
  refine fp HF 3 6 [(11, .bool (decide ((b.seq : Int) ≤ (281474976710656 : Int))))] fun a HF => ?_
  rcases HF.tf 11 rfl with ⟨hb11, HF⟩ | ⟨hb11, HF⟩
  ·
   refine fp HF 1 9 [(12, vP g1 1)] fun a HF => ?_
   refine fy HF HM 10 rfl rfl rfl (v := vI b.time) (Yl.qh rfl rfl (by kernel_rfl) (fun _ h => h.cell (i := 0) rfl (rfl))) fun a HF => ?_
   refine fp HF 3 11 [(16, .bool (decide ((b.time : Int) ≥ (0 : Int))))] fun a HF => ?_
   rcases HF.tf 16 rfl with ⟨hb16, HF⟩ | ⟨hb16, HF⟩
   ·
    refine fp HF 1 14 [(17, vP g1 1)] fun a HF => ?_
    refine fy HF HM 15 rfl rfl rfl (v := vI b.time) (Yl.qh rfl rfl (by kernel_rfl) (fun _ h => h.cell (i := 0) rfl (rfl))) fun a HF => ?_
    refine fp HF 3 16 [(2, .bool (decide ((b.time : Int) ≤ (281474976710656 : Int))))] fun a HF => ?_
    refine qb rfl (wp_ret ?_)
    replace HM := HM.picks (fs' := []) [] (by decide) rfl
    exact ret1 rfl HF (.tmp HF rfl) (⟨congrArg (fun b => Ending.returned (.bool b)) (by unfold Bs.right; rw [Bool.eq_iff_iff]; (try simp at hb6); (try simp at hb11); (try simp at hb16); (try simp); (try omega)), HM.below⟩)
   refine fp HF 5 14 [(2, .bool false)] fun a HF => ?_
   refine qb rfl (wp_ret ?_)
   replace HM := HM.picks (fs' := []) [] (by decide) rfl
   exact ret1 rfl HF (.tmp HF rfl) (⟨congrArg (fun b => Ending.returned (.bool b)) (by unfold Bs.right; rw [Bool.eq_iff_iff]; (try simp at hb6); (try simp at hb11); (try simp at hb16); (try simp); (try omega)), HM.below⟩)
  refine fp HF 10 9 [(2, .bool false)] fun a HF => ?_
  refine qb rfl (wp_ret ?_)
  replace HM := HM.picks (fs' := []) [] (by decide) rfl
  exact ret1 rfl HF (.tmp HF rfl) (⟨congrArg (fun b => Ending.returned (.bool b)) (by unfold Bs.right; rw [Bool.eq_iff_iff]; (try simp at hb6); (try simp at hb11); (try simp); (try omega)), HM.below⟩)
 refine fp HF 15 4 [(2, .bool false)] fun a HF => ?_
 refine qb rfl (wp_ret ?_)
 replace HM := HM.picks (fs' := []) [] (by decide) rfl
 exact ret1 rfl HF (.tmp HF rfl) (⟨congrArg (fun b => Ending.returned (.bool b)) (by unfold Bs.right; rw [Bool.eq_iff_iff]; (try simp at hb6); (try simp); (try omega)), HM.below⟩)
theorem qts {x y : Int} (h : y ≤ x) (h2 : x - y < 9223372036854775808) : IntKind.u64.wrap (IntKind.i64.wrap (x - y)) = ((x - y).toNat : Int) := by
 rw [IntWalk.i64_in _ (by omega), IntKind.wrap_u64]; omega
theorem qii {b : Bs} {e : Ev} (h : e.check = 0) (h2 : b.right = true ∧ b.behind e = true) : zh b e = 0 := by unfold zh; rw [if_neg (by simp [h]), if_pos h2]
theorem qfh {b : Bs} {e : Ev} (h : e.check = 0) (h2 : b.right = true ∧ b.behind e = true) : qai b e = zk b e := by unfold qai; rw [if_pos (qii h h2)]
theorem qct {b : Bs} {e : Ev} (h : zh b e ≠ 0) : qai b e = [] := by unfold qai; rw [if_neg h]
theorem qxl {e : Ev} (he : e.Ok) : ∀ x ∈ e.vals, x < 18446744073709551616 := by
 intro x hx
 unfold Ev.vals at hx
 obtain ⟨i, _, rfl⟩ := List.mem_map.1 hx
 have h1 := he.task.2; have h2 := he.group.2; have h3 := he.to.2; have h4 := he.weight.2; have h5 := he.ticks.2; have h6 := he.mask; have h7 := he.got.2
 unfold Ev.fld
 split <;> omega
theorem qtt (b : Bs) (e : Ev) (he : e.Ok) (w : World) : Calls Tryz.prog 44 #[.agg b.cells, .agg e.cells] w (qa3 w (zh b e) (qai b e)) := by
 refine qg (vs := [.agg b.cells, .agg e.cells]) Tryz.func44 rfl rfl (by kernel_rfl) (σ0 := [(0, .agg b.cells), (1, .agg e.cells)]) rfl ?_
 intro a HF
 have HM := Mem.start w
 refine wp_seq (qa ?_)
 refine fo HF 0 rfl rfl ?_
 refine e_box HF HM (cs := b.cells) rfl rfl rfl rfl (by decide) ?_
 clear HF HM; intro a w2 g2 HF HM
 refine fo HF 1 rfl rfl ?_
 refine e_box HF HM (cs := e.cells) rfl rfl rfl rfl (by decide) ?_
 clear HF HM; intro a w3 g3 HF HM
 refine fp HF 2 2 [(5, vI 0), (4, .slice none 0 0)] fun a HF => ?_
 refine qb rfl (wp_seq (qa ?_))
 refine fy HF HM 0 rfl rfl rfl (v := .agg e.cells) (Yl.qx rfl rfl ⟨(by kernel_rfl), (by kernel_rfl)⟩ rfl (fun _ h => qd (h.blk (i := 0) rfl))) fun a HF => ?_
 refine fo HF 1 rfl rfl ?_
 refine e_cl HF [.agg e.cells] rfl rfl (qlx e he _) ?_
 rintro _ w12 ⟨⟨v, rfl, ho⟩, hbw⟩
 obtain ⟨A12, c12, rfl, hc12⟩ := qaq ho
 refine ⟨_, rfl, ?_⟩
 replace HM := HM.callRow hbw ho
 clear HF; intro a HF
 refine fp HF 5 2 [(7, vI e.check), (6, .slice A12 e.ze.length c12)] fun a HF => ?_
 refine qb rfl (wp_seq (wp_seq (qa ?_)))
 refine fp HF 2 0 [(16, .bool ((e.check : Int) != (0 : Int)))] fun a HF => ?_
 refine qb rfl ?_
 rcases HF.tf 16 rfl with ⟨hb16, HF⟩ | ⟨hb16, HF⟩
 ·
  have hbad : e.check ≠ 0 := by rw [bne_iff_ne] at hb16; omega
  refine qf HF rfl (wp_seq (qa ?_))
  refine fp HF 3 0 [(5, vI e.check), (4, .slice none 0 0)] fun a HF => ?_
  refine qb rfl (wp_ret ?_)
  exact ret2 rfl HF (.tmp HF rfl) (.tmp HF rfl) (⟨⟨none, 0, by rw [qct (by rw [show zh b e = e.check from by unfold zh; rw [if_pos hbad]]; exact hbad), show zh b e = e.check from by unfold zh; rw [if_pos hbad]]; rfl, by rw [qct (by rw [show zh b e = e.check from by unfold zh; rw [if_pos hbad]]; exact hbad)]; exact World.ownsRow_nil _ _ _ _, by rw [qct (by rw [show zh b e = e.check from by unfold zh; rw [if_pos hbad]]; exact hbad)]; exact Nat.le_refl _⟩, HM.below⟩)
 have hgood : e.check = 0 := by rw [bne_eq_false_iff_eq] at hb16; omega
 have hov : e.ze = e.vals := by unfold Ev.ze; rw [if_pos hgood]
 obtain ⟨_, _, _, q1, q2, q3, q4⟩ := qba hgood
 have hvl := qfo e
 rw [← hov] at hvl
 have hx64 := qxl he
 refine qe HF rfl (wp_skip (wp_seq ?_))
 refine qam (fun aS wS => Fr aS 70 [] [(34, .bool (!(b.right && b.behind e))), (16, .bool false), (7, vI e.check), (6, .slice A12 e.ze.length c12), (5, vI 0), (4, .slice none 0 0), (3, vP g3 0), (2, vP g2 0)] ∧ Mem w wS [.row (.slice A12 e.ze.length c12) e.ze.length (e.ze.map U64) 22 1, .blk g3 e.cells 58, .blk g2 b.cells 61]) ?_ ?_
 ·
  refine qa ?_
  refine fy HF HM 0 rfl rfl rfl (v := .agg b.cells) (Yl.qx rfl rfl ⟨(by kernel_rfl), (by kernel_rfl)⟩ rfl (fun _ h => qd (h.blk (i := 2) rfl))) fun a HF => ?_
  refine fo HF 1 rfl rfl ?_
  refine e_cl HF [.agg b.cells] rfl rfl (qd1 b _) ?_
  rintro _ w19 ⟨rfl, hbw⟩
  refine ⟨_, rfl, ?_⟩
  replace HM := HM.call hbw
  clear HF; intro a HF
  refine fp HF 2 2 [(21, .bool (!b.right))] fun a HF => ?_
  rcases HF.tf 21 rfl with ⟨hb21, HF⟩ | ⟨hb21, HF⟩
  ·
   refine fp HF 13 4 [(34, .bool true)] fun a HF => ?_
   refine qb rfl ?_
   have HF := HF.as (t := 34) (u := .bool (!(b.right && b.behind e))) rfl (congrArg Value.bool (by unfold Bs.behind; (try simp at hb16); (try simp at hb21); rw [Bool.eq_iff_iff]; (try simp [hb16, hb21]); (try omega)))
   exact ⟨HF.sub (by kernel_rfl), HM.picks [0, 1, 2] (by decide) rfl⟩
  refine fp HF 1 4 [(22, vP g3 0)] fun a HF => ?_
  refine fy HF HM 5 rfl rfl rfl (v := vI e.seq) (Yl.qh rfl rfl (by kernel_rfl) (fun _ h => h.cell (i := 1) rfl (rfl))) fun a HF => ?_
  refine fp HF 1 6 [(24, vP g2 0)] fun a HF => ?_
  refine fy HF HM 7 rfl rfl rfl (v := vI b.seq) (Yl.qh rfl rfl (by kernel_rfl) (fun _ h => h.cell (i := 2) rfl (rfl))) fun a HF => ?_
  refine fp HF 3 8 [(28, .bool (decide ((e.seq : Int) < (b.seq : Int))))] fun a HF => ?_
  rcases HF.tf 28 rfl with ⟨hb28, HF⟩ | ⟨hb28, HF⟩
  ·
   refine fp HF 6 11 [(34, .bool true)] fun a HF => ?_
   refine qb rfl ?_
   have HF := HF.as (t := 34) (u := .bool (!(b.right && b.behind e))) rfl (congrArg Value.bool (by unfold Bs.behind; (try simp at hb16); (try simp at hb21); (try simp at hb28); rw [Bool.eq_iff_iff]; (try simp [hb16, hb21, hb28]); (try omega)))
   exact ⟨HF.sub (by kernel_rfl), HM.picks [0, 1, 2] (by decide) rfl⟩
  refine fp HF 1 11 [(29, vP g3 1)] fun a HF => ?_
  refine fy HF HM 12 rfl rfl rfl (v := vI e.time) (Yl.qh rfl rfl (by kernel_rfl) (fun _ h => h.cell (i := 1) rfl (rfl))) fun a HF => ?_
  refine fp HF 1 13 [(31, vP g2 1)] fun a HF => ?_
  refine fy HF HM 14 rfl rfl rfl (v := vI b.time) (Yl.qh rfl rfl (by kernel_rfl) (fun _ h => h.cell (i := 2) rfl (rfl))) fun a HF => ?_
  refine fp HF 2 15 [(34, .bool (decide ((e.time : Int) < (b.time : Int))))] fun a HF => ?_
  refine qb rfl ?_
  have HF := HF.as (t := 34) (u := .bool (!(b.right && b.behind e))) rfl (congrArg Value.bool (by unfold Bs.behind; (try simp at hb16); (try simp at hb21); (try simp at hb28); rw [Bool.eq_iff_iff]; (try simp [hb16, hb21, hb28]); (try omega)))
  exact ⟨HF.sub (by kernel_rfl), HM.picks [0, 1, 2] (by decide) rfl⟩
 clear HF HM; rintro a w4 ⟨HF, HM⟩
 rcases HF.tf 34 rfl with ⟨hb34, HF⟩ | ⟨hb34, HF⟩
 ·
  have hrb : ¬ (b.right = true ∧ b.behind e = true) := by intro h; rw [h.1, h.2] at hb34; cases hb34
  refine qf HF rfl (wp_seq (qa ?_))
  refine fp HF 2 0 [(5, vI 70), (4, .slice none 0 0)] fun a HF => ?_
  refine qb rfl (wp_ret ?_)
  exact ret2 rfl HF (.tmp HF rfl) (.tmp HF rfl) (⟨⟨none, 0, by rw [qct (by rw [show zh b e = 70 from by unfold zh; rw [if_neg (by simp [hgood]), if_neg hrb]]; decide), show zh b e = 70 from by unfold zh; rw [if_neg (by simp [hgood]), if_neg hrb]]; rfl, by rw [qct (by rw [show zh b e = 70 from by unfold zh; rw [if_neg (by simp [hgood]), if_neg hrb]]; decide)]; exact World.ownsRow_nil _ _ _ _, by rw [qct (by rw [show zh b e = 70 from by unfold zh; rw [if_neg (by simp [hgood]), if_neg hrb]]; decide)]; exact Nat.le_refl _⟩, HM.below⟩)
 have hrb : b.right = true ∧ b.behind e = true := by simpa using hb34
 have hbr := hrb.1
 have hbb := hrb.2
 unfold Bs.right at hbr
 unfold Bs.behind at hbb
 simp only [decide_eq_true_eq] at hbr hbb
 refine qe HF rfl (wp_skip (wp_seq (qa ?_)))
 refine fp HF 1 0 [(35, vP g3 3)] fun a HF => ?_
 refine fy HF HM 1 rfl rfl rfl (v := vB e.kind) (Yl.qh rfl rfl (by kernel_rfl) (fun _ h => h.cell (i := 1) rfl (rfl))) fun a HF => ?_
 refine fo HF 2 rfl rfl ?_
 refine qp HF HM (vs := [(0, vB e.kind)]) (cs := #[vB e.kind]) rfl ei_u8 (by decide) rfl (by kernel_rfl) rfl (by decide) ?_
 clear HF HM; intro a w37 g37 HF HM
 refine fp HF 1 3 [(8, vS g37 1 1)] fun a HF => ?_
 refine qb rfl (wp_seq (qa ?_))
 refine fp HF 2 0 [(39, vP g3 0), (38, vS g37 1 1)] fun a HF => ?_
 refine fy HF HM 2 rfl rfl rfl (v := vI e.seq) (Yl.qh rfl rfl (by kernel_rfl) (fun _ h => h.cell (i := 2) rfl (rfl))) fun a HF => ?_
 refine fp HF 1 3 [(41, vP g2 0)] fun a HF => ?_
 refine fy HF HM 4 rfl rfl rfl (v := vI b.seq) (Yl.qh rfl rfl (by kernel_rfl) (fun _ h => h.cell (i := 3) rfl (rfl))) fun a HF => ?_
 refine fp HF 2 5 [(44, vQ (IntKind.u64.wrap (IntKind.i64.wrap (e.seq - b.seq))))] fun a HF => ?_
 replace HF := HF.sp 44 (vQ ((e.seq - b.seq).toNat)) rfl (by rw [qts (by omega) (by omega)])
 refine fo HF 7 rfl rfl ?_
 refine e_cl HF [vQ ((e.seq - b.seq).toNat)] rfl rfl (qd0 ((e.seq - b.seq).toNat) _ (by omega)) ?_
 rintro _ w45 ⟨v, rfl, ho, hbw⟩
 obtain ⟨A45, c45, rfl, hc45⟩ := qaq ho
 have hl45 := qr ((e.seq - b.seq).toNat)
 refine ⟨_, rfl, ?_⟩
 replace HM := HM.callRow hbw ho
 clear HF; intro a HF
 refine fo HF 8 rfl rfl ?_
 replace HM := HM.blkRow (i := 1) (n := 1) (size := 1) rfl rfl (by decide)
 refine qs HF HM (i := 1) rfl ei_u8 rfl rfl rfl (news := ((vbytes ((e.seq - b.seq).toNat)).map B8)) (HM.rd (i := 0) rfl) (qaa _) (by omega) (by omega) rfl (by decide) ?_
 clear HF HM; intro a w46 A46 c46 HF HM hc46
 refine fp HF 1 9 [(8, .slice A46 (1 + ((vbytes ((e.seq - b.seq).toNat)).length)) c46)] fun a HF => ?_
 refine qb rfl (wp_seq (qa ?_))
 refine fp HF 2 0 [(48, vP g3 1), (47, .slice A46 (1 + ((vbytes ((e.seq - b.seq).toNat)).length)) c46)] fun a HF => ?_
 refine fy HF HM 2 rfl rfl rfl (v := vI e.time) (Yl.qh rfl rfl (by kernel_rfl) (fun _ h => h.cell (i := 3) rfl (rfl))) fun a HF => ?_
 refine fp HF 1 3 [(50, vP g2 1)] fun a HF => ?_
 refine fy HF HM 4 rfl rfl rfl (v := vI b.time) (Yl.qh rfl rfl (by kernel_rfl) (fun _ h => h.cell (i := 4) rfl (rfl))) fun a HF => ?_
 refine fp HF 2 5 [(53, vQ (IntKind.u64.wrap (IntKind.i64.wrap (e.time - b.time))))] fun a HF => ?_
 replace HF := HF.sp 53 (vQ ((e.time - b.time).toNat)) rfl (by rw [qts (by omega) (by omega)])
 refine fo HF 7 rfl rfl ?_
 refine e_cl HF [vQ ((e.time - b.time).toNat)] rfl rfl (qd0 ((e.time - b.time).toNat) _ (by omega)) ?_
 rintro _ w54 ⟨v, rfl, ho, hbw⟩
 obtain ⟨A54, c54, rfl, hc54⟩ := qaq ho
 have hl54 := qr ((e.time - b.time).toNat)
 refine ⟨_, rfl, ?_⟩
 replace HM := HM.callRow hbw ho
 clear HF; intro a HF
 refine fo HF 8 rfl rfl ?_
 refine qs HF HM (i := 2) rfl ei_u8 rfl rfl rfl (news := ((vbytes ((e.time - b.time).toNat)).map B8)) (HM.rd (i := 0) rfl) (qaa _) (by omega) (by omega) rfl (by decide) ?_
 clear HF HM; intro a w55 A55 c55 HF HM hc55
 refine fp HF 1 9 [(8, .slice A55 ((1 + ((vbytes ((e.seq - b.seq).toNat)).length)) + ((vbytes ((e.time - b.time).toNat)).length)) c55)] fun a HF => ?_
 refine qb rfl ?_
 have hn55 : (1 + ((vbytes ((e.seq - b.seq).toNat)).length)) + ((vbytes ((e.time - b.time).toNat)).length) = (putUp b e 0).length := by rw [qjg]; simp; try omega
 rw [hn55] at HM hc55
 rw [show (((#[vB e.kind]).toList) ++ ((vbytes ((e.seq - b.seq).toNat)).map B8)) ++ ((vbytes ((e.time - b.time).toNat)).map B8) = (putUp b e 0).map B8 from by simp [qjg, B8]] at HM
 replace HF := HF.as (t := 8) (u := .slice A55 ((putUp b e 0).length) c55) rfl (by rw [hn55])
 replace HF := HF.as (t := 55) (u := .slice A55 ((putUp b e 0).length) c55) rfl (by rw [hn55])
 refine wp_seq (wp_seq (qa ?_))
 refine fp HF 1 0 [(9, vI 0)] fun a HF => ?_
 refine qb rfl (wp_block ?_)
 replace HM := HM.picks (fs' := [.row (.slice A55 ((putUp b e 0).length) c55) ((putUp b e 0).length) ((putUp b e 0).map B8) 5 1, .row (.slice A12 e.ze.length c12) e.ze.length (e.ze.map U64) 22 1, .blk g3 e.cells 58, .blk g2 b.cells 61]) [2, 3, 4, 5] (by decide) rfl
 refine qv (fun mS aS wS => ∃ (k : Nat) (Ak : Option Addr) (ck : Nat), (k ≤ e.ze.length) ∧ ((putUp b e k).length ≤ ck) ∧ mS = e.ze.length - k ∧ Fr aS 70 [] [(9, vI k), (55, .slice A55 ((putUp b e 0).length) c55), (8, .slice Ak ((putUp b e k).length) ck), (34, .bool false), (16, .bool false), (7, vI e.check), (6, .slice A12 e.ze.length c12), (5, vI 0), (4, .slice none 0 0), (3, vP g3 0), (2, vP g2 0)] ∧ Mem w wS [.row (.slice Ak ((putUp b e k).length) ck) ((putUp b e k).length) ((putUp b e k).map B8) 5 1, .row (.slice A12 e.ze.length c12) e.ze.length (e.ze.map U64) 22 1, .blk g3 e.cells 58, .blk g2 b.cells 61]) (m := e.ze.length - 0) ⟨0, A55, c55, Nat.zero_le _, hc55, rfl, HF.sub (by kernel_rfl), HM.picks [0, 1, 2, 3] (by decide) rfl⟩ ?_
 clear HF HM; rintro mS a w_ ⟨k, Ak, ck, hk, hck, rfl, HF, HM⟩
 refine wp_seq (wp_seq (qa ?_))
 refine fp HF 2 0 [(57, .slice A12 e.ze.length c12), (56, vI k)] fun a HF => ?_
 refine fy HF HM 2 rfl rfl rfl (Yl.len rfl rfl (by kernel_rfl)) fun a HF => ?_
 refine fp HF 1 3 [(59, .bool (decide ((k : Int) < (e.ze.length : Int))))] fun a HF => ?_
 refine qb rfl ?_
 rcases HF.tf 59 rfl with ⟨hb59, HF⟩ | ⟨hb59, HF⟩
 ·
  have hk59 : k < e.ze.length := by simp only [decide_eq_true_eq] at hb59; omega
  obtain ⟨x, hx⟩ : ∃ x, e.vals[k]? = some x := ⟨_, List.getElem?_eq_getElem (by rw [← hov]; exact hk59)⟩
  have hpl := qs9 b e k
  refine qf HF rfl (wp_skip (wp_seq (wp_block (qa ?_))))
  refine fp HF 3 0 [(64, vI k), (63, .slice A12 e.ze.length c12), (62, .slice Ak ((putUp b e k).length) ck)] fun a HF => ?_
  obtain ⟨gA12, rfl⟩ := qa7 (HM.own (i := 1) rfl) (Nat.lt_of_le_of_lt (Nat.zero_le _) (show k < e.ze.length from hk59))
  refine fy HF HM 3 rfl rfl rfl (v := vP gA12 (k * 1)) (Yl.ix0 gA12 k 1 rfl rfl rfl (hk59)) fun a HF => ?_
  refine fy HF HM 4 rfl rfl rfl (v := vQ x) (Yl.qh rfl rfl (by kernel_rfl) (fun _ h => h.qa1 (i := 1) rfl (k := k) (za (F := U64) (k := k) (x := x) (by rw [hov]; exact hx)))) fun a HF => ?_
  refine fo HF 5 rfl rfl ?_
  refine e_cl HF [vQ x] rfl rfl (qd0 x _ (hx64 _ (List.mem_of_getElem? hx))) ?_
  rintro _ w67 ⟨v, rfl, ho, hbw⟩
  obtain ⟨A67, c67, rfl, hc67⟩ := qaq ho
  have hl67 := qr x
  refine ⟨_, rfl, ?_⟩
  replace HM := HM.callRow hbw ho
  clear HF; intro a HF
  refine fo HF 6 rfl rfl ?_
  refine qs HF HM (i := 1) rfl ei_u8 rfl rfl rfl (news := ((vbytes x).map B8)) (HM.rd (i := 0) rfl) (qaa _) (by omega) (by omega) rfl (by decide) ?_
  clear HF HM; intro a w68 A68 c68 HF HM hc68
  refine fp HF 1 7 [(8, .slice A68 (((putUp b e k).length) + ((vbytes x).length)) c68)] fun a HF => ?_
  refine qb rfl ?_
  have hn68 : ((putUp b e k).length) + ((vbytes x).length) = (putUp b e (k + 1)).length := by rw [qjh hx]; simp
  rw [hn68] at HM hc68
  rw [show ((putUp b e k).map B8) ++ ((vbytes x).map B8) = (putUp b e (k + 1)).map B8 from by rw [qjh hx, List.map_append]] at HM
  replace HF := HF.as (t := 8) (u := .slice A68 ((putUp b e (k + 1)).length) c68) rfl (by rw [hn68])
  replace HF := HF.as (t := 68) (u := .slice A68 ((putUp b e (k + 1)).length) c68) rfl (by rw [hn68])
  refine qa ?_
  refine fp HF 2 0 [(61, vI (IntKind.i64.wrap ((k : Int) + 1)))] fun a HF => ?_
  replace HF := HF.sp 61 (vI (k + 1 : Nat)) rfl (by rw [IntWalk.i64_in _ (by omega)]; simp)
  refine fp HF 1 2 [(9, vI (k + 1 : Nat))] fun a HF => ?_
  refine qb rfl ?_
  exact ⟨_, (by omega), k + 1, A68, c68, hk59, hc68, rfl, HF.sub (by kernel_rfl), HM.picks [1, 2, 3, 4] (by decide) rfl⟩
 obtain rfl : k = e.vals.length := by rw [hov] at hb59 hk; simp only [decide_eq_false_iff_not] at hb59; omega
 refine qe HF rfl (wp_exit (wp_seq (qa ?_)))
 refine fp HF 3 0 [(5, vI 0), (4, .slice Ak ((putUp b e e.vals.length).length) ck)] fun a HF => ?_
 refine qb rfl (wp_ret ?_)
 exact ret2 rfl HF (.tmp HF rfl) (.tmp HF rfl) (⟨⟨Ak, ck, by rw [qfh hgood hrb, qii hgood hrb, ← qig]; rfl, by rw [qfh hgood hrb, ← qig]; exact HM.own (i := 0) rfl, by rw [qfh hgood hrb, ← qig]; exact hck⟩, HM.below⟩)
theorem qih (A : Option Addr) (n c : Nat) (l : List Ev) (hok : ∀ e ∈ l, e.Ok) (w : World) (hr : Rd w w.heap.size 11 A n (l.flatMap evL)) (hn : n ≤ 140737488355328) (hln : l.length = n) :
    Calls Tryz.prog 42 #[.slice A n c] w (RowPost w (rowR l)) := by
 refine qg (vs := [.slice A n c]) Tryz.func42 rfl rfl (by kernel_rfl) (σ0 := [(0, .slice A n c)]) rfl ?_
 intro a HF
 have HM := Mem.start w
 refine wp_seq (qa ?_)
 refine fp HF 2 0 [(3, vI 0), (2, vI 0)] fun a HF => ?_
 refine qb rfl (wp_seq (wp_seq (qa ?_)))
 refine fp HF 1 0 [(4, vI 0)] fun a HF => ?_
 refine qb rfl (wp_block ?_)
 refine qv (fun mS aS wS => ∃ (k : Nat), (k ≤ n) ∧ (rowR l = rowGo (qbu l k) k (l.drop k)) ∧ mS = n - k ∧ Fr aS 66 [] [(4, vI k), (3, vI 0), (2, vI 0), (0, .slice A n c)] ∧ Mem w wS []) (m := n - 0) ⟨0, Nat.zero_le _, rfl, rfl, HF.sub (by kernel_rfl), HM.picks [] (by decide) rfl⟩ ?_
 clear HF HM; rintro mS a w_ ⟨k, hk, hj, rfl, HF, HM⟩
 refine wp_seq (wp_seq (qa ?_))
 refine fp HF 2 0 [(7, .slice A n c), (6, vI k)] fun a HF => ?_
 refine fy HF HM 2 rfl rfl rfl (Yl.len rfl rfl (by kernel_rfl)) fun a HF => ?_
 refine fp HF 1 3 [(9, .bool (decide ((k : Int) < (n : Int))))] fun a HF => ?_
 refine qb rfl ?_
 rcases HF.tf 9 rfl with ⟨hb9, HF⟩ | ⟨hb9, HF⟩
 ·
  have hk9 : k < n := by simp at hb9; omega
  obtain ⟨e, hke⟩ : ∃ e, l[k]? = some e := ⟨_, List.getElem?_eq_getElem (by omega)⟩
  have hgo := qqa hke
  refine qf HF rfl (wp_skip (wp_seq (wp_block (wp_seq (wp_seq (qa ?_))))))
  refine fp HF 2 0 [(13, vI k), (12, .slice A n c)] fun a HF => ?_
  obtain ⟨gA, oA, rfl, _⟩ := hr.zl (Nat.lt_of_le_of_lt (Nat.zero_le _) (show k < n from hk9)) (by decide)
  refine fy HF HM 2 rfl rfl rfl (v := vP gA (oA + k * 11)) (Yl.ix gA oA k 11 rfl rfl rfl (hk9)) fun a HF => ?_
  refine fy HF HM 3 rfl rfl rfl (v := .agg e.cells) (Yl.qx rfl rfl ⟨(by kernel_rfl), (by kernel_rfl)⟩ rfl (fun _ h => (h.old hr).qb8 zf (hke))) fun a HF => ?_
  refine fo HF 4 rfl rfl ?_
  refine e_cl HF [.agg e.cells] rfl rfl (qff e (hok e (List.mem_of_getElem? hke)) _) ?_
  rintro _ w16 ⟨rfl, hbw⟩
  refine ⟨_, rfl, ?_⟩
  replace HM := HM.call hbw
  clear HF; intro a HF
  refine fp HF 1 5 [(5, vI e.check)] fun a HF => ?_
  refine qb rfl (wp_seq (qa ?_))
  refine fp HF 2 0 [(18, .bool ((e.check : Int) != (0 : Int)))] fun a HF => ?_
  refine qb rfl ?_
  rcases HF.tf 18 rfl with ⟨hb18, HF⟩ | ⟨hb18, HF⟩
  ·
   have hcb : e.check ≠ 0 := by rw [bne_iff_ne] at hb18; omega
   rw [if_pos hcb] at hgo
   refine qf HF rfl (wp_seq (qa ?_))
   refine fp HF 4 0 [(3, vI e.check), (2, vI k)] fun a HF => ?_
   refine qb rfl (wp_ret ?_)
   exact ret2 rfl HF (.tmp HF rfl) (.tmp HF rfl) (⟨by rw [hj, hgo]; (try rfl), HM.below⟩)
  have hcg : ¬ e.check ≠ 0 := by rw [bne_eq_false_iff_eq] at hb18; omega
  rw [if_neg hcg] at hgo
  refine qe HF rfl (wp_skip ?_)
  refine qam (fun aS wS => Fr aS 66 [] [(64, .bool (!(qbu l k).all (fun q => e.after q))), (18, .bool false), (5, vI e.check), (9, .bool true), (4, vI k), (3, vI 0), (2, vI 0), (0, .slice (some ⟨gA, oA, none⟩) n c)] ∧ Mem w wS []) ?_ ?_
  ·
   refine zw HM [] [] [] fun HM HS => ?_
   refine ap HF (fun _ => HS) [0, 1, 2] #[true, true, true, false, false, false, false, false, false, false, false, false, false, false, false, false, false, false, false, false, false, false, false, false, false, false, false, false, false, false, false, false, false, false, false, false, false, false, false, false, false, false, false, false] [(23, .bool (decide ((k : Int) > (0 : Int))))] fun a HF => ?_
   rcases HF.tf 23 rfl with ⟨hb23, HF⟩ | ⟨hb23, HF⟩
   ·
    have hk0 : 0 < k := by simp at hb23; omega
    obtain ⟨q, hq⟩ : ∃ q, l[k - 1]? = some q := ⟨_, List.getElem?_eq_getElem (by omega)⟩
    have hpv : qbu l k = some q := by rw [← hq, show k = (k - 1) + 1 by omega]; rfl
    refine ap HF (fun _ => HS) [3, 4, 8, 9] #[true, true, true, true, true, false, false, false, true, true, false, false, false, false, false, false, false, false, false, false, false, false, false, false, false, false, false, false, false, false, false, false, false, false, false, false, false, false, false, false, false, false, false, false] [(30, vI k), (29, .slice (some ⟨gA, oA, none⟩) n c), (25, vI k), (24, .slice (some ⟨gA, oA, none⟩) n c)] fun a HF => ?_
    refine ay HF HS 5 rfl rfl rfl (v := vP gA (oA + k * 11)) (Yl.ix gA oA k 11 rfl rfl rfl (hk9)) fun a HF => ?_
    refine ap HF (fun _ => HS) [6] #[true, true, true, true, true, true, true, false, true, true, false, false, false, false, false, false, false, false, false, false, false, false, false, false, false, false, false, false, false, false, false, false, false, false, false, false, false, false, false, false, false, false, false, false] [(27, vP gA (oA + k * 11 + 2))] fun a HF => ?_
    refine ay HF HS 7 rfl rfl rfl (v := vB e.cpu) (Yl.qh rfl rfl (by kernel_rfl) (fun _ h => (h.old hr).partAt zf (k := k) (j := 2) (x := e) (hke) rfl)) fun a HF => ?_
    refine qo HF (fun _ => HS) (i := 10) rfl rfl (d := 31) rfl (by decide) (by kernel_rfl) (fun _ _ _ h => h) (v := vI (IntKind.i64.wrap ((k : Int) - 1))) (fun _ => Yl.pure (by kernel_rfl)) fun a HF => ?_
    replace HF := HF.sp 31 (vI (k - 1 : Nat)) rfl (by rw [IntWalk.i64_in _ (by omega)]; congr 1; omega)
    refine ay HF HS 11 rfl rfl rfl (v := vP gA (oA + (k - 1) * 11)) (Yl.ix gA oA (k - 1) 11 rfl rfl rfl) fun a HF => ?_
    refine ap HF (fun _ => HS) [12] #[true, true, true, true, true, true, true, true, true, true, true, true, true, false, false, false, false, false, false, false, false, false, false, false, false, false, false, false, false, false, false, false, false, false, false, false, false, false, false, false, false, false, false, false] [(33, vP gA (oA + (k - 1) * 11 + 2))] fun a HF => ?_
    refine ay HF HS 13 rfl rfl rfl (v := vB q.cpu) (Yl.qh rfl rfl (by kernel_rfl) (fun _ h => (h.old hr).partAt zf (k := (k - 1)) (j := 2) (x := q) (hq) rfl)) fun a HF => ?_
    refine ap HF (fun _ => HS) [14, 15] #[true, true, true, true, true, true, true, true, true, true, true, true, true, true, true, true, false, false, false, false, false, false, false, false, false, false, false, false, false, false, false, false, false, false, false, false, false, false, false, false, false, false, false, false] [(36, .bool ((e.cpu : Int) != (q.cpu : Int)))] fun a HF => ?_
    rcases HF.tf 36 rfl with ⟨hb36, HF⟩ | ⟨hb36, HF⟩
    ·
     refine ap HF (fun _ => HS) [16, 17, 18, 19, 20, 21, 22, 23, 24, 25, 26, 27, 28, 29, 30, 31, 32, 33, 34, 35, 36, 37, 38, 39, 40, 41, 42, 43] #[true, true, true, true, true, true, true, true, true, true, true, true, true, true, true, true, true, true, true, true, true, true, true, true, true, true, true, true, true, true, true, true, true, true, true, true, true, true, true, true, true, true, true, true] [(64, .bool true)] fun a HF => ?_
     refine qm (by kernel_rfl) ?_
     have HF := HF.as (t := 64) (u := .bool (!(qbu l k).all (fun q => e.after q))) rfl (congrArg Value.bool (by rw [hpv]; (try simp at hb9); (try simp at hb18); (try simp at hb23); (try simp at hb36); rw [Bool.eq_iff_iff]; simp [Ev.after]; try omega))
     exact ⟨HF.sub (by kernel_rfl), HM.picks [] (by decide) rfl⟩
    refine ap HF (fun _ => HS) [16, 17, 21, 22] #[true, true, true, true, true, true, true, true, true, true, true, true, true, true, true, true, true, true, false, false, false, true, true, false, false, false, false, false, false, false, false, false, false, false, false, false, false, false, false, false, false, false, false, false] [(43, vI k), (42, .slice (some ⟨gA, oA, none⟩) n c), (38, vI k), (37, .slice (some ⟨gA, oA, none⟩) n c)] fun a HF => ?_
    refine ay HF HS 18 rfl rfl rfl (v := vP gA (oA + k * 11)) (Yl.ix gA oA k 11 rfl rfl rfl (hk9)) fun a HF => ?_
    refine ap HF (fun _ => HS) [19] #[true, true, true, true, true, true, true, true, true, true, true, true, true, true, true, true, true, true, true, true, false, true, true, false, false, false, false, false, false, false, false, false, false, false, false, false, false, false, false, false, false, false, false, false] [(40, vP gA (oA + k * 11))] fun a HF => ?_
    refine ay HF HS 20 rfl rfl rfl (v := vI e.seq) (Yl.qh rfl rfl (by kernel_rfl) (fun _ h => (by have := (h.old hr).partAt zf (k := k) (j := 0) (x := e) (hke) rfl; simpa using this))) fun a HF => ?_
    refine qo HF (fun _ => HS) (i := 23) rfl rfl (d := 44) rfl (by decide) (by kernel_rfl) (fun _ _ _ h => h) (v := vI (IntKind.i64.wrap ((k : Int) - 1))) (fun _ => Yl.pure (by kernel_rfl)) fun a HF => ?_
    replace HF := HF.sp 44 (vI (k - 1 : Nat)) rfl (by rw [IntWalk.i64_in _ (by omega)]; congr 1; omega)
    refine ay HF HS 24 rfl rfl rfl (v := vP gA (oA + (k - 1) * 11)) (Yl.ix gA oA (k - 1) 11 rfl rfl rfl) fun a HF => ?_
    refine ap HF (fun _ => HS) [25] #[true, true, true, true, true, true, true, true, true, true, true, true, true, true, true, true, true, true, true, true, true, true, true, true, true, true, false, false, false, false, false, false, false, false, false, false, false, false, false, false, false, false, false, false] [(46, vP gA (oA + (k - 1) * 11))] fun a HF => ?_
    refine ay HF HS 26 rfl rfl rfl (v := vI q.seq) (Yl.qh rfl rfl (by kernel_rfl) (fun _ h => (by have := (h.old hr).partAt zf (k := (k - 1)) (j := 0) (x := q) (hq) rfl; simpa using this))) fun a HF => ?_
    refine ap HF (fun _ => HS) [27, 28, 29] #[true, true, true, true, true, true, true, true, true, true, true, true, true, true, true, true, true, true, true, true, true, true, true, true, true, true, true, true, true, true, false, false, false, false, false, false, false, false, false, false, false, false, false, false] [(50, .bool (decide ((e.seq : Int) ≤ (q.seq : Int))))] fun a HF => ?_
    rcases HF.tf 50 rfl with ⟨hb50, HF⟩ | ⟨hb50, HF⟩
    ·
     refine ap HF (fun _ => HS) [30, 31, 32, 33, 34, 35, 36, 37, 38, 39, 40, 41, 42, 43] #[true, true, true, true, true, true, true, true, true, true, true, true, true, true, true, true, true, true, true, true, true, true, true, true, true, true, true, true, true, true, true, true, true, true, true, true, true, true, true, true, true, true, true, true] [(64, .bool true)] fun a HF => ?_
     refine qm (by kernel_rfl) ?_
     have HF := HF.as (t := 64) (u := .bool (!(qbu l k).all (fun q => e.after q))) rfl (congrArg Value.bool (by rw [hpv]; (try simp at hb9); (try simp at hb18); (try simp at hb23); (try simp at hb36); (try simp at hb50); rw [Bool.eq_iff_iff]; simp [Ev.after]; try omega))
     exact ⟨HF.sub (by kernel_rfl), HM.picks [] (by decide) rfl⟩
    refine ap HF (fun _ => HS) [30, 31, 35, 36] #[true, true, true, true, true, true, true, true, true, true, true, true, true, true, true, true, true, true, true, true, true, true, true, true, true, true, true, true, true, true, true, true, false, false, false, true, true, false, false, false, false, false, false, false] [(57, vI k), (56, .slice (some ⟨gA, oA, none⟩) n c), (52, vI k), (51, .slice (some ⟨gA, oA, none⟩) n c)] fun a HF => ?_
    refine ay HF HS 32 rfl rfl rfl (v := vP gA (oA + k * 11)) (Yl.ix gA oA k 11 rfl rfl rfl (hk9)) fun a HF => ?_
    refine ap HF (fun _ => HS) [33] #[true, true, true, true, true, true, true, true, true, true, true, true, true, true, true, true, true, true, true, true, true, true, true, true, true, true, true, true, true, true, true, true, true, true, false, true, true, false, false, false, false, false, false, false] [(54, vP gA (oA + k * 11 + 1))] fun a HF => ?_
    refine ay HF HS 34 rfl rfl rfl (v := vI e.time) (Yl.qh rfl rfl (by kernel_rfl) (fun _ h => (h.old hr).partAt zf (k := k) (j := 1) (x := e) (hke) rfl)) fun a HF => ?_
    refine qo HF (fun _ => HS) (i := 37) rfl rfl (d := 58) rfl (by decide) (by kernel_rfl) (fun _ _ _ h => h) (v := vI (IntKind.i64.wrap ((k : Int) - 1))) (fun _ => Yl.pure (by kernel_rfl)) fun a HF => ?_
    replace HF := HF.sp 58 (vI (k - 1 : Nat)) rfl (by rw [IntWalk.i64_in _ (by omega)]; congr 1; omega)
    refine ay HF HS 38 rfl rfl rfl (v := vP gA (oA + (k - 1) * 11)) (Yl.ix gA oA (k - 1) 11 rfl rfl rfl) fun a HF => ?_
    refine ap HF (fun _ => HS) [39] #[true, true, true, true, true, true, true, true, true, true, true, true, true, true, true, true, true, true, true, true, true, true, true, true, true, true, true, true, true, true, true, true, true, true, true, true, true, true, true, true, false, false, false, false] [(60, vP gA (oA + (k - 1) * 11 + 1))] fun a HF => ?_
    refine ay HF HS 40 rfl rfl rfl (v := vI q.time) (Yl.qh rfl rfl (by kernel_rfl) (fun _ h => (h.old hr).partAt zf (k := (k - 1)) (j := 1) (x := q) (hq) rfl)) fun a HF => ?_
    refine ap HF (fun _ => HS) [41, 42, 43] #[true, true, true, true, true, true, true, true, true, true, true, true, true, true, true, true, true, true, true, true, true, true, true, true, true, true, true, true, true, true, true, true, true, true, true, true, true, true, true, true, true, true, true, true] [(64, .bool (decide ((e.time : Int) < (q.time : Int))))] fun a HF => ?_
    refine qm (by kernel_rfl) ?_
    replace HF := HF.to [(64, .bool (decide ((e.time : Int) < (q.time : Int)))), (18, .bool false), (5, vI e.check), (9, .bool true), (4, vI k), (3, vI 0), (2, vI 0), (0, .slice (some ⟨gA, oA, none⟩) n c)]
    have HF := HF.as (t := 64) (u := .bool (!(qbu l k).all (fun q => e.after q))) rfl (congrArg Value.bool (by rw [hpv]; (try simp at hb9); (try simp at hb18); (try simp at hb23); (try simp at hb36); (try simp at hb50); rw [Bool.eq_iff_iff]; simp [Ev.after]; try omega))
    exact ⟨HF.sub (by kernel_rfl), HM.picks [] (by decide) rfl⟩
   have hpv : qbu l k = none := by rw [show k = 0 by simp at hb23; omega]; rfl
   refine ap HF (fun _ => HS) [3, 4, 5, 6, 7, 8, 9, 10, 11, 12, 13, 14, 15, 16, 17, 18, 19, 20, 21, 22, 23, 24, 25, 26, 27, 28, 29, 30, 31, 32, 33, 34, 35, 36, 37, 38, 39, 40, 41, 42, 43] #[true, true, true, true, true, true, true, true, true, true, true, true, true, true, true, true, true, true, true, true, true, true, true, true, true, true, true, true, true, true, true, true, true, true, true, true, true, true, true, true, true, true, true, true] [(64, .bool false)] fun a HF => ?_
   refine qm (by kernel_rfl) ?_
   have HF := HF.as (t := 64) (u := .bool (!(qbu l k).all (fun q => e.after q))) rfl (congrArg Value.bool (by rw [hpv]; (try simp at hb9); (try simp at hb18); (try simp at hb23); rw [Bool.eq_iff_iff]; simp [Ev.after]; try omega))
   exact ⟨HF.sub (by kernel_rfl), HM.picks [] (by decide) rfl⟩
  clear HF HM; rintro a w7 ⟨HF, HM⟩
  rcases HF.tf 64 rfl with ⟨hb64, HF⟩ | ⟨hb64, HF⟩
  ·
   rw [if_pos (by simpa using hb64)] at hgo
   refine qf HF rfl (wp_seq (qa ?_))
   refine fp HF 3 0 [(3, vI 71), (2, vI k)] fun a HF => ?_
   refine qb rfl (wp_ret ?_)
   exact ret2 rfl HF (.tmp HF rfl) (.tmp HF rfl) (⟨by rw [hj, hgo]; (try rfl), HM.below⟩)
  rw [if_neg (by simpa using hb64)] at hgo
  refine qe HF rfl (wp_skip (qa ?_))
  refine fp HF 2 0 [(11, vI (IntKind.i64.wrap ((k : Int) + 1)))] fun a HF => ?_
  replace HF := HF.sp 11 (vI (k + 1 : Nat)) rfl (by rw [IntWalk.i64_in _ (by omega)]; simp)
  refine fp HF 1 2 [(4, vI (k + 1 : Nat))] fun a HF => ?_
  refine qb rfl ?_
  exact ⟨_, (by omega), k + 1, by omega, hj.trans hgo, rfl, HF.sub (by kernel_rfl), HM.picks [] (by decide) rfl⟩
 have hk9 : k = n := by simp at hb9; omega
 refine qe HF rfl (wp_exit (wp_seq (qa ?_)))
 refine fp HF 2 0 [(3, vI 0), (2, vI (-1))] fun a HF => ?_
 refine qb rfl (wp_ret ?_)
 exact ret2 rfl HF (.tmp HF rfl) (.tmp HF rfl) (⟨by rw [hj, hk9, List.drop_eq_nil_of_le (by omega)]; cases qbu l n <;> rfl, HM.below⟩)
theorem qqg (b : Bs) (cpu : Nat) (hcpu : cpu < 256) (A : Option Addr) (n c : Nat) (l : List Nat) (w : World) (hr : Rd w w.heap.size 1 A n (l.map B8)) (hc : n ≤ c) (hl : ∀ b ∈ l, b < 256) (hn : n ≤ 140737488355328) (hln : l.length = n) :
    Calls Tryz.prog 85 #[.agg b.cells, .int .u8 (cpu : Int), .slice A n c] w (TakePost w (takeR b cpu l)) := by
 refine qg (vs := [.agg b.cells, vB cpu, .slice A n c]) Tryz.func85 rfl rfl (by kernel_rfl) (σ0 := [(0, .agg b.cells), (1, vB cpu), (2, .slice A n c)]) rfl ?_
 intro a HF
 have HM := Mem.start w
 refine wp_seq (qa ?_)
 refine fo HF 0 rfl rfl ?_
 refine e_box HF HM (cs := b.cells) rfl rfl rfl rfl (by decide) ?_
 clear HF HM; intro a w3 g3 HF HM
 refine fo HF 1 rfl rfl ?_
 refine qz HF HM (cs := #[vI 0, vI 0, vB 0, vB 0, vI 0, vI 0, vI 0, vI 0, vI 0, vQ 0, vI 0]) rfl (by kernel_rfl) rfl (by decide) ?_
 clear HF HM; intro a w6 g6 HF HM
 refine fp HF 2 2 [(8, vI 0), (7, vI 0)] fun a HF => ?_
 refine qb rfl (wp_seq (qa ?_))
 refine fy HF HM 0 rfl rfl rfl (v := .agg Ev.zero.cells) ((Yl.build (vs := []) rfl (by kernel_rfl) (by kernel_rfl))) fun a HF => ?_
 refine fo HF 1 rfl rfl ?_
 refine qz HF HM (cs := #[vI 0, vI 0, vB 0, vB 0, vI 0, vI 0, vI 0, vI 0, vI 0, vQ 0, vI 0]) rfl (by kernel_rfl) rfl (by decide) ?_
 clear HF HM; intro a w9 g9 HF HM
 refine fo HF 2 rfl rfl ?_
 refine e_sa HF HM 0 rfl rfl rfl rfl rfl ⟨(by kernel_rfl), (by kernel_rfl)⟩ rfl rfl (zn Ev.zero) ?_
 clear HM; intro w1_2 HM
 refine qb rfl (wp_seq (wp_seq (qa ?_)))
 refine fy HF HM 0 rfl rfl rfl (v := .agg b.cells) (Yl.qx rfl rfl ⟨(by kernel_rfl), (by kernel_rfl)⟩ rfl (fun _ h => qd (h.blk (i := 2) rfl))) fun a HF => ?_
 refine fo HF 1 rfl rfl ?_
 refine e_cl HF [.agg b.cells] rfl rfl (qd1 b _) ?_
 rintro _ w19 ⟨rfl, hbw⟩
 refine ⟨_, rfl, ?_⟩
 replace HM := HM.call hbw
 clear HF; intro a HF
 refine fp HF 1 2 [(20, .bool (!b.right))] fun a HF => ?_
 refine qb rfl ?_
 rcases HF.tf 20 rfl with ⟨hb20, HF⟩ | ⟨hb20, HF⟩
 ·
  have hrf : b.right = false := by simpa using hb20
  refine qf HF rfl (wp_seq (qa ?_))
  refine fy HF HM 0 rfl rfl rfl (v := .agg Ev.zero.cells) (Yl.qx rfl rfl ⟨(by kernel_rfl), (by kernel_rfl)⟩ rfl (fun _ h => qd (h.blk (i := 0) rfl))) fun a HF => ?_
  refine fo HF 1 rfl rfl ?_
  refine e_sa HF HM 1 rfl rfl rfl rfl rfl ⟨(by kernel_rfl), (by kernel_rfl)⟩ rfl rfl (zn Ev.zero) ?_
  clear HM; intro w3_1 HM
  refine fp HF 2 2 [(8, vI 70), (7, vI 0)] fun a HF => ?_
  refine qb rfl (wp_ret ?_)
  exact ret3 rfl HF (.cellS (i := 1) HF HM rfl rfl ⟨(by kernel_rfl), (by kernel_rfl)⟩ rfl) (.tmp HF rfl) (.tmp HF rfl) (⟨by rw [show takeR b cpu _ = _ from by rw [takeR, if_pos hrf]]; rfl, HM.below⟩)
 have hrt : b.right = true := by simpa using hb20
 have hbd := qta hrt
 refine qe HF rfl (wp_skip (wp_seq (wp_seq (qa ?_))))
 refine fp HF 1 0 [(22, .slice A n c)] fun a HF => ?_
 refine fy HF HM 1 rfl rfl rfl (Yl.len rfl rfl (by kernel_rfl)) fun a HF => ?_
 refine fp HF 1 2 [(24, .bool ((n : Int) == (0 : Int)))] fun a HF => ?_
 refine qb rfl ?_
 rcases HF.tf 24 rfl with ⟨hb24, HF⟩ | ⟨hb24, HF⟩
 ·
  have hn0 : l = [] := by simp at hb24; exact List.length_eq_zero_iff.1 (by omega)
  refine qf HF rfl (wp_seq (qa ?_))
  refine fy HF HM 0 rfl rfl rfl (v := .agg Ev.zero.cells) (Yl.qx rfl rfl ⟨(by kernel_rfl), (by kernel_rfl)⟩ rfl (fun _ h => qd (h.blk (i := 0) rfl))) fun a HF => ?_
  refine fo HF 1 rfl rfl ?_
  refine e_sa HF HM 1 rfl rfl rfl rfl rfl ⟨(by kernel_rfl), (by kernel_rfl)⟩ rfl rfl (zn Ev.zero) ?_
  clear HM; intro w5_1 HM
  refine fp HF 2 2 [(8, vI 10), (7, vI 0)] fun a HF => ?_
  refine qb rfl (wp_ret ?_)
  exact ret3 rfl HF (.cellS (i := 1) HF HM rfl rfl ⟨(by kernel_rfl), (by kernel_rfl)⟩ rfl) (.tmp HF rfl) (.tmp HF rfl) (⟨by rw [show takeR b cpu _ = _ from by rw [takeR, if_neg (by simp [hrt]), if_pos hn0]]; rfl, HM.below⟩)
 have hn0 : 0 < n := by simp at hb24; omega
 obtain ⟨kd, r, rfl⟩ : ∃ kd r, l = kd :: r := by cases l with
   | nil => simp at hln; omega
   | cons a b => exact ⟨a, b, rfl⟩
 have hkd : kd < 256 := hl kd (by simp)
 simp only [List.length_cons] at hln
 have hul := qbb kd
 refine qe HF rfl (wp_skip (wp_seq (wp_seq (qa ?_))))
 refine fp HF 1 0 [(26, .slice A n c)] fun a HF => ?_
 obtain ⟨gA, oA, rfl, _⟩ := hr.zl (Nat.lt_of_le_of_lt (Nat.zero_le _) (show 0 < n from by omega)) (by decide)
 refine fy HF HM 1 rfl rfl rfl (v := vP gA oA) (Yl.indexAddr (ad := ⟨gA, oA, none⟩) (y := 0) (sz := 1) rfl rfl rfl (by omega) (by kernel_rfl)) fun a HF => ?_
 refine fy HF HM 2 rfl rfl rfl (v := vB kd) (Yl.qh rfl rfl (by kernel_rfl) (fun _ h => (h.old hr).zt (k := 0) (za (F := B8) (k := 0) (x := kd) (rfl)))) fun a HF => ?_
 refine fo HF 3 rfl rfl ?_
 refine e_cl HF [vB kd] rfl rfl (qgv kd hkd _) ?_
 rintro _ w29 ⟨⟨s, rfl, hs⟩, hbw⟩
 refine ⟨_, rfl, ?_⟩
 replace HM := HM.call hbw
 clear HF; intro a HF
 refine fp HF 1 4 [(30, .bool ((s).toList == ((ByteArray.mk #[])).toList))] fun a HF => ?_
 replace HF := HF.sp 30 (.bool (!decide (1 ≤ kd ∧ kd ≤ 10))) rfl (by rw [qle hs])
 refine qb rfl ?_
 rcases HF.tf 30 rfl with ⟨hb30, HF⟩ | ⟨hb30, HF⟩
 ·
  have hku : (usesL kd).length = 0 := qkl (by simp at hb30; omega)
  refine qf HF rfl (wp_seq (qa ?_))
  refine fy HF HM 0 rfl rfl rfl (v := .agg Ev.zero.cells) (Yl.qx rfl rfl ⟨(by kernel_rfl), (by kernel_rfl)⟩ rfl (fun _ h => qd (h.blk (i := 0) rfl))) fun a HF => ?_
  refine fo HF 1 rfl rfl ?_
  refine e_sa HF HM 1 rfl rfl rfl rfl rfl ⟨(by kernel_rfl), (by kernel_rfl)⟩ rfl rfl (zn Ev.zero) ?_
  clear HM; intro w7_1 HM
  refine fp HF 2 2 [(8, vI 60), (7, vI 0)] fun a HF => ?_
  refine qb rfl (wp_ret ?_)
  exact ret3 rfl HF (.cellS (i := 1) HF HM rfl rfl ⟨(by kernel_rfl), (by kernel_rfl)⟩ rfl) (.tmp HF rfl) (.tmp HF rfl) (⟨by rw [show takeR b cpu _ = _ from qiu hrt hku]; rfl, HM.below⟩)
 have hku : (usesL kd).length ≠ 0 := qtb (by simp at hb30; omega)
 refine qe HF rfl (wp_skip (wp_seq (qa ?_)))
 refine fp HF 1 0 [(10, vI 1)] fun a HF => ?_
 refine qb rfl (wp_seq (qa ?_))
 refine fp HF 1 0 [(11, .slice none 0 0)] fun a HF => ?_
 refine qb rfl ?_
 replace HM := HM.nil 22 1
 refine wp_seq (wp_block ?_)
 refine qv (fun mS aS wS => ∃ (u : Nat) (xs : List Nat) (Ak : Option Addr) (ck : Nat), (1 + u ≤ n) ∧ (∀ x ∈ xs, x < 18446744073709551616) ∧ (xs.length ≤ (2 + (usesL kd).length)) ∧ (xs.length ≤ ck) ∧ (readN (2 + (usesL kd).length) r = joinR xs u (readN ((2 + (usesL kd).length) - xs.length) (r.drop u))) ∧ mS = (2 + (usesL kd).length) - xs.length ∧ Fr aS 101 [] [(11, .slice Ak xs.length ck), (10, vI (1 + u : Nat)), (30, .bool false), (24, .bool false), (20, .bool false), (9, vP g9 0), (8, vI 0), (7, vI 0), (6, vP g6 0), (3, vP g3 0), (1, vB cpu), (2, .slice (some ⟨gA, oA, none⟩) n c)] ∧ Mem w wS [.row (.slice Ak xs.length ck) xs.length (xs.map U64) 22 1, .blk g9 Ev.zero.cells 58, .blk g6 #[vI 0, vI 0, vB 0, vB 0, vI 0, vI 0, vI 0, vI 0, vI 0, vQ 0, vI 0] 58, .blk g3 b.cells 61]) (m := (2 + (usesL kd).length) - [].length) ⟨0, [], none, 0, by omega, fun x hx => (by cases hx), Nat.zero_le _, Nat.le_refl _, (qk1 _ (qk2 _ _)).symm, rfl, HF.sub (by kernel_rfl), HM.picks [0, 1, 2, 3] (by decide) rfl⟩ ?_
 clear HF HM; rintro mS a w_ ⟨u, xs, Ak, ck, hu, hxs, hxl, hck, hj, rfl, HF, HM⟩
 refine wp_seq (wp_seq (qa ?_))
 refine fp HF 1 0 [(32, .slice Ak xs.length ck)] fun a HF => ?_
 refine fy HF HM 1 rfl rfl rfl (Yl.len rfl rfl (by kernel_rfl)) fun a HF => ?_
 refine fp HF 1 2 [(34, .slice (some ⟨gA, oA, none⟩) n c)] fun a HF => ?_
 refine fy HF HM 3 rfl rfl rfl (v := vP gA oA) (Yl.indexAddr (ad := ⟨gA, oA, none⟩) (y := 0) (sz := 1) rfl rfl rfl (by omega) (by kernel_rfl)) fun a HF => ?_
 refine fy HF HM 4 rfl rfl rfl (v := vB kd) (Yl.qh rfl rfl (by kernel_rfl) (fun _ h => (h.old hr).zt (k := 0) (za (F := B8) (k := 0) (x := kd) (rfl)))) fun a HF => ?_
 refine fo HF 5 rfl rfl ?_
 refine e_cl HF [vB kd] rfl rfl (qhd kd hkd _) ?_
 rintro _ w37 ⟨⟨v, xs37, rfl, ho⟩, hbw⟩
 obtain ⟨A37, c37, rfl, hc37⟩ := qaq ho
 refine ⟨_, rfl, ?_⟩
 replace HM := HM.callRow hbw ho
 clear HF; intro a HF
 refine fy HF HM 6 rfl rfl rfl (Yl.len rfl rfl (by kernel_rfl)) fun a HF => ?_
 refine fp HF 1 7 [(39, vI (IntKind.i64.wrap (2 + (((usesL kd).length : Nat) : Int))))] fun a HF => ?_
 replace HF := HF.sp 39 (vI (2 + (usesL kd).length : Nat)) rfl (by rw [IntWalk.i64_in _ (by omega)]; simp)
 refine fp HF 1 8 [(40, .bool (decide ((xs.length : Int) < ((2 + (usesL kd).length : Nat) : Int))))] fun a HF => ?_
 refine qb rfl ?_
 rcases HF.tf 40 rfl with ⟨hb40, HF⟩ | ⟨hb40, HF⟩
 ·
  have hlt : xs.length < (2 + (usesL kd).length) := by simp at hb40; omega
  obtain ⟨q, hq⟩ : ∃ q, vread (r.drop u) = q := ⟨_, rfl⟩
  have hq64 := qdk (r.drop u) (fun y hy => hl y (List.mem_cons_of_mem _ (List.mem_of_mem_drop hy)))
  have hql := qbc (r.drop u)
  rw [List.length_drop] at hql
  rw [hq] at hq64 hql
  refine qf HF rfl (wp_skip (wp_block (wp_seq (qa ?_))))
  refine fp HF 2 0 [(43, vI (1 + u : Nat)), (42, .slice (some ⟨gA, oA, none⟩) n c)] fun a HF => ?_
  refine fy HF HM 2 rfl rfl rfl (v := .slice (if c = (1 + u) then some ⟨gA, oA, none⟩ else (some ⟨gA, oA, none⟩ : Option Addr).map (·.add ((1 + u) * 1))) (n - (1 + u)) (c - (1 + u))) (Yl.sliceFrom ei_u8 (j := (1 + u)) rfl rfl rfl (by omega)) fun a HF => ?_
  refine fo HF 3 rfl rfl ?_
  refine e_cl HF [.slice (if c = (1 + u) then some ⟨gA, oA, none⟩ else (some ⟨gA, oA, none⟩ : Option Addr).map (·.add ((1 + u) * 1))) (n - (1 + u)) (c - (1 + u))] rfl rfl ((by have h := qjo _ (n - (1 + u)) (c - (1 + u)) _ (r.drop u) _ (by have h := Rd.qhh (HM.old hr) (k := 1 + u) (by omega) hc; rw [show (kd :: r).drop (1 + u) = r.drop u from by rw [Nat.add_comm]; rfl] at h; exact h) (fun y hy => hl y (List.mem_cons_of_mem _ (List.mem_of_mem_drop hy))) (by omega); rw [hq] at h; exact h)) ?_
  rintro _ w45 ⟨rfl, rfl⟩
  refine ⟨_, rfl, ?_⟩
  replace HM := HM
  clear HF; intro a HF
  refine fp HF 7 4 [(14, vI q.2.2), (13, vI q.2.1), (12, vQ q.1)] fun a HF => ?_
  refine qb rfl (wp_seq (wp_seq (qa ?_)))
  refine fp HF 2 0 [(50, .bool ((q.2.2 : Int) != (0 : Int)))] fun a HF => ?_
  refine qb rfl ?_
  rcases HF.tf 50 rfl with ⟨hb50, HF⟩ | ⟨hb50, HF⟩
  ·
   have hq2 : q.2.2 ≠ 0 := by rw [bne_iff_ne] at hb50; omega
   refine qf HF rfl (wp_seq (qa ?_))
   refine fy HF HM 0 rfl rfl rfl (v := .agg Ev.zero.cells) (Yl.qx rfl rfl ⟨(by kernel_rfl), (by kernel_rfl)⟩ rfl (fun _ h => qd (h.blk (i := 2) rfl))) fun a HF => ?_
   refine fp HF 1 1 [(52, vI q.2.2)] fun a HF => ?_
   refine fo HF 2 rfl rfl ?_
   refine e_sa HF HM 3 rfl rfl rfl rfl rfl ⟨(by kernel_rfl), (by kernel_rfl)⟩ rfl rfl (zn Ev.zero) ?_
   clear HM; intro w13_2 HM
   refine fp HF 2 3 [(8, vI q.2.2), (7, vI 0)] fun a HF => ?_
   refine qb rfl (wp_ret ?_)
   replace HM := HM.picks (fs' := [.row (.slice Ak xs.length ck) xs.length (xs.map U64) 22 1, .blk g9 Ev.zero.cells 58, .blk g6 Ev.zero.cells 58, .blk g3 b.cells 61]) [1, 2, 3, 4] (by decide) rfl
   exact ret3 rfl HF (.cellS (i := 2) HF HM rfl rfl ⟨(by kernel_rfl), (by kernel_rfl)⟩ rfl) (.tmp HF rfl) (.tmp HF rfl) (⟨by rw [show takeR b cpu _ = _ from ql3 hrt hku hj hlt hq hq2]; rfl, HM.below⟩)
  have hq2 : q.2.2 = 0 := by rw [bne_eq_false_iff_eq] at hb50; omega
  have hjn := qvt hj hlt hq hq2
  refine qe HF rfl (wp_skip (wp_seq (qa ?_)))
  refine fp HF 2 0 [(54, vQ q.1), (53, .slice Ak xs.length ck)] fun a HF => ?_
  refine fo HF 2 rfl rfl ?_
  refine qp HF HM (vs := [(0, vQ q.1)]) (cs := #[vQ q.1]) rfl qc5 (by decide) rfl (by kernel_rfl) rfl (by decide) ?_
  clear HF HM; intro a w55 g55 HF HM
  refine fo HF 3 rfl rfl ?_
  refine qs HF HM (i := 2) rfl qc5 rfl rfl rfl (news := [U64 q.1]) (HM.rdBlk (i := 0) (n := 1) (size := 1) rfl rfl) (by simp [Value.oneCell', U64, B8]) (by omega) (by omega) rfl (by decide) ?_
  clear HF HM; intro a w56 A56 c56 HF HM hc56
  refine fp HF 1 4 [(11, .slice A56 (xs.length + 1) c56)] fun a HF => ?_
  refine qb rfl ?_
  have hnA56 : xs.length + 1 = (xs ++ [q.1]).length := by simp
  replace HM := HM.reRow (i := 2) (ys := (xs ++ [q.1]).map U64) rfl hnA56 (by simp)
  rw [hnA56] at hc56
  replace HF := HF.as (t := 11) (u := .slice A56 ((xs ++ [q.1]).length) c56) rfl (by rw [hnA56])
  replace HF := HF.as (t := 56) (u := .slice A56 ((xs ++ [q.1]).length) c56) rfl (by rw [hnA56])
  refine qa ?_
  refine fp HF 3 0 [(59, vI (IntKind.i64.wrap (((1 + u : Nat) : Int) + (q.2.1 : Int))))] fun a HF => ?_
  replace HF := HF.sp 59 (vI (1 + (u + q.2.1) : Nat)) rfl (by rw [IntWalk.i64_in _ (by omega)]; congr 1; omega)
  refine fp HF 1 3 [(10, vI (1 + (u + q.2.1) : Nat))] fun a HF => ?_
  refine qb rfl ?_
  exact ⟨_, (by simp; omega), u + q.2.1, xs ++ [q.1], A56, c56, by omega, fun x hx => (List.mem_append.1 hx).elim (hxs x) (fun h => by rw [List.mem_singleton.1 h]; exact hq64), by simp; omega, hc56, hjn, rfl, HF.sub (by kernel_rfl), HM.picks [2, 3, 4, 5] (by decide) rfl⟩
 have hge : xs.length = (2 + (usesL kd).length) := by simp at hb40; omega
 obtain ⟨x0, x1, vs, rfl⟩ : ∃ x0 x1 vs, xs = x0 :: x1 :: vs := by
   match xs, hge with
   | x0 :: x1 :: vs, _ => exact ⟨x0, x1, vs, rfl⟩
   | [], h => simp at h; omega
   | [a], h => simp at h; omega
 refine qe HF rfl (wp_exit (wp_seq ?_))
 refine qam (fun aS wS => Fr aS 101 [] [(69, .bool (decide (281474976710656 < x0 ∨ 281474976710656 < x1))), (40, .bool false), (11, .slice Ak ((x0 :: x1 :: vs).length) ck), (10, vI (1 + u : Nat)), (30, .bool false), (24, .bool false), (20, .bool false), (9, vP g9 0), (8, vI 0), (7, vI 0), (6, vP g6 0), (3, vP g3 0), (1, vB cpu), (2, .slice (some ⟨gA, oA, none⟩) n c)] ∧ Mem w wS [.row (.slice A37 ((usesL kd).length) c37) ((usesL kd).length) xs37 9 1, .row (.slice Ak ((x0 :: x1 :: vs).length) ck) ((x0 :: x1 :: vs).length) ((x0 :: x1 :: vs).map U64) 22 1, .blk g9 Ev.zero.cells 58, .blk g6 #[vI 0, vI 0, vB 0, vB 0, vI 0, vI 0, vI 0, vI 0, vI 0, vQ 0, vI 0] 58, .blk g3 b.cells 61]) ?_ ?_
 ·
  refine qa ?_
  refine fp HF 1 0 [(60, .slice Ak ((x0 :: x1 :: vs).length) ck)] fun a HF => ?_
  obtain ⟨gAk, rfl⟩ := qa7 (HM.own (i := 1) rfl) (Nat.lt_of_le_of_lt (Nat.zero_le _) (show 0 < (x0 :: x1 :: vs).length from by simp))
  refine fy HF HM 1 rfl rfl rfl (v := vP gAk 0) (Yl.indexAddr (ad := ⟨gAk, 0, none⟩) (y := 0) (sz := 1) rfl rfl rfl (by simp) (by kernel_rfl)) fun a HF => ?_
  refine fy HF HM 2 rfl rfl rfl (v := vQ x0) (Yl.qh rfl rfl (by kernel_rfl) (fun _ h => h.qa1 (i := 1) rfl (k := 0) (za (F := U64) (k := 0) (x := x0) (rfl)))) fun a HF => ?_
  refine fp HF 2 3 [(64, .bool (decide ((x0 : Int) > (281474976710656 : Int))))] fun a HF => ?_
  rcases HF.tf 64 rfl with ⟨hb64, HF⟩ | ⟨hb64, HF⟩
  ·
   refine fp HF 5 5 [(69, .bool true)] fun a HF => ?_
   refine qb rfl ?_
   have HF := HF.as (t := 69) (u := .bool (decide (281474976710656 < x0 ∨ 281474976710656 < x1))) rfl (congrArg Value.bool (by skip; (try simp at hb40); (try simp at hb64); rw [Bool.eq_iff_iff]; (try simp [hb40, hb64]); (try omega)))
   exact ⟨HF.sub (by kernel_rfl), HM.picks [0, 1, 2, 3, 4] (by decide) rfl⟩
  refine fp HF 1 5 [(65, vS gAk ((x0 :: x1 :: vs).length) ck)] fun a HF => ?_
  refine fy HF HM 6 rfl rfl rfl (v := vP gAk 1) (Yl.indexAddr (ad := ⟨gAk, 0, none⟩) (y := 1) (sz := 1) rfl rfl rfl (by simp) (by kernel_rfl)) fun a HF => ?_
  refine fy HF HM 7 rfl rfl rfl (v := vQ x1) (Yl.qh rfl rfl (by kernel_rfl) (fun _ h => h.qa1 (i := 1) rfl (k := 1) (za (F := U64) (k := 1) (x := x1) (rfl)))) fun a HF => ?_
  refine fp HF 2 8 [(69, .bool (decide ((x1 : Int) > (281474976710656 : Int))))] fun a HF => ?_
  refine qb rfl ?_
  have HF := HF.as (t := 69) (u := .bool (decide (281474976710656 < x0 ∨ 281474976710656 < x1))) rfl (congrArg Value.bool (by skip; (try simp at hb40); (try simp at hb64); rw [Bool.eq_iff_iff]; (try simp [hb40, hb64]); (try omega)))
  exact ⟨HF.sub (by kernel_rfl), HM.picks [0, 1, 2, 3, 4] (by decide) rfl⟩
 clear HF HM; rintro a w16 ⟨HF, HM⟩
 rcases HF.tf 69 rfl with ⟨hb69, HF⟩ | ⟨hb69, HF⟩
 ·
  have hfar : 281474976710656 < x0 ∨ 281474976710656 < x1 := by simpa using hb69
  refine qf HF rfl (wp_seq (qa ?_))
  refine fy HF HM 0 rfl rfl rfl (v := .agg Ev.zero.cells) (Yl.qx rfl rfl ⟨(by kernel_rfl), (by kernel_rfl)⟩ rfl (fun _ h => qd (h.blk (i := 2) rfl))) fun a HF => ?_
  refine fo HF 1 rfl rfl ?_
  refine e_sa HF HM 3 rfl rfl rfl rfl rfl ⟨(by kernel_rfl), (by kernel_rfl)⟩ rfl rfl (zn Ev.zero) ?_
  clear HM; intro w17_1 HM
  refine fp HF 2 2 [(8, vI 61), (7, vI 0)] fun a HF => ?_
  refine qb rfl (wp_ret ?_)
  replace HM := HM.picks (fs' := [.row (.slice Ak ((x0 :: x1 :: vs).length) ck) ((x0 :: x1 :: vs).length) ((x0 :: x1 :: vs).map U64) 22 1, .blk g9 Ev.zero.cells 58, .blk g6 Ev.zero.cells 58, .blk g3 b.cells 61]) [1, 2, 3, 4] (by decide) rfl
  exact ret3 rfl HF (.cellS (i := 2) HF HM rfl rfl ⟨(by kernel_rfl), (by kernel_rfl)⟩ rfl) (.tmp HF rfl) (.tmp HF rfl) (⟨by rw [show takeR b cpu _ = _ from (qgw hrt hku hj hge).trans (qp8 ⟨hbd.1, hbd.2.2.1⟩ hfar)]; rfl, HM.below⟩)
 have hnear : ¬ (281474976710656 < x0 ∨ 281474976710656 < x1) := by simpa using hb69
 have hev := qyr (x0 := x0) (x1 := x1) hbd hcpu hkd hnear
 refine qe HF rfl (wp_skip ?_)
 refine qam (fun aS wS => ∃ (g15 : Nat), Fr aS 101 [] [(16, vI ((b.ev cpu kd x0 x1).qy vs)), (15, vP g15 0), (69, .bool false), (40, .bool false), (11, .slice Ak ((x0 :: x1 :: vs).length) ck), (10, vI (1 + u : Nat)), (30, .bool false), (24, .bool false), (20, .bool false), (9, vP g9 0), (8, vI 0), (7, vI 0), (6, vP g6 0), (3, vP g3 0), (2, .slice (some ⟨gA, oA, none⟩) n c)] ∧ Mem w wS [.blk g15 (((b.ev cpu kd x0 x1).zj vs).cells) 58, .row (.slice Ak ((x0 :: x1 :: vs).length) ck) ((x0 :: x1 :: vs).length) ((x0 :: x1 :: vs).map U64) 22 1, .blk g9 Ev.zero.cells 58, .blk g6 #[vI 0, vI 0, vB 0, vB 0, vI 0, vI 0, vI 0, vI 0, vI 0, vQ 0, vI 0] 58, .blk g3 b.cells 61]) ?_ ?_
 ·
  refine zw HM [.row (.slice A37 ((usesL kd).length) c37) ((usesL kd).length) xs37 9 1, .row (.slice Ak ((x0 :: x1 :: vs).length) ck) ((x0 :: x1 :: vs).length) ((x0 :: x1 :: vs).map U64) 22 1, .blk g9 Ev.zero.cells 58, .blk g6 #[vI 0, vI 0, vB 0, vB 0, vI 0, vI 0, vI 0, vI 0, vI 0, vQ 0, vI 0] 58, .blk g3 b.cells 61] [0, 1, 2, 3, 4] [26] fun HM HS => ?_
  refine ap HF (fun _ => HS) [0, 2, 7, 9, 14, 15, 19] #[true, false, true, false, false, false, false, true, false, true, false, false, false, false, true, true, false, false, false, true, false, false, false, false, false, false, false, false] [(91, .slice Ak ((x0 :: x1 :: vs).length) ck), (87, .slice (some ⟨gA, oA, none⟩) n c), (86, vB cpu), (81, .slice Ak ((x0 :: x1 :: vs).length) ck), (79, vP g3 1), (74, .slice Ak ((x0 :: x1 :: vs).length) ck), (72, vP g3 0)] fun a HF => ?_
  refine ay HF HS 1 rfl rfl rfl (v := vI b.seq) (Yl.qh rfl rfl (by kernel_rfl) (fun _ h => h.cell (i := 4) rfl (rfl))) fun a HF => ?_
  obtain ⟨gAk, rfl⟩ := qa7 (HM.own (i := 1) rfl) (Nat.lt_of_le_of_lt (Nat.zero_le _) (show 0 < (x0 :: x1 :: vs).length from by simp))
  refine ay HF HS 3 rfl rfl rfl (v := vP gAk 0) (Yl.indexAddr (ad := ⟨gAk, 0, none⟩) (y := 0) (sz := 1) rfl rfl rfl (by simp) (by kernel_rfl)) fun a HF => ?_
  refine ay HF HS 4 rfl rfl rfl (v := vQ x0) (Yl.qh rfl rfl (by kernel_rfl) (fun _ h => h.qa1 (i := 1) rfl (k := 0) (za (F := U64) (k := 0) (x := x0) (rfl)))) fun a HF => ?_
  refine qo HF (fun _ => HS) (i := 5) rfl rfl (d := 77) rfl (by decide) (by kernel_rfl) (fun _ _ _ h => h) (v := vI (IntKind.i64.wrap (x0 : Int))) (fun _ => Yl.pure (by kernel_rfl)) fun a HF => ?_
  replace HF := HF.sp 77 (vI x0) rfl (by rw [IntWalk.i64_in _ (by omega)])
  refine qo HF (fun _ => HS) (i := 6) rfl rfl (d := 78) rfl (by decide) (by kernel_rfl) (fun _ _ _ h => h) (v := vI (IntKind.i64.wrap (b.seq + (x0 : Int)))) (fun _ => Yl.pure (by kernel_rfl)) fun a HF => ?_
  replace HF := HF.sp 78 (vI (b.seq + (x0 : Int))) rfl (by rw [IntWalk.i64_in _ (by omega)])
  refine ay HF HS 8 rfl rfl rfl (v := vI b.time) (Yl.qh rfl rfl (by kernel_rfl) (fun _ h => h.cell (i := 4) rfl (rfl))) fun a HF => ?_
  refine ay HF HS 10 rfl rfl rfl (v := vP gAk 1) (Yl.indexAddr (ad := ⟨gAk, 0, none⟩) (y := 1) (sz := 1) rfl rfl rfl (by simp) (by kernel_rfl)) fun a HF => ?_
  refine ay HF HS 11 rfl rfl rfl (v := vQ x1) (Yl.qh rfl rfl (by kernel_rfl) (fun _ h => h.qa1 (i := 1) rfl (k := 1) (za (F := U64) (k := 1) (x := x1) (rfl)))) fun a HF => ?_
  refine qo HF (fun _ => HS) (i := 12) rfl rfl (d := 84) rfl (by decide) (by kernel_rfl) (fun _ _ _ h => h) (v := vI (IntKind.i64.wrap (x1 : Int))) (fun _ => Yl.pure (by kernel_rfl)) fun a HF => ?_
  replace HF := HF.sp 84 (vI x1) rfl (by rw [IntWalk.i64_in _ (by omega)])
  refine qo HF (fun _ => HS) (i := 13) rfl rfl (d := 85) rfl (by decide) (by kernel_rfl) (fun _ _ _ h => h) (v := vI (IntKind.i64.wrap (b.time + (x1 : Int)))) (fun _ => Yl.pure (by kernel_rfl)) fun a HF => ?_
  replace HF := HF.sp 85 (vI (b.time + (x1 : Int))) rfl (by rw [IntWalk.i64_in _ (by omega)])
  refine ay HF HS 16 rfl rfl rfl (v := vP gA oA) (Yl.indexAddr (ad := ⟨gA, oA, none⟩) (y := 0) (sz := 1) rfl rfl rfl (by omega) (by kernel_rfl)) fun a HF => ?_
  refine ay HF HS 17 rfl rfl rfl (v := vB kd) (Yl.qh rfl rfl (by kernel_rfl) (fun _ h => (h.old hr).zt (k := 0) (za (F := B8) (k := 0) (x := kd) (rfl)))) fun a HF => ?_
  refine ay HF HS 18 rfl rfl rfl (v := .agg ((b.ev cpu kd x0 x1).cells)) ((Yl.build (vs := [(0, vI (b.seq + (x0 : Int))), (1, vI (b.time + (x1 : Int))), (2, vB cpu), (3, vB kd)]) rfl (by kernel_rfl) (by kernel_rfl))) fun a HF => ?_
  refine ay HF HS 20 rfl rfl rfl (v := .slice (if ck = 2 then some ⟨gAk, 0, none⟩ else (some ⟨gAk, 0, none⟩ : Option Addr).map (·.add (2 * 1))) (((x0 :: x1 :: vs).length) - 2) (ck - 2)) (Yl.sliceFrom qc5 (j := 2) rfl rfl rfl (by simp)) fun a HF => ?_
  refine qi [21, 25] (by kernel_rfl) rfl ?_
  refine all_cons ?_ ?_
  ·refine qj HF (i := 21) rfl rfl ?_
   refine e_cl HF [.agg ((b.ev cpu kd x0 x1).cells), .slice (if ck = 2 then some ⟨gAk, 0, none⟩ else (some ⟨gAk, 0, none⟩ : Option Addr).map (·.add (2 * 1))) (((x0 :: x1 :: vs).length) - 2) (ck - 2)] rfl rfl (qmh (b.ev cpu kd x0 x1) hev _ _ _ vs _ (by have h := (HM.rd (i := 1) rfl).from (k := 2) (by simp) hck; exact h) (fun y hy => hxs y (List.mem_cons_of_mem _ (List.mem_cons_of_mem _ hy)))) ?_
   rintro _ w93 ⟨rfl, hbw⟩
   refine ⟨_, rfl, ?_⟩
   replace HM := HM.call hbw
   clear HF; intro a HF
   refine keepS (HM.picks [0, 1, 2, 3, 4] (by decide) rfl) (fun HS => ?_)
   refine ap HF (fun _ => HS) [22, 23, 24] #[true, true, true, true, true, true, true, true, true, true, true, true, true, true, true, true, true, true, true, true, true, true, true, true, true, false, false, false] [(95, vI ((b.ev cpu kd x0 x1).qy vs)), (94, .agg (((b.ev cpu kd x0 x1).zj vs).cells))] fun a HF => ?_
   refine qi [25] (by kernel_rfl) rfl ?_
   refine all_cons ?_ all_nil
   refine qj HF (i := 25) rfl rfl ?_
   refine qz HF HM (cs := #[vI 0, vI 0, vB 0, vB 0, vI 0, vI 0, vI 0, vI 0, vI 0, vQ 0, vI 0]) rfl (by kernel_rfl) rfl (by decide) ?_
   clear HF HM; intro a w15 g15 HF HM
   refine keepS (HM.picks [1, 2, 3, 4, 5] (by decide) rfl) (fun HS => ?_)
   refine qi [26] (by kernel_rfl) rfl ?_
   refine all_cons ?_ all_nil
   refine qj HF (i := 26) rfl rfl ?_
   refine e_sa HF HM 0 rfl rfl rfl rfl rfl ⟨(by kernel_rfl), (by kernel_rfl)⟩ rfl rfl (zn ((b.ev cpu kd x0 x1).zj vs)) ?_
   clear HM; intro w18_26 HM
   refine noS (by kernel_rfl) ?_
   refine ap HF (pastS (by kernel_rfl)) [27] #[true, true, true, true, true, true, true, true, true, true, true, true, true, true, true, true, true, true, true, true, true, true, true, true, true, true, true, true] [(16, vI ((b.ev cpu kd x0 x1).qy vs))] fun a HF => ?_
   refine qm (by kernel_rfl) ?_
   replace HM := HM.picks (fs' := [.blk g15 (((b.ev cpu kd x0 x1).zj vs).cells) 58, .row (vS gAk ((x0 :: x1 :: vs).length) ck) ((x0 :: x1 :: vs).length) ((x0 :: x1 :: vs).map U64) 22 1, .blk g9 Ev.zero.cells 58, .blk g6 #[vI 0, vI 0, vB 0, vB 0, vI 0, vI 0, vI 0, vI 0, vI 0, vQ 0, vI 0] 58, .blk g3 b.cells 61]) [0, 2, 3, 4, 5] (by decide) rfl
   exact ⟨g15, HF.sub (by kernel_rfl), HM.picks [0, 1, 2, 3, 4] (by decide) rfl⟩
  refine all_cons ?_ all_nil
  refine qj HF (i := 25) rfl rfl ?_
  refine qz HF HM (cs := #[vI 0, vI 0, vB 0, vB 0, vI 0, vI 0, vI 0, vI 0, vI 0, vQ 0, vI 0]) rfl (by kernel_rfl) rfl (by decide) ?_
  clear HF HM; intro a w15 g15 HF HM
  refine keepS (HM.picks [1, 2, 3, 4, 5] (by decide) rfl) (fun HS => ?_)
  refine qi [21] (by kernel_rfl) rfl ?_
  refine all_cons ?_ all_nil
  refine qj HF (i := 21) rfl rfl ?_
  refine e_cl HF [.agg ((b.ev cpu kd x0 x1).cells), .slice (if ck = 2 then some ⟨gAk, 0, none⟩ else (some ⟨gAk, 0, none⟩ : Option Addr).map (·.add (2 * 1))) (((x0 :: x1 :: vs).length) - 2) (ck - 2)] rfl rfl (qmh (b.ev cpu kd x0 x1) hev _ _ _ vs _ (by have h := (HM.rd (i := 2) rfl).from (k := 2) (by simp) hck; exact h) (fun y hy => hxs y (List.mem_cons_of_mem _ (List.mem_cons_of_mem _ hy)))) ?_
  rintro _ w93 ⟨rfl, hbw⟩
  refine ⟨_, rfl, ?_⟩
  replace HM := HM.call hbw
  clear HF; intro a HF
  refine keepS (HM.picks [1, 2, 3, 4, 5] (by decide) rfl) (fun HS => ?_)
  refine ap HF (fun _ => HS) [22, 23, 24] #[true, true, true, true, true, true, true, true, true, true, true, true, true, true, true, true, true, true, true, true, true, true, true, true, true, true, false, false] [(95, vI ((b.ev cpu kd x0 x1).qy vs)), (94, .agg (((b.ev cpu kd x0 x1).zj vs).cells))] fun a HF => ?_
  refine qi [26] (by kernel_rfl) rfl ?_
  refine all_cons ?_ all_nil
  refine qj HF (i := 26) rfl rfl ?_
  refine e_sa HF HM 0 rfl rfl rfl rfl rfl ⟨(by kernel_rfl), (by kernel_rfl)⟩ rfl rfl (zn ((b.ev cpu kd x0 x1).zj vs)) ?_
  clear HM; intro w18_26 HM
  refine noS (by kernel_rfl) ?_
  refine ap HF (pastS (by kernel_rfl)) [27] #[true, true, true, true, true, true, true, true, true, true, true, true, true, true, true, true, true, true, true, true, true, true, true, true, true, true, true, true] [(16, vI ((b.ev cpu kd x0 x1).qy vs))] fun a HF => ?_
  refine qm (by kernel_rfl) ?_
  replace HM := HM.picks (fs' := [.blk g15 (((b.ev cpu kd x0 x1).zj vs).cells) 58, .row (vS gAk ((x0 :: x1 :: vs).length) ck) ((x0 :: x1 :: vs).length) ((x0 :: x1 :: vs).map U64) 22 1, .blk g9 Ev.zero.cells 58, .blk g6 #[vI 0, vI 0, vB 0, vB 0, vI 0, vI 0, vI 0, vI 0, vI 0, vQ 0, vI 0] 58, .blk g3 b.cells 61]) [0, 2, 3, 4, 5] (by decide) rfl
  exact ⟨g15, HF.sub (by kernel_rfl), HM.picks [0, 1, 2, 3, 4] (by decide) rfl⟩
 clear HF HM; rintro a w18 ⟨g15, HF, HM⟩
 refine wp_seq (wp_seq (qa ?_))
 refine fp HF 2 0 [(97, .bool (((b.ev cpu kd x0 x1).qy vs : Int) != (0 : Int)))] fun a HF => ?_
 refine qb rfl ?_
 rcases HF.tf 97 rfl with ⟨hb97, HF⟩ | ⟨hb97, HF⟩
 ·
  have hwe : (b.ev cpu kd x0 x1).qy vs ≠ 0 := by rw [bne_iff_ne] at hb97; omega
  refine qf HF rfl (wp_seq (qa ?_))
  refine fy HF HM 0 rfl rfl rfl (v := .agg Ev.zero.cells) (Yl.qx rfl rfl ⟨(by kernel_rfl), (by kernel_rfl)⟩ rfl (fun _ h => qd (h.blk (i := 2) rfl))) fun a HF => ?_
  refine fo HF 1 rfl rfl ?_
  refine e_sa HF HM 3 rfl rfl rfl rfl rfl ⟨(by kernel_rfl), (by kernel_rfl)⟩ rfl rfl (zn Ev.zero) ?_
  clear HM; intro w20_1 HM
  refine fp HF 2 2 [(8, vI 61), (7, vI 0)] fun a HF => ?_
  refine qb rfl (wp_ret ?_)
  exact ret3 rfl HF (.cellS (i := 3) HF HM rfl rfl ⟨(by kernel_rfl), (by kernel_rfl)⟩ rfl) (.tmp HF rfl) (.tmp HF rfl) (⟨by rw [show takeR b cpu _ = _ from (qgw hrt hku hj hge).trans (qp9 hwe)]; rfl, HM.below⟩)
 have hwe : (b.ev cpu kd x0 x1).qy vs = 0 := by rw [bne_eq_false_iff_eq] at hb97; omega
 refine qe HF rfl (wp_skip (wp_seq (qa ?_)))
 refine fy HF HM 0 rfl rfl rfl (v := .agg (((b.ev cpu kd x0 x1).zj vs).cells)) (Yl.qx rfl rfl ⟨(by kernel_rfl), (by kernel_rfl)⟩ rfl (fun _ h => qd (h.blk (i := 0) rfl))) fun a HF => ?_
 refine fp HF 1 1 [(100, vI (1 + u : Nat))] fun a HF => ?_
 refine fo HF 2 rfl rfl ?_
 refine e_sa HF HM 3 rfl rfl rfl rfl rfl ⟨(by kernel_rfl), (by kernel_rfl)⟩ rfl rfl (zn ((b.ev cpu kd x0 x1).zj vs)) ?_
 clear HM; intro w21_2 HM
 refine fp HF 2 3 [(8, vI 0), (7, vI (1 + u : Nat))] fun a HF => ?_
 refine qb rfl (wp_ret ?_)
 exact ret3 rfl HF (.cellS (i := 3) HF HM rfl rfl ⟨(by kernel_rfl), (by kernel_rfl)⟩ rfl) (.tmp HF rfl) (.tmp HF rfl) (⟨by rw [show takeR b cpu _ = _ from (qgw hrt hku hj hge).trans (qni hwe)]; rfl, HM.below⟩)
theorem qmi (b : Bs) (cpu : Nat) (hcpu : cpu < 256) (A : Option Addr) (n c : Nat) (l : List Nat) (w : World) (hr : Rd w w.heap.size 1 A n (l.map B8)) (hc : n ≤ c) (hl : ∀ b ∈ l, b < 256) (hn : n ≤ 140737488355328) (hln : l.length = n) {e : Ev} {L er : Nat} (h : takeR b cpu l = (e, L, er)) :
  Calls Tryz.prog 85 #[.agg b.cells, .int .u8 (cpu : Int), .slice A n c] w fun r w' => r = .returned (.tuple #[.agg e.cells, .int .i64 (L : Int), .int .i64 (er : Int)]) ∧ Below w.heap.size w w' :=
 (qqg b cpu hcpu A n c l w hr hc hl hn hln).mono fun _ _ p => ⟨by rw [p.ret, h], p.below⟩
theorem qqh (b : Bs) (cpu : Nat) (hcpu : cpu < 256) (m : Int) (hm : I64 m) (A : Option Addr) (n c : Nat) (l : List Nat) (w : World) (hr : Rd w w.heap.size 1 A n (l.map B8)) (hc : n ≤ c) (hl : ∀ b ∈ l, b < 256) (hn : n ≤ 1000000000) (hln : l.length = n) :
    Calls Tryz.prog 68 #[.agg b.cells, .int .u8 (cpu : Int), .int .i64 m, .slice A n c] w (EvsIs 58 w (readR b cpu m l)) := by
 refine qg (vs := [.agg b.cells, vB cpu, vI m, .slice A n c]) Tryz.func68 rfl rfl (by kernel_rfl) (σ0 := [(0, .agg b.cells), (1, vB cpu), (2, vI m), (3, .slice A n c)]) rfl ?_
 intro a HF
 have HM := Mem.start w
 refine wp_seq (qa ?_)
 refine fo HF 0 rfl rfl ?_
 refine e_box HF HM (cs := b.cells) rfl rfl rfl rfl (by decide) ?_
 clear HF HM; intro a w4 g4 HF HM
 refine fp HF 3 1 [(10, vI 0), (9, vI 0), (8, .slice none 0 0)] fun a HF => ?_
 refine qb rfl (wp_seq (wp_seq (qa ?_)))
 refine fp HF 2 0 [(17, .bool (decide ((m : Int) < (0 : Int))))] fun a HF => ?_
 refine qb rfl ?_
 rcases HF.tf 17 rfl with ⟨hb17, HF⟩ | ⟨hb17, HF⟩
 ·
  have hm0 : m < 0 := by simpa using hb17
  refine qf HF rfl (wp_seq (qa ?_))
  refine fp HF 3 0 [(10, vI 2), (9, vI 0), (8, .slice none 0 0)] fun a HF => ?_
  refine qb rfl (wp_ret ?_)
  exact ret3 rfl HF (.tmp HF rfl) (.tmp HF rfl) (.tmp HF rfl) (qew (er := 2) (by unfold readR; rw [if_pos hm0]) HM.below)
 have hm0 : ¬ m < 0 := by simpa using hb17
 refine qe HF rfl (wp_skip (wp_seq (wp_seq (qa ?_))))
 refine fy HF HM 0 rfl rfl rfl (v := .agg b.cells) (Yl.qx rfl rfl ⟨(by kernel_rfl), (by kernel_rfl)⟩ rfl (fun _ h => qd (h.blk (i := 0) rfl))) fun a HF => ?_
 refine fo HF 1 rfl rfl ?_
 refine e_cl HF [.agg b.cells] rfl rfl (qd1 b _) ?_
 rintro _ w19 ⟨rfl, hbw⟩
 refine ⟨_, rfl, ?_⟩
 replace HM := HM.call hbw
 clear HF; intro a HF
 refine fp HF 1 2 [(20, .bool (!b.right))] fun a HF => ?_
 refine qb rfl ?_
 rcases HF.tf 20 rfl with ⟨hb20, HF⟩ | ⟨hb20, HF⟩
 ·
  have hrf : b.right = false := by simpa using hb20
  refine qf HF rfl (wp_seq (qa ?_))
  refine fp HF 3 0 [(10, vI 70), (9, vI 0), (8, .slice none 0 0)] fun a HF => ?_
  refine qb rfl (wp_ret ?_)
  exact ret3 rfl HF (.tmp HF rfl) (.tmp HF rfl) (.tmp HF rfl) (qew (er := 70) (by unfold readR; rw [if_neg hm0, if_pos hrf]) HM.below)
 have hrt : b.right = true := by simpa using hb20
 refine qe HF rfl (wp_skip (wp_seq (qa ?_)))
 refine fp HF 1 0 [(11, .slice none 0 0)] fun a HF => ?_
 refine qb rfl ?_
 replace HM := HM.nil 58 11
 refine wp_seq (qa ?_)
 refine fp HF 1 0 [(12, vI 0)] fun a HF => ?_
 refine qb rfl (wp_seq (wp_block ?_))
 refine qv (fun mS aS wS => ∃ (es : List Ev) (u : Nat) (bk : Bs) (Ak : Option Addr) (ck : Nat), (ReadJn b cpu m.toNat l es u bk) ∧ (es.length ≤ ck) ∧ mS = m.toNat - es.length ∧ Fr aS 62 [] [(12, vI u), (11, .slice Ak es.length ck), (20, .bool false), (17, .bool false), (10, vI 0), (9, vI 0), (8, .slice none 0 0), (4, vP g4 0), (1, vB cpu), (2, vI m), (3, .slice A n c)] ∧ Mem w wS [.row (.slice Ak es.length ck) es.length (es.flatMap evL) 58 11, .blk g4 bk.cells 61]) (m := m.toNat - [].length) ⟨[], 0, b, none, 0, ReadJn.start _ _ _ _, Nat.le_refl _, rfl, HF.sub (by kernel_rfl), HM.picks [0, 1] (by decide) rfl⟩ ?_
 clear HF HM; rintro mS a w_ ⟨es, u, bk, Ak, ck, hat, hck, rfl, HF, HM⟩
 refine wp_seq (wp_seq (qa ?_))
 refine fp HF 1 0 [(21, .slice Ak es.length ck)] fun a HF => ?_
 refine fy HF HM 1 rfl rfl rfl (Yl.len rfl rfl (by kernel_rfl)) fun a HF => ?_
 refine fp HF 2 2 [(24, .bool (decide ((es.length : Int) < (m : Int))))] fun a HF => ?_
 refine qb rfl ?_
 rcases HF.tf 24 rfl with ⟨hb24, HF⟩ | ⟨hb24, HF⟩
 ·
  have hlt : es.length < m.toNat := by simp at hb24; omega
  have hu := hat.fits
  rw [hln] at hu
  have hmo := hat.most
  obtain ⟨e, L, er, hq⟩ : ∃ e L er, takeR bk cpu (l.drop u) = (e, L, er) := ⟨_, _, _, rfl⟩
  have htl := (qfp bk cpu (l.drop u)).1
  rw [hq, List.length_drop, hln] at htl
  simp only at htl
  refine qf HF rfl (wp_skip (wp_block ?_))
  refine qam (fun aS wS => ∃ (g13 : Nat), Fr aS 62 [] [(15, vI er), (14, vI L), (13, vP g13 0), (24, .bool true), (12, vI u), (11, .slice Ak es.length ck), (20, .bool false), (17, .bool false), (10, vI 0), (9, vI 0), (8, .slice none 0 0), (4, vP g4 0), (1, vB cpu), (2, vI m), (3, .slice A n c)] ∧ Mem w wS [.blk g13 e.cells 58, .row (.slice Ak es.length ck) es.length (es.flatMap evL) 58 11, .blk g4 bk.cells 61]) ?_ ?_
  ·
   refine zw HM [.row (.slice Ak es.length ck) es.length (es.flatMap evL) 58 11, .blk g4 bk.cells 61] [0, 1] [11] fun HM HS => ?_
   refine ap HF (fun _ => HS) [1, 2, 3] #[false, true, true, true, false, false, false, false, false, false, false, false, false, false] [(29, vI u), (28, .slice A n c), (27, vB cpu)] fun a HF => ?_
   refine ay HF HS 0 rfl rfl rfl (v := .agg bk.cells) (Yl.qx rfl rfl ⟨(by kernel_rfl), (by kernel_rfl)⟩ rfl (fun _ h => qd (h.blk (i := 1) rfl))) fun a HF => ?_
   refine ay HF HS 4 rfl rfl rfl (v := .slice (if c = u then A else A.map (·.add (u * 1))) (n - u) (c - u)) (Yl.sliceFrom ei_u8 (j := u) rfl rfl rfl (hu)) fun a HF => ?_
   refine qi [5, 10] (by kernel_rfl) rfl ?_
   refine all_cons ?_ ?_
   ·refine qj HF (i := 5) rfl rfl ?_
    refine e_cl HF [.agg bk.cells, vB cpu, .slice (if c = u then A else A.map (·.add (u * 1))) (n - u) (c - u)] rfl rfl (qmi bk cpu hcpu _ (n - u) (c - u) (l.drop u) _ (Rd.qhh (HM.old hr) (k := u) hu hc) (by omega) (fun y hy => hl y (List.mem_of_mem_drop hy)) (by omega) (by rw [List.length_drop]; omega) hq) ?_
    rintro _ w31 ⟨rfl, hbw⟩
    refine ⟨_, rfl, ?_⟩
    replace HM := HM.call hbw
    clear HF; intro a HF
    refine keepS (HM.picks [0, 1] (by decide) rfl) (fun HS => ?_)
    refine ap HF (fun _ => HS) [6, 7, 8, 9] #[true, true, true, true, true, true, true, true, true, true, false, false, false, false] [(34, vI er), (33, vI L), (32, .agg e.cells)] fun a HF => ?_
    refine qi [10] (by kernel_rfl) rfl ?_
    refine all_cons ?_ all_nil
    refine qj HF (i := 10) rfl rfl ?_
    refine qz HF HM (cs := #[vI 0, vI 0, vB 0, vB 0, vI 0, vI 0, vI 0, vI 0, vI 0, vQ 0, vI 0]) rfl (by kernel_rfl) rfl (by decide) ?_
    clear HF HM; intro a w13 g13 HF HM
    refine keepS (HM.picks [1, 2] (by decide) rfl) (fun HS => ?_)
    refine qi [11] (by kernel_rfl) rfl ?_
    refine all_cons ?_ all_nil
    refine qj HF (i := 11) rfl rfl ?_
    refine e_sa HF HM 0 rfl rfl rfl rfl rfl ⟨(by kernel_rfl), (by kernel_rfl)⟩ rfl rfl (zn e) ?_
    clear HM; intro w8_11 HM
    refine noS (by kernel_rfl) ?_
    refine ap HF (pastS (by kernel_rfl)) [12, 13] #[true, true, true, true, true, true, true, true, true, true, true, true, true, true] [(15, vI er), (14, vI L)] fun a HF => ?_
    refine qm (by kernel_rfl) ?_
    exact ⟨g13, HF.sub (by kernel_rfl), HM.picks [0, 1, 2] (by decide) rfl⟩
   refine all_cons ?_ all_nil
   refine qj HF (i := 10) rfl rfl ?_
   refine qz HF HM (cs := #[vI 0, vI 0, vB 0, vB 0, vI 0, vI 0, vI 0, vI 0, vI 0, vQ 0, vI 0]) rfl (by kernel_rfl) rfl (by decide) ?_
   clear HF HM; intro a w13 g13 HF HM
   refine keepS (HM.picks [1, 2] (by decide) rfl) (fun HS => ?_)
   refine qi [5] (by kernel_rfl) rfl ?_
   refine all_cons ?_ all_nil
   refine qj HF (i := 5) rfl rfl ?_
   refine e_cl HF [.agg bk.cells, vB cpu, .slice (if c = u then A else A.map (·.add (u * 1))) (n - u) (c - u)] rfl rfl (qmi bk cpu hcpu _ (n - u) (c - u) (l.drop u) _ (Rd.qhh (HM.old hr) (k := u) hu hc) (by omega) (fun y hy => hl y (List.mem_of_mem_drop hy)) (by omega) (by rw [List.length_drop]; omega) hq) ?_
   rintro _ w31 ⟨rfl, hbw⟩
   refine ⟨_, rfl, ?_⟩
   replace HM := HM.call hbw
   clear HF; intro a HF
   refine keepS (HM.picks [1, 2] (by decide) rfl) (fun HS => ?_)
   refine ap HF (fun _ => HS) [6, 7, 8, 9] #[true, true, true, true, true, true, true, true, true, true, true, false, false, false] [(34, vI er), (33, vI L), (32, .agg e.cells)] fun a HF => ?_
   refine qi [11] (by kernel_rfl) rfl ?_
   refine all_cons ?_ all_nil
   refine qj HF (i := 11) rfl rfl ?_
   refine e_sa HF HM 0 rfl rfl rfl rfl rfl ⟨(by kernel_rfl), (by kernel_rfl)⟩ rfl rfl (zn e) ?_
   clear HM; intro w8_11 HM
   refine noS (by kernel_rfl) ?_
   refine ap HF (pastS (by kernel_rfl)) [12, 13] #[true, true, true, true, true, true, true, true, true, true, true, true, true, true] [(15, vI er), (14, vI L)] fun a HF => ?_
   refine qm (by kernel_rfl) ?_
   exact ⟨g13, HF.sub (by kernel_rfl), HM.picks [0, 1, 2] (by decide) rfl⟩
  clear HF HM; rintro a w8 ⟨g13, HF, HM⟩
  refine wp_seq (wp_seq (qa ?_))
  refine fp HF 2 0 [(36, .bool ((er : Int) != (0 : Int)))] fun a HF => ?_
  refine qb rfl ?_
  rcases HF.tf 36 rfl with ⟨hb36, HF⟩ | ⟨hb36, HF⟩
  ·
   have her : er ≠ 0 := by rw [bne_iff_ne] at hb36; omega
   refine qf HF rfl (wp_seq (qa ?_))
   refine fp HF 4 0 [(10, vI er), (9, vI 0), (8, .slice none 0 0)] fun a HF => ?_
   refine qb rfl (wp_ret ?_)
   exact ret3 rfl HF (.tmp HF rfl) (.tmp HF rfl) (.tmp HF rfl) (qew (er := er) ((qkn hm0 hrt).trans (hat.bad hlt hq her)) HM.below)
  have her0 : er = 0 := by rw [bne_eq_false_iff_eq] at hb36; omega
  have hq0 : takeR bk cpu (l.drop u) = (e, L, 0) := by rw [hq, her0]
  refine qe HF rfl (wp_skip (wp_seq ?_))
  refine qam (fun aS wS => Fr aS 62 [] [(47, .bool (es.getLast?.any (fun q => decide (e.seq = q.seq)))), (36, .bool false), (15, vI er), (14, vI L), (13, vP g13 0), (24, .bool true), (12, vI u), (11, .slice Ak es.length ck), (20, .bool false), (17, .bool false), (10, vI 0), (9, vI 0), (8, .slice none 0 0), (4, vP g4 0), (1, vB cpu), (2, vI m), (3, .slice A n c)] ∧ Mem w wS [.blk g13 e.cells 58, .row (.slice Ak es.length ck) es.length (es.flatMap evL) 58 11, .blk g4 bk.cells 61]) ?_ ?_
  ·
   refine qa ?_
   refine fp HF 1 0 [(38, .slice Ak es.length ck)] fun a HF => ?_
   refine fy HF HM 1 rfl rfl rfl (Yl.len rfl rfl (by kernel_rfl)) fun a HF => ?_
   refine fp HF 2 2 [(41, .bool (decide ((es.length : Int) > (0 : Int))))] fun a HF => ?_
   rcases HF.tf 41 rfl with ⟨hb41, HF⟩ | ⟨hb41, HF⟩
   ·
    obtain ⟨q, hls⟩ : ∃ q, es.getLast? = some q := by cases es with
      | nil => simp at hb41
      | cons a r => exact ⟨_, List.getLast?_cons⟩
    have hbq := hat.last q hls
    refine fp HF 1 4 [(42, vP g13 0)] fun a HF => ?_
    refine fy HF HM 5 rfl rfl rfl (v := vI e.seq) (Yl.qh rfl rfl (by kernel_rfl) (fun _ h => h.cell (i := 0) rfl (rfl))) fun a HF => ?_
    refine fp HF 1 6 [(44, vP g4 0)] fun a HF => ?_
    refine fy HF HM 7 rfl rfl rfl (v := vI bk.seq) (Yl.qh rfl rfl (by kernel_rfl) (fun _ h => h.cell (i := 2) rfl (rfl))) fun a HF => ?_
    refine fp HF 2 8 [(47, .bool ((e.seq : Int) == (bk.seq : Int)))] fun a HF => ?_
    refine qb rfl ?_
    have HF := HF.as (t := 47) (u := .bool (es.getLast?.any (fun q => decide (e.seq = q.seq)))) rfl (congrArg Value.bool (by rw [hls]; rw [hbq]; rw [Bool.eq_iff_iff]; simp [Ev.at]))
    exact ⟨HF.sub (by kernel_rfl), HM.picks [0, 1, 2] (by decide) rfl⟩
   have hls : es.getLast? = none := by rw [List.length_eq_zero_iff.1 (show es.length = 0 by have := of_decide_eq_false hb41; omega)]; rfl
   refine fp HF 6 4 [(47, .bool false)] fun a HF => ?_
   refine qb rfl ?_
   have HF := HF.as (t := 47) (u := .bool (es.getLast?.any (fun q => decide (e.seq = q.seq)))) rfl (congrArg Value.bool (by rw [hls]; rfl))
   exact ⟨HF.sub (by kernel_rfl), HM.picks [0, 1, 2] (by decide) rfl⟩
  clear HF HM; rintro a w11 ⟨HF, HM⟩
  rcases HF.tf 47 rfl with ⟨hb47, HF⟩ | ⟨hb47, HF⟩
  ·
   refine qf HF rfl (wp_seq (qa ?_))
   refine fp HF 3 0 [(10, vI 71), (9, vI 0), (8, .slice none 0 0)] fun a HF => ?_
   refine qb rfl (wp_ret ?_)
   exact ret3 rfl HF (.tmp HF rfl) (.tmp HF rfl) (.tmp HF rfl) (qew (er := 71) ((qkn hm0 hrt).trans (hat.same hlt hq0 hb47)) HM.below)
  have hnx := hat.next hlt hq0 hb47
  refine qe HF rfl (wp_skip (wp_seq (qa ?_)))
  refine fp HF 1 0 [(48, .slice Ak es.length ck)] fun a HF => ?_
  refine fy HF HM 1 rfl rfl rfl (v := .agg e.cells) (Yl.qx rfl rfl ⟨(by kernel_rfl), (by kernel_rfl)⟩ rfl (fun _ h => qd (h.blk (i := 0) rfl))) fun a HF => ?_
  refine fo HF 2 rfl rfl ?_
  refine qp HF HM (vs := [(0, .agg e.cells)]) (cs := e.cells) rfl ql2 (by decide) rfl (by kernel_rfl) rfl (by decide) ?_
  clear HF HM; intro a w50 g50 HF HM
  refine fo HF 3 rfl rfl ?_
  refine qs HF HM (i := 2) rfl ql2 rfl rfl rfl (news := (evL e)) (HM.rdBlk (i := 0) (n := 1) (size := 11) rfl rfl) (zn e) (by omega) (by omega) rfl (by decide) ?_
  clear HF HM; intro a w51 A51 c51 HF HM hc51
  refine fp HF 1 4 [(11, .slice A51 (es.length + 1) c51)] fun a HF => ?_
  refine qb rfl ?_
  have hnA51 : es.length + 1 = (es ++ [e]).length := by simp
  replace HM := HM.reRow (i := 2) (ys := (es ++ [e]).flatMap evL) rfl hnA51 (by simp)
  rw [hnA51] at hc51
  replace HF := HF.as (t := 11) (u := .slice A51 ((es ++ [e]).length) c51) rfl (by rw [hnA51])
  replace HF := HF.as (t := 51) (u := .slice A51 ((es ++ [e]).length) c51) rfl (by rw [hnA51])
  refine wp_seq (qa ?_)
  refine fp HF 3 0 [(54, vI (IntKind.i64.wrap ((u : Int) + (L : Int))))] fun a HF => ?_
  replace HF := HF.sp 54 (vI (u + L : Nat)) rfl (by rw [IntWalk.i64_in _ (by omega)]; simp)
  refine fp HF 1 3 [(12, vI (u + L : Nat))] fun a HF => ?_
  refine qb rfl (qa ?_)
  refine fp HF 1 0 [(55, vP g13 0)] fun a HF => ?_
  refine fy HF HM 1 rfl rfl rfl (v := vI e.seq) (Yl.qh rfl rfl (by kernel_rfl) (fun _ h => h.cell (i := 1) rfl (rfl))) fun a HF => ?_
  refine fp HF 1 2 [(57, vP g13 1)] fun a HF => ?_
  refine fy HF HM 3 rfl rfl rfl (v := vI e.time) (Yl.qh rfl rfl (by kernel_rfl) (fun _ h => h.cell (i := 1) rfl (rfl))) fun a HF => ?_
  refine fy HF HM 4 rfl rfl rfl (v := .agg e.at.cells) ((Yl.build (vs := [(0, vI e.seq), (1, vI e.time)]) rfl (by kernel_rfl) (by kernel_rfl))) fun a HF => ?_
  refine fo HF 5 rfl rfl ?_
  refine e_sa HF HM 3 rfl rfl rfl rfl rfl ⟨(by kernel_rfl), (by kernel_rfl)⟩ rfl rfl (qn3 e.at) ?_
  clear HM; intro w15_5 HM
  refine qb rfl ?_
  exact ⟨_, (by simp; omega), es ++ [e], u + L, e.at, A51, c51, hnx, hc51, rfl, HF.sub (by kernel_rfl), HM.picks [2, 3] (by decide) rfl⟩
 have hge : m.toNat ≤ es.length := by simp at hb24; omega
 refine qe HF rfl (wp_exit (wp_seq (qa ?_)))
 refine fp HF 5 0 [(10, vI 0), (9, vI u), (8, .slice Ak es.length ck)] fun a HF => ?_
 refine qb rfl (wp_ret ?_)
 exact ret3 rfl HF (.tmp HF rfl) (.tmp HF rfl) (.tmp HF rfl) (qtd ((qkn hm0 hrt).trans (hat.done hge)) (HM.own (i := 0) rfl) hck HM.below)
theorem qnr (b : Bs) (A : Option Addr) (n c : Nat) (l : List Ev) (hok : ∀ e ∈ l, e.Ok) (w : World) (hr : Rd w w.heap.size 11 A n (l.flatMap evL)) (hn : n ≤ 1000000000) (hn47 : n ≤ 140737488355328) (hln : l.length = n) :
    Calls Tryz.prog 24 #[.agg b.cells, .slice A n c] w (qa3 w (zg b l) (zr b l)) := by
 refine qg (vs := [.agg b.cells, .slice A n c]) Tryz.func24 rfl rfl (by kernel_rfl) (σ0 := [(0, .agg b.cells), (1, .slice A n c)]) rfl ?_
 intro a HF
 have HM := Mem.start w
 refine wp_seq (qa ?_)
 refine fo HF 0 rfl rfl ?_
 refine e_box HF HM (cs := b.cells) rfl rfl rfl rfl (by decide) ?_
 clear HF HM; intro a w2 g2 HF HM
 refine fp HF 2 1 [(5, vI 0), (4, .slice none 0 0)] fun a HF => ?_
 refine qb rfl (wp_seq (wp_seq (qa ?_)))
 refine fp HF 1 0 [(13, .slice A n c)] fun a HF => ?_
 refine fo HF 1 rfl rfl ?_
 refine e_cl HF [.slice A n c] rfl rfl (qih _ _ _ l hok _ (HM.old hr) hn47 hln) ?_
 rintro _ w14 ⟨rfl, hbw⟩
 refine ⟨_, rfl, ?_⟩
 replace HM := HM.call hbw
 clear HF; intro a HF
 refine fp HF 5 2 [(7, vI ((rowR l).2))] fun a HF => ?_
 refine qb rfl (wp_seq (qa ?_))
 refine fp HF 2 0 [(18, .bool (((rowR l).2 : Int) != (0 : Int)))] fun a HF => ?_
 refine qb rfl ?_
 rcases HF.tf 18 rfl with ⟨hb18, HF⟩ | ⟨hb18, HF⟩
 ·
  have hr0 : (rowR l).2 ≠ 0 := by rw [bne_iff_ne] at hb18; omega
  refine qf HF rfl (wp_seq (qa ?_))
  refine fp HF 3 0 [(5, vI ((rowR l).2)), (4, .slice none 0 0)] fun a HF => ?_
  refine qb rfl (wp_ret ?_)
  exact ret2 rfl HF (.tmp HF rfl) (.tmp HF rfl) (qej (ql4 hr0) (hr0) HM.below)
 have hr0 : (rowR l).2 = 0 := by rw [bne_eq_false_iff_eq] at hb18; omega
 refine qe HF rfl (wp_skip (wp_seq (wp_seq (qa ?_))))
 refine fy HF HM 0 rfl rfl rfl (v := .agg b.cells) (Yl.qx rfl rfl ⟨(by kernel_rfl), (by kernel_rfl)⟩ rfl (fun _ h => qd (h.blk (i := 0) rfl))) fun a HF => ?_
 refine fo HF 1 rfl rfl ?_
 refine e_cl HF [.agg b.cells] rfl rfl (qd1 b _) ?_
 rintro _ w21 ⟨rfl, hbw⟩
 refine ⟨_, rfl, ?_⟩
 replace HM := HM.call hbw
 clear HF; intro a HF
 refine fp HF 1 2 [(22, .bool (!b.right))] fun a HF => ?_
 refine qb rfl ?_
 rcases HF.tf 22 rfl with ⟨hb22, HF⟩ | ⟨hb22, HF⟩
 ·
  have hrf : ¬ b.right = true := by simpa using hb22
  refine qf HF rfl (wp_seq (qa ?_))
  refine fp HF 2 0 [(5, vI 70), (4, .slice none 0 0)] fun a HF => ?_
  refine qb rfl (wp_ret ?_)
  exact ret2 rfl HF (.tmp HF rfl) (.tmp HF rfl) (qej (qkm hr0 hrf) (by decide) HM.below)
 have hrt : b.right = true := by simpa using hb22
 refine qe HF rfl (wp_skip (wp_seq (qa ?_)))
 refine fp HF 1 0 [(8, .slice none 0 0)] fun a HF => ?_
 refine qb rfl ?_
 replace HM := HM.nil 5 1
 refine wp_seq (wp_seq (qa ?_))
 refine fp HF 1 0 [(9, vI 0)] fun a HF => ?_
 refine qb rfl (wp_block ?_)
 refine qv (fun mS aS wS => ∃ (k : Nat) (bk : Bs) (Ak : Option Addr) (ck : Nat), (k ≤ n) ∧ (WriteAt b l k bk) ∧ ((zp b l k).length ≤ ck) ∧ mS = n - k ∧ Fr aS 56 [] [(9, vI k), (8, .slice Ak ((zp b l k).length) ck), (22, .bool false), (18, .bool false), (7, vI ((rowR l).2)), (5, vI 0), (4, .slice none 0 0), (2, vP g2 0), (1, .slice A n c)] ∧ Mem w wS [.row (.slice Ak ((zp b l k).length) ck) ((zp b l k).length) ((zp b l k).map B8) 5 1, .blk g2 bk.cells 61]) (m := n - 0) ⟨0, b, none, 0, Nat.zero_le _, WriteAt.start b l, Nat.le_refl _, rfl, HF.sub (by kernel_rfl), HM.picks [0, 1] (by decide) rfl⟩ ?_
 clear HF HM; rintro mS a w_ ⟨k, bk, Ak, ck, hk, hat, hck, rfl, HF, HM⟩
 refine wp_seq (wp_seq (qa ?_))
 refine fp HF 2 0 [(24, .slice A n c), (23, vI k)] fun a HF => ?_
 refine fy HF HM 2 rfl rfl rfl (Yl.len rfl rfl (by kernel_rfl)) fun a HF => ?_
 refine fp HF 1 3 [(26, .bool (decide ((k : Int) < (n : Int))))] fun a HF => ?_
 refine qb rfl ?_
 rcases HF.tf 26 rfl with ⟨hb26, HF⟩ | ⟨hb26, HF⟩
 ·
  have hk26 : k < n := by simp at hb26; omega
  obtain ⟨e, hke⟩ : ∃ e, l[k]? = some e := ⟨_, List.getElem?_eq_getElem (by omega)⟩
  have hpl := qtc bk e
  have hwl := qnj b l k
  refine qf HF rfl (wp_skip (wp_seq (wp_block (wp_seq ?_))))
  refine zw HM [.row (.slice Ak ((zp b l k).length) ck) ((zp b l k).length) ((zp b l k).map B8) 5 1, .blk g2 bk.cells 61] [0, 1] [] fun HM HS => ?_
  refine ap HF (fun _ => HS) [1, 2] #[false, true, true, false, false, false, false, false, false, false, false] [(32, vI k), (31, .slice A n c)] fun a HF => ?_
  refine ay HF HS 0 rfl rfl rfl (v := .agg bk.cells) (Yl.qx rfl rfl ⟨(by kernel_rfl), (by kernel_rfl)⟩ rfl (fun _ h => qd (h.blk (i := 1) rfl))) fun a HF => ?_
  obtain ⟨gA, oA, rfl, _⟩ := hr.zl (Nat.lt_of_le_of_lt (Nat.zero_le _) (show k < n from hk26)) (by decide)
  refine ay HF HS 3 rfl rfl rfl (v := vP gA (oA + k * 11)) (Yl.ix gA oA k 11 rfl rfl rfl (hk26)) fun a HF => ?_
  refine ay HF HS 4 rfl rfl rfl (v := .agg e.cells) (Yl.qx rfl rfl ⟨(by kernel_rfl), (by kernel_rfl)⟩ rfl (fun _ h => (h.old hr).qb8 zf (hke))) fun a HF => ?_
  refine qi [5] (by kernel_rfl) rfl ?_
  refine all_cons ?_ all_nil
  refine qj HF (i := 5) rfl rfl ?_
  refine e_cl HF [.agg bk.cells, .agg e.cells] rfl rfl (qtt bk e (hok e (List.mem_of_getElem? hke)) _) ?_
  rintro _ w35 ⟨⟨A35, c35, rfl, ho, hc35⟩, hbw⟩
  refine ⟨_, rfl, ?_⟩
  replace HM := HM.callRow hbw ho
  clear HF; intro a HF
  refine keepS (HM.picks [1, 2] (by decide) rfl) (fun HS => ?_)
  refine ap HF (fun _ => HS) [6, 7, 8, 9, 10] #[true, true, true, true, true, true, true, true, true, true, true] [(11, vI (zh bk e)), (10, .slice A35 ((qai bk e).length) c35)] fun a HF => ?_
  refine qm (by kernel_rfl) ?_
  refine wp_seq (wp_seq (qa ?_))
  refine fp HF 2 0 [(39, .bool ((zh bk e : Int) != (0 : Int)))] fun a HF => ?_
  refine qb rfl ?_
  rcases HF.tf 39 rfl with ⟨hb39, HF⟩ | ⟨hb39, HF⟩
  ·
   have hpe : zh bk e ≠ 0 := by rw [bne_iff_ne] at hb39; omega
   have hk00 : k = 0 := hat.bad hr0 hrt hke hpe
   have hend := hat.fail hr0 hrt hke hk00 hpe
   refine qf HF rfl (wp_seq (qa ?_))
   refine fp HF 3 0 [(5, vI (zh bk e)), (4, .slice none 0 0)] fun a HF => ?_
   refine qb rfl (wp_ret ?_)
   exact ret2 rfl HF (.tmp HF rfl) (.tmp HF rfl) (qej (hend) (hpe) HM.below)
  have hpe : zh bk e = 0 := by rw [bne_eq_false_iff_eq] at hb39; omega
  have hup := hat.up hke hpe
  have hnx := hat.next hke hpe
  refine qe HF rfl (wp_skip (wp_seq (qa ?_)))
  refine fp HF 2 0 [(42, .slice A35 ((qai bk e).length) c35), (41, .slice Ak ((zp b l k).length) ck)] fun a HF => ?_
  refine fo HF 2 rfl rfl ?_
  refine qs HF HM (i := 1) rfl ei_u8 rfl rfl rfl (news := ((qai bk e).map B8)) (HM.rd (i := 0) rfl) (qaa _) (by omega) (by omega) rfl (by decide) ?_
  clear HF HM; intro a w43 A43 c43 HF HM hc43
  refine fp HF 1 3 [(8, .slice A43 (((zp b l k).length) + ((qai bk e).length)) c43)] fun a HF => ?_
  refine qb rfl ?_
  have hnA43 : ((zp b l k).length) + ((qai bk e).length) = (zp b l (k + 1)).length := by rw [hup]; simp
  replace HM := HM.reRow (i := 1) (ys := (zp b l (k + 1)).map B8) rfl hnA43 (by rw [hup]; simp)
  rw [hnA43] at hc43
  replace HF := HF.as (t := 8) (u := .slice A43 ((zp b l (k + 1)).length) c43) rfl (by rw [hnA43])
  replace HF := HF.as (t := 43) (u := .slice A43 ((zp b l (k + 1)).length) c43) rfl (by rw [hnA43])
  refine zw HM [.row (.slice A35 ((qai bk e).length) c35) ((qai bk e).length) ((qai bk e).map B8) 5 1, .row (.slice A43 ((zp b l (k + 1)).length) c43) ((zp b l (k + 1)).length) ((zp b l (k + 1)).map B8) 5 1, .blk g2 bk.cells 61] [0, 1, 2] [11] fun HM HS => ?_
  refine ap HF (fun _ => HS) [0, 1, 5, 6] #[true, true, false, false, false, true, true, false, false, false, false, false] [(50, vI k), (49, .slice (some ⟨gA, oA, none⟩) n c), (45, vI k), (44, .slice (some ⟨gA, oA, none⟩) n c)] fun a HF => ?_
  refine ay HF HS 2 rfl rfl rfl (v := vP gA (oA + k * 11)) (Yl.ix gA oA k 11 rfl rfl rfl (hk26)) fun a HF => ?_
  refine ap HF (fun _ => HS) [3] #[true, true, true, true, false, true, true, false, false, false, false, false] [(47, vP gA (oA + k * 11))] fun a HF => ?_
  refine ay HF HS 4 rfl rfl rfl (v := vI e.seq) (Yl.qh rfl rfl (by kernel_rfl) (fun _ h => (by have := (h.old hr).partAt zf (k := k) (j := 0) (x := e) (hke) rfl; simpa using this))) fun a HF => ?_
  refine ay HF HS 7 rfl rfl rfl (v := vP gA (oA + k * 11)) (Yl.ix gA oA k 11 rfl rfl rfl (hk26)) fun a HF => ?_
  refine ap HF (fun _ => HS) [8] #[true, true, true, true, true, true, true, true, true, false, false, false] [(52, vP gA (oA + k * 11 + 1))] fun a HF => ?_
  refine ay HF HS 9 rfl rfl rfl (v := vI e.time) (Yl.qh rfl rfl (by kernel_rfl) (fun _ h => (h.old hr).partAt zf (k := k) (j := 1) (x := e) (hke) rfl)) fun a HF => ?_
  refine ay HF HS 10 rfl rfl rfl (v := .agg e.at.cells) ((Yl.build (vs := [(0, vI e.seq), (1, vI e.time)]) rfl (by kernel_rfl) (by kernel_rfl))) fun a HF => ?_
  refine qi [11] (by kernel_rfl) rfl ?_
  refine all_cons ?_ all_nil
  refine qj HF (i := 11) rfl rfl ?_
  refine e_sa HF HM 2 rfl rfl rfl rfl rfl ⟨(by kernel_rfl), (by kernel_rfl)⟩ rfl rfl (qn3 e.at) ?_
  clear HM; intro w14_11 HM
  refine noS (by kernel_rfl) ?_
  refine qm (by kernel_rfl) ?_
  refine qa ?_
  refine fp HF 2 0 [(28, vI (IntKind.i64.wrap ((k : Int) + 1)))] fun a HF => ?_
  replace HF := HF.sp 28 (vI (k + 1 : Nat)) rfl (by rw [IntWalk.i64_in _ (by omega)]; simp)
  refine fp HF 1 2 [(9, vI (k + 1 : Nat))] fun a HF => ?_
  refine qb rfl ?_
  exact ⟨_, (by omega), k + 1, e.at, A43, c43, by omega, hnx, hc43, rfl, HF.sub (by kernel_rfl), HM.picks [1, 2] (by decide) rfl⟩
 obtain rfl : n = k := by simp at hb26; omega
 refine qe HF rfl (wp_exit (wp_seq (qa ?_)))
 refine fp HF 3 0 [(5, vI 0), (4, .slice Ak ((zp b l n).length) ck)] fun a HF => ?_
 refine qb rfl (wp_ret ?_)
 exact ret2 rfl HF (.tmp HF rfl) (.tmp HF rfl) (hat.done hr0 hrt hln (HM.own (i := 0) rfl) hck HM.below)
theorem qjr (b : Bk) (hok : b.Ok) (A : Option Addr) (c : Nat) (w : World) (hr : Rd w w.heap.size 11 A b.evs.length (b.evs.flatMap evL)) (hn : b.evs.length ≤ 1000000) :
    Calls Tryz.prog 40 #[.agg (b.cells A c)] w (Is w (.bool b.fits)) := by
 refine qg (vs := [.agg (b.cells A c)]) Tryz.func40 rfl rfl (by kernel_rfl) (σ0 := [(0, .agg (b.cells A c))]) rfl ?_
 intro a HF
 have HM := Mem.start w
 refine wp_seq (qa ?_)
 refine fo HF 0 rfl rfl ?_
 refine e_box HF HM (cs := (b.cells A c)) rfl rfl rfl rfl (by decide) ?_
 clear HF HM; intro a w1 g1 HF HM
 refine fp HF 1 1 [(2, .bool false)] fun a HF => ?_
 refine qb rfl (wp_seq (wp_seq (qa ?_)))
 refine fp HF 1 0 [(6, vP g1 0)] fun a HF => ?_
 refine fy HF HM 1 rfl rfl rfl (v := vB b.kind) (Yl.qh rfl rfl (by kernel_rfl) (fun _ h => h.cell (i := 0) rfl (rfl))) fun a HF => ?_
 refine fp HF 1 2 [(8, .bool ((b.kind : Int) == (2 : Int)))] fun a HF => ?_
 refine qb rfl ?_
 rcases HF.tf 8 rfl with ⟨hb8, HF⟩ | ⟨hb8, HF⟩
 ·
  have hd8 := eq_of_beq hb8
  refine qf HF rfl (wp_seq (qa ?_))
  refine fp HF 1 0 [(9, vP g1 3)] fun a HF => ?_
  refine fy HF HM 1 rfl rfl rfl (v := vI b.next) (Yl.qh rfl rfl (by kernel_rfl) (fun _ h => h.cell (i := 0) rfl (rfl))) fun a HF => ?_
  refine fp HF 2 2 [(12, .bool (decide ((b.next : Int) ≥ (1 : Int))))] fun a HF => ?_
  rcases HF.tf 12 rfl with ⟨hb12, HF⟩ | ⟨hb12, HF⟩
  ·
   have hd12 := of_decide_eq_true hb12
   refine fp HF 1 4 [(13, vP g1 3)] fun a HF => ?_
   refine fy HF HM 5 rfl rfl rfl (v := vI b.next) (Yl.qh rfl rfl (by kernel_rfl) (fun _ h => h.cell (i := 0) rfl (rfl))) fun a HF => ?_
   refine fp HF 3 6 [(17, .bool (decide ((b.next : Int) ≤ (281474976710657 : Int))))] fun a HF => ?_
   rcases HF.tf 17 rfl with ⟨hb17, HF⟩ | ⟨hb17, HF⟩
   ·
    have hd17 := of_decide_eq_true hb17
    refine fp HF 1 9 [(18, vP g1 1)] fun a HF => ?_
    refine fy HF HM 10 rfl rfl rfl (v := vB b.cpu) (Yl.qh rfl rfl (by kernel_rfl) (fun _ h => h.cell (i := 0) rfl (rfl))) fun a HF => ?_
    refine fp HF 3 11 [(22, .bool ((b.cpu : Int) == (0 : Int)))] fun a HF => ?_
    rcases HF.tf 22 rfl with ⟨hb22, HF⟩ | ⟨hb22, HF⟩
    ·
     have hd22 := eq_of_beq hb22
     refine fp HF 1 14 [(23, vP g1 2)] fun a HF => ?_
     refine fy HF HM 15 rfl rfl rfl (v := vI b.lost) (Yl.qh rfl rfl (by kernel_rfl) (fun _ h => h.cell (i := 0) rfl (rfl))) fun a HF => ?_
     refine fp HF 3 16 [(27, .bool ((b.lost : Int) == (0 : Int)))] fun a HF => ?_
     rcases HF.tf 27 rfl with ⟨hb27, HF⟩ | ⟨hb27, HF⟩
     ·
      have hd27 := eq_of_beq hb27
      refine fp HF 1 19 [(28, vP g1 4)] fun a HF => ?_
      refine fy HF HM 20 rfl rfl rfl (v := .slice A b.evs.length c) (Yl.qh rfl rfl (by kernel_rfl) (fun _ h => h.cell (i := 0) rfl (rfl))) fun a HF => ?_
      refine fy HF HM 21 rfl rfl rfl (Yl.len rfl rfl (by kernel_rfl)) fun a HF => ?_
      refine fp HF 3 22 [(2, .bool ((b.evs.length : Int) == (0 : Int)))] fun a HF => ?_
      refine qb rfl (wp_ret ?_)
      exact ret1 rfl HF (.tmp HF rfl) (⟨congrArg (fun x => Ending.returned (.bool x)) (by rw [qf3 (by omega), Bool.eq_iff_iff, beq_iff_eq, decide_eq_true_eq]; omega), HM.below⟩)
     have hd27 := ne_of_beq_false hb27
     refine fp HF 6 19 [(2, .bool false)] fun a HF => ?_
     refine qb rfl (wp_ret ?_)
     exact ret1 rfl HF (.tmp HF rfl) (⟨by rw [qf3 (by omega), decide_eq_false (by omega)], HM.below⟩)
    have hd22 := ne_of_beq_false hb22
    refine fp HF 11 14 [(2, .bool false)] fun a HF => ?_
    refine qb rfl (wp_ret ?_)
    exact ret1 rfl HF (.tmp HF rfl) (⟨by rw [qf3 (by omega), decide_eq_false (by omega)], HM.below⟩)
   have hd17 := of_decide_eq_false hb17
   refine fp HF 16 9 [(2, .bool false)] fun a HF => ?_
   refine qb rfl (wp_ret ?_)
   exact ret1 rfl HF (.tmp HF rfl) (⟨by rw [qf3 (by omega), decide_eq_false (by omega)], HM.below⟩)
  have hd12 := of_decide_eq_false hb12
  refine fp HF 21 4 [(2, .bool false)] fun a HF => ?_
  refine qb rfl (wp_ret ?_)
  exact ret1 rfl HF (.tmp HF rfl) (⟨by rw [qf3 (by omega), decide_eq_false (by omega)], HM.below⟩)
 have hd8 := ne_of_beq_false hb8
 refine qe HF rfl (wp_skip (wp_seq (wp_seq (qa ?_))))
 refine fp HF 1 0 [(33, vP g1 0)] fun a HF => ?_
 refine fy HF HM 1 rfl rfl rfl (v := vB b.kind) (Yl.qh rfl rfl (by kernel_rfl) (fun _ h => h.cell (i := 0) rfl (rfl))) fun a HF => ?_
 refine fp HF 2 2 [(36, .bool ((b.kind : Int) != (1 : Int)))] fun a HF => ?_
 rcases HF.tf 36 rfl with ⟨hb36, HF⟩ | ⟨hb36, HF⟩
 ·
  have hd36 := bne_iff_ne.1 hb36
  refine fp HF 30 4 [(66, .bool true)] fun a HF => ?_
  refine qb rfl (qf HF rfl (wp_seq (qa ?_)))
  refine fp HF 1 0 [(2, .bool false)] fun a HF => ?_
  refine qb rfl (wp_ret ?_)
  exact ret1 rfl HF (.tmp HF rfl) (⟨by rw [qeu (by omega) (by omega)], HM.below⟩)
 have hd36 := bne_eq_false_iff_eq.1 hb36
 refine fp HF 1 4 [(37, vP g1 1)] fun a HF => ?_
 refine fy HF HM 5 rfl rfl rfl (v := vB b.cpu) (Yl.qh rfl rfl (by kernel_rfl) (fun _ h => h.cell (i := 0) rfl (rfl))) fun a HF => ?_
 refine fp HF 3 6 [(41, .bool (decide ((b.cpu : Int) > (63 : Int))))] fun a HF => ?_
 rcases HF.tf 41 rfl with ⟨hb41, HF⟩ | ⟨hb41, HF⟩
 ·
  have hd41 := of_decide_eq_true hb41
  refine fp HF 25 9 [(66, .bool true)] fun a HF => ?_
  refine qb rfl (qf HF rfl (wp_seq (qa ?_)))
  refine fp HF 1 0 [(2, .bool false)] fun a HF => ?_
  refine qb rfl (wp_ret ?_)
  exact ret1 rfl HF (.tmp HF rfl) (⟨by rw [qeu (by omega) (by omega)], HM.below⟩)
 have hd41 := of_decide_eq_false hb41
 refine fp HF 1 9 [(42, vP g1 2)] fun a HF => ?_
 refine fy HF HM 10 rfl rfl rfl (v := vI b.lost) (Yl.qh rfl rfl (by kernel_rfl) (fun _ h => h.cell (i := 0) rfl (rfl))) fun a HF => ?_
 refine fp HF 3 11 [(46, .bool (decide ((b.lost : Int) < (0 : Int))))] fun a HF => ?_
 rcases HF.tf 46 rfl with ⟨hb46, HF⟩ | ⟨hb46, HF⟩
 ·
  have hd46 := of_decide_eq_true hb46
  refine fp HF 20 14 [(66, .bool true)] fun a HF => ?_
  refine qb rfl (qf HF rfl (wp_seq (qa ?_)))
  refine fp HF 1 0 [(2, .bool false)] fun a HF => ?_
  refine qb rfl (wp_ret ?_)
  exact ret1 rfl HF (.tmp HF rfl) (⟨by rw [qeu (by omega) (by omega)], HM.below⟩)
 have hd46 := of_decide_eq_false hb46
 refine fp HF 1 14 [(47, vP g1 2)] fun a HF => ?_
 refine fy HF HM 15 rfl rfl rfl (v := vI b.lost) (Yl.qh rfl rfl (by kernel_rfl) (fun _ h => h.cell (i := 0) rfl (rfl))) fun a HF => ?_
 refine fp HF 3 16 [(51, .bool (decide ((b.lost : Int) > (281474976710656 : Int))))] fun a HF => ?_
 rcases HF.tf 51 rfl with ⟨hb51, HF⟩ | ⟨hb51, HF⟩
 ·
  have hd51 := of_decide_eq_true hb51
  refine fp HF 15 19 [(66, .bool true)] fun a HF => ?_
  refine qb rfl (qf HF rfl (wp_seq (qa ?_)))
  refine fp HF 1 0 [(2, .bool false)] fun a HF => ?_
  refine qb rfl (wp_ret ?_)
  exact ret1 rfl HF (.tmp HF rfl) (⟨by rw [qeu (by omega) (by omega)], HM.below⟩)
 have hd51 := of_decide_eq_false hb51
 refine fp HF 1 19 [(52, vP g1 3)] fun a HF => ?_
 refine fy HF HM 20 rfl rfl rfl (v := vI b.next) (Yl.qh rfl rfl (by kernel_rfl) (fun _ h => h.cell (i := 0) rfl (rfl))) fun a HF => ?_
 refine fp HF 3 21 [(56, .bool ((b.next : Int) != (0 : Int)))] fun a HF => ?_
 rcases HF.tf 56 rfl with ⟨hb56, HF⟩ | ⟨hb56, HF⟩
 ·
  have hd56 := bne_iff_ne.1 hb56
  refine fp HF 10 24 [(66, .bool true)] fun a HF => ?_
  refine qb rfl (qf HF rfl (wp_seq (qa ?_)))
  refine fp HF 1 0 [(2, .bool false)] fun a HF => ?_
  refine qb rfl (wp_ret ?_)
  exact ret1 rfl HF (.tmp HF rfl) (⟨by rw [qeu (by omega) (by omega)], HM.below⟩)
 have hd56 := bne_eq_false_iff_eq.1 hb56
 refine fp HF 1 24 [(57, vP g1 2)] fun a HF => ?_
 refine fy HF HM 25 rfl rfl rfl (v := vI b.lost) (Yl.qh rfl rfl (by kernel_rfl) (fun _ h => h.cell (i := 0) rfl (rfl))) fun a HF => ?_
 refine fp HF 2 26 [(60, .bool ((b.lost : Int) == (0 : Int)))] fun a HF => ?_
 rcases HF.tf 60 rfl with ⟨hb60, HF⟩ | ⟨hb60, HF⟩
 ·
  have hd60 := eq_of_beq hb60
  refine fp HF 1 28 [(61, vP g1 4)] fun a HF => ?_
  refine fy HF HM 29 rfl rfl rfl (v := .slice A b.evs.length c) (Yl.qh rfl rfl (by kernel_rfl) (fun _ h => h.cell (i := 0) rfl (rfl))) fun a HF => ?_
  refine fy HF HM 30 rfl rfl rfl (Yl.len rfl rfl (by kernel_rfl)) fun a HF => ?_
  refine fp HF 3 31 [(66, .bool ((b.evs.length : Int) == (0 : Int)))] fun a HF => ?_
  refine qb rfl ?_
  rcases HF.tf 66 rfl with ⟨hb66, HF⟩ | ⟨hb66, HF⟩
  ·
   have hd66 := eq_of_beq hb66
   refine qf HF rfl (wp_seq (qa ?_))
   refine fp HF 1 0 [(2, .bool false)] fun a HF => ?_
   refine qb rfl (wp_ret ?_)
   exact ret1 rfl HF (.tmp HF rfl) (⟨by rw [qeu (by omega) (by omega)], HM.below⟩)
  have hd66 := ne_of_beq_false hb66
  refine qe HF rfl (wp_skip (wp_seq (wp_seq (qa ?_))))
  refine fp HF 1 0 [(3, vI 0)] fun a HF => ?_
  refine qb rfl (wp_block ?_)
  refine qv (fun mS aS wS => ∃ (k : Nat), (k ≤ b.evs.length) ∧ (∀ i, i < k → (b.evs.getD i Ev.zero).cpu = b.cpu) ∧ mS = b.evs.length - k ∧ Fr aS 91 [] [(3, vI k), (66, .bool false), (8, .bool false), (2, .bool false), (1, vP g1 0)] ∧ Mem w wS [.blk g1 (b.cells A c) 37]) (m := b.evs.length - 0) ⟨0, Nat.zero_le _, fun i hi => absurd hi (Nat.not_lt_zero _), rfl, HF.sub (by kernel_rfl), HM.picks [0] (by decide) rfl⟩ ?_
  clear HF HM; rintro mS a w_ ⟨k, hk, hall, rfl, HF, HM⟩
  refine wp_seq (wp_seq (qa ?_))
  refine fp HF 2 0 [(68, vP g1 4), (67, vI k)] fun a HF => ?_
  refine fy HF HM 2 rfl rfl rfl (v := .slice A b.evs.length c) (Yl.qh rfl rfl (by kernel_rfl) (fun _ h => h.cell (i := 0) rfl (rfl))) fun a HF => ?_
  refine fy HF HM 3 rfl rfl rfl (Yl.len rfl rfl (by kernel_rfl)) fun a HF => ?_
  refine fp HF 1 4 [(71, .bool (decide ((k : Int) < (b.evs.length : Int))))] fun a HF => ?_
  refine qb rfl ?_
  rcases HF.tf 71 rfl with ⟨hb71, HF⟩ | ⟨hb71, HF⟩
  ·
   have hd71 := of_decide_eq_true hb71
   refine qf HF rfl (wp_skip (wp_seq (wp_block (wp_seq ?_))))
   refine zw HM [.blk g1 (b.cells A c) 37] [0] [] fun HM HS => ?_
   refine ap HF (fun _ => HS) [0, 2, 6] #[true, false, true, false, false, false, true, false, false] [(80, vP g1 1), (76, vI k), (74, vP g1 4)] fun a HF => ?_
   refine ay HF HS 1 rfl rfl rfl (v := .slice A b.evs.length c) (Yl.qh rfl rfl (by kernel_rfl) (fun _ h => h.cell (i := 0) rfl (rfl))) fun a HF => ?_
   obtain ⟨gA, oA, rfl, _⟩ := hr.zl (Nat.lt_of_le_of_lt (Nat.zero_le _) (show k < b.evs.length from by omega)) (by decide)
   refine ay HF HS 3 rfl rfl rfl (v := vP gA (oA + k * 11)) (Yl.ix gA oA k 11 rfl rfl rfl) fun a HF => ?_
   refine ap HF (fun _ => HS) [4] #[true, true, true, true, true, false, true, false, false] [(78, vP gA (oA + k * 11 + 2))] fun a HF => ?_
   refine ay HF HS 5 rfl rfl rfl (v := vB ((b.evs.getD k Ev.zero).cpu)) (Yl.qh rfl rfl (by kernel_rfl) (fun _ h => (h.old hr).partAt zf (k := k) (j := 2) (x := (b.evs.getD k Ev.zero)) ((getD_at Ev.zero (k := k) (by first | omega | (simp; omega)))) rfl)) fun a HF => ?_
   refine ay HF HS 7 rfl rfl rfl (v := vB b.cpu) (Yl.qh rfl rfl (by kernel_rfl) (fun _ h => h.cell (i := 0) rfl (rfl))) fun a HF => ?_
   refine ap HF (fun _ => HS) [8] #[true, true, true, true, true, true, true, true, true] [(82, .bool (((b.evs.getD k Ev.zero).cpu : Int) != (b.cpu : Int)))] fun a HF => ?_
   refine qm (by kernel_rfl) ?_
   rcases HF.tf 82 rfl with ⟨hb82, HF⟩ | ⟨hb82, HF⟩
   ·
    have hd82 := bne_iff_ne.1 hb82
    refine qf HF rfl (wp_seq (qa ?_))
    refine fp HF 1 0 [(2, .bool false)] fun a HF => ?_
    refine qb rfl (wp_ret ?_)
    exact ret1 rfl HF (.tmp HF rfl) (⟨by rw [qoj hok (by omega) (k := k) (by omega) (by omega)], HM.below⟩)
   have hd82 := bne_eq_false_iff_eq.1 hb82
   refine qe HF rfl (wp_skip (qa ?_))
   refine fp HF 2 0 [(73, vI (IntKind.i64.wrap ((k : Int) + 1)))] fun a HF => ?_
   replace HF := HF.sp 73 (vI (k + 1 : Nat)) rfl (qk (by omega) (by omega))
   refine fp HF 1 2 [(3, vI (k + 1 : Nat))] fun a HF => ?_
   refine qb rfl ?_
   exact ⟨_, (by omega), k + 1, by omega, fun i hi => (Nat.lt_succ_iff_lt_or_eq.1 hi).elim (hall i) (fun h => by subst h; omega), rfl, HF.sub (by kernel_rfl), HM.picks [0] (by decide) rfl⟩
  have hd71 := of_decide_eq_false hb71
  refine qe HF rfl (wp_exit (wp_seq (qa ?_)))
  refine fp HF 1 0 [(84, vP g1 4)] fun a HF => ?_
  refine fy HF HM 1 rfl rfl rfl (v := .slice A b.evs.length c) (Yl.qh rfl rfl (by kernel_rfl) (fun _ h => h.cell (i := 0) rfl (rfl))) fun a HF => ?_
  refine fo HF 2 rfl rfl ?_
  refine e_cl HF [.slice A b.evs.length c] rfl rfl (qih _ _ _ b.evs hok.evs _ (HM.old hr) (by omega) rfl) ?_
  rintro _ w86 ⟨rfl, hbw⟩
  refine ⟨_, rfl, ?_⟩
  replace HM := HM.call hbw
  clear HF; intro a HF
  refine fp HF 5 3 [(5, vI ((rowR b.evs).2))] fun a HF => ?_
  refine qb rfl (wp_seq (qa ?_))
  refine fp HF 3 0 [(2, .bool (((rowR b.evs).2 : Int) == (0 : Int)))] fun a HF => ?_
  refine qb rfl (wp_ret ?_)
  exact ret1 rfl HF (.tmp HF rfl) (⟨congrArg (fun x => Ending.returned (.bool x)) (by rw [qie (by omega) (by omega) (by omega) (by omega) (by omega) (by omega) (fun i hi => hall i (by omega)), Bool.eq_iff_iff, beq_iff_eq, decide_eq_true_eq]; omega), HM.below⟩)
 have hd60 := ne_of_beq_false hb60
 refine fp HF 6 28 [(66, .bool false)] fun a HF => ?_
 refine qb rfl (qe HF rfl (wp_skip (wp_seq (wp_seq (qa ?_)))))
 refine fp HF 1 0 [(3, vI 0)] fun a HF => ?_
 refine qb rfl (wp_block ?_)
 refine qv (fun mS aS wS => ∃ (k : Nat), (k ≤ b.evs.length) ∧ (∀ i, i < k → (b.evs.getD i Ev.zero).cpu = b.cpu) ∧ mS = b.evs.length - k ∧ Fr aS 91 [] [(3, vI k), (66, .bool false), (8, .bool false), (2, .bool false), (1, vP g1 0)] ∧ Mem w wS [.blk g1 (b.cells A c) 37]) (m := b.evs.length - 0) ⟨0, Nat.zero_le _, fun i hi => absurd hi (Nat.not_lt_zero _), rfl, HF.sub (by kernel_rfl), HM.picks [0] (by decide) rfl⟩ ?_
 clear HF HM; rintro mS a w_ ⟨k, hk, hall, rfl, HF, HM⟩
 refine wp_seq (wp_seq (qa ?_))
 refine fp HF 2 0 [(68, vP g1 4), (67, vI k)] fun a HF => ?_
 refine fy HF HM 2 rfl rfl rfl (v := .slice A b.evs.length c) (Yl.qh rfl rfl (by kernel_rfl) (fun _ h => h.cell (i := 0) rfl (rfl))) fun a HF => ?_
 refine fy HF HM 3 rfl rfl rfl (Yl.len rfl rfl (by kernel_rfl)) fun a HF => ?_
 refine fp HF 1 4 [(71, .bool (decide ((k : Int) < (b.evs.length : Int))))] fun a HF => ?_
 refine qb rfl ?_
 rcases HF.tf 71 rfl with ⟨hb71, HF⟩ | ⟨hb71, HF⟩
 ·
  have hd71 := of_decide_eq_true hb71
  refine qf HF rfl (wp_skip (wp_seq (wp_block (wp_seq ?_))))
  refine zw HM [.blk g1 (b.cells A c) 37] [0] [] fun HM HS => ?_
  refine ap HF (fun _ => HS) [0, 2, 6] #[true, false, true, false, false, false, true, false, false] [(80, vP g1 1), (76, vI k), (74, vP g1 4)] fun a HF => ?_
  refine ay HF HS 1 rfl rfl rfl (v := .slice A b.evs.length c) (Yl.qh rfl rfl (by kernel_rfl) (fun _ h => h.cell (i := 0) rfl (rfl))) fun a HF => ?_
  obtain ⟨gA, oA, rfl, _⟩ := hr.zl (Nat.lt_of_le_of_lt (Nat.zero_le _) (show k < b.evs.length from by omega)) (by decide)
  refine ay HF HS 3 rfl rfl rfl (v := vP gA (oA + k * 11)) (Yl.ix gA oA k 11 rfl rfl rfl) fun a HF => ?_
  refine ap HF (fun _ => HS) [4] #[true, true, true, true, true, false, true, false, false] [(78, vP gA (oA + k * 11 + 2))] fun a HF => ?_
  refine ay HF HS 5 rfl rfl rfl (v := vB ((b.evs.getD k Ev.zero).cpu)) (Yl.qh rfl rfl (by kernel_rfl) (fun _ h => (h.old hr).partAt zf (k := k) (j := 2) (x := (b.evs.getD k Ev.zero)) ((getD_at Ev.zero (k := k) (by first | omega | (simp; omega)))) rfl)) fun a HF => ?_
  refine ay HF HS 7 rfl rfl rfl (v := vB b.cpu) (Yl.qh rfl rfl (by kernel_rfl) (fun _ h => h.cell (i := 0) rfl (rfl))) fun a HF => ?_
  refine ap HF (fun _ => HS) [8] #[true, true, true, true, true, true, true, true, true] [(82, .bool (((b.evs.getD k Ev.zero).cpu : Int) != (b.cpu : Int)))] fun a HF => ?_
  refine qm (by kernel_rfl) ?_
  rcases HF.tf 82 rfl with ⟨hb82, HF⟩ | ⟨hb82, HF⟩
  ·
   have hd82 := bne_iff_ne.1 hb82
   refine qf HF rfl (wp_seq (qa ?_))
   refine fp HF 1 0 [(2, .bool false)] fun a HF => ?_
   refine qb rfl (wp_ret ?_)
   exact ret1 rfl HF (.tmp HF rfl) (⟨by rw [qoj hok (by omega) (k := k) (by omega) (by omega)], HM.below⟩)
  have hd82 := bne_eq_false_iff_eq.1 hb82
  refine qe HF rfl (wp_skip (qa ?_))
  refine fp HF 2 0 [(73, vI (IntKind.i64.wrap ((k : Int) + 1)))] fun a HF => ?_
  replace HF := HF.sp 73 (vI (k + 1 : Nat)) rfl (qk (by omega) (by omega))
  refine fp HF 1 2 [(3, vI (k + 1 : Nat))] fun a HF => ?_
  refine qb rfl ?_
  exact ⟨_, (by omega), k + 1, by omega, fun i hi => (Nat.lt_succ_iff_lt_or_eq.1 hi).elim (hall i) (fun h => by subst h; omega), rfl, HF.sub (by kernel_rfl), HM.picks [0] (by decide) rfl⟩
 have hd71 := of_decide_eq_false hb71
 refine qe HF rfl (wp_exit (wp_seq (qa ?_)))
 refine fp HF 1 0 [(84, vP g1 4)] fun a HF => ?_
 refine fy HF HM 1 rfl rfl rfl (v := .slice A b.evs.length c) (Yl.qh rfl rfl (by kernel_rfl) (fun _ h => h.cell (i := 0) rfl (rfl))) fun a HF => ?_
 refine fo HF 2 rfl rfl ?_
 refine e_cl HF [.slice A b.evs.length c] rfl rfl (qih _ _ _ b.evs hok.evs _ (HM.old hr) (by omega) rfl) ?_
 rintro _ w86 ⟨rfl, hbw⟩
 refine ⟨_, rfl, ?_⟩
 replace HM := HM.call hbw
 clear HF; intro a HF
 refine fp HF 5 3 [(5, vI ((rowR b.evs).2))] fun a HF => ?_
 refine qb rfl (wp_seq (qa ?_))
 refine fp HF 3 0 [(2, .bool (((rowR b.evs).2 : Int) == (0 : Int)))] fun a HF => ?_
 refine qb rfl (wp_ret ?_)
 exact ret1 rfl HF (.tmp HF rfl) (⟨congrArg (fun x => Ending.returned (.bool x)) (by rw [qie (by omega) (by omega) (by omega) (by omega) (by omega) (by omega) (fun i hi => hall i (by omega)), Bool.eq_iff_iff, beq_iff_eq, decide_eq_true_eq]; omega), HM.below⟩)
theorem qb1 (b : Bk) (hok : b.Ok) (A : Option Addr) (c : Nat) (w : World) (hr : Rd w w.heap.size 11 A b.evs.length (b.evs.flatMap evL)) (hn : b.evs.length ≤ 1000000) (hf : b.fits = true) :
    Calls Tryz.prog 7 #[.agg (b.cells A c)] w (qae w b.raw) := by
 refine qg (vs := [.agg (b.cells A c)]) Tryz.func7 rfl rfl (by kernel_rfl) (σ0 := [(0, .agg (b.cells A c))]) rfl ?_
 intro a HF
 have HM := Mem.start w
 refine wp_seq (qa ?_)
 refine fo HF 0 rfl rfl ?_
 refine e_box HF HM (cs := (b.cells A c)) rfl rfl rfl rfl (by decide) ?_
 clear HF HM; intro a w1 g1 HF HM
 refine fp HF 1 1 [(2, .slice none 0 0)] fun a HF => ?_
 refine qb rfl ?_
 have hbl := qa4 b
 refine wp_seq (qa ?_)
 refine fp HF 1 0 [(3, .slice none 0 0)] fun a HF => ?_
 refine qb rfl (wp_seq (wp_seq (qa ?_)))
 refine fp HF 1 0 [(9, vP g1 0)] fun a HF => ?_
 refine fy HF HM 1 rfl rfl rfl (v := vB b.kind) (Yl.qh rfl rfl (by kernel_rfl) (fun _ h => h.cell (i := 0) rfl (rfl))) fun a HF => ?_
 refine fp HF 1 2 [(11, .bool ((b.kind : Int) == (2 : Int)))] fun a HF => ?_
 refine qb rfl ?_
 rcases HF.tf 11 rfl with ⟨hb11, HF⟩ | ⟨hb11, HF⟩
 ·
  have hd11 := eq_of_beq hb11
  have hk2 : b.kind = 2 := by omega
  obtain ⟨n1, n2, n3, n4, n5⟩ := qf1 hf hk2
  refine qf HF rfl (qa ?_)
  refine fp HF 1 0 [(12, vP g1 3)] fun a HF => ?_
  refine fy HF HM 1 rfl rfl rfl (v := vI b.next) (Yl.qh rfl rfl (by kernel_rfl) (fun _ h => h.cell (i := 0) rfl (rfl))) fun a HF => ?_
  refine fp HF 1 2 [(14, vQ (IntKind.u64.wrap b.next))] fun a HF => ?_
  replace HF := HF.sp 14 (vQ b.next.toNat) rfl (qan (by omega) (by omega))
  refine fo HF 3 rfl rfl ?_
  refine e_cl HF [vQ b.next.toNat] rfl rfl (qjp b.next.toNat _ (by omega)) ?_
  rintro _ w15 ⟨⟨A15, c15, rfl, ho, hc15⟩, hbw⟩
  refine ⟨_, rfl, ?_⟩
  replace HM := HM.callRow hbw ho
  clear HF; intro a HF
  refine fp HF 1 4 [(3, .slice A15 (((vbytes b.next.toNat)).length) c15)] fun a HF => ?_
  refine qb rfl ?_
  refine qam (fun aS wS => ∃ (Ax : Option Addr) (cx : Nat), (b.body.length ≤ cx) ∧ Fr aS 83 [] [(3, .slice Ax b.body.length cx), (2, .slice none 0 0), (1, vP g1 0)] ∧ Mem w wS [.row (.slice Ax b.body.length cx) b.body.length (b.body.map B8) 5 1, .blk g1 (b.cells A c) 37]) ?_ ?_
  ·
   refine wp_seq (qa ?_)
   refine fp HF 1 0 [(28, vP g1 4)] fun a HF => ?_
   refine fy HF HM 1 rfl rfl rfl (v := .slice A b.evs.length c) (Yl.qh rfl rfl (by kernel_rfl) (fun _ h => h.cell (i := 1) rfl (rfl))) fun a HF => ?_
   refine fy HF HM 2 rfl rfl rfl (Yl.len rfl rfl (by kernel_rfl)) fun a HF => ?_
   refine fp HF 1 3 [(31, .bool (decide ((b.evs.length : Int) > (0 : Int))))] fun a HF => ?_
   refine qb rfl ?_
   have hb31 : (decide ((b.evs.length : Int) > (0 : Int))) = false := by rw [decide_eq_false (by omega)]
   have HF := HF.as (t := 31) (u := .bool false) rfl (by rw [hb31])
   have hnA15 : ((vbytes b.next.toNat)).length = b.body.length := by rw [qon hk2]
   replace HM := HM.reRow (i := 0) (ys := b.body.map B8) rfl hnA15 (by rw [qon hk2])
   replace HF := HF.as (t := 3) (u := .slice A15 b.body.length c15) rfl (by rw [hnA15])
   refine qe HF rfl (wp_skip ?_)
   exact ⟨A15, c15, by omega, HF.sub (by kernel_rfl), HM.picks [0, 1] (by decide) rfl⟩
  clear HF HM; rintro a w9 ⟨Ax, cx, hcx, HF, HM⟩
  refine wp_seq (qa ?_)
  refine fp HF 1 0 [(60, .slice Ax b.body.length cx)] fun a HF => ?_
  refine fy HF HM 1 rfl rfl rfl (Yl.len rfl rfl (by kernel_rfl)) fun a HF => ?_
  refine fp HF 1 2 [(62, vI (IntKind.i64.wrap ((b.body.length : Int) + 12)))] fun a HF => ?_
  replace HF := HF.sp 62 (vI (b.body.length + 12 : Nat)) rfl (qk (by omega) (by omega))
  refine fp HF 1 3 [(7, vI (b.body.length + 12 : Nat))] fun a HF => ?_
  refine qb rfl ?_
  have hbl := qa4 b
  refine wp_seq (qa ?_)
  refine fp HF 2 0 [(64, vI (Int.tmod ((b.body.length + 12 : Nat) : Int) 256))] fun a HF => ?_
  replace HF := HF.sp 64 (vI ((b.body.length + 12) % 256 : Nat)) rfl (qau .i64 _ 256)
  refine fp HF 1 2 [(65, vB (IntKind.u8.wrap (((b.body.length + 12) % 256 : Nat) : Int)))] fun a HF => ?_
  replace HF := HF.sp 65 (vB ((b.body.length + 12) % 256 : Nat)) rfl ((qa9 ((b.body.length + 12) % 256)).trans (by rw [Nat.mod_mod]))
  refine fp HF 2 3 [(67, vI (IntKind.i64.wrap (Int.tdiv ((b.body.length + 12 : Nat) : Int) 256)))] fun a HF => ?_
  replace HF := HF.sp 67 (vI ((b.body.length + 12) / 256 : Nat)) rfl (qbr .i64 256 (by show _ ≤ 9223372036854775807; omega))
  refine fp HF 1 5 [(68, vI (Int.tmod (((b.body.length + 12) / 256 : Nat) : Int) 256))] fun a HF => ?_
  replace HF := HF.sp 68 (vI (((b.body.length + 12) / 256) % 256 : Nat)) rfl (qau .i64 _ 256)
  refine fp HF 1 6 [(69, vB (IntKind.u8.wrap ((((b.body.length + 12) / 256) % 256 : Nat) : Int)))] fun a HF => ?_
  replace HF := HF.sp 69 (vB (((b.body.length + 12) / 256) % 256 : Nat)) rfl ((qa9 (((b.body.length + 12) / 256) % 256)).trans (by rw [Nat.mod_mod]))
  refine fp HF 2 7 [(71, vI (IntKind.i64.wrap (Int.tdiv ((b.body.length + 12 : Nat) : Int) 65536)))] fun a HF => ?_
  replace HF := HF.sp 71 (vI ((b.body.length + 12) / 65536 : Nat)) rfl (qbr .i64 65536 (by show _ ≤ 9223372036854775807; omega))
  refine fp HF 1 9 [(72, vI (Int.tmod (((b.body.length + 12) / 65536 : Nat) : Int) 256))] fun a HF => ?_
  replace HF := HF.sp 72 (vI (((b.body.length + 12) / 65536) % 256 : Nat)) rfl (qau .i64 _ 256)
  refine fp HF 1 10 [(73, vB (IntKind.u8.wrap ((((b.body.length + 12) / 65536) % 256 : Nat) : Int)))] fun a HF => ?_
  replace HF := HF.sp 73 (vB (((b.body.length + 12) / 65536) % 256 : Nat)) rfl ((qa9 (((b.body.length + 12) / 65536) % 256)).trans (by rw [Nat.mod_mod]))
  refine fp HF 2 11 [(75, vI (IntKind.i64.wrap (Int.tdiv ((b.body.length + 12 : Nat) : Int) 16777216)))] fun a HF => ?_
  replace HF := HF.sp 75 (vI ((b.body.length + 12) / 16777216 : Nat)) rfl (qbr .i64 16777216 (by show _ ≤ 9223372036854775807; omega))
  refine fp HF 1 13 [(76, vB (IntKind.u8.wrap (((b.body.length + 12) / 16777216 : Nat) : Int)))] fun a HF => ?_
  replace HF := HF.sp 76 (vB (((b.body.length + 12) / 16777216) % 256 : Nat)) rfl (qa9 ((b.body.length + 12) / 16777216))
  refine fp HF 1 14 [(77, vP g1 0)] fun a HF => ?_
  refine fy HF HM 15 rfl rfl rfl (v := vB b.kind) (Yl.qh rfl rfl (by kernel_rfl) (fun _ h => h.cell (i := 1) rfl (rfl))) fun a HF => ?_
  refine fo HF 16 rfl rfl ?_
  refine qp HF HM (vs := [(0, vB ((b.body.length + 12) % 256 : Nat)), (1, vB (((b.body.length + 12) / 256) % 256 : Nat)), (2, vB (((b.body.length + 12) / 65536) % 256 : Nat)), (3, vB (((b.body.length + 12) / 16777216) % 256 : Nat)), (4, vB 113), (5, vB 116), (6, vB 1), (7, vB b.kind)]) (cs := #[vB ((b.body.length + 12) % 256 : Nat), vB (((b.body.length + 12) / 256) % 256 : Nat), vB (((b.body.length + 12) / 65536) % 256 : Nat), vB (((b.body.length + 12) / 16777216) % 256 : Nat), vB 113, vB 116, vB 1, vB b.kind]) rfl ei_u8 (by decide) rfl (by kernel_rfl) rfl (by decide) ?_
  clear HF HM; intro a w79 g79 HF HM
  refine fp HF 1 17 [(8, vS g79 8 8)] fun a HF => ?_
  refine qb rfl (wp_seq (qa ?_))
  refine fp HF 2 0 [(81, .slice Ax b.body.length cx), (80, vS g79 8 8)] fun a HF => ?_
  refine fo HF 2 rfl rfl ?_
  replace HM := HM.blkRow (i := 0) (n := 8) (size := 1) rfl rfl (by decide)
  refine qs HF HM (i := 0) rfl ei_u8 rfl rfl rfl (news := (b.body.map B8)) (HM.rd (i := 1) rfl) (qaa _) (by omega) (by omega) rfl (by decide) ?_
  clear HF HM; intro a w82 A82 c82 HF HM hc82
  refine fp HF 1 3 [(2, .slice A82 (8 + b.body.length) c82)] fun a HF => ?_
  refine qb rfl ?_
  have hnA82 : 8 + b.body.length = b.raw.length := by rw [qbn]
  replace HM := HM.reRow (i := 0) (ys := b.raw.map B8) rfl hnA82 (raw10 b)
  rw [hnA82] at hc82
  replace HF := HF.as (t := 2) (u := .slice A82 b.raw.length c82) rfl (by rw [hnA82])
  replace HF := HF.as (t := 82) (u := .slice A82 b.raw.length c82) rfl (by rw [hnA82])
  refine wp_ret ?_
  exact ret1 rfl HF (.tmp HF rfl) (⟨⟨_, _, rfl, HM.own (i := 0) rfl, hc82⟩, HM.below⟩)
 have hd11 := ne_of_beq_false hb11
 have hk2 : b.kind ≠ 2 := by omega
 obtain ⟨m0, m1, m2, m3, m4⟩ := qh5 hf hk2
 refine qe HF rfl (qa ?_)
 refine fp HF 1 0 [(16, vP g1 1)] fun a HF => ?_
 refine fy HF HM 1 rfl rfl rfl (v := vB b.cpu) (Yl.qh rfl rfl (by kernel_rfl) (fun _ h => h.cell (i := 0) rfl (rfl))) fun a HF => ?_
 refine fp HF 1 2 [(18, vQ (IntKind.u64.wrap (b.cpu : Int)))] fun a HF => ?_
 replace HF := HF.sp 18 (vQ b.cpu) rfl (qan rfl (by omega))
 refine fp HF 1 3 [(19, vP g1 2)] fun a HF => ?_
 refine fy HF HM 4 rfl rfl rfl (v := vI b.lost) (Yl.qh rfl rfl (by kernel_rfl) (fun _ h => h.cell (i := 0) rfl (rfl))) fun a HF => ?_
 refine fp HF 1 5 [(21, vQ (IntKind.u64.wrap b.lost))] fun a HF => ?_
 replace HF := HF.sp 21 (vQ b.lost.toNat) rfl (qan (by omega) (by omega))
 refine fp HF 1 6 [(22, vP g1 4)] fun a HF => ?_
 refine fy HF HM 7 rfl rfl rfl (v := .slice A b.evs.length c) (Yl.qh rfl rfl (by kernel_rfl) (fun _ h => h.cell (i := 0) rfl (rfl))) fun a HF => ?_
 refine fy HF HM 8 rfl rfl rfl (Yl.len rfl rfl (by kernel_rfl)) fun a HF => ?_
 refine fp HF 1 9 [(25, vQ (IntKind.u64.wrap (b.evs.length : Int)))] fun a HF => ?_
 replace HF := HF.sp 25 (vQ b.evs.length) rfl (qan rfl (by omega))
 refine fo HF 10 rfl rfl ?_
 refine qp HF HM (vs := [(0, vQ b.cpu), (1, vQ b.lost.toNat), (2, vQ b.evs.length)]) (cs := #[vQ b.cpu, vQ b.lost.toNat, vQ b.evs.length]) rfl qc5 (by decide) rfl (by kernel_rfl) rfl (by decide) ?_
 clear HF HM; intro a w26 g26 HF HM
 refine fo HF 11 rfl rfl ?_
 refine e_cl HF [vS g26 3 3] rfl rfl (qjq _ 3 _ [b.cpu, b.lost.toNat, b.evs.length] _ (HM.rdBlk (i := 0) (n := 3) (size := 1) rfl rfl) rfl (by intro x hx; simp only [List.mem_cons, List.not_mem_nil, or_false] at hx; omega) (by omega)) ?_
 rintro _ w27 ⟨⟨A27, c27, rfl, ho, hc27⟩, hbw⟩
 refine ⟨_, rfl, ?_⟩
 replace HM := HM.callRow hbw ho
 clear HF; intro a HF
 have hfl27 := qas [b.cpu, b.lost.toNat, b.evs.length]
 simp only [List.length_cons, List.length_nil] at hfl27
 refine fp HF 1 12 [(3, .slice A27 ((([b.cpu, b.lost.toNat, b.evs.length].flatMap vbytes)).length) c27)] fun a HF => ?_
 refine qb rfl ?_
 refine qam (fun aS wS => ∃ (Ax : Option Addr) (cx : Nat), (b.body.length ≤ cx) ∧ Fr aS 83 [] [(3, .slice Ax b.body.length cx), (2, .slice none 0 0), (1, vP g1 0)] ∧ Mem w wS [.row (.slice Ax b.body.length cx) b.body.length (b.body.map B8) 5 1, .blk g1 (b.cells A c) 37]) ?_ ?_
 ·
  refine wp_seq (qa ?_)
  refine fp HF 1 0 [(28, vP g1 4)] fun a HF => ?_
  refine fy HF HM 1 rfl rfl rfl (v := .slice A b.evs.length c) (Yl.qh rfl rfl (by kernel_rfl) (fun _ h => h.cell (i := 2) rfl (rfl))) fun a HF => ?_
  refine fy HF HM 2 rfl rfl rfl (Yl.len rfl rfl (by kernel_rfl)) fun a HF => ?_
  refine fp HF 1 3 [(31, .bool (decide ((b.evs.length : Int) > (0 : Int))))] fun a HF => ?_
  refine qb rfl ?_
  rcases HF.tf 31 rfl with ⟨hb31, HF⟩ | ⟨hb31, HF⟩
  ·
   have hd31 := of_decide_eq_true hb31
   obtain ⟨b1, b2, b3, b4⟩ : 0 ≤ (b.evs.getD 0 Ev.zero).seq ∧ (b.evs.getD 0 Ev.zero).seq ≤ 281474976710656 ∧ 0 ≤ (b.evs.getD 0 Ev.zero).time ∧ (b.evs.getD 0 Ev.zero).time ≤ 281474976710656 := by have hbd := qkd hok hf hk2 (by omega); rw [qeg] at hbd; exact hbd
   have hw07 := qi9 hok (qb6 hf hk2).2 (by omega)
   refine qf HF rfl (wp_seq (qa ?_))
   refine fp HF 1 0 [(32, vP g1 4)] fun a HF => ?_
   refine fy HF HM 1 rfl rfl rfl (v := .slice A b.evs.length c) (Yl.qh rfl rfl (by kernel_rfl) (fun _ h => h.cell (i := 2) rfl (rfl))) fun a HF => ?_
   obtain ⟨gA, oA, rfl, _⟩ := hr.zl (Nat.lt_of_le_of_lt (Nat.zero_le _) (show 0 < b.evs.length from by omega)) (by decide)
   refine fy HF HM 2 rfl rfl rfl (v := vP gA oA) (Yl.indexAddr (ad := ⟨gA, oA, none⟩) (y := 0) (sz := 11) rfl rfl rfl (by omega) (by kernel_rfl)) fun a HF => ?_
   refine fy HF HM 3 rfl rfl rfl (v := .agg ((b.evs.getD 0 Ev.zero).cells)) (Yl.qx rfl rfl ⟨(by kernel_rfl), (by kernel_rfl)⟩ rfl (fun _ h => (h.old hr).qb8 zf ((getD_at Ev.zero (k := 0) (by first | omega | (simp; omega)))))) fun a HF => ?_
   refine fo HF 4 rfl rfl ?_
   refine qz HF HM (cs := #[vI 0, vI 0, vB 0, vB 0, vI 0, vI 0, vI 0, vI 0, vI 0, vQ 0, vI 0]) rfl (by kernel_rfl) rfl (by decide) ?_
   clear HF HM; intro a w4 g4 HF HM
   refine fo HF 5 rfl rfl ?_
   refine e_sa HF HM 0 rfl rfl rfl rfl rfl ⟨(by kernel_rfl), (by kernel_rfl)⟩ rfl rfl (zn (b.evs.getD 0 Ev.zero)) ?_
   clear HM; intro w6_5 HM
   refine qb rfl (wp_seq (qa ?_))
   refine fp HF 2 0 [(37, vP g4 0), (36, .slice A27 ((([b.cpu, b.lost.toNat, b.evs.length].flatMap vbytes)).length) c27)] fun a HF => ?_
   refine fy HF HM 2 rfl rfl rfl (v := vI ((b.evs.getD 0 Ev.zero).seq)) (Yl.qh rfl rfl (by kernel_rfl) (fun _ h => h.cell (i := 0) rfl (rfl))) fun a HF => ?_
   refine fp HF 1 3 [(39, vQ (IntKind.u64.wrap ((b.evs.getD 0 Ev.zero).seq)))] fun a HF => ?_
   replace HF := HF.sp 39 (vQ (((b.evs.getD 0 Ev.zero).seq).toNat : Nat)) rfl (qan (by omega) (by omega))
   refine fp HF 1 4 [(40, vP g4 1)] fun a HF => ?_
   refine fy HF HM 5 rfl rfl rfl (v := vI ((b.evs.getD 0 Ev.zero).time)) (Yl.qh rfl rfl (by kernel_rfl) (fun _ h => h.cell (i := 0) rfl (rfl))) fun a HF => ?_
   refine fp HF 1 6 [(42, vQ (IntKind.u64.wrap ((b.evs.getD 0 Ev.zero).time)))] fun a HF => ?_
   replace HF := HF.sp 42 (vQ (((b.evs.getD 0 Ev.zero).time).toNat : Nat)) rfl (qan (by omega) (by omega))
   refine fo HF 7 rfl rfl ?_
   refine qp HF HM (vs := [(0, vQ (((b.evs.getD 0 Ev.zero).seq).toNat : Nat)), (1, vQ (((b.evs.getD 0 Ev.zero).time).toNat : Nat))]) (cs := #[vQ (((b.evs.getD 0 Ev.zero).seq).toNat : Nat), vQ (((b.evs.getD 0 Ev.zero).time).toNat : Nat)]) rfl qc5 (by decide) rfl (by kernel_rfl) rfl (by decide) ?_
   clear HF HM; intro a w43 g43 HF HM
   refine fo HF 8 rfl rfl ?_
   refine e_cl HF [vS g43 2 2] rfl rfl (qjq _ 2 _ [(b.evs.getD 0 Ev.zero).seq.toNat, (b.evs.getD 0 Ev.zero).time.toNat] _ (HM.rdBlk (i := 0) (n := 2) (size := 1) rfl rfl) rfl (by intro x hx; simp only [List.mem_cons, List.not_mem_nil, or_false] at hx; omega) (by omega)) ?_
   rintro _ w44 ⟨⟨A44, c44, rfl, ho, hc44⟩, hbw⟩
   refine ⟨_, rfl, ?_⟩
   replace HM := HM.callRow hbw ho
   clear HF; intro a HF
   have hfl44 := qas [(b.evs.getD 0 Ev.zero).seq.toNat, (b.evs.getD 0 Ev.zero).time.toNat]
   simp only [List.length_cons, List.length_nil] at hfl44
   refine fo HF 9 rfl rfl ?_
   refine qs HF HM (i := 3) rfl ei_u8 rfl rfl rfl (news := (([(b.evs.getD 0 Ev.zero).seq.toNat, (b.evs.getD 0 Ev.zero).time.toNat].flatMap vbytes).map B8)) (HM.rd (i := 0) rfl) (qaa _) (by omega) (by omega) rfl (by decide) ?_
   clear HF HM; intro a w45 A45 c45 HF HM hc45
   refine fp HF 1 10 [(3, .slice A45 (((([b.cpu, b.lost.toNat, b.evs.length].flatMap vbytes)).length) + ((([(b.evs.getD 0 Ev.zero).seq.toNat, (b.evs.getD 0 Ev.zero).time.toNat].flatMap vbytes)).length)) c45)] fun a HF => ?_
   refine qb rfl ?_
   replace HM := HM.picks (fs' := [.blk g4 ((b.evs.getD 0 Ev.zero).cells) 58, .row (.slice A45 (((([b.cpu, b.lost.toNat, b.evs.length].flatMap vbytes)).length) + ((([(b.evs.getD 0 Ev.zero).seq.toNat, (b.evs.getD 0 Ev.zero).time.toNat].flatMap vbytes)).length)) c45) (((([b.cpu, b.lost.toNat, b.evs.length].flatMap vbytes)).length) + ((([(b.evs.getD 0 Ev.zero).seq.toNat, (b.evs.getD 0 Ev.zero).time.toNat].flatMap vbytes)).length)) ((([b.cpu, b.lost.toNat, b.evs.length].flatMap vbytes).map B8) ++ (([(b.evs.getD 0 Ev.zero).seq.toNat, (b.evs.getD 0 Ev.zero).time.toNat].flatMap vbytes).map B8)) 5 1, .blk g1 (b.cells (some ⟨gA, oA, none⟩) c) 37]) [2, 3, 5] (by decide) rfl
   refine wp_seq (qa ?_)
   refine fp HF 1 0 [(47, vP g4 0)] fun a HF => ?_
   refine fy HF HM 1 rfl rfl rfl (v := vI ((b.evs.getD 0 Ev.zero).seq)) (Yl.qh rfl rfl (by kernel_rfl) (fun _ h => h.cell (i := 0) rfl (rfl))) fun a HF => ?_
   refine fp HF 1 2 [(49, vP g4 1)] fun a HF => ?_
   refine fy HF HM 3 rfl rfl rfl (v := vI ((b.evs.getD 0 Ev.zero).time)) (Yl.qh rfl rfl (by kernel_rfl) (fun _ h => h.cell (i := 0) rfl (rfl))) fun a HF => ?_
   refine fy HF HM 4 rfl rfl rfl (v := .agg ((⟨(b.evs.getD 0 Ev.zero).seq, (b.evs.getD 0 Ev.zero).time⟩ : Bs).cells)) ((Yl.build (vs := [(0, vI ((b.evs.getD 0 Ev.zero).seq)), (1, vI ((b.evs.getD 0 Ev.zero).time))]) rfl (by kernel_rfl) (by kernel_rfl))) fun a HF => ?_
   refine fp HF 1 5 [(52, vP g1 4)] fun a HF => ?_
   refine fy HF HM 6 rfl rfl rfl (v := .slice (some ⟨gA, oA, none⟩) b.evs.length c) (Yl.qh rfl rfl (by kernel_rfl) (fun _ h => h.cell (i := 2) rfl (rfl))) fun a HF => ?_
   refine fo HF 7 rfl rfl ?_
   refine e_cl HF [.agg ((⟨(b.evs.getD 0 Ev.zero).seq, (b.evs.getD 0 Ev.zero).time⟩ : Bs).cells), .slice (some ⟨gA, oA, none⟩) b.evs.length c] rfl rfl ((qnr ⟨(b.evs.getD 0 Ev.zero).seq, (b.evs.getD 0 Ev.zero).time⟩ _ _ _ b.evs hok.evs _ (HM.old hr) (by omega) (by omega) rfl).mono (fun _ _ h => h.as (er' := 0) (R' := recs b.base b.evs) (by rw [← qeg]; exact hw07.1) (by rw [← qeg]; exact hw07.2))) ?_
   rintro _ w54 ⟨⟨A54, c54, rfl, ho, hc54⟩, hbw⟩
   refine ⟨_, rfl, ?_⟩
   replace HM := HM.callRow hbw ho
   clear HF; intro a HF
   have hrl := qf0 b.evs b.base
   refine fp HF 5 8 [(5, .slice A54 (((recs b.base b.evs)).length) c54)] fun a HF => ?_
   refine qb rfl (qa ?_)
   refine fp HF 2 0 [(58, .slice A54 (((recs b.base b.evs)).length) c54), (57, .slice A45 (((([b.cpu, b.lost.toNat, b.evs.length].flatMap vbytes)).length) + ((([(b.evs.getD 0 Ev.zero).seq.toNat, (b.evs.getD 0 Ev.zero).time.toNat].flatMap vbytes)).length)) c45)] fun a HF => ?_
   refine fo HF 2 rfl rfl ?_
   refine qs HF HM (i := 2) rfl ei_u8 rfl rfl rfl (news := ((recs b.base b.evs).map B8)) (HM.rd (i := 0) rfl) (qaa _) (by omega) (by omega) rfl (by decide) ?_
   clear HF HM; intro a w59 A59 c59 HF HM hc59
   refine fp HF 1 3 [(3, .slice A59 ((((([b.cpu, b.lost.toNat, b.evs.length].flatMap vbytes)).length) + ((([(b.evs.getD 0 Ev.zero).seq.toNat, (b.evs.getD 0 Ev.zero).time.toNat].flatMap vbytes)).length)) + (((recs b.base b.evs)).length)) c59)] fun a HF => ?_
   refine qb rfl ?_
   have hnA59 : (((([b.cpu, b.lost.toNat, b.evs.length].flatMap vbytes)).length) + ((([(b.evs.getD 0 Ev.zero).seq.toNat, (b.evs.getD 0 Ev.zero).time.toNat].flatMap vbytes)).length)) + (((recs b.base b.evs)).length) = b.body.length := by have h := congrArg List.length (ql7 hk2 (by omega)); rw [List.length_append, List.length_append] at h; omega
   replace HM := HM.reRow (i := 2) (ys := b.body.map B8) rfl hnA59 (by rw [← ql7 hk2 (by omega)]; simp)
   rw [hnA59] at hc59
   replace HF := HF.as (t := 3) (u := .slice A59 b.body.length c59) rfl (by rw [hnA59])
   replace HF := HF.as (t := 59) (u := .slice A59 b.body.length c59) rfl (by rw [hnA59])
   exact ⟨A59, c59, by omega, HF.sub (by kernel_rfl), HM.picks [2, 3] (by decide) rfl⟩
  have hd31 := of_decide_eq_false hb31
  have hnA27 : (([b.cpu, b.lost.toNat, b.evs.length].flatMap vbytes)).length = b.body.length := by rw [ql6 hk2 (by omega)]
  replace HM := HM.reRow (i := 0) (ys := b.body.map B8) rfl hnA27 (by rw [ql6 hk2 (by omega)])
  replace HF := HF.as (t := 3) (u := .slice A27 b.body.length c27) rfl (by rw [hnA27])
  refine qe HF rfl (wp_skip ?_)
  exact ⟨A27, c27, by omega, HF.sub (by kernel_rfl), HM.picks [0, 2] (by decide) rfl⟩
 clear HF HM; rintro a w9 ⟨Ax, cx, hcx, HF, HM⟩
 refine wp_seq (qa ?_)
 refine fp HF 1 0 [(60, .slice Ax b.body.length cx)] fun a HF => ?_
 refine fy HF HM 1 rfl rfl rfl (Yl.len rfl rfl (by kernel_rfl)) fun a HF => ?_
 refine fp HF 1 2 [(62, vI (IntKind.i64.wrap ((b.body.length : Int) + 12)))] fun a HF => ?_
 replace HF := HF.sp 62 (vI (b.body.length + 12 : Nat)) rfl (qk (by omega) (by omega))
 refine fp HF 1 3 [(7, vI (b.body.length + 12 : Nat))] fun a HF => ?_
 refine qb rfl ?_
 have hbl := qa4 b
 refine wp_seq (qa ?_)
 refine fp HF 2 0 [(64, vI (Int.tmod ((b.body.length + 12 : Nat) : Int) 256))] fun a HF => ?_
 replace HF := HF.sp 64 (vI ((b.body.length + 12) % 256 : Nat)) rfl (qau .i64 _ 256)
 refine fp HF 1 2 [(65, vB (IntKind.u8.wrap (((b.body.length + 12) % 256 : Nat) : Int)))] fun a HF => ?_
 replace HF := HF.sp 65 (vB ((b.body.length + 12) % 256 : Nat)) rfl ((qa9 ((b.body.length + 12) % 256)).trans (by rw [Nat.mod_mod]))
 refine fp HF 2 3 [(67, vI (IntKind.i64.wrap (Int.tdiv ((b.body.length + 12 : Nat) : Int) 256)))] fun a HF => ?_
 replace HF := HF.sp 67 (vI ((b.body.length + 12) / 256 : Nat)) rfl (qbr .i64 256 (by show _ ≤ 9223372036854775807; omega))
 refine fp HF 1 5 [(68, vI (Int.tmod (((b.body.length + 12) / 256 : Nat) : Int) 256))] fun a HF => ?_
 replace HF := HF.sp 68 (vI (((b.body.length + 12) / 256) % 256 : Nat)) rfl (qau .i64 _ 256)
 refine fp HF 1 6 [(69, vB (IntKind.u8.wrap ((((b.body.length + 12) / 256) % 256 : Nat) : Int)))] fun a HF => ?_
 replace HF := HF.sp 69 (vB (((b.body.length + 12) / 256) % 256 : Nat)) rfl ((qa9 (((b.body.length + 12) / 256) % 256)).trans (by rw [Nat.mod_mod]))
 refine fp HF 2 7 [(71, vI (IntKind.i64.wrap (Int.tdiv ((b.body.length + 12 : Nat) : Int) 65536)))] fun a HF => ?_
 replace HF := HF.sp 71 (vI ((b.body.length + 12) / 65536 : Nat)) rfl (qbr .i64 65536 (by show _ ≤ 9223372036854775807; omega))
 refine fp HF 1 9 [(72, vI (Int.tmod (((b.body.length + 12) / 65536 : Nat) : Int) 256))] fun a HF => ?_
 replace HF := HF.sp 72 (vI (((b.body.length + 12) / 65536) % 256 : Nat)) rfl (qau .i64 _ 256)
 refine fp HF 1 10 [(73, vB (IntKind.u8.wrap ((((b.body.length + 12) / 65536) % 256 : Nat) : Int)))] fun a HF => ?_
 replace HF := HF.sp 73 (vB (((b.body.length + 12) / 65536) % 256 : Nat)) rfl ((qa9 (((b.body.length + 12) / 65536) % 256)).trans (by rw [Nat.mod_mod]))
 refine fp HF 2 11 [(75, vI (IntKind.i64.wrap (Int.tdiv ((b.body.length + 12 : Nat) : Int) 16777216)))] fun a HF => ?_
 replace HF := HF.sp 75 (vI ((b.body.length + 12) / 16777216 : Nat)) rfl (qbr .i64 16777216 (by show _ ≤ 9223372036854775807; omega))
 refine fp HF 1 13 [(76, vB (IntKind.u8.wrap (((b.body.length + 12) / 16777216 : Nat) : Int)))] fun a HF => ?_
 replace HF := HF.sp 76 (vB (((b.body.length + 12) / 16777216) % 256 : Nat)) rfl (qa9 ((b.body.length + 12) / 16777216))
 refine fp HF 1 14 [(77, vP g1 0)] fun a HF => ?_
 refine fy HF HM 15 rfl rfl rfl (v := vB b.kind) (Yl.qh rfl rfl (by kernel_rfl) (fun _ h => h.cell (i := 1) rfl (rfl))) fun a HF => ?_
 refine fo HF 16 rfl rfl ?_
 refine qp HF HM (vs := [(0, vB ((b.body.length + 12) % 256 : Nat)), (1, vB (((b.body.length + 12) / 256) % 256 : Nat)), (2, vB (((b.body.length + 12) / 65536) % 256 : Nat)), (3, vB (((b.body.length + 12) / 16777216) % 256 : Nat)), (4, vB 113), (5, vB 116), (6, vB 1), (7, vB b.kind)]) (cs := #[vB ((b.body.length + 12) % 256 : Nat), vB (((b.body.length + 12) / 256) % 256 : Nat), vB (((b.body.length + 12) / 65536) % 256 : Nat), vB (((b.body.length + 12) / 16777216) % 256 : Nat), vB 113, vB 116, vB 1, vB b.kind]) rfl ei_u8 (by decide) rfl (by kernel_rfl) rfl (by decide) ?_
 clear HF HM; intro a w79 g79 HF HM
 refine fp HF 1 17 [(8, vS g79 8 8)] fun a HF => ?_
 refine qb rfl (wp_seq (qa ?_))
 refine fp HF 2 0 [(81, .slice Ax b.body.length cx), (80, vS g79 8 8)] fun a HF => ?_
 refine fo HF 2 rfl rfl ?_
 replace HM := HM.blkRow (i := 0) (n := 8) (size := 1) rfl rfl (by decide)
 refine qs HF HM (i := 0) rfl ei_u8 rfl rfl rfl (news := (b.body.map B8)) (HM.rd (i := 1) rfl) (qaa _) (by omega) (by omega) rfl (by decide) ?_
 clear HF HM; intro a w82 A82 c82 HF HM hc82
 refine fp HF 1 3 [(2, .slice A82 (8 + b.body.length) c82)] fun a HF => ?_
 refine qb rfl ?_
 have hnA82 : 8 + b.body.length = b.raw.length := by rw [qbn]
 replace HM := HM.reRow (i := 0) (ys := b.raw.map B8) rfl hnA82 (raw10 b)
 rw [hnA82] at hc82
 replace HF := HF.as (t := 2) (u := .slice A82 b.raw.length c82) rfl (by rw [hnA82])
 replace HF := HF.as (t := 82) (u := .slice A82 b.raw.length c82) rfl (by rw [hnA82])
 refine wp_ret ?_
 exact ret1 rfl HF (.tmp HF rfl) (⟨⟨_, _, rfl, HM.own (i := 0) rfl, hc82⟩, HM.below⟩)
theorem qfi (b : Bk) (hok : b.Ok) (A : Option Addr) (c : Nat) (w : World) (hr : Rd w w.heap.size 11 A b.evs.length (b.evs.flatMap evL)) (hn : b.evs.length ≤ 1000000) :
    Calls Tryz.prog 35 #[.agg (b.cells A c)] w (Is w (.int .i64 (b.err : Int))) := by
 refine qg (vs := [.agg (b.cells A c)]) Tryz.func35 rfl rfl (by kernel_rfl) (σ0 := [(0, .agg (b.cells A c))]) rfl ?_
 intro a HF
 have HM := Mem.start w
 refine wp_seq (qa ?_)
 refine fo HF 0 rfl rfl ?_
 refine e_box HF HM (cs := (b.cells A c)) rfl rfl rfl rfl (by decide) ?_
 clear HF HM; intro a w1 g1 HF HM
 refine fp HF 1 1 [(2, vI 0)] fun a HF => ?_
 refine qb rfl (wp_seq (wp_seq (qa ?_)))
 refine fy HF HM 0 rfl rfl rfl (v := .agg (b.cells A c)) (Yl.qx rfl rfl qw rfl (fun _ h => qd (h.blk (i := 0) rfl))) fun a HF => ?_
 refine fo HF 1 rfl rfl ?_
 refine e_is HF HM [.agg (b.cells A c)] (.bool b.fits) rfl rfl (qjr b hok A c _ (HM.old hr) hn) fun w4 hbw HM a HF => ?_
 refine fp HF 1 2 [(5, .bool (!b.fits))] fun a HF => ?_
 refine qb rfl ?_
 rcases HF.tf 5 rfl with ⟨hb5, HF⟩ | ⟨hb5, HF⟩
 ·
  have hf : b.fits = false := by simpa using hb5
  refine qf HF rfl (wp_seq (qa ?_))
  refine fp HF 1 0 [(2, vI 107)] fun a HF => ?_
  refine qb rfl (wp_ret ?_)
  exact ret1 rfl HF (.tmp HF rfl) (⟨by rw [show b.err = 107 from by unfold Bk.err; rw [if_pos hf]]; rfl, HM.below⟩)
 have hf : b.fits = true := by simpa using hb5
 refine qe HF rfl (wp_skip (wp_seq (wp_seq (qa ?_))))
 refine fy HF HM 0 rfl rfl rfl (v := .agg (b.cells A c)) (Yl.qx rfl rfl qw rfl (fun _ h => qd (h.blk (i := 0) rfl))) fun a HF => ?_
 refine fo HF 1 rfl rfl ?_
 refine e_cl HF [.agg (b.cells A c)] rfl rfl (qb1 b (hok) A c _ (HM.old hr) (hn) (hf)) ?_
 rintro _ w7 ⟨⟨A7, c7, rfl, ho, hc7⟩, hbw⟩
 refine ⟨_, rfl, ?_⟩
 replace HM := HM.callRow hbw ho
 clear HF; intro a HF
 have hrw7 := qbn b
 have hbl7 := qa4 b
 refine fy HF HM 2 rfl rfl rfl (Yl.len rfl rfl (by kernel_rfl)) fun a HF => ?_
 refine fp HF 1 3 [(9, vI (IntKind.i64.wrap ((((b.raw).length : Nat) : Int) + 4)))] fun a HF => ?_
 replace HF := HF.sp 9 (vI ((b.raw).length + 4 : Nat)) rfl (qk (by omega) (by omega))
 refine fp HF 1 4 [(10, .bool (decide ((((b.raw).length + 4 : Nat) : Int) > (4096 : Int))))] fun a HF => ?_
 refine qb rfl ?_
 rcases HF.tf 10 rfl with ⟨hb10, HF⟩ | ⟨hb10, HF⟩
 ·
  have hd10 := of_decide_eq_true hb10
  refine qf HF rfl (wp_seq (qa ?_))
  refine fp HF 1 0 [(2, vI 3)] fun a HF => ?_
  refine qb rfl (wp_ret ?_)
  replace HM := HM.picks (fs' := [.blk g1 (b.cells A c) 37]) [1] (by decide) rfl
  exact ret1 rfl HF (.tmp HF rfl) (⟨by rw [show b.err = 3 from by unfold Bk.err; rw [if_neg (by rw [hf]; decide), if_pos (by omega)]]; rfl, HM.below⟩)
 have hd10 := of_decide_eq_false hb10
 refine qe HF rfl (wp_skip (wp_seq (qa ?_)))
 refine fp HF 1 0 [(2, vI 0)] fun a HF => ?_
 refine qb rfl (wp_ret ?_)
 replace HM := HM.picks (fs' := [.blk g1 (b.cells A c) 37]) [1] (by decide) rfl
 exact ret1 rfl HF (.tmp HF rfl) (⟨by rw [show b.err = 0 from by unfold Bk.err; rw [if_neg (by rw [hf]; decide), if_neg (by omega)]]; rfl, HM.below⟩)
theorem qns (b : Bk) (hok : b.Ok) (A : Option Addr) (c : Nat) (w : World) (hr : Rd w w.heap.size 11 A b.evs.length (b.evs.flatMap evL)) (hn : b.evs.length ≤ 1000000) :
    Calls Tryz.prog 15 #[.agg (b.cells A c)] w (qa3 w b.err b.out) := by
 refine qg (vs := [.agg (b.cells A c)]) Tryz.func15 rfl rfl (by kernel_rfl) (σ0 := [(0, .agg (b.cells A c))]) rfl ?_
 intro a HF
 have HM := Mem.start w
 refine wp_seq (qa ?_)
 refine fo HF 0 rfl rfl ?_
 refine e_box HF HM (cs := (b.cells A c)) rfl rfl rfl rfl (by decide) ?_
 clear HF HM; intro a w1 g1 HF HM
 refine fp HF 2 1 [(3, vI 0), (2, .slice none 0 0)] fun a HF => ?_
 refine qb rfl (wp_seq (wp_seq (qa ?_)))
 refine fy HF HM 0 rfl rfl rfl (v := .agg (b.cells A c)) (Yl.qx rfl rfl qw rfl (fun _ h => qd (h.blk (i := 0) rfl))) fun a HF => ?_
 refine fo HF 1 rfl rfl ?_
 refine e_is HF HM [.agg (b.cells A c)] (vI b.err) rfl rfl (qfi b hok A c _ (HM.old hr) hn) fun w6 hbw HM a HF => ?_
 refine fp HF 1 2 [(4, vI b.err)] fun a HF => ?_
 refine qb rfl (wp_seq (qa ?_))
 refine fp HF 2 0 [(8, .bool ((b.err : Int) != (0 : Int)))] fun a HF => ?_
 refine qb rfl ?_
 rcases HF.tf 8 rfl with ⟨hb8, HF⟩ | ⟨hb8, HF⟩
 ·
  have hd8 := bne_iff_ne.1 hb8
  have he : b.err ≠ 0 := by omega
  refine qf HF rfl (wp_seq (qa ?_))
  refine fp HF 3 0 [(3, vI b.err), (2, .slice none 0 0)] fun a HF => ?_
  refine qb rfl (wp_ret ?_)
  exact ret2 rfl HF (.tmp HF rfl) (.tmp HF rfl) (qsl rfl he HM.below)
 have hd8 := bne_eq_false_iff_eq.1 hb8
 have he : b.err = 0 := by omega
 obtain ⟨hf, hbb⟩ := qkg he
 refine qe HF rfl (wp_skip (wp_seq (qa ?_)))
 refine fy HF HM 0 rfl rfl rfl (v := .agg (b.cells A c)) (Yl.qx rfl rfl qw rfl (fun _ h => qd (h.blk (i := 0) rfl))) fun a HF => ?_
 refine fo HF 1 rfl rfl ?_
 refine e_cl HF [.agg (b.cells A c)] rfl rfl (qb1 b (hok) A c _ (HM.old hr) (hn) (hf)) ?_
 rintro _ w11 ⟨⟨A11, c11, rfl, ho, hc11⟩, hbw⟩
 refine ⟨_, rfl, ?_⟩
 replace HM := HM.callRow hbw ho
 clear HF; intro a HF
 have hrw11 := qbn b
 have hbl11 := qa4 b
 refine fo HF 2 rfl rfl ?_
 refine e_cl HF [.slice A11 ((b.raw).length) c11] rfl rfl (qez _ _ _ b.raw _ (HM.rd (i := 0) rfl) rfl (by omega) (qlq hok)) ?_
 rintro _ w12 ⟨⟨A12, c12, rfl, ho, hc12⟩, hbw⟩
 refine ⟨_, rfl, ?_⟩
 replace HM := HM.callRow hbw ho
 clear HF; intro a HF
 refine fp HF 2 3 [(3, vI 0), (2, .slice A12 (((sealL b.raw)).length) c12)] fun a HF => ?_
 refine qb rfl (wp_ret ?_)
 replace HM := HM.picks (fs' := [.row (.slice A12 (((sealL b.raw)).length) c12) (((sealL b.raw)).length) ((sealL b.raw).map B8) 5 1, .blk g1 (b.cells A c) 37]) [0, 2] (by decide) rfl
 exact ret2 rfl HF (.tmp HF rfl) (.tmp HF rfl) (bk_ok he (HM.own (i := 0) rfl) hc12 HM.below)
theorem qo3 {α : Type} (f : α → List Value) (sz : Nat) (hf : ∀ x, (f x).length = sz) : ∀ (l : List α) (k : Nat), (l.flatMap f).take (k * sz) = (l.take k).flatMap f
 | [], _ => by simp
 | _ :: _, 0 => by simp
 | x :: l, k + 1 => by
  rw [List.flatMap_cons, List.take_succ_cons, List.flatMap_cons, List.take_append, List.take_of_length_le (by rw [hf, Nat.succ_mul]; omega), hf, ← qo3 f sz hf l k]
  congr 2
  rw [Nat.succ_mul]; omega
theorem qo4 {w : World} {B m : Nat} {A : Option Addr} {l : List Ev} (h : Rd w B 11 A l.length (l.flatMap evL)) (hm : m ≤ l.length) : Rd w B 11 A m ((l.take m).flatMap evL) := by
 have h1 := h.upto (k := m) hm
 have e : (l.flatMap evL).take (m * 11) = (l.take m).flatMap evL := by
  have := qo3 evL 11 zf l m
  exact this
 rwa [e] at h1
theorem qvz {b d : Bk} (h1 : b.kind = d.kind) (h2 : b.cpu = d.cpu) (h3 : b.lost = d.lost) (h4 : b.next = d.next) (h5 : b.evs.length = d.evs.length) (h : ∀ i, i < b.evs.length → b.evs.getD i Ev.zero = d.evs.getD i Ev.zero) : b = d := by
 have he : b.evs = d.evs := by
  apply List.ext_getElem h5
  intro i hi hj
  have := h i hi
  rwa [List.getD_eq_getElem?_getD, List.getD_eq_getElem?_getD, List.getElem?_eq_getElem hi, List.getElem?_eq_getElem hj] at this
 cases b; cases d
 simp only at h1 h2 h3 h4 he
 subst h1; subst h2; subst h3; subst h4; subst he
 rfl
theorem qgb {b d : Bk} (h : b.kind ≠ d.kind ∨ b.cpu ≠ d.cpu ∨ b.lost ≠ d.lost ∨ b.next ≠ d.next ∨ b.evs.length ≠ d.evs.length) : ¬ b = d := by
 rintro rfl
 omega
theorem qhe (A : Option Addr) (n cp : Nat) (l : List Nat) (w : World) (hr : Rd w w.heap.size 1 A n (l.map B8)) (hln : l.length = n) (hn : n ≤ 9223372036854775807) (hl : ∀ b ∈ l, b < 256) :
    Calls Tryz.prog 27 #[.slice A n cp] w (Is w (.tuple #[.int .i64 ((lenR l).1 : Int), .int .i64 ((lenR l).2 : Int)])) := by
 refine qg (vs := [.slice A n cp]) Tryz.func27 rfl rfl (by kernel_rfl) (σ0 := [(0, .slice A n cp)]) rfl ?_
 intro a HF
 have HM := Mem.start w
 refine wp_seq (qa ?_)
 refine fp HF 2 0 [(3, vI 0), (2, vI 0)] fun a HF => ?_
 refine qb rfl (wp_seq (wp_seq (qa ?_)))
 refine fp HF 1 0 [(5, .slice A n cp)] fun a HF => ?_
 refine fy HF HM 1 rfl rfl rfl (Yl.len rfl rfl (by kernel_rfl)) fun a HF => ?_
 refine fp HF 1 2 [(7, .bool (decide ((n : Int) < (4 : Int))))] fun a HF => ?_
 refine qb rfl ?_
 rcases HF.tf 7 rfl with ⟨hb7, HF⟩ | ⟨hb7, HF⟩
 ·
  have hd7 := of_decide_eq_true hb7
  refine qf HF rfl (wp_seq (qa ?_))
  refine fp HF 2 0 [(3, vI 100), (2, vI 0)] fun a HF => ?_
  refine qb rfl (wp_ret ?_)
  exact ret2 rfl HF (.tmp HF rfl) (.tmp HF rfl) (qe3 (by unfold lenR; rw [if_pos (by omega)]) HM.below)
 have hd7 := of_decide_eq_false hb7
 obtain ⟨gA, oA, rfl, _⟩ := hr.zl (Nat.lt_of_le_of_lt (Nat.zero_le _) (show 0 < n from by omega)) (by decide)
 refine qe HF rfl (wp_skip (wp_seq ?_))
 refine zw HM [] [] [] fun HM HS => ?_
 refine ap HF (fun _ => HS) [0, 4, 10, 16] #[true, false, false, false, true, false, false, false, false, false, true, false, false, false, false, false, true, false, false, false, false, false, false] [(24, .slice (some ⟨gA, oA, none⟩) n cp), (18, .slice (some ⟨gA, oA, none⟩) n cp), (12, .slice (some ⟨gA, oA, none⟩) n cp), (8, .slice (some ⟨gA, oA, none⟩) n cp)] fun a HF => ?_
 refine ay HF HS 1 rfl rfl rfl (v := vP gA oA) (Yl.indexAddr (ad := ⟨gA, oA, none⟩) (y := 0) (sz := 1) rfl rfl rfl (by omega) (by kernel_rfl)) fun a HF => ?_
 have hx32 := getD_lt hl (k := 0) (by first | omega | (simp; omega))
 refine ay HF HS 2 rfl rfl rfl (v := vB (l.getD 0 0)) (Yl.qh rfl rfl (by kernel_rfl) (fun _ h => (h.old hr).zt (k := 0) (za (F := B8) (k := 0) (x := (l.getD 0 0)) ((getD_at 0 (k := 0) (by first | omega | (simp; omega))))))) fun a HF => ?_
 refine qo HF (fun _ => HS) (i := 3) rfl rfl (d := 11) rfl (by decide) (by kernel_rfl) (fun _ _ _ h => h) (v := vI (IntKind.i64.wrap ((l.getD 0 0) : Int))) (fun _ => Yl.pure (by kernel_rfl)) fun a HF => ?_
 replace HF := HF.sp 11 (vI (l.getD 0 0)) rfl (qk rfl (by omega))
 refine ay HF HS 5 rfl rfl rfl (v := vP gA (oA + 1)) (Yl.indexAddr (ad := ⟨gA, oA, none⟩) (y := 1) (sz := 1) rfl rfl rfl (by omega) (by kernel_rfl)) fun a HF => ?_
 have hx37 := getD_lt hl (k := 1) (by first | omega | (simp; omega))
 refine ay HF HS 6 rfl rfl rfl (v := vB (l.getD 1 0)) (Yl.qh rfl rfl (by kernel_rfl) (fun _ h => (h.old hr).zt (k := 1) (za (F := B8) (k := 1) (x := (l.getD 1 0)) ((getD_at 0 (k := 1) (by first | omega | (simp; omega))))))) fun a HF => ?_
 refine qo HF (fun _ => HS) (i := 7) rfl rfl (d := 15) rfl (by decide) (by kernel_rfl) (fun _ _ _ h => h) (v := vI (IntKind.i64.wrap ((l.getD 1 0) : Int))) (fun _ => Yl.pure (by kernel_rfl)) fun a HF => ?_
 replace HF := HF.sp 15 (vI (l.getD 1 0)) rfl (qk rfl (by omega))
 refine qo HF (fun _ => HS) (i := 8) rfl rfl (d := 16) rfl (by decide) (by kernel_rfl) (fun _ _ _ h => h) (v := vI (IntKind.i64.wrap (256 * ((l.getD 1 0) : Int)))) (fun _ => Yl.pure (by kernel_rfl)) fun a HF => ?_
 replace HF := HF.sp 16 (vI (256 * (l.getD 1 0) : Nat)) rfl (qk (by omega) (by omega))
 refine qo HF (fun _ => HS) (i := 9) rfl rfl (d := 17) rfl (by decide) (by kernel_rfl) (fun _ _ _ h => h) (v := vI (IntKind.i64.wrap (((l.getD 0 0) : Int) + ((256 * (l.getD 1 0) : Nat) : Int)))) (fun _ => Yl.pure (by kernel_rfl)) fun a HF => ?_
 replace HF := HF.sp 17 (vI ((l.getD 0 0) + (256 * (l.getD 1 0)) : Nat)) rfl (qk (by omega) (by omega))
 refine ay HF HS 11 rfl rfl rfl (v := vP gA (oA + 2)) (Yl.indexAddr (ad := ⟨gA, oA, none⟩) (y := 2) (sz := 1) rfl rfl rfl (by omega) (by kernel_rfl)) fun a HF => ?_
 have hx46 := getD_lt hl (k := 2) (by first | omega | (simp; omega))
 refine ay HF HS 12 rfl rfl rfl (v := vB (l.getD 2 0)) (Yl.qh rfl rfl (by kernel_rfl) (fun _ h => (h.old hr).zt (k := 2) (za (F := B8) (k := 2) (x := (l.getD 2 0)) ((getD_at 0 (k := 2) (by first | omega | (simp; omega))))))) fun a HF => ?_
 refine qo HF (fun _ => HS) (i := 13) rfl rfl (d := 21) rfl (by decide) (by kernel_rfl) (fun _ _ _ h => h) (v := vI (IntKind.i64.wrap ((l.getD 2 0) : Int))) (fun _ => Yl.pure (by kernel_rfl)) fun a HF => ?_
 replace HF := HF.sp 21 (vI (l.getD 2 0)) rfl (qk rfl (by omega))
 refine qo HF (fun _ => HS) (i := 14) rfl rfl (d := 22) rfl (by decide) (by kernel_rfl) (fun _ _ _ h => h) (v := vI (IntKind.i64.wrap (65536 * ((l.getD 2 0) : Int)))) (fun _ => Yl.pure (by kernel_rfl)) fun a HF => ?_
 replace HF := HF.sp 22 (vI (65536 * (l.getD 2 0) : Nat)) rfl (qk (by omega) (by omega))
 refine qo HF (fun _ => HS) (i := 15) rfl rfl (d := 23) rfl (by decide) (by kernel_rfl) (fun _ _ _ h => h) (v := vI (IntKind.i64.wrap ((((l.getD 0 0) + (256 * (l.getD 1 0)) : Nat) : Int) + ((65536 * (l.getD 2 0) : Nat) : Int)))) (fun _ => Yl.pure (by kernel_rfl)) fun a HF => ?_
 replace HF := HF.sp 23 (vI ((l.getD 0 0) + (256 * (l.getD 1 0)) + (65536 * (l.getD 2 0)) : Nat)) rfl (qk (by omega) (by omega))
 refine ay HF HS 17 rfl rfl rfl (v := vP gA (oA + 3)) (Yl.indexAddr (ad := ⟨gA, oA, none⟩) (y := 3) (sz := 1) rfl rfl rfl (by omega) (by kernel_rfl)) fun a HF => ?_
 have hx55 := getD_lt hl (k := 3) (by first | omega | (simp; omega))
 refine ay HF HS 18 rfl rfl rfl (v := vB (l.getD 3 0)) (Yl.qh rfl rfl (by kernel_rfl) (fun _ h => (h.old hr).zt (k := 3) (za (F := B8) (k := 3) (x := (l.getD 3 0)) ((getD_at 0 (k := 3) (by first | omega | (simp; omega))))))) fun a HF => ?_
 refine qo HF (fun _ => HS) (i := 19) rfl rfl (d := 27) rfl (by decide) (by kernel_rfl) (fun _ _ _ h => h) (v := vI (IntKind.i64.wrap ((l.getD 3 0) : Int))) (fun _ => Yl.pure (by kernel_rfl)) fun a HF => ?_
 replace HF := HF.sp 27 (vI (l.getD 3 0)) rfl (qk rfl (by omega))
 refine qo HF (fun _ => HS) (i := 20) rfl rfl (d := 28) rfl (by decide) (by kernel_rfl) (fun _ _ _ h => h) (v := vI (IntKind.i64.wrap (16777216 * ((l.getD 3 0) : Int)))) (fun _ => Yl.pure (by kernel_rfl)) fun a HF => ?_
 replace HF := HF.sp 28 (vI (16777216 * (l.getD 3 0) : Nat)) rfl (qk (by omega) (by omega))
 refine qo HF (fun _ => HS) (i := 21) rfl rfl (d := 29) rfl (by decide) (by kernel_rfl) (fun _ _ _ h => h) (v := vI (IntKind.i64.wrap ((((l.getD 0 0) + (256 * (l.getD 1 0)) + (65536 * (l.getD 2 0)) : Nat) : Int) + ((16777216 * (l.getD 3 0) : Nat) : Int)))) (fun _ => Yl.pure (by kernel_rfl)) fun a HF => ?_
 replace HF := HF.sp 29 (vI (num4 l)) rfl (qk (by unfold num4; omega) (by unfold num4; omega))
 refine ap HF (fun _ => HS) [22] #[true, true, true, true, true, true, true, true, true, true, true, true, true, true, true, true, true, true, true, true, true, true, true] [(4, vI (num4 l))] fun a HF => ?_
 refine qm (by kernel_rfl) ?_
 refine wp_seq (wp_seq (qa ?_))
 refine fp HF 3 0 [(32, .bool (decide ((num4 l : Int) < (13 : Int))))] fun a HF => ?_
 rcases HF.tf 32 rfl with ⟨hb32, HF⟩ | ⟨hb32, HF⟩
 ·
  have hd32 := of_decide_eq_true hb32
  refine fp HF 3 3 [(35, .bool true)] fun a HF => ?_
  refine qb rfl (qf HF rfl (wp_seq (qa ?_)))
  refine fp HF 2 0 [(3, vI 101), (2, vI 0)] fun a HF => ?_
  refine qb rfl (wp_ret ?_)
  exact ret2 rfl HF (.tmp HF rfl) (.tmp HF rfl) (qe3 (by unfold lenR; rw [if_neg (by omega), if_pos (by omega)]) HM.below)
 have hd32 := of_decide_eq_false hb32
 refine fp HF 3 3 [(35, .bool (decide ((num4 l : Int) > (4096 : Int))))] fun a HF => ?_
 refine qb rfl ?_
 rcases HF.tf 35 rfl with ⟨hb35, HF⟩ | ⟨hb35, HF⟩
 ·
  have hd35 := of_decide_eq_true hb35
  refine qf HF rfl (wp_seq (qa ?_))
  refine fp HF 2 0 [(3, vI 101), (2, vI 0)] fun a HF => ?_
  refine qb rfl (wp_ret ?_)
  exact ret2 rfl HF (.tmp HF rfl) (.tmp HF rfl) (qe3 (by unfold lenR; rw [if_neg (by omega), if_pos (by omega)]) HM.below)
 have hd35 := of_decide_eq_false hb35
 refine qe HF rfl (wp_skip (wp_seq (wp_seq (qa ?_))))
 refine fp HF 1 0 [(36, .slice (some ⟨gA, oA, none⟩) n cp)] fun a HF => ?_
 refine fy HF HM 1 rfl rfl rfl (Yl.len rfl rfl (by kernel_rfl)) fun a HF => ?_
 refine fp HF 2 2 [(39, .bool (decide ((n : Int) < (num4 l : Int))))] fun a HF => ?_
 refine qb rfl ?_
 rcases HF.tf 39 rfl with ⟨hb39, HF⟩ | ⟨hb39, HF⟩
 ·
  have hd39 := of_decide_eq_true hb39
  refine qf HF rfl (wp_seq (qa ?_))
  refine fp HF 2 0 [(3, vI 100), (2, vI 0)] fun a HF => ?_
  refine qb rfl ?_
  replace HF := HF.to [(3, vI 100), (2, vI 0), (39, .bool true), (35, .bool false), (4, vI (num4 l)), (7, .bool false), (0, .slice (some ⟨gA, oA, none⟩) n cp)]
  refine wp_ret ?_
  exact ret2 rfl HF (.tmp HF rfl) (.tmp HF rfl) (qe3 (by unfold lenR; rw [if_neg (by omega), if_neg (by omega), if_pos (by omega)]) HM.below)
 have hd39 := of_decide_eq_false hb39
 refine qe HF rfl (wp_skip (wp_seq (qa ?_)))
 refine fp HF 3 0 [(3, vI 0), (2, vI (num4 l))] fun a HF => ?_
 refine qb rfl ?_
 replace HF := HF.to [(3, vI 0), (2, vI (num4 l)), (39, .bool false), (35, .bool false), (4, vI (num4 l)), (7, .bool false), (0, .slice (some ⟨gA, oA, none⟩) n cp)]
 refine wp_ret ?_
 exact ret2 rfl HF (.tmp HF rfl) (.tmp HF rfl) (qe3 (by unfold lenR; rw [if_neg (by omega), if_neg (by omega), if_neg (by omega)]) HM.below)
theorem qqe (b : Bk) (hok : b.Ok) (A : Option Addr) (c : Nat) (w : World) (hr : Rd w w.heap.size 11 A b.evs.length (b.evs.flatMap evL)) (hn : b.evs.length ≤ 1000000) (hc : b.evs.length ≤ c) :
    Calls Tryz.prog 18 #[.agg (b.cells A c)] w (Is w (.tuple #[.int .i64 (b.fill.1 : Int), .int .i64 (b.fill.2 : Int)])) := by
 refine qg (vs := [.agg (b.cells A c)]) Tryz.func18 rfl rfl (by kernel_rfl) (σ0 := [(0, .agg (b.cells A c))]) rfl ?_
 intro a HF
 have HM := Mem.start w
 refine wp_seq (qa ?_)
 refine fo HF 0 rfl rfl ?_
 refine e_box HF HM (cs := (b.cells A c)) rfl rfl rfl rfl (by decide) ?_
 clear HF HM; intro a w1 g1 HF HM
 refine fp HF 2 1 [(3, vI 0), (2, vI 0)] fun a HF => ?_
 refine qb rfl (wp_seq (wp_seq (qa ?_)))
 refine fy HF HM 0 rfl rfl rfl (v := .agg (b.cells A c)) (Yl.qx rfl rfl qw rfl (fun _ h => qd (h.blk (i := 0) rfl))) fun a HF => ?_
 refine fo HF 1 rfl rfl ?_
 refine e_is HF HM [.agg (b.cells A c)] (.bool b.fits) rfl rfl (qjr b hok A c _ (HM.old hr) hn) fun w7 hbw HM a HF => ?_
 refine fp HF 1 2 [(8, .bool (!b.fits))] fun a HF => ?_
 refine qb rfl ?_
 rcases HF.tf 8 rfl with ⟨hb8, HF⟩ | ⟨hb8, HF⟩
 ·
  have hf : b.fits = false := by simpa using hb8
  refine qf HF rfl (wp_seq (qa ?_))
  refine fp HF 2 0 [(3, vI 107), (2, vI 0)] fun a HF => ?_
  refine qb rfl (wp_ret ?_)
  exact ret2 rfl HF (.tmp HF rfl) (.tmp HF rfl) (qfd (by unfold Bk.fill; rw [if_pos hf]) HM.below)
 have hf : b.fits = true := by simpa using hb8
 refine qe HF rfl (wp_skip (wp_seq (qa ?_)))
 refine fp HF 1 0 [(9, vP g1 4)] fun a HF => ?_
 refine fy HF HM 1 rfl rfl rfl (v := .slice A b.evs.length c) (Yl.qh rfl rfl (by kernel_rfl) (fun _ h => h.cell (i := 0) rfl (rfl))) fun a HF => ?_
 refine fy HF HM 2 rfl rfl rfl (Yl.len rfl rfl (by kernel_rfl)) fun a HF => ?_
 refine fp HF 1 3 [(4, vI b.evs.length)] fun a HF => ?_
 refine qb rfl (wp_seq (wp_block ?_))
 refine qv (fun mS aS wS => ∃ (k : Nat), (k ≤ b.evs.length) ∧ (∀ m, k < m → m ≤ b.evs.length → b.big m = true) ∧ mS = 0 + k ∧ Fr aS 28 [] [(4, vI k), (8, .bool false), (3, vI 0), (2, vI 0), (1, vP g1 0)] ∧ Mem w wS [.blk g1 (b.cells A c) 37]) (m := 0 + b.evs.length) ⟨b.evs.length, Nat.le_refl _, fun m h1 h2 => by omega, rfl, HF.sub (by kernel_rfl), HM.picks [0] (by decide) rfl⟩ ?_
 clear HF HM; rintro mS a w_ ⟨k, hk, hall, rfl, HF, HM⟩
 refine wp_seq (wp_seq (qa ?_))
 refine fp HF 2 0 [(13, .bool (decide ((k : Int) > (0 : Int))))] fun a HF => ?_
 refine qb rfl ?_
 rcases HF.tf 13 rfl with ⟨hb13, HF⟩ | ⟨hb13, HF⟩
 ·
  have hd13 := of_decide_eq_true hb13
  have hk0 : 0 < k := by omega
  have hkd : b.kind = 1 := by by_cases h2 : b.kind = 2; (have := qf1 hf h2; omega); exact (qb6 hf h2).1
  have hlu := qsz hkd hk0 hk
  have hul := qev hk
  refine qf HF rfl (wp_skip (wp_block (wp_seq (qa ?_))))
  refine fy HF HM 0 rfl rfl rfl (v := .agg (b.cells A c)) (Yl.qx rfl rfl qw rfl (fun _ h => qd (h.blk (i := 0) rfl))) fun a HF => ?_
  refine fo HF 1 rfl rfl ?_
  refine qz HF HM (cs := #[vB 0, vB 0, vI 0, vI 0, .slice none 0 0]) rfl (by kernel_rfl) rfl (by decide) ?_
  clear HF HM; intro a w5 g5 HF HM
  refine fo HF 2 rfl rfl ?_
  refine e_sa HF HM 0 rfl rfl rfl rfl rfl qw rfl rfl (qcd _ _ _) ?_
  clear HM; intro w5_2 HM
  refine qb rfl (wp_seq (qa ?_))
  refine fp HF 1 0 [(15, vP g1 4)] fun a HF => ?_
  refine fy HF HM 1 rfl rfl rfl (v := .slice A b.evs.length c) (Yl.qh rfl rfl (by kernel_rfl) (fun _ h => h.cell (i := 1) rfl (rfl))) fun a HF => ?_
  refine fp HF 1 2 [(17, vI k)] fun a HF => ?_
  refine fy HF HM 3 rfl rfl rfl (v := .slice A k c) (Yl.zx ql2 (j := k) rfl rfl rfl (by omega)) fun a HF => ?_
  replace HF := HF.sp 18 (.slice A ((b.upto k).evs.length) c) rfl (by rw [qev hk])
  refine fp HF 1 4 [(19, vP g5 4)] fun a HF => ?_
  refine fo HF 5 rfl rfl ?_
  refine zy HF HM (i := 0) (cs := (b.cells A c)) rfl rfl rfl rfl (by kernel_rfl) rfl rfl (by simp [Bk.cells]) ?_
  clear HM; intro w6_5 HM
  refine qb rfl (wp_seq (wp_seq (qa ?_)))
  refine fy HF HM 0 rfl rfl rfl (v := .agg #[vB b.kind, vB b.cpu, vI b.lost, vI b.next, .slice A ((b.upto k).evs.length) c]) (Yl.qx rfl rfl qw rfl (fun _ h => qd (h.blk (i := 0) rfl))) fun a HF => ?_
  refine fo HF 1 rfl rfl ?_
  refine e_cl HF [.agg #[vB b.kind, vB b.cpu, vI b.lost, vI b.next, .slice A ((b.upto k).evs.length) c]] rfl rfl (qb1 (b.upto k) (qxe hok k) A c _ ((HM.old (by rw [qev hk]; exact qo4 hr hk))) (by rw [qev hk]; omega) (qsy hok hf hk0 hk)) ?_
  rintro _ w21 ⟨⟨A21, c21, rfl, ho, hc21⟩, hbw⟩
  refine ⟨_, rfl, ?_⟩
  replace HM := HM.callRow hbw ho
  clear HF; intro a HF
  have hrw21 := qbn (b.upto k)
  have hbl21 := qa4 (b.upto k)
  refine fy HF HM 2 rfl rfl rfl (Yl.len rfl rfl (by kernel_rfl)) fun a HF => ?_
  refine fp HF 1 3 [(23, vI (IntKind.i64.wrap (((((b.upto k).raw).length : Nat) : Int) + 4)))] fun a HF => ?_
  replace HF := HF.sp 23 (vI (((b.upto k).raw).length + 4 : Nat)) rfl (qk (by omega) (by omega))
  refine fp HF 1 4 [(24, .bool (decide (((((b.upto k).raw).length + 4 : Nat) : Int) ≤ (4096 : Int))))] fun a HF => ?_
  refine qb rfl ?_
  rcases HF.tf 24 rfl with ⟨hb24, HF⟩ | ⟨hb24, HF⟩
  ·
   have hd24 := of_decide_eq_true hb24
   have hbg : b.big k = false := by unfold Bk.big; rw [decide_eq_false]; omega
   refine qf HF rfl (wp_seq (qa ?_))
   refine fp HF 3 0 [(3, vI 0), (2, vI k)] fun a HF => ?_
   refine qb rfl (wp_ret ?_)
   replace HM := HM.picks (fs' := [.blk g5 #[vB b.kind, vB b.cpu, vI b.lost, vI b.next, .slice A ((b.upto k).evs.length) c] 37, .blk g1 (b.cells A c) 37]) [1, 2] (by decide) rfl
   exact ret2 rfl HF (.tmp HF rfl) (.tmp HF rfl) (qfd (by unfold Bk.fill; rw [if_neg (by rw [hf]; decide), qlv hk (fun _ => hbg) hall]) HM.below)
  have hd24 := of_decide_eq_false hb24
  have hbg : b.big k = true := by unfold Bk.big; rw [decide_eq_true]; omega
  refine qe HF rfl (wp_skip (qa ?_))
  refine fp HF 2 0 [(27, vI (IntKind.i64.wrap ((k : Int) - 1)))] fun a HF => ?_
  replace HF := HF.sp 27 (vI (k - 1 : Nat)) rfl (qk (by omega) (by omega))
  refine fp HF 1 2 [(4, vI (k - 1 : Nat))] fun a HF => ?_
  refine qb rfl ?_
  exact ⟨_, (by omega), (k - 1), by omega, fun m h1 h2 => by by_cases hm : k < m; (exact hall m hm h2); (have : m = k := by omega); subst this; exact hbg, rfl, HF.sub (by kernel_rfl), HM.picks [2] (by decide) rfl⟩
 have hd13 := of_decide_eq_false hb13
 refine qe HF rfl (wp_exit (wp_seq (qa ?_)))
 refine fp HF 2 0 [(3, vI 0), (2, vI 0)] fun a HF => ?_
 refine qb rfl (wp_ret ?_)
 exact ret2 rfl HF (.tmp HF rfl) (.tmp HF rfl) (qfd (by unfold Bk.fill; rw [if_neg (by rw [hf]; decide), qlv (n := 0) (Nat.zero_le _) (fun h => by omega) (fun m h1 h2 => hall m (by omega) h2)]) HM.below)
theorem qjs (b d : Bk) (A A2 : Option Addr) (c c2 : Nat) (w : World) (hr : Rd w w.heap.size 11 A b.evs.length (b.evs.flatMap evL)) (hr2 : Rd w w.heap.size 11 A2 d.evs.length (d.evs.flatMap evL)) (hn : b.evs.length ≤ 1000000) :
    Calls Tryz.prog 20 #[.agg (b.cells A c), .agg (d.cells A2 c2)] w (Is w (.bool (decide (b = d)))) := by
 refine qg (vs := [.agg (b.cells A c), .agg (d.cells A2 c2)]) Tryz.func20 rfl rfl (by kernel_rfl) (σ0 := [(0, .agg (b.cells A c)), (1, .agg (d.cells A2 c2))]) rfl ?_
 intro a HF
 have HM := Mem.start w
 refine wp_seq (qa ?_)
 refine fo HF 0 rfl rfl ?_
 refine e_box HF HM (cs := (b.cells A c)) rfl rfl rfl rfl (by decide) ?_
 clear HF HM; intro a w2 g2 HF HM
 refine fo HF 1 rfl rfl ?_
 refine e_box HF HM (cs := (d.cells A2 c2)) rfl rfl rfl rfl (by decide) ?_
 clear HF HM; intro a w3 g3 HF HM
 refine fp HF 1 2 [(4, .bool false)] fun a HF => ?_
 refine qb rfl (wp_seq (wp_seq (qa ?_)))
 refine fp HF 1 0 [(6, vP g2 0)] fun a HF => ?_
 refine fy HF HM 1 rfl rfl rfl (v := vB b.kind) (Yl.qh rfl rfl (by kernel_rfl) (fun _ h => h.cell (i := 1) rfl (rfl))) fun a HF => ?_
 refine fp HF 1 2 [(8, vP g3 0)] fun a HF => ?_
 refine fy HF HM 3 rfl rfl rfl (v := vB d.kind) (Yl.qh rfl rfl (by kernel_rfl) (fun _ h => h.cell (i := 0) rfl (rfl))) fun a HF => ?_
 refine fp HF 2 4 [(11, .bool ((b.kind : Int) != (d.kind : Int)))] fun a HF => ?_
 rcases HF.tf 11 rfl with ⟨hb11, HF⟩ | ⟨hb11, HF⟩
 ·
  have hd11 := bne_iff_ne.1 hb11
  refine fp HF 29 6 [(40, .bool true)] fun a HF => ?_
  refine qb rfl (qf HF rfl (wp_seq (qa ?_)))
  refine fp HF 1 0 [(4, .bool false)] fun a HF => ?_
  refine qb rfl (wp_ret ?_)
  exact ret1 rfl HF (.tmp HF rfl) (⟨by rw [decide_eq_false (qgb (by omega))], HM.below⟩)
 have hd11 := bne_eq_false_iff_eq.1 hb11
 refine fp HF 1 6 [(12, vP g2 1)] fun a HF => ?_
 refine fy HF HM 7 rfl rfl rfl (v := vB b.cpu) (Yl.qh rfl rfl (by kernel_rfl) (fun _ h => h.cell (i := 1) rfl (rfl))) fun a HF => ?_
 refine fp HF 1 8 [(14, vP g3 1)] fun a HF => ?_
 refine fy HF HM 9 rfl rfl rfl (v := vB d.cpu) (Yl.qh rfl rfl (by kernel_rfl) (fun _ h => h.cell (i := 0) rfl (rfl))) fun a HF => ?_
 refine fp HF 3 10 [(18, .bool ((b.cpu : Int) != (d.cpu : Int)))] fun a HF => ?_
 rcases HF.tf 18 rfl with ⟨hb18, HF⟩ | ⟨hb18, HF⟩
 ·
  have hd18 := bne_iff_ne.1 hb18
  refine fp HF 22 13 [(40, .bool true)] fun a HF => ?_
  refine qb rfl (qf HF rfl (wp_seq (qa ?_)))
  refine fp HF 1 0 [(4, .bool false)] fun a HF => ?_
  refine qb rfl (wp_ret ?_)
  exact ret1 rfl HF (.tmp HF rfl) (⟨by rw [decide_eq_false (qgb (by omega))], HM.below⟩)
 have hd18 := bne_eq_false_iff_eq.1 hb18
 refine fp HF 1 13 [(19, vP g2 2)] fun a HF => ?_
 refine fy HF HM 14 rfl rfl rfl (v := vI b.lost) (Yl.qh rfl rfl (by kernel_rfl) (fun _ h => h.cell (i := 1) rfl (rfl))) fun a HF => ?_
 refine fp HF 1 15 [(21, vP g3 2)] fun a HF => ?_
 refine fy HF HM 16 rfl rfl rfl (v := vI d.lost) (Yl.qh rfl rfl (by kernel_rfl) (fun _ h => h.cell (i := 0) rfl (rfl))) fun a HF => ?_
 refine fp HF 3 17 [(25, .bool ((b.lost : Int) != (d.lost : Int)))] fun a HF => ?_
 rcases HF.tf 25 rfl with ⟨hb25, HF⟩ | ⟨hb25, HF⟩
 ·
  have hd25 := bne_iff_ne.1 hb25
  refine fp HF 15 20 [(40, .bool true)] fun a HF => ?_
  refine qb rfl (qf HF rfl (wp_seq (qa ?_)))
  refine fp HF 1 0 [(4, .bool false)] fun a HF => ?_
  refine qb rfl (wp_ret ?_)
  exact ret1 rfl HF (.tmp HF rfl) (⟨by rw [decide_eq_false (qgb (by omega))], HM.below⟩)
 have hd25 := bne_eq_false_iff_eq.1 hb25
 refine fp HF 1 20 [(26, vP g2 3)] fun a HF => ?_
 refine fy HF HM 21 rfl rfl rfl (v := vI b.next) (Yl.qh rfl rfl (by kernel_rfl) (fun _ h => h.cell (i := 1) rfl (rfl))) fun a HF => ?_
 refine fp HF 1 22 [(28, vP g3 3)] fun a HF => ?_
 refine fy HF HM 23 rfl rfl rfl (v := vI d.next) (Yl.qh rfl rfl (by kernel_rfl) (fun _ h => h.cell (i := 0) rfl (rfl))) fun a HF => ?_
 refine fp HF 3 24 [(32, .bool ((b.next : Int) != (d.next : Int)))] fun a HF => ?_
 rcases HF.tf 32 rfl with ⟨hb32, HF⟩ | ⟨hb32, HF⟩
 ·
  have hd32 := bne_iff_ne.1 hb32
  refine fp HF 8 27 [(40, .bool true)] fun a HF => ?_
  refine qb rfl (qf HF rfl (wp_seq (qa ?_)))
  refine fp HF 1 0 [(4, .bool false)] fun a HF => ?_
  refine qb rfl (wp_ret ?_)
  exact ret1 rfl HF (.tmp HF rfl) (⟨by rw [decide_eq_false (qgb (by omega))], HM.below⟩)
 have hd32 := bne_eq_false_iff_eq.1 hb32
 refine fp HF 1 27 [(33, vP g2 4)] fun a HF => ?_
 refine fy HF HM 28 rfl rfl rfl (v := .slice A b.evs.length c) (Yl.qh rfl rfl (by kernel_rfl) (fun _ h => h.cell (i := 1) rfl (rfl))) fun a HF => ?_
 refine fy HF HM 29 rfl rfl rfl (Yl.len rfl rfl (by kernel_rfl)) fun a HF => ?_
 refine fp HF 1 30 [(36, vP g3 4)] fun a HF => ?_
 refine fy HF HM 31 rfl rfl rfl (v := .slice A2 d.evs.length c2) (Yl.qh rfl rfl (by kernel_rfl) (fun _ h => h.cell (i := 0) rfl (rfl))) fun a HF => ?_
 refine fy HF HM 32 rfl rfl rfl (Yl.len rfl rfl (by kernel_rfl)) fun a HF => ?_
 refine fp HF 2 33 [(40, .bool ((b.evs.length : Int) != (d.evs.length : Int)))] fun a HF => ?_
 refine qb rfl ?_
 rcases HF.tf 40 rfl with ⟨hb40, HF⟩ | ⟨hb40, HF⟩
 ·
  have hd40 := bne_iff_ne.1 hb40
  refine qf HF rfl (wp_seq (qa ?_))
  refine fp HF 1 0 [(4, .bool false)] fun a HF => ?_
  refine qb rfl (wp_ret ?_)
  exact ret1 rfl HF (.tmp HF rfl) (⟨by rw [decide_eq_false (qgb (by omega))], HM.below⟩)
 have hd40 := bne_eq_false_iff_eq.1 hb40
 refine qe HF rfl (wp_skip (wp_seq (wp_seq (qa ?_))))
 refine fp HF 1 0 [(5, vI 0)] fun a HF => ?_
 refine qb rfl (wp_block ?_)
 refine qv (fun mS aS wS => ∃ (k : Nat), (k ≤ b.evs.length) ∧ (∀ i, i < k → b.evs.getD i Ev.zero = d.evs.getD i Ev.zero) ∧ mS = b.evs.length - k ∧ Fr aS 59 [] [(5, vI k), (40, .bool false), (4, .bool false), (3, vP g3 0), (2, vP g2 0)] ∧ Mem w wS [.blk g3 (d.cells A2 c2) 37, .blk g2 (b.cells A c) 37]) (m := b.evs.length - 0) ⟨0, Nat.zero_le _, fun i hi => absurd hi (Nat.not_lt_zero _), rfl, HF.sub (by kernel_rfl), HM.picks [0, 1] (by decide) rfl⟩ ?_
 clear HF HM; rintro mS a w_ ⟨k, hk, hall, rfl, HF, HM⟩
 refine wp_seq (wp_seq (qa ?_))
 refine fp HF 2 0 [(42, vP g2 4), (41, vI k)] fun a HF => ?_
 refine fy HF HM 2 rfl rfl rfl (v := .slice A b.evs.length c) (Yl.qh rfl rfl (by kernel_rfl) (fun _ h => h.cell (i := 1) rfl (rfl))) fun a HF => ?_
 refine fy HF HM 3 rfl rfl rfl (Yl.len rfl rfl (by kernel_rfl)) fun a HF => ?_
 refine fp HF 1 4 [(45, .bool (decide ((k : Int) < (b.evs.length : Int))))] fun a HF => ?_
 refine qb rfl ?_
 rcases HF.tf 45 rfl with ⟨hb45, HF⟩ | ⟨hb45, HF⟩
 ·
  have hd45 := of_decide_eq_true hb45
  have hk45 : k < b.evs.length := by omega
  refine qf HF rfl (wp_skip (wp_seq (wp_block (wp_seq ?_))))
  refine zw HM [.blk g3 (d.cells A2 c2) 37, .blk g2 (b.cells A c) 37] [0, 1] [] fun HM HS => ?_
  refine ap HF (fun _ => HS) [0, 2, 5, 7] #[true, false, true, false, false, true, false, true, false, false, false] [(55, vI k), (53, vP g3 4), (50, vI k), (48, vP g2 4)] fun a HF => ?_
  refine ay HF HS 1 rfl rfl rfl (v := .slice A b.evs.length c) (Yl.qh rfl rfl (by kernel_rfl) (fun _ h => h.cell (i := 1) rfl (rfl))) fun a HF => ?_
  obtain ⟨gA, oA, rfl, _⟩ := hr.zl (Nat.lt_of_le_of_lt (Nat.zero_le _) (show k < b.evs.length from by omega)) (by decide)
  refine ay HF HS 3 rfl rfl rfl (v := vP gA (oA + k * 11)) (Yl.ix gA oA k 11 rfl rfl rfl) fun a HF => ?_
  refine ay HF HS 4 rfl rfl rfl (v := .agg ((b.evs.getD k Ev.zero).cells)) (Yl.qx rfl rfl ⟨(by kernel_rfl), (by kernel_rfl)⟩ rfl (fun _ h => (h.old hr).qb8 zf ((getD_at Ev.zero (k := k) (by first | omega | (simp; omega)))))) fun a HF => ?_
  refine ay HF HS 6 rfl rfl rfl (v := .slice A2 d.evs.length c2) (Yl.qh rfl rfl (by kernel_rfl) (fun _ h => h.cell (i := 0) rfl (rfl))) fun a HF => ?_
  obtain ⟨gA2, oA2, rfl, _⟩ := hr2.zl (Nat.lt_of_le_of_lt (Nat.zero_le _) (show k < d.evs.length from by omega)) (by decide)
  refine ay HF HS 8 rfl rfl rfl (v := vP gA2 (oA2 + k * 11)) (Yl.ix gA2 oA2 k 11 rfl rfl rfl) fun a HF => ?_
  refine ay HF HS 9 rfl rfl rfl (v := .agg ((d.evs.getD k Ev.zero).cells)) (Yl.qx rfl rfl ⟨(by kernel_rfl), (by kernel_rfl)⟩ rfl (fun _ h => (h.old hr2).qb8 zf ((getD_at Ev.zero (k := k) (by first | omega | (simp; omega)))))) fun a HF => ?_
  refine ay HF HS 10 rfl rfl rfl (v := .bool (!(decide ((b.evs.getD k Ev.zero) = (d.evs.getD k Ev.zero))))) (Yl.qy4 (x := (b.evs.getD k Ev.zero)) (y := (d.evs.getD k Ev.zero)) rfl rfl rfl (by kernel_rfl)) fun a HF => ?_
  refine qm (by kernel_rfl) ?_
  rcases HF.tf 58 rfl with ⟨hb58, HF⟩ | ⟨hb58, HF⟩
  ·
   refine qf HF rfl (wp_seq (qa ?_))
   refine fp HF 1 0 [(4, .bool false)] fun a HF => ?_
   refine qb rfl (wp_ret ?_)
   exact ret1 rfl HF (.tmp HF rfl) (⟨by rw [decide_eq_false (fun h => by rw [h] at hb58; simp at hb58)], HM.below⟩)
  refine qe HF rfl (wp_skip (qa ?_))
  refine fp HF 2 0 [(47, vI (IntKind.i64.wrap ((k : Int) + 1)))] fun a HF => ?_
  replace HF := HF.sp 47 (vI (k + 1 : Nat)) rfl (qk (by omega) (by omega))
  refine fp HF 1 2 [(5, vI (k + 1 : Nat))] fun a HF => ?_
  refine qb rfl ?_
  exact ⟨_, (by omega), k + 1, by omega, fun i hi => (Nat.lt_succ_iff_lt_or_eq.1 hi).elim (hall i) (fun h => by subst h; simpa using hb58), rfl, HF.sub (by kernel_rfl), HM.picks [0, 1] (by decide) rfl⟩
 have hd45 := of_decide_eq_false hb45
 refine qe HF rfl (wp_exit (wp_seq (qa ?_)))
 refine fp HF 1 0 [(4, .bool true)] fun a HF => ?_
 refine qb rfl (wp_ret ?_)
 exact ret1 rfl HF (.tmp HF rfl) (⟨by rw [decide_eq_true (qvz (by omega) (by omega) (by omega) (by omega) (by omega) (fun i hi => hall i (by omega)))], HM.below⟩)
theorem qgy (A : Option Addr) (c m : Nat) (l : List Nat) (w : World) (hr : Rd w w.heap.size 1 A l.length (l.map B8)) (hc : l.length ≤ c) (hn : l.length ≤ 100000000) (hm : m ≤ 1000000) (hl : ∀ b ∈ l, b < 256) :
    Calls Tryz.prog 67 #[.slice A l.length c, .int .i64 (m : Int)] w (qwp w A l (numsR m l)) := by
 refine qg (vs := [.slice A l.length c, vI m]) Tryz.func67 rfl rfl (by kernel_rfl) (σ0 := [(0, .slice A l.length c), (1, vI m)]) rfl ?_
 intro a HF
 have HM := Mem.start w
 refine wp_seq (qa ?_)
 refine fp HF 2 0 [(5, .slice none 0 0), (4, .slice none 0 0)] fun a HF => ?_
 refine qb rfl (wp_seq (qa ?_))
 refine fp HF 1 0 [(6, .slice none 0 0)] fun a HF => ?_
 refine qb rfl ?_
 replace HM := HM.nil 22 1
 refine wp_seq (wp_block ?_)
 refine qv (fun mS aS wS => ∃ (xs : List Nat) (Ak : Option Addr) (ck : Nat) (rl : List Nat) (X : Option Addr) (cX : Nat), (xs.length ≤ m) ∧ (xs.length ≤ ck) ∧ (numsR m l = (xs ++ (numsR (m - xs.length) rl).1, (numsR (m - xs.length) rl).2)) ∧ (∀ v : World, Rd v v.heap.size 1 A l.length (l.map B8) → Rd v v.heap.size 1 X rl.length (rl.map B8)) ∧ (∀ b ∈ rl, b < 256) ∧ (rl.length ≤ cX) ∧ (rl.length ≤ l.length) ∧ mS = m - xs.length ∧ Fr aS 33 [] [(6, .slice Ak xs.length ck), (5, .slice none 0 0), (4, .slice none 0 0), (0, .slice X rl.length cX), (1, vI m)] ∧ Mem w wS [.row (.slice Ak xs.length ck) xs.length (xs.map U64) 22 1]) (m := m - [].length) ⟨[], none, 0, l, A, c, Nat.zero_le _, Nat.le_refl _, by simp, fun _ h => h, hl, hc, Nat.le_refl _, rfl, HF.sub (by kernel_rfl), HM.picks [0] (by decide) rfl⟩ ?_
 clear HF HM; rintro mS a w_ ⟨xs, Ak, ck, rl, X, cX, hxm, hck, hj, hrl, hll, hcX, hlen, rfl, HF, HM⟩
 refine wp_seq (wp_seq (qa ?_))
 refine fp HF 1 0 [(10, .slice Ak xs.length ck)] fun a HF => ?_
 refine fy HF HM 1 rfl rfl rfl (Yl.len rfl rfl (by kernel_rfl)) fun a HF => ?_
 refine fp HF 2 2 [(13, .bool (decide ((xs.length : Int) < (m : Int))))] fun a HF => ?_
 refine qb rfl ?_
 rcases HF.tf 13 rfl with ⟨hb13, HF⟩ | ⟨hb13, HF⟩
 ·
  have hd13 := of_decide_eq_true hb13
  have hlt : xs.length < m := by omega
  refine qf HF rfl (wp_skip (wp_block (wp_seq (qa ?_))))
  refine fp HF 1 0 [(15, .slice X rl.length cX)] fun a HF => ?_
  refine fo HF 1 rfl rfl ?_
  refine e_cl HF [.slice X rl.length cX] rfl rfl (qjo X rl.length cX _ rl _ (HM.old (hrl w hr)) hll (by omega)) ?_
  rintro _ w16 ⟨rfl, rfl⟩
  refine ⟨_, rfl, ?_⟩
  replace HM := HM
  clear HF; intro a HF
  refine fp HF 7 2 [(9, vI ((vread rl).2.2)), (8, vI ((vread rl).2.1)), (7, vQ ((vread rl).1))] fun a HF => ?_
  refine qb rfl (wp_seq (wp_seq (qa ?_)))
  refine fp HF 2 0 [(21, .bool (((vread rl).2.2 : Int) != (0 : Int)))] fun a HF => ?_
  refine qb rfl ?_
  rcases HF.tf 21 rfl with ⟨hb21, HF⟩ | ⟨hb21, HF⟩
  ·
   have hd21 := bne_iff_ne.1 hb21
   have hb0 : (vread rl).2.2 ≠ 0 := by omega
   refine qf HF rfl (wp_seq (qa ?_))
   refine fp HF 4 0 [(5, .slice X rl.length cX), (4, .slice Ak xs.length ck)] fun a HF => ?_
   refine qb rfl (wp_ret ?_)
   exact ret2 rfl HF (.tmp HF rfl) (.tmp HF rfl) (ql8 (qvu hj hlt hb0) (HM.own (i := 0) rfl) hck hrl hcX HM.below)
  have hd21 := bne_eq_false_iff_eq.1 hb21
  have hb0 : (vread rl).2.2 = 0 := by omega
  have hvl := qbc rl
  have htl := qby rl
  refine qe HF rfl (wp_skip (wp_seq (qa ?_)))
  refine fp HF 2 0 [(25, vQ ((vread rl).1)), (24, .slice Ak xs.length ck)] fun a HF => ?_
  refine fo HF 2 rfl rfl ?_
  refine qp HF HM (vs := [(0, vQ ((vread rl).1))]) (cs := #[vQ ((vread rl).1)]) rfl qc5 (by decide) rfl (by kernel_rfl) rfl (by decide) ?_
  clear HF HM; intro a w26 g26 HF HM
  refine fo HF 3 rfl rfl ?_
  refine qs HF HM (i := 1) rfl qc5 rfl rfl rfl (news := [U64 (vread rl).1]) (HM.rdBlk (i := 0) (n := 1) (size := 1) rfl rfl) (by simp [Value.oneCell', U64, B8]) (by omega) (by omega) rfl (by decide) ?_
  clear HF HM; intro a w27 A27 c27 HF HM hc27
  refine fp HF 1 4 [(6, .slice A27 (xs.length + 1) c27)] fun a HF => ?_
  refine qb rfl ?_
  have hnA27 : xs.length + 1 = (xs ++ [(vread rl).1]).length := by simp
  replace HM := HM.reRow (i := 1) (ys := (xs ++ [(vread rl).1]).map U64) rfl hnA27 (by simp)
  rw [hnA27] at hc27
  replace HF := HF.as (t := 6) (u := .slice A27 ((xs ++ [(vread rl).1]).length) c27) rfl (by rw [hnA27])
  replace HF := HF.as (t := 27) (u := .slice A27 ((xs ++ [(vread rl).1]).length) c27) rfl (by rw [hnA27])
  refine qa ?_
  refine fp HF 2 0 [(29, vI ((vread rl).2.1)), (28, .slice X rl.length cX)] fun a HF => ?_
  refine fy HF HM 2 rfl rfl rfl (v := .slice (if cX = (vread rl).2.1 then X else X.map (·.add ((vread rl).2.1 * 1))) (rl.length - (vread rl).2.1) (cX - (vread rl).2.1)) (Yl.sliceFrom ei_u8 (j := (vread rl).2.1) rfl rfl rfl (by have := qbc rl; omega)) fun a HF => ?_
  replace HF := HF.sp 30 (.slice (if cX = (vread rl).2.1 then X else X.map (·.add ((vread rl).2.1 * 1))) ((qc rl).length) (cX - (vread rl).2.1)) rfl (by rw [qby])
  refine fp HF 1 3 [(0, .slice (if cX = (vread rl).2.1 then X else X.map (·.add ((vread rl).2.1 * 1))) ((qc rl).length) (cX - (vread rl).2.1))] fun a HF => ?_
  refine qb rfl ?_
  exact ⟨_, (by simp; omega), (xs ++ [(vread rl).1]), A27, c27, (qc rl), (if cX = (vread rl).2.1 then X else X.map (·.add ((vread rl).2.1 * 1))), (cX - (vread rl).2.1), by simp; omega, hc27, qtf hj hlt hb0, fun v h => qxg (hrl v h) hcX, zz hll, by omega, by omega, rfl, HF.sub (by kernel_rfl), HM.picks [1] (by decide) rfl⟩
 have hd13 := of_decide_eq_false hb13
 refine qe HF rfl (wp_exit (wp_seq (qa ?_)))
 refine fp HF 4 0 [(5, .slice X rl.length cX), (4, .slice Ak xs.length ck)] fun a HF => ?_
 refine qb rfl (wp_ret ?_)
 exact ret2 rfl HF (.tmp HF rfl) (.tmp HF rfl) (ql8 (qte hj (by omega)) (HM.own (i := 0) rfl) hck hrl hcX HM.below)
theorem qij (A : Option Addr) (n cp : Nat) (Lb L : List Nat) (hL : L = (Lb.take (Lb.length - 4)).drop 8) (w : World) (hr : Rd w w.heap.size 1 A n (Lb.map B8)) (hc : n ≤ cp) (hln : Lb.length = n) (hn : n ≤ 100000000) (h13 : 13 ≤ n) (hl : ∀ b ∈ Lb, b < 256) :
    Calls Tryz.prog 49 #[.slice A n cp] w (qoo w (loose (Lb.getD 7 0) L)) := by
 refine qg (vs := [.slice A n cp]) Tryz.func49 rfl rfl (by kernel_rfl) (σ0 := [(0, .slice A n cp)]) rfl ?_
 intro a HF
 have HM := Mem.start w
 refine wp_seq (qa ?_)
 refine fo HF 0 rfl rfl ?_
 refine qz HF HM (cs := #[vB 0, vB 0, vI 0, vI 0, .slice none 0 0]) rfl (by kernel_rfl) rfl (by decide) ?_
 clear HF HM; intro a w2 g2 HF HM
 refine qb rfl ?_
 have hL8 : L.length = n - 4 - 8 := by rw [hL, List.length_drop, List.length_take]; omega
 have hrL : Rd w w.heap.size 1 (if cp = 8 then A else A.map (·.add (8 * 1))) L.length (L.map B8) := by rw [hL8, hL]; have h := hr.qd4 (c := cp) (i := 8) (j := n - 4) (by omega) (by omega) (by omega); rw [hln]; exact h
 have hlL : ∀ b ∈ L, b < 256 := by rw [hL]; exact qak (zu hl _) _
 obtain ⟨gA, oA, rfl, _⟩ := hr.zl (Nat.lt_of_le_of_lt (Nat.zero_le _) (show 0 < n from by omega)) (by decide)
 refine wp_seq (qa ?_)
 refine fp HF 1 0 [(10, .slice (some ⟨gA, oA, none⟩) n cp)] fun a HF => ?_
 refine fy HF HM 1 rfl rfl rfl (v := vP gA (oA + 7)) (Yl.indexAddr (ad := ⟨gA, oA, none⟩) (y := 7) (sz := 1) rfl rfl rfl (by omega) (by kernel_rfl)) fun a HF => ?_
 refine fy HF HM 2 rfl rfl rfl (v := vB (Lb.getD 7 0)) (Yl.qh rfl rfl (by kernel_rfl) (fun _ h => (h.old hr).zt (k := 7) (za (F := B8) (k := 7) (x := (Lb.getD 7 0)) ((getD_at 0 (k := 7) (by first | omega | (simp; omega))))))) fun a HF => ?_
 refine fy HF HM 3 rfl rfl rfl (v := .agg #[vB (Lb.getD 7 0), vB 0, vI 0, vI 0, .slice none 0 0]) (Yl.build (vs := [(0, vB (Lb.getD 7 0))]) rfl (by kernel_rfl) (by kernel_rfl)) fun a HF => ?_
 refine fo HF 4 rfl rfl ?_
 refine qz HF HM (cs := #[vB 0, vB 0, vI 0, vI 0, .slice none 0 0]) rfl (by kernel_rfl) rfl (by decide) ?_
 clear HF HM; intro a w3 g3 HF HM
 refine fo HF 5 rfl rfl ?_
 refine e_sa HF HM 0 rfl rfl rfl rfl rfl qw rfl rfl (by simp [Value.oneCell']) ?_
 clear HM; intro w1_5 HM
 refine qb rfl (wp_seq (qa ?_))
 refine fp HF 2 0 [(15, .slice (some ⟨gA, oA, none⟩) n cp), (14, .slice (some ⟨gA, oA, none⟩) n cp)] fun a HF => ?_
 refine fy HF HM 2 rfl rfl rfl (Yl.len rfl rfl (by kernel_rfl)) fun a HF => ?_
 refine fp HF 1 3 [(17, vI (IntKind.i64.wrap ((n : Int) - 4)))] fun a HF => ?_
 replace HF := HF.sp 17 (vI (n - 4 : Nat)) rfl (qk (by omega) (by omega))
 refine fy HF HM 4 rfl rfl rfl (v := .slice (if cp = 8 then some ⟨gA, oA, none⟩ else (some ⟨gA, oA, none⟩ : Option Addr).map (·.add (8 * 1))) ((n - 4) - 8) (cp - 8)) (Yl.qhi ei_u8 (i := 8) (j := (n - 4)) rfl rfl rfl rfl (by omega) (by omega)) fun a HF => ?_
 replace HF := HF.sp 18 (.slice (if cp = 8 then some ⟨gA, oA, none⟩ else (some ⟨gA, oA, none⟩ : Option Addr).map (·.add (8 * 1))) L.length (cp - 8)) rfl (by rw [hL8])
 refine fp HF 1 5 [(4, .slice (if cp = 8 then some ⟨gA, oA, none⟩ else (some ⟨gA, oA, none⟩ : Option Addr).map (·.add (8 * 1))) L.length (cp - 8))] fun a HF => ?_
 refine qb rfl (wp_seq (wp_seq (qa ?_)))
 refine fp HF 1 0 [(19, vP g3 0)] fun a HF => ?_
 refine fy HF HM 1 rfl rfl rfl (Yl.qh rfl rfl (by kernel_rfl) (fun _ h => h.cell (i := 0) rfl rfl)) fun a HF => ?_
 refine fp HF 1 2 [(21, .bool (((Lb.getD 7 0) : Int) == (2 : Int)))] fun a HF => ?_
 refine qb rfl ?_
 rcases HF.tf 21 rfl with ⟨hb21, HF⟩ | ⟨hb21, HF⟩
 ·
  have hd21 := eq_of_beq hb21
  have hk2 : (Lb.getD 7 0) = 2 := by omega
  refine qf HF rfl (wp_seq (qa ?_))
  refine fp HF 1 0 [(23, .slice (if cp = 8 then some ⟨gA, oA, none⟩ else (some ⟨gA, oA, none⟩ : Option Addr).map (·.add (8 * 1))) L.length (cp - 8))] fun a HF => ?_
  refine fo HF 1 rfl rfl ?_
  refine e_cl HF [.slice (if cp = 8 then some ⟨gA, oA, none⟩ else (some ⟨gA, oA, none⟩ : Option Addr).map (·.add (8 * 1))) L.length (cp - 8), vI 1] rfl rfl (qgy (if cp = 8 then some ⟨gA, oA, none⟩ else (some ⟨gA, oA, none⟩ : Option Addr).map (·.add (8 * 1))) (cp - 8) 1 L _ (HM.old hrL) (by omega) (by have := qdg 3 L; omega) (by omega) hlL) ?_
  rintro _ w24 ⟨⟨A24, c24, X24, cX24, rfl, ho, hc24, hrX24, hcX24⟩, hbw⟩
  refine ⟨_, rfl, ?_⟩
  replace HM := HM.callRow hbw ho
  clear HF; intro a HF
  refine fp HF 5 2 [(5, .slice A24 ((numsR 1 L).1.length) c24)] fun a HF => ?_
  refine qb rfl (wp_seq (wp_seq (qa ?_)))
  refine fp HF 1 0 [(27, .slice A24 ((numsR 1 L).1.length) c24)] fun a HF => ?_
  refine fy HF HM 1 rfl rfl rfl (Yl.len rfl rfl (by kernel_rfl)) fun a HF => ?_
  refine fp HF 1 2 [(29, .bool ((((numsR 1 L).1.length : Nat) : Int) == (1 : Int)))] fun a HF => ?_
  refine qb rfl ?_
  rcases HF.tf 29 rfl with ⟨hb29, HF⟩ | ⟨hb29, HF⟩
  ·
   have hd29 := eq_of_beq hb29
   refine qf HF rfl (qa ?_)
   refine fp HF 1 0 [(30, .slice A24 ((numsR 1 L).1.length) c24)] fun a HF => ?_
   obtain ⟨gA24, rfl⟩ := qa7 (HM.own (i := 0) rfl) (Nat.lt_of_le_of_lt (Nat.zero_le _) (show 0 < (numsR 1 L).1.length from by omega))
   refine fy HF HM 1 rfl rfl rfl (v := vP gA24 0) (Yl.indexAddr (ad := ⟨gA24, 0, none⟩) (y := 0) (sz := 1) rfl rfl rfl (by omega) (by kernel_rfl)) fun a HF => ?_
   refine fy HF HM 2 rfl rfl rfl (v := vQ ((numsR 1 L).1.getD 0 0)) (Yl.qh rfl rfl (by kernel_rfl) (fun _ h => h.qa1 (i := 0) rfl (k := 0) (za (F := U64) (k := 0) (x := ((numsR 1 L).1.getD 0 0)) ((getD_at 0 (k := 0) (by first | omega | (simp; omega))))))) fun a HF => ?_
   refine fp HF 1 3 [(33, vI (IntKind.i64.wrap (((numsR 1 L).1.getD 0 0) : Int)))] fun a HF => ?_
   replace HF := HF.sp 33 (vI (wrap64 ((numsR 1 L).1.getD 0 0 : Int))) rfl (by rw [IntWalk.i64_left])
   refine fp HF 1 4 [(34, vP g3 3)] fun a HF => ?_
   refine fo HF 5 rfl rfl ?_
   refine zy HF HM (i := 1) (cs := #[vB (Lb.getD 7 0), vB 0, vI 0, vI 0, .slice none 0 0]) rfl rfl rfl rfl (by kernel_rfl) rfl rfl (by simp) ?_
   clear HM; intro w6_5 HM
   refine qb rfl (wp_seq (qa ?_))
   refine fy HF HM 0 rfl rfl rfl (v := .agg #[vB (Lb.getD 7 0), vB 0, vI 0, vI (wrap64 ((numsR 1 L).1.getD 0 0 : Int)), .slice none 0 0]) (Yl.qx rfl rfl qw rfl (fun _ h => qd (h.blk (i := 1) rfl))) fun a HF => ?_
   refine fo HF 1 rfl rfl ?_
   refine e_sa HF HM 2 rfl rfl rfl rfl rfl qw rfl rfl (by simp [Value.oneCell']) ?_
   clear HM; intro w7_1 HM
   refine qb rfl (wp_ret ?_)
   exact ret1 rfl HF (.cellS (i := 2) HF HM rfl rfl qw rfl) (qex (qma (k := (Lb.getD 7 0)) (l := L) hk2 (by rw [if_pos (by omega)])) HM.below)
  have hd29 := ne_of_beq_false hb29
  refine qe HF rfl (wp_skip (wp_seq (qa ?_)))
  refine fy HF HM 0 rfl rfl rfl (v := .agg #[vB (Lb.getD 7 0), vB 0, vI 0, vI 0, .slice none 0 0]) (Yl.qx rfl rfl qw rfl (fun _ h => qd (h.blk (i := 1) rfl))) fun a HF => ?_
  refine fo HF 1 rfl rfl ?_
  refine e_sa HF HM 2 rfl rfl rfl rfl rfl qw rfl rfl (by simp [Value.oneCell']) ?_
  clear HM; intro w7_1 HM
  refine qb rfl (wp_ret ?_)
  exact ret1 rfl HF (.cellS (i := 2) HF HM rfl rfl qw rfl) (qex (qma (k := (Lb.getD 7 0)) (l := L) hk2 (by rw [if_neg (by omega)])) HM.below)
 have hd21 := ne_of_beq_false hb21
 have hk2 : (Lb.getD 7 0) ≠ 2 := by omega
 refine qe HF rfl (wp_skip (wp_seq (qa ?_)))
 refine fp HF 1 0 [(37, .slice (if cp = 8 then some ⟨gA, oA, none⟩ else (some ⟨gA, oA, none⟩ : Option Addr).map (·.add (8 * 1))) L.length (cp - 8))] fun a HF => ?_
 refine fo HF 1 rfl rfl ?_
 refine e_cl HF [.slice (if cp = 8 then some ⟨gA, oA, none⟩ else (some ⟨gA, oA, none⟩ : Option Addr).map (·.add (8 * 1))) L.length (cp - 8), vI 3] rfl rfl (qgy (if cp = 8 then some ⟨gA, oA, none⟩ else (some ⟨gA, oA, none⟩ : Option Addr).map (·.add (8 * 1))) (cp - 8) 3 L _ (HM.old hrL) (by omega) (by have := qdg 3 L; omega) (by omega) hlL) ?_
 rintro _ w38 ⟨⟨A38, c38, X38, cX38, rfl, ho, hc38, hrX38, hcX38⟩, hbw⟩
 refine ⟨_, rfl, ?_⟩
 replace HM := HM.callRow hbw ho
 clear HF; intro a HF
 refine fp HF 5 2 [(8, .slice X38 ((numsR 3 L).2.length) cX38), (7, .slice A38 ((numsR 3 L).1.length) c38)] fun a HF => ?_
 refine qb rfl (wp_seq (wp_seq (qa ?_)))
 refine fp HF 1 0 [(41, .slice A38 ((numsR 3 L).1.length) c38)] fun a HF => ?_
 refine fy HF HM 1 rfl rfl rfl (Yl.len rfl rfl (by kernel_rfl)) fun a HF => ?_
 refine fp HF 1 2 [(43, .bool (decide ((((numsR 3 L).1.length : Nat) : Int) < (3 : Int))))] fun a HF => ?_
 refine qb rfl ?_
 rcases HF.tf 43 rfl with ⟨hb43, HF⟩ | ⟨hb43, HF⟩
 ·
  have hd43 := of_decide_eq_true hb43
  refine qf HF rfl (wp_seq (qa ?_))
  refine fy HF HM 0 rfl rfl rfl (v := .agg #[vB (Lb.getD 7 0), vB 0, vI 0, vI 0, .slice none 0 0]) (Yl.qx rfl rfl qw rfl (fun _ h => qd (h.blk (i := 1) rfl))) fun a HF => ?_
  refine fo HF 1 rfl rfl ?_
  refine e_sa HF HM 2 rfl rfl rfl rfl rfl qw rfl rfl (by simp [Value.oneCell']) ?_
  clear HM; intro w10_1 HM
  refine qb rfl (wp_ret ?_)
  exact ret1 rfl HF (.cellS (i := 2) HF HM rfl rfl qw rfl) (qex (qtg hk2 (by omega)) HM.below)
 have hd43 := of_decide_eq_false hb43
 obtain ⟨gA38, rfl⟩ := qa7 (HM.own (i := 0) rfl) (Nat.lt_of_le_of_lt (Nat.zero_le _) (show 0 < (numsR 3 L).1.length from by omega))
 refine qe HF rfl (wp_skip (wp_seq ?_))
 refine zw HM [.row (vS gA38 ((numsR 3 L).1.length) c38) ((numsR 3 L).1.length) ((numsR 3 L).1.map U64) 22 1, .blk g2 #[vB 0, vB 0, vI 0, vI 0, .slice none 0 0] 37] [0, 2] [11] fun HM HS => ?_
 refine ap HF (fun _ => HS) [0, 4] #[true, false, false, false, true, false, false, false, false, false, false, false] [(49, vS gA38 ((numsR 3 L).1.length) c38), (45, vS gA38 ((numsR 3 L).1.length) c38)] fun a HF => ?_
 refine ay HF HS 1 rfl rfl rfl (v := vP gA38 0) (Yl.indexAddr (ad := ⟨gA38, 0, none⟩) (y := 0) (sz := 1) rfl rfl rfl (by omega) (by kernel_rfl)) fun a HF => ?_
 refine ay HF HS 2 rfl rfl rfl (v := vQ ((numsR 3 L).1.getD 0 0)) (Yl.qh rfl rfl (by kernel_rfl) (fun _ h => h.qa1 (i := 0) rfl (k := 0) (za (F := U64) (k := 0) (x := ((numsR 3 L).1.getD 0 0)) ((getD_at 0 (k := 0) (by first | omega | (simp; omega))))))) fun a HF => ?_
 refine qo HF (fun _ => HS) (i := 3) rfl rfl (d := 48) rfl (by decide) (by kernel_rfl) (fun _ _ _ h => h) (v := vB (IntKind.u8.wrap (((numsR 3 L).1.getD 0 0) : Int))) (fun _ => Yl.pure (by kernel_rfl)) fun a HF => ?_
 replace HF := HF.sp 48 (vB (((numsR 3 L).1.getD 0 0) % 256 : Nat)) rfl (qa9 ((numsR 3 L).1.getD 0 0))
 refine ap HF (fun _ => HS) [8] #[true, true, true, true, true, false, false, false, true, false, false, false] [(53, vP g3 1)] fun a HF => ?_
 refine ay HF HS 5 rfl rfl rfl (v := vP gA38 1) (Yl.indexAddr (ad := ⟨gA38, 0, none⟩) (y := 1) (sz := 1) rfl rfl rfl (by omega) (by kernel_rfl)) fun a HF => ?_
 refine ay HF HS 6 rfl rfl rfl (v := vQ ((numsR 3 L).1.getD 1 0)) (Yl.qh rfl rfl (by kernel_rfl) (fun _ h => h.qa1 (i := 0) rfl (k := 1) (za (F := U64) (k := 1) (x := ((numsR 3 L).1.getD 1 0)) ((getD_at 0 (k := 1) (by first | omega | (simp; omega))))))) fun a HF => ?_
 refine qo HF (fun _ => HS) (i := 7) rfl rfl (d := 52) rfl (by decide) (by kernel_rfl) (fun _ _ _ h => h) (v := vI (IntKind.i64.wrap (((numsR 3 L).1.getD 1 0) : Int))) (fun _ => Yl.pure (by kernel_rfl)) fun a HF => ?_
 replace HF := HF.sp 52 (vI (wrap64 ((numsR 3 L).1.getD 1 0 : Int))) rfl (by rw [IntWalk.i64_left])
 refine qi [9] (by kernel_rfl) rfl ?_
 refine all_cons ?_ all_nil
 refine qj HF (i := 9) rfl rfl ?_
 refine zy HF HM (i := 1) (cs := #[vB (Lb.getD 7 0), vB 0, vI 0, vI 0, .slice none 0 0]) rfl rfl rfl rfl (by kernel_rfl) rfl rfl (by simp) ?_
 clear HM; intro w11_9 HM
 refine keepS (HM.picks [0, 2] (by decide) rfl) (fun HS => ?_)
 refine ap HF (fun _ => HS) [10] #[true, true, true, true, true, true, true, true, true, true, true, false] [(54, vP g3 2)] fun a HF => ?_
 refine qi [11] (by kernel_rfl) rfl ?_
 refine all_cons ?_ all_nil
 refine qj HF (i := 11) rfl rfl ?_
 refine zy HF HM (i := 1) (cs := #[vB (Lb.getD 7 0), vB (((numsR 3 L).1.getD 0 0) % 256 : Nat), vI 0, vI 0, .slice none 0 0]) rfl rfl rfl rfl (by kernel_rfl) rfl rfl (by simp) ?_
 clear HM; intro w11_11 HM
 refine noS (by kernel_rfl) ?_
 refine qm (by kernel_rfl) ?_
 refine wp_seq (qa ?_)
 refine fp HF 1 0 [(56, .slice X38 ((numsR 3 L).2.length) cX38)] fun a HF => ?_
 refine fo HF 1 rfl rfl ?_
 refine e_cl HF [.slice X38 ((numsR 3 L).2.length) cX38, vI 2] rfl rfl (qgy X38 cX38 2 (numsR 3 L).2 _ (HM.old (hrX38 w hrL)) (hcX38) (by have := qdg 3 L; omega) (by omega) (qes 3 L hlL)) ?_
 rintro _ w57 ⟨⟨A57, c57, X57, cX57, rfl, ho, hc57, hrX57, hcX57⟩, hbw⟩
 refine ⟨_, rfl, ?_⟩
 replace HM := HM.callRow hbw ho
 clear HF; intro a HF
 refine fp HF 5 2 [(8, .slice X57 ((numsR 2 (numsR 3 L).2).2.length) cX57), (9, .slice A57 ((numsR 2 (numsR 3 L).2).1.length) c57)] fun a HF => ?_
 refine qb rfl (wp_seq (wp_seq (qa ?_)))
 refine fp HF 1 0 [(60, vS gA38 ((numsR 3 L).1.length) c38)] fun a HF => ?_
 refine fy HF HM 1 rfl rfl rfl (v := vP gA38 2) (Yl.indexAddr (ad := ⟨gA38, 0, none⟩) (y := 2) (sz := 1) rfl rfl rfl (by omega) (by kernel_rfl)) fun a HF => ?_
 refine fy HF HM 2 rfl rfl rfl (v := vQ ((numsR 3 L).1.getD 2 0)) (Yl.qh rfl rfl (by kernel_rfl) (fun _ h => h.qa1 (i := 1) rfl (k := 2) (za (F := U64) (k := 2) (x := ((numsR 3 L).1.getD 2 0)) ((getD_at 0 (k := 2) (by first | omega | (simp; omega))))))) fun a HF => ?_
 refine fp HF 2 3 [(64, .bool (decide ((((numsR 3 L).1.getD 2 0) : Int) > (0 : Int))))] fun a HF => ?_
 rcases HF.tf 64 rfl with ⟨hb64, HF⟩ | ⟨hb64, HF⟩
 ·
  have hd64 := of_decide_eq_true hb64
  refine fp HF 1 5 [(65, vS gA38 ((numsR 3 L).1.length) c38)] fun a HF => ?_
  refine fy HF HM 6 rfl rfl rfl (v := vP gA38 2) (Yl.indexAddr (ad := ⟨gA38, 0, none⟩) (y := 2) (sz := 1) rfl rfl rfl (by omega) (by kernel_rfl)) fun a HF => ?_
  refine fy HF HM 7 rfl rfl rfl (v := vQ ((numsR 3 L).1.getD 2 0)) (Yl.qh rfl rfl (by kernel_rfl) (fun _ h => h.qa1 (i := 1) rfl (k := 2) (za (F := U64) (k := 2) (x := ((numsR 3 L).1.getD 2 0)) ((getD_at 0 (k := 2) (by first | omega | (simp; omega))))))) fun a HF => ?_
  refine fp HF 3 8 [(70, .bool (decide ((((numsR 3 L).1.getD 2 0) : Int) ≤ (4096 : Int))))] fun a HF => ?_
  rcases HF.tf 70 rfl with ⟨hb70, HF⟩ | ⟨hb70, HF⟩
  ·
   have hd70 := of_decide_eq_true hb70
   refine fp HF 1 11 [(71, .slice A57 ((numsR 2 (numsR 3 L).2).1.length) c57)] fun a HF => ?_
   refine fy HF HM 12 rfl rfl rfl (Yl.len rfl rfl (by kernel_rfl)) fun a HF => ?_
   refine fp HF 2 13 [(74, .bool ((((numsR 2 (numsR 3 L).2).1.length : Nat) : Int) == (2 : Int)))] fun a HF => ?_
   refine qb rfl ?_
   replace HF := HF.to [(74, .bool ((((numsR 2 (numsR 3 L).2).1.length : Nat) : Int) == (2 : Int))), (8, .slice X57 ((numsR 2 (numsR 3 L).2).2.length) cX57), (9, .slice A57 ((numsR 2 (numsR 3 L).2).1.length) c57), (43, .bool false), (7, vS gA38 ((numsR 3 L).1.length) c38), (21, .bool false), (4, .slice (if cp = 8 then some ⟨gA, oA, none⟩ else (some ⟨gA, oA, none⟩ : Option Addr).map (·.add (8 * 1))) L.length (cp - 8)), (3, vP g3 0), (2, vP g2 0), (0, .slice (some ⟨gA, oA, none⟩) n cp)]
   rcases HF.tf 74 rfl with ⟨hb74, HF⟩ | ⟨hb74, HF⟩
   ·
    have hd74 := eq_of_beq hb74
    obtain ⟨gA57, rfl⟩ := qa7 (HM.own (i := 0) rfl) (Nat.lt_of_le_of_lt (Nat.zero_le _) (show 0 < (numsR 2 (numsR 3 L).2).1.length from by omega))
    refine qf HF rfl ?_
    refine zw HM [.row (vS gA57 ((numsR 2 (numsR 3 L).2).1.length) c57) ((numsR 2 (numsR 3 L).2).1.length) ((numsR 2 (numsR 3 L).2).1.map U64) 22 1, .row (vS gA38 ((numsR 3 L).1.length) c38) ((numsR 3 L).1.length) ((numsR 3 L).1.map U64) 22 1, .blk g3 #[vB (Lb.getD 7 0), vB (((numsR 3 L).1.getD 0 0) % 256 : Nat), vI (wrap64 ((numsR 3 L).1.getD 1 0 : Int)), vI 0, .slice none 0 0] 37, .blk g2 #[vB 0, vB 0, vI 0, vI 0, .slice none 0 0] 37] [0, 1, 2, 3] [22] fun HM HS => ?_
    refine ap HF (fun _ => HS) [0, 4, 9, 11, 15] #[true, false, false, false, true, false, false, false, false, true, false, true, false, false, false, true, false, false, false, false, false, false, false] [(91, .slice X57 ((numsR 2 (numsR 3 L).2).2.length) cX57), (87, vS gA38 ((numsR 3 L).1.length) c38), (85, vP g3 1), (80, vS gA57 ((numsR 2 (numsR 3 L).2).1.length) c57), (76, vS gA57 ((numsR 2 (numsR 3 L).2).1.length) c57)] fun a HF => ?_
    refine ay HF HS 1 rfl rfl rfl (v := vP gA57 0) (Yl.indexAddr (ad := ⟨gA57, 0, none⟩) (y := 0) (sz := 1) rfl rfl rfl (by omega) (by kernel_rfl)) fun a HF => ?_
    refine ay HF HS 2 rfl rfl rfl (v := vQ ((numsR 2 (numsR 3 L).2).1.getD 0 0)) (Yl.qh rfl rfl (by kernel_rfl) (fun _ h => h.qa1 (i := 0) rfl (k := 0) (za (F := U64) (k := 0) (x := ((numsR 2 (numsR 3 L).2).1.getD 0 0)) ((getD_at 0 (k := 0) (by first | omega | (simp; omega))))))) fun a HF => ?_
    refine qo HF (fun _ => HS) (i := 3) rfl rfl (d := 79) rfl (by decide) (by kernel_rfl) (fun _ _ _ h => h) (v := vI (IntKind.i64.wrap (((numsR 2 (numsR 3 L).2).1.getD 0 0) : Int))) (fun _ => Yl.pure (by kernel_rfl)) fun a HF => ?_
    replace HF := HF.sp 79 (vI (wrap64 ((numsR 2 (numsR 3 L).2).1.getD 0 0 : Int))) rfl (by rw [IntWalk.i64_left])
    refine ay HF HS 5 rfl rfl rfl (v := vP gA57 1) (Yl.indexAddr (ad := ⟨gA57, 0, none⟩) (y := 1) (sz := 1) rfl rfl rfl (by omega) (by kernel_rfl)) fun a HF => ?_
    refine ay HF HS 6 rfl rfl rfl (v := vQ ((numsR 2 (numsR 3 L).2).1.getD 1 0)) (Yl.qh rfl rfl (by kernel_rfl) (fun _ h => h.qa1 (i := 0) rfl (k := 1) (za (F := U64) (k := 1) (x := ((numsR 2 (numsR 3 L).2).1.getD 1 0)) ((getD_at 0 (k := 1) (by first | omega | (simp; omega))))))) fun a HF => ?_
    refine qo HF (fun _ => HS) (i := 7) rfl rfl (d := 83) rfl (by decide) (by kernel_rfl) (fun _ _ _ h => h) (v := vI (IntKind.i64.wrap (((numsR 2 (numsR 3 L).2).1.getD 1 0) : Int))) (fun _ => Yl.pure (by kernel_rfl)) fun a HF => ?_
    replace HF := HF.sp 83 (vI (wrap64 ((numsR 2 (numsR 3 L).2).1.getD 1 0 : Int))) rfl (by rw [IntWalk.i64_left])
    refine ay HF HS 8 rfl rfl rfl (v := .agg ((⟨wrap64 ((numsR 2 (numsR 3 L).2).1.getD 0 0 : Int), wrap64 ((numsR 2 (numsR 3 L).2).1.getD 1 0 : Int)⟩ : Bs).cells)) ((Yl.build (vs := [(0, vI (wrap64 ((numsR 2 (numsR 3 L).2).1.getD 0 0 : Int))), (1, vI (wrap64 ((numsR 2 (numsR 3 L).2).1.getD 1 0 : Int)))]) rfl (by kernel_rfl) (by kernel_rfl))) fun a HF => ?_
    refine ay HF HS 10 rfl rfl rfl (Yl.qh rfl rfl (by kernel_rfl) (fun _ h => h.cell (i := 2) rfl rfl)) fun a HF => ?_
    refine ay HF HS 12 rfl rfl rfl (v := vP gA38 2) (Yl.indexAddr (ad := ⟨gA38, 0, none⟩) (y := 2) (sz := 1) rfl rfl rfl (by omega) (by kernel_rfl)) fun a HF => ?_
    refine ay HF HS 13 rfl rfl rfl (v := vQ ((numsR 3 L).1.getD 2 0)) (Yl.qh rfl rfl (by kernel_rfl) (fun _ h => h.qa1 (i := 1) rfl (k := 2) (za (F := U64) (k := 2) (x := ((numsR 3 L).1.getD 2 0)) ((getD_at 0 (k := 2) (by first | omega | (simp; omega))))))) fun a HF => ?_
    refine qo HF (fun _ => HS) (i := 14) rfl rfl (d := 90) rfl (by decide) (by kernel_rfl) (fun _ _ _ h => h) (v := vI (IntKind.i64.wrap (((numsR 3 L).1.getD 2 0) : Int))) (fun _ => Yl.pure (by kernel_rfl)) fun a HF => ?_
    replace HF := HF.sp 90 (vI ((numsR 3 L).1.getD 2 0)) rfl (qk rfl (by omega))
    refine qi [16] (by kernel_rfl) rfl ?_
    refine all_cons ?_ all_nil
    refine qj HF (i := 16) rfl rfl ?_
    refine e_cl HF [.agg ((⟨wrap64 ((numsR 2 (numsR 3 L).2).1.getD 0 0 : Int), wrap64 ((numsR 2 (numsR 3 L).2).1.getD 1 0 : Int)⟩ : Bs).cells), vB (((numsR 3 L).1.getD 0 0) % 256 : Nat), vI ((numsR 3 L).1.getD 2 0), .slice X57 ((numsR 2 (numsR 3 L).2).2.length) cX57] rfl rfl (qqh ⟨wrap64 ((numsR 2 (numsR 3 L).2).1.getD 0 0 : Int), wrap64 ((numsR 2 (numsR 3 L).2).1.getD 1 0 : Int)⟩ ((numsR 3 L).1.getD 0 0 % 256) (by omega) ((numsR 3 L).1.getD 2 0 : Int) (by unfold I64; omega) X57 _ cX57 (numsR 2 (numsR 3 L).2).2 _ (HM.old (hrX57 w (hrX38 w hrL))) hcX57 (qes 2 _ (qes 3 L hlL)) (by have := qdg 2 (numsR 3 L).2; have := qdg 3 L; omega) rfl) ?_
    rintro _ w92 ⟨⟨A92, c92, rfl, ho, hc92⟩, hbw⟩
    refine ⟨_, rfl, ?_⟩
    replace HM := HM.callRow hbw ho
    clear HF; intro a HF
    refine keepS (HM.picks [1, 2, 3, 4] (by decide) rfl) (fun HS => ?_)
    refine ap HF (fun _ => HS) [17, 18, 19, 20, 21] #[true, true, true, true, true, true, true, true, true, true, true, true, true, true, true, true, true, true, true, true, true, true, false] [(96, vP g3 4), (93, .slice A92 ((readR ⟨wrap64 ((numsR 2 (numsR 3 L).2).1.getD 0 0 : Int), wrap64 ((numsR 2 (numsR 3 L).2).1.getD 1 0 : Int)⟩ ((numsR 3 L).1.getD 0 0 % 256) ((numsR 3 L).1.getD 2 0 : Int) (numsR 2 (numsR 3 L).2).2).1.length) c92)] fun a HF => ?_
    refine qi [22] (by kernel_rfl) rfl ?_
    refine all_cons ?_ all_nil
    refine qj HF (i := 22) rfl rfl ?_
    refine zy HF HM (i := 3) (cs := #[vB (Lb.getD 7 0), vB (((numsR 3 L).1.getD 0 0) % 256 : Nat), vI (wrap64 ((numsR 3 L).1.getD 1 0 : Int)), vI 0, .slice none 0 0]) rfl rfl rfl rfl (by kernel_rfl) rfl rfl (by simp) ?_
    clear HM; intro w14_22 HM
    refine noS (by kernel_rfl) ?_
    refine qm (by kernel_rfl) ?_
    refine wp_seq (qa ?_)
    refine fy HF HM 0 rfl rfl rfl (v := .agg #[vB (Lb.getD 7 0), vB (((numsR 3 L).1.getD 0 0) % 256 : Nat), vI (wrap64 ((numsR 3 L).1.getD 1 0 : Int)), vI 0, .slice A92 ((readR ⟨wrap64 ((numsR 2 (numsR 3 L).2).1.getD 0 0 : Int), wrap64 ((numsR 2 (numsR 3 L).2).1.getD 1 0 : Int)⟩ ((numsR 3 L).1.getD 0 0 % 256) ((numsR 3 L).1.getD 2 0 : Int) (numsR 2 (numsR 3 L).2).2).1.length) c92]) (Yl.qx rfl rfl qw rfl (fun _ h => qd (h.blk (i := 3) rfl))) fun a HF => ?_
    refine fo HF 1 rfl rfl ?_
    refine e_sa HF HM 4 rfl rfl rfl rfl rfl qw rfl rfl (by simp [Value.oneCell']) ?_
    clear HM; intro w15_1 HM
    refine qb rfl (wp_ret ?_)
    exact ret1 rfl HF (.cellS (i := 4) HF HM rfl rfl qw rfl) (qvv (qf6 hk2 (by omega) (qko ⟨by omega, by omega, by omega⟩)) (HM.own (i := 0) rfl) hc92 HM.below)
   have hd74 := ne_of_beq_false hb74
   refine qe HF rfl (wp_skip (wp_seq (qa ?_)))
   refine fy HF HM 0 rfl rfl rfl (v := .agg #[vB (Lb.getD 7 0), vB (((numsR 3 L).1.getD 0 0) % 256 : Nat), vI (wrap64 ((numsR 3 L).1.getD 1 0 : Int)), vI 0, .slice none 0 0]) (Yl.qx rfl rfl qw rfl (fun _ h => qd (h.blk (i := 2) rfl))) fun a HF => ?_
   refine fo HF 1 rfl rfl ?_
   refine e_sa HF HM 3 rfl rfl rfl rfl rfl qw rfl rfl (by simp [Value.oneCell']) ?_
   clear HM; intro w15_1 HM
   refine qb rfl (wp_ret ?_)
   exact ret1 rfl HF (.cellS (i := 3) HF HM rfl rfl qw rfl) (qex (qf6 hk2 (by omega) (qdz (by omega))) HM.below)
  have hd70 := of_decide_eq_false hb70
  refine fp HF 4 11 [(74, .bool false)] fun a HF => ?_
  refine qb rfl ?_
  replace HF := HF.to [(74, .bool false), (8, .slice X57 ((numsR 2 (numsR 3 L).2).2.length) cX57), (9, .slice A57 ((numsR 2 (numsR 3 L).2).1.length) c57), (43, .bool false), (7, vS gA38 ((numsR 3 L).1.length) c38), (21, .bool false), (4, .slice (if cp = 8 then some ⟨gA, oA, none⟩ else (some ⟨gA, oA, none⟩ : Option Addr).map (·.add (8 * 1))) L.length (cp - 8)), (3, vP g3 0), (2, vP g2 0), (0, .slice (some ⟨gA, oA, none⟩) n cp)]
  refine qe HF rfl (wp_skip (wp_seq (qa ?_)))
  refine fy HF HM 0 rfl rfl rfl (v := .agg #[vB (Lb.getD 7 0), vB (((numsR 3 L).1.getD 0 0) % 256 : Nat), vI (wrap64 ((numsR 3 L).1.getD 1 0 : Int)), vI 0, .slice none 0 0]) (Yl.qx rfl rfl qw rfl (fun _ h => qd (h.blk (i := 2) rfl))) fun a HF => ?_
  refine fo HF 1 rfl rfl ?_
  refine e_sa HF HM 3 rfl rfl rfl rfl rfl qw rfl rfl (by simp [Value.oneCell']) ?_
  clear HM; intro w15_1 HM
  refine qb rfl (wp_ret ?_)
  exact ret1 rfl HF (.cellS (i := 3) HF HM rfl rfl qw rfl) (qex (qf6 hk2 (by omega) (qdz (by omega))) HM.below)
 have hd64 := of_decide_eq_false hb64
 refine fp HF 10 5 [(74, .bool false)] fun a HF => ?_
 refine qb rfl (qe HF rfl (wp_skip (wp_seq (qa ?_))))
 refine fy HF HM 0 rfl rfl rfl (v := .agg #[vB (Lb.getD 7 0), vB (((numsR 3 L).1.getD 0 0) % 256 : Nat), vI (wrap64 ((numsR 3 L).1.getD 1 0 : Int)), vI 0, .slice none 0 0]) (Yl.qx rfl rfl qw rfl (fun _ h => qd (h.blk (i := 2) rfl))) fun a HF => ?_
 refine fo HF 1 rfl rfl ?_
 refine e_sa HF HM 3 rfl rfl rfl rfl rfl qw rfl rfl (by simp [Value.oneCell']) ?_
 clear HM; intro w15_1 HM
 refine qb rfl (wp_ret ?_)
 exact ret1 rfl HF (.cellS (i := 3) HF HM rfl rfl qw rfl) (qex (qf6 hk2 (by omega) (qdz (by omega))) HM.below)
theorem qd2 (k : Nat) (l : List Nat) : (loose k l).evs.length ≤ 1000000 := by
 unfold loose
 split
 ·unfold looseEnd; simp
 ·unfold qdy
  split
  ·simp
  ·show (qav _ _ _).length ≤ _
   unfold qav
   split
   ·rename_i h
    exact Nat.le_trans (qth _ _ _ _) (by omega)
   ·simp
theorem qnt (A : Option Addr) (n cp : Nat) (l : List Nat) (w : World) (hr : Rd w w.heap.size 1 A n (l.map B8)) (hc : n ≤ cp) (hln : l.length = n) (hn : n ≤ 100000000) (hl : ∀ b ∈ l, b < 256) :
    Calls Tryz.prog 29 #[.slice A n cp] w (qnk w (refB l)) := by
 refine qg (vs := [.slice A n cp]) Tryz.func29 rfl rfl (by kernel_rfl) (σ0 := [(0, .slice A n cp)]) rfl ?_
 intro a HF
 have HM := Mem.start w
 refine wp_seq (qa ?_)
 refine fo HF 0 rfl rfl ?_
 refine qz HF HM (cs := #[vB 0, vB 0, vI 0, vI 0, .slice none 0 0]) rfl (by kernel_rfl) rfl (by decide) ?_
 clear HF HM; intro a w2 g2 HF HM
 refine fp HF 2 1 [(4, vI 0), (3, vI 0)] fun a HF => ?_
 refine qb rfl (wp_seq (qa ?_))
 refine fp HF 1 0 [(9, .slice A n cp)] fun a HF => ?_
 refine fo HF 1 rfl rfl ?_
 refine e_is HF HM [.slice A n cp] (.tuple #[vI ((lenR l).1), vI ((lenR l).2)]) rfl rfl (qhe A n cp l _ (HM.old hr) hln (by omega) hl) fun w10 hbw HM a HF => ?_
 refine fp HF 5 2 [(6, vI ((lenR l).2)), (5, vI ((lenR l).1))] fun a HF => ?_
 refine qb rfl (wp_seq (wp_seq (qa ?_)))
 refine fp HF 2 0 [(14, .bool (((lenR l).2 : Int) != (0 : Int)))] fun a HF => ?_
 refine qb rfl ?_
 rcases HF.tf 14 rfl with ⟨hb14, HF⟩ | ⟨hb14, HF⟩
 ·
  have hd14 := bne_iff_ne.1 hb14
  refine qf HF rfl (wp_seq (qa ?_))
  refine fy HF HM 0 rfl rfl rfl (v := .agg #[vB 0, vB 0, vI 0, vI 0, .slice none 0 0]) (Yl.build (vs := []) rfl (by kernel_rfl) (by kernel_rfl)) fun a HF => ?_
  refine fp HF 1 1 [(16, vI ((lenR l).2))] fun a HF => ?_
  refine fo HF 2 rfl rfl ?_
  refine e_sa HF HM 0 rfl rfl rfl rfl rfl qw rfl rfl (by simp [Value.oneCell']) ?_
  clear HM; intro w3_2 HM
  refine fp HF 2 3 [(4, vI ((lenR l).2)), (3, vI 0)] fun a HF => ?_
  refine qb rfl (wp_ret ?_)
  exact ret3 rfl HF (.cellS (i := 0) HF HM rfl rfl qw rfl) (.tmp HF rfl) (.tmp HF rfl) (qcg (qvw (by omega)) HM.below)
 have hd14 := bne_eq_false_iff_eq.1 hb14
 have hl0 : (lenR l).2 = 0 := by omega
 obtain ⟨v1, v2, v3, v4⟩ := qnd hl0
 obtain ⟨Lb, hLb⟩ : ∃ x, x = l.take (lenR l).1 := ⟨_, rfl⟩
 have hrL : Rd w w.heap.size 1 A (lenR l).1 (Lb.map B8) := by rw [hLb]; exact hr.toB8 (by omega)
 have hlL : ∀ b ∈ Lb, b < 256 := by rw [hLb]; exact zu hl _
 have hnL : Lb.length = (lenR l).1 := by rw [hLb, List.length_take]; omega
 obtain ⟨gA, oA, rfl, _⟩ := hrL.zl (Nat.lt_of_le_of_lt (Nat.zero_le _) (show 0 < (lenR l).1 from by omega)) (by decide)
 refine qe HF rfl (wp_skip (wp_seq (qa ?_)))
 refine fp HF 2 0 [(18, vI ((lenR l).1)), (17, .slice (some ⟨gA, oA, none⟩) n cp)] fun a HF => ?_
 refine fy HF HM 2 rfl rfl rfl (v := .slice (some ⟨gA, oA, none⟩) ((lenR l).1) cp) (Yl.zx ei_u8 (j := (lenR l).1) rfl rfl rfl (by omega)) fun a HF => ?_
 refine fp HF 1 3 [(0, .slice (some ⟨gA, oA, none⟩) ((lenR l).1) cp)] fun a HF => ?_
 refine qb rfl (wp_seq (wp_seq (qa ?_)))
 refine fp HF 1 0 [(20, .slice (some ⟨gA, oA, none⟩) ((lenR l).1) cp)] fun a HF => ?_
 refine fo HF 1 rfl rfl ?_
 refine e_is HF HM [.slice (some ⟨gA, oA, none⟩) ((lenR l).1) cp] (.bool (qao Lb)) rfl rfl (qmg _ (lenR l).1 cp Lb _ (HM.old hrL) (by omega) hnL (by omega) hlL) fun w21 hbw HM a HF => ?_
 refine fp HF 1 2 [(22, .bool (!(qao Lb)))] fun a HF => ?_
 refine qb rfl ?_
 rcases HF.tf 22 rfl with ⟨hb22, HF⟩ | ⟨hb22, HF⟩
 ·
  have hs : qao Lb = false := by simpa using hb22
  refine qf HF rfl (wp_seq (qa ?_))
  refine fy HF HM 0 rfl rfl rfl (v := .agg #[vB 0, vB 0, vI 0, vI 0, .slice none 0 0]) (Yl.build (vs := []) rfl (by kernel_rfl) (by kernel_rfl)) fun a HF => ?_
  refine fo HF 1 rfl rfl ?_
  refine e_sa HF HM 0 rfl rfl rfl rfl rfl qw rfl rfl (by simp [Value.oneCell']) ?_
  clear HM; intro w6_1 HM
  refine fp HF 2 2 [(4, vI 102), (3, vI 0)] fun a HF => ?_
  refine qb rfl (wp_ret ?_)
  exact ret3 rfl HF (.cellS (i := 0) HF HM rfl rfl qw rfl) (.tmp HF rfl) (.tmp HF rfl) (qcg (qc0 hl0 hLb (by unfold refOf; rw [if_pos hs])) HM.below)
 have hs : qao Lb = true := by simpa using hb22
 refine qe HF rfl (wp_skip (wp_seq (wp_seq (qa ?_))))
 refine fp HF 1 0 [(24, .slice (some ⟨gA, oA, none⟩) ((lenR l).1) cp)] fun a HF => ?_
 refine fy HF HM 1 rfl rfl rfl (v := vP gA (oA + 4)) (Yl.indexAddr (ad := ⟨gA, oA, none⟩) (y := 4) (sz := 1) rfl rfl rfl (by omega) (by kernel_rfl)) fun a HF => ?_
 have hx83 := getD_lt hlL (k := 4) (by first | omega | (simp; omega))
 refine fy HF HM 2 rfl rfl rfl (v := vB (Lb.getD 4 0)) (Yl.qh rfl rfl (by kernel_rfl) (fun _ h => (h.old hrL).zt (k := 4) (za (F := B8) (k := 4) (x := (Lb.getD 4 0)) ((getD_at 0 (k := 4) (by first | omega | (simp; omega))))))) fun a HF => ?_
 refine fp HF 2 3 [(28, .bool (((Lb.getD 4 0) : Int) != (113 : Int)))] fun a HF => ?_
 rcases HF.tf 28 rfl with ⟨hb28, HF⟩ | ⟨hb28, HF⟩
 ·
  have hd28 := bne_iff_ne.1 hb28
  have hmg : ¬ (Lb.getD 4 0 = 113 ∧ Lb.getD 5 0 = 116) := by omega
  refine fp HF 5 5 [(33, .bool true)] fun a HF => ?_
  refine qb rfl (qf HF rfl (wp_seq (qa ?_)))
  refine fy HF HM 0 rfl rfl rfl (v := .agg #[vB 0, vB 0, vI 0, vI 0, .slice none 0 0]) (Yl.build (vs := []) rfl (by kernel_rfl) (by kernel_rfl)) fun a HF => ?_
  refine fo HF 1 rfl rfl ?_
  refine e_sa HF HM 0 rfl rfl rfl rfl rfl qw rfl rfl (by simp [Value.oneCell']) ?_
  clear HM; intro w8_1 HM
  refine fp HF 2 2 [(4, vI 103), (3, vI 0)] fun a HF => ?_
  refine qb rfl (wp_ret ?_)
  exact ret3 rfl HF (.cellS (i := 0) HF HM rfl rfl qw rfl) (.tmp HF rfl) (.tmp HF rfl) (qcg (qc0 hl0 hLb (by unfold refOf; rw [if_neg (by rw [hs]; decide), if_pos hmg])) HM.below)
 have hd28 := bne_eq_false_iff_eq.1 hb28
 refine fp HF 1 5 [(29, .slice (some ⟨gA, oA, none⟩) ((lenR l).1) cp)] fun a HF => ?_
 refine fy HF HM 6 rfl rfl rfl (v := vP gA (oA + 5)) (Yl.indexAddr (ad := ⟨gA, oA, none⟩) (y := 5) (sz := 1) rfl rfl rfl (by omega) (by kernel_rfl)) fun a HF => ?_
 have hx106 := getD_lt hlL (k := 5) (by first | omega | (simp; omega))
 refine fy HF HM 7 rfl rfl rfl (v := vB (Lb.getD 5 0)) (Yl.qh rfl rfl (by kernel_rfl) (fun _ h => (h.old hrL).zt (k := 5) (za (F := B8) (k := 5) (x := (Lb.getD 5 0)) ((getD_at 0 (k := 5) (by first | omega | (simp; omega))))))) fun a HF => ?_
 refine fp HF 2 8 [(33, .bool (((Lb.getD 5 0) : Int) != (116 : Int)))] fun a HF => ?_
 refine qb rfl ?_
 rcases HF.tf 33 rfl with ⟨hb33, HF⟩ | ⟨hb33, HF⟩
 ·
  have hd33 := bne_iff_ne.1 hb33
  have hmg : ¬ (Lb.getD 4 0 = 113 ∧ Lb.getD 5 0 = 116) := by omega
  refine qf HF rfl (wp_seq (qa ?_))
  refine fy HF HM 0 rfl rfl rfl (v := .agg #[vB 0, vB 0, vI 0, vI 0, .slice none 0 0]) (Yl.build (vs := []) rfl (by kernel_rfl) (by kernel_rfl)) fun a HF => ?_
  refine fo HF 1 rfl rfl ?_
  refine e_sa HF HM 0 rfl rfl rfl rfl rfl qw rfl rfl (by simp [Value.oneCell']) ?_
  clear HM; intro w8_1 HM
  refine fp HF 2 2 [(4, vI 103), (3, vI 0)] fun a HF => ?_
  refine qb rfl (wp_ret ?_)
  exact ret3 rfl HF (.cellS (i := 0) HF HM rfl rfl qw rfl) (.tmp HF rfl) (.tmp HF rfl) (qcg (qc0 hl0 hLb (by unfold refOf; rw [if_neg (by rw [hs]; decide), if_pos hmg])) HM.below)
 have hd33 := bne_eq_false_iff_eq.1 hb33
 have hmg : Lb.getD 4 0 = 113 ∧ Lb.getD 5 0 = 116 := by omega
 refine qe HF rfl (wp_skip (wp_seq (wp_seq (qa ?_))))
 refine fp HF 1 0 [(35, .slice (some ⟨gA, oA, none⟩) ((lenR l).1) cp)] fun a HF => ?_
 refine fy HF HM 1 rfl rfl rfl (v := vP gA (oA + 6)) (Yl.indexAddr (ad := ⟨gA, oA, none⟩) (y := 6) (sz := 1) rfl rfl rfl (by omega) (by kernel_rfl)) fun a HF => ?_
 have hx134 := getD_lt hlL (k := 6) (by first | omega | (simp; omega))
 refine fy HF HM 2 rfl rfl rfl (v := vB (Lb.getD 6 0)) (Yl.qh rfl rfl (by kernel_rfl) (fun _ h => (h.old hrL).zt (k := 6) (za (F := B8) (k := 6) (x := (Lb.getD 6 0)) ((getD_at 0 (k := 6) (by first | omega | (simp; omega))))))) fun a HF => ?_
 refine fp HF 1 3 [(38, .bool (((Lb.getD 6 0) : Int) != (1 : Int)))] fun a HF => ?_
 refine qb rfl ?_
 rcases HF.tf 38 rfl with ⟨hb38, HF⟩ | ⟨hb38, HF⟩
 ·
  have hd38 := bne_iff_ne.1 hb38
  refine qf HF rfl (wp_seq (qa ?_))
  refine fy HF HM 0 rfl rfl rfl (v := .agg #[vB 0, vB 0, vI 0, vI 0, .slice none 0 0]) (Yl.build (vs := []) rfl (by kernel_rfl) (by kernel_rfl)) fun a HF => ?_
  refine fo HF 1 rfl rfl ?_
  refine e_sa HF HM 0 rfl rfl rfl rfl rfl qw rfl rfl (by simp [Value.oneCell']) ?_
  clear HM; intro w10_1 HM
  refine fp HF 2 2 [(4, vI 104), (3, vI 0)] fun a HF => ?_
  refine qb rfl (wp_ret ?_)
  exact ret3 rfl HF (.cellS (i := 0) HF HM rfl rfl qw rfl) (.tmp HF rfl) (.tmp HF rfl) (qcg (qc0 hl0 hLb (by unfold refOf; rw [if_neg (by rw [hs]; decide), if_neg (fun hh => hh hmg), if_pos (by omega)])) HM.below)
 have hd38 := bne_eq_false_iff_eq.1 hb38
 refine qe HF rfl (wp_skip (wp_seq (wp_seq (qa ?_))))
 refine fp HF 1 0 [(40, .slice (some ⟨gA, oA, none⟩) ((lenR l).1) cp)] fun a HF => ?_
 refine fy HF HM 1 rfl rfl rfl (v := vP gA (oA + 7)) (Yl.indexAddr (ad := ⟨gA, oA, none⟩) (y := 7) (sz := 1) rfl rfl rfl (by omega) (by kernel_rfl)) fun a HF => ?_
 have hx160 := getD_lt hlL (k := 7) (by first | omega | (simp; omega))
 refine fy HF HM 2 rfl rfl rfl (v := vB (Lb.getD 7 0)) (Yl.qh rfl rfl (by kernel_rfl) (fun _ h => (h.old hrL).zt (k := 7) (za (F := B8) (k := 7) (x := (Lb.getD 7 0)) ((getD_at 0 (k := 7) (by first | omega | (simp; omega))))))) fun a HF => ?_
 refine fp HF 2 3 [(44, .bool (((Lb.getD 7 0) : Int) != (1 : Int)))] fun a HF => ?_
 rcases HF.tf 44 rfl with ⟨hb44, HF⟩ | ⟨hb44, HF⟩
 ·
  have hd44 := bne_iff_ne.1 hb44
  refine fp HF 1 5 [(45, .slice (some ⟨gA, oA, none⟩) ((lenR l).1) cp)] fun a HF => ?_
  refine fy HF HM 6 rfl rfl rfl (v := vP gA (oA + 7)) (Yl.indexAddr (ad := ⟨gA, oA, none⟩) (y := 7) (sz := 1) rfl rfl rfl (by omega) (by kernel_rfl)) fun a HF => ?_
  have hx168 := getD_lt hlL (k := 7) (by first | omega | (simp; omega))
  refine fy HF HM 7 rfl rfl rfl (v := vB (Lb.getD 7 0)) (Yl.qh rfl rfl (by kernel_rfl) (fun _ h => (h.old hrL).zt (k := 7) (za (F := B8) (k := 7) (x := (Lb.getD 7 0)) ((getD_at 0 (k := 7) (by first | omega | (simp; omega))))))) fun a HF => ?_
  refine fp HF 2 8 [(49, .bool (((Lb.getD 7 0) : Int) != (2 : Int)))] fun a HF => ?_
  refine qb rfl ?_
  rcases HF.tf 49 rfl with ⟨hb49, HF⟩ | ⟨hb49, HF⟩
  ·
   have hd49 := bne_iff_ne.1 hb49
   refine qf HF rfl (wp_seq (qa ?_))
   refine fy HF HM 0 rfl rfl rfl (v := .agg #[vB 0, vB 0, vI 0, vI 0, .slice none 0 0]) (Yl.build (vs := []) rfl (by kernel_rfl) (by kernel_rfl)) fun a HF => ?_
   refine fo HF 1 rfl rfl ?_
   refine e_sa HF HM 0 rfl rfl rfl rfl rfl qw rfl rfl (by simp [Value.oneCell']) ?_
   clear HM; intro w12_1 HM
   refine fp HF 2 2 [(4, vI 105), (3, vI 0)] fun a HF => ?_
   refine qb rfl (wp_ret ?_)
   exact ret3 rfl HF (.cellS (i := 0) HF HM rfl rfl qw rfl) (.tmp HF rfl) (.tmp HF rfl) (qcg (qc0 hl0 hLb (by unfold refOf; rw [if_neg (by rw [hs]; decide), if_neg (fun hh => hh hmg), if_neg (by omega), if_pos (by omega)])) HM.below)
  have hd49 := bne_eq_false_iff_eq.1 hb49
  have hkd : Lb.getD 7 0 = 1 ∨ Lb.getD 7 0 = 2 := by omega
  obtain ⟨hqok, hqk⟩ := qkf hkd (l := ((Lb.take (Lb.length - 4)).drop 8)) (qak (zu hlL _) _)
  have hqn : (loose (Lb.getD 7 0) ((Lb.take (Lb.length - 4)).drop 8)).evs.length ≤ 1000000 := qd2 _ _
  refine qe HF rfl (wp_skip (wp_seq (qa ?_)))
  refine fp HF 1 0 [(51, .slice (some ⟨gA, oA, none⟩) ((lenR l).1) cp)] fun a HF => ?_
  refine fo HF 1 rfl rfl ?_
  refine e_cl HF [.slice (some ⟨gA, oA, none⟩) ((lenR l).1) cp] rfl rfl (qij (some ⟨gA, oA, none⟩) ((lenR l).1) cp Lb ((Lb.take (Lb.length - 4)).drop 8) rfl _ (HM.old hrL) (by omega) hnL (by omega) (by omega) hlL) ?_
  rintro _ w52 ⟨⟨A52, c52, rfl, ho, hc52⟩, hbw⟩
  refine ⟨_, rfl, ?_⟩
  replace HM := HM.callRow hbw ho
  clear HF; intro a HF
  refine fo HF 2 rfl rfl ?_
  refine qz HF HM (cs := #[vB 0, vB 0, vI 0, vI 0, .slice none 0 0]) rfl (by kernel_rfl) rfl (by decide) ?_
  clear HF HM; intro a w7 g7 HF HM
  refine fo HF 3 rfl rfl ?_
  refine e_sa HF HM 0 rfl rfl rfl rfl rfl qw rfl rfl (qcd _ _ _) ?_
  clear HM; intro w13_3 HM
  refine qb rfl (wp_seq ?_)
  refine qam (fun aS wS => Fr aS 70 [] [(66, .bool (decide ((loose (Lb.getD 7 0) ((Lb.take (Lb.length - 4)).drop 8)).err ≠ 0 ∨ (loose (Lb.getD 7 0) ((Lb.take (Lb.length - 4)).drop 8)).raw ≠ Lb.take (Lb.length - 4)))), (7, vP g7 0), (49, .bool false), (38, .bool false), (33, .bool false), (22, .bool false), (0, .slice (some ⟨gA, oA, none⟩) ((lenR l).1) cp), (14, .bool false), (6, vI ((lenR l).2)), (5, vI ((lenR l).1)), (4, vI 0), (3, vI 0), (2, vP g2 0)] ∧ Mem w wS [.blk g7 ((loose (Lb.getD 7 0) ((Lb.take (Lb.length - 4)).drop 8)).cells A52 c52) 37, .row (.slice A52 ((loose (Lb.getD 7 0) ((Lb.take (Lb.length - 4)).drop 8)).evs.length) c52) ((loose (Lb.getD 7 0) ((Lb.take (Lb.length - 4)).drop 8)).evs.length) ((loose (Lb.getD 7 0) ((Lb.take (Lb.length - 4)).drop 8)).evs.flatMap evL) 58 11, .blk g2 #[vB 0, vB 0, vI 0, vI 0, .slice none 0 0] 37]) ?_ ?_
  ·
   refine zw HM [.blk g7 ((loose (Lb.getD 7 0) ((Lb.take (Lb.length - 4)).drop 8)).cells A52 c52) 37, .row (.slice A52 ((loose (Lb.getD 7 0) ((Lb.take (Lb.length - 4)).drop 8)).evs.length) c52) ((loose (Lb.getD 7 0) ((Lb.take (Lb.length - 4)).drop 8)).evs.length) ((loose (Lb.getD 7 0) ((Lb.take (Lb.length - 4)).drop 8)).evs.flatMap evL) 58 11, .blk g2 #[vB 0, vB 0, vI 0, vI 0, .slice none 0 0] 37] [0, 1, 2] [] fun HM HS => ?_
   refine ay HF HS 0 rfl rfl rfl (v := .agg ((loose (Lb.getD 7 0) ((Lb.take (Lb.length - 4)).drop 8)).cells A52 c52)) (Yl.qx rfl rfl qw rfl (fun _ h => qd (h.blk (i := 0) rfl))) fun a HF => ?_
   refine qi [1] (by kernel_rfl) rfl ?_
   refine all_cons ?_ all_nil
   refine qj HF (i := 1) rfl rfl ?_
   refine e_is HF HM [.agg ((loose (Lb.getD 7 0) ((Lb.take (Lb.length - 4)).drop 8)).cells A52 c52)] (vI ((loose (Lb.getD 7 0) ((Lb.take (Lb.length - 4)).drop 8)).err)) rfl rfl (qfi (loose (Lb.getD 7 0) ((Lb.take (Lb.length - 4)).drop 8)) hqok A52 c52 _ (HM.rd (i := 1) rfl) hqn) fun w54 hbw HM a HF => ?_
   refine keepS (HM.picks [0, 1, 2] (by decide) rfl) (fun HS => ?_)
   refine ap HF (fun _ => HS) [2, 3] #[true, true, true, true, false, false, false, false, false, false, false, false, false, false] [(56, .bool (((loose (Lb.getD 7 0) ((Lb.take (Lb.length - 4)).drop 8)).err : Int) != (0 : Int)))] fun a HF => ?_
   rcases HF.tf 56 rfl with ⟨hb56, HF⟩ | ⟨hb56, HF⟩
   ·
    have hd56 := bne_iff_ne.1 hb56
    have hqe : (loose (Lb.getD 7 0) ((Lb.take (Lb.length - 4)).drop 8)).err ≠ 0 := by omega
    refine ap HF (fun _ => HS) [4, 5, 6, 7, 8, 9, 10, 11, 12, 13] #[true, true, true, true, true, true, true, true, true, true, true, true, true, true] [(66, .bool true)] fun a HF => ?_
    refine qm (by kernel_rfl) ?_
    have HF := HF.as (t := 66) (u := .bool (decide ((loose (Lb.getD 7 0) ((Lb.take (Lb.length - 4)).drop 8)).err ≠ 0 ∨ (loose (Lb.getD 7 0) ((Lb.take (Lb.length - 4)).drop 8)).raw ≠ Lb.take (Lb.length - 4)))) rfl (congrArg Value.bool (by rw [decide_eq_true (show ((loose (Lb.getD 7 0) ((Lb.take (Lb.length - 4)).drop 8)).err ≠ 0 ∨ (loose (Lb.getD 7 0) ((Lb.take (Lb.length - 4)).drop 8)).raw ≠ Lb.take (Lb.length - 4)) from .inl hqe)]))
    exact ⟨HF.sub (by kernel_rfl), HM.picks [0, 1, 2] (by decide) rfl⟩
   have hd56 := bne_eq_false_iff_eq.1 hb56
   have hqe : (loose (Lb.getD 7 0) ((Lb.take (Lb.length - 4)).drop 8)).err = 0 := by omega
   refine ap HF (fun _ => HS) [7, 8] #[true, true, true, true, false, false, false, true, true, false, false, false, false, false] [(61, vI ((lenR l).1)), (60, .slice (some ⟨gA, oA, none⟩) ((lenR l).1) cp)] fun a HF => ?_
   refine ay HF HS 4 rfl rfl rfl (v := .agg ((loose (Lb.getD 7 0) ((Lb.take (Lb.length - 4)).drop 8)).cells A52 c52)) (Yl.qx rfl rfl qw rfl (fun _ h => qd (h.blk (i := 0) rfl))) fun a HF => ?_
   refine qo HF (fun _ => HS) (i := 9) rfl rfl (d := 62) rfl (by decide) (by kernel_rfl) (fun _ _ _ h => h) (v := vI (IntKind.i64.wrap (((lenR l).1 : Int) - 4))) (fun _ => Yl.pure (by kernel_rfl)) fun a HF => ?_
   replace HF := HF.sp 62 (vI ((lenR l).1 - 4 : Nat)) rfl (qk (by omega) (by omega))
   refine ay HF HS 10 rfl rfl rfl (v := .slice (some ⟨gA, oA, none⟩) ((lenR l).1 - 4) cp) (Yl.zx ei_u8 (j := (lenR l).1 - 4) rfl rfl rfl (by omega)) fun a HF => ?_
   refine ay HF HS 11 rfl rfl rfl (v := .string (bstr (Lb.take ((lenR l).1 - 4)))) (Yl.str rfl rfl (fun _ h => h.old (hrL.toB8 (by omega)))) fun a HF => ?_
   refine qi [5] (by kernel_rfl) rfl ?_
   refine all_cons ?_ all_nil
   refine qj HF (i := 5) rfl rfl ?_
   refine e_cl HF [.agg ((loose (Lb.getD 7 0) ((Lb.take (Lb.length - 4)).drop 8)).cells A52 c52)] rfl rfl (qb1 (loose (Lb.getD 7 0) ((Lb.take (Lb.length - 4)).drop 8)) hqok A52 c52 _ (HM.rd (i := 1) rfl) hqn (qkg hqe).1) ?_
   rintro _ w58 ⟨⟨A58, c58, rfl, ho, hc58⟩, hbw⟩
   refine ⟨_, rfl, ?_⟩
   replace HM := HM.callRow hbw ho
   clear HF; intro a HF
   refine keepS (HM.picks [1, 2, 3] (by decide) rfl) (fun HS => ?_)
   refine qi [6] (by kernel_rfl) rfl ?_
   refine all_cons ?_ all_nil
   refine qj HF (i := 6) rfl rfl ?_
   refine Yl.wp (S := fun wS => Mem w wS _) (v := .string (bstr ((loose (Lb.getD 7 0) ((Lb.take (Lb.length - 4)).drop 8)).raw))) (Yl.str rfl rfl (fun _ h => h.rd (i := 0) rfl)) HF HM rfl (by decide) fun a HF => ?_
   refine keepS HS (fun HS => ?_)
   refine ap HF (fun _ => HS) [12, 13] #[true, true, true, true, true, true, true, true, true, true, true, true, true, true] [(66, .bool (!(((bstr ((loose (Lb.getD 7 0) ((Lb.take (Lb.length - 4)).drop 8)).raw))).toList == ((bstr (Lb.take ((lenR l).1 - 4)))).toList)))] fun a HF => ?_
   refine qm (by kernel_rfl) ?_
   replace HF := HF.to [(66, .bool (!(((bstr ((loose (Lb.getD 7 0) ((Lb.take (Lb.length - 4)).drop 8)).raw))).toList == ((bstr (Lb.take ((lenR l).1 - 4)))).toList))), (7, vP g7 0), (49, .bool false), (38, .bool false), (33, .bool false), (22, .bool false), (0, .slice (some ⟨gA, oA, none⟩) ((lenR l).1) cp), (14, .bool false), (6, vI ((lenR l).2)), (5, vI ((lenR l).1)), (4, vI 0), (3, vI 0), (2, vP g2 0)]
   replace HM := HM.picks (fs' := [.blk g7 ((loose (Lb.getD 7 0) ((Lb.take (Lb.length - 4)).drop 8)).cells A52 c52) 37, .row (.slice A52 ((loose (Lb.getD 7 0) ((Lb.take (Lb.length - 4)).drop 8)).evs.length) c52) ((loose (Lb.getD 7 0) ((Lb.take (Lb.length - 4)).drop 8)).evs.length) ((loose (Lb.getD 7 0) ((Lb.take (Lb.length - 4)).drop 8)).evs.flatMap evL) 58 11, .blk g2 #[vB 0, vB 0, vI 0, vI 0, .slice none 0 0] 37]) [1, 2, 3] (by decide) rfl
   have HF := HF.as (t := 66) (u := .bool (decide ((loose (Lb.getD 7 0) ((Lb.take (Lb.length - 4)).drop 8)).err ≠ 0 ∨ (loose (Lb.getD 7 0) ((Lb.take (Lb.length - 4)).drop 8)).raw ≠ Lb.take (Lb.length - 4)))) rfl (congrArg Value.bool (by rw [qnf (qlq hqok) (zu hlL _), ← hnL, qwq hqe]))
   exact ⟨HF.sub (by kernel_rfl), HM.picks [0, 1, 2] (by decide) rfl⟩
  clear HF HM; rintro a w14 ⟨HF, HM⟩
  rcases HF.tf 66 rfl with ⟨hb66, HF⟩ | ⟨hb66, HF⟩
  ·
   have hd66 := of_decide_eq_true hb66
   have hqr : ((loose (Lb.getD 7 0) ((Lb.take (Lb.length - 4)).drop 8)).err ≠ 0 ∨ (loose (Lb.getD 7 0) ((Lb.take (Lb.length - 4)).drop 8)).raw ≠ Lb.take (Lb.length - 4)) := of_decide_eq_true hb66
   refine qf HF rfl (wp_seq (qa ?_))
   refine fy HF HM 0 rfl rfl rfl (v := .agg #[vB 0, vB 0, vI 0, vI 0, .slice none 0 0]) (Yl.build (vs := []) rfl (by kernel_rfl) (by kernel_rfl)) fun a HF => ?_
   refine fo HF 1 rfl rfl ?_
   refine e_sa HF HM 2 rfl rfl rfl rfl rfl qw rfl rfl (by simp [Value.oneCell']) ?_
   clear HM; intro w15_1 HM
   refine fp HF 2 2 [(4, vI 106), (3, vI 0)] fun a HF => ?_
   refine qb rfl (wp_ret ?_)
   exact ret3 rfl HF (.cellS (i := 2) HF HM rfl rfl qw rfl) (.tmp HF rfl) (.tmp HF rfl) (qcg (qc0 hl0 hLb (by unfold refOf; rw [if_neg (by rw [hs]; decide), if_neg (fun hh => hh hmg), if_neg (by omega), if_neg (by omega), if_pos hqr])) HM.below)
  have hd66 := of_decide_eq_false hb66
  have hqr : ¬ ((loose (Lb.getD 7 0) ((Lb.take (Lb.length - 4)).drop 8)).err ≠ 0 ∨ (loose (Lb.getD 7 0) ((Lb.take (Lb.length - 4)).drop 8)).raw ≠ Lb.take (Lb.length - 4)) := of_decide_eq_false hb66
  refine qe HF rfl (wp_skip (wp_seq (qa ?_)))
  refine fy HF HM 0 rfl rfl rfl (v := .agg ((loose (Lb.getD 7 0) ((Lb.take (Lb.length - 4)).drop 8)).cells A52 c52)) (Yl.qx rfl rfl qw rfl (fun _ h => qd (h.blk (i := 0) rfl))) fun a HF => ?_
  refine fp HF 1 1 [(69, vI ((lenR l).1))] fun a HF => ?_
  refine fo HF 2 rfl rfl ?_
  refine e_sa HF HM 2 rfl rfl rfl rfl rfl qw rfl rfl (qcd _ _ _) ?_
  clear HM; intro w16_2 HM
  refine fp HF 2 3 [(4, vI 0), (3, vI ((lenR l).1))] fun a HF => ?_
  refine qb rfl (wp_ret ?_)
  exact ret3 rfl HF (.cellS (i := 2) HF HM rfl rfl qw rfl) (.tmp HF rfl) (.tmp HF rfl) (qop (ql9 (e := 0) hl0 hLb (by unfold refOf; rw [if_neg (by rw [hs]; decide), if_neg (fun hh => hh hmg), if_neg (by omega), if_neg (by omega), if_neg hqr])) (HM.own (i := 1) rfl) hc52 HM.below)
 have hd44 := bne_eq_false_iff_eq.1 hb44
 have hkd : Lb.getD 7 0 = 1 ∨ Lb.getD 7 0 = 2 := by omega
 obtain ⟨hqok, hqk⟩ := qkf hkd (l := ((Lb.take (Lb.length - 4)).drop 8)) (qak (zu hlL _) _)
 have hqn : (loose (Lb.getD 7 0) ((Lb.take (Lb.length - 4)).drop 8)).evs.length ≤ 1000000 := qd2 _ _
 refine fp HF 5 5 [(49, .bool false)] fun a HF => ?_
 refine qb rfl (qe HF rfl (wp_skip (wp_seq (qa ?_))))
 refine fp HF 1 0 [(51, .slice (some ⟨gA, oA, none⟩) ((lenR l).1) cp)] fun a HF => ?_
 refine fo HF 1 rfl rfl ?_
 refine e_cl HF [.slice (some ⟨gA, oA, none⟩) ((lenR l).1) cp] rfl rfl (qij (some ⟨gA, oA, none⟩) ((lenR l).1) cp Lb ((Lb.take (Lb.length - 4)).drop 8) rfl _ (HM.old hrL) (by omega) hnL (by omega) (by omega) hlL) ?_
 rintro _ w52 ⟨⟨A52, c52, rfl, ho, hc52⟩, hbw⟩
 refine ⟨_, rfl, ?_⟩
 replace HM := HM.callRow hbw ho
 clear HF; intro a HF
 refine fo HF 2 rfl rfl ?_
 refine qz HF HM (cs := #[vB 0, vB 0, vI 0, vI 0, .slice none 0 0]) rfl (by kernel_rfl) rfl (by decide) ?_
 clear HF HM; intro a w7 g7 HF HM
 refine fo HF 3 rfl rfl ?_
 refine e_sa HF HM 0 rfl rfl rfl rfl rfl qw rfl rfl (qcd _ _ _) ?_
 clear HM; intro w13_3 HM
 refine qb rfl (wp_seq ?_)
 refine qam (fun aS wS => Fr aS 70 [] [(66, .bool (decide ((loose (Lb.getD 7 0) ((Lb.take (Lb.length - 4)).drop 8)).err ≠ 0 ∨ (loose (Lb.getD 7 0) ((Lb.take (Lb.length - 4)).drop 8)).raw ≠ Lb.take (Lb.length - 4)))), (7, vP g7 0), (49, .bool false), (38, .bool false), (33, .bool false), (22, .bool false), (0, .slice (some ⟨gA, oA, none⟩) ((lenR l).1) cp), (14, .bool false), (6, vI ((lenR l).2)), (5, vI ((lenR l).1)), (4, vI 0), (3, vI 0), (2, vP g2 0)] ∧ Mem w wS [.blk g7 ((loose (Lb.getD 7 0) ((Lb.take (Lb.length - 4)).drop 8)).cells A52 c52) 37, .row (.slice A52 ((loose (Lb.getD 7 0) ((Lb.take (Lb.length - 4)).drop 8)).evs.length) c52) ((loose (Lb.getD 7 0) ((Lb.take (Lb.length - 4)).drop 8)).evs.length) ((loose (Lb.getD 7 0) ((Lb.take (Lb.length - 4)).drop 8)).evs.flatMap evL) 58 11, .blk g2 #[vB 0, vB 0, vI 0, vI 0, .slice none 0 0] 37]) ?_ ?_
 ·
  refine zw HM [.blk g7 ((loose (Lb.getD 7 0) ((Lb.take (Lb.length - 4)).drop 8)).cells A52 c52) 37, .row (.slice A52 ((loose (Lb.getD 7 0) ((Lb.take (Lb.length - 4)).drop 8)).evs.length) c52) ((loose (Lb.getD 7 0) ((Lb.take (Lb.length - 4)).drop 8)).evs.length) ((loose (Lb.getD 7 0) ((Lb.take (Lb.length - 4)).drop 8)).evs.flatMap evL) 58 11, .blk g2 #[vB 0, vB 0, vI 0, vI 0, .slice none 0 0] 37] [0, 1, 2] [] fun HM HS => ?_
  refine ay HF HS 0 rfl rfl rfl (v := .agg ((loose (Lb.getD 7 0) ((Lb.take (Lb.length - 4)).drop 8)).cells A52 c52)) (Yl.qx rfl rfl qw rfl (fun _ h => qd (h.blk (i := 0) rfl))) fun a HF => ?_
  refine qi [1] (by kernel_rfl) rfl ?_
  refine all_cons ?_ all_nil
  refine qj HF (i := 1) rfl rfl ?_
  refine e_is HF HM [.agg ((loose (Lb.getD 7 0) ((Lb.take (Lb.length - 4)).drop 8)).cells A52 c52)] (vI ((loose (Lb.getD 7 0) ((Lb.take (Lb.length - 4)).drop 8)).err)) rfl rfl (qfi (loose (Lb.getD 7 0) ((Lb.take (Lb.length - 4)).drop 8)) hqok A52 c52 _ (HM.rd (i := 1) rfl) hqn) fun w54 hbw HM a HF => ?_
  refine keepS (HM.picks [0, 1, 2] (by decide) rfl) (fun HS => ?_)
  refine ap HF (fun _ => HS) [2, 3] #[true, true, true, true, false, false, false, false, false, false, false, false, false, false] [(56, .bool (((loose (Lb.getD 7 0) ((Lb.take (Lb.length - 4)).drop 8)).err : Int) != (0 : Int)))] fun a HF => ?_
  rcases HF.tf 56 rfl with ⟨hb56, HF⟩ | ⟨hb56, HF⟩
  ·
   have hd56 := bne_iff_ne.1 hb56
   have hqe : (loose (Lb.getD 7 0) ((Lb.take (Lb.length - 4)).drop 8)).err ≠ 0 := by omega
   refine ap HF (fun _ => HS) [4, 5, 6, 7, 8, 9, 10, 11, 12, 13] #[true, true, true, true, true, true, true, true, true, true, true, true, true, true] [(66, .bool true)] fun a HF => ?_
   refine qm (by kernel_rfl) ?_
   have HF := HF.as (t := 66) (u := .bool (decide ((loose (Lb.getD 7 0) ((Lb.take (Lb.length - 4)).drop 8)).err ≠ 0 ∨ (loose (Lb.getD 7 0) ((Lb.take (Lb.length - 4)).drop 8)).raw ≠ Lb.take (Lb.length - 4)))) rfl (congrArg Value.bool (by rw [decide_eq_true (show ((loose (Lb.getD 7 0) ((Lb.take (Lb.length - 4)).drop 8)).err ≠ 0 ∨ (loose (Lb.getD 7 0) ((Lb.take (Lb.length - 4)).drop 8)).raw ≠ Lb.take (Lb.length - 4)) from .inl hqe)]))
   exact ⟨HF.sub (by kernel_rfl), HM.picks [0, 1, 2] (by decide) rfl⟩
  have hd56 := bne_eq_false_iff_eq.1 hb56
  have hqe : (loose (Lb.getD 7 0) ((Lb.take (Lb.length - 4)).drop 8)).err = 0 := by omega
  refine ap HF (fun _ => HS) [7, 8] #[true, true, true, true, false, false, false, true, true, false, false, false, false, false] [(61, vI ((lenR l).1)), (60, .slice (some ⟨gA, oA, none⟩) ((lenR l).1) cp)] fun a HF => ?_
  refine ay HF HS 4 rfl rfl rfl (v := .agg ((loose (Lb.getD 7 0) ((Lb.take (Lb.length - 4)).drop 8)).cells A52 c52)) (Yl.qx rfl rfl qw rfl (fun _ h => qd (h.blk (i := 0) rfl))) fun a HF => ?_
  refine qo HF (fun _ => HS) (i := 9) rfl rfl (d := 62) rfl (by decide) (by kernel_rfl) (fun _ _ _ h => h) (v := vI (IntKind.i64.wrap (((lenR l).1 : Int) - 4))) (fun _ => Yl.pure (by kernel_rfl)) fun a HF => ?_
  replace HF := HF.sp 62 (vI ((lenR l).1 - 4 : Nat)) rfl (qk (by omega) (by omega))
  refine ay HF HS 10 rfl rfl rfl (v := .slice (some ⟨gA, oA, none⟩) ((lenR l).1 - 4) cp) (Yl.zx ei_u8 (j := (lenR l).1 - 4) rfl rfl rfl (by omega)) fun a HF => ?_
  refine ay HF HS 11 rfl rfl rfl (v := .string (bstr (Lb.take ((lenR l).1 - 4)))) (Yl.str rfl rfl (fun _ h => h.old (hrL.toB8 (by omega)))) fun a HF => ?_
  refine qi [5] (by kernel_rfl) rfl ?_
  refine all_cons ?_ all_nil
  refine qj HF (i := 5) rfl rfl ?_
  refine e_cl HF [.agg ((loose (Lb.getD 7 0) ((Lb.take (Lb.length - 4)).drop 8)).cells A52 c52)] rfl rfl (qb1 (loose (Lb.getD 7 0) ((Lb.take (Lb.length - 4)).drop 8)) hqok A52 c52 _ (HM.rd (i := 1) rfl) hqn (qkg hqe).1) ?_
  rintro _ w58 ⟨⟨A58, c58, rfl, ho, hc58⟩, hbw⟩
  refine ⟨_, rfl, ?_⟩
  replace HM := HM.callRow hbw ho
  clear HF; intro a HF
  refine keepS (HM.picks [1, 2, 3] (by decide) rfl) (fun HS => ?_)
  refine qi [6] (by kernel_rfl) rfl ?_
  refine all_cons ?_ all_nil
  refine qj HF (i := 6) rfl rfl ?_
  refine Yl.wp (S := fun wS => Mem w wS _) (v := .string (bstr ((loose (Lb.getD 7 0) ((Lb.take (Lb.length - 4)).drop 8)).raw))) (Yl.str rfl rfl (fun _ h => h.rd (i := 0) rfl)) HF HM rfl (by decide) fun a HF => ?_
  refine keepS HS (fun HS => ?_)
  refine ap HF (fun _ => HS) [12, 13] #[true, true, true, true, true, true, true, true, true, true, true, true, true, true] [(66, .bool (!(((bstr ((loose (Lb.getD 7 0) ((Lb.take (Lb.length - 4)).drop 8)).raw))).toList == ((bstr (Lb.take ((lenR l).1 - 4)))).toList)))] fun a HF => ?_
  refine qm (by kernel_rfl) ?_
  replace HF := HF.to [(66, .bool (!(((bstr ((loose (Lb.getD 7 0) ((Lb.take (Lb.length - 4)).drop 8)).raw))).toList == ((bstr (Lb.take ((lenR l).1 - 4)))).toList))), (7, vP g7 0), (49, .bool false), (38, .bool false), (33, .bool false), (22, .bool false), (0, .slice (some ⟨gA, oA, none⟩) ((lenR l).1) cp), (14, .bool false), (6, vI ((lenR l).2)), (5, vI ((lenR l).1)), (4, vI 0), (3, vI 0), (2, vP g2 0)]
  replace HM := HM.picks (fs' := [.blk g7 ((loose (Lb.getD 7 0) ((Lb.take (Lb.length - 4)).drop 8)).cells A52 c52) 37, .row (.slice A52 ((loose (Lb.getD 7 0) ((Lb.take (Lb.length - 4)).drop 8)).evs.length) c52) ((loose (Lb.getD 7 0) ((Lb.take (Lb.length - 4)).drop 8)).evs.length) ((loose (Lb.getD 7 0) ((Lb.take (Lb.length - 4)).drop 8)).evs.flatMap evL) 58 11, .blk g2 #[vB 0, vB 0, vI 0, vI 0, .slice none 0 0] 37]) [1, 2, 3] (by decide) rfl
  have HF := HF.as (t := 66) (u := .bool (decide ((loose (Lb.getD 7 0) ((Lb.take (Lb.length - 4)).drop 8)).err ≠ 0 ∨ (loose (Lb.getD 7 0) ((Lb.take (Lb.length - 4)).drop 8)).raw ≠ Lb.take (Lb.length - 4)))) rfl (congrArg Value.bool (by rw [qnf (qlq hqok) (zu hlL _), ← hnL, qwq hqe]))
  exact ⟨HF.sub (by kernel_rfl), HM.picks [0, 1, 2] (by decide) rfl⟩
 clear HF HM; rintro a w14 ⟨HF, HM⟩
 rcases HF.tf 66 rfl with ⟨hb66, HF⟩ | ⟨hb66, HF⟩
 ·
  have hd66 := of_decide_eq_true hb66
  have hqr : ((loose (Lb.getD 7 0) ((Lb.take (Lb.length - 4)).drop 8)).err ≠ 0 ∨ (loose (Lb.getD 7 0) ((Lb.take (Lb.length - 4)).drop 8)).raw ≠ Lb.take (Lb.length - 4)) := of_decide_eq_true hb66
  refine qf HF rfl (wp_seq (qa ?_))
  refine fy HF HM 0 rfl rfl rfl (v := .agg #[vB 0, vB 0, vI 0, vI 0, .slice none 0 0]) (Yl.build (vs := []) rfl (by kernel_rfl) (by kernel_rfl)) fun a HF => ?_
  refine fo HF 1 rfl rfl ?_
  refine e_sa HF HM 2 rfl rfl rfl rfl rfl qw rfl rfl (by simp [Value.oneCell']) ?_
  clear HM; intro w15_1 HM
  refine fp HF 2 2 [(4, vI 106), (3, vI 0)] fun a HF => ?_
  refine qb rfl (wp_ret ?_)
  exact ret3 rfl HF (.cellS (i := 2) HF HM rfl rfl qw rfl) (.tmp HF rfl) (.tmp HF rfl) (qcg (qc0 hl0 hLb (by unfold refOf; rw [if_neg (by rw [hs]; decide), if_neg (fun hh => hh hmg), if_neg (by omega), if_neg (by omega), if_pos hqr])) HM.below)
 have hd66 := of_decide_eq_false hb66
 have hqr : ¬ ((loose (Lb.getD 7 0) ((Lb.take (Lb.length - 4)).drop 8)).err ≠ 0 ∨ (loose (Lb.getD 7 0) ((Lb.take (Lb.length - 4)).drop 8)).raw ≠ Lb.take (Lb.length - 4)) := of_decide_eq_false hb66
 refine qe HF rfl (wp_skip (wp_seq (qa ?_)))
 refine fy HF HM 0 rfl rfl rfl (v := .agg ((loose (Lb.getD 7 0) ((Lb.take (Lb.length - 4)).drop 8)).cells A52 c52)) (Yl.qx rfl rfl qw rfl (fun _ h => qd (h.blk (i := 0) rfl))) fun a HF => ?_
 refine fp HF 1 1 [(69, vI ((lenR l).1))] fun a HF => ?_
 refine fo HF 2 rfl rfl ?_
 refine e_sa HF HM 2 rfl rfl rfl rfl rfl qw rfl rfl (qcd _ _ _) ?_
 clear HM; intro w16_2 HM
 refine fp HF 2 3 [(4, vI 0), (3, vI ((lenR l).1))] fun a HF => ?_
 refine qb rfl (wp_ret ?_)
 exact ret3 rfl HF (.cellS (i := 2) HF HM rfl rfl qw rfl) (.tmp HF rfl) (.tmp HF rfl) (qop (ql9 (e := 0) hl0 hLb (by unfold refOf; rw [if_neg (by rw [hs]; decide), if_neg (fun hh => hh hmg), if_neg (by omega), if_neg (by omega), if_neg hqr])) (HM.own (i := 1) rfl) hc52 HM.below)
end Go.Proofs.YtnakabnmjnfpcaaGreatDoor
