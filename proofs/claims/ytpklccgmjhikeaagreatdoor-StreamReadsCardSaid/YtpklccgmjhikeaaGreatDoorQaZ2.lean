/- Parts. -/
import Derived.Test.YtpklccgmjhikeaaGreatDoorQaCrcP
import Derived.Test.YtpklccgmjhikeaaGreatDoorQaCheck
import Derived.Test.YtpklccgmjhikeaaGreatDoorQaVarint
import Derived.Test.YtpklccgmjhikeaaGreatDoorQaRef06f
import Derived.Test.YtpklccgmjhikeaaGreatDoorQaRWith
import Derived.Test.YtpklccgmjhikeaaGreatDoorQaRef01
import Derived.Test.YtpklccgmjhikeaaGreatDoorQaZ1
set_option linter.all false
set_option maxRecDepth 100000
set_option maxHeartbeats 1000000
namespace Go.Proofs.YtpklccgmjhikeaaGreatDoor
open Go.RowKit
instance bkDec : DecidableEq Bk := fun ⟨a0, a1, a2, a3, a4⟩ ⟨b0, b1, b2, b3, b4⟩ =>
 decidable_of_iff (a0 = b0 ∧ a1 = b1 ∧ a2 = b2 ∧ a3 = b3 ∧ a4 = b4) (by simp)
theorem qu1 {b : Bk} (h : 8 + b.body.length + 4 ≤ 4096) : (#[Value.int .u8 (((8 + b.body.length + 4) % 256 : Nat) : Int), .int .u8 (((8 + b.body.length + 4) / 256 % 256 : Nat) : Int), .int .u8 0, .int .u8 0, .int .u8 113, .int .u8 116, .int .u8 1, .int .u8 (b.kind : Int)] : Array Value).toList ++ b.body.map B8 = b.raw.map B8 := by
 have e0 : 8 + b.body.length + 4 = 12 + b.body.length := by omega
 have e1 : (12 + b.body.length) / 65536 % 256 = 0 := by omega
 have e2 : (12 + b.body.length) / 16777216 % 256 = 0 := by omega
 unfold Bk.raw le4
 rw [e0, e1, e2]
 simp [B8]
theorem qoy {b : Bs} {e : Ev} (h : e.kind < 256) : ∀ x ∈ zb b e, x < 256 := by
 intro x hx
 unfold zb at hx
 rcases List.mem_cons.1 hx with rfl | hx
 ·exact h
 ·obtain ⟨y, _, hy⟩ := List.mem_flatMap.1 hx
  exact qcn y x hy
theorem qu2 : ∀ (l : List Ev) (b : Bs), (∀ e ∈ l, e.Ok) → ∀ x ∈ recs b l, x < 256
 | [], _, _, x, hx => by simp [recs] at hx
 | e :: r, b, hok, x, hx => by
  rw [recs] at hx
  rcases List.mem_append.1 hx with h | h
  ·exact qoy (hok e (by simp)).kind x h
  ·exact qu2 r e.at (fun y hy => hok y (by simp [hy])) x h
theorem q06 {b : Bk} (hok : b.Ok) : ∀ x ∈ b.body, x < 256 := by
 intro x hx
 unfold Bk.body at hx
 split at hx
 ·exact qcn _ x hx
 ·rcases List.mem_append.1 hx with h | h
  ·rcases List.mem_append.1 h with h | h
   ·rcases List.mem_append.1 h with h | h
    ·exact qcn _ x h
    ·exact qcn _ x h
   ·exact qcn _ x h
  ·split at h
   ·cases h
   ·rcases List.mem_append.1 h with h | h
    ·rcases List.mem_append.1 h with h | h
     ·exact qcn _ x h
     ·exact qcn _ x h
    ·exact qu2 _ _ hok.evs x h
theorem qu3 {b : Bk} (hok : b.Ok) : ∀ x ∈ b.raw, x < 256 := by
 intro x hx
 unfold Bk.raw at hx
 rcases List.mem_append.1 hx with h | h
 ·rcases List.mem_append.1 h with h | h
  ·exact qz0 _ x h
  ·simp only [List.mem_cons, List.not_mem_nil, or_false] at h
   have := hok.kind
   omega
 ·exact q06 hok x h
theorem qdc (b : Bk) : b.raw.length = 8 + b.body.length := by unfold Bk.raw le4; simp; omega
theorem qcp (b : Bk) : b.body.length ≤ 50 + 61 * b.evs.length := by
 unfold Bk.body
 split
 ·have := qd b.next.toNat; omega
 ·have h1 := qd b.cpu
  have h2 := qd b.lost.toNat
  have h3 := qd b.evs.length
  have h4 := qd b.base.seq.toNat
  have h5 := qd b.base.time.toNat
  have h6 := qf8 b.evs b.base
  split <;> simp only [List.length_append, List.length_nil] <;> omega
theorem qz4 {w w' : World} {b : Bk} {er : Nat} (h : b.err = er) (he : er ≠ 0) (hb : Below w.heap.size w w') : qaq w b.err b.out (.returned (.tuple #[.slice none 0 0, .int .i64 (er : Int)])) w' := by
 have h2 : b.out = [] := by unfold Bk.out; rw [if_neg om]
 rw [h, h2]
 exact ⟨⟨none, 0, rfl, World.ownsRow_nil _ _ _ _, Nat.le_refl _⟩, hb⟩
theorem qz5 {b : Bk} (h : b.err = 0) : b.out = sealL b.raw := by unfold Bk.out; rw [if_pos h]
theorem qu4 (b : Bk) : b.out.length ≤ 4096 := by
 unfold Bk.out
 split
 ·rename_i h
  unfold Bk.err at h
  split at h
  ·cases h
  ·split at h
   ·cases h
   ·rw [qhz, qdc]; omega
 ·simp
theorem qdt (most : Nat) (l : List Nat) : tkVal most l ≤ most := by unfold tkVal; split <;> omega
theorem qiw (most : Nat) (l : List Nat) : (if ((most : Nat) : Int) < (((vread l).1 : Nat) : Int) then ((most : Nat) : Int) else (((vread l).1 : Nat) : Int)) = ((tkVal most l : Nat) : Int) := by unfold tkVal; split <;> split <;> omega
theorem qbr (l : List Nat) : (qa l).length = l.length - (vread l).2.1 := by unfold qa; rw [List.length_drop]
theorem qcq (l : List Nat) : (qa l).length ≤ l.length := by rw [qbr]; omega
theorem qrt {most : Nat} {l : List Nat} (h : (vread l).2.2 ≠ 0) : tkOk most l = false := by unfold tkOk; rw [decide_eq_false]; omega
def qz6 (W : World) (gb gk : Nat) (l : List Nat) (okb : Bool) (most : Nat) (fr : List Fact) (r : Ending) (w' : World) : Prop :=
 r = .returned (.int .i64 ((tkVal most l : Nat) : Int)) ∧ ∃ A' c', Rd W W.heap.size 1 A' (qa l).length ((qa l).map B8) ∧ (qa l).length ≤ c' ∧
  Mem W w' (.blk gb #[.slice A' (qa l).length c'] 22 :: .blk gk #[.bool (okb && tkOk most l)] 4 :: fr)
theorem qix {W w' : World} {gb gk n c most : Nat} {l : List Nat} {okb ok2 : Bool} {A : Option Addr} {fr : List Fact} (hr : Rd W W.heap.size 1 A l.length (l.map B8)) (hc : l.length ≤ c) (h2 : (okb && tkOk most l) = ok2) (hn : n = l.length)
  (HM : Mem W w' (.blk gb #[.slice (if c = (vread l).2.1 then A else A.map (·.add ((vread l).2.1 * 1))) (n - (vread l).2.1) (c - (vread l).2.1)] 22 :: .blk gk #[.bool ok2] 4 :: fr)) :
  qz6 W gb gk l okb most fr (.returned (.int .i64 ((tkVal most l : Nat) : Int))) w' := by
 subst h2; subst hn
 refine ⟨rfl, (if c = (vread l).2.1 then A else A.map (·.add ((vread l).2.1 * 1))), c - (vread l).2.1, ?_, ?_, ?_⟩
 ·rw [qbr]
  exact hr.qhx (qaz l) hc
 ·rw [qbr]; omega
 ·rw [qbr]; exact HM
def qfk (w : World) (q : Option Bk) (r : Ending) (w' : World) : Prop :=
 (∃ cs : Array Value, r = .returned (.tuple #[.agg cs, .bool q.isSome]) ∧ cs.size = 5 ∧ (∀ v ∈ cs.toList, v.oneCell' = true) ∧
  (∀ b, q = some b → ∃ A c, cs = b.cells A c ∧ w'.ownsRow w.heap.size 35 11 (.slice A b.evs.length c) b.evs.length (b.evs.flatMap evL) ∧ b.evs.length ≤ c)) ∧ Below w.heap.size w w'
theorem qb2 {w w' : World} {q : Option Bk} {cs : Array Value} (h : q = none) (hs : cs.size = 5) (h1 : ∀ v ∈ cs.toList, v.oneCell' = true) (hb : Below w.heap.size w w') : qfk w q (.returned (.tuple #[.agg cs, .bool false])) w' := by
 subst h
 exact ⟨⟨cs, rfl, hs, h1, fun b h => by cases h⟩, hb⟩
theorem qcx {w w' : World} {q : Option Bk} {b : Bk} {A : Option Addr} {c : Nat} (h : q = some b) (ho : w'.ownsRow w.heap.size 35 11 (.slice A b.evs.length c) b.evs.length (b.evs.flatMap evL)) (hc : b.evs.length ≤ c) (hb : Below w.heap.size w w') : qfk w q (.returned (.tuple #[.agg (b.cells A c), .bool true])) w' := by
 subst h
 exact ⟨⟨_, rfl, rfl, qas _ _ _, fun b' h => by injection h with h; subst h; exact ⟨A, c, rfl, ho, hc⟩⟩, hb⟩
theorem tk3 {l : List Nat} : (((true && tkOk 63 l) && tkOk 281474976710656 (qa l)) && tkOk 4096 (qa (qa l))) = qcv l := by unfold qcv; simp
theorem qj8 (l : List Nat) : qda 2 l = qav l := by unfold qda; rw [if_pos rfl]
theorem qbs (l : List Nat) : qda 1 l = zf l := by unfold qda; rw [if_neg om]
theorem endOk {x : Nat} (h : x ≤ 281474976710657) : Bk.Ok ⟨2, 0, 0, (x : Int), []⟩ := ⟨by show 2 < 256; decide, by show 0 < 256; decide, by unfold I64; simp, qef h, by simp⟩
theorem evsOk {cpu lost : Nat} {es : List Ev} (h : cpu < 256) (hl : lost ≤ 281474976710656) (he : ∀ e ∈ es, e.Ok) : Bk.Ok ⟨1, cpu, (lost : Int), 0, es⟩ := ⟨by show 1 < 256; decide, h, qef (by show lost ≤ _; omega), by unfold I64; simp, he⟩
theorem qgb {l : List Nat} {q : List Ev × Nat × Nat} (h3 : qcv l = true) (h0 : 0 < tkVal 4096 (qa (qa l)))
  (hq : readR ⟨(tkVal 281474976710656 (qa (qa (qa l))) : Int), (tkVal 281474976710656 (qa (qa (qa (qa l)))) : Int)⟩ (tkVal 63 l) (tkVal 4096 (qa (qa l)) : Int) (qa (qa (qa (qa (qa l))))) = q) :
  zf l = qab (tkVal 63 l) (tkVal 281474976710656 (qa l)) (qa (qa (qa l))) q := by
 unfold zf
 rw [if_pos ⟨h3, h0⟩, hq]
theorem qfc {cpu lost : Nat} {l : List Nat} {q : List Ev × Nat × Nat} (h : ¬ (q.2.2 = 0 ∧ (q.1.getD 0 Ev.zero).seq = (tkVal 281474976710656 l : Int) ∧ (q.1.getD 0 Ev.zero).time = (tkVal 281474976710656 (qa l) : Int) ∧ tkOk 281474976710656 l = true ∧ tkOk 281474976710656 (qa l) = true ∧ (qa (qa l)).length - q.2.1 = 0 ∧ Bk.fits ⟨1, cpu, lost, 0, q.1⟩ = true)) : qab cpu lost l q = none := by
 unfold qab
 rw [if_neg]
 intro hh
 obtain ⟨h1, h2, h3, h4, h5, h6, h7⟩ := hh
 rw [List.length_drop] at h6
 have e : q.1.headD Ev.zero = q.1.getD 0 Ev.zero := by cases q.1 <;> rfl
 rw [e] at h2 h3
 exact h ⟨h1, h2, h3, h4, h5, h6, h7⟩
theorem qjm {cpu lost : Nat} {l : List Nat} {q : List Ev × Nat × Nat} (h : q.2.2 = 0 ∧ (q.1.getD 0 Ev.zero).seq = (tkVal 281474976710656 l : Int) ∧ (q.1.getD 0 Ev.zero).time = (tkVal 281474976710656 (qa l) : Int) ∧ tkOk 281474976710656 l = true ∧ tkOk 281474976710656 (qa l) = true ∧ (qa (qa l)).length - q.2.1 = 0 ∧ Bk.fits ⟨1, cpu, lost, 0, q.1⟩ = true) : qab cpu lost l q = some ⟨1, cpu, lost, 0, q.1⟩ := by
 unfold qab
 rw [if_pos]
 obtain ⟨h1, h2, h3, h4, h5, h6, h7⟩ := h
 have e : q.1.headD Ev.zero = q.1.getD 0 Ev.zero := by cases q.1 <;> rfl
 rw [e, List.length_drop]
 exact ⟨h1, h2, h3, h4, h5, h6, h7⟩
theorem qfl (l : List Nat) : (qav l).isSome = (tkOk 281474976710657 l && (decide ((qa l).length = 0) && Bk.fits ⟨2, 0, 0, (tkVal 281474976710657 l : Int), []⟩)) := by
 unfold qav
 split
 ·rename_i h; rw [h.1, decide_eq_true h.2.1, h.2.2]; rfl
 ·rename_i h
  show false = _
  rw [eq_comm, Bool.eq_false_iff]
  intro hh
  simp only [Bool.and_eq_true, decide_eq_true_eq] at hh
  exact h ⟨hh.1, hh.2.1, hh.2.2⟩
theorem qm5 {l : List Nat} (h : (qav l).isSome = true) : qav l = some ⟨2, 0, 0, (tkVal 281474976710657 l : Int), []⟩ := by
 unfold qav at h ⊢
 split
 ·rfl
 ·rename_i h2; rw [if_neg h2] at h; cases h
theorem qqh {l : List Nat} (h : ¬ (qcv l = true ∧ 0 < tkVal 4096 (qa (qa l)))) : (zf l).isSome = (qcv l && (decide ((qa (qa (qa l))).length = 0) && Bk.fits ⟨1, tkVal 63 l, (tkVal 281474976710656 (qa l) : Int), 0, []⟩)) := by
 unfold zf
 rw [if_neg h]
 split
 ·rename_i h; rw [h.1, decide_eq_true h.2.1, h.2.2]; rfl
 ·rename_i h
  show false = _
  rw [eq_comm, Bool.eq_false_iff]
  intro hh
  simp only [Bool.and_eq_true, decide_eq_true_eq] at hh
  exact h ⟨hh.1, hh.2.1, hh.2.2⟩
theorem qu5 {l : List Nat} (h : ¬ (qcv l = true ∧ 0 < tkVal 4096 (qa (qa l)))) (hs : (zf l).isSome = true) : zf l = some ⟨1, tkVal 63 l, (tkVal 281474976710656 (qa l) : Int), 0, []⟩ := by
 unfold zf at hs ⊢
 rw [if_neg h] at hs ⊢
 split
 ·rfl
 ·rename_i h2; rw [if_neg h2] at hs; cases hs
theorem qoz {cpu lost L : Nat} {l : List Nat} {es : List Ev} (h : (es.getD 0 Ev.zero).seq = (tkVal 281474976710656 l : Int) ∧ (es.getD 0 Ev.zero).time = (tkVal 281474976710656 (qa l) : Int)) : (qab cpu lost l (es, L, 0)).isSome = ((tkOk 281474976710656 l && tkOk 281474976710656 (qa l)) && (decide ((qa (qa l)).length - L = 0) && Bk.fits ⟨1, cpu, (lost : Int), 0, es⟩)) := by
 cases hc : ((tkOk 281474976710656 l && tkOk 281474976710656 (qa l)) && (decide ((qa (qa l)).length - L = 0) && Bk.fits ⟨1, cpu, (lost : Int), 0, es⟩)) with
 | true =>
  simp only [Bool.and_eq_true, decide_eq_true_eq] at hc
  rw [qjm ⟨rfl, h.1, h.2, hc.1.1, hc.1.2, hc.2.1, hc.2.2⟩]
  rfl
 | false =>
  rw [qfc]
  ·rfl
  ·intro hh
   obtain ⟨h1, h2, h3, h4, h5, h6, h7⟩ := hh
   rw [h4, h5, h7, decide_eq_true h6] at hc
   cases hc
theorem qyk {cpu lost : Nat} {l : List Nat} {q : List Ev × Nat × Nat} (h : (qab cpu lost l q).isSome = true) : qab cpu lost l q = some ⟨1, cpu, (lost : Int), 0, q.1⟩ := by
 unfold qab at h ⊢
 split
 ·rfl
 ·rename_i h2; rw [if_neg h2] at h; cases h
theorem qfk.none {w w' : World} {q : Option Bk} {r : Ending} (h : qfk w q r w') (hq : q = none) : (∃ cs : Array Value, r = .returned (.tuple #[.agg cs, .bool false]) ∧ cs.size = 5 ∧ (∀ v ∈ cs.toList, v.oneCell' = true)) ∧ Below w.heap.size w w' := by
 subst hq
 obtain ⟨⟨cs, h1, h2, h3, _⟩, h4⟩ := h
 exact ⟨⟨cs, h1, h2, h3⟩, h4⟩
theorem qfk.some {w w' : World} {q : Option Bk} {b : Bk} {r : Ending} (h : qfk w q r w') (hq : q = some b) : (∃ A c, r = .returned (.tuple #[.agg (b.cells A c), .bool true]) ∧ w'.ownsRow w.heap.size 35 11 (.slice A b.evs.length c) b.evs.length (b.evs.flatMap evL) ∧ b.evs.length ≤ c) ∧ Below w.heap.size w w' := by
 subst hq
 obtain ⟨⟨cs, h1, h2, h3, h5⟩, h4⟩ := h
 obtain ⟨A, c, rfl, h6, h7⟩ := h5 b rfl
 exact ⟨⟨A, c, h1, h6, h7⟩, h4⟩
def qo0 (T : TypeId) (w : World) (q : Bk × Nat × Nat) (r : Ending) (w' : World) : Prop :=
 (∃ A c, r = .returned (.tuple #[.agg (q.1.cells A c), .int .i64 (q.2.1 : Int), .int .i64 (q.2.2 : Int)]) ∧ w'.ownsRow w.heap.size T 11 (.slice A q.1.evs.length c) q.1.evs.length (q.1.evs.flatMap evL) ∧ q.1.evs.length ≤ c) ∧ Below w.heap.size w w'
theorem qat {T : TypeId} {w w' : World} {q : Bk × Nat × Nat} {er : Nat} (h : q = (Bk.zero, 0, er)) (hb : Below w.heap.size w w') : qo0 T w q (.returned (.tuple #[.agg #[.int .u8 0, .int .u8 0, .int .i64 0, .int .i64 0, .slice none 0 0], .int .i64 0, .int .i64 (er : Int)])) w' := by
 subst h
 exact ⟨⟨none, 0, rfl, World.ownsRow_nil _ _ _ _, Nat.le_refl _⟩, hb⟩
theorem qj9 {T : TypeId} {w w' : World} {q : Bk × Nat × Nat} {b : Bk} {m c : Nat} {A : Option Addr} (h : q = (b, m, 0)) (ho : w'.ownsRow w.heap.size T 11 (.slice A b.evs.length c) b.evs.length (b.evs.flatMap evL)) (hc : b.evs.length ≤ c) (hb : Below w.heap.size w w') : qo0 T w q (.returned (.tuple #[.agg (b.cells A c), .int .i64 (m : Int), .int .i64 0])) w' := by
 subst h
 exact ⟨⟨A, c, rfl, ho, hc⟩, hb⟩
theorem qu6 {l : List Nat} (h : (lenR l).2 ≠ 0) : readB l = (Bk.zero, 0, (lenR l).2) := by unfold readB; rw [if_pos h]
theorem qbt {l L : List Nat} {e : Nat} (h : (lenR l).2 = 0) (hL : L = l.take (lenR l).1) (hb : blkOf L = (none, e)) : readB l = (Bk.zero, 0, e) := by unfold readB; rw [if_neg om, ← hL, hb]
theorem qka {l L : List Nat} {b : Bk} {e : Nat} (h : (lenR l).2 = 0) (hL : L = l.take (lenR l).1) (hb : blkOf L = (some b, e)) : readB l = (b, (lenR l).1, 0) := by unfold readB; rw [if_neg om, ← hL, hb]
theorem tk5 {l : List Nat} {m1 m2 m3 m4 m5 : Nat} {a b c d e : List Nat} : (((((true && tkOk m1 a) && tkOk m2 b) && tkOk m3 c) && tkOk m4 d) && tkOk m5 e) = ((((true && tkOk m1 a) && tkOk m2 b) && tkOk m3 c) && (tkOk m4 d && tkOk m5 e)) := by
 have _ := l
 rw [Bool.and_assoc]
theorem qva {l : List Nat} {b : Bk} {m er : Nat} (h : readB l = (b, m, er)) (he : er ≠ 0) : b = Bk.zero ∧ m = 0 := by
 unfold readB at h
 split at h
 ·simp only [Prod.mk.injEq] at h; exact ⟨h.1.symm, h.2.1.symm⟩
 ·split at h
  ·simp only [Prod.mk.injEq] at h; exact absurd h.2.2.symm he
  ·simp only [Prod.mk.injEq] at h; exact ⟨h.1.symm, h.2.1.symm⟩
theorem qvb {l : List Nat} (h : (blkOf l).1 = none) : (blkOf l).2 ≠ 0 := by
 unfold blkOf at h ⊢
 split
 ·decide
 ·rename_i h1
  rw [if_neg h1] at h
  split
  ·decide
  ·rename_i h2
   rw [if_neg h2] at h
   split
   ·decide
   ·rename_i h3
    rw [if_neg h3] at h
    split
    ·decide
    ·rename_i h4
     rw [if_neg h4] at h
     split
     ·decide
     ·rename_i b hb
      rw [hb] at h
      cases h
structure OneForm (l : List Nat) (b : Bk) (m : Nat) : Prop where
 ok : b.Ok
 fits : b.fits = true
 err : b.err = 0
 out : b.out = l.take m
 len : m ≤ l.length
 evs : b.evs.length ≤ 4096
 least : 13 ≤ m
 most : m ≤ 4096
theorem qe2 {l : List Nat} {b : Bk} {m : Nat} (hl : ∀ x ∈ l, x < 256) (h : readB l = (b, m, 0)) : OneForm l b m := by
 unfold readB at h
 split at h
 ·rename_i h0; simp only [Prod.mk.injEq] at h; exact absurd h.2.2 h0
 ·rename_i h0
  obtain ⟨h1, h2, h3, h4⟩ := qlm (show (lenR l).2 = 0 by omega)
  split at h
  ·rename_i b' hb
   simp only [Prod.mk.injEq] at h
   obtain ⟨rfl, rfl, _⟩ := h
   generalize (lenR l).1 = n at h1 h2 h3 h4 hb
   have hL : ∀ x ∈ l.take n, x < 256 := zu hl n
   have hlen : (l.take n).length = n := by rw [List.length_take]; omega
   have hnum : num4 (l.take n) = n := by rw [qm7 om]; exact h1
   obtain ⟨L, hLe⟩ : ∃ L, L = l.take n := ⟨_, rfl⟩
   rw [← hLe] at hb hL hlen hnum
   unfold blkOf at hb
   split at hb
   ·cases hb
   ·rename_i s1
    split at hb
    ·cases hb
    ·rename_i s2
     split at hb
     ·cases hb
     ·rename_i s3
      split at hb
      ·cases hb
      ·rename_i s4
       split at hb
       ·cases hb
       ·rename_i b'' hp
        injection hb with hb
        subst hb
        have hk : L.getD 7 0 = 1 ∨ L.getD 7 0 = 2 := by omega
        have s2 : L.getD 4 0 = 113 ∧ L.getD 5 0 = 116 := Decidable.of_not_not s2
        obtain ⟨q1, q2, q3, q4, q5⟩ := qj6 hk (zw (zu hL _) _) hp
        have herr : b''.err = 0 := by
         unfold Bk.err
         rw [if_neg (by simp [q3]), if_neg (by rw [q4, List.length_drop, List.length_take]; omega)]
        refine ⟨q2, q3, herr, ?_, h4, q5, h2, h3⟩
        rw [← hLe, qz5 herr, qqi hL om om s2.1 s2.2 om q1.symm q4]
        exact qun hL (by simpa using s1)
  ·rename_i hb
   simp only [Prod.mk.injEq] at h
   exact absurd h.2.2 (qvb hb)
theorem qqj {b : Bk} (h : b.err = 0) : b.fits = true ∧ 12 + b.body.length ≤ 4096 := by
 unfold Bk.err at h
 split at h
 ·cases h
 ·rename_i h1
  split at h
  ·cases h
  ·rename_i h2
   exact ⟨by simpa using h1, by omega⟩
structure Hb where
 b : Bk
 A : Option Addr
 c : Nat
def Hb.zero : Hb := ⟨Bk.zero, none, 0⟩
def hbL (h : Hb) : List Value := (h.b.cells h.A h.c).toList
theorem qdu (h : Hb) : (hbL h).length = 5 := rfl
def Hb.own (h : Hb) : Own := ⟨h.A, h.b.evs.length, h.c, h.b.evs.flatMap evL⟩
def hbF (t : TypeId) (q : List Hb) : List Fact := ownsF t 11 (q.map Hb.own)
def HbRd (w : World) (q : List Hb) : Prop := ∀ h ∈ q, Rd w w.heap.size 11 h.A h.b.evs.length (h.b.evs.flatMap evL)
section
variable {W w w' : World} {fs gs a b : List Fact} {t bt : TypeId} {q : List Hb}
theorem qyl (h : Hb) : hbF t (q ++ [h]) = hbF t q ++ [.row (.slice h.A h.b.evs.length h.c) h.b.evs.length (h.b.evs.flatMap evL) t 11] := by
 unfold hbF ownsF
 rw [List.map_append, List.map_append]
 rfl
theorem q07 {h : Hb} (hq : h ∈ q) : Fact.row (.slice h.A h.b.evs.length h.c) h.b.evs.length (h.b.evs.flatMap evL) t 11 ∈ hbF t q := List.mem_map_of_mem (List.mem_map_of_mem hq)
theorem Mem.hbRd (h : Mem W w fs) (hs : ∀ f ∈ hbF t q, f ∈ fs) : HbRd w q := fun _ hx => h.q3c (hs _ (q07 hx))
theorem HbRd.old (h : HbRd W q) (HM : Mem W w fs) : HbRd w q := fun x hx => HM.old (h x hx)
theorem HbRd.at {k : Nat} (h : HbRd w q) (hk : k < q.length) : Rd w w.heap.size 11 (q.getD k Hb.zero).A (q.getD k Hb.zero).b.evs.length ((q.getD k Hb.zero).b.evs.flatMap evL) := by
 refine h _ ?_
 rw [List.getD_eq_getElem?_getD, List.getElem?_eq_getElem hk]
 exact List.getElem_mem hk
theorem Mem.toHb {x : Bk} {A : Option Addr} {c : Nat} (h : Mem W w (.row (.slice A x.evs.length c) x.evs.length (x.evs.flatMap evL) t 11 :: (a ++ (hbF t q ++ b)))) : Mem W w (a ++ (hbF t (q ++ [⟨x, A, c⟩]) ++ b)) := by
 refine h.perm ?_
 rw [qyl]
 have h1 : (Fact.row (.slice A x.evs.length c) x.evs.length (x.evs.flatMap evL) t 11 :: (a ++ (hbF t q ++ b))).Perm (a ++ Fact.row (.slice A x.evs.length c) x.evs.length (x.evs.flatMap evL) t 11 :: (hbF t q ++ b)) := (List.perm_middle).symm
 refine h1.trans (List.Perm.append_left a ?_)
 rw [List.append_assoc]
 exact (List.perm_middle (l₁ := hbF t q) (l₂ := b)).symm
theorem Mem.q0o {f : Fact} (h : Mem W w (a ++ b)) (k : Mem w w' (f :: hbF t q)) : Mem W w' (f :: (a ++ (hbF t q ++ b))) := by
 refine (h.join k).perm (List.Perm.cons f ?_)
 show (hbF t q ++ (a ++ b)).Perm _
 rw [← List.append_assoc, ← List.append_assoc]
 exact List.Perm.append_right b List.perm_append_comm
end
theorem hb_eq {q q2 : List Hb} {k : Nat} (h : q.map Hb.b = q2.map Hb.b) (hk : k < q.length) : (q.getD k Hb.zero).b = (q2.getD k Hb.zero).b := by
 have hl : q.length = q2.length := by have h := congrArg List.length h; rwa [List.length_map, List.length_map] at h
 have h1 := congrArg (·[k]?) h
 simp only [List.getElem?_map] at h1
 rw [List.getElem?_eq_getElem hk, List.getElem?_eq_getElem om] at h1
 rw [List.getD_eq_getElem?_getD, List.getD_eq_getElem?_getD, List.getElem?_eq_getElem hk, List.getElem?_eq_getElem om]
 injection h1
def qhq (t bt : TypeId) (w : World) (er : Nat) (bs : List Bk) : Ending → World → Prop := fun r w' => ∃ A c q, r = .returned (.tuple #[.slice A bs.length c, .int .i64 (er : Int)]) ∧ q.map Hb.b = bs ∧ bs.length ≤ c ∧ Mem w w' (.row (.slice A bs.length c) bs.length (q.flatMap hbL) bt 5 :: hbF t q)
section
variable {W w : World} {fs a : List Fact} {t bt : TypeId} {q : List Hb}
theorem Mem.only (h : Mem W w fs) {f : Fact} (hf : f ∈ fs) : Mem W w [f] := ⟨h.below, fun k hk => by rw [List.mem_singleton] at hk; subst hk; exact h.holds k hf, List.pairwise_singleton _ _⟩
theorem Mem.q3e {x : Bk} {A : Option Addr} {c : Nat} (h : Mem W w (.row (.slice A x.evs.length c) x.evs.length (x.evs.flatMap evL) t 11 :: fs)) (hfs : fs = a ++ hbF t q) : Mem W w (a ++ hbF t (q ++ [⟨x, A, c⟩])) := by
 subst hfs
 have h1 := Mem.toHb (b := []) (by rwa [List.append_nil])
 rwa [List.append_nil] at h1
theorem qez {er : Nat} {n : Int} (h : Mem W w fs) (he : n = er) : qhq t bt W er [] (.returned (.tuple #[.slice none 0 0, .int .i64 n])) w := by
 subst he
 exact ⟨none, 0, [], rfl, rfl, Nat.le_refl _, Mem.nil ⟨h.below, fun f hf => absurd hf List.not_mem_nil, .nil⟩ _ _⟩
theorem qym {cpu : Nat} {opn : Int} (h : Mem W w fs) {i g : Nat} (hi : fs[i]? = some (.blk g #[.int .u8 1, .int .u8 (cpu : Int), .int .i64 opn, .int .i64 0, .slice none 0 0] bt)) : qhq t bt W 0 [⟨1, cpu, opn, 0, []⟩] (.returned (.tuple #[.slice (some ⟨g, 0, none⟩) 1 1, .int .i64 0])) w := by
 refine ⟨some ⟨g, 0, none⟩, 1, [⟨⟨1, cpu, opn, 0, []⟩, none, 0⟩], rfl, rfl, Nat.le_refl _, ?_⟩
 have h1 := (h.only (List.mem_of_getElem? hi)).blkRow (i := 0) (n := 1) (size := 5) rfl rfl de
 exact (h1.nil t 11).perm (List.Perm.swap _ _ _)
theorem qu7 {A : Option Addr} {c : Nat} (h : Mem W w (.row (.slice A q.length c) q.length (q.flatMap hbL) bt 5 :: hbF t q)) (hc : q.length ≤ c) : qhq t bt W 0 (q.map Hb.b) (.returned (.tuple #[.slice A q.length c, .int .i64 0])) w :=
 ⟨A, c, q, by rw [List.length_map]; rfl, rfl, by rwa [List.length_map], by rwa [List.length_map]⟩
end
theorem qkb (b : Bk) (hok : b.Ok) (A : Option Addr) (c B : Nat) (w : World) (hL : LaidX B w) (hB : B ≤ w.heap.size) (hr : Rd w w.heap.size 11 A b.evs.length (b.evs.flatMap evL)) (hn : b.evs.length ≤ 1000000) :
    Calls Tryz.prog 62 #[.agg (b.cells A c)] w (qaq w b.err b.out) := by
 refine (JN1 Tryz.func62 36) ?_
 refine (JP∘JE) fun w1 g1 => (Jp 2∘Jj∘JQ∘JP∘Jy (v := .agg (b.cells A c)) (h:=by exact Yl.qr rfl rfl si_bk rfl (fun _ h => qb (h.blk (i := 0) rfl)))∘JI (h:=by exact fun HM => qey b hok A c B _ (hL.mem HM hB) (HM.le hB) (HM.old hr) hn)) fun w8 hbw => (Jp 1∘Jd2∘Jj) (Ju (fun hb9 => ?_) fun hb9 => ?_)
 ·
  intro a Z HM
  have hfit : b.fits = false := by simpa using hb9
  exact Jb Z HM ((JT∘JP∘Jp 2∘Jj∘JZ∘Jz2) fun HM => qz4 (by unfold Bk.err; rw [if_pos hfit]) de HM.below)
 intro a Z HM
 have hfit : b.fits = true := by simpa using hb9
 have hbl := qcp b
 refine Jb Z HM ((JF∘JS'∘JP∘Jy (v := .agg (b.cells A c)) (h:=by exact Yl.qr rfl rfl si_bk rfl (fun _ h => qb (h.blk (i := 0) rfl)))∘JK (h:=by exact fun HM => qyj b hok A c B _ (hL.mem HM hB) (HM.le hB) (HM.old hr) hn hfit)) fun A11 c11 w11 hc11 => (Jp 1∘Jd2∘Jr∘Jp 1∘Jl∘Jp 1∘Jo (vI (8 + ((b.body).length) : Nat)) (by exact qap om om)∘JaK 4∘Jp 1∘Jd4∘Jj∘JQ∘JP∘Jp 2∘Jd1∘Jj) (Ji (fun hd17 => ?_) fun hd17 => ?_))
 ·
  exact (JT∘JP∘Jp 2∘Jj∘JZ∘Jz2) fun HM => qz4 (by unfold Bk.err; rw [if_neg (by simp [hfit]), if_pos om]) de HM.below
 refine (JF∘JS'∘JP∘Jp 1∘Jv 1 [(19, vB (IntKind.u8.wrap ((8 + ((b.body).length) + 4 : Nat) : Int)))]∘Jo (vB ((8 + ((b.body).length) + 4) % 256 : Nat)) (by exact qa9 (8 + ((b.body).length) + 4))∘Jp 2∘Jo (vI ((8 + ((b.body).length) + 4) / 256 : Nat)) (by exact qdp .i64 (8 + ((b.body).length) + 4) (j := 8) (q := 256) rfl rfl)∘Jv 1 [(22, vB (IntKind.u8.wrap (((8 + ((b.body).length) + 4) / 256 : Nat) : Int)))]∘Jo (vB (((8 + ((b.body).length) + 4) / 256) % 256 : Nat)) (by exact qa9 ((8 + ((b.body).length) + 4) / 256))∘Jy (v := vP 0 0) (h:=by exact Yl.qe8 (ad := ⟨0, 0, none⟩) (m := 2) (y := 0) (sz := 1) rfl rfl rfl kr de)∘Jy (v := vB 113) (h:=by exact Yl.qx rfl rfl kr (fun _ h => (hL.mem h hB).magic0))∘Jy (v := vP 0 1) (h:=by exact Yl.qe8 (ad := ⟨0, 0, none⟩) (m := 2) (y := 1) (sz := 1) rfl rfl rfl kr de)∘Jy (v := vB 116) (h:=by exact Yl.qx rfl rfl kr (fun _ h => (hL.mem h hB).magic1))∘Jg 0 O1) fun a Z HM => ?_
 refine fo Z 11 rfl rfl (s_el Z HM ei_u8 [(0, vB ((8 + ((b.body).length) + 4) % 256 : Nat)), (1, vB (((8 + ((b.body).length) + 4) / 256) % 256 : Nat)), (2, vB 0), (3, vB 0), (4, vB 113), (5, vB 116), (6, vB 1), (7, vB b.kind)] #[vB ((8 + ((b.body).length) + 4) % 256 : Nat), vB (((8 + ((b.body).length) + 4) / 256) % 256 : Nat), vB 0, vB 0, vB 113, vB 116, vB 1, vB b.kind] ?_)
 clear Z HM; intro a w29 g29 Z HM
 refine Jb Z HM ((Jp 1∘Jd6∘Jr∘Jp 2) fun a Z HM => ?_)
 refine fo Z 2 rfl rfl ?_
 replace HM := HM.blkRow (i := 0) (n := 8) (size := 1) rfl rfl de
 refine qn Z HM (i := 0) rfl ei_u8 rfl rfl rfl (news := (b.body.map B8)) (HM.rd (i := 1) rfl) (qba _) om om rfl de ?_
 clear Z HM; intro a w32 A32 c32 Z HM hc32
 rw [show ((#[vB ((8 + ((b.body).length) + 4) % 256 : Nat), vB (((8 + ((b.body).length) + 4) / 256) % 256 : Nat), vB 0, vB 0, vB 113, vB 116, vB 1, vB b.kind]).toList) ++ (b.body.map B8) = b.raw.map B8 from qu1 om] at HM
 refine Jb Z HM ((JK (h:=by exact fun HM => qyi _ _ _ b.raw B _ (hL.mem HM hB) (HM.le hB) (HM.rd (i := 0) rfl) (qdc b) om (qu3 hok))) fun A33 c33 w33 hc33 => (Jx∘Jx∘Jp 2∘Jj∘JZ∘JM (.t (.f .n))) fun a Z HM => ?_)
 have herr : b.err = 0 := by unfold Bk.err; rw [if_neg (by simp [hfit]), if_neg om]
 have herr : b.err = 0 := by unfold Bk.err; rw [if_neg (by simp [hfit]), if_neg om]
 exact s_rt2 rfl Z rfl rfl ((by rw [herr, qz5 herr]; exact ⟨⟨_, _, rfl, HM.own (i := 0) rfl, hc33⟩, HM.below⟩))
theorem qru (b : Bk) (hok : b.Ok) (A : Option Addr) (c B : Nat) (w : World) (hL : LaidX B w) (hB : B ≤ w.heap.size) (hr : Rd w w.heap.size 11 A b.evs.length (b.evs.flatMap evL)) (hn : b.evs.length ≤ 1000000) :
    Calls Tryz.prog 51 #[.agg (b.cells A c)] w (Is w (vI (b.err : Int))) := by
 refine (JN1 Tryz.func51 11) ?_
 exact (JP∘JE) fun w1 g1 => (Jp 1∘Jr∘Jy (v := .agg (b.cells A c)) (h:=by exact Yl.qr rfl rfl si_bk rfl (fun _ h => qb (h.blk (i := 0) rfl)))∘JK (h:=by exact fun HM => qkb b hok A c B _ (hL.mem HM hB) (HM.le hB) (HM.old hr) hn)) fun A7 c7 w7 hc7 => (Jp 1∘Jx∘Jx∘Jp 2∘Jd6∘Jr∘Jp 2∘Jd2∘Jj∘JZ) JY1
theorem qdd (W w : World) (gb gk : Nat) (A : Option Addr) (n c : Nat) (l : List Nat) (okb : Bool) (most : Nat) (fr : List Fact) (hl : ∀ b ∈ l, b < 256) (hln : n = l.length) (hn : n ≤ 1000000000) (hr0 : Rd W W.heap.size 1 A n (l.map B8)) (hc0 : n ≤ c) (hmost : most ≤ 281474976710657)
    (HM : Mem W w (.blk gb #[.slice A n c] 22 :: .blk gk #[.bool okb] 4 :: fr)) :
    Calls Tryz.prog 87 #[vI most, vP gb 0, vP gk 0] w (qz6 W gb gk l okb most fr) := by
 have hr : Rd W W.heap.size 1 A l.length (l.map B8) := hln ▸ hr0
 have hc : l.length ≤ c := hln ▸ hc0
 refine s_ce Tryz.func87 [vI most, vP gb 0, vP gk 0] [(0, vI most), (1, vP gb 0), (2, vP gk 0)] fun a Z => ?_
 refine Jb Z HM ((JP∘Jp 1∘Jq) fun a Z HM => ?_)
 have hvl := qaz l
 have hvb := qdh l hl
 have htv := qdt most l
 refine Jb Z HM ((JG∘JP∘Jc O0∘JL (h:=by exact fun HM => qpy A n c l _ (hln ▸ HM.old hr) hl om)) ?_)
 rintro HM _ w10 ⟨rfl, hbw⟩
 refine ⟨_, rfl, _, HM.call hbw, ?_⟩
 refine (Jp 1∘Jx∘Jx∘Jx∘Jp 3∘Jr∘Jc O1∘Jp 1) (Ju (fun hb15 => ?_) fun hb15 => ?_)
 ·
  refine (Jp 4) (Je (fun hd19 => ?_) fun hd19 => ?_)
  ·
   refine (Jp 2∘Jw .u64∘Jp 2∘JW O1' O0') fun w2_11 => (Jt6∘Jr∘Jc O0∘Jp 1∘Jy (v := .slice (if c = ((vread l).2.1) then A else A.map (·.add (((vread l).2.1) * 1))) (n - ((vread l).2.1)) (c - ((vread l).2.1))) (h:=by exact Yl.sliceFrom ei_u8 (j := ((vread l).2.1)) rfl rfl rfl om)∘JW O0' O0') fun w3_3 => (Jt6∘Jr∘Jp 2∘Jw .u64∘Jy (v := vQ (if (most : Int) < ((vread l).1 : Int) then (most : Int) else ((vread l).1 : Int))) (h:=by exact Yl.min rfl rfl rfl)∘Jo (vQ (tkVal most l)) (by rw [qiw])∘Jw .i64∘Jp 1∘Jd6∘Jj∘JZ) fun a Z HM => ?_
   replace HM := HM.pt (fs' := (.blk gb #[.slice (if c = ((vread l).2.1) then A else A.map (·.add (((vread l).2.1) * 1))) (n - ((vread l).2.1)) (c - ((vread l).2.1))] 22 :: .blk gk #[.bool (decide (((vread l).1 : Int) ≤ (most : Int)))] 4 :: fr)) 2 [0, 1]
   replace HM := HM.pt (fs' := (.blk gb #[.slice (if c = ((vread l).2.1) then A else A.map (·.add (((vread l).2.1) * 1))) (n - ((vread l).2.1)) (c - ((vread l).2.1))] 22 :: .blk gk #[.bool (decide (((vread l).1 : Int) ≤ (most : Int)))] 4 :: fr)) 2 [0, 1]
   exact s_rt1 rfl Z rfl (qix hr hc (by rw [hb15, Bool.true_and]; unfold tkOk; rw [Bool.eq_iff_iff]; simp only [decide_eq_true_eq]; omega) hln HM)
  refine (Jp 5∘JW O1' O0') fun w2_11 => (Jt6∘Jr∘Jc O0∘Jp 1∘Jy (v := .slice (if c = ((vread l).2.1) then A else A.map (·.add (((vread l).2.1) * 1))) (n - ((vread l).2.1)) (c - ((vread l).2.1))) (h:=by exact Yl.sliceFrom ei_u8 (j := ((vread l).2.1)) rfl rfl rfl om)∘JW O0' O0') fun w3_3 => (Jt6∘Jr∘Jp 2∘Jw .u64∘Jy (v := vQ (if (most : Int) < ((vread l).1 : Int) then (most : Int) else ((vread l).1 : Int))) (h:=by exact Yl.min rfl rfl rfl)∘Jo (vQ (tkVal most l)) (by rw [qiw])∘Jw .i64∘Jp 1∘Jd6∘Jj∘JZ) fun a Z HM => ?_
  replace HM := HM.pt (fs' := (.blk gb #[.slice (if c = ((vread l).2.1) then A else A.map (·.add (((vread l).2.1) * 1))) (n - ((vread l).2.1)) (c - ((vread l).2.1))] 22 :: .blk gk #[.bool false] 4 :: fr)) 2 [0, 1]
  replace HM := HM.pt (fs' := (.blk gb #[.slice (if c = ((vread l).2.1) then A else A.map (·.add (((vread l).2.1) * 1))) (n - ((vread l).2.1)) (c - ((vread l).2.1))] 22 :: .blk gk #[.bool false] 4 :: fr)) 2 [0, 1]
  exact s_rt1 rfl Z rfl (qix hr hc (by rw [qrt om, Bool.and_false]) hln HM)
 refine (Jv 9 [(24, .bool false)]∘JW O1' O0') fun w2_11 => (Jt4∘Jr∘Jc O0∘Jp 1∘Jy (v := .slice (if c = ((vread l).2.1) then A else A.map (·.add (((vread l).2.1) * 1))) (n - ((vread l).2.1)) (c - ((vread l).2.1))) (h:=by exact Yl.sliceFrom ei_u8 (j := ((vread l).2.1)) rfl rfl rfl om)∘JW O0' O0') fun w3_3 => (Jt4∘Jr∘Jp 2∘Jw .u64∘Jy (v := vQ (if (most : Int) < ((vread l).1 : Int) then (most : Int) else ((vread l).1 : Int))) (h:=by exact Yl.min rfl rfl rfl)∘Jo (vQ (tkVal most l)) (by rw [qiw])∘Jw .i64∘Jp 1∘Jd5∘Jj∘JZ) fun a Z HM => ?_
 replace HM := HM.pt (fs' := (.blk gb #[.slice (if c = ((vread l).2.1) then A else A.map (·.add (((vread l).2.1) * 1))) (n - ((vread l).2.1)) (c - ((vread l).2.1))] 22 :: .blk gk #[.bool false] 4 :: fr)) 2 [0, 1]
 replace HM := HM.pt (fs' := (.blk gb #[.slice (if c = ((vread l).2.1) then A else A.map (·.add (((vread l).2.1) * 1))) (n - ((vread l).2.1)) (c - ((vread l).2.1))] 22 :: .blk gk #[.bool false] 4 :: fr)) 2 [0, 1]
 exact s_rt1 rfl Z rfl (qix hr hc (by rw [hb15, Bool.false_and]) hln HM)
theorem qlk {l : List Nat} {es : List Ev} {L er : Nat} (h3 : qcv l = true) (h0 : 0 < tkVal 4096 (qa (qa l)))
  (hq : readR ⟨(tkVal 281474976710656 (qa (qa (qa l))) : Int), (tkVal 281474976710656 (qa (qa (qa (qa l)))) : Int)⟩ (tkVal 63 l) (tkVal 4096 (qa (qa l)) : Int) (qa (qa (qa (qa (qa l))))) = (es, L, er)) (her : er = 0) :
  zf l = qab (tkVal 63 l) (tkVal 281474976710656 (qa l)) (qa (qa (qa l))) (es, L, 0) := by
 rw [qgb h3 h0 hq, her]
theorem qb3 (k : Nat) (hk : k = 1 ∨ k = 2) (A : Option Addr) (n c : Nat) (l : List Nat) (B : Nat) (w : World) (hL : LaidX B w) (hB : B ≤ w.heap.size) (hr : Rd w w.heap.size 1 A n (l.map B8)) (hc : n ≤ c) (hln : n = l.length) (hn : n ≤ 100000000) (hl : ∀ b ∈ l, b < 256) :
    Calls Tryz.prog 70 #[vB k, .slice A n c] w (qfk w (qda k l)) := by
 refine (JN2 Tryz.func70 99) ?_
 refine (JP∘Je1) fun w3 g3 => (JA #[vB 0, vB 0, vI 0, vI 0, vN]) fun w4 g4 => (Jp 1∘Jr∘JA #[.bool false]) fun w6 g6 => (JW O0' O0') fun w1_1 => (Jr∘Jy (v := .func (.func 87) #[] #[vP g3 0, vP g6 0]) (h:=by exact Yl.makeFunc (fst := []) (caps := [vP g3 0, vP g6 0]) rfl rfl rfl)∘Jp 1∘Jd1∘Jr∘Jp 1∘Jy (v := .agg #[vB k, vB 0, vI 0, vI 0, vN]) (h:=by exact Yl.build (vs := [(0, vB k)]) rfl kr kr)∘JA #[vB 0, vB 0, vI 0, vI 0, vN]) fun w8 g8 => (JV si_bk O0') fun w3_3 => (Jd2∘Jj∘JQ∘JP∘Jp 2∘Jd1∘Jj) (Ju (fun hb18 => ?_) fun hb18 => ?_)
 ·
  intro a Z HM
  have hd18 := eq_of_beq hb18
  revert HM; revert a; repeat (first | clear Z | clear HM)
  intro a Z HM
  obtain rfl : k = 2 := by omega
  refine Jb Z HM ((JT∘JP∘Jp 1) fun a Z HM => ?_)
  refine fo Z 1 rfl rfl ?_
  replace HM := HM.pk (fs' := [.blk g3 #[.slice A n c] 22, .blk g6 #[.bool true] 4, .blk g8 #[vB (2 : Nat), vB 0, vI 0, vI 0, vN] 60, .blk g4 #[vB 0, vB 0, vI 0, vI 0, vN] 60]) [3, 1, 0, 2]
  have hl1 := zi hl
  refine qcy Z (f := 87) (vs := [vI 281474976710657]) (fst := []) (caps := [vP g3 0, vP g6 0]) rfl rfl rfl kr rfl de (qdd w _ g3 g6 A n c l true 281474976710657 [.blk g8 #[vB (2 : Nat), vB 0, vI 0, vI 0, vN] 60, .blk g4 #[vB 0, vB 0, vI 0, vI 0, vN] 60] hl hln om hr hc om HM) ?_
  rintro _ w20 ⟨rfl, Aq1, cq1, hr1, hc1, hm⟩
  refine ⟨_, rfl, ?_⟩
  replace HM := hm
  clear Z; intro a Z
  have ht0 := qdt 281474976710657 l
  have hs0 := qcq l
  refine Jb Z HM ((Jf 3∘JW O2' O3') fun w5_3 => (Jt3∘Jj) fun a Z HM => ?_)
  refine zk (fun aS wS => Fr aS 99 [] [(5, .bool ((qav l).isSome)), (18, .bool true), (8, vP g8 0), (7, .func (.func 87) #[] #[vP g3 0, vP g6 0]), (6, vP g6 0), (4, vP g4 0), (3, vP g3 0), (0, vB (2 : Nat))] ∧ Mem w wS [.blk g3 #[.slice Aq1 ((qa l).length) cq1] 22, .blk g6 #[.bool (true && tkOk 281474976710657 l)] 4, .blk g8 #[vB (2 : Nat), vB 0, vI 0, vI (tkVal 281474976710657 l), vN] 60, .blk g4 #[vB (2 : Nat), vB 0, vI 0, vI (tkVal 281474976710657 l), vN] 60]) ?_ ?_
  ·
   refine Jb Z HM ((Vs (.t (.t (.t (.f .n)))) []) fun wd6 => (Vy 0 (v := .agg #[vB (2 : Nat), vB 0, vI 0, vI (tkVal 281474976710657 l), vN]) (h:=by exact Yl.qr rfl rfl si_bk rfl (fun _ h => qb (h.blk (i := 2) rfl)))∘Vc 1 O1∘Vp [2]) fun a Z HM HS => ?_)
   rcases Z.tf 24 rfl with ⟨hb24, Z⟩ | ⟨hb24, Z⟩
   ·
    refine Vb Z HM HS ((Vc 3 O0∘Vl 4∘Vp [5, 6, 7]) fun a Z HM HS => ?_)
    rcases Z.tf 29 rfl with ⟨hb29, Z⟩ | ⟨hb29, Z⟩
    ·
     have hd29 := eq_of_beq hb29
     refine Vb Z HM HS ((Vy 8 (v := .agg #[vB (2 : Nat), vB 0, vI 0, vI (tkVal 281474976710657 l), vN]) (h:=by exact Yl.qr rfl rfl si_bk rfl (fun _ h => qb (h.blk (i := 2) rfl)))∘VI 9 (.t (.t (.t (.f .n)))) (h:=by exact fun HM => qey ⟨2, 0, 0, (tkVal 281474976710657 l : Int), []⟩ (endOk ht0) none 0 B _ (hL.mem HM hB) (HM.le hB) Rd.nil (by show 0 ≤ _; omega))) fun w31 hbw => (Vp [10]) fun a Z HM HS => ?_)
     refine s_on Z 11 rfl (e_sa Z HM 3 rfl rfl rfl rfl rfl si_bk rfl rfl (by simp [Value.oneCell']) fun w6_11 HM => ?_)
     refine keepS (HM.pk [0, 1, 2]) (fun HS => ?_)
     refine Vb Z HM HS ((Vp [12]∘Vd∘Jd6) fun a Z HM => ?_)
     have Z := Z.sp 5 (.bool ((qav l).isSome)) rfl (congrArg Value.bool (by rw [qfl, show tkOk 281474976710657 l = true by simpa using hb24, decide_eq_true om, Bool.true_and, Bool.true_and]))
     exact ⟨Z.sub kr, HM.pk [0, 1, 2, 3]⟩
    have hd29 := ne_of_beq_false hb29
    refine ap Z (fun _ => HS) [8, 9, 10] (bt 13 [11, 12]) [(32, .bool false)] fun a Z => ?_
    refine s_on Z 11 rfl (e_sa Z HM 3 rfl rfl rfl rfl rfl si_bk rfl rfl (by simp [Value.oneCell']) fun w6_11 HM => ?_)
    refine keepS (HM.pk [0, 1, 2]) (fun HS => ?_)
    refine ap Z (fun _ => HS) [12] (bt 13 []) [(5, .bool false)] fun a Z => ?_
    refine qh kr ?_
    have Z := Z.sp 5 (.bool ((qav l).isSome)) rfl (congrArg Value.bool (by rw [qfl, decide_eq_false om, Bool.false_and, Bool.and_false]))
    exact ⟨Z.sub kr, HM.pk [0, 1, 2, 3]⟩
   refine ap Z (fun _ => HS) [3, 4, 5, 6, 7, 8, 9, 10] (bt 13 [11, 12]) [(32, .bool false)] fun a Z => ?_
   refine s_on Z 11 rfl (e_sa Z HM 3 rfl rfl rfl rfl rfl si_bk rfl rfl (by simp [Value.oneCell']) fun w6_11 HM => ?_)
   refine keepS (HM.pk [0, 1, 2]) (fun HS => ?_)
   refine ap Z (fun _ => HS) [12] (bt 13 []) [(5, .bool false)] fun a Z => ?_
   refine qh kr ?_
   have Z := Z.sp 5 (.bool ((qav l).isSome)) rfl (congrArg Value.bool (by rw [qfl, show tkOk 281474976710657 l = false by simpa using hb24]; rfl))
   exact ⟨Z.sub kr, HM.pk [0, 1, 2, 3]⟩
  clear Z HM; rintro a w6 ⟨Z, HM⟩
  refine Jb Z HM ((JZ) (Ju (fun hb5 => ?_) fun hb5 => ?_))
  ·
   intro a Z HM
   have hfin := hb5
   exact ret2 rfl Z (.cellS (i := 3) Z HM rfl rfl si_bk rfl) (.tmp Z rfl) (qcx (b := ⟨2, 0, 0, (tkVal 281474976710657 l : Int), []⟩) (A := none) (c := 0) (by rw [qj8]; exact qm5 hfin) (World.ownsRow_nil _ _ _ _) (Nat.le_refl _) HM.below)
  intro a Z HM
  have hfin := hb5
  exact ret2 rfl Z (.cellS (i := 3) Z HM rfl rfl si_bk rfl) (.tmp Z rfl) (qb2 (by rw [qj8]; exact Option.not_isSome_iff_eq_none.1 (by rw [hfin]; decide)) rfl (by simp [Value.oneCell']) HM.below)
 intro a Z HM
 have hd18 := ne_of_beq_false hb18
 revert HM; revert a; repeat (first | clear Z | clear HM)
 intro a Z HM
 obtain rfl : k = 1 := by omega
 refine Jb Z HM ((JF∘JS'∘JP∘Jp 1) fun a Z HM => ?_)
 refine fo Z 1 rfl rfl ?_
 replace HM := HM.pk (fs' := [.blk g3 #[.slice A n c] 22, .blk g6 #[.bool true] 4, .blk g8 #[vB (1 : Nat), vB 0, vI 0, vI 0, vN] 60, .blk g4 #[vB 0, vB 0, vI 0, vI 0, vN] 60]) [3, 1, 0, 2]
 have hl1 := zi hl
 refine qcy Z (f := 87) (vs := [vI 63]) (fst := []) (caps := [vP g3 0, vP g6 0]) rfl rfl rfl kr rfl de (qdd w _ g3 g6 A n c l true 63 [.blk g8 #[vB (1 : Nat), vB 0, vI 0, vI 0, vN] 60, .blk g4 #[vB 0, vB 0, vI 0, vI 0, vN] 60] hl hln om hr hc om HM) ?_
 rintro _ w34 ⟨rfl, Aq1, cq1, hr1, hc1, hm⟩
 refine ⟨_, rfl, ?_⟩
 replace HM := hm
 clear Z; intro a Z
 have ht0 := qdt 63 l
 have hs0 := qcq l
 refine Jb Z HM ((Jv 1 [(35, vB (IntKind.u8.wrap (tkVal 63 l : Int)))]∘Jo (vB (tkVal 63 l)) (by exact q2e rfl om)∘Jp 1) fun a Z HM => ?_)
 refine fo Z 4 rfl rfl ?_
 replace HM := HM.pk (fs' := [.blk g3 #[.slice Aq1 ((qa l).length) cq1] 22, .blk g6 #[.bool (true && tkOk 63 l)] 4, .blk g8 #[vB (1 : Nat), vB 0, vI 0, vI 0, vN] 60, .blk g4 #[vB 0, vB 0, vI 0, vI 0, vN] 60]) [0, 1, 2, 3]
 have hl2 := zi hl1
 refine qcy Z (f := 87) (vs := [vI 281474976710656]) (fst := []) (caps := [vP g3 0, vP g6 0]) rfl rfl rfl kr rfl de (qdd w _ g3 g6 Aq1 ((qa l).length) cq1 (qa l) (true && tkOk 63 l) 281474976710656 [.blk g8 #[vB (1 : Nat), vB 0, vI 0, vI 0, vN] 60, .blk g4 #[vB 0, vB 0, vI 0, vI 0, vN] 60] hl1 rfl om hr1 hc1 om HM) ?_
 rintro _ w37 ⟨rfl, Aq2, cq2, hr2, hc2, hm⟩
 refine ⟨_, rfl, ?_⟩
 replace HM := hm
 clear Z; intro a Z
 have ht1 := qdt 281474976710656 (qa l)
 have hs1 := qcq (qa l)
 refine Jb Z HM ((Jf 1∘JW O2' O1') fun w7_6 => (Jf 2∘JW O2' O2') fun w7_8 => (Jt6∘Jr∘Jp 1) fun a Z HM => ?_)
 refine fo Z 1 rfl rfl ?_
 replace HM := HM.pk (fs' := [.blk g3 #[.slice Aq2 ((qa (qa l)).length) cq2] 22, .blk g6 #[.bool ((true && tkOk 63 l) && tkOk 281474976710656 (qa l))] 4, .blk g8 #[vB (1 : Nat), vB (tkVal 63 l), vI (tkVal 281474976710656 (qa l)), vI 0, vN] 60, .blk g4 #[vB 0, vB 0, vI 0, vI 0, vN] 60]) [0, 1, 2, 3]
 have hl3 := zi hl2
 refine qcy Z (f := 87) (vs := [vI 4096]) (fst := []) (caps := [vP g3 0, vP g6 0]) rfl rfl rfl kr rfl de (qdd w _ g3 g6 Aq2 ((qa (qa l)).length) cq2 (qa (qa l)) ((true && tkOk 63 l) && tkOk 281474976710656 (qa l)) 4096 [.blk g8 #[vB (1 : Nat), vB (tkVal 63 l), vI (tkVal 281474976710656 (qa l)), vI 0, vN] 60, .blk g4 #[vB 0, vB 0, vI 0, vI 0, vN] 60] hl2 rfl om hr2 hc2 om HM) ?_
 rintro _ w41 ⟨rfl, Aq3, cq3, hr3, hc3, hm⟩
 refine ⟨_, rfl, ?_⟩
 replace HM := hm
 clear Z; intro a Z
 have ht2 := qdt 4096 (qa (qa l))
 have hs2 := qcq (qa (qa l))
 refine Jb Z HM ((Jp 1∘Jd3∘Jj∘JQ∘JP∘Jc O1∘Jp 1) (Ju (fun hb43 => ?_) fun hb43 => ?_))
 ·
  intro a Z HM
  have h3 : qcv l = true := by rw [← tk3]; exact hb43
  refine Jb Z HM ((Jp 3∘Jd4∘Jj) (Ji (fun hd46 => ?_) fun hd46 => ?_))
  ·
   refine (JT∘JP∘Jp 1) fun a Z HM => ?_
   refine fo Z 1 rfl rfl ?_
   replace HM := HM.pk (fs' := [.blk g3 #[.slice Aq3 ((qa (qa (qa l))).length) cq3] 22, .blk g6 #[.bool (((true && tkOk 63 l) && tkOk 281474976710656 (qa l)) && tkOk 4096 (qa (qa l)))] 4, .blk g8 #[vB (1 : Nat), vB (tkVal 63 l), vI (tkVal 281474976710656 (qa l)), vI 0, vN] 60, .blk g4 #[vB 0, vB 0, vI 0, vI 0, vN] 60]) [0, 1, 2, 3]
   have hl4 := zi hl3
   refine qcy Z (f := 87) (vs := [vI 281474976710656]) (fst := []) (caps := [vP g3 0, vP g6 0]) rfl rfl rfl kr rfl de (qdd w _ g3 g6 Aq3 ((qa (qa (qa l))).length) cq3 (qa (qa (qa l))) (((true && tkOk 63 l) && tkOk 281474976710656 (qa l)) && tkOk 4096 (qa (qa l))) 281474976710656 [.blk g8 #[vB (1 : Nat), vB (tkVal 63 l), vI (tkVal 281474976710656 (qa l)), vI 0, vN] 60, .blk g4 #[vB 0, vB 0, vI 0, vI 0, vN] 60] hl3 rfl om hr3 hc3 om HM) ?_
   rintro _ w48 ⟨rfl, Aq4, cq4, hr4, hc4, hm⟩
   refine ⟨_, rfl, ?_⟩
   replace HM := hm
   clear Z; intro a Z
   have ht3 := qdt 281474976710656 (qa (qa (qa l)))
   have hs3 := qcq (qa (qa (qa l)))
   refine Jb Z HM ((Jp 1) fun a Z HM => ?_)
   refine fo Z 3 rfl rfl ?_
   replace HM := HM.pk (fs' := [.blk g3 #[.slice Aq4 ((qa (qa (qa (qa l)))).length) cq4] 22, .blk g6 #[.bool ((((true && tkOk 63 l) && tkOk 281474976710656 (qa l)) && tkOk 4096 (qa (qa l))) && tkOk 281474976710656 (qa (qa (qa l))))] 4, .blk g8 #[vB (1 : Nat), vB (tkVal 63 l), vI (tkVal 281474976710656 (qa l)), vI 0, vN] 60, .blk g4 #[vB 0, vB 0, vI 0, vI 0, vN] 60]) [0, 1, 2, 3]
   have hl5 := zi hl4
   refine qcy Z (f := 87) (vs := [vI 281474976710656]) (fst := []) (caps := [vP g3 0, vP g6 0]) rfl rfl rfl kr rfl de (qdd w _ g3 g6 Aq4 ((qa (qa (qa (qa l)))).length) cq4 (qa (qa (qa (qa l)))) ((((true && tkOk 63 l) && tkOk 281474976710656 (qa l)) && tkOk 4096 (qa (qa l))) && tkOk 281474976710656 (qa (qa (qa l)))) 281474976710656 [.blk g8 #[vB (1 : Nat), vB (tkVal 63 l), vI (tkVal 281474976710656 (qa l)), vI 0, vN] 60, .blk g4 #[vB 0, vB 0, vI 0, vI 0, vN] 60] hl4 rfl om hr4 hc4 om HM) ?_
   rintro _ w50 ⟨rfl, Aq5, cq5, hr5, hc5, hm⟩
   refine ⟨_, rfl, ?_⟩
   replace HM := hm
   clear Z; intro a Z
   have ht4 := qdt 281474976710656 (qa (qa (qa (qa l))))
   have hs4 := qcq (qa (qa (qa (qa l))))
   refine Jb Z HM ((Jy (v := .agg #[vI (tkVal 281474976710656 (qa (qa (qa l)))), vI (tkVal 281474976710656 (qa (qa (qa (qa l)))))]) (h:=by exact Yl.build (vs := [(0, vI (tkVal 281474976710656 (qa (qa (qa l))))), (1, vI (tkVal 281474976710656 (qa (qa (qa (qa l))))))]) rfl kr kr)∘JA #[vI 0, vI 0]) fun w10 g10 => (JV ⟨kr, kr⟩ O0') fun w10_6 => (Jd5∘Jq) fun a Z HM => ?_)
   obtain ⟨es, L, er, hq⟩ : ∃ es L er, readR ⟨(tkVal 281474976710656 (qa (qa (qa l))) : Int), (tkVal 281474976710656 (qa (qa (qa (qa l)))) : Int)⟩ (tkVal 63 l) (tkVal 4096 (qa (qa l)) : Int) (qa (qa (qa (qa (qa l))))) = (es, L, er) := ⟨_, _, _, rfl⟩
   refine Jb Z HM ((JG∘JP∘Jy (v := .agg #[vI (tkVal 281474976710656 (qa (qa (qa l)))), vI (tkVal 281474976710656 (qa (qa (qa (qa l)))))]) (h:=by exact Yl.qr rfl rfl ⟨kr, kr⟩ rfl (fun _ h => qb (h.blk (i := 0) rfl)))∘Jg 1 O3∘Jp 1∘Jc O1∘JK (h:=by exact fun HM => q02 ⟨(tkVal 281474976710656 (qa (qa (qa l))) : Int), (tkVal 281474976710656 (qa (qa (qa (qa l)))) : Int)⟩ (tkVal 63 l) om Aq5 ((qa (qa (qa (qa (qa l))))).length) cq5 (tkVal 4096 (qa (qa l)) : Int) (by unfold I64; omega) (qa (qa (qa (qa (qa l))))) B _ (hL.mem HM hB).laid (HM.le hB) (HM.old hr5) hc5 hl5 om (.inl om) hq)) fun A58 c58 w58 hc58 => (Jp 1∘Jx∘Jx∘Jx∘Jp 3∘Jj∘JQ) fun a Z HM => ?_)
   refine zk (fun aS wS => Fr aS 99 [] [(81, .bool (!(decide (er = 0 ∧ (es.getD 0 Ev.zero).seq = (tkVal 281474976710656 (qa (qa (qa l))) : Int) ∧ (es.getD 0 Ev.zero).time = (tkVal 281474976710656 (qa (qa (qa (qa l)))) : Int))))), (12, vI L), (11, .slice A58 es.length c58), (10, vP g10 0), (46, .bool true), (9, vI (tkVal 4096 (qa (qa l)))), (18, .bool false), (8, vP g8 0), (7, .func (.func 87) #[] #[vP g3 0, vP g6 0]), (6, vP g6 0), (5, .bool false), (4, vP g4 0), (3, vP g3 0), (0, vB (1 : Nat))] ∧ Mem w wS [.row (.slice A58 es.length c58) es.length (es.flatMap evL) 35 11, .blk g10 #[vI (tkVal 281474976710656 (qa (qa (qa l)))), vI (tkVal 281474976710656 (qa (qa (qa (qa l)))))] 140, .blk g3 #[.slice Aq5 ((qa (qa (qa (qa (qa l))))).length) cq5] 22, .blk g6 #[.bool (((((true && tkOk 63 l) && tkOk 281474976710656 (qa l)) && tkOk 4096 (qa (qa l))) && tkOk 281474976710656 (qa (qa (qa l)))) && tkOk 281474976710656 (qa (qa (qa (qa l)))))] 4, .blk g8 #[vB (1 : Nat), vB (tkVal 63 l), vI (tkVal 281474976710656 (qa l)), vI 0, vN] 60, .blk g4 #[vB 0, vB 0, vI 0, vI 0, vN] 60]) ?_ ?_
   ·
    refine Jb Z HM ((Vs .n []) fun wd12 => (Vp [0, 1, 2]) fun a Z HM HS => ?_)
    rcases Z.tf 64 rfl with ⟨hb64, Z⟩ | ⟨hb64, Z⟩
    ·
     have hd64 := bne_iff_ne.1 hb64
     refine Vb Z HM HS ((Vq [3, 4, 5, 6, 7, 8, 9, 10, 11, 12, 13, 14, 15, 16, 17, 18, 19] [(81, .bool true)]∘Vd∘Jd5) fun a Z HM => ?_)
     have Z := Z.sp 81 (.bool (!(decide (er = 0 ∧ (es.getD 0 Ev.zero).seq = (tkVal 281474976710656 (qa (qa (qa l))) : Int) ∧ (es.getD 0 Ev.zero).time = (tkVal 281474976710656 (qa (qa (qa (qa l)))) : Int))))) rfl (congrArg Value.bool (by rw [decide_eq_false om]; rfl))
     exact ⟨Z.sub kr, HM.pk [0, 1, 2, 3, 4, 5]⟩
    have hd64 := bne_eq_false_iff_eq.1 hb64
    have her : er = 0 := by omega
    have hq0 := hq; rw [her] at hq0; obtain ⟨rw1, rw2, rw3, rw4, rw5⟩ := qew (cpu := tkVal 63 l) om hl5 hq0
    refine ap Z (fun _ => HS) [3, 7] (bf 20 [0, 1, 2, 3, 7]) [(69, vP g10 0), (65, .slice A58 es.length c58)] fun a Z => ?_
    revert HM; revert a; repeat (first | clear Z | clear HM)
    intro a Z HM
    obtain ⟨gA58, rfl⟩ := qaf (HM.own (i := 0) rfl) (Nat.lt_of_le_of_lt (Nat.zero_le _) (show 0 < es.length from by omega))
    refine s_az Z HS 4 rfl (v := vP gA58 0) (Yl.indexAddr (ad := ⟨gA58, 0, none⟩) (y := 0) (sz := 11) rfl rfl rfl om kr) fun a Z => ?_
    refine ap Z (fun _ => HS) [5] (bf 20 [0, 1, 2, 3, 4, 5, 7]) [(67, vP gA58 0)] fun a Z => ?_
    refine s_az Z HS 6 rfl (v := vI ((es.getD 0 Ev.zero).seq)) (Yl.qx rfl rfl kr (fun _ h => (by have := h.qfu qw (i := 0) rfl (k := 0) (off := 0) (x := (es.getD 0 Ev.zero)) ((getD_at Ev.zero (k := 0) (by first | omega | (simp; omega)))) rfl; simpa using this))) fun a Z => ?_
    refine s_ac Z HS 8 1 fun a Z => ?_
    refine ap Z (fun _ => HS) [9, 10, 11] (bt 20 [12, 13, 14, 15, 16, 17, 18, 19]) [(73, .bool (((es.getD 0 Ev.zero).seq : Int) != (tkVal 281474976710656 (qa (qa (qa l))) : Int)))] fun a Z => ?_
    refine Jb Z HM (Jh (fun hd73 => ?_) fun hd73 => ?_)
    ·
     intro a Z HM
     refine ap Z (fun _ => HS) [12, 13, 14, 15, 16, 17, 18, 19] (bt 20 []) [(81, .bool true)] fun a Z => ?_
     refine qh kr ?_
     have Z := Z.sp 81 (.bool (!(decide (er = 0 ∧ (es.getD 0 Ev.zero).seq = (tkVal 281474976710656 (qa (qa (qa l))) : Int) ∧ (es.getD 0 Ev.zero).time = (tkVal 281474976710656 (qa (qa (qa (qa l)))) : Int))))) rfl (congrArg Value.bool (by rw [decide_eq_false om]; rfl))
     exact ⟨Z.sub kr, HM.pk [0, 1, 2, 3, 4, 5]⟩
    intro a Z HM
    refine ap Z (fun _ => HS) [12, 16] (bt 20 [13, 14, 15, 17, 18, 19]) [(78, vP g10 1), (74, vS gA58 es.length c58)] fun a Z => ?_
    refine s_az Z HS 13 rfl (v := vP gA58 0) (Yl.indexAddr (ad := ⟨gA58, 0, none⟩) (y := 0) (sz := 11) rfl rfl rfl om kr) fun a Z => ?_
    refine ap Z (fun _ => HS) [14] (bt 20 [15, 17, 18, 19]) [(76, vP gA58 1)] fun a Z => ?_
    refine s_az Z HS 15 rfl (v := vI ((es.getD 0 Ev.zero).time)) (Yl.qx rfl rfl kr (fun _ h => h.qfu qw (i := 0) rfl (k := 0) (off := 1) (x := (es.getD 0 Ev.zero)) ((getD_at Ev.zero (k := 0) (by first | omega | (simp; omega)))) rfl)) fun a Z => ?_
    refine s_ac Z HS 17 1 fun a Z => ?_
    refine ap Z (fun _ => HS) [18, 19] (bt 20 []) [(81, .bool (((es.getD 0 Ev.zero).time : Int) != (tkVal 281474976710656 (qa (qa (qa (qa l)))) : Int)))] fun a Z => ?_
    refine qh kr ?_
    have Z := Z.sp 81 (.bool (!(decide (er = 0 ∧ (es.getD 0 Ev.zero).seq = (tkVal 281474976710656 (qa (qa (qa l))) : Int) ∧ (es.getD 0 Ev.zero).time = (tkVal 281474976710656 (qa (qa (qa (qa l)))) : Int))))) rfl (congrArg Value.bool (by rw [Bool.eq_iff_iff, bne_iff_ne, Bool.not_eq_true', decide_eq_false_iff_not]; omega))
    exact ⟨Z.sub kr, HM.pk [0, 1, 2, 3, 4, 5]⟩
   clear Z HM; rintro a w12 ⟨Z, HM⟩
   refine Jb Z HM (Ju (fun hb81 => ?_) fun hb81 => ?_)
   ·
    intro a Z HM
    have hd81 := of_decide_eq_false ((Bool.not_eq_true' _).mp hb81)
    have hz : ¬ (er = 0 ∧ (es.getD 0 Ev.zero).seq = (tkVal 281474976710656 (qa (qa (qa l))) : Int) ∧ (es.getD 0 Ev.zero).time = (tkVal 281474976710656 (qa (qa (qa (qa l)))) : Int)) := fun hh => by rw [decide_eq_true hh] at hb81; cases hb81
    refine Jb Z HM ((JT∘JP∘Jy (v := .agg #[vB 0, vB 0, vI 0, vI 0, vN]) (h:=by exact Yl.build (vs := []) rfl kr kr)∘JV si_bk O5') fun w13_1 => (Jp 1∘Jd1∘Jj∘JZ) fun a Z HM => ?_)
    exact ret2 rfl Z (.cellS (i := 5) Z HM rfl rfl si_bk rfl) (.tmp Z rfl) (qb2 (by rw [qbs, qgb h3 om hq]; exact qfc (fun hh => hz ⟨hh.1, hh.2.1, hh.2.2.1⟩)) rfl (by simp [Value.oneCell']) HM.below)
   intro a Z HM
   have hd81 := of_decide_eq_true ((Bool.not_eq_false' _).mp hb81)
   have hz : er = 0 ∧ (es.getD 0 Ev.zero).seq = (tkVal 281474976710656 (qa (qa (qa l))) : Int) ∧ (es.getD 0 Ev.zero).time = (tkVal 281474976710656 (qa (qa (qa (qa l)))) : Int) := Decidable.byContradiction fun hh => by rw [decide_eq_false hh] at hb81; cases hb81
   have her := hz.1
   have hq0 := hq; rw [her] at hq0; obtain ⟨rw1, rw2, rw3, rw4, rw5⟩ := qew (cpu := tkVal 63 l) om hl5 hq0
   refine Jb Z HM ((JF∘JS'∘Vs (.t (.t (.t (.t (.f .n))))) [6]) fun wd14 => (Vp [0, 2]∘Vf 4 4∘Vc 1 O2∘Vy 3 (v := .slice (if cq5 = L then Aq5 else Aq5.map (·.add (L * 1))) (((qa (qa (qa (qa (qa l))))).length) - L) (cq5 - L)) (h:=by exact Yl.sliceFrom ei_u8 (j := L) rfl rfl rfl om)) fun a Z HM HS => ?_)
   refine s_on Z 5 rfl (s_es Z HM 4 fun w14_5 HM => ?_)
   refine keepS (HM.pk [0, 1, 2, 3, 5]) (fun HS => ?_)
   refine s_on Z 6 rfl (s_es Z HM 2 fun w14_6 HM => ?_)
   refine noS kr ?_
   refine qh kr ?_
   refine zk (fun aS wS => Fr aS 99 [] [(5, .bool ((zf l).isSome)), (81, .bool false), (11, .slice A58 es.length c58), (10, vP g10 0), (46, .bool true), (9, vI (tkVal 4096 (qa (qa l)))), (18, .bool false), (8, vP g8 0), (7, .func (.func 87) #[] #[vP g3 0, vP g6 0]), (6, vP g6 0), (4, vP g4 0), (3, vP g3 0), (0, vB (1 : Nat))] ∧ Mem w wS [.row (.slice A58 es.length c58) es.length (es.flatMap evL) 35 11, .blk g10 #[vI (tkVal 281474976710656 (qa (qa (qa l)))), vI (tkVal 281474976710656 (qa (qa (qa (qa l)))))] 140, .blk g3 #[.slice (if cq5 = L then Aq5 else Aq5.map (·.add (L * 1))) (((qa (qa (qa (qa (qa l))))).length) - L) (cq5 - L)] 22, .blk g6 #[.bool (((((true && tkOk 63 l) && tkOk 281474976710656 (qa l)) && tkOk 4096 (qa (qa l))) && tkOk 281474976710656 (qa (qa (qa l)))) && tkOk 281474976710656 (qa (qa (qa (qa l)))))] 4, .blk g8 #[vB (1 : Nat), vB (tkVal 63 l), vI (tkVal 281474976710656 (qa l)), vI 0, .slice A58 es.length c58] 60, .blk g4 #[vB (1 : Nat), vB (tkVal 63 l), vI (tkVal 281474976710656 (qa l)), vI 0, .slice A58 es.length c58] 60]) ?_ ?_
   ·
    refine Jb Z HM ((Vs (.t (.t (.t (.t (.t (.f .n)))))) []) fun wd15 => (Vy 0 (v := .agg #[vB (1 : Nat), vB (tkVal 63 l), vI (tkVal 281474976710656 (qa l)), vI 0, .slice A58 es.length c58]) (h:=by exact Yl.qr rfl rfl si_bk rfl (fun _ h => qb (h.blk (i := 4) rfl)))∘Vc 1 O3∘Vp [2]) fun a Z HM HS => ?_)
    rcases Z.tf 90 rfl with ⟨hb90, Z⟩ | ⟨hb90, Z⟩
    ·
     refine Vb Z HM HS ((Vc 3 O2∘Vl 4∘Vp [5, 6, 7]) fun a Z HM HS => ?_)
     rcases Z.tf 95 rfl with ⟨hb95, Z⟩ | ⟨hb95, Z⟩
     ·
      have hd95 := eq_of_beq hb95
      refine Vb Z HM HS ((Vy 8 (v := .agg #[vB (1 : Nat), vB (tkVal 63 l), vI (tkVal 281474976710656 (qa l)), vI 0, .slice A58 es.length c58]) (h:=by exact Yl.qr rfl rfl si_bk rfl (fun _ h => qb (h.blk (i := 4) rfl)))∘VI 9 (.t (.t (.t (.t (.t (.f .n)))))) (h:=by exact fun HM => qey ⟨1, tkVal 63 l, (tkVal 281474976710656 (qa l) : Int), 0, es⟩ (evsOk om om (fun e he => (rw5 e he).1)) A58 c58 B _ (hL.mem HM hB) (HM.le hB) (HM.rd (i := 0) rfl) (by show es.length ≤ _; omega))) fun w97 hbw => (Vp [10]) fun a Z HM HS => ?_)
      refine s_on Z 11 rfl (e_sa Z HM 5 rfl rfl rfl rfl rfl si_bk rfl rfl (by simp [Value.oneCell']) fun w15_11 HM => ?_)
      refine keepS (HM.pk [0, 1, 2, 3, 4]) (fun HS => ?_)
      refine Vb Z HM HS ((Vp [12]∘Vd∘Jd6) fun a Z HM => ?_)
      have Z := Z.sp 5 (.bool ((zf l).isSome)) rfl (congrArg Value.bool (by rw [qlk h3 om hq her, qoz ⟨hz.2.1, hz.2.2⟩, show (tkOk 281474976710656 (qa (qa (qa l))) && tkOk 281474976710656 (qa (qa (qa (qa l))))) = true by have h9 := hb90; rw [tk5 (l := l), tk3, h3, Bool.true_and] at h9; exact h9, decide_eq_true om, Bool.true_and, Bool.true_and]))
      exact ⟨Z.sub kr, HM.pk [0, 1, 2, 3, 4, 5]⟩
     have hd95 := ne_of_beq_false hb95
     refine ap Z (fun _ => HS) [8, 9, 10] (bt 13 [11, 12]) [(98, .bool false)] fun a Z => ?_
     refine s_on Z 11 rfl (e_sa Z HM 5 rfl rfl rfl rfl rfl si_bk rfl rfl (by simp [Value.oneCell']) fun w15_11 HM => ?_)
     refine keepS (HM.pk [0, 1, 2, 3, 4]) (fun HS => ?_)
     refine ap Z (fun _ => HS) [12] (bt 13 []) [(5, .bool false)] fun a Z => ?_
     refine qh kr ?_
     have Z := Z.sp 5 (.bool ((zf l).isSome)) rfl (congrArg Value.bool (by rw [qlk h3 om hq her, qoz ⟨hz.2.1, hz.2.2⟩, decide_eq_false om, Bool.false_and, Bool.and_false]))
     exact ⟨Z.sub kr, HM.pk [0, 1, 2, 3, 4, 5]⟩
    refine ap Z (fun _ => HS) [3, 4, 5, 6, 7, 8, 9, 10] (bt 13 [11, 12]) [(98, .bool false)] fun a Z => ?_
    refine s_on Z 11 rfl (e_sa Z HM 5 rfl rfl rfl rfl rfl si_bk rfl rfl (by simp [Value.oneCell']) fun w15_11 HM => ?_)
    refine keepS (HM.pk [0, 1, 2, 3, 4]) (fun HS => ?_)
    refine ap Z (fun _ => HS) [12] (bt 13 []) [(5, .bool false)] fun a Z => ?_
    refine qh kr ?_
    have Z := Z.sp 5 (.bool ((zf l).isSome)) rfl (congrArg Value.bool (by rw [qlk h3 om hq her, qoz ⟨hz.2.1, hz.2.2⟩, show (tkOk 281474976710656 (qa (qa (qa l))) && tkOk 281474976710656 (qa (qa (qa (qa l))))) = false by have h9 := hb90; rw [tk5 (l := l), tk3, h3, Bool.true_and] at h9; exact h9, Bool.false_and]))
    exact ⟨Z.sub kr, HM.pk [0, 1, 2, 3, 4, 5]⟩
   clear Z HM; rintro a w15 ⟨Z, HM⟩
   refine Jb Z HM ((JZ) (Ju (fun hb5 => ?_) fun hb5 => ?_))
   ·
    intro a Z HM
    have hfin := hb5
    exact ret2 rfl Z (.cellS (i := 5) Z HM rfl rfl si_bk rfl) (.tmp Z rfl) (qcx (b := ⟨1, tkVal 63 l, (tkVal 281474976710656 (qa l) : Int), 0, es⟩) (A := A58) (c := c58) (by rw [qbs]; rw [qlk h3 om hq her] at hfin ⊢; exact qyk hfin) (HM.own (i := 0) rfl) hc58 HM.below)
   intro a Z HM
   have hfin := hb5
   exact ret2 rfl Z (.cellS (i := 5) Z HM rfl rfl si_bk rfl) (.tmp Z rfl) (qb2 (by rw [qbs]; exact Option.not_isSome_iff_eq_none.1 (by rw [hfin]; decide)) rfl (by simp [Value.oneCell']) HM.below)
  refine (JF∘JS') fun a Z HM => ?_
  refine zk (fun aS wS => Fr aS 99 [] [(5, .bool ((zf l).isSome)), (46, .bool false), (9, vI (tkVal 4096 (qa (qa l)))), (18, .bool false), (8, vP g8 0), (7, .func (.func 87) #[] #[vP g3 0, vP g6 0]), (6, vP g6 0), (4, vP g4 0), (3, vP g3 0), (0, vB (1 : Nat))] ∧ Mem w wS [.blk g3 #[.slice Aq3 ((qa (qa (qa l))).length) cq3] 22, .blk g6 #[.bool (((true && tkOk 63 l) && tkOk 281474976710656 (qa l)) && tkOk 4096 (qa (qa l)))] 4, .blk g8 #[vB (1 : Nat), vB (tkVal 63 l), vI (tkVal 281474976710656 (qa l)), vI 0, vN] 60, .blk g4 #[vB (1 : Nat), vB (tkVal 63 l), vI (tkVal 281474976710656 (qa l)), vI 0, vN] 60]) ?_ ?_
  ·
   refine Jb Z HM ((Vs (.t (.t (.t (.f .n)))) []) fun wd15 => (Vy 0 (v := .agg #[vB (1 : Nat), vB (tkVal 63 l), vI (tkVal 281474976710656 (qa l)), vI 0, vN]) (h:=by exact Yl.qr rfl rfl si_bk rfl (fun _ h => qb (h.blk (i := 2) rfl)))∘Vc 1 O1∘Vp [2]) fun a Z HM HS => ?_)
   rcases Z.tf 90 rfl with ⟨hb90, Z⟩ | ⟨hb90, Z⟩
   ·
    refine Vb Z HM HS ((Vc 3 O0∘Vl 4∘Vp [5, 6, 7]) fun a Z HM HS => ?_)
    rcases Z.tf 95 rfl with ⟨hb95, Z⟩ | ⟨hb95, Z⟩
    ·
     have hd95 := eq_of_beq hb95
     refine Vb Z HM HS ((Vy 8 (v := .agg #[vB (1 : Nat), vB (tkVal 63 l), vI (tkVal 281474976710656 (qa l)), vI 0, vN]) (h:=by exact Yl.qr rfl rfl si_bk rfl (fun _ h => qb (h.blk (i := 2) rfl)))∘VI 9 (.t (.t (.t (.f .n)))) (h:=by exact fun HM => qey ⟨1, tkVal 63 l, (tkVal 281474976710656 (qa l) : Int), 0, []⟩ (evsOk om om (by simp)) none 0 B _ (hL.mem HM hB) (HM.le hB) Rd.nil (by show 0 ≤ _; omega))) fun w97 hbw => (Vp [10]) fun a Z HM HS => ?_)
     refine s_on Z 11 rfl (e_sa Z HM 3 rfl rfl rfl rfl rfl si_bk rfl rfl (by simp [Value.oneCell']) fun w15_11 HM => ?_)
     refine keepS (HM.pk [0, 1, 2]) (fun HS => ?_)
     refine Vb Z HM HS ((Vp [12]∘Vd∘Jd6) fun a Z HM => ?_)
     have Z := Z.sp 5 (.bool ((zf l).isSome)) rfl (congrArg Value.bool (by rw [qqh (l := l) (fun hh => by have h0 := hh.2; omega), h3, decide_eq_true om, Bool.true_and, Bool.true_and]))
     exact ⟨Z.sub kr, HM.pk [0, 1, 2, 3]⟩
    have hd95 := ne_of_beq_false hb95
    refine ap Z (fun _ => HS) [8, 9, 10] (bt 13 [11, 12]) [(98, .bool false)] fun a Z => ?_
    refine s_on Z 11 rfl (e_sa Z HM 3 rfl rfl rfl rfl rfl si_bk rfl rfl (by simp [Value.oneCell']) fun w15_11 HM => ?_)
    refine keepS (HM.pk [0, 1, 2]) (fun HS => ?_)
    refine ap Z (fun _ => HS) [12] (bt 13 []) [(5, .bool false)] fun a Z => ?_
    refine qh kr ?_
    have Z := Z.sp 5 (.bool ((zf l).isSome)) rfl (congrArg Value.bool (by rw [qqh (l := l) (fun hh => by have h0 := hh.2; omega), decide_eq_false om, Bool.false_and, Bool.and_false]))
    exact ⟨Z.sub kr, HM.pk [0, 1, 2, 3]⟩
   refine ap Z (fun _ => HS) [3, 4, 5, 6, 7, 8, 9, 10] (bt 13 [11, 12]) [(98, .bool false)] fun a Z => ?_
   refine s_on Z 11 rfl (e_sa Z HM 3 rfl rfl rfl rfl rfl si_bk rfl rfl (by simp [Value.oneCell']) fun w15_11 HM => ?_)
   refine keepS (HM.pk [0, 1, 2]) (fun HS => ?_)
   refine ap Z (fun _ => HS) [12] (bt 13 []) [(5, .bool false)] fun a Z => ?_
   refine qh kr ?_
   have Z := Z.sp 5 (.bool ((zf l).isSome)) rfl (congrArg Value.bool (by have h9 := hb90; rw [tk3] at h9; rw [qqh (l := l) (fun hh => by have h0 := hh.2; omega), h9, Bool.false_and]))
   exact ⟨Z.sub kr, HM.pk [0, 1, 2, 3]⟩
  clear Z HM; rintro a w15 ⟨Z, HM⟩
  refine Jb Z HM ((JZ) (Ju (fun hb5 => ?_) fun hb5 => ?_))
  ·
   intro a Z HM
   have hfin := hb5
   exact ret2 rfl Z (.cellS (i := 3) Z HM rfl rfl si_bk rfl) (.tmp Z rfl) (qcx (b := ⟨1, tkVal 63 l, (tkVal 281474976710656 (qa l) : Int), 0, []⟩) (A := none) (c := 0) (by rw [qbs]; exact qu5 (fun hh => by have h0 := hh.2; omega) hfin) (World.ownsRow_nil _ _ _ _) (Nat.le_refl _) HM.below)
  intro a Z HM
  have hfin := hb5
  exact ret2 rfl Z (.cellS (i := 3) Z HM rfl rfl si_bk rfl) (.tmp Z rfl) (qb2 (by rw [qbs]; exact Option.not_isSome_iff_eq_none.1 (by rw [hfin]; decide)) rfl (by simp [Value.oneCell']) HM.below)
 intro a Z HM
 have h3 : qcv l = false := by rw [← tk3]; exact hb43
 refine Jb Z HM ((Jp 3∘Jd4∘Jj∘JF∘JS') fun a Z HM => ?_)
 refine zk (fun aS wS => Fr aS 99 [] [(5, .bool ((zf l).isSome)), (46, .bool false), (9, vI (tkVal 4096 (qa (qa l)))), (18, .bool false), (8, vP g8 0), (7, .func (.func 87) #[] #[vP g3 0, vP g6 0]), (6, vP g6 0), (4, vP g4 0), (3, vP g3 0), (0, vB (1 : Nat))] ∧ Mem w wS [.blk g3 #[.slice Aq3 ((qa (qa (qa l))).length) cq3] 22, .blk g6 #[.bool (((true && tkOk 63 l) && tkOk 281474976710656 (qa l)) && tkOk 4096 (qa (qa l)))] 4, .blk g8 #[vB (1 : Nat), vB (tkVal 63 l), vI (tkVal 281474976710656 (qa l)), vI 0, vN] 60, .blk g4 #[vB (1 : Nat), vB (tkVal 63 l), vI (tkVal 281474976710656 (qa l)), vI 0, vN] 60]) ?_ ?_
 ·
  refine Jb Z HM ((Vs (.t (.t (.t (.f .n)))) []) fun wd15 => (Vy 0 (v := .agg #[vB (1 : Nat), vB (tkVal 63 l), vI (tkVal 281474976710656 (qa l)), vI 0, vN]) (h:=by exact Yl.qr rfl rfl si_bk rfl (fun _ h => qb (h.blk (i := 2) rfl)))∘Vc 1 O1∘Vp [2]) fun a Z HM HS => ?_)
  rcases Z.tf 90 rfl with ⟨hb90, Z⟩ | ⟨hb90, Z⟩
  ·
   refine Vb Z HM HS ((Vc 3 O0∘Vl 4∘Vp [5, 6, 7]) fun a Z HM HS => ?_)
   rcases Z.tf 95 rfl with ⟨hb95, Z⟩ | ⟨hb95, Z⟩
   ·
    have hd95 := eq_of_beq hb95
    refine Vb Z HM HS ((Vy 8 (v := .agg #[vB (1 : Nat), vB (tkVal 63 l), vI (tkVal 281474976710656 (qa l)), vI 0, vN]) (h:=by exact Yl.qr rfl rfl si_bk rfl (fun _ h => qb (h.blk (i := 2) rfl)))∘VI 9 (.t (.t (.t (.f .n)))) (h:=by exact fun HM => qey ⟨1, tkVal 63 l, (tkVal 281474976710656 (qa l) : Int), 0, []⟩ (evsOk om om (by simp)) none 0 B _ (hL.mem HM hB) (HM.le hB) Rd.nil (by show 0 ≤ _; omega))) fun w97 hbw => (Vp [10]) fun a Z HM HS => ?_)
    refine s_on Z 11 rfl (e_sa Z HM 3 rfl rfl rfl rfl rfl si_bk rfl rfl (by simp [Value.oneCell']) fun w15_11 HM => ?_)
    refine keepS (HM.pk [0, 1, 2]) (fun HS => ?_)
    refine Vb Z HM HS ((Vp [12]∘Vd∘Jd6) fun a Z HM => ?_)
    have Z := Z.sp 5 (.bool ((zf l).isSome)) rfl (congrArg Value.bool (by have h9 := hb90; rw [tk3, h3] at h9; cases h9))
    exact ⟨Z.sub kr, HM.pk [0, 1, 2, 3]⟩
   have hd95 := ne_of_beq_false hb95
   refine ap Z (fun _ => HS) [8, 9, 10] (bt 13 [11, 12]) [(98, .bool false)] fun a Z => ?_
   refine s_on Z 11 rfl (e_sa Z HM 3 rfl rfl rfl rfl rfl si_bk rfl rfl (by simp [Value.oneCell']) fun w15_11 HM => ?_)
   refine keepS (HM.pk [0, 1, 2]) (fun HS => ?_)
   refine ap Z (fun _ => HS) [12] (bt 13 []) [(5, .bool false)] fun a Z => ?_
   refine qh kr ?_
   have Z := Z.sp 5 (.bool ((zf l).isSome)) rfl (congrArg Value.bool (by have h9 := hb90; rw [tk3, h3] at h9; cases h9))
   exact ⟨Z.sub kr, HM.pk [0, 1, 2, 3]⟩
  refine ap Z (fun _ => HS) [3, 4, 5, 6, 7, 8, 9, 10] (bt 13 [11, 12]) [(98, .bool false)] fun a Z => ?_
  refine s_on Z 11 rfl (e_sa Z HM 3 rfl rfl rfl rfl rfl si_bk rfl rfl (by simp [Value.oneCell']) fun w15_11 HM => ?_)
  refine keepS (HM.pk [0, 1, 2]) (fun HS => ?_)
  refine ap Z (fun _ => HS) [12] (bt 13 []) [(5, .bool false)] fun a Z => ?_
  refine qh kr ?_
  have Z := Z.sp 5 (.bool ((zf l).isSome)) rfl (congrArg Value.bool (by have h9 := hb90; rw [tk3] at h9; rw [qqh (l := l) (fun hh => by rw [h3] at hh; cases hh.1), h9, Bool.false_and]))
  exact ⟨Z.sub kr, HM.pk [0, 1, 2, 3]⟩
 clear Z HM; rintro a w15 ⟨Z, HM⟩
 refine Jb Z HM ((JZ) (Ju (fun hb5 => ?_) fun hb5 => ?_))
 ·
  intro a Z HM
  have hfin := hb5
  exact ret2 rfl Z (.cellS (i := 3) Z HM rfl rfl si_bk rfl) (.tmp Z rfl) (qcx (b := ⟨1, tkVal 63 l, (tkVal 281474976710656 (qa l) : Int), 0, []⟩) (A := none) (c := 0) (by rw [qbs]; exact qu5 (fun hh => by rw [h3] at hh; cases hh.1) hfin) (World.ownsRow_nil _ _ _ _) (Nat.le_refl _) HM.below)
 intro a Z HM
 have hfin := hb5
 exact ret2 rfl Z (.cellS (i := 3) Z HM rfl rfl si_bk rfl) (.tmp Z rfl) (qb2 (by rw [qbs]; exact Option.not_isSome_iff_eq_none.1 (by rw [hfin]; decide)) rfl (by simp [Value.oneCell']) HM.below)
theorem qu9 (A : Option Addr) (n cp : Nat) (l : List Nat) (B : Nat) (w : World) (hL : LaidX B w) (hB : B ≤ w.heap.size) (hr : Rd w w.heap.size 1 A n (l.map B8)) (hc : n ≤ cp) (hln : l.length = n) (hn : n ≤ 9223372036854775807) (hl : ∀ b ∈ l, b < 256) :
    Calls Tryz.prog 44 #[.slice A n cp] w (qo0 35 w (readB l)) := by
 refine (JN1 Tryz.func44 68) ?_
 refine (JP∘JA #[vB 0, vB 0, vI 0, vI 0, vN]) fun w2 g2 => (Jp 2∘Jr∘Jp 1∘JI (h:=by exact fun HM => qrs A n cp l _ (HM.old hr) hln hn hl)) fun w11 hbw => (Jp 1∘Jx∘Jx∘Jp 2∘Jj∘JQ∘JP∘Jp 2∘Jd1∘Jj) (Ju (fun hb15 => ?_) fun hb15 => ?_)
 ·
  intro a Z HM
  have hd15 := bne_iff_ne.1 hb15
  refine Jb Z HM ((JT∘JP∘Jy (v := .agg #[vB 0, vB 0, vI 0, vI 0, vN]) (h:=by exact Yl.build (vs := []) rfl kr kr)∘Jp 1∘JV si_bk O0') fun w3_2 => (Jp 2∘Jj∘JZ) fun a Z HM => ?_)
  exact ret3 rfl Z (.cellS (i := 0) Z HM rfl rfl si_bk rfl) (.tmp Z rfl) (.tmp Z rfl) (qat (qu6 om) HM.below)
 intro a Z HM
 have hd15 := bne_eq_false_iff_eq.1 hb15
 have hl0 : (lenR l).2 = 0 := by omega
 obtain ⟨v1, v2, v3, v4⟩ := qlm hl0
 obtain ⟨Lb, hLb⟩ : ∃ x, x = l.take (lenR l).1 := ⟨_, rfl⟩
 have hrL : Rd w w.heap.size 1 A (lenR l).1 (Lb.map B8) := by rw [hLb]; exact hr.toB8 om
 have hlL : ∀ b ∈ Lb, b < 256 := by rw [hLb]; exact zu hl _
 have hnL : Lb.length = (lenR l).1 := by rw [hLb, List.length_take]; omega
 refine Jb Z HM ((JF∘JS'∘JP∘Jp 2∘Jy (v := .slice A ((lenR l).1) cp) (h:=by exact Yl.zl ei_u8 (j := (lenR l).1) rfl rfl rfl om)∘Jp 1∘Jd3∘Jq) ?_)
 repeat (first | clear Z | clear HM)
 intro a Z HM
 obtain ⟨gA, oA, rfl, _⟩ := hrL.qt (Nat.lt_of_le_of_lt (Nat.zero_le _) (show 0 < (lenR l).1 from by omega)) de
 refine Jb Z HM ((JG∘JQ∘JB∘JP∘Jp 1∘JI (h:=by exact fun HM => qrr _ (lenR l).1 cp Lb B _ (hL.mem HM hB) (HM.le hB) (HM.old hrL) om hnL om hlL)) fun w23 hbw => (Jp 2∘Jd3∘Jj) (Ju (fun hb21 => ?_) fun hb21 => ?_))
 ·
  intro a Z HM
  have hs : qar Lb = false := by simpa using hb21
  refine Jb Z HM ((JT∘JP∘Jy (v := .agg #[vB 0, vB 0, vI 0, vI 0, vN]) (h:=by exact Yl.build (vs := []) rfl kr kr)∘JV si_bk O0') fun w6_1 => (Jp 2∘Jj∘JZ) fun a Z HM => ?_)
  exact ret3 rfl Z (.cellS (i := 0) Z HM rfl rfl si_bk rfl) (.tmp Z rfl) (.tmp Z rfl) (qat (qbt hl0 hLb (by unfold blkOf; rw [if_pos hs])) HM.below)
 intro a Z HM
 have hs : qar Lb = true := by simpa using hb21
 refine Jb Z HM ((JF) fun a Z HM => ?_)
 refine wp_seq ?_
 refine Jb Z HM ((Vs .n []) fun wd7 => (Vp [0]∘Vy 1 (v := .slice (if cp = 4 then some ⟨gA, oA, none⟩ else (some ⟨gA, oA, none⟩ : Option Addr).map (·.add (4 * 1))) (6 - 4) (cp - 4)) (h:=by exact Yl.qk1 ei_u8 (i := 4) (j := 6) rfl rfl rfl rfl om om)∘Vo (.slice (some ⟨gA, oA + 4, none⟩) (6 - 4) (cp - 4)) (by simp only [if_neg (show ¬ cp = 4 by omega), Option.map_some, Addr.add_mid, Nat.mul_one])∘Vy 2 (v := vP gA (oA + 4)) (h:=by exact Yl.arrayAt (k := 2) rfl rfl kr om)∘Vy 3 (v := .agg #[vB (Lb.getD 4 0), vB (Lb.getD 5 0)]) (h:=by exact Yl.qr rfl rfl si_a2 rfl (fun _ h => q2n (k := 4) (l := Lb) (h.old hrL) om))∘Vy 4 (v := .agg #[vB 113, vB 116]) (h:=by exact Yl.qr rfl rfl si_a2 rfl (fun _ h => qyd hL h hB))∘Vy 5 (v := .bool (!(((Lb.getD 4 0 : Int) == (113 : Int)) && ((Lb.getD 5 0 : Int) == (116 : Int))))) (h:=by exact Yl.q1y rfl rfl rfl kr kr)∘Vp [6]∘Vd∘Jd6) (Ju (fun hb26 => ?_) fun hb26 => ?_))
 ·
  intro a Z HM
  simp only [Bool.not_eq_true', Bool.and_eq_false_iff, beq_eq_false_iff_ne] at hb26
  have hmg : ¬ (Lb.getD 4 0 = 113 ∧ Lb.getD 5 0 = 116) := by omega
  refine Jb Z HM ((JT∘JP∘Jy (v := .agg #[vB 0, vB 0, vI 0, vI 0, vN]) (h:=by exact Yl.build (vs := []) rfl kr kr)∘JV si_bk O0') fun w8_1 => (Jp 2∘Jj∘JZ) fun a Z HM => ?_)
  exact ret3 rfl Z (.cellS (i := 0) Z HM rfl rfl si_bk rfl) (.tmp Z rfl) (.tmp Z rfl) (qat (qbt hl0 hLb (by unfold blkOf; rw [if_neg (by rw [hs]; decide), if_pos hmg])) HM.below)
 intro a Z HM
 simp only [Bool.not_eq_false', Bool.and_eq_true, beq_iff_eq] at hb26
 have hmg : Lb.getD 4 0 = 113 ∧ Lb.getD 5 0 = 116 := by omega
 refine Jb Z HM ((JF∘JP∘Jp 1∘Jy (v := vP gA (oA + 6)) (h:=by exact Yl.indexAddr (ad := ⟨gA, oA, none⟩) (y := 6) (sz := 1) rfl rfl rfl om kr)∘JH (getD_lt hlL (k := 6) (by first | omega | (simp; omega)))) fun hx1 => (Jy (v := vB (Lb.getD 6 0)) (h:=by exact Yl.o1 hrL 6 0 (by first | omega | (simp; omega)) rfl rfl)∘Jp 2∘Jd4∘Jj) (Jh (fun hd34 => ?_) fun hd34 => ?_))
 ·
  refine (JT∘JP∘Jy (v := .agg #[vB 0, vB 0, vI 0, vI 0, vN]) (h:=by exact Yl.build (vs := []) rfl kr kr)∘JV si_bk O0') fun w10_1 => (Jp 2∘Jj∘JZ) fun a Z HM => ?_
  exact ret3 rfl Z (.cellS (i := 0) Z HM rfl rfl si_bk rfl) (.tmp Z rfl) (.tmp Z rfl) (qat (qbt hl0 hLb (by unfold blkOf; rw [if_neg (by rw [hs]; decide), if_neg (fun hh => hh hmg), if_pos om])) HM.below)
 refine (JF∘JP∘Jp 1∘Jy (v := vP gA (oA + 7)) (h:=by exact Yl.indexAddr (ad := ⟨gA, oA, none⟩) (y := 7) (sz := 1) rfl rfl rfl om kr)∘JH (getD_lt hlL (k := 7) (by first | omega | (simp; omega)))) fun hx2 => (Jy (v := vB (Lb.getD 7 0)) (h:=by exact Yl.o1 hrL 7 0 (by first | omega | (simp; omega)) rfl rfl)∘Jp 2) (Ju (fun hb45 => ?_) fun hb45 => ?_)
 ·
  intro a Z HM
  have hd45 := bne_iff_ne.1 hb45
  refine Jb Z HM ((Jp 1∘Jy (v := vP gA (oA + 7)) (h:=by exact Yl.indexAddr (ad := ⟨gA, oA, none⟩) (y := 7) (sz := 1) rfl rfl rfl om kr)∘JH (getD_lt hlL (k := 7) (by first | omega | (simp; omega)))) fun hx3 => (Jy (v := vB (Lb.getD 7 0)) (h:=by exact Yl.o1 hrL 7 0 (by first | omega | (simp; omega)) rfl rfl)∘Jp 3∘Jd6∘Jq) fun a Z HM => ?_)
  rcases hp : qda (Lb.getD 7 0) ((Lb.take (Lb.length - 4)).drop 8) with _ | b
  ·
   refine Jb Z HM (Ju (fun hb40 => ?_) fun hb40 => ?_)
   ·
    intro a Z HM
    have hd40 := bne_iff_ne.1 hb40
    have hkd : Lb.getD 7 0 ≠ 1 ∧ Lb.getD 7 0 ≠ 2 := by omega
    refine Jb Z HM ((JT∘JP∘Jy (v := .agg #[vB 0, vB 0, vI 0, vI 0, vN]) (h:=by exact Yl.build (vs := []) rfl kr kr)∘JV si_bk O0') fun w12_1 => (Jp 2∘Jj∘JZ) fun a Z HM => ?_)
    exact ret3 rfl Z (.cellS (i := 0) Z HM rfl rfl si_bk rfl) (.tmp Z rfl) (.tmp Z rfl) (qat (qbt hl0 hLb (by unfold blkOf; rw [if_neg (by rw [hs]; decide), if_neg (fun hh => hh hmg), if_neg om, if_pos hkd])) HM.below)
   intro a Z HM
   have hd40 := bne_eq_false_iff_eq.1 hb40
   have hkd : Lb.getD 7 0 = 1 ∨ Lb.getD 7 0 = 2 := by omega
   refine Jb Z HM ((JF∘JS') fun a Z HM => ?_)
   refine zk (fun aS wS => ∃ (cs : Array Value) (g7 : Nat), Fr aS 68 [] [(8, .bool false), (7, vP g7 0), (40, .bool false), (34, .bool false), (26, .bool false), (21, .bool false), (0, .slice (some ⟨gA, oA, none⟩) ((lenR l).1) cp), (15, .bool false), (6, vI ((lenR l).2)), (5, vI ((lenR l).1)), (4, vI 0), (3, vI 0), (2, vP g2 0)] ∧ Mem w wS [.blk g7 cs 60, .blk g2 #[vB 0, vB 0, vI 0, vI 0, vN] 60] ∧ (cs.size = 5) ∧ (∀ v ∈ cs.toList, v.oneCell' = true)) ?_ ?_
   ·
    refine Jb Z HM ((Vs .n [12]) fun wd13 => (Vp [0, 3, 4]∘Vy 1 (v := vP gA (oA + 7)) (h:=by exact Yl.indexAddr (ad := ⟨gA, oA, none⟩) (y := 7) (sz := 1) rfl rfl rfl om kr)∘VH (getD_lt hlL (k := 7) (by first | omega | (simp; omega)))) fun hx8 => (Vy 2 (v := vB (Lb.getD 7 0)) (h:=by exact Yl.o1 hrL 7 0 (by first | omega | (simp; omega)) rfl rfl)∘VsK 5 4∘Vy 6 (v := .slice (if cp = 8 then some ⟨gA, oA, none⟩ else (some ⟨gA, oA, none⟩ : Option Addr).map (·.add (8 * 1))) (((lenR l).1 - 4) - 8) (cp - 8)) (h:=by exact Yl.qk1 ei_u8 (i := 8) (j := (lenR l).1 - 4) rfl rfl rfl rfl om om)) fun a Z HM HS => ?_)
    refine qcl [7, 11] kr rfl ?_
    refine all_cons ?_ ?_
    ·refine qa8 Z (i := 7) rfl rfl ?_
     refine e_cl Z [vB (Lb.getD 7 0), .slice (if cp = 8 then some ⟨gA, oA, none⟩ else (some ⟨gA, oA, none⟩ : Option Addr).map (·.add (8 * 1))) (((lenR l).1 - 4) - 8) (cp - 8)] rfl rfl ((qb3 (Lb.getD 7 0) hkd _ (((lenR l).1 - 4) - 8) (cp - 8) ((Lb.take (Lb.length - 4)).drop 8) B _ (hL.mem HM hB) (HM.le hB) (HM.old (by rw [hnL]; exact hrL.qjp (i := 8) (j := (lenR l).1 - 4) om om om)) om (by rw [List.length_drop, List.length_take]; omega) om (zw (zu hlL _) _)).mono (fun _ _ h => h.none hp)) ?_
     rintro _ w60 ⟨⟨cs, rfl, hs5, h1⟩, hbw⟩
     refine ⟨_, rfl, ?_⟩
     replace HM := HM.call hbw
     clear Z; intro a Z
     refine keepS (HM.pk [0]) (fun HS => ?_)
     refine Vb Z HM HS ((Vp [8]∘Vx 9∘Vx 10∘VA 11 .n #[vB 0, vB 0, vI 0, vI 0, vN]) fun w7 g7 => fun a Z HM HS => ?_)
     refine s_on Z 12 rfl (e_sa Z HM 0 rfl rfl rfl rfl rfl si_bk rfl hs5 (h1) fun w13_12 HM => ?_)
     refine noS kr ?_
     refine ap Z (pastS kr) [13] (bt 14 []) [(8, .bool false)] fun a Z => ?_
     refine qh kr ?_
     exact ⟨cs, g7, Z.sub kr, HM.pk [0, 1], hs5, h1⟩
    refine all_cons ?_ all_nil
    refine qa8 Z (i := 11) rfl rfl ?_
    refine s_ea Z HM #[vB 0, vB 0, vI 0, vI 0, vN] ?_
    clear Z HM; intro a w7 g7 Z HM
    refine keepS (HM.pk [1]) (fun HS => ?_)
    refine s_on Z 7 rfl ?_
    refine e_cl Z [vB (Lb.getD 7 0), .slice (if cp = 8 then some ⟨gA, oA, none⟩ else (some ⟨gA, oA, none⟩ : Option Addr).map (·.add (8 * 1))) (((lenR l).1 - 4) - 8) (cp - 8)] rfl rfl ((qb3 (Lb.getD 7 0) hkd _ (((lenR l).1 - 4) - 8) (cp - 8) ((Lb.take (Lb.length - 4)).drop 8) B _ (hL.mem HM hB) (HM.le hB) (HM.old (by rw [hnL]; exact hrL.qjp (i := 8) (j := (lenR l).1 - 4) om om om)) om (by rw [List.length_drop, List.length_take]; omega) om (zw (zu hlL _) _)).mono (fun _ _ h => h.none hp)) ?_
    rintro _ w60 ⟨⟨cs, rfl, hs5, h1⟩, hbw⟩
    refine ⟨_, rfl, ?_⟩
    replace HM := HM.call hbw
    clear Z; intro a Z
    refine keepS (HM.pk [1]) (fun HS => ?_)
    refine Vb Z HM HS ((Vp [8]∘Vx 9∘Vx 10) fun a Z HM HS => ?_)
    refine s_on Z 12 rfl (e_sa Z HM 0 rfl rfl rfl rfl rfl si_bk rfl hs5 (h1) fun w13_12 HM => ?_)
    refine noS kr ?_
    refine ap Z (pastS kr) [13] (bt 14 []) [(8, .bool false)] fun a Z => ?_
    refine qh kr ?_
    exact ⟨cs, g7, Z.sub kr, HM.pk [0, 1], hs5, h1⟩
   clear Z HM; rintro a w13 ⟨cs, g7, Z, HM, hs5, h1⟩
   refine Jb Z HM ((JQ∘JP∘Jp 2∘Jd2∘Jj∘JT∘JP∘Jy (v := .agg #[vB 0, vB 0, vI 0, vI 0, vN]) (h:=by exact Yl.build (vs := []) rfl kr kr)∘JV si_bk O1') fun w15_1 => (Jp 2∘Jj∘JZ) fun a Z HM => ?_)
   exact ret3 rfl Z (.cellS (i := 1) Z HM rfl rfl si_bk rfl) (.tmp Z rfl) (.tmp Z rfl) (qat (qbt hl0 hLb (by unfold blkOf; rw [if_neg (by rw [hs]; decide), if_neg (fun hh => hh hmg), if_neg om, if_neg om, hp])) HM.below)
  ·
   refine Jb Z HM (Ju (fun hb40 => ?_) fun hb40 => ?_)
   ·
    intro a Z HM
    have hd40 := bne_iff_ne.1 hb40
    have hkd : Lb.getD 7 0 ≠ 1 ∧ Lb.getD 7 0 ≠ 2 := by omega
    refine Jb Z HM ((JT∘JP∘Jy (v := .agg #[vB 0, vB 0, vI 0, vI 0, vN]) (h:=by exact Yl.build (vs := []) rfl kr kr)∘JV si_bk O0') fun w12_1 => (Jp 2∘Jj∘JZ) fun a Z HM => ?_)
    exact ret3 rfl Z (.cellS (i := 0) Z HM rfl rfl si_bk rfl) (.tmp Z rfl) (.tmp Z rfl) (qat (qbt hl0 hLb (by unfold blkOf; rw [if_neg (by rw [hs]; decide), if_neg (fun hh => hh hmg), if_neg om, if_pos hkd])) HM.below)
   intro a Z HM
   have hd40 := bne_eq_false_iff_eq.1 hb40
   have hkd : Lb.getD 7 0 = 1 ∨ Lb.getD 7 0 = 2 := by omega
   refine Jb Z HM ((JF∘JS') fun a Z HM => ?_)
   refine zk (fun aS wS => ∃ (Ab : Option Addr) (cb : Nat) (g7 : Nat), Fr aS 68 [] [(8, .bool true), (7, vP g7 0), (40, .bool false), (34, .bool false), (26, .bool false), (21, .bool false), (0, .slice (some ⟨gA, oA, none⟩) ((lenR l).1) cp), (15, .bool false), (6, vI ((lenR l).2)), (5, vI ((lenR l).1)), (4, vI 0), (3, vI 0), (2, vP g2 0)] ∧ Mem w wS [.blk g7 (b.cells Ab cb) 60, .row (.slice Ab b.evs.length cb) b.evs.length (b.evs.flatMap evL) 35 11, .blk g2 #[vB 0, vB 0, vI 0, vI 0, vN] 60] ∧ (b.evs.length ≤ cb)) ?_ ?_
   ·
    refine Jb Z HM ((Vs .n [12]) fun wd13 => (Vp [0, 3, 4]∘Vy 1 (v := vP gA (oA + 7)) (h:=by exact Yl.indexAddr (ad := ⟨gA, oA, none⟩) (y := 7) (sz := 1) rfl rfl rfl om kr)∘VH (getD_lt hlL (k := 7) (by first | omega | (simp; omega)))) fun hx12 => (Vy 2 (v := vB (Lb.getD 7 0)) (h:=by exact Yl.o1 hrL 7 0 (by first | omega | (simp; omega)) rfl rfl)∘VsK 5 4∘Vy 6 (v := .slice (if cp = 8 then some ⟨gA, oA, none⟩ else (some ⟨gA, oA, none⟩ : Option Addr).map (·.add (8 * 1))) (((lenR l).1 - 4) - 8) (cp - 8)) (h:=by exact Yl.qk1 ei_u8 (i := 8) (j := (lenR l).1 - 4) rfl rfl rfl rfl om om)) fun a Z HM HS => ?_)
    refine qcl [7, 11] kr rfl ?_
    refine all_cons ?_ ?_
    ·refine qa8 Z (i := 7) rfl rfl ?_
     refine s_ek Z HM [vB (Lb.getD 7 0), .slice (if cp = 8 then some ⟨gA, oA, none⟩ else (some ⟨gA, oA, none⟩ : Option Addr).map (·.add (8 * 1))) (((lenR l).1 - 4) - 8) (cp - 8)] ((qb3 (Lb.getD 7 0) hkd _ (((lenR l).1 - 4) - 8) (cp - 8) ((Lb.take (Lb.length - 4)).drop 8) B _ (hL.mem HM hB) (HM.le hB) (HM.old (by rw [hnL]; exact hrL.qjp (i := 8) (j := (lenR l).1 - 4) om om om)) om (by rw [List.length_drop, List.length_take]; omega) om (zw (zu hlL _) _)).mono (fun _ _ h => h.some hp)) fun Ab cb w60 hcb HM a Z => ?_
     refine keepS (HM.pk [1]) (fun HS => ?_)
     refine Vb Z HM HS ((Vp [8]∘Vx 9∘Vx 10∘VA 11 (.f .n) #[vB 0, vB 0, vI 0, vI 0, vN]) fun w7 g7 => fun a Z HM HS => ?_)
     refine s_on Z 12 rfl (e_sa Z HM 0 rfl rfl rfl rfl rfl si_bk rfl rfl (qas _ _ _) fun w13_12 HM => ?_)
     refine noS kr ?_
     refine ap Z (pastS kr) [13] (bt 14 []) [(8, .bool true)] fun a Z => ?_
     refine qh kr ?_
     exact ⟨Ab, cb, g7, Z.sub kr, HM.pk [0, 1, 2], hcb⟩
    refine all_cons ?_ all_nil
    refine qa8 Z (i := 11) rfl rfl ?_
    refine s_ea Z HM #[vB 0, vB 0, vI 0, vI 0, vN] ?_
    clear Z HM; intro a w7 g7 Z HM
    refine keepS (HM.pk [1]) (fun HS => ?_)
    refine Vb Z HM HS ((VK 7 (.f .n) (h:=by exact fun HM => (qb3 (Lb.getD 7 0) hkd _ (((lenR l).1 - 4) - 8) (cp - 8) ((Lb.take (Lb.length - 4)).drop 8) B _ (hL.mem HM hB) (HM.le hB) (HM.old (by rw [hnL]; exact hrL.qjp (i := 8) (j := (lenR l).1 - 4) om om om)) om (by rw [List.length_drop, List.length_take]; omega) om (zw (zu hlL _) _)).mono (fun _ _ h => h.some hp))) fun Ab cb w60 hcb => (Vp [8]∘Vx 9∘Vx 10) fun a Z HM HS => ?_)
    refine s_on Z 12 rfl (e_sa Z HM 1 rfl rfl rfl rfl rfl si_bk rfl rfl (qas _ _ _) fun w13_12 HM => ?_)
    refine noS kr ?_
    refine ap Z (pastS kr) [13] (bt 14 []) [(8, .bool true)] fun a Z => ?_
    refine qh kr ?_
    exact ⟨Ab, cb, g7, Z.sub kr, HM.pk [1, 0, 2], hcb⟩
   clear Z HM; rintro a w13 ⟨Ab, cb, g7, Z, HM, hcb⟩
   refine Jb Z HM ((JQ∘JP∘Jp 2∘Jd2∘Jj∘JF∘JS'∘JP∘Jy (v := .agg (b.cells Ab cb)) (h:=by exact Yl.qr rfl rfl si_bk rfl (fun _ h => qb (h.blk (i := 0) rfl)))∘Jp 1∘JV si_bk O2' (h1:=by exact qas _ _ _)) fun w16_2 => (Jp 2∘Jj∘JZ) fun a Z HM => ?_)
   exact ret3 rfl Z (.cellS (i := 2) Z HM rfl rfl si_bk rfl) (.tmp Z rfl) (.tmp Z rfl) (qj9 (qka (e := 0) hl0 hLb (by unfold blkOf; rw [if_neg (by rw [hs]; decide), if_neg (fun hh => hh hmg), if_neg om, if_neg om, hp])) (HM.own (i := 1) rfl) hcb HM.below)
 intro a Z HM
 have hd45 := bne_eq_false_iff_eq.1 hb45
 have hkd : Lb.getD 7 0 = 1 ∨ Lb.getD 7 0 = 2 := by omega
 refine Jb Z HM ((Jp 6∘Jd6∘Jq) fun a Z HM => ?_)
 rcases hp : qda (Lb.getD 7 0) ((Lb.take (Lb.length - 4)).drop 8) with _ | b
 ·
  refine Jb Z HM ((JG∘JF∘JS') fun a Z HM => ?_)
  refine zk (fun aS wS => ∃ (cs : Array Value) (g7 : Nat), Fr aS 68 [] [(8, .bool false), (7, vP g7 0), (40, .bool false), (34, .bool false), (26, .bool false), (21, .bool false), (0, .slice (some ⟨gA, oA, none⟩) ((lenR l).1) cp), (15, .bool false), (6, vI ((lenR l).2)), (5, vI ((lenR l).1)), (4, vI 0), (3, vI 0), (2, vP g2 0)] ∧ Mem w wS [.blk g7 cs 60, .blk g2 #[vB 0, vB 0, vI 0, vI 0, vN] 60] ∧ (cs.size = 5) ∧ (∀ v ∈ cs.toList, v.oneCell' = true)) ?_ ?_
  ·
   refine Jb Z HM ((Vs .n [12]) fun wd13 => (Vp [0, 3, 4]∘Vy 1 (v := vP gA (oA + 7)) (h:=by exact Yl.indexAddr (ad := ⟨gA, oA, none⟩) (y := 7) (sz := 1) rfl rfl rfl om kr)∘VH (getD_lt hlL (k := 7) (by first | omega | (simp; omega)))) fun hx16 => (Vy 2 (v := vB (Lb.getD 7 0)) (h:=by exact Yl.o1 hrL 7 0 (by first | omega | (simp; omega)) rfl rfl)∘VsK 5 4∘Vy 6 (v := .slice (if cp = 8 then some ⟨gA, oA, none⟩ else (some ⟨gA, oA, none⟩ : Option Addr).map (·.add (8 * 1))) (((lenR l).1 - 4) - 8) (cp - 8)) (h:=by exact Yl.qk1 ei_u8 (i := 8) (j := (lenR l).1 - 4) rfl rfl rfl rfl om om)) fun a Z HM HS => ?_)
   refine qcl [7, 11] kr rfl ?_
   refine all_cons ?_ ?_
   ·refine qa8 Z (i := 7) rfl rfl ?_
    refine e_cl Z [vB (Lb.getD 7 0), .slice (if cp = 8 then some ⟨gA, oA, none⟩ else (some ⟨gA, oA, none⟩ : Option Addr).map (·.add (8 * 1))) (((lenR l).1 - 4) - 8) (cp - 8)] rfl rfl ((qb3 (Lb.getD 7 0) hkd _ (((lenR l).1 - 4) - 8) (cp - 8) ((Lb.take (Lb.length - 4)).drop 8) B _ (hL.mem HM hB) (HM.le hB) (HM.old (by rw [hnL]; exact hrL.qjp (i := 8) (j := (lenR l).1 - 4) om om om)) om (by rw [List.length_drop, List.length_take]; omega) om (zw (zu hlL _) _)).mono (fun _ _ h => h.none hp)) ?_
    rintro _ w60 ⟨⟨cs, rfl, hs5, h1⟩, hbw⟩
    refine ⟨_, rfl, ?_⟩
    replace HM := HM.call hbw
    clear Z; intro a Z
    refine keepS (HM.pk [0]) (fun HS => ?_)
    refine Vb Z HM HS ((Vp [8]∘Vx 9∘Vx 10∘VA 11 .n #[vB 0, vB 0, vI 0, vI 0, vN]) fun w7 g7 => fun a Z HM HS => ?_)
    refine s_on Z 12 rfl (e_sa Z HM 0 rfl rfl rfl rfl rfl si_bk rfl hs5 (h1) fun w13_12 HM => ?_)
    refine noS kr ?_
    refine ap Z (pastS kr) [13] (bt 14 []) [(8, .bool false)] fun a Z => ?_
    refine qh kr ?_
    exact ⟨cs, g7, Z.sub kr, HM.pk [0, 1], hs5, h1⟩
   refine all_cons ?_ all_nil
   refine qa8 Z (i := 11) rfl rfl ?_
   refine s_ea Z HM #[vB 0, vB 0, vI 0, vI 0, vN] ?_
   clear Z HM; intro a w7 g7 Z HM
   refine keepS (HM.pk [1]) (fun HS => ?_)
   refine s_on Z 7 rfl ?_
   refine e_cl Z [vB (Lb.getD 7 0), .slice (if cp = 8 then some ⟨gA, oA, none⟩ else (some ⟨gA, oA, none⟩ : Option Addr).map (·.add (8 * 1))) (((lenR l).1 - 4) - 8) (cp - 8)] rfl rfl ((qb3 (Lb.getD 7 0) hkd _ (((lenR l).1 - 4) - 8) (cp - 8) ((Lb.take (Lb.length - 4)).drop 8) B _ (hL.mem HM hB) (HM.le hB) (HM.old (by rw [hnL]; exact hrL.qjp (i := 8) (j := (lenR l).1 - 4) om om om)) om (by rw [List.length_drop, List.length_take]; omega) om (zw (zu hlL _) _)).mono (fun _ _ h => h.none hp)) ?_
   rintro _ w60 ⟨⟨cs, rfl, hs5, h1⟩, hbw⟩
   refine ⟨_, rfl, ?_⟩
   replace HM := HM.call hbw
   clear Z; intro a Z
   refine keepS (HM.pk [1]) (fun HS => ?_)
   refine Vb Z HM HS ((Vp [8]∘Vx 9∘Vx 10) fun a Z HM HS => ?_)
   refine s_on Z 12 rfl (e_sa Z HM 0 rfl rfl rfl rfl rfl si_bk rfl hs5 (h1) fun w13_12 HM => ?_)
   refine noS kr ?_
   refine ap Z (pastS kr) [13] (bt 14 []) [(8, .bool false)] fun a Z => ?_
   refine qh kr ?_
   exact ⟨cs, g7, Z.sub kr, HM.pk [0, 1], hs5, h1⟩
  clear Z HM; rintro a w13 ⟨cs, g7, Z, HM, hs5, h1⟩
  refine Jb Z HM ((JQ∘JP∘Jp 2∘Jd2∘Jj∘JT∘JP∘Jy (v := .agg #[vB 0, vB 0, vI 0, vI 0, vN]) (h:=by exact Yl.build (vs := []) rfl kr kr)∘JV si_bk O1') fun w15_1 => (Jp 2∘Jj∘JZ) fun a Z HM => ?_)
  exact ret3 rfl Z (.cellS (i := 1) Z HM rfl rfl si_bk rfl) (.tmp Z rfl) (.tmp Z rfl) (qat (qbt hl0 hLb (by unfold blkOf; rw [if_neg (by rw [hs]; decide), if_neg (fun hh => hh hmg), if_neg om, if_neg om, hp])) HM.below)
 ·
  refine Jb Z HM ((JG∘JF∘JS') fun a Z HM => ?_)
  refine zk (fun aS wS => ∃ (Ab : Option Addr) (cb : Nat) (g7 : Nat), Fr aS 68 [] [(8, .bool true), (7, vP g7 0), (40, .bool false), (34, .bool false), (26, .bool false), (21, .bool false), (0, .slice (some ⟨gA, oA, none⟩) ((lenR l).1) cp), (15, .bool false), (6, vI ((lenR l).2)), (5, vI ((lenR l).1)), (4, vI 0), (3, vI 0), (2, vP g2 0)] ∧ Mem w wS [.blk g7 (b.cells Ab cb) 60, .row (.slice Ab b.evs.length cb) b.evs.length (b.evs.flatMap evL) 35 11, .blk g2 #[vB 0, vB 0, vI 0, vI 0, vN] 60] ∧ (b.evs.length ≤ cb)) ?_ ?_
  ·
   refine Jb Z HM ((Vs .n [12]) fun wd13 => (Vp [0, 3, 4]∘Vy 1 (v := vP gA (oA + 7)) (h:=by exact Yl.indexAddr (ad := ⟨gA, oA, none⟩) (y := 7) (sz := 1) rfl rfl rfl om kr)∘VH (getD_lt hlL (k := 7) (by first | omega | (simp; omega)))) fun hx20 => (Vy 2 (v := vB (Lb.getD 7 0)) (h:=by exact Yl.o1 hrL 7 0 (by first | omega | (simp; omega)) rfl rfl)∘VsK 5 4∘Vy 6 (v := .slice (if cp = 8 then some ⟨gA, oA, none⟩ else (some ⟨gA, oA, none⟩ : Option Addr).map (·.add (8 * 1))) (((lenR l).1 - 4) - 8) (cp - 8)) (h:=by exact Yl.qk1 ei_u8 (i := 8) (j := (lenR l).1 - 4) rfl rfl rfl rfl om om)) fun a Z HM HS => ?_)
   refine qcl [7, 11] kr rfl ?_
   refine all_cons ?_ ?_
   ·refine qa8 Z (i := 7) rfl rfl ?_
    refine s_ek Z HM [vB (Lb.getD 7 0), .slice (if cp = 8 then some ⟨gA, oA, none⟩ else (some ⟨gA, oA, none⟩ : Option Addr).map (·.add (8 * 1))) (((lenR l).1 - 4) - 8) (cp - 8)] ((qb3 (Lb.getD 7 0) hkd _ (((lenR l).1 - 4) - 8) (cp - 8) ((Lb.take (Lb.length - 4)).drop 8) B _ (hL.mem HM hB) (HM.le hB) (HM.old (by rw [hnL]; exact hrL.qjp (i := 8) (j := (lenR l).1 - 4) om om om)) om (by rw [List.length_drop, List.length_take]; omega) om (zw (zu hlL _) _)).mono (fun _ _ h => h.some hp)) fun Ab cb w60 hcb HM a Z => ?_
    refine keepS (HM.pk [1]) (fun HS => ?_)
    refine Vb Z HM HS ((Vp [8]∘Vx 9∘Vx 10∘VA 11 (.f .n) #[vB 0, vB 0, vI 0, vI 0, vN]) fun w7 g7 => fun a Z HM HS => ?_)
    refine s_on Z 12 rfl (e_sa Z HM 0 rfl rfl rfl rfl rfl si_bk rfl rfl (qas _ _ _) fun w13_12 HM => ?_)
    refine noS kr ?_
    refine ap Z (pastS kr) [13] (bt 14 []) [(8, .bool true)] fun a Z => ?_
    refine qh kr ?_
    exact ⟨Ab, cb, g7, Z.sub kr, HM.pk [0, 1, 2], hcb⟩
   refine all_cons ?_ all_nil
   refine qa8 Z (i := 11) rfl rfl ?_
   refine s_ea Z HM #[vB 0, vB 0, vI 0, vI 0, vN] ?_
   clear Z HM; intro a w7 g7 Z HM
   refine keepS (HM.pk [1]) (fun HS => ?_)
   refine Vb Z HM HS ((VK 7 (.f .n) (h:=by exact fun HM => (qb3 (Lb.getD 7 0) hkd _ (((lenR l).1 - 4) - 8) (cp - 8) ((Lb.take (Lb.length - 4)).drop 8) B _ (hL.mem HM hB) (HM.le hB) (HM.old (by rw [hnL]; exact hrL.qjp (i := 8) (j := (lenR l).1 - 4) om om om)) om (by rw [List.length_drop, List.length_take]; omega) om (zw (zu hlL _) _)).mono (fun _ _ h => h.some hp))) fun Ab cb w60 hcb => (Vp [8]∘Vx 9∘Vx 10) fun a Z HM HS => ?_)
   refine s_on Z 12 rfl (e_sa Z HM 1 rfl rfl rfl rfl rfl si_bk rfl rfl (qas _ _ _) fun w13_12 HM => ?_)
   refine noS kr ?_
   refine ap Z (pastS kr) [13] (bt 14 []) [(8, .bool true)] fun a Z => ?_
   refine qh kr ?_
   exact ⟨Ab, cb, g7, Z.sub kr, HM.pk [1, 0, 2], hcb⟩
  clear Z HM; rintro a w13 ⟨Ab, cb, g7, Z, HM, hcb⟩
  refine Jb Z HM ((JQ∘JP∘Jp 2∘Jd2∘Jj∘JF∘JS'∘JP∘Jy (v := .agg (b.cells Ab cb)) (h:=by exact Yl.qr rfl rfl si_bk rfl (fun _ h => qb (h.blk (i := 0) rfl)))∘Jp 1∘JV si_bk O2' (h1:=by exact qas _ _ _)) fun w16_2 => (Jp 2∘Jj∘JZ) fun a Z HM => ?_)
  exact ret3 rfl Z (.cellS (i := 2) Z HM rfl rfl si_bk rfl) (.tmp Z rfl) (.tmp Z rfl) (qj9 (qka (e := 0) hl0 hLb (by unfold blkOf; rw [if_neg (by rw [hs]; decide), if_neg (fun hh => hh hmg), if_neg om, if_neg om, hp])) (HM.own (i := 1) rfl) hcb HM.below)
theorem qe1 {b d : Bk} (h : (b.kind : Int) ≠ d.kind ∨ (b.cpu : Int) ≠ d.cpu ∨ b.lost ≠ d.lost ∨ b.next ≠ d.next) : decide (b = d) = false := by
 rw [decide_eq_false]
 rintro rfl
 omega
theorem qyq {b d : Bk} (h1 : b.kind = d.kind) (h2 : b.cpu = d.cpu) (h3 : b.lost = d.lost) (h4 : b.next = d.next) : decide (b.evs = d.evs) = decide (b = d) := by
 rw [Bool.eq_iff_iff, decide_eq_true_eq, decide_eq_true_eq]
 cases b; cases d
 simp only at h1 h2 h3 h4
 subst h1; subst h2; subst h3; subst h4
 simp
theorem qyr (b d : Bk) (A A2 : Option Addr) (c c2 : Nat) (w : World) (hr : Rd w w.heap.size 11 A b.evs.length (b.evs.flatMap evL)) (hr2 : Rd w w.heap.size 11 A2 d.evs.length (d.evs.flatMap evL)) (hn : b.evs.length ≤ 1000000) :
    Calls Tryz.prog 24 #[.agg (b.cells A c), .agg (d.cells A2 c2)] w (Is w (.bool (decide (b = d)))) := by
 refine (JN2 Tryz.func24 38) ?_
 refine (JP∘JE) fun w2 g2 => (JE) fun w3 g3 => (Jp 1∘Jr∘Jg 0 O1∘Jg 0 O0∘Jp 2) (Je (fun hd10 => ?_) fun hd10 => ?_)
 ·
  refine (Jg 1 O1∘Jg 1 O0∘Jp 3) (Je (fun hd17 => ?_) fun hd17 => ?_)
  ·
   refine (Jg 2 O1∘Jg 2 O0∘Jp 3) (Je (fun hd24 => ?_) fun hd24 => ?_)
   ·
    refine (Jg 3 O1∘Jg 3 O0∘Jp 3) (Je (fun hd31 => ?_) fun hd31 => ?_)
    ·
     exact (Jg 4 O1∘Jg 4 O0∘JI (h:=by exact fun HM => quy _ _ _ _ _ _ b.evs d.evs _ (HM.old hr) (HM.old hr2) rfl rfl om)) fun w36 hbw => (Jp 2∘Jd6∘Jj∘JZ∘Jz1) fun HM => by exact ⟨by rw [qyq om om om om], HM.below⟩
    exact (Jp 7∘Jd6∘Jj∘JZ∘Jz1) fun HM => by exact ⟨by rw [qe1 om], HM.below⟩
   exact (Jv 14 [(4, .bool false)]∘Jd6∘Jj∘JZ∘Jz1) fun HM => by exact ⟨by rw [qe1 om], HM.below⟩
  exact (Jv 21 [(4, .bool false)]∘Jd6∘Jj∘JZ∘Jz1) fun HM => by exact ⟨by rw [qe1 om], HM.below⟩
 exact (Jv 28 [(4, .bool false)]∘Jd4∘Jj∘JZ∘Jz1) fun HM => by exact ⟨by rw [qe1 om], HM.below⟩
theorem qaq.as {w w' : World} {er er' : Nat} {R R' : List Nat} {r : Ending} (h : qaq w er R r w') (h1 : er = er') (h2 : R = R') : qaq w er' R' r w' := by subst h1; subst h2; exact h
theorem qvc (b : Bk) (hok : b.Ok) (A : Option Addr) (c B : Nat) (w : World) (hL : LaidX B w) (hB : B ≤ w.heap.size) (hr : Rd w w.heap.size 11 A b.evs.length (b.evs.flatMap evL)) (hn : b.evs.length ≤ 1000000) {er : Nat} {R : List Nat} (h1 : b.err = er) (h2 : b.out = R) : Calls Tryz.prog 62 #[.agg (b.cells A c)] w (qaq w er R) :=
 (qkb b hok A c B w hL hB hr hn).mono fun _ _ h => h.as h1 h2
theorem qvd (b : Bk) (hok : b.Ok) (A : Option Addr) (c B : Nat) (w : World) (hL : LaidX B w) (hB : B ≤ w.heap.size) (hr : Rd w w.heap.size 11 A b.evs.length (b.evs.flatMap evL)) (hn : b.evs.length ≤ 1000000) {er : Nat} (h1 : b.err = er) : Calls Tryz.prog 51 #[.agg (b.cells A c)] w (Is w (.int .i64 (er : Int))) :=
 (qru b hok A c B w hL hB hr hn).mono fun _ _ h => by rw [h1] at h; exact h
theorem qln (A : Option Addr) (n cp : Nat) (l : List Nat) (B : Nat) (w : World) (hL : LaidX B w) (hB : B ≤ w.heap.size) (hr : Rd w w.heap.size 1 A n (l.map B8)) (hc : n ≤ cp) (hln : l.length = n) (hn : n ≤ 9223372036854775807) (hl : ∀ b ∈ l, b < 256) {b : Bk} {m er : Nat} (h : readB l = (b, m, er)) :
  Calls Tryz.prog 44 #[.slice A n cp] w fun r w' => (∃ A c, r = .returned (.tuple #[.agg (b.cells A c), .int .i64 (m : Int), .int .i64 (er : Int)]) ∧ w'.ownsRow w.heap.size 35 11 (.slice A b.evs.length c) b.evs.length (b.evs.flatMap evL) ∧ b.evs.length ≤ c) ∧ Below w.heap.size w w' :=
 (qu9 A n cp l B w hL hB hr hc hln hn hl).mono fun _ _ hh => by rw [h] at hh; exact hh
def tickE : Ev := { Ev.zero with seq := 5, time := 340, cpu := 2, kind := 5, ticks := 40, got := 7 }
def awX : List Nat := [13, 0, 0, 0, 113, 116, 1, 2, 7, 91, 144, 57, 154]
theorem q2o : tickE.Ok := ⟨⟨by decide, by decide⟩, ⟨by decide, by decide⟩, by decide, by decide, ⟨by decide, by decide⟩, ⟨by decide, by decide⟩, ⟨by decide, by decide⟩, ⟨by decide, by decide⟩, ⟨by decide, by decide⟩, by decide, ⟨by decide, by decide⟩⟩
theorem qz7 : ∀ b ∈ awX, b < 256 := by decide
def atOf (b : Bs) (l : List Ev) : Nat → Bs
 | 0 => b
 | k + 1 => (l.getD k Ev.zero).at
theorem qm8 : ∀ (l : List Ev) (b : Bs) (k : Nat), k < l.length → recs b (l.take (k + 1)) = recs b (l.take k) ++ zb (atOf b l k) (l.getD k Ev.zero)
 | [], _, _, h => by simp at h
 | e :: r, b, 0, _ => by simp [recs, atOf]
 | e :: r, b, k + 1, h => by
  have h' : k < r.length := by simpa using h
  have ih := qm8 r e.at k h'
  rw [List.take_succ_cons, List.take_succ_cons, recs, recs, ih, List.append_assoc]
  congr 2
  cases k with
  | zero => rfl
  | succ k => rfl
theorem qm9 {cpu : Nat} : ∀ (l : List Ev) (p : Option Ev) (b : Bs) (k : Nat), Chain cpu p b l → k < l.length → Fit (atOf b l k) (l.getD k Ev.zero)
 | [], _, _, _, _, h => by simp at h
 | e :: r, p, b, 0, hc, _ => hc.1
 | e :: r, p, b, k + 1, hc, h => by
  have h' : k < r.length := by simpa using h
  have ih := qm9 r (some e) e.at k hc.2.2.2 h'
  cases k with
  | zero => exact ih
  | succ k => exact ih
theorem q08 {b : Bs} {e : Ev} (h : Fit b e) : qz b e = 0 ∧ qan b e = zb b e := by
 have h1 : qz b e = 0 := by
  unfold qz
  rw [if_neg (by have := h.check; omega), if_pos ⟨h.right, h.behind⟩]
 exact ⟨h1, by unfold qan; rw [if_pos h1]⟩
def Bk.atK (b : Bk) (k : Nat) : Bs := atOf b.base b.evs k
def Bk.sz (b : Bk) (k : Nat) : Nat := 12 + (vbytes b.cpu).length + (vbytes b.lost.toNat).length + (vbytes b.base.seq.toNat).length + (vbytes b.base.time.toNat).length + (recs b.base (b.evs.take k)).length
def Bk.big (b : Bk) (k : Nat) : Bool := decide (4096 < b.sz k + (vbytes k).length)
def Bk.qgp (b : Bk) : Nat := ((List.range b.evs.length).find? fun i => b.big (i + 1)).getD b.evs.length
def Bk.fill (b : Bk) : Nat × Nat := if b.fits = false then (0, 107) else (b.qgp, 0)
theorem sz_le (b : Bk) (k : Nat) : b.sz k ≤ 52 + 61 * k := by
 unfold Bk.sz
 have h1 := qd b.cpu
 have h2 := qd b.lost.toNat
 have h4 := qd b.base.seq.toNat
 have h5 := qd b.base.time.toNat
 have h6 := qf8 (b.evs.take k) b.base
 rw [List.length_take] at h6
 have : min k b.evs.length ≤ k := Nat.min_le_left _ _
 have h7 : 61 * min k b.evs.length ≤ 61 * k := Nat.mul_le_mul_left _ this
 omega
theorem q09 (b : Bk) : b.sz 0 = 8 + ([b.cpu, b.lost.toNat, b.base.seq.toNat, b.base.time.toNat].flatMap vbytes).length + 4 := by
 unfold Bk.sz
 simp [recs]
 omega
theorem qvf {b : Bk} {k : Nat} (h : k < b.evs.length) : b.sz (k + 1) = b.sz k + (zb (b.atK k) (b.evs.getD k Ev.zero)).length := by
 unfold Bk.sz Bk.atK
 rw [qm8 _ _ _ h, List.length_append]
 omega
theorem qqk {b : Bk} {k : Nat} (hk : k < b.evs.length) (hno : ∀ i, i < k → b.big (i + 1) = false) (h : b.big (k + 1) = true) : b.qgp = k := by
 unfold Bk.qgp
 have : (List.range b.evs.length).find? (fun i => b.big (i + 1)) = some k := by
  rw [List.find?_eq_some_iff_append]
  refine ⟨h, List.range k, List.range' (k + 1) (b.evs.length - k - 1), ?_, ?_⟩
  ·rw [List.range_eq_range', List.range_eq_range']
   have e1 : b.evs.length = k + (b.evs.length - k) := by omega
   have e2 : b.evs.length - k = (b.evs.length - k - 1) + 1 := by omega
   conv => lhs; rw [e1, ← List.range'_append_1, e2, List.range'_succ]
   simp
  ·intro i hi
   have := hno i (List.mem_range.1 hi)
   simp [this]
 rw [this]
 rfl
theorem qiy {b : Bk} (hno : ∀ i, i < b.evs.length → b.big (i + 1) = false) : b.qgp = b.evs.length := by
 unfold Bk.qgp
 have : (List.range b.evs.length).find? (fun i => b.big (i + 1)) = none := by
  rw [List.find?_eq_none]
  intro i hi
  have := hno i (List.mem_range.1 hi)
  simp [this]
 rw [this]
 rfl
theorem qlo {w w' : World} {b : Bk} {n e : Nat} (h : b.fill = (n, e)) (hb : Below w.heap.size w w') : Is w (.tuple #[.int .i64 (b.fill.1 : Int), .int .i64 (b.fill.2 : Int)]) (.returned (.tuple #[.int .i64 (n : Int), .int .i64 (e : Int)])) w' := by rw [h]; exact ⟨rfl, hb⟩
theorem qwq (b : Bk) (hok : b.Ok) (A : Option Addr) (c B : Nat) (w : World) (hL : LaidX B w) (hB : B ≤ w.heap.size) (hr : Rd w w.heap.size 11 A b.evs.length (b.evs.flatMap evL)) (hn : b.evs.length ≤ 1000000) :
    Calls Tryz.prog 50 #[.agg (b.cells A c)] w (Is w (.tuple #[vI (b.fill.1 : Int), vI (b.fill.2 : Int)])) := by
 refine (JN1 Tryz.func50 70) ?_
 refine (JP∘JE) fun w1 g1 => (Jp 2∘Jj∘JQ∘JP∘Jy (v := .agg (b.cells A c)) (h:=by exact Yl.qr rfl rfl si_bk rfl (fun _ h => qb (h.blk (i := 0) rfl)))∘JI (h:=by exact fun HM => qey b hok A c B _ (hL.mem HM hB) (HM.le hB) (HM.old hr) hn)) fun w11 hbw => (Jp 1∘Jd2∘Jj) (Ju (fun hb12 => ?_) fun hb12 => ?_)
 ·
  intro a Z HM
  have hf : b.fits = false := by simpa using hb12
  exact Jb Z HM ((JT∘JP∘Jp 2∘Jj∘JZ∘Jz2) fun HM => qlo (by unfold Bk.fill; rw [if_pos hf]) HM.below)
 intro a Z HM
 have hf : b.fits = true := by simpa using hb12
 refine Jb Z HM ((JF∘JS'∘JQ∘JP∘Jg 4 O0∘Jl∘Jp 1∘Jd2∘Jj) (Ju (fun hb16 => ?_) fun hb16 => ?_))
 ·
  intro a Z HM
  have hd16 := eq_of_beq hb16
  exact Jb Z HM ((JT∘JP∘Jp 2∘Jj∘JZ∘Jz2) fun HM => qlo (by unfold Bk.fill; rw [if_neg (by rw [hf]; decide), qiy (fun i hi => absurd hi om), show b.evs.length = 0 by omega]) HM.below)
 intro a Z HM
 have hd16 := ne_of_beq_false hb16
 have hk : b.kind ≠ 2 := fun h2 => by have := qit hf h2; omega
 obtain ⟨m0, m1, m2, m3, m4⟩ := qis hf hk
 obtain ⟨q1, q2, q3, q4⟩ := qlg hok hf hk om
 obtain ⟨e0, r0, g0⟩ := qex hok (qcw hf hk).2 om
 have hch := g0.chain
 rw [← g0.base] at hch
 refine Jb Z HM ((JF∘JS'∘JP∘Jy (v := .agg (b.cells A c)) (h:=by exact Yl.qr rfl rfl si_bk rfl (fun _ h => qb (h.blk (i := 0) rfl)))∘JI (h:=by exact fun HM => qqg b A c _ (HM.old hr) om)) fun w18 hbw => (JA #[vI 0, vI 0]) fun w4 g4 => (JV ⟨kr, kr⟩ O0' (h1:=by exact qp0 b.base)) fun w5_3 => (Jd2∘Jr∘Jg 1 O1∘Jw .u64∘Jg 2 O1∘Jv 1 [(24, vQ (IntKind.u64.wrap b.lost))]∘Jo (vQ b.lost.toNat) (by exact qcm om om)∘Jg 0 O0∘Jv 1 [(27, vQ (IntKind.u64.wrap b.base.seq))]∘Jo (vQ b.base.seq.toNat) (by exact qcm om om)∘Jg 1 O0∘Jv 1 [(30, vQ (IntKind.u64.wrap b.base.time))]∘Jo (vQ b.base.time.toNat) (by exact qcm om om)) fun a Z HM => ?_)
 refine fo Z 12 rfl rfl (s_el Z HM qc0 [(0, vQ b.cpu), (1, vQ b.lost.toNat), (2, vQ b.base.seq.toNat), (3, vQ b.base.time.toNat)] #[vQ b.cpu, vQ b.lost.toNat, vQ b.base.seq.toNat, vQ b.base.time.toNat] ?_)
 clear Z HM; intro a w31 g31 Z HM
 refine Jb Z HM ((JK (h:=by exact fun HM => qul _ 4 _ [b.cpu, b.lost.toNat, b.base.seq.toNat, b.base.time.toNat] _ (HM.rdBlk (i := 0) (n := 4) (size := 1) rfl rfl) (by intro x hx; simp only [List.mem_cons, List.not_mem_nil, or_false] at hx; omega) om)) fun A32 c32 w32 hc32 => fun a Z HM => ?_)
 have hfl := qad [b.cpu, b.lost.toNat, b.base.seq.toNat, b.base.time.toNat]
 refine Jb Z HM ((Jl∘Jp 1∘Jo (vI (8 + ([b.cpu, b.lost.toNat, b.base.seq.toNat, b.base.time.toNat].flatMap vbytes).length : Nat)) (by exact qap om (by simp only [List.length_cons, List.length_nil] at hfl; omega))∘Jp 1∘Jo (vI (b.sz 0)) (by exact qap (by rw [q09]; omega) (by have := sz_le b 0; omega))∘Jp 1∘Jd6∘Jj∘JQ∘JP∘Jg 4 O3∘Jl∘Jp 1∘Jj∘JB∘JM (.f (.f .n))) fun a Z HM => ?_)
 refine qi (fun mS aS wS => ∃ (k : Nat), (k ≤ b.evs.length) ∧ (∀ i, i < k → b.big (i + 1) = false) ∧ mS = b.evs.length - k ∧ Fr aS 70 [] [(39, vI k), (38, vI b.evs.length), (37, .slice A b.evs.length c), (5, vI (b.sz k)), (4, vP g4 0), (16, .bool false), (12, .bool false), (3, vI 0), (2, vI 0), (1, vP g1 0)] ∧ Mem w wS [.blk g4 ((b.atK k).cells) 140, .blk g1 (b.cells A c) 60]) (m := b.evs.length - 0) ⟨0, Nat.zero_le _, fun i hi => absurd hi (Nat.not_lt_zero _), rfl, Z.sub kr, HM.pk [0, 1]⟩ ?_
 clear Z HM; rintro mS a w_ ⟨k, hk0, hno, rfl, Z, HM⟩
 refine Jb Z HM ((JP∘Jp 1∘Jj∘JQ) (Ju (fun hb40 => ?_) fun hb40 => ?_))
 ·
  intro a Z HM
  have hd40 := of_decide_eq_true hb40
  have hk40 : k < b.evs.length := by omega
  have hp := q08 (qm9 b.evs none b.base k hch hk40)
  have hs0 := sz_le b k
  have hs1 := sz_le b (k + 1)
  have hvb := qd (k + 1)
  refine Jb Z HM ((JT∘JS'∘JQ∘JB∘JP∘Jp 1) ?_)
  repeat (first | clear Z | clear HM)
  intro a Z HM
  obtain ⟨gA, oA, rfl, _⟩ := hr.qt (Nat.lt_of_le_of_lt (Nat.zero_le _) (show k < b.evs.length from by omega)) de
  refine Jb Z HM ((Jy (v := vP gA (oA + k * 11)) (h:=by exact Yl.ix gA oA k 11 rfl rfl rfl)∘Jy (v := .agg ((b.evs.getD k Ev.zero).cells)) (h:=by exact Yl.qr rfl rfl ⟨kr, kr⟩ rfl (fun _ h => (h.old hr).qah qw ((getD_at Ev.zero (k := k) (by first | omega | (simp; omega))))))∘JA #[vI 0, vI 0, vB 0, vB 0, vI 0, vI 0, vI 0, vI 0, vI 0, vQ 0, vI 0]) fun w7 g7 => (Jp 1∘JV ⟨kr, kr⟩ O0' (h1:=by exact zd (b.evs.getD k Ev.zero))) fun w9_5 => (Jr∘Jy (v := .agg ((b.atK k).cells)) (h:=by exact Yl.qr rfl rfl ⟨kr, kr⟩ rfl (fun _ h => qb (h.blk (i := 1) rfl)))∘Jy (v := .agg ((b.evs.getD k Ev.zero).cells)) (h:=by exact Yl.qr rfl rfl ⟨kr, kr⟩ rfl (fun _ h => qb (h.blk (i := 0) rfl)))∘JL (h:=by exact fun HM => q01 (b.atK k) (b.evs.getD k Ev.zero) (hok.evs _ (qa5 _ om)) B _ (hL.mem HM hB).laid (HM.le hB) (congrArg List.length hp.2) hp.1)) ?_)
  rintro HM _ w47 ⟨rfl, hbw⟩
  refine ⟨.tuple #[vI ((zb (b.atK k) (b.evs.getD k Ev.zero)).length), vI 0], rfl, _, HM.call hbw, ?_⟩
  refine (Jp 1∘Jx∘Jx∘Jp 2∘Jt1∘Jr∘Jp 3∘Jo (vI (b.sz (k + 1))) (by exact qap (by rw [qvf om]; omega) om)∘Jp 1∘Jd3∘Jj∘JQ∘JP∘Jp 2∘JaK 1∘Jw .u64∘JL (h:=by exact fun HM => qve (k + 1) _ om)) ?_
  rintro HM _ w57 ⟨rfl, hbw⟩
  refine ⟨_, rfl, _, HM.call hbw, ?_⟩
  refine (Ja∘Jp 1∘Jd6∘Jj) (Ji (fun hd59 => ?_) fun hd59 => ?_)
  ·
   exact (JT∘JP∘Jp 3∘Jj∘JZ∘Jz2) fun HM => qlo (by unfold Bk.fill; rw [if_neg (by rw [hf]; decide), qqk hk40 hno (by unfold Bk.big; rw [decide_eq_true]; omega)]) HM.below
  refine (JF∘JS'∘JR∘Jg 0 O0∘Jg 1 O0∘Jy (v := .agg #[vI ((b.evs.getD k Ev.zero).seq), vI ((b.evs.getD k Ev.zero).time)]) (h:=by exact Yl.build (vs := [(0, vI ((b.evs.getD k Ev.zero).seq)), (1, vI ((b.evs.getD k Ev.zero).time))]) rfl kr kr)∘JV ⟨kr, kr⟩ O1') fun w14_5 => (Jt3∘Jj∘JR∘JaK 1∘Jp 1∘Jd1∘Jq) fun a Z HM => ?_
  exact ⟨_, om, k + 1, by omega, fun i hi => (Nat.lt_succ_iff_lt_or_eq.1 hi).elim (hno i) (fun h => by subst h; unfold Bk.big; rw [decide_eq_false]; omega), rfl, Z.sub kr, HM.pk [1, 2]⟩
 intro a Z HM
 have hd40 := of_decide_eq_false hb40
 have hke : k = b.evs.length := by omega
 exact Jb Z HM ((JF∘JX∘JG∘JP∘Jg 4 O1∘Jl∘Jp 2∘Jj∘JZ∘Jz2) fun HM => qlo (by unfold Bk.fill; rw [if_neg (by rw [hf]; decide), qiy (fun i hi => hno i om)]) HM.below)
theorem qph {w : World} {base n m c size : Nat} {e : TypeId} {A : Option Addr} {xs : List Value} (h : w.ownsRow base e size (.slice A n c) n xs) (hm : m ≤ n) : w.ownsRow base e size (.slice A m c) m (xs.take (m * size)) := by
 have hms : m * size ≤ n * size := Nat.mul_le_mul_right _ hm
 refine ⟨by rw [List.length_take, h.1]; omega, ?_⟩
 rcases h.2 with ⟨hv, hn⟩ | ⟨g, cap, cur, hv, hb, hg, h1, h2, h3, h4⟩
 ·injection hv with a1 a2 a3
  subst a1; subst a3; subst hn
  have : m = 0 := by omega
  subst this
  exact .inl ⟨rfl, rfl⟩
 ·injection hv with a1 a2 a3
  subst a1; subst a3
  refine .inr ⟨g, c, cur, rfl, hb, hg, by omega, h2, h3, ?_⟩
  rw [← h4, List.take_take]
  congr 1
  omega
section
variable {W w : World} {fs : List Fact}
theorem Mem.cutRow (h : Mem W w fs) {i n m c size : Nat} {e : TypeId} {A : Option Addr} {xs ys : List Value} (hi : fs[i]? = some (.row (.slice A n c) n xs e size)) (hm : m ≤ n) (hy : xs.take (m * size) = ys) : Mem W w (fs.set i (.row (.slice A m c) m ys e size)) := by
 subst hy
 have hb := h.holds _ (List.mem_of_getElem? hi)
 exact h.turn hi h.below (fun _ _ _ => rfl) (qph hb hm) (fun g' hg' => .inl (by cases A <;> exact hg'))
end
theorem qbl : EI Tryz.prog 195 3 (.int .i64 0) 1 8 := ⟨by kernel_rfl, by kernel_rfl, rfl, by omega⟩
def PolIs (w : World) (l : List Nat) (r : Ending) (w' : World) : Prop :=
 (∃ A c, r = .returned (.slice A l.length c) ∧ w'.ownsRow w.heap.size 3 1 (.slice A l.length c) l.length (l.map I64v) ∧ l.length ≤ c) ∧ Below w.heap.size w w'
def DivIs (w : World) (A : Option Addr) (c : Nat) (a b : List Nat) (r : Ending) (w' : World) : Prop :=
 (∃ vq X c', r = .returned (.tuple #[vq, .slice X (divR (a.length + 1) a b).length c']) ∧ (a.length < b.length → X = A ∧ c' = c) ∧ (b.length ≤ a.length → w'.ownsRow w.heap.size 3 1 (.slice X (divR (a.length + 1) a b).length c') (divR (a.length + 1) a b).length ((divR (a.length + 1) a b).map I64v) ∧ (divR (a.length + 1) a b).length ≤ c')) ∧ Below w.heap.size w w'
def P01 (l : List Nat) : Prop := ∀ x ∈ l, x < 2
def Tr (l : List Nat) : Prop := 0 < l.length → l.getD (l.length - 1) 0 ≠ 0
theorem qwe {l : List Nat} (h : P01 l) (k : Nat) : l.getD k 0 < 2 := by
 rw [List.getD_eq_getElem?_getD]
 cases hk : l[k]? with
 | none => simp
 | some x => exact h x (List.mem_of_getElem? hk)
theorem qi7 {l : List Nat} {k : Nat} (h : 0 < k) (hk : k ≤ l.length) : l.take k = l.take (k - 1) ++ [l.getD (k - 1) 0] := by
 obtain ⟨j, rfl⟩ : ∃ j, k = j + 1 := ⟨k - 1, by omega⟩
 rw [Nat.add_sub_cancel, List.take_succ_eq_append_getElem om, List.getD_eq_getElem?_getD, List.getElem?_eq_getElem om]
 rfl
theorem qnz {l : List Nat} {k : Nat} (h : 0 < k) (hk : k ≤ l.length) (h0 : l.getD (k - 1) 0 = 0) (ht : trimL (l.take k) = trimL l) : trimL (l.take (k - 1)) = trimL l := by
 rw [← ht, qi7 h hk, h0, qfi]
theorem qgj {l : List Nat} {k : Nat} (hk : k ≤ l.length) (h0 : 0 < k → l.getD (k - 1) 0 ≠ 0) (ht : trimL (l.take k) = trimL l) : trimL l = l.take k := by
 rw [← ht]
 by_cases h : 0 < k
 ·rw [qi7 h hk, qj4 (h0 h)]
 ·have : k = 0 := by omega
  subst this
  rfl
theorem ql1 (l : List Nat) : trimL l <+: l := by
 have h := List.dropWhile_suffix (l := l.reverse) (· == 0)
 have := List.reverse_prefix.2 h
 rwa [List.reverse_reverse] at this
theorem qwf (l : List Nat) : l.take (trimL l).length = trimL l := (List.prefix_iff_eq_take.1 (ql1 l)).symm
theorem qgk (l : List Nat) : (trimL l).length ≤ l.length := (ql1 l).length_le
theorem qgl (l : List Nat) : (l.map I64v).take ((trimL l).length * 1) = (trimL l).map I64v := by rw [Nat.mul_one, ← List.map_take, qwf]
theorem qwg {l : List Nat} (h : P01 l) : P01 (trimL l) := fun x hx => h x ((ql1 l).sublist.mem hx)
theorem q0f : ∀ (n : Nat) (l : List Nat), l.length = n → Tr (trimL l)
 | 0, l, h => by
  rw [List.length_eq_zero_iff] at h
  subst h
  intro h; simp [trimL] at h
 | n + 1, l, h => by
  have e := qi7 (l := l) (k := l.length) om om
  rw [List.take_length] at e
  by_cases h0 : l.getD (l.length - 1) 0 = 0
  ·rw [e, h0, qfi]
   exact q0f n _ (by rw [List.length_take]; omega)
  ·rw [e, qj4 h0, ← e]
   intro _
   exact h0
theorem qpi (l : List Nat) : Tr (trimL l) := q0f _ l rfl
theorem qby (f : Nat → Nat) (k : Nat) : (List.range (k + 1)).map f = (List.range k).map f ++ [f k] := by rw [List.range_succ, List.map_append]; rfl
def qeo (p k : Nat) : List Nat := (List.range k).map fun i => p / 2 ^ i % 2
theorem qpj (p k : Nat) : qeo p (k + 1) = qeo p k ++ [p / 2 ^ k % 2] := qby _ _
theorem qkt (p k : Nat) : (qeo p k).length = k := by unfold qeo; rw [List.length_map, List.length_range]
def sumUp (a b : List Nat) (s k : Nat) : List Nat := (List.range k).map (sumAt a b s)
theorem qch (a b : List Nat) (s k : Nat) : sumUp a b s (k + 1) = sumUp a b s k ++ [sumAt a b s k] := qby _ _
theorem qn0 (a b : List Nat) (s k : Nat) : (sumUp a b s k).length = k := by unfold sumUp; rw [List.length_map, List.length_range]
theorem qwh (a b : List Nat) (s : Nat) : trimL (sumUp a b s (max a.length (b.length + s))) = sumL a b s := rfl
theorem qqv {l : List Nat} {k : Nat} (h : l.length ≤ k) : l.getD k 0 = 0 := by rw [List.getD_eq_getElem?_getD, List.getElem?_eq_none h]; rfl
theorem q0g {a b : List Nat} {s k : Nat} (h1 : s ≤ k) (h2 : k - s < b.length) : sumAt a b s k = (a.getD k 0 + b.getD (k - s) 0) % 2 := if_pos ⟨h1, h2⟩
theorem q2y {a b : List Nat} {s k : Nat} (h1 : s ≤ k) (h2 : k - s < b.length) (h3 : a.length ≤ k) : sumAt a b s k = (0 + b.getD (k - s) 0) % 2 := by rw [q0g h1 h2, qqv h3]
theorem qwi {a b : List Nat} {s k : Nat} (h : ¬ (s ≤ k ∧ k - s < b.length)) : sumAt a b s k = a.getD k 0 := if_neg h
theorem q0h {a b : List Nat} {s k : Nat} (h : ¬ (s ≤ k ∧ k - s < b.length)) (h3 : a.length ≤ k) : sumAt a b s k = 0 := by rw [qwi h, qqv h3]
theorem q1j {a b : List Nat} (ha : P01 a) (s i : Nat) : sumAt a b s i < 2 := by
 unfold sumAt
 split
 ·omega
 ·exact qwe ha i
theorem sum01 {a b : List Nat} (ha : P01 a) (s : Nat) : P01 (sumL a b s) := by
 unfold sumL
 apply qwg
 intro x hx
 obtain ⟨i, _, rfl⟩ := List.mem_map.1 hx
 exact q1j ha s i
theorem sumTr (a b : List Nat) (s : Nat) : Tr (sumL a b s) := qpi _
theorem q1k (a b : List Nat) (s : Nat) : (sumL a b s).length ≤ max a.length (b.length + s) := by
 unfold sumL
 refine Nat.le_trans (qgk _) ?_
 rw [List.length_map, List.length_range]
 exact Nat.le_refl _
theorem qh4 {a b : List Nat} (ha : P01 a) (hb : P01 b) (hta : Tr a) (htb : Tr b) (h0 : 0 < b.length) (h : b.length ≤ a.length) : (sumL a b (a.length - b.length)).length < a.length := by
 have e : max a.length (b.length + (a.length - b.length)) = (a.length - 1) + 1 := by omega
 have h1 := hta om
 have h2 := htb h0
 have h3 := qwe ha (a.length - 1)
 have h4 := qwe hb (b.length - 1)
 unfold sumL
 rw [e, qby]
 have hz : sumAt a b (a.length - b.length) (a.length - 1) = 0 := by
  unfold sumAt
  rw [if_pos ⟨by omega, by omega⟩, show a.length - 1 - (a.length - b.length) = b.length - 1 by omega]
  omega
 rw [hz, qfi]
 refine Nat.lt_of_le_of_lt (qgk _) ?_
 rw [List.length_map, List.length_range]
 omega
theorem qqw {b : List Nat} (hb : P01 b) (htb : Tr b) (h0 : 0 < b.length) : ∀ (n : Nat) (a : List Nat), a.length = n → P01 a → Tr a → ∀ f g, a.length < f → a.length < g → divR f a b = divR g a b := by
 intro n
 induction n using Nat.strongRecOn with
 | _ n ih =>
  intro a hn ha hta f g hf hg
  obtain ⟨f, rfl⟩ : ∃ j, f = j + 1 := ⟨f - 1, by omega⟩
  obtain ⟨g, rfl⟩ : ∃ j, g = j + 1 := ⟨g - 1, by omega⟩
  rw [divR, divR]
  split
  ·rename_i h
   have hl := qh4 ha hb hta htb h0 h
   exact ih _ om _ rfl (sum01 ha _) (sumTr _ _ _) f g om om
  ·rfl
theorem qqx {a0 a b : List Nat} (hb : P01 b) (htb : Tr b) (h0 : 0 < b.length) (ha : P01 a) (hta : Tr a) (h : b.length ≤ a.length) (he : divR (a.length + 1) a b = divR (a0.length + 1) a0 b) :
  divR ((sumL a b (a.length - b.length)).length + 1) (sumL a b (a.length - b.length)) b = divR (a0.length + 1) a0 b := by
 have hl := qh4 ha hb hta htb h0 h
 have e : divR (a.length + 1) a b = divR a.length (sumL a b (a.length - b.length)) b := by rw [divR, if_pos h]
 rw [← he, e]
 exact qqw hb htb h0 _ _ rfl (sum01 ha _) (sumTr _ _ _) _ _ om om
theorem qqy {a b : List Nat} (h : ¬ b.length ≤ a.length) : divR (a.length + 1) a b = a := by rw [divR, if_neg h]
theorem qqz (p : Nat) : P01 (qmx p) := by
 unfold qmx
 apply qwg
 intro x hx
 obtain ⟨i, _, rfl⟩ := List.mem_map.1 hx
 omega
theorem qq0 (p : Nat) : P01 (bitsOf p) := by
 unfold bitsOf
 apply qwg
 intro x hx
 obtain ⟨i, _, rfl⟩ := List.mem_map.1 hx
 split <;> omega
theorem qq1 (p : Nat) : Tr (qmx p) := qpi _
theorem qq2 (p : Nat) : Tr (bitsOf p) := qpi _
theorem qfr : genP.length = 33 := by decide +kernel
theorem ql2 (p : Nat) : (bitsOf p).length ≤ 40 := by
 unfold bitsOf
 refine Nat.le_trans (qgk _) ?_
 rw [List.length_map, List.length_range]
 exact Nat.le_refl _
theorem q1l {b : List Nat} (h0 : 0 < b.length) (hb : P01 b) (htb : Tr b) : ∀ (n : Nat) (a : List Nat), a.length = n → P01 a → Tr a → (divR (a.length + 1) a b).length < b.length := by
 intro n
 induction n using Nat.strongRecOn with
 | _ n ih =>
  intro a hn ha hta
  by_cases h : b.length ≤ a.length
  ·have hl := qh4 ha hb hta htb h0 h
   have hs := qqx hb htb h0 ha hta h rfl
   rw [← hs]
   exact ih _ om _ rfl (sum01 ha _) (sumTr _ _ _)
  ·rw [qqy h]; omega
def linR (y : Nat) : List Nat := divR ((bitsOf y).length + 1) (bitsOf y) genP
theorem qq3 (y : Nat) : (linR y).length ≤ 32 := by
 have h := q1l (b := genP) (by rw [qfr]; decide) (qqz _) (qq1 _) _ (bitsOf y) rfl (qq0 _) (qq2 _)
 rw [qfr] at h
 exact Nat.le_of_lt_succ h
theorem qwj (y : Nat) : que (linR y) = qa2 y := by
 unfold qa2 linR
 have := ql2 y
 rw [qqw (b := genP) (qqz _) (qq1 _) (by rw [qfr]; decide) _ (bitsOf y) rfl (qq0 _) (qq2 _) ((bitsOf y).length + 1) 41 om om]
def remUp (r : List Nat) (k : Nat) : Nat := ((List.range k).map fun k => if r.getD k 0 = 1 then 2 ^ (31 - k) else 0).sum
theorem qe7 (r : List Nat) (k : Nat) : remUp r (k + 1) = remUp r k + if r.getD k 0 = 1 then 2 ^ (31 - k) else 0 := by
 unfold remUp
 rw [qby, List.sum_append]
 simp
theorem qq4 (r : List Nat) : ∀ k, k ≤ 32 → remUp r k + 2 ^ (32 - k) ≤ 4294967296
 | 0, _ => by show 0 + 2 ^ 32 ≤ _; decide
 | k + 1, h => by
  have ih := qq4 r k om
  rw [qe7]
  have e1 : (2 : Nat) ^ (32 - k) = 2 ^ (32 - (k + 1)) * 2 := by rw [show 32 - k = (32 - (k + 1)) + 1 by omega, Nat.pow_succ]
  have e2 : (2 : Nat) ^ (31 - k) = 2 ^ (32 - (k + 1)) := by rw [show 31 - k = 32 - (k + 1) by omega]
  split <;> omega
theorem qn1 (r : List Nat) : remUp r r.length = que r := rfl
def qbm (y k : Nat) : List Nat := (List.range 40).map fun i => if 40 - k ≤ i then y / 2 ^ (39 - i) % 2 else 0
theorem qbc (y k : Nat) : (qbm y k).length = 40 := by unfold qbm; rw [List.length_map, List.length_range]
theorem qhc (y k : Nat) {i : Nat} (h : i < 40) : (qbm y k)[i]? = some (if 40 - k ≤ i then y / 2 ^ (39 - i) % 2 else 0) := by
 unfold qbm
 rw [List.getElem?_map, List.getElem?_range h]
 rfl
theorem qpk (y : Nat) : qbm y 0 = List.replicate 40 0 := by
 apply List.ext_getElem?
 intro i
 by_cases h : i < 40
 ·rw [qhc y 0 h, if_neg om, List.getElem?_replicate, if_pos h]
 ·rw [List.getElem?_eq_none (by rw [qbc]; omega), List.getElem?_eq_none (by rw [List.length_replicate]; omega)]
theorem qpl {y k : Nat} (hk : k < 8) : (qbm y k).set (39 - k) (y / 2 ^ k % 2) = qbm y (k + 1) := by
 apply List.ext_getElem?
 intro i
 by_cases h : i < 40
 ·rw [List.getElem?_set, qhc y (k + 1) h]
  by_cases hi : 39 - k = i
  ·rw [if_pos hi, if_pos (by rw [qbc]; omega), if_pos om, show 39 - i = k by omega]
  ·rw [if_neg hi, qhc y k h]
   by_cases h2 : 40 - k ≤ i
   ·rw [if_pos h2, if_pos om]
   ·rw [if_neg h2, if_neg om]
 ·rw [List.getElem?_eq_none (by rw [List.length_set, qbc]; omega), List.getElem?_eq_none (by rw [qbc]; omega)]
theorem qku (y : Nat) : trimL (qbm y 8) = bitsOf y := rfl
theorem pow31 (k : Nat) : 1 * 2 ^ (31 - k) ≤ 4294967295 := by
 have : (2 : Nat) ^ (31 - k) ≤ 2 ^ 31 := Nat.pow_le_pow_right de om
 omega
theorem q1m (r : List Nat) {k : Nat} (h : k < 32) : remUp r k + 1 * 2 ^ (31 - k) ≤ 4294967295 := by
 have h1 := qq4 r k om
 have e1 : (2 : Nat) ^ (32 - k) = 2 ^ (31 - k) * 2 := by rw [show 32 - k = (31 - k) + 1 by omega, Nat.pow_succ]
 have : 0 < (2 : Nat) ^ (31 - k) := Nat.pow_pos de
 omega
theorem qwk : linR 0 = [] := by decide +kernel
theorem qsm {l : List Nat} {n : Nat} (hl : ∀ x ∈ l, x < 256) (hln : l.length = n) : decide (sealL (l.take (n - 4)) = l) = qar l := by
 subst hln
 rw [Bool.eq_iff_iff, decide_eq_true_eq]
 constructor
 ·intro h
  have := qos (l := l.take (l.length - 4))
  rwa [h] at this
 ·intro h
  exact qun hl h
theorem qy9 : ∀ y, y < 256 → y ≠ 0 → 33 ≤ (bitsOf y).length := by decide +kernel
theorem qq5 (A : Option Addr) (n c : Nat) (l : List Nat) (w : World) (hr : Rd w w.heap.size 1 A n (l.map I64v)) (hln : l.length = n) (hn : n ≤ 140737488355328) (hc : n ≤ c) :
    Calls Tryz.prog 132 #[.slice A n c] w (Is w (.slice A (trimL l).length c)) := by
 refine (JN1 Tryz.func132 21) ?_
 refine (JP∘Jp 1∘Jj∘JQ∘JB) fun a Z HM => ?_
 refine qi (fun mS aS wS => ∃ (k : Nat), (k ≤ n) ∧ (trimL (l.take k) = trimL l) ∧ mS = 0 + k ∧ Fr aS 21 [] [(2, vN), (0, .slice A k c)] ∧ Mem w wS []) (m := 0 + n) ⟨n, Nat.le_refl _, by rw [List.take_of_length_le om], rfl, Z.sub kr, HM.pk []⟩ ?_
 clear Z HM; rintro mS a w_ ⟨k, hk, ht, rfl, Z, HM⟩
 refine Jb Z HM ((JQ∘JP∘Jp 1∘Jl∘Jp 2) (Ju (fun hb6 => ?_) fun hb6 => ?_))
 ·
  intro a Z HM
  have hd6 := of_decide_eq_true hb6
  have hk0 : 0 < k := by omega
  revert HM; revert a; repeat (first | clear Z | clear HM)
  intro a Z HM
  obtain ⟨gA, oA, rfl, _⟩ := hr.qt (Nat.lt_of_le_of_lt (Nat.zero_le _) (show 0 < n from by omega)) de
  refine Jb Z HM ((Jp 2∘Jl∘JsK 1∘Jy (v := vP gA (oA + (k - 1) * 1)) (h:=by exact Yl.ix gA oA (k - 1) 1 rfl rfl rfl)∘Jy (v := vI (l.getD (k - 1) 0)) (h:=by exact Yl.o1 hr (k - 1) 0 (by first | omega | (simp; omega)) rfl rfl)∘Jp 2∘Jd6∘Jj) (Je (fun hd14 => ?_) fun hd14 => ?_))
  ·
   refine (JT∘JS'∘JB∘JR∘Jp 2∘Jl∘JsK 1∘Jy (v := .slice (some ⟨gA, oA, none⟩) (k - 1) c) (h:=by exact Yl.zl qbl (j := k - 1) rfl rfl rfl om)∘Jp 1∘Jd5∘Jq) fun a Z HM => ?_
   exact ⟨_, om, (k - 1), by omega, qnz om om om ht, rfl, Z.sub kr, HM.pk []⟩
  exact (JF∘JX∘JG∘JP∘Jp 2∘Jd1∘Jj∘JZ∘Jz1) fun HM => by exact ⟨by rw [qgj (k := k) om (fun _ => by omega) ht, List.length_take, Nat.min_eq_left om], HM.below⟩
 intro a Z HM
 have hd6 := of_decide_eq_false hb6
 exact Jb Z HM ((Jv 8 [(14, .bool false)]∘Jd4∘Jj∘JF∘JX∘JG∘JP∘Jp 2∘Jd1∘Jj∘JZ∘Jz1) fun HM => by exact ⟨by rw [qgj (k := k) om (fun _ => by omega) ht, List.length_take, Nat.min_eq_left om], HM.below⟩)
theorem qwl (p : Nat) (hp : p < 18446744073709551616) (w : World) :
    Calls Tryz.prog 120 #[vQ p] w (PolIs w (qmx p)) := by
 refine (JN1 Tryz.func120 19) ?_
 refine (JP∘Jp 1∘Jr∘Jp 1∘Jq) fun a Z HM => ?_
 replace HM := HM.nil 3 1
 refine Jb Z HM ((JG∘JQ∘JP∘Jp 1∘Jj∘JB) fun a Z HM => ?_)
 refine qi (fun mS aS wS => ∃ (k : Nat) (Ak : Option Addr) (ck : Nat), (k ≤ 64) ∧ (k ≤ ck) ∧ mS = 64 - k ∧ Fr aS 19 [] [(4, vI k), (3, .slice Ak k ck), (2, vN), (0, vQ p)] ∧ Mem w wS [.row (.slice Ak k ck) k ((qeo p k).map I64v) 3 1]) (m := 64 - 0) ⟨0, none, 0, by omega, Nat.le_refl _, rfl, Z.sub kr, HM.pk [0]⟩ ?_
 clear Z HM; rintro mS a w_ ⟨k, Ak, ck, hk, hck, rfl, Z, HM⟩
 refine Jb Z HM ((JQ∘JP∘Jp 2∘Jd1∘Jj) (Ju (fun hb6 => ?_) fun hb6 => ?_))
 ·
  intro a Z HM
  have hd6 := of_decide_eq_true hb6
  refine Jb Z HM ((JT∘JS'∘JQ∘JB∘JR∘Jp 3∘Jy (v := vQ (p / 2 ^ k : Nat)) (h:=by exact Yl.shrN (m := p) (n := k) rfl rfl rfl (by show _ ≤ 64; omega))∘Jp 1∘Jo (vQ ((p / 2 ^ k) % 2 : Nat)) (by exact qae .u64 _ 2)∘Jw .i64) fun a Z HM => ?_)
  refine fo Z 6 rfl rfl (s_el Z HM qbl [(0, vI ((p / 2 ^ k) % 2 : Nat))] #[vI ((p / 2 ^ k) % 2 : Nat)] ?_)
  clear Z HM; intro a w15 g15 Z HM
  refine fo Z 7 rfl rfl (qn Z HM (i := 1) rfl qbl rfl rfl rfl (news := [I64v ((p / 2 ^ k) % 2)]) (HM.rdBlk (i := 0) (n := 1) (size := 1) rfl rfl) (by simp [Value.oneCell', I64v]) om om rfl de ?_)
  clear Z HM; intro a w16 A16 c16 Z HM hc16
  refine Jb Z HM ((Jp 1∘Jd6∘Jq) fun a Z HM => ?_)
  have hnA16 : k + 1 = k + 1 := rfl
  replace HM := HM.reRow (i := 1) (ys := (qeo p (k + 1)).map I64v) rfl hnA16 (by rw [qpj]; simp)
  rw [hnA16] at hc16
  replace Z := Z.sp 3 (.slice A16 (k + 1) c16) rfl (by rw [hnA16])
  refine Jb Z HM ((JG∘JR∘Jp 1∘JaK 1∘Jp 1∘Jd2∘Jq) fun a Z HM => ?_)
  exact ⟨_, om, k + 1, A16, c16, by omega, hc16, rfl, Z.sub kr, HM.pk [1]⟩
 intro a Z HM
 have hd6 := of_decide_eq_false hb6
 revert HM; revert a; repeat (first | clear Z | clear HM)
 intro a Z HM
 obtain rfl : k = 64 := by omega
 refine Jb Z HM ((JF∘JX∘JG∘JP∘Jp 1∘JI (h:=by exact fun HM => qq5 _ _ _ (qeo p 64) _ (HM.rd (i := 0) rfl) (qkt p 64) om om)) fun w18 hbw => fun a Z HM => ?_)
 have htl18 := qgk (qeo p 64)
 have hle18 : (trimL (qeo p 64)).length ≤ 64 := by rw [qkt p 64] at htl18; exact htl18
 replace HM := HM.cutRow (i := 0) rfl hle18 (qgl (qeo p 64))
 exact Jb Z HM ((Jp 1∘Jd2∘Jj∘JZ∘Jz1) fun HM => by exact ⟨⟨_, _, rfl, HM.own (i := 0) rfl, by show (trimL (qeo p 64)).length ≤ _; omega⟩, HM.below⟩)
theorem qkv (A A2 : Option Addr) (c c2 : Nat) (p q : List Nat) (s : Nat) (w : World) (h1 : P01 p) (h2 : P01 q) (hr : Rd w w.heap.size 1 A p.length (p.map I64v)) (hr2 : Rd w w.heap.size 1 A2 q.length (q.map I64v)) (hp : p.length ≤ 1000000) (hq : q.length + s ≤ 1000000) :
    Calls Tryz.prog 131 #[.slice A p.length c, .slice A2 q.length c2, vI s] w (PolIs w (sumL p q s)) := by
 refine (JN3 Tryz.func131 58) ?_
 refine (JP∘Jp 1∘Jr∘Jp 1∘Jq) fun a Z HM => ?_
 replace HM := HM.nil 3 1
 refine Jb Z HM ((JG∘JQ∘JP∘Jp 1∘Jj∘JB) fun a Z HM => ?_)
 refine qi (fun mS aS wS => ∃ (k : Nat) (Ak : Option Addr) (ck : Nat), (k ≤ (max p.length (q.length + s))) ∧ (k ≤ ck) ∧ mS = (max p.length (q.length + s)) - k ∧ Fr aS 58 [] [(8, vI k), (7, .slice Ak k ck), (6, vN), (0, .slice A p.length c), (1, .slice A2 q.length c2), (2, vI s)] ∧ Mem w wS [.row (.slice Ak k ck) k ((sumUp p q s k).map I64v) 3 1]) (m := (max p.length (q.length + s)) - 0) ⟨0, none, 0, Nat.zero_le _, Nat.le_refl _, rfl, Z.sub kr, HM.pk [0]⟩ ?_
 clear Z HM; rintro mS a w_ ⟨k, Ak, ck, hk, hck, rfl, Z, HM⟩
 refine Jb Z HM ((JQ∘JP∘Jp 2∘Jl∘Jp 2) (Ji (fun hd14 => ?_) fun hd14 => ?_))
 ·
  refine (Jp 7∘Jd6∘Jj∘JT∘JS'∘JQ∘JB∘JP∘Jp 1∘Jj∘JQ∘JP∘Jp 2∘Jl∘Jp 1∘Jd3∘Jj) (Ju (fun hb27 => ?_) fun hb27 => ?_)
  ·
   intro a Z HM
   have hd27 := of_decide_eq_true hb27
   refine Jb Z HM ((JT∘JR∘Jp 2) ?_)
   repeat (first | clear Z | clear HM)
   intro a Z HM
   obtain ⟨gA, oA, rfl, _⟩ := hr.qt (Nat.lt_of_le_of_lt (Nat.zero_le _) (show k < p.length from by omega)) de
   refine Jb Z HM ((Jy (v := vP gA (oA + k * 1)) (h:=by exact Yl.ix gA oA k 1 rfl rfl rfl)∘JH (getD_lt h1 (k := k) (by first | omega | (simp; omega)))) fun hx1 => (Jy (v := vI (p.getD k 0)) (h:=by exact Yl.o1 hr k 0 (by first | omega | (simp; omega)) rfl rfl)∘Jp 1∘Jd4∘Jj∘JQ∘JP∘Jp 4) (Ji (fun hd35 => ?_) fun hd35 => ?_))
   ·
    refine (Jp 2∘Js∘Jp 1∘Jl∘Jp 2∘Jd6∘Jj) (Ji (fun hd42 => ?_) fun hd42 => ?_)
    ·
     refine (JT∘JR∘Jp 4∘Js) ?_
     repeat (first | clear Z | clear HM)
     intro a Z HM
     obtain ⟨gA2, oA2, rfl, _⟩ := hr2.qt (Nat.lt_of_le_of_lt (Nat.zero_le _) (show k - s < q.length from by omega)) de
     refine Jb Z HM ((Jy (v := vP gA2 (oA2 + (k - s) * 1)) (h:=by exact Yl.ix gA2 oA2 (k - s) 1 rfl rfl rfl)∘JH (getD_lt h2 (k := (k - s)) (by first | omega | (simp; omega)))) fun hx2 => (Jy (v := vI (q.getD (k - s) 0)) (h:=by exact Yl.o1 hr2 (k - s) 0 (by first | omega | (simp; omega)) rfl rfl)∘Ja∘Jp 1∘Jo (vI (((p.getD k 0) + (q.getD (k - s) 0)) % 2 : Nat)) (by exact qae .i64 _ 2)∘Jp 1∘Jd6∘Jj∘JR∘Jp 2) fun a Z HM => ?_)
     refine fo Z 2 rfl rfl (s_el Z HM qbl [(0, vI (((p.getD k 0) + (q.getD (k - s) 0)) % 2 : Nat))] #[vI (((p.getD k 0) + (q.getD (k - s) 0)) % 2 : Nat)] ?_)
     clear Z HM; intro a w54 g54 Z HM
     refine fo Z 3 rfl rfl (qn Z HM (i := 1) rfl qbl rfl rfl rfl (news := [I64v (((p.getD k 0) + (q.getD (k - s) 0)) % 2)]) (HM.rdBlk (i := 0) (n := 1) (size := 1) rfl rfl) (by simp [Value.oneCell', I64v]) om om rfl de ?_)
     clear Z HM; intro a w55 A55 c55 Z HM hc55
     refine Jb Z HM ((Jp 1∘Jd4∘Jq) fun a Z HM => ?_)
     have hnA55 : k + 1 = k + 1 := rfl
     replace HM := HM.reRow (i := 1) (ys := (sumUp p q s (k + 1)).map I64v) rfl hnA55 (by rw [qch, q0g om om]; simp)
     rw [hnA55] at hc55
     replace Z := Z.sp 7 (.slice A55 (k + 1) c55) rfl (by rw [hnA55])
     refine Jb Z HM ((JG∘JR∘Jp 1∘JaK 1∘Jp 1∘Jd2∘Jq) fun a Z HM => ?_)
     exact ⟨_, om, k + 1, A55, c55, by omega, hc55, rfl, Z.sub kr, HM.pk [1]⟩
    refine (JF∘JS'∘JR∘Jp 2) fun a Z HM => ?_
    refine fo Z 2 rfl rfl (s_el Z HM qbl [(0, vI (p.getD k 0))] #[vI (p.getD k 0)] ?_)
    clear Z HM; intro a w54 g54 Z HM
    refine fo Z 3 rfl rfl (qn Z HM (i := 1) rfl qbl rfl rfl rfl (news := [I64v (p.getD k 0)]) (HM.rdBlk (i := 0) (n := 1) (size := 1) rfl rfl) (by simp [Value.oneCell', I64v]) om om rfl de ?_)
    clear Z HM; intro a w55 A55 c55 Z HM hc55
    refine Jb Z HM ((Jp 1∘Jd4∘Jq) fun a Z HM => ?_)
    have hnA55 : k + 1 = k + 1 := rfl
    replace HM := HM.reRow (i := 1) (ys := (sumUp p q s (k + 1)).map I64v) rfl hnA55 (by rw [qch, qwi om]; simp)
    rw [hnA55] at hc55
    replace Z := Z.sp 7 (.slice A55 (k + 1) c55) rfl (by rw [hnA55])
    refine Jb Z HM ((JG∘JR∘Jp 1∘JaK 1∘Jp 1∘Jd2∘Jq) fun a Z HM => ?_)
    exact ⟨_, om, k + 1, A55, c55, by omega, hc55, rfl, Z.sub kr, HM.pk [1]⟩
   refine (Jp 7∘Jd6∘Jj∘JF∘JS'∘JR∘Jp 2) fun a Z HM => ?_
   refine fo Z 2 rfl rfl (s_el Z HM qbl [(0, vI (p.getD k 0))] #[vI (p.getD k 0)] ?_)
   clear Z HM; intro a w54 g54 Z HM
   refine fo Z 3 rfl rfl (qn Z HM (i := 1) rfl qbl rfl rfl rfl (news := [I64v (p.getD k 0)]) (HM.rdBlk (i := 0) (n := 1) (size := 1) rfl rfl) (by simp [Value.oneCell', I64v]) om om rfl de ?_)
   clear Z HM; intro a w55 A55 c55 Z HM hc55
   refine Jb Z HM ((Jp 1∘Jd4∘Jq) fun a Z HM => ?_)
   have hnA55 : k + 1 = k + 1 := rfl
   replace HM := HM.reRow (i := 1) (ys := (sumUp p q s (k + 1)).map I64v) rfl hnA55 (by rw [qch, qwi om]; simp)
   rw [hnA55] at hc55
   replace Z := Z.sp 7 (.slice A55 (k + 1) c55) rfl (by rw [hnA55])
   refine Jb Z HM ((JG∘JR∘Jp 1∘JaK 1∘Jp 1∘Jd2∘Jq) fun a Z HM => ?_)
   exact ⟨_, om, k + 1, A55, c55, by omega, hc55, rfl, Z.sub kr, HM.pk [1]⟩
  intro a Z HM
  have hd27 := of_decide_eq_false hb27
  omega
 refine (Jp 2∘Jl∘Jp 1∘Ja∘Jp 2∘Jd6∘Jj) (Ju (fun hb21 => ?_) fun hb21 => ?_)
 ·
  intro a Z HM
  have hd21 := of_decide_eq_true hb21
  refine Jb Z HM ((JT∘JS'∘JQ∘JB∘JP∘Jp 1∘Jj∘JQ∘JP∘Jp 2∘Jl∘Jp 1∘Jd3∘Jj) (Ju (fun hb27 => ?_) fun hb27 => ?_))
  ·
   intro a Z HM
   have hd27 := of_decide_eq_true hb27
   omega
  intro a Z HM
  have hd27 := of_decide_eq_false hb27
  refine Jb Z HM ((JF∘JS'∘JQ∘JP∘Jp 4) (Ji (fun hd35 => ?_) fun hd35 => ?_))
  ·
   refine (Jp 2∘Js∘Jp 1∘Jl∘Jp 2∘Jd6∘Jj) (Ji (fun hd42 => ?_) fun hd42 => ?_)
   ·
    refine (JT∘JR∘Jp 4∘Js) ?_
    repeat (first | clear Z | clear HM)
    intro a Z HM
    obtain ⟨gA2, oA2, rfl, _⟩ := hr2.qt (Nat.lt_of_le_of_lt (Nat.zero_le _) (show k - s < q.length from by omega)) de
    refine Jb Z HM ((Jy (v := vP gA2 (oA2 + (k - s) * 1)) (h:=by exact Yl.ix gA2 oA2 (k - s) 1 rfl rfl rfl)∘JH (getD_lt h2 (k := (k - s)) (by first | omega | (simp; omega)))) fun hx3 => (Jy (v := vI (q.getD (k - s) 0)) (h:=by exact Yl.o1 hr2 (k - s) 0 (by first | omega | (simp; omega)) rfl rfl)∘Jp 1∘Jo (vI (0 + (q.getD (k - s) 0) : Nat)) (by exact qap om om)∘Jp 1∘Jo (vI ((0 + (q.getD (k - s) 0)) % 2 : Nat)) (by exact qae .i64 _ 2)∘Jp 1∘Jd6∘Jj∘JR∘Jp 2) fun a Z HM => ?_)
    refine fo Z 2 rfl rfl (s_el Z HM qbl [(0, vI ((0 + (q.getD (k - s) 0)) % 2 : Nat))] #[vI ((0 + (q.getD (k - s) 0)) % 2 : Nat)] ?_)
    clear Z HM; intro a w54 g54 Z HM
    refine fo Z 3 rfl rfl (qn Z HM (i := 1) rfl qbl rfl rfl rfl (news := [I64v ((0 + (q.getD (k - s) 0)) % 2)]) (HM.rdBlk (i := 0) (n := 1) (size := 1) rfl rfl) (by simp [Value.oneCell', I64v]) om om rfl de ?_)
    clear Z HM; intro a w55 A55 c55 Z HM hc55
    refine Jb Z HM ((Jp 1∘Jd4∘Jq) fun a Z HM => ?_)
    have hnA55 : k + 1 = k + 1 := rfl
    replace HM := HM.reRow (i := 1) (ys := (sumUp p q s (k + 1)).map I64v) rfl hnA55 (by rw [qch, q2y om om om]; simp)
    rw [hnA55] at hc55
    replace Z := Z.sp 7 (.slice A55 (k + 1) c55) rfl (by rw [hnA55])
    refine Jb Z HM ((JG∘JR∘Jp 1∘JaK 1∘Jp 1∘Jd2∘Jq) fun a Z HM => ?_)
    exact ⟨_, om, k + 1, A55, c55, by omega, hc55, rfl, Z.sub kr, HM.pk [1]⟩
   refine (JF∘JS'∘JR∘Jp 2) fun a Z HM => ?_
   refine fo Z 2 rfl rfl (s_el Z HM qbl [(0, vI 0)] #[vI 0] ?_)
   clear Z HM; intro a w54 g54 Z HM
   refine fo Z 3 rfl rfl (qn Z HM (i := 1) rfl qbl rfl rfl rfl (news := [I64v 0]) (HM.rdBlk (i := 0) (n := 1) (size := 1) rfl rfl) (by simp [Value.oneCell', I64v]) om om rfl de ?_)
   clear Z HM; intro a w55 A55 c55 Z HM hc55
   refine Jb Z HM ((Jp 1∘Jd4∘Jq) fun a Z HM => ?_)
   have hnA55 : k + 1 = k + 1 := rfl
   replace HM := HM.reRow (i := 1) (ys := (sumUp p q s (k + 1)).map I64v) rfl hnA55 (by rw [qch, q0h om om]; simp)
   rw [hnA55] at hc55
   replace Z := Z.sp 7 (.slice A55 (k + 1) c55) rfl (by rw [hnA55])
   refine Jb Z HM ((JG∘JR∘Jp 1∘JaK 1∘Jp 1∘Jd2∘Jq) fun a Z HM => ?_)
   exact ⟨_, om, k + 1, A55, c55, by omega, hc55, rfl, Z.sub kr, HM.pk [1]⟩
  refine (Jp 7∘Jd6∘Jj∘JF∘JS'∘JR∘Jp 2) fun a Z HM => ?_
  refine fo Z 2 rfl rfl (s_el Z HM qbl [(0, vI 0)] #[vI 0] ?_)
  clear Z HM; intro a w54 g54 Z HM
  refine fo Z 3 rfl rfl (qn Z HM (i := 1) rfl qbl rfl rfl rfl (news := [I64v 0]) (HM.rdBlk (i := 0) (n := 1) (size := 1) rfl rfl) (by simp [Value.oneCell', I64v]) om om rfl de ?_)
  clear Z HM; intro a w55 A55 c55 Z HM hc55
  refine Jb Z HM ((Jp 1∘Jd4∘Jq) fun a Z HM => ?_)
  have hnA55 : k + 1 = k + 1 := rfl
  replace HM := HM.reRow (i := 1) (ys := (sumUp p q s (k + 1)).map I64v) rfl hnA55 (by rw [qch, q0h om om]; simp)
  rw [hnA55] at hc55
  replace Z := Z.sp 7 (.slice A55 (k + 1) c55) rfl (by rw [hnA55])
  refine Jb Z HM ((JG∘JR∘Jp 1∘JaK 1∘Jp 1∘Jd2∘Jq) fun a Z HM => ?_)
  exact ⟨_, om, k + 1, A55, c55, by omega, hc55, rfl, Z.sub kr, HM.pk [1]⟩
 intro a Z HM
 have hd21 := of_decide_eq_false hb21
 have hkM : k = (max p.length (q.length + s)) := by omega
 refine Jb Z HM ((JF∘JX∘JG∘JP∘Jp 1∘JI (h:=by exact fun HM => qq5 _ _ _ (sumUp p q s k) _ (HM.rd (i := 0) rfl) (qn0 p q s k) om om)) fun w57 hbw => fun a Z HM => ?_)
 have htl57 := qgk (sumUp p q s k)
 have hle57 : (trimL (sumUp p q s k)).length ≤ k := by rw [qn0 p q s k] at htl57; exact htl57
 replace HM := HM.cutRow (i := 0) rfl hle57 (qgl (sumUp p q s k))
 exact Jb Z HM ((Jp 1∘Jd2∘Jj∘JZ∘Jz1) fun HM => by rw [← qwh p q s, ← hkM]; exact ⟨⟨_, _, rfl, HM.own (i := 0) rfl, by omega⟩, HM.below⟩)
theorem one01 : P01 [1] := by intro x hx; simp at hx; omega
theorem qza {w w' : World} {A X Xr : Option Addr} {c ca cr : Nat} {p q al xr : List Nat} {vq : Value} (hR : divR (p.length + 1) p q = al) (hX : (X = A ∧ ca = c ∧ al = p) ∨ (X = Xr ∧ ca = cr ∧ al = xr ∧ q.length ≤ p.length))
  (hO : w'.ownsRow w.heap.size 3 1 (.slice Xr xr.length cr) xr.length (xr.map I64v)) (hcr : xr.length ≤ cr) (hless : al.length < q.length) (hb : Below w.heap.size w w') :
  DivIs w A c p q (.returned (.tuple #[vq, .slice X al.length ca])) w' := by
 unfold DivIs
 rw [hR]
 refine ⟨⟨vq, X, ca, rfl, ?_, ?_⟩, hb⟩
 ·intro h
  rcases hX with ⟨h1, h2, _⟩ | ⟨_, _, _, h4⟩
  ·exact ⟨h1, h2⟩
  ·omega
 ·intro h
  rcases hX with ⟨_, _, h3⟩ | ⟨rfl, rfl, rfl, _⟩
  ·subst h3; omega
  ·exact ⟨hO, hcr⟩
theorem qkw (A A2 : Option Addr) (c c2 : Nat) (p q : List Nat) (w : World) (h1 : P01 p) (h2 : P01 q) (t1 : Tr p) (t2 : Tr q) (h0 : 0 < q.length) (hr : Rd w w.heap.size 1 A p.length (p.map I64v)) (hr2 : Rd w w.heap.size 1 A2 q.length (q.map I64v)) (hp : p.length ≤ 100000) (hq : q.length ≤ 100000) :
    Calls Tryz.prog 118 #[.slice A p.length c, .slice A2 q.length c2] w (DivIs w A c p q) := by
 refine (JN2 Tryz.func118 28) ?_
 refine (JP∘Jp 2∘Jr∘Jp 1∘Jq) fun a Z HM => ?_
 replace HM := (HM.nil 3 1).nil 3 1
 refine Jb Z HM ((JG∘JQ∘JB) fun a Z HM => ?_)
 refine qi (fun mS aS wS => ∃ (al : List Nat) (X : Option Addr) (ca : Nat) (Xr : Option Addr) (xr : List Nat) (cr : Nat) (ql : List Nat) (Aq : Option Addr) (cq : Nat), (P01 al) ∧ (Tr al) ∧ (al.length ≤ p.length) ∧ (divR (al.length + 1) al q = divR (p.length + 1) p q) ∧ ((X = A ∧ ca = c ∧ al = p) ∨ (X = Xr ∧ ca = cr ∧ al = xr ∧ q.length ≤ p.length)) ∧ (P01 ql) ∧ (ql.length ≤ p.length + 1) ∧ (xr.length ≤ cr) ∧ mS = al.length ∧ Fr aS 28 [] [(6, .slice Aq ql.length cq), (5, vN), (4, vN), (0, .slice X al.length ca), (1, .slice A2 q.length c2)] ∧ Mem w wS [.row (.slice Aq ql.length cq) ql.length (ql.map I64v) 3 1, .row (.slice Xr xr.length cr) xr.length (xr.map I64v) 3 1]) (m := p.length) ⟨p, A, c, none, [], 0, [], none, 0, h1, t1, Nat.le_refl _, rfl, .inl ⟨rfl, rfl, rfl⟩, (by intro x hx; cases hx), Nat.zero_le _, Nat.le_refl _, rfl, Z.sub kr, HM.pk [0, 1]⟩ ?_
 clear Z HM; rintro mS a w_ ⟨al, X, ca, Xr, xr, cr, ql, Aq, cq, ha1, hat, hal, hdv, hX, hq1, hql, hcr, rfl, Z, HM⟩
 refine Jb Z HM ((JQ∘JP∘Jp 1∘Jl∘Jp 1∘Jl∘Jp 1∘Jd4∘Jj) (Ju (fun hb12 => ?_) fun hb12 => ?_))
 ·
  intro a Z HM
  have hd12 := of_decide_eq_true hb12
  have hless := qh4 ha1 h2 hat t2 h0 om
  refine Jb Z HM ((JT∘JS'∘JB∘JP∘Jp 1∘Jl∘Jp 1∘Jl∘Js∘Jp 1∘Jd5∘Jr∘Jp 1) fun a Z HM => ?_)
  refine fo Z 1 rfl rfl (s_el Z HM qbl [(0, vI 1)] #[vI 1] ?_)
  clear Z HM; intro a w19 g19 Z HM
  refine Jb Z HM ((Jp 1∘JK (h:=by exact fun HM => qkv _ _ _ _ ql [1] (al.length - q.length) _ hq1 one01 (HM.rd (i := 1) rfl) (HM.rdBlk (i := 0) (n := 1) (size := 1) rfl rfl) om (by simp only [List.length_singleton]; omega))) fun A21 c21 w21 hc21 => (Jp 1∘Jd4∘Jj∘JR∘Jp 3∘JK (h:=by exact fun HM => qkv _ _ _ _ al q (al.length - q.length) _ ha1 h2 (by rcases hX with ⟨rfl, rfl, rfl⟩ | ⟨rfl, rfl, rfl, _⟩ <;> first | exact HM.old hr | exact HM.rd (i := 3) rfl) (HM.old hr2) om om)) fun A25 c25 w25 hc25 => (Jp 1∘Jd4∘Jq) fun a Z HM => ?_)
  exact ⟨_, hless, (sumL al q (al.length - q.length)), A25, c25, A25, (sumL al q (al.length - q.length)), c25, (sumL ql [1] (al.length - q.length)), A21, c21, sum01 ha1 _, sumTr _ _ _, by omega, qqx h2 t2 h0 ha1 hat om hdv, .inr ⟨rfl, rfl, rfl, by omega⟩, sum01 hq1 _, by have := q1k ql [1] (al.length - q.length); simp only [List.length_singleton] at this; omega, hc25, rfl, Z.sub kr, HM.pk [1, 0]⟩
 intro a Z HM
 have hd12 := of_decide_eq_false hb12
 refine Jb Z HM ((JF∘JX∘JG∘JP∘Jp 4∘Jj∘JZ) fun a Z HM => ?_)
 have hR : divR (p.length + 1) p q = al := by rw [← hdv, qqy om]
 exact s_rt2 rfl Z rfl rfl (qza hR hX (HM.own (i := 1) rfl) hcr om HM.below)
def qbk (e : Ev) (vs : List Nat) (k : Nat) : Ev := e.base.rfill ((upTo e.kind k).zip vs)
theorem q1h {e : Ev} (h : e.Ok) (i x : Nat) (hx : x < 18446744073709551616) : (e.rput i x).Ok := by
 have hv : I64 (Ev.rval x) := by unfold Ev.rval I64; split <;> omega
 unfold Ev.rput Ev.putV
 split
 ·exact { h with task := hv }
 ·exact { h with group := hv }
 ·exact ⟨h.seq, h.time, h.cpu, h.kind, h.task, h.group, hv, h.weight, h.ticks, h.mask, h.got⟩
 ·exact { h with weight := hv }
 ·exact { h with ticks := hv }
 ·exact { h with mask := hx }
 ·exact { h with got := hv }
theorem qqo : ∀ (l : List (Nat × Nat)) (e : Ev), e.Ok → (∀ p ∈ l, p.2 < 18446744073709551616) → (e.rfill l).Ok
 | [], _, h, _ => h
 | p :: l, e, h, hl => qqo l (e.rput p.1 p.2) (q1h h p.1 p.2 (hl p (by simp))) (fun q hq => hl q (by simp [hq]))
theorem qsh (e : Ev) (l : List (Nat × Nat)) (p : Nat × Nat) : e.rfill (l ++ [p]) = (e.rfill l).rput p.1 p.2 := by unfold Ev.rfill; rw [List.foldl_append]; rfl
theorem qy2 (kd k : Nat) : ∃ r, usesL kd = upTo kd k ++ r ∨ 7 ≤ k := by
 by_cases h : 7 ≤ k
 ·exact ⟨[], .inr h⟩
 ·refine ⟨((List.range 7).drop k).filter fun i => (usesL kd).contains i, .inl ?_⟩
  have h1 : List.range 7 = List.range k ++ (List.range 7).drop k := by
   rw [← List.take_append_drop k (List.range 7)]
   congr 1
   ·rw [List.take_range]; congr 1; omega
   ·rw [List.take_append_drop]
  conv => lhs; rw [← qhs kd, h1, List.filter_append]
  rfl
theorem qpd (kd k : Nat) (hk : k ≤ 7) : (upTo kd k).length ≤ (usesL kd).length := by
 obtain ⟨r, h | h⟩ := qy2 kd k
 ·rw [h, List.length_append]; omega
 ·rw [show k = 7 by omega, qqn]; omega
theorem qy3 {l : List Nat} {a n : Nat} {vs : List Nat} (hl : l.length = n) (hn : n < vs.length) : (l ++ [a]).zip vs = l.zip vs ++ [(a, vs[n])] := by
 have h1 : vs = vs.take n ++ vs.drop n := (List.take_append_drop n vs).symm
 have h2 : vs.drop n = vs[n] :: vs.drop (n + 1) := List.drop_eq_getElem_cons hn
 have h3 : (vs.take n).length = n := by rw [List.length_take]; omega
 have h4 : l.zip vs = l.zip (vs.take n) := by
  conv => lhs; rw [h1, ← List.append_nil l]
  rw [List.zip_append om]; simp
 rw [h4]
 conv => lhs; rw [h1]
 rw [List.zip_append om, h2]
 rfl
theorem qem (e : Ev) (vs : List Nat) : qbk e vs 7 = e.rmade vs := by unfold qbk Ev.rmade; rw [qqn]
theorem qsi {e : Ev} {vs : List Nat} {k x : Nat} (h : (usesL e.kind).contains k = true) (hx : vs[(upTo e.kind k).length]? = some x) : (qbk e vs k).rput k x = qbk e vs (k + 1) := by
 obtain ⟨hl, he⟩ := List.getElem?_eq_some_iff.1 hx
 unfold qbk
 rw [qgh h, qy3 rfl hl, qsh, he]
theorem qv1 {e : Ev} {vs : List Nat} {k : Nat} (h : (usesL e.kind).contains k = false) : qbk e vs (k + 1) = qbk e vs k := by unfold qbk; rw [qlu h]
theorem qnp {kd k : Nat} (h : (usesL kd).contains k = true) : (upTo kd (k + 1)).length = (upTo kd k).length + 1 := by rw [qgh h, List.length_append]; rfl
theorem qv2 {kd k : Nat} (h : (usesL kd).contains k = true) (hk : k < 7) : (upTo kd k).length < (usesL kd).length := by
 have h1 := qpd kd (k + 1) om
 rw [qnp h] at h1
 omega
theorem qv3 {e : Ev} (he : e.Ok) {vs : List Nat} (hv : ∀ x ∈ vs, x < 18446744073709551616) (k : Nat) : (qbk e vs k).Ok := by
 have z : I64 0 := ⟨by decide, by decide⟩
 have zm : (0 : Nat) < 18446744073709551616 := by decide
 refine qqo _ _ ?_ (fun p hp => hv _ (List.of_mem_zip hp).2)
 exact ⟨he.seq, he.time, he.cpu, he.kind, z, z, z, z, z, zm, z⟩
def Ev.rErr (e : Ev) (vs : List Nat) : Nat := if e.kind = 0 ∨ 10 < e.kind then 60 else if vs.length ≠ (usesL e.kind).length then 2 else if (e.rmade vs).check ≠ 0 then 61 else 0
def Ev.rEv (e : Ev) (vs : List Nat) : Ev := if e.rErr vs = 0 then e.rmade vs else Ev.zero
theorem qv4 (e : Ev) (vs : List Nat) (hv : ∀ x ∈ vs, x < 18446744073709551616) : e.rErr vs = e.qm vs ∧ e.rEv vs = e.ze vs := by
 have h : e.rErr vs = e.qm vs ∧ (e.rErr vs = 0 → e.rmade vs = e.made vs) := by
  unfold Ev.rErr Ev.qm
  split
  ·exact ⟨rfl, fun h => by omega⟩
  ·split
   ·exact ⟨rfl, fun h => by omega⟩
   ·rename_i h1 h2
    rcases qsg e vs om hv with h | ⟨h3, h4⟩
    ·rw [h]; exact ⟨rfl, fun _ => rfl⟩
    ·rw [if_pos h3, if_pos h4]; exact ⟨rfl, fun h => by omega⟩
 refine ⟨h.1, ?_⟩
 unfold Ev.rEv Ev.ze
 rw [← h.1]
 split
 ·exact h.2 ‹_›
 ·rfl
theorem qy4 (k i : Nat) (hi : i < 7) (hk : k < 256) (w : World) : Calls Tryz.prog 115 #[.int .u8 (k : Int), .int .i64 (i : Int)] w (BoolPost w ((usesL k).contains i)) :=
 (qgg k i hi hk w).mono fun _ _ h => ⟨h.1, by rw [h.2]; exact Below.refl _ _⟩
theorem qsr (e : Ev) (he : e.Ok) (A : Option Addr) (n c : Nat) (vs : List Nat) (w : World) (hr : Rd w w.heap.size 1 A n (vs.map U64)) (hvs : ∀ x ∈ vs, x < 18446744073709551616) (hn : vs.length = n) :
    Calls Tryz.prog 124 #[.agg e.cells, .slice A n c] w (WithPost w (e.rEv vs) (e.rErr vs)) := by
 refine (JN2 Tryz.func124 53) ?_
 refine (JP∘JE) fun w2 g2 => (JA #[vI 0, vI 0, vB 0, vB 0, vI 0, vI 0, vI 0, vI 0, vI 0, vQ 0, vI 0]) fun w4 g4 => (Jp 1∘Jj∘JQ∘JP∘Jg 3 O1∘JL (h:=by exact fun HM => qha e.kind he.kind _)) ?_
 rintro HM _ w11 ⟨⟨s, rfl, hs⟩, hbw⟩
 refine ⟨_, rfl, _, HM.call hbw, ?_⟩
 refine (Jp 1∘Jo (.bool (!decide (1 ≤ e.kind ∧ e.kind ≤ 10))) (by rw [qmr hs])∘Jd2∘Jj) (Ju (fun hb12 => ?_) fun hb12 => ?_)
 ·
  intro a Z HM
  have hbad : e.kind = 0 ∨ 10 < e.kind := by simp only [Bool.not_eq_true', decide_eq_false_iff_not] at hb12; omega
  refine Jb Z HM ((JT∘JP∘Jy (v := .agg Ev.zero.cells) (h:=by exact (Yl.build (vs := []) rfl kr kr))∘JV ⟨kr, kr⟩ O0' (h1:=by exact zd Ev.zero)) fun w2_1 => (Jp 1∘Jd1∘Jj∘JZ) fun a Z HM => ?_)
  exact ret2 rfl Z (.cellS (i := 0) Z HM rfl rfl ⟨kr, kr⟩ rfl) (.tmp Z rfl) (⟨by rw [Ev.rEv, Ev.rErr, if_pos hbad]; rfl, HM.below⟩)
 intro a Z HM
 have hgood : ¬ (e.kind = 0 ∨ 10 < e.kind) := by simp only [Bool.not_eq_false', decide_eq_true_eq] at hb12; omega
 refine Jb Z HM ((JF∘JS'∘JQ∘JP∘Jp 1∘Jl∘Jg 3 O1∘JL (h:=by exact fun HM => qht e.kind he.kind _)) ?_)
 rintro HM _ w18 ⟨⟨v, xs18, rfl, ho⟩, hbw⟩
 revert HM; revert a; repeat (first | clear Z | clear HM)
 intro a Z HM
 obtain ⟨A18, c18, rfl, hc18⟩ := qaa ho
 refine ⟨_, rfl, _, HM.callRow hbw ho, ?_⟩
 refine (Jl∘Jp 1∘Jd5∘Jj) (Ju (fun hb20 => ?_) fun hb20 => ?_)
 ·
  intro a Z HM
  have hlb : vs.length ≠ (usesL e.kind).length := by rw [bne_iff_ne] at hb20; omega
  refine Jb Z HM ((JT∘JP∘Jy (v := .agg Ev.zero.cells) (h:=by exact (Yl.build (vs := []) rfl kr kr))∘JV ⟨kr, kr⟩ O1' (h1:=by exact zd Ev.zero)) fun w4_1 => (Jp 1∘Jd1∘Jj∘JZ∘JM (.f .n)) fun a Z HM => ?_)
  exact ret2 rfl Z (.cellS (i := 0) Z HM rfl rfl ⟨kr, kr⟩ rfl) (.tmp Z rfl) (⟨by rw [Ev.rEv, Ev.rErr, if_neg hgood, if_pos hlb]; rfl, HM.below⟩)
 intro a Z HM
 have hlg : n = (usesL e.kind).length := by rw [bne_eq_false_iff_eq] at hb20; omega
 have hlg2 : ¬ vs.length ≠ (usesL e.kind).length := by omega
 refine Jb Z HM ((JF∘JS'∘JP∘Jg 0 O2∘Jg 1 O2∘Jg 2 O2∘Jg 3 O2∘Jy (v := .agg e.base.cells) (h:=by exact (Yl.build (vs := [(0, vI e.seq), (1, vI e.time), (2, vB e.cpu), (3, vB e.kind)]) rfl kr kr))∘JA #[vI 0, vI 0, vB 0, vB 0, vI 0, vI 0, vI 0, vI 0, vI 0, vQ 0, vI 0]) fun w6 g6 => (JV ⟨kr, kr⟩ O0' (h1:=by exact zd e.base)) fun w5_10 => (Jd5∘Jr∘Jp 1∘Jj∘JQ∘JP∘Jp 1∘Jj∘JB∘JM (.t (.f .n))) fun a Z HM => ?_)
 refine qi (fun mS aS wS => ∃ (k : Nat), (k ≤ 7) ∧ mS = 7 - k ∧ Fr aS 53 [] [(8, vI k), (7, vI ((upTo e.kind k).length : Nat)), (6, vP g6 0), (20, .bool false), (12, .bool false), (5, vI 0), (4, vP g4 0), (2, vP g2 0), (1, .slice A n c)] ∧ Mem w wS [.blk g6 ((qbk e vs k).cells) 105, .blk g4 #[vI 0, vI 0, vB 0, vB 0, vI 0, vI 0, vI 0, vI 0, vI 0, vQ 0, vI 0] 105, .blk g2 e.cells 105]) (m := 7 - 0) ⟨0, by omega, rfl, Z.sub kr, HM.pk [0, 1, 2]⟩ ?_
 clear Z HM; rintro mS a w_ ⟨k, hk, rfl, Z, HM⟩
 refine Jb Z HM ((JQ∘JP∘Jp 2∘Jd1∘Jj) (Ju (fun hb32 => ?_) fun hb32 => ?_))
 ·
  intro a Z HM
  have hk7 : k < 7 := by have := of_decide_eq_true hb32; omega
  refine Jb Z HM ((JT∘JS'∘JQ∘JB∘JP∘Jg 3 O2∘Jp 1∘JL (h:=by exact fun HM => qy4 e.kind k hk7 he.kind _)) ?_)
  rintro HM _ w38 ⟨rfl, hbw⟩
  refine ⟨_, rfl, _, HM.call hbw, ?_⟩
  refine (Jd2∘Jj) (Ju (fun hb38 => ?_) fun hb38 => ?_)
  ·
   intro a Z HM
   have hroom : (upTo e.kind k).length < n := by have := qv2 hb38 hk7; omega
   obtain ⟨x, hx⟩ : ∃ x, vs[(upTo e.kind k).length]? = some x := ⟨_, List.getElem?_eq_getElem om⟩
   refine Jb Z HM ((JT) fun a Z HM => ?_)
   refine wp_seq ?_
   refine Jb Z HM ((Vs .n [7]) fun wd11 => (Vp [1, 2, 3]∘Vy 0 (v := .agg ((qbk e vs k).cells)) (h:=by exact Yl.qr rfl rfl ⟨kr, kr⟩ rfl (fun _ h => qb (h.blk (i := 0) rfl)))) ?_)
   repeat (first | clear Z | clear HM | clear HS)
   intro a Z HM HS
   obtain ⟨gA, oA, rfl, _⟩ := hr.qt (Nat.lt_of_le_of_lt (Nat.zero_le _) (show (upTo e.kind k).length < n from hroom)) de
   refine Vb Z HM HS ((Vy 4 (v := vP gA (oA + ((upTo e.kind k).length) * 1)) (h:=by exact Yl.ix gA oA ((upTo e.kind k).length) 1 rfl rfl rfl (hroom))∘Vy 5 (v := vQ x) (h:=by exact Yl.qx rfl rfl kr (fun _ h => (h.old hr).qfd (k := ((upTo e.kind k).length)) (qbi (F := U64) (k := ((upTo e.kind k).length)) (x := x) (hx))))) fun a Z HM HS => ?_)
   refine s_on Z 6 rfl ?_
   refine e_cl Z [.agg ((qbk e vs k).cells), vI k, vQ x] rfl rfl (qsa (qbk e vs k) k x hk7 (hvs x (List.mem_of_getElem? hx)) _) ?_
   rintro _ w45 ⟨rfl, hbw⟩
   refine ⟨_, rfl, ?_⟩
   replace HM := HM.call hbw
   clear Z; intro a Z
   refine keepS (HM.pk [0, 1, 2]) (fun HS => ?_)
   refine s_on Z 7 rfl (e_sa Z HM 0 rfl rfl rfl rfl rfl ⟨kr, kr⟩ rfl rfl (zd ((qbk e vs k).rput k x)) fun w11_7 HM => ?_)
   refine noS kr ?_
   refine qh kr ?_
   rw [qsi hb38 hx] at HM
   refine Jb Z HM ((JR∘Jp 2∘Jo (vI ((upTo e.kind (k + 1)).length : Nat)) (by rw [IntWalk.i64_in _ (by have := qlv e.kind k om; omega), qnp hb38]; simp)∘Jp 1∘Jd6∘Jj∘JR∘Jp 2∘Jo (vI (k + 1 : Nat)) (by rw [IntWalk.i64_in _ om]; simp)∘Jp 1∘Jd2∘Jq) fun a Z HM => ?_)
   exact ⟨_, om, k + 1, by omega, rfl, Z.sub kr, HM.pk [0, 1, 2]⟩
  intro a Z HM
  rw [← qv1 hb38] at HM
  have Z := Z.sp 7 (vI (((upTo e.kind (k + 1)).length : Nat) : Int)) rfl (by rw [qlu hb38])
  refine Jb Z HM ((JF∘JS'∘JR∘Jp 2∘Jo (vI (k + 1 : Nat)) (by rw [IntWalk.i64_in _ om]; simp)∘Jp 1∘Jd2∘Jq) fun a Z HM => ?_)
  exact ⟨_, om, k + 1, by omega, rfl, Z.sub kr, HM.pk [0, 1, 2]⟩
 repeat (first | clear Z | clear HM)
 intro a Z HM
 obtain rfl : k = 7 := by have := of_decide_eq_false hb32; omega
 refine Jb Z HM ((JF∘JX∘JG∘JQ∘JP∘Jy (v := .agg ((qbk e vs 7).cells)) (h:=by exact Yl.qr rfl rfl ⟨kr, kr⟩ rfl (fun _ h => qb (h.blk (i := 0) rfl)))∘JL (h:=by exact fun HM => qfq (qbk e vs 7) (qv3 he hvs 7) _)) ?_)
 rintro HM _ w49 ⟨rfl, hbw⟩
 refine ⟨_, rfl, _, HM.call hbw, ?_⟩
 refine (Jp 1∘Jd2∘Jj) (Ju (fun hb50 => ?_) fun hb50 => ?_)
 ·
  intro a Z HM
  have hcb : (e.rmade vs).check ≠ 0 := by rw [bne_iff_ne, qem] at hb50; omega
  refine Jb Z HM ((JT∘JP∘Jy (v := .agg Ev.zero.cells) (h:=by exact (Yl.build (vs := []) rfl kr kr))∘JV ⟨kr, kr⟩ O1' (h1:=by exact zd Ev.zero)) fun w14_1 => (Jp 1∘Jd1∘Jj∘JZ) fun a Z HM => ?_)
  exact ret2 rfl Z (.cellS (i := 1) Z HM rfl rfl ⟨kr, kr⟩ rfl) (.tmp Z rfl) (⟨by rw [Ev.rEv, Ev.rErr, if_neg hgood, if_neg hlg2, if_pos hcb]; rfl, HM.below⟩)
 intro a Z HM
 have hcg : (e.rmade vs).check = 0 := by rw [bne_eq_false_iff_eq, qem] at hb50; omega
 have hcg2 : ¬ (e.rmade vs).check ≠ 0 := by omega
 refine Jb Z HM ((JF∘JS'∘JP∘Jy (v := .agg ((qbk e vs 7).cells)) (h:=by exact Yl.qr rfl rfl ⟨kr, kr⟩ rfl (fun _ h => qb (h.blk (i := 0) rfl)))∘JV ⟨kr, kr⟩ O1' (h1:=by exact zd (qbk e vs 7))) fun w15_1 => (Jp 1∘Jd1∘Jj∘JZ) fun a Z HM => ?_)
 exact ret2 rfl Z (.cellS (i := 1) Z HM rfl rfl ⟨kr, kr⟩ rfl) (.tmp Z rfl) (⟨by rw [Ev.rEv, Ev.rErr, if_neg hgood, if_neg hlg2, if_neg hcg2, qem]; rfl, HM.below⟩)
theorem qn5 (e : Ev) (he : e.Ok) (A : Option Addr) (n c : Nat) (vs : List Nat) (w : World) (hr : Rd w w.heap.size 1 A n (vs.map U64)) (hvs : ∀ x ∈ vs, x < 18446744073709551616) :
  Calls Tryz.prog 124 #[.agg e.cells, .slice A n c] w (WithPost w (e.ze vs) (e.qm vs)) := by
 rw [← (qv4 e vs hvs).1, ← (qv4 e vs hvs).2]
 exact qsr e he A n c vs w hr hvs (by simpa using hr.len)
theorem qqp : EI Tryz.prog 40 105 (.agg Ev.zero.cells) 11 80 := ⟨by kernel_rfl, by kernel_rfl, rfl, by omega⟩
def putUp (b : Bs) (e : Ev) (k : Nat) : List Nat := [e.kind] ++ vbytes (e.seq - b.seq).toNat ++ vbytes (e.time - b.time).toNat ++ (e.vals.take k).flatMap vbytes
theorem qkm (b : Bs) (e : Ev) : putUp b e 0 = [e.kind] ++ vbytes (e.seq - b.seq).toNat ++ vbytes (e.time - b.time).toNat := by simp [putUp]
theorem qkn {b : Bs} {e : Ev} {k x : Nat} (h : e.vals[k]? = some x) : putUp b e (k + 1) = putUp b e k ++ vbytes x := by
 unfold putUp
 rw [List.take_add_one, h]
 simp
theorem qi6 (b : Bs) (e : Ev) : putUp b e e.vals.length = zb b e := by
 unfold putUp zb zp
 rw [List.take_length]
 simp
theorem qv5 (b : Bs) (e : Ev) (k : Nat) : (putUp b e k).length ≤ 61 := by
 unfold putUp
 simp only [List.length_append, List.length_cons, List.length_nil]
 have h1 := qd (e.seq - b.seq).toNat
 have h2 := qd (e.time - b.time).toNat
 have h3 : ∀ l : List Nat, (l.flatMap vbytes).length ≤ l.length * 10 := by
  intro l
  induction l with
  | nil => simp
  | cons x r ih => rw [List.flatMap_cons, List.length_append, List.length_cons]; have := qd x; omega
 have h4 := h3 (e.vals.take k)
 have h5 := qfx e
 rw [List.length_take] at h4
 omega
theorem qko {b : Bs} {cpu kd : Nat} {r : List Nat} (hb : b.right = true) (hu : (usesL kd).length ≠ 0) : takeR b cpu (kd :: r) = qai b cpu kd (readN (2 + (usesL kd).length) r) := by
 unfold takeR
 rw [if_neg (by simp [hb]), if_neg (by simp), if_neg (by simpa using hu)]
 rfl
theorem qjo {b : Bs} {cpu kd : Nat} {r : List Nat} (hb : b.right = true) (hu : (usesL kd).length = 0) : takeR b cpu (kd :: r) = (Ev.zero, 0, 60) := by
 unfold takeR
 rw [if_neg (by simp [hb]), if_neg (by simp), if_pos (by simpa using hu)]
theorem qnq {b : Bs} {cpu kd u : Nat} {r xs : List Nat} {q : Nat × Nat × Nat} (hb : b.right = true) (hu : (usesL kd).length ≠ 0) (hj : readN (2 + (usesL kd).length) r = joinR xs u (readN (2 + (usesL kd).length - xs.length) (r.drop u))) (hlt : xs.length < 2 + (usesL kd).length) (hq : vread (r.drop u) = q) (hq2 : q.2.2 ≠ 0) : takeR b cpu (kd :: r) = (Ev.zero, 0, q.2.2) := by
 rw [qko hb hu, hj, show 2 + (usesL kd).length - xs.length = (2 + (usesL kd).length - xs.length - 1) + 1 by omega, qmb (by rw [hq]; exact hq2)]
 unfold qai
 rw [if_pos (by simpa [hq] using hq2), hq]
theorem qy5 {kd u : Nat} {r xs : List Nat} {q : Nat × Nat × Nat} (hj : readN (2 + (usesL kd).length) r = joinR xs u (readN (2 + (usesL kd).length - xs.length) (r.drop u))) (hlt : xs.length < 2 + (usesL kd).length) (hq : vread (r.drop u) = q) (hq2 : q.2.2 = 0) :
  readN (2 + (usesL kd).length) r = joinR (xs ++ [q.1]) (u + q.2.1) (readN (2 + (usesL kd).length - (xs ++ [q.1]).length) (r.drop (u + q.2.1))) := by
 rw [hj, show 2 + (usesL kd).length - xs.length = (2 + (usesL kd).length - xs.length - 1) + 1 by omega, qjv (by rw [hq]; exact hq2), hq, List.drop_drop]
 congr 2
 simp; omega
theorem qhb {b : Bs} {cpu kd u x0 x1 : Nat} {r vs : List Nat} (hb : b.right = true) (hu : (usesL kd).length ≠ 0) (hj : readN (2 + (usesL kd).length) r = joinR (x0 :: x1 :: vs) u (readN (2 + (usesL kd).length - (x0 :: x1 :: vs).length) (r.drop u))) (hl : (x0 :: x1 :: vs).length = 2 + (usesL kd).length) :
  takeR b cpu (kd :: r) = qai b cpu kd (x0 :: x1 :: vs, u, 0) := by
 rw [qko hb hu, hj, hl, Nat.sub_self]
 unfold joinR readN
 simp
theorem qsj {b : Bs} {cpu kd u x0 x1 : Nat} {vs : List Nat} (hb : 1 ≤ b.seq ∧ 0 ≤ b.time) (h : 281474976710656 < x0 ∨ 281474976710656 < x1) : qai b cpu kd (x0 :: x1 :: vs, u, 0) = (Ev.zero, 0, 61) := by
 unfold qai
 rw [if_neg (by simp), if_pos (by simp; omega)]
theorem qsk {b : Bs} {cpu kd u x0 x1 : Nat} {vs : List Nat} (h : (b.ev cpu kd x0 x1).qm vs ≠ 0) : qai b cpu kd (x0 :: x1 :: vs, u, 0) = (Ev.zero, 0, 61) := by
 unfold qai
 rw [if_neg (by simp)]
 split
 ·rfl
 ·rw [if_pos (by simpa using h)]
theorem qpe {b : Bs} {cpu kd u x0 x1 : Nat} {vs : List Nat} (h : (b.ev cpu kd x0 x1).qm vs = 0) : qai b cpu kd (x0 :: x1 :: vs, u, 0) = ((b.ev cpu kd x0 x1).ze vs, 1 + u, 0) := by
 have hm : ((b.ev cpu kd x0 x1).made vs).check = 0 := by
  unfold Ev.qm at h
  split at h
  ·cases h
  ·split at h
   ·cases h
   ·split at h
    ·cases h
    ·rename_i h3; exact Decidable.not_not.1 h3
 have hv := qaw hm
 have hk := qc1 (b.ev cpu kd x0 x1) vs
 rw [hk.2.1, hk.2.2.1] at hv
 obtain ⟨_, _, _, h1, h2, h3, h4⟩ := hv
 have h5 : b.seq + (x0 : Int) ≤ 281474976710656 := h2
 have h6 : b.time + (x1 : Int) ≤ 281474976710656 := h4
 unfold qai Ev.ze
 rw [if_neg (by simp), if_neg (by simp; omega), if_neg (by simpa using h), if_pos h]
 rfl
theorem q2v {b : Bs} {cpu kd x0 x1 : Nat} (hb : 1 ≤ b.seq ∧ b.seq ≤ 281474976710656 ∧ 0 ≤ b.time ∧ b.time ≤ 281474976710656) (hc : cpu < 256) (hk : kd < 256) (h : ¬ (281474976710656 < x0 ∨ 281474976710656 < x1)) : (b.ev cpu kd x0 x1).Ok := by
 have z : I64 0 := ⟨by decide, by decide⟩
 have zm : (0 : Nat) < 18446744073709551616 := by decide
 exact ⟨⟨by show _ ≤ b.seq + (x0 : Int); omega, by show b.seq + (x0 : Int) ≤ _; omega⟩, ⟨by show _ ≤ b.time + (x1 : Int); omega, by show b.time + (x1 : Int) ≤ _; omega⟩, hc, hk, z, z, z, z, z, zm, z⟩
theorem qv6 {b : Bs} (h : b.right = true) : 1 ≤ b.seq ∧ b.seq ≤ 281474976710656 ∧ 0 ≤ b.time ∧ b.time ≤ 281474976710656 := by simpa [Bs.right] using h
theorem qv7 {kd : Nat} (h : 1 ≤ kd ∧ kd ≤ 10) : (usesL kd).length ≠ 0 := by
 obtain rfl | rfl | rfl | rfl | rfl | rfl | rfl | rfl | rfl | rfl : kd = 1 ∨ kd = 2 ∨ kd = 3 ∨ kd = 4 ∨ kd = 5 ∨ kd = 6 ∨ kd = 7 ∨ kd = 8 ∨ kd = 9 ∨ kd = 10 := by omega
 all_goals decide
theorem qlw {kd : Nat} (h : ¬ (1 ≤ kd ∧ kd ≤ 10)) : (usesL kd).length = 0 := by
 unfold usesL
 split <;> first | omega | rfl
theorem qsl {l : List Ev} {k : Nat} {e : Ev} (hk : l[k]? = some e) : rowGo (qbg l k) k (l.drop k) = if e.check ≠ 0 then ((k : Int), e.check) else if (qbg l k).all (fun q => e.after q) = false then ((k : Int), 71) else rowGo (qbg l (k + 1)) (k + 1) (l.drop (k + 1)) := by
 obtain ⟨hl, he⟩ := List.getElem?_eq_some_iff.1 hk
 rw [List.drop_eq_getElem_cons hl, he, show qbg l (k + 1) = some e from hk]
 rfl
theorem qen {w w' : World} {b : Bs} {l : List Ev} {er : Nat} (h : qv b l = er) (he : er ≠ 0) (hb : Below w.heap.size w w') : qaq w (qv b l) (zg b l) (.returned (.tuple #[.slice none 0 0, .int .i64 (er : Int)])) w' := by
 have ho : zg b l = [] := by unfold zg; rw [if_neg om]
 rw [ho, h]
 exact ⟨⟨none, 0, rfl, World.ownsRow_nil _ _ _ _, Nat.le_refl _⟩, hb⟩
theorem qnr {b : Bs} {l : List Ev} (h : (rowR l).2 ≠ 0) : qv b l = (rowR l).2 := by unfold qv; rw [if_pos h]
theorem qlx {b : Bs} {l : List Ev} (h : (rowR l).2 = 0) (hb : ¬ b.right = true) : qv b l = 70 := by unfold qv; rw [if_neg om, if_neg (by simp [hb])]
theorem qns : ∀ (l : List Ev) (b : Bs) (e : Ev), recs b (l ++ [e]) = recs b l ++ zb (match l.getLast? with | some q => q.at | none => b) e
 | [], b, e => by simp [recs]
 | x :: l, b, e => by
  rw [List.cons_append, recs, recs, qns l x.at e, List.append_assoc]
  congr 2
  cases l with
  | nil => rfl
  | cons y r => simp only [List.getLast?_cons, Option.getD_some]
def zy (b : Bs) (l : List Ev) (k : Nat) : List Nat := recs b (l.take k)
theorem qqq : ∀ (l : List Ev) (b : Bs), (recs b l).length ≤ 61 * l.length
 | [], _ => by simp [recs]
 | e :: l, b => by
  rw [recs, List.length_append, List.length_cons]
  have h1 := qqq l e.at
  have h2 := qoh b e
  omega
theorem qpf (b : Bs) (l : List Ev) (k : Nat) : (zy b l k).length ≤ 61 * k := by
 have h1 := qqq (l.take k) b
 have h2 : (l.take k).length ≤ k := by rw [List.length_take]; omega
 unfold zy
 omega
theorem qv8 (b : Bs) (e : Ev) : (qan b e).length ≤ 61 := by
 unfold qan
 split
 ·exact qoh b e
 ·simp
structure WriteAt (b : Bs) (l : List Ev) (k : Nat) (bk : Bs) : Prop where
 base : bk = qd7 b l k
 head : 0 < k → l.head?.all b.behind = true
theorem WriteAt.start (b : Bs) (l : List Ev) : WriteAt b l 0 b := ⟨rfl, fun h => by omega⟩
section
variable {b bk : Bs} {l : List Ev} {k : Nat} {e : Ev}
theorem WriteAt.bad (h : WriteAt b l k bk) (hr : (rowR l).2 = 0) (hb : b.right = true) (hk : l[k]? = some e) (hp : qz bk e ≠ 0) : k = 0 := by
 rcases Nat.eq_zero_or_pos k with h0 | h0
 ·exact h0
 ·obtain ⟨hl, he⟩ := List.getElem?_eq_some_iff.1 hk
  have := qp2 hr hb (h.head h0) k hl
  rw [he, ← h.base] at this
  exact absurd this hp
theorem WriteAt.fail (h : WriteAt b l k bk) (hr : (rowR l).2 = 0) (hb : b.right = true) (hk : l[k]? = some e) (h0 : k = 0) (hp : qz bk e ≠ 0) : qv b l = qz bk e := by
 subst h0
 have hbk : bk = b := h.base
 subst hbk
 obtain ⟨g1, _, _⟩ := qgv l none 0 hr
 have hc := g1 e (List.mem_of_getElem? hk)
 have hbh : ¬ bk.behind e = true := by
  intro h1
  unfold qz at hp
  rw [if_neg (by simp [hc]), if_pos ⟨hb, h1⟩] at hp
  exact hp rfl
 have hh : l.head? = some e := by rw [List.head?_eq_getElem?]; exact hk
 unfold qv qz
 rw [if_neg om, if_neg (by simp [hh, hbh]), if_neg (by simp [hc]), if_neg (by simp [hbh])]
theorem WriteAt.up (h : WriteAt b l k bk) (hk : l[k]? = some e) (hp : qz bk e = 0) : zy b l (k + 1) = zy b l k ++ qan bk e := by
 obtain ⟨hl, he⟩ := List.getElem?_eq_some_iff.1 hk
 unfold zy qan
 rw [List.take_add_one, hk, if_pos hp, h.base]
 show recs b (l.take k ++ [e]) = _
 rw [qns]
 congr 2
 cases k with
 | zero => simp [qd7]
 | succ j =>
  rw [show (l.take (j + 1)).getLast? = l[j]? from by rw [List.getLast?_take]; simp [List.getElem?_eq_getElem (show j < l.length by omega)]]
  rfl
theorem WriteAt.next (h : WriteAt b l k bk) (hk : l[k]? = some e) (hp : qz bk e = 0) : WriteAt b l (k + 1) e.at := by
 refine ⟨by show e.at = (match l[k]? with | some e => e.at | none => b); rw [hk], fun _ => ?_⟩
 rcases Nat.eq_zero_or_pos k with h0 | h0
 ·subst h0
  have hbk : bk = b := h.base
  subst hbk
  have hh : l.head? = some e := by rw [List.head?_eq_getElem?]; exact hk
  rw [hh]
  unfold qz at hp
  split at hp
  ·omega
  ·split at hp
   ·rename_i h1; exact h1.2
   ·omega
 ·exact h.head h0
theorem WriteAt.done {w w' : World} {n c : Nat} {A : Option Addr} (h : WriteAt b l n bk) (hr : (rowR l).2 = 0) (hb : b.right = true) (hln : l.length = n) (ho : w'.ownsRow w.heap.size 5 1 (.slice A (zy b l n).length c) (zy b l n).length ((zy b l n).map B8)) (hc : (zy b l n).length ≤ c) (hw : Below w.heap.size w w') :
  qaq w (qv b l) (zg b l) (.returned (.tuple #[.slice A (zy b l n).length c, .int .i64 0])) w' := by
 have hh : l.head?.all b.behind = true := by
  rcases Nat.eq_zero_or_pos n with h0 | h0
  ·subst h0; rw [List.length_eq_zero_iff.1 hln]; rfl
  ·exact h.head h0
 have he : qv b l = 0 := by unfold qv; rw [if_neg om, if_pos ⟨hb, hh⟩]
 have hout : zg b l = zy b l n := by unfold zg zy; rw [if_pos he, ← hln, List.take_length]
 rw [he, hout]
 exact ⟨⟨A, c, rfl, ho, hc⟩, hw⟩
end
def EvsIs (T : TypeId) (w : World) (q : List Ev × Nat × Nat) (r : Ending) (w' : World) : Prop :=
 (∃ A c, r = .returned (.tuple #[.slice A q.1.length c, .int .i64 (q.2.1 : Int), .int .i64 (q.2.2 : Int)]) ∧ w'.ownsRow w.heap.size T 11 (.slice A q.1.length c) q.1.length (q.1.flatMap evL) ∧ q.1.length ≤ c) ∧ Below w.heap.size w w'
theorem qe5 {T : TypeId} {w w' : World} {q : List Ev × Nat × Nat} {er : Nat} (h : q = ([], 0, er)) (hb : Below w.heap.size w w') : EvsIs T w q (.returned (.tuple #[.slice none 0 0, .int .i64 0, .int .i64 (er : Int)])) w' := by
 subst h
 exact ⟨⟨none, 0, rfl, World.ownsRow_nil _ _ _ _, Nat.le_refl _⟩, hb⟩
theorem qv9 {T : TypeId} {w w' : World} {q : List Ev × Nat × Nat} {es : List Ev} {u c : Nat} {A : Option Addr} (h : q = (es, u, 0)) (ho : w'.ownsRow w.heap.size T 11 (.slice A es.length c) es.length (es.flatMap evL)) (hc : es.length ≤ c) (hb : Below w.heap.size w w') : EvsIs T w q (.returned (.tuple #[.slice A es.length c, .int .i64 (u : Int), .int .i64 0])) w' := by
 subst h
 exact ⟨⟨A, c, rfl, ho, hc⟩, hb⟩
structure ReadJn (b : Bs) (cpu : Nat) (m : Nat) (l : List Nat) (es : List Ev) (u : Nat) (bk : Bs) : Prop where
 fits : u ≤ l.length
 most : es.length ≤ u
 few : es.length ≤ m
 last : ∀ q, es.getLast? = some q → bk = q.at
 said : qq cpu m b none l = joinE es u (qq cpu (m - es.length) bk es.getLast? (l.drop u))
section
variable {b bk : Bs} {cpu m u L er : Nat} {l : List Nat} {es : List Ev} {e : Ev}
theorem ReadJn.start (b : Bs) (cpu m : Nat) (l : List Nat) : ReadJn b cpu m l [] 0 b := ⟨Nat.zero_le _, Nat.le_refl _, Nat.zero_le _, fun q h => by simp at h, (qmk cpu m b none l).symm⟩
theorem ReadJn.bad (h : ReadJn b cpu m l es u bk) (hm : es.length < m) (hq : takeR bk cpu (l.drop u) = (e, L, er)) (he : er ≠ 0) : qq cpu m b none l = ([], 0, er) := by
 rw [h.said, show m - es.length = (m - es.length - 1) + 1 by omega]
 exact qmj hq he es u
theorem ReadJn.same (h : ReadJn b cpu m l es u bk) (hm : es.length < m) (hq : takeR bk cpu (l.drop u) = (e, L, 0)) (he : es.getLast?.any (fun q => decide (e.seq = q.seq)) = true) : qq cpu m b none l = ([], 0, 71) := by
 rw [h.said, show m - es.length = (m - es.length - 1) + 1 by omega]
 exact qjx hq he es u
theorem ReadJn.next (h : ReadJn b cpu m l es u bk) (hm : es.length < m) (hq : takeR bk cpu (l.drop u) = (e, L, 0)) (he : es.getLast?.any (fun q => decide (e.seq = q.seq)) = false) : ReadJn b cpu m l (es ++ [e]) (u + L) e.at := by
 have h1 := qfy bk cpu (l.drop u)
 rw [hq, List.length_drop] at h1
 simp only at h1
 have h2 := h1.2 trivial
 have h3 := h.fits
 have h4 := h.most
 refine ⟨by omega, by simp; omega, by simp; omega, fun q hq => ?_, ?_⟩
 ·simp at hq; rw [hq]
 ·rw [h.said, show m - es.length = (m - es.length - 1) + 1 by omega, qgw hq he es u, List.drop_drop]
  simp [Nat.sub_sub]
theorem ReadJn.done (h : ReadJn b cpu m l es u bk) (hm : m ≤ es.length) : qq cpu m b none l = (es, u, 0) := by
 rw [h.said, show m - es.length = 0 by omega]
 simp [qq, joinE]
theorem qly {n : Int} (h : ¬ n < 0) (hb : b.right = true) : readR b cpu n l = qq cpu n.toNat b none l := by unfold readR; rw [if_neg h, if_neg (by simp [hb])]
end
def markB (k : Nat) : Nat := (8000024 + k) * 11400714819323198485 % 18446744073709551616 / 72057594037927936
def marks (k : Nat) : List Nat := (List.range k).map markB
theorem qsz (k : Nat) : marks (k + 1) = marks k ++ [markB k] := by unfold marks; rw [List.range_succ, List.map_append]; rfl
theorem qzi (k : Nat) : markB k < 256 := by unfold markB; omega
def q0m (w : World) (l : List Nat) (r : Ending) (w' : World) : Prop :=
 (∃ A c, r = .returned (.slice A l.length c) ∧ w'.ownsRow w.heap.size 5 1 (.slice A (l.length + 12) c) (l.length + 12) ((l ++ marks 12).map B8) ∧ l.length + 12 ≤ c) ∧ Below w.heap.size w w'
theorem qzj (k : Nat) (hk : k ≤ 1000) : IntKind.u64.wrap ((8000024 + k : Nat) : Int) = ((8000024 + k : Nat) : Int) := by rw [IntKind.wrap_u64]; omega
theorem qzk (k : Nat) : IntKind.u64.wrap (((8000024 + k : Nat) : Int) * 11400714819323198485) = (((8000024 + k) * 11400714819323198485 % 18446744073709551616 : Nat) : Int) := by rw [IntKind.wrap_u64]; omega
theorem qzl (x : Nat) : Int.fdiv (x : Int) (2 ^ (min (56 : Int).toNat (IntKind.u64).bits)) = ((x / 72057594037927936 : Nat) : Int) := by
 rw [show (2 : Int) ^ (min (56 : Int).toNat (IntKind.u64).bits) = 72057594037927936 from by decide, Int.fdiv_eq_ediv_of_nonneg _ de]
 rfl
theorem q1v (k : Nat) : IntKind.u8.wrap (((8000024 + k) * 11400714819323198485 % 18446744073709551616 / 72057594037927936 : Nat) : Int) = (markB k : Int) := by
 have := qzi k
 unfold markB at *
 rw [IntKind.wrap_u8]
 omega
theorem qw0 {l : List Nat} {n k : Nat} (hl : l.length = n) (h : k < n + 12) : (k < n → ∃ x, l[k]? = some x ∧ (l ++ marks 12)[k]? = some x) ∧ (n ≤ k → (l ++ marks 12)[k]? = some (markB (k - n))) := by
 refine ⟨fun hk => ⟨l[k], List.getElem?_eq_getElem om, ?_⟩, fun hk => ?_⟩
 ·rw [List.getElem?_append_left om]; exact List.getElem?_eq_getElem om
 ·rw [List.getElem?_append_right om, hl]
  unfold marks
  rw [List.getElem?_map, List.getElem?_range om]
  rfl
theorem qzm (k : Nat) (hk : k ≤ 1000) (w : World) : Calls Tryz.prog 63 #[vI 1, vI k] w fun r w' => r = .returned (vI ((8000024 + k : Nat) : Int)) ∧ Below w.heap.size w w' := by
 refine (JN2 Tryz.func63 10) ?_
 exact (JP∘Jp 1∘Jr∘Jv 5 [(9, vI (IntKind.i64.wrap (8000024 + (k : Int))))]∘Jo (vI (8000024 + k : Nat)) (by rw [IntWalk.i64_in _ om]; simp)∘Jp 1∘Jd1∘Jj∘JZ) JY1
theorem qhv (k : Nat) (hk : k ≤ 1000) (w : World) : Calls Tryz.prog 40 #[vI 1, vI k] w fun r w' => r = .returned (vB (markB k : Int)) ∧ Below w.heap.size w w' := by
 refine (JN2 Tryz.func40 12) ?_
 refine (JP∘Jp 1∘Jr∘Jp 2∘JL (h:=by exact fun HM => qzm k hk _)) ?_
 rintro HM _ w7 ⟨rfl, hbw⟩
 refine ⟨_, rfl, _, HM.call hbw, ?_⟩
 exact (Jv 1 [(8, vQ (IntKind.u64.wrap ((8000024 + k : Nat) : Int)))]∘Jo (vQ (8000024 + k : Nat)) (by rw [qzj k hk])∘Jp 1∘Jo (vQ ((8000024 + k) * 11400714819323198485 % 18446744073709551616 : Nat)) (by rw [qzk k])∘Jp 1∘Jo (vQ ((8000024 + k) * 11400714819323198485 % 18446744073709551616 / 72057594037927936 : Nat)) (by rw [qzl])∘Jv 1 [(11, vB (IntKind.u8.wrap (((8000024 + k) * 11400714819323198485 % 18446744073709551616 / 72057594037927936 : Nat) : Int)))]∘Jo (vB (markB k)) (by rw [q1v k])∘Jp 1∘Jd6∘Jj∘JZ) JY1
theorem qzn (A : Option Addr) (n c : Nat) (l : List Nat) (w : World) (hr : Rd w w.heap.size 1 A n (l.map B8)) (hn : n ≤ 140737488351232) (hln : l.length = n) :
    Calls Tryz.prog 13 #[.slice A n c] w (q0m w l) := by
 refine (JN1 Tryz.func13 25) ?_
 refine (JP∘Jp 1∘Jr∘Jp 1∘Jl∘Jp 1∘Jo (vI (n + 12 : Nat)) (by rw [IntWalk.i64_in _ om]; simp)) fun a Z HM => ?_
 refine fo Z 3 rfl rfl ?_
 refine qtx Z HM (m := (n + 12)) rfl ei_u8 rfl rfl om om rfl de ?_
 clear Z HM; intro a w8 g8 Z HM
 refine Jb Z HM ((Jp 1∘Jd4∘Jr∘Jp 2) fun a Z HM => ?_)
 refine fo Z 2 rfl rfl ?_
 refine qlc Z HM (i := 0) rfl ei_u8 rfl rfl rfl (news := (l.map B8)) (HM.old hr) (qba _) om om rfl de ?_
 clear Z HM; intro a w11 A11 c11 Z HM hc11
 refine Jb Z HM ((Jp 1∘Jd3∘Jq) fun a Z HM => ?_)
 have hnA11 : 0 + n = n + 0 := by omega
 replace HM := HM.reRow (i := 0) (ys := (l ++ marks 0).map B8) rfl hnA11 (by simp [marks])
 rw [hnA11] at hc11
 replace Z := Z.sp 3 (.slice A11 (n + 0) c11) rfl (by rw [hnA11])
 refine Jb Z HM ((JG∘JQ∘JP∘Jp 1∘Jj∘JB) fun a Z HM => ?_)
 refine qi (fun mS aS wS => ∃ (k : Nat) (Ak : Option Addr) (ck : Nat), (k ≤ 12) ∧ (n + k ≤ ck) ∧ mS = 12 - k ∧ Fr aS 25 [] [(4, vI k), (3, .slice Ak (n + k) ck), (2, vN), (0, .slice A n c)] ∧ Mem w wS [.row (.slice Ak (n + k) ck) (n + k) ((l ++ marks k).map B8) 5 1]) (m := 12 - 0) ⟨0, A11, c11, by omega, hc11, rfl, Z.sub kr, HM.pk [0]⟩ ?_
 clear Z HM; rintro mS a w_ ⟨k, Ak, ck, hk, hck, rfl, Z, HM⟩
 refine Jb Z HM ((JQ∘JP∘Jp 2∘Jd1∘Jj) (Ju (fun hb13 => ?_) fun hb13 => ?_))
 ·
  intro a Z HM
  have hk13 : k < 12 := by have := of_decide_eq_true hb13; omega
  refine Jb Z HM ((JT∘JS'∘JQ∘JB∘JR∘Jp 2∘JL (h:=by exact fun HM => qhv k om _)) ?_)
  rintro HM _ w18 ⟨rfl, hbw⟩
  refine ⟨_, rfl, _, HM.call hbw, ?_⟩
  intro a Z HM
  refine fo Z 3 rfl rfl (s_el Z HM ei_u8 [(0, vB (markB k))] #[vB (markB k)] ?_)
  clear Z HM; intro a w19 g19 Z HM
  refine fo Z 4 rfl rfl (qn Z HM (i := 1) rfl ei_u8 rfl rfl rfl (news := [B8 (markB k)]) (HM.rdBlk (i := 0) (n := 1) (size := 1) rfl rfl) (by simp [Value.oneCell', U64, B8]) om om rfl de ?_)
  clear Z HM; intro a w20 A20 c20 Z HM hc20
  refine Jb Z HM ((Jp 1∘Jd5∘Jq) fun a Z HM => ?_)
  have hnA20 : n + k + 1 = n + (k + 1) := by omega
  replace HM := HM.reRow (i := 1) (ys := (l ++ marks (k + 1)).map B8) rfl hnA20 (by rw [qsz]; simp)
  rw [hnA20] at hc20
  replace Z := Z.sp 3 (.slice A20 (n + (k + 1)) c20) rfl (by rw [hnA20])
  refine Jb Z HM ((JG∘JR∘Jp 2∘Jo (vI (k + 1 : Nat)) (by rw [IntWalk.i64_in _ om]; simp)∘Jp 1∘Jd2∘Jq) fun a Z HM => ?_)
  exact ⟨_, om, k + 1, A20, c20, by omega, hc20, rfl, Z.sub kr, HM.pk [1]⟩
 repeat (first | clear Z | clear HM)
 intro a Z HM
 obtain rfl : k = 12 := by have := of_decide_eq_false hb13; omega
 exact Jb Z HM ((JF∘JX∘JG∘JP∘Jp 2∘Jl∘Jy (v := .slice Ak n ck) (h:=by exact Yl.zl ei_u8 (j := n) rfl rfl rfl om)∘Jp 1∘Jd4∘Jj∘JZ∘Jz1) fun HM => by exact ⟨⟨Ak, ck, by rw [hln], by rw [hln]; exact HM.own (i := 0) rfl, by omega⟩, HM.below⟩)
theorem qra (A A2 : Option Addr) (n c c2 : Nat) (l : List Nat) (w : World) (hr : Rd w w.heap.size 1 A (n + 12) ((l ++ marks 12).map B8)) (hc : n + 12 ≤ c) (hr2 : Rd w w.heap.size 1 A2 n (l.map B8)) (hn : n ≤ 140737488351232) (hln : l.length = n) :
    Calls Tryz.prog 19 #[.slice A n c, .slice A2 n c2] w (BoolPost w true) := by
 refine (JN2 Tryz.func19 58) ?_
 refine (JP∘Jp 1∘Jj∘JQ∘JP∘Jp 1∘Jl∘Jp 1∘Jl∘Jp 1∘Jo (.bool false) (by simp)∘Jd4∘Jj∘JF∘JS'∘JP∘Jp 2∘Jl∘Jp 1∘Jo (vI (n + 12 : Nat)) (by rw [IntWalk.i64_in _ om]; simp)∘Jy (v := .slice A (n + 12) c) (h:=by exact Yl.zl ei_u8 (j := (n + 12)) rfl rfl rfl (hc))∘Jp 1∘Jd5∘Jj∘JQ∘JP∘Jp 1∘Jj∘JB) fun a Z HM => ?_
 refine qi (fun mS aS wS => ∃ (k : Nat), (k ≤ n + 12) ∧ mS = n + 12 - k ∧ Fr aS 58 [] [(6, vI k), (5, .slice A (n + 12) c), (11, .bool false), (4, .bool false), (0, .slice A n c), (1, .slice A2 n c2)] ∧ Mem w wS []) (m := n + 12 - 0) ⟨0, Nat.zero_le _, rfl, Z.sub kr, HM.pk []⟩ ?_
 clear Z HM; rintro mS a w_ ⟨k, hk, rfl, Z, HM⟩
 refine Jb Z HM ((JQ∘JP∘Jp 2∘Jl∘Jp 1∘Jd3∘Jj) (Ju (fun hb20 => ?_) fun hb20 => ?_))
 ·
  intro a Z HM
  have hk20 : k < n + 12 := by have := of_decide_eq_true hb20; omega
  refine Jb Z HM ((JT∘JS'∘JQ∘JB) fun a Z HM => ?_)
  refine zk (fun aS wS => Fr aS 58 [] [(57, .bool false), (20, .bool true), (6, vI k), (5, .slice A (n + 12) c), (11, .bool false), (4, .bool false), (0, .slice A n c), (1, .slice A2 n c2)] ∧ Mem w wS []) ?_ ?_
  ·
   refine Jb Z HM ((Vs .n []) fun wd7 => (Vp [0, 1]∘Vl 2∘Vp [3, 4]) fun a Z HM HS => ?_)
   rcases Z.tf 27 rfl with ⟨hb27, Z⟩ | ⟨hb27, Z⟩
   ·
    have hk26 : k < n := by have := of_decide_eq_true hb27; omega
    obtain ⟨x, hx1, hx2⟩ := (qw0 hln hk20).1 hk26
    refine Vb Z HM HS ((Vp [5, 6, 9, 10]) ?_)
    repeat (first | clear Z | clear HM | clear HS)
    intro a Z HM HS
    obtain ⟨gA, oA, rfl, _⟩ := hr.qt (Nat.lt_of_le_of_lt (Nat.zero_le _) (show k < (n + 12) from hk20)) de
    refine Vb Z HM HS ((Vy 7 (v := vP gA (oA + k * 1)) (h:=by exact Yl.ix gA oA k 1 rfl rfl rfl (hk20))∘Vy 8 (v := vB x) (h:=by exact Yl.qx rfl rfl kr (fun _ h => (h.old hr).qfd (k := k) (qbi (F := B8) (k := k) (x := x) (hx2))))) ?_)
    repeat (first | clear Z | clear HM | clear HS)
    intro a Z HM HS
    obtain ⟨gA2, oA2, rfl, _⟩ := hr2.qt (Nat.lt_of_le_of_lt (Nat.zero_le _) (show k < n from hk26)) de
    refine Vb Z HM HS ((Vy 11 (v := vP gA2 (oA2 + k * 1)) (h:=by exact Yl.ix gA2 oA2 k 1 rfl rfl rfl (hk26))∘Vy 12 (v := vB x) (h:=by exact Yl.qx rfl rfl kr (fun _ h => (h.old hr2).qfd (k := k) (qbi (F := B8) (k := k) (x := x) (hx1))))∘Vq [13] [(36, .bool ((x : Int) == (x : Int)))]∘Vo (.bool true) (by simp)∘Vp [14, 15, 16, 17, 18]∘Vl 19∘Vq [20] [(43, .bool (decide ((k : Int) ≥ (n : Int))))]∘Vo (.bool false) (by rw [decide_eq_false om])∘Vq [21, 22, 23, 24, 25, 26, 27, 28, 29, 30, 31, 32, 33, 34] [(57, .bool false)]∘Vd∘Jd6) fun a Z HM => ?_)
    exact ⟨Z.sub kr, HM.pk []⟩
   have hk26 : n ≤ k := by have := of_decide_eq_false hb27; omega
   have hx3 := (qw0 hln hk20).2 hk26
   refine ap Z (fun _ => HS) [5, 6, 7, 8, 9, 10, 11, 12, 13, 14, 15, 16, 17, 18] (bt 35 [19, 20, 21, 22, 23, 24, 25, 26, 27, 28, 29, 30, 31, 32, 33, 34]) [(41, .slice A2 n c2), (40, vI k), (39, .bool false)] fun a Z => ?_
   refine s_al Z HS 19 fun a Z => ?_
   refine qcd Z (fun _ => HS) (i := 20) rfl rfl (d := 43) rfl de kr (fun _ _ _ h => h) (v := .bool (decide ((k : Int) ≥ (n : Int)))) (fun _ => Yl.pure kr) fun a Z => ?_
   replace Z := Z.sp 43 (.bool true) rfl (by rw [decide_eq_true om])
   refine ap Z (fun _ => HS) [21, 22, 23, 26, 27] (bt 35 [24, 25, 28, 29, 30, 31, 32, 33, 34]) [(50, .slice A2 n c2), (49, vI k), (46, vI k), (45, .slice A (n + 12) c), (44, .bool true)] fun a Z => ?_
   revert HM; revert a; repeat (first | clear Z | clear HM)
   intro a Z HM
   obtain ⟨gA, oA, rfl, _⟩ := hr.qt (Nat.lt_of_le_of_lt (Nat.zero_le _) (show k < (n + 12) from hk20)) de
   refine s_az Z HS 24 rfl (v := vP gA (oA + k * 1)) (Yl.ix gA oA k 1 rfl rfl rfl (hk20)) fun a Z => ?_
   refine s_az Z HS 25 rfl (v := vB (markB (k - n))) (Yl.qx rfl rfl kr (fun _ h => (h.old hr).qfd (k := k) (qbi (F := B8) (k := k) (x := (markB (k - n))) (hx3)))) fun a Z => ?_
   refine s_al Z HS 28 fun a Z => ?_
   refine qcd Z (fun _ => HS) (i := 29) rfl rfl (d := 52) rfl de kr (fun _ _ _ h => h) (v := vI (IntKind.i64.wrap ((k : Int) - (n : Int)))) (fun _ => Yl.pure kr) fun a Z => ?_
   replace Z := Z.sp 52 (vI (k - n : Nat)) rfl (by rw [IntWalk.i64_in _ om]; congr 1; omega)
   refine s_on Z 30 rfl ?_
   refine e_cl Z [vI 1, vI (k - n : Nat)] rfl rfl (qhv (k - n) om _) ?_
   rintro _ w53 ⟨rfl, hbw⟩
   refine ⟨_, rfl, ?_⟩
   replace HM := HM.call hbw
   clear Z; intro a Z
   refine keepS (HM.pk []) (fun HS => ?_)
   refine qcd Z (fun _ => HS) (i := 31) rfl rfl (d := 54) rfl de kr (fun _ _ _ h => h) (v := .bool (((markB (k - n)) : Int) == (markB (k - n) : Int))) (fun _ => Yl.pure kr) fun a Z => ?_
   replace Z := Z.sp 54 (.bool true) rfl (by simp)
   refine ap Z (fun _ => HS) [32, 33, 34] (bt 35 []) [(57, .bool false)] fun a Z => ?_
   refine qh kr ?_
   exact ⟨Z.sub kr, HM.pk []⟩
  clear Z HM; rintro a w7 ⟨Z, HM⟩
  refine Jb Z HM ((JF∘JS'∘JR∘Jp 2∘Jo (vI (k + 1 : Nat)) (by rw [IntWalk.i64_in _ om]; simp)∘Jp 1∘Jd2∘Jq) fun a Z HM => ?_)
  exact ⟨_, om, k + 1, by omega, rfl, Z.sub kr, HM.pk []⟩
 exact (JF∘JX∘JG∘JP∘Jp 1∘Jj∘JZ) JY1
theorem qh2 {cpu : Nat} : ∀ (l : List Ev) (p : Option Ev) (b : Bs), Chain cpu p b l → ∀ e ∈ l, e.cpu = cpu
 | [], _, _, _, e, he => by cases he
 | x :: r, p, b, h, e, he => by
  obtain ⟨h1, h2, h3, h4⟩ := h
  rcases List.mem_cons.1 he with rfl | he
  ·exact h2
  ·exact qh2 r (some x) x.at h4 e he
theorem qiz {cpu : Nat} : ∀ (l : List Ev) (p : Option Ev) (b : Bs) (k : Nat), Chain cpu p b l → Chain cpu p b (l.take k)
 | [], _, _, k, _ => by rw [List.take_nil]; trivial
 | _ :: _, _, _, 0, _ => trivial
 | e :: r, _, _, k + 1, h => ⟨h.1, h.2.1, h.2.2.1, qiz r (some e) e.at k h.2.2.2⟩
theorem qgc {b : Bk} (h : b.kind = 2) : b.fits = decide (1 ≤ b.next ∧ b.next ≤ 281474976710657 ∧ b.cpu = 0 ∧ b.lost = 0 ∧ b.evs.length = 0) := by
 unfold Bk.fits; rw [if_neg om, if_pos h]; rfl
theorem qe3 {b : Bk} (h2 : b.kind ≠ 2) (h : b.kind ≠ 1 ∨ 63 < b.cpu ∨ b.lost < 0 ∨ 281474976710656 < b.lost ∨ b.next ≠ 0 ∨ (b.lost = 0 ∧ b.evs.length = 0)) : b.fits = false := by
 unfold Bk.fits
 by_cases h1 : b.kind = 1
 ·rw [if_pos h1]
  unfold Bk.qdf
  rw [decide_eq_false_iff_not]
  rintro ⟨a1, a2, a3, a4, a5, a6⟩
  rcases h with h | h | h | h | h | ⟨h, h'⟩
  ·exact h h1
  ·omega
  ·omega
  ·omega
  ·exact h a5
  ·rw [qg4 h', decide_eq_true_eq] at a6
   omega
 ·rw [if_neg h1, if_neg h2]
theorem qql {b : Bk} (hok : b.Ok) (h2 : b.kind ≠ 2) {k : Nat} (hk : k < b.evs.length) (h : (b.evs.getD k Ev.zero).cpu ≠ b.cpu) : b.fits = false := by
 rw [Bool.eq_false_iff]
 intro hf
 obtain ⟨h1, hE⟩ := qcw hf h2
 obtain ⟨e, r, g⟩ := qex hok hE om
 exact h (qh2 _ _ _ g.chain _ (qa5 Ev.zero hk))
theorem qgd {b : Bk} (h1 : b.kind = 1) (h2 : b.cpu ≤ 63) (h3 : 0 ≤ b.lost) (h4 : b.lost ≤ 281474976710656) (h5 : b.next = 0) (h6 : ¬ (b.lost = 0 ∧ b.evs.length = 0)) (hall : ∀ k, k < b.evs.length → (b.evs.getD k Ev.zero).cpu = b.cpu) :
  b.fits = decide ((rowR b.evs).2 = 0) := by
 have hh : b.qjg = true := by
  by_cases h : b.evs.length = 0
  ·rw [qg4 h, decide_eq_true_eq]; omega
  ·rw [qir h, decide_eq_true_eq]; exact hall 0 om
 unfold Bk.fits
 rw [if_pos h1]
 unfold Bk.qdf
 rw [Bool.eq_iff_iff, decide_eq_true_eq, decide_eq_true_eq]
 exact ⟨fun h => h.1, fun h => ⟨h, by omega, h3, h4, h5, hh⟩⟩
def Bk.upto (b : Bk) (n : Nat) : Bk := ⟨b.kind, b.cpu, b.lost, b.next, b.evs.take n⟩
theorem qyt {b : Bk} {n : Nat} (h : n ≤ b.evs.length) : (b.upto n).evs.length = n := by show (b.evs.take n).length = n; rw [List.length_take]; omega
theorem qvg {b : Bk} (hk : b.kind = 1) {n : Nat} (h1 : 0 < n) (h2 : n ≤ b.evs.length) : 12 + (b.upto n).body.length = b.sz n + (vbytes n).length := by
 have hb : (b.upto n).base = b.base := by
  unfold Bk.base Bk.upto
  cases hl : b.evs with
  | nil => simp
  | cons e r =>
   cases n with
   | zero => omega
   | succ j => rfl
 have hl2 := qyt h2
 unfold Bk.body Bk.sz
 rw [if_neg (by show ¬ b.kind = 2; omega), hb]
 simp only [hl2]
 rw [if_neg om]
 show 12 + (vbytes b.cpu ++ vbytes b.lost.toNat ++ vbytes n ++ (vbytes b.base.seq.toNat ++ vbytes b.base.time.toNat ++ recs b.base (b.evs.take n))).length = _
 simp only [List.length_append]
 omega
theorem qvh : ∀ (f x y : Nat), x ≤ y → (grp f x).length ≤ (grp f y).length
 | 0, x, y, _ => by simp [grp]
 | f + 1, x, y, h => by
  rcases Nat.lt_or_ge x 128 with h1 | h1
  ·rw [qd5 f x h1]
   rcases Nat.lt_or_ge y 128 with h2 | h2
   ·rw [qd5 f y h2]; simp
   ·rw [qca f y h2]; simp
  ·rw [qca f x h1, qca f y om]
   have := qvh f (x / 128) (y / 128) (Nat.div_le_div_right h)
   simp only [List.length_cons]
   omega
theorem qkd {x y : Nat} (h : x ≤ y) : (vbytes x).length ≤ (vbytes y).length := by unfold vbytes; rw [List.length_map, List.length_map]; exact qvh 10 x y h
theorem q2p {b : Bk} {i j : Nat} (h : i ≤ j) : b.sz i ≤ b.sz j := by
 induction h with
 | refl => exact Nat.le_refl _
 | @step j _ ih =>
  refine Nat.le_trans ih ?_
  rcases Nat.lt_or_ge j b.evs.length with h1 | h1
  ·rw [qvf h1]; omega
  ·unfold Bk.sz
   rw [List.take_of_length_le h1, List.take_of_length_le (by omega : b.evs.length ≤ j + 1)]
   omega
theorem qyu {b : Bk} {i j : Nat} (h : i ≤ j) (hj : b.big j = false) : b.big i = false := by
 unfold Bk.big at hj ⊢
 rw [decide_eq_false_iff_not] at hj ⊢
 have h1 := q2p (b := b) h
 have h2 := qkd h
 omega
theorem qvi {b : Bk} {n : Nat} (hn : n ≤ b.evs.length) (h1 : 0 < n → b.big n = false) (h2 : ∀ m, n < m → m ≤ b.evs.length → b.big m = true) : b.qgp = n := by
 have hno : ∀ i, i < n → b.big (i + 1) = false := fun i hi => qyu om (h1 om)
 rcases Nat.lt_or_ge n b.evs.length with h | h
 ·exact qqk h hno (h2 _ om om)
 ·have : n = b.evs.length := by omega
  subst this
  exact qiy hno
theorem qp : SI Tryz.prog 42 5 := ⟨by kernel_rfl, by kernel_rfl⟩
theorem qqr {b : Bk} (hk : b.kind = 2) : vbytes b.next.toNat = b.body := by unfold Bk.body; rw [if_pos hk]
theorem qnt {b : Bk} (hk : b.kind ≠ 2) (h : b.evs.length = 0) : [b.cpu, b.lost.toNat, b.evs.length].flatMap vbytes = b.body := by
 unfold Bk.body
 rw [if_neg hk, if_pos h]
 simp
theorem qnu {b : Bk} (hk : b.kind ≠ 2) (h : b.evs.length ≠ 0) : [b.cpu, b.lost.toNat, b.evs.length].flatMap vbytes ++ [(b.evs.getD 0 Ev.zero).seq.toNat, (b.evs.getD 0 Ev.zero).time.toNat].flatMap vbytes ++ recs b.base b.evs = b.body := by
 unfold Bk.body
 rw [if_neg hk, if_neg h, qeg]
 simp
theorem raw10 (b : Bk) : ((#[Value.int .u8 (((b.body.length + 12) % 256 : Nat) : Int), .int .u8 (((b.body.length + 12) / 256 % 256 : Nat) : Int), .int .u8 (((b.body.length + 12) / 65536 % 256 : Nat) : Int), .int .u8 (((b.body.length + 12) / 16777216 % 256 : Nat) : Int), .int .u8 113, .int .u8 116, .int .u8 1, .int .u8 (b.kind : Int)] : Array Value).toList ++ b.body.map B8) = b.raw.map B8 := by
 unfold Bk.raw le4
 rw [Nat.add_comm 12]
 rfl
def q0d (w : World) (A0 : Option Addr) (l : List Nat) (q : List Nat × List Nat) (r : Ending) (w' : World) : Prop :=
 (∃ A c X cX, r = .returned (.tuple #[.slice A q.1.length c, .slice X q.2.length cX]) ∧ w'.ownsRow w.heap.size 33 1 (.slice A q.1.length c) q.1.length (q.1.map U64) ∧ q.1.length ≤ c ∧ (∀ v : World, Rd v v.heap.size 1 A0 l.length (l.map B8) → Rd v v.heap.size 1 X q.2.length (q.2.map B8)) ∧ q.2.length ≤ cX) ∧ Below w.heap.size w w'
theorem qnv {w w' : World} {A0 : Option Addr} {l : List Nat} {q : List Nat × List Nat} {xs rl : List Nat} {A X : Option Addr} {c cX : Nat} (h : q = (xs, rl)) (ho : w'.ownsRow w.heap.size 33 1 (.slice A xs.length c) xs.length (xs.map U64)) (hc : xs.length ≤ c) (hr : ∀ v : World, Rd v v.heap.size 1 A0 l.length (l.map B8) → Rd v v.heap.size 1 X rl.length (rl.map B8)) (hX : rl.length ≤ cX) (hb : Below w.heap.size w w') :
  q0d w A0 l q (.returned (.tuple #[.slice A xs.length c, .slice X rl.length cX])) w' := by
 subst h
 exact ⟨⟨A, c, X, cX, rfl, ho, hc, hr, hX⟩, hb⟩
theorem q1i {w : World} {B c : Nat} {X : Option Addr} {l : List Nat} (h : Rd w B 1 X l.length (l.map B8)) (hc : l.length ≤ c) : Rd w B 1 (if c = (vread l).2.1 then X else X.map (·.add ((vread l).2.1 * 1))) (qa l).length ((qa l).map B8) := by
 have h1 := h.qjp (i := (vread l).2.1) (j := l.length) (qaz l) (Nat.le_refl _) hc
 rw [List.take_length] at h1
 rw [qbr]
 exact h1
theorem qwa {m : Nat} {l xs rl : List Nat} (hj : numsR m l = (xs ++ (numsR (m - xs.length) rl).1, (numsR (m - xs.length) rl).2)) (h : m ≤ xs.length) : numsR m l = (xs, rl) := by
 rw [hj, show m - xs.length = 0 by omega]
 simp [numsR]
theorem qy6 {m : Nat} {l xs rl : List Nat} (hj : numsR m l = (xs ++ (numsR (m - xs.length) rl).1, (numsR (m - xs.length) rl).2)) (h : xs.length < m) (hb : (vread rl).2.2 ≠ 0) : numsR m l = (xs, rl) := by
 rw [hj, show m - xs.length = (m - xs.length - 1) + 1 by omega, numsR, if_neg hb]
 simp
theorem qwb {m : Nat} {l xs rl : List Nat} (hj : numsR m l = (xs ++ (numsR (m - xs.length) rl).1, (numsR (m - xs.length) rl).2)) (h : xs.length < m) (hb : (vread rl).2.2 = 0) :
  numsR m l = ((xs ++ [(vread rl).1]) ++ (numsR (m - (xs ++ [(vread rl).1]).length) (qa rl)).1, (numsR (m - (xs ++ [(vread rl).1]).length) (qa rl)).2) := by
 rw [hj, show m - xs.length = (m - (xs ++ [(vread rl).1]).length) + 1 by rw [List.length_append, List.length_singleton]; omega, numsR, if_pos hb]
 simp
def qqs (w : World) (b : Bk) (r : Ending) (w' : World) : Prop :=
 (∃ A c, r = .returned (.agg (b.cells A c)) ∧ w'.ownsRow w.heap.size 105 11 (.slice A b.evs.length c) b.evs.length (b.evs.flatMap evL) ∧ b.evs.length ≤ c) ∧ Below w.heap.size w w'
theorem qe6 {w w' : World} {b : Bk} {k c : Nat} {lo nx : Int} (h : b = ⟨k, c, lo, nx, []⟩) (hb : Below w.heap.size w w') : qqs w b (.returned (.agg #[.int .u8 (k : Int), .int .u8 (c : Int), .int .i64 lo, .int .i64 nx, .slice none 0 0])) w' := by
 subst h
 exact ⟨⟨none, 0, rfl, World.ownsRow_nil _ _ _ _, Nat.le_refl _⟩, hb⟩
theorem qy7 {w w' : World} {b : Bk} {k c cA : Nat} {lo nx : Int} {es : List Ev} {A : Option Addr} (h : b = ⟨k, c, lo, nx, es⟩) (ho : w'.ownsRow w.heap.size 105 11 (.slice A es.length cA) es.length (es.flatMap evL)) (hc : es.length ≤ cA) (hb : Below w.heap.size w w') : qqs w b (.returned (.agg #[.int .u8 (k : Int), .int .u8 (c : Int), .int .i64 lo, .int .i64 nx, .slice A es.length cA])) w' := by
 subst h
 exact ⟨⟨A, cA, rfl, ho, hc⟩, hb⟩
def qpg (w : World) (q : Bk × Nat × Nat) (r : Ending) (w' : World) : Prop :=
 (∃ A c, r = .returned (.tuple #[.agg (q.1.cells A c), .int .i64 (q.2.1 : Int), .int .i64 (q.2.2 : Int)]) ∧ w'.ownsRow w.heap.size 105 11 (.slice A q.1.evs.length c) q.1.evs.length (q.1.evs.flatMap evL) ∧ q.1.evs.length ≤ c) ∧ Below w.heap.size w w'
theorem qb5 {w w' : World} {q : Bk × Nat × Nat} {er : Nat} (h : q = (Bk.zero, 0, er)) (hb : Below w.heap.size w w') : qpg w q (.returned (.tuple #[.agg #[.int .u8 0, .int .u8 0, .int .i64 0, .int .i64 0, .slice none 0 0], .int .i64 0, .int .i64 (er : Int)])) w' := by
 subst h
 exact ⟨⟨none, 0, rfl, World.ownsRow_nil _ _ _ _, Nat.le_refl _⟩, hb⟩
theorem qqt {w w' : World} {q : Bk × Nat × Nat} {b : Bk} {m c : Nat} {A : Option Addr} (h : q = (b, m, 0)) (ho : w'.ownsRow w.heap.size 105 11 (.slice A b.evs.length c) b.evs.length (b.evs.flatMap evL)) (hc : b.evs.length ≤ c) (hb : Below w.heap.size w w') : qpg w q (.returned (.tuple #[.agg (b.cells A c), .int .i64 (m : Int), .int .i64 0])) w' := by
 subst h
 exact ⟨⟨A, c, rfl, ho, hc⟩, hb⟩
theorem q0e {q : Bk} {l : List Nat} (he : q.err = 0) : (!decide (q.raw = l)) = decide (q.err ≠ 0 ∨ q.raw ≠ l) := by
 rw [Bool.eq_iff_iff, Bool.not_eq_true', decide_eq_false_iff_not, decide_eq_true_eq]
 exact ⟨.inr, fun h => h.elim (fun h => absurd he h) id⟩
theorem qy8 {l : List Nat} (h : (lenR l).2 ≠ 0) : refB l = (Bk.zero, 0, (lenR l).2) := by unfold refB; rw [if_pos h]
theorem qcs {l L : List Nat} {e : Nat} (h : (lenR l).2 = 0) (hL : L = l.take (lenR l).1) (hb : refOf L = (none, e)) : refB l = (Bk.zero, 0, e) := by unfold refB; rw [if_neg om, ← hL, hb]
theorem qnw {l L : List Nat} {b : Bk} {e : Nat} (h : (lenR l).2 = 0) (hL : L = l.take (lenR l).1) (hb : refOf L = (some b, e)) : refB l = (b, (lenR l).1, 0) := by unfold refB; rw [if_neg om, ← hL, hb]
theorem qnx {k : Nat} {l : List Nat} {n : Int} (h : k = 2) (hn : n = if (numsR 1 l).1.length = 1 then wrap64 ((numsR 1 l).1.getD 0 0 : Int) else 0) : loose k l = ⟨k, 0, 0, n, []⟩ := by
 subst h; subst hn; unfold loose looseEnd; rw [if_pos rfl]
theorem qwc {k : Nat} {l : List Nat} (h : k ≠ 2) (hn : (numsR 3 l).1.length < 3) : loose k l = ⟨k, 0, 0, 0, []⟩ := by
 unfold loose qdv; rw [if_neg h, if_pos hn]
theorem qgi {k : Nat} {l : List Nat} {es : List Ev} (h : k ≠ 2) (hn : ¬ (numsR 3 l).1.length < 3) (he : es = qag ((numsR 3 l).1.getD 0 0 % 256) ((numsR 3 l).1.getD 2 0) (numsR 3 l).2) :
  loose k l = ⟨k, (numsR 3 l).1.getD 0 0 % 256, wrap64 ((numsR 3 l).1.getD 1 0 : Int), 0, es⟩ := by
 subst he; unfold loose qdv; rw [if_neg h, if_neg hn]
theorem qdx {cpu n : Nat} {l : List Nat} (h : ¬ (0 < n ∧ n ≤ 4096 ∧ (numsR 2 l).1.length = 2)) : [] = qag cpu n l := by unfold qag; rw [if_neg h]
theorem qlz {cpu n : Nat} {l : List Nat} (h : 0 < n ∧ n ≤ 4096 ∧ (numsR 2 l).1.length = 2) : (readR ⟨wrap64 ((numsR 2 l).1.getD 0 0 : Int), wrap64 ((numsR 2 l).1.getD 1 0 : Int)⟩ cpu n (numsR 2 l).2).1 = qag cpu n l := by unfold qag; rw [if_pos h]
theorem qkp (cpu : Nat) : ∀ (n : Nat) (b : Bs) (p : Option Ev) (l : List Nat), (qq cpu n b p l).1.length ≤ n
 | 0, _, _, _ => Nat.le_refl _
 | n + 1, b, p, l => by
  rw [qq]
  split
  ·exact Nat.zero_le _
  ·split
   ·exact Nat.zero_le _
   ·split
    ·exact Nat.zero_le _
    ·show (_ :: _).length ≤ _
     rw [List.length_cons]
     exact Nat.succ_le_succ (qkp cpu n _ _ _)
theorem qwd (b : Bs) (cpu n : Nat) (l : List Nat) : (readR b cpu (n : Int) l).1.length ≤ n := by
 unfold readR
 split
 ·exact Nat.zero_le _
 ·split
  ·exact Nat.zero_le _
  ·exact qkp cpu _ _ _ _
theorem qde : ∀ (m : Nat) (l : List Nat), (numsR m l).2.length ≤ l.length
 | 0, l => Nat.le_refl _
 | m + 1, l => by
  rw [numsR]
  split
  ·exact Nat.le_trans (qde m _) (qcq l)
  ·exact Nat.le_refl _
def waUp (l : List Nat) (k : Nat) : List Nat := (l.take k).flatMap vbytes
theorem qny {l : List Nat} {k : Nat} (h : k < l.length) : waUp l (k + 1) = waUp l k ++ vbytes (l.getD k 0) := by
 unfold waUp
 rw [← List.take_append_getElem (by omega : k < l.length), List.flatMap_append, List.getD_eq_getElem?_getD, List.getElem?_eq_getElem h]
 simp
theorem qqu (l : List Nat) (k : Nat) : (waUp l k).length ≤ 10 * k := by
 unfold waUp
 have h := qad (l.take k)
 rw [List.length_take] at h
 omega
theorem qpq {l : List Ev} {k : Nat} (h : k < l.length) : (l.take (k + 1)).flatMap evL = (l.take k).flatMap evL ++ evL (l.getD k Ev.zero) := by
 rw [List.take_succ_eq_append_getElem h, List.getD_eq_getElem?_getD, List.getElem?_eq_getElem h, List.flatMap_append]
 simp
def q2z (w : World) (b : Bk) (r : Ending) (w' : World) : Prop :=
 (∃ A c, r = .returned (.agg (b.cells A c)) ∧ w'.ownsRow w.heap.size 35 11 (.slice A b.evs.length c) b.evs.length (b.evs.flatMap evL) ∧ b.evs.length ≤ c) ∧ Below w.heap.size w w'
theorem qhw (b : Bk) (A : Option Addr) (c : Nat) (w : World) (hr : Rd w w.heap.size 11 A b.evs.length (b.evs.flatMap evL)) (hn : b.evs.length ≤ 1000000) :
    Calls Tryz.prog 23 #[.agg (b.cells A c)] w (qqs w b) := by
 refine (JN1 Tryz.func23 30) ?_
 refine (JP∘JE) fun w1 g1 => (JA #[vB 0, vB 0, vI 0, vI 0, .slice none 0 0]) fun w2 g2 => (Jr∘Jg 0 O1∘Jg 1 O1∘Jg 2 O1∘Jg 3 O1∘Jy (v := .agg #[vB b.kind, vB b.cpu, vI b.lost, vI b.next, .slice none 0 0]) (h:=by exact Yl.build (vs := [(0, vB b.kind), (1, vB b.cpu), (2, vI b.lost), (3, vI b.next)]) rfl kr kr)∘JA #[vB 0, vB 0, vI 0, vI 0, .slice none 0 0]) fun w3 g3 => (JV qp O0') fun w1_10 => (Jd5∘Jq) fun a Z HM => ?_
 replace HM := HM.nil 105 11
 refine Jb Z HM ((JG∘JQ∘JP∘Jg 4 O3∘Jl∘Jp 1∘Jj∘JB) fun a Z HM => ?_)
 refine qi (fun mS aS wS => ∃ (k : Nat) (Ak : Option Addr) (ck : Nat), (k ≤ b.evs.length) ∧ (k ≤ ck) ∧ mS = b.evs.length - k ∧ Fr aS 30 [] [(18, vI k), (17, vI b.evs.length), (16, .slice A b.evs.length c), (3, vP g3 0), (2, vP g2 0), (1, vP g1 0)] ∧ Mem w wS [.row (.slice Ak k ck) k ((b.evs.take k).flatMap evL) 105 11, .blk g3 #[vB b.kind, vB b.cpu, vI b.lost, vI b.next, .slice Ak k ck] 42, .blk g2 #[vB 0, vB 0, vI 0, vI 0, .slice none 0 0] 42, .blk g1 (b.cells A c) 60]) (m := b.evs.length - 0) ⟨0, none, 0, Nat.zero_le _, Nat.le_refl _, rfl, Z.sub kr, HM.pk [0, 1, 2, 3]⟩ ?_
 clear Z HM; rintro mS a w_ ⟨k, Ak, ck, hk, hck, rfl, Z, HM⟩
 refine Jb Z HM ((JP∘Jp 1∘Jj∘JQ) (Ju (fun hb19 => ?_) fun hb19 => ?_))
 ·
  intro a Z HM
  have hd19 := of_decide_eq_true hb19
  have hk19 : k < b.evs.length := by omega
  refine Jb Z HM ((JT∘JS'∘JQ∘JB∘JP) ?_)
  repeat (first | clear Z | clear HM)
  intro a Z HM
  obtain ⟨gA, oA, rfl, _⟩ := hr.qt (Nat.lt_of_le_of_lt (Nat.zero_le _) (show k < b.evs.length from by omega)) de
  refine Jb Z HM ((Jy (v := vP gA (oA + k * 11)) (h:=by exact Yl.ix gA oA k 11 rfl rfl rfl)∘Jy (v := .agg ((b.evs.getD k Ev.zero).cells)) (h:=by exact Yl.qr rfl rfl ⟨kr, kr⟩ rfl (fun _ h => (h.old hr).qah qw ((getD_at Ev.zero (k := k) (by first | omega | (simp; omega))))))∘JA #[vI 0, vI 0, vB 0, vB 0, vI 0, vI 0, vI 0, vI 0, vI 0, vQ 0, vI 0]) fun w5 g5 => (JV ⟨kr, kr⟩ O0' (h1:=by exact zd (b.evs.getD k Ev.zero))) fun w4_3 => (Jd2∘Jj∘JR∘Jg 4 O2∘Jy (v := .agg ((b.evs.getD k Ev.zero).cells)) (h:=by exact Yl.qr rfl rfl ⟨kr, kr⟩ rfl (fun _ h => qb (h.blk (i := 0) rfl)))) fun a Z HM => ?_)
  refine fo Z 3 rfl rfl (s_el Z HM qqp [(0, .agg ((b.evs.getD k Ev.zero).cells))] (b.evs.getD k Ev.zero).cells ?_)
  clear Z HM; intro a w25 g25 Z HM
  refine fo Z 4 rfl rfl (qn Z HM (i := 2) rfl qqp rfl rfl rfl (news := (evL (b.evs.getD k Ev.zero))) (HM.rdBlk (i := 0) (n := 1) (size := 11) rfl rfl) (zd _) om om rfl de ?_)
  clear Z HM; intro a w26 A26 c26 Z HM hc26
  rw [show ((b.evs.take k).flatMap evL) ++ (evL (b.evs.getD k Ev.zero)) = (b.evs.take (k + 1)).flatMap evL from by rw [qpq om]] at HM
  refine Jb Z HM ((Jf 4∘JW O3' O4') fun w5_6 => (Jt5∘Jj∘JR∘JaK 1∘Jp 1∘Jd1∘Jq) fun a Z HM => ?_)
  exact ⟨_, om, k + 1, A26, c26, by omega, hc26, rfl, Z.sub kr, HM.pk [2, 3, 4, 5]⟩
 intro a Z HM
 have hd19 := of_decide_eq_false hb19
 have hkn : k = b.evs.length := by omega
 refine Jb Z HM ((JF∘JX∘JG∘JP∘Jy (v := .agg #[vB b.kind, vB b.cpu, vI b.lost, vI b.next, .slice Ak k ck]) (h:=by exact Yl.qr rfl rfl qp rfl (fun _ h => qb (h.blk (i := 1) rfl)))∘JV qp O2') fun w7_1 => (Jt1∘Jj∘JZ) fun a Z HM => ?_)
 exact ret1 rfl Z (.cellS (i := 2) Z HM rfl rfl qp rfl) (⟨⟨Ak, ck, by rw [hkn]; rfl, by have h := HM.own (i := 0) rfl; rw [hkn, List.take_length] at h; exact h, by omega⟩, HM.below⟩)
theorem qkr (x : Nat) (w : World) (hx : x < 18446744073709551616) : Calls Tryz.prog 59 #[vQ x] w (zr w (vbytes x)) :=
 (qdy x w hx).mono fun e w' ⟨v, h1, h2, h3⟩ => by
  obtain ⟨A, c, rfl, hc⟩ := qaa h2
  exact ⟨⟨A, c, h1, h2, hc⟩, h3⟩
theorem qks (A : Option Addr) (n c : Nat) (l : List Nat) (w : World) (hr : Rd w w.heap.size 1 A n (l.map U64)) (hln : l.length = n) (hl : ∀ x ∈ l, x < 18446744073709551616) (hn : n ≤ 1000000) :
    Calls Tryz.prog 60 #[.slice A n c] w (zr w (l.flatMap vbytes)) := by
 refine (JN1 Tryz.func60 19) ?_
 refine (JP∘Jp 1∘Jr∘Jp 1∘Jq) fun a Z HM => ?_
 replace HM := HM.nil 5 1
 refine Jb Z HM ((JG∘JQ∘JP∘Jp 1∘Jj∘JB) fun a Z HM => ?_)
 refine qi (fun mS aS wS => ∃ (k : Nat) (Ak : Option Addr) (ck : Nat), (k ≤ n) ∧ ((waUp l k).length ≤ ck) ∧ mS = n - k ∧ Fr aS 19 [] [(4, vI k), (3, .slice Ak ((waUp l k).length) ck), (2, vN), (0, .slice A n c)] ∧ Mem w wS [.row (.slice Ak ((waUp l k).length) ck) ((waUp l k).length) ((waUp l k).map B8) 5 1]) (m := n - 0) ⟨0, none, 0, Nat.zero_le _, Nat.le_refl _, rfl, Z.sub kr, HM.pk [0]⟩ ?_
 clear Z HM; rintro mS a w_ ⟨k, Ak, ck, hk, hck, rfl, Z, HM⟩
 refine Jb Z HM ((JQ∘JP∘Jp 2∘Jl∘Jp 1∘Jd3∘Jj) (Ju (fun hb8 => ?_) fun hb8 => ?_))
 ·
  intro a Z HM
  have hd8 := of_decide_eq_true hb8
  have hk8 : k < n := by omega
  refine Jb Z HM ((JT∘JS'∘JQ∘JB∘JR∘Jp 3) ?_)
  repeat (first | clear Z | clear HM)
  intro a Z HM
  obtain ⟨gA, oA, rfl, _⟩ := hr.qt (Nat.lt_of_le_of_lt (Nat.zero_le _) (show k < n from by omega)) de
  refine Jb Z HM ((Jy (v := vP gA (oA + k * 1)) (h:=by exact Yl.ix gA oA k 1 rfl rfl rfl)∘JH (getD_lt hl (k := k) (by first | omega | (simp; omega)))) fun hx1 => (Jy (v := vQ (l.getD k 0)) (h:=by exact Yl.o1 hr k 0 (by first | omega | (simp; omega)) rfl rfl)∘JK (h:=by exact fun HM => qkr (l.getD k 0) _ (hl _ (qa5 0 om)))) fun A16 c16 w16 hc16 => fun a Z HM => ?_)
  refine fo Z 6 rfl rfl (qn Z HM (i := 1) rfl ei_u8 rfl rfl rfl (news := ((vbytes (l.getD k 0)).map B8)) (HM.rd (i := 0) rfl) (qba _) (by have := qqu l k; have := qd (l.getD k 0); omega) (by have := qqu l k; have := qd (l.getD k 0); omega) rfl de ?_)
  clear Z HM; intro a w17 A17 c17 Z HM hc17
  refine Jb Z HM ((Jp 1∘Jd6∘Jq) fun a Z HM => ?_)
  have hnA17 : ((waUp l k).length) + (((vbytes (l.getD k 0))).length) = (waUp l (k + 1)).length := by rw [qny om]; simp
  replace HM := HM.reRow (i := 1) (ys := (waUp l (k + 1)).map B8) rfl hnA17 (by rw [qny om]; simp)
  rw [hnA17] at hc17
  replace Z := Z.sp 3 (.slice A17 ((waUp l (k + 1)).length) c17) rfl (by rw [hnA17])
  refine Jb Z HM ((JG∘JR∘Jp 1∘JaK 1∘Jp 1∘Jd2∘Jq) fun a Z HM => ?_)
  exact ⟨_, om, k + 1, A17, c17, by omega, hc17, rfl, Z.sub kr, HM.pk [1]⟩
 intro a Z HM
 have hd8 := of_decide_eq_false hb8
 have hkn : k = n := by omega
 have hwa : waUp l k = l.flatMap vbytes := by unfold waUp; rw [List.take_of_length_le om]
 exact Jb Z HM ((JF∘JX∘JG∘JP∘Jp 2∘Jd1∘Jj∘JZ∘Jz1) fun HM => qhm (HM.own (i := 0) rfl) hck (by rw [hwa]) hwa HM.below)
theorem qq6 (A : Option Addr) (c y : Nat) (hy : y < 256) (w : World) (hr : Rd w w.heap.size 1 A 1 ([y].map B8)) :
    Calls Tryz.prog 119 #[.slice A 1 c] w (PolIs w (bitsOf y)) := by
 refine (JN1 Tryz.func119 52) ?_
 refine (JP∘Jp 1∘Jr∘Jp 1∘Jl∘Jv 2 [(3, vI 8)]∘Jd2∘Jr∘Jv 2 [(10, vI 40)]) fun a Z HM => ?_
 refine fo Z 2 rfl rfl ?_
 refine q0z Z HM (m := 40) rfl qbl rfl rfl om om rfl de ?_
 clear Z HM; intro a w11 g11 Z HM
 refine Jb Z HM ((Jp 1∘Jd2∘Jq) fun a Z HM => ?_)
 have hnsomeg110none : 40 = 40 := rfl
 replace HM := HM.reRow (i := 0) (ys := (qbm y 0).map I64v) rfl hnsomeg110none (by rw [qpk]; kernel_rfl)
 replace Z := Z.sp 4 (vS g11 40 40) rfl (by rw [hnsomeg110none])
 refine Jb Z HM ((JG∘JQ∘JP∘Jp 1∘Jj∘JB) fun a Z HM => ?_)
 refine qi (fun mS aS wS => ∃ (k : Nat), (k ≤ 8) ∧ mS = 8 - k ∧ Fr aS 52 [] [(5, vI k), (4, vS g11 40 40), (3, vI 8), (2, vN), (0, .slice A 1 c)] ∧ Mem w wS [.row (vS g11 40 40) 40 ((qbm y k).map I64v) 3 1]) (m := 8 - 0) ⟨0, by omega, rfl, Z.sub kr, HM.pk [0]⟩ ?_
 clear Z HM; rintro mS a w_ ⟨k, hk, rfl, Z, HM⟩
 refine Jb Z HM ((JQ∘JP∘Jp 3∘Jd2∘Jj) (Ju (fun hb14 => ?_) fun hb14 => ?_))
 ·
  intro a Z HM
  have hd14 := of_decide_eq_true hb14
  have hk8 : k < 8 := by omega
  refine Jb Z HM ((JT∘JS'∘JQ∘JB∘JR∘Jv 6 [(22, vI (IntKind.i64.wrap (39 - (k : Int)))), (17, vS g11 40 40)]∘Jo (vI (39 - k : Nat)) (by exact qap om om)∘Jp 3∘Jo (vI (k / 8 : Nat)) (by exact qbf .i64 8 (by show _ ≤ 9223372036854775807; omega))) ?_)
  repeat (first | clear Z | clear HM)
  intro a Z HM
  obtain ⟨gA, oA, rfl, _⟩ := hr.qt (Nat.lt_of_le_of_lt (Nat.zero_le _) (show k / 8 < 1 from by omega)) de
  refine Jb Z HM ((Jy (v := vP gA (oA + (k / 8) * 1)) (h:=by exact Yl.ix gA oA (k / 8) 1 rfl rfl rfl)∘Jy (v := vB ([y].getD (k / 8) 0)) (h:=by exact Yl.o1 hr (k / 8) 0 (by first | omega | (simp; omega)) rfl rfl)∘Jo (vB y) (by rw [show k / 8 = 0 by omega]; try rfl)∘Jp 2∘Jo (vI (k % 8 : Nat)) (by exact qae .i64 _ 8)∘Jy (v := vB (y / 2 ^ (k % 8) : Nat)) (h:=by exact Yl.shrN (m := y) (n := (k % 8)) rfl rfl rfl (by show _ ≤ 8; omega))∘Jp 1∘Jo (vB ((y / 2 ^ (k % 8)) % 2 : Nat)) (by exact qae .u8 _ 2)∘Jw .i64∘Jy (v := vP g11 ((39 - k) * 1)) (h:=by exact Yl.ix0 g11 (39 - k) 1 rfl rfl rfl)) fun a Z HM => ?_)
  refine fo Z 17 rfl rfl ?_
  refine qjz Z HM (i := 0) rfl rfl rfl rfl kr rfl rfl (by rw [List.length_map, qbc]; omega) fun w6_17 HM => ?_
  replace HM := HM.asRow (i := 0) (ys := (qbm y (k + 1)).map I64v) rfl ((qty I64v (qbm y k) (39 - k) (y / 2 ^ (k % 8) % 2) (by rw [qbc]; omega)).trans (by rw [show k % 8 = k by omega, qpl om]))
  refine Jb Z HM ((Jt6∘Jj∘JR∘Jp 1∘JaK 1∘Jp 1∘Jd6∘Jq) fun a Z HM => ?_)
  exact ⟨_, om, k + 1, by omega, rfl, Z.sub kr, HM.pk [0]⟩
 intro a Z HM
 have hd14 := of_decide_eq_false hb14
 revert HM; revert a; repeat (first | clear Z | clear HM)
 intro a Z HM
 obtain rfl : k = 8 := by omega
 refine Jb Z HM ((JF∘JX∘JG∘JQ∘JB) fun a Z HM => ?_)
 refine qi (fun mS aS wS => ∃ (j : Nat), (j ≤ 40) ∧ (trimL ((qbm y 8).take j) = trimL (qbm y 8)) ∧ mS = 0 + j ∧ Fr aS 52 [] [(14, .bool false), (5, vI 8), (4, vS g11 j 40), (3, vI 8), (2, vN), (0, .slice A 1 c)] ∧ Mem w wS [.row (vS g11 40 40) 40 ((qbm y 8).map I64v) 3 1]) (m := 0 + 40) ⟨40, by omega, by rw [List.take_of_length_le (by rw [qbc]; omega)], rfl, Z.sub kr, HM.pk [0]⟩ ?_
 clear Z HM; rintro mS a w_ ⟨j, hj, ht, rfl, Z, HM⟩
 have hbl := qbc y 8
 refine Jb Z HM ((JQ∘JP∘Jp 1∘Jl∘Jp 2) (Ju (fun hb37 => ?_) fun hb37 => ?_))
 ·
  intro a Z HM
  have hd37 := of_decide_eq_true hb37
  have hj0 : 0 < j := by omega
  refine Jb Z HM ((Jp 2∘Jl∘JsK 1∘Jy (v := vP g11 ((j - 1) * 1)) (h:=by exact Yl.ix0 g11 (j - 1) 1 rfl rfl rfl)∘Jy (v := vI ((qbm y 8).getD (j - 1) 0)) (h:=by exact Yl.r1 0 (j - 1) 0 (by first | omega | (simp; omega)) rfl rfl rfl)∘Jp 2∘Jd6∘Jj) (Je (fun hd45 => ?_) fun hd45 => ?_))
  ·
   refine (JT∘JS'∘JB∘JR∘Jp 2∘Jl∘JsK 1∘Jy (v := vS g11 (j - 1) 40) (h:=by exact Yl.zl qbl (j := j - 1) rfl rfl rfl om)∘Jp 1∘Jd5∘Jq) fun a Z HM => ?_
   exact ⟨_, om, (j - 1), by omega, qnz om om om ht, rfl, Z.sub kr, HM.pk [0]⟩
  refine (JF∘JX∘JG∘JP∘Jp 2∘Jd1∘Jj∘JZ) fun a Z HM => ?_
  have hjt := qgj (l := qbm y 8) (k := j) om (fun _ => by omega) ht
  have hjl : (bitsOf y).length = j := by rw [← qku, hjt, List.length_take]; omega
  have HM2 := HM.cutRow (i := 0) (m := (bitsOf y).length) (ys := (bitsOf y).map I64v) rfl om (by rw [Nat.mul_one, ← List.map_take, hjl, ← hjt]; rfl)
  exact s_rt1 rfl Z rfl (⟨⟨some ⟨g11, 0, none⟩, 40, by rw [hjl], HM2.own (i := 0) rfl, by omega⟩, HM.below⟩)
 intro a Z HM
 have hd37 := of_decide_eq_false hb37
 refine Jb Z HM ((Jv 8 [(45, .bool false)]∘Jd4∘Jj∘JF∘JX∘JG∘JP∘Jp 2∘Jd1∘Jj∘JZ) fun a Z HM => ?_)
 have hjt := qgj (l := qbm y 8) (k := j) om (fun _ => by omega) ht
 have hjl : (bitsOf y).length = j := by rw [← qku, hjt, List.length_take]; omega
 have HM2 := HM.cutRow (i := 0) (m := (bitsOf y).length) (ys := (bitsOf y).map I64v) rfl om (by rw [Nat.mul_one, ← List.map_take, hjl, ← hjt]; rfl)
 exact s_rt1 rfl Z rfl (⟨⟨some ⟨g11, 0, none⟩, 40, by rw [hjl], HM2.own (i := 0) rfl, by omega⟩, HM.below⟩)
theorem qn2 (w : World) : Calls Tryz.prog 120 #[vQ 4374732215] w (PolIs w genP) := qwl 4374732215 de w
theorem genlen : 0 < genP.length := by rw [qfr]; decide
theorem qpm (A : Option Addr) (c : Nat) (w : World) (hr : Rd w w.heap.size 1 A 1 ([0].map B8)) :
    Calls Tryz.prog 97 #[.slice A 1 c] w (Is w (vW (crcT 0 : Int))) := by
 refine (JN1 Tryz.func97 31) ?_
 refine (JP∘Jp 1∘Jr∘Jp 1∘JK (h:=by exact fun HM => qq6 _ _ 0 om _ (HM.old hr))) fun A9 c9 w9 hc9 => (JK (h:=by exact fun HM => qn2 _)) fun A10 c10 w10 hc10 => (JL (h:=by exact fun HM => qkw _ _ _ _ (bitsOf 0) genP _ (qq0 _) (qqz _) (qq2 _) (qq1 _) genlen (HM.rd (i := 1) rfl) (HM.rd (i := 0) rfl) (by have := ql2 0; omega) (by rw [qfr]; decide))) ?_
 rintro HM _ w11 ⟨⟨vq, X, cX, rfl, hd1, hd2⟩, hbw⟩
 refine ⟨_, rfl, _, HM.call hbw, ?_⟩
 refine (Jp 1∘Jx∘Jx∘Jp 2∘Jd6∘Jq) fun a Z HM => ?_
 have hl32 := qq3 0
 have hl0 : (linR 0).length = 0 := by rw [qwk]; rfl
 refine Jb Z HM ((JG∘JP∘Jp 1∘Jj∘JQ∘JP∘Jp 1∘Jj∘JB) fun a Z HM => ?_)
 replace HM := HM.pk (fs' := []) []
 refine qi (fun mS aS wS => ∃ (k : Nat), (k ≤ (linR 0).length) ∧ mS = (linR 0).length - k ∧ Fr aS 31 [] [(6, vI k), (5, vW (remUp (linR 0) k)), (4, .slice X ((linR 0).length) cX), (2, vW 0)] ∧ Mem w wS []) (m := (linR 0).length - 0) ⟨0, Nat.zero_le _, rfl, Z.sub kr, HM.pk []⟩ ?_
 clear Z HM; rintro mS a w_ ⟨k, hk, rfl, Z, HM⟩
 refine Jb Z HM ((JQ∘JP∘Jp 2∘Jl∘Jp 1∘Jd3∘Jj) (Ju (fun hb17 => ?_) fun hb17 => ?_))
 ·
  intro a Z HM
  have hd17 := of_decide_eq_true hb17
  omega
 intro a Z HM
 have hd17 := of_decide_eq_false hb17
 exact Jb Z HM ((JF∘JX∘JG∘JP∘Jp 2∘Jd1∘Jj∘JZ∘Jz1) fun HM => by exact ⟨by rw [show k = (linR 0).length by omega, qn1, qwj, qmy 0 om], HM.below⟩)
theorem qsn (A : Option Addr) (c y : Nat) (hy : y < 256) (hy0 : y ≠ 0) (w : World) (hr : Rd w w.heap.size 1 A 1 ([y].map B8)) :
    Calls Tryz.prog 97 #[.slice A 1 c] w (Is w (vW (crcT y : Int))) := by
 refine (JN1 Tryz.func97 31) ?_
 refine (JP∘Jp 1∘Jr∘Jp 1∘JK (h:=by exact fun HM => qq6 _ _ y om _ (HM.old hr))) fun A9 c9 w9 hc9 => (JK (h:=by exact fun HM => qn2 _)) fun A10 c10 w10 hc10 => (JL (h:=by exact fun HM => qkw _ _ _ _ (bitsOf y) genP _ (qq0 _) (qqz _) (qq2 _) (qq1 _) genlen (HM.rd (i := 1) rfl) (HM.rd (i := 0) rfl) (by have := ql2 y; omega) (by rw [qfr]; decide))) ?_
 rintro HM _ w11 ⟨⟨vq, X, cX, rfl, hd1, hd2⟩, hbw⟩
 obtain ⟨ho, hcX⟩ := hd2 (by rw [qfr]; exact qy9 y hy hy0)
 refine ⟨_, rfl, _, HM.callRow hbw ho, ?_⟩
 refine (Jp 1∘Jx∘Jx∘Jp 2∘Jd6∘Jq) fun a Z HM => ?_
 have hl32 := qq3 y
 refine Jb Z HM ((JG∘JP∘Jp 1∘Jj∘JQ∘JP∘Jp 1∘Jj∘JB∘JM (.t (.f (.f .n)))) fun a Z HM => ?_)
 refine qi (fun mS aS wS => ∃ (k : Nat), (k ≤ (linR y).length) ∧ mS = (linR y).length - k ∧ Fr aS 31 [] [(6, vI k), (5, vW (remUp (linR y) k)), (4, .slice X ((linR y).length) cX), (2, vW 0)] ∧ Mem w wS [.row (.slice X ((linR y).length) cX) ((linR y).length) ((linR y).map I64v) 3 1]) (m := (linR y).length - 0) ⟨0, Nat.zero_le _, rfl, Z.sub kr, HM.pk [0]⟩ ?_
 clear Z HM; rintro mS a w_ ⟨k, hk, rfl, Z, HM⟩
 refine Jb Z HM ((JQ∘JP∘Jp 2∘Jl∘Jp 1∘Jd3∘Jj) (Ju (fun hb17 => ?_) fun hb17 => ?_))
 ·
  intro a Z HM
  have hd17 := of_decide_eq_true hb17
  have hk31 : k < 32 := by omega
  refine Jb Z HM ((JT∘JS'∘JQ∘JB∘JP∘Jp 2) ?_)
  repeat (first | clear Z | clear HM)
  intro a Z HM
  obtain ⟨gX, rfl⟩ := qaf (HM.own (i := 0) rfl) (Nat.lt_of_le_of_lt (Nat.zero_le _) (show k < (linR y).length from by omega))
  refine Jb Z HM ((Jy (v := vP gX (k * 1)) (h:=by exact Yl.ix0 gX k 1 rfl rfl rfl)∘Jy (v := vI ((linR y).getD k 0)) (h:=by exact Yl.r1 0 k 0 (by first | omega | (simp; omega)) rfl rfl rfl)∘Jp 1∘Jd4∘Jj) (Ju (fun hb24 => ?_) fun hb24 => ?_))
  ·
   intro a Z HM
   have hd24 := eq_of_beq hb24
   have hrs := q1m (linR y) hk31
   refine Jb Z HM ((JT∘JR∘Jp 3∘Jo (vI (31 - k : Nat)) (by exact qap om om)∘Jy (v := vW (1 * 2 ^ (31 - k) : Nat)) (h:=by exact Yl.shlN (m := 1) (n := (31 - k)) rfl rfl rfl (by show _ ≤ 32; omega) (pow31 k))∘Jp 1∘Jo (vW (remUp (linR y) (k + 1))) (by exact qg1 (by rw [qe7, if_pos om]; omega) (by rw [qe7, if_pos om]; omega))∘Jp 1∘Jd5∘Jj∘JR∘Jp 1∘JaK 1∘Jp 1∘Jd2∘Jq) fun a Z HM => ?_)
   exact ⟨_, om, k + 1, by omega, rfl, Z.sub kr, HM.pk [0]⟩
  intro a Z HM
  have hd24 := ne_of_beq_false hb24
  replace Z := Z.sp 5 (vW (remUp (linR y) (k + 1) : Int)) rfl (by rw [qe7, if_neg om, Nat.add_zero])
  refine Jb Z HM ((JF∘JS'∘JR∘Jp 1∘JaK 1∘Jp 1∘Jd2∘Jq) fun a Z HM => ?_)
  exact ⟨_, om, k + 1, by omega, rfl, Z.sub kr, HM.pk [0]⟩
 intro a Z HM
 have hd17 := of_decide_eq_false hb17
 exact Jb Z HM ((JF∘JX∘JG∘JP∘Jp 2∘Jd1∘Jj∘JZ∘Jz1) fun HM => by exact ⟨by rw [show k = (linR y).length by omega, qn1, qwj, qmy y om], HM.below⟩)
theorem qso (A : Option Addr) (c y : Nat) (hy : y < 256) (w : World) (hr : Rd w w.heap.size 1 A 1 ([y].map B8)) : Calls Tryz.prog 97 #[.slice A 1 c] w (Is w (vW (crcT y : Int))) := by
 by_cases h : y = 0
 ·subst h; exact qpm A c w hr
 ·exact qsn A c y hy h w hr
theorem qwm (c : Nat) (hc : c < 4294967296) (A : Option Addr) (n cp : Nat) (l : List Nat) (w : World) (hr : Rd w w.heap.size 1 A n (l.map B8)) (hln : l.length = n) (hn : n ≤ 1000000000) (hl : ∀ b ∈ l, b < 256) :
    Calls Tryz.prog 79 #[vW c, .slice A n cp] w (Is w (vW ((4294967295 - qu (4294967295 - c) l : Nat) : Int))) := by
 refine (JN2 Tryz.func79 29) ?_
 refine (JP∘Jp 1∘Jr∘Jp 2∘Jo (vW (4294967295 - c : Nat)) (by exact qg1 om om)∘Jp 1∘Jd2∘Jj∘JQ∘JP∘Jp 1∘Jj∘JB) fun a Z HM => ?_
 refine qi (fun mS aS wS => ∃ (k : Nat), (k ≤ n) ∧ mS = n - k ∧ Fr aS 29 [] [(5, vI k), (0, vW (qu (4294967295 - c) (l.take k))), (4, vW 0), (1, .slice A n cp)] ∧ Mem w wS []) (m := n - 0) ⟨0, Nat.zero_le _, rfl, Z.sub kr, HM.pk []⟩ ?_
 clear Z HM; rintro mS a w_ ⟨k, hk, rfl, Z, HM⟩
 have hcr := qed (l.take k) (c := 4294967295 - c) om (zu hl k)
 refine Jb Z HM ((JQ∘JP∘Jp 2∘Jl∘Jp 1∘Jd3∘Jj) (Ju (fun hb11 => ?_) fun hb11 => ?_))
 ·
  intro a Z HM
  have hd11 := of_decide_eq_true hb11
  have hk11 : k < n := by omega
  have hxk := getD_lt hl (k := k) om
  have hy8 : (qu (4294967295 - c) (l.take k) % 256 ^^^ l.getD k 0) < 256 := Nat.xor_lt_two_pow (n := 8) om om
  refine Jb Z HM ((JT∘JS'∘JQ∘JB∘JR∘Jp 2∘Jo (vW ((qu (4294967295 - c) (l.take k)) / 256 : Nat)) (by exact qbf .u32 256 (by show _ ≤ 4294967295; omega))∘Jp 2∘Jo (vW ((qu (4294967295 - c) (l.take k)) % 256 : Nat)) (by exact qae .u32 _ 256)∘Jv 1 [(18, vB (IntKind.u8.wrap (((qu (4294967295 - c) (l.take k)) % 256 : Nat) : Int)))]∘Jo (vB (qu (4294967295 - c) (l.take k) % 256 : Nat)) (by exact (qa9 (qu (4294967295 - c) (l.take k) % 256)).trans (by rw [Nat.mod_mod]))∘Jp 2) ?_)
  repeat (first | clear Z | clear HM)
  intro a Z HM
  obtain ⟨gA, oA, rfl, _⟩ := hr.qt (Nat.lt_of_le_of_lt (Nat.zero_le _) (show k < n from by omega)) de
  refine Jb Z HM ((Jy (v := vP gA (oA + k * 1)) (h:=by exact Yl.ix gA oA k 1 rfl rfl rfl)∘JH (getD_lt hl (k := k) (by first | omega | (simp; omega)))) fun hx1 => (Jy (v := vB (l.getD k 0)) (h:=by exact Yl.o1 hr k 0 (by first | omega | (simp; omega)) rfl rfl)∘Jp 1∘Jo (vB ((qu (4294967295 - c) (l.take k) % 256) ^^^ (l.getD k 0) : Nat)) (by exact q2f (m := qu (4294967295 - c) (l.take k) % 256) (n := (l.getD k 0)) om om)) fun a Z HM => ?_)
  refine fo Z 10 rfl rfl (s_el Z HM ei_u8 [(0, vB ((qu (4294967295 - c) (l.take k) % 256) ^^^ (l.getD k 0) : Nat))] #[vB ((qu (4294967295 - c) (l.take k) % 256) ^^^ (l.getD k 0) : Nat)] ?_)
  clear Z HM; intro a w24 g24 Z HM
  refine Jb Z HM ((JI (h:=by exact fun HM => qso _ _ (qu (4294967295 - c) (l.take k) % 256 ^^^ l.getD k 0) hy8 _ (HM.rdBlk (i := 0) (n := 1) (size := 1) rfl rfl))) fun w25 hbw => (Jp 1∘Jo (vW (qu (4294967295 - c) (l.take (k + 1)))) (by have h := qih (m := (qu (4294967295 - c) (l.take k)) / 256) (n := crcT (qu (4294967295 - c) (l.take k) % 256 ^^^ l.getD k 0)) om (qud om); rw [qio om, qjl]; exact h)∘Jp 1∘Jd6∘Jj∘JR∘Jp 1∘JaK 1∘Jp 1∘Jd2∘Jq) fun a Z HM => ?_)
  exact ⟨_, om, k + 1, by omega, rfl, Z.sub kr, HM.pk []⟩
 intro a Z HM
 have hd11 := of_decide_eq_false hb11
 exact Jb Z HM ((JF∘JX∘JG∘JP∘Jp 2∘Jo (vW (4294967295 - (qu (4294967295 - c) (l.take k)) : Nat)) (by exact qg1 om om)∘Jp 1∘Jd2∘Jj∘JZ∘Jz1) fun HM => by exact ⟨by rw [List.take_of_length_le om], HM.below⟩)
theorem qwn (A : Option Addr) (n cp : Nat) (l : List Nat) (w : World) (hr : Rd w w.heap.size 1 A n (l.map B8)) (hln : l.length = n) (hn : n ≤ 1000000000) (hl : ∀ b ∈ l, b < 256) :
    Calls Tryz.prog 58 #[.slice A n cp] w (Is w (vW (qk l : Int))) := by
 refine (JN1 Tryz.func58 5) ?_
 exact (JP∘Jp 1∘Jr∘Jp 1∘JI (h:=by exact fun HM => qwm 0 de _ _ _ l _ (HM.old hr) hln hn hl)) fun w4 hbw => (Jp 1∘Jd2∘Jj∘JZ) JY1
theorem qsp (A : Option Addr) (n cp : Nat) (l : List Nat) (w : World) (hr : Rd w w.heap.size 1 A n (l.map B8)) (hln : l.length = n) (hn : n ≤ 100000000) (hl : ∀ b ∈ l, b < 256) :
    Calls Tryz.prog 37 #[.slice A n cp] w (zr w (sealL l)) := by
 refine (JN1 Tryz.func37 25) ?_
 refine (JP∘Jp 1∘Jr∘Jp 1∘JI (h:=by exact fun HM => qwn _ _ _ l _ (HM.old hr) hln om hl)) fun w5 hbw => (Jp 1∘Jd2∘Jq) fun a Z HM => ?_
 have hcs := qip l
 refine Jb Z HM ((JG∘JP) fun a Z HM => ?_)
 refine fo Z 0 rfl rfl ?_
 refine qp6 Z HM rfl ei_u8 rfl de ?_
 clear Z HM; intro a w6 g6 Z HM
 refine Jb Z HM ((Jp 1) fun a Z HM => ?_)
 refine fo Z 2 rfl rfl (qn Z HM (i := 0) rfl ei_u8 rfl rfl rfl (news := (l.map B8)) (HM.old hr) (qba _) om om rfl de ?_)
 clear Z HM; intro a w8 A8 c8 Z HM hc8
 refine Jb Z HM ((Jp 2∘Jo (vW ((qk l) % 256 : Nat)) (by exact qae .u32 _ 256)∘Jv 1 [(11, vB (IntKind.u8.wrap (((qk l) % 256 : Nat) : Int)))]∘Jo (vB (qk l % 256 : Nat)) (by exact (qa9 (qk l % 256)).trans (by rw [Nat.mod_mod]))∘Jp 2∘Jo (vW ((qk l) / 256 : Nat)) (by exact qbf .u32 256 (by show _ ≤ 4294967295; omega))∘Jp 1∘Jo (vW (((qk l) / 256) % 256 : Nat)) (by exact qae .u32 _ 256)∘Jv 1 [(15, vB (IntKind.u8.wrap ((((qk l) / 256) % 256 : Nat) : Int)))]∘Jo (vB (qk l / 256 % 256 : Nat)) (by exact (qa9 (qk l / 256 % 256)).trans (by rw [Nat.mod_mod]))∘Jp 2∘Jo (vW ((qk l) / 65536 : Nat)) (by exact qbf .u32 65536 (by show _ ≤ 4294967295; omega))∘Jp 1∘Jo (vW (((qk l) / 65536) % 256 : Nat)) (by exact qae .u32 _ 256)∘Jv 1 [(19, vB (IntKind.u8.wrap ((((qk l) / 65536) % 256 : Nat) : Int)))]∘Jo (vB (qk l / 65536 % 256 : Nat)) (by exact (qa9 (qk l / 65536 % 256)).trans (by rw [Nat.mod_mod]))∘Jp 2∘Jo (vW ((qk l) / 16777216 : Nat)) (by exact qbf .u32 16777216 (by show _ ≤ 4294967295; omega))∘Jv 1 [(22, vB (IntKind.u8.wrap (((qk l) / 16777216 : Nat) : Int)))]∘Jo (vB (((qk l) / 16777216) % 256 : Nat)) (by exact qa9 ((qk l) / 16777216))) fun a Z HM => ?_)
 refine fo Z 17 rfl rfl (s_el Z HM ei_u8 [(0, vB (qk l % 256 : Nat)), (1, vB (qk l / 256 % 256 : Nat)), (2, vB (qk l / 65536 % 256 : Nat)), (3, vB (((qk l) / 16777216) % 256 : Nat))] #[vB (qk l % 256 : Nat), vB (qk l / 256 % 256 : Nat), vB (qk l / 65536 % 256 : Nat), vB (((qk l) / 16777216) % 256 : Nat)] ?_)
 clear Z HM; intro a w23 g23 Z HM
 refine fo Z 18 rfl rfl (qn Z HM (i := 1) rfl ei_u8 rfl rfl rfl (news := ((le4 (qk l)).map B8)) (HM.rdBlk (i := 0) (n := 4) (size := 1) rfl rfl) (qba _) om om rfl de ?_)
 clear Z HM; intro a w24 A24 c24 Z HM hc24
 refine Jb Z HM ((Jp 1∘Jd6∘Jq) fun a Z HM => ?_)
 have hnA24 : 0 + n + 4 = (sealL l).length := by rw [qhz]; omega
 replace HM := HM.reRow (i := 1) (ys := (sealL l).map B8) rfl hnA24 (by simp [sealL])
 rw [hnA24] at hc24
 replace Z := Z.sp 2 (.slice A24 ((sealL l).length) c24) rfl (by rw [hnA24])
 exact Jb Z HM ((JG∘JZ∘JM (.f .n)∘Jz1) fun HM => by exact ⟨⟨_, _, rfl, HM.own (i := 0) rfl, hc24⟩, HM.below⟩)
theorem qn3 (A : Option Addr) (n cp : Nat) (l : List Nat) (w : World) (hr : Rd w w.heap.size 1 A n (l.map B8)) (hc : n ≤ cp) (hln : l.length = n) (hn : n ≤ 100000000) (hl : ∀ b ∈ l, b < 256) :
    Calls Tryz.prog 66 #[.slice A n cp] w (Is w (.bool (qar l))) := by
 refine (JN1 Tryz.func66 16) ?_
 refine (JP∘Jp 1∘Jj∘JQ∘JP∘Jp 1∘Jl∘Jp 1∘Jd2∘Jj) (Ji (fun hd5 => ?_) fun hd5 => ?_)
 ·
  exact (JT∘JP∘Jp 1∘Jj∘JZ∘Jz1) fun HM => by exact ⟨by rw [qhp hln om], HM.below⟩
 refine (JF∘JS') fun a Z HM => ?_
 refine wp_seq ?_
 refine Jb Z HM ((Vs .n []) fun wd3 => (Vp [0, 1, 7]∘Vl 2∘VsK 3 4∘Vy 4 (v := .slice A (n - 4) cp) (h:=by exact Yl.zl ei_u8 (j := n - 4) rfl rfl rfl om)∘Vy 8 (v := .string (bstr l)) (h:=by exact Yl.str rfl rfl (fun _ h => h.old hr))∘VK 5 .n (h:=by exact fun HM => qsp _ (n - 4) _ (l.take (n - 4)) _ (HM.old (hr.toB8 om)) (by rw [List.length_take]; omega) om (zu hl _))) fun A11 c11 w11 hc11 => fun a Z HM HS => ?_)
 refine s_on Z 6 rfl ?_
 refine Yl.wp (S := fun wS => Mem w wS _) (v := .string (bstr (sealL (l.take (n - 4))))) (Yl.str rfl rfl (fun _ h => h.rd (i := 0) rfl)) Z HM rfl de fun a Z => ?_
 refine keepS HS (fun HS => ?_)
 refine Vb Z HM HS ((Vp [9, 10]∘Vd∘Jd6) fun a Z HM => ?_)
 replace HM := HM.pk (fs' := []) []
 exact Jb Z HM ((JZ∘Jz1) fun HM => by exact ⟨by rw [qot (q03 (zu hl _)) hl, qsm hl hln], HM.below⟩)
theorem qdz (b : Bs) (w : World) : Calls Tryz.prog 80 #[.agg b.cells] w (BoolPost w b.right) := by
 refine (JN1 Tryz.func80 21) ?_
 refine (JP∘JE) fun w1 g1 => (Jp 1∘Jr∘Jg 0 O0∘Jp 2) (Ju (fun hb6 => ?_) fun hb6 => ?_)
 ·
  refine (Jg 0 O0∘Jp 3) (Ju (fun hb11 => ?_) fun hb11 => ?_)
  ·
   refine (Jg 1 O0∘Jp 3) (Ju (fun hb16 => ?_) fun hb16 => ?_)
   ·
    exact (Jg 1 O0∘Jp 3∘Jd6∘Jj∘JZ∘Jz1) fun HM => by exact ⟨congrArg (fun b => Ending.returned (.bool b)) (by unfold Bs.right; rw [Bool.eq_iff_iff]; (try simp at hb6); (try simp at hb11); (try simp at hb16); (try simp); (try omega)), HM.below⟩
   exact (Jp 5∘Jd6∘Jj∘JZ∘Jz1) fun HM => by exact ⟨congrArg (fun b => Ending.returned (.bool b)) (by unfold Bs.right; rw [Bool.eq_iff_iff]; (try simp at hb6); (try simp at hb11); (try simp at hb16); (try simp); (try omega)), HM.below⟩
  exact (Jv 10 [(2, .bool false)]∘Jd6∘Jj∘JZ∘Jz1) fun HM => by exact ⟨congrArg (fun b => Ending.returned (.bool b)) (by unfold Bs.right; rw [Bool.eq_iff_iff]; (try simp at hb6); (try simp at hb11); (try simp); (try omega)), HM.below⟩
 exact (Jv 15 [(2, .bool false)]∘Jd3∘Jj∘JZ∘Jz1) fun HM => by exact ⟨congrArg (fun b => Ending.returned (.bool b)) (by unfold Bs.right; rw [Bool.eq_iff_iff]; (try simp at hb6); (try simp); (try omega)), HM.below⟩
theorem qwo {x y : Int} (h : y ≤ x) (h2 : x - y < 9223372036854775808) : IntKind.u64.wrap (IntKind.i64.wrap (x - y)) = ((x - y).toNat : Int) := by
 rw [IntWalk.i64_in _ om, IntKind.wrap_u64]; omega
theorem qi9 {b : Bs} {e : Ev} (h : e.check = 0) (h2 : b.right = true ∧ b.behind e = true) : qz b e = 0 := by unfold qz; rw [if_neg (by simp [h]), if_pos h2]
theorem qfs {b : Bs} {e : Ev} (h : e.check = 0) (h2 : b.right = true ∧ b.behind e = true) : qan b e = zb b e := by unfold qan; rw [if_pos (qi9 h h2)]
theorem qci {b : Bs} {e : Ev} (h : qz b e ≠ 0) : qan b e = [] := by unfold qan; rw [if_neg h]
theorem q1n {e : Ev} (he : e.Ok) : ∀ x ∈ e.vals, x < 18446744073709551616 := by
 intro x hx
 unfold Ev.vals at hx
 obtain ⟨i, _, rfl⟩ := List.mem_map.1 hx
 have h1 := he.task.2; have h2 := he.group.2; have h3 := he.to.2; have h4 := he.weight.2; have h5 := he.ticks.2; have h6 := he.mask; have h7 := he.got.2
 unfold Ev.fld
 split <;> omega
theorem qwp (b : Bs) (e : Ev) (he : e.Ok) (w : World) : Calls Tryz.prog 81 #[.agg b.cells, .agg e.cells] w (qaq w (qz b e) (qan b e)) := by
 refine (JN2 Tryz.func81 70) ?_
 refine (JP∘JE) fun w2 g2 => (JE) fun w3 g3 => (Jp 2∘Jr∘Jy (v := .agg e.cells) (h:=by exact Yl.qr rfl rfl ⟨kr, kr⟩ rfl (fun _ h => qb (h.blk (i := 0) rfl)))∘JL (h:=by exact fun HM => qnl e he _)) ?_
 rintro HM _ w12 ⟨⟨v, rfl, ho⟩, hbw⟩
 obtain ⟨A12, c12, rfl, hc12⟩ := qaa ho
 refine ⟨_, rfl, _, HM.callRow hbw ho, ?_⟩
 refine (Jp 1∘Jx∘Jx∘Jp 2∘Jj∘JQ∘JP∘Jp 2∘Jd1∘Jj) (Ju (fun hb16 => ?_) fun hb16 => ?_)
 ·
  intro a Z HM
  have hbad : e.check ≠ 0 := by rw [bne_iff_ne] at hb16; omega
  exact Jb Z HM ((JT∘JP∘Jp 3∘Jj∘JZ∘Jz2) fun HM => by exact ⟨⟨none, 0, by rw [qci (by rw [show qz b e = e.check from by unfold qz; rw [if_pos hbad]]; exact hbad), show qz b e = e.check from by unfold qz; rw [if_pos hbad]]; rfl, by rw [qci (by rw [show qz b e = e.check from by unfold qz; rw [if_pos hbad]]; exact hbad)]; exact World.ownsRow_nil _ _ _ _, by rw [qci (by rw [show qz b e = e.check from by unfold qz; rw [if_pos hbad]]; exact hbad)]; exact Nat.le_refl _⟩, HM.below⟩)
 intro a Z HM
 have hgood : e.check = 0 := by rw [bne_eq_false_iff_eq] at hb16; omega
 have hov : e.za = e.vals := by unfold Ev.za; rw [if_pos hgood]
 obtain ⟨_, _, _, q1, q2, q3, q4⟩ := qaw hgood
 have hvl := qfx e
 rw [← hov] at hvl
 have hx64 := q1n he
 refine Jb Z HM ((JF∘JS'∘JQ) fun a Z HM => ?_)
 refine zk (fun aS wS => Fr aS 70 [] [(34, .bool (!(b.right && b.behind e))), (16, .bool false), (7, vI e.check), (6, .slice A12 e.za.length c12), (5, vI 0), (4, vN), (3, vP g3 0), (2, vP g2 0)] ∧ Mem w wS [.row (.slice A12 e.za.length c12) e.za.length (e.za.map U64) 33 1, .blk g3 e.cells 105, .blk g2 b.cells 127]) ?_ ?_
 ·
  refine qa7 ?_
  refine Jb Z HM ((Jy (v := .agg b.cells) (h:=by exact Yl.qr rfl rfl ⟨kr, kr⟩ rfl (fun _ h => qb (h.blk (i := 2) rfl)))∘JL (h:=by exact fun HM => qdz b _)) ?_)
  rintro HM _ w19 ⟨rfl, hbw⟩
  refine ⟨_, rfl, _, HM.call hbw, ?_⟩
  refine (Jp 2) (Ju (fun hb21 => ?_) fun hb21 => ?_)
  ·
   refine (Jv 13 [(34, .bool true)]∘Jd4∘Jq) fun a Z HM => ?_
   have Z := Z.sp 34 (.bool (!(b.right && b.behind e))) rfl (congrArg Value.bool (by unfold Bs.behind; (try simp at hb16); (try simp at hb21); rw [Bool.eq_iff_iff]; (try simp [hb16, hb21]); (try omega)))
   exact ⟨Z.sub kr, HM.pk [0, 1, 2]⟩
  refine (Jg 0 O1∘Jg 0 O2∘Jp 3) (Ju (fun hb28 => ?_) fun hb28 => ?_)
  ·
   refine (Jp 6∘Jd6∘Jq) fun a Z HM => ?_
   have Z := Z.sp 34 (.bool (!(b.right && b.behind e))) rfl (congrArg Value.bool (by unfold Bs.behind; (try simp at hb16); (try simp at hb21); (try simp at hb28); rw [Bool.eq_iff_iff]; (try simp [hb16, hb21, hb28]); (try omega)))
   exact ⟨Z.sub kr, HM.pk [0, 1, 2]⟩
  refine (Jg 1 O1∘Jg 1 O2∘Jp 2∘Jd6∘Jq) fun a Z HM => ?_
  have Z := Z.sp 34 (.bool (!(b.right && b.behind e))) rfl (congrArg Value.bool (by unfold Bs.behind; (try simp at hb16); (try simp at hb21); (try simp at hb28); rw [Bool.eq_iff_iff]; (try simp [hb16, hb21, hb28]); (try omega)))
  exact ⟨Z.sub kr, HM.pk [0, 1, 2]⟩
 clear Z HM; rintro a w4 ⟨Z, HM⟩
 refine Jb Z HM (Ju (fun hb34 => ?_) fun hb34 => ?_)
 ·
  intro a Z HM
  have hrb : ¬ (b.right = true ∧ b.behind e = true) := by intro h; rw [h.1, h.2] at hb34; cases hb34
  exact Jb Z HM ((JT∘JP∘Jp 2∘Jj∘JZ∘Jz2) fun HM => by exact ⟨⟨none, 0, by rw [qci (by rw [show qz b e = 70 from by unfold qz; rw [if_neg (by simp [hgood]), if_neg hrb]]; decide), show qz b e = 70 from by unfold qz; rw [if_neg (by simp [hgood]), if_neg hrb]]; rfl, by rw [qci (by rw [show qz b e = 70 from by unfold qz; rw [if_neg (by simp [hgood]), if_neg hrb]]; decide)]; exact World.ownsRow_nil _ _ _ _, by rw [qci (by rw [show qz b e = 70 from by unfold qz; rw [if_neg (by simp [hgood]), if_neg hrb]]; decide)]; exact Nat.le_refl _⟩, HM.below⟩)
 intro a Z HM
 have hrb : b.right = true ∧ b.behind e = true := by simpa using hb34
 have hbr := hrb.1
 have hbb := hrb.2
 unfold Bs.right at hbr
 unfold Bs.behind at hbb
 simp only [decide_eq_true_eq] at hbr hbb
 refine Jb Z HM ((JF∘JS'∘JP∘Jg 3 O1) fun a Z HM => ?_)
 refine fo Z 2 rfl rfl (s_el Z HM ei_u8 [(0, vB e.kind)] #[vB e.kind] ?_)
 clear Z HM; intro a w37 g37 Z HM
 refine Jb Z HM ((Jp 1∘Jd2∘Jr∘Jp 1∘Jg 0 O2∘Jg 0 O3∘Jp 1∘Jv 1 [(44, vQ (IntKind.u64.wrap (IntKind.i64.wrap (e.seq - b.seq))))]∘Jo (vQ ((e.seq - b.seq).toNat)) (by rw [qwo om om])∘JL (h:=by exact fun HM => qdy ((e.seq - b.seq).toNat) _ om)) ?_)
 rintro HM _ w45 ⟨v, rfl, ho, hbw⟩
 obtain ⟨A45, c45, rfl, hc45⟩ := qaa ho
 have hl45 := qd ((e.seq - b.seq).toNat)
 refine ⟨_, rfl, _, HM.callRow hbw ho, ?_⟩
 intro a Z HM
 refine fo Z 8 rfl rfl ?_
 replace HM := HM.blkRow (i := 1) (n := 1) (size := 1) rfl rfl de
 refine qn Z HM (i := 1) rfl ei_u8 rfl rfl rfl (news := ((vbytes ((e.seq - b.seq).toNat)).map B8)) (HM.rd (i := 0) rfl) (qba _) om om rfl de ?_
 clear Z HM; intro a w46 A46 c46 Z HM hc46
 refine Jb Z HM ((Jp 1∘Jd6∘Jr∘Jp 1∘Jg 1 O3∘Jg 1 O4∘Jp 1∘Jv 1 [(53, vQ (IntKind.u64.wrap (IntKind.i64.wrap (e.time - b.time))))]∘Jo (vQ ((e.time - b.time).toNat)) (by rw [qwo om om])∘JL (h:=by exact fun HM => qdy ((e.time - b.time).toNat) _ om)) ?_)
 rintro HM _ w54 ⟨v, rfl, ho, hbw⟩
 obtain ⟨A54, c54, rfl, hc54⟩ := qaa ho
 have hl54 := qd ((e.time - b.time).toNat)
 refine ⟨_, rfl, _, HM.callRow hbw ho, ?_⟩
 intro a Z HM
 refine fo Z 8 rfl rfl (qn Z HM (i := 2) rfl ei_u8 rfl rfl rfl (news := ((vbytes ((e.time - b.time).toNat)).map B8)) (HM.rd (i := 0) rfl) (qba _) om om rfl de ?_)
 clear Z HM; intro a w55 A55 c55 Z HM hc55
 refine Jb Z HM ((Jp 1∘Jd6∘Jq) fun a Z HM => ?_)
 have hn55 : (1 + ((vbytes ((e.seq - b.seq).toNat)).length)) + ((vbytes ((e.time - b.time).toNat)).length) = (putUp b e 0).length := by rw [qkm]; simp; try omega
 rw [hn55] at HM hc55
 rw [show (((#[vB e.kind]).toList) ++ ((vbytes ((e.seq - b.seq).toNat)).map B8)) ++ ((vbytes ((e.time - b.time).toNat)).map B8) = (putUp b e 0).map B8 from by simp [qkm, B8]] at HM
 replace Z := Z.sp 8 (.slice A55 ((putUp b e 0).length) c55) rfl (by rw [hn55])
 refine Jb Z HM ((JG∘JQ∘JP∘Jp 1∘Jj∘JB∘JM (.f (.f .n))) fun a Z HM => ?_)
 refine qi (fun mS aS wS => ∃ (k : Nat) (Ak : Option Addr) (ck : Nat), (k ≤ e.za.length) ∧ ((putUp b e k).length ≤ ck) ∧ mS = e.za.length - k ∧ Fr aS 70 [] [(9, vI k), (8, .slice Ak ((putUp b e k).length) ck), (34, .bool false), (16, .bool false), (7, vI e.check), (6, .slice A12 e.za.length c12), (5, vI 0), (4, vN), (3, vP g3 0), (2, vP g2 0)] ∧ Mem w wS [.row (.slice Ak ((putUp b e k).length) ck) ((putUp b e k).length) ((putUp b e k).map B8) 5 1, .row (.slice A12 e.za.length c12) e.za.length (e.za.map U64) 33 1, .blk g3 e.cells 105, .blk g2 b.cells 127]) (m := e.za.length - 0) ⟨0, A55, c55, Nat.zero_le _, hc55, rfl, Z.sub kr, HM.pk [0, 1, 2, 3]⟩ ?_
 clear Z HM; rintro mS a w_ ⟨k, Ak, ck, hk, hck, rfl, Z, HM⟩
 refine Jb Z HM ((JQ∘JP∘Jp 2∘Jl∘Jp 1∘Jd3∘Jj) (Ju (fun hb59 => ?_) fun hb59 => ?_))
 ·
  intro a Z HM
  have hk59 : k < e.za.length := by simp only [decide_eq_true_eq] at hb59; omega
  obtain ⟨x, hx⟩ : ∃ x, e.vals[k]? = some x := ⟨_, List.getElem?_eq_getElem (by rw [← hov]; exact hk59)⟩
  have hpl := qv5 b e k
  refine Jb Z HM ((JT∘JS'∘JQ∘JB∘JR∘Jp 3) ?_)
  repeat (first | clear Z | clear HM)
  intro a Z HM
  obtain ⟨gA12, rfl⟩ := qaf (HM.own (i := 1) rfl) (Nat.lt_of_le_of_lt (Nat.zero_le _) (show k < e.za.length from hk59))
  refine Jb Z HM ((Jy (v := vP gA12 (k * 1)) (h:=by exact Yl.ix0 gA12 k 1 rfl rfl rfl (hk59))∘Jy (v := vQ x) (h:=by exact Yl.qx rfl rfl kr (fun _ h => h.qk0 (i := 1) rfl (k := k) (qbi (F := U64) (k := k) (x := x) (by rw [hov]; exact hx))))∘JL (h:=by exact fun HM => qdy x _ (hx64 _ (List.mem_of_getElem? hx)))) ?_)
  rintro HM _ w67 ⟨v, rfl, ho, hbw⟩
  obtain ⟨A67, c67, rfl, hc67⟩ := qaa ho
  have hl67 := qd x
  refine ⟨_, rfl, _, HM.callRow hbw ho, ?_⟩
  intro a Z HM
  refine fo Z 6 rfl rfl (qn Z HM (i := 1) rfl ei_u8 rfl rfl rfl (news := ((vbytes x).map B8)) (HM.rd (i := 0) rfl) (qba _) om om rfl de ?_)
  clear Z HM; intro a w68 A68 c68 Z HM hc68
  refine Jb Z HM ((Jp 1∘Jd6∘Jq) fun a Z HM => ?_)
  have hn68 : ((putUp b e k).length) + ((vbytes x).length) = (putUp b e (k + 1)).length := by rw [qkn hx]; simp
  rw [hn68] at HM hc68
  rw [show ((putUp b e k).map B8) ++ ((vbytes x).map B8) = (putUp b e (k + 1)).map B8 from by rw [qkn hx, List.map_append]] at HM
  replace Z := Z.sp 8 (.slice A68 ((putUp b e (k + 1)).length) c68) rfl (by rw [hn68])
  refine Jb Z HM ((JG∘JR∘Jp 2∘Jo (vI (k + 1 : Nat)) (by rw [IntWalk.i64_in _ om]; simp)∘Jp 1∘Jd2∘Jq) fun a Z HM => ?_)
  exact ⟨_, om, k + 1, A68, c68, hk59, hc68, rfl, Z.sub kr, HM.pk [1, 2, 3, 4]⟩
 repeat (first | clear Z | clear HM)
 intro a Z HM
 obtain rfl : k = e.vals.length := by rw [hov] at hb59 hk; simp only [decide_eq_false_iff_not] at hb59; omega
 exact Jb Z HM ((JF∘JX∘JG∘JP∘Jp 3∘Jj∘JZ∘Jz2) fun HM => by exact ⟨⟨Ak, ck, by rw [qfs hgood hrb, qi9 hgood hrb, ← qi6]; rfl, by rw [qfs hgood hrb, ← qi6]; exact HM.own (i := 0) rfl, by rw [qfs hgood hrb, ← qi6]; exact hck⟩, HM.below⟩)
theorem qi8 (A : Option Addr) (n c : Nat) (l : List Ev) (hok : ∀ e ∈ l, e.Ok) (w : World) (hr : Rd w w.heap.size 11 A n (l.flatMap evL)) (hn : n ≤ 140737488355328) (hln : l.length = n) :
    Calls Tryz.prog 77 #[.slice A n c] w (RowPost w (rowR l)) := by
 refine (JN1 Tryz.func77 66) ?_
 refine (JP∘Jp 2∘Jj∘JQ∘JP∘Jp 1∘Jj∘JB) fun a Z HM => ?_
 refine qi (fun mS aS wS => ∃ (k : Nat), (k ≤ n) ∧ (rowR l = rowGo (qbg l k) k (l.drop k)) ∧ mS = n - k ∧ Fr aS 66 [] [(4, vI k), (3, vI 0), (2, vI 0), (0, .slice A n c)] ∧ Mem w wS []) (m := n - 0) ⟨0, Nat.zero_le _, rfl, rfl, Z.sub kr, HM.pk []⟩ ?_
 clear Z HM; rintro mS a w_ ⟨k, hk, hj, rfl, Z, HM⟩
 refine Jb Z HM ((JQ∘JP∘Jp 2∘Jl∘Jp 1∘Jd3∘Jj) (Ju (fun hb9 => ?_) fun hb9 => ?_))
 ·
  intro a Z HM
  have hk9 : k < n := by simp at hb9; omega
  obtain ⟨e, hke⟩ : ∃ e, l[k]? = some e := ⟨_, List.getElem?_eq_getElem om⟩
  have hgo := qsl hke
  refine Jb Z HM ((JT∘JS'∘JQ∘JB∘JQ∘JP∘Jp 2) ?_)
  repeat (first | clear Z | clear HM)
  intro a Z HM
  obtain ⟨gA, oA, rfl, _⟩ := hr.qt (Nat.lt_of_le_of_lt (Nat.zero_le _) (show k < n from hk9)) de
  refine Jb Z HM ((Jy (v := vP gA (oA + k * 11)) (h:=by exact Yl.ix gA oA k 11 rfl rfl rfl (hk9))∘Jy (v := .agg e.cells) (h:=by exact Yl.qr rfl rfl ⟨kr, kr⟩ rfl (fun _ h => (h.old hr).qah qw (hke)))∘JL (h:=by exact fun HM => qfq e (hok e (List.mem_of_getElem? hke)) _)) ?_)
  rintro HM _ w16 ⟨rfl, hbw⟩
  refine ⟨_, rfl, _, HM.call hbw, ?_⟩
  refine (Jp 1∘Jd5∘Jr∘Jp 2∘Jd1∘Jj) (Ju (fun hb18 => ?_) fun hb18 => ?_)
  ·
   intro a Z HM
   have hcb : e.check ≠ 0 := by rw [bne_iff_ne] at hb18; omega
   rw [if_pos hcb] at hgo
   exact Jb Z HM ((JT∘JP∘Jp 4∘Jj∘JZ∘Jz2) fun HM => by exact ⟨by rw [hj, hgo]; (try rfl), HM.below⟩)
  intro a Z HM
  have hcg : ¬ e.check ≠ 0 := by rw [bne_eq_false_iff_eq] at hb18; omega
  rw [if_neg hcg] at hgo
  refine Jb Z HM ((JF∘JS') fun a Z HM => ?_)
  refine zk (fun aS wS => Fr aS 66 [] [(64, .bool (!(qbg l k).all (fun q => e.after q))), (18, .bool false), (5, vI e.check), (9, .bool true), (4, vI k), (3, vI 0), (2, vI 0), (0, .slice (some ⟨gA, oA, none⟩) n c)] ∧ Mem w wS []) ?_ ?_
  ·
   refine Jb Z HM ((Vs .n []) fun wd7 => (Vp [0, 1, 2]) fun a Z HM HS => ?_)
   rcases Z.tf 23 rfl with ⟨hb23, Z⟩ | ⟨hb23, Z⟩
   ·
    have hk0 : 0 < k := by simp at hb23; omega
    obtain ⟨q, hq⟩ : ∃ q, l[k - 1]? = some q := ⟨_, List.getElem?_eq_getElem om⟩
    have hpv : qbg l k = some q := by rw [← hq, show k = (k - 1) + 1 by omega]; rfl
    refine Vb Z HM HS ((Vp [3, 4, 8, 9]∘Vy 5 (v := vP gA (oA + k * 11)) (h:=by exact Yl.ix gA oA k 11 rfl rfl rfl (hk9))∘Vf 6 2∘Vy 7 (v := vB e.cpu) (h:=by exact Yl.qx rfl rfl kr (fun _ h => (h.old hr).partAt qw (k := k) (j := 2) (x := e) (hke) rfl))∘Vp [10]∘Vo (vI (k - 1 : Nat)) (by rw [IntWalk.i64_in _ om]; congr 1; omega)∘Vy 11 (v := vP gA (oA + (k - 1) * 11)) (h:=by exact Yl.ix gA oA (k - 1) 11 rfl rfl rfl)∘Vf 12 2∘Vy 13 (v := vB q.cpu) (h:=by exact Yl.qx rfl rfl kr (fun _ h => (h.old hr).partAt qw (k := (k - 1)) (j := 2) (x := q) (hq) rfl))∘Vp [14, 15]) fun a Z HM HS => ?_)
    rcases Z.tf 36 rfl with ⟨hb36, Z⟩ | ⟨hb36, Z⟩
    ·
     refine Vb Z HM HS ((Vq [16, 17, 18, 19, 20, 21, 22, 23, 24, 25, 26, 27, 28, 29, 30, 31, 32, 33, 34, 35, 36, 37, 38, 39, 40, 41, 42, 43] [(64, .bool true)]∘Vd∘Jd6) fun a Z HM => ?_)
     have Z := Z.sp 64 (.bool (!(qbg l k).all (fun q => e.after q))) rfl (congrArg Value.bool (by rw [hpv]; (try simp at hb9); (try simp at hb18); (try simp at hb23); (try simp at hb36); rw [Bool.eq_iff_iff]; simp [Ev.after]; try omega))
     exact ⟨Z.sub kr, HM.pk []⟩
    refine ap Z (fun _ => HS) [16, 17, 21, 22] (bf 44 [0, 1, 2, 3, 4, 5, 6, 7, 8, 9, 10, 11, 12, 13, 14, 15, 16, 17, 21, 22]) [(43, vI k), (42, .slice (some ⟨gA, oA, none⟩) n c), (38, vI k), (37, .slice (some ⟨gA, oA, none⟩) n c)] fun a Z => ?_
    refine s_az Z HS 18 rfl (v := vP gA (oA + k * 11)) (Yl.ix gA oA k 11 rfl rfl rfl (hk9)) fun a Z => ?_
    refine ap Z (fun _ => HS) [19] (bf 44 [0, 1, 2, 3, 4, 5, 6, 7, 8, 9, 10, 11, 12, 13, 14, 15, 16, 17, 18, 19, 21, 22]) [(40, vP gA (oA + k * 11))] fun a Z => ?_
    refine s_az Z HS 20 rfl (v := vI e.seq) (Yl.qx rfl rfl kr (fun _ h => (by have := (h.old hr).partAt qw (k := k) (j := 0) (x := e) (hke) rfl; simpa using this))) fun a Z => ?_
    refine qcd Z (fun _ => HS) (i := 23) rfl rfl (d := 44) rfl de kr (fun _ _ _ h => h) (v := vI (IntKind.i64.wrap ((k : Int) - 1))) (fun _ => Yl.pure kr) fun a Z => ?_
    replace Z := Z.sp 44 (vI (k - 1 : Nat)) rfl (by rw [IntWalk.i64_in _ om]; congr 1; omega)
    refine s_az Z HS 24 rfl (v := vP gA (oA + (k - 1) * 11)) (Yl.ix gA oA (k - 1) 11 rfl rfl rfl) fun a Z => ?_
    refine ap Z (fun _ => HS) [25] (bt 44 [26, 27, 28, 29, 30, 31, 32, 33, 34, 35, 36, 37, 38, 39, 40, 41, 42, 43]) [(46, vP gA (oA + (k - 1) * 11))] fun a Z => ?_
    refine s_az Z HS 26 rfl (v := vI q.seq) (Yl.qx rfl rfl kr (fun _ h => (by have := (h.old hr).partAt qw (k := (k - 1)) (j := 0) (x := q) (hq) rfl; simpa using this))) fun a Z => ?_
    refine ap Z (fun _ => HS) [27, 28, 29] (bt 44 [30, 31, 32, 33, 34, 35, 36, 37, 38, 39, 40, 41, 42, 43]) [(50, .bool (decide ((e.seq : Int) ≤ (q.seq : Int))))] fun a Z => ?_
    refine Jb Z HM (Ju (fun hb50 => ?_) fun hb50 => ?_)
    ·
     intro a Z HM
     refine ap Z (fun _ => HS) [30, 31, 32, 33, 34, 35, 36, 37, 38, 39, 40, 41, 42, 43] (bt 44 []) [(64, .bool true)] fun a Z => ?_
     refine qh kr ?_
     have Z := Z.sp 64 (.bool (!(qbg l k).all (fun q => e.after q))) rfl (congrArg Value.bool (by rw [hpv]; (try simp at hb9); (try simp at hb18); (try simp at hb23); (try simp at hb36); (try simp at hb50); rw [Bool.eq_iff_iff]; simp [Ev.after]; try omega))
     exact ⟨Z.sub kr, HM.pk []⟩
    intro a Z HM
    refine ap Z (fun _ => HS) [30, 31, 35, 36] (bt 44 [32, 33, 34, 37, 38, 39, 40, 41, 42, 43]) [(57, vI k), (56, .slice (some ⟨gA, oA, none⟩) n c), (52, vI k), (51, .slice (some ⟨gA, oA, none⟩) n c)] fun a Z => ?_
    refine s_az Z HS 32 rfl (v := vP gA (oA + k * 11)) (Yl.ix gA oA k 11 rfl rfl rfl (hk9)) fun a Z => ?_
    refine ap Z (fun _ => HS) [33] (bt 44 [34, 37, 38, 39, 40, 41, 42, 43]) [(54, vP gA (oA + k * 11 + 1))] fun a Z => ?_
    refine s_az Z HS 34 rfl (v := vI e.time) (Yl.qx rfl rfl kr (fun _ h => (h.old hr).partAt qw (k := k) (j := 1) (x := e) (hke) rfl)) fun a Z => ?_
    refine qcd Z (fun _ => HS) (i := 37) rfl rfl (d := 58) rfl de kr (fun _ _ _ h => h) (v := vI (IntKind.i64.wrap ((k : Int) - 1))) (fun _ => Yl.pure kr) fun a Z => ?_
    replace Z := Z.sp 58 (vI (k - 1 : Nat)) rfl (by rw [IntWalk.i64_in _ om]; congr 1; omega)
    refine s_az Z HS 38 rfl (v := vP gA (oA + (k - 1) * 11)) (Yl.ix gA oA (k - 1) 11 rfl rfl rfl) fun a Z => ?_
    refine ap Z (fun _ => HS) [39] (bt 44 [40, 41, 42, 43]) [(60, vP gA (oA + (k - 1) * 11 + 1))] fun a Z => ?_
    refine s_az Z HS 40 rfl (v := vI q.time) (Yl.qx rfl rfl kr (fun _ h => (h.old hr).partAt qw (k := (k - 1)) (j := 1) (x := q) (hq) rfl)) fun a Z => ?_
    refine ap Z (fun _ => HS) [41, 42, 43] (bt 44 []) [(64, .bool (decide ((e.time : Int) < (q.time : Int))))] fun a Z => ?_
    refine qh kr ?_
    replace Z := Z.to [(64, .bool (decide ((e.time : Int) < (q.time : Int)))), (18, .bool false), (5, vI e.check), (9, .bool true), (4, vI k), (3, vI 0), (2, vI 0), (0, .slice (some ⟨gA, oA, none⟩) n c)]
    have Z := Z.sp 64 (.bool (!(qbg l k).all (fun q => e.after q))) rfl (congrArg Value.bool (by rw [hpv]; (try simp at hb9); (try simp at hb18); (try simp at hb23); (try simp at hb36); (try simp at hb50); rw [Bool.eq_iff_iff]; simp [Ev.after]; try omega))
    exact ⟨Z.sub kr, HM.pk []⟩
   have hpv : qbg l k = none := by rw [show k = 0 by simp at hb23; omega]; rfl
   refine ap Z (fun _ => HS) [3, 4, 5, 6, 7, 8, 9, 10, 11, 12, 13, 14, 15, 16, 17, 18, 19, 20, 21, 22, 23, 24, 25, 26, 27, 28, 29, 30, 31, 32, 33, 34, 35, 36, 37, 38, 39, 40, 41, 42, 43] (bt 44 []) [(64, .bool false)] fun a Z => ?_
   refine qh kr ?_
   have Z := Z.sp 64 (.bool (!(qbg l k).all (fun q => e.after q))) rfl (congrArg Value.bool (by rw [hpv]; (try simp at hb9); (try simp at hb18); (try simp at hb23); rw [Bool.eq_iff_iff]; simp [Ev.after]; try omega))
   exact ⟨Z.sub kr, HM.pk []⟩
  clear Z HM; rintro a w7 ⟨Z, HM⟩
  refine Jb Z HM (Ju (fun hb64 => ?_) fun hb64 => ?_)
  ·
   intro a Z HM
   rw [if_pos (by simpa using hb64)] at hgo
   exact Jb Z HM ((JT∘JP∘Jp 3∘Jj∘JZ∘Jz2) fun HM => by exact ⟨by rw [hj, hgo]; (try rfl), HM.below⟩)
  intro a Z HM
  rw [if_neg (by simpa using hb64)] at hgo
  refine Jb Z HM ((JF∘JS'∘JR∘Jp 2∘Jo (vI (k + 1 : Nat)) (by rw [IntWalk.i64_in _ om]; simp)∘Jp 1∘Jd2∘Jq) fun a Z HM => ?_)
  exact ⟨_, om, k + 1, by omega, hj.trans hgo, rfl, Z.sub kr, HM.pk []⟩
 intro a Z HM
 have hk9 : k = n := by simp at hb9; omega
 exact Jb Z HM ((JF∘JX∘JG∘JP∘Jp 2∘Jj∘JZ∘Jz2) fun HM => by exact ⟨by rw [hj, hk9, List.drop_eq_nil_of_le om]; cases qbg l n <;> rfl, HM.below⟩)
structure It where
 e : Ev
 before : Int
structure It.Ok (x : It) : Prop where
 e : x.e.Ok
 before : I64 x.before
def It.cells (x : It) : Array Value := #[.int .i64 x.e.seq, .int .i64 x.e.time, .int .u8 (x.e.cpu : Int), .int .u8 (x.e.kind : Int), .int .i64 x.e.task, .int .i64 x.e.group, .int .i64 x.e.to, .int .i64 x.e.weight, .int .i64 x.e.ticks, .int .u64 (x.e.mask : Int), .int .i64 x.e.got, .int .i64 x.before]
def itL (x : It) : List Value := x.cells.toList
theorem qdw (x : It) : (itL x).length = 12 := rfl
def evsI (l : List It) : List Ev := l.map It.e
def befI (l : List It) : List Int := l.map It.before
def qb4 : Int → List Int → Bool
 | _, [] => true
 | r, n :: t => decide (0 ≤ n ∧ n ≤ r) && qb4 (r - n) t
def qeh : Int := 281474976710656
def cpuOk (cpu : Nat) : List It → Bool
 | [] => true
 | x :: _ => decide (x.e.cpu = cpu)
def qax (cpu : Nat) (l : List It) (opn : Int) : Bool := decide ((rowR (evsI l)).2 = 0) && (qb4 qeh (opn :: befI l) && cpuOk cpu l)
def sumI : List Int → Int
 | [] => 0
 | n :: t => n + sumI t
def ofB (cpu : Nat) (l : List It) (opn : Int) (n : Nat) : Bk := ⟨1, cpu, sumI (befI (l.take n)) + (if n = l.length then opn else 0), 0, evsI (l.take n)⟩
def qau (p : Nat → Bool) : Nat → Nat
 | 0 => 0
 | n + 1 => if p (n + 1) = true then n + 1 else qau p n
def cutN (cpu : Nat) (l : List It) (opn : Int) (limit : Nat) : Nat := qau (fun n => decide ((ofB cpu l opn n).err = 0)) (min l.length limit)
def cutGo (cpu : Nat) (opn : Int) (limit : Nat) : Nat → List It → List Bk
 | 0, _ => []
 | f + 1, l => if l.length = 0 then [] else ofB cpu l opn (cutN cpu l opn limit) :: cutGo cpu opn limit f (l.drop (cutN cpu l opn limit))
def cutS (cpu : Nat) (l : List It) (opn : Int) (limit : Int) : List Bk × Nat :=
 if 64 ≤ cpu ∨ limit < 1 ∨ 4096 < limit then ([], 2)
 else if qax cpu l opn = false then ([], 110)
 else if l.length = 0 then ((if opn = 0 then [] else [⟨1, cpu, opn, 0, []⟩]), 0)
 else (cutGo cpu opn limit.toNat l.length l, 0)
theorem qke : ∀ {l : List Int} {r : Int}, qb4 r l = true → ∀ n ∈ l, 0 ≤ n ∧ n ≤ r
 | [], _, _, n, hn => by cases hn
 | x :: t, r, h, n, hn => by
  simp only [qb4, Bool.and_eq_true, decide_eq_true_eq] at h
  rcases List.mem_cons.1 hn with rfl | hn
  ·exact h.1
  ·have := qke h.2 n hn
   omega
theorem qkf : ∀ {l : List Int} {r : Int}, 0 ≤ r → qb4 r l = true → 0 ≤ sumI l ∧ sumI l ≤ r
 | [], r, hr, _ => ⟨Int.le_refl _, hr⟩
 | x :: t, r, hr, h => by
  simp only [qb4, Bool.and_eq_true, decide_eq_true_eq] at h
  have := qkf om h.2
  simp only [sumI]
  omega
theorem qlp : ∀ (a b : List Int), sumI (a ++ b) = sumI a + sumI b
 | [], b => by simp [sumI]
 | x :: a, b => by simp only [List.cons_append, sumI, qlp a b]; omega
theorem qei (p : Nat → Bool) : ∀ n, qau p n ≤ n
 | 0 => Nat.le_refl _
 | n + 1 => by
  rw [qau]
  split
  ·exact Nat.le_refl _
  ·exact Nat.le_succ_of_le (qei p n)
theorem qi0 (p : Nat → Bool) : ∀ n, 0 < qau p n → p (qau p n) = true
 | 0, h => by simp [qau] at h
 | n + 1, h => by
  rw [qau] at h ⊢
  split
  ·rename_i hp; exact hp
  ·rename_i hp
   rw [if_neg hp] at h
   exact qi0 p n h
theorem qg7 (p : Nat → Bool) (h1 : p 1 = true) : ∀ n, 0 < n → 0 < qau p n
 | 0, h => by omega
 | n + 1, _ => by
  rw [qau]
  split
  ·omega
  ·rename_i hp
   cases n with
   | zero => exact absurd h1 hp
   | succ m => exact qg7 p h1 (m + 1) om
theorem qi1 (p : Nat → Bool) : ∀ {n k : Nat}, k ≤ n → (∀ m, k < m → m ≤ n → p m = false) → qau p n = qau p k
 | 0, k, h, _ => by
  have : k = 0 := by omega
  subst this; rfl
 | n + 1, k, h, hno => by
  by_cases hk : k = n + 1
  ·subst hk; rfl
  ·rw [qau, if_neg (by rw [hno (n + 1) om (Nat.le_refl _)]; decide)]
   exact qi1 p om (fun m h1 h2 => hno m h1 om)
theorem qna {cpu : Nat} : ∀ (l : List Ev) (p : Option Ev) (b : Bs) (k : Nat), Chain cpu p b l → ∃ b', Chain cpu none b' (l.drop k)
 | [], _, b, k, _ => ⟨b, by rw [List.drop_nil]; trivial⟩
 | e :: r, p, b, 0, h => ⟨b, h.1, h.2.1, (fun q hq => by cases hq), h.2.2.2⟩
 | e :: r, _, _, k + 1, h => qna r (some e) e.at k h.2.2.2
theorem qge (l : List It) (n : Nat) : evsI (l.take n) = (evsI l).take n := by unfold evsI; rw [List.map_take]
theorem qvj (l : List It) (n : Nat) : evsI (l.drop n) = (evsI l).drop n := by unfold evsI; rw [List.map_drop]
theorem qgf (l : List It) : (evsI l).length = l.length := by unfold evsI; rw [List.length_map]
theorem qg8 (l : List It) (n : Nat) : sumI (befI l) = sumI (befI (l.take n)) + sumI (befI (l.drop n)) := by
 unfold befI
 rw [List.map_take, List.map_drop, ← qlp, List.take_append_drop]
theorem qi2 : ∀ {l : List Int}, (∀ n ∈ l, 0 ≤ n) → 0 ≤ sumI l
 | [], _ => Int.le_refl _
 | x :: t, h => by
  have h1 := h x List.mem_cons_self
  have h2 := qi2 (l := t) (fun n hn => h n (List.mem_cons_of_mem _ hn))
  simp only [sumI]
  omega
structure GoodI (cpu : Nat) (l : List It) (opn : Int) : Prop where
 c64 : cpu < 64
 chain : ∃ b, Chain cpu none b (evsI l)
 ok : ∀ x ∈ l, x.Ok
 o0 : 0 ≤ opn
 bef : ∀ x ∈ l, 0 ≤ x.before
 sum : opn + sumI (befI l) ≤ 281474976710656
theorem qcr {l : List It} (h : ∀ x ∈ l, 0 ≤ x.before) : 0 ≤ sumI (befI l) := qi2 fun n hn => by
 unfold befI at hn
 obtain ⟨x, hx, rfl⟩ := List.mem_map.1 hn
 exact h x hx
theorem GoodI.drop {cpu : Nat} {l : List It} {opn : Int} (h : GoodI cpu l opn) (k : Nat) : GoodI cpu (l.drop k) opn := by
 obtain ⟨b, hb⟩ := h.chain
 have h1 := qg8 l k
 have h2 := qcr (l := l.take k) (fun x hx => h.bef x (List.mem_of_mem_take hx))
 have h3 := h.sum
 exact ⟨h.c64, by rw [qvj]; exact qna _ _ _ k hb, fun x hx => h.ok x (List.mem_of_mem_drop hx), h.o0, fun x hx => h.bef x (List.mem_of_mem_drop hx), by omega⟩
theorem GoodI.of {cpu : Nat} {l : List It} {opn : Int} (hc : cpu < 64) (hok : ∀ x ∈ l, x.Ok) (h : qax cpu l opn = true) : GoodI cpu l opn := by
 unfold qax at h
 simp only [Bool.and_eq_true, decide_eq_true_eq] at h
 obtain ⟨h1, h2, h3⟩ := h
 have hr := h2
 simp only [qb4, Bool.and_eq_true, decide_eq_true_eq] at hr
 have hs := qkf (r := qeh - opn) om hr.2
 have hm : qeh = 281474976710656 := rfl
 refine ⟨hc, ?_, hok, hr.1.1, ?_, by omega⟩
 ·cases l with
  | nil => exact ⟨⟨0, 0⟩, trivial⟩
  | cons x r =>
   have hev : ∀ e ∈ evsI (x :: r), e.Ok := fun e he => by
    unfold evsI at he
    obtain ⟨y, hy, rfl⟩ := List.mem_map.1 he
    exact (hok y hy).e
   have hx : x.e.check = 0 := qqc h1 rfl
   have hcp : x.e.cpu = cpu := by simpa [cpuOk] using h3
   refine ⟨x.e.at, qee (evsI (x :: r)) none x.e.at 0 hev (qhy hx) ?_ (fun q hq => by cases hq) h1⟩
   intro y hy
   have : y = x.e := by simpa [evsI] using hy.symm
   subst this
   exact ⟨qiq _, hcp⟩
 ·intro x hx
  exact (qke hr.2 x.before (List.mem_map_of_mem hx)).1
theorem qfm {cpu : Nat} {l : List It} {opn : Int} {n : Nat} (hn : n ≤ l.length) : (ofB cpu l opn n).evs.length = n := by
 show (evsI (l.take n)).length = n
 rw [qgf, List.length_take]
 omega
theorem qlq {cpu : Nat} {l : List It} {opn : Int} (h : GoodI cpu l opn) (n : Nat) : 0 ≤ (ofB cpu l opn n).lost ∧ (ofB cpu l opn n).lost ≤ 281474976710656 := by
 have h1 := qg8 l n
 have h2 := qcr (l := l.take n) (fun x hx => h.bef x (List.mem_of_mem_take hx))
 have h3 := qcr (l := l.drop n) (fun x hx => h.bef x (List.mem_of_mem_drop hx))
 have h4 := h.sum
 have h5 := h.o0
 show 0 ≤ sumI (befI (l.take n)) + (if n = l.length then opn else 0) ∧ sumI (befI (l.take n)) + (if n = l.length then opn else 0) ≤ _
 split <;> omega
theorem q2q {cpu : Nat} {l : List It} {opn : Int} (h : GoodI cpu l opn) (n : Nat) : (ofB cpu l opn n).Ok := by
 have := qlq h n
 refine ⟨by show 1 < 256; decide, by have := h.c64; show cpu < 256; omega, ⟨by omega, by omega⟩, by show I64 0; exact ⟨by decide, by decide⟩, fun e he => ?_⟩
 have he : e ∈ evsI (l.take n) := he
 unfold evsI at he
 obtain ⟨y, hy, rfl⟩ := List.mem_map.1 he
 exact (h.ok y (List.mem_of_mem_take hy)).e
theorem qi3 {cpu : Nat} {b : Bs} {l : List Ev} (h : Chain cpu none b l) : (rowR l).2 = 0 := by
 cases l with
 | nil => rfl
 | cons e r =>
  have hr : b.right = true := h.1.right
  rw [(qmu hr h).1]
theorem qyv {cpu : Nat} {l : List It} {opn : Int} (h : GoodI cpu l opn) {n : Nat} (h1 : 0 < n) (h2 : n ≤ l.length) : (ofB cpu l opn n).fits = true := by
 obtain ⟨b, hb⟩ := h.chain
 have hl := qlq h n
 have hlen := qfm (cpu := cpu) (opn := opn) h2
 have hc : Chain cpu none b (evsI (l.take n)) := by rw [qge]; exact qiz _ _ _ n hb
 rw [qgd (b := ofB cpu l opn n) rfl (by show cpu ≤ 63; have := h.c64; omega) hl.1 hl.2 rfl (by rw [hlen]; omega), decide_eq_true_eq]
 ·exact qi3 hc
 ·intro k hk
  exact qh2 _ _ _ hc _ (qa5 Ev.zero hk)
theorem qyw {cpu : Nat} {l : List It} {opn : Int} {n : Nat} (h1 : 0 < n) (h2 : n ≤ l.length) : 12 + (ofB cpu l opn n).body.length = Bk.sz ⟨1, cpu, (ofB cpu l opn n).lost, 0, evsI l⟩ n + (vbytes n).length := by
 have h := qvg (b := ⟨1, cpu, (ofB cpu l opn n).lost, 0, evsI l⟩) rfl h1 (by show n ≤ (evsI l).length; rw [qgf]; exact h2)
 have e : Bk.upto ⟨1, cpu, (ofB cpu l opn n).lost, 0, evsI l⟩ n = ofB cpu l opn n := by
  unfold Bk.upto
  show (⟨1, cpu, (ofB cpu l opn n).lost, 0, (evsI l).take n⟩ : Bk) = ⟨1, cpu, _, 0, evsI (l.take n)⟩
  rw [qge]
  rfl
 rwa [e] at h
theorem q1a {cpu : Nat} {lo lo' : Int} {es : List Ev} {n : Nat} (h : lo ≤ lo') : Bk.sz ⟨1, cpu, lo, 0, es⟩ n ≤ Bk.sz ⟨1, cpu, lo', 0, es⟩ n := by
 have h1 := qkd (x := lo.toNat) (y := lo'.toNat) om
 have hb : Bk.base ⟨1, cpu, lo, 0, es⟩ = Bk.base ⟨1, cpu, lo', 0, es⟩ := rfl
 unfold Bk.sz
 simp only [hb]
 generalize (vbytes cpu).length = a1
 generalize Bk.base ⟨1, cpu, lo', 0, es⟩ = q
 generalize (vbytes q.seq.toNat).length = a2
 generalize (vbytes q.time.toNat).length = a3
 generalize (recs q (List.take n es)).length = a4
 omega
theorem q1b {cpu : Nat} {lo : Int} {es : List Ev} {m n : Nat} (h0 : 0 < n) (h : n ≤ m) : Bk.sz ⟨1, cpu, lo, 0, es.take m⟩ n = Bk.sz ⟨1, cpu, lo, 0, es⟩ n := by
 have hb : Bk.base ⟨1, cpu, lo, 0, es.take m⟩ = Bk.base ⟨1, cpu, lo, 0, es⟩ := by
  unfold Bk.base
  cases es with
  | nil => simp
  | cons e r =>
   cases m with
   | zero => omega
   | succ j => rfl
 unfold Bk.sz
 rw [hb]
 show 12 + _ + _ + _ + _ + (recs _ ((es.take m).take n)).length = 12 + _ + _ + _ + _ + (recs _ (es.take n)).length
 rw [List.take_take, Nat.min_eq_left h]
theorem qvk {cpu : Nat} {l : List It} {opn : Int} (h : GoodI cpu l opn) {n : Nat} (h1 : 0 < n) (h2 : n ≤ l.length) : (ofB cpu l opn n).err = 0 ↔ Bk.sz ⟨1, cpu, (ofB cpu l opn n).lost, 0, evsI l⟩ n + (vbytes n).length ≤ 4096 := by
 have hs := qyw (cpu := cpu) (opn := opn) h1 h2
 unfold Bk.err
 rw [if_neg (by rw [qyv h h1 h2]; decide), hs]
 split <;> omega
theorem qej (p : Nat → Bool) : ∀ n m, qau p n < m → m ≤ n → p m = false
 | 0, m, h1, h2 => by omega
 | n + 1, m, h1, h2 => by
  rw [qau] at h1
  split at h1
  ·omega
  ·rename_i hp
   by_cases hm : m = n + 1
   ·subst hm; simpa using hp
   ·exact qej p n m h1 om
def mostB (cpu : Nat) (l : List It) (m : Nat) : Bk := ⟨1, cpu, 0, 0, evsI (l.take m)⟩
theorem qkg {cpu : Nat} {l : List It} {opn : Int} (h : GoodI cpu l opn) {m : Nat} (h0 : 0 < m) (hm : m ≤ l.length) : (mostB cpu l m).fits = true ∧ (mostB cpu l m).Ok ∧ (mostB cpu l m).qgp ≤ m ∧ 0 < (mostB cpu l m).qgp ∧ ∀ n, (mostB cpu l m).qgp < n → n ≤ m → (ofB cpu l opn n).err ≠ 0 := by
 obtain ⟨b, hb⟩ := h.chain
 have hc : Chain cpu none b (evsI (l.take m)) := by rw [qge]; exact qiz _ _ _ m hb
 have hlen : (mostB cpu l m).evs.length = m := by show (evsI (l.take m)).length = m; rw [qgf, List.length_take]; omega
 have hbig : ∀ n, 0 < n → n ≤ m → ((mostB cpu l m).big n = true ↔ 4096 < Bk.sz ⟨1, cpu, 0, 0, evsI l⟩ n + (vbytes n).length) := fun n h1 h2 => by
  unfold Bk.big
  rw [decide_eq_true_eq]
  unfold mostB
  rw [qge, q1b h1 h2]
 obtain ⟨k, hk⟩ : ∃ k, k = qau (fun i => !(mostB cpu l m).big i) m := ⟨_, rfl⟩
 have hkm : k ≤ m := by rw [hk]; exact qei _ _
 have hf : (mostB cpu l m).qgp = k := by
  refine qvi (by rw [hlen]; exact hkm) (fun h1 => ?_) (fun n h1 h2 => ?_)
  ·have := qi0 (fun i => !(mostB cpu l m).big i) m (by rw [← hk]; exact h1)
   rw [← hk] at this
   simpa using this
  ·have := qej (fun i => !(mostB cpu l m).big i) m n (by rw [← hk]; exact h1) (by rw [hlen] at h2; exact h2)
   simpa using this
 have hpos : 0 < k := by
  rw [hk]
  refine qg7 _ ?_ m h0
  have h1 := (hbig 1 om om)
  have h2 := sz_le ⟨1, cpu, 0, 0, evsI l⟩ 1
  have h3 := qd 1
  cases hb1 : (mostB cpu l m).big 1 with
  | true => have := h1.1 hb1; omega
  | false => rfl
 refine ⟨?_, ?_, by rw [hf]; exact hkm, by rw [hf]; exact hpos, ?_⟩
 ·rw [qgd (b := mostB cpu l m) rfl (by show cpu ≤ 63; have := h.c64; omega) (Int.le_refl _) (by show (0 : Int) ≤ _; omega) rfl (by rw [hlen]; omega), decide_eq_true_eq]
  ·exact qi3 hc
  ·intro i hi
   exact qh2 _ _ _ hc _ (qa5 Ev.zero hi)
 ·refine ⟨by show 1 < 256; decide, by have := h.c64; show cpu < 256; omega, by show I64 0; exact ⟨by decide, by decide⟩, by show I64 0; exact ⟨by decide, by decide⟩, fun e he => ?_⟩
  have he : e ∈ evsI (l.take m) := he
  unfold evsI at he
  obtain ⟨y, hy, rfl⟩ := List.mem_map.1 he
  exact (h.ok y (List.mem_of_mem_take hy)).e
 ·intro n h1 h2 he
  rw [hf, hk] at h1
  have h3 := qej (fun i => !(mostB cpu l m).big i) m n h1 h2
  have h4 : (mostB cpu l m).big n = true := by simpa using h3
  have hn : 0 < n := by omega
  have h5 := (hbig n hn h2).1 h4
  have h6 := (qvk h hn om).1 he
  have h7 := q1a (cpu := cpu) (es := evsI l) (n := n) (qlq h n).1
  omega
theorem qvl {cpu : Nat} {l : List It} {opn : Int} (h : GoodI cpu l opn) {limit : Nat} (hl : 0 < limit) (h0 : 0 < l.length) :
  cutN cpu l opn limit = qau (fun n => decide ((ofB cpu l opn n).err = 0)) (mostB cpu l (min l.length limit)).qgp := by
 have hm := qkg h (m := min l.length limit) om om
 unfold cutN
 refine qi1 _ hm.2.2.1 (fun n h1 h2 => ?_)
 rw [decide_eq_false_iff_not]
 exact hm.2.2.2.2 n h1 h2
theorem q1c {cpu : Nat} {l : List It} {opn : Int} (h : GoodI cpu l opn) (h0 : 0 < l.length) : (ofB cpu l opn 1).err = 0 := by
 rw [qvk h om om]
 have h2 := sz_le ⟨1, cpu, (ofB cpu l opn 1).lost, 0, evsI l⟩ 1
 have h3 := qd 1
 omega
theorem qyx {cpu : Nat} {l : List It} {opn : Int} (h : GoodI cpu l opn) {limit : Nat} (hl : 0 < limit) (h0 : 0 < l.length) : 0 < cutN cpu l opn limit ∧ cutN cpu l opn limit ≤ l.length ∧ (ofB cpu l opn (cutN cpu l opn limit)).err = 0 := by
 have h1 := qg7 (fun n => decide ((ofB cpu l opn n).err = 0)) (by rw [decide_eq_true (q1c h h0)]) (min l.length limit) om
 have h2 := qei (fun n => decide ((ofB cpu l opn n).err = 0)) (min l.length limit)
 have h3 := qi0 (fun n => decide ((ofB cpu l opn n).err = 0)) (min l.length limit) h1
 unfold cutN
 exact ⟨h1, by omega, of_decide_eq_true h3⟩
theorem qrx {cpu limit f : Nat} {opn : Int} {l : List It} (h : 0 < l.length) (hf : 0 < f) : cutGo cpu opn limit f l = ofB cpu l opn (cutN cpu l opn limit) :: cutGo cpu opn limit (f - 1) (l.drop (cutN cpu l opn limit)) := by
 cases f with
 | zero => omega
 | succ f => rw [cutGo, if_neg om]; rfl
theorem qvm {cpu limit f : Nat} {opn : Int} {l : List It} (h : l.length = 0) : cutGo cpu opn limit f l = [] := by
 cases f with
 | zero => rfl
 | succ f => rw [cutGo, if_pos h]
section
variable {cpu : Nat} {l : List It} {opn limit : Int}
theorem qlr (h : 64 ≤ cpu ∨ limit < 1 ∨ 4096 < limit) : cutS cpu l opn limit = ([], 2) := by unfold cutS; rw [if_pos h]
theorem qry (h : ¬(64 ≤ cpu ∨ limit < 1 ∨ 4096 < limit)) (h2 : qax cpu l opn = false) : cutS cpu l opn limit = ([], 110) := by unfold cutS; rw [if_neg h, if_pos h2]
theorem qvn (h : ¬(64 ≤ cpu ∨ limit < 1 ∨ 4096 < limit)) (h2 : qax cpu l opn = true) (h3 : l.length = 0) (h4 : opn = 0) : cutS cpu l opn limit = ([], 0) := by unfold cutS; rw [if_neg h, if_neg (by rw [h2]; decide), if_pos h3, if_pos h4]
theorem qvo (h : ¬(64 ≤ cpu ∨ limit < 1 ∨ 4096 < limit)) (h2 : qax cpu l opn = true) (h3 : l.length = 0) (h4 : opn ≠ 0) : cutS cpu l opn limit = ([⟨1, cpu, opn, 0, []⟩], 0) := by unfold cutS; rw [if_neg h, if_neg (by rw [h2]; decide), if_pos h3, if_neg h4]
theorem qvp {lim : Nat} (h : ¬(64 ≤ cpu ∨ (lim : Int) < 1 ∨ 4096 < (lim : Int))) (h2 : qax cpu l opn = true) (h3 : l.length ≠ 0) : cutS cpu l opn (lim : Int) = (cutGo cpu opn lim l.length l, 0) := by unfold cutS; rw [if_neg h, if_neg (by rw [h2]; decide), if_neg h3, Int.toNat_natCast]
end
theorem qo5 {p : Nat → Bool} {m : Nat} (h : p m = false) (h0 : 0 < m) : qau p m = qau p (m - 1) := by
 cases m with
 | zero => omega
 | succ m => rw [qau, if_neg (by rw [h]; decide)]; rfl
theorem qo6 {p : Nat → Bool} {m : Nat} (h : p m = true) : qau p m = m := by
 cases m with
 | zero => rfl
 | succ m => rw [qau, if_pos h]
def It.zero : It := ⟨Ev.zero, 0⟩
theorem si_it : SI Tryz.prog 37 12 := ⟨by kernel_rfl, by kernel_rfl⟩
theorem ei_it : EI Tryz.prog 26 37 (.agg It.zero.cells) 12 88 := ⟨by kernel_rfl, by kernel_rfl, rfl, by omega⟩
theorem qkh : EI Tryz.prog 44 60 (.agg #[.int .u8 0, .int .u8 0, .int .i64 0, .int .i64 0, .slice none 0 0]) 5 48 := ⟨by kernel_rfl, by kernel_rfl, rfl, by omega⟩
theorem qz8 : EI Tryz.prog 50 42 (.agg #[.int .u8 0, .int .u8 0, .int .i64 0, .int .i64 0, .slice none 0 0]) 5 48 := ⟨by kernel_rfl, by kernel_rfl, rfl, by omega⟩
theorem qz9 (x : It) : ∀ v ∈ x.cells.toList, v.oneCell' = true := by intro v hv; simp [It.cells] at hv; rcases hv with rfl | rfl | rfl | rfl | rfl | rfl | rfl | rfl | rfl | rfl | rfl | rfl <;> rfl
theorem qrz {l : List It} {k : Nat} (h : k < l.length) : (evsI (l.take (k + 1))).flatMap evL = (evsI (l.take k)).flatMap evL ++ evL (l.getD k It.zero).e := by
 rw [qh3 It.zero h]
 unfold evsI
 rw [List.map_append, List.flatMap_append]
 simp
theorem qr0 {l : List It} {k : Nat} (h : k < l.length) : (befI (l.take (k + 1))).map I64i = (befI (l.take k)).map I64i ++ [I64i (l.getD k It.zero).before] := by
 rw [qh3 It.zero h]
 unfold befI
 rw [List.map_append, List.map_append]
 rfl
theorem qqm (l : List It) : (befI l).length = l.length := by unfold befI; rw [List.length_map]
theorem q1d {l : List It} (h : ∀ x ∈ l, x.Ok) : ∀ e ∈ evsI l, e.Ok := fun e he => by
 unfold evsI at he
 obtain ⟨x, hx, rfl⟩ := List.mem_map.1 he
 exact (h x hx).e
theorem qyy (l : List Int) : ∀ v ∈ l.map I64i, v.oneCell' = true := by
 intro v hv
 obtain ⟨_, _, rfl⟩ := List.mem_map.1 hv
 rfl
theorem qcz {α : Type} {l : List α} {k : Nat} (d : α) (h : k < l.length) : l.drop k = l.getD k d :: l.drop (k + 1) := by
 rw [List.drop_eq_getElem_cons h, List.getD_eq_getElem?_getD, List.getElem?_eq_getElem h]
 rfl
theorem qvq {xs : List Int} {k : Nat} {r : Int} (h : k < xs.length) : qb4 r (xs.drop k) = (decide (0 ≤ xs.getD k 0 ∧ xs.getD k 0 ≤ r) && qb4 (r - xs.getD k 0) (xs.drop (k + 1))) := by
 rw [qcz 0 h, qb4]
theorem qr1 {cpu : Nat} {l : List It} (h : 0 < l.length) : cpuOk cpu l = decide ((l.getD 0 It.zero).e.cpu = cpu) := by
 cases l with
 | nil => cases h
 | cons x r => rfl
theorem qvr {cpu : Nat} {l : List It} (h : l.length = 0) : cpuOk cpu l = true := by
 cases l with
 | nil => rfl
 | cons x r => cases h
theorem qo7 {cpu : Nat} {l : List It} {opn : Int} (h : (rowR (evsI l)).2 ≠ 0) : qax cpu l opn = false := by
 unfold qax
 rw [decide_eq_false h, Bool.false_and]
theorem qhr {cpu : Nat} {l : List It} {opn : Int} (h : qb4 qeh (opn :: befI l) = false) : qax cpu l opn = false := by
 unfold qax
 rw [h, Bool.false_and, Bool.and_false]
theorem qki {cpu : Nat} {l : List It} {opn : Int} (h1 : (rowR (evsI l)).2 = 0) (h2 : qb4 qeh (opn :: befI l) = true) : qax cpu l opn = cpuOk cpu l := by
 unfold qax
 rw [h2, decide_eq_true h1, Bool.true_and, Bool.true_and]
theorem qi4 {l : List It} {k j : Nat} (hj : j < k) (hk : k ≤ l.length) : sumI (befI (l.take (j + 1))) = sumI (befI (l.take j)) + (befI (l.take k)).getD j 0 := by
 rw [qh3 It.zero (by omega : j < l.length)]
 unfold befI
 rw [List.map_append, qlp]
 have h1 : (List.map It.before (l.take k)).getD j 0 = (l.getD j It.zero).before := by
  rw [List.getD_eq_getElem?_getD, List.getElem?_map, List.getElem?_take, if_pos hj, List.getD_eq_getElem?_getD, List.getElem?_eq_getElem om]
  rfl
 rw [h1]
 simp [sumI]
theorem GoodI.part {cpu : Nat} {l : List It} {opn : Int} (h : GoodI cpu l opn) (j : Nat) : 0 ≤ sumI (befI (l.take j)) ∧ sumI (befI (l.take j)) + opn ≤ 281474976710656 := by
 have h1 := qg8 l j
 have h2 := qcr (l := l.take j) (fun x hx => h.bef x (List.mem_of_mem_take hx))
 have h3 := qcr (l := l.drop j) (fun x hx => h.bef x (List.mem_of_mem_drop hx))
 have h4 := h.sum
 omega
theorem qnd {cpu : Nat} {l : List It} {opn : Int} {k : Nat} (hk : k ≤ l.length) {lo : Int} (hlo : lo = (ofB cpu l opn k).lost) (A : Option Addr) (c : Nat) : #[.int .u8 1, .int .u8 (cpu : Int), .int .i64 lo, .int .i64 0, .slice A k c] = (ofB cpu l opn k).cells A c := by
 subst hlo
 unfold Bk.cells
 rw [qfm hk]
 rfl
theorem q1e {cpu : Nat} {l : List It} {opn : Int} {k : Nat} (h : k = l.length) : (ofB cpu l opn k).lost = sumI (befI (l.take k)) + opn := by
 show _ + (if k = l.length then opn else 0) = _
 rw [if_pos h]
theorem q1f {cpu : Nat} {l : List It} {opn : Int} {k : Nat} (h : k ≠ l.length) : (ofB cpu l opn k).lost = sumI (befI (l.take k)) := by
 show _ + (if k = l.length then opn else 0) = _
 rw [if_neg h, Int.add_zero]
def qe : Nat → List Nat → List Bk × Nat × Nat
 | 0, _ => ([], 0, 0)
 | f + 1, l => if l.length = 0 then ([], 0, 0) else
  if (readB l).2.2 ≠ 0 then ([], 0, (readB l).2.2) else
   ((readB l).1 :: (qe f (l.drop (readB l).2.1)).1, (readB l).2.1 + (qe f (l.drop (readB l).2.1)).2.1, (qe f (l.drop (readB l).2.1)).2.2)
def qa3 (l : List Nat) : List Bk × Nat × Nat := if 524288 < l.length then ([], 0, 3) else qe l.length l
theorem qfn {f : Nat} {l : List Nat} (h : l.length = 0) : qe f l = ([], 0, 0) := by
 cases f with
 | zero => rfl
 | succ f => rw [qe, if_pos h]
theorem qfo {f : Nat} {l : List Nat} {b : Bk} {m er : Nat} (hf : 0 < f) (h : 0 < l.length) (hq : readB l = (b, m, er)) (he : er ≠ 0) : qe f l = ([], 0, er) := by
 cases f with
 | zero => omega
 | succ f => rw [qe, if_neg om, if_pos (by rw [hq]; exact he), hq]
theorem qek {f : Nat} {l : List Nat} {b : Bk} {m : Nat} (hf : 0 < f) (h : 0 < l.length) (hq : readB l = (b, m, 0)) : qe f l = (b :: (qe (f - 1) (l.drop m)).1, m + (qe (f - 1) (l.drop m)).2.1, (qe (f - 1) (l.drop m)).2.2) := by
 cases f with
 | zero => omega
 | succ f => rw [qe, if_neg om, if_neg (by rw [hq]; exact fun h => h rfl), hq]; rfl
def qg9 (W : World) (lp : Nat) (Inv : List Nat → List Fact → Prop) (Stop : List Fact → Prop) : Prop :=
 ∀ (rest : List Nat) (F fr : List Fact) (w : World) (A : Option Addr) (c : Nat) (b : Bk) (m er : Nat), Inv rest F → readB rest = (b, m, er) → 0 < rest.length → (∀ x ∈ rest, x < 256) → b.evs.length ≤ c → Mem W w (.row (.slice A b.evs.length c) b.evs.length (b.evs.flatMap evL) 35 11 :: (F ++ fr)) →
  YieldAt Fence.wide 0 Tryz.prog lp #[.agg #[.int .u8 (b.kind : Int), .int .u8 (b.cpu : Int), .int .i64 b.lost, .int .i64 b.next, .slice A b.evs.length c, .int .i64 (m : Int)], .int .i64 (er : Int)] w fun e w' => ∃ F', Mem W w' (F' ++ fr) ∧ ((er = 0 ∧ e = .returned (.bool true) ∧ Inv (rest.drop m) F') ∨ (er ≠ 0 ∧ e = .returned (.bool false) ∧ Stop F'))
def qvs (W : World) (Inv : List Nat → List Fact → Prop) (Stop : List Fact → Prop) (r : Ending) (w' : World) : Prop := ∃ v, r = .returned v ∧ ∃ F', Mem W w' F' ∧ (Inv [] F' ∨ Stop F')
theorem qjn {W : World} {fr : List Fact} {er : Nat} {I S : List Fact → Prop} : ∀ (e : Ending) (w' : World), (∃ F', Mem W w' (F' ++ fr) ∧ ((er = 0 ∧ e = .returned (.bool true) ∧ I F') ∨ (er ≠ 0 ∧ e = .returned (.bool false) ∧ S F'))) → ∃ v, e = .returned v
 | _, _, ⟨_, _, .inl ⟨_, h, _⟩⟩ => ⟨_, h⟩
 | _, _, ⟨_, _, .inr ⟨_, h, _⟩⟩ => ⟨_, h⟩
theorem Rd.q3g {w : World} {B k c : Nat} {A : Option Addr} {l : List Nat} (h : Rd w B 1 A l.length (l.map B8)) (hk : k ≤ l.length) (hc : l.length ≤ c) : Rd w B 1 (if c = k then A else A.map (·.add (k * 1))) (l.drop k).length ((l.drop k).map B8) := by
 rw [List.length_drop]
 exact h.qhx hk hc
end Go.Proofs.YtpklccgmjhikeaaGreatDoor
