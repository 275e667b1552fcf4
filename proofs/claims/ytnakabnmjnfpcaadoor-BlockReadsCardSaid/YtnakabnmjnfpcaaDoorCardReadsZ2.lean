/- Texts laid together: BlkT, BlkU, Blk3W, Blk4W, Blk5W, BlkV, BlkF, Aw10W, FillW, PolP, PolW. -/
import Derived.Test.YtnakabnmjnfpcaaDoorCardReadsQBlkR
import Derived.Test.YtnakabnmjnfpcaaDoorCardReadsQCrcP
import Derived.Test.YtnakabnmjnfpcaaDoorCardReadsQVarint
import Derived.Test.YtnakabnmjnfpcaaDoorCardReadsQCheck
import Derived.Test.YtnakabnmjnfpcaaDoorCardReadsZ1
namespace Go.Proofs.YtnakabnmjnfpcaaDoor
open Go.RowKit
instance bkDec : DecidableEq Bk := fun ⟨a0, a1, a2, a3, a4⟩ ⟨b0, b1, b2, b3, b4⟩ =>
  decidable_of_iff (a0 = b0 ∧ a1 = b1 ∧ a2 = b2 ∧ a3 = b3 ∧ a4 = b4) (by simp)
theorem raw_cells {b : Bk} (h : 8 + b.body.length + 4 ≤ 4096) : (#[Value.int .u8 (((8 + b.body.length + 4) % 256 : Nat) : Int), .int .u8 (((8 + b.body.length + 4) / 256 % 256 : Nat) : Int), .int .u8 0, .int .u8 0, .int .u8 113, .int .u8 116, .int .u8 1, .int .u8 (b.kind : Int)] : Array Value).toList ++ b.body.map B8 = b.raw.map B8 := by
  have e0 : 8 + b.body.length + 4 = 12 + b.body.length := by omega
  have e1 : (12 + b.body.length) / 65536 % 256 = 0 := by omega
  have e2 : (12 + b.body.length) / 16777216 % 256 = 0 := by omega
  unfold Bk.raw le4
  rw [e0, e1, e2]
  simp [B8]
theorem vbytes_lt (x : Nat) : ∀ b ∈ vbytes x, b < 256 := by
  intro b hb
  unfold vbytes at hb
  obtain ⟨p, hp, rfl⟩ := List.mem_map.1 hb
  have := grp_lt 10 x p hp
  unfold vbyte
  split <;> omega
theorem recBytes_lt {b : Bs} {e : Ev} (h : e.kind < 256) : ∀ x ∈ recBytes b e, x < 256 := by
  intro x hx
  unfold recBytes at hx
  rcases List.mem_cons.1 hx with rfl | hx
  · exact h
  · obtain ⟨y, _, hy⟩ := List.mem_flatMap.1 hx
    exact vbytes_lt y x hy
theorem recs_lt : ∀ (l : List Ev) (b : Bs), (∀ e ∈ l, e.Ok) → ∀ x ∈ recs b l, x < 256
  | [], _, _, x, hx => by simp [recs] at hx
  | e :: r, b, hok, x, hx => by
    rw [recs] at hx
    rcases List.mem_append.1 hx with h | h
    · exact recBytes_lt (hok e (by simp)).kind x h
    · exact recs_lt r e.at (fun y hy => hok y (by simp [hy])) x h
theorem body_lt {b : Bk} (hok : b.Ok) : ∀ x ∈ b.body, x < 256 := by
  intro x hx
  unfold Bk.body at hx
  split at hx
  · exact vbytes_lt _ x hx
  · rcases List.mem_append.1 hx with h | h
    · rcases List.mem_append.1 h with h | h
      · rcases List.mem_append.1 h with h | h
        · exact vbytes_lt _ x h
        · exact vbytes_lt _ x h
      · exact vbytes_lt _ x h
    · split at h
      · cases h
      · rcases List.mem_append.1 h with h | h
        · rcases List.mem_append.1 h with h | h
          · exact vbytes_lt _ x h
          · exact vbytes_lt _ x h
        · exact recs_lt _ _ hok.evs x h
theorem raw_lt {b : Bk} (hok : b.Ok) : ∀ x ∈ b.raw, x < 256 := by
  intro x hx
  unfold Bk.raw at hx
  rcases List.mem_append.1 hx with h | h
  · rcases List.mem_append.1 h with h | h
    · exact le4_lt _ x h
    · simp only [List.mem_cons, List.not_mem_nil, or_false] at h
      have := hok.kind
      omega
  · exact body_lt hok x h
theorem raw_length (b : Bk) : b.raw.length = 8 + b.body.length := by unfold Bk.raw le4; simp; omega
theorem body_length (b : Bk) : b.body.length ≤ 50 + 61 * b.evs.length := by
  unfold Bk.body
  split
  · have := vbytes_length b.next.toNat; omega
  · have h1 := vbytes_length b.cpu
    have h2 := vbytes_length b.lost.toNat
    have h3 := vbytes_length b.evs.length
    have h4 := vbytes_length b.base.seq.toNat
    have h5 := vbytes_length b.base.time.toNat
    have h6 := recsLenB b.evs b.base
    split <;> simp only [List.length_append, List.length_nil] <;> omega
theorem bk_nil {w w' : World} {b : Bk} {er : Nat} (h : b.err = er) (he : er ≠ 0) (hb : Below w.heap.size w w') : BytesIs w b.err b.out (.returned (.tuple #[.slice none 0 0, .int .i64 (er : Int)])) w' := by
  have h2 : b.out = [] := by unfold Bk.out; rw [if_neg (by omega)]
  rw [h, h2]
  exact ⟨⟨none, 0, rfl, World.ownsRow_nil _ _ _ _, Nat.le_refl _⟩, hb⟩
theorem bk_out {b : Bk} (h : b.err = 0) : b.out = sealL b.raw := by unfold Bk.out; rw [if_pos h]
theorem tkVal_le (most : Nat) (l : List Nat) : tkVal most l ≤ most := by unfold tkVal; split <;> omega
theorem tkVal_min (most : Nat) (l : List Nat) : (if ((most : Nat) : Int) < (((vread l).1 : Nat) : Int) then ((most : Nat) : Int) else (((vread l).1 : Nat) : Int)) = ((tkVal most l : Nat) : Int) := by unfold tkVal; split <;> split <;> omega
theorem tkRest_len (l : List Nat) : (tkRest l).length = l.length - (vread l).2.1 := by unfold tkRest; rw [List.length_drop]
theorem tkRest_le (l : List Nat) : (tkRest l).length ≤ l.length := by rw [tkRest_len]; omega
theorem tkOk_false {most : Nat} {l : List Nat} (h : (vread l).2.2 ≠ 0) : tkOk most l = false := by unfold tkOk; rw [decide_eq_false]; omega
def TakeIs (W : World) (gb gk : Nat) (l : List Nat) (okb : Bool) (most : Nat) (fr : List Fact) (r : Ending) (w' : World) : Prop :=
  r = .returned (.int .i64 ((tkVal most l : Nat) : Int)) ∧ ∃ A' c', Rd W W.heap.size 1 A' (tkRest l).length ((tkRest l).map B8) ∧ (tkRest l).length ≤ c' ∧
    Mem W w' (.blk gb #[.slice A' (tkRest l).length c'] 22 :: .blk gk #[.bool (okb && tkOk most l)] 4 :: fr)
theorem takeIs_of {W w' : World} {gb gk n c most : Nat} {l : List Nat} {okb ok2 : Bool} {A : Option Addr} {fr : List Fact} (hr : Rd W W.heap.size 1 A l.length (l.map B8)) (hc : l.length ≤ c) (h2 : (okb && tkOk most l) = ok2) (hn : n = l.length)
    (HM : Mem W w' (.blk gb #[.slice (if c = (vread l).2.1 then A else A.map (·.add ((vread l).2.1 * 1))) (n - (vread l).2.1) (c - (vread l).2.1)] 22 :: .blk gk #[.bool ok2] 4 :: fr)) :
    TakeIs W gb gk l okb most fr (.returned (.int .i64 ((tkVal most l : Nat) : Int))) w' := by
  subst h2; subst hn
  refine ⟨rfl, (if c = (vread l).2.1 then A else A.map (·.add ((vread l).2.1 * 1))), c - (vread l).2.1, ?_, ?_, ?_⟩
  · rw [tkRest_len]
    exact hr.fromB8 (vread_len l) hc
  · rw [tkRest_len]; omega
  · rw [tkRest_len]; exact HM
/-- What parse hands over. -/
def ParseIs (w : World) (q : Option Bk) (r : Ending) (w' : World) : Prop :=
  (∃ cs : Array Value, r = .returned (.tuple #[.agg cs, .bool q.isSome]) ∧ cs.size = 5 ∧ (∀ v ∈ cs.toList, v.oneCell' = true) ∧
    (∀ b, q = some b → ∃ A c, cs = b.cells A c ∧ w'.ownsRow w.heap.size 46 11 (.slice A b.evs.length c) b.evs.length (b.evs.flatMap evL) ∧ b.evs.length ≤ c)) ∧ Below w.heap.size w w'
theorem parseIs_none {w w' : World} {q : Option Bk} {cs : Array Value} (h : q = none) (hs : cs.size = 5) (h1 : ∀ v ∈ cs.toList, v.oneCell' = true) (hb : Below w.heap.size w w') : ParseIs w q (.returned (.tuple #[.agg cs, .bool false])) w' := by
  subst h
  exact ⟨⟨cs, rfl, hs, h1, fun b h => by cases h⟩, hb⟩
theorem parseIs_some {w w' : World} {q : Option Bk} {b : Bk} {A : Option Addr} {c : Nat} (h : q = some b) (ho : w'.ownsRow w.heap.size 46 11 (.slice A b.evs.length c) b.evs.length (b.evs.flatMap evL)) (hc : b.evs.length ≤ c) (hb : Below w.heap.size w w') : ParseIs w q (.returned (.tuple #[.agg (b.cells A c), .bool true])) w' := by
  subst h
  exact ⟨⟨_, rfl, rfl, bk_one _ _ _, fun b' h => by injection h with h; subst h; exact ⟨A, c, rfl, ho, hc⟩⟩, hb⟩
theorem tk3 {l : List Nat} : (((true && tkOk 63 l) && tkOk 281474976710656 (tkRest l)) && tkOk 4096 (tkRest (tkRest l))) = parse3 l := by unfold parse3; simp
theorem parseR_end (l : List Nat) : parseR 2 l = parseEnd l := by unfold parseR; rw [if_pos rfl]
theorem parseR_evs (l : List Nat) : parseR 1 l = parseEvs l := by unfold parseR; rw [if_neg (by omega)]
theorem endOk {x : Nat} (h : x ≤ 281474976710657) : Bk.Ok ⟨2, 0, 0, (x : Int), []⟩ := ⟨by show 2 < 256; decide, by show 0 < 256; decide, by unfold I64; simp, small_i64 h, by simp⟩
theorem evsOk {cpu lost : Nat} {es : List Ev} (h : cpu < 256) (hl : lost ≤ 281474976710656) (he : ∀ e ∈ es, e.Ok) : Bk.Ok ⟨1, cpu, (lost : Int), 0, es⟩ := ⟨by show 1 < 256; decide, h, small_i64 (by show lost ≤ _; omega), by unfold I64; simp, he⟩
theorem parseEvs_full {l : List Nat} {q : List Ev × Nat × Nat} (h3 : parse3 l = true) (h0 : 0 < tkVal 4096 (tkRest (tkRest l)))
    (hq : readR ⟨(tkVal 281474976710656 (tkRest (tkRest (tkRest l))) : Int), (tkVal 281474976710656 (tkRest (tkRest (tkRest (tkRest l)))) : Int)⟩ (tkVal 63 l) (tkVal 4096 (tkRest (tkRest l)) : Int) (tkRest (tkRest (tkRest (tkRest (tkRest l))))) = q) :
    parseEvs l = parseRows (tkVal 63 l) (tkVal 281474976710656 (tkRest l)) (tkRest (tkRest (tkRest l))) q := by
  unfold parseEvs
  rw [if_pos ⟨h3, h0⟩, hq]
theorem parseRows_none {cpu lost : Nat} {l : List Nat} {q : List Ev × Nat × Nat} (h : ¬ (q.2.2 = 0 ∧ (q.1.getD 0 Ev.zero).seq = (tkVal 281474976710656 l : Int) ∧ (q.1.getD 0 Ev.zero).time = (tkVal 281474976710656 (tkRest l) : Int) ∧ tkOk 281474976710656 l = true ∧ tkOk 281474976710656 (tkRest l) = true ∧ (tkRest (tkRest l)).length - q.2.1 = 0 ∧ Bk.fits ⟨1, cpu, lost, 0, q.1⟩ = true)) : parseRows cpu lost l q = none := by
  unfold parseRows
  rw [if_neg]
  intro hh
  obtain ⟨h1, h2, h3, h4, h5, h6, h7⟩ := hh
  rw [List.length_drop] at h6
  have e : q.1.headD Ev.zero = q.1.getD 0 Ev.zero := by cases q.1 <;> rfl
  rw [e] at h2 h3
  exact h ⟨h1, h2, h3, h4, h5, h6, h7⟩
theorem parseRows_some {cpu lost : Nat} {l : List Nat} {q : List Ev × Nat × Nat} (h : q.2.2 = 0 ∧ (q.1.getD 0 Ev.zero).seq = (tkVal 281474976710656 l : Int) ∧ (q.1.getD 0 Ev.zero).time = (tkVal 281474976710656 (tkRest l) : Int) ∧ tkOk 281474976710656 l = true ∧ tkOk 281474976710656 (tkRest l) = true ∧ (tkRest (tkRest l)).length - q.2.1 = 0 ∧ Bk.fits ⟨1, cpu, lost, 0, q.1⟩ = true) : parseRows cpu lost l q = some ⟨1, cpu, lost, 0, q.1⟩ := by
  unfold parseRows
  rw [if_pos]
  obtain ⟨h1, h2, h3, h4, h5, h6, h7⟩ := h
  have e : q.1.headD Ev.zero = q.1.getD 0 Ev.zero := by cases q.1 <;> rfl
  rw [e, List.length_drop]
  exact ⟨h1, h2, h3, h4, h5, h6, h7⟩
theorem parseEnd_is (l : List Nat) : (parseEnd l).isSome = (tkOk 281474976710657 l && (decide ((tkRest l).length = 0) && Bk.fits ⟨2, 0, 0, (tkVal 281474976710657 l : Int), []⟩)) := by
  unfold parseEnd
  split
  · rename_i h; rw [h.1, decide_eq_true h.2.1, h.2.2]; rfl
  · rename_i h
    show false = _
    rw [eq_comm, Bool.eq_false_iff]
    intro hh
    simp only [Bool.and_eq_true, decide_eq_true_eq] at hh
    exact h ⟨hh.1, hh.2.1, hh.2.2⟩
theorem parseEnd_val {l : List Nat} (h : (parseEnd l).isSome = true) : parseEnd l = some ⟨2, 0, 0, (tkVal 281474976710657 l : Int), []⟩ := by
  unfold parseEnd at h ⊢
  split
  · rfl
  · rename_i h2; rw [if_neg h2] at h; cases h
theorem few_is {l : List Nat} (h : ¬ (parse3 l = true ∧ 0 < tkVal 4096 (tkRest (tkRest l)))) : (parseEvs l).isSome = (parse3 l && (decide ((tkRest (tkRest (tkRest l))).length = 0) && Bk.fits ⟨1, tkVal 63 l, (tkVal 281474976710656 (tkRest l) : Int), 0, []⟩)) := by
  unfold parseEvs
  rw [if_neg h]
  split
  · rename_i h; rw [h.1, decide_eq_true h.2.1, h.2.2]; rfl
  · rename_i h
    show false = _
    rw [eq_comm, Bool.eq_false_iff]
    intro hh
    simp only [Bool.and_eq_true, decide_eq_true_eq] at hh
    exact h ⟨hh.1, hh.2.1, hh.2.2⟩
theorem few_val {l : List Nat} (h : ¬ (parse3 l = true ∧ 0 < tkVal 4096 (tkRest (tkRest l)))) (hs : (parseEvs l).isSome = true) : parseEvs l = some ⟨1, tkVal 63 l, (tkVal 281474976710656 (tkRest l) : Int), 0, []⟩ := by
  unfold parseEvs at hs ⊢
  rw [if_neg h] at hs ⊢
  split
  · rfl
  · rename_i h2; rw [if_neg h2] at hs; cases hs
theorem rows_is {cpu lost L : Nat} {l : List Nat} {es : List Ev} (h : (es.getD 0 Ev.zero).seq = (tkVal 281474976710656 l : Int) ∧ (es.getD 0 Ev.zero).time = (tkVal 281474976710656 (tkRest l) : Int)) : (parseRows cpu lost l (es, L, 0)).isSome = ((tkOk 281474976710656 l && tkOk 281474976710656 (tkRest l)) && (decide ((tkRest (tkRest l)).length - L = 0) && Bk.fits ⟨1, cpu, (lost : Int), 0, es⟩)) := by
  cases hc : ((tkOk 281474976710656 l && tkOk 281474976710656 (tkRest l)) && (decide ((tkRest (tkRest l)).length - L = 0) && Bk.fits ⟨1, cpu, (lost : Int), 0, es⟩)) with
  | true =>
    simp only [Bool.and_eq_true, decide_eq_true_eq] at hc
    rw [parseRows_some ⟨rfl, h.1, h.2, hc.1.1, hc.1.2, hc.2.1, hc.2.2⟩]
    rfl
  | false =>
    rw [parseRows_none]
    · rfl
    · intro hh
      obtain ⟨h1, h2, h3, h4, h5, h6, h7⟩ := hh
      rw [h4, h5, h7, decide_eq_true h6] at hc
      cases hc
theorem rows_val {cpu lost : Nat} {l : List Nat} {q : List Ev × Nat × Nat} (h : (parseRows cpu lost l q).isSome = true) : parseRows cpu lost l q = some ⟨1, cpu, (lost : Int), 0, q.1⟩ := by
  unfold parseRows at h ⊢
  split
  · rfl
  · rename_i h2; rw [if_neg h2] at h; cases h
theorem ParseIs.none {w w' : World} {q : Option Bk} {r : Ending} (h : ParseIs w q r w') (hq : q = none) : (∃ cs : Array Value, r = .returned (.tuple #[.agg cs, .bool false]) ∧ cs.size = 5 ∧ (∀ v ∈ cs.toList, v.oneCell' = true)) ∧ Below w.heap.size w w' := by
  subst hq
  obtain ⟨⟨cs, h1, h2, h3, _⟩, h4⟩ := h
  exact ⟨⟨cs, h1, h2, h3⟩, h4⟩
theorem ParseIs.some {w w' : World} {q : Option Bk} {b : Bk} {r : Ending} (h : ParseIs w q r w') (hq : q = some b) : (∃ A c, r = .returned (.tuple #[.agg (b.cells A c), .bool true]) ∧ w'.ownsRow w.heap.size 46 11 (.slice A b.evs.length c) b.evs.length (b.evs.flatMap evL) ∧ b.evs.length ≤ c) ∧ Below w.heap.size w w' := by
  subst hq
  obtain ⟨⟨cs, h1, h2, h3, h5⟩, h4⟩ := h
  obtain ⟨A, c, rfl, h6, h7⟩ := h5 b rfl
  exact ⟨⟨A, c, h1, h6, h7⟩, h4⟩
/-- What Read hands over. -/
def BReadIs (T : TypeId) (w : World) (q : Bk × Nat × Nat) (r : Ending) (w' : World) : Prop :=
  (∃ A c, r = .returned (.tuple #[.agg (q.1.cells A c), .int .i64 (q.2.1 : Int), .int .i64 (q.2.2 : Int)]) ∧ w'.ownsRow w.heap.size T 11 (.slice A q.1.evs.length c) q.1.evs.length (q.1.evs.flatMap evL) ∧ q.1.evs.length ≤ c) ∧ Below w.heap.size w w'
theorem breadIs_bad {T : TypeId} {w w' : World} {q : Bk × Nat × Nat} {er : Nat} (h : q = (Bk.zero, 0, er)) (hb : Below w.heap.size w w') : BReadIs T w q (.returned (.tuple #[.agg #[.int .u8 0, .int .u8 0, .int .i64 0, .int .i64 0, .slice none 0 0], .int .i64 0, .int .i64 (er : Int)])) w' := by
  subst h
  exact ⟨⟨none, 0, rfl, World.ownsRow_nil _ _ _ _, Nat.le_refl _⟩, hb⟩
theorem breadIs_ok {T : TypeId} {w w' : World} {q : Bk × Nat × Nat} {b : Bk} {m c : Nat} {A : Option Addr} (h : q = (b, m, 0)) (ho : w'.ownsRow w.heap.size T 11 (.slice A b.evs.length c) b.evs.length (b.evs.flatMap evL)) (hc : b.evs.length ≤ c) (hb : Below w.heap.size w w') : BReadIs T w q (.returned (.tuple #[.agg (b.cells A c), .int .i64 (m : Int), .int .i64 0])) w' := by
  subst h
  exact ⟨⟨A, c, rfl, ho, hc⟩, hb⟩
theorem readB_len {l : List Nat} (h : (lenR l).2 ≠ 0) : readB l = (Bk.zero, 0, (lenR l).2) := by unfold readB; rw [if_pos h]
theorem readB_none {l L : List Nat} {e : Nat} (h : (lenR l).2 = 0) (hL : L = l.take (lenR l).1) (hb : blkOf L = (none, e)) : readB l = (Bk.zero, 0, e) := by unfold readB; rw [if_neg (by omega), ← hL, hb]
theorem readB_some {l L : List Nat} {b : Bk} {e : Nat} (h : (lenR l).2 = 0) (hL : L = l.take (lenR l).1) (hb : blkOf L = (some b, e)) : readB l = (b, (lenR l).1, 0) := by unfold readB; rw [if_neg (by omega), ← hL, hb]
theorem tk5 {l : List Nat} {m1 m2 m3 m4 m5 : Nat} {a b c d e : List Nat} : (((((true && tkOk m1 a) && tkOk m2 b) && tkOk m3 c) && tkOk m4 d) && tkOk m5 e) = ((((true && tkOk m1 a) && tkOk m2 b) && tkOk m3 c) && (tkOk m4 d && tkOk m5 e)) := by
  have _ := l
  rw [Bool.and_assoc]
end Go.Proofs.YtnakabnmjnfpcaaDoor

namespace Go.Proofs.YtnakabnmjnfpcaaDoor
open Go.RowKit
theorem le4_drop {l : List Nat} (hl : ∀ x ∈ l, x < 256) (h : 4 ≤ l.length) : le4 (num4 (l.drop (l.length - 4))) = l.drop (l.length - 4) := by
  have h1 : (l.drop (l.length - 4)).length = 4 := by rw [List.length_drop]; omega
  rw [le4_num4 (drop_lt hl _) (by omega), List.take_of_length_le (by omega)]
theorem seal_of {l : List Nat} (hl : ∀ x ∈ l, x < 256) (h : sealedR l = true) : sealL (l.take (l.length - 4)) = l := by
  unfold sealedR at h
  rw [decide_eq_true_eq] at h
  unfold sealL
  rw [h.2, le4_drop hl h.1, List.take_append_drop]
/-- What is known of bytes that are a block. -/
structure OneForm (l : List Nat) (b : Bk) (m : Nat) : Prop where
  ok : b.Ok
  fits : b.fits = true
  err : b.err = 0
  out : b.out = l.take m
  len : m ≤ l.length
  evs : b.evs.length ≤ 4096
  least : 13 ≤ m
  most : m ≤ 4096
theorem err_zero {b : Bk} (h : b.err = 0) : b.fits = true ∧ 12 + b.body.length ≤ 4096 := by
  unfold Bk.err at h
  split at h
  · cases h
  · rename_i h1
    split at h
    · cases h
    · rename_i h2
      exact ⟨by simpa using h1, by omega⟩
theorem sealed_seal {l : List Nat} : sealedR (sealL l) = true := by
  have hlt : crcSum l < 4294967296 := crcSum_lt l
  have e : (sealL l).length - 4 = l.length := by rw [seal_len]; omega
  unfold sealedR
  rw [decide_eq_true_eq, e]
  unfold sealL
  refine ⟨by rw [List.length_append, le4_len]; omega, ?_⟩
  rw [List.take_left, List.drop_left]
  have := num4_le4 hlt []
  rw [List.append_nil] at this
  exact this.symm
end Go.Proofs.YtnakabnmjnfpcaaDoor

set_option linter.all false
namespace Go.Proofs.YtnakabnmjnfpcaaDoor
open Go.RowKit
set_option maxRecDepth 100000 in
set_option maxHeartbeats 4000000 in
theorem bwrite_any (b : Bk) (hok : b.Ok) (A : Option Addr) (c B : Nat) (w : World) (hL : LaidX B w) (hB : B ≤ w.heap.size) (hr : Rd w w.heap.size 11 A b.evs.length (b.evs.flatMap evL)) (hn : b.evs.length ≤ 1000000) :
    Calls Tryd.prog 16 #[.agg (b.cells A c)] w (BytesIs w b.err b.out) := by
 refine calls_enter (vs := [.agg (b.cells A c)]) Tryd.func16 rfl rfl (by kernel_rfl) (σ0 := [(0, .agg (b.cells A c))]) rfl ?_
 intro a HF
 have HM := Mem.start w
 refine wp_seq (from_start ?_)
 refine from_op HF (i := 0) rfl rfl ?_
 refine e_box HF HM (cs := (b.cells A c)) rfl rfl rfl rfl (by decide) ?_
 clear HF HM; intro a w1 g1 HF HM
 refine fp HF 2 1 [(3, vI 0), (2, .slice none 0 0)] ?_; clear HF; intro a HF
 refine from_done rfl ?_
 refine wp_seq (wp_seq (from_start ?_))
 refine fy HF HM 0 rfl rfl rfl (v := .agg (b.cells A c)) (Yl.loadS rfl rfl si_bk rfl (fun _ h => range_of_block (h.blk (i := 0) rfl))) ?_; clear HF; intro a HF
 refine from_op HF (i := 1) rfl rfl ?_
 refine e_call HF (vs := [.agg (b.cells A c)]) rfl (by kernel_rfl) (by kernel_rfl) rfl (by decide) (fits_any b hok A c B _ (hL.mem HM hB) (HM.le hB) (HM.old hr) hn) ?_
 rintro _ w8 ⟨rfl, hbw⟩
 refine ⟨_, rfl, ?_⟩
 replace HM := HM.call hbw
 clear HF; intro a HF
 refine fp HF 1 2 [(9, .bool (!b.fits))] ?_; clear HF; intro a HF
 refine from_done rfl ?_
 rcases Bool.eq_false_or_eq_true (!b.fits) with hb9 | hb9
 ·have HF := HF.on 9 hb9
  have hfit : b.fits = false := by simpa using hb9
  refine cond_true HF rfl (wp_seq (from_start ?_))
  refine fp HF 2 0 [(3, vI 107), (2, .slice none 0 0)] ?_; clear HF; intro a HF
  refine from_done rfl ?_
  refine wp_ret ?_
  exact ret2 rfl HF (.tmp HF rfl) (.tmp HF rfl) (bk_nil (by unfold Bk.err; rw [if_pos hfit]) (by decide) HM.below)
 ·have HF := HF.on 9 hb9
  have hfit : b.fits = true := by simpa using hb9
  have hbl := body_length b
  refine cond_false HF rfl (wp_skip (wp_seq (from_start ?_)))
  refine fy HF HM 0 rfl rfl rfl (v := .agg (b.cells A c)) (Yl.loadS rfl rfl si_bk rfl (fun _ h => range_of_block (h.blk (i := 0) rfl))) ?_; clear HF; intro a HF
  refine from_op HF (i := 1) rfl rfl ?_
  refine e_call HF (vs := [.agg (b.cells A c)]) rfl (by kernel_rfl) (by kernel_rfl) rfl (by decide) (body_any b hok A c B _ (hL.mem HM hB) (HM.le hB) (HM.old hr) hn hfit) ?_
  rintro _ w11 ⟨⟨A11, c11, rfl, ho, hc11⟩, hbw⟩
  refine ⟨_, rfl, ?_⟩
  replace HM := HM.callRow hbw ho
  clear HF; intro a HF
  refine fp HF 1 2 [(4, .slice A11 ((b.body).length) c11)] ?_; clear HF; intro a HF
  refine from_done rfl ?_
  refine wp_seq (from_start ?_)
  refine fp HF 1 0 [(12, .slice A11 ((b.body).length) c11)] ?_; clear HF; intro a HF
  refine fy HF HM 1 rfl rfl rfl (Yl.len rfl rfl (by kernel_rfl)) ?_; clear HF; intro a HF
  refine fp HF 1 2 [(14, vI (IntKind.i64.wrap (8 + (((b.body).length : Nat) : Int))))] ?_; clear HF; intro a HF
  replace HF := HF.as (t := 14) (u := vI (8 + ((b.body).length) : Nat)) rfl (i64_nat (by omega) (by omega))
  refine fp HF 1 3 [(15, vI (IntKind.i64.wrap (((8 + ((b.body).length) : Nat) : Int) + 4)))] ?_; clear HF; intro a HF
  replace HF := HF.as (t := 15) (u := vI (8 + ((b.body).length) + 4 : Nat)) rfl (i64_nat (by omega) (by omega))
  refine fp HF 1 4 [(5, vI (8 + ((b.body).length) + 4 : Nat))] ?_; clear HF; intro a HF
  refine from_done rfl ?_
  refine wp_seq (wp_seq (from_start ?_))
  refine fp HF 2 0 [(17, .bool (decide (((8 + ((b.body).length) + 4 : Nat) : Int) > (4096 : Int)))), (16, vI (8 + ((b.body).length) + 4 : Nat))] ?_; clear HF; intro a HF
  refine from_done rfl ?_
  rcases Bool.eq_false_or_eq_true (decide (((8 + ((b.body).length) + 4 : Nat) : Int) > (4096 : Int))) with hb17 | hb17
  ·have HF := HF.on 17 hb17
   have hd17 := of_decide_eq_true hb17
   refine cond_true HF rfl (wp_seq (from_start ?_))
   refine fp HF 2 0 [(3, vI 3), (2, .slice none 0 0)] ?_; clear HF; intro a HF
   refine from_done rfl ?_
   refine wp_ret ?_
   exact ret2 rfl HF (.tmp HF rfl) (.tmp HF rfl) (bk_nil (by unfold Bk.err; rw [if_neg (by simp [hfit]), if_pos (by omega)]) (by decide) HM.below)
  ·have HF := HF.on 17 hb17
   have hd17 := of_decide_eq_false hb17
   refine cond_false HF rfl (wp_skip (wp_seq (from_start ?_)))
   refine fp HF 2 0 [(19, vB (IntKind.u8.wrap ((8 + ((b.body).length) + 4 : Nat) : Int))), (18, vI (8 + ((b.body).length) + 4 : Nat))] ?_; clear HF; intro a HF
   replace HF := HF.as (t := 19) (u := vB ((8 + ((b.body).length) + 4) % 256 : Nat)) rfl (u8_mod (8 + ((b.body).length) + 4))
   refine fp HF 2 2 [(21, vI (Int.fdiv ((8 + ((b.body).length) + 4 : Nat) : Int) (2 ^ (min (8 : Int).toNat (IntKind.i64).bits)))), (20, vI (8 + ((b.body).length) + 4 : Nat))] ?_; clear HF; intro a HF
   replace HF := HF.as (t := 21) (u := vI ((8 + ((b.body).length) + 4) / 256 : Nat)) rfl (fdiv_nat .i64 (8 + ((b.body).length) + 4) (j := 8) (q := 256) rfl rfl)
   refine fp HF 1 4 [(22, vB (IntKind.u8.wrap (((8 + ((b.body).length) + 4) / 256 : Nat) : Int)))] ?_; clear HF; intro a HF
   replace HF := HF.as (t := 22) (u := vB (((8 + ((b.body).length) + 4) / 256) % 256 : Nat)) rfl (u8_mod ((8 + ((b.body).length) + 4) / 256))
   refine fy HF HM 5 rfl rfl rfl (v := vP 0 0) (Yl.indexAddrA (ad := ⟨0, 0, none⟩) (m := 2) (y := 0) (sz := 1) rfl rfl rfl (by kernel_rfl) (by decide)) ?_; clear HF; intro a HF
   refine fy HF HM 6 rfl rfl rfl (v := vB 113) (Yl.load1 rfl rfl (by kernel_rfl) (fun _ h => (hL.mem h hB).magic0)) ?_; clear HF; intro a HF
   refine fy HF HM 7 rfl rfl rfl (v := vP 0 1) (Yl.indexAddrA (ad := ⟨0, 0, none⟩) (m := 2) (y := 1) (sz := 1) rfl rfl rfl (by kernel_rfl) (by decide)) ?_; clear HF; intro a HF
   refine fy HF HM 8 rfl rfl rfl (v := vB 116) (Yl.load1 rfl rfl (by kernel_rfl) (fun _ h => (hL.mem h hB).magic1)) ?_; clear HF; intro a HF
   refine fp HF 1 9 [(27, vP g1 0)] ?_; clear HF; intro a HF
   refine fy HF HM 10 rfl rfl rfl (v := vB b.kind) (Yl.load1 rfl rfl (by kernel_rfl) (fun _ h => h.cell (i := 1) rfl (rfl))) ?_; clear HF; intro a HF
   refine from_op HF (i := 11) rfl rfl ?_
   refine e_slice HF HM (vs := [(0, vB ((8 + ((b.body).length) + 4) % 256 : Nat)), (1, vB (((8 + ((b.body).length) + 4) / 256) % 256 : Nat)), (2, vB 0), (3, vB 0), (4, vB 113), (5, vB 116), (6, vB 1), (7, vB b.kind)]) (cs := #[vB ((8 + ((b.body).length) + 4) % 256 : Nat), vB (((8 + ((b.body).length) + 4) / 256) % 256 : Nat), vB 0, vB 0, vB 113, vB 116, vB 1, vB b.kind]) rfl ei_u8 (by decide) rfl (by kernel_rfl) rfl (by decide) ?_
   clear HF HM; intro a w29 g29 HF HM
   refine fp HF 1 12 [(6, vS g29 8 8)] ?_; clear HF; intro a HF
   refine from_done rfl ?_
   replace HF := HF.to [(6, vS g29 8 8), (17, .bool false), (5, vI (8 + ((b.body).length) + 4 : Nat)), (4, .slice A11 ((b.body).length) c11), (9, .bool false), (3, vI 0), (2, .slice none 0 0), (1, vP g1 0)]
   refine wp_seq (from_start ?_)
   refine fp HF 2 0 [(31, .slice A11 ((b.body).length) c11), (30, vS g29 8 8)] ?_; clear HF; intro a HF
   refine from_op HF (i := 2) rfl rfl ?_
   replace HM := HM.blkRow (i := 0) (n := 8) (size := 1) rfl rfl (by decide)
   refine e_append HF HM (i := 0) rfl ei_u8 rfl rfl rfl (news := (b.body.map B8)) (HM.rd (i := 1) rfl) (one_B8 _) (by omega) (by omega) rfl (by decide) ?_
   clear HF HM; intro a w32 A32 c32 HF HM hc32
   rw [show ((#[vB ((8 + ((b.body).length) + 4) % 256 : Nat), vB (((8 + ((b.body).length) + 4) / 256) % 256 : Nat), vB 0, vB 0, vB 113, vB 116, vB 1, vB b.kind]).toList) ++ (b.body.map B8) = b.raw.map B8 from raw_cells (by omega)] at HM
   refine from_op HF (i := 3) rfl rfl ?_
   refine e_call HF (vs := [.slice A32 (8 + (b.body).length) c32]) rfl (by kernel_rfl) (by kernel_rfl) rfl (by decide) (seal_any _ _ _ b.raw B _ (hL.mem HM hB) (HM.le hB) (HM.rd (i := 0) rfl) (raw_length b) (by omega) (raw_lt hok)) ?_
   rintro _ w33 ⟨⟨A33, c33, rfl, ho, hc33⟩, hbw⟩
   refine ⟨_, rfl, ?_⟩
   replace HM := HM.callRow hbw ho
   clear HF; intro a HF
   refine fp HF 4 4 [(3, vI 0), (2, .slice A33 ((sealL b.raw).length) c33), (35, vI 0), (34, .slice A33 ((sealL b.raw).length) c33)] ?_; clear HF; intro a HF
   refine from_done rfl ?_
   replace HM := HM.picks (fs' := [.row (.slice A33 ((sealL b.raw).length) c33) ((sealL b.raw).length) ((sealL b.raw).map B8) 5 1, .row (.slice A11 ((b.body).length) c11) ((b.body).length) (b.body.map B8) 5 1, .blk g1 (b.cells A c) 27]) [0, 2, 3] (by decide) rfl
   refine wp_ret ?_
   have herr : b.err = 0 := by unfold Bk.err; rw [if_neg (by simp [hfit]), if_neg (by omega)]
   exact ret2 rfl HF (.tmp HF rfl) (.tmp HF rfl) ((by rw [herr, bk_out herr]; exact ⟨⟨_, _, rfl, HM.own (i := 0) rfl, hc33⟩, HM.below⟩))
set_option maxRecDepth 100000 in
set_option maxHeartbeats 4000000 in
theorem bcheck_any (b : Bk) (hok : b.Ok) (A : Option Addr) (c B : Nat) (w : World) (hL : LaidX B w) (hB : B ≤ w.heap.size) (hr : Rd w w.heap.size 11 A b.evs.length (b.evs.flatMap evL)) (hn : b.evs.length ≤ 1000000) :
    Calls Tryd.prog 19 #[.agg (b.cells A c)] w (Is w (.int .i64 (b.err : Int))) := by
 refine calls_enter (vs := [.agg (b.cells A c)]) Tryd.func19 rfl rfl (by kernel_rfl) (σ0 := [(0, .agg (b.cells A c))]) rfl ?_
 intro a HF
 have HM := Mem.start w
 refine wp_seq (from_start ?_)
 refine from_op HF (i := 0) rfl rfl ?_
 refine e_box HF HM (cs := (b.cells A c)) rfl rfl rfl rfl (by decide) ?_
 clear HF HM; intro a w1 g1 HF HM
 refine fp HF 1 1 [(2, vI 0)] ?_; clear HF; intro a HF
 refine from_done rfl ?_
 refine wp_seq (from_start ?_)
 refine fy HF HM 0 rfl rfl rfl (v := .agg (b.cells A c)) (Yl.loadS rfl rfl si_bk rfl (fun _ h => range_of_block (h.blk (i := 0) rfl))) ?_; clear HF; intro a HF
 refine from_op HF (i := 1) rfl rfl ?_
 refine e_call HF (vs := [.agg (b.cells A c)]) rfl (by kernel_rfl) (by kernel_rfl) rfl (by decide) (bwrite_any b hok A c B _ (hL.mem HM hB) (HM.le hB) (HM.old hr) hn) ?_
 rintro _ w7 ⟨⟨A7, c7, rfl, ho, hc7⟩, hbw⟩
 refine ⟨_, rfl, ?_⟩
 replace HM := HM.callRow hbw ho
 clear HF; intro a HF
 refine fp HF 5 2 [(4, vI b.err), (3, .slice A7 ((b.out).length) c7), (9, vI b.err), (8, .slice A7 ((b.out).length) c7), (5, .tuple #[.slice A7 ((b.out).length) c7, vI b.err])] ?_; clear HF; intro a HF
 refine from_done rfl ?_
 replace HM := HM.picks (fs' := []) [] (by decide) rfl
 refine wp_seq (from_start ?_)
 refine fp HF 2 0 [(2, vI b.err), (10, vI b.err)] ?_; clear HF; intro a HF
 refine from_done rfl ?_
 refine wp_ret ?_
 exact ret1 rfl HF (.tmp HF rfl) (⟨rfl, HM.below⟩)
set_option maxRecDepth 100000 in
set_option maxHeartbeats 4000000 in
theorem bsize_any (b : Bk) (hok : b.Ok) (A : Option Addr) (c B : Nat) (w : World) (hL : LaidX B w) (hB : B ≤ w.heap.size) (hr : Rd w w.heap.size 11 A b.evs.length (b.evs.flatMap evL)) (hn : b.evs.length ≤ 1000000) :
    Calls Tryd.prog 18 #[.agg (b.cells A c)] w (Is w (.tuple #[.int .i64 (b.out.length : Int), .int .i64 (b.err : Int)])) := by
 refine calls_enter (vs := [.agg (b.cells A c)]) Tryd.func18 rfl rfl (by kernel_rfl) (σ0 := [(0, .agg (b.cells A c))]) rfl ?_
 intro a HF
 have HM := Mem.start w
 refine wp_seq (from_start ?_)
 refine from_op HF (i := 0) rfl rfl ?_
 refine e_box HF HM (cs := (b.cells A c)) rfl rfl rfl rfl (by decide) ?_
 clear HF HM; intro a w1 g1 HF HM
 refine fp HF 2 1 [(3, vI 0), (2, vI 0)] ?_; clear HF; intro a HF
 refine from_done rfl ?_
 refine wp_seq (from_start ?_)
 refine fy HF HM 0 rfl rfl rfl (v := .agg (b.cells A c)) (Yl.loadS rfl rfl si_bk rfl (fun _ h => range_of_block (h.blk (i := 0) rfl))) ?_; clear HF; intro a HF
 refine from_op HF (i := 1) rfl rfl ?_
 refine e_call HF (vs := [.agg (b.cells A c)]) rfl (by kernel_rfl) (by kernel_rfl) rfl (by decide) (bwrite_any b hok A c B _ (hL.mem HM hB) (HM.le hB) (HM.old hr) hn) ?_
 rintro _ w8 ⟨⟨A8, c8, rfl, ho, hc8⟩, hbw⟩
 refine ⟨_, rfl, ?_⟩
 replace HM := HM.callRow hbw ho
 clear HF; intro a HF
 refine fp HF 5 2 [(5, vI b.err), (4, .slice A8 ((b.out).length) c8), (10, vI b.err), (9, .slice A8 ((b.out).length) c8), (6, .tuple #[.slice A8 ((b.out).length) c8, vI b.err])] ?_; clear HF; intro a HF
 refine from_done rfl ?_
 replace HM := HM.picks (fs' := [.row (.slice A8 ((b.out).length) c8) ((b.out).length) (b.out.map B8) 5 1]) [0] (by decide) rfl
 refine wp_seq (from_start ?_)
 refine fp HF 1 0 [(11, .slice A8 ((b.out).length) c8)] ?_; clear HF; intro a HF
 refine fy HF HM 1 rfl rfl rfl (Yl.len rfl rfl (by kernel_rfl)) ?_; clear HF; intro a HF
 refine fp HF 3 2 [(3, vI b.err), (2, vI ((b.out).length : Nat)), (13, vI b.err)] ?_; clear HF; intro a HF
 refine from_done rfl ?_
 replace HM := HM.picks (fs' := []) [] (by decide) rfl
 refine wp_ret ?_
 exact ret2 rfl HF (.tmp HF rfl) (.tmp HF rfl) (⟨rfl, HM.below⟩)
set_option maxRecDepth 100000 in
set_option maxHeartbeats 4000000 in
theorem ptake_any (W w : World) (gb gk : Nat) (A : Option Addr) (n c : Nat) (l : List Nat) (okb : Bool) (most : Nat) (fr : List Fact) (hl : ∀ b ∈ l, b < 256) (hln : n = l.length) (hn : n ≤ 1000000000) (hr0 : Rd W W.heap.size 1 A n (l.map B8)) (hc0 : n ≤ c) (hmost : most ≤ 281474976710657)
    (HM : Mem W w (.blk gb #[.slice A n c] 22 :: .blk gk #[.bool okb] 4 :: fr)) :
    Calls Tryd.prog 44 #[.int .i64 (most : Int), .pointer (some ⟨gb, 0, none⟩), .pointer (some ⟨gk, 0, none⟩)] w (TakeIs W gb gk l okb most fr) := by
 have hr : Rd W W.heap.size 1 A l.length (l.map B8) := hln ▸ hr0
 have hc : l.length ≤ c := hln ▸ hc0
 refine calls_enter (vs := [vI most, vP gb 0, vP gk 0]) Tryd.func44 rfl rfl (by kernel_rfl) (σ0 := [(0, vI most), (1, vP gb 0), (2, vP gk 0)]) rfl ?_
 intro a HF
 refine wp_seq (from_start ?_)
 refine fp HF 1 0 [(4, vI 0)] ?_; clear HF; intro a HF
 refine from_done rfl ?_
 have hvl := vread_len l
 have hvb := vread_bound l hl
 have htv := tkVal_le most l
 refine wp_seq (from_start ?_)
 refine fy HF HM 0 rfl rfl rfl (Yl.load1 rfl rfl (by kernel_rfl) (fun _ h => h.cell (i := 0) rfl rfl)) ?_; clear HF; intro a HF
 refine from_op HF (i := 1) rfl rfl ?_
 refine e_call HF (vs := [.slice A n c]) rfl (by kernel_rfl) (by kernel_rfl) rfl (by decide) (read_any A n c l _ (hln ▸ HM.old hr) hl (by omega)) ?_
 rintro _ w10 ⟨rfl, hbw⟩
 refine ⟨_, rfl, ?_⟩
 replace HM := HM.call hbw
 clear HF; intro a HF
 refine fp HF 7 2 [(7, vI ((vread l).2.2)), (6, vI ((vread l).2.1)), (5, vQ ((vread l).1)), (13, vI ((vread l).2.2)), (12, vI ((vread l).2.1)), (11, vQ ((vread l).1)), (8, .tuple #[vQ ((vread l).1), vI ((vread l).2.1), vI ((vread l).2.2)])] ?_; clear HF; intro a HF
 refine from_done rfl ?_
 refine wp_seq (from_start ?_)
 refine fy HF HM 0 rfl rfl rfl (Yl.load1 rfl rfl (by kernel_rfl) (fun _ h => h.cell (i := 1) rfl rfl)) ?_; clear HF; intro a HF
 refine fp HF 1 1 [(15, .bool okb)] ?_; clear HF; intro a HF
 rcases Bool.eq_false_or_eq_true (okb) with hb15 | hb15
 ·have HF := HF.on 15 hb15
  refine fp HF 4 2 [(19, .bool (((vread l).2.2 : Int) == (0 : Int))), (18, .bool (((vread l).2.2 : Int) == (0 : Int))), (17, .bool (((vread l).2.2 : Int) == (0 : Int))), (16, vI ((vread l).2.2))] ?_; clear HF; intro a HF
  rcases Bool.eq_false_or_eq_true (((vread l).2.2 : Int) == (0 : Int)) with hb19 | hb19
  ·have HF := HF.on 19 hb19
   have hd19 := eq_of_beq hb19
   refine fp HF 3 6 [(22, vQ (IntKind.u64.wrap (most : Int))), (21, vI most), (20, vQ ((vread l).1))] ?_; clear HF; intro a HF
   replace HF := HF.as (t := 22) (u := vQ most) rfl (u64_nat rfl (by omega))
   refine fp HF 2 9 [(24, .bool (decide (((vread l).1 : Int) ≤ (most : Int)))), (23, .bool (decide (((vread l).1 : Int) ≤ (most : Int))))] ?_; clear HF; intro a HF
   refine from_op HF (i := 11) rfl rfl ?_
   refine e_store HF HM (i := 1) (cs := #[.bool okb]) rfl rfl rfl rfl (by kernel_rfl) rfl rfl (by simp) ?_
   clear HM; intro w2_11 HM
   refine from_done rfl ?_
   replace HF := HF.to [(6, vI ((vread l).2.1)), (5, vQ ((vread l).1)), (4, vI 0), (0, vI most), (1, vP gb 0)]
   refine wp_seq (from_start ?_)
   refine fy HF HM 0 rfl rfl rfl (Yl.load1 rfl rfl (by kernel_rfl) (fun _ h => h.cell (i := 0) rfl rfl)) ?_; clear HF; intro a HF
   refine fp HF 1 1 [(26, vI ((vread l).2.1))] ?_; clear HF; intro a HF
   refine fy HF HM 2 rfl rfl rfl (v := .slice (if c = (vread l).2.1 then A else A.map (·.add ((vread l).2.1 * 1))) (n - (vread l).2.1) (c - (vread l).2.1)) (Yl.sliceFrom ei_u8 (j := (vread l).2.1) rfl rfl rfl (by omega)) ?_; clear HF; intro a HF
   refine from_op HF (i := 3) rfl rfl ?_
   refine e_store HF HM (i := 0) (cs := #[.slice A n c]) rfl rfl rfl rfl (by kernel_rfl) rfl rfl (by simp) ?_
   clear HM; intro w3_3 HM
   refine from_done rfl ?_
   refine wp_seq (from_start ?_)
   refine fp HF 3 0 [(30, vQ (IntKind.u64.wrap (most : Int))), (29, vI most), (28, vQ ((vread l).1))] ?_; clear HF; intro a HF
   replace HF := HF.as (t := 30) (u := vQ most) rfl (u64_nat rfl (by omega))
   refine fy HF HM 3 rfl rfl rfl (v := vQ (if (most : Int) < ((vread l).1 : Int) then (most : Int) else ((vread l).1 : Int))) (Yl.min rfl rfl rfl) ?_; clear HF; intro a HF
   replace HF := HF.as (t := 31) (u := vQ (tkVal most l)) rfl (by rw [tkVal_min])
   refine fp HF 1 4 [(32, vI (IntKind.i64.wrap (tkVal most l : Int)))] ?_; clear HF; intro a HF
   replace HF := HF.as (t := 32) (u := vI (tkVal most l : Nat)) rfl (i64_nat rfl (by omega))
   refine fp HF 1 5 [(4, vI (tkVal most l : Nat))] ?_; clear HF; intro a HF
   refine from_done rfl ?_
   refine wp_ret ?_
   replace HM := HM.picksT (fs' := (.blk gb #[.slice (if c = (vread l).2.1 then A else A.map (·.add ((vread l).2.1 * 1))) (n - (vread l).2.1) (c - (vread l).2.1)] 22 :: .blk gk #[.bool (decide (((vread l).1 : Int) ≤ (most : Int)))] 4 :: fr)) 2 [0, 1] (by decide) (by decide) rfl
   exact ret1 rfl HF (.tmp HF rfl) (takeIs_of hr hc (by rw [hb15, Bool.true_and]; unfold tkOk; rw [Bool.eq_iff_iff]; simp only [decide_eq_true_eq]; omega) hln HM)
  ·have HF := HF.on 19 hb19
   have hd19 := ne_of_beq_false hb19
   refine fp HF 5 6 [(24, .bool false), (23, undef), (22, undef), (21, undef), (20, undef)] ?_; clear HF; intro a HF
   refine from_op HF (i := 11) rfl rfl ?_
   refine e_store HF HM (i := 1) (cs := #[.bool okb]) rfl rfl rfl rfl (by kernel_rfl) rfl rfl (by simp) ?_
   clear HM; intro w2_11 HM
   refine from_done rfl ?_
   replace HF := HF.to [(6, vI ((vread l).2.1)), (5, vQ ((vread l).1)), (4, vI 0), (0, vI most), (1, vP gb 0)]
   refine wp_seq (from_start ?_)
   refine fy HF HM 0 rfl rfl rfl (Yl.load1 rfl rfl (by kernel_rfl) (fun _ h => h.cell (i := 0) rfl rfl)) ?_; clear HF; intro a HF
   refine fp HF 1 1 [(26, vI ((vread l).2.1))] ?_; clear HF; intro a HF
   refine fy HF HM 2 rfl rfl rfl (v := .slice (if c = (vread l).2.1 then A else A.map (·.add ((vread l).2.1 * 1))) (n - (vread l).2.1) (c - (vread l).2.1)) (Yl.sliceFrom ei_u8 (j := (vread l).2.1) rfl rfl rfl (by omega)) ?_; clear HF; intro a HF
   refine from_op HF (i := 3) rfl rfl ?_
   refine e_store HF HM (i := 0) (cs := #[.slice A n c]) rfl rfl rfl rfl (by kernel_rfl) rfl rfl (by simp) ?_
   clear HM; intro w3_3 HM
   refine from_done rfl ?_
   refine wp_seq (from_start ?_)
   refine fp HF 3 0 [(30, vQ (IntKind.u64.wrap (most : Int))), (29, vI most), (28, vQ ((vread l).1))] ?_; clear HF; intro a HF
   replace HF := HF.as (t := 30) (u := vQ most) rfl (u64_nat rfl (by omega))
   refine fy HF HM 3 rfl rfl rfl (v := vQ (if (most : Int) < ((vread l).1 : Int) then (most : Int) else ((vread l).1 : Int))) (Yl.min rfl rfl rfl) ?_; clear HF; intro a HF
   replace HF := HF.as (t := 31) (u := vQ (tkVal most l)) rfl (by rw [tkVal_min])
   refine fp HF 1 4 [(32, vI (IntKind.i64.wrap (tkVal most l : Int)))] ?_; clear HF; intro a HF
   replace HF := HF.as (t := 32) (u := vI (tkVal most l : Nat)) rfl (i64_nat rfl (by omega))
   refine fp HF 1 5 [(4, vI (tkVal most l : Nat))] ?_; clear HF; intro a HF
   refine from_done rfl ?_
   refine wp_ret ?_
   replace HM := HM.picksT (fs' := (.blk gb #[.slice (if c = (vread l).2.1 then A else A.map (·.add ((vread l).2.1 * 1))) (n - (vread l).2.1) (c - (vread l).2.1)] 22 :: .blk gk #[.bool false] 4 :: fr)) 2 [0, 1] (by decide) (by decide) rfl
   exact ret1 rfl HF (.tmp HF rfl) (takeIs_of hr hc (by rw [tkOk_false (by omega), Bool.and_false]) hln HM)
 ·have HF := HF.on 15 hb15
  refine fp HF 9 2 [(24, .bool false), (23, undef), (22, undef), (21, undef), (20, undef), (19, .bool false), (18, .bool false), (17, undef), (16, undef)] ?_; clear HF; intro a HF
  refine from_op HF (i := 11) rfl rfl ?_
  refine e_store HF HM (i := 1) (cs := #[.bool okb]) rfl rfl rfl rfl (by kernel_rfl) rfl rfl (by simp) ?_
  clear HM; intro w2_11 HM
  refine from_done rfl ?_
  replace HF := HF.to [(6, vI ((vread l).2.1)), (5, vQ ((vread l).1)), (4, vI 0), (0, vI most), (1, vP gb 0)]
  refine wp_seq (from_start ?_)
  refine fy HF HM 0 rfl rfl rfl (Yl.load1 rfl rfl (by kernel_rfl) (fun _ h => h.cell (i := 0) rfl rfl)) ?_; clear HF; intro a HF
  refine fp HF 1 1 [(26, vI ((vread l).2.1))] ?_; clear HF; intro a HF
  refine fy HF HM 2 rfl rfl rfl (v := .slice (if c = (vread l).2.1 then A else A.map (·.add ((vread l).2.1 * 1))) (n - (vread l).2.1) (c - (vread l).2.1)) (Yl.sliceFrom ei_u8 (j := (vread l).2.1) rfl rfl rfl (by omega)) ?_; clear HF; intro a HF
  refine from_op HF (i := 3) rfl rfl ?_
  refine e_store HF HM (i := 0) (cs := #[.slice A n c]) rfl rfl rfl rfl (by kernel_rfl) rfl rfl (by simp) ?_
  clear HM; intro w3_3 HM
  refine from_done rfl ?_
  refine wp_seq (from_start ?_)
  refine fp HF 3 0 [(30, vQ (IntKind.u64.wrap (most : Int))), (29, vI most), (28, vQ ((vread l).1))] ?_; clear HF; intro a HF
  replace HF := HF.as (t := 30) (u := vQ most) rfl (u64_nat rfl (by omega))
  refine fy HF HM 3 rfl rfl rfl (v := vQ (if (most : Int) < ((vread l).1 : Int) then (most : Int) else ((vread l).1 : Int))) (Yl.min rfl rfl rfl) ?_; clear HF; intro a HF
  replace HF := HF.as (t := 31) (u := vQ (tkVal most l)) rfl (by rw [tkVal_min])
  refine fp HF 1 4 [(32, vI (IntKind.i64.wrap (tkVal most l : Int)))] ?_; clear HF; intro a HF
  replace HF := HF.as (t := 32) (u := vI (tkVal most l : Nat)) rfl (i64_nat rfl (by omega))
  refine fp HF 1 5 [(4, vI (tkVal most l : Nat))] ?_; clear HF; intro a HF
  refine from_done rfl ?_
  refine wp_ret ?_
  replace HM := HM.picksT (fs' := (.blk gb #[.slice (if c = (vread l).2.1 then A else A.map (·.add ((vread l).2.1 * 1))) (n - (vread l).2.1) (c - (vread l).2.1)] 22 :: .blk gk #[.bool false] 4 :: fr)) 2 [0, 1] (by decide) (by decide) rfl
  exact ret1 rfl HF (.tmp HF rfl) (takeIs_of hr hc (by rw [hb15, Bool.false_and]) hln HM)
end Go.Proofs.YtnakabnmjnfpcaaDoor

set_option linter.all false
namespace Go.Proofs.YtnakabnmjnfpcaaDoor
open Go.RowKit
theorem parseR1 {l : List Nat} {es : List Ev} {L er : Nat} (h3 : parse3 l = true) (h0 : 0 < tkVal 4096 (tkRest (tkRest l)))
    (hq : readR ⟨(tkVal 281474976710656 (tkRest (tkRest (tkRest l))) : Int), (tkVal 281474976710656 (tkRest (tkRest (tkRest (tkRest l)))) : Int)⟩ (tkVal 63 l) (tkVal 4096 (tkRest (tkRest l)) : Int) (tkRest (tkRest (tkRest (tkRest (tkRest l))))) = (es, L, er)) (her : er = 0) :
    parseEvs l = parseRows (tkVal 63 l) (tkVal 281474976710656 (tkRest l)) (tkRest (tkRest (tkRest l))) (es, L, 0) := by
  rw [parseEvs_full h3 h0 hq, her]
set_option maxRecDepth 100000 in
set_option maxHeartbeats 4000000 in
theorem parse_any (k : Nat) (hk : k = 1 ∨ k = 2) (A : Option Addr) (n c : Nat) (l : List Nat) (B : Nat) (w : World) (hL : LaidX B w) (hB : B ≤ w.heap.size) (hr : Rd w w.heap.size 1 A n (l.map B8)) (hc : n ≤ c) (hln : n = l.length) (hn : n ≤ 100000000) (hl : ∀ b ∈ l, b < 256) :
    Calls Tryd.prog 27 #[.int .u8 (k : Int), .slice A n c] w (ParseIs w (parseR k l)) := by
 refine calls_enter (vs := [vB k, .slice A n c]) Tryd.func27 rfl rfl (by kernel_rfl) (σ0 := [(0, vB k), (1, .slice A n c)]) rfl ?_
 intro a HF
 have HM := Mem.start w
 refine wp_seq (from_start ?_)
 refine from_op HF (i := 0) rfl rfl ?_
 refine e_box HF HM (cs := #[.slice A n c]) rfl rfl rfl rfl (by decide) ?_
 clear HF HM; intro a w3 g3 HF HM
 refine from_op HF (i := 1) rfl rfl ?_
 refine e_alloc HF HM (cs := #[vB 0, vB 0, vI 0, vI 0, .slice none 0 0]) rfl (by kernel_rfl) rfl (by decide) ?_
 clear HF HM; intro a w4 g4 HF HM
 refine fp HF 1 2 [(5, .bool false)] ?_; clear HF; intro a HF
 refine from_done rfl ?_
 refine wp_seq (from_start ?_)
 refine from_op HF (i := 0) rfl rfl ?_
 refine e_alloc HF HM (cs := #[.bool false]) rfl (by kernel_rfl) rfl (by decide) ?_
 clear HF HM; intro a w6 g6 HF HM
 refine from_op HF (i := 1) rfl rfl ?_
 refine e_store HF HM (i := 0) (cs := #[.bool false]) rfl rfl rfl rfl (by kernel_rfl) rfl rfl (by simp) ?_
 clear HM; intro w1_1 HM
 refine from_done rfl ?_
 refine wp_seq (from_start ?_)
 refine fy HF HM 0 rfl rfl rfl (v := .func (.func 44) #[] #[vP g3 0, vP g6 0]) (Yl.makeFunc (fst := []) (caps := [vP g3 0, vP g6 0]) rfl rfl rfl) ?_; clear HF; intro a HF
 refine fp HF 1 1 [(7, .func (.func 44) #[] #[vP g3 0, vP g6 0])] ?_; clear HF; intro a HF
 refine from_done rfl ?_
 refine wp_seq (from_start ?_)
 refine fp HF 1 0 [(15, vB k)] ?_; clear HF; intro a HF
 refine fy HF HM 1 rfl rfl rfl (v := .agg #[vB k, vB 0, vI 0, vI 0, .slice none 0 0]) (Yl.build (vs := [(0, vB k)]) rfl (by kernel_rfl) (by kernel_rfl)) ?_; clear HF; intro a HF
 refine from_op HF (i := 2) rfl rfl ?_
 refine e_alloc HF HM (cs := #[vB 0, vB 0, vI 0, vI 0, .slice none 0 0]) rfl (by kernel_rfl) rfl (by decide) ?_
 clear HF HM; intro a w8 g8 HF HM
 refine from_op HF (i := 3) rfl rfl ?_
 refine e_storeAll HF HM (i := 0) (cs := #[vB 0, vB 0, vI 0, vI 0, .slice none 0 0]) (ds := #[vB k, vB 0, vI 0, vI 0, .slice none 0 0]) rfl rfl rfl rfl si_bk rfl rfl (by simp [Value.oneCell']) rfl ?_
 clear HM; intro w3_3 HM
 refine from_done rfl ?_
 refine wp_seq (wp_seq (from_start ?_))
 refine fp HF 2 0 [(18, .bool ((k : Int) == (2 : Int))), (17, vB k)] ?_; clear HF; intro a HF
 refine from_done rfl ?_
 rcases Bool.eq_false_or_eq_true ((k : Int) == (2 : Int)) with hb18 | hb18
 ·have HF := HF.on 18 hb18
  have hd18 := eq_of_beq hb18
  obtain rfl : k = 2 := by omega
  refine cond_true HF rfl (wp_seq (from_start ?_))
  refine fp HF 1 0 [(19, .func (.func 44) #[] #[vP g3 0, vP g6 0])] ?_; clear HF; intro a HF
  refine from_op HF (i := 1) rfl rfl ?_
  replace HM := HM.picks (fs' := [.blk g3 #[.slice A n c] 22, .blk g6 #[.bool true] 4, .blk g8 #[vB (2 : Nat), vB 0, vI 0, vI 0, .slice none 0 0] 27, .blk g4 #[vB 0, vB 0, vI 0, vI 0, .slice none 0 0] 27]) [3, 1, 0, 2] (by decide) rfl
  have hl1 := tk_rest_lt hl
  refine e_callv HF (f := 44) (vs := [vI 281474976710657]) (fst := []) (caps := [vP g3 0, vP g6 0]) rfl rfl rfl (by kernel_rfl) rfl (by decide) (ptake_any w _ g3 g6 A n c l true 281474976710657 [.blk g8 #[vB (2 : Nat), vB 0, vI 0, vI 0, .slice none 0 0] 27, .blk g4 #[vB 0, vB 0, vI 0, vI 0, .slice none 0 0] 27] hl hln (by omega) hr hc (by omega) HM) ?_
  rintro _ w20 ⟨rfl, Aq1, cq1, hr1, hc1, hm⟩
  refine ⟨_, rfl, ?_⟩
  replace HM := hm
  clear HF; intro a HF
  have ht0 := tkVal_le 281474976710657 l
  have hs0 := tkRest_le l
  refine fp HF 1 2 [(21, vP g8 3)] ?_; clear HF; intro a HF
  refine from_op HF (i := 3) rfl rfl ?_
  refine e_store HF HM (i := 2) (cs := #[vB (2 : Nat), vB 0, vI 0, vI 0, .slice none 0 0]) rfl rfl rfl rfl (by kernel_rfl) rfl rfl (by simp) ?_
  clear HM; intro w5_3 HM
  refine from_done rfl ?_
  refine cut_seq (fun aS wS => Fr aS 99 [] [(5, .bool ((parseEnd l).isSome)), (18, .bool true), (8, vP g8 0), (7, .func (.func 44) #[] #[vP g3 0, vP g6 0]), (6, vP g6 0), (4, vP g4 0), (3, vP g3 0), (0, vB (2 : Nat))] ∧ Mem w wS [.blk g3 #[.slice Aq1 ((tkRest l).length) cq1] 22, .blk g6 #[.bool (true && tkOk 281474976710657 l)] 4, .blk g8 #[vB (2 : Nat), vB 0, vI 0, vI (tkVal 281474976710657 l), .slice none 0 0] 27, .blk g4 #[vB (2 : Nat), vB 0, vI 0, vI (tkVal 281474976710657 l), .slice none 0 0] 27]) ?_ ?_
  ·
   refine any_start (by kernel_rfl) (fun wS => Mem w wS [.blk g3 #[.slice Aq1 ((tkRest l).length) cq1] 22, .blk g6 #[.bool (true && tkOk 281474976710657 l)] 4, .blk g8 #[vB (2 : Nat), vB 0, vI 0, vI (tkVal 281474976710657 l), .slice none 0 0] 27]) [] ?_
   replace HM := HM.drew
   have HS := HM.picks (fs' := [.blk g3 #[.slice Aq1 ((tkRest l).length) cq1] 22, .blk g6 #[.bool (true && tkOk 281474976710657 l)] 4, .blk g8 #[vB (2 : Nat), vB 0, vI 0, vI (tkVal 281474976710657 l), .slice none 0 0] 27]) [0, 1, 2] (by decide) rfl
   refine ay HF HS 0 rfl rfl rfl (v := .agg #[vB (2 : Nat), vB 0, vI 0, vI (tkVal 281474976710657 l), .slice none 0 0]) (Yl.loadS rfl rfl si_bk rfl (fun _ h => range_of_block (h.blk (i := 2) rfl))) ?_; clear HF; intro a HF
   refine ay HF HS 1 rfl rfl rfl (Yl.load1 rfl rfl (by kernel_rfl) (fun _ h => h.cell (i := 1) rfl rfl)) ?_; clear HF; intro a HF
   refine ap HF (fun _ => HS) [2] #[true, true, true, false, false, false, false, false, false, false, false, false, false] [(24, .bool (true && tkOk 281474976710657 l))] ?_; clear HF; intro a HF
   rcases Bool.eq_false_or_eq_true ((true && tkOk 281474976710657 l)) with hb24 | hb24
   ·have HF := HF.on 24 hb24
    refine ay HF HS 3 rfl rfl rfl (Yl.load1 rfl rfl (by kernel_rfl) (fun _ h => h.cell (i := 0) rfl rfl)) ?_; clear HF; intro a HF
    refine ay HF HS 4 rfl rfl rfl (Yl.len rfl rfl (by kernel_rfl)) ?_; clear HF; intro a HF
    refine ap HF (fun _ => HS) [5, 6, 7] #[true, true, true, true, true, true, true, true, false, false, false, false, false] [(29, .bool ((((tkRest l).length : Nat) : Int) == (0 : Int))), (28, .bool ((((tkRest l).length : Nat) : Int) == (0 : Int))), (27, .bool ((((tkRest l).length : Nat) : Int) == (0 : Int)))] ?_; clear HF; intro a HF
    rcases Bool.eq_false_or_eq_true ((((tkRest l).length : Nat) : Int) == (0 : Int)) with hb29 | hb29
    ·have HF := HF.on 29 hb29
     have hd29 := eq_of_beq hb29
     refine ay HF HS 8 rfl rfl rfl (v := .agg #[vB (2 : Nat), vB 0, vI 0, vI (tkVal 281474976710657 l), .slice none 0 0]) (Yl.loadS rfl rfl si_bk rfl (fun _ h => range_of_block (h.blk (i := 2) rfl))) ?_; clear HF; intro a HF
     refine any_all [9] (by kernel_rfl) rfl ?_
     refine all_cons ?_ all_nil
     refine any_op HF (i := 9) rfl rfl ?_
     refine e_call HF (vs := [.agg #[vB (2 : Nat), vB 0, vI 0, vI (tkVal 281474976710657 l), .slice none 0 0]]) rfl (by kernel_rfl) (by kernel_rfl) rfl (by decide) (fits_any ⟨2, 0, 0, (tkVal 281474976710657 l : Int), []⟩ (endOk ht0) none 0 B _ (hL.mem HM hB) (HM.le hB) Rd.nil (by show 0 ≤ _; omega)) ?_
     rintro _ w31 ⟨rfl, hbw⟩
     refine ⟨_, rfl, ?_⟩
     replace HM := HM.call hbw
     clear HF; intro a HF
     refine keepS (HM.picks [0, 1, 2] (by decide) rfl) (fun HS => ?_)
     refine ap HF (fun _ => HS) [10] #[true, true, true, true, true, true, true, true, true, true, true, false, false] [(32, .bool (Bk.fits ⟨2, 0, 0, (tkVal 281474976710657 l : Int), []⟩))] ?_; clear HF; intro a HF
     refine any_all [11] (by kernel_rfl) rfl ?_
     refine all_cons ?_ all_nil
     refine any_op HF (i := 11) rfl rfl ?_
     refine e_storeAll HF HM (i := 3) (cs := #[vB 0, vB 0, vI 0, vI 0, .slice none 0 0]) (ds := #[vB (2 : Nat), vB 0, vI 0, vI (tkVal 281474976710657 l), .slice none 0 0]) rfl rfl rfl rfl si_bk rfl rfl (by simp [Value.oneCell']) rfl ?_
     clear HM; intro w6_11 HM
     refine keepS (HM.picks [0, 1, 2] (by decide) rfl) (fun HS => ?_)
     refine ap HF (fun _ => HS) [12] #[true, true, true, true, true, true, true, true, true, true, true, true, true] [(5, .bool (Bk.fits ⟨2, 0, 0, (tkVal 281474976710657 l : Int), []⟩))] ?_; clear HF; intro a HF
     refine any_done (by kernel_rfl) ?_
     replace HF := HF.to [(5, .bool (Bk.fits ⟨2, 0, 0, (tkVal 281474976710657 l : Int), []⟩)), (18, .bool true), (8, vP g8 0), (7, .func (.func 44) #[] #[vP g3 0, vP g6 0]), (6, vP g6 0), (4, vP g4 0), (3, vP g3 0), (0, vB (2 : Nat))]
     have HF := HF.as (t := 5) (u := .bool ((parseEnd l).isSome)) rfl (congrArg Value.bool (by rw [parseEnd_is, show tkOk 281474976710657 l = true by simpa using hb24, decide_eq_true (by omega), Bool.true_and, Bool.true_and]))
     exact ⟨HF.sub (by kernel_rfl), HM.picks [0, 1, 2, 3] (by decide) rfl⟩
    ·have HF := HF.on 29 hb29
     have hd29 := ne_of_beq_false hb29
     refine ap HF (fun _ => HS) [8, 9, 10] #[true, true, true, true, true, true, true, true, true, true, true, false, false] [(32, .bool false), (31, undef), (30, undef)] ?_; clear HF; intro a HF
     refine any_all [11] (by kernel_rfl) rfl ?_
     refine all_cons ?_ all_nil
     refine any_op HF (i := 11) rfl rfl ?_
     refine e_storeAll HF HM (i := 3) (cs := #[vB 0, vB 0, vI 0, vI 0, .slice none 0 0]) (ds := #[vB (2 : Nat), vB 0, vI 0, vI (tkVal 281474976710657 l), .slice none 0 0]) rfl rfl rfl rfl si_bk rfl rfl (by simp [Value.oneCell']) rfl ?_
     clear HM; intro w6_11 HM
     refine keepS (HM.picks [0, 1, 2] (by decide) rfl) (fun HS => ?_)
     refine ap HF (fun _ => HS) [12] #[true, true, true, true, true, true, true, true, true, true, true, true, true] [(5, .bool false)] ?_; clear HF; intro a HF
     refine any_done (by kernel_rfl) ?_
     replace HF := HF.to [(5, .bool false), (18, .bool true), (8, vP g8 0), (7, .func (.func 44) #[] #[vP g3 0, vP g6 0]), (6, vP g6 0), (4, vP g4 0), (3, vP g3 0), (0, vB (2 : Nat))]
     have HF := HF.as (t := 5) (u := .bool ((parseEnd l).isSome)) rfl (congrArg Value.bool (by rw [parseEnd_is, decide_eq_false (by omega), Bool.false_and, Bool.and_false]))
     exact ⟨HF.sub (by kernel_rfl), HM.picks [0, 1, 2, 3] (by decide) rfl⟩
   ·have HF := HF.on 24 hb24
    refine ap HF (fun _ => HS) [3, 4, 5, 6, 7, 8, 9, 10] #[true, true, true, true, true, true, true, true, true, true, true, false, false] [(32, .bool false), (31, undef), (30, undef), (29, .bool false), (28, .bool false), (27, undef), (26, undef), (25, undef)] ?_; clear HF; intro a HF
    refine any_all [11] (by kernel_rfl) rfl ?_
    refine all_cons ?_ all_nil
    refine any_op HF (i := 11) rfl rfl ?_
    refine e_storeAll HF HM (i := 3) (cs := #[vB 0, vB 0, vI 0, vI 0, .slice none 0 0]) (ds := #[vB (2 : Nat), vB 0, vI 0, vI (tkVal 281474976710657 l), .slice none 0 0]) rfl rfl rfl rfl si_bk rfl rfl (by simp [Value.oneCell']) rfl ?_
    clear HM; intro w6_11 HM
    refine keepS (HM.picks [0, 1, 2] (by decide) rfl) (fun HS => ?_)
    refine ap HF (fun _ => HS) [12] #[true, true, true, true, true, true, true, true, true, true, true, true, true] [(5, .bool false)] ?_; clear HF; intro a HF
    refine any_done (by kernel_rfl) ?_
    replace HF := HF.to [(5, .bool false), (18, .bool true), (8, vP g8 0), (7, .func (.func 44) #[] #[vP g3 0, vP g6 0]), (6, vP g6 0), (4, vP g4 0), (3, vP g3 0), (0, vB (2 : Nat))]
    have HF := HF.as (t := 5) (u := .bool ((parseEnd l).isSome)) rfl (congrArg Value.bool (by rw [parseEnd_is, show tkOk 281474976710657 l = false by simpa using hb24]; rfl))
    exact ⟨HF.sub (by kernel_rfl), HM.picks [0, 1, 2, 3] (by decide) rfl⟩
  clear HF HM; rintro a w6 ⟨HF, HM⟩
  refine wp_ret ?_
  rcases Bool.eq_false_or_eq_true ((parseEnd l).isSome) with hb5 | hb5
  ·have HF := HF.on 5 hb5
   have hfin := hb5
   exact ret2 rfl HF (.cellS (i := 3) HF HM rfl rfl si_bk rfl) (.tmp HF rfl) (parseIs_some (b := ⟨2, 0, 0, (tkVal 281474976710657 l : Int), []⟩) (A := none) (c := 0) (by rw [parseR_end]; exact parseEnd_val hfin) (World.ownsRow_nil _ _ _ _) (Nat.le_refl _) HM.below)
  ·have HF := HF.on 5 hb5
   have hfin := hb5
   exact ret2 rfl HF (.cellS (i := 3) HF HM rfl rfl si_bk rfl) (.tmp HF rfl) (parseIs_none (by rw [parseR_end]; exact Option.not_isSome_iff_eq_none.1 (by rw [hfin]; decide)) rfl (by simp [Value.oneCell']) HM.below)
 ·have HF := HF.on 18 hb18
  have hd18 := ne_of_beq_false hb18
  obtain rfl : k = 1 := by omega
  refine cond_false HF rfl (wp_skip (wp_seq (from_start ?_)))
  refine fp HF 1 0 [(33, .func (.func 44) #[] #[vP g3 0, vP g6 0])] ?_; clear HF; intro a HF
  refine from_op HF (i := 1) rfl rfl ?_
  replace HM := HM.picks (fs' := [.blk g3 #[.slice A n c] 22, .blk g6 #[.bool true] 4, .blk g8 #[vB (1 : Nat), vB 0, vI 0, vI 0, .slice none 0 0] 27, .blk g4 #[vB 0, vB 0, vI 0, vI 0, .slice none 0 0] 27]) [3, 1, 0, 2] (by decide) rfl
  have hl1 := tk_rest_lt hl
  refine e_callv HF (f := 44) (vs := [vI 63]) (fst := []) (caps := [vP g3 0, vP g6 0]) rfl rfl rfl (by kernel_rfl) rfl (by decide) (ptake_any w _ g3 g6 A n c l true 63 [.blk g8 #[vB (1 : Nat), vB 0, vI 0, vI 0, .slice none 0 0] 27, .blk g4 #[vB 0, vB 0, vI 0, vI 0, .slice none 0 0] 27] hl hln (by omega) hr hc (by omega) HM) ?_
  rintro _ w34 ⟨rfl, Aq1, cq1, hr1, hc1, hm⟩
  refine ⟨_, rfl, ?_⟩
  replace HM := hm
  clear HF; intro a HF
  have ht0 := tkVal_le 63 l
  have hs0 := tkRest_le l
  refine fp HF 1 2 [(35, vB (IntKind.u8.wrap (tkVal 63 l : Int)))] ?_; clear HF; intro a HF
  replace HF := HF.as (t := 35) (u := vB (tkVal 63 l)) rfl (u8_nat rfl (by omega))
  refine fp HF 1 3 [(36, .func (.func 44) #[] #[vP g3 0, vP g6 0])] ?_; clear HF; intro a HF
  refine from_op HF (i := 4) rfl rfl ?_
  replace HM := HM.picks (fs' := [.blk g3 #[.slice Aq1 ((tkRest l).length) cq1] 22, .blk g6 #[.bool (true && tkOk 63 l)] 4, .blk g8 #[vB (1 : Nat), vB 0, vI 0, vI 0, .slice none 0 0] 27, .blk g4 #[vB 0, vB 0, vI 0, vI 0, .slice none 0 0] 27]) [0, 1, 2, 3] (by decide) rfl
  have hl2 := tk_rest_lt hl1
  refine e_callv HF (f := 44) (vs := [vI 281474976710656]) (fst := []) (caps := [vP g3 0, vP g6 0]) rfl rfl rfl (by kernel_rfl) rfl (by decide) (ptake_any w _ g3 g6 Aq1 ((tkRest l).length) cq1 (tkRest l) (true && tkOk 63 l) 281474976710656 [.blk g8 #[vB (1 : Nat), vB 0, vI 0, vI 0, .slice none 0 0] 27, .blk g4 #[vB 0, vB 0, vI 0, vI 0, .slice none 0 0] 27] hl1 rfl (by omega) hr1 hc1 (by omega) HM) ?_
  rintro _ w37 ⟨rfl, Aq2, cq2, hr2, hc2, hm⟩
  refine ⟨_, rfl, ?_⟩
  replace HM := hm
  clear HF; intro a HF
  have ht1 := tkVal_le 281474976710656 (tkRest l)
  have hs1 := tkRest_le (tkRest l)
  refine fp HF 1 5 [(38, vP g8 1)] ?_; clear HF; intro a HF
  refine from_op HF (i := 6) rfl rfl ?_
  refine e_store HF HM (i := 2) (cs := #[vB (1 : Nat), vB 0, vI 0, vI 0, .slice none 0 0]) rfl rfl rfl rfl (by kernel_rfl) rfl rfl (by simp) ?_
  clear HM; intro w7_6 HM
  refine fp HF 1 7 [(39, vP g8 2)] ?_; clear HF; intro a HF
  refine from_op HF (i := 8) rfl rfl ?_
  refine e_store HF HM (i := 2) (cs := #[vB (1 : Nat), vB (tkVal 63 l), vI 0, vI 0, .slice none 0 0]) rfl rfl rfl rfl (by kernel_rfl) rfl rfl (by simp) ?_
  clear HM; intro w7_8 HM
  refine from_done rfl ?_
  refine wp_seq (from_start ?_)
  refine fp HF 1 0 [(40, .func (.func 44) #[] #[vP g3 0, vP g6 0])] ?_; clear HF; intro a HF
  refine from_op HF (i := 1) rfl rfl ?_
  replace HM := HM.picks (fs' := [.blk g3 #[.slice Aq2 ((tkRest (tkRest l)).length) cq2] 22, .blk g6 #[.bool ((true && tkOk 63 l) && tkOk 281474976710656 (tkRest l))] 4, .blk g8 #[vB (1 : Nat), vB (tkVal 63 l), vI (tkVal 281474976710656 (tkRest l)), vI 0, .slice none 0 0] 27, .blk g4 #[vB 0, vB 0, vI 0, vI 0, .slice none 0 0] 27]) [0, 1, 2, 3] (by decide) rfl
  have hl3 := tk_rest_lt hl2
  refine e_callv HF (f := 44) (vs := [vI 4096]) (fst := []) (caps := [vP g3 0, vP g6 0]) rfl rfl rfl (by kernel_rfl) rfl (by decide) (ptake_any w _ g3 g6 Aq2 ((tkRest (tkRest l)).length) cq2 (tkRest (tkRest l)) ((true && tkOk 63 l) && tkOk 281474976710656 (tkRest l)) 4096 [.blk g8 #[vB (1 : Nat), vB (tkVal 63 l), vI (tkVal 281474976710656 (tkRest l)), vI 0, .slice none 0 0] 27, .blk g4 #[vB 0, vB 0, vI 0, vI 0, .slice none 0 0] 27] hl2 rfl (by omega) hr2 hc2 (by omega) HM) ?_
  rintro _ w41 ⟨rfl, Aq3, cq3, hr3, hc3, hm⟩
  refine ⟨_, rfl, ?_⟩
  replace HM := hm
  clear HF; intro a HF
  have ht2 := tkVal_le 4096 (tkRest (tkRest l))
  have hs2 := tkRest_le (tkRest (tkRest l))
  refine fp HF 1 2 [(9, vI (tkVal 4096 (tkRest (tkRest l))))] ?_; clear HF; intro a HF
  refine from_done rfl ?_
  refine wp_seq (wp_seq (from_start ?_))
  refine fy HF HM 0 rfl rfl rfl (Yl.load1 rfl rfl (by kernel_rfl) (fun _ h => h.cell (i := 1) rfl rfl)) ?_; clear HF; intro a HF
  refine fp HF 1 1 [(43, .bool (((true && tkOk 63 l) && tkOk 281474976710656 (tkRest l)) && tkOk 4096 (tkRest (tkRest l))))] ?_; clear HF; intro a HF
  rcases Bool.eq_false_or_eq_true ((((true && tkOk 63 l) && tkOk 281474976710656 (tkRest l)) && tkOk 4096 (tkRest (tkRest l)))) with hb43 | hb43
  ·have HF := HF.on 43 hb43
   have h3 : parse3 l = true := by rw [← tk3]; exact hb43
   refine fp HF 3 2 [(46, .bool (decide ((tkVal 4096 (tkRest (tkRest l)) : Int) > (0 : Int)))), (45, .bool (decide ((tkVal 4096 (tkRest (tkRest l)) : Int) > (0 : Int)))), (44, vI (tkVal 4096 (tkRest (tkRest l))))] ?_; clear HF; intro a HF
   refine from_done rfl ?_
   replace HF := HF.to [(46, .bool (decide ((tkVal 4096 (tkRest (tkRest l)) : Int) > (0 : Int)))), (9, vI (tkVal 4096 (tkRest (tkRest l)))), (18, .bool false), (8, vP g8 0), (7, .func (.func 44) #[] #[vP g3 0, vP g6 0]), (6, vP g6 0), (5, .bool false), (4, vP g4 0), (3, vP g3 0), (0, vB (1 : Nat))]
   rcases Bool.eq_false_or_eq_true (decide ((tkVal 4096 (tkRest (tkRest l)) : Int) > (0 : Int))) with hb46 | hb46
   ·have HF := HF.on 46 hb46
    have hd46 := of_decide_eq_true hb46
    refine cond_true HF rfl (wp_seq (from_start ?_))
    refine fp HF 1 0 [(47, .func (.func 44) #[] #[vP g3 0, vP g6 0])] ?_; clear HF; intro a HF
    refine from_op HF (i := 1) rfl rfl ?_
    replace HM := HM.picks (fs' := [.blk g3 #[.slice Aq3 ((tkRest (tkRest (tkRest l))).length) cq3] 22, .blk g6 #[.bool (((true && tkOk 63 l) && tkOk 281474976710656 (tkRest l)) && tkOk 4096 (tkRest (tkRest l)))] 4, .blk g8 #[vB (1 : Nat), vB (tkVal 63 l), vI (tkVal 281474976710656 (tkRest l)), vI 0, .slice none 0 0] 27, .blk g4 #[vB 0, vB 0, vI 0, vI 0, .slice none 0 0] 27]) [0, 1, 2, 3] (by decide) rfl
    have hl4 := tk_rest_lt hl3
    refine e_callv HF (f := 44) (vs := [vI 281474976710656]) (fst := []) (caps := [vP g3 0, vP g6 0]) rfl rfl rfl (by kernel_rfl) rfl (by decide) (ptake_any w _ g3 g6 Aq3 ((tkRest (tkRest (tkRest l))).length) cq3 (tkRest (tkRest (tkRest l))) (((true && tkOk 63 l) && tkOk 281474976710656 (tkRest l)) && tkOk 4096 (tkRest (tkRest l))) 281474976710656 [.blk g8 #[vB (1 : Nat), vB (tkVal 63 l), vI (tkVal 281474976710656 (tkRest l)), vI 0, .slice none 0 0] 27, .blk g4 #[vB 0, vB 0, vI 0, vI 0, .slice none 0 0] 27] hl3 rfl (by omega) hr3 hc3 (by omega) HM) ?_
    rintro _ w48 ⟨rfl, Aq4, cq4, hr4, hc4, hm⟩
    refine ⟨_, rfl, ?_⟩
    replace HM := hm
    clear HF; intro a HF
    have ht3 := tkVal_le 281474976710656 (tkRest (tkRest (tkRest l)))
    have hs3 := tkRest_le (tkRest (tkRest (tkRest l)))
    refine fp HF 1 2 [(49, .func (.func 44) #[] #[vP g3 0, vP g6 0])] ?_; clear HF; intro a HF
    refine from_op HF (i := 3) rfl rfl ?_
    replace HM := HM.picks (fs' := [.blk g3 #[.slice Aq4 ((tkRest (tkRest (tkRest (tkRest l)))).length) cq4] 22, .blk g6 #[.bool ((((true && tkOk 63 l) && tkOk 281474976710656 (tkRest l)) && tkOk 4096 (tkRest (tkRest l))) && tkOk 281474976710656 (tkRest (tkRest (tkRest l))))] 4, .blk g8 #[vB (1 : Nat), vB (tkVal 63 l), vI (tkVal 281474976710656 (tkRest l)), vI 0, .slice none 0 0] 27, .blk g4 #[vB 0, vB 0, vI 0, vI 0, .slice none 0 0] 27]) [0, 1, 2, 3] (by decide) rfl
    have hl5 := tk_rest_lt hl4
    refine e_callv HF (f := 44) (vs := [vI 281474976710656]) (fst := []) (caps := [vP g3 0, vP g6 0]) rfl rfl rfl (by kernel_rfl) rfl (by decide) (ptake_any w _ g3 g6 Aq4 ((tkRest (tkRest (tkRest (tkRest l)))).length) cq4 (tkRest (tkRest (tkRest (tkRest l)))) ((((true && tkOk 63 l) && tkOk 281474976710656 (tkRest l)) && tkOk 4096 (tkRest (tkRest l))) && tkOk 281474976710656 (tkRest (tkRest (tkRest l)))) 281474976710656 [.blk g8 #[vB (1 : Nat), vB (tkVal 63 l), vI (tkVal 281474976710656 (tkRest l)), vI 0, .slice none 0 0] 27, .blk g4 #[vB 0, vB 0, vI 0, vI 0, .slice none 0 0] 27] hl4 rfl (by omega) hr4 hc4 (by omega) HM) ?_
    rintro _ w50 ⟨rfl, Aq5, cq5, hr5, hc5, hm⟩
    refine ⟨_, rfl, ?_⟩
    replace HM := hm
    clear HF; intro a HF
    have ht4 := tkVal_le 281474976710656 (tkRest (tkRest (tkRest (tkRest l))))
    have hs4 := tkRest_le (tkRest (tkRest (tkRest (tkRest l))))
    refine fy HF HM 4 rfl rfl rfl (v := .agg #[vI (tkVal 281474976710656 (tkRest (tkRest (tkRest l)))), vI (tkVal 281474976710656 (tkRest (tkRest (tkRest (tkRest l)))))]) (Yl.build (vs := [(0, vI (tkVal 281474976710656 (tkRest (tkRest (tkRest l))))), (1, vI (tkVal 281474976710656 (tkRest (tkRest (tkRest (tkRest l))))))]) rfl (by kernel_rfl) (by kernel_rfl)) ?_; clear HF; intro a HF
    refine from_op HF (i := 5) rfl rfl ?_
    refine e_alloc HF HM (cs := #[vI 0, vI 0]) rfl (by kernel_rfl) rfl (by decide) ?_
    clear HF HM; intro a w10 g10 HF HM
    refine from_op HF (i := 6) rfl rfl ?_
    refine e_storeAll HF HM (i := 0) (cs := #[vI 0, vI 0]) (ds := #[vI (tkVal 281474976710656 (tkRest (tkRest (tkRest l)))), vI (tkVal 281474976710656 (tkRest (tkRest (tkRest (tkRest l)))))]) rfl rfl rfl rfl ⟨(by kernel_rfl), (by kernel_rfl)⟩ rfl rfl (by simp [Value.oneCell']) rfl ?_
    clear HM; intro w10_6 HM
    refine from_done rfl ?_
    obtain ⟨es, L, er, hq⟩ : ∃ es L er, readR ⟨(tkVal 281474976710656 (tkRest (tkRest (tkRest l))) : Int), (tkVal 281474976710656 (tkRest (tkRest (tkRest (tkRest l)))) : Int)⟩ (tkVal 63 l) (tkVal 4096 (tkRest (tkRest l)) : Int) (tkRest (tkRest (tkRest (tkRest (tkRest l))))) = (es, L, er) := ⟨_, _, _, rfl⟩
    refine wp_seq (from_start ?_)
    refine fy HF HM 0 rfl rfl rfl (v := .agg #[vI (tkVal 281474976710656 (tkRest (tkRest (tkRest l)))), vI (tkVal 281474976710656 (tkRest (tkRest (tkRest (tkRest l)))))]) (Yl.loadS rfl rfl ⟨(by kernel_rfl), (by kernel_rfl)⟩ rfl (fun _ h => range_of_block (h.blk (i := 0) rfl))) ?_; clear HF; intro a HF
    refine fp HF 1 1 [(54, vP g8 1)] ?_; clear HF; intro a HF
    refine fy HF HM 2 rfl rfl rfl (Yl.load1 rfl rfl (by kernel_rfl) (fun _ h => h.cell (i := 3) rfl rfl)) ?_; clear HF; intro a HF
    refine fp HF 1 3 [(56, vI (tkVal 4096 (tkRest (tkRest l))))] ?_; clear HF; intro a HF
    refine fy HF HM 4 rfl rfl rfl (Yl.load1 rfl rfl (by kernel_rfl) (fun _ h => h.cell (i := 1) rfl rfl)) ?_; clear HF; intro a HF
    refine from_op HF (i := 5) rfl rfl ?_
    refine e_call HF (vs := [.agg #[vI (tkVal 281474976710656 (tkRest (tkRest (tkRest l)))), vI (tkVal 281474976710656 (tkRest (tkRest (tkRest (tkRest l)))))], vB (tkVal 63 l), vI (tkVal 4096 (tkRest (tkRest l))), .slice Aq5 ((tkRest (tkRest (tkRest (tkRest (tkRest l))))).length) cq5]) rfl (by kernel_rfl) (by kernel_rfl) rfl (by decide) (read_is ⟨(tkVal 281474976710656 (tkRest (tkRest (tkRest l))) : Int), (tkVal 281474976710656 (tkRest (tkRest (tkRest (tkRest l)))) : Int)⟩ (tkVal 63 l) (by omega) Aq5 ((tkRest (tkRest (tkRest (tkRest (tkRest l))))).length) cq5 (tkVal 4096 (tkRest (tkRest l)) : Int) (by unfold I64; omega) (tkRest (tkRest (tkRest (tkRest (tkRest l))))) B _ (hL.mem HM hB).laid (HM.le hB) (HM.old hr5) hc5 hl5 (by omega) (.inl (by omega)) hq) ?_
    rintro _ w58 ⟨⟨A58, c58, rfl, ho, hc58⟩, hbw⟩
    refine ⟨_, rfl, ?_⟩
    replace HM := HM.callRow hbw ho
    clear HF; intro a HF
    refine fp HF 7 6 [(13, vI er), (12, vI L), (11, .slice A58 es.length c58), (61, vI er), (60, vI L), (59, .slice A58 es.length c58), (52, .tuple #[.slice A58 es.length c58, vI L, vI er])] ?_; clear HF; intro a HF
    refine from_done rfl ?_
    refine wp_seq ?_
    refine cut_seq (fun aS wS => Fr aS 99 [] [(81, .bool (!(decide (er = 0 ∧ (es.getD 0 Ev.zero).seq = (tkVal 281474976710656 (tkRest (tkRest (tkRest l))) : Int) ∧ (es.getD 0 Ev.zero).time = (tkVal 281474976710656 (tkRest (tkRest (tkRest (tkRest l)))) : Int))))), (12, vI L), (11, .slice A58 es.length c58), (10, vP g10 0), (46, .bool true), (9, vI (tkVal 4096 (tkRest (tkRest l)))), (18, .bool false), (8, vP g8 0), (7, .func (.func 44) #[] #[vP g3 0, vP g6 0]), (6, vP g6 0), (5, .bool false), (4, vP g4 0), (3, vP g3 0), (0, vB (1 : Nat))] ∧ Mem w wS [.row (.slice A58 es.length c58) es.length (es.flatMap evL) 46 11, .blk g10 #[vI (tkVal 281474976710656 (tkRest (tkRest (tkRest l)))), vI (tkVal 281474976710656 (tkRest (tkRest (tkRest (tkRest l)))))] 69, .blk g3 #[.slice Aq5 ((tkRest (tkRest (tkRest (tkRest (tkRest l))))).length) cq5] 22, .blk g6 #[.bool (((((true && tkOk 63 l) && tkOk 281474976710656 (tkRest l)) && tkOk 4096 (tkRest (tkRest l))) && tkOk 281474976710656 (tkRest (tkRest (tkRest l)))) && tkOk 281474976710656 (tkRest (tkRest (tkRest (tkRest l)))))] 4, .blk g8 #[vB (1 : Nat), vB (tkVal 63 l), vI (tkVal 281474976710656 (tkRest l)), vI 0, .slice none 0 0] 27, .blk g4 #[vB 0, vB 0, vI 0, vI 0, .slice none 0 0] 27]) ?_ ?_
    ·
     refine any_start (by kernel_rfl) (fun wS => Mem w wS [.row (.slice A58 es.length c58) es.length (es.flatMap evL) 46 11, .blk g10 #[vI (tkVal 281474976710656 (tkRest (tkRest (tkRest l)))), vI (tkVal 281474976710656 (tkRest (tkRest (tkRest (tkRest l)))))] 69, .blk g3 #[.slice Aq5 ((tkRest (tkRest (tkRest (tkRest (tkRest l))))).length) cq5] 22, .blk g6 #[.bool (((((true && tkOk 63 l) && tkOk 281474976710656 (tkRest l)) && tkOk 4096 (tkRest (tkRest l))) && tkOk 281474976710656 (tkRest (tkRest (tkRest l)))) && tkOk 281474976710656 (tkRest (tkRest (tkRest (tkRest l)))))] 4, .blk g8 #[vB (1 : Nat), vB (tkVal 63 l), vI (tkVal 281474976710656 (tkRest l)), vI 0, .slice none 0 0] 27, .blk g4 #[vB 0, vB 0, vI 0, vI 0, .slice none 0 0] 27]) [] ?_
     replace HM := HM.drew
     have HS := HM.picks (fs' := [.row (.slice A58 es.length c58) es.length (es.flatMap evL) 46 11, .blk g10 #[vI (tkVal 281474976710656 (tkRest (tkRest (tkRest l)))), vI (tkVal 281474976710656 (tkRest (tkRest (tkRest (tkRest l)))))] 69, .blk g3 #[.slice Aq5 ((tkRest (tkRest (tkRest (tkRest (tkRest l))))).length) cq5] 22, .blk g6 #[.bool (((((true && tkOk 63 l) && tkOk 281474976710656 (tkRest l)) && tkOk 4096 (tkRest (tkRest l))) && tkOk 281474976710656 (tkRest (tkRest (tkRest l)))) && tkOk 281474976710656 (tkRest (tkRest (tkRest (tkRest l)))))] 4, .blk g8 #[vB (1 : Nat), vB (tkVal 63 l), vI (tkVal 281474976710656 (tkRest l)), vI 0, .slice none 0 0] 27, .blk g4 #[vB 0, vB 0, vI 0, vI 0, .slice none 0 0] 27]) [0, 1, 2, 3, 4, 5] (by decide) rfl
     refine ap HF (fun _ => HS) [0, 1, 2] #[true, true, true, false, false, false, false, false, false, false, false, false, false, false, false, false, false, false, false, false] [(64, .bool ((er : Int) != (0 : Int))), (63, .bool ((er : Int) != (0 : Int))), (62, vI er)] ?_; clear HF; intro a HF
     rcases Bool.eq_false_or_eq_true ((er : Int) != (0 : Int)) with hb64 | hb64
     ·have HF := HF.on 64 hb64
      have hd64 := bne_iff_ne.1 hb64
      refine ap HF (fun _ => HS) [3, 4, 5, 6, 7, 8, 9, 10, 11, 12, 13, 14, 15, 16, 17, 18, 19] #[true, true, true, true, true, true, true, true, true, true, true, true, true, true, true, true, true, true, true, true] [(81, .bool true), (80, undef), (79, undef), (78, undef), (77, undef), (76, undef), (75, undef), (74, undef), (73, .bool true), (72, .bool true), (71, undef), (70, undef), (69, undef), (68, undef), (67, undef), (66, undef), (65, undef)] ?_; clear HF; intro a HF
      refine any_done (by kernel_rfl) ?_
      replace HF := HF.to [(81, .bool true), (12, vI L), (11, .slice A58 es.length c58), (10, vP g10 0), (46, .bool true), (9, vI (tkVal 4096 (tkRest (tkRest l)))), (18, .bool false), (8, vP g8 0), (7, .func (.func 44) #[] #[vP g3 0, vP g6 0]), (6, vP g6 0), (5, .bool false), (4, vP g4 0), (3, vP g3 0), (0, vB (1 : Nat))]
      have HF := HF.as (t := 81) (u := .bool (!(decide (er = 0 ∧ (es.getD 0 Ev.zero).seq = (tkVal 281474976710656 (tkRest (tkRest (tkRest l))) : Int) ∧ (es.getD 0 Ev.zero).time = (tkVal 281474976710656 (tkRest (tkRest (tkRest (tkRest l)))) : Int))))) rfl (congrArg Value.bool (by rw [decide_eq_false (by omega)]; rfl))
      exact ⟨HF.sub (by kernel_rfl), HM.picks [0, 1, 2, 3, 4, 5] (by decide) rfl⟩
     ·have HF := HF.on 64 hb64
      have hd64 := bne_eq_false_iff_eq.1 hb64
      have her : er = 0 := by omega
      have hq0 := hq; rw [her] at hq0; obtain ⟨rw1, rw2, rw3, rw4, rw5⟩ := read_write (cpu := tkVal 63 l) (by omega) hl5 hq0
      refine ap HF (fun _ => HS) [3, 7] #[true, true, true, true, false, false, false, true, false, false, false, false, false, false, false, false, false, false, false, false] [(69, vP g10 0), (65, .slice A58 es.length c58)] ?_; clear HF; intro a HF
      obtain ⟨gA58, rfl⟩ := own_some (HM.own (i := 0) rfl) (Nat.lt_of_le_of_lt (Nat.zero_le _) (show 0 < es.length from by omega))
      refine ay HF HS 4 rfl rfl rfl (v := vP gA58 0) (Yl.indexAddr (ad := ⟨gA58, 0, none⟩) (y := 0) (sz := 11) rfl rfl rfl (by omega) (by kernel_rfl)) ?_; clear HF; intro a HF
      refine ap HF (fun _ => HS) [5] #[true, true, true, true, true, true, false, true, false, false, false, false, false, false, false, false, false, false, false, false] [(67, vP gA58 0)] ?_; clear HF; intro a HF
      refine ay HF HS 6 rfl rfl rfl (v := vI ((es.getD 0 Ev.zero).seq)) (Yl.load1 rfl rfl (by kernel_rfl) (fun _ h => (by have := h.rowCell evL_len (i := 0) rfl (k := 0) (off := 0) (x := (es.getD 0 Ev.zero)) ((getD_at Ev.zero (k := 0) (by first | omega | (simp; omega)))) rfl; simpa using this))) ?_; clear HF; intro a HF
      refine ay HF HS 8 rfl rfl rfl (Yl.load1 rfl rfl (by kernel_rfl) (fun _ h => h.cell (i := 1) rfl rfl)) ?_; clear HF; intro a HF
      refine ap HF (fun _ => HS) [9, 10, 11] #[true, true, true, true, true, true, true, true, true, true, true, true, false, false, false, false, false, false, false, false] [(73, .bool (((es.getD 0 Ev.zero).seq : Int) != (tkVal 281474976710656 (tkRest (tkRest (tkRest l))) : Int))), (72, .bool (((es.getD 0 Ev.zero).seq : Int) != (tkVal 281474976710656 (tkRest (tkRest (tkRest l))) : Int))), (71, .bool (((es.getD 0 Ev.zero).seq : Int) != (tkVal 281474976710656 (tkRest (tkRest (tkRest l))) : Int)))] ?_; clear HF; intro a HF
      rcases Bool.eq_false_or_eq_true (((es.getD 0 Ev.zero).seq : Int) != (tkVal 281474976710656 (tkRest (tkRest (tkRest l))) : Int)) with hb73 | hb73
      ·have HF := HF.on 73 hb73
       have hd73 := bne_iff_ne.1 hb73
       refine ap HF (fun _ => HS) [12, 13, 14, 15, 16, 17, 18, 19] #[true, true, true, true, true, true, true, true, true, true, true, true, true, true, true, true, true, true, true, true] [(81, .bool true), (80, undef), (79, undef), (78, undef), (77, undef), (76, undef), (75, undef), (74, undef)] ?_; clear HF; intro a HF
       refine any_done (by kernel_rfl) ?_
       replace HF := HF.to [(81, .bool true), (12, vI L), (11, vS gA58 es.length c58), (10, vP g10 0), (46, .bool true), (9, vI (tkVal 4096 (tkRest (tkRest l)))), (18, .bool false), (8, vP g8 0), (7, .func (.func 44) #[] #[vP g3 0, vP g6 0]), (6, vP g6 0), (5, .bool false), (4, vP g4 0), (3, vP g3 0), (0, vB (1 : Nat))]
       have HF := HF.as (t := 81) (u := .bool (!(decide (er = 0 ∧ (es.getD 0 Ev.zero).seq = (tkVal 281474976710656 (tkRest (tkRest (tkRest l))) : Int) ∧ (es.getD 0 Ev.zero).time = (tkVal 281474976710656 (tkRest (tkRest (tkRest (tkRest l)))) : Int))))) rfl (congrArg Value.bool (by rw [decide_eq_false (by omega)]; rfl))
       exact ⟨HF.sub (by kernel_rfl), HM.picks [0, 1, 2, 3, 4, 5] (by decide) rfl⟩
      ·have HF := HF.on 73 hb73
       have hd73 := bne_eq_false_iff_eq.1 hb73
       refine ap HF (fun _ => HS) [12, 16] #[true, true, true, true, true, true, true, true, true, true, true, true, true, false, false, false, true, false, false, false] [(78, vP g10 1), (74, vS gA58 es.length c58)] ?_; clear HF; intro a HF
       refine ay HF HS 13 rfl rfl rfl (v := vP gA58 0) (Yl.indexAddr (ad := ⟨gA58, 0, none⟩) (y := 0) (sz := 11) rfl rfl rfl (by omega) (by kernel_rfl)) ?_; clear HF; intro a HF
       refine ap HF (fun _ => HS) [14] #[true, true, true, true, true, true, true, true, true, true, true, true, true, true, true, false, true, false, false, false] [(76, vP gA58 1)] ?_; clear HF; intro a HF
       refine ay HF HS 15 rfl rfl rfl (v := vI ((es.getD 0 Ev.zero).time)) (Yl.load1 rfl rfl (by kernel_rfl) (fun _ h => h.rowCell evL_len (i := 0) rfl (k := 0) (off := 1) (x := (es.getD 0 Ev.zero)) ((getD_at Ev.zero (k := 0) (by first | omega | (simp; omega)))) rfl)) ?_; clear HF; intro a HF
       refine ay HF HS 17 rfl rfl rfl (Yl.load1 rfl rfl (by kernel_rfl) (fun _ h => h.cell (i := 1) rfl rfl)) ?_; clear HF; intro a HF
       refine ap HF (fun _ => HS) [18, 19] #[true, true, true, true, true, true, true, true, true, true, true, true, true, true, true, true, true, true, true, true] [(81, .bool (((es.getD 0 Ev.zero).time : Int) != (tkVal 281474976710656 (tkRest (tkRest (tkRest (tkRest l)))) : Int))), (80, .bool (((es.getD 0 Ev.zero).time : Int) != (tkVal 281474976710656 (tkRest (tkRest (tkRest (tkRest l)))) : Int)))] ?_; clear HF; intro a HF
       refine any_done (by kernel_rfl) ?_
       replace HF := HF.to [(81, .bool (((es.getD 0 Ev.zero).time : Int) != (tkVal 281474976710656 (tkRest (tkRest (tkRest (tkRest l)))) : Int))), (12, vI L), (11, vS gA58 es.length c58), (10, vP g10 0), (46, .bool true), (9, vI (tkVal 4096 (tkRest (tkRest l)))), (18, .bool false), (8, vP g8 0), (7, .func (.func 44) #[] #[vP g3 0, vP g6 0]), (6, vP g6 0), (5, .bool false), (4, vP g4 0), (3, vP g3 0), (0, vB (1 : Nat))]
       have HF := HF.as (t := 81) (u := .bool (!(decide (er = 0 ∧ (es.getD 0 Ev.zero).seq = (tkVal 281474976710656 (tkRest (tkRest (tkRest l))) : Int) ∧ (es.getD 0 Ev.zero).time = (tkVal 281474976710656 (tkRest (tkRest (tkRest (tkRest l)))) : Int))))) rfl (congrArg Value.bool (by rw [Bool.eq_iff_iff, bne_iff_ne, Bool.not_eq_true', decide_eq_false_iff_not]; omega))
       exact ⟨HF.sub (by kernel_rfl), HM.picks [0, 1, 2, 3, 4, 5] (by decide) rfl⟩
    clear HF HM; rintro a w12 ⟨HF, HM⟩
    rcases Bool.eq_false_or_eq_true (!(decide (er = 0 ∧ (es.getD 0 Ev.zero).seq = (tkVal 281474976710656 (tkRest (tkRest (tkRest l))) : Int) ∧ (es.getD 0 Ev.zero).time = (tkVal 281474976710656 (tkRest (tkRest (tkRest (tkRest l)))) : Int)))) with hb81 | hb81
    ·have HF := HF.on 81 hb81
     have hz : ¬ (er = 0 ∧ (es.getD 0 Ev.zero).seq = (tkVal 281474976710656 (tkRest (tkRest (tkRest l))) : Int) ∧ (es.getD 0 Ev.zero).time = (tkVal 281474976710656 (tkRest (tkRest (tkRest (tkRest l)))) : Int)) := fun hh => by rw [decide_eq_true hh] at hb81; cases hb81
     refine cond_true HF rfl (wp_seq (from_start ?_))
     refine fy HF HM 0 rfl rfl rfl (v := .agg #[vB 0, vB 0, vI 0, vI 0, .slice none 0 0]) (Yl.build (vs := []) rfl (by kernel_rfl) (by kernel_rfl)) ?_; clear HF; intro a HF
     refine from_op HF (i := 1) rfl rfl ?_
     refine e_storeAll HF HM (i := 5) (cs := #[vB 0, vB 0, vI 0, vI 0, .slice none 0 0]) (ds := #[vB 0, vB 0, vI 0, vI 0, .slice none 0 0]) rfl rfl rfl rfl si_bk rfl rfl (by simp [Value.oneCell']) rfl ?_
     clear HM; intro w13_1 HM
     refine fp HF 1 2 [(5, .bool false)] ?_; clear HF; intro a HF
     refine from_done rfl ?_
     refine wp_ret ?_
     exact ret2 rfl HF (.cellS (i := 5) HF HM rfl rfl si_bk rfl) (.tmp HF rfl) (parseIs_none (by rw [parseR_evs, parseEvs_full h3 (by omega) hq]; exact parseRows_none (fun hh => hz ⟨hh.1, hh.2.1, hh.2.2.1⟩)) rfl (by simp [Value.oneCell']) HM.below)
    ·have HF := HF.on 81 hb81
     have hz : er = 0 ∧ (es.getD 0 Ev.zero).seq = (tkVal 281474976710656 (tkRest (tkRest (tkRest l))) : Int) ∧ (es.getD 0 Ev.zero).time = (tkVal 281474976710656 (tkRest (tkRest (tkRest (tkRest l)))) : Int) := Decidable.byContradiction fun hh => by rw [decide_eq_false hh] at hb81; cases hb81
     have her := hz.1
     have hq0 := hq; rw [her] at hq0; obtain ⟨rw1, rw2, rw3, rw4, rw5⟩ := read_write (cpu := tkVal 63 l) (by omega) hl5 hq0
     refine cond_false HF rfl (wp_skip ?_)
     refine any_start (by kernel_rfl) (fun wS => Mem w wS [.row (.slice A58 es.length c58) es.length (es.flatMap evL) 46 11, .blk g10 #[vI (tkVal 281474976710656 (tkRest (tkRest (tkRest l)))), vI (tkVal 281474976710656 (tkRest (tkRest (tkRest (tkRest l)))))] 69, .blk g3 #[.slice Aq5 ((tkRest (tkRest (tkRest (tkRest (tkRest l))))).length) cq5] 22, .blk g6 #[.bool (((((true && tkOk 63 l) && tkOk 281474976710656 (tkRest l)) && tkOk 4096 (tkRest (tkRest l))) && tkOk 281474976710656 (tkRest (tkRest (tkRest l)))) && tkOk 281474976710656 (tkRest (tkRest (tkRest (tkRest l)))))] 4, .blk g4 #[vB 0, vB 0, vI 0, vI 0, .slice none 0 0] 27]) [6] ?_
     replace HM := HM.drew
     have HS := HM.picks (fs' := [.row (.slice A58 es.length c58) es.length (es.flatMap evL) 46 11, .blk g10 #[vI (tkVal 281474976710656 (tkRest (tkRest (tkRest l)))), vI (tkVal 281474976710656 (tkRest (tkRest (tkRest (tkRest l)))))] 69, .blk g3 #[.slice Aq5 ((tkRest (tkRest (tkRest (tkRest (tkRest l))))).length) cq5] 22, .blk g6 #[.bool (((((true && tkOk 63 l) && tkOk 281474976710656 (tkRest l)) && tkOk 4096 (tkRest (tkRest l))) && tkOk 281474976710656 (tkRest (tkRest (tkRest l)))) && tkOk 281474976710656 (tkRest (tkRest (tkRest (tkRest l)))))] 4, .blk g4 #[vB 0, vB 0, vI 0, vI 0, .slice none 0 0] 27]) [0, 1, 2, 3, 5] (by decide) rfl
     refine ap HF (fun _ => HS) [0, 2, 4] #[true, false, true, false, true, false, false] [(87, vP g8 4), (85, vI L), (83, .slice A58 es.length c58)] ?_; clear HF; intro a HF
     refine ay HF HS 1 rfl rfl rfl (Yl.load1 rfl rfl (by kernel_rfl) (fun _ h => h.cell (i := 2) rfl rfl)) ?_; clear HF; intro a HF
     refine ay HF HS 3 rfl rfl rfl (v := .slice (if cq5 = L then Aq5 else Aq5.map (·.add (L * 1))) (((tkRest (tkRest (tkRest (tkRest (tkRest l))))).length) - L) (cq5 - L)) (Yl.sliceFrom ei_u8 (j := L) rfl rfl rfl (by omega)) ?_; clear HF; intro a HF
     refine any_all [5] (by kernel_rfl) rfl ?_
     refine all_cons ?_ all_nil
     refine any_op HF (i := 5) rfl rfl ?_
     refine e_store HF HM (i := 4) (cs := #[vB (1 : Nat), vB (tkVal 63 l), vI (tkVal 281474976710656 (tkRest l)), vI 0, .slice none 0 0]) rfl rfl rfl rfl (by kernel_rfl) rfl rfl (by simp) ?_
     clear HM; intro w14_5 HM
     refine keepS (HM.picks [0, 1, 2, 3, 5] (by decide) rfl) (fun HS => ?_)
     refine any_all [6] (by kernel_rfl) rfl ?_
     refine all_cons ?_ all_nil
     refine any_op HF (i := 6) rfl rfl ?_
     refine e_store HF HM (i := 2) (cs := #[.slice Aq5 ((tkRest (tkRest (tkRest (tkRest (tkRest l))))).length) cq5]) rfl rfl rfl rfl (by kernel_rfl) rfl rfl (by simp) ?_
     clear HM; intro w14_6 HM
     refine noS (by kernel_rfl) ?_
     refine any_done (by kernel_rfl) ?_
     refine cut_seq (fun aS wS => Fr aS 99 [] [(5, .bool ((parseEvs l).isSome)), (81, .bool false), (11, .slice A58 es.length c58), (10, vP g10 0), (46, .bool true), (9, vI (tkVal 4096 (tkRest (tkRest l)))), (18, .bool false), (8, vP g8 0), (7, .func (.func 44) #[] #[vP g3 0, vP g6 0]), (6, vP g6 0), (4, vP g4 0), (3, vP g3 0), (0, vB (1 : Nat))] ∧ Mem w wS [.row (.slice A58 es.length c58) es.length (es.flatMap evL) 46 11, .blk g10 #[vI (tkVal 281474976710656 (tkRest (tkRest (tkRest l)))), vI (tkVal 281474976710656 (tkRest (tkRest (tkRest (tkRest l)))))] 69, .blk g3 #[.slice (if cq5 = L then Aq5 else Aq5.map (·.add (L * 1))) (((tkRest (tkRest (tkRest (tkRest (tkRest l))))).length) - L) (cq5 - L)] 22, .blk g6 #[.bool (((((true && tkOk 63 l) && tkOk 281474976710656 (tkRest l)) && tkOk 4096 (tkRest (tkRest l))) && tkOk 281474976710656 (tkRest (tkRest (tkRest l)))) && tkOk 281474976710656 (tkRest (tkRest (tkRest (tkRest l)))))] 4, .blk g8 #[vB (1 : Nat), vB (tkVal 63 l), vI (tkVal 281474976710656 (tkRest l)), vI 0, .slice A58 es.length c58] 27, .blk g4 #[vB (1 : Nat), vB (tkVal 63 l), vI (tkVal 281474976710656 (tkRest l)), vI 0, .slice A58 es.length c58] 27]) ?_ ?_
     ·
      refine any_start (by kernel_rfl) (fun wS => Mem w wS [.row (.slice A58 es.length c58) es.length (es.flatMap evL) 46 11, .blk g10 #[vI (tkVal 281474976710656 (tkRest (tkRest (tkRest l)))), vI (tkVal 281474976710656 (tkRest (tkRest (tkRest (tkRest l)))))] 69, .blk g3 #[.slice (if cq5 = L then Aq5 else Aq5.map (·.add (L * 1))) (((tkRest (tkRest (tkRest (tkRest (tkRest l))))).length) - L) (cq5 - L)] 22, .blk g6 #[.bool (((((true && tkOk 63 l) && tkOk 281474976710656 (tkRest l)) && tkOk 4096 (tkRest (tkRest l))) && tkOk 281474976710656 (tkRest (tkRest (tkRest l)))) && tkOk 281474976710656 (tkRest (tkRest (tkRest (tkRest l)))))] 4, .blk g8 #[vB (1 : Nat), vB (tkVal 63 l), vI (tkVal 281474976710656 (tkRest l)), vI 0, .slice A58 es.length c58] 27]) [] ?_
      replace HM := HM.drew
      have HS := HM.picks (fs' := [.row (.slice A58 es.length c58) es.length (es.flatMap evL) 46 11, .blk g10 #[vI (tkVal 281474976710656 (tkRest (tkRest (tkRest l)))), vI (tkVal 281474976710656 (tkRest (tkRest (tkRest (tkRest l)))))] 69, .blk g3 #[.slice (if cq5 = L then Aq5 else Aq5.map (·.add (L * 1))) (((tkRest (tkRest (tkRest (tkRest (tkRest l))))).length) - L) (cq5 - L)] 22, .blk g6 #[.bool (((((true && tkOk 63 l) && tkOk 281474976710656 (tkRest l)) && tkOk 4096 (tkRest (tkRest l))) && tkOk 281474976710656 (tkRest (tkRest (tkRest l)))) && tkOk 281474976710656 (tkRest (tkRest (tkRest (tkRest l)))))] 4, .blk g8 #[vB (1 : Nat), vB (tkVal 63 l), vI (tkVal 281474976710656 (tkRest l)), vI 0, .slice A58 es.length c58] 27]) [0, 1, 2, 3, 4] (by decide) rfl
      refine ay HF HS 0 rfl rfl rfl (v := .agg #[vB (1 : Nat), vB (tkVal 63 l), vI (tkVal 281474976710656 (tkRest l)), vI 0, .slice A58 es.length c58]) (Yl.loadS rfl rfl si_bk rfl (fun _ h => range_of_block (h.blk (i := 4) rfl))) ?_; clear HF; intro a HF
      refine ay HF HS 1 rfl rfl rfl (Yl.load1 rfl rfl (by kernel_rfl) (fun _ h => h.cell (i := 3) rfl rfl)) ?_; clear HF; intro a HF
      refine ap HF (fun _ => HS) [2] #[true, true, true, false, false, false, false, false, false, false, false, false, false] [(90, .bool (((((true && tkOk 63 l) && tkOk 281474976710656 (tkRest l)) && tkOk 4096 (tkRest (tkRest l))) && tkOk 281474976710656 (tkRest (tkRest (tkRest l)))) && tkOk 281474976710656 (tkRest (tkRest (tkRest (tkRest l))))))] ?_; clear HF; intro a HF
      rcases Bool.eq_false_or_eq_true ((((((true && tkOk 63 l) && tkOk 281474976710656 (tkRest l)) && tkOk 4096 (tkRest (tkRest l))) && tkOk 281474976710656 (tkRest (tkRest (tkRest l)))) && tkOk 281474976710656 (tkRest (tkRest (tkRest (tkRest l)))))) with hb90 | hb90
      ·have HF := HF.on 90 hb90
       refine ay HF HS 3 rfl rfl rfl (Yl.load1 rfl rfl (by kernel_rfl) (fun _ h => h.cell (i := 2) rfl rfl)) ?_; clear HF; intro a HF
       refine ay HF HS 4 rfl rfl rfl (Yl.len rfl rfl (by kernel_rfl)) ?_; clear HF; intro a HF
       refine ap HF (fun _ => HS) [5, 6, 7] #[true, true, true, true, true, true, true, true, false, false, false, false, false] [(95, .bool (((((tkRest (tkRest (tkRest (tkRest (tkRest l))))).length) - L : Nat) : Int) == (0 : Int))), (94, .bool (((((tkRest (tkRest (tkRest (tkRest (tkRest l))))).length) - L : Nat) : Int) == (0 : Int))), (93, .bool (((((tkRest (tkRest (tkRest (tkRest (tkRest l))))).length) - L : Nat) : Int) == (0 : Int)))] ?_; clear HF; intro a HF
       rcases Bool.eq_false_or_eq_true (((((tkRest (tkRest (tkRest (tkRest (tkRest l))))).length) - L : Nat) : Int) == (0 : Int)) with hb95 | hb95
       ·have HF := HF.on 95 hb95
        have hd95 := eq_of_beq hb95
        refine ay HF HS 8 rfl rfl rfl (v := .agg #[vB (1 : Nat), vB (tkVal 63 l), vI (tkVal 281474976710656 (tkRest l)), vI 0, .slice A58 es.length c58]) (Yl.loadS rfl rfl si_bk rfl (fun _ h => range_of_block (h.blk (i := 4) rfl))) ?_; clear HF; intro a HF
        refine any_all [9] (by kernel_rfl) rfl ?_
        refine all_cons ?_ all_nil
        refine any_op HF (i := 9) rfl rfl ?_
        refine e_call HF (vs := [.agg #[vB (1 : Nat), vB (tkVal 63 l), vI (tkVal 281474976710656 (tkRest l)), vI 0, .slice A58 es.length c58]]) rfl (by kernel_rfl) (by kernel_rfl) rfl (by decide) (fits_any ⟨1, tkVal 63 l, (tkVal 281474976710656 (tkRest l) : Int), 0, es⟩ (evsOk (by omega) (by omega) (fun e he => (rw5 e he).1)) A58 c58 B _ (hL.mem HM hB) (HM.le hB) (HM.rd (i := 0) rfl) (by show es.length ≤ _; omega)) ?_
        rintro _ w97 ⟨rfl, hbw⟩
        refine ⟨_, rfl, ?_⟩
        replace HM := HM.call hbw
        clear HF; intro a HF
        refine keepS (HM.picks [0, 1, 2, 3, 4] (by decide) rfl) (fun HS => ?_)
        refine ap HF (fun _ => HS) [10] #[true, true, true, true, true, true, true, true, true, true, true, false, false] [(98, .bool (Bk.fits ⟨1, tkVal 63 l, (tkVal 281474976710656 (tkRest l) : Int), 0, es⟩))] ?_; clear HF; intro a HF
        refine any_all [11] (by kernel_rfl) rfl ?_
        refine all_cons ?_ all_nil
        refine any_op HF (i := 11) rfl rfl ?_
        refine e_storeAll HF HM (i := 5) (cs := #[vB 0, vB 0, vI 0, vI 0, .slice none 0 0]) (ds := #[vB (1 : Nat), vB (tkVal 63 l), vI (tkVal 281474976710656 (tkRest l)), vI 0, .slice A58 es.length c58]) rfl rfl rfl rfl si_bk rfl rfl (by simp [Value.oneCell']) rfl ?_
        clear HM; intro w15_11 HM
        refine keepS (HM.picks [0, 1, 2, 3, 4] (by decide) rfl) (fun HS => ?_)
        refine ap HF (fun _ => HS) [12] #[true, true, true, true, true, true, true, true, true, true, true, true, true] [(5, .bool (Bk.fits ⟨1, tkVal 63 l, (tkVal 281474976710656 (tkRest l) : Int), 0, es⟩))] ?_; clear HF; intro a HF
        refine any_done (by kernel_rfl) ?_
        replace HF := HF.to [(5, .bool (Bk.fits ⟨1, tkVal 63 l, (tkVal 281474976710656 (tkRest l) : Int), 0, es⟩)), (81, .bool false), (11, .slice A58 es.length c58), (10, vP g10 0), (46, .bool true), (9, vI (tkVal 4096 (tkRest (tkRest l)))), (18, .bool false), (8, vP g8 0), (7, .func (.func 44) #[] #[vP g3 0, vP g6 0]), (6, vP g6 0), (4, vP g4 0), (3, vP g3 0), (0, vB (1 : Nat))]
        have HF := HF.as (t := 5) (u := .bool ((parseEvs l).isSome)) rfl (congrArg Value.bool (by rw [parseR1 h3 (by omega) hq her, rows_is ⟨hz.2.1, hz.2.2⟩, show (tkOk 281474976710656 (tkRest (tkRest (tkRest l))) && tkOk 281474976710656 (tkRest (tkRest (tkRest (tkRest l))))) = true by have h9 := hb90; rw [tk5 (l := l), tk3, h3, Bool.true_and] at h9; exact h9, decide_eq_true (by omega), Bool.true_and, Bool.true_and]))
        exact ⟨HF.sub (by kernel_rfl), HM.picks [0, 1, 2, 3, 4, 5] (by decide) rfl⟩
       ·have HF := HF.on 95 hb95
        have hd95 := ne_of_beq_false hb95
        refine ap HF (fun _ => HS) [8, 9, 10] #[true, true, true, true, true, true, true, true, true, true, true, false, false] [(98, .bool false), (97, undef), (96, undef)] ?_; clear HF; intro a HF
        refine any_all [11] (by kernel_rfl) rfl ?_
        refine all_cons ?_ all_nil
        refine any_op HF (i := 11) rfl rfl ?_
        refine e_storeAll HF HM (i := 5) (cs := #[vB 0, vB 0, vI 0, vI 0, .slice none 0 0]) (ds := #[vB (1 : Nat), vB (tkVal 63 l), vI (tkVal 281474976710656 (tkRest l)), vI 0, .slice A58 es.length c58]) rfl rfl rfl rfl si_bk rfl rfl (by simp [Value.oneCell']) rfl ?_
        clear HM; intro w15_11 HM
        refine keepS (HM.picks [0, 1, 2, 3, 4] (by decide) rfl) (fun HS => ?_)
        refine ap HF (fun _ => HS) [12] #[true, true, true, true, true, true, true, true, true, true, true, true, true] [(5, .bool false)] ?_; clear HF; intro a HF
        refine any_done (by kernel_rfl) ?_
        replace HF := HF.to [(5, .bool false), (81, .bool false), (11, .slice A58 es.length c58), (10, vP g10 0), (46, .bool true), (9, vI (tkVal 4096 (tkRest (tkRest l)))), (18, .bool false), (8, vP g8 0), (7, .func (.func 44) #[] #[vP g3 0, vP g6 0]), (6, vP g6 0), (4, vP g4 0), (3, vP g3 0), (0, vB (1 : Nat))]
        have HF := HF.as (t := 5) (u := .bool ((parseEvs l).isSome)) rfl (congrArg Value.bool (by rw [parseR1 h3 (by omega) hq her, rows_is ⟨hz.2.1, hz.2.2⟩, decide_eq_false (by omega), Bool.false_and, Bool.and_false]))
        exact ⟨HF.sub (by kernel_rfl), HM.picks [0, 1, 2, 3, 4, 5] (by decide) rfl⟩
      ·have HF := HF.on 90 hb90
       refine ap HF (fun _ => HS) [3, 4, 5, 6, 7, 8, 9, 10] #[true, true, true, true, true, true, true, true, true, true, true, false, false] [(98, .bool false), (97, undef), (96, undef), (95, .bool false), (94, .bool false), (93, undef), (92, undef), (91, undef)] ?_; clear HF; intro a HF
       refine any_all [11] (by kernel_rfl) rfl ?_
       refine all_cons ?_ all_nil
       refine any_op HF (i := 11) rfl rfl ?_
       refine e_storeAll HF HM (i := 5) (cs := #[vB 0, vB 0, vI 0, vI 0, .slice none 0 0]) (ds := #[vB (1 : Nat), vB (tkVal 63 l), vI (tkVal 281474976710656 (tkRest l)), vI 0, .slice A58 es.length c58]) rfl rfl rfl rfl si_bk rfl rfl (by simp [Value.oneCell']) rfl ?_
       clear HM; intro w15_11 HM
       refine keepS (HM.picks [0, 1, 2, 3, 4] (by decide) rfl) (fun HS => ?_)
       refine ap HF (fun _ => HS) [12] #[true, true, true, true, true, true, true, true, true, true, true, true, true] [(5, .bool false)] ?_; clear HF; intro a HF
       refine any_done (by kernel_rfl) ?_
       replace HF := HF.to [(5, .bool false), (81, .bool false), (11, .slice A58 es.length c58), (10, vP g10 0), (46, .bool true), (9, vI (tkVal 4096 (tkRest (tkRest l)))), (18, .bool false), (8, vP g8 0), (7, .func (.func 44) #[] #[vP g3 0, vP g6 0]), (6, vP g6 0), (4, vP g4 0), (3, vP g3 0), (0, vB (1 : Nat))]
       have HF := HF.as (t := 5) (u := .bool ((parseEvs l).isSome)) rfl (congrArg Value.bool (by rw [parseR1 h3 (by omega) hq her, rows_is ⟨hz.2.1, hz.2.2⟩, show (tkOk 281474976710656 (tkRest (tkRest (tkRest l))) && tkOk 281474976710656 (tkRest (tkRest (tkRest (tkRest l))))) = false by have h9 := hb90; rw [tk5 (l := l), tk3, h3, Bool.true_and] at h9; exact h9, Bool.false_and]))
       exact ⟨HF.sub (by kernel_rfl), HM.picks [0, 1, 2, 3, 4, 5] (by decide) rfl⟩
     clear HF HM; rintro a w15 ⟨HF, HM⟩
     refine wp_ret ?_
     rcases Bool.eq_false_or_eq_true ((parseEvs l).isSome) with hb5 | hb5
     ·have HF := HF.on 5 hb5
      have hfin := hb5
      exact ret2 rfl HF (.cellS (i := 5) HF HM rfl rfl si_bk rfl) (.tmp HF rfl) (parseIs_some (b := ⟨1, tkVal 63 l, (tkVal 281474976710656 (tkRest l) : Int), 0, es⟩) (A := A58) (c := c58) (by rw [parseR_evs]; rw [parseR1 h3 (by omega) hq her] at hfin ⊢; exact rows_val hfin) (HM.own (i := 0) rfl) hc58 HM.below)
     ·have HF := HF.on 5 hb5
      have hfin := hb5
      exact ret2 rfl HF (.cellS (i := 5) HF HM rfl rfl si_bk rfl) (.tmp HF rfl) (parseIs_none (by rw [parseR_evs]; exact Option.not_isSome_iff_eq_none.1 (by rw [hfin]; decide)) rfl (by simp [Value.oneCell']) HM.below)
   ·have HF := HF.on 46 hb46
    have hd46 := of_decide_eq_false hb46
    refine cond_false HF rfl (wp_skip ?_)
    refine cut_seq (fun aS wS => Fr aS 99 [] [(5, .bool ((parseEvs l).isSome)), (46, .bool false), (9, vI (tkVal 4096 (tkRest (tkRest l)))), (18, .bool false), (8, vP g8 0), (7, .func (.func 44) #[] #[vP g3 0, vP g6 0]), (6, vP g6 0), (4, vP g4 0), (3, vP g3 0), (0, vB (1 : Nat))] ∧ Mem w wS [.blk g3 #[.slice Aq3 ((tkRest (tkRest (tkRest l))).length) cq3] 22, .blk g6 #[.bool (((true && tkOk 63 l) && tkOk 281474976710656 (tkRest l)) && tkOk 4096 (tkRest (tkRest l)))] 4, .blk g8 #[vB (1 : Nat), vB (tkVal 63 l), vI (tkVal 281474976710656 (tkRest l)), vI 0, .slice none 0 0] 27, .blk g4 #[vB (1 : Nat), vB (tkVal 63 l), vI (tkVal 281474976710656 (tkRest l)), vI 0, .slice none 0 0] 27]) ?_ ?_
    ·
     refine any_start (by kernel_rfl) (fun wS => Mem w wS [.blk g3 #[.slice Aq3 ((tkRest (tkRest (tkRest l))).length) cq3] 22, .blk g6 #[.bool (((true && tkOk 63 l) && tkOk 281474976710656 (tkRest l)) && tkOk 4096 (tkRest (tkRest l)))] 4, .blk g8 #[vB (1 : Nat), vB (tkVal 63 l), vI (tkVal 281474976710656 (tkRest l)), vI 0, .slice none 0 0] 27]) [] ?_
     replace HM := HM.drew
     have HS := HM.picks (fs' := [.blk g3 #[.slice Aq3 ((tkRest (tkRest (tkRest l))).length) cq3] 22, .blk g6 #[.bool (((true && tkOk 63 l) && tkOk 281474976710656 (tkRest l)) && tkOk 4096 (tkRest (tkRest l)))] 4, .blk g8 #[vB (1 : Nat), vB (tkVal 63 l), vI (tkVal 281474976710656 (tkRest l)), vI 0, .slice none 0 0] 27]) [0, 1, 2] (by decide) rfl
     refine ay HF HS 0 rfl rfl rfl (v := .agg #[vB (1 : Nat), vB (tkVal 63 l), vI (tkVal 281474976710656 (tkRest l)), vI 0, .slice none 0 0]) (Yl.loadS rfl rfl si_bk rfl (fun _ h => range_of_block (h.blk (i := 2) rfl))) ?_; clear HF; intro a HF
     refine ay HF HS 1 rfl rfl rfl (Yl.load1 rfl rfl (by kernel_rfl) (fun _ h => h.cell (i := 1) rfl rfl)) ?_; clear HF; intro a HF
     refine ap HF (fun _ => HS) [2] #[true, true, true, false, false, false, false, false, false, false, false, false, false] [(90, .bool (((true && tkOk 63 l) && tkOk 281474976710656 (tkRest l)) && tkOk 4096 (tkRest (tkRest l))))] ?_; clear HF; intro a HF
     rcases Bool.eq_false_or_eq_true ((((true && tkOk 63 l) && tkOk 281474976710656 (tkRest l)) && tkOk 4096 (tkRest (tkRest l)))) with hb90 | hb90
     ·have HF := HF.on 90 hb90
      refine ay HF HS 3 rfl rfl rfl (Yl.load1 rfl rfl (by kernel_rfl) (fun _ h => h.cell (i := 0) rfl rfl)) ?_; clear HF; intro a HF
      refine ay HF HS 4 rfl rfl rfl (Yl.len rfl rfl (by kernel_rfl)) ?_; clear HF; intro a HF
      refine ap HF (fun _ => HS) [5, 6, 7] #[true, true, true, true, true, true, true, true, false, false, false, false, false] [(95, .bool ((((tkRest (tkRest (tkRest l))).length : Nat) : Int) == (0 : Int))), (94, .bool ((((tkRest (tkRest (tkRest l))).length : Nat) : Int) == (0 : Int))), (93, .bool ((((tkRest (tkRest (tkRest l))).length : Nat) : Int) == (0 : Int)))] ?_; clear HF; intro a HF
      rcases Bool.eq_false_or_eq_true ((((tkRest (tkRest (tkRest l))).length : Nat) : Int) == (0 : Int)) with hb95 | hb95
      ·have HF := HF.on 95 hb95
       have hd95 := eq_of_beq hb95
       refine ay HF HS 8 rfl rfl rfl (v := .agg #[vB (1 : Nat), vB (tkVal 63 l), vI (tkVal 281474976710656 (tkRest l)), vI 0, .slice none 0 0]) (Yl.loadS rfl rfl si_bk rfl (fun _ h => range_of_block (h.blk (i := 2) rfl))) ?_; clear HF; intro a HF
       refine any_all [9] (by kernel_rfl) rfl ?_
       refine all_cons ?_ all_nil
       refine any_op HF (i := 9) rfl rfl ?_
       refine e_call HF (vs := [.agg #[vB (1 : Nat), vB (tkVal 63 l), vI (tkVal 281474976710656 (tkRest l)), vI 0, .slice none 0 0]]) rfl (by kernel_rfl) (by kernel_rfl) rfl (by decide) (fits_any ⟨1, tkVal 63 l, (tkVal 281474976710656 (tkRest l) : Int), 0, []⟩ (evsOk (by omega) (by omega) (by simp)) none 0 B _ (hL.mem HM hB) (HM.le hB) Rd.nil (by show 0 ≤ _; omega)) ?_
       rintro _ w97 ⟨rfl, hbw⟩
       refine ⟨_, rfl, ?_⟩
       replace HM := HM.call hbw
       clear HF; intro a HF
       refine keepS (HM.picks [0, 1, 2] (by decide) rfl) (fun HS => ?_)
       refine ap HF (fun _ => HS) [10] #[true, true, true, true, true, true, true, true, true, true, true, false, false] [(98, .bool (Bk.fits ⟨1, tkVal 63 l, (tkVal 281474976710656 (tkRest l) : Int), 0, []⟩))] ?_; clear HF; intro a HF
       refine any_all [11] (by kernel_rfl) rfl ?_
       refine all_cons ?_ all_nil
       refine any_op HF (i := 11) rfl rfl ?_
       refine e_storeAll HF HM (i := 3) (cs := #[vB 0, vB 0, vI 0, vI 0, .slice none 0 0]) (ds := #[vB (1 : Nat), vB (tkVal 63 l), vI (tkVal 281474976710656 (tkRest l)), vI 0, .slice none 0 0]) rfl rfl rfl rfl si_bk rfl rfl (by simp [Value.oneCell']) rfl ?_
       clear HM; intro w15_11 HM
       refine keepS (HM.picks [0, 1, 2] (by decide) rfl) (fun HS => ?_)
       refine ap HF (fun _ => HS) [12] #[true, true, true, true, true, true, true, true, true, true, true, true, true] [(5, .bool (Bk.fits ⟨1, tkVal 63 l, (tkVal 281474976710656 (tkRest l) : Int), 0, []⟩))] ?_; clear HF; intro a HF
       refine any_done (by kernel_rfl) ?_
       have HF := HF.as (t := 5) (u := .bool ((parseEvs l).isSome)) rfl (congrArg Value.bool (by rw [few_is (l := l) (fun hh => by have h0 := hh.2; omega), h3, decide_eq_true (by omega), Bool.true_and, Bool.true_and]))
       exact ⟨HF.sub (by kernel_rfl), HM.picks [0, 1, 2, 3] (by decide) rfl⟩
      ·have HF := HF.on 95 hb95
       have hd95 := ne_of_beq_false hb95
       refine ap HF (fun _ => HS) [8, 9, 10] #[true, true, true, true, true, true, true, true, true, true, true, false, false] [(98, .bool false), (97, undef), (96, undef)] ?_; clear HF; intro a HF
       refine any_all [11] (by kernel_rfl) rfl ?_
       refine all_cons ?_ all_nil
       refine any_op HF (i := 11) rfl rfl ?_
       refine e_storeAll HF HM (i := 3) (cs := #[vB 0, vB 0, vI 0, vI 0, .slice none 0 0]) (ds := #[vB (1 : Nat), vB (tkVal 63 l), vI (tkVal 281474976710656 (tkRest l)), vI 0, .slice none 0 0]) rfl rfl rfl rfl si_bk rfl rfl (by simp [Value.oneCell']) rfl ?_
       clear HM; intro w15_11 HM
       refine keepS (HM.picks [0, 1, 2] (by decide) rfl) (fun HS => ?_)
       refine ap HF (fun _ => HS) [12] #[true, true, true, true, true, true, true, true, true, true, true, true, true] [(5, .bool false)] ?_; clear HF; intro a HF
       refine any_done (by kernel_rfl) ?_
       have HF := HF.as (t := 5) (u := .bool ((parseEvs l).isSome)) rfl (congrArg Value.bool (by rw [few_is (l := l) (fun hh => by have h0 := hh.2; omega), decide_eq_false (by omega), Bool.false_and, Bool.and_false]))
       exact ⟨HF.sub (by kernel_rfl), HM.picks [0, 1, 2, 3] (by decide) rfl⟩
     ·have HF := HF.on 90 hb90
      refine ap HF (fun _ => HS) [3, 4, 5, 6, 7, 8, 9, 10] #[true, true, true, true, true, true, true, true, true, true, true, false, false] [(98, .bool false), (97, undef), (96, undef), (95, .bool false), (94, .bool false), (93, undef), (92, undef), (91, undef)] ?_; clear HF; intro a HF
      refine any_all [11] (by kernel_rfl) rfl ?_
      refine all_cons ?_ all_nil
      refine any_op HF (i := 11) rfl rfl ?_
      refine e_storeAll HF HM (i := 3) (cs := #[vB 0, vB 0, vI 0, vI 0, .slice none 0 0]) (ds := #[vB (1 : Nat), vB (tkVal 63 l), vI (tkVal 281474976710656 (tkRest l)), vI 0, .slice none 0 0]) rfl rfl rfl rfl si_bk rfl rfl (by simp [Value.oneCell']) rfl ?_
      clear HM; intro w15_11 HM
      refine keepS (HM.picks [0, 1, 2] (by decide) rfl) (fun HS => ?_)
      refine ap HF (fun _ => HS) [12] #[true, true, true, true, true, true, true, true, true, true, true, true, true] [(5, .bool false)] ?_; clear HF; intro a HF
      refine any_done (by kernel_rfl) ?_
      have HF := HF.as (t := 5) (u := .bool ((parseEvs l).isSome)) rfl (congrArg Value.bool (by have h9 := hb90; rw [tk3] at h9; rw [few_is (l := l) (fun hh => by have h0 := hh.2; omega), h9, Bool.false_and]))
      exact ⟨HF.sub (by kernel_rfl), HM.picks [0, 1, 2, 3] (by decide) rfl⟩
    clear HF HM; rintro a w15 ⟨HF, HM⟩
    refine wp_ret ?_
    rcases Bool.eq_false_or_eq_true ((parseEvs l).isSome) with hb5 | hb5
    ·have HF := HF.on 5 hb5
     have hfin := hb5
     exact ret2 rfl HF (.cellS (i := 3) HF HM rfl rfl si_bk rfl) (.tmp HF rfl) (parseIs_some (b := ⟨1, tkVal 63 l, (tkVal 281474976710656 (tkRest l) : Int), 0, []⟩) (A := none) (c := 0) (by rw [parseR_evs]; exact few_val (fun hh => by have h0 := hh.2; omega) hfin) (World.ownsRow_nil _ _ _ _) (Nat.le_refl _) HM.below)
    ·have HF := HF.on 5 hb5
     have hfin := hb5
     exact ret2 rfl HF (.cellS (i := 3) HF HM rfl rfl si_bk rfl) (.tmp HF rfl) (parseIs_none (by rw [parseR_evs]; exact Option.not_isSome_iff_eq_none.1 (by rw [hfin]; decide)) rfl (by simp [Value.oneCell']) HM.below)
  ·have HF := HF.on 43 hb43
   have h3 : parse3 l = false := by rw [← tk3]; exact hb43
   refine fp HF 3 2 [(46, .bool false), (45, undef), (44, undef)] ?_; clear HF; intro a HF
   refine from_done rfl ?_
   replace HF := HF.to [(46, .bool false), (9, vI (tkVal 4096 (tkRest (tkRest l)))), (18, .bool false), (8, vP g8 0), (7, .func (.func 44) #[] #[vP g3 0, vP g6 0]), (6, vP g6 0), (5, .bool false), (4, vP g4 0), (3, vP g3 0), (0, vB (1 : Nat))]
   refine cond_false HF rfl (wp_skip ?_)
   refine cut_seq (fun aS wS => Fr aS 99 [] [(5, .bool ((parseEvs l).isSome)), (46, .bool false), (9, vI (tkVal 4096 (tkRest (tkRest l)))), (18, .bool false), (8, vP g8 0), (7, .func (.func 44) #[] #[vP g3 0, vP g6 0]), (6, vP g6 0), (4, vP g4 0), (3, vP g3 0), (0, vB (1 : Nat))] ∧ Mem w wS [.blk g3 #[.slice Aq3 ((tkRest (tkRest (tkRest l))).length) cq3] 22, .blk g6 #[.bool (((true && tkOk 63 l) && tkOk 281474976710656 (tkRest l)) && tkOk 4096 (tkRest (tkRest l)))] 4, .blk g8 #[vB (1 : Nat), vB (tkVal 63 l), vI (tkVal 281474976710656 (tkRest l)), vI 0, .slice none 0 0] 27, .blk g4 #[vB (1 : Nat), vB (tkVal 63 l), vI (tkVal 281474976710656 (tkRest l)), vI 0, .slice none 0 0] 27]) ?_ ?_
   ·
    refine any_start (by kernel_rfl) (fun wS => Mem w wS [.blk g3 #[.slice Aq3 ((tkRest (tkRest (tkRest l))).length) cq3] 22, .blk g6 #[.bool (((true && tkOk 63 l) && tkOk 281474976710656 (tkRest l)) && tkOk 4096 (tkRest (tkRest l)))] 4, .blk g8 #[vB (1 : Nat), vB (tkVal 63 l), vI (tkVal 281474976710656 (tkRest l)), vI 0, .slice none 0 0] 27]) [] ?_
    replace HM := HM.drew
    have HS := HM.picks (fs' := [.blk g3 #[.slice Aq3 ((tkRest (tkRest (tkRest l))).length) cq3] 22, .blk g6 #[.bool (((true && tkOk 63 l) && tkOk 281474976710656 (tkRest l)) && tkOk 4096 (tkRest (tkRest l)))] 4, .blk g8 #[vB (1 : Nat), vB (tkVal 63 l), vI (tkVal 281474976710656 (tkRest l)), vI 0, .slice none 0 0] 27]) [0, 1, 2] (by decide) rfl
    refine ay HF HS 0 rfl rfl rfl (v := .agg #[vB (1 : Nat), vB (tkVal 63 l), vI (tkVal 281474976710656 (tkRest l)), vI 0, .slice none 0 0]) (Yl.loadS rfl rfl si_bk rfl (fun _ h => range_of_block (h.blk (i := 2) rfl))) ?_; clear HF; intro a HF
    refine ay HF HS 1 rfl rfl rfl (Yl.load1 rfl rfl (by kernel_rfl) (fun _ h => h.cell (i := 1) rfl rfl)) ?_; clear HF; intro a HF
    refine ap HF (fun _ => HS) [2] #[true, true, true, false, false, false, false, false, false, false, false, false, false] [(90, .bool (((true && tkOk 63 l) && tkOk 281474976710656 (tkRest l)) && tkOk 4096 (tkRest (tkRest l))))] ?_; clear HF; intro a HF
    rcases Bool.eq_false_or_eq_true ((((true && tkOk 63 l) && tkOk 281474976710656 (tkRest l)) && tkOk 4096 (tkRest (tkRest l)))) with hb90 | hb90
    ·have HF := HF.on 90 hb90
     refine ay HF HS 3 rfl rfl rfl (Yl.load1 rfl rfl (by kernel_rfl) (fun _ h => h.cell (i := 0) rfl rfl)) ?_; clear HF; intro a HF
     refine ay HF HS 4 rfl rfl rfl (Yl.len rfl rfl (by kernel_rfl)) ?_; clear HF; intro a HF
     refine ap HF (fun _ => HS) [5, 6, 7] #[true, true, true, true, true, true, true, true, false, false, false, false, false] [(95, .bool ((((tkRest (tkRest (tkRest l))).length : Nat) : Int) == (0 : Int))), (94, .bool ((((tkRest (tkRest (tkRest l))).length : Nat) : Int) == (0 : Int))), (93, .bool ((((tkRest (tkRest (tkRest l))).length : Nat) : Int) == (0 : Int)))] ?_; clear HF; intro a HF
     rcases Bool.eq_false_or_eq_true ((((tkRest (tkRest (tkRest l))).length : Nat) : Int) == (0 : Int)) with hb95 | hb95
     ·have HF := HF.on 95 hb95
      have hd95 := eq_of_beq hb95
      refine ay HF HS 8 rfl rfl rfl (v := .agg #[vB (1 : Nat), vB (tkVal 63 l), vI (tkVal 281474976710656 (tkRest l)), vI 0, .slice none 0 0]) (Yl.loadS rfl rfl si_bk rfl (fun _ h => range_of_block (h.blk (i := 2) rfl))) ?_; clear HF; intro a HF
      refine any_all [9] (by kernel_rfl) rfl ?_
      refine all_cons ?_ all_nil
      refine any_op HF (i := 9) rfl rfl ?_
      refine e_call HF (vs := [.agg #[vB (1 : Nat), vB (tkVal 63 l), vI (tkVal 281474976710656 (tkRest l)), vI 0, .slice none 0 0]]) rfl (by kernel_rfl) (by kernel_rfl) rfl (by decide) (fits_any ⟨1, tkVal 63 l, (tkVal 281474976710656 (tkRest l) : Int), 0, []⟩ (evsOk (by omega) (by omega) (by simp)) none 0 B _ (hL.mem HM hB) (HM.le hB) Rd.nil (by show 0 ≤ _; omega)) ?_
      rintro _ w97 ⟨rfl, hbw⟩
      refine ⟨_, rfl, ?_⟩
      replace HM := HM.call hbw
      clear HF; intro a HF
      refine keepS (HM.picks [0, 1, 2] (by decide) rfl) (fun HS => ?_)
      refine ap HF (fun _ => HS) [10] #[true, true, true, true, true, true, true, true, true, true, true, false, false] [(98, .bool (Bk.fits ⟨1, tkVal 63 l, (tkVal 281474976710656 (tkRest l) : Int), 0, []⟩))] ?_; clear HF; intro a HF
      refine any_all [11] (by kernel_rfl) rfl ?_
      refine all_cons ?_ all_nil
      refine any_op HF (i := 11) rfl rfl ?_
      refine e_storeAll HF HM (i := 3) (cs := #[vB 0, vB 0, vI 0, vI 0, .slice none 0 0]) (ds := #[vB (1 : Nat), vB (tkVal 63 l), vI (tkVal 281474976710656 (tkRest l)), vI 0, .slice none 0 0]) rfl rfl rfl rfl si_bk rfl rfl (by simp [Value.oneCell']) rfl ?_
      clear HM; intro w15_11 HM
      refine keepS (HM.picks [0, 1, 2] (by decide) rfl) (fun HS => ?_)
      refine ap HF (fun _ => HS) [12] #[true, true, true, true, true, true, true, true, true, true, true, true, true] [(5, .bool (Bk.fits ⟨1, tkVal 63 l, (tkVal 281474976710656 (tkRest l) : Int), 0, []⟩))] ?_; clear HF; intro a HF
      refine any_done (by kernel_rfl) ?_
      have HF := HF.as (t := 5) (u := .bool ((parseEvs l).isSome)) rfl (congrArg Value.bool (by have h9 := hb90; rw [tk3, h3] at h9; cases h9))
      exact ⟨HF.sub (by kernel_rfl), HM.picks [0, 1, 2, 3] (by decide) rfl⟩
     ·have HF := HF.on 95 hb95
      have hd95 := ne_of_beq_false hb95
      refine ap HF (fun _ => HS) [8, 9, 10] #[true, true, true, true, true, true, true, true, true, true, true, false, false] [(98, .bool false), (97, undef), (96, undef)] ?_; clear HF; intro a HF
      refine any_all [11] (by kernel_rfl) rfl ?_
      refine all_cons ?_ all_nil
      refine any_op HF (i := 11) rfl rfl ?_
      refine e_storeAll HF HM (i := 3) (cs := #[vB 0, vB 0, vI 0, vI 0, .slice none 0 0]) (ds := #[vB (1 : Nat), vB (tkVal 63 l), vI (tkVal 281474976710656 (tkRest l)), vI 0, .slice none 0 0]) rfl rfl rfl rfl si_bk rfl rfl (by simp [Value.oneCell']) rfl ?_
      clear HM; intro w15_11 HM
      refine keepS (HM.picks [0, 1, 2] (by decide) rfl) (fun HS => ?_)
      refine ap HF (fun _ => HS) [12] #[true, true, true, true, true, true, true, true, true, true, true, true, true] [(5, .bool false)] ?_; clear HF; intro a HF
      refine any_done (by kernel_rfl) ?_
      have HF := HF.as (t := 5) (u := .bool ((parseEvs l).isSome)) rfl (congrArg Value.bool (by have h9 := hb90; rw [tk3, h3] at h9; cases h9))
      exact ⟨HF.sub (by kernel_rfl), HM.picks [0, 1, 2, 3] (by decide) rfl⟩
    ·have HF := HF.on 90 hb90
     refine ap HF (fun _ => HS) [3, 4, 5, 6, 7, 8, 9, 10] #[true, true, true, true, true, true, true, true, true, true, true, false, false] [(98, .bool false), (97, undef), (96, undef), (95, .bool false), (94, .bool false), (93, undef), (92, undef), (91, undef)] ?_; clear HF; intro a HF
     refine any_all [11] (by kernel_rfl) rfl ?_
     refine all_cons ?_ all_nil
     refine any_op HF (i := 11) rfl rfl ?_
     refine e_storeAll HF HM (i := 3) (cs := #[vB 0, vB 0, vI 0, vI 0, .slice none 0 0]) (ds := #[vB (1 : Nat), vB (tkVal 63 l), vI (tkVal 281474976710656 (tkRest l)), vI 0, .slice none 0 0]) rfl rfl rfl rfl si_bk rfl rfl (by simp [Value.oneCell']) rfl ?_
     clear HM; intro w15_11 HM
     refine keepS (HM.picks [0, 1, 2] (by decide) rfl) (fun HS => ?_)
     refine ap HF (fun _ => HS) [12] #[true, true, true, true, true, true, true, true, true, true, true, true, true] [(5, .bool false)] ?_; clear HF; intro a HF
     refine any_done (by kernel_rfl) ?_
     have HF := HF.as (t := 5) (u := .bool ((parseEvs l).isSome)) rfl (congrArg Value.bool (by have h9 := hb90; rw [tk3] at h9; rw [few_is (l := l) (fun hh => by rw [h3] at hh; cases hh.1), h9, Bool.false_and]))
     exact ⟨HF.sub (by kernel_rfl), HM.picks [0, 1, 2, 3] (by decide) rfl⟩
   clear HF HM; rintro a w15 ⟨HF, HM⟩
   refine wp_ret ?_
   rcases Bool.eq_false_or_eq_true ((parseEvs l).isSome) with hb5 | hb5
   ·have HF := HF.on 5 hb5
    have hfin := hb5
    exact ret2 rfl HF (.cellS (i := 3) HF HM rfl rfl si_bk rfl) (.tmp HF rfl) (parseIs_some (b := ⟨1, tkVal 63 l, (tkVal 281474976710656 (tkRest l) : Int), 0, []⟩) (A := none) (c := 0) (by rw [parseR_evs]; exact few_val (fun hh => by rw [h3] at hh; cases hh.1) hfin) (World.ownsRow_nil _ _ _ _) (Nat.le_refl _) HM.below)
   ·have HF := HF.on 5 hb5
    have hfin := hb5
    exact ret2 rfl HF (.cellS (i := 3) HF HM rfl rfl si_bk rfl) (.tmp HF rfl) (parseIs_none (by rw [parseR_evs]; exact Option.not_isSome_iff_eq_none.1 (by rw [hfin]; decide)) rfl (by simp [Value.oneCell']) HM.below)
end Go.Proofs.YtnakabnmjnfpcaaDoor

set_option linter.all false
namespace Go.Proofs.YtnakabnmjnfpcaaDoor
open Go.RowKit
set_option maxRecDepth 100000 in
set_option maxHeartbeats 4000000 in
theorem bread_any (A : Option Addr) (n cp : Nat) (l : List Nat) (B : Nat) (w : World) (hL : LaidX B w) (hB : B ≤ w.heap.size) (hr : Rd w w.heap.size 1 A n (l.map B8)) (hc : n ≤ cp) (hln : l.length = n) (hn : n ≤ 9223372036854775807) (hl : ∀ b ∈ l, b < 256) :
    Calls Tryd.prog 11 #[.slice A n cp] w (BReadIs 46 w (readB l)) := by
 refine calls_enter (vs := [.slice A n cp]) Tryd.func11 rfl rfl (by kernel_rfl) (σ0 := [(0, .slice A n cp)]) rfl ?_
 intro a HF
 have HM := Mem.start w
 refine wp_seq (from_start ?_)
 refine from_op HF (i := 0) rfl rfl ?_
 refine e_alloc HF HM (cs := #[vB 0, vB 0, vI 0, vI 0, .slice none 0 0]) rfl (by kernel_rfl) rfl (by decide) ?_
 clear HF HM; intro a w2 g2 HF HM
 refine fp HF 2 1 [(4, vI 0), (3, vI 0)] ?_; clear HF; intro a HF
 refine from_done rfl ?_
 refine wp_seq (from_start ?_)
 refine fp HF 1 0 [(10, .slice A n cp)] ?_; clear HF; intro a HF
 refine from_op HF (i := 1) rfl rfl ?_
 refine e_call HF (vs := [.slice A n cp]) rfl (by kernel_rfl) (by kernel_rfl) rfl (by decide) (length_any A n cp l _ (HM.old hr) hln hn hl) ?_
 rintro _ w11 ⟨rfl, hbw⟩
 refine ⟨_, rfl, ?_⟩
 replace HM := HM.call hbw
 clear HF; intro a HF
 refine fp HF 5 2 [(6, vI ((lenR l).2)), (5, vI ((lenR l).1)), (13, vI ((lenR l).2)), (12, vI ((lenR l).1)), (9, .tuple #[vI ((lenR l).1), vI ((lenR l).2)])] ?_; clear HF; intro a HF
 refine from_done rfl ?_
 refine wp_seq (wp_seq (from_start ?_))
 refine fp HF 2 0 [(15, .bool (((lenR l).2 : Int) != (0 : Int))), (14, vI ((lenR l).2))] ?_; clear HF; intro a HF
 refine from_done rfl ?_
 rcases Bool.eq_false_or_eq_true (((lenR l).2 : Int) != (0 : Int)) with hb15 | hb15
 ·have HF := HF.on 15 hb15
  have hd15 := bne_iff_ne.1 hb15
  refine cond_true HF rfl (wp_seq (from_start ?_))
  refine fy HF HM 0 rfl rfl rfl (v := .agg #[vB 0, vB 0, vI 0, vI 0, .slice none 0 0]) (Yl.build (vs := []) rfl (by kernel_rfl) (by kernel_rfl)) ?_; clear HF; intro a HF
  refine fp HF 1 1 [(17, vI ((lenR l).2))] ?_; clear HF; intro a HF
  refine from_op HF (i := 2) rfl rfl ?_
  refine e_storeAll HF HM (i := 0) (cs := #[vB 0, vB 0, vI 0, vI 0, .slice none 0 0]) (ds := #[vB 0, vB 0, vI 0, vI 0, .slice none 0 0]) rfl rfl rfl rfl si_bk rfl rfl (by simp [Value.oneCell']) rfl ?_
  clear HM; intro w3_2 HM
  refine fp HF 2 3 [(4, vI ((lenR l).2)), (3, vI 0)] ?_; clear HF; intro a HF
  refine from_done rfl ?_
  refine wp_ret ?_
  exact ret3 rfl HF (.cellS (i := 0) HF HM rfl rfl si_bk rfl) (.tmp HF rfl) (.tmp HF rfl) (breadIs_bad (readB_len (by omega)) HM.below)
 ·have HF := HF.on 15 hb15
  have hd15 := bne_eq_false_iff_eq.1 hb15
  have hl0 : (lenR l).2 = 0 := by omega
  obtain ⟨v1, v2, v3, v4⟩ := lenR_ok hl0
  obtain ⟨Lb, hLb⟩ : ∃ x, x = l.take (lenR l).1 := ⟨_, rfl⟩
  have hrL : Rd w w.heap.size 1 A (lenR l).1 (Lb.map B8) := by rw [hLb]; exact hr.toB8 (by omega)
  have hlL : ∀ b ∈ Lb, b < 256 := by rw [hLb]; exact take_lt hl _
  have hnL : Lb.length = (lenR l).1 := by rw [hLb, List.length_take]; omega
  refine cond_false HF rfl (wp_skip (wp_seq (from_start ?_)))
  refine fp HF 2 0 [(19, vI ((lenR l).1)), (18, .slice A n cp)] ?_; clear HF; intro a HF
  refine fy HF HM 2 rfl rfl rfl (v := .slice A ((lenR l).1) cp) (Yl.sliceUpto ei_u8 (j := (lenR l).1) rfl rfl rfl (by omega)) ?_; clear HF; intro a HF
  refine fp HF 1 3 [(0, .slice A ((lenR l).1) cp)] ?_; clear HF; intro a HF
  refine from_done rfl ?_
  obtain ⟨gA, oA, rfl, _⟩ := hrL.some_at (Nat.lt_of_le_of_lt (Nat.zero_le _) (show 0 < (lenR l).1 from by omega)) (by decide)
  refine wp_seq (wp_block (wp_seq (from_start ?_)))
  refine fp HF 1 0 [(22, .slice (some ⟨gA, oA, none⟩) ((lenR l).1) cp)] ?_; clear HF; intro a HF
  refine from_op HF (i := 1) rfl rfl ?_
  refine e_call HF (vs := [.slice (some ⟨gA, oA, none⟩) ((lenR l).1) cp]) rfl (by kernel_rfl) (by kernel_rfl) rfl (by decide) (sealed_any _ (lenR l).1 cp Lb B _ (hL.mem HM hB) (HM.le hB) (HM.old hrL) (by omega) hnL (by omega) hlL) ?_
  rintro _ w23 ⟨rfl, hbw⟩
  refine ⟨_, rfl, ?_⟩
  replace HM := HM.call hbw
  clear HF; intro a HF
  refine fp HF 2 2 [(21, .bool (!(sealedR Lb))), (24, .bool (!(sealedR Lb)))] ?_; clear HF; intro a HF
  refine from_done rfl ?_
  rcases Bool.eq_false_or_eq_true (!(sealedR Lb)) with hb21 | hb21
  ·have HF := HF.on 21 hb21
   have hs : sealedR Lb = false := by simpa using hb21
   refine cond_true HF rfl (wp_seq (from_start ?_))
   refine fy HF HM 0 rfl rfl rfl (v := .agg #[vB 0, vB 0, vI 0, vI 0, .slice none 0 0]) (Yl.build (vs := []) rfl (by kernel_rfl) (by kernel_rfl)) ?_; clear HF; intro a HF
   refine from_op HF (i := 1) rfl rfl ?_
   refine e_storeAll HF HM (i := 0) (cs := #[vB 0, vB 0, vI 0, vI 0, .slice none 0 0]) (ds := #[vB 0, vB 0, vI 0, vI 0, .slice none 0 0]) rfl rfl rfl rfl si_bk rfl rfl (by simp [Value.oneCell']) rfl ?_
   clear HM; intro w6_1 HM
   refine fp HF 2 2 [(4, vI 102), (3, vI 0)] ?_; clear HF; intro a HF
   refine from_done rfl ?_
   replace HF := HF.to [(4, vI 102), (3, vI 0), (21, .bool true), (0, .slice (some ⟨gA, oA, none⟩) ((lenR l).1) cp), (15, .bool false), (6, vI ((lenR l).2)), (5, vI ((lenR l).1)), (2, vP g2 0)]
   refine wp_ret ?_
   exact ret3 rfl HF (.cellS (i := 0) HF HM rfl rfl si_bk rfl) (.tmp HF rfl) (.tmp HF rfl) (breadIs_bad (readB_none hl0 hLb (by unfold blkOf; rw [if_pos hs])) HM.below)
  ·have HF := HF.on 21 hb21
   have hs : sealedR Lb = true := by simpa using hb21
   refine cond_false HF rfl (wp_seq ?_)
   refine any_start (by kernel_rfl) (fun wS => Mem w wS [.blk g2 #[vB 0, vB 0, vI 0, vI 0, .slice none 0 0] 27]) [] ?_
   replace HM := HM.drew
   have HS := HM.picks (fs' := [.blk g2 #[vB 0, vB 0, vI 0, vI 0, .slice none 0 0] 27]) [0] (by decide) rfl
   refine ap HF (fun _ => HS) [0] #[true, false, false, false, false, false, false] [(27, .slice (some ⟨gA, oA, none⟩) ((lenR l).1) cp)] ?_; clear HF; intro a HF
   refine ay HF HS 1 rfl rfl rfl (v := .slice (if cp = 4 then some ⟨gA, oA, none⟩ else (some ⟨gA, oA, none⟩ : Option Addr).map (·.add (4 * 1))) (6 - 4) (cp - 4)) (Yl.slice2 ei_u8 (i := 4) (j := 6) rfl rfl rfl rfl (by omega) (by omega)) ?_; clear HF; intro a HF
   replace HF := HF.as (t := 28) (u := .slice (some ⟨gA, oA + 4, none⟩) (6 - 4) (cp - 4)) rfl (by simp only [if_neg (show ¬ cp = 4 by omega), Option.map_some, Addr.add_mid, Nat.mul_one])
   refine ay HF HS 2 rfl rfl rfl (v := vP gA (oA + 4)) (Yl.arrayAt (k := 2) rfl rfl (by kernel_rfl) (by omega)) ?_; clear HF; intro a HF
   refine ay HF HS 3 rfl rfl rfl (v := .agg #[vB (Lb.getD 4 0), vB (Lb.getD 5 0)]) (Yl.loadS rfl rfl si_a2 rfl (fun _ h => arr2At (k := 4) (l := Lb) (h.old hrL) (by omega))) ?_; clear HF; intro a HF
   refine ay HF HS 4 rfl rfl rfl (v := .agg #[vB 113, vB 116]) (Yl.loadS rfl rfl si_a2 rfl (fun _ h => magicAll hL h hB)) ?_; clear HF; intro a HF
   refine ay HF HS 5 rfl rfl rfl (v := .bool (!(((Lb.getD 4 0 : Int) == (113 : Int)) && ((Lb.getD 5 0 : Int) == (116 : Int))))) (Yl.neqArr2 rfl rfl rfl (by kernel_rfl) (by kernel_rfl)) ?_; clear HF; intro a HF
   refine ap HF (fun _ => HS) [6] #[true, true, true, true, true, true, true] [(26, .bool (!(((Lb.getD 4 0 : Int) == (113 : Int)) && ((Lb.getD 5 0 : Int) == (116 : Int)))))] ?_; clear HF; intro a HF
   refine any_done (by kernel_rfl) ?_
   replace HF := HF.to [(26, .bool (!(((Lb.getD 4 0 : Int) == (113 : Int)) && ((Lb.getD 5 0 : Int) == (116 : Int))))), (21, .bool false), (0, .slice (some ⟨gA, oA, none⟩) ((lenR l).1) cp), (15, .bool false), (6, vI ((lenR l).2)), (5, vI ((lenR l).1)), (4, vI 0), (3, vI 0), (2, vP g2 0)]
   rcases Bool.eq_false_or_eq_true (!(((Lb.getD 4 0 : Int) == (113 : Int)) && ((Lb.getD 5 0 : Int) == (116 : Int)))) with hb26 | hb26
   ·have HF := HF.on 26 hb26
    simp only [Bool.not_eq_true', Bool.and_eq_false_iff, beq_eq_false_iff_ne] at hb26
    have hmg : ¬ (Lb.getD 4 0 = 113 ∧ Lb.getD 5 0 = 116) := by omega
    refine cond_true HF rfl (wp_seq (from_start ?_))
    refine fy HF HM 0 rfl rfl rfl (v := .agg #[vB 0, vB 0, vI 0, vI 0, .slice none 0 0]) (Yl.build (vs := []) rfl (by kernel_rfl) (by kernel_rfl)) ?_; clear HF; intro a HF
    refine from_op HF (i := 1) rfl rfl ?_
    refine e_storeAll HF HM (i := 0) (cs := #[vB 0, vB 0, vI 0, vI 0, .slice none 0 0]) (ds := #[vB 0, vB 0, vI 0, vI 0, .slice none 0 0]) rfl rfl rfl rfl si_bk rfl rfl (by simp [Value.oneCell']) rfl ?_
    clear HM; intro w8_1 HM
    refine fp HF 2 2 [(4, vI 103), (3, vI 0)] ?_; clear HF; intro a HF
    refine from_done rfl ?_
    refine wp_ret ?_
    exact ret3 rfl HF (.cellS (i := 0) HF HM rfl rfl si_bk rfl) (.tmp HF rfl) (.tmp HF rfl) (breadIs_bad (readB_none hl0 hLb (by unfold blkOf; rw [if_neg (by rw [hs]; decide), if_pos hmg])) HM.below)
   ·have HF := HF.on 26 hb26
    simp only [Bool.not_eq_false', Bool.and_eq_true, beq_iff_eq] at hb26
    have hmg : Lb.getD 4 0 = 113 ∧ Lb.getD 5 0 = 116 := by omega
    refine cond_false HF rfl (wp_seq (from_start ?_))
    refine fp HF 1 0 [(35, .slice (some ⟨gA, oA, none⟩) ((lenR l).1) cp)] ?_; clear HF; intro a HF
    refine fy HF HM 1 rfl rfl rfl (v := vP gA (oA + 6)) (Yl.indexAddr (ad := ⟨gA, oA, none⟩) (y := 6) (sz := 1) rfl rfl rfl (by omega) (by kernel_rfl)) ?_; clear HF; intro a HF
    have hx126 := getD_lt hlL (k := 6) (by first | omega | (simp; omega))
    refine fy HF HM 2 rfl rfl rfl (v := vB (Lb.getD 6 0)) (Yl.load1 rfl rfl (by kernel_rfl) (fun _ h => (h.old hrL).oneAt1 (k := 6) (map_at (F := B8) (k := 6) (x := (Lb.getD 6 0)) ((getD_at 0 (k := 6) (by first | omega | (simp; omega))))))) ?_; clear HF; intro a HF
    refine fp HF 2 3 [(34, .bool (((Lb.getD 6 0) : Int) != (1 : Int))), (38, .bool (((Lb.getD 6 0) : Int) != (1 : Int)))] ?_; clear HF; intro a HF
    refine from_done rfl ?_
    rcases Bool.eq_false_or_eq_true (((Lb.getD 6 0) : Int) != (1 : Int)) with hb34 | hb34
    ·have HF := HF.on 34 hb34
     have hd34 := bne_iff_ne.1 hb34
     refine cond_true HF rfl (wp_seq (from_start ?_))
     refine fy HF HM 0 rfl rfl rfl (v := .agg #[vB 0, vB 0, vI 0, vI 0, .slice none 0 0]) (Yl.build (vs := []) rfl (by kernel_rfl) (by kernel_rfl)) ?_; clear HF; intro a HF
     refine from_op HF (i := 1) rfl rfl ?_
     refine e_storeAll HF HM (i := 0) (cs := #[vB 0, vB 0, vI 0, vI 0, .slice none 0 0]) (ds := #[vB 0, vB 0, vI 0, vI 0, .slice none 0 0]) rfl rfl rfl rfl si_bk rfl rfl (by simp [Value.oneCell']) rfl ?_
     clear HM; intro w10_1 HM
     refine fp HF 2 2 [(4, vI 104), (3, vI 0)] ?_; clear HF; intro a HF
     refine from_done rfl ?_
     refine wp_ret ?_
     exact ret3 rfl HF (.cellS (i := 0) HF HM rfl rfl si_bk rfl) (.tmp HF rfl) (.tmp HF rfl) (breadIs_bad (readB_none hl0 hLb (by unfold blkOf; rw [if_neg (by rw [hs]; decide), if_neg (fun hh => hh hmg), if_pos (by omega)])) HM.below)
    ·have HF := HF.on 34 hb34
     have hd34 := bne_eq_false_iff_eq.1 hb34
     refine cond_false HF rfl (wp_seq (from_start ?_))
     refine fp HF 1 0 [(41, .slice (some ⟨gA, oA, none⟩) ((lenR l).1) cp)] ?_; clear HF; intro a HF
     refine fy HF HM 1 rfl rfl rfl (v := vP gA (oA + 7)) (Yl.indexAddr (ad := ⟨gA, oA, none⟩) (y := 7) (sz := 1) rfl rfl rfl (by omega) (by kernel_rfl)) ?_; clear HF; intro a HF
     have hx151 := getD_lt hlL (k := 7) (by first | omega | (simp; omega))
     refine fy HF HM 2 rfl rfl rfl (v := vB (Lb.getD 7 0)) (Yl.load1 rfl rfl (by kernel_rfl) (fun _ h => (h.old hrL).oneAt1 (k := 7) (map_at (F := B8) (k := 7) (x := (Lb.getD 7 0)) ((getD_at 0 (k := 7) (by first | omega | (simp; omega))))))) ?_; clear HF; intro a HF
     refine fp HF 2 3 [(45, .bool (((Lb.getD 7 0) : Int) != (1 : Int))), (44, .bool (((Lb.getD 7 0) : Int) != (1 : Int)))] ?_; clear HF; intro a HF
     rcases Bool.eq_false_or_eq_true (((Lb.getD 7 0) : Int) != (1 : Int)) with hb45 | hb45
     ·have HF := HF.on 45 hb45
      have hd45 := bne_iff_ne.1 hb45
      refine fp HF 1 5 [(46, .slice (some ⟨gA, oA, none⟩) ((lenR l).1) cp)] ?_; clear HF; intro a HF
      refine fy HF HM 6 rfl rfl rfl (v := vP gA (oA + 7)) (Yl.indexAddr (ad := ⟨gA, oA, none⟩) (y := 7) (sz := 1) rfl rfl rfl (by omega) (by kernel_rfl)) ?_; clear HF; intro a HF
      have hx159 := getD_lt hlL (k := 7) (by first | omega | (simp; omega))
      refine fy HF HM 7 rfl rfl rfl (v := vB (Lb.getD 7 0)) (Yl.load1 rfl rfl (by kernel_rfl) (fun _ h => (h.old hrL).oneAt1 (k := 7) (map_at (F := B8) (k := 7) (x := (Lb.getD 7 0)) ((getD_at 0 (k := 7) (by first | omega | (simp; omega))))))) ?_; clear HF; intro a HF
      refine fp HF 3 8 [(40, .bool (((Lb.getD 7 0) : Int) != (2 : Int))), (50, .bool (((Lb.getD 7 0) : Int) != (2 : Int))), (49, .bool (((Lb.getD 7 0) : Int) != (2 : Int)))] ?_; clear HF; intro a HF
      refine from_done rfl ?_
      replace HF := HF.to [(40, .bool (((Lb.getD 7 0) : Int) != (2 : Int))), (34, .bool false), (26, .bool false), (21, .bool false), (0, .slice (some ⟨gA, oA, none⟩) ((lenR l).1) cp), (15, .bool false), (6, vI ((lenR l).2)), (5, vI ((lenR l).1)), (4, vI 0), (3, vI 0), (2, vP g2 0)]
      rcases hp : parseR (Lb.getD 7 0) ((Lb.take (Lb.length - 4)).drop 8) with _ | b
      ·
       rcases Bool.eq_false_or_eq_true (((Lb.getD 7 0) : Int) != (2 : Int)) with hb40 | hb40
       ·have HF := HF.on 40 hb40
        have hd40 := bne_iff_ne.1 hb40
        have hkd : Lb.getD 7 0 ≠ 1 ∧ Lb.getD 7 0 ≠ 2 := by omega
        refine cond_true HF rfl (wp_seq (from_start ?_))
        refine fy HF HM 0 rfl rfl rfl (v := .agg #[vB 0, vB 0, vI 0, vI 0, .slice none 0 0]) (Yl.build (vs := []) rfl (by kernel_rfl) (by kernel_rfl)) ?_; clear HF; intro a HF
        refine from_op HF (i := 1) rfl rfl ?_
        refine e_storeAll HF HM (i := 0) (cs := #[vB 0, vB 0, vI 0, vI 0, .slice none 0 0]) (ds := #[vB 0, vB 0, vI 0, vI 0, .slice none 0 0]) rfl rfl rfl rfl si_bk rfl rfl (by simp [Value.oneCell']) rfl ?_
        clear HM; intro w12_1 HM
        refine fp HF 2 2 [(4, vI 105), (3, vI 0)] ?_; clear HF; intro a HF
        refine from_done rfl ?_
        refine wp_ret ?_
        exact ret3 rfl HF (.cellS (i := 0) HF HM rfl rfl si_bk rfl) (.tmp HF rfl) (.tmp HF rfl) (breadIs_bad (readB_none hl0 hLb (by unfold blkOf; rw [if_neg (by rw [hs]; decide), if_neg (fun hh => hh hmg), if_neg (by omega), if_pos hkd])) HM.below)
       ·have HF := HF.on 40 hb40
        have hd40 := bne_eq_false_iff_eq.1 hb40
        have hkd : Lb.getD 7 0 = 1 ∨ Lb.getD 7 0 = 2 := by omega
        refine cond_false HF rfl (wp_skip ?_)
        refine cut_seq (fun aS wS => ∃ (cs : Array Value) (g7 : Nat), Fr aS 68 [] [(8, .bool false), (7, vP g7 0), (40, .bool false), (34, .bool false), (26, .bool false), (21, .bool false), (0, .slice (some ⟨gA, oA, none⟩) ((lenR l).1) cp), (15, .bool false), (6, vI ((lenR l).2)), (5, vI ((lenR l).1)), (4, vI 0), (3, vI 0), (2, vP g2 0)] ∧ Mem w wS [.blk g7 cs 27, .blk g2 #[vB 0, vB 0, vI 0, vI 0, .slice none 0 0] 27] ∧ (cs.size = 5) ∧ (∀ v ∈ cs.toList, v.oneCell' = true)) ?_ ?_
        ·
         refine any_start (by kernel_rfl) (fun wS => Mem w wS [.blk g2 #[vB 0, vB 0, vI 0, vI 0, .slice none 0 0] 27]) [12] ?_
         replace HM := HM.drew
         have HS := HM.picks (fs' := [.blk g2 #[vB 0, vB 0, vI 0, vI 0, .slice none 0 0] 27]) [0] (by decide) rfl
         refine ap HF (fun _ => HS) [0, 3, 4] #[true, false, false, true, true, false, false, false, false, false, false, false, false, false] [(57, vI ((lenR l).1)), (56, .slice (some ⟨gA, oA, none⟩) ((lenR l).1) cp), (53, .slice (some ⟨gA, oA, none⟩) ((lenR l).1) cp)] ?_; clear HF; intro a HF
         refine ay HF HS 1 rfl rfl rfl (v := vP gA (oA + 7)) (Yl.indexAddr (ad := ⟨gA, oA, none⟩) (y := 7) (sz := 1) rfl rfl rfl (by omega) (by kernel_rfl)) ?_; clear HF; intro a HF
         have hx193 := getD_lt hlL (k := 7) (by first | omega | (simp; omega))
         refine ay HF HS 2 rfl rfl rfl (v := vB (Lb.getD 7 0)) (Yl.load1 rfl rfl (by kernel_rfl) (fun _ h => (h.old hrL).oneAt1 (k := 7) (map_at (F := B8) (k := 7) (x := (Lb.getD 7 0)) ((getD_at 0 (k := 7) (by first | omega | (simp; omega))))))) ?_; clear HF; intro a HF
         refine any_pure HF (fun _ => HS) (i := 5) rfl rfl (d := 58) rfl (by decide) (by kernel_rfl) (fun _ _ _ h => h) (v := vI (IntKind.i64.wrap (((lenR l).1 : Int) - 4))) (fun _ => Yl.pure (by kernel_rfl)) ?_; clear HF; intro a HF
         replace HF := HF.as (t := 58) (u := vI ((lenR l).1 - 4 : Nat)) rfl (i64_nat (by omega) (by omega))
         refine ay HF HS 6 rfl rfl rfl (v := .slice (if cp = 8 then some ⟨gA, oA, none⟩ else (some ⟨gA, oA, none⟩ : Option Addr).map (·.add (8 * 1))) (((lenR l).1 - 4) - 8) (cp - 8)) (Yl.slice2 ei_u8 (i := 8) (j := (lenR l).1 - 4) rfl rfl rfl rfl (by omega) (by omega)) ?_; clear HF; intro a HF
         refine any_all [7, 11] (by kernel_rfl) rfl ?_
         refine all_cons ?_ ?_
         ·refine any_op HF (i := 7) rfl rfl ?_
          refine e_call HF (vs := [vB (Lb.getD 7 0), .slice (if cp = 8 then some ⟨gA, oA, none⟩ else (some ⟨gA, oA, none⟩ : Option Addr).map (·.add (8 * 1))) (((lenR l).1 - 4) - 8) (cp - 8)]) rfl (by kernel_rfl) (by kernel_rfl) rfl (by decide) ((parse_any (Lb.getD 7 0) hkd _ (((lenR l).1 - 4) - 8) (cp - 8) ((Lb.take (Lb.length - 4)).drop 8) B _ (hL.mem HM hB) (HM.le hB) (HM.old (by rw [hnL]; exact hrL.midB8 (i := 8) (j := (lenR l).1 - 4) (by omega) (by omega) (by omega))) (by omega) (by rw [List.length_drop, List.length_take]; omega) (by omega) (drop_lt (take_lt hlL _) _)).mono (fun _ _ h => h.none hp)) ?_
          rintro _ w60 ⟨⟨cs, rfl, hs5, h1⟩, hbw⟩
          refine ⟨_, rfl, ?_⟩
          replace HM := HM.call hbw
          clear HF; intro a HF
          refine keepS (HM.picks [0] (by decide) rfl) (fun HS => ?_)
          refine ap HF (fun _ => HS) [8, 9, 10] #[true, true, true, true, true, true, true, true, true, true, true, false, false, false] [(62, .bool false), (61, .agg cs), (52, .tuple #[.agg cs, .bool false])] ?_; clear HF; intro a HF
          refine any_all [11] (by kernel_rfl) rfl ?_
          refine all_cons ?_ all_nil
          refine any_op HF (i := 11) rfl rfl ?_
          refine e_alloc HF HM (cs := #[vB 0, vB 0, vI 0, vI 0, .slice none 0 0]) rfl (by kernel_rfl) rfl (by decide) ?_
          clear HF HM; intro a w7 g7 HF HM
          refine keepS (HM.picks [1] (by decide) rfl) (fun HS => ?_)
          refine any_all [12] (by kernel_rfl) rfl ?_
          refine all_cons ?_ all_nil
          refine any_op HF (i := 12) rfl rfl ?_
          refine e_storeAll HF HM (i := 0) (cs := #[vB 0, vB 0, vI 0, vI 0, .slice none 0 0]) (ds := cs) rfl rfl rfl rfl si_bk rfl hs5 (h1) rfl ?_
          clear HM; intro w13_12 HM
          refine noS (by kernel_rfl) ?_
          refine ap HF (pastS (by kernel_rfl)) [13] #[true, true, true, true, true, true, true, true, true, true, true, true, true, true] [(8, .bool false)] ?_; clear HF; intro a HF
          refine any_done (by kernel_rfl) ?_
          exact ⟨cs, g7, HF.sub (by kernel_rfl), HM.picks [0, 1] (by decide) rfl, hs5, h1⟩
         refine all_cons ?_ all_nil
         refine any_op HF (i := 11) rfl rfl ?_
         refine e_alloc HF HM (cs := #[vB 0, vB 0, vI 0, vI 0, .slice none 0 0]) rfl (by kernel_rfl) rfl (by decide) ?_
         clear HF HM; intro a w7 g7 HF HM
         refine keepS (HM.picks [1] (by decide) rfl) (fun HS => ?_)
         refine any_all [7] (by kernel_rfl) rfl ?_
         refine all_cons ?_ all_nil
         refine any_op HF (i := 7) rfl rfl ?_
         refine e_call HF (vs := [vB (Lb.getD 7 0), .slice (if cp = 8 then some ⟨gA, oA, none⟩ else (some ⟨gA, oA, none⟩ : Option Addr).map (·.add (8 * 1))) (((lenR l).1 - 4) - 8) (cp - 8)]) rfl (by kernel_rfl) (by kernel_rfl) rfl (by decide) ((parse_any (Lb.getD 7 0) hkd _ (((lenR l).1 - 4) - 8) (cp - 8) ((Lb.take (Lb.length - 4)).drop 8) B _ (hL.mem HM hB) (HM.le hB) (HM.old (by rw [hnL]; exact hrL.midB8 (i := 8) (j := (lenR l).1 - 4) (by omega) (by omega) (by omega))) (by omega) (by rw [List.length_drop, List.length_take]; omega) (by omega) (drop_lt (take_lt hlL _) _)).mono (fun _ _ h => h.none hp)) ?_
         rintro _ w60 ⟨⟨cs, rfl, hs5, h1⟩, hbw⟩
         refine ⟨_, rfl, ?_⟩
         replace HM := HM.call hbw
         clear HF; intro a HF
         refine keepS (HM.picks [1] (by decide) rfl) (fun HS => ?_)
         refine ap HF (fun _ => HS) [8, 9, 10] #[true, true, true, true, true, true, true, true, true, true, true, true, false, false] [(62, .bool false), (61, .agg cs), (52, .tuple #[.agg cs, .bool false])] ?_; clear HF; intro a HF
         refine any_all [12] (by kernel_rfl) rfl ?_
         refine all_cons ?_ all_nil
         refine any_op HF (i := 12) rfl rfl ?_
         refine e_storeAll HF HM (i := 0) (cs := #[vB 0, vB 0, vI 0, vI 0, .slice none 0 0]) (ds := cs) rfl rfl rfl rfl si_bk rfl hs5 (h1) rfl ?_
         clear HM; intro w13_12 HM
         refine noS (by kernel_rfl) ?_
         refine ap HF (pastS (by kernel_rfl)) [13] #[true, true, true, true, true, true, true, true, true, true, true, true, true, true] [(8, .bool false)] ?_; clear HF; intro a HF
         refine any_done (by kernel_rfl) ?_
         exact ⟨cs, g7, HF.sub (by kernel_rfl), HM.picks [0, 1] (by decide) rfl, hs5, h1⟩
        clear HF HM; rintro a w13 ⟨cs, g7, HF, HM, hs5, h1⟩
        refine wp_seq (wp_seq (from_start ?_))
        refine fp HF 2 0 [(64, .bool true), (63, .bool false)] ?_; clear HF; intro a HF
        refine from_done rfl ?_
        refine cond_true HF rfl (wp_seq (from_start ?_))
        refine fy HF HM 0 rfl rfl rfl (v := .agg #[vB 0, vB 0, vI 0, vI 0, .slice none 0 0]) (Yl.build (vs := []) rfl (by kernel_rfl) (by kernel_rfl)) ?_; clear HF; intro a HF
        refine from_op HF (i := 1) rfl rfl ?_
        refine e_storeAll HF HM (i := 1) (cs := #[vB 0, vB 0, vI 0, vI 0, .slice none 0 0]) (ds := #[vB 0, vB 0, vI 0, vI 0, .slice none 0 0]) rfl rfl rfl rfl si_bk rfl rfl (by simp [Value.oneCell']) rfl ?_
        clear HM; intro w15_1 HM
        refine fp HF 2 2 [(4, vI 106), (3, vI 0)] ?_; clear HF; intro a HF
        refine from_done rfl ?_
        refine wp_ret ?_
        exact ret3 rfl HF (.cellS (i := 1) HF HM rfl rfl si_bk rfl) (.tmp HF rfl) (.tmp HF rfl) (breadIs_bad (readB_none hl0 hLb (by unfold blkOf; rw [if_neg (by rw [hs]; decide), if_neg (fun hh => hh hmg), if_neg (by omega), if_neg (by omega), hp])) HM.below)
      ·
       rcases Bool.eq_false_or_eq_true (((Lb.getD 7 0) : Int) != (2 : Int)) with hb40 | hb40
       ·have HF := HF.on 40 hb40
        have hd40 := bne_iff_ne.1 hb40
        have hkd : Lb.getD 7 0 ≠ 1 ∧ Lb.getD 7 0 ≠ 2 := by omega
        refine cond_true HF rfl (wp_seq (from_start ?_))
        refine fy HF HM 0 rfl rfl rfl (v := .agg #[vB 0, vB 0, vI 0, vI 0, .slice none 0 0]) (Yl.build (vs := []) rfl (by kernel_rfl) (by kernel_rfl)) ?_; clear HF; intro a HF
        refine from_op HF (i := 1) rfl rfl ?_
        refine e_storeAll HF HM (i := 0) (cs := #[vB 0, vB 0, vI 0, vI 0, .slice none 0 0]) (ds := #[vB 0, vB 0, vI 0, vI 0, .slice none 0 0]) rfl rfl rfl rfl si_bk rfl rfl (by simp [Value.oneCell']) rfl ?_
        clear HM; intro w12_1 HM
        refine fp HF 2 2 [(4, vI 105), (3, vI 0)] ?_; clear HF; intro a HF
        refine from_done rfl ?_
        refine wp_ret ?_
        exact ret3 rfl HF (.cellS (i := 0) HF HM rfl rfl si_bk rfl) (.tmp HF rfl) (.tmp HF rfl) (breadIs_bad (readB_none hl0 hLb (by unfold blkOf; rw [if_neg (by rw [hs]; decide), if_neg (fun hh => hh hmg), if_neg (by omega), if_pos hkd])) HM.below)
       ·have HF := HF.on 40 hb40
        have hd40 := bne_eq_false_iff_eq.1 hb40
        have hkd : Lb.getD 7 0 = 1 ∨ Lb.getD 7 0 = 2 := by omega
        refine cond_false HF rfl (wp_skip ?_)
        refine cut_seq (fun aS wS => ∃ (Ab : Option Addr) (cb : Nat) (g7 : Nat), Fr aS 68 [] [(8, .bool true), (7, vP g7 0), (40, .bool false), (34, .bool false), (26, .bool false), (21, .bool false), (0, .slice (some ⟨gA, oA, none⟩) ((lenR l).1) cp), (15, .bool false), (6, vI ((lenR l).2)), (5, vI ((lenR l).1)), (4, vI 0), (3, vI 0), (2, vP g2 0)] ∧ Mem w wS [.blk g7 (b.cells Ab cb) 27, .row (.slice Ab b.evs.length cb) b.evs.length (b.evs.flatMap evL) 46 11, .blk g2 #[vB 0, vB 0, vI 0, vI 0, .slice none 0 0] 27] ∧ (b.evs.length ≤ cb)) ?_ ?_
        ·
         refine any_start (by kernel_rfl) (fun wS => Mem w wS [.blk g2 #[vB 0, vB 0, vI 0, vI 0, .slice none 0 0] 27]) [12] ?_
         replace HM := HM.drew
         have HS := HM.picks (fs' := [.blk g2 #[vB 0, vB 0, vI 0, vI 0, .slice none 0 0] 27]) [0] (by decide) rfl
         refine ap HF (fun _ => HS) [0, 3, 4] #[true, false, false, true, true, false, false, false, false, false, false, false, false, false] [(57, vI ((lenR l).1)), (56, .slice (some ⟨gA, oA, none⟩) ((lenR l).1) cp), (53, .slice (some ⟨gA, oA, none⟩) ((lenR l).1) cp)] ?_; clear HF; intro a HF
         refine ay HF HS 1 rfl rfl rfl (v := vP gA (oA + 7)) (Yl.indexAddr (ad := ⟨gA, oA, none⟩) (y := 7) (sz := 1) rfl rfl rfl (by omega) (by kernel_rfl)) ?_; clear HF; intro a HF
         have hx292 := getD_lt hlL (k := 7) (by first | omega | (simp; omega))
         refine ay HF HS 2 rfl rfl rfl (v := vB (Lb.getD 7 0)) (Yl.load1 rfl rfl (by kernel_rfl) (fun _ h => (h.old hrL).oneAt1 (k := 7) (map_at (F := B8) (k := 7) (x := (Lb.getD 7 0)) ((getD_at 0 (k := 7) (by first | omega | (simp; omega))))))) ?_; clear HF; intro a HF
         refine any_pure HF (fun _ => HS) (i := 5) rfl rfl (d := 58) rfl (by decide) (by kernel_rfl) (fun _ _ _ h => h) (v := vI (IntKind.i64.wrap (((lenR l).1 : Int) - 4))) (fun _ => Yl.pure (by kernel_rfl)) ?_; clear HF; intro a HF
         replace HF := HF.as (t := 58) (u := vI ((lenR l).1 - 4 : Nat)) rfl (i64_nat (by omega) (by omega))
         refine ay HF HS 6 rfl rfl rfl (v := .slice (if cp = 8 then some ⟨gA, oA, none⟩ else (some ⟨gA, oA, none⟩ : Option Addr).map (·.add (8 * 1))) (((lenR l).1 - 4) - 8) (cp - 8)) (Yl.slice2 ei_u8 (i := 8) (j := (lenR l).1 - 4) rfl rfl rfl rfl (by omega) (by omega)) ?_; clear HF; intro a HF
         refine any_all [7, 11] (by kernel_rfl) rfl ?_
         refine all_cons ?_ ?_
         ·refine any_op HF (i := 7) rfl rfl ?_
          refine e_call HF (vs := [vB (Lb.getD 7 0), .slice (if cp = 8 then some ⟨gA, oA, none⟩ else (some ⟨gA, oA, none⟩ : Option Addr).map (·.add (8 * 1))) (((lenR l).1 - 4) - 8) (cp - 8)]) rfl (by kernel_rfl) (by kernel_rfl) rfl (by decide) ((parse_any (Lb.getD 7 0) hkd _ (((lenR l).1 - 4) - 8) (cp - 8) ((Lb.take (Lb.length - 4)).drop 8) B _ (hL.mem HM hB) (HM.le hB) (HM.old (by rw [hnL]; exact hrL.midB8 (i := 8) (j := (lenR l).1 - 4) (by omega) (by omega) (by omega))) (by omega) (by rw [List.length_drop, List.length_take]; omega) (by omega) (drop_lt (take_lt hlL _) _)).mono (fun _ _ h => h.some hp)) ?_
          rintro _ w60 ⟨⟨Ab, cb, rfl, ho, hcb⟩, hbw⟩
          refine ⟨_, rfl, ?_⟩
          replace HM := HM.callRow hbw ho
          clear HF; intro a HF
          refine keepS (HM.picks [1] (by decide) rfl) (fun HS => ?_)
          refine ap HF (fun _ => HS) [8, 9, 10] #[true, true, true, true, true, true, true, true, true, true, true, false, false, false] [(62, .bool true), (61, .agg (b.cells Ab cb)), (52, .tuple #[.agg (b.cells Ab cb), .bool true])] ?_; clear HF; intro a HF
          refine any_all [11] (by kernel_rfl) rfl ?_
          refine all_cons ?_ all_nil
          refine any_op HF (i := 11) rfl rfl ?_
          refine e_alloc HF HM (cs := #[vB 0, vB 0, vI 0, vI 0, .slice none 0 0]) rfl (by kernel_rfl) rfl (by decide) ?_
          clear HF HM; intro a w7 g7 HF HM
          refine keepS (HM.picks [2] (by decide) rfl) (fun HS => ?_)
          refine any_all [12] (by kernel_rfl) rfl ?_
          refine all_cons ?_ all_nil
          refine any_op HF (i := 12) rfl rfl ?_
          refine e_storeAll HF HM (i := 0) (cs := #[vB 0, vB 0, vI 0, vI 0, .slice none 0 0]) (ds := (b.cells Ab cb)) rfl rfl rfl rfl si_bk rfl rfl (bk_one _ _ _) rfl ?_
          clear HM; intro w13_12 HM
          refine noS (by kernel_rfl) ?_
          refine ap HF (pastS (by kernel_rfl)) [13] #[true, true, true, true, true, true, true, true, true, true, true, true, true, true] [(8, .bool true)] ?_; clear HF; intro a HF
          refine any_done (by kernel_rfl) ?_
          exact ⟨Ab, cb, g7, HF.sub (by kernel_rfl), HM.picks [0, 1, 2] (by decide) rfl, hcb⟩
         refine all_cons ?_ all_nil
         refine any_op HF (i := 11) rfl rfl ?_
         refine e_alloc HF HM (cs := #[vB 0, vB 0, vI 0, vI 0, .slice none 0 0]) rfl (by kernel_rfl) rfl (by decide) ?_
         clear HF HM; intro a w7 g7 HF HM
         refine keepS (HM.picks [1] (by decide) rfl) (fun HS => ?_)
         refine any_all [7] (by kernel_rfl) rfl ?_
         refine all_cons ?_ all_nil
         refine any_op HF (i := 7) rfl rfl ?_
         refine e_call HF (vs := [vB (Lb.getD 7 0), .slice (if cp = 8 then some ⟨gA, oA, none⟩ else (some ⟨gA, oA, none⟩ : Option Addr).map (·.add (8 * 1))) (((lenR l).1 - 4) - 8) (cp - 8)]) rfl (by kernel_rfl) (by kernel_rfl) rfl (by decide) ((parse_any (Lb.getD 7 0) hkd _ (((lenR l).1 - 4) - 8) (cp - 8) ((Lb.take (Lb.length - 4)).drop 8) B _ (hL.mem HM hB) (HM.le hB) (HM.old (by rw [hnL]; exact hrL.midB8 (i := 8) (j := (lenR l).1 - 4) (by omega) (by omega) (by omega))) (by omega) (by rw [List.length_drop, List.length_take]; omega) (by omega) (drop_lt (take_lt hlL _) _)).mono (fun _ _ h => h.some hp)) ?_
         rintro _ w60 ⟨⟨Ab, cb, rfl, ho, hcb⟩, hbw⟩
         refine ⟨_, rfl, ?_⟩
         replace HM := HM.callRow hbw ho
         clear HF; intro a HF
         refine keepS (HM.picks [2] (by decide) rfl) (fun HS => ?_)
         refine ap HF (fun _ => HS) [8, 9, 10] #[true, true, true, true, true, true, true, true, true, true, true, true, false, false] [(62, .bool true), (61, .agg (b.cells Ab cb)), (52, .tuple #[.agg (b.cells Ab cb), .bool true])] ?_; clear HF; intro a HF
         refine any_all [12] (by kernel_rfl) rfl ?_
         refine all_cons ?_ all_nil
         refine any_op HF (i := 12) rfl rfl ?_
         refine e_storeAll HF HM (i := 1) (cs := #[vB 0, vB 0, vI 0, vI 0, .slice none 0 0]) (ds := (b.cells Ab cb)) rfl rfl rfl rfl si_bk rfl rfl (bk_one _ _ _) rfl ?_
         clear HM; intro w13_12 HM
         refine noS (by kernel_rfl) ?_
         refine ap HF (pastS (by kernel_rfl)) [13] #[true, true, true, true, true, true, true, true, true, true, true, true, true, true] [(8, .bool true)] ?_; clear HF; intro a HF
         refine any_done (by kernel_rfl) ?_
         exact ⟨Ab, cb, g7, HF.sub (by kernel_rfl), HM.picks [1, 0, 2] (by decide) rfl, hcb⟩
        clear HF HM; rintro a w13 ⟨Ab, cb, g7, HF, HM, hcb⟩
        refine wp_seq (wp_seq (from_start ?_))
        refine fp HF 2 0 [(64, .bool false), (63, .bool true)] ?_; clear HF; intro a HF
        refine from_done rfl ?_
        refine cond_false HF rfl (wp_skip (wp_seq (from_start ?_)))
        refine fy HF HM 0 rfl rfl rfl (v := .agg (b.cells Ab cb)) (Yl.loadS rfl rfl si_bk rfl (fun _ h => range_of_block (h.blk (i := 0) rfl))) ?_; clear HF; intro a HF
        refine fp HF 1 1 [(67, vI ((lenR l).1))] ?_; clear HF; intro a HF
        refine from_op HF (i := 2) rfl rfl ?_
        refine e_storeAll HF HM (i := 2) (cs := #[vB 0, vB 0, vI 0, vI 0, .slice none 0 0]) (ds := (b.cells Ab cb)) rfl rfl rfl rfl si_bk rfl rfl (bk_one _ _ _) rfl ?_
        clear HM; intro w16_2 HM
        refine fp HF 2 3 [(4, vI 0), (3, vI ((lenR l).1))] ?_; clear HF; intro a HF
        refine from_done rfl ?_
        refine wp_ret ?_
        exact ret3 rfl HF (.cellS (i := 2) HF HM rfl rfl si_bk rfl) (.tmp HF rfl) (.tmp HF rfl) (breadIs_ok (readB_some (e := 0) hl0 hLb (by unfold blkOf; rw [if_neg (by rw [hs]; decide), if_neg (fun hh => hh hmg), if_neg (by omega), if_neg (by omega), hp])) (HM.own (i := 1) rfl) hcb HM.below)
     ·have HF := HF.on 45 hb45
      have hd45 := bne_eq_false_iff_eq.1 hb45
      have hkd : Lb.getD 7 0 = 1 ∨ Lb.getD 7 0 = 2 := by omega
      refine fp HF 6 5 [(40, .bool false), (50, .bool false), (49, undef), (48, undef), (47, undef), (46, undef)] ?_; clear HF; intro a HF
      refine from_done rfl ?_
      replace HF := HF.to [(40, .bool false), (34, .bool false), (26, .bool false), (21, .bool false), (0, .slice (some ⟨gA, oA, none⟩) ((lenR l).1) cp), (15, .bool false), (6, vI ((lenR l).2)), (5, vI ((lenR l).1)), (4, vI 0), (3, vI 0), (2, vP g2 0)]
      rcases hp : parseR (Lb.getD 7 0) ((Lb.take (Lb.length - 4)).drop 8) with _ | b
      ·
       refine cond_false HF rfl (wp_skip ?_)
       refine cut_seq (fun aS wS => ∃ (cs : Array Value) (g7 : Nat), Fr aS 68 [] [(8, .bool false), (7, vP g7 0), (40, .bool false), (34, .bool false), (26, .bool false), (21, .bool false), (0, .slice (some ⟨gA, oA, none⟩) ((lenR l).1) cp), (15, .bool false), (6, vI ((lenR l).2)), (5, vI ((lenR l).1)), (4, vI 0), (3, vI 0), (2, vP g2 0)] ∧ Mem w wS [.blk g7 cs 27, .blk g2 #[vB 0, vB 0, vI 0, vI 0, .slice none 0 0] 27] ∧ (cs.size = 5) ∧ (∀ v ∈ cs.toList, v.oneCell' = true)) ?_ ?_
       ·
        refine any_start (by kernel_rfl) (fun wS => Mem w wS [.blk g2 #[vB 0, vB 0, vI 0, vI 0, .slice none 0 0] 27]) [12] ?_
        replace HM := HM.drew
        have HS := HM.picks (fs' := [.blk g2 #[vB 0, vB 0, vI 0, vI 0, .slice none 0 0] 27]) [0] (by decide) rfl
        refine ap HF (fun _ => HS) [0, 3, 4] #[true, false, false, true, true, false, false, false, false, false, false, false, false, false] [(57, vI ((lenR l).1)), (56, .slice (some ⟨gA, oA, none⟩) ((lenR l).1) cp), (53, .slice (some ⟨gA, oA, none⟩) ((lenR l).1) cp)] ?_; clear HF; intro a HF
        refine ay HF HS 1 rfl rfl rfl (v := vP gA (oA + 7)) (Yl.indexAddr (ad := ⟨gA, oA, none⟩) (y := 7) (sz := 1) rfl rfl rfl (by omega) (by kernel_rfl)) ?_; clear HF; intro a HF
        have hx382 := getD_lt hlL (k := 7) (by first | omega | (simp; omega))
        refine ay HF HS 2 rfl rfl rfl (v := vB (Lb.getD 7 0)) (Yl.load1 rfl rfl (by kernel_rfl) (fun _ h => (h.old hrL).oneAt1 (k := 7) (map_at (F := B8) (k := 7) (x := (Lb.getD 7 0)) ((getD_at 0 (k := 7) (by first | omega | (simp; omega))))))) ?_; clear HF; intro a HF
        refine any_pure HF (fun _ => HS) (i := 5) rfl rfl (d := 58) rfl (by decide) (by kernel_rfl) (fun _ _ _ h => h) (v := vI (IntKind.i64.wrap (((lenR l).1 : Int) - 4))) (fun _ => Yl.pure (by kernel_rfl)) ?_; clear HF; intro a HF
        replace HF := HF.as (t := 58) (u := vI ((lenR l).1 - 4 : Nat)) rfl (i64_nat (by omega) (by omega))
        refine ay HF HS 6 rfl rfl rfl (v := .slice (if cp = 8 then some ⟨gA, oA, none⟩ else (some ⟨gA, oA, none⟩ : Option Addr).map (·.add (8 * 1))) (((lenR l).1 - 4) - 8) (cp - 8)) (Yl.slice2 ei_u8 (i := 8) (j := (lenR l).1 - 4) rfl rfl rfl rfl (by omega) (by omega)) ?_; clear HF; intro a HF
        refine any_all [7, 11] (by kernel_rfl) rfl ?_
        refine all_cons ?_ ?_
        ·refine any_op HF (i := 7) rfl rfl ?_
         refine e_call HF (vs := [vB (Lb.getD 7 0), .slice (if cp = 8 then some ⟨gA, oA, none⟩ else (some ⟨gA, oA, none⟩ : Option Addr).map (·.add (8 * 1))) (((lenR l).1 - 4) - 8) (cp - 8)]) rfl (by kernel_rfl) (by kernel_rfl) rfl (by decide) ((parse_any (Lb.getD 7 0) hkd _ (((lenR l).1 - 4) - 8) (cp - 8) ((Lb.take (Lb.length - 4)).drop 8) B _ (hL.mem HM hB) (HM.le hB) (HM.old (by rw [hnL]; exact hrL.midB8 (i := 8) (j := (lenR l).1 - 4) (by omega) (by omega) (by omega))) (by omega) (by rw [List.length_drop, List.length_take]; omega) (by omega) (drop_lt (take_lt hlL _) _)).mono (fun _ _ h => h.none hp)) ?_
         rintro _ w60 ⟨⟨cs, rfl, hs5, h1⟩, hbw⟩
         refine ⟨_, rfl, ?_⟩
         replace HM := HM.call hbw
         clear HF; intro a HF
         refine keepS (HM.picks [0] (by decide) rfl) (fun HS => ?_)
         refine ap HF (fun _ => HS) [8, 9, 10] #[true, true, true, true, true, true, true, true, true, true, true, false, false, false] [(62, .bool false), (61, .agg cs), (52, .tuple #[.agg cs, .bool false])] ?_; clear HF; intro a HF
         refine any_all [11] (by kernel_rfl) rfl ?_
         refine all_cons ?_ all_nil
         refine any_op HF (i := 11) rfl rfl ?_
         refine e_alloc HF HM (cs := #[vB 0, vB 0, vI 0, vI 0, .slice none 0 0]) rfl (by kernel_rfl) rfl (by decide) ?_
         clear HF HM; intro a w7 g7 HF HM
         refine keepS (HM.picks [1] (by decide) rfl) (fun HS => ?_)
         refine any_all [12] (by kernel_rfl) rfl ?_
         refine all_cons ?_ all_nil
         refine any_op HF (i := 12) rfl rfl ?_
         refine e_storeAll HF HM (i := 0) (cs := #[vB 0, vB 0, vI 0, vI 0, .slice none 0 0]) (ds := cs) rfl rfl rfl rfl si_bk rfl hs5 (h1) rfl ?_
         clear HM; intro w13_12 HM
         refine noS (by kernel_rfl) ?_
         refine ap HF (pastS (by kernel_rfl)) [13] #[true, true, true, true, true, true, true, true, true, true, true, true, true, true] [(8, .bool false)] ?_; clear HF; intro a HF
         refine any_done (by kernel_rfl) ?_
         exact ⟨cs, g7, HF.sub (by kernel_rfl), HM.picks [0, 1] (by decide) rfl, hs5, h1⟩
        refine all_cons ?_ all_nil
        refine any_op HF (i := 11) rfl rfl ?_
        refine e_alloc HF HM (cs := #[vB 0, vB 0, vI 0, vI 0, .slice none 0 0]) rfl (by kernel_rfl) rfl (by decide) ?_
        clear HF HM; intro a w7 g7 HF HM
        refine keepS (HM.picks [1] (by decide) rfl) (fun HS => ?_)
        refine any_all [7] (by kernel_rfl) rfl ?_
        refine all_cons ?_ all_nil
        refine any_op HF (i := 7) rfl rfl ?_
        refine e_call HF (vs := [vB (Lb.getD 7 0), .slice (if cp = 8 then some ⟨gA, oA, none⟩ else (some ⟨gA, oA, none⟩ : Option Addr).map (·.add (8 * 1))) (((lenR l).1 - 4) - 8) (cp - 8)]) rfl (by kernel_rfl) (by kernel_rfl) rfl (by decide) ((parse_any (Lb.getD 7 0) hkd _ (((lenR l).1 - 4) - 8) (cp - 8) ((Lb.take (Lb.length - 4)).drop 8) B _ (hL.mem HM hB) (HM.le hB) (HM.old (by rw [hnL]; exact hrL.midB8 (i := 8) (j := (lenR l).1 - 4) (by omega) (by omega) (by omega))) (by omega) (by rw [List.length_drop, List.length_take]; omega) (by omega) (drop_lt (take_lt hlL _) _)).mono (fun _ _ h => h.none hp)) ?_
        rintro _ w60 ⟨⟨cs, rfl, hs5, h1⟩, hbw⟩
        refine ⟨_, rfl, ?_⟩
        replace HM := HM.call hbw
        clear HF; intro a HF
        refine keepS (HM.picks [1] (by decide) rfl) (fun HS => ?_)
        refine ap HF (fun _ => HS) [8, 9, 10] #[true, true, true, true, true, true, true, true, true, true, true, true, false, false] [(62, .bool false), (61, .agg cs), (52, .tuple #[.agg cs, .bool false])] ?_; clear HF; intro a HF
        refine any_all [12] (by kernel_rfl) rfl ?_
        refine all_cons ?_ all_nil
        refine any_op HF (i := 12) rfl rfl ?_
        refine e_storeAll HF HM (i := 0) (cs := #[vB 0, vB 0, vI 0, vI 0, .slice none 0 0]) (ds := cs) rfl rfl rfl rfl si_bk rfl hs5 (h1) rfl ?_
        clear HM; intro w13_12 HM
        refine noS (by kernel_rfl) ?_
        refine ap HF (pastS (by kernel_rfl)) [13] #[true, true, true, true, true, true, true, true, true, true, true, true, true, true] [(8, .bool false)] ?_; clear HF; intro a HF
        refine any_done (by kernel_rfl) ?_
        exact ⟨cs, g7, HF.sub (by kernel_rfl), HM.picks [0, 1] (by decide) rfl, hs5, h1⟩
       clear HF HM; rintro a w13 ⟨cs, g7, HF, HM, hs5, h1⟩
       refine wp_seq (wp_seq (from_start ?_))
       refine fp HF 2 0 [(64, .bool true), (63, .bool false)] ?_; clear HF; intro a HF
       refine from_done rfl ?_
       refine cond_true HF rfl (wp_seq (from_start ?_))
       refine fy HF HM 0 rfl rfl rfl (v := .agg #[vB 0, vB 0, vI 0, vI 0, .slice none 0 0]) (Yl.build (vs := []) rfl (by kernel_rfl) (by kernel_rfl)) ?_; clear HF; intro a HF
       refine from_op HF (i := 1) rfl rfl ?_
       refine e_storeAll HF HM (i := 1) (cs := #[vB 0, vB 0, vI 0, vI 0, .slice none 0 0]) (ds := #[vB 0, vB 0, vI 0, vI 0, .slice none 0 0]) rfl rfl rfl rfl si_bk rfl rfl (by simp [Value.oneCell']) rfl ?_
       clear HM; intro w15_1 HM
       refine fp HF 2 2 [(4, vI 106), (3, vI 0)] ?_; clear HF; intro a HF
       refine from_done rfl ?_
       refine wp_ret ?_
       exact ret3 rfl HF (.cellS (i := 1) HF HM rfl rfl si_bk rfl) (.tmp HF rfl) (.tmp HF rfl) (breadIs_bad (readB_none hl0 hLb (by unfold blkOf; rw [if_neg (by rw [hs]; decide), if_neg (fun hh => hh hmg), if_neg (by omega), if_neg (by omega), hp])) HM.below)
      ·
       refine cond_false HF rfl (wp_skip ?_)
       refine cut_seq (fun aS wS => ∃ (Ab : Option Addr) (cb : Nat) (g7 : Nat), Fr aS 68 [] [(8, .bool true), (7, vP g7 0), (40, .bool false), (34, .bool false), (26, .bool false), (21, .bool false), (0, .slice (some ⟨gA, oA, none⟩) ((lenR l).1) cp), (15, .bool false), (6, vI ((lenR l).2)), (5, vI ((lenR l).1)), (4, vI 0), (3, vI 0), (2, vP g2 0)] ∧ Mem w wS [.blk g7 (b.cells Ab cb) 27, .row (.slice Ab b.evs.length cb) b.evs.length (b.evs.flatMap evL) 46 11, .blk g2 #[vB 0, vB 0, vI 0, vI 0, .slice none 0 0] 27] ∧ (b.evs.length ≤ cb)) ?_ ?_
       ·
        refine any_start (by kernel_rfl) (fun wS => Mem w wS [.blk g2 #[vB 0, vB 0, vI 0, vI 0, .slice none 0 0] 27]) [12] ?_
        replace HM := HM.drew
        have HS := HM.picks (fs' := [.blk g2 #[vB 0, vB 0, vI 0, vI 0, .slice none 0 0] 27]) [0] (by decide) rfl
        refine ap HF (fun _ => HS) [0, 3, 4] #[true, false, false, true, true, false, false, false, false, false, false, false, false, false] [(57, vI ((lenR l).1)), (56, .slice (some ⟨gA, oA, none⟩) ((lenR l).1) cp), (53, .slice (some ⟨gA, oA, none⟩) ((lenR l).1) cp)] ?_; clear HF; intro a HF
        refine ay HF HS 1 rfl rfl rfl (v := vP gA (oA + 7)) (Yl.indexAddr (ad := ⟨gA, oA, none⟩) (y := 7) (sz := 1) rfl rfl rfl (by omega) (by kernel_rfl)) ?_; clear HF; intro a HF
        have hx463 := getD_lt hlL (k := 7) (by first | omega | (simp; omega))
        refine ay HF HS 2 rfl rfl rfl (v := vB (Lb.getD 7 0)) (Yl.load1 rfl rfl (by kernel_rfl) (fun _ h => (h.old hrL).oneAt1 (k := 7) (map_at (F := B8) (k := 7) (x := (Lb.getD 7 0)) ((getD_at 0 (k := 7) (by first | omega | (simp; omega))))))) ?_; clear HF; intro a HF
        refine any_pure HF (fun _ => HS) (i := 5) rfl rfl (d := 58) rfl (by decide) (by kernel_rfl) (fun _ _ _ h => h) (v := vI (IntKind.i64.wrap (((lenR l).1 : Int) - 4))) (fun _ => Yl.pure (by kernel_rfl)) ?_; clear HF; intro a HF
        replace HF := HF.as (t := 58) (u := vI ((lenR l).1 - 4 : Nat)) rfl (i64_nat (by omega) (by omega))
        refine ay HF HS 6 rfl rfl rfl (v := .slice (if cp = 8 then some ⟨gA, oA, none⟩ else (some ⟨gA, oA, none⟩ : Option Addr).map (·.add (8 * 1))) (((lenR l).1 - 4) - 8) (cp - 8)) (Yl.slice2 ei_u8 (i := 8) (j := (lenR l).1 - 4) rfl rfl rfl rfl (by omega) (by omega)) ?_; clear HF; intro a HF
        refine any_all [7, 11] (by kernel_rfl) rfl ?_
        refine all_cons ?_ ?_
        ·refine any_op HF (i := 7) rfl rfl ?_
         refine e_call HF (vs := [vB (Lb.getD 7 0), .slice (if cp = 8 then some ⟨gA, oA, none⟩ else (some ⟨gA, oA, none⟩ : Option Addr).map (·.add (8 * 1))) (((lenR l).1 - 4) - 8) (cp - 8)]) rfl (by kernel_rfl) (by kernel_rfl) rfl (by decide) ((parse_any (Lb.getD 7 0) hkd _ (((lenR l).1 - 4) - 8) (cp - 8) ((Lb.take (Lb.length - 4)).drop 8) B _ (hL.mem HM hB) (HM.le hB) (HM.old (by rw [hnL]; exact hrL.midB8 (i := 8) (j := (lenR l).1 - 4) (by omega) (by omega) (by omega))) (by omega) (by rw [List.length_drop, List.length_take]; omega) (by omega) (drop_lt (take_lt hlL _) _)).mono (fun _ _ h => h.some hp)) ?_
         rintro _ w60 ⟨⟨Ab, cb, rfl, ho, hcb⟩, hbw⟩
         refine ⟨_, rfl, ?_⟩
         replace HM := HM.callRow hbw ho
         clear HF; intro a HF
         refine keepS (HM.picks [1] (by decide) rfl) (fun HS => ?_)
         refine ap HF (fun _ => HS) [8, 9, 10] #[true, true, true, true, true, true, true, true, true, true, true, false, false, false] [(62, .bool true), (61, .agg (b.cells Ab cb)), (52, .tuple #[.agg (b.cells Ab cb), .bool true])] ?_; clear HF; intro a HF
         refine any_all [11] (by kernel_rfl) rfl ?_
         refine all_cons ?_ all_nil
         refine any_op HF (i := 11) rfl rfl ?_
         refine e_alloc HF HM (cs := #[vB 0, vB 0, vI 0, vI 0, .slice none 0 0]) rfl (by kernel_rfl) rfl (by decide) ?_
         clear HF HM; intro a w7 g7 HF HM
         refine keepS (HM.picks [2] (by decide) rfl) (fun HS => ?_)
         refine any_all [12] (by kernel_rfl) rfl ?_
         refine all_cons ?_ all_nil
         refine any_op HF (i := 12) rfl rfl ?_
         refine e_storeAll HF HM (i := 0) (cs := #[vB 0, vB 0, vI 0, vI 0, .slice none 0 0]) (ds := (b.cells Ab cb)) rfl rfl rfl rfl si_bk rfl rfl (bk_one _ _ _) rfl ?_
         clear HM; intro w13_12 HM
         refine noS (by kernel_rfl) ?_
         refine ap HF (pastS (by kernel_rfl)) [13] #[true, true, true, true, true, true, true, true, true, true, true, true, true, true] [(8, .bool true)] ?_; clear HF; intro a HF
         refine any_done (by kernel_rfl) ?_
         exact ⟨Ab, cb, g7, HF.sub (by kernel_rfl), HM.picks [0, 1, 2] (by decide) rfl, hcb⟩
        refine all_cons ?_ all_nil
        refine any_op HF (i := 11) rfl rfl ?_
        refine e_alloc HF HM (cs := #[vB 0, vB 0, vI 0, vI 0, .slice none 0 0]) rfl (by kernel_rfl) rfl (by decide) ?_
        clear HF HM; intro a w7 g7 HF HM
        refine keepS (HM.picks [1] (by decide) rfl) (fun HS => ?_)
        refine any_all [7] (by kernel_rfl) rfl ?_
        refine all_cons ?_ all_nil
        refine any_op HF (i := 7) rfl rfl ?_
        refine e_call HF (vs := [vB (Lb.getD 7 0), .slice (if cp = 8 then some ⟨gA, oA, none⟩ else (some ⟨gA, oA, none⟩ : Option Addr).map (·.add (8 * 1))) (((lenR l).1 - 4) - 8) (cp - 8)]) rfl (by kernel_rfl) (by kernel_rfl) rfl (by decide) ((parse_any (Lb.getD 7 0) hkd _ (((lenR l).1 - 4) - 8) (cp - 8) ((Lb.take (Lb.length - 4)).drop 8) B _ (hL.mem HM hB) (HM.le hB) (HM.old (by rw [hnL]; exact hrL.midB8 (i := 8) (j := (lenR l).1 - 4) (by omega) (by omega) (by omega))) (by omega) (by rw [List.length_drop, List.length_take]; omega) (by omega) (drop_lt (take_lt hlL _) _)).mono (fun _ _ h => h.some hp)) ?_
        rintro _ w60 ⟨⟨Ab, cb, rfl, ho, hcb⟩, hbw⟩
        refine ⟨_, rfl, ?_⟩
        replace HM := HM.callRow hbw ho
        clear HF; intro a HF
        refine keepS (HM.picks [2] (by decide) rfl) (fun HS => ?_)
        refine ap HF (fun _ => HS) [8, 9, 10] #[true, true, true, true, true, true, true, true, true, true, true, true, false, false] [(62, .bool true), (61, .agg (b.cells Ab cb)), (52, .tuple #[.agg (b.cells Ab cb), .bool true])] ?_; clear HF; intro a HF
        refine any_all [12] (by kernel_rfl) rfl ?_
        refine all_cons ?_ all_nil
        refine any_op HF (i := 12) rfl rfl ?_
        refine e_storeAll HF HM (i := 1) (cs := #[vB 0, vB 0, vI 0, vI 0, .slice none 0 0]) (ds := (b.cells Ab cb)) rfl rfl rfl rfl si_bk rfl rfl (bk_one _ _ _) rfl ?_
        clear HM; intro w13_12 HM
        refine noS (by kernel_rfl) ?_
        refine ap HF (pastS (by kernel_rfl)) [13] #[true, true, true, true, true, true, true, true, true, true, true, true, true, true] [(8, .bool true)] ?_; clear HF; intro a HF
        refine any_done (by kernel_rfl) ?_
        exact ⟨Ab, cb, g7, HF.sub (by kernel_rfl), HM.picks [1, 0, 2] (by decide) rfl, hcb⟩
       clear HF HM; rintro a w13 ⟨Ab, cb, g7, HF, HM, hcb⟩
       refine wp_seq (wp_seq (from_start ?_))
       refine fp HF 2 0 [(64, .bool false), (63, .bool true)] ?_; clear HF; intro a HF
       refine from_done rfl ?_
       refine cond_false HF rfl (wp_skip (wp_seq (from_start ?_)))
       refine fy HF HM 0 rfl rfl rfl (v := .agg (b.cells Ab cb)) (Yl.loadS rfl rfl si_bk rfl (fun _ h => range_of_block (h.blk (i := 0) rfl))) ?_; clear HF; intro a HF
       refine fp HF 1 1 [(67, vI ((lenR l).1))] ?_; clear HF; intro a HF
       refine from_op HF (i := 2) rfl rfl ?_
       refine e_storeAll HF HM (i := 2) (cs := #[vB 0, vB 0, vI 0, vI 0, .slice none 0 0]) (ds := (b.cells Ab cb)) rfl rfl rfl rfl si_bk rfl rfl (bk_one _ _ _) rfl ?_
       clear HM; intro w16_2 HM
       refine fp HF 2 3 [(4, vI 0), (3, vI ((lenR l).1))] ?_; clear HF; intro a HF
       refine from_done rfl ?_
       refine wp_ret ?_
       exact ret3 rfl HF (.cellS (i := 2) HF HM rfl rfl si_bk rfl) (.tmp HF rfl) (.tmp HF rfl) (breadIs_ok (readB_some (e := 0) hl0 hLb (by unfold blkOf; rw [if_neg (by rw [hs]; decide), if_neg (fun hh => hh hmg), if_neg (by omega), if_neg (by omega), hp])) (HM.own (i := 1) rfl) hcb HM.below)
end Go.Proofs.YtnakabnmjnfpcaaDoor

namespace Go.Proofs.YtnakabnmjnfpcaaDoor
open Go.RowKit
theorem BytesIs.as {w w' : World} {er er' : Nat} {R R' : List Nat} {r : Ending} (h : BytesIs w er R r w') (h1 : er = er') (h2 : R = R') : BytesIs w er' R' r w' := by subst h1; subst h2; exact h
theorem bwrite_is (b : Bk) (hok : b.Ok) (A : Option Addr) (c B : Nat) (w : World) (hL : LaidX B w) (hB : B ≤ w.heap.size) (hr : Rd w w.heap.size 11 A b.evs.length (b.evs.flatMap evL)) (hn : b.evs.length ≤ 1000000) {er : Nat} {R : List Nat} (h1 : b.err = er) (h2 : b.out = R) : Calls Tryd.prog 16 #[.agg (b.cells A c)] w (BytesIs w er R) :=
  (bwrite_any b hok A c B w hL hB hr hn).mono fun _ _ h => h.as h1 h2
theorem bsize_is (b : Bk) (hok : b.Ok) (A : Option Addr) (c B : Nat) (w : World) (hL : LaidX B w) (hB : B ≤ w.heap.size) (hr : Rd w w.heap.size 11 A b.evs.length (b.evs.flatMap evL)) (hn : b.evs.length ≤ 1000000) {er n : Nat} (h1 : b.err = er) (h2 : b.out.length = n) : Calls Tryd.prog 18 #[.agg (b.cells A c)] w (Is w (.tuple #[.int .i64 (n : Int), .int .i64 (er : Int)])) :=
  (bsize_any b hok A c B w hL hB hr hn).mono fun _ _ h => by rw [h1, h2] at h; exact h
theorem bcheck_is (b : Bk) (hok : b.Ok) (A : Option Addr) (c B : Nat) (w : World) (hL : LaidX B w) (hB : B ≤ w.heap.size) (hr : Rd w w.heap.size 11 A b.evs.length (b.evs.flatMap evL)) (hn : b.evs.length ≤ 1000000) {er : Nat} (h1 : b.err = er) : Calls Tryd.prog 19 #[.agg (b.cells A c)] w (Is w (.int .i64 (er : Int))) :=
  (bcheck_any b hok A c B w hL hB hr hn).mono fun _ _ h => by rw [h1] at h; exact h
theorem bread_is (A : Option Addr) (n cp : Nat) (l : List Nat) (B : Nat) (w : World) (hL : LaidX B w) (hB : B ≤ w.heap.size) (hr : Rd w w.heap.size 1 A n (l.map B8)) (hc : n ≤ cp) (hln : l.length = n) (hn : n ≤ 9223372036854775807) (hl : ∀ b ∈ l, b < 256) {b : Bk} {m er : Nat} (h : readB l = (b, m, er)) :
    Calls Tryd.prog 11 #[.slice A n cp] w fun r w' => (∃ A c, r = .returned (.tuple #[.agg (b.cells A c), .int .i64 (m : Int), .int .i64 (er : Int)]) ∧ w'.ownsRow w.heap.size 46 11 (.slice A b.evs.length c) b.evs.length (b.evs.flatMap evL) ∧ b.evs.length ≤ c) ∧ Below w.heap.size w w' :=
  (bread_any A n cp l B w hL hB hr hc hln hn hl).mono fun _ _ hh => by rw [h] at hh; exact hh
theorem length_is (A : Option Addr) (n cp : Nat) (l : List Nat) (w : World) (hr : Rd w w.heap.size 1 A n (l.map B8)) (hln : l.length = n) (hn : n ≤ 9223372036854775807) (hl : ∀ b ∈ l, b < 256) {m er : Nat} (h : lenR l = (m, er)) :
    Calls Tryd.prog 9 #[.slice A n cp] w (Is w (.tuple #[.int .i64 (m : Int), .int .i64 (er : Int)])) :=
  (length_any A n cp l w hr hln hn hl).mono fun _ _ hh => by rw [h] at hh; exact hh
theorem str_lit {l : List Nat} {d : Array UInt8} (h : (l.map fun b => UInt8.ofNat b).toArray = d) : ((bstr l).toList == (ByteArray.mk d).toList) = true := by subst h; unfold bstr; simp
theorem bstr_ne {l m : List Nat} (hl : ∀ b ∈ l, b < 256) (hm : ∀ b ∈ m, b < 256) : ((bstr l).toList == (bstr m).toList) = decide (l = m) := by
  rw [Bool.eq_iff_iff, beq_iff_eq, decide_eq_true_eq]
  constructor
  · intro h
    refine bstr_inj hl hm ?_
    rw [ByteArray.toList_eq, ByteArray.toList_eq] at h
    cases hx : bstr l; cases hy : bstr m
    rw [hx, hy] at h
    simpa using h
  · rintro rfl; rfl
def tickE : Ev := { Ev.zero with seq := 5, time := 340, cpu := 2, kind := 5, ticks := 40, got := 7 }
def awX : List Nat := [13, 0, 0, 0, 113, 116, 1, 2, 7, 91, 144, 57, 154]
def awY : List Nat := [23, 0, 0, 0, 113, 116, 1, 1, 2, 0, 1, 5, 212, 2, 5, 0, 0, 40, 7, 28, 64, 73, 151]
def awZ : List Nat := [13, 0, 0, 0, 113, 116, 1, 2, 6, 91, 144, 57, 154]
theorem numOk (k c : Nat) (lo nx : Int) (hk : k < 256) (hc : c < 256) (hl : I64 lo) (hn : I64 nx) : Bk.Ok ⟨k, c, lo, nx, []⟩ := ⟨hk, hc, hl, hn, by intro e he; cases he⟩
theorem tickOk : tickE.Ok := ⟨⟨by decide, by decide⟩, ⟨by decide, by decide⟩, by decide, by decide, ⟨by decide, by decide⟩, ⟨by decide, by decide⟩, ⟨by decide, by decide⟩, ⟨by decide, by decide⟩, ⟨by decide, by decide⟩, by decide, ⟨by decide, by decide⟩⟩
theorem oneOk {k c : Nat} {lo nx : Int} {e : Ev} (hk : k < 256) (hc : c < 256) (hl : I64 lo) (hn : I64 nx) (he : e.Ok) : Bk.Ok ⟨k, c, lo, nx, [e]⟩ := ⟨hk, hc, hl, hn, by intro x hx; simp at hx; subst hx; exact he⟩
theorem ba1 : Bk.err ⟨2, 0, 0, 7, []⟩ = 0 ∧ Bk.out ⟨2, 0, 0, 7, []⟩ = awX := by decide +kernel
theorem ba2 : Bk.err ⟨1, 2, 0, 0, [tickE]⟩ = 0 ∧ Bk.out ⟨1, 2, 0, 0, [tickE]⟩ = awY := by decide +kernel
theorem ba3 : Bk.err ⟨1, 2, 3, 0, []⟩ = 0 ∧ (Bk.out ⟨1, 2, 3, 0, []⟩).length = 15 := by decide +kernel
theorem ba4 : readB awX = (⟨2, 0, 0, 7, []⟩, 13, 0) := by decide +kernel
theorem ba5 : readB awZ = (Bk.zero, 0, 102) := by decide +kernel
theorem ba6 : readB (awZ.take 4) = (Bk.zero, 0, 100) := by decide +kernel
theorem ba7 : lenR [12, 0, 0, 0] = (0, 101) := by decide +kernel
theorem ba8 : Bk.err ⟨1, 2, 0, 0, []⟩ = 107 := by decide +kernel
theorem ba9 : Bk.err ⟨2, 0, 0, 0, []⟩ = 107 := by decide +kernel
theorem awX_lt : ∀ b ∈ awX, b < 256 := by decide
theorem awZ_lt : ∀ b ∈ awZ, b < 256 := by decide
end Go.Proofs.YtnakabnmjnfpcaaDoor

namespace Go.Proofs.YtnakabnmjnfpcaaDoor
open Go.RowKit
def Bk.sz (b : Bk) (k : Nat) : Nat := 12 + (vbytes b.cpu).length + (vbytes b.lost.toNat).length + (vbytes b.base.seq.toNat).length + (vbytes b.base.time.toNat).length + (recs b.base (b.evs.take k)).length
def Bk.big (b : Bk) (k : Nat) : Bool := decide (4096 < b.sz k + (vbytes k).length)
def Bk.fillN (b : Bk) : Nat := ((List.range b.evs.length).find? fun i => b.big (i + 1)).getD b.evs.length
def Bk.fill (b : Bk) : Nat × Nat := if b.fits = false then (0, 107) else (b.fillN, 0)
end Go.Proofs.YtnakabnmjnfpcaaDoor

set_option linter.all false
namespace Go.Proofs.YtnakabnmjnfpcaaDoor
open Go.RowKit
set_option maxRecDepth 100000 in
set_option maxHeartbeats 4000000 in
theorem tick_any (w : World) : Calls Tryd.prog 17 #[] w (Is w (.agg tickE.cells)) := by
 refine calls_enter (vs := []) Tryd.func17 rfl rfl (by kernel_rfl) (σ0 := []) rfl ?_
 intro a HF
 have HM := Mem.start w
 refine wp_seq (from_start ?_)
 refine from_op HF (i := 0) rfl rfl ?_
 refine e_alloc HF HM (cs := #[vI 0, vI 0, vB 0, vB 0, vI 0, vI 0, vI 0, vI 0, vI 0, vQ 0, vI 0]) rfl (by kernel_rfl) rfl (by decide) ?_
 clear HF HM; intro a w0 g0 HF HM
 refine from_done rfl ?_
 refine wp_seq (from_start ?_)
 refine fy HF HM 0 rfl rfl rfl (v := .agg #[vI 5, vI 340, vB 2, vB 5, vI 0, vI 0, vI 0, vI 0, vI 40, vQ 0, vI 7]) (Yl.build (vs := [(0, vI 5), (1, vI 340), (2, vB 2), (3, vB 5), (8, vI 40), (10, vI 7)]) rfl (by kernel_rfl) (by kernel_rfl)) ?_; clear HF; intro a HF
 refine from_op HF (i := 1) rfl rfl ?_
 refine e_storeAll HF HM (i := 0) (cs := #[vI 0, vI 0, vB 0, vB 0, vI 0, vI 0, vI 0, vI 0, vI 0, vQ 0, vI 0]) (ds := #[vI 5, vI 340, vB 2, vB 5, vI 0, vI 0, vI 0, vI 0, vI 40, vQ 0, vI 7]) rfl rfl rfl rfl ⟨(by kernel_rfl), (by kernel_rfl)⟩ rfl rfl (by simp [Value.oneCell']) rfl ?_
 clear HM; intro w1_1 HM
 refine from_done rfl ?_
 refine wp_ret ?_
 exact ret1 rfl HF (.cellS (i := 0) HF HM rfl rfl ⟨(by kernel_rfl), (by kernel_rfl)⟩ rfl) (⟨rfl, HM.below⟩)
set_option maxRecDepth 100000 in
set_option maxHeartbeats 4000000 in
theorem bawake_any (B : Nat) (w : World) (hL : LaidX B w) (hB : B ≤ w.heap.size) : Calls Tryd.prog 6 #[] w (Is w (.bool true)) := by
 refine calls_enter (vs := []) Tryd.func6 rfl rfl (by kernel_rfl) (σ0 := []) rfl ?_
 intro a HF
 have HM := Mem.start w
 refine wp_seq (from_start ?_)
 refine fp HF 1 0 [(0, .bool false)] ?_; clear HF; intro a HF
 refine from_done rfl ?_
 refine wp_seq (from_start ?_)
 refine fy HF HM 0 rfl rfl rfl (v := .agg #[vB 2, vB 0, vI 0, vI 7, .slice none 0 0]) (Yl.build (vs := [(0, vB 2), (3, vI 7)]) rfl (by kernel_rfl) (by kernel_rfl)) ?_; clear HF; intro a HF
 refine from_op HF (i := 1) rfl rfl ?_
 refine e_call HF (vs := [.agg #[vB 2, vB 0, vI 0, vI 7, .slice none 0 0]]) rfl (by kernel_rfl) (by kernel_rfl) rfl (by decide) (bwrite_is (⟨2, 0, 0, 7, []⟩ : Bk) (numOk 2 0 0 7 (by decide) (by decide) (by unfold I64; decide) (by unfold I64; decide)) none 0 B _ (hL.mem HM hB) (HM.le hB) (Rd.nil) (by decide) (ba1.1) (ba1.2)) ?_
 rintro _ w20 ⟨⟨A20, c20, rfl, ho, hc20⟩, hbw⟩
 refine ⟨_, rfl, ?_⟩
 replace HM := HM.callRow hbw ho
 clear HF; intro a HF
 have hcn20 : 13 ≤ c20 := hc20
 refine fp HF 5 2 [(2, vI 0), (1, .slice A20 13 c20), (22, vI 0), (21, .slice A20 13 c20), (18, .tuple #[.slice A20 13 c20, vI 0])] ?_; clear HF; intro a HF
 refine from_done rfl ?_
 refine wp_seq (from_start ?_)
 refine from_op HF (i := 0) rfl rfl ?_
 refine e_call HF (vs := []) rfl (by kernel_rfl) (by kernel_rfl) rfl (by decide) (tick_any _) ?_
 rintro _ w24 ⟨rfl, hbw⟩
 refine ⟨_, rfl, ?_⟩
 replace HM := HM.call hbw
 clear HF; intro a HF
 refine from_op HF (i := 1) rfl rfl ?_
 refine e_slice HF HM (vs := [(0, .agg #[vI 5, vI 340, vB 2, vB 5, vI 0, vI 0, vI 0, vI 0, vI 40, vQ 0, vI 7])]) (cs := #[vI 5, vI 340, vB 2, vB 5, vI 0, vI 0, vI 0, vI 0, vI 40, vQ 0, vI 7]) rfl ei_ev (by decide) rfl (by kernel_rfl) rfl (by decide) ?_
 clear HF HM; intro a w25 g25 HF HM
 refine fy HF HM 2 rfl rfl rfl (v := .agg #[vB 1, vB 2, vI 0, vI 0, vS g25 1 1]) (Yl.build (vs := [(0, vB 1), (1, vB 2), (4, vS g25 1 1)]) rfl (by kernel_rfl) (by kernel_rfl)) ?_; clear HF; intro a HF
 refine from_op HF (i := 3) rfl rfl ?_
 refine e_call HF (vs := [.agg #[vB 1, vB 2, vI 0, vI 0, vS g25 1 1]]) rfl (by kernel_rfl) (by kernel_rfl) rfl (by decide) (bwrite_is (⟨1, 2, 0, 0, [tickE]⟩ : Bk) (oneOk (by decide) (by decide) (by unfold I64; decide) (by unfold I64; decide) tickOk) (some ⟨g25, 0, none⟩) 1 B _ (hL.mem HM hB) (HM.le hB) (HM.rdBlk (i := 0) (n := 1) (size := 11) rfl rfl) (by decide) (ba2.1) (ba2.2)) ?_
 rintro _ w27 ⟨⟨A27, c27, rfl, ho, hc27⟩, hbw⟩
 refine ⟨_, rfl, ?_⟩
 replace HM := HM.callRow hbw ho
 clear HF; intro a HF
 have hcn27 : 23 ≤ c27 := hc27
 refine fp HF 5 4 [(4, vI 0), (3, .slice A27 23 c27), (29, vI 0), (28, .slice A27 23 c27), (23, .tuple #[.slice A27 23 c27, vI 0])] ?_; clear HF; intro a HF
 refine from_done rfl ?_
 replace HM := HM.picks (fs' := [.row (.slice A27 23 c27) 23 (awY.map B8) 5 1, .row (.slice A20 13 c20) 13 (awX.map B8) 5 1]) [0, 2] (by decide) rfl
 refine wp_seq (from_start ?_)
 refine fy HF HM 0 rfl rfl rfl (v := .agg #[vB 1, vB 2, vI 3, vI 0, .slice none 0 0]) (Yl.build (vs := [(0, vB 1), (1, vB 2), (2, vI 3)]) rfl (by kernel_rfl) (by kernel_rfl)) ?_; clear HF; intro a HF
 refine from_op HF (i := 1) rfl rfl ?_
 refine e_call HF (vs := [.agg #[vB 1, vB 2, vI 3, vI 0, .slice none 0 0]]) rfl (by kernel_rfl) (by kernel_rfl) rfl (by decide) (bsize_is (⟨1, 2, 3, 0, []⟩ : Bk) (numOk 1 2 3 0 (by decide) (by decide) (by unfold I64; decide) (by unfold I64; decide)) none 0 B _ (hL.mem HM hB) (HM.le hB) (Rd.nil) (by decide) (ba3.1) (ba3.2)) ?_
 rintro _ w32 ⟨rfl, hbw⟩
 refine ⟨_, rfl, ?_⟩
 replace HM := HM.call hbw
 clear HF; intro a HF
 refine fp HF 5 2 [(6, vI 0), (5, vI 15), (34, vI 0), (33, vI 15), (30, .tuple #[vI 15, vI 0])] ?_; clear HF; intro a HF
 refine from_done rfl ?_
 replace HF := HF.to [(6, vI 0), (5, vI 15), (4, vI 0), (3, .slice A27 23 c27), (2, vI 0), (1, .slice A20 13 c20), (0, .bool false)]
 refine wp_seq (wp_seq (from_start ?_))
 refine fp HF 8 0 [(42, .slice A20 13 c20), (41, .bool false), (40, .bool false), (39, vI 0), (38, vI 0), (37, vI 0), (36, vI 0), (35, vI 0)] ?_; clear HF; intro a HF
 refine fy HF HM 8 rfl rfl rfl (Yl.len rfl rfl (by kernel_rfl)) ?_; clear HF; intro a HF
 refine fp HF 4 9 [(47, .slice A20 13 c20), (46, .bool false), (45, .bool false), (44, .bool false)] ?_; clear HF; intro a HF
 refine fy HF HM 13 rfl rfl rfl (v := .slice A20 9 c20) (Yl.sliceUpto ei_u8 (j := 9) rfl rfl rfl (by omega)) ?_; clear HF; intro a HF
 refine fy HF HM 14 rfl rfl rfl (v := .string (bstr (awX.take 9))) (Yl.str rfl rfl (fun _ h => (h.rd (i := 1) rfl).toB8 (k := 9) (by decide))) ?_; clear HF; intro a HF
 refine fp HF 1 15 [(50, .bool (!(((bstr (awX.take 9))).toList == ((ByteArray.mk #[13, 0, 0, 0, 113, 116, 1, 2, 7])).toList)))] ?_; clear HF; intro a HF
 replace HF := HF.as (t := 50) (u := .bool false) rfl (by rw [str_lit (by kernel_rfl)]; rfl)
 refine fp HF 3 16 [(53, .slice A27 23 c27), (52, .bool false), (51, .bool false)] ?_; clear HF; intro a HF
 refine fy HF HM 19 rfl rfl rfl (Yl.len rfl rfl (by kernel_rfl)) ?_; clear HF; intro a HF
 refine fp HF 4 20 [(58, .slice A27 23 c27), (57, .bool false), (56, .bool false), (55, .bool false)] ?_; clear HF; intro a HF
 refine fy HF HM 24 rfl rfl rfl (v := .slice A27 19 c27) (Yl.sliceUpto ei_u8 (j := 19) rfl rfl rfl (by omega)) ?_; clear HF; intro a HF
 refine fy HF HM 25 rfl rfl rfl (v := .string (bstr (awY.take 19))) (Yl.str rfl rfl (fun _ h => (h.rd (i := 0) rfl).toB8 (k := 19) (by decide))) ?_; clear HF; intro a HF
 refine fp HF 1 26 [(61, .bool (!(((bstr (awY.take 19))).toList == ((ByteArray.mk #[23, 0, 0, 0, 113, 116, 1, 1, 2, 0, 1, 5, 212, 2, 5, 0, 0, 40, 7])).toList)))] ?_; clear HF; intro a HF
 replace HF := HF.as (t := 61) (u := .bool false) rfl (by rw [str_lit (by kernel_rfl)]; rfl)
 refine fp HF 5 27 [(66, .bool false), (65, .bool false), (64, vI 15), (63, .bool false), (62, .bool false)] ?_; clear HF; intro a HF
 refine from_done rfl ?_
 replace HF := HF.to [(66, .bool false), (1, .slice A20 13 c20), (0, .bool false)]
 replace HM := HM.picks (fs' := [.row (.slice A20 13 c20) 13 (awX.map B8) 5 1]) [1] (by decide) rfl
 refine cond_false HF rfl (wp_skip (wp_seq (from_start ?_)))
 refine fp HF 1 0 [(68, .slice A20 13 c20)] ?_; clear HF; intro a HF
 refine from_op HF (i := 1) rfl rfl ?_
 refine e_call HF (vs := [.slice A20 13 c20]) rfl (by kernel_rfl) (by kernel_rfl) rfl (by decide) (bread_is A20 13 c20 awX B _ (hL.mem HM hB) (HM.le hB) (HM.rd (i := 0) rfl) (by omega) (rfl) (by decide) (awX_lt) (ba4)) ?_
 rintro _ w69 ⟨⟨A69, c69, rfl, ho, hc69⟩, hbw⟩
 refine ⟨_, rfl, ?_⟩
 replace HM := HM.callRow hbw ho
 clear HF; intro a HF
 refine fp HF 4 2 [(72, vI 0), (71, vI 13), (70, .agg #[vB 2, vB 0, vI 0, vI 7, .slice A69 0 c69]), (67, .tuple #[.agg #[vB 2, vB 0, vI 0, vI 7, .slice A69 0 c69], vI 13, vI 0])] ?_; clear HF; intro a HF
 refine from_op HF (i := 6) rfl rfl ?_
 refine e_alloc HF HM (cs := #[vB 0, vB 0, vI 0, vI 0, .slice none 0 0]) rfl (by kernel_rfl) rfl (by decide) ?_
 clear HF HM; intro a w7 g7 HF HM
 refine from_op HF (i := 7) rfl rfl ?_
 refine e_storeAll HF HM (i := 0) (cs := #[vB 0, vB 0, vI 0, vI 0, .slice none 0 0]) (ds := #[vB 2, vB 0, vI 0, vI 7, .slice A69 0 c69]) rfl rfl rfl rfl si_bk rfl rfl (by simp [Value.oneCell']) rfl ?_
 clear HM; intro w6_7 HM
 refine fp HF 2 8 [(9, vI 0), (8, vI 13)] ?_; clear HF; intro a HF
 refine from_done rfl ?_
 refine wp_seq (from_start ?_)
 refine fp HF 1 0 [(73, .slice A20 13 c20)] ?_; clear HF; intro a HF
 obtain ⟨gA20, rfl⟩ := own_some (HM.own (i := 2) rfl) (Nat.lt_of_le_of_lt (Nat.zero_le _) (show 8 < 13 from by decide))
 refine fy HF HM 1 rfl rfl rfl (v := vP gA20 8) (Yl.indexAddr (ad := ⟨gA20, 0, none⟩) (y := 8) (sz := 1) rfl rfl rfl (by decide) (by kernel_rfl)) ?_; clear HF; intro a HF
 refine fy HF HM 2 rfl rfl rfl (v := vB 7) (Yl.load1 rfl rfl (by kernel_rfl) (fun _ h => h.rowOne (i := 2) rfl (k := 8) (map_at (F := B8) (k := 8) (x := 7) (rfl)))) ?_; clear HF; intro a HF
 refine fp HF 1 3 [(76, vB (IntKind.u8.wrap (BitVec.ofInt (IntKind.u8).bits (7 : Int) ^^^ BitVec.ofInt (IntKind.u8).bits 1).toNat))] ?_; clear HF; intro a HF
 replace HF := HF.as (t := 76) (u := vB 6) rfl (by kernel_rfl)
 refine fy HF HM 4 rfl rfl rfl (v := vP gA20 8) (Yl.indexAddr (ad := ⟨gA20, 0, none⟩) (y := 8) (sz := 1) rfl rfl rfl (by decide) (by kernel_rfl)) ?_; clear HF; intro a HF
 refine from_op HF (i := 5) rfl rfl ?_
 refine e_storeRow HF HM (i := 2) rfl rfl rfl rfl (by kernel_rfl) rfl rfl (by decide) ?_
 clear HM; intro w7_5 HM
 replace HM := HM.asRow (i := 2) (ys := awZ.map B8) rfl (putAt_one B8 awX 8 6 (by decide))
 refine from_done rfl ?_
 refine wp_seq (from_start ?_)
 refine fp HF 1 0 [(79, vS gA20 13 c20)] ?_; clear HF; intro a HF
 refine from_op HF (i := 1) rfl rfl ?_
 refine e_call HF (vs := [vS gA20 13 c20]) rfl (by kernel_rfl) (by kernel_rfl) rfl (by decide) (bread_is (some ⟨gA20, 0, none⟩) 13 c20 awZ B _ (hL.mem HM hB) (HM.le hB) (HM.rd (i := 2) rfl) (by omega) (rfl) (by decide) (awZ_lt) (ba5)) ?_
 rintro _ w80 ⟨⟨A80, c80, rfl, ho, hc80⟩, hbw⟩
 refine ⟨_, rfl, ?_⟩
 replace HM := HM.callRow hbw ho
 clear HF; intro a HF
 refine fp HF 4 2 [(83, vI 102), (82, vI 0), (81, .agg #[vB 0, vB 0, vI 0, vI 0, .slice A80 0 c80]), (78, .tuple #[.agg #[vB 0, vB 0, vI 0, vI 0, .slice A80 0 c80], vI 0, vI 102])] ?_; clear HF; intro a HF
 refine from_op HF (i := 6) rfl rfl ?_
 refine e_alloc HF HM (cs := #[vB 0, vB 0, vI 0, vI 0, .slice none 0 0]) rfl (by kernel_rfl) rfl (by decide) ?_
 clear HF HM; intro a w10 g10 HF HM
 refine from_op HF (i := 7) rfl rfl ?_
 refine e_storeAll HF HM (i := 0) (cs := #[vB 0, vB 0, vI 0, vI 0, .slice none 0 0]) (ds := #[vB 0, vB 0, vI 0, vI 0, .slice A80 0 c80]) rfl rfl rfl rfl si_bk rfl rfl (by simp [Value.oneCell']) rfl ?_
 clear HM; intro w8_7 HM
 refine fp HF 2 8 [(12, vI 102), (11, vI 0)] ?_; clear HF; intro a HF
 refine from_done rfl ?_
 replace HF := HF.to [(12, vI 102), (9, vI 0), (8, vI 13), (7, vP g7 0), (66, .bool false), (1, vS gA20 13 c20), (0, .bool false)]
 replace HM := HM.picks (fs' := [.row (.slice A80 Bk.zero.evs.length c80) Bk.zero.evs.length (Bk.zero.evs.flatMap evL) 46 11, .blk g7 #[vB 2, vB 0, vI 0, vI 7, .slice A69 0 c69] 27, .row (.slice A69 ((⟨2, 0, 0, 7, []⟩ : Bk).evs.length) c69) ((⟨2, 0, 0, 7, []⟩ : Bk).evs.length) ((⟨2, 0, 0, 7, []⟩ : Bk).evs.flatMap evL) 46 11, .row (vS gA20 13 c20) 13 (awZ.map B8) 5 1]) [1, 2, 3, 4] (by decide) rfl
 refine wp_seq (from_start ?_)
 refine fp HF 1 0 [(85, vS gA20 13 c20)] ?_; clear HF; intro a HF
 refine fy HF HM 1 rfl rfl rfl (v := vS gA20 4 c20) (Yl.sliceUpto ei_u8 (j := 4) rfl rfl rfl (by omega)) ?_; clear HF; intro a HF
 refine from_op HF (i := 2) rfl rfl ?_
 refine e_call HF (vs := [vS gA20 4 c20]) rfl (by kernel_rfl) (by kernel_rfl) rfl (by decide) (bread_is (some ⟨gA20, 0, none⟩) 4 c20 (awZ.take 4) B _ (hL.mem HM hB) (HM.le hB) (((HM.rd (i := 3) rfl).toB8 (k := 4) (by decide))) (by omega) (rfl) (by decide) ((take_lt awZ_lt 4)) (ba6)) ?_
 rintro _ w87 ⟨⟨A87, c87, rfl, ho, hc87⟩, hbw⟩
 refine ⟨_, rfl, ?_⟩
 replace HM := HM.callRow hbw ho
 clear HF; intro a HF
 refine fp HF 4 3 [(90, vI 100), (89, vI 0), (88, .agg #[vB 0, vB 0, vI 0, vI 0, .slice A87 0 c87]), (84, .tuple #[.agg #[vB 0, vB 0, vI 0, vI 0, .slice A87 0 c87], vI 0, vI 100])] ?_; clear HF; intro a HF
 refine from_op HF (i := 7) rfl rfl ?_
 refine e_alloc HF HM (cs := #[vB 0, vB 0, vI 0, vI 0, .slice none 0 0]) rfl (by kernel_rfl) rfl (by decide) ?_
 clear HF HM; intro a w13 g13 HF HM
 refine from_op HF (i := 8) rfl rfl ?_
 refine e_storeAll HF HM (i := 0) (cs := #[vB 0, vB 0, vI 0, vI 0, .slice none 0 0]) (ds := #[vB 0, vB 0, vI 0, vI 0, .slice A87 0 c87]) rfl rfl rfl rfl si_bk rfl rfl (by simp [Value.oneCell']) rfl ?_
 clear HM; intro w9_8 HM
 refine fp HF 2 9 [(15, vI 100), (14, vI 0)] ?_; clear HF; intro a HF
 refine from_done rfl ?_
 replace HM := HM.picks (fs' := [.row (.slice A87 Bk.zero.evs.length c87) Bk.zero.evs.length (Bk.zero.evs.flatMap evL) 46 11, .row (.slice A80 Bk.zero.evs.length c80) Bk.zero.evs.length (Bk.zero.evs.flatMap evL) 46 11, .blk g7 #[vB 2, vB 0, vI 0, vI 7, .slice A69 0 c69] 27, .row (.slice A69 ((⟨2, 0, 0, 7, []⟩ : Bk).evs.length) c69) ((⟨2, 0, 0, 7, []⟩ : Bk).evs.length) ((⟨2, 0, 0, 7, []⟩ : Bk).evs.flatMap evL) 46 11, .row (vS gA20 13 c20) 13 (awZ.map B8) 5 1]) [1, 2, 3, 4, 5] (by decide) rfl
 refine wp_seq (from_start ?_)
 refine from_op HF (i := 0) rfl rfl ?_
 refine e_slice HF HM (vs := [(0, vB 12), (1, vB 0), (2, vB 0), (3, vB 0)]) (cs := #[vB 12, vB 0, vB 0, vB 0]) rfl ei_u8 (by decide) rfl (by kernel_rfl) rfl (by decide) ?_
 clear HF HM; intro a w92 g92 HF HM
 refine from_op HF (i := 1) rfl rfl ?_
 refine e_call HF (vs := [vS g92 4 4]) rfl (by kernel_rfl) (by kernel_rfl) rfl (by decide) (length_is _ 4 _ [12, 0, 0, 0] _ (HM.rdBlk (i := 0) (n := 4) (size := 1) rfl rfl) rfl (by decide) (by decide) ba7) ?_
 rintro _ w93 ⟨rfl, hbw⟩
 refine ⟨_, rfl, ?_⟩
 replace HM := HM.call hbw
 clear HF; intro a HF
 refine fp HF 5 2 [(17, vI 101), (16, vI 0), (95, vI 101), (94, vI 0), (91, .tuple #[vI 0, vI 101])] ?_; clear HF; intro a HF
 refine from_done rfl ?_
 replace HM := HM.picks (fs' := [.row (.slice A87 Bk.zero.evs.length c87) Bk.zero.evs.length (Bk.zero.evs.flatMap evL) 46 11, .row (.slice A80 Bk.zero.evs.length c80) Bk.zero.evs.length (Bk.zero.evs.flatMap evL) 46 11, .blk g7 #[vB 2, vB 0, vI 0, vI 7, .slice A69 0 c69] 27, .row (.slice A69 ((⟨2, 0, 0, 7, []⟩ : Bk).evs.length) c69) ((⟨2, 0, 0, 7, []⟩ : Bk).evs.length) ((⟨2, 0, 0, 7, []⟩ : Bk).evs.flatMap evL) 46 11, .row (vS gA20 13 c20) 13 (awZ.map B8) 5 1]) [1, 2, 3, 4, 5] (by decide) rfl
 refine wp_seq (from_start ?_)
 refine fp HF 8 0 [(103, vP g7 0), (102, .bool true), (101, .bool true), (100, .bool true), (99, vI 13), (98, .bool true), (97, .bool true), (96, vI 0)] ?_; clear HF; intro a HF
 refine fy HF HM 8 rfl rfl rfl (Yl.load1 rfl rfl (by kernel_rfl) (fun _ h => h.cell (i := 2) rfl rfl)) ?_; clear HF; intro a HF
 refine fp HF 4 9 [(108, vP g7 3), (107, .bool true), (106, .bool true), (105, .bool true)] ?_; clear HF; intro a HF
 refine fy HF HM 13 rfl rfl rfl (Yl.load1 rfl rfl (by kernel_rfl) (fun _ h => h.cell (i := 2) rfl rfl)) ?_; clear HF; intro a HF
 refine fp HF 15 14 [(124, .bool true), (123, .bool true), (122, .bool true), (121, vI 101), (120, .bool true), (119, .bool true), (118, .bool true), (117, vI 100), (116, .bool true), (115, .bool true), (114, .bool true), (113, vI 102), (112, .bool true), (111, .bool true), (110, .bool true)] ?_; clear HF; intro a HF
 refine fy HF HM 29 rfl rfl rfl (v := .agg #[vB 1, vB 2, vI 0, vI 0, .slice none 0 0]) (Yl.build (vs := [(0, vB 1), (1, vB 2)]) rfl (by kernel_rfl) (by kernel_rfl)) ?_; clear HF; intro a HF
 refine from_op HF (i := 30) rfl rfl ?_
 refine e_call HF (vs := [.agg #[vB 1, vB 2, vI 0, vI 0, .slice none 0 0]]) rfl (by kernel_rfl) (by kernel_rfl) rfl (by decide) (bcheck_is (⟨1, 2, 0, 0, []⟩ : Bk) (numOk 1 2 0 0 (by decide) (by decide) (by unfold I64; decide) (by unfold I64; decide)) none 0 B _ (hL.mem HM hB) (HM.le hB) (Rd.nil) (by decide) (ba8)) ?_
 rintro _ w126 ⟨rfl, hbw⟩
 refine ⟨_, rfl, ?_⟩
 replace HM := HM.call hbw
 clear HF; intro a HF
 refine fp HF 3 31 [(129, .bool true), (128, .bool true), (127, .bool true)] ?_; clear HF; intro a HF
 refine fy HF HM 34 rfl rfl rfl (v := .agg #[vB 2, vB 0, vI 0, vI 0, .slice none 0 0]) (Yl.build (vs := [(0, vB 2)]) rfl (by kernel_rfl) (by kernel_rfl)) ?_; clear HF; intro a HF
 refine from_op HF (i := 35) rfl rfl ?_
 refine e_call HF (vs := [.agg #[vB 2, vB 0, vI 0, vI 0, .slice none 0 0]]) rfl (by kernel_rfl) (by kernel_rfl) rfl (by decide) (bcheck_is (⟨2, 0, 0, 0, []⟩ : Bk) (numOk 2 0 0 0 (by decide) (by decide) (by unfold I64; decide) (by unfold I64; decide)) none 0 B _ (hL.mem HM hB) (HM.le hB) (Rd.nil) (by decide) (ba9)) ?_
 rintro _ w131 ⟨rfl, hbw⟩
 refine ⟨_, rfl, ?_⟩
 replace HM := HM.call hbw
 clear HF; intro a HF
 refine fp HF 3 36 [(0, .bool true), (133, .bool true), (132, .bool true)] ?_; clear HF; intro a HF
 refine from_done rfl ?_
 replace HF := HF.to [(0, .bool true), (7, vP g7 0), (66, .bool false), (1, vS gA20 13 c20)]
 refine wp_ret ?_
 exact ret1 rfl HF (.tmp HF rfl) (⟨rfl, HM.below⟩)
end Go.Proofs.YtnakabnmjnfpcaaDoor

set_option linter.all false
namespace Go.Proofs.YtnakabnmjnfpcaaDoor
open Go.RowKit
end Go.Proofs.YtnakabnmjnfpcaaDoor

namespace Go.Proofs.YtnakabnmjnfpcaaDoor
open Go.RowKit
theorem ownsRow_cut {w : World} {base n m c size : Nat} {e : TypeId} {A : Option Addr} {xs : List Value} (h : w.ownsRow base e size (.slice A n c) n xs) (hm : m ≤ n) : w.ownsRow base e size (.slice A m c) m (xs.take (m * size)) := by
  have hms : m * size ≤ n * size := Nat.mul_le_mul_right _ hm
  refine ⟨by rw [List.length_take, h.1]; omega, ?_⟩
  rcases h.2 with ⟨hv, hn⟩ | ⟨g, cap, cur, hv, hb, hg, h1, h2, h3, h4⟩
  · injection hv with a1 a2 a3
    subst a1; subst a3; subst hn
    have : m = 0 := by omega
    subst this
    exact .inl ⟨rfl, rfl⟩
  · injection hv with a1 a2 a3
    subst a1; subst a3
    refine .inr ⟨g, c, cur, rfl, hb, hg, by omega, h2, h3, ?_⟩
    rw [← h4, List.take_take]
    congr 1
    omega
section
variable {W w : World} {fs : List Fact}
theorem Mem.cutRow (h : Mem W w fs) {i n m c size : Nat} {e : TypeId} {A : Option Addr} {xs ys : List Value} (hi : fs[i]? = some (.row (.slice A n c) n xs e size)) (hm : m ≤ n) (hy : xs.take (m * size) = ys) : Mem W w (fs.set i (.row (.slice A m c) m ys e size)) := by
  subst hy
  have hb := h.holds _ (List.mem_of_getElem? hi)
  exact h.turn hi h.below (fun _ _ _ => rfl) (ownsRow_cut hb hm) (fun g' hg' => .inl (by cases A <;> exact hg'))
end
theorem ei_pol : EI Tryd.prog 159 3 (.int .i64 0) 1 8 := ⟨by kernel_rfl, by kernel_rfl, rfl, by omega⟩
/-- A row of coefficients of the call's own. -/
def PolIs (w : World) (l : List Nat) (r : Ending) (w' : World) : Prop :=
  (∃ A c, r = .returned (.slice A l.length c) ∧ w'.ownsRow w.heap.size 3 1 (.slice A l.length c) l.length (l.map I64v) ∧ l.length ≤ c) ∧ Below w.heap.size w w'
/-- What Divide returns: the remainder; the dividend itself where it is the smaller one. -/
def DivIs (w : World) (A : Option Addr) (c : Nat) (a b : List Nat) (r : Ending) (w' : World) : Prop :=
  (∃ vq X c', r = .returned (.tuple #[vq, .slice X (divR (a.length + 1) a b).length c']) ∧ (a.length < b.length → X = A ∧ c' = c) ∧ (b.length ≤ a.length → w'.ownsRow w.heap.size 3 1 (.slice X (divR (a.length + 1) a b).length c') (divR (a.length + 1) a b).length ((divR (a.length + 1) a b).map I64v) ∧ (divR (a.length + 1) a b).length ≤ c')) ∧ Below w.heap.size w w'
def P01 (l : List Nat) : Prop := ∀ x ∈ l, x < 2
def Tr (l : List Nat) : Prop := 0 < l.length → l.getD (l.length - 1) 0 ≠ 0
theorem getD01 {l : List Nat} (h : P01 l) (k : Nat) : l.getD k 0 < 2 := by
  rw [List.getD_eq_getElem?_getD]
  cases hk : l[k]? with
  | none => simp
  | some x => exact h x (List.mem_of_getElem? hk)
theorem take_pred {l : List Nat} {k : Nat} (h : 0 < k) (hk : k ≤ l.length) : l.take k = l.take (k - 1) ++ [l.getD (k - 1) 0] := by
  obtain ⟨j, rfl⟩ : ∃ j, k = j + 1 := ⟨k - 1, by omega⟩
  rw [Nat.add_sub_cancel, List.take_succ_eq_append_getElem (by omega), List.getD_eq_getElem?_getD, List.getElem?_eq_getElem (by omega)]
  rfl
theorem trim_step {l : List Nat} {k : Nat} (h : 0 < k) (hk : k ≤ l.length) (h0 : l.getD (k - 1) 0 = 0) (ht : trimL (l.take k) = trimL l) : trimL (l.take (k - 1)) = trimL l := by
  rw [← ht, take_pred h hk, h0, trimL_snoc0]
theorem trim_stop {l : List Nat} {k : Nat} (hk : k ≤ l.length) (h0 : 0 < k → l.getD (k - 1) 0 ≠ 0) (ht : trimL (l.take k) = trimL l) : trimL l = l.take k := by
  rw [← ht]
  by_cases h : 0 < k
  · rw [take_pred h hk, trimL_snoc (h0 h)]
  · have : k = 0 := by omega
    subst this
    rfl
theorem trim_pre (l : List Nat) : trimL l <+: l := by
  have h := List.dropWhile_suffix (l := l.reverse) (· == 0)
  have := List.reverse_prefix.2 h
  rwa [List.reverse_reverse] at this
theorem trim_take (l : List Nat) : l.take (trimL l).length = trimL l := (List.prefix_iff_eq_take.1 (trim_pre l)).symm
theorem trim_len (l : List Nat) : (trimL l).length ≤ l.length := (trim_pre l).length_le
theorem trim_take_map (l : List Nat) : (l.map I64v).take ((trimL l).length * 1) = (trimL l).map I64v := by rw [Nat.mul_one, ← List.map_take, trim_take]
theorem trim01 {l : List Nat} (h : P01 l) : P01 (trimL l) := fun x hx => h x ((trim_pre l).sublist.mem hx)
theorem trimTr : ∀ (n : Nat) (l : List Nat), l.length = n → Tr (trimL l)
  | 0, l, h => by
    rw [List.length_eq_zero_iff] at h
    subst h
    intro h; simp [trimL] at h
  | n + 1, l, h => by
    have e := take_pred (l := l) (k := l.length) (by omega) (by omega)
    rw [List.take_length] at e
    by_cases h0 : l.getD (l.length - 1) 0 = 0
    · rw [e, h0, trimL_snoc0]
      exact trimTr n _ (by rw [List.length_take]; omega)
    · rw [e, trimL_snoc h0, ← e]
      intro _
      exact h0
theorem trimTr' (l : List Nat) : Tr (trimL l) := trimTr _ l rfl
theorem range_map_succ (f : Nat → Nat) (k : Nat) : (List.range (k + 1)).map f = (List.range k).map f ++ [f k] := by rw [List.range_succ, List.map_append]; rfl
def polyUp (p k : Nat) : List Nat := (List.range k).map fun i => p / 2 ^ i % 2
theorem polyUp_succ (p k : Nat) : polyUp p (k + 1) = polyUp p k ++ [p / 2 ^ k % 2] := range_map_succ _ _
theorem polyUp_len (p k : Nat) : (polyUp p k).length = k := by unfold polyUp; rw [List.length_map, List.length_range]
def sumUp (a b : List Nat) (s k : Nat) : List Nat := (List.range k).map (sumAt a b s)
theorem sumUp_succ (a b : List Nat) (s k : Nat) : sumUp a b s (k + 1) = sumUp a b s k ++ [sumAt a b s k] := range_map_succ _ _
theorem sumUp_len (a b : List Nat) (s k : Nat) : (sumUp a b s k).length = k := by unfold sumUp; rw [List.length_map, List.length_range]
theorem sumUp_all (a b : List Nat) (s : Nat) : trimL (sumUp a b s (max a.length (b.length + s))) = sumL a b s := rfl
theorem getD_off {l : List Nat} {k : Nat} (h : l.length ≤ k) : l.getD k 0 = 0 := by rw [List.getD_eq_getElem?_getD, List.getElem?_eq_none h]; rfl
theorem sumAtA {a b : List Nat} {s k : Nat} (h1 : s ≤ k) (h2 : k - s < b.length) : sumAt a b s k = (a.getD k 0 + b.getD (k - s) 0) % 2 := if_pos ⟨h1, h2⟩
theorem sumAtB {a b : List Nat} {s k : Nat} (h1 : s ≤ k) (h2 : k - s < b.length) (h3 : a.length ≤ k) : sumAt a b s k = (0 + b.getD (k - s) 0) % 2 := by rw [sumAtA h1 h2, getD_off h3]
theorem sumAtC {a b : List Nat} {s k : Nat} (h : ¬ (s ≤ k ∧ k - s < b.length)) : sumAt a b s k = a.getD k 0 := if_neg h
theorem sumAtD {a b : List Nat} {s k : Nat} (h : ¬ (s ≤ k ∧ k - s < b.length)) (h3 : a.length ≤ k) : sumAt a b s k = 0 := by rw [sumAtC h, getD_off h3]
theorem sumAt01 {a b : List Nat} (ha : P01 a) (s i : Nat) : sumAt a b s i < 2 := by
  unfold sumAt
  split
  · omega
  · exact getD01 ha i
theorem sum01 {a b : List Nat} (ha : P01 a) (s : Nat) : P01 (sumL a b s) := by
  unfold sumL
  apply trim01
  intro x hx
  obtain ⟨i, _, rfl⟩ := List.mem_map.1 hx
  exact sumAt01 ha s i
theorem sumTr (a b : List Nat) (s : Nat) : Tr (sumL a b s) := trimTr' _
theorem sum_len (a b : List Nat) (s : Nat) : (sumL a b s).length ≤ max a.length (b.length + s) := by
  unfold sumL
  refine Nat.le_trans (trim_len _) ?_
  rw [List.length_map, List.length_range]
  exact Nat.le_refl _
theorem sum_less {a b : List Nat} (ha : P01 a) (hb : P01 b) (hta : Tr a) (htb : Tr b) (h0 : 0 < b.length) (h : b.length ≤ a.length) : (sumL a b (a.length - b.length)).length < a.length := by
  have e : max a.length (b.length + (a.length - b.length)) = (a.length - 1) + 1 := by omega
  have h1 := hta (by omega)
  have h2 := htb h0
  have h3 := getD01 ha (a.length - 1)
  have h4 := getD01 hb (b.length - 1)
  unfold sumL
  rw [e, range_map_succ]
  have hz : sumAt a b (a.length - b.length) (a.length - 1) = 0 := by
    unfold sumAt
    rw [if_pos ⟨by omega, by omega⟩, show a.length - 1 - (a.length - b.length) = b.length - 1 by omega]
    omega
  rw [hz, trimL_snoc0]
  refine Nat.lt_of_le_of_lt (trim_len _) ?_
  rw [List.length_map, List.length_range]
  omega
theorem div_fuel {b : List Nat} (hb : P01 b) (htb : Tr b) (h0 : 0 < b.length) : ∀ (n : Nat) (a : List Nat), a.length = n → P01 a → Tr a → ∀ f g, a.length < f → a.length < g → divR f a b = divR g a b := by
  intro n
  induction n using Nat.strongRecOn with
  | _ n ih =>
    intro a hn ha hta f g hf hg
    obtain ⟨f, rfl⟩ : ∃ j, f = j + 1 := ⟨f - 1, by omega⟩
    obtain ⟨g, rfl⟩ : ∃ j, g = j + 1 := ⟨g - 1, by omega⟩
    rw [divR, divR]
    split
    · rename_i h
      have hl := sum_less ha hb hta htb h0 h
      exact ih _ (by omega) _ rfl (sum01 ha _) (sumTr _ _ _) f g (by omega) (by omega)
    · rfl
/-- A round of the division. -/
theorem div_step {a0 a b : List Nat} (hb : P01 b) (htb : Tr b) (h0 : 0 < b.length) (ha : P01 a) (hta : Tr a) (h : b.length ≤ a.length) (he : divR (a.length + 1) a b = divR (a0.length + 1) a0 b) :
    divR ((sumL a b (a.length - b.length)).length + 1) (sumL a b (a.length - b.length)) b = divR (a0.length + 1) a0 b := by
  have hl := sum_less ha hb hta htb h0 h
  have e : divR (a.length + 1) a b = divR a.length (sumL a b (a.length - b.length)) b := by rw [divR, if_pos h]
  rw [← he, e]
  exact div_fuel hb htb h0 _ _ rfl (sum01 ha _) (sumTr _ _ _) _ _ (by omega) (by omega)
theorem div_stop {a b : List Nat} (h : ¬ b.length ≤ a.length) : divR (a.length + 1) a b = a := by rw [divR, if_neg h]
theorem poly01 (p : Nat) : P01 (polyOf p) := by
  unfold polyOf
  apply trim01
  intro x hx
  obtain ⟨i, _, rfl⟩ := List.mem_map.1 hx
  omega
theorem bits01 (p : Nat) : P01 (bitsOf p) := by
  unfold bitsOf
  apply trim01
  intro x hx
  obtain ⟨i, _, rfl⟩ := List.mem_map.1 hx
  split <;> omega
theorem polyTr (p : Nat) : Tr (polyOf p) := trimTr' _
theorem bitsTr (p : Nat) : Tr (bitsOf p) := trimTr' _
theorem gen_len : genP.length = 33 := by decide +kernel
theorem bits_len (p : Nat) : (bitsOf p).length ≤ 40 := by
  unfold bitsOf
  refine Nat.le_trans (trim_len _) ?_
  rw [List.length_map, List.length_range]
  exact Nat.le_refl _
theorem div_len {b : List Nat} (h0 : 0 < b.length) (hb : P01 b) (htb : Tr b) : ∀ (n : Nat) (a : List Nat), a.length = n → P01 a → Tr a → (divR (a.length + 1) a b).length < b.length := by
  intro n
  induction n using Nat.strongRecOn with
  | _ n ih =>
    intro a hn ha hta
    by_cases h : b.length ≤ a.length
    · have hl := sum_less ha hb hta htb h0 h
      have hs := div_step hb htb h0 ha hta h rfl
      rw [← hs]
      exact ih _ (by omega) _ rfl (sum01 ha _) (sumTr _ _ _)
    · rw [div_stop h]; omega
def linR (y : Nat) : List Nat := divR ((bitsOf y).length + 1) (bitsOf y) genP
theorem linR_len (y : Nat) : (linR y).length ≤ 32 := by
  have h := div_len (b := genP) (by rw [gen_len]; decide) (poly01 _) (polyTr _) _ (bitsOf y) rfl (bits01 _) (bitsTr _)
  rw [gen_len] at h
  exact Nat.le_of_lt_succ h
theorem linR_is (y : Nat) : remNum (linR y) = refLin y := by
  unfold refLin linR
  have := bits_len y
  rw [div_fuel (b := genP) (poly01 _) (polyTr _) (by rw [gen_len]; decide) _ (bitsOf y) rfl (bits01 _) (bitsTr _) ((bitsOf y).length + 1) 41 (by omega) (by omega)]
def remUp (r : List Nat) (k : Nat) : Nat := ((List.range k).map fun k => if r.getD k 0 = 1 then 2 ^ (31 - k) else 0).sum
theorem remUp_succ (r : List Nat) (k : Nat) : remUp r (k + 1) = remUp r k + if r.getD k 0 = 1 then 2 ^ (31 - k) else 0 := by
  unfold remUp
  rw [range_map_succ, List.sum_append]
  simp
theorem remUp_lt (r : List Nat) : ∀ k, k ≤ 32 → remUp r k + 2 ^ (32 - k) ≤ 4294967296
  | 0, _ => by show 0 + 2 ^ 32 ≤ _; decide
  | k + 1, h => by
    have ih := remUp_lt r k (by omega)
    rw [remUp_succ]
    have e1 : (2 : Nat) ^ (32 - k) = 2 ^ (32 - (k + 1)) * 2 := by rw [show 32 - k = (32 - (k + 1)) + 1 by omega, Nat.pow_succ]
    have e2 : (2 : Nat) ^ (31 - k) = 2 ^ (32 - (k + 1)) := by rw [show 31 - k = 32 - (k + 1) by omega]
    split <;> omega
theorem remUp_all (r : List Nat) : remUp r r.length = remNum r := rfl
def bitsUp (y k : Nat) : List Nat := (List.range 40).map fun i => if 40 - k ≤ i then y / 2 ^ (39 - i) % 2 else 0
theorem bitsUp_len (y k : Nat) : (bitsUp y k).length = 40 := by unfold bitsUp; rw [List.length_map, List.length_range]
theorem bitsUp_get (y k : Nat) {i : Nat} (h : i < 40) : (bitsUp y k)[i]? = some (if 40 - k ≤ i then y / 2 ^ (39 - i) % 2 else 0) := by
  unfold bitsUp
  rw [List.getElem?_map, List.getElem?_range h]
  rfl
theorem bitsUp_zero (y : Nat) : bitsUp y 0 = List.replicate 40 0 := by
  apply List.ext_getElem?
  intro i
  by_cases h : i < 40
  · rw [bitsUp_get y 0 h, if_neg (by omega), List.getElem?_replicate, if_pos h]
  · rw [List.getElem?_eq_none (by rw [bitsUp_len]; omega), List.getElem?_eq_none (by rw [List.length_replicate]; omega)]
theorem bitsUp_succ {y k : Nat} (hk : k < 8) : (bitsUp y k).set (39 - k) (y / 2 ^ k % 2) = bitsUp y (k + 1) := by
  apply List.ext_getElem?
  intro i
  by_cases h : i < 40
  · rw [List.getElem?_set, bitsUp_get y (k + 1) h]
    by_cases hi : 39 - k = i
    · rw [if_pos hi, if_pos (by rw [bitsUp_len]; omega), if_pos (by omega), show 39 - i = k by omega]
    · rw [if_neg hi, bitsUp_get y k h]
      by_cases h2 : 40 - k ≤ i
      · rw [if_pos h2, if_pos (by omega)]
      · rw [if_neg h2, if_neg (by omega)]
  · rw [List.getElem?_eq_none (by rw [List.length_set, bitsUp_len]; omega), List.getElem?_eq_none (by rw [bitsUp_len]; omega)]
theorem bitsUp_all (y : Nat) : trimL (bitsUp y 8) = bitsOf y := rfl
theorem pow31 (k : Nat) : 1 * 2 ^ (31 - k) ≤ 4294967295 := by
  have : (2 : Nat) ^ (31 - k) ≤ 2 ^ 31 := Nat.pow_le_pow_right (by decide) (by omega)
  omega
theorem remStep (r : List Nat) {k : Nat} (h : k < 32) : remUp r k + 1 * 2 ^ (31 - k) ≤ 4294967295 := by
  have h1 := remUp_lt r k (by omega)
  have e1 : (2 : Nat) ^ (32 - k) = 2 ^ (31 - k) * 2 := by rw [show 32 - k = (31 - k) + 1 by omega, Nat.pow_succ]
  have : 0 < (2 : Nat) ^ (31 - k) := Nat.pow_pos (by decide)
  omega
theorem linR_zero : linR 0 = [] := by decide +kernel
def waUp (l : List Nat) (k : Nat) : List Nat := (l.take k).flatMap vbytes
theorem waUp_succ {l : List Nat} {k : Nat} (h : k < l.length) : waUp l (k + 1) = waUp l k ++ vbytes (l.getD k 0) := by
  unfold waUp
  rw [take_pred (by omega) (by omega), Nat.add_sub_cancel, List.flatMap_append]
  simp
theorem waUp_len (l : List Nat) (k : Nat) : (waUp l k).length ≤ 10 * k := by
  unfold waUp
  have h := flat_length (l.take k)
  rw [List.length_take] at h
  omega
/-- Sealed bytes, as the reference tells them. -/
theorem sealed_ref {l : List Nat} {n : Nat} (hl : ∀ x ∈ l, x < 256) (hln : l.length = n) : decide (sealL (l.take (n - 4)) = l) = sealedR l := by
  subst hln
  rw [Bool.eq_iff_iff, decide_eq_true_eq]
  constructor
  · intro h
    have := sealed_seal (l := l.take (l.length - 4))
    rwa [h] at this
  · intro h
    exact seal_of hl h
theorem bits_pos : ∀ y, y < 256 → y ≠ 0 → 33 ≤ (bitsOf y).length := by decide +kernel
end Go.Proofs.YtnakabnmjnfpcaaDoor

set_option linter.all false
namespace Go.Proofs.YtnakabnmjnfpcaaDoor
open Go.RowKit
set_option maxRecDepth 100000 in
set_option maxHeartbeats 4000000 in
theorem trim_any (A : Option Addr) (n c : Nat) (l : List Nat) (w : World) (hr : Rd w w.heap.size 1 A n (l.map I64v)) (hln : l.length = n) (hn : n ≤ 140737488355328) (hc : n ≤ c) :
    Calls Tryd.prog 105 #[.slice A n c] w (Is w (.slice A (trimL l).length c)) := by
 refine calls_enter (vs := [.slice A n c]) Tryd.func105 rfl rfl (by kernel_rfl) (σ0 := [(0, .slice A n c)]) rfl ?_
 intro a HF
 have HM := Mem.start w
 refine wp_seq (from_start ?_)
 refine fp HF 1 0 [(2, .slice none 0 0)] ?_; clear HF; intro a HF
 refine from_done rfl ?_
 refine wp_seq (wp_block ?_)
 refine loop_nat (fun mS aS wS => ∃ (k : Nat), (k ≤ n) ∧ (trimL (l.take k) = trimL l) ∧ mS = 0 + k ∧ Fr aS 21 [] [(2, .slice none 0 0), (0, .slice A k c)] ∧ Mem w wS []) (m := 0 + n) ⟨n, Nat.le_refl _, by rw [List.take_of_length_le (by omega)], rfl, HF.sub (by kernel_rfl), HM.picks [] (by decide) rfl⟩ ?_
 clear HF HM; rintro mS a w_ ⟨k, hk, ht, rfl, HF, HM⟩
 refine wp_seq (wp_seq (from_start ?_))
 refine fp HF 1 0 [(3, .slice A k c)] ?_; clear HF; intro a HF
 refine fy HF HM 1 rfl rfl rfl (Yl.len rfl rfl (by kernel_rfl)) ?_; clear HF; intro a HF
 refine fp HF 2 2 [(6, .bool (decide ((k : Int) > (0 : Int)))), (5, .bool (decide ((k : Int) > (0 : Int))))] ?_; clear HF; intro a HF
 rcases Bool.eq_false_or_eq_true (decide ((k : Int) > (0 : Int))) with hb6 | hb6
 ·have HF := HF.on 6 hb6
  have hd6 := of_decide_eq_true hb6
  have hk0 : 0 < k := by omega
  obtain ⟨gA, oA, rfl, _⟩ := hr.some_at (Nat.lt_of_le_of_lt (Nat.zero_le _) (show 0 < n from by omega)) (by decide)
  refine fp HF 2 4 [(8, .slice (some ⟨gA, oA, none⟩) k c), (7, .slice (some ⟨gA, oA, none⟩) k c)] ?_; clear HF; intro a HF
  refine fy HF HM 6 rfl rfl rfl (Yl.len rfl rfl (by kernel_rfl)) ?_; clear HF; intro a HF
  refine fp HF 1 7 [(10, vI (IntKind.i64.wrap ((k : Int) - 1)))] ?_; clear HF; intro a HF
  replace HF := HF.as (t := 10) (u := vI (k - 1 : Nat)) rfl (i64_nat (by omega) (by omega))
  refine fy HF HM 8 rfl rfl rfl (v := vP gA (oA + (k - 1) * 1)) ((Yl.indexAddr (ad := ⟨gA, oA, none⟩) (y := k - 1) (sz := 1) rfl rfl rfl (by omega) (by kernel_rfl)).as (by rw [Addr.add_mid])) ?_; clear HF; intro a HF
  refine fy HF HM 9 rfl rfl rfl (v := vI (l.getD (k - 1) 0)) (Yl.load1 rfl rfl (by kernel_rfl) (fun _ h => (h.old hr).oneAt1 (k := (k - 1)) (map_at (F := I64v) (k := (k - 1)) (x := (l.getD (k - 1) 0)) ((getD_at 0 (k := (k - 1)) (by first | omega | (simp; omega))))))) ?_; clear HF; intro a HF
  refine fp HF 2 10 [(14, .bool (((l.getD (k - 1) 0) : Int) == (0 : Int))), (13, .bool (((l.getD (k - 1) 0) : Int) == (0 : Int)))] ?_; clear HF; intro a HF
  refine from_done rfl ?_
  rcases Bool.eq_false_or_eq_true (((l.getD (k - 1) 0) : Int) == (0 : Int)) with hb14 | hb14
  ·have HF := HF.on 14 hb14
   have hd14 := eq_of_beq hb14
   refine cond_true HF rfl (wp_skip (wp_block (from_start ?_)))
   refine fp HF 2 0 [(16, .slice (some ⟨gA, oA, none⟩) k c), (15, .slice (some ⟨gA, oA, none⟩) k c)] ?_; clear HF; intro a HF
   refine fy HF HM 2 rfl rfl rfl (Yl.len rfl rfl (by kernel_rfl)) ?_; clear HF; intro a HF
   refine fp HF 1 3 [(18, vI (IntKind.i64.wrap ((k : Int) - 1)))] ?_; clear HF; intro a HF
   replace HF := HF.as (t := 18) (u := vI (k - 1 : Nat)) rfl (i64_nat (by omega) (by omega))
   refine fy HF HM 4 rfl rfl rfl (v := .slice (some ⟨gA, oA, none⟩) (k - 1) c) (Yl.sliceUpto ei_pol (j := k - 1) rfl rfl rfl (by omega)) ?_; clear HF; intro a HF
   refine fp HF 1 5 [(0, .slice (some ⟨gA, oA, none⟩) (k - 1) c)] ?_; clear HF; intro a HF
   refine from_done rfl ?_
   replace HF := HF.to [(0, .slice (some ⟨gA, oA, none⟩) (k - 1) c), (14, .bool true), (2, .slice none 0 0)]
   exact ⟨_, (by omega), (k - 1), by omega, trim_step (by omega) (by omega) (by omega) ht, rfl, HF.sub (by kernel_rfl), HM.picks [] (by decide) rfl⟩
  ·have HF := HF.on 14 hb14
   have hd14 := ne_of_beq_false hb14
   refine cond_false HF rfl (wp_exit (wp_seq (from_start ?_)))
   refine fp HF 2 0 [(2, .slice (some ⟨gA, oA, none⟩) k c), (20, .slice (some ⟨gA, oA, none⟩) k c)] ?_; clear HF; intro a HF
   refine from_done rfl ?_
   refine wp_ret ?_
   exact ret1 rfl HF (.tmp HF rfl) (⟨by rw [trim_stop (k := k) (by omega) (fun _ => by omega) ht, List.length_take, Nat.min_eq_left (by omega)], HM.below⟩)
 ·have HF := HF.on 6 hb6
  have hd6 := of_decide_eq_false hb6
  refine fp HF 8 4 [(14, .bool false), (13, undef), (12, undef), (11, undef), (10, undef), (9, undef), (8, undef), (7, undef)] ?_; clear HF; intro a HF
  refine from_done rfl ?_
  refine cond_false HF rfl (wp_exit (wp_seq (from_start ?_)))
  refine fp HF 2 0 [(2, .slice A k c), (20, .slice A k c)] ?_; clear HF; intro a HF
  refine from_done rfl ?_
  refine wp_ret ?_
  exact ret1 rfl HF (.tmp HF rfl) (⟨by rw [trim_stop (k := k) (by omega) (fun _ => by omega) ht, List.length_take, Nat.min_eq_left (by omega)], HM.below⟩)
set_option maxRecDepth 100000 in
set_option maxHeartbeats 4000000 in
theorem polof_any (p : Nat) (hp : p < 18446744073709551616) (w : World) :
    Calls Tryd.prog 102 #[.int .u64 (p : Int)] w (PolIs w (polyOf p)) := by
 refine calls_enter (vs := [vQ p]) Tryd.func102 rfl rfl (by kernel_rfl) (σ0 := [(0, vQ p)]) rfl ?_
 intro a HF
 have HM := Mem.start w
 refine wp_seq (from_start ?_)
 refine fp HF 1 0 [(2, .slice none 0 0)] ?_; clear HF; intro a HF
 refine from_done rfl ?_
 refine wp_seq (from_start ?_)
 refine fp HF 1 0 [(3, .slice none 0 0)] ?_; clear HF; intro a HF
 refine from_done rfl ?_
 replace HM := HM.nil 3 1
 refine wp_seq (wp_seq (from_start ?_))
 refine fp HF 1 0 [(4, vI 0)] ?_; clear HF; intro a HF
 refine from_done rfl ?_
 refine wp_block ?_
 refine loop_nat (fun mS aS wS => ∃ (k : Nat) (Ak : Option Addr) (ck : Nat), (k ≤ 64) ∧ (k ≤ ck) ∧ mS = 64 - k ∧ Fr aS 19 [] [(4, vI k), (3, .slice Ak k ck), (2, .slice none 0 0), (0, vQ p)] ∧ Mem w wS [.row (.slice Ak k ck) k ((polyUp p k).map I64v) 3 1]) (m := 64 - 0) ⟨0, none, 0, by omega, Nat.le_refl _, rfl, HF.sub (by kernel_rfl), HM.picks [0] (by decide) rfl⟩ ?_
 clear HF HM; rintro mS a w_ ⟨k, Ak, ck, hk, hck, rfl, HF, HM⟩
 refine wp_seq (wp_seq (from_start ?_))
 refine fp HF 2 0 [(6, .bool (decide ((k : Int) < (64 : Int)))), (5, vI k)] ?_; clear HF; intro a HF
 refine from_done rfl ?_
 rcases Bool.eq_false_or_eq_true (decide ((k : Int) < (64 : Int))) with hb6 | hb6
 ·have HF := HF.on 6 hb6
  have hd6 := of_decide_eq_true hb6
  refine cond_true HF rfl (wp_skip (wp_seq (wp_block (from_start ?_))))
  refine fp HF 3 0 [(11, vI k), (10, vQ p), (9, .slice Ak k ck)] ?_; clear HF; intro a HF
  refine fy HF HM 3 rfl rfl rfl (v := vQ (p / 2 ^ k : Nat)) (Yl.shrN (m := p) (n := k) rfl rfl rfl (by show _ ≤ 64; omega)) ?_; clear HF; intro a HF
  refine fp HF 1 4 [(13, vQ (Int.tmod ((p / 2 ^ k : Nat) : Int) 2))] ?_; clear HF; intro a HF
  replace HF := HF.as (t := 13) (u := vQ ((p / 2 ^ k) % 2 : Nat)) rfl (tmod_nat .u64 _ 2)
  refine fp HF 1 5 [(14, vI (IntKind.i64.wrap (((p / 2 ^ k) % 2 : Nat) : Int)))] ?_; clear HF; intro a HF
  replace HF := HF.as (t := 14) (u := vI ((p / 2 ^ k) % 2 : Nat)) rfl (i64_nat rfl (by omega))
  refine from_op HF (i := 6) rfl rfl ?_
  refine e_slice HF HM (vs := [(0, vI ((p / 2 ^ k) % 2 : Nat))]) (cs := #[vI ((p / 2 ^ k) % 2 : Nat)]) rfl ei_pol (by decide) rfl (by kernel_rfl) rfl (by decide) ?_
  clear HF HM; intro a w15 g15 HF HM
  refine from_op HF (i := 7) rfl rfl ?_
  refine e_append HF HM (i := 1) rfl ei_pol rfl rfl rfl (news := [I64v ((p / 2 ^ k) % 2)]) (HM.rdBlk (i := 0) (n := 1) (size := 1) rfl rfl) (by simp [Value.oneCell', I64v]) (by omega) (by omega) rfl (by decide) ?_
  clear HF HM; intro a w16 A16 c16 HF HM hc16
  refine fp HF 1 8 [(3, .slice A16 (k + 1) c16)] ?_; clear HF; intro a HF
  refine from_done rfl ?_
  replace HM := HM.picks (fs' := [.row (.slice A16 (k + 1) c16) (k + 1) (((polyUp p k).map I64v) ++ [I64v ((p / 2 ^ k) % 2)]) 3 1]) [1] (by decide) rfl
  have hnA16 : k + 1 = k + 1 := rfl
  replace HM := HM.reRow (i := 0) (ys := (polyUp p (k + 1)).map I64v) rfl hnA16 (by rw [polyUp_succ]; simp)
  rw [hnA16] at hc16
  replace HF := HF.as (t := 3) (u := .slice A16 (k + 1) c16) rfl (by rw [hnA16])
  replace HF := HF.as (t := 16) (u := .slice A16 (k + 1) c16) rfl (by rw [hnA16])
  refine from_start ?_
  refine fp HF 2 0 [(8, vI (IntKind.i64.wrap ((k : Int) + 1))), (7, vI k)] ?_; clear HF; intro a HF
  replace HF := HF.as (t := 8) (u := vI (k + 1 : Nat)) rfl (i64_nat (by omega) (by omega))
  refine fp HF 1 2 [(4, vI (k + 1 : Nat))] ?_; clear HF; intro a HF
  refine from_done rfl ?_
  replace HF := HF.to [(4, vI (k + 1 : Nat)), (16, .slice A16 (k + 1) c16), (3, .slice A16 (k + 1) c16), (6, .bool true), (2, .slice none 0 0), (0, vQ p)]
  exact ⟨_, (by omega), k + 1, A16, c16, by omega, hc16, rfl, HF.sub (by kernel_rfl), HM.picks [0] (by decide) rfl⟩
 ·have HF := HF.on 6 hb6
  have hd6 := of_decide_eq_false hb6
  obtain rfl : k = 64 := by omega
  refine cond_false HF rfl (wp_exit (wp_seq (from_start ?_)))
  refine fp HF 1 0 [(17, .slice Ak 64 ck)] ?_; clear HF; intro a HF
  refine from_op HF (i := 1) rfl rfl ?_
  refine e_call HF (vs := [.slice Ak 64 ck]) rfl (by kernel_rfl) (by kernel_rfl) rfl (by decide) (trim_any _ _ _ (polyUp p 64) _ (HM.rd (i := 0) rfl) (polyUp_len p 64) (by omega) (by omega)) ?_
  rintro _ w18 ⟨rfl, hbw⟩
  refine ⟨_, rfl, ?_⟩
  replace HM := HM.call hbw
  clear HF; intro a HF
  have htl18 := trim_len (polyUp p 64)
  have hle18 : (trimL (polyUp p 64)).length ≤ 64 := by rw [polyUp_len p 64] at htl18; exact htl18
  replace HM := HM.cutRow (i := 0) rfl hle18 (trim_take_map (polyUp p 64))
  refine fp HF 1 2 [(2, .slice Ak ((trimL (polyUp p 64)).length) ck)] ?_; clear HF; intro a HF
  refine from_done rfl ?_
  refine wp_ret ?_
  exact ret1 rfl HF (.tmp HF rfl) (⟨⟨_, _, rfl, HM.own (i := 0) rfl, by show (trimL (polyUp p 64)).length ≤ _; omega⟩, HM.below⟩)
set_option maxRecDepth 100000 in
set_option maxHeartbeats 4000000 in
theorem polsum_any (A A2 : Option Addr) (c c2 : Nat) (p q : List Nat) (s : Nat) (w : World) (h1 : P01 p) (h2 : P01 q) (hr : Rd w w.heap.size 1 A p.length (p.map I64v)) (hr2 : Rd w w.heap.size 1 A2 q.length (q.map I64v)) (hp : p.length ≤ 1000000) (hq : q.length + s ≤ 1000000) :
    Calls Tryd.prog 104 #[.slice A p.length c, .slice A2 q.length c2, .int .i64 (s : Int)] w (PolIs w (sumL p q s)) := by
 refine calls_enter (vs := [.slice A p.length c, .slice A2 q.length c2, vI s]) Tryd.func104 rfl rfl (by kernel_rfl) (σ0 := [(0, .slice A p.length c), (1, .slice A2 q.length c2), (2, vI s)]) rfl ?_
 intro a HF
 have HM := Mem.start w
 refine wp_seq (from_start ?_)
 refine fp HF 1 0 [(6, .slice none 0 0)] ?_; clear HF; intro a HF
 refine from_done rfl ?_
 refine wp_seq (from_start ?_)
 refine fp HF 1 0 [(7, .slice none 0 0)] ?_; clear HF; intro a HF
 refine from_done rfl ?_
 replace HM := HM.nil 3 1
 refine wp_seq (wp_seq (from_start ?_))
 refine fp HF 1 0 [(8, vI 0)] ?_; clear HF; intro a HF
 refine from_done rfl ?_
 refine wp_block ?_
 refine loop_nat (fun mS aS wS => ∃ (k : Nat) (Ak : Option Addr) (ck : Nat), (k ≤ (max p.length (q.length + s))) ∧ (k ≤ ck) ∧ mS = (max p.length (q.length + s)) - k ∧ Fr aS 58 [] [(8, vI k), (7, .slice Ak k ck), (6, .slice none 0 0), (0, .slice A p.length c), (1, .slice A2 q.length c2), (2, vI s)] ∧ Mem w wS [.row (.slice Ak k ck) k ((sumUp p q s k).map I64v) 3 1]) (m := (max p.length (q.length + s)) - 0) ⟨0, none, 0, Nat.zero_le _, Nat.le_refl _, rfl, HF.sub (by kernel_rfl), HM.picks [0] (by decide) rfl⟩ ?_
 clear HF HM; rintro mS a w_ ⟨k, Ak, ck, hk, hck, rfl, HF, HM⟩
 refine wp_seq (wp_seq (from_start ?_))
 refine fp HF 2 0 [(11, .slice A p.length c), (10, vI k)] ?_; clear HF; intro a HF
 refine fy HF HM 2 rfl rfl rfl (Yl.len rfl rfl (by kernel_rfl)) ?_; clear HF; intro a HF
 refine fp HF 2 3 [(14, .bool (decide ((k : Int) < (p.length : Int)))), (13, .bool (decide ((k : Int) < (p.length : Int))))] ?_; clear HF; intro a HF
 rcases Bool.eq_false_or_eq_true (decide ((k : Int) < (p.length : Int))) with hb14 | hb14
 ·have HF := HF.on 14 hb14
  have hd14 := of_decide_eq_true hb14
  refine fp HF 7 5 [(21, .bool true), (20, undef), (19, undef), (18, undef), (17, undef), (16, undef), (15, undef)] ?_; clear HF; intro a HF
  refine from_done rfl ?_
  refine cond_true HF rfl (wp_skip (wp_seq (wp_block (wp_seq (from_start ?_)))))
  refine fp HF 1 0 [(9, vI 0)] ?_; clear HF; intro a HF
  refine from_done rfl ?_
  refine wp_seq (wp_seq (from_start ?_))
  refine fp HF 2 0 [(25, .slice A p.length c), (24, vI k)] ?_; clear HF; intro a HF
  refine fy HF HM 2 rfl rfl rfl (Yl.len rfl rfl (by kernel_rfl)) ?_; clear HF; intro a HF
  refine fp HF 1 3 [(27, .bool (decide ((k : Int) < (p.length : Int))))] ?_; clear HF; intro a HF
  refine from_done rfl ?_
  rcases Bool.eq_false_or_eq_true (decide ((k : Int) < (p.length : Int))) with hb27 | hb27
  ·have HF := HF.on 27 hb27
   have hd27 := of_decide_eq_true hb27
   refine cond_true HF rfl (from_start ?_)
   refine fp HF 2 0 [(29, vI k), (28, .slice A p.length c)] ?_; clear HF; intro a HF
   obtain ⟨gA, oA, rfl, _⟩ := hr.some_at (Nat.lt_of_le_of_lt (Nat.zero_le _) (show k < p.length from by omega)) (by decide)
   refine fy HF HM 2 rfl rfl rfl (v := vP gA (oA + k * 1)) ((Yl.indexAddr (ad := ⟨gA, oA, none⟩) (y := k) (sz := 1) rfl rfl rfl (by omega) (by kernel_rfl)).as (by rw [Addr.add_mid])) ?_; clear HF; intro a HF
   have hx54 := getD_lt h1 (k := k) (by first | omega | (simp; omega))
   refine fy HF HM 3 rfl rfl rfl (v := vI (p.getD k 0)) (Yl.load1 rfl rfl (by kernel_rfl) (fun _ h => (h.old hr).oneAt1 (k := k) (map_at (F := I64v) (k := k) (x := (p.getD k 0)) ((getD_at 0 (k := k) (by first | omega | (simp; omega))))))) ?_; clear HF; intro a HF
   refine fp HF 1 4 [(9, vI (p.getD k 0))] ?_; clear HF; intro a HF
   refine from_done rfl ?_
   replace HF := HF.to [(9, vI (p.getD k 0)), (27, .bool true), (21, .bool true), (8, vI k), (7, .slice Ak k ck), (6, .slice none 0 0), (0, .slice (some ⟨gA, oA, none⟩) p.length c), (1, .slice A2 q.length c2), (2, vI s)]
   refine wp_seq (wp_seq (from_start ?_))
   refine fp HF 4 0 [(35, .bool (decide ((k : Int) ≥ (s : Int)))), (34, .bool (decide ((k : Int) ≥ (s : Int)))), (33, vI s), (32, vI k)] ?_; clear HF; intro a HF
   rcases Bool.eq_false_or_eq_true (decide ((k : Int) ≥ (s : Int))) with hb35 | hb35
   ·have HF := HF.on 35 hb35
    have hd35 := of_decide_eq_true hb35
    refine fp HF 3 4 [(38, vI (IntKind.i64.wrap ((k : Int) - (s : Int)))), (37, vI s), (36, vI k)] ?_; clear HF; intro a HF
    replace HF := HF.as (t := 38) (u := vI (k - s : Nat)) rfl (i64_nat (by omega) (by omega))
    refine fp HF 1 7 [(39, .slice A2 q.length c2)] ?_; clear HF; intro a HF
    refine fy HF HM 8 rfl rfl rfl (Yl.len rfl rfl (by kernel_rfl)) ?_; clear HF; intro a HF
    refine fp HF 2 9 [(42, .bool (decide (((k - s : Nat) : Int) < (q.length : Int)))), (41, .bool (decide (((k - s : Nat) : Int) < (q.length : Int))))] ?_; clear HF; intro a HF
    refine from_done rfl ?_
    rcases Bool.eq_false_or_eq_true (decide (((k - s : Nat) : Int) < (q.length : Int))) with hb42 | hb42
    ·have HF := HF.on 42 hb42
     have hd42 := of_decide_eq_true hb42
     refine cond_true HF rfl (from_start ?_)
     refine fp HF 5 0 [(47, vI (IntKind.i64.wrap ((k : Int) - (s : Int)))), (46, vI s), (45, vI k), (44, .slice A2 q.length c2), (43, vI (p.getD k 0))] ?_; clear HF; intro a HF
     replace HF := HF.as (t := 47) (u := vI (k - s : Nat)) rfl (i64_nat (by omega) (by omega))
     obtain ⟨gA2, oA2, rfl, _⟩ := hr2.some_at (Nat.lt_of_le_of_lt (Nat.zero_le _) (show k - s < q.length from by omega)) (by decide)
     refine fy HF HM 5 rfl rfl rfl (v := vP gA2 (oA2 + (k - s) * 1)) ((Yl.indexAddr (ad := ⟨gA2, oA2, none⟩) (y := k - s) (sz := 1) rfl rfl rfl (by omega) (by kernel_rfl)).as (by rw [Addr.add_mid])) ?_; clear HF; intro a HF
     have hx81 := getD_lt h2 (k := (k - s)) (by first | omega | (simp; omega))
     refine fy HF HM 6 rfl rfl rfl (v := vI (q.getD (k - s) 0)) (Yl.load1 rfl rfl (by kernel_rfl) (fun _ h => (h.old hr2).oneAt1 (k := (k - s)) (map_at (F := I64v) (k := (k - s)) (x := (q.getD (k - s) 0)) ((getD_at 0 (k := (k - s)) (by first | omega | (simp; omega))))))) ?_; clear HF; intro a HF
     refine fp HF 1 7 [(50, vI (IntKind.i64.wrap (((p.getD k 0) : Int) + ((q.getD (k - s) 0) : Int))))] ?_; clear HF; intro a HF
     replace HF := HF.as (t := 50) (u := vI ((p.getD k 0) + (q.getD (k - s) 0) : Nat)) rfl (i64_nat (by omega) (by omega))
     refine fp HF 1 8 [(51, vI (Int.tmod (((p.getD k 0) + (q.getD (k - s) 0) : Nat) : Int) 2))] ?_; clear HF; intro a HF
     replace HF := HF.as (t := 51) (u := vI (((p.getD k 0) + (q.getD (k - s) 0)) % 2 : Nat)) rfl (tmod_nat .i64 _ 2)
     refine fp HF 1 9 [(9, vI (((p.getD k 0) + (q.getD (k - s) 0)) % 2 : Nat))] ?_; clear HF; intro a HF
     refine from_done rfl ?_
     replace HF := HF.to [(9, vI (((p.getD k 0) + (q.getD (k - s) 0)) % 2 : Nat)), (42, .bool true), (27, .bool true), (21, .bool true), (8, vI k), (7, .slice Ak k ck), (6, .slice none 0 0), (0, .slice (some ⟨gA, oA, none⟩) p.length c), (1, .slice (some ⟨gA2, oA2, none⟩) q.length c2), (2, vI s)]
     refine from_start ?_
     refine fp HF 2 0 [(53, vI (((p.getD k 0) + (q.getD (k - s) 0)) % 2 : Nat)), (52, .slice Ak k ck)] ?_; clear HF; intro a HF
     refine from_op HF (i := 2) rfl rfl ?_
     refine e_slice HF HM (vs := [(0, vI (((p.getD k 0) + (q.getD (k - s) 0)) % 2 : Nat))]) (cs := #[vI (((p.getD k 0) + (q.getD (k - s) 0)) % 2 : Nat)]) rfl ei_pol (by decide) rfl (by kernel_rfl) rfl (by decide) ?_
     clear HF HM; intro a w54 g54 HF HM
     refine from_op HF (i := 3) rfl rfl ?_
     refine e_append HF HM (i := 1) rfl ei_pol rfl rfl rfl (news := [I64v (((p.getD k 0) + (q.getD (k - s) 0)) % 2)]) (HM.rdBlk (i := 0) (n := 1) (size := 1) rfl rfl) (by simp [Value.oneCell', I64v]) (by omega) (by omega) rfl (by decide) ?_
     clear HF HM; intro a w55 A55 c55 HF HM hc55
     refine fp HF 1 4 [(7, .slice A55 (k + 1) c55)] ?_; clear HF; intro a HF
     refine from_done rfl ?_
     replace HM := HM.picks (fs' := [.row (.slice A55 (k + 1) c55) (k + 1) (((sumUp p q s k).map I64v) ++ [I64v (((p.getD k 0) + (q.getD (k - s) 0)) % 2)]) 3 1]) [1] (by decide) rfl
     have hnA55 : k + 1 = k + 1 := rfl
     replace HM := HM.reRow (i := 0) (ys := (sumUp p q s (k + 1)).map I64v) rfl hnA55 (by rw [sumUp_succ, sumAtA (by omega) (by omega)]; simp)
     rw [hnA55] at hc55
     replace HF := HF.as (t := 7) (u := .slice A55 (k + 1) c55) rfl (by rw [hnA55])
     replace HF := HF.as (t := 55) (u := .slice A55 (k + 1) c55) rfl (by rw [hnA55])
     refine from_start ?_
     refine fp HF 2 0 [(23, vI (IntKind.i64.wrap ((k : Int) + 1))), (22, vI k)] ?_; clear HF; intro a HF
     replace HF := HF.as (t := 23) (u := vI (k + 1 : Nat)) rfl (i64_nat (by omega) (by omega))
     refine fp HF 1 2 [(8, vI (k + 1 : Nat))] ?_; clear HF; intro a HF
     refine from_done rfl ?_
     exact ⟨_, (by omega), k + 1, A55, c55, by omega, hc55, rfl, HF.sub (by kernel_rfl), HM.picks [0] (by decide) rfl⟩
    ·have HF := HF.on 42 hb42
     have hd42 := of_decide_eq_false hb42
     refine cond_false HF rfl (wp_skip (from_start ?_))
     refine fp HF 2 0 [(53, vI (p.getD k 0)), (52, .slice Ak k ck)] ?_; clear HF; intro a HF
     refine from_op HF (i := 2) rfl rfl ?_
     refine e_slice HF HM (vs := [(0, vI (p.getD k 0))]) (cs := #[vI (p.getD k 0)]) rfl ei_pol (by decide) rfl (by kernel_rfl) rfl (by decide) ?_
     clear HF HM; intro a w54 g54 HF HM
     refine from_op HF (i := 3) rfl rfl ?_
     refine e_append HF HM (i := 1) rfl ei_pol rfl rfl rfl (news := [I64v (p.getD k 0)]) (HM.rdBlk (i := 0) (n := 1) (size := 1) rfl rfl) (by simp [Value.oneCell', I64v]) (by omega) (by omega) rfl (by decide) ?_
     clear HF HM; intro a w55 A55 c55 HF HM hc55
     refine fp HF 1 4 [(7, .slice A55 (k + 1) c55)] ?_; clear HF; intro a HF
     refine from_done rfl ?_
     replace HF := HF.to [(7, .slice A55 (k + 1) c55), (42, .bool false), (9, vI (p.getD k 0)), (27, .bool true), (21, .bool true), (8, vI k), (6, .slice none 0 0), (0, .slice (some ⟨gA, oA, none⟩) p.length c), (1, .slice A2 q.length c2), (2, vI s)]
     replace HM := HM.picks (fs' := [.row (.slice A55 (k + 1) c55) (k + 1) (((sumUp p q s k).map I64v) ++ [I64v (p.getD k 0)]) 3 1]) [1] (by decide) rfl
     have hnA55 : k + 1 = k + 1 := rfl
     replace HM := HM.reRow (i := 0) (ys := (sumUp p q s (k + 1)).map I64v) rfl hnA55 (by rw [sumUp_succ, sumAtC (by omega)]; simp)
     rw [hnA55] at hc55
     replace HF := HF.as (t := 7) (u := .slice A55 (k + 1) c55) rfl (by rw [hnA55])
     refine from_start ?_
     refine fp HF 2 0 [(23, vI (IntKind.i64.wrap ((k : Int) + 1))), (22, vI k)] ?_; clear HF; intro a HF
     replace HF := HF.as (t := 23) (u := vI (k + 1 : Nat)) rfl (i64_nat (by omega) (by omega))
     refine fp HF 1 2 [(8, vI (k + 1 : Nat))] ?_; clear HF; intro a HF
     refine from_done rfl ?_
     exact ⟨_, (by omega), k + 1, A55, c55, by omega, hc55, rfl, HF.sub (by kernel_rfl), HM.picks [0] (by decide) rfl⟩
   ·have HF := HF.on 35 hb35
    have hd35 := of_decide_eq_false hb35
    refine fp HF 7 4 [(42, .bool false), (41, undef), (40, undef), (39, undef), (38, undef), (37, undef), (36, undef)] ?_; clear HF; intro a HF
    refine from_done rfl ?_
    refine cond_false HF rfl (wp_skip (from_start ?_))
    refine fp HF 2 0 [(53, vI (p.getD k 0)), (52, .slice Ak k ck)] ?_; clear HF; intro a HF
    refine from_op HF (i := 2) rfl rfl ?_
    refine e_slice HF HM (vs := [(0, vI (p.getD k 0))]) (cs := #[vI (p.getD k 0)]) rfl ei_pol (by decide) rfl (by kernel_rfl) rfl (by decide) ?_
    clear HF HM; intro a w54 g54 HF HM
    refine from_op HF (i := 3) rfl rfl ?_
    refine e_append HF HM (i := 1) rfl ei_pol rfl rfl rfl (news := [I64v (p.getD k 0)]) (HM.rdBlk (i := 0) (n := 1) (size := 1) rfl rfl) (by simp [Value.oneCell', I64v]) (by omega) (by omega) rfl (by decide) ?_
    clear HF HM; intro a w55 A55 c55 HF HM hc55
    refine fp HF 1 4 [(7, .slice A55 (k + 1) c55)] ?_; clear HF; intro a HF
    refine from_done rfl ?_
    replace HM := HM.picks (fs' := [.row (.slice A55 (k + 1) c55) (k + 1) (((sumUp p q s k).map I64v) ++ [I64v (p.getD k 0)]) 3 1]) [1] (by decide) rfl
    have hnA55 : k + 1 = k + 1 := rfl
    replace HM := HM.reRow (i := 0) (ys := (sumUp p q s (k + 1)).map I64v) rfl hnA55 (by rw [sumUp_succ, sumAtC (by omega)]; simp)
    rw [hnA55] at hc55
    replace HF := HF.as (t := 7) (u := .slice A55 (k + 1) c55) rfl (by rw [hnA55])
    replace HF := HF.as (t := 55) (u := .slice A55 (k + 1) c55) rfl (by rw [hnA55])
    refine from_start ?_
    refine fp HF 2 0 [(23, vI (IntKind.i64.wrap ((k : Int) + 1))), (22, vI k)] ?_; clear HF; intro a HF
    replace HF := HF.as (t := 23) (u := vI (k + 1 : Nat)) rfl (i64_nat (by omega) (by omega))
    refine fp HF 1 2 [(8, vI (k + 1 : Nat))] ?_; clear HF; intro a HF
    refine from_done rfl ?_
    replace HF := HF.to [(8, vI (k + 1 : Nat)), (55, .slice A55 (k + 1) c55), (7, .slice A55 (k + 1) c55), (42, .bool false), (9, vI (p.getD k 0)), (27, .bool true), (21, .bool true), (6, .slice none 0 0), (0, .slice (some ⟨gA, oA, none⟩) p.length c), (1, .slice A2 q.length c2), (2, vI s)]
    exact ⟨_, (by omega), k + 1, A55, c55, by omega, hc55, rfl, HF.sub (by kernel_rfl), HM.picks [0] (by decide) rfl⟩
  ·have HF := HF.on 27 hb27
   have hd27 := of_decide_eq_false hb27
   omega
 ·have HF := HF.on 14 hb14
  have hd14 := of_decide_eq_false hb14
  refine fp HF 2 5 [(16, .slice A2 q.length c2), (15, vI k)] ?_; clear HF; intro a HF
  refine fy HF HM 7 rfl rfl rfl (Yl.len rfl rfl (by kernel_rfl)) ?_; clear HF; intro a HF
  refine fp HF 2 8 [(19, vI (IntKind.i64.wrap ((q.length : Int) + (s : Int)))), (18, vI s)] ?_; clear HF; intro a HF
  replace HF := HF.as (t := 19) (u := vI (q.length + s : Nat)) rfl (i64_nat (by omega) (by omega))
  refine fp HF 2 10 [(21, .bool (decide ((k : Int) < ((q.length + s : Nat) : Int)))), (20, .bool (decide ((k : Int) < ((q.length + s : Nat) : Int))))] ?_; clear HF; intro a HF
  refine from_done rfl ?_
  rcases Bool.eq_false_or_eq_true (decide ((k : Int) < ((q.length + s : Nat) : Int))) with hb21 | hb21
  ·have HF := HF.on 21 hb21
   have hd21 := of_decide_eq_true hb21
   refine cond_true HF rfl (wp_skip (wp_seq (wp_block (wp_seq (from_start ?_)))))
   refine fp HF 1 0 [(9, vI 0)] ?_; clear HF; intro a HF
   refine from_done rfl ?_
   refine wp_seq (wp_seq (from_start ?_))
   refine fp HF 2 0 [(25, .slice A p.length c), (24, vI k)] ?_; clear HF; intro a HF
   refine fy HF HM 2 rfl rfl rfl (Yl.len rfl rfl (by kernel_rfl)) ?_; clear HF; intro a HF
   refine fp HF 1 3 [(27, .bool (decide ((k : Int) < (p.length : Int))))] ?_; clear HF; intro a HF
   refine from_done rfl ?_
   replace HF := HF.to [(27, .bool (decide ((k : Int) < (p.length : Int)))), (9, vI 0), (21, .bool true), (8, vI k), (7, .slice Ak k ck), (6, .slice none 0 0), (0, .slice A p.length c), (1, .slice A2 q.length c2), (2, vI s)]
   rcases Bool.eq_false_or_eq_true (decide ((k : Int) < (p.length : Int))) with hb27 | hb27
   ·have HF := HF.on 27 hb27
    have hd27 := of_decide_eq_true hb27
    omega
   ·have HF := HF.on 27 hb27
    have hd27 := of_decide_eq_false hb27
    refine cond_false HF rfl (wp_skip (wp_seq (wp_seq (from_start ?_))))
    refine fp HF 4 0 [(35, .bool (decide ((k : Int) ≥ (s : Int)))), (34, .bool (decide ((k : Int) ≥ (s : Int)))), (33, vI s), (32, vI k)] ?_; clear HF; intro a HF
    rcases Bool.eq_false_or_eq_true (decide ((k : Int) ≥ (s : Int))) with hb35 | hb35
    ·have HF := HF.on 35 hb35
     have hd35 := of_decide_eq_true hb35
     refine fp HF 3 4 [(38, vI (IntKind.i64.wrap ((k : Int) - (s : Int)))), (37, vI s), (36, vI k)] ?_; clear HF; intro a HF
     replace HF := HF.as (t := 38) (u := vI (k - s : Nat)) rfl (i64_nat (by omega) (by omega))
     refine fp HF 1 7 [(39, .slice A2 q.length c2)] ?_; clear HF; intro a HF
     refine fy HF HM 8 rfl rfl rfl (Yl.len rfl rfl (by kernel_rfl)) ?_; clear HF; intro a HF
     refine fp HF 2 9 [(42, .bool (decide (((k - s : Nat) : Int) < (q.length : Int)))), (41, .bool (decide (((k - s : Nat) : Int) < (q.length : Int))))] ?_; clear HF; intro a HF
     refine from_done rfl ?_
     rcases Bool.eq_false_or_eq_true (decide (((k - s : Nat) : Int) < (q.length : Int))) with hb42 | hb42
     ·have HF := HF.on 42 hb42
      have hd42 := of_decide_eq_true hb42
      refine cond_true HF rfl (from_start ?_)
      refine fp HF 5 0 [(47, vI (IntKind.i64.wrap ((k : Int) - (s : Int)))), (46, vI s), (45, vI k), (44, .slice A2 q.length c2), (43, vI 0)] ?_; clear HF; intro a HF
      replace HF := HF.as (t := 47) (u := vI (k - s : Nat)) rfl (i64_nat (by omega) (by omega))
      obtain ⟨gA2, oA2, rfl, _⟩ := hr2.some_at (Nat.lt_of_le_of_lt (Nat.zero_le _) (show k - s < q.length from by omega)) (by decide)
      refine fy HF HM 5 rfl rfl rfl (v := vP gA2 (oA2 + (k - s) * 1)) ((Yl.indexAddr (ad := ⟨gA2, oA2, none⟩) (y := k - s) (sz := 1) rfl rfl rfl (by omega) (by kernel_rfl)).as (by rw [Addr.add_mid])) ?_; clear HF; intro a HF
      have hx227 := getD_lt h2 (k := (k - s)) (by first | omega | (simp; omega))
      refine fy HF HM 6 rfl rfl rfl (v := vI (q.getD (k - s) 0)) (Yl.load1 rfl rfl (by kernel_rfl) (fun _ h => (h.old hr2).oneAt1 (k := (k - s)) (map_at (F := I64v) (k := (k - s)) (x := (q.getD (k - s) 0)) ((getD_at 0 (k := (k - s)) (by first | omega | (simp; omega))))))) ?_; clear HF; intro a HF
      refine fp HF 1 7 [(50, vI (IntKind.i64.wrap (0 + ((q.getD (k - s) 0) : Int))))] ?_; clear HF; intro a HF
      replace HF := HF.as (t := 50) (u := vI (0 + (q.getD (k - s) 0) : Nat)) rfl (i64_nat (by omega) (by omega))
      refine fp HF 1 8 [(51, vI (Int.tmod ((0 + (q.getD (k - s) 0) : Nat) : Int) 2))] ?_; clear HF; intro a HF
      replace HF := HF.as (t := 51) (u := vI ((0 + (q.getD (k - s) 0)) % 2 : Nat)) rfl (tmod_nat .i64 _ 2)
      refine fp HF 1 9 [(9, vI ((0 + (q.getD (k - s) 0)) % 2 : Nat))] ?_; clear HF; intro a HF
      refine from_done rfl ?_
      replace HF := HF.to [(9, vI ((0 + (q.getD (k - s) 0)) % 2 : Nat)), (42, .bool true), (27, .bool false), (21, .bool true), (8, vI k), (7, .slice Ak k ck), (6, .slice none 0 0), (0, .slice A p.length c), (1, .slice (some ⟨gA2, oA2, none⟩) q.length c2), (2, vI s)]
      refine from_start ?_
      refine fp HF 2 0 [(53, vI ((0 + (q.getD (k - s) 0)) % 2 : Nat)), (52, .slice Ak k ck)] ?_; clear HF; intro a HF
      refine from_op HF (i := 2) rfl rfl ?_
      refine e_slice HF HM (vs := [(0, vI ((0 + (q.getD (k - s) 0)) % 2 : Nat))]) (cs := #[vI ((0 + (q.getD (k - s) 0)) % 2 : Nat)]) rfl ei_pol (by decide) rfl (by kernel_rfl) rfl (by decide) ?_
      clear HF HM; intro a w54 g54 HF HM
      refine from_op HF (i := 3) rfl rfl ?_
      refine e_append HF HM (i := 1) rfl ei_pol rfl rfl rfl (news := [I64v ((0 + (q.getD (k - s) 0)) % 2)]) (HM.rdBlk (i := 0) (n := 1) (size := 1) rfl rfl) (by simp [Value.oneCell', I64v]) (by omega) (by omega) rfl (by decide) ?_
      clear HF HM; intro a w55 A55 c55 HF HM hc55
      refine fp HF 1 4 [(7, .slice A55 (k + 1) c55)] ?_; clear HF; intro a HF
      refine from_done rfl ?_
      replace HM := HM.picks (fs' := [.row (.slice A55 (k + 1) c55) (k + 1) (((sumUp p q s k).map I64v) ++ [I64v ((0 + (q.getD (k - s) 0)) % 2)]) 3 1]) [1] (by decide) rfl
      have hnA55 : k + 1 = k + 1 := rfl
      replace HM := HM.reRow (i := 0) (ys := (sumUp p q s (k + 1)).map I64v) rfl hnA55 (by rw [sumUp_succ, sumAtB (by omega) (by omega) (by omega)]; simp)
      rw [hnA55] at hc55
      replace HF := HF.as (t := 7) (u := .slice A55 (k + 1) c55) rfl (by rw [hnA55])
      replace HF := HF.as (t := 55) (u := .slice A55 (k + 1) c55) rfl (by rw [hnA55])
      refine from_start ?_
      refine fp HF 2 0 [(23, vI (IntKind.i64.wrap ((k : Int) + 1))), (22, vI k)] ?_; clear HF; intro a HF
      replace HF := HF.as (t := 23) (u := vI (k + 1 : Nat)) rfl (i64_nat (by omega) (by omega))
      refine fp HF 1 2 [(8, vI (k + 1 : Nat))] ?_; clear HF; intro a HF
      refine from_done rfl ?_
      exact ⟨_, (by omega), k + 1, A55, c55, by omega, hc55, rfl, HF.sub (by kernel_rfl), HM.picks [0] (by decide) rfl⟩
     ·have HF := HF.on 42 hb42
      have hd42 := of_decide_eq_false hb42
      refine cond_false HF rfl (wp_skip (from_start ?_))
      refine fp HF 2 0 [(53, vI 0), (52, .slice Ak k ck)] ?_; clear HF; intro a HF
      refine from_op HF (i := 2) rfl rfl ?_
      refine e_slice HF HM (vs := [(0, vI 0)]) (cs := #[vI 0]) rfl ei_pol (by decide) rfl (by kernel_rfl) rfl (by decide) ?_
      clear HF HM; intro a w54 g54 HF HM
      refine from_op HF (i := 3) rfl rfl ?_
      refine e_append HF HM (i := 1) rfl ei_pol rfl rfl rfl (news := [I64v 0]) (HM.rdBlk (i := 0) (n := 1) (size := 1) rfl rfl) (by simp [Value.oneCell', I64v]) (by omega) (by omega) rfl (by decide) ?_
      clear HF HM; intro a w55 A55 c55 HF HM hc55
      refine fp HF 1 4 [(7, .slice A55 (k + 1) c55)] ?_; clear HF; intro a HF
      refine from_done rfl ?_
      replace HF := HF.to [(7, .slice A55 (k + 1) c55), (42, .bool false), (27, .bool false), (9, vI 0), (21, .bool true), (8, vI k), (6, .slice none 0 0), (0, .slice A p.length c), (1, .slice A2 q.length c2), (2, vI s)]
      replace HM := HM.picks (fs' := [.row (.slice A55 (k + 1) c55) (k + 1) (((sumUp p q s k).map I64v) ++ [I64v 0]) 3 1]) [1] (by decide) rfl
      have hnA55 : k + 1 = k + 1 := rfl
      replace HM := HM.reRow (i := 0) (ys := (sumUp p q s (k + 1)).map I64v) rfl hnA55 (by rw [sumUp_succ, sumAtD (by omega) (by omega)]; simp)
      rw [hnA55] at hc55
      replace HF := HF.as (t := 7) (u := .slice A55 (k + 1) c55) rfl (by rw [hnA55])
      refine from_start ?_
      refine fp HF 2 0 [(23, vI (IntKind.i64.wrap ((k : Int) + 1))), (22, vI k)] ?_; clear HF; intro a HF
      replace HF := HF.as (t := 23) (u := vI (k + 1 : Nat)) rfl (i64_nat (by omega) (by omega))
      refine fp HF 1 2 [(8, vI (k + 1 : Nat))] ?_; clear HF; intro a HF
      refine from_done rfl ?_
      exact ⟨_, (by omega), k + 1, A55, c55, by omega, hc55, rfl, HF.sub (by kernel_rfl), HM.picks [0] (by decide) rfl⟩
    ·have HF := HF.on 35 hb35
     have hd35 := of_decide_eq_false hb35
     refine fp HF 7 4 [(42, .bool false), (41, undef), (40, undef), (39, undef), (38, undef), (37, undef), (36, undef)] ?_; clear HF; intro a HF
     refine from_done rfl ?_
     refine cond_false HF rfl (wp_skip (from_start ?_))
     refine fp HF 2 0 [(53, vI 0), (52, .slice Ak k ck)] ?_; clear HF; intro a HF
     refine from_op HF (i := 2) rfl rfl ?_
     refine e_slice HF HM (vs := [(0, vI 0)]) (cs := #[vI 0]) rfl ei_pol (by decide) rfl (by kernel_rfl) rfl (by decide) ?_
     clear HF HM; intro a w54 g54 HF HM
     refine from_op HF (i := 3) rfl rfl ?_
     refine e_append HF HM (i := 1) rfl ei_pol rfl rfl rfl (news := [I64v 0]) (HM.rdBlk (i := 0) (n := 1) (size := 1) rfl rfl) (by simp [Value.oneCell', I64v]) (by omega) (by omega) rfl (by decide) ?_
     clear HF HM; intro a w55 A55 c55 HF HM hc55
     refine fp HF 1 4 [(7, .slice A55 (k + 1) c55)] ?_; clear HF; intro a HF
     refine from_done rfl ?_
     replace HF := HF.to [(7, .slice A55 (k + 1) c55), (42, .bool false), (27, .bool false), (9, vI 0), (21, .bool true), (8, vI k), (6, .slice none 0 0), (0, .slice A p.length c), (1, .slice A2 q.length c2), (2, vI s)]
     replace HM := HM.picks (fs' := [.row (.slice A55 (k + 1) c55) (k + 1) (((sumUp p q s k).map I64v) ++ [I64v 0]) 3 1]) [1] (by decide) rfl
     have hnA55 : k + 1 = k + 1 := rfl
     replace HM := HM.reRow (i := 0) (ys := (sumUp p q s (k + 1)).map I64v) rfl hnA55 (by rw [sumUp_succ, sumAtD (by omega) (by omega)]; simp)
     rw [hnA55] at hc55
     replace HF := HF.as (t := 7) (u := .slice A55 (k + 1) c55) rfl (by rw [hnA55])
     refine from_start ?_
     refine fp HF 2 0 [(23, vI (IntKind.i64.wrap ((k : Int) + 1))), (22, vI k)] ?_; clear HF; intro a HF
     replace HF := HF.as (t := 23) (u := vI (k + 1 : Nat)) rfl (i64_nat (by omega) (by omega))
     refine fp HF 1 2 [(8, vI (k + 1 : Nat))] ?_; clear HF; intro a HF
     refine from_done rfl ?_
     exact ⟨_, (by omega), k + 1, A55, c55, by omega, hc55, rfl, HF.sub (by kernel_rfl), HM.picks [0] (by decide) rfl⟩
  ·have HF := HF.on 21 hb21
   have hd21 := of_decide_eq_false hb21
   have hkM : k = (max p.length (q.length + s)) := by omega
   refine cond_false HF rfl (wp_exit (wp_seq (from_start ?_)))
   refine fp HF 1 0 [(56, .slice Ak k ck)] ?_; clear HF; intro a HF
   refine from_op HF (i := 1) rfl rfl ?_
   refine e_call HF (vs := [.slice Ak k ck]) rfl (by kernel_rfl) (by kernel_rfl) rfl (by decide) (trim_any _ _ _ (sumUp p q s k) _ (HM.rd (i := 0) rfl) (sumUp_len p q s k) (by omega) (by omega)) ?_
   rintro _ w57 ⟨rfl, hbw⟩
   refine ⟨_, rfl, ?_⟩
   replace HM := HM.call hbw
   clear HF; intro a HF
   have htl57 := trim_len (sumUp p q s k)
   have hle57 : (trimL (sumUp p q s k)).length ≤ k := by rw [sumUp_len p q s k] at htl57; exact htl57
   replace HM := HM.cutRow (i := 0) rfl hle57 (trim_take_map (sumUp p q s k))
   refine fp HF 1 2 [(6, .slice Ak ((trimL (sumUp p q s k)).length) ck)] ?_; clear HF; intro a HF
   refine from_done rfl ?_
   replace HF := HF.to [(6, .slice Ak ((trimL (sumUp p q s k)).length) ck), (21, .bool false), (8, vI k), (7, .slice Ak k ck), (0, .slice A p.length c), (1, .slice A2 q.length c2), (2, vI s)]
   refine wp_ret ?_
   exact ret1 rfl HF (.tmp HF rfl) (by rw [← sumUp_all p q s, ← hkM]; exact ⟨⟨_, _, rfl, HM.own (i := 0) rfl, by omega⟩, HM.below⟩)
theorem one01 : P01 [1] := by intro x hx; simp at hx; omega
theorem divIs_of {w w' : World} {A X Xr : Option Addr} {c ca cr : Nat} {p q al xr : List Nat} {vq : Value} (hR : divR (p.length + 1) p q = al) (hX : (X = A ∧ ca = c ∧ al = p) ∨ (X = Xr ∧ ca = cr ∧ al = xr ∧ q.length ≤ p.length))
    (hO : w'.ownsRow w.heap.size 3 1 (.slice Xr xr.length cr) xr.length (xr.map I64v)) (hcr : xr.length ≤ cr) (hless : al.length < q.length) (hb : Below w.heap.size w w') :
    DivIs w A c p q (.returned (.tuple #[vq, .slice X al.length ca])) w' := by
  unfold DivIs
  rw [hR]
  refine ⟨⟨vq, X, ca, rfl, ?_, ?_⟩, hb⟩
  · intro h
    rcases hX with ⟨h1, h2, _⟩ | ⟨_, _, _, h4⟩
    · exact ⟨h1, h2⟩
    · omega
  · intro h
    rcases hX with ⟨_, _, h3⟩ | ⟨rfl, rfl, rfl, _⟩
    · subst h3; omega
    · exact ⟨hO, hcr⟩
set_option maxRecDepth 100000 in
set_option maxHeartbeats 4000000 in
theorem divide_any (A A2 : Option Addr) (c c2 : Nat) (p q : List Nat) (w : World) (h1 : P01 p) (h2 : P01 q) (t1 : Tr p) (t2 : Tr q) (h0 : 0 < q.length) (hr : Rd w w.heap.size 1 A p.length (p.map I64v)) (hr2 : Rd w w.heap.size 1 A2 q.length (q.map I64v)) (hp : p.length ≤ 100000) (hq : q.length ≤ 100000) :
    Calls Tryd.prog 100 #[.slice A p.length c, .slice A2 q.length c2] w (DivIs w A c p q) := by
 refine calls_enter (vs := [.slice A p.length c, .slice A2 q.length c2]) Tryd.func100 rfl rfl (by kernel_rfl) (σ0 := [(0, .slice A p.length c), (1, .slice A2 q.length c2)]) rfl ?_
 intro a HF
 have HM := Mem.start w
 refine wp_seq (from_start ?_)
 refine fp HF 2 0 [(5, .slice none 0 0), (4, .slice none 0 0)] ?_; clear HF; intro a HF
 refine from_done rfl ?_
 refine wp_seq (from_start ?_)
 refine fp HF 1 0 [(6, .slice none 0 0)] ?_; clear HF; intro a HF
 refine from_done rfl ?_
 replace HM := (HM.nil 3 1).nil 3 1
 refine wp_seq (wp_block ?_)
 refine loop_nat (fun mS aS wS => ∃ (al : List Nat) (X : Option Addr) (ca : Nat) (Xr : Option Addr) (xr : List Nat) (cr : Nat) (ql : List Nat) (Aq : Option Addr) (cq : Nat), (P01 al) ∧ (Tr al) ∧ (al.length ≤ p.length) ∧ (divR (al.length + 1) al q = divR (p.length + 1) p q) ∧ ((X = A ∧ ca = c ∧ al = p) ∨ (X = Xr ∧ ca = cr ∧ al = xr ∧ q.length ≤ p.length)) ∧ (P01 ql) ∧ (ql.length ≤ p.length + 1) ∧ (xr.length ≤ cr) ∧ mS = al.length ∧ Fr aS 28 [] [(6, .slice Aq ql.length cq), (5, .slice none 0 0), (4, .slice none 0 0), (0, .slice X al.length ca), (1, .slice A2 q.length c2)] ∧ Mem w wS [.row (.slice Aq ql.length cq) ql.length (ql.map I64v) 3 1, .row (.slice Xr xr.length cr) xr.length (xr.map I64v) 3 1]) (m := p.length) ⟨p, A, c, none, [], 0, [], none, 0, h1, t1, Nat.le_refl _, rfl, .inl ⟨rfl, rfl, rfl⟩, (by intro x hx; cases hx), Nat.zero_le _, Nat.le_refl _, rfl, HF.sub (by kernel_rfl), HM.picks [0, 1] (by decide) rfl⟩ ?_
 clear HF HM; rintro mS a w_ ⟨al, X, ca, Xr, xr, cr, ql, Aq, cq, ha1, hat, hal, hdv, hX, hq1, hql, hcr, rfl, HF, HM⟩
 refine wp_seq (wp_seq (from_start ?_))
 refine fp HF 1 0 [(8, .slice X al.length ca)] ?_; clear HF; intro a HF
 refine fy HF HM 1 rfl rfl rfl (Yl.len rfl rfl (by kernel_rfl)) ?_; clear HF; intro a HF
 refine fp HF 1 2 [(10, .slice A2 q.length c2)] ?_; clear HF; intro a HF
 refine fy HF HM 3 rfl rfl rfl (Yl.len rfl rfl (by kernel_rfl)) ?_; clear HF; intro a HF
 refine fp HF 1 4 [(12, .bool (decide ((al.length : Int) ≥ (q.length : Int))))] ?_; clear HF; intro a HF
 refine from_done rfl ?_
 rcases Bool.eq_false_or_eq_true (decide ((al.length : Int) ≥ (q.length : Int))) with hb12 | hb12
 ·have HF := HF.on 12 hb12
  have hd12 := of_decide_eq_true hb12
  have hless := sum_less ha1 h2 hat t2 h0 (by omega)
  refine cond_true HF rfl (wp_skip (wp_block (wp_seq (from_start ?_))))
  refine fp HF 1 0 [(13, .slice X al.length ca)] ?_; clear HF; intro a HF
  refine fy HF HM 1 rfl rfl rfl (Yl.len rfl rfl (by kernel_rfl)) ?_; clear HF; intro a HF
  refine fp HF 1 2 [(15, .slice A2 q.length c2)] ?_; clear HF; intro a HF
  refine fy HF HM 3 rfl rfl rfl (Yl.len rfl rfl (by kernel_rfl)) ?_; clear HF; intro a HF
  refine fp HF 1 4 [(17, vI (IntKind.i64.wrap ((al.length : Int) - (q.length : Int))))] ?_; clear HF; intro a HF
  replace HF := HF.as (t := 17) (u := vI (al.length - q.length : Nat)) rfl (i64_nat (by omega) (by omega))
  refine fp HF 1 5 [(7, vI (al.length - q.length : Nat))] ?_; clear HF; intro a HF
  refine from_done rfl ?_
  refine wp_seq (from_start ?_)
  refine fp HF 1 0 [(18, .slice Aq ql.length cq)] ?_; clear HF; intro a HF
  refine from_op HF (i := 1) rfl rfl ?_
  refine e_slice HF HM (vs := [(0, vI 1)]) (cs := #[vI 1]) rfl ei_pol (by decide) rfl (by kernel_rfl) rfl (by decide) ?_
  clear HF HM; intro a w19 g19 HF HM
  refine fp HF 1 2 [(20, vI (al.length - q.length : Nat))] ?_; clear HF; intro a HF
  refine from_op HF (i := 3) rfl rfl ?_
  refine e_call HF (vs := [.slice Aq ql.length cq, vS g19 1 1, vI (al.length - q.length : Nat)]) rfl (by kernel_rfl) (by kernel_rfl) rfl (by decide) (polsum_any _ _ _ _ ql [1] (al.length - q.length) _ hq1 one01 (HM.rd (i := 1) rfl) (HM.rdBlk (i := 0) (n := 1) (size := 1) rfl rfl) (by omega) (by simp only [List.length_singleton]; omega)) ?_
  rintro _ w21 ⟨⟨A21, c21, rfl, ho, hc21⟩, hbw⟩
  refine ⟨_, rfl, ?_⟩
  replace HM := HM.callRow hbw ho
  clear HF; intro a HF
  refine fp HF 1 4 [(6, .slice A21 ((sumL ql [1] (al.length - q.length)).length) c21)] ?_; clear HF; intro a HF
  refine from_done rfl ?_
  replace HM := HM.picks (fs' := [.row (.slice A21 ((sumL ql [1] (al.length - q.length)).length) c21) ((sumL ql [1] (al.length - q.length)).length) ((sumL ql [1] (al.length - q.length)).map I64v) 3 1, .row (.slice Xr xr.length cr) xr.length (xr.map I64v) 3 1]) [0, 3] (by decide) rfl
  refine from_start ?_
  refine fp HF 3 0 [(24, vI (al.length - q.length : Nat)), (23, .slice A2 q.length c2), (22, .slice X al.length ca)] ?_; clear HF; intro a HF
  refine from_op HF (i := 3) rfl rfl ?_
  refine e_call HF (vs := [.slice X al.length ca, .slice A2 q.length c2, vI (al.length - q.length : Nat)]) rfl (by kernel_rfl) (by kernel_rfl) rfl (by decide) (polsum_any _ _ _ _ al q (al.length - q.length) _ ha1 h2 (by rcases hX with ⟨rfl, rfl, rfl⟩ | ⟨rfl, rfl, rfl, _⟩ <;> first | exact HM.old hr | exact HM.rd (i := 1) rfl) (HM.old hr2) (by omega) (by omega)) ?_
  rintro _ w25 ⟨⟨A25, c25, rfl, ho, hc25⟩, hbw⟩
  refine ⟨_, rfl, ?_⟩
  replace HM := HM.callRow hbw ho
  clear HF; intro a HF
  refine fp HF 1 4 [(0, .slice A25 ((sumL al q (al.length - q.length)).length) c25)] ?_; clear HF; intro a HF
  refine from_done rfl ?_
  replace HF := HF.to [(0, .slice A25 ((sumL al q (al.length - q.length)).length) c25), (6, .slice A21 ((sumL ql [1] (al.length - q.length)).length) c21), (7, vI (al.length - q.length : Nat)), (12, .bool true), (5, .slice none 0 0), (4, .slice none 0 0), (1, .slice A2 q.length c2)]
  exact ⟨_, hless, (sumL al q (al.length - q.length)), A25, c25, A25, (sumL al q (al.length - q.length)), c25, (sumL ql [1] (al.length - q.length)), A21, c21, sum01 ha1 _, sumTr _ _ _, by omega, div_step h2 t2 h0 ha1 hat (by omega) hdv, .inr ⟨rfl, rfl, rfl, by omega⟩, sum01 hq1 _, by have := sum_len ql [1] (al.length - q.length); simp only [List.length_singleton] at this; omega, hc25, rfl, HF.sub (by kernel_rfl), HM.picks [1, 0] (by decide) rfl⟩
 ·have HF := HF.on 12 hb12
  have hd12 := of_decide_eq_false hb12
  refine cond_false HF rfl (wp_exit (wp_seq (from_start ?_)))
  refine fp HF 4 0 [(5, .slice X al.length ca), (4, .slice Aq ql.length cq), (27, .slice X al.length ca), (26, .slice Aq ql.length cq)] ?_; clear HF; intro a HF
  refine from_done rfl ?_
  refine wp_ret ?_
  have hR : divR (p.length + 1) p q = al := by rw [← hdv, div_stop (by omega)]
  exact ret2 rfl HF (.tmp HF rfl) (.tmp HF rfl) (divIs_of hR hX (HM.own (i := 1) rfl) hcr (by omega) HM.below)
end Go.Proofs.YtnakabnmjnfpcaaDoor

