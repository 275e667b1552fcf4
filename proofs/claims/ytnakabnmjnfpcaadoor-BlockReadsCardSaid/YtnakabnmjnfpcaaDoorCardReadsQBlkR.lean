/- A part of the proof. -/
import Derived.Test.YtnakabnmjnfpcaaDoorCardReadsQBlkS
namespace Go.Proofs.YtnakabnmjnfpcaaDoor
open Go.RowKit
def numsR : Nat → List Nat → List Nat × List Nat
  | 0, l => ([], l)
  | k + 1, l => if (vread l).2.2 = 0 then ((vread l).1 :: (numsR k (tkRest l)).1, (numsR k (tkRest l)).2) else ([], l)
def looseEnd (l : List Nat) : Bk := ⟨2, 0, 0, if (numsR 1 l).1.length = 1 then wrap64 ((numsR 1 l).1.getD 0 0 : Int) else 0, []⟩
def looseRow (cpu n : Nat) (l : List Nat) : List Ev :=
  if 0 < n ∧ n ≤ 4096 ∧ (numsR 2 l).1.length = 2 then (readR ⟨wrap64 ((numsR 2 l).1.getD 0 0 : Int), wrap64 ((numsR 2 l).1.getD 1 0 : Int)⟩ cpu n (numsR 2 l).2).1 else []
def looseEvs (k : Nat) (l : List Nat) : Bk :=
  if (numsR 3 l).1.length < 3 then ⟨k, 0, 0, 0, []⟩
  else ⟨k, (numsR 3 l).1.getD 0 0 % 256, wrap64 ((numsR 3 l).1.getD 1 0 : Int), 0, looseRow ((numsR 3 l).1.getD 0 0 % 256) ((numsR 3 l).1.getD 2 0) (numsR 3 l).2⟩
def loose (k : Nat) (l : List Nat) : Bk := if k = 2 then looseEnd l else looseEvs k l
def refOf (l : List Nat) : Option Bk × Nat :=
  if sealedR l = false then (none, 102)
  else if ¬ (l.getD 4 0 = 113 ∧ l.getD 5 0 = 116) then (none, 103)
  else if l.getD 6 0 ≠ 1 then (none, 104)
  else if l.getD 7 0 ≠ 1 ∧ l.getD 7 0 ≠ 2 then (none, 105)
  else if (loose (l.getD 7 0) ((l.take (l.length - 4)).drop 8)).err ≠ 0 ∨ (loose (l.getD 7 0) ((l.take (l.length - 4)).drop 8)).raw ≠ l.take (l.length - 4) then (none, 106)
  else (some (loose (l.getD 7 0) ((l.take (l.length - 4)).drop 8)), 0)
theorem numsR_cons {x k : Nat} (rest : List Nat) (h : x < 18446744073709551616) : numsR (k + 1) (vbytes x ++ rest) = (x :: (numsR k rest).1, (numsR k rest).2) := by
  obtain ⟨_, _, h3⟩ := tk_of (most := x) rest (Nat.le_refl _) h
  rw [numsR, h3, vread_fwd rest h]
  simp
theorem numsR_lt : ∀ (k : Nat) (l : List Nat), (∀ b ∈ l, b < 256) → ∀ b ∈ (numsR k l).2, b < 256
  | 0, l, hl => hl
  | k + 1, l, hl => by
    rw [numsR]
    split
    · exact numsR_lt k _ (tk_rest_lt hl)
    · exact hl
theorem wrap_num {x : Nat} (h : x ≤ 281474976710657) : wrap64 (x : Int) = (x : Int) := by unfold wrap64; omega
theorem looseEnd_of {l r : List Nat} {x : Nat} (h : numsR 1 l = ([x], r)) : looseEnd l = ⟨2, 0, 0, wrap64 (x : Int), []⟩ := by unfold looseEnd; rw [h]; simp
theorem looseEvs_of {k a b c : Nat} {l r : List Nat} (h : numsR 3 l = ([a, b, c], r)) : looseEvs k l = ⟨k, a % 256, wrap64 (b : Int), 0, looseRow (a % 256) c r⟩ := by unfold looseEvs; rw [h]; simp
theorem looseRow_of {cpu n x y : Nat} {l r : List Nat} (h : numsR 2 l = ([x, y], r)) (h1 : 0 < n) (h2 : n ≤ 4096) : looseRow cpu n l = (readR ⟨wrap64 (x : Int), wrap64 (y : Int)⟩ cpu n r).1 := by unfold looseRow; rw [h, if_pos ⟨h1, h2, rfl⟩]; simp
theorem loose_body {b : Bk} (hok : b.Ok) (h : b.fits = true) (hn : b.evs.length ≤ 4096) : loose b.kind b.body = b := by
  unfold loose
  split
  · rename_i hk
    have h := fits_end h hk
    unfold Bk.fitsN at h
    rw [decide_eq_true_eq] at h
    obtain ⟨h1, h2, h3, h4, h5⟩ := h
    have hx : ((b.next.toNat : Nat) : Int) = b.next := by omega
    unfold Bk.body
    rw [if_pos hk]
    have hq := numsR_cons (x := b.next.toNat) (k := 0) [] (by omega)
    rw [List.append_nil] at hq
    rw [looseEnd_of hq, wrap_num (by omega), hx]
    cases b
    simp only at hk h3 h4 h5
    rw [List.length_eq_zero_iff] at h5
    subst hk; subst h3; subst h4; subst h5; rfl
  · rename_i hk
    obtain ⟨hk1, hE⟩ := fits_evs h hk
    have hE' := hE
    unfold Bk.fitsE at hE'
    rw [decide_eq_true_eq] at hE'
    obtain ⟨h1, h2, h3, h4, h5, h6⟩ := hE'
    have hlost : ((b.lost.toNat : Nat) : Int) = b.lost := by omega
    have heta := bk_eta1 hk1 h5 b.lost.toNat hlost
    unfold Bk.body
    rw [if_neg hk]
    simp only [List.append_assoc]
    generalize hR : (if b.evs.length = 0 then [] else vbytes b.base.seq.toNat ++ (vbytes b.base.time.toNat ++ recs b.base b.evs)) = R
    have hq : numsR 3 (vbytes b.cpu ++ (vbytes b.lost.toNat ++ (vbytes b.evs.length ++ R))) = ([b.cpu, b.lost.toNat, b.evs.length], R) := by
      rw [numsR_cons _ (by omega), numsR_cons _ (by omega), numsR_cons _ (by omega)]
      rfl
    rw [looseEvs_of hq, Nat.mod_eq_of_lt (by omega), wrap_num (by omega)]
    have hrow : looseRow b.cpu b.evs.length R = b.evs := by
      by_cases h0 : b.evs.length = 0
      · unfold looseRow
        rw [if_neg (by omega)]
        exact (List.length_eq_zero_iff.1 h0).symm
      · rw [if_neg h0] at hR
        obtain ⟨e, r, g⟩ := fits_row hok hE h0
        obtain ⟨n1, n2, n3, n4⟩ := at_num g.right
        rw [g.base] at hR
        subst hR
        have hq2 : numsR 2 (vbytes e.at.seq.toNat ++ (vbytes e.at.time.toNat ++ recs e.at b.evs)) = ([e.at.seq.toNat, e.at.time.toNat], recs e.at b.evs) := by
          rw [numsR_cons _ (by have := n3; show e.seq.toNat < _; omega), numsR_cons _ (by have := n4; show e.time.toNat < _; omega)]
          rfl
        rw [looseRow_of hq2 (by omega) hn, wrap_num (x := e.at.seq.toNat) (show e.seq.toNat ≤ _ by omega), wrap_num (x := e.at.time.toNat) (show e.time.toNat ≤ _ by omega)]
        rw [show ((e.at.seq.toNat : Nat) : Int) = e.seq from n1, show ((e.at.time.toNat : Nat) : Int) = e.time from n2]
        have hq3 := readR_fwd g.right g.chain []
        rw [List.append_nil] at hq3
        exact congrArg (·.1) hq3
    rw [hrow, hk1]
    exact heta
theorem wrap64_i64 (x : Int) : I64 (wrap64 x) := by unfold wrap64 I64; omega
theorem readR_ok {b : Bs} {cpu : Nat} {m : Int} {l : List Nat} (hcpu : cpu < 256) (hl : ∀ x ∈ l, x < 256) : ∀ e ∈ (readR b cpu m l).1, e.Ok := by
  intro e he
  by_cases h : (readR b cpu m l).2.2 = 0
  · obtain ⟨_, _, _, _, r5⟩ := read_write hcpu hl (show readR b cpu m l = ((readR b cpu m l).1, (readR b cpu m l).2.1, 0) by rw [← h])
    exact (r5 e he).1
  · rw [(readR_bad h).1] at he
    cases he
theorem loose_ok {k : Nat} (hk : k = 1 ∨ k = 2) {l : List Nat} (hl : ∀ x ∈ l, x < 256) : (loose k l).Ok ∧ (loose k l).kind = k := by
  have h0 : I64 0 := by unfold I64; omega
  unfold loose
  split
  · rename_i h2
    refine ⟨⟨by show 2 < 256; decide, by show 0 < 256; decide, h0, ?_, by intro e he; cases he⟩, h2.symm⟩
    unfold looseEnd
    dsimp only
    split
    · exact wrap64_i64 _
    · exact h0
  · unfold looseEvs
    split
    · exact ⟨⟨by show k < 256; omega, by show 0 < 256; decide, h0, h0, by intro e he; cases he⟩, rfl⟩
    · refine ⟨⟨by show k < 256; omega, Nat.mod_lt _ (by decide), wrap64_i64 _, h0, ?_⟩, rfl⟩
      show ∀ e ∈ looseRow _ _ _, e.Ok
      intro e he
      unfold looseRow at he
      split at he
      · exact readR_ok (Nat.mod_lt _ (by decide)) (numsR_lt 2 _ (numsR_lt 3 _ hl)) e he
      · cases he
theorem le4_num4 : ∀ {l : List Nat}, (∀ x ∈ l, x < 256) → 4 ≤ l.length → le4 (num4 l) = l.take 4
  | a :: b :: c :: d :: r, hl, _ => by
    have ha := hl a (by simp)
    have hb := hl b (by simp)
    have hc := hl c (by simp)
    have hd := hl d (by simp)
    simp [le4, num4]
    omega
  | [], _, h => by simp at h
  | [_], _, h => by simp at h
  | [_, _], _, h => by simp at h
  | [_, _, _], _, h => by simp at h
theorem num4_le4 {n : Nat} (h : n < 4294967296) (r : List Nat) : num4 (le4 n ++ r) = n := by simp [num4, le4]; omega
theorem take8 : ∀ {l : List Nat} {n : Nat}, 8 ≤ n → n ≤ l.length → l.take n = l.take 4 ++ [l.getD 4 0, l.getD 5 0, l.getD 6 0, l.getD 7 0] ++ (l.take n).drop 8
  | a :: b :: c :: d :: e :: f :: g :: h :: r, n, h1, h2 => by
    obtain ⟨m, rfl⟩ : ∃ m, n = m + 8 := ⟨n - 8, by omega⟩
    simp
  | [], _, _, h => by simp at h; omega
  | [_], _, _, h => by simp at h; omega
  | [_, _], _, _, h => by simp at h; omega
  | [_, _, _], _, _, h => by simp at h; omega
  | [_, _, _, _], _, _, h => by simp at h; omega
  | [_, _, _, _, _], _, _, h => by simp at h; omega
  | [_, _, _, _, _, _], _, _, h => by simp at h; omega
  | [_, _, _, _, _, _, _], _, _, h => by simp at h; omega
theorem raw_drop (b : Bk) : b.raw.drop 8 = b.body := by unfold Bk.raw; rfl
/-- The header of a whole block tells its length. -/
theorem raw_take {l : List Nat} (hl : ∀ x ∈ l, x < 256) (hn : num4 l = l.length) (h13 : 13 ≤ l.length) {b : Bk} (h4 : l.getD 4 0 = 113) (h5 : l.getD 5 0 = 116) (h6 : l.getD 6 0 = 1) (h7 : l.getD 7 0 = b.kind) (hb : b.body = (l.take (l.length - 4)).drop 8) : b.raw = l.take (l.length - 4) := by
  rw [take8 (by omega) (by omega), ← hb, h4, h5, h6, h7, ← le4_num4 hl (by omega), hn]
  unfold Bk.raw
  have : b.body.length = l.length - 12 := by rw [hb, List.length_drop, List.length_take]; omega
  rw [show 12 + b.body.length = l.length by omega]
theorem ref_is_blk {l : List Nat} (hl : ∀ x ∈ l, x < 256) (hn : num4 l = l.length) (h13 : 13 ≤ l.length) (h4096 : l.length ≤ 4096) : refOf l = blkOf l := by
  unfold refOf blkOf
  split
  · rfl
  · split
    · rfl
    · rename_i h45
      split
      · rfl
      · rename_i h6
        split
        · rfl
        · rename_i h7
          have hk : l.getD 7 0 = 1 ∨ l.getD 7 0 = 2 := by omega
          have h45 : l.getD 4 0 = 113 ∧ l.getD 5 0 = 116 := Decidable.of_not_not h45
          have h6 : l.getD 6 0 = 1 := by omega
          have hbl : ∀ x ∈ (l.take (l.length - 4)).drop 8, x < 256 := fun x hx => hl x (List.mem_of_mem_take (List.mem_of_mem_drop hx))
          have hlen : ((l.take (l.length - 4)).drop 8).length = l.length - 12 := by rw [List.length_drop, List.length_take]; omega
          cases hp : parseR (l.getD 7 0) ((l.take (l.length - 4)).drop 8) with
          | some b =>
            obtain ⟨b1, b2, b3, b4, b5⟩ := parse_back hk hbl hp
            have hloose := loose_body b2 b3 b5
            rw [b1, b4] at hloose
            rw [hloose]
            have herr : b.err = 0 := by
              unfold Bk.err
              rw [if_neg (by simp [b3]), if_neg (by rw [b4, hlen]; omega)]
            rw [if_neg]
            intro hh
            rcases hh with hh | hh
            · exact hh herr
            · exact hh (raw_take hl hn h13 h45.1 h45.2 h6 b1.symm b4)
          | none =>
            rw [if_pos]
            obtain ⟨l1, l2⟩ := loose_ok hk hbl
            generalize hb : loose (l.getD 7 0) ((l.take (l.length - 4)).drop 8) = b at l1 l2
            by_cases he : b.err = 0
            · right
              intro hraw
              have hbody : b.body = (l.take (l.length - 4)).drop 8 := by rw [← raw_drop, hraw]
              have hfit : b.fits = true := by
                unfold Bk.err at he
                split at he
                · cases he
                · rename_i hf; simpa using hf
              have h8 : b.evs.length ≤ 4096 := by
                by_cases hk2 : b.kind = 2
                · have := fits_end hfit hk2
                  unfold Bk.fitsN at this
                  rw [decide_eq_true_eq] at this
                  omega
                · have := bk_len hk2
                  rw [hbody, hlen] at this
                  omega
              have := parse_body l1 hfit h8
              rw [l2, hbody, hp] at this
              cases this
            · exact .inl he
def refB (l : List Nat) : Bk × Nat × Nat :=
  if (lenR l).2 ≠ 0 then (Bk.zero, 0, (lenR l).2)
  else match (refOf (l.take (lenR l).1)).1 with
    | some b => (b, (lenR l).1, 0)
    | none => (Bk.zero, 0, (refOf (l.take (lenR l).1)).2)
theorem lenR_ok {l : List Nat} (h : (lenR l).2 = 0) : num4 l = (lenR l).1 ∧ 13 ≤ (lenR l).1 ∧ (lenR l).1 ≤ 4096 ∧ (lenR l).1 ≤ l.length := by
  unfold lenR at h ⊢
  split at h
  · cases h
  · split at h
    · cases h
    · split at h
      · cases h
      · rename_i h1 h2 h3
        rw [if_neg h1, if_neg h2, if_neg h3]
        omega
theorem num4_take {l : List Nat} {n : Nat} (h : 4 ≤ n) : num4 (l.take n) = num4 l := by
  have : ∀ i, i < 4 → (l.take n).getD i 0 = l.getD i 0 := fun i hi => by
    rw [List.getD_eq_getElem?_getD, List.getD_eq_getElem?_getD, List.getElem?_take, if_pos (by omega)]
  unfold num4
  rw [this 0 (by omega), this 1 (by omega), this 2 (by omega), this 3 (by omega)]
/-- The reference reads as the program does. -/
theorem refB_eq {l : List Nat} (hl : ∀ x ∈ l, x < 256) : refB l = readB l := by
  unfold refB readB
  split
  · rfl
  · rename_i h
    obtain ⟨h1, h2, h3, h4⟩ := lenR_ok (show (lenR l).2 = 0 by omega)
    rw [ref_is_blk (fun x hx => hl x (List.mem_of_mem_take hx)) (by rw [num4_take (by omega), List.length_take]; omega) (by rw [List.length_take]; omega) (by rw [List.length_take]; omega)]
    generalize blkOf (l.take (lenR l).1) = q
    rcases q with ⟨_ | b, e⟩ <;> rfl
end Go.Proofs.YtnakabnmjnfpcaaDoor
