/- Parts. -/
import Derived.Test.YtfeheccoijnbaaaDoorQbBlkR
import Derived.Test.YtfeheccoijnbaaaDoorQbRef06f
import Derived.Test.YtfeheccoijnbaaaDoorQbRWith
import Derived.Test.YtfeheccoijnbaaaDoorQbDoorE
import Derived.Test.YtfeheccoijnbaaaDoorQbZ1
set_option linter.all false
set_option maxRecDepth 100000
set_option maxHeartbeats 8000000
namespace Go.Proofs.YtfeheccoijnbaaaDoor
open Go.RowKit
theorem qot {l : List Nat} {n : Nat} (hln : l.length = n) (h : 4 ≤ n) : (((qz (l.take (n - 4)) : Nat) : Int) == ((l.getD (n - 4) 0 + l.getD (n - 4 + 1) 0 * 256 + l.getD (n - 4 + 2) 0 * 65536 + l.getD (n - 4 + 3) 0 * 16777216 : Nat) : Int)) = qay l := by
 subst hln
 have hd : ∀ i, (l.drop (l.length - 4)).getD i 0 = l.getD (l.length - 4 + i) 0 := fun i => by rw [List.getD_eq_getElem?_getD, List.getElem?_drop, ← List.getD_eq_getElem?_getD]
 unfold qay num4
 rw [hd, hd, hd, hd, Bool.eq_iff_iff, beq_iff_eq, decide_eq_true_eq]
 simp only [Nat.add_zero]
 constructor
 ·intro h1; exact ⟨h, by omega⟩
 ·intro h1; have := h1.2; omega
theorem qkv {l : List Nat} {n : Nat} (hln : l.length = n) (h : n < 4) : qay l = false := by unfold qay; rw [decide_eq_false]; omega
def numUp (l : List Nat) : Nat → Nat
 | 0 => 0
 | k + 1 => numUp l k * 256 + l.getD (3 - k) 0
theorem qkw (l : List Nat) : numUp l 4 = num4 l := by simp [numUp, num4]; omega
theorem qnj {l : List Nat} (hl : ∀ b ∈ l, b < 256) (hn : 4 ≤ l.length) : ∀ k, k ≤ 4 → numUp l k < 256 ^ k
 | 0, _ => by show 0 < 1; decide
 | k + 1, h => by
  have h1 := qnj hl hn k (by omega)
  have h2 := getD_lt hl (k := 3 - k) (by omega)
  rw [numUp, Nat.pow_succ]
  omega
theorem qmk {l : List Nat} (hl : ∀ b ∈ l, b < 256) (hn : 4 ≤ l.length) {k : Nat} (h : k ≤ 4) : numUp l k < 4294967296 := by
 have h1 := qnj hl hn k h
 have h2 : (256 : Nat) ^ k ≤ 256 ^ 4 := Nat.pow_le_pow_right (by decide) h
 omega
theorem qou (A : Option Addr) (n cp : Nat) (l : List Nat) (B : Nat) (w : World) (hL : LaidX B w) (hB : B ≤ w.heap.size) (hr : Rd w w.heap.size 1 A n (l.map B8)) (hc : n ≤ cp) (hln : l.length = n) (hn : n ≤ 140737488355328) (hl : ∀ b ∈ l, b < 256) :
    Calls Tryd.prog 68 #[.slice A n cp] w (Is w (.bool (qay l))) := by
 refine qg (vs := [.slice A n cp]) Tryd.func68 rfl rfl (by kernel_rfl) (σ0 := [(0, .slice A n cp)]) rfl ?_
 intro a HF
 have HM := Mem.start w
 refine wp_seq (qa ?_)
 refine fp HF 1 0 [(2, .bool false)] fun a HF => ?_
 refine qb rfl (wp_seq (qa ?_))
 refine fp HF 1 0 [(4, .slice A n cp)] fun a HF => ?_
 refine fy HF HM 1 rfl rfl rfl (Yl.len rfl rfl (by kernel_rfl)) fun a HF => ?_
 refine fp HF 1 2 [(6, vI (IntKind.i64.wrap ((n : Int) - 4)))] fun a HF => ?_
 replace HF := HF.sp 6 (vI ((n : Int) - 4)) rfl (qg0 ⟨by omega, by omega⟩)
 refine fp HF 1 3 [(3, vI ((n : Int) - 4))] fun a HF => ?_
 refine qb rfl (wp_seq (wp_seq (qa ?_)))
 refine fp HF 2 0 [(8, .bool (decide (((n : Int) - 4 : Int) < (0 : Int))))] fun a HF => ?_
 refine qb rfl ?_
 rcases HF.tf 8 rfl with ⟨hb8, HF⟩ | ⟨hb8, HF⟩
 ·
  have hd8 := of_decide_eq_true hb8
  refine qf HF rfl (wp_seq (qa ?_))
  refine fp HF 1 0 [(2, .bool false)] fun a HF => ?_
  refine qb rfl (wp_ret ?_)
  exact ret1 rfl HF (.tmp HF rfl) (⟨by rw [qkv hln (by omega)], HM.below⟩)
 have hd8 := of_decide_eq_false hb8
 replace HF := HF.as (t := 3) (u := .int .i64 ((n - 4 : Nat) : Int)) rfl (by congr 1; omega)
 refine qe HF rfl (wp_skip (wp_seq ?_))
 refine qaf HM [] [] [] fun HM HS => ?_
 refine ap HF (fun _ => HS) [0, 1, 4, 5, 9, 10, 17, 18, 25, 26] #[true, true, false, false, true, true, false, false, false, true, true, false, false, false, false, false, false, true, true, false, false, false, false, false, false, true, true, false, false, false, false, false, false, false, false] [(35, vI (n - 4 : Nat)), (34, .slice A n cp), (27, vI (n - 4 : Nat)), (26, .slice A n cp), (19, vI (n - 4 : Nat)), (18, .slice A n cp), (14, vI (n - 4 : Nat)), (13, .slice A n cp), (10, vI (n - 4 : Nat)), (9, .slice A n cp)] fun a HF => ?_
 refine ay HF HS 2 rfl rfl rfl (v := .slice A (n - 4) cp) (Yl.qbq ei_u8 (j := n - 4) rfl rfl rfl (by omega)) fun a HF => ?_
 obtain ⟨gA, oA, rfl, _⟩ := hr.qas (Nat.lt_of_le_of_lt (Nat.zero_le _) (show n - 4 < n from by omega)) (by decide)
 refine ay HF HS 6 rfl rfl rfl (v := vP gA (oA + (n - 4) * 1)) (Yl.ix gA oA (n - 4) 1 rfl rfl rfl) fun a HF => ?_
 have hx40 := getD_lt hl (k := (n - 4)) (by first | omega | (simp; omega))
 refine ay HF HS 7 rfl rfl rfl (v := vB (l.getD (n - 4) 0)) (Yl.qh rfl rfl (by kernel_rfl) (fun _ h => (h.old hr).qbv (k := (n - 4)) (qab (F := B8) (k := (n - 4)) (x := (l.getD (n - 4) 0)) ((getD_at 0 (k := (n - 4)) (by first | omega | (simp; omega))))))) fun a HF => ?_
 refine qp HF (fun _ => HS) (i := 8) rfl rfl (d := 17) rfl (by decide) (by kernel_rfl) (fun _ _ _ h => h) (v := vW (IntKind.u32.wrap ((l.getD (n - 4) 0) : Int))) (fun _ => Yl.pure (by kernel_rfl)) fun a HF => ?_
 replace HF := HF.sp 17 (vW (l.getD (n - 4) 0)) rfl (qdm rfl (by omega))
 refine qp HF (fun _ => HS) (i := 11) rfl rfl (d := 20) rfl (by decide) (by kernel_rfl) (fun _ _ _ h => h) (v := vI (IntKind.i64.wrap (((n - 4 : Nat) : Int) + 1))) (fun _ => Yl.pure (by kernel_rfl)) fun a HF => ?_
 replace HF := HF.sp 20 (vI ((n - 4) + 1 : Nat)) rfl (qi (by omega) (by omega))
 refine ay HF HS 12 rfl rfl rfl (v := vP gA (oA + ((n - 4) + 1) * 1)) (Yl.ix gA oA ((n - 4) + 1) 1 rfl rfl rfl) fun a HF => ?_
 have hx47 := getD_lt hl (k := ((n - 4) + 1)) (by first | omega | (simp; omega))
 refine ay HF HS 13 rfl rfl rfl (v := vB (l.getD ((n - 4) + 1) 0)) (Yl.qh rfl rfl (by kernel_rfl) (fun _ h => (h.old hr).qbv (k := ((n - 4) + 1)) (qab (F := B8) (k := ((n - 4) + 1)) (x := (l.getD ((n - 4) + 1) 0)) ((getD_at 0 (k := ((n - 4) + 1)) (by first | omega | (simp; omega))))))) fun a HF => ?_
 refine qp HF (fun _ => HS) (i := 14) rfl rfl (d := 23) rfl (by decide) (by kernel_rfl) (fun _ _ _ h => h) (v := vW (IntKind.u32.wrap ((l.getD ((n - 4) + 1) 0) : Int))) (fun _ => Yl.pure (by kernel_rfl)) fun a HF => ?_
 replace HF := HF.sp 23 (vW (l.getD ((n - 4) + 1) 0)) rfl (qdm rfl (by omega))
 refine qp HF (fun _ => HS) (i := 15) rfl rfl (d := 24) rfl (by decide) (by kernel_rfl) (fun _ _ _ h => h) (v := vW (IntKind.u32.wrap (((l.getD ((n - 4) + 1) 0) : Int) * 2 ^ (min (8 : Int).toNat (IntKind.u32).bits)))) (fun _ => Yl.pure (by kernel_rfl)) fun a HF => ?_
 replace HF := HF.sp 24 (vW ((l.getD ((n - 4) + 1) 0) * 256 : Nat)) rfl (qdm (by rw [show (2 : Int) ^ (min (8 : Int).toNat (IntKind.u32).bits) = 256 from rfl]; omega) (by omega))
 refine qp HF (fun _ => HS) (i := 16) rfl rfl (d := 25) rfl (by decide) (by kernel_rfl) (fun _ _ _ h => h) (v := vW (IntKind.u32.wrap (BitVec.ofInt (IntKind.u32).bits ((l.getD (n - 4) 0) : Int) ||| BitVec.ofInt (IntKind.u32).bits (((l.getD ((n - 4) + 1) 0) * 256 : Nat) : Int)).toNat)) (fun _ => Yl.pure (by kernel_rfl)) fun a HF => ?_
 replace HF := HF.sp 25 (vW (l.getD (n - 4) 0 + l.getD (n - 4 + 1) 0 * 256 : Nat)) rfl (qje (m := l.getD (n - 4) 0) (n := l.getD (n - 4 + 1) 0) (j := 8) (p := 256) rfl (by omega) (by omega))
 refine qp HF (fun _ => HS) (i := 19) rfl rfl (d := 28) rfl (by decide) (by kernel_rfl) (fun _ _ _ h => h) (v := vI (IntKind.i64.wrap (((n - 4 : Nat) : Int) + 2))) (fun _ => Yl.pure (by kernel_rfl)) fun a HF => ?_
 replace HF := HF.sp 28 (vI ((n - 4) + 2 : Nat)) rfl (qi (by omega) (by omega))
 refine ay HF HS 20 rfl rfl rfl (v := vP gA (oA + ((n - 4) + 2) * 1)) (Yl.ix gA oA ((n - 4) + 2) 1 rfl rfl rfl) fun a HF => ?_
 have hx58 := getD_lt hl (k := ((n - 4) + 2)) (by first | omega | (simp; omega))
 refine ay HF HS 21 rfl rfl rfl (v := vB (l.getD ((n - 4) + 2) 0)) (Yl.qh rfl rfl (by kernel_rfl) (fun _ h => (h.old hr).qbv (k := ((n - 4) + 2)) (qab (F := B8) (k := ((n - 4) + 2)) (x := (l.getD ((n - 4) + 2) 0)) ((getD_at 0 (k := ((n - 4) + 2)) (by first | omega | (simp; omega))))))) fun a HF => ?_
 refine qp HF (fun _ => HS) (i := 22) rfl rfl (d := 31) rfl (by decide) (by kernel_rfl) (fun _ _ _ h => h) (v := vW (IntKind.u32.wrap ((l.getD ((n - 4) + 2) 0) : Int))) (fun _ => Yl.pure (by kernel_rfl)) fun a HF => ?_
 replace HF := HF.sp 31 (vW (l.getD ((n - 4) + 2) 0)) rfl (qdm rfl (by omega))
 refine qp HF (fun _ => HS) (i := 23) rfl rfl (d := 32) rfl (by decide) (by kernel_rfl) (fun _ _ _ h => h) (v := vW (IntKind.u32.wrap (((l.getD ((n - 4) + 2) 0) : Int) * 2 ^ (min (16 : Int).toNat (IntKind.u32).bits)))) (fun _ => Yl.pure (by kernel_rfl)) fun a HF => ?_
 replace HF := HF.sp 32 (vW ((l.getD ((n - 4) + 2) 0) * 65536 : Nat)) rfl (qdm (by rw [show (2 : Int) ^ (min (16 : Int).toNat (IntKind.u32).bits) = 65536 from rfl]; omega) (by omega))
 refine qp HF (fun _ => HS) (i := 24) rfl rfl (d := 33) rfl (by decide) (by kernel_rfl) (fun _ _ _ h => h) (v := vW (IntKind.u32.wrap (BitVec.ofInt (IntKind.u32).bits ((l.getD (n - 4) 0 + l.getD (n - 4 + 1) 0 * 256 : Nat) : Int) ||| BitVec.ofInt (IntKind.u32).bits (((l.getD ((n - 4) + 2) 0) * 65536 : Nat) : Int)).toNat)) (fun _ => Yl.pure (by kernel_rfl)) fun a HF => ?_
 replace HF := HF.sp 33 (vW (l.getD (n - 4) 0 + l.getD (n - 4 + 1) 0 * 256 + l.getD (n - 4 + 2) 0 * 65536 : Nat)) rfl (qje (m := l.getD (n - 4) 0 + l.getD (n - 4 + 1) 0 * 256) (n := l.getD (n - 4 + 2) 0) (j := 16) (p := 65536) rfl (by omega) (by omega))
 refine qp HF (fun _ => HS) (i := 27) rfl rfl (d := 36) rfl (by decide) (by kernel_rfl) (fun _ _ _ h => h) (v := vI (IntKind.i64.wrap (((n - 4 : Nat) : Int) + 3))) (fun _ => Yl.pure (by kernel_rfl)) fun a HF => ?_
 replace HF := HF.sp 36 (vI ((n - 4) + 3 : Nat)) rfl (qi (by omega) (by omega))
 refine ay HF HS 28 rfl rfl rfl (v := vP gA (oA + ((n - 4) + 3) * 1)) (Yl.ix gA oA ((n - 4) + 3) 1 rfl rfl rfl) fun a HF => ?_
 have hx69 := getD_lt hl (k := ((n - 4) + 3)) (by first | omega | (simp; omega))
 refine ay HF HS 29 rfl rfl rfl (v := vB (l.getD ((n - 4) + 3) 0)) (Yl.qh rfl rfl (by kernel_rfl) (fun _ h => (h.old hr).qbv (k := ((n - 4) + 3)) (qab (F := B8) (k := ((n - 4) + 3)) (x := (l.getD ((n - 4) + 3) 0)) ((getD_at 0 (k := ((n - 4) + 3)) (by first | omega | (simp; omega))))))) fun a HF => ?_
 refine qp HF (fun _ => HS) (i := 30) rfl rfl (d := 39) rfl (by decide) (by kernel_rfl) (fun _ _ _ h => h) (v := vW (IntKind.u32.wrap ((l.getD ((n - 4) + 3) 0) : Int))) (fun _ => Yl.pure (by kernel_rfl)) fun a HF => ?_
 replace HF := HF.sp 39 (vW (l.getD ((n - 4) + 3) 0)) rfl (qdm rfl (by omega))
 refine qp HF (fun _ => HS) (i := 31) rfl rfl (d := 40) rfl (by decide) (by kernel_rfl) (fun _ _ _ h => h) (v := vW (IntKind.u32.wrap (((l.getD ((n - 4) + 3) 0) : Int) * 2 ^ (min (24 : Int).toNat (IntKind.u32).bits)))) (fun _ => Yl.pure (by kernel_rfl)) fun a HF => ?_
 replace HF := HF.sp 40 (vW ((l.getD ((n - 4) + 3) 0) * 16777216 : Nat)) rfl (qdm (by rw [show (2 : Int) ^ (min (24 : Int).toNat (IntKind.u32).bits) = 16777216 from rfl]; omega) (by omega))
 refine qp HF (fun _ => HS) (i := 32) rfl rfl (d := 41) rfl (by decide) (by kernel_rfl) (fun _ _ _ h => h) (v := vW (IntKind.u32.wrap (BitVec.ofInt (IntKind.u32).bits ((l.getD (n - 4) 0 + l.getD (n - 4 + 1) 0 * 256 + l.getD (n - 4 + 2) 0 * 65536 : Nat) : Int) ||| BitVec.ofInt (IntKind.u32).bits (((l.getD ((n - 4) + 3) 0) * 16777216 : Nat) : Int)).toNat)) (fun _ => Yl.pure (by kernel_rfl)) fun a HF => ?_
 replace HF := HF.sp 41 (vW (l.getD (n - 4) 0 + l.getD (n - 4 + 1) 0 * 256 + l.getD (n - 4 + 2) 0 * 65536 + l.getD (n - 4 + 3) 0 * 16777216 : Nat)) rfl (qje (m := l.getD (n - 4) 0 + l.getD (n - 4 + 1) 0 * 256 + l.getD (n - 4 + 2) 0 * 65536) (n := l.getD (n - 4 + 3) 0) (j := 24) (p := 16777216) rfl (by omega) (by omega))
 refine qj [3] (by kernel_rfl) rfl ?_
 refine all_cons ?_ all_nil
 refine qm HF (i := 3) rfl rfl ?_
 refine e_is HF HM [.slice (some ⟨gA, oA, none⟩) (n - 4) cp] (vW (qz (l.take (n - 4)))) rfl rfl (qid _ _ _ (l.take (n - 4)) B _ (hL.mem HM hB) (HM.le hB) ((HM.old hr).toB8 (by omega)) (by rw [List.length_take]; omega) (by omega) (qbc hl _)) fun w12 hbw HM a HF => ?_
 refine keepS (HM.picks [] (by decide) rfl) (fun HS => ?_)
 refine ap HF (fun _ => HS) [33, 34] #[true, true, true, true, true, true, true, true, true, true, true, true, true, true, true, true, true, true, true, true, true, true, true, true, true, true, true, true, true, true, true, true, true, true, true] [(2, .bool ((qz (l.take (n - 4)) : Int) == ((l.getD (n - 4) 0 + l.getD (n - 4 + 1) 0 * 256 + l.getD (n - 4 + 2) 0 * 65536 + l.getD (n - 4 + 3) 0 * 16777216 : Nat) : Int)))] fun a HF => ?_
 refine qn (by kernel_rfl) ?_
 replace HF := HF.to [(2, .bool ((qz (l.take (n - 4)) : Int) == ((l.getD (n - 4) 0 + l.getD (n - 4 + 1) 0 * 256 + l.getD (n - 4 + 2) 0 * 65536 + l.getD (n - 4 + 3) 0 * 16777216 : Nat) : Int))), (3, vI (n - 4 : Nat)), (8, .bool false), (0, .slice (some ⟨gA, oA, none⟩) n cp)]
 refine wp_ret ?_
 exact ret1 rfl HF (.tmp HF rfl) (⟨by rw [qot hln (by omega)], HM.below⟩)
theorem qkx {w w' : World} {l : List Nat} {n e : Nat} (h : lenR l = (n, e)) (hb : Below w.heap.size w w') : Is w (.tuple #[.int .i64 ((lenR l).1 : Int), .int .i64 ((lenR l).2 : Int)]) (.returned (.tuple #[.int .i64 (n : Int), .int .i64 (e : Int)])) w' := by rw [h]; exact ⟨rfl, hb⟩
theorem qov (A : Option Addr) (n cp : Nat) (l : List Nat) (w : World) (hr : Rd w w.heap.size 1 A n (l.map B8)) (hln : l.length = n) (hn : n ≤ 9223372036854775807) (hl : ∀ b ∈ l, b < 256) :
    Calls Tryd.prog 67 #[.slice A n cp] w (Is w (.tuple #[.int .i64 ((lenR l).1 : Int), .int .i64 ((lenR l).2 : Int)])) := by
 refine qg (vs := [.slice A n cp]) Tryd.func67 rfl rfl (by kernel_rfl) (σ0 := [(0, .slice A n cp)]) rfl ?_
 intro a HF
 have HM := Mem.start w
 refine wp_seq (qa ?_)
 refine fp HF 2 0 [(3, vI 0), (2, vI 0)] fun a HF => ?_
 refine qb rfl (wp_seq (wp_seq (qa ?_)))
 refine fp HF 1 0 [(6, .slice A n cp)] fun a HF => ?_
 refine fy HF HM 1 rfl rfl rfl (Yl.len rfl rfl (by kernel_rfl)) fun a HF => ?_
 refine fp HF 1 2 [(8, .bool (decide ((n : Int) < (4 : Int))))] fun a HF => ?_
 refine qb rfl ?_
 rcases HF.tf 8 rfl with ⟨hb8, HF⟩ | ⟨hb8, HF⟩
 ·
  have hd8 := of_decide_eq_true hb8
  refine qf HF rfl (wp_seq (qa ?_))
  refine fp HF 2 0 [(3, vI 100), (2, vI 0)] fun a HF => ?_
  refine qb rfl (wp_ret ?_)
  exact ret2 rfl HF (.tmp HF rfl) (.tmp HF rfl) (qkx (by unfold lenR; rw [if_pos (by omega)]) HM.below)
 have hd8 := of_decide_eq_false hb8
 refine qe HF rfl (wp_skip (wp_seq (qa ?_)))
 refine fp HF 1 0 [(4, vI 0)] fun a HF => ?_
 refine qb rfl (wp_seq (wp_seq (qa ?_)))
 refine fp HF 1 0 [(5, vI 3)] fun a HF => ?_
 refine qb rfl (wp_block ?_)
 refine zk (fun mS aS wS => ∃ (k : Nat), (k ≤ 4) ∧ mS = 4 - k ∧ Fr aS 34 [] [(5, vI (3 - (k : Int))), (4, vI (numUp l k)), (8, .bool false), (3, vI 0), (2, vI 0), (0, .slice A n cp)] ∧ Mem w wS []) (m := 4 - 0) ⟨0, Nat.zero_le _, rfl, HF.sub (by kernel_rfl), HM.picks [] (by decide) rfl⟩ ?_
 clear HF HM; rintro mS a w_ ⟨k, hk, rfl, HF, HM⟩
 have hu := qmk hl (by omega) hk
 refine wp_seq (wp_seq (qa ?_))
 refine fp HF 2 0 [(10, .bool (decide (3 - (k : Int) ≥ (0 : Int))))] fun a HF => ?_
 refine qb rfl ?_
 rcases HF.tf 10 rfl with ⟨hb10, HF⟩ | ⟨hb10, HF⟩
 ·
  have hd10 := of_decide_eq_true hb10
  have hk3 : k ≤ 3 := by omega
  refine qf HF rfl (wp_skip (wp_seq (wp_block (qa ?_))))
  refine fp HF 2 0 [(14, vI (IntKind.i64.wrap ((numUp l k : Int) * 2 ^ (min (8 : Int).toNat (IntKind.i64).bits))))] fun a HF => ?_
  replace HF := HF.sp 14 (vI ((numUp l k) * 256 : Nat)) rfl (qi (by rw [show (2 : Int) ^ (min (8 : Int).toNat (IntKind.i64).bits) = 256 from rfl]; omega) (by omega))
  refine fp HF 2 2 [(16, vI (3 - (k : Int))), (15, .slice A n cp)] fun a HF => ?_
  replace HF := HF.sp 16 (vI (3 - k : Nat)) rfl (by congr 1; omega)
  obtain ⟨gA, oA, rfl, _⟩ := hr.qas (Nat.lt_of_le_of_lt (Nat.zero_le _) (show 3 - k < n from by omega)) (by decide)
  refine fy HF HM 4 rfl rfl rfl (v := vP gA (oA + (3 - k) * 1)) (Yl.ix gA oA (3 - k) 1 rfl rfl rfl) fun a HF => ?_
  have hx60 := getD_lt hl (k := (3 - k)) (by first | omega | (simp; omega))
  refine fy HF HM 5 rfl rfl rfl (v := vB (l.getD (3 - k) 0)) (Yl.qh rfl rfl (by kernel_rfl) (fun _ h => (h.old hr).qbv (k := (3 - k)) (qab (F := B8) (k := (3 - k)) (x := (l.getD (3 - k) 0)) ((getD_at 0 (k := (3 - k)) (by first | omega | (simp; omega))))))) fun a HF => ?_
  refine fp HF 1 6 [(19, vI (IntKind.i64.wrap ((l.getD (3 - k) 0) : Int)))] fun a HF => ?_
  replace HF := HF.sp 19 (vI (l.getD (3 - k) 0)) rfl (qi rfl (by omega))
  refine fp HF 1 7 [(20, vI (IntKind.i64.wrap (BitVec.ofInt (IntKind.i64).bits (((numUp l k) * 256 : Nat) : Int) ||| BitVec.ofInt (IntKind.i64).bits ((l.getD (3 - k) 0) : Int)).toNat))] fun a HF => ?_
  replace HF := HF.sp 20 (vI (numUp l (k + 1))) rfl (by have h := qtu (m := numUp l k) (n := l.getD (3 - k) 0) (j := 8) (p := 256) rfl (by omega) (by omega); exact h)
  refine fp HF 1 8 [(4, vI (numUp l (k + 1)))] fun a HF => ?_
  refine qb rfl (qa ?_)
  refine fp HF 2 0 [(12, vI (IntKind.i64.wrap ((3 - (k : Int)) - 1)))] fun a HF => ?_
  replace HF := HF.sp 12 (vI (3 - ((k + 1 : Nat) : Int))) rfl (by rw [IntWalk.i64_in _ (by omega)]; congr 1; omega)
  refine fp HF 1 2 [(5, vI (3 - ((k + 1 : Nat) : Int)))] fun a HF => ?_
  refine qb rfl ?_
  exact ⟨_, (by omega), k + 1, by omega, rfl, HF.sub (by kernel_rfl), HM.picks [] (by decide) rfl⟩
 have hd10 := of_decide_eq_false hb10
 obtain rfl : k = 4 := by omega
 replace HF := HF.as (t := 4) (u := .int .i64 (num4 l : Int)) rfl (by rw [qkw])
 rw [qkw] at hu
 refine qe HF rfl (wp_exit (wp_seq (wp_block (wp_seq (qa ?_)))))
 refine fp HF 3 0 [(24, .bool (decide ((num4 l : Int) < (13 : Int))))] fun a HF => ?_
 rcases HF.tf 24 rfl with ⟨hb24, HF⟩ | ⟨hb24, HF⟩
 ·
  have hd24 := of_decide_eq_true hb24
  refine fp HF 4 3 [(21, .bool true)] fun a HF => ?_
  refine qb rfl (qf HF rfl (wp_seq (qa ?_)))
  refine fp HF 2 0 [(3, vI 101), (2, vI 0)] fun a HF => ?_
  refine qb rfl (wp_ret ?_)
  exact ret2 rfl HF (.tmp HF rfl) (.tmp HF rfl) (qkx (by unfold lenR; rw [if_neg (by omega), if_pos (by omega)]) HM.below)
 have hd24 := of_decide_eq_false hb24
 refine fp HF 4 3 [(21, .bool (decide ((num4 l : Int) > (4096 : Int))))] fun a HF => ?_
 refine qb rfl ?_
 rcases HF.tf 21 rfl with ⟨hb21, HF⟩ | ⟨hb21, HF⟩
 ·
  have hd21 := of_decide_eq_true hb21
  refine qf HF rfl (wp_seq (qa ?_))
  refine fp HF 2 0 [(3, vI 101), (2, vI 0)] fun a HF => ?_
  refine qb rfl (wp_ret ?_)
  exact ret2 rfl HF (.tmp HF rfl) (.tmp HF rfl) (qkx (by unfold lenR; rw [if_neg (by omega), if_pos (by omega)]) HM.below)
 have hd21 := of_decide_eq_false hb21
 refine qe HF rfl (wp_seq (qa ?_))
 refine fp HF 2 0 [(30, .slice A n cp), (29, vI (num4 l))] fun a HF => ?_
 refine fy HF HM 2 rfl rfl rfl (Yl.len rfl rfl (by kernel_rfl)) fun a HF => ?_
 refine fp HF 2 3 [(28, .bool (decide ((num4 l : Int) > (n : Int))))] fun a HF => ?_
 refine qb rfl ?_
 rcases HF.tf 28 rfl with ⟨hb28, HF⟩ | ⟨hb28, HF⟩
 ·
  have hd28 := of_decide_eq_true hb28
  refine qf HF rfl (wp_seq (qa ?_))
  refine fp HF 2 0 [(3, vI 100), (2, vI 0)] fun a HF => ?_
  refine qb rfl (wp_ret ?_)
  exact ret2 rfl HF (.tmp HF rfl) (.tmp HF rfl) (qkx (by unfold lenR; rw [if_neg (by omega), if_neg (by omega), if_pos (by omega)]) HM.below)
 have hd28 := of_decide_eq_false hb28
 refine qe HF rfl (wp_skip (wp_seq (qa ?_)))
 refine fp HF 3 0 [(3, vI 0), (2, vI (num4 l))] fun a HF => ?_
 refine qb rfl (wp_ret ?_)
 exact ret2 rfl HF (.tmp HF rfl) (.tmp HF rfl) (qkx (by unfold lenR; rw [if_neg (by omega), if_neg (by omega), if_neg (by omega)]) HM.below)
theorem qre (g : Nat) (b : Bk) (hok : b.Ok) (A : Option Addr) (c B : Nat) (w : World) (hL : LaidX B w) (hB : B ≤ w.heap.size) (hr : Rd w w.heap.size 11 A b.evs.length (b.evs.flatMap evL)) (hn : b.evs.length ≤ 1000000) (hb : w.heap[g]? = some (.cells (b.cells A c) 41 (0, 0))) :
    Calls Tryd.prog 61 #[.pointer (some ⟨g, 0, none⟩)] w (Is w (.bool b.qcw)) := by
 refine qg (vs := [vP g 0]) Tryd.func61 rfl rfl (by kernel_rfl) (σ0 := [(0, vP g 0)]) rfl ?_
 intro a HF
 have HM := Mem.start w
 refine wp_seq (qa ?_)
 refine fp HF 1 0 [(1, .bool false)] fun a HF => ?_
 refine qb rfl (wp_seq (wp_seq (qa ?_)))
 refine fp HF 1 0 [(5, vP g 4)] fun a HF => ?_
 refine fy HF HM 1 rfl rfl rfl (v := .slice A b.evs.length c) (Yl.qh rfl rfl (by kernel_rfl) (fun _ h => h.zd hb rfl)) fun a HF => ?_
 refine fo HF 2 rfl rfl ?_
 refine e_cl HF [.slice A b.evs.length c] rfl rfl (qvk A b.evs.length c b.evs hok.evs B _ (hL.mem HM hB).laid (HM.le hB) (HM.old hr) (by omega) (i := (rowR b.evs).1) (er := (rowR b.evs).2) rfl) ?_
 rintro _ w7 ⟨rfl, hbw⟩
 refine ⟨_, rfl, ?_⟩
 replace HM := HM.call hbw
 clear HF; intro a HF
 refine fp HF 5 3 [(3, vI ((rowR b.evs).2))] fun a HF => ?_
 refine qb rfl (wp_seq (qa ?_))
 refine fp HF 3 0 [(12, .bool (((rowR b.evs).2 : Int) != (0 : Int)))] fun a HF => ?_
 rcases HF.tf 12 rfl with ⟨hb12, HF⟩ | ⟨hb12, HF⟩
 ·
  have hd12 := bne_iff_ne.1 hb12
  refine fp HF 19 3 [(31, .bool true)] fun a HF => ?_
  refine qb rfl (qf HF rfl (wp_seq (qa ?_)))
  refine fp HF 1 0 [(1, .bool false)] fun a HF => ?_
  refine qb rfl (wp_ret ?_)
  exact ret1 rfl HF (.tmp HF rfl) (⟨by rw [show b.qcw = false from decide_eq_false (by omega)], HM.below⟩)
 have hd12 := bne_eq_false_iff_eq.1 hb12
 refine fp HF 1 3 [(13, vP g 1)] fun a HF => ?_
 refine fy HF HM 4 rfl rfl rfl (v := vB b.cpu) (Yl.qh rfl rfl (by kernel_rfl) (fun _ h => h.zd hb rfl)) fun a HF => ?_
 refine fp HF 3 5 [(17, .bool (decide ((b.cpu : Int) ≥ (64 : Int))))] fun a HF => ?_
 rcases HF.tf 17 rfl with ⟨hb17, HF⟩ | ⟨hb17, HF⟩
 ·
  have hd17 := of_decide_eq_true hb17
  refine fp HF 14 8 [(31, .bool true)] fun a HF => ?_
  refine qb rfl (qf HF rfl (wp_seq (qa ?_)))
  refine fp HF 1 0 [(1, .bool false)] fun a HF => ?_
  refine qb rfl (wp_ret ?_)
  exact ret1 rfl HF (.tmp HF rfl) (⟨by rw [show b.qcw = false from decide_eq_false (by omega)], HM.below⟩)
 have hd17 := of_decide_eq_false hb17
 refine fp HF 1 8 [(18, vP g 2)] fun a HF => ?_
 refine fy HF HM 9 rfl rfl rfl (v := vI b.lost) (Yl.qh rfl rfl (by kernel_rfl) (fun _ h => h.zd hb rfl)) fun a HF => ?_
 refine fp HF 3 10 [(22, .bool (decide ((b.lost : Int) < (0 : Int))))] fun a HF => ?_
 rcases HF.tf 22 rfl with ⟨hb22, HF⟩ | ⟨hb22, HF⟩
 ·
  have hd22 := of_decide_eq_true hb22
  refine fp HF 9 13 [(31, .bool true)] fun a HF => ?_
  refine qb rfl (qf HF rfl (wp_seq (qa ?_)))
  refine fp HF 1 0 [(1, .bool false)] fun a HF => ?_
  refine qb rfl (wp_ret ?_)
  exact ret1 rfl HF (.tmp HF rfl) (⟨by rw [show b.qcw = false from decide_eq_false (by omega)], HM.below⟩)
 have hd22 := of_decide_eq_false hb22
 refine fp HF 1 13 [(23, vP g 2)] fun a HF => ?_
 refine fy HF HM 14 rfl rfl rfl (v := vI b.lost) (Yl.qh rfl rfl (by kernel_rfl) (fun _ h => h.zd hb rfl)) fun a HF => ?_
 refine fp HF 3 15 [(27, .bool (decide ((b.lost : Int) > (281474976710656 : Int))))] fun a HF => ?_
 rcases HF.tf 27 rfl with ⟨hb27, HF⟩ | ⟨hb27, HF⟩
 ·
  have hd27 := of_decide_eq_true hb27
  refine fp HF 4 18 [(31, .bool true)] fun a HF => ?_
  refine qb rfl (qf HF rfl (wp_seq (qa ?_)))
  refine fp HF 1 0 [(1, .bool false)] fun a HF => ?_
  refine qb rfl (wp_ret ?_)
  exact ret1 rfl HF (.tmp HF rfl) (⟨by rw [show b.qcw = false from decide_eq_false (by omega)], HM.below⟩)
 have hd27 := of_decide_eq_false hb27
 refine fp HF 1 18 [(28, vP g 3)] fun a HF => ?_
 refine fy HF HM 19 rfl rfl rfl (v := vI b.next) (Yl.qh rfl rfl (by kernel_rfl) (fun _ h => h.zd hb rfl)) fun a HF => ?_
 refine fp HF 2 20 [(31, .bool ((b.next : Int) != (0 : Int)))] fun a HF => ?_
 refine qb rfl ?_
 rcases HF.tf 31 rfl with ⟨hb31, HF⟩ | ⟨hb31, HF⟩
 ·
  have hd31 := bne_iff_ne.1 hb31
  refine qf HF rfl (wp_seq (qa ?_))
  refine fp HF 1 0 [(1, .bool false)] fun a HF => ?_
  refine qb rfl (wp_ret ?_)
  exact ret1 rfl HF (.tmp HF rfl) (⟨by rw [show b.qcw = false from decide_eq_false (by omega)], HM.below⟩)
 have hd31 := bne_eq_false_iff_eq.1 hb31
 refine qe HF rfl (wp_skip (wp_seq (wp_seq (qa ?_))))
 refine fp HF 1 0 [(32, vP g 4)] fun a HF => ?_
 refine fy HF HM 1 rfl rfl rfl (v := .slice A b.evs.length c) (Yl.qh rfl rfl (by kernel_rfl) (fun _ h => h.zd hb rfl)) fun a HF => ?_
 refine fy HF HM 2 rfl rfl rfl (Yl.len rfl rfl (by kernel_rfl)) fun a HF => ?_
 refine fp HF 1 3 [(35, .bool ((b.evs.length : Int) == (0 : Int)))] fun a HF => ?_
 refine qb rfl ?_
 rcases HF.tf 35 rfl with ⟨hb35, HF⟩ | ⟨hb35, HF⟩
 ·
  have hd35 := eq_of_beq hb35
  refine qf HF rfl (wp_seq (qa ?_))
  refine fp HF 1 0 [(36, vP g 2)] fun a HF => ?_
  refine fy HF HM 1 rfl rfl rfl (v := vI b.lost) (Yl.qh rfl rfl (by kernel_rfl) (fun _ h => h.zd hb rfl)) fun a HF => ?_
  refine fp HF 2 2 [(1, .bool (decide ((b.lost : Int) > (0 : Int))))] fun a HF => ?_
  refine qb rfl (wp_ret ?_)
  exact ret1 rfl HF (.tmp HF rfl) (⟨by rw [Bool.eq_iff_iff.2 (show (decide ((b.lost : Int) > (0 : Int))) = true ↔ b.qcw = true by unfold Bk.qcw; rw [qic (by omega)]; simp only [decide_eq_true_eq, beq_iff_eq]; omega)], HM.below⟩)
 have hd35 := ne_of_beq_false hb35
 refine qe HF rfl (wp_skip (wp_seq ?_))
 refine qaf HM [] [] [] fun HM HS => ?_
 refine ap HF (fun _ => HS) [0, 5] #[true, false, false, false, false, true, false, false, false] [(44, vP g 1), (39, vP g 4)] fun a HF => ?_
 refine ay HF HS 1 rfl rfl rfl (v := .slice A b.evs.length c) (Yl.qh rfl rfl (by kernel_rfl) (fun _ h => h.zd hb rfl)) fun a HF => ?_
 obtain ⟨gA, oA, rfl, _⟩ := hr.qas (Nat.lt_of_le_of_lt (Nat.zero_le _) (show 0 < b.evs.length from by omega)) (by decide)
 refine ay HF HS 2 rfl rfl rfl (v := vP gA oA) (Yl.indexAddr (ad := ⟨gA, oA, none⟩) (y := 0) (sz := 11) rfl rfl rfl (by omega) (by kernel_rfl)) fun a HF => ?_
 refine ap HF (fun _ => HS) [3] #[true, true, true, true, false, true, false, false, false] [(42, vP gA (oA + 2))] fun a HF => ?_
 refine ay HF HS 4 rfl rfl rfl (v := vB ((b.evs.getD 0 Ev.zero).cpu)) (Yl.qh rfl rfl (by kernel_rfl) (fun _ h => (h.old hr).partAt zr (k := 0) (j := 2) (x := (b.evs.getD 0 Ev.zero)) ((getD_at Ev.zero (k := 0) (by first | omega | (simp; omega)))) rfl)) fun a HF => ?_
 refine ay HF HS 6 rfl rfl rfl (v := vB b.cpu) (Yl.qh rfl rfl (by kernel_rfl) (fun _ h => h.zd hb rfl)) fun a HF => ?_
 refine ap HF (fun _ => HS) [7, 8] #[true, true, true, true, true, true, true, true, true] [(1, .bool (((b.evs.getD 0 Ev.zero).cpu : Int) == (b.cpu : Int)))] fun a HF => ?_
 refine qn (by kernel_rfl) ?_
 refine wp_ret ?_
 exact ret1 rfl HF (.tmp HF rfl) (⟨by rw [Bool.eq_iff_iff.2 (show (((b.evs.getD 0 Ev.zero).cpu : Int) == (b.cpu : Int)) = true ↔ b.qcw = true by unfold Bk.qcw; rw [qg5 (by omega)]; simp only [decide_eq_true_eq, beq_iff_eq]; omega)], HM.below⟩)
theorem qrf (g : Nat) (b : Bk) (A : Option Addr) (c : Nat) (w : World) (hb : w.heap[g]? = some (.cells (b.cells A c) 41 (0, 0))) :
    Calls Tryd.prog 62 #[.pointer (some ⟨g, 0, none⟩)] w (Is w (.bool b.qf2)) := by
 refine qg (vs := [vP g 0]) Tryd.func62 rfl rfl (by kernel_rfl) (σ0 := [(0, vP g 0)]) rfl ?_
 intro a HF
 have HM := Mem.start w
 refine wp_seq (qa ?_)
 refine fp HF 1 0 [(1, .bool false)] fun a HF => ?_
 refine qb rfl (wp_seq (qa ?_))
 refine fp HF 1 0 [(2, vP g 3)] fun a HF => ?_
 refine fy HF HM 1 rfl rfl rfl (v := vI b.next) (Yl.qh rfl rfl (by kernel_rfl) (fun _ h => h.zd hb rfl)) fun a HF => ?_
 refine fp HF 2 2 [(5, .bool (decide ((b.next : Int) ≥ (1 : Int))))] fun a HF => ?_
 rcases HF.tf 5 rfl with ⟨hb5, HF⟩ | ⟨hb5, HF⟩
 ·
  have hd5 := of_decide_eq_true hb5
  refine fp HF 1 4 [(6, vP g 3)] fun a HF => ?_
  refine fy HF HM 5 rfl rfl rfl (v := vI b.next) (Yl.qh rfl rfl (by kernel_rfl) (fun _ h => h.zd hb rfl)) fun a HF => ?_
  refine fp HF 3 6 [(10, .bool (decide ((b.next : Int) ≤ (281474976710657 : Int))))] fun a HF => ?_
  rcases HF.tf 10 rfl with ⟨hb10, HF⟩ | ⟨hb10, HF⟩
  ·
   have hd10 := of_decide_eq_true hb10
   refine fp HF 1 9 [(11, vP g 1)] fun a HF => ?_
   refine fy HF HM 10 rfl rfl rfl (v := vB b.cpu) (Yl.qh rfl rfl (by kernel_rfl) (fun _ h => h.zd hb rfl)) fun a HF => ?_
   refine fp HF 3 11 [(15, .bool ((b.cpu : Int) == (0 : Int)))] fun a HF => ?_
   rcases HF.tf 15 rfl with ⟨hb15, HF⟩ | ⟨hb15, HF⟩
   ·
    have hd15 := eq_of_beq hb15
    refine fp HF 1 14 [(16, vP g 2)] fun a HF => ?_
    refine fy HF HM 15 rfl rfl rfl (v := vI b.lost) (Yl.qh rfl rfl (by kernel_rfl) (fun _ h => h.zd hb rfl)) fun a HF => ?_
    refine fp HF 3 16 [(20, .bool ((b.lost : Int) == (0 : Int)))] fun a HF => ?_
    rcases HF.tf 20 rfl with ⟨hb20, HF⟩ | ⟨hb20, HF⟩
    ·
     have hd20 := eq_of_beq hb20
     refine fp HF 1 19 [(21, vP g 4)] fun a HF => ?_
     refine fy HF HM 20 rfl rfl rfl (v := .slice A b.evs.length c) (Yl.qh rfl rfl (by kernel_rfl) (fun _ h => h.zd hb rfl)) fun a HF => ?_
     refine fy HF HM 21 rfl rfl rfl (Yl.len rfl rfl (by kernel_rfl)) fun a HF => ?_
     refine fp HF 3 22 [(1, .bool ((b.evs.length : Int) == (0 : Int)))] fun a HF => ?_
     refine qb rfl (wp_ret ?_)
     exact ret1 rfl HF (.tmp HF rfl) (⟨by rw [Bool.eq_iff_iff.2 (show ((b.evs.length : Int) == (0 : Int)) = true ↔ b.qf2 = true by unfold Bk.qf2; simp only [decide_eq_true_eq, beq_iff_eq]; omega)], HM.below⟩)
    have hd20 := ne_of_beq_false hb20
    refine fp HF 6 19 [(1, .bool false)] fun a HF => ?_
    refine qb rfl (wp_ret ?_)
    exact ret1 rfl HF (.tmp HF rfl) (⟨by rw [show b.qf2 = false from decide_eq_false (by omega)], HM.below⟩)
   have hd15 := ne_of_beq_false hb15
   refine fp HF 11 14 [(1, .bool false)] fun a HF => ?_
   refine qb rfl (wp_ret ?_)
   exact ret1 rfl HF (.tmp HF rfl) (⟨by rw [show b.qf2 = false from decide_eq_false (by omega)], HM.below⟩)
  have hd10 := of_decide_eq_false hb10
  refine fp HF 16 9 [(1, .bool false)] fun a HF => ?_
  refine qb rfl (wp_ret ?_)
  exact ret1 rfl HF (.tmp HF rfl) (⟨by rw [show b.qf2 = false from decide_eq_false (by omega)], HM.below⟩)
 have hd5 := of_decide_eq_false hb5
 refine fp HF 21 4 [(1, .bool false)] fun a HF => ?_
 refine qb rfl (wp_ret ?_)
 exact ret1 rfl HF (.tmp HF rfl) (⟨by rw [show b.qf2 = false from decide_eq_false (by omega)], HM.below⟩)
theorem qd2 (b : Bk) (hok : b.Ok) (A : Option Addr) (c B : Nat) (w : World) (hL : LaidX B w) (hB : B ≤ w.heap.size) (hr : Rd w w.heap.size 11 A b.evs.length (b.evs.flatMap evL)) (hn : b.evs.length ≤ 1000000) :
    Calls Tryd.prog 44 #[.agg (b.cells A c)] w (Is w (.bool b.fits)) := by
 refine qg (vs := [.agg (b.cells A c)]) Tryd.func44 rfl rfl (by kernel_rfl) (σ0 := [(0, .agg (b.cells A c))]) rfl ?_
 intro a HF
 have HM := Mem.start w
 refine wp_seq (qa ?_)
 refine fo HF 0 rfl rfl ?_
 refine e_box HF HM (cs := (b.cells A c)) rfl rfl rfl rfl (by decide) ?_
 clear HF HM; intro a w1 g1 HF HM
 refine fp HF 1 1 [(2, .bool false)] fun a HF => ?_
 refine qb rfl (wp_seq (qa ?_))
 refine fo HF 0 rfl rfl ?_
 refine qqs HF HM rfl rfl (by decide) ?_
 clear HF HM; intro a w5 g5 HF HM
 refine fy HF HM 1 rfl rfl rfl (v := .func (.func 61) #[] #[vP g1 0]) (Yl.makeFunc (fst := []) (caps := [vP g1 0]) rfl rfl rfl) fun a HF => ?_
 refine fo HF 2 rfl rfl ?_
 refine qnc HF HM (i := 0) (kt := 5) (et := 24) (kd := .int .u8) (Or.inr rfl) rfl (by kernel_rfl) (by kernel_rfl) rfl rfl rfl rfl (by first | trivial | rfl) (rfl) ?_
 clear HM; intro w1_2 HM
 refine fy HF HM 3 rfl rfl rfl (v := .func (.func 62) #[] #[vP g1 0]) (Yl.makeFunc (fst := []) (caps := [vP g1 0]) rfl rfl rfl) fun a HF => ?_
 refine fo HF 4 rfl rfl ?_
 refine qnc HF HM (i := 0) (kt := 5) (et := 24) (kd := .int .u8) (Or.inr rfl) rfl (by kernel_rfl) (by kernel_rfl) rfl rfl rfl rfl (by first | trivial | rfl) (rfl) ?_
 clear HM; intro w1_4 HM
 refine fp HF 2 5 [(3, .map (some g5))] fun a HF => ?_
 refine qb rfl ?_
 rcases qya b.kind with hk | hk | ⟨hk, hk2⟩
 ·
  refine wp_seq (qa ?_)
  refine fp HF 2 0 [(10, vP g1 0), (9, .map (some g5))] fun a HF => ?_
  refine fy HF HM 2 rfl rfl rfl (v := vB b.kind) (Yl.qh rfl rfl (by kernel_rfl) (fun _ h => h.cell (i := 1) rfl (rfl))) fun a HF => ?_
  refine fy HF HM 3 rfl rfl rfl (v := .func (.func 61) #[] #[vP g1 0]) (Yl.qly (kt := 5) (et := 24) (kd := .int .u8) (j := 0) (es := (#[].push { key := vB 1, val := .func (.func 61) #[] #[vP g1 0], born := 0 }).push { key := vB 2, val := .func (.func 62) #[] #[vP g1 0], born := 0 + 1 }) (clock := 0 + 1 + 1) rfl (by kernel_rfl) (by kernel_rfl) rfl rfl (fun _ h => h.objAt (i := 0) rfl) (by first | trivial | rfl) (by rw [hk]; rfl)) fun a HF => ?_
  refine fp HF 1 4 [(4, .func (.func 61) #[] #[vP g1 0])] fun a HF => ?_
  refine qb rfl (wp_seq (qa ?_))
  refine fp HF 1 0 [(13, .func (.func 61) #[] #[vP g1 0])] fun a HF => ?_
  refine fy HF HM 1 rfl rfl rfl (v := .bool true) (Yl.qta rfl rfl rfl (by kernel_rfl)) fun a HF => ?_
  refine fp HF 2 2 [(16, .func (.func 61) #[] #[vP g1 0]), (15, .bool true)] fun a HF => ?_
  refine fo HF 4 rfl rfl ?_
  refine qcf HF (f := 61) (vs := []) (fst := []) (caps := [vP g1 0]) rfl rfl rfl (by kernel_rfl) rfl (by decide) (qre _ b hok A c B _ (hL.mem HM hB) (HM.le hB) (HM.old hr) hn (HM.blk (i := 1) rfl)) ?_
  rintro _ w17 ⟨rfl, hbw⟩
  refine ⟨_, rfl, ?_⟩
  replace HM := HM.call hbw
  clear HF; intro a HF
  refine fp HF 2 5 [(2, .bool b.qcw)] fun a HF => ?_
  refine qb rfl (wp_ret ?_)
  replace HM := HM.picks (fs' := [.blk g1 (b.cells A c) 41]) [1] (by decide) rfl
  exact ret1 rfl HF (.tmp HF rfl) (⟨by unfold Bk.fits; rw [if_pos hk], HM.below⟩)
 ·
  refine wp_seq (qa ?_)
  refine fp HF 2 0 [(10, vP g1 0), (9, .map (some g5))] fun a HF => ?_
  refine fy HF HM 2 rfl rfl rfl (v := vB b.kind) (Yl.qh rfl rfl (by kernel_rfl) (fun _ h => h.cell (i := 1) rfl (rfl))) fun a HF => ?_
  refine fy HF HM 3 rfl rfl rfl (v := .func (.func 62) #[] #[vP g1 0]) (Yl.qly (kt := 5) (et := 24) (kd := .int .u8) (j := 1) (es := (#[].push { key := vB 1, val := .func (.func 61) #[] #[vP g1 0], born := 0 }).push { key := vB 2, val := .func (.func 62) #[] #[vP g1 0], born := 0 + 1 }) (clock := 0 + 1 + 1) rfl (by kernel_rfl) (by kernel_rfl) rfl rfl (fun _ h => h.objAt (i := 0) rfl) (by first | trivial | rfl) (by rw [hk]; rfl)) fun a HF => ?_
  refine fp HF 1 4 [(4, .func (.func 62) #[] #[vP g1 0])] fun a HF => ?_
  refine qb rfl (wp_seq (qa ?_))
  refine fp HF 1 0 [(13, .func (.func 62) #[] #[vP g1 0])] fun a HF => ?_
  refine fy HF HM 1 rfl rfl rfl (v := .bool true) (Yl.qta rfl rfl rfl (by kernel_rfl)) fun a HF => ?_
  refine fp HF 2 2 [(16, .func (.func 62) #[] #[vP g1 0]), (15, .bool true)] fun a HF => ?_
  refine fo HF 4 rfl rfl ?_
  refine qcf HF (f := 62) (vs := []) (fst := []) (caps := [vP g1 0]) rfl rfl rfl (by kernel_rfl) rfl (by decide) (qrf _ b A c _ (HM.blk (i := 1) rfl)) ?_
  rintro _ w17 ⟨rfl, hbw⟩
  refine ⟨_, rfl, ?_⟩
  replace HM := HM.call hbw
  clear HF; intro a HF
  refine fp HF 2 5 [(2, .bool b.qf2)] fun a HF => ?_
  refine qb rfl (wp_ret ?_)
  replace HM := HM.picks (fs' := [.blk g1 (b.cells A c) 41]) [1] (by decide) rfl
  exact ret1 rfl HF (.tmp HF rfl) (⟨by unfold Bk.fits; rw [if_neg (by omega), if_pos hk], HM.below⟩)
 ·
  refine wp_seq (qa ?_)
  refine fp HF 2 0 [(10, vP g1 0), (9, .map (some g5))] fun a HF => ?_
  refine fy HF HM 2 rfl rfl rfl (v := vB b.kind) (Yl.qh rfl rfl (by kernel_rfl) (fun _ h => h.cell (i := 1) rfl (rfl))) fun a HF => ?_
  refine fy HF HM 3 rfl rfl rfl (v := .nilFunc) (Yl.qpp (kt := 5) (et := 24) (kd := .int .u8) (es := (#[].push { key := vB 1, val := .func (.func 61) #[] #[vP g1 0], born := 0 }).push { key := vB 2, val := .func (.func 62) #[] #[vP g1 0], born := 0 + 1 }) (clock := 0 + 1 + 1) rfl (by kernel_rfl) (by kernel_rfl) rfl rfl (fun _ h => h.objAt (i := 0) rfl) (by first | trivial | rfl) (by have e1 : ((b.kind : Int) == 1) = false := (by rw [beq_eq_false_iff_ne]; omega); have e2 : ((b.kind : Int) == 2) = false := (by rw [beq_eq_false_iff_ne]; omega); simp [Instr.findNow, Instr.sameNow, e1, e2]) (by kernel_rfl)) fun a HF => ?_
  refine fp HF 1 4 [(4, .nilFunc)] fun a HF => ?_
  refine qb rfl (wp_seq (qa ?_))
  refine fp HF 1 0 [(13, .nilFunc)] fun a HF => ?_
  refine fy HF HM 1 rfl rfl rfl (v := .bool false) (Yl.qyp rfl rfl rfl (by kernel_rfl)) fun a HF => ?_
  refine fp HF 5 2 [(2, .bool false)] fun a HF => ?_
  refine qb rfl (wp_ret ?_)
  replace HM := HM.picks (fs' := [.blk g1 (b.cells A c) 41]) [1] (by decide) rfl
  exact ret1 rfl HF (.tmp HF rfl) (⟨by unfold Bk.fits; rw [if_neg hk, if_neg hk2], HM.below⟩)
theorem qnk (b : Bk) (A : Option Addr) (c : Nat) (w : World) (hr : Rd w w.heap.size 11 A b.evs.length (b.evs.flatMap evL)) (h0 : b.evs.length ≠ 0) :
    Calls Tryd.prog 56 #[.agg (b.cells A c)] w (Is w (.agg b.base.cells)) := by
 refine qg (vs := [.agg (b.cells A c)]) Tryd.func56 rfl rfl (by kernel_rfl) (σ0 := [(0, .agg (b.cells A c))]) rfl ?_
 intro a HF
 have HM := Mem.start w
 refine wp_seq (qa ?_)
 refine fo HF 0 rfl rfl ?_
 refine e_box HF HM (cs := (b.cells A c)) rfl rfl rfl rfl (by decide) ?_
 clear HF HM; intro a w1 g1 HF HM
 refine fo HF 1 rfl rfl ?_
 refine qr HF HM (cs := #[vI 0, vI 0]) rfl (by kernel_rfl) rfl (by decide) ?_
 clear HF HM; intro a w2 g2 HF HM
 refine qb rfl (wp_seq ?_)
 refine qaf HM [.blk g2 #[vI 0, vI 0] 26, .blk g1 (b.cells A c) 41] [0, 1] [11] fun HM HS => ?_
 refine ap HF (fun _ => HS) [0, 5] #[true, false, false, false, false, true, false, false, false, false, false, false] [(8, vP g1 4), (3, vP g1 4)] fun a HF => ?_
 refine ay HF HS 1 rfl rfl rfl (v := .slice A b.evs.length c) (Yl.qh rfl rfl (by kernel_rfl) (fun _ h => h.cell (i := 1) rfl (rfl))) fun a HF => ?_
 obtain ⟨gA, oA, rfl, _⟩ := hr.qas (Nat.lt_of_le_of_lt (Nat.zero_le _) (show 0 < b.evs.length from by omega)) (by decide)
 refine ay HF HS 2 rfl rfl rfl (v := vP gA oA) (Yl.indexAddr (ad := ⟨gA, oA, none⟩) (y := 0) (sz := 11) rfl rfl rfl (by omega) (by kernel_rfl)) fun a HF => ?_
 refine ap HF (fun _ => HS) [3] #[true, true, true, true, false, true, false, false, false, false, false, false] [(6, vP gA oA)] fun a HF => ?_
 refine ay HF HS 4 rfl rfl rfl (v := vI ((b.evs.getD 0 Ev.zero).seq)) (Yl.qh rfl rfl (by kernel_rfl) (fun _ h => (by have := (h.old hr).partAt zr (k := 0) (j := 0) (x := (b.evs.getD 0 Ev.zero)) ((getD_at Ev.zero (k := 0) (by first | omega | (simp; omega)))) rfl; simpa using this))) fun a HF => ?_
 refine ay HF HS 6 rfl rfl rfl (v := .slice (some ⟨gA, oA, none⟩) b.evs.length c) (Yl.qh rfl rfl (by kernel_rfl) (fun _ h => h.cell (i := 1) rfl (rfl))) fun a HF => ?_
 refine ay HF HS 7 rfl rfl rfl (v := vP gA oA) (Yl.indexAddr (ad := ⟨gA, oA, none⟩) (y := 0) (sz := 11) rfl rfl rfl (by omega) (by kernel_rfl)) fun a HF => ?_
 refine ap HF (fun _ => HS) [8] #[true, true, true, true, true, true, true, true, true, false, false, false] [(11, vP gA (oA + 1))] fun a HF => ?_
 refine ay HF HS 9 rfl rfl rfl (v := vI ((b.evs.getD 0 Ev.zero).time)) (Yl.qh rfl rfl (by kernel_rfl) (fun _ h => (h.old hr).partAt zr (k := 0) (j := 1) (x := (b.evs.getD 0 Ev.zero)) ((getD_at Ev.zero (k := 0) (by first | omega | (simp; omega)))) rfl)) fun a HF => ?_
 refine ay HF HS 10 rfl rfl rfl (v := .agg #[vI ((b.evs.getD 0 Ev.zero).seq), vI ((b.evs.getD 0 Ev.zero).time)]) (Yl.build (vs := [(0, vI ((b.evs.getD 0 Ev.zero).seq)), (1, vI ((b.evs.getD 0 Ev.zero).time))]) rfl (by kernel_rfl) (by kernel_rfl)) fun a HF => ?_
 refine qj [11] (by kernel_rfl) rfl ?_
 refine all_cons ?_ all_nil
 refine qm HF (i := 11) rfl rfl ?_
 refine e_sa HF HM 0 rfl rfl rfl rfl rfl ⟨(by kernel_rfl), (by kernel_rfl)⟩ rfl rfl (by simp [Value.oneCell']) ?_
 clear HM; intro w1_11 HM
 refine noS (by kernel_rfl) ?_
 refine qn (by kernel_rfl) ?_
 replace HM := HM.picks (fs' := [.blk g2 #[vI ((b.evs.getD 0 Ev.zero).seq), vI ((b.evs.getD 0 Ev.zero).time)] 26]) [0] (by decide) rfl
 refine wp_ret ?_
 exact ret1 rfl HF (.cellS (i := 0) HF HM rfl rfl ⟨(by kernel_rfl), (by kernel_rfl)⟩ rfl) (⟨by rw [qq9]; rfl, HM.below⟩)
theorem qfu (x : Nat) (hx : x < 18446744073709551616) (w : World) :
    Calls Tryd.prog 63 #[.int .u64 (x : Int)] w (qai w (vbytes x)) := by
 refine qg (vs := [vQ x]) Tryd.func63 rfl rfl (by kernel_rfl) (σ0 := [(0, vQ x)]) rfl ?_
 intro a HF
 have HM := Mem.start w
 refine wp_seq (qa ?_)
 refine fp HF 1 0 [(2, .slice none 0 0)] fun a HF => ?_
 refine qb rfl (wp_seq (qa ?_))
 refine fp HF 1 0 [(3, vQ x)] fun a HF => ?_
 refine fo HF 1 rfl rfl ?_
 refine e_cl HF [.slice none 0 0, vQ x] rfl rfl (qop hx) ?_
 rintro _ w4 ⟨⟨A4, c4, rfl, ho, hc4⟩, hbw⟩
 refine ⟨_, rfl, ?_⟩
 replace HM := HM.callRow hbw ho
 clear HF; intro a HF
 refine fp HF 1 2 [(2, .slice A4 ((vbytes x).length) c4)] fun a HF => ?_
 refine qb rfl (wp_ret ?_)
 exact ret1 rfl HF (.tmp HF rfl) (⟨⟨_, _, rfl, HM.own (i := 0) rfl, hc4⟩, HM.below⟩)
theorem all4 {w : World} {a b c d : Part} (ha : Rd w w.heap.size 1 a.A a.l.length (a.l.map B8)) (hb : Rd w w.heap.size 1 b.A b.l.length (b.l.map B8)) (hc : Rd w w.heap.size 1 c.A c.l.length (c.l.map B8)) (hd : Rd w w.heap.size 1 d.A d.l.length (d.l.map B8)) : ∀ p ∈ [a, b, c, d], Rd w w.heap.size 1 p.A p.l.length (p.l.map B8) := by
 intro p hp
 simp only [List.mem_cons, List.not_mem_nil, or_false] at hp
 rcases hp with rfl | rfl | rfl | rfl
 ·exact ha
 ·exact hb
 ·exact hc
 ·exact hd
theorem qt8 (b : Bk) (hok : b.Ok) (A : Option Addr) (c B : Nat) (w : World) (hL : LaidX B w) (hB : B ≤ w.heap.size) (hr : Rd w w.heap.size 11 A b.evs.length (b.evs.flatMap evL)) (hn : b.evs.length ≤ 1000000) (hf : b.fits = true) :
    Calls Tryd.prog 45 #[.agg (b.cells A c)] w (qai w b.body) := by
 have hcpu := hok.cpu
 refine qg (vs := [.agg (b.cells A c)]) Tryd.func45 rfl rfl (by kernel_rfl) (σ0 := [(0, .agg (b.cells A c))]) rfl ?_
 intro a HF
 have HM := Mem.start w
 refine wp_seq (qa ?_)
 refine fo HF 0 rfl rfl ?_
 refine e_box HF HM (cs := (b.cells A c)) rfl rfl rfl rfl (by decide) ?_
 clear HF HM; intro a w1 g1 HF HM
 refine fp HF 1 1 [(2, .slice none 0 0)] fun a HF => ?_
 refine qb rfl (wp_seq (wp_seq (qa ?_)))
 refine fp HF 1 0 [(7, vP g1 0)] fun a HF => ?_
 refine fy HF HM 1 rfl rfl rfl (v := vB b.kind) (Yl.qh rfl rfl (by kernel_rfl) (fun _ h => h.cell (i := 0) rfl (rfl))) fun a HF => ?_
 refine fp HF 1 2 [(9, .bool ((b.kind : Int) == (2 : Int)))] fun a HF => ?_
 refine qb rfl ?_
 rcases HF.tf 9 rfl with ⟨hb9, HF⟩ | ⟨hb9, HF⟩
 ·
  have hd9 := eq_of_beq hb9
  have hk : b.kind = 2 := by omega
  obtain ⟨n1, n2, n3, n4, n5⟩ := qg6 hf hk
  refine qf HF rfl (wp_seq (qa ?_))
  refine fp HF 1 0 [(10, vP g1 3)] fun a HF => ?_
  refine fy HF HM 1 rfl rfl rfl (v := vI b.next) (Yl.qh rfl rfl (by kernel_rfl) (fun _ h => h.cell (i := 0) rfl (rfl))) fun a HF => ?_
  refine fp HF 1 2 [(12, vQ (IntKind.u64.wrap b.next))] fun a HF => ?_
  replace HF := HF.sp 12 (vQ b.next.toNat) rfl (qaw (by omega) (by omega))
  refine fo HF 3 rfl rfl ?_
  refine e_cl HF [vQ b.next.toNat] rfl rfl (qfu b.next.toNat (by omega) _) ?_
  rintro _ w13 ⟨⟨A13, c13, rfl, ho, hc13⟩, hbw⟩
  refine ⟨_, rfl, ?_⟩
  replace HM := HM.callRow hbw ho
  clear HF; intro a HF
  refine fp HF 1 4 [(2, .slice A13 ((vbytes b.next.toNat).length) c13)] fun a HF => ?_
  refine qb rfl (wp_ret ?_)
  exact ret1 rfl HF (.tmp HF rfl) (qai.as ⟨⟨_, _, rfl, HM.own (i := 0) rfl, hc13⟩, HM.below⟩ (by unfold Bk.body; rw [if_pos hk]))
 have hd9 := ne_of_beq_false hb9
 have hk : b.kind ≠ 2 := by omega
 obtain ⟨m0, m1, m2, m3, m4⟩ := qkr hf hk
 refine qe HF rfl (wp_skip (wp_seq (qa ?_)))
 refine fp HF 1 0 [(14, vP g1 1)] fun a HF => ?_
 refine fy HF HM 1 rfl rfl rfl (v := vB b.cpu) (Yl.qh rfl rfl (by kernel_rfl) (fun _ h => h.cell (i := 0) rfl (rfl))) fun a HF => ?_
 refine fp HF 1 2 [(16, vQ (IntKind.u64.wrap (b.cpu : Int)))] fun a HF => ?_
 replace HF := HF.sp 16 (vQ b.cpu) rfl (qaw rfl (by omega))
 refine fp HF 1 3 [(17, vP g1 2)] fun a HF => ?_
 refine fy HF HM 4 rfl rfl rfl (v := vI b.lost) (Yl.qh rfl rfl (by kernel_rfl) (fun _ h => h.cell (i := 0) rfl (rfl))) fun a HF => ?_
 refine fp HF 1 5 [(19, vQ (IntKind.u64.wrap b.lost))] fun a HF => ?_
 replace HF := HF.sp 19 (vQ b.lost.toNat) rfl (qaw (by omega) (by omega))
 refine fp HF 1 6 [(20, vP g1 4)] fun a HF => ?_
 refine fy HF HM 7 rfl rfl rfl (v := .slice A b.evs.length c) (Yl.qh rfl rfl (by kernel_rfl) (fun _ h => h.cell (i := 0) rfl (rfl))) fun a HF => ?_
 refine fy HF HM 8 rfl rfl rfl (Yl.len rfl rfl (by kernel_rfl)) fun a HF => ?_
 refine fp HF 1 9 [(23, vQ (IntKind.u64.wrap (b.evs.length : Int)))] fun a HF => ?_
 replace HF := HF.sp 23 (vQ b.evs.length) rfl (qaw rfl (by omega))
 refine fo HF 10 rfl rfl ?_
 refine qar HF HM (vs := [(0, vQ b.cpu), (1, vQ b.lost.toNat), (2, vQ b.evs.length)]) (cs := #[vQ b.cpu, vQ b.lost.toNat, vQ b.evs.length]) rfl qjz (by decide) rfl (by kernel_rfl) rfl (by decide) ?_
 clear HF HM; intro a w24 g24 HF HM
 refine fo HF 11 rfl rfl ?_
 refine e_cl HF [vS g24 3 3] rfl rfl (qq8 _ 3 _ [b.cpu, b.lost.toNat, b.evs.length] _ (HM.rdBlk (i := 0) (n := 3) (size := 1) rfl rfl) (by intro x hx; simp only [List.mem_cons, List.not_mem_nil, or_false] at hx; omega) (by omega)) ?_
 rintro _ w25 ⟨⟨A25, c25, rfl, ho, hc25⟩, hbw⟩
 refine ⟨_, rfl, ?_⟩
 replace HM := HM.callRow hbw ho
 clear HF; intro a HF
 refine fp HF 1 12 [(3, .slice A25 (([b.cpu, b.lost.toNat, b.evs.length].flatMap vbytes).length) c25)] fun a HF => ?_
 refine qb rfl (wp_seq (wp_seq (qa ?_)))
 refine fp HF 1 0 [(26, vP g1 4)] fun a HF => ?_
 refine fy HF HM 1 rfl rfl rfl (v := .slice A b.evs.length c) (Yl.qh rfl rfl (by kernel_rfl) (fun _ h => h.cell (i := 2) rfl (rfl))) fun a HF => ?_
 refine fy HF HM 2 rfl rfl rfl (Yl.len rfl rfl (by kernel_rfl)) fun a HF => ?_
 refine fp HF 1 3 [(29, .bool ((b.evs.length : Int) == (0 : Int)))] fun a HF => ?_
 refine qb rfl ?_
 rcases HF.tf 29 rfl with ⟨hb29, HF⟩ | ⟨hb29, HF⟩
 ·
  have hd29 := eq_of_beq hb29
  refine qf HF rfl (wp_seq (qa ?_))
  refine fp HF 2 0 [(2, .slice A25 (([b.cpu, b.lost.toNat, b.evs.length].flatMap vbytes).length) c25)] fun a HF => ?_
  refine qb rfl (wp_ret ?_)
  replace HM := HM.picks (fs' := [.row (.slice A25 (([b.cpu, b.lost.toNat, b.evs.length].flatMap vbytes).length) c25) (([b.cpu, b.lost.toNat, b.evs.length].flatMap vbytes).length) (([b.cpu, b.lost.toNat, b.evs.length].flatMap vbytes).map B8) 5 1, .blk g1 (b.cells A c) 41]) [0, 2] (by decide) rfl
  exact ret1 rfl HF (.tmp HF rfl) (qai.as ⟨⟨_, _, rfl, HM.own (i := 0) rfl, hc25⟩, HM.below⟩ (by unfold Bk.body; rw [if_neg hk, if_pos (by omega)]; simp))
 have hd29 := ne_of_beq_false hb29
 have hw := qom hok (qe6 hf hk).2 (by omega)
 obtain ⟨q1, q2, q3, q4⟩ := qni hok hf hk (by omega)
 refine qe HF rfl (wp_skip (wp_seq (qa ?_)))
 refine fy HF HM 0 rfl rfl rfl (v := .agg (b.cells A c)) (Yl.zg rfl rfl si_bk rfl (fun _ h => qd (h.blk (i := 2) rfl))) fun a HF => ?_
 refine fo HF 1 rfl rfl ?_
 refine e_is HF HM [.agg (b.cells A c)] (.agg b.base.cells) rfl rfl (qnk b A c _ (HM.old hr) (by omega)) fun w32 hbw HM a HF => ?_
 refine fo HF 2 rfl rfl ?_
 refine qr HF HM (cs := #[vI 0, vI 0]) rfl (by kernel_rfl) rfl (by decide) ?_
 clear HF HM; intro a w4 g4 HF HM
 refine fo HF 3 rfl rfl ?_
 refine e_sa HF HM 0 rfl rfl rfl rfl rfl ⟨(by kernel_rfl), (by kernel_rfl)⟩ rfl rfl (qvf b.base) ?_
 clear HM; intro w6_3 HM
 refine qb rfl (wp_seq (qa ?_))
 refine fy HF HM 0 rfl rfl rfl (v := .agg b.base.cells) (Yl.zg rfl rfl ⟨(by kernel_rfl), (by kernel_rfl)⟩ rfl (fun _ h => qd (h.blk (i := 0) rfl))) fun a HF => ?_
 refine fp HF 1 1 [(35, vP g1 4)] fun a HF => ?_
 refine fy HF HM 2 rfl rfl rfl (v := .slice A b.evs.length c) (Yl.qh rfl rfl (by kernel_rfl) (fun _ h => h.cell (i := 3) rfl (rfl))) fun a HF => ?_
 refine fo HF 3 rfl rfl ?_
 refine e_cl HF [.agg b.base.cells, .slice A b.evs.length c] rfl rfl (qtt b.base A b.evs.length c b.evs hok.evs B _ (hL.mem HM hB).laid (HM.le hB) (HM.old hr) (by omega) hw.1 hw.2) ?_
 rintro _ w37 ⟨⟨A37, c37, rfl, ho, hc37⟩, hbw⟩
 refine ⟨_, rfl, ?_⟩
 replace HM := HM.callRow hbw ho
 clear HF; intro a HF
 refine fp HF 5 4 [(5, .slice A37 ((recs b.base b.evs).length) c37)] fun a HF => ?_
 refine qb rfl (wp_seq ?_)
 refine qaf HM [.row (.slice A37 ((recs b.base b.evs).length) c37) ((recs b.base b.evs).length) ((recs b.base b.evs).map B8) 5 1, .blk g4 b.base.cells 26, .row (.slice A25 (([b.cpu, b.lost.toNat, b.evs.length].flatMap vbytes).length) c25) (([b.cpu, b.lost.toNat, b.evs.length].flatMap vbytes).length) (([b.cpu, b.lost.toNat, b.evs.length].flatMap vbytes).map B8) 5 1, .blk g24 #[vQ b.cpu, vQ b.lost.toNat, vQ b.evs.length] 43, .blk g1 (b.cells A c) 41] [0, 1, 2, 3, 4] [] fun HM HS => ?_
 refine ap HF (fun _ => HS) [0, 1, 5, 9] #[true, true, false, false, false, true, false, false, false, true, false, false, false] [(49, .slice A37 ((recs b.base b.evs).length) c37), (45, vP g4 1), (41, vP g4 0), (40, .slice A25 (([b.cpu, b.lost.toNat, b.evs.length].flatMap vbytes).length) c25)] fun a HF => ?_
 refine ay HF HS 2 rfl rfl rfl (v := vI b.base.seq) (Yl.qh rfl rfl (by kernel_rfl) (fun _ h => h.cell (i := 1) rfl (rfl))) fun a HF => ?_
 refine qp HF (fun _ => HS) (i := 3) rfl rfl (d := 43) rfl (by decide) (by kernel_rfl) (fun _ _ _ h => h) (v := vQ (IntKind.u64.wrap b.base.seq)) (fun _ => Yl.pure (by kernel_rfl)) fun a HF => ?_
 replace HF := HF.sp 43 (vQ b.base.seq.toNat) rfl (qaw (by omega) (by omega))
 refine ay HF HS 6 rfl rfl rfl (v := vI b.base.time) (Yl.qh rfl rfl (by kernel_rfl) (fun _ h => h.cell (i := 1) rfl (rfl))) fun a HF => ?_
 refine qp HF (fun _ => HS) (i := 7) rfl rfl (d := 47) rfl (by decide) (by kernel_rfl) (fun _ _ _ h => h) (v := vQ (IntKind.u64.wrap b.base.time)) (fun _ => Yl.pure (by kernel_rfl)) fun a HF => ?_
 replace HF := HF.sp 47 (vQ b.base.time.toNat) rfl (qaw (by omega) (by omega))
 refine qj [4] (by kernel_rfl) rfl ?_
 refine all_cons ?_ all_nil
 refine qm HF (i := 4) rfl rfl ?_
 refine e_cl HF [vQ b.base.seq.toNat] rfl rfl (qfu b.base.seq.toNat (by omega) _) ?_
 rintro _ w44 ⟨⟨A44, c44, rfl, ho, hc44⟩, hbw⟩
 refine ⟨_, rfl, ?_⟩
 replace HM := HM.callRow hbw ho
 clear HF; intro a HF
 refine keepS (HM.picks [1, 2, 3, 4, 5] (by decide) rfl) (fun HS => ?_)
 refine qj [8] (by kernel_rfl) rfl ?_
 refine all_cons ?_ all_nil
 refine qm HF (i := 8) rfl rfl ?_
 refine e_cl HF [vQ b.base.time.toNat] rfl rfl (qfu b.base.time.toNat (by omega) _) ?_
 rintro _ w48 ⟨⟨A48, c48, rfl, ho, hc48⟩, hbw⟩
 refine ⟨_, rfl, ?_⟩
 replace HM := HM.callRow hbw ho
 clear HF; intro a HF
 refine keepS (HM.picks [2, 3, 4, 5, 6] (by decide) rfl) (fun HS => ?_)
 refine qj [10] (by kernel_rfl) rfl ?_
 refine all_cons ?_ all_nil
 refine qm HF (i := 10) rfl rfl ?_
 refine qar HF HM (vs := [(0, .slice A25 (([b.cpu, b.lost.toNat, b.evs.length].flatMap vbytes).length) c25), (1, .slice A44 ((vbytes b.base.seq.toNat).length) c44), (2, .slice A48 ((vbytes b.base.time.toNat).length) c48), (3, .slice A37 ((recs b.base b.evs).length) c37)]) (cs := #[.slice A25 (([b.cpu, b.lost.toNat, b.evs.length].flatMap vbytes).length) c25, .slice A44 ((vbytes b.base.seq.toNat).length) c44, .slice A48 ((vbytes b.base.time.toNat).length) c48, .slice A37 ((recs b.base b.evs).length) c37]) rfl ei_bb (by decide) rfl (by kernel_rfl) rfl (by decide) ?_
 clear HF HM; intro a w50 g50 HF HM
 refine keepS (HM.picks [3, 4, 5, 6, 7] (by decide) rfl) (fun HS => ?_)
 refine qj [11] (by kernel_rfl) rfl ?_
 refine all_cons ?_ all_nil
 refine qm HF (i := 11) rfl rfl ?_
 have hps := all4 (a := ⟨A25, c25, [b.cpu, b.lost.toNat, b.evs.length].flatMap vbytes⟩) (b := ⟨A44, c44, vbytes b.base.seq.toNat⟩) (c := ⟨A48, c48, vbytes b.base.time.toNat⟩) (d := ⟨A37, c37, recs b.base b.evs⟩) (HM.rd (i := 5) rfl) (HM.rd (i := 2) rfl) (HM.rd (i := 1) rfl) (HM.rd (i := 3) rfl)
 refine e_cl HF [vS g50 4 4] rfl rfl ((qoq _ 4 _ [⟨A25, c25, [b.cpu, b.lost.toNat, b.evs.length].flatMap vbytes⟩, ⟨A44, c44, vbytes b.base.seq.toNat⟩, ⟨A48, c48, vbytes b.base.time.toNat⟩, ⟨A37, c37, recs b.base b.evs⟩] _ (HM.rdBlk (i := 0) (n := 4) (size := 1) rfl rfl) rfl (by omega) hps (by have h1 := qba [b.cpu, b.lost.toNat, b.evs.length]; have h2 := qs b.base.seq.toNat; have h3 := qs b.base.time.toNat; have h4 := qgj b.evs b.base; simp only [List.flatMap_cons, List.flatMap_nil, List.length_append, List.append_nil, List.length_cons, List.length_nil] at h1 ⊢; omega)).mono (fun _ _ h => h.as (R' := vbytes b.cpu ++ vbytes b.lost.toNat ++ vbytes b.evs.length ++ (vbytes b.base.seq.toNat ++ vbytes b.base.time.toNat ++ recs b.base b.evs)) (by simp))) ?_
 rintro _ w51 ⟨⟨A51, c51, rfl, ho, hc51⟩, hbw⟩
 refine ⟨_, rfl, ?_⟩
 replace HM := HM.callRow hbw ho
 clear HF; intro a HF
 refine keepS (HM.picks [4, 5, 6, 7, 8] (by decide) rfl) (fun HS => ?_)
 refine ap HF (fun _ => HS) [12] #[true, true, true, true, true, true, true, true, true, true, true, true, true] [(2, .slice A51 ((vbytes b.cpu ++ vbytes b.lost.toNat ++ vbytes b.evs.length ++ (vbytes b.base.seq.toNat ++ vbytes b.base.time.toNat ++ recs b.base b.evs)).length) c51)] fun a HF => ?_
 refine qn (by kernel_rfl) ?_
 replace HF := HF.to [(2, .slice A51 ((vbytes b.cpu ++ vbytes b.lost.toNat ++ vbytes b.evs.length ++ (vbytes b.base.seq.toNat ++ vbytes b.base.time.toNat ++ recs b.base b.evs)).length) c51), (4, vP g4 0), (29, .bool false), (3, .slice A25 (([b.cpu, b.lost.toNat, b.evs.length].flatMap vbytes).length) c25), (9, .bool false), (1, vP g1 0)]
 replace HM := HM.picks (fs' := [.row (.slice A51 ((vbytes b.cpu ++ vbytes b.lost.toNat ++ vbytes b.evs.length ++ (vbytes b.base.seq.toNat ++ vbytes b.base.time.toNat ++ recs b.base b.evs)).length) c51) ((vbytes b.cpu ++ vbytes b.lost.toNat ++ vbytes b.evs.length ++ (vbytes b.base.seq.toNat ++ vbytes b.base.time.toNat ++ recs b.base b.evs)).length) ((vbytes b.cpu ++ vbytes b.lost.toNat ++ vbytes b.evs.length ++ (vbytes b.base.seq.toNat ++ vbytes b.base.time.toNat ++ recs b.base b.evs)).map B8) 5 1, .blk g4 b.base.cells 26, .row (.slice A25 (([b.cpu, b.lost.toNat, b.evs.length].flatMap vbytes).length) c25) (([b.cpu, b.lost.toNat, b.evs.length].flatMap vbytes).length) (([b.cpu, b.lost.toNat, b.evs.length].flatMap vbytes).map B8) 5 1, .blk g1 (b.cells A c) 41]) [0, 5, 6, 8] (by decide) rfl
 refine wp_ret ?_
 exact ret1 rfl HF (.tmp HF rfl) (qai.as ⟨⟨_, _, rfl, HM.own (i := 0) rfl, hc51⟩, HM.below⟩ (by unfold Bk.body; rw [if_neg hk, if_neg (by omega)]))
instance bkDec : DecidableEq Bk := fun ⟨a0, a1, a2, a3, a4⟩ ⟨b0, b1, b2, b3, b4⟩ =>
 decidable_of_iff (a0 = b0 ∧ a1 = b1 ∧ a2 = b2 ∧ a3 = b3 ∧ a4 = b4) (by simp)
theorem qrg {b : Bk} (h : 8 + b.body.length + 4 ≤ 4096) : (#[Value.int .u8 (((8 + b.body.length + 4) % 256 : Nat) : Int), .int .u8 (((8 + b.body.length + 4) / 256 % 256 : Nat) : Int), .int .u8 0, .int .u8 0, .int .u8 113, .int .u8 116, .int .u8 1, .int .u8 (b.kind : Int)] : Array Value).toList ++ b.body.map B8 = b.raw.map B8 := by
 have e0 : 8 + b.body.length + 4 = 12 + b.body.length := by omega
 have e1 : (12 + b.body.length) / 65536 % 256 = 0 := by omega
 have e2 : (12 + b.body.length) / 16777216 % 256 = 0 := by omega
 unfold Bk.raw le4
 rw [e0, e1, e2]
 simp [B8]
theorem qb4 (x : Nat) : ∀ b ∈ vbytes x, b < 256 := by
 intro b hb
 unfold vbytes at hb
 obtain ⟨p, hp, rfl⟩ := List.mem_map.1 hb
 have := qpz 10 x p hp
 unfold vbyte
 split <;> omega
theorem qml {b : Bs} {e : Ev} (h : e.kind < 256) : ∀ x ∈ zb b e, x < 256 := by
 intro x hx
 unfold zb at hx
 rcases List.mem_cons.1 hx with rfl | hx
 ·exact h
 ·obtain ⟨y, _, hy⟩ := List.mem_flatMap.1 hx
  exact qb4 y x hy
theorem qrh : ∀ (l : List Ev) (b : Bs), (∀ e ∈ l, e.Ok) → ∀ x ∈ recs b l, x < 256
 | [], _, _, x, hx => by simp [recs] at hx
 | e :: r, b, hok, x, hx => by
  rw [recs] at hx
  rcases List.mem_append.1 hx with h | h
  ·exact qml (hok e (by simp)).kind x h
  ·exact qrh r e.at (fun y hy => hok y (by simp [hy])) x h
theorem qwt {b : Bk} (hok : b.Ok) : ∀ x ∈ b.body, x < 256 := by
 intro x hx
 unfold Bk.body at hx
 split at hx
 ·exact qb4 _ x hx
 ·rcases List.mem_append.1 hx with h | h
  ·rcases List.mem_append.1 h with h | h
   ·rcases List.mem_append.1 h with h | h
    ·exact qb4 _ x h
    ·exact qb4 _ x h
   ·exact qb4 _ x h
  ·split at h
   ·cases h
   ·rcases List.mem_append.1 h with h | h
    ·rcases List.mem_append.1 h with h | h
     ·exact qb4 _ x h
     ·exact qb4 _ x h
    ·exact qrh _ _ hok.evs x h
theorem qvp {b : Bk} (hok : b.Ok) : ∀ x ∈ b.raw, x < 256 := by
 intro x hx
 unfold Bk.raw at hx
 rcases List.mem_append.1 hx with h | h
 ·rcases List.mem_append.1 h with h | h
  ·exact qvo _ x h
  ·simp only [List.mem_cons, List.not_mem_nil, or_false] at h
   have := hok.kind
   omega
 ·exact qwt hok x h
theorem qd3 (b : Bk) : b.raw.length = 8 + b.body.length := by unfold Bk.raw le4; simp; omega
theorem qeh (b : Bk) : b.body.length ≤ 50 + 61 * b.evs.length := by
 unfold Bk.body
 split
 ·have := qs b.next.toNat; omega
 ·have h1 := qs b.cpu
  have h2 := qs b.lost.toNat
  have h3 := qs b.evs.length
  have h4 := qs b.base.seq.toNat
  have h5 := qs b.base.time.toNat
  have h6 := qgj b.evs b.base
  split <;> simp only [List.length_append, List.length_nil] <;> omega
theorem qvq {w w' : World} {b : Bk} {er : Nat} (h : b.err = er) (he : er ≠ 0) (hb : Below w.heap.size w w') : qa6 w b.err b.out (.returned (.tuple #[.slice none 0 0, .int .i64 (er : Int)])) w' := by
 have h2 : b.out = [] := by unfold Bk.out; rw [if_neg (by omega)]
 rw [h, h2]
 exact ⟨⟨none, 0, rfl, World.ownsRow_nil _ _ _ _, Nat.le_refl _⟩, hb⟩
theorem qie {b : Bk} (h : b.err = 0) : b.out = sealL b.raw := by unfold Bk.out; rw [if_pos h]
theorem qg7 (b : Bk) : b.out.length ≤ 4096 := by
 unfold Bk.out
 split
 ·rename_i h
  unfold Bk.err at h
  split at h
  ·cases h
  ·split at h
   ·cases h
   ·rw [qgl, qd3]; omega
 ·simp
theorem qyc {b : Bk} (hok : b.Ok) : ∀ x ∈ b.out, x < 256 := by
 unfold Bk.out
 split
 ·exact qwr (qvp hok)
 ·intro x hx; cases hx
theorem qc8 (most : Nat) (l : List Nat) : tkVal most l ≤ most := by unfold tkVal; split <;> omega
theorem qg8 (most : Nat) (l : List Nat) : (if ((most : Nat) : Int) < (((vread l).1 : Nat) : Int) then ((most : Nat) : Int) else (((vread l).1 : Nat) : Int)) = ((tkVal most l : Nat) : Int) := by unfold tkVal; split <;> split <;> omega
theorem qd4 (l : List Nat) : (qc l).length = l.length - (vread l).2.1 := by unfold qc; rw [List.length_drop]
theorem qcq (l : List Nat) : (qc l).length ≤ l.length := by rw [qd4]; omega
theorem qow {most : Nat} {l : List Nat} (h : (vread l).2.2 ≠ 0) : tkOk most l = false := by unfold tkOk; rw [decide_eq_false]; omega
def qvr (W : World) (gb gk : Nat) (l : List Nat) (okb : Bool) (most : Nat) (fr : List Fact) (r : Ending) (w' : World) : Prop :=
 r = .returned (.int .i64 ((tkVal most l : Nat) : Int)) ∧ ∃ A' c', Rd W W.heap.size 1 A' (qc l).length ((qc l).map B8) ∧ (qc l).length ≤ c' ∧
  Mem W w' (.blk gb #[.slice A' (qc l).length c'] 54 :: .blk gk #[.bool (okb && tkOk most l)] 4 :: fr)
theorem qg9 {W w' : World} {gb gk n c most : Nat} {l : List Nat} {okb ok2 : Bool} {A : Option Addr} {fr : List Fact} (hr : Rd W W.heap.size 1 A l.length (l.map B8)) (hc : l.length ≤ c) (h2 : (okb && tkOk most l) = ok2) (hn : n = l.length)
  (HM : Mem W w' (.blk gb #[.slice (if c = (vread l).2.1 then A else A.map (·.add ((vread l).2.1 * 1))) (n - (vread l).2.1) (c - (vread l).2.1)] 54 :: .blk gk #[.bool ok2] 4 :: fr)) :
  qvr W gb gk l okb most fr (.returned (.int .i64 ((tkVal most l : Nat) : Int))) w' := by
 subst h2; subst hn
 refine ⟨rfl, (if c = (vread l).2.1 then A else A.map (·.add ((vread l).2.1 * 1))), c - (vread l).2.1, ?_, ?_, ?_⟩
 ·rw [qd4]
  exact hr.qn7 (qcj l) hc
 ·rw [qd4]; omega
 ·rw [qd4]; exact HM
def qei (w : World) (q : Option Bk) (r : Ending) (w' : World) : Prop :=
 (∃ cs : Array Value, r = .returned (.tuple #[.agg cs, .bool q.isSome]) ∧ cs.size = 5 ∧ (∀ v ∈ cs.toList, v.oneCell' = true) ∧
  (∀ b, q = some b → ∃ A c, cs = b.cells A c ∧ w'.ownsRow w.heap.size 45 11 (.slice A b.evs.length c) b.evs.length (b.evs.flatMap evL) ∧ b.evs.length ≤ c)) ∧ Below w.heap.size w w'
theorem qbn {w w' : World} {q : Option Bk} {cs : Array Value} (h : q = none) (hs : cs.size = 5) (h1 : ∀ v ∈ cs.toList, v.oneCell' = true) (hb : Below w.heap.size w w') : qei w q (.returned (.tuple #[.agg cs, .bool false])) w' := by
 subst h
 exact ⟨⟨cs, rfl, hs, h1, fun b h => by cases h⟩, hb⟩
theorem qcd {w w' : World} {q : Option Bk} {b : Bk} {A : Option Addr} {c : Nat} (h : q = some b) (ho : w'.ownsRow w.heap.size 45 11 (.slice A b.evs.length c) b.evs.length (b.evs.flatMap evL)) (hc : b.evs.length ≤ c) (hb : Below w.heap.size w w') : qei w q (.returned (.tuple #[.agg (b.cells A c), .bool true])) w' := by
 subst h
 exact ⟨⟨_, rfl, rfl, qb3 _ _ _, fun b' h => by injection h with h; subst h; exact ⟨A, c, rfl, ho, hc⟩⟩, hb⟩
theorem tk3 {l : List Nat} : (((true && tkOk 63 l) && tkOk 281474976710656 (qc l)) && tkOk 4096 (qc (qc l))) = qcc l := by unfold qcc; simp
theorem qif (l : List Nat) : qdc 2 l = qaq l := by unfold qdc; rw [if_pos rfl]
theorem qbd (l : List Nat) : qdc 1 l = zc l := by unfold qdc; rw [if_neg (by omega)]
theorem endOk {x : Nat} (h : x ≤ 281474976710657) : Bk.Ok ⟨2, 0, 0, (x : Int), []⟩ := ⟨by show 2 < 256; decide, by show 0 < 256; decide, by unfold I64; simp, qdo h, by simp⟩
theorem evsOk {cpu lost : Nat} {es : List Ev} (h : cpu < 256) (hl : lost ≤ 281474976710656) (he : ∀ e ∈ es, e.Ok) : Bk.Ok ⟨1, cpu, (lost : Int), 0, es⟩ := ⟨by show 1 < 256; decide, h, qdo (by show lost ≤ _; omega), by unfold I64; simp, he⟩
theorem qe7 {l : List Nat} {q : List Ev × Nat × Nat} (h3 : qcc l = true) (h0 : 0 < tkVal 4096 (qc (qc l)))
  (hq : readR ⟨(tkVal 281474976710656 (qc (qc (qc l))) : Int), (tkVal 281474976710656 (qc (qc (qc (qc l)))) : Int)⟩ (tkVal 63 l) (tkVal 4096 (qc (qc l)) : Int) (qc (qc (qc (qc (qc l))))) = q) :
  zc l = zx (tkVal 63 l) (tkVal 281474976710656 (qc l)) (qc (qc (qc l))) q := by
 unfold zc
 rw [if_pos ⟨h3, h0⟩, hq]
theorem qec {cpu lost : Nat} {l : List Nat} {q : List Ev × Nat × Nat} (h : ¬ (q.2.2 = 0 ∧ (q.1.getD 0 Ev.zero).seq = (tkVal 281474976710656 l : Int) ∧ (q.1.getD 0 Ev.zero).time = (tkVal 281474976710656 (qc l) : Int) ∧ tkOk 281474976710656 l = true ∧ tkOk 281474976710656 (qc l) = true ∧ (qc (qc l)).length - q.2.1 = 0 ∧ Bk.fits ⟨1, cpu, lost, 0, q.1⟩ = true)) : zx cpu lost l q = none := by
 unfold zx
 rw [if_neg]
 intro hh
 obtain ⟨h1, h2, h3, h4, h5, h6, h7⟩ := hh
 rw [List.length_drop] at h6
 have e : q.1.headD Ev.zero = q.1.getD 0 Ev.zero := by cases q.1 <;> rfl
 rw [e] at h2 h3
 exact h ⟨h1, h2, h3, h4, h5, h6, h7⟩
theorem qhw {cpu lost : Nat} {l : List Nat} {q : List Ev × Nat × Nat} (h : q.2.2 = 0 ∧ (q.1.getD 0 Ev.zero).seq = (tkVal 281474976710656 l : Int) ∧ (q.1.getD 0 Ev.zero).time = (tkVal 281474976710656 (qc l) : Int) ∧ tkOk 281474976710656 l = true ∧ tkOk 281474976710656 (qc l) = true ∧ (qc (qc l)).length - q.2.1 = 0 ∧ Bk.fits ⟨1, cpu, lost, 0, q.1⟩ = true) : zx cpu lost l q = some ⟨1, cpu, lost, 0, q.1⟩ := by
 unfold zx
 rw [if_pos]
 obtain ⟨h1, h2, h3, h4, h5, h6, h7⟩ := h
 have e : q.1.headD Ev.zero = q.1.getD 0 Ev.zero := by cases q.1 <;> rfl
 rw [e, List.length_drop]
 exact ⟨h1, h2, h3, h4, h5, h6, h7⟩
theorem qej (l : List Nat) : (qaq l).isSome = (tkOk 281474976710657 l && (decide ((qc l).length = 0) && Bk.fits ⟨2, 0, 0, (tkVal 281474976710657 l : Int), []⟩)) := by
 unfold qaq
 split
 ·rename_i h; rw [h.1, decide_eq_true h.2.1, h.2.2]; rfl
 ·rename_i h
  show false = _
  rw [eq_comm, Bool.eq_false_iff]
  intro hh
  simp only [Bool.and_eq_true, decide_eq_true_eq] at hh
  exact h ⟨hh.1, hh.2.1, hh.2.2⟩
theorem qky {l : List Nat} (h : (qaq l).isSome = true) : qaq l = some ⟨2, 0, 0, (tkVal 281474976710657 l : Int), []⟩ := by
 unfold qaq at h ⊢
 split
 ·rfl
 ·rename_i h2; rw [if_neg h2] at h; cases h
theorem qnl {l : List Nat} (h : ¬ (qcc l = true ∧ 0 < tkVal 4096 (qc (qc l)))) : (zc l).isSome = (qcc l && (decide ((qc (qc (qc l))).length = 0) && Bk.fits ⟨1, tkVal 63 l, (tkVal 281474976710656 (qc l) : Int), 0, []⟩)) := by
 unfold zc
 rw [if_neg h]
 split
 ·rename_i h; rw [h.1, decide_eq_true h.2.1, h.2.2]; rfl
 ·rename_i h
  show false = _
  rw [eq_comm, Bool.eq_false_iff]
  intro hh
  simp only [Bool.and_eq_true, decide_eq_true_eq] at hh
  exact h ⟨hh.1, hh.2.1, hh.2.2⟩
theorem qri {l : List Nat} (h : ¬ (qcc l = true ∧ 0 < tkVal 4096 (qc (qc l)))) (hs : (zc l).isSome = true) : zc l = some ⟨1, tkVal 63 l, (tkVal 281474976710656 (qc l) : Int), 0, []⟩ := by
 unfold zc at hs ⊢
 rw [if_neg h] at hs ⊢
 split
 ·rfl
 ·rename_i h2; rw [if_neg h2] at hs; cases hs
theorem qmm {cpu lost L : Nat} {l : List Nat} {es : List Ev} (h : (es.getD 0 Ev.zero).seq = (tkVal 281474976710656 l : Int) ∧ (es.getD 0 Ev.zero).time = (tkVal 281474976710656 (qc l) : Int)) : (zx cpu lost l (es, L, 0)).isSome = ((tkOk 281474976710656 l && tkOk 281474976710656 (qc l)) && (decide ((qc (qc l)).length - L = 0) && Bk.fits ⟨1, cpu, (lost : Int), 0, es⟩)) := by
 cases hc : ((tkOk 281474976710656 l && tkOk 281474976710656 (qc l)) && (decide ((qc (qc l)).length - L = 0) && Bk.fits ⟨1, cpu, (lost : Int), 0, es⟩)) with
 | true =>
  simp only [Bool.and_eq_true, decide_eq_true_eq] at hc
  rw [qhw ⟨rfl, h.1, h.2, hc.1.1, hc.1.2, hc.2.1, hc.2.2⟩]
  rfl
 | false =>
  rw [qec]
  ·rfl
  ·intro hh
   obtain ⟨h1, h2, h3, h4, h5, h6, h7⟩ := hh
   rw [h4, h5, h7, decide_eq_true h6] at hc
   cases hc
theorem qt9 {cpu lost : Nat} {l : List Nat} {q : List Ev × Nat × Nat} (h : (zx cpu lost l q).isSome = true) : zx cpu lost l q = some ⟨1, cpu, (lost : Int), 0, q.1⟩ := by
 unfold zx at h ⊢
 split
 ·rfl
 ·rename_i h2; rw [if_neg h2] at h; cases h
theorem qei.none {w w' : World} {q : Option Bk} {r : Ending} (h : qei w q r w') (hq : q = none) : (∃ cs : Array Value, r = .returned (.tuple #[.agg cs, .bool false]) ∧ cs.size = 5 ∧ (∀ v ∈ cs.toList, v.oneCell' = true)) ∧ Below w.heap.size w w' := by
 subst hq
 obtain ⟨⟨cs, h1, h2, h3, _⟩, h4⟩ := h
 exact ⟨⟨cs, h1, h2, h3⟩, h4⟩
theorem qei.some {w w' : World} {q : Option Bk} {b : Bk} {r : Ending} (h : qei w q r w') (hq : q = some b) : (∃ A c, r = .returned (.tuple #[.agg (b.cells A c), .bool true]) ∧ w'.ownsRow w.heap.size 45 11 (.slice A b.evs.length c) b.evs.length (b.evs.flatMap evL) ∧ b.evs.length ≤ c) ∧ Below w.heap.size w w' := by
 subst hq
 obtain ⟨⟨cs, h1, h2, h3, h5⟩, h4⟩ := h
 obtain ⟨A, c, rfl, h6, h7⟩ := h5 b rfl
 exact ⟨⟨A, c, h1, h6, h7⟩, h4⟩
def qmn (T : TypeId) (w : World) (q : Bk × Nat × Nat) (r : Ending) (w' : World) : Prop :=
 (∃ A c, r = .returned (.tuple #[.agg (q.1.cells A c), .int .i64 (q.2.1 : Int), .int .i64 (q.2.2 : Int)]) ∧ w'.ownsRow w.heap.size T 11 (.slice A q.1.evs.length c) q.1.evs.length (q.1.evs.flatMap evL) ∧ q.1.evs.length ≤ c) ∧ Below w.heap.size w w'
theorem qal {T : TypeId} {w w' : World} {q : Bk × Nat × Nat} {er : Nat} (h : q = (Bk.zero, 0, er)) (hb : Below w.heap.size w w') : qmn T w q (.returned (.tuple #[.agg #[.int .u8 0, .int .u8 0, .int .i64 0, .int .i64 0, .slice none 0 0], .int .i64 0, .int .i64 (er : Int)])) w' := by
 subst h
 exact ⟨⟨none, 0, rfl, World.ownsRow_nil _ _ _ _, Nat.le_refl _⟩, hb⟩
theorem qig {T : TypeId} {w w' : World} {q : Bk × Nat × Nat} {b : Bk} {m c : Nat} {A : Option Addr} (h : q = (b, m, 0)) (ho : w'.ownsRow w.heap.size T 11 (.slice A b.evs.length c) b.evs.length (b.evs.flatMap evL)) (hc : b.evs.length ≤ c) (hb : Below w.heap.size w w') : qmn T w q (.returned (.tuple #[.agg (b.cells A c), .int .i64 (m : Int), .int .i64 0])) w' := by
 subst h
 exact ⟨⟨A, c, rfl, ho, hc⟩, hb⟩
theorem qrj {l : List Nat} (h : (lenR l).2 ≠ 0) : readB l = (Bk.zero, 0, (lenR l).2) := by unfold readB; rw [if_pos h]
theorem qbe {l L : List Nat} {e : Nat} (h : (lenR l).2 = 0) (hL : L = l.take (lenR l).1) (hb : blkOf L = (none, e)) : readB l = (Bk.zero, 0, e) := by unfold readB; rw [if_neg (by omega), ← hL, hb]
theorem qfv {l L : List Nat} {b : Bk} {e : Nat} (h : (lenR l).2 = 0) (hL : L = l.take (lenR l).1) (hb : blkOf L = (some b, e)) : readB l = (b, (lenR l).1, 0) := by unfold readB; rw [if_neg (by omega), ← hL, hb]
theorem tk5 {l : List Nat} {m1 m2 m3 m4 m5 : Nat} {a b c d e : List Nat} : (((((true && tkOk m1 a) && tkOk m2 b) && tkOk m3 c) && tkOk m4 d) && tkOk m5 e) = ((((true && tkOk m1 a) && tkOk m2 b) && tkOk m3 c) && (tkOk m4 d && tkOk m5 e)) := by
 have _ := l
 rw [Bool.and_assoc]
theorem qui {l : List Nat} (hl : ∀ x ∈ l, x < 256) (h : 4 ≤ l.length) : le4 (num4 (l.drop (l.length - 4))) = l.drop (l.length - 4) := by
 have h1 : (l.drop (l.length - 4)).length = 4 := by rw [List.length_drop]; omega
 rw [qnm (qa7 hl _) (by omega), List.take_of_length_le (by omega)]
theorem qwv {l : List Nat} (hl : ∀ x ∈ l, x < 256) (h : qay l = true) : sealL (l.take (l.length - 4)) = l := by
 unfold qay at h
 rw [decide_eq_true_eq] at h
 unfold sealL
 rw [h.2, qui hl h.1, List.take_append_drop]
theorem qrp {l : List Nat} {b : Bk} {m er : Nat} (h : readB l = (b, m, er)) (he : er ≠ 0) : b = Bk.zero ∧ m = 0 := by
 unfold readB at h
 split at h
 ·simp only [Prod.mk.injEq] at h; exact ⟨h.1.symm, h.2.1.symm⟩
 ·split at h
  ·simp only [Prod.mk.injEq] at h; exact absurd h.2.2.symm he
  ·simp only [Prod.mk.injEq] at h; exact ⟨h.1.symm, h.2.1.symm⟩
theorem qrq {l : List Nat} (h : (blkOf l).1 = none) : (blkOf l).2 ≠ 0 := by
 unfold blkOf at h ⊢
 split
 ·decide
 ·rename_i h1
  rw [if_neg h1] at h
  split
  ·decide
  ·rename_i h2
   rw [if_neg h2] at h
   split
   ·decide
   ·rename_i h3
    rw [if_neg h3] at h
    split
    ·decide
    ·rename_i h4
     rw [if_neg h4] at h
     split
     ·decide
     ·rename_i b hb
      rw [hb] at h
      cases h
structure OneForm (l : List Nat) (b : Bk) (m : Nat) : Prop where
 ok : b.Ok
 fits : b.fits = true
 err : b.err = 0
 out : b.out = l.take m
 len : m ≤ l.length
 evs : b.evs.length ≤ 4096
 least : 13 ≤ m
 most : m ≤ 4096
theorem qgm {l : List Nat} {b : Bk} {m : Nat} (hl : ∀ x ∈ l, x < 256) (h : readB l = (b, m, 0)) : OneForm l b m := by
 unfold readB at h
 split at h
 ·rename_i h0; simp only [Prod.mk.injEq] at h; exact absurd h.2.2 h0
 ·rename_i h0
  obtain ⟨h1, h2, h3, h4⟩ := qrm (show (lenR l).2 = 0 by omega)
  split at h
  ·rename_i b' hb
   simp only [Prod.mk.injEq] at h
   obtain ⟨rfl, rfl, _⟩ := h
   generalize (lenR l).1 = n at h1 h2 h3 h4 hb
   have hL : ∀ x ∈ l.take n, x < 256 := qbc hl n
   have hlen : (l.take n).length = n := by rw [List.length_take]; omega
   have hnum : num4 (l.take n) = n := by rw [qrn (by omega)]; exact h1
   obtain ⟨L, hLe⟩ : ∃ L, L = l.take n := ⟨_, rfl⟩
   rw [← hLe] at hb hL hlen hnum
   unfold blkOf at hb
   split at hb
   ·cases hb
   ·rename_i s1
    split at hb
    ·cases hb
    ·rename_i s2
     split at hb
     ·cases hb
     ·rename_i s3
      split at hb
      ·cases hb
      ·rename_i s4
       split at hb
       ·cases hb
       ·rename_i b'' hp
        injection hb with hb
        subst hb
        have hk : L.getD 7 0 = 1 ∨ L.getD 7 0 = 2 := by omega
        have s2 : L.getD 4 0 = 113 ∧ L.getD 5 0 = 116 := Decidable.of_not_not s2
        obtain ⟨q1, q2, q3, q4, q5⟩ := qoo hk (qa7 (qbc hL _) _) hp
        have herr : b''.err = 0 := by
         unfold Bk.err
         rw [if_neg (by simp [q3]), if_neg (by rw [q4, List.length_drop, List.length_take]; omega)]
        refine ⟨q2, q3, herr, ?_, h4, q5, h2, h3⟩
        rw [← hLe, qie herr, quf hL (by omega) (by omega) s2.1 s2.2 (by omega) q1.symm q4]
        exact qwv hL (by simpa using s1)
  ·rename_i hb
   simp only [Prod.mk.injEq] at h
   exact absurd h.2.2 (qrq hb)
theorem qii (x : Nat) : 1 ≤ (vbytes x).length := by
 unfold vbytes
 rw [List.length_map]
 rcases Nat.lt_or_ge x 128 with h | h
 ·rw [qdg 9 x h]; simp
 ·rw [qbw 9 x h]; simp
theorem qno (b : Bk) : 1 ≤ b.body.length := by
 unfold Bk.body
 split
 ·exact qii _
 ·have := qii b.cpu
  simp only [List.length_append]
  omega
theorem qcs {b : Bk} (h : b.err = 0) : b.out.length = 12 + b.body.length := by rw [qie h, qgl, qd3]; omega
theorem qjh {b : Bk} (h : b.err = 0) : b.fits = true ∧ 12 + b.body.length ≤ 4096 := by
 unfold Bk.err at h
 split at h
 ·cases h
 ·rename_i h1
  split at h
  ·cases h
  ·rename_i h2
   exact ⟨by simpa using h1, by omega⟩
theorem qvs {b : Bk} (h : b.fits = true) (h2 : 12 + b.body.length ≤ 4096) : b.err = 0 := by
 unfold Bk.err
 rw [if_neg (by simp [h]), if_neg (by omega)]
theorem qmo {l : List Nat} : qay (sealL l) = true := by
 have hlt : qz l < 4294967296 := qks l
 have e : (sealL l).length - 4 = l.length := by rw [qgl]; omega
 unfold qay
 rw [decide_eq_true_eq, e]
 unfold sealL
 refine ⟨by rw [List.length_append, qra]; omega, ?_⟩
 rw [List.take_left, List.drop_left]
 have := qnn hlt []
 rw [List.append_nil] at this
 exact this.symm
theorem quj {b : Bk} (h : b.err = 0) : b.out.getD 4 0 = 113 ∧ b.out.getD 5 0 = 116 ∧ b.out.getD 6 0 = 1 ∧ b.out.getD 7 0 = b.kind ∧ (b.out.take (b.out.length - 4)).drop 8 = b.body := by
 have e : b.out.length - 4 = b.raw.length := by rw [qcs h, qd3]; omega
 rw [e, qie h]
 unfold sealL
 rw [List.take_left, que]
 refine ⟨rfl, rfl, rfl, rfl, rfl⟩
theorem quk {b : Bk} (h : b.err = 0) (t : List Nat) : num4 (b.out ++ t) = b.out.length := by
 obtain ⟨h1, h2⟩ := qjh h
 rw [qcs h, qie h]
 unfold sealL Bk.raw
 simp only [List.append_assoc]
 exact qnn (by omega) _
theorem qk0 {b : Bk} (h : b.fits = true) : b.kind = 1 ∨ b.kind = 2 := by
 unfold Bk.fits at h
 split at h
 ·left; assumption
 ·split at h
  ·right; assumption
  ·cases h
theorem qmp {b : Bk} (h : b.fits = true) (h2 : 12 + b.body.length ≤ 4096) : b.evs.length ≤ 4096 := by
 by_cases hk : b.kind = 2
 ·have := qg6 h hk; omega
 ·have := qx8 hk; omega
theorem qrr {b : Bk} (hok : b.Ok) (h : b.err = 0) : blkOf b.out = (some b, 0) := by
 obtain ⟨h1, h2⟩ := qjh h
 obtain ⟨g1, g2, g3, g4, g5⟩ := quj h
 have hs : qay b.out = true := by rw [qie h]; exact qmo
 have hk := qk0 h1
 unfold blkOf
 rw [if_neg (by rw [hs]; decide), if_neg (fun hh => hh ⟨g1, g2⟩), if_neg (by omega), if_neg (by omega), g4, g5, qon hok h1 (qmp h1 h2)]
theorem qul {b : Bk} (hok : b.Ok) (h : b.err = 0) (t : List Nat) : readB (b.out ++ t) = (b, b.out.length, 0) := by
 obtain ⟨h1, h2⟩ := qjh h
 have h3 := qcs h
 have h4 := qno b
 have hn := quk h t
 have hlen : lenR (b.out ++ t) = (b.out.length, 0) := by
  unfold lenR
  rw [hn, if_neg (by rw [List.length_append]; omega), if_neg (by omega), if_neg (by rw [List.length_append]; omega)]
 refine (qfv (b := b) (e := 0) (L := b.out) (by rw [hlen]) (by rw [hlen]; exact List.take_left.symm) (qrr hok h)).trans ?_
 rw [hlen]
structure Hb where
 b : Bk
 A : Option Addr
 c : Nat
def Hb.zero : Hb := ⟨Bk.zero, none, 0⟩
def hbL (h : Hb) : List Value := (h.b.cells h.A h.c).toList
theorem qdp (h : Hb) : (hbL h).length = 5 := rfl
def Hb.own (h : Hb) : Own := ⟨h.A, h.b.evs.length, h.c, h.b.evs.flatMap evL⟩
def hbF (t : TypeId) (q : List Hb) : List Fact := ownsF t 11 (q.map Hb.own)
def HbRd (w : World) (q : List Hb) : Prop := ∀ h ∈ q, Rd w w.heap.size 11 h.A h.b.evs.length (h.b.evs.flatMap evL)
section
variable {W w w' : World} {fs gs a b : List Fact} {t bt : TypeId} {q : List Hb}
theorem qua (h : Hb) : hbF t (h :: q) = .row (.slice h.A h.b.evs.length h.c) h.b.evs.length (h.b.evs.flatMap evL) t 11 :: hbF t q := rfl
theorem qub (h : Hb) : hbF t (q ++ [h]) = hbF t q ++ [.row (.slice h.A h.b.evs.length h.c) h.b.evs.length (h.b.evs.flatMap evL) t 11] := by
 unfold hbF ownsF
 rw [List.map_append, List.map_append]
 rfl
theorem qwu {h : Hb} (hq : h ∈ q) : Fact.row (.slice h.A h.b.evs.length h.c) h.b.evs.length (h.b.evs.flatMap evL) t 11 ∈ hbF t q := List.mem_map_of_mem (List.mem_map_of_mem hq)
theorem Mem.hbRd (h : Mem W w fs) (hs : ∀ f ∈ hbF t q, f ∈ fs) : HbRd w q := fun _ hx => h.qyx (hs _ (qwu hx))
theorem HbRd.old (h : HbRd W q) (HM : Mem W w fs) : HbRd w q := fun x hx => HM.old (h x hx)
theorem HbRd.at {k : Nat} (h : HbRd w q) (hk : k < q.length) : Rd w w.heap.size 11 (q.getD k Hb.zero).A (q.getD k Hb.zero).b.evs.length ((q.getD k Hb.zero).b.evs.flatMap evL) := by
 refine h _ ?_
 rw [List.getD_eq_getElem?_getD, List.getElem?_eq_getElem hk]
 exact List.getElem_mem hk
theorem Mem.toHb {x : Bk} {A : Option Addr} {c : Nat} (h : Mem W w (.row (.slice A x.evs.length c) x.evs.length (x.evs.flatMap evL) t 11 :: (a ++ (hbF t q ++ b)))) : Mem W w (a ++ (hbF t (q ++ [⟨x, A, c⟩]) ++ b)) := by
 refine h.perm ?_
 rw [qub]
 have h1 : (Fact.row (.slice A x.evs.length c) x.evs.length (x.evs.flatMap evL) t 11 :: (a ++ (hbF t q ++ b))).Perm (a ++ Fact.row (.slice A x.evs.length c) x.evs.length (x.evs.flatMap evL) t 11 :: (hbF t q ++ b)) := (List.perm_middle).symm
 refine h1.trans (List.Perm.append_left a ?_)
 rw [List.append_assoc]
 exact (List.perm_middle (l₁ := hbF t q) (l₂ := b)).symm
theorem Mem.qv5 {k : Nat} (h : Mem W w (a ++ (hbF t (q.drop k) ++ b))) (hk : k < q.length) :
  Mem W w (.row (.slice (q.getD k Hb.zero).A (q.getD k Hb.zero).b.evs.length (q.getD k Hb.zero).c) (q.getD k Hb.zero).b.evs.length ((q.getD k Hb.zero).b.evs.flatMap evL) t 11 :: (a ++ (hbF t (q.drop (k + 1)) ++ b))) := by
 refine h.perm ?_
 rw [List.drop_eq_getElem_cons hk, qua, List.getD_eq_getElem?_getD, List.getElem?_eq_getElem hk]
 exact List.perm_middle
theorem Mem.qys {f : Fact} (h : Mem W w (a ++ b)) (k : Mem w w' (f :: hbF t q)) : Mem W w' (f :: (a ++ (hbF t q ++ b))) := by
 refine (h.join k).perm (List.Perm.cons f ?_)
 show (hbF t q ++ (a ++ b)).Perm _
 rw [← List.append_assoc, ← List.append_assoc]
 exact List.Perm.append_right b List.perm_append_comm
end
def qgb (t bt : TypeId) (w : World) (er : Nat) (bs : List Bk) : Ending → World → Prop := fun r w' => ∃ A c q, r = .returned (.tuple #[.slice A bs.length c, .int .i64 (er : Int)]) ∧ q.map Hb.b = bs ∧ bs.length ≤ c ∧ Mem w w' (.row (.slice A bs.length c) bs.length (q.flatMap hbL) bt 5 :: hbF t q)
section
variable {W w : World} {fs a : List Fact} {t bt : TypeId} {q : List Hb}
theorem Mem.only (h : Mem W w fs) {f : Fact} (hf : f ∈ fs) : Mem W w [f] := ⟨h.below, fun k hk => by rw [List.mem_singleton] at hk; subst hk; exact h.holds k hf, List.pairwise_singleton _ _⟩
theorem Mem.qyy {x : Bk} {A : Option Addr} {c : Nat} (h : Mem W w (.row (.slice A x.evs.length c) x.evs.length (x.evs.flatMap evL) t 11 :: fs)) (hfs : fs = a ++ hbF t q) : Mem W w (a ++ hbF t (q ++ [⟨x, A, c⟩])) := by
 subst hfs
 have h1 := Mem.toHb (b := []) (by rwa [List.append_nil])
 rwa [List.append_nil] at h1
theorem qd5 {er : Nat} {n : Int} (h : Mem W w fs) (he : n = er) : qgb t bt W er [] (.returned (.tuple #[.slice none 0 0, .int .i64 n])) w := by
 subst he
 exact ⟨none, 0, [], rfl, rfl, Nat.le_refl _, Mem.nil ⟨h.below, fun f hf => absurd hf List.not_mem_nil, .nil⟩ _ _⟩
theorem quc {cpu : Nat} {opn : Int} (h : Mem W w fs) {i g : Nat} (hi : fs[i]? = some (.blk g #[.int .u8 1, .int .u8 (cpu : Int), .int .i64 opn, .int .i64 0, .slice none 0 0] bt)) : qgb t bt W 0 [⟨1, cpu, opn, 0, []⟩] (.returned (.tuple #[.slice (some ⟨g, 0, none⟩) 1 1, .int .i64 0])) w := by
 refine ⟨some ⟨g, 0, none⟩, 1, [⟨⟨1, cpu, opn, 0, []⟩, none, 0⟩], rfl, rfl, Nat.le_refl _, ?_⟩
 have h1 := (h.only (List.mem_of_getElem? hi)).blkRow (i := 0) (n := 1) (size := 5) rfl rfl (by decide)
 exact (h1.nil t 11).perm (List.Perm.swap _ _ _)
theorem qrk {A : Option Addr} {c : Nat} (h : Mem W w (.row (.slice A q.length c) q.length (q.flatMap hbL) bt 5 :: hbF t q)) (hc : q.length ≤ c) : qgb t bt W 0 (q.map Hb.b) (.returned (.tuple #[.slice A q.length c, .int .i64 0])) w :=
 ⟨A, c, q, by rw [List.length_map]; rfl, rfl, by rwa [List.length_map], by rwa [List.length_map]⟩
end
theorem qih (b : Bk) (hok : b.Ok) (A : Option Addr) (c B : Nat) (w : World) (hL : LaidX B w) (hB : B ≤ w.heap.size) (hr : Rd w w.heap.size 11 A b.evs.length (b.evs.flatMap evL)) (hn : b.evs.length ≤ 1000000) :
    Calls Tryd.prog 24 #[.agg (b.cells A c)] w (qa6 w b.err b.out) := by
 refine qg (vs := [.agg (b.cells A c)]) Tryd.func24 rfl rfl (by kernel_rfl) (σ0 := [(0, .agg (b.cells A c))]) rfl ?_
 intro a HF
 have HM := Mem.start w
 refine wp_seq (qa ?_)
 refine fo HF 0 rfl rfl ?_
 refine e_box HF HM (cs := (b.cells A c)) rfl rfl rfl rfl (by decide) ?_
 clear HF HM; intro a w1 g1 HF HM
 refine fp HF 2 1 [(3, vI 0), (2, .slice none 0 0)] fun a HF => ?_
 refine qb rfl (wp_seq (wp_seq (qa ?_)))
 refine fy HF HM 0 rfl rfl rfl (v := .agg (b.cells A c)) (Yl.zg rfl rfl si_bk rfl (fun _ h => qd (h.blk (i := 0) rfl))) fun a HF => ?_
 refine fo HF 1 rfl rfl ?_
 refine e_is HF HM [.agg (b.cells A c)] (.bool b.fits) rfl rfl (qd2 b hok A c B _ (hL.mem HM hB) (HM.le hB) (HM.old hr) hn) fun w8 hbw HM a HF => ?_
 refine fp HF 1 2 [(9, .bool (!b.fits))] fun a HF => ?_
 refine qb rfl ?_
 rcases HF.tf 9 rfl with ⟨hb9, HF⟩ | ⟨hb9, HF⟩
 ·
  have hfit : b.fits = false := by simpa using hb9
  refine qf HF rfl (wp_seq (qa ?_))
  refine fp HF 2 0 [(3, vI 107), (2, .slice none 0 0)] fun a HF => ?_
  refine qb rfl (wp_ret ?_)
  exact ret2 rfl HF (.tmp HF rfl) (.tmp HF rfl) (qvq (by unfold Bk.err; rw [if_pos hfit]) (by decide) HM.below)
 have hfit : b.fits = true := by simpa using hb9
 have hbl := qeh b
 refine qe HF rfl (wp_skip (wp_seq (qa ?_)))
 refine fy HF HM 0 rfl rfl rfl (v := .agg (b.cells A c)) (Yl.zg rfl rfl si_bk rfl (fun _ h => qd (h.blk (i := 0) rfl))) fun a HF => ?_
 refine fo HF 1 rfl rfl ?_
 refine e_cl HF [.agg (b.cells A c)] rfl rfl (qt8 b hok A c B _ (hL.mem HM hB) (HM.le hB) (HM.old hr) hn hfit) ?_
 rintro _ w11 ⟨⟨A11, c11, rfl, ho, hc11⟩, hbw⟩
 refine ⟨_, rfl, ?_⟩
 replace HM := HM.callRow hbw ho
 clear HF; intro a HF
 refine fp HF 1 2 [(4, .slice A11 ((b.body).length) c11)] fun a HF => ?_
 refine qb rfl (wp_seq (qa ?_))
 refine fp HF 1 0 [(12, .slice A11 ((b.body).length) c11)] fun a HF => ?_
 refine fy HF HM 1 rfl rfl rfl (Yl.len rfl rfl (by kernel_rfl)) fun a HF => ?_
 refine fp HF 1 2 [(14, vI (IntKind.i64.wrap (8 + (((b.body).length : Nat) : Int))))] fun a HF => ?_
 replace HF := HF.sp 14 (vI (8 + ((b.body).length) : Nat)) rfl (qi (by omega) (by omega))
 refine fp HF 1 3 [(15, vI (IntKind.i64.wrap (((8 + ((b.body).length) : Nat) : Int) + 4)))] fun a HF => ?_
 replace HF := HF.sp 15 (vI (8 + ((b.body).length) + 4 : Nat)) rfl (qi (by omega) (by omega))
 refine fp HF 1 4 [(5, vI (8 + ((b.body).length) + 4 : Nat))] fun a HF => ?_
 refine qb rfl (wp_seq (wp_seq (qa ?_)))
 refine fp HF 2 0 [(17, .bool (decide (((8 + ((b.body).length) + 4 : Nat) : Int) > (4096 : Int))))] fun a HF => ?_
 refine qb rfl ?_
 rcases HF.tf 17 rfl with ⟨hb17, HF⟩ | ⟨hb17, HF⟩
 ·
  have hd17 := of_decide_eq_true hb17
  refine qf HF rfl (wp_seq (qa ?_))
  refine fp HF 2 0 [(3, vI 3), (2, .slice none 0 0)] fun a HF => ?_
  refine qb rfl (wp_ret ?_)
  exact ret2 rfl HF (.tmp HF rfl) (.tmp HF rfl) (qvq (by unfold Bk.err; rw [if_neg (by simp [hfit]), if_pos (by omega)]) (by decide) HM.below)
 have hd17 := of_decide_eq_false hb17
 refine qe HF rfl (wp_skip (wp_seq (qa ?_)))
 refine fp HF 2 0 [(19, vB (IntKind.u8.wrap ((8 + ((b.body).length) + 4 : Nat) : Int)))] fun a HF => ?_
 replace HF := HF.sp 19 (vB ((8 + ((b.body).length) + 4) % 256 : Nat)) rfl (qh8 (8 + ((b.body).length) + 4))
 refine fp HF 2 2 [(21, vI (Int.fdiv ((8 + ((b.body).length) + 4 : Nat) : Int) (2 ^ (min (8 : Int).toNat (IntKind.i64).bits))))] fun a HF => ?_
 replace HF := HF.sp 21 (vI ((8 + ((b.body).length) + 4) / 256 : Nat)) rfl (qd0 .i64 (8 + ((b.body).length) + 4) (j := 8) (q := 256) rfl rfl)
 refine fp HF 1 4 [(22, vB (IntKind.u8.wrap (((8 + ((b.body).length) + 4) / 256 : Nat) : Int)))] fun a HF => ?_
 replace HF := HF.sp 22 (vB (((8 + ((b.body).length) + 4) / 256) % 256 : Nat)) rfl (qh8 ((8 + ((b.body).length) + 4) / 256))
 refine fy HF HM 5 rfl rfl rfl (v := vP 0 0) (Yl.zz (ad := ⟨0, 0, none⟩) (m := 2) (y := 0) (sz := 1) rfl rfl rfl (by kernel_rfl) (by decide)) fun a HF => ?_
 refine fy HF HM 6 rfl rfl rfl (v := vB 113) (Yl.qh rfl rfl (by kernel_rfl) (fun _ h => (hL.mem h hB).magic0)) fun a HF => ?_
 refine fy HF HM 7 rfl rfl rfl (v := vP 0 1) (Yl.zz (ad := ⟨0, 0, none⟩) (m := 2) (y := 1) (sz := 1) rfl rfl rfl (by kernel_rfl) (by decide)) fun a HF => ?_
 refine fy HF HM 8 rfl rfl rfl (v := vB 116) (Yl.qh rfl rfl (by kernel_rfl) (fun _ h => (hL.mem h hB).magic1)) fun a HF => ?_
 refine fp HF 1 9 [(27, vP g1 0)] fun a HF => ?_
 refine fy HF HM 10 rfl rfl rfl (v := vB b.kind) (Yl.qh rfl rfl (by kernel_rfl) (fun _ h => h.cell (i := 1) rfl (rfl))) fun a HF => ?_
 refine fo HF 11 rfl rfl ?_
 refine qar HF HM (vs := [(0, vB ((8 + ((b.body).length) + 4) % 256 : Nat)), (1, vB (((8 + ((b.body).length) + 4) / 256) % 256 : Nat)), (2, vB 0), (3, vB 0), (4, vB 113), (5, vB 116), (6, vB 1), (7, vB b.kind)]) (cs := #[vB ((8 + ((b.body).length) + 4) % 256 : Nat), vB (((8 + ((b.body).length) + 4) / 256) % 256 : Nat), vB 0, vB 0, vB 113, vB 116, vB 1, vB b.kind]) rfl ei_u8 (by decide) rfl (by kernel_rfl) rfl (by decide) ?_
 clear HF HM; intro a w29 g29 HF HM
 refine fp HF 1 12 [(6, vS g29 8 8)] fun a HF => ?_
 refine qb rfl (wp_seq (qa ?_))
 refine fp HF 2 0 [(31, .slice A11 ((b.body).length) c11), (30, vS g29 8 8)] fun a HF => ?_
 refine fo HF 2 rfl rfl ?_
 replace HM := HM.blkRow (i := 0) (n := 8) (size := 1) rfl rfl (by decide)
 refine qac HF HM (i := 0) rfl ei_u8 rfl rfl rfl (news := (b.body.map B8)) (HM.rd (i := 1) rfl) (qf9 _) (by omega) (by omega) rfl (by decide) ?_
 clear HF HM; intro a w32 A32 c32 HF HM hc32
 rw [show ((#[vB ((8 + ((b.body).length) + 4) % 256 : Nat), vB (((8 + ((b.body).length) + 4) / 256) % 256 : Nat), vB 0, vB 0, vB 113, vB 116, vB 1, vB b.kind]).toList) ++ (b.body.map B8) = b.raw.map B8 from qrg (by omega)] at HM
 refine fo HF 3 rfl rfl ?_
 refine e_cl HF [.slice A32 (8 + (b.body).length) c32] rfl rfl (qt7 _ _ _ b.raw B _ (hL.mem HM hB) (HM.le hB) (HM.rd (i := 0) rfl) (qd3 b) (by omega) (qvp hok)) ?_
 rintro _ w33 ⟨⟨A33, c33, rfl, ho, hc33⟩, hbw⟩
 refine ⟨_, rfl, ?_⟩
 replace HM := HM.callRow hbw ho
 clear HF; intro a HF
 refine fp HF 4 4 [(3, vI 0), (2, .slice A33 ((sealL b.raw).length) c33)] fun a HF => ?_
 refine qb rfl (wp_ret ?_)
 replace HM := HM.picks (fs' := [.row (.slice A33 ((sealL b.raw).length) c33) ((sealL b.raw).length) ((sealL b.raw).map B8) 5 1, .row (.slice A11 ((b.body).length) c11) ((b.body).length) (b.body.map B8) 5 1, .blk g1 (b.cells A c) 41]) [0, 2, 3] (by decide) rfl
 have herr : b.err = 0 := by unfold Bk.err; rw [if_neg (by simp [hfit]), if_neg (by omega)]
 exact ret2 rfl HF (.tmp HF rfl) (.tmp HF rfl) ((by rw [herr, qie herr]; exact ⟨⟨_, _, rfl, HM.own (i := 0) rfl, hc33⟩, HM.below⟩))
theorem qox (b : Bk) (hok : b.Ok) (A : Option Addr) (c B : Nat) (w : World) (hL : LaidX B w) (hB : B ≤ w.heap.size) (hr : Rd w w.heap.size 11 A b.evs.length (b.evs.flatMap evL)) (hn : b.evs.length ≤ 1000000) :
    Calls Tryd.prog 13 #[.agg (b.cells A c)] w (Is w (.int .i64 (b.err : Int))) := by
 refine qg (vs := [.agg (b.cells A c)]) Tryd.func13 rfl rfl (by kernel_rfl) (σ0 := [(0, .agg (b.cells A c))]) rfl ?_
 intro a HF
 have HM := Mem.start w
 refine wp_seq (qa ?_)
 refine fo HF 0 rfl rfl ?_
 refine e_box HF HM (cs := (b.cells A c)) rfl rfl rfl rfl (by decide) ?_
 clear HF HM; intro a w1 g1 HF HM
 refine fp HF 1 1 [(2, vI 0)] fun a HF => ?_
 refine qb rfl (wp_seq (qa ?_))
 refine fy HF HM 0 rfl rfl rfl (v := .agg (b.cells A c)) (Yl.zg rfl rfl si_bk rfl (fun _ h => qd (h.blk (i := 0) rfl))) fun a HF => ?_
 refine fo HF 1 rfl rfl ?_
 refine e_cl HF [.agg (b.cells A c)] rfl rfl (qih b hok A c B _ (hL.mem HM hB) (HM.le hB) (HM.old hr) hn) ?_
 rintro _ w7 ⟨⟨A7, c7, rfl, ho, hc7⟩, hbw⟩
 refine ⟨_, rfl, ?_⟩
 replace HM := HM.callRow hbw ho
 clear HF; intro a HF
 refine fp HF 5 2 [(4, vI b.err)] fun a HF => ?_
 refine qb rfl (wp_seq (qa ?_))
 refine fp HF 2 0 [(2, vI b.err)] fun a HF => ?_
 refine qb rfl (wp_ret ?_)
 replace HM := HM.picks (fs' := []) [] (by decide) rfl
 exact ret1 rfl HF (.tmp HF rfl) (⟨rfl, HM.below⟩)
theorem qcr (W w : World) (gb gk : Nat) (A : Option Addr) (n c : Nat) (l : List Nat) (okb : Bool) (most : Nat) (fr : List Fact) (hl : ∀ b ∈ l, b < 256) (hln : n = l.length) (hn : n ≤ 1000000000) (hr0 : Rd W W.heap.size 1 A n (l.map B8)) (hc0 : n ≤ c) (hmost : most ≤ 281474976710657)
    (HM : Mem W w (.blk gb #[.slice A n c] 54 :: .blk gk #[.bool okb] 4 :: fr)) :
    Calls Tryd.prog 82 #[.int .i64 (most : Int), .pointer (some ⟨gb, 0, none⟩), .pointer (some ⟨gk, 0, none⟩)] w (qvr W gb gk l okb most fr) := by
 have hr : Rd W W.heap.size 1 A l.length (l.map B8) := hln ▸ hr0
 have hc : l.length ≤ c := hln ▸ hc0
 refine qg (vs := [vI most, vP gb 0, vP gk 0]) Tryd.func82 rfl rfl (by kernel_rfl) (σ0 := [(0, vI most), (1, vP gb 0), (2, vP gk 0)]) rfl ?_
 intro a HF
 refine wp_seq (qa ?_)
 refine fp HF 1 0 [(4, vI 0)] fun a HF => ?_
 refine qb rfl ?_
 have hvl := qcj l
 have hvb := qef l hl
 have htv := qc8 most l
 refine wp_seq (qa ?_)
 refine fy HF HM 0 rfl rfl rfl (Yl.qh rfl rfl (by kernel_rfl) (fun _ h => h.cell (i := 0) rfl rfl)) fun a HF => ?_
 refine fo HF 1 rfl rfl ?_
 refine e_cl HF [.slice A n c] rfl rfl (qm6 A n c l _ (hln ▸ HM.old hr) hl (by omega)) ?_
 rintro _ w10 ⟨rfl, hbw⟩
 refine ⟨_, rfl, ?_⟩
 replace HM := HM.call hbw
 clear HF; intro a HF
 refine fp HF 7 2 [(7, vI ((vread l).2.2)), (6, vI ((vread l).2.1)), (5, vQ ((vread l).1))] fun a HF => ?_
 refine qb rfl (wp_seq (qa ?_))
 refine fy HF HM 0 rfl rfl rfl (Yl.qh rfl rfl (by kernel_rfl) (fun _ h => h.cell (i := 1) rfl rfl)) fun a HF => ?_
 refine fp HF 1 1 [(15, .bool okb)] fun a HF => ?_
 rcases HF.tf 15 rfl with ⟨hb15, HF⟩ | ⟨hb15, HF⟩
 ·
  refine fp HF 4 2 [(19, .bool (((vread l).2.2 : Int) == (0 : Int)))] fun a HF => ?_
  rcases HF.tf 19 rfl with ⟨hb19, HF⟩ | ⟨hb19, HF⟩
  ·
   have hd19 := eq_of_beq hb19
   refine fp HF 3 6 [(22, vQ (IntKind.u64.wrap (most : Int))), (20, vQ ((vread l).1))] fun a HF => ?_
   replace HF := HF.sp 22 (vQ most) rfl (qaw rfl (by omega))
   refine fp HF 2 9 [(24, .bool (decide (((vread l).1 : Int) ≤ (most : Int))))] fun a HF => ?_
   refine fo HF 11 rfl rfl ?_
   refine qo HF HM (i := 1) rfl rfl rfl rfl (by kernel_rfl) rfl rfl (by simp) ?_
   clear HM; intro w2_11 HM
   refine qb rfl (wp_seq (qa ?_))
   refine fy HF HM 0 rfl rfl rfl (Yl.qh rfl rfl (by kernel_rfl) (fun _ h => h.cell (i := 0) rfl rfl)) fun a HF => ?_
   refine fp HF 1 1 [(26, vI ((vread l).2.1))] fun a HF => ?_
   refine fy HF HM 2 rfl rfl rfl (v := .slice (if c = (vread l).2.1 then A else A.map (·.add ((vread l).2.1 * 1))) (n - (vread l).2.1) (c - (vread l).2.1)) (Yl.sliceFrom ei_u8 (j := (vread l).2.1) rfl rfl rfl (by omega)) fun a HF => ?_
   refine fo HF 3 rfl rfl ?_
   refine qo HF HM (i := 0) rfl rfl rfl rfl (by kernel_rfl) rfl rfl (by simp) ?_
   clear HM; intro w3_3 HM
   refine qb rfl (wp_seq (qa ?_))
   refine fp HF 3 0 [(30, vQ (IntKind.u64.wrap (most : Int))), (28, vQ ((vread l).1))] fun a HF => ?_
   replace HF := HF.sp 30 (vQ most) rfl (qaw rfl (by omega))
   refine fy HF HM 3 rfl rfl rfl (v := vQ (if (most : Int) < ((vread l).1 : Int) then (most : Int) else ((vread l).1 : Int))) (Yl.min rfl rfl rfl) fun a HF => ?_
   replace HF := HF.sp 31 (vQ (tkVal most l)) rfl (by rw [qg8])
   refine fp HF 1 4 [(32, vI (IntKind.i64.wrap (tkVal most l : Int)))] fun a HF => ?_
   replace HF := HF.sp 32 (vI (tkVal most l : Nat)) rfl (qi rfl (by omega))
   refine fp HF 1 5 [(4, vI (tkVal most l : Nat))] fun a HF => ?_
   refine qb rfl (wp_ret ?_)
   replace HM := HM.picksT (fs' := (.blk gb #[.slice (if c = (vread l).2.1 then A else A.map (·.add ((vread l).2.1 * 1))) (n - (vread l).2.1) (c - (vread l).2.1)] 54 :: .blk gk #[.bool (decide (((vread l).1 : Int) ≤ (most : Int)))] 4 :: fr)) 2 [0, 1] (by decide) (by decide) rfl
   exact ret1 rfl HF (.tmp HF rfl) (qg9 hr hc (by rw [hb15, Bool.true_and]; unfold tkOk; rw [Bool.eq_iff_iff]; simp only [decide_eq_true_eq]; omega) hln HM)
  have hd19 := ne_of_beq_false hb19
  refine fp HF 5 6 [(24, .bool false)] fun a HF => ?_
  refine fo HF 11 rfl rfl ?_
  refine qo HF HM (i := 1) rfl rfl rfl rfl (by kernel_rfl) rfl rfl (by simp) ?_
  clear HM; intro w2_11 HM
  refine qb rfl (wp_seq (qa ?_))
  refine fy HF HM 0 rfl rfl rfl (Yl.qh rfl rfl (by kernel_rfl) (fun _ h => h.cell (i := 0) rfl rfl)) fun a HF => ?_
  refine fp HF 1 1 [(26, vI ((vread l).2.1))] fun a HF => ?_
  refine fy HF HM 2 rfl rfl rfl (v := .slice (if c = (vread l).2.1 then A else A.map (·.add ((vread l).2.1 * 1))) (n - (vread l).2.1) (c - (vread l).2.1)) (Yl.sliceFrom ei_u8 (j := (vread l).2.1) rfl rfl rfl (by omega)) fun a HF => ?_
  refine fo HF 3 rfl rfl ?_
  refine qo HF HM (i := 0) rfl rfl rfl rfl (by kernel_rfl) rfl rfl (by simp) ?_
  clear HM; intro w3_3 HM
  refine qb rfl (wp_seq (qa ?_))
  refine fp HF 3 0 [(30, vQ (IntKind.u64.wrap (most : Int))), (28, vQ ((vread l).1))] fun a HF => ?_
  replace HF := HF.sp 30 (vQ most) rfl (qaw rfl (by omega))
  refine fy HF HM 3 rfl rfl rfl (v := vQ (if (most : Int) < ((vread l).1 : Int) then (most : Int) else ((vread l).1 : Int))) (Yl.min rfl rfl rfl) fun a HF => ?_
  replace HF := HF.sp 31 (vQ (tkVal most l)) rfl (by rw [qg8])
  refine fp HF 1 4 [(32, vI (IntKind.i64.wrap (tkVal most l : Int)))] fun a HF => ?_
  replace HF := HF.sp 32 (vI (tkVal most l : Nat)) rfl (qi rfl (by omega))
  refine fp HF 1 5 [(4, vI (tkVal most l : Nat))] fun a HF => ?_
  refine qb rfl (wp_ret ?_)
  replace HM := HM.picksT (fs' := (.blk gb #[.slice (if c = (vread l).2.1 then A else A.map (·.add ((vread l).2.1 * 1))) (n - (vread l).2.1) (c - (vread l).2.1)] 54 :: .blk gk #[.bool false] 4 :: fr)) 2 [0, 1] (by decide) (by decide) rfl
  exact ret1 rfl HF (.tmp HF rfl) (qg9 hr hc (by rw [qow (by omega), Bool.and_false]) hln HM)
 refine fp HF 9 2 [(24, .bool false)] fun a HF => ?_
 refine fo HF 11 rfl rfl ?_
 refine qo HF HM (i := 1) rfl rfl rfl rfl (by kernel_rfl) rfl rfl (by simp) ?_
 clear HM; intro w2_11 HM
 refine qb rfl (wp_seq (qa ?_))
 refine fy HF HM 0 rfl rfl rfl (Yl.qh rfl rfl (by kernel_rfl) (fun _ h => h.cell (i := 0) rfl rfl)) fun a HF => ?_
 refine fp HF 1 1 [(26, vI ((vread l).2.1))] fun a HF => ?_
 refine fy HF HM 2 rfl rfl rfl (v := .slice (if c = (vread l).2.1 then A else A.map (·.add ((vread l).2.1 * 1))) (n - (vread l).2.1) (c - (vread l).2.1)) (Yl.sliceFrom ei_u8 (j := (vread l).2.1) rfl rfl rfl (by omega)) fun a HF => ?_
 refine fo HF 3 rfl rfl ?_
 refine qo HF HM (i := 0) rfl rfl rfl rfl (by kernel_rfl) rfl rfl (by simp) ?_
 clear HM; intro w3_3 HM
 refine qb rfl (wp_seq (qa ?_))
 refine fp HF 3 0 [(30, vQ (IntKind.u64.wrap (most : Int))), (28, vQ ((vread l).1))] fun a HF => ?_
 replace HF := HF.sp 30 (vQ most) rfl (qaw rfl (by omega))
 refine fy HF HM 3 rfl rfl rfl (v := vQ (if (most : Int) < ((vread l).1 : Int) then (most : Int) else ((vread l).1 : Int))) (Yl.min rfl rfl rfl) fun a HF => ?_
 replace HF := HF.sp 31 (vQ (tkVal most l)) rfl (by rw [qg8])
 refine fp HF 1 4 [(32, vI (IntKind.i64.wrap (tkVal most l : Int)))] fun a HF => ?_
 replace HF := HF.sp 32 (vI (tkVal most l : Nat)) rfl (qi rfl (by omega))
 refine fp HF 1 5 [(4, vI (tkVal most l : Nat))] fun a HF => ?_
 refine qb rfl (wp_ret ?_)
 replace HM := HM.picksT (fs' := (.blk gb #[.slice (if c = (vread l).2.1 then A else A.map (·.add ((vread l).2.1 * 1))) (n - (vread l).2.1) (c - (vread l).2.1)] 54 :: .blk gk #[.bool false] 4 :: fr)) 2 [0, 1] (by decide) (by decide) rfl
 exact ret1 rfl HF (.tmp HF rfl) (qg9 hr hc (by rw [hb15, Bool.false_and]) hln HM)
theorem qjg {l : List Nat} {es : List Ev} {L er : Nat} (h3 : qcc l = true) (h0 : 0 < tkVal 4096 (qc (qc l)))
  (hq : readR ⟨(tkVal 281474976710656 (qc (qc (qc l))) : Int), (tkVal 281474976710656 (qc (qc (qc (qc l)))) : Int)⟩ (tkVal 63 l) (tkVal 4096 (qc (qc l)) : Int) (qc (qc (qc (qc (qc l))))) = (es, L, er)) (her : er = 0) :
  zc l = zx (tkVal 63 l) (tkVal 281474976710656 (qc l)) (qc (qc (qc l))) (es, L, 0) := by
 rw [qe7 h3 h0 hq, her]
theorem qbo (k : Nat) (hk : k = 1 ∨ k = 2) (A : Option Addr) (n c : Nat) (l : List Nat) (B : Nat) (w : World) (hL : LaidX B w) (hB : B ≤ w.heap.size) (hr : Rd w w.heap.size 1 A n (l.map B8)) (hc : n ≤ c) (hln : n = l.length) (hn : n ≤ 100000000) (hl : ∀ b ∈ l, b < 256) :
    Calls Tryd.prog 69 #[.int .u8 (k : Int), .slice A n c] w (qei w (qdc k l)) := by
 refine qg (vs := [vB k, .slice A n c]) Tryd.func69 rfl rfl (by kernel_rfl) (σ0 := [(0, vB k), (1, .slice A n c)]) rfl ?_
 intro a HF
 have HM := Mem.start w
 refine wp_seq (qa ?_)
 refine fo HF 0 rfl rfl ?_
 refine e_box HF HM (cs := #[.slice A n c]) rfl rfl rfl rfl (by decide) ?_
 clear HF HM; intro a w3 g3 HF HM
 refine fo HF 1 rfl rfl ?_
 refine qr HF HM (cs := #[vB 0, vB 0, vI 0, vI 0, .slice none 0 0]) rfl (by kernel_rfl) rfl (by decide) ?_
 clear HF HM; intro a w4 g4 HF HM
 refine fp HF 1 2 [(5, .bool false)] fun a HF => ?_
 refine qb rfl (wp_seq (qa ?_))
 refine fo HF 0 rfl rfl ?_
 refine qr HF HM (cs := #[.bool false]) rfl (by kernel_rfl) rfl (by decide) ?_
 clear HF HM; intro a w6 g6 HF HM
 refine fo HF 1 rfl rfl ?_
 refine qo HF HM (i := 0) rfl rfl rfl rfl (by kernel_rfl) rfl rfl (by simp) ?_
 clear HM; intro w1_1 HM
 refine qb rfl (wp_seq (qa ?_))
 refine fy HF HM 0 rfl rfl rfl (v := .func (.func 82) #[] #[vP g3 0, vP g6 0]) (Yl.makeFunc (fst := []) (caps := [vP g3 0, vP g6 0]) rfl rfl rfl) fun a HF => ?_
 refine fp HF 1 1 [(7, .func (.func 82) #[] #[vP g3 0, vP g6 0])] fun a HF => ?_
 refine qb rfl (wp_seq (qa ?_))
 refine fp HF 1 0 [(15, vB k)] fun a HF => ?_
 refine fy HF HM 1 rfl rfl rfl (v := .agg #[vB k, vB 0, vI 0, vI 0, .slice none 0 0]) (Yl.build (vs := [(0, vB k)]) rfl (by kernel_rfl) (by kernel_rfl)) fun a HF => ?_
 refine fo HF 2 rfl rfl ?_
 refine qr HF HM (cs := #[vB 0, vB 0, vI 0, vI 0, .slice none 0 0]) rfl (by kernel_rfl) rfl (by decide) ?_
 clear HF HM; intro a w8 g8 HF HM
 refine fo HF 3 rfl rfl ?_
 refine e_sa HF HM 0 rfl rfl rfl rfl rfl si_bk rfl rfl (by simp [Value.oneCell']) ?_
 clear HM; intro w3_3 HM
 refine qb rfl (wp_seq (wp_seq (qa ?_)))
 refine fp HF 2 0 [(18, .bool ((k : Int) == (2 : Int)))] fun a HF => ?_
 refine qb rfl ?_
 rcases HF.tf 18 rfl with ⟨hb18, HF⟩ | ⟨hb18, HF⟩
 ·
  have hd18 := eq_of_beq hb18
  obtain rfl : k = 2 := by omega
  refine qf HF rfl (wp_seq (qa ?_))
  refine fp HF 1 0 [(19, .func (.func 82) #[] #[vP g3 0, vP g6 0])] fun a HF => ?_
  refine fo HF 1 rfl rfl ?_
  replace HM := HM.picks (fs' := [.blk g3 #[.slice A n c] 54, .blk g6 #[.bool true] 4, .blk g8 #[vB (2 : Nat), vB 0, vI 0, vI 0, .slice none 0 0] 41, .blk g4 #[vB 0, vB 0, vI 0, vI 0, .slice none 0 0] 41]) [3, 1, 0, 2] (by decide) rfl
  have hl1 := zo hl
  refine qcf HF (f := 82) (vs := [vI 281474976710657]) (fst := []) (caps := [vP g3 0, vP g6 0]) rfl rfl rfl (by kernel_rfl) rfl (by decide) (qcr w _ g3 g6 A n c l true 281474976710657 [.blk g8 #[vB (2 : Nat), vB 0, vI 0, vI 0, .slice none 0 0] 41, .blk g4 #[vB 0, vB 0, vI 0, vI 0, .slice none 0 0] 41] hl hln (by omega) hr hc (by omega) HM) ?_
  rintro _ w20 ⟨rfl, Aq1, cq1, hr1, hc1, hm⟩
  refine ⟨_, rfl, ?_⟩
  replace HM := hm
  clear HF; intro a HF
  have ht0 := qc8 281474976710657 l
  have hs0 := qcq l
  refine fp HF 1 2 [(21, vP g8 3)] fun a HF => ?_
  refine fo HF 3 rfl rfl ?_
  refine qo HF HM (i := 2) rfl rfl rfl rfl (by kernel_rfl) rfl rfl (by simp) ?_
  clear HM; intro w5_3 HM
  refine qb rfl ?_
  refine qbt (fun aS wS => Fr aS 99 [] [(5, .bool ((qaq l).isSome)), (18, .bool true), (8, vP g8 0), (7, .func (.func 82) #[] #[vP g3 0, vP g6 0]), (6, vP g6 0), (4, vP g4 0), (3, vP g3 0), (0, vB (2 : Nat))] ∧ Mem w wS [.blk g3 #[.slice Aq1 ((qc l).length) cq1] 54, .blk g6 #[.bool (true && tkOk 281474976710657 l)] 4, .blk g8 #[vB (2 : Nat), vB 0, vI 0, vI (tkVal 281474976710657 l), .slice none 0 0] 41, .blk g4 #[vB (2 : Nat), vB 0, vI 0, vI (tkVal 281474976710657 l), .slice none 0 0] 41]) ?_ ?_
  ·
   refine qaf HM [.blk g3 #[.slice Aq1 ((qc l).length) cq1] 54, .blk g6 #[.bool (true && tkOk 281474976710657 l)] 4, .blk g8 #[vB (2 : Nat), vB 0, vI 0, vI (tkVal 281474976710657 l), .slice none 0 0] 41] [0, 1, 2] [] fun HM HS => ?_
   refine ay HF HS 0 rfl rfl rfl (v := .agg #[vB (2 : Nat), vB 0, vI 0, vI (tkVal 281474976710657 l), .slice none 0 0]) (Yl.zg rfl rfl si_bk rfl (fun _ h => qd (h.blk (i := 2) rfl))) fun a HF => ?_
   refine ay HF HS 1 rfl rfl rfl (Yl.qh rfl rfl (by kernel_rfl) (fun _ h => h.cell (i := 1) rfl rfl)) fun a HF => ?_
   refine ap HF (fun _ => HS) [2] #[true, true, true, false, false, false, false, false, false, false, false, false, false] [(24, .bool (true && tkOk 281474976710657 l))] fun a HF => ?_
   rcases HF.tf 24 rfl with ⟨hb24, HF⟩ | ⟨hb24, HF⟩
   ·
    refine ay HF HS 3 rfl rfl rfl (Yl.qh rfl rfl (by kernel_rfl) (fun _ h => h.cell (i := 0) rfl rfl)) fun a HF => ?_
    refine ay HF HS 4 rfl rfl rfl (Yl.len rfl rfl (by kernel_rfl)) fun a HF => ?_
    refine ap HF (fun _ => HS) [5, 6, 7] #[true, true, true, true, true, true, true, true, false, false, false, false, false] [(29, .bool ((((qc l).length : Nat) : Int) == (0 : Int)))] fun a HF => ?_
    rcases HF.tf 29 rfl with ⟨hb29, HF⟩ | ⟨hb29, HF⟩
    ·
     have hd29 := eq_of_beq hb29
     refine ay HF HS 8 rfl rfl rfl (v := .agg #[vB (2 : Nat), vB 0, vI 0, vI (tkVal 281474976710657 l), .slice none 0 0]) (Yl.zg rfl rfl si_bk rfl (fun _ h => qd (h.blk (i := 2) rfl))) fun a HF => ?_
     refine qj [9] (by kernel_rfl) rfl ?_
     refine all_cons ?_ all_nil
     refine qm HF (i := 9) rfl rfl ?_
     refine e_is HF HM [.agg #[vB (2 : Nat), vB 0, vI 0, vI (tkVal 281474976710657 l), .slice none 0 0]] (.bool (Bk.fits ⟨2, 0, 0, (tkVal 281474976710657 l : Int), []⟩)) rfl rfl (qd2 ⟨2, 0, 0, (tkVal 281474976710657 l : Int), []⟩ (endOk ht0) none 0 B _ (hL.mem HM hB) (HM.le hB) Rd.nil (by show 0 ≤ _; omega)) fun w31 hbw HM a HF => ?_
     refine keepS (HM.picks [0, 1, 2] (by decide) rfl) (fun HS => ?_)
     refine ap HF (fun _ => HS) [10] #[true, true, true, true, true, true, true, true, true, true, true, false, false] [(32, .bool (Bk.fits ⟨2, 0, 0, (tkVal 281474976710657 l : Int), []⟩))] fun a HF => ?_
     refine qj [11] (by kernel_rfl) rfl ?_
     refine all_cons ?_ all_nil
     refine qm HF (i := 11) rfl rfl ?_
     refine e_sa HF HM 3 rfl rfl rfl rfl rfl si_bk rfl rfl (by simp [Value.oneCell']) ?_
     clear HM; intro w6_11 HM
     refine keepS (HM.picks [0, 1, 2] (by decide) rfl) (fun HS => ?_)
     refine ap HF (fun _ => HS) [12] #[true, true, true, true, true, true, true, true, true, true, true, true, true] [(5, .bool (Bk.fits ⟨2, 0, 0, (tkVal 281474976710657 l : Int), []⟩))] fun a HF => ?_
     refine qn (by kernel_rfl) ?_
     have HF := HF.as (t := 5) (u := .bool ((qaq l).isSome)) rfl (congrArg Value.bool (by rw [qej, show tkOk 281474976710657 l = true by simpa using hb24, decide_eq_true (by omega), Bool.true_and, Bool.true_and]))
     exact ⟨HF.sub (by kernel_rfl), HM.picks [0, 1, 2, 3] (by decide) rfl⟩
    have hd29 := ne_of_beq_false hb29
    refine ap HF (fun _ => HS) [8, 9, 10] #[true, true, true, true, true, true, true, true, true, true, true, false, false] [(32, .bool false)] fun a HF => ?_
    refine qj [11] (by kernel_rfl) rfl ?_
    refine all_cons ?_ all_nil
    refine qm HF (i := 11) rfl rfl ?_
    refine e_sa HF HM 3 rfl rfl rfl rfl rfl si_bk rfl rfl (by simp [Value.oneCell']) ?_
    clear HM; intro w6_11 HM
    refine keepS (HM.picks [0, 1, 2] (by decide) rfl) (fun HS => ?_)
    refine ap HF (fun _ => HS) [12] #[true, true, true, true, true, true, true, true, true, true, true, true, true] [(5, .bool false)] fun a HF => ?_
    refine qn (by kernel_rfl) ?_
    have HF := HF.as (t := 5) (u := .bool ((qaq l).isSome)) rfl (congrArg Value.bool (by rw [qej, decide_eq_false (by omega), Bool.false_and, Bool.and_false]))
    exact ⟨HF.sub (by kernel_rfl), HM.picks [0, 1, 2, 3] (by decide) rfl⟩
   refine ap HF (fun _ => HS) [3, 4, 5, 6, 7, 8, 9, 10] #[true, true, true, true, true, true, true, true, true, true, true, false, false] [(32, .bool false)] fun a HF => ?_
   refine qj [11] (by kernel_rfl) rfl ?_
   refine all_cons ?_ all_nil
   refine qm HF (i := 11) rfl rfl ?_
   refine e_sa HF HM 3 rfl rfl rfl rfl rfl si_bk rfl rfl (by simp [Value.oneCell']) ?_
   clear HM; intro w6_11 HM
   refine keepS (HM.picks [0, 1, 2] (by decide) rfl) (fun HS => ?_)
   refine ap HF (fun _ => HS) [12] #[true, true, true, true, true, true, true, true, true, true, true, true, true] [(5, .bool false)] fun a HF => ?_
   refine qn (by kernel_rfl) ?_
   have HF := HF.as (t := 5) (u := .bool ((qaq l).isSome)) rfl (congrArg Value.bool (by rw [qej, show tkOk 281474976710657 l = false by simpa using hb24]; rfl))
   exact ⟨HF.sub (by kernel_rfl), HM.picks [0, 1, 2, 3] (by decide) rfl⟩
  clear HF HM; rintro a w6 ⟨HF, HM⟩
  refine wp_ret ?_
  rcases HF.tf 5 rfl with ⟨hb5, HF⟩ | ⟨hb5, HF⟩
  ·
   have hfin := hb5
   exact ret2 rfl HF (.cellS (i := 3) HF HM rfl rfl si_bk rfl) (.tmp HF rfl) (qcd (b := ⟨2, 0, 0, (tkVal 281474976710657 l : Int), []⟩) (A := none) (c := 0) (by rw [qif]; exact qky hfin) (World.ownsRow_nil _ _ _ _) (Nat.le_refl _) HM.below)
  have hfin := hb5
  exact ret2 rfl HF (.cellS (i := 3) HF HM rfl rfl si_bk rfl) (.tmp HF rfl) (qbn (by rw [qif]; exact Option.not_isSome_iff_eq_none.1 (by rw [hfin]; decide)) rfl (by simp [Value.oneCell']) HM.below)
 have hd18 := ne_of_beq_false hb18
 obtain rfl : k = 1 := by omega
 refine qe HF rfl (wp_skip (wp_seq (qa ?_)))
 refine fp HF 1 0 [(33, .func (.func 82) #[] #[vP g3 0, vP g6 0])] fun a HF => ?_
 refine fo HF 1 rfl rfl ?_
 replace HM := HM.picks (fs' := [.blk g3 #[.slice A n c] 54, .blk g6 #[.bool true] 4, .blk g8 #[vB (1 : Nat), vB 0, vI 0, vI 0, .slice none 0 0] 41, .blk g4 #[vB 0, vB 0, vI 0, vI 0, .slice none 0 0] 41]) [3, 1, 0, 2] (by decide) rfl
 have hl1 := zo hl
 refine qcf HF (f := 82) (vs := [vI 63]) (fst := []) (caps := [vP g3 0, vP g6 0]) rfl rfl rfl (by kernel_rfl) rfl (by decide) (qcr w _ g3 g6 A n c l true 63 [.blk g8 #[vB (1 : Nat), vB 0, vI 0, vI 0, .slice none 0 0] 41, .blk g4 #[vB 0, vB 0, vI 0, vI 0, .slice none 0 0] 41] hl hln (by omega) hr hc (by omega) HM) ?_
 rintro _ w34 ⟨rfl, Aq1, cq1, hr1, hc1, hm⟩
 refine ⟨_, rfl, ?_⟩
 replace HM := hm
 clear HF; intro a HF
 have ht0 := qc8 63 l
 have hs0 := qcq l
 refine fp HF 1 2 [(35, vB (IntKind.u8.wrap (tkVal 63 l : Int)))] fun a HF => ?_
 replace HF := HF.sp 35 (vB (tkVal 63 l)) rfl (qvj rfl (by omega))
 refine fp HF 1 3 [(36, .func (.func 82) #[] #[vP g3 0, vP g6 0])] fun a HF => ?_
 refine fo HF 4 rfl rfl ?_
 replace HM := HM.picks (fs' := [.blk g3 #[.slice Aq1 ((qc l).length) cq1] 54, .blk g6 #[.bool (true && tkOk 63 l)] 4, .blk g8 #[vB (1 : Nat), vB 0, vI 0, vI 0, .slice none 0 0] 41, .blk g4 #[vB 0, vB 0, vI 0, vI 0, .slice none 0 0] 41]) [0, 1, 2, 3] (by decide) rfl
 have hl2 := zo hl1
 refine qcf HF (f := 82) (vs := [vI 281474976710656]) (fst := []) (caps := [vP g3 0, vP g6 0]) rfl rfl rfl (by kernel_rfl) rfl (by decide) (qcr w _ g3 g6 Aq1 ((qc l).length) cq1 (qc l) (true && tkOk 63 l) 281474976710656 [.blk g8 #[vB (1 : Nat), vB 0, vI 0, vI 0, .slice none 0 0] 41, .blk g4 #[vB 0, vB 0, vI 0, vI 0, .slice none 0 0] 41] hl1 rfl (by omega) hr1 hc1 (by omega) HM) ?_
 rintro _ w37 ⟨rfl, Aq2, cq2, hr2, hc2, hm⟩
 refine ⟨_, rfl, ?_⟩
 replace HM := hm
 clear HF; intro a HF
 have ht1 := qc8 281474976710656 (qc l)
 have hs1 := qcq (qc l)
 refine fp HF 1 5 [(38, vP g8 1)] fun a HF => ?_
 refine fo HF 6 rfl rfl ?_
 refine qo HF HM (i := 2) rfl rfl rfl rfl (by kernel_rfl) rfl rfl (by simp) ?_
 clear HM; intro w7_6 HM
 refine fp HF 1 7 [(39, vP g8 2)] fun a HF => ?_
 refine fo HF 8 rfl rfl ?_
 refine qo HF HM (i := 2) rfl rfl rfl rfl (by kernel_rfl) rfl rfl (by simp) ?_
 clear HM; intro w7_8 HM
 refine qb rfl (wp_seq (qa ?_))
 refine fp HF 1 0 [(40, .func (.func 82) #[] #[vP g3 0, vP g6 0])] fun a HF => ?_
 refine fo HF 1 rfl rfl ?_
 replace HM := HM.picks (fs' := [.blk g3 #[.slice Aq2 ((qc (qc l)).length) cq2] 54, .blk g6 #[.bool ((true && tkOk 63 l) && tkOk 281474976710656 (qc l))] 4, .blk g8 #[vB (1 : Nat), vB (tkVal 63 l), vI (tkVal 281474976710656 (qc l)), vI 0, .slice none 0 0] 41, .blk g4 #[vB 0, vB 0, vI 0, vI 0, .slice none 0 0] 41]) [0, 1, 2, 3] (by decide) rfl
 have hl3 := zo hl2
 refine qcf HF (f := 82) (vs := [vI 4096]) (fst := []) (caps := [vP g3 0, vP g6 0]) rfl rfl rfl (by kernel_rfl) rfl (by decide) (qcr w _ g3 g6 Aq2 ((qc (qc l)).length) cq2 (qc (qc l)) ((true && tkOk 63 l) && tkOk 281474976710656 (qc l)) 4096 [.blk g8 #[vB (1 : Nat), vB (tkVal 63 l), vI (tkVal 281474976710656 (qc l)), vI 0, .slice none 0 0] 41, .blk g4 #[vB 0, vB 0, vI 0, vI 0, .slice none 0 0] 41] hl2 rfl (by omega) hr2 hc2 (by omega) HM) ?_
 rintro _ w41 ⟨rfl, Aq3, cq3, hr3, hc3, hm⟩
 refine ⟨_, rfl, ?_⟩
 replace HM := hm
 clear HF; intro a HF
 have ht2 := qc8 4096 (qc (qc l))
 have hs2 := qcq (qc (qc l))
 refine fp HF 1 2 [(9, vI (tkVal 4096 (qc (qc l))))] fun a HF => ?_
 refine qb rfl (wp_seq (wp_seq (qa ?_)))
 refine fy HF HM 0 rfl rfl rfl (Yl.qh rfl rfl (by kernel_rfl) (fun _ h => h.cell (i := 1) rfl rfl)) fun a HF => ?_
 refine fp HF 1 1 [(43, .bool (((true && tkOk 63 l) && tkOk 281474976710656 (qc l)) && tkOk 4096 (qc (qc l))))] fun a HF => ?_
 rcases HF.tf 43 rfl with ⟨hb43, HF⟩ | ⟨hb43, HF⟩
 ·
  have h3 : qcc l = true := by rw [← tk3]; exact hb43
  refine fp HF 3 2 [(46, .bool (decide ((tkVal 4096 (qc (qc l)) : Int) > (0 : Int))))] fun a HF => ?_
  refine qb rfl ?_
  rcases HF.tf 46 rfl with ⟨hb46, HF⟩ | ⟨hb46, HF⟩
  ·
   have hd46 := of_decide_eq_true hb46
   refine qf HF rfl (wp_seq (qa ?_))
   refine fp HF 1 0 [(47, .func (.func 82) #[] #[vP g3 0, vP g6 0])] fun a HF => ?_
   refine fo HF 1 rfl rfl ?_
   replace HM := HM.picks (fs' := [.blk g3 #[.slice Aq3 ((qc (qc (qc l))).length) cq3] 54, .blk g6 #[.bool (((true && tkOk 63 l) && tkOk 281474976710656 (qc l)) && tkOk 4096 (qc (qc l)))] 4, .blk g8 #[vB (1 : Nat), vB (tkVal 63 l), vI (tkVal 281474976710656 (qc l)), vI 0, .slice none 0 0] 41, .blk g4 #[vB 0, vB 0, vI 0, vI 0, .slice none 0 0] 41]) [0, 1, 2, 3] (by decide) rfl
   have hl4 := zo hl3
   refine qcf HF (f := 82) (vs := [vI 281474976710656]) (fst := []) (caps := [vP g3 0, vP g6 0]) rfl rfl rfl (by kernel_rfl) rfl (by decide) (qcr w _ g3 g6 Aq3 ((qc (qc (qc l))).length) cq3 (qc (qc (qc l))) (((true && tkOk 63 l) && tkOk 281474976710656 (qc l)) && tkOk 4096 (qc (qc l))) 281474976710656 [.blk g8 #[vB (1 : Nat), vB (tkVal 63 l), vI (tkVal 281474976710656 (qc l)), vI 0, .slice none 0 0] 41, .blk g4 #[vB 0, vB 0, vI 0, vI 0, .slice none 0 0] 41] hl3 rfl (by omega) hr3 hc3 (by omega) HM) ?_
   rintro _ w48 ⟨rfl, Aq4, cq4, hr4, hc4, hm⟩
   refine ⟨_, rfl, ?_⟩
   replace HM := hm
   clear HF; intro a HF
   have ht3 := qc8 281474976710656 (qc (qc (qc l)))
   have hs3 := qcq (qc (qc (qc l)))
   refine fp HF 1 2 [(49, .func (.func 82) #[] #[vP g3 0, vP g6 0])] fun a HF => ?_
   refine fo HF 3 rfl rfl ?_
   replace HM := HM.picks (fs' := [.blk g3 #[.slice Aq4 ((qc (qc (qc (qc l)))).length) cq4] 54, .blk g6 #[.bool ((((true && tkOk 63 l) && tkOk 281474976710656 (qc l)) && tkOk 4096 (qc (qc l))) && tkOk 281474976710656 (qc (qc (qc l))))] 4, .blk g8 #[vB (1 : Nat), vB (tkVal 63 l), vI (tkVal 281474976710656 (qc l)), vI 0, .slice none 0 0] 41, .blk g4 #[vB 0, vB 0, vI 0, vI 0, .slice none 0 0] 41]) [0, 1, 2, 3] (by decide) rfl
   have hl5 := zo hl4
   refine qcf HF (f := 82) (vs := [vI 281474976710656]) (fst := []) (caps := [vP g3 0, vP g6 0]) rfl rfl rfl (by kernel_rfl) rfl (by decide) (qcr w _ g3 g6 Aq4 ((qc (qc (qc (qc l)))).length) cq4 (qc (qc (qc (qc l)))) ((((true && tkOk 63 l) && tkOk 281474976710656 (qc l)) && tkOk 4096 (qc (qc l))) && tkOk 281474976710656 (qc (qc (qc l)))) 281474976710656 [.blk g8 #[vB (1 : Nat), vB (tkVal 63 l), vI (tkVal 281474976710656 (qc l)), vI 0, .slice none 0 0] 41, .blk g4 #[vB 0, vB 0, vI 0, vI 0, .slice none 0 0] 41] hl4 rfl (by omega) hr4 hc4 (by omega) HM) ?_
   rintro _ w50 ⟨rfl, Aq5, cq5, hr5, hc5, hm⟩
   refine ⟨_, rfl, ?_⟩
   replace HM := hm
   clear HF; intro a HF
   have ht4 := qc8 281474976710656 (qc (qc (qc (qc l))))
   have hs4 := qcq (qc (qc (qc (qc l))))
   refine fy HF HM 4 rfl rfl rfl (v := .agg #[vI (tkVal 281474976710656 (qc (qc (qc l)))), vI (tkVal 281474976710656 (qc (qc (qc (qc l)))))]) (Yl.build (vs := [(0, vI (tkVal 281474976710656 (qc (qc (qc l))))), (1, vI (tkVal 281474976710656 (qc (qc (qc (qc l))))))]) rfl (by kernel_rfl) (by kernel_rfl)) fun a HF => ?_
   refine fo HF 5 rfl rfl ?_
   refine qr HF HM (cs := #[vI 0, vI 0]) rfl (by kernel_rfl) rfl (by decide) ?_
   clear HF HM; intro a w10 g10 HF HM
   refine fo HF 6 rfl rfl ?_
   refine e_sa HF HM 0 rfl rfl rfl rfl rfl ⟨(by kernel_rfl), (by kernel_rfl)⟩ rfl rfl (by simp [Value.oneCell']) ?_
   clear HM; intro w10_6 HM
   refine qb rfl ?_
   obtain ⟨es, L, er, hq⟩ : ∃ es L er, readR ⟨(tkVal 281474976710656 (qc (qc (qc l))) : Int), (tkVal 281474976710656 (qc (qc (qc (qc l)))) : Int)⟩ (tkVal 63 l) (tkVal 4096 (qc (qc l)) : Int) (qc (qc (qc (qc (qc l))))) = (es, L, er) := ⟨_, _, _, rfl⟩
   refine wp_seq (qa ?_)
   refine fy HF HM 0 rfl rfl rfl (v := .agg #[vI (tkVal 281474976710656 (qc (qc (qc l)))), vI (tkVal 281474976710656 (qc (qc (qc (qc l)))))]) (Yl.zg rfl rfl ⟨(by kernel_rfl), (by kernel_rfl)⟩ rfl (fun _ h => qd (h.blk (i := 0) rfl))) fun a HF => ?_
   refine fp HF 1 1 [(54, vP g8 1)] fun a HF => ?_
   refine fy HF HM 2 rfl rfl rfl (Yl.qh rfl rfl (by kernel_rfl) (fun _ h => h.cell (i := 3) rfl rfl)) fun a HF => ?_
   refine fp HF 1 3 [(56, vI (tkVal 4096 (qc (qc l))))] fun a HF => ?_
   refine fy HF HM 4 rfl rfl rfl (Yl.qh rfl rfl (by kernel_rfl) (fun _ h => h.cell (i := 1) rfl rfl)) fun a HF => ?_
   refine fo HF 5 rfl rfl ?_
   refine e_cl HF [.agg #[vI (tkVal 281474976710656 (qc (qc (qc l)))), vI (tkVal 281474976710656 (qc (qc (qc (qc l)))))], vB (tkVal 63 l), vI (tkVal 4096 (qc (qc l))), .slice Aq5 ((qc (qc (qc (qc (qc l))))).length) cq5] rfl rfl (qwo ⟨(tkVal 281474976710656 (qc (qc (qc l))) : Int), (tkVal 281474976710656 (qc (qc (qc (qc l)))) : Int)⟩ (tkVal 63 l) (by omega) Aq5 ((qc (qc (qc (qc (qc l))))).length) cq5 (tkVal 4096 (qc (qc l)) : Int) (by unfold I64; omega) (qc (qc (qc (qc (qc l))))) B _ (hL.mem HM hB).laid (HM.le hB) (HM.old hr5) hc5 hl5 (by omega) (.inl (by omega)) hq) ?_
   rintro _ w58 ⟨⟨A58, c58, rfl, ho, hc58⟩, hbw⟩
   refine ⟨_, rfl, ?_⟩
   replace HM := HM.callRow hbw ho
   clear HF; intro a HF
   refine fp HF 7 6 [(13, vI er), (12, vI L), (11, .slice A58 es.length c58)] fun a HF => ?_
   refine qb rfl (wp_seq ?_)
   refine qbt (fun aS wS => Fr aS 99 [] [(81, .bool (!(decide (er = 0 ∧ (es.getD 0 Ev.zero).seq = (tkVal 281474976710656 (qc (qc (qc l))) : Int) ∧ (es.getD 0 Ev.zero).time = (tkVal 281474976710656 (qc (qc (qc (qc l)))) : Int))))), (12, vI L), (11, .slice A58 es.length c58), (10, vP g10 0), (46, .bool true), (9, vI (tkVal 4096 (qc (qc l)))), (18, .bool false), (8, vP g8 0), (7, .func (.func 82) #[] #[vP g3 0, vP g6 0]), (6, vP g6 0), (5, .bool false), (4, vP g4 0), (3, vP g3 0), (0, vB (1 : Nat))] ∧ Mem w wS [.row (.slice A58 es.length c58) es.length (es.flatMap evL) 45 11, .blk g10 #[vI (tkVal 281474976710656 (qc (qc (qc l)))), vI (tkVal 281474976710656 (qc (qc (qc (qc l)))))] 26, .blk g3 #[.slice Aq5 ((qc (qc (qc (qc (qc l))))).length) cq5] 54, .blk g6 #[.bool (((((true && tkOk 63 l) && tkOk 281474976710656 (qc l)) && tkOk 4096 (qc (qc l))) && tkOk 281474976710656 (qc (qc (qc l)))) && tkOk 281474976710656 (qc (qc (qc (qc l)))))] 4, .blk g8 #[vB (1 : Nat), vB (tkVal 63 l), vI (tkVal 281474976710656 (qc l)), vI 0, .slice none 0 0] 41, .blk g4 #[vB 0, vB 0, vI 0, vI 0, .slice none 0 0] 41]) ?_ ?_
   ·
    refine qaf HM [.row (.slice A58 es.length c58) es.length (es.flatMap evL) 45 11, .blk g10 #[vI (tkVal 281474976710656 (qc (qc (qc l)))), vI (tkVal 281474976710656 (qc (qc (qc (qc l)))))] 26, .blk g3 #[.slice Aq5 ((qc (qc (qc (qc (qc l))))).length) cq5] 54, .blk g6 #[.bool (((((true && tkOk 63 l) && tkOk 281474976710656 (qc l)) && tkOk 4096 (qc (qc l))) && tkOk 281474976710656 (qc (qc (qc l)))) && tkOk 281474976710656 (qc (qc (qc (qc l)))))] 4, .blk g8 #[vB (1 : Nat), vB (tkVal 63 l), vI (tkVal 281474976710656 (qc l)), vI 0, .slice none 0 0] 41, .blk g4 #[vB 0, vB 0, vI 0, vI 0, .slice none 0 0] 41] [0, 1, 2, 3, 4, 5] [] fun HM HS => ?_
    refine ap HF (fun _ => HS) [0, 1, 2] #[true, true, true, false, false, false, false, false, false, false, false, false, false, false, false, false, false, false, false, false] [(64, .bool ((er : Int) != (0 : Int)))] fun a HF => ?_
    rcases HF.tf 64 rfl with ⟨hb64, HF⟩ | ⟨hb64, HF⟩
    ·
     have hd64 := bne_iff_ne.1 hb64
     refine ap HF (fun _ => HS) [3, 4, 5, 6, 7, 8, 9, 10, 11, 12, 13, 14, 15, 16, 17, 18, 19] #[true, true, true, true, true, true, true, true, true, true, true, true, true, true, true, true, true, true, true, true] [(81, .bool true)] fun a HF => ?_
     refine qn (by kernel_rfl) ?_
     have HF := HF.as (t := 81) (u := .bool (!(decide (er = 0 ∧ (es.getD 0 Ev.zero).seq = (tkVal 281474976710656 (qc (qc (qc l))) : Int) ∧ (es.getD 0 Ev.zero).time = (tkVal 281474976710656 (qc (qc (qc (qc l)))) : Int))))) rfl (congrArg Value.bool (by rw [decide_eq_false (by omega)]; rfl))
     exact ⟨HF.sub (by kernel_rfl), HM.picks [0, 1, 2, 3, 4, 5] (by decide) rfl⟩
    have hd64 := bne_eq_false_iff_eq.1 hb64
    have her : er = 0 := by omega
    have hq0 := hq; rw [her] at hq0; obtain ⟨rw1, rw2, rw3, rw4, rw5⟩ := qft (cpu := tkVal 63 l) (by omega) hl5 hq0
    refine ap HF (fun _ => HS) [3, 7] #[true, true, true, true, false, false, false, true, false, false, false, false, false, false, false, false, false, false, false, false] [(69, vP g10 0), (65, .slice A58 es.length c58)] fun a HF => ?_
    obtain ⟨gA58, rfl⟩ := qbj (HM.own (i := 0) rfl) (Nat.lt_of_le_of_lt (Nat.zero_le _) (show 0 < es.length from by omega))
    refine ay HF HS 4 rfl rfl rfl (v := vP gA58 0) (Yl.indexAddr (ad := ⟨gA58, 0, none⟩) (y := 0) (sz := 11) rfl rfl rfl (by omega) (by kernel_rfl)) fun a HF => ?_
    refine ap HF (fun _ => HS) [5] #[true, true, true, true, true, true, false, true, false, false, false, false, false, false, false, false, false, false, false, false] [(67, vP gA58 0)] fun a HF => ?_
    refine ay HF HS 6 rfl rfl rfl (v := vI ((es.getD 0 Ev.zero).seq)) (Yl.qh rfl rfl (by kernel_rfl) (fun _ h => (by have := h.qdv zr (i := 0) rfl (k := 0) (off := 0) (x := (es.getD 0 Ev.zero)) ((getD_at Ev.zero (k := 0) (by first | omega | (simp; omega)))) rfl; simpa using this))) fun a HF => ?_
    refine ay HF HS 8 rfl rfl rfl (Yl.qh rfl rfl (by kernel_rfl) (fun _ h => h.cell (i := 1) rfl rfl)) fun a HF => ?_
    refine ap HF (fun _ => HS) [9, 10, 11] #[true, true, true, true, true, true, true, true, true, true, true, true, false, false, false, false, false, false, false, false] [(73, .bool (((es.getD 0 Ev.zero).seq : Int) != (tkVal 281474976710656 (qc (qc (qc l))) : Int)))] fun a HF => ?_
    rcases HF.tf 73 rfl with ⟨hb73, HF⟩ | ⟨hb73, HF⟩
    ·
     have hd73 := bne_iff_ne.1 hb73
     refine ap HF (fun _ => HS) [12, 13, 14, 15, 16, 17, 18, 19] #[true, true, true, true, true, true, true, true, true, true, true, true, true, true, true, true, true, true, true, true] [(81, .bool true)] fun a HF => ?_
     refine qn (by kernel_rfl) ?_
     replace HF := HF.to [(81, .bool true), (12, vI L), (11, vS gA58 es.length c58), (10, vP g10 0), (46, .bool true), (9, vI (tkVal 4096 (qc (qc l)))), (18, .bool false), (8, vP g8 0), (7, .func (.func 82) #[] #[vP g3 0, vP g6 0]), (6, vP g6 0), (5, .bool false), (4, vP g4 0), (3, vP g3 0), (0, vB (1 : Nat))]
     have HF := HF.as (t := 81) (u := .bool (!(decide (er = 0 ∧ (es.getD 0 Ev.zero).seq = (tkVal 281474976710656 (qc (qc (qc l))) : Int) ∧ (es.getD 0 Ev.zero).time = (tkVal 281474976710656 (qc (qc (qc (qc l)))) : Int))))) rfl (congrArg Value.bool (by rw [decide_eq_false (by omega)]; rfl))
     exact ⟨HF.sub (by kernel_rfl), HM.picks [0, 1, 2, 3, 4, 5] (by decide) rfl⟩
    have hd73 := bne_eq_false_iff_eq.1 hb73
    refine ap HF (fun _ => HS) [12, 16] #[true, true, true, true, true, true, true, true, true, true, true, true, true, false, false, false, true, false, false, false] [(78, vP g10 1), (74, vS gA58 es.length c58)] fun a HF => ?_
    refine ay HF HS 13 rfl rfl rfl (v := vP gA58 0) (Yl.indexAddr (ad := ⟨gA58, 0, none⟩) (y := 0) (sz := 11) rfl rfl rfl (by omega) (by kernel_rfl)) fun a HF => ?_
    refine ap HF (fun _ => HS) [14] #[true, true, true, true, true, true, true, true, true, true, true, true, true, true, true, false, true, false, false, false] [(76, vP gA58 1)] fun a HF => ?_
    refine ay HF HS 15 rfl rfl rfl (v := vI ((es.getD 0 Ev.zero).time)) (Yl.qh rfl rfl (by kernel_rfl) (fun _ h => h.qdv zr (i := 0) rfl (k := 0) (off := 1) (x := (es.getD 0 Ev.zero)) ((getD_at Ev.zero (k := 0) (by first | omega | (simp; omega)))) rfl)) fun a HF => ?_
    refine ay HF HS 17 rfl rfl rfl (Yl.qh rfl rfl (by kernel_rfl) (fun _ h => h.cell (i := 1) rfl rfl)) fun a HF => ?_
    refine ap HF (fun _ => HS) [18, 19] #[true, true, true, true, true, true, true, true, true, true, true, true, true, true, true, true, true, true, true, true] [(81, .bool (((es.getD 0 Ev.zero).time : Int) != (tkVal 281474976710656 (qc (qc (qc (qc l)))) : Int)))] fun a HF => ?_
    refine qn (by kernel_rfl) ?_
    replace HF := HF.to [(81, .bool (((es.getD 0 Ev.zero).time : Int) != (tkVal 281474976710656 (qc (qc (qc (qc l)))) : Int))), (12, vI L), (11, vS gA58 es.length c58), (10, vP g10 0), (46, .bool true), (9, vI (tkVal 4096 (qc (qc l)))), (18, .bool false), (8, vP g8 0), (7, .func (.func 82) #[] #[vP g3 0, vP g6 0]), (6, vP g6 0), (5, .bool false), (4, vP g4 0), (3, vP g3 0), (0, vB (1 : Nat))]
    have HF := HF.as (t := 81) (u := .bool (!(decide (er = 0 ∧ (es.getD 0 Ev.zero).seq = (tkVal 281474976710656 (qc (qc (qc l))) : Int) ∧ (es.getD 0 Ev.zero).time = (tkVal 281474976710656 (qc (qc (qc (qc l)))) : Int))))) rfl (congrArg Value.bool (by rw [Bool.eq_iff_iff, bne_iff_ne, Bool.not_eq_true', decide_eq_false_iff_not]; omega))
    exact ⟨HF.sub (by kernel_rfl), HM.picks [0, 1, 2, 3, 4, 5] (by decide) rfl⟩
   clear HF HM; rintro a w12 ⟨HF, HM⟩
   rcases HF.tf 81 rfl with ⟨hb81, HF⟩ | ⟨hb81, HF⟩
   ·
    have hd81 := of_decide_eq_false ((Bool.not_eq_true' _).mp hb81)
    have hz : ¬ (er = 0 ∧ (es.getD 0 Ev.zero).seq = (tkVal 281474976710656 (qc (qc (qc l))) : Int) ∧ (es.getD 0 Ev.zero).time = (tkVal 281474976710656 (qc (qc (qc (qc l)))) : Int)) := fun hh => by rw [decide_eq_true hh] at hb81; cases hb81
    refine qf HF rfl (wp_seq (qa ?_))
    refine fy HF HM 0 rfl rfl rfl (v := .agg #[vB 0, vB 0, vI 0, vI 0, .slice none 0 0]) (Yl.build (vs := []) rfl (by kernel_rfl) (by kernel_rfl)) fun a HF => ?_
    refine fo HF 1 rfl rfl ?_
    refine e_sa HF HM 5 rfl rfl rfl rfl rfl si_bk rfl rfl (by simp [Value.oneCell']) ?_
    clear HM; intro w13_1 HM
    refine fp HF 1 2 [(5, .bool false)] fun a HF => ?_
    refine qb rfl (wp_ret ?_)
    exact ret2 rfl HF (.cellS (i := 5) HF HM rfl rfl si_bk rfl) (.tmp HF rfl) (qbn (by rw [qbd, qe7 h3 (by omega) hq]; exact qec (fun hh => hz ⟨hh.1, hh.2.1, hh.2.2.1⟩)) rfl (by simp [Value.oneCell']) HM.below)
   have hd81 := of_decide_eq_true ((Bool.not_eq_false' _).mp hb81)
   have hz : er = 0 ∧ (es.getD 0 Ev.zero).seq = (tkVal 281474976710656 (qc (qc (qc l))) : Int) ∧ (es.getD 0 Ev.zero).time = (tkVal 281474976710656 (qc (qc (qc (qc l)))) : Int) := Decidable.byContradiction fun hh => by rw [decide_eq_false hh] at hb81; cases hb81
   have her := hz.1
   have hq0 := hq; rw [her] at hq0; obtain ⟨rw1, rw2, rw3, rw4, rw5⟩ := qft (cpu := tkVal 63 l) (by omega) hl5 hq0
   refine qe HF rfl (wp_skip ?_)
   refine qaf HM [.row (.slice A58 es.length c58) es.length (es.flatMap evL) 45 11, .blk g10 #[vI (tkVal 281474976710656 (qc (qc (qc l)))), vI (tkVal 281474976710656 (qc (qc (qc (qc l)))))] 26, .blk g3 #[.slice Aq5 ((qc (qc (qc (qc (qc l))))).length) cq5] 54, .blk g6 #[.bool (((((true && tkOk 63 l) && tkOk 281474976710656 (qc l)) && tkOk 4096 (qc (qc l))) && tkOk 281474976710656 (qc (qc (qc l)))) && tkOk 281474976710656 (qc (qc (qc (qc l)))))] 4, .blk g4 #[vB 0, vB 0, vI 0, vI 0, .slice none 0 0] 41] [0, 1, 2, 3, 5] [6] fun HM HS => ?_
   refine ap HF (fun _ => HS) [0, 2, 4] #[true, false, true, false, true, false, false] [(87, vP g8 4), (85, vI L), (83, .slice A58 es.length c58)] fun a HF => ?_
   refine ay HF HS 1 rfl rfl rfl (Yl.qh rfl rfl (by kernel_rfl) (fun _ h => h.cell (i := 2) rfl rfl)) fun a HF => ?_
   refine ay HF HS 3 rfl rfl rfl (v := .slice (if cq5 = L then Aq5 else Aq5.map (·.add (L * 1))) (((qc (qc (qc (qc (qc l))))).length) - L) (cq5 - L)) (Yl.sliceFrom ei_u8 (j := L) rfl rfl rfl (by omega)) fun a HF => ?_
   refine qj [5] (by kernel_rfl) rfl ?_
   refine all_cons ?_ all_nil
   refine qm HF (i := 5) rfl rfl ?_
   refine qo HF HM (i := 4) rfl rfl rfl rfl (by kernel_rfl) rfl rfl (by simp) ?_
   clear HM; intro w14_5 HM
   refine keepS (HM.picks [0, 1, 2, 3, 5] (by decide) rfl) (fun HS => ?_)
   refine qj [6] (by kernel_rfl) rfl ?_
   refine all_cons ?_ all_nil
   refine qm HF (i := 6) rfl rfl ?_
   refine qo HF HM (i := 2) rfl rfl rfl rfl (by kernel_rfl) rfl rfl (by simp) ?_
   clear HM; intro w14_6 HM
   refine noS (by kernel_rfl) ?_
   refine qn (by kernel_rfl) ?_
   refine qbt (fun aS wS => Fr aS 99 [] [(5, .bool ((zc l).isSome)), (81, .bool false), (11, .slice A58 es.length c58), (10, vP g10 0), (46, .bool true), (9, vI (tkVal 4096 (qc (qc l)))), (18, .bool false), (8, vP g8 0), (7, .func (.func 82) #[] #[vP g3 0, vP g6 0]), (6, vP g6 0), (4, vP g4 0), (3, vP g3 0), (0, vB (1 : Nat))] ∧ Mem w wS [.row (.slice A58 es.length c58) es.length (es.flatMap evL) 45 11, .blk g10 #[vI (tkVal 281474976710656 (qc (qc (qc l)))), vI (tkVal 281474976710656 (qc (qc (qc (qc l)))))] 26, .blk g3 #[.slice (if cq5 = L then Aq5 else Aq5.map (·.add (L * 1))) (((qc (qc (qc (qc (qc l))))).length) - L) (cq5 - L)] 54, .blk g6 #[.bool (((((true && tkOk 63 l) && tkOk 281474976710656 (qc l)) && tkOk 4096 (qc (qc l))) && tkOk 281474976710656 (qc (qc (qc l)))) && tkOk 281474976710656 (qc (qc (qc (qc l)))))] 4, .blk g8 #[vB (1 : Nat), vB (tkVal 63 l), vI (tkVal 281474976710656 (qc l)), vI 0, .slice A58 es.length c58] 41, .blk g4 #[vB (1 : Nat), vB (tkVal 63 l), vI (tkVal 281474976710656 (qc l)), vI 0, .slice A58 es.length c58] 41]) ?_ ?_
   ·
    refine qaf HM [.row (.slice A58 es.length c58) es.length (es.flatMap evL) 45 11, .blk g10 #[vI (tkVal 281474976710656 (qc (qc (qc l)))), vI (tkVal 281474976710656 (qc (qc (qc (qc l)))))] 26, .blk g3 #[.slice (if cq5 = L then Aq5 else Aq5.map (·.add (L * 1))) (((qc (qc (qc (qc (qc l))))).length) - L) (cq5 - L)] 54, .blk g6 #[.bool (((((true && tkOk 63 l) && tkOk 281474976710656 (qc l)) && tkOk 4096 (qc (qc l))) && tkOk 281474976710656 (qc (qc (qc l)))) && tkOk 281474976710656 (qc (qc (qc (qc l)))))] 4, .blk g8 #[vB (1 : Nat), vB (tkVal 63 l), vI (tkVal 281474976710656 (qc l)), vI 0, .slice A58 es.length c58] 41] [0, 1, 2, 3, 4] [] fun HM HS => ?_
    refine ay HF HS 0 rfl rfl rfl (v := .agg #[vB (1 : Nat), vB (tkVal 63 l), vI (tkVal 281474976710656 (qc l)), vI 0, .slice A58 es.length c58]) (Yl.zg rfl rfl si_bk rfl (fun _ h => qd (h.blk (i := 4) rfl))) fun a HF => ?_
    refine ay HF HS 1 rfl rfl rfl (Yl.qh rfl rfl (by kernel_rfl) (fun _ h => h.cell (i := 3) rfl rfl)) fun a HF => ?_
    refine ap HF (fun _ => HS) [2] #[true, true, true, false, false, false, false, false, false, false, false, false, false] [(90, .bool (((((true && tkOk 63 l) && tkOk 281474976710656 (qc l)) && tkOk 4096 (qc (qc l))) && tkOk 281474976710656 (qc (qc (qc l)))) && tkOk 281474976710656 (qc (qc (qc (qc l))))))] fun a HF => ?_
    rcases HF.tf 90 rfl with ⟨hb90, HF⟩ | ⟨hb90, HF⟩
    ·
     refine ay HF HS 3 rfl rfl rfl (Yl.qh rfl rfl (by kernel_rfl) (fun _ h => h.cell (i := 2) rfl rfl)) fun a HF => ?_
     refine ay HF HS 4 rfl rfl rfl (Yl.len rfl rfl (by kernel_rfl)) fun a HF => ?_
     refine ap HF (fun _ => HS) [5, 6, 7] #[true, true, true, true, true, true, true, true, false, false, false, false, false] [(95, .bool (((((qc (qc (qc (qc (qc l))))).length) - L : Nat) : Int) == (0 : Int)))] fun a HF => ?_
     rcases HF.tf 95 rfl with ⟨hb95, HF⟩ | ⟨hb95, HF⟩
     ·
      have hd95 := eq_of_beq hb95
      refine ay HF HS 8 rfl rfl rfl (v := .agg #[vB (1 : Nat), vB (tkVal 63 l), vI (tkVal 281474976710656 (qc l)), vI 0, .slice A58 es.length c58]) (Yl.zg rfl rfl si_bk rfl (fun _ h => qd (h.blk (i := 4) rfl))) fun a HF => ?_
      refine qj [9] (by kernel_rfl) rfl ?_
      refine all_cons ?_ all_nil
      refine qm HF (i := 9) rfl rfl ?_
      refine e_is HF HM [.agg #[vB (1 : Nat), vB (tkVal 63 l), vI (tkVal 281474976710656 (qc l)), vI 0, .slice A58 es.length c58]] (.bool (Bk.fits ⟨1, tkVal 63 l, (tkVal 281474976710656 (qc l) : Int), 0, es⟩)) rfl rfl (qd2 ⟨1, tkVal 63 l, (tkVal 281474976710656 (qc l) : Int), 0, es⟩ (evsOk (by omega) (by omega) (fun e he => (rw5 e he).1)) A58 c58 B _ (hL.mem HM hB) (HM.le hB) (HM.rd (i := 0) rfl) (by show es.length ≤ _; omega)) fun w97 hbw HM a HF => ?_
      refine keepS (HM.picks [0, 1, 2, 3, 4] (by decide) rfl) (fun HS => ?_)
      refine ap HF (fun _ => HS) [10] #[true, true, true, true, true, true, true, true, true, true, true, false, false] [(98, .bool (Bk.fits ⟨1, tkVal 63 l, (tkVal 281474976710656 (qc l) : Int), 0, es⟩))] fun a HF => ?_
      refine qj [11] (by kernel_rfl) rfl ?_
      refine all_cons ?_ all_nil
      refine qm HF (i := 11) rfl rfl ?_
      refine e_sa HF HM 5 rfl rfl rfl rfl rfl si_bk rfl rfl (by simp [Value.oneCell']) ?_
      clear HM; intro w15_11 HM
      refine keepS (HM.picks [0, 1, 2, 3, 4] (by decide) rfl) (fun HS => ?_)
      refine ap HF (fun _ => HS) [12] #[true, true, true, true, true, true, true, true, true, true, true, true, true] [(5, .bool (Bk.fits ⟨1, tkVal 63 l, (tkVal 281474976710656 (qc l) : Int), 0, es⟩))] fun a HF => ?_
      refine qn (by kernel_rfl) ?_
      have HF := HF.as (t := 5) (u := .bool ((zc l).isSome)) rfl (congrArg Value.bool (by rw [qjg h3 (by omega) hq her, qmm ⟨hz.2.1, hz.2.2⟩, show (tkOk 281474976710656 (qc (qc (qc l))) && tkOk 281474976710656 (qc (qc (qc (qc l))))) = true by have h9 := hb90; rw [tk5 (l := l), tk3, h3, Bool.true_and] at h9; exact h9, decide_eq_true (by omega), Bool.true_and, Bool.true_and]))
      exact ⟨HF.sub (by kernel_rfl), HM.picks [0, 1, 2, 3, 4, 5] (by decide) rfl⟩
     have hd95 := ne_of_beq_false hb95
     refine ap HF (fun _ => HS) [8, 9, 10] #[true, true, true, true, true, true, true, true, true, true, true, false, false] [(98, .bool false)] fun a HF => ?_
     refine qj [11] (by kernel_rfl) rfl ?_
     refine all_cons ?_ all_nil
     refine qm HF (i := 11) rfl rfl ?_
     refine e_sa HF HM 5 rfl rfl rfl rfl rfl si_bk rfl rfl (by simp [Value.oneCell']) ?_
     clear HM; intro w15_11 HM
     refine keepS (HM.picks [0, 1, 2, 3, 4] (by decide) rfl) (fun HS => ?_)
     refine ap HF (fun _ => HS) [12] #[true, true, true, true, true, true, true, true, true, true, true, true, true] [(5, .bool false)] fun a HF => ?_
     refine qn (by kernel_rfl) ?_
     have HF := HF.as (t := 5) (u := .bool ((zc l).isSome)) rfl (congrArg Value.bool (by rw [qjg h3 (by omega) hq her, qmm ⟨hz.2.1, hz.2.2⟩, decide_eq_false (by omega), Bool.false_and, Bool.and_false]))
     exact ⟨HF.sub (by kernel_rfl), HM.picks [0, 1, 2, 3, 4, 5] (by decide) rfl⟩
    refine ap HF (fun _ => HS) [3, 4, 5, 6, 7, 8, 9, 10] #[true, true, true, true, true, true, true, true, true, true, true, false, false] [(98, .bool false)] fun a HF => ?_
    refine qj [11] (by kernel_rfl) rfl ?_
    refine all_cons ?_ all_nil
    refine qm HF (i := 11) rfl rfl ?_
    refine e_sa HF HM 5 rfl rfl rfl rfl rfl si_bk rfl rfl (by simp [Value.oneCell']) ?_
    clear HM; intro w15_11 HM
    refine keepS (HM.picks [0, 1, 2, 3, 4] (by decide) rfl) (fun HS => ?_)
    refine ap HF (fun _ => HS) [12] #[true, true, true, true, true, true, true, true, true, true, true, true, true] [(5, .bool false)] fun a HF => ?_
    refine qn (by kernel_rfl) ?_
    have HF := HF.as (t := 5) (u := .bool ((zc l).isSome)) rfl (congrArg Value.bool (by rw [qjg h3 (by omega) hq her, qmm ⟨hz.2.1, hz.2.2⟩, show (tkOk 281474976710656 (qc (qc (qc l))) && tkOk 281474976710656 (qc (qc (qc (qc l))))) = false by have h9 := hb90; rw [tk5 (l := l), tk3, h3, Bool.true_and] at h9; exact h9, Bool.false_and]))
    exact ⟨HF.sub (by kernel_rfl), HM.picks [0, 1, 2, 3, 4, 5] (by decide) rfl⟩
   clear HF HM; rintro a w15 ⟨HF, HM⟩
   refine wp_ret ?_
   rcases HF.tf 5 rfl with ⟨hb5, HF⟩ | ⟨hb5, HF⟩
   ·
    have hfin := hb5
    exact ret2 rfl HF (.cellS (i := 5) HF HM rfl rfl si_bk rfl) (.tmp HF rfl) (qcd (b := ⟨1, tkVal 63 l, (tkVal 281474976710656 (qc l) : Int), 0, es⟩) (A := A58) (c := c58) (by rw [qbd]; rw [qjg h3 (by omega) hq her] at hfin ⊢; exact qt9 hfin) (HM.own (i := 0) rfl) hc58 HM.below)
   have hfin := hb5
   exact ret2 rfl HF (.cellS (i := 5) HF HM rfl rfl si_bk rfl) (.tmp HF rfl) (qbn (by rw [qbd]; exact Option.not_isSome_iff_eq_none.1 (by rw [hfin]; decide)) rfl (by simp [Value.oneCell']) HM.below)
  have hd46 := of_decide_eq_false hb46
  refine qe HF rfl (wp_skip ?_)
  refine qbt (fun aS wS => Fr aS 99 [] [(5, .bool ((zc l).isSome)), (46, .bool false), (9, vI (tkVal 4096 (qc (qc l)))), (18, .bool false), (8, vP g8 0), (7, .func (.func 82) #[] #[vP g3 0, vP g6 0]), (6, vP g6 0), (4, vP g4 0), (3, vP g3 0), (0, vB (1 : Nat))] ∧ Mem w wS [.blk g3 #[.slice Aq3 ((qc (qc (qc l))).length) cq3] 54, .blk g6 #[.bool (((true && tkOk 63 l) && tkOk 281474976710656 (qc l)) && tkOk 4096 (qc (qc l)))] 4, .blk g8 #[vB (1 : Nat), vB (tkVal 63 l), vI (tkVal 281474976710656 (qc l)), vI 0, .slice none 0 0] 41, .blk g4 #[vB (1 : Nat), vB (tkVal 63 l), vI (tkVal 281474976710656 (qc l)), vI 0, .slice none 0 0] 41]) ?_ ?_
  ·
   refine qaf HM [.blk g3 #[.slice Aq3 ((qc (qc (qc l))).length) cq3] 54, .blk g6 #[.bool (((true && tkOk 63 l) && tkOk 281474976710656 (qc l)) && tkOk 4096 (qc (qc l)))] 4, .blk g8 #[vB (1 : Nat), vB (tkVal 63 l), vI (tkVal 281474976710656 (qc l)), vI 0, .slice none 0 0] 41] [0, 1, 2] [] fun HM HS => ?_
   refine ay HF HS 0 rfl rfl rfl (v := .agg #[vB (1 : Nat), vB (tkVal 63 l), vI (tkVal 281474976710656 (qc l)), vI 0, .slice none 0 0]) (Yl.zg rfl rfl si_bk rfl (fun _ h => qd (h.blk (i := 2) rfl))) fun a HF => ?_
   refine ay HF HS 1 rfl rfl rfl (Yl.qh rfl rfl (by kernel_rfl) (fun _ h => h.cell (i := 1) rfl rfl)) fun a HF => ?_
   refine ap HF (fun _ => HS) [2] #[true, true, true, false, false, false, false, false, false, false, false, false, false] [(90, .bool (((true && tkOk 63 l) && tkOk 281474976710656 (qc l)) && tkOk 4096 (qc (qc l))))] fun a HF => ?_
   rcases HF.tf 90 rfl with ⟨hb90, HF⟩ | ⟨hb90, HF⟩
   ·
    refine ay HF HS 3 rfl rfl rfl (Yl.qh rfl rfl (by kernel_rfl) (fun _ h => h.cell (i := 0) rfl rfl)) fun a HF => ?_
    refine ay HF HS 4 rfl rfl rfl (Yl.len rfl rfl (by kernel_rfl)) fun a HF => ?_
    refine ap HF (fun _ => HS) [5, 6, 7] #[true, true, true, true, true, true, true, true, false, false, false, false, false] [(95, .bool ((((qc (qc (qc l))).length : Nat) : Int) == (0 : Int)))] fun a HF => ?_
    rcases HF.tf 95 rfl with ⟨hb95, HF⟩ | ⟨hb95, HF⟩
    ·
     have hd95 := eq_of_beq hb95
     refine ay HF HS 8 rfl rfl rfl (v := .agg #[vB (1 : Nat), vB (tkVal 63 l), vI (tkVal 281474976710656 (qc l)), vI 0, .slice none 0 0]) (Yl.zg rfl rfl si_bk rfl (fun _ h => qd (h.blk (i := 2) rfl))) fun a HF => ?_
     refine qj [9] (by kernel_rfl) rfl ?_
     refine all_cons ?_ all_nil
     refine qm HF (i := 9) rfl rfl ?_
     refine e_is HF HM [.agg #[vB (1 : Nat), vB (tkVal 63 l), vI (tkVal 281474976710656 (qc l)), vI 0, .slice none 0 0]] (.bool (Bk.fits ⟨1, tkVal 63 l, (tkVal 281474976710656 (qc l) : Int), 0, []⟩)) rfl rfl (qd2 ⟨1, tkVal 63 l, (tkVal 281474976710656 (qc l) : Int), 0, []⟩ (evsOk (by omega) (by omega) (by simp)) none 0 B _ (hL.mem HM hB) (HM.le hB) Rd.nil (by show 0 ≤ _; omega)) fun w97 hbw HM a HF => ?_
     refine keepS (HM.picks [0, 1, 2] (by decide) rfl) (fun HS => ?_)
     refine ap HF (fun _ => HS) [10] #[true, true, true, true, true, true, true, true, true, true, true, false, false] [(98, .bool (Bk.fits ⟨1, tkVal 63 l, (tkVal 281474976710656 (qc l) : Int), 0, []⟩))] fun a HF => ?_
     refine qj [11] (by kernel_rfl) rfl ?_
     refine all_cons ?_ all_nil
     refine qm HF (i := 11) rfl rfl ?_
     refine e_sa HF HM 3 rfl rfl rfl rfl rfl si_bk rfl rfl (by simp [Value.oneCell']) ?_
     clear HM; intro w15_11 HM
     refine keepS (HM.picks [0, 1, 2] (by decide) rfl) (fun HS => ?_)
     refine ap HF (fun _ => HS) [12] #[true, true, true, true, true, true, true, true, true, true, true, true, true] [(5, .bool (Bk.fits ⟨1, tkVal 63 l, (tkVal 281474976710656 (qc l) : Int), 0, []⟩))] fun a HF => ?_
     refine qn (by kernel_rfl) ?_
     have HF := HF.as (t := 5) (u := .bool ((zc l).isSome)) rfl (congrArg Value.bool (by rw [qnl (l := l) (fun hh => by have h0 := hh.2; omega), h3, decide_eq_true (by omega), Bool.true_and, Bool.true_and]))
     exact ⟨HF.sub (by kernel_rfl), HM.picks [0, 1, 2, 3] (by decide) rfl⟩
    have hd95 := ne_of_beq_false hb95
    refine ap HF (fun _ => HS) [8, 9, 10] #[true, true, true, true, true, true, true, true, true, true, true, false, false] [(98, .bool false)] fun a HF => ?_
    refine qj [11] (by kernel_rfl) rfl ?_
    refine all_cons ?_ all_nil
    refine qm HF (i := 11) rfl rfl ?_
    refine e_sa HF HM 3 rfl rfl rfl rfl rfl si_bk rfl rfl (by simp [Value.oneCell']) ?_
    clear HM; intro w15_11 HM
    refine keepS (HM.picks [0, 1, 2] (by decide) rfl) (fun HS => ?_)
    refine ap HF (fun _ => HS) [12] #[true, true, true, true, true, true, true, true, true, true, true, true, true] [(5, .bool false)] fun a HF => ?_
    refine qn (by kernel_rfl) ?_
    have HF := HF.as (t := 5) (u := .bool ((zc l).isSome)) rfl (congrArg Value.bool (by rw [qnl (l := l) (fun hh => by have h0 := hh.2; omega), decide_eq_false (by omega), Bool.false_and, Bool.and_false]))
    exact ⟨HF.sub (by kernel_rfl), HM.picks [0, 1, 2, 3] (by decide) rfl⟩
   refine ap HF (fun _ => HS) [3, 4, 5, 6, 7, 8, 9, 10] #[true, true, true, true, true, true, true, true, true, true, true, false, false] [(98, .bool false)] fun a HF => ?_
   refine qj [11] (by kernel_rfl) rfl ?_
   refine all_cons ?_ all_nil
   refine qm HF (i := 11) rfl rfl ?_
   refine e_sa HF HM 3 rfl rfl rfl rfl rfl si_bk rfl rfl (by simp [Value.oneCell']) ?_
   clear HM; intro w15_11 HM
   refine keepS (HM.picks [0, 1, 2] (by decide) rfl) (fun HS => ?_)
   refine ap HF (fun _ => HS) [12] #[true, true, true, true, true, true, true, true, true, true, true, true, true] [(5, .bool false)] fun a HF => ?_
   refine qn (by kernel_rfl) ?_
   have HF := HF.as (t := 5) (u := .bool ((zc l).isSome)) rfl (congrArg Value.bool (by have h9 := hb90; rw [tk3] at h9; rw [qnl (l := l) (fun hh => by have h0 := hh.2; omega), h9, Bool.false_and]))
   exact ⟨HF.sub (by kernel_rfl), HM.picks [0, 1, 2, 3] (by decide) rfl⟩
  clear HF HM; rintro a w15 ⟨HF, HM⟩
  refine wp_ret ?_
  rcases HF.tf 5 rfl with ⟨hb5, HF⟩ | ⟨hb5, HF⟩
  ·
   have hfin := hb5
   exact ret2 rfl HF (.cellS (i := 3) HF HM rfl rfl si_bk rfl) (.tmp HF rfl) (qcd (b := ⟨1, tkVal 63 l, (tkVal 281474976710656 (qc l) : Int), 0, []⟩) (A := none) (c := 0) (by rw [qbd]; exact qri (fun hh => by have h0 := hh.2; omega) hfin) (World.ownsRow_nil _ _ _ _) (Nat.le_refl _) HM.below)
  have hfin := hb5
  exact ret2 rfl HF (.cellS (i := 3) HF HM rfl rfl si_bk rfl) (.tmp HF rfl) (qbn (by rw [qbd]; exact Option.not_isSome_iff_eq_none.1 (by rw [hfin]; decide)) rfl (by simp [Value.oneCell']) HM.below)
 have h3 : qcc l = false := by rw [← tk3]; exact hb43
 refine fp HF 3 2 [(46, .bool false)] fun a HF => ?_
 refine qb rfl (qe HF rfl (wp_skip ?_))
 refine qbt (fun aS wS => Fr aS 99 [] [(5, .bool ((zc l).isSome)), (46, .bool false), (9, vI (tkVal 4096 (qc (qc l)))), (18, .bool false), (8, vP g8 0), (7, .func (.func 82) #[] #[vP g3 0, vP g6 0]), (6, vP g6 0), (4, vP g4 0), (3, vP g3 0), (0, vB (1 : Nat))] ∧ Mem w wS [.blk g3 #[.slice Aq3 ((qc (qc (qc l))).length) cq3] 54, .blk g6 #[.bool (((true && tkOk 63 l) && tkOk 281474976710656 (qc l)) && tkOk 4096 (qc (qc l)))] 4, .blk g8 #[vB (1 : Nat), vB (tkVal 63 l), vI (tkVal 281474976710656 (qc l)), vI 0, .slice none 0 0] 41, .blk g4 #[vB (1 : Nat), vB (tkVal 63 l), vI (tkVal 281474976710656 (qc l)), vI 0, .slice none 0 0] 41]) ?_ ?_
 ·
  refine qaf HM [.blk g3 #[.slice Aq3 ((qc (qc (qc l))).length) cq3] 54, .blk g6 #[.bool (((true && tkOk 63 l) && tkOk 281474976710656 (qc l)) && tkOk 4096 (qc (qc l)))] 4, .blk g8 #[vB (1 : Nat), vB (tkVal 63 l), vI (tkVal 281474976710656 (qc l)), vI 0, .slice none 0 0] 41] [0, 1, 2] [] fun HM HS => ?_
  refine ay HF HS 0 rfl rfl rfl (v := .agg #[vB (1 : Nat), vB (tkVal 63 l), vI (tkVal 281474976710656 (qc l)), vI 0, .slice none 0 0]) (Yl.zg rfl rfl si_bk rfl (fun _ h => qd (h.blk (i := 2) rfl))) fun a HF => ?_
  refine ay HF HS 1 rfl rfl rfl (Yl.qh rfl rfl (by kernel_rfl) (fun _ h => h.cell (i := 1) rfl rfl)) fun a HF => ?_
  refine ap HF (fun _ => HS) [2] #[true, true, true, false, false, false, false, false, false, false, false, false, false] [(90, .bool (((true && tkOk 63 l) && tkOk 281474976710656 (qc l)) && tkOk 4096 (qc (qc l))))] fun a HF => ?_
  rcases HF.tf 90 rfl with ⟨hb90, HF⟩ | ⟨hb90, HF⟩
  ·
   refine ay HF HS 3 rfl rfl rfl (Yl.qh rfl rfl (by kernel_rfl) (fun _ h => h.cell (i := 0) rfl rfl)) fun a HF => ?_
   refine ay HF HS 4 rfl rfl rfl (Yl.len rfl rfl (by kernel_rfl)) fun a HF => ?_
   refine ap HF (fun _ => HS) [5, 6, 7] #[true, true, true, true, true, true, true, true, false, false, false, false, false] [(95, .bool ((((qc (qc (qc l))).length : Nat) : Int) == (0 : Int)))] fun a HF => ?_
   rcases HF.tf 95 rfl with ⟨hb95, HF⟩ | ⟨hb95, HF⟩
   ·
    have hd95 := eq_of_beq hb95
    refine ay HF HS 8 rfl rfl rfl (v := .agg #[vB (1 : Nat), vB (tkVal 63 l), vI (tkVal 281474976710656 (qc l)), vI 0, .slice none 0 0]) (Yl.zg rfl rfl si_bk rfl (fun _ h => qd (h.blk (i := 2) rfl))) fun a HF => ?_
    refine qj [9] (by kernel_rfl) rfl ?_
    refine all_cons ?_ all_nil
    refine qm HF (i := 9) rfl rfl ?_
    refine e_is HF HM [.agg #[vB (1 : Nat), vB (tkVal 63 l), vI (tkVal 281474976710656 (qc l)), vI 0, .slice none 0 0]] (.bool (Bk.fits ⟨1, tkVal 63 l, (tkVal 281474976710656 (qc l) : Int), 0, []⟩)) rfl rfl (qd2 ⟨1, tkVal 63 l, (tkVal 281474976710656 (qc l) : Int), 0, []⟩ (evsOk (by omega) (by omega) (by simp)) none 0 B _ (hL.mem HM hB) (HM.le hB) Rd.nil (by show 0 ≤ _; omega)) fun w97 hbw HM a HF => ?_
    refine keepS (HM.picks [0, 1, 2] (by decide) rfl) (fun HS => ?_)
    refine ap HF (fun _ => HS) [10] #[true, true, true, true, true, true, true, true, true, true, true, false, false] [(98, .bool (Bk.fits ⟨1, tkVal 63 l, (tkVal 281474976710656 (qc l) : Int), 0, []⟩))] fun a HF => ?_
    refine qj [11] (by kernel_rfl) rfl ?_
    refine all_cons ?_ all_nil
    refine qm HF (i := 11) rfl rfl ?_
    refine e_sa HF HM 3 rfl rfl rfl rfl rfl si_bk rfl rfl (by simp [Value.oneCell']) ?_
    clear HM; intro w15_11 HM
    refine keepS (HM.picks [0, 1, 2] (by decide) rfl) (fun HS => ?_)
    refine ap HF (fun _ => HS) [12] #[true, true, true, true, true, true, true, true, true, true, true, true, true] [(5, .bool (Bk.fits ⟨1, tkVal 63 l, (tkVal 281474976710656 (qc l) : Int), 0, []⟩))] fun a HF => ?_
    refine qn (by kernel_rfl) ?_
    have HF := HF.as (t := 5) (u := .bool ((zc l).isSome)) rfl (congrArg Value.bool (by have h9 := hb90; rw [tk3, h3] at h9; cases h9))
    exact ⟨HF.sub (by kernel_rfl), HM.picks [0, 1, 2, 3] (by decide) rfl⟩
   have hd95 := ne_of_beq_false hb95
   refine ap HF (fun _ => HS) [8, 9, 10] #[true, true, true, true, true, true, true, true, true, true, true, false, false] [(98, .bool false)] fun a HF => ?_
   refine qj [11] (by kernel_rfl) rfl ?_
   refine all_cons ?_ all_nil
   refine qm HF (i := 11) rfl rfl ?_
   refine e_sa HF HM 3 rfl rfl rfl rfl rfl si_bk rfl rfl (by simp [Value.oneCell']) ?_
   clear HM; intro w15_11 HM
   refine keepS (HM.picks [0, 1, 2] (by decide) rfl) (fun HS => ?_)
   refine ap HF (fun _ => HS) [12] #[true, true, true, true, true, true, true, true, true, true, true, true, true] [(5, .bool false)] fun a HF => ?_
   refine qn (by kernel_rfl) ?_
   have HF := HF.as (t := 5) (u := .bool ((zc l).isSome)) rfl (congrArg Value.bool (by have h9 := hb90; rw [tk3, h3] at h9; cases h9))
   exact ⟨HF.sub (by kernel_rfl), HM.picks [0, 1, 2, 3] (by decide) rfl⟩
  refine ap HF (fun _ => HS) [3, 4, 5, 6, 7, 8, 9, 10] #[true, true, true, true, true, true, true, true, true, true, true, false, false] [(98, .bool false)] fun a HF => ?_
  refine qj [11] (by kernel_rfl) rfl ?_
  refine all_cons ?_ all_nil
  refine qm HF (i := 11) rfl rfl ?_
  refine e_sa HF HM 3 rfl rfl rfl rfl rfl si_bk rfl rfl (by simp [Value.oneCell']) ?_
  clear HM; intro w15_11 HM
  refine keepS (HM.picks [0, 1, 2] (by decide) rfl) (fun HS => ?_)
  refine ap HF (fun _ => HS) [12] #[true, true, true, true, true, true, true, true, true, true, true, true, true] [(5, .bool false)] fun a HF => ?_
  refine qn (by kernel_rfl) ?_
  have HF := HF.as (t := 5) (u := .bool ((zc l).isSome)) rfl (congrArg Value.bool (by have h9 := hb90; rw [tk3] at h9; rw [qnl (l := l) (fun hh => by rw [h3] at hh; cases hh.1), h9, Bool.false_and]))
  exact ⟨HF.sub (by kernel_rfl), HM.picks [0, 1, 2, 3] (by decide) rfl⟩
 clear HF HM; rintro a w15 ⟨HF, HM⟩
 refine wp_ret ?_
 rcases HF.tf 5 rfl with ⟨hb5, HF⟩ | ⟨hb5, HF⟩
 ·
  have hfin := hb5
  exact ret2 rfl HF (.cellS (i := 3) HF HM rfl rfl si_bk rfl) (.tmp HF rfl) (qcd (b := ⟨1, tkVal 63 l, (tkVal 281474976710656 (qc l) : Int), 0, []⟩) (A := none) (c := 0) (by rw [qbd]; exact qri (fun hh => by rw [h3] at hh; cases hh.1) hfin) (World.ownsRow_nil _ _ _ _) (Nat.le_refl _) HM.below)
 have hfin := hb5
 exact ret2 rfl HF (.cellS (i := 3) HF HM rfl rfl si_bk rfl) (.tmp HF rfl) (qbn (by rw [qbd]; exact Option.not_isSome_iff_eq_none.1 (by rw [hfin]; decide)) rfl (by simp [Value.oneCell']) HM.below)
theorem qro (A : Option Addr) (n cp : Nat) (l : List Nat) (B : Nat) (w : World) (hL : LaidX B w) (hB : B ≤ w.heap.size) (hr : Rd w w.heap.size 1 A n (l.map B8)) (hc : n ≤ cp) (hln : l.length = n) (hn : n ≤ 9223372036854775807) (hl : ∀ b ∈ l, b < 256) :
    Calls Tryd.prog 47 #[.slice A n cp] w (qmn 45 w (readB l)) := by
 refine qg (vs := [.slice A n cp]) Tryd.func47 rfl rfl (by kernel_rfl) (σ0 := [(0, .slice A n cp)]) rfl ?_
 intro a HF
 have HM := Mem.start w
 refine wp_seq (qa ?_)
 refine fo HF 0 rfl rfl ?_
 refine qr HF HM (cs := #[vB 0, vB 0, vI 0, vI 0, .slice none 0 0]) rfl (by kernel_rfl) rfl (by decide) ?_
 clear HF HM; intro a w2 g2 HF HM
 refine fp HF 2 1 [(4, vI 0), (3, vI 0)] fun a HF => ?_
 refine qb rfl (wp_seq (qa ?_))
 refine fp HF 1 0 [(10, .slice A n cp)] fun a HF => ?_
 refine fo HF 1 rfl rfl ?_
 refine e_is HF HM [.slice A n cp] (.tuple #[vI ((lenR l).1), vI ((lenR l).2)]) rfl rfl (qov A n cp l _ (HM.old hr) hln hn hl) fun w11 hbw HM a HF => ?_
 refine fp HF 5 2 [(6, vI ((lenR l).2)), (5, vI ((lenR l).1))] fun a HF => ?_
 refine qb rfl (wp_seq (wp_seq (qa ?_)))
 refine fp HF 2 0 [(15, .bool (((lenR l).2 : Int) != (0 : Int)))] fun a HF => ?_
 refine qb rfl ?_
 rcases HF.tf 15 rfl with ⟨hb15, HF⟩ | ⟨hb15, HF⟩
 ·
  have hd15 := bne_iff_ne.1 hb15
  refine qf HF rfl (wp_seq (qa ?_))
  refine fy HF HM 0 rfl rfl rfl (v := .agg #[vB 0, vB 0, vI 0, vI 0, .slice none 0 0]) (Yl.build (vs := []) rfl (by kernel_rfl) (by kernel_rfl)) fun a HF => ?_
  refine fp HF 1 1 [(17, vI ((lenR l).2))] fun a HF => ?_
  refine fo HF 2 rfl rfl ?_
  refine e_sa HF HM 0 rfl rfl rfl rfl rfl si_bk rfl rfl (by simp [Value.oneCell']) ?_
  clear HM; intro w3_2 HM
  refine fp HF 2 3 [(4, vI ((lenR l).2)), (3, vI 0)] fun a HF => ?_
  refine qb rfl (wp_ret ?_)
  exact ret3 rfl HF (.cellS (i := 0) HF HM rfl rfl si_bk rfl) (.tmp HF rfl) (.tmp HF rfl) (qal (qrj (by omega)) HM.below)
 have hd15 := bne_eq_false_iff_eq.1 hb15
 have hl0 : (lenR l).2 = 0 := by omega
 obtain ⟨v1, v2, v3, v4⟩ := qrm hl0
 obtain ⟨Lb, hLb⟩ : ∃ x, x = l.take (lenR l).1 := ⟨_, rfl⟩
 have hrL : Rd w w.heap.size 1 A (lenR l).1 (Lb.map B8) := by rw [hLb]; exact hr.toB8 (by omega)
 have hlL : ∀ b ∈ Lb, b < 256 := by rw [hLb]; exact qbc hl _
 have hnL : Lb.length = (lenR l).1 := by rw [hLb, List.length_take]; omega
 refine qe HF rfl (wp_skip (wp_seq (qa ?_)))
 refine fp HF 2 0 [(19, vI ((lenR l).1)), (18, .slice A n cp)] fun a HF => ?_
 refine fy HF HM 2 rfl rfl rfl (v := .slice A ((lenR l).1) cp) (Yl.qbq ei_u8 (j := (lenR l).1) rfl rfl rfl (by omega)) fun a HF => ?_
 refine fp HF 1 3 [(0, .slice A ((lenR l).1) cp)] fun a HF => ?_
 refine qb rfl ?_
 obtain ⟨gA, oA, rfl, _⟩ := hrL.qas (Nat.lt_of_le_of_lt (Nat.zero_le _) (show 0 < (lenR l).1 from by omega)) (by decide)
 refine wp_seq (wp_block (wp_seq (qa ?_)))
 refine fp HF 1 0 [(22, .slice (some ⟨gA, oA, none⟩) ((lenR l).1) cp)] fun a HF => ?_
 refine fo HF 1 rfl rfl ?_
 refine e_is HF HM [.slice (some ⟨gA, oA, none⟩) ((lenR l).1) cp] (.bool (qay Lb)) rfl rfl (qou _ (lenR l).1 cp Lb B _ (hL.mem HM hB) (HM.le hB) (HM.old hrL) (by omega) hnL (by omega) hlL) fun w23 hbw HM a HF => ?_
 refine fp HF 2 2 [(21, .bool (!(qay Lb)))] fun a HF => ?_
 refine qb rfl ?_
 rcases HF.tf 21 rfl with ⟨hb21, HF⟩ | ⟨hb21, HF⟩
 ·
  have hs : qay Lb = false := by simpa using hb21
  refine qf HF rfl (wp_seq (qa ?_))
  refine fy HF HM 0 rfl rfl rfl (v := .agg #[vB 0, vB 0, vI 0, vI 0, .slice none 0 0]) (Yl.build (vs := []) rfl (by kernel_rfl) (by kernel_rfl)) fun a HF => ?_
  refine fo HF 1 rfl rfl ?_
  refine e_sa HF HM 0 rfl rfl rfl rfl rfl si_bk rfl rfl (by simp [Value.oneCell']) ?_
  clear HM; intro w6_1 HM
  refine fp HF 2 2 [(4, vI 102), (3, vI 0)] fun a HF => ?_
  refine qb rfl (wp_ret ?_)
  exact ret3 rfl HF (.cellS (i := 0) HF HM rfl rfl si_bk rfl) (.tmp HF rfl) (.tmp HF rfl) (qal (qbe hl0 hLb (by unfold blkOf; rw [if_pos hs])) HM.below)
 have hs : qay Lb = true := by simpa using hb21
 refine qe HF rfl (wp_seq ?_)
 refine qaf HM [.blk g2 #[vB 0, vB 0, vI 0, vI 0, .slice none 0 0] 41] [0] [] fun HM HS => ?_
 refine ap HF (fun _ => HS) [0] #[true, false, false, false, false, false, false] [(27, .slice (some ⟨gA, oA, none⟩) ((lenR l).1) cp)] fun a HF => ?_
 refine ay HF HS 1 rfl rfl rfl (v := .slice (if cp = 4 then some ⟨gA, oA, none⟩ else (some ⟨gA, oA, none⟩ : Option Addr).map (·.add (4 * 1))) (6 - 4) (cp - 4)) (Yl.qlz ei_u8 (i := 4) (j := 6) rfl rfl rfl rfl (by omega) (by omega)) fun a HF => ?_
 replace HF := HF.sp 28 (.slice (some ⟨gA, oA + 4, none⟩) (6 - 4) (cp - 4)) rfl (by simp only [if_neg (show ¬ cp = 4 by omega), Option.map_some, Addr.add_mid, Nat.mul_one])
 refine ay HF HS 2 rfl rfl rfl (v := vP gA (oA + 4)) (Yl.arrayAt (k := 2) rfl rfl (by kernel_rfl) (by omega)) fun a HF => ?_
 refine ay HF HS 3 rfl rfl rfl (v := .agg #[vB (Lb.getD 4 0), vB (Lb.getD 5 0)]) (Yl.zg rfl rfl si_a2 rfl (fun _ h => qyd (k := 4) (l := Lb) (h.old hrL) (by omega))) fun a HF => ?_
 refine ay HF HS 4 rfl rfl rfl (v := .agg #[vB 113, vB 116]) (Yl.zg rfl rfl si_a2 rfl (fun _ h => qt4 hL h hB)) fun a HF => ?_
 refine ay HF HS 5 rfl rfl rfl (v := .bool (!(((Lb.getD 4 0 : Int) == (113 : Int)) && ((Lb.getD 5 0 : Int) == (116 : Int))))) (Yl.qxj rfl rfl rfl (by kernel_rfl) (by kernel_rfl)) fun a HF => ?_
 refine ap HF (fun _ => HS) [6] #[true, true, true, true, true, true, true] [(26, .bool (!(((Lb.getD 4 0 : Int) == (113 : Int)) && ((Lb.getD 5 0 : Int) == (116 : Int)))))] fun a HF => ?_
 refine qn (by kernel_rfl) ?_
 rcases HF.tf 26 rfl with ⟨hb26, HF⟩ | ⟨hb26, HF⟩
 ·
  simp only [Bool.not_eq_true', Bool.and_eq_false_iff, beq_eq_false_iff_ne] at hb26
  have hmg : ¬ (Lb.getD 4 0 = 113 ∧ Lb.getD 5 0 = 116) := by omega
  refine qf HF rfl (wp_seq (qa ?_))
  refine fy HF HM 0 rfl rfl rfl (v := .agg #[vB 0, vB 0, vI 0, vI 0, .slice none 0 0]) (Yl.build (vs := []) rfl (by kernel_rfl) (by kernel_rfl)) fun a HF => ?_
  refine fo HF 1 rfl rfl ?_
  refine e_sa HF HM 0 rfl rfl rfl rfl rfl si_bk rfl rfl (by simp [Value.oneCell']) ?_
  clear HM; intro w8_1 HM
  refine fp HF 2 2 [(4, vI 103), (3, vI 0)] fun a HF => ?_
  refine qb rfl (wp_ret ?_)
  exact ret3 rfl HF (.cellS (i := 0) HF HM rfl rfl si_bk rfl) (.tmp HF rfl) (.tmp HF rfl) (qal (qbe hl0 hLb (by unfold blkOf; rw [if_neg (by rw [hs]; decide), if_pos hmg])) HM.below)
 simp only [Bool.not_eq_false', Bool.and_eq_true, beq_iff_eq] at hb26
 have hmg : Lb.getD 4 0 = 113 ∧ Lb.getD 5 0 = 116 := by omega
 refine qe HF rfl (wp_seq (qa ?_))
 refine fp HF 1 0 [(35, .slice (some ⟨gA, oA, none⟩) ((lenR l).1) cp)] fun a HF => ?_
 refine fy HF HM 1 rfl rfl rfl (v := vP gA (oA + 6)) (Yl.indexAddr (ad := ⟨gA, oA, none⟩) (y := 6) (sz := 1) rfl rfl rfl (by omega) (by kernel_rfl)) fun a HF => ?_
 have hx111 := getD_lt hlL (k := 6) (by first | omega | (simp; omega))
 refine fy HF HM 2 rfl rfl rfl (v := vB (Lb.getD 6 0)) (Yl.qh rfl rfl (by kernel_rfl) (fun _ h => (h.old hrL).qbv (k := 6) (qab (F := B8) (k := 6) (x := (Lb.getD 6 0)) ((getD_at 0 (k := 6) (by first | omega | (simp; omega))))))) fun a HF => ?_
 refine fp HF 2 3 [(34, .bool (((Lb.getD 6 0) : Int) != (1 : Int)))] fun a HF => ?_
 refine qb rfl ?_
 rcases HF.tf 34 rfl with ⟨hb34, HF⟩ | ⟨hb34, HF⟩
 ·
  have hd34 := bne_iff_ne.1 hb34
  refine qf HF rfl (wp_seq (qa ?_))
  refine fy HF HM 0 rfl rfl rfl (v := .agg #[vB 0, vB 0, vI 0, vI 0, .slice none 0 0]) (Yl.build (vs := []) rfl (by kernel_rfl) (by kernel_rfl)) fun a HF => ?_
  refine fo HF 1 rfl rfl ?_
  refine e_sa HF HM 0 rfl rfl rfl rfl rfl si_bk rfl rfl (by simp [Value.oneCell']) ?_
  clear HM; intro w10_1 HM
  refine fp HF 2 2 [(4, vI 104), (3, vI 0)] fun a HF => ?_
  refine qb rfl (wp_ret ?_)
  exact ret3 rfl HF (.cellS (i := 0) HF HM rfl rfl si_bk rfl) (.tmp HF rfl) (.tmp HF rfl) (qal (qbe hl0 hLb (by unfold blkOf; rw [if_neg (by rw [hs]; decide), if_neg (fun hh => hh hmg), if_pos (by omega)])) HM.below)
 have hd34 := bne_eq_false_iff_eq.1 hb34
 refine qe HF rfl (wp_seq (qa ?_))
 refine fp HF 1 0 [(41, .slice (some ⟨gA, oA, none⟩) ((lenR l).1) cp)] fun a HF => ?_
 refine fy HF HM 1 rfl rfl rfl (v := vP gA (oA + 7)) (Yl.indexAddr (ad := ⟨gA, oA, none⟩) (y := 7) (sz := 1) rfl rfl rfl (by omega) (by kernel_rfl)) fun a HF => ?_
 have hx135 := getD_lt hlL (k := 7) (by first | omega | (simp; omega))
 refine fy HF HM 2 rfl rfl rfl (v := vB (Lb.getD 7 0)) (Yl.qh rfl rfl (by kernel_rfl) (fun _ h => (h.old hrL).qbv (k := 7) (qab (F := B8) (k := 7) (x := (Lb.getD 7 0)) ((getD_at 0 (k := 7) (by first | omega | (simp; omega))))))) fun a HF => ?_
 refine fp HF 2 3 [(45, .bool (((Lb.getD 7 0) : Int) != (1 : Int)))] fun a HF => ?_
 rcases HF.tf 45 rfl with ⟨hb45, HF⟩ | ⟨hb45, HF⟩
 ·
  have hd45 := bne_iff_ne.1 hb45
  refine fp HF 1 5 [(46, .slice (some ⟨gA, oA, none⟩) ((lenR l).1) cp)] fun a HF => ?_
  refine fy HF HM 6 rfl rfl rfl (v := vP gA (oA + 7)) (Yl.indexAddr (ad := ⟨gA, oA, none⟩) (y := 7) (sz := 1) rfl rfl rfl (by omega) (by kernel_rfl)) fun a HF => ?_
  have hx143 := getD_lt hlL (k := 7) (by first | omega | (simp; omega))
  refine fy HF HM 7 rfl rfl rfl (v := vB (Lb.getD 7 0)) (Yl.qh rfl rfl (by kernel_rfl) (fun _ h => (h.old hrL).qbv (k := 7) (qab (F := B8) (k := 7) (x := (Lb.getD 7 0)) ((getD_at 0 (k := 7) (by first | omega | (simp; omega))))))) fun a HF => ?_
  refine fp HF 3 8 [(40, .bool (((Lb.getD 7 0) : Int) != (2 : Int)))] fun a HF => ?_
  refine qb rfl ?_
  rcases hp : qdc (Lb.getD 7 0) ((Lb.take (Lb.length - 4)).drop 8) with _ | b
  ·
   rcases HF.tf 40 rfl with ⟨hb40, HF⟩ | ⟨hb40, HF⟩
   ·
    have hd40 := bne_iff_ne.1 hb40
    have hkd : Lb.getD 7 0 ≠ 1 ∧ Lb.getD 7 0 ≠ 2 := by omega
    refine qf HF rfl (wp_seq (qa ?_))
    refine fy HF HM 0 rfl rfl rfl (v := .agg #[vB 0, vB 0, vI 0, vI 0, .slice none 0 0]) (Yl.build (vs := []) rfl (by kernel_rfl) (by kernel_rfl)) fun a HF => ?_
    refine fo HF 1 rfl rfl ?_
    refine e_sa HF HM 0 rfl rfl rfl rfl rfl si_bk rfl rfl (by simp [Value.oneCell']) ?_
    clear HM; intro w12_1 HM
    refine fp HF 2 2 [(4, vI 105), (3, vI 0)] fun a HF => ?_
    refine qb rfl (wp_ret ?_)
    exact ret3 rfl HF (.cellS (i := 0) HF HM rfl rfl si_bk rfl) (.tmp HF rfl) (.tmp HF rfl) (qal (qbe hl0 hLb (by unfold blkOf; rw [if_neg (by rw [hs]; decide), if_neg (fun hh => hh hmg), if_neg (by omega), if_pos hkd])) HM.below)
   have hd40 := bne_eq_false_iff_eq.1 hb40
   have hkd : Lb.getD 7 0 = 1 ∨ Lb.getD 7 0 = 2 := by omega
   refine qe HF rfl (wp_skip ?_)
   refine qbt (fun aS wS => ∃ (cs : Array Value) (g7 : Nat), Fr aS 68 [] [(8, .bool false), (7, vP g7 0), (40, .bool false), (34, .bool false), (26, .bool false), (21, .bool false), (0, .slice (some ⟨gA, oA, none⟩) ((lenR l).1) cp), (15, .bool false), (6, vI ((lenR l).2)), (5, vI ((lenR l).1)), (4, vI 0), (3, vI 0), (2, vP g2 0)] ∧ Mem w wS [.blk g7 cs 41, .blk g2 #[vB 0, vB 0, vI 0, vI 0, .slice none 0 0] 41] ∧ (cs.size = 5) ∧ (∀ v ∈ cs.toList, v.oneCell' = true)) ?_ ?_
   ·
    refine qaf HM [.blk g2 #[vB 0, vB 0, vI 0, vI 0, .slice none 0 0] 41] [0] [12] fun HM HS => ?_
    refine ap HF (fun _ => HS) [0, 3, 4] #[true, false, false, true, true, false, false, false, false, false, false, false, false, false] [(57, vI ((lenR l).1)), (56, .slice (some ⟨gA, oA, none⟩) ((lenR l).1) cp), (53, .slice (some ⟨gA, oA, none⟩) ((lenR l).1) cp)] fun a HF => ?_
    refine ay HF HS 1 rfl rfl rfl (v := vP gA (oA + 7)) (Yl.indexAddr (ad := ⟨gA, oA, none⟩) (y := 7) (sz := 1) rfl rfl rfl (by omega) (by kernel_rfl)) fun a HF => ?_
    have hx173 := getD_lt hlL (k := 7) (by first | omega | (simp; omega))
    refine ay HF HS 2 rfl rfl rfl (v := vB (Lb.getD 7 0)) (Yl.qh rfl rfl (by kernel_rfl) (fun _ h => (h.old hrL).qbv (k := 7) (qab (F := B8) (k := 7) (x := (Lb.getD 7 0)) ((getD_at 0 (k := 7) (by first | omega | (simp; omega))))))) fun a HF => ?_
    refine qp HF (fun _ => HS) (i := 5) rfl rfl (d := 58) rfl (by decide) (by kernel_rfl) (fun _ _ _ h => h) (v := vI (IntKind.i64.wrap (((lenR l).1 : Int) - 4))) (fun _ => Yl.pure (by kernel_rfl)) fun a HF => ?_
    replace HF := HF.sp 58 (vI ((lenR l).1 - 4 : Nat)) rfl (qi (by omega) (by omega))
    refine ay HF HS 6 rfl rfl rfl (v := .slice (if cp = 8 then some ⟨gA, oA, none⟩ else (some ⟨gA, oA, none⟩ : Option Addr).map (·.add (8 * 1))) (((lenR l).1 - 4) - 8) (cp - 8)) (Yl.qlz ei_u8 (i := 8) (j := (lenR l).1 - 4) rfl rfl rfl rfl (by omega) (by omega)) fun a HF => ?_
    refine qj [7, 11] (by kernel_rfl) rfl ?_
    refine all_cons ?_ ?_
    ·refine qm HF (i := 7) rfl rfl ?_
     refine e_cl HF [vB (Lb.getD 7 0), .slice (if cp = 8 then some ⟨gA, oA, none⟩ else (some ⟨gA, oA, none⟩ : Option Addr).map (·.add (8 * 1))) (((lenR l).1 - 4) - 8) (cp - 8)] rfl rfl ((qbo (Lb.getD 7 0) hkd _ (((lenR l).1 - 4) - 8) (cp - 8) ((Lb.take (Lb.length - 4)).drop 8) B _ (hL.mem HM hB) (HM.le hB) (HM.old (by rw [hnL]; exact hrL.ql0 (i := 8) (j := (lenR l).1 - 4) (by omega) (by omega) (by omega))) (by omega) (by rw [List.length_drop, List.length_take]; omega) (by omega) (qa7 (qbc hlL _) _)).mono (fun _ _ h => h.none hp)) ?_
     rintro _ w60 ⟨⟨cs, rfl, hs5, h1⟩, hbw⟩
     refine ⟨_, rfl, ?_⟩
     replace HM := HM.call hbw
     clear HF; intro a HF
     refine keepS (HM.picks [0] (by decide) rfl) (fun HS => ?_)
     refine ap HF (fun _ => HS) [8, 9, 10] #[true, true, true, true, true, true, true, true, true, true, true, false, false, false] [(62, .bool false), (61, .agg cs)] fun a HF => ?_
     refine qj [11] (by kernel_rfl) rfl ?_
     refine all_cons ?_ all_nil
     refine qm HF (i := 11) rfl rfl ?_
     refine qr HF HM (cs := #[vB 0, vB 0, vI 0, vI 0, .slice none 0 0]) rfl (by kernel_rfl) rfl (by decide) ?_
     clear HF HM; intro a w7 g7 HF HM
     refine keepS (HM.picks [1] (by decide) rfl) (fun HS => ?_)
     refine qj [12] (by kernel_rfl) rfl ?_
     refine all_cons ?_ all_nil
     refine qm HF (i := 12) rfl rfl ?_
     refine e_sa HF HM 0 rfl rfl rfl rfl rfl si_bk rfl hs5 (h1) ?_
     clear HM; intro w13_12 HM
     refine noS (by kernel_rfl) ?_
     refine ap HF (pastS (by kernel_rfl)) [13] #[true, true, true, true, true, true, true, true, true, true, true, true, true, true] [(8, .bool false)] fun a HF => ?_
     refine qn (by kernel_rfl) ?_
     replace HF := HF.to [(8, .bool false), (7, vP g7 0), (40, .bool false), (34, .bool false), (26, .bool false), (21, .bool false), (0, .slice (some ⟨gA, oA, none⟩) ((lenR l).1) cp), (15, .bool false), (6, vI ((lenR l).2)), (5, vI ((lenR l).1)), (4, vI 0), (3, vI 0), (2, vP g2 0)]
     exact ⟨cs, g7, HF.sub (by kernel_rfl), HM.picks [0, 1] (by decide) rfl, hs5, h1⟩
    refine all_cons ?_ all_nil
    refine qm HF (i := 11) rfl rfl ?_
    refine qr HF HM (cs := #[vB 0, vB 0, vI 0, vI 0, .slice none 0 0]) rfl (by kernel_rfl) rfl (by decide) ?_
    clear HF HM; intro a w7 g7 HF HM
    refine keepS (HM.picks [1] (by decide) rfl) (fun HS => ?_)
    refine qj [7] (by kernel_rfl) rfl ?_
    refine all_cons ?_ all_nil
    refine qm HF (i := 7) rfl rfl ?_
    refine e_cl HF [vB (Lb.getD 7 0), .slice (if cp = 8 then some ⟨gA, oA, none⟩ else (some ⟨gA, oA, none⟩ : Option Addr).map (·.add (8 * 1))) (((lenR l).1 - 4) - 8) (cp - 8)] rfl rfl ((qbo (Lb.getD 7 0) hkd _ (((lenR l).1 - 4) - 8) (cp - 8) ((Lb.take (Lb.length - 4)).drop 8) B _ (hL.mem HM hB) (HM.le hB) (HM.old (by rw [hnL]; exact hrL.ql0 (i := 8) (j := (lenR l).1 - 4) (by omega) (by omega) (by omega))) (by omega) (by rw [List.length_drop, List.length_take]; omega) (by omega) (qa7 (qbc hlL _) _)).mono (fun _ _ h => h.none hp)) ?_
    rintro _ w60 ⟨⟨cs, rfl, hs5, h1⟩, hbw⟩
    refine ⟨_, rfl, ?_⟩
    replace HM := HM.call hbw
    clear HF; intro a HF
    refine keepS (HM.picks [1] (by decide) rfl) (fun HS => ?_)
    refine ap HF (fun _ => HS) [8, 9, 10] #[true, true, true, true, true, true, true, true, true, true, true, true, false, false] [(62, .bool false), (61, .agg cs)] fun a HF => ?_
    refine qj [12] (by kernel_rfl) rfl ?_
    refine all_cons ?_ all_nil
    refine qm HF (i := 12) rfl rfl ?_
    refine e_sa HF HM 0 rfl rfl rfl rfl rfl si_bk rfl hs5 (h1) ?_
    clear HM; intro w13_12 HM
    refine noS (by kernel_rfl) ?_
    refine ap HF (pastS (by kernel_rfl)) [13] #[true, true, true, true, true, true, true, true, true, true, true, true, true, true] [(8, .bool false)] fun a HF => ?_
    refine qn (by kernel_rfl) ?_
    replace HF := HF.to [(8, .bool false), (7, vP g7 0), (40, .bool false), (34, .bool false), (26, .bool false), (21, .bool false), (0, .slice (some ⟨gA, oA, none⟩) ((lenR l).1) cp), (15, .bool false), (6, vI ((lenR l).2)), (5, vI ((lenR l).1)), (4, vI 0), (3, vI 0), (2, vP g2 0)]
    exact ⟨cs, g7, HF.sub (by kernel_rfl), HM.picks [0, 1] (by decide) rfl, hs5, h1⟩
   clear HF HM; rintro a w13 ⟨cs, g7, HF, HM, hs5, h1⟩
   refine wp_seq (wp_seq (qa ?_))
   refine fp HF 2 0 [(64, .bool true)] fun a HF => ?_
   refine qb rfl (qf HF rfl (wp_seq (qa ?_)))
   refine fy HF HM 0 rfl rfl rfl (v := .agg #[vB 0, vB 0, vI 0, vI 0, .slice none 0 0]) (Yl.build (vs := []) rfl (by kernel_rfl) (by kernel_rfl)) fun a HF => ?_
   refine fo HF 1 rfl rfl ?_
   refine e_sa HF HM 1 rfl rfl rfl rfl rfl si_bk rfl rfl (by simp [Value.oneCell']) ?_
   clear HM; intro w15_1 HM
   refine fp HF 2 2 [(4, vI 106), (3, vI 0)] fun a HF => ?_
   refine qb rfl (wp_ret ?_)
   exact ret3 rfl HF (.cellS (i := 1) HF HM rfl rfl si_bk rfl) (.tmp HF rfl) (.tmp HF rfl) (qal (qbe hl0 hLb (by unfold blkOf; rw [if_neg (by rw [hs]; decide), if_neg (fun hh => hh hmg), if_neg (by omega), if_neg (by omega), hp])) HM.below)
  ·
   rcases HF.tf 40 rfl with ⟨hb40, HF⟩ | ⟨hb40, HF⟩
   ·
    have hd40 := bne_iff_ne.1 hb40
    have hkd : Lb.getD 7 0 ≠ 1 ∧ Lb.getD 7 0 ≠ 2 := by omega
    refine qf HF rfl (wp_seq (qa ?_))
    refine fy HF HM 0 rfl rfl rfl (v := .agg #[vB 0, vB 0, vI 0, vI 0, .slice none 0 0]) (Yl.build (vs := []) rfl (by kernel_rfl) (by kernel_rfl)) fun a HF => ?_
    refine fo HF 1 rfl rfl ?_
    refine e_sa HF HM 0 rfl rfl rfl rfl rfl si_bk rfl rfl (by simp [Value.oneCell']) ?_
    clear HM; intro w12_1 HM
    refine fp HF 2 2 [(4, vI 105), (3, vI 0)] fun a HF => ?_
    refine qb rfl (wp_ret ?_)
    exact ret3 rfl HF (.cellS (i := 0) HF HM rfl rfl si_bk rfl) (.tmp HF rfl) (.tmp HF rfl) (qal (qbe hl0 hLb (by unfold blkOf; rw [if_neg (by rw [hs]; decide), if_neg (fun hh => hh hmg), if_neg (by omega), if_pos hkd])) HM.below)
   have hd40 := bne_eq_false_iff_eq.1 hb40
   have hkd : Lb.getD 7 0 = 1 ∨ Lb.getD 7 0 = 2 := by omega
   refine qe HF rfl (wp_skip ?_)
   refine qbt (fun aS wS => ∃ (Ab : Option Addr) (cb : Nat) (g7 : Nat), Fr aS 68 [] [(8, .bool true), (7, vP g7 0), (40, .bool false), (34, .bool false), (26, .bool false), (21, .bool false), (0, .slice (some ⟨gA, oA, none⟩) ((lenR l).1) cp), (15, .bool false), (6, vI ((lenR l).2)), (5, vI ((lenR l).1)), (4, vI 0), (3, vI 0), (2, vP g2 0)] ∧ Mem w wS [.blk g7 (b.cells Ab cb) 41, .row (.slice Ab b.evs.length cb) b.evs.length (b.evs.flatMap evL) 45 11, .blk g2 #[vB 0, vB 0, vI 0, vI 0, .slice none 0 0] 41] ∧ (b.evs.length ≤ cb)) ?_ ?_
   ·
    refine qaf HM [.blk g2 #[vB 0, vB 0, vI 0, vI 0, .slice none 0 0] 41] [0] [12] fun HM HS => ?_
    refine ap HF (fun _ => HS) [0, 3, 4] #[true, false, false, true, true, false, false, false, false, false, false, false, false, false] [(57, vI ((lenR l).1)), (56, .slice (some ⟨gA, oA, none⟩) ((lenR l).1) cp), (53, .slice (some ⟨gA, oA, none⟩) ((lenR l).1) cp)] fun a HF => ?_
    refine ay HF HS 1 rfl rfl rfl (v := vP gA (oA + 7)) (Yl.indexAddr (ad := ⟨gA, oA, none⟩) (y := 7) (sz := 1) rfl rfl rfl (by omega) (by kernel_rfl)) fun a HF => ?_
    have hx271 := getD_lt hlL (k := 7) (by first | omega | (simp; omega))
    refine ay HF HS 2 rfl rfl rfl (v := vB (Lb.getD 7 0)) (Yl.qh rfl rfl (by kernel_rfl) (fun _ h => (h.old hrL).qbv (k := 7) (qab (F := B8) (k := 7) (x := (Lb.getD 7 0)) ((getD_at 0 (k := 7) (by first | omega | (simp; omega))))))) fun a HF => ?_
    refine qp HF (fun _ => HS) (i := 5) rfl rfl (d := 58) rfl (by decide) (by kernel_rfl) (fun _ _ _ h => h) (v := vI (IntKind.i64.wrap (((lenR l).1 : Int) - 4))) (fun _ => Yl.pure (by kernel_rfl)) fun a HF => ?_
    replace HF := HF.sp 58 (vI ((lenR l).1 - 4 : Nat)) rfl (qi (by omega) (by omega))
    refine ay HF HS 6 rfl rfl rfl (v := .slice (if cp = 8 then some ⟨gA, oA, none⟩ else (some ⟨gA, oA, none⟩ : Option Addr).map (·.add (8 * 1))) (((lenR l).1 - 4) - 8) (cp - 8)) (Yl.qlz ei_u8 (i := 8) (j := (lenR l).1 - 4) rfl rfl rfl rfl (by omega) (by omega)) fun a HF => ?_
    refine qj [7, 11] (by kernel_rfl) rfl ?_
    refine all_cons ?_ ?_
    ·refine qm HF (i := 7) rfl rfl ?_
     refine e_cl HF [vB (Lb.getD 7 0), .slice (if cp = 8 then some ⟨gA, oA, none⟩ else (some ⟨gA, oA, none⟩ : Option Addr).map (·.add (8 * 1))) (((lenR l).1 - 4) - 8) (cp - 8)] rfl rfl ((qbo (Lb.getD 7 0) hkd _ (((lenR l).1 - 4) - 8) (cp - 8) ((Lb.take (Lb.length - 4)).drop 8) B _ (hL.mem HM hB) (HM.le hB) (HM.old (by rw [hnL]; exact hrL.ql0 (i := 8) (j := (lenR l).1 - 4) (by omega) (by omega) (by omega))) (by omega) (by rw [List.length_drop, List.length_take]; omega) (by omega) (qa7 (qbc hlL _) _)).mono (fun _ _ h => h.some hp)) ?_
     rintro _ w60 ⟨⟨Ab, cb, rfl, ho, hcb⟩, hbw⟩
     refine ⟨_, rfl, ?_⟩
     replace HM := HM.callRow hbw ho
     clear HF; intro a HF
     refine keepS (HM.picks [1] (by decide) rfl) (fun HS => ?_)
     refine ap HF (fun _ => HS) [8, 9, 10] #[true, true, true, true, true, true, true, true, true, true, true, false, false, false] [(62, .bool true), (61, .agg (b.cells Ab cb))] fun a HF => ?_
     refine qj [11] (by kernel_rfl) rfl ?_
     refine all_cons ?_ all_nil
     refine qm HF (i := 11) rfl rfl ?_
     refine qr HF HM (cs := #[vB 0, vB 0, vI 0, vI 0, .slice none 0 0]) rfl (by kernel_rfl) rfl (by decide) ?_
     clear HF HM; intro a w7 g7 HF HM
     refine keepS (HM.picks [2] (by decide) rfl) (fun HS => ?_)
     refine qj [12] (by kernel_rfl) rfl ?_
     refine all_cons ?_ all_nil
     refine qm HF (i := 12) rfl rfl ?_
     refine e_sa HF HM 0 rfl rfl rfl rfl rfl si_bk rfl rfl (qb3 _ _ _) ?_
     clear HM; intro w13_12 HM
     refine noS (by kernel_rfl) ?_
     refine ap HF (pastS (by kernel_rfl)) [13] #[true, true, true, true, true, true, true, true, true, true, true, true, true, true] [(8, .bool true)] fun a HF => ?_
     refine qn (by kernel_rfl) ?_
     replace HF := HF.to [(8, .bool true), (7, vP g7 0), (40, .bool false), (34, .bool false), (26, .bool false), (21, .bool false), (0, .slice (some ⟨gA, oA, none⟩) ((lenR l).1) cp), (15, .bool false), (6, vI ((lenR l).2)), (5, vI ((lenR l).1)), (4, vI 0), (3, vI 0), (2, vP g2 0)]
     exact ⟨Ab, cb, g7, HF.sub (by kernel_rfl), HM.picks [0, 1, 2] (by decide) rfl, hcb⟩
    refine all_cons ?_ all_nil
    refine qm HF (i := 11) rfl rfl ?_
    refine qr HF HM (cs := #[vB 0, vB 0, vI 0, vI 0, .slice none 0 0]) rfl (by kernel_rfl) rfl (by decide) ?_
    clear HF HM; intro a w7 g7 HF HM
    refine keepS (HM.picks [1] (by decide) rfl) (fun HS => ?_)
    refine qj [7] (by kernel_rfl) rfl ?_
    refine all_cons ?_ all_nil
    refine qm HF (i := 7) rfl rfl ?_
    refine e_cl HF [vB (Lb.getD 7 0), .slice (if cp = 8 then some ⟨gA, oA, none⟩ else (some ⟨gA, oA, none⟩ : Option Addr).map (·.add (8 * 1))) (((lenR l).1 - 4) - 8) (cp - 8)] rfl rfl ((qbo (Lb.getD 7 0) hkd _ (((lenR l).1 - 4) - 8) (cp - 8) ((Lb.take (Lb.length - 4)).drop 8) B _ (hL.mem HM hB) (HM.le hB) (HM.old (by rw [hnL]; exact hrL.ql0 (i := 8) (j := (lenR l).1 - 4) (by omega) (by omega) (by omega))) (by omega) (by rw [List.length_drop, List.length_take]; omega) (by omega) (qa7 (qbc hlL _) _)).mono (fun _ _ h => h.some hp)) ?_
    rintro _ w60 ⟨⟨Ab, cb, rfl, ho, hcb⟩, hbw⟩
    refine ⟨_, rfl, ?_⟩
    replace HM := HM.callRow hbw ho
    clear HF; intro a HF
    refine keepS (HM.picks [2] (by decide) rfl) (fun HS => ?_)
    refine ap HF (fun _ => HS) [8, 9, 10] #[true, true, true, true, true, true, true, true, true, true, true, true, false, false] [(62, .bool true), (61, .agg (b.cells Ab cb))] fun a HF => ?_
    refine qj [12] (by kernel_rfl) rfl ?_
    refine all_cons ?_ all_nil
    refine qm HF (i := 12) rfl rfl ?_
    refine e_sa HF HM 1 rfl rfl rfl rfl rfl si_bk rfl rfl (qb3 _ _ _) ?_
    clear HM; intro w13_12 HM
    refine noS (by kernel_rfl) ?_
    refine ap HF (pastS (by kernel_rfl)) [13] #[true, true, true, true, true, true, true, true, true, true, true, true, true, true] [(8, .bool true)] fun a HF => ?_
    refine qn (by kernel_rfl) ?_
    replace HF := HF.to [(8, .bool true), (7, vP g7 0), (40, .bool false), (34, .bool false), (26, .bool false), (21, .bool false), (0, .slice (some ⟨gA, oA, none⟩) ((lenR l).1) cp), (15, .bool false), (6, vI ((lenR l).2)), (5, vI ((lenR l).1)), (4, vI 0), (3, vI 0), (2, vP g2 0)]
    exact ⟨Ab, cb, g7, HF.sub (by kernel_rfl), HM.picks [1, 0, 2] (by decide) rfl, hcb⟩
   clear HF HM; rintro a w13 ⟨Ab, cb, g7, HF, HM, hcb⟩
   refine wp_seq (wp_seq (qa ?_))
   refine fp HF 2 0 [(64, .bool false)] fun a HF => ?_
   refine qb rfl (qe HF rfl (wp_skip (wp_seq (qa ?_))))
   refine fy HF HM 0 rfl rfl rfl (v := .agg (b.cells Ab cb)) (Yl.zg rfl rfl si_bk rfl (fun _ h => qd (h.blk (i := 0) rfl))) fun a HF => ?_
   refine fp HF 1 1 [(67, vI ((lenR l).1))] fun a HF => ?_
   refine fo HF 2 rfl rfl ?_
   refine e_sa HF HM 2 rfl rfl rfl rfl rfl si_bk rfl rfl (qb3 _ _ _) ?_
   clear HM; intro w16_2 HM
   refine fp HF 2 3 [(4, vI 0), (3, vI ((lenR l).1))] fun a HF => ?_
   refine qb rfl (wp_ret ?_)
   exact ret3 rfl HF (.cellS (i := 2) HF HM rfl rfl si_bk rfl) (.tmp HF rfl) (.tmp HF rfl) (qig (qfv (e := 0) hl0 hLb (by unfold blkOf; rw [if_neg (by rw [hs]; decide), if_neg (fun hh => hh hmg), if_neg (by omega), if_neg (by omega), hp])) (HM.own (i := 1) rfl) hcb HM.below)
 have hd45 := bne_eq_false_iff_eq.1 hb45
 have hkd : Lb.getD 7 0 = 1 ∨ Lb.getD 7 0 = 2 := by omega
 refine fp HF 6 5 [(40, .bool false)] fun a HF => ?_
 refine qb rfl ?_
 rcases hp : qdc (Lb.getD 7 0) ((Lb.take (Lb.length - 4)).drop 8) with _ | b
 ·
  refine qe HF rfl (wp_skip ?_)
  refine qbt (fun aS wS => ∃ (cs : Array Value) (g7 : Nat), Fr aS 68 [] [(8, .bool false), (7, vP g7 0), (40, .bool false), (34, .bool false), (26, .bool false), (21, .bool false), (0, .slice (some ⟨gA, oA, none⟩) ((lenR l).1) cp), (15, .bool false), (6, vI ((lenR l).2)), (5, vI ((lenR l).1)), (4, vI 0), (3, vI 0), (2, vP g2 0)] ∧ Mem w wS [.blk g7 cs 41, .blk g2 #[vB 0, vB 0, vI 0, vI 0, .slice none 0 0] 41] ∧ (cs.size = 5) ∧ (∀ v ∈ cs.toList, v.oneCell' = true)) ?_ ?_
  ·
   refine qaf HM [.blk g2 #[vB 0, vB 0, vI 0, vI 0, .slice none 0 0] 41] [0] [12] fun HM HS => ?_
   refine ap HF (fun _ => HS) [0, 3, 4] #[true, false, false, true, true, false, false, false, false, false, false, false, false, false] [(57, vI ((lenR l).1)), (56, .slice (some ⟨gA, oA, none⟩) ((lenR l).1) cp), (53, .slice (some ⟨gA, oA, none⟩) ((lenR l).1) cp)] fun a HF => ?_
   refine ay HF HS 1 rfl rfl rfl (v := vP gA (oA + 7)) (Yl.indexAddr (ad := ⟨gA, oA, none⟩) (y := 7) (sz := 1) rfl rfl rfl (by omega) (by kernel_rfl)) fun a HF => ?_
   have hx359 := getD_lt hlL (k := 7) (by first | omega | (simp; omega))
   refine ay HF HS 2 rfl rfl rfl (v := vB (Lb.getD 7 0)) (Yl.qh rfl rfl (by kernel_rfl) (fun _ h => (h.old hrL).qbv (k := 7) (qab (F := B8) (k := 7) (x := (Lb.getD 7 0)) ((getD_at 0 (k := 7) (by first | omega | (simp; omega))))))) fun a HF => ?_
   refine qp HF (fun _ => HS) (i := 5) rfl rfl (d := 58) rfl (by decide) (by kernel_rfl) (fun _ _ _ h => h) (v := vI (IntKind.i64.wrap (((lenR l).1 : Int) - 4))) (fun _ => Yl.pure (by kernel_rfl)) fun a HF => ?_
   replace HF := HF.sp 58 (vI ((lenR l).1 - 4 : Nat)) rfl (qi (by omega) (by omega))
   refine ay HF HS 6 rfl rfl rfl (v := .slice (if cp = 8 then some ⟨gA, oA, none⟩ else (some ⟨gA, oA, none⟩ : Option Addr).map (·.add (8 * 1))) (((lenR l).1 - 4) - 8) (cp - 8)) (Yl.qlz ei_u8 (i := 8) (j := (lenR l).1 - 4) rfl rfl rfl rfl (by omega) (by omega)) fun a HF => ?_
   refine qj [7, 11] (by kernel_rfl) rfl ?_
   refine all_cons ?_ ?_
   ·refine qm HF (i := 7) rfl rfl ?_
    refine e_cl HF [vB (Lb.getD 7 0), .slice (if cp = 8 then some ⟨gA, oA, none⟩ else (some ⟨gA, oA, none⟩ : Option Addr).map (·.add (8 * 1))) (((lenR l).1 - 4) - 8) (cp - 8)] rfl rfl ((qbo (Lb.getD 7 0) hkd _ (((lenR l).1 - 4) - 8) (cp - 8) ((Lb.take (Lb.length - 4)).drop 8) B _ (hL.mem HM hB) (HM.le hB) (HM.old (by rw [hnL]; exact hrL.ql0 (i := 8) (j := (lenR l).1 - 4) (by omega) (by omega) (by omega))) (by omega) (by rw [List.length_drop, List.length_take]; omega) (by omega) (qa7 (qbc hlL _) _)).mono (fun _ _ h => h.none hp)) ?_
    rintro _ w60 ⟨⟨cs, rfl, hs5, h1⟩, hbw⟩
    refine ⟨_, rfl, ?_⟩
    replace HM := HM.call hbw
    clear HF; intro a HF
    refine keepS (HM.picks [0] (by decide) rfl) (fun HS => ?_)
    refine ap HF (fun _ => HS) [8, 9, 10] #[true, true, true, true, true, true, true, true, true, true, true, false, false, false] [(62, .bool false), (61, .agg cs)] fun a HF => ?_
    refine qj [11] (by kernel_rfl) rfl ?_
    refine all_cons ?_ all_nil
    refine qm HF (i := 11) rfl rfl ?_
    refine qr HF HM (cs := #[vB 0, vB 0, vI 0, vI 0, .slice none 0 0]) rfl (by kernel_rfl) rfl (by decide) ?_
    clear HF HM; intro a w7 g7 HF HM
    refine keepS (HM.picks [1] (by decide) rfl) (fun HS => ?_)
    refine qj [12] (by kernel_rfl) rfl ?_
    refine all_cons ?_ all_nil
    refine qm HF (i := 12) rfl rfl ?_
    refine e_sa HF HM 0 rfl rfl rfl rfl rfl si_bk rfl hs5 (h1) ?_
    clear HM; intro w13_12 HM
    refine noS (by kernel_rfl) ?_
    refine ap HF (pastS (by kernel_rfl)) [13] #[true, true, true, true, true, true, true, true, true, true, true, true, true, true] [(8, .bool false)] fun a HF => ?_
    refine qn (by kernel_rfl) ?_
    exact ⟨cs, g7, HF.sub (by kernel_rfl), HM.picks [0, 1] (by decide) rfl, hs5, h1⟩
   refine all_cons ?_ all_nil
   refine qm HF (i := 11) rfl rfl ?_
   refine qr HF HM (cs := #[vB 0, vB 0, vI 0, vI 0, .slice none 0 0]) rfl (by kernel_rfl) rfl (by decide) ?_
   clear HF HM; intro a w7 g7 HF HM
   refine keepS (HM.picks [1] (by decide) rfl) (fun HS => ?_)
   refine qj [7] (by kernel_rfl) rfl ?_
   refine all_cons ?_ all_nil
   refine qm HF (i := 7) rfl rfl ?_
   refine e_cl HF [vB (Lb.getD 7 0), .slice (if cp = 8 then some ⟨gA, oA, none⟩ else (some ⟨gA, oA, none⟩ : Option Addr).map (·.add (8 * 1))) (((lenR l).1 - 4) - 8) (cp - 8)] rfl rfl ((qbo (Lb.getD 7 0) hkd _ (((lenR l).1 - 4) - 8) (cp - 8) ((Lb.take (Lb.length - 4)).drop 8) B _ (hL.mem HM hB) (HM.le hB) (HM.old (by rw [hnL]; exact hrL.ql0 (i := 8) (j := (lenR l).1 - 4) (by omega) (by omega) (by omega))) (by omega) (by rw [List.length_drop, List.length_take]; omega) (by omega) (qa7 (qbc hlL _) _)).mono (fun _ _ h => h.none hp)) ?_
   rintro _ w60 ⟨⟨cs, rfl, hs5, h1⟩, hbw⟩
   refine ⟨_, rfl, ?_⟩
   replace HM := HM.call hbw
   clear HF; intro a HF
   refine keepS (HM.picks [1] (by decide) rfl) (fun HS => ?_)
   refine ap HF (fun _ => HS) [8, 9, 10] #[true, true, true, true, true, true, true, true, true, true, true, true, false, false] [(62, .bool false), (61, .agg cs)] fun a HF => ?_
   refine qj [12] (by kernel_rfl) rfl ?_
   refine all_cons ?_ all_nil
   refine qm HF (i := 12) rfl rfl ?_
   refine e_sa HF HM 0 rfl rfl rfl rfl rfl si_bk rfl hs5 (h1) ?_
   clear HM; intro w13_12 HM
   refine noS (by kernel_rfl) ?_
   refine ap HF (pastS (by kernel_rfl)) [13] #[true, true, true, true, true, true, true, true, true, true, true, true, true, true] [(8, .bool false)] fun a HF => ?_
   refine qn (by kernel_rfl) ?_
   exact ⟨cs, g7, HF.sub (by kernel_rfl), HM.picks [0, 1] (by decide) rfl, hs5, h1⟩
  clear HF HM; rintro a w13 ⟨cs, g7, HF, HM, hs5, h1⟩
  refine wp_seq (wp_seq (qa ?_))
  refine fp HF 2 0 [(64, .bool true)] fun a HF => ?_
  refine qb rfl (qf HF rfl (wp_seq (qa ?_)))
  refine fy HF HM 0 rfl rfl rfl (v := .agg #[vB 0, vB 0, vI 0, vI 0, .slice none 0 0]) (Yl.build (vs := []) rfl (by kernel_rfl) (by kernel_rfl)) fun a HF => ?_
  refine fo HF 1 rfl rfl ?_
  refine e_sa HF HM 1 rfl rfl rfl rfl rfl si_bk rfl rfl (by simp [Value.oneCell']) ?_
  clear HM; intro w15_1 HM
  refine fp HF 2 2 [(4, vI 106), (3, vI 0)] fun a HF => ?_
  refine qb rfl (wp_ret ?_)
  exact ret3 rfl HF (.cellS (i := 1) HF HM rfl rfl si_bk rfl) (.tmp HF rfl) (.tmp HF rfl) (qal (qbe hl0 hLb (by unfold blkOf; rw [if_neg (by rw [hs]; decide), if_neg (fun hh => hh hmg), if_neg (by omega), if_neg (by omega), hp])) HM.below)
 ·
  refine qe HF rfl (wp_skip ?_)
  refine qbt (fun aS wS => ∃ (Ab : Option Addr) (cb : Nat) (g7 : Nat), Fr aS 68 [] [(8, .bool true), (7, vP g7 0), (40, .bool false), (34, .bool false), (26, .bool false), (21, .bool false), (0, .slice (some ⟨gA, oA, none⟩) ((lenR l).1) cp), (15, .bool false), (6, vI ((lenR l).2)), (5, vI ((lenR l).1)), (4, vI 0), (3, vI 0), (2, vP g2 0)] ∧ Mem w wS [.blk g7 (b.cells Ab cb) 41, .row (.slice Ab b.evs.length cb) b.evs.length (b.evs.flatMap evL) 45 11, .blk g2 #[vB 0, vB 0, vI 0, vI 0, .slice none 0 0] 41] ∧ (b.evs.length ≤ cb)) ?_ ?_
  ·
   refine qaf HM [.blk g2 #[vB 0, vB 0, vI 0, vI 0, .slice none 0 0] 41] [0] [12] fun HM HS => ?_
   refine ap HF (fun _ => HS) [0, 3, 4] #[true, false, false, true, true, false, false, false, false, false, false, false, false, false] [(57, vI ((lenR l).1)), (56, .slice (some ⟨gA, oA, none⟩) ((lenR l).1) cp), (53, .slice (some ⟨gA, oA, none⟩) ((lenR l).1) cp)] fun a HF => ?_
   refine ay HF HS 1 rfl rfl rfl (v := vP gA (oA + 7)) (Yl.indexAddr (ad := ⟨gA, oA, none⟩) (y := 7) (sz := 1) rfl rfl rfl (by omega) (by kernel_rfl)) fun a HF => ?_
   have hx438 := getD_lt hlL (k := 7) (by first | omega | (simp; omega))
   refine ay HF HS 2 rfl rfl rfl (v := vB (Lb.getD 7 0)) (Yl.qh rfl rfl (by kernel_rfl) (fun _ h => (h.old hrL).qbv (k := 7) (qab (F := B8) (k := 7) (x := (Lb.getD 7 0)) ((getD_at 0 (k := 7) (by first | omega | (simp; omega))))))) fun a HF => ?_
   refine qp HF (fun _ => HS) (i := 5) rfl rfl (d := 58) rfl (by decide) (by kernel_rfl) (fun _ _ _ h => h) (v := vI (IntKind.i64.wrap (((lenR l).1 : Int) - 4))) (fun _ => Yl.pure (by kernel_rfl)) fun a HF => ?_
   replace HF := HF.sp 58 (vI ((lenR l).1 - 4 : Nat)) rfl (qi (by omega) (by omega))
   refine ay HF HS 6 rfl rfl rfl (v := .slice (if cp = 8 then some ⟨gA, oA, none⟩ else (some ⟨gA, oA, none⟩ : Option Addr).map (·.add (8 * 1))) (((lenR l).1 - 4) - 8) (cp - 8)) (Yl.qlz ei_u8 (i := 8) (j := (lenR l).1 - 4) rfl rfl rfl rfl (by omega) (by omega)) fun a HF => ?_
   refine qj [7, 11] (by kernel_rfl) rfl ?_
   refine all_cons ?_ ?_
   ·refine qm HF (i := 7) rfl rfl ?_
    refine e_cl HF [vB (Lb.getD 7 0), .slice (if cp = 8 then some ⟨gA, oA, none⟩ else (some ⟨gA, oA, none⟩ : Option Addr).map (·.add (8 * 1))) (((lenR l).1 - 4) - 8) (cp - 8)] rfl rfl ((qbo (Lb.getD 7 0) hkd _ (((lenR l).1 - 4) - 8) (cp - 8) ((Lb.take (Lb.length - 4)).drop 8) B _ (hL.mem HM hB) (HM.le hB) (HM.old (by rw [hnL]; exact hrL.ql0 (i := 8) (j := (lenR l).1 - 4) (by omega) (by omega) (by omega))) (by omega) (by rw [List.length_drop, List.length_take]; omega) (by omega) (qa7 (qbc hlL _) _)).mono (fun _ _ h => h.some hp)) ?_
    rintro _ w60 ⟨⟨Ab, cb, rfl, ho, hcb⟩, hbw⟩
    refine ⟨_, rfl, ?_⟩
    replace HM := HM.callRow hbw ho
    clear HF; intro a HF
    refine keepS (HM.picks [1] (by decide) rfl) (fun HS => ?_)
    refine ap HF (fun _ => HS) [8, 9, 10] #[true, true, true, true, true, true, true, true, true, true, true, false, false, false] [(62, .bool true), (61, .agg (b.cells Ab cb))] fun a HF => ?_
    refine qj [11] (by kernel_rfl) rfl ?_
    refine all_cons ?_ all_nil
    refine qm HF (i := 11) rfl rfl ?_
    refine qr HF HM (cs := #[vB 0, vB 0, vI 0, vI 0, .slice none 0 0]) rfl (by kernel_rfl) rfl (by decide) ?_
    clear HF HM; intro a w7 g7 HF HM
    refine keepS (HM.picks [2] (by decide) rfl) (fun HS => ?_)
    refine qj [12] (by kernel_rfl) rfl ?_
    refine all_cons ?_ all_nil
    refine qm HF (i := 12) rfl rfl ?_
    refine e_sa HF HM 0 rfl rfl rfl rfl rfl si_bk rfl rfl (qb3 _ _ _) ?_
    clear HM; intro w13_12 HM
    refine noS (by kernel_rfl) ?_
    refine ap HF (pastS (by kernel_rfl)) [13] #[true, true, true, true, true, true, true, true, true, true, true, true, true, true] [(8, .bool true)] fun a HF => ?_
    refine qn (by kernel_rfl) ?_
    exact ⟨Ab, cb, g7, HF.sub (by kernel_rfl), HM.picks [0, 1, 2] (by decide) rfl, hcb⟩
   refine all_cons ?_ all_nil
   refine qm HF (i := 11) rfl rfl ?_
   refine qr HF HM (cs := #[vB 0, vB 0, vI 0, vI 0, .slice none 0 0]) rfl (by kernel_rfl) rfl (by decide) ?_
   clear HF HM; intro a w7 g7 HF HM
   refine keepS (HM.picks [1] (by decide) rfl) (fun HS => ?_)
   refine qj [7] (by kernel_rfl) rfl ?_
   refine all_cons ?_ all_nil
   refine qm HF (i := 7) rfl rfl ?_
   refine e_cl HF [vB (Lb.getD 7 0), .slice (if cp = 8 then some ⟨gA, oA, none⟩ else (some ⟨gA, oA, none⟩ : Option Addr).map (·.add (8 * 1))) (((lenR l).1 - 4) - 8) (cp - 8)] rfl rfl ((qbo (Lb.getD 7 0) hkd _ (((lenR l).1 - 4) - 8) (cp - 8) ((Lb.take (Lb.length - 4)).drop 8) B _ (hL.mem HM hB) (HM.le hB) (HM.old (by rw [hnL]; exact hrL.ql0 (i := 8) (j := (lenR l).1 - 4) (by omega) (by omega) (by omega))) (by omega) (by rw [List.length_drop, List.length_take]; omega) (by omega) (qa7 (qbc hlL _) _)).mono (fun _ _ h => h.some hp)) ?_
   rintro _ w60 ⟨⟨Ab, cb, rfl, ho, hcb⟩, hbw⟩
   refine ⟨_, rfl, ?_⟩
   replace HM := HM.callRow hbw ho
   clear HF; intro a HF
   refine keepS (HM.picks [2] (by decide) rfl) (fun HS => ?_)
   refine ap HF (fun _ => HS) [8, 9, 10] #[true, true, true, true, true, true, true, true, true, true, true, true, false, false] [(62, .bool true), (61, .agg (b.cells Ab cb))] fun a HF => ?_
   refine qj [12] (by kernel_rfl) rfl ?_
   refine all_cons ?_ all_nil
   refine qm HF (i := 12) rfl rfl ?_
   refine e_sa HF HM 1 rfl rfl rfl rfl rfl si_bk rfl rfl (qb3 _ _ _) ?_
   clear HM; intro w13_12 HM
   refine noS (by kernel_rfl) ?_
   refine ap HF (pastS (by kernel_rfl)) [13] #[true, true, true, true, true, true, true, true, true, true, true, true, true, true] [(8, .bool true)] fun a HF => ?_
   refine qn (by kernel_rfl) ?_
   exact ⟨Ab, cb, g7, HF.sub (by kernel_rfl), HM.picks [1, 0, 2] (by decide) rfl, hcb⟩
  clear HF HM; rintro a w13 ⟨Ab, cb, g7, HF, HM, hcb⟩
  refine wp_seq (wp_seq (qa ?_))
  refine fp HF 2 0 [(64, .bool false)] fun a HF => ?_
  refine qb rfl (qe HF rfl (wp_skip (wp_seq (qa ?_))))
  refine fy HF HM 0 rfl rfl rfl (v := .agg (b.cells Ab cb)) (Yl.zg rfl rfl si_bk rfl (fun _ h => qd (h.blk (i := 0) rfl))) fun a HF => ?_
  refine fp HF 1 1 [(67, vI ((lenR l).1))] fun a HF => ?_
  refine fo HF 2 rfl rfl ?_
  refine e_sa HF HM 2 rfl rfl rfl rfl rfl si_bk rfl rfl (qb3 _ _ _) ?_
  clear HM; intro w16_2 HM
  refine fp HF 2 3 [(4, vI 0), (3, vI ((lenR l).1))] fun a HF => ?_
  refine qb rfl (wp_ret ?_)
  exact ret3 rfl HF (.cellS (i := 2) HF HM rfl rfl si_bk rfl) (.tmp HF rfl) (.tmp HF rfl) (qig (qfv (e := 0) hl0 hLb (by unfold blkOf; rw [if_neg (by rw [hs]; decide), if_neg (fun hh => hh hmg), if_neg (by omega), if_neg (by omega), hp])) (HM.own (i := 1) rfl) hcb HM.below)
theorem qd6 {b d : Bk} (h : (b.kind : Int) ≠ d.kind ∨ (b.cpu : Int) ≠ d.cpu ∨ b.lost ≠ d.lost ∨ b.next ≠ d.next) : decide (b = d) = false := by
 rw [decide_eq_false]
 rintro rfl
 omega
theorem qug {b d : Bk} (h1 : b.kind = d.kind) (h2 : b.cpu = d.cpu) (h3 : b.lost = d.lost) (h4 : b.next = d.next) : decide (b.evs = d.evs) = decide (b = d) := by
 rw [Bool.eq_iff_iff, decide_eq_true_eq, decide_eq_true_eq]
 cases b; cases d
 simp only at h1 h2 h3 h4
 subst h1; subst h2; subst h3; subst h4
 simp
theorem quh (b d : Bk) (A A2 : Option Addr) (c c2 : Nat) (w : World) (hr : Rd w w.heap.size 11 A b.evs.length (b.evs.flatMap evL)) (hr2 : Rd w w.heap.size 11 A2 d.evs.length (d.evs.flatMap evL)) (hn : b.evs.length ≤ 1000000) :
    Calls Tryd.prog 23 #[.agg (b.cells A c), .agg (d.cells A2 c2)] w (Is w (.bool (decide (b = d)))) := by
 refine qg (vs := [.agg (b.cells A c), .agg (d.cells A2 c2)]) Tryd.func23 rfl rfl (by kernel_rfl) (σ0 := [(0, .agg (b.cells A c)), (1, .agg (d.cells A2 c2))]) rfl ?_
 intro a HF
 have HM := Mem.start w
 refine wp_seq (qa ?_)
 refine fo HF 0 rfl rfl ?_
 refine e_box HF HM (cs := (b.cells A c)) rfl rfl rfl rfl (by decide) ?_
 clear HF HM; intro a w2 g2 HF HM
 refine fo HF 1 rfl rfl ?_
 refine e_box HF HM (cs := (d.cells A2 c2)) rfl rfl rfl rfl (by decide) ?_
 clear HF HM; intro a w3 g3 HF HM
 refine fp HF 1 2 [(4, .bool false)] fun a HF => ?_
 refine qb rfl (wp_seq (qa ?_))
 refine fp HF 1 0 [(5, vP g2 0)] fun a HF => ?_
 refine fy HF HM 1 rfl rfl rfl (v := vB b.kind) (Yl.qh rfl rfl (by kernel_rfl) (fun _ h => h.cell (i := 1) rfl (rfl))) fun a HF => ?_
 refine fp HF 1 2 [(7, vP g3 0)] fun a HF => ?_
 refine fy HF HM 3 rfl rfl rfl (v := vB d.kind) (Yl.qh rfl rfl (by kernel_rfl) (fun _ h => h.cell (i := 0) rfl (rfl))) fun a HF => ?_
 refine fp HF 2 4 [(10, .bool ((b.kind : Int) == (d.kind : Int)))] fun a HF => ?_
 rcases HF.tf 10 rfl with ⟨hb10, HF⟩ | ⟨hb10, HF⟩
 ·
  have hd10 := eq_of_beq hb10
  refine fp HF 1 6 [(11, vP g2 1)] fun a HF => ?_
  refine fy HF HM 7 rfl rfl rfl (v := vB b.cpu) (Yl.qh rfl rfl (by kernel_rfl) (fun _ h => h.cell (i := 1) rfl (rfl))) fun a HF => ?_
  refine fp HF 1 8 [(13, vP g3 1)] fun a HF => ?_
  refine fy HF HM 9 rfl rfl rfl (v := vB d.cpu) (Yl.qh rfl rfl (by kernel_rfl) (fun _ h => h.cell (i := 0) rfl (rfl))) fun a HF => ?_
  refine fp HF 3 10 [(17, .bool ((b.cpu : Int) == (d.cpu : Int)))] fun a HF => ?_
  rcases HF.tf 17 rfl with ⟨hb17, HF⟩ | ⟨hb17, HF⟩
  ·
   have hd17 := eq_of_beq hb17
   refine fp HF 1 13 [(18, vP g2 2)] fun a HF => ?_
   refine fy HF HM 14 rfl rfl rfl (v := vI b.lost) (Yl.qh rfl rfl (by kernel_rfl) (fun _ h => h.cell (i := 1) rfl (rfl))) fun a HF => ?_
   refine fp HF 1 15 [(20, vP g3 2)] fun a HF => ?_
   refine fy HF HM 16 rfl rfl rfl (v := vI d.lost) (Yl.qh rfl rfl (by kernel_rfl) (fun _ h => h.cell (i := 0) rfl (rfl))) fun a HF => ?_
   refine fp HF 3 17 [(24, .bool ((b.lost : Int) == (d.lost : Int)))] fun a HF => ?_
   rcases HF.tf 24 rfl with ⟨hb24, HF⟩ | ⟨hb24, HF⟩
   ·
    have hd24 := eq_of_beq hb24
    refine fp HF 1 20 [(25, vP g2 3)] fun a HF => ?_
    refine fy HF HM 21 rfl rfl rfl (v := vI b.next) (Yl.qh rfl rfl (by kernel_rfl) (fun _ h => h.cell (i := 1) rfl (rfl))) fun a HF => ?_
    refine fp HF 1 22 [(27, vP g3 3)] fun a HF => ?_
    refine fy HF HM 23 rfl rfl rfl (v := vI d.next) (Yl.qh rfl rfl (by kernel_rfl) (fun _ h => h.cell (i := 0) rfl (rfl))) fun a HF => ?_
    refine fp HF 3 24 [(31, .bool ((b.next : Int) == (d.next : Int)))] fun a HF => ?_
    rcases HF.tf 31 rfl with ⟨hb31, HF⟩ | ⟨hb31, HF⟩
    ·
     have hd31 := eq_of_beq hb31
     refine fp HF 1 27 [(32, vP g2 4)] fun a HF => ?_
     refine fy HF HM 28 rfl rfl rfl (v := .slice A b.evs.length c) (Yl.qh rfl rfl (by kernel_rfl) (fun _ h => h.cell (i := 1) rfl (rfl))) fun a HF => ?_
     refine fp HF 1 29 [(34, vP g3 4)] fun a HF => ?_
     refine fy HF HM 30 rfl rfl rfl (v := .slice A2 d.evs.length c2) (Yl.qh rfl rfl (by kernel_rfl) (fun _ h => h.cell (i := 0) rfl (rfl))) fun a HF => ?_
     refine fo HF 31 rfl rfl ?_
     refine e_is HF HM [.slice A b.evs.length c, .slice A2 d.evs.length c2] (.bool (decide (b.evs = d.evs))) rfl rfl (qrd _ _ _ _ _ _ b.evs d.evs _ (HM.old hr) (HM.old hr2) rfl rfl (by omega)) fun w36 hbw HM a HF => ?_
     refine fp HF 2 32 [(4, .bool (decide (b.evs = d.evs)))] fun a HF => ?_
     refine qb rfl (wp_ret ?_)
     replace HM := HM.picks (fs' := []) [] (by decide) rfl
     exact ret1 rfl HF (.tmp HF rfl) (⟨by rw [qug (by omega) (by omega) (by omega) (by omega)], HM.below⟩)
    have hd31 := ne_of_beq_false hb31
    refine fp HF 7 27 [(4, .bool false)] fun a HF => ?_
    refine qb rfl (wp_ret ?_)
    replace HM := HM.picks (fs' := []) [] (by decide) rfl
    exact ret1 rfl HF (.tmp HF rfl) (⟨by rw [qd6 (by omega)], HM.below⟩)
   have hd24 := ne_of_beq_false hb24
   refine fp HF 14 20 [(4, .bool false)] fun a HF => ?_
   refine qb rfl (wp_ret ?_)
   replace HM := HM.picks (fs' := []) [] (by decide) rfl
   exact ret1 rfl HF (.tmp HF rfl) (⟨by rw [qd6 (by omega)], HM.below⟩)
  have hd17 := ne_of_beq_false hb17
  refine fp HF 21 13 [(4, .bool false)] fun a HF => ?_
  refine qb rfl (wp_ret ?_)
  replace HM := HM.picks (fs' := []) [] (by decide) rfl
  exact ret1 rfl HF (.tmp HF rfl) (⟨by rw [qd6 (by omega)], HM.below⟩)
 have hd10 := ne_of_beq_false hb10
 refine fp HF 28 6 [(4, .bool false)] fun a HF => ?_
 refine qb rfl (wp_ret ?_)
 replace HM := HM.picks (fs' := []) [] (by decide) rfl
 exact ret1 rfl HF (.tmp HF rfl) (⟨by rw [qd6 (by omega)], HM.below⟩)
theorem qa6.as {w w' : World} {er er' : Nat} {R R' : List Nat} {r : Ending} (h : qa6 w er R r w') (h1 : er = er') (h2 : R = R') : qa6 w er' R' r w' := by subst h1; subst h2; exact h
theorem qrs (b : Bk) (hok : b.Ok) (A : Option Addr) (c B : Nat) (w : World) (hL : LaidX B w) (hB : B ≤ w.heap.size) (hr : Rd w w.heap.size 11 A b.evs.length (b.evs.flatMap evL)) (hn : b.evs.length ≤ 1000000) {er : Nat} {R : List Nat} (h1 : b.err = er) (h2 : b.out = R) : Calls Tryd.prog 24 #[.agg (b.cells A c)] w (qa6 w er R) :=
 (qih b hok A c B w hL hB hr hn).mono fun _ _ h => h.as h1 h2
theorem qrt (b : Bk) (hok : b.Ok) (A : Option Addr) (c B : Nat) (w : World) (hL : LaidX B w) (hB : B ≤ w.heap.size) (hr : Rd w w.heap.size 11 A b.evs.length (b.evs.flatMap evL)) (hn : b.evs.length ≤ 1000000) {er : Nat} (h1 : b.err = er) : Calls Tryd.prog 13 #[.agg (b.cells A c)] w (Is w (.int .i64 (er : Int))) :=
 (qox b hok A c B w hL hB hr hn).mono fun _ _ h => by rw [h1] at h; exact h
theorem qji (A : Option Addr) (n cp : Nat) (l : List Nat) (B : Nat) (w : World) (hL : LaidX B w) (hB : B ≤ w.heap.size) (hr : Rd w w.heap.size 1 A n (l.map B8)) (hc : n ≤ cp) (hln : l.length = n) (hn : n ≤ 9223372036854775807) (hl : ∀ b ∈ l, b < 256) {b : Bk} {m er : Nat} (h : readB l = (b, m, er)) :
  Calls Tryd.prog 47 #[.slice A n cp] w fun r w' => (∃ A c, r = .returned (.tuple #[.agg (b.cells A c), .int .i64 (m : Int), .int .i64 (er : Int)]) ∧ w'.ownsRow w.heap.size 45 11 (.slice A b.evs.length c) b.evs.length (b.evs.flatMap evL) ∧ b.evs.length ≤ c) ∧ Below w.heap.size w w' :=
 (qro A n cp l B w hL hB hr hc hln hn hl).mono fun _ _ hh => by rw [h] at hh; exact hh
def tickE : Ev := { Ev.zero with seq := 5, time := 340, cpu := 2, kind := 5, ticks := 40, got := 7 }
def awX : List Nat := [13, 0, 0, 0, 113, 116, 1, 2, 7, 91, 144, 57, 154]
theorem qye : tickE.Ok := ⟨⟨by decide, by decide⟩, ⟨by decide, by decide⟩, by decide, by decide, ⟨by decide, by decide⟩, ⟨by decide, by decide⟩, ⟨by decide, by decide⟩, ⟨by decide, by decide⟩, ⟨by decide, by decide⟩, by decide, ⟨by decide, by decide⟩⟩
theorem qvt : ∀ b ∈ awX, b < 256 := by decide
def atOf (b : Bs) (l : List Ev) : Nat → Bs
 | 0 => b
 | k + 1 => (l.getD k Ev.zero).at
theorem qk1 : ∀ (l : List Ev) (b : Bs) (k : Nat), k < l.length → recs b (l.take (k + 1)) = recs b (l.take k) ++ zb (atOf b l k) (l.getD k Ev.zero)
 | [], _, _, h => by simp at h
 | e :: r, b, 0, _ => by simp [recs, atOf]
 | e :: r, b, k + 1, h => by
  have h' : k < r.length := by simpa using h
  have ih := qk1 r e.at k h'
  rw [List.take_succ_cons, List.take_succ_cons, recs, recs, ih, List.append_assoc]
  congr 2
  cases k with
  | zero => rfl
  | succ k => rfl
theorem qk2 {cpu : Nat} : ∀ (l : List Ev) (p : Option Ev) (b : Bs) (k : Nat), Chain cpu p b l → k < l.length → Fit (atOf b l k) (l.getD k Ev.zero)
 | [], _, _, _, _, h => by simp at h
 | e :: r, p, b, 0, hc, _ => hc.1
 | e :: r, p, b, k + 1, hc, h => by
  have h' : k < r.length := by simpa using h
  have ih := qk2 r (some e) e.at k hc.2.2.2 h'
  cases k with
  | zero => exact ih
  | succ k => exact ih
theorem qww {b : Bs} {e : Ev} (h : Fit b e) : qah b e = 0 ∧ qb1 b e = zb b e := by
 have h1 : qah b e = 0 := by
  unfold qah
  rw [if_neg (by have := h.check; omega), if_pos ⟨h.right, h.behind⟩]
 exact ⟨h1, by unfold qb1; rw [if_pos h1]⟩
def Bk.atK (b : Bk) (k : Nat) : Bs := atOf b.base b.evs k
def Bk.sz (b : Bk) (k : Nat) : Nat := 12 + (vbytes b.cpu).length + (vbytes b.lost.toNat).length + (vbytes b.base.seq.toNat).length + (vbytes b.base.time.toNat).length + (recs b.base (b.evs.take k)).length
def Bk.big (b : Bk) (k : Nat) : Bool := decide (4096 < b.sz k + (vbytes k).length)
def Bk.qea (b : Bk) : Nat := ((List.range b.evs.length).find? fun i => b.big (i + 1)).getD b.evs.length
def Bk.fill (b : Bk) : Nat × Nat := if b.fits = false then (0, 107) else (b.qea, 0)
theorem sz_le (b : Bk) (k : Nat) : b.sz k ≤ 52 + 61 * k := by
 unfold Bk.sz
 have h1 := qs b.cpu
 have h2 := qs b.lost.toNat
 have h4 := qs b.base.seq.toNat
 have h5 := qs b.base.time.toNat
 have h6 := qgj (b.evs.take k) b.base
 rw [List.length_take] at h6
 have : min k b.evs.length ≤ k := Nat.min_le_left _ _
 have h7 : 61 * min k b.evs.length ≤ 61 * k := Nat.mul_le_mul_left _ this
 omega
theorem qwx (b : Bk) : b.sz 0 = 8 + ([b.cpu, b.lost.toNat, b.base.seq.toNat, b.base.time.toNat].flatMap vbytes).length + 4 := by
 unfold Bk.sz
 simp [recs]
 omega
theorem qrv {b : Bk} {k : Nat} (h : k < b.evs.length) : b.sz (k + 1) = b.sz k + (zb (b.atK k) (b.evs.getD k Ev.zero)).length := by
 unfold Bk.sz Bk.atK
 rw [qk1 _ _ _ h, List.length_append]
 omega
theorem qnp {b : Bk} {k : Nat} (hk : k < b.evs.length) (hno : ∀ i, i < k → b.big (i + 1) = false) (h : b.big (k + 1) = true) : b.qea = k := by
 unfold Bk.qea
 have : (List.range b.evs.length).find? (fun i => b.big (i + 1)) = some k := by
  rw [List.find?_eq_some_iff_append]
  refine ⟨h, List.range k, List.range' (k + 1) (b.evs.length - k - 1), ?_, ?_⟩
  ·rw [List.range_eq_range', List.range_eq_range']
   have e1 : b.evs.length = k + (b.evs.length - k) := by omega
   have e2 : b.evs.length - k = (b.evs.length - k - 1) + 1 := by omega
   conv => lhs; rw [e1, ← List.range'_append_1, e2, List.range'_succ]
   simp
  ·intro i hi
   have := hno i (List.mem_range.1 hi)
   simp [this]
 rw [this]
 rfl
theorem qha {b : Bk} (hno : ∀ i, i < b.evs.length → b.big (i + 1) = false) : b.qea = b.evs.length := by
 unfold Bk.qea
 have : (List.range b.evs.length).find? (fun i => b.big (i + 1)) = none := by
  rw [List.find?_eq_none]
  intro i hi
  have := hno i (List.mem_range.1 hi)
  simp [this]
 rw [this]
 rfl
theorem qjj {w w' : World} {b : Bk} {n e : Nat} (h : b.fill = (n, e)) (hb : Below w.heap.size w w') : Is w (.tuple #[.int .i64 (b.fill.1 : Int), .int .i64 (b.fill.2 : Int)]) (.returned (.tuple #[.int .i64 (n : Int), .int .i64 (e : Int)])) w' := by rw [h]; exact ⟨rfl, hb⟩
structure Sb where
 e : Bool
 cpu : Nat
 lost : Nat
 b : Bs
 l : List Sm
structure Sb.Ok (x : Sb) : Prop where
 cpu : x.cpu < 256
 lost : x.lost < 4294967296
 b : x.b.Ok
 l : ∀ y ∈ x.l, y.Ok
def Sb.cells (x : Sb) (A : Option Addr) (c : Nat) : Array Value := #[.bool x.e, .int .u8 (x.cpu : Int), .int .u32 (x.lost : Int), .int .i64 x.b.seq, .int .i64 x.b.time, .slice A x.l.length c]
def Sb.es (x : Sb) : List Ev := madeL x.cpu x.b (x.l.take 60)
def Sb.made (x : Sb) : Bk := if x.e = true then ⟨2, 0, 0, 1 + pickZ x.b.seq 281474976710657, []⟩ else ⟨1, x.cpu % 64, if x.es.length = 0 ∧ x.lost = 0 then 1 else (x.lost : Int), 0, x.es⟩
theorem qsv (x : Int) : 0 ≤ pickZ x 281474976710657 ∧ pickZ x 281474976710657 ≤ 281474976710656 := by unfold pickZ; rw [if_neg (by omega)]; omega
theorem qs1 (b : Bk) (hok : b.Ok) (A : Option Addr) (c B : Nat) (w : World) (hL : LaidX B w) (hB : B ≤ w.heap.size) (hr : Rd w w.heap.size 11 A b.evs.length (b.evs.flatMap evL)) (hn : b.evs.length ≤ 1000000) :
    Calls Tryd.prog 38 #[.agg (b.cells A c)] w (Is w (.tuple #[.int .i64 (b.fill.1 : Int), .int .i64 (b.fill.2 : Int)])) := by
 refine qg (vs := [.agg (b.cells A c)]) Tryd.func38 rfl rfl (by kernel_rfl) (σ0 := [(0, .agg (b.cells A c))]) rfl ?_
 intro a HF
 have HM := Mem.start w
 refine wp_seq (qa ?_)
 refine fo HF 0 rfl rfl ?_
 refine e_box HF HM (cs := (b.cells A c)) rfl rfl rfl rfl (by decide) ?_
 clear HF HM; intro a w1 g1 HF HM
 refine fp HF 2 1 [(3, vI 0), (2, vI 0)] fun a HF => ?_
 refine qb rfl (wp_seq (wp_seq (qa ?_)))
 refine fy HF HM 0 rfl rfl rfl (v := .agg (b.cells A c)) (Yl.zg rfl rfl si_bk rfl (fun _ h => qd (h.blk (i := 0) rfl))) fun a HF => ?_
 refine fo HF 1 rfl rfl ?_
 refine e_is HF HM [.agg (b.cells A c)] (.bool b.fits) rfl rfl (qd2 b hok A c B _ (hL.mem HM hB) (HM.le hB) (HM.old hr) hn) fun w11 hbw HM a HF => ?_
 refine fp HF 1 2 [(12, .bool (!b.fits))] fun a HF => ?_
 refine qb rfl ?_
 rcases HF.tf 12 rfl with ⟨hb12, HF⟩ | ⟨hb12, HF⟩
 ·
  have hf : b.fits = false := by simpa using hb12
  refine qf HF rfl (wp_seq (qa ?_))
  refine fp HF 2 0 [(3, vI 107), (2, vI 0)] fun a HF => ?_
  refine qb rfl (wp_ret ?_)
  exact ret2 rfl HF (.tmp HF rfl) (.tmp HF rfl) (qjj (by unfold Bk.fill; rw [if_pos hf]) HM.below)
 have hf : b.fits = true := by simpa using hb12
 refine qe HF rfl (wp_skip (wp_seq (wp_seq (qa ?_))))
 refine fp HF 1 0 [(13, vP g1 4)] fun a HF => ?_
 refine fy HF HM 1 rfl rfl rfl (v := .slice A b.evs.length c) (Yl.qh rfl rfl (by kernel_rfl) (fun _ h => h.cell (i := 0) rfl (rfl))) fun a HF => ?_
 refine fy HF HM 2 rfl rfl rfl (Yl.len rfl rfl (by kernel_rfl)) fun a HF => ?_
 refine fp HF 1 3 [(16, .bool ((b.evs.length : Int) == (0 : Int)))] fun a HF => ?_
 refine qb rfl ?_
 rcases HF.tf 16 rfl with ⟨hb16, HF⟩ | ⟨hb16, HF⟩
 ·
  have hd16 := eq_of_beq hb16
  refine qf HF rfl (wp_seq (qa ?_))
  refine fp HF 2 0 [(3, vI 0), (2, vI 0)] fun a HF => ?_
  refine qb rfl (wp_ret ?_)
  exact ret2 rfl HF (.tmp HF rfl) (.tmp HF rfl) (qjj (by unfold Bk.fill; rw [if_neg (by rw [hf]; decide), qha (fun i hi => absurd hi (by omega)), show b.evs.length = 0 by omega]) HM.below)
 have hd16 := ne_of_beq_false hb16
 have hk : b.kind ≠ 2 := fun h2 => by have := qg6 hf h2; omega
 obtain ⟨m0, m1, m2, m3, m4⟩ := qkr hf hk
 obtain ⟨q1, q2, q3, q4⟩ := qni hok hf hk (by omega)
 obtain ⟨e0, r0, g0⟩ := qgk hok (qe6 hf hk).2 (by omega)
 have hch := g0.chain
 rw [← g0.base] at hch
 refine qe HF rfl (wp_skip (wp_seq (qa ?_)))
 refine fy HF HM 0 rfl rfl rfl (v := .agg (b.cells A c)) (Yl.zg rfl rfl si_bk rfl (fun _ h => qd (h.blk (i := 0) rfl))) fun a HF => ?_
 refine fo HF 1 rfl rfl ?_
 refine e_is HF HM [.agg (b.cells A c)] (.agg b.base.cells) rfl rfl (qnk b A c _ (HM.old hr) (by omega)) fun w18 hbw HM a HF => ?_
 refine fo HF 2 rfl rfl ?_
 refine qr HF HM (cs := #[vI 0, vI 0]) rfl (by kernel_rfl) rfl (by decide) ?_
 clear HF HM; intro a w4 g4 HF HM
 refine fo HF 3 rfl rfl ?_
 refine e_sa HF HM 0 rfl rfl rfl rfl rfl ⟨(by kernel_rfl), (by kernel_rfl)⟩ rfl rfl (qvf b.base) ?_
 clear HM; intro w5_3 HM
 refine qb rfl (wp_seq (qa ?_))
 refine fp HF 1 0 [(19, vP g1 1)] fun a HF => ?_
 refine fy HF HM 1 rfl rfl rfl (v := vB b.cpu) (Yl.qh rfl rfl (by kernel_rfl) (fun _ h => h.cell (i := 1) rfl (rfl))) fun a HF => ?_
 refine fp HF 1 2 [(21, vQ (IntKind.u64.wrap (b.cpu : Int)))] fun a HF => ?_
 replace HF := HF.sp 21 (vQ b.cpu) rfl (qaw rfl (by omega))
 refine fp HF 1 3 [(22, vP g1 2)] fun a HF => ?_
 refine fy HF HM 4 rfl rfl rfl (v := vI b.lost) (Yl.qh rfl rfl (by kernel_rfl) (fun _ h => h.cell (i := 1) rfl (rfl))) fun a HF => ?_
 refine fp HF 1 5 [(24, vQ (IntKind.u64.wrap b.lost))] fun a HF => ?_
 replace HF := HF.sp 24 (vQ b.lost.toNat) rfl (qaw (by omega) (by omega))
 refine fp HF 1 6 [(25, vP g4 0)] fun a HF => ?_
 refine fy HF HM 7 rfl rfl rfl (v := vI b.base.seq) (Yl.qh rfl rfl (by kernel_rfl) (fun _ h => h.cell (i := 0) rfl (rfl))) fun a HF => ?_
 refine fp HF 1 8 [(27, vQ (IntKind.u64.wrap b.base.seq))] fun a HF => ?_
 replace HF := HF.sp 27 (vQ b.base.seq.toNat) rfl (qaw (by omega) (by omega))
 refine fp HF 1 9 [(28, vP g4 1)] fun a HF => ?_
 refine fy HF HM 10 rfl rfl rfl (v := vI b.base.time) (Yl.qh rfl rfl (by kernel_rfl) (fun _ h => h.cell (i := 0) rfl (rfl))) fun a HF => ?_
 refine fp HF 1 11 [(30, vQ (IntKind.u64.wrap b.base.time))] fun a HF => ?_
 replace HF := HF.sp 30 (vQ b.base.time.toNat) rfl (qaw (by omega) (by omega))
 refine fo HF 12 rfl rfl ?_
 refine qar HF HM (vs := [(0, vQ b.cpu), (1, vQ b.lost.toNat), (2, vQ b.base.seq.toNat), (3, vQ b.base.time.toNat)]) (cs := #[vQ b.cpu, vQ b.lost.toNat, vQ b.base.seq.toNat, vQ b.base.time.toNat]) rfl qjz (by decide) rfl (by kernel_rfl) rfl (by decide) ?_
 clear HF HM; intro a w31 g31 HF HM
 refine fo HF 13 rfl rfl ?_
 refine e_cl HF [vS g31 4 4] rfl rfl (qq8 _ 4 _ [b.cpu, b.lost.toNat, b.base.seq.toNat, b.base.time.toNat] _ (HM.rdBlk (i := 0) (n := 4) (size := 1) rfl rfl) (by intro x hx; simp only [List.mem_cons, List.not_mem_nil, or_false] at hx; omega) (by omega)) ?_
 rintro _ w32 ⟨⟨A32, c32, rfl, ho, hc32⟩, hbw⟩
 refine ⟨_, rfl, ?_⟩
 replace HM := HM.callRow hbw ho
 clear HF; intro a HF
 have hfl := qba [b.cpu, b.lost.toNat, b.base.seq.toNat, b.base.time.toNat]
 refine fy HF HM 14 rfl rfl rfl (Yl.len rfl rfl (by kernel_rfl)) fun a HF => ?_
 refine fp HF 1 15 [(34, vI (IntKind.i64.wrap (8 + ((([b.cpu, b.lost.toNat, b.base.seq.toNat, b.base.time.toNat].flatMap vbytes).length : Nat) : Int))))] fun a HF => ?_
 replace HF := HF.sp 34 (vI (8 + ([b.cpu, b.lost.toNat, b.base.seq.toNat, b.base.time.toNat].flatMap vbytes).length : Nat)) rfl (qi (by omega) (by simp only [List.length_cons, List.length_nil] at hfl; omega))
 refine fp HF 1 16 [(35, vI (IntKind.i64.wrap (((8 + ([b.cpu, b.lost.toNat, b.base.seq.toNat, b.base.time.toNat].flatMap vbytes).length : Nat) : Int) + 4)))] fun a HF => ?_
 replace HF := HF.sp 35 (vI (b.sz 0)) rfl (qi (by rw [qwx]; omega) (by have := sz_le b 0; omega))
 refine fp HF 1 17 [(5, vI (b.sz 0))] fun a HF => ?_
 refine qb rfl (wp_seq (wp_seq (qa ?_)))
 refine fp HF 1 0 [(36, vP g1 4)] fun a HF => ?_
 refine fy HF HM 1 rfl rfl rfl (v := .slice A b.evs.length c) (Yl.qh rfl rfl (by kernel_rfl) (fun _ h => h.cell (i := 3) rfl (rfl))) fun a HF => ?_
 refine fy HF HM 2 rfl rfl rfl (Yl.len rfl rfl (by kernel_rfl)) fun a HF => ?_
 refine fp HF 1 3 [(39, vI 0)] fun a HF => ?_
 refine qb rfl (wp_block ?_)
 replace HM := HM.picks (fs' := [.blk g4 b.base.cells 26, .blk g1 (b.cells A c) 41]) [2, 3] (by decide) rfl
 refine zk (fun mS aS wS => ∃ (k : Nat), (k ≤ b.evs.length) ∧ (∀ i, i < k → b.big (i + 1) = false) ∧ mS = b.evs.length - k ∧ Fr aS 70 [] [(39, vI k), (38, vI b.evs.length), (37, .slice A b.evs.length c), (5, vI (b.sz k)), (4, vP g4 0), (16, .bool false), (12, .bool false), (3, vI 0), (2, vI 0), (1, vP g1 0)] ∧ Mem w wS [.blk g4 ((b.atK k).cells) 26, .blk g1 (b.cells A c) 41]) (m := b.evs.length - 0) ⟨0, Nat.zero_le _, fun i hi => absurd hi (Nat.not_lt_zero _), rfl, HF.sub (by kernel_rfl), HM.picks [0, 1] (by decide) rfl⟩ ?_
 clear HF HM; rintro mS a w_ ⟨k, hk0, hno, rfl, HF, HM⟩
 refine wp_seq (qa ?_)
 refine fp HF 1 0 [(40, .bool (decide ((k : Int) < (b.evs.length : Int))))] fun a HF => ?_
 refine qb rfl (wp_seq ?_)
 rcases HF.tf 40 rfl with ⟨hb40, HF⟩ | ⟨hb40, HF⟩
 ·
  have hd40 := of_decide_eq_true hb40
  have hk40 : k < b.evs.length := by omega
  have hp := qww (qk2 b.evs none b.base k hch hk40)
  have hs0 := sz_le b k
  have hs1 := sz_le b (k + 1)
  have hvb := qs (k + 1)
  refine qf HF rfl (wp_skip (wp_seq (wp_block (wp_seq (qa ?_)))))
  refine fp HF 1 0 [(41, vI k)] fun a HF => ?_
  obtain ⟨gA, oA, rfl, _⟩ := hr.qas (Nat.lt_of_le_of_lt (Nat.zero_le _) (show k < b.evs.length from by omega)) (by decide)
  refine fy HF HM 1 rfl rfl rfl (v := vP gA (oA + k * 11)) (Yl.ix gA oA k 11 rfl rfl rfl) fun a HF => ?_
  refine fy HF HM 2 rfl rfl rfl (v := .agg ((b.evs.getD k Ev.zero).cells)) (Yl.zg rfl rfl ⟨(by kernel_rfl), (by kernel_rfl)⟩ rfl (fun _ h => (h.old hr).qce zr ((getD_at Ev.zero (k := k) (by first | omega | (simp; omega)))))) fun a HF => ?_
  refine fo HF 3 rfl rfl ?_
  refine qr HF HM (cs := #[vI 0, vI 0, vB 0, vB 0, vI 0, vI 0, vI 0, vI 0, vI 0, vQ 0, vI 0]) rfl (by kernel_rfl) rfl (by decide) ?_
  clear HF HM; intro a w7 g7 HF HM
  refine fp HF 1 4 [(6, vI k)] fun a HF => ?_
  refine fo HF 5 rfl rfl ?_
  refine e_sa HF HM 0 rfl rfl rfl rfl rfl ⟨(by kernel_rfl), (by kernel_rfl)⟩ rfl rfl (qaa (b.evs.getD k Ev.zero)) ?_
  clear HM; intro w9_5 HM
  refine qb rfl (wp_seq (qa ?_))
  refine fy HF HM 0 rfl rfl rfl (v := .agg ((b.atK k).cells)) (Yl.zg rfl rfl ⟨(by kernel_rfl), (by kernel_rfl)⟩ rfl (fun _ h => qd (h.blk (i := 1) rfl))) fun a HF => ?_
  refine fy HF HM 1 rfl rfl rfl (v := .agg ((b.evs.getD k Ev.zero).cells)) (Yl.zg rfl rfl ⟨(by kernel_rfl), (by kernel_rfl)⟩ rfl (fun _ h => qd (h.blk (i := 0) rfl))) fun a HF => ?_
  refine fo HF 2 rfl rfl ?_
  refine e_cl HF [.agg ((b.atK k).cells), .agg ((b.evs.getD k Ev.zero).cells)] rfl rfl (qwn (b.atK k) (b.evs.getD k Ev.zero) (hok.evs _ (qap _ (by omega))) B _ (hL.mem HM hB).laid (HM.le hB) (congrArg List.length hp.2) hp.1) ?_
  rintro _ w47 ⟨rfl, hbw⟩
  refine ⟨_, rfl, ?_⟩
  replace HM := HM.call hbw
  clear HF; intro a HF
  refine fp HF 5 3 [(8, vI ((zb (b.atK k) (b.evs.getD k Ev.zero)).length))] fun a HF => ?_
  refine qb rfl (wp_seq (qa ?_))
  refine fp HF 3 0 [(52, vI (IntKind.i64.wrap ((b.sz k : Int) + ((zb (b.atK k) (b.evs.getD k Ev.zero)).length : Int))))] fun a HF => ?_
  replace HF := HF.sp 52 (vI (b.sz (k + 1))) rfl (qi (by rw [qrv (by omega)]; omega) (by omega))
  refine fp HF 1 3 [(5, vI (b.sz (k + 1)))] fun a HF => ?_
  refine qb rfl (wp_seq (wp_seq (qa ?_)))
  refine fp HF 3 0 [(55, vI (IntKind.i64.wrap ((k : Int) + 1))), (53, vI (b.sz (k + 1)))] fun a HF => ?_
  replace HF := HF.sp 55 (vI (k + 1 : Nat)) rfl (qi (by omega) (by omega))
  refine fp HF 1 3 [(56, vQ (IntKind.u64.wrap ((k + 1 : Nat) : Int)))] fun a HF => ?_
  replace HF := HF.sp 56 (vQ (k + 1 : Nat)) rfl (qaw rfl (by omega))
  refine fo HF 4 rfl rfl ?_
  refine e_cl HF [vQ (k + 1 : Nat)] rfl rfl (qru (k + 1) _ (by omega)) ?_
  rintro _ w57 ⟨rfl, hbw⟩
  refine ⟨_, rfl, ?_⟩
  replace HM := HM.call hbw
  clear HF; intro a HF
  refine fp HF 1 5 [(58, vI (IntKind.i64.wrap ((b.sz (k + 1) : Int) + ((vbytes (k + 1)).length : Int))))] fun a HF => ?_
  replace HF := HF.sp 58 (vI (b.sz (k + 1) + ((vbytes (k + 1)).length) : Nat)) rfl (qi (by omega) (by omega))
  refine fp HF 1 6 [(59, .bool (decide (((b.sz (k + 1) + ((vbytes (k + 1)).length) : Nat) : Int) > (4096 : Int))))] fun a HF => ?_
  refine qb rfl ?_
  rcases HF.tf 59 rfl with ⟨hb59, HF⟩ | ⟨hb59, HF⟩
  ·
   have hd59 := of_decide_eq_true hb59
   refine qf HF rfl (wp_seq (qa ?_))
   refine fp HF 3 0 [(3, vI 0), (2, vI k)] fun a HF => ?_
   refine qb rfl (wp_ret ?_)
   exact ret2 rfl HF (.tmp HF rfl) (.tmp HF rfl) (qjj (by unfold Bk.fill; rw [if_neg (by rw [hf]; decide), qnp hk40 hno (by unfold Bk.big; rw [decide_eq_true]; omega)]) HM.below)
  have hd59 := of_decide_eq_false hb59
  refine qe HF rfl (wp_skip (qa ?_))
  refine fp HF 1 0 [(61, vP g7 0)] fun a HF => ?_
  refine fy HF HM 1 rfl rfl rfl (v := vI ((b.evs.getD k Ev.zero).seq)) (Yl.qh rfl rfl (by kernel_rfl) (fun _ h => h.cell (i := 0) rfl (rfl))) fun a HF => ?_
  refine fp HF 1 2 [(63, vP g7 1)] fun a HF => ?_
  refine fy HF HM 3 rfl rfl rfl (v := vI ((b.evs.getD k Ev.zero).time)) (Yl.qh rfl rfl (by kernel_rfl) (fun _ h => h.cell (i := 0) rfl (rfl))) fun a HF => ?_
  refine fy HF HM 4 rfl rfl rfl (v := .agg #[vI ((b.evs.getD k Ev.zero).seq), vI ((b.evs.getD k Ev.zero).time)]) (Yl.build (vs := [(0, vI ((b.evs.getD k Ev.zero).seq)), (1, vI ((b.evs.getD k Ev.zero).time))]) rfl (by kernel_rfl) (by kernel_rfl)) fun a HF => ?_
  refine fo HF 5 rfl rfl ?_
  refine e_sa HF HM 1 rfl rfl rfl rfl rfl ⟨(by kernel_rfl), (by kernel_rfl)⟩ rfl rfl (by simp [Value.oneCell']) ?_
  clear HM; intro w14_5 HM
  refine qb rfl (qa ?_)
  refine fp HF 1 0 [(66, vI (IntKind.i64.wrap ((k : Int) + 1)))] fun a HF => ?_
  replace HF := HF.sp 66 (vI (k + 1 : Nat)) rfl (qi (by omega) (by omega))
  refine fp HF 1 1 [(39, vI (k + 1 : Nat))] fun a HF => ?_
  refine qb rfl ?_
  exact ⟨_, (by omega), k + 1, by omega, fun i hi => (Nat.lt_succ_iff_lt_or_eq.1 hi).elim (hno i) (fun h => by subst h; unfold Bk.big; rw [decide_eq_false]; omega), rfl, HF.sub (by kernel_rfl), HM.picks [1, 2] (by decide) rfl⟩
 have hd40 := of_decide_eq_false hb40
 have hke : k = b.evs.length := by omega
 refine qe HF rfl (wp_exit (wp_seq (qa ?_)))
 refine fp HF 1 0 [(67, vP g1 4)] fun a HF => ?_
 refine fy HF HM 1 rfl rfl rfl (v := .slice A b.evs.length c) (Yl.qh rfl rfl (by kernel_rfl) (fun _ h => h.cell (i := 1) rfl (rfl))) fun a HF => ?_
 refine fy HF HM 2 rfl rfl rfl (Yl.len rfl rfl (by kernel_rfl)) fun a HF => ?_
 refine fp HF 2 3 [(3, vI 0), (2, vI b.evs.length)] fun a HF => ?_
 refine qb rfl (wp_ret ?_)
 exact ret2 rfl HF (.tmp HF rfl) (.tmp HF rfl) (qjj (by unfold Bk.fill; rw [if_neg (by rw [hf]; decide), qha (fun i hi => hno i (by omega))]) HM.below)
theorem qlr : ∀ (l : List Ev) (b : Bs) (e : Ev), recs b (l ++ [e]) = recs b l ++ zb (match l.getLast? with | some q => q.at | none => b) e
 | [], b, e => by simp [recs]
 | x :: l, b, e => by
  rw [List.cons_append, recs, recs, qlr l x.at e, List.append_assoc]
  congr 2
  cases l with
  | nil => rfl
  | cons y r => simp only [List.getLast?_cons, Option.getD_some]
def qci (b : Bs) (l : List Ev) (k : Nat) : List Nat := recs b (l.take k)
structure WriteAt (b : Bs) (l : List Ev) (k : Nat) (bk : Bs) : Prop where
 base : bk = qdh b l k
 head : 0 < k → l.head?.all b.behind = true
theorem WriteAt.start (b : Bs) (l : List Ev) : WriteAt b l 0 b := ⟨rfl, fun h => by omega⟩
section
variable {b bk : Bs} {l : List Ev} {k : Nat} {e : Ev}
theorem WriteAt.bad (h : WriteAt b l k bk) (hr : (rowR l).2 = 0) (hb : b.right = true) (hk : l[k]? = some e) (hp : qah bk e ≠ 0) : k = 0 := by
 rcases Nat.eq_zero_or_pos k with h0 | h0
 ·exact h0
 ·obtain ⟨hl, he⟩ := List.getElem?_eq_some_iff.1 hk
  have := qm9 hr hb (h.head h0) k hl
  rw [he, ← h.base] at this
  exact absurd this hp
theorem WriteAt.fail (h : WriteAt b l k bk) (hr : (rowR l).2 = 0) (hb : b.right = true) (hk : l[k]? = some e) (h0 : k = 0) (hp : qah bk e ≠ 0) : ze b l = qah bk e := by
 subst h0
 have hbk : bk = b := h.base
 subst hbk
 obtain ⟨g1, _, _⟩ := qfl l none 0 hr
 have hc := g1 e (List.mem_of_getElem? hk)
 have hbh : ¬ bk.behind e = true := by
  intro h1
  unfold qah at hp
  rw [if_neg (by simp [hc]), if_pos ⟨hb, h1⟩] at hp
  exact hp rfl
 have hh : l.head? = some e := by rw [List.head?_eq_getElem?]; exact hk
 unfold ze qah
 rw [if_neg (by omega), if_neg (by simp [hh, hbh]), if_neg (by simp [hc]), if_neg (by simp [hbh])]
theorem WriteAt.up (h : WriteAt b l k bk) (hk : l[k]? = some e) (hp : qah bk e = 0) : qci b l (k + 1) = qci b l k ++ qb1 bk e := by
 obtain ⟨hl, he⟩ := List.getElem?_eq_some_iff.1 hk
 unfold qci qb1
 rw [List.take_add_one, hk, if_pos hp, h.base]
 show recs b (l.take k ++ [e]) = _
 rw [qlr]
 congr 2
 cases k with
 | zero => simp [qdh]
 | succ j =>
  rw [show (l.take (j + 1)).getLast? = l[j]? from by rw [List.getLast?_take]; simp [List.getElem?_eq_getElem (show j < l.length by omega)]]
  rfl
theorem WriteAt.next (h : WriteAt b l k bk) (hk : l[k]? = some e) (hp : qah bk e = 0) : WriteAt b l (k + 1) e.at := by
 refine ⟨by show e.at = (match l[k]? with | some e => e.at | none => b); rw [hk], fun _ => ?_⟩
 rcases Nat.eq_zero_or_pos k with h0 | h0
 ·subst h0
  have hbk : bk = b := h.base
  subst hbk
  have hh : l.head? = some e := by rw [List.head?_eq_getElem?]; exact hk
  rw [hh]
  unfold qah at hp
  split at hp
  ·omega
  ·split at hp
   ·rename_i h1; exact h1.2
   ·omega
 ·exact h.head h0
theorem WriteAt.done {w w' : World} {n c : Nat} {A : Option Addr} (h : WriteAt b l n bk) (hr : (rowR l).2 = 0) (hb : b.right = true) (hln : l.length = n) (ho : w'.ownsRow w.heap.size 5 1 (.slice A (qci b l n).length c) (qci b l n).length ((qci b l n).map B8)) (hc : (qci b l n).length ≤ c) (hw : Below w.heap.size w w') :
  qa6 w (ze b l) (zj b l) (.returned (.tuple #[.slice A (qci b l n).length c, .int .i64 0])) w' := by
 have hh : l.head?.all b.behind = true := by
  rcases Nat.eq_zero_or_pos n with h0 | h0
  ·subst h0; rw [List.length_eq_zero_iff.1 hln]; rfl
  ·exact h.head h0
 have he : ze b l = 0 := by unfold ze; rw [if_neg (by omega), if_pos ⟨hb, hh⟩]
 have hout : zj b l = qci b l n := by unfold zj qci; rw [if_pos he, ← hln, List.take_length]
 rw [he, hout]
 exact ⟨⟨A, c, rfl, ho, hc⟩, hw⟩
end
structure ReadJn (b : Bs) (cpu : Nat) (m : Nat) (l : List Nat) (es : List Ev) (u : Nat) (bk : Bs) : Prop where
 fits : u ≤ l.length
 most : es.length ≤ u
 few : es.length ≤ m
 last : ∀ q, es.getLast? = some q → bk = q.at
 said : qv cpu m b none l = joinE es u (qv cpu (m - es.length) bk es.getLast? (l.drop u))
section
variable {b bk : Bs} {cpu m u L er : Nat} {l : List Nat} {es : List Ev} {e : Ev}
theorem ReadJn.start (b : Bs) (cpu m : Nat) (l : List Nat) : ReadJn b cpu m l [] 0 b := ⟨Nat.zero_le _, Nat.le_refl _, Nat.zero_le _, fun q h => by simp at h, (qkd cpu m b none l).symm⟩
theorem ReadJn.bad (h : ReadJn b cpu m l es u bk) (hm : es.length < m) (hq : takeR bk cpu (l.drop u) = (e, L, er)) (he : er ≠ 0) : qv cpu m b none l = ([], 0, er) := by
 rw [h.said, show m - es.length = (m - es.length - 1) + 1 by omega]
 exact qkc hq he es u
theorem ReadJn.same (h : ReadJn b cpu m l es u bk) (hm : es.length < m) (hq : takeR bk cpu (l.drop u) = (e, L, 0)) (he : es.getLast?.any (fun q => decide (e.seq = q.seq)) = true) : qv cpu m b none l = ([], 0, 71) := by
 rw [h.said, show m - es.length = (m - es.length - 1) + 1 by omega]
 exact qh4 hq he es u
theorem ReadJn.next (h : ReadJn b cpu m l es u bk) (hm : es.length < m) (hq : takeR bk cpu (l.drop u) = (e, L, 0)) (he : es.getLast?.any (fun q => decide (e.seq = q.seq)) = false) : ReadJn b cpu m l (es ++ [e]) (u + L) e.at := by
 have h1 := qgu bk cpu (l.drop u)
 rw [hq, List.length_drop] at h1
 simp only at h1
 have h2 := h1.2 trivial
 have h3 := h.fits
 have h4 := h.most
 refine ⟨by omega, by simp; omega, by simp; omega, fun q hq => ?_, ?_⟩
 ·simp at hq; rw [hq]
 ·rw [h.said, show m - es.length = (m - es.length - 1) + 1 by omega, qfm hq he es u, List.drop_drop]
  simp [Nat.sub_sub]
theorem ReadJn.done (h : ReadJn b cpu m l es u bk) (hm : m ≤ es.length) : qv cpu m b none l = (es, u, 0) := by
 rw [h.said, show m - es.length = 0 by omega]
 simp [qv, joinE]
end
theorem qjk {cpu : Nat} : ∀ (l : List Ev) (p : Option Ev) (b : Bs), Chain cpu p b l → ∀ e ∈ l, e.cpu = cpu
 | [], _, _, _, e, he => by cases he
 | x :: r, p, b, h, e, he => by
  obtain ⟨h1, h2, h3, h4⟩ := h
  rcases List.mem_cons.1 he with rfl | he
  ·exact h2
  ·exact qjk r (some x) x.at h4 e he
theorem qhb {cpu : Nat} : ∀ (l : List Ev) (p : Option Ev) (b : Bs) (k : Nat), Chain cpu p b l → Chain cpu p b (l.take k)
 | [], _, _, k, _ => by rw [List.take_nil]; trivial
 | _ :: _, _, _, 0, _ => trivial
 | e :: r, _, _, k + 1, h => ⟨h.1, h.2.1, h.2.2.1, qhb r (some e) e.at k h.2.2.2⟩
theorem qk3 {b : Bk} (h1 : b.kind = 1) (h2 : b.cpu ≤ 63) (h3 : 0 ≤ b.lost) (h4 : b.lost ≤ 281474976710656) (h5 : b.next = 0) (h6 : ¬ (b.lost = 0 ∧ b.evs.length = 0)) (hall : ∀ k, k < b.evs.length → (b.evs.getD k Ev.zero).cpu = b.cpu) :
  b.fits = decide ((rowR b.evs).2 = 0) := by
 have hh : b.qgh = true := by
  by_cases h : b.evs.length = 0
  ·rw [qic h, decide_eq_true_eq]; omega
  ·rw [qg5 h, decide_eq_true_eq]; exact hall 0 (by omega)
 unfold Bk.fits
 rw [if_pos h1]
 unfold Bk.qcw
 rw [Bool.eq_iff_iff, decide_eq_true_eq, decide_eq_true_eq]
 exact ⟨fun h => h.1, fun h => ⟨h, by omega, h3, h4, h5, hh⟩⟩
def Bk.upto (b : Bk) (n : Nat) : Bk := ⟨b.kind, b.cpu, b.lost, b.next, b.evs.take n⟩
theorem qun {b : Bk} {n : Nat} (h : n ≤ b.evs.length) : (b.upto n).evs.length = n := by show (b.evs.take n).length = n; rw [List.length_take]; omega
theorem qrw {b : Bk} (hk : b.kind = 1) {n : Nat} (h1 : 0 < n) (h2 : n ≤ b.evs.length) : 12 + (b.upto n).body.length = b.sz n + (vbytes n).length := by
 have hb : (b.upto n).base = b.base := by
  unfold Bk.base Bk.upto
  cases hl : b.evs with
  | nil => simp
  | cons e r =>
   cases n with
   | zero => omega
   | succ j => rfl
 have hl2 := qun h2
 unfold Bk.body Bk.sz
 rw [if_neg (by show ¬ b.kind = 2; omega), hb]
 simp only [hl2]
 rw [if_neg (by omega)]
 show 12 + (vbytes b.cpu ++ vbytes b.lost.toNat ++ vbytes n ++ (vbytes b.base.seq.toNat ++ vbytes b.base.time.toNat ++ recs b.base (b.evs.take n))).length = _
 simp only [List.length_append]
 omega
theorem qrx : ∀ (f x y : Nat), x ≤ y → (grp f x).length ≤ (grp f y).length
 | 0, x, y, _ => by simp [grp]
 | f + 1, x, y, h => by
  rcases Nat.lt_or_ge x 128 with h1 | h1
  ·rw [qdg f x h1]
   rcases Nat.lt_or_ge y 128 with h2 | h2
   ·rw [qdg f y h2]; simp
   ·rw [qbw f y h2]; simp
  ·rw [qbw f x h1, qbw f y (by omega)]
   have := qrx f (x / 128) (y / 128) (Nat.div_le_div_right h)
   simp only [List.length_cons]
   omega
theorem qij {x y : Nat} (h : x ≤ y) : (vbytes x).length ≤ (vbytes y).length := by unfold vbytes; rw [List.length_map, List.length_map]; exact qrx 10 x y h
theorem qyf {b : Bk} {i j : Nat} (h : i ≤ j) : b.sz i ≤ b.sz j := by
 induction h with
 | refl => exact Nat.le_refl _
 | @step j _ ih =>
  refine Nat.le_trans ih ?_
  rcases Nat.lt_or_ge j b.evs.length with h1 | h1
  ·rw [qrv h1]; omega
  ·unfold Bk.sz
   rw [List.take_of_length_le h1, List.take_of_length_le (by omega : b.evs.length ≤ j + 1)]
   omega
theorem qup {b : Bk} {i j : Nat} (h : i ≤ j) (hj : b.big j = false) : b.big i = false := by
 unfold Bk.big at hj ⊢
 rw [decide_eq_false_iff_not] at hj ⊢
 have h1 := qyf (b := b) h
 have h2 := qij h
 omega
theorem qry {b : Bk} {n : Nat} (hn : n ≤ b.evs.length) (h1 : 0 < n → b.big n = false) (h2 : ∀ m, n < m → m ≤ b.evs.length → b.big m = true) : b.qea = n := by
 have hno : ∀ i, i < n → b.big (i + 1) = false := fun i hi => qup (by omega) (h1 (by omega))
 rcases Nat.lt_or_ge n b.evs.length with h | h
 ·exact qnp h hno (h2 _ (by omega) (by omega))
 ·have : n = b.evs.length := by omega
  subst this
  exact qha hno
def qyk (w : World) (b : Bk) (r : Ending) (w' : World) : Prop :=
 (∃ A c, r = .returned (.agg (b.cells A c)) ∧ w'.ownsRow w.heap.size 45 11 (.slice A b.evs.length c) b.evs.length (b.evs.flatMap evL) ∧ b.evs.length ≤ c) ∧ Below w.heap.size w w'
structure It where
 e : Ev
 before : Int
structure It.Ok (x : It) : Prop where
 e : x.e.Ok
 before : I64 x.before
def It.cells (x : It) : Array Value := #[.int .i64 x.e.seq, .int .i64 x.e.time, .int .u8 (x.e.cpu : Int), .int .u8 (x.e.kind : Int), .int .i64 x.e.task, .int .i64 x.e.group, .int .i64 x.e.to, .int .i64 x.e.weight, .int .i64 x.e.ticks, .int .u64 (x.e.mask : Int), .int .i64 x.e.got, .int .i64 x.before]
def itL (x : It) : List Value := x.cells.toList
theorem qb5 (x : It) : (itL x).length = 12 := rfl
def evsI (l : List It) : List Ev := l.map It.e
def befI (l : List It) : List Int := l.map It.before
def qa8 : Int → List Int → Bool
 | _, [] => true
 | r, n :: t => decide (0 ≤ n ∧ n ≤ r) && qa8 (r - n) t
def qcg : Int := 281474976710656
def cpuOk (cpu : Nat) : List It → Bool
 | [] => true
 | x :: _ => decide (x.e.cpu = cpu)
def zt (cpu : Nat) (l : List It) (opn : Int) : Bool := decide ((rowR (evsI l)).2 = 0) && (qa8 qcg (opn :: befI l) && cpuOk cpu l)
def sumI : List Int → Int
 | [] => 0
 | n :: t => n + sumI t
def ofB (cpu : Nat) (l : List It) (opn : Int) (n : Nat) : Bk := ⟨1, cpu, sumI (befI (l.take n)) + (if n = l.length then opn else 0), 0, evsI (l.take n)⟩
def qam (p : Nat → Bool) : Nat → Nat
 | 0 => 0
 | n + 1 => if p (n + 1) = true then n + 1 else qam p n
def cutN (cpu : Nat) (l : List It) (opn : Int) (limit : Nat) : Nat := qam (fun n => decide ((ofB cpu l opn n).err = 0)) (min l.length limit)
def cutGo (cpu : Nat) (opn : Int) (limit : Nat) : Nat → List It → List Bk
 | 0, _ => []
 | f + 1, l => if l.length = 0 then [] else ofB cpu l opn (cutN cpu l opn limit) :: cutGo cpu opn limit f (l.drop (cutN cpu l opn limit))
def cutS (cpu : Nat) (l : List It) (opn : Int) (limit : Int) : List Bk × Nat :=
 if 64 ≤ cpu ∨ limit < 1 ∨ 4096 < limit then ([], 2)
 else if zt cpu l opn = false then ([], 110)
 else if l.length = 0 then ((if opn = 0 then [] else [⟨1, cpu, opn, 0, []⟩]), 0)
 else (cutGo cpu opn limit.toNat l.length l, 0)
theorem qik : ∀ {l : List Int} {r : Int}, qa8 r l = true → ∀ n ∈ l, 0 ≤ n ∧ n ≤ r
 | [], _, _, n, hn => by cases hn
 | x :: t, r, h, n, hn => by
  simp only [qa8, Bool.and_eq_true, decide_eq_true_eq] at h
  rcases List.mem_cons.1 hn with rfl | hn
  ·exact h.1
  ·have := qik h.2 n hn
   omega
theorem qil : ∀ {l : List Int} {r : Int}, 0 ≤ r → qa8 r l = true → 0 ≤ sumI l ∧ sumI l ≤ r
 | [], r, hr, _ => ⟨Int.le_refl _, hr⟩
 | x :: t, r, hr, h => by
  simp only [qa8, Bool.and_eq_true, decide_eq_true_eq] at h
  have := qil (by omega) h.2
  simp only [sumI]
  omega
theorem qgn : ∀ (a b : List Int), sumI (a ++ b) = sumI a + sumI b
 | [], b => by simp [sumI]
 | x :: a, b => by simp only [List.cons_append, sumI, qgn a b]; omega
theorem qct (p : Nat → Bool) : ∀ n, qam p n ≤ n
 | 0 => Nat.le_refl _
 | n + 1 => by
  rw [qam]
  split
  ·exact Nat.le_refl _
  ·exact Nat.le_succ_of_le (qct p n)
theorem qhc (p : Nat → Bool) : ∀ n, 0 < qam p n → p (qam p n) = true
 | 0, h => by simp [qam] at h
 | n + 1, h => by
  rw [qam] at h ⊢
  split
  ·rename_i hp; exact hp
  ·rename_i hp
   rw [if_neg hp] at h
   exact qhc p n h
theorem qfw (p : Nat → Bool) (h1 : p 1 = true) : ∀ n, 0 < n → 0 < qam p n
 | 0, h => by omega
 | n + 1, _ => by
  rw [qam]
  split
  ·omega
  ·rename_i hp
   cases n with
   | zero => exact absurd h1 hp
   | succ m => exact qfw p h1 (m + 1) (by omega)
theorem qhd (p : Nat → Bool) : ∀ {n k : Nat}, k ≤ n → (∀ m, k < m → m ≤ n → p m = false) → qam p n = qam p k
 | 0, k, h, _ => by
  have : k = 0 := by omega
  subst this; rfl
 | n + 1, k, h, hno => by
  by_cases hk : k = n + 1
  ·subst hk; rfl
  ·rw [qam, if_neg (by rw [hno (n + 1) (by omega) (Nat.le_refl _)]; decide)]
   exact qhd p (by omega) (fun m h1 h2 => hno m h1 (by omega))
theorem qk4 {cpu : Nat} : ∀ (l : List Ev) (p : Option Ev) (b : Bs) (k : Nat), Chain cpu p b l → ∃ b', Chain cpu none b' (l.drop k)
 | [], _, b, k, _ => ⟨b, by rw [List.drop_nil]; trivial⟩
 | e :: r, p, b, 0, h => ⟨b, h.1, h.2.1, (fun q hq => by cases hq), h.2.2.2⟩
 | e :: r, _, _, k + 1, h => qk4 r (some e) e.at k h.2.2.2
theorem qdq (l : List It) (n : Nat) : evsI (l.take n) = (evsI l).take n := by unfold evsI; rw [List.map_take]
theorem qk5 (l : List It) (n : Nat) : evsI (l.drop n) = (evsI l).drop n := by unfold evsI; rw [List.map_drop]
theorem qc9 (l : List It) : (evsI l).length = l.length := by unfold evsI; rw [List.length_map]
theorem qd7 (l : List It) (n : Nat) : sumI (befI l) = sumI (befI (l.take n)) + sumI (befI (l.drop n)) := by
 unfold befI
 rw [List.map_take, List.map_drop, ← qgn, List.take_append_drop]
theorem qek : ∀ {l : List Int}, (∀ n ∈ l, 0 ≤ n) → 0 ≤ sumI l
 | [], _ => Int.le_refl _
 | x :: t, h => by
  have h1 := h x List.mem_cons_self
  have h2 := qek (l := t) (fun n hn => h n (List.mem_cons_of_mem _ hn))
  simp only [sumI]
  omega
structure GoodI (cpu : Nat) (l : List It) (opn : Int) : Prop where
 c64 : cpu < 64
 chain : ∃ b, Chain cpu none b (evsI l)
 ok : ∀ x ∈ l, x.Ok
 o0 : 0 ≤ opn
 bef : ∀ x ∈ l, 0 ≤ x.before
 sum : opn + sumI (befI l) ≤ 281474976710656
theorem qaz {l : List It} (h : ∀ x ∈ l, 0 ≤ x.before) : 0 ≤ sumI (befI l) := qek fun n hn => by
 unfold befI at hn
 obtain ⟨x, hx, rfl⟩ := List.mem_map.1 hn
 exact h x hx
theorem GoodI.drop {cpu : Nat} {l : List It} {opn : Int} (h : GoodI cpu l opn) (k : Nat) : GoodI cpu (l.drop k) opn := by
 obtain ⟨b, hb⟩ := h.chain
 have h1 := qd7 l k
 have h2 := qaz (l := l.take k) (fun x hx => h.bef x (List.mem_of_mem_take hx))
 have h3 := h.sum
 exact ⟨h.c64, by rw [qk5]; exact qk4 _ _ _ k hb, fun x hx => h.ok x (List.mem_of_mem_drop hx), h.o0, fun x hx => h.bef x (List.mem_of_mem_drop hx), by omega⟩
theorem GoodI.of {cpu : Nat} {l : List It} {opn : Int} (hc : cpu < 64) (hok : ∀ x ∈ l, x.Ok) (h : zt cpu l opn = true) : GoodI cpu l opn := by
 unfold zt at h
 simp only [Bool.and_eq_true, decide_eq_true_eq] at h
 obtain ⟨h1, h2, h3⟩ := h
 have hr := h2
 simp only [qa8, Bool.and_eq_true, decide_eq_true_eq] at hr
 have hs := qil (r := qcg - opn) (by omega) hr.2
 have hm : qcg = 281474976710656 := rfl
 refine ⟨hc, ?_, hok, hr.1.1, ?_, by omega⟩
 ·cases l with
  | nil => exact ⟨⟨0, 0⟩, trivial⟩
  | cons x r =>
   have hev : ∀ e ∈ evsI (x :: r), e.Ok := fun e he => by
    unfold evsI at he
    obtain ⟨y, hy, rfl⟩ := List.mem_map.1 he
    exact (hok y hy).e
   have hx : x.e.check = 0 := qng h1 rfl
   have hcp : x.e.cpu = cpu := by simpa [cpuOk] using h3
   refine ⟨x.e.at, qdn (evsI (x :: r)) none x.e.at 0 hev (qe3 hx) ?_ (fun q hq => by cases hq) h1⟩
   intro y hy
   have : y = x.e := by simpa [evsI] using hy.symm
   subst this
   exact ⟨qg3 _, hcp⟩
 ·intro x hx
  exact (qik hr.2 x.before (List.mem_map_of_mem hx)).1
theorem qda {cpu : Nat} {l : List It} {opn : Int} {n : Nat} (hn : n ≤ l.length) : (ofB cpu l opn n).evs.length = n := by
 show (evsI (l.take n)).length = n
 rw [qc9, List.length_take]
 omega
theorem qgo {cpu : Nat} {l : List It} {opn : Int} (h : GoodI cpu l opn) (n : Nat) : 0 ≤ (ofB cpu l opn n).lost ∧ (ofB cpu l opn n).lost ≤ 281474976710656 := by
 have h1 := qd7 l n
 have h2 := qaz (l := l.take n) (fun x hx => h.bef x (List.mem_of_mem_take hx))
 have h3 := qaz (l := l.drop n) (fun x hx => h.bef x (List.mem_of_mem_drop hx))
 have h4 := h.sum
 have h5 := h.o0
 show 0 ≤ sumI (befI (l.take n)) + (if n = l.length then opn else 0) ∧ sumI (befI (l.take n)) + (if n = l.length then opn else 0) ≤ _
 split <;> omega
theorem qrz {cpu : Nat} {l : List It} {opn : Int} (h : GoodI cpu l opn) (n : Nat) : (ofB cpu l opn n).Ok := by
 have := qgo h n
 refine ⟨by show 1 < 256; decide, by have := h.c64; show cpu < 256; omega, ⟨by omega, by omega⟩, by show I64 0; exact ⟨by decide, by decide⟩, fun e he => ?_⟩
 have he : e ∈ evsI (l.take n) := he
 unfold evsI at he
 obtain ⟨y, hy, rfl⟩ := List.mem_map.1 he
 exact (h.ok y (List.mem_of_mem_take hy)).e
theorem qel {cpu : Nat} {b : Bs} {l : List Ev} (h : Chain cpu none b l) : (rowR l).2 = 0 := by
 cases l with
 | nil => rfl
 | cons e r =>
  have hr : b.right = true := h.1.right
  rw [(qko hr h).1]
theorem quq {cpu : Nat} {l : List It} {opn : Int} (h : GoodI cpu l opn) {n : Nat} (h1 : 0 < n) (h2 : n ≤ l.length) : (ofB cpu l opn n).fits = true := by
 obtain ⟨b, hb⟩ := h.chain
 have hl := qgo h n
 have hlen := qda (cpu := cpu) (opn := opn) h2
 have hc : Chain cpu none b (evsI (l.take n)) := by rw [qdq]; exact qhb _ _ _ n hb
 rw [qk3 (b := ofB cpu l opn n) rfl (by show cpu ≤ 63; have := h.c64; omega) hl.1 hl.2 rfl (by rw [hlen]; omega), decide_eq_true_eq]
 ·exact qel hc
 ·intro k hk
  exact qjk _ _ _ hc _ (qap Ev.zero hk)
theorem qur {cpu : Nat} {l : List It} {opn : Int} {n : Nat} (h1 : 0 < n) (h2 : n ≤ l.length) : 12 + (ofB cpu l opn n).body.length = Bk.sz ⟨1, cpu, (ofB cpu l opn n).lost, 0, evsI l⟩ n + (vbytes n).length := by
 have h := qrw (b := ⟨1, cpu, (ofB cpu l opn n).lost, 0, evsI l⟩) rfl h1 (by show n ≤ (evsI l).length; rw [qc9]; exact h2)
 have e : Bk.upto ⟨1, cpu, (ofB cpu l opn n).lost, 0, evsI l⟩ n = ofB cpu l opn n := by
  unfold Bk.upto
  show (⟨1, cpu, (ofB cpu l opn n).lost, 0, (evsI l).take n⟩ : Bk) = ⟨1, cpu, _, 0, evsI (l.take n)⟩
  rw [qdq]
  rfl
 rwa [e] at h
theorem qwy {cpu : Nat} {lo lo' : Int} {es : List Ev} {n : Nat} (h : lo ≤ lo') : Bk.sz ⟨1, cpu, lo, 0, es⟩ n ≤ Bk.sz ⟨1, cpu, lo', 0, es⟩ n := by
 have h1 := qij (x := lo.toNat) (y := lo'.toNat) (by omega)
 have hb : Bk.base ⟨1, cpu, lo, 0, es⟩ = Bk.base ⟨1, cpu, lo', 0, es⟩ := rfl
 unfold Bk.sz
 simp only [hb]
 generalize (vbytes cpu).length = a1
 generalize Bk.base ⟨1, cpu, lo', 0, es⟩ = q
 generalize (vbytes q.seq.toNat).length = a2
 generalize (vbytes q.time.toNat).length = a3
 generalize (recs q (List.take n es)).length = a4
 omega
theorem qwz {cpu : Nat} {lo : Int} {es : List Ev} {m n : Nat} (h0 : 0 < n) (h : n ≤ m) : Bk.sz ⟨1, cpu, lo, 0, es.take m⟩ n = Bk.sz ⟨1, cpu, lo, 0, es⟩ n := by
 have hb : Bk.base ⟨1, cpu, lo, 0, es.take m⟩ = Bk.base ⟨1, cpu, lo, 0, es⟩ := by
  unfold Bk.base
  cases es with
  | nil => simp
  | cons e r =>
   cases m with
   | zero => omega
   | succ j => rfl
 unfold Bk.sz
 rw [hb]
 show 12 + _ + _ + _ + _ + (recs _ ((es.take m).take n)).length = 12 + _ + _ + _ + _ + (recs _ (es.take n)).length
 rw [List.take_take, Nat.min_eq_left h]
theorem qr0 {cpu : Nat} {l : List It} {opn : Int} (h : GoodI cpu l opn) {n : Nat} (h1 : 0 < n) (h2 : n ≤ l.length) : (ofB cpu l opn n).err = 0 ↔ Bk.sz ⟨1, cpu, (ofB cpu l opn n).lost, 0, evsI l⟩ n + (vbytes n).length ≤ 4096 := by
 have hs := qur (cpu := cpu) (opn := opn) h1 h2
 unfold Bk.err
 rw [if_neg (by rw [quq h h1 h2]; decide), hs]
 split <;> omega
theorem qdr (p : Nat → Bool) : ∀ n m, qam p n < m → m ≤ n → p m = false
 | 0, m, h1, h2 => by omega
 | n + 1, m, h1, h2 => by
  rw [qam] at h1
  split at h1
  ·omega
  ·rename_i hp
   by_cases hm : m = n + 1
   ·subst hm; simpa using hp
   ·exact qdr p n m h1 (by omega)
def mostB (cpu : Nat) (l : List It) (m : Nat) : Bk := ⟨1, cpu, 0, 0, evsI (l.take m)⟩
theorem qim {cpu : Nat} {l : List It} {opn : Int} (h : GoodI cpu l opn) {m : Nat} (h0 : 0 < m) (hm : m ≤ l.length) : (mostB cpu l m).fits = true ∧ (mostB cpu l m).Ok ∧ (mostB cpu l m).qea ≤ m ∧ 0 < (mostB cpu l m).qea ∧ ∀ n, (mostB cpu l m).qea < n → n ≤ m → (ofB cpu l opn n).err ≠ 0 := by
 obtain ⟨b, hb⟩ := h.chain
 have hc : Chain cpu none b (evsI (l.take m)) := by rw [qdq]; exact qhb _ _ _ m hb
 have hlen : (mostB cpu l m).evs.length = m := by show (evsI (l.take m)).length = m; rw [qc9, List.length_take]; omega
 have hbig : ∀ n, 0 < n → n ≤ m → ((mostB cpu l m).big n = true ↔ 4096 < Bk.sz ⟨1, cpu, 0, 0, evsI l⟩ n + (vbytes n).length) := fun n h1 h2 => by
  unfold Bk.big
  rw [decide_eq_true_eq]
  unfold mostB
  rw [qdq, qwz h1 h2]
 obtain ⟨k, hk⟩ : ∃ k, k = qam (fun i => !(mostB cpu l m).big i) m := ⟨_, rfl⟩
 have hkm : k ≤ m := by rw [hk]; exact qct _ _
 have hf : (mostB cpu l m).qea = k := by
  refine qry (by rw [hlen]; exact hkm) (fun h1 => ?_) (fun n h1 h2 => ?_)
  ·have := qhc (fun i => !(mostB cpu l m).big i) m (by rw [← hk]; exact h1)
   rw [← hk] at this
   simpa using this
  ·have := qdr (fun i => !(mostB cpu l m).big i) m n (by rw [← hk]; exact h1) (by rw [hlen] at h2; exact h2)
   simpa using this
 have hpos : 0 < k := by
  rw [hk]
  refine qfw _ ?_ m h0
  have h1 := (hbig 1 (by omega) (by omega))
  have h2 := sz_le ⟨1, cpu, 0, 0, evsI l⟩ 1
  have h3 := qs 1
  cases hb1 : (mostB cpu l m).big 1 with
  | true => have := h1.1 hb1; omega
  | false => rfl
 refine ⟨?_, ?_, by rw [hf]; exact hkm, by rw [hf]; exact hpos, ?_⟩
 ·rw [qk3 (b := mostB cpu l m) rfl (by show cpu ≤ 63; have := h.c64; omega) (Int.le_refl _) (by show (0 : Int) ≤ _; omega) rfl (by rw [hlen]; omega), decide_eq_true_eq]
  ·exact qel hc
  ·intro i hi
   exact qjk _ _ _ hc _ (qap Ev.zero hi)
 ·refine ⟨by show 1 < 256; decide, by have := h.c64; show cpu < 256; omega, by show I64 0; exact ⟨by decide, by decide⟩, by show I64 0; exact ⟨by decide, by decide⟩, fun e he => ?_⟩
  have he : e ∈ evsI (l.take m) := he
  unfold evsI at he
  obtain ⟨y, hy, rfl⟩ := List.mem_map.1 he
  exact (h.ok y (List.mem_of_mem_take hy)).e
 ·intro n h1 h2 he
  rw [hf, hk] at h1
  have h3 := qdr (fun i => !(mostB cpu l m).big i) m n h1 h2
  have h4 : (mostB cpu l m).big n = true := by simpa using h3
  have hn : 0 < n := by omega
  have h5 := (hbig n hn h2).1 h4
  have h6 := (qr0 h hn (by omega)).1 he
  have h7 := qwy (cpu := cpu) (es := evsI l) (n := n) (qgo h n).1
  omega
theorem qr1 {cpu : Nat} {l : List It} {opn : Int} (h : GoodI cpu l opn) {limit : Nat} (hl : 0 < limit) (h0 : 0 < l.length) :
  cutN cpu l opn limit = qam (fun n => decide ((ofB cpu l opn n).err = 0)) (mostB cpu l (min l.length limit)).qea := by
 have hm := qim h (m := min l.length limit) (by omega) (by omega)
 unfold cutN
 refine qhd _ hm.2.2.1 (fun n h1 h2 => ?_)
 rw [decide_eq_false_iff_not]
 exact hm.2.2.2.2 n h1 h2
theorem qw0 {cpu : Nat} {l : List It} {opn : Int} (h : GoodI cpu l opn) (h0 : 0 < l.length) : (ofB cpu l opn 1).err = 0 := by
 rw [qr0 h (by omega) (by omega)]
 have h2 := sz_le ⟨1, cpu, (ofB cpu l opn 1).lost, 0, evsI l⟩ 1
 have h3 := qs 1
 omega
theorem qjl {cpu : Nat} {l : List It} {opn : Int} (h : GoodI cpu l opn) {limit : Nat} (hl : 0 < limit) (h0 : 0 < l.length) : 0 < cutN cpu l opn limit ∧ cutN cpu l opn limit ≤ l.length ∧ (ofB cpu l opn (cutN cpu l opn limit)).err = 0 := by
 have h1 := qfw (fun n => decide ((ofB cpu l opn n).err = 0)) (by rw [decide_eq_true (qw0 h h0)]) (min l.length limit) (by omega)
 have h2 := qct (fun n => decide ((ofB cpu l opn n).err = 0)) (min l.length limit)
 have h3 := qhc (fun n => decide ((ofB cpu l opn n).err = 0)) (min l.length limit) h1
 unfold cutN
 exact ⟨h1, by omega, of_decide_eq_true h3⟩
theorem qfx {cpu limit f : Nat} {opn : Int} {l : List It} (h : 0 < l.length) (hf : 0 < f) : cutGo cpu opn limit f l = ofB cpu l opn (cutN cpu l opn limit) :: cutGo cpu opn limit (f - 1) (l.drop (cutN cpu l opn limit)) := by
 cases f with
 | zero => omega
 | succ f => rw [cutGo, if_neg (by omega)]; rfl
theorem qhe {cpu limit f : Nat} {opn : Int} {l : List It} (h : l.length = 0) : cutGo cpu opn limit f l = [] := by
 cases f with
 | zero => rfl
 | succ f => rw [cutGo, if_pos h]
section
variable {cpu : Nat} {l : List It} {opn limit : Int}
theorem qjm (h : 64 ≤ cpu ∨ limit < 1 ∨ 4096 < limit) : cutS cpu l opn limit = ([], 2) := by unfold cutS; rw [if_pos h]
theorem qoy (h : ¬(64 ≤ cpu ∨ limit < 1 ∨ 4096 < limit)) (h2 : zt cpu l opn = false) : cutS cpu l opn limit = ([], 110) := by unfold cutS; rw [if_neg h, if_pos h2]
theorem qk6 (h : ¬(64 ≤ cpu ∨ limit < 1 ∨ 4096 < limit)) (h2 : zt cpu l opn = true) (h3 : l.length = 0) (h4 : opn = 0) : cutS cpu l opn limit = ([], 0) := by unfold cutS; rw [if_neg h, if_neg (by rw [h2]; decide), if_pos h3, if_pos h4]
theorem qk7 (h : ¬(64 ≤ cpu ∨ limit < 1 ∨ 4096 < limit)) (h2 : zt cpu l opn = true) (h3 : l.length = 0) (h4 : opn ≠ 0) : cutS cpu l opn limit = ([⟨1, cpu, opn, 0, []⟩], 0) := by unfold cutS; rw [if_neg h, if_neg (by rw [h2]; decide), if_pos h3, if_neg h4]
theorem qk8 {lim : Nat} (h : ¬(64 ≤ cpu ∨ (lim : Int) < 1 ∨ 4096 < (lim : Int))) (h2 : zt cpu l opn = true) (h3 : l.length ≠ 0) : cutS cpu l opn (lim : Int) = (cutGo cpu opn lim l.length l, 0) := by unfold cutS; rw [if_neg h, if_neg (by rw [h2]; decide), if_neg h3, Int.toNat_natCast]
end
theorem qmq {p : Nat → Bool} {m : Nat} (h : p m = false) (h0 : 0 < m) : qam p m = qam p (m - 1) := by
 cases m with
 | zero => omega
 | succ m => rw [qam, if_neg (by rw [h]; decide)]; rfl
theorem qmr {p : Nat → Bool} {m : Nat} (h : p m = true) : qam p m = m := by
 cases m with
 | zero => rfl
 | succ m => rw [qam, if_pos h]
def It.zero : It := ⟨Ev.zero, 0⟩
theorem si_it : SI Tryd.prog 47 12 := ⟨by kernel_rfl, by kernel_rfl⟩
theorem ei_it : EI Tryd.prog 22 47 (.agg It.zero.cells) 12 88 := ⟨by kernel_rfl, by kernel_rfl, rfl, by omega⟩
theorem qgc : EI Tryd.prog 35 41 (.agg #[.int .u8 0, .int .u8 0, .int .i64 0, .int .i64 0, .slice none 0 0]) 5 48 := ⟨by kernel_rfl, by kernel_rfl, rfl, by omega⟩
theorem qnq (x : It) : ∀ v ∈ x.cells.toList, v.oneCell' = true := by intro v hv; simp [It.cells] at hv; rcases hv with rfl | rfl | rfl | rfl | rfl | rfl | rfl | rfl | rfl | rfl | rfl | rfl <;> rfl
section
variable {P : Program} {S : World → Prop} {σ : List (Nat × Value)} {o : Oper}
theorem Yl.qyt {t e : TypeId} {z : Value} {size bytes : Nat} (ei : EI P t e z size bytes) {x lo hi mx : Operand} {A : Option Addr} {m c i j q : Nat} {k k' k2 : IntKind} (hop : o.op = .slice t x (some lo) (some hi) (some mx)) (hx : look σ x = some (.slice A m c)) (hl : look σ lo = some (.int k (i : Int))) (hh : look σ hi = some (.int k' (j : Int))) (hm : look σ mx = some (.int k2 (q : Int))) (hij : i ≤ j) (hj : j ≤ q) (hq : q ≤ c) :
  Yl P S σ o (.slice (if q = i then A else A.map (·.add (i * size))) (j - i) (q - i)) := fun a n D HF w hS => by
 obtain ⟨inf, hinf, _, hs, _⟩ := info_parts ei.hi
 have e1 : (Instr.sliceAt t (.slice A m c) (some (.int k (i : Int))) (some (.int k' (j : Int))) (some (.int k2 (q : Int)))).run P w = .ok (.slice (if q = i then A else A.map (·.add (i * size))) (j - i) (q - i)) w := by
  subst hs
  simp [Instr.sliceAt, run_underlying ei.ht, Instr.slice, Instr.sliceBounds, Instr.sliceBound, asIntOf, hij, hj, hq, sizeOf, typeInfo, hinf]
 unfold execOp
 simp only [hop, HF.eval hx, HF.eval hl, HF.eval hh, HF.eval hm, Option.map_some, Sem.run_bind, e1, Result.andThen_ok]
 rfl
end
theorem qhf {α : Type} (f : α → List Value) (sz : Nat) (hf : ∀ x, (f x).length = sz) : ∀ (l : List α) (k : Nat), (l.flatMap f).take (k * sz) = (l.take k).flatMap f
 | [], _ => by simp
 | _ :: _, 0 => by simp
 | x :: l, k + 1 => by
  rw [List.flatMap_cons, List.take_succ_cons, List.flatMap_cons, List.take_append, List.take_of_length_le (by rw [hf, Nat.succ_mul]; omega), hf, ← qhf f sz hf l k]
  congr 2
  rw [Nat.succ_mul]; omega
theorem qhg {α : Type} (f : α → List Value) (sz : Nat) (hf : ∀ x, (f x).length = sz) : ∀ (l : List α) (k : Nat), (l.flatMap f).drop (k * sz) = (l.drop k).flatMap f
 | [], _ => by simp
 | _ :: _, 0 => by simp
 | x :: l, k + 1 => by
  rw [List.flatMap_cons, List.drop_succ_cons, List.drop_append, List.drop_of_length_le (by rw [hf, Nat.succ_mul]; omega), hf, ← qhg f sz hf l k, List.nil_append]
  congr 1
  rw [Nat.succ_mul]; omega
theorem Rd.qtb {α : Type} {f : α → List Value} {sz : Nat} (hf : ∀ x, (f x).length = sz) {w : World} {B k : Nat} {A : Option Addr} {l : List α} (h : Rd w B sz A l.length (l.flatMap f)) (hk : k ≤ l.length) : Rd w B sz A k ((l.take k).flatMap f) := by
 have h1 := h.upto hk
 rwa [qhf f sz hf] at h1
theorem Rd.qyz {α : Type} {f : α → List Value} {sz : Nat} (hf : ∀ x, (f x).length = sz) {w : World} {B k c : Nat} {A : Option Addr} {l : List α} (h : Rd w B sz A l.length (l.flatMap f)) (hk : k ≤ l.length) (hc : l.length ≤ c) : Rd w B sz (if c = k then A else A.map (·.add (k * sz))) (l.drop k).length ((l.drop k).flatMap f) := by
 have h1 := h.from hk hc
 rwa [qhg f sz hf, ← List.length_drop] at h1
theorem Rd.qy0 {α : Type} {f : α → List Value} {size : Nat} (hf : ∀ x, (f x).length = size) {w : World} {B n g o : Nat} {l : List α} (h : Rd w B size (some ⟨g, o, none⟩) n (l.flatMap f)) {k j m : Nat} {x : α} {ys : List Value} (hk : l[k]? = some x) (hy : ((f x).drop j).take m = ys) : w.rangeAt g (o + k * size + j) ys := fun i u hu => by
 rw [← hy, List.getElem?_take] at hu
 split at hu
 ·rw [List.getElem?_drop] at hu
  have h1 := h.qce hf hk (j + i) u hu
  rwa [← Nat.add_assoc] at h1
 ·cases hu
theorem qd8 {α : Type} {l : List α} {k : Nat} (d : α) (h : k < l.length) : l.take (k + 1) = l.take k ++ [l.getD k d] := by
 rw [List.take_succ_eq_append_getElem h, List.getD_eq_getElem?_getD, List.getElem?_eq_getElem h]
 rfl
theorem qoz {l : List It} {k : Nat} (h : k < l.length) : (evsI (l.take (k + 1))).flatMap evL = (evsI (l.take k)).flatMap evL ++ evL (l.getD k It.zero).e := by
 rw [qd8 It.zero h]
 unfold evsI
 rw [List.map_append, List.flatMap_append]
 simp
theorem qo0 {l : List It} {k : Nat} (h : k < l.length) : (befI (l.take (k + 1))).map I64i = (befI (l.take k)).map I64i ++ [I64i (l.getD k It.zero).before] := by
 rw [qd8 It.zero h]
 unfold befI
 rw [List.map_append, List.map_append]
 rfl
theorem qjn (l : List It) : (befI l).length = l.length := by unfold befI; rw [List.length_map]
theorem qw1 {l : List It} (h : ∀ x ∈ l, x.Ok) : ∀ e ∈ evsI l, e.Ok := fun e he => by
 unfold evsI at he
 obtain ⟨x, hx, rfl⟩ := List.mem_map.1 he
 exact (h x hx).e
theorem qus (l : List Int) : ∀ v ∈ l.map I64i, v.oneCell' = true := by
 intro v hv
 obtain ⟨_, _, rfl⟩ := List.mem_map.1 hv
 rfl
theorem qch {α : Type} {l : List α} {k : Nat} (d : α) (h : k < l.length) : l.drop k = l.getD k d :: l.drop (k + 1) := by
 rw [List.drop_eq_getElem_cons h, List.getD_eq_getElem?_getD, List.getElem?_eq_getElem h]
 rfl
theorem qr2 {xs : List Int} {k : Nat} {r : Int} (h : k < xs.length) : qa8 r (xs.drop k) = (decide (0 ≤ xs.getD k 0 ∧ xs.getD k 0 ≤ r) && qa8 (r - xs.getD k 0) (xs.drop (k + 1))) := by
 rw [qch 0 h, qa8]
theorem qo1 {cpu : Nat} {l : List It} (h : 0 < l.length) : cpuOk cpu l = decide ((l.getD 0 It.zero).e.cpu = cpu) := by
 cases l with
 | nil => cases h
 | cons x r => rfl
theorem qr3 {cpu : Nat} {l : List It} (h : l.length = 0) : cpuOk cpu l = true := by
 cases l with
 | nil => rfl
 | cons x r => cases h
theorem qms {cpu : Nat} {l : List It} {opn : Int} (h : (rowR (evsI l)).2 ≠ 0) : zt cpu l opn = false := by
 unfold zt
 rw [decide_eq_false h, Bool.false_and]
theorem qgd {cpu : Nat} {l : List It} {opn : Int} (h : qa8 qcg (opn :: befI l) = false) : zt cpu l opn = false := by
 unfold zt
 rw [h, Bool.false_and, Bool.and_false]
theorem qin {cpu : Nat} {l : List It} {opn : Int} (h1 : (rowR (evsI l)).2 = 0) (h2 : qa8 qcg (opn :: befI l) = true) : zt cpu l opn = cpuOk cpu l := by
 unfold zt
 rw [h2, decide_eq_true h1, Bool.true_and, Bool.true_and]
theorem qhh {l : List It} {k j : Nat} (hj : j < k) (hk : k ≤ l.length) : sumI (befI (l.take (j + 1))) = sumI (befI (l.take j)) + (befI (l.take k)).getD j 0 := by
 rw [qd8 It.zero (by omega : j < l.length)]
 unfold befI
 rw [List.map_append, qgn]
 have h1 : (List.map It.before (l.take k)).getD j 0 = (l.getD j It.zero).before := by
  rw [List.getD_eq_getElem?_getD, List.getElem?_map, List.getElem?_take, if_pos hj, List.getD_eq_getElem?_getD, List.getElem?_eq_getElem (by omega)]
  rfl
 rw [h1]
 simp [sumI]
theorem qr4 {l : List It} {j : Nat} (hj : j < l.length) : sumI (befI (l.take (j + 1))) = sumI (befI (l.take j)) + (l.getD j It.zero).before := by
 rw [qd8 It.zero hj]
 unfold befI
 rw [List.map_append, qgn]
 simp [sumI]
theorem GoodI.part {cpu : Nat} {l : List It} {opn : Int} (h : GoodI cpu l opn) (j : Nat) : 0 ≤ sumI (befI (l.take j)) ∧ sumI (befI (l.take j)) + opn ≤ 281474976710656 := by
 have h1 := qd7 l j
 have h2 := qaz (l := l.take j) (fun x hx => h.bef x (List.mem_of_mem_take hx))
 have h3 := qaz (l := l.drop j) (fun x hx => h.bef x (List.mem_of_mem_drop hx))
 have h4 := h.sum
 omega
theorem qk9 {cpu : Nat} {l : List It} {opn : Int} {k : Nat} (hk : k ≤ l.length) {lo : Int} (hlo : lo = (ofB cpu l opn k).lost) (A : Option Addr) (c : Nat) : #[.int .u8 1, .int .u8 (cpu : Int), .int .i64 lo, .int .i64 0, .slice A k c] = (ofB cpu l opn k).cells A c := by
 subst hlo
 unfold Bk.cells
 rw [qda hk]
 rfl
theorem qr5 {cpu : Nat} {l : List It} {opn : Int} {k : Nat} (h : k = l.length) : (ofB cpu l opn k).lost = sumI (befI (l.take k)) + opn := by
 show _ + (if k = l.length then opn else 0) = _
 rw [if_pos h]
theorem qr6 {cpu : Nat} {l : List It} {opn : Int} {k : Nat} (h : k ≠ l.length) : (ofB cpu l opn k).lost = sumI (befI (l.take k)) := by
 show _ + (if k = l.length then opn else 0) = _
 rw [if_neg h, Int.add_zero]
end Go.Proofs.YtfeheccoijnbaaaDoor
namespace Go.Proofs.YtfeheccoijnbaaaDoor
open Go.RowKit Go.ChangeShapes Go.WideShapes Go.ChangeAt
section
variable {H : Type} {enc : TypeId × Value → H} {P : Program} {W : World} {sp : Nat → Bool} {held : Bool}
theorem flat_get {sz : Nat} : ∀ (css : List (List Value)), (∀ l ∈ css, l.length = sz) → ∀ p u, (css.flatMap id)[p]? = some u → ∃ i j, ∃ hi : i < css.length, j < sz ∧ p = i * sz + j ∧ css[i][j]? = some u := by
 intro css
 induction css with
 | nil => intro _ p u h; simp at h
 | cons l r ih =>
  intro h p u hu
  have hll := h l (by simp)
  rw [List.flatMap_cons] at hu
  by_cases hp : p < sz
  ·rw [List.getElem?_append_left (by simp only [id]; omega)] at hu
   exact ⟨0, p, by simp, hp, by omega, hu⟩
  ·rw [List.getElem?_append_right (by simp only [id]; omega)] at hu
   simp only [id] at hu
   rw [hll] at hu
   obtain ⟨i, j, hi, hj, hpj, hu'⟩ := ih (fun y hy => h y (by simp [hy])) _ u hu
   exact ⟨i + 1, j, by simp; omega, hj, by rw [Nat.succ_mul]; omega, by simpa using hu'⟩
theorem qr7 {sz : Nat} : ∀ (css : List (List Value)), (∀ l ∈ css, l.length = sz) → (css.flatMap id).length = css.length * sz := by
 intro css
 induction css with
 | nil => simp
 | cons l r ih => intro h; rw [List.flatMap_cons, List.length_append, ih (fun y hy => h y (by simp [hy])), List.length_cons, Nat.succ_mul]; have := h l (by simp); simp only [id]; omega
theorem qio {α : Type} (f : α → List Value) (Ok : α → Prop) {t e : TypeId} {sz : Nat} (ht : P.underlying t = some (.slice e)) (hsz : P.cellsOf e = sz) (h0 : 0 < sz) (hf : ∀ x, (f x).length = sz)
  (hE : ∀ m l y, DataW.trod enc P W 0 sp held m e l = some y → ∃ x, f x = l ∧ Ok x) {fuel : Nat} {cs : List Value} {x : DataW H × List MemPlace} (h : DataW.trod enc P W 0 sp held fuel t cs = some x) :
  ∃ (A : Option Addr) (c : Nat) (l : List α), cs = [.slice A l.length c] ∧ l.length ≤ c ∧ c ≤ maxLen ∧ (∀ x ∈ l, Ok x) ∧ Rd W W.heap.size sz A l.length (l.flatMap f) := by
 rcases DataW.trod_slice ht h with ⟨hc, _⟩ | ⟨a, len, cap, elems, rest, m, _, hc, _, _, hl, hm, hlen, hel, _⟩
 ·exact ⟨none, 0, [], hc, Nat.le_refl _, by unfold maxLen; omega, by simp, Rd.nil⟩
 ·have hall : ∀ i, i < len → ∃ x : α, W.cells? 0 (a.add (i * sz)) sz = some (f x) ∧ Ok x := by
   intro i hi
   have h1 := hel i hi
   rw [hsz, List.getElem?_eq_getElem (by omega : i < elems.length)] at h1
   obtain ⟨l, h2, h3⟩ := Option.bind_eq_some_iff.1 h1
   obtain ⟨x, rfl, hx⟩ := hE _ _ _ h3
   exact ⟨x, h2, hx⟩
  have key : ∀ k, k ≤ len → ∃ xs : List α, xs.length = k ∧ ∀ i (hi : i < xs.length), W.cells? 0 (a.add (i * sz)) sz = some (f xs[i]) ∧ Ok xs[i] := by
   intro k
   induction k with
   | zero => intro _; exact ⟨[], rfl, fun i hi => by simp at hi⟩
   | succ k ih =>
    intro hk
    obtain ⟨xs, h1, h2⟩ := ih (by omega)
    obtain ⟨x, h3, h4⟩ := hall k (by omega)
    refine ⟨xs ++ [x], by simp [h1], fun i hi => ?_⟩
    by_cases hik : i < xs.length
    ·rw [List.getElem_append_left hik]; exact h2 i hik
    ·obtain rfl : i = xs.length := by simp at hi; omega
     rw [List.getElem_append_right (Nat.le_refl _)]
     simp only [Nat.sub_self, List.getElem_cons_zero, h1]
     exact ⟨h3, h4⟩
  obtain ⟨xs, h1, h2⟩ := key len (Nat.le_refl _)
  have hfm : xs.flatMap f = (xs.map f).flatMap id := by rw [List.flatMap_map]; rfl
  have hll : ∀ l ∈ xs.map f, l.length = sz := fun l hl' => by obtain ⟨x, _, rfl⟩ := List.mem_map.1 hl'; exact hf x
  have hat : ∀ i (hi : i < xs.length) j, j < sz → W.cell? (a.add (i * sz + j)) = (f xs[i])[j]? := by
   intro i hi j hj
   have := (World.cells?_some (h2 i hi).1).2.2 j hj
   rwa [qjy] at this
  refine ⟨some a, cap, xs, by rw [hc, h1], by omega, hm, fun x hx => by obtain ⟨i, hi, rfl⟩ := List.getElem_of_mem hx; exact (h2 i hi).2, ⟨by rw [hfm, qr7 _ hll, List.length_map], fun hn => ⟨a, rfl, ?_, ?_⟩⟩⟩
  ·have h3 := hat 0 hn 0 h0
   have h4 := hf xs[0]
   rw [List.getElem?_eq_getElem (by omega)] at h3
   have := World.block_lt_of_cell? W _ h3
   simpa [Addr.add] using this
  ·intro p u hu
   rw [hfm] at hu
   obtain ⟨i, j, hi, hj, rfl, hu'⟩ := flat_get _ hll p u hu
   rw [List.length_map] at hi
   rw [hat i hi j hj, ← hu', List.getElem_map]
end
section
variable {H : Type} {enc : TypeId × Value → H} {W : World} {b0 : Nat} {v : Value} {d : DataW H} {p : List MemPlace}
end
end Go.Proofs.YtfeheccoijnbaaaDoor
namespace Go.Proofs.YtfeheccoijnbaaaDoor
open Go.RowKit
def qq : Nat → List Nat → List Bk × Nat × Nat
 | 0, _ => ([], 0, 0)
 | f + 1, l => if l.length = 0 then ([], 0, 0) else
  if (readB l).2.2 ≠ 0 then ([], 0, (readB l).2.2) else
   ((readB l).1 :: (qq f (l.drop (readB l).2.1)).1, (readB l).2.1 + (qq f (l.drop (readB l).2.1)).2.1, (qq f (l.drop (readB l).2.1)).2.2)
def qbp (l : List Nat) : List Bk × Nat × Nat := if 524288 < l.length then ([], 0, 3) else qq l.length l
theorem qem {f : Nat} {l : List Nat} (h : l.length = 0) : qq f l = ([], 0, 0) := by
 cases f with
 | zero => rfl
 | succ f => rw [qq, if_pos h]
theorem qhk {f : Nat} {l : List Nat} {b : Bk} {m er : Nat} (hf : 0 < f) (h : 0 < l.length) (hq : readB l = (b, m, er)) (he : er ≠ 0) : qq f l = ([], 0, er) := by
 cases f with
 | zero => omega
 | succ f => rw [qq, if_neg (by omega), if_pos (by rw [hq]; exact he), hq]
theorem qds {f : Nat} {l : List Nat} {b : Bk} {m : Nat} (hf : 0 < f) (h : 0 < l.length) (hq : readB l = (b, m, 0)) : qq f l = (b :: (qq (f - 1) (l.drop m)).1, m + (qq (f - 1) (l.drop m)).2.1, (qq (f - 1) (l.drop m)).2.2) := by
 cases f with
 | zero => omega
 | succ f => rw [qq, if_neg (by omega), if_neg (by rw [hq]; exact fun h => h rfl), hq]; rfl
def qfy (W : World) (lp : Nat) (Inv : List Nat → List Fact → Prop) (Stop : List Fact → Prop) : Prop :=
 ∀ (rest : List Nat) (F fr : List Fact) (w : World) (A : Option Addr) (c : Nat) (b : Bk) (m er : Nat), Inv rest F → readB rest = (b, m, er) → 0 < rest.length → (∀ x ∈ rest, x < 256) → b.evs.length ≤ c → Mem W w (.row (.slice A b.evs.length c) b.evs.length (b.evs.flatMap evL) 45 11 :: (F ++ fr)) →
  YieldAt Fence.wide 0 Tryd.prog lp #[.agg #[.int .u8 (b.kind : Int), .int .u8 (b.cpu : Int), .int .i64 b.lost, .int .i64 b.next, .slice A b.evs.length c, .int .i64 (m : Int)], .int .i64 (er : Int)] w fun e w' => ∃ F', Mem W w' (F' ++ fr) ∧ ((er = 0 ∧ e = .returned (.bool true) ∧ Inv (rest.drop m) F') ∨ (er ≠ 0 ∧ e = .returned (.bool false) ∧ Stop F'))
def qr9 (W : World) (Inv : List Nat → List Fact → Prop) (Stop : List Fact → Prop) (r : Ending) (w' : World) : Prop := ∃ v, r = .returned v ∧ ∃ F', Mem W w' F' ∧ (Inv [] F' ∨ Stop F')
theorem qhx {W : World} {fr : List Fact} {er : Nat} {I S : List Fact → Prop} : ∀ (e : Ending) (w' : World), (∃ F', Mem W w' (F' ++ fr) ∧ ((er = 0 ∧ e = .returned (.bool true) ∧ I F') ∨ (er ≠ 0 ∧ e = .returned (.bool false) ∧ S F'))) → ∃ v, e = .returned v
 | _, _, ⟨_, _, .inl ⟨_, h, _⟩⟩ => ⟨_, h⟩
 | _, _, ⟨_, _, .inr ⟨_, h, _⟩⟩ => ⟨_, h⟩
theorem Rd.qy1 {w : World} {B k c : Nat} {A : Option Addr} {l : List Nat} (h : Rd w B 1 A l.length (l.map B8)) (hk : k ≤ l.length) (hc : l.length ≤ c) : Rd w B 1 (if c = k then A else A.map (·.add (k * 1))) (l.drop k).length ((l.drop k).map B8) := by
 rw [List.length_drop]
 exact h.qn7 hk hc
theorem qd9 (A : Option Addr) (n c : Nat) (l : List It) (w : World) (hr : Rd w w.heap.size 12 A n (l.flatMap itL)) (hln : l.length = n) (hn : n ≤ 1000000) :
    Calls Tryd.prog 36 #[.slice A n c] w fun r w' => (∃ A c, r = .returned (.slice A n c) ∧ w'.ownsRow w.heap.size 45 11 (.slice A n c) n ((evsI l).flatMap evL) ∧ n ≤ c) ∧ Below w.heap.size w w' := by
 refine qg (vs := [.slice A n c]) Tryd.func36 rfl rfl (by kernel_rfl) (σ0 := [(0, .slice A n c)]) rfl ?_
 intro a HF
 have HM := Mem.start w
 refine wp_seq (qa ?_)
 refine fp HF 1 0 [(2, .slice none 0 0)] fun a HF => ?_
 refine qb rfl (wp_seq (qa ?_))
 refine fp HF 1 0 [(3, .slice none 0 0)] fun a HF => ?_
 refine qb rfl ?_
 replace HM := HM.nil 45 11
 refine wp_seq (wp_seq (qa ?_))
 refine fp HF 1 0 [(6, .slice A n c)] fun a HF => ?_
 refine fy HF HM 1 rfl rfl rfl (Yl.len rfl rfl (by kernel_rfl)) fun a HF => ?_
 refine fp HF 1 2 [(8, vI 0)] fun a HF => ?_
 refine qb rfl (wp_block ?_)
 refine zk (fun mS aS wS => ∃ (k : Nat) (Ak : Option Addr) (ck : Nat), (k ≤ n) ∧ (k ≤ ck) ∧ mS = n - k ∧ Fr aS 19 [] [(8, vI k), (7, vI n), (6, .slice A n c), (3, .slice Ak k ck), (2, .slice none 0 0)] ∧ Mem w wS [.row (.slice Ak k ck) k ((evsI (l.take k)).flatMap evL) 45 11]) (m := n - 0) ⟨0, none, 0, Nat.zero_le _, Nat.le_refl _, rfl, HF.sub (by kernel_rfl), HM.picks [0] (by decide) rfl⟩ ?_
 clear HF HM; rintro mS a w_ ⟨k, Ak, ck, hk, hck, rfl, HF, HM⟩
 refine wp_seq (qa ?_)
 refine fp HF 1 0 [(9, .bool (decide ((k : Int) < (n : Int))))] fun a HF => ?_
 refine qb rfl (wp_seq ?_)
 rcases HF.tf 9 rfl with ⟨hb9, HF⟩ | ⟨hb9, HF⟩
 ·
  have hd9 := of_decide_eq_true hb9
  have hk9 : k < n := by omega
  refine qf HF rfl (wp_skip (wp_seq (wp_block (wp_seq (qa ?_)))))
  obtain ⟨gA, oA, rfl, _⟩ := hr.qas (Nat.lt_of_le_of_lt (Nat.zero_le _) (show k < n from by omega)) (by decide)
  refine fy HF HM 0 rfl rfl rfl (v := vP gA (oA + k * 12)) (Yl.ix gA oA k 12 rfl rfl rfl) fun a HF => ?_
  refine fy HF HM 1 rfl rfl rfl (v := .agg ((l.getD k It.zero).cells)) (Yl.zg rfl rfl si_it rfl (fun _ h => (h.old hr).qce qb5 ((getD_at It.zero (k := k) (by first | omega | (simp; omega)))))) fun a HF => ?_
  refine fo HF 2 rfl rfl ?_
  refine qr HF HM (cs := #[vI 0, vI 0, vB 0, vB 0, vI 0, vI 0, vI 0, vI 0, vI 0, vQ 0, vI 0, vI 0]) rfl (by kernel_rfl) rfl (by decide) ?_
  clear HF HM; intro a w5 g5 HF HM
  refine fo HF 3 rfl rfl ?_
  refine e_sa HF HM 0 rfl rfl rfl rfl rfl si_it rfl rfl (qnq (l.getD k It.zero)) ?_
  clear HM; intro w4_3 HM
  refine qb rfl (qa ?_)
  refine fp HF 2 0 [(13, vP g5 0), (12, .slice Ak k ck)] fun a HF => ?_
  refine fy HF HM 2 rfl rfl rfl (v := .agg #[vI ((l.getD k It.zero).e.seq), vI ((l.getD k It.zero).e.time), vB ((l.getD k It.zero).e.cpu), vB ((l.getD k It.zero).e.kind), vI ((l.getD k It.zero).e.task), vI ((l.getD k It.zero).e.group), vI ((l.getD k It.zero).e.to), vI ((l.getD k It.zero).e.weight), vI ((l.getD k It.zero).e.ticks), vQ ((l.getD k It.zero).e.mask), vI ((l.getD k It.zero).e.got)]) (Yl.zg rfl rfl ⟨(by kernel_rfl), (by kernel_rfl)⟩ rfl (fun _ h => h.sub (i := 0) rfl 0 rfl)) fun a HF => ?_
  refine fo HF 3 rfl rfl ?_
  refine qar HF HM (vs := [(0, .agg #[vI ((l.getD k It.zero).e.seq), vI ((l.getD k It.zero).e.time), vB ((l.getD k It.zero).e.cpu), vB ((l.getD k It.zero).e.kind), vI ((l.getD k It.zero).e.task), vI ((l.getD k It.zero).e.group), vI ((l.getD k It.zero).e.to), vI ((l.getD k It.zero).e.weight), vI ((l.getD k It.zero).e.ticks), vQ ((l.getD k It.zero).e.mask), vI ((l.getD k It.zero).e.got)])]) (cs := #[vI ((l.getD k It.zero).e.seq), vI ((l.getD k It.zero).e.time), vB ((l.getD k It.zero).e.cpu), vB ((l.getD k It.zero).e.kind), vI ((l.getD k It.zero).e.task), vI ((l.getD k It.zero).e.group), vI ((l.getD k It.zero).e.to), vI ((l.getD k It.zero).e.weight), vI ((l.getD k It.zero).e.ticks), vQ ((l.getD k It.zero).e.mask), vI ((l.getD k It.zero).e.got)]) rfl ei_ev (by decide) rfl (by kernel_rfl) rfl (by decide) ?_
  clear HF HM; intro a w15 g15 HF HM
  refine fo HF 4 rfl rfl ?_
  refine qac HF HM (i := 2) rfl ei_ev rfl rfl rfl (news := (evL (l.getD k It.zero).e)) (HM.rdBlk (i := 0) (n := 1) (size := 11) rfl rfl) (qaa _) (by omega) (by omega) rfl (by decide) ?_
  clear HF HM; intro a w16 A16 c16 HF HM hc16
  rw [show ((evsI (l.take k)).flatMap evL) ++ (evL (l.getD k It.zero).e) = ((evsI (l.take (k + 1))).flatMap evL) from by rw [qoz (by omega)]] at HM
  refine fp HF 1 5 [(3, .slice A16 (k + 1) c16)] fun a HF => ?_
  refine qb rfl (qa ?_)
  refine fp HF 1 0 [(17, vI (IntKind.i64.wrap ((k : Int) + 1)))] fun a HF => ?_
  replace HF := HF.sp 17 (vI (k + 1 : Nat)) rfl (qi (by omega) (by omega))
  refine fp HF 1 1 [(8, vI (k + 1 : Nat))] fun a HF => ?_
  refine qb rfl ?_
  exact ⟨_, (by omega), k + 1, A16, c16, by omega, hc16, rfl, HF.sub (by kernel_rfl), HM.picks [2] (by decide) rfl⟩
 have hd9 := of_decide_eq_false hb9
 have hkn : k = n := by omega
 refine qe HF rfl (wp_exit (wp_seq (qa ?_)))
 refine fp HF 2 0 [(2, .slice Ak k ck)] fun a HF => ?_
 refine qb rfl (wp_ret ?_)
 exact ret1 rfl HF (.tmp HF rfl) (⟨⟨Ak, ck, by rw [hkn], by have h := HM.own (i := 0) rfl; rw [hkn, List.take_of_length_le (by omega)] at h; exact h, by omega⟩, HM.below⟩)
theorem qix (A : Option Addr) (n c : Nat) (l : List It) (w : World) (hr : Rd w w.heap.size 12 A n (l.flatMap itL)) (hln : l.length = n) (hn : n ≤ 1000000) :
    Calls Tryd.prog 37 #[.slice A n c] w fun r w' => (∃ A c, r = .returned (.slice A n c) ∧ w'.ownsRow w.heap.size 3 1 (.slice A n c) n ((befI l).map I64i) ∧ n ≤ c) ∧ Below w.heap.size w w' := by
 refine qg (vs := [.slice A n c]) Tryd.func37 rfl rfl (by kernel_rfl) (σ0 := [(0, .slice A n c)]) rfl ?_
 intro a HF
 have HM := Mem.start w
 refine wp_seq (qa ?_)
 refine fp HF 1 0 [(2, .slice none 0 0)] fun a HF => ?_
 refine qb rfl (wp_seq (qa ?_))
 refine fp HF 1 0 [(3, .slice none 0 0)] fun a HF => ?_
 refine qb rfl ?_
 replace HM := HM.nil 3 1
 refine wp_seq (wp_seq (qa ?_))
 refine fp HF 1 0 [(6, .slice A n c)] fun a HF => ?_
 refine fy HF HM 1 rfl rfl rfl (Yl.len rfl rfl (by kernel_rfl)) fun a HF => ?_
 refine fp HF 1 2 [(8, vI 0)] fun a HF => ?_
 refine qb rfl (wp_block ?_)
 refine zk (fun mS aS wS => ∃ (k : Nat) (Ak : Option Addr) (ck : Nat), (k ≤ n) ∧ (k ≤ ck) ∧ mS = n - k ∧ Fr aS 19 [] [(8, vI k), (7, vI n), (6, .slice A n c), (3, .slice Ak k ck), (2, .slice none 0 0)] ∧ Mem w wS [.row (.slice Ak k ck) k ((befI (l.take k)).map I64i) 3 1]) (m := n - 0) ⟨0, none, 0, Nat.zero_le _, Nat.le_refl _, rfl, HF.sub (by kernel_rfl), HM.picks [0] (by decide) rfl⟩ ?_
 clear HF HM; rintro mS a w_ ⟨k, Ak, ck, hk, hck, rfl, HF, HM⟩
 refine wp_seq (qa ?_)
 refine fp HF 1 0 [(9, .bool (decide ((k : Int) < (n : Int))))] fun a HF => ?_
 refine qb rfl (wp_seq ?_)
 rcases HF.tf 9 rfl with ⟨hb9, HF⟩ | ⟨hb9, HF⟩
 ·
  have hd9 := of_decide_eq_true hb9
  have hk9 : k < n := by omega
  refine qf HF rfl (wp_skip (wp_seq (wp_block (wp_seq (qa ?_)))))
  obtain ⟨gA, oA, rfl, _⟩ := hr.qas (Nat.lt_of_le_of_lt (Nat.zero_le _) (show k < n from by omega)) (by decide)
  refine fy HF HM 0 rfl rfl rfl (v := vP gA (oA + k * 12)) (Yl.ix gA oA k 12 rfl rfl rfl) fun a HF => ?_
  refine fy HF HM 1 rfl rfl rfl (v := .agg ((l.getD k It.zero).cells)) (Yl.zg rfl rfl si_it rfl (fun _ h => (h.old hr).qce qb5 ((getD_at It.zero (k := k) (by first | omega | (simp; omega)))))) fun a HF => ?_
  refine fo HF 2 rfl rfl ?_
  refine qr HF HM (cs := #[vI 0, vI 0, vB 0, vB 0, vI 0, vI 0, vI 0, vI 0, vI 0, vQ 0, vI 0, vI 0]) rfl (by kernel_rfl) rfl (by decide) ?_
  clear HF HM; intro a w5 g5 HF HM
  refine fo HF 3 rfl rfl ?_
  refine e_sa HF HM 0 rfl rfl rfl rfl rfl si_it rfl rfl (qnq (l.getD k It.zero)) ?_
  clear HM; intro w4_3 HM
  refine qb rfl (qa ?_)
  refine fp HF 2 0 [(13, vP g5 11), (12, .slice Ak k ck)] fun a HF => ?_
  refine fy HF HM 2 rfl rfl rfl (v := vI ((l.getD k It.zero).before)) (Yl.qh rfl rfl (by kernel_rfl) (fun _ h => h.cell (i := 0) rfl (rfl))) fun a HF => ?_
  refine fo HF 3 rfl rfl ?_
  refine qar HF HM (vs := [(0, vI ((l.getD k It.zero).before))]) (cs := #[vI ((l.getD k It.zero).before)]) rfl qm4 (by decide) rfl (by kernel_rfl) rfl (by decide) ?_
  clear HF HM; intro a w15 g15 HF HM
  refine fo HF 4 rfl rfl ?_
  refine qac HF HM (i := 2) rfl qm4 rfl rfl rfl (news := [I64i (l.getD k It.zero).before]) (HM.rdBlk (i := 0) (n := 1) (size := 1) rfl rfl) (by intro v hv; simp at hv; subst hv; rfl) (by omega) (by omega) rfl (by decide) ?_
  clear HF HM; intro a w16 A16 c16 HF HM hc16
  rw [show ((befI (l.take k)).map I64i) ++ [I64i (l.getD k It.zero).before] = ((befI (l.take (k + 1))).map I64i) from by rw [qo0 (by omega)]] at HM
  refine fp HF 1 5 [(3, .slice A16 (k + 1) c16)] fun a HF => ?_
  refine qb rfl (qa ?_)
  refine fp HF 1 0 [(17, vI (IntKind.i64.wrap ((k : Int) + 1)))] fun a HF => ?_
  replace HF := HF.sp 17 (vI (k + 1 : Nat)) rfl (qi (by omega) (by omega))
  refine fp HF 1 1 [(8, vI (k + 1 : Nat))] fun a HF => ?_
  refine qb rfl ?_
  exact ⟨_, (by omega), k + 1, A16, c16, by omega, hc16, rfl, HF.sub (by kernel_rfl), HM.picks [2] (by decide) rfl⟩
 have hd9 := of_decide_eq_false hb9
 have hkn : k = n := by omega
 refine qe HF rfl (wp_exit (wp_seq (qa ?_)))
 refine fp HF 2 0 [(2, .slice Ak k ck)] fun a HF => ?_
 refine qb rfl (wp_ret ?_)
 exact ret1 rfl HF (.tmp HF rfl) (⟨⟨Ak, ck, by rw [hkn], by have h := HM.own (i := 0) rfl; rw [hkn, List.take_of_length_le (by omega)] at h; exact h, by omega⟩, HM.below⟩)
end Go.Proofs.YtfeheccoijnbaaaDoor
