/- Texts laid together: LenW, Blk2W, BlkT, BlkU, Blk3W, Blk4W. -/
import Derived.Test.YtjpielapplglmaaDoorBlkR
import Derived.Test.YtjpielapplglmaaDoorCardWrongBZ1
/- Sealed bytes, the length of a block: the walks. -/
set_option linter.all false
namespace Go.Proofs.YtjpielapplglmaaDoor
open Go.RowKit
theorem sealed_val {l : List Nat} {n : Nat} (hln : l.length = n) (h : 4 ≤ n) : (((crcSum (l.take (n - 4)) : Nat) : Int) == ((l.getD (n - 4) 0 + l.getD (n - 4 + 1) 0 * 256 + l.getD (n - 4 + 2) 0 * 65536 + l.getD (n - 4 + 3) 0 * 16777216 : Nat) : Int)) = sealedR l := by
  subst hln
  have hd : ∀ i, (l.drop (l.length - 4)).getD i 0 = l.getD (l.length - 4 + i) 0 := fun i => by rw [List.getD_eq_getElem?_getD, List.getElem?_drop, ← List.getD_eq_getElem?_getD]
  unfold sealedR num4
  rw [hd, hd, hd, hd, Bool.eq_iff_iff, beq_iff_eq, decide_eq_true_eq]
  simp only [Nat.add_zero]
  constructor
  · intro h1; exact ⟨h, by omega⟩
  · intro h1; have := h1.2; omega
theorem sealed_short {l : List Nat} {n : Nat} (hln : l.length = n) (h : n < 4) : sealedR l = false := by unfold sealedR; rw [decide_eq_false]; omega
def numUp (l : List Nat) : Nat → Nat
  | 0 => 0
  | k + 1 => numUp l k * 256 + l.getD (3 - k) 0
theorem numUp_all (l : List Nat) : numUp l 4 = num4 l := by simp [numUp, num4]; omega
theorem numUp_lt {l : List Nat} (hl : ∀ b ∈ l, b < 256) (hn : 4 ≤ l.length) : ∀ k, k ≤ 4 → numUp l k < 256 ^ k
  | 0, _ => by show 0 < 1; decide
  | k + 1, h => by
    have h1 := numUp_lt hl hn k (by omega)
    have h2 := getD_lt hl (k := 3 - k) (by omega)
    rw [numUp, Nat.pow_succ]
    omega
theorem numUp_small {l : List Nat} (hl : ∀ b ∈ l, b < 256) (hn : 4 ≤ l.length) {k : Nat} (h : k ≤ 4) : numUp l k < 4294967296 := by
  have h1 := numUp_lt hl hn k h
  have h2 : (256 : Nat) ^ k ≤ 256 ^ 4 := Nat.pow_le_pow_right (by decide) h
  omega
set_option maxRecDepth 100000 in
set_option maxHeartbeats 4000000 in
theorem sealed_any (A : Option Addr) (n cp : Nat) (l : List Nat) (B : Nat) (w : World) (hL : LaidX B w) (hB : B ≤ w.heap.size) (hr : Rd w w.heap.size 1 A n (l.map B8)) (hc : n ≤ cp) (hln : l.length = n) (hn : n ≤ 140737488355328) (hl : ∀ b ∈ l, b < 256) :
    Calls Tryd.prog 35 #[.slice A n cp] w (Is w (.bool (sealedR l))) := by
  refine calls_enter (vs := [.slice A n cp]) Tryd.func35 rfl rfl (by kernel_rfl) (σ0 := [(0, .slice A n cp)]) rfl ?_
  intro a HF
  have HM := Mem.start w
  refine wp_seq ?_
  refine from_start ?_
  refine from_pures HF 1 0 (j := 1) [(2, .bool false)] (by kernel_rfl) rfl ?_; clear HF; intro a HF
  refine from_done rfl ?_
  refine wp_seq ?_
  refine from_start ?_
  refine from_pures HF 1 0 (j := 1) [(4, .slice A n cp)] (by kernel_rfl) rfl ?_; clear HF; intro a HF
  refine from_yl (S := fun wS => Mem w wS _) HF HM (i := 1) rfl rfl (d := 5) rfl (by decide) (v := .int .i64 ((n : Nat) : Int)) (Yl.len rfl rfl (by kernel_rfl)) ?_; clear HF; intro a HF
  refine from_pures HF 1 2 (j := 3) [(6, .int .i64 (IntKind.i64.wrap (((n : Nat) : Int) - 4)))] (by kernel_rfl) rfl ?_; clear HF; intro a HF
  replace HF := HF.as (t := 6) (u := .int .i64 ((n : Int) - 4)) rfl (i64_as ⟨by omega, by omega⟩)
  refine from_pures HF 1 3 (j := 4) [(3, .int .i64 ((n : Int) - 4))] (by kernel_rfl) rfl ?_; clear HF; intro a HF
  refine from_done rfl ?_
  replace HF := HF.sub (σ' := [(3, .int .i64 ((n : Int) - 4)), (2, .bool false), (0, .slice A n cp)]) (by kernel_rfl)
  refine wp_seq ?_
  refine wp_seq ?_
  refine from_start ?_
  refine from_pures HF 2 0 (j := 2) [(8, .bool (decide (((n : Int) - 4 : Int) < (0 : Int)))), (7, .int .i64 ((n : Int) - 4))] (by kernel_rfl) rfl ?_; clear HF; intro a HF
  refine from_done rfl ?_
  replace HF := HF.sub (σ' := [(8, .bool (decide (((n : Int) - 4 : Int) < (0 : Int)))), (3, .int .i64 ((n : Int) - 4)), (2, .bool false), (0, .slice A n cp)]) (by kernel_rfl)
  rcases Bool.eq_false_or_eq_true (decide (((n : Int) - 4 : Int) < (0 : Int))) with hb8 | hb8
  · have HF := HF.as (t := 8) (u := .bool true) rfl (by rw [hb8])
    have hd8 := of_decide_eq_true hb8
    refine cond_true HF rfl ?_
    refine wp_seq ?_
    refine from_start ?_
    refine from_pures HF 1 0 (j := 1) [(2, .bool false)] (by kernel_rfl) rfl ?_; clear HF; intro a HF
    refine from_done rfl ?_
    replace HF := HF.sub (σ' := [(2, .bool false), (8, .bool true), (3, .int .i64 ((n : Int) - 4)), (0, .slice A n cp)]) (by kernel_rfl)
    refine wp_ret ?_
    exact ret1 rfl HF (.tmp HF rfl) (⟨by rw [sealed_short hln (by omega)], HM.below⟩)
  · have HF := HF.as (t := 8) (u := .bool false) rfl (by rw [hb8])
    have hd8 := of_decide_eq_false hb8
    replace HF := HF.as (t := 3) (u := .int .i64 ((n - 4 : Nat) : Int)) rfl (by congr 1; omega)
    refine cond_false HF rfl ?_
    refine wp_skip ?_
    refine wp_seq ?_
    refine any_start (by kernel_rfl) (fun wS => Mem w wS []) [] ?_
    replace HM := HM.drew
    have HS := HM.picks (fs' := []) [] (by decide) rfl
    refine any_pures HF (fun _ => HS) (fun _ _ d _ _ h => by cases d <;> exact h) [0, 1, 4, 5, 9, 10, 17, 18, 25, 26] #[true, true, false, false, true, true, false, false, false, true, true, false, false, false, false, false, false, true, true, false, false, false, false, false, false, true, true, false, false, false, false, false, false, false, false] [(35, .int .i64 ((n - 4 : Nat) : Int)), (34, .slice A n cp), (27, .int .i64 ((n - 4 : Nat) : Int)), (26, .slice A n cp), (19, .int .i64 ((n - 4 : Nat) : Int)), (18, .slice A n cp), (14, .int .i64 ((n - 4 : Nat) : Int)), (13, .slice A n cp), (10, .int .i64 ((n - 4 : Nat) : Int)), (9, .slice A n cp)] (by kernel_rfl) ?_; clear HF; intro a HF
    refine any_yl HF HS (i := 2) rfl rfl (d := 11) rfl (by decide) (by kernel_rfl) (fun _ _ _ h => h) (v := .slice A (n - 4) cp) (Yl.sliceUpto ei_u8 (j := n - 4) rfl rfl rfl (by omega)) ?_; clear HF; intro a HF
    obtain ⟨gA, oA, rfl, _⟩ := hr.some_at (Nat.lt_of_le_of_lt (Nat.zero_le _) (show n - 4 < n from by omega)) (by decide)
    refine any_yl HF HS (i := 6) rfl rfl (d := 15) rfl (by decide) (by kernel_rfl) (fun _ _ _ h => h) (v := .pointer (some ⟨gA, oA + (n - 4) * 1, none⟩)) ((Yl.indexAddr (ad := ⟨gA, oA, none⟩) (y := n - 4) (sz := 1) rfl rfl rfl (by omega) (by kernel_rfl)).as (by rw [Addr.add_mid])) ?_; clear HF; intro a HF
    have hx46 := getD_lt hl (k := (n - 4)) (by first | omega | (simp; omega))
    refine any_yl HF HS (i := 7) rfl rfl (d := 16) rfl (by decide) (by kernel_rfl) (fun _ _ _ h => h) (v := .int .u8 ((l.getD (n - 4) 0) : Int)) (Yl.load1 rfl rfl (by kernel_rfl) (fun _ h => (h.old hr).oneAt1 (k := (n - 4)) (map_at (F := B8) (k := (n - 4)) (x := (l.getD (n - 4) 0)) ((getD_at 0 (k := (n - 4)) (by first | omega | (simp; omega))))))) ?_; clear HF; intro a HF
    refine any_pure HF (fun _ => HS) (i := 8) rfl rfl (d := 17) rfl (by decide) (by kernel_rfl) (fun _ _ _ h => h) (v := .int .u32 (IntKind.u32.wrap ((l.getD (n - 4) 0) : Int))) (fun _ => Yl.pure (by kernel_rfl)) ?_; clear HF; intro a HF
    replace HF := HF.as (t := 17) (u := .int .u32 ((l.getD (n - 4) 0) : Int)) rfl (u32_nat rfl (by omega))
    refine any_pure HF (fun _ => HS) (i := 11) rfl rfl (d := 20) rfl (by decide) (by kernel_rfl) (fun _ _ _ h => h) (v := .int .i64 (IntKind.i64.wrap (((n - 4 : Nat) : Int) + 1))) (fun _ => Yl.pure (by kernel_rfl)) ?_; clear HF; intro a HF
    replace HF := HF.as (t := 20) (u := .int .i64 (((n - 4) + 1 : Nat) : Int)) rfl (i64_nat (by omega) (by omega))
    refine any_yl HF HS (i := 12) rfl rfl (d := 21) rfl (by decide) (by kernel_rfl) (fun _ _ _ h => h) (v := .pointer (some ⟨gA, oA + ((n - 4) + 1) * 1, none⟩)) ((Yl.indexAddr (ad := ⟨gA, oA, none⟩) (y := (n - 4) + 1) (sz := 1) rfl rfl rfl (by omega) (by kernel_rfl)).as (by rw [Addr.add_mid])) ?_; clear HF; intro a HF
    have hx53 := getD_lt hl (k := ((n - 4) + 1)) (by first | omega | (simp; omega))
    refine any_yl HF HS (i := 13) rfl rfl (d := 22) rfl (by decide) (by kernel_rfl) (fun _ _ _ h => h) (v := .int .u8 ((l.getD ((n - 4) + 1) 0) : Int)) (Yl.load1 rfl rfl (by kernel_rfl) (fun _ h => (h.old hr).oneAt1 (k := ((n - 4) + 1)) (map_at (F := B8) (k := ((n - 4) + 1)) (x := (l.getD ((n - 4) + 1) 0)) ((getD_at 0 (k := ((n - 4) + 1)) (by first | omega | (simp; omega))))))) ?_; clear HF; intro a HF
    refine any_pure HF (fun _ => HS) (i := 14) rfl rfl (d := 23) rfl (by decide) (by kernel_rfl) (fun _ _ _ h => h) (v := .int .u32 (IntKind.u32.wrap ((l.getD ((n - 4) + 1) 0) : Int))) (fun _ => Yl.pure (by kernel_rfl)) ?_; clear HF; intro a HF
    replace HF := HF.as (t := 23) (u := .int .u32 ((l.getD ((n - 4) + 1) 0) : Int)) rfl (u32_nat rfl (by omega))
    refine any_pure HF (fun _ => HS) (i := 15) rfl rfl (d := 24) rfl (by decide) (by kernel_rfl) (fun _ _ _ h => h) (v := .int .u32 (IntKind.u32.wrap (((l.getD ((n - 4) + 1) 0) : Int) * 2 ^ (min (8 : Int).toNat (IntKind.u32).bits)))) (fun _ => Yl.pure (by kernel_rfl)) ?_; clear HF; intro a HF
    replace HF := HF.as (t := 24) (u := .int .u32 (((l.getD ((n - 4) + 1) 0) * 256 : Nat) : Int)) rfl (u32_nat (by rw [show (2 : Int) ^ (min (8 : Int).toNat (IntKind.u32).bits) = 256 from rfl]; omega) (by omega))
    refine any_pure HF (fun _ => HS) (i := 16) rfl rfl (d := 25) rfl (by decide) (by kernel_rfl) (fun _ _ _ h => h) (v := .int .u32 (IntKind.u32.wrap (BitVec.ofInt (IntKind.u32).bits ((l.getD (n - 4) 0) : Int) ||| BitVec.ofInt (IntKind.u32).bits (((l.getD ((n - 4) + 1) 0) * 256 : Nat) : Int)).toNat)) (fun _ => Yl.pure (by kernel_rfl)) ?_; clear HF; intro a HF
    replace HF := HF.as (t := 25) (u := .int .u32 ((l.getD (n - 4) 0 + l.getD (n - 4 + 1) 0 * 256 : Nat) : Int)) rfl (or_sum32 (m := l.getD (n - 4) 0) (n := l.getD (n - 4 + 1) 0) (j := 8) (p := 256) rfl (by omega) (by omega))
    refine any_pure HF (fun _ => HS) (i := 19) rfl rfl (d := 28) rfl (by decide) (by kernel_rfl) (fun _ _ _ h => h) (v := .int .i64 (IntKind.i64.wrap (((n - 4 : Nat) : Int) + 2))) (fun _ => Yl.pure (by kernel_rfl)) ?_; clear HF; intro a HF
    replace HF := HF.as (t := 28) (u := .int .i64 (((n - 4) + 2 : Nat) : Int)) rfl (i64_nat (by omega) (by omega))
    refine any_yl HF HS (i := 20) rfl rfl (d := 29) rfl (by decide) (by kernel_rfl) (fun _ _ _ h => h) (v := .pointer (some ⟨gA, oA + ((n - 4) + 2) * 1, none⟩)) ((Yl.indexAddr (ad := ⟨gA, oA, none⟩) (y := (n - 4) + 2) (sz := 1) rfl rfl rfl (by omega) (by kernel_rfl)).as (by rw [Addr.add_mid])) ?_; clear HF; intro a HF
    have hx64 := getD_lt hl (k := ((n - 4) + 2)) (by first | omega | (simp; omega))
    refine any_yl HF HS (i := 21) rfl rfl (d := 30) rfl (by decide) (by kernel_rfl) (fun _ _ _ h => h) (v := .int .u8 ((l.getD ((n - 4) + 2) 0) : Int)) (Yl.load1 rfl rfl (by kernel_rfl) (fun _ h => (h.old hr).oneAt1 (k := ((n - 4) + 2)) (map_at (F := B8) (k := ((n - 4) + 2)) (x := (l.getD ((n - 4) + 2) 0)) ((getD_at 0 (k := ((n - 4) + 2)) (by first | omega | (simp; omega))))))) ?_; clear HF; intro a HF
    refine any_pure HF (fun _ => HS) (i := 22) rfl rfl (d := 31) rfl (by decide) (by kernel_rfl) (fun _ _ _ h => h) (v := .int .u32 (IntKind.u32.wrap ((l.getD ((n - 4) + 2) 0) : Int))) (fun _ => Yl.pure (by kernel_rfl)) ?_; clear HF; intro a HF
    replace HF := HF.as (t := 31) (u := .int .u32 ((l.getD ((n - 4) + 2) 0) : Int)) rfl (u32_nat rfl (by omega))
    refine any_pure HF (fun _ => HS) (i := 23) rfl rfl (d := 32) rfl (by decide) (by kernel_rfl) (fun _ _ _ h => h) (v := .int .u32 (IntKind.u32.wrap (((l.getD ((n - 4) + 2) 0) : Int) * 2 ^ (min (16 : Int).toNat (IntKind.u32).bits)))) (fun _ => Yl.pure (by kernel_rfl)) ?_; clear HF; intro a HF
    replace HF := HF.as (t := 32) (u := .int .u32 (((l.getD ((n - 4) + 2) 0) * 65536 : Nat) : Int)) rfl (u32_nat (by rw [show (2 : Int) ^ (min (16 : Int).toNat (IntKind.u32).bits) = 65536 from rfl]; omega) (by omega))
    refine any_pure HF (fun _ => HS) (i := 24) rfl rfl (d := 33) rfl (by decide) (by kernel_rfl) (fun _ _ _ h => h) (v := .int .u32 (IntKind.u32.wrap (BitVec.ofInt (IntKind.u32).bits ((l.getD (n - 4) 0 + l.getD (n - 4 + 1) 0 * 256 : Nat) : Int) ||| BitVec.ofInt (IntKind.u32).bits (((l.getD ((n - 4) + 2) 0) * 65536 : Nat) : Int)).toNat)) (fun _ => Yl.pure (by kernel_rfl)) ?_; clear HF; intro a HF
    replace HF := HF.as (t := 33) (u := .int .u32 ((l.getD (n - 4) 0 + l.getD (n - 4 + 1) 0 * 256 + l.getD (n - 4 + 2) 0 * 65536 : Nat) : Int)) rfl (or_sum32 (m := l.getD (n - 4) 0 + l.getD (n - 4 + 1) 0 * 256) (n := l.getD (n - 4 + 2) 0) (j := 16) (p := 65536) rfl (by omega) (by omega))
    refine any_pure HF (fun _ => HS) (i := 27) rfl rfl (d := 36) rfl (by decide) (by kernel_rfl) (fun _ _ _ h => h) (v := .int .i64 (IntKind.i64.wrap (((n - 4 : Nat) : Int) + 3))) (fun _ => Yl.pure (by kernel_rfl)) ?_; clear HF; intro a HF
    replace HF := HF.as (t := 36) (u := .int .i64 (((n - 4) + 3 : Nat) : Int)) rfl (i64_nat (by omega) (by omega))
    refine any_yl HF HS (i := 28) rfl rfl (d := 37) rfl (by decide) (by kernel_rfl) (fun _ _ _ h => h) (v := .pointer (some ⟨gA, oA + ((n - 4) + 3) * 1, none⟩)) ((Yl.indexAddr (ad := ⟨gA, oA, none⟩) (y := (n - 4) + 3) (sz := 1) rfl rfl rfl (by omega) (by kernel_rfl)).as (by rw [Addr.add_mid])) ?_; clear HF; intro a HF
    have hx75 := getD_lt hl (k := ((n - 4) + 3)) (by first | omega | (simp; omega))
    refine any_yl HF HS (i := 29) rfl rfl (d := 38) rfl (by decide) (by kernel_rfl) (fun _ _ _ h => h) (v := .int .u8 ((l.getD ((n - 4) + 3) 0) : Int)) (Yl.load1 rfl rfl (by kernel_rfl) (fun _ h => (h.old hr).oneAt1 (k := ((n - 4) + 3)) (map_at (F := B8) (k := ((n - 4) + 3)) (x := (l.getD ((n - 4) + 3) 0)) ((getD_at 0 (k := ((n - 4) + 3)) (by first | omega | (simp; omega))))))) ?_; clear HF; intro a HF
    refine any_pure HF (fun _ => HS) (i := 30) rfl rfl (d := 39) rfl (by decide) (by kernel_rfl) (fun _ _ _ h => h) (v := .int .u32 (IntKind.u32.wrap ((l.getD ((n - 4) + 3) 0) : Int))) (fun _ => Yl.pure (by kernel_rfl)) ?_; clear HF; intro a HF
    replace HF := HF.as (t := 39) (u := .int .u32 ((l.getD ((n - 4) + 3) 0) : Int)) rfl (u32_nat rfl (by omega))
    refine any_pure HF (fun _ => HS) (i := 31) rfl rfl (d := 40) rfl (by decide) (by kernel_rfl) (fun _ _ _ h => h) (v := .int .u32 (IntKind.u32.wrap (((l.getD ((n - 4) + 3) 0) : Int) * 2 ^ (min (24 : Int).toNat (IntKind.u32).bits)))) (fun _ => Yl.pure (by kernel_rfl)) ?_; clear HF; intro a HF
    replace HF := HF.as (t := 40) (u := .int .u32 (((l.getD ((n - 4) + 3) 0) * 16777216 : Nat) : Int)) rfl (u32_nat (by rw [show (2 : Int) ^ (min (24 : Int).toNat (IntKind.u32).bits) = 16777216 from rfl]; omega) (by omega))
    refine any_pure HF (fun _ => HS) (i := 32) rfl rfl (d := 41) rfl (by decide) (by kernel_rfl) (fun _ _ _ h => h) (v := .int .u32 (IntKind.u32.wrap (BitVec.ofInt (IntKind.u32).bits ((l.getD (n - 4) 0 + l.getD (n - 4 + 1) 0 * 256 + l.getD (n - 4 + 2) 0 * 65536 : Nat) : Int) ||| BitVec.ofInt (IntKind.u32).bits (((l.getD ((n - 4) + 3) 0) * 16777216 : Nat) : Int)).toNat)) (fun _ => Yl.pure (by kernel_rfl)) ?_; clear HF; intro a HF
    replace HF := HF.as (t := 41) (u := .int .u32 ((l.getD (n - 4) 0 + l.getD (n - 4 + 1) 0 * 256 + l.getD (n - 4 + 2) 0 * 65536 + l.getD (n - 4 + 3) 0 * 16777216 : Nat) : Int)) rfl (or_sum32 (m := l.getD (n - 4) 0 + l.getD (n - 4 + 1) 0 * 256 + l.getD (n - 4 + 2) 0 * 65536) (n := l.getD (n - 4 + 3) 0) (j := 24) (p := 16777216) rfl (by omega) (by omega))
    refine any_all [3] (by kernel_rfl) rfl ?_
    refine all_cons ?_ all_nil
    refine any_op HF (i := 3) rfl rfl ?_
    refine e_call HF (vs := [.slice (some ⟨gA, oA, none⟩) (n - 4) cp]) rfl (by kernel_rfl) (by kernel_rfl) rfl (by decide) (crcsum_any _ _ _ (l.take (n - 4)) B _ (hL.mem HM hB) (HM.le hB) ((HM.old hr).toB8 (by omega)) (by rw [List.length_take]; omega) (by omega) (take_lt hl _)) ?_
    rintro _ w12 ⟨rfl, hbw⟩
    refine ⟨_, rfl, ?_⟩
    replace HM := HM.call hbw
    clear HF; intro a HF
    refine keepS (HM.picks [] (by decide) rfl) (fun HS => ?_)
    refine any_pures HF (fun _ => HS) (fun _ _ d _ _ h => by cases d <;> exact h) [33, 34] #[true, true, true, true, true, true, true, true, true, true, true, true, true, true, true, true, true, true, true, true, true, true, true, true, true, true, true, true, true, true, true, true, true, true, true] [(2, .bool (((crcSum (l.take (n - 4)) : Int) : Int) == (((l.getD (n - 4) 0 + l.getD (n - 4 + 1) 0 * 256 + l.getD (n - 4 + 2) 0 * 65536 + l.getD (n - 4 + 3) 0 * 16777216 : Nat) : Int) : Int))), (42, .bool (((crcSum (l.take (n - 4)) : Int) : Int) == (((l.getD (n - 4) 0 + l.getD (n - 4 + 1) 0 * 256 + l.getD (n - 4 + 2) 0 * 65536 + l.getD (n - 4 + 3) 0 * 16777216 : Nat) : Int) : Int)))] (by kernel_rfl) ?_; clear HF; intro a HF
    refine any_done (by kernel_rfl) ?_
    replace HF := HF.sub (σ' := [(2, .bool (((crcSum (l.take (n - 4)) : Int) : Int) == (((l.getD (n - 4) 0 + l.getD (n - 4 + 1) 0 * 256 + l.getD (n - 4 + 2) 0 * 65536 + l.getD (n - 4 + 3) 0 * 16777216 : Nat) : Int) : Int))), (3, .int .i64 ((n - 4 : Nat) : Int)), (8, .bool false), (0, .slice (some ⟨gA, oA, none⟩) n cp)]) (by kernel_rfl)
    refine wp_ret ?_
    exact ret1 rfl HF (.tmp HF rfl) (⟨by rw [sealed_val hln (by omega)], HM.below⟩)
theorem len_is {w w' : World} {l : List Nat} {n e : Nat} (h : lenR l = (n, e)) (hb : Below w.heap.size w w') : Is w (.tuple #[.int .i64 ((lenR l).1 : Int), .int .i64 ((lenR l).2 : Int)]) (.returned (.tuple #[.int .i64 (n : Int), .int .i64 (e : Int)])) w' := by rw [h]; exact ⟨rfl, hb⟩
set_option maxRecDepth 100000 in
set_option maxHeartbeats 4000000 in
theorem length_any (A : Option Addr) (n cp : Nat) (l : List Nat) (w : World) (hr : Rd w w.heap.size 1 A n (l.map B8)) (hln : l.length = n) (hn : n ≤ 9223372036854775807) (hl : ∀ b ∈ l, b < 256) :
    Calls Tryd.prog 17 #[.slice A n cp] w (Is w (.tuple #[.int .i64 ((lenR l).1 : Int), .int .i64 ((lenR l).2 : Int)])) := by
  refine calls_enter (vs := [.slice A n cp]) Tryd.func17 rfl rfl (by kernel_rfl) (σ0 := [(0, .slice A n cp)]) rfl ?_
  intro a HF
  have HM := Mem.start w
  refine wp_seq ?_
  refine from_start ?_
  refine from_pures HF 2 0 (j := 2) [(3, .int .i64 0), (2, .int .i64 0)] (by kernel_rfl) rfl ?_; clear HF; intro a HF
  refine from_done rfl ?_
  refine wp_seq ?_
  refine wp_seq ?_
  refine from_start ?_
  refine from_pures HF 1 0 (j := 1) [(6, .slice A n cp)] (by kernel_rfl) rfl ?_; clear HF; intro a HF
  refine from_yl (S := fun wS => Mem w wS _) HF HM (i := 1) rfl rfl (d := 7) rfl (by decide) (v := .int .i64 ((n : Nat) : Int)) (Yl.len rfl rfl (by kernel_rfl)) ?_; clear HF; intro a HF
  refine from_pures HF 1 2 (j := 3) [(8, .bool (decide ((((n : Nat) : Int) : Int) < (4 : Int))))] (by kernel_rfl) rfl ?_; clear HF; intro a HF
  refine from_done rfl ?_
  replace HF := HF.sub (σ' := [(8, .bool (decide ((((n : Nat) : Int) : Int) < (4 : Int)))), (3, .int .i64 0), (2, .int .i64 0), (0, .slice A n cp)]) (by kernel_rfl)
  rcases Bool.eq_false_or_eq_true (decide ((((n : Nat) : Int) : Int) < (4 : Int))) with hb8 | hb8
  · have HF := HF.as (t := 8) (u := .bool true) rfl (by rw [hb8])
    have hd8 := of_decide_eq_true hb8
    refine cond_true HF rfl ?_
    refine wp_seq ?_
    refine from_start ?_
    refine from_pures HF 2 0 (j := 2) [(3, .int .i64 100), (2, .int .i64 0)] (by kernel_rfl) rfl ?_; clear HF; intro a HF
    refine from_done rfl ?_
    replace HF := HF.sub (σ' := [(3, .int .i64 100), (2, .int .i64 0), (8, .bool true), (0, .slice A n cp)]) (by kernel_rfl)
    refine wp_ret ?_
    exact ret2 rfl HF (.tmp HF rfl) (.tmp HF rfl) (len_is (by unfold lenR; rw [if_pos (by omega)]) HM.below)
  · have HF := HF.as (t := 8) (u := .bool false) rfl (by rw [hb8])
    have hd8 := of_decide_eq_false hb8
    refine cond_false HF rfl ?_
    refine wp_skip ?_
    refine wp_seq ?_
    refine from_start ?_
    refine from_pures HF 1 0 (j := 1) [(4, .int .i64 0)] (by kernel_rfl) rfl ?_; clear HF; intro a HF
    refine from_done rfl ?_
    replace HF := HF.sub (σ' := [(4, .int .i64 0), (8, .bool false), (3, .int .i64 0), (2, .int .i64 0), (0, .slice A n cp)]) (by kernel_rfl)
    refine wp_seq ?_
    refine wp_seq ?_
    refine from_start ?_
    refine from_pures HF 1 0 (j := 1) [(5, .int .i64 3)] (by kernel_rfl) rfl ?_; clear HF; intro a HF
    refine from_done rfl ?_
    refine wp_block ?_
    refine loop_nat (fun mS aS wS => ∃ (k : Nat), (k ≤ 4) ∧ mS = 4 - k ∧ Fr aS 34 [] [(5, .int .i64 (3 - (k : Int))), (4, .int .i64 (numUp l k : Int)), (8, .bool false), (3, .int .i64 0), (2, .int .i64 0), (0, .slice A n cp)] ∧ Mem w wS []) (m := 4 - 0) ⟨0, Nat.zero_le _, rfl, HF.sub (by kernel_rfl), HM.picks [] (by decide) rfl⟩ ?_
    clear HF HM; rintro mS a w_ ⟨k, hk, rfl, HF, HM⟩
    have hu := numUp_small hl (by omega) hk
    refine wp_seq ?_
    refine wp_seq ?_
    refine from_start ?_
    refine from_pures HF 2 0 (j := 2) [(10, .bool (decide ((3 - (k : Int) : Int) ≥ (0 : Int)))), (9, .int .i64 (3 - (k : Int)))] (by kernel_rfl) rfl ?_; clear HF; intro a HF
    refine from_done rfl ?_
    replace HF := HF.sub (σ' := [(10, .bool (decide ((3 - (k : Int) : Int) ≥ (0 : Int)))), (5, .int .i64 (3 - (k : Int))), (4, .int .i64 (numUp l k : Int)), (8, .bool false), (3, .int .i64 0), (2, .int .i64 0), (0, .slice A n cp)]) (by kernel_rfl)
    rcases Bool.eq_false_or_eq_true (decide ((3 - (k : Int) : Int) ≥ (0 : Int))) with hb10 | hb10
    · have HF := HF.as (t := 10) (u := .bool true) rfl (by rw [hb10])
      have hd10 := of_decide_eq_true hb10
      have hk3 : k ≤ 3 := by omega
      refine cond_true HF rfl ?_
      refine wp_skip ?_
      refine wp_seq ?_
      refine wp_block ?_
      refine from_start ?_
      refine from_pures HF 2 0 (j := 2) [(14, .int .i64 (IntKind.i64.wrap ((numUp l k : Int) * 2 ^ (min (8 : Int).toNat (IntKind.i64).bits)))), (13, .int .i64 (numUp l k : Int))] (by kernel_rfl) rfl ?_; clear HF; intro a HF
      replace HF := HF.as (t := 14) (u := .int .i64 (((numUp l k) * 256 : Nat) : Int)) rfl (i64_nat (by rw [show (2 : Int) ^ (min (8 : Int).toNat (IntKind.i64).bits) = 256 from rfl]; omega) (by omega))
      refine from_pures HF 2 2 (j := 4) [(16, .int .i64 (3 - (k : Int))), (15, .slice A n cp)] (by kernel_rfl) rfl ?_; clear HF; intro a HF
      replace HF := HF.as (t := 16) (u := .int .i64 ((3 - k : Nat) : Int)) rfl (by congr 1; omega)
      obtain ⟨gA, oA, rfl, _⟩ := hr.some_at (Nat.lt_of_le_of_lt (Nat.zero_le _) (show 3 - k < n from by omega)) (by decide)
      refine from_yl (S := fun wS => Mem w wS _) HF HM (i := 4) rfl rfl (d := 17) rfl (by decide) (v := .pointer (some ⟨gA, oA + (3 - k) * 1, none⟩)) ((Yl.indexAddr (ad := ⟨gA, oA, none⟩) (y := 3 - k) (sz := 1) rfl rfl rfl (by omega) (by kernel_rfl)).as (by rw [Addr.add_mid])) ?_; clear HF; intro a HF
      have hx65 := getD_lt hl (k := (3 - k)) (by first | omega | (simp; omega))
      refine from_yl (S := fun wS => Mem w wS _) HF HM (i := 5) rfl rfl (d := 18) rfl (by decide) (v := .int .u8 ((l.getD (3 - k) 0) : Int)) (Yl.load1 rfl rfl (by kernel_rfl) (fun _ h => (h.old hr).oneAt1 (k := (3 - k)) (map_at (F := B8) (k := (3 - k)) (x := (l.getD (3 - k) 0)) ((getD_at 0 (k := (3 - k)) (by first | omega | (simp; omega))))))) ?_; clear HF; intro a HF
      refine from_pures HF 1 6 (j := 7) [(19, .int .i64 (IntKind.i64.wrap ((l.getD (3 - k) 0) : Int)))] (by kernel_rfl) rfl ?_; clear HF; intro a HF
      replace HF := HF.as (t := 19) (u := .int .i64 ((l.getD (3 - k) 0) : Int)) rfl (i64_nat rfl (by omega))
      refine from_pures HF 1 7 (j := 8) [(20, .int .i64 (IntKind.i64.wrap (BitVec.ofInt (IntKind.i64).bits (((numUp l k) * 256 : Nat) : Int) ||| BitVec.ofInt (IntKind.i64).bits ((l.getD (3 - k) 0) : Int)).toNat))] (by kernel_rfl) rfl ?_; clear HF; intro a HF
      replace HF := HF.as (t := 20) (u := .int .i64 (numUp l (k + 1) : Int)) rfl (by have h := or_sum64 (m := numUp l k) (n := l.getD (3 - k) 0) (j := 8) (p := 256) rfl (by omega) (by omega); exact h)
      refine from_pures HF 1 8 (j := 9) [(4, .int .i64 (numUp l (k + 1) : Int))] (by kernel_rfl) rfl ?_; clear HF; intro a HF
      refine from_done rfl ?_
      replace HF := HF.sub (σ' := [(4, .int .i64 (numUp l (k + 1) : Int)), (10, .bool true), (5, .int .i64 (3 - (k : Int))), (8, .bool false), (3, .int .i64 0), (2, .int .i64 0), (0, .slice (some ⟨gA, oA, none⟩) n cp)]) (by kernel_rfl)
      refine from_start ?_
      refine from_pures HF 2 0 (j := 2) [(12, .int .i64 (IntKind.i64.wrap ((3 - (k : Int)) - 1))), (11, .int .i64 (3 - (k : Int)))] (by kernel_rfl) rfl ?_; clear HF; intro a HF
      replace HF := HF.as (t := 12) (u := .int .i64 (3 - ((k + 1 : Nat) : Int))) rfl (by rw [IntWalk.i64_in _ (by omega)]; congr 1; omega)
      refine from_pures HF 1 2 (j := 3) [(5, .int .i64 (3 - ((k + 1 : Nat) : Int)))] (by kernel_rfl) rfl ?_; clear HF; intro a HF
      refine from_done rfl ?_
      replace HF := HF.sub (σ' := [(5, .int .i64 (3 - ((k + 1 : Nat) : Int))), (4, .int .i64 (numUp l (k + 1) : Int)), (10, .bool true), (8, .bool false), (3, .int .i64 0), (2, .int .i64 0), (0, .slice (some ⟨gA, oA, none⟩) n cp)]) (by kernel_rfl)
      exact ⟨_, (by omega), k + 1, by omega, rfl, HF.sub (by kernel_rfl), HM.picks [] (by decide) rfl⟩
    · have HF := HF.as (t := 10) (u := .bool false) rfl (by rw [hb10])
      have hd10 := of_decide_eq_false hb10
      obtain rfl : k = 4 := by omega
      replace HF := HF.as (t := 4) (u := .int .i64 (num4 l : Int)) rfl (by rw [numUp_all])
      rw [numUp_all] at hu
      refine cond_false HF rfl ?_
      refine wp_exit ?_
      refine wp_seq ?_
      refine wp_block ?_
      refine wp_seq ?_
      refine from_start ?_
      refine from_pures HF 3 0 (j := 3) [(24, .bool (decide (((num4 l : Int) : Int) < (13 : Int)))), (23, .bool (decide (((num4 l : Int) : Int) < (13 : Int)))), (22, .int .i64 (num4 l : Int))] (by kernel_rfl) rfl ?_; clear HF; intro a HF
      rcases Bool.eq_false_or_eq_true (decide (((num4 l : Int) : Int) < (13 : Int))) with hb24 | hb24
      · have HF := HF.as (t := 24) (u := .bool true) rfl (by rw [hb24])
        have hd24 := of_decide_eq_true hb24
        refine from_pures HF 4 3 (j := 7) [(21, .bool true), (27, .bool true), (26, undef), (25, undef)] (by kernel_rfl) rfl ?_; clear HF; intro a HF
        refine from_done rfl ?_
        replace HF := HF.sub (σ' := [(21, .bool true), (4, .int .i64 (num4 l : Int)), (10, .bool false), (5, .int .i64 (3 - (4 : Int))), (8, .bool false), (3, .int .i64 0), (2, .int .i64 0), (0, .slice A n cp)]) (by kernel_rfl)
        refine cond_true HF rfl ?_
        refine wp_seq ?_
        refine from_start ?_
        refine from_pures HF 2 0 (j := 2) [(3, .int .i64 101), (2, .int .i64 0)] (by kernel_rfl) rfl ?_; clear HF; intro a HF
        refine from_done rfl ?_
        replace HF := HF.sub (σ' := [(3, .int .i64 101), (2, .int .i64 0), (21, .bool true), (4, .int .i64 (num4 l : Int)), (10, .bool false), (5, .int .i64 (3 - (4 : Int))), (8, .bool false), (0, .slice A n cp)]) (by kernel_rfl)
        refine wp_ret ?_
        exact ret2 rfl HF (.tmp HF rfl) (.tmp HF rfl) (len_is (by unfold lenR; rw [if_neg (by omega), if_pos (by omega)]) HM.below)
      · have HF := HF.as (t := 24) (u := .bool false) rfl (by rw [hb24])
        have hd24 := of_decide_eq_false hb24
        refine from_pures HF 4 3 (j := 7) [(21, .bool (decide (((num4 l : Int) : Int) > (4096 : Int)))), (27, .bool (decide (((num4 l : Int) : Int) > (4096 : Int)))), (26, .bool (decide (((num4 l : Int) : Int) > (4096 : Int)))), (25, .int .i64 (num4 l : Int))] (by kernel_rfl) rfl ?_; clear HF; intro a HF
        refine from_done rfl ?_
        replace HF := HF.sub (σ' := [(21, .bool (decide (((num4 l : Int) : Int) > (4096 : Int)))), (4, .int .i64 (num4 l : Int)), (10, .bool false), (5, .int .i64 (3 - (4 : Int))), (8, .bool false), (3, .int .i64 0), (2, .int .i64 0), (0, .slice A n cp)]) (by kernel_rfl)
        rcases Bool.eq_false_or_eq_true (decide (((num4 l : Int) : Int) > (4096 : Int))) with hb21 | hb21
        · have HF := HF.as (t := 21) (u := .bool true) rfl (by rw [hb21])
          have hd21 := of_decide_eq_true hb21
          refine cond_true HF rfl ?_
          refine wp_seq ?_
          refine from_start ?_
          refine from_pures HF 2 0 (j := 2) [(3, .int .i64 101), (2, .int .i64 0)] (by kernel_rfl) rfl ?_; clear HF; intro a HF
          refine from_done rfl ?_
          replace HF := HF.sub (σ' := [(3, .int .i64 101), (2, .int .i64 0), (21, .bool true), (4, .int .i64 (num4 l : Int)), (10, .bool false), (5, .int .i64 (3 - (4 : Int))), (8, .bool false), (0, .slice A n cp)]) (by kernel_rfl)
          refine wp_ret ?_
          exact ret2 rfl HF (.tmp HF rfl) (.tmp HF rfl) (len_is (by unfold lenR; rw [if_neg (by omega), if_pos (by omega)]) HM.below)
        · have HF := HF.as (t := 21) (u := .bool false) rfl (by rw [hb21])
          have hd21 := of_decide_eq_false hb21
          refine cond_false HF rfl ?_
          refine wp_seq ?_
          refine from_start ?_
          refine from_pures HF 2 0 (j := 2) [(30, .slice A n cp), (29, .int .i64 (num4 l : Int))] (by kernel_rfl) rfl ?_; clear HF; intro a HF
          refine from_yl (S := fun wS => Mem w wS _) HF HM (i := 2) rfl rfl (d := 31) rfl (by decide) (v := .int .i64 ((n : Nat) : Int)) (Yl.len rfl rfl (by kernel_rfl)) ?_; clear HF; intro a HF
          refine from_pures HF 2 3 (j := 5) [(28, .bool (decide (((num4 l : Int) : Int) > (((n : Nat) : Int) : Int)))), (32, .bool (decide (((num4 l : Int) : Int) > (((n : Nat) : Int) : Int))))] (by kernel_rfl) rfl ?_; clear HF; intro a HF
          refine from_done rfl ?_
          replace HF := HF.sub (σ' := [(28, .bool (decide (((num4 l : Int) : Int) > (((n : Nat) : Int) : Int)))), (21, .bool false), (4, .int .i64 (num4 l : Int)), (10, .bool false), (5, .int .i64 (3 - (4 : Int))), (8, .bool false), (3, .int .i64 0), (2, .int .i64 0), (0, .slice A n cp)]) (by kernel_rfl)
          rcases Bool.eq_false_or_eq_true (decide (((num4 l : Int) : Int) > (((n : Nat) : Int) : Int))) with hb28 | hb28
          · have HF := HF.as (t := 28) (u := .bool true) rfl (by rw [hb28])
            have hd28 := of_decide_eq_true hb28
            refine cond_true HF rfl ?_
            refine wp_seq ?_
            refine from_start ?_
            refine from_pures HF 2 0 (j := 2) [(3, .int .i64 100), (2, .int .i64 0)] (by kernel_rfl) rfl ?_; clear HF; intro a HF
            refine from_done rfl ?_
            replace HF := HF.sub (σ' := [(3, .int .i64 100), (2, .int .i64 0), (28, .bool true), (21, .bool false), (4, .int .i64 (num4 l : Int)), (10, .bool false), (5, .int .i64 (3 - (4 : Int))), (8, .bool false), (0, .slice A n cp)]) (by kernel_rfl)
            refine wp_ret ?_
            exact ret2 rfl HF (.tmp HF rfl) (.tmp HF rfl) (len_is (by unfold lenR; rw [if_neg (by omega), if_neg (by omega), if_pos (by omega)]) HM.below)
          · have HF := HF.as (t := 28) (u := .bool false) rfl (by rw [hb28])
            have hd28 := of_decide_eq_false hb28
            refine cond_false HF rfl ?_
            refine wp_skip ?_
            refine wp_seq ?_
            refine from_start ?_
            refine from_pures HF 3 0 (j := 3) [(3, .int .i64 0), (2, .int .i64 (num4 l : Int)), (33, .int .i64 (num4 l : Int))] (by kernel_rfl) rfl ?_; clear HF; intro a HF
            refine from_done rfl ?_
            replace HF := HF.sub (σ' := [(3, .int .i64 0), (2, .int .i64 (num4 l : Int)), (28, .bool false), (21, .bool false), (4, .int .i64 (num4 l : Int)), (10, .bool false), (5, .int .i64 (3 - (4 : Int))), (8, .bool false), (0, .slice A n cp)]) (by kernel_rfl)
            refine wp_ret ?_
            exact ret2 rfl HF (.tmp HF rfl) (.tmp HF rfl) (len_is (by unfold lenR; rw [if_neg (by omega), if_neg (by omega), if_neg (by omega)]) HM.below)
end Go.Proofs.YtjpielapplglmaaDoor

/- Blocks: fits, base, body: the walks. -/
set_option linter.all false
namespace Go.Proofs.YtjpielapplglmaaDoor
open Go.RowKit
set_option maxRecDepth 100000 in
set_option maxHeartbeats 4000000 in
theorem fits1_any (g : Nat) (b : Bk) (hok : b.Ok) (A : Option Addr) (c B : Nat) (w : World) (hL : LaidX B w) (hB : B ≤ w.heap.size) (hr : Rd w w.heap.size 11 A b.evs.length (b.evs.flatMap evL)) (hn : b.evs.length ≤ 1000000) (hb : w.heap[g]? = some (.cells (b.cells A c) 37 (0, 0))) :
    Calls Tryd.prog 52 #[.pointer (some ⟨g, 0, none⟩)] w (Is w (.bool b.fitsE)) := by
  refine calls_enter (vs := [.pointer (some ⟨g, 0, none⟩)]) Tryd.func52 rfl rfl (by kernel_rfl) (σ0 := [(0, .pointer (some ⟨g, 0, none⟩))]) rfl ?_
  intro a HF
  have HM := Mem.start w
  refine wp_seq ?_
  refine from_start ?_
  refine from_pures HF 1 0 (j := 1) [(1, .bool false)] (by kernel_rfl) rfl ?_; clear HF; intro a HF
  refine from_done rfl ?_
  refine wp_seq ?_
  refine wp_seq ?_
  refine from_start ?_
  refine from_pures HF 1 0 (j := 1) [(5, .pointer (some ⟨g, 4, none⟩))] (by kernel_rfl) rfl ?_; clear HF; intro a HF
  refine from_yl (S := fun wS => Mem w wS _) HF HM (i := 1) rfl rfl (d := 6) rfl (by decide) (v := .slice A b.evs.length c) (Yl.load1 rfl rfl (by kernel_rfl) (fun _ h => h.oldCell hb rfl)) ?_; clear HF; intro a HF
  refine from_op HF (i := 2) rfl rfl ?_
  refine e_call HF (vs := [.slice A b.evs.length c]) rfl (by kernel_rfl) (by kernel_rfl) rfl (by decide) (row_is A b.evs.length c b.evs hok.evs B _ (hL.mem HM hB).laid (HM.le hB) (HM.old hr) (by omega) (i := (rowR b.evs).1) (er := (rowR b.evs).2) rfl) ?_
  rintro _ w7 ⟨rfl, hbw⟩
  refine ⟨_, rfl, ?_⟩
  replace HM := HM.call hbw
  clear HF; intro a HF
  refine from_pures HF 5 3 (j := 8) [(3, .int .i64 ((rowR b.evs).2 : Int)), (2, .int .i64 ((rowR b.evs).1)), (9, .int .i64 ((rowR b.evs).2 : Int)), (8, .int .i64 ((rowR b.evs).1)), (4, .tuple #[.int .i64 ((rowR b.evs).1), .int .i64 ((rowR b.evs).2 : Int)])] (by kernel_rfl) rfl ?_; clear HF; intro a HF
  refine from_done rfl ?_
  replace HF := HF.sub (σ' := [(3, .int .i64 ((rowR b.evs).2 : Int)), (1, .bool false), (0, .pointer (some ⟨g, 0, none⟩))]) (by kernel_rfl)
  refine wp_seq ?_
  refine from_start ?_
  refine from_pures HF 3 0 (j := 3) [(12, .bool ((((rowR b.evs).2 : Int) : Int) != (0 : Int))), (11, .bool ((((rowR b.evs).2 : Int) : Int) != (0 : Int))), (10, .int .i64 ((rowR b.evs).2 : Int))] (by kernel_rfl) rfl ?_; clear HF; intro a HF
  rcases Bool.eq_false_or_eq_true ((((rowR b.evs).2 : Int) : Int) != (0 : Int)) with hb12 | hb12
  · have HF := HF.as (t := 12) (u := .bool true) rfl (by rw [hb12])
    have hd12 := bne_iff_ne.1 hb12
    refine from_pures HF 19 3 (j := 22) [(31, .bool true), (30, undef), (29, undef), (28, undef), (27, .bool true), (26, .bool true), (25, undef), (24, undef), (23, undef), (22, .bool true), (21, .bool true), (20, undef), (19, undef), (18, undef), (17, .bool true), (16, .bool true), (15, undef), (14, undef), (13, undef)] (by kernel_rfl) rfl ?_; clear HF; intro a HF
    refine from_done rfl ?_
    replace HF := HF.sub (σ' := [(31, .bool true), (1, .bool false), (0, .pointer (some ⟨g, 0, none⟩))]) (by kernel_rfl)
    refine cond_true HF rfl ?_
    refine wp_seq ?_
    refine from_start ?_
    refine from_pures HF 1 0 (j := 1) [(1, .bool false)] (by kernel_rfl) rfl ?_; clear HF; intro a HF
    refine from_done rfl ?_
    replace HF := HF.sub (σ' := [(1, .bool false), (31, .bool true), (0, .pointer (some ⟨g, 0, none⟩))]) (by kernel_rfl)
    refine wp_ret ?_
    exact ret1 rfl HF (.tmp HF rfl) (⟨by rw [show b.fitsE = false from decide_eq_false (by omega)], HM.below⟩)
  · have HF := HF.as (t := 12) (u := .bool false) rfl (by rw [hb12])
    have hd12 := bne_eq_false_iff_eq.1 hb12
    refine from_pures HF 1 3 (j := 4) [(13, .pointer (some ⟨g, 1, none⟩))] (by kernel_rfl) rfl ?_; clear HF; intro a HF
    refine from_yl (S := fun wS => Mem w wS _) HF HM (i := 4) rfl rfl (d := 14) rfl (by decide) (v := .int .u8 (b.cpu : Int)) (Yl.load1 rfl rfl (by kernel_rfl) (fun _ h => h.oldCell hb rfl)) ?_; clear HF; intro a HF
    refine from_pures HF 3 5 (j := 8) [(17, .bool (decide (((b.cpu : Int) : Int) ≥ (64 : Int)))), (16, .bool (decide (((b.cpu : Int) : Int) ≥ (64 : Int)))), (15, .bool (decide (((b.cpu : Int) : Int) ≥ (64 : Int))))] (by kernel_rfl) rfl ?_; clear HF; intro a HF
    rcases Bool.eq_false_or_eq_true (decide (((b.cpu : Int) : Int) ≥ (64 : Int))) with hb17 | hb17
    · have HF := HF.as (t := 17) (u := .bool true) rfl (by rw [hb17])
      have hd17 := of_decide_eq_true hb17
      refine from_pures HF 14 8 (j := 22) [(31, .bool true), (30, undef), (29, undef), (28, undef), (27, .bool true), (26, .bool true), (25, undef), (24, undef), (23, undef), (22, .bool true), (21, .bool true), (20, undef), (19, undef), (18, undef)] (by kernel_rfl) rfl ?_; clear HF; intro a HF
      refine from_done rfl ?_
      replace HF := HF.sub (σ' := [(31, .bool true), (1, .bool false), (0, .pointer (some ⟨g, 0, none⟩))]) (by kernel_rfl)
      refine cond_true HF rfl ?_
      refine wp_seq ?_
      refine from_start ?_
      refine from_pures HF 1 0 (j := 1) [(1, .bool false)] (by kernel_rfl) rfl ?_; clear HF; intro a HF
      refine from_done rfl ?_
      replace HF := HF.sub (σ' := [(1, .bool false), (31, .bool true), (0, .pointer (some ⟨g, 0, none⟩))]) (by kernel_rfl)
      refine wp_ret ?_
      exact ret1 rfl HF (.tmp HF rfl) (⟨by rw [show b.fitsE = false from decide_eq_false (by omega)], HM.below⟩)
    · have HF := HF.as (t := 17) (u := .bool false) rfl (by rw [hb17])
      have hd17 := of_decide_eq_false hb17
      refine from_pures HF 1 8 (j := 9) [(18, .pointer (some ⟨g, 2, none⟩))] (by kernel_rfl) rfl ?_; clear HF; intro a HF
      refine from_yl (S := fun wS => Mem w wS _) HF HM (i := 9) rfl rfl (d := 19) rfl (by decide) (v := .int .i64 b.lost) (Yl.load1 rfl rfl (by kernel_rfl) (fun _ h => h.oldCell hb rfl)) ?_; clear HF; intro a HF
      refine from_pures HF 3 10 (j := 13) [(22, .bool (decide ((b.lost : Int) < (0 : Int)))), (21, .bool (decide ((b.lost : Int) < (0 : Int)))), (20, .bool (decide ((b.lost : Int) < (0 : Int))))] (by kernel_rfl) rfl ?_; clear HF; intro a HF
      rcases Bool.eq_false_or_eq_true (decide ((b.lost : Int) < (0 : Int))) with hb22 | hb22
      · have HF := HF.as (t := 22) (u := .bool true) rfl (by rw [hb22])
        have hd22 := of_decide_eq_true hb22
        refine from_pures HF 9 13 (j := 22) [(31, .bool true), (30, undef), (29, undef), (28, undef), (27, .bool true), (26, .bool true), (25, undef), (24, undef), (23, undef)] (by kernel_rfl) rfl ?_; clear HF; intro a HF
        refine from_done rfl ?_
        replace HF := HF.sub (σ' := [(31, .bool true), (1, .bool false), (0, .pointer (some ⟨g, 0, none⟩))]) (by kernel_rfl)
        refine cond_true HF rfl ?_
        refine wp_seq ?_
        refine from_start ?_
        refine from_pures HF 1 0 (j := 1) [(1, .bool false)] (by kernel_rfl) rfl ?_; clear HF; intro a HF
        refine from_done rfl ?_
        replace HF := HF.sub (σ' := [(1, .bool false), (31, .bool true), (0, .pointer (some ⟨g, 0, none⟩))]) (by kernel_rfl)
        refine wp_ret ?_
        exact ret1 rfl HF (.tmp HF rfl) (⟨by rw [show b.fitsE = false from decide_eq_false (by omega)], HM.below⟩)
      · have HF := HF.as (t := 22) (u := .bool false) rfl (by rw [hb22])
        have hd22 := of_decide_eq_false hb22
        refine from_pures HF 1 13 (j := 14) [(23, .pointer (some ⟨g, 2, none⟩))] (by kernel_rfl) rfl ?_; clear HF; intro a HF
        refine from_yl (S := fun wS => Mem w wS _) HF HM (i := 14) rfl rfl (d := 24) rfl (by decide) (v := .int .i64 b.lost) (Yl.load1 rfl rfl (by kernel_rfl) (fun _ h => h.oldCell hb rfl)) ?_; clear HF; intro a HF
        refine from_pures HF 3 15 (j := 18) [(27, .bool (decide ((b.lost : Int) > (281474976710656 : Int)))), (26, .bool (decide ((b.lost : Int) > (281474976710656 : Int)))), (25, .bool (decide ((b.lost : Int) > (281474976710656 : Int))))] (by kernel_rfl) rfl ?_; clear HF; intro a HF
        rcases Bool.eq_false_or_eq_true (decide ((b.lost : Int) > (281474976710656 : Int))) with hb27 | hb27
        · have HF := HF.as (t := 27) (u := .bool true) rfl (by rw [hb27])
          have hd27 := of_decide_eq_true hb27
          refine from_pures HF 4 18 (j := 22) [(31, .bool true), (30, undef), (29, undef), (28, undef)] (by kernel_rfl) rfl ?_; clear HF; intro a HF
          refine from_done rfl ?_
          replace HF := HF.sub (σ' := [(31, .bool true), (1, .bool false), (0, .pointer (some ⟨g, 0, none⟩))]) (by kernel_rfl)
          refine cond_true HF rfl ?_
          refine wp_seq ?_
          refine from_start ?_
          refine from_pures HF 1 0 (j := 1) [(1, .bool false)] (by kernel_rfl) rfl ?_; clear HF; intro a HF
          refine from_done rfl ?_
          replace HF := HF.sub (σ' := [(1, .bool false), (31, .bool true), (0, .pointer (some ⟨g, 0, none⟩))]) (by kernel_rfl)
          refine wp_ret ?_
          exact ret1 rfl HF (.tmp HF rfl) (⟨by rw [show b.fitsE = false from decide_eq_false (by omega)], HM.below⟩)
        · have HF := HF.as (t := 27) (u := .bool false) rfl (by rw [hb27])
          have hd27 := of_decide_eq_false hb27
          refine from_pures HF 1 18 (j := 19) [(28, .pointer (some ⟨g, 3, none⟩))] (by kernel_rfl) rfl ?_; clear HF; intro a HF
          refine from_yl (S := fun wS => Mem w wS _) HF HM (i := 19) rfl rfl (d := 29) rfl (by decide) (v := .int .i64 b.next) (Yl.load1 rfl rfl (by kernel_rfl) (fun _ h => h.oldCell hb rfl)) ?_; clear HF; intro a HF
          refine from_pures HF 2 20 (j := 22) [(31, .bool ((b.next : Int) != (0 : Int))), (30, .bool ((b.next : Int) != (0 : Int)))] (by kernel_rfl) rfl ?_; clear HF; intro a HF
          refine from_done rfl ?_
          replace HF := HF.sub (σ' := [(31, .bool ((b.next : Int) != (0 : Int))), (1, .bool false), (0, .pointer (some ⟨g, 0, none⟩))]) (by kernel_rfl)
          rcases Bool.eq_false_or_eq_true ((b.next : Int) != (0 : Int)) with hb31 | hb31
          · have HF := HF.as (t := 31) (u := .bool true) rfl (by rw [hb31])
            have hd31 := bne_iff_ne.1 hb31
            refine cond_true HF rfl ?_
            refine wp_seq ?_
            refine from_start ?_
            refine from_pures HF 1 0 (j := 1) [(1, .bool false)] (by kernel_rfl) rfl ?_; clear HF; intro a HF
            refine from_done rfl ?_
            replace HF := HF.sub (σ' := [(1, .bool false), (31, .bool true), (0, .pointer (some ⟨g, 0, none⟩))]) (by kernel_rfl)
            refine wp_ret ?_
            exact ret1 rfl HF (.tmp HF rfl) (⟨by rw [show b.fitsE = false from decide_eq_false (by omega)], HM.below⟩)
          · have HF := HF.as (t := 31) (u := .bool false) rfl (by rw [hb31])
            have hd31 := bne_eq_false_iff_eq.1 hb31
            refine cond_false HF rfl ?_
            refine wp_skip ?_
            refine wp_seq ?_
            refine wp_seq ?_
            refine from_start ?_
            refine from_pures HF 1 0 (j := 1) [(32, .pointer (some ⟨g, 4, none⟩))] (by kernel_rfl) rfl ?_; clear HF; intro a HF
            refine from_yl (S := fun wS => Mem w wS _) HF HM (i := 1) rfl rfl (d := 33) rfl (by decide) (v := .slice A b.evs.length c) (Yl.load1 rfl rfl (by kernel_rfl) (fun _ h => h.oldCell hb rfl)) ?_; clear HF; intro a HF
            refine from_yl (S := fun wS => Mem w wS _) HF HM (i := 2) rfl rfl (d := 34) rfl (by decide) (v := .int .i64 ((b.evs.length : Nat) : Int)) (Yl.len rfl rfl (by kernel_rfl)) ?_; clear HF; intro a HF
            refine from_pures HF 1 3 (j := 4) [(35, .bool ((((b.evs.length : Nat) : Int) : Int) == (0 : Int)))] (by kernel_rfl) rfl ?_; clear HF; intro a HF
            refine from_done rfl ?_
            replace HF := HF.sub (σ' := [(35, .bool ((((b.evs.length : Nat) : Int) : Int) == (0 : Int))), (31, .bool false), (1, .bool false), (0, .pointer (some ⟨g, 0, none⟩))]) (by kernel_rfl)
            rcases Bool.eq_false_or_eq_true ((((b.evs.length : Nat) : Int) : Int) == (0 : Int)) with hb35 | hb35
            · have HF := HF.as (t := 35) (u := .bool true) rfl (by rw [hb35])
              have hd35 := eq_of_beq hb35
              refine cond_true HF rfl ?_
              refine wp_seq ?_
              refine from_start ?_
              refine from_pures HF 1 0 (j := 1) [(36, .pointer (some ⟨g, 2, none⟩))] (by kernel_rfl) rfl ?_; clear HF; intro a HF
              refine from_yl (S := fun wS => Mem w wS _) HF HM (i := 1) rfl rfl (d := 37) rfl (by decide) (v := .int .i64 b.lost) (Yl.load1 rfl rfl (by kernel_rfl) (fun _ h => h.oldCell hb rfl)) ?_; clear HF; intro a HF
              refine from_pures HF 2 2 (j := 4) [(1, .bool (decide ((b.lost : Int) > (0 : Int)))), (38, .bool (decide ((b.lost : Int) > (0 : Int))))] (by kernel_rfl) rfl ?_; clear HF; intro a HF
              refine from_done rfl ?_
              replace HF := HF.sub (σ' := [(1, .bool (decide ((b.lost : Int) > (0 : Int)))), (35, .bool true), (31, .bool false), (0, .pointer (some ⟨g, 0, none⟩))]) (by kernel_rfl)
              refine wp_ret ?_
              exact ret1 rfl HF (.tmp HF rfl) (⟨by rw [Bool.eq_iff_iff.2 (show (decide ((b.lost : Int) > (0 : Int))) = true ↔ b.fitsE = true by unfold Bk.fitsE; rw [headOk_nil (by omega)]; simp only [decide_eq_true_eq, beq_iff_eq]; omega)], HM.below⟩)
            · have HF := HF.as (t := 35) (u := .bool false) rfl (by rw [hb35])
              have hd35 := ne_of_beq_false hb35
              refine cond_false HF rfl ?_
              refine wp_skip ?_
              refine wp_seq ?_
              refine any_start (by kernel_rfl) (fun wS => Mem w wS []) [] ?_
              replace HM := HM.drew
              have HS := HM.picks (fs' := []) [] (by decide) rfl
              refine any_pures HF (fun _ => HS) (fun _ _ d _ _ h => by cases d <;> exact h) [0, 5] #[true, false, false, false, false, true, false, false, false] [(44, .pointer (some ⟨g, 1, none⟩)), (39, .pointer (some ⟨g, 4, none⟩))] (by kernel_rfl) ?_; clear HF; intro a HF
              refine any_yl HF HS (i := 1) rfl rfl (d := 40) rfl (by decide) (by kernel_rfl) (fun _ _ _ h => h) (v := .slice A b.evs.length c) (Yl.load1 rfl rfl (by kernel_rfl) (fun _ h => h.oldCell hb rfl)) ?_; clear HF; intro a HF
              obtain ⟨gA, oA, rfl, _⟩ := hr.some_at (Nat.lt_of_le_of_lt (Nat.zero_le _) (show 0 < b.evs.length from by omega)) (by decide)
              refine any_yl HF HS (i := 2) rfl rfl (d := 41) rfl (by decide) (by kernel_rfl) (fun _ _ _ h => h) (v := .pointer (some ⟨gA, oA, none⟩)) (Yl.indexAddr (ad := ⟨gA, oA, none⟩) (y := 0) (sz := 11) rfl rfl rfl (by omega) (by kernel_rfl)) ?_; clear HF; intro a HF
              refine any_pures HF (fun _ => HS) (fun _ _ d _ _ h => by cases d <;> exact h) [3] #[true, true, true, true, false, true, false, false, false] [(42, .pointer (some ⟨gA, oA + 2, none⟩))] (by kernel_rfl) ?_; clear HF; intro a HF
              refine any_yl HF HS (i := 4) rfl rfl (d := 43) rfl (by decide) (by kernel_rfl) (fun _ _ _ h => h) (v := .int .u8 ((b.evs.getD 0 Ev.zero).cpu : Int)) (Yl.load1 rfl rfl (by kernel_rfl) (fun _ h => (h.old hr).partAt evL_len (k := 0) (j := 2) (x := (b.evs.getD 0 Ev.zero)) ((getD_at Ev.zero (k := 0) (by first | omega | (simp; omega)))) rfl)) ?_; clear HF; intro a HF
              refine any_yl HF HS (i := 6) rfl rfl (d := 45) rfl (by decide) (by kernel_rfl) (fun _ _ _ h => h) (v := .int .u8 (b.cpu : Int)) (Yl.load1 rfl rfl (by kernel_rfl) (fun _ h => h.oldCell hb rfl)) ?_; clear HF; intro a HF
              refine any_pures HF (fun _ => HS) (fun _ _ d _ _ h => by cases d <;> exact h) [7, 8] #[true, true, true, true, true, true, true, true, true] [(1, .bool ((((b.evs.getD 0 Ev.zero).cpu : Int) : Int) == ((b.cpu : Int) : Int))), (46, .bool ((((b.evs.getD 0 Ev.zero).cpu : Int) : Int) == ((b.cpu : Int) : Int)))] (by kernel_rfl) ?_; clear HF; intro a HF
              refine any_done (by kernel_rfl) ?_
              replace HF := HF.sub (σ' := [(1, .bool ((((b.evs.getD 0 Ev.zero).cpu : Int) : Int) == ((b.cpu : Int) : Int))), (35, .bool false), (31, .bool false), (0, .pointer (some ⟨g, 0, none⟩))]) (by kernel_rfl)
              refine wp_ret ?_
              exact ret1 rfl HF (.tmp HF rfl) (⟨by rw [Bool.eq_iff_iff.2 (show ((((b.evs.getD 0 Ev.zero).cpu : Int) : Int) == ((b.cpu : Int) : Int)) = true ↔ b.fitsE = true by unfold Bk.fitsE; rw [headOk_cons (by omega)]; simp only [decide_eq_true_eq, beq_iff_eq]; omega)], HM.below⟩)
set_option maxRecDepth 100000 in
set_option maxHeartbeats 4000000 in
theorem fits2_any (g : Nat) (b : Bk) (A : Option Addr) (c : Nat) (w : World) (hb : w.heap[g]? = some (.cells (b.cells A c) 37 (0, 0))) :
    Calls Tryd.prog 54 #[.pointer (some ⟨g, 0, none⟩)] w (Is w (.bool b.fitsN)) := by
  refine calls_enter (vs := [.pointer (some ⟨g, 0, none⟩)]) Tryd.func54 rfl rfl (by kernel_rfl) (σ0 := [(0, .pointer (some ⟨g, 0, none⟩))]) rfl ?_
  intro a HF
  have HM := Mem.start w
  refine wp_seq ?_
  refine from_start ?_
  refine from_pures HF 1 0 (j := 1) [(1, .bool false)] (by kernel_rfl) rfl ?_; clear HF; intro a HF
  refine from_done rfl ?_
  refine wp_seq ?_
  refine from_start ?_
  refine from_pures HF 1 0 (j := 1) [(2, .pointer (some ⟨g, 3, none⟩))] (by kernel_rfl) rfl ?_; clear HF; intro a HF
  refine from_yl (S := fun wS => Mem w wS _) HF HM (i := 1) rfl rfl (d := 3) rfl (by decide) (v := .int .i64 b.next) (Yl.load1 rfl rfl (by kernel_rfl) (fun _ h => h.oldCell hb rfl)) ?_; clear HF; intro a HF
  refine from_pures HF 2 2 (j := 4) [(5, .bool (decide ((b.next : Int) ≥ (1 : Int)))), (4, .bool (decide ((b.next : Int) ≥ (1 : Int))))] (by kernel_rfl) rfl ?_; clear HF; intro a HF
  rcases Bool.eq_false_or_eq_true (decide ((b.next : Int) ≥ (1 : Int))) with hb5 | hb5
  · have HF := HF.as (t := 5) (u := .bool true) rfl (by rw [hb5])
    have hd5 := of_decide_eq_true hb5
    refine from_pures HF 1 4 (j := 5) [(6, .pointer (some ⟨g, 3, none⟩))] (by kernel_rfl) rfl ?_; clear HF; intro a HF
    refine from_yl (S := fun wS => Mem w wS _) HF HM (i := 5) rfl rfl (d := 7) rfl (by decide) (v := .int .i64 b.next) (Yl.load1 rfl rfl (by kernel_rfl) (fun _ h => h.oldCell hb rfl)) ?_; clear HF; intro a HF
    refine from_pures HF 3 6 (j := 9) [(10, .bool (decide ((b.next : Int) ≤ (281474976710657 : Int)))), (9, .bool (decide ((b.next : Int) ≤ (281474976710657 : Int)))), (8, .bool (decide ((b.next : Int) ≤ (281474976710657 : Int))))] (by kernel_rfl) rfl ?_; clear HF; intro a HF
    rcases Bool.eq_false_or_eq_true (decide ((b.next : Int) ≤ (281474976710657 : Int))) with hb10 | hb10
    · have HF := HF.as (t := 10) (u := .bool true) rfl (by rw [hb10])
      have hd10 := of_decide_eq_true hb10
      refine from_pures HF 1 9 (j := 10) [(11, .pointer (some ⟨g, 1, none⟩))] (by kernel_rfl) rfl ?_; clear HF; intro a HF
      refine from_yl (S := fun wS => Mem w wS _) HF HM (i := 10) rfl rfl (d := 12) rfl (by decide) (v := .int .u8 (b.cpu : Int)) (Yl.load1 rfl rfl (by kernel_rfl) (fun _ h => h.oldCell hb rfl)) ?_; clear HF; intro a HF
      refine from_pures HF 3 11 (j := 14) [(15, .bool (((b.cpu : Int) : Int) == (0 : Int))), (14, .bool (((b.cpu : Int) : Int) == (0 : Int))), (13, .bool (((b.cpu : Int) : Int) == (0 : Int)))] (by kernel_rfl) rfl ?_; clear HF; intro a HF
      rcases Bool.eq_false_or_eq_true (((b.cpu : Int) : Int) == (0 : Int)) with hb15 | hb15
      · have HF := HF.as (t := 15) (u := .bool true) rfl (by rw [hb15])
        have hd15 := eq_of_beq hb15
        refine from_pures HF 1 14 (j := 15) [(16, .pointer (some ⟨g, 2, none⟩))] (by kernel_rfl) rfl ?_; clear HF; intro a HF
        refine from_yl (S := fun wS => Mem w wS _) HF HM (i := 15) rfl rfl (d := 17) rfl (by decide) (v := .int .i64 b.lost) (Yl.load1 rfl rfl (by kernel_rfl) (fun _ h => h.oldCell hb rfl)) ?_; clear HF; intro a HF
        refine from_pures HF 3 16 (j := 19) [(20, .bool ((b.lost : Int) == (0 : Int))), (19, .bool ((b.lost : Int) == (0 : Int))), (18, .bool ((b.lost : Int) == (0 : Int)))] (by kernel_rfl) rfl ?_; clear HF; intro a HF
        rcases Bool.eq_false_or_eq_true ((b.lost : Int) == (0 : Int)) with hb20 | hb20
        · have HF := HF.as (t := 20) (u := .bool true) rfl (by rw [hb20])
          have hd20 := eq_of_beq hb20
          refine from_pures HF 1 19 (j := 20) [(21, .pointer (some ⟨g, 4, none⟩))] (by kernel_rfl) rfl ?_; clear HF; intro a HF
          refine from_yl (S := fun wS => Mem w wS _) HF HM (i := 20) rfl rfl (d := 22) rfl (by decide) (v := .slice A b.evs.length c) (Yl.load1 rfl rfl (by kernel_rfl) (fun _ h => h.oldCell hb rfl)) ?_; clear HF; intro a HF
          refine from_yl (S := fun wS => Mem w wS _) HF HM (i := 21) rfl rfl (d := 23) rfl (by decide) (v := .int .i64 ((b.evs.length : Nat) : Int)) (Yl.len rfl rfl (by kernel_rfl)) ?_; clear HF; intro a HF
          refine from_pures HF 3 22 (j := 25) [(1, .bool ((((b.evs.length : Nat) : Int) : Int) == (0 : Int))), (25, .bool ((((b.evs.length : Nat) : Int) : Int) == (0 : Int))), (24, .bool ((((b.evs.length : Nat) : Int) : Int) == (0 : Int)))] (by kernel_rfl) rfl ?_; clear HF; intro a HF
          refine from_done rfl ?_
          replace HF := HF.sub (σ' := [(1, .bool ((((b.evs.length : Nat) : Int) : Int) == (0 : Int)))]) (by kernel_rfl)
          refine wp_ret ?_
          exact ret1 rfl HF (.tmp HF rfl) (⟨by rw [Bool.eq_iff_iff.2 (show ((((b.evs.length : Nat) : Int) : Int) == (0 : Int)) = true ↔ b.fitsN = true by unfold Bk.fitsN; simp only [decide_eq_true_eq, beq_iff_eq]; omega)], HM.below⟩)
        · have HF := HF.as (t := 20) (u := .bool false) rfl (by rw [hb20])
          have hd20 := ne_of_beq_false hb20
          refine from_pures HF 6 19 (j := 25) [(1, .bool false), (25, .bool false), (24, undef), (23, undef), (22, undef), (21, undef)] (by kernel_rfl) rfl ?_; clear HF; intro a HF
          refine from_done rfl ?_
          replace HF := HF.sub (σ' := [(1, .bool false)]) (by kernel_rfl)
          refine wp_ret ?_
          exact ret1 rfl HF (.tmp HF rfl) (⟨by rw [show b.fitsN = false from decide_eq_false (by omega)], HM.below⟩)
      · have HF := HF.as (t := 15) (u := .bool false) rfl (by rw [hb15])
        have hd15 := ne_of_beq_false hb15
        refine from_pures HF 11 14 (j := 25) [(1, .bool false), (25, .bool false), (24, undef), (23, undef), (22, undef), (21, undef), (20, .bool false), (19, .bool false), (18, undef), (17, undef), (16, undef)] (by kernel_rfl) rfl ?_; clear HF; intro a HF
        refine from_done rfl ?_
        replace HF := HF.sub (σ' := [(1, .bool false)]) (by kernel_rfl)
        refine wp_ret ?_
        exact ret1 rfl HF (.tmp HF rfl) (⟨by rw [show b.fitsN = false from decide_eq_false (by omega)], HM.below⟩)
    · have HF := HF.as (t := 10) (u := .bool false) rfl (by rw [hb10])
      have hd10 := of_decide_eq_false hb10
      refine from_pures HF 16 9 (j := 25) [(1, .bool false), (25, .bool false), (24, undef), (23, undef), (22, undef), (21, undef), (20, .bool false), (19, .bool false), (18, undef), (17, undef), (16, undef), (15, .bool false), (14, .bool false), (13, undef), (12, undef), (11, undef)] (by kernel_rfl) rfl ?_; clear HF; intro a HF
      refine from_done rfl ?_
      replace HF := HF.sub (σ' := [(1, .bool false)]) (by kernel_rfl)
      refine wp_ret ?_
      exact ret1 rfl HF (.tmp HF rfl) (⟨by rw [show b.fitsN = false from decide_eq_false (by omega)], HM.below⟩)
  · have HF := HF.as (t := 5) (u := .bool false) rfl (by rw [hb5])
    have hd5 := of_decide_eq_false hb5
    refine from_pures HF 21 4 (j := 25) [(1, .bool false), (25, .bool false), (24, undef), (23, undef), (22, undef), (21, undef), (20, .bool false), (19, .bool false), (18, undef), (17, undef), (16, undef), (15, .bool false), (14, .bool false), (13, undef), (12, undef), (11, undef), (10, .bool false), (9, .bool false), (8, undef), (7, undef), (6, undef)] (by kernel_rfl) rfl ?_; clear HF; intro a HF
    refine from_done rfl ?_
    replace HF := HF.sub (σ' := [(1, .bool false)]) (by kernel_rfl)
    refine wp_ret ?_
    exact ret1 rfl HF (.tmp HF rfl) (⟨by rw [show b.fitsN = false from decide_eq_false (by omega)], HM.below⟩)
set_option maxRecDepth 100000 in
set_option maxHeartbeats 4000000 in
theorem fits_any (b : Bk) (hok : b.Ok) (A : Option Addr) (c B : Nat) (w : World) (hL : LaidX B w) (hB : B ≤ w.heap.size) (hr : Rd w w.heap.size 11 A b.evs.length (b.evs.flatMap evL)) (hn : b.evs.length ≤ 1000000) :
    Calls Tryd.prog 32 #[.agg (b.cells A c)] w (Is w (.bool b.fits)) := by
  refine calls_enter (vs := [.agg (b.cells A c)]) Tryd.func32 rfl rfl (by kernel_rfl) (σ0 := [(0, .agg (b.cells A c))]) rfl ?_
  intro a HF
  have HM := Mem.start w
  refine wp_seq ?_
  refine from_start ?_
  refine from_op HF (i := 0) rfl rfl ?_
  refine e_box HF HM (cs := (b.cells A c)) rfl rfl rfl rfl (by decide) ?_
  clear HF HM; intro a w1 g1 HF HM
  refine from_pures HF 1 1 (j := 2) [(2, .bool false)] (by kernel_rfl) rfl ?_; clear HF; intro a HF
  refine from_done rfl ?_
  replace HF := HF.sub (σ' := [(2, .bool false), (1, .pointer (some ⟨g1, 0, none⟩))]) (by kernel_rfl)
  refine wp_seq ?_
  refine from_start ?_
  refine from_op HF (i := 0) rfl rfl ?_
  refine e_makeMap HF HM rfl rfl (by decide) ?_
  clear HF HM; intro a w5 g5 HF HM
  refine from_yl (S := fun wS => Mem w wS _) HF HM (i := 1) rfl rfl (d := 6) rfl (by decide) (v := .func (.func 52) #[] #[.pointer (some ⟨g1, 0, none⟩)]) (Yl.makeFunc (fst := []) (caps := [.pointer (some ⟨g1, 0, none⟩)]) rfl rfl rfl) ?_; clear HF; intro a HF
  refine from_op HF (i := 2) rfl rfl ?_
  refine e_mapNew HF HM (i := 0) (kt := 5) (et := 24) (kd := .int .u8) (Or.inr rfl) rfl (by kernel_rfl) (by kernel_rfl) rfl rfl rfl rfl (by first | trivial | rfl) (rfl) ?_
  clear HM; intro w1_2 HM
  refine from_yl (S := fun wS => Mem w wS _) HF HM (i := 3) rfl rfl (d := 7) rfl (by decide) (v := .func (.func 54) #[] #[.pointer (some ⟨g1, 0, none⟩)]) (Yl.makeFunc (fst := []) (caps := [.pointer (some ⟨g1, 0, none⟩)]) rfl rfl rfl) ?_; clear HF; intro a HF
  refine from_op HF (i := 4) rfl rfl ?_
  refine e_mapNew HF HM (i := 0) (kt := 5) (et := 24) (kd := .int .u8) (Or.inr rfl) rfl (by kernel_rfl) (by kernel_rfl) rfl rfl rfl rfl (by first | trivial | rfl) (rfl) ?_
  clear HM; intro w1_4 HM
  refine from_pures HF 2 5 (j := 7) [(3, .map (some g5)), (8, .map (some g5))] (by kernel_rfl) rfl ?_; clear HF; intro a HF
  refine from_done rfl ?_
  replace HF := HF.sub (σ' := [(3, .map (some g5)), (2, .bool false), (1, .pointer (some ⟨g1, 0, none⟩))]) (by kernel_rfl)
  rcases kinds3 b.kind with hk | hk | ⟨hk, hk2⟩
  ·
    refine wp_seq ?_
    refine from_start ?_
    refine from_pures HF 2 0 (j := 2) [(10, .pointer (some ⟨g1, 0, none⟩)), (9, .map (some g5))] (by kernel_rfl) rfl ?_; clear HF; intro a HF
    refine from_yl (S := fun wS => Mem w wS _) HF HM (i := 2) rfl rfl (d := 11) rfl (by decide) (v := .int .u8 (b.kind : Int)) (Yl.load1 rfl rfl (by kernel_rfl) (fun _ h => h.cell (i := 1) rfl rfl)) ?_; clear HF; intro a HF
    refine from_yl (S := fun wS => Mem w wS _) HF HM (i := 3) rfl rfl (d := 12) rfl (by decide) (v := .func (.func 52) #[] #[.pointer (some ⟨g1, 0, none⟩)]) (Yl.lookupHas (kt := 5) (et := 24) (kd := .int .u8) (j := 0) (es := (#[].push { key := .int .u8 1, val := .func (.func 52) #[] #[.pointer (some ⟨g1, 0, none⟩)], born := 0 }).push { key := .int .u8 2, val := .func (.func 54) #[] #[.pointer (some ⟨g1, 0, none⟩)], born := 0 + 1 }) (clock := 0 + 1 + 1) rfl (by kernel_rfl) (by kernel_rfl) rfl rfl (fun _ h => h.objAt (i := 0) rfl) (by first | trivial | rfl) (by rw [hk]; rfl)) ?_; clear HF; intro a HF
    refine from_pures HF 1 4 (j := 5) [(4, .func (.func 52) #[] #[.pointer (some ⟨g1, 0, none⟩)])] (by kernel_rfl) rfl ?_; clear HF; intro a HF
    refine from_done rfl ?_
    replace HF := HF.sub (σ' := [(4, .func (.func 52) #[] #[.pointer (some ⟨g1, 0, none⟩)]), (2, .bool false), (1, .pointer (some ⟨g1, 0, none⟩))]) (by kernel_rfl)
    replace HM := HM.picks (fs' := [.blk g1 (b.cells A c) 37]) [1] (by decide) rfl
    refine wp_seq ?_
    refine from_start ?_
    refine from_pures HF 1 0 (j := 1) [(13, .func (.func 52) #[] #[.pointer (some ⟨g1, 0, none⟩)])] (by kernel_rfl) rfl ?_; clear HF; intro a HF
    refine from_yl (S := fun wS => Mem w wS _) HF HM (i := 1) rfl rfl (d := 14) rfl (by decide) (v := .bool true) (Yl.neqFunc rfl rfl rfl (by kernel_rfl)) ?_; clear HF; intro a HF
    refine from_pures HF 2 2 (j := 4) [(16, .func (.func 52) #[] #[.pointer (some ⟨g1, 0, none⟩)]), (15, .bool true)] (by kernel_rfl) rfl ?_; clear HF; intro a HF
    refine from_op HF (i := 4) rfl rfl ?_
    refine e_callv HF (f := 52) (vs := []) (fst := []) (caps := [.pointer (some ⟨g1, 0, none⟩)]) rfl rfl rfl (by kernel_rfl) rfl (by decide) (fits1_any _ b hok A c B _ (hL.mem HM hB) (HM.le hB) (HM.old hr) hn (HM.blk (i := 0) rfl)) ?_
    rintro _ w17 ⟨rfl, hbw⟩
    refine ⟨_, rfl, ?_⟩
    replace HM := HM.call hbw
    clear HF; intro a HF
    refine from_pures HF 2 5 (j := 7) [(2, .bool b.fitsE), (18, .bool b.fitsE)] (by kernel_rfl) rfl ?_; clear HF; intro a HF
    refine from_done rfl ?_
    replace HF := HF.sub (σ' := [(2, .bool b.fitsE), (1, .pointer (some ⟨g1, 0, none⟩))]) (by kernel_rfl)
    refine wp_ret ?_
    exact ret1 rfl HF (.tmp HF rfl) (⟨by unfold Bk.fits; rw [if_pos hk], HM.below⟩)
  ·
    refine wp_seq ?_
    refine from_start ?_
    refine from_pures HF 2 0 (j := 2) [(10, .pointer (some ⟨g1, 0, none⟩)), (9, .map (some g5))] (by kernel_rfl) rfl ?_; clear HF; intro a HF
    refine from_yl (S := fun wS => Mem w wS _) HF HM (i := 2) rfl rfl (d := 11) rfl (by decide) (v := .int .u8 (b.kind : Int)) (Yl.load1 rfl rfl (by kernel_rfl) (fun _ h => h.cell (i := 1) rfl rfl)) ?_; clear HF; intro a HF
    refine from_yl (S := fun wS => Mem w wS _) HF HM (i := 3) rfl rfl (d := 12) rfl (by decide) (v := .func (.func 54) #[] #[.pointer (some ⟨g1, 0, none⟩)]) (Yl.lookupHas (kt := 5) (et := 24) (kd := .int .u8) (j := 1) (es := (#[].push { key := .int .u8 1, val := .func (.func 52) #[] #[.pointer (some ⟨g1, 0, none⟩)], born := 0 }).push { key := .int .u8 2, val := .func (.func 54) #[] #[.pointer (some ⟨g1, 0, none⟩)], born := 0 + 1 }) (clock := 0 + 1 + 1) rfl (by kernel_rfl) (by kernel_rfl) rfl rfl (fun _ h => h.objAt (i := 0) rfl) (by first | trivial | rfl) (by rw [hk]; rfl)) ?_; clear HF; intro a HF
    refine from_pures HF 1 4 (j := 5) [(4, .func (.func 54) #[] #[.pointer (some ⟨g1, 0, none⟩)])] (by kernel_rfl) rfl ?_; clear HF; intro a HF
    refine from_done rfl ?_
    replace HF := HF.sub (σ' := [(4, .func (.func 54) #[] #[.pointer (some ⟨g1, 0, none⟩)]), (2, .bool false), (1, .pointer (some ⟨g1, 0, none⟩))]) (by kernel_rfl)
    replace HM := HM.picks (fs' := [.blk g1 (b.cells A c) 37]) [1] (by decide) rfl
    refine wp_seq ?_
    refine from_start ?_
    refine from_pures HF 1 0 (j := 1) [(13, .func (.func 54) #[] #[.pointer (some ⟨g1, 0, none⟩)])] (by kernel_rfl) rfl ?_; clear HF; intro a HF
    refine from_yl (S := fun wS => Mem w wS _) HF HM (i := 1) rfl rfl (d := 14) rfl (by decide) (v := .bool true) (Yl.neqFunc rfl rfl rfl (by kernel_rfl)) ?_; clear HF; intro a HF
    refine from_pures HF 2 2 (j := 4) [(16, .func (.func 54) #[] #[.pointer (some ⟨g1, 0, none⟩)]), (15, .bool true)] (by kernel_rfl) rfl ?_; clear HF; intro a HF
    refine from_op HF (i := 4) rfl rfl ?_
    refine e_callv HF (f := 54) (vs := []) (fst := []) (caps := [.pointer (some ⟨g1, 0, none⟩)]) rfl rfl rfl (by kernel_rfl) rfl (by decide) (fits2_any _ b A c _ (HM.blk (i := 0) rfl)) ?_
    rintro _ w17 ⟨rfl, hbw⟩
    refine ⟨_, rfl, ?_⟩
    replace HM := HM.call hbw
    clear HF; intro a HF
    refine from_pures HF 2 5 (j := 7) [(2, .bool b.fitsN), (18, .bool b.fitsN)] (by kernel_rfl) rfl ?_; clear HF; intro a HF
    refine from_done rfl ?_
    replace HF := HF.sub (σ' := [(2, .bool b.fitsN), (1, .pointer (some ⟨g1, 0, none⟩))]) (by kernel_rfl)
    refine wp_ret ?_
    exact ret1 rfl HF (.tmp HF rfl) (⟨by unfold Bk.fits; rw [if_neg (by omega), if_pos hk], HM.below⟩)
  ·
    refine wp_seq ?_
    refine from_start ?_
    refine from_pures HF 2 0 (j := 2) [(10, .pointer (some ⟨g1, 0, none⟩)), (9, .map (some g5))] (by kernel_rfl) rfl ?_; clear HF; intro a HF
    refine from_yl (S := fun wS => Mem w wS _) HF HM (i := 2) rfl rfl (d := 11) rfl (by decide) (v := .int .u8 (b.kind : Int)) (Yl.load1 rfl rfl (by kernel_rfl) (fun _ h => h.cell (i := 1) rfl rfl)) ?_; clear HF; intro a HF
    refine from_yl (S := fun wS => Mem w wS _) HF HM (i := 3) rfl rfl (d := 12) rfl (by decide) (v := .nilFunc) (Yl.lookupNone (kt := 5) (et := 24) (kd := .int .u8) (es := (#[].push { key := .int .u8 1, val := .func (.func 52) #[] #[.pointer (some ⟨g1, 0, none⟩)], born := 0 }).push { key := .int .u8 2, val := .func (.func 54) #[] #[.pointer (some ⟨g1, 0, none⟩)], born := 0 + 1 }) (clock := 0 + 1 + 1) rfl (by kernel_rfl) (by kernel_rfl) rfl rfl (fun _ h => h.objAt (i := 0) rfl) (by first | trivial | rfl) (by have e1 : ((b.kind : Int) == 1) = false := (by rw [beq_eq_false_iff_ne]; omega); have e2 : ((b.kind : Int) == 2) = false := (by rw [beq_eq_false_iff_ne]; omega); simp [Instr.findNow, Instr.sameNow, e1, e2]) (by kernel_rfl)) ?_; clear HF; intro a HF
    refine from_pures HF 1 4 (j := 5) [(4, .nilFunc)] (by kernel_rfl) rfl ?_; clear HF; intro a HF
    refine from_done rfl ?_
    replace HF := HF.sub (σ' := [(4, .nilFunc), (2, .bool false), (1, .pointer (some ⟨g1, 0, none⟩))]) (by kernel_rfl)
    replace HM := HM.picks (fs' := [.blk g1 (b.cells A c) 37]) [1] (by decide) rfl
    refine wp_seq ?_
    refine from_start ?_
    refine from_pures HF 1 0 (j := 1) [(13, .nilFunc)] (by kernel_rfl) rfl ?_; clear HF; intro a HF
    refine from_yl (S := fun wS => Mem w wS _) HF HM (i := 1) rfl rfl (d := 14) rfl (by decide) (v := .bool false) (Yl.neqNil rfl rfl rfl (by kernel_rfl)) ?_; clear HF; intro a HF
    refine from_pures HF 5 2 (j := 7) [(2, .bool false), (18, .bool false), (17, undef), (16, undef), (15, .bool false)] (by kernel_rfl) rfl ?_; clear HF; intro a HF
    refine from_done rfl ?_
    replace HF := HF.sub (σ' := [(2, .bool false), (1, .pointer (some ⟨g1, 0, none⟩))]) (by kernel_rfl)
    refine wp_ret ?_
    exact ret1 rfl HF (.tmp HF rfl) (⟨by unfold Bk.fits; rw [if_neg hk, if_neg hk2], HM.below⟩)
set_option maxRecDepth 100000 in
set_option maxHeartbeats 4000000 in
theorem base_any (b : Bk) (A : Option Addr) (c : Nat) (w : World) (hr : Rd w w.heap.size 11 A b.evs.length (b.evs.flatMap evL)) (h0 : b.evs.length ≠ 0) :
    Calls Tryd.prog 40 #[.agg (b.cells A c)] w (Is w (.agg b.base.cells)) := by
  refine calls_enter (vs := [.agg (b.cells A c)]) Tryd.func40 rfl rfl (by kernel_rfl) (σ0 := [(0, .agg (b.cells A c))]) rfl ?_
  intro a HF
  have HM := Mem.start w
  refine wp_seq ?_
  refine from_start ?_
  refine from_op HF (i := 0) rfl rfl ?_
  refine e_box HF HM (cs := (b.cells A c)) rfl rfl rfl rfl (by decide) ?_
  clear HF HM; intro a w1 g1 HF HM
  refine from_op HF (i := 1) rfl rfl ?_
  refine e_alloc HF HM (cs := #[.int .i64 0, .int .i64 0]) rfl (by kernel_rfl) rfl (by decide) ?_
  clear HF HM; intro a w2 g2 HF HM
  refine from_done rfl ?_
  replace HF := HF.sub (σ' := [(2, .pointer (some ⟨g2, 0, none⟩)), (1, .pointer (some ⟨g1, 0, none⟩))]) (by kernel_rfl)
  refine wp_seq ?_
  refine any_start (by kernel_rfl) (fun wS => Mem w wS [.blk g2 #[.int .i64 0, .int .i64 0] 27, .blk g1 (b.cells A c) 37]) [11] ?_
  replace HM := HM.drew
  have HS := HM.picks (fs' := [.blk g2 #[.int .i64 0, .int .i64 0] 27, .blk g1 (b.cells A c) 37]) [0, 1] (by decide) rfl
  refine any_pures HF (fun _ => HS) (fun _ _ d _ _ h => by cases d <;> exact h) [0, 5] #[true, false, false, false, false, true, false, false, false, false, false, false] [(8, .pointer (some ⟨g1, 4, none⟩)), (3, .pointer (some ⟨g1, 4, none⟩))] (by kernel_rfl) ?_; clear HF; intro a HF
  refine any_yl HF HS (i := 1) rfl rfl (d := 4) rfl (by decide) (by kernel_rfl) (fun _ _ _ h => h) (v := .slice A b.evs.length c) (Yl.load1 rfl rfl (by kernel_rfl) (fun _ h => h.cell (i := 1) rfl rfl)) ?_; clear HF; intro a HF
  obtain ⟨gA, oA, rfl, _⟩ := hr.some_at (Nat.lt_of_le_of_lt (Nat.zero_le _) (show 0 < b.evs.length from by omega)) (by decide)
  refine any_yl HF HS (i := 2) rfl rfl (d := 5) rfl (by decide) (by kernel_rfl) (fun _ _ _ h => h) (v := .pointer (some ⟨gA, oA, none⟩)) (Yl.indexAddr (ad := ⟨gA, oA, none⟩) (y := 0) (sz := 11) rfl rfl rfl (by omega) (by kernel_rfl)) ?_; clear HF; intro a HF
  refine any_pures HF (fun _ => HS) (fun _ _ d _ _ h => by cases d <;> exact h) [3] #[true, true, true, true, false, true, false, false, false, false, false, false] [(6, .pointer (some ⟨gA, oA, none⟩))] (by kernel_rfl) ?_; clear HF; intro a HF
  refine any_yl HF HS (i := 4) rfl rfl (d := 7) rfl (by decide) (by kernel_rfl) (fun _ _ _ h => h) (v := .int .i64 ((b.evs.getD 0 Ev.zero).seq)) (Yl.load1 rfl rfl (by kernel_rfl) (fun _ h => (by have := (h.old hr).partAt evL_len (k := 0) (j := 0) (x := (b.evs.getD 0 Ev.zero)) ((getD_at Ev.zero (k := 0) (by first | omega | (simp; omega)))) rfl; simpa using this))) ?_; clear HF; intro a HF
  refine any_yl HF HS (i := 6) rfl rfl (d := 9) rfl (by decide) (by kernel_rfl) (fun _ _ _ h => h) (v := .slice (some ⟨gA, oA, none⟩) b.evs.length c) (Yl.load1 rfl rfl (by kernel_rfl) (fun _ h => h.cell (i := 1) rfl rfl)) ?_; clear HF; intro a HF
  refine any_yl HF HS (i := 7) rfl rfl (d := 10) rfl (by decide) (by kernel_rfl) (fun _ _ _ h => h) (v := .pointer (some ⟨gA, oA, none⟩)) (Yl.indexAddr (ad := ⟨gA, oA, none⟩) (y := 0) (sz := 11) rfl rfl rfl (by omega) (by kernel_rfl)) ?_; clear HF; intro a HF
  refine any_pures HF (fun _ => HS) (fun _ _ d _ _ h => by cases d <;> exact h) [8] #[true, true, true, true, true, true, true, true, true, false, false, false] [(11, .pointer (some ⟨gA, oA + 1, none⟩))] (by kernel_rfl) ?_; clear HF; intro a HF
  refine any_yl HF HS (i := 9) rfl rfl (d := 12) rfl (by decide) (by kernel_rfl) (fun _ _ _ h => h) (v := .int .i64 ((b.evs.getD 0 Ev.zero).time)) (Yl.load1 rfl rfl (by kernel_rfl) (fun _ h => (h.old hr).partAt evL_len (k := 0) (j := 1) (x := (b.evs.getD 0 Ev.zero)) ((getD_at Ev.zero (k := 0) (by first | omega | (simp; omega)))) rfl)) ?_; clear HF; intro a HF
  refine any_yl HF HS (i := 10) rfl rfl (d := 13) rfl (by decide) (by kernel_rfl) (fun _ _ _ h => h) (v := .agg #[.int .i64 ((b.evs.getD 0 Ev.zero).seq), .int .i64 ((b.evs.getD 0 Ev.zero).time)]) (Yl.build (vs := [(0, .int .i64 ((b.evs.getD 0 Ev.zero).seq)), (1, .int .i64 ((b.evs.getD 0 Ev.zero).time))]) rfl (by kernel_rfl) (by kernel_rfl)) ?_; clear HF; intro a HF
  refine any_all [11] (by kernel_rfl) rfl ?_
  refine all_cons ?_ all_nil
  refine any_op HF (i := 11) rfl rfl ?_
  refine e_storeAll HF HM (i := 0) (cs := #[.int .i64 0, .int .i64 0]) (ds := #[.int .i64 ((b.evs.getD 0 Ev.zero).seq), .int .i64 ((b.evs.getD 0 Ev.zero).time)]) rfl rfl rfl rfl ⟨(by kernel_rfl), (by kernel_rfl)⟩ rfl rfl (by simp [Value.oneCell']) rfl ?_
  clear HM; intro w1_11 HM
  refine noS (by kernel_rfl) ?_
  refine any_done (by kernel_rfl) ?_
  replace HF := HF.sub (σ' := [(2, .pointer (some ⟨g2, 0, none⟩))]) (by kernel_rfl)
  replace HM := HM.picks (fs' := [.blk g2 #[.int .i64 ((b.evs.getD 0 Ev.zero).seq), .int .i64 ((b.evs.getD 0 Ev.zero).time)] 27]) [0] (by decide) rfl
  refine wp_ret ?_
  exact ret1 rfl HF (.cellS (i := 0) HF HM rfl rfl ⟨(by kernel_rfl), (by kernel_rfl)⟩ rfl) (⟨by rw [base_getD]; rfl, HM.below⟩)
set_option maxRecDepth 100000 in
set_option maxHeartbeats 4000000 in
theorem vwrite_any (x : Nat) (hx : x < 18446744073709551616) (w : World) :
    Calls Tryd.prog 55 #[.int .u64 (x : Int)] w (BytesOne w (vbytes x)) := by
  refine calls_enter (vs := [.int .u64 (x : Int)]) Tryd.func55 rfl rfl (by kernel_rfl) (σ0 := [(0, .int .u64 (x : Int))]) rfl ?_
  intro a HF
  have HM := Mem.start w
  refine wp_seq ?_
  refine from_start ?_
  refine from_pures HF 1 0 (j := 1) [(2, .slice none 0 0)] (by kernel_rfl) rfl ?_; clear HF; intro a HF
  refine from_done rfl ?_
  refine wp_seq ?_
  refine from_start ?_
  refine from_pures HF 1 0 (j := 1) [(3, .int .u64 (x : Int))] (by kernel_rfl) rfl ?_; clear HF; intro a HF
  refine from_op HF (i := 1) rfl rfl ?_
  refine e_call HF (vs := [.slice none 0 0, .int .u64 (x : Int)]) rfl (by kernel_rfl) (by kernel_rfl) rfl (by decide) (vwrite_put hx) ?_
  rintro _ w4 ⟨⟨A4, c4, rfl, ho, hc4⟩, hbw⟩
  refine ⟨_, rfl, ?_⟩
  replace HM := HM.callRow hbw ho
  clear HF; intro a HF
  refine from_pures HF 1 2 (j := 3) [(2, .slice A4 ((vbytes x).length) c4)] (by kernel_rfl) rfl ?_; clear HF; intro a HF
  refine from_done rfl ?_
  replace HF := HF.sub (σ' := [(2, .slice A4 ((vbytes x).length) c4)]) (by kernel_rfl)
  refine wp_ret ?_
  exact ret1 rfl HF (.tmp HF rfl) (⟨⟨_, _, rfl, HM.own (i := 0) rfl, hc4⟩, HM.below⟩)
theorem all4 {w : World} {a b c d : Part} (ha : Rd w w.heap.size 1 a.A a.l.length (a.l.map B8)) (hb : Rd w w.heap.size 1 b.A b.l.length (b.l.map B8)) (hc : Rd w w.heap.size 1 c.A c.l.length (c.l.map B8)) (hd : Rd w w.heap.size 1 d.A d.l.length (d.l.map B8)) : ∀ p ∈ [a, b, c, d], Rd w w.heap.size 1 p.A p.l.length (p.l.map B8) := by
  intro p hp
  simp only [List.mem_cons, List.not_mem_nil, or_false] at hp
  rcases hp with rfl | rfl | rfl | rfl
  · exact ha
  · exact hb
  · exact hc
  · exact hd
set_option maxRecDepth 100000 in
set_option maxHeartbeats 4000000 in
theorem body_any (b : Bk) (hok : b.Ok) (A : Option Addr) (c B : Nat) (w : World) (hL : LaidX B w) (hB : B ≤ w.heap.size) (hr : Rd w w.heap.size 11 A b.evs.length (b.evs.flatMap evL)) (hn : b.evs.length ≤ 1000000) (hf : b.fits = true) :
    Calls Tryd.prog 33 #[.agg (b.cells A c)] w (BytesOne w b.body) := by
  have hcpu := hok.cpu
  refine calls_enter (vs := [.agg (b.cells A c)]) Tryd.func33 rfl rfl (by kernel_rfl) (σ0 := [(0, .agg (b.cells A c))]) rfl ?_
  intro a HF
  have HM := Mem.start w
  refine wp_seq ?_
  refine from_start ?_
  refine from_op HF (i := 0) rfl rfl ?_
  refine e_box HF HM (cs := (b.cells A c)) rfl rfl rfl rfl (by decide) ?_
  clear HF HM; intro a w1 g1 HF HM
  refine from_pures HF 1 1 (j := 2) [(2, .slice none 0 0)] (by kernel_rfl) rfl ?_; clear HF; intro a HF
  refine from_done rfl ?_
  replace HF := HF.sub (σ' := [(2, .slice none 0 0), (1, .pointer (some ⟨g1, 0, none⟩))]) (by kernel_rfl)
  refine wp_seq ?_
  refine wp_seq ?_
  refine from_start ?_
  refine from_pures HF 1 0 (j := 1) [(7, .pointer (some ⟨g1, 0, none⟩))] (by kernel_rfl) rfl ?_; clear HF; intro a HF
  refine from_yl (S := fun wS => Mem w wS _) HF HM (i := 1) rfl rfl (d := 8) rfl (by decide) (v := .int .u8 (b.kind : Int)) (Yl.load1 rfl rfl (by kernel_rfl) (fun _ h => h.cell (i := 0) rfl rfl)) ?_; clear HF; intro a HF
  refine from_pures HF 1 2 (j := 3) [(9, .bool (((b.kind : Int) : Int) == (2 : Int)))] (by kernel_rfl) rfl ?_; clear HF; intro a HF
  refine from_done rfl ?_
  replace HF := HF.sub (σ' := [(9, .bool (((b.kind : Int) : Int) == (2 : Int))), (2, .slice none 0 0), (1, .pointer (some ⟨g1, 0, none⟩))]) (by kernel_rfl)
  rcases Bool.eq_false_or_eq_true (((b.kind : Int) : Int) == (2 : Int)) with hb9 | hb9
  · have HF := HF.as (t := 9) (u := .bool true) rfl (by rw [hb9])
    have hd9 := eq_of_beq hb9
    have hk : b.kind = 2 := by omega
    obtain ⟨n1, n2, n3, n4, n5⟩ := fits_next hf hk
    refine cond_true HF rfl ?_
    refine wp_seq ?_
    refine from_start ?_
    refine from_pures HF 1 0 (j := 1) [(10, .pointer (some ⟨g1, 3, none⟩))] (by kernel_rfl) rfl ?_; clear HF; intro a HF
    refine from_yl (S := fun wS => Mem w wS _) HF HM (i := 1) rfl rfl (d := 11) rfl (by decide) (v := .int .i64 b.next) (Yl.load1 rfl rfl (by kernel_rfl) (fun _ h => h.cell (i := 0) rfl rfl)) ?_; clear HF; intro a HF
    refine from_pures HF 1 2 (j := 3) [(12, .int .u64 (IntKind.u64.wrap b.next))] (by kernel_rfl) rfl ?_; clear HF; intro a HF
    replace HF := HF.as (t := 12) (u := .int .u64 (b.next.toNat : Int)) rfl (u64_nat (by omega) (by omega))
    refine from_op HF (i := 3) rfl rfl ?_
    refine e_call HF (vs := [.int .u64 (b.next.toNat : Int)]) rfl (by kernel_rfl) (by kernel_rfl) rfl (by decide) (vwrite_any b.next.toNat (by omega) _) ?_
    rintro _ w13 ⟨⟨A13, c13, rfl, ho, hc13⟩, hbw⟩
    refine ⟨_, rfl, ?_⟩
    replace HM := HM.callRow hbw ho
    clear HF; intro a HF
    refine from_pures HF 1 4 (j := 5) [(2, .slice A13 ((vbytes b.next.toNat).length) c13)] (by kernel_rfl) rfl ?_; clear HF; intro a HF
    refine from_done rfl ?_
    replace HF := HF.sub (σ' := [(2, .slice A13 ((vbytes b.next.toNat).length) c13), (9, .bool true), (1, .pointer (some ⟨g1, 0, none⟩))]) (by kernel_rfl)
    refine wp_ret ?_
    exact ret1 rfl HF (.tmp HF rfl) (BytesOne.as ⟨⟨_, _, rfl, HM.own (i := 0) rfl, hc13⟩, HM.below⟩ (by unfold Bk.body; rw [if_pos hk]))
  · have HF := HF.as (t := 9) (u := .bool false) rfl (by rw [hb9])
    have hd9 := ne_of_beq_false hb9
    have hk : b.kind ≠ 2 := by omega
    obtain ⟨m0, m1, m2, m3, m4⟩ := fits_lost hf hk
    refine cond_false HF rfl ?_
    refine wp_skip ?_
    refine wp_seq ?_
    refine from_start ?_
    refine from_pures HF 1 0 (j := 1) [(14, .pointer (some ⟨g1, 1, none⟩))] (by kernel_rfl) rfl ?_; clear HF; intro a HF
    refine from_yl (S := fun wS => Mem w wS _) HF HM (i := 1) rfl rfl (d := 15) rfl (by decide) (v := .int .u8 (b.cpu : Int)) (Yl.load1 rfl rfl (by kernel_rfl) (fun _ h => h.cell (i := 0) rfl rfl)) ?_; clear HF; intro a HF
    refine from_pures HF 1 2 (j := 3) [(16, .int .u64 (IntKind.u64.wrap (b.cpu : Int)))] (by kernel_rfl) rfl ?_; clear HF; intro a HF
    replace HF := HF.as (t := 16) (u := .int .u64 (b.cpu : Int)) rfl (u64_nat rfl (by omega))
    refine from_pures HF 1 3 (j := 4) [(17, .pointer (some ⟨g1, 2, none⟩))] (by kernel_rfl) rfl ?_; clear HF; intro a HF
    refine from_yl (S := fun wS => Mem w wS _) HF HM (i := 4) rfl rfl (d := 18) rfl (by decide) (v := .int .i64 b.lost) (Yl.load1 rfl rfl (by kernel_rfl) (fun _ h => h.cell (i := 0) rfl rfl)) ?_; clear HF; intro a HF
    refine from_pures HF 1 5 (j := 6) [(19, .int .u64 (IntKind.u64.wrap b.lost))] (by kernel_rfl) rfl ?_; clear HF; intro a HF
    replace HF := HF.as (t := 19) (u := .int .u64 (b.lost.toNat : Int)) rfl (u64_nat (by omega) (by omega))
    refine from_pures HF 1 6 (j := 7) [(20, .pointer (some ⟨g1, 4, none⟩))] (by kernel_rfl) rfl ?_; clear HF; intro a HF
    refine from_yl (S := fun wS => Mem w wS _) HF HM (i := 7) rfl rfl (d := 21) rfl (by decide) (v := .slice A b.evs.length c) (Yl.load1 rfl rfl (by kernel_rfl) (fun _ h => h.cell (i := 0) rfl rfl)) ?_; clear HF; intro a HF
    refine from_yl (S := fun wS => Mem w wS _) HF HM (i := 8) rfl rfl (d := 22) rfl (by decide) (v := .int .i64 ((b.evs.length : Nat) : Int)) (Yl.len rfl rfl (by kernel_rfl)) ?_; clear HF; intro a HF
    refine from_pures HF 1 9 (j := 10) [(23, .int .u64 (IntKind.u64.wrap ((b.evs.length : Nat) : Int)))] (by kernel_rfl) rfl ?_; clear HF; intro a HF
    replace HF := HF.as (t := 23) (u := .int .u64 (b.evs.length : Int)) rfl (u64_nat rfl (by omega))
    refine from_op HF (i := 10) rfl rfl ?_
    refine e_slice HF HM (vs := [(0, .int .u64 (b.cpu : Int)), (1, .int .u64 (b.lost.toNat : Int)), (2, .int .u64 (b.evs.length : Int))]) (cs := #[.int .u64 (b.cpu : Int), .int .u64 (b.lost.toNat : Int), .int .u64 (b.evs.length : Int)]) rfl ei_u64 (by decide) rfl (by kernel_rfl) rfl (by decide) ?_
    clear HF HM; intro a w24 g24 HF HM
    refine from_op HF (i := 11) rfl rfl ?_
    refine e_call HF (vs := [.slice (some ⟨g24, 0, none⟩) 3 3]) rfl (by kernel_rfl) (by kernel_rfl) rfl (by decide) (vall_is _ 3 _ [b.cpu, b.lost.toNat, b.evs.length] _ (HM.rdBlk (i := 0) (n := 3) (size := 1) rfl rfl) (by intro x hx; simp only [List.mem_cons, List.not_mem_nil, or_false] at hx; omega) (by omega)) ?_
    rintro _ w25 ⟨⟨A25, c25, rfl, ho, hc25⟩, hbw⟩
    refine ⟨_, rfl, ?_⟩
    replace HM := HM.callRow hbw ho
    clear HF; intro a HF
    refine from_pures HF 1 12 (j := 13) [(3, .slice A25 (([b.cpu, b.lost.toNat, b.evs.length].flatMap vbytes).length) c25)] (by kernel_rfl) rfl ?_; clear HF; intro a HF
    refine from_done rfl ?_
    replace HF := HF.sub (σ' := [(3, .slice A25 (([b.cpu, b.lost.toNat, b.evs.length].flatMap vbytes).length) c25), (9, .bool false), (2, .slice none 0 0), (1, .pointer (some ⟨g1, 0, none⟩))]) (by kernel_rfl)
    replace HM := HM.picks (fs' := [.row (.slice A25 (([b.cpu, b.lost.toNat, b.evs.length].flatMap vbytes).length) c25) (([b.cpu, b.lost.toNat, b.evs.length].flatMap vbytes).length) (([b.cpu, b.lost.toNat, b.evs.length].flatMap vbytes).map B8) 5 1, .blk g1 (b.cells A c) 37]) [0, 2] (by decide) rfl
    refine wp_seq ?_
    refine wp_seq ?_
    refine from_start ?_
    refine from_pures HF 1 0 (j := 1) [(26, .pointer (some ⟨g1, 4, none⟩))] (by kernel_rfl) rfl ?_; clear HF; intro a HF
    refine from_yl (S := fun wS => Mem w wS _) HF HM (i := 1) rfl rfl (d := 27) rfl (by decide) (v := .slice A b.evs.length c) (Yl.load1 rfl rfl (by kernel_rfl) (fun _ h => h.cell (i := 1) rfl rfl)) ?_; clear HF; intro a HF
    refine from_yl (S := fun wS => Mem w wS _) HF HM (i := 2) rfl rfl (d := 28) rfl (by decide) (v := .int .i64 ((b.evs.length : Nat) : Int)) (Yl.len rfl rfl (by kernel_rfl)) ?_; clear HF; intro a HF
    refine from_pures HF 1 3 (j := 4) [(29, .bool ((((b.evs.length : Nat) : Int) : Int) == (0 : Int)))] (by kernel_rfl) rfl ?_; clear HF; intro a HF
    refine from_done rfl ?_
    replace HF := HF.sub (σ' := [(29, .bool ((((b.evs.length : Nat) : Int) : Int) == (0 : Int))), (3, .slice A25 (([b.cpu, b.lost.toNat, b.evs.length].flatMap vbytes).length) c25), (9, .bool false), (2, .slice none 0 0), (1, .pointer (some ⟨g1, 0, none⟩))]) (by kernel_rfl)
    rcases Bool.eq_false_or_eq_true ((((b.evs.length : Nat) : Int) : Int) == (0 : Int)) with hb29 | hb29
    · have HF := HF.as (t := 29) (u := .bool true) rfl (by rw [hb29])
      have hd29 := eq_of_beq hb29
      refine cond_true HF rfl ?_
      refine wp_seq ?_
      refine from_start ?_
      refine from_pures HF 2 0 (j := 2) [(2, .slice A25 (([b.cpu, b.lost.toNat, b.evs.length].flatMap vbytes).length) c25), (30, .slice A25 (([b.cpu, b.lost.toNat, b.evs.length].flatMap vbytes).length) c25)] (by kernel_rfl) rfl ?_; clear HF; intro a HF
      refine from_done rfl ?_
      replace HF := HF.sub (σ' := [(2, .slice A25 (([b.cpu, b.lost.toNat, b.evs.length].flatMap vbytes).length) c25), (29, .bool true), (3, .slice A25 (([b.cpu, b.lost.toNat, b.evs.length].flatMap vbytes).length) c25), (9, .bool false), (1, .pointer (some ⟨g1, 0, none⟩))]) (by kernel_rfl)
      refine wp_ret ?_
      exact ret1 rfl HF (.tmp HF rfl) (BytesOne.as ⟨⟨_, _, rfl, HM.own (i := 0) rfl, hc25⟩, HM.below⟩ (by unfold Bk.body; rw [if_neg hk, if_pos (by omega)]; simp))
    · have HF := HF.as (t := 29) (u := .bool false) rfl (by rw [hb29])
      have hd29 := ne_of_beq_false hb29
      have hw := fits_write hok (fits_evs hf hk).2 (by omega)
      obtain ⟨q1, q2, q3, q4⟩ := base_bnd hok hf hk (by omega)
      refine cond_false HF rfl ?_
      refine wp_skip ?_
      refine wp_seq ?_
      refine from_start ?_
      refine from_yl (S := fun wS => Mem w wS _) HF HM (i := 0) rfl rfl (d := 31) rfl (by decide) (v := .agg (b.cells A c)) (Yl.loadS rfl rfl si_bk rfl (fun _ h => range_of_block (h.blk (i := 1) rfl))) ?_; clear HF; intro a HF
      refine from_op HF (i := 1) rfl rfl ?_
      refine e_call HF (vs := [.agg (b.cells A c)]) rfl (by kernel_rfl) (by kernel_rfl) rfl (by decide) (base_any b A c _ (HM.old hr) (by omega)) ?_
      rintro _ w32 ⟨rfl, hbw⟩
      refine ⟨_, rfl, ?_⟩
      replace HM := HM.call hbw
      clear HF; intro a HF
      refine from_op HF (i := 2) rfl rfl ?_
      refine e_alloc HF HM (cs := #[.int .i64 0, .int .i64 0]) rfl (by kernel_rfl) rfl (by decide) ?_
      clear HF HM; intro a w4 g4 HF HM
      refine from_op HF (i := 3) rfl rfl ?_
      refine e_storeAll HF HM (i := 0) (cs := #[.int .i64 0, .int .i64 0]) (ds := b.base.cells) rfl rfl rfl rfl ⟨(by kernel_rfl), (by kernel_rfl)⟩ rfl rfl (bs_one b.base) rfl ?_
      clear HM; intro w6_3 HM
      refine from_done rfl ?_
      replace HF := HF.sub (σ' := [(4, .pointer (some ⟨g4, 0, none⟩)), (29, .bool false), (3, .slice A25 (([b.cpu, b.lost.toNat, b.evs.length].flatMap vbytes).length) c25), (9, .bool false), (2, .slice none 0 0), (1, .pointer (some ⟨g1, 0, none⟩))]) (by kernel_rfl)
      refine wp_seq ?_
      refine from_start ?_
      refine from_yl (S := fun wS => Mem w wS _) HF HM (i := 0) rfl rfl (d := 34) rfl (by decide) (v := .agg b.base.cells) (Yl.loadS rfl rfl ⟨(by kernel_rfl), (by kernel_rfl)⟩ rfl (fun _ h => range_of_block (h.blk (i := 0) rfl))) ?_; clear HF; intro a HF
      refine from_pures HF 1 1 (j := 2) [(35, .pointer (some ⟨g1, 4, none⟩))] (by kernel_rfl) rfl ?_; clear HF; intro a HF
      refine from_yl (S := fun wS => Mem w wS _) HF HM (i := 2) rfl rfl (d := 36) rfl (by decide) (v := .slice A b.evs.length c) (Yl.load1 rfl rfl (by kernel_rfl) (fun _ h => h.cell (i := 2) rfl rfl)) ?_; clear HF; intro a HF
      refine from_op HF (i := 3) rfl rfl ?_
      refine e_call HF (vs := [.agg b.base.cells, .slice A b.evs.length c]) rfl (by kernel_rfl) (by kernel_rfl) rfl (by decide) (write_is b.base A b.evs.length c b.evs hok.evs B _ (hL.mem HM hB).laid (HM.le hB) (HM.old hr) (by omega) hw.1 hw.2) ?_
      rintro _ w37 ⟨⟨A37, c37, rfl, ho, hc37⟩, hbw⟩
      refine ⟨_, rfl, ?_⟩
      replace HM := HM.callRow hbw ho
      clear HF; intro a HF
      refine from_pures HF 5 4 (j := 9) [(6, .int .i64 0), (5, .slice A37 ((recs b.base b.evs).length) c37), (39, .int .i64 0), (38, .slice A37 ((recs b.base b.evs).length) c37), (33, .tuple #[.slice A37 ((recs b.base b.evs).length) c37, .int .i64 0])] (by kernel_rfl) rfl ?_; clear HF; intro a HF
      refine from_done rfl ?_
      replace HF := HF.sub (σ' := [(5, .slice A37 ((recs b.base b.evs).length) c37), (4, .pointer (some ⟨g4, 0, none⟩)), (29, .bool false), (3, .slice A25 (([b.cpu, b.lost.toNat, b.evs.length].flatMap vbytes).length) c25), (9, .bool false), (2, .slice none 0 0), (1, .pointer (some ⟨g1, 0, none⟩))]) (by kernel_rfl)
      refine wp_seq ?_
      refine any_start (by kernel_rfl) (fun wS => Mem w wS [.row (.slice A37 ((recs b.base b.evs).length) c37) ((recs b.base b.evs).length) ((recs b.base b.evs).map B8) 5 1, .blk g4 b.base.cells 27, .row (.slice A25 (([b.cpu, b.lost.toNat, b.evs.length].flatMap vbytes).length) c25) (([b.cpu, b.lost.toNat, b.evs.length].flatMap vbytes).length) (([b.cpu, b.lost.toNat, b.evs.length].flatMap vbytes).map B8) 5 1, .blk g1 (b.cells A c) 37]) [] ?_
      replace HM := HM.drew
      have HS := HM.picks (fs' := [.row (.slice A37 ((recs b.base b.evs).length) c37) ((recs b.base b.evs).length) ((recs b.base b.evs).map B8) 5 1, .blk g4 b.base.cells 27, .row (.slice A25 (([b.cpu, b.lost.toNat, b.evs.length].flatMap vbytes).length) c25) (([b.cpu, b.lost.toNat, b.evs.length].flatMap vbytes).length) (([b.cpu, b.lost.toNat, b.evs.length].flatMap vbytes).map B8) 5 1, .blk g1 (b.cells A c) 37]) [0, 1, 2, 3] (by decide) rfl
      refine any_pures HF (fun _ => HS) (fun _ _ d _ _ h => by cases d <;> exact h) [0, 1, 5, 9] #[true, true, false, false, false, true, false, false, false, true, false, false, false] [(49, .slice A37 ((recs b.base b.evs).length) c37), (45, .pointer (some ⟨g4, 1, none⟩)), (41, .pointer (some ⟨g4, 0, none⟩)), (40, .slice A25 (([b.cpu, b.lost.toNat, b.evs.length].flatMap vbytes).length) c25)] (by kernel_rfl) ?_; clear HF; intro a HF
      refine any_yl HF HS (i := 2) rfl rfl (d := 42) rfl (by decide) (by kernel_rfl) (fun _ _ _ h => h) (v := .int .i64 b.base.seq) (Yl.load1 rfl rfl (by kernel_rfl) (fun _ h => h.cell (i := 1) rfl rfl)) ?_; clear HF; intro a HF
      refine any_pure HF (fun _ => HS) (i := 3) rfl rfl (d := 43) rfl (by decide) (by kernel_rfl) (fun _ _ _ h => h) (v := .int .u64 (IntKind.u64.wrap b.base.seq)) (fun _ => Yl.pure (by kernel_rfl)) ?_; clear HF; intro a HF
      replace HF := HF.as (t := 43) (u := .int .u64 (b.base.seq.toNat : Int)) rfl (u64_nat (by omega) (by omega))
      refine any_yl HF HS (i := 6) rfl rfl (d := 46) rfl (by decide) (by kernel_rfl) (fun _ _ _ h => h) (v := .int .i64 b.base.time) (Yl.load1 rfl rfl (by kernel_rfl) (fun _ h => h.cell (i := 1) rfl rfl)) ?_; clear HF; intro a HF
      refine any_pure HF (fun _ => HS) (i := 7) rfl rfl (d := 47) rfl (by decide) (by kernel_rfl) (fun _ _ _ h => h) (v := .int .u64 (IntKind.u64.wrap b.base.time)) (fun _ => Yl.pure (by kernel_rfl)) ?_; clear HF; intro a HF
      replace HF := HF.as (t := 47) (u := .int .u64 (b.base.time.toNat : Int)) rfl (u64_nat (by omega) (by omega))
      refine any_all [4] (by kernel_rfl) rfl ?_
      refine all_cons ?_ all_nil
      refine any_op HF (i := 4) rfl rfl ?_
      refine e_call HF (vs := [.int .u64 (b.base.seq.toNat : Int)]) rfl (by kernel_rfl) (by kernel_rfl) rfl (by decide) (vwrite_any b.base.seq.toNat (by omega) _) ?_
      rintro _ w44 ⟨⟨A44, c44, rfl, ho, hc44⟩, hbw⟩
      refine ⟨_, rfl, ?_⟩
      replace HM := HM.callRow hbw ho
      clear HF; intro a HF
      refine keepS (HM.picks [1, 2, 3, 4] (by decide) rfl) (fun HS => ?_)
      refine any_all [8] (by kernel_rfl) rfl ?_
      refine all_cons ?_ all_nil
      refine any_op HF (i := 8) rfl rfl ?_
      refine e_call HF (vs := [.int .u64 (b.base.time.toNat : Int)]) rfl (by kernel_rfl) (by kernel_rfl) rfl (by decide) (vwrite_any b.base.time.toNat (by omega) _) ?_
      rintro _ w48 ⟨⟨A48, c48, rfl, ho, hc48⟩, hbw⟩
      refine ⟨_, rfl, ?_⟩
      replace HM := HM.callRow hbw ho
      clear HF; intro a HF
      refine keepS (HM.picks [2, 3, 4, 5] (by decide) rfl) (fun HS => ?_)
      refine any_all [10] (by kernel_rfl) rfl ?_
      refine all_cons ?_ all_nil
      refine any_op HF (i := 10) rfl rfl ?_
      refine e_slice HF HM (vs := [(0, .slice A25 (([b.cpu, b.lost.toNat, b.evs.length].flatMap vbytes).length) c25), (1, .slice A44 ((vbytes b.base.seq.toNat).length) c44), (2, .slice A48 ((vbytes b.base.time.toNat).length) c48), (3, .slice A37 ((recs b.base b.evs).length) c37)]) (cs := #[.slice A25 (([b.cpu, b.lost.toNat, b.evs.length].flatMap vbytes).length) c25, .slice A44 ((vbytes b.base.seq.toNat).length) c44, .slice A48 ((vbytes b.base.time.toNat).length) c48, .slice A37 ((recs b.base b.evs).length) c37]) rfl ei_bb (by decide) rfl (by kernel_rfl) rfl (by decide) ?_
      clear HF HM; intro a w50 g50 HF HM
      refine keepS (HM.picks [3, 4, 5, 6] (by decide) rfl) (fun HS => ?_)
      refine any_all [11] (by kernel_rfl) rfl ?_
      refine all_cons ?_ all_nil
      refine any_op HF (i := 11) rfl rfl ?_
      have hps := all4 (a := ⟨A25, c25, [b.cpu, b.lost.toNat, b.evs.length].flatMap vbytes⟩) (b := ⟨A44, c44, vbytes b.base.seq.toNat⟩) (c := ⟨A48, c48, vbytes b.base.time.toNat⟩) (d := ⟨A37, c37, recs b.base b.evs⟩) (HM.rd (i := 5) rfl) (HM.rd (i := 2) rfl) (HM.rd (i := 1) rfl) (HM.rd (i := 3) rfl)
      refine e_call HF (vs := [.slice (some ⟨g50, 0, none⟩) 4 4]) rfl (by kernel_rfl) (by kernel_rfl) rfl (by decide) ((concat_any _ 4 _ [⟨A25, c25, [b.cpu, b.lost.toNat, b.evs.length].flatMap vbytes⟩, ⟨A44, c44, vbytes b.base.seq.toNat⟩, ⟨A48, c48, vbytes b.base.time.toNat⟩, ⟨A37, c37, recs b.base b.evs⟩] _ (HM.rdBlk (i := 0) (n := 4) (size := 1) rfl rfl) rfl (by omega) hps (by have h1 := flat_length [b.cpu, b.lost.toNat, b.evs.length]; have h2 := vbytes_length b.base.seq.toNat; have h3 := vbytes_length b.base.time.toNat; have h4 := recsLenB b.evs b.base; simp only [List.flatMap_cons, List.flatMap_nil, List.length_append, List.append_nil, List.length_cons, List.length_nil] at h1 ⊢; omega)).mono (fun _ _ h => h.as (R' := vbytes b.cpu ++ vbytes b.lost.toNat ++ vbytes b.evs.length ++ (vbytes b.base.seq.toNat ++ vbytes b.base.time.toNat ++ recs b.base b.evs)) (by simp))) ?_
      rintro _ w51 ⟨⟨A51, c51, rfl, ho, hc51⟩, hbw⟩
      refine ⟨_, rfl, ?_⟩
      replace HM := HM.callRow hbw ho
      clear HF; intro a HF
      refine keepS (HM.picks [4, 5, 6, 7] (by decide) rfl) (fun HS => ?_)
      refine any_pures HF (fun _ => HS) (fun _ _ d _ _ h => by cases d <;> exact h) [12] #[true, true, true, true, true, true, true, true, true, true, true, true, true] [(2, .slice A51 ((vbytes b.cpu ++ vbytes b.lost.toNat ++ vbytes b.evs.length ++ (vbytes b.base.seq.toNat ++ vbytes b.base.time.toNat ++ recs b.base b.evs)).length) c51)] (by kernel_rfl) ?_; clear HF; intro a HF
      refine any_done (by kernel_rfl) ?_
      replace HF := HF.sub (σ' := [(2, .slice A51 ((vbytes b.cpu ++ vbytes b.lost.toNat ++ vbytes b.evs.length ++ (vbytes b.base.seq.toNat ++ vbytes b.base.time.toNat ++ recs b.base b.evs)).length) c51), (4, .pointer (some ⟨g4, 0, none⟩)), (29, .bool false), (3, .slice A25 (([b.cpu, b.lost.toNat, b.evs.length].flatMap vbytes).length) c25), (9, .bool false), (1, .pointer (some ⟨g1, 0, none⟩))]) (by kernel_rfl)
      replace HM := HM.picks (fs' := [.row (.slice A51 ((vbytes b.cpu ++ vbytes b.lost.toNat ++ vbytes b.evs.length ++ (vbytes b.base.seq.toNat ++ vbytes b.base.time.toNat ++ recs b.base b.evs)).length) c51) ((vbytes b.cpu ++ vbytes b.lost.toNat ++ vbytes b.evs.length ++ (vbytes b.base.seq.toNat ++ vbytes b.base.time.toNat ++ recs b.base b.evs)).length) ((vbytes b.cpu ++ vbytes b.lost.toNat ++ vbytes b.evs.length ++ (vbytes b.base.seq.toNat ++ vbytes b.base.time.toNat ++ recs b.base b.evs)).map B8) 5 1, .blk g4 b.base.cells 27, .row (.slice A25 (([b.cpu, b.lost.toNat, b.evs.length].flatMap vbytes).length) c25) (([b.cpu, b.lost.toNat, b.evs.length].flatMap vbytes).length) (([b.cpu, b.lost.toNat, b.evs.length].flatMap vbytes).map B8) 5 1, .blk g1 (b.cells A c) 37]) [0, 5, 6, 7] (by decide) rfl
      refine wp_ret ?_
      exact ret1 rfl HF (.tmp HF rfl) (BytesOne.as ⟨⟨_, _, rfl, HM.own (i := 0) rfl, hc51⟩, HM.below⟩ (by unfold Bk.body; rw [if_neg hk, if_neg (by omega)]))
end Go.Proofs.YtjpielapplglmaaDoor

/- Blocks: plain lemmas for the walks of Write, parse and Read. -/
namespace Go.Proofs.YtjpielapplglmaaDoor
open Go.RowKit

instance bkDec : DecidableEq Bk := fun ⟨a0, a1, a2, a3, a4⟩ ⟨b0, b1, b2, b3, b4⟩ =>
  decidable_of_iff (a0 = b0 ∧ a1 = b1 ∧ a2 = b2 ∧ a3 = b3 ∧ a4 = b4) (by simp)
theorem raw_cells {b : Bk} (h : 8 + b.body.length + 4 ≤ 4096) : (#[Value.int .u8 (((8 + b.body.length + 4) % 256 : Nat) : Int), .int .u8 (((8 + b.body.length + 4) / 256 % 256 : Nat) : Int), .int .u8 0, .int .u8 0, .int .u8 113, .int .u8 116, .int .u8 1, .int .u8 (b.kind : Int)] : Array Value).toList ++ b.body.map B8 = b.raw.map B8 := by
  have e0 : 8 + b.body.length + 4 = 12 + b.body.length := by omega
  have e1 : (12 + b.body.length) / 65536 % 256 = 0 := by omega
  have e2 : (12 + b.body.length) / 16777216 % 256 = 0 := by omega
  unfold Bk.raw le4
  rw [e0, e1, e2]
  simp [B8]
theorem vbytes_lt (x : Nat) : ∀ b ∈ vbytes x, b < 256 := by
  intro b hb
  unfold vbytes at hb
  obtain ⟨p, hp, rfl⟩ := List.mem_map.1 hb
  have := grp_lt 10 x p hp
  unfold vbyte
  split <;> omega
theorem recBytes_lt {b : Bs} {e : Ev} (h : e.kind < 256) : ∀ x ∈ recBytes b e, x < 256 := by
  intro x hx
  unfold recBytes at hx
  rcases List.mem_cons.1 hx with rfl | hx
  · exact h
  · obtain ⟨y, _, hy⟩ := List.mem_flatMap.1 hx
    exact vbytes_lt y x hy
theorem recs_lt : ∀ (l : List Ev) (b : Bs), (∀ e ∈ l, e.Ok) → ∀ x ∈ recs b l, x < 256
  | [], _, _, x, hx => by simp [recs] at hx
  | e :: r, b, hok, x, hx => by
    rw [recs] at hx
    rcases List.mem_append.1 hx with h | h
    · exact recBytes_lt (hok e (by simp)).kind x h
    · exact recs_lt r e.at (fun y hy => hok y (by simp [hy])) x h
theorem body_lt {b : Bk} (hok : b.Ok) : ∀ x ∈ b.body, x < 256 := by
  intro x hx
  unfold Bk.body at hx
  split at hx
  · exact vbytes_lt _ x hx
  · rcases List.mem_append.1 hx with h | h
    · rcases List.mem_append.1 h with h | h
      · rcases List.mem_append.1 h with h | h
        · exact vbytes_lt _ x h
        · exact vbytes_lt _ x h
      · exact vbytes_lt _ x h
    · split at h
      · cases h
      · rcases List.mem_append.1 h with h | h
        · rcases List.mem_append.1 h with h | h
          · exact vbytes_lt _ x h
          · exact vbytes_lt _ x h
        · exact recs_lt _ _ hok.evs x h
theorem raw_lt {b : Bk} (hok : b.Ok) : ∀ x ∈ b.raw, x < 256 := by
  intro x hx
  unfold Bk.raw at hx
  rcases List.mem_append.1 hx with h | h
  · rcases List.mem_append.1 h with h | h
    · exact le4_lt _ x h
    · simp only [List.mem_cons, List.not_mem_nil, or_false] at h
      have := hok.kind
      omega
  · exact body_lt hok x h
theorem raw_length (b : Bk) : b.raw.length = 8 + b.body.length := by unfold Bk.raw le4; simp; omega
theorem body_length (b : Bk) : b.body.length ≤ 50 + 61 * b.evs.length := by
  unfold Bk.body
  split
  · have := vbytes_length b.next.toNat; omega
  · have h1 := vbytes_length b.cpu
    have h2 := vbytes_length b.lost.toNat
    have h3 := vbytes_length b.evs.length
    have h4 := vbytes_length b.base.seq.toNat
    have h5 := vbytes_length b.base.time.toNat
    have h6 := recsLenB b.evs b.base
    split <;> simp only [List.length_append, List.length_nil] <;> omega
theorem bk_nil {w w' : World} {b : Bk} {er : Nat} (h : b.err = er) (he : er ≠ 0) (hb : Below w.heap.size w w') : BytesIs w b.err b.out (.returned (.tuple #[.slice none 0 0, .int .i64 (er : Int)])) w' := by
  have h2 : b.out = [] := by unfold Bk.out; rw [if_neg (by omega)]
  rw [h, h2]
  exact ⟨⟨none, 0, rfl, World.ownsRow_nil _ _ _ _, Nat.le_refl _⟩, hb⟩
theorem bk_out {b : Bk} (h : b.err = 0) : b.out = sealL b.raw := by unfold Bk.out; rw [if_pos h]
theorem out_len (b : Bk) : b.out.length ≤ 4096 := by
  unfold Bk.out
  split
  · rename_i h
    unfold Bk.err at h
    split at h
    · cases h
    · split at h
      · cases h
      · rw [seal_len, raw_length]; omega
  · simp
theorem out_lt {b : Bk} (hok : b.Ok) : ∀ x ∈ b.out, x < 256 := by
  unfold Bk.out
  split
  · exact seal_lt (raw_lt hok)
  · intro x hx; cases hx
theorem err_le (b : Bk) : b.err ≤ 107 := by unfold Bk.err; split <;> (try split) <;> omega

/-! parse -/
theorem tkVal_le (most : Nat) (l : List Nat) : tkVal most l ≤ most := by unfold tkVal; split <;> omega
theorem tkVal_min (most : Nat) (l : List Nat) : (if ((most : Nat) : Int) < (((vread l).1 : Nat) : Int) then ((most : Nat) : Int) else (((vread l).1 : Nat) : Int)) = ((tkVal most l : Nat) : Int) := by unfold tkVal; split <;> split <;> omega
theorem tkRest_len (l : List Nat) : (tkRest l).length = l.length - (vread l).2.1 := by unfold tkRest; rw [List.length_drop]
theorem tkRest_le (l : List Nat) : (tkRest l).length ≤ l.length := by rw [tkRest_len]; omega
theorem tkOk_false {most : Nat} {l : List Nat} (h : (vread l).2.2 ≠ 0) : tkOk most l = false := by unfold tkOk; rw [decide_eq_false]; omega
def TakeIs (W : World) (gb gk : Nat) (l : List Nat) (okb : Bool) (most : Nat) (fr : List Fact) (r : Ending) (w' : World) : Prop :=
  r = .returned (.int .i64 ((tkVal most l : Nat) : Int)) ∧ ∃ A' c', Rd W W.heap.size 1 A' (tkRest l).length ((tkRest l).map B8) ∧ (tkRest l).length ≤ c' ∧
    Mem W w' (.blk gb #[.slice A' (tkRest l).length c'] 22 :: .blk gk #[.bool (okb && tkOk most l)] 4 :: fr)
theorem takeIs_of {W w' : World} {gb gk n c most : Nat} {l : List Nat} {okb ok2 : Bool} {A : Option Addr} {fr : List Fact} (hr : Rd W W.heap.size 1 A l.length (l.map B8)) (hc : l.length ≤ c) (h2 : (okb && tkOk most l) = ok2) (hn : n = l.length)
    (HM : Mem W w' (.blk gb #[.slice (if c = (vread l).2.1 then A else A.map (·.add ((vread l).2.1 * 1))) (n - (vread l).2.1) (c - (vread l).2.1)] 22 :: .blk gk #[.bool ok2] 4 :: fr)) :
    TakeIs W gb gk l okb most fr (.returned (.int .i64 ((tkVal most l : Nat) : Int))) w' := by
  subst h2; subst hn
  refine ⟨rfl, (if c = (vread l).2.1 then A else A.map (·.add ((vread l).2.1 * 1))), c - (vread l).2.1, ?_, ?_, ?_⟩
  · rw [tkRest_len]
    exact hr.fromB8 (vread_len l) hc
  · rw [tkRest_len]; omega
  · rw [tkRest_len]; exact HM
/-- What parse hands over. -/
def ParseIs (w : World) (q : Option Bk) (r : Ending) (w' : World) : Prop :=
  (∃ cs : Array Value, r = .returned (.tuple #[.agg cs, .bool q.isSome]) ∧ cs.size = 5 ∧ (∀ v ∈ cs.toList, v.oneCell' = true) ∧
    (∀ b, q = some b → ∃ A c, cs = b.cells A c ∧ w'.ownsRow w.heap.size 55 11 (.slice A b.evs.length c) b.evs.length (b.evs.flatMap evL) ∧ b.evs.length ≤ c)) ∧ Below w.heap.size w w'
theorem parseIs_none {w w' : World} {q : Option Bk} {cs : Array Value} (h : q = none) (hs : cs.size = 5) (h1 : ∀ v ∈ cs.toList, v.oneCell' = true) (hb : Below w.heap.size w w') : ParseIs w q (.returned (.tuple #[.agg cs, .bool false])) w' := by
  subst h
  exact ⟨⟨cs, rfl, hs, h1, fun b h => by cases h⟩, hb⟩
theorem parseIs_some {w w' : World} {q : Option Bk} {b : Bk} {A : Option Addr} {c : Nat} (h : q = some b) (ho : w'.ownsRow w.heap.size 55 11 (.slice A b.evs.length c) b.evs.length (b.evs.flatMap evL)) (hc : b.evs.length ≤ c) (hb : Below w.heap.size w w') : ParseIs w q (.returned (.tuple #[.agg (b.cells A c), .bool true])) w' := by
  subst h
  exact ⟨⟨_, rfl, rfl, bk_one _ _ _, fun b' h => by injection h with h; subst h; exact ⟨A, c, rfl, ho, hc⟩⟩, hb⟩
theorem tk3 {l : List Nat} : (((true && tkOk 63 l) && tkOk 281474976710656 (tkRest l)) && tkOk 4096 (tkRest (tkRest l))) = parse3 l := by unfold parse3; simp
theorem parseR_end (l : List Nat) : parseR 2 l = parseEnd l := by unfold parseR; rw [if_pos rfl]
theorem parseR_evs (l : List Nat) : parseR 1 l = parseEvs l := by unfold parseR; rw [if_neg (by omega)]
theorem endOk {x : Nat} (h : x ≤ 281474976710657) : Bk.Ok ⟨2, 0, 0, (x : Int), []⟩ := ⟨by show 2 < 256; decide, by show 0 < 256; decide, by unfold I64; simp, small_i64 h, by simp⟩
theorem evsOk {cpu lost : Nat} {es : List Ev} (h : cpu < 256) (hl : lost ≤ 281474976710656) (he : ∀ e ∈ es, e.Ok) : Bk.Ok ⟨1, cpu, (lost : Int), 0, es⟩ := ⟨by show 1 < 256; decide, h, small_i64 (by show lost ≤ _; omega), by unfold I64; simp, he⟩
theorem parseEvs_full {l : List Nat} {q : List Ev × Nat × Nat} (h3 : parse3 l = true) (h0 : 0 < tkVal 4096 (tkRest (tkRest l)))
    (hq : readR ⟨(tkVal 281474976710656 (tkRest (tkRest (tkRest l))) : Int), (tkVal 281474976710656 (tkRest (tkRest (tkRest (tkRest l)))) : Int)⟩ (tkVal 63 l) (tkVal 4096 (tkRest (tkRest l)) : Int) (tkRest (tkRest (tkRest (tkRest (tkRest l))))) = q) :
    parseEvs l = parseRows (tkVal 63 l) (tkVal 281474976710656 (tkRest l)) (tkRest (tkRest (tkRest l))) q := by
  unfold parseEvs
  rw [if_pos ⟨h3, h0⟩, hq]
theorem parseRows_none {cpu lost : Nat} {l : List Nat} {q : List Ev × Nat × Nat} (h : ¬ (q.2.2 = 0 ∧ (q.1.getD 0 Ev.zero).seq = (tkVal 281474976710656 l : Int) ∧ (q.1.getD 0 Ev.zero).time = (tkVal 281474976710656 (tkRest l) : Int) ∧ tkOk 281474976710656 l = true ∧ tkOk 281474976710656 (tkRest l) = true ∧ (tkRest (tkRest l)).length - q.2.1 = 0 ∧ Bk.fits ⟨1, cpu, lost, 0, q.1⟩ = true)) : parseRows cpu lost l q = none := by
  unfold parseRows
  rw [if_neg]
  intro hh
  obtain ⟨h1, h2, h3, h4, h5, h6, h7⟩ := hh
  rw [List.length_drop] at h6
  have e : q.1.headD Ev.zero = q.1.getD 0 Ev.zero := by cases q.1 <;> rfl
  rw [e] at h2 h3
  exact h ⟨h1, h2, h3, h4, h5, h6, h7⟩
theorem parseRows_some {cpu lost : Nat} {l : List Nat} {q : List Ev × Nat × Nat} (h : q.2.2 = 0 ∧ (q.1.getD 0 Ev.zero).seq = (tkVal 281474976710656 l : Int) ∧ (q.1.getD 0 Ev.zero).time = (tkVal 281474976710656 (tkRest l) : Int) ∧ tkOk 281474976710656 l = true ∧ tkOk 281474976710656 (tkRest l) = true ∧ (tkRest (tkRest l)).length - q.2.1 = 0 ∧ Bk.fits ⟨1, cpu, lost, 0, q.1⟩ = true) : parseRows cpu lost l q = some ⟨1, cpu, lost, 0, q.1⟩ := by
  unfold parseRows
  rw [if_pos]
  obtain ⟨h1, h2, h3, h4, h5, h6, h7⟩ := h
  have e : q.1.headD Ev.zero = q.1.getD 0 Ev.zero := by cases q.1 <;> rfl
  rw [e, List.length_drop]
  exact ⟨h1, h2, h3, h4, h5, h6, h7⟩
theorem parseEvs_few {l : List Nat} (h : ¬ (parse3 l = true ∧ 0 < tkVal 4096 (tkRest (tkRest l)))) (h2 : ¬ (parse3 l = true ∧ (tkRest (tkRest (tkRest l))).length = 0 ∧ Bk.fits ⟨1, tkVal 63 l, tkVal 281474976710656 (tkRest l), 0, []⟩ = true)) : parseEvs l = none := by
  unfold parseEvs
  rw [if_neg h, if_neg h2]
theorem parseEvs_lost {l : List Nat} (h : ¬ 0 < tkVal 4096 (tkRest (tkRest l))) (h2 : parse3 l = true ∧ (tkRest (tkRest (tkRest l))).length = 0 ∧ Bk.fits ⟨1, tkVal 63 l, tkVal 281474976710656 (tkRest l), 0, []⟩ = true) : parseEvs l = some ⟨1, tkVal 63 l, tkVal 281474976710656 (tkRest l), 0, []⟩ := by
  unfold parseEvs
  rw [if_neg (fun hh => h hh.2), if_pos h2]
theorem parseEnd_is (l : List Nat) : (parseEnd l).isSome = (tkOk 281474976710657 l && (decide ((tkRest l).length = 0) && Bk.fits ⟨2, 0, 0, (tkVal 281474976710657 l : Int), []⟩)) := by
  unfold parseEnd
  split
  · rename_i h; rw [h.1, decide_eq_true h.2.1, h.2.2]; rfl
  · rename_i h
    show false = _
    rw [eq_comm, Bool.eq_false_iff]
    intro hh
    simp only [Bool.and_eq_true, decide_eq_true_eq] at hh
    exact h ⟨hh.1, hh.2.1, hh.2.2⟩
theorem parseEnd_val {l : List Nat} (h : (parseEnd l).isSome = true) : parseEnd l = some ⟨2, 0, 0, (tkVal 281474976710657 l : Int), []⟩ := by
  unfold parseEnd at h ⊢
  split
  · rfl
  · rename_i h2; rw [if_neg h2] at h; cases h
theorem few_is {l : List Nat} (h : ¬ (parse3 l = true ∧ 0 < tkVal 4096 (tkRest (tkRest l)))) : (parseEvs l).isSome = (parse3 l && (decide ((tkRest (tkRest (tkRest l))).length = 0) && Bk.fits ⟨1, tkVal 63 l, (tkVal 281474976710656 (tkRest l) : Int), 0, []⟩)) := by
  unfold parseEvs
  rw [if_neg h]
  split
  · rename_i h; rw [h.1, decide_eq_true h.2.1, h.2.2]; rfl
  · rename_i h
    show false = _
    rw [eq_comm, Bool.eq_false_iff]
    intro hh
    simp only [Bool.and_eq_true, decide_eq_true_eq] at hh
    exact h ⟨hh.1, hh.2.1, hh.2.2⟩
theorem few_val {l : List Nat} (h : ¬ (parse3 l = true ∧ 0 < tkVal 4096 (tkRest (tkRest l)))) (hs : (parseEvs l).isSome = true) : parseEvs l = some ⟨1, tkVal 63 l, (tkVal 281474976710656 (tkRest l) : Int), 0, []⟩ := by
  unfold parseEvs at hs ⊢
  rw [if_neg h] at hs ⊢
  split
  · rfl
  · rename_i h2; rw [if_neg h2] at hs; cases hs
theorem rows_is {cpu lost L : Nat} {l : List Nat} {es : List Ev} (h : (es.getD 0 Ev.zero).seq = (tkVal 281474976710656 l : Int) ∧ (es.getD 0 Ev.zero).time = (tkVal 281474976710656 (tkRest l) : Int)) : (parseRows cpu lost l (es, L, 0)).isSome = ((tkOk 281474976710656 l && tkOk 281474976710656 (tkRest l)) && (decide ((tkRest (tkRest l)).length - L = 0) && Bk.fits ⟨1, cpu, (lost : Int), 0, es⟩)) := by
  cases hc : ((tkOk 281474976710656 l && tkOk 281474976710656 (tkRest l)) && (decide ((tkRest (tkRest l)).length - L = 0) && Bk.fits ⟨1, cpu, (lost : Int), 0, es⟩)) with
  | true =>
    simp only [Bool.and_eq_true, decide_eq_true_eq] at hc
    rw [parseRows_some ⟨rfl, h.1, h.2, hc.1.1, hc.1.2, hc.2.1, hc.2.2⟩]
    rfl
  | false =>
    rw [parseRows_none]
    · rfl
    · intro hh
      obtain ⟨h1, h2, h3, h4, h5, h6, h7⟩ := hh
      rw [h4, h5, h7, decide_eq_true h6] at hc
      cases hc
theorem rows_val {cpu lost : Nat} {l : List Nat} {q : List Ev × Nat × Nat} (h : (parseRows cpu lost l q).isSome = true) : parseRows cpu lost l q = some ⟨1, cpu, (lost : Int), 0, q.1⟩ := by
  unfold parseRows at h ⊢
  split
  · rfl
  · rename_i h2; rw [if_neg h2] at h; cases h
theorem ParseIs.none {w w' : World} {q : Option Bk} {r : Ending} (h : ParseIs w q r w') (hq : q = none) : (∃ cs : Array Value, r = .returned (.tuple #[.agg cs, .bool false]) ∧ cs.size = 5 ∧ (∀ v ∈ cs.toList, v.oneCell' = true)) ∧ Below w.heap.size w w' := by
  subst hq
  obtain ⟨⟨cs, h1, h2, h3, _⟩, h4⟩ := h
  exact ⟨⟨cs, h1, h2, h3⟩, h4⟩
theorem ParseIs.some {w w' : World} {q : Option Bk} {b : Bk} {r : Ending} (h : ParseIs w q r w') (hq : q = some b) : (∃ A c, r = .returned (.tuple #[.agg (b.cells A c), .bool true]) ∧ w'.ownsRow w.heap.size 55 11 (.slice A b.evs.length c) b.evs.length (b.evs.flatMap evL) ∧ b.evs.length ≤ c) ∧ Below w.heap.size w w' := by
  subst hq
  obtain ⟨⟨cs, h1, h2, h3, h5⟩, h4⟩ := h
  obtain ⟨A, c, rfl, h6, h7⟩ := h5 b rfl
  exact ⟨⟨A, c, h1, h6, h7⟩, h4⟩
/-- What Read hands over. -/
def BReadIs (T : TypeId) (w : World) (q : Bk × Nat × Nat) (r : Ending) (w' : World) : Prop :=
  (∃ A c, r = .returned (.tuple #[.agg (q.1.cells A c), .int .i64 (q.2.1 : Int), .int .i64 (q.2.2 : Int)]) ∧ w'.ownsRow w.heap.size T 11 (.slice A q.1.evs.length c) q.1.evs.length (q.1.evs.flatMap evL) ∧ q.1.evs.length ≤ c) ∧ Below w.heap.size w w'
theorem breadIs_bad {T : TypeId} {w w' : World} {q : Bk × Nat × Nat} {er : Nat} (h : q = (Bk.zero, 0, er)) (hb : Below w.heap.size w w') : BReadIs T w q (.returned (.tuple #[.agg #[.int .u8 0, .int .u8 0, .int .i64 0, .int .i64 0, .slice none 0 0], .int .i64 0, .int .i64 (er : Int)])) w' := by
  subst h
  exact ⟨⟨none, 0, rfl, World.ownsRow_nil _ _ _ _, Nat.le_refl _⟩, hb⟩
theorem breadIs_ok {T : TypeId} {w w' : World} {q : Bk × Nat × Nat} {b : Bk} {m c : Nat} {A : Option Addr} (h : q = (b, m, 0)) (ho : w'.ownsRow w.heap.size T 11 (.slice A b.evs.length c) b.evs.length (b.evs.flatMap evL)) (hc : b.evs.length ≤ c) (hb : Below w.heap.size w w') : BReadIs T w q (.returned (.tuple #[.agg (b.cells A c), .int .i64 (m : Int), .int .i64 0])) w' := by
  subst h
  exact ⟨⟨A, c, rfl, ho, hc⟩, hb⟩
theorem readB_len {l : List Nat} (h : (lenR l).2 ≠ 0) : readB l = (Bk.zero, 0, (lenR l).2) := by unfold readB; rw [if_pos h]
theorem readB_none {l L : List Nat} {e : Nat} (h : (lenR l).2 = 0) (hL : L = l.take (lenR l).1) (hb : blkOf L = (none, e)) : readB l = (Bk.zero, 0, e) := by unfold readB; rw [if_neg (by omega), ← hL, hb]
theorem readB_some {l L : List Nat} {b : Bk} {e : Nat} (h : (lenR l).2 = 0) (hL : L = l.take (lenR l).1) (hb : blkOf L = (some b, e)) : readB l = (b, (lenR l).1, 0) := by unfold readB; rw [if_neg (by omega), ← hL, hb]
theorem tk5 {l : List Nat} {m1 m2 m3 m4 m5 : Nat} {a b c d e : List Nat} : (((((true && tkOk m1 a) && tkOk m2 b) && tkOk m3 c) && tkOk m4 d) && tkOk m5 e) = ((((true && tkOk m1 a) && tkOk m2 b) && tkOk m3 c) && (tkOk m4 d && tkOk m5 e)) := by
  have _ := l
  rw [Bool.and_assoc]
end Go.Proofs.YtjpielapplglmaaDoor

/- Blocks, plain laws: what is read is written as the same bytes; what is written is read back, whatever follows. -/
namespace Go.Proofs.YtjpielapplglmaaDoor
open Go.RowKit

theorem le4_drop {l : List Nat} (hl : ∀ x ∈ l, x < 256) (h : 4 ≤ l.length) : le4 (num4 (l.drop (l.length - 4))) = l.drop (l.length - 4) := by
  have h1 : (l.drop (l.length - 4)).length = 4 := by rw [List.length_drop]; omega
  rw [le4_num4 (drop_lt hl _) (by omega), List.take_of_length_le (by omega)]
theorem seal_of {l : List Nat} (hl : ∀ x ∈ l, x < 256) (h : sealedR l = true) : sealL (l.take (l.length - 4)) = l := by
  unfold sealedR at h
  rw [decide_eq_true_eq] at h
  unfold sealL
  rw [h.2, le4_drop hl h.1, List.take_append_drop]
theorem readB_bad {l : List Nat} {b : Bk} {m er : Nat} (h : readB l = (b, m, er)) (he : er ≠ 0) : b = Bk.zero ∧ m = 0 := by
  unfold readB at h
  split at h
  · simp only [Prod.mk.injEq] at h; exact ⟨h.1.symm, h.2.1.symm⟩
  · split at h
    · simp only [Prod.mk.injEq] at h; exact absurd h.2.2.symm he
    · simp only [Prod.mk.injEq] at h; exact ⟨h.1.symm, h.2.1.symm⟩
theorem blkOf_err {l : List Nat} (h : (blkOf l).1 = none) : (blkOf l).2 ≠ 0 := by
  unfold blkOf at h ⊢
  split
  · decide
  · rename_i h1
    rw [if_neg h1] at h
    split
    · decide
    · rename_i h2
      rw [if_neg h2] at h
      split
      · decide
      · rename_i h3
        rw [if_neg h3] at h
        split
        · decide
        · rename_i h4
          rw [if_neg h4] at h
          split
          · decide
          · rename_i b hb
            rw [hb] at h
            cases h
/-- What is known of bytes that are a block. -/
structure OneForm (l : List Nat) (b : Bk) (m : Nat) : Prop where
  ok : b.Ok
  fits : b.fits = true
  err : b.err = 0
  out : b.out = l.take m
  len : m ≤ l.length
  evs : b.evs.length ≤ 4096
  least : 13 ≤ m
  most : m ≤ 4096
theorem one_form {l : List Nat} {b : Bk} {m : Nat} (hl : ∀ x ∈ l, x < 256) (h : readB l = (b, m, 0)) : OneForm l b m := by
  unfold readB at h
  split at h
  · rename_i h0; simp only [Prod.mk.injEq] at h; exact absurd h.2.2 h0
  · rename_i h0
    obtain ⟨h1, h2, h3, h4⟩ := lenR_ok (show (lenR l).2 = 0 by omega)
    split at h
    · rename_i b' hb
      simp only [Prod.mk.injEq] at h
      obtain ⟨rfl, rfl, _⟩ := h
      generalize (lenR l).1 = n at h1 h2 h3 h4 hb
      have hL : ∀ x ∈ l.take n, x < 256 := take_lt hl n
      have hlen : (l.take n).length = n := by rw [List.length_take]; omega
      have hnum : num4 (l.take n) = n := by rw [num4_take (by omega)]; exact h1
      obtain ⟨L, hLe⟩ : ∃ L, L = l.take n := ⟨_, rfl⟩
      rw [← hLe] at hb hL hlen hnum
      unfold blkOf at hb
      split at hb
      · cases hb
      · rename_i s1
        split at hb
        · cases hb
        · rename_i s2
          split at hb
          · cases hb
          · rename_i s3
            split at hb
            · cases hb
            · rename_i s4
              split at hb
              · cases hb
              · rename_i b'' hp
                injection hb with hb
                subst hb
                have hk : L.getD 7 0 = 1 ∨ L.getD 7 0 = 2 := by omega
                have s2 : L.getD 4 0 = 113 ∧ L.getD 5 0 = 116 := Decidable.of_not_not s2
                obtain ⟨q1, q2, q3, q4, q5⟩ := parse_back hk (drop_lt (take_lt hL _) _) hp
                have herr : b''.err = 0 := by
                  unfold Bk.err
                  rw [if_neg (by simp [q3]), if_neg (by rw [q4, List.length_drop, List.length_take]; omega)]
                refine ⟨q2, q3, herr, ?_, h4, q5, h2, h3⟩
                rw [← hLe, bk_out herr, raw_take hL (by omega) (by omega) s2.1 s2.2 (by omega) q1.symm q4]
                exact seal_of hL (by simpa using s1)
    · rename_i hb
      simp only [Prod.mk.injEq] at h
      exact absurd h.2.2 (blkOf_err hb)
theorem vbytes_pos (x : Nat) : 1 ≤ (vbytes x).length := by
  unfold vbytes
  rw [List.length_map]
  rcases Nat.lt_or_ge x 128 with h | h
  · rw [grp_one 9 x h]; simp
  · rw [grp_more 9 x h]; simp
theorem body_pos (b : Bk) : 1 ≤ b.body.length := by
  unfold Bk.body
  split
  · exact vbytes_pos _
  · have := vbytes_pos b.cpu
    simp only [List.length_append]
    omega
theorem out_length {b : Bk} (h : b.err = 0) : b.out.length = 12 + b.body.length := by rw [bk_out h, seal_len, raw_length]; omega
theorem err_zero {b : Bk} (h : b.err = 0) : b.fits = true ∧ 12 + b.body.length ≤ 4096 := by
  unfold Bk.err at h
  split at h
  · cases h
  · rename_i h1
    split at h
    · cases h
    · rename_i h2
      exact ⟨by simpa using h1, by omega⟩
theorem err_is {b : Bk} (h : b.fits = true) (h2 : 12 + b.body.length ≤ 4096) : b.err = 0 := by
  unfold Bk.err
  rw [if_neg (by simp [h]), if_neg (by omega)]
theorem sealed_seal {l : List Nat} : sealedR (sealL l) = true := by
  have hlt : crcSum l < 4294967296 := crcSum_lt l
  have e : (sealL l).length - 4 = l.length := by rw [seal_len]; omega
  unfold sealedR
  rw [decide_eq_true_eq, e]
  unfold sealL
  refine ⟨by rw [List.length_append, le4_len]; omega, ?_⟩
  rw [List.take_left, List.drop_left]
  have := num4_le4 hlt []
  rw [List.append_nil] at this
  exact this.symm
theorem out_head {b : Bk} (h : b.err = 0) : b.out.getD 4 0 = 113 ∧ b.out.getD 5 0 = 116 ∧ b.out.getD 6 0 = 1 ∧ b.out.getD 7 0 = b.kind ∧ (b.out.take (b.out.length - 4)).drop 8 = b.body := by
  have e : b.out.length - 4 = b.raw.length := by rw [out_length h, raw_length]; omega
  rw [e, bk_out h]
  unfold sealL
  rw [List.take_left, raw_drop]
  refine ⟨rfl, rfl, rfl, rfl, rfl⟩
theorem num4_out {b : Bk} (h : b.err = 0) (t : List Nat) : num4 (b.out ++ t) = b.out.length := by
  obtain ⟨h1, h2⟩ := err_zero h
  rw [out_length h, bk_out h]
  unfold sealL Bk.raw
  simp only [List.append_assoc]
  exact num4_le4 (by omega) _
theorem kind_of_fits {b : Bk} (h : b.fits = true) : b.kind = 1 ∨ b.kind = 2 := by
  unfold Bk.fits at h
  split at h
  · left; assumption
  · split at h
    · right; assumption
    · cases h
theorem evs_of_fits {b : Bk} (h : b.fits = true) (h2 : 12 + b.body.length ≤ 4096) : b.evs.length ≤ 4096 := by
  by_cases hk : b.kind = 2
  · have := fits_next h hk; omega
  · have := bk_len hk; omega
theorem blkOf_out {b : Bk} (hok : b.Ok) (h : b.err = 0) : blkOf b.out = (some b, 0) := by
  obtain ⟨h1, h2⟩ := err_zero h
  obtain ⟨g1, g2, g3, g4, g5⟩ := out_head h
  have hs : sealedR b.out = true := by rw [bk_out h]; exact sealed_seal
  have hk := kind_of_fits h1
  unfold blkOf
  rw [if_neg (by rw [hs]; decide), if_neg (fun hh => hh ⟨g1, g2⟩), if_neg (by omega), if_neg (by omega), g4, g5, parse_body hok h1 (evs_of_fits h1 h2)]
/-- What is written is read back, whatever follows. -/
theorem read_out {b : Bk} (hok : b.Ok) (h : b.err = 0) (t : List Nat) : readB (b.out ++ t) = (b, b.out.length, 0) := by
  obtain ⟨h1, h2⟩ := err_zero h
  have h3 := out_length h
  have h4 := body_pos b
  have hn := num4_out h t
  have hlen : lenR (b.out ++ t) = (b.out.length, 0) := by
    unfold lenR
    rw [hn, if_neg (by rw [List.length_append]; omega), if_neg (by omega), if_neg (by rw [List.length_append]; omega)]
  refine (readB_some (b := b) (e := 0) (L := b.out) (by rw [hlen]) (by rw [hlen]; exact List.take_left.symm) (blkOf_out hok h)).trans ?_
  rw [hlen]
theorem out_inj {a b : Bk} (ha : a.Ok) (hb : b.Ok) (ea : a.err = 0) (eb : b.err = 0) (h : a.out = b.out) : a = b := by
  have h1 := read_out ha ea []
  have h2 := read_out hb eb []
  rw [h, h2] at h1
  simp only [Prod.mk.injEq] at h1
  exact h1.1.symm
end Go.Proofs.YtjpielapplglmaaDoor

/- Blocks: Write, Check, Size, a number of parse: the walks. -/
set_option linter.all false
namespace Go.Proofs.YtjpielapplglmaaDoor
open Go.RowKit
set_option maxRecDepth 100000 in
set_option maxHeartbeats 4000000 in
theorem bwrite_any (b : Bk) (hok : b.Ok) (A : Option Addr) (c B : Nat) (w : World) (hL : LaidX B w) (hB : B ≤ w.heap.size) (hr : Rd w w.heap.size 11 A b.evs.length (b.evs.flatMap evL)) (hn : b.evs.length ≤ 1000000) :
    Calls Tryd.prog 14 #[.agg (b.cells A c)] w (BytesIs w b.err b.out) := by
  refine calls_enter (vs := [.agg (b.cells A c)]) Tryd.func14 rfl rfl (by kernel_rfl) (σ0 := [(0, .agg (b.cells A c))]) rfl ?_
  intro a HF
  have HM := Mem.start w
  refine wp_seq ?_
  refine from_start ?_
  refine from_op HF (i := 0) rfl rfl ?_
  refine e_box HF HM (cs := (b.cells A c)) rfl rfl rfl rfl (by decide) ?_
  clear HF HM; intro a w1 g1 HF HM
  refine from_pures HF 2 1 (j := 3) [(3, .int .i64 0), (2, .slice none 0 0)] (by kernel_rfl) rfl ?_; clear HF; intro a HF
  refine from_done rfl ?_
  replace HF := HF.sub (σ' := [(3, .int .i64 0), (2, .slice none 0 0), (1, .pointer (some ⟨g1, 0, none⟩))]) (by kernel_rfl)
  refine wp_seq ?_
  refine wp_seq ?_
  refine from_start ?_
  refine from_yl (S := fun wS => Mem w wS _) HF HM (i := 0) rfl rfl (d := 7) rfl (by decide) (v := .agg (b.cells A c)) (Yl.loadS rfl rfl si_bk rfl (fun _ h => range_of_block (h.blk (i := 0) rfl))) ?_; clear HF; intro a HF
  refine from_op HF (i := 1) rfl rfl ?_
  refine e_call HF (vs := [.agg (b.cells A c)]) rfl (by kernel_rfl) (by kernel_rfl) rfl (by decide) (fits_any b hok A c B _ (hL.mem HM hB) (HM.le hB) (HM.old hr) hn) ?_
  rintro _ w8 ⟨rfl, hbw⟩
  refine ⟨_, rfl, ?_⟩
  replace HM := HM.call hbw
  clear HF; intro a HF
  refine from_pures HF 1 2 (j := 3) [(9, .bool (!b.fits))] (by kernel_rfl) rfl ?_; clear HF; intro a HF
  refine from_done rfl ?_
  replace HF := HF.sub (σ' := [(9, .bool (!b.fits)), (3, .int .i64 0), (2, .slice none 0 0), (1, .pointer (some ⟨g1, 0, none⟩))]) (by kernel_rfl)
  rcases Bool.eq_false_or_eq_true (!b.fits) with hb9 | hb9
  · have HF := HF.as (t := 9) (u := .bool true) rfl (by rw [hb9])
    have hfit : b.fits = false := by simpa using hb9
    refine cond_true HF rfl ?_
    refine wp_seq ?_
    refine from_start ?_
    refine from_pures HF 2 0 (j := 2) [(3, .int .i64 107), (2, .slice none 0 0)] (by kernel_rfl) rfl ?_; clear HF; intro a HF
    refine from_done rfl ?_
    replace HF := HF.sub (σ' := [(3, .int .i64 107), (2, .slice none 0 0), (9, .bool true), (1, .pointer (some ⟨g1, 0, none⟩))]) (by kernel_rfl)
    refine wp_ret ?_
    exact ret2 rfl HF (.tmp HF rfl) (.tmp HF rfl) (bk_nil (by unfold Bk.err; rw [if_pos hfit]) (by decide) HM.below)
  · have HF := HF.as (t := 9) (u := .bool false) rfl (by rw [hb9])
    have hfit : b.fits = true := by simpa using hb9
    have hbl := body_length b
    refine cond_false HF rfl ?_
    refine wp_skip ?_
    refine wp_seq ?_
    refine from_start ?_
    refine from_yl (S := fun wS => Mem w wS _) HF HM (i := 0) rfl rfl (d := 10) rfl (by decide) (v := .agg (b.cells A c)) (Yl.loadS rfl rfl si_bk rfl (fun _ h => range_of_block (h.blk (i := 0) rfl))) ?_; clear HF; intro a HF
    refine from_op HF (i := 1) rfl rfl ?_
    refine e_call HF (vs := [.agg (b.cells A c)]) rfl (by kernel_rfl) (by kernel_rfl) rfl (by decide) (body_any b hok A c B _ (hL.mem HM hB) (HM.le hB) (HM.old hr) hn hfit) ?_
    rintro _ w11 ⟨⟨A11, c11, rfl, ho, hc11⟩, hbw⟩
    refine ⟨_, rfl, ?_⟩
    replace HM := HM.callRow hbw ho
    clear HF; intro a HF
    refine from_pures HF 1 2 (j := 3) [(4, .slice A11 ((b.body).length) c11)] (by kernel_rfl) rfl ?_; clear HF; intro a HF
    refine from_done rfl ?_
    replace HF := HF.sub (σ' := [(4, .slice A11 ((b.body).length) c11), (9, .bool false), (3, .int .i64 0), (2, .slice none 0 0), (1, .pointer (some ⟨g1, 0, none⟩))]) (by kernel_rfl)
    refine wp_seq ?_
    refine from_start ?_
    refine from_pures HF 1 0 (j := 1) [(12, .slice A11 ((b.body).length) c11)] (by kernel_rfl) rfl ?_; clear HF; intro a HF
    refine from_yl (S := fun wS => Mem w wS _) HF HM (i := 1) rfl rfl (d := 13) rfl (by decide) (v := .int .i64 (((b.body).length : Nat) : Int)) (Yl.len rfl rfl (by kernel_rfl)) ?_; clear HF; intro a HF
    refine from_pures HF 1 2 (j := 3) [(14, .int .i64 (IntKind.i64.wrap (8 + (((b.body).length : Nat) : Int))))] (by kernel_rfl) rfl ?_; clear HF; intro a HF
    replace HF := HF.as (t := 14) (u := .int .i64 ((8 + ((b.body).length) : Nat) : Int)) rfl (i64_nat (by omega) (by omega))
    refine from_pures HF 1 3 (j := 4) [(15, .int .i64 (IntKind.i64.wrap (((8 + ((b.body).length) : Nat) : Int) + 4)))] (by kernel_rfl) rfl ?_; clear HF; intro a HF
    replace HF := HF.as (t := 15) (u := .int .i64 ((8 + ((b.body).length) + 4 : Nat) : Int)) rfl (i64_nat (by omega) (by omega))
    refine from_pures HF 1 4 (j := 5) [(5, .int .i64 ((8 + ((b.body).length) + 4 : Nat) : Int))] (by kernel_rfl) rfl ?_; clear HF; intro a HF
    refine from_done rfl ?_
    replace HF := HF.sub (σ' := [(5, .int .i64 ((8 + ((b.body).length) + 4 : Nat) : Int)), (4, .slice A11 ((b.body).length) c11), (9, .bool false), (3, .int .i64 0), (2, .slice none 0 0), (1, .pointer (some ⟨g1, 0, none⟩))]) (by kernel_rfl)
    refine wp_seq ?_
    refine wp_seq ?_
    refine from_start ?_
    refine from_pures HF 2 0 (j := 2) [(17, .bool (decide ((((8 + ((b.body).length) + 4 : Nat) : Int) : Int) > (4096 : Int)))), (16, .int .i64 ((8 + ((b.body).length) + 4 : Nat) : Int))] (by kernel_rfl) rfl ?_; clear HF; intro a HF
    refine from_done rfl ?_
    replace HF := HF.sub (σ' := [(17, .bool (decide ((((8 + ((b.body).length) + 4 : Nat) : Int) : Int) > (4096 : Int)))), (5, .int .i64 ((8 + ((b.body).length) + 4 : Nat) : Int)), (4, .slice A11 ((b.body).length) c11), (9, .bool false), (3, .int .i64 0), (2, .slice none 0 0), (1, .pointer (some ⟨g1, 0, none⟩))]) (by kernel_rfl)
    rcases Bool.eq_false_or_eq_true (decide ((((8 + ((b.body).length) + 4 : Nat) : Int) : Int) > (4096 : Int))) with hb17 | hb17
    · have HF := HF.as (t := 17) (u := .bool true) rfl (by rw [hb17])
      have hd17 := of_decide_eq_true hb17
      refine cond_true HF rfl ?_
      refine wp_seq ?_
      refine from_start ?_
      refine from_pures HF 2 0 (j := 2) [(3, .int .i64 3), (2, .slice none 0 0)] (by kernel_rfl) rfl ?_; clear HF; intro a HF
      refine from_done rfl ?_
      replace HF := HF.sub (σ' := [(3, .int .i64 3), (2, .slice none 0 0), (17, .bool true), (5, .int .i64 ((8 + ((b.body).length) + 4 : Nat) : Int)), (4, .slice A11 ((b.body).length) c11), (9, .bool false), (1, .pointer (some ⟨g1, 0, none⟩))]) (by kernel_rfl)
      refine wp_ret ?_
      exact ret2 rfl HF (.tmp HF rfl) (.tmp HF rfl) (bk_nil (by unfold Bk.err; rw [if_neg (by simp [hfit]), if_pos (by omega)]) (by decide) HM.below)
    · have HF := HF.as (t := 17) (u := .bool false) rfl (by rw [hb17])
      have hd17 := of_decide_eq_false hb17
      refine cond_false HF rfl ?_
      refine wp_skip ?_
      refine wp_seq ?_
      refine from_start ?_
      refine from_pures HF 2 0 (j := 2) [(19, .int .u8 (IntKind.u8.wrap ((8 + ((b.body).length) + 4 : Nat) : Int))), (18, .int .i64 ((8 + ((b.body).length) + 4 : Nat) : Int))] (by kernel_rfl) rfl ?_; clear HF; intro a HF
      replace HF := HF.as (t := 19) (u := .int .u8 (((8 + ((b.body).length) + 4) % 256 : Nat) : Int)) rfl (u8_mod (8 + ((b.body).length) + 4))
      refine from_pures HF 2 2 (j := 4) [(21, .int .i64 (Int.fdiv ((8 + ((b.body).length) + 4 : Nat) : Int) (2 ^ (min (8 : Int).toNat (IntKind.i64).bits)))), (20, .int .i64 ((8 + ((b.body).length) + 4 : Nat) : Int))] (by kernel_rfl) rfl ?_; clear HF; intro a HF
      replace HF := HF.as (t := 21) (u := .int .i64 (((8 + ((b.body).length) + 4) / 256 : Nat) : Int)) rfl (fdiv_nat .i64 (8 + ((b.body).length) + 4) (j := 8) (q := 256) rfl rfl)
      refine from_pures HF 1 4 (j := 5) [(22, .int .u8 (IntKind.u8.wrap (((8 + ((b.body).length) + 4) / 256 : Nat) : Int)))] (by kernel_rfl) rfl ?_; clear HF; intro a HF
      replace HF := HF.as (t := 22) (u := .int .u8 ((((8 + ((b.body).length) + 4) / 256) % 256 : Nat) : Int)) rfl (u8_mod ((8 + ((b.body).length) + 4) / 256))
      refine from_yl (S := fun wS => Mem w wS _) HF HM (i := 5) rfl rfl (d := 23) rfl (by decide) (v := .pointer (some ⟨0, 0, none⟩)) (Yl.indexAddrA (ad := ⟨0, 0, none⟩) (m := 2) (y := 0) (sz := 1) rfl rfl rfl (by kernel_rfl) (by decide)) ?_; clear HF; intro a HF
      refine from_yl (S := fun wS => Mem w wS _) HF HM (i := 6) rfl rfl (d := 24) rfl (by decide) (v := .int .u8 113) (Yl.load1 rfl rfl (by kernel_rfl) (fun _ h => (hL.mem h hB).magic0)) ?_; clear HF; intro a HF
      refine from_yl (S := fun wS => Mem w wS _) HF HM (i := 7) rfl rfl (d := 25) rfl (by decide) (v := .pointer (some ⟨0, 1, none⟩)) (Yl.indexAddrA (ad := ⟨0, 0, none⟩) (m := 2) (y := 1) (sz := 1) rfl rfl rfl (by kernel_rfl) (by decide)) ?_; clear HF; intro a HF
      refine from_yl (S := fun wS => Mem w wS _) HF HM (i := 8) rfl rfl (d := 26) rfl (by decide) (v := .int .u8 116) (Yl.load1 rfl rfl (by kernel_rfl) (fun _ h => (hL.mem h hB).magic1)) ?_; clear HF; intro a HF
      refine from_pures HF 1 9 (j := 10) [(27, .pointer (some ⟨g1, 0, none⟩))] (by kernel_rfl) rfl ?_; clear HF; intro a HF
      refine from_yl (S := fun wS => Mem w wS _) HF HM (i := 10) rfl rfl (d := 28) rfl (by decide) (v := .int .u8 (b.kind : Int)) (Yl.load1 rfl rfl (by kernel_rfl) (fun _ h => h.cell (i := 1) rfl rfl)) ?_; clear HF; intro a HF
      refine from_op HF (i := 11) rfl rfl ?_
      refine e_slice HF HM (vs := [(0, .int .u8 (((8 + ((b.body).length) + 4) % 256 : Nat) : Int)), (1, .int .u8 ((((8 + ((b.body).length) + 4) / 256) % 256 : Nat) : Int)), (2, .int .u8 0), (3, .int .u8 0), (4, .int .u8 113), (5, .int .u8 116), (6, .int .u8 1), (7, .int .u8 (b.kind : Int))]) (cs := #[.int .u8 (((8 + ((b.body).length) + 4) % 256 : Nat) : Int), .int .u8 ((((8 + ((b.body).length) + 4) / 256) % 256 : Nat) : Int), .int .u8 0, .int .u8 0, .int .u8 113, .int .u8 116, .int .u8 1, .int .u8 (b.kind : Int)]) rfl ei_u8 (by decide) rfl (by kernel_rfl) rfl (by decide) ?_
      clear HF HM; intro a w29 g29 HF HM
      refine from_pures HF 1 12 (j := 13) [(6, .slice (some ⟨g29, 0, none⟩) 8 8)] (by kernel_rfl) rfl ?_; clear HF; intro a HF
      refine from_done rfl ?_
      replace HF := HF.sub (σ' := [(6, .slice (some ⟨g29, 0, none⟩) 8 8), (17, .bool false), (5, .int .i64 ((8 + ((b.body).length) + 4 : Nat) : Int)), (4, .slice A11 ((b.body).length) c11), (9, .bool false), (3, .int .i64 0), (2, .slice none 0 0), (1, .pointer (some ⟨g1, 0, none⟩))]) (by kernel_rfl)
      refine wp_seq ?_
      refine from_start ?_
      refine from_pures HF 2 0 (j := 2) [(31, .slice A11 ((b.body).length) c11), (30, .slice (some ⟨g29, 0, none⟩) 8 8)] (by kernel_rfl) rfl ?_; clear HF; intro a HF
      refine from_op HF (i := 2) rfl rfl ?_
      replace HM := HM.blkRow (i := 0) (n := 8) (size := 1) rfl rfl (by decide)
      refine e_append HF HM (i := 0) rfl ei_u8 rfl rfl rfl (news := (b.body.map B8)) (HM.rd (i := 1) rfl) (one_B8 _) (by omega) (by omega) rfl (by decide) ?_
      clear HF HM; intro a w32 A32 c32 HF HM hc32
      rw [show ((#[.int .u8 (((8 + ((b.body).length) + 4) % 256 : Nat) : Int), .int .u8 ((((8 + ((b.body).length) + 4) / 256) % 256 : Nat) : Int), .int .u8 0, .int .u8 0, .int .u8 113, .int .u8 116, .int .u8 1, .int .u8 (b.kind : Int)]).toList) ++ (b.body.map B8) = b.raw.map B8 from raw_cells (by omega)] at HM
      refine from_op HF (i := 3) rfl rfl ?_
      refine e_call HF (vs := [.slice A32 (8 + (b.body).length) c32]) rfl (by kernel_rfl) (by kernel_rfl) rfl (by decide) (seal_any _ _ _ b.raw B _ (hL.mem HM hB) (HM.le hB) (HM.rd (i := 0) rfl) (raw_length b) (by omega) (raw_lt hok)) ?_
      rintro _ w33 ⟨⟨A33, c33, rfl, ho, hc33⟩, hbw⟩
      refine ⟨_, rfl, ?_⟩
      replace HM := HM.callRow hbw ho
      clear HF; intro a HF
      refine from_pures HF 4 4 (j := 8) [(3, .int .i64 0), (2, .slice A33 ((sealL b.raw).length) c33), (35, .int .i64 0), (34, .slice A33 ((sealL b.raw).length) c33)] (by kernel_rfl) rfl ?_; clear HF; intro a HF
      refine from_done rfl ?_
      replace HF := HF.sub (σ' := [(3, .int .i64 0), (2, .slice A33 ((sealL b.raw).length) c33), (17, .bool false), (5, .int .i64 ((8 + ((b.body).length) + 4 : Nat) : Int)), (4, .slice A11 ((b.body).length) c11), (9, .bool false), (1, .pointer (some ⟨g1, 0, none⟩))]) (by kernel_rfl)
      replace HM := HM.picks (fs' := [.row (.slice A33 ((sealL b.raw).length) c33) ((sealL b.raw).length) ((sealL b.raw).map B8) 5 1, .row (.slice A11 ((b.body).length) c11) ((b.body).length) (b.body.map B8) 5 1, .blk g1 (b.cells A c) 37]) [0, 2, 3] (by decide) rfl
      refine wp_ret ?_
      have herr : b.err = 0 := by unfold Bk.err; rw [if_neg (by simp [hfit]), if_neg (by omega)]
      exact ret2 rfl HF (.tmp HF rfl) (.tmp HF rfl) ((by rw [herr, bk_out herr]; exact ⟨⟨_, _, rfl, HM.own (i := 0) rfl, hc33⟩, HM.below⟩))
set_option maxRecDepth 100000 in
set_option maxHeartbeats 4000000 in
theorem bcheck_any (b : Bk) (hok : b.Ok) (A : Option Addr) (c B : Nat) (w : World) (hL : LaidX B w) (hB : B ≤ w.heap.size) (hr : Rd w w.heap.size 11 A b.evs.length (b.evs.flatMap evL)) (hn : b.evs.length ≤ 1000000) :
    Calls Tryd.prog 19 #[.agg (b.cells A c)] w (Is w (.int .i64 (b.err : Int))) := by
  refine calls_enter (vs := [.agg (b.cells A c)]) Tryd.func19 rfl rfl (by kernel_rfl) (σ0 := [(0, .agg (b.cells A c))]) rfl ?_
  intro a HF
  have HM := Mem.start w
  refine wp_seq ?_
  refine from_start ?_
  refine from_op HF (i := 0) rfl rfl ?_
  refine e_box HF HM (cs := (b.cells A c)) rfl rfl rfl rfl (by decide) ?_
  clear HF HM; intro a w1 g1 HF HM
  refine from_pures HF 1 1 (j := 2) [(2, .int .i64 0)] (by kernel_rfl) rfl ?_; clear HF; intro a HF
  refine from_done rfl ?_
  replace HF := HF.sub (σ' := [(2, .int .i64 0), (1, .pointer (some ⟨g1, 0, none⟩))]) (by kernel_rfl)
  refine wp_seq ?_
  refine from_start ?_
  refine from_yl (S := fun wS => Mem w wS _) HF HM (i := 0) rfl rfl (d := 6) rfl (by decide) (v := .agg (b.cells A c)) (Yl.loadS rfl rfl si_bk rfl (fun _ h => range_of_block (h.blk (i := 0) rfl))) ?_; clear HF; intro a HF
  refine from_op HF (i := 1) rfl rfl ?_
  refine e_call HF (vs := [.agg (b.cells A c)]) rfl (by kernel_rfl) (by kernel_rfl) rfl (by decide) (bwrite_any b hok A c B _ (hL.mem HM hB) (HM.le hB) (HM.old hr) hn) ?_
  rintro _ w7 ⟨⟨A7, c7, rfl, ho, hc7⟩, hbw⟩
  refine ⟨_, rfl, ?_⟩
  replace HM := HM.callRow hbw ho
  clear HF; intro a HF
  refine from_pures HF 5 2 (j := 7) [(4, .int .i64 (b.err : Int)), (3, .slice A7 ((b.out).length) c7), (9, .int .i64 (b.err : Int)), (8, .slice A7 ((b.out).length) c7), (5, .tuple #[.slice A7 ((b.out).length) c7, .int .i64 (b.err : Int)])] (by kernel_rfl) rfl ?_; clear HF; intro a HF
  refine from_done rfl ?_
  replace HF := HF.sub (σ' := [(4, .int .i64 (b.err : Int)), (2, .int .i64 0)]) (by kernel_rfl)
  replace HM := HM.picks (fs' := []) [] (by decide) rfl
  refine wp_seq ?_
  refine from_start ?_
  refine from_pures HF 2 0 (j := 2) [(2, .int .i64 (b.err : Int)), (10, .int .i64 (b.err : Int))] (by kernel_rfl) rfl ?_; clear HF; intro a HF
  refine from_done rfl ?_
  replace HF := HF.sub (σ' := [(2, .int .i64 (b.err : Int))]) (by kernel_rfl)
  refine wp_ret ?_
  exact ret1 rfl HF (.tmp HF rfl) (⟨rfl, HM.below⟩)
set_option maxRecDepth 100000 in
set_option maxHeartbeats 4000000 in
theorem bsize_any (b : Bk) (hok : b.Ok) (A : Option Addr) (c B : Nat) (w : World) (hL : LaidX B w) (hB : B ≤ w.heap.size) (hr : Rd w w.heap.size 11 A b.evs.length (b.evs.flatMap evL)) (hn : b.evs.length ≤ 1000000) :
    Calls Tryd.prog 18 #[.agg (b.cells A c)] w (Is w (.tuple #[.int .i64 (b.out.length : Int), .int .i64 (b.err : Int)])) := by
  refine calls_enter (vs := [.agg (b.cells A c)]) Tryd.func18 rfl rfl (by kernel_rfl) (σ0 := [(0, .agg (b.cells A c))]) rfl ?_
  intro a HF
  have HM := Mem.start w
  refine wp_seq ?_
  refine from_start ?_
  refine from_op HF (i := 0) rfl rfl ?_
  refine e_box HF HM (cs := (b.cells A c)) rfl rfl rfl rfl (by decide) ?_
  clear HF HM; intro a w1 g1 HF HM
  refine from_pures HF 2 1 (j := 3) [(3, .int .i64 0), (2, .int .i64 0)] (by kernel_rfl) rfl ?_; clear HF; intro a HF
  refine from_done rfl ?_
  replace HF := HF.sub (σ' := [(3, .int .i64 0), (2, .int .i64 0), (1, .pointer (some ⟨g1, 0, none⟩))]) (by kernel_rfl)
  refine wp_seq ?_
  refine from_start ?_
  refine from_yl (S := fun wS => Mem w wS _) HF HM (i := 0) rfl rfl (d := 7) rfl (by decide) (v := .agg (b.cells A c)) (Yl.loadS rfl rfl si_bk rfl (fun _ h => range_of_block (h.blk (i := 0) rfl))) ?_; clear HF; intro a HF
  refine from_op HF (i := 1) rfl rfl ?_
  refine e_call HF (vs := [.agg (b.cells A c)]) rfl (by kernel_rfl) (by kernel_rfl) rfl (by decide) (bwrite_any b hok A c B _ (hL.mem HM hB) (HM.le hB) (HM.old hr) hn) ?_
  rintro _ w8 ⟨⟨A8, c8, rfl, ho, hc8⟩, hbw⟩
  refine ⟨_, rfl, ?_⟩
  replace HM := HM.callRow hbw ho
  clear HF; intro a HF
  refine from_pures HF 5 2 (j := 7) [(5, .int .i64 (b.err : Int)), (4, .slice A8 ((b.out).length) c8), (10, .int .i64 (b.err : Int)), (9, .slice A8 ((b.out).length) c8), (6, .tuple #[.slice A8 ((b.out).length) c8, .int .i64 (b.err : Int)])] (by kernel_rfl) rfl ?_; clear HF; intro a HF
  refine from_done rfl ?_
  replace HF := HF.sub (σ' := [(5, .int .i64 (b.err : Int)), (4, .slice A8 ((b.out).length) c8), (3, .int .i64 0), (2, .int .i64 0)]) (by kernel_rfl)
  replace HM := HM.picks (fs' := [.row (.slice A8 ((b.out).length) c8) ((b.out).length) (b.out.map B8) 5 1]) [0] (by decide) rfl
  refine wp_seq ?_
  refine from_start ?_
  refine from_pures HF 1 0 (j := 1) [(11, .slice A8 ((b.out).length) c8)] (by kernel_rfl) rfl ?_; clear HF; intro a HF
  refine from_yl (S := fun wS => Mem w wS _) HF HM (i := 1) rfl rfl (d := 12) rfl (by decide) (v := .int .i64 (((b.out).length : Nat) : Int)) (Yl.len rfl rfl (by kernel_rfl)) ?_; clear HF; intro a HF
  refine from_pures HF 3 2 (j := 5) [(3, .int .i64 (b.err : Int)), (2, .int .i64 (((b.out).length : Nat) : Int)), (13, .int .i64 (b.err : Int))] (by kernel_rfl) rfl ?_; clear HF; intro a HF
  refine from_done rfl ?_
  replace HF := HF.sub (σ' := [(3, .int .i64 (b.err : Int)), (2, .int .i64 (((b.out).length : Nat) : Int))]) (by kernel_rfl)
  replace HM := HM.picks (fs' := []) [] (by decide) rfl
  refine wp_ret ?_
  exact ret2 rfl HF (.tmp HF rfl) (.tmp HF rfl) (⟨rfl, HM.below⟩)
set_option maxRecDepth 100000 in
set_option maxHeartbeats 4000000 in
theorem ptake_any (W w : World) (gb gk : Nat) (A : Option Addr) (n c : Nat) (l : List Nat) (okb : Bool) (most : Nat) (fr : List Fact) (hl : ∀ b ∈ l, b < 256) (hln : n = l.length) (hn : n ≤ 1000000000) (hr0 : Rd W W.heap.size 1 A n (l.map B8)) (hc0 : n ≤ c) (hmost : most ≤ 281474976710657)
    (HM : Mem W w (.blk gb #[.slice A n c] 22 :: .blk gk #[.bool okb] 4 :: fr)) :
    Calls Tryd.prog 59 #[.int .i64 (most : Int), .pointer (some ⟨gb, 0, none⟩), .pointer (some ⟨gk, 0, none⟩)] w (TakeIs W gb gk l okb most fr) := by
  have hr : Rd W W.heap.size 1 A l.length (l.map B8) := hln ▸ hr0
  have hc : l.length ≤ c := hln ▸ hc0
  refine calls_enter (vs := [.int .i64 (most : Int), .pointer (some ⟨gb, 0, none⟩), .pointer (some ⟨gk, 0, none⟩)]) Tryd.func59 rfl rfl (by kernel_rfl) (σ0 := [(0, .int .i64 (most : Int)), (1, .pointer (some ⟨gb, 0, none⟩)), (2, .pointer (some ⟨gk, 0, none⟩))]) rfl ?_
  intro a HF
  refine wp_seq ?_
  refine from_start ?_
  refine from_pures HF 1 0 (j := 1) [(4, .int .i64 0)] (by kernel_rfl) rfl ?_; clear HF; intro a HF
  refine from_done rfl ?_
  have hvl := vread_len l
  have hvb := vread_bound l hl
  have htv := tkVal_le most l
  refine wp_seq ?_
  refine from_start ?_
  refine from_yl (S := fun wS => Mem W wS _) HF HM (i := 0) rfl rfl (d := 9) rfl (by decide) (v := .slice A n c) (Yl.load1 rfl rfl (by kernel_rfl) (fun _ h => h.cell (i := 0) rfl rfl)) ?_; clear HF; intro a HF
  refine from_op HF (i := 1) rfl rfl ?_
  refine e_call HF (vs := [.slice A n c]) rfl (by kernel_rfl) (by kernel_rfl) rfl (by decide) (read_any A n c l _ (hln ▸ HM.old hr) hl (by omega)) ?_
  rintro _ w10 ⟨rfl, hbw⟩
  refine ⟨_, rfl, ?_⟩
  replace HM := HM.call hbw
  clear HF; intro a HF
  refine from_pures HF 7 2 (j := 9) [(7, .int .i64 ((vread l).2.2 : Int)), (6, .int .i64 ((vread l).2.1 : Int)), (5, .int .u64 ((vread l).1 : Int)), (13, .int .i64 ((vread l).2.2 : Int)), (12, .int .i64 ((vread l).2.1 : Int)), (11, .int .u64 ((vread l).1 : Int)), (8, .tuple #[.int .u64 ((vread l).1 : Int), .int .i64 ((vread l).2.1 : Int), .int .i64 ((vread l).2.2 : Int)])] (by kernel_rfl) rfl ?_; clear HF; intro a HF
  refine from_done rfl ?_
  replace HF := HF.sub (σ' := [(7, .int .i64 ((vread l).2.2 : Int)), (6, .int .i64 ((vread l).2.1 : Int)), (5, .int .u64 ((vread l).1 : Int)), (4, .int .i64 0), (0, .int .i64 (most : Int)), (1, .pointer (some ⟨gb, 0, none⟩)), (2, .pointer (some ⟨gk, 0, none⟩))]) (by kernel_rfl)
  refine wp_seq ?_
  refine from_start ?_
  refine from_yl (S := fun wS => Mem W wS _) HF HM (i := 0) rfl rfl (d := 14) rfl (by decide) (v := .bool okb) (Yl.load1 rfl rfl (by kernel_rfl) (fun _ h => h.cell (i := 1) rfl rfl)) ?_; clear HF; intro a HF
  refine from_pures HF 1 1 (j := 2) [(15, .bool okb)] (by kernel_rfl) rfl ?_; clear HF; intro a HF
  rcases Bool.eq_false_or_eq_true (okb) with hb15 | hb15
  · have HF := HF.as (t := 15) (u := .bool true) rfl (by rw [hb15])
    refine from_pures HF 4 2 (j := 6) [(19, .bool ((((vread l).2.2 : Int) : Int) == (0 : Int))), (18, .bool ((((vread l).2.2 : Int) : Int) == (0 : Int))), (17, .bool ((((vread l).2.2 : Int) : Int) == (0 : Int))), (16, .int .i64 ((vread l).2.2 : Int))] (by kernel_rfl) rfl ?_; clear HF; intro a HF
    rcases Bool.eq_false_or_eq_true ((((vread l).2.2 : Int) : Int) == (0 : Int)) with hb19 | hb19
    · have HF := HF.as (t := 19) (u := .bool true) rfl (by rw [hb19])
      have hd19 := eq_of_beq hb19
      refine from_pures HF 3 6 (j := 9) [(22, .int .u64 (IntKind.u64.wrap (most : Int))), (21, .int .i64 (most : Int)), (20, .int .u64 ((vread l).1 : Int))] (by kernel_rfl) rfl ?_; clear HF; intro a HF
      replace HF := HF.as (t := 22) (u := .int .u64 (most : Int)) rfl (u64_nat rfl (by omega))
      refine from_pures HF 2 9 (j := 11) [(24, .bool (decide ((((vread l).1 : Int) : Int) ≤ ((most : Int) : Int)))), (23, .bool (decide ((((vread l).1 : Int) : Int) ≤ ((most : Int) : Int))))] (by kernel_rfl) rfl ?_; clear HF; intro a HF
      refine from_op HF (i := 11) rfl rfl ?_
      refine e_store HF HM (i := 1) (cs := #[.bool okb]) rfl rfl rfl rfl (by kernel_rfl) rfl rfl (by simp) ?_
      clear HM; intro w2_11 HM
      refine from_done rfl ?_
      replace HF := HF.sub (σ' := [(6, .int .i64 ((vread l).2.1 : Int)), (5, .int .u64 ((vread l).1 : Int)), (4, .int .i64 0), (0, .int .i64 (most : Int)), (1, .pointer (some ⟨gb, 0, none⟩))]) (by kernel_rfl)
      refine wp_seq ?_
      refine from_start ?_
      refine from_yl (S := fun wS => Mem W wS _) HF HM (i := 0) rfl rfl (d := 25) rfl (by decide) (v := .slice A n c) (Yl.load1 rfl rfl (by kernel_rfl) (fun _ h => h.cell (i := 0) rfl rfl)) ?_; clear HF; intro a HF
      refine from_pures HF 1 1 (j := 2) [(26, .int .i64 ((vread l).2.1 : Int))] (by kernel_rfl) rfl ?_; clear HF; intro a HF
      refine from_yl (S := fun wS => Mem W wS _) HF HM (i := 2) rfl rfl (d := 27) rfl (by decide) (v := .slice (if c = (vread l).2.1 then A else A.map (·.add ((vread l).2.1 * 1))) (n - (vread l).2.1) (c - (vread l).2.1)) (Yl.sliceFrom ei_u8 (j := (vread l).2.1) rfl rfl rfl (by omega)) ?_; clear HF; intro a HF
      refine from_op HF (i := 3) rfl rfl ?_
      refine e_store HF HM (i := 0) (cs := #[.slice A n c]) rfl rfl rfl rfl (by kernel_rfl) rfl rfl (by simp) ?_
      clear HM; intro w3_3 HM
      refine from_done rfl ?_
      replace HF := HF.sub (σ' := [(5, .int .u64 ((vread l).1 : Int)), (4, .int .i64 0), (0, .int .i64 (most : Int)), (1, .pointer (some ⟨gb, 0, none⟩))]) (by kernel_rfl)
      refine wp_seq ?_
      refine from_start ?_
      refine from_pures HF 3 0 (j := 3) [(30, .int .u64 (IntKind.u64.wrap (most : Int))), (29, .int .i64 (most : Int)), (28, .int .u64 ((vread l).1 : Int))] (by kernel_rfl) rfl ?_; clear HF; intro a HF
      replace HF := HF.as (t := 30) (u := .int .u64 (most : Int)) rfl (u64_nat rfl (by omega))
      refine from_yl (S := fun wS => Mem W wS _) HF HM (i := 3) rfl rfl (d := 31) rfl (by decide) (v := .int .u64 (if ((most : Int) : Int) < (((vread l).1 : Int) : Int) then (most : Int) else ((vread l).1 : Int))) (Yl.min rfl rfl rfl) ?_; clear HF; intro a HF
      replace HF := HF.as (t := 31) (u := .int .u64 (tkVal most l : Int)) rfl (by rw [tkVal_min])
      refine from_pures HF 1 4 (j := 5) [(32, .int .i64 (IntKind.i64.wrap (tkVal most l : Int)))] (by kernel_rfl) rfl ?_; clear HF; intro a HF
      replace HF := HF.as (t := 32) (u := .int .i64 ((tkVal most l : Nat) : Int)) rfl (i64_nat rfl (by omega))
      refine from_pures HF 1 5 (j := 6) [(4, .int .i64 ((tkVal most l : Nat) : Int))] (by kernel_rfl) rfl ?_; clear HF; intro a HF
      refine from_done rfl ?_
      replace HF := HF.sub (σ' := [(4, .int .i64 ((tkVal most l : Nat) : Int)), (5, .int .u64 ((vread l).1 : Int)), (0, .int .i64 (most : Int)), (1, .pointer (some ⟨gb, 0, none⟩))]) (by kernel_rfl)
      refine wp_ret ?_
      replace HM := HM.picksT (fs' := (.blk gb #[.slice (if c = (vread l).2.1 then A else A.map (·.add ((vread l).2.1 * 1))) (n - (vread l).2.1) (c - (vread l).2.1)] 22 :: .blk gk #[.bool (decide ((((vread l).1 : Int) : Int) ≤ ((most : Int) : Int)))] 4 :: fr)) 2 [0, 1] (by decide) (by decide) rfl
      exact ret1 rfl HF (.tmp HF rfl) (takeIs_of hr hc (by rw [hb15, Bool.true_and]; unfold tkOk; rw [Bool.eq_iff_iff]; simp only [decide_eq_true_eq]; omega) hln HM)
    · have HF := HF.as (t := 19) (u := .bool false) rfl (by rw [hb19])
      have hd19 := ne_of_beq_false hb19
      refine from_pures HF 5 6 (j := 11) [(24, .bool false), (23, undef), (22, undef), (21, undef), (20, undef)] (by kernel_rfl) rfl ?_; clear HF; intro a HF
      refine from_op HF (i := 11) rfl rfl ?_
      refine e_store HF HM (i := 1) (cs := #[.bool okb]) rfl rfl rfl rfl (by kernel_rfl) rfl rfl (by simp) ?_
      clear HM; intro w2_11 HM
      refine from_done rfl ?_
      replace HF := HF.sub (σ' := [(6, .int .i64 ((vread l).2.1 : Int)), (5, .int .u64 ((vread l).1 : Int)), (4, .int .i64 0), (0, .int .i64 (most : Int)), (1, .pointer (some ⟨gb, 0, none⟩))]) (by kernel_rfl)
      refine wp_seq ?_
      refine from_start ?_
      refine from_yl (S := fun wS => Mem W wS _) HF HM (i := 0) rfl rfl (d := 25) rfl (by decide) (v := .slice A n c) (Yl.load1 rfl rfl (by kernel_rfl) (fun _ h => h.cell (i := 0) rfl rfl)) ?_; clear HF; intro a HF
      refine from_pures HF 1 1 (j := 2) [(26, .int .i64 ((vread l).2.1 : Int))] (by kernel_rfl) rfl ?_; clear HF; intro a HF
      refine from_yl (S := fun wS => Mem W wS _) HF HM (i := 2) rfl rfl (d := 27) rfl (by decide) (v := .slice (if c = (vread l).2.1 then A else A.map (·.add ((vread l).2.1 * 1))) (n - (vread l).2.1) (c - (vread l).2.1)) (Yl.sliceFrom ei_u8 (j := (vread l).2.1) rfl rfl rfl (by omega)) ?_; clear HF; intro a HF
      refine from_op HF (i := 3) rfl rfl ?_
      refine e_store HF HM (i := 0) (cs := #[.slice A n c]) rfl rfl rfl rfl (by kernel_rfl) rfl rfl (by simp) ?_
      clear HM; intro w3_3 HM
      refine from_done rfl ?_
      replace HF := HF.sub (σ' := [(5, .int .u64 ((vread l).1 : Int)), (4, .int .i64 0), (0, .int .i64 (most : Int)), (1, .pointer (some ⟨gb, 0, none⟩))]) (by kernel_rfl)
      refine wp_seq ?_
      refine from_start ?_
      refine from_pures HF 3 0 (j := 3) [(30, .int .u64 (IntKind.u64.wrap (most : Int))), (29, .int .i64 (most : Int)), (28, .int .u64 ((vread l).1 : Int))] (by kernel_rfl) rfl ?_; clear HF; intro a HF
      replace HF := HF.as (t := 30) (u := .int .u64 (most : Int)) rfl (u64_nat rfl (by omega))
      refine from_yl (S := fun wS => Mem W wS _) HF HM (i := 3) rfl rfl (d := 31) rfl (by decide) (v := .int .u64 (if ((most : Int) : Int) < (((vread l).1 : Int) : Int) then (most : Int) else ((vread l).1 : Int))) (Yl.min rfl rfl rfl) ?_; clear HF; intro a HF
      replace HF := HF.as (t := 31) (u := .int .u64 (tkVal most l : Int)) rfl (by rw [tkVal_min])
      refine from_pures HF 1 4 (j := 5) [(32, .int .i64 (IntKind.i64.wrap (tkVal most l : Int)))] (by kernel_rfl) rfl ?_; clear HF; intro a HF
      replace HF := HF.as (t := 32) (u := .int .i64 ((tkVal most l : Nat) : Int)) rfl (i64_nat rfl (by omega))
      refine from_pures HF 1 5 (j := 6) [(4, .int .i64 ((tkVal most l : Nat) : Int))] (by kernel_rfl) rfl ?_; clear HF; intro a HF
      refine from_done rfl ?_
      replace HF := HF.sub (σ' := [(4, .int .i64 ((tkVal most l : Nat) : Int)), (5, .int .u64 ((vread l).1 : Int)), (0, .int .i64 (most : Int)), (1, .pointer (some ⟨gb, 0, none⟩))]) (by kernel_rfl)
      refine wp_ret ?_
      replace HM := HM.picksT (fs' := (.blk gb #[.slice (if c = (vread l).2.1 then A else A.map (·.add ((vread l).2.1 * 1))) (n - (vread l).2.1) (c - (vread l).2.1)] 22 :: .blk gk #[.bool false] 4 :: fr)) 2 [0, 1] (by decide) (by decide) rfl
      exact ret1 rfl HF (.tmp HF rfl) (takeIs_of hr hc (by rw [tkOk_false (by omega), Bool.and_false]) hln HM)
  · have HF := HF.as (t := 15) (u := .bool false) rfl (by rw [hb15])
    refine from_pures HF 9 2 (j := 11) [(24, .bool false), (23, undef), (22, undef), (21, undef), (20, undef), (19, .bool false), (18, .bool false), (17, undef), (16, undef)] (by kernel_rfl) rfl ?_; clear HF; intro a HF
    refine from_op HF (i := 11) rfl rfl ?_
    refine e_store HF HM (i := 1) (cs := #[.bool okb]) rfl rfl rfl rfl (by kernel_rfl) rfl rfl (by simp) ?_
    clear HM; intro w2_11 HM
    refine from_done rfl ?_
    replace HF := HF.sub (σ' := [(6, .int .i64 ((vread l).2.1 : Int)), (5, .int .u64 ((vread l).1 : Int)), (4, .int .i64 0), (0, .int .i64 (most : Int)), (1, .pointer (some ⟨gb, 0, none⟩))]) (by kernel_rfl)
    refine wp_seq ?_
    refine from_start ?_
    refine from_yl (S := fun wS => Mem W wS _) HF HM (i := 0) rfl rfl (d := 25) rfl (by decide) (v := .slice A n c) (Yl.load1 rfl rfl (by kernel_rfl) (fun _ h => h.cell (i := 0) rfl rfl)) ?_; clear HF; intro a HF
    refine from_pures HF 1 1 (j := 2) [(26, .int .i64 ((vread l).2.1 : Int))] (by kernel_rfl) rfl ?_; clear HF; intro a HF
    refine from_yl (S := fun wS => Mem W wS _) HF HM (i := 2) rfl rfl (d := 27) rfl (by decide) (v := .slice (if c = (vread l).2.1 then A else A.map (·.add ((vread l).2.1 * 1))) (n - (vread l).2.1) (c - (vread l).2.1)) (Yl.sliceFrom ei_u8 (j := (vread l).2.1) rfl rfl rfl (by omega)) ?_; clear HF; intro a HF
    refine from_op HF (i := 3) rfl rfl ?_
    refine e_store HF HM (i := 0) (cs := #[.slice A n c]) rfl rfl rfl rfl (by kernel_rfl) rfl rfl (by simp) ?_
    clear HM; intro w3_3 HM
    refine from_done rfl ?_
    replace HF := HF.sub (σ' := [(5, .int .u64 ((vread l).1 : Int)), (4, .int .i64 0), (0, .int .i64 (most : Int)), (1, .pointer (some ⟨gb, 0, none⟩))]) (by kernel_rfl)
    refine wp_seq ?_
    refine from_start ?_
    refine from_pures HF 3 0 (j := 3) [(30, .int .u64 (IntKind.u64.wrap (most : Int))), (29, .int .i64 (most : Int)), (28, .int .u64 ((vread l).1 : Int))] (by kernel_rfl) rfl ?_; clear HF; intro a HF
    replace HF := HF.as (t := 30) (u := .int .u64 (most : Int)) rfl (u64_nat rfl (by omega))
    refine from_yl (S := fun wS => Mem W wS _) HF HM (i := 3) rfl rfl (d := 31) rfl (by decide) (v := .int .u64 (if ((most : Int) : Int) < (((vread l).1 : Int) : Int) then (most : Int) else ((vread l).1 : Int))) (Yl.min rfl rfl rfl) ?_; clear HF; intro a HF
    replace HF := HF.as (t := 31) (u := .int .u64 (tkVal most l : Int)) rfl (by rw [tkVal_min])
    refine from_pures HF 1 4 (j := 5) [(32, .int .i64 (IntKind.i64.wrap (tkVal most l : Int)))] (by kernel_rfl) rfl ?_; clear HF; intro a HF
    replace HF := HF.as (t := 32) (u := .int .i64 ((tkVal most l : Nat) : Int)) rfl (i64_nat rfl (by omega))
    refine from_pures HF 1 5 (j := 6) [(4, .int .i64 ((tkVal most l : Nat) : Int))] (by kernel_rfl) rfl ?_; clear HF; intro a HF
    refine from_done rfl ?_
    replace HF := HF.sub (σ' := [(4, .int .i64 ((tkVal most l : Nat) : Int)), (5, .int .u64 ((vread l).1 : Int)), (0, .int .i64 (most : Int)), (1, .pointer (some ⟨gb, 0, none⟩))]) (by kernel_rfl)
    refine wp_ret ?_
    replace HM := HM.picksT (fs' := (.blk gb #[.slice (if c = (vread l).2.1 then A else A.map (·.add ((vread l).2.1 * 1))) (n - (vread l).2.1) (c - (vread l).2.1)] 22 :: .blk gk #[.bool false] 4 :: fr)) 2 [0, 1] (by decide) (by decide) rfl
    exact ret1 rfl HF (.tmp HF rfl) (takeIs_of hr hc (by rw [hb15, Bool.false_and]) hln HM)
end Go.Proofs.YtjpielapplglmaaDoor

/- Blocks: parse: the walk. -/
set_option linter.all false
namespace Go.Proofs.YtjpielapplglmaaDoor
open Go.RowKit
theorem parseR1 {l : List Nat} {es : List Ev} {L er : Nat} (h3 : parse3 l = true) (h0 : 0 < tkVal 4096 (tkRest (tkRest l)))
    (hq : readR ⟨(tkVal 281474976710656 (tkRest (tkRest (tkRest l))) : Int), (tkVal 281474976710656 (tkRest (tkRest (tkRest (tkRest l)))) : Int)⟩ (tkVal 63 l) (tkVal 4096 (tkRest (tkRest l)) : Int) (tkRest (tkRest (tkRest (tkRest (tkRest l))))) = (es, L, er)) (her : er = 0) :
    parseEvs l = parseRows (tkVal 63 l) (tkVal 281474976710656 (tkRest l)) (tkRest (tkRest (tkRest l))) (es, L, 0) := by
  rw [parseEvs_full h3 h0 hq, her]
set_option maxRecDepth 100000 in
set_option maxHeartbeats 4000000 in
theorem parse_any (k : Nat) (hk : k = 1 ∨ k = 2) (A : Option Addr) (n c : Nat) (l : List Nat) (B : Nat) (w : World) (hL : LaidX B w) (hB : B ≤ w.heap.size) (hr : Rd w w.heap.size 1 A n (l.map B8)) (hc : n ≤ c) (hln : n = l.length) (hn : n ≤ 100000000) (hl : ∀ b ∈ l, b < 256) :
    Calls Tryd.prog 36 #[.int .u8 (k : Int), .slice A n c] w (ParseIs w (parseR k l)) := by
  refine calls_enter (vs := [.int .u8 (k : Int), .slice A n c]) Tryd.func36 rfl rfl (by kernel_rfl) (σ0 := [(0, .int .u8 (k : Int)), (1, .slice A n c)]) rfl ?_
  intro a HF
  have HM := Mem.start w
  refine wp_seq ?_
  refine from_start ?_
  refine from_op HF (i := 0) rfl rfl ?_
  refine e_box HF HM (cs := #[.slice A n c]) rfl rfl rfl rfl (by decide) ?_
  clear HF HM; intro a w3 g3 HF HM
  refine from_op HF (i := 1) rfl rfl ?_
  refine e_alloc HF HM (cs := #[.int .u8 0, .int .u8 0, .int .i64 0, .int .i64 0, .slice none 0 0]) rfl (by kernel_rfl) rfl (by decide) ?_
  clear HF HM; intro a w4 g4 HF HM
  refine from_pures HF 1 2 (j := 3) [(5, .bool false)] (by kernel_rfl) rfl ?_; clear HF; intro a HF
  refine from_done rfl ?_
  replace HF := HF.sub (σ' := [(5, .bool false), (4, .pointer (some ⟨g4, 0, none⟩)), (3, .pointer (some ⟨g3, 0, none⟩)), (0, .int .u8 (k : Int))]) (by kernel_rfl)
  refine wp_seq ?_
  refine from_start ?_
  refine from_op HF (i := 0) rfl rfl ?_
  refine e_alloc HF HM (cs := #[.bool false]) rfl (by kernel_rfl) rfl (by decide) ?_
  clear HF HM; intro a w6 g6 HF HM
  refine from_op HF (i := 1) rfl rfl ?_
  refine e_store HF HM (i := 0) (cs := #[.bool false]) rfl rfl rfl rfl (by kernel_rfl) rfl rfl (by simp) ?_
  clear HM; intro w1_1 HM
  refine from_done rfl ?_
  refine wp_seq ?_
  refine from_start ?_
  refine from_yl (S := fun wS => Mem w wS _) HF HM (i := 0) rfl rfl (d := 14) rfl (by decide) (v := .func (.func 59) #[] #[.pointer (some ⟨g3, 0, none⟩), .pointer (some ⟨g6, 0, none⟩)]) (Yl.makeFunc (fst := []) (caps := [.pointer (some ⟨g3, 0, none⟩), .pointer (some ⟨g6, 0, none⟩)]) rfl rfl rfl) ?_; clear HF; intro a HF
  refine from_pures HF 1 1 (j := 2) [(7, .func (.func 59) #[] #[.pointer (some ⟨g3, 0, none⟩), .pointer (some ⟨g6, 0, none⟩)])] (by kernel_rfl) rfl ?_; clear HF; intro a HF
  refine from_done rfl ?_
  replace HF := HF.sub (σ' := [(7, .func (.func 59) #[] #[.pointer (some ⟨g3, 0, none⟩), .pointer (some ⟨g6, 0, none⟩)]), (6, .pointer (some ⟨g6, 0, none⟩)), (5, .bool false), (4, .pointer (some ⟨g4, 0, none⟩)), (3, .pointer (some ⟨g3, 0, none⟩)), (0, .int .u8 (k : Int))]) (by kernel_rfl)
  refine wp_seq ?_
  refine from_start ?_
  refine from_pures HF 1 0 (j := 1) [(15, .int .u8 (k : Int))] (by kernel_rfl) rfl ?_; clear HF; intro a HF
  refine from_yl (S := fun wS => Mem w wS _) HF HM (i := 1) rfl rfl (d := 16) rfl (by decide) (v := .agg #[.int .u8 (k : Int), .int .u8 0, .int .i64 0, .int .i64 0, .slice none 0 0]) (Yl.build (vs := [(0, .int .u8 (k : Int))]) rfl (by kernel_rfl) (by kernel_rfl)) ?_; clear HF; intro a HF
  refine from_op HF (i := 2) rfl rfl ?_
  refine e_alloc HF HM (cs := #[.int .u8 0, .int .u8 0, .int .i64 0, .int .i64 0, .slice none 0 0]) rfl (by kernel_rfl) rfl (by decide) ?_
  clear HF HM; intro a w8 g8 HF HM
  refine from_op HF (i := 3) rfl rfl ?_
  refine e_storeAll HF HM (i := 0) (cs := #[.int .u8 0, .int .u8 0, .int .i64 0, .int .i64 0, .slice none 0 0]) (ds := #[.int .u8 (k : Int), .int .u8 0, .int .i64 0, .int .i64 0, .slice none 0 0]) rfl rfl rfl rfl si_bk rfl rfl (by simp [Value.oneCell']) rfl ?_
  clear HM; intro w3_3 HM
  refine from_done rfl ?_
  replace HF := HF.sub (σ' := [(8, .pointer (some ⟨g8, 0, none⟩)), (7, .func (.func 59) #[] #[.pointer (some ⟨g3, 0, none⟩), .pointer (some ⟨g6, 0, none⟩)]), (6, .pointer (some ⟨g6, 0, none⟩)), (5, .bool false), (4, .pointer (some ⟨g4, 0, none⟩)), (3, .pointer (some ⟨g3, 0, none⟩)), (0, .int .u8 (k : Int))]) (by kernel_rfl)
  refine wp_seq ?_
  refine wp_seq ?_
  refine from_start ?_
  refine from_pures HF 2 0 (j := 2) [(18, .bool (((k : Int) : Int) == (2 : Int))), (17, .int .u8 (k : Int))] (by kernel_rfl) rfl ?_; clear HF; intro a HF
  refine from_done rfl ?_
  replace HF := HF.sub (σ' := [(18, .bool (((k : Int) : Int) == (2 : Int))), (8, .pointer (some ⟨g8, 0, none⟩)), (7, .func (.func 59) #[] #[.pointer (some ⟨g3, 0, none⟩), .pointer (some ⟨g6, 0, none⟩)]), (6, .pointer (some ⟨g6, 0, none⟩)), (5, .bool false), (4, .pointer (some ⟨g4, 0, none⟩)), (3, .pointer (some ⟨g3, 0, none⟩)), (0, .int .u8 (k : Int))]) (by kernel_rfl)
  rcases Bool.eq_false_or_eq_true (((k : Int) : Int) == (2 : Int)) with hb18 | hb18
  · have HF := HF.as (t := 18) (u := .bool true) rfl (by rw [hb18])
    have hd18 := eq_of_beq hb18
    obtain rfl : k = 2 := by omega
    refine cond_true HF rfl ?_
    refine wp_seq ?_
    refine from_start ?_
    refine from_pures HF 1 0 (j := 1) [(19, .func (.func 59) #[] #[.pointer (some ⟨g3, 0, none⟩), .pointer (some ⟨g6, 0, none⟩)])] (by kernel_rfl) rfl ?_; clear HF; intro a HF
    refine from_op HF (i := 1) rfl rfl ?_
    replace HM := HM.picks (fs' := [.blk g3 #[.slice A n c] 22, .blk g6 #[.bool true] 4, .blk g8 #[.int .u8 ((2 : Nat) : Int), .int .u8 0, .int .i64 0, .int .i64 0, .slice none 0 0] 37, .blk g4 #[.int .u8 0, .int .u8 0, .int .i64 0, .int .i64 0, .slice none 0 0] 37]) [3, 1, 0, 2] (by decide) rfl
    have hl1 := tk_rest_lt hl
    refine e_callv HF (f := 59) (vs := [.int .i64 281474976710657]) (fst := []) (caps := [.pointer (some ⟨g3, 0, none⟩), .pointer (some ⟨g6, 0, none⟩)]) rfl rfl rfl (by kernel_rfl) rfl (by decide) (ptake_any w _ g3 g6 A n c l true 281474976710657 [.blk g8 #[.int .u8 ((2 : Nat) : Int), .int .u8 0, .int .i64 0, .int .i64 0, .slice none 0 0] 37, .blk g4 #[.int .u8 0, .int .u8 0, .int .i64 0, .int .i64 0, .slice none 0 0] 37] hl hln (by omega) hr hc (by omega) HM) ?_
    rintro _ w20 ⟨rfl, Aq1, cq1, hr1, hc1, hm⟩
    refine ⟨_, rfl, ?_⟩
    replace HM := hm
    clear HF; intro a HF
    have ht0 := tkVal_le 281474976710657 l
    have hs0 := tkRest_le l
    refine from_pures HF 1 2 (j := 3) [(21, .pointer (some ⟨g8, 3, none⟩))] (by kernel_rfl) rfl ?_; clear HF; intro a HF
    refine from_op HF (i := 3) rfl rfl ?_
    refine e_store HF HM (i := 2) (cs := #[.int .u8 ((2 : Nat) : Int), .int .u8 0, .int .i64 0, .int .i64 0, .slice none 0 0]) rfl rfl rfl rfl (by kernel_rfl) rfl rfl (by simp) ?_
    clear HM; intro w5_3 HM
    refine from_done rfl ?_
    replace HF := HF.sub (σ' := [(18, .bool true), (8, .pointer (some ⟨g8, 0, none⟩)), (7, .func (.func 59) #[] #[.pointer (some ⟨g3, 0, none⟩), .pointer (some ⟨g6, 0, none⟩)]), (6, .pointer (some ⟨g6, 0, none⟩)), (5, .bool false), (4, .pointer (some ⟨g4, 0, none⟩)), (3, .pointer (some ⟨g3, 0, none⟩)), (0, .int .u8 ((2 : Nat) : Int))]) (by kernel_rfl)
    refine cut_seq (fun aS wS => Fr aS 99 [] [(5, .bool ((parseEnd l).isSome)), (18, .bool true), (8, .pointer (some ⟨g8, 0, none⟩)), (7, .func (.func 59) #[] #[.pointer (some ⟨g3, 0, none⟩), .pointer (some ⟨g6, 0, none⟩)]), (6, .pointer (some ⟨g6, 0, none⟩)), (4, .pointer (some ⟨g4, 0, none⟩)), (3, .pointer (some ⟨g3, 0, none⟩)), (0, .int .u8 ((2 : Nat) : Int))] ∧ Mem w wS [.blk g3 #[.slice Aq1 ((tkRest l).length) cq1] 22, .blk g6 #[.bool (true && tkOk 281474976710657 l)] 4, .blk g8 #[.int .u8 ((2 : Nat) : Int), .int .u8 0, .int .i64 0, .int .i64 (tkVal 281474976710657 l : Int), .slice none 0 0] 37, .blk g4 #[.int .u8 ((2 : Nat) : Int), .int .u8 0, .int .i64 0, .int .i64 (tkVal 281474976710657 l : Int), .slice none 0 0] 37]) ?_ ?_
    ·
      refine any_start (by kernel_rfl) (fun wS => Mem w wS [.blk g3 #[.slice Aq1 ((tkRest l).length) cq1] 22, .blk g6 #[.bool (true && tkOk 281474976710657 l)] 4, .blk g8 #[.int .u8 ((2 : Nat) : Int), .int .u8 0, .int .i64 0, .int .i64 (tkVal 281474976710657 l : Int), .slice none 0 0] 37]) [] ?_
      replace HM := HM.drew
      have HS := HM.picks (fs' := [.blk g3 #[.slice Aq1 ((tkRest l).length) cq1] 22, .blk g6 #[.bool (true && tkOk 281474976710657 l)] 4, .blk g8 #[.int .u8 ((2 : Nat) : Int), .int .u8 0, .int .i64 0, .int .i64 (tkVal 281474976710657 l : Int), .slice none 0 0] 37]) [0, 1, 2] (by decide) rfl
      refine any_yl HF HS (i := 0) rfl rfl (d := 22) rfl (by decide) (by kernel_rfl) (fun _ _ _ h => h) (v := .agg #[.int .u8 ((2 : Nat) : Int), .int .u8 0, .int .i64 0, .int .i64 (tkVal 281474976710657 l : Int), .slice none 0 0]) (Yl.loadS rfl rfl si_bk rfl (fun _ h => range_of_block (h.blk (i := 2) rfl))) ?_; clear HF; intro a HF
      refine any_yl HF HS (i := 1) rfl rfl (d := 23) rfl (by decide) (by kernel_rfl) (fun _ _ _ h => h) (v := .bool (true && tkOk 281474976710657 l)) (Yl.load1 rfl rfl (by kernel_rfl) (fun _ h => h.cell (i := 1) rfl rfl)) ?_; clear HF; intro a HF
      refine any_pures HF (fun _ => HS) (fun _ _ d _ _ h => by cases d <;> exact h) [2] #[true, true, true, false, false, false, false, false, false, false, false, false, false] [(24, .bool (true && tkOk 281474976710657 l))] (by kernel_rfl) ?_; clear HF; intro a HF
      rcases Bool.eq_false_or_eq_true ((true && tkOk 281474976710657 l)) with hb24 | hb24
      · have HF := HF.as (t := 24) (u := .bool true) rfl (by rw [hb24])
        refine any_yl HF HS (i := 3) rfl rfl (d := 25) rfl (by decide) (by kernel_rfl) (fun _ _ _ h => h) (v := .slice Aq1 ((tkRest l).length) cq1) (Yl.load1 rfl rfl (by kernel_rfl) (fun _ h => h.cell (i := 0) rfl rfl)) ?_; clear HF; intro a HF
        refine any_yl HF HS (i := 4) rfl rfl (d := 26) rfl (by decide) (by kernel_rfl) (fun _ _ _ h => h) (v := .int .i64 (((tkRest l).length : Nat) : Int)) (Yl.len rfl rfl (by kernel_rfl)) ?_; clear HF; intro a HF
        refine any_pures HF (fun _ => HS) (fun _ _ d _ _ h => by cases d <;> exact h) [5, 6, 7] #[true, true, true, true, true, true, true, true, false, false, false, false, false] [(29, .bool (((((tkRest l).length : Nat) : Int) : Int) == (0 : Int))), (28, .bool (((((tkRest l).length : Nat) : Int) : Int) == (0 : Int))), (27, .bool (((((tkRest l).length : Nat) : Int) : Int) == (0 : Int)))] (by kernel_rfl) ?_; clear HF; intro a HF
        rcases Bool.eq_false_or_eq_true (((((tkRest l).length : Nat) : Int) : Int) == (0 : Int)) with hb29 | hb29
        · have HF := HF.as (t := 29) (u := .bool true) rfl (by rw [hb29])
          have hd29 := eq_of_beq hb29
          refine any_yl HF HS (i := 8) rfl rfl (d := 30) rfl (by decide) (by kernel_rfl) (fun _ _ _ h => h) (v := .agg #[.int .u8 ((2 : Nat) : Int), .int .u8 0, .int .i64 0, .int .i64 (tkVal 281474976710657 l : Int), .slice none 0 0]) (Yl.loadS rfl rfl si_bk rfl (fun _ h => range_of_block (h.blk (i := 2) rfl))) ?_; clear HF; intro a HF
          refine any_all [9] (by kernel_rfl) rfl ?_
          refine all_cons ?_ all_nil
          refine any_op HF (i := 9) rfl rfl ?_
          refine e_call HF (vs := [.agg #[.int .u8 ((2 : Nat) : Int), .int .u8 0, .int .i64 0, .int .i64 (tkVal 281474976710657 l : Int), .slice none 0 0]]) rfl (by kernel_rfl) (by kernel_rfl) rfl (by decide) (fits_any ⟨2, 0, 0, (tkVal 281474976710657 l : Int), []⟩ (endOk ht0) none 0 B _ (hL.mem HM hB) (HM.le hB) Rd.nil (by show 0 ≤ _; omega)) ?_
          rintro _ w31 ⟨rfl, hbw⟩
          refine ⟨_, rfl, ?_⟩
          replace HM := HM.call hbw
          clear HF; intro a HF
          refine keepS (HM.picks [0, 1, 2] (by decide) rfl) (fun HS => ?_)
          refine any_pures HF (fun _ => HS) (fun _ _ d _ _ h => by cases d <;> exact h) [10] #[true, true, true, true, true, true, true, true, true, true, true, false, false] [(32, .bool (Bk.fits ⟨2, 0, 0, (tkVal 281474976710657 l : Int), []⟩))] (by kernel_rfl) ?_; clear HF; intro a HF
          refine any_all [11] (by kernel_rfl) rfl ?_
          refine all_cons ?_ all_nil
          refine any_op HF (i := 11) rfl rfl ?_
          refine e_storeAll HF HM (i := 3) (cs := #[.int .u8 0, .int .u8 0, .int .i64 0, .int .i64 0, .slice none 0 0]) (ds := #[.int .u8 ((2 : Nat) : Int), .int .u8 0, .int .i64 0, .int .i64 (tkVal 281474976710657 l : Int), .slice none 0 0]) rfl rfl rfl rfl si_bk rfl rfl (by simp [Value.oneCell']) rfl ?_
          clear HM; intro w6_11 HM
          refine keepS (HM.picks [0, 1, 2] (by decide) rfl) (fun HS => ?_)
          refine any_pures HF (fun _ => HS) (fun _ _ d _ _ h => by cases d <;> exact h) [12] #[true, true, true, true, true, true, true, true, true, true, true, true, true] [(5, .bool (Bk.fits ⟨2, 0, 0, (tkVal 281474976710657 l : Int), []⟩))] (by kernel_rfl) ?_; clear HF; intro a HF
          refine any_done (by kernel_rfl) ?_
          replace HF := HF.sub (σ' := [(5, .bool (Bk.fits ⟨2, 0, 0, (tkVal 281474976710657 l : Int), []⟩)), (18, .bool true), (8, .pointer (some ⟨g8, 0, none⟩)), (7, .func (.func 59) #[] #[.pointer (some ⟨g3, 0, none⟩), .pointer (some ⟨g6, 0, none⟩)]), (6, .pointer (some ⟨g6, 0, none⟩)), (4, .pointer (some ⟨g4, 0, none⟩)), (3, .pointer (some ⟨g3, 0, none⟩)), (0, .int .u8 ((2 : Nat) : Int))]) (by kernel_rfl)
          have HF := HF.as (t := 5) (u := .bool ((parseEnd l).isSome)) rfl (congrArg Value.bool (by rw [parseEnd_is, show tkOk 281474976710657 l = true by simpa using hb24, decide_eq_true (by omega), Bool.true_and, Bool.true_and]))
          exact ⟨HF.sub (by kernel_rfl), HM.picks [0, 1, 2, 3] (by decide) rfl⟩
        · have HF := HF.as (t := 29) (u := .bool false) rfl (by rw [hb29])
          have hd29 := ne_of_beq_false hb29
          refine any_pures HF (fun _ => HS) (fun _ _ d _ _ h => by cases d <;> exact h) [8, 9, 10] #[true, true, true, true, true, true, true, true, true, true, true, false, false] [(32, .bool false), (31, undef), (30, undef)] (by kernel_rfl) ?_; clear HF; intro a HF
          refine any_all [11] (by kernel_rfl) rfl ?_
          refine all_cons ?_ all_nil
          refine any_op HF (i := 11) rfl rfl ?_
          refine e_storeAll HF HM (i := 3) (cs := #[.int .u8 0, .int .u8 0, .int .i64 0, .int .i64 0, .slice none 0 0]) (ds := #[.int .u8 ((2 : Nat) : Int), .int .u8 0, .int .i64 0, .int .i64 (tkVal 281474976710657 l : Int), .slice none 0 0]) rfl rfl rfl rfl si_bk rfl rfl (by simp [Value.oneCell']) rfl ?_
          clear HM; intro w6_11 HM
          refine keepS (HM.picks [0, 1, 2] (by decide) rfl) (fun HS => ?_)
          refine any_pures HF (fun _ => HS) (fun _ _ d _ _ h => by cases d <;> exact h) [12] #[true, true, true, true, true, true, true, true, true, true, true, true, true] [(5, .bool false)] (by kernel_rfl) ?_; clear HF; intro a HF
          refine any_done (by kernel_rfl) ?_
          replace HF := HF.sub (σ' := [(5, .bool false), (18, .bool true), (8, .pointer (some ⟨g8, 0, none⟩)), (7, .func (.func 59) #[] #[.pointer (some ⟨g3, 0, none⟩), .pointer (some ⟨g6, 0, none⟩)]), (6, .pointer (some ⟨g6, 0, none⟩)), (4, .pointer (some ⟨g4, 0, none⟩)), (3, .pointer (some ⟨g3, 0, none⟩)), (0, .int .u8 ((2 : Nat) : Int))]) (by kernel_rfl)
          have HF := HF.as (t := 5) (u := .bool ((parseEnd l).isSome)) rfl (congrArg Value.bool (by rw [parseEnd_is, decide_eq_false (by omega), Bool.false_and, Bool.and_false]))
          exact ⟨HF.sub (by kernel_rfl), HM.picks [0, 1, 2, 3] (by decide) rfl⟩
      · have HF := HF.as (t := 24) (u := .bool false) rfl (by rw [hb24])
        refine any_pures HF (fun _ => HS) (fun _ _ d _ _ h => by cases d <;> exact h) [3, 4, 5, 6, 7, 8, 9, 10] #[true, true, true, true, true, true, true, true, true, true, true, false, false] [(32, .bool false), (31, undef), (30, undef), (29, .bool false), (28, .bool false), (27, undef), (26, undef), (25, undef)] (by kernel_rfl) ?_; clear HF; intro a HF
        refine any_all [11] (by kernel_rfl) rfl ?_
        refine all_cons ?_ all_nil
        refine any_op HF (i := 11) rfl rfl ?_
        refine e_storeAll HF HM (i := 3) (cs := #[.int .u8 0, .int .u8 0, .int .i64 0, .int .i64 0, .slice none 0 0]) (ds := #[.int .u8 ((2 : Nat) : Int), .int .u8 0, .int .i64 0, .int .i64 (tkVal 281474976710657 l : Int), .slice none 0 0]) rfl rfl rfl rfl si_bk rfl rfl (by simp [Value.oneCell']) rfl ?_
        clear HM; intro w6_11 HM
        refine keepS (HM.picks [0, 1, 2] (by decide) rfl) (fun HS => ?_)
        refine any_pures HF (fun _ => HS) (fun _ _ d _ _ h => by cases d <;> exact h) [12] #[true, true, true, true, true, true, true, true, true, true, true, true, true] [(5, .bool false)] (by kernel_rfl) ?_; clear HF; intro a HF
        refine any_done (by kernel_rfl) ?_
        replace HF := HF.sub (σ' := [(5, .bool false), (18, .bool true), (8, .pointer (some ⟨g8, 0, none⟩)), (7, .func (.func 59) #[] #[.pointer (some ⟨g3, 0, none⟩), .pointer (some ⟨g6, 0, none⟩)]), (6, .pointer (some ⟨g6, 0, none⟩)), (4, .pointer (some ⟨g4, 0, none⟩)), (3, .pointer (some ⟨g3, 0, none⟩)), (0, .int .u8 ((2 : Nat) : Int))]) (by kernel_rfl)
        have HF := HF.as (t := 5) (u := .bool ((parseEnd l).isSome)) rfl (congrArg Value.bool (by rw [parseEnd_is, show tkOk 281474976710657 l = false by simpa using hb24]; rfl))
        exact ⟨HF.sub (by kernel_rfl), HM.picks [0, 1, 2, 3] (by decide) rfl⟩
    clear HF HM; rintro a w6 ⟨HF, HM⟩
    refine wp_ret ?_
    rcases Bool.eq_false_or_eq_true ((parseEnd l).isSome) with hb5 | hb5
    · have HF := HF.as (t := 5) (u := .bool true) rfl (by rw [hb5])
      have hfin := hb5
      exact ret2 rfl HF (.cellS (i := 3) HF HM rfl rfl si_bk rfl) (.tmp HF rfl) (parseIs_some (b := ⟨2, 0, 0, (tkVal 281474976710657 l : Int), []⟩) (A := none) (c := 0) (by rw [parseR_end]; exact parseEnd_val hfin) (World.ownsRow_nil _ _ _ _) (Nat.le_refl _) HM.below)
    · have HF := HF.as (t := 5) (u := .bool false) rfl (by rw [hb5])
      have hfin := hb5
      exact ret2 rfl HF (.cellS (i := 3) HF HM rfl rfl si_bk rfl) (.tmp HF rfl) (parseIs_none (by rw [parseR_end]; exact Option.not_isSome_iff_eq_none.1 (by rw [hfin]; decide)) rfl (by simp [Value.oneCell']) HM.below)
  · have HF := HF.as (t := 18) (u := .bool false) rfl (by rw [hb18])
    have hd18 := ne_of_beq_false hb18
    obtain rfl : k = 1 := by omega
    refine cond_false HF rfl ?_
    refine wp_skip ?_
    refine wp_seq ?_
    refine from_start ?_
    refine from_pures HF 1 0 (j := 1) [(33, .func (.func 59) #[] #[.pointer (some ⟨g3, 0, none⟩), .pointer (some ⟨g6, 0, none⟩)])] (by kernel_rfl) rfl ?_; clear HF; intro a HF
    refine from_op HF (i := 1) rfl rfl ?_
    replace HM := HM.picks (fs' := [.blk g3 #[.slice A n c] 22, .blk g6 #[.bool true] 4, .blk g8 #[.int .u8 ((1 : Nat) : Int), .int .u8 0, .int .i64 0, .int .i64 0, .slice none 0 0] 37, .blk g4 #[.int .u8 0, .int .u8 0, .int .i64 0, .int .i64 0, .slice none 0 0] 37]) [3, 1, 0, 2] (by decide) rfl
    have hl1 := tk_rest_lt hl
    refine e_callv HF (f := 59) (vs := [.int .i64 63]) (fst := []) (caps := [.pointer (some ⟨g3, 0, none⟩), .pointer (some ⟨g6, 0, none⟩)]) rfl rfl rfl (by kernel_rfl) rfl (by decide) (ptake_any w _ g3 g6 A n c l true 63 [.blk g8 #[.int .u8 ((1 : Nat) : Int), .int .u8 0, .int .i64 0, .int .i64 0, .slice none 0 0] 37, .blk g4 #[.int .u8 0, .int .u8 0, .int .i64 0, .int .i64 0, .slice none 0 0] 37] hl hln (by omega) hr hc (by omega) HM) ?_
    rintro _ w34 ⟨rfl, Aq1, cq1, hr1, hc1, hm⟩
    refine ⟨_, rfl, ?_⟩
    replace HM := hm
    clear HF; intro a HF
    have ht0 := tkVal_le 63 l
    have hs0 := tkRest_le l
    refine from_pures HF 1 2 (j := 3) [(35, .int .u8 (IntKind.u8.wrap (tkVal 63 l : Int)))] (by kernel_rfl) rfl ?_; clear HF; intro a HF
    replace HF := HF.as (t := 35) (u := .int .u8 (tkVal 63 l : Int)) rfl (u8_nat rfl (by omega))
    refine from_pures HF 1 3 (j := 4) [(36, .func (.func 59) #[] #[.pointer (some ⟨g3, 0, none⟩), .pointer (some ⟨g6, 0, none⟩)])] (by kernel_rfl) rfl ?_; clear HF; intro a HF
    refine from_op HF (i := 4) rfl rfl ?_
    replace HM := HM.picks (fs' := [.blk g3 #[.slice Aq1 ((tkRest l).length) cq1] 22, .blk g6 #[.bool (true && tkOk 63 l)] 4, .blk g8 #[.int .u8 ((1 : Nat) : Int), .int .u8 0, .int .i64 0, .int .i64 0, .slice none 0 0] 37, .blk g4 #[.int .u8 0, .int .u8 0, .int .i64 0, .int .i64 0, .slice none 0 0] 37]) [0, 1, 2, 3] (by decide) rfl
    have hl2 := tk_rest_lt hl1
    refine e_callv HF (f := 59) (vs := [.int .i64 281474976710656]) (fst := []) (caps := [.pointer (some ⟨g3, 0, none⟩), .pointer (some ⟨g6, 0, none⟩)]) rfl rfl rfl (by kernel_rfl) rfl (by decide) (ptake_any w _ g3 g6 Aq1 ((tkRest l).length) cq1 (tkRest l) (true && tkOk 63 l) 281474976710656 [.blk g8 #[.int .u8 ((1 : Nat) : Int), .int .u8 0, .int .i64 0, .int .i64 0, .slice none 0 0] 37, .blk g4 #[.int .u8 0, .int .u8 0, .int .i64 0, .int .i64 0, .slice none 0 0] 37] hl1 rfl (by omega) hr1 hc1 (by omega) HM) ?_
    rintro _ w37 ⟨rfl, Aq2, cq2, hr2, hc2, hm⟩
    refine ⟨_, rfl, ?_⟩
    replace HM := hm
    clear HF; intro a HF
    have ht1 := tkVal_le 281474976710656 (tkRest l)
    have hs1 := tkRest_le (tkRest l)
    refine from_pures HF 1 5 (j := 6) [(38, .pointer (some ⟨g8, 1, none⟩))] (by kernel_rfl) rfl ?_; clear HF; intro a HF
    refine from_op HF (i := 6) rfl rfl ?_
    refine e_store HF HM (i := 2) (cs := #[.int .u8 ((1 : Nat) : Int), .int .u8 0, .int .i64 0, .int .i64 0, .slice none 0 0]) rfl rfl rfl rfl (by kernel_rfl) rfl rfl (by simp) ?_
    clear HM; intro w7_6 HM
    refine from_pures HF 1 7 (j := 8) [(39, .pointer (some ⟨g8, 2, none⟩))] (by kernel_rfl) rfl ?_; clear HF; intro a HF
    refine from_op HF (i := 8) rfl rfl ?_
    refine e_store HF HM (i := 2) (cs := #[.int .u8 ((1 : Nat) : Int), .int .u8 (tkVal 63 l : Int), .int .i64 0, .int .i64 0, .slice none 0 0]) rfl rfl rfl rfl (by kernel_rfl) rfl rfl (by simp) ?_
    clear HM; intro w7_8 HM
    refine from_done rfl ?_
    replace HF := HF.sub (σ' := [(18, .bool false), (8, .pointer (some ⟨g8, 0, none⟩)), (7, .func (.func 59) #[] #[.pointer (some ⟨g3, 0, none⟩), .pointer (some ⟨g6, 0, none⟩)]), (6, .pointer (some ⟨g6, 0, none⟩)), (5, .bool false), (4, .pointer (some ⟨g4, 0, none⟩)), (3, .pointer (some ⟨g3, 0, none⟩)), (0, .int .u8 ((1 : Nat) : Int))]) (by kernel_rfl)
    refine wp_seq ?_
    refine from_start ?_
    refine from_pures HF 1 0 (j := 1) [(40, .func (.func 59) #[] #[.pointer (some ⟨g3, 0, none⟩), .pointer (some ⟨g6, 0, none⟩)])] (by kernel_rfl) rfl ?_; clear HF; intro a HF
    refine from_op HF (i := 1) rfl rfl ?_
    replace HM := HM.picks (fs' := [.blk g3 #[.slice Aq2 ((tkRest (tkRest l)).length) cq2] 22, .blk g6 #[.bool ((true && tkOk 63 l) && tkOk 281474976710656 (tkRest l))] 4, .blk g8 #[.int .u8 ((1 : Nat) : Int), .int .u8 (tkVal 63 l : Int), .int .i64 (tkVal 281474976710656 (tkRest l) : Int), .int .i64 0, .slice none 0 0] 37, .blk g4 #[.int .u8 0, .int .u8 0, .int .i64 0, .int .i64 0, .slice none 0 0] 37]) [0, 1, 2, 3] (by decide) rfl
    have hl3 := tk_rest_lt hl2
    refine e_callv HF (f := 59) (vs := [.int .i64 4096]) (fst := []) (caps := [.pointer (some ⟨g3, 0, none⟩), .pointer (some ⟨g6, 0, none⟩)]) rfl rfl rfl (by kernel_rfl) rfl (by decide) (ptake_any w _ g3 g6 Aq2 ((tkRest (tkRest l)).length) cq2 (tkRest (tkRest l)) ((true && tkOk 63 l) && tkOk 281474976710656 (tkRest l)) 4096 [.blk g8 #[.int .u8 ((1 : Nat) : Int), .int .u8 (tkVal 63 l : Int), .int .i64 (tkVal 281474976710656 (tkRest l) : Int), .int .i64 0, .slice none 0 0] 37, .blk g4 #[.int .u8 0, .int .u8 0, .int .i64 0, .int .i64 0, .slice none 0 0] 37] hl2 rfl (by omega) hr2 hc2 (by omega) HM) ?_
    rintro _ w41 ⟨rfl, Aq3, cq3, hr3, hc3, hm⟩
    refine ⟨_, rfl, ?_⟩
    replace HM := hm
    clear HF; intro a HF
    have ht2 := tkVal_le 4096 (tkRest (tkRest l))
    have hs2 := tkRest_le (tkRest (tkRest l))
    refine from_pures HF 1 2 (j := 3) [(9, .int .i64 (tkVal 4096 (tkRest (tkRest l)) : Int))] (by kernel_rfl) rfl ?_; clear HF; intro a HF
    refine from_done rfl ?_
    replace HF := HF.sub (σ' := [(9, .int .i64 (tkVal 4096 (tkRest (tkRest l)) : Int)), (18, .bool false), (8, .pointer (some ⟨g8, 0, none⟩)), (7, .func (.func 59) #[] #[.pointer (some ⟨g3, 0, none⟩), .pointer (some ⟨g6, 0, none⟩)]), (6, .pointer (some ⟨g6, 0, none⟩)), (5, .bool false), (4, .pointer (some ⟨g4, 0, none⟩)), (3, .pointer (some ⟨g3, 0, none⟩)), (0, .int .u8 ((1 : Nat) : Int))]) (by kernel_rfl)
    refine wp_seq ?_
    refine wp_seq ?_
    refine from_start ?_
    refine from_yl (S := fun wS => Mem w wS _) HF HM (i := 0) rfl rfl (d := 42) rfl (by decide) (v := .bool (((true && tkOk 63 l) && tkOk 281474976710656 (tkRest l)) && tkOk 4096 (tkRest (tkRest l)))) (Yl.load1 rfl rfl (by kernel_rfl) (fun _ h => h.cell (i := 1) rfl rfl)) ?_; clear HF; intro a HF
    refine from_pures HF 1 1 (j := 2) [(43, .bool (((true && tkOk 63 l) && tkOk 281474976710656 (tkRest l)) && tkOk 4096 (tkRest (tkRest l))))] (by kernel_rfl) rfl ?_; clear HF; intro a HF
    rcases Bool.eq_false_or_eq_true ((((true && tkOk 63 l) && tkOk 281474976710656 (tkRest l)) && tkOk 4096 (tkRest (tkRest l)))) with hb43 | hb43
    · have HF := HF.as (t := 43) (u := .bool true) rfl (by rw [hb43])
      have h3 : parse3 l = true := by rw [← tk3]; exact hb43
      refine from_pures HF 3 2 (j := 5) [(46, .bool (decide (((tkVal 4096 (tkRest (tkRest l)) : Int) : Int) > (0 : Int)))), (45, .bool (decide (((tkVal 4096 (tkRest (tkRest l)) : Int) : Int) > (0 : Int)))), (44, .int .i64 (tkVal 4096 (tkRest (tkRest l)) : Int))] (by kernel_rfl) rfl ?_; clear HF; intro a HF
      refine from_done rfl ?_
      replace HF := HF.sub (σ' := [(46, .bool (decide (((tkVal 4096 (tkRest (tkRest l)) : Int) : Int) > (0 : Int)))), (9, .int .i64 (tkVal 4096 (tkRest (tkRest l)) : Int)), (18, .bool false), (8, .pointer (some ⟨g8, 0, none⟩)), (7, .func (.func 59) #[] #[.pointer (some ⟨g3, 0, none⟩), .pointer (some ⟨g6, 0, none⟩)]), (6, .pointer (some ⟨g6, 0, none⟩)), (5, .bool false), (4, .pointer (some ⟨g4, 0, none⟩)), (3, .pointer (some ⟨g3, 0, none⟩)), (0, .int .u8 ((1 : Nat) : Int))]) (by kernel_rfl)
      rcases Bool.eq_false_or_eq_true (decide (((tkVal 4096 (tkRest (tkRest l)) : Int) : Int) > (0 : Int))) with hb46 | hb46
      · have HF := HF.as (t := 46) (u := .bool true) rfl (by rw [hb46])
        have hd46 := of_decide_eq_true hb46
        refine cond_true HF rfl ?_
        refine wp_seq ?_
        refine from_start ?_
        refine from_pures HF 1 0 (j := 1) [(47, .func (.func 59) #[] #[.pointer (some ⟨g3, 0, none⟩), .pointer (some ⟨g6, 0, none⟩)])] (by kernel_rfl) rfl ?_; clear HF; intro a HF
        refine from_op HF (i := 1) rfl rfl ?_
        replace HM := HM.picks (fs' := [.blk g3 #[.slice Aq3 ((tkRest (tkRest (tkRest l))).length) cq3] 22, .blk g6 #[.bool (((true && tkOk 63 l) && tkOk 281474976710656 (tkRest l)) && tkOk 4096 (tkRest (tkRest l)))] 4, .blk g8 #[.int .u8 ((1 : Nat) : Int), .int .u8 (tkVal 63 l : Int), .int .i64 (tkVal 281474976710656 (tkRest l) : Int), .int .i64 0, .slice none 0 0] 37, .blk g4 #[.int .u8 0, .int .u8 0, .int .i64 0, .int .i64 0, .slice none 0 0] 37]) [0, 1, 2, 3] (by decide) rfl
        have hl4 := tk_rest_lt hl3
        refine e_callv HF (f := 59) (vs := [.int .i64 281474976710656]) (fst := []) (caps := [.pointer (some ⟨g3, 0, none⟩), .pointer (some ⟨g6, 0, none⟩)]) rfl rfl rfl (by kernel_rfl) rfl (by decide) (ptake_any w _ g3 g6 Aq3 ((tkRest (tkRest (tkRest l))).length) cq3 (tkRest (tkRest (tkRest l))) (((true && tkOk 63 l) && tkOk 281474976710656 (tkRest l)) && tkOk 4096 (tkRest (tkRest l))) 281474976710656 [.blk g8 #[.int .u8 ((1 : Nat) : Int), .int .u8 (tkVal 63 l : Int), .int .i64 (tkVal 281474976710656 (tkRest l) : Int), .int .i64 0, .slice none 0 0] 37, .blk g4 #[.int .u8 0, .int .u8 0, .int .i64 0, .int .i64 0, .slice none 0 0] 37] hl3 rfl (by omega) hr3 hc3 (by omega) HM) ?_
        rintro _ w48 ⟨rfl, Aq4, cq4, hr4, hc4, hm⟩
        refine ⟨_, rfl, ?_⟩
        replace HM := hm
        clear HF; intro a HF
        have ht3 := tkVal_le 281474976710656 (tkRest (tkRest (tkRest l)))
        have hs3 := tkRest_le (tkRest (tkRest (tkRest l)))
        refine from_pures HF 1 2 (j := 3) [(49, .func (.func 59) #[] #[.pointer (some ⟨g3, 0, none⟩), .pointer (some ⟨g6, 0, none⟩)])] (by kernel_rfl) rfl ?_; clear HF; intro a HF
        refine from_op HF (i := 3) rfl rfl ?_
        replace HM := HM.picks (fs' := [.blk g3 #[.slice Aq4 ((tkRest (tkRest (tkRest (tkRest l)))).length) cq4] 22, .blk g6 #[.bool ((((true && tkOk 63 l) && tkOk 281474976710656 (tkRest l)) && tkOk 4096 (tkRest (tkRest l))) && tkOk 281474976710656 (tkRest (tkRest (tkRest l))))] 4, .blk g8 #[.int .u8 ((1 : Nat) : Int), .int .u8 (tkVal 63 l : Int), .int .i64 (tkVal 281474976710656 (tkRest l) : Int), .int .i64 0, .slice none 0 0] 37, .blk g4 #[.int .u8 0, .int .u8 0, .int .i64 0, .int .i64 0, .slice none 0 0] 37]) [0, 1, 2, 3] (by decide) rfl
        have hl5 := tk_rest_lt hl4
        refine e_callv HF (f := 59) (vs := [.int .i64 281474976710656]) (fst := []) (caps := [.pointer (some ⟨g3, 0, none⟩), .pointer (some ⟨g6, 0, none⟩)]) rfl rfl rfl (by kernel_rfl) rfl (by decide) (ptake_any w _ g3 g6 Aq4 ((tkRest (tkRest (tkRest (tkRest l)))).length) cq4 (tkRest (tkRest (tkRest (tkRest l)))) ((((true && tkOk 63 l) && tkOk 281474976710656 (tkRest l)) && tkOk 4096 (tkRest (tkRest l))) && tkOk 281474976710656 (tkRest (tkRest (tkRest l)))) 281474976710656 [.blk g8 #[.int .u8 ((1 : Nat) : Int), .int .u8 (tkVal 63 l : Int), .int .i64 (tkVal 281474976710656 (tkRest l) : Int), .int .i64 0, .slice none 0 0] 37, .blk g4 #[.int .u8 0, .int .u8 0, .int .i64 0, .int .i64 0, .slice none 0 0] 37] hl4 rfl (by omega) hr4 hc4 (by omega) HM) ?_
        rintro _ w50 ⟨rfl, Aq5, cq5, hr5, hc5, hm⟩
        refine ⟨_, rfl, ?_⟩
        replace HM := hm
        clear HF; intro a HF
        have ht4 := tkVal_le 281474976710656 (tkRest (tkRest (tkRest (tkRest l))))
        have hs4 := tkRest_le (tkRest (tkRest (tkRest (tkRest l))))
        refine from_yl (S := fun wS => Mem w wS _) HF HM (i := 4) rfl rfl (d := 51) rfl (by decide) (v := .agg #[.int .i64 (tkVal 281474976710656 (tkRest (tkRest (tkRest l))) : Int), .int .i64 (tkVal 281474976710656 (tkRest (tkRest (tkRest (tkRest l)))) : Int)]) (Yl.build (vs := [(0, .int .i64 (tkVal 281474976710656 (tkRest (tkRest (tkRest l))) : Int)), (1, .int .i64 (tkVal 281474976710656 (tkRest (tkRest (tkRest (tkRest l)))) : Int))]) rfl (by kernel_rfl) (by kernel_rfl)) ?_; clear HF; intro a HF
        refine from_op HF (i := 5) rfl rfl ?_
        refine e_alloc HF HM (cs := #[.int .i64 0, .int .i64 0]) rfl (by kernel_rfl) rfl (by decide) ?_
        clear HF HM; intro a w10 g10 HF HM
        refine from_op HF (i := 6) rfl rfl ?_
        refine e_storeAll HF HM (i := 0) (cs := #[.int .i64 0, .int .i64 0]) (ds := #[.int .i64 (tkVal 281474976710656 (tkRest (tkRest (tkRest l))) : Int), .int .i64 (tkVal 281474976710656 (tkRest (tkRest (tkRest (tkRest l)))) : Int)]) rfl rfl rfl rfl ⟨(by kernel_rfl), (by kernel_rfl)⟩ rfl rfl (by simp [Value.oneCell']) rfl ?_
        clear HM; intro w10_6 HM
        refine from_done rfl ?_
        replace HF := HF.sub (σ' := [(10, .pointer (some ⟨g10, 0, none⟩)), (46, .bool true), (9, .int .i64 (tkVal 4096 (tkRest (tkRest l)) : Int)), (18, .bool false), (8, .pointer (some ⟨g8, 0, none⟩)), (7, .func (.func 59) #[] #[.pointer (some ⟨g3, 0, none⟩), .pointer (some ⟨g6, 0, none⟩)]), (6, .pointer (some ⟨g6, 0, none⟩)), (5, .bool false), (4, .pointer (some ⟨g4, 0, none⟩)), (3, .pointer (some ⟨g3, 0, none⟩)), (0, .int .u8 ((1 : Nat) : Int))]) (by kernel_rfl)
        obtain ⟨es, L, er, hq⟩ : ∃ es L er, readR ⟨(tkVal 281474976710656 (tkRest (tkRest (tkRest l))) : Int), (tkVal 281474976710656 (tkRest (tkRest (tkRest (tkRest l)))) : Int)⟩ (tkVal 63 l) (tkVal 4096 (tkRest (tkRest l)) : Int) (tkRest (tkRest (tkRest (tkRest (tkRest l))))) = (es, L, er) := ⟨_, _, _, rfl⟩
        refine wp_seq ?_
        refine from_start ?_
        refine from_yl (S := fun wS => Mem w wS _) HF HM (i := 0) rfl rfl (d := 53) rfl (by decide) (v := .agg #[.int .i64 (tkVal 281474976710656 (tkRest (tkRest (tkRest l))) : Int), .int .i64 (tkVal 281474976710656 (tkRest (tkRest (tkRest (tkRest l)))) : Int)]) (Yl.loadS rfl rfl ⟨(by kernel_rfl), (by kernel_rfl)⟩ rfl (fun _ h => range_of_block (h.blk (i := 0) rfl))) ?_; clear HF; intro a HF
        refine from_pures HF 1 1 (j := 2) [(54, .pointer (some ⟨g8, 1, none⟩))] (by kernel_rfl) rfl ?_; clear HF; intro a HF
        refine from_yl (S := fun wS => Mem w wS _) HF HM (i := 2) rfl rfl (d := 55) rfl (by decide) (v := .int .u8 (tkVal 63 l : Int)) (Yl.load1 rfl rfl (by kernel_rfl) (fun _ h => h.cell (i := 3) rfl rfl)) ?_; clear HF; intro a HF
        refine from_pures HF 1 3 (j := 4) [(56, .int .i64 (tkVal 4096 (tkRest (tkRest l)) : Int))] (by kernel_rfl) rfl ?_; clear HF; intro a HF
        refine from_yl (S := fun wS => Mem w wS _) HF HM (i := 4) rfl rfl (d := 57) rfl (by decide) (v := .slice Aq5 ((tkRest (tkRest (tkRest (tkRest (tkRest l))))).length) cq5) (Yl.load1 rfl rfl (by kernel_rfl) (fun _ h => h.cell (i := 1) rfl rfl)) ?_; clear HF; intro a HF
        refine from_op HF (i := 5) rfl rfl ?_
        refine e_call HF (vs := [.agg #[.int .i64 (tkVal 281474976710656 (tkRest (tkRest (tkRest l))) : Int), .int .i64 (tkVal 281474976710656 (tkRest (tkRest (tkRest (tkRest l)))) : Int)], .int .u8 (tkVal 63 l : Int), .int .i64 (tkVal 4096 (tkRest (tkRest l)) : Int), .slice Aq5 ((tkRest (tkRest (tkRest (tkRest (tkRest l))))).length) cq5]) rfl (by kernel_rfl) (by kernel_rfl) rfl (by decide) (read_is ⟨(tkVal 281474976710656 (tkRest (tkRest (tkRest l))) : Int), (tkVal 281474976710656 (tkRest (tkRest (tkRest (tkRest l)))) : Int)⟩ (tkVal 63 l) (by omega) Aq5 ((tkRest (tkRest (tkRest (tkRest (tkRest l))))).length) cq5 (tkVal 4096 (tkRest (tkRest l)) : Int) (by unfold I64; omega) (tkRest (tkRest (tkRest (tkRest (tkRest l))))) B _ (hL.mem HM hB).laid (HM.le hB) (HM.old hr5) hc5 hl5 (by omega) (.inl (by omega)) hq) ?_
        rintro _ w58 ⟨⟨A58, c58, rfl, ho, hc58⟩, hbw⟩
        refine ⟨_, rfl, ?_⟩
        replace HM := HM.callRow hbw ho
        clear HF; intro a HF
        refine from_pures HF 7 6 (j := 13) [(13, .int .i64 (er : Int)), (12, .int .i64 (L : Int)), (11, .slice A58 es.length c58), (61, .int .i64 (er : Int)), (60, .int .i64 (L : Int)), (59, .slice A58 es.length c58), (52, .tuple #[.slice A58 es.length c58, .int .i64 (L : Int), .int .i64 (er : Int)])] (by kernel_rfl) rfl ?_; clear HF; intro a HF
        refine from_done rfl ?_
        replace HF := HF.sub (σ' := [(13, .int .i64 (er : Int)), (12, .int .i64 (L : Int)), (11, .slice A58 es.length c58), (10, .pointer (some ⟨g10, 0, none⟩)), (46, .bool true), (9, .int .i64 (tkVal 4096 (tkRest (tkRest l)) : Int)), (18, .bool false), (8, .pointer (some ⟨g8, 0, none⟩)), (7, .func (.func 59) #[] #[.pointer (some ⟨g3, 0, none⟩), .pointer (some ⟨g6, 0, none⟩)]), (6, .pointer (some ⟨g6, 0, none⟩)), (5, .bool false), (4, .pointer (some ⟨g4, 0, none⟩)), (3, .pointer (some ⟨g3, 0, none⟩)), (0, .int .u8 ((1 : Nat) : Int))]) (by kernel_rfl)
        refine wp_seq ?_
        refine cut_seq (fun aS wS => Fr aS 99 [] [(81, .bool (!(decide (er = 0 ∧ (es.getD 0 Ev.zero).seq = (tkVal 281474976710656 (tkRest (tkRest (tkRest l))) : Int) ∧ (es.getD 0 Ev.zero).time = (tkVal 281474976710656 (tkRest (tkRest (tkRest (tkRest l)))) : Int))))), (12, .int .i64 (L : Int)), (11, .slice A58 es.length c58), (10, .pointer (some ⟨g10, 0, none⟩)), (46, .bool true), (9, .int .i64 (tkVal 4096 (tkRest (tkRest l)) : Int)), (18, .bool false), (8, .pointer (some ⟨g8, 0, none⟩)), (7, .func (.func 59) #[] #[.pointer (some ⟨g3, 0, none⟩), .pointer (some ⟨g6, 0, none⟩)]), (6, .pointer (some ⟨g6, 0, none⟩)), (5, .bool false), (4, .pointer (some ⟨g4, 0, none⟩)), (3, .pointer (some ⟨g3, 0, none⟩)), (0, .int .u8 ((1 : Nat) : Int))] ∧ Mem w wS [.row (.slice A58 es.length c58) es.length (es.flatMap evL) 55 11, .blk g10 #[.int .i64 (tkVal 281474976710656 (tkRest (tkRest (tkRest l))) : Int), .int .i64 (tkVal 281474976710656 (tkRest (tkRest (tkRest (tkRest l)))) : Int)] 27, .blk g3 #[.slice Aq5 ((tkRest (tkRest (tkRest (tkRest (tkRest l))))).length) cq5] 22, .blk g6 #[.bool (((((true && tkOk 63 l) && tkOk 281474976710656 (tkRest l)) && tkOk 4096 (tkRest (tkRest l))) && tkOk 281474976710656 (tkRest (tkRest (tkRest l)))) && tkOk 281474976710656 (tkRest (tkRest (tkRest (tkRest l)))))] 4, .blk g8 #[.int .u8 ((1 : Nat) : Int), .int .u8 (tkVal 63 l : Int), .int .i64 (tkVal 281474976710656 (tkRest l) : Int), .int .i64 0, .slice none 0 0] 37, .blk g4 #[.int .u8 0, .int .u8 0, .int .i64 0, .int .i64 0, .slice none 0 0] 37]) ?_ ?_
        ·
          refine any_start (by kernel_rfl) (fun wS => Mem w wS [.row (.slice A58 es.length c58) es.length (es.flatMap evL) 55 11, .blk g10 #[.int .i64 (tkVal 281474976710656 (tkRest (tkRest (tkRest l))) : Int), .int .i64 (tkVal 281474976710656 (tkRest (tkRest (tkRest (tkRest l)))) : Int)] 27, .blk g3 #[.slice Aq5 ((tkRest (tkRest (tkRest (tkRest (tkRest l))))).length) cq5] 22, .blk g6 #[.bool (((((true && tkOk 63 l) && tkOk 281474976710656 (tkRest l)) && tkOk 4096 (tkRest (tkRest l))) && tkOk 281474976710656 (tkRest (tkRest (tkRest l)))) && tkOk 281474976710656 (tkRest (tkRest (tkRest (tkRest l)))))] 4, .blk g8 #[.int .u8 ((1 : Nat) : Int), .int .u8 (tkVal 63 l : Int), .int .i64 (tkVal 281474976710656 (tkRest l) : Int), .int .i64 0, .slice none 0 0] 37, .blk g4 #[.int .u8 0, .int .u8 0, .int .i64 0, .int .i64 0, .slice none 0 0] 37]) [] ?_
          replace HM := HM.drew
          have HS := HM.picks (fs' := [.row (.slice A58 es.length c58) es.length (es.flatMap evL) 55 11, .blk g10 #[.int .i64 (tkVal 281474976710656 (tkRest (tkRest (tkRest l))) : Int), .int .i64 (tkVal 281474976710656 (tkRest (tkRest (tkRest (tkRest l)))) : Int)] 27, .blk g3 #[.slice Aq5 ((tkRest (tkRest (tkRest (tkRest (tkRest l))))).length) cq5] 22, .blk g6 #[.bool (((((true && tkOk 63 l) && tkOk 281474976710656 (tkRest l)) && tkOk 4096 (tkRest (tkRest l))) && tkOk 281474976710656 (tkRest (tkRest (tkRest l)))) && tkOk 281474976710656 (tkRest (tkRest (tkRest (tkRest l)))))] 4, .blk g8 #[.int .u8 ((1 : Nat) : Int), .int .u8 (tkVal 63 l : Int), .int .i64 (tkVal 281474976710656 (tkRest l) : Int), .int .i64 0, .slice none 0 0] 37, .blk g4 #[.int .u8 0, .int .u8 0, .int .i64 0, .int .i64 0, .slice none 0 0] 37]) [0, 1, 2, 3, 4, 5] (by decide) rfl
          refine any_pures HF (fun _ => HS) (fun _ _ d _ _ h => by cases d <;> exact h) [0, 1, 2] #[true, true, true, false, false, false, false, false, false, false, false, false, false, false, false, false, false, false, false, false] [(64, .bool (((er : Int) : Int) != (0 : Int))), (63, .bool (((er : Int) : Int) != (0 : Int))), (62, .int .i64 (er : Int))] (by kernel_rfl) ?_; clear HF; intro a HF
          rcases Bool.eq_false_or_eq_true (((er : Int) : Int) != (0 : Int)) with hb64 | hb64
          · have HF := HF.as (t := 64) (u := .bool true) rfl (by rw [hb64])
            have hd64 := bne_iff_ne.1 hb64
            refine any_pures HF (fun _ => HS) (fun _ _ d _ _ h => by cases d <;> exact h) [3, 4, 5, 6, 7, 8, 9, 10, 11, 12, 13, 14, 15, 16, 17, 18, 19] #[true, true, true, true, true, true, true, true, true, true, true, true, true, true, true, true, true, true, true, true] [(81, .bool true), (80, undef), (79, undef), (78, undef), (77, undef), (76, undef), (75, undef), (74, undef), (73, .bool true), (72, .bool true), (71, undef), (70, undef), (69, undef), (68, undef), (67, undef), (66, undef), (65, undef)] (by kernel_rfl) ?_; clear HF; intro a HF
            refine any_done (by kernel_rfl) ?_
            replace HF := HF.sub (σ' := [(81, .bool true), (12, .int .i64 (L : Int)), (11, .slice A58 es.length c58), (10, .pointer (some ⟨g10, 0, none⟩)), (46, .bool true), (9, .int .i64 (tkVal 4096 (tkRest (tkRest l)) : Int)), (18, .bool false), (8, .pointer (some ⟨g8, 0, none⟩)), (7, .func (.func 59) #[] #[.pointer (some ⟨g3, 0, none⟩), .pointer (some ⟨g6, 0, none⟩)]), (6, .pointer (some ⟨g6, 0, none⟩)), (5, .bool false), (4, .pointer (some ⟨g4, 0, none⟩)), (3, .pointer (some ⟨g3, 0, none⟩)), (0, .int .u8 ((1 : Nat) : Int))]) (by kernel_rfl)
            have HF := HF.as (t := 81) (u := .bool (!(decide (er = 0 ∧ (es.getD 0 Ev.zero).seq = (tkVal 281474976710656 (tkRest (tkRest (tkRest l))) : Int) ∧ (es.getD 0 Ev.zero).time = (tkVal 281474976710656 (tkRest (tkRest (tkRest (tkRest l)))) : Int))))) rfl (congrArg Value.bool (by rw [decide_eq_false (by omega)]; rfl))
            exact ⟨HF.sub (by kernel_rfl), HM.picks [0, 1, 2, 3, 4, 5] (by decide) rfl⟩
          · have HF := HF.as (t := 64) (u := .bool false) rfl (by rw [hb64])
            have hd64 := bne_eq_false_iff_eq.1 hb64
            have her : er = 0 := by omega
            have hq0 := hq; rw [her] at hq0; obtain ⟨rw1, rw2, rw3, rw4, rw5⟩ := read_write (cpu := tkVal 63 l) (by omega) hl5 hq0
            refine any_pures HF (fun _ => HS) (fun _ _ d _ _ h => by cases d <;> exact h) [3, 7] #[true, true, true, true, false, false, false, true, false, false, false, false, false, false, false, false, false, false, false, false] [(69, .pointer (some ⟨g10, 0, none⟩)), (65, .slice A58 es.length c58)] (by kernel_rfl) ?_; clear HF; intro a HF
            obtain ⟨gA58, rfl⟩ := own_some (HM.own (i := 0) rfl) (Nat.lt_of_le_of_lt (Nat.zero_le _) (show 0 < es.length from by omega))
            refine any_yl HF HS (i := 4) rfl rfl (d := 66) rfl (by decide) (by kernel_rfl) (fun _ _ _ h => h) (v := .pointer (some ⟨gA58, 0, none⟩)) (Yl.indexAddr (ad := ⟨gA58, 0, none⟩) (y := 0) (sz := 11) rfl rfl rfl (by omega) (by kernel_rfl)) ?_; clear HF; intro a HF
            refine any_pures HF (fun _ => HS) (fun _ _ d _ _ h => by cases d <;> exact h) [5] #[true, true, true, true, true, true, false, true, false, false, false, false, false, false, false, false, false, false, false, false] [(67, .pointer (some ⟨gA58, 0, none⟩))] (by kernel_rfl) ?_; clear HF; intro a HF
            refine any_yl HF HS (i := 6) rfl rfl (d := 68) rfl (by decide) (by kernel_rfl) (fun _ _ _ h => h) (v := .int .i64 ((es.getD 0 Ev.zero).seq)) (Yl.load1 rfl rfl (by kernel_rfl) (fun _ h => (by have := h.rowCell evL_len (i := 0) rfl (k := 0) (off := 0) (x := (es.getD 0 Ev.zero)) ((getD_at Ev.zero (k := 0) (by first | omega | (simp; omega)))) rfl; simpa using this))) ?_; clear HF; intro a HF
            refine any_yl HF HS (i := 8) rfl rfl (d := 70) rfl (by decide) (by kernel_rfl) (fun _ _ _ h => h) (v := .int .i64 (tkVal 281474976710656 (tkRest (tkRest (tkRest l))) : Int)) (Yl.load1 rfl rfl (by kernel_rfl) (fun _ h => h.cell (i := 1) rfl rfl)) ?_; clear HF; intro a HF
            refine any_pures HF (fun _ => HS) (fun _ _ d _ _ h => by cases d <;> exact h) [9, 10, 11] #[true, true, true, true, true, true, true, true, true, true, true, true, false, false, false, false, false, false, false, false] [(73, .bool (((es.getD 0 Ev.zero).seq : Int) != ((tkVal 281474976710656 (tkRest (tkRest (tkRest l))) : Int) : Int))), (72, .bool (((es.getD 0 Ev.zero).seq : Int) != ((tkVal 281474976710656 (tkRest (tkRest (tkRest l))) : Int) : Int))), (71, .bool (((es.getD 0 Ev.zero).seq : Int) != ((tkVal 281474976710656 (tkRest (tkRest (tkRest l))) : Int) : Int)))] (by kernel_rfl) ?_; clear HF; intro a HF
            rcases Bool.eq_false_or_eq_true (((es.getD 0 Ev.zero).seq : Int) != ((tkVal 281474976710656 (tkRest (tkRest (tkRest l))) : Int) : Int)) with hb73 | hb73
            · have HF := HF.as (t := 73) (u := .bool true) rfl (by rw [hb73])
              have hd73 := bne_iff_ne.1 hb73
              refine any_pures HF (fun _ => HS) (fun _ _ d _ _ h => by cases d <;> exact h) [12, 13, 14, 15, 16, 17, 18, 19] #[true, true, true, true, true, true, true, true, true, true, true, true, true, true, true, true, true, true, true, true] [(81, .bool true), (80, undef), (79, undef), (78, undef), (77, undef), (76, undef), (75, undef), (74, undef)] (by kernel_rfl) ?_; clear HF; intro a HF
              refine any_done (by kernel_rfl) ?_
              replace HF := HF.sub (σ' := [(81, .bool true), (12, .int .i64 (L : Int)), (11, .slice (some ⟨gA58, 0, none⟩) es.length c58), (10, .pointer (some ⟨g10, 0, none⟩)), (46, .bool true), (9, .int .i64 (tkVal 4096 (tkRest (tkRest l)) : Int)), (18, .bool false), (8, .pointer (some ⟨g8, 0, none⟩)), (7, .func (.func 59) #[] #[.pointer (some ⟨g3, 0, none⟩), .pointer (some ⟨g6, 0, none⟩)]), (6, .pointer (some ⟨g6, 0, none⟩)), (5, .bool false), (4, .pointer (some ⟨g4, 0, none⟩)), (3, .pointer (some ⟨g3, 0, none⟩)), (0, .int .u8 ((1 : Nat) : Int))]) (by kernel_rfl)
              have HF := HF.as (t := 81) (u := .bool (!(decide (er = 0 ∧ (es.getD 0 Ev.zero).seq = (tkVal 281474976710656 (tkRest (tkRest (tkRest l))) : Int) ∧ (es.getD 0 Ev.zero).time = (tkVal 281474976710656 (tkRest (tkRest (tkRest (tkRest l)))) : Int))))) rfl (congrArg Value.bool (by rw [decide_eq_false (by omega)]; rfl))
              exact ⟨HF.sub (by kernel_rfl), HM.picks [0, 1, 2, 3, 4, 5] (by decide) rfl⟩
            · have HF := HF.as (t := 73) (u := .bool false) rfl (by rw [hb73])
              have hd73 := bne_eq_false_iff_eq.1 hb73
              refine any_pures HF (fun _ => HS) (fun _ _ d _ _ h => by cases d <;> exact h) [12, 16] #[true, true, true, true, true, true, true, true, true, true, true, true, true, false, false, false, true, false, false, false] [(78, .pointer (some ⟨g10, 1, none⟩)), (74, .slice (some ⟨gA58, 0, none⟩) es.length c58)] (by kernel_rfl) ?_; clear HF; intro a HF
              refine any_yl HF HS (i := 13) rfl rfl (d := 75) rfl (by decide) (by kernel_rfl) (fun _ _ _ h => h) (v := .pointer (some ⟨gA58, 0, none⟩)) (Yl.indexAddr (ad := ⟨gA58, 0, none⟩) (y := 0) (sz := 11) rfl rfl rfl (by omega) (by kernel_rfl)) ?_; clear HF; intro a HF
              refine any_pures HF (fun _ => HS) (fun _ _ d _ _ h => by cases d <;> exact h) [14] #[true, true, true, true, true, true, true, true, true, true, true, true, true, true, true, false, true, false, false, false] [(76, .pointer (some ⟨gA58, 1, none⟩))] (by kernel_rfl) ?_; clear HF; intro a HF
              refine any_yl HF HS (i := 15) rfl rfl (d := 77) rfl (by decide) (by kernel_rfl) (fun _ _ _ h => h) (v := .int .i64 ((es.getD 0 Ev.zero).time)) (Yl.load1 rfl rfl (by kernel_rfl) (fun _ h => h.rowCell evL_len (i := 0) rfl (k := 0) (off := 1) (x := (es.getD 0 Ev.zero)) ((getD_at Ev.zero (k := 0) (by first | omega | (simp; omega)))) rfl)) ?_; clear HF; intro a HF
              refine any_yl HF HS (i := 17) rfl rfl (d := 79) rfl (by decide) (by kernel_rfl) (fun _ _ _ h => h) (v := .int .i64 (tkVal 281474976710656 (tkRest (tkRest (tkRest (tkRest l)))) : Int)) (Yl.load1 rfl rfl (by kernel_rfl) (fun _ h => h.cell (i := 1) rfl rfl)) ?_; clear HF; intro a HF
              refine any_pures HF (fun _ => HS) (fun _ _ d _ _ h => by cases d <;> exact h) [18, 19] #[true, true, true, true, true, true, true, true, true, true, true, true, true, true, true, true, true, true, true, true] [(81, .bool (((es.getD 0 Ev.zero).time : Int) != ((tkVal 281474976710656 (tkRest (tkRest (tkRest (tkRest l)))) : Int) : Int))), (80, .bool (((es.getD 0 Ev.zero).time : Int) != ((tkVal 281474976710656 (tkRest (tkRest (tkRest (tkRest l)))) : Int) : Int)))] (by kernel_rfl) ?_; clear HF; intro a HF
              refine any_done (by kernel_rfl) ?_
              replace HF := HF.sub (σ' := [(81, .bool (((es.getD 0 Ev.zero).time : Int) != ((tkVal 281474976710656 (tkRest (tkRest (tkRest (tkRest l)))) : Int) : Int))), (12, .int .i64 (L : Int)), (11, .slice (some ⟨gA58, 0, none⟩) es.length c58), (10, .pointer (some ⟨g10, 0, none⟩)), (46, .bool true), (9, .int .i64 (tkVal 4096 (tkRest (tkRest l)) : Int)), (18, .bool false), (8, .pointer (some ⟨g8, 0, none⟩)), (7, .func (.func 59) #[] #[.pointer (some ⟨g3, 0, none⟩), .pointer (some ⟨g6, 0, none⟩)]), (6, .pointer (some ⟨g6, 0, none⟩)), (5, .bool false), (4, .pointer (some ⟨g4, 0, none⟩)), (3, .pointer (some ⟨g3, 0, none⟩)), (0, .int .u8 ((1 : Nat) : Int))]) (by kernel_rfl)
              have HF := HF.as (t := 81) (u := .bool (!(decide (er = 0 ∧ (es.getD 0 Ev.zero).seq = (tkVal 281474976710656 (tkRest (tkRest (tkRest l))) : Int) ∧ (es.getD 0 Ev.zero).time = (tkVal 281474976710656 (tkRest (tkRest (tkRest (tkRest l)))) : Int))))) rfl (congrArg Value.bool (by rw [Bool.eq_iff_iff, bne_iff_ne, Bool.not_eq_true', decide_eq_false_iff_not]; omega))
              exact ⟨HF.sub (by kernel_rfl), HM.picks [0, 1, 2, 3, 4, 5] (by decide) rfl⟩
        clear HF HM; rintro a w12 ⟨HF, HM⟩
        rcases Bool.eq_false_or_eq_true (!(decide (er = 0 ∧ (es.getD 0 Ev.zero).seq = (tkVal 281474976710656 (tkRest (tkRest (tkRest l))) : Int) ∧ (es.getD 0 Ev.zero).time = (tkVal 281474976710656 (tkRest (tkRest (tkRest (tkRest l)))) : Int)))) with hb81 | hb81
        · have HF := HF.as (t := 81) (u := .bool true) rfl (by rw [hb81])
          have hz : ¬ (er = 0 ∧ (es.getD 0 Ev.zero).seq = (tkVal 281474976710656 (tkRest (tkRest (tkRest l))) : Int) ∧ (es.getD 0 Ev.zero).time = (tkVal 281474976710656 (tkRest (tkRest (tkRest (tkRest l)))) : Int)) := fun hh => by rw [decide_eq_true hh] at hb81; cases hb81
          refine cond_true HF rfl ?_
          refine wp_seq ?_
          refine from_start ?_
          refine from_yl (S := fun wS => Mem w wS _) HF HM (i := 0) rfl rfl (d := 82) rfl (by decide) (v := .agg #[.int .u8 0, .int .u8 0, .int .i64 0, .int .i64 0, .slice none 0 0]) (Yl.build (vs := []) rfl (by kernel_rfl) (by kernel_rfl)) ?_; clear HF; intro a HF
          refine from_op HF (i := 1) rfl rfl ?_
          refine e_storeAll HF HM (i := 5) (cs := #[.int .u8 0, .int .u8 0, .int .i64 0, .int .i64 0, .slice none 0 0]) (ds := #[.int .u8 0, .int .u8 0, .int .i64 0, .int .i64 0, .slice none 0 0]) rfl rfl rfl rfl si_bk rfl rfl (by simp [Value.oneCell']) rfl ?_
          clear HM; intro w13_1 HM
          refine from_pures HF 1 2 (j := 3) [(5, .bool false)] (by kernel_rfl) rfl ?_; clear HF; intro a HF
          refine from_done rfl ?_
          replace HF := HF.sub (σ' := [(5, .bool false), (81, .bool true), (12, .int .i64 (L : Int)), (11, .slice A58 es.length c58), (10, .pointer (some ⟨g10, 0, none⟩)), (46, .bool true), (9, .int .i64 (tkVal 4096 (tkRest (tkRest l)) : Int)), (18, .bool false), (8, .pointer (some ⟨g8, 0, none⟩)), (7, .func (.func 59) #[] #[.pointer (some ⟨g3, 0, none⟩), .pointer (some ⟨g6, 0, none⟩)]), (6, .pointer (some ⟨g6, 0, none⟩)), (4, .pointer (some ⟨g4, 0, none⟩)), (3, .pointer (some ⟨g3, 0, none⟩)), (0, .int .u8 ((1 : Nat) : Int))]) (by kernel_rfl)
          refine wp_ret ?_
          exact ret2 rfl HF (.cellS (i := 5) HF HM rfl rfl si_bk rfl) (.tmp HF rfl) (parseIs_none (by rw [parseR_evs, parseEvs_full h3 (by omega) hq]; exact parseRows_none (fun hh => hz ⟨hh.1, hh.2.1, hh.2.2.1⟩)) rfl (by simp [Value.oneCell']) HM.below)
        · have HF := HF.as (t := 81) (u := .bool false) rfl (by rw [hb81])
          have hz : er = 0 ∧ (es.getD 0 Ev.zero).seq = (tkVal 281474976710656 (tkRest (tkRest (tkRest l))) : Int) ∧ (es.getD 0 Ev.zero).time = (tkVal 281474976710656 (tkRest (tkRest (tkRest (tkRest l)))) : Int) := Decidable.byContradiction fun hh => by rw [decide_eq_false hh] at hb81; cases hb81
          have her := hz.1
          have hq0 := hq; rw [her] at hq0; obtain ⟨rw1, rw2, rw3, rw4, rw5⟩ := read_write (cpu := tkVal 63 l) (by omega) hl5 hq0
          refine cond_false HF rfl ?_
          refine wp_skip ?_
          refine any_start (by kernel_rfl) (fun wS => Mem w wS [.row (.slice A58 es.length c58) es.length (es.flatMap evL) 55 11, .blk g10 #[.int .i64 (tkVal 281474976710656 (tkRest (tkRest (tkRest l))) : Int), .int .i64 (tkVal 281474976710656 (tkRest (tkRest (tkRest (tkRest l)))) : Int)] 27, .blk g3 #[.slice Aq5 ((tkRest (tkRest (tkRest (tkRest (tkRest l))))).length) cq5] 22, .blk g6 #[.bool (((((true && tkOk 63 l) && tkOk 281474976710656 (tkRest l)) && tkOk 4096 (tkRest (tkRest l))) && tkOk 281474976710656 (tkRest (tkRest (tkRest l)))) && tkOk 281474976710656 (tkRest (tkRest (tkRest (tkRest l)))))] 4, .blk g4 #[.int .u8 0, .int .u8 0, .int .i64 0, .int .i64 0, .slice none 0 0] 37]) [6] ?_
          replace HM := HM.drew
          have HS := HM.picks (fs' := [.row (.slice A58 es.length c58) es.length (es.flatMap evL) 55 11, .blk g10 #[.int .i64 (tkVal 281474976710656 (tkRest (tkRest (tkRest l))) : Int), .int .i64 (tkVal 281474976710656 (tkRest (tkRest (tkRest (tkRest l)))) : Int)] 27, .blk g3 #[.slice Aq5 ((tkRest (tkRest (tkRest (tkRest (tkRest l))))).length) cq5] 22, .blk g6 #[.bool (((((true && tkOk 63 l) && tkOk 281474976710656 (tkRest l)) && tkOk 4096 (tkRest (tkRest l))) && tkOk 281474976710656 (tkRest (tkRest (tkRest l)))) && tkOk 281474976710656 (tkRest (tkRest (tkRest (tkRest l)))))] 4, .blk g4 #[.int .u8 0, .int .u8 0, .int .i64 0, .int .i64 0, .slice none 0 0] 37]) [0, 1, 2, 3, 5] (by decide) rfl
          refine any_pures HF (fun _ => HS) (fun _ _ d _ _ h => by cases d <;> exact h) [0, 2, 4] #[true, false, true, false, true, false, false] [(87, .pointer (some ⟨g8, 4, none⟩)), (85, .int .i64 (L : Int)), (83, .slice A58 es.length c58)] (by kernel_rfl) ?_; clear HF; intro a HF
          refine any_yl HF HS (i := 1) rfl rfl (d := 84) rfl (by decide) (by kernel_rfl) (fun _ _ _ h => h) (v := .slice Aq5 ((tkRest (tkRest (tkRest (tkRest (tkRest l))))).length) cq5) (Yl.load1 rfl rfl (by kernel_rfl) (fun _ h => h.cell (i := 2) rfl rfl)) ?_; clear HF; intro a HF
          refine any_yl HF HS (i := 3) rfl rfl (d := 86) rfl (by decide) (by kernel_rfl) (fun _ _ _ h => h) (v := .slice (if cq5 = L then Aq5 else Aq5.map (·.add (L * 1))) (((tkRest (tkRest (tkRest (tkRest (tkRest l))))).length) - L) (cq5 - L)) (Yl.sliceFrom ei_u8 (j := L) rfl rfl rfl (by omega)) ?_; clear HF; intro a HF
          refine any_all [5] (by kernel_rfl) rfl ?_
          refine all_cons ?_ all_nil
          refine any_op HF (i := 5) rfl rfl ?_
          refine e_store HF HM (i := 4) (cs := #[.int .u8 ((1 : Nat) : Int), .int .u8 (tkVal 63 l : Int), .int .i64 (tkVal 281474976710656 (tkRest l) : Int), .int .i64 0, .slice none 0 0]) rfl rfl rfl rfl (by kernel_rfl) rfl rfl (by simp) ?_
          clear HM; intro w14_5 HM
          refine keepS (HM.picks [0, 1, 2, 3, 5] (by decide) rfl) (fun HS => ?_)
          refine any_all [6] (by kernel_rfl) rfl ?_
          refine all_cons ?_ all_nil
          refine any_op HF (i := 6) rfl rfl ?_
          refine e_store HF HM (i := 2) (cs := #[.slice Aq5 ((tkRest (tkRest (tkRest (tkRest (tkRest l))))).length) cq5]) rfl rfl rfl rfl (by kernel_rfl) rfl rfl (by simp) ?_
          clear HM; intro w14_6 HM
          refine noS (by kernel_rfl) ?_
          refine any_done (by kernel_rfl) ?_
          replace HF := HF.sub (σ' := [(81, .bool false), (11, .slice A58 es.length c58), (10, .pointer (some ⟨g10, 0, none⟩)), (46, .bool true), (9, .int .i64 (tkVal 4096 (tkRest (tkRest l)) : Int)), (18, .bool false), (8, .pointer (some ⟨g8, 0, none⟩)), (7, .func (.func 59) #[] #[.pointer (some ⟨g3, 0, none⟩), .pointer (some ⟨g6, 0, none⟩)]), (6, .pointer (some ⟨g6, 0, none⟩)), (5, .bool false), (4, .pointer (some ⟨g4, 0, none⟩)), (3, .pointer (some ⟨g3, 0, none⟩)), (0, .int .u8 ((1 : Nat) : Int))]) (by kernel_rfl)
          refine cut_seq (fun aS wS => Fr aS 99 [] [(5, .bool ((parseEvs l).isSome)), (81, .bool false), (11, .slice A58 es.length c58), (10, .pointer (some ⟨g10, 0, none⟩)), (46, .bool true), (9, .int .i64 (tkVal 4096 (tkRest (tkRest l)) : Int)), (18, .bool false), (8, .pointer (some ⟨g8, 0, none⟩)), (7, .func (.func 59) #[] #[.pointer (some ⟨g3, 0, none⟩), .pointer (some ⟨g6, 0, none⟩)]), (6, .pointer (some ⟨g6, 0, none⟩)), (4, .pointer (some ⟨g4, 0, none⟩)), (3, .pointer (some ⟨g3, 0, none⟩)), (0, .int .u8 ((1 : Nat) : Int))] ∧ Mem w wS [.row (.slice A58 es.length c58) es.length (es.flatMap evL) 55 11, .blk g10 #[.int .i64 (tkVal 281474976710656 (tkRest (tkRest (tkRest l))) : Int), .int .i64 (tkVal 281474976710656 (tkRest (tkRest (tkRest (tkRest l)))) : Int)] 27, .blk g3 #[.slice (if cq5 = L then Aq5 else Aq5.map (·.add (L * 1))) (((tkRest (tkRest (tkRest (tkRest (tkRest l))))).length) - L) (cq5 - L)] 22, .blk g6 #[.bool (((((true && tkOk 63 l) && tkOk 281474976710656 (tkRest l)) && tkOk 4096 (tkRest (tkRest l))) && tkOk 281474976710656 (tkRest (tkRest (tkRest l)))) && tkOk 281474976710656 (tkRest (tkRest (tkRest (tkRest l)))))] 4, .blk g8 #[.int .u8 ((1 : Nat) : Int), .int .u8 (tkVal 63 l : Int), .int .i64 (tkVal 281474976710656 (tkRest l) : Int), .int .i64 0, .slice A58 es.length c58] 37, .blk g4 #[.int .u8 ((1 : Nat) : Int), .int .u8 (tkVal 63 l : Int), .int .i64 (tkVal 281474976710656 (tkRest l) : Int), .int .i64 0, .slice A58 es.length c58] 37]) ?_ ?_
          ·
            refine any_start (by kernel_rfl) (fun wS => Mem w wS [.row (.slice A58 es.length c58) es.length (es.flatMap evL) 55 11, .blk g10 #[.int .i64 (tkVal 281474976710656 (tkRest (tkRest (tkRest l))) : Int), .int .i64 (tkVal 281474976710656 (tkRest (tkRest (tkRest (tkRest l)))) : Int)] 27, .blk g3 #[.slice (if cq5 = L then Aq5 else Aq5.map (·.add (L * 1))) (((tkRest (tkRest (tkRest (tkRest (tkRest l))))).length) - L) (cq5 - L)] 22, .blk g6 #[.bool (((((true && tkOk 63 l) && tkOk 281474976710656 (tkRest l)) && tkOk 4096 (tkRest (tkRest l))) && tkOk 281474976710656 (tkRest (tkRest (tkRest l)))) && tkOk 281474976710656 (tkRest (tkRest (tkRest (tkRest l)))))] 4, .blk g8 #[.int .u8 ((1 : Nat) : Int), .int .u8 (tkVal 63 l : Int), .int .i64 (tkVal 281474976710656 (tkRest l) : Int), .int .i64 0, .slice A58 es.length c58] 37]) [] ?_
            replace HM := HM.drew
            have HS := HM.picks (fs' := [.row (.slice A58 es.length c58) es.length (es.flatMap evL) 55 11, .blk g10 #[.int .i64 (tkVal 281474976710656 (tkRest (tkRest (tkRest l))) : Int), .int .i64 (tkVal 281474976710656 (tkRest (tkRest (tkRest (tkRest l)))) : Int)] 27, .blk g3 #[.slice (if cq5 = L then Aq5 else Aq5.map (·.add (L * 1))) (((tkRest (tkRest (tkRest (tkRest (tkRest l))))).length) - L) (cq5 - L)] 22, .blk g6 #[.bool (((((true && tkOk 63 l) && tkOk 281474976710656 (tkRest l)) && tkOk 4096 (tkRest (tkRest l))) && tkOk 281474976710656 (tkRest (tkRest (tkRest l)))) && tkOk 281474976710656 (tkRest (tkRest (tkRest (tkRest l)))))] 4, .blk g8 #[.int .u8 ((1 : Nat) : Int), .int .u8 (tkVal 63 l : Int), .int .i64 (tkVal 281474976710656 (tkRest l) : Int), .int .i64 0, .slice A58 es.length c58] 37]) [0, 1, 2, 3, 4] (by decide) rfl
            refine any_yl HF HS (i := 0) rfl rfl (d := 88) rfl (by decide) (by kernel_rfl) (fun _ _ _ h => h) (v := .agg #[.int .u8 ((1 : Nat) : Int), .int .u8 (tkVal 63 l : Int), .int .i64 (tkVal 281474976710656 (tkRest l) : Int), .int .i64 0, .slice A58 es.length c58]) (Yl.loadS rfl rfl si_bk rfl (fun _ h => range_of_block (h.blk (i := 4) rfl))) ?_; clear HF; intro a HF
            refine any_yl HF HS (i := 1) rfl rfl (d := 89) rfl (by decide) (by kernel_rfl) (fun _ _ _ h => h) (v := .bool (((((true && tkOk 63 l) && tkOk 281474976710656 (tkRest l)) && tkOk 4096 (tkRest (tkRest l))) && tkOk 281474976710656 (tkRest (tkRest (tkRest l)))) && tkOk 281474976710656 (tkRest (tkRest (tkRest (tkRest l)))))) (Yl.load1 rfl rfl (by kernel_rfl) (fun _ h => h.cell (i := 3) rfl rfl)) ?_; clear HF; intro a HF
            refine any_pures HF (fun _ => HS) (fun _ _ d _ _ h => by cases d <;> exact h) [2] #[true, true, true, false, false, false, false, false, false, false, false, false, false] [(90, .bool (((((true && tkOk 63 l) && tkOk 281474976710656 (tkRest l)) && tkOk 4096 (tkRest (tkRest l))) && tkOk 281474976710656 (tkRest (tkRest (tkRest l)))) && tkOk 281474976710656 (tkRest (tkRest (tkRest (tkRest l))))))] (by kernel_rfl) ?_; clear HF; intro a HF
            rcases Bool.eq_false_or_eq_true ((((((true && tkOk 63 l) && tkOk 281474976710656 (tkRest l)) && tkOk 4096 (tkRest (tkRest l))) && tkOk 281474976710656 (tkRest (tkRest (tkRest l)))) && tkOk 281474976710656 (tkRest (tkRest (tkRest (tkRest l)))))) with hb90 | hb90
            · have HF := HF.as (t := 90) (u := .bool true) rfl (by rw [hb90])
              refine any_yl HF HS (i := 3) rfl rfl (d := 91) rfl (by decide) (by kernel_rfl) (fun _ _ _ h => h) (v := .slice (if cq5 = L then Aq5 else Aq5.map (·.add (L * 1))) (((tkRest (tkRest (tkRest (tkRest (tkRest l))))).length) - L) (cq5 - L)) (Yl.load1 rfl rfl (by kernel_rfl) (fun _ h => h.cell (i := 2) rfl rfl)) ?_; clear HF; intro a HF
              refine any_yl HF HS (i := 4) rfl rfl (d := 92) rfl (by decide) (by kernel_rfl) (fun _ _ _ h => h) (v := .int .i64 ((((tkRest (tkRest (tkRest (tkRest (tkRest l))))).length) - L : Nat) : Int)) (Yl.len rfl rfl (by kernel_rfl)) ?_; clear HF; intro a HF
              refine any_pures HF (fun _ => HS) (fun _ _ d _ _ h => by cases d <;> exact h) [5, 6, 7] #[true, true, true, true, true, true, true, true, false, false, false, false, false] [(95, .bool ((((((tkRest (tkRest (tkRest (tkRest (tkRest l))))).length) - L : Nat) : Int) : Int) == (0 : Int))), (94, .bool ((((((tkRest (tkRest (tkRest (tkRest (tkRest l))))).length) - L : Nat) : Int) : Int) == (0 : Int))), (93, .bool ((((((tkRest (tkRest (tkRest (tkRest (tkRest l))))).length) - L : Nat) : Int) : Int) == (0 : Int)))] (by kernel_rfl) ?_; clear HF; intro a HF
              rcases Bool.eq_false_or_eq_true ((((((tkRest (tkRest (tkRest (tkRest (tkRest l))))).length) - L : Nat) : Int) : Int) == (0 : Int)) with hb95 | hb95
              · have HF := HF.as (t := 95) (u := .bool true) rfl (by rw [hb95])
                have hd95 := eq_of_beq hb95
                refine any_yl HF HS (i := 8) rfl rfl (d := 96) rfl (by decide) (by kernel_rfl) (fun _ _ _ h => h) (v := .agg #[.int .u8 ((1 : Nat) : Int), .int .u8 (tkVal 63 l : Int), .int .i64 (tkVal 281474976710656 (tkRest l) : Int), .int .i64 0, .slice A58 es.length c58]) (Yl.loadS rfl rfl si_bk rfl (fun _ h => range_of_block (h.blk (i := 4) rfl))) ?_; clear HF; intro a HF
                refine any_all [9] (by kernel_rfl) rfl ?_
                refine all_cons ?_ all_nil
                refine any_op HF (i := 9) rfl rfl ?_
                refine e_call HF (vs := [.agg #[.int .u8 ((1 : Nat) : Int), .int .u8 (tkVal 63 l : Int), .int .i64 (tkVal 281474976710656 (tkRest l) : Int), .int .i64 0, .slice A58 es.length c58]]) rfl (by kernel_rfl) (by kernel_rfl) rfl (by decide) (fits_any ⟨1, tkVal 63 l, (tkVal 281474976710656 (tkRest l) : Int), 0, es⟩ (evsOk (by omega) (by omega) (fun e he => (rw5 e he).1)) A58 c58 B _ (hL.mem HM hB) (HM.le hB) (HM.rd (i := 0) rfl) (by show es.length ≤ _; omega)) ?_
                rintro _ w97 ⟨rfl, hbw⟩
                refine ⟨_, rfl, ?_⟩
                replace HM := HM.call hbw
                clear HF; intro a HF
                refine keepS (HM.picks [0, 1, 2, 3, 4] (by decide) rfl) (fun HS => ?_)
                refine any_pures HF (fun _ => HS) (fun _ _ d _ _ h => by cases d <;> exact h) [10] #[true, true, true, true, true, true, true, true, true, true, true, false, false] [(98, .bool (Bk.fits ⟨1, tkVal 63 l, (tkVal 281474976710656 (tkRest l) : Int), 0, es⟩))] (by kernel_rfl) ?_; clear HF; intro a HF
                refine any_all [11] (by kernel_rfl) rfl ?_
                refine all_cons ?_ all_nil
                refine any_op HF (i := 11) rfl rfl ?_
                refine e_storeAll HF HM (i := 5) (cs := #[.int .u8 0, .int .u8 0, .int .i64 0, .int .i64 0, .slice none 0 0]) (ds := #[.int .u8 ((1 : Nat) : Int), .int .u8 (tkVal 63 l : Int), .int .i64 (tkVal 281474976710656 (tkRest l) : Int), .int .i64 0, .slice A58 es.length c58]) rfl rfl rfl rfl si_bk rfl rfl (by simp [Value.oneCell']) rfl ?_
                clear HM; intro w15_11 HM
                refine keepS (HM.picks [0, 1, 2, 3, 4] (by decide) rfl) (fun HS => ?_)
                refine any_pures HF (fun _ => HS) (fun _ _ d _ _ h => by cases d <;> exact h) [12] #[true, true, true, true, true, true, true, true, true, true, true, true, true] [(5, .bool (Bk.fits ⟨1, tkVal 63 l, (tkVal 281474976710656 (tkRest l) : Int), 0, es⟩))] (by kernel_rfl) ?_; clear HF; intro a HF
                refine any_done (by kernel_rfl) ?_
                replace HF := HF.sub (σ' := [(5, .bool (Bk.fits ⟨1, tkVal 63 l, (tkVal 281474976710656 (tkRest l) : Int), 0, es⟩)), (81, .bool false), (11, .slice A58 es.length c58), (10, .pointer (some ⟨g10, 0, none⟩)), (46, .bool true), (9, .int .i64 (tkVal 4096 (tkRest (tkRest l)) : Int)), (18, .bool false), (8, .pointer (some ⟨g8, 0, none⟩)), (7, .func (.func 59) #[] #[.pointer (some ⟨g3, 0, none⟩), .pointer (some ⟨g6, 0, none⟩)]), (6, .pointer (some ⟨g6, 0, none⟩)), (4, .pointer (some ⟨g4, 0, none⟩)), (3, .pointer (some ⟨g3, 0, none⟩)), (0, .int .u8 ((1 : Nat) : Int))]) (by kernel_rfl)
                have HF := HF.as (t := 5) (u := .bool ((parseEvs l).isSome)) rfl (congrArg Value.bool (by rw [parseR1 h3 (by omega) hq her, rows_is ⟨hz.2.1, hz.2.2⟩, show (tkOk 281474976710656 (tkRest (tkRest (tkRest l))) && tkOk 281474976710656 (tkRest (tkRest (tkRest (tkRest l))))) = true by have h9 := hb90; rw [tk5 (l := l), tk3, h3, Bool.true_and] at h9; exact h9, decide_eq_true (by omega), Bool.true_and, Bool.true_and]))
                exact ⟨HF.sub (by kernel_rfl), HM.picks [0, 1, 2, 3, 4, 5] (by decide) rfl⟩
              · have HF := HF.as (t := 95) (u := .bool false) rfl (by rw [hb95])
                have hd95 := ne_of_beq_false hb95
                refine any_pures HF (fun _ => HS) (fun _ _ d _ _ h => by cases d <;> exact h) [8, 9, 10] #[true, true, true, true, true, true, true, true, true, true, true, false, false] [(98, .bool false), (97, undef), (96, undef)] (by kernel_rfl) ?_; clear HF; intro a HF
                refine any_all [11] (by kernel_rfl) rfl ?_
                refine all_cons ?_ all_nil
                refine any_op HF (i := 11) rfl rfl ?_
                refine e_storeAll HF HM (i := 5) (cs := #[.int .u8 0, .int .u8 0, .int .i64 0, .int .i64 0, .slice none 0 0]) (ds := #[.int .u8 ((1 : Nat) : Int), .int .u8 (tkVal 63 l : Int), .int .i64 (tkVal 281474976710656 (tkRest l) : Int), .int .i64 0, .slice A58 es.length c58]) rfl rfl rfl rfl si_bk rfl rfl (by simp [Value.oneCell']) rfl ?_
                clear HM; intro w15_11 HM
                refine keepS (HM.picks [0, 1, 2, 3, 4] (by decide) rfl) (fun HS => ?_)
                refine any_pures HF (fun _ => HS) (fun _ _ d _ _ h => by cases d <;> exact h) [12] #[true, true, true, true, true, true, true, true, true, true, true, true, true] [(5, .bool false)] (by kernel_rfl) ?_; clear HF; intro a HF
                refine any_done (by kernel_rfl) ?_
                replace HF := HF.sub (σ' := [(5, .bool false), (81, .bool false), (11, .slice A58 es.length c58), (10, .pointer (some ⟨g10, 0, none⟩)), (46, .bool true), (9, .int .i64 (tkVal 4096 (tkRest (tkRest l)) : Int)), (18, .bool false), (8, .pointer (some ⟨g8, 0, none⟩)), (7, .func (.func 59) #[] #[.pointer (some ⟨g3, 0, none⟩), .pointer (some ⟨g6, 0, none⟩)]), (6, .pointer (some ⟨g6, 0, none⟩)), (4, .pointer (some ⟨g4, 0, none⟩)), (3, .pointer (some ⟨g3, 0, none⟩)), (0, .int .u8 ((1 : Nat) : Int))]) (by kernel_rfl)
                have HF := HF.as (t := 5) (u := .bool ((parseEvs l).isSome)) rfl (congrArg Value.bool (by rw [parseR1 h3 (by omega) hq her, rows_is ⟨hz.2.1, hz.2.2⟩, decide_eq_false (by omega), Bool.false_and, Bool.and_false]))
                exact ⟨HF.sub (by kernel_rfl), HM.picks [0, 1, 2, 3, 4, 5] (by decide) rfl⟩
            · have HF := HF.as (t := 90) (u := .bool false) rfl (by rw [hb90])
              refine any_pures HF (fun _ => HS) (fun _ _ d _ _ h => by cases d <;> exact h) [3, 4, 5, 6, 7, 8, 9, 10] #[true, true, true, true, true, true, true, true, true, true, true, false, false] [(98, .bool false), (97, undef), (96, undef), (95, .bool false), (94, .bool false), (93, undef), (92, undef), (91, undef)] (by kernel_rfl) ?_; clear HF; intro a HF
              refine any_all [11] (by kernel_rfl) rfl ?_
              refine all_cons ?_ all_nil
              refine any_op HF (i := 11) rfl rfl ?_
              refine e_storeAll HF HM (i := 5) (cs := #[.int .u8 0, .int .u8 0, .int .i64 0, .int .i64 0, .slice none 0 0]) (ds := #[.int .u8 ((1 : Nat) : Int), .int .u8 (tkVal 63 l : Int), .int .i64 (tkVal 281474976710656 (tkRest l) : Int), .int .i64 0, .slice A58 es.length c58]) rfl rfl rfl rfl si_bk rfl rfl (by simp [Value.oneCell']) rfl ?_
              clear HM; intro w15_11 HM
              refine keepS (HM.picks [0, 1, 2, 3, 4] (by decide) rfl) (fun HS => ?_)
              refine any_pures HF (fun _ => HS) (fun _ _ d _ _ h => by cases d <;> exact h) [12] #[true, true, true, true, true, true, true, true, true, true, true, true, true] [(5, .bool false)] (by kernel_rfl) ?_; clear HF; intro a HF
              refine any_done (by kernel_rfl) ?_
              replace HF := HF.sub (σ' := [(5, .bool false), (81, .bool false), (11, .slice A58 es.length c58), (10, .pointer (some ⟨g10, 0, none⟩)), (46, .bool true), (9, .int .i64 (tkVal 4096 (tkRest (tkRest l)) : Int)), (18, .bool false), (8, .pointer (some ⟨g8, 0, none⟩)), (7, .func (.func 59) #[] #[.pointer (some ⟨g3, 0, none⟩), .pointer (some ⟨g6, 0, none⟩)]), (6, .pointer (some ⟨g6, 0, none⟩)), (4, .pointer (some ⟨g4, 0, none⟩)), (3, .pointer (some ⟨g3, 0, none⟩)), (0, .int .u8 ((1 : Nat) : Int))]) (by kernel_rfl)
              have HF := HF.as (t := 5) (u := .bool ((parseEvs l).isSome)) rfl (congrArg Value.bool (by rw [parseR1 h3 (by omega) hq her, rows_is ⟨hz.2.1, hz.2.2⟩, show (tkOk 281474976710656 (tkRest (tkRest (tkRest l))) && tkOk 281474976710656 (tkRest (tkRest (tkRest (tkRest l))))) = false by have h9 := hb90; rw [tk5 (l := l), tk3, h3, Bool.true_and] at h9; exact h9, Bool.false_and]))
              exact ⟨HF.sub (by kernel_rfl), HM.picks [0, 1, 2, 3, 4, 5] (by decide) rfl⟩
          clear HF HM; rintro a w15 ⟨HF, HM⟩
          refine wp_ret ?_
          rcases Bool.eq_false_or_eq_true ((parseEvs l).isSome) with hb5 | hb5
          · have HF := HF.as (t := 5) (u := .bool true) rfl (by rw [hb5])
            have hfin := hb5
            exact ret2 rfl HF (.cellS (i := 5) HF HM rfl rfl si_bk rfl) (.tmp HF rfl) (parseIs_some (b := ⟨1, tkVal 63 l, (tkVal 281474976710656 (tkRest l) : Int), 0, es⟩) (A := A58) (c := c58) (by rw [parseR_evs]; rw [parseR1 h3 (by omega) hq her] at hfin ⊢; exact rows_val hfin) (HM.own (i := 0) rfl) hc58 HM.below)
          · have HF := HF.as (t := 5) (u := .bool false) rfl (by rw [hb5])
            have hfin := hb5
            exact ret2 rfl HF (.cellS (i := 5) HF HM rfl rfl si_bk rfl) (.tmp HF rfl) (parseIs_none (by rw [parseR_evs]; exact Option.not_isSome_iff_eq_none.1 (by rw [hfin]; decide)) rfl (by simp [Value.oneCell']) HM.below)
      · have HF := HF.as (t := 46) (u := .bool false) rfl (by rw [hb46])
        have hd46 := of_decide_eq_false hb46
        refine cond_false HF rfl ?_
        refine wp_skip ?_
        refine cut_seq (fun aS wS => Fr aS 99 [] [(5, .bool ((parseEvs l).isSome)), (46, .bool false), (9, .int .i64 (tkVal 4096 (tkRest (tkRest l)) : Int)), (18, .bool false), (8, .pointer (some ⟨g8, 0, none⟩)), (7, .func (.func 59) #[] #[.pointer (some ⟨g3, 0, none⟩), .pointer (some ⟨g6, 0, none⟩)]), (6, .pointer (some ⟨g6, 0, none⟩)), (4, .pointer (some ⟨g4, 0, none⟩)), (3, .pointer (some ⟨g3, 0, none⟩)), (0, .int .u8 ((1 : Nat) : Int))] ∧ Mem w wS [.blk g3 #[.slice Aq3 ((tkRest (tkRest (tkRest l))).length) cq3] 22, .blk g6 #[.bool (((true && tkOk 63 l) && tkOk 281474976710656 (tkRest l)) && tkOk 4096 (tkRest (tkRest l)))] 4, .blk g8 #[.int .u8 ((1 : Nat) : Int), .int .u8 (tkVal 63 l : Int), .int .i64 (tkVal 281474976710656 (tkRest l) : Int), .int .i64 0, .slice none 0 0] 37, .blk g4 #[.int .u8 ((1 : Nat) : Int), .int .u8 (tkVal 63 l : Int), .int .i64 (tkVal 281474976710656 (tkRest l) : Int), .int .i64 0, .slice none 0 0] 37]) ?_ ?_
        ·
          refine any_start (by kernel_rfl) (fun wS => Mem w wS [.blk g3 #[.slice Aq3 ((tkRest (tkRest (tkRest l))).length) cq3] 22, .blk g6 #[.bool (((true && tkOk 63 l) && tkOk 281474976710656 (tkRest l)) && tkOk 4096 (tkRest (tkRest l)))] 4, .blk g8 #[.int .u8 ((1 : Nat) : Int), .int .u8 (tkVal 63 l : Int), .int .i64 (tkVal 281474976710656 (tkRest l) : Int), .int .i64 0, .slice none 0 0] 37]) [] ?_
          replace HM := HM.drew
          have HS := HM.picks (fs' := [.blk g3 #[.slice Aq3 ((tkRest (tkRest (tkRest l))).length) cq3] 22, .blk g6 #[.bool (((true && tkOk 63 l) && tkOk 281474976710656 (tkRest l)) && tkOk 4096 (tkRest (tkRest l)))] 4, .blk g8 #[.int .u8 ((1 : Nat) : Int), .int .u8 (tkVal 63 l : Int), .int .i64 (tkVal 281474976710656 (tkRest l) : Int), .int .i64 0, .slice none 0 0] 37]) [0, 1, 2] (by decide) rfl
          refine any_yl HF HS (i := 0) rfl rfl (d := 88) rfl (by decide) (by kernel_rfl) (fun _ _ _ h => h) (v := .agg #[.int .u8 ((1 : Nat) : Int), .int .u8 (tkVal 63 l : Int), .int .i64 (tkVal 281474976710656 (tkRest l) : Int), .int .i64 0, .slice none 0 0]) (Yl.loadS rfl rfl si_bk rfl (fun _ h => range_of_block (h.blk (i := 2) rfl))) ?_; clear HF; intro a HF
          refine any_yl HF HS (i := 1) rfl rfl (d := 89) rfl (by decide) (by kernel_rfl) (fun _ _ _ h => h) (v := .bool (((true && tkOk 63 l) && tkOk 281474976710656 (tkRest l)) && tkOk 4096 (tkRest (tkRest l)))) (Yl.load1 rfl rfl (by kernel_rfl) (fun _ h => h.cell (i := 1) rfl rfl)) ?_; clear HF; intro a HF
          refine any_pures HF (fun _ => HS) (fun _ _ d _ _ h => by cases d <;> exact h) [2] #[true, true, true, false, false, false, false, false, false, false, false, false, false] [(90, .bool (((true && tkOk 63 l) && tkOk 281474976710656 (tkRest l)) && tkOk 4096 (tkRest (tkRest l))))] (by kernel_rfl) ?_; clear HF; intro a HF
          rcases Bool.eq_false_or_eq_true ((((true && tkOk 63 l) && tkOk 281474976710656 (tkRest l)) && tkOk 4096 (tkRest (tkRest l)))) with hb90 | hb90
          · have HF := HF.as (t := 90) (u := .bool true) rfl (by rw [hb90])
            refine any_yl HF HS (i := 3) rfl rfl (d := 91) rfl (by decide) (by kernel_rfl) (fun _ _ _ h => h) (v := .slice Aq3 ((tkRest (tkRest (tkRest l))).length) cq3) (Yl.load1 rfl rfl (by kernel_rfl) (fun _ h => h.cell (i := 0) rfl rfl)) ?_; clear HF; intro a HF
            refine any_yl HF HS (i := 4) rfl rfl (d := 92) rfl (by decide) (by kernel_rfl) (fun _ _ _ h => h) (v := .int .i64 (((tkRest (tkRest (tkRest l))).length : Nat) : Int)) (Yl.len rfl rfl (by kernel_rfl)) ?_; clear HF; intro a HF
            refine any_pures HF (fun _ => HS) (fun _ _ d _ _ h => by cases d <;> exact h) [5, 6, 7] #[true, true, true, true, true, true, true, true, false, false, false, false, false] [(95, .bool (((((tkRest (tkRest (tkRest l))).length : Nat) : Int) : Int) == (0 : Int))), (94, .bool (((((tkRest (tkRest (tkRest l))).length : Nat) : Int) : Int) == (0 : Int))), (93, .bool (((((tkRest (tkRest (tkRest l))).length : Nat) : Int) : Int) == (0 : Int)))] (by kernel_rfl) ?_; clear HF; intro a HF
            rcases Bool.eq_false_or_eq_true (((((tkRest (tkRest (tkRest l))).length : Nat) : Int) : Int) == (0 : Int)) with hb95 | hb95
            · have HF := HF.as (t := 95) (u := .bool true) rfl (by rw [hb95])
              have hd95 := eq_of_beq hb95
              refine any_yl HF HS (i := 8) rfl rfl (d := 96) rfl (by decide) (by kernel_rfl) (fun _ _ _ h => h) (v := .agg #[.int .u8 ((1 : Nat) : Int), .int .u8 (tkVal 63 l : Int), .int .i64 (tkVal 281474976710656 (tkRest l) : Int), .int .i64 0, .slice none 0 0]) (Yl.loadS rfl rfl si_bk rfl (fun _ h => range_of_block (h.blk (i := 2) rfl))) ?_; clear HF; intro a HF
              refine any_all [9] (by kernel_rfl) rfl ?_
              refine all_cons ?_ all_nil
              refine any_op HF (i := 9) rfl rfl ?_
              refine e_call HF (vs := [.agg #[.int .u8 ((1 : Nat) : Int), .int .u8 (tkVal 63 l : Int), .int .i64 (tkVal 281474976710656 (tkRest l) : Int), .int .i64 0, .slice none 0 0]]) rfl (by kernel_rfl) (by kernel_rfl) rfl (by decide) (fits_any ⟨1, tkVal 63 l, (tkVal 281474976710656 (tkRest l) : Int), 0, []⟩ (evsOk (by omega) (by omega) (by simp)) none 0 B _ (hL.mem HM hB) (HM.le hB) Rd.nil (by show 0 ≤ _; omega)) ?_
              rintro _ w97 ⟨rfl, hbw⟩
              refine ⟨_, rfl, ?_⟩
              replace HM := HM.call hbw
              clear HF; intro a HF
              refine keepS (HM.picks [0, 1, 2] (by decide) rfl) (fun HS => ?_)
              refine any_pures HF (fun _ => HS) (fun _ _ d _ _ h => by cases d <;> exact h) [10] #[true, true, true, true, true, true, true, true, true, true, true, false, false] [(98, .bool (Bk.fits ⟨1, tkVal 63 l, (tkVal 281474976710656 (tkRest l) : Int), 0, []⟩))] (by kernel_rfl) ?_; clear HF; intro a HF
              refine any_all [11] (by kernel_rfl) rfl ?_
              refine all_cons ?_ all_nil
              refine any_op HF (i := 11) rfl rfl ?_
              refine e_storeAll HF HM (i := 3) (cs := #[.int .u8 0, .int .u8 0, .int .i64 0, .int .i64 0, .slice none 0 0]) (ds := #[.int .u8 ((1 : Nat) : Int), .int .u8 (tkVal 63 l : Int), .int .i64 (tkVal 281474976710656 (tkRest l) : Int), .int .i64 0, .slice none 0 0]) rfl rfl rfl rfl si_bk rfl rfl (by simp [Value.oneCell']) rfl ?_
              clear HM; intro w15_11 HM
              refine keepS (HM.picks [0, 1, 2] (by decide) rfl) (fun HS => ?_)
              refine any_pures HF (fun _ => HS) (fun _ _ d _ _ h => by cases d <;> exact h) [12] #[true, true, true, true, true, true, true, true, true, true, true, true, true] [(5, .bool (Bk.fits ⟨1, tkVal 63 l, (tkVal 281474976710656 (tkRest l) : Int), 0, []⟩))] (by kernel_rfl) ?_; clear HF; intro a HF
              refine any_done (by kernel_rfl) ?_
              replace HF := HF.sub (σ' := [(5, .bool (Bk.fits ⟨1, tkVal 63 l, (tkVal 281474976710656 (tkRest l) : Int), 0, []⟩)), (46, .bool false), (9, .int .i64 (tkVal 4096 (tkRest (tkRest l)) : Int)), (18, .bool false), (8, .pointer (some ⟨g8, 0, none⟩)), (7, .func (.func 59) #[] #[.pointer (some ⟨g3, 0, none⟩), .pointer (some ⟨g6, 0, none⟩)]), (6, .pointer (some ⟨g6, 0, none⟩)), (4, .pointer (some ⟨g4, 0, none⟩)), (3, .pointer (some ⟨g3, 0, none⟩)), (0, .int .u8 ((1 : Nat) : Int))]) (by kernel_rfl)
              have HF := HF.as (t := 5) (u := .bool ((parseEvs l).isSome)) rfl (congrArg Value.bool (by rw [few_is (l := l) (fun hh => by have h0 := hh.2; omega), h3, decide_eq_true (by omega), Bool.true_and, Bool.true_and]))
              exact ⟨HF.sub (by kernel_rfl), HM.picks [0, 1, 2, 3] (by decide) rfl⟩
            · have HF := HF.as (t := 95) (u := .bool false) rfl (by rw [hb95])
              have hd95 := ne_of_beq_false hb95
              refine any_pures HF (fun _ => HS) (fun _ _ d _ _ h => by cases d <;> exact h) [8, 9, 10] #[true, true, true, true, true, true, true, true, true, true, true, false, false] [(98, .bool false), (97, undef), (96, undef)] (by kernel_rfl) ?_; clear HF; intro a HF
              refine any_all [11] (by kernel_rfl) rfl ?_
              refine all_cons ?_ all_nil
              refine any_op HF (i := 11) rfl rfl ?_
              refine e_storeAll HF HM (i := 3) (cs := #[.int .u8 0, .int .u8 0, .int .i64 0, .int .i64 0, .slice none 0 0]) (ds := #[.int .u8 ((1 : Nat) : Int), .int .u8 (tkVal 63 l : Int), .int .i64 (tkVal 281474976710656 (tkRest l) : Int), .int .i64 0, .slice none 0 0]) rfl rfl rfl rfl si_bk rfl rfl (by simp [Value.oneCell']) rfl ?_
              clear HM; intro w15_11 HM
              refine keepS (HM.picks [0, 1, 2] (by decide) rfl) (fun HS => ?_)
              refine any_pures HF (fun _ => HS) (fun _ _ d _ _ h => by cases d <;> exact h) [12] #[true, true, true, true, true, true, true, true, true, true, true, true, true] [(5, .bool false)] (by kernel_rfl) ?_; clear HF; intro a HF
              refine any_done (by kernel_rfl) ?_
              replace HF := HF.sub (σ' := [(5, .bool false), (46, .bool false), (9, .int .i64 (tkVal 4096 (tkRest (tkRest l)) : Int)), (18, .bool false), (8, .pointer (some ⟨g8, 0, none⟩)), (7, .func (.func 59) #[] #[.pointer (some ⟨g3, 0, none⟩), .pointer (some ⟨g6, 0, none⟩)]), (6, .pointer (some ⟨g6, 0, none⟩)), (4, .pointer (some ⟨g4, 0, none⟩)), (3, .pointer (some ⟨g3, 0, none⟩)), (0, .int .u8 ((1 : Nat) : Int))]) (by kernel_rfl)
              have HF := HF.as (t := 5) (u := .bool ((parseEvs l).isSome)) rfl (congrArg Value.bool (by rw [few_is (l := l) (fun hh => by have h0 := hh.2; omega), decide_eq_false (by omega), Bool.false_and, Bool.and_false]))
              exact ⟨HF.sub (by kernel_rfl), HM.picks [0, 1, 2, 3] (by decide) rfl⟩
          · have HF := HF.as (t := 90) (u := .bool false) rfl (by rw [hb90])
            refine any_pures HF (fun _ => HS) (fun _ _ d _ _ h => by cases d <;> exact h) [3, 4, 5, 6, 7, 8, 9, 10] #[true, true, true, true, true, true, true, true, true, true, true, false, false] [(98, .bool false), (97, undef), (96, undef), (95, .bool false), (94, .bool false), (93, undef), (92, undef), (91, undef)] (by kernel_rfl) ?_; clear HF; intro a HF
            refine any_all [11] (by kernel_rfl) rfl ?_
            refine all_cons ?_ all_nil
            refine any_op HF (i := 11) rfl rfl ?_
            refine e_storeAll HF HM (i := 3) (cs := #[.int .u8 0, .int .u8 0, .int .i64 0, .int .i64 0, .slice none 0 0]) (ds := #[.int .u8 ((1 : Nat) : Int), .int .u8 (tkVal 63 l : Int), .int .i64 (tkVal 281474976710656 (tkRest l) : Int), .int .i64 0, .slice none 0 0]) rfl rfl rfl rfl si_bk rfl rfl (by simp [Value.oneCell']) rfl ?_
            clear HM; intro w15_11 HM
            refine keepS (HM.picks [0, 1, 2] (by decide) rfl) (fun HS => ?_)
            refine any_pures HF (fun _ => HS) (fun _ _ d _ _ h => by cases d <;> exact h) [12] #[true, true, true, true, true, true, true, true, true, true, true, true, true] [(5, .bool false)] (by kernel_rfl) ?_; clear HF; intro a HF
            refine any_done (by kernel_rfl) ?_
            replace HF := HF.sub (σ' := [(5, .bool false), (46, .bool false), (9, .int .i64 (tkVal 4096 (tkRest (tkRest l)) : Int)), (18, .bool false), (8, .pointer (some ⟨g8, 0, none⟩)), (7, .func (.func 59) #[] #[.pointer (some ⟨g3, 0, none⟩), .pointer (some ⟨g6, 0, none⟩)]), (6, .pointer (some ⟨g6, 0, none⟩)), (4, .pointer (some ⟨g4, 0, none⟩)), (3, .pointer (some ⟨g3, 0, none⟩)), (0, .int .u8 ((1 : Nat) : Int))]) (by kernel_rfl)
            have HF := HF.as (t := 5) (u := .bool ((parseEvs l).isSome)) rfl (congrArg Value.bool (by have h9 := hb90; rw [tk3] at h9; rw [few_is (l := l) (fun hh => by have h0 := hh.2; omega), h9, Bool.false_and]))
            exact ⟨HF.sub (by kernel_rfl), HM.picks [0, 1, 2, 3] (by decide) rfl⟩
        clear HF HM; rintro a w15 ⟨HF, HM⟩
        refine wp_ret ?_
        rcases Bool.eq_false_or_eq_true ((parseEvs l).isSome) with hb5 | hb5
        · have HF := HF.as (t := 5) (u := .bool true) rfl (by rw [hb5])
          have hfin := hb5
          exact ret2 rfl HF (.cellS (i := 3) HF HM rfl rfl si_bk rfl) (.tmp HF rfl) (parseIs_some (b := ⟨1, tkVal 63 l, (tkVal 281474976710656 (tkRest l) : Int), 0, []⟩) (A := none) (c := 0) (by rw [parseR_evs]; exact few_val (fun hh => by have h0 := hh.2; omega) hfin) (World.ownsRow_nil _ _ _ _) (Nat.le_refl _) HM.below)
        · have HF := HF.as (t := 5) (u := .bool false) rfl (by rw [hb5])
          have hfin := hb5
          exact ret2 rfl HF (.cellS (i := 3) HF HM rfl rfl si_bk rfl) (.tmp HF rfl) (parseIs_none (by rw [parseR_evs]; exact Option.not_isSome_iff_eq_none.1 (by rw [hfin]; decide)) rfl (by simp [Value.oneCell']) HM.below)
    · have HF := HF.as (t := 43) (u := .bool false) rfl (by rw [hb43])
      have h3 : parse3 l = false := by rw [← tk3]; exact hb43
      refine from_pures HF 3 2 (j := 5) [(46, .bool false), (45, undef), (44, undef)] (by kernel_rfl) rfl ?_; clear HF; intro a HF
      refine from_done rfl ?_
      replace HF := HF.sub (σ' := [(46, .bool false), (9, .int .i64 (tkVal 4096 (tkRest (tkRest l)) : Int)), (18, .bool false), (8, .pointer (some ⟨g8, 0, none⟩)), (7, .func (.func 59) #[] #[.pointer (some ⟨g3, 0, none⟩), .pointer (some ⟨g6, 0, none⟩)]), (6, .pointer (some ⟨g6, 0, none⟩)), (5, .bool false), (4, .pointer (some ⟨g4, 0, none⟩)), (3, .pointer (some ⟨g3, 0, none⟩)), (0, .int .u8 ((1 : Nat) : Int))]) (by kernel_rfl)
      refine cond_false HF rfl ?_
      refine wp_skip ?_
      refine cut_seq (fun aS wS => Fr aS 99 [] [(5, .bool ((parseEvs l).isSome)), (46, .bool false), (9, .int .i64 (tkVal 4096 (tkRest (tkRest l)) : Int)), (18, .bool false), (8, .pointer (some ⟨g8, 0, none⟩)), (7, .func (.func 59) #[] #[.pointer (some ⟨g3, 0, none⟩), .pointer (some ⟨g6, 0, none⟩)]), (6, .pointer (some ⟨g6, 0, none⟩)), (4, .pointer (some ⟨g4, 0, none⟩)), (3, .pointer (some ⟨g3, 0, none⟩)), (0, .int .u8 ((1 : Nat) : Int))] ∧ Mem w wS [.blk g3 #[.slice Aq3 ((tkRest (tkRest (tkRest l))).length) cq3] 22, .blk g6 #[.bool (((true && tkOk 63 l) && tkOk 281474976710656 (tkRest l)) && tkOk 4096 (tkRest (tkRest l)))] 4, .blk g8 #[.int .u8 ((1 : Nat) : Int), .int .u8 (tkVal 63 l : Int), .int .i64 (tkVal 281474976710656 (tkRest l) : Int), .int .i64 0, .slice none 0 0] 37, .blk g4 #[.int .u8 ((1 : Nat) : Int), .int .u8 (tkVal 63 l : Int), .int .i64 (tkVal 281474976710656 (tkRest l) : Int), .int .i64 0, .slice none 0 0] 37]) ?_ ?_
      ·
        refine any_start (by kernel_rfl) (fun wS => Mem w wS [.blk g3 #[.slice Aq3 ((tkRest (tkRest (tkRest l))).length) cq3] 22, .blk g6 #[.bool (((true && tkOk 63 l) && tkOk 281474976710656 (tkRest l)) && tkOk 4096 (tkRest (tkRest l)))] 4, .blk g8 #[.int .u8 ((1 : Nat) : Int), .int .u8 (tkVal 63 l : Int), .int .i64 (tkVal 281474976710656 (tkRest l) : Int), .int .i64 0, .slice none 0 0] 37]) [] ?_
        replace HM := HM.drew
        have HS := HM.picks (fs' := [.blk g3 #[.slice Aq3 ((tkRest (tkRest (tkRest l))).length) cq3] 22, .blk g6 #[.bool (((true && tkOk 63 l) && tkOk 281474976710656 (tkRest l)) && tkOk 4096 (tkRest (tkRest l)))] 4, .blk g8 #[.int .u8 ((1 : Nat) : Int), .int .u8 (tkVal 63 l : Int), .int .i64 (tkVal 281474976710656 (tkRest l) : Int), .int .i64 0, .slice none 0 0] 37]) [0, 1, 2] (by decide) rfl
        refine any_yl HF HS (i := 0) rfl rfl (d := 88) rfl (by decide) (by kernel_rfl) (fun _ _ _ h => h) (v := .agg #[.int .u8 ((1 : Nat) : Int), .int .u8 (tkVal 63 l : Int), .int .i64 (tkVal 281474976710656 (tkRest l) : Int), .int .i64 0, .slice none 0 0]) (Yl.loadS rfl rfl si_bk rfl (fun _ h => range_of_block (h.blk (i := 2) rfl))) ?_; clear HF; intro a HF
        refine any_yl HF HS (i := 1) rfl rfl (d := 89) rfl (by decide) (by kernel_rfl) (fun _ _ _ h => h) (v := .bool (((true && tkOk 63 l) && tkOk 281474976710656 (tkRest l)) && tkOk 4096 (tkRest (tkRest l)))) (Yl.load1 rfl rfl (by kernel_rfl) (fun _ h => h.cell (i := 1) rfl rfl)) ?_; clear HF; intro a HF
        refine any_pures HF (fun _ => HS) (fun _ _ d _ _ h => by cases d <;> exact h) [2] #[true, true, true, false, false, false, false, false, false, false, false, false, false] [(90, .bool (((true && tkOk 63 l) && tkOk 281474976710656 (tkRest l)) && tkOk 4096 (tkRest (tkRest l))))] (by kernel_rfl) ?_; clear HF; intro a HF
        rcases Bool.eq_false_or_eq_true ((((true && tkOk 63 l) && tkOk 281474976710656 (tkRest l)) && tkOk 4096 (tkRest (tkRest l)))) with hb90 | hb90
        · have HF := HF.as (t := 90) (u := .bool true) rfl (by rw [hb90])
          refine any_yl HF HS (i := 3) rfl rfl (d := 91) rfl (by decide) (by kernel_rfl) (fun _ _ _ h => h) (v := .slice Aq3 ((tkRest (tkRest (tkRest l))).length) cq3) (Yl.load1 rfl rfl (by kernel_rfl) (fun _ h => h.cell (i := 0) rfl rfl)) ?_; clear HF; intro a HF
          refine any_yl HF HS (i := 4) rfl rfl (d := 92) rfl (by decide) (by kernel_rfl) (fun _ _ _ h => h) (v := .int .i64 (((tkRest (tkRest (tkRest l))).length : Nat) : Int)) (Yl.len rfl rfl (by kernel_rfl)) ?_; clear HF; intro a HF
          refine any_pures HF (fun _ => HS) (fun _ _ d _ _ h => by cases d <;> exact h) [5, 6, 7] #[true, true, true, true, true, true, true, true, false, false, false, false, false] [(95, .bool (((((tkRest (tkRest (tkRest l))).length : Nat) : Int) : Int) == (0 : Int))), (94, .bool (((((tkRest (tkRest (tkRest l))).length : Nat) : Int) : Int) == (0 : Int))), (93, .bool (((((tkRest (tkRest (tkRest l))).length : Nat) : Int) : Int) == (0 : Int)))] (by kernel_rfl) ?_; clear HF; intro a HF
          rcases Bool.eq_false_or_eq_true (((((tkRest (tkRest (tkRest l))).length : Nat) : Int) : Int) == (0 : Int)) with hb95 | hb95
          · have HF := HF.as (t := 95) (u := .bool true) rfl (by rw [hb95])
            have hd95 := eq_of_beq hb95
            refine any_yl HF HS (i := 8) rfl rfl (d := 96) rfl (by decide) (by kernel_rfl) (fun _ _ _ h => h) (v := .agg #[.int .u8 ((1 : Nat) : Int), .int .u8 (tkVal 63 l : Int), .int .i64 (tkVal 281474976710656 (tkRest l) : Int), .int .i64 0, .slice none 0 0]) (Yl.loadS rfl rfl si_bk rfl (fun _ h => range_of_block (h.blk (i := 2) rfl))) ?_; clear HF; intro a HF
            refine any_all [9] (by kernel_rfl) rfl ?_
            refine all_cons ?_ all_nil
            refine any_op HF (i := 9) rfl rfl ?_
            refine e_call HF (vs := [.agg #[.int .u8 ((1 : Nat) : Int), .int .u8 (tkVal 63 l : Int), .int .i64 (tkVal 281474976710656 (tkRest l) : Int), .int .i64 0, .slice none 0 0]]) rfl (by kernel_rfl) (by kernel_rfl) rfl (by decide) (fits_any ⟨1, tkVal 63 l, (tkVal 281474976710656 (tkRest l) : Int), 0, []⟩ (evsOk (by omega) (by omega) (by simp)) none 0 B _ (hL.mem HM hB) (HM.le hB) Rd.nil (by show 0 ≤ _; omega)) ?_
            rintro _ w97 ⟨rfl, hbw⟩
            refine ⟨_, rfl, ?_⟩
            replace HM := HM.call hbw
            clear HF; intro a HF
            refine keepS (HM.picks [0, 1, 2] (by decide) rfl) (fun HS => ?_)
            refine any_pures HF (fun _ => HS) (fun _ _ d _ _ h => by cases d <;> exact h) [10] #[true, true, true, true, true, true, true, true, true, true, true, false, false] [(98, .bool (Bk.fits ⟨1, tkVal 63 l, (tkVal 281474976710656 (tkRest l) : Int), 0, []⟩))] (by kernel_rfl) ?_; clear HF; intro a HF
            refine any_all [11] (by kernel_rfl) rfl ?_
            refine all_cons ?_ all_nil
            refine any_op HF (i := 11) rfl rfl ?_
            refine e_storeAll HF HM (i := 3) (cs := #[.int .u8 0, .int .u8 0, .int .i64 0, .int .i64 0, .slice none 0 0]) (ds := #[.int .u8 ((1 : Nat) : Int), .int .u8 (tkVal 63 l : Int), .int .i64 (tkVal 281474976710656 (tkRest l) : Int), .int .i64 0, .slice none 0 0]) rfl rfl rfl rfl si_bk rfl rfl (by simp [Value.oneCell']) rfl ?_
            clear HM; intro w15_11 HM
            refine keepS (HM.picks [0, 1, 2] (by decide) rfl) (fun HS => ?_)
            refine any_pures HF (fun _ => HS) (fun _ _ d _ _ h => by cases d <;> exact h) [12] #[true, true, true, true, true, true, true, true, true, true, true, true, true] [(5, .bool (Bk.fits ⟨1, tkVal 63 l, (tkVal 281474976710656 (tkRest l) : Int), 0, []⟩))] (by kernel_rfl) ?_; clear HF; intro a HF
            refine any_done (by kernel_rfl) ?_
            replace HF := HF.sub (σ' := [(5, .bool (Bk.fits ⟨1, tkVal 63 l, (tkVal 281474976710656 (tkRest l) : Int), 0, []⟩)), (46, .bool false), (9, .int .i64 (tkVal 4096 (tkRest (tkRest l)) : Int)), (18, .bool false), (8, .pointer (some ⟨g8, 0, none⟩)), (7, .func (.func 59) #[] #[.pointer (some ⟨g3, 0, none⟩), .pointer (some ⟨g6, 0, none⟩)]), (6, .pointer (some ⟨g6, 0, none⟩)), (4, .pointer (some ⟨g4, 0, none⟩)), (3, .pointer (some ⟨g3, 0, none⟩)), (0, .int .u8 ((1 : Nat) : Int))]) (by kernel_rfl)
            have HF := HF.as (t := 5) (u := .bool ((parseEvs l).isSome)) rfl (congrArg Value.bool (by have h9 := hb90; rw [tk3, h3] at h9; cases h9))
            exact ⟨HF.sub (by kernel_rfl), HM.picks [0, 1, 2, 3] (by decide) rfl⟩
          · have HF := HF.as (t := 95) (u := .bool false) rfl (by rw [hb95])
            have hd95 := ne_of_beq_false hb95
            refine any_pures HF (fun _ => HS) (fun _ _ d _ _ h => by cases d <;> exact h) [8, 9, 10] #[true, true, true, true, true, true, true, true, true, true, true, false, false] [(98, .bool false), (97, undef), (96, undef)] (by kernel_rfl) ?_; clear HF; intro a HF
            refine any_all [11] (by kernel_rfl) rfl ?_
            refine all_cons ?_ all_nil
            refine any_op HF (i := 11) rfl rfl ?_
            refine e_storeAll HF HM (i := 3) (cs := #[.int .u8 0, .int .u8 0, .int .i64 0, .int .i64 0, .slice none 0 0]) (ds := #[.int .u8 ((1 : Nat) : Int), .int .u8 (tkVal 63 l : Int), .int .i64 (tkVal 281474976710656 (tkRest l) : Int), .int .i64 0, .slice none 0 0]) rfl rfl rfl rfl si_bk rfl rfl (by simp [Value.oneCell']) rfl ?_
            clear HM; intro w15_11 HM
            refine keepS (HM.picks [0, 1, 2] (by decide) rfl) (fun HS => ?_)
            refine any_pures HF (fun _ => HS) (fun _ _ d _ _ h => by cases d <;> exact h) [12] #[true, true, true, true, true, true, true, true, true, true, true, true, true] [(5, .bool false)] (by kernel_rfl) ?_; clear HF; intro a HF
            refine any_done (by kernel_rfl) ?_
            replace HF := HF.sub (σ' := [(5, .bool false), (46, .bool false), (9, .int .i64 (tkVal 4096 (tkRest (tkRest l)) : Int)), (18, .bool false), (8, .pointer (some ⟨g8, 0, none⟩)), (7, .func (.func 59) #[] #[.pointer (some ⟨g3, 0, none⟩), .pointer (some ⟨g6, 0, none⟩)]), (6, .pointer (some ⟨g6, 0, none⟩)), (4, .pointer (some ⟨g4, 0, none⟩)), (3, .pointer (some ⟨g3, 0, none⟩)), (0, .int .u8 ((1 : Nat) : Int))]) (by kernel_rfl)
            have HF := HF.as (t := 5) (u := .bool ((parseEvs l).isSome)) rfl (congrArg Value.bool (by have h9 := hb90; rw [tk3, h3] at h9; cases h9))
            exact ⟨HF.sub (by kernel_rfl), HM.picks [0, 1, 2, 3] (by decide) rfl⟩
        · have HF := HF.as (t := 90) (u := .bool false) rfl (by rw [hb90])
          refine any_pures HF (fun _ => HS) (fun _ _ d _ _ h => by cases d <;> exact h) [3, 4, 5, 6, 7, 8, 9, 10] #[true, true, true, true, true, true, true, true, true, true, true, false, false] [(98, .bool false), (97, undef), (96, undef), (95, .bool false), (94, .bool false), (93, undef), (92, undef), (91, undef)] (by kernel_rfl) ?_; clear HF; intro a HF
          refine any_all [11] (by kernel_rfl) rfl ?_
          refine all_cons ?_ all_nil
          refine any_op HF (i := 11) rfl rfl ?_
          refine e_storeAll HF HM (i := 3) (cs := #[.int .u8 0, .int .u8 0, .int .i64 0, .int .i64 0, .slice none 0 0]) (ds := #[.int .u8 ((1 : Nat) : Int), .int .u8 (tkVal 63 l : Int), .int .i64 (tkVal 281474976710656 (tkRest l) : Int), .int .i64 0, .slice none 0 0]) rfl rfl rfl rfl si_bk rfl rfl (by simp [Value.oneCell']) rfl ?_
          clear HM; intro w15_11 HM
          refine keepS (HM.picks [0, 1, 2] (by decide) rfl) (fun HS => ?_)
          refine any_pures HF (fun _ => HS) (fun _ _ d _ _ h => by cases d <;> exact h) [12] #[true, true, true, true, true, true, true, true, true, true, true, true, true] [(5, .bool false)] (by kernel_rfl) ?_; clear HF; intro a HF
          refine any_done (by kernel_rfl) ?_
          replace HF := HF.sub (σ' := [(5, .bool false), (46, .bool false), (9, .int .i64 (tkVal 4096 (tkRest (tkRest l)) : Int)), (18, .bool false), (8, .pointer (some ⟨g8, 0, none⟩)), (7, .func (.func 59) #[] #[.pointer (some ⟨g3, 0, none⟩), .pointer (some ⟨g6, 0, none⟩)]), (6, .pointer (some ⟨g6, 0, none⟩)), (4, .pointer (some ⟨g4, 0, none⟩)), (3, .pointer (some ⟨g3, 0, none⟩)), (0, .int .u8 ((1 : Nat) : Int))]) (by kernel_rfl)
          have HF := HF.as (t := 5) (u := .bool ((parseEvs l).isSome)) rfl (congrArg Value.bool (by have h9 := hb90; rw [tk3] at h9; rw [few_is (l := l) (fun hh => by rw [h3] at hh; cases hh.1), h9, Bool.false_and]))
          exact ⟨HF.sub (by kernel_rfl), HM.picks [0, 1, 2, 3] (by decide) rfl⟩
      clear HF HM; rintro a w15 ⟨HF, HM⟩
      refine wp_ret ?_
      rcases Bool.eq_false_or_eq_true ((parseEvs l).isSome) with hb5 | hb5
      · have HF := HF.as (t := 5) (u := .bool true) rfl (by rw [hb5])
        have hfin := hb5
        exact ret2 rfl HF (.cellS (i := 3) HF HM rfl rfl si_bk rfl) (.tmp HF rfl) (parseIs_some (b := ⟨1, tkVal 63 l, (tkVal 281474976710656 (tkRest l) : Int), 0, []⟩) (A := none) (c := 0) (by rw [parseR_evs]; exact few_val (fun hh => by rw [h3] at hh; cases hh.1) hfin) (World.ownsRow_nil _ _ _ _) (Nat.le_refl _) HM.below)
      · have HF := HF.as (t := 5) (u := .bool false) rfl (by rw [hb5])
        have hfin := hb5
        exact ret2 rfl HF (.cellS (i := 3) HF HM rfl rfl si_bk rfl) (.tmp HF rfl) (parseIs_none (by rw [parseR_evs]; exact Option.not_isSome_iff_eq_none.1 (by rw [hfin]; decide)) rfl (by simp [Value.oneCell']) HM.below)
end Go.Proofs.YtjpielapplglmaaDoor

