/- The examples of the chapter hold. -/
import Derived.Test.YtpekelggcmgnnaaDoorConv
namespace Go.Proofs.YtpekelggcmgnnaaDoor
open Go.RowKit

theorem aw4' : takeR ⟨3, 300⟩ 2 [5, 2, 40, 40, 7, 9] = (exB, 5, 0) := by kernel_rfl
theorem aw5' : takeR ⟨3, 0⟩ 2 [5, 2, 40] = (Ev.zero, 0, 10) := by kernel_rfl
theorem aw6' : takeR ⟨3, 0⟩ 64 [5, 2, 40, 40, 7] = (Ev.zero, 0, 61) := by kernel_rfl
theorem aw8' : readR ⟨1, 0⟩ 2 2 [6, 0, 0, 0, 6, 0, 0, 0] = ([], 0, 71) := by kernel_rfl
theorem rd_lit (w : World) (cs : List Nat) (n : Nat) (hn : cs.length = n) (hm : n ≤ maxLen) : Rd (w.alloc (.cells (cs.map B8).toArray 5)) (w.alloc (.cells (cs.map B8).toArray 5)).heap.size 1 (some ⟨w.heap.size, 0, none⟩) n (cs.map B8) := by
  have := Rd.of_own (World.ownsRow_lit (base := 0) (e := 5) (size := 1) w (cs.map B8).toArray n (Nat.zero_le _) hm (by simp [hn])) rfl
  simpa using this

set_option maxRecDepth 100000 in
set_option maxHeartbeats 2000000 in
theorem awake_any (B : Nat) (w : World) (hL : Laid B w) (hB : B ≤ w.heap.size) :
    Calls Tryd.prog 12 #[] w fun r w' => r = .returned (.bool true) ∧ Below w.heap.size w w' := by
  have hcmp : ∀ w, (binOp .neq 37 (.agg exB.cells) (.agg exB.cells)).run Tryd.prog w = .ok (.bool false) w := fun w => by kernel_rfl
  go_enter Tryd.func12, Tryd.ntmps12
  go_wp2_with fail
  refine (example_any _).mono ?_
  rintro r w1 ⟨rfl, hb1⟩
  have hz1 := hb1.size
  obtain ⟨W2, hW2⟩ : ∃ W2, W2 = (w1.alloc (.cells #[.int .i64 1, .int .i64 0, .int .u8 2, .int .u8 1, .int .i64 7, .int .i64 0, .int .i64 0, .int .i64 1024, .int .i64 0, .int .u64 255, .int .i64 0] 37)).alloc (.cells #[.int .i64 5, .int .i64 340, .int .u8 2, .int .u8 5, .int .i64 0, .int .i64 0, .int .i64 0, .int .i64 0, .int .i64 40, .int .u64 0, .int .i64 7] 37) := ⟨_, rfl⟩
  have hs2 : w1.heap.size + 2 ≤ W2.heap.size := by rw [hW2]; simp
  have hb2 : Below w.heap.size w W2 := by rw [hW2]; exact (hb1.alloc hz1 _).alloc (by simp; omega) _
  have HA2 := hide (show W2.rangeAt w1.heap.size 0 exA.cells.toList from range_of_block (show W2.heap[w1.heap.size]? = some (.cells exA.cells 37) by rw [hW2]; exact (Below.heap_alloc _ _ _ (by simp)).trans (World.alloc_heap_new w1 _)))
  have HB2 := hide (show W2.rangeAt (w1.heap.size + 1) 0 exB.cells.toList from range_of_block (show W2.heap[w1.heap.size + 1]? = some (.cells exB.cells 37) by rw [hW2]; have := World.alloc_heap_new (w1.alloc (.cells #[.int .i64 1, .int .i64 0, .int .u8 2, .int .u8 1, .int .i64 7, .int .i64 0, .int .i64 0, .int .i64 1024, .int .i64 0, .int .u64 255, .int .i64 0] 37)) (.cells #[.int .i64 5, .int .i64 340, .int .u8 2, .int .u8 5, .int .i64 0, .int .i64 0, .int .i64 0, .int .i64 0, .int .i64 40, .int .u64 0, .int .i64 7] 37); rwa [World.size_alloc] at this))
  have HLW := hide (fun W (h : Below w.heap.size w W) => hL.below h hB)
  have HP1 := hide (fun W (h : Below w.heap.size w W) => put1_any ⟨1, 0⟩ exA exA_ok B W (HLW.out W h) (by have := h.size; omega))
  rw [aw1.1, aw1.2] at HP1
  have HP2 := hide (fun W (h : Below w.heap.size w W) => put1_any ⟨3, 300⟩ exB exB_ok B W (HLW.out W h) (by have := h.size; omega))
  rw [aw2.1, aw2.2] at HP2
  have HP3 := hide (fun W (h : Below w.heap.size w W) => put1_any ⟨6, 0⟩ exB exB_ok B W (HLW.out W h) (by have := h.size; omega))
  rw [aw3.1, aw3.2] at HP3
  simp only [exA, exB, Ev.cells]
  go_wp2_with (first
    | (rw [← hW2]; clear hW2)
    | (with_reducible refine load_wp HA2.out rfl rfl rfl si_ev rfl ?_)
    | (with_reducible refine load_wp HB2.out rfl rfl rfl si_ev rfl ?_))
  refine (HP1.out _ hb2).mono ?_
  rintro r w3 ⟨⟨v3, rfl, hown3⟩, hbb3⟩
  obtain ⟨A3, c3, rfl⟩ := own_form hown3
  have hz3 := hbb3.size
  have hb3 := hb2.trans (hbb3.mono (by omega))
  have HA3 := hide (range_below HA2.out hbb3 (by omega))
  have HB3 := hide (range_below HB2.out hbb3 (by omega))
  have HR3 := hide (show Rd w3 w3.heap.size 1 A3 9 ([1, 0, 0, 7, 0, 128, 8, 255, 1].map B8) from Rd.of_own hown3 rfl)
  clear hown3
  go_wp2_with (first
    | (with_reducible refine load_wp HA3.out rfl rfl rfl si_ev rfl ?_)
    | (with_reducible refine load_wp HB3.out rfl rfl rfl si_ev rfl ?_))
  refine (HP2.out _ hb3).mono ?_
  rintro r w4 ⟨⟨v4, rfl, hown4⟩, hbb4⟩
  obtain ⟨A4, c4, rfl⟩ := own_form hown4
  have hz4 := hbb4.size
  have hb4 := hb3.trans (hbb4.mono (by omega))
  have HA4 := hide (range_below HA3.out hbb4 (by omega))
  have HB4 := hide (range_below HB3.out hbb4 (by omega))
  have hcap4 : 5 ≤ c4 := by
    rcases hown4.2 with ⟨h, _⟩ | ⟨g, cap, cur, h, _, _, h2, _⟩
    · cases h
    · injection h with _ _ h3; subst h3; exact h2
  have HR4 := hide (show Rd w4 w4.heap.size 1 A4 5 ([5, 2, 40, 40, 7].map B8) from Rd.of_own hown4 rfl)
  clear hown4
  go_wp2_with (first
    | (with_reducible refine load_wp HA4.out rfl rfl rfl si_ev rfl ?_)
    | (with_reducible refine load_wp HB4.out rfl rfl rfl si_ev rfl ?_))
  refine (HP3.out _ hb4).mono ?_
  rintro r w5 ⟨⟨v5, rfl, hown5⟩, hbb5⟩
  obtain ⟨A5, c5, rfl⟩ := own_form hown5
  have hz5 := hbb5.size
  have hb5 := hb4.trans (hbb5.mono (by omega))
  have HA5 := hide (range_below HA4.out hbb5 (by omega))
  have HB5 := hide (range_below HB4.out hbb5 (by omega))
  have HR5 := hide (show Rd w5 w5.heap.size 1 A5 0 ([].map B8) from Rd.of_own hown5 rfl)
  clear hown5
  go_wp2_with (first
    | (with_reducible refine load_wp HA5.out rfl rfl rfl si_ev rfl ?_)
    | (with_reducible refine load_wp HB5.out rfl rfl rfl si_ev rfl ?_))
  have HT6 := hide (take_any ⟨3, 300⟩ 2 (by omega) (some ⟨w5.heap.size, 0, none⟩) 6 6 [5, 2, 40, 40, 7, 9] B (w5.alloc (.cells #[.int .u8 5, .int .u8 2, .int .u8 40, .int .u8 40, .int .u8 7, .int .u8 9] 5)) (HLW.out _ (hb5.alloc (by omega) _)) (by simp; omega) (rd_lit w5 [5, 2, 40, 40, 7, 9] 6 rfl (by decide)) (by omega) (by decide) (by omega))
  rw [aw4'] at HT6
  refine HT6.out.mono ?_
  rintro r w6 ⟨rfl, hbb6⟩
  have hz6 := hbb6.size
  simp only [World.size_alloc] at hz6
  have hb6 := (hb5.alloc (by omega) (.cells #[.int .u8 5, .int .u8 2, .int .u8 40, .int .u8 40, .int .u8 7, .int .u8 9] 5)).trans (hbb6.mono (by simp; omega))
  have hc6 : Below w5.heap.size w5 w6 := ((Below.refl _ _).alloc (Nat.le_refl _) (.cells #[.int .u8 5, .int .u8 2, .int .u8 40, .int .u8 40, .int .u8 7, .int .u8 9] 5)).trans (hbb6.mono (by simp))
  obtain ⟨w7, hw7⟩ : ∃ w7, w7 = w6.alloc (.cells exB.cells 37) := ⟨_, rfl⟩
  have hz7 : w6.heap.size + 1 ≤ w7.heap.size := by rw [hw7]; simp
  have hb7 : Below w.heap.size w w7 := by rw [hw7]; exact hb6.alloc (by omega) _
  have hc7 : Below w5.heap.size w5 w7 := by rw [hw7]; exact hc6.alloc (by omega) _
  have HE7 := hide (show w7.rangeAt w6.heap.size 0 exB.cells.toList from range_of_block (show w7.heap[w6.heap.size]? = some (.cells exB.cells 37) by rw [hw7]; exact World.alloc_heap_new w6 _))
  have HA7 := hide (range_below HA5.out hc7 (by omega))
  have HB7 := hide (range_below HB5.out hc7 (by omega))
  go_wp2_with (first
    | (refine store_new rfl rfl rfl rfl si_ev rfl rfl (ev_one exB) ?_; rw [← hw7]; clear hw7)
    | (with_reducible refine load_wp HA7.out rfl rfl rfl si_ev rfl ?_)
    | (with_reducible refine load_wp HB7.out rfl rfl rfl si_ev rfl ?_))
  have HT8 := hide (take_any ⟨3, 0⟩ 2 (by omega) (some ⟨w7.heap.size, 0, none⟩) 3 3 [5, 2, 40] B (w7.alloc (.cells #[.int .u8 5, .int .u8 2, .int .u8 40] 5)) (HLW.out _ (hb7.alloc (by omega) _)) (by simp; omega) (rd_lit w7 [5, 2, 40] 3 rfl (by decide)) (by omega) (by decide) (by omega))
  rw [aw5'] at HT8
  refine HT8.out.mono ?_
  rintro r w8 ⟨rfl, hbb8⟩
  have hz8 := hbb8.size
  simp only [World.size_alloc] at hz8
  have hb8 := (hb7.alloc (by omega) (.cells #[.int .u8 5, .int .u8 2, .int .u8 40] 5)).trans (hbb8.mono (by simp; omega))
  have hc8 : Below w7.heap.size w7 w8 := ((Below.refl _ _).alloc (Nat.le_refl _) (.cells #[.int .u8 5, .int .u8 2, .int .u8 40] 5)).trans (hbb8.mono (by simp))
  obtain ⟨w9, hw9⟩ : ∃ w9, w9 = w8.alloc (.cells Ev.zero.cells 37) := ⟨_, rfl⟩
  have hz9 : w8.heap.size + 1 ≤ w9.heap.size := by rw [hw9]; simp
  have hb9 : Below w.heap.size w w9 := by rw [hw9]; exact hb8.alloc (by omega) _
  have hc9 : Below w7.heap.size w7 w9 := by rw [hw9]; exact hc8.alloc (by omega) _
  have HE9 := hide (show w9.rangeAt w8.heap.size 0 Ev.zero.cells.toList from range_of_block (show w9.heap[w8.heap.size]? = some (.cells Ev.zero.cells 37) by rw [hw9]; exact World.alloc_heap_new w8 _))
  have HA9 := hide (range_below HA7.out hc9 (by omega))
  have HB9 := hide (range_below HB7.out hc9 (by omega))
  go_wp2_with (first
    | (refine store_new rfl rfl rfl rfl si_ev rfl rfl (ev_one Ev.zero) ?_; rw [← hw9]; clear hw9)
    | (with_reducible refine load_wp HA9.out rfl rfl rfl si_ev rfl ?_)
    | (with_reducible refine load_wp HB9.out rfl rfl rfl si_ev rfl ?_))
  have HR9 := hide ((((HR4.out.below hbb5).more hz5).below hc7 |>.more (by omega)).below hc9 |>.more (by omega) : Rd w9 w9.heap.size 1 A4 5 ([5, 2, 40, 40, 7].map B8))
  have HT10 := hide (take_any ⟨3, 0⟩ 64 (by omega) A4 5 c4 [5, 2, 40, 40, 7] B w9 (HLW.out _ hb9) (by omega) HR9.out hcap4 (by decide) (by omega))
  rw [aw6'] at HT10
  refine HT10.out.mono ?_
  rintro r w10 ⟨rfl, hbb10⟩
  have hz10 := hbb10.size
  have hb10 := hb9.trans (hbb10.mono (by omega))
  have hc10 : Below w9.heap.size w9 w10 := hbb10
  obtain ⟨w11, hw11⟩ : ∃ w11, w11 = w10.alloc (.cells Ev.zero.cells 37) := ⟨_, rfl⟩
  have hz11 : w10.heap.size + 1 ≤ w11.heap.size := by rw [hw11]; simp
  have hb11 : Below w.heap.size w w11 := by rw [hw11]; exact hb10.alloc (by omega) _
  have hc11 : Below w9.heap.size w9 w11 := by rw [hw11]; exact hc10.alloc (by omega) _
  have HE11 := hide (show w11.rangeAt w10.heap.size 0 Ev.zero.cells.toList from range_of_block (show w11.heap[w10.heap.size]? = some (.cells Ev.zero.cells 37) by rw [hw11]; exact World.alloc_heap_new w10 _))
  have HA11 := hide (range_below HA9.out hc11 (by omega))
  have HB11 := hide (range_below HB9.out hc11 (by omega))
  go_wp2_with (first
    | (refine store_new rfl rfl rfl rfl si_ev rfl rfl (ev_one Ev.zero) ?_; rw [← hw11]; clear hw11)
    | (with_reducible refine load_wp HA11.out rfl rfl rfl si_ev rfl ?_; simp only [exA, exB, Ev.cells])
    | (with_reducible refine load_wp HB11.out rfl rfl rfl si_ev rfl ?_; simp only [exB, Ev.cells]))
  have HT12 := hide (write_any ⟨1, 0⟩ (some ⟨w11.heap.size, 0, none⟩) 2 2 [exA, exB] (by intro e he; simp at he; rcases he with rfl | rfl; exact exA_ok; exact exB_ok) B (w11.alloc (.cells #[.int .i64 1, .int .i64 0, .int .u8 2, .int .u8 1, .int .i64 7, .int .i64 0, .int .i64 0, .int .i64 1024, .int .i64 0, .int .u64 255, .int .i64 0, .int .i64 5, .int .i64 340, .int .u8 2, .int .u8 5, .int .i64 0, .int .i64 0, .int .i64 0, .int .i64 0, .int .i64 40, .int .u64 0, .int .i64 7] 37)) (HLW.out _ (hb11.alloc (by omega) _)) (by simp; omega) (show Rd (w11.alloc (.cells #[.int .i64 1, .int .i64 0, .int .u8 2, .int .u8 1, .int .i64 7, .int .i64 0, .int .i64 0, .int .i64 1024, .int .i64 0, .int .u64 255, .int .i64 0, .int .i64 5, .int .i64 340, .int .u8 2, .int .u8 5, .int .i64 0, .int .i64 0, .int .i64 0, .int .i64 0, .int .i64 40, .int .u64 0, .int .i64 7] 37)) _ 11 (some ⟨w11.heap.size, 0, none⟩) 2 ([exA, exB].flatMap evL) from Rd.of_own (World.ownsRow_lit (base := 0) (e := 37) (size := 11) w11 #[.int .i64 1, .int .i64 0, .int .u8 2, .int .u8 1, .int .i64 7, .int .i64 0, .int .i64 0, .int .i64 1024, .int .i64 0, .int .u64 255, .int .i64 0, .int .i64 5, .int .i64 340, .int .u8 2, .int .u8 5, .int .i64 0, .int .i64 0, .int .i64 0, .int .i64 0, .int .i64 40, .int .u64 0, .int .i64 7] 2 (Nat.zero_le _) (by decide) rfl) rfl) (by omega))
  rw [aw7.1, aw7.2] at HT12
  refine HT12.out.mono ?_
  rintro r w12 ⟨⟨v12, rfl, hown12⟩, hbb12⟩
  obtain ⟨A12, c12, rfl⟩ := own_form hown12
  have hz12 := hbb12.size
  simp only [World.size_alloc] at hz12
  have hb12 := (hb11.alloc (by omega) (.cells #[.int .i64 1, .int .i64 0, .int .u8 2, .int .u8 1, .int .i64 7, .int .i64 0, .int .i64 0, .int .i64 1024, .int .i64 0, .int .u64 255, .int .i64 0, .int .i64 5, .int .i64 340, .int .u8 2, .int .u8 5, .int .i64 0, .int .i64 0, .int .i64 0, .int .i64 0, .int .i64 40, .int .u64 0, .int .i64 7] 37)).trans (hbb12.mono (by simp; omega))
  have hc12 : Below w11.heap.size w11 w12 := ((Below.refl _ _).alloc (Nat.le_refl _) (.cells #[.int .i64 1, .int .i64 0, .int .u8 2, .int .u8 1, .int .i64 7, .int .i64 0, .int .i64 0, .int .i64 1024, .int .i64 0, .int .u64 255, .int .i64 0, .int .i64 5, .int .i64 340, .int .u8 2, .int .u8 5, .int .i64 0, .int .i64 0, .int .i64 0, .int .i64 0, .int .i64 40, .int .u64 0, .int .i64 7] 37)).trans (hbb12.mono (by simp))
  have HR12 := hide (show Rd w12 w12.heap.size 1 A12 15 ([1, 0, 0, 7, 0, 128, 8, 255, 1, 5, 4, 212, 2, 40, 7].map B8) from Rd.of_own hown12 rfl)
  clear hown12
  go_wp2_with fail
  have HT13 := hide (cread_any ⟨1, 0⟩ 2 (by omega) (some ⟨w12.heap.size, 0, none⟩) 8 8 2 ⟨by omega, by omega⟩ [6, 0, 0, 0, 6, 0, 0, 0] B (w12.alloc (.cells #[.int .u8 6, .int .u8 0, .int .u8 0, .int .u8 0, .int .u8 6, .int .u8 0, .int .u8 0, .int .u8 0] 5)) (HLW.out _ (hb12.alloc (by omega) _)) (by simp; omega) (rd_lit w12 [6, 0, 0, 0, 6, 0, 0, 0] 8 rfl (by decide)) (by omega) (by decide) (by omega) (.inl (by omega)))
  rw [aw8'] at HT13
  refine HT13.out.mono ?_
  rintro r w13 ⟨⟨v13, rfl, hown13⟩, hbb13⟩
  obtain ⟨A13, c13, rfl⟩ := own_form hown13
  have hz13 := hbb13.size
  simp only [World.size_alloc] at hz13
  have hb13 := (hb12.alloc (by omega) (.cells #[.int .u8 6, .int .u8 0, .int .u8 0, .int .u8 0, .int .u8 6, .int .u8 0, .int .u8 0, .int .u8 0] 5)).trans (hbb13.mono (by simp; omega))
  have hc13 : Below w12.heap.size w12 w13 := ((Below.refl _ _).alloc (Nat.le_refl _) (.cells #[.int .u8 6, .int .u8 0, .int .u8 0, .int .u8 0, .int .u8 6, .int .u8 0, .int .u8 0, .int .u8 0] 5)).trans (hbb13.mono (by simp))
  clear hown13
  have HE13 := hide (range_below (range_below (range_below (range_below (range_below HE7.out hc9 (by omega)) hc11 (by omega)) hc12 (by omega)) hc13 (by omega)) (Below.refl _ _) (by omega : w6.heap.size < w13.heap.size))
  have HB13 := hide (range_below (range_below HB11.out hc12 (by omega)) hc13 (by omega))
  have k3 := conv_u8 (c := c3) ((((((((HR3.out.below hbb4).more hz4).below hbb5).more hz5).below hc7 |>.more (by omega : w5.heap.size ≤ w7.heap.size)).below hc9 |>.more (by omega : w7.heap.size ≤ w9.heap.size)).below hc11 |>.more (by omega : w9.heap.size ≤ w11.heap.size)).below hc12 |>.more (by omega : w11.heap.size ≤ w12.heap.size) |>.below hc13)
  have k4 := conv_u8 (c := c4) (((HR9.out.below hc11 |>.more (by omega : w9.heap.size ≤ w11.heap.size)).below hc12 |>.more (by omega : w11.heap.size ≤ w12.heap.size)).below hc13)
  have k12 := conv_u8 (c := c12) (HR12.out.below hc13)
  have j3 : (convert 25 9 (.slice A3 9 c3)).run Tryd.prog w13 = .ok (.string ⟨#[1, 0, 0, 7, 0, 128, 8, 255, 1]⟩) w13 := k3
  have j4 : (convert 25 9 (.slice A4 5 c4)).run Tryd.prog w13 = .ok (.string ⟨#[5, 2, 40, 40, 7]⟩) w13 := k4
  have j12 : (convert 25 9 (.slice A12 15 c12)).run Tryd.prog w13 = .ok (.string ⟨#[1, 0, 0, 7, 0, 128, 8, 255, 1, 5, 4, 212, 2, 40, 7]⟩) w13 := k12
  clear k3 k4 k12
  go_wp2_with (first
    | (refine load_g HE13.out (by rfl) rfl rfl si_ev rfl ?_)
    | (refine load_g HB13.out (by rfl) rfl rfl si_ev rfl ?_))
  go_ret
  exact ⟨ret_bool (by first | rfl | decide +kernel), hb13⟩
end Go.Proofs.YtpekelggcmgnnaaDoor
