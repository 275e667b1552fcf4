/- Parts. -/
import Derived.Test.YtfeheccoijnbaaaDoorQWithAll
import Derived.Test.YtfeheccoijnbaaaDoorQMem
import Derived.Test.YtfeheccoijnbaaaDoorQCodS
import Derived.Test.YtfeheccoijnbaaaDoorQStr
import Derived.RangeFuncNested
import Derived.RangeFuncCalls
import Derived.Test.YtfeheccoijnbaaaDoorQCod7
import Derived.Laws.BytesString
import Derived.Laws.BytesArg
import Derived.ProofKit
import Derived.Below
import Derived.Carry
import Derived.LaidMore
import Derived.Lib.LaidU8
import Derived.Lib.SmallJoins
import Derived.Test.YtfeheccoijnbaaaDoorQCod4
import Derived.Deep.DeepAppendWide
import Derived.Deep.Upon
import Derived.MapKept
import Derived.IntWalk
namespace Go.Proofs.YtfeheccoijnbaaaDoor
open Go.RowKit
set_option maxRecDepth 100000 in
set_option maxHeartbeats 2000000 in
theorem qkw (k i : Nat) (hi : i < 7) (hk : k < 256) (w : World) :
  Calls Tryd.prog 98 #[.int .u8 (k : Int), .int .i64 (i : Int)] w fun r w' => r = .returned (.bool ((usesL k).contains i)) ∧ w' = w := by
 obtain rfl | rfl | rfl | rfl | rfl | rfl | rfl | rfl | rfl | rfl | ⟨hu, hk'⟩ := qgn k
 case inr.inr.inr.inr.inr.inr.inr.inr.inr.inr =>
  have b1 : ((k : Int) == 1) = false := by rw [beq_eq_false_iff_ne]; omega
  have b2 : ((k : Int) == 2) = false := by rw [beq_eq_false_iff_ne]; omega
  have b3 : ((k : Int) == 3) = false := by rw [beq_eq_false_iff_ne]; omega
  have b4 : ((k : Int) == 4) = false := by rw [beq_eq_false_iff_ne]; omega
  have b5 : ((k : Int) == 5) = false := by rw [beq_eq_false_iff_ne]; omega
  have b6 : ((k : Int) == 6) = false := by rw [beq_eq_false_iff_ne]; omega
  have b7 : ((k : Int) == 7) = false := by rw [beq_eq_false_iff_ne]; omega
  have b8 : ((k : Int) == 8) = false := by rw [beq_eq_false_iff_ne]; omega
  have b9 : ((k : Int) == 9) = false := by rw [beq_eq_false_iff_ne]; omega
  have b10 : ((k : Int) == 10) = false := by rw [beq_eq_false_iff_ne]; omega
  have HU := hide (show (usesL k).contains i = false by rw [hu]; rfl)
  clear hu hk'
  go_enter Tryd.func98, Tryd.ntmps98
  go_wp2
  go_ret
  exact ⟨by rw [HU.out]; rfl, rfl⟩
 all_goals
  generalize hv : List.contains _ i = v
  have HV := hide hv
  clear hv
  go_enter Tryd.func98, Tryd.ntmps98
  go_wp2
  all_goals
   go_ret
   refine ⟨?_, rfl⟩
   rw [← HV.out]
   obtain rfl | rfl | rfl | rfl | rfl | rfl | rfl : i = 0 ∨ i = 1 ∨ i = 2 ∨ i = 3 ∨ i = 4 ∨ i = 5 ∨ i = 6 := by omega
   all_goals first | rfl | (exfalso; omega) | (simp at *)
structure FieldPost (w : World) (e : Ev) (i : Nat) (r : Ending) (w' : World) : Prop where
 ret : r = .returned (.tuple #[.int .u64 (e.num i), .bool (decide (0 ≤ e.fld i))])
 below : Below w.heap.size w w'
set_option maxRecDepth 100000 in
set_option maxHeartbeats 2000000 in
theorem qep (e : Ev) (he : e.Ok) (i : Nat) (hi : i < 7) (w : World) :
  Calls Tryd.prog 100 #[.agg e.cells, .int .i64 (i : Int)] w (FieldPost w e i) := by
 have c4 : e.cells[4]? = some (.int .i64 e.task) := rfl
 have c5 : e.cells[5]? = some (.int .i64 e.group) := rfl
 have c6 : e.cells[6]? = some (.int .i64 e.to) := rfl
 have c7 : e.cells[7]? = some (.int .i64 e.weight) := rfl
 have c8 : e.cells[8]? = some (.int .i64 e.ticks) := rfl
 have c9 : e.cells[9]? = some (.int .u64 (e.mask : Int)) := rfl
 have c10 : e.cells[10]? = some (.int .i64 e.got) := rfl
 have hm : IntKind.u64.wrap (e.mask : Int) = (e.mask : Int) := by have := he.mask; rw [IntKind.wrap_u64]; omega
 have Hm := hide hm
 clear hm he
 generalize e.cells = cs at c4 c5 c6 c7 c8 c9 c10 ⊢
 obtain rfl | rfl | rfl | rfl | rfl | rfl | rfl : i = 0 ∨ i = 1 ∨ i = 2 ∨ i = 3 ∨ i = 4 ∨ i = 6 ∨ i = 5 := by omega
 case inr.inr.inr.inr.inr.inr =>
  go_enter Tryd.func100, Tryd.ntmps100
  go_wp2
  go_ret2
  exact ⟨by unfold Ev.num Ev.fld; simp [Hm.out], (Below.refl _ _).alloc (Nat.le_refl _) _⟩
 all_goals
  go_enter Tryd.func100, Tryd.ntmps100
  go_wp2
  go_quiet (fail)
  go_wp2
  go_ret2
  exact ⟨rfl, below_drewN (((Below.refl _ _).alloc (Nat.le_refl _) _).alloc (by simp) _) _⟩
structure AggPost (w : World) (cs : Array Value) (r : Ending) (w' : World) : Prop where
 ret : r = .returned (.agg cs)
 below : Below w.heap.size w w'
structure At11 (w : World) (b : Nat) (v0 v1 v2 v3 v4 v5 v6 v7 v8 v9 v10 : Value) : Prop where
 h0 : w.cell? ⟨b, 0, none⟩ = some v0
 h1 : w.cell? ⟨b, 1, none⟩ = some v1
 h2 : w.cell? ⟨b, 2, none⟩ = some v2
 h3 : w.cell? ⟨b, 3, none⟩ = some v3
 h4 : w.cell? ⟨b, 4, none⟩ = some v4
 h5 : w.cell? ⟨b, 5, none⟩ = some v5
 h6 : w.cell? ⟨b, 6, none⟩ = some v6
 h7 : w.cell? ⟨b, 7, none⟩ = some v7
 h8 : w.cell? ⟨b, 8, none⟩ = some v8
 h9 : w.cell? ⟨b, 9, none⟩ = some v9
 h10 : w.cell? ⟨b, 10, none⟩ = some v10
def qwd (m : Nat) (c : Nat) (n k : Value) : Prop := ∃ j x : Nat, j ≤ c ∧ n = .int .u64 (x : Int) ∧ k = .int .u8 (j : Int) ∧ x ≤ m ∧ x = m / 2 ^ j
structure BoolPost (w : World) (b : Bool) (r : Ending) (w' : World) : Prop where
 ret : r = .returned (.bool b)
 below : Below w.heap.size w w'
set_option maxRecDepth 100000 in
set_option maxHeartbeats 2000000 in
theorem qkx (e : Ev) (he : e.Ok) (hc : e.cpu < 64) (i : Nat) (hi : i < 7) (w : World) :
  Calls Tryd.prog 99 #[.agg e.cells, .int .i64 (i : Int)] w (BoolPost w (e.within i)) := by
 have HF := hide (qep e he i hi (w.alloc (.cells e.cells 117)))
 have hb1 : Below w.heap.size w (w.alloc (.cells e.cells 117)) := (Below.refl _ _).alloc (Nat.le_refl _) _
 have hev := EvAt.new w e 117
 have hne := qmv he i
 have hm := he.mask
 clear he
 unfold Ev.cells at *
 by_cases h0 : 0 ≤ e.fld i
 ·have hnum := hne h0
  have hd : decide (0 ≤ e.fld i) = true := by simpa using h0
  generalize hww : e.within i = b
  have HW := hide hww
  clear hww hne
  obtain rfl | rfl | rfl | rfl | rfl | rfl | rfl : i = 0 ∨ i = 1 ∨ i = 2 ∨ i = 3 ∨ i = 4 ∨ i = 6 ∨ i = 5 := by omega
  all_goals
   have h1 := h0
   simp only [Ev.fld] at hnum h1
  ·go_enter Tryd.func99, Tryd.ntmps99
   go_wp2_with (go_at_call 100; refine HF.out.mono ?_; rintro r w1 ⟨rfl, hb2⟩; have hev1 := hev.below hb2 (by simp); have hkd := hev1.kind; have hcp := hev1.cpu)
   all_goals
    go_ret
    refine ⟨congrArg (fun b => Ending.returned (.bool b)) ?_, hb1.trans (hb2.mono (by simp))⟩
    rw [← HW.out, Bool.eq_iff_iff]; simp [Ev.within]; omega
  ·by_cases hk : e.kind = 8
   ·have hkb : ((e.kind : Int) != 8) = false := by rw [bne_eq_false_iff_eq]; omega
    have HK := hide hk
    clear hk
    go_enter Tryd.func99, Tryd.ntmps99
    go_wp2_with (go_at_call 100; refine HF.out.mono ?_; rintro r w1 ⟨rfl, hb2⟩; have hev1 := hev.below hb2 (by simp); have hkd := hev1.kind; have hcp := hev1.cpu)
    all_goals
     go_ret
     refine ⟨congrArg (fun b => Ending.returned (.bool b)) ?_, hb1.trans (hb2.mono (by simp))⟩
     rw [← HW.out, Bool.eq_iff_iff]; simp [Ev.within, HK.out]; omega
   ·have hkb : ((e.kind : Int) != 8) = true := by rw [bne_iff_ne]; omega
    have HK := hide hk
    clear hk
    go_enter Tryd.func99, Tryd.ntmps99
    go_wp2_with (go_at_call 100; refine HF.out.mono ?_; rintro r w1 ⟨rfl, hb2⟩; have hev1 := hev.below hb2 (by simp); have hkd := hev1.kind; have hcp := hev1.cpu)
    all_goals
     go_ret
     refine ⟨congrArg (fun b => Ending.returned (.bool b)) ?_, hb1.trans (hb2.mono (by simp))⟩
     rw [← HW.out, Bool.eq_iff_iff]; simp [Ev.within, HK.out]; omega
  ·go_enter Tryd.func99, Tryd.ntmps99
   go_wp2_with (go_at_call 100; refine HF.out.mono ?_; rintro r w1 ⟨rfl, hb2⟩; have hev1 := hev.below hb2 (by simp); have hkd := hev1.kind; have hcp := hev1.cpu)
   all_goals
    go_ret
    refine ⟨congrArg (fun b => Ending.returned (.bool b)) ?_, hb1.trans (hb2.mono (by simp))⟩
    rw [← HW.out, Bool.eq_iff_iff]; simp [Ev.within]; omega
  ·go_enter Tryd.func99, Tryd.ntmps99
   go_wp2_with (go_at_call 100; refine HF.out.mono ?_; rintro r w1 ⟨rfl, hb2⟩; have hev1 := hev.below hb2 (by simp); have hkd := hev1.kind; have hcp := hev1.cpu)
   all_goals
    go_ret
    refine ⟨congrArg (fun b => Ending.returned (.bool b)) ?_, hb1.trans (hb2.mono (by simp))⟩
    rw [← HW.out, Bool.eq_iff_iff]; simp [Ev.within]; omega
  ·go_enter Tryd.func99, Tryd.ntmps99
   go_wp2_with (go_at_call 100; refine HF.out.mono ?_; rintro r w1 ⟨rfl, hb2⟩; have hev1 := hev.below hb2 (by simp); have hkd := hev1.kind; have hcp := hev1.cpu)
   all_goals
    go_ret
    refine ⟨congrArg (fun b => Ending.returned (.bool b)) ?_, hb1.trans (hb2.mono (by simp))⟩
    rw [← HW.out, Bool.eq_iff_iff]; simp [Ev.within]; omega
  ·by_cases hk : e.kind = 5
   ·have hkb : ((e.kind : Int) == 5) = true := by rw [beq_iff_eq]; omega
    have HK := hide hk
    clear hk
    go_enter Tryd.func99, Tryd.ntmps99
    go_wp2_with (go_at_call 100; refine HF.out.mono ?_; rintro r w1 ⟨rfl, hb2⟩; have hev1 := hev.below hb2 (by simp); have hkd := hev1.kind; have hcp := hev1.cpu)
    all_goals
     go_ret
     refine ⟨congrArg (fun b => Ending.returned (.bool b)) ?_, hb1.trans (hb2.mono (by simp))⟩
     rw [← HW.out, Bool.eq_iff_iff]; simp [Ev.within, HK.out]; omega
   ·have hkb : ((e.kind : Int) == 5) = false := by rw [beq_eq_false_iff_ne]; omega
    by_cases hk6 : e.kind = 6
    ·have hkb6 : ((e.kind : Int) == 6) = true := by rw [beq_iff_eq]; omega
     have HK := hide hk6
     clear hk hk6
     go_enter Tryd.func99, Tryd.ntmps99
     go_wp2_with (go_at_call 100; refine HF.out.mono ?_; rintro r w1 ⟨rfl, hb2⟩; have hev1 := hev.below hb2 (by simp); have hkd := hev1.kind; have hcp := hev1.cpu)
     all_goals
      go_ret
      refine ⟨congrArg (fun b => Ending.returned (.bool b)) ?_, hb1.trans (hb2.mono (by simp))⟩
      rw [← HW.out, Bool.eq_iff_iff]; simp [Ev.within, HK.out]; omega
    ·have hkb6 : ((e.kind : Int) == 6) = false := by rw [beq_eq_false_iff_ne]; omega
     have HK := hide hk
     have HK6 := hide hk6
     clear hk hk6
     go_enter Tryd.func99, Tryd.ntmps99
     go_wp2_with (go_at_call 100; refine HF.out.mono ?_; rintro r w1 ⟨rfl, hb2⟩; have hev1 := hev.below hb2 (by simp); have hkd := hev1.kind; have hcp := hev1.cpu)
     all_goals
      go_ret
      refine ⟨congrArg (fun b => Ending.returned (.bool b)) ?_, hb1.trans (hb2.mono (by simp))⟩
      rw [← HW.out, Bool.eq_iff_iff]; simp [Ev.within, HK.out, HK6.out]; omega
  ·go_enter Tryd.func99, Tryd.ntmps99
   go_wp2_with (go_at_call 100; refine HF.out.mono ?_; rintro r w1 ⟨rfl, hb2⟩; have hev1 := hev.below hb2 (by simp); have hcp := hev1.cpu)
   have hmm : (e.mask : Int) < 18446744073709551616 := by omega
   go_loop [5, 7] (qwd e.mask e.cpu) (fun _ k => e.cpu - (intOf k).toNat)
   case atStart => exact ⟨0, e.mask, by omega, rfl, rfl, by omega, by simp⟩
   case round =>
    obtain ⟨j, x, hj, rfl, rfl, hxm, hx⟩ := hrel
    have HX := hide hx
    clear hx
    by_cases hlt : j < e.cpu
    ·go_wp2
     refine ⟨⟨j + 1, x / 2, by omega, by simp, by go_num, by omega, ?_⟩, by simp [intOf]; omega⟩
     rw [HX.out, Nat.div_div_eq_div_mul, Nat.pow_succ]
    ·obtain rfl : j = e.cpu := by omega
     go_wp2
     go_ret
     refine ⟨congrArg (fun b => Ending.returned (.bool b)) ?_, hb1.trans (hb2.mono (by simp))⟩
     rw [← HW.out, Bool.eq_iff_iff]; simp [Ev.within, ← HX.out]; omega
 ·have hw : e.within i = false := by
   rw [← Bool.not_eq_true]; intro h; exact h0 (qby h)
  have hd : decide (0 ≤ e.fld i) = false := by simpa using h0
  rw [hw]
  clear hw hne
  go_enter Tryd.func99, Tryd.ntmps99
  go_wp2_with (go_at_call 100; refine HF.out.mono ?_; rintro r w1 ⟨rfl, hb2⟩)
  go_ret
  exact ⟨rfl, hb1.trans (hb2.mono (by simp))⟩
structure StrPost (w : World) (full : Bool) (r : Ending) (w' : World) : Prop where
 ret : ∃ s : ByteArray, r = .returned (.string s) ∧ s.toList.isEmpty = !full
 below : Below w.heap.size w w'
set_option maxRecDepth 100000 in
set_option maxHeartbeats 2000000 in
theorem qop (k : Nat) (hk : k < 256) (w : World) :
  Calls Tryd.prog 97 #[.int .u8 (k : Int)] w (StrPost w (decide (1 ≤ k ∧ k ≤ 10))) := by
 by_cases h : 10 < k
 ·have h' : (10 : Int) < (k : Int) := by omega
  have H := hide (show decide (1 ≤ k ∧ k ≤ 10) = false by simp; omega)
  rw [H.out]
  clear h
  go_enter Tryd.func97, Tryd.ntmps97
  go_wp2
  go_ret
  exact ⟨⟨_, rfl, by rw [ByteArray.toList_eq]; rfl⟩, Below.refl _ _⟩
 ·obtain rfl | rfl | rfl | rfl | rfl | rfl | rfl | rfl | rfl | rfl | rfl : k = 0 ∨ k = 1 ∨ k = 2 ∨ k = 3 ∨ k = 4 ∨ k = 5 ∨ k = 6 ∨ k = 7 ∨ k = 8 ∨ k = 9 ∨ k = 10 := by omega
  all_goals
   go_enter Tryd.func97, Tryd.ntmps97
   go_wp2
   go_ret
   exact ⟨⟨_, rfl, by rw [ByteArray.toList_eq]; rfl⟩, (Below.refl _ _).alloc (Nat.le_refl _) _⟩
def que (P : Nat → Bool) (b : Nat) (w1 : World) (i : Value) (wr : World) : Prop :=
 ∃ k : Nat, k ≤ 7 ∧ i = .int .i64 (k : Int) ∧ (List.range k).all P = true ∧ Below b w1 wr
theorem qoq (l : List Nat) (hl : ∀ i ∈ l, i < 7) (P : Nat → Bool) : (List.range 7).all (fun i => !(l.contains i && !P i)) = l.all P := by
 rw [Bool.eq_iff_iff, List.all_eq_true, List.all_eq_true]
 constructor
 ·intro h i hi
  have := h i (by simp; exact hl i hi)
  simpa [hi] using this
 ·intro h i _
  by_cases hi : i ∈ l
  ·simp [hi, h i hi]
  ·simp [hi]
structure IntPost (w : World) (n : Nat) (r : Ending) (w' : World) : Prop where
 ret : r = .returned (.int .i64 (n : Int))
 below : Below w.heap.size w w'
set_option maxRecDepth 100000 in
set_option maxHeartbeats 2000000 in
theorem qhg (e : Ev) (he : e.Ok) (w : World) :
  Calls Tryd.prog 85 #[.agg e.cells] w (IntPost w e.check) := by
 have hev := EvAt.new w e 117
 have hb1 : Below w.heap.size w (w.alloc (.cells e.cells 117)) := (Below.refl _ _).alloc (Nat.le_refl _) _
 have HN := hide (fun W => qop e.kind he.kind W)
 have HF := hide (fun i (hi : i < 7) W => qep e he i hi W)
 have HW := hide (fun (hc : e.cpu < 64) i (hi : i < 7) W => qkx e he hc i hi W)
 have HH := hide (fun i (hi : i < 7) W => qkw e.kind i hi he.kind W)
 have HZ := hide (fun i => qmw he i)
 have hsz : (w.alloc (.cells e.cells 117)).heap.size = w.heap.size + 1 := by simp
 have h3 := hev.kind
 unfold Ev.cells at *
 by_cases hk : e.kind = 0 ∨ 10 < e.kind
 ·have HC := hide (show e.check = 60 by unfold Ev.check; rw [if_pos hk])
  have hd : Hid (decide (1 ≤ e.kind ∧ e.kind ≤ 10) = false) := hide (by simp; omega)
  rw [hd.out] at HN
  clear hk
  go_enter Tryd.func85, Tryd.ntmps85
  go_wp2_with (go_at_call 97; refine (HN.out _).mono ?_; rintro r w1 ⟨⟨s, rfl, hs0⟩, hb2⟩; have hs : s.toList.isEmpty = true := hs0; clear hs0; have hev1 := hev.below hb2 (by omega); obtain ⟨k0, k1, k2, k3, k4, k5, k6, k7, k8, k9, k10⟩ := id hev1)
  go_ret
  exact ⟨by rw [HC.out]; rfl, hb1.trans (hb2.mono (by omega))⟩
 ·have hd : Hid (decide (1 ≤ e.kind ∧ e.kind ≤ 10) = true) := hide (by simp; omega)
  rw [hd.out] at HN
  by_cases hr : e.seq < 1 ∨ 281474976710656 < e.seq ∨ e.time < 0 ∨ 281474976710656 < e.time ∨ 64 ≤ e.cpu
  ·have hck : e.check = 61 := by unfold Ev.check; rw [if_neg hk, if_pos hr]
   have HC := hide hck
   have hcase : (e.seq < 1) ∨ (1 ≤ e.seq ∧ 281474976710656 < e.seq) ∨ (1 ≤ e.seq ∧ e.seq ≤ 281474976710656 ∧ e.time < 0) ∨ (1 ≤ e.seq ∧ e.seq ≤ 281474976710656 ∧ 0 ≤ e.time ∧ 281474976710656 < e.time) ∨ (1 ≤ e.seq ∧ e.seq ≤ 281474976710656 ∧ 0 ≤ e.time ∧ e.time ≤ 281474976710656 ∧ (63 : Int) < e.cpu) := by omega
   clear hck hk hr
   rcases hcase with a1 | ⟨a1, a2⟩ | ⟨a1, a2, a3⟩ | ⟨a1, a2, a3, a4⟩ | ⟨a1, a2, a3, a4, a5⟩
   all_goals
    go_enter Tryd.func85, Tryd.ntmps85
    go_wp2_with (go_at_call 97; refine (HN.out _).mono ?_; rintro r w1 ⟨⟨s, rfl, hs0⟩, hb2⟩; have hs : s.toList.isEmpty = false := hs0; clear hs0; have hev1 := hev.below hb2 (by omega); obtain ⟨k0, k1, k2, k3, k4, k5, k6, k7, k8, k9, k10⟩ := id hev1)
    go_ret
    exact ⟨by rw [HC.out]; rfl, hb1.trans (hb2.mono (by omega))⟩
  ·have hr1 : 1 ≤ e.seq := by omega
   have hr2 : e.seq ≤ 281474976710656 := by omega
   have hr3 : 0 ≤ e.time := by omega
   have hr4 : e.time ≤ 281474976710656 := by omega
   have hr5 : (e.cpu : Int) ≤ 63 := by omega
   have HR := hide hr
   have HK := hide hk
   clear hr hk
   go_enter Tryd.func85, Tryd.ntmps85
   go_wp2_with (go_at_call 97; refine (HN.out _).mono ?_; rintro r w1 ⟨⟨s, rfl, hs0⟩, hb2⟩; have hs : s.toList.isEmpty = false := hs0; clear hs0; have hev1 := hev.below hb2 (by omega); obtain ⟨k0, k1, k2, k3, k4, k5, k6, k7, k8, k9, k10⟩ := id hev1)
   have hb3 := hb1.trans (hb2.mono (by omega))
   have hs1 := hb2.size
   clear k0 k1 k2 k3 k4 k5 k6 k7 k8 k9 k10 h3 hb1 hev
   go_loopw [3] (que (fun i => !((usesL e.kind).contains i && !e.within i)) (w.heap.size + 1) w1) (fun i _ => 7 - (intOf i).toNat)
   case atStart => exact ⟨0, by omega, rfl, by simp, Below.refl _ _⟩
   case round =>
    obtain ⟨k, hk7, rfl, hall, hbr⟩ := hrel
    have hevr := hev1.below hbr (by omega)
    obtain ⟨m0, m1, m2, m3, m4, m5, m6, m7, m8, m9, m10⟩ := id hevr
    have hsr := hbr.size
    by_cases hlt : k < 7
    ·have HQ := hide (List.range_succ (n := k))
     have HA := hide hall
     have HHk := hide (HH.out k hlt wr)
     have HWk := hide (HW.out (by omega) k hlt wr)
     have hlt' : (k : Int) < 7 := by omega
     clear hall
     by_cases hc : (usesL e.kind).contains k = true
     ·rw [hc] at HHk
      by_cases hw : e.within k = true
      ·rw [hw] at HWk
       go_wp2_with (first | (go_at_call 98; refine HHk.out.mono ?_; rintro r w2 ⟨rfl, rfl⟩) | (go_at_call 99; refine HWk.out.mono ?_; rintro r w2 ⟨rfl, hb4⟩))
       refine ⟨⟨k + 1, by omega, by go_num, ?_, hbr.trans (hb4.mono (by omega))⟩, by simp [intOf]; omega⟩
       rw [HQ.out, List.all_append, HA.out]; simp [hw]
      ·rw [show e.within k = false by simpa using hw] at HWk
       go_wp2_with (first | (go_at_call 98; refine HHk.out.mono ?_; rintro r w2 ⟨rfl, rfl⟩) | (go_at_call 99; refine HWk.out.mono ?_; rintro r w2 ⟨rfl, hb4⟩))
       go_ret
       refine ⟨?_, hb3.trans ((hbr.trans (hb4.mono (by omega))).mono (by omega))⟩
       have : e.check = 61 := by
        have h61 : (usesL e.kind).all e.within = false := by rw [List.all_eq_false]; exact ⟨k, by simpa using hc, by simpa using hw⟩
        unfold Ev.check; rw [if_neg HK.out, if_neg HR.out, if_pos h61]
       rw [this]; rfl
     ·have hcf : (usesL e.kind).contains k = false := by simpa using hc
      rw [hcf] at HHk
      go_wp2_with (go_at_call 98; refine HHk.out.mono ?_; rintro r w2 ⟨rfl, rfl⟩)
      refine ⟨⟨k + 1, by omega, by go_num, ?_, hbr⟩, by simp [intOf]; omega⟩
      rw [HQ.out, List.all_append, HA.out]; simp only [List.all_cons, List.all_nil, hcf]; rfl
    ·have hge7 : (7 : Int) ≤ (k : Int) := by omega
     have hwa : (usesL e.kind).all e.within = true := by rw [← qoq _ (qbi e.kind)]; rw [show k = 7 by omega] at hall; exact hall
     have HA := hide hwa
     clear hall hwa
     go_wp2
     clear m0 m1 m2 m3 m4 m5 m6 m7 m8 m9 m10 hlt hk7
     obtain ⟨wo, rfl⟩ : ∃ wo : World, wo = wr := ⟨_, rfl⟩
     go_loopw [4] (que (fun i => decide (e.fld i = 0) || (usesL e.kind).contains i) (w.heap.size + 1) wo) (fun i _ => 7 - (intOf i).toNat)
     case atStart => exact ⟨0, by omega, rfl, by simp, Below.refl _ _⟩
     case round =>
      obtain ⟨k2, hk7, rfl, hall, hbq⟩ := hrel
      have hevq := hevr.below hbq (by omega)
      obtain ⟨m0, m1, m2, m3, m4, m5, m6, m7, m8, m9, m10⟩ := id hevq
      have hsq := hbq.size
      by_cases hlt : k2 < 7
      ·have HQ := hide (List.range_succ (n := k2))
       have HB := hide hall
       have HFk := hide (HF.out k2 hlt wr)
       have HHk := HH.out k2 hlt
       have HZk := hide (HZ.out k2)
       have hlt' : (k2 : Int) < 7 := by omega
       clear hall
       by_cases hc : (usesL e.kind).contains k2 = true
       ·rw [hc] at HHk
        have HHk := hide HHk
        go_wp2_with (first | (go_at_call 100; refine HFk.out.mono ?_; rintro r w2 ⟨rfl, hb4⟩; have hk2 := (hevq.below hb4 hevq.lt).kind) | (go_at_call 98; refine (HHk.out _).mono ?_; rintro r w3 ⟨rfl, rfl⟩))
        refine ⟨⟨k2 + 1, by omega, by go_num, ?_, hbq.trans (hb4.mono (by omega))⟩, by simp [intOf]; omega⟩
        rw [HQ.out, List.all_append, HB.out]; simp only [List.all_cons, List.all_nil, hc]; simp
       ·have hcf : (usesL e.kind).contains k2 = false := by simpa using hc
        rw [hcf] at HHk
        have HHk := hide HHk
        by_cases hz : e.fld k2 = 0
        ·have hnz : (e.num k2 != 0) = false := by simp [HZk.out, hz]
         have HZ0 := hide hz
         clear hz
         go_wp2_with (first | (go_at_call 100; refine HFk.out.mono ?_; rintro r w2 ⟨rfl, hb4⟩; have hk2 := (hevq.below hb4 hevq.lt).kind) | (go_at_call 98; refine (HHk.out _).mono ?_; rintro r w3 ⟨rfl, rfl⟩))
         refine ⟨⟨k2 + 1, by omega, by go_num, ?_, hbq.trans (hb4.mono (by omega))⟩, by simp [intOf]; omega⟩
         rw [HQ.out, List.all_append, HB.out]; simp [HZ0.out]
        ·have hnz : (e.num k2 != 0) = true := by simp [HZk.out, hz]
         have HZ0 := hide hz
         clear hz
         go_wp2_with (first | (go_at_call 100; refine HFk.out.mono ?_; rintro r w2 ⟨rfl, hb4⟩; have hk2 := (hevq.below hb4 hevq.lt).kind) | (go_at_call 98; refine (HHk.out _).mono ?_; rintro r w3 ⟨rfl, rfl⟩))
         go_ret
         refine ⟨?_, hb3.trans (((hbr.trans hbq).trans (hb4.mono (by omega))).mono (by omega))⟩
         have : e.check = 62 := by
          have h62 : (List.range 7).all (fun i => decide (e.fld i = 0) || (usesL e.kind).contains i) = false := by
           rw [List.all_eq_false]; exact ⟨k2, by simp; omega, by simp [HZ0.out]; simpa using hcf⟩
          unfold Ev.check; rw [if_neg HK.out, if_neg HR.out, if_neg (by rw [HA.out]; simp), if_pos h62]
         rw [this]; rfl
      ·obtain rfl : k2 = 7 := by omega
       have HB := hide hall
       clear hall
       go_wp2
       go_ret
       refine ⟨?_, hb3.trans ((hbr.trans hbq).mono (by omega))⟩
       have : e.check = 0 := by
        unfold Ev.check; rw [if_neg HK.out, if_neg HR.out, if_neg (by rw [HA.out]; simp), if_neg (by rw [HB.out]; simp)]
       rw [this]; rfl
theorem qky (k : Nat) : (List.range 7).filter (fun i => (usesL k).contains i) = usesL k := by
 obtain rfl | rfl | rfl | rfl | rfl | rfl | rfl | rfl | rfl | rfl | ⟨hu, _⟩ := qgn k
 all_goals first | decide | (rw [hu]; decide)
def upTo (kd k : Nat) : List Nat := (List.range k).filter fun i => (usesL kd).contains i
theorem qnl {kd k : Nat} (h : (usesL kd).contains k = true) : upTo kd (k + 1) = upTo kd k ++ [k] := by unfold upTo; rw [List.range_succ, List.filter_append]; simp only [List.filter_cons, h]; rfl
theorem qvb {kd k : Nat} (h : (usesL kd).contains k = false) : upTo kd (k + 1) = upTo kd k := by unfold upTo; rw [List.range_succ, List.filter_append]; simp only [List.filter_cons, h]; simp
theorem qwe (kd : Nat) : upTo kd 7 = usesL kd := qky kd
theorem qtm (kd k : Nat) (hk : k ≤ 7) : (upTo kd k).length ≤ 7 := by unfold upTo; exact Nat.le_trans (List.length_filter_le _ _) (by simp; exact hk)
def qds (e : Ev) (k : Nat) : List Nat := (upTo e.kind k).map fun i => (e.fld i).toNat
def qwf (e : Ev) (base : Nat) (w1 : World) (v i : Value) (wr : World) : Prop :=
 ∃ k n : Nat, k ≤ 7 ∧ i = .int .i64 (k : Int) ∧ n = (qds e k).length ∧ n ≤ 7 ∧ wr.ownsRow base 43 1 v n ((qds e k).map U64) ∧ Below base w1 wr
set_option maxRecDepth 100000 in
set_option maxHeartbeats 2000000 in
theorem qkz (e : Ev) (he : e.Ok) (w : World) :
  Calls Tryd.prog 108 #[.agg e.cells] w (ValsPost w e.check e.qt) := by
 have hev := EvAt.new w e 117
 have hb1 : Below w.heap.size w (w.alloc (.cells e.cells 117)) := (Below.refl _ _).alloc (Nat.le_refl _) _
 have HC := hide (qhg e he (w.alloc (.cells e.cells 117)))
 have HF := hide (fun i (hi : i < 7) W => qep e he i hi W)
 have HH := hide (fun i (hi : i < 7) W => qkw e.kind i hi he.kind W)
 have hsz : (w.alloc (.cells e.cells 117)).heap.size = w.heap.size + 1 := by simp
 unfold Ev.cells at *
 by_cases hk : e.check = 0
 ·have hne : ((e.check : Int) != 0) = false := by rw [bne_eq_false_iff_eq]; omega
  have HK := hide (show e.qt = e.vals by unfold Ev.qt; rw [if_pos hk])
  have HN := hide (fun i (hi : i ∈ usesL e.kind) => qph he hk hi)
  have HKK := hide hk
  clear hk
  go_enter Tryd.func108, Tryd.ntmps108
  go_wp2_with (go_at_call 85; refine HC.out.mono ?_; rintro r w1 ⟨rfl, hb2⟩)
  have hev1 := hev.below hb2 (by omega)
  have hb3 := hb1.trans (hb2.mono (by omega))
  have hs1 := hb2.size
  clear hev hb1
  go_loopw [5, 6] (qwf e (w.heap.size + 1) w1) (fun _ i _ => 7 - (intOf i).toNat)
  case atStart => exact ⟨0, 0, by omega, rfl, rfl, by omega, World.ownsRow_nil _ _ _ _, Below.refl _ _⟩
  case round =>
   obtain ⟨k, n, hk, rfl, hn, hn7, hown, hb⟩ := hrel
   have hevr := hev1.below hb (by omega)
   obtain ⟨m0, m1, m2, m3, m4, m5, m6, m7, m8, m9, m10⟩ := id hevr
   have hsr := hb.size
   have HL := hide hn
   clear hn
   by_cases hlt : k < 7
   ·have HHk := HH.out k hlt
    have HFk := HF.out k hlt
    have hul := qtm e.kind (k + 1) (by omega)
    have hlt' : (k : Int) < 7 := by omega
    by_cases hc : (usesL e.kind).contains k = true
    ·rw [hc] at HHk
     have hnum := HN.out k (by simpa using hc)
     have HHk := hide HHk
     have HY := hide (show qds e (k + 1) = qds e k ++ [(e.fld k).toNat] by unfold qds; rw [qnl hc, List.map_append]; rfl)
     have hl8 : n + 1 ≤ 7 := by
      rw [qnl hc, List.length_append] at hul
      rw [HL.out]; unfold qds; rw [List.length_map]; simpa using hul
     have HFk2 : ∀ W, Hid (Calls Tryd.prog 100 _ W fun r w' => r = .returned (.tuple #[.int .u64 (((e.fld k).toNat : Nat) : Int), .bool (decide (0 ≤ e.fld k))]) ∧ Below W.heap.size W w') :=
      fun W => hide ((HFk W).mono fun r w' h => ⟨by rw [← hnum]; exact h.ret, h.below⟩)
     clear hc hnum HFk
     generalize (e.fld k).toNat = y at HFk2 HY
     go_wp2_with (first | (go_at_call 98; refine (HHk.out _).mono ?_; rintro r w2 ⟨rfl, rfl⟩) | (go_at_call 100; refine (HFk2 _).out.mono ?_; rintro r w3 ⟨rfl, hb4⟩) | (at_builtin; refine qb3 rfl rfl qf0 ((((hb4 |> Chg.of_below).keep (Nat.zero_le _)).ownsRow hown (by simp)).alloc _) rfl (Rd.one w3 _ _) rfl (by simp [Value.oneCell']) (by omega) (by omega) (by simp; have := hb4.size; omega) ?_; intro A2 c2 w4 hown1 hgr1 hbl1))
     refine ⟨⟨k + 1, n + 1, by omega, by go_num, ?_, hl8, ?_, ((hb.trans (hb4.mono (by omega))).alloc (by have := hb4.size; omega) _).grown hgr1 (by simp; have := hb4.size; omega) (fun g hg => (hown.lt g hg).1)⟩, by simp [intOf]; omega⟩
     ·rw [HY.out, List.length_append, ← HL.out]; rfl
     ·rw [HY.out, List.map_append]; exact hown1
    ·have hcf : (usesL e.kind).contains k = false := by simpa using hc
     rw [hcf] at HHk
     have HHk := hide HHk
     have HY := hide (show qds e (k + 1) = qds e k by unfold qds; rw [qvb hcf])
     clear hc hcf
     go_wp2_with (go_at_call 98; refine (HHk.out _).mono ?_; rintro r w2 ⟨rfl, rfl⟩)
     exact ⟨⟨k + 1, n, by omega, by go_num, by rw [HY.out]; exact HL.out, hn7, by rw [HY.out]; exact hown, hb⟩, by simp [intOf]; omega⟩
   ·have hge : (7 : Int) ≤ (k : Int) := by omega
    have h7 : k = 7 := by omega
    have HV := hide (show qds e k = e.vals by unfold qds Ev.vals; rw [h7, qwe])
    clear h7
    go_wp2
    go_ret2
    have h1 := HKK.out
    have h2 := HL.out
    rw [HV.out] at hown h2
    rw [h2] at hown
    refine ⟨⟨_, by rw [h1]; rfl, ?_⟩, hb3.trans (hb.mono (by omega))⟩
    rw [HK.out]
    exact qdv hown (by omega)
 ·have hne : ((e.check : Int) != 0) = true := by rw [bne_iff_ne]; omega
  have HK := hide (show e.qt = [] by unfold Ev.qt; rw [if_neg hk])
  clear hk
  go_enter Tryd.func108, Tryd.ntmps108
  go_wp2_with (go_at_call 85; refine HC.out.mono ?_; rintro r w1 ⟨rfl, hbw⟩)
  go_ret2
  exact ⟨⟨_, rfl, by rw [HK.out]; exact World.ownsRow_nil _ _ _ _⟩, hb1.trans (hbw.mono (by omega))⟩
end Go.Proofs.YtfeheccoijnbaaaDoor
namespace Go.Proofs.YtfeheccoijnbaaaDoor
def crcR : Nat := 3988292384
def zq (c : Nat) : Nat := if c % 2 = 1 then (c / 2) ^^^ crcR else c / 2
def qa2 : List Nat := [0, 498536548, 997073096, 651767980, 1994146192, 1802195444, 1303535960, 1342533948, 3988292384, 4027552580, 3604390888, 3412177804, 2607071920, 2262029012, 2685067896, 3183342108]
def nib (c : Nat) : Nat := (c / 16) ^^^ (qa2.getD (c % 16) 0)
def qd1 (c x : Nat) : Nat := nib (nib (c ^^^ x))
def qu (c : Nat) (l : List Nat) : Nat := l.foldl qd1 c
def zc (l : List Nat) : Nat := 4294967295 - qu 4294967295 l
def crcT (y : Nat) : Nat := zq (zq (zq (zq (zq (zq (zq (zq y)))))))
theorem qsy (a b : Nat) : (a ^^^ b) / 2 = a / 2 ^^^ b / 2 := by
 have := Nat.shiftRight_xor_distrib (a := a) (b := b) (i := 1)
 simpa [Nat.shiftRight_eq_div_pow] using this
theorem qsz (a b : Nat) : (a ^^^ b) % 2 = (a + b) % 2 := by
 have h : (a ^^^ b).testBit 0 = ((a.testBit 0) ^^ (b.testBit 0)) := Nat.testBit_xor ..
 rw [Nat.testBit_zero, Nat.testBit_zero, Nat.testBit_zero] at h
 rcases Nat.mod_two_eq_zero_or_one a with ha | ha <;> rcases Nat.mod_two_eq_zero_or_one b with hb | hb
 ·rw [ha, hb] at h
  have : ¬ (a ^^^ b) % 2 = 1 := of_decide_eq_false h
  omega
 ·rw [ha, hb] at h
  have : (a ^^^ b) % 2 = 1 := of_decide_eq_true h
  omega
 ·rw [ha, hb] at h
  have : (a ^^^ b) % 2 = 1 := of_decide_eq_true h
  omega
 ·rw [ha, hb] at h
  have : ¬ (a ^^^ b) % 2 = 1 := of_decide_eq_false h
  omega
theorem ql1 (a b : Nat) : zq (a ^^^ b) = zq a ^^^ zq b := by
 unfold zq
 have hm := qsz a b
 rw [qsy]
 rcases Nat.mod_two_eq_zero_or_one a with ha | ha <;> rcases Nat.mod_two_eq_zero_or_one b with hb | hb
 ·rw [if_neg (by omega), if_neg (by omega), if_neg (by omega)]
 ·rw [if_pos (by omega), if_neg (by omega), if_pos (by omega), Nat.xor_assoc]
 ·rw [if_pos (by omega), if_pos (by omega), if_neg (by omega), Nat.xor_assoc, Nat.xor_assoc, Nat.xor_comm crcR]
 ·rw [if_neg (by omega), if_pos (by omega), if_pos (by omega)]
  rw [Nat.xor_assoc, Nat.xor_comm crcR, Nat.xor_assoc, Nat.xor_self, Nat.xor_zero]
theorem qch (h : Nat) : zq (2 * h) = h := by unfold zq; rw [if_neg (by omega)]; omega
theorem qqm (k c : Nat) : c = (2 ^ k * (c / 2 ^ k)) ^^^ (c % 2 ^ k) := by
 apply Nat.eq_of_testBit_eq
 intro i
 rw [Nat.testBit_xor, Nat.testBit_mod_two_pow, Nat.testBit_two_pow_mul, Nat.testBit_div_two_pow]
 by_cases h : i < k
 ·simp [h, Nat.not_le.2 h]
 ·simp [h, Nat.le_of_not_lt h]
theorem qt9 (c : Nat) : nib c = zq (zq (zq (zq c))) := by
 have h := qqm 4 c
 conv => rhs; rw [h]
 simp only [ql1]
 rw [show 2 ^ 4 * (c / 2 ^ 4) = 2 * (2 * (2 * (2 * (c / 16)))) by omega, qch, qch, qch, qch]
 unfold nib
 congr 1
 have hl : c % 2 ^ 4 < 16 := Nat.mod_lt _ (by decide)
 show qa2.getD (c % 2 ^ 4) 0 = _
 generalize c % 2 ^ 4 = y at hl
 have : ∀ y, y < 16 → qa2.getD y 0 = zq (zq (zq (zq y))) := by decide
 exact this y hl
theorem ql2 (c x : Nat) : qd1 c x = crcT (c ^^^ x) := by unfold qd1 crcT; rw [qt9, qt9]
theorem qe3 {a b : Nat} (ha : a < 4294967296) (hb : b < 4294967296) : a ^^^ b < 4294967296 := Nat.xor_lt_two_pow (n := 32) ha hb
theorem qa3 {c : Nat} (h : c < 4294967296) : zq c < 4294967296 := by
 unfold zq
 split
 ·exact qe3 (by omega) (by decide)
 ·omega
theorem quz {c : Nat} (h : c < 4294967296) : crcT c < 4294967296 := by
 unfold crcT
 exact qa3 (qa3 (qa3 (qa3 (qa3 (qa3 (qa3 (qa3 h)))))))
theorem ql3 {c x : Nat} (hc : c < 4294967296) (hx : x < 256) : qd1 c x < 4294967296 := by
 rw [ql2]; exact quz (qe3 hc (by omega))
theorem qe4 : ∀ (l : List Nat) {c : Nat}, c < 4294967296 → (∀ x ∈ l, x < 256) → qu c l < 4294967296
 | [], _, h, _ => h
 | x :: l, _, h, hl => qe4 l (ql3 h (hl x List.mem_cons_self)) (fun y hy => hl y (List.mem_cons_of_mem _ hy))
theorem qs0 {c : Nat} (h : c < 4294967296) : c ^^^ 4294967295 = 4294967295 - c := by
 apply Nat.eq_of_testBit_eq
 intro i
 rw [show 4294967295 - c = 2 ^ 32 - (c + 1) by omega, Nat.testBit_xor, Nat.testBit_two_pow_sub_succ (by omega), show (4294967295 : Nat) = 2 ^ 32 - 1 from rfl, Nat.testBit_two_pow_sub_one]
 by_cases hi : i < 32
 ·simp [hi]
 ·have : c.testBit i = false := Nat.testBit_lt_two_pow (Nat.lt_of_lt_of_le h (Nat.pow_le_pow_right (n := 2) (by decide) (by omega : 32 ≤ i)))
  simp [hi, this]
end Go.Proofs.YtfeheccoijnbaaaDoor
namespace Go.Proofs.YtfeheccoijnbaaaDoor
open Go.RowKit
theorem qm7 : ∀ (l : List Nat) (i acc x m : Nat), (∀ b ∈ l, b < 256) → i ≤ 9 → vgo i acc l = (x, m, 0) →
  ∃ y, x = acc + y * 128 ^ i ∧ (grp (10 - i) y).map vbyte = l.take (m - i) ∧ i < m ∧ (0 < i → 0 < y)
 | [], i, acc, x, m, _, _, h => by simp [vgo] at h
 | b :: r, i, acc, x, m, hl, hi, h => by
  have hb := hl b (by simp)
  rw [vgo] at h
  split at h
  ·simp at h
  ·rename_i h9
   split at h
   ·simp at h
   ·rename_i h0
    split at h
    ·rename_i h128
     simp only [Prod.mk.injEq] at h
     obtain ⟨rfl, rfl, _⟩ := h
     refine ⟨b, rfl, ?_, by omega, fun _ => by omega⟩
     obtain ⟨f, hf⟩ : ∃ f, 10 - i = f + 1 := ⟨9 - i, by omega⟩
     rw [hf, qei f b h128, show i + 1 - i = 1 by omega]
     rfl
    ·rename_i h128
     obtain ⟨y, h1, h2, h3, h4⟩ := qm7 r (i + 1) _ x m (fun b hb => hl b (by simp [hb])) (by omega) h
     have hy := h4 (by omega)
     refine ⟨(b - 128) + 128 * y, ?_, ?_, by omega, fun _ => by omega⟩
     ·rw [h1, Nat.pow_succ, Nat.add_mul]
      have : y * (128 ^ i * 128) = 128 * y * 128 ^ i := by rw [Nat.mul_comm (128 ^ i) 128, ← Nat.mul_assoc, Nat.mul_comm y 128]
      omega
     ·obtain ⟨f, hf⟩ : ∃ f, 10 - i = f + 1 := ⟨9 - i, by omega⟩
      rw [hf, qcd f _ (by omega), show ((b - 128) + 128 * y) % 128 = b - 128 by omega, show ((b - 128) + 128 * y) / 128 = y by omega]
      rw [show f = 10 - (i + 1) by omega, List.map_cons, h2]
      obtain ⟨k, hk⟩ : ∃ k, m - i = k + 1 := ⟨m - i - 1, by omega⟩
      rw [hk, List.take_succ_cons, show m - (i + 1) = k by omega]
      congr 1
      show b - 128 + 128 = b
      omega
theorem qfs {l : List Nat} {x m : Nat} (hl : ∀ b ∈ l, b < 256) (h : vread l = (x, m, 0)) : vbytes x = l.take m := by
 obtain ⟨y, h1, h2, h3, _⟩ := qm7 l 0 0 x m hl (by omega) h
 have : x = y := by simpa using h1
 subst this
 simpa [vbytes] using h2
theorem qib : ∀ (j : Nat) (l xs : List Nat) (u : Nat), (∀ b ∈ l, b < 256) → readN j l = (xs, u, 0) → xs.flatMap vbytes = l.take u ∧ xs.length = j ∧ (∀ x ∈ xs, x < 18446744073709551616) ∧ u ≤ l.length
 | 0, l, xs, u, _, h => by
  simp only [readN, Prod.mk.injEq] at h
  obtain ⟨rfl, rfl, _⟩ := h
  simp
 | j + 1, l, xs, u, hl, h => by
  have hvl := qcn l
  have hvb := qej l hl
  rw [readN] at h
  split at h
  ·rename_i h1; simp at h; exact absurd h.2.2 h1
  ·rename_i h1
   split at h
   ·rename_i h2; simp at h; exact absurd h.2.2 h2
   ·rename_i h2
    have hv : vread l = ((vread l).1, (vread l).2.1, 0) := by rw [← show (vread l).2.2 = 0 by omega]
    generalize (vread l).1 = x at hv h hvb
    generalize (vread l).2.1 = m at hv h hvl
    have hq : readN j (l.drop m) = ((readN j (l.drop m)).1, (readN j (l.drop m)).2.1, 0) := by
     rw [hv] at h2
     rw [← show (readN j (l.drop m)).2.2 = 0 by simpa using h2]
    generalize (readN j (l.drop m)).1 = ys at hq h
    generalize (readN j (l.drop m)).2.1 = n at hq h
    simp only [Prod.mk.injEq] at h
    obtain ⟨rfl, rfl, _⟩ := h
    obtain ⟨g1, g2, g3, g4⟩ := qib j (l.drop m) ys n (fun b hb => hl b (List.mem_of_mem_drop hb)) hq
    rw [List.length_drop] at g4
    refine ⟨?_, by simp [g2], ?_, by omega⟩
    ·rw [List.flatMap_cons, g1, qfs hl hv, List.take_add]
    ·intro z hz
     rcases List.mem_cons.1 hz with rfl | hz
     ·exact hvb
     ·exact g3 z hz
theorem qjg {e : Ev} : ∀ {i : Nat}, i < 7 → i ≠ 5 → e.within i = true → e.fld i ≤ 4294967295
 | 0, _, _, h => by simp only [Ev.within, decide_eq_true_eq] at h; show e.task ≤ _; omega
 | 1, _, _, h => by simp only [Ev.within, decide_eq_true_eq] at h; show e.group ≤ _; omega
 | 2, _, _, h => by simp only [Ev.within, decide_eq_true_eq] at h; show e.to ≤ _; omega
 | 3, _, _, h => by simp only [Ev.within, decide_eq_true_eq] at h; show e.weight ≤ _; omega
 | 4, _, _, h => by simp only [Ev.within, decide_eq_true_eq] at h; show e.ticks ≤ _; omega
 | 5, _, h5, _ => absurd rfl h5
 | n + 6, _, _, h => by simp only [Ev.within, decide_eq_true_eq] at h; show e.got ≤ _; omega
theorem qqj {x : Nat} (h2 : x < 18446744073709551616) (h0 : 0 ≤ wrap64 (x : Int)) (h1 : wrap64 (x : Int) ≤ 4294967295) : (wrap64 (x : Int)).toNat = x := by
 rw [← IntWalk.i64_left, IntKind.wrap_i64] at *; omega
theorem qsx (o : Ev) (i x : Nat) (hi : i < 7) : (o.put i x).mask = if i = 5 then x else o.mask := by
 obtain rfl | rfl | rfl | rfl | rfl | rfl | rfl : i = 0 ∨ i = 1 ∨ i = 2 ∨ i = 3 ∨ i = 4 ∨ i = 5 ∨ i = 6 := by omega
 all_goals rfl
theorem qkc (x : Nat) : ∀ (l : List (Nat × Nat)) (o : Ev), (∀ p ∈ l, p.1 < 7) → (l.map (·.1)).Nodup → (5, x) ∈ l → (o.fill l).mask = x
 | [], _, _, _, h => by simp at h
 | p :: l, o, h7, hd, h => by
  rw [List.map_cons, List.nodup_cons] at hd
  rcases List.mem_cons.1 h with rfl | h
  ·have h2 := qfi 5 (by omega) l (o.put 5 x) (fun q hq => ⟨h7 q (by simp [hq]), fun e => hd.1 (by rw [← e]; exact List.mem_map.2 ⟨q, hq, rfl⟩)⟩)
   have h3 : ((o.fill ((5, x) :: l)).mask : Int) = ((o.put 5 x).mask : Int) := h2
   rw [qsx o 5 x (by omega), if_pos rfl] at h3
   omega
  ·exact qkc x l (o.put p.1 p.2) (fun q hq => h7 q (by simp [hq])) hd.2 h
theorem qqk {e : Ev} {vs : List Nat} (hn : vs.length = (usesL e.kind).length) (hv : ∀ x ∈ vs, x < 18446744073709551616) (hc : (e.made vs).check = 0) : (e.made vs).vals = vs := by
 have hk := (qgo e vs).1
 have hw := (qdh hc).2.1
 rw [hk, List.all_eq_true] at hw
 have hkeys : ∀ p ∈ (usesL e.kind).zip vs, p.1 < 7 := fun p hp => qbi _ _ (List.of_mem_zip hp).1
 have hnd : (((usesL e.kind).zip vs).map (·.1)).Nodup := by rw [List.map_fst_zip (by omega)]; exact qgp _
 have hall : ∀ p ∈ (usesL e.kind).zip vs, ((e.made vs).fld p.1).toNat = p.2 := by
  rintro ⟨i, x⟩ hm
  have hi := (List.of_mem_zip hm).1
  by_cases h5 : i = 5
  ·subst h5
   have := qkc x _ e.base hkeys hnd hm
   show ((e.made vs).mask : Int).toNat = x
   unfold Ev.made; rw [this]; simp
  ·have h1 : (e.made vs).fld i = wrap64 (x : Int) := qi2 i x h5 _ _ hkeys hnd hm
   have h0 := qby (hw i hi)
   have h2 := qjg (qbi _ _ hi) h5 (hw i hi)
   rw [h1] at h0 h2
   show ((e.made vs).fld i).toNat = x
   rw [h1]
   exact qqj (hv x (List.of_mem_zip hm).2) h0 h2
 unfold Ev.vals
 rw [hk]
 have h1 : (usesL e.kind).map (fun i => ((e.made vs).fld i).toNat) = ((usesL e.kind).zip vs).map (fun p => ((e.made vs).fld p.1).toNat) := by
  conv => lhs; rw [← List.map_fst_zip (l₁ := usesL e.kind) (l₂ := vs) (by omega), List.map_map]
  rfl
 rw [h1, List.map_congr_left hall, List.map_snd_zip (by omega)]
structure TakeGood (b : Bs) (cpu : Nat) (l : List Nat) (e : Ev) (u : Nat) : Prop where
 right : b.right = true
 bytes : zn b e = l.take u
 check : e.check = 0
 cpu : e.cpu = cpu
 behind : b.behind e = true
 ok : e.Ok
 len : u ≤ l.length
theorem qn8 {b : Bs} {cpu : Nat} (hcpu : cpu < 256) {l : List Nat} {e : Ev} {u : Nat} (hl : ∀ b ∈ l, b < 256) (h : takeR b cpu l = (e, u, 0)) : TakeGood b cpu l e u := by
 unfold takeR at h
 split at h
 ·simp at h
 ·rename_i hr
  split at h
  ·simp at h
  ·rename_i hne
   split at h
   ·simp at h
   ·obtain ⟨kd, r, rfl⟩ : ∃ kd r, l = kd :: r := by
     cases l with
     | nil => exact absurd rfl hne
     | cons a b => exact ⟨a, b, rfl⟩
    rw [List.getD_cons_zero, List.drop_succ_cons, List.drop_zero] at h
    have hrr : b.right = true := by simpa using hr
    have hkd := hl kd (by simp)
    unfold qb4 at h
    split at h
    ·rename_i h1; simp at h; exact absurd h.2.2 h1
    ·rename_i h1
     have hq : readN (2 + (usesL kd).length) r = ((readN (2 + (usesL kd).length) r).1, (readN (2 + (usesL kd).length) r).2.1, 0) := by rw [← show (readN (2 + (usesL kd).length) r).2.2 = 0 by omega]
     obtain ⟨xs, hxs⟩ : ∃ xs, (readN (2 + (usesL kd).length) r).1 = xs := ⟨_, rfl⟩
     obtain ⟨n, hn⟩ : ∃ n, (readN (2 + (usesL kd).length) r).2.1 = n := ⟨_, rfl⟩
     rw [hxs, hn] at hq h
     obtain ⟨g1, g2, g3, g4⟩ := qib _ r xs n (fun b hb => hl b (by simp [hb])) hq
     obtain ⟨x0, x1, vs, rfl⟩ : ∃ x0 x1 vs, xs = x0 :: x1 :: vs := by
      match xs, g2 with
      | x0 :: x1 :: vs, _ => exact ⟨x0, x1, vs, rfl⟩
      | [_], h => simp at h; omega
      | [], h => simp at h; omega
     simp only [List.getD_cons_zero, List.getD_cons_succ, List.drop_succ_cons, List.drop_zero] at h
     split at h
     ·simp at h
     ·rename_i h2
      split at h
      ·simp at h
      ·rename_i h3
       simp only [Prod.mk.injEq] at h
       obtain ⟨rfl, rfl, _⟩ := h
       have hvl : vs.length = (usesL kd).length := by simp at g2; omega
       have hE : (b.ev cpu kd x0 x1).zd vs = 0 := by omega
       have hck : ((b.ev cpu kd x0 x1).made vs).check = 0 := by
        unfold Ev.zd at hE
        split at hE
        ·cases hE
        ·split at hE
         ·cases hE
         ·split at hE
          ·cases hE
          ·rename_i h; simpa using h
       have hmk := qgo (b.ev cpu kd x0 x1) vs
       have hvals := qqk (e := b.ev cpu kd x0 x1) (vs := vs) hvl (fun x hx => g3 x (by simp [hx])) hck
       have hqr := hrr
       unfold Bs.right at hqr
       simp only [decide_eq_true_eq] at hqr
       have hEok : (b.ev cpu kd x0 x1).Ok := ⟨⟨by show _ ≤ b.seq + (x0 : Int); omega, by show b.seq + (x0 : Int) ≤ _; omega⟩, ⟨by show _ ≤ b.time + (x1 : Int); omega, by show b.time + (x1 : Int) ≤ _; omega⟩, hcpu, hkd, zw, zw, zw, zw, zw, by show 0 < 18446744073709551616; omega, zw⟩
       refine ⟨hrr, ?_, hck, hmk.2.2.2, ?_, qgl (qi1 hEok) _ (fun p hp => g3 p.2 (by have := (List.of_mem_zip hp).2; simp [this])), by simp; omega⟩
       ·unfold zn qan
        rw [hmk.1, hmk.2.1, hmk.2.2.1, hvals]
        rw [show ((b.ev cpu kd x0 x1).seq - b.seq).toNat = x0 by show (b.seq + (x0 : Int) - b.seq).toNat = x0; omega, show ((b.ev cpu kd x0 x1).time - b.time).toNat = x1 by show (b.time + (x1 : Int) - b.time).toNat = x1; omega]
        rw [g1, Nat.add_comm 1 n, List.take_succ_cons]
        rfl
       ·unfold Bs.behind
        rw [hmk.2.1, hmk.2.2.1]
        simp only [decide_eq_true_eq]
        show b.seq ≤ b.seq + (x0 : Int) ∧ b.time ≤ b.time + (x1 : Int)
        omega
theorem qql (p : Option Ev) (i : Nat) : rowGo p i [] = (-1, 0) := rfl
theorem qgw {cpu : Nat} (hcpu : cpu < 256) : ∀ (n : Nat) (b : Bs) (p : Option Ev) (l : List Nat) (es : List Ev) (u : Nat), (∀ x ∈ l, x < 256) → (∀ q, p = some q → b = q.at ∧ q.cpu = cpu) → qw cpu n b p l = (es, u, 0) →
  es.length = n ∧ recs b es = l.take u ∧ u ≤ l.length ∧ (∀ i, (rowGo p i es).2 = 0) ∧ (∀ e ∈ es, e.Ok ∧ e.cpu = cpu) ∧ es.head?.all b.behind = true
 | 0, b, p, l, es, u, _, _, h => by
  simp only [qw, Prod.mk.injEq] at h
  obtain ⟨rfl, rfl, _⟩ := h
  simp [recs, qql]
 | n + 1, b, p, l, es, u, hl, hp, h => by
  rw [qw] at h
  split at h
  ·rename_i h1; simp at h; exact absurd h.2.2 h1
  ·rename_i h1
   have hq : takeR b cpu l = ((takeR b cpu l).1, (takeR b cpu l).2.1, 0) := by rw [← show (takeR b cpu l).2.2 = 0 by omega]
   generalize (takeR b cpu l).1 = e at hq h
   generalize (takeR b cpu l).2.1 = m at hq h
   split at h
   ·simp at h
   ·rename_i h2
    split at h
    ·rename_i h3; simp at h; exact absurd h.2.2 h3
    ·rename_i h3
     have hg := qn8 hcpu hl hq
     have hr : qw cpu n e.at (some e) (l.drop m) = ((qw cpu n e.at (some e) (l.drop m)).1, (qw cpu n e.at (some e) (l.drop m)).2.1, 0) := by rw [← show (qw cpu n e.at (some e) (l.drop m)).2.2 = 0 by omega]
     generalize (qw cpu n e.at (some e) (l.drop m)).1 = fs at hr h
     generalize (qw cpu n e.at (some e) (l.drop m)).2.1 = v at hr h
     simp only [Prod.mk.injEq] at h
     obtain ⟨rfl, rfl, _⟩ := h
     obtain ⟨g1, g2, g3, g4, g5, g6⟩ := qgw hcpu n e.at (some e) (l.drop m) fs v (fun x hx => hl x (List.mem_of_mem_drop hx)) (fun q hq => by injection hq with hq; subst hq; exact ⟨rfl, hg.cpu⟩) hr
     rw [List.length_drop] at g3
     refine ⟨by simp [g1], ?_, by have := hg.len; omega, fun i => ?_, ?_, by simpa using hg.behind⟩
     ·rw [recs, g2, hg.bytes, List.take_add]
     ·rw [rowGo, if_neg (by simp [hg.check]), if_neg]
      ·exact g4 (i + 1)
      ·cases p with
       | none => simp
       | some q =>
        obtain ⟨rfl, hc⟩ := hp q rfl
        have hb := hg.behind
        unfold Bs.behind Ev.at at hb
        simp only [decide_eq_true_eq] at hb
        simp at h2
        have haf : e.after q = true := by
         unfold Ev.after
         rw [decide_eq_true_eq]
         exact ⟨by rw [hg.cpu, hc], by omega, hb.2⟩
        simp [haf]
     ·intro x hx
      rcases List.mem_cons.1 hx with rfl | hx
      ·exact ⟨hg.ok, hg.cpu⟩
      ·exact g5 x hx
theorem qft {b : Bs} {cpu : Nat} (hcpu : cpu < 256) {m : Int} {l : List Nat} {es : List Ev} {u : Nat} (hl : ∀ x ∈ l, x < 256) (h : readR b cpu m l = (es, u, 0)) :
  (es.length : Int) = m ∧ qv b es = 0 ∧ zi b es = l.take u ∧ u ≤ l.length ∧ (∀ e ∈ es, e.Ok ∧ e.cpu = cpu) := by
 unfold readR at h
 split at h
 ·simp at h
 ·split at h
  ·simp at h
  ·rename_i h1 h2
   obtain ⟨g1, g2, g3, g4, g5, g6⟩ := qgw hcpu m.toNat b none l es u hl (fun q hq => by cases hq) h
   have he : qv b es = 0 := by
    unfold qv rowR
    rw [if_neg (by simp [g4 0]), if_pos ⟨by simpa using h2, g6⟩]
   refine ⟨by omega, he, ?_, g3, g5⟩
   unfold zi
   rw [if_pos he, g2]
structure Fit (b : Bs) (e : Ev) : Prop where
 right : b.right = true
 check : e.check = 0
 ok : e.Ok
 behind : b.behind e = true
def Chain (cpu : Nat) : Option Ev → Bs → List Ev → Prop
 | _, _, [] => True
 | p, b, e :: r => Fit b e ∧ e.cpu = cpu ∧ (∀ q, p = some q → q.seq < e.seq) ∧ Chain cpu (some e) e.at r
theorem qgg {e : Ev} (hc : e.check = 0) : e.at.right = true := by
 obtain ⟨_, _, _, g1, g2, g3, g4⟩ := qdh hc
 unfold Bs.right Ev.at
 rw [decide_eq_true_eq]
 exact ⟨g1, g2, g3, g4⟩
theorem qkd {cpu : Nat} : ∀ (es : List Ev) (p : Option Ev) (b : Bs) (i : Nat), Chain cpu p b es → (∀ q, p = some q → b = q.at ∧ q.cpu = cpu) → rowGo p i es = (-1, 0)
 | [], _, _, _, _, _ => rfl
 | e :: r, p, b, i, h, hp => by
  obtain ⟨h1, h2, h3, h4⟩ := h
  rw [rowGo, if_neg (by simp [h1.check]), if_neg]
  ·exact qkd r (some e) e.at (i + 1) h4 (fun q hq => by injection hq with hq; subst hq; exact ⟨rfl, h2⟩)
  ·cases p with
   | none => simp
   | some q =>
    obtain ⟨rfl, hc⟩ := hp q rfl
    have hb := h1.behind
    unfold Bs.behind Ev.at at hb
    simp only [decide_eq_true_eq] at hb
    have := h3 q rfl
    have haf : e.after q = true := by
     unfold Ev.after
     rw [decide_eq_true_eq]
     exact ⟨by rw [h2, hc], this, hb.2⟩
    simp [haf]
theorem qke {cpu : Nat} {es : List Ev} {b : Bs} (hb : b.right = true) (h : Chain cpu none b es) : rowR es = (-1, 0) ∧ qv b es = 0 ∧ zi b es = recs b es := by
 have h1 : rowR es = (-1, 0) := qkd es none b 0 h (fun q hq => by cases hq)
 have h2 : qv b es = 0 := by
  unfold qv
  have hh : es.head?.all b.behind = true := by
   cases es with
   | nil => rfl
   | cons e r => simpa using h.1.behind
  rw [h1, if_neg (by simp), if_pos ⟨hb, hh⟩]
 refine ⟨h1, h2, ?_⟩
 unfold zi
 rw [if_pos h2]
structure Bk where
 kind : Nat
 cpu : Nat
 lost : Int
 next : Int
 evs : List Ev
structure Bk.Ok (b : Bk) : Prop where
 kind : b.kind < 256
 cpu : b.cpu < 256
 lost : I64 b.lost
 next : I64 b.next
 evs : ∀ e ∈ b.evs, e.Ok
def Bk.zero : Bk := ⟨0, 0, 0, 0, []⟩
def Bk.qhq (b : Bk) : Bool := match b.evs with
 | [] => decide (0 < b.lost)
 | e :: _ => decide (e.cpu = b.cpu)
def Bk.qdb (b : Bk) : Bool := decide ((rowR b.evs).2 = 0 ∧ b.cpu < 64 ∧ 0 ≤ b.lost ∧ b.lost ≤ 281474976710656 ∧ b.next = 0 ∧ b.qhq = true)
def Bk.qhr (b : Bk) : Bool := decide (1 ≤ b.next ∧ b.next ≤ 281474976710657 ∧ b.cpu = 0 ∧ b.lost = 0 ∧ b.evs.length = 0)
def Bk.fits (b : Bk) : Bool := if b.kind = 1 then b.qdb else if b.kind = 2 then b.qhr else false
def Bk.base (b : Bk) : Bs := (b.evs.headD Ev.zero).at
def Bk.body (b : Bk) : List Nat :=
 if b.kind = 2 then vbytes b.next.toNat
 else vbytes b.cpu ++ vbytes b.lost.toNat ++ vbytes b.evs.length ++ (if b.evs.length = 0 then [] else vbytes b.base.seq.toNat ++ vbytes b.base.time.toNat ++ recs b.base b.evs)
def le4 (n : Nat) : List Nat := [n % 256, n / 256 % 256, n / 65536 % 256, n / 16777216 % 256]
def Bk.raw (b : Bk) : List Nat := le4 (12 + b.body.length) ++ [113, 116, 1, b.kind] ++ b.body
def sealL (l : List Nat) : List Nat := l ++ le4 (zc l)
def Bk.err (b : Bk) : Nat := if b.fits = false then 107 else if 4096 < 12 + b.body.length then 3 else 0
def Bk.out (b : Bk) : List Nat := if b.err = 0 then sealL b.raw else []
def num4 (l : List Nat) : Nat := l.getD 0 0 + 256 * l.getD 1 0 + 65536 * l.getD 2 0 + 16777216 * l.getD 3 0
def lenR (l : List Nat) : Nat × Nat := if l.length < 4 then (0, 100) else if num4 l < 13 ∨ 4096 < num4 l then (0, 101) else if l.length < num4 l then (0, 100) else (num4 l, 0)
def qbu (l : List Nat) : Bool := decide (4 ≤ l.length ∧ zc (l.take (l.length - 4)) = num4 (l.drop (l.length - 4)))
def tkOk (most : Nat) (l : List Nat) : Bool := decide ((vread l).2.2 = 0 ∧ (vread l).1 ≤ most)
def qc (l : List Nat) : List Nat := l.drop (vread l).2.1
def tkVal (most : Nat) (l : List Nat) : Nat := if most < (vread l).1 then most else (vread l).1
def qa0 (l : List Nat) : Option Bk :=
 if tkOk 281474976710657 l = true ∧ (qc l).length = 0 ∧ Bk.fits ⟨2, 0, 0, tkVal 281474976710657 l, []⟩ = true then some ⟨2, 0, 0, tkVal 281474976710657 l, []⟩ else none
def qal (cpu lost : Nat) (l : List Nat) (q : List Ev × Nat × Nat) : Option Bk :=
 if q.2.2 = 0 ∧ (q.1.headD Ev.zero).seq = tkVal 281474976710656 l ∧ (q.1.headD Ev.zero).time = tkVal 281474976710656 (qc l) ∧ tkOk 281474976710656 l = true ∧ tkOk 281474976710656 (qc l) = true ∧ ((qc (qc l)).drop q.2.1).length = 0 ∧ Bk.fits ⟨1, cpu, lost, 0, q.1⟩ = true then some ⟨1, cpu, lost, 0, q.1⟩ else none
def qcu (l : List Nat) : Bool := tkOk 63 l && tkOk 281474976710656 (qc l) && tkOk 4096 (qc (qc l))
def zj (l : List Nat) : Option Bk :=
 if qcu l = true ∧ 0 < tkVal 4096 (qc (qc l)) then
  qal (tkVal 63 l) (tkVal 281474976710656 (qc l)) (qc (qc (qc l)))
   (readR ⟨tkVal 281474976710656 (qc (qc (qc l))), tkVal 281474976710656 (qc (qc (qc (qc l))))⟩ (tkVal 63 l) (tkVal 4096 (qc (qc l))) (qc (qc (qc (qc (qc l))))))
 else if qcu l = true ∧ (qc (qc (qc l))).length = 0 ∧ Bk.fits ⟨1, tkVal 63 l, tkVal 281474976710656 (qc l), 0, []⟩ = true then some ⟨1, tkVal 63 l, tkVal 281474976710656 (qc l), 0, []⟩ else none
def qee (kind : Nat) (l : List Nat) : Option Bk := if kind = 2 then qa0 l else zj l
def blkOf (l : List Nat) : Option Bk × Nat :=
 if qbu l = false then (none, 102)
 else if ¬ (l.getD 4 0 = 113 ∧ l.getD 5 0 = 116) then (none, 103)
 else if l.getD 6 0 ≠ 1 then (none, 104)
 else if l.getD 7 0 ≠ 1 ∧ l.getD 7 0 ≠ 2 then (none, 105)
 else match qee (l.getD 7 0) ((l.take (l.length - 4)).drop 8) with
  | none => (none, 106)
  | some b => (some b, 0)
def readB (l : List Nat) : Bk × Nat × Nat :=
 if (lenR l).2 ≠ 0 then (Bk.zero, 0, (lenR l).2)
 else match (blkOf (l.take (lenR l).1)).1 with
  | some b => (b, (lenR l).1, 0)
  | none => (Bk.zero, 0, (blkOf (l.take (lenR l).1)).2)
theorem qc6 {most : Nat} {l : List Nat} (hl : ∀ x ∈ l, x < 256) (h : tkOk most l = true) : ∃ x m, vread l = (x, m, 0) ∧ tkVal most l = x ∧ x ≤ most ∧ vbytes x = l.take m ∧ qc l = l.drop m ∧ vbytes x ++ qc l = l := by
 unfold tkOk at h
 rw [decide_eq_true_eq] at h
 refine ⟨(vread l).1, (vread l).2.1, by rw [← h.1], by unfold tkVal; rw [if_neg (by omega)], h.2, ?_, rfl, ?_⟩
 ·exact qfs hl (by rw [← h.1])
 ·have := qfs hl (show vread l = ((vread l).1, (vread l).2.1, 0) by rw [← h.1])
  rw [this]
  exact List.take_append_drop _ _
theorem zu {l : List Nat} (hl : ∀ x ∈ l, x < 256) : ∀ x ∈ qc l, x < 256 := fun x hx => hl x (List.mem_of_mem_drop hx)
theorem qs1 {b : Bk} (h : b.fits = true) (hk : b.kind = 2) : b.qhr = true := by unfold Bk.fits at h; rwa [if_neg (by omega), if_pos hk] at h
theorem qd2 {b : Bk} (h : b.fits = true) (hk : b.kind ≠ 2) : b.kind = 1 ∧ b.qdb = true := by
 unfold Bk.fits at h
 split at h
 ·rename_i h1; exact ⟨h1, h⟩
 ·cases h
theorem qqn (b : Bs) (e : Ev) : (zn b e).length ≤ 61 := by
 unfold zn qan
 have h1 := qk (e.seq - b.seq).toNat
 have h2 := qk (e.time - b.time).toNat
 have h3 := qah e.vals
 have h4 : e.vals.length ≤ 4 := by unfold Ev.vals; rw [List.length_map]; exact qa4 _
 simp only [List.length_cons, List.flatMap_cons, List.length_append]
 omega
theorem qe5 : ∀ (l : List Ev) (b : Bs), (recs b l).length ≤ 61 * l.length
 | [], _ => by simp [recs]
 | e :: r, b => by
  have h1 := qqn b e
  have h2 := qe5 r e.at
  rw [recs, List.length_append, List.length_cons]
  omega
theorem qdn {cpu : Nat} : ∀ (es : List Ev) (p : Option Ev) (b : Bs) (i : Nat), (∀ e ∈ es, e.Ok) → b.right = true → (∀ e ∈ es.head?, b.behind e = true ∧ e.cpu = cpu) → (∀ q, p = some q → b = q.at ∧ q.cpu = cpu) → (rowGo p i es).2 = 0 → Chain cpu p b es
 | [], _, _, _, _, _, _, _, _ => trivial
 | e :: r, p, b, i, hok, hb, hh, hp, h => by
  rw [rowGo] at h
  split at h
  ·rename_i h1; exact absurd h h1
  ·rename_i h1
   split at h
   ·cases h
   ·rename_i h2
    have hc : e.check = 0 := by omega
    obtain ⟨g1, g2⟩ := hh e (by simp)
    refine ⟨⟨hb, hc, hok e (by simp), g1⟩, g2, ?_, ?_⟩
    ·intro q hq
     subst hq
     simp [Ev.after] at h2
     omega
    ·refine qdn r (some e) e.at (i + 1) (fun x hx => hok x (by simp [hx])) (qgg hc) ?_ (fun q hq => by injection hq with hq; subst hq; exact ⟨rfl, g2⟩) h
     intro x hx
     cases r with
     | nil => cases hx
     | cons y r =>
      simp at hx
      subst hx
      rw [rowGo] at h
      split at h
      ·rename_i h3; exact absurd h h3
      ·split at h
       ·cases h
       ·rename_i h4
        simp [Ev.after] at h4
        refine ⟨?_, by omega⟩
        unfold Bs.behind Ev.at
        rw [decide_eq_true_eq]
        exact ⟨by show e.seq ≤ y.seq; omega, h4.2.2⟩
theorem qm8 {l : List Ev} {e : Ev} (h : (rowR l).2 = 0) (he : l.head? = some e) : e.check = 0 := by
 cases l with
 | nil => cases he
 | cons x r =>
  injection he with he
  subst he
  unfold rowR at h
  rw [rowGo] at h
  split at h
  ·rename_i h1; exact absurd h h1
  ·omega
theorem qgx (e : Ev) : e.at.behind e = true := by unfold Bs.behind Ev.at; rw [decide_eq_true_eq]; exact ⟨Int.le_refl _, Int.le_refl _⟩
structure EvsFit (b : Bk) (e : Ev) (r : List Ev) : Prop where
 evs : b.evs = e :: r
 cpu : e.cpu = b.cpu
 base : b.base = e.at
 check : e.check = 0
 right : e.at.right = true
 chain : Chain b.cpu none e.at b.evs
theorem qgh {b : Bk} (hok : b.Ok) (h : b.qdb = true) (hn : b.evs.length ≠ 0) : ∃ e r, EvsFit b e r := by
 unfold Bk.qdb at h
 rw [decide_eq_true_eq] at h
 obtain ⟨h1, h2, h3, h4, h5, h6⟩ := h
 cases hev : b.evs with
 | nil => rw [hev] at hn; simp at hn
 | cons e r =>
  have hc : e.check = 0 := qm8 h1 (by rw [hev]; rfl)
  have hcpu : e.cpu = b.cpu := by unfold Bk.qhq at h6; rw [hev] at h6; simpa using h6
  refine ⟨e, r, hev, hcpu, by unfold Bk.base; rw [hev]; rfl, hc, qgg hc, ?_⟩
  refine qdn b.evs none e.at 0 hok.evs (qgg hc) ?_ (fun q hq => by cases hq) h1
  intro x hx
  rw [hev] at hx
  simp at hx
  subst hx
  exact ⟨qgx _, hcpu⟩
theorem qic {b : Bk} (hok : b.Ok) (h : b.qdb = true) (hn : b.evs.length ≠ 0) : qv b.base b.evs = 0 ∧ zi b.base b.evs = recs b.base b.evs := by
 obtain ⟨e, r, g⟩ := qgh hok h hn
 rw [g.base]
 obtain ⟨_, h1, h2⟩ := qke g.right g.chain
 exact ⟨h1, h2⟩
theorem qdo {x : Nat} (h : x ≤ 281474976710657) : I64 (x : Int) := by unfold I64; omega
theorem qn9 {k : Nat} (hk : k = 1 ∨ k = 2) {l : List Nat} (hl : ∀ x ∈ l, x < 256) {b : Bk} (h : qee k l = some b) : b.kind = k ∧ b.Ok ∧ b.fits = true ∧ b.body = l ∧ b.evs.length ≤ 4096 := by
 unfold qee at h
 split at h
 ·rename_i hk2
  unfold qa0 at h
  split at h
  ·rename_i hc
   obtain ⟨c1, c2, c3⟩ := hc
   obtain ⟨x, m, v1, v2, v3, v4, v5, v6⟩ := qc6 hl c1
   injection h with h
   subst h
   rw [v2] at c3 ⊢
   refine ⟨hk2.symm, ⟨by show 2 < 256; decide, by show 0 < 256; decide, by unfold I64; simp, qdo v3, by simp⟩, c3, ?_, by simp⟩
   rw [List.length_eq_zero_iff] at c2
   rw [c2, List.append_nil] at v6
   unfold Bk.body
   rw [if_pos rfl]
   simpa using v6
  ·cases h
 ·rename_i hk2
  have hk1 : k = 1 := by omega
  unfold zj at h
  split at h
  ·rename_i hc
   obtain ⟨c1, c2⟩ := hc
   unfold qcu at c1
   simp only [Bool.and_eq_true] at c1
   obtain ⟨⟨c1, c3⟩, c4⟩ := c1
   obtain ⟨x1, m1, _, u1, u2, _, _, u3⟩ := qc6 hl c1
   have hl1 := zu hl
   obtain ⟨x2, m2, _, u4, u5, _, _, u6⟩ := qc6 hl1 c3
   have hl2 := zu hl1
   obtain ⟨x3, m3, _, u7, u8, _, _, u9⟩ := qc6 hl2 c4
   have hl3 := zu hl2
   rw [u1, u4, u7] at h
   rw [u7] at c2
   generalize qc (qc (qc l)) = l3 at h u9 hl3
   unfold qal at h
   split at h
   ·rename_i hd
    obtain ⟨d1, d2, d3, d4, d5, d6, d7⟩ := hd
    obtain ⟨y1, _, _, w1, w2, _, _, w3⟩ := qc6 hl3 d4
    have hl4 := zu hl3
    obtain ⟨y2, _, _, w4, w5, _, _, w6⟩ := qc6 hl4 d5
    have hl5 := zu hl4
    rw [w1, w4] at h d1 d2 d3 d6 d7
    generalize qc (qc l3) = l5 at h w6 hl5 d1 d2 d3 d6 d7
    generalize hq : readR ⟨(y1 : Int), (y2 : Int)⟩ x1 (x3 : Int) l5 = q at h d1 d2 d3 d6 d7
    obtain ⟨es, u, er⟩ := q
    simp only at h d1 d2 d3 d6 d7
    subst d1
    injection h with h
    subst h
    obtain ⟨r1, r2, r3, r4, r5⟩ := qft (by omega) hl5 hq
    have hes : es.length = x3 := by omega
    refine ⟨hk1.symm, ⟨by show 1 < 256; decide, by show x1 < 256; omega, qdo (by show x2 ≤ _; omega), by unfold I64; simp, fun e he => (r5 e he).1⟩, d7, ?_, by show es.length ≤ 4096; omega⟩
    have hu : l5.take u = l5 := List.take_of_length_le (by rw [List.length_drop] at d6; omega)
    rw [hu] at r3
    have hrecs : recs ⟨(y1 : Int), (y2 : Int)⟩ es = l5 := by
     unfold zi at r3
     rw [if_pos r2] at r3
     exact r3
    unfold Bk.body
    rw [if_neg (by show ¬ 1 = 2; omega)]
    show vbytes x1 ++ vbytes ((x2 : Int)).toNat ++ vbytes es.length ++ (if es.length = 0 then [] else vbytes (Bk.base ⟨1, x1, x2, 0, es⟩).seq.toNat ++ vbytes (Bk.base ⟨1, x1, x2, 0, es⟩).time.toNat ++ recs (Bk.base ⟨1, x1, x2, 0, es⟩) es) = l
    have hbase : Bk.base ⟨1, x1, x2, 0, es⟩ = ⟨(y1 : Int), (y2 : Int)⟩ := by
     unfold Bk.base Ev.at
     show (⟨(es.headD Ev.zero).seq, (es.headD Ev.zero).time⟩ : Bs) = _
     rw [d2, d3]
    rw [hbase, hrecs, if_neg (by omega), hes, Int.toNat_natCast, ← u3, ← u6, ← u9, ← w3, ← w6]
    simp
   ·cases h
  ·split at h
   ·rename_i hc0 hc
    obtain ⟨c1, c2, c3⟩ := hc
    have c0 : ¬ 0 < tkVal 4096 (qc (qc l)) := fun hh => hc0 ⟨c1, hh⟩
    unfold qcu at c1
    simp only [Bool.and_eq_true] at c1
    obtain ⟨⟨c1, c5⟩, c4⟩ := c1
    obtain ⟨x1, m1, _, u1, u2, _, _, u3⟩ := qc6 hl c1
    have hl1 := zu hl
    obtain ⟨x2, m2, _, u4, u5, _, _, u6⟩ := qc6 hl1 c5
    have hl2 := zu hl1
    obtain ⟨x3, m3, _, u7, u8, _, _, u9⟩ := qc6 hl2 c4
    rw [u1, u4] at h c3
    rw [u7] at c0
    obtain rfl : x3 = 0 := by omega
    injection h with h
    subst h
    refine ⟨hk1.symm, ⟨by show 1 < 256; decide, by show x1 < 256; omega, qdo (by show x2 ≤ _; omega), by unfold I64; simp, by simp⟩, c3, ?_, by simp⟩
    rw [List.length_eq_zero_iff] at c2
    rw [c2, List.append_nil] at u9
    unfold Bk.body
    rw [if_neg (by show ¬ 1 = 2; omega)]
    show vbytes x1 ++ vbytes ((x2 : Int)).toNat ++ vbytes 0 ++ [] = l
    rw [Int.toNat_natCast, ← u3, ← u6, ← u9]
    simp
   ·cases h
theorem qne : ∀ {l : List Nat}, (∀ x ∈ l, x < 256) → 4 ≤ l.length → le4 (num4 l) = l.take 4
 | a :: b :: c :: d :: r, hl, _ => by
  have ha := hl a (by simp)
  have hb := hl b (by simp)
  have hc := hl c (by simp)
  have hd := hl d (by simp)
  simp [le4, num4]
  omega
 | [], _, h => by simp at h
 | [_], _, h => by simp at h
 | [_, _], _, h => by simp at h
 | [_, _, _], _, h => by simp at h
theorem take8 : ∀ {l : List Nat} {n : Nat}, 8 ≤ n → n ≤ l.length → l.take n = l.take 4 ++ [l.getD 4 0, l.getD 5 0, l.getD 6 0, l.getD 7 0] ++ (l.take n).drop 8
 | a :: b :: c :: d :: e :: f :: g :: h :: r, n, h1, h2 => by
  obtain ⟨m, rfl⟩ : ∃ m, n = m + 8 := ⟨n - 8, by omega⟩
  simp
 | [], _, _, h => by simp at h; omega
 | [_], _, _, h => by simp at h; omega
 | [_, _], _, _, h => by simp at h; omega
 | [_, _, _], _, _, h => by simp at h; omega
 | [_, _, _, _], _, _, h => by simp at h; omega
 | [_, _, _, _, _], _, _, h => by simp at h; omega
 | [_, _, _, _, _, _], _, _, h => by simp at h; omega
 | [_, _, _, _, _, _, _], _, _, h => by simp at h; omega
theorem qtc {l : List Nat} (hl : ∀ x ∈ l, x < 256) (hn : num4 l = l.length) (h13 : 13 ≤ l.length) {b : Bk} (h4 : l.getD 4 0 = 113) (h5 : l.getD 5 0 = 116) (h6 : l.getD 6 0 = 1) (h7 : l.getD 7 0 = b.kind) (hb : b.body = (l.take (l.length - 4)).drop 8) : b.raw = l.take (l.length - 4) := by
 rw [take8 (by omega) (by omega), ← hb, h4, h5, h6, h7, ← qne hl (by omega), hn]
 unfold Bk.raw
 have : b.body.length = l.length - 12 := by rw [hb, List.length_drop, List.length_take]; omega
 rw [show 12 + b.body.length = l.length by omega]
theorem qqz {l : List Nat} (h : (lenR l).2 = 0) : num4 l = (lenR l).1 ∧ 13 ≤ (lenR l).1 ∧ (lenR l).1 ≤ 4096 ∧ (lenR l).1 ≤ l.length := by
 unfold lenR at h ⊢
 split at h
 ·cases h
 ·split at h
  ·cases h
  ·split at h
   ·cases h
   ·rename_i h1 h2 h3
    rw [if_neg h1, if_neg h2, if_neg h3]
    omega
theorem qq0 {l : List Nat} {n : Nat} (h : 4 ≤ n) : num4 (l.take n) = num4 l := by
 have : ∀ i, i < 4 → (l.take n).getD i 0 = l.getD i 0 := fun i hi => by
  rw [List.getD_eq_getElem?_getD, List.getD_eq_getElem?_getD, List.getElem?_take, if_pos (by omega)]
 unfold num4
 rw [this 0 (by omega), this 1 (by omega), this 2 (by omega), this 3 (by omega)]
section
variable {P : Program} {ops : Array Oper} {Q : Exit → Act → World → Prop} {l : Nat} {md : Region.Mode}
def qgr (ops : Array Oper) : Bool := ops.all fun o => match o.op with | .defer _ => false | _ => true
theorem qh4 {i : Nat} {o : Oper} (h : qgr ops = true) (hi : ops[i]? = some o) : ∀ c, o.op ≠ .defer c := by
 intro c hc
 have hm : o ∈ ops := Array.mem_of_getElem? hi
 have := (Array.all_eq_true_iff_forall_mem.1 h) o hm
 rw [hc] at this
 cases this
theorem qj4 {o : Oper} {a : Act} {w : World} {K K' : Act → World → Prop} (hd : ∀ c, o.op ≠ .defer c) (hQ : ¬ LetsOut Q) (hK : ∀ a w, K a w → K' a w) (h : o.wp P a w K Q ∨ (o.asks P a w ∧ LetsOut Q)) : o.wpIn (Fence.wide.inRound l) 0 P a w K' Q := by
 rcases h with h | h
 ·refine ⟨fun _ _ => trivial, ?_⟩
  rw [show (Fence.wide.inRound l).round = some l from rfl, Oper.semAt_some l _ _ hd]
  unfold Oper.wp at h
  generalize (execOp a.eval o).run P w = r at h
  cases r with
  | ok x w' =>
   cases x with
   | value v => exact hK _ _ h
   | skip => exact hK _ _ h
   | defer d => exact hK _ _ h
   | enter f args =>
    refine ⟨fun h => by simp [Fence.wide, Fence.inRound] at h, ?_⟩
    show CallsIn Fence.wide 0 P f args w' _
    refine (callsIn_wide.2 h).mono ?_
    intro e w'' he
    cases e with
    | returned v => exact hK _ _ he
    | panicked c => exact he
    | outgrown => exact he
   | row r args =>
    refine ⟨fun h => by simp [Fence.wide, Fence.inRound] at h, fun c cs _ => ?_⟩
    obtain ⟨v, w'', h1, h2⟩ := (h : Rows P r args w' _) c cs
    exact ⟨v, w'', hK _ _ h1, stepsIn_wide.2 h2⟩
   | _ => exact (h : False).elim
  | halt hh w' =>
   cases hh with
   | panic v => exact h
   | _ => exact (h : False).elim
 ·exact absurd h.2 hQ
theorem qet (hd : qgr ops = true) (hQ : ¬ LetsOut Q) : ∀ (fuel : Nat) (listed : Array Bool) (a : Act) (w : World), wpAny P md ops Q fuel listed a w → wpAnyIn (Fence.wide.inRound l) 0 P md ops Q fuel listed a w
 | 0, _, _, _, h => h
 | fuel + 1, listed, a, w, h => by
  refine ⟨h.1, fun i hi => ?_⟩
  have h2 := h.2 i hi
  unfold wpOp at h2
  unfold wpOpIn
  split at h2
  ·rename_i hn
   rw [hn]
   exact qet hd hQ fuel _ _ _ h2
  ·rename_i o hn
   rw [hn]
   show if Region.wanted o (yielded ops a.tmps) = true then _ else _
   split at h2
   ·rename_i hw
    rw [if_pos hw]
    exact qj4 (qh4 hd hn) hQ (fun a w h => qet hd hQ fuel _ a w h) h2
   ·rename_i hw
    rw [if_neg hw]
    exact ⟨fun _ _ => trivial, qet hd hQ fuel _ _ _ h2⟩
theorem qdj {id : Nat} {S : World → Prop} {a : Act} {w : World} (hm : P.follows .mixedOrders = true) (hd : qgr ops = true) (hQ : ¬ LetsOut Q) (hS : S w.drew)
  (h : S w.drew → wpAnyH P .any ops Q S ops.size (Array.replicate ops.size false) a w.drew) : (Code.region id ops true).wpIn (Fence.wide.inRound l) 0 P Q a w :=
 wpIn_region_any hm (qet hd hQ _ _ _ _ (wpAny_of_held _ _ _ _ (h hS)))
end
theorem ei_ev : EI Tryd.prog 39 45 (.agg Ev.zero.cells) 11 80 := ⟨by kernel_rfl, by kernel_rfl, rfl, by omega⟩
def joinE (es : List Ev) (a : Nat) (q : List Ev × Nat × Nat) : List Ev × Nat × Nat := if q.2.2 ≠ 0 then ([], 0, q.2.2) else (es ++ q.1, a + q.2.1, 0)
theorem qj5 {cpu j : Nat} {bk : Bs} {p : Option Ev} {lk : List Nat} {e : Ev} {mm er : Nat} (hq : takeR bk cpu lk = (e, mm, er)) (h : er ≠ 0) (es : List Ev) (a : Nat) : joinE es a (qw cpu (j + 1) bk p lk) = ([], 0, er) := by
 have e1 : qw cpu (j + 1) bk p lk = ([], 0, er) := by rw [qw, hq, if_pos h]
 rw [e1]; unfold joinE; rw [if_pos h]
theorem qh5 {cpu j : Nat} {bk : Bs} {p : Option Ev} {lk : List Nat} {e : Ev} {mm : Nat} (hq : takeR bk cpu lk = (e, mm, 0)) (hp : p.any (fun q => decide (e.seq = q.seq)) = true) (es : List Ev) (a : Nat) : joinE es a (qw cpu (j + 1) bk p lk) = ([], 0, 71) := by
 have e1 : qw cpu (j + 1) bk p lk = ([], 0, 71) := by rw [qw, hq, if_neg (by simp), if_pos hp]
 rw [e1]; rfl
theorem qfm {cpu j : Nat} {bk : Bs} {p : Option Ev} {lk : List Nat} {e : Ev} {mm : Nat} (hq : takeR bk cpu lk = (e, mm, 0)) (hp : p.any (fun q => decide (e.seq = q.seq)) = false) (es : List Ev) (a : Nat) : joinE es a (qw cpu (j + 1) bk p lk) = joinE (es ++ [e]) (a + mm) (qw cpu j e.at (some e) (lk.drop mm)) := by
 rw [qw, hq, if_neg (by simp), if_neg (by simp [hp])]
 simp only
 by_cases h : (qw cpu j e.at (some e) (lk.drop mm)).2.2 = 0
 ·rw [if_neg (by omega)]; unfold joinE; rw [if_neg (by simp), if_neg (by omega)]; simp; omega
 ·rw [if_pos h]; unfold joinE; rw [if_pos h, if_pos h]
theorem qn2 (cpu : Nat) : ∀ (j : Nat) (b : Bs) (p : Option Ev) (l : List Nat), (qw cpu j b p l).2.2 ≠ 0 → qw cpu j b p l = ([], 0, (qw cpu j b p l).2.2)
 | 0, _, _, _, h => absurd rfl h
 | j + 1, b, p, l, h => by
  rw [qw] at h ⊢
  split
  ·rfl
  ·split
   ·rfl
   ·split
    ·rfl
    ·rename_i h1 h2 h3
     rw [if_neg h1, if_neg h2, if_neg h3] at h
     exact absurd rfl h
theorem qj6 (cpu j : Nat) (b : Bs) (p : Option Ev) (l : List Nat) : joinE [] 0 (qw cpu j b p l) = qw cpu j b p l := by
 unfold joinE
 by_cases h : (qw cpu j b p l).2.2 = 0
 ·rw [if_neg (by omega)]
  generalize qw cpu j b p l = q at *
  obtain ⟨x, y, z⟩ := q
  simp only at h
  simp [h]
 ·rw [if_pos h]; exact (qn2 cpu j b p l h).symm
structure ReadAt (w : World) (o m : Nat) (es : List Ev) (a : Nat) (W : World) (v : Value) : Prop where
 out : OutBox o 39 (o + 5) 45 11 (fun g => o + 5 ≤ g) es.length (es.flatMap evL) W v
 at' : W.heap[o + 1]? = some (.cells #[.int .i64 (a : Int)] 3 (0, 0))
 num : W.heap[w.heap.size + 1]? = some (.cells #[.int .i64 (m : Int)] 3 (0, 0))
 r8 : W.heap[w.heap.size + 1 + 1]? = some (.cells #[.slice none 0 0] 39 (0, 0))
 r9 : W.heap[w.heap.size + 1 + 1 + 1]? = some (.cells #[.int .i64 0] 3 (0, 0))
 r10 : W.heap[w.heap.size + 1 + 1 + 1 + 1]? = some (.cells #[.int .i64 0] 36 (0, 0))
 below : Below w.heap.size w W
 size : o + 5 ≤ W.heap.size
 wo : w.heap.size + 5 ≤ o
def ReadT (w : World) (o : Nat) (W : World) (b : Nat) : Prop := OutT o 39 W b ∨ b = o + 1 ∨ b = w.heap.size + 1 + 1 ∨ b = w.heap.size + 1 + 1 + 1 ∨ b = w.heap.size + 1 + 1 + 1 + 1
def ReadJ (w : World) (o m cpu : Nat) (b : Bs) (l : List Nat) (k : Nat) (W : World) : Prop :=
 ∃ (es : List Ev) (a f : Nat) (bk : Bs) (lk : List Nat) (v : Value), es.length = k ∧ ReadAt w o m es a W v ∧ (qb5 (l.length + 1) b cpu l).drop k = qb5 (f + 1) bk cpu lk ∧ lk.length < f + 1 ∧ k + lk.length ≤ l.length ∧ k < m ∧ a + lk.length ≤ l.length ∧
  qw cpu m b none l = joinE es a (qw cpu (m - k) bk es.getLast? lk)
structure ReadEnd (w : World) (o m cpu : Nat) (b : Bs) (l : List Nat) (er : Nat) (W : World) : Prop where
 r8 : W.heap[w.heap.size + 1 + 1]? = some (.cells #[.slice none 0 0] 39 (0, 0))
 r9 : W.heap[w.heap.size + 1 + 1 + 1]? = some (.cells #[.int .i64 0] 3 (0, 0))
 r10 : W.heap[w.heap.size + 1 + 1 + 1 + 1]? = some (.cells #[.int .i64 (er : Int)] 36 (0, 0))
 below : Below w.heap.size w W
 size : o + 5 ≤ W.heap.size
 said : qw cpu m b none l = ([], 0, er)
def qm2 (w : World) (o m cpu : Nat) (b : Bs) (l : List Nat) : Code → Nat → World → Prop
 | .exit 0, _, W => ∃ es a v, ReadAt w o m es a W v ∧ a ≤ l.length ∧ qw cpu m b none l = (es, a, 0)
 | .ret, _, W => ∃ er, ReadEnd w o m cpu b l er W
 | _, _, _ => False
theorem za {B : Nat} {a w : World} (h : Below B a w) {b o : Nat} (hb : B ≤ b) (v : Value) : Below B a (w.setCell ⟨b, o, none⟩ v) := h.setCell (p := ⟨b, o, none⟩) hb v
theorem qi {w : World} {b o k : Nat} (h : k ≠ b) (v : Value) : (w.setCell ⟨b, o, none⟩ v).heap[k]? = w.heap[k]? := Below.heap_setCell w ⟨b, o, none⟩ v k h
section
variable {w : World} {o m cpu : Nat} {es : List Ev} {a : Nat} {W W' : World} {v : Value} {B : Nat} {S : List Nat}
theorem ReadAt.keep (h : ReadAt w o m es a W v) (hk : Keep B S W W') (hB : w.heap.size ≤ B) (hS : ∀ g ∈ S, o + 2 ≤ g ∧ g < o + 5) : ReadAt w o m es a W' v := by
 have hwo := h.wo
 have n1 : ∀ x, x < o + 2 → x ∉ S := fun x hx hm => by have := hS x hm; omega
 refine ⟨h.out.keep hk (n1 _ (by omega)) (fun g hg hm => by have := hS g hm; omega), hk.obj _ _ h.at' rfl (n1 _ (by omega)), hk.obj _ _ h.num rfl (n1 _ (by omega)), hk.obj _ _ h.r8 rfl (n1 _ (by omega)), hk.obj _ _ h.r9 rfl (n1 _ (by omega)), hk.obj _ _ h.r10 rfl (n1 _ (by omega)), h.below.trans (hk.below hB (fun k hk' => by have := hS k hk'; omega)), by have := hk.size; have := h.size; omega, hwo⟩
theorem ReadAt.tkeep (h : ReadAt w o m es a W v) (hk : Keep B S W W') (hS : ∀ g ∈ S, o + 2 ≤ g ∧ g < o + 5) : ∀ b, ReadT w o W' b → ReadT w o W b := fun b hb => by
 rcases hb with hb | hb
 ·exact .inl (h.out.tkeep hk (fun hm => by have := hS _ hm; omega) b hb)
 ·exact .inr hb
theorem ReadAt.tdatum (h : ReadAt w o m es a W v) : ∀ b, ReadT w o W b → ∃ x, W.heap[b]? = some x ∧ datum x = true := fun b hb => by
 rcases hb with hb | rfl | rfl | rfl | rfl
 ·exact h.out.tdatum b hb
 ·exact ⟨_, h.at', rfl⟩
 ·exact ⟨_, h.r8, rfl⟩
 ·exact ⟨_, h.r9, rfl⟩
 ·exact ⟨_, h.r10, rfl⟩
theorem ReadEnd.keep {b : Bs} {l : List Nat} {er : Nat} (h : ReadEnd w o m cpu b l er W) (hk : Keep B S W W') (hB : w.heap.size ≤ B) (hS : ∀ g ∈ S, w.heap.size + 5 ≤ g) : ReadEnd w o m cpu b l er W' := by
 have n1 : ∀ x, x < w.heap.size + 5 → x ∉ S := fun x hx hm => by have := hS x hm; omega
 exact ⟨hk.obj _ _ h.r8 rfl (n1 _ (by omega)), hk.obj _ _ h.r9 rfl (n1 _ (by omega)), hk.obj _ _ h.r10 rfl (n1 _ (by omega)), h.below.trans (hk.below hB (fun k hk' => by have := hS k hk'; omega)), by have := hk.size; have := h.size; omega, h.said⟩
theorem ReadAt.drew (h : ReadAt w o m es a W v) : ReadAt w o m es a W.drew v :=
 ⟨⟨h.out.box, h.out.row, h.out.good⟩, h.at', h.num, h.r8, h.r9, h.r10, h.below.drew, h.size, h.wo⟩
theorem ReadAt.chg (h : ReadAt w o m es a W v) (hk : Chg [] W W') : ReadAt w o m es a W' v := by
 have hz := h.below.size
 exact h.keep (B := w.heap.size) (S := []) (hk.keep hz) (Nat.le_refl _) (by simp)
def retW (w : World) (er : Nat) (W : World) : World :=
 ((W.setCell ⟨w.heap.size + 1 + 1, 0, none⟩ (.slice none 0 0)).setCell ⟨w.heap.size + 1 + 1 + 1, 0, none⟩ (.int .i64 0)).setCell ⟨w.heap.size + 1 + 1 + 1 + 1, 0, none⟩ (.int .i64 (er : Int))
theorem ReadAt.ret {b : Bs} {l : List Nat} {er : Nat} (h : ReadAt w o m es a W v) (hs : qw cpu m b none l = ([], 0, er)) :
  ChgT (ReadT w o) W (retW w er W) ∧ ReadEnd w o m cpu b l er (retW w er W) ∧ (∀ W4, Keep B S (retW w er W) W4 → (∀ g ∈ S, o + 2 ≤ g ∧ g < o + 5) → ∀ b, ReadT w o W4 b → ReadT w o (retW w er W) b) := by
 have hwo := h.wo
 have hsz := h.size
 have hc : Chg [w.heap.size + 1 + 1, w.heap.size + 1 + 1 + 1, w.heap.size + 1 + 1 + 1 + 1] W (retW w er W) := by
  unfold retW
  exact (((Chg.refl _ W).setCell (.inl (by simp)) _).setCell (.inl (by simp)) _).setCell (.inl (by simp)) _
 have hout : OutBox o 39 (o + 5) 45 11 (fun g => o + 5 ≤ g) es.length (es.flatMap evL) (retW w er W) v := h.out.chg hc (by simp; omega) (fun g hg => by have := h.out.good g hg; simp; omega)
 refine ⟨⟨hc.os, hc.tape, hc.output, hc.size, fun k hk hT => hc.block k hk (fun hm => hT ?_), fun k hT => ?_⟩, ⟨?_, ?_, ?_, ?_, ?_, hs⟩, fun W4 hk hS b hb => ?_⟩
 ·simp at hm
  rcases hm with rfl | rfl | rfl
  ·exact .inr (.inr (.inl rfl))
  ·exact .inr (.inr (.inr (.inl rfl)))
  ·exact .inr (.inr (.inr (.inr rfl)))
 ·rcases hT with hT | hT
  ·rcases (hout.tlist k).1 hT with rfl | hv
   ·exact .inl (.inl (.inl rfl))
   ·exact .inl (.inl ((h.out.tlist k).2 (.inr hv)))
  ·exact .inl (.inr hT)
 ·unfold retW
  rw [qi (by omega), qi (by omega)]
  exact qm h.r8 _
 ·unfold retW
  rw [qi (by omega)]
  exact qm (by rw [qi (by omega)]; exact h.r9) _
 ·unfold retW
  exact qm (by rw [qi (by omega), qi (by omega)]; exact h.r10) _
 ·unfold retW
  exact za (za (za h.below (by omega) _) (by omega) _) (by omega) _
 ·have := hc.size; omega
 ·rcases hb with hb | hb
  ·exact .inl (hout.tkeep hk (fun hm => by have := hS _ hm; omega) b hb)
  ·exact .inr hb
def pushW (o : Nat) (V : Value) (a : Nat) (w1 : World) : World := (w1.setCell ⟨o, 0, none⟩ V).setCell ⟨o + 1, 0, none⟩ (.int .i64 (a : Int))
theorem ReadAt.push {e : Ev} {mm : Nat} {A' : Option Addr} {c' : Nat} {w0 w1 : World} (h : ReadAt w o m es a W v) (h0 : Chg [] W w0) (hg : w0.grownBy w1 v.ownBlock)
  (hown : w1.ownsRow (o + 5) 45 11 (.slice A' (es.length + 1) c') (es.length + 1) (es.flatMap evL ++ evL e)) (hb : (Value.slice A' (es.length + 1) c').ownBlock = v.ownBlock ∨ (Value.slice A' (es.length + 1) c').ownBlock = some w0.heap.size) :
  ReadAt w o m (es ++ [e]) (a + mm) (pushW o (.slice A' (es.length + 1) c') (a + mm) w1) (.slice A' (es.length + 1) c') ∧ ChgT (ReadT w o) W (pushW o (.slice A' (es.length + 1) c') (a + mm) w1) := by
 have hwo := h.wo
 have hsz := h.size
 have hsz0 := h0.size
 have hsz1 := hg.size
 have hvg := h.out.good
 have hne : v.ownBlock ≠ some o := fun e => by have := hvg _ e; omega
 have hst := h.out.store h0 hg hne hown hb (fun g hg => by omega)
 have hown2 := hown.lt
 have far : ∀ x y, x < o + 5 → x ≠ o → x ≠ o + 1 → W.heap[x]? = some y → (pushW o (.slice A' (es.length + 1) c') (a + mm) w1).heap[x]? = some y := fun x y h1 h2 h3 hy => by
  unfold pushW
  rw [qi h3, qi h2, hg.block x (by have := zx hy; omega) (fun e => by have := hvg x e.symm; omega)]
  exact h0.same hy (by simp)
 have hpw : (w1.setCell ⟨o, 0, none⟩ (.slice A' (es.length + 1) c')).heap.size = w1.heap.size := by simp [World.setCell]
 have hch : Chg [o + 1] (w1.setCell ⟨o, 0, none⟩ (.slice A' (es.length + 1) c')) (pushW o (.slice A' (es.length + 1) c') (a + mm) w1) := by
  unfold pushW; exact (Chg.refl _ _).setCell (.inl (by simp)) _
 have hout := hst.1.chg hch (by simp) (fun g hg' => by have := (hown2 g hg').1; simp; omega)
 have hv2 : ∀ g, (Value.slice A' (es.length + 1) c').ownBlock = some g → o + 5 ≤ g := fun g hg' => (hown2 g hg').1
 refine ⟨⟨⟨hout.box, ?_, hout.good⟩, ?_, far _ _ (by omega) (by omega) (by omega) h.num, far _ _ (by omega) (by omega) (by omega) h.r8, far _ _ (by omega) (by omega) (by omega) h.r9, far _ _ (by omega) (by omega) (by omega) h.r10, ?_, ?_, hwo⟩, ?_⟩
 ·have := hout.row
  rw [List.length_append, List.flatMap_append]
  simpa using this
 ·unfold pushW
  refine qm (x := .int .i64 (a : Int)) ?_ _
  rw [qi (by omega), hg.block (o + 1) (by omega) (fun e => by have := hvg _ e.symm; omega)]
  exact h0.same h.at' (by simp)
 ·have hb1 : Below w.heap.size w w0 := h.below.trans ((Chg.below h0).mono h.below.size)
  have hb2 := hb1.grown hg (by have := h.below.size; omega) (fun g hg' => by have := hvg g hg'; omega)
  unfold pushW
  exact za (za hb2 (by omega) _) (by omega) _
 ·unfold pushW; simp [World.setCell]; omega
 ·have hc := hst.2
  refine ⟨hch.os.trans hc.os, hch.tape.trans hc.tape, hch.output.trans hc.output, Nat.le_trans hc.size hch.size, fun k hk hT => ?_, fun k hT => ?_⟩
  ·rw [hch.block k (by have := hc.size; omega) (fun hm => hT (.inr (.inl (by simpa using hm))))]
   exact hc.block k hk (fun h' => hT (.inl h'))
  ·rcases hT with hT | hT
   ·rcases (hout.tlist k).1 hT with rfl | hv
    ·exact .inl (.inl (.inl rfl))
    ·rcases hc.own k ((hst.1.tlist k).2 (.inr hv)) with h1 | h1
     ·exact .inl (.inl h1)
     ·exact .inr h1
   ·exact .inl (.inr hT)
end
theorem qaj {W w1 : World} {X : Obj} {row : Option Nat} (hg : (W.alloc X).drew.grownBy w1 row) {y : Nat} {obj : Obj} (hy : W.heap[y]? = some obj) (hne : row ≠ some y) : w1.heap[y]? = some obj :=
 (hg.block y (by have := zx hy; show y < (W.alloc X).heap.size; simp; omega) (fun e => hne e.symm)).trans ((Below.heap_alloc W X y (zx hy)).trans hy)
theorem qt0 {W : World} {base size n : Nat} {e t : TypeId} {v : Value} {xs : List Value} {x : Nat} {C : Array Value} {fr : Nat × Nat} (h : W.ownsRow base e size v n xs) (hx : W.heap[x]? = some (.cells C t fr)) (ht : t ≠ e) : v.ownBlock ≠ some x := by
 intro he
 rcases h.2 with ⟨rfl, _⟩ | ⟨g, cap, cur, rfl, _, hg, _⟩
 ·cases he
 ·injection he with he
  have he' : g = x := he
  subst he'
  rw [hg] at hx
  injection hx with hx
  injection hx with _ h2 _
  exact ht h2.symm
theorem Rd.block (w : World) (cs : List Value) (t : TypeId) (sz : Nat) (hs : cs.length = sz) : Rd (w.alloc (.cells cs.toArray t)).drew (w.heap.size + 1) sz (some ⟨w.heap.size, 0, none⟩) 1 cs :=
 ⟨by omega, fun _ => ⟨_, rfl, by show w.heap.size < w.heap.size + 1; omega, fun j u hu => by
  rw [Addr.add_mid, Nat.zero_add, World.cell?_drew, World.cell?_alloc_new]
  simpa using hu⟩⟩
end Go.Proofs.YtfeheccoijnbaaaDoor
namespace Go.Proofs.YtfeheccoijnbaaaDoor
open Go.RowKit Go.Shelf
attribute [local go_sem] Oper.semAt_some
theorem qlu (b : Bs) (cpu : Nat) (A : Option Addr) (n c : Nat) (w : World) :
  Calls Tryd.prog 96 #[.agg b.cells, .int .u8 (cpu : Int), .slice A n c] w fun r w' => r = .returned (.func (.func 106) #[] #[.pointer (some ⟨w.heap.size, 0, none⟩), .pointer (some ⟨w.heap.size + 1, 0, none⟩), .pointer (some ⟨w.heap.size + 1 + 1, 0, none⟩)]) ∧
   w' = ((w.alloc (.cells b.cells 26)).alloc (.cells #[.int .u8 (cpu : Int)] 5)).alloc (.cells #[.slice A n c] 54) := by
 generalize b.cells = ds
 go_enter Tryd.func96, Tryd.ntmps96
 go_wp2
 go_ret
 exact ⟨rfl, rfl⟩
theorem qcp {P : Program} {fn : Func} {t u v : Tmp} {t1 t2 t3 : TypeId} {tmps : Array Value} {w : World} {b1 b2 b3 : Nat} {x1 x2 x3 : Value} (h : fn.results = #[.cell t t1, .cell u t2, .cell v t3])
  (h1 : tmps.getD t undef = .pointer (some ⟨b1, 0, none⟩)) (h2 : tmps.getD u undef = .pointer (some ⟨b2, 0, none⟩)) (h3 : tmps.getD v undef = .pointer (some ⟨b3, 0, none⟩))
  (a1 : (isAgg t1).run P w = .ok false w) (a2 : (isAgg t2).run P w = .ok false w) (a3 : (isAgg t3).run P w = .ok false w)
  (c1 : w.cell? ⟨b1, 0, none⟩ = some x1) (c2 : w.cell? ⟨b2, 0, none⟩ = some x2) (c3 : w.cell? ⟨b3, 0, none⟩ = some x3) : (results fn tmps).run P w = .ok (.tuple #[x1, x2, x3]) w := by
 simp at h1 h2 h3
 simp [results, h, h1, h2, h3, a1, a2, a3, go_sem, c1, c2, c3]
structure ReadPost (w : World) (q : List Ev × Nat × Nat) (r : Ending) (w' : World) : Prop where
 ret : ∃ v, r = .returned (.tuple #[v, .int .i64 (q.2.1 : Int), .int .i64 (q.2.2 : Int)]) ∧ w'.ownsRow w.heap.size 45 11 v q.1.length (q.1.flatMap evL)
 below : Below w.heap.size w w'
def tk (q : Ev × Nat × Nat) : Array Value := #[.int .i64 q.1.seq, .int .i64 q.1.time, .int .u8 (q.1.cpu : Int), .int .u8 (q.1.kind : Int), .int .i64 q.1.task, .int .i64 q.1.group, .int .i64 q.1.to, .int .i64 q.1.weight, .int .i64 q.1.ticks, .int .u64 (q.1.mask : Int), .int .i64 q.1.got, .int .i64 (q.2.1 : Int)]
def ReadA (ds : Array Value) (cpu m : Nat) (A : Option Addr) (n c s o : Nat) (b : Bs) (l : List Nat) (k : Nat) (a' : Act) (W : World) : Prop :=
 ∃ x q, (qb5 (l.length + 1) b cpu l)[k]? = some q ∧ W.heap[x]? = some (.cells (tk q) 180 (0, 0)) ∧ o + 5 ≤ x ∧ a' = { tmps := #[.agg ds, .int .u8 (cpu : Int), .int .i64 (m : Int), .slice A n c, .pointer (some ⟨s, 0, none⟩), undef, .pointer (some ⟨s + 1, 0, none⟩), undef, .pointer (some ⟨s + 1 + 1, 0, none⟩), .pointer (some ⟨s + 1 + 1 + 1, 0, none⟩), .pointer (some ⟨s + 1 + 1 + 1 + 1, 0, none⟩), .pointer (some ⟨o, 0, none⟩), .pointer (some ⟨o + 1, 0, none⟩), .pointer (some ⟨x, 0, none⟩), .int .i64 (q.2.2 : Int), .int .i64 (m : Int), .bool false, .agg ds, .bool true, .bool false, .int .i64 (m : Int), .bool false, .agg ds, .int .u8 (cpu : Int), .slice A n c, .func (.func 106) #[] #[.pointer (some ⟨o + 1 + 1, 0, none⟩), .pointer (some ⟨o + 1 + 1 + 1, 0, none⟩), .pointer (some ⟨o + 1 + 1 + 1 + 1, 0, none⟩)], .agg (tk q), .int .i64 (q.2.2 : Int), undef, undef, undef, undef, undef, undef, undef, undef, undef, undef, undef, undef, undef, undef, undef, undef, undef, undef, undef, undef, undef, undef, undef, undef, undef, undef, undef, undef, undef, undef, undef, undef, undef, undef], defers := [] }
set_option maxRecDepth 100000 in
set_option maxHeartbeats 2000000 in
theorem qp0 (b : Bs) (cpu : Nat) (hcpu : cpu < 256) (A : Option Addr) (n c m : Nat) (l : List Nat) (B : Nat) (w : World) (hL : Laid B w) (hB : B ≤ w.heap.size) (hr : Rd w w.heap.size 1 A n (l.map B8)) (hc : n ≤ c) (hl : ∀ b ∈ l, b < 256) (hn : n ≤ 200000000000000)
  (hrt : b.right = true) (hm : 0 < m) (hm2 : m ≤ 9223372036854775807) (hlim : m ≤ 1000000000000 ∨ l.length ≤ 1000000000000) :
  Calls Tryd.prog 84 #[.agg b.cells, .int .u8 (cpu : Int), .int .i64 (m : Int), .slice A n c] w (ReadPost w (qw cpu m b none l)) := by
 have hll : l.length ≤ 200000000000000 := by have := hr.len; simp at this; omega
 have HR := hide (fun W => qav b W)
 rw [hrt] at HR
 have HB2 := hide (qai b)
 have HRE := hide (fun W => qlu b cpu A n c W)
 have hmn : decide ((m : Int) < 0) = false := by rw [decide_eq_false_iff_not]; omega
 have hm0 : ((m : Int) == 0) = false := by rw [beq_eq_false_iff_ne]; omega
 obtain ⟨W0, hW0⟩ : ∃ W0, W0 = ((((w.alloc (.cells b.cells 26)).alloc (.cells #[.int .i64 (m : Int)] 3)).alloc (.cells #[.slice none 0 0] 39)).alloc (.cells #[.int .i64 0] 3)).alloc (.cells #[.int .i64 0] 36) := ⟨_, rfl⟩
 have hs0 : W0.heap.size = w.heap.size + 5 := by rw [hW0]; simp
 have hb0 : Below w.heap.size w W0 := by rw [hW0]; exact (((((Below.refl _ _).alloc (Nat.le_refl _) _).alloc (by simp) _).alloc (by simp; omega) _).alloc (by simp; omega) _).alloc (by simp; omega) _
 have hx0 : W0.heap[w.heap.size]? = some (.cells b.cells 26) := by
  rw [hW0, Below.heap_alloc _ _ _ (by simp <;> omega), Below.heap_alloc _ _ _ (by simp <;> omega), Below.heap_alloc _ _ _ (by simp <;> omega), Below.heap_alloc _ _ _ (by simp)]; exact World.alloc_heap_new w _
 have hx1 : W0.heap[w.heap.size + 1]? = some (.cells #[.int .i64 (m : Int)] 3) := by
  rw [hW0, Below.heap_alloc _ _ _ (by simp <;> omega), Below.heap_alloc _ _ _ (by simp <;> omega), Below.heap_alloc _ _ _ (by simp)]
  have := World.alloc_heap_new (w.alloc (.cells b.cells 26)) (.cells #[.int .i64 (m : Int)] 3); rwa [World.size_alloc] at this
 have hx2 : W0.heap[w.heap.size + 1 + 1]? = some (.cells #[.slice none 0 0] 39) := by
  rw [hW0, Below.heap_alloc _ _ _ (by simp <;> omega), Below.heap_alloc _ _ _ (by simp)]
  have := World.alloc_heap_new ((w.alloc (.cells b.cells 26)).alloc (.cells #[.int .i64 (m : Int)] 3)) (.cells #[.slice none 0 0] 39); simpa only [World.size_alloc] using this
 have hx3 : W0.heap[w.heap.size + 1 + 1 + 1]? = some (.cells #[.int .i64 0] 3) := by
  rw [hW0, Below.heap_alloc _ _ _ (by simp)]
  have := World.alloc_heap_new (((w.alloc (.cells b.cells 26)).alloc (.cells #[.int .i64 (m : Int)] 3)).alloc (.cells #[.slice none 0 0] 39)) (.cells #[.int .i64 0] 3); simpa only [World.size_alloc] using this
 have hx4 : W0.heap[w.heap.size + 1 + 1 + 1 + 1]? = some (.cells #[.int .i64 0] 36) := by
  rw [hW0]
  have := World.alloc_heap_new ((((w.alloc (.cells b.cells 26)).alloc (.cells #[.int .i64 (m : Int)] 3)).alloc (.cells #[.slice none 0 0] 39)).alloc (.cells #[.int .i64 0] 3)) (.cells #[.int .i64 0] 36); simpa only [World.size_alloc] using this
 have HX0 := hide hx0
 have HX1 := hide hx1
 have HX2 := hide hx2
 have HX3 := hide hx3
 have HX4 := hide hx4
 have HD0 := hide (qf hx0)
 have HLX := hide hL
 have HRX := hide hr
 have k1 : W0.cell? ⟨w.heap.size + 1, 0, none⟩ = some (.int .i64 (m : Int)) := by simp [World.cell?, hx1]
 have hsz0 : w.heap.size + 5 ≤ W0.heap.size := by omega
 clear hx0 hx1 hx2 hx3 hx4 hs0 hL hr hrt
 have HDS0 : ∃ ds, Hid (b.cells = ds) := ⟨_, hide rfl⟩
 obtain ⟨ds, HDS⟩ := HDS0
 rw [HDS.out] at HR HB2 HRE hW0 HX0 HD0 ⊢
 refine callsIn_wide.1 (callsIn_of_wp_marks (n := 0) Tryd.func84 rfl trivial ?_ rfl)
 simp only [Tryd.ntmps84, List.size_toArray, List.length_cons, List.length_nil, Nat.reduceAdd, Nat.reduceSub, Array.replicate_succ, Array.replicate_zero, List.push_toArray, List.append_toArray, List.nil_append, List.cons_append]
 gi_wp2_with (first
  | (rw [← hW0]; clear hW0)
  | (with_reducible refine qi3 HD0.out rfl rfl rfl si_bs HB2.out ?_)
  | (refine ⟨trivial, rfl, ?_⟩; refine (callsIn_wide.2 (HR.out _)).mono ?_; rintro r w2 ⟨rfl, hb2⟩; have hz2 := hb2.size; have k2 := (hb2.cell (p := ⟨w.heap.size + 1, 0, none⟩) (by show w.heap.size + 1 < _; omega)).trans k1; have HD2 := hide (fun o1 o2 => qp (((qp HD0.out hb2 (by omega)))) ((((Below.refl w2.heap.size w2).alloc (Nat.le_refl _) o1).alloc (by simp) o2)) (by omega)))
  | (with_reducible refine qi3 (HD2.out _ _) rfl rfl rfl si_bs HB2.out ?_)
  | (refine ⟨trivial, rfl, ?_⟩; refine (callsIn_wide.2 (HRE.out _)).mono ?_; rintro r w3 ⟨rfl, rfl⟩))
 obtain ⟨W3, hW3⟩ : ∃ W3, W3 = ((((w2.alloc (.cells #[.slice none 0 0] 39)).alloc (.cells #[.int .i64 0] 3)).alloc (.cells ds 26)).alloc (.cells #[.int .u8 (cpu : Int)] 5)).alloc (.cells #[.slice A n c] 54) := ⟨_, rfl⟩
 rw [← hW3]
 have hs3 : W3.heap.size = w2.heap.size + 5 := by rw [hW3]; simp
 have hb3 : Below w2.heap.size w2 W3 := by rw [hW3]; exact (((((Below.refl _ _).alloc (Nat.le_refl _) _).alloc (by simp) _).alloc (by simp; omega) _).alloc (by simp; omega) _).alloc (by simp; omega) _
 have hB3 : Below w.heap.size w W3 := (hb0.trans (hb2.mono (by omega))).trans (hb3.mono (by omega))
 have old : ∀ (x : Nat) (y : Obj), x < W0.heap.size → W0.heap[x]? = some y → W3.heap[x]? = some y := fun x y hx hy => (hb3.block x (by omega)).trans ((hb2.block x hx).trans hy)
 have y0 : W3.heap[w2.heap.size]? = some (.cells #[.slice none 0 0] 39) := by
  rw [hW3, Below.heap_alloc _ _ _ (by simp <;> omega), Below.heap_alloc _ _ _ (by simp <;> omega), Below.heap_alloc _ _ _ (by simp <;> omega), Below.heap_alloc _ _ _ (by simp)]; exact World.alloc_heap_new w2 _
 have y1 : W3.heap[w2.heap.size + 1]? = some (.cells #[.int .i64 0] 3) := by
  rw [hW3, Below.heap_alloc _ _ _ (by simp <;> omega), Below.heap_alloc _ _ _ (by simp <;> omega), Below.heap_alloc _ _ _ (by simp)]
  have := World.alloc_heap_new (w2.alloc (.cells #[.slice none 0 0] 39)) (.cells #[.int .i64 0] 3); rwa [World.size_alloc] at this
 have y2 : W3.heap[w2.heap.size + 1 + 1]? = some (.cells ds 26) := by
  rw [hW3, Below.heap_alloc _ _ _ (by simp <;> omega), Below.heap_alloc _ _ _ (by simp)]
  have := World.alloc_heap_new ((w2.alloc (.cells #[.slice none 0 0] 39)).alloc (.cells #[.int .i64 0] 3)) (.cells ds 26); simpa only [World.size_alloc] using this
 have y3 : W3.heap[w2.heap.size + 1 + 1 + 1]? = some (.cells #[.int .u8 (cpu : Int)] 5) := by
  rw [hW3, Below.heap_alloc _ _ _ (by simp)]
  have := World.alloc_heap_new (((w2.alloc (.cells #[.slice none 0 0] 39)).alloc (.cells #[.int .i64 0] 3)).alloc (.cells ds 26)) (.cells #[.int .u8 (cpu : Int)] 5); simpa only [World.size_alloc] using this
 have y4 : W3.heap[w2.heap.size + 1 + 1 + 1 + 1]? = some (.cells #[.slice A n c] 54) := by
  rw [hW3]
  have := World.alloc_heap_new ((((w2.alloc (.cells #[.slice none 0 0] 39)).alloc (.cells #[.int .i64 0] 3)).alloc (.cells ds 26)).alloc (.cells #[.int .u8 (cpu : Int)] 5)) (.cells #[.slice A n c] 54); simpa only [World.size_alloc] using this
 have hrc : RecAt B w.heap.size (w2.heap.size + 1 + 1) (w2.heap.size + 1 + 1 + 1) (w2.heap.size + 1 + 1 + 1 + 1) cpu b l A n c W3 := ⟨by rw [HDS.out]; exact y2, y3, y4, HRX.out.below hB3, hc, hl, hn, HLX.out.below hB3 hB⟩
 have hra : ReadAt w w2.heap.size m [] 0 W3 (.slice none 0 0) := ⟨⟨y0, World.ownsRow_nil _ _ _ _, fun g hg => by cases hg⟩, y1, old _ _ (by omega) HX1.out, old _ _ (by omega) HX2.out, old _ _ (by omega) HX3.out, old _ _ (by omega) HX4.out, hB3, by omega, by omega⟩
 have hsS : ∀ g ∈ [w2.heap.size + 1 + 1, w2.heap.size + 1 + 1 + 1 + 1], w2.heap.size + 2 ≤ g ∧ g < w2.heap.size + 5 := by intro g hg; simp at hg; omega
 have hBW := hB3.size
 clear hW3 old y0 y1 y2 y3 y4
 refine qi0 rfl (enters_of Tryd.func106 (by kernel_rfl) rfl) (qi8 B w.heap.size (w2.heap.size + 1 + 1) (w2.heap.size + 1 + 1 + 1) (w2.heap.size + 1 + 1 + 1 + 1) cpu hcpu b l A n c W3 (by omega) (by omega) (by omega) hB (by omega) (by omega) hrc) (by intro y hy; obtain ⟨p, _, rfl⟩ := List.mem_map.1 hy; rfl) (by intro g hg; have := hsS g hg; omega)
  (ReadT w w2.heap.size) (ReadJ w w2.heap.size m cpu b l) (qm2 w w2.heap.size m cpu b l) ?hJ ?hJx ?hJ0 ?hJx0 ?hTd ?hN ?h0 (ReadA ds cpu m A n c w.heap.size w2.heap.size b l) ?hA ?hassign ?hbody ?hdone ?hstop
 case hJ =>
  rintro k W W' ⟨es, a, f, bk, lk, v, h1, h2, h3⟩ hk
  exact ⟨⟨es, a, f, bk, lk, v, h1, h2.keep hk (by omega) hsS, h3⟩, h2.tkeep hk hsS⟩
 case hJx =>
  rintro c k W W' hj hk
  unfold qm2 at hj ⊢
  split at hj
  ·obtain ⟨es, a, v, h1, h2⟩ := hj
   exact ⟨es, a, v, h1.keep hk (by omega) hsS, h2⟩
  ·obtain ⟨er, h1⟩ := hj
   exact ⟨er, h1.keep hk (by omega) (fun g hg => by have := hsS g hg; omega)⟩
  ·exact hj.elim
 case hJ0 => rintro k W ⟨es, a, f, bk, lk, v, h1, h2, _⟩; have := h2.size; omega
 case hJx0 =>
  intro c k W hj
  unfold qm2 at hj
  split at hj
  ·obtain ⟨es, a, v, h1, h2⟩ := hj; have := h1.size; omega
  ·obtain ⟨er, h1⟩ := hj; have := h1.size; omega
  ·exact hj.elim
 case hTd => rintro k W b' ⟨es, a, f, bk, lk, v, h1, h2, _⟩ ht; exact h2.tdatum b' ht
 case hN =>
  rintro b' hb' ht
  rcases ht with ht | ht
  ·rcases (hra.out.tlist _).1 ht with h | h
   ·rcases hb' with h1 | h1 | h1 | h1 <;> omega
   ·cases h
  ·rcases hb' with h1 | h1 | h1 | h1 <;> omega
 case h0 => exact ⟨[], 0, l.length, b, l, _, rfl, hra, rfl, by omega, by omega, hm, by omega, by rw [qj6]; rfl⟩
 case hA =>
  rintro k a' W W' ⟨x, q, h1, h2, h3, h4⟩ hk
  exact ⟨x, q, h1, hk.obj _ _ h2 rfl (by simp), h3, h4⟩
 case hassign =>
  rintro l' k hk W ⟨es, a, f, bk, lk, v, h1, h2, _⟩
  have hz := h2.size
  simp only [List.getElem_map]
  have hp : (qb5 (l.length + 1) b cpu l)[k]? = some ((qb5 (l.length + 1) b cpu l)[k]'(by simpa using hk)) := List.getElem?_eq_getElem _
  generalize (qb5 (l.length + 1) b cpu l)[k]'(by simpa using hk) = q at hp
  have HP := hide hp
  clear hp h1 h2 hk
  unfold encT
  gi_wp2
  exact ⟨(Chg.refl _ _).alloc _, W.heap.size, q, HP.out, World.alloc_heap_new W _, hz, rfl⟩
 case hbody =>
  rintro l' k a' W hk hl ⟨r0, hr0⟩ ⟨x, q, hq, hx, hxo, rfl⟩ ⟨es, a, f, bk, lk, v, hek, hra, hdr, hf, hkl, hkm, hal, hsp⟩
  have hqt : takeR bk cpu lk = q := by
   have h1 := congrArg (fun L => L[0]?) hdr
   simp only [List.getElem?_drop, Nat.add_zero] at h1
   rw [hq, qcz f bk cpu lk] at h1
   simpa using h1.symm
  have htl := qgq bk cpu lk
  rw [hqt] at htl
  have hdr2 : (qb5 (l.length + 1) b cpu l).drop (k + 1) = if q.2.2 ≠ 0 then [] else qb5 f q.1.at cpu (lk.drop q.2.1) := by
   rw [qcz f bk cpu lk, hqt] at hdr
   rw [← List.tail_drop, hdr]; rfl
  have hmk : m - k = (m - (k + 1)) + 1 := by omega
  rw [hmk] at hsp
  have hWz := hra.size
  obtain ⟨e, mm, er⟩ := q
  simp only at htl hdr2
  have HDR := hide hdr2
  have HSP := hide hsp
  have HQT := hide hqt
  have hek1 : es.length ≤ k ∧ k ≤ es.length := by omega
  have r8c : W.cell? ⟨w.heap.size + 1 + 1, 0, none⟩ = some (.slice none 0 0) := by simp [World.cell?, hra.r8]
  have r9c : W.cell? ⟨w.heap.size + 1 + 1 + 1, 0, none⟩ = some (.int .i64 0) := by simp [World.cell?, hra.r9]
  have r10c : W.cell? ⟨w.heap.size + 1 + 1 + 1 + 1, 0, none⟩ = some (.int .i64 0) := by simp [World.cell?, hra.r10]
  have r8f : ∀ i, W.frozen? ⟨w.heap.size + 1 + 1, i, none⟩ = false := fun i => by simp [World.frozen?, hra.r8]
  have r9f : ∀ i, W.frozen? ⟨w.heap.size + 1 + 1 + 1, i, none⟩ = false := fun i => by simp [World.frozen?, hra.r9]
  have r10f : ∀ i, W.frozen? ⟨w.heap.size + 1 + 1 + 1 + 1, i, none⟩ = false := fun i => by simp [World.frozen?, hra.r10]
  have HRA := hide hra
  have HX := hide hx
  have HRC := hide hrc
  clear hq hqt hdr hdr2 hsp hmk hx hra hrc hr0 hek hk
  by_cases hbad : er = 0
  ·subst hbad
   have HOW := hide HRA.out.out.row
   obtain ⟨A1, c1, rfl⟩ := qax HOW.out
   have hkb : k ≤ 1000000000000 := by omega
   have o0 := HRA.out.out.cell
   have x0 : W.cell? ⟨x, 0, none⟩ = some (.int .i64 e.seq) := by simp [World.cell?, HX.out, tk]
   rcases List.eq_nil_or_concat es with hnil | ⟨es0, p, hcat⟩
   ·subst hnil
    simp only [List.length_nil] at o0
    gi_wp2
    refine qdj (S := fun w' => w'.cell? ⟨w2.heap.size, 0, none⟩ = some (.slice A1 0 c1)) (by kernel_rfl) (by kernel_rfl) (by rintro ⟨_, _, h⟩; exact h) o0 (fun hH => ?_)
    refine wpAnyH_take (i := 0) (v := .slice A1 0 c1) rfl (by kernel_rfl) (by kernel_rfl) (by kernel_rfl) (fun _ _ _ h => h) (Or.inl ⟨by rfl, fun WW hW => by (skip; simp only [List.getElem_toArray, List.getElem_cons_zero]; go_simp)⟩) hH ?_
    simp only [List.getElem_toArray, List.getElem_cons_zero, Act.put, List.setIfInBounds_toArray, List.set_cons_zero, List.set_cons_succ]
    refine wpAnyH_take (i := 1) (v := .int .i64 0) rfl (by kernel_rfl) (by kernel_rfl) (by kernel_rfl) (fun _ _ _ h => h) (Or.inl ⟨by rfl, fun WW hW => by (skip; simp only [List.getElem_toArray, List.getElem_cons_zero, List.getElem_cons_succ]; go_simp)⟩) hH ?_
    simp only [List.getElem_toArray, List.getElem_cons_zero, List.getElem_cons_succ, Act.put, List.setIfInBounds_toArray, List.set_cons_zero, List.set_cons_succ]
    refine wpAnyH_take (i := 2) (v := .bool false) rfl (by kernel_rfl) (by kernel_rfl) (by kernel_rfl) (fun _ _ _ h => h) (Or.inl ⟨by rfl, fun WW hW => by (skip; simp only [List.getElem_toArray, List.getElem_cons_zero, List.getElem_cons_succ]; go_simp)⟩) hH ?_
    simp only [List.getElem_toArray, List.getElem_cons_zero, List.getElem_cons_succ, Act.put, List.setIfInBounds_toArray, List.set_cons_zero, List.set_cons_succ]
    refine wpAnyH_take (i := 3) (v := .bool false) rfl (by kernel_rfl) (by kernel_rfl) (by kernel_rfl) (fun _ _ _ h => h) (Or.inl ⟨by rfl, fun WW hW => by (skip; simp only [List.getElem_toArray, List.getElem_cons_zero, List.getElem_cons_succ]; go_simp)⟩) hH ?_
    simp only [List.getElem_toArray, List.getElem_cons_zero, List.getElem_cons_succ, Act.put, List.setIfInBounds_toArray, List.set_cons_zero, List.set_cons_succ]
    refine wpAnyH_take (i := 4) rfl (by kernel_rfl) (by kernel_rfl) (by kernel_rfl) (fun _ _ _ h => h) (Or.inr ⟨by rfl, rfl⟩) hH ?_
    simp only [List.getElem_toArray, List.getElem_cons_zero, List.getElem_cons_succ, Act.put, List.setIfInBounds_toArray, List.set_cons_zero, List.set_cons_succ]
    refine wpAnyH_take (i := 5) rfl (by kernel_rfl) (by kernel_rfl) (by kernel_rfl) (fun _ _ _ h => h) (Or.inr ⟨by rfl, rfl⟩) hH ?_
    simp only [List.getElem_toArray, List.getElem_cons_zero, List.getElem_cons_succ, Act.put, List.setIfInBounds_toArray, List.set_cons_zero, List.set_cons_succ]
    refine wpAnyH_take (i := 6) rfl (by kernel_rfl) (by kernel_rfl) (by kernel_rfl) (fun _ _ _ h => h) (Or.inr ⟨by rfl, rfl⟩) hH ?_
    simp only [List.getElem_toArray, List.getElem_cons_zero, List.getElem_cons_succ, Act.put, List.setIfInBounds_toArray, List.set_cons_zero, List.set_cons_succ]
    refine wpAnyH_take (i := 7) rfl (by kernel_rfl) (by kernel_rfl) (by kernel_rfl) (fun _ _ _ h => h) (Or.inr ⟨by rfl, rfl⟩) hH ?_
    simp only [List.getElem_toArray, List.getElem_cons_zero, List.getElem_cons_succ, Act.put, List.setIfInBounds_toArray, List.set_cons_zero, List.set_cons_succ]
    refine wpAnyH_take (i := 8) rfl (by kernel_rfl) (by kernel_rfl) (by kernel_rfl) (fun _ _ _ h => h) (Or.inr ⟨by rfl, rfl⟩) hH ?_
    simp only [List.getElem_toArray, List.getElem_cons_zero, List.getElem_cons_succ, Act.put, List.setIfInBounds_toArray, List.set_cons_zero, List.set_cons_succ]
    refine wpAnyH_take (i := 9) rfl (by kernel_rfl) (by kernel_rfl) (by kernel_rfl) (fun _ _ _ h => h) (Or.inr ⟨by rfl, rfl⟩) hH ?_
    simp only [List.getElem_toArray, List.getElem_cons_zero, List.getElem_cons_succ, Act.put, List.setIfInBounds_toArray, List.set_cons_zero, List.set_cons_succ]
    refine wpAnyH_take (i := 10) rfl (by kernel_rfl) (by kernel_rfl) (by kernel_rfl) (fun _ _ _ h => h) (Or.inr ⟨by rfl, rfl⟩) hH ?_
    simp only [List.getElem_toArray, List.getElem_cons_zero, List.getElem_cons_succ, Act.put, List.setIfInBounds_toArray, List.set_cons_zero, List.set_cons_succ]
    refine wpAnyH_take (i := 11) rfl (by kernel_rfl) (by kernel_rfl) (by kernel_rfl) (fun _ _ _ h => h) (Or.inr ⟨by rfl, rfl⟩) hH ?_
    simp only [List.getElem_toArray, List.getElem_cons_zero, List.getElem_cons_succ, Act.put, List.setIfInBounds_toArray, List.set_cons_zero, List.set_cons_succ]
    refine wpAnyH_take (i := 12) rfl (by kernel_rfl) (by kernel_rfl) (by kernel_rfl) (fun _ _ _ h => h) (Or.inr ⟨by rfl, rfl⟩) hH ?_
    simp only [List.getElem_toArray, List.getElem_cons_zero, List.getElem_cons_succ, Act.put, List.setIfInBounds_toArray, List.set_cons_zero, List.set_cons_succ]
    refine wpAnyH_take (i := 13) rfl (by kernel_rfl) (by kernel_rfl) (by kernel_rfl) (fun _ _ _ h => h) (Or.inr ⟨by rfl, rfl⟩) hH ?_
    simp only [List.getElem_toArray, List.getElem_cons_zero, List.getElem_cons_succ, Act.put, List.setIfInBounds_toArray, List.set_cons_zero, List.set_cons_succ]
    refine wpAnyH_take (i := 14) rfl (by kernel_rfl) (by kernel_rfl) (by kernel_rfl) (fun _ _ _ h => h) (Or.inr ⟨by rfl, rfl⟩) hH ?_
    simp only [List.getElem_toArray, List.getElem_cons_zero, List.getElem_cons_succ, Act.put, List.setIfInBounds_toArray, List.set_cons_zero, List.set_cons_succ]
    refine wpAnyH_take (i := 15) (v := .bool false) rfl (by kernel_rfl) (by kernel_rfl) (by kernel_rfl) (fun _ _ _ h => h) (Or.inl ⟨by rfl, fun WW hW => by (skip; simp only [List.getElem_toArray, List.getElem_cons_zero, List.getElem_cons_succ]; go_simp)⟩) hH ?_
    simp only [List.getElem_toArray, List.getElem_cons_zero, List.getElem_cons_succ, Act.put, List.setIfInBounds_toArray, List.set_cons_zero, List.set_cons_succ]
    refine wpAnyH_done (by kernel_rfl) ?_ _
    simp only [List.length_nil] at hek1
    have hrow := HOW.out
    have HNO := hide (show (Value.slice A1 0 c1).ownBlock ≠ some w2.heap.size from fun h => by have := (hrow.lt _ h).1; omega)
    have HNA := hide (show (Value.slice A1 0 c1).ownBlock ≠ some (w2.heap.size + 1) from fun h => by have := (hrow.lt _ h).1; omega)
    have HNN := hide (show (Value.slice A1 0 c1).ownBlock ≠ some (w.heap.size + 1) from fun h => by have := (hrow.lt _ h).1; omega)
    have HNX := hide (qt0 hrow HX.out (by decide))
    have HOW2 := hide (fun X => (show (W.alloc X).drew.ownsRow (w2.heap.size + 5) 45 11 (.slice A1 0 c1) 0 ((([] : List Ev)).flatMap evL) from (hrow.alloc X).drew))
    have hx11 := (qel (qf (show W.heap[x]? = _ from HX.out) |> fun h => qh3 (cs := e.cells.toList) (ds := [.int .i64 (mm : Int)]) h))
    obtain ⟨v0, v1, v2, v3, v4, v5, v6, v7, v8, v9, v10⟩ := hx11
    have n1 : x ≠ w2.heap.size := by omega
    have n2 : x ≠ w2.heap.size + 1 := by omega
    have n3 : w.heap.size + 1 ≠ w2.heap.size := by omega
    have n4 : w.heap.size + 1 ≠ w2.heap.size + 1 := by omega
    have n1' : ¬ w2.heap.size = x := by omega
    have n2' : ¬ w2.heap.size + 1 = x := by omega
    have n3' : ¬ w2.heap.size = w.heap.size + 1 := by omega
    have n4' : ¬ w2.heap.size = w.heap.size := by omega
    have HPU := hide (show ∀ A2 c2 w1, w1.ownsRow (w2.heap.size + 5) 45 11 (.slice A2 (0 + 1) c2) (0 + 1) ((([] : List Ev)).flatMap evL ++ evL e) → (W.alloc (.cells #[.int .i64 e.seq, .int .i64 e.time, .int .u8 (e.cpu : Int), .int .u8 (e.kind : Int), .int .i64 e.task, .int .i64 e.group, .int .i64 e.to, .int .i64 e.weight, .int .i64 e.ticks, .int .u64 (e.mask : Int), .int .i64 e.got] 45)).drew.grownBy w1 (Value.slice A1 0 c1).ownBlock → ((Value.slice A2 (0 + 1) c2).ownBlock = (Value.slice A1 0 c1).ownBlock ∨ (Value.slice A2 (0 + 1) c2).ownBlock = some (W.alloc (.cells #[.int .i64 e.seq, .int .i64 e.time, .int .u8 (e.cpu : Int), .int .u8 (e.kind : Int), .int .i64 e.task, .int .i64 e.group, .int .i64 e.to, .int .i64 e.weight, .int .i64 e.ticks, .int .u64 (e.mask : Int), .int .i64 e.got] 45)).drew.heap.size) → ReadAt w w2.heap.size m ((([] : List Ev)) ++ [e]) (a + mm) ((w1.setCell ⟨w2.heap.size, 0, none⟩ (.slice A2 (0 + 1) c2)).setCell ⟨w2.heap.size + 1, 0, none⟩ (.int .i64 ((a : Int) + (mm : Int)))) (.slice A2 (0 + 1) c2) ∧ ChgT (ReadT w w2.heap.size) W ((w1.setCell ⟨w2.heap.size, 0, none⟩ (.slice A2 (0 + 1) c2)).setCell ⟨w2.heap.size + 1, 0, none⟩ (.int .i64 ((a : Int) + (mm : Int)))) from fun A2 c2 w1 a1 a2 a3 => by
     have h := HRA.out.push (e := e) (mm := mm) (A' := A2) (c' := c2) ((Chg.refl [] W).alloc (.cells #[.int .i64 e.seq, .int .i64 e.time, .int .u8 (e.cpu : Int), .int .u8 (e.kind : Int), .int .i64 e.task, .int .i64 e.group, .int .i64 e.to, .int .i64 e.weight, .int .i64 e.ticks, .int .u64 (e.mask : Int), .int .i64 e.got] 45)).drew a2 (a1) (a3)
     unfold pushW at h
     rw [Int.natCast_add] at h
     exact h)
    have hpush := HPU.out
    have HSAID := hide (show qw cpu m b none l = joinE ([] ++ [e]) (a + mm) (qw cpu (m - (k + 1)) e.at (some e) (lk.drop mm)) by rw [HSP.out]; exact qfm HQT.out rfl [] a)
    by_cases hend : k + 1 = m
    ·have hEB : ((1 : Int) == (m : Int)) = true := by rw [beq_iff_eq]; omega
     have HEND := hide hend
     clear hend
     gi_wp2_with (gi_at_builtin; refine qde rfl rfl ei_ev (HOW2.out _) rfl (Rd.block W (evL e) _ 11 rfl) rfl (qaf e) (by omega) (by omega) (by show w2.heap.size + 5 ≤ (W.alloc _).heap.size; simp; omega) ?_; intro A2 c2 w1 hown1 hgr1 hbl1; obtain ⟨hc1, hf1⟩ := HRA.out.out.later ((Chg.refl [] W).alloc (.cells #[.int .i64 e.seq, .int .i64 e.time, .int .u8 (e.cpu : Int), .int .u8 (e.kind : Int), .int .i64 e.task, .int .i64 e.group, .int .i64 e.to, .int .i64 e.weight, .int .i64 e.ticks, .int .u64 (e.mask : Int), .int .i64 e.got] 45)).drew hgr1 HNO.out; have hA1 := qaj hgr1 HRA.out.at' HNA.out; have hN1 := qaj hgr1 HRA.out.num HNN.out; have hX1 := qaj hgr1 HX.out HNX.out; have u0 : w1.cell? ⟨w2.heap.size + 1, 0, none⟩ = some (.int .i64 (a : Int)) := by { simp [World.cell?, hA1] }; have u1 : ∀ i, w1.frozen? ⟨w2.heap.size + 1, i, none⟩ = false := fun i => by { simp [World.frozen?, hA1] }; have u2 : w1.cell? ⟨w.heap.size + 1, 0, none⟩ = some (.int .i64 (m : Int)) := by { simp [World.cell?, hN1] }; have u3 : w1.cell? ⟨x, 11, none⟩ = some (.int .i64 (mm : Int)) := by { simp [World.cell?, hX1, tk] }; have HU := hide (And.intro hA1 (And.intro hN1 hX1)); clear hA1 hN1 hX1)
     have hp := hpush A2 c2 w1 hown1 hgr1 hbl1
     exact ⟨hp.2, ⟨_, _, _, hp.1, by omega, by rw [HSAID.out, show m - (k + 1) = 0 by have := HEND.out; omega]; unfold joinE; simp [qw]⟩, fun W4 hk4 => hp.1.tkeep hk4 hsS⟩
    ·have hEB : ((1 : Int) == (m : Int)) = false := by rw [beq_eq_false_iff_ne]; omega
     gi_wp2_with (gi_at_builtin; refine qde rfl rfl ei_ev (HOW2.out _) rfl (Rd.block W (evL e) _ 11 rfl) rfl (qaf e) (by omega) (by omega) (by show w2.heap.size + 5 ≤ (W.alloc _).heap.size; simp; omega) ?_; intro A2 c2 w1 hown1 hgr1 hbl1; obtain ⟨hc1, hf1⟩ := HRA.out.out.later ((Chg.refl [] W).alloc (.cells #[.int .i64 e.seq, .int .i64 e.time, .int .u8 (e.cpu : Int), .int .u8 (e.kind : Int), .int .i64 e.task, .int .i64 e.group, .int .i64 e.to, .int .i64 e.weight, .int .i64 e.ticks, .int .u64 (e.mask : Int), .int .i64 e.got] 45)).drew hgr1 HNO.out; have hA1 := qaj hgr1 HRA.out.at' HNA.out; have hN1 := qaj hgr1 HRA.out.num HNN.out; have hX1 := qaj hgr1 HX.out HNX.out; have u0 : w1.cell? ⟨w2.heap.size + 1, 0, none⟩ = some (.int .i64 (a : Int)) := by { simp [World.cell?, hA1] }; have u1 : ∀ i, w1.frozen? ⟨w2.heap.size + 1, i, none⟩ = false := fun i => by { simp [World.frozen?, hA1] }; have u2 : w1.cell? ⟨w.heap.size + 1, 0, none⟩ = some (.int .i64 (m : Int)) := by { simp [World.cell?, hN1] }; have u3 : w1.cell? ⟨x, 11, none⟩ = some (.int .i64 (mm : Int)) := by { simp [World.cell?, hX1, tk] }; have HU := hide (And.intro hA1 (And.intro hN1 hX1)); clear hA1 hN1 hX1)
     have hp := hpush A2 c2 w1 hown1 hgr1 hbl1
     obtain ⟨f', rfl⟩ : ∃ f', f = f' + 1 := ⟨f - 1, by have := htl.2 trivial; omega⟩
     exact ⟨hp.2, _, _, f', e.at, lk.drop mm, _, by simp; omega, hp.1, by rw [HDR.out]; rfl, by rw [List.length_drop]; have := htl.2 trivial; omega, by rw [List.length_drop]; have := htl.2 trivial; omega, by omega, by rw [List.length_drop]; omega, by rw [HSAID.out]; simp⟩
   ·have hcat' : es = es0 ++ [p] := by simpa using hcat
    have hrow0 := HOW.out
    obtain ⟨g, cg, hgv, hgb, hgl⟩ := hrow0.form (by rw [hcat']; simp)
    have hel : es.length = es0.length + 1 := by rw [hcat']; simp
    have hpc : W.cell? ⟨g, es0.length * 11, none⟩ = some (.int .i64 p.seq) := by
     rw [hgv] at hrow0
     rw [hrow0.cellAt (es0.length * 11) (by omega), hcat', List.flatMap_append]
     rw [List.getElem?_append_right (by rw [qay evL 11 qy]; omega), qay evL 11 qy, Nat.sub_self]
     rfl
    have hlast : es.getLast? = some p := by rw [hcat']; simp
    injection hgv with hgA hgn hgc
    subst hgA
    subst hgc
    generalize hN : es0.length = N at *
    rw [hel] at o0
    have hek2 : N + 1 ≤ k ∧ k ≤ N + 1 := by omega
    have HCAT := hide hcat'
    have HEL := hide hel
    have HN := hide hN
    rw [hlast] at HSP
    have hni : (0 : Int) < (N : Int) + 1 := by omega
    have hwn : IntKind.i64.wrap (N : Int) = (N : Int) := IntWalk.i64_in _ (by omega)
    have hwn2 : IntKind.i64.wrap ((N : Int) + 1 - 1) = (N : Int) := by rw [Int.add_sub_cancel]; exact hwn
    have hnl : (N : Int) < (N : Int) + 1 := by omega
    have p0 := hpc
    clear hcat hcat' hel hN hlast hpc hgn hrow0
    by_cases hsq : e.seq = p.seq
    ·have hsb : (e.seq == p.seq) = true := by rw [beq_iff_eq]; exact hsq
     have HSQ := hide hsq
     clear hsq
     gi_wp2
     refine qdj (S := fun w' => w'.cell? ⟨w2.heap.size, 0, none⟩ = some (.slice (some ⟨g, 0, none⟩) (N + 1) c1) ∧ w'.cell? ⟨x, 0, none⟩ = some (.int .i64 e.seq) ∧ w'.cell? ⟨g, N * 11, none⟩ = some (.int .i64 p.seq)) (by kernel_rfl) (by kernel_rfl) (by rintro ⟨_, _, h⟩; exact h) ⟨o0, x0, p0⟩ (fun hH => ?_)
     refine wpAnyH_take (i := 0) (v := .slice (some ⟨g, 0, none⟩) (N + 1) c1) rfl (by kernel_rfl) (by kernel_rfl) (by kernel_rfl) (fun _ _ _ h => h) (Or.inl ⟨by rfl, fun WW hW => by (obtain ⟨hW1, hW2, hW3⟩ := hW; simp only [List.getElem_toArray, List.getElem_cons_zero]; go_simp)⟩) hH ?_
     simp only [List.getElem_toArray, List.getElem_cons_zero, Act.put, List.setIfInBounds_toArray, List.set_cons_zero, List.set_cons_succ]
     refine wpAnyH_take (i := 1) (v := .int .i64 ((N : Int) + 1)) rfl (by kernel_rfl) (by kernel_rfl) (by kernel_rfl) (fun _ _ _ h => h) (Or.inl ⟨by rfl, fun WW hW => by (skip; simp only [List.getElem_toArray, List.getElem_cons_zero, List.getElem_cons_succ]; go_simp)⟩) hH ?_
     simp only [List.getElem_toArray, List.getElem_cons_zero, List.getElem_cons_succ, Act.put, List.setIfInBounds_toArray, List.set_cons_zero, List.set_cons_succ]
     refine wpAnyH_take (i := 2) (v := .bool true) rfl (by kernel_rfl) (by kernel_rfl) (by kernel_rfl) (fun _ _ _ h => h) (Or.inl ⟨by rfl, fun WW hW => by (skip; simp only [List.getElem_toArray, List.getElem_cons_zero, List.getElem_cons_succ]; go_simp)⟩) hH ?_
     simp only [List.getElem_toArray, List.getElem_cons_zero, List.getElem_cons_succ, Act.put, List.setIfInBounds_toArray, List.set_cons_zero, List.set_cons_succ]
     refine wpAnyH_take (i := 3) (v := .bool true) rfl (by kernel_rfl) (by kernel_rfl) (by kernel_rfl) (fun _ _ _ h => h) (Or.inl ⟨by rfl, fun WW hW => by (skip; simp only [List.getElem_toArray, List.getElem_cons_zero, List.getElem_cons_succ]; go_simp)⟩) hH ?_
     simp only [List.getElem_toArray, List.getElem_cons_zero, List.getElem_cons_succ, Act.put, List.setIfInBounds_toArray, List.set_cons_zero, List.set_cons_succ]
     refine wpAnyH_take (i := 4) (v := .pointer (some ⟨x, 0, none⟩)) rfl (by kernel_rfl) (by kernel_rfl) (by kernel_rfl) (fun _ _ _ h => h) (Or.inl ⟨by rfl, fun WW hW => by (skip; simp only [List.getElem_toArray, List.getElem_cons_zero, List.getElem_cons_succ]; go_simp)⟩) hH ?_
     simp only [List.getElem_toArray, List.getElem_cons_zero, List.getElem_cons_succ, Act.put, List.setIfInBounds_toArray, List.set_cons_zero, List.set_cons_succ]
     refine wpAnyH_take (i := 5) (v := .pointer (some ⟨x, 0, none⟩)) rfl (by kernel_rfl) (by kernel_rfl) (by kernel_rfl) (fun _ _ _ h => h) (Or.inl ⟨by rfl, fun WW hW => by (skip; simp only [List.getElem_toArray, List.getElem_cons_zero, List.getElem_cons_succ]; go_simp)⟩) hH ?_
     simp only [List.getElem_toArray, List.getElem_cons_zero, List.getElem_cons_succ, Act.put, List.setIfInBounds_toArray, List.set_cons_zero, List.set_cons_succ]
     refine wpAnyH_take (i := 6) (v := .int .i64 e.seq) rfl (by kernel_rfl) (by kernel_rfl) (by kernel_rfl) (fun _ _ _ h => h) (Or.inl ⟨by rfl, fun WW hW => by (obtain ⟨hW1, hW2, hW3⟩ := hW; simp only [List.getElem_toArray, List.getElem_cons_zero, List.getElem_cons_succ]; go_simp)⟩) hH ?_
     simp only [List.getElem_toArray, List.getElem_cons_zero, List.getElem_cons_succ, Act.put, List.setIfInBounds_toArray, List.set_cons_zero, List.set_cons_succ]
     refine wpAnyH_take (i := 7) (v := .slice (some ⟨g, 0, none⟩) (N + 1) c1) rfl (by kernel_rfl) (by kernel_rfl) (by kernel_rfl) (fun _ _ _ h => h) (Or.inl ⟨by rfl, fun WW hW => by (obtain ⟨hW1, hW2, hW3⟩ := hW; simp only [List.getElem_toArray, List.getElem_cons_zero, List.getElem_cons_succ]; go_simp)⟩) hH ?_
     simp only [List.getElem_toArray, List.getElem_cons_zero, List.getElem_cons_succ, Act.put, List.setIfInBounds_toArray, List.set_cons_zero, List.set_cons_succ]
     refine wpAnyH_take (i := 8) (v := .slice (some ⟨g, 0, none⟩) (N + 1) c1) rfl (by kernel_rfl) (by kernel_rfl) (by kernel_rfl) (fun _ _ _ h => h) (Or.inl ⟨by rfl, fun WW hW => by (obtain ⟨hW1, hW2, hW3⟩ := hW; simp only [List.getElem_toArray, List.getElem_cons_zero, List.getElem_cons_succ]; go_simp)⟩) hH ?_
     simp only [List.getElem_toArray, List.getElem_cons_zero, List.getElem_cons_succ, Act.put, List.setIfInBounds_toArray, List.set_cons_zero, List.set_cons_succ]
     refine wpAnyH_take (i := 9) (v := .int .i64 ((N : Int) + 1)) rfl (by kernel_rfl) (by kernel_rfl) (by kernel_rfl) (fun _ _ _ h => h) (Or.inl ⟨by rfl, fun WW hW => by (skip; simp only [List.getElem_toArray, List.getElem_cons_zero, List.getElem_cons_succ]; go_simp)⟩) hH ?_
     simp only [List.getElem_toArray, List.getElem_cons_zero, List.getElem_cons_succ, Act.put, List.setIfInBounds_toArray, List.set_cons_zero, List.set_cons_succ]
     refine wpAnyH_take (i := 10) (v := .int .i64 (N : Int)) rfl (by kernel_rfl) (by kernel_rfl) (by kernel_rfl) (fun _ _ _ h => h) (Or.inl ⟨by rfl, fun WW hW => by (skip; simp only [List.getElem_toArray, List.getElem_cons_zero, List.getElem_cons_succ]; go_simp)⟩) hH ?_
     simp only [List.getElem_toArray, List.getElem_cons_zero, List.getElem_cons_succ, Act.put, List.setIfInBounds_toArray, List.set_cons_zero, List.set_cons_succ]
     refine wpAnyH_take (i := 11) (v := .pointer (some ⟨g, N * 11, none⟩)) rfl (by kernel_rfl) (by kernel_rfl) (by kernel_rfl) (fun _ _ _ h => h) (Or.inl ⟨by rfl, fun WW hW => by (skip; simp only [List.getElem_toArray, List.getElem_cons_zero, List.getElem_cons_succ]; go_simp)⟩) hH ?_
     simp only [List.getElem_toArray, List.getElem_cons_zero, List.getElem_cons_succ, Act.put, List.setIfInBounds_toArray, List.set_cons_zero, List.set_cons_succ]
     refine wpAnyH_take (i := 12) (v := .pointer (some ⟨g, N * 11, none⟩)) rfl (by kernel_rfl) (by kernel_rfl) (by kernel_rfl) (fun _ _ _ h => h) (Or.inl ⟨by rfl, fun WW hW => by (skip; simp only [List.getElem_toArray, List.getElem_cons_zero, List.getElem_cons_succ]; go_simp)⟩) hH ?_
     simp only [List.getElem_toArray, List.getElem_cons_zero, List.getElem_cons_succ, Act.put, List.setIfInBounds_toArray, List.set_cons_zero, List.set_cons_succ]
     refine wpAnyH_take (i := 13) (v := .int .i64 p.seq) rfl (by kernel_rfl) (by kernel_rfl) (by kernel_rfl) (fun _ _ _ h => h) (Or.inl ⟨by rfl, fun WW hW => by (obtain ⟨hW1, hW2, hW3⟩ := hW; simp only [List.getElem_toArray, List.getElem_cons_zero, List.getElem_cons_succ]; go_simp)⟩) hH ?_
     simp only [List.getElem_toArray, List.getElem_cons_zero, List.getElem_cons_succ, Act.put, List.setIfInBounds_toArray, List.set_cons_zero, List.set_cons_succ]
     refine wpAnyH_take (i := 14) (v := .bool true) rfl (by kernel_rfl) (by kernel_rfl) (by kernel_rfl) (fun _ _ _ h => h) (Or.inl ⟨by rfl, fun WW hW => by (skip; simp only [List.getElem_toArray, List.getElem_cons_zero, List.getElem_cons_succ]; go_simp)⟩) hH ?_
     simp only [List.getElem_toArray, List.getElem_cons_zero, List.getElem_cons_succ, Act.put, List.setIfInBounds_toArray, List.set_cons_zero, List.set_cons_succ]
     refine wpAnyH_take (i := 15) (v := .bool true) rfl (by kernel_rfl) (by kernel_rfl) (by kernel_rfl) (fun _ _ _ h => h) (Or.inl ⟨by rfl, fun WW hW => by (skip; simp only [List.getElem_toArray, List.getElem_cons_zero, List.getElem_cons_succ]; go_simp)⟩) hH ?_
     simp only [List.getElem_toArray, List.getElem_cons_zero, List.getElem_cons_succ, Act.put, List.setIfInBounds_toArray, List.set_cons_zero, List.set_cons_succ]
     refine wpAnyH_done (by kernel_rfl) ?_ _
     gi_wp2
     have h := HRA.out.drew.ret (S := [w2.heap.size + 1 + 1, w2.heap.size + 1 + 1 + 1 + 1]) (B := W3.heap.size) (b := b) (l := l) (er := 71) (m := m) (cpu := cpu) (by rw [HSP.out]; exact qh5 HQT.out (by simp [HSQ.out]) es a)
     exact ⟨⟨h.1.os, h.1.tape, h.1.output, h.1.size, h.1.block, h.1.own⟩, ⟨71, h.2.1⟩, fun W4 hk4 => h.2.2 W4 hk4 hsS⟩
    ·have hsb : (e.seq == p.seq) = false := by rw [beq_eq_false_iff_ne]; exact hsq
     have HSQ := hide hsq
     clear hsq
     gi_wp2
     refine qdj (S := fun w' => w'.cell? ⟨w2.heap.size, 0, none⟩ = some (.slice (some ⟨g, 0, none⟩) (N + 1) c1) ∧ w'.cell? ⟨x, 0, none⟩ = some (.int .i64 e.seq) ∧ w'.cell? ⟨g, N * 11, none⟩ = some (.int .i64 p.seq)) (by kernel_rfl) (by kernel_rfl) (by rintro ⟨_, _, h⟩; exact h) ⟨o0, x0, p0⟩ (fun hH => ?_)
     refine wpAnyH_take (i := 0) (v := .slice (some ⟨g, 0, none⟩) (N + 1) c1) rfl (by kernel_rfl) (by kernel_rfl) (by kernel_rfl) (fun _ _ _ h => h) (Or.inl ⟨by rfl, fun WW hW => by (obtain ⟨hW1, hW2, hW3⟩ := hW; simp only [List.getElem_toArray, List.getElem_cons_zero]; go_simp)⟩) hH ?_
     simp only [List.getElem_toArray, List.getElem_cons_zero, Act.put, List.setIfInBounds_toArray, List.set_cons_zero, List.set_cons_succ]
     refine wpAnyH_take (i := 1) (v := .int .i64 ((N : Int) + 1)) rfl (by kernel_rfl) (by kernel_rfl) (by kernel_rfl) (fun _ _ _ h => h) (Or.inl ⟨by rfl, fun WW hW => by (skip; simp only [List.getElem_toArray, List.getElem_cons_zero, List.getElem_cons_succ]; go_simp)⟩) hH ?_
     simp only [List.getElem_toArray, List.getElem_cons_zero, List.getElem_cons_succ, Act.put, List.setIfInBounds_toArray, List.set_cons_zero, List.set_cons_succ]
     refine wpAnyH_take (i := 2) (v := .bool true) rfl (by kernel_rfl) (by kernel_rfl) (by kernel_rfl) (fun _ _ _ h => h) (Or.inl ⟨by rfl, fun WW hW => by (skip; simp only [List.getElem_toArray, List.getElem_cons_zero, List.getElem_cons_succ]; go_simp)⟩) hH ?_
     simp only [List.getElem_toArray, List.getElem_cons_zero, List.getElem_cons_succ, Act.put, List.setIfInBounds_toArray, List.set_cons_zero, List.set_cons_succ]
     refine wpAnyH_take (i := 3) (v := .bool true) rfl (by kernel_rfl) (by kernel_rfl) (by kernel_rfl) (fun _ _ _ h => h) (Or.inl ⟨by rfl, fun WW hW => by (skip; simp only [List.getElem_toArray, List.getElem_cons_zero, List.getElem_cons_succ]; go_simp)⟩) hH ?_
     simp only [List.getElem_toArray, List.getElem_cons_zero, List.getElem_cons_succ, Act.put, List.setIfInBounds_toArray, List.set_cons_zero, List.set_cons_succ]
     refine wpAnyH_take (i := 4) (v := .pointer (some ⟨x, 0, none⟩)) rfl (by kernel_rfl) (by kernel_rfl) (by kernel_rfl) (fun _ _ _ h => h) (Or.inl ⟨by rfl, fun WW hW => by (skip; simp only [List.getElem_toArray, List.getElem_cons_zero, List.getElem_cons_succ]; go_simp)⟩) hH ?_
     simp only [List.getElem_toArray, List.getElem_cons_zero, List.getElem_cons_succ, Act.put, List.setIfInBounds_toArray, List.set_cons_zero, List.set_cons_succ]
     refine wpAnyH_take (i := 5) (v := .pointer (some ⟨x, 0, none⟩)) rfl (by kernel_rfl) (by kernel_rfl) (by kernel_rfl) (fun _ _ _ h => h) (Or.inl ⟨by rfl, fun WW hW => by (skip; simp only [List.getElem_toArray, List.getElem_cons_zero, List.getElem_cons_succ]; go_simp)⟩) hH ?_
     simp only [List.getElem_toArray, List.getElem_cons_zero, List.getElem_cons_succ, Act.put, List.setIfInBounds_toArray, List.set_cons_zero, List.set_cons_succ]
     refine wpAnyH_take (i := 6) (v := .int .i64 e.seq) rfl (by kernel_rfl) (by kernel_rfl) (by kernel_rfl) (fun _ _ _ h => h) (Or.inl ⟨by rfl, fun WW hW => by (obtain ⟨hW1, hW2, hW3⟩ := hW; simp only [List.getElem_toArray, List.getElem_cons_zero, List.getElem_cons_succ]; go_simp)⟩) hH ?_
     simp only [List.getElem_toArray, List.getElem_cons_zero, List.getElem_cons_succ, Act.put, List.setIfInBounds_toArray, List.set_cons_zero, List.set_cons_succ]
     refine wpAnyH_take (i := 7) (v := .slice (some ⟨g, 0, none⟩) (N + 1) c1) rfl (by kernel_rfl) (by kernel_rfl) (by kernel_rfl) (fun _ _ _ h => h) (Or.inl ⟨by rfl, fun WW hW => by (obtain ⟨hW1, hW2, hW3⟩ := hW; simp only [List.getElem_toArray, List.getElem_cons_zero, List.getElem_cons_succ]; go_simp)⟩) hH ?_
     simp only [List.getElem_toArray, List.getElem_cons_zero, List.getElem_cons_succ, Act.put, List.setIfInBounds_toArray, List.set_cons_zero, List.set_cons_succ]
     refine wpAnyH_take (i := 8) (v := .slice (some ⟨g, 0, none⟩) (N + 1) c1) rfl (by kernel_rfl) (by kernel_rfl) (by kernel_rfl) (fun _ _ _ h => h) (Or.inl ⟨by rfl, fun WW hW => by (obtain ⟨hW1, hW2, hW3⟩ := hW; simp only [List.getElem_toArray, List.getElem_cons_zero, List.getElem_cons_succ]; go_simp)⟩) hH ?_
     simp only [List.getElem_toArray, List.getElem_cons_zero, List.getElem_cons_succ, Act.put, List.setIfInBounds_toArray, List.set_cons_zero, List.set_cons_succ]
     refine wpAnyH_take (i := 9) (v := .int .i64 ((N : Int) + 1)) rfl (by kernel_rfl) (by kernel_rfl) (by kernel_rfl) (fun _ _ _ h => h) (Or.inl ⟨by rfl, fun WW hW => by (skip; simp only [List.getElem_toArray, List.getElem_cons_zero, List.getElem_cons_succ]; go_simp)⟩) hH ?_
     simp only [List.getElem_toArray, List.getElem_cons_zero, List.getElem_cons_succ, Act.put, List.setIfInBounds_toArray, List.set_cons_zero, List.set_cons_succ]
     refine wpAnyH_take (i := 10) (v := .int .i64 (N : Int)) rfl (by kernel_rfl) (by kernel_rfl) (by kernel_rfl) (fun _ _ _ h => h) (Or.inl ⟨by rfl, fun WW hW => by (skip; simp only [List.getElem_toArray, List.getElem_cons_zero, List.getElem_cons_succ]; go_simp)⟩) hH ?_
     simp only [List.getElem_toArray, List.getElem_cons_zero, List.getElem_cons_succ, Act.put, List.setIfInBounds_toArray, List.set_cons_zero, List.set_cons_succ]
     refine wpAnyH_take (i := 11) (v := .pointer (some ⟨g, N * 11, none⟩)) rfl (by kernel_rfl) (by kernel_rfl) (by kernel_rfl) (fun _ _ _ h => h) (Or.inl ⟨by rfl, fun WW hW => by (skip; simp only [List.getElem_toArray, List.getElem_cons_zero, List.getElem_cons_succ]; go_simp)⟩) hH ?_
     simp only [List.getElem_toArray, List.getElem_cons_zero, List.getElem_cons_succ, Act.put, List.setIfInBounds_toArray, List.set_cons_zero, List.set_cons_succ]
     refine wpAnyH_take (i := 12) (v := .pointer (some ⟨g, N * 11, none⟩)) rfl (by kernel_rfl) (by kernel_rfl) (by kernel_rfl) (fun _ _ _ h => h) (Or.inl ⟨by rfl, fun WW hW => by (skip; simp only [List.getElem_toArray, List.getElem_cons_zero, List.getElem_cons_succ]; go_simp)⟩) hH ?_
     simp only [List.getElem_toArray, List.getElem_cons_zero, List.getElem_cons_succ, Act.put, List.setIfInBounds_toArray, List.set_cons_zero, List.set_cons_succ]
     refine wpAnyH_take (i := 13) (v := .int .i64 p.seq) rfl (by kernel_rfl) (by kernel_rfl) (by kernel_rfl) (fun _ _ _ h => h) (Or.inl ⟨by rfl, fun WW hW => by (obtain ⟨hW1, hW2, hW3⟩ := hW; simp only [List.getElem_toArray, List.getElem_cons_zero, List.getElem_cons_succ]; go_simp)⟩) hH ?_
     simp only [List.getElem_toArray, List.getElem_cons_zero, List.getElem_cons_succ, Act.put, List.setIfInBounds_toArray, List.set_cons_zero, List.set_cons_succ]
     refine wpAnyH_take (i := 14) (v := .bool false) rfl (by kernel_rfl) (by kernel_rfl) (by kernel_rfl) (fun _ _ _ h => h) (Or.inl ⟨by rfl, fun WW hW => by (skip; simp only [List.getElem_toArray, List.getElem_cons_zero, List.getElem_cons_succ]; go_simp)⟩) hH ?_
     simp only [List.getElem_toArray, List.getElem_cons_zero, List.getElem_cons_succ, Act.put, List.setIfInBounds_toArray, List.set_cons_zero, List.set_cons_succ]
     refine wpAnyH_take (i := 15) (v := .bool false) rfl (by kernel_rfl) (by kernel_rfl) (by kernel_rfl) (fun _ _ _ h => h) (Or.inl ⟨by rfl, fun WW hW => by (skip; simp only [List.getElem_toArray, List.getElem_cons_zero, List.getElem_cons_succ]; go_simp)⟩) hH ?_
     simp only [List.getElem_toArray, List.getElem_cons_zero, List.getElem_cons_succ, Act.put, List.setIfInBounds_toArray, List.set_cons_zero, List.set_cons_succ]
     refine wpAnyH_done (by kernel_rfl) ?_ _
     have hrow1 : W.ownsRow (w2.heap.size + 5) 45 11 (.slice (some ⟨g, 0, none⟩) (N + 1) c1) (N + 1) (es.flatMap evL) := by have h := HOW.out; rw [HEL.out] at h; exact h
     have HOW := hide hrow1
     have hrow := HOW.out
     have HNO := hide (show (Value.slice (some ⟨g, 0, none⟩) (N + 1) c1).ownBlock ≠ some w2.heap.size from fun h => by have := (hrow.lt _ h).1; omega)
     have HNA := hide (show (Value.slice (some ⟨g, 0, none⟩) (N + 1) c1).ownBlock ≠ some (w2.heap.size + 1) from fun h => by have := (hrow.lt _ h).1; omega)
     have HNN := hide (show (Value.slice (some ⟨g, 0, none⟩) (N + 1) c1).ownBlock ≠ some (w.heap.size + 1) from fun h => by have := (hrow.lt _ h).1; omega)
     have HNX := hide (qt0 hrow HX.out (by decide))
     have HOW2 := hide (fun X => (show (W.alloc X).drew.ownsRow (w2.heap.size + 5) 45 11 (.slice (some ⟨g, 0, none⟩) (N + 1) c1) (N + 1) ((es).flatMap evL) from (hrow.alloc X).drew))
     have hx11 := (qel (qf (show W.heap[x]? = _ from HX.out) |> fun h => qh3 (cs := e.cells.toList) (ds := [.int .i64 (mm : Int)]) h))
     obtain ⟨v0, v1, v2, v3, v4, v5, v6, v7, v8, v9, v10⟩ := hx11
     have n1 : x ≠ w2.heap.size := by omega
     have n2 : x ≠ w2.heap.size + 1 := by omega
     have n3 : w.heap.size + 1 ≠ w2.heap.size := by omega
     have n4 : w.heap.size + 1 ≠ w2.heap.size + 1 := by omega
     have n1' : ¬ w2.heap.size = x := by omega
     have n2' : ¬ w2.heap.size + 1 = x := by omega
     have n3' : ¬ w2.heap.size = w.heap.size + 1 := by omega
     have n4' : ¬ w2.heap.size = w.heap.size := by omega
     have HPU := hide (show ∀ A2 c2 w1, w1.ownsRow (w2.heap.size + 5) 45 11 (.slice A2 ((N + 1) + 1) c2) ((N + 1) + 1) ((es).flatMap evL ++ evL e) → (W.alloc (.cells #[.int .i64 e.seq, .int .i64 e.time, .int .u8 (e.cpu : Int), .int .u8 (e.kind : Int), .int .i64 e.task, .int .i64 e.group, .int .i64 e.to, .int .i64 e.weight, .int .i64 e.ticks, .int .u64 (e.mask : Int), .int .i64 e.got] 45)).drew.grownBy w1 (Value.slice (some ⟨g, 0, none⟩) (N + 1) c1).ownBlock → ((Value.slice A2 ((N + 1) + 1) c2).ownBlock = (Value.slice (some ⟨g, 0, none⟩) (N + 1) c1).ownBlock ∨ (Value.slice A2 ((N + 1) + 1) c2).ownBlock = some (W.alloc (.cells #[.int .i64 e.seq, .int .i64 e.time, .int .u8 (e.cpu : Int), .int .u8 (e.kind : Int), .int .i64 e.task, .int .i64 e.group, .int .i64 e.to, .int .i64 e.weight, .int .i64 e.ticks, .int .u64 (e.mask : Int), .int .i64 e.got] 45)).drew.heap.size) → ReadAt w w2.heap.size m ((es) ++ [e]) (a + mm) ((w1.setCell ⟨w2.heap.size, 0, none⟩ (.slice A2 ((N + 1) + 1) c2)).setCell ⟨w2.heap.size + 1, 0, none⟩ (.int .i64 ((a : Int) + (mm : Int)))) (.slice A2 ((N + 1) + 1) c2) ∧ ChgT (ReadT w w2.heap.size) W ((w1.setCell ⟨w2.heap.size, 0, none⟩ (.slice A2 ((N + 1) + 1) c2)).setCell ⟨w2.heap.size + 1, 0, none⟩ (.int .i64 ((a : Int) + (mm : Int)))) from fun A2 c2 w1 a1 a2 a3 => by
      have h := HRA.out.push (e := e) (mm := mm) (A' := A2) (c' := c2) ((Chg.refl [] W).alloc (.cells #[.int .i64 e.seq, .int .i64 e.time, .int .u8 (e.cpu : Int), .int .u8 (e.kind : Int), .int .i64 e.task, .int .i64 e.group, .int .i64 e.to, .int .i64 e.weight, .int .i64 e.ticks, .int .u64 (e.mask : Int), .int .i64 e.got] 45)).drew a2 (by rw [HEL.out]; exact a1) (by rw [HEL.out]; exact a3)
      unfold pushW at h
      rw [Int.natCast_add, HEL.out] at h
      exact h)
     have hpush := HPU.out
     have HSAID := hide (show qw cpu m b none l = joinE (es ++ [e]) (a + mm) (qw cpu (m - (k + 1)) e.at (some e) (lk.drop mm)) by rw [HSP.out]; exact qfm HQT.out (by simp [HSQ.out]) es a)
     by_cases hend : k + 1 = m
     ·have hEB : ((((N : Int) + 1 + 1) : Int) == (m : Int)) = true := by rw [beq_iff_eq]; omega
      have HEND := hide hend
      clear hend
      gi_wp2_with (gi_at_builtin; refine qde rfl rfl ei_ev (HOW2.out _) rfl (Rd.block W (evL e) _ 11 rfl) rfl (qaf e) (by omega) (by omega) (by show w2.heap.size + 5 ≤ (W.alloc _).heap.size; simp; omega) ?_; intro A2 c2 w1 hown1 hgr1 hbl1; obtain ⟨hc1, hf1⟩ := HRA.out.out.later ((Chg.refl [] W).alloc (.cells #[.int .i64 e.seq, .int .i64 e.time, .int .u8 (e.cpu : Int), .int .u8 (e.kind : Int), .int .i64 e.task, .int .i64 e.group, .int .i64 e.to, .int .i64 e.weight, .int .i64 e.ticks, .int .u64 (e.mask : Int), .int .i64 e.got] 45)).drew hgr1 HNO.out; have hA1 := qaj hgr1 HRA.out.at' HNA.out; have hN1 := qaj hgr1 HRA.out.num HNN.out; have hX1 := qaj hgr1 HX.out HNX.out; have u0 : w1.cell? ⟨w2.heap.size + 1, 0, none⟩ = some (.int .i64 (a : Int)) := by { simp [World.cell?, hA1] }; have u1 : ∀ i, w1.frozen? ⟨w2.heap.size + 1, i, none⟩ = false := fun i => by { simp [World.frozen?, hA1] }; have u2 : w1.cell? ⟨w.heap.size + 1, 0, none⟩ = some (.int .i64 (m : Int)) := by { simp [World.cell?, hN1] }; have u3 : w1.cell? ⟨x, 11, none⟩ = some (.int .i64 (mm : Int)) := by { simp [World.cell?, hX1, tk] }; have HU := hide (And.intro hA1 (And.intro hN1 hX1)); clear hA1 hN1 hX1)
      have hp := hpush A2 c2 w1 hown1 hgr1 hbl1
      exact ⟨hp.2, ⟨_, _, _, hp.1, by omega, by rw [HSAID.out, show m - (k + 1) = 0 by have := HEND.out; omega]; unfold joinE; simp [qw]⟩, fun W4 hk4 => hp.1.tkeep hk4 hsS⟩
     ·have hEB : ((((N : Int) + 1 + 1) : Int) == (m : Int)) = false := by rw [beq_eq_false_iff_ne]; omega
      gi_wp2_with (gi_at_builtin; refine qde rfl rfl ei_ev (HOW2.out _) rfl (Rd.block W (evL e) _ 11 rfl) rfl (qaf e) (by omega) (by omega) (by show w2.heap.size + 5 ≤ (W.alloc _).heap.size; simp; omega) ?_; intro A2 c2 w1 hown1 hgr1 hbl1; obtain ⟨hc1, hf1⟩ := HRA.out.out.later ((Chg.refl [] W).alloc (.cells #[.int .i64 e.seq, .int .i64 e.time, .int .u8 (e.cpu : Int), .int .u8 (e.kind : Int), .int .i64 e.task, .int .i64 e.group, .int .i64 e.to, .int .i64 e.weight, .int .i64 e.ticks, .int .u64 (e.mask : Int), .int .i64 e.got] 45)).drew hgr1 HNO.out; have hA1 := qaj hgr1 HRA.out.at' HNA.out; have hN1 := qaj hgr1 HRA.out.num HNN.out; have hX1 := qaj hgr1 HX.out HNX.out; have u0 : w1.cell? ⟨w2.heap.size + 1, 0, none⟩ = some (.int .i64 (a : Int)) := by { simp [World.cell?, hA1] }; have u1 : ∀ i, w1.frozen? ⟨w2.heap.size + 1, i, none⟩ = false := fun i => by { simp [World.frozen?, hA1] }; have u2 : w1.cell? ⟨w.heap.size + 1, 0, none⟩ = some (.int .i64 (m : Int)) := by { simp [World.cell?, hN1] }; have u3 : w1.cell? ⟨x, 11, none⟩ = some (.int .i64 (mm : Int)) := by { simp [World.cell?, hX1, tk] }; have HU := hide (And.intro hA1 (And.intro hN1 hX1)); clear hA1 hN1 hX1)
      have hp := hpush A2 c2 w1 hown1 hgr1 hbl1
      obtain ⟨f', rfl⟩ : ∃ f', f = f' + 1 := ⟨f - 1, by have := htl.2 trivial; omega⟩
      exact ⟨hp.2, _, _, f', e.at, lk.drop mm, _, by rw [List.length_append, HEL.out]; simp; omega, hp.1, by rw [HDR.out]; rfl, by rw [List.length_drop]; have := htl.2 trivial; omega, by rw [List.length_drop]; have := htl.2 trivial; omega, by omega, by rw [List.length_drop]; omega, by rw [HSAID.out]; simp⟩
  ·have hne : ((er : Int) != 0) = true := by rw [bne_iff_ne]; omega
   have HBD := hide hbad
   clear hbad
   gi_wp2
   have h := HRA.out.ret (S := [w2.heap.size + 1 + 1, w2.heap.size + 1 + 1 + 1 + 1]) (B := W3.heap.size) (b := b) (l := l) (er := er) (m := m) (cpu := cpu) (by rw [HSP.out]; exact qj5 HQT.out HBD.out es a)
   exact ⟨h.1, ⟨er, h.2.1⟩, fun W4 hk4 => h.2.2 W4 hk4 hsS⟩
 case hdone =>
  rintro D W hD ⟨es, a, f, bk, lk, v, h1, h2, h3, _⟩ hK
  exfalso
  rw [List.drop_eq_nil_of_le (by simp)] at h3
  rw [qcz] at h3
  cases h3
 case hstop =>
  rintro D c' k W hD hk0 hk hj hK
  unfold qm2 at hj
  split at hj
  ·obtain ⟨es, a, v, hra', hal, hsaid⟩ := hj
   have HOW := hide hra'.out.row
   obtain ⟨A1, c1, rfl⟩ := qax HOW.out
   have hWz := hra'.size
   have o0 := hra'.out.cell
   have o1 : W.cell? ⟨w2.heap.size + 1, 0, none⟩ = some (.int .i64 (a : Int)) := by simp [World.cell?, hra'.at']
   have r8c : W.cell? ⟨w.heap.size + 1 + 1, 0, none⟩ = some (.slice none 0 0) := by simp [World.cell?, hra'.r8]
   have r9c : W.cell? ⟨w.heap.size + 1 + 1 + 1, 0, none⟩ = some (.int .i64 0) := by simp [World.cell?, hra'.r9]
   have r10c : W.cell? ⟨w.heap.size + 1 + 1 + 1 + 1, 0, none⟩ = some (.int .i64 0) := by simp [World.cell?, hra'.r10]
   have r8f : ∀ i, W.frozen? ⟨w.heap.size + 1 + 1, i, none⟩ = false := fun i => by simp [World.frozen?, hra'.r8]
   have r9f : ∀ i, W.frozen? ⟨w.heap.size + 1 + 1 + 1, i, none⟩ = false := fun i => by simp [World.frozen?, hra'.r9]
   have r10f : ∀ i, W.frozen? ⟨w.heap.size + 1 + 1 + 1 + 1, i, none⟩ = false := fun i => by simp [World.frozen?, hra'.r10]
   have HRA := hide hra'
   have HSD := hide hsaid
   have HKD := hide hK
   clear hra' hsaid hrc hra hK
   have f00 := @qa5 (w.heap.size + 1 + 1) ⟨w2.heap.size, 0, none⟩ (by show w2.heap.size ≠ w.heap.size + 1 + 1; omega)
   have f01 := @qa5 (w.heap.size + 1 + 1 + 1) ⟨w2.heap.size, 0, none⟩ (by show w2.heap.size ≠ w.heap.size + 1 + 1 + 1; omega)
   have f02 := @qa5 (w.heap.size + 1 + 1 + 1 + 1) ⟨w2.heap.size, 0, none⟩ (by show w2.heap.size ≠ w.heap.size + 1 + 1 + 1 + 1; omega)
   have f10 := @qa5 (w.heap.size + 1 + 1) ⟨w2.heap.size + 1, 0, none⟩ (by show w2.heap.size + 1 ≠ w.heap.size + 1 + 1; omega)
   have f11 := @qa5 (w.heap.size + 1 + 1 + 1) ⟨w2.heap.size + 1, 0, none⟩ (by show w2.heap.size + 1 ≠ w.heap.size + 1 + 1 + 1; omega)
   have f12 := @qa5 (w.heap.size + 1 + 1 + 1 + 1) ⟨w2.heap.size + 1, 0, none⟩ (by show w2.heap.size + 1 ≠ w.heap.size + 1 + 1 + 1 + 1; omega)
   have HF := hide (And.intro f00 (And.intro f01 (And.intro f02 (And.intro f10 (And.intro f11 f12)))))
   clear f00 f01 f02 f10 f11 f12
   gi_wp2
   refine wpIn_wide.2 ?_
   go_region_held3 (fun w' => w'.cell? ⟨w2.heap.size, 0, none⟩ = some (.slice A1 es.length c1) ∧ w'.cell? ⟨w2.heap.size + 1, 0, none⟩ = some (.int .i64 (a : Int)))
    ((obtain ⟨f00, f01, f02, f10, f11, f12⟩ := HF.out; (try simp only [World.cell?_drew, f00, f01, f02, f10, f11, f12]); exact ⟨o0, o1⟩))
    (fail)
   gi_wp2
   obtain ⟨Wf, hWf⟩ : ∃ Wf, Wf = (((W.setCell ⟨w.heap.size + 1 + 1, 0, none⟩ (.slice A1 es.length c1)).setCell ⟨w.heap.size + 1 + 1 + 1, 0, none⟩ (.int .i64 (a : Int))).setCell ⟨w.heap.size + 1 + 1 + 1 + 1, 0, none⟩ (.int .i64 0)).drew := ⟨_, rfl⟩
   rw [← hWf]
   have hDD : W3.heap.size ≤ D := hD
   have hKf : Wf.heap[D]? = some (.deferred (some [])) := by
    rw [hWf]
    show (((W.setCell _ _).setCell _ _).setCell _ _).heap[D]? = _
    rw [qi (by omega), qi (by omega), qi (by omega)]; exact HKD.out
   have e8 : Wf.heap[w.heap.size + 1 + 1]? = some (.cells #[.slice A1 es.length c1] 39 (0, 0)) := by
    rw [hWf]
    show (((W.setCell _ _).setCell _ _).setCell _ _).heap[w.heap.size + 1 + 1]? = _
    rw [qi (by omega), qi (by omega)]; exact qm HRA.out.r8 _
   have e9 : Wf.heap[w.heap.size + 1 + 1 + 1]? = some (.cells #[.int .i64 (a : Int)] 3 (0, 0)) := by
    rw [hWf]
    show (((W.setCell _ _).setCell _ _).setCell _ _).heap[w.heap.size + 1 + 1 + 1]? = _
    rw [qi (by omega)]; exact qm (by rw [qi (by omega)]; exact HRA.out.r9) _
   have e10 : Wf.heap[w.heap.size + 1 + 1 + 1 + 1]? = some (.cells #[.int .i64 0] 36 (0, 0)) := by
    rw [hWf]
    show (((W.setCell _ _).setCell _ _).setCell _ _).heap[w.heap.size + 1 + 1 + 1 + 1]? = _
    exact qm (by rw [qi (by omega), qi (by omega)]; exact HRA.out.r10) _
   have hBf : Below w.heap.size w Wf := by
    rw [hWf]
    exact (za (za (za HRA.out.below (by omega) _) (by omega) _) (by omega) _).drew
   have hOf : Wf.ownsRow (w2.heap.size + 5) 45 11 (.slice A1 es.length c1) es.length (es.flatMap evL) := by
    rw [hWf]
    exact (qbc (qbc (qbc HOW.out (p := ⟨w.heap.size + 1 + 1, 0, none⟩) (by show w.heap.size + 1 + 1 < _; omega) _) (p := ⟨w.heap.size + 1 + 1 + 1, 0, none⟩) (by show w.heap.size + 1 + 1 + 1 < _; omega) _) (p := ⟨w.heap.size + 1 + 1 + 1 + 1, 0, none⟩) (by show w.heap.size + 1 + 1 + 1 + 1 < _; omega) _).drew
   have hkp : Keep W3.heap.size [] Wf (Wf.putObj D (.deferred none)) := Keep.putObj Wf _ hKf rfl hD
   have h8 := hkp.obj _ _ e8 rfl (by simp)
   have h9 := hkp.obj _ _ e9 rfl (by simp)
   have h10 := hkp.obj _ _ e10 rfl (by simp)
   refine ⟨by simp, .inl ⟨_, _, rfl, run_takeDeferred hKf, ?_⟩⟩
   refine ⟨_, qcp (b1 := w.heap.size + 1 + 1) (b2 := w.heap.size + 1 + 1 + 1) (b3 := w.heap.size + 1 + 1 + 1 + 1) (x1 := .slice A1 es.length c1) (x2 := .int .i64 (a : Int)) (x3 := .int .i64 0) rfl rfl rfl rfl (by kernel_rfl) (by kernel_rfl) (by kernel_rfl) (by simp [World.cell?, h8]) (by simp [World.cell?, h9]) (by simp [World.cell?, h10]), ?_⟩
   rw [HSD.out]
   exact ⟨⟨_, rfl, qdv (hkp.ownsRow hOf (by simp)) (by omega)⟩, hBf.trans (hkp.below (by omega) (by simp))⟩
  ·obtain ⟨er, hre⟩ := hj
   have HKD := hide hK
   have HRE := hide hre
   clear hre hrc hra hK
   gi_wp2
   have hkp : Keep W3.heap.size [] W (W.putObj D (.deferred none)) := Keep.putObj W _ HKD.out rfl hD
   have h8 := hkp.obj _ _ HRE.out.r8 rfl (by simp)
   have h9 := hkp.obj _ _ HRE.out.r9 rfl (by simp)
   have h10 := hkp.obj _ _ HRE.out.r10 rfl (by simp)
   refine ⟨by simp, .inl ⟨_, _, rfl, run_takeDeferred HKD.out, ?_⟩⟩
   refine ⟨_, qcp (b1 := w.heap.size + 1 + 1) (b2 := w.heap.size + 1 + 1 + 1) (b3 := w.heap.size + 1 + 1 + 1 + 1) (x1 := .slice none 0 0) (x2 := .int .i64 0) (x3 := .int .i64 (er : Int)) rfl rfl rfl rfl (by kernel_rfl) (by kernel_rfl) (by kernel_rfl) (by simp [World.cell?, h8]) (by simp [World.cell?, h9]) (by simp [World.cell?, h10]), ?_⟩
   rw [HRE.out.said]
   exact ⟨⟨_, rfl, World.ownsRow_nil _ _ _ _⟩, HRE.out.below.trans (hkp.below (by omega) (by simp))⟩
  ·exact hj.elim
end Go.Proofs.YtfeheccoijnbaaaDoor
namespace Go.Proofs.YtfeheccoijnbaaaDoor
open Go.RowKit Go.Shelf
attribute [local go_sem] Oper.semAt_some
set_option maxRecDepth 100000 in
set_option maxHeartbeats 2000000 in
theorem qi9 (b : Bs) (cpu : Nat) (A : Option Addr) (n c : Nat) (m : Int) (w : World) (er : Nat)
  (hm : (m < 0 ∧ er = 2) ∨ (0 ≤ m ∧ b.right = false ∧ er = 70) ∨ (m = 0 ∧ b.right = true ∧ er = 0)) :
  Calls Tryd.prog 84 #[.agg b.cells, .int .u8 (cpu : Int), .int .i64 m, .slice A n c] w (ReadPost w ([], 0, er)) := by
 have HR := hide (fun W => qav b W)
 have HB2 := hide (qai b)
 obtain ⟨W0, hW0⟩ : ∃ W0, W0 = ((((w.alloc (.cells b.cells 26)).alloc (.cells #[.int .i64 m] 3)).alloc (.cells #[.slice none 0 0] 39)).alloc (.cells #[.int .i64 0] 3)).alloc (.cells #[.int .i64 0] 36) := ⟨_, rfl⟩
 have hs0 : W0.heap.size = w.heap.size + 5 := by rw [hW0]; simp
 have hb0 : Below w.heap.size w W0 := by rw [hW0]; exact (((((Below.refl _ _).alloc (Nat.le_refl _) _).alloc (by simp) _).alloc (by simp; omega) _).alloc (by simp; omega) _).alloc (by simp; omega) _
 have hx0 : W0.heap[w.heap.size]? = some (.cells b.cells 26) := by
  rw [hW0, Below.heap_alloc _ _ _ (by simp <;> omega), Below.heap_alloc _ _ _ (by simp <;> omega), Below.heap_alloc _ _ _ (by simp <;> omega), Below.heap_alloc _ _ _ (by simp)]; exact World.alloc_heap_new w _
 have hx1 : W0.heap[w.heap.size + 1]? = some (.cells #[.int .i64 m] 3) := by
  rw [hW0, Below.heap_alloc _ _ _ (by simp <;> omega), Below.heap_alloc _ _ _ (by simp <;> omega), Below.heap_alloc _ _ _ (by simp)]
  have := World.alloc_heap_new (w.alloc (.cells b.cells 26)) (.cells #[.int .i64 m] 3); rwa [World.size_alloc] at this
 have hx2 : W0.heap[w.heap.size + 1 + 1]? = some (.cells #[.slice none 0 0] 39) := by
  rw [hW0, Below.heap_alloc _ _ _ (by simp <;> omega), Below.heap_alloc _ _ _ (by simp)]
  have := World.alloc_heap_new ((w.alloc (.cells b.cells 26)).alloc (.cells #[.int .i64 m] 3)) (.cells #[.slice none 0 0] 39); simpa only [World.size_alloc] using this
 have hx3 : W0.heap[w.heap.size + 1 + 1 + 1]? = some (.cells #[.int .i64 0] 3) := by
  rw [hW0, Below.heap_alloc _ _ _ (by simp)]
  have := World.alloc_heap_new (((w.alloc (.cells b.cells 26)).alloc (.cells #[.int .i64 m] 3)).alloc (.cells #[.slice none 0 0] 39)) (.cells #[.int .i64 0] 3); simpa only [World.size_alloc] using this
 have hx4 : W0.heap[w.heap.size + 1 + 1 + 1 + 1]? = some (.cells #[.int .i64 0] 36) := by
  rw [hW0]
  have := World.alloc_heap_new ((((w.alloc (.cells b.cells 26)).alloc (.cells #[.int .i64 m] 3)).alloc (.cells #[.slice none 0 0] 39)).alloc (.cells #[.int .i64 0] 3)) (.cells #[.int .i64 0] 36); simpa only [World.size_alloc] using this
 have HD0 := hide (qf hx0)
 have k1 : W0.cell? ⟨w.heap.size + 1, 0, none⟩ = some (.int .i64 m) := by simp [World.cell?, hx1]
 have HX := hide (And.intro hx1 (And.intro hx2 (And.intro hx3 hx4)))
 have hsz : w.heap.size + 5 ≤ W0.heap.size := by omega
 clear hx0 hx1 hx2 hx3 hx4 hs0
 generalize b.cells = ds at *
 rcases hm with ⟨hm, rfl⟩ | ⟨hm, hR, rfl⟩ | ⟨rfl, hR, rfl⟩
 ·have hmn : decide (m < 0) = true := by rw [decide_eq_true_eq]; exact hm
  clear hm
  obtain ⟨h1, h2, h3, h4⟩ := HX.out
  have HX2 := hide (And.intro h2 (And.intro h3 h4))
  have r8 : W0.cell? ⟨w.heap.size + 1 + 1, 0, none⟩ = some (.slice none 0 0) := (by simp [World.cell?, h2])
  have r9 : W0.cell? ⟨w.heap.size + 1 + 1 + 1, 0, none⟩ = some (.int .i64 0) := (by simp [World.cell?, h3])
  have r10 : W0.cell? ⟨w.heap.size + 1 + 1 + 1 + 1, 0, none⟩ = some (.int .i64 0) := (by simp [World.cell?, h4])
  have f8 : ∀ i, W0.frozen? ⟨w.heap.size + 1 + 1, i, none⟩ = false := fun i => (by simp [World.frozen?, h2])
  have f9 : ∀ i, W0.frozen? ⟨w.heap.size + 1 + 1 + 1, i, none⟩ = false := fun i => (by simp [World.frozen?, h3])
  have f10 : ∀ i, W0.frozen? ⟨w.heap.size + 1 + 1 + 1 + 1, i, none⟩ = false := fun i => (by simp [World.frozen?, h4])
  clear h1 h2 h3 h4
  refine callsIn_wide.1 (callsIn_of_wp_marks (n := 0) Tryd.func84 rfl trivial ?_ rfl)
  simp only [Tryd.ntmps84, List.size_toArray, List.length_cons, List.length_nil, Nat.reduceAdd, Nat.reduceSub, Array.replicate_succ, Array.replicate_zero, List.push_toArray, List.append_toArray, List.nil_append, List.cons_append]
  gi_wp2_with (rw [← hW0]; clear hW0)
  have e8 : (((W0.setCell ⟨w.heap.size + 1 + 1, 0, none⟩ (.slice none 0 0)).setCell ⟨w.heap.size + 1 + 1 + 1, 0, none⟩ (.int .i64 0)).setCell ⟨w.heap.size + 1 + 1 + 1 + 1, 0, none⟩ (.int .i64 2)).heap[w.heap.size + 1 + 1]? = some (.cells #[.slice none 0 0] 39 (0, 0)) := by
   rw [qi (by omega), qi (by omega)]; exact qm HX2.out.1 _
  have e9 : (((W0.setCell ⟨w.heap.size + 1 + 1, 0, none⟩ (.slice none 0 0)).setCell ⟨w.heap.size + 1 + 1 + 1, 0, none⟩ (.int .i64 0)).setCell ⟨w.heap.size + 1 + 1 + 1 + 1, 0, none⟩ (.int .i64 2)).heap[w.heap.size + 1 + 1 + 1]? = some (.cells #[.int .i64 0] 3 (0, 0)) := by
   rw [qi (by omega)]; exact qm (by rw [qi (by omega)]; exact HX2.out.2.1) _
  have e10 : (((W0.setCell ⟨w.heap.size + 1 + 1, 0, none⟩ (.slice none 0 0)).setCell ⟨w.heap.size + 1 + 1 + 1, 0, none⟩ (.int .i64 0)).setCell ⟨w.heap.size + 1 + 1 + 1 + 1, 0, none⟩ (.int .i64 2)).heap[w.heap.size + 1 + 1 + 1 + 1]? = some (.cells #[.int .i64 2] 36 (0, 0)) := by
   exact qm (by rw [qi (by omega), qi (by omega)]; exact HX2.out.2.2) _
  refine ⟨_, qcp (b1 := w.heap.size + 1 + 1) (b2 := w.heap.size + 1 + 1 + 1) (b3 := w.heap.size + 1 + 1 + 1 + 1) (x1 := .slice none 0 0) (x2 := .int .i64 0) (x3 := .int .i64 2) rfl rfl rfl rfl (by kernel_rfl) (by kernel_rfl) (by kernel_rfl) (by simp only [World.cell?, e8]; rfl) (by simp only [World.cell?, e9]; rfl) (by simp only [World.cell?, e10]; rfl), ?_⟩
  exact ⟨⟨_, rfl, World.ownsRow_nil _ _ _ _⟩, za (za (za (hb0) (by omega) _) (by omega) _) (by omega) _⟩
 ·have hmn : decide (m < 0) = false := by rw [decide_eq_false_iff_not]; omega
  clear hm
  rw [hR] at HR
  clear hR
  refine callsIn_wide.1 (callsIn_of_wp_marks (n := 0) Tryd.func84 rfl trivial ?_ rfl)
  simp only [Tryd.ntmps84, List.size_toArray, List.length_cons, List.length_nil, Nat.reduceAdd, Nat.reduceSub, Array.replicate_succ, Array.replicate_zero, List.push_toArray, List.append_toArray, List.nil_append, List.cons_append]
  gi_wp2_with (first
   | (rw [← hW0]; clear hW0)
   | (with_reducible refine qi3 HD0.out rfl rfl rfl si_bs HB2.out ?_)
   | (refine ⟨trivial, rfl, ?_⟩; refine (callsIn_wide.2 (HR.out _)).mono ?_; rintro r w2 ⟨rfl, hb2⟩; obtain ⟨h1, h2, h3, h4⟩ := HX.out; have k2 := (hb2.cell (p := ⟨w.heap.size + 1, 0, none⟩) (by show w.heap.size + 1 < _; omega)).trans k1; replace h2 := (hb2.block _ (by omega)).trans h2; replace h3 := (hb2.block _ (by omega)).trans h3; replace h4 := (hb2.block _ (by omega)).trans h4; have HX2 := hide (And.intro h2 (And.intro h3 h4)); have r8 : w2.cell? ⟨w.heap.size + 1 + 1, 0, none⟩ = some (.slice none 0 0) := (by simp [World.cell?, h2]); have r9 : w2.cell? ⟨w.heap.size + 1 + 1 + 1, 0, none⟩ = some (.int .i64 0) := (by simp [World.cell?, h3]); have r10 : w2.cell? ⟨w.heap.size + 1 + 1 + 1 + 1, 0, none⟩ = some (.int .i64 0) := (by simp [World.cell?, h4]); have f8 : ∀ i, w2.frozen? ⟨w.heap.size + 1 + 1, i, none⟩ = false := fun i => (by simp [World.frozen?, h2]); have f9 : ∀ i, w2.frozen? ⟨w.heap.size + 1 + 1 + 1, i, none⟩ = false := fun i => (by simp [World.frozen?, h3]); have f10 : ∀ i, w2.frozen? ⟨w.heap.size + 1 + 1 + 1 + 1, i, none⟩ = false := fun i => (by simp [World.frozen?, h4]); clear h1 h2 h3 h4))
  have e8 : (((w2.setCell ⟨w.heap.size + 1 + 1, 0, none⟩ (.slice none 0 0)).setCell ⟨w.heap.size + 1 + 1 + 1, 0, none⟩ (.int .i64 0)).setCell ⟨w.heap.size + 1 + 1 + 1 + 1, 0, none⟩ (.int .i64 70)).heap[w.heap.size + 1 + 1]? = some (.cells #[.slice none 0 0] 39 (0, 0)) := by
   rw [qi (by omega), qi (by omega)]; exact qm HX2.out.1 _
  have e9 : (((w2.setCell ⟨w.heap.size + 1 + 1, 0, none⟩ (.slice none 0 0)).setCell ⟨w.heap.size + 1 + 1 + 1, 0, none⟩ (.int .i64 0)).setCell ⟨w.heap.size + 1 + 1 + 1 + 1, 0, none⟩ (.int .i64 70)).heap[w.heap.size + 1 + 1 + 1]? = some (.cells #[.int .i64 0] 3 (0, 0)) := by
   rw [qi (by omega)]; exact qm (by rw [qi (by omega)]; exact HX2.out.2.1) _
  have e10 : (((w2.setCell ⟨w.heap.size + 1 + 1, 0, none⟩ (.slice none 0 0)).setCell ⟨w.heap.size + 1 + 1 + 1, 0, none⟩ (.int .i64 0)).setCell ⟨w.heap.size + 1 + 1 + 1 + 1, 0, none⟩ (.int .i64 70)).heap[w.heap.size + 1 + 1 + 1 + 1]? = some (.cells #[.int .i64 70] 36 (0, 0)) := by
   exact qm (by rw [qi (by omega), qi (by omega)]; exact HX2.out.2.2) _
  refine ⟨_, qcp (b1 := w.heap.size + 1 + 1) (b2 := w.heap.size + 1 + 1 + 1) (b3 := w.heap.size + 1 + 1 + 1 + 1) (x1 := .slice none 0 0) (x2 := .int .i64 0) (x3 := .int .i64 70) rfl rfl rfl rfl (by kernel_rfl) (by kernel_rfl) (by kernel_rfl) (by simp only [World.cell?, e8]; rfl) (by simp only [World.cell?, e9]; rfl) (by simp only [World.cell?, e10]; rfl), ?_⟩
  exact ⟨⟨_, rfl, World.ownsRow_nil _ _ _ _⟩, za (za (za (hb0.trans (hb2.mono (by omega))) (by omega) _) (by omega) _) (by omega) _⟩
 ·have hmn : decide ((0 : Int) < 0) = false := rfl
  rw [hR] at HR
  clear hR
  refine callsIn_wide.1 (callsIn_of_wp_marks (n := 0) Tryd.func84 rfl trivial ?_ rfl)
  simp only [Tryd.ntmps84, List.size_toArray, List.length_cons, List.length_nil, Nat.reduceAdd, Nat.reduceSub, Array.replicate_succ, Array.replicate_zero, List.push_toArray, List.append_toArray, List.nil_append, List.cons_append]
  gi_wp2_with (first
   | (rw [← hW0]; clear hW0)
   | (with_reducible refine qi3 HD0.out rfl rfl rfl si_bs HB2.out ?_)
   | (refine ⟨trivial, rfl, ?_⟩; refine (callsIn_wide.2 (HR.out _)).mono ?_; rintro r w2 ⟨rfl, hb2⟩; obtain ⟨h1, h2, h3, h4⟩ := HX.out; have k2 := (hb2.cell (p := ⟨w.heap.size + 1, 0, none⟩) (by show w.heap.size + 1 < _; omega)).trans k1; replace h2 := (hb2.block _ (by omega)).trans h2; replace h3 := (hb2.block _ (by omega)).trans h3; replace h4 := (hb2.block _ (by omega)).trans h4; have HX2 := hide (And.intro h2 (And.intro h3 h4)); have r8 : w2.cell? ⟨w.heap.size + 1 + 1, 0, none⟩ = some (.slice none 0 0) := (by simp [World.cell?, h2]); have r9 : w2.cell? ⟨w.heap.size + 1 + 1 + 1, 0, none⟩ = some (.int .i64 0) := (by simp [World.cell?, h3]); have r10 : w2.cell? ⟨w.heap.size + 1 + 1 + 1 + 1, 0, none⟩ = some (.int .i64 0) := (by simp [World.cell?, h4]); have f8 : ∀ i, w2.frozen? ⟨w.heap.size + 1 + 1, i, none⟩ = false := fun i => (by simp [World.frozen?, h2]); have f9 : ∀ i, w2.frozen? ⟨w.heap.size + 1 + 1 + 1, i, none⟩ = false := fun i => (by simp [World.frozen?, h3]); have f10 : ∀ i, w2.frozen? ⟨w.heap.size + 1 + 1 + 1 + 1, i, none⟩ = false := fun i => (by simp [World.frozen?, h4]); clear h1 h2 h3 h4))
  have e8 : (((w2.setCell ⟨w.heap.size + 1 + 1, 0, none⟩ (.slice none 0 0)).setCell ⟨w.heap.size + 1 + 1 + 1, 0, none⟩ (.int .i64 0)).setCell ⟨w.heap.size + 1 + 1 + 1 + 1, 0, none⟩ (.int .i64 0)).heap[w.heap.size + 1 + 1]? = some (.cells #[.slice none 0 0] 39 (0, 0)) := by
   rw [qi (by omega), qi (by omega)]; exact qm HX2.out.1 _
  have e9 : (((w2.setCell ⟨w.heap.size + 1 + 1, 0, none⟩ (.slice none 0 0)).setCell ⟨w.heap.size + 1 + 1 + 1, 0, none⟩ (.int .i64 0)).setCell ⟨w.heap.size + 1 + 1 + 1 + 1, 0, none⟩ (.int .i64 0)).heap[w.heap.size + 1 + 1 + 1]? = some (.cells #[.int .i64 0] 3 (0, 0)) := by
   rw [qi (by omega)]; exact qm (by rw [qi (by omega)]; exact HX2.out.2.1) _
  have e10 : (((w2.setCell ⟨w.heap.size + 1 + 1, 0, none⟩ (.slice none 0 0)).setCell ⟨w.heap.size + 1 + 1 + 1, 0, none⟩ (.int .i64 0)).setCell ⟨w.heap.size + 1 + 1 + 1 + 1, 0, none⟩ (.int .i64 0)).heap[w.heap.size + 1 + 1 + 1 + 1]? = some (.cells #[.int .i64 0] 36 (0, 0)) := by
   exact qm (by rw [qi (by omega), qi (by omega)]; exact HX2.out.2.2) _
  refine ⟨_, qcp (b1 := w.heap.size + 1 + 1) (b2 := w.heap.size + 1 + 1 + 1) (b3 := w.heap.size + 1 + 1 + 1 + 1) (x1 := .slice none 0 0) (x2 := .int .i64 0) (x3 := .int .i64 0) rfl rfl rfl rfl (by kernel_rfl) (by kernel_rfl) (by kernel_rfl) (by simp only [World.cell?, e8]; rfl) (by simp only [World.cell?, e9]; rfl) (by simp only [World.cell?, e10]; rfl), ?_⟩
  exact ⟨⟨_, rfl, World.ownsRow_nil _ _ _ _⟩, za (za (za (hb0.trans (hb2.mono (by omega))) (by omega) _) (by omega) _) (by omega) _⟩
def qp1 (m : Int) (l : List Nat) : Prop := m ≤ 1000000000000 ∨ l.length ≤ 1000000000000
theorem qp2 (b : Bs) (cpu : Nat) (hcpu : cpu < 256) (A : Option Addr) (n c : Nat) (m : Int) (hm : I64 m) (l : List Nat) (B : Nat) (w : World) (hL : Laid B w) (hB : B ≤ w.heap.size) (hr : Rd w w.heap.size 1 A n (l.map B8)) (hc : n ≤ c) (hl : ∀ b ∈ l, b < 256) (hn : n ≤ 200000000000000) (hlim : qp1 m l) :
  Calls Tryd.prog 84 #[.agg b.cells, .int .u8 (cpu : Int), .int .i64 m, .slice A n c] w (ReadPost w (readR b cpu m l)) := by
 unfold readR
 by_cases h1 : m < 0
 ·rw [if_pos h1]; exact qi9 b cpu A n c m w 2 (.inl ⟨h1, rfl⟩)
 ·rw [if_neg h1]
  cases hR : b.right with
  | false => rw [if_pos rfl]; exact qi9 b cpu A n c m w 70 (.inr (.inl ⟨by omega, hR, rfl⟩))
  | true =>
   rw [if_neg (by simp)]
   by_cases h0 : m = 0
   ·subst h0; exact qi9 b cpu A n c 0 w 0 (.inr (.inr ⟨rfl, hR, rfl⟩))
   ·obtain ⟨k, rfl⟩ : ∃ k : Nat, m = (k : Int) := ⟨m.toNat, by omega⟩
    rw [Int.toNat_natCast]
    refine qp0 b cpu hcpu A n c k l B w hL hB hr hc hl hn hR (by omega) (by have := hm.2; omega) ?_
    rcases hlim with h | h
    ·exact .inl (by omega)
    ·exact .inr h
end Go.Proofs.YtfeheccoijnbaaaDoor
namespace Go.Proofs.YtfeheccoijnbaaaDoor
open Go.RowKit
def bstr (l : List Nat) : ByteArray := ⟨(l.map fun b => UInt8.ofNat b).toArray⟩
theorem qsr {P : Program} {ts tsl te : TypeId} (hs : P.underlying tsl = some (.slice te)) (he : P.underlying te = some (.int .u8)) (hd : P.underlying ts = some .string) {w : World} {B : Nat} {A : Option Addr} {n c : Nat} {l : List Nat} (hr : Rd w B 1 A n (l.map B8)) :
  (convert tsl ts (.slice A n c)).run P w = .ok (.string (bstr l)) w := by
 have hlen : l.length = n := by simpa using hr.len
 cases A with
 | none =>
  have hn : n = 0 := by
   rcases Nat.eq_zero_or_pos n with h | h
   ·exact h
   ·obtain ⟨ad, h1, _⟩ := hr.row h; cases h1
  have hl : l = [] := List.eq_nil_of_length_eq_zero (by omega)
  subst hl
  rw [run_convert_bytes_nil w tsl te hs he n c ts hd]
  rfl
 | some a =>
  have hcells : ∀ j u, (l.map B8)[j]? = some u → w.cell? (a.add j) = some u := by
   intro j u hu
   rcases Nat.eq_zero_or_pos n with h | h
   ·have : l = [] := List.eq_nil_of_length_eq_zero (by omega)
    subst this; simp at hu
   ·obtain ⟨ad, h1, _, h2⟩ := hr.row h
    injection h1 with h1; subst h1
    exact h2 j u hu
  have hl := run_loadCells_list (P := P) w a (l.map B8) hcells
  have e : l.map B8 = (l.map (fun b : Nat => (b : Int))).map (Value.int .u8) := by rw [List.map_map]; rfl
  rw [List.length_map, hlen, e] at hl
  rw [run_convert_bytes_string w tsl ts te _ n c hs he hd, run_bytesToString w a n c _ hl, foldl_push_bytes]
  simp [bstr, ByteArray.empty, ByteArray.emptyWithCapacity]
  rfl
theorem qus {w : World} {B : Nat} {A : Option Addr} {n c : Nat} {l : List Nat} (hr : Rd w B 1 A n (l.map B8)) : (convert 54 9 (.slice A n c)).run Tryd.prog w = .ok (.string (bstr l)) w :=
 qsr (te := 5) (by kernel_rfl) (by kernel_rfl) (by kernel_rfl) hr
end Go.Proofs.YtfeheccoijnbaaaDoor
namespace Go.Proofs.YtfeheccoijnbaaaDoor
open Go.RowKit Go.ChangeShapes Go.WideShapes
section
variable {H : Type} {enc : TypeId × Value → H} {P : Program}
theorem qeu (hl : laidOutB P = true) {W W' : World} (hb : Below W.heap.size W W') : ∀ {ts : List TypeId} {vs : List Value} {ds : List (DataW H)} {ps : List MemPlace},
  (ts.all fun t => P.readableRec t && decide (t < P.types.size)) = true → DataW.TrodAll enc P W 0 (fun _ => true) true ts vs ds ps → (∀ x ∈ ps, x.block < W.heap.size) →
  DataW.TrodAll enc P W' 0 (fun b => decide (b < W.heap.size)) true ts vs ds ps
 | [], vs, ds, ps, _, h, _ => by
  obtain ⟨rfl, rfl, rfl⟩ := trodAll_nil h
  rfl
 | t :: ts, vs, ds, ps, ht, h, hlt => by
  obtain ⟨v, vs', d, ds', p, q, rfl, rfl, rfl, h1, h2⟩ := trodAll_cons h
  simp only [List.all_cons, Bool.and_eq_true, decide_eq_true_eq] at ht
  exact ⟨p, q, Below.trod hl ht.1.1 ht.1.2 h1 hb (fun x hx => hlt x (List.mem_append_left _ hx)), qeu hl hb (by simpa using ht.2) h2 (fun x hx => hlt x (List.mem_append_right _ hx)), rfl⟩
theorem qp3 {f : Func} {s : ChangeSpec} {W W' : World} {args : Array Value} {ds gs : List (DataW H)} {before : List MemPlace} {tb : TypeId}
  (hl : laidOutB P = true) (hts : (f.params.toList.all fun t => P.readableRec t && decide (t < P.types.size)) = true)
  (hr : f.resultTypes = #[tb]) (hbt : P.underlying tb = some .bool) (hv : s.vars = [])
  (hW : DataW.Whole enc P f.params.toList s.vars false W args.toList ds gs before) (hs : s.fn H ds = { results := [.lit (.bool true)], args := ds }) (hb : Below W.heap.size W W') :
  s.post enc P f false true false false W args (.bool true) W' := by
 have hlt : ∀ x ∈ before, x.block < W.heap.size := fun p hp => hW.lt p hp
 have hW' := hW
 obtain ⟨p, q, hA, hV, e, hfz, hnd⟩ := hW
 rw [hv] at hV
 obtain ⟨rfl, rfl⟩ := trodVars_none hV
 rw [List.append_nil] at e
 subst e
 refine ⟨ds, [], before, [], before, [], hW', ?_, ?_, ?_, hb.frame _, fun h => by cases h⟩
 ·rw [List.append_nil, hs, hr]
  exact trodAll_mk1 (shut_bool hbt _)
 ·rw [List.append_nil, hs]
  exact qeu hl hb hts hA hlt
 ·rw [List.append_nil, hs, hv]
  rfl
end
theorem qp4 : Tryd.prog.underlying 3 = some (.int .i64) := by kernel_rfl
theorem qt1 : Tryd.prog.underlying 5 = some (.int .u8) := by kernel_rfl
section
variable {H : Type} {enc : TypeId × Value → H} {W : World} {b0 : Nat} {v : Value} {d : DataW H} {p : List MemPlace}
theorem qed {a : Int} (h : (Lit.int .i64 a).wf = true) : I64 a := by
 simpa [Lit.wf, IntKind.min, IntKind.max, IntKind.signed, IntKind.bits, I64] using h
theorem u8_wf {a : Int} (h : (Lit.int .u8 a).wf = true) : 0 ≤ a ∧ a ≤ 255 := by
 simpa [Lit.wf, IntKind.min, IntKind.max, IntKind.signed, IntKind.bits] using h
set_option maxRecDepth 100000 in
theorem qp5 (hval : Value.okWide Tryd.prog W .any b0 3 v) (h : DataW.Trod enc Tryd.prog W 0 (fun _ => true) true 3 v d p) : ∃ m : Int, v = .int .i64 m ∧ I64 m := by
 obtain ⟨m, rfl, _, _, wf⟩ := open_int qp4 hval h
 exact ⟨m, rfl, qed wf⟩
set_option maxRecDepth 100000 in
theorem qvy (hval : Value.okWide Tryd.prog W .any b0 5 v) (h : DataW.Trod enc Tryd.prog W 0 (fun _ => true) true 5 v d p) : ∃ m : Nat, v = .int .u8 (m : Int) ∧ m < 256 := by
 obtain ⟨m, rfl, _, _, wf⟩ := open_int qt1 hval h
 have := u8_wf wf
 exact ⟨m.toNat, by rw [Int.toNat_of_nonneg this.1], by omega⟩
end
end Go.Proofs.YtfeheccoijnbaaaDoor
namespace Go.Proofs.YtfeheccoijnbaaaDoor
open Go.RowKit Go.ChangeShapes Go.WideShapes Go.ChangeAt
def qgs (P : Program) (t : TypeId) (ks : List Go.IntKind) : Bool := match P.underlying t with
 | some (.struct fs) => decide (fs.size = ks.length) && decide (P.cellsOf t = ks.length) && (List.range ks.length).all fun i => match fs[i]?, ks[i]? with
  | some f, some k => decide (f.offset = i) && decide (P.cellsOf f.type = 1) && (match P.underlying f.type with | some (TypeDesc.int k') => decide (k' = k) | _ => false)
  | _, _ => false
 | _ => false
section
variable {H : Type} {enc : TypeId × Value → H} {P : Program} {W : World} {b0 : Nat} {sp : Nat → Bool} {held : Bool}
theorem qlv {t : TypeId} {ks : List Go.IntKind} (hf : qgs P t ks = true) {fuel : Nat} {cs : List Value} {x : DataW H × List MemPlace} (h : DataW.trod enc P W b0 sp held fuel t cs = some x) :
  cs.length = ks.length ∧ ∀ (i : Nat) (k : Go.IntKind), ks[i]? = some k → ∃ z : Int, cs[i]? = some (Value.int k z) ∧ (Lit.int k z).wf = true := by
 unfold qgs at hf
 split at hf
 ·rename_i fs hu
  simp only [Bool.and_eq_true, decide_eq_true_eq, List.all_eq_true, List.mem_range] at hf
  obtain ⟨⟨h1, h2⟩, h3⟩ := hf
  obtain ⟨xs, n, _, _, hl, hx, he⟩ := DataW.trod_struct hu h
  refine ⟨by omega, fun i k hk => ?_⟩
  have hi : i < ks.length := (List.getElem?_eq_some_iff.1 hk).1
  have h4 := h3 i hi
  rw [hk] at h4
  split at h4
  ·rename_i f k' hfi hk'
   cases hk'
   simp only [Bool.and_eq_true, decide_eq_true_eq] at h4
   obtain ⟨⟨ho, hc⟩, hty⟩ := h4
   split at hty
   ·rename_i k'' hu'
    simp only [decide_eq_true_eq] at hty
    subst hty
    have h5 := he i f hfi
    rw [ho, hc] at h5
    have hxi : i < xs.length := by omega
    rw [List.getElem?_eq_getElem hxi] at h5
    obtain ⟨z, hz, _, hw⟩ := DataW.trod_int hu' h5
    refine ⟨z, ?_, hw⟩
    have := congrArg (·[0]?) hz
    simpa [List.getElem?_take, List.getElem?_drop] using this
   ·cases hty
  ·cases h4
 ·cases hf
end
theorem qvz {a : Int} (h : (Lit.int .u64 a).wf = true) : 0 ≤ a ∧ a ≤ 18446744073709551615 := by
 simpa [Lit.wf, IntKind.min, IntKind.max, IntKind.signed, IntKind.bits] using h
theorem qut {α : Type} {l m : List α} (h1 : l.length = m.length) (h : ∀ i, i < m.length → l[i]? = m[i]?) : l = m := by
 refine List.ext_getElem? fun i => ?_
 by_cases hi : i < m.length
 ·exact h i hi
 ·rw [List.getElem?_eq_none (by omega), List.getElem?_eq_none (by omega)]
section
variable {H : Type} {enc : TypeId × Value → H} {W : World} {b0 : Nat} {v : Value} {d : DataW H} {p : List MemPlace}
end
section
variable {H : Type} {enc : TypeId × Value → H} {P : Program} {w : World} {base : Nat} {spare : Nat → Bool} {held : Bool}
end
section
variable {H : Type} {enc : TypeId × Value → H} {W : World} {b0 : Nat} {v : Value} {d : DataW H} {p : List MemPlace}
end
def qlw : List Go.IntKind := [.i64, .i64, .u8, .u8, .i64, .i64, .i64, .i64, .i64, .u64, .i64]
theorem qp6 {cs : List Value} (hl : cs.length = qlw.length) (h : ∀ (i : Nat) (k : Go.IntKind), qlw[i]? = some k → ∃ z : Int, cs[i]? = some (Value.int k z) ∧ (Lit.int k z).wf = true) : ∃ x : Ev, evL x = cs ∧ x.Ok := by
 obtain ⟨z0, h0, w0⟩ := h 0 .i64 rfl
 have w0 := qed w0
 obtain ⟨z1, h1, w1⟩ := h 1 .i64 rfl
 have w1 := qed w1
 obtain ⟨z2, h2, w2⟩ := h 2 .u8 rfl
 have w2 := u8_wf w2
 obtain ⟨z3, h3, w3⟩ := h 3 .u8 rfl
 have w3 := u8_wf w3
 obtain ⟨z4, h4, w4⟩ := h 4 .i64 rfl
 have w4 := qed w4
 obtain ⟨z5, h5, w5⟩ := h 5 .i64 rfl
 have w5 := qed w5
 obtain ⟨z6, h6, w6⟩ := h 6 .i64 rfl
 have w6 := qed w6
 obtain ⟨z7, h7, w7⟩ := h 7 .i64 rfl
 have w7 := qed w7
 obtain ⟨z8, h8, w8⟩ := h 8 .i64 rfl
 have w8 := qed w8
 obtain ⟨z9, h9, w9⟩ := h 9 .u64 rfl
 have w9 := qvz w9
 obtain ⟨z10, h10, w10⟩ := h 10 .i64 rfl
 have w10 := qed w10
 refine ⟨⟨z0, z1, z2.toNat, z3.toNat, z4, z5, z6, z7, z8, z9.toNat, z10⟩, ?_, ⟨w0, w1, (by show z2.toNat < _; omega), (by show z3.toNat < _; omega), w4, w5, w6, w7, w8, (by show z9.toNat < _; omega), w10⟩⟩
 refine qut (by rw [hl]; rfl) fun i hi => ?_
 have hi' : i < 11 := by rw [hl] at hi; exact hi
 have hc : i = 0 ∨ i = 1 ∨ i = 2 ∨ i = 3 ∨ i = 4 ∨ i = 5 ∨ i = 6 ∨ i = 7 ∨ i = 8 ∨ i = 9 ∨ i = 10 := by omega
 rcases hc with rfl | rfl | rfl | rfl | rfl | rfl | rfl | rfl | rfl | rfl | rfl
 ·rw [h0]; rfl
 ·rw [h1]; rfl
 ·rw [h2]; show some (Value.int .u8 ((z2.toNat : Nat) : Int)) = _; rw [Int.toNat_of_nonneg w2.1]
 ·rw [h3]; show some (Value.int .u8 ((z3.toNat : Nat) : Int)) = _; rw [Int.toNat_of_nonneg w3.1]
 ·rw [h4]; rfl
 ·rw [h5]; rfl
 ·rw [h6]; rfl
 ·rw [h7]; rfl
 ·rw [h8]; rfl
 ·rw [h9]; show some (Value.int .u64 ((z9.toNat : Nat) : Int)) = _; rw [Int.toNat_of_nonneg w9.1]
 ·rw [h10]; rfl
theorem qp7 : qgs Tryd.prog 45 qlw = true := by kernel_rfl
section
variable {H : Type} {enc : TypeId × Value → H} {W : World} {b0 : Nat} {v : Value} {d : DataW H} {p : List MemPlace}
end
def fieldAt (P : Program) (t : TypeId) (i off : Nat) (u : TypeId) : Bool := match P.underlying t with
 | some (.struct fs) => match fs[i]? with
  | some f => decide (f.offset = off) && decide (f.type = u)
  | none => false
 | _ => false
section
variable {H : Type} {enc : TypeId × Value → H} {P : Program} {W : World} {b0 : Nat} {sp : Nat → Bool} {held : Bool}
theorem qf3 {t u : TypeId} {i off : Nat} (hf : fieldAt P t i off u = true) {fuel : Nat} {cs : List Value} {x : DataW H × List MemPlace} (h : DataW.trod enc P W b0 sp held fuel t cs = some x) :
  cs.length = P.cellsOf t ∧ ∃ n y, DataW.trod enc P W b0 sp held n u ((cs.drop off).take (P.cellsOf u)) = some y := by
 unfold fieldAt at hf
 split at hf
 ·rename_i fs hu
  split at hf
  ·rename_i f hfi
   simp only [Bool.and_eq_true, decide_eq_true_eq] at hf
   obtain ⟨xs, n, _, _, hl, hx, he⟩ := DataW.trod_struct hu h
   refine ⟨hl, n, ?_⟩
   have h5 := he i f hfi
   have hi : i < fs.size := (Array.getElem?_eq_some_iff.1 hfi).1
   rw [List.getElem?_eq_getElem (by omega), hf.1, hf.2] at h5
   exact ⟨_, h5⟩
  ·cases hf
 ·cases hf
end
section
variable {H : Type} {enc : TypeId × Value → H} {W : World} {b0 : Nat} {v : Value} {d : DataW H} {p : List MemPlace}
theorem qlx {cs : List Value} {off : Nat} {u : Value} (h : (cs.drop off).take 1 = [u]) : cs[off]? = some u := by
 have := congrArg (·[0]?) h
 simpa [List.getElem?_take, List.getElem?_drop] using this
theorem qp8 : Tryd.prog.cellsOf 3 = 1 := by kernel_rfl
end
end Go.Proofs.YtfeheccoijnbaaaDoor
namespace Go.Proofs.YtfeheccoijnbaaaDoor
open Go.RowKit
def look (σ : List (Nat × Value)) : Operand → Option Value
 | .tmp t => σ.lookup t
 | .const v => some v
 | .global g => some (.pointer (some ⟨g, 0, none⟩))
 | .func f => some (.func (.func f) #[] #[])
structure Fr (a : Act) (n : Nat) (D : List Deferred) (σ : List (Nat × Value)) : Prop where
 size : a.tmps.size = n
 defers : a.defers = D
 slot : ∀ t v, σ.lookup t = some v → a.tmps.getD t undef = v
section
variable {a : Act} {n : Nat} {D : List Deferred} {σ σ' : List (Nat × Value)}
theorem Fr.eval (h : Fr a n D σ) {x : Operand} {v : Value} (hx : look σ x = some v) : a.eval x = v := by
 cases x with
 | tmp t => exact h.slot t v hx
 | const u => injection hx
 | global g => injection hx
 | func f => injection hx
theorem Fr.put (h : Fr a n D σ) {d : Nat} (hd : d < n) (v : Value) : Fr (a.put (some d) v) n D ((d, v) :: σ) := by
 refine ⟨by simpa [Act.put] using h.size, h.defers, fun t u hu => ?_⟩
 have hs := h.size
 by_cases e : t = d
 ·subst e
  simp only [List.lookup_cons, beq_self_eq_true, Option.some.injEq] at hu
  subst hu
  simp [Act.put, hs, hd]
 ·have hb : (t == d) = false := by simpa using e
  simp only [List.lookup_cons, hb] at hu
  have h2 := h.slot t u hu
  simp only [Act.put, Array.getD_eq_getD_getElem?, Array.getElem?_setIfInBounds_ne (Ne.symm e)]
  simpa using h2
theorem Fr.sub (h : Fr a n D σ) (hs : σ'.map (fun p => σ.lookup p.1) = σ'.map (fun p => some p.2)) : Fr a n D σ' := by
 refine ⟨h.size, h.defers, fun t v hv => h.slot t v ?_⟩
 induction σ' with
 | nil => cases hv
 | cons p r ih =>
  simp only [List.map_cons, List.cons.injEq] at hs
  obtain ⟨k, u⟩ := p
  simp only [List.lookup_cons] at hv
  split at hv
  ·rename_i hk
   rw [beq_iff_eq] at hk
   subst hk
   rw [hs.1, ← hv]
  ·exact ih hs.2 hv
end
def wantB (ops : Array Oper) (σ : List (Nat × Value)) (o : Oper) : Option Bool :=
 match o.guard with
 | none => some true
 | some (j, b) => match (ops[j]?).bind (·.dst) with
  | none => none
  | some t => match σ.lookup t with
   | some (.bool c) => some (c == b)
   | some (.tuple _) => some false
   | _ => none
theorem qly : undef = .tuple #[] := rfl
theorem qcq {a : Act} {n : Nat} {D : List Deferred} {σ : List (Nat × Value)} {ops : Array Oper} {o : Oper} {c : Bool} (h : Fr a n D σ) (hw : wantB ops σ o = some c) : Region.wanted o (yielded ops a.tmps) = c := by
 unfold wantB at hw
 unfold Region.wanted
 cases hg : o.guard with
 | none => rw [hg] at hw; simpa using hw
 | some jb =>
  obtain ⟨j, b⟩ := jb
  rw [hg] at hw
  simp only at hw ⊢
  cases ht : (ops[j]?).bind (·.dst) with
  | none => rw [ht] at hw; cases hw
  | some t =>
   rw [ht] at hw
   simp only at hw
   unfold yielded
   rw [ht]
   simp only [Option.bind_some]
   cases hl : σ.lookup t with
   | none => rw [hl] at hw; cases hw
   | some v =>
    rw [hl] at hw
    have hs := h.slot t v hl
    rw [Array.getD_eq_getD_getElem?] at hs
    cases hx : a.tmps[t]? with
    | none =>
     rw [hx] at hs
     simp only [Option.getD_none] at hs
     subst hs
     rw [qly] at hw
     simp only [Option.some.injEq] at hw
     subst hw
     rfl
    | some u =>
     rw [hx] at hs
     simp only [Option.getD_some] at hs
     subst hs
     cases u <;> simp only [Option.some.injEq, reduceCtorEq] at hw
     ·subst hw; rfl
     ·subst hw; rfl
def qt2 (op : BinOp) (k : IntKind) (a b : Int) : Option Value :=
 match op with
 | .add => some (.int k (k.wrap (a + b)))
 | .sub => some (.int k (k.wrap (a - b)))
 | .mul => some (.int k (k.wrap (a * b)))
 | .quo => if b = 0 then none else some (.int k (k.wrap (a.tdiv b)))
 | .rem => if b = 0 then none else some (.int k (a.tmod b))
 | .and => some (.int k (k.wrap (BitVec.ofInt k.bits a &&& BitVec.ofInt k.bits b).toNat))
 | .or => some (.int k (k.wrap (BitVec.ofInt k.bits a ||| BitVec.ofInt k.bits b).toNat))
 | .xor => some (.int k (k.wrap (BitVec.ofInt k.bits a ^^^ BitVec.ofInt k.bits b).toNat))
 | .eql => some (.bool (a == b))
 | .neq => some (.bool (a != b))
 | .lss => some (.bool (a < b))
 | .leq => some (.bool (a ≤ b))
 | .gtr => some (.bool (a > b))
 | .geq => some (.bool (a ≥ b))
 | _ => none
def qp9 (op : BinOp) : Value → Value → Option Value
 | .int k a, .int k' b => match op with
  | .shl => if b < 0 then none else some (.int k (k.wrap (a * 2 ^ (min b.toNat k.bits))))
  | .shr => if b < 0 then none else some (.int k (a.fdiv (2 ^ (min b.toNat k.bits))))
  | _ => if k = k' then qt2 op k a b else none
 | .string a, .string b => match op with
  | .eql => some (.bool (a.toList == b.toList))
  | .neq => some (.bool !(a.toList == b.toList))
  | _ => none
 | _, _ => none
theorem qh6 {P : Program} {op : BinOp} {x y v : Value} (h : qp9 op x y = some v) (t : TypeId) (w : World) : (binOp op t x y).run P w = .ok v w := by
  unfold qp9 at h
  split at h
  · split at h
    · split at h
      · cases h
      · rename_i hb; injection h with h; subst h; simp [binOp, Op.shift, hb]
    · split at h
      · cases h
      · rename_i hb; injection h with h; subst h; simp [binOp, Op.shift, hb]
    · split at h
      · rename_i hk
        subst hk
        unfold qt2 at h
        split at h <;> first
          | (injection h with h; subst h; simp [binOp, Op.intArith, Op.intBits, Op.intCmp]; done)
          | (split at h
             · cases h
             · rename_i hb; injection h with h; subst h; simp [binOp, Op.intDiv, hb])
          | cases h
      · cases h
  · split at h
    · injection h with h; subst h; simp [binOp, Op.stringOp]
    · injection h with h; subst h; simp [binOp, Op.stringOp]
    · cases h
  · cases h
def qqa : Value → Bool
 | .agg _ => false
 | .nilIface => false
 | _ => true
theorem qbd {P : Program} (op : BinOp) (t : TypeId) (x y : Operand) {a b : Value} (ha : qqa a = true) (w : World) : (eqGuard op t x y a b).run P w = .ok () w := by
 unfold eqGuard
 cases a <;> first | exact absurd ha (by decide) | (split <;> simp; done) | exact absurd ha (by simp [qqa])
def qja (P : Program) (s f : Nat) : Option Nat :=
 match P.underlying s with
 | some (.struct fs) => match fs[f]? with
  | some fl => match P.info? fl.type with
   | some i => if i.size = 0 then none else some fl.offset
   | none => none
  | none => none
 | _ => none
theorem qj7 {P : Program} {s f off : Nat} (h : qja P s f = some off) (a : Addr) (w : World) : (Instr.fieldAt s (.pointer (some a)) f).run P w = .ok (.pointer (some (a.add off))) w := by
 unfold qja at h
 split at h
 ·rename_i fs hu
  split at h
  ·rename_i fl hf
   split at h
   ·rename_i i hi
    split at h
    ·cases h
    ·rename_i hz
     injection h with h; subst h
     simp [Instr.fieldAt, run_underlying hu, hf, Instr.sureAddr, fieldPlace, sizeOf, typeInfo, hi, hz]
   ·cases h
  ·cases h
 ·cases h
def qjb (P : Program) (σ : List (Nat × Value)) : Op → Option Value
 | .move x => look σ x
 | .assign x => look σ x
 | .pick c a b => match look σ c with
  | some (.bool true) => look σ a
  | some (.bool false) => look σ b
  | _ => none
 | .extract t i => match look σ t with
  | some (.tuple vs) => vs[i]?
  | _ => none
 | .unOp .not _ x => match look σ x with
  | some (.bool b) => some (.bool !b)
  | _ => none
 | .binOp op _ x y _ => match look σ x, look σ y with
  | some a, some b => if qqa a then qp9 op a b else none
  | _, _ => none
 | .convert src dst x => match P.underlying src, P.underlying dst, look σ x with
  | some _, some (.int k), some (.int _ m) => some (.int k (k.wrap m))
  | _, _, _ => none
 | .fieldAddr s x f => match look σ x, qja P s f with
  | some (.pointer (some a)), some off => some (.pointer (some (a.add off)))
  | _, _ => none
 | _ => none
theorem qlz {P : Program} {a : Act} {n : Nat} {D : List Deferred} {σ : List (Nat × Value)} (h : Fr a n D σ) {o : Oper} {v : Value} (hv : qjb P σ o.op = some v) (w : World) : (execOp a.eval o).run P w = .ok (.value v) w := by
 unfold execOp
 unfold qjb at hv
 split at hv
 ·rename_i x hop; simp only [hop, h.eval hv]; rfl
 ·rename_i x hop; simp only [hop, h.eval hv]; rfl
 ·rename_i c x y hop
  split at hv
  ·rename_i hc; simp only [hop, h.eval hc, h.eval hv]; rfl
  ·rename_i hc; simp only [hop, h.eval hc, h.eval hv]; rfl
  ·cases hv
 ·rename_i t i hop
  split at hv
  ·rename_i vs ht; simp only [hop, h.eval ht, Instr.extract, hv]; rfl
  ·cases hv
 ·rename_i t x hop
  split at hv
  ·rename_i b hx; injection hv with hv; subst hv; simp only [hop, h.eval hx, Op.unary]; rfl
  ·cases hv
 ·rename_i op t x y u hop
  split at hv
  ·rename_i p q hx hy
   split at hv
   ·rename_i hn
    simp [hop, h.eval hx, h.eval hy, qbd op t x y hn, qh6 hv t]
   ·cases hv
  ·cases hv
 ·rename_i src dst x hop
  split at hv
  ·rename_i ds k k' m hs hu hx
   injection hv with hv; subst hv
   simp [hop, h.eval hx, convert, run_underlying hs, run_underlying hu, Conv.intToInt]
  ·cases hv
 ·rename_i s x f hop
  split at hv
  ·rename_i ad off hx hf
   injection hv with hv; subst hv
   simp [hop, h.eval hx, qj7 hf]
  ·cases hv
 ·cases hv
abbrev vI (x : Int) : Value := .int .i64 x
abbrev vB (x : Int) : Value := .int .u8 x
abbrev vQ (x : Int) : Value := .int .u64 x
abbrev vW (x : Int) : Value := .int .u32 x
abbrev vP (g o : Nat) : Value := .pointer (some ⟨g, o, none⟩)
abbrev vS (g n c : Nat) : Value := .slice (some ⟨g, 0, none⟩) n c
inductive Fact
 | blk (g : Nat) (cs : Array Value) (t : TypeId)
 | row (v : Value) (n : Nat) (xs : List Value) (e : TypeId) (size : Nat)
 | obj (g : Nat) (o : Obj)
def Fact.block : Fact → Option Nat
 | .obj g _ => some g
 | .blk g _ _ => some g
 | .row v _ _ _ _ => v.ownBlock
def Fact.holds (base : Nat) (w : World) : Fact → Prop
 | .obj g o => base ≤ g ∧ w.heap[g]? = some o
 | .blk g cs t => base ≤ g ∧ w.heap[g]? = some (.cells cs t (0, 0))
 | .row v n xs e size => w.ownsRow base e size v n xs
def Fact.apart (f g : Fact) : Prop := ∀ x, f.block = some x → g.block ≠ some x
structure Mem (W w : World) (fs : List Fact) : Prop where
 below : Below W.heap.size W w
 holds : ∀ f ∈ fs, f.holds W.heap.size w
 apart : fs.Pairwise Fact.apart
theorem Fact.apart.symm {f g : Fact} (h : f.apart g) : g.apart f := fun x hx hf => h x hf hx
theorem qgt {w : World} {base : Nat} {e : TypeId} {size : Nat} {v : Value} {n : Nat} {xs : List Value} (h : w.ownsRow base e size v n xs) {g : Nat} (hg : v.ownBlock = some g) : base ≤ g ∧ g < w.heap.size := by
 rcases h.2 with ⟨rfl, _⟩ | ⟨g', cap, cur, rfl, hb, hg', _⟩
 ·cases hg
 ·cases hg; exact ⟨hb, zx hg'⟩
theorem Fact.holds.lt {base : Nat} {w : World} {f : Fact} (h : f.holds base w) {g : Nat} (hg : f.block = some g) : base ≤ g ∧ g < w.heap.size := by
 cases f with
 | blk g' cs t => injection hg with hg; subst hg; exact ⟨h.1, zx h.2⟩
 | row v n xs e size => exact qgt h hg
 | obj g' o => injection hg with hg; subst hg; exact ⟨h.1, zx h.2⟩
theorem Fact.holds.keep {base : Nat} {w w' : World} {f : Fact} (h : f.holds base w) (hk : ∀ g, f.block = some g → w'.heap[g]? = w.heap[g]?) : f.holds base w' := by
 cases f with
 | obj g o => exact ⟨h.1, (hk g rfl).trans h.2⟩
 | blk g cs t => exact ⟨h.1, (hk g rfl).trans h.2⟩
 | row v n xs e size =>
  refine ⟨h.1, ?_⟩
  rcases h.2 with h1 | ⟨g, cap, cur, rfl, hb, hg, r⟩
  ·exact .inl h1
  ·exact .inr ⟨g, cap, cur, rfl, hb, (hk g rfl).trans hg, r⟩
section
variable {W w w' : World} {fs fs' : List Fact}
theorem Mem.start (W : World) : Mem W W [] := ⟨Below.refl _ _, by simp, .nil⟩
theorem Mem.size (h : Mem W w fs) : W.heap.size ≤ w.heap.size := h.below.size
theorem Mem.call (h : Mem W w fs) (hb : Below w.heap.size w w') : Mem W w' fs :=
 ⟨h.below.trans (hb.mono h.size), fun f hf => (h.holds f hf).keep fun g hg => hb.block g ((h.holds f hf).lt hg).2, h.apart⟩
theorem Mem.drew (h : Mem W w fs) : Mem W w.drew fs := h.call (Below.refl _ _).drew
theorem Mem.cons (h : Mem W w fs) {f : Fact} (hf : f.holds W.heap.size w) (hn : ∀ g, f.block = some g → ∀ k ∈ fs, k.block ≠ some g) : Mem W w (f :: fs) :=
 ⟨h.below, fun k hk => by
  rcases List.mem_cons.1 hk with rfl | hk
  ·exact hf
  ·exact h.holds k hk, List.pairwise_cons.2 ⟨fun k hk g hg => hn g hg k hk, h.apart⟩⟩
theorem Mem.nil (h : Mem W w fs) (e : TypeId) (size : Nat) : Mem W w (.row (.slice none 0 0) 0 [] e size :: fs) :=
 h.cons (World.ownsRow_nil _ _ _ _) (fun g hg => by cases hg)
theorem Mem.callRow (h : Mem W w fs) (hb : Below w.heap.size w w') {e : TypeId} {size n : Nat} {v : Value} {xs : List Value} (hr : w'.ownsRow w.heap.size e size v n xs) : Mem W w' (.row v n xs e size :: fs) :=
 (h.call hb).cons (qdv hr h.size) (fun g hg k hk hkg => by
  have h1 := (qgt hr hg).1
  have h2 := ((h.holds k hk).lt hkg).2
  omega)
theorem Mem.alloc (h : Mem W w fs) (cs : Array Value) (t : TypeId) : Mem W (w.alloc (.cells cs t)) (.blk w.heap.size cs t :: fs) :=
 (h.call ((Below.refl _ _).alloc (Nat.le_refl _) _)).cons ⟨h.size, World.alloc_heap_new w _⟩ (fun g hg k hk hkg => by
  injection hg with hg
  have h2 := ((h.holds k hk).lt hkg).2
  omega)
theorem Mem.allocObj (h : Mem W w fs) (o : Obj) : Mem W (w.alloc o) (.obj w.heap.size o :: fs) :=
 (h.call ((Below.refl _ _).alloc (Nat.le_refl _) _)).cons ⟨h.size, World.alloc_heap_new w _⟩ (fun g hg k hk hkg => by
  injection hg with hg
  have h2 := ((h.holds k hk).lt hkg).2
  omega)
def picks (fs : List Fact) (is : List Nat) : List Fact := is.filterMap (fs[·]?)
theorem qbk (h : fs.Pairwise Fact.apart) : ∀ {is : List Nat}, is.Nodup → (picks fs is).Pairwise Fact.apart
 | [], _ => .nil
 | i :: is, hn => by
  rw [List.nodup_cons] at hn
  unfold picks
  rw [List.filterMap_cons]
  cases hi : fs[i]? with
  | none => exact qbk h hn.2
  | some f =>
   refine List.pairwise_cons.2 ⟨fun k hk => ?_, qbk h hn.2⟩
   obtain ⟨j, hj, hjk⟩ := List.mem_filterMap.1 hk
   have hij : i ≠ j := fun e => hn.1 (e ▸ hj)
   obtain ⟨hil, hif⟩ := List.getElem?_eq_some_iff.1 hi
   obtain ⟨hjl, hjf⟩ := List.getElem?_eq_some_iff.1 hjk
   rcases Nat.lt_or_gt_of_ne hij with h1 | h1
   ·have := List.pairwise_iff_getElem.1 h i j hil hjl h1
    rwa [hif, hjf] at this
   ·have := List.pairwise_iff_getElem.1 h j i hjl hil h1
    rw [hif, hjf] at this
    exact this.symm
theorem Mem.picks (h : Mem W w fs) (is : List Nat) (hn : is.Nodup) (he : picks fs is = fs') : Mem W w fs' := by
 subst he
 refine ⟨h.below, fun f hf => ?_, qbk h.apart hn⟩
 obtain ⟨j, _, hj⟩ := List.mem_filterMap.1 hf
 exact h.holds f (List.mem_of_getElem? hj)
theorem Mem.tail {f : Fact} (h : Mem W w (f :: fs)) : Mem W w fs := ⟨h.below, fun k hk => h.holds k (List.mem_cons_of_mem _ hk), (List.pairwise_cons.1 h.apart).2⟩
theorem Mem.turn (h : Mem W w fs) {i : Nat} {f f' : Fact} (hi : fs[i]? = some f) (hb : Below W.heap.size W w') (hk : ∀ g, g < w.heap.size → f.block ≠ some g → w'.heap[g]? = w.heap[g]?)
  (hf : f'.holds W.heap.size w') (hn : ∀ g, f'.block = some g → f.block = some g ∨ w.heap.size ≤ g) : Mem W w' (fs.set i f') := by
 obtain ⟨hil, hif⟩ := List.getElem?_eq_some_iff.1 hi
 have hother : ∀ j (hj : j < fs.length), j ≠ i → Fact.apart fs[j] f ∧ Fact.apart f fs[j] := fun j hj hji => by
  rcases Nat.lt_or_gt_of_ne hji with h1 | h1
  ·have := List.pairwise_iff_getElem.1 h.apart j i hj hil h1
   rw [hif] at this
   exact ⟨this, this.symm⟩
  ·have := List.pairwise_iff_getElem.1 h.apart i j hil hj h1
   rw [hif] at this
   exact ⟨this.symm, this⟩
 have hnew : ∀ j (hj : j < fs.length), j ≠ i → Fact.apart f' fs[j] := fun j hj hji g hg hg' => by
  rcases hn g hg with h1 | h1
  ·exact (hother j hj hji).2 g h1 hg'
  ·have := ((h.holds _ (List.getElem_mem hj)).lt hg').2
   omega
 refine ⟨hb, fun k hkm => ?_, ?_⟩
 ·obtain ⟨j, hj, hjk⟩ := List.getElem_of_mem hkm
  rw [List.getElem_set] at hjk
  rw [List.length_set] at hj
  split at hjk
  ·subst hjk; exact hf
  ·rename_i hne
   subst hjk
   have hh := h.holds _ (List.getElem_mem hj)
   exact hh.keep fun g hg => hk g (hh.lt hg).2 (fun e => (hother j hj (Ne.symm hne)).1 g hg e)
 ·rw [List.pairwise_iff_getElem]
  intro p q hp hq hpq
  rw [List.length_set] at hp hq
  rw [List.getElem_set, List.getElem_set]
  split
  ·rename_i e
   subst e
   rw [if_neg (by omega)]
   exact hnew q hq (by omega)
  ·split
   ·rename_i e
    subst e
    exact (hnew p hp (by omega)).symm
   ·exact List.pairwise_iff_getElem.1 h.apart p q hp hq hpq
theorem Mem.blk (h : Mem W w fs) {i g : Nat} {cs : Array Value} {t : TypeId} (hi : fs[i]? = some (.blk g cs t)) : w.heap[g]? = some (.cells cs t (0, 0)) := (h.holds _ (List.mem_of_getElem? hi)).2
theorem Mem.cell (h : Mem W w fs) {i g o : Nat} {cs : Array Value} {t : TypeId} {v : Value} (hi : fs[i]? = some (.blk g cs t)) (hc : cs[o]? = some v) : w.cell? ⟨g, o, none⟩ = some v := by
 simp [World.cell?, h.blk hi, hc]
theorem Mem.own (h : Mem W w fs) {i : Nat} {v : Value} {n : Nat} {xs : List Value} {e : TypeId} {size : Nat} (hi : fs[i]? = some (.row v n xs e size)) : w.ownsRow W.heap.size e size v n xs := h.holds _ (List.mem_of_getElem? hi)
theorem Mem.rd (h : Mem W w fs) {i : Nat} {A : Option Addr} {n c : Nat} {xs : List Value} {e : TypeId} {size : Nat} (hi : fs[i]? = some (.row (.slice A n c) n xs e size)) : Rd w w.heap.size size A n xs := Rd.qhp (h.own hi) rfl
theorem Mem.old (h : Mem W w fs) {size : Nat} {A : Option Addr} {n : Nat} {xs : List Value} (hr : Rd W W.heap.size size A n xs) : Rd w w.heap.size size A n xs := (hr.below h.below).more h.size
theorem Rd.qwn {w : World} {g : Nat} {cs : Array Value} {t : TypeId} (hb : w.heap[g]? = some (.cells cs t (0, 0))) {size n : Nat} (hn : cs.size = n * size) : Rd w w.heap.size size (some ⟨g, 0, none⟩) n cs.toList :=
 ⟨by simpa using hn, fun _ => ⟨_, rfl, zx hb, fun j u hu => by
  rw [Addr.add_mid, Nat.zero_add]
  simp only [World.cell?, hb]
  simpa using hu⟩⟩
theorem Mem.rdBlk (h : Mem W w fs) {i g : Nat} {cs : Array Value} {t : TypeId} {size n : Nat} (hi : fs[i]? = some (.blk g cs t)) (hn : cs.size = n * size) : Rd w w.heap.size size (some ⟨g, 0, none⟩) n cs.toList := Rd.qwn (h.blk hi) hn
theorem Mem.blkRow (h : Mem W w fs) {i g : Nat} {cs : Array Value} {e : TypeId} {size n : Nat} (hi : fs[i]? = some (.blk g cs e)) (hn : cs.size = n * size) (hm : n ≤ 9223372036854775807) : Mem W w (fs.set i (.row (.slice (some ⟨g, 0, none⟩) n n) n cs.toList e size)) := by
 have hb := h.holds _ (List.mem_of_getElem? hi)
 refine h.turn hi h.below (fun _ _ _ => rfl) ⟨by simpa using hn, .inr ⟨g, n, cs, rfl, hb.1, hb.2, Nat.le_refl _, by unfold maxLen; exact hm, hn, ?_⟩⟩ (fun g' hg' => .inl hg')
 rw [← hn, ← Array.length_toList, List.take_length]
theorem Mem.set (h : Mem W w fs) {i g o : Nat} {cs : Array Value} {t : TypeId} (hi : fs[i]? = some (.blk g cs t)) (v : Value) : Mem W (w.setCell ⟨g, o, none⟩ v) (fs.set i (.blk g (cs.setIfInBounds o v) t)) := by
 have hb := h.holds _ (List.mem_of_getElem? hi)
 refine h.turn hi (h.below.setCell (p := ⟨g, o, none⟩) hb.1 v) (fun k hk hne => ?_) ⟨hb.1, ?_⟩ (fun g' hg' => .inl hg')
 ·exact Below.heap_setCell _ _ _ _ (fun e => hne (by rw [e]; rfl))
 ·simp [World.setCell, Array.getElem?_modify, hb.2]
theorem Mem.setAll (h : Mem W w fs) {i g : Nat} {cs ds : Array Value} {t : TypeId} (hi : fs[i]? = some (.blk g cs t)) (hs : cs.size = ds.size) : Mem W (w.setCells g 0 ds.toList) (fs.set i (.blk g ds t)) := by
 have hb := h.holds _ (List.mem_of_getElem? hi)
 refine h.turn hi (below_setCells h.below hb.1 0 _) (fun k hk hne => ?_) ⟨hb.1, ?_⟩ (fun g' hg' => .inl hg')
 ·exact qae _ _ _ _ _ (fun e => hne (by rw [e]; rfl))
 ·have := qce hb.2 ds.toList (by simpa using hs)
  simpa using this
theorem Mem.append (h : Mem W w fs) {i n : Nat} {v v' : Value} {xs ys : List Value} {e : TypeId} {size n' : Nat} (hi : fs[i]? = some (.row v n xs e size)) (ho : w'.ownsRow W.heap.size e size v' n' ys) (hg : w.grownBy w' v.ownBlock)
  (hb : v'.ownBlock = v.ownBlock ∨ v'.ownBlock = some w.heap.size) : Mem W w' (fs.set i (.row v' n' ys e size)) := by
 have hv := h.own hi
 refine h.turn hi (h.below.grown hg h.size (fun g hgb => (qgt hv hgb).1)) (fun g hgl hne => hg.block g hgl (fun e => hne e.symm)) ho (fun g hgb => ?_)
 have hgb' : v'.ownBlock = some g := hgb
 rcases hb with h1 | h1
 ·exact .inl (show v.ownBlock = some g by rw [← h1]; exact hgb')
 ·rw [h1] at hgb'; injection hgb' with e; exact .inr (by omega)
end
def qak (P : Program) (ops : Array Oper) (Q : Exit → Act → World → Prop) (i : Nat) (a : Act) (w : World) : Prop := wpList P ops Q (ops.toList.drop i) a w
def Yl (P : Program) (S : World → Prop) (σ : List (Nat × Value)) (o : Oper) (v : Value) : Prop := ∀ (a : Act) (n : Nat) (D : List Deferred), Fr a n D σ → ∀ w, S w → (execOp a.eval o).run P w = .ok (.value v) w
section
variable {P : Program} {ops : Array Oper} {Q : Exit → Act → World → Prop} {a : Act} {w : World} {n i j d fuel : Nat} {D : List Deferred} {σ σ' : List (Nat × Value)} {o : Oper} {v : Value} {md : Region.Mode} {S : World → Prop} {K : Act → World → Prop} {listed : Array Bool}
theorem qa {id : Nat} (h : qak P ops Q 0 a w) : (Code.region id ops false).wp P Q a w := wp_region_list (by simpa [qak] using h)
theorem qb (hi : ops.size = i) (h : Q .normal a w) : qak P ops Q i a w := by
 unfold qak
 rw [List.drop_of_length_le (by simp [hi])]
 exact h
theorem qqb (HF : Fr a n D σ) (ho : ops[i]? = some o) (hw : wantB ops σ o = some true) (h : o.wp P a w (qak P ops Q (i + 1)) Q) : qak P ops Q i a w := by
 obtain ⟨hl, he⟩ := Array.getElem?_eq_some_iff.1 ho
 unfold qak
 rw [List.drop_eq_getElem_cons (by simpa using hl), Array.getElem_toList, he]
 unfold wpList
 rw [if_pos (qcq HF hw)]
 exact .inl h
theorem qqc (HF : Fr a n D σ) (ho : ops[i]? = some o) (hw : wantB ops σ o = some false) (hd : o.dst = some d) (hdn : d < n) (k : ∀ a', Fr a' n D ((d, undef) :: σ) → qak P ops Q (i + 1) a' w) : qak P ops Q i a w := by
 obtain ⟨hl, he⟩ := Array.getElem?_eq_some_iff.1 ho
 unfold qak
 rw [List.drop_eq_getElem_cons (by simpa using hl), Array.getElem_toList, he]
 unfold wpList
 rw [if_neg (by rw [qcq HF hw]; simp), hd]
 exact k _ (HF.put hdn _)
theorem Yl.wp (hy : Yl P S σ o v) (HF : Fr a n D σ) (hS : S w) (hd : o.dst = some d) (hdn : d < n) (k : ∀ a', Fr a' n D ((d, v) :: σ) → K a' w) : o.wp P a w K Q := by
 unfold Oper.wp
 rw [hy a n D HF w hS, Oper.upon_value, hd]
 exact k _ (HF.put hdn _)
theorem qqd (HF : Fr a n D σ) (hS : S w) (ho : ops[i]? = some o) (hw : wantB ops σ o = some true) (hd : o.dst = some d) (hdn : d < n) (hy : Yl P S σ o v) (k : ∀ a', Fr a' n D ((d, v) :: σ) → qak P ops Q (i + 1) a' w) : qak P ops Q i a w :=
 qqb HF ho hw (hy.wp HF hS hd hdn k)
theorem Yl.pure (h : qjb P σ o.op = some v) : Yl P S σ o v := fun _ _ _ HF w _ => qlz HF h w
def qc0 (P : Program) (ops : Array Oper) (n i : Nat) (σ : List (Nat × Value)) : Option (List (Nat × Value)) :=
 match ops[i]? with
 | none => none
 | some o => match wantB ops σ o, o.dst with
  | some true, some d => if d < n then match qjb P σ o.op with
   | some v => some ((d, v) :: σ)
   | none => none else none
  | some false, some d => if d < n then some ((d, undef) :: σ) else none
  | _, _ => none
def qbo (P : Program) (ops : Array Oper) (n : Nat) : Nat → Nat → List (Nat × Value) → Option (List (Nat × Value))
 | 0, _, σ => some σ
 | m + 1, i, σ => match qc0 P ops n i σ with
  | none => none
  | some σ' => qbo P ops n m (i + 1) σ'
theorem qgu : ∀ (m i : Nat) {j : Nat} {a : Act} {σ : List (Nat × Value)}, Fr a n D σ → qbo P ops n m i σ = some σ' → i + m = j → (∀ a', Fr a' n D σ' → qak P ops Q j a' w) → qak P ops Q i a w
 | 0, i, j, a, σ, HF, h, hj, k => by
  injection h with h
  subst h
  have e : i = j := hj
  subst e
  exact k a HF
 | m + 1, i, j, a, σ, HF, h, hj, k => by
  unfold qbo at h
  split at h
  ·cases h
  ·rename_i σ1 h1
   have rest := fun a' HF' => qgu m (i + 1) (a := a') (σ := σ1) HF' h (by omega) k
   unfold qc0 at h1
   split at h1
   ·cases h1
   ·rename_i o ho
    split at h1
    ·rename_i d hw hd
     split at h1
     ·rename_i hdn
      split at h1
      ·rename_i v hv
       injection h1 with h1
       subst h1
       exact qqd (S := fun _ => True) HF trivial ho hw hd hdn (Yl.pure hv) rest
      ·cases h1
     ·cases h1
    ·rename_i d hw hd
     split at h1
     ·rename_i hdn
      injection h1 with h1
      subst h1
      exact qqc HF ho hw hd hdn rest
     ·cases h1
    ·cases h1
theorem Fr.sp {v : Value} (h : Fr a n D σ) (t : Nat) (u : Value) (hl : σ.lookup t = some v) (e : v = u) : Fr a n D ((t, u) :: σ) := by
 subst e
 refine ⟨h.size, h.defers, fun s x hx => ?_⟩
 rw [List.lookup_cons] at hx
 split at hx
 ·rename_i hs
  rw [beq_iff_eq] at hs
  subst hs
  injection hx with hx
  subst hx
  exact h.slot _ _ hl
 ·exact h.slot _ _ hx
theorem Fr.to (h : Fr a n D σ) (σ' : List (Nat × Value)) (hs : σ'.map (fun p => σ.lookup p.1) = σ'.map (fun p => some p.2) := by kernel_rfl) : Fr a n D σ' := h.sub hs
theorem Fr.on {b c : Bool} (h : Fr a n D σ) (t : Nat) (hb : b = c) (hl : σ.lookup t = some (.bool b) := by rfl) : Fr a n D ((t, .bool c) :: σ) := by
 subst hb
 refine ⟨h.size, h.defers, fun s x hx => ?_⟩
 rw [List.lookup_cons] at hx
 split at hx
 ·rename_i hs
  rw [beq_iff_eq] at hs
  subst hs
  injection hx with hx
  subst hx
  exact h.slot _ _ hl
 ·exact h.slot _ _ hx
theorem Fr.tf {b : Bool} (h : Fr a n D σ) (t : Nat) (hl : σ.lookup t = some (.bool b)) : (b = true ∧ Fr a n D ((t, .bool true) :: σ)) ∨ (b = false ∧ Fr a n D ((t, .bool false) :: σ)) := by
 cases b
 ·exact .inr ⟨rfl, h.on t rfl hl⟩
 ·exact .inl ⟨rfl, h.on t rfl hl⟩
theorem qf4 {i : Nat} {s : List (Nat × Value)} (h : qc0 P ops n i σ = some s) : ∃ p, s = p :: σ := by
 unfold qc0 at h
 split at h
 ·cases h
 ·split at h
  ·split at h
   ·split at h
    ·injection h with h; exact ⟨_, h.symm⟩
    ·cases h
   ·cases h
  ·split at h
   ·injection h with h; exact ⟨_, h.symm⟩
   ·cases h
  ·cases h
theorem qev : ∀ (m i : Nat) {σ s : List (Nat × Value)}, qbo P ops n m i σ = some s → ∃ full, s = full ++ σ
 | 0, _, σ, s, h => by injection h with h; exact ⟨[], h.symm⟩
 | m + 1, i, σ, s, h => by
  cases h1 : qc0 P ops n i σ with
  | none => rw [qbo, h1] at h; cases h
  | some s1 =>
   rw [qbo, h1] at h
   obtain ⟨p, rfl⟩ := qf4 h1
   obtain ⟨full, hf⟩ := qev m (i + 1) h
   exact ⟨full ++ [p], by rw [hf]; simp⟩
def thin (s σ new : List (Nat × Value)) : Bool := (s.take (s.length - σ.length)).all fun p => (new.any fun q => q.1 == p.1) || !(σ.any fun q => q.1 == p.1)
theorem qfn {t : Nat} : ∀ {l m : List (Nat × Value)}, (l ++ m).lookup t = match l.lookup t with | some v => some v | none => m.lookup t
 | [], m => rfl
 | q :: l, m => by
  rw [List.cons_append, List.lookup_cons, List.lookup_cons]
  split
  ·rfl
  ·exact qfn
theorem qc1 {t : Nat} {v : Value} : ∀ {l : List (Nat × Value)}, l.lookup t = some v → (l.any fun q => q.1 == t) = true
 | [], h => by cases h
 | q :: l, h => by
  rw [List.lookup_cons] at h
  split at h
  ·rename_i hb
   rw [beq_iff_eq] at hb
   simp [hb]
  ·simp only [List.any_cons, Bool.or_eq_true]
   exact .inr (qc1 h)
theorem qgv {t : Nat} {l : List (Nat × Value)} (h : (l.any fun q => q.1 == t) = true) : ∃ p ∈ l, p.1 = t := by
 rw [List.any_eq_true] at h
 obtain ⟨p, h1, h2⟩ := h
 exact ⟨p, h1, by simpa using h2⟩
theorem Fr.thin {s full new : List (Nat × Value)} (h : Fr a n D s) (hs : s = full ++ σ) (ht : Go.Proofs.YtfeheccoijnbaaaDoor.thin s σ new = true) (hn : new.map (fun p => s.lookup p.1) = new.map (fun p => some p.2)) : Fr a n D (new ++ σ) := by
 have h1 := h.sub hn
 refine ⟨h.size, h.defers, fun t v hv => ?_⟩
 rw [qfn] at hv
 cases hl : new.lookup t with
 | some u =>
  rw [hl] at hv
  injection hv with hv
  subst hv
  exact h1.slot t u hl
 | none =>
  rw [hl] at hv
  have hv : σ.lookup t = some v := hv
  refine h.slot t v ?_
  rw [hs, qfn]
  cases hf : full.lookup t with
  | none => exact hv
  | some u =>
   exfalso
   unfold Go.Proofs.YtfeheccoijnbaaaDoor.thin at ht
   have hlen : s.take (s.length - σ.length) = full := by rw [hs, List.length_append, Nat.add_sub_cancel]; exact List.take_left
   rw [hlen, List.all_eq_true] at ht
   obtain ⟨p, hp1, hp2⟩ := qgv (qc1 hf)
   have := ht p hp1
   rw [hp2, qc1 hv] at this
   simp only [Bool.not_true, Bool.or_false] at this
   obtain ⟨q, hq1, hq2⟩ := qgv this
   have h3 : new.lookup t ≠ none := by
    intro h4
    have h5 : ∀ (l : List (Nat × Value)), q ∈ l → l.lookup t ≠ none := by
     intro l
     induction l with
     | nil => intro h6; cases h6
     | cons r l ih =>
      intro h6
      rw [List.lookup_cons]
      split
      ·simp
      ·rename_i hb
       rcases List.mem_cons.1 h6 with rfl | h6
       ·exfalso; rw [hq2] at hb; simp at hb
       ·exact ih h6
    exact h5 new hq1 h4
   exact h3 hl
theorem fp (HF : Fr a n D σ) (m i : Nat) (new : List (Nat × Value)) (k : ∀ a', Fr a' n D (new ++ σ) → qak P ops Q (i + m) a' w) (h : (qbo P ops n m i σ).map (fun s => (thin s σ new, new.map fun p => s.lookup p.1)) = some (true, new.map fun p => some p.2) := by kernel_rfl) : qak P ops Q i a w := by
 cases hs : qbo P ops n m i σ with
 | none => rw [hs] at h; cases h
 | some s =>
  rw [hs] at h
  injection h with h
  injection h with h1 h2
  obtain ⟨full, hf⟩ := qev m i hs
  exact qgu m i HF hs rfl fun a' HF' => k a' (HF'.thin hf h1 h2)
theorem fo (HF : Fr a n D σ) (i : Nat) (ho : ops[i]? = some o) (hw : wantB ops σ o = some true) (h : o.wp P a w (qak P ops Q (i + 1)) Q) : qak P ops Q i a w := qqb HF ho hw h
theorem fy {W : World} {fs : List Fact} (HF : Fr a n D σ) (HM : Mem W w fs) (i : Nat) (ho : ops[i]? = some o) (hw : wantB ops σ o = some true) (hd : o.dst = some d) (hy : Yl P (fun wS => Mem W wS fs) σ o v) (k : ∀ a', Fr a' n D ((d, v) :: σ) → qak P ops Q (i + 1) a' w) (hdn : d < n := by decide) : qak P ops Q i a w :=
 qqd (S := fun wS => Mem W wS fs) HF HM ho hw hd hdn hy k
def pastB (ex : List Nat) (listed : Array Bool) : Bool := ex.any fun j => listed.getD j false
def qap (P : Program) (md : Region.Mode) (ops : Array Oper) (Q : Exit → Act → World → Prop) (S : World → Prop) (ex : List Nat) : Nat → Array Bool → Act → World → Prop
 | 0, listed, a, w => Region.ready md ops listed = [] ∧ Q .normal a w
 | fuel + 1, listed, a, w =>
  (Region.ready md ops listed = [] → Q .normal a w) ∧
  ∀ i ∈ Region.ready md ops listed, wpOp P ops Q i (fun a' w' => (pastB ex (listed.setIfInBounds i true) = false → S w') ∧ qap P md ops Q S ex fuel (listed.setIfInBounds i true) a' w') a w
theorem qc2 {ex : List Nat} : ∀ (fuel : Nat) (listed : Array Bool) (a : Act) (w : World), qap P md ops Q S ex fuel listed a w → wpAny P md ops Q fuel listed a w
 | 0, _, _, _, h => h
 | fuel + 1, _, _, _, h => ⟨h.1, fun i hi => wpOp_mono (fun a' w' h' => qc2 fuel _ a' w' h'.2) (h.2 i hi)⟩
def exOk (md : Region.Mode) (ops : Array Oper) (ex : List Nat) (i : Nat) : Bool := ex.all fun j => match ops[j]? with
 | some o => o.after.any fun e => Region.binds md e && e.on == i
 | none => true
theorem qj8 {ex : List Nat} {l : Array Bool} {i : Nat} (h : ex.contains i = false) : pastB ex (l.setIfInBounds i true) = pastB ex l := by
 unfold pastB
 rw [Bool.eq_iff_iff, List.any_eq_true, List.any_eq_true]
 have hne : ∀ j ∈ ex, i ≠ j := fun j hj e => by
  subst e
  have : ex.contains i = true := by simpa using hj
  rw [h] at this; cases this
 constructor
 ·rintro ⟨j, hj, hl⟩; exact ⟨j, hj, by rwa [getD_set_ne false (hne j hj)] at hl⟩
 ·rintro ⟨j, hj, hl⟩; exact ⟨j, hj, by rwa [getD_set_ne false (hne j hj)]⟩
theorem qfo {ex : List Nat} {l : Array Bool} {i : Nat} (h : pastB ex (l.setIfInBounds i true) = false) : pastB ex l = false := by
 cases hp : pastB ex l with
 | false => rfl
 | true =>
  unfold pastB at h hp
  obtain ⟨j, hj, hl⟩ := List.any_eq_true.1 hp
  rw [List.any_eq_false] at h
  exact absurd (getD_set_true (i := i) hl) (h j hj)
theorem qfp {ex : List Nat} {oi : Oper} {T : World → Prop} (hi : ops[i]? = some oi) (hsel : ∀ (j : Nat) (o : Oper) cs b, ops[j]? = some o → o.op ≠ .select cs b)
  (hQ : ∀ c (a : Act) w, Q (.panic c) (a.put oi.dst v) w → Q (.panic c) a w) (hiex : ex.contains i = false) :
  ∀ (fuel : Nat) (listed : Array Bool) (a : Act) (w : World), ((∀ w, T w) ∨ (T = S ∧ exOk md ops ex i = true ∧ pastB ex listed = false)) →
   (∀ j oj, ops[j]? = some oj → j ≠ i → listed.getD j true = false → (∀ e ∈ oj.after, Region.binds md e = true → e.on ≠ i) → oi.apart ops oj = true) →
   i ∈ Region.ready md ops listed → YieldsIf P ops T oi v a → (pastB ex listed = false → S w) →
   qap P md ops Q S ex fuel (listed.setIfInBounds i true) (a.put oi.dst v) w → qap P md ops Q S ex (fuel + 1) listed a w := by
 intro fuel
 induction fuel with
 | zero =>
  intro listed a w hx _ hr hy hS H
  have hT : T w := by rcases hx with h | ⟨h, _, hp⟩ <;> first | exact h w | (rw [h]; exact hS hp)
  refine ⟨fun h => (by rw [h] at hr; cases hr), fun j hj => ?_⟩
  by_cases hji : j = i
  ·subst hji; exact hy.wpOp hi hT ⟨fun hp => hS (qfo hp), H⟩
  ·have := ready_mono hj hji
   rw [H.1] at this
   cases this
 | succ fuel ih =>
  intro listed a w hx hfree hr hy hS H
  have hT : T w := by rcases hx with h | ⟨h, _, hp⟩ <;> first | exact h w | (rw [h]; exact hS hp)
  refine ⟨fun h => (by rw [h] at hr; cases hr), fun j hj => ?_⟩
  by_cases hji : j = i
  ·subst hji; exact hy.wpOp hi hT ⟨fun hp => hS (qfo hp), H⟩
  ·have h1 := H.2 j (ready_mono hj hji)
   obtain ⟨hjun, oj, hoj, hall⟩ := mem_ready.1 hj
   have hnot : ∀ e ∈ oj.after, Region.binds md e = true → e.on ≠ i := fun e he hb heq => by
    have h1 := hall e he hb
    have h0 := (mem_ready.1 hr).1
    rw [heq] at h1
    rcases Nat.lt_or_ge i listed.size with h' | h'
    ·simp [h'] at h0 h1; rw [h0] at h1; cases h1
    ·simp [Array.getElem?_eq_none h'] at h1
   have hx' : (∀ w, T w) ∨ (T = S ∧ exOk md ops ex i = true ∧ pastB ex (listed.setIfInBounds j true) = false) := by
    rcases hx with h | ⟨h, h2, h3⟩
    ·exact .inl h
    ·refine .inr ⟨h, h2, ?_⟩
     rw [qj8 ?_]
     ·exact h3
     ·cases hc : ex.contains j with
      | false => rfl
      | true =>
       have hm : j ∈ ex := by simpa using hc
       have h2 := List.all_eq_true.1 h2 j hm
       rw [hoj] at h2
       obtain ⟨e, he, hb⟩ := Array.any_eq_true'.1 h2
       rw [Bool.and_eq_true, beq_iff_eq] at hb
       exact absurd hb.2 (hnot e he hb.1)
   have h2 := wpOp_putIf hoj (hfree j oj hoj hji hjun hnot) (fun cs b => hsel i oi cs b hi) (fun cs b => hsel j oj cs b hoj) hQ hy h1
   have hfree' : ∀ k ok, ops[k]? = some ok → k ≠ i → (listed.setIfInBounds j true).getD k true = false →
     (∀ e ∈ ok.after, Region.binds md e = true → e.on ≠ i) → oi.apart ops ok = true := fun k ok hk hki hun hno => by
    refine hfree k ok hk hki ?_ hno
    by_cases hjk : j = k
    ·subst hjk; exact hjun
    ·rw [getD_set_ne true hjk] at hun; exact hun
   refine wpOp_mono (fun a' w' h3 => ?_) h2
   have hS' : pastB ex (listed.setIfInBounds j true) = false → S w' := fun hp => h3.2.1 (by rw [Array.setIfInBounds_comm _ _ (Ne.symm hji), qj8 hiex]; exact hp)
   refine ⟨hS', ih (listed.setIfInBounds j true) a' w' hx' hfree' (ready_mono hr (Ne.symm hji)) h3.1 hS' ?_⟩
   rw [Array.setIfInBounds_comm _ _ hji]
   exact h3.2.2
section
variable {ex : List Nat}
theorem qj9 {id : Nat} (hm : P.follows .mixedOrders = true) (S : World → Prop) (ex : List Nat) (h : qap P .any ops Q S ex ops.size (Array.replicate ops.size false) a w.drew) : (Code.region id ops true).wp P Q a w :=
 wp_region_any hm (qc2 _ _ _ _ h)
theorem qac {id : Nat} {W : World} {fs : List Fact} (HM : Mem W w fs) (fs' : List Fact) (is ex : List Nat) (h : Mem W w.drew fs → Mem W w.drew fs' → qap P .any ops Q (fun wS => Mem W wS fs') ex ops.size (Array.replicate ops.size false) a w.drew)
  (hm : P.follows .mixedOrders = true := by kernel_rfl) (hn : is.Nodup := by decide) (he : picks fs is = fs' := by rfl) : (Code.region id ops true).wp P Q a w :=
 qj9 hm _ ex (h HM.drew (HM.drew.picks is hn he))
def qqe (md : Region.Mode) (ops : Array Oper) (ex : List Nat) (listed : Array Bool) (i : Nat) : Bool :=
 Region.noSelect ops && (Region.free md ops listed i && ((Region.ready md ops listed).contains i && (!ex.contains i && (exOk md ops ex i && !pastB ex listed))))
def qka (md : Region.Mode) (ops : Array Oper) (ex : List Nat) (listed : Array Bool) (i : Nat) : Bool :=
 Region.noSelect ops && (Region.free md ops listed i && ((Region.ready md ops listed).contains i && !ex.contains i))
theorem qv0 (HF : Fr a n D σ) (hS : S w) (ho : ops[i]? = some o) (hw : wantB ops σ o = some true) (hd : o.dst = some d) (hdn : d < n) (hok : qqe md ops ex listed i = true) (hQ : ∀ c (a : Act) w, Q (.panic c) (a.put o.dst v) w → Q (.panic c) a w) (hy : Yl P S σ o v)
  (k : ∀ a', Fr a' n D ((d, v) :: σ) → qap P md ops Q S ex fuel (listed.setIfInBounds i true) a' w) : qap P md ops Q S ex (fuel + 1) listed a w := by
 simp only [qqe, Bool.and_eq_true, Bool.not_eq_true'] at hok
 obtain ⟨h1, h2, h3, h4, h5, h6⟩ := hok
 exact qfp (T := S) ho (Region.noSelect_spec h1) hQ h4 fuel listed a w (.inr ⟨rfl, h5, h6⟩) (Region.free_spec ho h2) (by simpa using h3) (.inl ⟨qcq HF hw, fun w hw => hy a n D HF w hw⟩) (fun _ => hS) (by rw [hd]; exact k _ (HF.put hdn _))
theorem zg (HF : Fr a n D σ) (hS : pastB ex listed = false → S w) (ho : ops[i]? = some o) (hw : wantB ops σ o = some true) (hd : o.dst = some d) (hdn : d < n) (hok : qka md ops ex listed i = true) (hQ : ∀ c (a : Act) w, Q (.panic c) (a.put o.dst v) w → Q (.panic c) a w) (hy : ∀ S', Yl P S' σ o v)
  (k : ∀ a', Fr a' n D ((d, v) :: σ) → qap P md ops Q S ex fuel (listed.setIfInBounds i true) a' w) : qap P md ops Q S ex (fuel + 1) listed a w := by
 simp only [qka, Bool.and_eq_true, Bool.not_eq_true'] at hok
 obtain ⟨h1, h2, h3, h4⟩ := hok
 exact qfp (T := fun _ => True) ho (Region.noSelect_spec h1) hQ h4 fuel listed a w (.inl fun _ => trivial) (Region.free_spec ho h2) (by simpa using h3) (.inl ⟨qcq HF hw, fun w _ => hy (fun _ => True) a n D HF w trivial⟩) hS (by rw [hd]; exact k _ (HF.put hdn _))
theorem qss (HF : Fr a n D σ) (hS : pastB ex listed = false → S w) (ho : ops[i]? = some o) (hw : wantB ops σ o = some false) (hd : o.dst = some d) (hdn : d < n) (hok : qka md ops ex listed i = true) (hQ : ∀ c (a : Act) w, Q (.panic c) (a.put o.dst undef) w → Q (.panic c) a w)
  (k : ∀ a', Fr a' n D ((d, undef) :: σ) → qap P md ops Q S ex fuel (listed.setIfInBounds i true) a' w) : qap P md ops Q S ex (fuel + 1) listed a w := by
 simp only [qka, Bool.and_eq_true, Bool.not_eq_true'] at hok
 obtain ⟨h1, h2, h3, h4⟩ := hok
 exact qfp (T := fun _ => True) ho (Region.noSelect_spec h1) hQ h4 fuel listed a w (.inl fun _ => trivial) (Region.free_spec ho h2) (by simpa using h3) (.inr ⟨qcq HF hw, rfl⟩) hS (by rw [hd]; exact k _ (HF.put hdn _))
def qc3 (P : Program) (md : Region.Mode) (ops : Array Oper) (n : Nat) (ex : List Nat) : List Nat → Array Bool → List (Nat × Value) → Option (Array Bool × List (Nat × Value))
 | [], l, σ => some (l, σ)
 | i :: is, l, σ => if qka md ops ex l i then match qc0 P ops n i σ with
   | some σ' => qc3 P md ops n ex is (l.setIfInBounds i true) σ'
   | none => none
  else none
theorem qh7 {listed' : Array Bool} (hQ : ∀ c (a : Act) d v w, Q (.panic c) (a.put d v) w → Q (.panic c) a w) :
  ∀ (is : List Nat) {a : Act} {σ : List (Nat × Value)} {listed : Array Bool}, Fr a n D σ → (pastB ex listed = false → S w) → qc3 P md ops n ex is listed σ = some (listed', σ') → (∀ a', Fr a' n D σ' → qap P md ops Q S ex fuel listed' a' w) → qap P md ops Q S ex (fuel + is.length) listed a w
 | [], a, σ, listed, HF, _, h, k => by
  injection h with h
  injection h with h1 h2
  subst h1; subst h2
  exact k a HF
 | i :: is, a, σ, listed, HF, hS, h, k => by
  unfold qc3 at h
  split at h
  ·rename_i hc
   split at h
   ·rename_i σ1 h1
    have rest := fun a' HF' => qh7 hQ is (a := a') (σ := σ1) HF' (fun hp => hS (qfo hp)) h k
    unfold qc0 at h1
    split at h1
    ·cases h1
    ·rename_i o ho
     split at h1
     ·rename_i d hw hd
      split at h1
      ·rename_i hdn
       split at h1
       ·rename_i v hv
        injection h1 with h1
        subst h1
        exact zg HF hS ho hw hd hdn hc (fun c a w => hQ c a _ _ w) (fun _ => Yl.pure hv) rest
       ·cases h1
      ·cases h1
     ·rename_i d hw hd
      split at h1
      ·rename_i hdn
       injection h1 with h1
       subst h1
       exact qss HF hS ho hw hd hdn hc (fun c a w => hQ c a _ _ w) rest
      ·cases h1
     ·cases h1
   ·cases h
  ·cases h
theorem qf5 : ∀ (is : List Nat) {l l' : Array Bool} {σ s : List (Nat × Value)}, qc3 P md ops n ex is l σ = some (l', s) → ∃ full, s = full ++ σ
 | [], _, _, σ, s, h => by injection h with h; injection h with _ h; exact ⟨[], h.symm⟩
 | i :: is, l, l', σ, s, h => by
  unfold qc3 at h
  split at h
  ·split at h
   ·rename_i s1 h1
    obtain ⟨p, rfl⟩ := qf4 h1
    obtain ⟨full, hf⟩ := qf5 is h
    exact ⟨full ++ [p], by rw [hf]; simp⟩
   ·cases h
  ·cases h
theorem ap (HF : Fr a n D σ) (hS : pastB ex listed = false → S w) (is : List Nat) (listed' : Array Bool) (new : List (Nat × Value)) (k : ∀ a', Fr a' n D (new ++ σ) → qap P md ops Q S ex fuel listed' a' w)
  (hQ : ∀ c (a : Act) d v w, Q (.panic c) (a.put d v) w → Q (.panic c) a w := by intro _ _ d _ _ h; cases d <;> exact h) (h : (qc3 P md ops n ex is listed σ).map (fun r => (r.1, thin r.2 σ new, new.map fun p => r.2.lookup p.1)) = some (listed', true, new.map fun p => some p.2) := by kernel_rfl) : qap P md ops Q S ex (fuel + is.length) listed a w := by
 cases hs : qc3 P md ops n ex is listed σ with
 | none => rw [hs] at h; cases h
 | some r =>
  obtain ⟨l2, s⟩ := r
  rw [hs] at h
  injection h with h
  injection h with h0 h1
  injection h1 with h1 h2
  simp only at h0
  subst h0
  obtain ⟨full, hf⟩ := qf5 is hs
  exact qh7 hQ is HF hS hs fun a' HF' => k a' (HF'.thin hf h1 h2)
theorem ay (HF : Fr a n D σ) (hS : S w) (i : Nat) (ho : ops[i]? = some o) (hw : wantB ops σ o = some true) (hd : o.dst = some d) (hy : Yl P S σ o v) (k : ∀ a', Fr a' n D ((d, v) :: σ) → qap P md ops Q S ex fuel (listed.setIfInBounds i true) a' w)
  (hdn : d < n := by decide) (hok : qqe md ops ex listed i = true := by kernel_rfl) (hQ : ∀ c (a : Act) w, Q (.panic c) (a.put o.dst v) w → Q (.panic c) a w := by intro _ _ _ h; exact h) : qap P md ops Q S ex (fuel + 1) listed a w := qv0 HF hS ho hw hd hdn hok hQ hy k
theorem ql (hr : Region.ready md ops listed = []) (h : Q .normal a w) : qap P md ops Q S ex fuel listed a w := by
 cases fuel with
 | zero => exact ⟨hr, h⟩
 | succ f => exact ⟨fun _ => h, by rw [hr]; simp⟩
theorem all_nil {X : Nat → Prop} : ∀ i ∈ ([] : List Nat), X i := fun _ h => by cases h
theorem all_cons {X : Nat → Prop} {r : List Nat} (h : X i) (t : ∀ i ∈ r, X i) : ∀ j ∈ i :: r, X j := fun j hj => by
 rcases List.mem_cons.1 hj with rfl | hj
 ·exact h
 ·exact t j hj
theorem qj (rs : List Nat) (hr : Region.ready md ops listed = rs) (hne : rs.isEmpty = false) (h : ∀ i ∈ rs, wpOp P ops Q i (fun a' w' => (pastB ex (listed.setIfInBounds i true) = false → S w') ∧ qap P md ops Q S ex fuel (listed.setIfInBounds i true) a' w') a w) : qap P md ops Q S ex (fuel + 1) listed a w :=
 ⟨fun e => (by rw [hr] at e; subst e; cases hne), hr ▸ h⟩
theorem pastS {p : Prop} {l : Array Bool} (h : pastB ex l = true) : pastB ex l = false → p := fun e => by rw [h] at e; cases e
theorem keepS {c p X : Prop} (h : p) (k : p → X) : (c → p) ∧ X := ⟨fun _ => h, k h⟩
theorem noS {p X : Prop} {l : Array Bool} (h : pastB ex l = true) (k : X) : (pastB ex l = false → p) ∧ X := ⟨fun e => (by rw [h] at e; cases e), k⟩
theorem qn (HF : Fr a n D σ) (ho : ops[i]? = some o) (hw : wantB ops σ o = some true) (h : o.wp P a w K Q) : wpOp P ops Q i K a w := by
 unfold wpOp
 rw [ho]
 simp only [qcq HF hw, if_true]
 exact .inl h
end
def isOne (P : Program) (t : TypeId) : Bool := match P.underlying t with
 | some (.struct _) => false
 | some (.array _ _) => false
 | some _ => true
 | none => false
def qm3 (P : Program) (t : TypeId) : Option Nat := match P.underlying t with
 | some (.slice e) => (P.info? e).map (·.size)
 | _ => none
theorem qew {t : TypeId} (h : isOne P t = true) (w : World) : (isAgg t).run P w = .ok false w := by
 unfold isOne at h
 cases hu : P.underlying t with
 | none => rw [hu] at h; cases h
 | some d => rw [hu] at h; simp only [isAgg, Sem.run_bind, run_underlying hu, Result.andThen_ok]; cases d <;> first | rfl | cases h
theorem Yl.qh {t : TypeId} {x : Operand} {p : Addr} (hop : o.op = .load t x) (hx : look σ x = some (.pointer (some p))) (ht : isOne P t = true) (hc : ∀ w, S w → w.cell? p = some v) : Yl P S σ o v := fun a n D HF w hS => by
 unfold execOp
 simp [hop, HF.eval hx, Instr.loadAt, Instr.sureAddr, loadVar, qew ht, load, Sem.run, hc w hS]
theorem Yl.zl {t : TypeId} {x : Operand} {b off m : Nat} {cs : Array Value} (hop : o.op = .load t x) (hx : look σ x = some (.pointer (some ⟨b, off, none⟩))) (si : SI P t m) (hm : cs.size = m) (hc : ∀ w, S w → w.rangeAt b off cs.toList) : Yl P S σ o (.agg cs) := fun a n D HF w hS => by
 obtain ⟨ds, hu, hd⟩ := si.desc
 have hl := run_loadVar_mid (P := P) w b off t cs.toList ds (hc w hS) hu hd (by rw [si.size, ← hm]; simp)
 unfold execOp
 simp [hop, HF.eval hx, Instr.loadAt, Instr.sureAddr, hl]
theorem Yl.indexAddr {t : TypeId} {x ix : Operand} {ad : Addr} {m c y sz : Nat} {k : IntKind} (hop : o.op = .indexAddr t x ix) (hx : look σ x = some (.slice (some ad) m c)) (hi : look σ ix = some (.int k (y : Int))) (hy : y < m) (he : qm3 P t = some sz) : Yl P S σ o (.pointer (some (ad.add (y * sz)))) := fun a n D HF w hS => by
 unfold qm3 at he
 split at he
 ·rename_i e hu
  obtain ⟨i, hi', rfl⟩ := Option.map_eq_some_iff.1 he
  unfold execOp
  have h1 : ¬ m ≤ y := by omega
  simp [hop, HF.eval hx, HF.eval hi, Instr.indexAt, asIntOf, run_underlying hu, hy, sizeOf, typeInfo, hi']
 ·cases he
def isSl (P : Program) (t : TypeId) : Bool := match P.underlying t with
 | some (.slice _) => true
 | _ => false
theorem Yl.len {x : Operand} {t : TypeId} {A : Option Addr} {m c : Nat} (hop : o.op = .call { callee := .builtin .len, args := #[x], argTypes := #[t] }) (hx : look σ x = some (.slice A m c)) (ht : isSl P t = true) : Yl P S σ o (.int .i64 (m : Int)) := fun a n D HF w hS => by
 unfold isSl at ht
 split at ht
 ·rename_i e hu
  unfold execOp
  simp [hop, resolve, invoke, builtin, HF.eval hx, Builtin.len_, run_underlying hu, goInt]
 ·cases ht
theorem Yl.min {x y : Operand} {ts : Array TypeId} {k : IntKind} {p q : Int} (hop : o.op = .call { callee := .builtin .min, args := #[x, y], argTypes := ts }) (hx : look σ x = some (.int k p)) (hy : look σ y = some (.int k q)) : Yl P S σ o (.int k (if q < p then q else p)) := fun a n D HF w hS => by
 unfold execOp
 simp [hop, resolve, invoke, builtin, HF.eval hx, HF.eval hy, Builtin.min_, Builtin.min2]
theorem Yl.max {x y : Operand} {ts : Array TypeId} {k : IntKind} {p q : Int} (hop : o.op = .call { callee := .builtin .max, args := #[x, y], argTypes := ts }) (hx : look σ x = some (.int k p)) (hy : look σ y = some (.int k q)) : Yl P S σ o (.int k (if q > p then q else p)) := fun a n D HF w hS => by
 unfold execOp
 simp [hop, resolve, invoke, builtin, HF.eval hx, HF.eval hy, Builtin.max_, Builtin.max2]
theorem Yl.as {u : Value} (h : Yl P S σ o v) (e : v = u) : Yl P S σ o u := e ▸ h
theorem Yl.ix {t : TypeId} {x ix : Operand} (g of y sz : Nat) {m c : Nat} {k : IntKind} (hop : o.op = .indexAddr t x ix) (hx : look σ x = some (.slice (some ⟨g, of, none⟩) m c)) (hi : look σ ix = some (.int k (y : Int))) (hy : y < m := by omega) (he : qm3 P t = some sz := by kernel_rfl) : Yl P S σ o (.pointer (some ⟨g, of + y * sz, none⟩)) :=
 (Yl.indexAddr (ad := ⟨g, of, none⟩) hop hx hi hy he).as (by rw [Addr.add_mid])
theorem Yl.ix0 {t : TypeId} {x ix : Operand} (g y sz : Nat) {m c : Nat} {k : IntKind} (hop : o.op = .indexAddr t x ix) (hx : look σ x = some (.slice (some ⟨g, 0, none⟩) m c)) (hi : look σ ix = some (.int k (y : Int))) (hy : y < m := by omega) (he : qm3 P t = some sz := by kernel_rfl) : Yl P S σ o (.pointer (some ⟨g, y * sz, none⟩)) :=
 (Yl.indexAddr (ad := ⟨g, 0, none⟩) hop hx hi hy he).as (by rw [Addr.add_mid, Nat.zero_add])
end
section
variable {P : Program} {Q : Exit → Act → World → Prop} {a : Act} {W w : World} {n d : Nat} {D : List Deferred} {σ : List (Nat × Value)} {o : Oper} {v : Value} {K : Act → World → Prop} {fs : List Fact}
def qdw (P : Program) (e : TypeId) : Option (Array Value) := ((P.info? e).bind (·.zero)).map Value.cells
theorem qt3 {b : Value} {e : TypeId} {cs : Array Value} (hr : (execOp a.eval o).run P w = .ok (.value (.pointer (some ⟨w.heap.size, 0, none⟩))) (w.alloc (.cells cs e))) (HF : Fr a n D σ) (HM : Mem W w fs) (hd : o.dst = some d) (hdn : d < n)
  (k : ∀ a' w' g, Fr a' n D ((d, .pointer (some ⟨g, 0, none⟩)) :: σ) → Mem W w' (.blk g cs e :: fs) → K a' w') : o.wp P a w K Q := by
 have _ := b
 unfold Oper.wp
 rw [hr, Oper.upon_value, hd]
 exact k _ _ _ (HF.put hdn _) (HM.alloc cs e)
theorem qq (HF : Fr a n D σ) (HM : Mem W w fs) {e : TypeId} {cs : Array Value} (hop : o.op = .alloc e) (hz : qdw P e = some cs) (hd : o.dst = some d) (hdn : d < n)
  (k : ∀ a' w' g, Fr a' n D ((d, .pointer (some ⟨g, 0, none⟩)) :: σ) → Mem W w' (.blk g cs e :: fs) → K a' w') : o.wp P a w K Q := by
 refine qt3 (b := undef) ?_ HF HM hd hdn k
 unfold qdw at hz
 obtain ⟨z, hz1, rfl⟩ := Option.map_eq_some_iff.1 hz
 obtain ⟨i, hi, hz2⟩ := Option.bind_eq_some_iff.1 hz1
 unfold execOp
 simp [hop, Instr.alloc, zeroValue, typeInfo, hi, hz2, newVar, newRow, newObj]
 rfl
theorem e_box (HF : Fr a n D σ) (HM : Mem W w fs) {e : TypeId} {x : Operand} (hop : o.op = .box e x) (hx : look σ x = some v) {cs : Array Value} (hc : v.cells = cs) (hd : o.dst = some d) (hdn : d < n)
  (k : ∀ a' w' g, Fr a' n D ((d, .pointer (some ⟨g, 0, none⟩)) :: σ) → Mem W w' (.blk g cs e :: fs) → K a' w') : o.wp P a w K Q := by
 subst hc
 refine qt3 (b := undef) ?_ HF HM hd hdn k
 unfold execOp
 simp [hop, HF.eval hx, Instr.box, newVar, newRow, newObj]
 rfl
theorem qc4 {t : TypeId} {g off : Nat} (hs : (P.info? t).map (·.size) = some 1) (hv : v.oneCell' = true) {u : Value} (hc : w.cell? ⟨g, off, none⟩ = some u) (hf : w.frozen? ⟨g, off, none⟩ = false) :
  (Instr.storeAt t (.pointer (some ⟨g, off, none⟩)) v).run P w = .ok () (w.setCell ⟨g, off, none⟩ v) := by
 have ht : w.there g off 1 := fun j hj => by
  obtain rfl : j = 0 := by omega
  simp [hc, hf]
 have hv1 : v.cells = #[v] := by cases v <;> first | rfl | cases hv
 have := run_storeVar_mid (P := P) w g off t #[v] (by simpa using ht) (by simpa using hs) (by simp [hv])
 have e2 : storeVar t ⟨g, off, none⟩ v = storeVar t ⟨g, off, none⟩ (.agg #[v]) := by
  unfold storeVar
  rw [hv1]
  rfl
 simp only [Instr.storeAt, Instr.sureAddr, Sem.run_bind, Sem.run_pure, Result.andThen_ok, e2, this]
 rfl
theorem zb (HF : Fr a n D σ) (HM : Mem W w fs) {t : TypeId} {x y : Operand} {i g off : Nat} {cs : Array Value} {tb : TypeId} (hop : o.op = .store t x y) (hd : o.dst = none) (hx : look σ x = some (.pointer (some ⟨g, off, none⟩))) (hy : look σ y = some v) (hs : (P.info? t).map (·.size) = some 1) (hv : v.oneCell' = true)
  (hi : fs[i]? = some (.blk g cs tb)) (ho : off < cs.size) (k : ∀ w', Mem W w' (fs.set i (.blk g (cs.setIfInBounds off v) tb)) → K a w') : o.wp P a w K Q := by
 have hb := HM.blk hi
 have hc : w.cell? ⟨g, off, none⟩ = some cs[off] := HM.cell hi (Array.getElem?_eq_getElem ho)
 have hf : w.frozen? ⟨g, off, none⟩ = false := by simp [World.frozen?, hb]
 unfold Oper.wp execOp
 simp only [hop, HF.eval hx, HF.eval hy, Sem.run_bind, qc4 hs hv hc hf, Result.andThen_ok, Sem.run_pure, Oper.upon_skip, hd]
 exact k _ (HM.set hi v)
theorem qn3 (HF : Fr a n D σ) (HM : Mem W w fs) {t : TypeId} {x y : Operand} {i g m : Nat} {cs ds : Array Value} {tb : TypeId} (hop : o.op = .store t x y) (hd : o.dst = none) (hx : look σ x = some (.pointer (some ⟨g, 0, none⟩))) (hy : look σ y = some (.agg ds)) (si : SI P t m) (hc : cs.size = m) (hm : ds.size = m) (h1 : ∀ u ∈ ds.toList, u.oneCell' = true)
  (hi : fs[i]? = some (.blk g cs tb)) (k : ∀ w', Mem W w' (fs.set i (.blk g ds tb)) → K a w') : o.wp P a w K Q := by
 have hb := HM.blk hi
 have hl := run_storeVar_mid (P := P) w g 0 t ds (by rw [hm]; exact zf hb 0 m (by omega)) (by rw [hm]; exact si.size) (by simpa using all_oneCell_toArray h1)
 unfold Oper.wp execOp
 simp only [hop, HF.eval hx, HF.eval hy, Sem.run_bind, Instr.storeAt, Instr.sureAddr, Sem.run_pure, hl, Result.andThen_ok, Oper.upon_skip, hd]
 exact k _ (HM.setAll hi (by omega))
def callable (P : Program) (f : FuncId) : Bool := match P.funcs[f]? with
 | some fn => fn.name != "runtime.NumGoroutine" && fn.body.isSome
 | none => false
theorem qdk {f : FuncId} (h : callable P f = true) (args : Array Value) (w : World) : (callFunc f args).run P w = .ok (.enter f args) w := by
 unfold callable at h
 split at h
 ·rename_i fn hf
  rw [Bool.and_eq_true, bne_iff_ne] at h
  have hb : fn.body ≠ none := by intro e; rw [e] at h; simp at h
  simp [callFunc, hf, h.1, hb, program, Sem.run, Sem.run_bind]
 ·cases h
def looks (σ : List (Nat × Value)) : List Operand → Option (List Value)
 | [] => some []
 | x :: r => match look σ x, looks σ r with
  | some v, some vs => some (v :: vs)
  | _, _ => none
theorem qcr (HF : Fr a n D σ) : ∀ {xs : List Operand} {vs : List Value}, looks σ xs = some vs → xs.map a.eval = vs
 | [], vs, h => by cases h; rfl
 | x :: r, vs, h => by
  unfold looks at h
  split at h
  ·rename_i v us hx hr
   injection h with h
   subst h
   rw [List.map_cons, HF.eval hx, qcr HF hr]
  ·cases h
theorem qt4 (HF : Fr a n D σ) {f : FuncId} {xs : Array Operand} {ts : Array TypeId} {vs : List Value} {R : Ending → World → Prop} (hop : o.op = .call { callee := .value (.func f), args := xs, argTypes := ts }) (hv : looks σ xs.toList = some vs) (hf : callable P f = true) (hd : o.dst = some d) (hdn : d < n)
  (hC : Calls P f vs.toArray w R) (k : ∀ e w', R e w' → ∃ v, e = .returned v ∧ ∀ a', Fr a' n D ((d, v) :: σ) → K a' w') : o.wp P a w K Q := by
 have e1 : xs.map a.eval = vs.toArray := by
  have := qcr HF hv
  rw [← this, ← Array.toList_map, Array.toArray_toList]
 unfold Oper.wp execOp
 simp only [hop, resolve, Act.eval, Deferred.ofValue, invoke, Sem.run_bind, Sem.run_pure, Result.andThen_ok]
 have e2 : xs.map (fun x => a.eval x) = vs.toArray := e1
 have e3 : #[] ++ Array.map a.eval xs ++ #[] = vs.toArray := by simp [e1]
 show Oper.upon P o a K Q (((callFunc f (#[] ++ Array.map a.eval xs ++ #[])).run P w))
 rw [e3, qdk hf, Oper.upon_enter]
 refine hC.mono fun e w' he => ?_
 obtain ⟨v, rfl, h2⟩ := k e w' he
 show K (a.put o.dst v) w'
 rw [hd]
 exact h2 _ (HF.put hdn v)
theorem e_cl (HF : Fr a n D σ) (vs : List Value) {f : FuncId} {xs : Array Operand} {ts : Array TypeId} {R : Ending → World → Prop} (hop : o.op = .call { callee := .value (.func f), args := xs, argTypes := ts }) (hd : o.dst = some d) (hC : Calls P f vs.toArray w R)
  (k : ∀ e w', R e w' → ∃ v, e = .returned v ∧ ∀ a', Fr a' n D ((d, v) :: σ) → K a' w') (hv : looks σ xs.toList = some vs := by kernel_rfl) (hf : callable P f = true := by kernel_rfl) (hdn : d < n := by decide) : o.wp P a w K Q := qt4 HF hop hv hf hd hdn hC k
theorem e_is (HF : Fr a n D σ) (HM : Mem W w fs) (vs : List Value) (v : Value) {f : FuncId} {xs : Array Operand} {ts : Array TypeId} (hop : o.op = .call { callee := .value (.func f), args := xs, argTypes := ts }) (hd : o.dst = some d)
  (hC : Calls P f vs.toArray w (fun r w' => r = .returned v ∧ Below w.heap.size w w')) (k : ∀ w', Below w.heap.size w w' → Mem W w' fs → ∀ a', Fr a' n D ((d, v) :: σ) → K a' w') (hv : looks σ xs.toList = some vs := by kernel_rfl) (hf : callable P f = true := by kernel_rfl) (hdn : d < n := by decide) : o.wp P a w K Q :=
 qt4 HF hop hv hf hd hdn hC fun _ w' ⟨h1, h2⟩ => ⟨v, h1, k w' h2 (HM.call h2)⟩
theorem e_sa (HF : Fr a n D σ) (HM : Mem W w fs) (i : Nat) {t : TypeId} {x y : Operand} {g m : Nat} {cs ds : Array Value} {tb : TypeId} (hop : o.op = .store t x y) (hd : o.dst = none) (hx : look σ x = some (.pointer (some ⟨g, 0, none⟩))) (hy : look σ y = some (.agg ds)) (hi : fs[i]? = some (.blk g cs tb)) (si : SI P t m) (hc : cs.size = m) (hm : ds.size = m) (h1 : ∀ u ∈ ds.toList, u.oneCell' = true)
  (k : ∀ w', Mem W w' (fs.set i (.blk g ds tb)) → K a w') : o.wp P a w K Q := qn3 HF HM hop hd hx hy si hc hm h1 hi k
end
section
variable {P : Program} {Q : Exit → Act → World → Prop} {a : Act} {W w : World} {n d : Nat} {D : List Deferred} {σ : List (Nat × Value)} {o : Oper} {v : Value} {K : Act → World → Prop} {fs : List Fact}
theorem qv1 {base : Nat} {e : TypeId} {size m : Nat} {xs : List Value} (h : w.ownsRow base e size v m xs) (hm : 0 < m) : ∃ g c, v = .slice (some ⟨g, 0, none⟩) m c ∧ m ≤ c := by
 rcases h.2 with ⟨_, h2⟩ | ⟨g, cap, cur, h1, _, _, h2, _⟩
 ·omega
 ·exact ⟨g, cap, h1, h2⟩
theorem qa6 {base : Nat} {e : TypeId} {size m : Nat} {xs : List Value} (h : w.ownsRow base e size v m xs) : ∃ A c, v = .slice A m c ∧ m ≤ c := by
 rcases h.2 with ⟨h1, h2⟩ | ⟨g, cap, cur, h1, _, _, h2, _⟩
 ·subst h2; exact ⟨_, _, h1, Nat.le_refl _⟩
 ·exact ⟨_, cap, h1, h2⟩
theorem qz (HF : Fr a n D σ) (HM : Mem W w fs) {s x : Operand} {t e : TypeId} {z : Value} {size bytes i m0 m c B : Nat} {A : Option Addr} {xs news : List Value} (hop : o.op = .call { callee := .builtin .append, args := #[s, x], argTypes := #[t, t] }) (ei : EI P t e z size bytes)
  (hs : look σ s = some v) (hx : look σ x = some (.slice A m c)) (hi : fs[i]? = some (.row v m0 xs e size)) (hr : Rd w B size A m news) (h1 : ∀ u ∈ news, u.oneCell' = true) (hb : (m0 + m) * bytes ≤ 140737488355328) (h63 : m0 + m ≤ 9223372036854775807)
  (hd : o.dst = some d) (hdn : d < n) (k : ∀ a' w' A' c', Fr a' n D ((d, .slice A' (m0 + m) c') :: σ) → Mem W w' (fs.set i (.row (.slice A' (m0 + m) c') (m0 + m) (xs ++ news) e size)) → m0 + m ≤ c' → K a' w') : o.wp P a w K Q :=
 qgj hop ei (HM.own hi) (HF.eval hs) hr (HF.eval hx) h1 hb h63 HM.size fun A' c' w' ho hg hbl => by
  rw [hd]
  refine k _ _ _ _ (HF.put hdn _) (HM.append hi ho hg hbl) ?_
  rcases ho.2 with ⟨h2, h3⟩ | ⟨g, cap, cur, h2, _, _, h3, _⟩
  ·omega
  ·injection h2 with _ _ h4; omega
def qdx (σ : List (Nat × Value)) : List (Nat × Operand) → Option (List (Nat × Value))
 | [] => some []
 | (i, x) :: r => match look σ x, qdx σ r with
  | some v, some vs => some ((i, v) :: vs)
  | _, _ => none
theorem qf6 (HF : Fr a n D σ) : ∀ {ps : List (Nat × Operand)} {vs : List (Nat × Value)}, qdx σ ps = some vs → ps.map (fun p => (p.1, a.eval p.2)) = vs
 | [], vs, h => by cases h; rfl
 | (i, x) :: r, vs, h => by
  unfold qdx at h
  split at h
  ·rename_i v us hx hr
   injection h with h
   subst h
   rw [List.map_cons, HF.eval hx, qf6 HF hr]
  ·cases h
theorem qf7 (HF : Fr a n D σ) {ps : Array (Nat × Operand)} {vs : List (Nat × Value)} (h : qdx σ ps.toList = some vs) : ps.map (fun p => (p.1, a.eval p.2)) = vs.toArray := by
 rw [← qf6 HF h, ← Array.toList_map, Array.toArray_toList]
def qh8 (z : Array Value) (m : Nat) : Array Value := (Array.range m).map (z[· % z.size]!)
theorem zp (HF : Fr a n D σ) (HM : Mem W w fs) {t len e : Nat} {ps : Array (Nat × Operand)} {vs : List (Nat × Value)} {z : Value} {size bytes : Nat} {cs : Array Value} (hop : o.op = .buildSlice t len ps) (ei : EI P t e z size bytes) (hl : decide (0 < len ∧ len * size ≤ 16777216) = true) (hv : qdx σ ps.toList = some vs)
  (hf : Instr.fill (fun i => some (i * size, size)) (qh8 z.cells (len * size)) vs = some cs) (hd : o.dst = some d) (hdn : d < n)
  (k : ∀ a' w' g, Fr a' n D ((d, .slice (some ⟨g, 0, none⟩) len len) :: σ) → Mem W w' (.blk g cs e :: fs) → K a' w') : o.wp P a w K Q := by
 obtain ⟨i, hi, hz, hsz, _⟩ := info_parts ei.hi
 have hpos := ei.hs
 simp only [decide_eq_true_eq] at hl
 have h0 : ¬ len * size = 0 := by
  have := Nat.mul_pos hl.1 hpos
  omega
 have h2 : ¬ len * size > 2 ^ 24 := by omega
 have hrun : (execOp a.eval o).run P w = .ok (.value (.slice (some ⟨w.heap.size, 0, none⟩) len len)) (w.alloc (.cells cs e)) := by
  unfold execOp
  have hpm := qf7 HF hv
  unfold qh8 at hf
  simp only [hop]
  have e1 : (Instr.buildSlice t len (ps.map fun p => (p.1, a.eval p.2))).run P w = .ok (.slice (some ⟨w.heap.size, 0, none⟩) len len) (w.alloc (.cells cs e)) := by
   rw [hpm]
   unfold Instr.buildSlice
   simp only [Sem.run_bind, run_underlying ei.ht, Result.andThen_ok, sizeOf, typeInfo, program, Sem.run, hi, Sem.run_pure, hsz, if_neg h2, if_neg h0, zeroValue, hz, hf, newRow, newObj]
   rfl
  simp only [Sem.run_bind, Sem.run_pure]
  show ((Instr.buildSlice t len (ps.map fun p => (p.1, a.eval p.2))).run P w).andThen _ = _
  rw [e1]
  rfl
 unfold Oper.wp
 rw [hrun, Oper.upon_value, hd]
 exact k _ _ _ (HF.put hdn _) (HM.alloc cs e)
theorem Mem.qjs (h : Mem W w fs) {i g m c : Nat} {e : TypeId} {size : Nat} {xs : List Value} (hi : fs[i]? = some (.row (.slice (some ⟨g, 0, none⟩) m c) m xs e size)) (off : Nat) {ys : List Value} (hy : ∀ j u, ys[j]? = some u → xs[off + j]? = some u) : w.rangeAt g off ys := fun j u hu => by
 have ho := h.own hi
 have := ho.cells (g := g) rfl (off + j) u (hy j u hu)
 rw [Addr.add_mid, Nat.zero_add] at this
 exact this
theorem Mem.qwo (h : Mem W w fs) {i g m c : Nat} {e : TypeId} {size : Nat} {xs : List Value} (hi : fs[i]? = some (.row (.slice (some ⟨g, 0, none⟩) m c) m xs e size)) : w.rangeAt g 0 xs := h.qjs hi 0 (fun j u hu => by rw [Nat.zero_add]; exact hu)
theorem qm4 (HF : Fr a n D σ) (HM : Mem W w fs) {t e : Nat} {z : Value} {size bytes : Nat} (hop : o.op = .buildSlice t 0 #[]) (ei : EI P t e z size bytes) (hd : o.dst = some d) (hdn : d < n)
  (k : ∀ a' w' g, Fr a' n D ((d, .slice (some ⟨g, 0, none⟩) 0 0) :: σ) → Mem W w' (.row (.slice (some ⟨g, 0, none⟩) 0 0) 0 [] e size :: fs) → K a' w') : o.wp P a w K Q := by
 obtain ⟨i, hi, hz, hsz, _⟩ := info_parts ei.hi
 have hrun : (execOp a.eval o).run P w = .ok (.value (.slice (some ⟨w.heap.size, 0, none⟩) 0 0)) (w.alloc (.cells #[] e)) := by
  unfold execOp
  simp only [hop]
  have e1 : (Instr.buildSlice t 0 #[]).run P w = .ok (.slice (some ⟨w.heap.size, 0, none⟩) 0 0) (w.alloc (.cells #[] e)) := by
   unfold Instr.buildSlice
   simp only [Sem.run_bind, run_underlying ei.ht, Result.andThen_ok, sizeOf, typeInfo, program, Sem.run, hi, Sem.run_pure, newRow, newObj]
   simp [Instr.fill, show Array.range 0 = #[] from rfl]
   rfl
  simp only [Sem.run_bind, Sem.run_pure, List.map_toArray, List.map_nil]
  show ((Instr.buildSlice t 0 #[]).run P w).andThen _ = _
  rw [e1]
  rfl
 unfold Oper.wp
 rw [hrun, Oper.upon_value, hd]
 refine k _ _ w.heap.size (HF.put hdn _) ?_
 have := (HM.alloc #[] e).blkRow (i := 0) (size := size) (n := 0) rfl (by simp) (by omega)
 exact this
def qex : Nat → List Value → List (Nat × Value)
 | _, [] => []
 | i, v :: r => (i, v) :: qex (i + 1) r
theorem qdl : ∀ (vs : List Value) (i t : Nat) (v : Value), (qex i vs).lookup t = some v → i ≤ t ∧ vs[t - i]? = some v
 | [], _, _, _, h => by cases h
 | u :: r, i, t, v, h => by
  rw [qex, List.lookup_cons] at h
  split at h
  ·rename_i e
   rw [beq_iff_eq] at e
   subst e
   exact ⟨Nat.le_refl _, by simpa using h⟩
  ·obtain ⟨h1, h2⟩ := qdl r (i + 1) t v h
   refine ⟨by omega, ?_⟩
   rw [show t - i = (t - (i + 1)) + 1 by omega, List.getElem?_cons_succ]
   exact h2
theorem qg {f N : Nat} {fn : Func} {c : Code} {vs : List Value} {R : Ending → World → Prop} (hf : P.funcs[f]? = some fn) (hb : fn.body = some c) (hn : fn.ntmps = N) (hl : decide (vs.length ≤ N) = true) {σ0 : List (Nat × Value)} (h0 : qex 0 vs = σ0)
  (k : ∀ a, Fr a N [] σ0 → c.wp P (bodyPost P fn R) a w) : Calls P f vs.toArray w R := by
 subst h0
 rw [decide_eq_true_eq] at hl
 refine calls_of_wp hf hb (k _ ⟨by simp [hn]; omega, rfl, fun t v hv => ?_⟩)
 obtain ⟨_, h1⟩ := qdl vs 0 t v hv
 rw [Nat.sub_zero] at h1
 have hlt := (List.getElem?_eq_some_iff.1 h1).1
 simp only [Array.getD_eq_getD_getElem?, Array.getElem?_append, List.size_toArray, if_pos hlt]
 simp [h1]
def qey (tmps : Array Value) : ResultVar → Sem Value
 | .tmp t => pure (tmps.getD t undef)
 | .cell b t => do loadVar t (← asAddr (tmps.getD b undef))
def qba (P : Program) (a : Act) (w : World) (r : ResultVar) (v : Value) : Prop := (qey a.tmps r).run P w = .ok v w
theorem qc5 (fn : Func) (tmps : Array Value) : results fn tmps = (do
 let vs ← fn.results.mapM (qey tmps)
 pure (if h : vs.size = 1 then vs[0] else .tuple vs)) := by
 unfold results
 have : qey tmps = (fun | .tmp t => pure (tmps.getD t undef) | .cell a t => do loadVar t (← asAddr (tmps.getD a undef))) := by
  funext r; cases r <;> rfl
 rw [this]
 rfl
theorem qba.tmp {t : Nat} (HF : Fr a n D σ) (h : σ.lookup t = some v) : qba P a w (.tmp t) v := by
 unfold qba qey
 simp only [HF.slot t v h]
 rfl
theorem qba.cellS {b i g m : Nat} {t tb : TypeId} {cs : Array Value} (HF : Fr a n D σ) (HM : Mem W w fs) (h : σ.lookup b = some (.pointer (some ⟨g, 0, none⟩))) (hi : fs[i]? = some (.blk g cs tb)) (si : SI P t m) (hm : cs.size = m) : qba P a w (.cell b t) (.agg cs) := by
 obtain ⟨ds, hu, hd⟩ := si.desc
 have hl := run_loadVar_mid (P := P) w g 0 t cs.toList ds (qf (HM.blk hi)) hu hd (by rw [si.size, ← hm]; simp)
 unfold qba qey
 simp only [HF.slot b _ h]
 simp [asAddr, hl]
theorem qba.cell1 {b i g : Nat} {t tb : TypeId} {cs : Array Value} (HF : Fr a n D σ) (HM : Mem W w fs) (h : σ.lookup b = some (.pointer (some ⟨g, 0, none⟩))) (hi : fs[i]? = some (.blk g cs tb)) (ht : isOne P t = true) (hc : cs[0]? = some v) : qba P a w (.cell b t) v := by
 unfold qba qey
 simp only [HF.slot b _ h]
 simp [asAddr, loadVar, qew ht, load, Sem.run, HM.cell hi hc]
section
variable {fn : Func} {R : Ending → World → Prop}
theorem ret1 {r1 : ResultVar} {v1 : Value} (hr : fn.results = #[r1]) (HF : Fr a n [] σ) (h1 : qba P a w r1 v1) (hR : R (.returned v1) w) : bodyPost P fn R .ret a w :=
 bodyPost_ret (v := v1) (by
  unfold qba at h1
  rw [qc5, hr]
  generalize qey a.tmps = f at *
  simp [h1]) HF.defers hR
theorem ret2 {r1 r2 : ResultVar} {v1 v2 : Value} (hr : fn.results = #[r1, r2]) (HF : Fr a n [] σ) (h1 : qba P a w r1 v1) (h2 : qba P a w r2 v2) (hR : R (.returned (.tuple #[v1, v2])) w) : bodyPost P fn R .ret a w :=
 bodyPost_ret (v := .tuple #[v1, v2]) (by
  unfold qba at h1 h2
  rw [qc5, hr]
  generalize qey a.tmps = f at *
  simp [h1, h2]) HF.defers hR
theorem ret3 {r1 r2 r3 : ResultVar} {v1 v2 v3 : Value} (hr : fn.results = #[r1, r2, r3]) (HF : Fr a n [] σ) (h1 : qba P a w r1 v1) (h2 : qba P a w r2 v2) (h3 : qba P a w r3 v3) (hR : R (.returned (.tuple #[v1, v2, v3])) w) : bodyPost P fn R .ret a w :=
 bodyPost_ret (v := .tuple #[v1, v2, v3]) (by
  unfold qba at h1 h2 h3
  rw [qc5, hr]
  generalize qey a.tmps = f at *
  simp [h1, h2, h3]) HF.defers hR
end
theorem qe {c : Operand} {x y : Code} (HF : Fr a n D σ) (hc : look σ c = some (.bool true)) (h : x.wp P Q a w) : (Code.cond c x y).wp P Q a w := wp_cond_true (HF.eval hc) h
theorem qd {c : Operand} {x y : Code} (HF : Fr a n D σ) (hc : look σ c = some (.bool false)) (h : y.wp P Q a w) : (Code.cond c x y).wp P Q a w := wp_cond_false (HF.eval hc) h
theorem Fr.as {u : Value} {t : Nat} (h : Fr a n D σ) (hl : σ.lookup t = some v) (e : v = u) : Fr a n D ((t, u) :: σ) := by
 subst e
 refine ⟨h.size, h.defers, fun s x hx => ?_⟩
 rw [List.lookup_cons] at hx
 split at hx
 ·rename_i hs
  rw [beq_iff_eq] at hs
  subst hs
  injection hx with hx
  subst hx
  exact h.slot s v hl
 ·exact h.slot s x hx
theorem qaq {x y : Code} (R : Act → World → Prop) (h : x.wp P (Exit.then R Q) a w) (k : ∀ a w, R a w → y.wp P Q a w) : (Code.seq x y).wp P Q a w :=
 wp_seq (Code.wp_mono (fun e a w hq => by cases e <;> first | exact k _ _ hq | exact hq) h)
theorem qs {c : Code} (J : Nat → Act → World → Prop) {m : Nat} (h0 : J m a w) (round : ∀ k a w, J k a w → c.wp P (Exit.then (fun a' w' => ∃ k', k' < k ∧ J k' a' w') Q) a w) : (Code.loop c).wp P Q a w := by
 intro b ks cs
 have key : ∀ m a w, J m a w → ∃ e a' w', Q e a' w' ∧ Arrives P (lone (b.at a (.code c :: .inLoop c :: ks)) cs w) b ks cs e a' w' := by
  intro m
  induction m using Nat.strongRecOn with
  | _ m ih =>
   intro a w hJ
   obtain ⟨e, a1, w1, hq, harr⟩ := round m a w hJ b (.inLoop c :: ks) cs
   cases e with
   | normal =>
    obtain ⟨m', hlt, hJ'⟩ := hq
    obtain ⟨e2, a2, w2, hq2, harr2⟩ := ih m' hlt a1 w1 hJ'
    exact ⟨e2, a2, w2, hq2, .of_steps (Steps.trans harr (.one step_inLoop)) harr2⟩
   | exit id => exact ⟨_, a1, w1, hq, .pass (x := .inLoop c) rfl (fun _ _ => .inl (by simp)) harr⟩
   | goto l => exact ⟨_, a1, w1, hq, .pass (x := .inLoop c) rfl (fun _ _ => .inl (by simp)) harr⟩
   | ret => exact ⟨_, a1, w1, hq, .pass (x := .inLoop c) rfl (fun _ _ => .inl (by simp)) harr⟩
   | panic ch => exact ⟨_, a1, w1, hq, .pass (x := .inLoop c) rfl (fun _ _ => .inl (by simp)) harr⟩
   | outgrown => exact ⟨_, a1, w1, hq, .pass (x := .inLoop c) rfl (fun _ _ => .inl (by simp)) harr⟩
 obtain ⟨e, a', w', hq, harr⟩ := key m a w h0
 exact ⟨e, a', w', hq, .of_steps (.one step_loop) harr⟩
end
def putAt (xs : List Value) (off : Nat) (vs : List Value) : List Value := xs.take off ++ vs ++ xs.drop (off + vs.length)
theorem qkb {xs : List Value} {off : Nat} {vs : List Value} (h : off + vs.length ≤ xs.length) : (putAt xs off vs).length = xs.length := by
 unfold putAt
 simp only [List.length_append, List.length_take, List.length_drop]
 omega
theorem qez {xs : List Value} {off : Nat} {vs : List Value} (h : off + vs.length ≤ xs.length) (j : Nat) : (putAt xs off vs)[j]? = if off ≤ j ∧ j < off + vs.length then vs[j - off]? else xs[j]? := by
 unfold putAt
 have h1 : (xs.take off).length = off := by rw [List.length_take]; omega
 rw [List.append_assoc]
 rcases Nat.lt_or_ge j off with h2 | h2
 ·rw [if_neg (by omega), List.getElem?_append_left (by omega), List.getElem?_take, if_pos h2]
 ·rw [List.getElem?_append_right (by omega), h1]
  rcases Nat.lt_or_ge j (off + vs.length) with h3 | h3
  ·rw [if_pos ⟨h2, h3⟩, List.getElem?_append_left (by omega)]
  ·rw [if_neg (by omega), List.getElem?_append_right (by omega), List.getElem?_drop]
   congr 1
   omega
theorem qfq {w : World} {g : Nat} {cur : Array Value} {e : TypeId} (hb : w.heap[g]? = some (.cells cur e (0, 0))) (off : Nat) (vs : List Value) (hl : off + vs.length ≤ cur.size) :
  (w.setCells g off vs).heap[g]? = some (.cells (putAt cur.toList off vs).toArray e (0, 0)) := by
 have h1 : cur = (cur.toList.take off ++ (cur.toList.drop off).take vs.length ++ cur.toList.drop (off + vs.length)).toArray := by
  apply Array.toList_inj.1
  simp only [List.append_assoc]
  rw [← List.drop_drop, List.take_append_drop, List.take_append_drop]
 have h2 := qbt g e vs w (cur.toList.take off) (cur.toList.drop (off + vs.length)) ((cur.toList.drop off).take vs.length) (by rw [← h1]; exact hb) (by simp only [List.length_take, List.length_drop, Array.length_toList]; omega)
 rw [List.length_take, Array.length_toList, Nat.min_eq_left (by omega)] at h2
 exact h2
section
variable {P : Program} {Q : Exit → Act → World → Prop} {a : Act} {W w : World} {n d : Nat} {D : List Deferred} {σ : List (Nat × Value)} {o : Oper} {v : Value} {K : Act → World → Prop} {fs : List Fact}
theorem Mem.rowSet (h : Mem W w fs) {i g m c : Nat} {e : TypeId} {size : Nat} {xs : List Value} (hi : fs[i]? = some (.row (.slice (some ⟨g, 0, none⟩) m c) m xs e size)) {off : Nat} {vs : List Value} (hl : off + vs.length ≤ xs.length) :
  Mem W (w.setCells g off vs) (fs.set i (.row (.slice (some ⟨g, 0, none⟩) m c) m (putAt xs off vs) e size)) := by
 have ho := h.own hi
 obtain ⟨hlen, h2⟩ := ho
 rcases h2 with ⟨h3, _⟩ | ⟨g', cap, cur, hv, hb, hg, hnc, hcm, hcs, ht⟩
 ·cases h3
 ·injection hv with hv hv2 hv3
  injection hv with hv
  injection hv with hv
  subst hv; subst hv3
  have hcur : m * size ≤ cur.size := by rw [hcs]; exact Nat.mul_le_mul_right _ hnc
  refine h.turn hi (below_setCells h.below hb off vs) (fun k hk hne => qae _ _ _ _ _ (fun e => hne (by rw [e]; rfl))) ?_ (fun g' hg' => .inl hg')
  refine ⟨by rw [qkb hl]; exact hlen, .inr ⟨g, c, _, rfl, hb, qfq hg off vs (by omega), hnc, hcm, ?_, ?_⟩⟩
  ·rw [List.size_toArray, qkb (by simpa using (by omega : off + vs.length ≤ cur.size)), Array.length_toList, hcs]
  ·show (putAt cur.toList off vs).take (m * size) = putAt xs off vs
   subst ht
   have hl' : off + vs.length ≤ cur.toList.length ∧ off + vs.length ≤ m * size := by
    rw [List.length_take, Array.length_toList] at hl
    rw [Array.length_toList]
    omega
   apply List.ext_getElem?
   intro j
   rw [qez hl, List.getElem?_take, List.getElem?_take, qez hl'.1]
   by_cases h3 : off ≤ j ∧ j < off + vs.length
   ·rw [if_pos h3, if_pos (by omega), if_pos h3]
   ·rw [if_neg h3, if_neg h3]
theorem qhw (h : Mem W w fs) {i g m c : Nat} {e : TypeId} {size : Nat} {xs : List Value} (hi : fs[i]? = some (.row (.slice (some ⟨g, 0, none⟩) m c) m xs e size)) (off k : Nat) (hl : off + k ≤ xs.length) : w.there g off k := by
 have ho := h.own hi
 obtain ⟨hlen, h2⟩ := ho
 rcases h2 with ⟨h3, _⟩ | ⟨g', cap, cur, hv, hb, hg, hnc, hcm, hcs, ht⟩
 ·cases h3
 ·injection hv with hv hv2 hv3
  injection hv with hv
  injection hv with hv
  subst hv; subst hv3
  have hcur : m * size ≤ cur.size := by rw [hcs]; exact Nat.mul_le_mul_right _ hnc
  exact zf hg off k (by omega)
theorem qn4 (HF : Fr a n D σ) (HM : Mem W w fs) {t : TypeId} {x y : Operand} {i g off m c : Nat} {xs : List Value} {e : TypeId} {size : Nat} (hop : o.op = .store t x y) (hd : o.dst = none) (hx : look σ x = some (.pointer (some ⟨g, off, none⟩))) (hy : look σ y = some v) (hs : (P.info? t).map (·.size) = some 1) (hv : v.oneCell' = true)
  (hi : fs[i]? = some (.row (.slice (some ⟨g, 0, none⟩) m c) m xs e size)) (ho : off < xs.length) (k : ∀ w', Mem W w' (fs.set i (.row (.slice (some ⟨g, 0, none⟩) m c) m (putAt xs off [v]) e size)) → K a w') : o.wp P a w K Q := by
 have ht := qhw HM hi off 1 (by omega) 0 (by omega)
 rw [Nat.add_zero] at ht
 obtain ⟨u, hu⟩ := Option.isSome_iff_exists.1 ht.1
 unfold Oper.wp execOp
 simp only [hop, HF.eval hx, HF.eval hy, Sem.run_bind, qc4 hs hv hu ht.2, Result.andThen_ok, Sem.run_pure, Oper.upon_skip, hd]
 exact k _ (HM.rowSet hi (vs := [v]) ho)
theorem Mem.asRow (h : Mem W w fs) {i m : Nat} {e : TypeId} {size : Nat} {xs ys : List Value} (hi : fs[i]? = some (.row v m xs e size)) (he : xs = ys) : Mem W w (fs.set i (.row v m ys e size)) := by
 subst he
 obtain ⟨hl, hg⟩ := List.getElem?_eq_some_iff.1 hi
 rw [← hg, List.set_getElem_self]
 exact h
end
theorem qh9 {α : Type} (f : α → List Value) (sz : Nat) (hf : ∀ x, (f x).length = sz) : ∀ (l : List α) (k : Nat) (x : α), k < l.length → putAt (l.flatMap f) (k * sz) (f x) = (l.set k x).flatMap f
 | [], k, x, h => by simp at h
 | y :: r, 0, x, h => by
  unfold putAt
  rw [Nat.zero_mul, Nat.zero_add, hf, List.flatMap_cons, List.set_cons_zero, List.flatMap_cons, List.take_zero, List.nil_append, List.drop_append_of_le_length (by rw [hf]; exact Nat.le_refl _), List.drop_of_length_le (by rw [hf]; exact Nat.le_refl _), List.nil_append]
 | y :: r, k + 1, x, h => by
  have ih := qh9 f sz hf r k x (by simpa using h)
  unfold putAt at ih ⊢
  rw [List.flatMap_cons, List.set_cons_succ, List.flatMap_cons, ← ih, Nat.succ_mul]
  have e1 : (f y ++ r.flatMap f).take (k * sz + sz) = f y ++ (r.flatMap f).take (k * sz) := by
   rw [List.take_append, List.take_of_length_le (by rw [hf]; omega), hf, Nat.add_sub_cancel]
  have e2 : (f y ++ r.flatMap f).drop (k * sz + sz + (f x).length) = (r.flatMap f).drop (k * sz + (f x).length) := by
   rw [List.drop_append, List.drop_of_length_le (by rw [hf]; omega), List.nil_append, hf y]
   congr 1
   omega
  rw [e1, e2]
  simp only [List.append_assoc]
theorem qn5 {α : Type} (f : α → List Value) (sz : Nat) (hf : ∀ x, (f x).length = sz) (l : List α) (k : Nat) (y x : α) (hk : l[k]? = some y) (off : Nat) (ho : off < sz) (v : Value) (hx : f x = (f y).set off v) : putAt (l.flatMap f) (k * sz + off) [v] = (l.set k x).flatMap f := by
 obtain ⟨hl, he⟩ := List.getElem?_eq_some_iff.1 hk
 rw [← qh9 f sz hf l k x hl, hx]
 have hlen := qay f sz hf l
 have hsz : k * sz + sz ≤ l.length * sz := by rw [← Nat.succ_mul]; exact Nat.mul_le_mul_right _ hl
 have hfl : ((f y).set off v).length = sz := by rw [List.length_set, hf]
 apply List.ext_getElem?
 intro j
 rw [qez (by rw [List.length_singleton]; omega), qez (by rw [hfl]; omega), hfl, List.length_singleton]
 by_cases h1 : k * sz ≤ j ∧ j < k * sz + sz
 ·rw [if_pos h1]
  have hat := qek f sz hf l k (j - k * sz) hl (by omega)
  rw [he, show k * sz + (j - k * sz) = j by omega] at hat
  by_cases h2 : k * sz + off ≤ j ∧ j < k * sz + off + 1
  ·obtain rfl : j = k * sz + off := by omega
   rw [if_pos h2, Nat.sub_self, show k * sz + off - k * sz = off by omega, List.getElem?_set_self (by rw [hf]; exact ho)]
   rfl
  ·rw [if_neg h2, hat, List.getElem?_set_ne (by omega)]
 ·rw [if_neg h1, if_neg (by omega)]
theorem Mem.qda {W w : World} {fs : List Fact} (h : Mem W w fs) {α : Type} {f : α → List Value} {sz : Nat} (hf : ∀ x, (f x).length = sz) {i g m c : Nat} {e : TypeId} {l : List α} (hi : fs[i]? = some (.row (.slice (some ⟨g, 0, none⟩) m c) m (l.flatMap f) e sz)) {k off : Nat} {x : α} {v : Value} (hk : l[k]? = some x) (hv : (f x)[off]? = some v) : w.cell? ⟨g, k * sz + off, none⟩ = some v := by
 obtain ⟨hl, he⟩ := List.getElem?_eq_some_iff.1 hk
 have ho : off < sz := by have := (List.getElem?_eq_some_iff.1 hv).1; rwa [hf] at this
 have := h.qjs hi (k * sz + off) (ys := [v]) (fun j u hu => by
  cases j with
  | zero =>
   injection hu with hu
   subst hu
   rw [Nat.add_zero, qek f sz hf l k off hl ho, he]
   exact hv
  | succ j => cases hu)
 exact this 0 v rfl
section
variable {w : World} {B size n : Nat} {A : Option Addr} {xs : List Value} {g o : Nat}
theorem Rd.zm (h : Rd w B size A n xs) (hn : 0 < n) (hs : 0 < size) : ∃ g o, A = some ⟨g, o, none⟩ ∧ g < B := by
 obtain ⟨ad, rfl, hb, hc⟩ := h.row hn
 have hl := h.len
 have h1 : n * size ≥ 1 * 1 := Nat.mul_le_mul hn hs
 have hsp := qjz (hc 0 _ (List.getElem?_eq_getElem (by omega)))
 have hs' : ad.spot = none := by simpa [Addr.add] using hsp
 obtain ⟨g, o, sp⟩ := ad
 cases hs'
 exact ⟨g, o, rfl, hb⟩
theorem Rd.range (h : Rd w B size (some ⟨g, o, none⟩) n xs) : w.rangeAt g o xs := fun j u hu => by
 have hj := (List.getElem?_eq_some_iff.1 hu).1
 rcases Nat.eq_zero_or_pos n with rfl | hn
 ·have := h.len; omega
 ·obtain ⟨ad, e, hb, hc⟩ := h.row hn
  injection e with e
  subst e
  have := hc j u hu
  rwa [Addr.add_mid] at this
theorem Rd.qbw (h : Rd w B 1 (some ⟨g, o, none⟩) n xs) {k : Nat} {u : Value} (hu : xs[k]? = some u) : w.cell? ⟨g, o + k * 1, none⟩ = some u := by rw [Nat.mul_one]; exact h.range k u hu
theorem Rd.qad {α : Type} {f : α → List Value} (hf : ∀ x, (f x).length = size) {l : List α} (h : Rd w B size (some ⟨g, o, none⟩) n (l.flatMap f)) {k : Nat} {x : α} (hk : l[k]? = some x) : w.rangeAt g (o + k * size) (f x) := fun j u hu => by
 obtain ⟨hl, he⟩ := List.getElem?_eq_some_iff.1 hk
 have hj : j < size := by have := (List.getElem?_eq_some_iff.1 hu).1; rwa [hf] at this
 have h1 := h.range (k * size + j) u ((qek f size hf l k j hl hj).trans (by rw [he]; exact hu))
 rw [← Nat.add_assoc] at h1
 exact h1
theorem Rd.partAt {α : Type} {f : α → List Value} (hf : ∀ x, (f x).length = size) {l : List α} (h : Rd w B size (some ⟨g, o, none⟩) n (l.flatMap f)) {k j : Nat} {x : α} {u : Value} (hk : l[k]? = some x) (hu : (f x)[j]? = some u) : w.cell? ⟨g, o + k * size + j, none⟩ = some u := h.qad hf hk j u hu
end
section
variable {W w : World} {fs : List Fact}
theorem Mem.qsc (h : Mem W w fs) {i g m c : Nat} {e : TypeId} {xs : List Value} (hi : fs[i]? = some (.row (.slice (some ⟨g, 0, none⟩) m c) m xs e 1)) {k : Nat} {u : Value} (hu : xs[k]? = some u) : w.cell? ⟨g, k * 1, none⟩ = some u := by
 have h1 := h.qwo hi k u hu
 rwa [Nat.zero_add, ← Nat.mul_one k] at h1
theorem Mem.reRow (h : Mem W w fs) {i n n' : Nat} {A : Option Addr} {c size : Nat} {e : TypeId} {xs ys : List Value} (hi : fs[i]? = some (.row (.slice A n c) n xs e size)) (hn : n = n') (hx : xs = ys) : Mem W w (fs.set i (.row (.slice A n' c) n' ys e size)) := by
 subst hn; subst hx
 obtain ⟨hl, he⟩ := List.getElem?_eq_some_iff.1 hi
 rw [← he, List.set_getElem_self]
 exact h
end
theorem qaw {α : Type} {F : α → Value} {l : List α} {k : Nat} {x : α} (h : l[k]? = some x) : (l.map F)[k]? = some (F x) := by rw [List.getElem?_map, h]; rfl
section
variable {P : Program} {Q : Exit → Act → World → Prop} {a : Act} {W w : World} {n d : Nat} {D : List Deferred} {σ : List (Nat × Value)} {o : Oper} {K : Act → World → Prop} {fs : List Fact}
theorem quu (HF : Fr a n D σ) (HM : Mem W w fs) {t e : Nat} {l c : Operand} {z : Value} {size bytes m : Nat} {kl kc : IntKind} (hop : o.op = .makeSlice t l c) (ei : EI P t e z size bytes) (hl : look σ l = some (.int kl 0)) (hc : look σ c = some (.int kc (m : Int))) (hb : bytes * m ≤ 281474976710656) (h63 : m ≤ 9223372036854775807) (hd : o.dst = some d) (hdn : d < n)
  (k : ∀ a' w' g, Fr a' n D ((d, .slice (some ⟨g, 0, none⟩) 0 m) :: σ) → Mem W w' (.row (.slice (some ⟨g, 0, none⟩) 0 m) 0 [] e size :: fs) → K a' w') : o.wp P a w K Q := by
 obtain ⟨i, hi, hz, hsz, hby⟩ := info_parts ei.hi
 obtain ⟨w', hrun, hown, hgr⟩ := run_make_own (P := P) w w.heap.size t e i z size ei.ht hi hz hsz kl kc m (by rw [hby]; exact hb) h63 (Nat.le_refl _)
 have e1 : (execOp a.eval o).run P w = .ok (.value (.slice (some ⟨w.heap.size, 0, none⟩) 0 m)) w' := by
  unfold execOp
  simp only [hop, HF.eval hl, HF.eval hc, Sem.run_bind]
  rw [hrun]
  rfl
 unfold Oper.wp
 rw [e1, Oper.upon_value, hd]
 exact k _ _ _ (HF.put hdn _) (HM.callRow ((Below.refl _ _).grown hgr (Nat.le_refl _) (fun _ h => by cases h)) hown)
end
theorem Rd.pre {w : World} {B n m : Nat} {A : Option Addr} {l r : List Nat} (h : Rd w B 1 A m ((l ++ r).map B8)) (hl : l.length = n) (hm : n ≤ m) : Rd w B 1 A n (l.map B8) := by
 have h1 := h.upto hm
 rwa [Nat.mul_one, List.map_append, List.take_append_of_le_length (by simp [hl]), List.take_of_length_le (by simp [hl])] at h1
theorem Mem.sub {W w : World} {fs : List Fact} (h : Mem W w fs) {i g : Nat} {cs : Array Value} {t : TypeId} (hi : fs[i]? = some (.blk g cs t)) (off : Nat) {ds : Array Value} (he : (cs.toList.drop off).take ds.size = ds.toList) : w.rangeAt g off ds.toList := fun j u hu => by
 have hr : w.rangeAt g 0 cs.toList := qf (h.blk hi)
 have hc : cs.toList[off + j]? = some u := by
  rw [← he, List.getElem?_take] at hu
  split at hu
  ·rwa [List.getElem?_drop] at hu
  ·cases hu
 have := hr (off + j) u hc
 rwa [Nat.zero_add] at this
section
variable {P : Program} {S : World → Prop} {σ : List (Nat × Value)} {o : Oper}
end
theorem Rd.toB8 {w : World} {B n k : Nat} {A : Option Addr} {l : List Nat} (h : Rd w B 1 A n (l.map B8)) (hk : k ≤ n) : Rd w B 1 A k ((l.take k).map B8) := by
 have h1 := h.upto hk
 rwa [Nat.mul_one, ← List.map_take] at h1
def I64i (x : Int) : Value := .int .i64 x
theorem Mem.picksT {W w : World} {fs fs' : List Fact} (h : Mem W w fs) (n : Nat) (is : List Nat) (hn : is.Nodup) (hlt : (is.all (· < n)) = true) (he : Go.Proofs.YtfeheccoijnbaaaDoor.picks fs is ++ fs.drop n = fs') : Mem W w fs' := by
 subst he
 refine ⟨h.below, fun f hf => ?_, List.pairwise_append.2 ⟨qbk h.apart hn, ?_, ?_⟩⟩
 ·rcases List.mem_append.1 hf with hf | hf
  ·obtain ⟨j, _, hj⟩ := List.mem_filterMap.1 hf
   exact h.holds f (List.mem_of_getElem? hj)
  ·exact h.holds f (List.mem_of_mem_drop hf)
 ·exact h.apart.sublist (List.drop_sublist _ _)
 ·intro f hf g hg
  obtain ⟨j, hj, hjf⟩ := List.mem_filterMap.1 hf
  have hjn : j < n := by simpa using List.all_eq_true.1 hlt j hj
  obtain ⟨i, hi, hig⟩ := List.getElem_of_mem hg
  rw [List.getElem_drop] at hig
  rw [List.length_drop] at hi
  obtain ⟨hjl, hje⟩ := List.getElem?_eq_some_iff.1 hjf
  have := List.pairwise_iff_getElem.1 h.apart j (n + i) hjl (by omega) (by omega)
  rwa [hje, hig] at this
end Go.Proofs.YtfeheccoijnbaaaDoor
namespace Go.Proofs.YtfeheccoijnbaaaDoor
open Go.RowKit Go.MapKept
section
variable {P : Program} {Q : Exit → Act → World → Prop} {a : Act} {W w : World} {n d : Nat} {D : List Deferred} {σ : List (Nat × Value)} {o : Oper} {K : Act → World → Prop} {fs : List Fact} {S : World → Prop}
theorem Mem.objAt (h : Mem W w fs) {i g : Nat} {ob : Obj} (hi : fs[i]? = some (.obj g ob)) : w.heap[g]? = some ob := (h.holds _ (List.mem_of_getElem? hi)).2
theorem Mem.setObj (h : Mem W w fs) {i g : Nat} {ob : Obj} (hi : fs[i]? = some (.obj g ob)) (ob' : Obj) : Mem W { w with heap := w.heap.setIfInBounds g ob' } (fs.set i (.obj g ob')) := by
 have hb := h.holds _ (List.mem_of_getElem? hi)
 have hlt := zx hb.2
 have hother : ∀ k, k ≠ g → (w.heap.setIfInBounds g ob')[k]? = w.heap[k]? := fun k hk => Array.getElem?_setIfInBounds_ne (Ne.symm hk)
 refine h.turn hi ⟨h.below.os, h.below.tape, h.below.output, by simpa using h.below.size, fun k hk => ?_⟩ (fun k _ hne => hother k (fun e => hne (by rw [e]; rfl))) ⟨hb.1, ?_⟩ (fun g' hg' => .inl hg')
 ·have := hb.1
  exact (hother k (by omega)).trans (h.below.block k hk)
 ·show (w.heap.setIfInBounds g ob')[g]? = some ob'
  rw [Array.getElem?_setIfInBounds_self]
  simp [hlt]
theorem qqf (HF : Fr a n D σ) (HM : Mem W w fs) {t : TypeId} (hop : o.op = .makeMap t none) (hd : o.dst = some d) (hdn : d < n)
  (k : ∀ a' w' g, Fr a' n D ((d, .map (some g)) :: σ) → Mem W w' (.obj g (.map #[] 0) :: fs) → K a' w') : o.wp P a w K Q := by
 have e1 : (execOp a.eval o).run P w = .ok (.value (.map (some w.heap.size))) (w.alloc (.map #[] 0)) := by
  unfold execOp
  simp only [hop, Sem.run_bind]
  rfl
 unfold Oper.wp
 rw [e1, Oper.upon_value, hd]
 exact k _ _ _ (HF.put hdn _) (HM.allocObj _)
theorem qm5 (HF : Fr a n D σ) (HM : Mem W w fs) {t kt et : TypeId} {kd : TypeDesc} {m x y : Operand} {i g clock : Nat} {es : Array MapEntry} {key val : Value} (hop : o.op = .mapUpdate t m x y ∨ o.op = .insert t m x y) (hd : o.dst = none) (ht : P.underlying t = some (.map kt et)) (hk : P.underlying kt = some kd)
  (hm : look σ m = some (.map (some g))) (hx : look σ x = some key) (hy : look σ y = some val) (hi : fs[i]? = some (.obj g (.map es clock))) (hkey : IsKey kd key) (hf : Instr.findNow kd key es.toList 0 = some none)
  (k : ∀ w', Mem W w' (fs.set i (.obj g (.map (es.push { key, val, born := clock }) (clock + 1)))) → K a w') : o.wp P a w K Q := by
 have hb := HM.objAt hi
 have e1 : (Instr.mapUpdate t (.map (some g)) key val).run P w = .ok () { w with heap := w.heap.setIfInBounds g (.map (es.push { key, val, born := clock }) (clock + 1)) } := by
  unfold Instr.mapUpdate
  simp only [Sem.run_bind, run_underlying ht, Result.andThen_ok, MapKept.run_getObj_map hb, run_checkKey hk hkey, run_findKey hk hf, MapKept.run_setObj_map _ hb]
 unfold Oper.wp execOp
 rcases hop with hop | hop <;> simp only [hop, HF.eval hm, HF.eval hx, HF.eval hy, Sem.run_bind, e1, Result.andThen_ok, Sem.run_pure, Oper.upon_skip, hd]
 ·exact k _ (HM.setObj hi _)
 ·exact k _ (HM.setObj hi _)
theorem Yl.qll {t kt et : TypeId} {kd : TypeDesc} {m x : Operand} {g clock j : Nat} {es : Array MapEntry} {key v : Value} (hop : o.op = .lookup t m x false) (ht : P.underlying t = some (.map kt et)) (hk : P.underlying kt = some kd) (hm : look σ m = some (.map (some g))) (hx : look σ x = some key) (hb : ∀ w, S w → w.heap[g]? = some (.map es clock)) (hkey : IsKey kd key) (hf : Instr.findNow kd key es.toList 0 = some (some (j, v))) :
  Yl P S σ o v := fun a n D HF w hS => by
 have e1 : (Instr.lookup t (.map (some g)) key false).run P w = .ok v w := by
  unfold Instr.lookup
  simp only [Sem.run_bind, run_underlying ht, Result.andThen_ok, MapKept.run_getObj_map (hb w hS), Sem.run_pure, run_checkKey hk hkey, run_findKey hk hf]
  rfl
 unfold execOp
 simp only [hop, HF.eval hm, HF.eval hx, Sem.run_bind, e1, Result.andThen_ok, Sem.run_pure]
theorem Yl.qpb {t kt et : TypeId} {kd : TypeDesc} {m x : Operand} {g clock : Nat} {es : Array MapEntry} {key z : Value} (hop : o.op = .lookup t m x false) (ht : P.underlying t = some (.map kt et)) (hk : P.underlying kt = some kd) (hm : look σ m = some (.map (some g))) (hx : look σ x = some key) (hb : ∀ w, S w → w.heap[g]? = some (.map es clock)) (hkey : IsKey kd key) (hf : Instr.findNow kd key es.toList 0 = some none) (hz : (P.info? et).bind (·.zero) = some z) :
  Yl P S σ o z := fun a n D HF w hS => by
 obtain ⟨inf, hi, hiz⟩ := Option.bind_eq_some_iff.1 hz
 have e1 : (Instr.lookup t (.map (some g)) key false).run P w = .ok z w := by
  unfold Instr.lookup
  simp only [Sem.run_bind, run_underlying ht, Result.andThen_ok, MapKept.run_getObj_map (hb w hS), Sem.run_pure, run_checkKey hk hkey, run_findKey hk hf, zeroValue, typeInfo, program, Sem.run, hi, hiz]
  rfl
 unfold execOp
 simp only [hop, HF.eval hm, HF.eval hx, Sem.run_bind, e1, Result.andThen_ok, Sem.run_pure]
theorem Yl.makeFunc {fn : Fn} {xs ys : Array Operand} {fst caps : List Value} (hop : o.op = .makeFunc fn xs ys) (hx : looks σ xs.toList = some fst) (hy : looks σ ys.toList = some caps) : Yl P S σ o (.func fn fst.toArray caps.toArray) := fun a n D HF w hS => by
 have e1 : xs.map a.eval = fst.toArray := by
  have := qcr HF hx
  rw [← this, ← Array.toList_map, Array.toArray_toList]
 have e2 : ys.map a.eval = caps.toArray := by
  have := qcr HF hy
  rw [← this, ← Array.toList_map, Array.toArray_toList]
 unfold execOp
 simp only [hop, Instr.makeFunc, Sem.run_bind, Sem.run_pure, Result.andThen_ok]
 show Result.ok (Next.value (.func fn (Array.map a.eval xs) (Array.map a.eval ys))) w = _
 rw [e1, e2]
theorem qck (HF : Fr a n D σ) {fo : Operand} {f : FuncId} {xs : Array Operand} {ts : Array TypeId} {vs fst caps : List Value} {R : Ending → World → Prop} (hop : o.op = .call { callee := .value fo, args := xs, argTypes := ts }) (hfo : look σ fo = some (.func (.func f) fst.toArray caps.toArray)) (hv : looks σ xs.toList = some vs) (hf : callable P f = true) (hd : o.dst = some d) (hdn : d < n)
  (hC : Calls P f (fst ++ vs ++ caps).toArray w R) (k : ∀ e w', R e w' → ∃ v, e = .returned v ∧ ∀ a', Fr a' n D ((d, v) :: σ) → K a' w') : o.wp P a w K Q := by
 have e1 : xs.map a.eval = vs.toArray := by
  have := qcr HF hv
  rw [← this, ← Array.toList_map, Array.toArray_toList]
 unfold Oper.wp execOp
 simp only [hop, resolve, HF.eval hfo, Deferred.ofValue, invoke, Sem.run_bind, Sem.run_pure, Result.andThen_ok]
 have e3 : fst.toArray ++ Array.map a.eval xs ++ caps.toArray = (fst ++ vs ++ caps).toArray := by simp [e1]
 show Oper.upon P o a K Q (((callFunc f (fst.toArray ++ Array.map a.eval xs ++ caps.toArray)).run P w))
 rw [e3, qdk hf, Oper.upon_enter]
 refine hC.mono fun e w' he => ?_
 obtain ⟨v, rfl, h2⟩ := k e w' he
 show K (a.put o.dst v) w'
 rw [hd]
 exact h2 _ (HF.put hdn v)
end
end Go.Proofs.YtfeheccoijnbaaaDoor
namespace Go.Proofs.YtfeheccoijnbaaaDoor
open Go.RowKit
def mostN : Go.IntKind → Nat
 | .i8 => 127 | .i16 => 32767 | .i32 => 2147483647 | .i64 => 9223372036854775807
 | .u8 => 255 | .u16 => 65535 | .u32 => 4294967295 | .u64 => 18446744073709551615
theorem qcf (k : Go.IntKind) {m : Nat} (h : m ≤ mostN k) : Go.IntKind.wrap k (m : Int) = (m : Int) := by
 cases k <;> simp only [mostN] at h
 ·exact IntWalk.i8_in _ (by omega)
 ·exact IntWalk.i16_in _ (by omega)
 ·exact IntWalk.i32_in _ (by omega)
 ·exact IntWalk.i64_in _ (by omega)
 ·exact IntWalk.u8_in _ (by omega)
 ·exact IntWalk.u16_in _ (by omega)
 ·exact IntWalk.u32_in _ (by omega)
 ·exact IntWalk.u64_in _ (by omega)
theorem qo {x : Int} {m : Nat} (h : x = (m : Int)) (hb : m ≤ 9223372036854775807) : Value.int .i64 (Go.IntKind.i64.wrap x) = .int .i64 (m : Int) := by subst h; rw [qcf .i64 hb]
theorem qaa {x : Int} {m : Nat} (h : x = (m : Int)) (hb : m ≤ 18446744073709551615) : Value.int .u64 (Go.IntKind.u64.wrap x) = .int .u64 (m : Int) := by subst h; rw [qcf .u64 hb]
theorem qdm {x : Int} {m : Nat} (h : x = (m : Int)) (hb : m ≤ 4294967295) : Value.int .u32 (Go.IntKind.u32.wrap x) = .int .u32 (m : Int) := by subst h; rw [qcf .u32 hb]
theorem qv2 {x : Int} {m : Nat} (h : x = (m : Int)) (hb : m ≤ 255) : Value.int .u8 (Go.IntKind.u8.wrap x) = .int .u8 (m : Int) := by subst h; rw [qcf .u8 hb]
theorem qcg (m : Nat) : Value.int .u8 (Go.IntKind.u8.wrap (m : Int)) = .int .u8 ((m % 256 : Nat) : Int) := by
 rw [Go.IntKind.wrap_u8]; simp
theorem qdy (k : Go.IntKind) (m n : Nat) : Value.int k (Int.tmod (m : Int) (n : Int)) = .int k ((m % n : Nat) : Int) := by rw [Int.tmod_eq_emod_of_nonneg (by omega)]; rfl
theorem qdz (k : Go.IntKind) {m : Nat} (n : Nat) (h : m ≤ mostN k) : Value.int k (Go.IntKind.wrap k (Int.tdiv (m : Int) (n : Int))) = .int k ((m / n : Nat) : Int) := by
 rw [Int.tdiv_eq_ediv_of_nonneg (by omega), show ((m : Int) / (n : Int)) = ((m / n : Nat) : Int) from rfl, qcf k (Nat.le_trans (Nat.div_le_self _ _) h)]
theorem qd0 (k : Go.IntKind) (m : Nat) {j : Nat} {p : Int} {q : Nat} (hp : p = (j : Int)) (hq : 2 ^ (min p.toNat k.bits) = q) : Value.int k (Int.fdiv (m : Int) (2 ^ (min p.toNat k.bits))) = .int k ((m / q : Nat) : Int) := by
 subst hp; subst hq
 congr 1
 rw [Int.fdiv_eq_ediv_of_nonneg _ (by exact_mod_cast Nat.zero_le _)]
 norm_cast
theorem qcs (w : Nat) {m : Nat} (h : m < 2 ^ w) : (BitVec.ofInt w (m : Int)).toNat = m := by
 rw [BitVec.toNat_ofInt]
 have : ((m : Int) % ((2 ^ w : Nat) : Int)) = (m : Int) := Int.emod_eq_of_lt (by omega) (by exact_mod_cast h)
 rw [this]; rfl
theorem quv (k : Go.IntKind) {m n : Nat} (hm : m < 2 ^ k.bits) (hn : n < 2 ^ k.bits) (hr : m &&& n ≤ mostN k) : Value.int k (Go.IntKind.wrap k (BitVec.ofInt k.bits (m : Int) &&& BitVec.ofInt k.bits (n : Int)).toNat) = .int k ((m &&& n : Nat) : Int) := by
 rw [BitVec.toNat_and, qcs _ hm, qcs _ hn, qcf k hr]
theorem qt5 (k : Go.IntKind) {m n : Nat} (hm : m < 2 ^ k.bits) (hn : n < 2 ^ k.bits) (hr : m ||| n ≤ mostN k) : Value.int k (Go.IntKind.wrap k (BitVec.ofInt k.bits (m : Int) ||| BitVec.ofInt k.bits (n : Int)).toNat) = .int k ((m ||| n : Nat) : Int) := by
 rw [BitVec.toNat_or, qcs _ hm, qcs _ hn, qcf k hr]
theorem quw (k : Go.IntKind) {m n : Nat} (hm : m < 2 ^ k.bits) (hn : n < 2 ^ k.bits) (hr : m ^^^ n ≤ mostN k) : Value.int k (Go.IntKind.wrap k (BitVec.ofInt k.bits (m : Int) ^^^ BitVec.ofInt k.bits (n : Int)).toNat) = .int k ((m ^^^ n : Nat) : Int) := by
 rw [BitVec.toNat_xor, qcs _ hm, qcs _ hn, qcf k hr]
theorem qst (k : Go.IntKind) {m j n : Nat} (hn : n = 2 ^ j - 1) (hj : 2 ^ j - 1 ≤ mostN k) (hm : m < 2 ^ k.bits) (hn2 : n < 2 ^ k.bits) : Value.int k (Go.IntKind.wrap k (BitVec.ofInt k.bits (m : Int) &&& BitVec.ofInt k.bits (n : Int)).toNat) = .int k ((m % 2 ^ j : Nat) : Int) := by
 subst hn
 have h := Nat.and_two_pow_sub_one_eq_mod m j
 rw [quv k hm hn2 (by rw [h]; have := Nat.mod_lt m (Nat.two_pow_pos j); omega), h]
theorem qv3 {m n : Nat} (hm : m < 4294967296) (hn : n < 4294967296) : Value.int .u32 (Go.IntKind.u32.wrap (BitVec.ofInt Go.IntKind.u32.bits (m : Int) ||| BitVec.ofInt Go.IntKind.u32.bits (n : Int)).toNat) = .int .u32 ((m ||| n : Nat) : Int) :=
 qt5 .u32 (by show m < 4294967296; omega) (by show n < 4294967296; omega) (by have h : m ||| n < 4294967296 := Nat.or_lt_two_pow (n := 32) (by simpa using hm) (by simpa using hn); show _ ≤ 4294967295; omega)
theorem qjc {m n : Nat} (hm : m < 4294967296) (hn : n < 4294967296) : Value.int .u32 (Go.IntKind.u32.wrap (BitVec.ofInt Go.IntKind.u32.bits (m : Int) ^^^ BitVec.ofInt Go.IntKind.u32.bits (n : Int)).toNat) = .int .u32 ((m ^^^ n : Nat) : Int) :=
 quw .u32 (by show m < 4294967296; omega) (by show n < 4294967296; omega) (by have h : m ^^^ n < 4294967296 := Nat.xor_lt_two_pow (n := 32) (by simpa using hm) (by simpa using hn); show _ ≤ 4294967295; omega)
theorem qm6 {m j n : Nat} (hn : n = 2 ^ j - 1) (hn2 : n < 4294967296) (hm : m < 4294967296) : Value.int .u32 (Go.IntKind.u32.wrap (BitVec.ofInt Go.IntKind.u32.bits (m : Int) &&& BitVec.ofInt Go.IntKind.u32.bits (n : Int)).toNat) = .int .u32 ((m % 2 ^ j : Nat) : Int) :=
 qst .u32 hn (by rw [← hn]; show n ≤ 4294967295; omega) (by show m < 4294967296; omega) (by show n < 4294967296; omega)
theorem qv4 {m n : Nat} (hm : m < 9223372036854775808) (hn : n < 9223372036854775808) : Value.int .i64 (Go.IntKind.i64.wrap (BitVec.ofInt Go.IntKind.i64.bits (m : Int) ||| BitVec.ofInt Go.IntKind.i64.bits (n : Int)).toNat) = .int .i64 ((m ||| n : Nat) : Int) :=
 qt5 .i64 (by show m < 18446744073709551616; omega) (by show n < 18446744073709551616; omega) (by have h : m ||| n < 9223372036854775808 := Nat.or_lt_two_pow (n := 63) (by simpa using hm) (by simpa using hn); show _ ≤ 9223372036854775807; omega)
theorem getD_at {α : Type} {l : List α} {k : Nat} (d : α) (h : k < l.length) : l[k]? = some (l.getD k d) := by
 rw [List.getD_eq_getElem?_getD, List.getElem?_eq_getElem h]; rfl
theorem qaz {α : Type} {l : List α} {k : Nat} (d : α) (h : k < l.length) : l.getD k d ∈ l := List.mem_of_getElem? (getD_at d h)
theorem getD_lt {l : List Nat} {m : Nat} (hl : ∀ b ∈ l, b < m) {k : Nat} (h : k < l.length) : l.getD k 0 < m := hl _ (qaz 0 h)
section
variable {W w w' : World} {fs gs fs' : List Fact}
theorem Mem.perm (h : Mem W w fs) (hp : fs.Perm fs') : Mem W w fs' :=
 ⟨h.below, fun f hf => h.holds f (hp.mem_iff.2 hf), (hp.pairwise_iff (fun {_ _} hab => hab.symm)).1 h.apart⟩
theorem Mem.subl (h : Mem W w fs) (hs : fs'.Sublist fs) : Mem W w fs' :=
 ⟨h.below, fun f hf => h.holds f (hs.subset hf), h.apart.sublist hs⟩
theorem Fact.holds.base {b b' : Nat} {f : Fact} (h : f.holds b w) (hb : b' ≤ b) : f.holds b' w := by
 cases f with
 | blk g cs t => exact ⟨Nat.le_trans hb h.1, h.2⟩
 | obj g o => exact ⟨Nat.le_trans hb h.1, h.2⟩
 | row v n xs e size => exact qdv h hb
theorem Mem.join (h : Mem W w fs) (k : Mem w w' gs) : Mem W w' (gs ++ fs) := by
 have hf := h.call k.below
 refine ⟨hf.below, ?_, ?_⟩
 ·intro f hm
  rcases List.mem_append.1 hm with hm | hm
  ·exact (k.holds f hm).base h.size
  ·exact hf.holds f hm
 ·refine List.pairwise_append.2 ⟨k.apart, h.apart, ?_⟩
  intro f hfm g hgm x hx hgx
  have h1 := ((k.holds f hfm).lt hx).1
  have h2 := ((h.holds g hgm).lt hgx).2
  omega
theorem Mem.qwz {A : Option Addr} {n c : Nat} {xs : List Value} {e : TypeId} {size : Nat} (h : Mem W w fs) (hf : Fact.row (.slice A n c) n xs e size ∈ fs) : Rd w w.heap.size size A n xs := by
 obtain ⟨i, hi⟩ := List.mem_iff_getElem?.1 hf
 exact h.rd hi
structure Own where
 A : Option Addr
 n : Nat
 c : Nat
 xs : List Value
def Own.fact (e : TypeId) (size : Nat) (p : Own) : Fact := .row (.slice p.A p.n p.c) p.n p.xs e size
def ownsF (e : TypeId) (size : Nat) (ps : List Own) : List Fact := ps.map (Own.fact e size)
end
section
variable {P : Program} {ops : Array Oper} {Q : Exit → Act → World → Prop} {a : Act} {w : World}
theorem qqq {id : Nat} {W : World} {fs : List Fact} (HM : Mem W w fs) (fs' : List Fact) (n : Nat) (is ex : List Nat) (h : Mem W w.drew fs → Mem W w.drew fs' → qap P .any ops Q (fun wS => Mem W wS fs') ex ops.size (Array.replicate ops.size false) a w.drew)
  (hm : P.follows .mixedOrders = true := by kernel_rfl) (hn : is.Nodup := by decide) (hlt : (is.all (· < n)) = true := by decide) (he : picks fs is ++ fs.drop n = fs' := by rfl) : (Code.region id ops true).wp P Q a w :=
 qj9 hm _ ex (h HM.drew (HM.drew.picksT n is hn hlt he))
end
end Go.Proofs.YtfeheccoijnbaaaDoor
