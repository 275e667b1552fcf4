/- A part of the proof. -/
import Derived.Test.YtfeheccoijnbaaaDoorQwPick
namespace Go.Proofs.YtfeheccoijnbaaaDoor
open Go.RowKit
structure SmPost (x : Sm) (w : World) (r : Ending) (w' : World) : Prop where
 ret : r = .returned (.agg x.ev.cells)
 below : Below w.heap.size w w'
theorem or_bit (mask c : Nat) (hm : mask < 18446744073709551616) : bits .or .u64 (mask : Int) (IntKind.u64.wrap (2 ^ (c % 64))) = ((mask ||| 2 ^ (c % 64) : Nat) : Int) := by
 have h1 : (2 : Nat) ^ (c % 64) < 2 ^ 64 := Nat.pow_lt_pow_right (by omega) (by omega)
 have h2 : (2 : Int) ^ (c % 64) = ((2 ^ (c % 64) : Nat) : Int) := by simp
 generalize hg : (2 : Nat) ^ (c % 64) = y at h1 h2
 have h3 : IntKind.u64.wrap (y : Int) = (y : Int) := by rw [IntKind.wrap_u64]; omega
 rw [h2, h3]
 exact u64_or_nat mask y hm (by omega)
set_option maxRecDepth 100000 in
set_option maxHeartbeats 1000000 in
theorem quq (x : Sm) (h : x.Ok) (hk : x.kind % 10 = 0) (w : World) : Calls Tryd.prog 54 #[.agg x.cells] w (SmPost x w) := by
 obtain ⟨kind, cpu, seq, time, task, group, tt, weight, ticks, got, mask⟩ := x
 obtain ⟨h1, h2, h3, h4, h5, h6, h7, h8, h9, h10, h11⟩ := h
 simp only at hk h1 h2 h3 h4 h5 h6 h7 h8 h9 h10 h11
 simp only [Sm.cells]
 have hk' : (kind : Int) % 10 = 0 := by omega
 go_enter Tryd.func54, Tryd.ntmps54
 go_wp2
 go_region
 all_goals
  go_wp2
  go_region
 all_goals
  go_wp2
  refine bodyPost_ret (v := .agg #[.int .i64 (1 + (seq : Int)), .int .i64 (time : Int), .int .u8 ((cpu : Int) % 64), .int .u8 1, .int .i64 (1 + (task : Int) % 65535), .int .i64 ((group : Int) % 256), .int .i64 (0), .int .i64 (1 + (weight : Int) % 65536), .int .i64 (0), .int .u64 (((mask ||| 2 ^ (cpu % 64) : Nat) : Int)), .int .i64 (0)]) ?g1 rfl ?g2
  case g2 => exact ⟨by simp [Sm.ev, Ev.cells, hk], ((((Below.refl _ _).alloc (Nat.le_refl _) _).alloc (by simp) _).alloc (by simp; omega) _).drew.drew⟩
  case g1 =>
   simp [results, Tryd.results54, go_sem]
   exact or_bit mask cpu h11
set_option maxRecDepth 100000 in
set_option maxHeartbeats 1000000 in
theorem qur (x : Sm) (h : x.Ok) (hk : x.kind % 10 = 1) (w : World) : Calls Tryd.prog 54 #[.agg x.cells] w (SmPost x w) := by
 obtain ⟨kind, cpu, seq, time, task, group, tt, weight, ticks, got, mask⟩ := x
 obtain ⟨h1, h2, h3, h4, h5, h6, h7, h8, h9, h10, h11⟩ := h
 simp only at hk h1 h2 h3 h4 h5 h6 h7 h8 h9 h10 h11
 simp only [Sm.cells]
 have hk' : (kind : Int) % 10 = 1 := by omega
 go_enter Tryd.func54, Tryd.ntmps54
 go_wp2
 go_region
 all_goals
  go_wp2
  refine bodyPost_ret (v := .agg #[.int .i64 (1 + (seq : Int)), .int .i64 (time : Int), .int .u8 ((cpu : Int) % 64), .int .u8 2, .int .i64 (1 + (task : Int) % 65535), .int .i64 (0), .int .i64 (0), .int .i64 (0), .int .i64 (0), .int .u64 (0), .int .i64 (0)]) ?g1 rfl ?g2
  case g2 => exact ⟨by simp [Sm.ev, Ev.cells, hk], ((((Below.refl _ _).alloc (Nat.le_refl _) _).alloc (by simp) _).alloc (by simp; omega) _).drew⟩
  case g1 =>
   (simp [results, Tryd.results54, go_sem]) <;> omega
set_option maxRecDepth 100000 in
set_option maxHeartbeats 1000000 in
theorem qus (x : Sm) (h : x.Ok) (hk : x.kind % 10 = 2) (w : World) : Calls Tryd.prog 54 #[.agg x.cells] w (SmPost x w) := by
 obtain ⟨kind, cpu, seq, time, task, group, tt, weight, ticks, got, mask⟩ := x
 obtain ⟨h1, h2, h3, h4, h5, h6, h7, h8, h9, h10, h11⟩ := h
 simp only at hk h1 h2 h3 h4 h5 h6 h7 h8 h9 h10 h11
 simp only [Sm.cells]
 have hk' : (kind : Int) % 10 = 2 := by omega
 go_enter Tryd.func54, Tryd.ntmps54
 go_wp2
 go_region
 all_goals
  go_wp2
  refine bodyPost_ret (v := .agg #[.int .i64 (1 + (seq : Int)), .int .i64 (time : Int), .int .u8 ((cpu : Int) % 64), .int .u8 3, .int .i64 (0), .int .i64 (0), .int .i64 (0), .int .i64 (0), .int .i64 (0), .int .u64 (0), .int .i64 (1 + (got : Int) % 65535)]) ?g1 rfl ?g2
  case g2 => exact ⟨by simp [Sm.ev, Ev.cells, hk], ((((Below.refl _ _).alloc (Nat.le_refl _) _).alloc (by simp) _).alloc (by simp; omega) _).drew⟩
  case g1 =>
   (simp [results, Tryd.results54, go_sem]) <;> omega
set_option maxRecDepth 100000 in
set_option maxHeartbeats 1000000 in
theorem qut (x : Sm) (h : x.Ok) (hk : x.kind % 10 = 3) (w : World) : Calls Tryd.prog 54 #[.agg x.cells] w (SmPost x w) := by
 obtain ⟨kind, cpu, seq, time, task, group, tt, weight, ticks, got, mask⟩ := x
 obtain ⟨h1, h2, h3, h4, h5, h6, h7, h8, h9, h10, h11⟩ := h
 simp only at hk h1 h2 h3 h4 h5 h6 h7 h8 h9 h10 h11
 simp only [Sm.cells]
 have hk' : (kind : Int) % 10 = 3 := by omega
 go_enter Tryd.func54, Tryd.ntmps54
 go_wp2
 go_region
 all_goals
  go_wp2
  refine bodyPost_ret (v := .agg #[.int .i64 (1 + (seq : Int)), .int .i64 (time : Int), .int .u8 ((cpu : Int) % 64), .int .u8 4, .int .i64 (0), .int .i64 (0), .int .i64 (0), .int .i64 (0), .int .i64 (0), .int .u64 (0), .int .i64 (1 + (got : Int) % 65535)]) ?g1 rfl ?g2
  case g2 => exact ⟨by simp [Sm.ev, Ev.cells, hk], ((((Below.refl _ _).alloc (Nat.le_refl _) _).alloc (by simp) _).alloc (by simp; omega) _).drew⟩
  case g1 =>
   (simp [results, Tryd.results54, go_sem]) <;> omega
set_option maxRecDepth 100000 in
set_option maxHeartbeats 1000000 in
theorem qsq (x : Sm) (h : x.Ok) (hk : x.kind % 10 = 4) (ht : x.ticks = 0) (w : World) : Calls Tryd.prog 54 #[.agg x.cells] w (SmPost x w) := by
 obtain ⟨kind, cpu, seq, time, task, group, tt, weight, ticks, got, mask⟩ := x
 obtain ⟨h1, h2, h3, h4, h5, h6, h7, h8, h9, h10, h11⟩ := h
 simp only at ht hk h1 h2 h3 h4 h5 h6 h7 h8 h9 h10 h11
 simp only [Sm.cells]
 have hk' : (kind : Int) % 10 = 4 := by omega
 have ht' : decide ((ticks : Int) < 1) = true := by simp; omega
 go_enter Tryd.func54, Tryd.ntmps54
 go_wp2
 go_region
 all_goals
  go_wp2
  refine bodyPost_ret (v := .agg #[.int .i64 (1 + (seq : Int)), .int .i64 (time : Int), .int .u8 ((cpu : Int) % 64), .int .u8 5, .int .i64 (0), .int .i64 (0), .int .i64 (0), .int .i64 (0), .int .i64 (1), .int .u64 (0), .int .i64 (1 + (got : Int) % 65535 - 1)]) ?g1 rfl ?g2
  case g2 => exact ⟨by simp [Sm.ev, Ev.cells, hk]; omega, ((((Below.refl _ _).alloc (Nat.le_refl _) _).alloc (by simp) _).alloc (by simp; omega) _).drew⟩
  case g1 =>
   (simp [results, Tryd.results54, go_sem]) <;> omega
set_option maxRecDepth 100000 in
set_option maxHeartbeats 1000000 in
theorem qsr (x : Sm) (h : x.Ok) (hk : x.kind % 10 = 4) (ht : 1 ≤ x.ticks) (w : World) : Calls Tryd.prog 54 #[.agg x.cells] w (SmPost x w) := by
 obtain ⟨kind, cpu, seq, time, task, group, tt, weight, ticks, got, mask⟩ := x
 obtain ⟨h1, h2, h3, h4, h5, h6, h7, h8, h9, h10, h11⟩ := h
 simp only at ht hk h1 h2 h3 h4 h5 h6 h7 h8 h9 h10 h11
 simp only [Sm.cells]
 have hk' : (kind : Int) % 10 = 4 := by omega
 have ht' : decide ((ticks : Int) < 1) = false := by simp; omega
 go_enter Tryd.func54, Tryd.ntmps54
 go_wp2
 go_region
 all_goals
  go_wp2
  refine bodyPost_ret (v := .agg #[.int .i64 (1 + (seq : Int)), .int .i64 (time : Int), .int .u8 ((cpu : Int) % 64), .int .u8 5, .int .i64 (0), .int .i64 (0), .int .i64 (0), .int .i64 (0), .int .i64 ((ticks : Int)), .int .u64 (0), .int .i64 (1 + (got : Int) % 65535 - 1)]) ?g1 rfl ?g2
  case g2 => exact ⟨by simp [Sm.ev, Ev.cells, hk]; omega, ((((Below.refl _ _).alloc (Nat.le_refl _) _).alloc (by simp) _).alloc (by simp; omega) _).drew⟩
  case g1 =>
   (simp [results, Tryd.results54, go_sem]) <;> omega
theorem quu (x : Sm) (h : x.Ok) (hk : x.kind % 10 = 4) (w : World) : Calls Tryd.prog 54 #[.agg x.cells] w (SmPost x w) := by
 rcases Nat.eq_zero_or_pos x.ticks with ht | ht
 ·exact qsq x h hk ht w
 ·exact qsr x h hk ht w
set_option maxRecDepth 100000 in
set_option maxHeartbeats 1000000 in
theorem quv (x : Sm) (h : x.Ok) (hk : x.kind % 10 = 5) (w : World) : Calls Tryd.prog 54 #[.agg x.cells] w (SmPost x w) := by
 obtain ⟨kind, cpu, seq, time, task, group, tt, weight, ticks, got, mask⟩ := x
 obtain ⟨h1, h2, h3, h4, h5, h6, h7, h8, h9, h10, h11⟩ := h
 simp only at hk h1 h2 h3 h4 h5 h6 h7 h8 h9 h10 h11
 simp only [Sm.cells]
 have hk' : (kind : Int) % 10 = 5 := by omega
 go_enter Tryd.func54, Tryd.ntmps54
 go_wp2
 go_region
 all_goals
  go_wp2
  refine bodyPost_ret (v := .agg #[.int .i64 (1 + (seq : Int)), .int .i64 (time : Int), .int .u8 ((cpu : Int) % 64), .int .u8 6, .int .i64 (0), .int .i64 (0), .int .i64 (0), .int .i64 (0), .int .i64 (0), .int .u64 (0), .int .i64 (1 + (got : Int) % 65535 - 1)]) ?g1 rfl ?g2
  case g2 => exact ⟨by simp [Sm.ev, Ev.cells, hk]; omega, ((((Below.refl _ _).alloc (Nat.le_refl _) _).alloc (by simp) _).alloc (by simp; omega) _).drew⟩
  case g1 =>
   (simp [results, Tryd.results54, go_sem]) <;> omega
set_option maxRecDepth 100000 in
set_option maxHeartbeats 1000000 in
theorem quw (x : Sm) (h : x.Ok) (hk : x.kind % 10 = 6) (w : World) : Calls Tryd.prog 54 #[.agg x.cells] w (SmPost x w) := by
 obtain ⟨kind, cpu, seq, time, task, group, tt, weight, ticks, got, mask⟩ := x
 obtain ⟨h1, h2, h3, h4, h5, h6, h7, h8, h9, h10, h11⟩ := h
 simp only at hk h1 h2 h3 h4 h5 h6 h7 h8 h9 h10 h11
 simp only [Sm.cells]
 have hk' : (kind : Int) % 10 = 6 := by omega
 go_enter Tryd.func54, Tryd.ntmps54
 go_wp2
 go_region
 all_goals
  go_wp2
  refine bodyPost_ret (v := .agg #[.int .i64 (1 + (seq : Int)), .int .i64 (time : Int), .int .u8 ((cpu : Int) % 64), .int .u8 7, .int .i64 (1 + (task : Int) % 65535), .int .i64 (0), .int .i64 (0), .int .i64 (1 + (weight : Int) % 65536), .int .i64 (0), .int .u64 (0), .int .i64 (0)]) ?g1 rfl ?g2
  case g2 => exact ⟨by simp [Sm.ev, Ev.cells, hk], ((((Below.refl _ _).alloc (Nat.le_refl _) _).alloc (by simp) _).alloc (by simp; omega) _).drew⟩
  case g1 =>
   (simp [results, Tryd.results54, go_sem]) <;> omega
set_option maxRecDepth 100000 in
set_option maxHeartbeats 1000000 in
theorem qux (x : Sm) (h : x.Ok) (hk : x.kind % 10 = 7) (w : World) : Calls Tryd.prog 54 #[.agg x.cells] w (SmPost x w) := by
 obtain ⟨kind, cpu, seq, time, task, group, tt, weight, ticks, got, mask⟩ := x
 obtain ⟨h1, h2, h3, h4, h5, h6, h7, h8, h9, h10, h11⟩ := h
 simp only at hk h1 h2 h3 h4 h5 h6 h7 h8 h9 h10 h11
 simp only [Sm.cells]
 have hk' : (kind : Int) % 10 = 7 := by omega
 go_enter Tryd.func54, Tryd.ntmps54
 go_wp2
 go_region
 all_goals
  go_wp2
  refine bodyPost_ret (v := .agg #[.int .i64 (1 + (seq : Int)), .int .i64 (time : Int), .int .u8 ((cpu : Int) % 64), .int .u8 8, .int .i64 (0), .int .i64 (1 + (group : Int) % 255), .int .i64 (0), .int .i64 (1 + (weight : Int) % 65536), .int .i64 (0), .int .u64 (0), .int .i64 (0)]) ?g1 rfl ?g2
  case g2 => exact ⟨by simp [Sm.ev, Ev.cells, hk], ((((Below.refl _ _).alloc (Nat.le_refl _) _).alloc (by simp) _).alloc (by simp; omega) _).drew⟩
  case g1 =>
   (simp [results, Tryd.results54, go_sem]) <;> omega
set_option maxRecDepth 100000 in
set_option maxHeartbeats 1000000 in
theorem quy (x : Sm) (h : x.Ok) (hk : x.kind % 10 = 8) (w : World) : Calls Tryd.prog 54 #[.agg x.cells] w (SmPost x w) := by
 obtain ⟨kind, cpu, seq, time, task, group, tt, weight, ticks, got, mask⟩ := x
 obtain ⟨h1, h2, h3, h4, h5, h6, h7, h8, h9, h10, h11⟩ := h
 simp only at hk h1 h2 h3 h4 h5 h6 h7 h8 h9 h10 h11
 simp only [Sm.cells]
 have hk' : (kind : Int) % 10 = 8 := by omega
 go_enter Tryd.func54, Tryd.ntmps54
 go_wp2
 go_region
 all_goals
  go_wp2
  go_region
 all_goals
  go_wp2
  refine bodyPost_ret (v := .agg #[.int .i64 (1 + (seq : Int)), .int .i64 (time : Int), .int .u8 ((cpu : Int) % 64), .int .u8 9, .int .i64 (1 + (task : Int) % 65535), .int .i64 (0), .int .i64 (((cpu : Int) % 64 + 1 + (tt : Int) % 63) % 64), .int .i64 (0), .int .i64 (0), .int .u64 (0), .int .i64 (0)]) ?g1 rfl ?g2
  case g2 => exact ⟨by simp [Sm.ev, Ev.cells, hk], ((((Below.refl _ _).alloc (Nat.le_refl _) _).alloc (by simp) _).alloc (by simp; omega) _).drew.drew⟩
  case g1 =>
   (simp [results, Tryd.results54, go_sem]) <;> omega
set_option maxRecDepth 100000 in
set_option maxHeartbeats 1000000 in
theorem quz (x : Sm) (h : x.Ok) (hk : x.kind % 10 = 9) (w : World) : Calls Tryd.prog 54 #[.agg x.cells] w (SmPost x w) := by
 obtain ⟨kind, cpu, seq, time, task, group, tt, weight, ticks, got, mask⟩ := x
 obtain ⟨h1, h2, h3, h4, h5, h6, h7, h8, h9, h10, h11⟩ := h
 simp only at hk h1 h2 h3 h4 h5 h6 h7 h8 h9 h10 h11
 simp only [Sm.cells]
 have hk' : (kind : Int) % 10 = 9 := by omega
 go_enter Tryd.func54, Tryd.ntmps54
 go_wp2
 go_region
 all_goals
  go_wp2
  refine bodyPost_ret (v := .agg #[.int .i64 (1 + (seq : Int)), .int .i64 (time : Int), .int .u8 ((cpu : Int) % 64), .int .u8 10, .int .i64 (0), .int .i64 (0), .int .i64 (0), .int .i64 (0), .int .i64 (0), .int .u64 (0), .int .i64 (1 + (got : Int) % 65535)]) ?g1 rfl ?g2
  case g2 => exact ⟨by simp [Sm.ev, Ev.cells, hk], ((((Below.refl _ _).alloc (Nat.le_refl _) _).alloc (by simp) _).alloc (by simp; omega) _).drew⟩
  case g1 =>
   (simp [results, Tryd.results54, go_sem]) <;> omega
theorem qqp (x : Sm) (h : x.Ok) (w : World) : Calls Tryd.prog 54 #[.agg x.cells] w (SmPost x w) := by
 have hk : x.kind % 10 = 0 ∨ x.kind % 10 = 1 ∨ x.kind % 10 = 2 ∨ x.kind % 10 = 3 ∨ x.kind % 10 = 4 ∨ x.kind % 10 = 5 ∨ x.kind % 10 = 6 ∨ x.kind % 10 = 7 ∨ x.kind % 10 = 8 ∨ x.kind % 10 = 9 := by omega
 rcases hk with hk | hk | hk | hk | hk | hk | hk | hk | hk | hk
 ·exact quq x h hk w
 ·exact qur x h hk w
 ·exact qus x h hk w
 ·exact qut x h hk w
 ·exact quu x h hk w
 ·exact quv x h hk w
 ·exact quw x h hk w
 ·exact qux x h hk w
 ·exact quy x h hk w
 ·exact quz x h hk w
end Go.Proofs.YtfeheccoijnbaaaDoor
