/- A part of the proof. -/
import Derived.Test.YtfeheccoijnbaaaDoorQbMade
import Derived.Test.YtfeheccoijnbaaaDoorQbConv
namespace Go.Proofs.YtfeheccoijnbaaaDoor
open Go.RowKit
def pickZ (x n : Int) : Int := if n < 1 then 0 else x % n
theorem qsk (x n : Int) (hn : 1 ≤ n) : (Int.tmod x n < 0 → Int.tmod x n + n = x % n) ∧ (0 ≤ Int.tmod x n → Int.tmod x n = x % n) := by
 have h1 := @Int.tmod_eq_emod x n
 have h2 := Int.emod_nonneg x (show n ≠ 0 by omega)
 have h3 := Int.emod_lt_of_pos x (show 0 < n by omega)
 rw [h1]
 have h4 : (n.natAbs : Int) = n := Int.natAbs_of_nonneg (by omega)
 split
 ·simp; omega
 ·rw [h4]; omega
set_option maxHeartbeats 400000 in
theorem qnv (x n : Int) (_hx : I64 x) (hn : I64 n) (w : World) : Calls Tryd.prog 28 #[.int .i64 x, .int .i64 n] w fun e w' => e = .returned (.int .i64 (pickZ x n)) ∧ w' = w := by
 by_cases h : n < 1
 ·have hd : decide (n < 1) = true := by simpa using h
  have hp : pickZ x n = 0 := if_pos h
  rw [hp]
  clear hp
  go_enter Tryd.func28, Tryd.ntmps28
  go_wp2
  go_ret
  exact ⟨rfl, rfl⟩
 ·have hd : decide (n < 1) = false := by simpa using h
  have hp : pickZ x n = x % n := if_neg h
  rw [hp]
  clear hp
  have HT := hide (qsk x n (by omega))
  go_enter Tryd.func28, Tryd.ntmps28
  go_wp2
  all_goals
   rename_i hq
   have hT := HT.out
   have h3 := Int.emod_nonneg x (show n ≠ 0 by omega)
   have h4 := Int.emod_lt_of_pos x (show 0 < n by omega)
   have hn2 := hn.2
   go_ret
   refine ⟨?_, rfl⟩
   first
    | (show Ending.returned (.int .i64 (Int.tmod x n)) = _; rw [hT.2 hq])
    | (show Ending.returned (.int .i64 (wrap64 (Int.tmod x n + n))) = _; rw [hT.1 hq, ← IntWalk.i64_left, IntKind.wrap_i64]; congr 2; omega)
structure BasedPost (b : Bs) (w : World) (r : Ending) (w' : World) : Prop where
 ret : r = .returned (.agg b.based.cells)
 below : Below w.heap.size w w'
set_option maxRecDepth 100000 in
set_option maxHeartbeats 400000 in
theorem qsl (b : Bs) (hb : b.Ok) (w : World) : Calls Tryd.prog 53 #[.agg b.cells] w (BasedPost b w) := by
 have HP := hide (fun x hx w => qnv x 1099511627776 hx ⟨by omega, by omega⟩ w)
 have hs : pickZ b.seq 1099511627776 = b.seq % 1099511627776 := if_neg (by omega)
 have ht : pickZ b.time 1099511627776 = b.time % 1099511627776 := if_neg (by omega)
 have HS := hide hb.seq
 have HT := hide hb.time
 have h1 : 0 ≤ b.seq % 1099511627776 := by omega
 have h2 : b.seq % 1099511627776 < 1099511627776 := by omega
 obtain ⟨q, hq⟩ : ∃ q, b.seq % 1099511627776 = q := ⟨_, rfl⟩
 obtain ⟨p, hp⟩ : ∃ q, b.time % 1099511627776 = q := ⟨_, rfl⟩
 have hR : b.based.cells = #[.int .i64 (1 + q), .int .i64 p] := by rw [← hq, ← hp]; rfl
 rw [hq] at h1 h2 hs
 rw [hp] at ht
 have HR := hide hR
 have HPS := hide (fun W => (HP.out b.seq HS.out W))
 rw [hs] at HPS
 have HPT := hide (fun W => (HP.out b.time HT.out W))
 rw [ht] at HPT
 simp only [Bs.cells]
 obtain ⟨s0, hs0⟩ : ∃ q, b.seq = q := ⟨_, rfl⟩
 obtain ⟨t0, ht0⟩ : ∃ q, b.time = q := ⟨_, rfl⟩
 rw [hs0] at HPS ⊢
 rw [ht0] at HPT ⊢
 clear hq hp hs ht hs0 ht0 hR HP HS HT
 go_enter Tryd.func53, Tryd.ntmps53
 go_wp2
 go_region_with (first
  | (go_at_call 28; with_reducible refine (HPS.out _).mono ?_; rintro r w1 ⟨rfl, rfl⟩)
  | (go_at_call 28; with_reducible refine (HPT.out _).mono ?_; rintro r w1 ⟨rfl, rfl⟩))
 all_goals
  go_wp2
  refine bodyPost_ret (v := .agg #[.int .i64 (1 + q), .int .i64 p]) ?g1 rfl ?g2
  case g2 => exact ⟨by rw [HR.out], (((Below.refl _ _).alloc (Nat.le_refl _) _).alloc (by simp) _).drew⟩
  case g1 =>
   have hwr : IntKind.i64.wrap (1 + q) = 1 + q := by rw [IntKind.wrap_i64]; omega
   rw [hwr]
   simp [results, Tryd.results53, go_sem]
end Go.Proofs.YtfeheccoijnbaaaDoor
