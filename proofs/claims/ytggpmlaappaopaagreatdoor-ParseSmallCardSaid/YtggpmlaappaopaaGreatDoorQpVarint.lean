/- A part of the proof. -/
import Derived.Test.YtggpmlaappaopaaGreatDoorRows
import Derived.Test.YtggpmlaappaopaaGreatDoorQpBase
import Derived.WalkSpells
import Derived.WalkLawsBesides
import Derived.RangeFuncBound
import Derived.Shelf.Abstract
import Derived.Shelf.RegionOpen
import Derived.OwnWalkIn
import Derived.TacticsInMore
import Derived.LoopNIn
import Derived.LoopIn
namespace Go.Proofs.YtggpmlaappaopaaGreatDoor
open Go.RowKit Go.Shelf
attribute [local go_sem] Oper.semAt_some
def grp : Nat → Nat → List (Nat × Bool)
 | 0, _ => []
 | f + 1, x => if x < 128 then [(x, false)] else (x % 128, true) :: grp f (x / 128)
theorem qf8 (f y : Nat) (h : y < 128) : grp (f + 1) y = [(y, false)] := by rw [grp, if_pos h]
theorem qdx (f y : Nat) (h : 128 ≤ y) : grp (f + 1) y = (y % 128, true) :: grp f (y / 128) := by rw [grp, if_neg (by omega)]
def vbyte (p : Nat × Bool) : Nat := if p.2 then p.1 + 128 else p.1
def vbytes (x : Nat) : List Nat := (grp 10 x).map vbyte
theorem qxa : ∀ (f x : Nat), ∀ p ∈ grp f x, p.1 < 128
 | 0, _, p, h => by simp [grp] at h
 | f + 1, x, p, h => by
  by_cases hx : x < 128
  ·rw [qf8 f x hx] at h; simp at h; subst h; exact hx
  ·rw [qdx f x (by omega)] at h
   simp at h
   rcases h with rfl | h
   ·show x % 128 < 128; omega
   ·exact qxa f _ p h
theorem qew : ∀ (f x : Nat), (grp f x).length ≤ f
 | 0, _ => by simp [grp]
 | f + 1, x => by
  by_cases hx : x < 128
  ·rw [qf8 f x hx]; simp
  ·rw [qdx f x (by omega)]; simp; exact qew f _
theorem qca (x : Nat) : (vbytes x).length ≤ 10 := by unfold vbytes; rw [List.length_map]; exact qew 10 x
theorem qdl (ls : List Nat) : (ls.flatMap vbytes).length ≤ 10 * ls.length := by
 induction ls with
 | nil => simp
 | cons x r ih => have := qca x; simp only [List.flatMap_cons, List.length_append, List.length_cons]; omega
end Go.Proofs.YtggpmlaappaopaaGreatDoor
