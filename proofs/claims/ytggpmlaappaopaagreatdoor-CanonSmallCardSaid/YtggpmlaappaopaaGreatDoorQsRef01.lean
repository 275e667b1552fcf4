/- A part of the proof. -/
import Derived.Test.YtggpmlaappaopaaGreatDoorQsVarRead
namespace Go.Proofs.YtggpmlaappaopaaGreatDoor
open Go.RowKit
def qwa (w : World) (x0 : Nat) (x v : Value) (wr : World) : Prop :=
 ∃ (k f y : Nat), (grp 10 x0).drop k = grp (f + 1) y ∧ k ≤ 10 ∧ y < 18446744073709551616 ∧ y < 128 ^ (f + 1) ∧ x = .int .u64 (y : Int) ∧
  wr.ownsRow w.heap.size 5 1 v k (((vbytes x0).take k).map B8) ∧ Below w.heap.size w wr
set_option maxRecDepth 100000 in
set_option maxHeartbeats 400000 in
theorem qkw (x : Nat) (w : World) (hx : x < 18446744073709551616) :
  Calls Tryz.prog 91 #[.int .u64 (x : Int)] w fun e w' => ∃ v, e = .returned v ∧ w'.ownsRow w.heap.size 5 1 v (vbytes x).length ((vbytes x).map B8) ∧ Below w.heap.size w w' := by
 go_enter Tryz.func91, Tryz.ntmps91
 go_wp2
 go_loopw [0, 3] (qwa w x) (fun i _ _ => (intOf i).toNat)
 case atStart => exact ⟨0, 9, x, rfl, by omega, hx, by omega, rfl, by simpa using World.ownsRow_nil _ _ _ _, Below.refl _ _⟩
 case round =>
  obtain ⟨k, f, y, hd, hk, hy, hyf, rfl, hown, hb⟩ := hrel
  by_cases hlt : y < 128
  ·rw [qhc f y hlt] at hd
   obtain ⟨hkl, hg, hr⟩ := qdb hd
   have hv : (vbytes x)[k]? = some (vbyte (y, false)) := by unfold vbytes; rw [List.getElem?_map, List.getElem?_eq_getElem hkl, hg]; rfl
   have HX := hide (qby B8 hv)
   have HL := hide (show (vbytes x).length = k + 1 by have := List.drop_eq_nil_iff.1 hr; unfold vbytes; rw [List.length_map]; omega)
   clear hd hg hr hv
   go_wp2_with (at_builtin; refine qia rfl rfl ei_u8 (hown.alloc _) rfl (Rd.one wr _ _) rfl (by simp [Value.oneCell']) (by omega) (by omega) (by simp; have := hb.size; omega) ?_; intro A2 c2 w1 hown1 hgr1 hbl1)
   go_ret
   refine ⟨_, rfl, ?_, (hb.alloc hb.size _).grown hgr1 (by simp; have := hb.size; omega) (fun g hg => (hown.lt g hg).1)⟩
   rw [HL.out]
   have h1 := HX.out
   rw [List.take_of_length_le (i := k + 1) (by rw [HL.out]; omega)] at h1
   rw [← h1]
   exact hown1
  ·have hfp : 0 < f := by
    rcases Nat.eq_zero_or_pos f with h | h
    ·subst h; simp at hyf; omega
    ·exact h
   obtain ⟨f, rfl⟩ : ∃ g, f = g + 1 := ⟨f - 1, by omega⟩
   rw [qex (f + 1) y (by omega)] at hd
   obtain ⟨hkl, hg, hr⟩ := qdb hd
   have hv : (vbytes x)[k]? = some (vbyte (y % 128, true)) := by unfold vbytes; rw [List.getElem?_map, List.getElem?_eq_getElem hkl, hg]; rfl
   have HX := hide (qby B8 hv)
   have HR := hide hr
   have hgl := qcu 10 x
   have hyq : 128 ≤ (y : Int) := by omega
   clear hd hg hr hv
   go_wp2_with (at_builtin; refine qia rfl rfl ei_u8 (hown.alloc _) rfl (Rd.one wr _ _) rfl (by simp [Value.oneCell']) (by omega) (by omega) (by simp; have := hb.size; omega) ?_; intro A2 c2 w1 hown1 hgr1 hbl1)
   refine ⟨⟨k + 1, f, y / 128, HR.out, by omega, by omega, ?_, by simp, ?_, (hb.alloc hb.size _).grown hgr1 (by simp; have := hb.size; omega) (fun g hg => (hown.lt g hg).1)⟩, by simp [intOf]; omega⟩
   ·rw [Nat.pow_succ] at hyf; omega
   ·rw [← HX.out]
    have e1 : B8 (vbyte (y % 128, true)) = .int .u8 (128 + (y : Int) % 128) := by unfold B8 vbyte; simp; omega
    rw [e1]
    exact hown1
end Go.Proofs.YtggpmlaappaopaaGreatDoor
