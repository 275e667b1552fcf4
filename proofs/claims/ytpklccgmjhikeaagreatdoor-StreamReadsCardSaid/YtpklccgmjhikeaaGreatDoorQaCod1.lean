/- A part of the proof. -/
import Derived.Test.YtpklccgmjhikeaaGreatDoorQaCodS
import Derived.Test.YtpklccgmjhikeaaGreatDoorQaStr
import Derived.Deep.AppendLies
namespace Go.Proofs.YtpklccgmjhikeaaGreatDoor
open Go.RowKit
set_option maxHeartbeats 400000 in
theorem qa0 (b : Bs) (w : World) :
  Calls Tryz.prog 106 #[.agg b.cells] w fun r w' => r = .returned (.bool b.right) ∧ Below w.heap.size w w' := by
 have hb1 : Below w.heap.size w (w.alloc (.cells b.cells 140)) := (Below.refl _ _).alloc (Nat.le_refl _) _
 obtain ⟨s, t⟩ := b
 unfold Bs.cells at *
 have HR := hide (show Bs.right ⟨s, t⟩ = decide (1 ≤ s ∧ s ≤ 281474976710656 ∧ 0 ≤ t ∧ t ≤ 281474976710656) from rfl)
 go_enter Tryz.func106, Tryz.ntmps106
 go_wp2
 all_goals
  go_ret
  refine ⟨qpz ?_, hb1⟩
  rw [HR.out, Bool.eq_iff_iff]
  simp only [decide_eq_true_eq, Bool.false_eq_true, false_iff]
  omega
set_option maxRecDepth 100000 in
set_option maxHeartbeats 400000 in
theorem qgt (b : Bs) (e : Ev) (w : World) :
  Calls Tryz.prog 112 #[.agg b.cells, .agg e.cells] w fun r w' => r = .returned (.bool (b.behind e)) ∧ Below w.heap.size w w' := by
 have hb1 : Below w.heap.size w ((w.alloc (.cells b.cells 140)).alloc (.cells e.cells 35)) := ((Below.refl _ _).alloc (Nat.le_refl _) _).alloc (by simp) _
 obtain ⟨s, t⟩ := b
 have HR := hide (show Bs.behind ⟨s, t⟩ e = decide (s ≤ e.seq ∧ t ≤ e.time) from rfl)
 have c0 : e.cells[0]? = some (.int .i64 e.seq) := rfl
 have c1 : e.cells[1]? = some (.int .i64 e.time) := rfl
 generalize e.cells = cs at hb1 c0 c1 ⊢
 unfold Bs.cells at *
 go_enter Tryz.func112, Tryz.ntmps112
 go_wp2
 all_goals
  go_ret
  refine ⟨qpz ?_, hb1⟩
  rw [HR.out, Bool.eq_iff_iff]
  simp only [decide_eq_true_eq, Bool.false_eq_true, false_iff]
  omega
set_option maxRecDepth 100000 in
set_option maxHeartbeats 400000 in
theorem qzr (e : Ev) (w : World) :
  Calls Tryz.prog 121 #[.agg e.cells] w fun r w' => r = .returned (.agg e.at.cells) ∧ Below w.heap.size w w' := by
 have hb1 : Below w.heap.size w (w.alloc (.cells e.cells 35)) := (Below.refl _ _).alloc (Nat.le_refl _) _
 have HR := hide (show e.at.cells = #[.int .i64 e.seq, .int .i64 e.time] from rfl)
 have c0 : e.cells[0]? = some (.int .i64 e.seq) := rfl
 have c1 : e.cells[1]? = some (.int .i64 e.time) := rfl
 generalize e.cells = cs at hb1 c0 c1 ⊢
 go_enter Tryz.func121, Tryz.ntmps121
 go_wp2
 refine bodyPost_ret (v := .agg #[.int .i64 e.seq, .int .i64 e.time]) (by simp [results, Tryz.results121, go_sem]) rfl ⟨by rw [HR.out], hb1.alloc (by simp) _⟩
structure BytesPost (w : World) (err : Nat) (xs : List Nat) (r : Ending) (w' : World) : Prop where
 ret : ∃ v, r = .returned (.tuple #[v, .int .i64 (err : Int)]) ∧ w'.ownsRow w.heap.size 5 1 v xs.length (xs.map B8)
 below : Below w.heap.size w w'
theorem qfx (e : Ev) : e.vals.length ≤ 4 := by unfold Ev.vals; rw [List.length_map]; exact qay _
theorem q0v {e : Ev} (he : e.Ok) : ∀ x ∈ e.vals, x < 18446744073709551616 := by
 intro x hx
 unfold Ev.vals at hx
 obtain ⟨i, _, rfl⟩ := List.mem_map.1 hx
 have hr : e.fld i < 18446744073709551616 := by
  unfold Ev.fld
  split
  ·have := he.task; unfold I64 at this; omega
  ·have := he.group; unfold I64 at this; omega
  ·have := he.to; unfold I64 at this; omega
  ·have := he.weight; unfold I64 at this; omega
  ·have := he.ticks; unfold I64 at this; omega
  ·have := he.mask; omega
  ·have := he.got; unfold I64 at this; omega
 omega
theorem si_ev : SI Tryz.prog 35 11 := ⟨by kernel_rfl, by kernel_rfl⟩
theorem si_bs : SI Tryz.prog 140 2 := ⟨by kernel_rfl, by kernel_rfl⟩
theorem qs (e : Ev) : e.cells.size = 11 := rfl
theorem qaj (b : Bs) : b.cells.size = 2 := rfl
theorem zd (e : Ev) : ∀ v ∈ e.cells.toList, v.oneCell' = true := by intro v hv; simp [Ev.cells] at hv; rcases hv with rfl | rfl | rfl | rfl | rfl | rfl | rfl | rfl | rfl | rfl | rfl <;> rfl
theorem qp0 (b : Bs) : ∀ v ∈ b.cells.toList, v.oneCell' = true := by intro v hv; simp [Bs.cells] at hv; rcases hv with rfl | rfl <;> rfl
structure BsAt (w : World) (b : Nat) (e : Bs) : Prop where
 seq : w.cell? ⟨b, 0, none⟩ = some (.int .i64 e.seq)
 time : w.cell? ⟨b, 1, none⟩ = some (.int .i64 e.time)
theorem qfg {w : World} {b : Nat} {e : Ev} (h : w.rangeAt b 0 e.cells.toList) : EvAt w b e := by
 constructor
 ·exact h 0 _ rfl
 ·exact h 1 _ rfl
 ·exact h 2 _ rfl
 ·exact h 3 _ rfl
 ·exact h 4 _ rfl
 ·exact h 5 _ rfl
 ·exact h 6 _ rfl
 ·exact h 7 _ rfl
 ·exact h 8 _ rfl
 ·exact h 9 _ rfl
 ·exact h 10 _ rfl
set_option maxRecDepth 100000 in
set_option maxHeartbeats 2000000 in
theorem qp1 (b : Bs) (e : Ev) (he : e.Ok) (B : Nat) (w : World) (hL : Laid B w) (hB : B ≤ w.heap.size) :
  Calls Tryz.prog 94 #[.agg b.cells, .agg e.cells] w (BytesPost w (qz b e) (qan b e)) := by
 have hb1 : Below w.heap.size w ((w.alloc (.cells b.cells 140)).alloc (.cells e.cells 35)) := ((Below.refl _ _).alloc (Nat.le_refl _) _).alloc (by simp) _
 have hL1 := hL.below hb1 hB
 have HV := hide (qre e he B _ hL1 (by simp; omega))
 have HR := hide (fun W => qa0 b W)
 have HH := hide (fun W => qgt b e W)
 have c0 : e.cells[0]? = some (.int .i64 e.seq) := rfl
 have c1 : e.cells[1]? = some (.int .i64 e.time) := rfl
 have c3 : e.cells[3]? = some (.int .u8 (e.kind : Int)) := rfl
 have d0 : b.cells[0]? = some (.int .i64 b.seq) := rfl
 have d1 : b.cells[1]? = some (.int .i64 b.time) := rfl
 have HE := hide (qb (show ((w.alloc (.cells b.cells 140)).alloc (.cells e.cells 35)).heap[w.heap.size + 1]? = some (.cells e.cells 35) by have := World.alloc_heap_new (w.alloc (.cells b.cells 140)) (.cells e.cells 35); rwa [World.size_alloc] at this))
 have HD := hide (qb (show ((w.alloc (.cells b.cells 140)).alloc (.cells e.cells 35)).heap[w.heap.size]? = some (.cells b.cells 140) from (Below.heap_alloc _ _ _ (by simp)).trans (World.alloc_heap_new w _)))
 have HE11 := hide (qs e)
 have HB2 := hide (qaj b)
 by_cases hk : e.check = 0
 ·have hne : ((e.check : Int) != 0) = false := by rw [bne_eq_false_iff_eq]; omega
  have HK := hide hk
  clear hk
  by_cases hrb : b.right = true ∧ b.behind e = true
  ·have hbR := hide hrb.1
   have hbH := hide hrb.2
   have hP := hide (show qz b e = 0 by unfold qz; rw [if_neg (by simp [HK.out]), if_pos hrb])
   have hq := hrb.2
   have hqr := hrb.1
   unfold Bs.behind at hq
   unfold Bs.right at hqr
   simp only [decide_eq_true_eq] at hq hqr
   obtain ⟨q1, q2⟩ := hq
   obtain ⟨q3, q4, q5, q6⟩ := hqr
   have ⟨_, _, q7, q8, q9, q10, q11⟩ := qaw HK.out
   have hol : e.za.length ≤ 4 := by have := qfx e; unfold Ev.za; split <;> simp <;> omega
   clear hrb
   rw [hbR.out] at HR
   rw [hbH.out] at HH
   generalize hcs : e.cells = cs at *
   generalize hds : b.cells = ds at *
   have HCS := hide hcs
   have HDS := hide hds
   clear hcs hds
   go_enter Tryz.func94, Tryz.ntmps94
   go_wp2_with (first
    | (with_reducible refine zj HE.out rfl rfl rfl si_ev HE11.out ?_)
    | (go_at_call 111; refine HV.out.mono ?_; rintro r w1 ⟨⟨v, rfl, hown⟩, hbw⟩; obtain ⟨A, c, rfl⟩ := qa4 hown; have HE1 := hide (qo HE.out hbw (by simp)); have HD1 := hide (qo HD.out hbw (by simp; omega)); have hz1 := hbw.size; simp only [World.size_alloc] at hz1)
    | (refine qd1 HE1.out (by rfl) rfl rfl si_ev HE11.out ?_) | (refine qd1 HD1.out (by rfl) rfl rfl si_bs HB2.out ?_)
    | (go_at_call 106; refine (HR.out _).mono ?_; rintro r w2 ⟨rfl, hbw2⟩; have HE2 := hide (qo HE1.out hbw2 (by omega)); have HD2 := hide (qo HD1.out hbw2 (by omega)); have hz2 := hbw2.size)
    | (refine qd1 HE2.out (by rfl) rfl rfl si_ev HE11.out ?_)
    | (refine qd1 HD2.out (by rfl) rfl rfl si_bs HB2.out ?_)
    | (go_at_call 112; refine (HH.out _).mono ?_; rintro r w3 ⟨rfl, hbw3⟩; have HE3 := hide (qo HE2.out hbw3 (by omega)); have HD3 := hide (qo HD2.out hbw3 (by omega)); have hz3 := hbw3.size; have k0 := qdi HE3.out c0; have k1 := qdi HE3.out c1; have k3 := qdi HE3.out c3; have j0 := qdi HD3.out d0; have j1 := qdi HD3.out d1; have hRv := (((Rd.qjf hown rfl).below hbw2).below (hbw3.mono hz2)).more (Nat.le_trans hz2 hz3))
    | (at_builtin; refine qbz rfl rfl qc0 (World.ownsRow_lit (base := w.heap.size) (e := 33) (size := 1) w3 #[.int .u64 (e.seq - b.seq), .int .u64 (e.time - b.time)] 2 (by omega) (by unfold maxLen; omega) rfl) rfl (hRv.alloc (Nat.le_refl _) _) rfl (by simp [Value.oneCell', U64]) (by omega) (by omega) (by simp; omega) ?_; intro A4 c4 w4 hown4 hgr4 hbl4))
   have hs4 := hgr4.size
   simp only [World.size_alloc] at hs4
   have hlit := World.alloc_heap_new w3 (.cells #[.int .u64 (e.seq - b.seq), .int .u64 (e.time - b.time)] 33)
   have k4 : w4.cell? ⟨w.heap.size + 1, 3, none⟩ = some (.int .u8 (e.kind : Int)) := by
    refine (World.cell?_of_block (hgr4.block (w.heap.size + 1) (by simp; omega) (fun h => ?_))).trans ((World.cell?_alloc_lt w3 _ ⟨w.heap.size + 1, 3, none⟩ (by show w.heap.size + 1 < _; omega)).trans k3)
    have h' : w.heap.size + 1 = w3.heap.size := by injection h
    omega
   have hB4 : Below w.heap.size w w4 := ((((hb1.trans (hbw.mono (by simp; omega))).trans (hbw2.mono (by omega))).trans (hbw3.mono (by omega))).alloc (by omega) _).grown hgr4 (by simp; omega) (fun g hg => by
    have h' : w3.heap.size = g := by injection hg
    omega)
   have hov : e.za = e.vals := by unfold Ev.za; rw [if_pos HK.out]
   have hR4 : Rd w4 w4.heap.size 1 A4 (2 + e.za.length) ((zp b e).map U64) := by
    have h1 := Rd.qjf hown4 rfl
    have h2 : [Value.int .u64 (e.seq - b.seq), .int .u64 (e.time - b.time)] ++ List.map U64 e.za = (zp b e).map U64 := by
     rw [hov]; unfold zp; simp [U64]; omega
    rwa [h2] at h1
   have hls : ∀ x ∈ zp b e, x < 18446744073709551616 := by
    intro x hx
    unfold zp at hx
    rcases List.mem_cons.1 hx with rfl | hx
    ·omega
    ·rcases List.mem_cons.1 hx with rfl | hx
     ·omega
     ·exact q0v he x hx
   have hfl := qad (zp b e)
   have hrl : (zp b e).length ≤ 6 := by have := qfx e; unfold zp; simp; omega
   have HW := hide (fun W (hr : Rd W W.heap.size 1 A4 (2 + e.za.length) ((zp b e).map U64)) => qhg A4 (2 + e.za.length) c4 (zp b e) W hr hls (by omega))
   have hsz4 : w.heap.size + 2 ≤ w4.heap.size := by omega
   obtain ⟨L, HL⟩ : ∃ L, Hid ((zp b e).flatMap vbytes = L) := ⟨_, hide rfl⟩
   rw [HL.out] at HW hfl
   have HLS := hide hls
   clear hls hov hlit hown4 hgr4 hbl4 hRv k0 k1 k3 j0 j1 HE3 HD3 HE2 HD2 HE1 HD1 hown hbw hbw2 hbw3 hz1 hz2 hz3 HE HD HH HV hL1 hb1 HR hs4
   clear hne
   have hlt4 : w.heap.size + 1 < w4.heap.size := by omega
   have hkeep : ∀ W, Below w4.heap.size w4 W → W.cell? ⟨w.heap.size + 1, 3, none⟩ = some (.int .u8 (e.kind : Int)) ∧ Below w4.heap.size w4 W := fun W hB => ⟨(hB.cell (p := ⟨w.heap.size + 1, 3, none⟩) hlt4).trans k4, hB⟩
   have HKP := hide hkeep
   have hr0 : Below w4.heap.size w4 w4 := Below.refl _ _
   have hm : w4.heap.size ≤ w4.heap.size := Nat.le_refl _
   clear hkeep
   go_region_held3 (fun w' => w'.cell? ⟨w.heap.size + 1, 3, none⟩ = some (.int .u8 (e.kind : Int)) ∧ Below w4.heap.size w4 w')
    (first
     | exact HKP.out _ hr0.drew
     | exact HKP.out _ (hr0.alloc hm _).drew
     | exact HKP.out _ hS5
     | exact HKP.out _ (hS5.alloc hS5.size _)
     | exact HKP.out _ hS6)
    (first
     | (go_at_call 74; have hS := ‹_ ∧ Below w4.heap.size w4 _›; refine (HW.out _ ((hR4.below hS.2).more hS.2.size)).mono ?_; rintro r w5 ⟨v5, rfl, hown5, hb5⟩; obtain ⟨A5, c5, rfl⟩ := qa4 hown5; have hS5 := hS.2.trans (hb5.mono hS.2.size))
     | (refine qfe rfl rfl ei_u8 (((Chg.of_below hb5).keep (Nat.zero_le _)).ownsRow (World.ownsRow_lit (base := w.heap.size) (e := 5) (size := 1) w4 #[.int .u8 (e.kind : Int)] 1 (by omega) (by unfold maxLen; omega) rfl).drew (by simp)) rfl (Rd.qjf hown5 rfl) rfl (by simp [Value.oneCell', B8]) (by omega) (by omega) (by have := hS5.size; omega) ?_; intro A6 c6 w6 hown6 hgr6 hbl6; have hS6 := hS5.grown hgr6 hS5.size (fun g hg => by have h' : w4.heap.size = g := by { injection hg }; omega))
     | (refine qfe rfl rfl ei_u8 (World.ownsRow_lit (base := w.heap.size) (e := 5) (size := 1) w5 #[.int .u8 (e.kind : Int)] 1 (by have := hS5.size; omega) (by unfold maxLen; omega) rfl) rfl ((Rd.qjf hown5 rfl).alloc (Nat.le_refl _) _) rfl (by simp [Value.oneCell', B8]) (by omega) (by omega) (by have := hS5.size; simp; omega) ?_; intro A6 c6 w6 hown6 hgr6 hbl6; have hS6 := (hS5.alloc hS5.size _).grown hgr6 (by simp; have := hS5.size; omega) (fun g hg => by have h' : w5.heap.size = g := by { injection hg }; have := hS5.size; omega)))
   all_goals
    go_wp2
    go_ret2
    refine ⟨⟨.slice A6 (1 + L.length) c6, by rw [hP.out]; rfl, ?_⟩, hB4.trans (hS6.mono (by omega))⟩
    have hO : qan b e = e.kind :: L := by unfold qan; rw [if_pos hP.out]; unfold zb; rw [HL.out]
    rw [hO, List.length_cons, List.map_cons, Nat.add_comm L.length 1]
    exact hown6
  ·have hP := hide (show qz b e = 70 by unfold qz; rw [if_neg (by simp [HK.out]), if_neg hrb])
   have hO := hide (show qan b e = [] by unfold qan; rw [hP.out]; rfl)
   have hbb : b.right = false ∨ (b.right = true ∧ b.behind e = false) := by
    cases h1 : b.right
    ·exact .inl rfl
    ·refine .inr ⟨rfl, ?_⟩
     cases h2 : b.behind e
     ·rfl
     ·exact absurd ⟨h1, h2⟩ hrb
   clear hrb c0 c1 c3 d0 d1
   generalize e.cells = cs at *
   generalize b.cells = ds at *
   rcases hbb with hbR | ⟨hbR, hbH⟩
   ·rw [hbR] at HR
    have hR' := hide hbR
    clear hbR
    go_enter Tryz.func94, Tryz.ntmps94
    go_wp2_with (first
     | (with_reducible refine zj HE.out rfl rfl rfl si_ev HE11.out ?_)
     | (go_at_call 111; refine HV.out.mono ?_; rintro r w1 ⟨⟨v, rfl, hown⟩, hbw⟩; have HE1 := hide (qo HE.out hbw (by simp)); have HD1 := hide (qo HD.out hbw (by simp; omega)); have hz1 := hbw.size; simp only [World.size_alloc] at hz1)
     | (refine qd1 HE1.out (by rfl) rfl rfl si_ev HE11.out ?_)
     | (refine qd1 HD1.out (by rfl) rfl rfl si_bs HB2.out ?_)
     | (go_at_call 106; refine (HR.out _).mono ?_; rintro r w2 ⟨rfl, hbw2⟩; have HE2 := hide (qo HE1.out hbw2 (by omega)); have HD2 := hide (qo HD1.out hbw2 (by omega)); have hz2 := hbw2.size)
     | (refine qd1 HE2.out (by rfl) rfl rfl si_ev HE11.out ?_)
     | (refine qd1 HD2.out (by rfl) rfl rfl si_bs HB2.out ?_)
     | (go_at_call 112; refine (HH.out _).mono ?_; rintro r w3 ⟨rfl, hbw3⟩))
    go_ret2
    refine ⟨⟨.slice none 0 0, by rw [hP.out]; rfl, by rw [hO.out]; exact World.ownsRow_nil _ _ _ _⟩, (hb1.trans (hbw.mono (by simp; omega))).trans (hbw2.mono (by omega))⟩
   ·rw [hbR] at HR
    rw [hbH] at HH
    have hR' := hide hbR
    have hH' := hide hbH
    clear hbR hbH
    go_enter Tryz.func94, Tryz.ntmps94
    go_wp2_with (first
     | (with_reducible refine zj HE.out rfl rfl rfl si_ev HE11.out ?_)
     | (go_at_call 111; refine HV.out.mono ?_; rintro r w1 ⟨⟨v, rfl, hown⟩, hbw⟩; have HE1 := hide (qo HE.out hbw (by simp)); have HD1 := hide (qo HD.out hbw (by simp; omega)); have hz1 := hbw.size; simp only [World.size_alloc] at hz1)
     | (refine qd1 HE1.out (by rfl) rfl rfl si_ev HE11.out ?_)
     | (refine qd1 HD1.out (by rfl) rfl rfl si_bs HB2.out ?_)
     | (go_at_call 106; refine (HR.out _).mono ?_; rintro r w2 ⟨rfl, hbw2⟩; have HE2 := hide (qo HE1.out hbw2 (by omega)); have HD2 := hide (qo HD1.out hbw2 (by omega)); have hz2 := hbw2.size)
     | (refine qd1 HE2.out (by rfl) rfl rfl si_ev HE11.out ?_)
     | (refine qd1 HD2.out (by rfl) rfl rfl si_bs HB2.out ?_)
     | (go_at_call 112; refine (HH.out _).mono ?_; rintro r w3 ⟨rfl, hbw3⟩))
    go_ret2
    refine ⟨⟨.slice none 0 0, by rw [hP.out]; rfl, by rw [hO.out]; exact World.ownsRow_nil _ _ _ _⟩, ((hb1.trans (hbw.mono (by simp; omega))).trans (hbw2.mono (by omega))).trans (hbw3.mono (by omega))⟩
 ·have hne : ((e.check : Int) != 0) = true := by rw [bne_iff_ne]; omega
  have HK := hide hk
  clear hk c0 c1 c3 d0 d1
  generalize e.cells = cs at *
  generalize b.cells = ds at *
  go_enter Tryz.func94, Tryz.ntmps94
  go_wp2_with (first | (with_reducible refine zj HE.out rfl rfl rfl si_ev HE11.out ?_) | (go_at_call 111; refine HV.out.mono ?_; rintro r w1 ⟨⟨v, rfl, hown⟩, hbw⟩))
  go_ret2
  have h0 := HK.out
  refine ⟨⟨.slice none 0 0, by rw [show qz b e = e.check by unfold qz; rw [if_pos h0]]; rfl, by rw [show qan b e = [] by unfold qan qz; rw [if_pos h0, if_neg h0]]; exact World.ownsRow_nil _ _ _ _⟩, hb1.trans (hbw.mono (by simp; omega))⟩
set_option maxRecDepth 100000 in
set_option maxHeartbeats 400000 in
theorem qxh (b : Bs) (e : Ev) (he : e.Ok) (B : Nat) (w : World) (hL : Laid B w) (hB : B ≤ w.heap.size) :
  Calls Tryz.prog 75 #[.agg b.cells, .agg e.cells] w fun r w' => r = .returned (.tuple #[.int .i64 ((qan b e).length : Int), .int .i64 (qz b e : Int)]) ∧ Below w.heap.size w w' := by
 have hb1 : Below w.heap.size w ((w.alloc (.cells b.cells 140)).alloc (.cells e.cells 35)) := ((Below.refl _ _).alloc (Nat.le_refl _) _).alloc (by simp) _
 have HP := hide (qp1 b e he B _ (hL.below hb1 hB) (by simp; omega))
 have HE := hide (qb (show ((w.alloc (.cells b.cells 140)).alloc (.cells e.cells 35)).heap[w.heap.size + 1]? = some (.cells e.cells 35) by have := World.alloc_heap_new (w.alloc (.cells b.cells 140)) (.cells e.cells 35); rwa [World.size_alloc] at this))
 have HD := hide (qb (show ((w.alloc (.cells b.cells 140)).alloc (.cells e.cells 35)).heap[w.heap.size]? = some (.cells b.cells 140) from (Below.heap_alloc _ _ _ (by simp)).trans (World.alloc_heap_new w _)))
 have HE11 := hide (qs e)
 have HB2 := hide (qaj b)
 generalize e.cells = cs at *
 generalize b.cells = ds at *
 go_enter Tryz.func75, Tryz.ntmps75
 go_wp2_with (first
  | (with_reducible refine zj HE.out rfl rfl rfl si_ev HE11.out ?_)
  | (with_reducible refine zj HD.out rfl rfl rfl si_bs HB2.out ?_)
  | (go_at_call 94; refine HP.out.mono ?_; rintro r w1 ⟨⟨v, rfl, hown⟩, hbw⟩; obtain ⟨A, c, rfl⟩ := qa4 hown))
 go_ret2
 exact ⟨rfl, hb1.trans (hbw.mono (by simp; omega))⟩
end Go.Proofs.YtpklccgmjhikeaaGreatDoor
