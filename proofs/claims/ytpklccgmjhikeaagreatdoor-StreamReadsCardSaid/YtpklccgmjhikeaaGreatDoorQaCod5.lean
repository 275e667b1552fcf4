/- A part of the proof. -/
import Derived.Test.YtpklccgmjhikeaaGreatDoorQaCod4
namespace Go.Proofs.YtpklccgmjhikeaaGreatDoor
open Go.RowKit
theorem qme {w : World} {g o : Nat} {e : Ev} (h : w.rangeAt g o e.cells.toList) : w.cell? ⟨g, o, none⟩ = some (.int .i64 e.seq) ∧ w.cell? ⟨g, o + 1, none⟩ = some (.int .i64 e.time) ∧ w.cell? ⟨g, o + 2, none⟩ = some (.int .u8 (e.cpu : Int)) ∧ w.cell? ⟨g, o + 3, none⟩ = some (.int .u8 (e.kind : Int)) ∧ w.cell? ⟨g, o + 4, none⟩ = some (.int .i64 e.task) ∧ w.cell? ⟨g, o + 5, none⟩ = some (.int .i64 e.group) ∧ w.cell? ⟨g, o + 6, none⟩ = some (.int .i64 e.to) ∧ w.cell? ⟨g, o + 7, none⟩ = some (.int .i64 e.weight) ∧ w.cell? ⟨g, o + 8, none⟩ = some (.int .i64 e.ticks) ∧ w.cell? ⟨g, o + 9, none⟩ = some (.int .u64 (e.mask : Int)) ∧ w.cell? ⟨g, o + 10, none⟩ = some (.int .i64 e.got) :=
 ⟨h 0 _ rfl, h 1 _ rfl, h 2 _ rfl, h 3 _ rfl, h 4 _ rfl, h 5 _ rfl, h 6 _ rfl, h 7 _ rfl, h 8 _ rfl, h 9 _ rfl, h 10 _ rfl⟩
def qd7 (b : Bs) (l : List Ev) : Nat → Bs
 | 0 => b
 | k + 1 => match l[k]? with | some e => e.at | none => b
theorem qgv : ∀ (l : List Ev) (p : Option Ev) (i : Nat), (rowGo p i l).2 = 0 → (∀ e ∈ l, e.check = 0) ∧ (∀ e, l.head? = some e → p.all (fun q => e.after q) = true) ∧ (∀ k (h : k + 1 < l.length), l[k + 1].after l[k] = true)
 | [], _, _, _ => ⟨by simp, by simp, by simp⟩
 | e :: r, p, i, h => by
  rw [rowGo] at h
  split at h
  ·rename_i h1; exact absurd h h1
  ·rename_i h1
   split at h
   ·simp at h
   ·rename_i h2
    obtain ⟨g1, g2, g3⟩ := qgv r (some e) (i + 1) h
    refine ⟨?_, ?_, ?_⟩
    ·intro x hx
     rcases List.mem_cons.1 hx with rfl | hx
     ·simpa using h1
     ·exact g1 x hx
    ·intro x hx
     simp at hx; subst hx; simpa using h2
    ·intro k hk
     cases k with
     | zero =>
      cases r with
      | nil => simp at hk
      | cons y r => exact by simpa using g2 y rfl
     | succ k => exact g3 k (by simpa using hk)
theorem qog {e : Ev} (h : e.check = 0) : e.at.right = true := by
 have ⟨_, _, _, h1, h2, h3, h4⟩ := qaw h
 unfold Ev.at Bs.right
 simp only [decide_eq_true_eq]
 exact ⟨h1, h2, h3, h4⟩
theorem qmf {e q : Ev} (h : e.after q = true) : q.at.behind e = true := by
 unfold Ev.after at h
 unfold Ev.at Bs.behind
 simp only [decide_eq_true_eq] at h ⊢
 omega
theorem qp2 {b : Bs} {l : List Ev} (hr : (rowR l).2 = 0) (hb : b.right = true) (hh : l.head?.all b.behind = true) (k : Nat) (hk : k < l.length) : qz (qd7 b l k) l[k] = 0 := by
 obtain ⟨g1, _, g3⟩ := qgv l none 0 hr
 unfold qz
 rw [if_neg (by simp [g1 l[k] (List.getElem_mem _)]), if_pos]
 cases k with
 | zero =>
  refine ⟨hb, ?_⟩
  cases l with
  | nil => simp at hk
  | cons y r => show b.behind y = true; simpa using hh
 | succ k =>
  have e : qd7 b l (k + 1) = l[k].at := by show (match l[k]? with | some e => e.at | none => b) = _; rw [List.getElem?_eq_getElem (by omega)]
  rw [e]
  exact ⟨qog (g1 l[k] (List.getElem_mem _)), qmf (g3 k hk)⟩
theorem qoh (b : Bs) (e : Ev) : (zb b e).length ≤ 61 := by
 unfold zb
 rw [List.length_cons]
 have h1 := qad (zp b e)
 have h2 : (zp b e).length ≤ 6 := by have := qfx e; unfold zp; simp; omega
 omega
def WrRel (w : World) (b : Bs) (l : List Ev) (n : Nat) (v i : Value) (wr : World) : Prop :=
 ∃ (k : Nat) (pre : List Nat), k ≤ n ∧ i = .int .i64 (k : Int) ∧ pre.length ≤ 61 * k ∧ wr.ownsRow (w.heap.size + 1) 5 1 v pre.length (pre.map B8) ∧ recs b l = pre ++ recs (qd7 b l k) (l.drop k) ∧
  wr.heap[w.heap.size]? = some (.cells (qd7 b l k).cells 140 (0, 0)) ∧ Below w.heap.size w wr
set_option maxRecDepth 100000 in
set_option maxHeartbeats 2000000 in
theorem qrf (b : Bs) (A : Option Addr) (n c : Nat) (l : List Ev) (hok : ∀ e ∈ l, e.Ok) (B : Nat) (w : World) (hL : Laid B w) (hB : B ≤ w.heap.size) (hr : Rd w w.heap.size 11 A n (l.flatMap evL)) (hn : n ≤ 1000000000000)
  (hrow : (rowR l).2 = 0) (hrt : b.right = true) (hn0 : 0 < n) (hbh : l.head?.all b.behind = true) :
  Calls Tryz.prog 100 #[.agg b.cells, .slice A n c] w (BytesPost w 0 (recs b l)) := by
 have hlen : l.length = n := by have := hr.len; rw [qbu evL 11 qw] at this; omega
 obtain ⟨g, o, rfl, hgb, _, hcells⟩ := hr.struct qw (by omega) hn0
 have hpg := hide (fun k hk => qp2 hrow hrt hbh k hk)
 have HRO := hide (fun W (h : Below w.heap.size w W) => qgu (some ⟨g, o, none⟩) n c l hok B W (hL.below h hB) (by have := h.size; omega) ((hr.below h).more h.size) (by omega))
 have HRW := hide hrow
 have hq : rowR l = ((rowR l).1, 0) := by rw [← hrow]
 generalize (rowR l).1 = x at hq
 rw [hq] at HRO
 obtain ⟨e0, he0⟩ : ∃ e0, Hid (l[0]'(by omega) = e0) := ⟨_, hide rfl⟩
 have hbh0 : b.behind e0 = true := by
  cases l with
  | nil => simp at hlen; omega
  | cons y r => have h1 := he0.out; simp at h1; subst h1; simpa using hbh
 have HR := hide (fun W => qa0 b W)
 rw [hrt] at HR
 have HH := hide (fun W => qgt b e0 W)
 rw [hbh0] at HH
 have hc0 := hcells 0 (by omega)
 rw [Nat.zero_mul, Nat.add_zero, he0.out] at hc0
 have hc0' := hide (show w.rangeAt g o e0.cells.toList from hc0)
 have HLN := hide hlen
 have HCE := hide hcells
 have HL := hide hL
 have HB2 := hide (qaj b)
 have hbx : Below w.heap.size w (w.alloc (.cells b.cells 140)) := (Below.refl _ _).alloc (Nat.le_refl _) _
 have HX := hide (World.alloc_heap_new w (.cells b.cells 140))
 have hni : (0 : Int) < (n : Int) := by omega
 clear he0
 clear hq hlen hcells hr hrow hrt hbh hbh0 hc0 hL
 go_enter Tryz.func100, Tryz.ntmps100
 go_wp2_with (first
  | (go_at_call 71; refine (HRO.out _ hbx).mono ?_; rintro r w1 ⟨rfl, hb1⟩))
 have hb2 := hbx.trans (hb1.mono (by simp))
 have hz2 := hb2.size
 have hz1 : w.heap.size + 1 ≤ w1.heap.size := by have := hb1.size; simpa using this
 have HX1 := hide ((hb1.block w.heap.size (by simp)).trans HX.out)
 have d0 : w1.cell? ⟨w.heap.size, 0, none⟩ = some (.int .i64 b.seq) := by simp [World.cell?, HX1.out, Bs.cells]
 have d1 : w1.cell? ⟨w.heap.size, 1, none⟩ = some (.int .i64 b.time) := by simp [World.cell?, HX1.out, Bs.cells]
 obtain ⟨m0, m1, m2, m3, m4, m5, m6, m7, m8, m9, m10⟩ := qme (qo hc0'.out hb2 hgb)
 have HKP := hide (show ∀ w' : World, Below w1.heap.size w1 w' → (w'.cell? ⟨w.heap.size, 0, none⟩ = some (.int .i64 b.seq) ∧ w'.cell? ⟨w.heap.size, 1, none⟩ = some (.int .i64 b.time) ∧ w'.cell? ⟨g, o, none⟩ = some (.int .i64 e0.seq) ∧ w'.cell? ⟨g, o + 1, none⟩ = some (.int .i64 e0.time) ∧ w'.cell? ⟨g, o + 2, none⟩ = some (.int .u8 (e0.cpu : Int)) ∧ w'.cell? ⟨g, o + 3, none⟩ = some (.int .u8 (e0.kind : Int)) ∧ w'.cell? ⟨g, o + 4, none⟩ = some (.int .i64 e0.task) ∧ w'.cell? ⟨g, o + 5, none⟩ = some (.int .i64 e0.group) ∧ w'.cell? ⟨g, o + 6, none⟩ = some (.int .i64 e0.to) ∧ w'.cell? ⟨g, o + 7, none⟩ = some (.int .i64 e0.weight) ∧ w'.cell? ⟨g, o + 8, none⟩ = some (.int .i64 e0.ticks) ∧ w'.cell? ⟨g, o + 9, none⟩ = some (.int .u64 (e0.mask : Int)) ∧ w'.cell? ⟨g, o + 10, none⟩ = some (.int .i64 e0.got) ∧ Below w1.heap.size w1 w') from fun w' h =>
  ⟨(h.cell (by show w.heap.size < _; omega)).trans d0, (h.cell (by show w.heap.size < _; omega)).trans d1, (h.cell (by show g < _; omega)).trans m0, (h.cell (by show g < _; omega)).trans m1, (h.cell (by show g < _; omega)).trans m2, (h.cell (by show g < _; omega)).trans m3, (h.cell (by show g < _; omega)).trans m4, (h.cell (by show g < _; omega)).trans m5, (h.cell (by show g < _; omega)).trans m6, (h.cell (by show g < _; omega)).trans m7, (h.cell (by show g < _; omega)).trans m8, (h.cell (by show g < _; omega)).trans m9, (h.cell (by show g < _; omega)).trans m10, h⟩)
 have hr0 : Below w1.heap.size w1 w1 := Below.refl _ _
 go_region_held3 (fun w' => w'.cell? ⟨w.heap.size, 0, none⟩ = some (.int .i64 b.seq) ∧ w'.cell? ⟨w.heap.size, 1, none⟩ = some (.int .i64 b.time) ∧ w'.cell? ⟨g, o, none⟩ = some (.int .i64 e0.seq) ∧ w'.cell? ⟨g, o + 1, none⟩ = some (.int .i64 e0.time) ∧ w'.cell? ⟨g, o + 2, none⟩ = some (.int .u8 (e0.cpu : Int)) ∧ w'.cell? ⟨g, o + 3, none⟩ = some (.int .u8 (e0.kind : Int)) ∧ w'.cell? ⟨g, o + 4, none⟩ = some (.int .i64 e0.task) ∧ w'.cell? ⟨g, o + 5, none⟩ = some (.int .i64 e0.group) ∧ w'.cell? ⟨g, o + 6, none⟩ = some (.int .i64 e0.to) ∧ w'.cell? ⟨g, o + 7, none⟩ = some (.int .i64 e0.weight) ∧ w'.cell? ⟨g, o + 8, none⟩ = some (.int .i64 e0.ticks) ∧ w'.cell? ⟨g, o + 9, none⟩ = some (.int .u64 (e0.mask : Int)) ∧ w'.cell? ⟨g, o + 10, none⟩ = some (.int .i64 e0.got) ∧ Below w1.heap.size w1 w')
  ((refine HKP.out _ ?_; first
   | with_reducible exact hr0.drew
   | with_reducible exact hS4
   | with_reducible exact hS3))
  (first
   | (go_at_call 106; refine (HR.out _).mono ?_; rintro r w3 ⟨rfl, hb3⟩; have hS3 := hr0.drew.trans hb3)
   | (go_at_call 112; refine (HH.out _).mono ?_; rintro r w4 ⟨rfl, hb4⟩; have hS4 := hS3.trans (hb4.mono hS3.size)))
 have hz3 := hS3.size
 have hz4 := hS4.size
 have HX4 := hide ((hS4.block w.heap.size (by omega)).trans HX1.out)
 have hB4 := hb2.trans (hS4.mono (by omega))
 clear HKP hr0 m0 m1 m2 m3 m4 m5 m6 m7 m8 m9 m10 d0 d1
 go_wp2
 go_loopw [8, 39] (WrRel w b l n) (fun _ i _ => n - (intOf i).toNat)
 case atStart => exact ⟨0, [], by omega, rfl, by simp, World.ownsRow_nil _ _ _ _, rfl, HX4.out, hB4⟩
 case round =>
  obtain ⟨k, pre, hk, rfl, hpl, hown, hsp, hbox, hb⟩ := hrel
  have hz := hb.size
  have hbxl := zt hbox
  have HSP := hide hsp
  clear hsp
  obtain ⟨A1, c1, rfl⟩ := qa4 hown
  by_cases hlt : k < n
  ·have hkl : k < l.length := by rw [HLN.out]; exact hlt
   have hE0 := qo (HCE.out k hkl) hb hgb
   have heok := hok l[k] (List.getElem_mem _)
   have hpk := hpg.out k hkl
   have hbA : qd7 b l (k + 1) = l[k].at := by show (match l[k]? with | some e => e.at | none => b) = _; rw [List.getElem?_eq_getElem hkl]
   have hrc : recs (qd7 b l k) (l.drop k) = zb (qd7 b l k) l[k] ++ recs l[k].at (l.drop (k + 1)) := by rw [List.drop_eq_getElem_cons hkl, recs]
   obtain ⟨e, he⟩ : ∃ e, l[k] = e := ⟨_, rfl⟩
   rw [he] at hE0 heok hpk hbA hrc
   have hE := hide (show wr.rangeAt g (o + k * 11) e.cells.toList from hE0)
   obtain ⟨bk, hbk⟩ : ∃ bk, qd7 b l k = bk := ⟨_, rfl⟩
   rw [hbk] at hpk hrc hbox
   have HBK := hide hbk
   have HBA := hide hbA
   obtain ⟨R, hR⟩ : ∃ R, zb bk e = R := ⟨_, rfl⟩
   rw [hR] at hrc
   have HRC := hide hrc
   have hRl : R.length ≤ 61 := by rw [← hR]; exact qoh _ _
   have hpo : qan bk e = R := by unfold qan; rw [if_pos hpk, hR]
   have HP := hide (fun W (h : Below w.heap.size w W) => qp1 bk e heok B W (HL.out.below h hB) (by have := h.size; omega))
   rw [hpk, hpo] at HP
   have hbW := hb.alloc hz (.cells e.cells 35)
   have hboxW := (Below.heap_alloc wr (.cells e.cells 35) w.heap.size hbxl).trans hbox
   have HRB := hide (qb hboxW)
   have hEW := EvAt.new wr e 35
   have hbx0 : wr.heap.size ≠ w.heap.size := by omega
   have HOF := hide (fun W => (show Calls Tryz.prog 121 #[.agg e.cells] W (fun r w' => r = .returned (.agg #[.int .i64 e.seq, .int .i64 e.time]) ∧ Below W.heap.size W w') from qzr e W))
   clear he hpk hbA hrc hbk hR hpo hE0
   go_wp2_with (first
    | (with_reducible refine zj hE.out rfl rfl rfl si_ev (qs e) ?_)
    | (refine qck rfl rfl rfl rfl si_ev rfl (qs e) (zd e) ?_)
    | (with_reducible refine zj (qb (World.alloc_heap_new wr (.cells e.cells 35))) rfl rfl rfl si_ev (qs e) ?_)
    | (with_reducible refine zj HRB.out rfl rfl rfl si_bs (qaj bk) ?_)
    | (go_at_call 94; refine (HP.out _ hbW).mono ?_; rintro r w6 ⟨⟨vR, rfl, hown6⟩, hb6⟩; obtain ⟨A6, c6, rfl⟩ := qa4 hown6))
   have hz6 := hb6.size
   simp only [World.size_alloc] at hz6
   have hown7 := own_below (hown.alloc (.cells e.cells 35)) hb6 (Nat.le_refl _)
   obtain ⟨q0, q1, q2, q3, q4, q5, q6, q7, q8, q9, q10⟩ := hEW.below hb6 (by simp)
   have hbox6 := (hb6.block w.heap.size (by simp; omega)).trans hboxW
   have hB6 := hbW.trans (hb6.mono (by simp; omega))
   have hrow : ∀ g', (Value.slice A1 pre.length c1).ownBlock = some g' → w.heap.size < g' ∧ g' < wr.heap.size := fun g' h => by have := hown.lt g' h; omega
   have HROW := hide hrow
   have hR6 := Rd.qjf hown6 rfl
   have hx6 : wr.heap.size < w6.heap.size := by omega
   have HK := hide (show ∀ w' : World, (∀ o, w'.cell? ⟨wr.heap.size, o, none⟩ = w6.cell? ⟨wr.heap.size, o, none⟩) → (w'.cell? ⟨wr.heap.size, 0, none⟩ = some (.int .i64 e.seq) ∧ w'.cell? ⟨wr.heap.size, 1, none⟩ = some (.int .i64 e.time) ∧ w'.cell? ⟨wr.heap.size, 2, none⟩ = some (.int .u8 (e.cpu : Int)) ∧ w'.cell? ⟨wr.heap.size, 3, none⟩ = some (.int .u8 (e.kind : Int)) ∧ w'.cell? ⟨wr.heap.size, 4, none⟩ = some (.int .i64 e.task) ∧ w'.cell? ⟨wr.heap.size, 5, none⟩ = some (.int .i64 e.group) ∧ w'.cell? ⟨wr.heap.size, 6, none⟩ = some (.int .i64 e.to) ∧ w'.cell? ⟨wr.heap.size, 7, none⟩ = some (.int .i64 e.weight) ∧ w'.cell? ⟨wr.heap.size, 8, none⟩ = some (.int .i64 e.ticks) ∧ w'.cell? ⟨wr.heap.size, 9, none⟩ = some (.int .u64 (e.mask : Int)) ∧ w'.cell? ⟨wr.heap.size, 10, none⟩ = some (.int .i64 e.got)) from fun w' h => ⟨(h _).trans q0, (h _).trans q1, (h _).trans q2, (h _).trans q3, (h _).trans q4, (h _).trans q5, (h _).trans q6, (h _).trans q7, (h _).trans q8, (h _).trans q9, (h _).trans q10⟩)
   have HBX6 := hide hbox6
   clear hrow hbox6 HP hE HRB hEW hboxW hbox
   go_region_held3 (fun w' => w'.cell? ⟨wr.heap.size, 0, none⟩ = some (.int .i64 e.seq) ∧ w'.cell? ⟨wr.heap.size, 1, none⟩ = some (.int .i64 e.time) ∧ w'.cell? ⟨wr.heap.size, 2, none⟩ = some (.int .u8 (e.cpu : Int)) ∧ w'.cell? ⟨wr.heap.size, 3, none⟩ = some (.int .u8 (e.kind : Int)) ∧ w'.cell? ⟨wr.heap.size, 4, none⟩ = some (.int .i64 e.task) ∧ w'.cell? ⟨wr.heap.size, 5, none⟩ = some (.int .i64 e.group) ∧ w'.cell? ⟨wr.heap.size, 6, none⟩ = some (.int .i64 e.to) ∧ w'.cell? ⟨wr.heap.size, 7, none⟩ = some (.int .i64 e.weight) ∧ w'.cell? ⟨wr.heap.size, 8, none⟩ = some (.int .i64 e.ticks) ∧ w'.cell? ⟨wr.heap.size, 9, none⟩ = some (.int .u64 (e.mask : Int)) ∧ w'.cell? ⟨wr.heap.size, 10, none⟩ = some (.int .i64 e.got))
    ((refine HK.out _ ?_; intro oo; first
     | (with_reducible exact World.cell?_drew _ _)
     | exact hk8 oo
     | exact (hb9.cell (p := ⟨wr.heap.size, oo, none⟩) (by show wr.heap.size < w8.heap.size; omega)).trans (hk8 oo)
     | (simp only [qbd (p := ⟨wr.heap.size, oo, none⟩) hbx0]; exact (hb9.cell (p := ⟨wr.heap.size, oo, none⟩) (by show wr.heap.size < w8.heap.size; omega)).trans (hk8 oo))))
    (first
     | (refine qfe rfl rfl ei_u8 hown7.drew rfl hR6.drew rfl (by simp [Value.oneCell', B8]) (by omega) (by omega) (by show w.heap.size + 1 ≤ w6.heap.size; omega) ?_; intro A8 c8 w8 hown8 hgr8 hbl8; have hz8 : w6.heap.size ≤ w8.heap.size := hgr8.size; have hk8 : ∀ oo, w8.cell? ⟨wr.heap.size, oo, none⟩ = w6.cell? ⟨wr.heap.size, oo, none⟩ := fun oo => World.cell?_of_block (hgr8.block wr.heap.size (by show wr.heap.size < w6.heap.size; omega) (fun h => by have := (HROW.out _ h.symm).2; omega)); have hbox8 := (hgr8.block w.heap.size (by show w.heap.size < w6.heap.size; omega) (fun h => by have := (HROW.out _ h.symm).1; omega)).trans HBX6.out)
     | (go_at_call 121; refine (HOF.out _).mono ?_; rintro r w9 ⟨rfl, hb9⟩; have hz9 := hb9.size; have hbox9 := (hb9.block w.heap.size (by omega)).trans hbox8; have t0 : w9.cell? ⟨w.heap.size, 0, none⟩ = some (.int .i64 bk.seq) := by { simp [World.cell?, hbox9, Bs.cells] }; have t1 : w9.cell? ⟨w.heap.size, 1, none⟩ = some (.int .i64 bk.time) := by { simp [World.cell?, hbox9, Bs.cells] }; have t2 : ∀ oo, w9.frozen? ⟨w.heap.size, oo, none⟩ = false := fun oo => by { simp [World.frozen?, hbox9] }))
   have hB8 : Below w.heap.size w w8 := hB6.drew.grown hgr8 (by show w.heap.size ≤ w6.heap.size; omega) (fun g' h => by have := (HROW.out g' h).1; omega)
   have hB9 := hB8.trans (hb9.mono (by omega))
   have hown9 := qbn (qbn (own_below hown8 hb9 (Nat.le_refl _)) (p := ⟨w.heap.size, 0, none⟩) (by show w.heap.size < w.heap.size + 1; omega) (.int .i64 e.seq)) (p := ⟨w.heap.size, 1, none⟩) (by show w.heap.size < w.heap.size + 1; omega) (.int .i64 e.time)
   have hbx9 : ((w9.setCell ⟨w.heap.size, 0, none⟩ (.int .i64 e.seq)).setCell ⟨w.heap.size, 1, none⟩ (.int .i64 e.time)).heap[w.heap.size]? = some (.cells (qd7 b l (k + 1)).cells 140 (0, 0)) := by
    rw [HBA.out]
    simp [World.setCell, Array.getElem?_modify, hbox9, Bs.cells, Ev.at]
   have HBX9 := hide hbx9
   clear hbx9 hbox8 hbox9 hk8 t0 t1 t2 q0 q1 q2 q3 q4 q5 q6 q7 q8 q9 q10
   go_wp2
   refine ⟨⟨k + 1, pre ++ R, by omega, by go_num, by rw [List.length_append]; omega, ?_, ?_, HBX9.out, ?_⟩, by simp [intOf]; omega⟩
   ·rw [List.length_append, List.map_append]; exact hown9
   ·rw [HSP.out, HBK.out, HRC.out, HBA.out, List.append_assoc]
   ·exact (hB9.setCell (by show w.heap.size ≤ w.heap.size; omega) _).setCell (by show w.heap.size ≤ w.heap.size; omega) _
  ·have h1 := HLN.out
   have h2 : recs b l = pre := by rw [HSP.out, List.drop_eq_nil_of_le (by omega)]; simp [recs]
   have H2 := hide h2
   clear h1 h2
   go_wp2
   go_ret2
   exact ⟨⟨_, rfl, by rw [H2.out]; exact qeq hown (by omega)⟩, hb⟩
end Go.Proofs.YtpklccgmjhikeaaGreatDoor
