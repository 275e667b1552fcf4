/- Parts. -/
import Derived.Test.YtcajpeiobkcliaaGreatDoorQgPan
import Derived.Test.YtcajpeiobkcliaaGreatDoorQgSep13
import Derived.Test.YtcajpeiobkcliaaGreatDoorQgSep20
import Derived.Test.YtcajpeiobkcliaaGreatDoorQgSep11
import Derived.Test.YtcajpeiobkcliaaGreatDoorQgRnd2
import Derived.Scope
import Derived.Control
import Derived.Test.YtcajpeiobkcliaaGreatDoorQgSep17
import Derived.Test.YtcajpeiobkcliaaGreatDoorQgZ3
set_option linter.all false
set_option maxRecDepth 100000
set_option maxHeartbeats 4000000
namespace Go.Proofs.YtcajpeiobkcliaaGreatDoor
open Go.RowKit
theorem qln : ∀ {l m : List Nat}, (∀ x ∈ l, x < 18446744073709551616) → (∀ x ∈ m, x < 18446744073709551616) → l.flatMap vbytes = m.flatMap vbytes → l = m
 | [], [], _, _, _ => rfl
 | [], y :: m, _, _, h => by
  have h1 := congrArg List.length h
  have h2 := qbd y
  rw [List.flatMap_cons, List.length_append] at h1
  simp only [List.flatMap_nil, List.length_nil] at h1
  omega
 | x :: l, [], _, _, h => by
  have h1 := congrArg List.length h
  have h2 := qbd x
  rw [List.flatMap_cons, List.length_append] at h1
  simp only [List.flatMap_nil, List.length_nil] at h1
  omega
 | x :: l, y :: m, h1, h2, h => by
  rw [List.flatMap_cons, List.flatMap_cons] at h
  have a := qhh (l.flatMap vbytes) (h1 x (List.mem_cons_self ..))
  have b := qhh (m.flatMap vbytes) (h2 y (List.mem_cons_self ..))
  rw [h, b] at a
  injection a with a1 a2
  subst a1
  rw [qln (fun z hz => h1 z (List.mem_cons_of_mem _ hz)) (fun z hz => h2 z (List.mem_cons_of_mem _ hz)) (List.append_cancel_left h)]
theorem qex {α : Type} {l m : List α} (d : α) (hl : l.length = m.length) (h : ∀ i, i < l.length → l.getD i d = m.getD i d) : l = m := by
 refine List.ext_getElem hl fun i h1 h2 => ?_
 have := h i h1
 rw [List.getD_eq_getElem?_getD, List.getD_eq_getElem?_getD, List.getElem?_eq_getElem h1, List.getElem?_eq_getElem h2] at this
 exact this
theorem qey {α : Type} {f g : Nat → List α} : ∀ k, (∀ i, i < k → (f i).length = (g i).length) → upF k f = upF k g → ∀ i, i < k → f i = g i
 | 0, _, _ => fun i hi => absurd hi (Nat.not_lt_zero i)
 | k + 1, hl, h => fun i hi => by
  rw [ql, ql] at h
  obtain ⟨h1, h2⟩ := List.append_inj' h (hl k (Nat.lt_succ_self k))
  rcases Nat.lt_or_ge i k with h3 | h3
  ·exact qey k (fun j hj => hl j om) h1 i h3
  ·obtain rfl : i = k := by omega
   exact h2
theorem qcp {x y : Int} (hx : 0 ≤ x ∧ x < 9223372036854775808) (hy : 0 ≤ y ∧ y < 9223372036854775808) (h : toU x = toU y) : x = y := by unfold toU at h; omega
theorem qhi {l m : List Int} (hl : l.length = m.length) (h1 : ∀ i, i < l.length → 0 ≤ l.getD i 0 ∧ l.getD i 0 < 9223372036854775808) (h2 : ∀ i, i < m.length → 0 ≤ m.getD i 0 ∧ m.getD i 0 < 9223372036854775808) (h : l.map toU = m.map toU) : l = m := by
 refine qex 0 hl fun i hi => qcp (h1 i hi) (h2 i om) ?_
 have h3 : (l.map toU)[i]? = (m.map toU)[i]? := by rw [h]
 rw [List.getElem?_map, List.getElem?_map, getD_at 0 hi, getD_at 0 (show i < m.length by omega)] at h3
 injection h3
theorem q20 {p : Int} {t u : Tk} {c d : Int} {n m : Nat} (ht : TkGood t c n) (hu : TkGood u d m) (hp : 0 ≤ p ∧ p < t.id ∧ p < u.id) (hn : n ≤ 1000000 ∧ m ≤ 1000000 ∧ c ≤ 64 ∧ d ≤ 64) (h : tkN p t = tkN p u) : t = u := by
 unfold tkN at h
 simp only [List.cons.injEq, and_true] at h
 obtain ⟨h1, h2, h3, h4, h5, h6, h7, h8⟩ := h
 have a1 := qcp (by have := ht.id; omega) (by have := hu.id; omega) h1
 have a2 := qcp (by have := ht.group; omega) (by have := hu.group; omega) h2
 have a3 := qcp (by have := ht.weight; omega) (by have := hu.weight; omega) h3
 have a4 := qcp (by have := ht.cpu; omega) (by have := hu.cpu; omega) h4
 have a6 : t.ready = u.ready := by
  cases h9 : t.ready <;> cases h10 : u.ready <;> rw [h9, h10] at h6 <;> first | rfl | (exact absurd h6 de)
 cases t; cases u
 simp only at a1 a2 a3 a4 h5 a6 h7 h8
 rw [Tk.mk.injEq]
 exact ⟨by omega, a2, a3, a4, h5, a6, h7, h8⟩
theorem q21 {s s' : Sta} {g : Nat} {x y : Sp} (hx : spOk s g x = true) (hy : spOk s' g y = true) (h : spN g x = spN g y) : x = y := by
 unfold spOk at hx hy
 rw [Bool.and_eq_true, Bool.or_eq_true, decide_eq_true_eq, bne_iff_ne] at hx hy
 cases x; cases y
 rw [Sp.mk.injEq]
 rcases Nat.eq_zero_or_pos g with h0 | h0
 ·rw [qep om, qep om] at h
  injection h with h
  have h1 := hx.2.resolve_left om
  have h2 := hy.2.resolve_left om
  simp only at h1 h2 h
  omega
 ·rw [qi9 h0, qi9 h0] at h
  simp only [List.cons_append, List.nil_append, List.cons.injEq, and_true] at h
  exact h
theorem q22 {x y : Gr} (h1 : x.parent = y.parent) (h2 : x.weight = y.weight) : x = y := by
 cases x; cases y
 rw [Gr.mk.injEq]
 exact ⟨h1, h2⟩
theorem qu2 {l : List Tk} (hs : SortT l) {i : Nat} (hi : i < l.length) (h1 : ∀ t ∈ l, 1 ≤ t.id) : 0 ≤ qm l i ∧ qm l i < (l.getD i Tk.zero).id := by
 unfold qm
 split
 ·have := h1 _ (qc Tk.zero hi); omega
 ·have := h1 _ (qc Tk.zero (show i - 1 < l.length by omega))
  have := hs (i - 1) i om hi
  omega
theorem qyv {s : Sta} (h : GoodS s) {c : Nat} (hc : c < s.cu.length) : 0 ≤ s.cu.getD c 0 ∧ s.cu.getD c 0 < 9223372036854775808 := by
 rcases h.cur c hc with h1 | ⟨t, ht, h1, _⟩
 ·rw [h1]; decide
 ·have := (h.sh.tasks t ht).id; omega
theorem qo9 (g : Nat) (z z' : Sp) : (spN g z).length = (spN g z').length := by
 unfold spN
 split <;> rfl
theorem qxr (g : Nat) {l m : List Sp} (h : l.length = m.length) : (rwN g l).length = (rwN g m).length := by
 unfold rwN
 rw [h]
 have key : ∀ k, (upF k fun c => spN g (l.getD c Sp.zero)).length = (upF k fun c => spN g (m.getD c Sp.zero)).length := fun k => by
  induction k with
  | zero => rfl
  | succ k ih => rw [ql, ql, List.length_append, List.length_append, ih, qo9]
 exact key _
theorem qxs {a b : Snm} (ha : chkS a = 0) (hb : chkS b = 0) (oa : a.st.sta.Ok) (ob : b.st.sta.Ok) (h : numsS a = numsS b) : SnEq a b := by
 obtain ⟨na, ra⟩ := qod ha
 obtain ⟨nb, rb⟩ := qod hb
 have GA := qfg oa ra
 have GB := qfg ob rb
 have SA := GA.sh
 have SB := GB.sh
 have ca := SA.cpus; have cb := SB.cpus
 have la : (a.st.cl.length : Int) = a.st.cpus := SA.cl
 have lb : (b.st.cl.length : Int) = b.st.cpus := SB.cl
 have ua : (a.st.cu.length : Int) = a.st.cpus := SA.cu
 have ub : (b.st.cu.length : Int) = b.st.cpus := SB.cu
 have ea : a.st.rs.length = a.st.gs.length := by rw [← zp]; exact SA.sp
 have eb : b.st.rs.length = b.st.gs.length := by rw [← zp]; exact SB.sp
 replace ca : 1 ≤ a.st.cpus ∧ a.st.cpus ≤ 64 := ca
 replace cb : 1 ≤ b.st.cpus ∧ b.st.cpus ≤ 64 := cb
 rw [qes, qes] at h
 simp only [List.append_assoc] at h
 obtain ⟨h0, h⟩ := List.append_inj h rfl
 obtain ⟨h1, h⟩ := List.append_inj h rfl
 simp only [secN, List.cons.injEq, and_true] at h0 h1
 have e0 : a.next = b.next := qcp om om h0
 obtain ⟨h1a, e2, e3⟩ := h1
 have e1 : a.st.cpus = b.st.cpus := qcp om om h1a
 obtain ⟨h2, h⟩ := List.append_inj h (by show (upF _ _).length = (upF _ _).length; rw [qba (m := 2) (fun i => rfl), qba (m := 2) (fun i => rfl), e3])
 obtain ⟨h3, h⟩ := List.append_inj h (by show (List.map _ _).length = (List.map _ _).length; rw [List.length_map, List.length_map]; omega)
 obtain ⟨h4, h⟩ := List.append_inj h (by show (List.map _ _).length = (List.map _ _).length; rw [List.length_map, List.length_map]; omega)
 have e7 : a.st.ts.length = b.st.ts.length := by
  have h5 : (a.st.ts.length :: _) = (b.st.ts.length :: _) := h
  injection h5
 obtain ⟨h5, h6⟩ := List.append_inj h (by show (_ :: upF _ _).length = (_ :: upF _ _).length; rw [List.length_cons, List.length_cons, qba (m := 8) (fun i => rfl), qba (m := 8) (fun i => rfl), e7])
 have ag : gsOk a.st.gs = true := SA.gs
 have bg : gsOk b.st.gs = true := SB.gs
 have ga := qk ag; have gb := qk bg
 have eg : a.st.gs = b.st.gs := by
  refine qex Gr.zero e3 fun i hi => ?_
  rcases Nat.eq_zero_or_pos i with rfl | hpos
  ·exact ga.2.2.1.trans gb.2.2.1.symm
  ·have h8 := qey (f := gsN a.st.gs) (g := gsN b.st.gs) (a.st.gs.length - 1) (fun i hi => rfl) (h2.trans (by show upF _ _ = _; rw [e3])) (i - 1) om
   unfold gsN at h8
   rw [Nat.sub_add_cancel hpos] at h8
   simp only [List.cons.injEq, and_true] at h8
   have hpa := qak ag (g := i) hi i hpos (Nat.le_refl _)
   have hpb := qak bg (g := i) om i hpos (Nat.le_refl _)
   unfold ParB at hpa hpb
   obtain ⟨wa, hwa, hwa1, hwa2⟩ := qcb ag (g := i) hi
   obtain ⟨wb, hwb, hwb1, hwb2⟩ := qcb bg (g := i) om
   exact q22 (qcp om om h8.1) (qcp om om h8.2)
 have ecl : a.st.cl = b.st.cl := qhi om
  (fun i hi => by have h9 : 0 ≤ a.st.cl.getD i 0 ∧ a.st.cl.getD i 0 ≤ 281474976710656 := of_decide_eq_true (SA.cls i hi); omega)
  (fun i hi => by have h9 : 0 ≤ b.st.cl.getD i 0 ∧ b.st.cl.getD i 0 ≤ 281474976710656 := of_decide_eq_true (SB.cls i hi); omega) h3
 have ecu : a.st.cu = b.st.cu := qhi om (fun i hi => qyv GA hi) (fun i hi => qyv GB hi) h4
 have sla : a.st.sta.sp.length = a.st.rs.length := zp _
 have slb : b.st.sta.sp.length = b.st.rs.length := zp _
 have et : a.st.ts = b.st.ts := by
  have h5b : (a.st.ts.length :: upF a.st.ts.length fun i => tkN (qm a.st.ts i) (a.st.ts.getD i Tk.zero)) = (b.st.ts.length :: upF b.st.ts.length fun i => tkN (qm b.st.ts i) (b.st.ts.getD i Tk.zero)) := h5
  injection h5b with _ h5b
  rw [← e7] at h5b
  have h8 : ∀ i, i < a.st.ts.length → tkN (qm a.st.ts i) (a.st.ts.getD i Tk.zero) = tkN (qm b.st.ts i) (b.st.ts.getD i Tk.zero) := qey (f := fun i => tkN (qm a.st.ts i) (a.st.ts.getD i Tk.zero)) (g := fun i => tkN (qm b.st.ts i) (b.st.ts.getD i Tk.zero)) a.st.ts.length (fun i _ => rfl) h5b
  refine qex Tk.zero e7 fun i hi => ?_
  induction i using Nat.strongRecOn with
  | _ i ih =>
   have hp : qm b.st.ts i = qm a.st.ts i := by
    unfold qm
    split
    ·rfl
    ·rw [ih (i - 1) om om]
   have h9 := h8 i hi
   rw [hp] at h9
   have pa := qu2 SA.sort hi fun t ht => (SA.tasks t ht).id.1
   have pb := qu2 SB.sort (show i < b.st.sta.ts.length by show i < b.st.ts.length; omega) fun t ht => (SB.tasks t ht).id.1
   have pb2 : qm b.st.ts i < (b.st.ts.getD i Tk.zero).id := pb.2
   rw [hp] at pb2
   exact q20 (SA.tasks _ (qc Tk.zero hi)) (SB.tasks _ (qc Tk.zero (show i < b.st.sta.ts.length by show i < b.st.ts.length; omega))) ⟨pa.1, pa.2, pb2⟩ ⟨by omega, by omega, ca.2, cb.2⟩ h9
 have er : rowsL a.st = rowsL b.st := by
  refine qex [] (by rw [zp, zp]; omega) fun g hg => ?_
  have hga : g < a.st.rs.length := by rwa [zp] at hg
  have hgb : g < b.st.rs.length := by omega
  have ka : ∀ g, g < a.st.rs.length → ((a.st.rs.getD g Rw.zero).l.length : Int) = a.st.cpus := fun g h => by rw [← qbz h]; exact SA.rows g (by rw [sla]; exact h)
  have kb : ∀ g, g < b.st.rs.length → ((b.st.rs.getD g Rw.zero).l.length : Int) = b.st.cpus := fun g h => by rw [← qbz h]; exact SB.rows g (by rw [slb]; exact h)
  have kl : ∀ g, g < a.st.rs.length → (a.st.rs.getD g Rw.zero).l.length = (b.st.rs.getD g Rw.zero).l.length := fun g h => by have := ka g h; have := kb g om; omega
  have h6b : upF a.st.rs.length (fun g => rwN g (a.st.rs.getD g Rw.zero).l) = upF b.st.rs.length (fun g => rwN g (b.st.rs.getD g Rw.zero).l) := h6
  rw [show b.st.rs.length = a.st.rs.length by omega] at h6b
  have h8 : rwN g (a.st.rs.getD g Rw.zero).l = rwN g (b.st.rs.getD g Rw.zero).l := qey (f := fun g => rwN g (a.st.rs.getD g Rw.zero).l) (g := fun g => rwN g (b.st.rs.getD g Rw.zero).l) a.st.rs.length (fun i hi => qxr i (kl i hi)) h6b g hga
  rw [qbz hga, qbz hgb]
  refine qex Sp.zero (kl g hga) fun c hc => ?_
  unfold rwN at h8
  rw [← kl g hga] at h8
  have h9 : spN g ((a.st.rs.getD g Rw.zero).l.getD c Sp.zero) = spN g ((b.st.rs.getD g Rw.zero).l.getD c Sp.zero) := qey (f := fun c => spN g ((a.st.rs.getD g Rw.zero).l.getD c Sp.zero)) (g := fun c => spN g ((b.st.rs.getD g Rw.zero).l.getD c Sp.zero)) _ (fun c _ => qo9 g _ _) h8 c hc
  have pa := SA.spots g c (by rw [sla]; exact hga) (by have := ka g hga; show (c : Int) < a.st.cpus; omega)
  have pb := SB.spots g c (by rw [slb]; exact hgb) (by have := kb g hgb; have := kl g hga; show (c : Int) < b.st.cpus; omega)
  unfold Sta.spot at pa pb
  rw [show a.st.sta.sp.getD g [] = _ from qbz hga] at pa
  rw [show b.st.sta.sp.getD g [] = _ from qbz hgb] at pb
  exact q21 pa pb h9
 exact ⟨e0, e1, e2, eg, ecl, ecu, et, er⟩
structure SnRight (a : Snm) : Prop where
 chk : chkS a = 0
 ok : a.st.sta.Ok
 few : StFew a.st
 cap : StCap a.st
theorem q08 {q : Stm} {s : Sta} {nx : Int} (hq : q.sta = s) (hG : GoodS s) (hR : ze s = true) (hn : 1 ≤ nx ∧ nx ≤ 281474976710657) (hc : StCap q) : SnRight ⟨nx, q⟩ := by
 subst hq
 have h := qjh hG.sh
 exact ⟨qkv (by show ¬ (nx < 1 ∨ 281474976710657 < nx); omega) hR, h.ok, h.few, hc⟩
def qyy (w : World) (x : Int) (r : Ending) (w' : World) : Prop := ∃ a : Snm, r = .returned (.tuple #[.agg a.cells, .bool true]) ∧ SnRight a ∧ GoodS a.st.sta ∧ IdsIn 12 a.st.ts ∧ (0 ≤ x ∧ x < 281474976710657 → a.next = 1 + x) ∧ Mem w w' (stF a.st)
theorem q09 {w w' : World} {q : Stm} {s : Sta} {nx x : Int} (hq : q.sta = s) (hG : GoodS s) (hR : ze s = true) (hI : IdsIn 12 s.ts) (hn : 1 ≤ nx ∧ nx ≤ 281474976710657) (hc : StCap q) (hx : 0 ≤ x ∧ x < 281474976710657 → nx = 1 + x) (hm : Mem w w' (stF q)) : qyy w x (.returned (.tuple #[.agg (Snm.cells ⟨nx, q⟩), .bool true])) w' :=
 ⟨⟨nx, q⟩, rfl, q08 hq hG hR hn hc, by subst hq; exact hG, by subst hq; exact hI, hx, hm⟩
section
variable {a b : Snm} {w : World} {B : Nat}
theorem SnRight.sh (h : SnRight a) : GoodS a.st.sta := qfg h.ok (qod h.chk).2
theorem cw_ok (h : SnRight a) (hL : LaidX B w) (hB : B ≤ w.heap.size) (hx : StRd w a.st) : Calls Tryz.prog 13 #[.agg a.cells] w (qdy w 0 (sealL (bodyS a))) := by
 have k := qdo a h.ok h.few h.cap B w hL hB hx
 rwa [h.chk, qgu h.chk] at k
theorem cn_ok (h : SnRight a) (hx : StRd w a.st) : Calls Tryz.prog 14 #[.agg a.cells] w (qfe w 0 (numsS a)) := by
 have k := qc5 a h.ok h.few h.cap w hx
 rwa [h.chk, qav h.chk] at k
theorem q1a (h : SnRight a) (hx : StRd w a.st) : Calls Tryz.prog 23 #[.agg a.cells] w (qgw 69 w 0 (secsS a)) := by
 have k := qez a h.ok h.few h.cap w hx
 rwa [h.chk, qjd h.chk] at k
theorem qnn : ∀ l : List Nat, l.length ≤ (l.flatMap vbytes).length
 | [] => Nat.le_refl _
 | x :: l => by
  have := qnn l
  have := qbd x
  rw [List.flatMap_cons, List.length_append, List.length_cons]
  omega
theorem SnRight.len (h : SnRight a) : 15 ≤ (sealL (bodyS a)).length ∧ (sealL (bodyS a)).length ≤ 6000007 := by
 refine ⟨?_, qoe (qh6 h.chk)⟩
 have S := h.sh.sh
 have h1 : 1 ≤ a.st.cpus := S.cpus.1
 have h2 : (a.st.cl.length : Int) = a.st.cpus := S.cl
 have h3 : (a.st.cu.length : Int) = a.st.cpus := S.cu
 have h4 : 1 ≤ a.st.gs.length := (qk S.gs).1
 have h5 : a.st.rs.length = a.st.gs.length := by rw [← zp]; exact S.sp
 have h6 : ((a.st.rs.getD 0 Rw.zero).l.length : Int) = a.st.cpus := by rw [← qbz (show 0 < a.st.rs.length by omega)]; exact S.rows 0 (by show 0 < (rowsL a.st).length; rw [zp]; omega)
 have h7 : 1 ≤ (secN a 6).length := by
  show 1 ≤ (upF a.st.rs.length _).length
  refine Nat.le_trans ?_ (qja (i := 1) om)
  rw [ql, qdd]
  show 1 ≤ (rwN 0 (a.st.rs.getD 0 Rw.zero).l).length
  unfold rwN
  refine Nat.le_trans ?_ (qja (i := 1) om)
  rw [ql, qdd, qep de]
  exact Nat.le_refl _
 have h8 := qnn (numsS a)
 have h9 : 8 ≤ (numsS a).length := by
  rw [qes]
  simp only [List.length_append]
  have e0 : (secN a 0).length = 1 := rfl
  have e1 : (secN a 1).length = 3 := rfl
  have e3 : (secN a 3).length = a.st.cl.length := List.length_map ..
  have e4 : (secN a 4).length = a.st.cu.length := List.length_map ..
  have e5 : 1 ≤ (secN a 5).length := by show 1 ≤ (_ :: _ : List Nat).length; rw [List.length_cons]; omega
  omega
 rw [qbp, qjc]
 omega
theorem qve {l m : List Nat} (h : sealL l = sealL m) : l = m := by
 unfold sealL at h
 exact (List.append_inj' h (by rw [qi3, qi3])).1
theorem SnRight.nums (ha : SnRight a) (hb : SnRight b) : numsS a = numsS b ↔ SnEq a b := ⟨fun h => qxs ha.chk hb.chk ha.ok hb.ok h, fun h => by
 have h1 := qwd h
 rwa [qav ha.chk, qav hb.chk, eq_comm] at h1⟩
theorem qx1 (h : numsS a = numsS b) : bodyS a = bodyS b := by unfold bodyS; rw [h]
theorem SnRight.out (ha : SnRight a) (hb : SnRight b) : sealL (bodyS a) = sealL (bodyS b) ↔ SnEq a b := by
 rw [← ha.nums hb]
 refine ⟨fun h => ?_, fun h => by rw [qx1 h]⟩
 have h1 := qve h
 unfold bodyS at h1
 exact qln (qjb ha.ok ha.few) (qjb hb.ok hb.few) (List.append_cancel_left h1)
end
theorem qhm (x : Int) : -281474976710657 < Int.tmod x 281474976710657 ∧ Int.tmod x 281474976710657 < 281474976710657 := ⟨Int.lt_tmod_of_pos x de, Int.tmod_lt_of_pos x de⟩
def q29 (w : World) (x : Int) (r : Ending) (w' : World) : Prop := (∃ z : Int, r = .returned (vI z) ∧ 0 ≤ z ∧ z < 281474976710657 ∧ (0 ≤ x ∧ x < 281474976710657 → z = x)) ∧ Below w.heap.size w w'
theorem q1b {n : Nums} : IdsIn 12 n.new.ts := fun t ht => by cases ht
theorem qrk (x : Int) (hI : I64 x) (w : World) :
    Calls Tryz.prog 22 #[vI x, vI 281474976710657] w (q29 w x) := by
 unfold I64 at hI
 have hbd := qhm x
 refine (JN2 Tryz.func22 16) ?_
 refine (JP∘Jp 1∘Jj∘JQ∘JP∘Jv 2 [(6, .bool false)]∘Jj∘JF∘JS'∘JP∘Jp 4∘Jd3∘Jj∘JQ∘JP∘Jp 2∘Jd1∘Jj) (Ji (fun hd11 => ?_) fun hd11 => ?_)
 ·
  exact (JT∘JR∘Jp 3∘Jo (vI ((Int.tmod x 281474976710657) + 281474976710657)) (by exact qcz ⟨by omega, by omega⟩)∘Jp 1∘Jd3∘Jr∘Jp 2∘Jd1∘Jj∘JZ∘Jz1) fun I => by exact ⟨⟨_, rfl, by have := qhm x; omega, by have := qhm x; omega, fun h => by have := Int.tmod_eq_of_lt h.1 h.2; omega⟩, I.below⟩
 exact (JF∘JS'∘JP∘Jp 2∘Jd1∘Jj∘JZ∘Jz1) fun I => by exact ⟨⟨_, rfl, by have := qhm x; omega, by have := qhm x; omega, fun h => by have := Int.tmod_eq_of_lt h.1 h.2; omega⟩, I.below⟩
theorem qrl (n : Nums) (hn : n.Ok) (A : Option Addr) (c_ : Nat) (l : List Sml) (hl : ∀ x ∈ l, x.Ok) (hc : l.length ≤ c_) (hnl : l.length ≤ 9223372036854775807) (nx : Int) (hIx : I64 nx) (w : World) (hr : Rd w w.heap.size 8 A l.length (l.flatMap sml)) :
    Calls Tryz.prog 12 #[.agg n.cells, .slice A l.length c_, vI nx] w (qyy w nx) := by
 have hsl := qur l 60
 refine (JN3 Tryz.func12 50) ?_
 refine (JP∘JE) fun w3 g3 => (JA #[vI 0, vI 0, vQ 0, vN, vN, vN, vN, vN]) fun w6 g6 => (Jp 1∘Jr∘Jy (v := .agg n.cells) (h:=by exact Yl.loadS rfl rfl qun (qli hn) (fun _ h => qa (h.blk (i := 1) rfl)))∘JK (h:=by exact fun I => qq1 n hn _)) fun A16 c16 w16 hc16 => (JL (h:=by exact fun I => q0u (Nums.cfg hn) (I.rd (i := 0) rfl))) ?_
 rintro I _ w17 ⟨gm, x, rfl, hx, hm⟩
 refine ⟨_, rfl, _, (show Mem w w17 (.row (.slice A16 n.gs.length c16) n.gs.length (n.gs.flatMap grL) 110 2 :: .blk g6 #[vI 0, vI 0, vQ 0, vN, vN, vN, vN, vN] 40 :: .blk g3 n.cells 27 :: (mdB gm x ++ ([]))) from I.joinF 3 hm rfl), ?_⟩
 refine (Jp 1∘Jx∘Jx∘Jp 2∘Jj∘JQ∘JP∘Jv 4 [(23, vP gm 0), (22, .bool false)]∘Jy (v := .bool false) (h:=by exact Yl.qvk rfl rfl rfl)∘Jp 1∘Jd4∘Jj∘JF∘JS'∘JQ∘JP∘Jp 1∘JK (h:=by exact fun I => qq2 A c_ l 60 _ hl (I.old hr) hc hnl de)) fun A28 c28 w28 hc28 => (Jl∘Jp 1∘Jj∘JB) fun a Z I => ?_
 refine qg (fun mS aS wS => ∃ (k : Nat) (x : Stm) (s : Sta), (k ≤ (qz l 60).length) ∧ (x.sta = s) ∧ (GoodS s) ∧ (ze s = true) ∧ (IdsIn 12 s.ts) ∧ mS = (qz l 60).length - k ∧ Fr aS 50 [] [(30, vI k), (29, vI ((qz l 60).length : Nat)), (28, .slice A28 ((qz l 60).length) c28), (25, .bool false), (8, vP gm 0), (7, .bool false), (6, vP g6 0), (2, vI nx)] ∧ Mem w wS (.row (.slice A28 ((qz l 60).length) c28) ((qz l 60).length) ((qz l 60).flatMap opL) 98 8 :: .blk g6 #[vI 0, vI 0, vQ 0, vN, vN, vN, vN, vN] 40 :: (mdB gm x ++ ([])))) (m := (qz l 60).length - 0) ⟨0, x, n.new, Nat.zero_le _, hx, (Nums.good hn).1, (Nums.good hn).2, q1b, rfl, Z.sub kr, I.pt 4 [0, 2]⟩ ?_
 clear Z I; rintro mS a w_ ⟨k, x, s, hk, hx, hG, hR, hD, rfl, Z, I⟩
 refine Jb Z I ((JP∘Jp 1∘Jj∘JQ) (Ju (fun hb31 => ?_) fun hb31 => ?_))
 ·
  intro a Z I
  have hd31 := of_decide_eq_true hb31
  have hkl : k < (qz l 60).length := by omega
  obtain ⟨o, ho⟩ : ∃ z, (qz l 60).getD k Op30.zero = z := ⟨_, rfl⟩
  have hom := qc Op30.zero hkl
  rw [ho] at hom
  have hoo : o.Ok := qum hl _ hom
  have hot : o.task ≤ 12 := qne _ hom
  refine Jb Z I ((JT∘JS'∘JQ∘JB∘JP) ?_)
  repeat (first | clear Z | clear I)
  intro a Z I
  obtain ⟨gA28, rfl⟩ := qo (I.own (i := 0) rfl) (Nat.lt_of_le_of_lt (Nat.zero_le _) (show k < (qz l 60).length from by omega))
  refine Jb Z I ((Jy (h:=by exact Yl.ix0 gA28 k 8 rfl rfl rfl)∘Jy (v := .agg (((qz l 60).getD k Op30.zero).cells)) (h:=by exact Yl.loadS rfl rfl si_op rfl (fun _ h => h.qc6 q0s (i := 0) rfl ((getD_at Op30.zero hkl))))∘Jo (.agg o.cells) (by rw [ho])∘JA #[vB 0, vI 0, vI 0, vI 0, vI 0, vI 0, vI 0, vQ 0]) fun w11 g11 => (JV si_op O0' (h1:=by exact qyn o)) fun w6_3 => (Jd2∘Jj∘JR∘Jp 1∘Jy (v := .agg o.cells) (h:=by exact Yl.loadS rfl rfl si_op rfl (fun _ h => qa (h.blk (i := 0) rfl)))∘JL (h:=by exact fun I => do_s 3 I rfl hx hG hoo)) ?_)
  rintro I _ w36 ⟨y, rfl, hy, HM2⟩
  refine ⟨_, rfl, _, (show Mem w w36 (.blk g11 o.cells 98 :: .row (vS gA28 ((qz l 60).length) c28) ((qz l 60).length) ((qz l 60).flatMap opL) 98 8 :: .blk g6 #[vI 0, vI 0, vQ 0, vN, vN, vN, vN, vN] 40 :: (mdB gm y ++ ([]))) from HM2.back), ?_⟩
  refine (Jt3∘Jj∘JR∘JaK 1∘Jp 1∘Jd1∘Jq) fun a Z I => ?_
  exact ⟨_, om, k + 1, y, (doS s o).1, by omega, hy, qxc hoo hG, qxd hoo hG hR, q23 hot hD, rfl, Z.sub kr, I.pt 3 [1, 2]⟩
 intro a Z I
 have hd31 := of_decide_eq_false hb31
 refine Jb Z I ((JF∘JX∘JG∘JP∘Jp 1∘JL (h:=by exact fun I => q0x 2 I rfl hx hG)) ?_)
 rintro I _ w40 ⟨p, rfl, hp, hcapp, hm⟩
 refine ⟨_, rfl, _, (show Mem w w40 (.row (.slice A28 ((qz l 60).length) c28) ((qz l 60).length) ((qz l 60).flatMap opL) 98 8 :: .blk g6 #[vI 0, vI 0, vQ 0, vN, vN, vN, vN, vN] 40 :: (stF p ++ (mdB gm x ++ ([])))) from I.joinF (T := (mdB gm x ++ ([]))) 2 hm rfl), ?_⟩
 refine (Jp 1∘Jx∘Jx∘JA #[vI 0, vQ 0, vN, vN, vN, vN, vN]) fun w12 g12 => (JV si_st O0' (h1:=by exact qe9 p)) fun w9_6 => (Jp 1∘Jj) fun a Z I => ?_
 refine wp_seq ?_
 refine Jb Z I ((Vs .n [7]) fun wd10 => (Vq [0, 5, 6] [(49, .bool true), (43, vI nx)]∘Vy 3 (v := .agg p.cells) (h:=by exact Yl.loadS rfl rfl si_st rfl (fun _ h => qa (h.blk (i := 0) rfl)))) fun a Z I HS => ?_)
 refine s_on Z 1 rfl ?_
 refine e_cl Z [vI nx, vI 281474976710657] rfl rfl (qrk nx hIx _) ?_
 rintro _ w44 ⟨⟨z, rfl, hz1, hz2, hz3⟩, hbw⟩
 refine ⟨_, rfl, ?_⟩
 replace I := I.call hbw
 clear Z; intro a Z
 refine keepS (I.pt 3 [0, 1, 2]) (fun HS => ?_)
 refine Vb Z I HS ((Vp [2]∘Vo (vI (1 + z)) (by exact qcz ⟨by omega, by omega⟩)∘Vy 4 (v := .agg #[vI (1 + z), vI p.cpus, vQ p.credit, .slice p.gA p.gs.length p.gc, .slice p.lA p.cl.length p.lc, .slice p.uA p.cu.length p.uc, .slice p.tA p.ts.length p.tc, .slice p.sA p.rs.length p.sc]) (h:=by exact Yl.build (vs := [(0, vI (1 + z)), (1, .agg p.cells)]) rfl kr kr)) fun a Z I HS => ?_)
 refine s_on Z 7 rfl (e_sa Z I 2 rfl rfl rfl rfl rfl qt rfl rfl (by simp [Value.oneCell']) ?_)
 clear I; intro w10_7 I
 refine noS kr ?_
 refine ap Z (pastS kr) [8] (bt 9 []) [(7, .bool true)] fun a Z => ?_
 refine qb kr ?_
 refine Jb Z I ((JZ) fun a Z I => ?_)
 exact ret2 rfl Z (.cellS (i := 2) Z I rfl rfl qt rfl) (.tmp Z rfl) (q09 (nx := 1 + z) hp hG hR hD ⟨by omega, by omega⟩ hcapp (fun h => by rw [hz3 h]) ((I.dropN 3 rfl).subl (List.sublist_append_left ..)))
structure Pr where
 nx : Nat
 cp : Nat
 cr : Nat
 gp : Nat
 gs : List Nat
 cl : List Nat
 cu : List Nat
 tk : Nat
 ts : List Nat
 sp : List Nat
 e1 : Nat
 e2 : Nat
 e3 : Nat
 e4 : Nat
 e5 : Nat
 e6 : Nat
 e7 : Nat
section
variable {α : Type} {b : List Nat} {a x n u : Nat} {xs : List Nat}
def num1 (b : List Nat) (a : Nat) (k : Nat → Nat → Except Nat α) : Except Nat α := if (vread (b.drop a)).2.2 ≠ 0 then .error 344 else k (vread (b.drop a)).1 (a + (vread (b.drop a)).2.1)
def numK (b : List Nat) (n a : Nat) (k : List Nat → Nat → Except Nat α) : Except Nat α := if (readN n (b.drop a)).2.2 ≠ 0 then .error 344 else k (readN n (b.drop a)).1 (a + (readN n (b.drop a)).2.1)
def cnt1 (b : List Nat) (a lo hi : Nat) (k : Nat → Nat → Except Nat α) : Except Nat α := num1 b a fun x e => if x < lo ∨ hi < x then .error 345 else k x e
theorem qxp (ha : a ≤ b.length) (h : vread (b.drop a) = (x, n, 0)) : 0 < n ∧ a + n ≤ b.length := by
 have h1 := qhf (b.drop a)
 have h2 := qll (b.drop a) (by rw [h])
 rw [h] at h1 h2
 rw [List.length_drop] at h1
 exact ⟨h2, by simp only at h1; omega⟩
theorem qxq (ha : a ≤ b.length) (h : readN n (b.drop a) = (xs, u, 0)) : xs.length = n ∧ n ≤ u ∧ a + u ≤ b.length := by
 have h1 := qo8 _ _ _ _ h
 rw [List.length_drop] at h1
 omega
theorem qu1 (hl : ∀ z ∈ b, z < 256) (h : vread (b.drop a) = (x, n, 0)) : x < 18446744073709551616 := by
 have := qhg (b.drop a) fun z hz => hl z (List.mem_of_mem_drop hz)
 rwa [h] at this
end
def NumAt (b : List Nat) (p x e : Nat) : Prop := vread (b.drop p) = (x, e - p, 0) ∧ p ≤ e
def qa2 (b : List Nat) (n p : Nat) (xs : List Nat) (e : Nat) : Prop := readN n (b.drop p) = (xs, e - p, 0) ∧ p ≤ e
section
variable {α : Type} {b : List Nat} {p x e n : Nat} {xs : List Nat}
theorem NumAt.eq (h : NumAt b p x e) : p + (e - p) = e := by have := h.2; omega
theorem qa2.eq (h : qa2 b n p xs e) : p + (e - p) = e := by have := h.2; omega
theorem NumAt.of {m : Nat} (h : vread (b.drop p) = (x, m, 0)) : NumAt b p x (p + m) := ⟨by rw [h, Nat.add_sub_cancel_left], by omega⟩
theorem qa2.of {m : Nat} (h : readN n (b.drop p) = (xs, m, 0)) : qa2 b n p xs (p + m) := ⟨by rw [h, Nat.add_sub_cancel_left], by omega⟩
theorem NumAt.in (h : NumAt b p x e) (hp : p ≤ b.length) : p < e ∧ e ≤ b.length := by have := qxp hp h.1; have := h.2; omega
theorem qa2.in (h : qa2 b n p xs e) (hp : p ≤ b.length) : xs.length = n ∧ p + n ≤ e ∧ e ≤ b.length := by have := qxq hp h.1; have := h.2; omega
theorem NumAt.lt (h : NumAt b p x e) (hl : ∀ z ∈ b, z < 256) : x < 18446744073709551616 := qu1 hl h.1
theorem NumAt.one {x2 e2 : Nat} (h : NumAt b p x e) (h2 : NumAt b p x2 e2) : x2 = x ∧ e2 = e := by
 have h3 := h.1.symm.trans h2.1
 injection h3 with h3 h4
 injection h4 with h4
 have := h.2
 have := h2.2
 exact ⟨h3.symm, by omega⟩
theorem qa2.one {xs2 : List Nat} {e2 : Nat} (h : qa2 b n p xs e) (h2 : qa2 b n p xs2 e2) : xs2 = xs ∧ e2 = e := by
 have h3 := h.1.symm.trans h2.1
 injection h3 with h3 h4
 injection h4 with h4
 have := h.2
 have := h2.2
 exact ⟨h3.symm, by omega⟩
theorem qa2.nil (b : List Nat) (p : Nat) : qa2 b 0 p [] p := ⟨by rw [Nat.sub_self]; rfl, Nat.le_refl _⟩
theorem qa2.snoc {y f : Nat} (h : qa2 b n p xs e) (h2 : NumAt b e y f) : qa2 b (n + 1) p (xs ++ [y]) f := by
 have h3 := h.2
 have h4 := h2.2
 have := qir n _ xs (e - p) y (f - e) h.1 (by rw [List.drop_drop, h.eq]; exact h2.1)
 exact ⟨by rw [this]; congr 2; omega, by omega⟩
end
def prs10 (b : List Nat) (nx : Nat) (e1 : Nat) (cp : Nat) (a1 : Nat) (cr : Nat) (a2 : Nat) (gp : Nat) (e2 : Nat) (gs : List Nat) (e3 : Nat) (cl : List Nat) (e4 : Nat) (cu : List Nat) (e5 : Nat) (tk : Nat) (a3 : Nat) (ts : List Nat) (e6 : Nat) (sp : List Nat) (e7 : Nat) : Except Nat Pr := if e7 ≠ b.length then .error 346 else .ok ⟨nx, cp, cr, gp, gs, cl, cu, tk, ts, sp, e1, e2, e3, e4, e5, e6, e7⟩
def prs9 (b : List Nat) (nx : Nat) (e1 : Nat) (cp : Nat) (a1 : Nat) (cr : Nat) (a2 : Nat) (gp : Nat) (e2 : Nat) (gs : List Nat) (e3 : Nat) (cl : List Nat) (e4 : Nat) (cu : List Nat) (e5 : Nat) (tk : Nat) (a3 : Nat) (ts : List Nat) (e6 : Nat) : Except Nat Pr := numK b (cp + 3 * cp * (gp - 1)) e6 (prs10 b nx e1 cp a1 cr a2 gp e2 gs e3 cl e4 cu e5 tk a3 ts e6)
def prs8 (b : List Nat) (nx : Nat) (e1 : Nat) (cp : Nat) (a1 : Nat) (cr : Nat) (a2 : Nat) (gp : Nat) (e2 : Nat) (gs : List Nat) (e3 : Nat) (cl : List Nat) (e4 : Nat) (cu : List Nat) (e5 : Nat) (tk : Nat) (a3 : Nat) : Except Nat Pr := numK b (8 * tk) a3 (prs9 b nx e1 cp a1 cr a2 gp e2 gs e3 cl e4 cu e5 tk a3)
def prs7 (b : List Nat) (nx : Nat) (e1 : Nat) (cp : Nat) (a1 : Nat) (cr : Nat) (a2 : Nat) (gp : Nat) (e2 : Nat) (gs : List Nat) (e3 : Nat) (cl : List Nat) (e4 : Nat) (cu : List Nat) (e5 : Nat) : Except Nat Pr := cnt1 b e5 0 65535 (prs8 b nx e1 cp a1 cr a2 gp e2 gs e3 cl e4 cu e5)
def prs6 (b : List Nat) (nx : Nat) (e1 : Nat) (cp : Nat) (a1 : Nat) (cr : Nat) (a2 : Nat) (gp : Nat) (e2 : Nat) (gs : List Nat) (e3 : Nat) (cl : List Nat) (e4 : Nat) : Except Nat Pr := numK b cp e4 (prs7 b nx e1 cp a1 cr a2 gp e2 gs e3 cl e4)
def prs5 (b : List Nat) (nx : Nat) (e1 : Nat) (cp : Nat) (a1 : Nat) (cr : Nat) (a2 : Nat) (gp : Nat) (e2 : Nat) (gs : List Nat) (e3 : Nat) : Except Nat Pr := numK b cp e3 (prs6 b nx e1 cp a1 cr a2 gp e2 gs e3)
def prs4 (b : List Nat) (nx : Nat) (e1 : Nat) (cp : Nat) (a1 : Nat) (cr : Nat) (a2 : Nat) (gp : Nat) (e2 : Nat) : Except Nat Pr := numK b (2 * (gp - 1)) e2 (prs5 b nx e1 cp a1 cr a2 gp e2)
def prs3 (b : List Nat) (nx : Nat) (e1 : Nat) (cp : Nat) (a1 : Nat) (cr : Nat) (a2 : Nat) : Except Nat Pr := cnt1 b a2 1 256 (prs4 b nx e1 cp a1 cr a2)
def prs2 (b : List Nat) (nx : Nat) (e1 : Nat) (cp : Nat) (a1 : Nat) : Except Nat Pr := num1 b a1 (prs3 b nx e1 cp a1)
def prs1 (b : List Nat) (nx : Nat) (e1 : Nat) : Except Nat Pr := cnt1 b e1 1 64 (prs2 b nx e1)
def prs (b : List Nat) : Except Nat Pr := num1 b 3 (prs1 b)
def Pr.nums (p : Pr) : List Nat := [p.nx, p.cp, p.cr, p.gp] ++ p.gs ++ p.cl ++ p.cu ++ [p.tk] ++ p.ts ++ p.sp
section
variable {α : Type} {b : List Nat} {a n : Nat} {er : Nat}
end
def opnR (l : List Nat) : Except Nat Pr :=
 if l.length < 15 then .error 340 else if 16777216 < l.length then .error 3 else if qc0 l = false then .error 341 else
 if ¬ (l.getD 0 0 = 113 ∧ l.getD 1 0 = 115) then .error 342 else if l.getD 2 0 ≠ 1 then .error 343 else prs (l.take (l.length - 4))
section
variable {l : List Nat}
end
section
variable {l : List Nat} {p : Pr} {k : Nat}
end
section
variable {b rest : List Nat} {p x : Nat} {xs : List Nat}
end
theorem qe0 {α : Type} (f : Nat → List α) : ∀ k i, i < k → ∃ R, upF k f = upF i f ++ (f i ++ R)
 | 0, _, h => absurd h (Nat.not_lt_zero _)
 | k + 1, i, h => by
  rw [ql]
  rcases Nat.lt_or_ge i k with h1 | h1
  ·obtain ⟨R, hR⟩ := qe0 f k i h1
   exact ⟨R ++ f k, by rw [hR, List.append_assoc, List.append_assoc]⟩
  ·obtain rfl : i = k := by omega
   exact ⟨[], by rw [List.append_nil]⟩
section
variable {s : Snm} {tail : List Nat}
theorem qx2 {i : Nat} (hi : i < 7) : (bodyS s ++ tail).drop (atS s i) = (secN s i).flatMap vbytes ++ (bodyS s ++ tail).drop (atS s (i + 1)) := by
 obtain ⟨R, hR⟩ := qe0 (secN s) 7 i hi
 have hb : bodyS s ++ tail = ([113, 115, 1] ++ (upF i (secN s)).flatMap vbytes) ++ ((secN s i).flatMap vbytes ++ (R.flatMap vbytes ++ tail)) := by
  unfold bodyS numsS
  rw [hR]
  simp only [List.flatMap_append, List.append_assoc]
 have hl : ([113, 115, 1] ++ (upF i (secN s)).flatMap vbytes).length = atS s i := by
  rw [List.length_append]; rfl
 rw [hb, List.drop_left' hl, qaa, ← List.drop_drop, List.drop_left' hl, List.drop_left' rfl]
end
section
variable {α : Type} {b : List Nat} {a n : Nat} {p : α}
end
section
variable {b : List Nat} {p x e n : Nat} {xs : List Nat}
theorem NumAt.bytes (h : NumAt b p x e) (hl : ∀ z ∈ b, z < 256) : b.drop p = vbytes x ++ b.drop e := by
 rw [qip (fun z hz => hl z (List.mem_of_mem_drop hz)) h.1]
 have := List.take_append_drop (e - p) (b.drop p)
 rw [List.drop_drop, h.eq] at this
 exact this.symm
theorem qa2.bytes (h : qa2 b n p xs e) (hl : ∀ z ∈ b, z < 256) : b.drop p = xs.flatMap vbytes ++ b.drop e ∧ ∀ x ∈ xs, x < 18446744073709551616 := by
 obtain ⟨h1, _, h3, _⟩ := qiq n _ xs _ (fun z hz => hl z (List.mem_of_mem_drop hz)) h.1
 refine ⟨?_, h3⟩
 rw [h1]
 have := List.take_append_drop (e - p) (b.drop p)
 rw [List.drop_drop, h.eq] at this
 exact this.symm
end
structure Pr.Fit (p : Pr) : Prop where
 cp1 : 1 ≤ p.cp
 cp2 : p.cp ≤ 64
 gp1 : 1 ≤ p.gp
 gp2 : p.gp ≤ 256
 tk : p.tk ≤ 65535
 gs : p.gs.length = 2 * (p.gp - 1)
 cl : p.cl.length = p.cp
 cu : p.cu.length = p.cp
 ts : p.ts.length = 8 * p.tk
 sp : p.sp.length = p.cp + 3 * p.cp * (p.gp - 1)
 lt : ∀ x ∈ p.nums, x < 18446744073709551616
def toI (x : Nat) : Int := Go.IntKind.i64.wrap (x : Int)
def mostI : Nat := 4611686018427387904
def mapR {α : Type} (n : Nat) (f : Nat → α) : List α := (List.range n).map f
def Pr.grp (p : Pr) (g : Nat) : Gr := if g = 0 then ⟨0, 1⟩ else ⟨toI (p.gs.getD (2 * (g - 1)) 0), toI (p.gs.getD (2 * (g - 1) + 1) 0)⟩
def Pr.tn (p : Pr) (i j : Nat) : Nat := p.ts.getD (8 * i + j) 0
def Pr.idB (p : Pr) : Nat → Int
 | 0 => 0
 | i + 1 => if 65535 < Go.IntKind.i64.wrap (p.idB i + toI (p.tn i 0)) then 65535 else Go.IntKind.i64.wrap (p.idB i + toI (p.tn i 0))
def Pr.idA (p : Pr) (i : Nat) : Int := Go.IntKind.i64.wrap (p.idB i + toI (p.tn i 0))
def Pr.tsk (p : Pr) (i : Nat) : Tk := ⟨p.idA i, toI (p.tn i 1), toI (p.tn i 2), toI (p.tn i 3), p.tn i 4, decide (p.tn i 5 = 1), p.tn i 6, p.tn i 7 % 4294967296⟩
def Pr.so (p : Pr) (g c : Nat) : Nat := if g = 0 then c else p.cp + 3 * p.cp * (g - 1) + 3 * c
def Pr.sn (p : Pr) (g c j : Nat) : Nat := p.sp.getD (p.so g c + j) 0
def Pr.spt (p : Pr) (g c : Nat) : Sp := if g = 0 then ⟨0, 0, p.sn g c 0⟩ else ⟨p.sn g c 0, p.sn g c 1 % 4294967296, p.sn g c 2⟩
def Pr.row (p : Pr) (g : Nat) : List Sp := mapR p.cp (p.spt g)
def Pr.snA (p : Pr) : Snm := ⟨toI p.nx, ⟨(p.cp : Int), p.cr, none, 0, mapR p.gp p.grp, none, 0, p.cl.map toI, none, 0, p.cu.map toI, none, 0, mapR p.tk p.tsk, none, 0, mapR p.gp fun g => ⟨none, 0, p.row g⟩⟩⟩
def dle (x m : Nat) : Bool := decide (x ≤ m)
def Pr.ok0 (p : Pr) : Bool := (((true && dle p.nx mostI) && dle p.cp mostI) && dle p.cr 18446744073709551615) && dle p.gp mostI
def Pr.okG (p : Pr) : Nat → Bool
 | 0 => p.ok0
 | g + 1 => if g = 0 then p.ok0 else (p.okG g && dle (p.gs.getD (2 * (g - 1)) 0) mostI) && dle (p.gs.getD (2 * (g - 1) + 1) 0) mostI
def Pr.okC (p : Pr) : Nat → Bool
 | 0 => p.okG p.gp
 | k + 1 => p.okC k && dle (p.cl.getD k 0) mostI
def Pr.okU (p : Pr) : Nat → Bool
 | 0 => p.okC p.cp
 | k + 1 => p.okU k && dle (p.cu.getD k 0) mostI
def Pr.okT (p : Pr) : Nat → Bool
 | 0 => p.okU p.cp && dle p.tk mostI
 | i + 1 => ((((((((p.okT i && dle (p.tn i 0) mostI) && dle (p.tn i 1) mostI) && dle (p.tn i 2) mostI) && dle (p.tn i 3) mostI) && dle (p.tn i 4) 18446744073709551615) && dle (p.tn i 5) 1) && dle (p.tn i 6) 18446744073709551615) && dle (p.tn i 7) 4294967295) && decide (p.idA i ≤ 65535)
def Pr.okR (p : Pr) (base : Bool) (g : Nat) : Nat → Bool
 | 0 => base
 | c + 1 => if g = 0 then p.okR base g c && dle (p.sn g c 0) 18446744073709551615 else ((p.okR base g c && dle (p.sn g c 0) 18446744073709551615) && dle (p.sn g c 1) 4294967295) && dle (p.sn g c 2) 18446744073709551615
def Pr.okS (p : Pr) : Nat → Bool
 | 0 => p.okT p.tk
 | g + 1 => p.okR (p.okS g) g p.cp
def Pr.okB (p : Pr) : Bool := p.okS p.gp
section
variable {p : Pr} (h : p.Fit)
end
structure Pr.Low (p : Pr) : Prop where
 t5 : ∀ i, i < p.tk → p.tn i 5 ≤ 1
 t7 : ∀ i, i < p.tk → p.tn i 7 ≤ 4294967295
 s1 : ∀ g, g < p.gp → 0 < g → ∀ c, c < p.cp → p.sn g c 1 ≤ 4294967295
section
variable {p : Pr}
variable (h : p.Fit)
include h
end
section
variable {p : Pr}
end
section
variable {p : Pr} (h : p.Fit)
include h
end
section
variable {p : Pr}
end
section
variable {p : Pr} (h : p.Fit)
include h
end
def rdE (l : List Nat) : Nat := match opnR l with
 | .ok p => if p.okB = true ∧ chkS p.snA = 0 then 0 else 347
 | .error k => k
section
variable {l : List Nat} {p : Pr} {k : Nat}
end
def cutB (l : List Nat) (x : Sec) : List Nat := (l.take x.to).drop x.fr
theorem q28 {w : World} {B c : Nat} {A : Option Addr} {l : List Nat} {x : Sec} (h : Rd w B 1 A l.length (l.map B8)) (h1 : x.fr ≤ x.to ∧ x.to ≤ l.length) (hc : l.length ≤ c) : Rd w B 1 (if c = x.fr then A else A.map (·.add (x.fr * 1))) (x.to - x.fr) ((cutB l x).map B8) := h.q3k h1.1 h1.2 hc
section
variable {a b : List Nat} {p q : Pr} {k : Nat} {X Y : List Sec} {i : Nat}
end
structure Loose (b : Snm) : Prop where
 nx : I64 b.next
 ok : b.st.sta.Ok
 cp : 0 ≤ b.st.cpus
 cl : (b.st.cl.length : Int) = b.st.cpus
 cu : (b.st.cu.length : Int) = b.st.cpus
 g1 : 1 ≤ b.st.gs.length
 g0 : b.st.gs.getD 0 Gr.zero = ⟨0, 1⟩
 rs : b.st.rs.length = b.st.gs.length
 row : ∀ g, g < b.st.rs.length → ((b.st.rs.getD g Rw.zero).l.length : Int) = b.st.cpus
 z0 : ∀ c, c < (b.st.rs.getD 0 Rw.zero).l.length → ((b.st.rs.getD 0 Rw.zero).l.getD c Sp.zero).v = 0 ∧ ((b.st.rs.getD 0 Rw.zero).l.getD c Sp.zero).r = 0
section
variable {s : Snm}
end
section
variable {W w : World} {g g2 c k i n : Nat} {A : Option Addr} {b : List Nat} {fs ks : List Fact} {σ : List (Nat × Value)} {a : Act}
end
section
variable {W w : World} {fs A B l m : List Fact} {x : Stm}
end
def chX (i v : Nat) : List Nat := sealL (byA.set i v)
def moreX : List Nat := sealL (byA ++ [0])
theorem x1 : rdE (chX 0 112) = 342 := by kernel_rfl
theorem x2 : rdE (chX 2 2) = 343 := by kernel_rfl
theorem x3 : rdE (chX 4 0) = 345 := by kernel_rfl
theorem x4 : rdE (chX 4 65) = 345 := by kernel_rfl
theorem x5 : rdE (chX 6 0) = 345 := by kernel_rfl
theorem x6 : rdE (chX 9 1) = 344 := by kernel_rfl
theorem x7 : rdE moreX = 346 := by kernel_rfl
theorem x8 : rdE (chX 3 0) = 347 := by kernel_rfl
theorem x9 : rdE (chX 8 5) = 347 := by kernel_rfl
structure Xb where
 A : Option Addr
 n : Nat
 c : Nat
 l : List Nat
 e : Nat
def Xb.zero : Xb := ⟨none, 0, 0, [], 0⟩
def Xb.cells (x : Xb) : Array Value := #[.slice x.A x.n x.c, .int .i64 (x.e : Int)]
def Xb.own (x : Xb) : Own := ⟨x.A, x.n, x.c, x.l.map B8⟩
def Xb.Ok (x : Xb) : Prop := x.l.length = x.n ∧ x.n ≤ x.c ∧ x.n ≤ 100 ∧ (∀ z ∈ x.l, z < 256) ∧ rdE x.l = x.e
section
variable {s : Snm} {c d B : Nat} {A D : Option Addr} {w : World}
theorem qly (s : Snm) : (secsS s).length = 9 := rfl
end
section
variable {s p q : Snm} {tail a b : List Nat} {X Y : List Sec}
theorem q1c {j : Nat} (hj : j < 7) : cutB (bodyS s ++ tail) ⟨qbw j, atS s j, atS s (j + 1)⟩ = (secN s j).flatMap vbytes := by
 unfold cutB
 show ((bodyS s ++ tail).take (atS s (j + 1))).drop (atS s j) = _
 rw [List.drop_take, qx2 hj, qaa, Nat.add_sub_cancel_left, List.take_left' rfl]
theorem qx3 (s : Snm) {j : Nat} (hj : j < 7) : (secsS s).getD (j + 1) Sec.zero = ⟨qbw j, atS s j, atS s (j + 1)⟩ := by
 match j, hj with
 | 0, _ | 1, _ | 2, _ | 3, _ | 4, _ | 5, _ | 6, _ => rfl
end
section
variable {s : Snm} {l : List Nat} {i : Nat}
def cntS (s : Snm) : Nat → Nat
 | 0 => 0
 | i + 1 => (secN s i).length
theorem cnt_3 (s : Snm) : cntS s 3 = 2 * (s.st.gs.length - 1) := by
 show (upF _ _).length = _
 rw [qba (m := 2) (fun i => rfl)]
theorem cnt_4 (s : Snm) : cntS s 4 = s.st.cl.length := List.length_map ..
theorem cnt_5 (s : Snm) : cntS s 5 = s.st.cu.length := List.length_map ..
theorem cnt_6 (s : Snm) : cntS s 6 = 1 + 8 * s.st.ts.length := by
 have h : (s.st.ts.length :: upF s.st.ts.length fun i => tkN (qm s.st.ts i) (s.st.ts.getD i Tk.zero)).length = 1 + 8 * s.st.ts.length := by
  rw [List.length_cons, qba (m := 8) (fun i => rfl)]
  omega
 exact h
theorem qx4 (z : Sp) : (spN 0 z).length = 1 := by rw [qep de]; rfl
theorem qx5 {g : Nat} (h : 0 < g) (z : Sp) : (spN g z).length = 3 := by rw [qi9 h]; rfl
theorem cnt_7 (h : SnRight s) : cntS s 7 = s.st.cl.length + 3 * s.st.cl.length * (s.st.gs.length - 1) := by
 have S := h.sh.sh
 have h4 : 1 ≤ s.st.gs.length := (qk S.gs).1
 have h5 : s.st.rs.length = s.st.gs.length := by rw [← zp]; exact S.sp
 obtain ⟨c, hc⟩ : ∃ c, s.st.cl.length = c := ⟨_, rfl⟩
 have hl : (s.st.cl.length : Int) = s.st.cpus := S.cl
 have h6 : ∀ g, g < s.st.rs.length → (s.st.rs.getD g Rw.zero).l.length = c := fun g hg => by
  have h7 : ((s.st.rs.getD g Rw.zero).l.length : Int) = s.st.cpus := by rw [← qbz hg]; exact S.rows g (by show g < (rowsL s.st).length; rw [zp]; exact hg)
  omega
 have key : ∀ k, k < s.st.rs.length → (upF (k + 1) fun g => rwN g (s.st.rs.getD g Rw.zero).l).length = c + 3 * c * k := fun k => by
  induction k with
  | zero =>
   intro hk
   rw [ql, qdd]
   show (rwN 0 (s.st.rs.getD 0 Rw.zero).l).length = _
   unfold rwN
   rw [qba (m := 1) (fun i => qx4 _), h6 0 hk]
   omega
  | succ k ih =>
   intro hk
   rw [ql, List.length_append, ih om]
   unfold rwN
   rw [qba (m := 3) (fun i => qx5 om _), h6 _ hk, Nat.mul_succ (3 * c)]
   omega
 rw [hc]
 show (upF s.st.rs.length _).length = _
 have h9 := key (s.st.rs.length - 1) om
 rw [Nat.sub_add_cancel om] at h9
 rw [h9, h5]
def begS (s : Snm) : Nat → Nat
 | 0 => 0
 | 9 => atS s 7 + 4
 | i + 1 => atS s i
def nmS (s : Snm) (i : Nat) : ByteArray := ((secsS s).getD i Sec.zero).nm
theorem qvf (s : Snm) (h : i < 9) : (secsS s).getD i Sec.zero = ⟨nmS s i, begS s i, begS s (i + 1)⟩ := by
 match i, h with
 | 0, _ | 1, _ | 2, _ | 3, _ | 4, _ | 5, _ | 6, _ | 7, _ | 8, _ => rfl
theorem q1d (s : Snm) (h : i < 9) : (#[.string ⟨#[104, 101, 97, 100]⟩, .string ⟨#[110, 101, 120, 116]⟩, .string ⟨#[99, 111, 110, 102, 105, 103]⟩, .string ⟨#[103, 114, 111, 117, 112, 115]⟩, .string ⟨#[99, 108, 111, 99, 107, 115]⟩, .string ⟨#[99, 117, 114, 114, 101, 110, 116]⟩, .string ⟨#[116, 97, 115, 107, 115]⟩, .string ⟨#[115, 112, 111, 116, 115]⟩, .string ⟨#[115, 117, 109]⟩] : Array Value)[i]? = some (.string (nmS s i)) := by
 match i, h with
 | 0, _ | 1, _ | 2, _ | 3, _ | 4, _ | 5, _ | 6, _ | 7, _ | 8, _ => rfl
theorem q1e (s : Snm) : (bodyS s).length = atS s 7 := by
 unfold atS bodyS numsS
 rw [List.length_append]
 rfl
theorem qvg (s : Snm) : (sealL (bodyS s)).length = atS s 7 + 4 := by rw [qbp, q1e]
theorem zk (s : Snm) : ∀ {i j : Nat}, i ≤ j → atS s i ≤ atS s j := fun {i j} h => by
 induction j with
 | zero => rw [show i = 0 by omega]; exact Nat.le_refl _
 | succ j ih =>
  rcases Nat.lt_or_ge j i with h1 | h1
  ·rw [show i = j + 1 by omega]; exact Nat.le_refl _
  ·rw [qaa]; have := ih h1; omega
theorem qpg (s : Snm) (h : i < 9) : begS s i ≤ begS s (i + 1) ∧ begS s (i + 1) ≤ (sealL (bodyS s)).length := by
 rw [qvg]
 match i, h with
 | 0, _ => exact ⟨Nat.zero_le _, by have := zk s (show 0 ≤ 7 by decide); show atS s 0 ≤ _; omega⟩
 | 1, _ => exact ⟨zk s de, by have := zk s (show 1 ≤ 7 by decide); show atS s 1 ≤ _; omega⟩
 | 2, _ => exact ⟨zk s de, by have := zk s (show 2 ≤ 7 by decide); show atS s 2 ≤ _; omega⟩
 | 3, _ => exact ⟨zk s de, by have := zk s (show 3 ≤ 7 by decide); show atS s 3 ≤ _; omega⟩
 | 4, _ => exact ⟨zk s de, by have := zk s (show 4 ≤ 7 by decide); show atS s 4 ≤ _; omega⟩
 | 5, _ => exact ⟨zk s de, by have := zk s (show 5 ≤ 7 by decide); show atS s 5 ≤ _; omega⟩
 | 6, _ => exact ⟨zk s de, by have := zk s (show 6 ≤ 7 by decide); show atS s 6 ≤ _; omega⟩
 | 7, _ => exact ⟨zk s de, by show atS s 7 ≤ _; omega⟩
 | 8, _ => exact ⟨by show atS s 7 ≤ atS s 7 + 4; omega, Nat.le_refl _⟩
theorem q1f (s : Snm) : begS s 9 = (sealL (bodyS s)).length := (qvg s).symm
theorem q1g (s : Snm) {j : Nat} (h : j < 7) : begS s (j + 2) = begS s (j + 1) + ((secN s j).flatMap vbytes).length := by
 match j, h with
 | 0, _ => exact qaa s 0
 | 1, _ => exact qaa s 1
 | 2, _ => exact qaa s 2
 | 3, _ => exact qaa s 3
 | 4, _ => exact qaa s 4
 | 5, _ => exact qaa s 5
 | 6, _ => exact qaa s 6
def cntL (s : Snm) : List Nat := [cntS s 0, cntS s 1, cntS s 2, cntS s 3, cntS s 4, cntS s 5, cntS s 6, cntS s 7, cntS s 8]
theorem qno (s : Snm) (h : i < 9) : (cntL s).getD i 0 = cntS s i := by
 match i, h with
 | 0, _ | 1, _ | 2, _ | 3, _ | 4, _ | 5, _ | 6, _ | 7, _ | 8, _ => rfl
theorem qrm (h : s.st.cu.length = s.st.cl.length) : ([.int .i64 0, .int .i64 1, .int .i64 3, .int .i64 (cntS s 3 : Int), .int .i64 (s.st.cl.length : Int), .int .i64 (s.st.cl.length : Int), .int .i64 (cntS s 6 : Int), .int .i64 (cntS s 7 : Int), .int .i64 0] : List Value) = (cntL s).map I64v := by
 unfold cntL
 rw [cnt_4, cnt_5, h]
 rfl
def restN (s : Snm) : Nat → List Nat
 | 0 => numsS s
 | i + 1 => (numsS s).drop (upF i (secN s)).length
theorem q3a (s : Snm) : restN s 1 = restN s 0 := rfl
theorem qy0 (s : Snm) : restN s 9 = restN s 8 := by
 show (numsS s).drop (upF 8 (secN s)).length = (numsS s).drop (upF 7 (secN s)).length
 rw [ql, show secN s 7 = [] from rfl, List.append_nil]
theorem q3b (s : Snm) : restN s 9 = [] := by
 rw [qy0]
 show (numsS s).drop (upF 7 (secN s)).length = []
 exact List.drop_eq_nil_of_le (Nat.le_refl _)
theorem qj3 (s : Snm) {j : Nat} (h : j < 7) : restN s (j + 1) = secN s j ++ restN s (j + 2) := by
 obtain ⟨R, hR⟩ := qe0 (secN s) 7 j h
 show (numsS s).drop (upF j (secN s)).length = _ ++ (numsS s).drop (upF (j + 1) (secN s)).length
 unfold numsS
 rw [hR, List.drop_left' rfl, ql, ← List.append_assoc, List.drop_left' rfl]
theorem q1h {j n : Nat} {w : World} {X : Option Addr} {B : Nat} (h : Rd w B 1 X n ((restN s (j + 1)).map U64)) (hj : j < 7) (hn : n = (restN s (j + 1)).length) : Rd w B 1 X (secN s j).length ((secN s j).map U64) := by
 have h1 := qj3 s hj
 have h2 := h.upto (k := (secN s j).length) (by rw [hn, h1, List.length_append]; omega)
 rw [h1, Nat.mul_one, ← List.map_take, List.take_left' rfl] at h2
 exact h2
theorem qvh {j n c : Nat} {w : World} {X : Option Addr} {B : Nat} (h : Rd w B 1 X n ((restN s (j + 1)).map U64)) (hj : j < 7) (hn : n = (restN s (j + 1)).length) (hc : n ≤ c) : Rd w B 1 (if c = (secN s j).length then X else X.map (·.add ((secN s j).length * 1))) (n - (secN s j).length) ((restN s (j + 2)).map U64) := by
 have h1 := qj3 s hj
 have h2 := h.from (k := (secN s j).length) (by rw [hn, h1, List.length_append]; omega) hc
 rw [h1, Nat.mul_one, ← List.map_drop, List.drop_left' rfl] at h2
 rw [Nat.mul_one]
 exact h2
theorem qy1 (s : Snm) {j : Nat} (h : j < 7) : (secN s j).length ≤ (numsS s).length := by
 obtain ⟨R, hR⟩ := qe0 (secN s) 7 j h
 unfold numsS
 rw [hR, List.length_append, List.length_append]
 omega
theorem q1i {j c : Nat} {w : World} {A : Option Addr} {B : Nat} (hj : j < 7) (h : Rd w B 1 A (sealL (bodyS s)).length ((sealL (bodyS s)).map B8)) (hc : (sealL (bodyS s)).length ≤ c) : Rd w B 1 (if c = begS s (j + 1) then A else A.map (·.add (begS s (j + 1) * 1))) (begS s (j + 1 + 1) - begS s (j + 1)) (((secN s j).flatMap vbytes).map B8) := by
 have k := q28 (x := (secsS s).getD (j + 1) Sec.zero) h (by rw [qvf s om]; exact qpg s om) hc
 have e : cutB (sealL (bodyS s)) ((secsS s).getD (j + 1) Sec.zero) = (secN s j).flatMap vbytes := by rw [qx3 s hj]; unfold sealL; exact q1c hj
 rw [e, qvf s om] at k
 exact k
theorem q1j {j : Nat} (hj : j < 7) : begS s (j + 1 + 1) - begS s (j + 1) = ((secN s j).flatMap vbytes).length := by
 have h : begS s (j + 1 + 1) = begS s (j + 1) + ((secN s j).flatMap vbytes).length := q1g s hj
 omega
theorem q1k {w : World} {B n : Nat} {A : Option Addr} (h : Rd w B 1 A n ((sealL (bodyS s)).map B8)) (hn : 3 ≤ n) : Rd w B 1 A 3 (([113, 115, 1] : List Nat).map B8) := h.upto (k := 3) hn
end
section
variable {l : List Nat} {i m n c B : Nat} {w : World} {X : Option Addr}
theorem qnp (h : i < l.length) : ((l.drop i).flatMap vbytes).length = (vbytes (l.getD i 0)).length + ((l.drop (i + 1)).flatMap vbytes).length := by
 rw [List.drop_eq_getElem_cons h, List.flatMap_cons, List.length_append, List.getD_eq_getElem?_getD, List.getElem?_eq_getElem h]
 rfl
theorem q1l (hi : i ≤ l.length) (h : ((l.drop i).flatMap vbytes).length = 0) : i = l.length := by
 rcases Nat.lt_or_ge i l.length with h1 | h1
 ·have := qnp h1; have := qbd (l.getD i 0); omega
 ·omega
theorem q3c (h : 0 < ((l.drop i).flatMap vbytes).length) : i < l.length := by
 rcases Nat.lt_or_ge i l.length with h1 | h1
 ·exact h1
 ·rw [List.drop_eq_nil_of_le h1] at h; exact absurd h de
theorem q1m (h : i < l.length) : ((l.drop i).flatMap vbytes).drop (vbytes (l.getD i 0)).length = (l.drop (i + 1)).flatMap vbytes := by
 rw [List.drop_eq_getElem_cons h, List.flatMap_cons, List.getD_eq_getElem?_getD, List.getElem?_eq_getElem h]
 exact List.drop_left' rfl
theorem qx6 {k : Nat} (hk : (vbytes (l.getD i 0)).length = k) (hl : ∀ x ∈ l, x < 18446744073709551616) (h : i < l.length) (hr : Rd w w.heap.size 1 X m (((l.drop i).flatMap vbytes).map B8)) (hm : m ≤ 100000000) : Calls Tryz.prog 53 #[.slice X m c] w (Is w (.tuple #[.int .u64 (l.getD i 0 : Int), .int .i64 (k : Int), .int .i64 0])) := by
 subst hk
 have k := qxm X m c _ w hr (fun b hb => by obtain ⟨x, _, hx⟩ := List.mem_flatMap.1 hb; exact qki x b hx) om
 rw [List.drop_eq_getElem_cons h, List.flatMap_cons, qhh _ (hl _ (List.getElem_mem h))] at k
 rw [List.getD_eq_getElem?_getD, List.getElem?_eq_getElem h]
 exact k
theorem qx7 (h : i < l.length) (hr : Rd w B 1 X m (((l.drop i).flatMap vbytes).map B8)) (hm : m = ((l.drop i).flatMap vbytes).length) (hc : m ≤ c) : Rd w B 1 (if c = (vbytes (l.getD i 0)).length then X else X.map (·.add ((vbytes (l.getD i 0)).length * 1))) (m - (vbytes (l.getD i 0)).length) (((l.drop (i + 1)).flatMap vbytes).map B8) := by
 have h1 := qnp h
 have h2 := hr.q3f (k := (vbytes (l.getD i 0)).length) om hc
 rwa [q1m h] at h2
end
theorem qrn {P : Program} {fn : Func} {R : Ending → World → Prop} {c : Code} {a : Act} {w : World} (h : c.wp P (bodyPost P fn R) a w) : (Code.scope c).wp P (bodyPost P fn R) a w :=
 wp_scope_straight (Code.wp_mono (fun e a w hq => by cases e <;> exact hq) h)
theorem qvi {l : List Nat} {i : Nat} (h : i < l.length) : l.take (i + 1) = l.take i ++ [l.getD i 0] := by
 rw [← List.take_append_getElem h, List.getD_eq_getElem?_getD, List.getElem?_eq_getElem h]
 rfl
theorem qnq {l : List Nat} (hl : ∀ x ∈ l, x < 18446744073709551616) (A : Option Addr) (n c : Nat) (w : World) (hr : Rd w w.heap.size 1 A n ((l.flatMap vbytes).map B8)) (hn : n = (l.flatMap vbytes).length) (hc : n ≤ c) (hn9 : n ≤ 100000000) :
    Calls Tryz.prog 25 #[.slice A n c] w (qfe w 0 l) := by
 refine (JN1 Tryz.func25 31) ?_
 refine (JP∘Jp 2∘Jj) fun a Z I => ?_
 refine qrn ?_
 refine Jb Z I ((JP∘Jp 1∘Jr∘Jp 1∘Jq) fun a Z I => ?_)
 replace I := I.nil 30 1
 have hlm := qnn l
 refine Jb Z I ((JG∘JQ) fun a Z I => ?_)
 refine wp_label ?_
 refine Jb Z I ((JG∘JQ∘JB) fun a Z I => ?_)
 refine qg (fun mS aS wS => ∃ (i : Nat) (X : Option Addr) (m : Nat) (cx : Nat) (Ao : Option Addr) (co : Nat), (i ≤ l.length) ∧ (m = ((l.drop i).flatMap vbytes).length) ∧ (Rd w w.heap.size 1 X m (((l.drop i).flatMap vbytes).map B8)) ∧ (m ≤ cx) ∧ (m ≤ 100000000) ∧ (i ≤ co) ∧ mS = l.length - i ∧ Fr aS 31 [] [(5, vI 0), (4, .slice Ao i co), (3, vI 0), (2, vN), (0, .slice X m cx)] ∧ Mem w wS [.row (.slice Ao i co) i ((l.take i).map U64) 30 1]) (m := l.length - 0) ⟨0, A, n, c, none, 0, Nat.zero_le _, hn, hr, hc, hn9, Nat.le_refl _, rfl, Z.sub kr, I.pk [0]⟩ ?_
 clear Z I; rintro mS a w_ ⟨i, X, m, cx, Ao, co, hi, hm, hX, hcx, hm9, hco, rfl, Z, I⟩
 refine Jb Z I ((JQ∘JP∘Jp 1∘Jl∘Jp 1∘Jd2∘Jj) (Ju (fun hb11 => ?_) fun hb11 => ?_))
 ·
  intro a Z I
  have hd11 := of_decide_eq_true hb11
  have hil : i < l.length := q3c om
  have hfp := qnp hil
  have hvp := qbd (l.getD i 0)
  obtain ⟨k, hk⟩ : ∃ k, (vbytes (l.getD i 0)).length = k := ⟨_, rfl⟩
  have hnx := qx7 hil hX hm hcx
  rw [hk] at hnx hfp hvp
  refine Jb Z I ((JT∘JS'∘JB∘JP∘Jp 1∘JI (h:=by exact fun I => qx6 (c := cx) hk hl hil (I.old hX) om)) fun w14 hbw => (Jp 1∘Jx∘Jx∘Jx∘Jp 3∘Jr∘Jp 1∘Jj∘JB∘JP∘Jv 2 [(20, .bool true)]∘Jj∘JT∘Vs (.f .n) []) fun wd8 => (Vp [0, 1, 4, 5]∘Vy 6 (h:=by exact Yl.sliceFrom ei_u8 (j := k) rfl rfl rfl om)) fun a Z I HS => ?_)
  refine s_on Z 2 rfl (s_el Z I zt [(0, vQ (l.getD i 0))] #[vQ (l.getD i 0)] ?_)
  clear Z I; intro a w24 g24 Z I
  refine keepS (I.pk []) (fun HS => ?_)
  refine s_on Z 3 rfl (qed Z I (i := 1) rfl zt rfl rfl rfl (news := ([l.getD i 0].map U64)) (I.rdBlk (i := 0) (n := 1) (size := 1) rfl rfl) (by simp [Value.oneCell', U64, B8]) om om rfl de ?_)
  clear Z I; intro a w25 A25 c25 Z I hc25
  refine keepS (I.pk []) (fun HS => ?_)
  refine Vb Z I HS ((Vp [7, 8]∘Vd) fun a Z I => ?_)
  have hnA25 : i + 1 = i + 1 := rfl
  replace I := I.reRow (i := 1) (ys := (l.take (i + 1)).map U64) rfl hnA25 (by rw [qvi hil, List.map_append])
  rw [hnA25] at hc25
  replace Z := Z.sp 4 (.slice A25 (i + 1) c25) rfl (by rw [hnA25])
  replace Z := Z.sp 25 (.slice A25 (i + 1) c25) rfl (by rw [hnA25])
  exact ⟨_, om, i + 1, (if cx = k then X else X.map (·.add (k * 1))), m - k, cx - k, A25, c25, by omega, by omega, hnx, by omega, by omega, hc25, rfl, Z.sub kr, I.pk [1]⟩
 intro a Z I
 have hd11 := of_decide_eq_false hb11
 revert I; revert a; repeat (first | clear Z | clear I)
 intro a Z I
 obtain rfl := q1l hi om
 exact Jb Z I ((JF∘JX∘JG∘JP∘Jp 4∘Jj∘JZ∘Jz2) fun I => qh7 (er' := 0) (q := l) rfl rfl (by have h := I.own (i := 0) rfl; rwa [List.take_length] at h) hco I.below)
theorem qfj (n : Nums) (hn : n.Ok) (Al : Option Addr) (cl : Nat) (l : List Sml) (hl : ∀ x ∈ l, x.Ok) (hcl : l.length ≤ cl) (hnl : l.length ≤ 9223372036854775807) (x : Int) (hIx : I64 x) (B : Nat) (w : World) (hL : LaidX B w) (hB : B ≤ w.heap.size) (hrl : Rd w w.heap.size 8 Al l.length (l.flatMap sml)) :
    Calls Tryz.prog 6 #[.agg n.cells, .slice Al l.length cl, vI x] w (Is w (.bool true)) := by
 refine (JN3 Tryz.func6 208) ?_
 refine (JP∘JE) fun w3 g3 => (Jp 1∘Jj∘JQ∘JP∘JI (h:=by exact fun I => qnm B _ (hL.mem I hB) (I.le hB))) fun w23 hbw => (Jp 1∘Jd1∘Jq) fun a Z I => ?_
 replace I : Mem w _ (.blk g3 n.cells 27 :: []) := I
 refine Jb Z I ((JG∘JF∘JS'∘JP∘Jy (v := .agg n.cells) (h:=by exact Yl.loadS rfl rfl qun (qli hn) (fun _ h => qa (h.blk (i := 0) rfl)))∘Jp 2∘JL (h:=by exact fun I => qrl n hn Al cl l hl hcl hnl x hIx _ (I.old hrl))) ?_)
 rintro I _ w29 ⟨p, rfl, hsp, hgp, hip, hnp, hm⟩
 refine ⟨_, rfl, _, (show Mem w w29 (.blk g3 n.cells 27 :: (stF p.st ++ ([]))) from I.joinF (T := []) 1 hm rfl), ?_⟩
 refine (Jp 1∘Jx∘Jx∘JA #[vI 0, vI 0, vQ 0, vN, vN, vN, vN, vN]) fun w7 g7 => (JV qt O0' (h1:=by exact qgs p)) fun w3_8 => (Jp 1∘Jr∘Jy (v := .agg p.cells) (h:=by exact Yl.loadS rfl rfl qt rfl (fun _ h => qa (h.blk (i := 0) rfl)))∘JK (h:=by exact fun I => cw_ok hsp (hL.mem I hB) (I.le hB) (I.st1 2 rfl))) fun A34 c34 w34 hc34 => (Jp 1∘Jx∘Jx∘Jp 2∘Jr∘Jy (v := .agg p.cells) (h:=by exact Yl.loadS rfl rfl qt rfl (fun _ h => qa (h.blk (i := 1) rfl)))∘JK (h:=by exact fun I => q1a hsp (I.st1 3 rfl))) fun A39 c39 w39 hc39 => (Jp 1∘Jx∘Jx∘Jp 2∘Jq) fun a Z I => ?_
 have hln0 := hsp.len
 have hs9 := qly p
 have hG := hsp.sh
 have hcpb : 1 ≤ p.st.cpus ∧ p.st.cpus ≤ 64 := hG.sh.cpus
 have hcl : (p.st.cl.length : Int) = p.st.cpus := hG.sh.cl
 have hcu : (p.st.cu.length : Int) = p.st.cpus := hG.sh.cu
 have hgl : 1 ≤ p.st.gs.length := (qk hG.sh.gs).1
 have hgf := hsp.few.g
 have htf := hsp.few.t
 have hc3 := cnt_3 p
 have hc6 := cnt_6 p
 have hc7 := cnt_7 hsp
 have hnf := qet (qh6 hsp.chk)
 have hc7b : cntS p 7 ≤ (numsS p).length := qy1 p (j := 6) de
 obtain ⟨pr, hpr⟩ : ∃ z, 3 * p.st.cl.length * (p.st.gs.length - 1) = z := ⟨_, rfl⟩
 rw [hpr] at hc7
 refine Jb Z I ((JG∘JP∘Jy (v := .agg p.cells) (h:=by exact Yl.loadS rfl rfl qt rfl (fun _ h => qa (h.blk (i := 2) rfl)))∘JK (h:=by exact fun I => cn_ok hsp (I.st1 4 rfl))) fun A44 c44 w44 hc44 => (Jp 1∘Jx∘Jx∘Jp 2∘Jj∘JQ∘JP∘Jv 12 [(58, .slice A39 ((secsS p).length) c39), (57, .bool false)]∘Jl∘Jp 1∘Jo (.bool false) (by simp [qly])∘Jp 1∘Jd5∘Jj∘JF∘JS') fun a Z I => ?_)
 refine wp_seq ?_
 refine Jb Z I ((Vs .n []) fun wd9 => (Vf 0 1∘Vf 1 0∘Vf 2 0∘Vf 4 1∘Vf 5 0∘Vf 6 2∘Vc 3 O3∘Vo (vI p.st.cl.length) (by rw [hcl])∘Vp [9]∘Vc 7 O3∘Vl 8∘Vp [10]∘Vd∘Jd2∘JP∘Jp 1∘JsK 1∘Jp 1∘Jo (vI (cntS p 3)) (by exact zx om om)∘Jp 2∘Jf 1∘Jg 5 O3∘Jl∘Jp 1∘Jo (vI (8 * p.st.ts.length : Nat)) (by exact zx om om)∘Jp 1∘Jo (vI (cntS p 6)) (by exact zx om om)∘Jp 3∘Jo (vI (3 * p.st.cl.length : Nat)) (by exact zx om om)∘Jp 1∘JsK 1∘Jp 1∘Jo (vI pr) (by exact zx (by rw [← hpr]; exact (Int.natCast_mul _ _).symm) om)∘Jp 1∘Jo (vI (cntS p 7)) (by exact zx om om)∘JU za #[vI 0, vI 1, vI 3, vI (cntS p 3), vI p.st.cl.length, vI p.st.cl.length, vI (cntS p 6), vI (cntS p 7), vI 0]) fun w89 g89 => (Jp 1∘Jd6∘Jq) fun a Z I => ?_)
 replace Z := Z.to [(17, vS g89 9 9), (61, .bool false), (13, .slice A44 ((numsS p).length) c44), (11, .slice A39 ((secsS p).length) c39), (9, .slice A34 ((sealL (bodyS p)).length) c34), (7, vP g7 0), (24, .bool false), (6, .bool false)]
 replace I := (I.blkRow (i := 0) (n := 9) (size := 1) rfl rfl de).asRow (i := 0) (ys := (cntL p).map I64v) rfl (qrm om)
 refine Jb Z I ((JG∘JP∘Jp 1∘Jj∘JQ∘JP∘Jp 1∘Jl∘Jp 1∘Jj∘JB) fun a Z I => ?_)
 refine qg (fun mS aS wS => ∃ (i : Nat) (Xa : Option Addr) (ca : Nat), (i ≤ 9) ∧ ((restN p i).length ≤ ca) ∧ (∀ w2, Mem w w2 [.row (.slice A44 ((numsS p).length) c44) ((numsS p).length) ((numsS p).map U64) 30 1] → Rd w2 w2.heap.size 1 Xa (restN p i).length ((restN p i).map U64)) ∧ mS = 9 - i ∧ Fr aS 208 [] [(92, vI i), (91, vI ((secsS p).length : Nat)), (90, .slice A39 ((secsS p).length) c39), (18, vI (begS p i)), (17, vS g89 9 9), (61, .bool false), (13, .slice Xa ((restN p i).length) ca), (11, .slice A39 ((secsS p).length) c39), (9, .slice A34 ((sealL (bodyS p)).length) c34), (7, vP g7 0), (24, .bool false), (6, .bool false)] ∧ Mem w wS (.row (vS g89 9 9) 9 ((cntL p).map I64v) 3 1 :: .row (.slice A44 ((numsS p).length) c44) ((numsS p).length) ((numsS p).map U64) 30 1 :: .row (.slice A39 ((secsS p).length) c39) ((secsS p).length) ((secsS p).flatMap secL) 69 3 :: .row (.slice A34 ((sealL (bodyS p)).length) c34) ((sealL (bodyS p)).length) ((sealL (bodyS p)).map B8) 5 1 :: .blk g7 p.cells 40 :: .blk g3 n.cells 27 :: (stF p.st ++ ([])))) (m := 9 - 0) ⟨0, A44, c44, Nat.zero_le _, hc44, fun w2 h2 => h2.rd (i := 0) rfl, rfl, Z.sub kr, I.pt 6 [0, 1, 2, 3, 4, 5]⟩ ?_
 clear Z I; rintro mS a w_ ⟨i, Xa, ca, hi, hca, hXa, rfl, Z, I⟩
 refine Jb Z I ((JP∘Jp 1∘Jj∘JQ) (Ju (fun hb93 => ?_) fun hb93 => ?_))
 ·
  intro a Z I
  have hd93 := of_decide_eq_true hb93
  have hi9 : i < 9 := by omega
  have hbm := qpg p hi9
  refine Jb Z I ((JT∘JS'∘JQ∘JB∘JP∘Jp 1) ?_)
  repeat (first | clear Z | clear I)
  intro a Z I
  obtain ⟨gA39, rfl⟩ := qo (I.own (i := 2) rfl) (Nat.lt_of_le_of_lt (Nat.zero_le _) (show i < (secsS p).length from by omega))
  refine Jb Z I ((Jy (h:=by exact Yl.ix0 gA39 i 3 rfl rfl rfl)∘Jy (v := .agg (((secsS p).getD i Sec.zero).cells)) (h:=by exact Yl.loadS rfl rfl qu8 rfl (fun _ h => h.qc6 qf1 (i := 2) rfl ((getD_at Sec.zero om))))∘Jo (.agg #[.string (nmS p i), vI (begS p i), vI (begS p (i + 1))]) (by rw [qvf p hi9]; try rfl)∘JA #[.string (ByteArray.mk #[]), vI 0, vI 0]) fun w20 g20 => (Jp 1∘JV qu8 O0') fun w14_5 => (Jj∘JQ) fun a Z I => ?_)
  refine wp_seq ?_
  refine Jb Z I ((Vs .n []) fun wd15 => (Vf 0 0∘Vp [3]∘Vc 1 O0) fun a Z I HS => ?_)
  refine s_on Z 2 rfl (s_el Z I q1p [(0, .string (ByteArray.mk #[104, 101, 97, 100])), (1, .string (ByteArray.mk #[110, 101, 120, 116])), (2, .string (ByteArray.mk #[99, 111, 110, 102, 105, 103])), (3, .string (ByteArray.mk #[103, 114, 111, 117, 112, 115])), (4, .string (ByteArray.mk #[99, 108, 111, 99, 107, 115])), (5, .string (ByteArray.mk #[99, 117, 114, 114, 101, 110, 116])), (6, .string (ByteArray.mk #[116, 97, 115, 107, 115])), (7, .string (ByteArray.mk #[115, 112, 111, 116, 115])), (8, .string (ByteArray.mk #[115, 117, 109]))] #[.string (ByteArray.mk #[104, 101, 97, 100]), .string (ByteArray.mk #[110, 101, 120, 116]), .string (ByteArray.mk #[99, 111, 110, 102, 105, 103]), .string (ByteArray.mk #[103, 114, 111, 117, 112, 115]), .string (ByteArray.mk #[99, 108, 111, 99, 107, 115]), .string (ByteArray.mk #[99, 117, 114, 114, 101, 110, 116]), .string (ByteArray.mk #[116, 97, 115, 107, 115]), .string (ByteArray.mk #[115, 112, 111, 116, 115]), .string (ByteArray.mk #[115, 117, 109])] ?_)
  clear Z I; intro a w99 g99 Z I
  refine keepS (I.pt 8 [1, 2, 3, 4, 5, 6, 7]) (fun HS => ?_)
  refine Vb Z I HS ((Vy 4 (h:=by exact Yl.ix0 g99 i 1 rfl rfl rfl)) fun a Z I HS => ?_)
  refine s_on Z 5 rfl ?_
  refine Yl.wp (S := fun wS => Mem w wS _) (v := .string (nmS p i)) (Yl.qp rfl rfl kr (fun _ h => h.cell (i := 0) rfl (by rw [Nat.mul_one]; exact q1d p hi9))) Z I rfl de fun a Z => ?_
  refine keepS HS (fun HS => ?_)
  refine Vb Z I HS ((Vq [6] [(103, .bool (!(((nmS p i)).toList == ((nmS p i)).toList)))]∘Vo (.bool false) (by simp)∘Vp [7]∘Vf 8 1∘Vp [10]∘Vc 9 O0∘Vq [11] [(108, .bool ((begS p i : Int) != (begS p i : Int)))]∘Vo (.bool false) (by simp)∘Vp [12, 13]∘Vf 14 2∘Vp [16]∘Vc 15 O0∘Vq [17] [(114, .bool (decide ((begS p (i + 1) : Int) < (begS p i : Int))))]∘Vo (.bool false) (by exact congrArg Value.bool (decide_eq_false om))∘Vp [18, 19]∘Vf 20 2∘Vp [22]∘Vc 21 O0∘Vl 23∘Vq [24] [(121, .bool (decide ((begS p (i + 1) : Int) > (((sealL (bodyS p)).length : Nat) : Int))))]∘Vo (.bool false) (by exact congrArg Value.bool (decide_eq_false om))∘Vp [25]∘Vd∘Jd6∘JF∘JS'∘JP∘Jg 2 O1∘Jp 1∘Jd1∘Jj∘JQ∘JP∘Jp 3) (Ju (fun hb127 => ?_) fun hb127 => ?_))
  ·
   intro a Z I
   have hd127 := eq_of_beq hb127
   have hrs : restN p (i + 1) = restN p i := by rw [show i = 0 by omega]; exact q3a p
   refine Jb Z I ((Jp 3∘Jd5∘Jq) fun a Z I => ?_)
   replace Z := Z.sp 13 (.slice Xa (restN p (i + 1)).length ca) rfl (by rw [hrs])
   refine Jb Z I ((JG∘JT∘JX∘JG∘JR∘JaK 1∘Jp 1∘Jd1∘Jq) fun a Z I => ?_)
   exact ⟨_, om, i + 1, Xa, ca, by omega, by rw [hrs]; exact hca, by rw [hrs]; exact hXa, rfl, Z.sub kr, I.pt 8 [2, 3, 4, 5, 6, 7]⟩
  intro a Z I
  have hd127 := ne_of_beq_false hb127
  refine Jb Z I ((Jp 3∘Jd5∘Jj) (Ju (fun hb130 => ?_) fun hb130 => ?_))
  ·
   intro a Z I
   have hd130 := eq_of_beq hb130
   have hrs : restN p (i + 1) = restN p i := by rw [show i = 8 by omega]; exact qy0 p
   replace Z := Z.sp 13 (.slice Xa (restN p (i + 1)).length ca) rfl (by rw [hrs])
   refine Jb Z I ((JT∘JX∘JG∘JR∘JaK 1∘Jp 1∘Jd1∘Jq) fun a Z I => ?_)
   exact ⟨_, om, i + 1, Xa, ca, by omega, by rw [hrs]; exact hca, by rw [hrs]; exact hXa, rfl, Z.sub kr, I.pt 8 [2, 3, 4, 5, 6, 7]⟩
  intro a Z I
  have hd130 := ne_of_beq_false hb130
  revert I; revert a; repeat (first | clear Z | clear I)
  intro a Z I
  obtain ⟨j, rfl⟩ : ∃ j, i = j + 1 := ⟨i - 1, by omega⟩
  have hj7 : j < 7 := by omega
  have hrc : (restN p (j + 1)).length = (secN p j).length + (restN p (j + 1 + 1)).length := by rw [qj3 p hj7, List.length_append]
  have hnj := qy1 p hj7
  refine Jb Z I ((JF∘JS'∘JP∘Jp 1∘Jg 1 O1∘Jg 2 O1∘Jy (v := .slice (if c34 = begS p (j + 1 : Nat) then A34 else A34.map (·.add ((begS p (j + 1 : Nat)) * 1))) ((begS p ((j + 1 : Nat) + 1)) - (begS p (j + 1 : Nat))) (c34 - (begS p (j + 1 : Nat)))) (h:=by exact Yl.qy4 ei_u8 (i := begS p (j + 1 : Nat)) (j := begS p ((j + 1 : Nat) + 1)) rfl rfl rfl rfl om om)∘JK (h:=by exact fun I => qnq (qmr hsp.ok hsp.few j) _ _ _ _ (q1i hj7 (I.rd (i := 5) rfl) hc34) (q1j hj7) om om)) fun A138 c138 w138 hc138 => (Jp 1∘Jx∘Jx∘Jp 2∘Jj∘JQ∘JP∘Jv 4 [(144, .slice A138 ((secN p j).length) c138), (143, .bool false)]∘Jl∘Jp 2∘Jy (h:=by exact Yl.ix0 g89 (j + 1) 1 rfl rfl rfl (by show j + 1 < 9; omega))∘Jy (v := vI ((cntL p).getD (j + 1) 0)) (h:=by exact Yl.r1 3 (j + 1) 0 (by show j + 1 < 9; omega) rfl rfl rfl)∘Jo (vI ((secN p j).length)) (by rw [qno p om]; try rfl)∘Jp 1∘Jo (.bool false) (by simp)∘Jp 3∘Jl∘Jp 1∘Jl∘Jp 1∘Jo (.bool false) (by exact congrArg Value.bool (decide_eq_false om))∘Jp 6∘Jy (h:=by exact Yl.ix0 g89 (j + 1) 1 rfl rfl rfl (by show j + 1 < 9; omega))∘Jy (v := vI ((cntL p).getD (j + 1) 0)) (h:=by exact Yl.r1 3 (j + 1) 0 (by show j + 1 < 9; omega) rfl rfl rfl)∘Jo (vI ((secN p j).length)) (by rw [qno p om]; try rfl)∘Jy (h:=by exact Yl.z8 zt (j := (secN p j).length) rfl rfl rfl om)∘JI (h:=by exact fun I => qit A138 c138 (secN p j) Xa ca _ (I.rd (i := 0) rfl) (q1h (hXa _ (I.pk [4])) hj7 rfl) om)) fun w167 hbw => (Jp 2∘Jd6∘Jq) fun a Z I => ?_)
  replace Z := Z.to [(169, .bool false), (22, vI 0), (21, .slice A138 ((secN p j).length) c138), (130, .bool false), (18, vI (begS p ((j + 1 : Nat) + 1))), (122, .bool false), (19, vI (j + 1 : Nat)), (20, vP g20 0), (93, .bool true), (92, vI (j + 1 : Nat)), (91, vI ((secsS p).length : Nat)), (90, vS gA39 ((secsS p).length) c39), (17, vS g89 9 9), (61, .bool false), (13, .slice Xa ((restN p (j + 1 : Nat)).length) ca), (11, vS gA39 ((secsS p).length) c39), (9, .slice A34 ((sealL (bodyS p)).length) c34), (7, vP g7 0), (24, .bool false), (6, .bool false)]
  refine Jb Z I ((JG∘JF∘JS'∘JR∘Jp 3∘Jy (h:=by exact Yl.ix0 g89 (j + 1) 1 rfl rfl rfl (by show j + 1 < 9; omega))∘Jy (v := vI ((cntL p).getD (j + 1) 0)) (h:=by exact Yl.r1 3 (j + 1) 0 (by show j + 1 < 9; omega) rfl rfl rfl)∘Jo (vI ((secN p j).length)) (by rw [qno p om]; try rfl)∘Jy (v := .slice (if ca = ((secN p j).length) then Xa else Xa.map (·.add (((secN p j).length) * 1))) (((restN p (j + 1 : Nat)).length) - ((secN p j).length)) (ca - ((secN p j).length))) (h:=by exact Yl.sliceFrom zt (j := ((secN p j).length)) rfl rfl rfl om)∘Jo (.slice (if ca = (secN p j).length then Xa else Xa.map (·.add ((secN p j).length * 1))) ((restN p (j + 1 + 1)).length) (ca - (secN p j).length)) (by rw [show (restN p (j + 1 + 1)).length = (restN p (j + 1)).length - (secN p j).length by omega])∘Jp 1∘Jd6∘Jj∘JR∘JaK 1∘Jp 1∘Jd1∘Jq) fun a Z I => ?_)
  exact ⟨_, om, j + 1 + 1, (if ca = (secN p j).length then Xa else Xa.map (·.add ((secN p j).length * 1))), ca - (secN p j).length, by omega, by omega, fun w2 h2 => by rw [show (restN p (j + 1 + 1)).length = (restN p (j + 1)).length - (secN p j).length by omega]; exact qvh (hXa w2 h2) hj7 rfl hca, rfl, Z.sub kr, I.pt 9 [3, 4, 5, 6, 7, 8]⟩
 intro a Z I
 have hd93 := of_decide_eq_false hb93
 revert I; revert a; repeat (first | clear Z | clear I)
 intro a Z I
 obtain rfl : i = 9 := by omega
 have hr9 := q3b p
 have hb9 := q1f p
 refine Jb Z I ((JF∘JX∘JG∘JP∘Jp 2∘Jl∘Jp 1∘Jo (.bool true) (by simp [hb9])∘Jp 2∘Jl∘Jp 1∘Jo (.bool true) (by simp [hr9])∘Jp 3) ?_)
 repeat (first | clear Z | clear I)
 intro a Z I
 obtain ⟨gA39, rfl⟩ := qo (I.own (i := 2) rfl) (Nat.lt_of_le_of_lt (Nat.zero_le _) (show 0 < (secsS p).length from by omega))
 exact Jb Z I ((Jy (v := vP gA39 0) (h:=by exact Yl.indexAddr (ad := ⟨gA39, 0, none⟩) (y := 0) (sz := 3) rfl rfl rfl om kr)∘Jf 2∘Jy (v := vI (((secsS p).getD 0 Sec.zero).to)) (h:=by exact Yl.qp rfl rfl kr (fun _ h => h.qr qf1 (i := 2) rfl (k := 0) (off := 2) (x := ((secsS p).getD 0 Sec.zero)) ((getD_at Sec.zero om)) rfl))∘Jo (vI 3) (by exact rfl)∘Jv 4 [(194, vS gA39 ((secsS p).length) c39), (193, .bool true)]∘Jy (v := vP gA39 24) (h:=by exact Yl.indexAddr (ad := ⟨gA39, 0, none⟩) (y := 8) (sz := 3) rfl rfl rfl om kr)∘Jf 1∘Jy (v := vI (((secsS p).getD 8 Sec.zero).fr)) (h:=by exact Yl.qp rfl rfl kr (fun _ h => h.qr qf1 (i := 2) rfl (k := 8) (off := 1) (x := ((secsS p).getD 8 Sec.zero)) ((getD_at Sec.zero om)) rfl))∘Jo (vI (begS p 9 - 4 : Nat)) (by exact rfl)∘Jp 1∘JsK 4∘Jp 1∘Jo (.bool true) (by simp)∘Jp 3∘Jy (h:=by exact Yl.z8 ei_u8 (j := 3) rfl rfl rfl om)∘Jy (h:=by exact Yl.str rfl rfl (fun _ h => q1k (h.rd (i := 3) rfl) om))∘Jp 1∘Jo (.bool true) (by rw [show bstr [113, 115, 1] = ⟨#[113, 115, 1]⟩ from rfl, beq_self_eq_true])∘Jp 2∘Jd6∘Jj∘JZ) JY1)
end Go.Proofs.YtcajpeiobkcliaaGreatDoor
