/- Parts. -/
import Derived.Test.YtfeheccoijnbaaaDoorQbZ3
set_option linter.all false
set_option maxRecDepth 100000
set_option maxHeartbeats 8000000
namespace Go.Proofs.YtfeheccoijnbaaaDoor
open Go.RowKit
theorem qpm (A : Option Addr) (n c : Nat) (l : List Nat) (BB : Nat) (w : World) (hL : LaidX BB w) (hB : BB ≤ w.heap.size) (hr : Rd w w.heap.size 1 A n (l.map B8)) (hc : n ≤ c) (hl : ∀ b ∈ l, b < 256) (hln : l.length = n) (hn : n ≤ 100000000) {bs : List Bk} {er : Nat} (h : readAll l = (bs, er)) :
  Calls Tryd.prog 21 #[.slice A n c] w (qgb 45 41 w er bs) := by
 subst hln
 have h1 := qm1 A c l BB w hL hB hr hc hl hn
 rw [h] at h1
 exact h1
theorem si_a3 : SI Tryd.prog 77 18 := ⟨by kernel_rfl, by kernel_rfl⟩
theorem si_c3 : SI Tryd.prog 79 3 := ⟨by kernel_rfl, by kernel_rfl⟩
theorem qlx {xs : List Ssm} (h : xs.length = 3) : (arrC xs).size = 18 := by
 unfold arrC
 rw [List.size_toArray, qau ssmL 6 qju, h]
theorem qs8 {l : List It} {bs : List Bk} {o : Int} : o + sumI (befI (l.take (atN bs 0))) - lostN bs 0 = o := by
 cases bs <;> simp [atN, lostN, befI, sumI]
theorem qxi {l : List It} {k : Nat} (h : k < l.length) : (evsI l).getD k Ev.zero = (l.getD k It.zero).e := by
 unfold evsI
 rw [List.getD_eq_getElem?_getD, List.getElem?_map, List.getD_eq_getElem?_getD, List.getElem?_eq_getElem h]
 rfl
theorem qs9 {w : World} {g o : Nat} {x : Hb} {nx : Int} (h : w.rangeAt g o (hbL x)) (e : x.b = endB nx) : w.rangeAt g o ((endB nx).cells x.A x.c).toList := by
 rw [← e]; exact h
theorem qhy (xs : List Ssm) (h3 : xs.length = 3) (lim0 : Nat) (hlm0 : lim0 < 256) (n : Int) (hnI : I64 n) (B : Nat) (w : World) (hL : LaidX B w) (hB : B ≤ w.heap.size) (hi : ∀ x ∈ xs, SsmIn w x) :
    Calls Tryd.prog 8 #[.agg (arrC xs), .int .u8 (lim0 : Int), .int .i64 n] w (Is w (.bool true)) := by
 refine qg (vs := [.agg (arrC xs), vB lim0, vI n]) Tryd.func8 rfl rfl (by kernel_rfl) (σ0 := [(0, .agg (arrC xs)), (1, vB lim0), (2, vI n)]) rfl ?_
 intro a HF
 have HM := Mem.start w
 refine wp_seq (qa ?_)
 refine fo HF 0 rfl rfl ?_
 refine e_box HF HM (cs := (arrC xs)) rfl rfl rfl rfl (by decide) ?_
 clear HF HM; intro a w3 g3 HF HM
 refine fp HF 1 1 [(6, .bool false)] fun a HF => ?_
 refine qb rfl ?_
 obtain ⟨lim, hlim⟩ : ∃ z, z = (1 + lim0 % 100) := ⟨_, rfl⟩
 have hlm1 : 1 ≤ lim ∧ lim ≤ 100 := by rw [hlim]; omega
 obtain ⟨nx, hnx⟩ : ∃ z, z = 1 + pickZ n 281474976710657 := ⟨_, rfl⟩
 have hpk := qsv n
 have hnx1 : 1 ≤ nx ∧ nx ≤ 281474976710657 := by rw [hnx]; omega
 obtain ⟨bks, hT⟩ := qpg (W := w) h3 (fun x hx => (hi x hx).ok) (lim := lim) (by omega) (by omega)
 have hb3 := hT.b3
 obtain ⟨hTg, hTs⟩ := qxe hT
 have hobl := qlp (nx := nx) hTs
 refine wp_seq (wp_seq (qa ?_))
 refine fo HF 0 rfl rfl ?_
 refine e_is HF HM [] (.bool true) rfl rfl (qpl B _ (hL.mem HM hB) (HM.le hB)) fun w30 hbw HM a HF => ?_
 refine fp HF 1 1 [(31, .bool false)] fun a HF => ?_
 refine qb rfl (qe HF rfl (wp_skip (wp_seq (qa ?_))))
 refine fp HF 2 0 [(34, vI (IntKind.i64.wrap (lim0 : Int)))] fun a HF => ?_
 replace HF := HF.sp 34 (vI lim0) rfl (qi rfl (by omega))
 refine fp HF 1 2 [(35, vI (Int.tmod (lim0 : Int) 100))] fun a HF => ?_
 replace HF := HF.sp 35 (vI (lim0 % 100 : Nat)) rfl (qao .i64 _ 100)
 refine fp HF 1 3 [(36, vI (IntKind.i64.wrap (1 + ((lim0 % 100 : Nat) : Int))))] fun a HF => ?_
 replace HF := HF.sp 36 (vI lim) rfl (by rw [hlim]; exact qi (by omega) (by omega))
 refine fo HF 4 rfl rfl ?_
 refine e_cl HF [vI lim] rfl rfl (qn6 (lim : Int) _ (by omega)) ?_
 rintro _ w37 ⟨gw37, rfl, hm⟩
 refine ⟨_, rfl, ?_⟩
 replace HM := (HM.join hm).nil 5 1
 clear HF; intro a HF
 refine fp HF 5 5 [(8, vI 0), (7, vP gw37 0)] fun a HF => ?_
 refine qb rfl (wp_seq (wp_seq (qa ?_)))
 refine fp HF 4 0 [(43, vP gw37 0), (42, .bool false)] fun a HF => ?_
 refine fy HF HM 4 rfl rfl rfl (v := .bool false) (Yl.ql1 rfl rfl rfl) fun a HF => ?_
 refine fp HF 1 5 [(45, .bool false)] fun a HF => ?_
 refine qb rfl (qe HF rfl (wp_skip (wp_seq (qa ?_))))
 refine fp HF 1 0 [(46, vI n)] fun a HF => ?_
 refine fo HF 1 rfl rfl ?_
 refine e_cl HF [vI n, vI 281474976710657] rfl rfl (qnv n 281474976710657 hnI (by unfold I64; omega) _) ?_
 rintro _ w47 ⟨rfl, rfl⟩
 refine ⟨_, rfl, ?_⟩
 replace HM := HM
 clear HF; intro a HF
 refine fp HF 1 2 [(48, vI (IntKind.i64.wrap (1 + (pickZ n 281474976710657))))] fun a HF => ?_
 replace HF := HF.sp 48 (vI nx) rfl (by rw [hnx]; exact qg0 ⟨by omega, by omega⟩)
 refine fp HF 1 3 [(9, vI nx)] fun a HF => ?_
 refine qb rfl (wp_seq (qa ?_))
 refine fy HF HM 0 rfl rfl rfl (v := .agg #[vI 0, vI 0, vI 0]) (Yl.qxn rfl (by kernel_rfl) (by kernel_rfl)) fun a HF => ?_
 refine fo HF 1 rfl rfl ?_
 refine qr HF HM (cs := #[vI 0, vI 0, vI 0]) rfl (by kernel_rfl) rfl (by decide) ?_
 clear HF HM; intro a w10 g10 HF HM
 refine fo HF 2 rfl rfl ?_
 refine e_sa HF HM 0 rfl rfl rfl rfl rfl si_c3 rfl rfl (by simp [Value.oneCell']) ?_
 clear HM; intro w7_2 HM
 refine qb rfl ?_
 replace HM := (HM.blkRow (i := 0) (n := 3) (size := 1) rfl rfl (by decide)).asRow (i := 0) (ys := [0, 0, 0].map I64v) rfl rfl
 refine wp_seq (wp_seq (qa ?_))
 refine fy HF HM 0 rfl rfl rfl (v := .agg (arrC xs)) (Yl.zg rfl rfl si_a3 (qlx h3) (fun _ h => qd (h.blk (i := 3) rfl))) fun a HF => ?_
 refine fp HF 1 1 [(51, vI 0)] fun a HF => ?_
 refine qb rfl (wp_block ?_)
 refine zk (fun mS aS wS => ∃ (k : Nat) (ns : List Nat) (Aw : Option Addr) (cw : Nat), (k ≤ 3) ∧ (ns.length = 3) ∧ (∀ j, j < k → ns.getD j 0 = (bks.getD j []).length) ∧ ((outsL (allB bks nx k)).length ≤ cw) ∧ mS = 3 - k ∧ Fr aS 207 [] [(51, vI k), (50, .agg (arrC xs)), (10, vP g10 0), (9, vI nx), (45, .bool false), (7, vP gw37 0), (31, .bool false), (6, .bool false), (3, vP g3 0), (1, vB lim0)] ∧ Mem w wS [.row (vS g10 3 3) 3 (ns.map I64v) 79 1, .row (.slice Aw ((outsL (allB bks nx k)).length) cw) ((outsL (allB bks nx k)).length) ((outsL (allB bks nx k)).map B8) 5 1, .blk gw37 #[vI lim, .slice Aw ((outsL (allB bks nx k)).length) cw] 95, .blk g3 (arrC xs) 77]) (m := 3 - 0) ⟨0, [0, 0, 0], none, 0, Nat.zero_le _, rfl, (by intro j hj; omega), Nat.le_refl _, rfl, HF.sub (by kernel_rfl), HM.picks [0, 1, 2, 3] (by decide) rfl⟩ ?_
 clear HF HM; rintro mS a w_ ⟨k, ns, Aw, cw, hk, hns, hnk, hcw, rfl, HF, HM⟩
 refine wp_seq (qa ?_)
 refine fp HF 1 0 [(52, .bool (decide ((k : Int) < (3 : Int))))] fun a HF => ?_
 refine qb rfl (wp_seq ?_)
 rcases HF.tf 52 rfl with ⟨hb52, HF⟩ | ⟨hb52, HF⟩
 ·
  have hd52 := of_decide_eq_true hb52
  have hk52 : k < 3 := by omega
  have hix := hi _ (qap Ssm.zero (show k < xs.length by omega))
  have hxo := hT.ok k hk52
  have hbk := hT.back k hk52
  have hsm := qcv hT hk52
  have hok := hobl k (by omega)
  have hok1 := hobl (k + 1) (by omega)
  have hos := qiw (bks := bks) (nx := nx) (k := k) (by omega)
  have hil : (xs.getD k Ssm.zero).x.items.length ≤ 200 := by rw [qcu]; exact es200 _
  have hcp := hxo.cpu
  have hopn := hxo.opn
  have hend := qg7 (endB nx)
  refine qf HF rfl (wp_skip (wp_seq (wp_block (wp_seq (qa ?_)))))
  refine fp HF 1 0 [(53, vI k)] fun a HF => ?_
  refine fy HF HM 1 rfl rfl rfl (v := .agg ((xs.getD k Ssm.zero).x.cells (xs.getD k Ssm.zero).A (xs.getD k Ssm.zero).c (xs.getD k Ssm.zero).A2 (xs.getD k Ssm.zero).c2)) (Yl.qv6 (m := 3) (sz := 6) rfl rfl rfl (by kernel_rfl) hk52 (qsx (by omega))) fun a HF => ?_
  refine fo HF 2 rfl rfl ?_
  refine qr HF HM (cs := #[vB 0, vI 0, vI 0, .slice none 0 0, .slice none 0 0, vW 0]) rfl (by kernel_rfl) rfl (by decide) ?_
  clear HF HM; intro a w12 g12 HF HM
  refine fp HF 1 3 [(11, vI k)] fun a HF => ?_
  refine fo HF 4 rfl rfl ?_
  refine e_sa HF HM 0 rfl rfl rfl rfl rfl si_ss rfl rfl (qvy _ _ _ _ _) ?_
  clear HM; intro w10_4 HM
  refine qb rfl (wp_seq (qa ?_))
  refine fy HF HM 0 rfl rfl rfl (v := .agg ((xs.getD k Ssm.zero).x.cells (xs.getD k Ssm.zero).A (xs.getD k Ssm.zero).c (xs.getD k Ssm.zero).A2 (xs.getD k Ssm.zero).c2)) (Yl.zg rfl rfl si_ss rfl (fun _ h => qd (h.blk (i := 0) rfl))) fun a HF => ?_
  refine fo HF 1 rfl rfl ?_
  refine e_cl HF [.agg ((xs.getD k Ssm.zero).x.cells (xs.getD k Ssm.zero).A (xs.getD k Ssm.zero).c (xs.getD k Ssm.zero).A2 (xs.getD k Ssm.zero).c2)] rfl rfl (qiz (xs.getD k Ssm.zero).x hxo (xs.getD k Ssm.zero).A (xs.getD k Ssm.zero).c (xs.getD k Ssm.zero).A2 (xs.getD k Ssm.zero).c2 _ (HM.old hix.rd) hix.hc (HM.old hix.rd2) hix.hm hix.hm2) ?_
  rintro _ w57 ⟨Am, cAm, rfl, hoAm, hcAm, hbw⟩
  refine ⟨_, rfl, ?_⟩
  replace HM := HM.callRow hbw hoAm
  clear HF; intro a HF
  refine fp HF 7 2 [(15, vI ((xs.getD k Ssm.zero).x.opn)), (14, .slice Am ((xs.getD k Ssm.zero).x.items.length) cAm), (13, vB ((xs.getD k Ssm.zero).x.cpu % 64 : Nat))] fun a HF => ?_
  refine qb rfl (wp_seq (qa ?_))
  refine fp HF 4 0 [(65, vI ((xs.getD k Ssm.zero).x.opn)), (64, .slice Am ((xs.getD k Ssm.zero).x.items.length) cAm), (63, vB ((xs.getD k Ssm.zero).x.cpu % 64 : Nat)), (62, vP gw37 0)] fun a HF => ?_
  refine fo HF 4 rfl rfl ?_
  refine e_cl HF [vP gw37 0, vB ((xs.getD k Ssm.zero).x.cpu % 64 : Nat), .slice Am ((xs.getD k Ssm.zero).x.items.length) cAm, vI ((xs.getD k Ssm.zero).x.opn)] rfl rfl (qva (o2 := (outsL (allB bks nx k) ++ outsL (bks.getD k []))) (k := ((bks.getD k []).length)) (we := 0) _ _ gw37 (lim : Int) Aw cw (outsL (allB bks nx k)) _ (HM.picks [4, 3, 0, 1, 2, 5] (by decide) rfl) (by first | exact Nat.le_refl _ | omega | exact Nat.zero_le _) (by omega) (by omega) (by unfold I64; omega) ((xs.getD k Ssm.zero).x.cpu % 64) (by omega) Am cAm ((xs.getD k Ssm.zero).x.items) ((xs.getD k Ssm.zero).x.opn : Int) (qnu hxo) (by unfold I64; omega) B (hL.mem HM hB) hB (HM.rd (i := 0) rfl) hcAm (by omega) (qu3 hbk.cut (fun b hb => (hbk.all b hb).2.1) (by omega))) ?_
  rintro _ w66 ⟨rfl, A66, c66, hc66, HM2⟩
  refine ⟨_, rfl, ?_⟩
  replace HM := HM2
  clear HF; intro a HF
  refine fp HF 5 5 [(17, vI 0), (16, vI ((bks.getD k []).length))] fun a HF => ?_
  refine qb rfl (wp_seq (wp_seq (qa ?_)))
  refine fp HF 3 0 [(71, vI nx), (70, vP gw37 0), (69, vI 0)] fun a HF => ?_
  refine fo HF 3 rfl rfl ?_
  refine e_cl HF [vP gw37 0, vI nx] rfl rfl (qjw (o2 := (outsL (allB bks nx (k + 1)))) (we := 0) _ _ gw37 (lim : Int) A66 c66 (outsL (allB bks nx k) ++ outsL (bks.getD k [])) _ (HM.picks [0, 1, 2, 3, 4, 5] (by decide) rfl) (by first | exact Nat.le_refl _ | omega | exact Nat.zero_le _) (by rw [List.length_append]; omega) (by omega) nx (by unfold I64; omega) B (hL.mem HM hB) hB (by rw [hos]; exact qpf hnx1 (by rw [List.length_append]; omega))) ?_
  rintro _ w72 ⟨rfl, A72, c72, hc72, HM2⟩
  refine ⟨_, rfl, ?_⟩
  replace HM := HM2
  clear HF; intro a HF
  refine fp HF 2 4 [(74, .bool false)] fun a HF => ?_
  refine qb rfl (qe HF rfl (wp_skip (qa ?_)))
  refine fp HF 2 0 [(76, vI ((bks.getD k []).length)), (75, vI k)] fun a HF => ?_
  refine fy HF HM 2 rfl rfl rfl (v := vP g10 (k * 1)) ((Yl.zz (ad := ⟨g10, 0, none⟩) (m := 3) (y := k) (sz := 1) rfl rfl rfl (by kernel_rfl) (by omega)).as (by rw [Addr.add_mid, Nat.zero_add])) fun a HF => ?_
  refine fo HF 3 rfl rfl ?_
  refine qoi HF HM (i := 4) rfl rfl rfl rfl (by kernel_rfl) rfl rfl (by simp only [List.length_map]; omega) ?_
  clear HM; intro w15_3 HM
  replace HM := HM.asRow (i := 4) (ys := (ns.set k (bks.getD k []).length).map I64v) rfl (qqr I64v ns k (bks.getD k []).length (by omega))
  refine qb rfl (qa ?_)
  refine fp HF 1 0 [(78, vI (IntKind.i64.wrap ((k : Int) + 1)))] fun a HF => ?_
  replace HF := HF.sp 78 (vI (k + 1 : Nat)) rfl (qi (by omega) (by omega))
  refine fp HF 1 1 [(51, vI (k + 1 : Nat))] fun a HF => ?_
  refine qb rfl ?_
  exact ⟨_, (by omega), k + 1, (ns.set k (bks.getD k []).length), A72, c72, by omega, by rw [List.length_set]; exact hns, qxb (F := fun j => (bks.getD j []).length) hns hk52 hnk, hc72, rfl, HF.sub (by kernel_rfl), HM.picks [4, 1, 0, 5] (by decide) rfl⟩
 have hd52 := of_decide_eq_false hb52
 have hk3 : k = 3 := by omega
 subst hk3
 have hg3 := qsy hnx1 hTg 3
 have ho3 := hobl 3 (by omega)
 have hob := qw2 (fun b hb => (hg3 b hb).1)
 have hl0 : (allB bks nx 1).length = (allB bks nx 0).length + (bks.getD 0 []).length + 1 := qfb (by omega)
 have hl1 : (allB bks nx 2).length = (allB bks nx 1).length + (bks.getD 1 []).length + 1 := qfb (by omega)
 have hl2 : (allB bks nx 3).length = (allB bks nx 2).length + (bks.getD 2 []).length + 1 := qfb (by omega)
 have hlz : (allB bks nx 0).length = 0 := rfl
 have hn0 := hnk 0 (by decide)
 have hn1 := hnk 1 (by decide)
 have hn2 := hnk 2 (by decide)
 have hs0 := qcv hT (k := 0) (by decide)
 have hs1 := qcv hT (k := 1) (by decide)
 have hs2 := qcv hT (k := 2) (by decide)
 refine qe HF rfl (wp_exit (wp_seq (qa ?_)))
 refine fp HF 1 0 [(80, vP gw37 0)] fun a HF => ?_
 refine fo HF 1 rfl rfl ?_
 refine e_cl HF [vP gw37 0] rfl rfl (qen gw37 (lim : Int) Aw cw (outsL (allB bks nx 3)) _ (HM.blk (i := 2) rfl) (HM.rd (i := 1) rfl) (by omega) (by omega)) ?_
 rintro _ w81 ⟨⟨A81, c81, rfl, ho, hc81⟩, hbw⟩
 refine ⟨_, rfl, ?_⟩
 replace HM := HM.callRow hbw ho
 clear HF; intro a HF
 refine fo HF 2 rfl rfl ?_
 refine e_cl HF [.slice A81 ((outsL (allB bks nx 3)).length) c81] rfl rfl (qpm (bs := (allB bks nx 3)) (er := 0) A81 ((outsL (allB bks nx 3)).length) c81 (outsL (allB bks nx 3)) B _ (hL.mem HM hB) (HM.le hB) (HM.rd (i := 0) rfl) hc81 hob rfl (by omega) (qpe (qst hg3 (by omega)))) ?_
 rintro _ w82 ⟨A3, c3, q3, rfl, hq3, hc3, hm⟩
 have hql3 : (allB bks nx 3).length = q3.length := by rw [← hq3, List.length_map]
 rw [hql3] at hm hc3 ⊢
 have hq3l : q3.length = ns.getD 0 0 + ns.getD 1 0 + ns.getD 2 0 + 3 := by rw [← hql3]; omega
 refine ⟨_, rfl, ?_⟩
 replace HM := Mem.qys (a := [.row (.slice A81 ((outsL (allB bks nx 3)).length) c81) ((outsL (allB bks nx 3)).length) ((outsL (allB bks nx 3)).map B8) 5 1, .row (vS g10 3 3) 3 (ns.map I64v) 79 1, .row (.slice Aw ((outsL (allB bks nx 3)).length) cw) ((outsL (allB bks nx 3)).length) ((outsL (allB bks nx 3)).map B8) 5 1, .blk gw37 #[vI lim, .slice Aw ((outsL (allB bks nx 3)).length) cw] 95, .blk g3 (arrC xs) 77]) (b := []) HM hm
 clear HF; intro a HF
 refine fp HF 5 3 [(19, vI 0), (18, .slice A3 q3.length c3)] fun a HF => ?_
 refine qb rfl (wp_seq (wp_seq (qa ?_)))
 refine fp HF 4 0 [(88, .slice A3 q3.length c3), (87, .bool false)] fun a HF => ?_
 refine fy HF HM 4 rfl rfl rfl (Yl.len rfl rfl (by kernel_rfl)) fun a HF => ?_
 refine fy HF HM 5 rfl rfl rfl (v := vP g10 0) (Yl.zz (ad := ⟨g10, 0, none⟩) (m := 3) (y := 0) (sz := 1) rfl rfl rfl (by kernel_rfl) (by decide)) fun a HF => ?_
 refine fy HF HM 6 rfl rfl rfl (v := vI (ns.getD 0 0)) (Yl.qh rfl rfl (by kernel_rfl) (fun _ h => h.qgg (i := 2) rfl (k := 0) (qab (F := I64v) (k := 0) (x := (ns.getD 0 0)) ((getD_at 0 (k := 0) (by first | omega | (simp; omega))))))) fun a HF => ?_
 refine fy HF HM 7 rfl rfl rfl (v := vP g10 1) (Yl.zz (ad := ⟨g10, 0, none⟩) (m := 3) (y := 1) (sz := 1) rfl rfl rfl (by kernel_rfl) (by decide)) fun a HF => ?_
 refine fy HF HM 8 rfl rfl rfl (v := vI (ns.getD 1 0)) (Yl.qh rfl rfl (by kernel_rfl) (fun _ h => h.qgg (i := 2) rfl (k := 1) (qab (F := I64v) (k := 1) (x := (ns.getD 1 0)) ((getD_at 0 (k := 1) (by first | omega | (simp; omega))))))) fun a HF => ?_
 refine fp HF 1 9 [(94, vI (IntKind.i64.wrap (((ns.getD 0 0) : Int) + ((ns.getD 1 0) : Int))))] fun a HF => ?_
 replace HF := HF.sp 94 (vI ((ns.getD 0 0) + (ns.getD 1 0) : Nat)) rfl (qi (by omega) (by omega))
 refine fy HF HM 10 rfl rfl rfl (v := vP g10 2) (Yl.zz (ad := ⟨g10, 0, none⟩) (m := 3) (y := 2) (sz := 1) rfl rfl rfl (by kernel_rfl) (by decide)) fun a HF => ?_
 refine fy HF HM 11 rfl rfl rfl (v := vI (ns.getD 2 0)) (Yl.qh rfl rfl (by kernel_rfl) (fun _ h => h.qgg (i := 2) rfl (k := 2) (qab (F := I64v) (k := 2) (x := (ns.getD 2 0)) ((getD_at 0 (k := 2) (by first | omega | (simp; omega))))))) fun a HF => ?_
 refine fp HF 1 12 [(97, vI (IntKind.i64.wrap ((((ns.getD 0 0) + (ns.getD 1 0) : Nat) : Int) + ((ns.getD 2 0) : Int))))] fun a HF => ?_
 replace HF := HF.sp 97 (vI ((ns.getD 0 0) + (ns.getD 1 0) + (ns.getD 2 0) : Nat)) rfl (qi (by omega) (by omega))
 refine fp HF 1 13 [(98, vI (IntKind.i64.wrap ((((ns.getD 0 0) + (ns.getD 1 0) + (ns.getD 2 0) : Nat) : Int) + 3)))] fun a HF => ?_
 replace HF := HF.sp 98 (vI ((ns.getD 0 0) + (ns.getD 1 0) + (ns.getD 2 0) + 3 : Nat)) rfl (qi (by omega) (by omega))
 refine fp HF 1 14 [(99, .bool ((q3.length : Int) != (((ns.getD 0 0) + (ns.getD 1 0) + (ns.getD 2 0) + 3 : Nat) : Int)))] fun a HF => ?_
 replace HF := HF.sp 99 (.bool false) rfl (by rw [hq3l]; simp)
 refine fp HF 1 15 [(100, .bool false)] fun a HF => ?_
 refine qb rfl (qe HF rfl (wp_skip (wp_seq (wp_seq (qa ?_)))))
 refine fy HF HM 0 rfl rfl rfl (v := .agg (arrC xs)) (Yl.zg rfl rfl si_a3 (qlx h3) (fun _ h => qd (h.blk (i := 5) rfl))) fun a HF => ?_
 refine fp HF 1 1 [(102, vI 0)] fun a HF => ?_
 refine qb rfl ?_
 obtain ⟨gA3, rfl⟩ := qbj (HM.own (i := 0) rfl) (Nat.lt_of_le_of_lt (Nat.zero_le _) (show 0 < q3.length from show 0 < q3.length by omega))
 refine wp_block ?_
 refine zk (fun mS aS wS => ∃ (i : Nat) (X : Option Addr) (cx : Nat), (i ≤ 3) ∧ ((allB bks nx i).length < q3.length → X = some ⟨gA3, (allB bks nx i).length * 5, none⟩) ∧ (q3.length - (allB bks nx i).length ≤ cx) ∧ mS = 3 - i ∧ Fr aS 207 [] [(102, vI i), (101, .agg (arrC xs)), (100, .bool false), (18, .slice X (q3.length - (allB bks nx i).length) cx), (52, .bool false), (51, vI 3), (50, .agg (arrC xs)), (10, vP g10 0), (9, vI nx), (45, .bool false), (7, vP gw37 0), (31, .bool false), (6, .bool false), (3, vP g3 0), (1, vB lim0)] ∧ Mem w wS (.row (vS gA3 q3.length c3) q3.length (q3.flatMap hbL) 41 5 :: .row (.slice A81 ((outsL (allB bks nx 3)).length) c81) ((outsL (allB bks nx 3)).length) ((outsL (allB bks nx 3)).map B8) 5 1 :: .row (vS g10 3 3) 3 (ns.map I64v) 79 1 :: .row (.slice Aw ((outsL (allB bks nx 3)).length) cw) ((outsL (allB bks nx 3)).length) ((outsL (allB bks nx 3)).map B8) 5 1 :: .blk gw37 #[vI lim, .slice Aw ((outsL (allB bks nx 3)).length) cw] 95 :: .blk g3 (arrC xs) 77 :: (hbF 45 (q3.drop (allB bks nx i).length) ++ ([])))) (m := 3 - 0) ⟨0, some ⟨gA3, 0, none⟩, c3, Nat.zero_le _, (fun _ => by rw [hlz, Nat.zero_mul]), Nat.le_trans (Nat.sub_le _ _) hc3, rfl, HF.sub (by kernel_rfl), HM.picksT 6 [0, 1, 2, 3, 4, 5] (by decide) (by decide) rfl⟩ ?_
 clear HF HM; rintro mS a w_ ⟨i, X, cx, hi3, hX, hcx, rfl, HF, HM⟩
 refine wp_seq (qa ?_)
 refine fp HF 1 0 [(103, .bool (decide ((i : Int) < (3 : Int))))] fun a HF => ?_
 refine qb rfl (wp_seq ?_)
 rcases HF.tf 103 rfl with ⟨hb103, HF⟩ | ⟨hb103, HF⟩
 ·
  have hd103 := of_decide_eq_true hb103
  have hi103 : i < 3 := by omega
  have hix := hi _ (qap Ssm.zero (show i < xs.length by omega))
  have hxo := hT.ok i hi103
  have hbk := hT.back i hi103
  have hsm := qcv hT hi103
  have hil : (xs.getD i Ssm.zero).x.items.length ≤ 200 := by rw [qcu]; exact es200 _
  have hcp := hxo.cpu
  have hopn := hxo.opn
  have hao := qfb (bks := bks) (nx := nx) (k := i) (by omega)
  have halt := qxd (bks := bks) (nx := nx) (k := i) (n := 3) hi103 (by omega)
  rw [hql3] at halt
  have hni := hnk i hi103
  have hbsm := qsj hxo
  have hevl : ((bks.getD i []).flatMap Bk.evs).length = (xs.getD i Ssm.zero).x.items.length := by rw [hbk.evs, qc9]
  obtain rfl := hX (by omega)
  refine qf HF rfl (wp_skip (wp_seq (wp_block (wp_seq (qa ?_)))))
  refine fp HF 1 0 [(104, vI i)] fun a HF => ?_
  refine fy HF HM 1 rfl rfl rfl (v := .agg ((xs.getD i Ssm.zero).x.cells (xs.getD i Ssm.zero).A (xs.getD i Ssm.zero).c (xs.getD i Ssm.zero).A2 (xs.getD i Ssm.zero).c2)) (Yl.qv6 (m := 3) (sz := 6) rfl rfl rfl (by kernel_rfl) hi103 (qsx (by omega))) fun a HF => ?_
  refine fo HF 2 rfl rfl ?_
  refine qr HF HM (cs := #[vB 0, vI 0, vI 0, .slice none 0 0, .slice none 0 0, vW 0]) rfl (by kernel_rfl) rfl (by decide) ?_
  clear HF HM; intro a w21 g21 HF HM
  refine fp HF 1 3 [(20, vI i)] fun a HF => ?_
  refine fo HF 4 rfl rfl ?_
  refine e_sa HF HM 0 rfl rfl rfl rfl rfl si_ss rfl rfl (qvy _ _ _ _ _) ?_
  clear HM; intro w22_4 HM
  refine qb rfl (wp_seq (qa ?_))
  refine fy HF HM 0 rfl rfl rfl (v := .agg ((xs.getD i Ssm.zero).x.cells (xs.getD i Ssm.zero).A (xs.getD i Ssm.zero).c (xs.getD i Ssm.zero).A2 (xs.getD i Ssm.zero).c2)) (Yl.zg rfl rfl si_ss rfl (fun _ h => qd (h.blk (i := 0) rfl))) fun a HF => ?_
  refine fo HF 1 rfl rfl ?_
  refine e_cl HF [.agg ((xs.getD i Ssm.zero).x.cells (xs.getD i Ssm.zero).A (xs.getD i Ssm.zero).c (xs.getD i Ssm.zero).A2 (xs.getD i Ssm.zero).c2)] rfl rfl (qiz (xs.getD i Ssm.zero).x hxo (xs.getD i Ssm.zero).A (xs.getD i Ssm.zero).c (xs.getD i Ssm.zero).A2 (xs.getD i Ssm.zero).c2 _ (HM.old hix.rd) hix.hc (HM.old hix.rd2) hix.hm hix.hm2) ?_
  rintro _ w108 ⟨An, cAn, rfl, hoAn, hcAn, hbw⟩
  refine ⟨_, rfl, ?_⟩
  replace HM := HM.callRow hbw hoAn
  clear HF; intro a HF
  refine fp HF 7 2 [(24, vI ((xs.getD i Ssm.zero).x.opn)), (23, .slice An ((xs.getD i Ssm.zero).x.items.length) cAn), (22, vB ((xs.getD i Ssm.zero).x.cpu % 64 : Nat))] fun a HF => ?_
  refine qb rfl (wp_seq (qa ?_))
  refine fp HF 1 0 [(25, vI 0)] fun a HF => ?_
  refine qb rfl (wp_seq (wp_seq (qa ?_)))
  refine fp HF 2 0 [(113, vI i), (112, .slice (some ⟨gA3, (allB bks nx i).length * 5, none⟩) (q3.length - (allB bks nx i).length) cx)] fun a HF => ?_
  refine fy HF HM 2 rfl rfl rfl (v := vP g10 (i * 1)) ((Yl.zz (ad := ⟨g10, 0, none⟩) (m := 3) (y := i) (sz := 1) rfl rfl rfl (by kernel_rfl) (by omega)).as (by rw [Addr.add_mid, Nat.zero_add])) fun a HF => ?_
  refine fy HF HM 3 rfl rfl rfl (v := vI (ns.getD i 0)) (Yl.qh rfl rfl (by kernel_rfl) (fun _ h => h.qgg (i := 4) rfl (k := i) (qab (F := I64v) (k := i) (x := (ns.getD i 0)) ((getD_at 0 (by omega)))))) fun a HF => ?_
  replace HF := HF.sp 115 (vI ((bks.getD i []).length)) rfl (by rw [hni])
  refine fy HF HM 4 rfl rfl rfl (v := .slice (some ⟨gA3, (allB bks nx i).length * 5, none⟩) ((bks.getD i []).length) cx) (Yl.qbq qgc (j := (bks.getD i []).length) rfl rfl rfl (by omega)) fun a HF => ?_
  refine fy HF HM 5 rfl rfl rfl (Yl.len rfl rfl (by kernel_rfl)) fun a HF => ?_
  refine fp HF 1 6 [(118, vI 0)] fun a HF => ?_
  refine qb rfl ?_
  replace HF := HF.as (t := 25) (u := vI (atN (bks.getD i []) 0 : Nat)) rfl (by unfold atN; rfl)
  replace HF := HF.as (t := 24) (u := vI (((xs.getD i Ssm.zero).x.opn : Int) + sumI (befI ((xs.getD i Ssm.zero).x.items.take (atN (bks.getD i []) 0))) - lostN (bks.getD i []) (0))) rfl (by rw [qs8])
  refine wp_block ?_
  refine zk (fun mS aS wS => ∃ (j : Nat), (j ≤ (bks.getD i []).length) ∧ mS = (bks.getD i []).length - j ∧ Fr aS 207 [] [(24, vI (((xs.getD i Ssm.zero).x.opn : Int) + sumI (befI ((xs.getD i Ssm.zero).x.items.take (atN (bks.getD i []) j))) - lostN (bks.getD i []) (j))), (25, vI (atN (bks.getD i []) j : Nat)), (118, vI j), (117, vI ((bks.getD i []).length : Nat)), (116, .slice (some ⟨gA3, (allB bks nx i).length * 5, none⟩) ((bks.getD i []).length) cx), (23, .slice An ((xs.getD i Ssm.zero).x.items.length) cAn), (22, vB ((xs.getD i Ssm.zero).x.cpu % 64 : Nat)), (20, vI i), (21, vP g21 0), (103, .bool true), (102, vI i), (101, .agg (arrC xs)), (100, .bool false), (18, .slice (some ⟨gA3, (allB bks nx i).length * 5, none⟩) (q3.length - (allB bks nx i).length) cx), (52, .bool false), (51, vI 3), (50, .agg (arrC xs)), (10, vP g10 0), (9, vI nx), (45, .bool false), (7, vP gw37 0), (31, .bool false), (6, .bool false), (3, vP g3 0), (1, vB lim0)] ∧ Mem w wS (.row (.slice An ((xs.getD i Ssm.zero).x.items.length) cAn) ((xs.getD i Ssm.zero).x.items.length) ((xs.getD i Ssm.zero).x.items.flatMap itL) 47 12 :: .blk g21 ((xs.getD i Ssm.zero).x.cells (xs.getD i Ssm.zero).A (xs.getD i Ssm.zero).c (xs.getD i Ssm.zero).A2 (xs.getD i Ssm.zero).c2) 31 :: .row (vS gA3 q3.length c3) q3.length (q3.flatMap hbL) 41 5 :: .row (.slice A81 ((outsL (allB bks nx 3)).length) c81) ((outsL (allB bks nx 3)).length) ((outsL (allB bks nx 3)).map B8) 5 1 :: .row (vS g10 3 3) 3 (ns.map I64v) 79 1 :: .row (.slice Aw ((outsL (allB bks nx 3)).length) cw) ((outsL (allB bks nx 3)).length) ((outsL (allB bks nx 3)).map B8) 5 1 :: .blk gw37 #[vI lim, .slice Aw ((outsL (allB bks nx 3)).length) cw] 95 :: .blk g3 (arrC xs) 77 :: (hbF 45 (q3.drop ((allB bks nx i).length + j)) ++ ([])))) (m := (bks.getD i []).length - 0) ⟨0, Nat.zero_le _, rfl, HF.sub (by kernel_rfl), HM.picksT 8 [0, 1, 2, 3, 4, 5, 6, 7] (by decide) (by decide) rfl⟩ ?_
  clear HF HM; rintro mS a w_ ⟨j, hj, rfl, HF, HM⟩
  refine wp_seq (qa ?_)
  refine fp HF 1 0 [(119, .bool (decide ((j : Int) < (((bks.getD i []).length : Nat) : Int))))] fun a HF => ?_
  refine qb rfl (wp_seq ?_)
  rcases HF.tf 119 rfl with ⟨hb119, HF⟩ | ⟨hb119, HF⟩
  ·
   have hd119 := of_decide_eq_true hb119
   have hj119 : j < (bks.getD i []).length := by omega
   have hxb : (q3.getD ((allB bks nx i).length + j) Hb.zero).b = (bks.getD i []).getD j Bk.zero := (hb_at hq3 (by omega)).trans (qxc hi103 (by omega) hj119)
   replace HM := Mem.qv5 (a := [.row (.slice An ((xs.getD i Ssm.zero).x.items.length) cAn) ((xs.getD i Ssm.zero).x.items.length) ((xs.getD i Ssm.zero).x.items.flatMap itL) 47 12, .blk g21 ((xs.getD i Ssm.zero).x.cells (xs.getD i Ssm.zero).A (xs.getD i Ssm.zero).c (xs.getD i Ssm.zero).A2 (xs.getD i Ssm.zero).c2) 31, .row (vS gA3 q3.length c3) q3.length (q3.flatMap hbL) 41 5, .row (.slice A81 ((outsL (allB bks nx 3)).length) c81) ((outsL (allB bks nx 3)).length) ((outsL (allB bks nx 3)).map B8) 5 1, .row (vS g10 3 3) 3 (ns.map I64v) 79 1, .row (.slice Aw ((outsL (allB bks nx 3)).length) cw) ((outsL (allB bks nx 3)).length) ((outsL (allB bks nx 3)).map B8) 5 1, .blk gw37 #[vI lim, .slice Aw ((outsL (allB bks nx 3)).length) cw] 95, .blk g3 (arrC xs) 77]) (q := q3) (k := (allB bks nx i).length + j) (b := []) HM (by omega)
   obtain ⟨⟨b, Ab, cb⟩, hxx⟩ : ∃ z, (q3.getD ((allB bks nx i).length + j) Hb.zero) = z := ⟨_, rfl⟩
   rw [hxx] at HM hxb
   have hxb : b = (bks.getD i []).getD j Bk.zero := hxb
   have hba := hbk.all b (by rw [hxb]; exact qap Bk.zero hj119)
   have hale := qv1 hj119
   rw [← hxb, hevl] at hale
   have hats := qn0 hj119
   rw [← hxb] at hats
   have hlos := qiu hj119
   rw [← hxb] at hlos
   have hlb := qe9 (bs := (bks.getD i [])) j (fun x hx => (hbk.all x hx).2.2.2.2.2)
   have hlb1 := qe9 (bs := (bks.getD i [])) (j + 1) (fun x hx => (hbk.all x hx).2.2.2.2.2)
   rw [hbk.lost] at hlb hlb1
   replace HM : Mem w _ (.row (.slice Ab b.evs.length cb) b.evs.length (b.evs.flatMap evL) 45 11 :: .row (.slice An ((xs.getD i Ssm.zero).x.items.length) cAn) ((xs.getD i Ssm.zero).x.items.length) ((xs.getD i Ssm.zero).x.items.flatMap itL) 47 12 :: .blk g21 ((xs.getD i Ssm.zero).x.cells (xs.getD i Ssm.zero).A (xs.getD i Ssm.zero).c (xs.getD i Ssm.zero).A2 (xs.getD i Ssm.zero).c2) 31 :: .row (vS gA3 q3.length c3) q3.length (q3.flatMap hbL) 41 5 :: .row (.slice A81 ((outsL (allB bks nx 3)).length) c81) ((outsL (allB bks nx 3)).length) ((outsL (allB bks nx 3)).map B8) 5 1 :: .row (vS g10 3 3) 3 (ns.map I64v) 79 1 :: .row (.slice Aw ((outsL (allB bks nx 3)).length) cw) ((outsL (allB bks nx 3)).length) ((outsL (allB bks nx 3)).map B8) 5 1 :: .blk gw37 #[vI lim, .slice Aw ((outsL (allB bks nx 3)).length) cw] 95 :: .blk g3 (arrC xs) 77 :: (hbF 45 (q3.drop ((allB bks nx i).length + j + 1)) ++ ([]))) := HM
   refine qf HF rfl (wp_skip (wp_seq (wp_block (wp_seq (qa ?_)))))
   refine fy HF HM 0 rfl rfl rfl (v := vP gA3 ((allB bks nx i).length * 5 + j * 5)) (Yl.ix gA3 ((allB bks nx i).length * 5) j 5 rfl rfl rfl) fun a HF => ?_
   refine fy HF HM 1 rfl rfl rfl (v := .agg (b.cells Ab cb)) (Yl.zg rfl rfl si_bk rfl (fun _ h => by have h1 := h.qff qdp (i := 3) rfl (k := (allB bks nx i).length + j) (x := (q3.getD ((allB bks nx i).length + j) Hb.zero)) (getD_at Hb.zero (by omega)); rw [Nat.add_mul, hxx] at h1; exact h1)) fun a HF => ?_
   refine fo HF 2 rfl rfl ?_
   refine qr HF HM (cs := #[vB 0, vB 0, vI 0, vI 0, .slice none 0 0]) rfl (by kernel_rfl) rfl (by decide) ?_
   clear HF HM; intro a w27 g27 HF HM
   refine fo HF 3 rfl rfl ?_
   refine e_sa HF HM 0 rfl rfl rfl rfl rfl si_bk rfl rfl (qb3 _ _ _) ?_
   clear HM; intro w27_3 HM
   refine qb rfl (wp_seq (wp_seq (qa ?_)))
   refine fp HF 1 0 [(122, vP g27 0)] fun a HF => ?_
   refine fy HF HM 1 rfl rfl rfl (v := vB b.kind) (Yl.qh rfl rfl (by kernel_rfl) (fun _ h => h.cell (i := 0) rfl (rfl))) fun a HF => ?_
   refine fp HF 1 2 [(124, .bool ((b.kind : Int) != (1 : Int)))] fun a HF => ?_
   replace HF := HF.sp 124 (.bool false) rfl (by rw [hba.2.2.1]; rfl)
   refine fp HF 2 3 [(126, vP g27 1), (125, .bool false)] fun a HF => ?_
   refine fy HF HM 5 rfl rfl rfl (v := vB b.cpu) (Yl.qh rfl rfl (by kernel_rfl) (fun _ h => h.cell (i := 0) rfl (rfl))) fun a HF => ?_
   refine fp HF 2 6 [(129, .bool ((b.cpu : Int) != (((xs.getD i Ssm.zero).x.cpu % 64 : Nat) : Int)))] fun a HF => ?_
   replace HF := HF.sp 129 (.bool false) rfl (by rw [hba.2.2.2.1]; simp)
   refine fp HF 4 8 [(133, vP g27 4), (132, vI (atN (bks.getD i []) j : Nat)), (131, .bool false)] fun a HF => ?_
   refine fy HF HM 12 rfl rfl rfl (v := .slice Ab b.evs.length cb) (Yl.qh rfl rfl (by kernel_rfl) (fun _ h => h.cell (i := 0) rfl (rfl))) fun a HF => ?_
   refine fy HF HM 13 rfl rfl rfl (Yl.len rfl rfl (by kernel_rfl)) fun a HF => ?_
   refine fp HF 1 14 [(136, vI (IntKind.i64.wrap (((atN (bks.getD i []) j : Nat) : Int) + (b.evs.length : Int))))] fun a HF => ?_
   replace HF := HF.sp 136 (vI (atN (bks.getD i []) j + b.evs.length : Nat)) rfl (qi (by omega) (by omega))
   refine fp HF 1 15 [(137, .slice An ((xs.getD i Ssm.zero).x.items.length) cAn)] fun a HF => ?_
   refine fy HF HM 16 rfl rfl rfl (Yl.len rfl rfl (by kernel_rfl)) fun a HF => ?_
   refine fp HF 1 17 [(139, .bool (decide (((atN (bks.getD i []) j + b.evs.length : Nat) : Int) > (((xs.getD i Ssm.zero).x.items.length : Nat) : Int))))] fun a HF => ?_
   replace HF := HF.sp 139 (.bool false) rfl (by rw [decide_eq_false (by omega)])
   refine fp HF 3 18 [(142, vP g27 4), (141, .bool false)] fun a HF => ?_
   refine fy HF HM 21 rfl rfl rfl (v := .slice Ab b.evs.length cb) (Yl.qh rfl rfl (by kernel_rfl) (fun _ h => h.cell (i := 0) rfl (rfl))) fun a HF => ?_
   refine fy HF HM 22 rfl rfl rfl (Yl.len rfl rfl (by kernel_rfl)) fun a HF => ?_
   refine fp HF 2 23 [(146, vI (IntKind.i64.wrap (lim0 : Int)))] fun a HF => ?_
   replace HF := HF.sp 146 (vI lim0) rfl (qi rfl (by omega))
   refine fp HF 1 25 [(147, vI (Int.tmod (lim0 : Int) 100))] fun a HF => ?_
   replace HF := HF.sp 147 (vI (lim0 % 100 : Nat)) rfl (qao .i64 _ 100)
   refine fp HF 1 26 [(148, vI (IntKind.i64.wrap (1 + ((lim0 % 100 : Nat) : Int))))] fun a HF => ?_
   replace HF := HF.sp 148 (vI lim) rfl (by rw [hlim]; exact qi (by omega) (by omega))
   refine fp HF 1 27 [(149, .bool (decide ((b.evs.length : Int) > (lim : Int))))] fun a HF => ?_
   replace HF := HF.sp 149 (.bool false) rfl (by rw [decide_eq_false (by omega)])
   refine fp HF 1 28 [(150, .bool false)] fun a HF => ?_
   refine qb rfl (qe HF rfl (wp_skip (wp_seq (wp_seq (qa ?_)))))
   refine fp HF 1 0 [(151, vP g27 4)] fun a HF => ?_
   refine fy HF HM 1 rfl rfl rfl (v := .slice Ab b.evs.length cb) (Yl.qh rfl rfl (by kernel_rfl) (fun _ h => h.cell (i := 0) rfl (rfl))) fun a HF => ?_
   refine fy HF HM 2 rfl rfl rfl (Yl.len rfl rfl (by kernel_rfl)) fun a HF => ?_
   refine fp HF 1 3 [(154, vI 0)] fun a HF => ?_
   refine qb rfl (wp_block ?_)
   refine zk (fun mS aS wS => ∃ (k2 : Nat), (k2 ≤ b.evs.length) ∧ mS = b.evs.length - k2 ∧ Fr aS 207 [] [(154, vI k2), (153, vI b.evs.length), (152, .slice Ab b.evs.length cb), (150, .bool false), (27, vP g27 0), (119, .bool true), (24, vI (((xs.getD i Ssm.zero).x.opn : Int) + sumI (befI ((xs.getD i Ssm.zero).x.items.take (atN (bks.getD i []) j + k2))) - lostN (bks.getD i []) (j))), (25, vI (atN (bks.getD i []) j + k2 : Nat)), (118, vI j), (117, vI ((bks.getD i []).length : Nat)), (116, .slice (some ⟨gA3, (allB bks nx i).length * 5, none⟩) ((bks.getD i []).length) cx), (23, .slice An ((xs.getD i Ssm.zero).x.items.length) cAn), (22, vB ((xs.getD i Ssm.zero).x.cpu % 64 : Nat)), (20, vI i), (21, vP g21 0), (103, .bool true), (102, vI i), (101, .agg (arrC xs)), (100, .bool false), (18, .slice (some ⟨gA3, (allB bks nx i).length * 5, none⟩) (q3.length - (allB bks nx i).length) cx), (52, .bool false), (51, vI 3), (50, .agg (arrC xs)), (10, vP g10 0), (9, vI nx), (45, .bool false), (7, vP gw37 0), (31, .bool false), (6, .bool false), (3, vP g3 0), (1, vB lim0)] ∧ Mem w wS (.blk g27 (b.cells Ab cb) 41 :: .row (.slice Ab b.evs.length cb) b.evs.length (b.evs.flatMap evL) 45 11 :: .row (.slice An ((xs.getD i Ssm.zero).x.items.length) cAn) ((xs.getD i Ssm.zero).x.items.length) ((xs.getD i Ssm.zero).x.items.flatMap itL) 47 12 :: .blk g21 ((xs.getD i Ssm.zero).x.cells (xs.getD i Ssm.zero).A (xs.getD i Ssm.zero).c (xs.getD i Ssm.zero).A2 (xs.getD i Ssm.zero).c2) 31 :: .row (vS gA3 q3.length c3) q3.length (q3.flatMap hbL) 41 5 :: .row (.slice A81 ((outsL (allB bks nx 3)).length) c81) ((outsL (allB bks nx 3)).length) ((outsL (allB bks nx 3)).map B8) 5 1 :: .row (vS g10 3 3) 3 (ns.map I64v) 79 1 :: .row (.slice Aw ((outsL (allB bks nx 3)).length) cw) ((outsL (allB bks nx 3)).length) ((outsL (allB bks nx 3)).map B8) 5 1 :: .blk gw37 #[vI lim, .slice Aw ((outsL (allB bks nx 3)).length) cw] 95 :: .blk g3 (arrC xs) 77 :: (hbF 45 (q3.drop ((allB bks nx i).length + j + 1)) ++ ([])))) (m := b.evs.length - 0) ⟨0, Nat.zero_le _, rfl, HF.sub (by kernel_rfl), HM.picksT 10 [0, 1, 2, 3, 4, 5, 6, 7, 8, 9] (by decide) (by decide) rfl⟩ ?_
   clear HF HM; rintro mS a w_ ⟨k2, hk2, rfl, HF, HM⟩
   refine wp_seq (qa ?_)
   refine fp HF 1 0 [(155, .bool (decide ((k2 : Int) < (b.evs.length : Int))))] fun a HF => ?_
   refine qb rfl (wp_seq ?_)
   rcases HF.tf 155 rfl with ⟨hb155, HF⟩ | ⟨hb155, HF⟩
   ·
    have hd155 := of_decide_eq_true hb155
    have hk155 : k2 < b.evs.length := by omega
    have hbs := qr4 (l := (xs.getD i Ssm.zero).x.items) (j := atN (bks.getD i []) j + k2) (by omega)
    have hie := qdt hxo _ (qap It.zero (show atN (bks.getD i []) j + k2 < (xs.getD i Ssm.zero).x.items.length by omega))
    have hgp := (qbf hxo).part (atN (bks.getD i []) j + k2)
    have hgp1 := (qbf hxo).part (atN (bks.getD i []) j + k2 + 1)
    have heq : b.evs.getD k2 Ev.zero = ((xs.getD i Ssm.zero).x.items.getD (atN (bks.getD i []) j + k2) It.zero).e := by rw [hxb, qn1 hj119 (by rw [← hxb]; exact hk155), hbk.evs]; exact qxi (by omega)
    obtain ⟨gAn, rfl⟩ := qbj (HM.own (i := 2) rfl) (Nat.lt_of_le_of_lt (Nat.zero_le _) (show atN (bks.getD i []) j + k2 < (xs.getD i Ssm.zero).x.items.length from show atN (bks.getD i []) j + k2 < (xs.getD i Ssm.zero).x.items.length by omega))
    refine qf HF rfl (wp_skip (wp_seq (wp_block (wp_seq (qa ?_)))))
    obtain ⟨gAb, rfl⟩ := qbj (HM.own (i := 1) rfl) (Nat.lt_of_le_of_lt (Nat.zero_le _) (show k2 < b.evs.length from by omega))
    refine fy HF HM 0 rfl rfl rfl (v := vP gAb (k2 * 11)) (Yl.ix0 gAb k2 11 rfl rfl rfl) fun a HF => ?_
    refine fy HF HM 1 rfl rfl rfl (v := .agg ((b.evs.getD k2 Ev.zero).cells)) (Yl.zg rfl rfl ⟨(by kernel_rfl), (by kernel_rfl)⟩ rfl (fun _ h => h.qff zr (i := 1) rfl ((getD_at Ev.zero (k := k2) (by first | omega | (simp; omega)))))) fun a HF => ?_
    refine fo HF 2 rfl rfl ?_
    refine qr HF HM (cs := #[vI 0, vI 0, vB 0, vB 0, vI 0, vI 0, vI 0, vI 0, vI 0, vQ 0, vI 0]) rfl (by kernel_rfl) rfl (by decide) ?_
    clear HF HM; intro a w29 g29 HF HM
    refine fo HF 3 rfl rfl ?_
    refine e_sa HF HM 0 rfl rfl rfl rfl rfl ⟨(by kernel_rfl), (by kernel_rfl)⟩ rfl rfl (qaa (b.evs.getD k2 Ev.zero)) ?_
    clear HM; intro w32_3 HM
    refine qb rfl (wp_seq (wp_seq ?_))
    refine qrc HM (.blk g29 ((b.evs.getD k2 Ev.zero).cells) 45 :: .blk g27 (b.cells (some ⟨gAb, 0, none⟩) cb) 41 :: .row (vS gAb b.evs.length cb) b.evs.length (b.evs.flatMap evL) 45 11 :: .row (vS gAn ((xs.getD i Ssm.zero).x.items.length) cAn) ((xs.getD i Ssm.zero).x.items.length) ((xs.getD i Ssm.zero).x.items.flatMap itL) 47 12 :: .blk g21 ((xs.getD i Ssm.zero).x.cells (xs.getD i Ssm.zero).A (xs.getD i Ssm.zero).c (xs.getD i Ssm.zero).A2 (xs.getD i Ssm.zero).c2) 31 :: .row (vS gA3 q3.length c3) q3.length (q3.flatMap hbL) 41 5 :: .row (.slice A81 ((outsL (allB bks nx 3)).length) c81) ((outsL (allB bks nx 3)).length) ((outsL (allB bks nx 3)).map B8) 5 1 :: .row (vS g10 3 3) 3 (ns.map I64v) 79 1 :: .row (.slice Aw ((outsL (allB bks nx 3)).length) cw) ((outsL (allB bks nx 3)).length) ((outsL (allB bks nx 3)).map B8) 5 1 :: .blk gw37 #[vI lim, .slice Aw ((outsL (allB bks nx 3)).length) cw] 95 :: .blk g3 (arrC xs) 77 :: (hbF 45 (q3.drop ((allB bks nx i).length + j + 1)) ++ ([]))) 11 [0, 1, 2, 3, 4, 5, 6, 7, 8, 9, 10] [] fun HM HS => ?_
    refine ap HF (fun _ => HS) [1, 2] #[false, true, true, false, false, false, false] [(160, vI (atN (bks.getD i []) j + k2 : Nat)), (159, vS gAn ((xs.getD i Ssm.zero).x.items.length) cAn)] fun a HF => ?_
    refine ay HF HS 0 rfl rfl rfl (v := .agg ((b.evs.getD k2 Ev.zero).cells)) (Yl.zg rfl rfl ⟨(by kernel_rfl), (by kernel_rfl)⟩ rfl (fun _ h => qd (h.blk (i := 0) rfl))) fun a HF => ?_
    refine ay HF HS 3 rfl rfl rfl (v := vP gAn ((atN (bks.getD i []) j + k2) * 12)) (Yl.ix0 gAn (atN (bks.getD i []) j + k2) 12 rfl rfl rfl) fun a HF => ?_
    refine ap HF (fun _ => HS) [4] #[true, true, true, true, true, false, false] [(162, vP gAn ((atN (bks.getD i []) j + k2) * 12))] fun a HF => ?_
    refine ay HF HS 5 rfl rfl rfl (v := .agg (((xs.getD i Ssm.zero).x.items.getD (atN (bks.getD i []) j + k2) It.zero).e.cells)) (Yl.zg rfl rfl ⟨(by kernel_rfl), (by kernel_rfl)⟩ rfl (fun _ h => h.qyv qb5 (i := 3) rfl (k := (atN (bks.getD i []) j + k2)) (j := 0) (m := 11) (x := ((xs.getD i Ssm.zero).x.items.getD (atN (bks.getD i []) j + k2) It.zero)) ((getD_at It.zero (k := (atN (bks.getD i []) j + k2)) (by first | omega | (simp; omega)))) rfl)) fun a HF => ?_
    refine ay HF HS 6 rfl rfl rfl (v := .bool (!(decide ((b.evs.getD k2 Ev.zero) = ((xs.getD i Ssm.zero).x.items.getD (atN (bks.getD i []) j + k2) It.zero).e)))) (Yl.qyr (x := (b.evs.getD k2 Ev.zero)) (y := ((xs.getD i Ssm.zero).x.items.getD (atN (bks.getD i []) j + k2) It.zero).e) rfl rfl rfl (by kernel_rfl)) fun a HF => ?_
    replace HF := HF.sp 164 (.bool false) rfl (by rw [decide_eq_true heq]; rfl)
    refine qn (by kernel_rfl) ?_
    refine qe HF rfl (wp_skip (wp_seq (qa ?_)))
    refine fp HF 3 0 [(167, vI (atN (bks.getD i []) j + k2 : Nat)), (166, vS gAn ((xs.getD i Ssm.zero).x.items.length) cAn), (165, vI (((xs.getD i Ssm.zero).x.opn : Int) + sumI (befI ((xs.getD i Ssm.zero).x.items.take (atN (bks.getD i []) j + k2))) - lostN (bks.getD i []) (j)))] fun a HF => ?_
    refine fy HF HM 3 rfl rfl rfl (v := vP gAn ((atN (bks.getD i []) j + k2) * 12)) (Yl.ix0 gAn (atN (bks.getD i []) j + k2) 12 rfl rfl rfl) fun a HF => ?_
    refine fp HF 1 4 [(169, vP gAn ((atN (bks.getD i []) j + k2) * 12 + 11))] fun a HF => ?_
    refine fy HF HM 5 rfl rfl rfl (v := vI (((xs.getD i Ssm.zero).x.items.getD (atN (bks.getD i []) j + k2) It.zero).before)) (Yl.qh rfl rfl (by kernel_rfl) (fun _ h => h.qdv qb5 (i := 3) rfl (k := (atN (bks.getD i []) j + k2)) (off := 11) (x := ((xs.getD i Ssm.zero).x.items.getD (atN (bks.getD i []) j + k2) It.zero)) ((getD_at It.zero (k := (atN (bks.getD i []) j + k2)) (by first | omega | (simp; omega)))) rfl)) fun a HF => ?_
    refine fp HF 1 6 [(171, vI (IntKind.i64.wrap ((((xs.getD i Ssm.zero).x.opn : Int) + sumI (befI ((xs.getD i Ssm.zero).x.items.take (atN (bks.getD i []) j + k2))) - lostN (bks.getD i []) (j)) + (((xs.getD i Ssm.zero).x.items.getD (atN (bks.getD i []) j + k2) It.zero).before))))] fun a HF => ?_
    replace HF := HF.sp 171 (vI (((xs.getD i Ssm.zero).x.opn : Int) + sumI (befI ((xs.getD i Ssm.zero).x.items.take (atN (bks.getD i []) j + k2 + 1))) - lostN (bks.getD i []) (j))) rfl (by rw [hbs]; refine (qg0 ⟨by omega, by omega⟩).trans (congrArg _ ?_); omega)
    refine fp HF 1 7 [(24, vI (((xs.getD i Ssm.zero).x.opn : Int) + sumI (befI ((xs.getD i Ssm.zero).x.items.take (atN (bks.getD i []) j + k2 + 1))) - lostN (bks.getD i []) (j)))] fun a HF => ?_
    refine qb rfl (qa ?_)
    refine fp HF 2 0 [(173, vI (IntKind.i64.wrap (((atN (bks.getD i []) j + k2 : Nat) : Int) + 1)))] fun a HF => ?_
    replace HF := HF.sp 173 (vI (atN (bks.getD i []) j + k2 + 1 : Nat)) rfl (qi (by omega) (by omega))
    refine fp HF 1 2 [(25, vI (atN (bks.getD i []) j + k2 + 1 : Nat))] fun a HF => ?_
    refine qb rfl (qa ?_)
    refine fp HF 1 0 [(174, vI (IntKind.i64.wrap ((k2 : Int) + 1)))] fun a HF => ?_
    replace HF := HF.sp 174 (vI (k2 + 1 : Nat)) rfl (qi (by omega) (by omega))
    refine fp HF 1 1 [(154, vI (k2 + 1 : Nat))] fun a HF => ?_
    refine qb rfl ?_
    exact ⟨_, (by omega), k2 + 1, by omega, rfl, HF.sub (by kernel_rfl), HM.picksT 11 [1, 2, 3, 4, 5, 6, 7, 8, 9, 10] (by decide) (by decide) rfl⟩
   have hd155 := of_decide_eq_false hb155
   have hke : k2 = b.evs.length := by omega
   subst hke
   have hgpe := (qbf hxo).part (atN (bks.getD i []) j + b.evs.length)
   have hgpo := (qbf hxo).part (atN (bks.getD i []) j)
   refine qe HF rfl (wp_exit (qa ?_))
   refine fp HF 2 0 [(176, vP g27 2), (175, vI (((xs.getD i Ssm.zero).x.opn : Int) + sumI (befI ((xs.getD i Ssm.zero).x.items.take (atN (bks.getD i []) j + b.evs.length))) - lostN (bks.getD i []) (j)))] fun a HF => ?_
   refine fy HF HM 2 rfl rfl rfl (v := vI b.lost) (Yl.qh rfl rfl (by kernel_rfl) (fun _ h => h.cell (i := 0) rfl (rfl))) fun a HF => ?_
   refine fp HF 1 3 [(178, vI (IntKind.i64.wrap ((((xs.getD i Ssm.zero).x.opn : Int) + sumI (befI ((xs.getD i Ssm.zero).x.items.take (atN (bks.getD i []) j + b.evs.length))) - lostN (bks.getD i []) (j)) - b.lost)))] fun a HF => ?_
   replace HF := HF.sp 178 (vI (((xs.getD i Ssm.zero).x.opn : Int) + sumI (befI ((xs.getD i Ssm.zero).x.items.take (atN (bks.getD i []) (j + 1)))) - lostN (bks.getD i []) (j + 1))) rfl (by rw [hlos, hats]; refine (qg0 ⟨by omega, by omega⟩).trans (congrArg _ ?_); omega)
   refine fp HF 1 4 [(24, vI (((xs.getD i Ssm.zero).x.opn : Int) + sumI (befI ((xs.getD i Ssm.zero).x.items.take (atN (bks.getD i []) (j + 1)))) - lostN (bks.getD i []) (j + 1)))] fun a HF => ?_
   refine qb rfl ?_
   replace HF := HF.as (t := 25) (u := vI (atN (bks.getD i []) (j + 1) : Nat)) rfl (by rw [hats])
   refine qa ?_
   refine fp HF 1 0 [(179, vI (IntKind.i64.wrap ((j : Int) + 1)))] fun a HF => ?_
   replace HF := HF.sp 179 (vI (j + 1 : Nat)) rfl (qi (by omega) (by omega))
   refine fp HF 1 1 [(118, vI (j + 1 : Nat))] fun a HF => ?_
   refine qb rfl ?_
   exact ⟨_, (by omega), j + 1, by omega, rfl, HF.sub (by kernel_rfl), HM.picksT 10 [2, 3, 4, 5, 6, 7, 8, 9] (by decide) (by decide) rfl⟩
  have hd119 := of_decide_eq_false hb119
  have hje : j = (bks.getD i []).length := by omega
  have hata := qsw (bks.getD i [])
  rw [hevl] at hata
  have hatj : atN (bks.getD i []) j = (xs.getD i Ssm.zero).x.items.length := by rw [hje]; exact hata
  have hlj : lostN (bks.getD i []) j = sumI (befI (xs.getD i Ssm.zero).x.items) + ((xs.getD i Ssm.zero).x.opn : Int) := by rw [hje]; exact hbk.lost
  have hbt : sumI (befI ((xs.getD i Ssm.zero).x.items.take (atN (bks.getD i []) j))) = sumI (befI (xs.getD i Ssm.zero).x.items) := by rw [hatj, List.take_length]
  refine qe HF rfl (wp_exit (wp_seq (wp_seq (qa ?_))))
  refine fp HF 2 0 [(181, .slice An ((xs.getD i Ssm.zero).x.items.length) cAn), (180, vI (atN (bks.getD i []) j : Nat))] fun a HF => ?_
  refine fy HF HM 2 rfl rfl rfl (Yl.len rfl rfl (by kernel_rfl)) fun a HF => ?_
  refine fp HF 1 3 [(183, .bool (((atN (bks.getD i []) j : Nat) : Int) != (((xs.getD i Ssm.zero).x.items.length : Nat) : Int)))] fun a HF => ?_
  replace HF := HF.sp 183 (.bool false) rfl (by rw [hatj]; simp)
  refine fp HF 3 4 [(186, .bool (((((xs.getD i Ssm.zero).x.opn : Int) + sumI (befI ((xs.getD i Ssm.zero).x.items.take (atN (bks.getD i []) j))) - lostN (bks.getD i []) (j)) : Int) != (0 : Int))), (184, .bool false)] fun a HF => ?_
  replace HF := HF.sp 186 (.bool false) rfl (by rw [hbt, hlj]; simp; omega)
  refine fp HF 4 7 [(190, vI i), (189, .slice (some ⟨gA3, (allB bks nx i).length * 5, none⟩) (q3.length - (allB bks nx i).length) cx), (188, .bool false)] fun a HF => ?_
  refine fy HF HM 11 rfl rfl rfl (v := vP g10 (i * 1)) ((Yl.zz (ad := ⟨g10, 0, none⟩) (m := 3) (y := i) (sz := 1) rfl rfl rfl (by kernel_rfl) (by omega)).as (by rw [Addr.add_mid, Nat.zero_add])) fun a HF => ?_
  refine fy HF HM 12 rfl rfl rfl (v := vI (ns.getD i 0)) (Yl.qh rfl rfl (by kernel_rfl) (fun _ h => h.qgg (i := 4) rfl (k := i) (qab (F := I64v) (k := i) (x := (ns.getD i 0)) ((getD_at 0 (by omega)))))) fun a HF => ?_
  replace HF := HF.sp 192 (vI ((bks.getD i []).length)) rfl (by rw [hni])
  refine fy HF HM 13 rfl rfl rfl (v := vP gA3 ((allB bks nx i).length * 5 + ((bks.getD i []).length) * 5)) (Yl.ix gA3 ((allB bks nx i).length * 5) ((bks.getD i []).length) 5 rfl rfl rfl) fun a HF => ?_
  refine fy HF HM 14 rfl rfl rfl (v := .agg ((endB nx).cells (q3.getD ((allB bks nx i).length + (bks.getD i []).length) Hb.zero).A (q3.getD ((allB bks nx i).length + (bks.getD i []).length) Hb.zero).c)) (Yl.zg rfl rfl si_bk rfl (fun _ h => by have h1 := h.qff qdp (i := 2) rfl (k := (allB bks nx i).length + (bks.getD i []).length) (x := (q3.getD ((allB bks nx i).length + (bks.getD i []).length) Hb.zero)) (getD_at Hb.zero (by omega)); rw [Nat.add_mul] at h1; exact qs9 h1 ((hb_at hq3 (by omega)).trans (qu5 hi103 (by omega))))) fun a HF => ?_
  refine fp HF 1 15 [(195, vI nx)] fun a HF => ?_
  refine fy HF HM 16 rfl rfl rfl (v := .agg #[vB 2, vB 0, vI 0, vI nx, .slice none 0 0]) (Yl.build (vs := [(0, vB 2), (3, vI nx)]) rfl (by kernel_rfl) (by kernel_rfl)) fun a HF => ?_
  refine fo HF 17 rfl rfl ?_
  refine e_is HF HM [.agg ((endB nx).cells (q3.getD ((allB bks nx i).length + (bks.getD i []).length) Hb.zero).A (q3.getD ((allB bks nx i).length + (bks.getD i []).length) Hb.zero).c), .agg #[vB 2, vB 0, vI 0, vI nx, .slice none 0 0]] (.bool (decide (endB nx = endB nx))) rfl rfl (quh (endB nx) (endB nx) ((q3.getD ((allB bks nx i).length + (bks.getD i []).length) Hb.zero).A) none (q3.getD ((allB bks nx i).length + (bks.getD i []).length) Hb.zero).c 0 _ Rd.nil Rd.nil (Nat.zero_le _)) fun w197 hbw HM a HF => ?_
  refine fp HF 1 18 [(198, .bool (!(decide (endB nx = endB nx))))] fun a HF => ?_
  replace HF := HF.sp 198 (.bool false) rfl (by rw [decide_eq_true rfl]; rfl)
  refine fp HF 1 19 [(199, .bool false)] fun a HF => ?_
  refine qb rfl (qe HF rfl (wp_skip (qa ?_)))
  refine fp HF 2 0 [(201, vI i), (200, .slice (some ⟨gA3, (allB bks nx i).length * 5, none⟩) (q3.length - (allB bks nx i).length) cx)] fun a HF => ?_
  refine fy HF HM 2 rfl rfl rfl (v := vP g10 (i * 1)) ((Yl.zz (ad := ⟨g10, 0, none⟩) (m := 3) (y := i) (sz := 1) rfl rfl rfl (by kernel_rfl) (by omega)).as (by rw [Addr.add_mid, Nat.zero_add])) fun a HF => ?_
  refine fy HF HM 3 rfl rfl rfl (v := vI (ns.getD i 0)) (Yl.qh rfl rfl (by kernel_rfl) (fun _ h => h.qgg (i := 4) rfl (k := i) (qab (F := I64v) (k := i) (x := (ns.getD i 0)) ((getD_at 0 (by omega)))))) fun a HF => ?_
  replace HF := HF.sp 203 (vI ((bks.getD i []).length)) rfl (by rw [hni])
  refine fp HF 1 4 [(204, vI (IntKind.i64.wrap (((bks.getD i []).length : Int) + 1)))] fun a HF => ?_
  replace HF := HF.sp 204 (vI ((bks.getD i []).length + 1 : Nat)) rfl (qi (by omega) (by omega))
  refine fy HF HM 5 rfl rfl rfl (v := .slice (if cx = ((bks.getD i []).length + 1) then some ⟨gA3, (allB bks nx i).length * 5, none⟩ else (some ⟨gA3, (allB bks nx i).length * 5, none⟩ : Option Addr).map (·.add (((bks.getD i []).length + 1) * 5))) ((q3.length - (allB bks nx i).length) - ((bks.getD i []).length + 1)) (cx - ((bks.getD i []).length + 1))) (Yl.sliceFrom qgc (j := ((bks.getD i []).length + 1)) rfl rfl rfl (by omega)) fun a HF => ?_
  replace HF := HF.sp 205 (.slice (if cx = (bks.getD i []).length + 1 then some ⟨gA3, (allB bks nx i).length * 5, none⟩ else (some ⟨gA3, (allB bks nx i).length * 5, none⟩ : Option Addr).map (·.add (((bks.getD i []).length + 1) * 5))) (q3.length - (allB bks nx (i + 1)).length) (cx - ((bks.getD i []).length + 1))) rfl (congrArg (fun z => Value.slice _ z _) (by omega))
  refine fp HF 1 6 [(18, .slice (if cx = (bks.getD i []).length + 1 then some ⟨gA3, (allB bks nx i).length * 5, none⟩ else (some ⟨gA3, (allB bks nx i).length * 5, none⟩ : Option Addr).map (·.add (((bks.getD i []).length + 1) * 5))) (q3.length - (allB bks nx (i + 1)).length) (cx - ((bks.getD i []).length + 1)))] fun a HF => ?_
  refine qb rfl ?_
  replace HM := Mem.qv5 (a := [.row (.slice An ((xs.getD i Ssm.zero).x.items.length) cAn) ((xs.getD i Ssm.zero).x.items.length) ((xs.getD i Ssm.zero).x.items.flatMap itL) 47 12, .blk g21 ((xs.getD i Ssm.zero).x.cells (xs.getD i Ssm.zero).A (xs.getD i Ssm.zero).c (xs.getD i Ssm.zero).A2 (xs.getD i Ssm.zero).c2) 31, .row (vS gA3 q3.length c3) q3.length (q3.flatMap hbL) 41 5, .row (.slice A81 ((outsL (allB bks nx 3)).length) c81) ((outsL (allB bks nx 3)).length) ((outsL (allB bks nx 3)).map B8) 5 1, .row (vS g10 3 3) 3 (ns.map I64v) 79 1, .row (.slice Aw ((outsL (allB bks nx 3)).length) cw) ((outsL (allB bks nx 3)).length) ((outsL (allB bks nx 3)).map B8) 5 1, .blk gw37 #[vI lim, .slice Aw ((outsL (allB bks nx 3)).length) cw] 95, .blk g3 (arrC xs) 77]) (q := q3) (k := (allB bks nx i).length + j) (b := []) HM (by omega)
  rw [show (allB bks nx i).length + j + 1 = (allB bks nx (i + 1)).length by omega] at HM
  replace HM : Mem w _ (.row (.slice An ((xs.getD i Ssm.zero).x.items.length) cAn) ((xs.getD i Ssm.zero).x.items.length) ((xs.getD i Ssm.zero).x.items.flatMap itL) 47 12 :: .blk g21 ((xs.getD i Ssm.zero).x.cells (xs.getD i Ssm.zero).A (xs.getD i Ssm.zero).c (xs.getD i Ssm.zero).A2 (xs.getD i Ssm.zero).c2) 31 :: .row (vS gA3 q3.length c3) q3.length (q3.flatMap hbL) 41 5 :: .row (.slice A81 ((outsL (allB bks nx 3)).length) c81) ((outsL (allB bks nx 3)).length) ((outsL (allB bks nx 3)).map B8) 5 1 :: .row (vS g10 3 3) 3 (ns.map I64v) 79 1 :: .row (.slice Aw ((outsL (allB bks nx 3)).length) cw) ((outsL (allB bks nx 3)).length) ((outsL (allB bks nx 3)).map B8) 5 1 :: .blk gw37 #[vI lim, .slice Aw ((outsL (allB bks nx 3)).length) cw] 95 :: .blk g3 (arrC xs) 77 :: (hbF 45 (q3.drop (allB bks nx (i + 1)).length) ++ ([]))) := HM.tail
  refine qa ?_
  refine fp HF 1 0 [(206, vI (IntKind.i64.wrap ((i : Int) + 1)))] fun a HF => ?_
  replace HF := HF.sp 206 (vI (i + 1 : Nat)) rfl (qi (by omega) (by omega))
  refine fp HF 1 1 [(102, vI (i + 1 : Nat))] fun a HF => ?_
  refine qb rfl ?_
  exact ⟨_, (by omega), i + 1, if cx = (bks.getD i []).length + 1 then some ⟨gA3, (allB bks nx i).length * 5, none⟩ else (some ⟨gA3, (allB bks nx i).length * 5, none⟩ : Option Addr).map (·.add (((bks.getD i []).length + 1) * 5)), cx - ((bks.getD i []).length + 1), by omega, (fun hx => (qu4 (n := q3.length) (fun e => by omega) (by omega)).trans (by rw [hao, Nat.add_assoc])), by omega, rfl, HF.sub (by kernel_rfl), HM.picksT 8 [2, 3, 4, 5, 6, 7] (by decide) (by decide) rfl⟩
 have hd103 := of_decide_eq_false hb103
 refine qe HF rfl (wp_exit (wp_seq (qa ?_)))
 refine fp HF 1 0 [(6, .bool true)] fun a HF => ?_
 refine qb rfl (wp_ret ?_)
 exact ret1 rfl HF (.tmp HF rfl) (⟨rfl, HM.below⟩)
end Go.Proofs.YtfeheccoijnbaaaDoor
