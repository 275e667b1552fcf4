/- Parts. -/
import Derived.Test.YtggpmlaappaopaaGreatDoorQpRnd2
import Derived.Test.YtggpmlaappaopaaGreatDoorQpSep19
import Derived.Test.YtggpmlaappaopaaGreatDoorQpZ4
set_option linter.all false
set_option maxRecDepth 100000
set_option maxHeartbeats 4000000
namespace Go.Proofs.YtggpmlaappaopaaGreatDoor
open Go.RowKit
theorem qln (A : Option Addr) (c : Nat) (l : List Nat) (w : World) (hr : Rd w w.heap.size 1 A l.length (l.map B8)) (hc : l.length ≤ c) (hn : l.length ≤ 100000000) (hl : ∀ z ∈ l, z < 256) : Calls Tryz.prog 72 #[.slice A l.length c] w (qyh w l) := (qhf A c l w hr hc hn hl).mono fun r w' h => qqd hl h
theorem qcq (A : Option Addr) (c : Nat) (l : List Nat) (w : World) (hr : Rd w w.heap.size 1 A l.length (l.map B8)) (hc : l.length ≤ c) (hn : l.length ≤ 100000000) (hl : ∀ z ∈ l, z < 256) :
    Calls Tryz.prog 41 #[.slice A l.length c] w (qg1 w (errR l) (pnums l)) := by
 refine s_ce Tryz.func41 [.slice A l.length c] [(0, .slice A l.length c)] fun a M => ?_
 have O := Mem.start w
 refine s_fs1 ?_
 refine fp M 2 0 [(3, vI 0), (2, .slice none 0 0)] fun a M => s_d0 (s_fs1 ?_)
 refine fp M 1 0 [(10, .slice A l.length c)] fun a M => fo M 1 rfl rfl ?_
 refine e_cl M [.slice A l.length c] rfl rfl (qln A c l _ (O.old hr) hc hn hl) ?_
 rintro _ w11 ⟨Q, E, Aq, cq, Ae, ce, hQ, hE, hQf, hE9, hQ9, rfl, hm⟩
 refine ⟨_, rfl, ?_⟩
 replace O := O.joinT hm
 clear M; intro a M
 refine fp M 7 2 [(6, vI (errR l)), (4, .slice Aq Q.length cq)] fun a M => s_d0 (s_fs1 ?_)
 refine fp M 1 0 [(7, .slice none 0 0)] fun a M => s_d0 ?_
 replace O := O.nil 22 1
 replace O : Mem w _ (.row (.slice none 0 0) 0 [] 22 1 :: .row (.slice Aq Q.length cq) Q.length (Q.map Nw.val) 58 1 :: .row (.slice Ae E.length ce) E.length (E.map I64v) 3 1 :: nwF 22 Q) := O
 refine wp_seq (s_fs1 ?_)
 refine fp M 1 0 [(8, vI 0)] fun a M => s_d0 (wp_block ?_)
 refine qe (fun mS aS wS => ∃ (i : Nat) (q : List Nat) (Ao : Option Addr) (co : Nat), (i ≤ Q.length) ∧ (q = ((Q.map Nw.l).take i).flatten) ∧ (q.length ≤ co) ∧ mS = Q.length - i ∧ Fr aS 29 [] [(8, vI i), (7, .slice Ao q.length co), (6, vI (errR l)), (4, .slice Aq Q.length cq), (3, vI 0), (2, .slice none 0 0)] ∧ Mem w wS (.row (.slice Ao q.length co) q.length (q.map U64) 22 1 :: .row (.slice Aq Q.length cq) Q.length (Q.map Nw.val) 58 1 :: .row (.slice Ae E.length ce) E.length (E.map I64v) 3 1 :: nwF 22 Q)) (m := Q.length - 0) ⟨0, [], none, 0, Nat.zero_le _, rfl, Nat.le_refl _, rfl, M.sub (by kernel_rfl), O.pt 3 [0, 1, 2]⟩ ?_
 clear M O; rintro mS a w_ ⟨i, q, Ao, co, hi, hq, hco, rfl, M, O⟩
 refine wp_seq (s_fs1 ?_)
 refine fp M 2 0 [(16, .slice Aq Q.length cq), (15, vI i)] fun a M => s_fl M 2 fun a M => ?_
 refine fp M 1 3 [(18, .bool (decide ((i : Int) < (Q.length : Int))))] fun a M => s_d0 ?_
 rcases M.tf 18 rfl with ⟨hb18, M⟩ | ⟨hb18, M⟩
 ·
  have hd18 := of_decide_eq_true hb18
  have hi18 : i < Q.length := by omega
  obtain ⟨y, hy⟩ : ∃ y, Q.getD i Nw.zero = y := ⟨_, rfl⟩
  have hft := qt4 hi18
  rw [hy] at hft
  have hfl : (q ++ y.l).length ≤ 600000 := by rw [hq, ← hft]; exact Nat.le_trans q0f hQf
  rw [List.length_append] at hfl
  obtain ⟨gAq, rfl⟩ := q9 (O.own (i := 1) rfl) (Nat.lt_of_le_of_lt (Nat.zero_le _) (show i < Q.length from hi18))
  refine s_ct M (wp_skip (wp_seq (wp_block (qa ?_))))
  refine fp M 3 0 [(23, vI i), (22, vS gAq Q.length cq), (21, .slice Ao q.length co)] fun a M => s_fz M O 3 rfl (v := vP gAq (i * 1)) (Yl.ix0 gAq i 1 rfl rfl rfl) fun a M => ?_
  refine s_fz M O 4 rfl (v := .slice ((Q.getD i Nw.zero).A) ((Q.getD i Nw.zero).l.length) ((Q.getD i Nw.zero).c)) (Yl.r1 1 i Nw.zero (by omega) rfl rfl rfl) fun a M => ?_
  replace M := M.sp 25 (.slice y.A y.l.length y.c) rfl (by rw [hy])
  refine fo M 5 rfl rfl (qd M O (i := 0) rfl zd rfl rfl rfl (news := (y.l.map U64)) (by have h1 := (O.nwAt 3 rfl).at hi18; rw [hy] at h1; exact h1) (qal _) (by omega) (by omega) rfl (by decide) fun a w26 A26 c26 M O hc26 => ?_)
  refine fp M 1 6 [(7, .slice A26 (q.length + y.l.length) c26)] fun a M => s_d0 ?_
  have hnA26 : q.length + y.l.length = (q ++ y.l).length := qs rfl
  replace O := O.reRow (i := 0) (ys := (q ++ y.l).map U64) rfl hnA26 (List.map_append.symm)
  rw [hnA26] at hc26
  replace M := M.sp 7 (.slice A26 ((q ++ y.l).length) c26) rfl (by rw [hnA26])
  replace M := M.sp 26 (.slice A26 ((q ++ y.l).length) c26) rfl (by rw [hnA26])
  refine qa ?_
  refine fp M 2 0 [(20, vI (IntKind.i64.wrap ((i : Int) + 1)))] fun a M => ?_
  replace M := M.sp 20 (vI (i + 1 : Nat)) rfl (qc (by omega) (by omega))
  refine fp M 1 2 [(8, vI (i + 1 : Nat))] fun a M => s_d0 ?_
  exact ⟨_, (by omega), i + 1, (q ++ y.l), A26, c26, by omega, by rw [hft, hq], hc26, rfl, M.sub (by kernel_rfl), O.pt 3 [0, 1, 2]⟩
 have hd18 := of_decide_eq_false hb18
 refine s_cf M (wp_exit (s_fs1 ?_))
 refine fp M 4 0 [(3, vI (errR l)), (2, .slice Ao q.length co)] fun a M => s_d0 (wp_ret ?_)
 exact s_rt2 rfl M rfl rfl (qfa rfl (by rw [hq, List.take_of_length_le (by rw [List.length_map]; omega)]; exact hQ) (O.own (i := 0) rfl) hco O.below)
theorem qb1 (A : Option Addr) (c : Nat) (l : List Nat) (w : World) (hr : Rd w w.heap.size 1 A l.length (l.map B8)) (hc : l.length ≤ c) (hn : l.length ≤ 100000000) (hl : ∀ z ∈ l, z < 256) :
    Calls Tryz.prog 43 #[.slice A l.length c] w (qcv 83 w (errR l) (psecs l)) := by
 refine s_ce Tryz.func43 [.slice A l.length c] [(0, .slice A l.length c)] fun a M => ?_
 have O := Mem.start w
 refine s_fs1 ?_
 refine fp M 2 0 [(3, vI 0), (2, .slice none 0 0)] fun a M => s_d0 (s_fs1 ?_)
 refine fp M 1 0 [(11, .slice A l.length c)] fun a M => fo M 1 rfl rfl ?_
 refine e_cl M [.slice A l.length c] rfl rfl (qln A c l _ (O.old hr) hc hn hl) ?_
 rintro _ w12 ⟨Q, E, Aq, cq, Ae, ce, hQ, hE, hQf, hE9, hQ9, rfl, hm⟩
 refine ⟨_, rfl, ?_⟩
 replace O := O.joinT hm
 clear M; intro a M
 refine fp M 7 2 [(6, vI (errR l)), (5, .slice Ae E.length ce)] fun a M => s_d0 (s_fs1 ?_)
 refine fp M 1 0 [(7, .slice none 0 0)] fun a M => s_d0 ?_
 replace O := O.nil 83 3
 replace O : Mem w _ (.row (.slice none 0 0) 0 [] 83 3 :: .row (.slice Aq Q.length cq) Q.length (Q.map Nw.val) 58 1 :: .row (.slice Ae E.length ce) E.length (E.map I64v) 3 1 :: nwF 22 Q) := O
 refine s_fs1 ?_
 refine fp M 1 0 [(8, vI 0)] fun a M => s_d0 (wp_seq (s_fs1 ?_))
 refine fp M 1 0 [(9, vI 0)] fun a M => s_d0 (wp_block ?_)
 refine qe (fun mS aS wS => ∃ (i : Nat) (fr : Nat) (q : List Sec) (Ao : Option Addr) (co : Nat), (i ≤ E.length) ∧ (fr = if i = 0 then 0 else E.getD (i - 1) 0) ∧ (q = mapR i (secE E)) ∧ (q.length = i) ∧ (q.length ≤ co) ∧ mS = E.length - i ∧ Fr aS 41 [] [(9, vI i), (8, vI fr), (7, .slice Ao q.length co), (6, vI (errR l)), (5, .slice Ae E.length ce), (3, vI 0), (2, .slice none 0 0)] ∧ Mem w wS (.row (.slice Ao q.length co) q.length (q.flatMap secL) 83 3 :: .row (.slice Aq Q.length cq) Q.length (Q.map Nw.val) 58 1 :: .row (.slice Ae E.length ce) E.length (E.map I64v) 3 1 :: nwF 22 Q)) (m := E.length - 0) ⟨0, 0, [], none, 0, Nat.zero_le _, rfl, rfl, rfl, Nat.le_refl _, rfl, M.sub (by kernel_rfl), O.pt 3 [0, 1, 2]⟩ ?_
 clear M O; rintro mS a w_ ⟨i, fr, q, Ao, co, hi, hfr, hq, hql, hco, rfl, M, O⟩
 refine wp_seq (s_fs1 ?_)
 refine fp M 2 0 [(17, .slice Ae E.length ce), (16, vI i)] fun a M => s_fl M 2 fun a M => ?_
 refine fp M 1 3 [(19, .bool (decide ((i : Int) < (E.length : Int))))] fun a M => s_d0 ?_
 rcases M.tf 19 rfl with ⟨hb19, M⟩ | ⟨hb19, M⟩
 ·
  have hd19 := of_decide_eq_true hb19
  have hi19 : i < E.length := by omega
  obtain ⟨gAe, rfl⟩ := q9 (O.own (i := 2) rfl) (Nat.lt_of_le_of_lt (Nat.zero_le _) (show i < E.length from hi19))
  refine s_ct M (wp_skip (wp_seq (wp_block (wp_seq ?_))))
  refine zk O (.row (.slice Aq Q.length cq) Q.length (Q.map Nw.val) 58 1 :: .row (vS gAe E.length ce) E.length (E.map I64v) 3 1 :: nwF 22 Q) 3 [1, 2] [] fun O Z => ?_
  refine ap M (fun _ => Z) [0, 2, 5, 6, 7] (bf 14 [0, 2, 5, 6, 7]) [(29, vI i), (28, vS gAe E.length ce), (27, vI fr), (24, vI i), (22, .slice Ao q.length co)] fun a M => ?_
  refine s_az M Z 8 rfl (v := vP gAe (i * 1)) (Yl.ix0 gAe i 1 rfl rfl rfl) fun a M => ?_
  refine s_az M Z 9 rfl (v := vI (E.getD i 0)) (Yl.r1 1 i 0 (by omega) rfl rfl rfl) fun a M => ?_
  replace M := M.sp 31 (vI (E.getD i 0)) rfl (rfl)
  refine s_on M 1 rfl ?_
  refine e_cl M [] rfl rfl (qff _) ?_
  rintro _ w23 ⟨⟨g23, rfl, ho⟩, hbw⟩
  refine ⟨_, rfl, ?_⟩
  replace O := O.callRow hbw ho
  clear M; intro a M
  refine keepS (O.pt 4 [2, 3]) (fun Z => ?_)
  refine s_az M Z 3 rfl (v := vP g23 (i * 1)) (Yl.ix0 g23 i 1 rfl rfl rfl) fun a M => ?_
  refine s_on M 4 rfl ?_
  refine Yl.wp (S := fun wS => Mem w wS _) (v := .string (nmR i)) (Yl.r1 0 i [] (show i < nameL.length from by have : nameL.length = 9 := rfl; omega) rfl rfl rfl) M O rfl (by decide) fun a M => ?_
  refine keepS Z (fun Z => ?_)
  refine s_az M Z 10 rfl (v := .agg #[.string (nmR i), vI fr, vI (E.getD i 0)]) (Yl.build (vs := [(0, .string (nmR i)), (1, vI fr), (2, vI (E.getD i 0))]) rfl (by kernel_rfl) (by kernel_rfl)) fun a M => ?_
  refine s_on M 11 rfl (s_el M O quc [(0, .agg #[.string (nmR i), vI fr, vI (E.getD i 0)])] #[.string (nmR i), vI fr, vI (E.getD i 0)] fun a w33 g33 M O => ?_)
  refine keepS (O.pt 5 [3, 4]) (fun Z => ?_)
  refine s_on M 12 rfl (qd M O (i := 2) rfl quc rfl rfl rfl (news := ([(⟨nmR i, fr, E.getD i 0⟩ : Sec)].flatMap secL)) (O.rdBlk (i := 0) (n := 1) (size := 3) rfl rfl) (qmd _) (by omega) (by omega) rfl (by decide) fun a w34 A34 c34 M O hc34 => ?_)
  refine keepS (O.pt 5 [3, 4]) (fun Z => ?_)
  refine ap M (fun _ => Z) [13] (bt 14 []) [(7, .slice A34 (q.length + 1) c34)] fun a M => ?_
  refine qh (by kernel_rfl) ?_
  have hnA34 : q.length + 1 = (q ++ [(secE E i)]).length := qs rfl
  replace O := O.reRow (i := 2) (ys := (q ++ [(secE E i)]).flatMap secL) rfl hnA34 (by rw [List.flatMap_append]; unfold secE; rw [← hfr])
  rw [hnA34] at hc34
  replace M := M.sp 7 (.slice A34 ((q ++ [(secE E i)]).length) c34) rfl (by rw [hnA34])
  replace M := M.sp 34 (.slice A34 ((q ++ [(secE E i)]).length) c34) rfl (by rw [hnA34])
  refine qa ?_
  refine fp M 2 0 [(36, vI i), (35, vS gAe E.length ce)] fun a M => s_fz M O 2 rfl (v := vP gAe (i * 1)) (Yl.ix0 gAe i 1 rfl rfl rfl) fun a M => ?_
  refine s_fz M O 3 rfl (v := vI (E.getD i 0)) (Yl.r1 4 i 0 (by omega) rfl rfl rfl) fun a M => ?_
  replace M := M.sp 38 (vI (E.getD i 0)) rfl (rfl)
  refine fp M 1 4 [(8, vI (E.getD i 0))] fun a M => s_d0 (qa ?_)
  refine fp M 2 0 [(21, vI (IntKind.i64.wrap ((i : Int) + 1)))] fun a M => ?_
  replace M := M.sp 21 (vI (i + 1 : Nat)) rfl (qc (by omega) (by omega))
  refine fp M 1 2 [(9, vI (i + 1 : Nat))] fun a M => s_d0 ?_
  exact ⟨_, (by omega), i + 1, E.getD i 0, (q ++ [(secE E i)]), A34, c34, by omega, by rw [if_neg (by omega), Nat.add_sub_cancel], by rw [hq, zc], by rw [List.length_append, hql]; rfl, hc34, rfl, M.sub (by kernel_rfl), O.pt 5 [2, 3, 4]⟩
 have hd19 := of_decide_eq_false hb19
 refine s_cf M (wp_exit (s_fs1 ?_))
 refine fp M 4 0 [(3, vI (errR l)), (2, .slice Ao q.length co)] fun a M => s_d0 (wp_ret ?_)
 exact s_rt2 rfl M rfl rfl (qic rfl (by rw [hE, hq, show i = E.length by omega]) (O.own (i := 0) rfl) hco O.below)
theorem qes (A : Option Addr) (c : Nat) (l : List Nat) (w : World) (hr : Rd w w.heap.size 1 A l.length (l.map B8)) (hc : l.length ≤ c) (hn : l.length ≤ 100000000) (hl : ∀ z ∈ l, z < 256) {p : Pr} (h : opnR l = .ok p) : Calls Tryz.prog 43 #[.slice A l.length c] w (qcv 83 w 0 p.secs) := by
 have := qb1 A c l w hr hc hn hl
 rwa [qcz h, qee h] at this
theorem qet (A : Option Addr) (c : Nat) (l : List Nat) (w : World) (hr : Rd w w.heap.size 1 A l.length (l.map B8)) (hc : l.length ≤ c) (hn : l.length ≤ 100000000) (hl : ∀ z ∈ l, z < 256) {k : Nat} (h : opnR l = .error k) : Calls Tryz.prog 43 #[.slice A l.length c] w (qcv 83 w k []) := by
 have := qb1 A c l w hr hc hn hl
 rwa [qdp h, qef h] at this
theorem qjs (A : Option Addr) (c : Nat) (la : List Nat) (D : Option Addr) (d : Nat) (lb : List Nat) (w : World) (hr1 : Rd w w.heap.size 1 A la.length (la.map B8)) (hc1 : la.length ≤ c) (hn1 : la.length ≤ 100000000) (hl1 : ∀ z ∈ la, z < 256) (hr2 : Rd w w.heap.size 1 D lb.length (lb.map B8)) (hc2 : lb.length ≤ d) (hn2 : lb.length ≤ 100000000) (hl2 : ∀ z ∈ lb, z < 256) :
    Calls Tryz.prog 45 #[.slice A la.length c, .slice D lb.length d] w (Is w (.tuple #[.string (difN la lb), .int .i64 (difE la lb : Int)])) := by
 refine s_ce Tryz.func45 [.slice A la.length c, .slice D lb.length d] [(0, .slice A la.length c), (1, .slice D lb.length d)] fun a M => ?_
 have O := Mem.start w
 refine s_fs1 ?_
 refine fp M 2 0 [(5, vI 0), (4, .string (ByteArray.mk #[]))] fun a M => s_d0 (wp_seq ?_)
 rcases hoa : opnR la with k | p
 ·
  have hke := qcj hoa
  refine qa ?_
  refine fp M 1 0 [(11, .slice A la.length c)] fun a M => fo M 1 rfl rfl ?_
  refine s_ek M O [.slice A la.length c] (qet A c la _ (O.old hr1) hc1 hn1 hl1 hoa) fun X12 c12 w12 hc12 O a M => ?_
  refine fp M 5 2 [(7, vI k), (6, .slice X12 (([] : List Sec).length) c12)] fun a M => s_d0 (wp_seq (s_fs1 ?_))
  refine fp M 2 0 [(16, .bool ((k : Int) != (0 : Int)))] fun a M => s_d0 ?_
  rcases M.tf 16 rfl with ⟨hb16, M⟩ | ⟨hb16, M⟩
  ·
   have hd16 := bne_iff_ne.1 hb16
   refine s_ct M (s_fs1 ?_)
   refine fp M 3 0 [(5, vI k), (4, .string (ByteArray.mk #[]))] fun a M => s_d0 (wp_ret ?_)
   exact s_rt2 rfl M rfl rfl (qbx (qsy hoa) rfl O.below)
  have hd16 := bne_eq_false_iff_eq.1 hb16
  exfalso; omega
 ·
  have hsa := qej p
  refine qa ?_
  refine fp M 1 0 [(11, .slice A la.length c)] fun a M => fo M 1 rfl rfl ?_
  refine s_ek M O [.slice A la.length c] (qes A c la _ (O.old hr1) hc1 hn1 hl1 hoa) fun X12 c12 w12 hc12 O a M => ?_
  refine fp M 5 2 [(7, vI 0), (6, .slice X12 p.secs.length c12)] fun a M => s_d0 (wp_seq (s_fs1 ?_))
  refine fp M 2 0 [(16, .bool false)] fun a M => s_d0 (s_cf M (wp_skip (wp_seq ?_)))
  rcases hob : opnR lb with k | q
  ·
   have hke := qcj hob
   refine qa ?_
   refine fp M 1 0 [(19, .slice D lb.length d)] fun a M => fo M 1 rfl rfl ?_
   refine s_ek M O [.slice D lb.length d] (qet D d lb _ (O.old hr2) hc2 hn2 hl2 hob) fun X20 c20 w20 hc20 O a M => ?_
   refine fp M 5 2 [(7, vI k), (8, .slice X20 (([] : List Sec).length) c20)] fun a M => s_d0 (wp_seq (s_fs1 ?_))
   refine fp M 2 0 [(24, .bool ((k : Int) != (0 : Int)))] fun a M => s_d0 ?_
   rcases M.tf 24 rfl with ⟨hb24, M⟩ | ⟨hb24, M⟩
   ·
    have hd24 := bne_iff_ne.1 hb24
    refine s_ct M (s_fs1 ?_)
    refine fp M 3 0 [(5, vI k), (4, .string (ByteArray.mk #[]))] fun a M => s_d0 (wp_ret ?_)
    exact s_rt2 rfl M rfl rfl (qbx (qsz hoa hob) rfl O.below)
   have hd24 := bne_eq_false_iff_eq.1 hb24
   exfalso; omega
  ·
   have hsb := qej q
   refine qa ?_
   refine fp M 1 0 [(19, .slice D lb.length d)] fun a M => fo M 1 rfl rfl ?_
   refine s_ek M O [.slice D lb.length d] (qes D d lb _ (O.old hr2) hc2 hn2 hl2 hob) fun X20 c20 w20 hc20 O a M => ?_
   refine fp M 5 2 [(7, vI 0), (8, .slice X20 q.secs.length c20)] fun a M => s_d0 (wp_seq (s_fs1 ?_))
   refine fp M 2 0 [(24, .bool false)] fun a M => s_d0 (s_cf M (wp_skip (wp_seq (s_fs1 ?_))))
   refine fp M 1 0 [(9, vI 0)] fun a M => s_d0 (wp_block ?_)
   refine qe (fun mS aS wS => ∃ (i : Nat), (i ≤ 9) ∧ (difE la lb = 0 ∧ difN la lb = difF la lb p.secs q.secs (9 - i) i) ∧ mS = 9 - i ∧ Fr aS 64 [] [(9, vI i), (24, .bool false), (7, vI 0), (8, .slice X20 q.secs.length c20), (16, .bool false), (6, .slice X12 p.secs.length c12), (5, vI 0), (4, .string (ByteArray.mk #[])), (0, .slice A la.length c), (1, .slice D lb.length d)] ∧ Mem w wS [.row (.slice X20 q.secs.length c20) q.secs.length (q.secs.flatMap secL) 83 3, .row (.slice X12 p.secs.length c12) p.secs.length (p.secs.flatMap secL) 83 3]) (m := 9 - 0) ⟨0, Nat.zero_le _, qx7 hoa hob, rfl, M.sub (by kernel_rfl), O.pk [0, 1]⟩ ?_
   clear M O; rintro mS a w_ ⟨i, hi, hd, rfl, M, O⟩
   refine wp_seq (s_fs1 ?_)
   refine fp M 2 0 [(27, .slice X12 p.secs.length c12), (26, vI i)] fun a M => s_fl M 2 fun a M => ?_
   refine fp M 1 3 [(29, .bool (decide ((i : Int) < (p.secs.length : Int))))] fun a M => s_d0 ?_
   rcases M.tf 29 rfl with ⟨hb29, M⟩ | ⟨hb29, M⟩
   ·
    have hd29 := of_decide_eq_true hb29
    have ha1 := qn6 hl1 hoa (i := i) (by omega)
    have hb1 := qn6 hl2 hob (i := i) (by omega)
    refine s_ct M (wp_skip (wp_seq (wp_block (wp_seq ?_))))
    refine qz O [.row (.slice X20 q.secs.length c20) q.secs.length (q.secs.flatMap secL) 83 3, .row (.slice X12 p.secs.length c12) p.secs.length (p.secs.flatMap secL) 83 3] [0, 1] [] fun O Z => ?_
    refine ap M (fun _ => Z) [0, 1, 2, 6, 7, 13, 14, 15, 19, 20] (bf 27 [0, 1, 2, 6, 7, 13, 14, 15, 19, 20]) [(52, vI i), (51, .slice X20 q.secs.length c20), (47, vI i), (46, .slice X20 q.secs.length c20), (45, .slice D lb.length d), (39, vI i), (38, .slice X12 p.secs.length c12), (34, vI i), (33, .slice X12 p.secs.length c12), (32, .slice A la.length c)] fun a M => ?_
    obtain ⟨gX12, rfl⟩ := q9 (O.own (i := 1) rfl) (Nat.lt_of_le_of_lt (Nat.zero_le _) (show i < p.secs.length from by omega))
    refine s_az M Z 3 rfl (v := vP gX12 (i * 3)) (Yl.ix0 gX12 i 3 rfl rfl rfl) fun a M => ?_
    refine ap M (fun _ => Z) [4] (bf 27 [0, 1, 2, 3, 4, 6, 7, 13, 14, 15, 19, 20]) [(36, vP gX12 (i * 3 + 1))] fun a M => ?_
    refine s_az M Z 5 rfl (v := vI ((p.secs.getD i Sec.zero).fr)) (Yl.qk rfl rfl (by kernel_rfl) (fun _ h => h.qbt qaa (i := 1) rfl (k := i) (off := 1) (x := (p.secs.getD i Sec.zero)) ((getD_at Sec.zero (k := i) (by first | omega | (simp; omega)))) rfl)) fun a M => ?_
    refine s_az M Z 8 rfl (v := vP gX12 (i * 3)) (Yl.ix0 gX12 i 3 rfl rfl rfl) fun a M => ?_
    refine ap M (fun _ => Z) [9] (bt 27 [10, 11, 12, 16, 17, 18, 21, 22, 23, 24, 25, 26]) [(41, vP gX12 (i * 3 + 2))] fun a M => ?_
    refine s_az M Z 10 rfl (v := vI ((p.secs.getD i Sec.zero).to)) (Yl.qk rfl rfl (by kernel_rfl) (fun _ h => h.qbt qaa (i := 1) rfl (k := i) (off := 2) (x := (p.secs.getD i Sec.zero)) ((getD_at Sec.zero (k := i) (by first | omega | (simp; omega)))) rfl)) fun a M => ?_
    refine s_az M Z 11 rfl (v := .slice (if c = (p.secs.getD i Sec.zero).fr then A else A.map (·.add (((p.secs.getD i Sec.zero).fr) * 1))) (((p.secs.getD i Sec.zero).to) - ((p.secs.getD i Sec.zero).fr)) (c - ((p.secs.getD i Sec.zero).fr))) (Yl.qiu ei_u8 (i := (p.secs.getD i Sec.zero).fr) (j := (p.secs.getD i Sec.zero).to) rfl rfl rfl rfl (by omega) (by omega)) fun a M => ?_
    refine s_az M Z 12 rfl (v := .string (bstr (cutB la (p.secs.getD i Sec.zero)))) (Yl.str rfl rfl (fun _ h => qn8 (h.old hr1) ha1 hc1)) fun a M => ?_
    obtain ⟨gX20, rfl⟩ := q9 (O.own (i := 0) rfl) (Nat.lt_of_le_of_lt (Nat.zero_le _) (show i < q.secs.length from by omega))
    refine s_az M Z 16 rfl (v := vP gX20 (i * 3)) (Yl.ix0 gX20 i 3 rfl rfl rfl) fun a M => ?_
    refine ap M (fun _ => Z) [17] (bt 27 [18, 21, 22, 23, 24, 25, 26]) [(49, vP gX20 (i * 3 + 1))] fun a M => ?_
    refine s_az M Z 18 rfl (v := vI ((q.secs.getD i Sec.zero).fr)) (Yl.qk rfl rfl (by kernel_rfl) (fun _ h => h.qbt qaa (i := 0) rfl (k := i) (off := 1) (x := (q.secs.getD i Sec.zero)) ((getD_at Sec.zero (k := i) (by first | omega | (simp; omega)))) rfl)) fun a M => ?_
    refine s_az M Z 21 rfl (v := vP gX20 (i * 3)) (Yl.ix0 gX20 i 3 rfl rfl rfl) fun a M => ?_
    refine ap M (fun _ => Z) [22] (bt 27 [23, 24, 25, 26]) [(54, vP gX20 (i * 3 + 2))] fun a M => ?_
    refine s_az M Z 23 rfl (v := vI ((q.secs.getD i Sec.zero).to)) (Yl.qk rfl rfl (by kernel_rfl) (fun _ h => h.qbt qaa (i := 0) rfl (k := i) (off := 2) (x := (q.secs.getD i Sec.zero)) ((getD_at Sec.zero (k := i) (by first | omega | (simp; omega)))) rfl)) fun a M => ?_
    refine s_az M Z 24 rfl (v := .slice (if d = (q.secs.getD i Sec.zero).fr then D else D.map (·.add (((q.secs.getD i Sec.zero).fr) * 1))) (((q.secs.getD i Sec.zero).to) - ((q.secs.getD i Sec.zero).fr)) (d - ((q.secs.getD i Sec.zero).fr))) (Yl.qiu ei_u8 (i := (q.secs.getD i Sec.zero).fr) (j := (q.secs.getD i Sec.zero).to) rfl rfl rfl rfl (by omega) (by omega)) fun a M => ?_
    refine s_az M Z 25 rfl (v := .string (bstr (cutB lb (q.secs.getD i Sec.zero)))) (Yl.str rfl rfl (fun _ h => qn8 (h.old hr2) hb1 hc2)) fun a M => ?_
    refine qg M (fun _ => Z) (i := 26) rfl rfl (d := 58) rfl (by decide) (by kernel_rfl) (fun _ _ _ h => h) (v := .bool (!(((bstr (cutB la (p.secs.getD i Sec.zero)))).toList == ((bstr (cutB lb (q.secs.getD i Sec.zero)))).toList))) (fun _ => Yl.pure (by kernel_rfl)) fun a M => ?_
    replace M := M.sp 58 (.bool (!decide (cutB la (p.secs.getD i Sec.zero) = cutB lb (q.secs.getD i Sec.zero)))) rfl (by rw [qgp (qn7 hl1 _) (qn7 hl2 _)])
    refine qh (by kernel_rfl) ?_
    rcases M.tf 58 rfl with ⟨hb58, M⟩ | ⟨hb58, M⟩
    ·
     refine s_ct M (s_fs1 ?_)
     refine fp M 2 0 [(60, vI i), (59, vS gX12 p.secs.length c12)] fun a M => s_fz M O 2 rfl (v := vP gX12 (i * 3)) (Yl.ix0 gX12 i 3 rfl rfl rfl) fun a M => ?_
     refine fp M 1 3 [(62, vP gX12 (i * 3))] fun a M => s_fz M O 4 rfl (v := .string (p.secs.getD i Sec.zero).nm) (Yl.qk rfl rfl (by kernel_rfl) (fun _ h => (by have := h.qbt qaa (i := 1) rfl (k := i) (off := 0) (x := (p.secs.getD i Sec.zero)) ((getD_at Sec.zero (k := i) (by first | omega | (simp; omega)))) rfl; simpa using this))) fun a M => ?_
     refine fp M 2 5 [(5, vI 0), (4, .string (p.secs.getD i Sec.zero).nm)] fun a M => s_d0 (wp_ret ?_)
     exact s_rt2 rfl M rfl rfl (qbx ⟨hd.1, hd.2.trans (qoa (by omega) (of_decide_eq_false (by simpa using hb58)))⟩ rfl O.below)
    refine s_cf M (wp_skip (qa ?_))
    refine fp M 2 0 [(31, vI (IntKind.i64.wrap ((i : Int) + 1)))] fun a M => ?_
    replace M := M.sp 31 (vI (i + 1 : Nat)) rfl (qc (by omega) (by omega))
    refine fp M 1 2 [(9, vI (i + 1 : Nat))] fun a M => s_d0 ?_
    exact ⟨_, (by omega), i + 1, by omega, ⟨hd.1, hd.2.trans (qn9 (by omega) (of_decide_eq_true (by simpa using hb58)))⟩, rfl, M.sub (by kernel_rfl), O.pk [0, 1]⟩
   have hd29 := of_decide_eq_false hb29
   refine s_cf M (wp_exit (s_fs1 ?_))
   refine fp M 2 0 [(5, vI 0), (4, .string (ByteArray.mk #[]))] fun a M => s_d0 (wp_ret ?_)
   exact s_rt2 rfl M rfl rfl (qbx ⟨hd.1, hd.2.trans (qs0 (by omega))⟩ rfl O.below)
theorem q0l (x : Nat) : decide ((x : Int) > (0 : Int)) = decide (0 < x) := decide_eq_decide.2 (by omega)
theorem qud (A : Option Addr) (c : Nat) (Y0 Y1 Y2 Y3 Y4 Y5 Y6 Y7 Y8 : Nw) (p : Pr) (h : p.Fit) (w : World) (hr : Rd w w.heap.size 1 A 9 (([Y0, Y1, Y2, Y3, Y4, Y5, Y6, Y7, Y8] : List Nw).map Nw.val)) (r1 : Rd w w.heap.size 1 Y1.A Y1.l.length (Y1.l.map U64)) (r2 : Rd w w.heap.size 1 Y2.A Y2.l.length (Y2.l.map U64)) (r3 : Rd w w.heap.size 1 Y3.A Y3.l.length (Y3.l.map U64)) (r4 : Rd w w.heap.size 1 Y4.A Y4.l.length (Y4.l.map U64)) (r5 : Rd w w.heap.size 1 Y5.A Y5.l.length (Y5.l.map U64)) (r6 : Rd w w.heap.size 1 Y6.A Y6.l.length (Y6.l.map U64)) (r7 : Rd w w.heap.size 1 Y7.A Y7.l.length (Y7.l.map U64)) (l1 : Y1.l = [p.nx]) (l2 : Y2.l = [p.cp, p.cr, p.gp]) (l3 : Y3.l = p.gs) (l4 : Y4.l = p.cl) (l5 : Y5.l = p.cu) (l6 : Y6.l = p.tk :: p.ts) (l7 : Y7.l = p.sp) (hc6 : Y6.l.length ≤ Y6.c) :
    Calls Tryz.prog 73 #[.slice A 9 c] w (qxq w p.snB) := by
 have c1 := h.cp1; have c2 := h.cp2; have c3 := h.gp1; have c4 := h.gp2; have c5 := h.tk
 have q3 := h.gs; have q4 := h.cl; have q5 := h.cu; have q6 := h.ts; have q7 := h.sp
 have n1 : Y1.l.length = 1 := by rw [l1]; rfl
 have n2 : Y2.l.length = 3 := by rw [l2]; rfl
 have n3 : Y3.l.length = p.gs.length := by rw [l3]
 have n4 : Y4.l.length = p.cl.length := by rw [l4]
 have n5 : Y5.l.length = p.cu.length := by rw [l5]
 have n6 : Y6.l.length = p.ts.length + 1 := by rw [l6]; rfl
 have n7 : Y7.l.length = p.sp.length := by rw [l7]
 have r6b := r6; rw [l6] at r6b
 have hc6b : p.ts.length + 1 ≤ Y6.c := by omega
 have hm : 3 * p.cp * (p.gp - 1) ≤ 3 * 64 * 255 := Nat.mul_le_mul (by omega) (by omega)
 refine s_ce Tryz.func73 [.slice A 9 c] [(0, .slice A 9 c)] fun a M => ?_
 have O := Mem.start w
 refine s_fs1 ?_
 refine fo M 0 rfl rfl (s_ea M O #[vI 0, vI 0, vQ 0, .slice none 0 0, .slice none 0 0, .slice none 0 0, .slice none 0 0, .slice none 0 0] fun a w2 g2 M O => ?_)
 refine s_d0 (s_fs1 ?_)
 refine fp M 1 0 [(14, .slice A 9 c)] fun a M => ?_
 obtain ⟨gA, oA, rfl, _⟩ := hr.qi (Nat.lt_of_le_of_lt (Nat.zero_le _) (show 1 < 9 from by decide)) (by decide)
 refine s_fz M O 1 rfl (v := vP gA (oA + 1)) (Yl.indexAddr (ad := ⟨gA, oA, none⟩) (y := 1) (sz := 1) rfl rfl rfl (by decide) (by kernel_rfl)) fun a M => ?_
 refine s_fz M O 2 rfl (v := .slice Y1.A Y1.l.length Y1.c) (Yl.qk rfl rfl (by kernel_rfl) (fun _ h => (h.old hr).zu (k := 1) (zq (F := Nw.val) (k := 1) (x := Y1) (rfl)))) fun a M => ?_
 obtain ⟨gq1, oq1, hq1, _⟩ := Rd.qi r1 (Nat.lt_of_le_of_lt (Nat.zero_le _) (show 0 < Y1.l.length from by omega)) (by decide)
 have hrq1 := r1; rw [hq1] at hrq1
 replace M := M.sp 16 (.slice (some ⟨gq1, oq1, none⟩) Y1.l.length Y1.c) rfl (by rw [hq1]; try rfl)
 refine s_fz M O 3 rfl (v := vP gq1 oq1) (Yl.indexAddr (ad := ⟨gq1, oq1, none⟩) (y := 0) (sz := 1) rfl rfl rfl (by omega) (by kernel_rfl)) fun a M => ?_
 refine s_fz M O 4 rfl (v := vQ (Y1.l.getD 0 0)) (Yl.o1 hrq1 0 0 (by omega) rfl rfl) fun a M => ?_
 replace M := M.sp 18 (vQ p.nx) rfl (by rw [l1]; rfl)
 refine fp M 1 5 [(19, vI (IntKind.i64.wrap (p.nx : Int)))] fun a M => ?_
 replace M := M.sp 19 (vI (toI p.nx)) rfl (rfl)
 refine s_fz M O 6 rfl (v := .agg #[vI (toI p.nx), vI 0, vQ 0, .slice none 0 0, .slice none 0 0, .slice none 0 0, .slice none 0 0, .slice none 0 0]) (Yl.build (vs := [(0, vI (toI p.nx))]) rfl (by kernel_rfl) (by kernel_rfl)) fun a M => ?_
 refine fo M 7 rfl rfl (s_ea M O #[vI 0, vI 0, vQ 0, .slice none 0 0, .slice none 0 0, .slice none 0 0, .slice none 0 0, .slice none 0 0] fun a w3 g3 M O => ?_)
 refine fo M 8 rfl rfl (e_sa M O 0 rfl rfl rfl rfl rfl zn rfl rfl (by simp [Value.oneCell']) fun w1_8 O => ?_)
 refine s_d0 (wp_seq ?_)
 refine qz O [.blk g3 #[vI (toI p.nx), vI 0, vQ 0, .slice none 0 0, .slice none 0 0, .slice none 0 0, .slice none 0 0, .slice none 0 0] 56, .blk g2 #[vI 0, vI 0, vQ 0, .slice none 0 0, .slice none 0 0, .slice none 0 0, .slice none 0 0, .slice none 0 0] 56] [0, 1] [16] fun O Z => ?_
 refine ap M (fun _ => Z) [0, 6] (bf 17 [0, 6]) [(27, .slice (some ⟨gA, oA, none⟩) 9 c), (21, .slice (some ⟨gA, oA, none⟩) 9 c)] fun a M => ?_
 refine s_az M Z 1 rfl (v := vP gA (oA + 2)) (Yl.indexAddr (ad := ⟨gA, oA, none⟩) (y := 2) (sz := 1) rfl rfl rfl (by decide) (by kernel_rfl)) fun a M => ?_
 refine s_az M Z 2 rfl (v := .slice Y2.A Y2.l.length Y2.c) (Yl.qk rfl rfl (by kernel_rfl) (fun _ h => (h.old hr).zu (k := 2) (zq (F := Nw.val) (k := 2) (x := Y2) (rfl)))) fun a M => ?_
 obtain ⟨gq7, oq7, hq7, _⟩ := Rd.qi r2 (Nat.lt_of_le_of_lt (Nat.zero_le _) (show 0 < Y2.l.length from by omega)) (by decide)
 have hrq7 := r2; rw [hq7] at hrq7
 replace M := M.sp 23 (.slice (some ⟨gq7, oq7, none⟩) Y2.l.length Y2.c) rfl (by rw [hq7]; try rfl)
 refine s_az M Z 3 rfl (v := vP gq7 oq7) (Yl.indexAddr (ad := ⟨gq7, oq7, none⟩) (y := 0) (sz := 1) rfl rfl rfl (by omega) (by kernel_rfl)) fun a M => ?_
 refine s_az M Z 4 rfl (v := vQ (Y2.l.getD 0 0)) (Yl.o1 hrq7 0 0 (by omega) rfl rfl) fun a M => ?_
 replace M := M.sp 25 (vQ p.cp) rfl (by rw [l2]; rfl)
 refine qg M (fun _ => Z) (i := 5) rfl rfl (d := 26) rfl (by decide) (by kernel_rfl) (fun _ _ _ h => h) (v := vI (IntKind.i64.wrap (p.cp : Int))) (fun _ => Yl.pure (by kernel_rfl)) fun a M => ?_
 replace M := M.sp 26 (vI p.cp) rfl (congrArg (Value.int .i64) (qjg (by omega)))
 refine s_az M Z 7 rfl (v := vP gA (oA + 2)) (Yl.indexAddr (ad := ⟨gA, oA, none⟩) (y := 2) (sz := 1) rfl rfl rfl (by decide) (by kernel_rfl)) fun a M => ?_
 refine s_az M Z 8 rfl (v := .slice Y2.A Y2.l.length Y2.c) (Yl.qk rfl rfl (by kernel_rfl) (fun _ h => (h.old hr).zu (k := 2) (zq (F := Nw.val) (k := 2) (x := Y2) (rfl)))) fun a M => ?_
 replace M := M.sp 29 (.slice (some ⟨gq7, oq7, none⟩) Y2.l.length Y2.c) rfl (by rw [hq7]; try rfl)
 refine s_az M Z 9 rfl (v := vP gq7 (oq7 + 1)) (Yl.indexAddr (ad := ⟨gq7, oq7, none⟩) (y := 1) (sz := 1) rfl rfl rfl (by omega) (by kernel_rfl)) fun a M => ?_
 refine s_az M Z 10 rfl (v := vQ (Y2.l.getD 1 0)) (Yl.o1 hrq7 1 0 (by omega) rfl rfl) fun a M => ?_
 replace M := M.sp 31 (vQ p.cr) rfl (by rw [l2]; rfl)
 refine s_az M Z 11 rfl (v := .agg #[vI 0, vI 1]) (Yl.build (vs := [(1, vI 1)]) rfl (by kernel_rfl) (by kernel_rfl)) fun a M => ?_
 refine s_on M 12 rfl (s_el M O ei_gr [(0, .agg #[vI 0, vI 1])] #[vI 0, vI 1] fun a w33 g33 M O => ?_)
 refine keepS (O.pk [1, 2]) (fun Z => ?_)
 refine s_az M Z 13 rfl (v := .agg #[vI p.cp, vQ p.cr, vS g33 1 1]) (Yl.build (vs := [(0, vI p.cp), (1, vQ p.cr), (2, vS g33 1 1)]) rfl (by kernel_rfl) (by kernel_rfl)) fun a M => ?_
 refine ap M (fun _ => Z) [14, 15] (bt 17 [16]) [(36, vP g3 1)] fun a M => ?_
 refine s_on M 16 rfl (e_sp M O 1 (es := #[vI (toI p.nx), vI p.cp, vQ p.cr, vS g33 1 1, .slice none 0 0, .slice none 0 0, .slice none 0 0, .slice none 0 0]) rfl rfl rfl rfl rfl qbo (Nat.le_of_ble_eq_true rfl) rfl (by simp [Value.oneCell']) rfl fun w2_16 O => ?_)
 refine noS (by kernel_rfl) ?_
 refine qh (by kernel_rfl) ?_
 replace O := (O.blkRow (i := 0) (n := 1) (size := 2) rfl rfl (by decide)).asRow (i := 0) (ys := ([⟨0, 1⟩] : List Gr).flatMap grL) rfl (rfl)
 replace O := O.reBlk (i := 1) (ds := #[vI (toI p.nx), vI p.cp, vQ p.cr, vS g33 (([⟨0, 1⟩] : List Gr).length) 1, .slice none 0 0, .slice none 0 0, .slice none 0 0, .slice none 0 0]) rfl (rfl)
 replace O : Mem w _ [.row (vS g33 (([⟨0, 1⟩] : List Gr).length) 1) (([⟨0, 1⟩] : List Gr).length) (([⟨0, 1⟩] : List Gr).flatMap grL) 40 2, .blk g3 #[vI (toI p.nx), vI p.cp, vQ p.cr, vS g33 (([⟨0, 1⟩] : List Gr).length) 1, .slice none 0 0, .slice none 0 0, .slice none 0 0, .slice none 0 0] 56, .blk g2 #[vI 0, vI 0, vQ 0, .slice none 0 0, .slice none 0 0, .slice none 0 0, .slice none 0 0, .slice none 0 0] 56] := O
 refine wp_seq (s_fs1 ?_)
 refine fp M 1 0 [(4, vI 0)] fun a M => s_d0 (wp_block ?_)
 refine qe (fun mS aS wS => ∃ (j : Nat) (G : List Gr) (Ag : Option Addr) (cg : Nat), (j + 1 ≤ p.gp) ∧ (G = mapR (j + 1) p.grp) ∧ (G.length = j + 1) ∧ (G.length ≤ cg) ∧ mS = p.gp - j ∧ Fr aS 221 [] [(4, vI (2 * j : Nat)), (3, vP g3 0), (2, vP g2 0), (0, .slice (some ⟨gA, oA, none⟩) 9 c)] ∧ Mem w wS [.row (.slice Ag G.length cg) G.length (G.flatMap grL) 40 2, .blk g3 #[vI (toI p.nx), vI p.cp, vQ p.cr, .slice Ag G.length cg, .slice none 0 0, .slice none 0 0, .slice none 0 0, .slice none 0 0] 56, .blk g2 #[vI 0, vI 0, vQ 0, .slice none 0 0, .slice none 0 0, .slice none 0 0, .slice none 0 0, .slice none 0 0] 56]) (m := p.gp - 0) ⟨0, [⟨0, 1⟩], (some ⟨g33, 0, none⟩), 1, by omega, rfl, rfl, Nat.le_refl _, rfl, M.sub (by kernel_rfl), O.pk [0, 1, 2]⟩ ?_
 clear M O; rintro mS a w_ ⟨j, G, Ag, cg, hj, hG, hGl, hGc, rfl, M, O⟩
 refine wp_seq (s_fs1 ?_)
 refine fp M 2 0 [(38, .slice (some ⟨gA, oA, none⟩) 9 c), (37, vI (2 * j : Nat))] fun a M => s_fz M O 2 rfl (v := vP gA (oA + 3)) (Yl.indexAddr (ad := ⟨gA, oA, none⟩) (y := 3) (sz := 1) rfl rfl rfl (by decide) (by kernel_rfl)) fun a M => ?_
 refine s_fz M O 3 rfl (v := .slice Y3.A Y3.l.length Y3.c) (Yl.qk rfl rfl (by kernel_rfl) (fun _ h => (h.old hr).zu (k := 3) (zq (F := Nw.val) (k := 3) (x := Y3) (rfl)))) fun a M => ?_
 refine s_fl M 4 fun a M => ?_
 refine fp M 1 5 [(42, .bool (decide (((2 * j : Nat) : Int) < (Y3.l.length : Int))))] fun a M => s_d0 ?_
 rcases M.tf 42 rfl with ⟨hb42, M⟩ | ⟨hb42, M⟩
 ·
  have hd42 := of_decide_eq_true hb42
  have hj2 : j + 1 < p.gp := by omega
  have hgr : p.grp (j + 1) = (⟨toI (p.gs.getD (2 * j) 0), toI (p.gs.getD (2 * j + 1) 0)⟩ : Gr) := if_neg (by omega)
  obtain ⟨gq8, oq8, hq8, _⟩ := Rd.qi r3 (Nat.lt_of_le_of_lt (Nat.zero_le _) (show 2 * j < Y3.l.length from (by omega : 2 * j < Y3.l.length))) (by decide)
  have hrq8 := r3; rw [hq8] at hrq8
  refine s_ct M (wp_skip (wp_seq (wp_block ?_)))
  refine qz O [.blk g3 #[vI (toI p.nx), vI p.cp, vQ p.cr, .slice Ag G.length cg, .slice none 0 0, .slice none 0 0, .slice none 0 0, .slice none 0 0] 56, .blk g2 #[vI 0, vI 0, vQ 0, .slice none 0 0, .slice none 0 0, .slice none 0 0, .slice none 0 0, .slice none 0 0] 56] [1, 2] [25] fun O Z => ?_
  refine ap M (fun _ => Z) [0, 1, 2, 4, 7, 11, 14] (bf 26 [0, 1, 2, 4, 7, 11, 14]) [(59, vI (2 * j : Nat)), (56, .slice (some ⟨gA, oA, none⟩) 9 c), (52, vI (2 * j : Nat)), (49, .slice (some ⟨gA, oA, none⟩) 9 c), (47, vP g3 3)] fun a M => ?_
  refine s_ac M Z 3 0 fun a M => ?_
  refine s_az M Z 5 rfl (v := vP gA (oA + 3)) (Yl.indexAddr (ad := ⟨gA, oA, none⟩) (y := 3) (sz := 1) rfl rfl rfl (by decide) (by kernel_rfl)) fun a M => ?_
  refine s_az M Z 6 rfl (v := .slice Y3.A Y3.l.length Y3.c) (Yl.qk rfl rfl (by kernel_rfl) (fun _ h => (h.old hr).zu (k := 3) (zq (F := Nw.val) (k := 3) (x := Y3) (rfl)))) fun a M => ?_
  replace M := M.sp 51 (.slice (some ⟨gq8, oq8, none⟩) Y3.l.length Y3.c) rfl (by rw [hq8]; try rfl)
  refine s_az M Z 8 rfl (v := vP gq8 (oq8 + (2 * j) * 1)) (Yl.ix gq8 oq8 (2 * j) 1 rfl rfl rfl) fun a M => ?_
  refine s_az M Z 9 rfl (v := vQ (Y3.l.getD (2 * j) 0)) (Yl.o1 hrq8 (2 * j) 0 (by omega) rfl rfl) fun a M => ?_
  replace M := M.sp 54 (vQ (p.gs.getD (2 * j) 0)) rfl (by rw [l3])
  refine qg M (fun _ => Z) (i := 10) rfl rfl (d := 55) rfl (by decide) (by kernel_rfl) (fun _ _ _ h => h) (v := vI (IntKind.i64.wrap (p.gs.getD (2 * j) 0 : Int))) (fun _ => Yl.pure (by kernel_rfl)) fun a M => ?_
  replace M := M.sp 55 (vI (toI (p.gs.getD (2 * j) 0))) rfl (rfl)
  refine s_az M Z 12 rfl (v := vP gA (oA + 3)) (Yl.indexAddr (ad := ⟨gA, oA, none⟩) (y := 3) (sz := 1) rfl rfl rfl (by decide) (by kernel_rfl)) fun a M => ?_
  refine s_az M Z 13 rfl (v := .slice Y3.A Y3.l.length Y3.c) (Yl.qk rfl rfl (by kernel_rfl) (fun _ h => (h.old hr).zu (k := 3) (zq (F := Nw.val) (k := 3) (x := Y3) (rfl)))) fun a M => ?_
  refine qg M (fun _ => Z) (i := 15) rfl rfl (d := 60) rfl (by decide) (by kernel_rfl) (fun _ _ _ h => h) (v := vI (IntKind.i64.wrap (((2 * j : Nat) : Int) + 1))) (fun _ => Yl.pure (by kernel_rfl)) fun a M => ?_
  replace M := M.sp 60 (vI (2 * j + 1 : Nat)) rfl (qc (by omega) (by omega))
  replace M := M.sp 58 (.slice (some ⟨gq8, oq8, none⟩) Y3.l.length Y3.c) rfl (by rw [hq8]; try rfl)
  refine s_az M Z 16 rfl (v := vP gq8 (oq8 + (2 * j + 1) * 1)) (Yl.ix gq8 oq8 (2 * j + 1) 1 rfl rfl rfl) fun a M => ?_
  refine s_az M Z 17 rfl (v := vQ (Y3.l.getD (2 * j + 1) 0)) (Yl.o1 hrq8 (2 * j + 1) 0 (by omega) rfl rfl) fun a M => ?_
  replace M := M.sp 62 (vQ (p.gs.getD (2 * j + 1) 0)) rfl (by rw [l3])
  refine qg M (fun _ => Z) (i := 18) rfl rfl (d := 63) rfl (by decide) (by kernel_rfl) (fun _ _ _ h => h) (v := vI (IntKind.i64.wrap (p.gs.getD (2 * j + 1) 0 : Int))) (fun _ => Yl.pure (by kernel_rfl)) fun a M => ?_
  replace M := M.sp 63 (vI (toI (p.gs.getD (2 * j + 1) 0))) rfl (rfl)
  refine s_az M Z 19 rfl (v := .agg #[vI (toI (p.gs.getD (2 * j) 0)), vI (toI (p.gs.getD (2 * j + 1) 0))]) (Yl.build (vs := [(0, vI (toI (p.gs.getD (2 * j) 0))), (1, vI (toI (p.gs.getD (2 * j + 1) 0)))]) rfl (by kernel_rfl) (by kernel_rfl)) fun a M => ?_
  refine s_on M 20 rfl (s_el M O ei_gr [(0, .agg #[vI (toI (p.gs.getD (2 * j) 0)), vI (toI (p.gs.getD (2 * j + 1) 0))])] #[vI (toI (p.gs.getD (2 * j) 0)), vI (toI (p.gs.getD (2 * j + 1) 0))] fun a w65 g65 M O => ?_)
  refine keepS (O.pk [2, 3]) (fun Z => ?_)
  refine s_on M 21 rfl (qd M O (i := 1) rfl ei_gr rfl rfl rfl (news := ([(⟨toI (p.gs.getD (2 * j) 0), toI (p.gs.getD (2 * j + 1) 0)⟩ : Gr)].flatMap grL)) (O.rdBlk (i := 0) (n := 1) (size := 2) rfl rfl) (qns _) (by omega) (by omega) rfl (by decide) fun a w66 A66 c66 M O hc66 => ?_)
  refine keepS (O.pk [2, 3]) (fun Z => ?_)
  refine ap M (fun _ => Z) [22, 23, 24] (bt 26 [25]) [(69, vP g3 3)] fun a M => ?_
  refine s_on M 25 rfl (s_es M O 2 fun w6_25 O => ?_)
  refine noS (by kernel_rfl) ?_
  refine qh (by kernel_rfl) ?_
  have hnA66 : G.length + 1 = (G ++ [p.grp (j + 1)]).length := qs rfl
  replace O := O.reRow (i := 1) (ys := (G ++ [p.grp (j + 1)]).flatMap grL) rfl hnA66 (by rw [hgr]; exact List.flatMap_append.symm)
  rw [hnA66] at hc66
  replace M := M.sp 66 (.slice A66 ((G ++ [p.grp (j + 1)]).length) c66) rfl (by rw [hnA66])
  replace O := O.reBlk (i := 2) (ds := #[vI (toI p.nx), vI p.cp, vQ p.cr, .slice A66 ((G ++ [p.grp (j + 1)]).length) c66, .slice none 0 0, .slice none 0 0, .slice none 0 0, .slice none 0 0]) rfl (by rw [hnA66]; rfl)
  replace O : Mem w _ [.blk g65 #[vI (toI (p.gs.getD (2 * j) 0)), vI (toI (p.gs.getD (2 * j + 1) 0))] 40, .row (.slice A66 ((G ++ [p.grp (j + 1)]).length) c66) ((G ++ [p.grp (j + 1)]).length) ((G ++ [p.grp (j + 1)]).flatMap grL) 40 2, .blk g3 #[vI (toI p.nx), vI p.cp, vQ p.cr, .slice A66 ((G ++ [p.grp (j + 1)]).length) c66, .slice none 0 0, .slice none 0 0, .slice none 0 0, .slice none 0 0] 56, .blk g2 #[vI 0, vI 0, vQ 0, .slice none 0 0, .slice none 0 0, .slice none 0 0, .slice none 0 0, .slice none 0 0] 56] := O
  refine qa ?_
  refine fp M 2 0 [(44, vI (IntKind.i64.wrap (((2 * j : Nat) : Int) + 2)))] fun a M => ?_
  replace M := M.sp 44 (vI (2 * (j + 1) : Nat)) rfl (qc (by omega) (by omega))
  refine fp M 1 2 [(4, vI (2 * (j + 1) : Nat))] fun a M => s_d0 ?_
  exact ⟨_, (by omega), j + 1, (G ++ [p.grp (j + 1)]), A66, c66, by omega, by rw [hG, zc (j + 1)], by rw [List.length_append, hGl]; rfl, hc66, rfl, M.sub (by kernel_rfl), O.pk [1, 2, 3]⟩
 have hd42 := of_decide_eq_false hb42
 refine s_cf M (wp_exit (wp_seq (s_fs1 ?_)))
 refine fp M 1 0 [(5, vI 0)] fun a M => s_d0 ?_
 replace O := O.nil 3 1
 replace O := O.nil 3 1
 refine wp_block ?_
 refine qe (fun mS aS wS => ∃ (k : Nat) (C : List Int) (Al : Option Addr) (cl : Nat) (U : List Int) (Au : Option Addr) (cu : Nat), (k ≤ p.cp) ∧ (C = mapR k fun i => toI (p.cl.getD i 0)) ∧ (C.length = k) ∧ (C.length ≤ cl) ∧ (U = mapR k fun i => toI (p.cu.getD i 0)) ∧ (U.length = k) ∧ (U.length ≤ cu) ∧ mS = p.cp - k ∧ Fr aS 221 [] [(5, vI k), (42, .bool false), (4, vI (2 * j : Nat)), (3, vP g3 0), (2, vP g2 0), (0, .slice (some ⟨gA, oA, none⟩) 9 c)] ∧ Mem w wS [.row (.slice Au U.length cu) U.length (U.map I64i) 3 1, .row (.slice Al C.length cl) C.length (C.map I64i) 3 1, .row (.slice Ag G.length cg) G.length (G.flatMap grL) 40 2, .blk g3 #[vI (toI p.nx), vI p.cp, vQ p.cr, .slice Ag G.length cg, .slice Al C.length cl, .slice Au U.length cu, .slice none 0 0, .slice none 0 0] 56, .blk g2 #[vI 0, vI 0, vQ 0, .slice none 0 0, .slice none 0 0, .slice none 0 0, .slice none 0 0, .slice none 0 0] 56]) (m := p.cp - 0) ⟨0, [], none, 0, [], none, 0, Nat.zero_le _, rfl, rfl, Nat.le_refl _, rfl, rfl, Nat.le_refl _, rfl, M.sub (by kernel_rfl), O.pk [0, 1, 2, 3, 4]⟩ ?_
 clear M O; rintro mS a w_ ⟨k, C, Al, cl, U, Au, cu, hk, hC, hCl, hCc, hU, hUl, hUc, rfl, M, O⟩
 refine wp_seq (s_fs1 ?_)
 refine fp M 2 0 [(71, .slice (some ⟨gA, oA, none⟩) 9 c), (70, vI k)] fun a M => s_fz M O 2 rfl (v := vP gA (oA + 4)) (Yl.indexAddr (ad := ⟨gA, oA, none⟩) (y := 4) (sz := 1) rfl rfl rfl (by decide) (by kernel_rfl)) fun a M => ?_
 refine s_fz M O 3 rfl (v := .slice Y4.A Y4.l.length Y4.c) (Yl.qk rfl rfl (by kernel_rfl) (fun _ h => (h.old hr).zu (k := 4) (zq (F := Nw.val) (k := 4) (x := Y4) (rfl)))) fun a M => ?_
 refine s_fl M 4 fun a M => ?_
 refine fp M 1 5 [(75, .bool (decide ((k : Int) < (Y4.l.length : Int))))] fun a M => s_d0 ?_
 rcases M.tf 75 rfl with ⟨hb75, M⟩ | ⟨hb75, M⟩
 ·
  have hd75 := of_decide_eq_true hb75
  have hk4 : k < Y4.l.length := by omega
  have hk5 : k < Y5.l.length := by omega
  obtain ⟨gq9, oq9, hq9, _⟩ := Rd.qi r4 (Nat.lt_of_le_of_lt (Nat.zero_le _) (show k < Y4.l.length from hk4)) (by decide)
  have hrq9 := r4; rw [hq9] at hrq9
  obtain ⟨gq10, oq10, hq10, _⟩ := Rd.qi r5 (Nat.lt_of_le_of_lt (Nat.zero_le _) (show k < Y5.l.length from hk5)) (by decide)
  have hrq10 := r5; rw [hq10] at hrq10
  refine s_ct M (wp_skip (wp_seq (wp_block (wp_seq ?_))))
  refine qz O [.row (.slice Au U.length cu) U.length (U.map I64i) 3 1, .row (.slice Ag G.length cg) G.length (G.flatMap grL) 40 2, .blk g3 #[vI (toI p.nx), vI p.cp, vQ p.cr, .slice Ag G.length cg, .slice Al C.length cl, .slice Au U.length cu, .slice none 0 0, .slice none 0 0] 56, .blk g2 #[vI 0, vI 0, vQ 0, .slice none 0 0, .slice none 0 0, .slice none 0 0, .slice none 0 0, .slice none 0 0] 56] [0, 2, 3, 4] [14] fun O Z => ?_
  refine ap M (fun _ => Z) [0, 1, 3, 6] (bf 15 [0, 1, 3, 6]) [(84, vI k), (81, .slice (some ⟨gA, oA, none⟩) 9 c), (79, vP g3 4)] fun a M => ?_
  refine s_ac M Z 2 2 fun a M => ?_
  refine s_az M Z 4 rfl (v := vP gA (oA + 4)) (Yl.indexAddr (ad := ⟨gA, oA, none⟩) (y := 4) (sz := 1) rfl rfl rfl (by decide) (by kernel_rfl)) fun a M => ?_
  refine s_az M Z 5 rfl (v := .slice Y4.A Y4.l.length Y4.c) (Yl.qk rfl rfl (by kernel_rfl) (fun _ h => (h.old hr).zu (k := 4) (zq (F := Nw.val) (k := 4) (x := Y4) (rfl)))) fun a M => ?_
  replace M := M.sp 83 (.slice (some ⟨gq9, oq9, none⟩) Y4.l.length Y4.c) rfl (by rw [hq9]; try rfl)
  refine s_az M Z 7 rfl (v := vP gq9 (oq9 + k * 1)) (Yl.ix gq9 oq9 k 1 rfl rfl rfl) fun a M => ?_
  refine s_az M Z 8 rfl (v := vQ (Y4.l.getD k 0)) (Yl.o1 hrq9 k 0 (by omega) rfl rfl) fun a M => ?_
  replace M := M.sp 86 (vQ (p.cl.getD k 0)) rfl (by rw [l4])
  refine qg M (fun _ => Z) (i := 9) rfl rfl (d := 87) rfl (by decide) (by kernel_rfl) (fun _ _ _ h => h) (v := vI (IntKind.i64.wrap (p.cl.getD k 0 : Int))) (fun _ => Yl.pure (by kernel_rfl)) fun a M => ?_
  replace M := M.sp 87 (vI (toI (p.cl.getD k 0))) rfl (rfl)
  refine s_on M 10 rfl (s_el M O qbu [(0, vI (toI (p.cl.getD k 0)))] #[vI (toI (p.cl.getD k 0))] fun a w88 g88 M O => ?_)
  refine keepS (O.pk [1, 3, 4, 5]) (fun Z => ?_)
  refine s_on M 11 rfl (qd M O (i := 2) rfl qbu rfl rfl rfl (news := ([toI (p.cl.getD k 0)].map I64i)) (O.rdBlk (i := 0) (n := 1) (size := 1) rfl rfl) (qg2 _) (by omega) (by omega) rfl (by decide) fun a w89 A89 c89 M O hc89 => ?_)
  refine keepS (O.pk [1, 3, 4, 5]) (fun Z => ?_)
  refine ap M (fun _ => Z) [12, 13] (bt 15 [14]) [(91, vP g3 4)] fun a M => ?_
  refine s_on M 14 rfl (s_es M O 4 fun w10_14 O => ?_)
  refine noS (by kernel_rfl) ?_
  refine qh (by kernel_rfl) ?_
  have hnA89 : C.length + 1 = (C ++ [toI (p.cl.getD k 0)]).length := qs rfl
  replace O := O.reRow (i := 2) (ys := (C ++ [toI (p.cl.getD k 0)]).map I64i) rfl hnA89 (by exact List.map_append.symm)
  rw [hnA89] at hc89
  replace M := M.sp 89 (.slice A89 ((C ++ [toI (p.cl.getD k 0)]).length) c89) rfl (by rw [hnA89])
  replace O := O.reBlk (i := 4) (ds := #[vI (toI p.nx), vI p.cp, vQ p.cr, .slice Ag G.length cg, .slice A89 ((C ++ [toI (p.cl.getD k 0)]).length) c89, .slice Au U.length cu, .slice none 0 0, .slice none 0 0]) rfl (by rw [hnA89]; rfl)
  replace O : Mem w _ [.blk g88 #[vI (toI (p.cl.getD k 0))] 3, .row (.slice Au U.length cu) U.length (U.map I64i) 3 1, .row (.slice A89 ((C ++ [toI (p.cl.getD k 0)]).length) c89) ((C ++ [toI (p.cl.getD k 0)]).length) ((C ++ [toI (p.cl.getD k 0)]).map I64i) 3 1, .row (.slice Ag G.length cg) G.length (G.flatMap grL) 40 2, .blk g3 #[vI (toI p.nx), vI p.cp, vQ p.cr, .slice Ag G.length cg, .slice A89 ((C ++ [toI (p.cl.getD k 0)]).length) c89, .slice Au U.length cu, .slice none 0 0, .slice none 0 0] 56, .blk g2 #[vI 0, vI 0, vQ 0, .slice none 0 0, .slice none 0 0, .slice none 0 0, .slice none 0 0, .slice none 0 0] 56] := O
  refine qz O [.blk g88 #[vI (toI (p.cl.getD k 0))] 3, .row (.slice A89 ((C ++ [toI (p.cl.getD k 0)]).length) c89) ((C ++ [toI (p.cl.getD k 0)]).length) ((C ++ [toI (p.cl.getD k 0)]).map I64i) 3 1, .row (.slice Ag G.length cg) G.length (G.flatMap grL) 40 2, .blk g3 #[vI (toI p.nx), vI p.cp, vQ p.cr, .slice Ag G.length cg, .slice A89 ((C ++ [toI (p.cl.getD k 0)]).length) c89, .slice Au U.length cu, .slice none 0 0, .slice none 0 0] 56, .blk g2 #[vI 0, vI 0, vQ 0, .slice none 0 0, .slice none 0 0, .slice none 0 0, .slice none 0 0, .slice none 0 0] 56] [0, 2, 3, 4, 5] [14] fun O Z => ?_
  refine ap M (fun _ => Z) [0, 1, 3, 6] (bf 15 [0, 1, 3, 6]) [(98, vI k), (95, .slice (some ⟨gA, oA, none⟩) 9 c), (93, vP g3 5)] fun a M => ?_
  refine s_ac M Z 2 3 fun a M => ?_
  refine s_az M Z 4 rfl (v := vP gA (oA + 5)) (Yl.indexAddr (ad := ⟨gA, oA, none⟩) (y := 5) (sz := 1) rfl rfl rfl (by decide) (by kernel_rfl)) fun a M => ?_
  refine s_az M Z 5 rfl (v := .slice Y5.A Y5.l.length Y5.c) (Yl.qk rfl rfl (by kernel_rfl) (fun _ h => (h.old hr).zu (k := 5) (zq (F := Nw.val) (k := 5) (x := Y5) (rfl)))) fun a M => ?_
  replace M := M.sp 97 (.slice (some ⟨gq10, oq10, none⟩) Y5.l.length Y5.c) rfl (by rw [hq10]; try rfl)
  refine s_az M Z 7 rfl (v := vP gq10 (oq10 + k * 1)) (Yl.ix gq10 oq10 k 1 rfl rfl rfl) fun a M => ?_
  refine s_az M Z 8 rfl (v := vQ (Y5.l.getD k 0)) (Yl.o1 hrq10 k 0 (by omega) rfl rfl) fun a M => ?_
  replace M := M.sp 100 (vQ (p.cu.getD k 0)) rfl (by rw [l5])
  refine qg M (fun _ => Z) (i := 9) rfl rfl (d := 101) rfl (by decide) (by kernel_rfl) (fun _ _ _ h => h) (v := vI (IntKind.i64.wrap (p.cu.getD k 0 : Int))) (fun _ => Yl.pure (by kernel_rfl)) fun a M => ?_
  replace M := M.sp 101 (vI (toI (p.cu.getD k 0))) rfl (rfl)
  refine s_on M 10 rfl (s_el M O qbu [(0, vI (toI (p.cu.getD k 0)))] #[vI (toI (p.cu.getD k 0))] fun a w102 g102 M O => ?_)
  refine keepS (O.pk [1, 3, 4, 5, 6]) (fun Z => ?_)
  refine s_on M 11 rfl (qd M O (i := 2) rfl qbu rfl rfl rfl (news := ([toI (p.cu.getD k 0)].map I64i)) (O.rdBlk (i := 0) (n := 1) (size := 1) rfl rfl) (qg2 _) (by omega) (by omega) rfl (by decide) fun a w103 A103 c103 M O hc103 => ?_)
  refine keepS (O.pk [1, 3, 4, 5, 6]) (fun Z => ?_)
  refine ap M (fun _ => Z) [12, 13] (bt 15 [14]) [(105, vP g3 5)] fun a M => ?_
  refine s_on M 14 rfl (s_es M O 5 fun w11_14 O => ?_)
  refine noS (by kernel_rfl) ?_
  refine qh (by kernel_rfl) ?_
  have hnA103 : U.length + 1 = (U ++ [toI (p.cu.getD k 0)]).length := qs rfl
  replace O := O.reRow (i := 2) (ys := (U ++ [toI (p.cu.getD k 0)]).map I64i) rfl hnA103 (by exact List.map_append.symm)
  rw [hnA103] at hc103
  replace M := M.sp 103 (.slice A103 ((U ++ [toI (p.cu.getD k 0)]).length) c103) rfl (by rw [hnA103])
  replace O := O.reBlk (i := 5) (ds := #[vI (toI p.nx), vI p.cp, vQ p.cr, .slice Ag G.length cg, .slice A89 ((C ++ [toI (p.cl.getD k 0)]).length) c89, .slice A103 ((U ++ [toI (p.cu.getD k 0)]).length) c103, .slice none 0 0, .slice none 0 0]) rfl (by rw [hnA103]; rfl)
  replace O : Mem w _ [.blk g102 #[vI (toI (p.cu.getD k 0))] 3, .blk g88 #[vI (toI (p.cl.getD k 0))] 3, .row (.slice A103 ((U ++ [toI (p.cu.getD k 0)]).length) c103) ((U ++ [toI (p.cu.getD k 0)]).length) ((U ++ [toI (p.cu.getD k 0)]).map I64i) 3 1, .row (.slice A89 ((C ++ [toI (p.cl.getD k 0)]).length) c89) ((C ++ [toI (p.cl.getD k 0)]).length) ((C ++ [toI (p.cl.getD k 0)]).map I64i) 3 1, .row (.slice Ag G.length cg) G.length (G.flatMap grL) 40 2, .blk g3 #[vI (toI p.nx), vI p.cp, vQ p.cr, .slice Ag G.length cg, .slice A89 ((C ++ [toI (p.cl.getD k 0)]).length) c89, .slice A103 ((U ++ [toI (p.cu.getD k 0)]).length) c103, .slice none 0 0, .slice none 0 0] 56, .blk g2 #[vI 0, vI 0, vQ 0, .slice none 0 0, .slice none 0 0, .slice none 0 0, .slice none 0 0, .slice none 0 0] 56] := O
  refine qa ?_
  refine fp M 2 0 [(77, vI (IntKind.i64.wrap ((k : Int) + 1)))] fun a M => ?_
  replace M := M.sp 77 (vI (k + 1 : Nat)) rfl (qc (by omega) (by omega))
  refine fp M 1 2 [(5, vI (k + 1 : Nat))] fun a M => s_d0 ?_
  exact ⟨_, (by omega), k + 1, (C ++ [toI (p.cl.getD k 0)]), A89, c89, (U ++ [toI (p.cu.getD k 0)]), A103, c103, by omega, by rw [hC, zc], by rw [List.length_append, hCl]; rfl, hc89, by rw [hU, zc], by rw [List.length_append, hUl]; rfl, hc103, rfl, M.sub (by kernel_rfl), O.pk [2, 3, 4, 5, 6]⟩
 have hd75 := of_decide_eq_false hb75
 refine s_cf M (wp_exit (s_fs1 ?_))
 refine fp M 1 0 [(6, vI 0)] fun a M => s_d0 (wp_seq (s_fs1 ?_))
 refine fp M 1 0 [(7, vI 1)] fun a M => s_d0 ?_
 replace O := O.nil 46 8
 refine wp_block ?_
 refine qe (fun mS aS wS => ∃ (i : Nat) (T : List Tk) (At : Option Addr) (ct : Nat), (i ≤ p.tk) ∧ (T = mapR i p.tskB) ∧ (T.length = i) ∧ (T.length ≤ ct) ∧ mS = p.tk - i ∧ Fr aS 221 [] [(7, vI (1 + 8 * i : Nat)), (6, vI (p.idC i)), (75, .bool false), (5, vI k), (42, .bool false), (4, vI (2 * j : Nat)), (3, vP g3 0), (2, vP g2 0), (0, .slice (some ⟨gA, oA, none⟩) 9 c)] ∧ Mem w wS [.row (.slice At T.length ct) T.length (T.flatMap tkL) 46 8, .row (.slice Au U.length cu) U.length (U.map I64i) 3 1, .row (.slice Al C.length cl) C.length (C.map I64i) 3 1, .row (.slice Ag G.length cg) G.length (G.flatMap grL) 40 2, .blk g3 #[vI (toI p.nx), vI p.cp, vQ p.cr, .slice Ag G.length cg, .slice Al C.length cl, .slice Au U.length cu, .slice At T.length ct, .slice none 0 0] 56, .blk g2 #[vI 0, vI 0, vQ 0, .slice none 0 0, .slice none 0 0, .slice none 0 0, .slice none 0 0, .slice none 0 0] 56]) (m := p.tk - 0) ⟨0, [], none, 0, Nat.zero_le _, rfl, rfl, Nat.le_refl _, rfl, M.sub (by kernel_rfl), O.pk [0, 1, 2, 3, 4, 5]⟩ ?_
 clear M O; rintro mS a w_ ⟨i, T, At, ct, hi, hT, hTl, hTc, rfl, M, O⟩
 refine wp_seq (s_fs1 ?_)
 refine fp M 2 0 [(107, .slice (some ⟨gA, oA, none⟩) 9 c), (106, vI (1 + 8 * i : Nat))] fun a M => s_fz M O 2 rfl (v := vP gA (oA + 6)) (Yl.indexAddr (ad := ⟨gA, oA, none⟩) (y := 6) (sz := 1) rfl rfl rfl (by decide) (by kernel_rfl)) fun a M => ?_
 refine s_fz M O 3 rfl (v := .slice Y6.A Y6.l.length Y6.c) (Yl.qk rfl rfl (by kernel_rfl) (fun _ h => (h.old hr).zu (k := 6) (zq (F := Nw.val) (k := 6) (x := Y6) (rfl)))) fun a M => ?_
 refine s_fl M 4 fun a M => ?_
 refine fp M 1 5 [(111, .bool (decide (((1 + 8 * i : Nat) : Int) < (Y6.l.length : Int))))] fun a M => s_d0 ?_
 rcases M.tf 111 rfl with ⟨hb111, M⟩ | ⟨hb111, M⟩
 ·
  have hd111 := of_decide_eq_true hb111
  have hi9 : i < p.tk := by omega
  obtain ⟨gq11, oq11, hq11, _⟩ := Rd.qi r6 (Nat.lt_of_le_of_lt (Nat.zero_le _) (show 0 < Y6.l.length from (by omega : 0 < Y6.l.length))) (by decide)
  have hrq11 := r6; rw [hq11] at hrq11
  refine s_ct M (wp_skip (wp_seq (wp_block (wp_seq ?_))))
  obtain ⟨gX, oX, hX, _⟩ := Rd.qi (qt5 h hi9 r6b hc6b) (by decide) (by decide)
  have hrX := qt5 h hi9 r6b hc6b; rw [hX] at hrX
  skip
  ·
   refine qa ?_
   refine fp M 1 0 [(114, .slice (some ⟨gA, oA, none⟩) 9 c)] fun a M => s_fz M O 1 rfl (v := vP gA (oA + 6)) (Yl.indexAddr (ad := ⟨gA, oA, none⟩) (y := 6) (sz := 1) rfl rfl rfl (by decide) (by kernel_rfl)) fun a M => ?_
   refine s_fz M O 2 rfl (v := .slice Y6.A Y6.l.length Y6.c) (Yl.qk rfl rfl (by kernel_rfl) (fun _ h => (h.old hr).zu (k := 6) (zq (F := Nw.val) (k := 6) (x := Y6) (rfl)))) fun a M => ?_
   refine fp M 3 3 [(119, vI (IntKind.i64.wrap (((1 + 8 * i : Nat) : Int) + 8))), (117, vI (1 + 8 * i : Nat))] fun a M => ?_
   replace M := M.sp 119 (vI (1 + 8 * i + 8 : Nat)) rfl (qc (by omega) (by omega))
   refine s_fz M O 6 rfl (v := .slice (if Y6.c = (1 + 8 * i) then Y6.A else (Y6.A : Option Addr).map (·.add ((1 + 8 * i) * 1))) ((1 + 8 * i + 8) - (1 + 8 * i)) (Y6.c - (1 + 8 * i))) (Yl.qiu zd (i := (1 + 8 * i)) (j := (1 + 8 * i + 8)) rfl rfl rfl rfl (by omega) (by omega)) fun a M => ?_
   replace M := M.sp 120 (.slice (some ⟨gX, oX, none⟩) 8 (Y6.c - (1 + 8 * i))) rfl (by rw [hX, Nat.add_sub_cancel_left])
   refine fp M 1 7 [(8, .slice (some ⟨gX, oX, none⟩) 8 (Y6.c - (1 + 8 * i)))] fun a M => s_d0 (s_fs1 ?_)
   refine fp M 2 0 [(122, .slice (some ⟨gX, oX, none⟩) 8 (Y6.c - (1 + 8 * i))), (121, vI (p.idC i))] fun a M => s_fz M O 2 rfl (v := vP gX oX) (Yl.indexAddr (ad := ⟨gX, oX, none⟩) (y := 0) (sz := 1) rfl rfl rfl (by decide) (by kernel_rfl)) fun a M => ?_
   refine s_fz M O 3 rfl (v := vQ ((p.tnL i).getD 0 0)) (Yl.qk rfl rfl (by kernel_rfl) (fun _ h => (h.old hrX).zu (k := 0) (zq (F := U64) (k := 0) (x := ((p.tnL i).getD 0 0)) (rfl)))) fun a M => ?_
   replace M := M.sp 124 (vQ (p.tn i 0)) rfl (rfl)
   refine fp M 1 4 [(125, vI (IntKind.i64.wrap (p.tn i 0 : Int)))] fun a M => ?_
   replace M := M.sp 125 (vI (toI (p.tn i 0))) rfl (rfl)
   refine fp M 1 5 [(126, vI (IntKind.i64.wrap ((p.idC i) + (toI (p.tn i 0)))))] fun a M => ?_
   replace M := M.sp 126 (vI (p.idC (i + 1))) rfl (rfl)
   refine fp M 1 6 [(6, vI (p.idC (i + 1)))] fun a M => s_d0 (qz O [.row (.slice Au U.length cu) U.length (U.map I64i) 3 1, .row (.slice Al C.length cl) C.length (C.map I64i) 3 1, .row (.slice Ag G.length cg) G.length (G.flatMap grL) 40 2, .blk g3 #[vI (toI p.nx), vI p.cp, vQ p.cr, .slice Ag G.length cg, .slice Al C.length cl, .slice Au U.length cu, .slice At T.length ct, .slice none 0 0] 56, .blk g2 #[vI 0, vI 0, vQ 0, .slice none 0 0, .slice none 0 0, .slice none 0 0, .slice none 0 0, .slice none 0 0] 56] [1, 2, 3, 4, 5] [35] fun O Z => ?_)
   refine ap M (fun _ => Z) [0, 1, 3, 4, 8, 12, 16, 19, 23, 26] (bf 36 [0, 1, 3, 4, 8, 12, 16, 19, 23, 26]) [(153, .slice (some ⟨gX, oX, none⟩) 8 (Y6.c - (1 + 8 * i))), (150, .slice (some ⟨gX, oX, none⟩) 8 (Y6.c - (1 + 8 * i))), (146, .slice (some ⟨gX, oX, none⟩) 8 (Y6.c - (1 + 8 * i))), (143, .slice (some ⟨gX, oX, none⟩) 8 (Y6.c - (1 + 8 * i))), (139, .slice (some ⟨gX, oX, none⟩) 8 (Y6.c - (1 + 8 * i))), (135, .slice (some ⟨gX, oX, none⟩) 8 (Y6.c - (1 + 8 * i))), (131, .slice (some ⟨gX, oX, none⟩) 8 (Y6.c - (1 + 8 * i))), (130, vI (p.idC (i + 1))), (128, vP g3 6)] fun a M => ?_
   refine s_ac M Z 2 3 fun a M => ?_
   refine s_az M Z 5 rfl (v := vP gX (oX + 1)) (Yl.indexAddr (ad := ⟨gX, oX, none⟩) (y := 1) (sz := 1) rfl rfl rfl (by decide) (by kernel_rfl)) fun a M => ?_
   refine s_az M Z 6 rfl (v := vQ ((p.tnL i).getD 1 0)) (Yl.qk rfl rfl (by kernel_rfl) (fun _ h => (h.old hrX).zu (k := 1) (zq (F := U64) (k := 1) (x := ((p.tnL i).getD 1 0)) (rfl)))) fun a M => ?_
   replace M := M.sp 133 (vQ (p.tn i 1)) rfl (rfl)
   refine qg M (fun _ => Z) (i := 7) rfl rfl (d := 134) rfl (by decide) (by kernel_rfl) (fun _ _ _ h => h) (v := vI (IntKind.i64.wrap (p.tn i 1 : Int))) (fun _ => Yl.pure (by kernel_rfl)) fun a M => ?_
   replace M := M.sp 134 (vI (toI (p.tn i 1))) rfl (rfl)
   refine s_az M Z 9 rfl (v := vP gX (oX + 2)) (Yl.indexAddr (ad := ⟨gX, oX, none⟩) (y := 2) (sz := 1) rfl rfl rfl (by decide) (by kernel_rfl)) fun a M => ?_
   refine s_az M Z 10 rfl (v := vQ ((p.tnL i).getD 2 0)) (Yl.qk rfl rfl (by kernel_rfl) (fun _ h => (h.old hrX).zu (k := 2) (zq (F := U64) (k := 2) (x := ((p.tnL i).getD 2 0)) (rfl)))) fun a M => ?_
   replace M := M.sp 137 (vQ (p.tn i 2)) rfl (rfl)
   refine qg M (fun _ => Z) (i := 11) rfl rfl (d := 138) rfl (by decide) (by kernel_rfl) (fun _ _ _ h => h) (v := vI (IntKind.i64.wrap (p.tn i 2 : Int))) (fun _ => Yl.pure (by kernel_rfl)) fun a M => ?_
   replace M := M.sp 138 (vI (toI (p.tn i 2))) rfl (rfl)
   refine s_az M Z 13 rfl (v := vP gX (oX + 3)) (Yl.indexAddr (ad := ⟨gX, oX, none⟩) (y := 3) (sz := 1) rfl rfl rfl (by decide) (by kernel_rfl)) fun a M => ?_
   refine s_az M Z 14 rfl (v := vQ ((p.tnL i).getD 3 0)) (Yl.qk rfl rfl (by kernel_rfl) (fun _ h => (h.old hrX).zu (k := 3) (zq (F := U64) (k := 3) (x := ((p.tnL i).getD 3 0)) (rfl)))) fun a M => ?_
   replace M := M.sp 141 (vQ (p.tn i 3)) rfl (rfl)
   refine qg M (fun _ => Z) (i := 15) rfl rfl (d := 142) rfl (by decide) (by kernel_rfl) (fun _ _ _ h => h) (v := vI (IntKind.i64.wrap (p.tn i 3 : Int))) (fun _ => Yl.pure (by kernel_rfl)) fun a M => ?_
   replace M := M.sp 142 (vI (toI (p.tn i 3))) rfl (rfl)
   refine s_az M Z 17 rfl (v := vP gX (oX + 4)) (Yl.indexAddr (ad := ⟨gX, oX, none⟩) (y := 4) (sz := 1) rfl rfl rfl (by decide) (by kernel_rfl)) fun a M => ?_
   refine s_az M Z 18 rfl (v := vQ ((p.tnL i).getD 4 0)) (Yl.qk rfl rfl (by kernel_rfl) (fun _ h => (h.old hrX).zu (k := 4) (zq (F := U64) (k := 4) (x := ((p.tnL i).getD 4 0)) (rfl)))) fun a M => ?_
   replace M := M.sp 145 (vQ (p.tn i 4)) rfl (rfl)
   refine s_az M Z 20 rfl (v := vP gX (oX + 5)) (Yl.indexAddr (ad := ⟨gX, oX, none⟩) (y := 5) (sz := 1) rfl rfl rfl (by decide) (by kernel_rfl)) fun a M => ?_
   refine s_az M Z 21 rfl (v := vQ ((p.tnL i).getD 5 0)) (Yl.qk rfl rfl (by kernel_rfl) (fun _ h => (h.old hrX).zu (k := 5) (zq (F := U64) (k := 5) (x := ((p.tnL i).getD 5 0)) (rfl)))) fun a M => ?_
   replace M := M.sp 148 (vQ (p.tn i 5)) rfl (rfl)
   refine qg M (fun _ => Z) (i := 22) rfl rfl (d := 149) rfl (by decide) (by kernel_rfl) (fun _ _ _ h => h) (v := .bool (decide ((p.tn i 5 : Int) > (0 : Int)))) (fun _ => Yl.pure (by kernel_rfl)) fun a M => ?_
   replace M := M.sp 149 (.bool (decide (0 < p.tn i 5))) rfl (congrArg Value.bool (q0l _))
   refine s_az M Z 24 rfl (v := vP gX (oX + 6)) (Yl.indexAddr (ad := ⟨gX, oX, none⟩) (y := 6) (sz := 1) rfl rfl rfl (by decide) (by kernel_rfl)) fun a M => ?_
   refine s_az M Z 25 rfl (v := vQ ((p.tnL i).getD 6 0)) (Yl.qk rfl rfl (by kernel_rfl) (fun _ h => (h.old hrX).zu (k := 6) (zq (F := U64) (k := 6) (x := ((p.tnL i).getD 6 0)) (rfl)))) fun a M => ?_
   replace M := M.sp 152 (vQ (p.tn i 6)) rfl (rfl)
   refine s_az M Z 27 rfl (v := vP gX (oX + 7)) (Yl.indexAddr (ad := ⟨gX, oX, none⟩) (y := 7) (sz := 1) rfl rfl rfl (by decide) (by kernel_rfl)) fun a M => ?_
   refine s_az M Z 28 rfl (v := vQ ((p.tnL i).getD 7 0)) (Yl.qk rfl rfl (by kernel_rfl) (fun _ h => (h.old hrX).zu (k := 7) (zq (F := U64) (k := 7) (x := ((p.tnL i).getD 7 0)) (rfl)))) fun a M => ?_
   replace M := M.sp 155 (vQ (p.tn i 7)) rfl (rfl)
   refine qg M (fun _ => Z) (i := 29) rfl rfl (d := 156) rfl (by decide) (by kernel_rfl) (fun _ _ _ h => h) (v := vW (IntKind.u32.wrap (p.tn i 7 : Int))) (fun _ => Yl.pure (by kernel_rfl)) fun a M => ?_
   replace M := M.sp 156 (vW ((p.tn i 7) % 4294967296 : Nat)) rfl (qi1 (p.tn i 7))
   refine s_az M Z 30 rfl (v := .agg #[vI (p.idC (i + 1)), vI (toI (p.tn i 1)), vI (toI (p.tn i 2)), vI (toI (p.tn i 3)), vQ (p.tn i 4), .bool (decide (0 < p.tn i 5)), vQ (p.tn i 6), vW ((p.tn i 7) % 4294967296 : Nat)]) (Yl.build (vs := [(0, vI (p.idC (i + 1))), (1, vI (toI (p.tn i 1))), (2, vI (toI (p.tn i 2))), (3, vI (toI (p.tn i 3))), (4, vQ (p.tn i 4)), (5, .bool (decide (0 < p.tn i 5))), (6, vQ (p.tn i 6)), (7, vW ((p.tn i 7) % 4294967296 : Nat))]) rfl (by kernel_rfl) (by kernel_rfl)) fun a M => ?_
   refine s_on M 31 rfl (s_el M O ei_tk [(0, .agg #[vI (p.idC (i + 1)), vI (toI (p.tn i 1)), vI (toI (p.tn i 2)), vI (toI (p.tn i 3)), vQ (p.tn i 4), .bool (decide (0 < p.tn i 5)), vQ (p.tn i 6), vW ((p.tn i 7) % 4294967296 : Nat)])] #[vI (p.idC (i + 1)), vI (toI (p.tn i 1)), vI (toI (p.tn i 2)), vI (toI (p.tn i 3)), vQ (p.tn i 4), .bool (decide (0 < p.tn i 5)), vQ (p.tn i 6), vW ((p.tn i 7) % 4294967296 : Nat)] fun a w158 g158 M O => ?_)
   refine keepS (O.pk [2, 3, 4, 5, 6]) (fun Z => ?_)
   refine s_on M 32 rfl (qd M O (i := 1) rfl ei_tk rfl rfl rfl (news := ([p.tskB i].flatMap tkL)) (O.rdBlk (i := 0) (n := 1) (size := 8) rfl rfl) (qnt _) (by omega) (by omega) rfl (by decide) fun a w159 A159 c159 M O hc159 => ?_)
   refine keepS (O.pk [2, 3, 4, 5, 6]) (fun Z => ?_)
   refine ap M (fun _ => Z) [33, 34] (bt 36 [35]) [(161, vP g3 6)] fun a M => ?_
   refine s_on M 35 rfl (s_es M O 5 fun w18_35 O => ?_)
   refine noS (by kernel_rfl) ?_
   refine qh (by kernel_rfl) ?_
   replace M := M.to [(6, vI (p.idC (i + 1))), (8, .slice (some ⟨gX, oX, none⟩) 8 (Y6.c - (1 + 8 * i))), (111, .bool true), (7, vI (1 + 8 * i : Nat)), (75, .bool false), (5, vI k), (42, .bool false), (4, vI (2 * j : Nat)), (3, vP g3 0), (2, vP g2 0), (0, .slice (some ⟨gA, oA, none⟩) 9 c)]
   have hnA159 : T.length + 1 = (T ++ [p.tskB i]).length := qs rfl
   replace O := O.reRow (i := 1) (ys := (T ++ [p.tskB i]).flatMap tkL) rfl hnA159 (by exact List.flatMap_append.symm)
   rw [hnA159] at hc159
   replace O := O.reBlk (i := 5) (ds := #[vI (toI p.nx), vI p.cp, vQ p.cr, .slice Ag G.length cg, .slice Al C.length cl, .slice Au U.length cu, .slice A159 ((T ++ [p.tskB i]).length) c159, .slice none 0 0]) rfl (by rw [hnA159]; rfl)
   replace O : Mem w _ [.blk g158 #[vI (p.idC (i + 1)), vI (toI (p.tn i 1)), vI (toI (p.tn i 2)), vI (toI (p.tn i 3)), vQ (p.tn i 4), .bool (decide (0 < p.tn i 5)), vQ (p.tn i 6), vW ((p.tn i 7) % 4294967296 : Nat)] 46, .row (.slice A159 ((T ++ [p.tskB i]).length) c159) ((T ++ [p.tskB i]).length) ((T ++ [p.tskB i]).flatMap tkL) 46 8, .row (.slice Au U.length cu) U.length (U.map I64i) 3 1, .row (.slice Al C.length cl) C.length (C.map I64i) 3 1, .row (.slice Ag G.length cg) G.length (G.flatMap grL) 40 2, .blk g3 #[vI (toI p.nx), vI p.cp, vQ p.cr, .slice Ag G.length cg, .slice Al C.length cl, .slice Au U.length cu, .slice A159 ((T ++ [p.tskB i]).length) c159, .slice none 0 0] 56, .blk g2 #[vI 0, vI 0, vQ 0, .slice none 0 0, .slice none 0 0, .slice none 0 0, .slice none 0 0, .slice none 0 0] 56] := O
   refine qa ?_
   refine fp M 2 0 [(113, vI (IntKind.i64.wrap (((1 + 8 * i : Nat) : Int) + 8)))] fun a M => ?_
   replace M := M.sp 113 (vI (1 + 8 * (i + 1) : Nat)) rfl (qc (by omega) (by omega))
   refine fp M 1 2 [(7, vI (1 + 8 * (i + 1) : Nat))] fun a M => s_d0 ?_
   exact ⟨_, (by omega), i + 1, (T ++ [p.tskB i]), A159, c159, by omega, by rw [hT, zc], by rw [List.length_append, hTl]; rfl, hc159, rfl, M.sub (by kernel_rfl), O.pk [1, 2, 3, 4, 5, 6]⟩
 have hd111 := of_decide_eq_false hb111
 refine s_cf M (wp_exit (s_fs1 ?_))
 refine fp M 1 0 [(9, vI 0)] fun a M => s_d0 (wp_seq (s_fs1 ?_))
 refine fp M 1 0 [(10, vI 0)] fun a M => s_d0 ?_
 replace O := O.nil 44 1
 replace O := O.newTail 43 3
 replace O : Mem w _ (.row (.slice none 0 0) 0 [] 44 1 :: .row (.slice At T.length ct) T.length (T.flatMap tkL) 46 8 :: .row (.slice Au U.length cu) U.length (U.map I64i) 3 1 :: .row (.slice Al C.length cl) C.length (C.map I64i) 3 1 :: .row (.slice Ag G.length cg) G.length (G.flatMap grL) 40 2 :: .blk g3 #[vI (toI p.nx), vI p.cp, vQ p.cr, .slice Ag G.length cg, .slice Al C.length cl, .slice Au U.length cu, .slice At T.length ct, .slice none 0 0] 56 :: .blk g2 #[vI 0, vI 0, vQ 0, .slice none 0 0, .slice none 0 0, .slice none 0 0, .slice none 0 0, .slice none 0 0] 56 :: rwF 43 []) := O
 refine wp_block ?_
 refine qe (fun mS aS wS => ∃ (y : Nat) (z : List Rw) (As : Option Addr) (cs : Nat), (y ≤ p.gp) ∧ (z.length = y) ∧ (z.map Rw.l = mapR y p.row) ∧ (∀ q ∈ z, q.l.length ≤ q.c) ∧ (z.length ≤ cs) ∧ mS = p.gp - y ∧ Fr aS 221 [] [(10, vI y), (9, vI (p.so y 0)), (111, .bool false), (7, vI (1 + 8 * i : Nat)), (6, vI (p.idC i)), (75, .bool false), (5, vI k), (42, .bool false), (4, vI (2 * j : Nat)), (3, vP g3 0), (2, vP g2 0), (0, .slice (some ⟨gA, oA, none⟩) 9 c)] ∧ Mem w wS (.row (.slice As z.length cs) z.length (z.map Rw.val) 44 1 :: .row (.slice At T.length ct) T.length (T.flatMap tkL) 46 8 :: .row (.slice Au U.length cu) U.length (U.map I64i) 3 1 :: .row (.slice Al C.length cl) C.length (C.map I64i) 3 1 :: .row (.slice Ag G.length cg) G.length (G.flatMap grL) 40 2 :: .blk g3 #[vI (toI p.nx), vI p.cp, vQ p.cr, .slice Ag G.length cg, .slice Al C.length cl, .slice Au U.length cu, .slice At T.length ct, .slice As z.length cs] 56 :: .blk g2 #[vI 0, vI 0, vQ 0, .slice none 0 0, .slice none 0 0, .slice none 0 0, .slice none 0 0, .slice none 0 0] 56 :: rwF 43 z)) (m := p.gp - 0) ⟨0, [], none, 0, Nat.zero_le _, rfl, rfl, (fun q h => by cases h), Nat.le_refl _, rfl, M.sub (by kernel_rfl), O.pt 7 [0, 1, 2, 3, 4, 5, 6]⟩ ?_
 clear M O; rintro mS a w_ ⟨y, z, As, cs, hy, hzl, hz, hzc, hcs, rfl, M, O⟩
 refine wp_seq (s_fs1 ?_)
 refine fp M 4 0 [(165, vP g3 3), (162, vI y)] fun a M => s_fc M O 4 5 fun a M => ?_
 refine s_fl M 5 fun a M => ?_
 refine fp M 1 6 [(168, .bool (decide ((y : Int) < (G.length : Int))))] fun a M => s_d0 ?_
 rcases M.tf 168 rfl with ⟨hb168, M⟩ | ⟨hb168, M⟩
 ·
  have hd168 := of_decide_eq_true hb168
  have hyg : y < p.gp := by omega
  refine s_ct M (wp_skip (wp_seq (wp_block (s_fs1 ?_))))
  refine fp M 1 0 [(11, .slice none 0 0)] fun a M => s_d0 (wp_seq (s_fs1 ?_))
  refine fp M 1 0 [(12, vI 0)] fun a M => s_d0 ?_
  replace O := O.nil 43 3
  refine wp_block ?_
  refine qe (fun mS aS wS => ∃ (x : Nat) (R : List Sp) (Ar : Option Addr) (cr : Nat), (x ≤ p.cp) ∧ (R = mapR x (p.spt y)) ∧ (R.length = x) ∧ (R.length ≤ cr) ∧ mS = p.cp - x ∧ Fr aS 221 [] [(12, vI x), (11, .slice Ar R.length cr), (168, .bool true), (10, vI y), (9, vI (p.so y x)), (111, .bool false), (7, vI (1 + 8 * i : Nat)), (6, vI (p.idC i)), (75, .bool false), (5, vI k), (42, .bool false), (4, vI (2 * j : Nat)), (3, vP g3 0), (2, vP g2 0), (0, .slice (some ⟨gA, oA, none⟩) 9 c)] ∧ Mem w wS (.row (.slice Ar R.length cr) R.length (R.flatMap spL) 43 3 :: .row (.slice As z.length cs) z.length (z.map Rw.val) 44 1 :: .row (.slice At T.length ct) T.length (T.flatMap tkL) 46 8 :: .row (.slice Au U.length cu) U.length (U.map I64i) 3 1 :: .row (.slice Al C.length cl) C.length (C.map I64i) 3 1 :: .row (.slice Ag G.length cg) G.length (G.flatMap grL) 40 2 :: .blk g3 #[vI (toI p.nx), vI p.cp, vQ p.cr, .slice Ag G.length cg, .slice Al C.length cl, .slice Au U.length cu, .slice At T.length ct, .slice As z.length cs] 56 :: .blk g2 #[vI 0, vI 0, vQ 0, .slice none 0 0, .slice none 0 0, .slice none 0 0, .slice none 0 0, .slice none 0 0] 56 :: rwF 43 z)) (m := p.cp - 0) ⟨0, [], none, 0, Nat.zero_le _, rfl, rfl, Nat.le_refl _, rfl, M.sub (by kernel_rfl), O.pt 8 [0, 1, 2, 3, 4, 5, 6, 7]⟩ ?_
  clear M O; rintro mS a w_ ⟨x, R, Ar, cr, hx, hR, hRl, hRc, rfl, M, O⟩
  refine wp_seq (s_fs1 ?_)
  refine fp M 4 0 [(174, vP g3 1), (171, vI x)] fun a M => s_fc M O 4 6 fun a M => ?_
  refine fp M 1 5 [(176, .bool (decide ((x : Int) < (p.cp : Int))))] fun a M => s_d0 ?_
  rcases M.tf 176 rfl with ⟨hb176, M⟩ | ⟨hb176, M⟩
  ·
   have hd176 := of_decide_eq_true hb176
   have hxc : x < p.cp := by omega
   have hin := so_in h hyg hxc
   refine s_ct M (wp_skip (wp_seq (wp_block (s_fs1 ?_))))
   refine fo M 0 rfl rfl (s_ea M O #[vQ 0, vW 0, vQ 0] fun a w13 g13 M O => ?_)
   refine s_d0 (wp_seq (s_fs1 ?_))
   refine fp M 2 0 [(180, .bool (decide ((y : Int) > (0 : Int))))] fun a M => s_d0 ?_
   rcases M.tf 180 rfl with ⟨hb180, M⟩ | ⟨hb180, M⟩
   ·
    have hd180 := of_decide_eq_true hb180
    rw [if_neg (by omega)] at hin
    have hsp : p.spt y x = ⟨p.sn y x 0, p.sn y x 1 % 4294967296, p.sn y x 2⟩ := if_neg (by omega)
    obtain ⟨gq12, oq12, hq12, _⟩ := Rd.qi r7 (Nat.lt_of_le_of_lt (Nat.zero_le _) (show p.so y x < Y7.l.length from (by omega : p.so y x < Y7.l.length))) (by decide)
    have hrq12 := r7; rw [hq12] at hrq12
    refine s_ct M (s_fs1 ?_)
    refine fp M 1 0 [(181, .slice (some ⟨gA, oA, none⟩) 9 c)] fun a M => s_fz M O 1 rfl (v := vP gA (oA + 7)) (Yl.indexAddr (ad := ⟨gA, oA, none⟩) (y := 7) (sz := 1) rfl rfl rfl (by decide) (by kernel_rfl)) fun a M => ?_
    refine s_fz M O 2 rfl (v := .slice Y7.A Y7.l.length Y7.c) (Yl.qk rfl rfl (by kernel_rfl) (fun _ h => (h.old hr).zu (k := 7) (zq (F := Nw.val) (k := 7) (x := Y7) (rfl)))) fun a M => ?_
    refine fp M 1 3 [(184, vI (p.so y x))] fun a M => ?_
    replace M := M.sp 183 (.slice (some ⟨gq12, oq12, none⟩) Y7.l.length Y7.c) rfl (by rw [hq12]; try rfl)
    refine s_fz M O 4 rfl (v := vP gq12 (oq12 + (p.so y x) * 1)) (Yl.ix gq12 oq12 (p.so y x) 1 rfl rfl rfl) fun a M => ?_
    refine s_fz M O 5 rfl (v := vQ (Y7.l.getD (p.so y x) 0)) (Yl.o1 hrq12 (p.so y x) 0 (by omega) rfl rfl) fun a M => ?_
    replace M := M.sp 186 (vQ (p.sn y x 0)) rfl (by rw [l7]; rfl)
    refine fp M 1 6 [(187, vP g13 0)] fun a M => fo M 7 rfl rfl (s_es M O 0 fun w29_7 O => ?_)
    refine s_d0 (s_fs1 ?_)
    refine fp M 1 0 [(188, .slice (some ⟨gA, oA, none⟩) 9 c)] fun a M => s_fz M O 1 rfl (v := vP gA (oA + 7)) (Yl.indexAddr (ad := ⟨gA, oA, none⟩) (y := 7) (sz := 1) rfl rfl rfl (by decide) (by kernel_rfl)) fun a M => ?_
    refine s_fz M O 2 rfl (v := .slice Y7.A Y7.l.length Y7.c) (Yl.qk rfl rfl (by kernel_rfl) (fun _ h => (h.old hr).zu (k := 7) (zq (F := Nw.val) (k := 7) (x := Y7) (rfl)))) fun a M => ?_
    refine fp M 2 3 [(192, vI (IntKind.i64.wrap ((p.so y x : Int) + 1)))] fun a M => ?_
    replace M := M.sp 192 (vI (p.so y x + 1 : Nat)) rfl (qc (by omega) (by omega))
    replace M := M.sp 190 (.slice (some ⟨gq12, oq12, none⟩) Y7.l.length Y7.c) rfl (by rw [hq12]; try rfl)
    refine s_fz M O 5 rfl (v := vP gq12 (oq12 + (p.so y x + 1) * 1)) (Yl.ix gq12 oq12 (p.so y x + 1) 1 rfl rfl rfl) fun a M => ?_
    refine s_fz M O 6 rfl (v := vQ (Y7.l.getD (p.so y x + 1) 0)) (Yl.o1 hrq12 (p.so y x + 1) 0 (by omega) rfl rfl) fun a M => ?_
    replace M := M.sp 194 (vQ (p.sn y x 1)) rfl (by rw [l7]; rfl)
    refine fp M 1 7 [(195, vW (IntKind.u32.wrap (p.sn y x 1 : Int)))] fun a M => ?_
    replace M := M.sp 195 (vW ((p.sn y x 1) % 4294967296 : Nat)) rfl (qi1 (p.sn y x 1))
    refine fp M 1 8 [(196, vP g13 1)] fun a M => fo M 9 rfl rfl (s_es M O 0 fun w30_9 O => ?_)
    refine s_d0 (qa ?_)
    refine fp M 2 0 [(198, vI (IntKind.i64.wrap ((p.so y x : Int) + 2)))] fun a M => ?_
    replace M := M.sp 198 (vI (p.so y x + 2 : Nat)) rfl (qc (by omega) (by omega))
    refine fp M 1 2 [(9, vI (p.so y x + 2 : Nat))] fun a M => s_d0 (wp_seq ?_)
    skip
    ·
     refine qa ?_
     refine fp M 1 0 [(199, .slice (some ⟨gA, oA, none⟩) 9 c)] fun a M => s_fz M O 1 rfl (v := vP gA (oA + 7)) (Yl.indexAddr (ad := ⟨gA, oA, none⟩) (y := 7) (sz := 1) rfl rfl rfl (by decide) (by kernel_rfl)) fun a M => ?_
     refine s_fz M O 2 rfl (v := .slice Y7.A Y7.l.length Y7.c) (Yl.qk rfl rfl (by kernel_rfl) (fun _ h => (h.old hr).zu (k := 7) (zq (F := Nw.val) (k := 7) (x := Y7) (rfl)))) fun a M => ?_
     refine fp M 1 3 [(202, vI (p.so y x + 2 : Nat))] fun a M => ?_
     replace M := M.sp 201 (.slice (some ⟨gq12, oq12, none⟩) Y7.l.length Y7.c) rfl (by rw [hq12]; try rfl)
     refine s_fz M O 4 rfl (v := vP gq12 (oq12 + (p.so y x + 2) * 1)) (Yl.ix gq12 oq12 (p.so y x + 2) 1 rfl rfl rfl) fun a M => ?_
     refine s_fz M O 5 rfl (v := vQ (Y7.l.getD (p.so y x + 2) 0)) (Yl.o1 hrq12 (p.so y x + 2) 0 (by omega) rfl rfl) fun a M => ?_
     replace M := M.sp 204 (vQ (p.sn y x 2)) rfl (by rw [l7]; rfl)
     refine fp M 1 6 [(205, vP g13 2)] fun a M => fo M 7 rfl rfl (s_es M O 0 fun w32_7 O => ?_)
     refine s_d0 (s_fs1 ?_)
     refine fp M 2 0 [(207, vI (IntKind.i64.wrap (((p.so y x + 2 : Nat) : Int) + 1)))] fun a M => ?_
     replace M := M.sp 207 (vI (p.so y (x + 1))) rfl (qc (by rw [so_s3 (by omega)]; omega) (by rw [so_s3 (by omega)]; omega))
     refine fp M 1 2 [(9, vI (p.so y (x + 1)))] fun a M => s_d0 ?_
     replace M := M.to [(9, vI (p.so y (x + 1))), (180, .bool true), (13, vP g13 0), (176, .bool true), (12, vI x), (11, .slice Ar R.length cr), (168, .bool true), (10, vI y), (111, .bool false), (7, vI (1 + 8 * i : Nat)), (6, vI (p.idC i)), (75, .bool false), (5, vI k), (42, .bool false), (4, vI (2 * j : Nat)), (3, vP g3 0), (2, vP g2 0), (0, .slice (some ⟨gA, oA, none⟩) 9 c)]
     refine qa ?_
     refine fp M 1 0 [(208, .slice Ar R.length cr)] fun a M => s_fz M O 1 rfl (v := .agg #[vQ (p.sn y x 0), vW ((p.sn y x 1) % 4294967296 : Nat), vQ (p.sn y x 2)]) (Yl.qt rfl rfl si_sp rfl (fun _ h => qf (h.blk (i := 0) rfl))) fun a M => ?_
     refine fo M 2 rfl rfl (s_el M O ei_sp [(0, .agg #[vQ (p.sn y x 0), vW ((p.sn y x 1) % 4294967296 : Nat), vQ (p.sn y x 2)])] #[vQ (p.sn y x 0), vW ((p.sn y x 1) % 4294967296 : Nat), vQ (p.sn y x 2)] fun a w210 g210 M O => ?_)
     refine fo M 3 rfl rfl (qd M O (i := 2) rfl ei_sp rfl rfl rfl (news := ([(⟨p.sn y x 0, p.sn y x 1 % 4294967296, p.sn y x 2⟩ : Sp)].flatMap spL)) (O.rdBlk (i := 0) (n := 1) (size := 3) rfl rfl) (qkt _) (by omega) (by omega) rfl (by decide) fun a w211 A211 c211 M O hc211 => ?_)
     refine fp M 1 4 [(11, .slice A211 (R.length + 1) c211)] fun a M => s_d0 ?_
     have hnA211 : R.length + 1 = (R ++ [p.spt y x]).length := qs rfl
     replace O := O.reRow (i := 2) (ys := (R ++ [p.spt y x]).flatMap spL) rfl hnA211 (by rw [hsp]; exact List.flatMap_append.symm)
     rw [hnA211] at hc211
     replace M := M.sp 11 (.slice A211 ((R ++ [p.spt y x]).length) c211) rfl (by rw [hnA211])
     replace M := M.sp 211 (.slice A211 ((R ++ [p.spt y x]).length) c211) rfl (by rw [hnA211])
     refine qa ?_
     refine fp M 2 0 [(178, vI (IntKind.i64.wrap ((x : Int) + 1)))] fun a M => ?_
     replace M := M.sp 178 (vI (x + 1 : Nat)) rfl (qc (by omega) (by omega))
     refine fp M 1 2 [(12, vI (x + 1 : Nat))] fun a M => s_d0 ?_
     exact ⟨_, (by omega), x + 1, (R ++ [p.spt y x]), A211, c211, by omega, by rw [hR, zc], by rw [List.length_append, hRl]; rfl, hc211, rfl, M.sub (by kernel_rfl), O.pt 10 [2, 3, 4, 5, 6, 7, 8, 9]⟩
   have hd180 := of_decide_eq_false hb180
   rw [if_pos (by omega)] at hin
   have hsp : p.spt y x = ⟨0, 0, p.sn y x 0⟩ := if_pos (by omega)
   obtain ⟨gq13, oq13, hq13, _⟩ := Rd.qi r7 (Nat.lt_of_le_of_lt (Nat.zero_le _) (show p.so y x < Y7.l.length from (by omega : p.so y x < Y7.l.length))) (by decide)
   have hrq13 := r7; rw [hq13] at hrq13
   refine s_cf M (wp_skip (wp_seq ?_))
   skip
   ·
    refine qa ?_
    refine fp M 1 0 [(199, .slice (some ⟨gA, oA, none⟩) 9 c)] fun a M => s_fz M O 1 rfl (v := vP gA (oA + 7)) (Yl.indexAddr (ad := ⟨gA, oA, none⟩) (y := 7) (sz := 1) rfl rfl rfl (by decide) (by kernel_rfl)) fun a M => ?_
    refine s_fz M O 2 rfl (v := .slice Y7.A Y7.l.length Y7.c) (Yl.qk rfl rfl (by kernel_rfl) (fun _ h => (h.old hr).zu (k := 7) (zq (F := Nw.val) (k := 7) (x := Y7) (rfl)))) fun a M => ?_
    refine fp M 1 3 [(202, vI (p.so y x))] fun a M => ?_
    replace M := M.sp 201 (.slice (some ⟨gq13, oq13, none⟩) Y7.l.length Y7.c) rfl (by rw [hq13]; try rfl)
    refine s_fz M O 4 rfl (v := vP gq13 (oq13 + (p.so y x) * 1)) (Yl.ix gq13 oq13 (p.so y x) 1 rfl rfl rfl) fun a M => ?_
    refine s_fz M O 5 rfl (v := vQ (Y7.l.getD (p.so y x) 0)) (Yl.o1 hrq13 (p.so y x) 0 (by omega) rfl rfl) fun a M => ?_
    replace M := M.sp 204 (vQ (p.sn y x 0)) rfl (by rw [l7]; rfl)
    refine fp M 1 6 [(205, vP g13 2)] fun a M => fo M 7 rfl rfl (s_es M O 0 fun w32_7 O => ?_)
    refine s_d0 (s_fs1 ?_)
    refine fp M 2 0 [(207, vI (IntKind.i64.wrap ((p.so y x : Int) + 1)))] fun a M => ?_
    replace M := M.sp 207 (vI (p.so y (x + 1))) rfl (qc (by rw [so_s0 (by omega)]; omega) (by rw [so_s0 (by omega)]; omega))
    refine fp M 1 2 [(9, vI (p.so y (x + 1)))] fun a M => s_d0 (qa ?_)
    refine fp M 1 0 [(208, .slice Ar R.length cr)] fun a M => s_fz M O 1 rfl (v := .agg #[vQ 0, vW 0, vQ (p.sn y x 0)]) (Yl.qt rfl rfl si_sp rfl (fun _ h => qf (h.blk (i := 0) rfl))) fun a M => ?_
    refine fo M 2 rfl rfl (s_el M O ei_sp [(0, .agg #[vQ 0, vW 0, vQ (p.sn y x 0)])] #[vQ 0, vW 0, vQ (p.sn y x 0)] fun a w210 g210 M O => ?_)
    refine fo M 3 rfl rfl (qd M O (i := 2) rfl ei_sp rfl rfl rfl (news := ([(⟨0, 0, p.sn y x 0⟩ : Sp)].flatMap spL)) (O.rdBlk (i := 0) (n := 1) (size := 3) rfl rfl) (qkt _) (by omega) (by omega) rfl (by decide) fun a w211 A211 c211 M O hc211 => ?_)
    refine fp M 1 4 [(11, .slice A211 (R.length + 1) c211)] fun a M => s_d0 ?_
    have hnA211 : R.length + 1 = (R ++ [p.spt y x]).length := qs rfl
    replace O := O.reRow (i := 2) (ys := (R ++ [p.spt y x]).flatMap spL) rfl hnA211 (by rw [hsp]; exact List.flatMap_append.symm)
    rw [hnA211] at hc211
    replace M := M.sp 11 (.slice A211 ((R ++ [p.spt y x]).length) c211) rfl (by rw [hnA211])
    replace M := M.sp 211 (.slice A211 ((R ++ [p.spt y x]).length) c211) rfl (by rw [hnA211])
    refine qa ?_
    refine fp M 2 0 [(178, vI (IntKind.i64.wrap ((x : Int) + 1)))] fun a M => ?_
    replace M := M.sp 178 (vI (x + 1 : Nat)) rfl (qc (by omega) (by omega))
    refine fp M 1 2 [(12, vI (x + 1 : Nat))] fun a M => s_d0 ?_
    exact ⟨_, (by omega), x + 1, (R ++ [p.spt y x]), A211, c211, by omega, by rw [hR, zc], by rw [List.length_append, hRl]; rfl, hc211, rfl, M.sub (by kernel_rfl), O.pt 10 [2, 3, 4, 5, 6, 7, 8, 9]⟩
  have hd176 := of_decide_eq_false hb176
  refine s_cf M (wp_exit (qa ?_))
  refine fp M 2 0 [(213, vP g3 7)] fun a M => s_fc M O 2 6 fun a M => ?_
  refine fp M 1 3 [(215, .slice Ar R.length cr)] fun a M => fo M 4 rfl rfl (s_el M O ei_rw [(0, .slice Ar R.length cr)] #[.slice Ar R.length cr] fun a w216 g216 M O => ?_)
  refine fo M 5 rfl rfl (qd M O (i := 2) rfl ei_rw rfl rfl rfl (news := ([(⟨Ar, cr, R⟩ : Rw)].map Rw.val)) (O.rdBlk (i := 0) (n := 1) (size := 1) rfl rfl) (qr7 _) (by omega) (by omega) rfl (by decide) fun a w217 A217 c217 M O hc217 => ?_)
  refine fp M 2 6 [(219, vP g3 7)] fun a M => fo M 8 rfl rfl (s_es M O 7 fun w35_8 O => ?_)
  refine s_d0 ?_
  have hnA217 : z.length + 1 = (z ++ [(⟨Ar, cr, R⟩ : Rw)]).length := qs rfl
  replace O := O.reRow (i := 2) (ys := (z ++ [(⟨Ar, cr, R⟩ : Rw)]).map Rw.val) rfl hnA217 (by exact List.map_append.symm)
  rw [hnA217] at hc217
  replace M := M.sp 217 (.slice A217 ((z ++ [(⟨Ar, cr, R⟩ : Rw)]).length) c217) rfl (by rw [hnA217])
  replace O := O.reBlk (i := 7) (ds := #[vI (toI p.nx), vI p.cp, vQ p.cr, .slice Ag G.length cg, .slice Al C.length cl, .slice Au U.length cu, .slice At T.length ct, .slice A217 ((z ++ [(⟨Ar, cr, R⟩ : Rw)]).length) c217]) rfl (by rw [hnA217]; rfl)
  replace O := O.pt (fs' := (.row (.slice Ar R.length cr) R.length (R.flatMap spL) 43 3 :: .row (.slice A217 ((z ++ [(⟨Ar, cr, R⟩ : Rw)]).length) c217) ((z ++ [(⟨Ar, cr, R⟩ : Rw)]).length) ((z ++ [(⟨Ar, cr, R⟩ : Rw)]).map Rw.val) 44 1 :: .row (.slice At T.length ct) T.length (T.flatMap tkL) 46 8 :: .row (.slice Au U.length cu) U.length (U.map I64i) 3 1 :: .row (.slice Al C.length cl) C.length (C.map I64i) 3 1 :: .row (.slice Ag G.length cg) G.length (G.flatMap grL) 40 2 :: .blk g3 #[vI (toI p.nx), vI p.cp, vQ p.cr, .slice Ag G.length cg, .slice Al C.length cl, .slice Au U.length cu, .slice At T.length ct, .slice A217 ((z ++ [(⟨Ar, cr, R⟩ : Rw)]).length) c217] 56 :: .blk g2 #[vI 0, vI 0, vQ 0, .slice none 0 0, .slice none 0 0, .slice none 0 0, .slice none 0 0, .slice none 0 0] 56 :: rwF 43 z)) 9 [1, 2, 3, 4, 5, 6, 7, 8]
  replace O := Mem.toRw (fs := [.row (.slice A217 ((z ++ [(⟨Ar, cr, R⟩ : Rw)]).length) c217) ((z ++ [(⟨Ar, cr, R⟩ : Rw)]).length) ((z ++ [(⟨Ar, cr, R⟩ : Rw)]).map Rw.val) 44 1, .row (.slice At T.length ct) T.length (T.flatMap tkL) 46 8, .row (.slice Au U.length cu) U.length (U.map I64i) 3 1, .row (.slice Al C.length cl) C.length (C.map I64i) 3 1, .row (.slice Ag G.length cg) G.length (G.flatMap grL) 40 2, .blk g3 #[vI (toI p.nx), vI p.cp, vQ p.cr, .slice Ag G.length cg, .slice Al C.length cl, .slice Au U.length cu, .slice At T.length ct, .slice A217 ((z ++ [(⟨Ar, cr, R⟩ : Rw)]).length) c217] 56, .blk g2 #[vI 0, vI 0, vQ 0, .slice none 0 0, .slice none 0 0, .slice none 0 0, .slice none 0 0, .slice none 0 0] 56]) O
  replace O : Mem w _ (.row (.slice A217 ((z ++ [(⟨Ar, cr, R⟩ : Rw)]).length) c217) ((z ++ [(⟨Ar, cr, R⟩ : Rw)]).length) ((z ++ [(⟨Ar, cr, R⟩ : Rw)]).map Rw.val) 44 1 :: .row (.slice At T.length ct) T.length (T.flatMap tkL) 46 8 :: .row (.slice Au U.length cu) U.length (U.map I64i) 3 1 :: .row (.slice Al C.length cl) C.length (C.map I64i) 3 1 :: .row (.slice Ag G.length cg) G.length (G.flatMap grL) 40 2 :: .blk g3 #[vI (toI p.nx), vI p.cp, vQ p.cr, .slice Ag G.length cg, .slice Al C.length cl, .slice Au U.length cu, .slice At T.length ct, .slice A217 ((z ++ [(⟨Ar, cr, R⟩ : Rw)]).length) c217] 56 :: .blk g2 #[vI 0, vI 0, vQ 0, .slice none 0 0, .slice none 0 0, .slice none 0 0, .slice none 0 0, .slice none 0 0] 56 :: rwF 43 (z ++ [(⟨Ar, cr, R⟩ : Rw)])) := O
  refine qa ?_
  refine fp M 2 0 [(170, vI (IntKind.i64.wrap ((y : Int) + 1)))] fun a M => ?_
  replace M := M.sp 170 (vI (y + 1 : Nat)) rfl (qc (by omega) (by omega))
  refine fp M 1 2 [(10, vI (y + 1 : Nat))] fun a M => s_d0 ?_
  replace M := M.sp 9 (vI (p.so (y + 1) 0)) rfl (by rw [qg9, show x = p.cp by omega])
  exact ⟨_, (by omega), y + 1, (z ++ [(⟨Ar, cr, R⟩ : Rw)]), A217, c217, by omega, by rw [List.length_append, hzl]; rfl, by rw [List.map_append, hz, zc, hR, show x = p.cp by omega]; rfl, (fun q h => (List.mem_append.1 h).elim (hzc q) (fun h => by rw [List.mem_singleton] at h; subst h; exact hRc)), hc217, rfl, M.sub (by kernel_rfl), O.pt 7 [0, 1, 2, 3, 4, 5, 6]⟩
 have hd168 := of_decide_eq_false hb168
 have e0 : y = p.gp := by omega
 have e1 : mapR p.gp p.grp = G := by rw [hG, show j + 1 = p.gp by omega]
 have e2 : p.cl.map toI = C := by rw [hC, show k = p.cp by omega]; exact (qeg h.cl toI).symm
 have e3 : p.cu.map toI = U := by rw [hU, show k = p.cp by omega]; exact (qeg h.cu toI).symm
 have e4 : mapR p.tk p.tskB = T := by rw [hT, show i = p.tk by omega]
 have e5 : (mapR p.gp fun g => (⟨none, 0, p.row g⟩ : Rw)).map Rw.l = z.map Rw.l := by rw [hz, e0]; exact qn0 _ _ _
 refine s_cf M (wp_exit (s_fs1 ?_))
 refine s_fz M O 0 rfl (v := .agg #[vI (toI p.nx), vI p.cp, vQ p.cr, .slice Ag G.length cg, .slice Al C.length cl, .slice Au U.length cu, .slice At T.length ct, .slice As z.length cs]) (Yl.qt rfl rfl zn rfl (fun _ h => qf (h.blk (i := 5) rfl))) fun a M => ?_
 refine fo M 1 rfl rfl (e_sa M O 6 rfl rfl rfl rfl rfl zn rfl rfl (by simp [Value.oneCell']) fun w36_1 O => ?_)
 refine s_d0 (wp_ret ?_)
 exact ret1 rfl M (.cellS (i := 6) M O rfl rfl zn rfl) (⟨(⟨toI p.nx, ⟨(p.cp : Int), p.cr, Ag, cg, G, Al, cl, C, Au, cu, U, At, ct, T, As, cs, z⟩⟩ : Snm), rfl, sn_of rfl ⟨⟨rfl, rfl, e1⟩, e2, e3, e4, e5⟩, ⟨hGc, hCc, hUc, hTc, hcs, hzc⟩, O.pt 7 [4, 3, 2, 1, 0]⟩)
theorem qwv (A : Option Addr) (c : Nat) (l : List Nat) (w : World) (hr : Rd w w.heap.size 1 A l.length (l.map B8)) (hc : l.length ≤ c) (hn : l.length ≤ 100000000) (hl : ∀ z ∈ l, z < 256) {p : Pr} (h : opnR l = .ok p) : Calls Tryz.prog 72 #[.slice A l.length c] w (fun r w' => ∃ (Y0 Y1 Y2 Y3 Y4 Y5 Y6 Y7 Y8 : Nw) (A : Option Addr) (c : Nat) (EA : Option Addr) (ec : Nat), Y1.l = [p.nx] ∧ Y2.l = [p.cp, p.cr, p.gp] ∧ Y3.l = p.gs ∧ Y4.l = p.cl ∧ Y5.l = p.cu ∧ Y6.l = p.tk :: p.ts ∧ Y7.l = p.sp ∧ Y6.l.length ≤ Y6.c ∧ r = .returned (.tuple #[.slice A 9 c, .slice EA 9 ec, .int .i64 0]) ∧ Mem w w' (.row (.slice A 9 c) 9 (([Y0, Y1, Y2, Y3, Y4, Y5, Y6, Y7, Y8] : List Nw).map Nw.val) 58 1 :: .row (.slice EA 9 ec) 9 (p.ends.map I64v) 3 1 :: nwF 22 [Y0, Y1, Y2, Y3, Y4, Y5, Y6, Y7, Y8])) :=
 (qhf A c l w hr hc hn hl).mono fun r w' h1 => by
  rcases h1 with ⟨k, h2, _⟩ | ⟨p2, Q, A, c, EA, ec, h2, h3, h4, h5, h6, h7, h8⟩
  ·rw [h] at h2; cases h2
  ·obtain rfl : p2 = p := by rw [h] at h2; injection h2 with h2; exact h2.symm
   obtain ⟨A0, c0, A1, c1, A2, c2, A3, c3, A4, c4, A5, c5, A6, c6, A7, c7, A8, c8, rfl⟩ := nine h3
   exact ⟨_, _, _, _, _, _, _, _, _, A, c, EA, ec, rfl, rfl, rfl, rfl, rfl, rfl, rfl, h4 _ (by simp), h7, h8⟩
theorem qww (A : Option Addr) (c : Nat) (l : List Nat) (w : World) (hr : Rd w w.heap.size 1 A l.length (l.map B8)) (hc : l.length ≤ c) (hn : l.length ≤ 100000000) (hl : ∀ z ∈ l, z < 256) {k : Nat} (h : opnR l = .error k) : Calls Tryz.prog 72 #[.slice A l.length c] w (Is w (.tuple #[.slice none 0 0, .slice none 0 0, .int .i64 (k : Int)])) :=
 (qhf A c l w hr hc hn hl).mono fun r w' h1 => by
  rcases h1 with ⟨k2, h2, h3⟩ | ⟨p2, Q, A, c, EA, ec, h2, _⟩
  ·obtain rfl : k2 = k := by rw [h] at h2; injection h2 with h2; exact h2.symm
   exact h3
  ·rw [h] at h2; cases h2
theorem q2d (s : Snm) : ∀ b ∈ outS s, b < 256 := by
 unfold outS
 split
 ·exact zw (qr2 s)
 ·intro b hb; cases hb
theorem qqg (A : Option Addr) (c : Nat) (l : List Nat) (w : World) (hr : Rd w w.heap.size 1 A l.length (l.map B8)) (hc : l.length ≤ c) (hn : l.length ≤ 100000000) (hl : ∀ z ∈ l, z < 256) :
    Calls Tryz.prog 39 #[.slice A l.length c] w (qk5 w (rdE l) (rdS l)) := by
 refine s_ce Tryz.func39 [.slice A l.length c] [(0, .slice A l.length c)] fun a M => ?_
 have O := Mem.start w
 refine s_fs1 ?_
 refine fo M 0 rfl rfl (s_ea M O #[vI 0, vI 0, vQ 0, .slice none 0 0, .slice none 0 0, .slice none 0 0, .slice none 0 0, .slice none 0 0] fun a w2 g2 M O => ?_)
 refine fp M 1 1 [(3, vI 0)] fun a M => s_d0 (wp_seq ?_)
 rcases hop : opnR l with k | p
 ·
  have hke := qcj hop
  refine qa ?_
  refine fp M 1 0 [(10, .slice A l.length c)] fun a M => fo M 1 rfl rfl (e_is M O [.slice A l.length c] (.tuple #[.slice none 0 0, .slice none 0 0, vI k]) rfl rfl (qww A c l _ (O.old hr) hc hn hl hop) fun w11 hbw O a M => ?_)
  refine fp M 7 2 [(6, vI k), (4, .slice none 0 0)] fun a M => s_d0 (wp_seq (s_fs1 ?_))
  refine fp M 2 0 [(16, .bool ((k : Int) != (0 : Int)))] fun a M => s_d0 ?_
  rcases M.tf 16 rfl with ⟨hb16, M⟩ | ⟨hb16, M⟩
  ·
   have hd16 := bne_iff_ne.1 hb16
   refine s_ct M (s_fs1 ?_)
   refine s_fz M O 0 rfl (v := .agg #[vI 0, vI 0, vQ 0, .slice none 0 0, .slice none 0 0, .slice none 0 0, .slice none 0 0, .slice none 0 0]) (Yl.build (vs := []) rfl (by kernel_rfl) (by kernel_rfl)) fun a M => ?_
   refine fp M 1 1 [(18, vI k)] fun a M => fo M 2 rfl rfl (e_sa M O 0 rfl rfl rfl rfl rfl zn rfl rfl (by simp [Value.oneCell']) fun w3_2 O => ?_)
   refine fp M 1 3 [(3, vI k)] fun a M => s_d0 (wp_ret ?_)
   exact ret2 rfl M (.cellS (i := 0) M O rfl rfl zn rfl) (.tmp M rfl) (qa6 (rd_no hop) rfl (O.pk []))
  have hd16 := bne_eq_false_iff_eq.1 hb16
  exfalso; omega
 ·
  have hfit := (qds hl hop).2.2.1
  refine qa ?_
  refine fp M 1 0 [(10, .slice A l.length c)] fun a M => fo M 1 rfl rfl ?_
  refine e_cl M [.slice A l.length c] rfl rfl (qwv A c l _ (O.old hr) hc hn hl hop) ?_
  rintro _ w11 ⟨Y0, Y1, Y2, Y3, Y4, Y5, Y6, Y7, Y8, Aq, cq, Ae, ce, l1, l2, l3, l4, l5, l6, l7, hc6, rfl, hm⟩
  refine ⟨_, rfl, ?_⟩
  replace O := O.joinT hm
  clear M; intro a M
  refine fp M 7 2 [(6, vI 0), (4, .slice Aq 9 cq)] fun a M => s_d0 (wp_seq (s_fs1 ?_))
  refine fp M 2 0 [(16, .bool false)] fun a M => s_d0 (s_cf M (wp_skip (s_fs1 ?_)))
  refine fp M 1 0 [(19, .slice Aq 9 cq)] fun a M => fo M 1 rfl rfl ?_
  refine e_cl M [.slice Aq 9 cq] rfl rfl (qud Aq cq Y0 Y1 Y2 Y3 Y4 Y5 Y6 Y7 Y8 p hfit _ (O.rd (i := 1) rfl) (O.nwAt 3 rfl Y1 (by simp)) (O.nwAt 3 rfl Y2 (by simp)) (O.nwAt 3 rfl Y3 (by simp)) (O.nwAt 3 rfl Y4 (by simp)) (O.nwAt 3 rfl Y5 (by simp)) (O.nwAt 3 rfl Y6 (by simp)) (O.nwAt 3 rfl Y7 (by simp)) l1 l2 l3 l4 l5 l6 l7 hc6) ?_
  rintro _ w20 ⟨z, rfl, hz, hcap, hm⟩
  refine ⟨_, rfl, ?_⟩
  replace O := Mem.joinT (O.pk [0]) hm
  clear M; intro a M
  refine fo M 2 rfl rfl (s_ea M O #[vI 0, vI 0, vQ 0, .slice none 0 0, .slice none 0 0, .slice none 0 0, .slice none 0 0, .slice none 0 0] fun a w7 g7 M O => ?_)
  refine fo M 3 rfl rfl (e_sa M O 0 rfl rfl rfl rfl rfl zn rfl rfl (qa5 z) fun w4_3 O => ?_)
  refine s_d0 (s_fs1 ?_)
  refine s_fz M O 0 rfl (v := .agg z.cells) (Yl.qt rfl rfl zn rfl (fun _ h => qf (h.blk (i := 0) rfl))) fun a M => ?_
  replace M := M.sp 22 (.agg z.cells) rfl (rfl)
  refine fo M 1 rfl rfl ?_
  refine s_ek M O [.agg z.cells] (qqf z (qx8 hz (qx5 hfit)) (qie (qcw hz) (qn5 hfit _ (.inr rfl))) _ (O.stX 2 rfl)) fun A23 c23 w23 hc23 O a M => ?_
  refine fp M 5 2 [(6, vI (chkS z)), (8, .slice A23 ((outS z).length) c23)] fun a M => s_d0 (wp_seq (s_fs1 ?_))
  refine fp M 3 0 [(28, .bool ((chkS z : Int) != (0 : Int)))] fun a M => ?_
  rcases M.tf 28 rfl with ⟨hb28, M⟩ | ⟨hb28, M⟩
  ·
   have hd28 := bne_iff_ne.1 hb28
   refine fp M 6 3 [(34, .bool true)] fun a M => s_d0 (s_ct M (s_fs1 ?_))
   refine s_fz M O 0 rfl (v := .agg #[vI 0, vI 0, vQ 0, .slice none 0 0, .slice none 0 0, .slice none 0 0, .slice none 0 0, .slice none 0 0]) (Yl.build (vs := []) rfl (by kernel_rfl) (by kernel_rfl)) fun a M => ?_
   refine fo M 1 rfl rfl (e_sa M O 2 rfl rfl rfl rfl rfl zn rfl rfl (by simp [Value.oneCell']) fun w7_1 O => ?_)
   refine fp M 1 2 [(3, vI 347)] fun a M => s_d0 (wp_ret ?_)
   exact ret2 rfl M (.cellS (i := 2) M O rfl rfl zn rfl) (.tmp M rfl) (qa6 (qx6 hl hop (fun h => by have h2 := h.1; rw [← qku hz] at h2; omega)) rfl (O.pk []))
  have hd28 := bne_eq_false_iff_eq.1 hb28
  refine fp M 1 3 [(29, .slice A23 ((outS z).length) c23)] fun a M => s_fz M O 4 rfl (v := .string (bstr (outS z))) (Yl.str rfl rfl (fun _ h => h.rd (i := 0) rfl)) fun a M => ?_
  refine fp M 1 5 [(31, .slice A l.length c)] fun a M => s_fz M O 6 rfl (v := .string (bstr l)) (Yl.str rfl rfl (fun _ h => h.old hr)) fun a M => ?_
  refine fp M 1 7 [(33, .bool (!(((bstr (outS z))).toList == ((bstr l)).toList)))] fun a M => ?_
  replace M := M.sp 33 (.bool (!decide (outS z = l))) rfl (by rw [qgp (q2d z) hl])
  refine fp M 1 8 [(34, .bool (!decide (outS z = l)))] fun a M => s_d0 ?_
  rcases M.tf 34 rfl with ⟨hb34, M⟩ | ⟨hb34, M⟩
  ·
   refine s_ct M (s_fs1 ?_)
   refine s_fz M O 0 rfl (v := .agg #[vI 0, vI 0, vQ 0, .slice none 0 0, .slice none 0 0, .slice none 0 0, .slice none 0 0, .slice none 0 0]) (Yl.build (vs := []) rfl (by kernel_rfl) (by kernel_rfl)) fun a M => ?_
   refine fo M 1 rfl rfl (e_sa M O 2 rfl rfl rfl rfl rfl zn rfl rfl (by simp [Value.oneCell']) fun w7_1 O => ?_)
   refine fp M 1 2 [(3, vI 347)] fun a M => s_d0 (wp_ret ?_)
   exact ret2 rfl M (.cellS (i := 2) M O rfl rfl zn rfl) (.tmp M rfl) (qa6 (qx6 hl hop (fun h => by have h2 := h.2; rw [← qxs hz] at h2; simp [h2] at hb34)) rfl (O.pk []))
  refine s_cf M (wp_skip (s_fs1 ?_))
  refine s_fz M O 0 rfl (v := .agg z.cells) (Yl.qt rfl rfl zn rfl (fun _ h => qf (h.blk (i := 1) rfl))) fun a M => ?_
  refine fo M 1 rfl rfl (e_sa M O 2 rfl rfl rfl rfl rfl zn rfl rfl (qa5 z) fun w8_1 O => ?_)
  refine fp M 1 2 [(3, vI 0)] fun a M => s_d0 (wp_ret ?_)
  exact ret2 rfl M (.cellS (i := 2) M O rfl rfl zn rfl) (.tmp M rfl) (qk6 (qzs hl hop ⟨by rw [← qku hz]; omega, by rw [← qxs hz]; simpa using hb34⟩) rfl hz hcap (O.subl (List.sublist_append_right ([.row (.slice A23 ((outS z).length) c23) ((outS z).length) ((outS z).map B8) 5 1, .blk g7 z.cells 56, .blk g2 z.cells 56] : List Fact) _)))
theorem qit (A : Option Addr) (c : Nat) (la : List Nat) (D : Option Addr) (d : Nat) (lb : List Nat) (B : Nat) (w : World) (hL : LaidX B w) (hB : B ≤ w.heap.size) (hr1 : Rd w w.heap.size 1 A la.length (la.map B8)) (hc1 : la.length ≤ c) (hn1 : la.length ≤ 100000000) (hl1 : ∀ z ∈ la, z < 256) (hr2 : Rd w w.heap.size 1 D lb.length (lb.map B8)) (hc2 : lb.length ≤ d) (hn2 : lb.length ≤ 100000000) (hl2 : ∀ z ∈ lb, z < 256) :
    Calls Tryz.prog 13 #[.slice A la.length c, .slice D lb.length d] w (Is w (.bool true)) := by
 have hsl := qug la
 have hnl := quf hl1
 have hfa := q0n hl1
 refine s_ce Tryz.func13 [.slice A la.length c, .slice D lb.length d] [(0, .slice A la.length c), (1, .slice D lb.length d)] fun a M => ?_
 have O := Mem.start w
 refine s_fs1 ?_
 refine fp M 1 0 [(4, .bool false)] fun a M => s_d0 (s_fs1 ?_)
 refine fp M 1 0 [(25, .slice A la.length c)] fun a M => fo M 1 rfl rfl ?_
 refine s_ek M O [.slice A la.length c] (qw2 A la.length c la _ (O.old hr1) (by omega) rfl) fun Ow co w26 hco O a M => ?_
 refine fp M 1 2 [(5, .slice Ow la.length co)] fun a M => s_d0 (s_fs1 ?_)
 refine fp M 1 0 [(28, .slice Ow la.length co)] fun a M => fo M 1 rfl rfl ?_
 refine e_cl M [.slice Ow la.length co] rfl rfl (qll Ow co la B _ (hL.mem O hB) (O.le hB) ((O.rd (i := 0) rfl).pre rfl (by omega)) (by omega) hn1 hl1) ?_
 rintro _ w29 ⟨z1, rfl, hz1, hcapz1, hm⟩
 refine ⟨_, rfl, ?_⟩
 replace O := (show Mem w _ (.row (.slice Ow (la.length + 12) co) (la.length + 12) ((la ++ marks 12).map B8) 5 1 :: stF z1.st) from O.joinT hm)
 clear M; intro a M
 refine fp M 3 2 [(31, vI (rdE la)), (30, .agg z1.cells)] fun a M => fo M 5 rfl rfl (s_ea M O #[vI 0, vI 0, vQ 0, .slice none 0 0, .slice none 0 0, .slice none 0 0, .slice none 0 0, .slice none 0 0] fun a w6 g6 M O => ?_)
 refine fo M 6 rfl rfl (e_sa M O 0 rfl rfl rfl rfl rfl z6 rfl rfl (qa5 z1) fun w2_6 O => ?_)
 refine fp M 1 7 [(7, vI (rdE la))] fun a M => s_d0 (s_fs1 ?_)
 refine fp M 1 0 [(33, .slice A la.length c)] fun a M => fo M 1 rfl rfl ?_
 refine e_cl M [.slice A la.length c] rfl rfl (qqg A c la _ (O.old hr1) hc1 hn1 hl1) ?_
 rintro _ w34 ⟨z2, rfl, hz2, hcapz2, hm⟩
 refine ⟨_, rfl, ?_⟩
 replace O := (show Mem w _ (.blk g6 z1.cells 32 :: .row (.slice Ow (la.length + 12) co) (la.length + 12) ((la ++ marks 12).map B8) 5 1 :: (stF z1.st ++ (stF z2.st))) from O.joinT hm)
 clear M; intro a M
 refine fp M 3 2 [(36, vI (rdE la)), (35, .agg z2.cells)] fun a M => fo M 5 rfl rfl (s_ea M O #[vI 0, vI 0, vQ 0, .slice none 0 0, .slice none 0 0, .slice none 0 0, .slice none 0 0, .slice none 0 0] fun a w8 g8 M O => ?_)
 refine fo M 6 rfl rfl (e_sa M O 0 rfl rfl rfl rfl rfl zn rfl rfl (qa5 z2) fun w3_6 O => ?_)
 refine fp M 1 7 [(9, vI (rdE la))] fun a M => s_d0 (s_fs1 ?_)
 refine fp M 1 0 [(38, .slice Ow la.length co)] fun a M => fo M 1 rfl rfl ?_
 refine s_ek M O [.slice Ow la.length co] (qbf Ow co la B _ (hL.mem O hB) (O.le hB) ((O.rd (i := 2) rfl).pre rfl (by omega)) (by omega) hn1 hl1) fun A39 c39 w39 hc39 O a M => ?_
 refine fp M 5 2 [(11, vI (errR la)), (10, .slice A39 ((pnums la).length) c39)] fun a M => s_d0 (s_fs1 ?_)
 refine fp M 1 0 [(43, .slice A la.length c)] fun a M => fo M 1 rfl rfl ?_
 refine s_ek M O [.slice A la.length c] (qcq A c la _ (O.old hr1) hc1 hn1 hl1) fun A44 c44 w44 hc44 O a M => ?_
 refine fp M 5 2 [(13, vI (errR la)), (12, .slice A44 ((pnums la).length) c44)] fun a M => s_d0 (s_fs1 ?_)
 refine fp M 1 0 [(48, .slice Ow la.length co)] fun a M => fo M 1 rfl rfl ?_
 refine s_ek M O [.slice Ow la.length co] (qcp Ow co la B _ (hL.mem O hB) (O.le hB) ((O.rd (i := 4) rfl).pre rfl (by omega)) (by omega) hn1 hl1) fun A49 c49 w49 hc49 O a M => ?_
 refine fp M 5 2 [(15, vI (errR la)), (14, .slice A49 ((psecs la).length) c49)] fun a M => s_d0 (s_fs1 ?_)
 refine fp M 1 0 [(53, .slice A la.length c)] fun a M => fo M 1 rfl rfl ?_
 refine s_ek M O [.slice A la.length c] (qb1 A c la _ (O.old hr1) hc1 hn1 hl1) fun A54 c54 w54 hc54 O a M => ?_
 refine fp M 5 2 [(17, vI (errR la)), (16, .slice A54 ((psecs la).length) c54)] fun a M => s_d0 (s_fs1 ?_)
 refine fp M 2 0 [(59, .slice D lb.length d), (58, .slice Ow la.length co)] fun a M => fo M 2 rfl rfl (e_is M O [.slice Ow la.length co, .slice D lb.length d] (.tuple #[.string (difN la lb), vI (difE la lb)]) rfl rfl (qfv Ow co la D d lb B _ (hL.mem O hB) (O.le hB) ((O.rd (i := 6) rfl).pre rfl (by omega)) (by omega) hn1 hl1 (O.old hr2) hc2 hn2 hl2) fun w60 hbw O a M => ?_)
 refine fp M 5 3 [(19, vI (difE la lb)), (18, .string (difN la lb))] fun a M => s_d0 (s_fs1 ?_)
 refine fp M 2 0 [(65, .slice D lb.length d), (64, .slice A la.length c)] fun a M => fo M 2 rfl rfl (e_is M O [.slice A la.length c, .slice D lb.length d] (.tuple #[.string (difN la lb), vI (difE la lb)]) rfl rfl (qjs A c la D d lb _ (O.old hr1) hc1 hn1 hl1 (O.old hr2) hc2 hn2 hl2) fun w66 hbw O a M => ?_)
 refine fp M 5 3 [(21, vI (difE la lb)), (20, .string (difN la lb))] fun a M => s_d0 (wp_seq (wp_seq ?_))
 refine qz O [.row (.slice A54 ((psecs la).length) c54) ((psecs la).length) ((psecs la).flatMap secL) 83 3, .row (.slice A49 ((psecs la).length) c49) ((psecs la).length) ((psecs la).flatMap secL) 82 3, .row (.slice A44 ((pnums la).length) c44) ((pnums la).length) ((pnums la).map U64) 22 1, .row (.slice A39 ((pnums la).length) c39) ((pnums la).length) ((pnums la).map U64) 22 1, .blk g8 z2.cells 56, .blk g6 z1.cells 32, .row (.slice Ow (la.length + 12) co) (la.length + 12) ((la ++ marks 12).map B8) 5 1] [0, 1, 2, 3, 4, 5, 6] [] fun O Z => ?_
 refine ap M (fun _ => Z) [0, 1] (bf 43 [0, 1]) [(70, vI (rdE la)), (69, vI (rdE la))] fun a M => ?_
 refine qg M (fun _ => Z) (i := 2) rfl rfl (d := 71) rfl (by decide) (by kernel_rfl) (fun _ _ _ h => h) (v := .bool ((rdE la : Int) != (rdE la : Int))) (fun _ => Yl.pure (by kernel_rfl)) fun a M => ?_
 replace M := M.sp 71 (.bool false) rfl (by simp)
 refine ap M (fun _ => Z) [3, 4, 5] (bf 43 [0, 1, 2, 3, 4, 5]) [(74, vI (errR la)), (73, vI (errR la)), (72, .bool false)] fun a M => ?_
 refine qg M (fun _ => Z) (i := 6) rfl rfl (d := 75) rfl (by decide) (by kernel_rfl) (fun _ _ _ h => h) (v := .bool ((errR la : Int) != (errR la : Int))) (fun _ => Yl.pure (by kernel_rfl)) fun a M => ?_
 replace M := M.sp 75 (.bool false) rfl (by simp)
 refine ap M (fun _ => Z) [7, 8, 9, 10] (bf 43 [0, 1, 2, 3, 4, 5, 6, 7, 8, 9, 10]) [(79, vI (errR la)), (78, vI (errR la)), (77, .bool false)] fun a M => ?_
 refine qg M (fun _ => Z) (i := 11) rfl rfl (d := 80) rfl (by decide) (by kernel_rfl) (fun _ _ _ h => h) (v := .bool ((errR la : Int) != (errR la : Int))) (fun _ => Yl.pure (by kernel_rfl)) fun a M => ?_
 replace M := M.sp 80 (.bool false) rfl (by simp)
 refine ap M (fun _ => Z) [12, 13, 14, 15] (bf 43 [0, 1, 2, 3, 4, 5, 6, 7, 8, 9, 10, 11, 12, 13, 14, 15]) [(84, vI (difE la lb)), (83, vI (difE la lb)), (82, .bool false)] fun a M => ?_
 refine qg M (fun _ => Z) (i := 16) rfl rfl (d := 85) rfl (by decide) (by kernel_rfl) (fun _ _ _ h => h) (v := .bool ((difE la lb : Int) != (difE la lb : Int))) (fun _ => Yl.pure (by kernel_rfl)) fun a M => ?_
 replace M := M.sp 85 (.bool false) rfl (by simp)
 refine ap M (fun _ => Z) [17, 18] (bf 43 [0, 1, 2, 3, 4, 5, 6, 7, 8, 9, 10, 11, 12, 13, 14, 15, 16, 17, 18]) [(87, .bool false)] fun a M => ?_
 refine s_az M Z 19 rfl (v := .agg z1.cells) (Yl.qt rfl rfl z6 rfl (fun _ h => qf (h.blk (i := 5) rfl))) fun a M => ?_
 replace M := M.sp 88 (.agg z1.cells) rfl (rfl)
 refine s_az M Z 21 rfl (v := .agg z2.cells) (Yl.qt rfl rfl zn rfl (fun _ h => qf (h.blk (i := 4) rfl))) fun a M => ?_
 replace M := M.sp 90 (.agg z2.cells) rfl (rfl)
 refine s_on M 20 rfl ?_
 refine e_cl M [.agg z1.cells] rfl rfl (qqi z1 _ (O.stL 7 rfl) (qie (qcw hz1) hfa)) ?_
 rintro _ w89 ⟨z3, rfl, hz3, _, hm⟩
 refine ⟨_, rfl, ?_⟩
 replace O := (show Mem w _ (.row (.slice A54 ((psecs la).length) c54) ((psecs la).length) ((psecs la).flatMap secL) 83 3 :: .row (.slice A49 ((psecs la).length) c49) ((psecs la).length) ((psecs la).flatMap secL) 82 3 :: .row (.slice A44 ((pnums la).length) c44) ((pnums la).length) ((pnums la).map U64) 22 1 :: .row (.slice A39 ((pnums la).length) c39) ((pnums la).length) ((pnums la).map U64) 22 1 :: .blk g8 z2.cells 56 :: .blk g6 z1.cells 32 :: .row (.slice Ow (la.length + 12) co) (la.length + 12) ((la ++ marks 12).map B8) 5 1 :: (stF z1.st ++ (stF z2.st ++ (stF z3.st)))) from Mem.q2x (l := [.row (.slice A54 ((psecs la).length) c54) ((psecs la).length) ((psecs la).flatMap secL) 83 3, .row (.slice A49 ((psecs la).length) c49) ((psecs la).length) ((psecs la).flatMap secL) 82 3, .row (.slice A44 ((pnums la).length) c44) ((pnums la).length) ((pnums la).map U64) 22 1, .row (.slice A39 ((pnums la).length) c39) ((pnums la).length) ((pnums la).map U64) 22 1, .blk g8 z2.cells 56, .blk g6 z1.cells 32, .row (.slice Ow (la.length + 12) co) (la.length + 12) ((la ++ marks 12).map B8) 5 1]) (A := stF z1.st) (B := stF z2.st) O hm)
 clear M; intro a M
 refine keepS (O.pk [0, 1, 2, 3, 4, 5, 6]) (fun Z => ?_)
 refine s_on M 22 rfl (e_is M O [.agg z3.cells, .agg z2.cells] (.bool true) rfl rfl (qqj (rdS la) z3 z2 (qid hz1 hz3) hz2 hfa _ (O.stE 7 rfl) (O.stM 7 rfl)) fun w91 hbw O a M => ?_)
 refine keepS (O.pk [0, 1, 2, 3, 4, 5, 6]) (fun Z => ?_)
 refine ap M (fun _ => Z) [23, 24, 25, 26, 27] (bt 43 [28, 29, 30, 31, 32, 33, 34, 35, 36, 37, 38, 39, 40, 41, 42]) [(96, .slice A44 ((pnums la).length) c44), (95, .slice A39 ((pnums la).length) c39), (94, .bool false)] fun a M => ?_
 refine s_on M 28 rfl (e_is M O [.slice A39 ((pnums la).length) c39, .slice A44 ((pnums la).length) c44] (.bool true) rfl rfl (qqk A39 c39 (pnums la) A44 c44 _ (O.rd (i := 3) rfl) (O.rd (i := 2) rfl) (by omega)) fun w97 hbw O a M => ?_)
 refine keepS (O.pk [0, 1, 2, 3, 4, 5, 6]) (fun Z => ?_)
 refine ap M (fun _ => Z) [29, 30, 31, 32, 34] (bt 43 [33, 35, 36, 37, 38, 39, 40, 41, 42]) [(103, .slice A54 ((psecs la).length) c54), (101, .slice A49 ((psecs la).length) c49), (100, .bool false)] fun a M => ?_
 refine s_al M Z 33 fun a M => ?_
 refine s_al M Z 35 fun a M => ?_
 refine qg M (fun _ => Z) (i := 36) rfl rfl (d := 105) rfl (by decide) (by kernel_rfl) (fun _ _ _ h => h) (v := .bool ((((psecs la).length : Nat) : Int) != (((psecs la).length : Nat) : Int))) (fun _ => Yl.pure (by kernel_rfl)) fun a M => ?_
 replace M := M.sp 105 (.bool false) rfl (by simp)
 refine ap M (fun _ => Z) [37, 38, 39, 40] (bt 43 [41, 42]) [(109, .string (difN la lb)), (108, .string (difN la lb)), (107, .bool false)] fun a M => ?_
 refine qg M (fun _ => Z) (i := 41) rfl rfl (d := 110) rfl (by decide) (by kernel_rfl) (fun _ _ _ h => h) (v := .bool (!(((difN la lb)).toList == ((difN la lb)).toList))) (fun _ => Yl.pure (by kernel_rfl)) fun a M => ?_
 replace M := M.sp 110 (.bool false) rfl (congrArg Value.bool (qo3 _))
 refine ap M (fun _ => Z) [42] (bt 43 []) [(111, .bool false)] fun a M => ?_
 refine qh (by kernel_rfl) ?_
 replace M := M.to [(111, .bool false), (16, .slice A54 ((psecs la).length) c54), (14, .slice A49 ((psecs la).length) c49), (10, .slice A39 ((pnums la).length) c39), (8, vP g8 0), (6, vP g6 0), (5, .slice Ow la.length co), (4, .bool false), (0, .slice A la.length c), (1, .slice D lb.length d)]
 refine s_cf M (wp_skip (wp_seq (s_fs1 ?_)))
 refine fp M 1 0 [(112, .slice A49 ((psecs la).length) c49)] fun a M => s_fl M 1 fun a M => ?_
 refine fp M 1 2 [(114, vI 0)] fun a M => s_d0 (wp_block ?_)
 refine qe (fun mS aS wS => ∃ (k : Nat), (k ≤ (psecs la).length) ∧ mS = (psecs la).length - k ∧ Fr aS 141 [] [(114, vI k), (113, vI ((psecs la).length : Nat)), (112, .slice A49 ((psecs la).length) c49), (111, .bool false), (16, .slice A54 ((psecs la).length) c54), (14, .slice A49 ((psecs la).length) c49), (10, .slice A39 ((pnums la).length) c39), (8, vP g8 0), (6, vP g6 0), (5, .slice Ow la.length co), (4, .bool false), (0, .slice A la.length c), (1, .slice D lb.length d)] ∧ Mem w wS (.row (.slice A54 ((psecs la).length) c54) ((psecs la).length) ((psecs la).flatMap secL) 83 3 :: .row (.slice A49 ((psecs la).length) c49) ((psecs la).length) ((psecs la).flatMap secL) 82 3 :: .row (.slice A44 ((pnums la).length) c44) ((pnums la).length) ((pnums la).map U64) 22 1 :: .row (.slice A39 ((pnums la).length) c39) ((pnums la).length) ((pnums la).map U64) 22 1 :: .blk g8 z2.cells 56 :: .blk g6 z1.cells 32 :: .row (.slice Ow (la.length + 12) co) (la.length + 12) ((la ++ marks 12).map B8) 5 1 :: (stF z1.st ++ (stF z2.st ++ (stF z3.st))))) (m := (psecs la).length - 0) ⟨0, Nat.zero_le _, rfl, M.sub (by kernel_rfl), O.pt 7 [0, 1, 2, 3, 4, 5, 6]⟩ ?_
 clear M O; rintro mS a w_ ⟨k, hk, rfl, M, O⟩
 refine s_fs1 ?_
 refine fp M 1 0 [(115, .bool (decide ((k : Int) < (((psecs la).length : Nat) : Int))))] fun a M => s_d0 (wp_seq ?_)
 rcases M.tf 115 rfl with ⟨hb115, M⟩ | ⟨hb115, M⟩
 ·
  have hd115 := of_decide_eq_true hb115
  have hk115 : k < (psecs la).length := by omega
  obtain ⟨gA49, rfl⟩ := q9 (O.own (i := 1) rfl) (Nat.lt_of_le_of_lt (Nat.zero_le _) (show k < (psecs la).length from hk115))
  obtain ⟨gA54, rfl⟩ := q9 (O.own (i := 0) rfl) (Nat.lt_of_le_of_lt (Nat.zero_le _) (show k < (psecs la).length from hk115))
  refine s_ct M (wp_skip (wp_seq (wp_block (s_fs1 ?_))))
  refine fp M 1 0 [(116, vI k)] fun a M => s_fz M O 1 rfl (v := vP gA49 (k * 3)) (Yl.ix0 gA49 k 3 rfl rfl rfl) fun a M => ?_
  refine s_fz M O 2 rfl (v := .agg (((psecs la).getD k Sec.zero).cells)) (Yl.qt rfl rfl qtr rfl (fun _ h => h.qc5 qaa (i := 1) rfl ((getD_at Sec.zero hk115)))) fun a M => ?_
  refine fo M 3 rfl rfl (s_ea M O #[.string (ByteArray.mk #[]), vI 0, vI 0] fun a w23 g23 M O => ?_)
  refine fp M 1 4 [(22, vI k)] fun a M => fo M 5 rfl rfl (e_sa M O 0 rfl rfl rfl rfl rfl qtr rfl rfl (qvs ((psecs la).getD k Sec.zero)) fun w14_5 O => ?_)
  refine s_d0 (wp_seq ?_)
  refine zk O (.blk g23 (((psecs la).getD k Sec.zero).cells) 82 :: .row (vS gA54 ((psecs la).length) c54) ((psecs la).length) ((psecs la).flatMap secL) 83 3 :: .row (vS gA49 ((psecs la).length) c49) ((psecs la).length) ((psecs la).flatMap secL) 82 3 :: .row (.slice A44 ((pnums la).length) c44) ((pnums la).length) ((pnums la).map U64) 22 1 :: .row (.slice A39 ((pnums la).length) c39) ((pnums la).length) ((pnums la).map U64) 22 1 :: .blk g8 z2.cells 56 :: .blk g6 z1.cells 32 :: .row (.slice Ow (la.length + 12) co) (la.length + 12) ((la ++ marks 12).map B8) 5 1 :: (stF z1.st ++ (stF z2.st ++ (stF z3.st)))) 8 [0, 1, 2, 3, 4, 5, 6, 7] [] fun O Z => ?_
  refine ap M (fun _ => Z) [1, 2] (bf 6 [1, 2]) [(121, vI k), (120, vS gA54 ((psecs la).length) c54)] fun a M => ?_
  refine s_az M Z 0 rfl (v := .agg (((psecs la).getD k Sec.zero).cells)) (Yl.qt rfl rfl qtr rfl (fun _ h => qf (h.blk (i := 0) rfl))) fun a M => ?_
  refine s_az M Z 3 rfl (v := vP gA54 (k * 3)) (Yl.ix0 gA54 k 3 rfl rfl rfl) fun a M => ?_
  refine s_az M Z 4 rfl (v := .agg (((psecs la).getD k Sec.zero).cells)) (Yl.qt rfl rfl q0k rfl (fun _ h => h.qc5 qaa (i := 1) rfl ((getD_at Sec.zero hk115)))) fun a M => ?_
  refine s_az M Z 5 rfl (v := .bool (!(secEq ((psecs la).getD k Sec.zero) ((psecs la).getD k Sec.zero)))) (Yl.qlr rfl rfl rfl (qpq ((psecs la).getD k Sec.zero) ((psecs la).getD k Sec.zero))) fun a M => ?_
  refine qh (by kernel_rfl) ?_
  rcases M.tf 124 rfl with ⟨hb124, M⟩ | ⟨hb124, M⟩
  ·
   rw [qpp] at hb124; cases hb124
  refine s_cf M (wp_skip (qa ?_))
  refine fp M 1 0 [(125, vI (IntKind.i64.wrap ((k : Int) + 1)))] fun a M => ?_
  replace M := M.sp 125 (vI (k + 1 : Nat)) rfl (qc (by omega) (by omega))
  refine fp M 1 1 [(114, vI (k + 1 : Nat))] fun a M => s_d0 ?_
  exact ⟨_, (by omega), k + 1, by omega, rfl, M.sub (by kernel_rfl), O.pt 8 [1, 2, 3, 4, 5, 6, 7]⟩
 have hd115 := of_decide_eq_false hb115
 refine s_cf M (wp_exit (s_fs1 ?_))
 refine fp M 1 0 [(126, vP g6 1)] fun a M => s_fz M O 1 rfl (v := .agg #[vI z1.st.cpus, vQ z1.st.credit, .slice z1.st.gA z1.st.gs.length z1.st.gc, .slice z1.st.lA z1.st.cl.length z1.st.lc, .slice z1.st.uA z1.st.cu.length z1.st.uc, .slice z1.st.tA z1.st.ts.length z1.st.tc, .slice z1.st.sA z1.st.rs.length z1.st.sc]) (Yl.qt rfl rfl si_st rfl (fun _ h => h.sub (i := 5) rfl 1 rfl)) fun a M => ?_
 replace M := M.sp 127 (.agg z1.st.cells) rfl (rfl)
 refine fo M 2 rfl rfl ?_
 refine s_em M [.agg z1.st.cells] (qvt _ _ z1.st [.row (.slice Ow (la.length + 12) co) (la.length + 12) ((la ++ marks 12).map B8) 5 1, .row (.slice A39 ((pnums la).length) c39) ((pnums la).length) ((pnums la).map U64) 22 1] (Mem.q04 (l := [.row (.slice Ow (la.length + 12) co) (la.length + 12) ((la ++ marks 12).map B8) 5 1, .row (.slice A39 ((pnums la).length) c39) ((pnums la).length) ((pnums la).map U64) 22 1]) (A := stF z1.st) (m := stF z2.st ++ stF z3.st) (O.pt 7 [6, 3])) (qie (qcw hz1) hfa)) fun w128 O a M => ?_
 refine s_d0 (wp_seq (s_fs1 ?_))
 refine fp M 1 0 [(129, .slice A39 ((pnums la).length) c39)] fun a M => s_fl M 1 fun a M => ?_
 refine fp M 1 2 [(131, vI 0)] fun a M => s_d0 (wp_block ?_)
 refine qe (fun mS aS wS => ∃ (i : Nat) (V : List Value), (i ≤ (pnums la).length) ∧ (V.length = (pnums la).length) ∧ mS = (pnums la).length - i ∧ Fr aS 141 [] [(131, vI i), (130, vI ((pnums la).length : Nat)), (115, .bool false), (114, vI k), (113, vI ((psecs la).length : Nat)), (112, .slice A49 ((psecs la).length) c49), (111, .bool false), (16, .slice A54 ((psecs la).length) c54), (14, .slice A49 ((psecs la).length) c49), (10, .slice A39 ((pnums la).length) c39), (8, vP g8 0), (6, vP g6 0), (5, .slice Ow la.length co), (4, .bool false), (0, .slice A la.length c), (1, .slice D lb.length d)] ∧ Mem w wS [.row (.slice Ow (la.length + 12) co) (la.length + 12) ((la ++ marks 12).map B8) 5 1, .row (.slice A39 ((pnums la).length) c39) ((pnums la).length) V 22 1]) (m := (pnums la).length - 0) ⟨0, ((pnums la).map U64), Nat.zero_le _, List.length_map .., rfl, M.sub (by kernel_rfl), O.pk [0, 1]⟩ ?_
 clear M O; rintro mS a w_ ⟨i, V, hi, hV, rfl, M, O⟩
 refine s_fs1 ?_
 refine fp M 1 0 [(132, .bool (decide ((i : Int) < (((pnums la).length : Nat) : Int))))] fun a M => s_d0 (wp_seq ?_)
 rcases M.tf 132 rfl with ⟨hb132, M⟩ | ⟨hb132, M⟩
 ·
  have hd132 := of_decide_eq_true hb132
  obtain ⟨gA39, rfl⟩ := q9 (O.own (i := 1) rfl) (Nat.lt_of_le_of_lt (Nat.zero_le _) (show i < (pnums la).length from (by omega : i < (pnums la).length)))
  refine s_ct M (wp_skip (wp_seq (wp_block (s_fs1 ?_))))
  refine fp M 2 0 [(24, vI i)] fun a M => s_d0 (qa ?_)
  refine fp M 2 0 [(135, vI i), (134, vS gA39 ((pnums la).length) c39)] fun a M => s_fz M O 2 rfl (v := vP gA39 (i * 1)) (Yl.ix0 gA39 i 1 rfl rfl rfl) fun a M => ?_
  refine fo M 3 rfl rfl ?_
  refine qa2 M O (i := 1) rfl rfl rfl rfl (by kernel_rfl) rfl rfl (by rw [hV]; omega) fun w22_3 O => ?_
  replace O := O.asRow (i := 1) (ys := putAt V (i * 1) [vQ 0]) rfl (rfl)
  refine s_d0 (qa ?_)
  refine fp M 1 0 [(137, vI (IntKind.i64.wrap ((i : Int) + 1)))] fun a M => ?_
  replace M := M.sp 137 (vI (i + 1 : Nat)) rfl (qc (by omega) (by omega))
  refine fp M 1 1 [(131, vI (i + 1 : Nat))] fun a M => s_d0 ?_
  exact ⟨_, (by omega), i + 1, (putAt V (i * 1) [vQ 0]), by omega, by rw [qbd (by rw [hV]; show i * 1 + 1 ≤ (pnums la).length; omega)]; exact hV, rfl, M.sub (by kernel_rfl), O.pk [0, 1]⟩
 have hd132 := of_decide_eq_false hb132
 refine s_cf M (wp_exit (s_fs1 ?_))
 refine fp M 2 0 [(139, .slice A la.length c), (138, .slice Ow la.length co)] fun a M => fo M 2 rfl rfl ?_
 refine e_cl M [.slice Ow la.length co, .slice A la.length c] rfl rfl (qw3 _ _ la.length _ _ la _ (O.rd (i := 0) rfl) hco (O.old hr1) (by omega) rfl) ?_
 rintro _ w140 ⟨rfl, hbw⟩
 refine ⟨_, rfl, ?_⟩
 replace O := O.call hbw
 clear M; intro a M
 refine fp M 1 3 [(4, .bool true)] fun a M => s_d0 (wp_ret ?_)
 exact s_rt1 rfl M rfl (⟨rfl, O.below⟩)
theorem qw5 (A : Option Addr) (c : Nat) (w : World) (hr : Rd w w.heap.size 1 A 11 (byA.map B8)) : Calls Tryz.prog 15 #[.slice A 11 c] w (fun r w' => (∃ A c, r = .returned (.slice A 15 c) ∧ w'.ownsRow w.heap.size 5 1 (.slice A 15 c) 15 (fstX.map B8) ∧ 15 ≤ c) ∧ Below w.heap.size w w') := by
 have h := qv A 11 c byA w hr rfl (by decide) qo6
 unfold qat at h
 rwa [show (sealL byA).length = 15 from z9] at h
theorem q0u (i v : Nat) (hv : v < 256) (A : Option Addr) (c : Nat) (w : World) (hr : Rd w w.heap.size 1 A 11 ((byA.set i v).map B8)) : Calls Tryz.prog 15 #[.slice A 11 c] w (fun r w' => (∃ A c, r = .returned (.slice A 15 c) ∧ w'.ownsRow w.heap.size 5 1 (.slice A 15 c) 15 ((chX i v).map B8) ∧ 15 ≤ c) ∧ Below w.heap.size w w') := by
 have h := qv A 11 c (byA.set i v) w hr (by rw [List.length_set]; rfl) (by decide) (qfx qo6 hv)
 unfold qat at h
 rwa [show (sealL (byA.set i v)).length = 15 from qb9 i v] at h
theorem quj (A : Option Addr) (c : Nat) (w : World) (hr : Rd w w.heap.size 1 A 12 ((byA ++ [0]).map B8)) : Calls Tryz.prog 15 #[.slice A 12 c] w (fun r w' => (∃ A c, r = .returned (.slice A 16 c) ∧ w'.ownsRow w.heap.size 5 1 (.slice A 16 c) 16 (moreX.map B8) ∧ 16 ≤ c) ∧ Below w.heap.size w w') := by
 have h := qv A 12 c (byA ++ [0]) w hr rfl (by decide) (by decide)
 unfold qat at h
 rwa [show (sealL (byA ++ [0])).length = 16 from qo5] at h
theorem qdu (A : Option Addr) (n c : Nat) (l : List Nat) (B : Nat) (w : World) (hL : LaidX B w) (hB : B ≤ w.heap.size) (hr : Rd w w.heap.size 1 A n (l.map B8)) (hc : n ≤ c) (hln : l.length = n) (hn : n ≤ 100000000) (hl : ∀ z ∈ l, z < 256) {e : Nat} (h : rdE l = e) : Calls Tryz.prog 17 #[.slice A n c] w (qk5 w e (rdS l)) := by
 subst hln; subst h
 exact qll A c l B w hL hB hr hc hn hl
theorem numsX (A : Option Addr) (c : Nat) (B : Nat) (w : World) (hL : LaidX B w) (hB : B ≤ w.heap.size) (hr : Rd w w.heap.size 1 A 15 (fstX.map B8)) (hc : 15 ≤ c) : Calls Tryz.prog 40 #[.slice A 15 c] w (fun r w' => (∃ A c, r = .returned (.tuple #[.slice A 8 c, .int .i64 0])) ∧ Below w.heap.size w w') := by
 rw [← z9] at hr hc ⊢
 refine (qbf A c fstX B w hL hB hr hc (by rw [z9]; decide) qhk).mono fun r w' h => ?_
 obtain ⟨⟨A2, c2, h1, _, _⟩, h2⟩ := h
 rw [x_err, q2i] at h1
 exact ⟨⟨A2, c2, h1⟩, h2⟩
theorem difX (A : Option Addr) (c : Nat) (D : Option Addr) (d : Nat) (B : Nat) (w : World) (hL : LaidX B w) (hB : B ≤ w.heap.size) (hr : Rd w w.heap.size 1 A 15 (fstX.map B8)) (hc : 15 ≤ c) (hr2 : Rd w w.heap.size 1 D 15 ((chX 3 2).map B8)) (hd : 15 ≤ d) : Calls Tryz.prog 44 #[.slice A 15 c, .slice D 15 d] w (Is w (.tuple #[.string ⟨#[110, 101, 120, 116]⟩, .int .i64 0])) := by
 have h := qfv A c fstX D d (chX 3 2) B w hL hB (by rw [z9]; exact hr) (by rw [z9]; exact hc) (by rw [z9]; decide) qhk (by rw [qb9]; exact hr2) (by rw [qb9]; exact hd) (by rw [qb9]; decide) (ch_lt (by decide))
 rw [q2j, q2k, z9, qb9] at h
 exact h
theorem qc3 (w : World) :
    Calls Tryz.prog 16 #[] w (fun r w' => (∃ A c, r = .returned (.slice A 15 c) ∧ w'.ownsRow w.heap.size 5 1 (.slice A 15 c) 15 (fstX.map B8) ∧ 15 ≤ c) ∧ Below w.heap.size w w') := by
 refine s_ce Tryz.func16 [] [] fun a M => ?_
 have O := Mem.start w
 refine s_fs1 ?_
 refine fp M 1 0 [(0, .slice none 0 0)] fun a M => s_d0 (s_fs1 ?_)
 refine fo M 0 rfl rfl (s_el M O ei_u8 [(0, vB 113), (1, vB 115), (2, vB 1), (3, vB 1), (4, vB 1), (5, vB 0), (6, vB 1), (7, vB 0), (8, vB 0), (9, vB 0), (10, vB 0)] #[vB 113, vB 115, vB 1, vB 1, vB 1, vB 0, vB 1, vB 0, vB 0, vB 0, vB 0] fun a w1 g1 M O => ?_)
 refine fo M 1 rfl rfl ?_
 refine qxo M O 0 (e := 5) rfl rfl rfl (by kernel_rfl) (by kernel_rfl) rfl (by decide) fun a w2 M O => ?_
 refine fo M 2 rfl rfl ?_
 refine s_ek M O [vS g1 11 11] (qw5 (some ⟨g1, 0, none⟩) 11 _ (O.rdMark (i := 0) (size := 1) (n := 11) rfl rfl)) fun A3 c3 w3 hc3 O a M => ?_
 refine fp M 1 3 [(0, .slice A3 15 c3)] fun a M => s_d0 (wp_ret ?_)
 exact s_rt1 rfl M rfl (⟨⟨_, _, rfl, O.own (i := 0) rfl, hc3⟩, O.below⟩)
theorem z0 (i v : Nat) (hi : i < 11) (hv : v < 256) (w : World) :
    Calls Tryz.prog 48 #[.int .i64 (i : Int), .int .u8 (v : Int)] w (fun r w' => (∃ A c, r = .returned (.slice A 15 c) ∧ w'.ownsRow w.heap.size 5 1 (.slice A 15 c) 15 ((chX i v).map B8) ∧ 15 ≤ c) ∧ Below w.heap.size w w') := by
 refine s_ce Tryz.func48 [vI i, vB v] [(0, vI i), (1, vB v)] fun a M => ?_
 have O := Mem.start w
 refine s_fs1 ?_
 refine fp M 1 0 [(4, .slice none 0 0)] fun a M => s_d0 (s_fs1 ?_)
 refine fo M 0 rfl rfl ?_
 refine s_ek M O [] (qc3 _) fun A6 c6 w6 hc6 O a M => ?_
 refine fp M 1 1 [(5, .slice A6 15 c6)] fun a M => s_d0 ?_
 obtain ⟨gA6, rfl⟩ := q9 (O.own (i := 0) rfl) (Nat.lt_of_le_of_lt (Nat.zero_le _) (show i < 15 from (by omega : i < 15)))
 refine s_fs1 ?_
 refine fp M 3 0 [(9, vB v), (8, vI i), (7, vS gA6 15 c6)] fun a M => s_fz M O 3 rfl (v := vP gA6 (i * 1)) (Yl.ix0 gA6 i 1 rfl rfl rfl) fun a M => ?_
 refine fo M 4 rfl rfl ?_
 refine qa2 M O (i := 0) rfl rfl rfl rfl (by kernel_rfl) rfl rfl (by rw [List.length_map, z9]; omega) fun w2_4 O => ?_
 replace O := O.asRow (i := 0) (ys := (fstX.set i v).map B8) rfl (qd3 B8 fstX i v (by rw [z9]; omega))
 refine s_d0 (s_fs1 ?_)
 refine fp M 2 0 [(12, vS gA6 15 c6), (11, vS gA6 15 c6)] fun a M => s_fl M 2 fun a M => ?_
 refine fp M 1 3 [(14, vI 11)] fun a M => s_fz M O 4 rfl (v := vS gA6 11 c6) (Yl.q1 ei_u8 (j := 11) rfl rfl rfl (by omega)) fun a M => ?_
 refine fo M 5 rfl rfl ?_
 refine s_ek M O [vS gA6 11 c6] (q0u i v hv (some ⟨gA6, 0, none⟩) c6 _ (by have h1 := (O.rd (i := 0) rfl).toB8 (k := 11) (by omega); rw [q0r hi] at h1; exact h1)) fun A16 c16 w16 hc16 O a M => ?_
 refine fp M 1 6 [(4, .slice A16 15 c16)] fun a M => s_d0 (wp_ret ?_)
 exact s_rt1 rfl M rfl (⟨⟨_, _, rfl, O.own (i := 0) rfl, hc16⟩, O.below⟩)
theorem qm0 (B : Nat) (w : World) (hL : LaidX B w) (hB : B ≤ w.heap.size) :
    Calls Tryz.prog 14 #[] w (Is w (.bool true)) := by
 refine s_ce Tryz.func14 [] [] fun a M => ?_
 have O := Mem.start w
 refine s_fs1 ?_
 refine fp M 1 0 [(0, .bool false)] fun a M => s_d0 (s_fs1 ?_)
 refine fo M 0 rfl rfl ?_
 refine s_ek M O [] (qc3 _) fun A16 c16 w16 hc16 O a M => ?_
 refine fp M 1 1 [(1, .slice A16 15 c16)] fun a M => s_d0 ?_
 obtain ⟨gA16, rfl⟩ := q9 (O.own (i := 0) rfl) (Nat.lt_of_le_of_lt (Nat.zero_le _) (show 12 < 15 from (by omega : 12 < 15)))
 refine s_fs1 ?_
 refine fp M 1 0 [(18, vS gA16 15 c16)] fun a M => fo M 1 rfl rfl ?_
 refine e_cl M [vS gA16 15 c16] rfl rfl (qdu (some ⟨gA16, 0, none⟩) 15 c16 fstX B _ (hL.mem O hB) (O.le hB) (O.rd (i := 0) rfl) hc16 z9 (by decide) qhk x_ok) ?_
 rintro _ w19 ⟨z19, rfl, hz19, _, hm⟩
 refine ⟨_, rfl, ?_⟩
 replace O := O.call hm.below
 clear M; intro a M
 refine fp M 3 2 [(21, vI 0), (20, .agg z19.cells)] fun a M => fo M 5 rfl rfl (s_ea M O #[vI 0, vI 0, vQ 0, .slice none 0 0, .slice none 0 0, .slice none 0 0, .slice none 0 0, .slice none 0 0] fun a w2 g2 M O => ?_)
 refine fo M 6 rfl rfl (e_sa M O 0 rfl rfl rfl rfl rfl z6 rfl rfl (qa5 z19) fun w2_6 O => ?_)
 refine fp M 1 7 [(3, vI 0)] fun a M => s_d0 (s_fs1 ?_)
 refine fp M 1 0 [(23, vS gA16 15 c16)] fun a M => fo M 1 rfl rfl ?_
 refine e_cl M [vS gA16 15 c16] rfl rfl (numsX (some ⟨gA16, 0, none⟩) c16 B _ (hL.mem O hB) (O.le hB) (O.rd (i := 1) rfl) hc16) ?_
 rintro _ w24 ⟨⟨AN, cN, rfl⟩, hbw⟩
 refine ⟨_, rfl, ?_⟩
 replace O := O.call hbw
 clear M; intro a M
 refine fp M 5 2 [(5, vI 0), (4, .slice AN 8 cN)] fun a M => s_d0 (s_fs1 ?_)
 refine fp M 1 0 [(28, vS gA16 15 c16)] fun a M => fo M 1 rfl rfl ?_
 refine s_ek M O [vI 3, vB 2] (z0 3 2 (by decide) (by decide) _) fun A29 c29 w29 hc29 O a M => ?_
 refine fo M 2 rfl rfl (e_is M O [vS gA16 15 c16, .slice A29 15 c29] (.tuple #[.string (ByteArray.mk #[110, 101, 120, 116]), vI 0]) rfl rfl (difX (some ⟨gA16, 0, none⟩) c16 A29 c29 B _ (hL.mem O hB) (O.le hB) (O.rd (i := 2) rfl) hc16 (O.rd (i := 0) rfl) hc29) fun w30 hbw O a M => ?_)
 refine fp M 5 3 [(7, vI 0), (6, .string (ByteArray.mk #[110, 101, 120, 116]))] fun a M => s_d0 (s_fs1 ?_)
 refine fp M 1 0 [(34, vS gA16 15 c16)] fun a M => s_fz M O 1 rfl (v := vS gA16 14 c16) (Yl.q1 ei_u8 (j := 14) rfl rfl rfl (by omega)) fun a M => ?_
 refine fo M 2 rfl rfl ?_
 refine e_cl M [vS gA16 14 c16] rfl rfl (qdu (some ⟨gA16, 0, none⟩) 14 c16 (fstX.take 14) B _ (hL.mem O hB) (O.le hB) ((O.rd (i := 2) rfl).toB8 (k := 14) (by decide)) (by omega) (by rw [List.length_take, z9]; rfl) (by decide) (qe6 qhk _) q0q) ?_
 rintro _ w36 ⟨z36, rfl, hz36, _, hm⟩
 refine ⟨_, rfl, ?_⟩
 replace O := O.call hm.below
 clear M; intro a M
 refine fp M 3 3 [(38, vI 340), (37, .agg z36.cells)] fun a M => fo M 6 rfl rfl (s_ea M O #[vI 0, vI 0, vQ 0, .slice none 0 0, .slice none 0 0, .slice none 0 0, .slice none 0 0, .slice none 0 0] fun a w8 g8 M O => ?_)
 refine fo M 7 rfl rfl (e_sa M O 0 rfl rfl rfl rfl rfl z6 rfl rfl (qa5 z36) fun w5_7 O => ?_)
 refine fp M 1 8 [(9, vI 340)] fun a M => s_d0 (s_fs1 ?_)
 refine fp M 1 0 [(39, vS gA16 15 c16)] fun a M => s_fz M O 1 rfl (v := vP gA16 12) (Yl.indexAddr (ad := ⟨gA16, 0, none⟩) (y := 12) (sz := 1) rfl rfl rfl (by omega) (by kernel_rfl)) fun a M => ?_
 refine s_fz M O 2 rfl (v := vB (fstX.getD 12 0)) (Yl.r1 3 12 0 (by rw [z9]; decide) rfl rfl rfl) fun a M => ?_
 refine fp M 1 3 [(42, vB (IntKind.u8.wrap (((fstX.getD 12 0) : Int) + 1)))] fun a M => ?_
 replace M := M.sp 42 (vB ((fstX.getD 12 0 + 1) % 256 : Nat)) rfl (qhw _)
 refine s_fz M O 4 rfl (v := vP gA16 12) (Yl.indexAddr (ad := ⟨gA16, 0, none⟩) (y := 12) (sz := 1) rfl rfl rfl (by omega) (by kernel_rfl)) fun a M => ?_
 refine fo M 5 rfl rfl ?_
 refine qa2 M O (i := 3) rfl rfl rfl rfl (by kernel_rfl) rfl rfl (by rw [List.length_map, z9]; decide) fun w6_5 O => ?_
 replace O := O.asRow (i := 3) (ys := badX.map B8) rfl (qd3 B8 fstX 12 ((fstX.getD 12 0 + 1) % 256) (by rw [z9]; decide))
 refine s_d0 (s_fs1 ?_)
 refine fp M 1 0 [(45, vS gA16 15 c16)] fun a M => fo M 1 rfl rfl ?_
 refine e_cl M [vS gA16 15 c16] rfl rfl (qdu (some ⟨gA16, 0, none⟩) 15 c16 badX B _ (hL.mem O hB) (O.le hB) (O.rd (i := 3) rfl) hc16 q0p (by decide) q2f x_sum) ?_
 rintro _ w46 ⟨z46, rfl, hz46, _, hm⟩
 refine ⟨_, rfl, ?_⟩
 replace O := O.call hm.below
 clear M; intro a M
 refine fp M 3 2 [(48, vI 341), (47, .agg z46.cells)] fun a M => fo M 5 rfl rfl (s_ea M O #[vI 0, vI 0, vQ 0, .slice none 0 0, .slice none 0 0, .slice none 0 0, .slice none 0 0, .slice none 0 0] fun a w10 g10 M O => ?_)
 refine fo M 6 rfl rfl (e_sa M O 0 rfl rfl rfl rfl rfl z6 rfl rfl (qa5 z46) fun w7_6 O => ?_)
 refine fp M 1 7 [(11, vI 341)] fun a M => s_d0 (wp_seq (s_fs1 ?_))
 refine fp M 8 0 [(56, vP g2 0), (55, .bool false)] fun a M => s_fc M O 8 3 (v := vI z19.next) fun a M => ?_
 replace M := M.sp 57 (vI 1) rfl (by rw [← hz19.1, q2g])
 refine fp M 6 9 [(63, vP g2 1), (60, .bool false)] fun a M => s_fc M O 15 3 (v := vI z19.st.cpus) fun a M => ?_
 replace M := M.sp 64 (vI 1) rfl (by rw [← hz19.2.1, q2h])
 refine fp M 5 16 [(69, vP g2 4), (67, .bool false)] fun a M => s_fc M O 21 3 (v := .slice z19.st.lA z19.st.cl.length z19.st.lc) fun a M => ?_
 refine s_fl M 22 fun a M => ?_
 replace M := M.sp 71 (vI 1) rfl (by rw [← hz19.2.2.2.2.1, x_cl]; rfl)
 refine fp M 4 23 [(75, .slice AN 8 cN), (74, .bool false)] fun a M => s_fl M 27 fun a M => ?_
 refine fp M 5 28 [(81, .bool (!(((ByteArray.mk #[110, 101, 120, 116])).toList == ((ByteArray.mk #[110, 101, 120, 116])).toList))), (79, .bool false)] fun a M => ?_
 replace M := M.sp 81 (.bool false) rfl (congrArg Value.bool (qo3 _))
 refine fp M 9 33 [(90, .bool false)] fun a M => s_d0 ?_
 replace M := M.to [(90, .bool false), (2, vP g2 0), (1, vS gA16 15 c16), (0, .bool false)]
 refine s_cf M (wp_skip (wp_seq (s_fs1 ?_)))
 refine fo M 0 rfl rfl ?_
 refine s_ek M O [vI 0, vB 112] (z0 0 112 (by decide) (by decide) _) fun A91 c91 w91 hc91 O a M => ?_
 refine s_fz M O 1 rfl (v := .agg #[.slice A91 15 c91, vI 342]) (Yl.build (vs := [(0, .slice A91 15 c91), (1, vI 342)]) rfl (by kernel_rfl) (by kernel_rfl)) fun a M => ?_
 refine fo M 2 rfl rfl ?_
 refine s_ek M O [vI 2, vB 2] (z0 2 2 (by decide) (by decide) _) fun A93 c93 w93 hc93 O a M => ?_
 refine s_fz M O 3 rfl (v := .agg #[.slice A93 15 c93, vI 343]) (Yl.build (vs := [(0, .slice A93 15 c93), (1, vI 343)]) rfl (by kernel_rfl) (by kernel_rfl)) fun a M => ?_
 refine fo M 4 rfl rfl ?_
 refine s_ek M O [vI 4, vB 0] (z0 4 0 (by decide) (by decide) _) fun A95 c95 w95 hc95 O a M => ?_
 refine s_fz M O 5 rfl (v := .agg #[.slice A95 15 c95, vI 345]) (Yl.build (vs := [(0, .slice A95 15 c95), (1, vI 345)]) rfl (by kernel_rfl) (by kernel_rfl)) fun a M => ?_
 refine fo M 6 rfl rfl ?_
 refine s_ek M O [vI 4, vB 65] (z0 4 65 (by decide) (by decide) _) fun A97 c97 w97 hc97 O a M => ?_
 refine s_fz M O 7 rfl (v := .agg #[.slice A97 15 c97, vI 345]) (Yl.build (vs := [(0, .slice A97 15 c97), (1, vI 345)]) rfl (by kernel_rfl) (by kernel_rfl)) fun a M => ?_
 refine fo M 8 rfl rfl ?_
 refine s_ek M O [vI 6, vB 0] (z0 6 0 (by decide) (by decide) _) fun A99 c99 w99 hc99 O a M => ?_
 refine s_fz M O 9 rfl (v := .agg #[.slice A99 15 c99, vI 345]) (Yl.build (vs := [(0, .slice A99 15 c99), (1, vI 345)]) rfl (by kernel_rfl) (by kernel_rfl)) fun a M => ?_
 refine fo M 10 rfl rfl ?_
 refine s_ek M O [vI 9, vB 1] (z0 9 1 (by decide) (by decide) _) fun A101 c101 w101 hc101 O a M => ?_
 refine s_fz M O 11 rfl (v := .agg #[.slice A101 15 c101, vI 344]) (Yl.build (vs := [(0, .slice A101 15 c101), (1, vI 344)]) rfl (by kernel_rfl) (by kernel_rfl)) fun a M => ?_
 refine fo M 12 rfl rfl ?_
 refine s_ek M O [] (qc3 _) fun A103 c103 w103 hc103 O a M => ?_
 obtain ⟨gA103, rfl⟩ := q9 (O.own (i := 0) rfl) (Nat.lt_of_le_of_lt (Nat.zero_le _) (show 0 < 15 from (by omega : 0 < 15)))
 refine s_fz M O 13 rfl (v := vS gA103 11 11) (Yl.qup ei_u8 (j := 11) (q := 11) rfl rfl rfl rfl (by omega) (by omega)) fun a M => ?_
 refine fo M 14 rfl rfl (s_el M O ei_u8 [(0, vB 0)] #[vB 0] fun a w105 g105 M O => ?_)
 refine fo M 15 rfl rfl ?_
 refine qcf M O (xs := byA.map B8) (news := [0].map B8) rfl ei_u8 rfl rfl ((by have h1 := (O.rd (i := 1) rfl).toB8 (k := 11) (by decide); rw [qw4] at h1; exact h1)) (O.rdBlk (i := 0) (size := 1) (n := 1) rfl rfl) (by omega) (by omega) (fun h => by cases h) (by omega) (by omega) rfl (by decide) fun a w106 g106 c106 M O hc106 => ?_
 replace O := O.asRow (i := 0) (ys := (byA ++ [0]).map B8) rfl (rfl)
 refine fo M 16 rfl rfl ?_
 refine s_ek M O [vS g106 12 c106] (quj (some ⟨g106, 0, none⟩) c106 _ (O.rd (i := 0) rfl)) fun A107 c107 w107 hc107 O a M => ?_
 refine s_fz M O 17 rfl (v := .agg #[.slice A107 16 c107, vI 346]) (Yl.build (vs := [(0, .slice A107 16 c107), (1, vI 346)]) rfl (by kernel_rfl) (by kernel_rfl)) fun a M => ?_
 refine fo M 18 rfl rfl ?_
 refine s_ek M O [vI 3, vB 0] (z0 3 0 (by decide) (by decide) _) fun A109 c109 w109 hc109 O a M => ?_
 refine s_fz M O 19 rfl (v := .agg #[.slice A109 15 c109, vI 347]) (Yl.build (vs := [(0, .slice A109 15 c109), (1, vI 347)]) rfl (by kernel_rfl) (by kernel_rfl)) fun a M => ?_
 refine fo M 20 rfl rfl ?_
 refine s_ek M O [vI 8, vB 5] (z0 8 5 (by decide) (by decide) _) fun A111 c111 w111 hc111 O a M => ?_
 refine s_fz M O 21 rfl (v := .agg #[.slice A111 15 c111, vI 347]) (Yl.build (vs := [(0, .slice A111 15 c111), (1, vI 347)]) rfl (by kernel_rfl) (by kernel_rfl)) fun a M => ?_
 refine fo M 22 rfl rfl (s_el M O ei_xb [(0, .agg #[.slice A91 15 c91, vI 342]), (1, .agg #[.slice A93 15 c93, vI 343]), (2, .agg #[.slice A95 15 c95, vI 345]), (3, .agg #[.slice A97 15 c97, vI 345]), (4, .agg #[.slice A99 15 c99, vI 345]), (5, .agg #[.slice A101 15 c101, vI 344]), (6, .agg #[.slice A107 16 c107, vI 346]), (7, .agg #[.slice A109 15 c109, vI 347]), (8, .agg #[.slice A111 15 c111, vI 347])] #[.slice A91 15 c91, vI 342, .slice A93 15 c93, vI 343, .slice A95 15 c95, vI 345, .slice A97 15 c97, vI 345, .slice A99 15 c99, vI 345, .slice A101 15 c101, vI 344, .slice A107 16 c107, vI 346, .slice A109 15 c109, vI 347, .slice A111 15 c111, vI 347] fun a w113 g113 M O => ?_)
 refine s_fl M 23 fun a M => ?_
 refine fp M 1 24 [(115, vI 0)] fun a M => s_d0 ?_
 replace O := (O.blkRow (i := 0) (n := 9) (size := 2) rfl rfl (by decide)).asRow (i := 0) (ys := ([⟨A91, 15, c91, chX 0 112, 342⟩, ⟨A93, 15, c93, chX 2 2, 343⟩, ⟨A95, 15, c95, chX 4 0, 345⟩, ⟨A97, 15, c97, chX 4 65, 345⟩, ⟨A99, 15, c99, chX 6 0, 345⟩, ⟨A101, 15, c101, chX 9 1, 344⟩, ⟨A107, 16, c107, moreX, 346⟩, ⟨A109, 15, c109, chX 3 0, 347⟩, ⟨A111, 15, c111, chX 8 5, 347⟩] : List Xb).flatMap xbL) rfl (rfl)
 replace O := O.pk [0, 12, 11, 10, 9, 8, 7, 3, 2, 1]
 have hok : ∀ x ∈ ([⟨A91, 15, c91, chX 0 112, 342⟩, ⟨A93, 15, c93, chX 2 2, 343⟩, ⟨A95, 15, c95, chX 4 0, 345⟩, ⟨A97, 15, c97, chX 4 65, 345⟩, ⟨A99, 15, c99, chX 6 0, 345⟩, ⟨A101, 15, c101, chX 9 1, 344⟩, ⟨A107, 16, c107, moreX, 346⟩, ⟨A109, 15, c109, chX 3 0, 347⟩, ⟨A111, 15, c111, chX 8 5, 347⟩] : List Xb), x.Ok := by
   intro x hx; simp only [List.mem_cons, List.not_mem_nil, or_false] at hx
   rcases hx with rfl | rfl | rfl | rfl | rfl | rfl | rfl | rfl | rfl
   · exact ⟨qb9 _ _, hc91, (by show 15 ≤ 100; decide), ch_lt (by decide), x1⟩
   · exact ⟨qb9 _ _, hc93, (by show 15 ≤ 100; decide), ch_lt (by decide), x2⟩
   · exact ⟨qb9 _ _, hc95, (by show 15 ≤ 100; decide), ch_lt (by decide), x3⟩
   · exact ⟨qb9 _ _, hc97, (by show 15 ≤ 100; decide), ch_lt (by decide), x4⟩
   · exact ⟨qb9 _ _, hc99, (by show 15 ≤ 100; decide), ch_lt (by decide), x5⟩
   · exact ⟨qb9 _ _, hc101, (by show 15 ≤ 100; decide), ch_lt (by decide), x6⟩
   · exact ⟨qo5, hc107, (by show 16 ≤ 100; decide), q0o, x7⟩
   · exact ⟨qb9 _ _, hc109, (by show 15 ≤ 100; decide), ch_lt (by decide), x8⟩
   · exact ⟨qb9 _ _, hc111, (by show 15 ≤ 100; decide), ch_lt (by decide), x9⟩
 obtain ⟨q, hq⟩ : ∃ q : List Xb, q = [⟨A91, 15, c91, chX 0 112, 342⟩, ⟨A93, 15, c93, chX 2 2, 343⟩, ⟨A95, 15, c95, chX 4 0, 345⟩, ⟨A97, 15, c97, chX 4 65, 345⟩, ⟨A99, 15, c99, chX 6 0, 345⟩, ⟨A101, 15, c101, chX 9 1, 344⟩, ⟨A107, 16, c107, moreX, 346⟩, ⟨A109, 15, c109, chX 3 0, 347⟩, ⟨A111, 15, c111, chX 8 5, 347⟩] := ⟨_, rfl⟩
 have hql : q.length = 9 := by rw [hq]; rfl
 rw [← hq] at hok
 replace O : Mem w w113 (.row (vS g113 9 9) 9 (q.flatMap xbL) 102 2 :: xbF 5 q) := by rw [hq]; exact O
 refine wp_block ?_
 refine qe (fun mS aS wS => ∃ (k : Nat), (k ≤ 9) ∧ mS = 9 - k ∧ Fr aS 130 [] [(115, vI k), (114, vI 9), (113, vS g113 9 9), (90, .bool false), (2, vP g2 0), (1, vS gA16 15 c16), (0, .bool false)] ∧ Mem w wS (.row (vS g113 9 9) 9 (q.flatMap xbL) 102 2 :: xbF 5 q)) (m := 9 - 0) ⟨0, Nat.zero_le _, rfl, M.sub (by kernel_rfl), O.pt 1 [0]⟩ ?_
 clear M O; rintro mS a w_ ⟨k, hk, rfl, M, O⟩
 refine s_fs1 ?_
 refine fp M 1 0 [(116, .bool (decide ((k : Int) < (9 : Int))))] fun a M => s_d0 (wp_seq ?_)
 rcases M.tf 116 rfl with ⟨hb116, M⟩ | ⟨hb116, M⟩
 ·
  have hd116 := of_decide_eq_true hb116
  obtain ⟨x, hx⟩ : ∃ x, q.getD k Xb.zero = x := ⟨_, rfl⟩
  have hxq : x ∈ q := by rw [← hx]; exact qr Xb.zero (by omega)
  obtain ⟨hx1, hx2, hx3, hx4, hx5⟩ := hok x hxq
  refine s_ct M (wp_skip (wp_seq (wp_block (s_fs1 ?_))))
  refine s_fz M O 0 rfl (v := vP g113 (k * 2)) (Yl.ix0 g113 k 2 rfl rfl rfl) fun a M => ?_
  refine s_fz M O 1 rfl (v := .agg ((q.getD k Xb.zero).cells)) (Yl.qt rfl rfl si_xb rfl (fun _ h => h.qc5 q0s (i := 0) rfl ((getD_at Xb.zero (by omega))))) fun a M => ?_
  replace M := M.sp 118 (.agg x.cells) rfl (by rw [hx])
  refine fo M 2 rfl rfl (s_ea M O #[.slice none 0 0, vI 0] fun a w13 g13 M O => ?_)
  refine fo M 3 rfl rfl (e_sa M O 0 rfl rfl rfl rfl rfl si_xb rfl rfl (q2l x) fun w12_3 O => ?_)
  refine s_d0 (s_fs1 ?_)
  refine fp M 1 0 [(120, vP g13 0)] fun a M => s_fc M O 1 0 (v := .slice x.A x.n x.c) fun a M => ?_
  refine fo M 2 rfl rfl ?_
  refine e_cl M [.slice x.A x.n x.c] rfl rfl (qdu _ _ _ _ B _ (hL.mem O hB) (O.le hB) (O.xbAt 2 rfl hxq) hx2 hx1 (by omega) hx4 hx5) ?_
  rintro _ w122 ⟨z122, rfl, hz122, _, hm⟩
  refine ⟨_, rfl, ?_⟩
  replace O := O.call hm.below
  clear M; intro a M
  refine fp M 3 3 [(124, vI x.e), (123, .agg z122.cells)] fun a M => fo M 6 rfl rfl (s_ea M O #[vI 0, vI 0, vQ 0, .slice none 0 0, .slice none 0 0, .slice none 0 0, .slice none 0 0, .slice none 0 0] fun a w14 g14 M O => ?_)
  refine fo M 7 rfl rfl (e_sa M O 0 rfl rfl rfl rfl rfl z6 rfl rfl (qa5 z122) fun w13_7 O => ?_)
  refine fp M 1 8 [(15, vI x.e)] fun a M => s_d0 (s_fs1 ?_)
  refine fp M 2 0 [(126, vP g13 1), (125, vI x.e)] fun a M => s_fc M O 2 1 (v := vI x.e) fun a M => ?_
  refine fp M 1 3 [(128, .bool ((x.e : Int) != (x.e : Int)))] fun a M => s_d0 ?_
  rcases M.tf 128 rfl with ⟨hb128, M⟩ | ⟨hb128, M⟩
  ·
   have hd128 := bne_iff_ne.1 hb128
   exact absurd rfl hd128
  have hd128 := bne_eq_false_iff_eq.1 hb128
  refine s_cf M (wp_skip (qa ?_))
  refine fp M 1 0 [(129, vI (IntKind.i64.wrap ((k : Int) + 1)))] fun a M => ?_
  replace M := M.sp 129 (vI (k + 1 : Nat)) rfl (qc (by omega) (by omega))
  refine fp M 1 1 [(115, vI (k + 1 : Nat))] fun a M => s_d0 ?_
  exact ⟨_, (by omega), k + 1, by omega, rfl, M.sub (by kernel_rfl), O.pt 3 [2]⟩
 have hd116 := of_decide_eq_false hb116
 refine s_cf M (wp_exit (s_fs1 ?_))
 refine fp M 1 0 [(0, .bool true)] fun a M => s_d0 (wp_ret ?_)
 exact s_rt1 rfl M rfl (⟨rfl, O.below⟩)
theorem qw6 (B : Nat) (w : World) (hL : LaidX B w) (hB : B ≤ w.heap.size) :
    Calls Tryz.prog 18 #[] w (Is w (.bool true)) := by
 refine s_ce Tryz.func18 [] [] fun a M => ?_
 have O := Mem.start w
 refine s_fs1 ?_
 refine fp M 1 0 [(0, .bool false)] fun a M => s_d0 (wp_seq (s_fs1 ?_))
 refine s_fz M O 0 rfl (v := .agg #[vB 64, vB 1, vB 0]) (Yl.qev (n := 3) (sz := 1) (vs := [(0, vB 64), (1, vB 1), (2, vB 0)]) rfl rfl (by kernel_rfl) (by kernel_rfl)) fun a M => ?_
 refine s_fz M O 1 rfl (v := .agg #[vB 64, vB 2, vB 0]) (Yl.qev (n := 3) (sz := 1) (vs := [(0, vB 64), (1, vB 2), (2, vB 0)]) rfl rfl (by kernel_rfl) (by kernel_rfl)) fun a M => ?_
 refine s_fz M O 2 rfl (v := .agg #[vB 65, vB 1, vB 0]) (Yl.qev (n := 3) (sz := 1) (vs := [(0, vB 65), (1, vB 1), (2, vB 0)]) rfl rfl (by kernel_rfl) (by kernel_rfl)) fun a M => ?_
 refine s_fz M O 3 rfl (v := .agg #[vB 1, vB 127, vB 0]) (Yl.qev (n := 3) (sz := 1) (vs := [(0, vB 1), (1, vB 127), (2, vB 0)]) rfl rfl (by kernel_rfl) (by kernel_rfl)) fun a M => ?_
 refine s_fz M O 4 rfl (v := .agg #[vB 2, vB 100, vB 3]) (Yl.qev (n := 3) (sz := 1) (vs := [(0, vB 2), (1, vB 100), (2, vB 3)]) rfl rfl (by kernel_rfl) (by kernel_rfl)) fun a M => ?_
 refine s_fz M O 5 rfl (v := .agg #[vB 1, vB 1, vB 100]) (Yl.qev (n := 3) (sz := 1) (vs := [(0, vB 1), (1, vB 1), (2, vB 100)]) rfl rfl (by kernel_rfl) (by kernel_rfl)) fun a M => ?_
 refine fo M 6 rfl rfl (s_el M O ei_tq [(0, .agg #[vB 64, vB 1, vB 0]), (1, .agg #[vB 64, vB 2, vB 0]), (2, .agg #[vB 65, vB 1, vB 0]), (3, .agg #[vB 1, vB 127, vB 0]), (4, .agg #[vB 2, vB 100, vB 3]), (5, .agg #[vB 1, vB 1, vB 100])] #[vB 64, vB 1, vB 0, vB 64, vB 2, vB 0, vB 65, vB 1, vB 0, vB 1, vB 127, vB 0, vB 2, vB 100, vB 3, vB 1, vB 1, vB 100] fun a w23 g23 M O => ?_)
 refine s_fl M 7 fun a M => ?_
 refine fp M 1 8 [(25, vI 0)] fun a M => s_d0 ?_
 replace O := (O.blkRow (i := 0) (n := 6) (size := 3) rfl rfl (by decide)).asRow (i := 0) (ys := six.flatMap tqL) rfl (by kernel_rfl)
 refine wp_block ?_
 refine qe (fun mS aS wS => ∃ (k : Nat), (k ≤ 6) ∧ mS = 6 - k ∧ Fr aS 176 [] [(25, vI k), (24, vI 6), (23, vS g23 6 6), (0, .bool false)] ∧ Mem w wS [.row (vS g23 6 6) 6 (six.flatMap tqL) 113 3]) (m := 6 - 0) ⟨0, Nat.zero_le _, rfl, M.sub (by kernel_rfl), O.pk [0]⟩ ?_
 clear M O; rintro mS a w_ ⟨k, hk, rfl, M, O⟩
 refine s_fs1 ?_
 refine fp M 1 0 [(26, .bool (decide ((k : Int) < (6 : Int))))] fun a M => s_d0 (wp_seq ?_)
 rcases M.tf 26 rfl with ⟨hb26, M⟩ | ⟨hb26, M⟩
 ·
  have hd26 := of_decide_eq_true hb26
  have hk26 : k < 6 := by omega
  obtain ⟨t, ht⟩ : ∃ t, six.getD k Tq.zero = t := ⟨_, rfl⟩
  have hto : t.Ok := by rw [← ht]; exact q2q _ (qr Tq.zero (show k < six.length from hk26))
  obtain ⟨ta1, ta2, tb1, tb2, tc2, tn2, tlt, tde⟩ := hto
  refine s_ct M (wp_skip (wp_seq (wp_block (s_fs1 ?_))))
  refine s_fz M O 0 rfl (v := vP g23 (k * 3)) (Yl.ix0 g23 k 3 rfl rfl rfl) fun a M => ?_
  refine s_fz M O 1 rfl (v := .agg ((six.getD k Tq.zero).cells)) (Yl.qt rfl rfl si_tq rfl (fun _ h => h.qc5 q0w (i := 0) rfl ((getD_at Tq.zero (show k < six.length from hk26))))) fun a M => ?_
  replace M := M.sp 28 (.agg t.cells) rfl (by rw [ht])
  refine fo M 2 rfl rfl (s_ea M O #[vB 0, vB 0, vB 0] fun a w2 g2 M O => ?_)
  refine fo M 3 rfl rfl (e_sa M O 0 rfl rfl rfl rfl rfl si_tq rfl rfl (q2p t) fun w3_3 O => ?_)
  refine s_d0 (s_fs1 ?_)
  refine s_fz M O 0 rfl (v := vP g2 0) (Yl.zp (ad := ⟨g2, 0, none⟩) (m := 3) (y := 0) (sz := 1) rfl rfl rfl (by kernel_rfl) (by decide)) fun a M => ?_
  refine s_fc M O 1 0 (v := vB t.a) fun a M => ?_
  refine s_fz M O 2 rfl (v := vP g2 1) (Yl.zp (ad := ⟨g2, 0, none⟩) (m := 3) (y := 1) (sz := 1) rfl rfl rfl (by kernel_rfl) (by decide)) fun a M => ?_
  refine s_fc M O 3 0 (v := vB t.b) fun a M => ?_
  refine fo M 4 rfl rfl (s_el M O ei_u8 [(0, vB 113), (1, vB 115), (2, vB 1), (3, vB 1), (4, vB t.a), (5, vB 0), (6, vB t.b)] #[vB 113, vB 115, vB 1, vB 1, vB t.a, vB 0, vB t.b] fun a w33 g33 M O => ?_)
  refine fp M 1 5 [(3, vS g33 7 7)] fun a M => s_d0 ?_
  replace O := (O.blkRow (i := 0) (n := 7) (size := 1) rfl rfl (by decide)).asRow (i := 0) (ys := ([113, 115, 1, 1, t.a, 0, t.b] : List Nat).map B8) rfl (rfl)
  refine wp_seq (s_fs1 ?_)
  refine s_fz M O 0 rfl (v := vP g2 1) (Yl.zp (ad := ⟨g2, 0, none⟩) (m := 3) (y := 1) (sz := 1) rfl rfl rfl (by kernel_rfl) (by decide)) fun a M => ?_
  refine s_fc M O 1 1 (v := vB t.b) fun a M => ?_
  refine fp M 1 2 [(36, vB (IntKind.u8.wrap ((t.b : Int) - 1)))] fun a M => ?_
  replace M := M.sp 36 (vB (t.b - 1 : Nat)) rfl (qqx (by omega) (by omega))
  refine fp M 1 3 [(37, vB 0)] fun a M => s_d0 (wp_block ?_)
  refine qe (fun mS aS wS => ∃ (i1 : Nat) (b1 : List Nat) (B1 : Option Addr) (k1 : Nat), (i1 ≤ t.b - 1) ∧ (b1 = man0 t ++ upF i1 fun _ => [0, 1]) ∧ (b1.length = 7 + 2 * i1) ∧ (b1.length ≤ k1) ∧ mS = t.b - 1 - i1 ∧ Fr aS 176 [] [(37, vB i1), (36, vB (t.b - 1 : Nat)), (3, .slice B1 b1.length k1), (2, vP g2 0), (26, .bool true), (25, vI k), (24, vI 6), (23, vS g23 6 6), (0, .bool false)] ∧ Mem w wS [.row (.slice B1 b1.length k1) b1.length (b1.map B8) 5 1, .blk g2 t.cells 113, .row (vS g23 6 6) 6 (six.flatMap tqL) 113 3]) (m := t.b - 1 - 0) ⟨0, [113, 115, 1, 1, t.a, 0, t.b], (some ⟨g33, 0, none⟩), 7, Nat.zero_le _, rfl, rfl, Nat.le_of_ble_eq_true rfl, rfl, M.sub (by kernel_rfl), O.pk [0, 1, 2]⟩ ?_
  clear M O; rintro mS a w_ ⟨i1, b1, B1, k1, hi1, hb1, hlb1, hk1, rfl, M, O⟩
  refine s_fs1 ?_
  refine fp M 1 0 [(38, .bool (decide ((i1 : Int) < ((t.b - 1 : Nat) : Int))))] fun a M => s_d0 (wp_seq ?_)
  rcases M.tf 38 rfl with ⟨hb38, M⟩ | ⟨hb38, M⟩
  ·
   have hd38 := of_decide_eq_true hb38
   refine s_ct M (wp_skip (wp_seq (wp_block (qa ?_))))
   refine fp M 1 0 [(39, .slice B1 b1.length k1)] fun a M => fo M 1 rfl rfl (s_el M O ei_u8 [(0, vB 0), (1, vB 1)] #[vB 0, vB 1] fun a w40 g40 M O => ?_)
   refine fo M 2 rfl rfl (qd M O (i := 1) rfl ei_u8 rfl rfl rfl (news := [0, 1].map B8) (O.rdBlk (i := 0) (n := 2) (size := 1) rfl rfl) (by simp [Value.oneCell', B8]) (by omega) (by omega) rfl (by decide) fun a w41 A41 c41 M O hc41 => ?_)
   refine fp M 1 3 [(3, .slice A41 (b1.length + 2) c41)] fun a M => s_d0 ?_
   have hnA41 : b1.length + 2 = (b1 ++ [0, 1]).length := by rw [List.length_append]; rfl
   replace O := O.reRow (i := 1) (ys := (b1 ++ [0, 1]).map B8) rfl hnA41 (List.map_append.symm)
   rw [hnA41] at hc41
   replace M := M.sp 3 (.slice A41 ((b1 ++ [0, 1]).length) c41) rfl (by rw [hnA41])
   replace M := M.sp 41 (.slice A41 ((b1 ++ [0, 1]).length) c41) rfl (by rw [hnA41])
   refine qa ?_
   refine fp M 1 0 [(42, vB (IntKind.u8.wrap ((i1 : Int) + 1)))] fun a M => ?_
   replace M := M.sp 42 (vB (i1 + 1 : Nat)) rfl (qqx (by omega) (by omega))
   refine fp M 1 1 [(37, vB (i1 + 1 : Nat))] fun a M => s_d0 ?_
   exact ⟨_, (by omega), i1 + 1, (b1 ++ [0, 1]), A41, c41, by omega, upP hb1, by rw [List.length_append, hlb1]; show _ + 2 = _; omega, hc41, rfl, M.sub (by kernel_rfl), O.pk [1, 2, 3]⟩
  have hd38 := of_decide_eq_false hb38
  refine s_cf M (wp_exit (wp_seq (s_fs1 ?_)))
  refine s_fz M O 0 rfl (v := vP g2 0) (Yl.zp (ad := ⟨g2, 0, none⟩) (m := 3) (y := 0) (sz := 1) rfl rfl rfl (by kernel_rfl) (by decide)) fun a M => ?_
  refine s_fc M O 1 1 (v := vB t.a) fun a M => ?_
  refine fp M 1 2 [(45, vI (IntKind.i64.wrap (t.a : Int)))] fun a M => ?_
  replace M := M.sp 45 (vI t.a) rfl (qc rfl (by omega))
  refine fp M 1 3 [(46, vI (IntKind.i64.wrap (2 * (t.a : Int))))] fun a M => ?_
  replace M := M.sp 46 (vI (2 * t.a : Nat)) rfl (qc (by omega) (by omega))
  refine fp M 1 4 [(47, vI 0)] fun a M => s_d0 (wp_block ?_)
  refine qe (fun mS aS wS => ∃ (i2 : Nat) (b2 : List Nat) (B2 : Option Addr) (k2 : Nat), (i2 ≤ 2 * t.a) ∧ (b2 = man1 t ++ upF i2 fun _ => [0]) ∧ (b2.length = 7 + 2 * (t.b - 1) + 1 * i2) ∧ (b2.length ≤ k2) ∧ mS = 2 * t.a - i2 ∧ Fr aS 176 [] [(47, vI i2), (46, vI (2 * t.a : Nat)), (38, .bool false), (37, vB i1), (36, vB (t.b - 1 : Nat)), (3, .slice B2 b2.length k2), (2, vP g2 0), (26, .bool true), (25, vI k), (24, vI 6), (23, vS g23 6 6), (0, .bool false)] ∧ Mem w wS [.row (.slice B2 b2.length k2) b2.length (b2.map B8) 5 1, .blk g2 t.cells 113, .row (vS g23 6 6) 6 (six.flatMap tqL) 113 3]) (m := 2 * t.a - 0) ⟨0, b1, B1, k1, Nat.zero_le _, by rw [qbj, List.append_nil, hb1, show i1 = t.b - 1 from by omega]; rfl, by omega, hk1, rfl, M.sub (by kernel_rfl), O.pk [0, 1, 2]⟩ ?_
  clear M O; rintro mS a w_ ⟨i2, b2, B2, k2, hi2, hb2, hlb2, hk2, rfl, M, O⟩
  refine s_fs1 ?_
  refine fp M 1 0 [(48, .bool (decide ((i2 : Int) < ((2 * t.a : Nat) : Int))))] fun a M => s_d0 (wp_seq ?_)
  rcases M.tf 48 rfl with ⟨hb48, M⟩ | ⟨hb48, M⟩
  ·
   have hd48 := of_decide_eq_true hb48
   refine s_ct M (wp_skip (wp_seq (wp_block (qa ?_))))
   refine fp M 1 0 [(49, .slice B2 b2.length k2)] fun a M => fo M 1 rfl rfl (s_el M O ei_u8 [(0, vB 0)] #[vB 0] fun a w50 g50 M O => ?_)
   refine fo M 2 rfl rfl (qd M O (i := 1) rfl ei_u8 rfl rfl rfl (news := [0].map B8) (O.rdBlk (i := 0) (n := 1) (size := 1) rfl rfl) (by simp [Value.oneCell', B8]) (by omega) (by omega) rfl (by decide) fun a w51 A51 c51 M O hc51 => ?_)
   refine fp M 1 3 [(3, .slice A51 (b2.length + 1) c51)] fun a M => s_d0 ?_
   have hnA51 : b2.length + 1 = (b2 ++ [0]).length := by rw [List.length_append]; rfl
   replace O := O.reRow (i := 1) (ys := (b2 ++ [0]).map B8) rfl hnA51 (List.map_append.symm)
   rw [hnA51] at hc51
   replace M := M.sp 3 (.slice A51 ((b2 ++ [0]).length) c51) rfl (by rw [hnA51])
   replace M := M.sp 51 (.slice A51 ((b2 ++ [0]).length) c51) rfl (by rw [hnA51])
   refine qa ?_
   refine fp M 1 0 [(52, vI (IntKind.i64.wrap ((i2 : Int) + 1)))] fun a M => ?_
   replace M := M.sp 52 (vI (i2 + 1 : Nat)) rfl (qc (by omega) (by omega))
   refine fp M 1 1 [(47, vI (i2 + 1 : Nat))] fun a M => s_d0 ?_
   exact ⟨_, (by omega), i2 + 1, (b2 ++ [0]), A51, c51, by omega, upP hb2, by rw [List.length_append, hlb2]; show _ + 1 = _; omega, hc51, rfl, M.sub (by kernel_rfl), O.pk [1, 2, 3]⟩
  have hd48 := of_decide_eq_false hb48
  refine s_cf M (wp_exit (s_fs1 ?_))
  refine fp M 1 0 [(53, .slice B2 b2.length k2)] fun a M => s_fz M O 1 rfl (v := vP g2 2) (Yl.zp (ad := ⟨g2, 0, none⟩) (m := 3) (y := 2) (sz := 1) rfl rfl rfl (by kernel_rfl) (by decide)) fun a M => ?_
  refine s_fc M O 2 1 (v := vB t.c) fun a M => ?_
  refine fo M 3 rfl rfl (s_el M O ei_u8 [(0, vB t.c)] #[vB t.c] fun a w56 g56 M O => ?_)
  refine fo M 4 rfl rfl (qd M O (i := 1) rfl ei_u8 rfl rfl rfl (news := [t.c].map B8) (O.rdBlk (i := 0) (n := 1) (size := 1) rfl rfl) (by simp [Value.oneCell', B8]) (by omega) (by omega) rfl (by decide) fun a w57 A57 c57 M O hc57 => ?_)
  refine fp M 1 5 [(3, .slice A57 (b2.length + 1) c57)] fun a M => s_d0 ?_
  have hnA57 : b2.length + 1 = (b2 ++ [t.c]).length := by rw [List.length_append]; rfl
  replace O := O.reRow (i := 1) (ys := (b2 ++ [t.c]).map B8) rfl hnA57 (List.map_append.symm)
  rw [hnA57] at hc57
  replace M := M.sp 3 (.slice A57 ((b2 ++ [t.c]).length) c57) rfl (by rw [hnA57])
  replace M := M.sp 57 (.slice A57 ((b2 ++ [t.c]).length) c57) rfl (by rw [hnA57])
  refine wp_seq (s_fs1 ?_)
  refine s_fz M O 0 rfl (v := vP g2 2) (Yl.zp (ad := ⟨g2, 0, none⟩) (m := 3) (y := 2) (sz := 1) rfl rfl rfl (by kernel_rfl) (by decide)) fun a M => ?_
  refine s_fc M O 1 2 (v := vB t.c) fun a M => ?_
  refine fp M 1 2 [(60, vB 0)] fun a M => s_d0 (wp_block ?_)
  refine qe (fun mS aS wS => ∃ (i3 : Nat) (b3 : List Nat) (B3 : Option Addr) (k3 : Nat), (i3 ≤ t.c) ∧ (b3 = man3 t ++ upF i3 fun _ => [1, 0, 1, 0, 1, 0, 0, 0]) ∧ (b3.length = 7 + 2 * (t.b - 1) + 2 * t.a + 1 + 8 * i3) ∧ (b3.length ≤ k3) ∧ mS = t.c - i3 ∧ Fr aS 176 [] [(60, vB i3), (59, vB t.c), (57, .slice A57 ((b2 ++ [t.c]).length) c57), (3, .slice B3 b3.length k3), (48, .bool false), (47, vI i2), (46, vI (2 * t.a : Nat)), (38, .bool false), (37, vB i1), (36, vB (t.b - 1 : Nat)), (2, vP g2 0), (26, .bool true), (25, vI k), (24, vI 6), (23, vS g23 6 6), (0, .bool false)] ∧ Mem w wS [.row (.slice B3 b3.length k3) b3.length (b3.map B8) 5 1, .blk g2 t.cells 113, .row (vS g23 6 6) 6 (six.flatMap tqL) 113 3]) (m := t.c - 0) ⟨0, (b2 ++ [t.c]), A57, c57, Nat.zero_le _, by rw [qbj, List.append_nil, hb2, show i2 = 2 * t.a from by omega]; rfl, by rw [List.length_append, hlb2]; show _ + 1 = _; omega, hc57, rfl, M.sub (by kernel_rfl), O.pk [1, 2, 3]⟩ ?_
  clear M O; rintro mS a w_ ⟨i3, b3, B3, k3, hi3, hb3, hlb3, hk3, rfl, M, O⟩
  refine s_fs1 ?_
  refine fp M 1 0 [(61, .bool (decide ((i3 : Int) < (t.c : Int))))] fun a M => s_d0 (wp_seq ?_)
  rcases M.tf 61 rfl with ⟨hb61, M⟩ | ⟨hb61, M⟩
  ·
   have hd61 := of_decide_eq_true hb61
   refine s_ct M (wp_skip (wp_seq (wp_block (qa ?_))))
   refine fp M 1 0 [(62, .slice B3 b3.length k3)] fun a M => fo M 1 rfl rfl (s_el M O ei_u8 [(0, vB 1), (1, vB 0), (2, vB 1), (3, vB 0), (4, vB 1), (5, vB 0), (6, vB 0), (7, vB 0)] #[vB 1, vB 0, vB 1, vB 0, vB 1, vB 0, vB 0, vB 0] fun a w63 g63 M O => ?_)
   refine fo M 2 rfl rfl (qd M O (i := 1) rfl ei_u8 rfl rfl rfl (news := [1, 0, 1, 0, 1, 0, 0, 0].map B8) (O.rdBlk (i := 0) (n := 8) (size := 1) rfl rfl) (by simp [Value.oneCell', B8]) (by omega) (by omega) rfl (by decide) fun a w64 A64 c64 M O hc64 => ?_)
   refine fp M 1 3 [(3, .slice A64 (b3.length + 8) c64)] fun a M => s_d0 ?_
   have hnA64 : b3.length + 8 = (b3 ++ [1, 0, 1, 0, 1, 0, 0, 0]).length := by rw [List.length_append]; rfl
   replace O := O.reRow (i := 1) (ys := (b3 ++ [1, 0, 1, 0, 1, 0, 0, 0]).map B8) rfl hnA64 (List.map_append.symm)
   rw [hnA64] at hc64
   replace M := M.sp 3 (.slice A64 ((b3 ++ [1, 0, 1, 0, 1, 0, 0, 0]).length) c64) rfl (by rw [hnA64])
   replace M := M.sp 64 (.slice A64 ((b3 ++ [1, 0, 1, 0, 1, 0, 0, 0]).length) c64) rfl (by rw [hnA64])
   refine qa ?_
   refine fp M 1 0 [(65, vB (IntKind.u8.wrap ((i3 : Int) + 1)))] fun a M => ?_
   replace M := M.sp 65 (vB (i3 + 1 : Nat)) rfl (qqx (by omega) (by omega))
   refine fp M 1 1 [(60, vB (i3 + 1 : Nat))] fun a M => s_d0 ?_
   exact ⟨_, (by omega), i3 + 1, (b3 ++ [1, 0, 1, 0, 1, 0, 0, 0]), A64, c64, by omega, upP hb3, by rw [List.length_append, hlb3]; show _ + 8 = _; omega, hc64, rfl, M.sub (by kernel_rfl), O.pk [1, 2, 3]⟩
  have hd61 := of_decide_eq_false hb61
  refine s_cf M (wp_exit (wp_seq (s_fs1 ?_)))
  refine s_fz M O 0 rfl (v := vP g2 0) (Yl.zp (ad := ⟨g2, 0, none⟩) (m := 3) (y := 0) (sz := 1) rfl rfl rfl (by kernel_rfl) (by decide)) fun a M => ?_
  refine s_fc M O 1 1 (v := vB t.a) fun a M => ?_
  refine fp M 1 2 [(68, vI (IntKind.i64.wrap (t.a : Int)))] fun a M => ?_
  replace M := M.sp 68 (vI t.a) rfl (qc rfl (by omega))
  refine s_fz M O 3 rfl (v := vP g2 1) (Yl.zp (ad := ⟨g2, 0, none⟩) (m := 3) (y := 1) (sz := 1) rfl rfl rfl (by kernel_rfl) (by decide)) fun a M => ?_
  refine s_fc M O 4 1 (v := vB t.b) fun a M => ?_
  refine fp M 1 5 [(71, vI (IntKind.i64.wrap (t.b : Int)))] fun a M => ?_
  replace M := M.sp 71 (vI t.b) rfl (qc rfl (by omega))
  refine fp M 1 6 [(72, vI (IntKind.i64.wrap ((t.b : Int) - 1)))] fun a M => ?_
  replace M := M.sp 72 (vI (t.b - 1 : Nat)) rfl (qc (by omega) (by omega))
  refine fp M 1 7 [(73, vI (IntKind.i64.wrap (3 * ((t.b - 1 : Nat) : Int))))] fun a M => ?_
  replace M := M.sp 73 (vI (3 * (t.b - 1) : Nat)) rfl (qc (by omega) (by omega))
  refine fp M 1 8 [(74, vI (IntKind.i64.wrap (1 + ((3 * (t.b - 1) : Nat) : Int))))] fun a M => ?_
  replace M := M.sp 74 (vI (1 + (3 * (t.b - 1)) : Nat)) rfl (qc (by omega) (by omega))
  refine fp M 1 9 [(75, vI (IntKind.i64.wrap ((t.a : Int) * ((1 + (3 * (t.b - 1)) : Nat) : Int))))] fun a M => ?_
  replace M := M.sp 75 (vI t.n5) rfl (qc (by unfold Tq.n5; rw [Int.natCast_mul]) (by omega))
  refine fp M 1 10 [(76, vI 0)] fun a M => s_d0 (wp_block ?_)
  refine qe (fun mS aS wS => ∃ (i4 : Nat) (b4 : List Nat) (B4 : Option Addr) (k4 : Nat), (i4 ≤ t.n5) ∧ (b4 = man4 t ++ upF i4 fun _ => [0]) ∧ (b4.length = 7 + 2 * (t.b - 1) + 2 * t.a + 1 + 8 * t.c + 1 * i4) ∧ (b4.length ≤ k4) ∧ mS = t.n5 - i4 ∧ Fr aS 176 [] [(76, vI i4), (75, vI t.n5), (61, .bool false), (60, vB i3), (59, vB t.c), (57, .slice A57 ((b2 ++ [t.c]).length) c57), (3, .slice B4 b4.length k4), (48, .bool false), (47, vI i2), (46, vI (2 * t.a : Nat)), (38, .bool false), (37, vB i1), (36, vB (t.b - 1 : Nat)), (2, vP g2 0), (26, .bool true), (25, vI k), (24, vI 6), (23, vS g23 6 6), (0, .bool false)] ∧ Mem w wS [.row (.slice B4 b4.length k4) b4.length (b4.map B8) 5 1, .blk g2 t.cells 113, .row (vS g23 6 6) 6 (six.flatMap tqL) 113 3]) (m := t.n5 - 0) ⟨0, b3, B3, k3, Nat.zero_le _, by rw [qbj, List.append_nil, hb3, show i3 = t.c from by omega]; rfl, by omega, hk3, rfl, M.sub (by kernel_rfl), O.pk [0, 1, 2]⟩ ?_
  clear M O; rintro mS a w_ ⟨i4, b4, B4, k4, hi4, hb4, hlb4, hk4, rfl, M, O⟩
  refine s_fs1 ?_
  refine fp M 1 0 [(77, .bool (decide ((i4 : Int) < (t.n5 : Int))))] fun a M => s_d0 (wp_seq ?_)
  rcases M.tf 77 rfl with ⟨hb77, M⟩ | ⟨hb77, M⟩
  ·
   have hd77 := of_decide_eq_true hb77
   refine s_ct M (wp_skip (wp_seq (wp_block (qa ?_))))
   refine fp M 1 0 [(78, .slice B4 b4.length k4)] fun a M => fo M 1 rfl rfl (s_el M O ei_u8 [(0, vB 0)] #[vB 0] fun a w79 g79 M O => ?_)
   refine fo M 2 rfl rfl (qd M O (i := 1) rfl ei_u8 rfl rfl rfl (news := [0].map B8) (O.rdBlk (i := 0) (n := 1) (size := 1) rfl rfl) (by simp [Value.oneCell', B8]) (by omega) (by omega) rfl (by decide) fun a w80 A80 c80 M O hc80 => ?_)
   refine fp M 1 3 [(3, .slice A80 (b4.length + 1) c80)] fun a M => s_d0 ?_
   have hnA80 : b4.length + 1 = (b4 ++ [0]).length := by rw [List.length_append]; rfl
   replace O := O.reRow (i := 1) (ys := (b4 ++ [0]).map B8) rfl hnA80 (List.map_append.symm)
   rw [hnA80] at hc80
   replace M := M.sp 3 (.slice A80 ((b4 ++ [0]).length) c80) rfl (by rw [hnA80])
   replace M := M.sp 80 (.slice A80 ((b4 ++ [0]).length) c80) rfl (by rw [hnA80])
   refine qa ?_
   refine fp M 1 0 [(81, vI (IntKind.i64.wrap ((i4 : Int) + 1)))] fun a M => ?_
   replace M := M.sp 81 (vI (i4 + 1 : Nat)) rfl (qc (by omega) (by omega))
   refine fp M 1 1 [(76, vI (i4 + 1 : Nat))] fun a M => s_d0 ?_
   exact ⟨_, (by omega), i4 + 1, (b4 ++ [0]), A80, c80, by omega, upP hb4, by rw [List.length_append, hlb4]; show _ + 1 = _; omega, hc80, rfl, M.sub (by kernel_rfl), O.pk [1, 2, 3]⟩
  have hd77 := of_decide_eq_false hb77
  have hlL : b4 = manL t := by rw [hb4, show i4 = t.n5 from by omega]; rfl
  rw [← hlL] at tlt tde
  have hsl := ze b4
  have hst := ze (b4.take (b4.length - 1))
  have htl : (b4.take (b4.length - 1)).length = b4.length - 1 := by rw [List.length_take]; omega
  refine s_cf M (wp_exit (s_fs1 ?_))
  refine fp M 1 0 [(83, .slice B4 b4.length k4)] fun a M => fo M 1 rfl rfl ?_
  refine s_ek M O [.slice B4 b4.length k4] (qv B4 _ k4 b4 _ (O.rd (i := 0) rfl) rfl (by omega) tlt) fun A84 c84 w84 hc84 O a M => ?_
  refine fo M 2 rfl rfl ?_
  refine e_cl M [.slice A84 ((sealL b4).length) c84] rfl rfl (qbf A84 c84 (sealL b4) B _ (hL.mem O hB) (O.le hB) (O.rd (i := 0) rfl) hc84 (by omega) (zw tlt)) ?_
  rintro _ w85 ⟨⟨N85, n85, rfl, _, _⟩, hbw⟩
  refine ⟨_, rfl, ?_⟩
  replace O := O.call hbw
  clear M; intro a M
  refine fp M 5 3 [(5, vI (errR (sealL b4)))] fun a M => s_d0 (s_fs1 ?_)
  refine fp M 1 0 [(89, .slice B4 b4.length k4)] fun a M => fo M 1 rfl rfl ?_
  refine s_ek M O [.slice B4 b4.length k4] (qv B4 _ k4 b4 _ (O.rd (i := 1) rfl) rfl (by omega) tlt) fun A90 c90 w90 hc90 O a M => ?_
  refine fo M 2 rfl rfl ?_
  refine e_cl M [.slice A90 ((sealL b4).length) c90] rfl rfl (qcq A90 c90 (sealL b4) _ (O.rd (i := 0) rfl) hc90 (by omega) (zw tlt)) ?_
  rintro _ w91 ⟨⟨N91, n91, rfl, _, _⟩, hbw⟩
  refine ⟨_, rfl, ?_⟩
  replace O := O.call hbw
  clear M; intro a M
  refine fp M 5 3 [(7, vI (errR (sealL b4)))] fun a M => s_d0 (s_fs1 ?_)
  refine fp M 2 0 [(96, .slice B4 b4.length k4), (95, .slice B4 b4.length k4)] fun a M => s_fl M 2 fun a M => ?_
  refine fp M 1 3 [(98, vI (IntKind.i64.wrap ((b4.length : Int) - 1)))] fun a M => ?_
  replace M := M.sp 98 (vI (b4.length - 1 : Nat)) rfl (qc (by omega) (by omega))
  refine s_fz M O 4 rfl (v := .slice B4 (b4.length - 1) k4) (Yl.q1 ei_u8 (j := b4.length - 1) rfl rfl rfl (by omega)) fun a M => ?_
  refine fo M 5 rfl rfl ?_
  refine s_ek M O [.slice B4 (b4.length - 1) k4] (qv B4 _ k4 (b4.take (b4.length - 1)) _ ((O.rd (i := 2) rfl).toB8 (by omega)) htl (by omega) (qbg tlt _)) fun A100 c100 w100 hc100 O a M => ?_
  refine fo M 6 rfl rfl ?_
  refine e_cl M [.slice A100 ((sealL (b4.take (b4.length - 1))).length) c100] rfl rfl (qbf A100 c100 (sealL (b4.take (b4.length - 1))) B _ (hL.mem O hB) (O.le hB) (O.rd (i := 0) rfl) hc100 (by omega) (zw (qbg tlt _))) ?_
  rintro _ w101 ⟨⟨N101, n101, rfl, _, _⟩, hbw⟩
  refine ⟨_, rfl, ?_⟩
  replace O := O.call hbw
  clear M; intro a M
  refine fp M 5 7 [(9, vI (errR (sealL (b4.take (b4.length - 1)))))] fun a M => s_d0 (s_fs1 ?_)
  refine fp M 2 0 [(106, .slice B4 b4.length k4), (105, .slice B4 b4.length k4)] fun a M => s_fl M 2 fun a M => ?_
  refine fp M 1 3 [(108, vI (IntKind.i64.wrap ((b4.length : Int) - 1)))] fun a M => ?_
  replace M := M.sp 108 (vI (b4.length - 1 : Nat)) rfl (qc (by omega) (by omega))
  refine s_fz M O 4 rfl (v := .slice B4 (b4.length - 1) k4) (Yl.q1 ei_u8 (j := b4.length - 1) rfl rfl rfl (by omega)) fun a M => ?_
  refine fo M 5 rfl rfl ?_
  refine s_ek M O [.slice B4 (b4.length - 1) k4] (qv B4 _ k4 (b4.take (b4.length - 1)) _ ((O.rd (i := 3) rfl).toB8 (by omega)) htl (by omega) (qbg tlt _)) fun A110 c110 w110 hc110 O a M => ?_
  refine fo M 6 rfl rfl ?_
  refine e_cl M [.slice A110 ((sealL (b4.take (b4.length - 1))).length) c110] rfl rfl (qcq A110 c110 (sealL (b4.take (b4.length - 1))) _ (O.rd (i := 0) rfl) hc110 (by omega) (zw (qbg tlt _))) ?_
  rintro _ w111 ⟨⟨N111, n111, rfl, _, _⟩, hbw⟩
  refine ⟨_, rfl, ?_⟩
  replace O := O.call hbw
  clear M; intro a M
  refine fp M 5 7 [(11, vI (errR (sealL (b4.take (b4.length - 1)))))] fun a M => s_d0 (s_fs1 ?_)
  refine fp M 3 0 [(116, .bool ((errR (sealL b4) : Int) != (errR (sealL b4) : Int)))] fun a M => ?_
  replace M := M.sp 116 (.bool false) rfl (by simp)
  refine fp M 4 3 [(120, .bool ((errR (sealL (b4.take (b4.length - 1))) : Int) != (errR (sealL (b4.take (b4.length - 1))) : Int))), (117, .bool false)] fun a M => ?_
  replace M := M.sp 120 (.bool false) rfl (by simp)
  refine fp M 4 7 [(124, .bool ((errR (sealL b4) : Int) == (0 : Int))), (122, .bool false)] fun a M => s_fz M O 11 rfl (v := vP g2 0) (Yl.zp (ad := ⟨g2, 0, none⟩) (m := 3) (y := 0) (sz := 1) rfl rfl rfl (by kernel_rfl) (by decide)) fun a M => ?_
  refine s_fc M O 12 5 (v := vB t.a) fun a M => ?_
  refine fp M 1 13 [(127, .bool (decide ((t.a : Int) < (65 : Int))))] fun a M => s_fz M O 14 rfl (v := .bool (!(((errR (sealL b4) : Int) == (0 : Int)) == (decide ((t.a : Int) < (65 : Int)))))) (Yl.q02 rfl rfl rfl (by kernel_rfl)) fun a M => ?_
  replace M := M.sp 128 (.bool false) rfl (q0x tde)
  refine fp M 1 15 [(129, .bool false)] fun a M => s_d0 (s_cf M (wp_skip (qa ?_)))
  refine fp M 1 0 [(130, vI (IntKind.i64.wrap ((k : Int) + 1)))] fun a M => ?_
  replace M := M.sp 130 (vI (k + 1 : Nat)) rfl (qc (by omega) (by omega))
  refine fp M 1 1 [(25, vI (k + 1 : Nat))] fun a M => s_d0 ?_
  exact ⟨_, (by omega), k + 1, by omega, rfl, M.sub (by kernel_rfl), O.pk [6]⟩
 have hd26 := of_decide_eq_false hb26
 refine s_cf M (wp_exit (wp_seq (s_fs1 ?_)))
 refine s_fz M O 0 rfl (v := .agg #[.string (ByteArray.mk #[113, 115, 1, 1, 1, 0, 128, 2]), vI 344]) (Yl.build (vs := [(0, .string (ByteArray.mk #[113, 115, 1, 1, 1, 0, 128, 2])), (1, vI 344)]) rfl (by kernel_rfl) (by kernel_rfl)) fun a M => ?_
 refine s_fz M O 1 rfl (v := .agg #[.string (ByteArray.mk #[113, 115, 1, 1, 1, 0, 129, 2]), vI 345]) (Yl.build (vs := [(0, .string (ByteArray.mk #[113, 115, 1, 1, 1, 0, 129, 2])), (1, vI 345)]) rfl (by kernel_rfl) (by kernel_rfl)) fun a M => ?_
 refine s_fz M O 2 rfl (v := .agg #[.string (ByteArray.mk #[113, 115, 1, 1, 1, 0, 1, 0, 0, 255, 255, 3]), vI 344]) (Yl.build (vs := [(0, .string (ByteArray.mk #[113, 115, 1, 1, 1, 0, 1, 0, 0, 255, 255, 3])), (1, vI 344)]) rfl (by kernel_rfl) (by kernel_rfl)) fun a M => ?_
 refine s_fz M O 3 rfl (v := .agg #[.string (ByteArray.mk #[113, 115, 1, 1, 1, 0, 1, 0, 0, 128, 128, 4]), vI 345]) (Yl.build (vs := [(0, .string (ByteArray.mk #[113, 115, 1, 1, 1, 0, 1, 0, 0, 128, 128, 4])), (1, vI 345)]) rfl (by kernel_rfl) (by kernel_rfl)) fun a M => ?_
 refine s_fz M O 4 rfl (v := .agg #[.string (ByteArray.mk #[113, 115, 1, 1, 64, 0, 1]), vI 344]) (Yl.build (vs := [(0, .string (ByteArray.mk #[113, 115, 1, 1, 64, 0, 1])), (1, vI 344)]) rfl (by kernel_rfl) (by kernel_rfl)) fun a M => ?_
 refine fo M 5 rfl rfl (s_el M O ei_sx [(0, .agg #[.string (ByteArray.mk #[113, 115, 1, 1, 1, 0, 128, 2]), vI 344]), (1, .agg #[.string (ByteArray.mk #[113, 115, 1, 1, 1, 0, 129, 2]), vI 345]), (2, .agg #[.string (ByteArray.mk #[113, 115, 1, 1, 1, 0, 1, 0, 0, 255, 255, 3]), vI 344]), (3, .agg #[.string (ByteArray.mk #[113, 115, 1, 1, 1, 0, 1, 0, 0, 128, 128, 4]), vI 345]), (4, .agg #[.string (ByteArray.mk #[113, 115, 1, 1, 64, 0, 1]), vI 344])] #[.string (ByteArray.mk #[113, 115, 1, 1, 1, 0, 128, 2]), vI 344, .string (ByteArray.mk #[113, 115, 1, 1, 1, 0, 129, 2]), vI 345, .string (ByteArray.mk #[113, 115, 1, 1, 1, 0, 1, 0, 0, 255, 255, 3]), vI 344, .string (ByteArray.mk #[113, 115, 1, 1, 1, 0, 1, 0, 0, 128, 128, 4]), vI 345, .string (ByteArray.mk #[113, 115, 1, 1, 64, 0, 1]), vI 344] fun a w136 g136 M O => ?_)
 refine s_fl M 6 fun a M => ?_
 refine fp M 1 7 [(138, vI 0)] fun a M => s_d0 ?_
 replace O := (O.blkRow (i := 0) (n := 5) (size := 2) rfl rfl (by decide)).asRow (i := 0) (ys := five.flatMap sxL) rfl (by kernel_rfl)
 refine wp_block ?_
 refine qe (fun mS aS wS => ∃ (q : Nat), (q ≤ 5) ∧ mS = 5 - q ∧ Fr aS 176 [] [(138, vI q), (137, vI 5), (136, vS g136 5 5), (0, .bool false)] ∧ Mem w wS [.row (vS g136 5 5) 5 (five.flatMap sxL) 115 2]) (m := 5 - 0) ⟨0, Nat.zero_le _, rfl, M.sub (by kernel_rfl), O.pk [0]⟩ ?_
 clear M O; rintro mS a w_ ⟨q, hq, rfl, M, O⟩
 refine s_fs1 ?_
 refine fp M 1 0 [(139, .bool (decide ((q : Int) < (5 : Int))))] fun a M => s_d0 (wp_seq ?_)
 rcases M.tf 139 rfl with ⟨hb139, M⟩ | ⟨hb139, M⟩
 ·
  have hd139 := of_decide_eq_true hb139
  have hq139 : q < 5 := by omega
  obtain ⟨x, hx⟩ : ∃ x, five.getD q Sx.zero = x := ⟨_, rfl⟩
  obtain ⟨xl1, xl2, xlt, xe⟩ : x.Ok := by rw [← hx]; exact q00 _ (qr Sx.zero (show q < five.length from hq139))
  refine s_ct M (wp_skip (wp_seq (wp_block (s_fs1 ?_))))
  refine s_fz M O 0 rfl (v := vP g136 (q * 2)) (Yl.ix0 g136 q 2 rfl rfl rfl) fun a M => ?_
  refine s_fz M O 1 rfl (v := .agg ((five.getD q Sx.zero).cells)) (Yl.qt rfl rfl si_sx rfl (fun _ h => h.qc5 q0z (i := 0) rfl ((getD_at Sx.zero (show q < five.length from hq139))))) fun a M => ?_
  replace M := M.sp 141 (.agg x.cells) rfl (by rw [hx])
  refine fo M 2 rfl rfl (s_ea M O #[.string ⟨#[]⟩, vI 0] fun a w13 g13 M O => ?_)
  refine fo M 3 rfl rfl (e_sa M O 0 rfl rfl rfl rfl rfl si_sx rfl rfl (q2r x) fun w31_3 O => ?_)
  refine s_d0 (s_fs1 ?_)
  refine fp M 1 0 [(142, vP g13 0)] fun a M => s_fc M O 1 0 (v := .string (bstr x.l)) fun a M => ?_
  refine fo M 2 rfl rfl ?_
  refine q0v M O (e := 5) (l := x.l) rfl rfl (by kernel_rfl) (by kernel_rfl) (by kernel_rfl) xlt rfl (by decide) fun a w144 g144 c144 M O hrs => ?_
  refine fo M 3 rfl rfl ?_
  refine s_ek M O [vS g144 x.l.length c144] (qv (some ⟨g144, 0, none⟩) _ c144 x.l _ hrs rfl (by omega) xlt) fun A145 c145 w145 hc145 O a M => ?_
  refine fp M 1 4 [(14, .slice A145 ((sealL x.l).length) c145)] fun a M => s_d0 (wp_seq (wp_block ?_))
  refine qe (fun mS aS wS => ∃ (j : Nat) (l : List Nat) (B6 : Option Addr) (k6 : Nat), (l = x.l ++ List.replicate j 128) ∧ (l.length = x.l.length + j) ∧ (j = 0 ∨ x.l.length + j ≤ 11) ∧ ((sealL l).length = l.length + 4) ∧ (∀ z ∈ l, z < 256) ∧ ((sealL l).length ≤ k6) ∧ mS = 13 - j ∧ Fr aS 176 [] [(14, .slice B6 ((sealL l).length) k6), (13, vP g13 0), (138, vI q), (137, vI 5), (136, vS g136 5 5), (0, .bool false)] ∧ Mem w wS [.row (.slice B6 ((sealL l).length) k6) ((sealL l).length) ((sealL l).map B8) 5 1, .blk g13 x.cells 115, .row (vS g136 5 5) 5 (five.flatMap sxL) 115 2]) (m := 13 - 0) ⟨0, x.l, A145, c145, (List.append_nil _).symm, rfl, Or.inl rfl, ze _, xlt, hc145, rfl, M.sub (by kernel_rfl), O.pk [0, 1, 2]⟩ ?_
  clear M O; rintro mS a w_ ⟨j, l, B6, k6, hl6, hll, hj, hsl, hlt, hk6, rfl, M, O⟩
  refine wp_seq (s_fs1 ?_)
  refine fp M 1 0 [(146, .slice B6 ((sealL l).length) k6)] fun a M => s_fl M 1 fun a M => ?_
  refine fp M 1 2 [(148, .bool (decide ((((sealL l).length : Nat) : Int) < (15 : Int))))] fun a M => s_d0 ?_
  rcases M.tf 148 rfl with ⟨hb148, M⟩ | ⟨hb148, M⟩
  ·
   have hd148 := of_decide_eq_true hb148
   have hl11 : l.length < 11 := by omega
   refine s_ct M (wp_skip (wp_block (qa ?_)))
   refine fp M 2 0 [(150, .slice B6 ((sealL l).length) k6), (149, .slice B6 ((sealL l).length) k6)] fun a M => s_fl M 2 fun a M => ?_
   refine fp M 1 3 [(152, vI (IntKind.i64.wrap ((((sealL l).length : Nat) : Int) - 4)))] fun a M => ?_
   replace M := M.sp 152 (vI ((sealL l).length - 4 : Nat)) rfl (qc (by omega) (by omega))
   refine fp M 1 4 [(153, .slice B6 ((sealL l).length) k6)] fun a M => s_fl M 5 fun a M => ?_
   refine fp M 1 6 [(155, vI (IntKind.i64.wrap ((((sealL l).length : Nat) : Int) - 4)))] fun a M => ?_
   replace M := M.sp 155 (vI ((sealL l).length - 4 : Nat)) rfl (qc (by omega) (by omega))
   refine s_fz M O 7 rfl (v := .slice B6 ((sealL l).length - 4) ((sealL l).length - 4)) (Yl.qup ei_u8 (j := (sealL l).length - 4) (q := (sealL l).length - 4) rfl rfl rfl rfl (Nat.le_refl _) (by omega)) fun a M => ?_
   refine fo M 8 rfl rfl (s_el M O ei_u8 [(0, vB 128)] #[vB 128] fun a w157 g157 M O => ?_)
   refine fo M 9 rfl rfl ?_
   refine qcf M O (xs := l.map B8) (news := [128].map B8) rfl ei_u8 rfl rfl ((by have h1 := (O.rd (i := 1) rfl).toB8 (k := (sealL l).length - 4) (by omega); rw [q0y (by omega)] at h1; exact h1)) (O.rdBlk (i := 0) (size := 1) (n := 1) rfl rfl) (by omega) (by omega) (fun h => rd_ne (O.rd (i := 1) rfl) (by omega) h) (by omega) (by omega) rfl (by decide) fun a w158 g158 c158 M O hc158 => ?_
   replace O := O.asRow (i := 0) (ys := (l ++ [128]).map B8) rfl (List.map_append.symm)
   refine fo M 10 rfl rfl ?_
   refine s_ek M O [vS g158 (((sealL l).length - 4) + 1) c158] (qv (some ⟨g158, 0, none⟩) _ c158 (l ++ [128]) _ (O.rd (i := 0) rfl) (by rw [List.length_append]; show _ + 1 = _; omega) (by omega) (qa1 hlt (qlp (by decide)))) fun A159 c159 w159 hc159 O a M => ?_
   refine fp M 1 11 [(14, .slice A159 ((sealL (l ++ [128])).length) c159)] fun a M => s_d0 ?_
   exact ⟨_, (by omega), j + 1, (l ++ [128]), A159, c159, by rw [hl6, List.append_assoc, List.replicate_succ'], by rw [List.length_append, hll]; show _ + 1 = _; omega, by omega, ze _, qa1 hlt (qlp (by decide)), hc159, rfl, M.sub (by kernel_rfl), O.pk [0, 4, 5]⟩
  have hd148 := of_decide_eq_false hb148
  have hxe : errR (sealL l) = x.e := by rw [hl6]; exact xe j (by omega) (by omega)
  refine s_cf M (wp_exit (s_fs1 ?_))
  refine fp M 1 0 [(161, .slice B6 ((sealL l).length) k6)] fun a M => fo M 1 rfl rfl ?_
  refine e_cl M [.slice B6 ((sealL l).length) k6] rfl rfl (qbf B6 k6 (sealL l) B _ (hL.mem O hB) (O.le hB) (O.rd (i := 0) rfl) hk6 (by omega) (zw hlt)) ?_
  rintro _ w162 ⟨⟨N162, n162, rfl, _, _⟩, hbw⟩
  refine ⟨_, rfl, ?_⟩
  replace O := O.call hbw
  clear M; intro a M
  refine fp M 3 2 [(164, vI (errR (sealL l))), (163, .slice N162 ((pnums (sealL l)).length) n162)] fun a M => ?_
  replace M := M.sp 164 (vI x.e) rfl (by rw [hxe])
  refine fp M 2 5 [(16, vI x.e)] fun a M => s_d0 (s_fs1 ?_)
  refine fp M 2 0 [(166, vP g13 1), (165, vI x.e)] fun a M => s_fc M O 2 1 (v := vI x.e) fun a M => ?_
  refine fp M 1 3 [(168, .bool ((x.e : Int) != (x.e : Int)))] fun a M => ?_
  replace M := M.sp 168 (.bool false) rfl (by simp)
  refine fp M 3 4 [(171, .slice B6 ((sealL l).length) k6), (170, .slice B6 ((sealL l).length) k6), (169, .bool false)] fun a M => fo M 7 rfl rfl (e_is M O [.slice B6 ((sealL l).length) k6, .slice B6 ((sealL l).length) k6] (.bool true) rfl rfl (qit B6 k6 (sealL l) B6 k6 (sealL l) B _ (hL.mem O hB) (O.le hB) (O.rd (i := 0) rfl) hk6 (by omega) (zw hlt) (O.rd (i := 0) rfl) hk6 (by omega) (zw hlt)) fun w172 hbw O a M => ?_)
  refine fp M 2 8 [(174, .bool false)] fun a M => s_d0 (s_cf M (wp_skip (qa ?_)))
  refine fp M 1 0 [(175, vI (IntKind.i64.wrap ((q : Int) + 1)))] fun a M => ?_
  replace M := M.sp 175 (vI (q + 1 : Nat)) rfl (qc (by omega) (by omega))
  refine fp M 1 1 [(138, vI (q + 1 : Nat))] fun a M => s_d0 ?_
  exact ⟨_, (by omega), q + 1, by omega, rfl, M.sub (by kernel_rfl), O.pk [2]⟩
 have hd139 := of_decide_eq_false hb139
 refine s_cf M (wp_exit (s_fs1 ?_))
 refine fp M 1 0 [(0, .bool true)] fun a M => s_d0 (wp_ret ?_)
 exact s_rt1 rfl M rfl (⟨rfl, O.below⟩)
theorem qw7 (A : Option Addr) (c : Nat) (w : World) (hr : Rd w w.heap.size 1 A 38 (scdA.map B8)) : Calls Tryz.prog 15 #[.slice A 38 c] w (fun r w' => (∃ A c, r = .returned (.slice A 42 c) ∧ w'.ownsRow w.heap.size 5 1 (.slice A 42 c) 42 (scdX.map B8) ∧ 42 ≤ c) ∧ Below w.heap.size w w') := by
 have h := qv A 38 c scdA w hr rfl (by decide) qul
 unfold qat at h
 rwa [show (sealL scdA).length = 42 from qm1] at h
theorem qab (A : Option Addr) (n c : Nat) (l : List Nat) (D : Option Addr) (m d : Nat) (r : List Nat) (B : Nat) (w : World) (hL : LaidX B w) (hB : B ≤ w.heap.size) (hr1 : Rd w w.heap.size 1 A n (l.map B8)) (h1 : l.length = n) (hc1 : n ≤ c) (hn1 : n ≤ 100000000) (hl1 : ∀ z ∈ l, z < 256) (hr2 : Rd w w.heap.size 1 D m (r.map B8)) (h2 : r.length = m) (hc2 : m ≤ d) (hn2 : m ≤ 100000000) (hl2 : ∀ z ∈ r, z < 256) :
  Calls Tryz.prog 13 #[.slice A n c, .slice D m d] w (Is w (.bool true)) := by
 subst h1; subst h2
 exact qit A c l D d r B w hL hB hr1 hc1 hn1 hl1 hr2 hc2 hn2 hl2
theorem qhq (B : Nat) (w : World) (hL : LaidX B w) (hB : B ≤ w.heap.size) :
    Calls Tryz.prog 6 #[] w (Is w (.bool true)) := by
 refine s_ce Tryz.func6 [] [] fun a M => ?_
 have O := Mem.start w
 refine s_fs1 ?_
 refine fp M 1 0 [(0, .bool false)] fun a M => s_d0 (s_fs1 ?_)
 refine fo M 0 rfl rfl (s_el M O ei_u8 [(0, vB 113), (1, vB 115), (2, vB 1), (3, vB 9), (4, vB 2), (5, vB 5), (6, vB 2), (7, vB 0), (8, vB 7), (9, vB 1), (10, vB 2), (11, vB 3), (12, vB 0), (13, vB 2), (14, vB 3), (15, vB 1), (16, vB 2), (17, vB 0), (18, vB 3), (19, vB 1), (20, vB 9), (21, vB 1), (22, vB 5), (23, vB 0), (24, vB 1), (25, vB 0), (26, vB 1), (27, vB 0), (28, vB 8), (29, vB 0), (30, vB 6), (31, vB 5), (32, vB 6), (33, vB 3), (34, vB 9), (35, vB 5), (36, vB 6), (37, vB 10)] #[vB 113, vB 115, vB 1, vB 9, vB 2, vB 5, vB 2, vB 0, vB 7, vB 1, vB 2, vB 3, vB 0, vB 2, vB 3, vB 1, vB 2, vB 0, vB 3, vB 1, vB 9, vB 1, vB 5, vB 0, vB 1, vB 0, vB 1, vB 0, vB 8, vB 0, vB 6, vB 5, vB 6, vB 3, vB 9, vB 5, vB 6, vB 10] fun a w19 g19 M O => ?_)
 refine fo M 1 rfl rfl ?_
 refine qxo M O 0 (e := 5) rfl rfl rfl (by kernel_rfl) (by kernel_rfl) rfl (by decide) fun a w20 M O => ?_
 refine fo M 2 rfl rfl ?_
 refine s_ek M O [vS g19 38 38] (qw7 _ 38 _ (O.rdMark (i := 0) (size := 1) (n := 38) rfl rfl)) fun A21 c21 w21 hc21 O a M => ?_
 refine fp M 1 3 [(1, .slice A21 42 c21)] fun a M => s_d0 (wp_seq (s_fs1 ?_))
 refine fo M 0 rfl rfl ?_
 refine s_ek M O [] (qc3 _) fun A22 c22 w22 hc22 O a M => ?_
 refine fp M 1 1 [(23, .slice A21 42 c21)] fun a M => fo M 2 rfl rfl (s_el M O q2o [(0, .slice A22 15 c22), (1, .slice A21 42 c21)] #[.slice A22 15 c22, .slice A21 42 c21] fun a w24 g24 M O => ?_)
 refine s_fl M 3 fun a M => ?_
 refine fp M 1 4 [(26, vI 0)] fun a M => s_d0 ?_
 replace O := (O.blkRow (i := 0) (n := 2) (size := 1) rfl rfl (by decide)).asRow (i := 0) (ys := ([⟨A22, 15, c22, fstX, 0⟩, ⟨A21, 42, c21, scdX, 0⟩] : List Xb).map Xb.sl) rfl (rfl)
 replace O := O.pk [0, 1, 2]
 have hok : ∀ x ∈ ([⟨A22, 15, c22, fstX, 0⟩, ⟨A21, 42, c21, scdX, 0⟩] : List Xb), x.In := by
   intro x hx; simp only [List.mem_cons, List.not_mem_nil, or_false] at hx
   rcases hx with rfl | rfl
   · exact ⟨z9, hc22, (by show 15 ≤ 15; decide), (by show 15 ≤ 42; decide), qhk⟩
   · exact ⟨qm1, hc21, (by show 15 ≤ 42; decide), (by show 42 ≤ 42; decide), qyk⟩
 obtain ⟨q, hq⟩ : ∃ q : List Xb, q = [⟨A22, 15, c22, fstX, 0⟩, ⟨A21, 42, c21, scdX, 0⟩] := ⟨_, rfl⟩
 have hql : q.length = 2 := by rw [hq]; rfl
 have hs2 : (⟨A21, 42, c21, scdX, 0⟩ : Xb) ∈ q := by rw [hq]; exact List.mem_cons_of_mem _ (List.mem_singleton_self _)
 rw [← hq] at hok
 replace O : Mem w w24 (.row (vS g24 2 2) 2 (q.map Xb.sl) 48 1 :: xbF 5 q) := by rw [hq]; exact O
 refine wp_block ?_
 refine qe (fun mS aS wS => ∃ (k : Nat), (k ≤ 2) ∧ mS = 2 - k ∧ Fr aS 232 [] [(26, vI k), (25, vI 2), (24, vS g24 2 2), (1, .slice A21 42 c21), (0, .bool false)] ∧ Mem w wS (.row (vS g24 2 2) 2 (q.map Xb.sl) 48 1 :: xbF 5 q)) (m := 2 - 0) ⟨0, Nat.zero_le _, rfl, M.sub (by kernel_rfl), O.pt 1 [0]⟩ ?_
 clear M O; rintro mS a w_ ⟨k, hk, rfl, M, O⟩
 refine s_fs1 ?_
 refine fp M 1 0 [(27, .bool (decide ((k : Int) < (2 : Int))))] fun a M => s_d0 (wp_seq ?_)
 rcases M.tf 27 rfl with ⟨hb27, M⟩ | ⟨hb27, M⟩
 ·
  have hd27 := of_decide_eq_true hb27
  obtain ⟨x, hx⟩ : ∃ x, q.getD k Xb.zero = x := ⟨_, rfl⟩
  have hxq : x ∈ q := by rw [← hx]; exact qr Xb.zero (by omega)
  obtain ⟨hx1, hx2, hx3, hx4, hx5⟩ := hok x hxq
  refine s_ct M (wp_skip (wp_seq (wp_block (s_fs1 ?_))))
  refine s_fz M O 0 rfl (v := vP g24 (k * 1)) (Yl.ix0 g24 k 1 rfl rfl rfl) fun a M => ?_
  refine s_fz M O 1 rfl (v := .slice ((q.getD k Xb.zero).A) ((q.getD k Xb.zero).n) ((q.getD k Xb.zero).c)) (Yl.r1 0 k Xb.zero (by omega) rfl rfl rfl) fun a M => ?_
  replace M := M.sp 29 (.slice x.A x.n x.c) rfl (by rw [hx])
  refine fp M 1 2 [(3, .slice x.A x.n x.c)] fun a M => s_d0 ?_
  obtain ⟨X0, hX0⟩ : ∃ z, z = w_ := ⟨_, rfl⟩
  subst hX0
  have hxr := O.xbAt 1 rfl hxq
  have hsr : Rd X0 X0.heap.size 1 A21 42 (scdX.map B8) := O.xbAt 1 rfl hs2
  have hL := hL.mem O hB
  have hB := O.le hB
  have HMo := O
  replace O := Mem.start X0
  obtain ⟨bd, hbd⟩ : ∃ z, z = x.l.take (x.n - 4) := ⟨_, rfl⟩
  have hbl : bd.length = x.n - 4 := by rw [hbd, List.length_take]; omega
  have hbt : ∀ z ∈ bd, z < 256 := by rw [hbd]; exact qbg hx5 _
  have hbr : Rd X0 X0.heap.size 1 x.A (x.n - 4) (bd.map B8) := by rw [hbd]; exact hxr.toB8 (by omega)
  refine wp_seq (s_fs1 ?_)
  refine fp M 1 0 [(30, .slice x.A x.n x.c)] fun a M => fo M 1 rfl rfl ?_
  refine s_ek M O [] (qc3 _) fun A31 c31 w31 hc31 O a M => ?_
  refine fo M 2 rfl rfl (e_is M O [.slice x.A x.n x.c, .slice A31 15 c31] (.bool true) rfl rfl (qab x.A x.n x.c x.l A31 15 c31 fstX B _ (hL.mem O hB) (O.le hB) (O.old hxr) hx1 hx2 (by omega) hx5 (O.rd (i := 0) rfl) z9 hc31 (by omega) qhk) fun w32 hbw O a M => ?_)
  refine fp M 4 3 [(36, .slice x.A x.n x.c), (35, .slice A21 42 c21), (34, .bool false)] fun a M => fo M 7 rfl rfl (e_is M O [.slice A21 42 c21, .slice x.A x.n x.c] (.bool true) rfl rfl (qab A21 42 c21 scdX x.A x.n x.c x.l B _ (hL.mem O hB) (O.le hB) (O.old hsr) qm1 hc21 (by omega) qyk (O.old hxr) hx1 hx2 (by omega) hx5) fun w37 hbw O a M => ?_)
  refine fp M 4 8 [(41, .slice x.A x.n x.c), (40, .bool false)] fun a M => fo M 12 rfl rfl (e_is M O [.slice x.A x.n x.c, .slice none 0 0] (.bool true) rfl rfl (qab x.A x.n x.c x.l none 0 0 [] B _ (hL.mem O hB) (O.le hB) (O.old hxr) hx1 hx2 (by omega) hx5 Rd.nil rfl (Nat.le_refl _) (by omega) (fun z hz => by cases hz)) fun w42 hbw O a M => ?_)
  refine fp M 3 13 [(45, .bool false)] fun a M => fo M 16 rfl rfl ?_
  refine qa8 M O rfl ei_u8 rfl (by decide) fun a w46 g46 M O => ?_
  refine fp M 1 17 [(47, .slice x.A x.n x.c)] fun a M => fo M 18 rfl rfl (qd M O (i := 0) rfl ei_u8 rfl rfl rfl (news := x.l.map B8) (O.old hxr) (q0 _) (by omega) (by omega) rfl (by decide) fun a w48 A48 c48 M O hc48 => ?_)
  replace O := O.asRow (i := 0) (ys := x.l.map B8) rfl (rfl)
  refine fo M 19 rfl rfl (s_el M O ei_u8 [(0, vB 0)] #[vB 0] fun a w49 g49 M O => ?_)
  refine fo M 20 rfl rfl (qd M O (i := 1) rfl ei_u8 rfl rfl rfl (news := [0].map B8) (O.rdBlk (i := 0) (n := 1) (size := 1) rfl rfl) (q0 _) (by omega) (by omega) rfl (by decide) fun a w50 A50 c50 M O hc50 => ?_)
  replace O := O.asRow (i := 1) (ys := (x.l ++ [0]).map B8) rfl (List.map_append.symm)
  refine fp M 1 21 [(51, .slice x.A x.n x.c)] fun a M => fo M 22 rfl rfl (e_is M O [.slice A50 ((0 + x.n) + 1) c50, .slice x.A x.n x.c] (.bool true) rfl rfl (qab A50 ((0 + x.n) + 1) c50 (x.l ++ [0]) x.A x.n x.c x.l B _ (hL.mem O hB) (O.le hB) (O.rd (i := 1) rfl) (by simp only [List.length_append, List.length_take, List.length_drop, List.length_cons, List.length_nil, List.length_set]; omega) hc50 (by omega) (qa1 hx5 (qlp (by decide))) (O.old hxr) hx1 hx2 (by omega) hx5) fun w52 hbw O a M => ?_)
  refine fp M 2 23 [(54, .bool false)] fun a M => s_d0 (s_cf M (wp_skip (s_fs1 ?_)))
  refine fp M 2 0 [(56, .slice x.A x.n x.c), (55, .slice x.A x.n x.c)] fun a M => s_fl M 2 fun a M => ?_
  refine fp M 1 3 [(58, vI (IntKind.i64.wrap ((x.n : Int) - 4)))] fun a M => ?_
  replace M := M.sp 58 (vI (x.n - 4 : Nat)) rfl (qc (by omega) (by omega))
  refine s_fz M O 4 rfl (v := .slice x.A (x.n - 4) x.c) (Yl.q1 ei_u8 (j := x.n - 4) rfl rfl rfl (by omega)) fun a M => ?_
  refine fp M 1 5 [(4, .slice x.A (x.n - 4) x.c)] fun a M => s_d0 (s_fs1 ?_)
  refine fp M 1 0 [(60, .slice x.A (x.n - 4) x.c)] fun a M => s_fl M 1 fun a M => ?_
  refine fp M 1 2 [(62, vI 0)] fun a M => s_d0 (wp_block ?_)
  refine qe (fun mS aS wS => ∃ (i : Nat), (i ≤ x.n - 4) ∧ mS = (x.n - 4) - i ∧ Fr aS 232 [] [(62, vI i), (61, vI (x.n - 4 : Nat)), (4, .slice x.A (x.n - 4) x.c), (3, .slice x.A x.n x.c), (26, vI k), (25, vI 2), (24, vS g24 2 2), (1, .slice A21 42 c21), (0, .bool false)] ∧ Mem X0 wS []) (m := (x.n - 4) - 0) ⟨0, Nat.zero_le _, rfl, M.sub (by kernel_rfl), O.pk []⟩ ?_
  clear M O; rintro mS a w_ ⟨i, hi, rfl, M, O⟩
  refine s_fs1 ?_
  refine fp M 1 0 [(63, .bool (decide ((i : Int) < ((x.n - 4 : Nat) : Int))))] fun a M => s_d0 (wp_seq ?_)
  rcases M.tf 63 rfl with ⟨hb63, M⟩ | ⟨hb63, M⟩
  ·
   have hd63 := of_decide_eq_true hb63
   have hi63 : i < x.n - 4 := by omega
   have hgi : bd.getD i 0 < 256 := hbt _ (qr 0 (by omega))
   refine s_ct M (wp_skip (wp_seq (wp_block (s_fs1 ?_))))
   refine fp M 2 0 [(5, vI i)] fun a M => s_d0 (wp_seq (s_fs1 ?_))
   refine fo M 0 rfl rfl (s_el M O ei_u8 [(0, vB 0), (1, vB 1), (2, vB 2), (3, vB 3), (4, vB 5), (5, vB 6), (6, vB 64), (7, vB 65), (8, vB 127), (9, vB 128), (10, vB 255)] #[vB 0, vB 1, vB 2, vB 3, vB 5, vB 6, vB 64, vB 65, vB 127, vB 128, vB 255] fun a w65 g65 M O => ?_)
   refine s_fl M 1 fun a M => ?_
   refine fp M 1 2 [(67, vI 0)] fun a M => s_d0 ?_
   replace O := (O.blkRow (i := 0) (n := 11) (size := 1) rfl rfl (by decide)).asRow (i := 0) (ys := c11.map B8) rfl (rfl)
   refine wp_block ?_
   refine qe (fun mS aS wS => ∃ (j : Nat), (j ≤ 11) ∧ mS = 11 - j ∧ Fr aS 232 [] [(67, vI j), (66, vI 11), (65, vS g65 11 11), (5, vI i), (62, vI i), (61, vI (x.n - 4 : Nat)), (4, .slice x.A (x.n - 4) x.c), (3, .slice x.A x.n x.c), (26, vI k), (25, vI 2), (24, vS g24 2 2), (1, .slice A21 42 c21), (0, .bool false)] ∧ Mem X0 wS [.row (vS g65 11 11) 11 (c11.map B8) 5 1]) (m := 11 - 0) ⟨0, Nat.zero_le _, rfl, M.sub (by kernel_rfl), O.pk [0]⟩ ?_
   clear M O; rintro mS a w_ ⟨j, hj, rfl, M, O⟩
   refine s_fs1 ?_
   refine fp M 1 0 [(68, .bool (decide ((j : Int) < (11 : Int))))] fun a M => s_d0 (wp_seq ?_)
   rcases M.tf 68 rfl with ⟨hb68, M⟩ | ⟨hb68, M⟩
   ·
    have hd68 := of_decide_eq_true hb68
    have hj68 : j < 11 := by omega
    obtain ⟨v, hvv⟩ : ∃ v, c11.getD j 0 = v := ⟨_, rfl⟩
    have hv : v < 256 := by rw [← hvv]; exact q2m _ (qr 0 (show j < c11.length from hj68))
    refine s_ct M (wp_skip (wp_seq (wp_block (s_fs1 ?_))))
    refine s_fz M O 0 rfl (v := vP g65 (j * 1)) (Yl.ix0 g65 j 1 rfl rfl rfl) fun a M => ?_
    refine s_fz M O 1 rfl (v := vB (c11.getD j 0)) (Yl.r1 0 j 0 (show j < c11.length from hj68) rfl rfl rfl) fun a M => ?_
    replace M := M.sp 70 (vB v) rfl (by rw [hvv])
    refine fp M 1 2 [(7, vB v)] fun a M => s_d0 (s_fs1 ?_)
    refine fo M 0 rfl rfl ?_
    refine qa8 M O rfl ei_u8 rfl (by decide) fun a w71 g71 M O => ?_
    refine fp M 1 1 [(72, .slice x.A (x.n - 4) x.c)] fun a M => fo M 2 rfl rfl (qd M O (i := 0) rfl ei_u8 rfl rfl rfl (news := bd.map B8) (O.old hbr) (q0 _) (by omega) (by omega) rfl (by decide) fun a w73 A73 c73 M O hc73 => ?_)
    replace O := O.asRow (i := 0) (ys := bd.map B8) rfl (rfl)
    refine fp M 1 3 [(8, .slice A73 (0 + (x.n - 4)) c73)] fun a M => s_d0 (s_fs1 ?_)
    refine fp M 3 0 [(76, vB v), (75, vI i), (74, .slice A73 (0 + (x.n - 4)) c73)] fun a M => ?_
    obtain ⟨gA73, rfl⟩ := q9 (O.own (i := 0) rfl) (Nat.lt_of_le_of_lt (Nat.zero_le _) (show i < 0 + (x.n - 4) from by omega))
    refine s_fz M O 3 rfl (v := vP gA73 (i * 1)) (Yl.ix0 gA73 i 1 rfl rfl rfl) fun a M => ?_
    refine fo M 4 rfl rfl ?_
    refine qa2 M O (i := 0) rfl rfl rfl rfl (by kernel_rfl) rfl rfl (by rw [List.length_map, hbl]; omega) fun w15_4 O => ?_
    replace O := O.asRow (i := 0) (ys := (bd.set i v).map B8) rfl (qd3 B8 bd i v (by omega))
    refine s_d0 (qaj (fun aS wS => ∃ (g78 : Nat) (A82 : Option Addr) (c82 : Nat) (g84 : Nat) (A85 : Option Addr) (c85 : Nat) (A89 : Option Addr) (c89 : Nat), Fr aS 232 [] [(9, .slice A89 (((0 + i) + 1) + ((x.n - 4) - i)) c89), (8, vS gA73 (0 + (x.n - 4)) c73), (7, vB v), (68, .bool true), (67, vI j), (66, vI 11), (65, vS g65 11 11), (5, vI i), (62, vI i), (61, vI (x.n - 4 : Nat)), (4, .slice x.A (x.n - 4) x.c), (3, .slice x.A x.n x.c), (26, vI k), (25, vI 2), (24, vS g24 2 2), (1, .slice A21 42 c21), (0, .bool false)] ∧ Mem X0 wS [.blk g84 #[vB v] 5, .row (.slice A89 (((0 + i) + 1) + ((x.n - 4) - i)) c89) (((0 + i) + 1) + ((x.n - 4) - i)) ((bd.take i ++ [v] ++ bd.drop i).map B8) 5 1, .row (vS gA73 (0 + (x.n - 4)) c73) (0 + (x.n - 4)) ((bd.set i v).map B8) 5 1, .row (vS g65 11 11) 11 (c11.map B8) 5 1] ∧ (0 + i ≤ c82) ∧ ((0 + i) + 1 ≤ c85) ∧ (((0 + i) + 1) + ((x.n - 4) - i) ≤ c89)) ?_ ?_)
    ·
     refine qz O [.row (vS gA73 (0 + (x.n - 4)) c73) (0 + (x.n - 4)) ((bd.set i v).map B8) 5 1, .row (vS g65 11 11) 11 (c11.map B8) 5 1] [0, 1] [] fun O Z => ?_
     refine ap M (fun _ => Z) [1, 2, 5, 8, 9] (bf 13 [1, 2, 5, 8, 9]) [(87, vI i), (86, .slice x.A (x.n - 4) x.c), (83, vB v), (80, vI i), (79, .slice x.A (x.n - 4) x.c)] fun a M => ?_
     refine s_az M Z 3 rfl (v := .slice x.A i x.c) (Yl.q1 ei_u8 (j := i) rfl rfl rfl (by omega)) fun a M => ?_
     refine s_az M Z 10 rfl (v := .slice (if x.c = i then x.A else (x.A : Option Addr).map (·.add (i * 1))) ((x.n - 4) - i) (x.c - i)) (Yl.sliceFrom ei_u8 (j := i) rfl rfl rfl (by omega)) fun a M => ?_
     refine qw [0, 6] (by kernel_rfl) rfl ?_
     refine all_cons ?_ ?_
     ·refine qq M (i := 0) rfl rfl ?_
      refine qa8 M O rfl ei_u8 rfl (by decide) fun a w78 g78 M O => ?_
      refine keepS (O.pk [1, 2]) (fun Z => ?_)
      refine qw [4, 6] (by kernel_rfl) rfl ?_
      refine all_cons ?_ ?_
      ·refine qq M (i := 4) rfl rfl ?_
       refine qd M O (i := 0) rfl ei_u8 rfl rfl rfl (news := (bd.take i).map B8) ((O.old hbr).toB8 (by omega)) (q0 _) (by omega) (by omega) rfl (by decide) fun a w82 A82 c82 M O hc82 => ?_
       replace O := O.asRow (i := 0) (ys := (bd.take i).map B8) rfl (rfl)
       refine keepS (O.pk [1, 2]) (fun Z => ?_)
       refine s_on M 6 rfl (s_el M O ei_u8 [(0, vB v)] #[vB v] fun a w84 g84 M O => ?_)
       refine keepS (O.pk [2, 3]) (fun Z => ?_)
       refine s_on M 7 rfl (qd M O (i := 1) rfl ei_u8 rfl rfl rfl (news := [v].map B8) (O.rdBlk (i := 0) (n := 1) (size := 1) rfl rfl) (q0 _) (by omega) (by omega) rfl (by decide) fun a w85 A85 c85 M O hc85 => ?_)
       replace O := O.asRow (i := 1) (ys := (bd.take i ++ [v]).map B8) rfl (List.map_append.symm)
       refine keepS (O.pk [2, 3]) (fun Z => ?_)
       refine s_on M 11 rfl (qd M O (i := 1) rfl ei_u8 rfl rfl rfl (news := (bd.drop i).map B8) ((O.old hbr).qc4 (by omega) (by omega)) (q0 _) (by omega) (by omega) rfl (by decide) fun a w89 A89 c89 M O hc89 => ?_)
       replace O := O.asRow (i := 1) (ys := (bd.take i ++ [v] ++ bd.drop i).map B8) rfl (List.map_append.symm)
       refine keepS (O.pk [2, 3]) (fun Z => ?_)
       refine ap M (fun _ => Z) [12] (bt 13 []) [(9, .slice A89 (((0 + i) + 1) + ((x.n - 4) - i)) c89)] fun a M => ?_
       refine qh (by kernel_rfl) ?_
       exact ⟨g78, A82, c82, g84, A85, c85, A89, c89, M.sub (by kernel_rfl), O.pk [0, 1, 2, 3], hc82, hc85, hc89⟩
      refine all_cons ?_ all_nil
      refine qq M (i := 6) rfl rfl ?_
      refine s_el M O ei_u8 [(0, vB v)] #[vB v] fun a w84 g84 M O => ?_
      refine keepS (O.pk [2, 3]) (fun Z => ?_)
      refine s_on M 4 rfl (qd M O (i := 1) rfl ei_u8 rfl rfl rfl (news := (bd.take i).map B8) ((O.old hbr).toB8 (by omega)) (q0 _) (by omega) (by omega) rfl (by decide) fun a w82 A82 c82 M O hc82 => ?_)
      replace O := O.asRow (i := 1) (ys := (bd.take i).map B8) rfl (rfl)
      refine keepS (O.pk [2, 3]) (fun Z => ?_)
      refine s_on M 7 rfl (qd M O (i := 1) rfl ei_u8 rfl rfl rfl (news := [v].map B8) (O.rdBlk (i := 0) (n := 1) (size := 1) rfl rfl) (q0 _) (by omega) (by omega) rfl (by decide) fun a w85 A85 c85 M O hc85 => ?_)
      replace O := O.asRow (i := 1) (ys := (bd.take i ++ [v]).map B8) rfl (List.map_append.symm)
      refine keepS (O.pk [2, 3]) (fun Z => ?_)
      refine s_on M 11 rfl (qd M O (i := 1) rfl ei_u8 rfl rfl rfl (news := (bd.drop i).map B8) ((O.old hbr).qc4 (by omega) (by omega)) (q0 _) (by omega) (by omega) rfl (by decide) fun a w89 A89 c89 M O hc89 => ?_)
      replace O := O.asRow (i := 1) (ys := (bd.take i ++ [v] ++ bd.drop i).map B8) rfl (List.map_append.symm)
      refine keepS (O.pk [2, 3]) (fun Z => ?_)
      refine ap M (fun _ => Z) [12] (bt 13 []) [(9, .slice A89 (((0 + i) + 1) + ((x.n - 4) - i)) c89)] fun a M => ?_
      refine qh (by kernel_rfl) ?_
      exact ⟨g78, A82, c82, g84, A85, c85, A89, c89, M.sub (by kernel_rfl), O.pk [0, 1, 2, 3], hc82, hc85, hc89⟩
     refine all_cons ?_ all_nil
     refine qq M (i := 6) rfl rfl ?_
     refine s_el M O ei_u8 [(0, vB v)] #[vB v] fun a w84 g84 M O => ?_
     refine keepS (O.pk [1, 2]) (fun Z => ?_)
     refine s_on M 0 rfl ?_
     refine qa8 M O rfl ei_u8 rfl (by decide) fun a w78 g78 M O => ?_
     refine keepS (O.pk [2, 3]) (fun Z => ?_)
     refine s_on M 4 rfl (qd M O (i := 0) rfl ei_u8 rfl rfl rfl (news := (bd.take i).map B8) ((O.old hbr).toB8 (by omega)) (q0 _) (by omega) (by omega) rfl (by decide) fun a w82 A82 c82 M O hc82 => ?_)
     replace O := O.asRow (i := 0) (ys := (bd.take i).map B8) rfl (rfl)
     refine keepS (O.pk [2, 3]) (fun Z => ?_)
     refine s_on M 7 rfl (qd M O (i := 0) rfl ei_u8 rfl rfl rfl (news := [v].map B8) (O.rdBlk (i := 1) (n := 1) (size := 1) rfl rfl) (q0 _) (by omega) (by omega) rfl (by decide) fun a w85 A85 c85 M O hc85 => ?_)
     replace O := O.asRow (i := 0) (ys := (bd.take i ++ [v]).map B8) rfl (List.map_append.symm)
     refine keepS (O.pk [2, 3]) (fun Z => ?_)
     refine s_on M 11 rfl (qd M O (i := 0) rfl ei_u8 rfl rfl rfl (news := (bd.drop i).map B8) ((O.old hbr).qc4 (by omega) (by omega)) (q0 _) (by omega) (by omega) rfl (by decide) fun a w89 A89 c89 M O hc89 => ?_)
     replace O := O.asRow (i := 0) (ys := (bd.take i ++ [v] ++ bd.drop i).map B8) rfl (List.map_append.symm)
     refine keepS (O.pk [2, 3]) (fun Z => ?_)
     refine ap M (fun _ => Z) [12] (bt 13 []) [(9, .slice A89 (((0 + i) + 1) + ((x.n - 4) - i)) c89)] fun a M => ?_
     refine qh (by kernel_rfl) ?_
     exact ⟨g78, A82, c82, g84, A85, c85, A89, c89, M.sub (by kernel_rfl), O.pk [1, 0, 2, 3], hc82, hc85, hc89⟩
    clear M O; rintro a w16 ⟨g78, A82, c82, g84, A85, c85, A89, c89, M, O, hc82, hc85, hc89⟩
    refine s_fs1 ?_
    refine fp M 1 0 [(90, vS gA73 (0 + (x.n - 4)) c73)] fun a M => fo M 1 rfl rfl ?_
    refine s_ek M O [vS gA73 (0 + (x.n - 4)) c73] (qv (some ⟨gA73, 0, none⟩) _ c73 (bd.set i v) _ (O.rd (i := 2) rfl) (by rw [List.length_set]; omega) (by omega) (qfx hbt hv)) fun A91 c91 w91 hc91 O a M => ?_
    have hs91 := ze (bd.set i v); rw [show (bd.set i v).length = 0 + (x.n - 4) from (by rw [List.length_set]; omega)] at hs91
    refine fp M 1 2 [(92, .slice x.A x.n x.c)] fun a M => fo M 3 rfl rfl (e_is M O [.slice A91 ((sealL (bd.set i v)).length) c91, .slice x.A x.n x.c] (.bool true) rfl rfl (qab A91 ((sealL (bd.set i v)).length) c91 (sealL (bd.set i v)) x.A x.n x.c x.l B _ (hL.mem O hB) (O.le hB) (O.rd (i := 0) rfl) rfl hc91 (by omega) (zw (qfx hbt hv)) (O.old hxr) hx1 hx2 (by omega) hx5) fun w93 hbw O a M => ?_)
    refine fp M 5 4 [(98, .slice x.A x.n x.c), (97, .slice x.A x.n x.c), (96, vS gA73 (0 + (x.n - 4)) c73), (95, .bool false)] fun a M => s_fl M 9 fun a M => ?_
    refine fp M 1 10 [(100, vI (IntKind.i64.wrap ((x.n : Int) - 4)))] fun a M => ?_
    replace M := M.sp 100 (vI (x.n - 4 : Nat)) rfl (qc (by omega) (by omega))
    refine s_fz M O 11 rfl (v := .slice (if x.c = (x.n - 4) then x.A else (x.A : Option Addr).map (·.add ((x.n - 4) * 1))) (x.n - (x.n - 4)) (x.c - (x.n - 4))) (Yl.sliceFrom ei_u8 (j := (x.n - 4)) rfl rfl rfl (by omega)) fun a M => ?_
    refine fo M 12 rfl rfl ?_
    refine qju M O (i := 3) (l := (bd.set i v)) (l2 := (x.l.drop (x.n - 4))) rfl ei_u8 rfl rfl rfl (by rw [List.length_set]; omega) ((O.old hxr).qc4 (k := x.n - 4) (by omega) hx2) (by omega) (by omega) (by omega) rfl (by decide) fun a w102 A102 c102 mm102 zl102 M O hrk102 hc102 hmmm102 hzzl102 => ?_
    refine fp M 1 13 [(103, .slice x.A x.n x.c)] fun a M => fo M 14 rfl rfl (e_is M O [.slice A102 (0 + (x.n - 4) + (x.n - (x.n - 4))) c102, .slice x.A x.n x.c] (.bool true) rfl rfl (qab A102 (0 + (x.n - 4) + (x.n - (x.n - 4))) c102 (bd.set i v ++ x.l.drop (x.n - 4)) x.A x.n x.c x.l B _ (hL.mem O hB) (O.le hB) hrk102 (by simp only [List.length_append, List.length_take, List.length_drop, List.length_cons, List.length_nil, List.length_set]; omega) hc102 (by omega) (qa1 (qfx hbt hv) (qeu hx5 _)) (O.old hxr) hx1 hx2 (by omega) hx5) fun w104 hbw O a M => ?_)
    refine fp M 4 15 [(108, .slice A89 (((0 + i) + 1) + ((x.n - 4) - i)) c89), (107, .bool false)] fun a M => fo M 19 rfl rfl ?_
    refine s_ek M O [.slice A89 (((0 + i) + 1) + ((x.n - 4) - i)) c89] (qv A89 _ c89 (bd.take i ++ [v] ++ bd.drop i) _ (O.rd (i := 2) rfl) (by simp only [List.length_append, List.length_take, List.length_drop, List.length_cons, List.length_nil, List.length_set]; omega) (by omega) (qa1 (qa1 (qbg hbt _) (qlp hv)) (qeu hbt _))) fun A109 c109 w109 hc109 O a M => ?_
    have hs109 := ze (bd.take i ++ [v] ++ bd.drop i); rw [show (bd.take i ++ [v] ++ bd.drop i).length = ((0 + i) + 1) + ((x.n - 4) - i) from (by simp only [List.length_append, List.length_take, List.length_drop, List.length_cons, List.length_nil, List.length_set]; omega)] at hs109
    refine fp M 1 20 [(110, .slice x.A x.n x.c)] fun a M => fo M 21 rfl rfl (e_is M O [.slice A109 ((sealL (bd.take i ++ [v] ++ bd.drop i)).length) c109, .slice x.A x.n x.c] (.bool true) rfl rfl (qab A109 ((sealL (bd.take i ++ [v] ++ bd.drop i)).length) c109 (sealL (bd.take i ++ [v] ++ bd.drop i)) x.A x.n x.c x.l B _ (hL.mem O hB) (O.le hB) (O.rd (i := 0) rfl) rfl hc109 (by omega) (zw (qa1 (qa1 (qbg hbt _) (qlp hv)) (qeu hbt _))) (O.old hxr) hx1 hx2 (by omega) hx5) fun w111 hbw O a M => ?_)
    refine fp M 5 22 [(116, vS gA73 (0 + (x.n - 4)) c73), (115, .slice x.A x.n x.c), (114, .bool false)] fun a M => fo M 27 rfl rfl ?_
    refine s_ek M O [vS gA73 (0 + (x.n - 4)) c73] (qv (some ⟨gA73, 0, none⟩) _ c73 (bd.set i v) _ (by have h1 := (O.rd (i := 4) rfl).toB8 (k := 0 + (x.n - 4)) hmmm102; rw [hzzl102] at h1; exact h1) (by rw [List.length_set]; omega) (by omega) (qfx hbt hv)) fun A117 c117 w117 hc117 O a M => ?_
    have hs117 := ze (bd.set i v); rw [show (bd.set i v).length = 0 + (x.n - 4) from (by rw [List.length_set]; omega)] at hs117
    refine fo M 28 rfl rfl (e_is M O [.slice x.A x.n x.c, .slice A117 ((sealL (bd.set i v)).length) c117] (.bool true) rfl rfl (qab x.A x.n x.c x.l A117 ((sealL (bd.set i v)).length) c117 (sealL (bd.set i v)) B _ (hL.mem O hB) (O.le hB) (O.old hxr) hx1 hx2 (by omega) hx5 (O.rd (i := 0) rfl) rfl hc117 (by omega) (zw (qfx hbt hv))) fun w118 hbw O a M => ?_)
    refine fp M 2 29 [(120, .bool false)] fun a M => s_d0 (s_cf M (wp_skip (qa ?_)))
    refine fp M 1 0 [(121, vI (IntKind.i64.wrap ((j : Int) + 1)))] fun a M => ?_
    replace M := M.sp 121 (vI (j + 1 : Nat)) rfl (qc (by omega) (by omega))
    refine fp M 1 1 [(67, vI (j + 1 : Nat))] fun a M => s_d0 ?_
    exact ⟨_, (by omega), j + 1, by omega, rfl, M.sub (by kernel_rfl), O.pk [6]⟩
   have hd68 := of_decide_eq_false hb68
   refine s_cf M (wp_exit (wp_seq ?_))
   refine qz O [.row (vS g65 11 11) 11 (c11.map B8) 5 1] [0] [] fun O Z => ?_
   refine ap M (fun _ => Z) [1, 2, 5, 6] (bf 11 [1, 2, 5, 6]) [(128, vI i), (127, .slice x.A (x.n - 4) x.c), (124, vI i), (123, .slice x.A (x.n - 4) x.c)] fun a M => ?_
   refine s_az M Z 3 rfl (v := .slice x.A i x.c) (Yl.q1 ei_u8 (j := i) rfl rfl rfl (by omega)) fun a M => ?_
   refine qg M (fun _ => Z) (i := 7) rfl rfl (d := 129) rfl (by decide) (by kernel_rfl) (fun _ _ _ h => h) (v := vI (IntKind.i64.wrap ((i : Int) + 1))) (fun _ => Yl.pure (by kernel_rfl)) fun a M => ?_
   replace M := M.sp 129 (vI (i + 1 : Nat)) rfl (qc (by omega) (by omega))
   refine s_az M Z 8 rfl (v := .slice (if x.c = (i + 1) then x.A else (x.A : Option Addr).map (·.add ((i + 1) * 1))) ((x.n - 4) - (i + 1)) (x.c - (i + 1))) (Yl.sliceFrom ei_u8 (j := (i + 1)) rfl rfl rfl (by omega)) fun a M => ?_
   refine s_on M 0 rfl ?_
   refine qa8 M O rfl ei_u8 rfl (by decide) fun a w122 g122 M O => ?_
   refine keepS (O.pk [1]) (fun Z => ?_)
   refine s_on M 4 rfl (qd M O (i := 0) rfl ei_u8 rfl rfl rfl (news := (bd.take i).map B8) ((O.old hbr).toB8 (by omega)) (q0 _) (by omega) (by omega) rfl (by decide) fun a w126 A126 c126 M O hc126 => ?_)
   replace O := O.asRow (i := 0) (ys := (bd.take i).map B8) rfl (rfl)
   refine keepS (O.pk [1]) (fun Z => ?_)
   refine s_on M 9 rfl (qd M O (i := 0) rfl ei_u8 rfl rfl rfl (news := (bd.drop (i + 1)).map B8) ((O.old hbr).qc4 (by omega) (by omega)) (q0 _) (by omega) (by omega) rfl (by decide) fun a w131 A131 c131 M O hc131 => ?_)
   replace O := O.asRow (i := 0) (ys := (bd.take i ++ bd.drop (i + 1)).map B8) rfl (List.map_append.symm)
   refine keepS (O.pk [1]) (fun Z => ?_)
   refine ap M (fun _ => Z) [10] (bt 11 []) [(10, .slice A131 ((0 + i) + ((x.n - 4) - (i + 1))) c131)] fun a M => ?_
   refine qh (by kernel_rfl) ?_
   refine qaj (fun aS wS => ∃ (g132 : Nat) (A136 : Option Addr) (c136 : Nat) (g137 : Nat) (A138 : Option Addr) (c138 : Nat) (A143 : Option Addr) (c143 : Nat), Fr aS 232 [] [(11, .slice A143 (((0 + i) + 10) + ((x.n - 4) - (i + 1))) c143), (10, .slice A131 ((0 + i) + ((x.n - 4) - (i + 1))) c131), (68, .bool false), (67, vI j), (66, vI 11), (65, vS g65 11 11), (5, vI i), (62, vI i), (61, vI (x.n - 4 : Nat)), (4, .slice x.A (x.n - 4) x.c), (3, .slice x.A x.n x.c), (26, vI k), (25, vI 2), (24, vS g24 2 2), (1, .slice A21 42 c21), (0, .bool false)] ∧ Mem X0 wS [.blk g137 #[vB 255, vB 255, vB 255, vB 255, vB 255, vB 255, vB 255, vB 255, vB 255, vB 1] 5, .row (.slice A143 (((0 + i) + 10) + ((x.n - 4) - (i + 1))) c143) (((0 + i) + 10) + ((x.n - 4) - (i + 1))) ((bd.take i ++ grt ++ bd.drop (i + 1)).map B8) 5 1, .row (.slice A131 ((0 + i) + ((x.n - 4) - (i + 1))) c131) ((0 + i) + ((x.n - 4) - (i + 1))) ((bd.take i ++ bd.drop (i + 1)).map B8) 5 1, .row (vS g65 11 11) 11 (c11.map B8) 5 1] ∧ (0 + i ≤ c136) ∧ ((0 + i) + 10 ≤ c138) ∧ (((0 + i) + 10) + ((x.n - 4) - (i + 1)) ≤ c143)) ?_ ?_
   ·
    refine qz O [.row (.slice A131 ((0 + i) + ((x.n - 4) - (i + 1))) c131) ((0 + i) + ((x.n - 4) - (i + 1))) ((bd.take i ++ bd.drop (i + 1)).map B8) 5 1, .row (vS g65 11 11) 11 (c11.map B8) 5 1] [0, 1] [] fun O Z => ?_
    refine ap M (fun _ => Z) [1, 2, 7, 8] (bf 13 [1, 2, 7, 8]) [(140, vI i), (139, .slice x.A (x.n - 4) x.c), (134, vI i), (133, .slice x.A (x.n - 4) x.c)] fun a M => ?_
    refine s_az M Z 3 rfl (v := .slice x.A i x.c) (Yl.q1 ei_u8 (j := i) rfl rfl rfl (by omega)) fun a M => ?_
    refine qg M (fun _ => Z) (i := 9) rfl rfl (d := 141) rfl (by decide) (by kernel_rfl) (fun _ _ _ h => h) (v := vI (IntKind.i64.wrap ((i : Int) + 1))) (fun _ => Yl.pure (by kernel_rfl)) fun a M => ?_
    replace M := M.sp 141 (vI (i + 1 : Nat)) rfl (qc (by omega) (by omega))
    refine s_az M Z 10 rfl (v := .slice (if x.c = (i + 1) then x.A else (x.A : Option Addr).map (·.add ((i + 1) * 1))) ((x.n - 4) - (i + 1)) (x.c - (i + 1))) (Yl.sliceFrom ei_u8 (j := (i + 1)) rfl rfl rfl (by omega)) fun a M => ?_
    refine qw [0, 5] (by kernel_rfl) rfl ?_
    refine all_cons ?_ ?_
    ·refine qq M (i := 0) rfl rfl ?_
     refine qa8 M O rfl ei_u8 rfl (by decide) fun a w132 g132 M O => ?_
     refine keepS (O.pk [1, 2]) (fun Z => ?_)
     refine qw [4, 5] (by kernel_rfl) rfl ?_
     refine all_cons ?_ ?_
     ·refine qq M (i := 4) rfl rfl ?_
      refine qd M O (i := 0) rfl ei_u8 rfl rfl rfl (news := (bd.take i).map B8) ((O.old hbr).toB8 (by omega)) (q0 _) (by omega) (by omega) rfl (by decide) fun a w136 A136 c136 M O hc136 => ?_
      replace O := O.asRow (i := 0) (ys := (bd.take i).map B8) rfl (rfl)
      refine keepS (O.pk [1, 2]) (fun Z => ?_)
      refine s_on M 5 rfl (s_el M O ei_u8 [(0, vB 255), (1, vB 255), (2, vB 255), (3, vB 255), (4, vB 255), (5, vB 255), (6, vB 255), (7, vB 255), (8, vB 255), (9, vB 1)] #[vB 255, vB 255, vB 255, vB 255, vB 255, vB 255, vB 255, vB 255, vB 255, vB 1] fun a w137 g137 M O => ?_)
      refine keepS (O.pk [2, 3]) (fun Z => ?_)
      refine s_on M 6 rfl (qd M O (i := 1) rfl ei_u8 rfl rfl rfl (news := grt.map B8) (O.rdBlk (i := 0) (n := 10) (size := 1) rfl rfl) (q0 _) (by omega) (by omega) rfl (by decide) fun a w138 A138 c138 M O hc138 => ?_)
      replace O := O.asRow (i := 1) (ys := (bd.take i ++ grt).map B8) rfl (List.map_append.symm)
      refine keepS (O.pk [2, 3]) (fun Z => ?_)
      refine s_on M 11 rfl (qd M O (i := 1) rfl ei_u8 rfl rfl rfl (news := (bd.drop (i + 1)).map B8) ((O.old hbr).qc4 (by omega) (by omega)) (q0 _) (by omega) (by omega) rfl (by decide) fun a w143 A143 c143 M O hc143 => ?_)
      replace O := O.asRow (i := 1) (ys := (bd.take i ++ grt ++ bd.drop (i + 1)).map B8) rfl (List.map_append.symm)
      refine keepS (O.pk [2, 3]) (fun Z => ?_)
      refine ap M (fun _ => Z) [12] (bt 13 []) [(11, .slice A143 (((0 + i) + 10) + ((x.n - 4) - (i + 1))) c143)] fun a M => ?_
      refine qh (by kernel_rfl) ?_
      exact ⟨g132, A136, c136, g137, A138, c138, A143, c143, M.sub (by kernel_rfl), O.pk [0, 1, 2, 3], hc136, hc138, hc143⟩
     refine all_cons ?_ all_nil
     refine qq M (i := 5) rfl rfl ?_
     refine s_el M O ei_u8 [(0, vB 255), (1, vB 255), (2, vB 255), (3, vB 255), (4, vB 255), (5, vB 255), (6, vB 255), (7, vB 255), (8, vB 255), (9, vB 1)] #[vB 255, vB 255, vB 255, vB 255, vB 255, vB 255, vB 255, vB 255, vB 255, vB 1] fun a w137 g137 M O => ?_
     refine keepS (O.pk [2, 3]) (fun Z => ?_)
     refine s_on M 4 rfl (qd M O (i := 1) rfl ei_u8 rfl rfl rfl (news := (bd.take i).map B8) ((O.old hbr).toB8 (by omega)) (q0 _) (by omega) (by omega) rfl (by decide) fun a w136 A136 c136 M O hc136 => ?_)
     replace O := O.asRow (i := 1) (ys := (bd.take i).map B8) rfl (rfl)
     refine keepS (O.pk [2, 3]) (fun Z => ?_)
     refine s_on M 6 rfl (qd M O (i := 1) rfl ei_u8 rfl rfl rfl (news := grt.map B8) (O.rdBlk (i := 0) (n := 10) (size := 1) rfl rfl) (q0 _) (by omega) (by omega) rfl (by decide) fun a w138 A138 c138 M O hc138 => ?_)
     replace O := O.asRow (i := 1) (ys := (bd.take i ++ grt).map B8) rfl (List.map_append.symm)
     refine keepS (O.pk [2, 3]) (fun Z => ?_)
     refine s_on M 11 rfl (qd M O (i := 1) rfl ei_u8 rfl rfl rfl (news := (bd.drop (i + 1)).map B8) ((O.old hbr).qc4 (by omega) (by omega)) (q0 _) (by omega) (by omega) rfl (by decide) fun a w143 A143 c143 M O hc143 => ?_)
     replace O := O.asRow (i := 1) (ys := (bd.take i ++ grt ++ bd.drop (i + 1)).map B8) rfl (List.map_append.symm)
     refine keepS (O.pk [2, 3]) (fun Z => ?_)
     refine ap M (fun _ => Z) [12] (bt 13 []) [(11, .slice A143 (((0 + i) + 10) + ((x.n - 4) - (i + 1))) c143)] fun a M => ?_
     refine qh (by kernel_rfl) ?_
     exact ⟨g132, A136, c136, g137, A138, c138, A143, c143, M.sub (by kernel_rfl), O.pk [0, 1, 2, 3], hc136, hc138, hc143⟩
    refine all_cons ?_ all_nil
    refine qq M (i := 5) rfl rfl ?_
    refine s_el M O ei_u8 [(0, vB 255), (1, vB 255), (2, vB 255), (3, vB 255), (4, vB 255), (5, vB 255), (6, vB 255), (7, vB 255), (8, vB 255), (9, vB 1)] #[vB 255, vB 255, vB 255, vB 255, vB 255, vB 255, vB 255, vB 255, vB 255, vB 1] fun a w137 g137 M O => ?_
    refine keepS (O.pk [1, 2]) (fun Z => ?_)
    refine s_on M 0 rfl ?_
    refine qa8 M O rfl ei_u8 rfl (by decide) fun a w132 g132 M O => ?_
    refine keepS (O.pk [2, 3]) (fun Z => ?_)
    refine s_on M 4 rfl (qd M O (i := 0) rfl ei_u8 rfl rfl rfl (news := (bd.take i).map B8) ((O.old hbr).toB8 (by omega)) (q0 _) (by omega) (by omega) rfl (by decide) fun a w136 A136 c136 M O hc136 => ?_)
    replace O := O.asRow (i := 0) (ys := (bd.take i).map B8) rfl (rfl)
    refine keepS (O.pk [2, 3]) (fun Z => ?_)
    refine s_on M 6 rfl (qd M O (i := 0) rfl ei_u8 rfl rfl rfl (news := grt.map B8) (O.rdBlk (i := 1) (n := 10) (size := 1) rfl rfl) (q0 _) (by omega) (by omega) rfl (by decide) fun a w138 A138 c138 M O hc138 => ?_)
    replace O := O.asRow (i := 0) (ys := (bd.take i ++ grt).map B8) rfl (List.map_append.symm)
    refine keepS (O.pk [2, 3]) (fun Z => ?_)
    refine s_on M 11 rfl (qd M O (i := 0) rfl ei_u8 rfl rfl rfl (news := (bd.drop (i + 1)).map B8) ((O.old hbr).qc4 (by omega) (by omega)) (q0 _) (by omega) (by omega) rfl (by decide) fun a w143 A143 c143 M O hc143 => ?_)
    replace O := O.asRow (i := 0) (ys := (bd.take i ++ grt ++ bd.drop (i + 1)).map B8) rfl (List.map_append.symm)
    refine keepS (O.pk [2, 3]) (fun Z => ?_)
    refine ap M (fun _ => Z) [12] (bt 13 []) [(11, .slice A143 (((0 + i) + 10) + ((x.n - 4) - (i + 1))) c143)] fun a M => ?_
    refine qh (by kernel_rfl) ?_
    exact ⟨g132, A136, c136, g137, A138, c138, A143, c143, M.sub (by kernel_rfl), O.pk [1, 0, 2, 3], hc136, hc138, hc143⟩
   clear M O; rintro a w21 ⟨g132, A136, c136, g137, A138, c138, A143, c143, M, O, hc136, hc138, hc143⟩
   refine qaj (fun aS wS => ∃ (g144 : Nat) (A148 : Option Addr) (c148 : Nat) (g154 : Nat) (A155 : Option Addr) (c155 : Nat) (A160 : Option Addr) (c160 : Nat), Fr aS 232 [] [(12, .slice A160 (((0 + i) + 5) + ((x.n - 4) - (i + 1))) c160), (11, .slice A143 (((0 + i) + 10) + ((x.n - 4) - (i + 1))) c143), (10, .slice A131 ((0 + i) + ((x.n - 4) - (i + 1))) c131), (68, .bool false), (67, vI j), (66, vI 11), (65, vS g65 11 11), (5, vI i), (62, vI i), (61, vI (x.n - 4 : Nat)), (4, .slice x.A (x.n - 4) x.c), (3, .slice x.A x.n x.c), (26, vI k), (25, vI 2), (24, vS g24 2 2), (1, .slice A21 42 c21), (0, .bool false)] ∧ Mem X0 wS [.blk g154 #[vB ((bd.getD i 0) ||| 128 : Nat), vB 128, vB 128, vB 128, vB 16] 5, .row (.slice A160 (((0 + i) + 5) + ((x.n - 4) - (i + 1))) c160) (((0 + i) + 5) + ((x.n - 4) - (i + 1))) ((bd.take i ++ [bd.getD i 0 ||| 128, 128, 128, 128, 16] ++ bd.drop (i + 1)).map B8) 5 1, .blk g137 #[vB 255, vB 255, vB 255, vB 255, vB 255, vB 255, vB 255, vB 255, vB 255, vB 1] 5, .row (.slice A143 (((0 + i) + 10) + ((x.n - 4) - (i + 1))) c143) (((0 + i) + 10) + ((x.n - 4) - (i + 1))) ((bd.take i ++ grt ++ bd.drop (i + 1)).map B8) 5 1, .row (.slice A131 ((0 + i) + ((x.n - 4) - (i + 1))) c131) ((0 + i) + ((x.n - 4) - (i + 1))) ((bd.take i ++ bd.drop (i + 1)).map B8) 5 1, .row (vS g65 11 11) 11 (c11.map B8) 5 1] ∧ (0 + i ≤ c148) ∧ ((0 + i) + 5 ≤ c155) ∧ (((0 + i) + 5) + ((x.n - 4) - (i + 1)) ≤ c160)) ?_ ?_
   ·
    refine qz O [.blk g137 #[vB 255, vB 255, vB 255, vB 255, vB 255, vB 255, vB 255, vB 255, vB 255, vB 1] 5, .row (.slice A143 (((0 + i) + 10) + ((x.n - 4) - (i + 1))) c143) (((0 + i) + 10) + ((x.n - 4) - (i + 1))) ((bd.take i ++ grt ++ bd.drop (i + 1)).map B8) 5 1, .row (.slice A131 ((0 + i) + ((x.n - 4) - (i + 1))) c131) ((0 + i) + ((x.n - 4) - (i + 1))) ((bd.take i ++ bd.drop (i + 1)).map B8) 5 1, .row (vS g65 11 11) 11 (c11.map B8) 5 1] [0, 1, 2, 3] [] fun O Z => ?_
    refine ap M (fun _ => Z) [1, 2, 5, 6, 12, 13] (bf 18 [1, 2, 5, 6, 12, 13]) [(157, vI i), (156, .slice x.A (x.n - 4) x.c), (150, vI i), (149, .slice x.A (x.n - 4) x.c), (146, vI i), (145, .slice x.A (x.n - 4) x.c)] fun a M => ?_
    refine s_az M Z 3 rfl (v := .slice x.A i x.c) (Yl.q1 ei_u8 (j := i) rfl rfl rfl (by omega)) fun a M => ?_
    obtain ⟨gq6, oq6, hq6, _⟩ := Rd.qi hbr (by omega) (by decide)
    have hrq6 := hbr; rw [hq6] at hrq6
    replace M := M.sp 149 (.slice (some ⟨gq6, oq6, none⟩) (x.n - 4) x.c) rfl (by rw [hq6]; try rfl)
    refine s_az M Z 7 rfl (v := vP gq6 (oq6 + i * 1)) (Yl.ix gq6 oq6 i 1 rfl rfl rfl) fun a M => ?_
    refine s_az M Z 8 rfl (v := vB (bd.getD i 0)) (Yl.o1 hrq6 i 0 (by omega) rfl rfl) fun a M => ?_
    refine qg M (fun _ => Z) (i := 9) rfl rfl (d := 153) rfl (by decide) (by kernel_rfl) (fun _ _ _ h => h) (v := vB (IntKind.u8.wrap (BitVec.ofInt (IntKind.u8).bits ((bd.getD i 0) : Int) ||| BitVec.ofInt (IntKind.u8).bits 128).toNat)) (fun _ => Yl.pure (by kernel_rfl)) fun a M => ?_
    replace M := M.sp 153 (vB ((bd.getD i 0) ||| 128 : Nat)) rfl (or_u8 (m := (bd.getD i 0)) (n := 128) (by omega) (by omega))
    refine qg M (fun _ => Z) (i := 14) rfl rfl (d := 158) rfl (by decide) (by kernel_rfl) (fun _ _ _ h => h) (v := vI (IntKind.i64.wrap ((i : Int) + 1))) (fun _ => Yl.pure (by kernel_rfl)) fun a M => ?_
    replace M := M.sp 158 (vI (i + 1 : Nat)) rfl (qc (by omega) (by omega))
    refine s_az M Z 15 rfl (v := .slice (if x.c = (i + 1) then x.A else (x.A : Option Addr).map (·.add ((i + 1) * 1))) ((x.n - 4) - (i + 1)) (x.c - (i + 1))) (Yl.sliceFrom ei_u8 (j := (i + 1)) rfl rfl rfl (by omega)) fun a M => ?_
    refine qw [0, 10] (by kernel_rfl) rfl ?_
    refine all_cons ?_ ?_
    ·refine qq M (i := 0) rfl rfl ?_
     refine qa8 M O rfl ei_u8 rfl (by decide) fun a w144 g144 M O => ?_
     refine keepS (O.pk [1, 2, 3, 4]) (fun Z => ?_)
     refine qw [4, 10] (by kernel_rfl) rfl ?_
     refine all_cons ?_ ?_
     ·refine qq M (i := 4) rfl rfl ?_
      refine qd M O (i := 0) rfl ei_u8 rfl rfl rfl (news := (bd.take i).map B8) ((O.old hbr).toB8 (by omega)) (q0 _) (by omega) (by omega) rfl (by decide) fun a w148 A148 c148 M O hc148 => ?_
      replace O := O.asRow (i := 0) (ys := (bd.take i).map B8) rfl (rfl)
      refine keepS (O.pk [1, 2, 3, 4]) (fun Z => ?_)
      refine s_on M 10 rfl (s_el M O ei_u8 [(0, vB ((bd.getD i 0) ||| 128 : Nat)), (1, vB 128), (2, vB 128), (3, vB 128), (4, vB 16)] #[vB ((bd.getD i 0) ||| 128 : Nat), vB 128, vB 128, vB 128, vB 16] fun a w154 g154 M O => ?_)
      refine keepS (O.pk [2, 3, 4, 5]) (fun Z => ?_)
      refine s_on M 11 rfl (qd M O (i := 1) rfl ei_u8 rfl rfl rfl (news := [bd.getD i 0 ||| 128, 128, 128, 128, 16].map B8) (O.rdBlk (i := 0) (n := 5) (size := 1) rfl rfl) (q0 _) (by omega) (by omega) rfl (by decide) fun a w155 A155 c155 M O hc155 => ?_)
      replace O := O.asRow (i := 1) (ys := (bd.take i ++ [bd.getD i 0 ||| 128, 128, 128, 128, 16]).map B8) rfl (List.map_append.symm)
      refine keepS (O.pk [2, 3, 4, 5]) (fun Z => ?_)
      refine s_on M 16 rfl (qd M O (i := 1) rfl ei_u8 rfl rfl rfl (news := (bd.drop (i + 1)).map B8) ((O.old hbr).qc4 (by omega) (by omega)) (q0 _) (by omega) (by omega) rfl (by decide) fun a w160 A160 c160 M O hc160 => ?_)
      replace O := O.asRow (i := 1) (ys := (bd.take i ++ [bd.getD i 0 ||| 128, 128, 128, 128, 16] ++ bd.drop (i + 1)).map B8) rfl (List.map_append.symm)
      refine keepS (O.pk [2, 3, 4, 5]) (fun Z => ?_)
      refine ap M (fun _ => Z) [17] (bt 18 []) [(12, .slice A160 (((0 + i) + 5) + ((x.n - 4) - (i + 1))) c160)] fun a M => ?_
      refine qh (by kernel_rfl) ?_
      exact ⟨g144, A148, c148, g154, A155, c155, A160, c160, M.sub (by kernel_rfl), O.pk [0, 1, 2, 3, 4, 5], hc148, hc155, hc160⟩
     refine all_cons ?_ all_nil
     refine qq M (i := 10) rfl rfl ?_
     refine s_el M O ei_u8 [(0, vB ((bd.getD i 0) ||| 128 : Nat)), (1, vB 128), (2, vB 128), (3, vB 128), (4, vB 16)] #[vB ((bd.getD i 0) ||| 128 : Nat), vB 128, vB 128, vB 128, vB 16] fun a w154 g154 M O => ?_
     refine keepS (O.pk [2, 3, 4, 5]) (fun Z => ?_)
     refine s_on M 4 rfl (qd M O (i := 1) rfl ei_u8 rfl rfl rfl (news := (bd.take i).map B8) ((O.old hbr).toB8 (by omega)) (q0 _) (by omega) (by omega) rfl (by decide) fun a w148 A148 c148 M O hc148 => ?_)
     replace O := O.asRow (i := 1) (ys := (bd.take i).map B8) rfl (rfl)
     refine keepS (O.pk [2, 3, 4, 5]) (fun Z => ?_)
     refine s_on M 11 rfl (qd M O (i := 1) rfl ei_u8 rfl rfl rfl (news := [bd.getD i 0 ||| 128, 128, 128, 128, 16].map B8) (O.rdBlk (i := 0) (n := 5) (size := 1) rfl rfl) (q0 _) (by omega) (by omega) rfl (by decide) fun a w155 A155 c155 M O hc155 => ?_)
     replace O := O.asRow (i := 1) (ys := (bd.take i ++ [bd.getD i 0 ||| 128, 128, 128, 128, 16]).map B8) rfl (List.map_append.symm)
     refine keepS (O.pk [2, 3, 4, 5]) (fun Z => ?_)
     refine s_on M 16 rfl (qd M O (i := 1) rfl ei_u8 rfl rfl rfl (news := (bd.drop (i + 1)).map B8) ((O.old hbr).qc4 (by omega) (by omega)) (q0 _) (by omega) (by omega) rfl (by decide) fun a w160 A160 c160 M O hc160 => ?_)
     replace O := O.asRow (i := 1) (ys := (bd.take i ++ [bd.getD i 0 ||| 128, 128, 128, 128, 16] ++ bd.drop (i + 1)).map B8) rfl (List.map_append.symm)
     refine keepS (O.pk [2, 3, 4, 5]) (fun Z => ?_)
     refine ap M (fun _ => Z) [17] (bt 18 []) [(12, .slice A160 (((0 + i) + 5) + ((x.n - 4) - (i + 1))) c160)] fun a M => ?_
     refine qh (by kernel_rfl) ?_
     exact ⟨g144, A148, c148, g154, A155, c155, A160, c160, M.sub (by kernel_rfl), O.pk [0, 1, 2, 3, 4, 5], hc148, hc155, hc160⟩
    refine all_cons ?_ all_nil
    refine qq M (i := 10) rfl rfl ?_
    refine s_el M O ei_u8 [(0, vB ((bd.getD i 0) ||| 128 : Nat)), (1, vB 128), (2, vB 128), (3, vB 128), (4, vB 16)] #[vB ((bd.getD i 0) ||| 128 : Nat), vB 128, vB 128, vB 128, vB 16] fun a w154 g154 M O => ?_
    refine keepS (O.pk [1, 2, 3, 4]) (fun Z => ?_)
    refine s_on M 0 rfl ?_
    refine qa8 M O rfl ei_u8 rfl (by decide) fun a w144 g144 M O => ?_
    refine keepS (O.pk [2, 3, 4, 5]) (fun Z => ?_)
    refine s_on M 4 rfl (qd M O (i := 0) rfl ei_u8 rfl rfl rfl (news := (bd.take i).map B8) ((O.old hbr).toB8 (by omega)) (q0 _) (by omega) (by omega) rfl (by decide) fun a w148 A148 c148 M O hc148 => ?_)
    replace O := O.asRow (i := 0) (ys := (bd.take i).map B8) rfl (rfl)
    refine keepS (O.pk [2, 3, 4, 5]) (fun Z => ?_)
    refine s_on M 11 rfl (qd M O (i := 0) rfl ei_u8 rfl rfl rfl (news := [bd.getD i 0 ||| 128, 128, 128, 128, 16].map B8) (O.rdBlk (i := 1) (n := 5) (size := 1) rfl rfl) (q0 _) (by omega) (by omega) rfl (by decide) fun a w155 A155 c155 M O hc155 => ?_)
    replace O := O.asRow (i := 0) (ys := (bd.take i ++ [bd.getD i 0 ||| 128, 128, 128, 128, 16]).map B8) rfl (List.map_append.symm)
    refine keepS (O.pk [2, 3, 4, 5]) (fun Z => ?_)
    refine s_on M 16 rfl (qd M O (i := 0) rfl ei_u8 rfl rfl rfl (news := (bd.drop (i + 1)).map B8) ((O.old hbr).qc4 (by omega) (by omega)) (q0 _) (by omega) (by omega) rfl (by decide) fun a w160 A160 c160 M O hc160 => ?_)
    replace O := O.asRow (i := 0) (ys := (bd.take i ++ [bd.getD i 0 ||| 128, 128, 128, 128, 16] ++ bd.drop (i + 1)).map B8) rfl (List.map_append.symm)
    refine keepS (O.pk [2, 3, 4, 5]) (fun Z => ?_)
    refine ap M (fun _ => Z) [17] (bt 18 []) [(12, .slice A160 (((0 + i) + 5) + ((x.n - 4) - (i + 1))) c160)] fun a M => ?_
    refine qh (by kernel_rfl) ?_
    exact ⟨g144, A148, c148, g154, A155, c155, A160, c160, M.sub (by kernel_rfl), O.pk [1, 0, 2, 3, 4, 5], hc148, hc155, hc160⟩
   clear M O; rintro a w22 ⟨g144, A148, c148, g154, A155, c155, A160, c160, M, O, hc148, hc155, hc160⟩
   refine s_fs1 ?_
   refine fp M 1 0 [(161, .slice A131 ((0 + i) + ((x.n - 4) - (i + 1))) c131)] fun a M => fo M 1 rfl rfl ?_
   refine s_ek M O [.slice A131 ((0 + i) + ((x.n - 4) - (i + 1))) c131] (qv A131 _ c131 (bd.take i ++ bd.drop (i + 1)) _ (O.rd (i := 4) rfl) (by simp only [List.length_append, List.length_take, List.length_drop, List.length_cons, List.length_nil, List.length_set]; omega) (by omega) (qa1 (qbg hbt _) (qeu hbt _))) fun A162 c162 w162 hc162 O a M => ?_
   have hs162 := ze (bd.take i ++ bd.drop (i + 1)); rw [show (bd.take i ++ bd.drop (i + 1)).length = (0 + i) + ((x.n - 4) - (i + 1)) from (by simp only [List.length_append, List.length_take, List.length_drop, List.length_cons, List.length_nil, List.length_set]; omega)] at hs162
   refine fp M 1 2 [(163, .slice x.A x.n x.c)] fun a M => fo M 3 rfl rfl (e_is M O [.slice A162 ((sealL (bd.take i ++ bd.drop (i + 1))).length) c162, .slice x.A x.n x.c] (.bool true) rfl rfl (qab A162 ((sealL (bd.take i ++ bd.drop (i + 1))).length) c162 (sealL (bd.take i ++ bd.drop (i + 1))) x.A x.n x.c x.l B _ (hL.mem O hB) (O.le hB) (O.rd (i := 0) rfl) rfl hc162 (by omega) (zw (qa1 (qbg hbt _) (qeu hbt _))) (O.old hxr) hx1 hx2 (by omega) hx5) fun w164 hbw O a M => ?_)
   refine fp M 4 4 [(168, vI i), (167, .slice x.A x.n x.c), (166, .bool false)] fun a M => s_fz M O 8 rfl (v := .slice x.A i x.c) (Yl.q1 ei_u8 (j := i) rfl rfl rfl (by omega)) fun a M => ?_
   refine fp M 1 9 [(170, .slice x.A x.n x.c)] fun a M => fo M 10 rfl rfl (e_is M O [.slice x.A i x.c, .slice x.A x.n x.c] (.bool true) rfl rfl (qab x.A i x.c (x.l.take i) x.A x.n x.c x.l B _ (hL.mem O hB) (O.le hB) ((O.old hxr).toB8 (by omega)) (by rw [List.length_take]; omega) (by omega) (by omega) (qbg hx5 _) (O.old hxr) hx1 hx2 (by omega) hx5) fun w171 hbw O a M => ?_)
   refine fp M 5 11 [(176, vI i), (175, .slice x.A (x.n - 4) x.c), (174, .bool false)] fun a M => s_fz M O 16 rfl (v := .slice x.A i x.c) (Yl.q1 ei_u8 (j := i) rfl rfl rfl (by omega)) fun a M => ?_
   refine fo M 17 rfl rfl ?_
   refine s_ek M O [.slice x.A i x.c] (qv x.A _ x.c (bd.take i) _ ((O.old hbr).toB8 (by omega)) (by rw [List.length_take]; omega) (by omega) (qbg hbt _)) fun A178 c178 w178 hc178 O a M => ?_
   have hs178 := ze (bd.take i); rw [show (bd.take i).length = i from (by rw [List.length_take]; omega)] at hs178
   refine fp M 1 18 [(179, .slice x.A x.n x.c)] fun a M => fo M 19 rfl rfl (e_is M O [.slice A178 ((sealL (bd.take i)).length) c178, .slice x.A x.n x.c] (.bool true) rfl rfl (qab A178 ((sealL (bd.take i)).length) c178 (sealL (bd.take i)) x.A x.n x.c x.l B _ (hL.mem O hB) (O.le hB) (O.rd (i := 0) rfl) rfl hc178 (by omega) (zw (qbg hbt _)) (O.old hxr) hx1 hx2 (by omega) hx5) fun w180 hbw O a M => ?_)
   refine fp M 4 20 [(184, .slice A143 (((0 + i) + 10) + ((x.n - 4) - (i + 1))) c143), (183, .bool false)] fun a M => fo M 24 rfl rfl ?_
   refine s_ek M O [.slice A143 (((0 + i) + 10) + ((x.n - 4) - (i + 1))) c143] (qv A143 _ c143 (bd.take i ++ grt ++ bd.drop (i + 1)) _ (O.rd (i := 5) rfl) (by simp only [List.length_append, List.length_take, List.length_drop, List.length_cons, List.length_nil, show grt.length = 10 from rfl, List.length_set]; omega) (by omega) (qa1 (qa1 (qbg hbt _) qyj) (qeu hbt _))) fun A185 c185 w185 hc185 O a M => ?_
   have hs185 := ze (bd.take i ++ grt ++ bd.drop (i + 1)); rw [show (bd.take i ++ grt ++ bd.drop (i + 1)).length = ((0 + i) + 10) + ((x.n - 4) - (i + 1)) from (by simp only [List.length_append, List.length_take, List.length_drop, List.length_cons, List.length_nil, show grt.length = 10 from rfl, List.length_set]; omega)] at hs185
   refine fp M 1 25 [(186, .slice x.A x.n x.c)] fun a M => fo M 26 rfl rfl (e_is M O [.slice A185 ((sealL (bd.take i ++ grt ++ bd.drop (i + 1))).length) c185, .slice x.A x.n x.c] (.bool true) rfl rfl (qab A185 ((sealL (bd.take i ++ grt ++ bd.drop (i + 1))).length) c185 (sealL (bd.take i ++ grt ++ bd.drop (i + 1))) x.A x.n x.c x.l B _ (hL.mem O hB) (O.le hB) (O.rd (i := 0) rfl) rfl hc185 (by omega) (zw (qa1 (qa1 (qbg hbt _) qyj) (qeu hbt _))) (O.old hxr) hx1 hx2 (by omega) hx5) fun w187 hbw O a M => ?_)
   refine fp M 4 27 [(191, .slice A160 (((0 + i) + 5) + ((x.n - 4) - (i + 1))) c160), (190, .bool false)] fun a M => fo M 31 rfl rfl ?_
   refine s_ek M O [.slice A160 (((0 + i) + 5) + ((x.n - 4) - (i + 1))) c160] (qv A160 _ c160 (bd.take i ++ [bd.getD i 0 ||| 128, 128, 128, 128, 16] ++ bd.drop (i + 1)) _ (O.rd (i := 4) rfl) (by simp only [List.length_append, List.length_take, List.length_drop, List.length_cons, List.length_nil, List.length_set]; omega) (by omega) (qa1 (qa1 (qbg hbt _) (qyi hgi)) (qeu hbt _))) fun A192 c192 w192 hc192 O a M => ?_
   have hs192 := ze (bd.take i ++ [bd.getD i 0 ||| 128, 128, 128, 128, 16] ++ bd.drop (i + 1)); rw [show (bd.take i ++ [bd.getD i 0 ||| 128, 128, 128, 128, 16] ++ bd.drop (i + 1)).length = ((0 + i) + 5) + ((x.n - 4) - (i + 1)) from (by simp only [List.length_append, List.length_take, List.length_drop, List.length_cons, List.length_nil, List.length_set]; omega)] at hs192
   refine fp M 1 32 [(193, .slice x.A x.n x.c)] fun a M => fo M 33 rfl rfl (e_is M O [.slice A192 ((sealL (bd.take i ++ [bd.getD i 0 ||| 128, 128, 128, 128, 16] ++ bd.drop (i + 1))).length) c192, .slice x.A x.n x.c] (.bool true) rfl rfl (qab A192 ((sealL (bd.take i ++ [bd.getD i 0 ||| 128, 128, 128, 128, 16] ++ bd.drop (i + 1))).length) c192 (sealL (bd.take i ++ [bd.getD i 0 ||| 128, 128, 128, 128, 16] ++ bd.drop (i + 1))) x.A x.n x.c x.l B _ (hL.mem O hB) (O.le hB) (O.rd (i := 0) rfl) rfl hc192 (by omega) (zw (qa1 (qa1 (qbg hbt _) (qyi hgi)) (qeu hbt _))) (O.old hxr) hx1 hx2 (by omega) hx5) fun w194 hbw O a M => ?_)
   refine fp M 2 34 [(196, .bool false)] fun a M => s_d0 (s_cf M (wp_skip (qa ?_)))
   refine fp M 1 0 [(197, vI (IntKind.i64.wrap ((i : Int) + 1)))] fun a M => ?_
   replace M := M.sp 197 (vI (i + 1 : Nat)) rfl (qc (by omega) (by omega))
   refine fp M 1 1 [(62, vI (i + 1 : Nat))] fun a M => s_d0 ?_
   exact ⟨_, (by omega), i + 1, by omega, rfl, M.sub (by kernel_rfl), O.pk []⟩
  have hd63 := of_decide_eq_false hb63
  refine s_cf M (wp_exit (qa ?_))
  refine fp M 1 0 [(198, vI (IntKind.i64.wrap ((k : Int) + 1)))] fun a M => ?_
  replace M := M.sp 198 (vI (k + 1 : Nat)) rfl (qc (by omega) (by omega))
  refine fp M 1 1 [(26, vI (k + 1 : Nat))] fun a M => s_d0 ?_
  replace O := HMo.call O.below
  exact ⟨_, (by omega), k + 1, by omega, rfl, M.sub (by kernel_rfl), O.pt 1 [0]⟩
 have hd27 := of_decide_eq_false hb27
 refine s_cf M (wp_exit (s_fs1 ?_))
 refine fo M 0 rfl rfl ?_
 refine qi0 M O (m := 16777217) rfl ei_u8 rfl rfl (by omega) (by omega) rfl (by decide) fun a w200 g200 M O => ?_
 obtain ⟨Z201, hZ201⟩ : ∃ z : List Nat, z = List.replicate 16777217 0 := ⟨_, rfl⟩
 replace O := O.asRow (i := 0) (ys := Z201.map B8) rfl (by rw [hZ201]; exact qfh 16777217)
 refine fo M 1 rfl rfl ?_
 refine e_cl M [vS g200 16777217 16777217] rfl rfl (qdu (e := 3) (some ⟨g200, 0, none⟩) 16777217 16777217 Z201 B _ (hL.mem O hB) (O.le hB) (O.rd (i := 0) rfl) (Nat.le_refl _) (by rw [hZ201, List.length_replicate]) (by decide) (by rw [hZ201]; exact quk (by decide)) (by rw [hZ201]; exact q2n)) ?_
 rintro _ w201 ⟨z201, rfl, hz201, _, hm⟩
 refine ⟨_, rfl, ?_⟩
 replace O := O.call hm.below
 clear M; intro a M
 refine fp M 3 2 [(203, vI 3), (202, .agg z201.cells)] fun a M => fo M 5 rfl rfl (s_ea M O #[vI 0, vI 0, vQ 0, .slice none 0 0, .slice none 0 0, .slice none 0 0, .slice none 0 0, .slice none 0 0] fun a w13 g13 M O => ?_)
 refine fo M 6 rfl rfl (e_sa M O 0 rfl rfl rfl rfl rfl z6 rfl rfl (qa5 z201) fun w27_6 O => ?_)
 refine fp M 1 7 [(14, vI 3)] fun a M => s_d0 (s_fs1 ?_)
 refine fo M 0 rfl rfl ?_
 refine qi0 M O (m := 14) rfl ei_u8 rfl rfl (by omega) (by omega) rfl (by decide) fun a w205 g205 M O => ?_
 obtain ⟨Z206, hZ206⟩ : ∃ z : List Nat, z = List.replicate 14 0 := ⟨_, rfl⟩
 replace O := O.asRow (i := 0) (ys := Z206.map B8) rfl (by rw [hZ206]; exact qfh 14)
 refine fo M 1 rfl rfl ?_
 refine e_cl M [vS g205 14 14] rfl rfl (qdu (e := 340) (some ⟨g205, 0, none⟩) 14 14 Z206 B _ (hL.mem O hB) (O.le hB) (O.rd (i := 0) rfl) (Nat.le_refl _) (by rw [hZ206, List.length_replicate]) (by decide) (by rw [hZ206]; exact quk (by decide)) (by rw [hZ206]; exact rd_14)) ?_
 rintro _ w206 ⟨z206, rfl, hz206, _, hm⟩
 refine ⟨_, rfl, ?_⟩
 replace O := O.call hm.below
 clear M; intro a M
 refine fp M 3 2 [(208, vI 340), (207, .agg z206.cells)] fun a M => fo M 5 rfl rfl (s_ea M O #[vI 0, vI 0, vQ 0, .slice none 0 0, .slice none 0 0, .slice none 0 0, .slice none 0 0, .slice none 0 0] fun a w15 g15 M O => ?_)
 refine fo M 6 rfl rfl (e_sa M O 0 rfl rfl rfl rfl rfl z6 rfl rfl (qa5 z206) fun w28_6 O => ?_)
 refine fp M 1 7 [(16, vI 340)] fun a M => s_d0 (s_fs1 ?_)
 refine fo M 0 rfl rfl ?_
 refine qi0 M O (m := 15) rfl ei_u8 rfl rfl (by omega) (by omega) rfl (by decide) fun a w210 g210 M O => ?_
 obtain ⟨Z211, hZ211⟩ : ∃ z : List Nat, z = List.replicate 15 0 := ⟨_, rfl⟩
 replace O := O.asRow (i := 0) (ys := Z211.map B8) rfl (by rw [hZ211]; exact qfh 15)
 refine fo M 1 rfl rfl ?_
 refine e_cl M [vS g210 15 15] rfl rfl (qdu (e := 341) (some ⟨g210, 0, none⟩) 15 15 Z211 B _ (hL.mem O hB) (O.le hB) (O.rd (i := 0) rfl) (Nat.le_refl _) (by rw [hZ211, List.length_replicate]) (by decide) (by rw [hZ211]; exact quk (by decide)) (by rw [hZ211]; exact rd_15)) ?_
 rintro _ w211 ⟨z211, rfl, hz211, _, hm⟩
 refine ⟨_, rfl, ?_⟩
 replace O := O.call hm.below
 clear M; intro a M
 refine fp M 3 2 [(213, vI 341), (212, .agg z211.cells)] fun a M => fo M 5 rfl rfl (s_ea M O #[vI 0, vI 0, vQ 0, .slice none 0 0, .slice none 0 0, .slice none 0 0, .slice none 0 0, .slice none 0 0] fun a w17 g17 M O => ?_)
 refine fo M 6 rfl rfl (e_sa M O 0 rfl rfl rfl rfl rfl z6 rfl rfl (qa5 z211) fun w29_6 O => ?_)
 refine fp M 1 7 [(18, vI 341)] fun a M => s_d0 (s_fs1 ?_)
 refine fp M 13 0 [(226, .bool true)] fun a M => fo M 13 rfl rfl (e_is M O [] (.bool true) rfl rfl (qw6 B _ (hL.mem O hB) (O.le hB)) fun w227 hbw O a M => ?_)
 refine fp M 2 14 [(229, .bool true)] fun a M => fo M 16 rfl rfl (e_is M O [] (.bool true) rfl rfl (qm0 B _ (hL.mem O hB) (O.le hB)) fun w230 hbw O a M => ?_)
 refine fp M 2 17 [(0, .bool true)] fun a M => s_d0 (wp_ret ?_)
 exact s_rt1 rfl M rfl (⟨rfl, O.below⟩)
end Go.Proofs.YtggpmlaappaopaaGreatDoor
