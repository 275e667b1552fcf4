/- Texts laid together: Blk4W, Blk5W, BlkV, BlkF, Aw10W, FillW, PolP, PolW, LinW, Ref06i, RWithW, Ref07P, Ref07Q, KitP, KitW. -/
import Derived.Test.YtnakabnmjnfpcaaGreatDoorQVarint
import Derived.Test.YtnakabnmjnfpcaaGreatDoorQCheck
import Derived.Test.YtnakabnmjnfpcaaGreatDoorQRef01
import Derived.Test.YtnakabnmjnfpcaaGreatDoorQZ2
set_option linter.all false
set_option maxRecDepth 100000
set_option maxHeartbeats 8000000
namespace Go.Proofs.YtnakabnmjnfpcaaGreatDoor
open Go.RowKit
theorem qke {l : List Nat} {es : List Ev} {L er : Nat} (h3 : qc3 l = true) (h0 : 0 < tkVal 4096 (qc (qc l)))
  (hq : readR ⟨(tkVal 281474976710656 (qc (qc (qc l))) : Int), (tkVal 281474976710656 (qc (qc (qc (qc l)))) : Int)⟩ (tkVal 63 l) (tkVal 4096 (qc (qc l)) : Int) (qc (qc (qc (qc (qc l))))) = (es, L, er)) (her : er = 0) :
  zq l = qar (tkVal 63 l) (tkVal 281474976710656 (qc l)) (qc (qc (qc l))) (es, L, 0) := by
 rw [qf2 h3 h0 hq, her]
theorem qcf (k : Nat) (hk : k = 1 ∨ k = 2) (A : Option Addr) (n c : Nat) (l : List Nat) (B : Nat) (w : World) (hL : LaidX B w) (hB : B ≤ w.heap.size) (hr : Rd w w.heap.size 1 A n (l.map B8)) (hc : n ≤ c) (hln : n = l.length) (hn : n ≤ 100000000) (hl : ∀ b ∈ l, b < 256) :
    Calls Tryz.prog 47 #[.int .u8 (k : Int), .slice A n c] w (qfb w (qde k l)) := by
 refine qg (vs := [vB k, .slice A n c]) Tryz.func47 rfl rfl (by kernel_rfl) (σ0 := [(0, vB k), (1, .slice A n c)]) rfl ?_
 intro a HF
 have HM := Mem.start w
 refine wp_seq (qa ?_)
 refine fo HF 0 rfl rfl ?_
 refine e_box HF HM (cs := #[.slice A n c]) rfl rfl rfl rfl (by decide) ?_
 clear HF HM; intro a w3 g3 HF HM
 refine fo HF 1 rfl rfl ?_
 refine qz HF HM (cs := #[vB 0, vB 0, vI 0, vI 0, .slice none 0 0]) rfl (by kernel_rfl) rfl (by decide) ?_
 clear HF HM; intro a w4 g4 HF HM
 refine fp HF 1 2 [(5, .bool false)] fun a HF => ?_
 refine qb rfl (wp_seq (qa ?_))
 refine fo HF 0 rfl rfl ?_
 refine qz HF HM (cs := #[.bool false]) rfl (by kernel_rfl) rfl (by decide) ?_
 clear HF HM; intro a w6 g6 HF HM
 refine fo HF 1 rfl rfl ?_
 refine zy HF HM (i := 0) (cs := #[.bool false]) rfl rfl rfl rfl (by kernel_rfl) rfl rfl (by simp) ?_
 clear HM; intro w1_1 HM
 refine qb rfl (wp_seq (qa ?_))
 refine fy HF HM 0 rfl rfl rfl (v := .func (.func 64) #[] #[vP g3 0, vP g6 0]) (Yl.makeFunc (fst := []) (caps := [vP g3 0, vP g6 0]) rfl rfl rfl) fun a HF => ?_
 refine fp HF 1 1 [(7, .func (.func 64) #[] #[vP g3 0, vP g6 0])] fun a HF => ?_
 refine qb rfl (wp_seq (qa ?_))
 refine fp HF 1 0 [(15, vB k)] fun a HF => ?_
 refine fy HF HM 1 rfl rfl rfl (v := .agg #[vB k, vB 0, vI 0, vI 0, .slice none 0 0]) (Yl.build (vs := [(0, vB k)]) rfl (by kernel_rfl) (by kernel_rfl)) fun a HF => ?_
 refine fo HF 2 rfl rfl ?_
 refine qz HF HM (cs := #[vB 0, vB 0, vI 0, vI 0, .slice none 0 0]) rfl (by kernel_rfl) rfl (by decide) ?_
 clear HF HM; intro a w8 g8 HF HM
 refine fo HF 3 rfl rfl ?_
 refine e_sa HF HM 0 rfl rfl rfl rfl rfl si_bk rfl rfl (by simp [Value.oneCell']) ?_
 clear HM; intro w3_3 HM
 refine qb rfl (wp_seq (wp_seq (qa ?_)))
 refine fp HF 2 0 [(18, .bool ((k : Int) == (2 : Int)))] fun a HF => ?_
 refine qb rfl ?_
 rcases HF.tf 18 rfl with ⟨hb18, HF⟩ | ⟨hb18, HF⟩
 ·
  have hd18 := eq_of_beq hb18
  obtain rfl : k = 2 := by omega
  refine qf HF rfl (wp_seq (qa ?_))
  refine fp HF 1 0 [(19, .func (.func 64) #[] #[vP g3 0, vP g6 0])] fun a HF => ?_
  refine fo HF 1 rfl rfl ?_
  replace HM := HM.picks (fs' := [.blk g3 #[.slice A n c] 33, .blk g6 #[.bool true] 4, .blk g8 #[vB (2 : Nat), vB 0, vI 0, vI 0, .slice none 0 0] 28, .blk g4 #[vB 0, vB 0, vI 0, vI 0, .slice none 0 0] 28]) [3, 1, 0, 2] (by decide) rfl
  have hl1 := zz hl
  refine qed HF (f := 64) (vs := [vI 281474976710657]) (fst := []) (caps := [vP g3 0, vP g6 0]) rfl rfl rfl (by kernel_rfl) rfl (by decide) (qdf w _ g3 g6 A n c l true 281474976710657 [.blk g8 #[vB (2 : Nat), vB 0, vI 0, vI 0, .slice none 0 0] 28, .blk g4 #[vB 0, vB 0, vI 0, vI 0, .slice none 0 0] 28] hl hln (by omega) hr hc (by omega) HM) ?_
  rintro _ w20 ⟨rfl, Aq1, cq1, hr1, hc1, hm⟩
  refine ⟨_, rfl, ?_⟩
  replace HM := hm
  clear HF; intro a HF
  have ht0 := qdx 281474976710657 l
  have hs0 := qcz l
  refine fp HF 1 2 [(21, vP g8 3)] fun a HF => ?_
  refine fo HF 3 rfl rfl ?_
  refine zy HF HM (i := 2) (cs := #[vB (2 : Nat), vB 0, vI 0, vI 0, .slice none 0 0]) rfl rfl rfl rfl (by kernel_rfl) rfl rfl (by simp) ?_
  clear HM; intro w5_3 HM
  refine qb rfl ?_
  refine qam (fun aS wS => Fr aS 99 [] [(5, .bool ((qa8 l).isSome)), (18, .bool true), (8, vP g8 0), (7, .func (.func 64) #[] #[vP g3 0, vP g6 0]), (6, vP g6 0), (4, vP g4 0), (3, vP g3 0), (0, vB (2 : Nat))] ∧ Mem w wS [.blk g3 #[.slice Aq1 ((qc l).length) cq1] 33, .blk g6 #[.bool (true && tkOk 281474976710657 l)] 4, .blk g8 #[vB (2 : Nat), vB 0, vI 0, vI (tkVal 281474976710657 l), .slice none 0 0] 28, .blk g4 #[vB (2 : Nat), vB 0, vI 0, vI (tkVal 281474976710657 l), .slice none 0 0] 28]) ?_ ?_
  ·
   refine zw HM [.blk g3 #[.slice Aq1 ((qc l).length) cq1] 33, .blk g6 #[.bool (true && tkOk 281474976710657 l)] 4, .blk g8 #[vB (2 : Nat), vB 0, vI 0, vI (tkVal 281474976710657 l), .slice none 0 0] 28] [0, 1, 2] [] fun HM HS => ?_
   refine ay HF HS 0 rfl rfl rfl (v := .agg #[vB (2 : Nat), vB 0, vI 0, vI (tkVal 281474976710657 l), .slice none 0 0]) (Yl.qx rfl rfl si_bk rfl (fun _ h => qd (h.blk (i := 2) rfl))) fun a HF => ?_
   refine ay HF HS 1 rfl rfl rfl (Yl.qh rfl rfl (by kernel_rfl) (fun _ h => h.cell (i := 1) rfl rfl)) fun a HF => ?_
   refine ap HF (fun _ => HS) [2] #[true, true, true, false, false, false, false, false, false, false, false, false, false] [(24, .bool (true && tkOk 281474976710657 l))] fun a HF => ?_
   rcases HF.tf 24 rfl with ⟨hb24, HF⟩ | ⟨hb24, HF⟩
   ·
    refine ay HF HS 3 rfl rfl rfl (Yl.qh rfl rfl (by kernel_rfl) (fun _ h => h.cell (i := 0) rfl rfl)) fun a HF => ?_
    refine ay HF HS 4 rfl rfl rfl (Yl.len rfl rfl (by kernel_rfl)) fun a HF => ?_
    refine ap HF (fun _ => HS) [5, 6, 7] #[true, true, true, true, true, true, true, true, false, false, false, false, false] [(29, .bool ((((qc l).length : Nat) : Int) == (0 : Int)))] fun a HF => ?_
    rcases HF.tf 29 rfl with ⟨hb29, HF⟩ | ⟨hb29, HF⟩
    ·
     have hd29 := eq_of_beq hb29
     refine ay HF HS 8 rfl rfl rfl (v := .agg #[vB (2 : Nat), vB 0, vI 0, vI (tkVal 281474976710657 l), .slice none 0 0]) (Yl.qx rfl rfl si_bk rfl (fun _ h => qd (h.blk (i := 2) rfl))) fun a HF => ?_
     refine qi [9] (by kernel_rfl) rfl ?_
     refine all_cons ?_ all_nil
     refine qj HF (i := 9) rfl rfl ?_
     refine e_is HF HM [.agg #[vB (2 : Nat), vB 0, vI 0, vI (tkVal 281474976710657 l), .slice none 0 0]] (.bool (Bk.fits ⟨2, 0, 0, (tkVal 281474976710657 l : Int), []⟩)) rfl rfl (qer ⟨2, 0, 0, (tkVal 281474976710657 l : Int), []⟩ (endOk ht0) none 0 B _ (hL.mem HM hB) (HM.le hB) Rd.nil (by show 0 ≤ _; omega)) fun w31 hbw HM a HF => ?_
     refine keepS (HM.picks [0, 1, 2] (by decide) rfl) (fun HS => ?_)
     refine ap HF (fun _ => HS) [10] #[true, true, true, true, true, true, true, true, true, true, true, false, false] [(32, .bool (Bk.fits ⟨2, 0, 0, (tkVal 281474976710657 l : Int), []⟩))] fun a HF => ?_
     refine qi [11] (by kernel_rfl) rfl ?_
     refine all_cons ?_ all_nil
     refine qj HF (i := 11) rfl rfl ?_
     refine e_sa HF HM 3 rfl rfl rfl rfl rfl si_bk rfl rfl (by simp [Value.oneCell']) ?_
     clear HM; intro w6_11 HM
     refine keepS (HM.picks [0, 1, 2] (by decide) rfl) (fun HS => ?_)
     refine ap HF (fun _ => HS) [12] #[true, true, true, true, true, true, true, true, true, true, true, true, true] [(5, .bool (Bk.fits ⟨2, 0, 0, (tkVal 281474976710657 l : Int), []⟩))] fun a HF => ?_
     refine qm (by kernel_rfl) ?_
     have HF := HF.as (t := 5) (u := .bool ((qa8 l).isSome)) rfl (congrArg Value.bool (by rw [qfc, show tkOk 281474976710657 l = true by simpa using hb24, decide_eq_true (by omega), Bool.true_and, Bool.true_and]))
     exact ⟨HF.sub (by kernel_rfl), HM.picks [0, 1, 2, 3] (by decide) rfl⟩
    have hd29 := ne_of_beq_false hb29
    refine ap HF (fun _ => HS) [8, 9, 10] #[true, true, true, true, true, true, true, true, true, true, true, false, false] [(32, .bool false)] fun a HF => ?_
    refine qi [11] (by kernel_rfl) rfl ?_
    refine all_cons ?_ all_nil
    refine qj HF (i := 11) rfl rfl ?_
    refine e_sa HF HM 3 rfl rfl rfl rfl rfl si_bk rfl rfl (by simp [Value.oneCell']) ?_
    clear HM; intro w6_11 HM
    refine keepS (HM.picks [0, 1, 2] (by decide) rfl) (fun HS => ?_)
    refine ap HF (fun _ => HS) [12] #[true, true, true, true, true, true, true, true, true, true, true, true, true] [(5, .bool false)] fun a HF => ?_
    refine qm (by kernel_rfl) ?_
    have HF := HF.as (t := 5) (u := .bool ((qa8 l).isSome)) rfl (congrArg Value.bool (by rw [qfc, decide_eq_false (by omega), Bool.false_and, Bool.and_false]))
    exact ⟨HF.sub (by kernel_rfl), HM.picks [0, 1, 2, 3] (by decide) rfl⟩
   refine ap HF (fun _ => HS) [3, 4, 5, 6, 7, 8, 9, 10] #[true, true, true, true, true, true, true, true, true, true, true, false, false] [(32, .bool false)] fun a HF => ?_
   refine qi [11] (by kernel_rfl) rfl ?_
   refine all_cons ?_ all_nil
   refine qj HF (i := 11) rfl rfl ?_
   refine e_sa HF HM 3 rfl rfl rfl rfl rfl si_bk rfl rfl (by simp [Value.oneCell']) ?_
   clear HM; intro w6_11 HM
   refine keepS (HM.picks [0, 1, 2] (by decide) rfl) (fun HS => ?_)
   refine ap HF (fun _ => HS) [12] #[true, true, true, true, true, true, true, true, true, true, true, true, true] [(5, .bool false)] fun a HF => ?_
   refine qm (by kernel_rfl) ?_
   have HF := HF.as (t := 5) (u := .bool ((qa8 l).isSome)) rfl (congrArg Value.bool (by rw [qfc, show tkOk 281474976710657 l = false by simpa using hb24]; rfl))
   exact ⟨HF.sub (by kernel_rfl), HM.picks [0, 1, 2, 3] (by decide) rfl⟩
  clear HF HM; rintro a w6 ⟨HF, HM⟩
  refine wp_ret ?_
  rcases HF.tf 5 rfl with ⟨hb5, HF⟩ | ⟨hb5, HF⟩
  ·
   have hfin := hb5
   exact ret2 rfl HF (.cellS (i := 3) HF HM rfl rfl si_bk rfl) (.tmp HF rfl) (qc4 (b := ⟨2, 0, 0, (tkVal 281474976710657 l : Int), []⟩) (A := none) (c := 0) (by rw [qjb]; exact qlr hfin) (World.ownsRow_nil _ _ _ _) (Nat.le_refl _) HM.below)
  have hfin := hb5
  exact ret2 rfl HF (.cellS (i := 3) HF HM rfl rfl si_bk rfl) (.tmp HF rfl) (qce (by rw [qjb]; exact Option.not_isSome_iff_eq_none.1 (by rw [hfin]; decide)) rfl (by simp [Value.oneCell']) HM.below)
 have hd18 := ne_of_beq_false hb18
 obtain rfl : k = 1 := by omega
 refine qe HF rfl (wp_skip (wp_seq (qa ?_)))
 refine fp HF 1 0 [(33, .func (.func 64) #[] #[vP g3 0, vP g6 0])] fun a HF => ?_
 refine fo HF 1 rfl rfl ?_
 replace HM := HM.picks (fs' := [.blk g3 #[.slice A n c] 33, .blk g6 #[.bool true] 4, .blk g8 #[vB (1 : Nat), vB 0, vI 0, vI 0, .slice none 0 0] 28, .blk g4 #[vB 0, vB 0, vI 0, vI 0, .slice none 0 0] 28]) [3, 1, 0, 2] (by decide) rfl
 have hl1 := zz hl
 refine qed HF (f := 64) (vs := [vI 63]) (fst := []) (caps := [vP g3 0, vP g6 0]) rfl rfl rfl (by kernel_rfl) rfl (by decide) (qdf w _ g3 g6 A n c l true 63 [.blk g8 #[vB (1 : Nat), vB 0, vI 0, vI 0, .slice none 0 0] 28, .blk g4 #[vB 0, vB 0, vI 0, vI 0, .slice none 0 0] 28] hl hln (by omega) hr hc (by omega) HM) ?_
 rintro _ w34 ⟨rfl, Aq1, cq1, hr1, hc1, hm⟩
 refine ⟨_, rfl, ?_⟩
 replace HM := hm
 clear HF; intro a HF
 have ht0 := qdx 63 l
 have hs0 := qcz l
 refine fp HF 1 2 [(35, vB (IntKind.u8.wrap (tkVal 63 l : Int)))] fun a HF => ?_
 replace HF := HF.sp 35 (vB (tkVal 63 l)) rfl (qya rfl (by omega))
 refine fp HF 1 3 [(36, .func (.func 64) #[] #[vP g3 0, vP g6 0])] fun a HF => ?_
 refine fo HF 4 rfl rfl ?_
 replace HM := HM.picks (fs' := [.blk g3 #[.slice Aq1 ((qc l).length) cq1] 33, .blk g6 #[.bool (true && tkOk 63 l)] 4, .blk g8 #[vB (1 : Nat), vB 0, vI 0, vI 0, .slice none 0 0] 28, .blk g4 #[vB 0, vB 0, vI 0, vI 0, .slice none 0 0] 28]) [0, 1, 2, 3] (by decide) rfl
 have hl2 := zz hl1
 refine qed HF (f := 64) (vs := [vI 281474976710656]) (fst := []) (caps := [vP g3 0, vP g6 0]) rfl rfl rfl (by kernel_rfl) rfl (by decide) (qdf w _ g3 g6 Aq1 ((qc l).length) cq1 (qc l) (true && tkOk 63 l) 281474976710656 [.blk g8 #[vB (1 : Nat), vB 0, vI 0, vI 0, .slice none 0 0] 28, .blk g4 #[vB 0, vB 0, vI 0, vI 0, .slice none 0 0] 28] hl1 rfl (by omega) hr1 hc1 (by omega) HM) ?_
 rintro _ w37 ⟨rfl, Aq2, cq2, hr2, hc2, hm⟩
 refine ⟨_, rfl, ?_⟩
 replace HM := hm
 clear HF; intro a HF
 have ht1 := qdx 281474976710656 (qc l)
 have hs1 := qcz (qc l)
 refine fp HF 1 5 [(38, vP g8 1)] fun a HF => ?_
 refine fo HF 6 rfl rfl ?_
 refine zy HF HM (i := 2) (cs := #[vB (1 : Nat), vB 0, vI 0, vI 0, .slice none 0 0]) rfl rfl rfl rfl (by kernel_rfl) rfl rfl (by simp) ?_
 clear HM; intro w7_6 HM
 refine fp HF 1 7 [(39, vP g8 2)] fun a HF => ?_
 refine fo HF 8 rfl rfl ?_
 refine zy HF HM (i := 2) (cs := #[vB (1 : Nat), vB (tkVal 63 l), vI 0, vI 0, .slice none 0 0]) rfl rfl rfl rfl (by kernel_rfl) rfl rfl (by simp) ?_
 clear HM; intro w7_8 HM
 refine qb rfl (wp_seq (qa ?_))
 refine fp HF 1 0 [(40, .func (.func 64) #[] #[vP g3 0, vP g6 0])] fun a HF => ?_
 refine fo HF 1 rfl rfl ?_
 replace HM := HM.picks (fs' := [.blk g3 #[.slice Aq2 ((qc (qc l)).length) cq2] 33, .blk g6 #[.bool ((true && tkOk 63 l) && tkOk 281474976710656 (qc l))] 4, .blk g8 #[vB (1 : Nat), vB (tkVal 63 l), vI (tkVal 281474976710656 (qc l)), vI 0, .slice none 0 0] 28, .blk g4 #[vB 0, vB 0, vI 0, vI 0, .slice none 0 0] 28]) [0, 1, 2, 3] (by decide) rfl
 have hl3 := zz hl2
 refine qed HF (f := 64) (vs := [vI 4096]) (fst := []) (caps := [vP g3 0, vP g6 0]) rfl rfl rfl (by kernel_rfl) rfl (by decide) (qdf w _ g3 g6 Aq2 ((qc (qc l)).length) cq2 (qc (qc l)) ((true && tkOk 63 l) && tkOk 281474976710656 (qc l)) 4096 [.blk g8 #[vB (1 : Nat), vB (tkVal 63 l), vI (tkVal 281474976710656 (qc l)), vI 0, .slice none 0 0] 28, .blk g4 #[vB 0, vB 0, vI 0, vI 0, .slice none 0 0] 28] hl2 rfl (by omega) hr2 hc2 (by omega) HM) ?_
 rintro _ w41 ⟨rfl, Aq3, cq3, hr3, hc3, hm⟩
 refine ⟨_, rfl, ?_⟩
 replace HM := hm
 clear HF; intro a HF
 have ht2 := qdx 4096 (qc (qc l))
 have hs2 := qcz (qc (qc l))
 refine fp HF 1 2 [(9, vI (tkVal 4096 (qc (qc l))))] fun a HF => ?_
 refine qb rfl (wp_seq (wp_seq (qa ?_)))
 refine fy HF HM 0 rfl rfl rfl (Yl.qh rfl rfl (by kernel_rfl) (fun _ h => h.cell (i := 1) rfl rfl)) fun a HF => ?_
 refine fp HF 1 1 [(43, .bool (((true && tkOk 63 l) && tkOk 281474976710656 (qc l)) && tkOk 4096 (qc (qc l))))] fun a HF => ?_
 rcases HF.tf 43 rfl with ⟨hb43, HF⟩ | ⟨hb43, HF⟩
 ·
  have h3 : qc3 l = true := by rw [← tk3]; exact hb43
  refine fp HF 3 2 [(46, .bool (decide ((tkVal 4096 (qc (qc l)) : Int) > (0 : Int))))] fun a HF => ?_
  refine qb rfl ?_
  rcases HF.tf 46 rfl with ⟨hb46, HF⟩ | ⟨hb46, HF⟩
  ·
   have hd46 := of_decide_eq_true hb46
   refine qf HF rfl (wp_seq (qa ?_))
   refine fp HF 1 0 [(47, .func (.func 64) #[] #[vP g3 0, vP g6 0])] fun a HF => ?_
   refine fo HF 1 rfl rfl ?_
   replace HM := HM.picks (fs' := [.blk g3 #[.slice Aq3 ((qc (qc (qc l))).length) cq3] 33, .blk g6 #[.bool (((true && tkOk 63 l) && tkOk 281474976710656 (qc l)) && tkOk 4096 (qc (qc l)))] 4, .blk g8 #[vB (1 : Nat), vB (tkVal 63 l), vI (tkVal 281474976710656 (qc l)), vI 0, .slice none 0 0] 28, .blk g4 #[vB 0, vB 0, vI 0, vI 0, .slice none 0 0] 28]) [0, 1, 2, 3] (by decide) rfl
   have hl4 := zz hl3
   refine qed HF (f := 64) (vs := [vI 281474976710656]) (fst := []) (caps := [vP g3 0, vP g6 0]) rfl rfl rfl (by kernel_rfl) rfl (by decide) (qdf w _ g3 g6 Aq3 ((qc (qc (qc l))).length) cq3 (qc (qc (qc l))) (((true && tkOk 63 l) && tkOk 281474976710656 (qc l)) && tkOk 4096 (qc (qc l))) 281474976710656 [.blk g8 #[vB (1 : Nat), vB (tkVal 63 l), vI (tkVal 281474976710656 (qc l)), vI 0, .slice none 0 0] 28, .blk g4 #[vB 0, vB 0, vI 0, vI 0, .slice none 0 0] 28] hl3 rfl (by omega) hr3 hc3 (by omega) HM) ?_
   rintro _ w48 ⟨rfl, Aq4, cq4, hr4, hc4, hm⟩
   refine ⟨_, rfl, ?_⟩
   replace HM := hm
   clear HF; intro a HF
   have ht3 := qdx 281474976710656 (qc (qc (qc l)))
   have hs3 := qcz (qc (qc (qc l)))
   refine fp HF 1 2 [(49, .func (.func 64) #[] #[vP g3 0, vP g6 0])] fun a HF => ?_
   refine fo HF 3 rfl rfl ?_
   replace HM := HM.picks (fs' := [.blk g3 #[.slice Aq4 ((qc (qc (qc (qc l)))).length) cq4] 33, .blk g6 #[.bool ((((true && tkOk 63 l) && tkOk 281474976710656 (qc l)) && tkOk 4096 (qc (qc l))) && tkOk 281474976710656 (qc (qc (qc l))))] 4, .blk g8 #[vB (1 : Nat), vB (tkVal 63 l), vI (tkVal 281474976710656 (qc l)), vI 0, .slice none 0 0] 28, .blk g4 #[vB 0, vB 0, vI 0, vI 0, .slice none 0 0] 28]) [0, 1, 2, 3] (by decide) rfl
   have hl5 := zz hl4
   refine qed HF (f := 64) (vs := [vI 281474976710656]) (fst := []) (caps := [vP g3 0, vP g6 0]) rfl rfl rfl (by kernel_rfl) rfl (by decide) (qdf w _ g3 g6 Aq4 ((qc (qc (qc (qc l)))).length) cq4 (qc (qc (qc (qc l)))) ((((true && tkOk 63 l) && tkOk 281474976710656 (qc l)) && tkOk 4096 (qc (qc l))) && tkOk 281474976710656 (qc (qc (qc l)))) 281474976710656 [.blk g8 #[vB (1 : Nat), vB (tkVal 63 l), vI (tkVal 281474976710656 (qc l)), vI 0, .slice none 0 0] 28, .blk g4 #[vB 0, vB 0, vI 0, vI 0, .slice none 0 0] 28] hl4 rfl (by omega) hr4 hc4 (by omega) HM) ?_
   rintro _ w50 ⟨rfl, Aq5, cq5, hr5, hc5, hm⟩
   refine ⟨_, rfl, ?_⟩
   replace HM := hm
   clear HF; intro a HF
   have ht4 := qdx 281474976710656 (qc (qc (qc (qc l))))
   have hs4 := qcz (qc (qc (qc (qc l))))
   refine fy HF HM 4 rfl rfl rfl (v := .agg #[vI (tkVal 281474976710656 (qc (qc (qc l)))), vI (tkVal 281474976710656 (qc (qc (qc (qc l)))))]) (Yl.build (vs := [(0, vI (tkVal 281474976710656 (qc (qc (qc l))))), (1, vI (tkVal 281474976710656 (qc (qc (qc (qc l))))))]) rfl (by kernel_rfl) (by kernel_rfl)) fun a HF => ?_
   refine fo HF 5 rfl rfl ?_
   refine qz HF HM (cs := #[vI 0, vI 0]) rfl (by kernel_rfl) rfl (by decide) ?_
   clear HF HM; intro a w10 g10 HF HM
   refine fo HF 6 rfl rfl ?_
   refine e_sa HF HM 0 rfl rfl rfl rfl rfl ⟨(by kernel_rfl), (by kernel_rfl)⟩ rfl rfl (by simp [Value.oneCell']) ?_
   clear HM; intro w10_6 HM
   refine qb rfl ?_
   obtain ⟨es, L, er, hq⟩ : ∃ es L er, readR ⟨(tkVal 281474976710656 (qc (qc (qc l))) : Int), (tkVal 281474976710656 (qc (qc (qc (qc l)))) : Int)⟩ (tkVal 63 l) (tkVal 4096 (qc (qc l)) : Int) (qc (qc (qc (qc (qc l))))) = (es, L, er) := ⟨_, _, _, rfl⟩
   refine wp_seq (qa ?_)
   refine fy HF HM 0 rfl rfl rfl (v := .agg #[vI (tkVal 281474976710656 (qc (qc (qc l)))), vI (tkVal 281474976710656 (qc (qc (qc (qc l)))))]) (Yl.qx rfl rfl ⟨(by kernel_rfl), (by kernel_rfl)⟩ rfl (fun _ h => qd (h.blk (i := 0) rfl))) fun a HF => ?_
   refine fp HF 1 1 [(54, vP g8 1)] fun a HF => ?_
   refine fy HF HM 2 rfl rfl rfl (Yl.qh rfl rfl (by kernel_rfl) (fun _ h => h.cell (i := 3) rfl rfl)) fun a HF => ?_
   refine fp HF 1 3 [(56, vI (tkVal 4096 (qc (qc l))))] fun a HF => ?_
   refine fy HF HM 4 rfl rfl rfl (Yl.qh rfl rfl (by kernel_rfl) (fun _ h => h.cell (i := 1) rfl rfl)) fun a HF => ?_
   refine fo HF 5 rfl rfl ?_
   refine e_cl HF [.agg #[vI (tkVal 281474976710656 (qc (qc (qc l)))), vI (tkVal 281474976710656 (qc (qc (qc (qc l)))))], vB (tkVal 63 l), vI (tkVal 4096 (qc (qc l))), .slice Aq5 ((qc (qc (qc (qc (qc l))))).length) cq5] rfl rfl (qw6 ⟨(tkVal 281474976710656 (qc (qc (qc l))) : Int), (tkVal 281474976710656 (qc (qc (qc (qc l)))) : Int)⟩ (tkVal 63 l) (by omega) Aq5 ((qc (qc (qc (qc (qc l))))).length) cq5 (tkVal 4096 (qc (qc l)) : Int) (by unfold I64; omega) (qc (qc (qc (qc (qc l))))) B _ (hL.mem HM hB).laid (HM.le hB) (HM.old hr5) hc5 hl5 (by omega) (.inl (by omega)) hq) ?_
   rintro _ w58 ⟨⟨A58, c58, rfl, ho, hc58⟩, hbw⟩
   refine ⟨_, rfl, ?_⟩
   replace HM := HM.callRow hbw ho
   clear HF; intro a HF
   refine fp HF 7 6 [(13, vI er), (12, vI L), (11, .slice A58 es.length c58)] fun a HF => ?_
   refine qb rfl (wp_seq ?_)
   refine qam (fun aS wS => Fr aS 99 [] [(81, .bool (!(decide (er = 0 ∧ (es.getD 0 Ev.zero).seq = (tkVal 281474976710656 (qc (qc (qc l))) : Int) ∧ (es.getD 0 Ev.zero).time = (tkVal 281474976710656 (qc (qc (qc (qc l)))) : Int))))), (12, vI L), (11, .slice A58 es.length c58), (10, vP g10 0), (46, .bool true), (9, vI (tkVal 4096 (qc (qc l)))), (18, .bool false), (8, vP g8 0), (7, .func (.func 64) #[] #[vP g3 0, vP g6 0]), (6, vP g6 0), (5, .bool false), (4, vP g4 0), (3, vP g3 0), (0, vB (1 : Nat))] ∧ Mem w wS [.row (.slice A58 es.length c58) es.length (es.flatMap evL) 24 11, .blk g10 #[vI (tkVal 281474976710656 (qc (qc (qc l)))), vI (tkVal 281474976710656 (qc (qc (qc (qc l)))))] 76, .blk g3 #[.slice Aq5 ((qc (qc (qc (qc (qc l))))).length) cq5] 33, .blk g6 #[.bool (((((true && tkOk 63 l) && tkOk 281474976710656 (qc l)) && tkOk 4096 (qc (qc l))) && tkOk 281474976710656 (qc (qc (qc l)))) && tkOk 281474976710656 (qc (qc (qc (qc l)))))] 4, .blk g8 #[vB (1 : Nat), vB (tkVal 63 l), vI (tkVal 281474976710656 (qc l)), vI 0, .slice none 0 0] 28, .blk g4 #[vB 0, vB 0, vI 0, vI 0, .slice none 0 0] 28]) ?_ ?_
   ·
    refine zw HM [.row (.slice A58 es.length c58) es.length (es.flatMap evL) 24 11, .blk g10 #[vI (tkVal 281474976710656 (qc (qc (qc l)))), vI (tkVal 281474976710656 (qc (qc (qc (qc l)))))] 76, .blk g3 #[.slice Aq5 ((qc (qc (qc (qc (qc l))))).length) cq5] 33, .blk g6 #[.bool (((((true && tkOk 63 l) && tkOk 281474976710656 (qc l)) && tkOk 4096 (qc (qc l))) && tkOk 281474976710656 (qc (qc (qc l)))) && tkOk 281474976710656 (qc (qc (qc (qc l)))))] 4, .blk g8 #[vB (1 : Nat), vB (tkVal 63 l), vI (tkVal 281474976710656 (qc l)), vI 0, .slice none 0 0] 28, .blk g4 #[vB 0, vB 0, vI 0, vI 0, .slice none 0 0] 28] [0, 1, 2, 3, 4, 5] [] fun HM HS => ?_
    refine ap HF (fun _ => HS) [0, 1, 2] #[true, true, true, false, false, false, false, false, false, false, false, false, false, false, false, false, false, false, false, false] [(64, .bool ((er : Int) != (0 : Int)))] fun a HF => ?_
    rcases HF.tf 64 rfl with ⟨hb64, HF⟩ | ⟨hb64, HF⟩
    ·
     have hd64 := bne_iff_ne.1 hb64
     refine ap HF (fun _ => HS) [3, 4, 5, 6, 7, 8, 9, 10, 11, 12, 13, 14, 15, 16, 17, 18, 19] #[true, true, true, true, true, true, true, true, true, true, true, true, true, true, true, true, true, true, true, true] [(81, .bool true)] fun a HF => ?_
     refine qm (by kernel_rfl) ?_
     have HF := HF.as (t := 81) (u := .bool (!(decide (er = 0 ∧ (es.getD 0 Ev.zero).seq = (tkVal 281474976710656 (qc (qc (qc l))) : Int) ∧ (es.getD 0 Ev.zero).time = (tkVal 281474976710656 (qc (qc (qc (qc l)))) : Int))))) rfl (congrArg Value.bool (by rw [decide_eq_false (by omega)]; rfl))
     exact ⟨HF.sub (by kernel_rfl), HM.picks [0, 1, 2, 3, 4, 5] (by decide) rfl⟩
    have hd64 := bne_eq_false_iff_eq.1 hb64
    have her : er = 0 := by omega
    have hq0 := hq; rw [her] at hq0; obtain ⟨rw1, rw2, rw3, rw4, rw5⟩ := qeq (cpu := tkVal 63 l) (by omega) hl5 hq0
    refine ap HF (fun _ => HS) [3, 7] #[true, true, true, true, false, false, false, true, false, false, false, false, false, false, false, false, false, false, false, false] [(69, vP g10 0), (65, .slice A58 es.length c58)] fun a HF => ?_
    obtain ⟨gA58, rfl⟩ := qa7 (HM.own (i := 0) rfl) (Nat.lt_of_le_of_lt (Nat.zero_le _) (show 0 < es.length from by omega))
    refine ay HF HS 4 rfl rfl rfl (v := vP gA58 0) (Yl.indexAddr (ad := ⟨gA58, 0, none⟩) (y := 0) (sz := 11) rfl rfl rfl (by omega) (by kernel_rfl)) fun a HF => ?_
    refine ap HF (fun _ => HS) [5] #[true, true, true, true, true, true, false, true, false, false, false, false, false, false, false, false, false, false, false, false] [(67, vP gA58 0)] fun a HF => ?_
    refine ay HF HS 6 rfl rfl rfl (v := vI ((es.getD 0 Ev.zero).seq)) (Yl.qh rfl rfl (by kernel_rfl) (fun _ h => (by have := h.qt3 zf (i := 0) rfl (k := 0) (off := 0) (x := (es.getD 0 Ev.zero)) ((getD_at Ev.zero (k := 0) (by first | omega | (simp; omega)))) rfl; simpa using this))) fun a HF => ?_
    refine ay HF HS 8 rfl rfl rfl (Yl.qh rfl rfl (by kernel_rfl) (fun _ h => h.cell (i := 1) rfl rfl)) fun a HF => ?_
    refine ap HF (fun _ => HS) [9, 10, 11] #[true, true, true, true, true, true, true, true, true, true, true, true, false, false, false, false, false, false, false, false] [(73, .bool (((es.getD 0 Ev.zero).seq : Int) != (tkVal 281474976710656 (qc (qc (qc l))) : Int)))] fun a HF => ?_
    rcases HF.tf 73 rfl with ⟨hb73, HF⟩ | ⟨hb73, HF⟩
    ·
     have hd73 := bne_iff_ne.1 hb73
     refine ap HF (fun _ => HS) [12, 13, 14, 15, 16, 17, 18, 19] #[true, true, true, true, true, true, true, true, true, true, true, true, true, true, true, true, true, true, true, true] [(81, .bool true)] fun a HF => ?_
     refine qm (by kernel_rfl) ?_
     replace HF := HF.to [(81, .bool true), (12, vI L), (11, vS gA58 es.length c58), (10, vP g10 0), (46, .bool true), (9, vI (tkVal 4096 (qc (qc l)))), (18, .bool false), (8, vP g8 0), (7, .func (.func 64) #[] #[vP g3 0, vP g6 0]), (6, vP g6 0), (5, .bool false), (4, vP g4 0), (3, vP g3 0), (0, vB (1 : Nat))]
     have HF := HF.as (t := 81) (u := .bool (!(decide (er = 0 ∧ (es.getD 0 Ev.zero).seq = (tkVal 281474976710656 (qc (qc (qc l))) : Int) ∧ (es.getD 0 Ev.zero).time = (tkVal 281474976710656 (qc (qc (qc (qc l)))) : Int))))) rfl (congrArg Value.bool (by rw [decide_eq_false (by omega)]; rfl))
     exact ⟨HF.sub (by kernel_rfl), HM.picks [0, 1, 2, 3, 4, 5] (by decide) rfl⟩
    have hd73 := bne_eq_false_iff_eq.1 hb73
    refine ap HF (fun _ => HS) [12, 16] #[true, true, true, true, true, true, true, true, true, true, true, true, true, false, false, false, true, false, false, false] [(78, vP g10 1), (74, vS gA58 es.length c58)] fun a HF => ?_
    refine ay HF HS 13 rfl rfl rfl (v := vP gA58 0) (Yl.indexAddr (ad := ⟨gA58, 0, none⟩) (y := 0) (sz := 11) rfl rfl rfl (by omega) (by kernel_rfl)) fun a HF => ?_
    refine ap HF (fun _ => HS) [14] #[true, true, true, true, true, true, true, true, true, true, true, true, true, true, true, false, true, false, false, false] [(76, vP gA58 1)] fun a HF => ?_
    refine ay HF HS 15 rfl rfl rfl (v := vI ((es.getD 0 Ev.zero).time)) (Yl.qh rfl rfl (by kernel_rfl) (fun _ h => h.qt3 zf (i := 0) rfl (k := 0) (off := 1) (x := (es.getD 0 Ev.zero)) ((getD_at Ev.zero (k := 0) (by first | omega | (simp; omega)))) rfl)) fun a HF => ?_
    refine ay HF HS 17 rfl rfl rfl (Yl.qh rfl rfl (by kernel_rfl) (fun _ h => h.cell (i := 1) rfl rfl)) fun a HF => ?_
    refine ap HF (fun _ => HS) [18, 19] #[true, true, true, true, true, true, true, true, true, true, true, true, true, true, true, true, true, true, true, true] [(81, .bool (((es.getD 0 Ev.zero).time : Int) != (tkVal 281474976710656 (qc (qc (qc (qc l)))) : Int)))] fun a HF => ?_
    refine qm (by kernel_rfl) ?_
    replace HF := HF.to [(81, .bool (((es.getD 0 Ev.zero).time : Int) != (tkVal 281474976710656 (qc (qc (qc (qc l)))) : Int))), (12, vI L), (11, vS gA58 es.length c58), (10, vP g10 0), (46, .bool true), (9, vI (tkVal 4096 (qc (qc l)))), (18, .bool false), (8, vP g8 0), (7, .func (.func 64) #[] #[vP g3 0, vP g6 0]), (6, vP g6 0), (5, .bool false), (4, vP g4 0), (3, vP g3 0), (0, vB (1 : Nat))]
    have HF := HF.as (t := 81) (u := .bool (!(decide (er = 0 ∧ (es.getD 0 Ev.zero).seq = (tkVal 281474976710656 (qc (qc (qc l))) : Int) ∧ (es.getD 0 Ev.zero).time = (tkVal 281474976710656 (qc (qc (qc (qc l)))) : Int))))) rfl (congrArg Value.bool (by rw [Bool.eq_iff_iff, bne_iff_ne, Bool.not_eq_true', decide_eq_false_iff_not]; omega))
    exact ⟨HF.sub (by kernel_rfl), HM.picks [0, 1, 2, 3, 4, 5] (by decide) rfl⟩
   clear HF HM; rintro a w12 ⟨HF, HM⟩
   rcases HF.tf 81 rfl with ⟨hb81, HF⟩ | ⟨hb81, HF⟩
   ·
    have hz : ¬ (er = 0 ∧ (es.getD 0 Ev.zero).seq = (tkVal 281474976710656 (qc (qc (qc l))) : Int) ∧ (es.getD 0 Ev.zero).time = (tkVal 281474976710656 (qc (qc (qc (qc l)))) : Int)) := fun hh => by rw [decide_eq_true hh] at hb81; cases hb81
    refine qf HF rfl (wp_seq (qa ?_))
    refine fy HF HM 0 rfl rfl rfl (v := .agg #[vB 0, vB 0, vI 0, vI 0, .slice none 0 0]) (Yl.build (vs := []) rfl (by kernel_rfl) (by kernel_rfl)) fun a HF => ?_
    refine fo HF 1 rfl rfl ?_
    refine e_sa HF HM 5 rfl rfl rfl rfl rfl si_bk rfl rfl (by simp [Value.oneCell']) ?_
    clear HM; intro w13_1 HM
    refine fp HF 1 2 [(5, .bool false)] fun a HF => ?_
    refine qb rfl (wp_ret ?_)
    exact ret2 rfl HF (.cellS (i := 5) HF HM rfl rfl si_bk rfl) (.tmp HF rfl) (qce (by rw [qbz, qf2 h3 (by omega) hq]; exact qe4 (fun hh => hz ⟨hh.1, hh.2.1, hh.2.2.1⟩)) rfl (by simp [Value.oneCell']) HM.below)
   have hz : er = 0 ∧ (es.getD 0 Ev.zero).seq = (tkVal 281474976710656 (qc (qc (qc l))) : Int) ∧ (es.getD 0 Ev.zero).time = (tkVal 281474976710656 (qc (qc (qc (qc l)))) : Int) := Decidable.byContradiction fun hh => by rw [decide_eq_false hh] at hb81; cases hb81
   have her := hz.1
   have hq0 := hq; rw [her] at hq0; obtain ⟨rw1, rw2, rw3, rw4, rw5⟩ := qeq (cpu := tkVal 63 l) (by omega) hl5 hq0
   refine qe HF rfl (wp_skip ?_)
   refine zw HM [.row (.slice A58 es.length c58) es.length (es.flatMap evL) 24 11, .blk g10 #[vI (tkVal 281474976710656 (qc (qc (qc l)))), vI (tkVal 281474976710656 (qc (qc (qc (qc l)))))] 76, .blk g3 #[.slice Aq5 ((qc (qc (qc (qc (qc l))))).length) cq5] 33, .blk g6 #[.bool (((((true && tkOk 63 l) && tkOk 281474976710656 (qc l)) && tkOk 4096 (qc (qc l))) && tkOk 281474976710656 (qc (qc (qc l)))) && tkOk 281474976710656 (qc (qc (qc (qc l)))))] 4, .blk g4 #[vB 0, vB 0, vI 0, vI 0, .slice none 0 0] 28] [0, 1, 2, 3, 5] [6] fun HM HS => ?_
   refine ap HF (fun _ => HS) [0, 2, 4] #[true, false, true, false, true, false, false] [(87, vP g8 4), (85, vI L), (83, .slice A58 es.length c58)] fun a HF => ?_
   refine ay HF HS 1 rfl rfl rfl (Yl.qh rfl rfl (by kernel_rfl) (fun _ h => h.cell (i := 2) rfl rfl)) fun a HF => ?_
   refine ay HF HS 3 rfl rfl rfl (v := .slice (if cq5 = L then Aq5 else Aq5.map (·.add (L * 1))) (((qc (qc (qc (qc (qc l))))).length) - L) (cq5 - L)) (Yl.sliceFrom ei_u8 (j := L) rfl rfl rfl (by omega)) fun a HF => ?_
   refine qi [5] (by kernel_rfl) rfl ?_
   refine all_cons ?_ all_nil
   refine qj HF (i := 5) rfl rfl ?_
   refine zy HF HM (i := 4) (cs := #[vB (1 : Nat), vB (tkVal 63 l), vI (tkVal 281474976710656 (qc l)), vI 0, .slice none 0 0]) rfl rfl rfl rfl (by kernel_rfl) rfl rfl (by simp) ?_
   clear HM; intro w14_5 HM
   refine keepS (HM.picks [0, 1, 2, 3, 5] (by decide) rfl) (fun HS => ?_)
   refine qi [6] (by kernel_rfl) rfl ?_
   refine all_cons ?_ all_nil
   refine qj HF (i := 6) rfl rfl ?_
   refine zy HF HM (i := 2) (cs := #[.slice Aq5 ((qc (qc (qc (qc (qc l))))).length) cq5]) rfl rfl rfl rfl (by kernel_rfl) rfl rfl (by simp) ?_
   clear HM; intro w14_6 HM
   refine noS (by kernel_rfl) ?_
   refine qm (by kernel_rfl) ?_
   refine qam (fun aS wS => Fr aS 99 [] [(5, .bool ((zq l).isSome)), (81, .bool false), (11, .slice A58 es.length c58), (10, vP g10 0), (46, .bool true), (9, vI (tkVal 4096 (qc (qc l)))), (18, .bool false), (8, vP g8 0), (7, .func (.func 64) #[] #[vP g3 0, vP g6 0]), (6, vP g6 0), (4, vP g4 0), (3, vP g3 0), (0, vB (1 : Nat))] ∧ Mem w wS [.row (.slice A58 es.length c58) es.length (es.flatMap evL) 24 11, .blk g10 #[vI (tkVal 281474976710656 (qc (qc (qc l)))), vI (tkVal 281474976710656 (qc (qc (qc (qc l)))))] 76, .blk g3 #[.slice (if cq5 = L then Aq5 else Aq5.map (·.add (L * 1))) (((qc (qc (qc (qc (qc l))))).length) - L) (cq5 - L)] 33, .blk g6 #[.bool (((((true && tkOk 63 l) && tkOk 281474976710656 (qc l)) && tkOk 4096 (qc (qc l))) && tkOk 281474976710656 (qc (qc (qc l)))) && tkOk 281474976710656 (qc (qc (qc (qc l)))))] 4, .blk g8 #[vB (1 : Nat), vB (tkVal 63 l), vI (tkVal 281474976710656 (qc l)), vI 0, .slice A58 es.length c58] 28, .blk g4 #[vB (1 : Nat), vB (tkVal 63 l), vI (tkVal 281474976710656 (qc l)), vI 0, .slice A58 es.length c58] 28]) ?_ ?_
   ·
    refine zw HM [.row (.slice A58 es.length c58) es.length (es.flatMap evL) 24 11, .blk g10 #[vI (tkVal 281474976710656 (qc (qc (qc l)))), vI (tkVal 281474976710656 (qc (qc (qc (qc l)))))] 76, .blk g3 #[.slice (if cq5 = L then Aq5 else Aq5.map (·.add (L * 1))) (((qc (qc (qc (qc (qc l))))).length) - L) (cq5 - L)] 33, .blk g6 #[.bool (((((true && tkOk 63 l) && tkOk 281474976710656 (qc l)) && tkOk 4096 (qc (qc l))) && tkOk 281474976710656 (qc (qc (qc l)))) && tkOk 281474976710656 (qc (qc (qc (qc l)))))] 4, .blk g8 #[vB (1 : Nat), vB (tkVal 63 l), vI (tkVal 281474976710656 (qc l)), vI 0, .slice A58 es.length c58] 28] [0, 1, 2, 3, 4] [] fun HM HS => ?_
    refine ay HF HS 0 rfl rfl rfl (v := .agg #[vB (1 : Nat), vB (tkVal 63 l), vI (tkVal 281474976710656 (qc l)), vI 0, .slice A58 es.length c58]) (Yl.qx rfl rfl si_bk rfl (fun _ h => qd (h.blk (i := 4) rfl))) fun a HF => ?_
    refine ay HF HS 1 rfl rfl rfl (Yl.qh rfl rfl (by kernel_rfl) (fun _ h => h.cell (i := 3) rfl rfl)) fun a HF => ?_
    refine ap HF (fun _ => HS) [2] #[true, true, true, false, false, false, false, false, false, false, false, false, false] [(90, .bool (((((true && tkOk 63 l) && tkOk 281474976710656 (qc l)) && tkOk 4096 (qc (qc l))) && tkOk 281474976710656 (qc (qc (qc l)))) && tkOk 281474976710656 (qc (qc (qc (qc l))))))] fun a HF => ?_
    rcases HF.tf 90 rfl with ⟨hb90, HF⟩ | ⟨hb90, HF⟩
    ·
     refine ay HF HS 3 rfl rfl rfl (Yl.qh rfl rfl (by kernel_rfl) (fun _ h => h.cell (i := 2) rfl rfl)) fun a HF => ?_
     refine ay HF HS 4 rfl rfl rfl (Yl.len rfl rfl (by kernel_rfl)) fun a HF => ?_
     refine ap HF (fun _ => HS) [5, 6, 7] #[true, true, true, true, true, true, true, true, false, false, false, false, false] [(95, .bool (((((qc (qc (qc (qc (qc l))))).length) - L : Nat) : Int) == (0 : Int)))] fun a HF => ?_
     rcases HF.tf 95 rfl with ⟨hb95, HF⟩ | ⟨hb95, HF⟩
     ·
      have hd95 := eq_of_beq hb95
      refine ay HF HS 8 rfl rfl rfl (v := .agg #[vB (1 : Nat), vB (tkVal 63 l), vI (tkVal 281474976710656 (qc l)), vI 0, .slice A58 es.length c58]) (Yl.qx rfl rfl si_bk rfl (fun _ h => qd (h.blk (i := 4) rfl))) fun a HF => ?_
      refine qi [9] (by kernel_rfl) rfl ?_
      refine all_cons ?_ all_nil
      refine qj HF (i := 9) rfl rfl ?_
      refine e_is HF HM [.agg #[vB (1 : Nat), vB (tkVal 63 l), vI (tkVal 281474976710656 (qc l)), vI 0, .slice A58 es.length c58]] (.bool (Bk.fits ⟨1, tkVal 63 l, (tkVal 281474976710656 (qc l) : Int), 0, es⟩)) rfl rfl (qer ⟨1, tkVal 63 l, (tkVal 281474976710656 (qc l) : Int), 0, es⟩ (evsOk (by omega) (by omega) (fun e he => (rw5 e he).1)) A58 c58 B _ (hL.mem HM hB) (HM.le hB) (HM.rd (i := 0) rfl) (by show es.length ≤ _; omega)) fun w97 hbw HM a HF => ?_
      refine keepS (HM.picks [0, 1, 2, 3, 4] (by decide) rfl) (fun HS => ?_)
      refine ap HF (fun _ => HS) [10] #[true, true, true, true, true, true, true, true, true, true, true, false, false] [(98, .bool (Bk.fits ⟨1, tkVal 63 l, (tkVal 281474976710656 (qc l) : Int), 0, es⟩))] fun a HF => ?_
      refine qi [11] (by kernel_rfl) rfl ?_
      refine all_cons ?_ all_nil
      refine qj HF (i := 11) rfl rfl ?_
      refine e_sa HF HM 5 rfl rfl rfl rfl rfl si_bk rfl rfl (by simp [Value.oneCell']) ?_
      clear HM; intro w15_11 HM
      refine keepS (HM.picks [0, 1, 2, 3, 4] (by decide) rfl) (fun HS => ?_)
      refine ap HF (fun _ => HS) [12] #[true, true, true, true, true, true, true, true, true, true, true, true, true] [(5, .bool (Bk.fits ⟨1, tkVal 63 l, (tkVal 281474976710656 (qc l) : Int), 0, es⟩))] fun a HF => ?_
      refine qm (by kernel_rfl) ?_
      have HF := HF.as (t := 5) (u := .bool ((zq l).isSome)) rfl (congrArg Value.bool (by rw [qke h3 (by omega) hq her, qm8 ⟨hz.2.1, hz.2.2⟩, show (tkOk 281474976710656 (qc (qc (qc l))) && tkOk 281474976710656 (qc (qc (qc (qc l))))) = true by have h9 := hb90; rw [tk5 (l := l), tk3, h3, Bool.true_and] at h9; exact h9, decide_eq_true (by omega), Bool.true_and, Bool.true_and]))
      exact ⟨HF.sub (by kernel_rfl), HM.picks [0, 1, 2, 3, 4, 5] (by decide) rfl⟩
     have hd95 := ne_of_beq_false hb95
     refine ap HF (fun _ => HS) [8, 9, 10] #[true, true, true, true, true, true, true, true, true, true, true, false, false] [(98, .bool false)] fun a HF => ?_
     refine qi [11] (by kernel_rfl) rfl ?_
     refine all_cons ?_ all_nil
     refine qj HF (i := 11) rfl rfl ?_
     refine e_sa HF HM 5 rfl rfl rfl rfl rfl si_bk rfl rfl (by simp [Value.oneCell']) ?_
     clear HM; intro w15_11 HM
     refine keepS (HM.picks [0, 1, 2, 3, 4] (by decide) rfl) (fun HS => ?_)
     refine ap HF (fun _ => HS) [12] #[true, true, true, true, true, true, true, true, true, true, true, true, true] [(5, .bool false)] fun a HF => ?_
     refine qm (by kernel_rfl) ?_
     have HF := HF.as (t := 5) (u := .bool ((zq l).isSome)) rfl (congrArg Value.bool (by rw [qke h3 (by omega) hq her, qm8 ⟨hz.2.1, hz.2.2⟩, decide_eq_false (by omega), Bool.false_and, Bool.and_false]))
     exact ⟨HF.sub (by kernel_rfl), HM.picks [0, 1, 2, 3, 4, 5] (by decide) rfl⟩
    refine ap HF (fun _ => HS) [3, 4, 5, 6, 7, 8, 9, 10] #[true, true, true, true, true, true, true, true, true, true, true, false, false] [(98, .bool false)] fun a HF => ?_
    refine qi [11] (by kernel_rfl) rfl ?_
    refine all_cons ?_ all_nil
    refine qj HF (i := 11) rfl rfl ?_
    refine e_sa HF HM 5 rfl rfl rfl rfl rfl si_bk rfl rfl (by simp [Value.oneCell']) ?_
    clear HM; intro w15_11 HM
    refine keepS (HM.picks [0, 1, 2, 3, 4] (by decide) rfl) (fun HS => ?_)
    refine ap HF (fun _ => HS) [12] #[true, true, true, true, true, true, true, true, true, true, true, true, true] [(5, .bool false)] fun a HF => ?_
    refine qm (by kernel_rfl) ?_
    have HF := HF.as (t := 5) (u := .bool ((zq l).isSome)) rfl (congrArg Value.bool (by rw [qke h3 (by omega) hq her, qm8 ⟨hz.2.1, hz.2.2⟩, show (tkOk 281474976710656 (qc (qc (qc l))) && tkOk 281474976710656 (qc (qc (qc (qc l))))) = false by have h9 := hb90; rw [tk5 (l := l), tk3, h3, Bool.true_and] at h9; exact h9, Bool.false_and]))
    exact ⟨HF.sub (by kernel_rfl), HM.picks [0, 1, 2, 3, 4, 5] (by decide) rfl⟩
   clear HF HM; rintro a w15 ⟨HF, HM⟩
   refine wp_ret ?_
   rcases HF.tf 5 rfl with ⟨hb5, HF⟩ | ⟨hb5, HF⟩
   ·
    have hfin := hb5
    exact ret2 rfl HF (.cellS (i := 5) HF HM rfl rfl si_bk rfl) (.tmp HF rfl) (qc4 (b := ⟨1, tkVal 63 l, (tkVal 281474976710656 (qc l) : Int), 0, es⟩) (A := A58) (c := c58) (by rw [qbz]; rw [qke h3 (by omega) hq her] at hfin ⊢; exact qvd hfin) (HM.own (i := 0) rfl) hc58 HM.below)
   have hfin := hb5
   exact ret2 rfl HF (.cellS (i := 5) HF HM rfl rfl si_bk rfl) (.tmp HF rfl) (qce (by rw [qbz]; exact Option.not_isSome_iff_eq_none.1 (by rw [hfin]; decide)) rfl (by simp [Value.oneCell']) HM.below)
  have hd46 := of_decide_eq_false hb46
  refine qe HF rfl (wp_skip ?_)
  refine qam (fun aS wS => Fr aS 99 [] [(5, .bool ((zq l).isSome)), (46, .bool false), (9, vI (tkVal 4096 (qc (qc l)))), (18, .bool false), (8, vP g8 0), (7, .func (.func 64) #[] #[vP g3 0, vP g6 0]), (6, vP g6 0), (4, vP g4 0), (3, vP g3 0), (0, vB (1 : Nat))] ∧ Mem w wS [.blk g3 #[.slice Aq3 ((qc (qc (qc l))).length) cq3] 33, .blk g6 #[.bool (((true && tkOk 63 l) && tkOk 281474976710656 (qc l)) && tkOk 4096 (qc (qc l)))] 4, .blk g8 #[vB (1 : Nat), vB (tkVal 63 l), vI (tkVal 281474976710656 (qc l)), vI 0, .slice none 0 0] 28, .blk g4 #[vB (1 : Nat), vB (tkVal 63 l), vI (tkVal 281474976710656 (qc l)), vI 0, .slice none 0 0] 28]) ?_ ?_
  ·
   refine zw HM [.blk g3 #[.slice Aq3 ((qc (qc (qc l))).length) cq3] 33, .blk g6 #[.bool (((true && tkOk 63 l) && tkOk 281474976710656 (qc l)) && tkOk 4096 (qc (qc l)))] 4, .blk g8 #[vB (1 : Nat), vB (tkVal 63 l), vI (tkVal 281474976710656 (qc l)), vI 0, .slice none 0 0] 28] [0, 1, 2] [] fun HM HS => ?_
   refine ay HF HS 0 rfl rfl rfl (v := .agg #[vB (1 : Nat), vB (tkVal 63 l), vI (tkVal 281474976710656 (qc l)), vI 0, .slice none 0 0]) (Yl.qx rfl rfl si_bk rfl (fun _ h => qd (h.blk (i := 2) rfl))) fun a HF => ?_
   refine ay HF HS 1 rfl rfl rfl (Yl.qh rfl rfl (by kernel_rfl) (fun _ h => h.cell (i := 1) rfl rfl)) fun a HF => ?_
   refine ap HF (fun _ => HS) [2] #[true, true, true, false, false, false, false, false, false, false, false, false, false] [(90, .bool (((true && tkOk 63 l) && tkOk 281474976710656 (qc l)) && tkOk 4096 (qc (qc l))))] fun a HF => ?_
   rcases HF.tf 90 rfl with ⟨hb90, HF⟩ | ⟨hb90, HF⟩
   ·
    refine ay HF HS 3 rfl rfl rfl (Yl.qh rfl rfl (by kernel_rfl) (fun _ h => h.cell (i := 0) rfl rfl)) fun a HF => ?_
    refine ay HF HS 4 rfl rfl rfl (Yl.len rfl rfl (by kernel_rfl)) fun a HF => ?_
    refine ap HF (fun _ => HS) [5, 6, 7] #[true, true, true, true, true, true, true, true, false, false, false, false, false] [(95, .bool ((((qc (qc (qc l))).length : Nat) : Int) == (0 : Int)))] fun a HF => ?_
    rcases HF.tf 95 rfl with ⟨hb95, HF⟩ | ⟨hb95, HF⟩
    ·
     have hd95 := eq_of_beq hb95
     refine ay HF HS 8 rfl rfl rfl (v := .agg #[vB (1 : Nat), vB (tkVal 63 l), vI (tkVal 281474976710656 (qc l)), vI 0, .slice none 0 0]) (Yl.qx rfl rfl si_bk rfl (fun _ h => qd (h.blk (i := 2) rfl))) fun a HF => ?_
     refine qi [9] (by kernel_rfl) rfl ?_
     refine all_cons ?_ all_nil
     refine qj HF (i := 9) rfl rfl ?_
     refine e_is HF HM [.agg #[vB (1 : Nat), vB (tkVal 63 l), vI (tkVal 281474976710656 (qc l)), vI 0, .slice none 0 0]] (.bool (Bk.fits ⟨1, tkVal 63 l, (tkVal 281474976710656 (qc l) : Int), 0, []⟩)) rfl rfl (qer ⟨1, tkVal 63 l, (tkVal 281474976710656 (qc l) : Int), 0, []⟩ (evsOk (by omega) (by omega) (by simp)) none 0 B _ (hL.mem HM hB) (HM.le hB) Rd.nil (by show 0 ≤ _; omega)) fun w97 hbw HM a HF => ?_
     refine keepS (HM.picks [0, 1, 2] (by decide) rfl) (fun HS => ?_)
     refine ap HF (fun _ => HS) [10] #[true, true, true, true, true, true, true, true, true, true, true, false, false] [(98, .bool (Bk.fits ⟨1, tkVal 63 l, (tkVal 281474976710656 (qc l) : Int), 0, []⟩))] fun a HF => ?_
     refine qi [11] (by kernel_rfl) rfl ?_
     refine all_cons ?_ all_nil
     refine qj HF (i := 11) rfl rfl ?_
     refine e_sa HF HM 3 rfl rfl rfl rfl rfl si_bk rfl rfl (by simp [Value.oneCell']) ?_
     clear HM; intro w15_11 HM
     refine keepS (HM.picks [0, 1, 2] (by decide) rfl) (fun HS => ?_)
     refine ap HF (fun _ => HS) [12] #[true, true, true, true, true, true, true, true, true, true, true, true, true] [(5, .bool (Bk.fits ⟨1, tkVal 63 l, (tkVal 281474976710656 (qc l) : Int), 0, []⟩))] fun a HF => ?_
     refine qm (by kernel_rfl) ?_
     have HF := HF.as (t := 5) (u := .bool ((zq l).isSome)) rfl (congrArg Value.bool (by rw [qoe (l := l) (fun hh => by have h0 := hh.2; omega), h3, decide_eq_true (by omega), Bool.true_and, Bool.true_and]))
     exact ⟨HF.sub (by kernel_rfl), HM.picks [0, 1, 2, 3] (by decide) rfl⟩
    have hd95 := ne_of_beq_false hb95
    refine ap HF (fun _ => HS) [8, 9, 10] #[true, true, true, true, true, true, true, true, true, true, true, false, false] [(98, .bool false)] fun a HF => ?_
    refine qi [11] (by kernel_rfl) rfl ?_
    refine all_cons ?_ all_nil
    refine qj HF (i := 11) rfl rfl ?_
    refine e_sa HF HM 3 rfl rfl rfl rfl rfl si_bk rfl rfl (by simp [Value.oneCell']) ?_
    clear HM; intro w15_11 HM
    refine keepS (HM.picks [0, 1, 2] (by decide) rfl) (fun HS => ?_)
    refine ap HF (fun _ => HS) [12] #[true, true, true, true, true, true, true, true, true, true, true, true, true] [(5, .bool false)] fun a HF => ?_
    refine qm (by kernel_rfl) ?_
    have HF := HF.as (t := 5) (u := .bool ((zq l).isSome)) rfl (congrArg Value.bool (by rw [qoe (l := l) (fun hh => by have h0 := hh.2; omega), decide_eq_false (by omega), Bool.false_and, Bool.and_false]))
    exact ⟨HF.sub (by kernel_rfl), HM.picks [0, 1, 2, 3] (by decide) rfl⟩
   refine ap HF (fun _ => HS) [3, 4, 5, 6, 7, 8, 9, 10] #[true, true, true, true, true, true, true, true, true, true, true, false, false] [(98, .bool false)] fun a HF => ?_
   refine qi [11] (by kernel_rfl) rfl ?_
   refine all_cons ?_ all_nil
   refine qj HF (i := 11) rfl rfl ?_
   refine e_sa HF HM 3 rfl rfl rfl rfl rfl si_bk rfl rfl (by simp [Value.oneCell']) ?_
   clear HM; intro w15_11 HM
   refine keepS (HM.picks [0, 1, 2] (by decide) rfl) (fun HS => ?_)
   refine ap HF (fun _ => HS) [12] #[true, true, true, true, true, true, true, true, true, true, true, true, true] [(5, .bool false)] fun a HF => ?_
   refine qm (by kernel_rfl) ?_
   have HF := HF.as (t := 5) (u := .bool ((zq l).isSome)) rfl (congrArg Value.bool (by have h9 := hb90; rw [tk3] at h9; rw [qoe (l := l) (fun hh => by have h0 := hh.2; omega), h9, Bool.false_and]))
   exact ⟨HF.sub (by kernel_rfl), HM.picks [0, 1, 2, 3] (by decide) rfl⟩
  clear HF HM; rintro a w15 ⟨HF, HM⟩
  refine wp_ret ?_
  rcases HF.tf 5 rfl with ⟨hb5, HF⟩ | ⟨hb5, HF⟩
  ·
   have hfin := hb5
   exact ret2 rfl HF (.cellS (i := 3) HF HM rfl rfl si_bk rfl) (.tmp HF rfl) (qc4 (b := ⟨1, tkVal 63 l, (tkVal 281474976710656 (qc l) : Int), 0, []⟩) (A := none) (c := 0) (by rw [qbz]; exact qsm (fun hh => by have h0 := hh.2; omega) hfin) (World.ownsRow_nil _ _ _ _) (Nat.le_refl _) HM.below)
  have hfin := hb5
  exact ret2 rfl HF (.cellS (i := 3) HF HM rfl rfl si_bk rfl) (.tmp HF rfl) (qce (by rw [qbz]; exact Option.not_isSome_iff_eq_none.1 (by rw [hfin]; decide)) rfl (by simp [Value.oneCell']) HM.below)
 have h3 : qc3 l = false := by rw [← tk3]; exact hb43
 refine fp HF 3 2 [(46, .bool false)] fun a HF => ?_
 refine qb rfl (qe HF rfl (wp_skip ?_))
 refine qam (fun aS wS => Fr aS 99 [] [(5, .bool ((zq l).isSome)), (46, .bool false), (9, vI (tkVal 4096 (qc (qc l)))), (18, .bool false), (8, vP g8 0), (7, .func (.func 64) #[] #[vP g3 0, vP g6 0]), (6, vP g6 0), (4, vP g4 0), (3, vP g3 0), (0, vB (1 : Nat))] ∧ Mem w wS [.blk g3 #[.slice Aq3 ((qc (qc (qc l))).length) cq3] 33, .blk g6 #[.bool (((true && tkOk 63 l) && tkOk 281474976710656 (qc l)) && tkOk 4096 (qc (qc l)))] 4, .blk g8 #[vB (1 : Nat), vB (tkVal 63 l), vI (tkVal 281474976710656 (qc l)), vI 0, .slice none 0 0] 28, .blk g4 #[vB (1 : Nat), vB (tkVal 63 l), vI (tkVal 281474976710656 (qc l)), vI 0, .slice none 0 0] 28]) ?_ ?_
 ·
  refine zw HM [.blk g3 #[.slice Aq3 ((qc (qc (qc l))).length) cq3] 33, .blk g6 #[.bool (((true && tkOk 63 l) && tkOk 281474976710656 (qc l)) && tkOk 4096 (qc (qc l)))] 4, .blk g8 #[vB (1 : Nat), vB (tkVal 63 l), vI (tkVal 281474976710656 (qc l)), vI 0, .slice none 0 0] 28] [0, 1, 2] [] fun HM HS => ?_
  refine ay HF HS 0 rfl rfl rfl (v := .agg #[vB (1 : Nat), vB (tkVal 63 l), vI (tkVal 281474976710656 (qc l)), vI 0, .slice none 0 0]) (Yl.qx rfl rfl si_bk rfl (fun _ h => qd (h.blk (i := 2) rfl))) fun a HF => ?_
  refine ay HF HS 1 rfl rfl rfl (Yl.qh rfl rfl (by kernel_rfl) (fun _ h => h.cell (i := 1) rfl rfl)) fun a HF => ?_
  refine ap HF (fun _ => HS) [2] #[true, true, true, false, false, false, false, false, false, false, false, false, false] [(90, .bool (((true && tkOk 63 l) && tkOk 281474976710656 (qc l)) && tkOk 4096 (qc (qc l))))] fun a HF => ?_
  rcases HF.tf 90 rfl with ⟨hb90, HF⟩ | ⟨hb90, HF⟩
  ·
   refine ay HF HS 3 rfl rfl rfl (Yl.qh rfl rfl (by kernel_rfl) (fun _ h => h.cell (i := 0) rfl rfl)) fun a HF => ?_
   refine ay HF HS 4 rfl rfl rfl (Yl.len rfl rfl (by kernel_rfl)) fun a HF => ?_
   refine ap HF (fun _ => HS) [5, 6, 7] #[true, true, true, true, true, true, true, true, false, false, false, false, false] [(95, .bool ((((qc (qc (qc l))).length : Nat) : Int) == (0 : Int)))] fun a HF => ?_
   rcases HF.tf 95 rfl with ⟨hb95, HF⟩ | ⟨hb95, HF⟩
   ·
    have hd95 := eq_of_beq hb95
    refine ay HF HS 8 rfl rfl rfl (v := .agg #[vB (1 : Nat), vB (tkVal 63 l), vI (tkVal 281474976710656 (qc l)), vI 0, .slice none 0 0]) (Yl.qx rfl rfl si_bk rfl (fun _ h => qd (h.blk (i := 2) rfl))) fun a HF => ?_
    refine qi [9] (by kernel_rfl) rfl ?_
    refine all_cons ?_ all_nil
    refine qj HF (i := 9) rfl rfl ?_
    refine e_is HF HM [.agg #[vB (1 : Nat), vB (tkVal 63 l), vI (tkVal 281474976710656 (qc l)), vI 0, .slice none 0 0]] (.bool (Bk.fits ⟨1, tkVal 63 l, (tkVal 281474976710656 (qc l) : Int), 0, []⟩)) rfl rfl (qer ⟨1, tkVal 63 l, (tkVal 281474976710656 (qc l) : Int), 0, []⟩ (evsOk (by omega) (by omega) (by simp)) none 0 B _ (hL.mem HM hB) (HM.le hB) Rd.nil (by show 0 ≤ _; omega)) fun w97 hbw HM a HF => ?_
    refine keepS (HM.picks [0, 1, 2] (by decide) rfl) (fun HS => ?_)
    refine ap HF (fun _ => HS) [10] #[true, true, true, true, true, true, true, true, true, true, true, false, false] [(98, .bool (Bk.fits ⟨1, tkVal 63 l, (tkVal 281474976710656 (qc l) : Int), 0, []⟩))] fun a HF => ?_
    refine qi [11] (by kernel_rfl) rfl ?_
    refine all_cons ?_ all_nil
    refine qj HF (i := 11) rfl rfl ?_
    refine e_sa HF HM 3 rfl rfl rfl rfl rfl si_bk rfl rfl (by simp [Value.oneCell']) ?_
    clear HM; intro w15_11 HM
    refine keepS (HM.picks [0, 1, 2] (by decide) rfl) (fun HS => ?_)
    refine ap HF (fun _ => HS) [12] #[true, true, true, true, true, true, true, true, true, true, true, true, true] [(5, .bool (Bk.fits ⟨1, tkVal 63 l, (tkVal 281474976710656 (qc l) : Int), 0, []⟩))] fun a HF => ?_
    refine qm (by kernel_rfl) ?_
    have HF := HF.as (t := 5) (u := .bool ((zq l).isSome)) rfl (congrArg Value.bool (by have h9 := hb90; rw [tk3, h3] at h9; cases h9))
    exact ⟨HF.sub (by kernel_rfl), HM.picks [0, 1, 2, 3] (by decide) rfl⟩
   have hd95 := ne_of_beq_false hb95
   refine ap HF (fun _ => HS) [8, 9, 10] #[true, true, true, true, true, true, true, true, true, true, true, false, false] [(98, .bool false)] fun a HF => ?_
   refine qi [11] (by kernel_rfl) rfl ?_
   refine all_cons ?_ all_nil
   refine qj HF (i := 11) rfl rfl ?_
   refine e_sa HF HM 3 rfl rfl rfl rfl rfl si_bk rfl rfl (by simp [Value.oneCell']) ?_
   clear HM; intro w15_11 HM
   refine keepS (HM.picks [0, 1, 2] (by decide) rfl) (fun HS => ?_)
   refine ap HF (fun _ => HS) [12] #[true, true, true, true, true, true, true, true, true, true, true, true, true] [(5, .bool false)] fun a HF => ?_
   refine qm (by kernel_rfl) ?_
   have HF := HF.as (t := 5) (u := .bool ((zq l).isSome)) rfl (congrArg Value.bool (by have h9 := hb90; rw [tk3, h3] at h9; cases h9))
   exact ⟨HF.sub (by kernel_rfl), HM.picks [0, 1, 2, 3] (by decide) rfl⟩
  refine ap HF (fun _ => HS) [3, 4, 5, 6, 7, 8, 9, 10] #[true, true, true, true, true, true, true, true, true, true, true, false, false] [(98, .bool false)] fun a HF => ?_
  refine qi [11] (by kernel_rfl) rfl ?_
  refine all_cons ?_ all_nil
  refine qj HF (i := 11) rfl rfl ?_
  refine e_sa HF HM 3 rfl rfl rfl rfl rfl si_bk rfl rfl (by simp [Value.oneCell']) ?_
  clear HM; intro w15_11 HM
  refine keepS (HM.picks [0, 1, 2] (by decide) rfl) (fun HS => ?_)
  refine ap HF (fun _ => HS) [12] #[true, true, true, true, true, true, true, true, true, true, true, true, true] [(5, .bool false)] fun a HF => ?_
  refine qm (by kernel_rfl) ?_
  have HF := HF.as (t := 5) (u := .bool ((zq l).isSome)) rfl (congrArg Value.bool (by have h9 := hb90; rw [tk3] at h9; rw [qoe (l := l) (fun hh => by rw [h3] at hh; cases hh.1), h9, Bool.false_and]))
  exact ⟨HF.sub (by kernel_rfl), HM.picks [0, 1, 2, 3] (by decide) rfl⟩
 clear HF HM; rintro a w15 ⟨HF, HM⟩
 refine wp_ret ?_
 rcases HF.tf 5 rfl with ⟨hb5, HF⟩ | ⟨hb5, HF⟩
 ·
  have hfin := hb5
  exact ret2 rfl HF (.cellS (i := 3) HF HM rfl rfl si_bk rfl) (.tmp HF rfl) (qc4 (b := ⟨1, tkVal 63 l, (tkVal 281474976710656 (qc l) : Int), 0, []⟩) (A := none) (c := 0) (by rw [qbz]; exact qsm (fun hh => by rw [h3] at hh; cases hh.1) hfin) (World.ownsRow_nil _ _ _ _) (Nat.le_refl _) HM.below)
 have hfin := hb5
 exact ret2 rfl HF (.cellS (i := 3) HF HM rfl rfl si_bk rfl) (.tmp HF rfl) (qce (by rw [qbz]; exact Option.not_isSome_iff_eq_none.1 (by rw [hfin]; decide)) rfl (by simp [Value.oneCell']) HM.below)
theorem qss (A : Option Addr) (n cp : Nat) (l : List Nat) (B : Nat) (w : World) (hL : LaidX B w) (hB : B ≤ w.heap.size) (hr : Rd w w.heap.size 1 A n (l.map B8)) (hc : n ≤ cp) (hln : l.length = n) (hn : n ≤ 9223372036854775807) (hl : ∀ b ∈ l, b < 256) :
    Calls Tryz.prog 28 #[.slice A n cp] w (qm9 24 w (readB l)) := by
 refine qg (vs := [.slice A n cp]) Tryz.func28 rfl rfl (by kernel_rfl) (σ0 := [(0, .slice A n cp)]) rfl ?_
 intro a HF
 have HM := Mem.start w
 refine wp_seq (qa ?_)
 refine fo HF 0 rfl rfl ?_
 refine qz HF HM (cs := #[vB 0, vB 0, vI 0, vI 0, .slice none 0 0]) rfl (by kernel_rfl) rfl (by decide) ?_
 clear HF HM; intro a w2 g2 HF HM
 refine fp HF 2 1 [(4, vI 0), (3, vI 0)] fun a HF => ?_
 refine qb rfl (wp_seq (qa ?_))
 refine fp HF 1 0 [(10, .slice A n cp)] fun a HF => ?_
 refine fo HF 1 rfl rfl ?_
 refine e_is HF HM [.slice A n cp] (.tuple #[vI ((lenR l).1), vI ((lenR l).2)]) rfl rfl (qgs A n cp l _ (HM.old hr) hln hn hl) fun w11 hbw HM a HF => ?_
 refine fp HF 5 2 [(6, vI ((lenR l).2)), (5, vI ((lenR l).1))] fun a HF => ?_
 refine qb rfl (wp_seq (wp_seq (qa ?_)))
 refine fp HF 2 0 [(15, .bool (((lenR l).2 : Int) != (0 : Int)))] fun a HF => ?_
 refine qb rfl ?_
 rcases HF.tf 15 rfl with ⟨hb15, HF⟩ | ⟨hb15, HF⟩
 ·
  have hd15 := bne_iff_ne.1 hb15
  refine qf HF rfl (wp_seq (qa ?_))
  refine fy HF HM 0 rfl rfl rfl (v := .agg #[vB 0, vB 0, vI 0, vI 0, .slice none 0 0]) (Yl.build (vs := []) rfl (by kernel_rfl) (by kernel_rfl)) fun a HF => ?_
  refine fp HF 1 1 [(17, vI ((lenR l).2))] fun a HF => ?_
  refine fo HF 2 rfl rfl ?_
  refine e_sa HF HM 0 rfl rfl rfl rfl rfl si_bk rfl rfl (by simp [Value.oneCell']) ?_
  clear HM; intro w3_2 HM
  refine fp HF 2 3 [(4, vI ((lenR l).2)), (3, vI 0)] fun a HF => ?_
  refine qb rfl (wp_ret ?_)
  exact ret3 rfl HF (.cellS (i := 0) HF HM rfl rfl si_bk rfl) (.tmp HF rfl) (.tmp HF rfl) (qa5 (qsn (by omega)) HM.below)
 have hd15 := bne_eq_false_iff_eq.1 hb15
 have hl0 : (lenR l).2 = 0 := by omega
 obtain ⟨v1, v2, v3, v4⟩ := qnd hl0
 obtain ⟨Lb, hLb⟩ : ∃ x, x = l.take (lenR l).1 := ⟨_, rfl⟩
 have hrL : Rd w w.heap.size 1 A (lenR l).1 (Lb.map B8) := by rw [hLb]; exact hr.toB8 (by omega)
 have hlL : ∀ b ∈ Lb, b < 256 := by rw [hLb]; exact zu hl _
 have hnL : Lb.length = (lenR l).1 := by rw [hLb, List.length_take]; omega
 refine qe HF rfl (wp_skip (wp_seq (qa ?_)))
 refine fp HF 2 0 [(19, vI ((lenR l).1)), (18, .slice A n cp)] fun a HF => ?_
 refine fy HF HM 2 rfl rfl rfl (v := .slice A ((lenR l).1) cp) (Yl.zx ei_u8 (j := (lenR l).1) rfl rfl rfl (by omega)) fun a HF => ?_
 refine fp HF 1 3 [(0, .slice A ((lenR l).1) cp)] fun a HF => ?_
 refine qb rfl ?_
 obtain ⟨gA, oA, rfl, _⟩ := hrL.zl (Nat.lt_of_le_of_lt (Nat.zero_le _) (show 0 < (lenR l).1 from by omega)) (by decide)
 refine wp_seq (wp_block (wp_seq (qa ?_)))
 refine fp HF 1 0 [(22, .slice (some ⟨gA, oA, none⟩) ((lenR l).1) cp)] fun a HF => ?_
 refine fo HF 1 rfl rfl ?_
 refine e_is HF HM [.slice (some ⟨gA, oA, none⟩) ((lenR l).1) cp] (.bool (qao Lb)) rfl rfl (qpq _ (lenR l).1 cp Lb B _ (hL.mem HM hB) (HM.le hB) (HM.old hrL) (by omega) hnL (by omega) hlL) fun w23 hbw HM a HF => ?_
 refine fp HF 2 2 [(21, .bool (!(qao Lb)))] fun a HF => ?_
 refine qb rfl ?_
 rcases HF.tf 21 rfl with ⟨hb21, HF⟩ | ⟨hb21, HF⟩
 ·
  have hs : qao Lb = false := by simpa using hb21
  refine qf HF rfl (wp_seq (qa ?_))
  refine fy HF HM 0 rfl rfl rfl (v := .agg #[vB 0, vB 0, vI 0, vI 0, .slice none 0 0]) (Yl.build (vs := []) rfl (by kernel_rfl) (by kernel_rfl)) fun a HF => ?_
  refine fo HF 1 rfl rfl ?_
  refine e_sa HF HM 0 rfl rfl rfl rfl rfl si_bk rfl rfl (by simp [Value.oneCell']) ?_
  clear HM; intro w6_1 HM
  refine fp HF 2 2 [(4, vI 102), (3, vI 0)] fun a HF => ?_
  refine qb rfl (wp_ret ?_)
  exact ret3 rfl HF (.cellS (i := 0) HF HM rfl rfl si_bk rfl) (.tmp HF rfl) (.tmp HF rfl) (qa5 (qb0 hl0 hLb (by unfold blkOf; rw [if_pos hs])) HM.below)
 have hs : qao Lb = true := by simpa using hb21
 refine qe HF rfl (wp_seq ?_)
 refine zw HM [.blk g2 #[vB 0, vB 0, vI 0, vI 0, .slice none 0 0] 28] [0] [] fun HM HS => ?_
 refine ap HF (fun _ => HS) [0] #[true, false, false, false, false, false, false] [(27, .slice (some ⟨gA, oA, none⟩) ((lenR l).1) cp)] fun a HF => ?_
 refine ay HF HS 1 rfl rfl rfl (v := .slice (if cp = 4 then some ⟨gA, oA, none⟩ else (some ⟨gA, oA, none⟩ : Option Addr).map (·.add (4 * 1))) (6 - 4) (cp - 4)) (Yl.qhi ei_u8 (i := 4) (j := 6) rfl rfl rfl rfl (by omega) (by omega)) fun a HF => ?_
 replace HF := HF.sp 28 (.slice (some ⟨gA, oA + 4, none⟩) (6 - 4) (cp - 4)) rfl (by simp only [if_neg (show ¬ cp = 4 by omega), Option.map_some, Addr.add_mid, Nat.mul_one])
 refine ay HF HS 2 rfl rfl rfl (v := vP gA (oA + 4)) (Yl.arrayAt (k := 2) rfl rfl (by kernel_rfl) (by omega)) fun a HF => ?_
 refine ay HF HS 3 rfl rfl rfl (v := .agg #[vB (Lb.getD 4 0), vB (Lb.getD 5 0)]) (Yl.qx rfl rfl si_a2 rfl (fun _ h => qyl (k := 4) (l := Lb) (h.old hrL) (by omega))) fun a HF => ?_
 refine ay HF HS 4 rfl rfl rfl (v := .agg #[vB 113, vB 116]) (Yl.qx rfl rfl si_a2 rfl (fun _ h => qu8 hL h hB)) fun a HF => ?_
 refine ay HF HS 5 rfl rfl rfl (v := .bool (!(((Lb.getD 4 0 : Int) == (113 : Int)) && ((Lb.getD 5 0 : Int) == (116 : Int))))) (Yl.qxv rfl rfl rfl (by kernel_rfl) (by kernel_rfl)) fun a HF => ?_
 refine ap HF (fun _ => HS) [6] #[true, true, true, true, true, true, true] [(26, .bool (!(((Lb.getD 4 0 : Int) == (113 : Int)) && ((Lb.getD 5 0 : Int) == (116 : Int)))))] fun a HF => ?_
 refine qm (by kernel_rfl) ?_
 rcases HF.tf 26 rfl with ⟨hb26, HF⟩ | ⟨hb26, HF⟩
 ·
  simp only [Bool.not_eq_true', Bool.and_eq_false_iff, beq_eq_false_iff_ne] at hb26
  have hmg : ¬ (Lb.getD 4 0 = 113 ∧ Lb.getD 5 0 = 116) := by omega
  refine qf HF rfl (wp_seq (qa ?_))
  refine fy HF HM 0 rfl rfl rfl (v := .agg #[vB 0, vB 0, vI 0, vI 0, .slice none 0 0]) (Yl.build (vs := []) rfl (by kernel_rfl) (by kernel_rfl)) fun a HF => ?_
  refine fo HF 1 rfl rfl ?_
  refine e_sa HF HM 0 rfl rfl rfl rfl rfl si_bk rfl rfl (by simp [Value.oneCell']) ?_
  clear HM; intro w8_1 HM
  refine fp HF 2 2 [(4, vI 103), (3, vI 0)] fun a HF => ?_
  refine qb rfl (wp_ret ?_)
  exact ret3 rfl HF (.cellS (i := 0) HF HM rfl rfl si_bk rfl) (.tmp HF rfl) (.tmp HF rfl) (qa5 (qb0 hl0 hLb (by unfold blkOf; rw [if_neg (by rw [hs]; decide), if_pos hmg])) HM.below)
 simp only [Bool.not_eq_false', Bool.and_eq_true, beq_iff_eq] at hb26
 have hmg : Lb.getD 4 0 = 113 ∧ Lb.getD 5 0 = 116 := by omega
 refine qe HF rfl (wp_seq (qa ?_))
 refine fp HF 1 0 [(35, .slice (some ⟨gA, oA, none⟩) ((lenR l).1) cp)] fun a HF => ?_
 refine fy HF HM 1 rfl rfl rfl (v := vP gA (oA + 6)) (Yl.indexAddr (ad := ⟨gA, oA, none⟩) (y := 6) (sz := 1) rfl rfl rfl (by omega) (by kernel_rfl)) fun a HF => ?_
 have hx111 := getD_lt hlL (k := 6) (by first | omega | (simp; omega))
 refine fy HF HM 2 rfl rfl rfl (v := vB (Lb.getD 6 0)) (Yl.qh rfl rfl (by kernel_rfl) (fun _ h => (h.old hrL).zt (k := 6) (za (F := B8) (k := 6) (x := (Lb.getD 6 0)) ((getD_at 0 (k := 6) (by first | omega | (simp; omega))))))) fun a HF => ?_
 refine fp HF 2 3 [(34, .bool (((Lb.getD 6 0) : Int) != (1 : Int)))] fun a HF => ?_
 refine qb rfl ?_
 rcases HF.tf 34 rfl with ⟨hb34, HF⟩ | ⟨hb34, HF⟩
 ·
  have hd34 := bne_iff_ne.1 hb34
  refine qf HF rfl (wp_seq (qa ?_))
  refine fy HF HM 0 rfl rfl rfl (v := .agg #[vB 0, vB 0, vI 0, vI 0, .slice none 0 0]) (Yl.build (vs := []) rfl (by kernel_rfl) (by kernel_rfl)) fun a HF => ?_
  refine fo HF 1 rfl rfl ?_
  refine e_sa HF HM 0 rfl rfl rfl rfl rfl si_bk rfl rfl (by simp [Value.oneCell']) ?_
  clear HM; intro w10_1 HM
  refine fp HF 2 2 [(4, vI 104), (3, vI 0)] fun a HF => ?_
  refine qb rfl (wp_ret ?_)
  exact ret3 rfl HF (.cellS (i := 0) HF HM rfl rfl si_bk rfl) (.tmp HF rfl) (.tmp HF rfl) (qa5 (qb0 hl0 hLb (by unfold blkOf; rw [if_neg (by rw [hs]; decide), if_neg (fun hh => hh hmg), if_pos (by omega)])) HM.below)
 have hd34 := bne_eq_false_iff_eq.1 hb34
 refine qe HF rfl (wp_seq (qa ?_))
 refine fp HF 1 0 [(41, .slice (some ⟨gA, oA, none⟩) ((lenR l).1) cp)] fun a HF => ?_
 refine fy HF HM 1 rfl rfl rfl (v := vP gA (oA + 7)) (Yl.indexAddr (ad := ⟨gA, oA, none⟩) (y := 7) (sz := 1) rfl rfl rfl (by omega) (by kernel_rfl)) fun a HF => ?_
 have hx135 := getD_lt hlL (k := 7) (by first | omega | (simp; omega))
 refine fy HF HM 2 rfl rfl rfl (v := vB (Lb.getD 7 0)) (Yl.qh rfl rfl (by kernel_rfl) (fun _ h => (h.old hrL).zt (k := 7) (za (F := B8) (k := 7) (x := (Lb.getD 7 0)) ((getD_at 0 (k := 7) (by first | omega | (simp; omega))))))) fun a HF => ?_
 refine fp HF 2 3 [(45, .bool (((Lb.getD 7 0) : Int) != (1 : Int)))] fun a HF => ?_
 rcases HF.tf 45 rfl with ⟨hb45, HF⟩ | ⟨hb45, HF⟩
 ·
  have hd45 := bne_iff_ne.1 hb45
  refine fp HF 1 5 [(46, .slice (some ⟨gA, oA, none⟩) ((lenR l).1) cp)] fun a HF => ?_
  refine fy HF HM 6 rfl rfl rfl (v := vP gA (oA + 7)) (Yl.indexAddr (ad := ⟨gA, oA, none⟩) (y := 7) (sz := 1) rfl rfl rfl (by omega) (by kernel_rfl)) fun a HF => ?_
  have hx143 := getD_lt hlL (k := 7) (by first | omega | (simp; omega))
  refine fy HF HM 7 rfl rfl rfl (v := vB (Lb.getD 7 0)) (Yl.qh rfl rfl (by kernel_rfl) (fun _ h => (h.old hrL).zt (k := 7) (za (F := B8) (k := 7) (x := (Lb.getD 7 0)) ((getD_at 0 (k := 7) (by first | omega | (simp; omega))))))) fun a HF => ?_
  refine fp HF 3 8 [(40, .bool (((Lb.getD 7 0) : Int) != (2 : Int)))] fun a HF => ?_
  refine qb rfl ?_
  rcases hp : qde (Lb.getD 7 0) ((Lb.take (Lb.length - 4)).drop 8) with _ | b
  ·
   rcases HF.tf 40 rfl with ⟨hb40, HF⟩ | ⟨hb40, HF⟩
   ·
    have hd40 := bne_iff_ne.1 hb40
    have hkd : Lb.getD 7 0 ≠ 1 ∧ Lb.getD 7 0 ≠ 2 := by omega
    refine qf HF rfl (wp_seq (qa ?_))
    refine fy HF HM 0 rfl rfl rfl (v := .agg #[vB 0, vB 0, vI 0, vI 0, .slice none 0 0]) (Yl.build (vs := []) rfl (by kernel_rfl) (by kernel_rfl)) fun a HF => ?_
    refine fo HF 1 rfl rfl ?_
    refine e_sa HF HM 0 rfl rfl rfl rfl rfl si_bk rfl rfl (by simp [Value.oneCell']) ?_
    clear HM; intro w12_1 HM
    refine fp HF 2 2 [(4, vI 105), (3, vI 0)] fun a HF => ?_
    refine qb rfl (wp_ret ?_)
    exact ret3 rfl HF (.cellS (i := 0) HF HM rfl rfl si_bk rfl) (.tmp HF rfl) (.tmp HF rfl) (qa5 (qb0 hl0 hLb (by unfold blkOf; rw [if_neg (by rw [hs]; decide), if_neg (fun hh => hh hmg), if_neg (by omega), if_pos hkd])) HM.below)
   have hd40 := bne_eq_false_iff_eq.1 hb40
   have hkd : Lb.getD 7 0 = 1 ∨ Lb.getD 7 0 = 2 := by omega
   refine qe HF rfl (wp_skip ?_)
   refine qam (fun aS wS => ∃ (cs : Array Value) (g7 : Nat), Fr aS 68 [] [(8, .bool false), (7, vP g7 0), (40, .bool false), (34, .bool false), (26, .bool false), (21, .bool false), (0, .slice (some ⟨gA, oA, none⟩) ((lenR l).1) cp), (15, .bool false), (6, vI ((lenR l).2)), (5, vI ((lenR l).1)), (4, vI 0), (3, vI 0), (2, vP g2 0)] ∧ Mem w wS [.blk g7 cs 28, .blk g2 #[vB 0, vB 0, vI 0, vI 0, .slice none 0 0] 28] ∧ (cs.size = 5) ∧ (∀ v ∈ cs.toList, v.oneCell' = true)) ?_ ?_
   ·
    refine zw HM [.blk g2 #[vB 0, vB 0, vI 0, vI 0, .slice none 0 0] 28] [0] [12] fun HM HS => ?_
    refine ap HF (fun _ => HS) [0, 3, 4] #[true, false, false, true, true, false, false, false, false, false, false, false, false, false] [(57, vI ((lenR l).1)), (56, .slice (some ⟨gA, oA, none⟩) ((lenR l).1) cp), (53, .slice (some ⟨gA, oA, none⟩) ((lenR l).1) cp)] fun a HF => ?_
    refine ay HF HS 1 rfl rfl rfl (v := vP gA (oA + 7)) (Yl.indexAddr (ad := ⟨gA, oA, none⟩) (y := 7) (sz := 1) rfl rfl rfl (by omega) (by kernel_rfl)) fun a HF => ?_
    have hx173 := getD_lt hlL (k := 7) (by first | omega | (simp; omega))
    refine ay HF HS 2 rfl rfl rfl (v := vB (Lb.getD 7 0)) (Yl.qh rfl rfl (by kernel_rfl) (fun _ h => (h.old hrL).zt (k := 7) (za (F := B8) (k := 7) (x := (Lb.getD 7 0)) ((getD_at 0 (k := 7) (by first | omega | (simp; omega))))))) fun a HF => ?_
    refine qo HF (fun _ => HS) (i := 5) rfl rfl (d := 58) rfl (by decide) (by kernel_rfl) (fun _ _ _ h => h) (v := vI (IntKind.i64.wrap (((lenR l).1 : Int) - 4))) (fun _ => Yl.pure (by kernel_rfl)) fun a HF => ?_
    replace HF := HF.sp 58 (vI ((lenR l).1 - 4 : Nat)) rfl (qk (by omega) (by omega))
    refine ay HF HS 6 rfl rfl rfl (v := .slice (if cp = 8 then some ⟨gA, oA, none⟩ else (some ⟨gA, oA, none⟩ : Option Addr).map (·.add (8 * 1))) (((lenR l).1 - 4) - 8) (cp - 8)) (Yl.qhi ei_u8 (i := 8) (j := (lenR l).1 - 4) rfl rfl rfl rfl (by omega) (by omega)) fun a HF => ?_
    refine qi [7, 11] (by kernel_rfl) rfl ?_
    refine all_cons ?_ ?_
    ·refine qj HF (i := 7) rfl rfl ?_
     refine e_cl HF [vB (Lb.getD 7 0), .slice (if cp = 8 then some ⟨gA, oA, none⟩ else (some ⟨gA, oA, none⟩ : Option Addr).map (·.add (8 * 1))) (((lenR l).1 - 4) - 8) (cp - 8)] rfl rfl ((qcf (Lb.getD 7 0) hkd _ (((lenR l).1 - 4) - 8) (cp - 8) ((Lb.take (Lb.length - 4)).drop 8) B _ (hL.mem HM hB) (HM.le hB) (HM.old (by rw [hnL]; exact hrL.qd4 (i := 8) (j := (lenR l).1 - 4) (by omega) (by omega) (by omega))) (by omega) (by rw [List.length_drop, List.length_take]; omega) (by omega) (qak (zu hlL _) _)).mono (fun _ _ h => h.none hp)) ?_
     rintro _ w60 ⟨⟨cs, rfl, hs5, h1⟩, hbw⟩
     refine ⟨_, rfl, ?_⟩
     replace HM := HM.call hbw
     clear HF; intro a HF
     refine keepS (HM.picks [0] (by decide) rfl) (fun HS => ?_)
     refine ap HF (fun _ => HS) [8, 9, 10] #[true, true, true, true, true, true, true, true, true, true, true, false, false, false] [(62, .bool false), (61, .agg cs)] fun a HF => ?_
     refine qi [11] (by kernel_rfl) rfl ?_
     refine all_cons ?_ all_nil
     refine qj HF (i := 11) rfl rfl ?_
     refine qz HF HM (cs := #[vB 0, vB 0, vI 0, vI 0, .slice none 0 0]) rfl (by kernel_rfl) rfl (by decide) ?_
     clear HF HM; intro a w7 g7 HF HM
     refine keepS (HM.picks [1] (by decide) rfl) (fun HS => ?_)
     refine qi [12] (by kernel_rfl) rfl ?_
     refine all_cons ?_ all_nil
     refine qj HF (i := 12) rfl rfl ?_
     refine e_sa HF HM 0 rfl rfl rfl rfl rfl si_bk rfl hs5 (h1) ?_
     clear HM; intro w13_12 HM
     refine noS (by kernel_rfl) ?_
     refine ap HF (pastS (by kernel_rfl)) [13] #[true, true, true, true, true, true, true, true, true, true, true, true, true, true] [(8, .bool false)] fun a HF => ?_
     refine qm (by kernel_rfl) ?_
     replace HF := HF.to [(8, .bool false), (7, vP g7 0), (40, .bool false), (34, .bool false), (26, .bool false), (21, .bool false), (0, .slice (some ⟨gA, oA, none⟩) ((lenR l).1) cp), (15, .bool false), (6, vI ((lenR l).2)), (5, vI ((lenR l).1)), (4, vI 0), (3, vI 0), (2, vP g2 0)]
     exact ⟨cs, g7, HF.sub (by kernel_rfl), HM.picks [0, 1] (by decide) rfl, hs5, h1⟩
    refine all_cons ?_ all_nil
    refine qj HF (i := 11) rfl rfl ?_
    refine qz HF HM (cs := #[vB 0, vB 0, vI 0, vI 0, .slice none 0 0]) rfl (by kernel_rfl) rfl (by decide) ?_
    clear HF HM; intro a w7 g7 HF HM
    refine keepS (HM.picks [1] (by decide) rfl) (fun HS => ?_)
    refine qi [7] (by kernel_rfl) rfl ?_
    refine all_cons ?_ all_nil
    refine qj HF (i := 7) rfl rfl ?_
    refine e_cl HF [vB (Lb.getD 7 0), .slice (if cp = 8 then some ⟨gA, oA, none⟩ else (some ⟨gA, oA, none⟩ : Option Addr).map (·.add (8 * 1))) (((lenR l).1 - 4) - 8) (cp - 8)] rfl rfl ((qcf (Lb.getD 7 0) hkd _ (((lenR l).1 - 4) - 8) (cp - 8) ((Lb.take (Lb.length - 4)).drop 8) B _ (hL.mem HM hB) (HM.le hB) (HM.old (by rw [hnL]; exact hrL.qd4 (i := 8) (j := (lenR l).1 - 4) (by omega) (by omega) (by omega))) (by omega) (by rw [List.length_drop, List.length_take]; omega) (by omega) (qak (zu hlL _) _)).mono (fun _ _ h => h.none hp)) ?_
    rintro _ w60 ⟨⟨cs, rfl, hs5, h1⟩, hbw⟩
    refine ⟨_, rfl, ?_⟩
    replace HM := HM.call hbw
    clear HF; intro a HF
    refine keepS (HM.picks [1] (by decide) rfl) (fun HS => ?_)
    refine ap HF (fun _ => HS) [8, 9, 10] #[true, true, true, true, true, true, true, true, true, true, true, true, false, false] [(62, .bool false), (61, .agg cs)] fun a HF => ?_
    refine qi [12] (by kernel_rfl) rfl ?_
    refine all_cons ?_ all_nil
    refine qj HF (i := 12) rfl rfl ?_
    refine e_sa HF HM 0 rfl rfl rfl rfl rfl si_bk rfl hs5 (h1) ?_
    clear HM; intro w13_12 HM
    refine noS (by kernel_rfl) ?_
    refine ap HF (pastS (by kernel_rfl)) [13] #[true, true, true, true, true, true, true, true, true, true, true, true, true, true] [(8, .bool false)] fun a HF => ?_
    refine qm (by kernel_rfl) ?_
    replace HF := HF.to [(8, .bool false), (7, vP g7 0), (40, .bool false), (34, .bool false), (26, .bool false), (21, .bool false), (0, .slice (some ⟨gA, oA, none⟩) ((lenR l).1) cp), (15, .bool false), (6, vI ((lenR l).2)), (5, vI ((lenR l).1)), (4, vI 0), (3, vI 0), (2, vP g2 0)]
    exact ⟨cs, g7, HF.sub (by kernel_rfl), HM.picks [0, 1] (by decide) rfl, hs5, h1⟩
   clear HF HM; rintro a w13 ⟨cs, g7, HF, HM, hs5, h1⟩
   refine wp_seq (wp_seq (qa ?_))
   refine fp HF 2 0 [(64, .bool true)] fun a HF => ?_
   refine qb rfl (qf HF rfl (wp_seq (qa ?_)))
   refine fy HF HM 0 rfl rfl rfl (v := .agg #[vB 0, vB 0, vI 0, vI 0, .slice none 0 0]) (Yl.build (vs := []) rfl (by kernel_rfl) (by kernel_rfl)) fun a HF => ?_
   refine fo HF 1 rfl rfl ?_
   refine e_sa HF HM 1 rfl rfl rfl rfl rfl si_bk rfl rfl (by simp [Value.oneCell']) ?_
   clear HM; intro w15_1 HM
   refine fp HF 2 2 [(4, vI 106), (3, vI 0)] fun a HF => ?_
   refine qb rfl (wp_ret ?_)
   exact ret3 rfl HF (.cellS (i := 1) HF HM rfl rfl si_bk rfl) (.tmp HF rfl) (.tmp HF rfl) (qa5 (qb0 hl0 hLb (by unfold blkOf; rw [if_neg (by rw [hs]; decide), if_neg (fun hh => hh hmg), if_neg (by omega), if_neg (by omega), hp])) HM.below)
  ·
   rcases HF.tf 40 rfl with ⟨hb40, HF⟩ | ⟨hb40, HF⟩
   ·
    have hd40 := bne_iff_ne.1 hb40
    have hkd : Lb.getD 7 0 ≠ 1 ∧ Lb.getD 7 0 ≠ 2 := by omega
    refine qf HF rfl (wp_seq (qa ?_))
    refine fy HF HM 0 rfl rfl rfl (v := .agg #[vB 0, vB 0, vI 0, vI 0, .slice none 0 0]) (Yl.build (vs := []) rfl (by kernel_rfl) (by kernel_rfl)) fun a HF => ?_
    refine fo HF 1 rfl rfl ?_
    refine e_sa HF HM 0 rfl rfl rfl rfl rfl si_bk rfl rfl (by simp [Value.oneCell']) ?_
    clear HM; intro w12_1 HM
    refine fp HF 2 2 [(4, vI 105), (3, vI 0)] fun a HF => ?_
    refine qb rfl (wp_ret ?_)
    exact ret3 rfl HF (.cellS (i := 0) HF HM rfl rfl si_bk rfl) (.tmp HF rfl) (.tmp HF rfl) (qa5 (qb0 hl0 hLb (by unfold blkOf; rw [if_neg (by rw [hs]; decide), if_neg (fun hh => hh hmg), if_neg (by omega), if_pos hkd])) HM.below)
   have hd40 := bne_eq_false_iff_eq.1 hb40
   have hkd : Lb.getD 7 0 = 1 ∨ Lb.getD 7 0 = 2 := by omega
   refine qe HF rfl (wp_skip ?_)
   refine qam (fun aS wS => ∃ (Ab : Option Addr) (cb : Nat) (g7 : Nat), Fr aS 68 [] [(8, .bool true), (7, vP g7 0), (40, .bool false), (34, .bool false), (26, .bool false), (21, .bool false), (0, .slice (some ⟨gA, oA, none⟩) ((lenR l).1) cp), (15, .bool false), (6, vI ((lenR l).2)), (5, vI ((lenR l).1)), (4, vI 0), (3, vI 0), (2, vP g2 0)] ∧ Mem w wS [.blk g7 (b.cells Ab cb) 28, .row (.slice Ab b.evs.length cb) b.evs.length (b.evs.flatMap evL) 24 11, .blk g2 #[vB 0, vB 0, vI 0, vI 0, .slice none 0 0] 28] ∧ (b.evs.length ≤ cb)) ?_ ?_
   ·
    refine zw HM [.blk g2 #[vB 0, vB 0, vI 0, vI 0, .slice none 0 0] 28] [0] [12] fun HM HS => ?_
    refine ap HF (fun _ => HS) [0, 3, 4] #[true, false, false, true, true, false, false, false, false, false, false, false, false, false] [(57, vI ((lenR l).1)), (56, .slice (some ⟨gA, oA, none⟩) ((lenR l).1) cp), (53, .slice (some ⟨gA, oA, none⟩) ((lenR l).1) cp)] fun a HF => ?_
    refine ay HF HS 1 rfl rfl rfl (v := vP gA (oA + 7)) (Yl.indexAddr (ad := ⟨gA, oA, none⟩) (y := 7) (sz := 1) rfl rfl rfl (by omega) (by kernel_rfl)) fun a HF => ?_
    have hx271 := getD_lt hlL (k := 7) (by first | omega | (simp; omega))
    refine ay HF HS 2 rfl rfl rfl (v := vB (Lb.getD 7 0)) (Yl.qh rfl rfl (by kernel_rfl) (fun _ h => (h.old hrL).zt (k := 7) (za (F := B8) (k := 7) (x := (Lb.getD 7 0)) ((getD_at 0 (k := 7) (by first | omega | (simp; omega))))))) fun a HF => ?_
    refine qo HF (fun _ => HS) (i := 5) rfl rfl (d := 58) rfl (by decide) (by kernel_rfl) (fun _ _ _ h => h) (v := vI (IntKind.i64.wrap (((lenR l).1 : Int) - 4))) (fun _ => Yl.pure (by kernel_rfl)) fun a HF => ?_
    replace HF := HF.sp 58 (vI ((lenR l).1 - 4 : Nat)) rfl (qk (by omega) (by omega))
    refine ay HF HS 6 rfl rfl rfl (v := .slice (if cp = 8 then some ⟨gA, oA, none⟩ else (some ⟨gA, oA, none⟩ : Option Addr).map (·.add (8 * 1))) (((lenR l).1 - 4) - 8) (cp - 8)) (Yl.qhi ei_u8 (i := 8) (j := (lenR l).1 - 4) rfl rfl rfl rfl (by omega) (by omega)) fun a HF => ?_
    refine qi [7, 11] (by kernel_rfl) rfl ?_
    refine all_cons ?_ ?_
    ·refine qj HF (i := 7) rfl rfl ?_
     refine e_cl HF [vB (Lb.getD 7 0), .slice (if cp = 8 then some ⟨gA, oA, none⟩ else (some ⟨gA, oA, none⟩ : Option Addr).map (·.add (8 * 1))) (((lenR l).1 - 4) - 8) (cp - 8)] rfl rfl ((qcf (Lb.getD 7 0) hkd _ (((lenR l).1 - 4) - 8) (cp - 8) ((Lb.take (Lb.length - 4)).drop 8) B _ (hL.mem HM hB) (HM.le hB) (HM.old (by rw [hnL]; exact hrL.qd4 (i := 8) (j := (lenR l).1 - 4) (by omega) (by omega) (by omega))) (by omega) (by rw [List.length_drop, List.length_take]; omega) (by omega) (qak (zu hlL _) _)).mono (fun _ _ h => h.some hp)) ?_
     rintro _ w60 ⟨⟨Ab, cb, rfl, ho, hcb⟩, hbw⟩
     refine ⟨_, rfl, ?_⟩
     replace HM := HM.callRow hbw ho
     clear HF; intro a HF
     refine keepS (HM.picks [1] (by decide) rfl) (fun HS => ?_)
     refine ap HF (fun _ => HS) [8, 9, 10] #[true, true, true, true, true, true, true, true, true, true, true, false, false, false] [(62, .bool true), (61, .agg (b.cells Ab cb))] fun a HF => ?_
     refine qi [11] (by kernel_rfl) rfl ?_
     refine all_cons ?_ all_nil
     refine qj HF (i := 11) rfl rfl ?_
     refine qz HF HM (cs := #[vB 0, vB 0, vI 0, vI 0, .slice none 0 0]) rfl (by kernel_rfl) rfl (by decide) ?_
     clear HF HM; intro a w7 g7 HF HM
     refine keepS (HM.picks [2] (by decide) rfl) (fun HS => ?_)
     refine qi [12] (by kernel_rfl) rfl ?_
     refine all_cons ?_ all_nil
     refine qj HF (i := 12) rfl rfl ?_
     refine e_sa HF HM 0 rfl rfl rfl rfl rfl si_bk rfl rfl (qcd _ _ _) ?_
     clear HM; intro w13_12 HM
     refine noS (by kernel_rfl) ?_
     refine ap HF (pastS (by kernel_rfl)) [13] #[true, true, true, true, true, true, true, true, true, true, true, true, true, true] [(8, .bool true)] fun a HF => ?_
     refine qm (by kernel_rfl) ?_
     replace HF := HF.to [(8, .bool true), (7, vP g7 0), (40, .bool false), (34, .bool false), (26, .bool false), (21, .bool false), (0, .slice (some ⟨gA, oA, none⟩) ((lenR l).1) cp), (15, .bool false), (6, vI ((lenR l).2)), (5, vI ((lenR l).1)), (4, vI 0), (3, vI 0), (2, vP g2 0)]
     exact ⟨Ab, cb, g7, HF.sub (by kernel_rfl), HM.picks [0, 1, 2] (by decide) rfl, hcb⟩
    refine all_cons ?_ all_nil
    refine qj HF (i := 11) rfl rfl ?_
    refine qz HF HM (cs := #[vB 0, vB 0, vI 0, vI 0, .slice none 0 0]) rfl (by kernel_rfl) rfl (by decide) ?_
    clear HF HM; intro a w7 g7 HF HM
    refine keepS (HM.picks [1] (by decide) rfl) (fun HS => ?_)
    refine qi [7] (by kernel_rfl) rfl ?_
    refine all_cons ?_ all_nil
    refine qj HF (i := 7) rfl rfl ?_
    refine e_cl HF [vB (Lb.getD 7 0), .slice (if cp = 8 then some ⟨gA, oA, none⟩ else (some ⟨gA, oA, none⟩ : Option Addr).map (·.add (8 * 1))) (((lenR l).1 - 4) - 8) (cp - 8)] rfl rfl ((qcf (Lb.getD 7 0) hkd _ (((lenR l).1 - 4) - 8) (cp - 8) ((Lb.take (Lb.length - 4)).drop 8) B _ (hL.mem HM hB) (HM.le hB) (HM.old (by rw [hnL]; exact hrL.qd4 (i := 8) (j := (lenR l).1 - 4) (by omega) (by omega) (by omega))) (by omega) (by rw [List.length_drop, List.length_take]; omega) (by omega) (qak (zu hlL _) _)).mono (fun _ _ h => h.some hp)) ?_
    rintro _ w60 ⟨⟨Ab, cb, rfl, ho, hcb⟩, hbw⟩
    refine ⟨_, rfl, ?_⟩
    replace HM := HM.callRow hbw ho
    clear HF; intro a HF
    refine keepS (HM.picks [2] (by decide) rfl) (fun HS => ?_)
    refine ap HF (fun _ => HS) [8, 9, 10] #[true, true, true, true, true, true, true, true, true, true, true, true, false, false] [(62, .bool true), (61, .agg (b.cells Ab cb))] fun a HF => ?_
    refine qi [12] (by kernel_rfl) rfl ?_
    refine all_cons ?_ all_nil
    refine qj HF (i := 12) rfl rfl ?_
    refine e_sa HF HM 1 rfl rfl rfl rfl rfl si_bk rfl rfl (qcd _ _ _) ?_
    clear HM; intro w13_12 HM
    refine noS (by kernel_rfl) ?_
    refine ap HF (pastS (by kernel_rfl)) [13] #[true, true, true, true, true, true, true, true, true, true, true, true, true, true] [(8, .bool true)] fun a HF => ?_
    refine qm (by kernel_rfl) ?_
    replace HF := HF.to [(8, .bool true), (7, vP g7 0), (40, .bool false), (34, .bool false), (26, .bool false), (21, .bool false), (0, .slice (some ⟨gA, oA, none⟩) ((lenR l).1) cp), (15, .bool false), (6, vI ((lenR l).2)), (5, vI ((lenR l).1)), (4, vI 0), (3, vI 0), (2, vP g2 0)]
    exact ⟨Ab, cb, g7, HF.sub (by kernel_rfl), HM.picks [1, 0, 2] (by decide) rfl, hcb⟩
   clear HF HM; rintro a w13 ⟨Ab, cb, g7, HF, HM, hcb⟩
   refine wp_seq (wp_seq (qa ?_))
   refine fp HF 2 0 [(64, .bool false)] fun a HF => ?_
   refine qb rfl (qe HF rfl (wp_skip (wp_seq (qa ?_))))
   refine fy HF HM 0 rfl rfl rfl (v := .agg (b.cells Ab cb)) (Yl.qx rfl rfl si_bk rfl (fun _ h => qd (h.blk (i := 0) rfl))) fun a HF => ?_
   refine fp HF 1 1 [(67, vI ((lenR l).1))] fun a HF => ?_
   refine fo HF 2 rfl rfl ?_
   refine e_sa HF HM 2 rfl rfl rfl rfl rfl si_bk rfl rfl (qcd _ _ _) ?_
   clear HM; intro w16_2 HM
   refine fp HF 2 3 [(4, vI 0), (3, vI ((lenR l).1))] fun a HF => ?_
   refine qb rfl (wp_ret ?_)
   exact ret3 rfl HF (.cellS (i := 2) HF HM rfl rfl si_bk rfl) (.tmp HF rfl) (.tmp HF rfl) (qjc (qjd (e := 0) hl0 hLb (by unfold blkOf; rw [if_neg (by rw [hs]; decide), if_neg (fun hh => hh hmg), if_neg (by omega), if_neg (by omega), hp])) (HM.own (i := 1) rfl) hcb HM.below)
 have hd45 := bne_eq_false_iff_eq.1 hb45
 have hkd : Lb.getD 7 0 = 1 ∨ Lb.getD 7 0 = 2 := by omega
 refine fp HF 6 5 [(40, .bool false)] fun a HF => ?_
 refine qb rfl ?_
 rcases hp : qde (Lb.getD 7 0) ((Lb.take (Lb.length - 4)).drop 8) with _ | b
 ·
  refine qe HF rfl (wp_skip ?_)
  refine qam (fun aS wS => ∃ (cs : Array Value) (g7 : Nat), Fr aS 68 [] [(8, .bool false), (7, vP g7 0), (40, .bool false), (34, .bool false), (26, .bool false), (21, .bool false), (0, .slice (some ⟨gA, oA, none⟩) ((lenR l).1) cp), (15, .bool false), (6, vI ((lenR l).2)), (5, vI ((lenR l).1)), (4, vI 0), (3, vI 0), (2, vP g2 0)] ∧ Mem w wS [.blk g7 cs 28, .blk g2 #[vB 0, vB 0, vI 0, vI 0, .slice none 0 0] 28] ∧ (cs.size = 5) ∧ (∀ v ∈ cs.toList, v.oneCell' = true)) ?_ ?_
  ·
   refine zw HM [.blk g2 #[vB 0, vB 0, vI 0, vI 0, .slice none 0 0] 28] [0] [12] fun HM HS => ?_
   refine ap HF (fun _ => HS) [0, 3, 4] #[true, false, false, true, true, false, false, false, false, false, false, false, false, false] [(57, vI ((lenR l).1)), (56, .slice (some ⟨gA, oA, none⟩) ((lenR l).1) cp), (53, .slice (some ⟨gA, oA, none⟩) ((lenR l).1) cp)] fun a HF => ?_
   refine ay HF HS 1 rfl rfl rfl (v := vP gA (oA + 7)) (Yl.indexAddr (ad := ⟨gA, oA, none⟩) (y := 7) (sz := 1) rfl rfl rfl (by omega) (by kernel_rfl)) fun a HF => ?_
   have hx359 := getD_lt hlL (k := 7) (by first | omega | (simp; omega))
   refine ay HF HS 2 rfl rfl rfl (v := vB (Lb.getD 7 0)) (Yl.qh rfl rfl (by kernel_rfl) (fun _ h => (h.old hrL).zt (k := 7) (za (F := B8) (k := 7) (x := (Lb.getD 7 0)) ((getD_at 0 (k := 7) (by first | omega | (simp; omega))))))) fun a HF => ?_
   refine qo HF (fun _ => HS) (i := 5) rfl rfl (d := 58) rfl (by decide) (by kernel_rfl) (fun _ _ _ h => h) (v := vI (IntKind.i64.wrap (((lenR l).1 : Int) - 4))) (fun _ => Yl.pure (by kernel_rfl)) fun a HF => ?_
   replace HF := HF.sp 58 (vI ((lenR l).1 - 4 : Nat)) rfl (qk (by omega) (by omega))
   refine ay HF HS 6 rfl rfl rfl (v := .slice (if cp = 8 then some ⟨gA, oA, none⟩ else (some ⟨gA, oA, none⟩ : Option Addr).map (·.add (8 * 1))) (((lenR l).1 - 4) - 8) (cp - 8)) (Yl.qhi ei_u8 (i := 8) (j := (lenR l).1 - 4) rfl rfl rfl rfl (by omega) (by omega)) fun a HF => ?_
   refine qi [7, 11] (by kernel_rfl) rfl ?_
   refine all_cons ?_ ?_
   ·refine qj HF (i := 7) rfl rfl ?_
    refine e_cl HF [vB (Lb.getD 7 0), .slice (if cp = 8 then some ⟨gA, oA, none⟩ else (some ⟨gA, oA, none⟩ : Option Addr).map (·.add (8 * 1))) (((lenR l).1 - 4) - 8) (cp - 8)] rfl rfl ((qcf (Lb.getD 7 0) hkd _ (((lenR l).1 - 4) - 8) (cp - 8) ((Lb.take (Lb.length - 4)).drop 8) B _ (hL.mem HM hB) (HM.le hB) (HM.old (by rw [hnL]; exact hrL.qd4 (i := 8) (j := (lenR l).1 - 4) (by omega) (by omega) (by omega))) (by omega) (by rw [List.length_drop, List.length_take]; omega) (by omega) (qak (zu hlL _) _)).mono (fun _ _ h => h.none hp)) ?_
    rintro _ w60 ⟨⟨cs, rfl, hs5, h1⟩, hbw⟩
    refine ⟨_, rfl, ?_⟩
    replace HM := HM.call hbw
    clear HF; intro a HF
    refine keepS (HM.picks [0] (by decide) rfl) (fun HS => ?_)
    refine ap HF (fun _ => HS) [8, 9, 10] #[true, true, true, true, true, true, true, true, true, true, true, false, false, false] [(62, .bool false), (61, .agg cs)] fun a HF => ?_
    refine qi [11] (by kernel_rfl) rfl ?_
    refine all_cons ?_ all_nil
    refine qj HF (i := 11) rfl rfl ?_
    refine qz HF HM (cs := #[vB 0, vB 0, vI 0, vI 0, .slice none 0 0]) rfl (by kernel_rfl) rfl (by decide) ?_
    clear HF HM; intro a w7 g7 HF HM
    refine keepS (HM.picks [1] (by decide) rfl) (fun HS => ?_)
    refine qi [12] (by kernel_rfl) rfl ?_
    refine all_cons ?_ all_nil
    refine qj HF (i := 12) rfl rfl ?_
    refine e_sa HF HM 0 rfl rfl rfl rfl rfl si_bk rfl hs5 (h1) ?_
    clear HM; intro w13_12 HM
    refine noS (by kernel_rfl) ?_
    refine ap HF (pastS (by kernel_rfl)) [13] #[true, true, true, true, true, true, true, true, true, true, true, true, true, true] [(8, .bool false)] fun a HF => ?_
    refine qm (by kernel_rfl) ?_
    exact ⟨cs, g7, HF.sub (by kernel_rfl), HM.picks [0, 1] (by decide) rfl, hs5, h1⟩
   refine all_cons ?_ all_nil
   refine qj HF (i := 11) rfl rfl ?_
   refine qz HF HM (cs := #[vB 0, vB 0, vI 0, vI 0, .slice none 0 0]) rfl (by kernel_rfl) rfl (by decide) ?_
   clear HF HM; intro a w7 g7 HF HM
   refine keepS (HM.picks [1] (by decide) rfl) (fun HS => ?_)
   refine qi [7] (by kernel_rfl) rfl ?_
   refine all_cons ?_ all_nil
   refine qj HF (i := 7) rfl rfl ?_
   refine e_cl HF [vB (Lb.getD 7 0), .slice (if cp = 8 then some ⟨gA, oA, none⟩ else (some ⟨gA, oA, none⟩ : Option Addr).map (·.add (8 * 1))) (((lenR l).1 - 4) - 8) (cp - 8)] rfl rfl ((qcf (Lb.getD 7 0) hkd _ (((lenR l).1 - 4) - 8) (cp - 8) ((Lb.take (Lb.length - 4)).drop 8) B _ (hL.mem HM hB) (HM.le hB) (HM.old (by rw [hnL]; exact hrL.qd4 (i := 8) (j := (lenR l).1 - 4) (by omega) (by omega) (by omega))) (by omega) (by rw [List.length_drop, List.length_take]; omega) (by omega) (qak (zu hlL _) _)).mono (fun _ _ h => h.none hp)) ?_
   rintro _ w60 ⟨⟨cs, rfl, hs5, h1⟩, hbw⟩
   refine ⟨_, rfl, ?_⟩
   replace HM := HM.call hbw
   clear HF; intro a HF
   refine keepS (HM.picks [1] (by decide) rfl) (fun HS => ?_)
   refine ap HF (fun _ => HS) [8, 9, 10] #[true, true, true, true, true, true, true, true, true, true, true, true, false, false] [(62, .bool false), (61, .agg cs)] fun a HF => ?_
   refine qi [12] (by kernel_rfl) rfl ?_
   refine all_cons ?_ all_nil
   refine qj HF (i := 12) rfl rfl ?_
   refine e_sa HF HM 0 rfl rfl rfl rfl rfl si_bk rfl hs5 (h1) ?_
   clear HM; intro w13_12 HM
   refine noS (by kernel_rfl) ?_
   refine ap HF (pastS (by kernel_rfl)) [13] #[true, true, true, true, true, true, true, true, true, true, true, true, true, true] [(8, .bool false)] fun a HF => ?_
   refine qm (by kernel_rfl) ?_
   exact ⟨cs, g7, HF.sub (by kernel_rfl), HM.picks [0, 1] (by decide) rfl, hs5, h1⟩
  clear HF HM; rintro a w13 ⟨cs, g7, HF, HM, hs5, h1⟩
  refine wp_seq (wp_seq (qa ?_))
  refine fp HF 2 0 [(64, .bool true)] fun a HF => ?_
  refine qb rfl (qf HF rfl (wp_seq (qa ?_)))
  refine fy HF HM 0 rfl rfl rfl (v := .agg #[vB 0, vB 0, vI 0, vI 0, .slice none 0 0]) (Yl.build (vs := []) rfl (by kernel_rfl) (by kernel_rfl)) fun a HF => ?_
  refine fo HF 1 rfl rfl ?_
  refine e_sa HF HM 1 rfl rfl rfl rfl rfl si_bk rfl rfl (by simp [Value.oneCell']) ?_
  clear HM; intro w15_1 HM
  refine fp HF 2 2 [(4, vI 106), (3, vI 0)] fun a HF => ?_
  refine qb rfl (wp_ret ?_)
  exact ret3 rfl HF (.cellS (i := 1) HF HM rfl rfl si_bk rfl) (.tmp HF rfl) (.tmp HF rfl) (qa5 (qb0 hl0 hLb (by unfold blkOf; rw [if_neg (by rw [hs]; decide), if_neg (fun hh => hh hmg), if_neg (by omega), if_neg (by omega), hp])) HM.below)
 ·
  refine qe HF rfl (wp_skip ?_)
  refine qam (fun aS wS => ∃ (Ab : Option Addr) (cb : Nat) (g7 : Nat), Fr aS 68 [] [(8, .bool true), (7, vP g7 0), (40, .bool false), (34, .bool false), (26, .bool false), (21, .bool false), (0, .slice (some ⟨gA, oA, none⟩) ((lenR l).1) cp), (15, .bool false), (6, vI ((lenR l).2)), (5, vI ((lenR l).1)), (4, vI 0), (3, vI 0), (2, vP g2 0)] ∧ Mem w wS [.blk g7 (b.cells Ab cb) 28, .row (.slice Ab b.evs.length cb) b.evs.length (b.evs.flatMap evL) 24 11, .blk g2 #[vB 0, vB 0, vI 0, vI 0, .slice none 0 0] 28] ∧ (b.evs.length ≤ cb)) ?_ ?_
  ·
   refine zw HM [.blk g2 #[vB 0, vB 0, vI 0, vI 0, .slice none 0 0] 28] [0] [12] fun HM HS => ?_
   refine ap HF (fun _ => HS) [0, 3, 4] #[true, false, false, true, true, false, false, false, false, false, false, false, false, false] [(57, vI ((lenR l).1)), (56, .slice (some ⟨gA, oA, none⟩) ((lenR l).1) cp), (53, .slice (some ⟨gA, oA, none⟩) ((lenR l).1) cp)] fun a HF => ?_
   refine ay HF HS 1 rfl rfl rfl (v := vP gA (oA + 7)) (Yl.indexAddr (ad := ⟨gA, oA, none⟩) (y := 7) (sz := 1) rfl rfl rfl (by omega) (by kernel_rfl)) fun a HF => ?_
   have hx438 := getD_lt hlL (k := 7) (by first | omega | (simp; omega))
   refine ay HF HS 2 rfl rfl rfl (v := vB (Lb.getD 7 0)) (Yl.qh rfl rfl (by kernel_rfl) (fun _ h => (h.old hrL).zt (k := 7) (za (F := B8) (k := 7) (x := (Lb.getD 7 0)) ((getD_at 0 (k := 7) (by first | omega | (simp; omega))))))) fun a HF => ?_
   refine qo HF (fun _ => HS) (i := 5) rfl rfl (d := 58) rfl (by decide) (by kernel_rfl) (fun _ _ _ h => h) (v := vI (IntKind.i64.wrap (((lenR l).1 : Int) - 4))) (fun _ => Yl.pure (by kernel_rfl)) fun a HF => ?_
   replace HF := HF.sp 58 (vI ((lenR l).1 - 4 : Nat)) rfl (qk (by omega) (by omega))
   refine ay HF HS 6 rfl rfl rfl (v := .slice (if cp = 8 then some ⟨gA, oA, none⟩ else (some ⟨gA, oA, none⟩ : Option Addr).map (·.add (8 * 1))) (((lenR l).1 - 4) - 8) (cp - 8)) (Yl.qhi ei_u8 (i := 8) (j := (lenR l).1 - 4) rfl rfl rfl rfl (by omega) (by omega)) fun a HF => ?_
   refine qi [7, 11] (by kernel_rfl) rfl ?_
   refine all_cons ?_ ?_
   ·refine qj HF (i := 7) rfl rfl ?_
    refine e_cl HF [vB (Lb.getD 7 0), .slice (if cp = 8 then some ⟨gA, oA, none⟩ else (some ⟨gA, oA, none⟩ : Option Addr).map (·.add (8 * 1))) (((lenR l).1 - 4) - 8) (cp - 8)] rfl rfl ((qcf (Lb.getD 7 0) hkd _ (((lenR l).1 - 4) - 8) (cp - 8) ((Lb.take (Lb.length - 4)).drop 8) B _ (hL.mem HM hB) (HM.le hB) (HM.old (by rw [hnL]; exact hrL.qd4 (i := 8) (j := (lenR l).1 - 4) (by omega) (by omega) (by omega))) (by omega) (by rw [List.length_drop, List.length_take]; omega) (by omega) (qak (zu hlL _) _)).mono (fun _ _ h => h.some hp)) ?_
    rintro _ w60 ⟨⟨Ab, cb, rfl, ho, hcb⟩, hbw⟩
    refine ⟨_, rfl, ?_⟩
    replace HM := HM.callRow hbw ho
    clear HF; intro a HF
    refine keepS (HM.picks [1] (by decide) rfl) (fun HS => ?_)
    refine ap HF (fun _ => HS) [8, 9, 10] #[true, true, true, true, true, true, true, true, true, true, true, false, false, false] [(62, .bool true), (61, .agg (b.cells Ab cb))] fun a HF => ?_
    refine qi [11] (by kernel_rfl) rfl ?_
    refine all_cons ?_ all_nil
    refine qj HF (i := 11) rfl rfl ?_
    refine qz HF HM (cs := #[vB 0, vB 0, vI 0, vI 0, .slice none 0 0]) rfl (by kernel_rfl) rfl (by decide) ?_
    clear HF HM; intro a w7 g7 HF HM
    refine keepS (HM.picks [2] (by decide) rfl) (fun HS => ?_)
    refine qi [12] (by kernel_rfl) rfl ?_
    refine all_cons ?_ all_nil
    refine qj HF (i := 12) rfl rfl ?_
    refine e_sa HF HM 0 rfl rfl rfl rfl rfl si_bk rfl rfl (qcd _ _ _) ?_
    clear HM; intro w13_12 HM
    refine noS (by kernel_rfl) ?_
    refine ap HF (pastS (by kernel_rfl)) [13] #[true, true, true, true, true, true, true, true, true, true, true, true, true, true] [(8, .bool true)] fun a HF => ?_
    refine qm (by kernel_rfl) ?_
    exact ⟨Ab, cb, g7, HF.sub (by kernel_rfl), HM.picks [0, 1, 2] (by decide) rfl, hcb⟩
   refine all_cons ?_ all_nil
   refine qj HF (i := 11) rfl rfl ?_
   refine qz HF HM (cs := #[vB 0, vB 0, vI 0, vI 0, .slice none 0 0]) rfl (by kernel_rfl) rfl (by decide) ?_
   clear HF HM; intro a w7 g7 HF HM
   refine keepS (HM.picks [1] (by decide) rfl) (fun HS => ?_)
   refine qi [7] (by kernel_rfl) rfl ?_
   refine all_cons ?_ all_nil
   refine qj HF (i := 7) rfl rfl ?_
   refine e_cl HF [vB (Lb.getD 7 0), .slice (if cp = 8 then some ⟨gA, oA, none⟩ else (some ⟨gA, oA, none⟩ : Option Addr).map (·.add (8 * 1))) (((lenR l).1 - 4) - 8) (cp - 8)] rfl rfl ((qcf (Lb.getD 7 0) hkd _ (((lenR l).1 - 4) - 8) (cp - 8) ((Lb.take (Lb.length - 4)).drop 8) B _ (hL.mem HM hB) (HM.le hB) (HM.old (by rw [hnL]; exact hrL.qd4 (i := 8) (j := (lenR l).1 - 4) (by omega) (by omega) (by omega))) (by omega) (by rw [List.length_drop, List.length_take]; omega) (by omega) (qak (zu hlL _) _)).mono (fun _ _ h => h.some hp)) ?_
   rintro _ w60 ⟨⟨Ab, cb, rfl, ho, hcb⟩, hbw⟩
   refine ⟨_, rfl, ?_⟩
   replace HM := HM.callRow hbw ho
   clear HF; intro a HF
   refine keepS (HM.picks [2] (by decide) rfl) (fun HS => ?_)
   refine ap HF (fun _ => HS) [8, 9, 10] #[true, true, true, true, true, true, true, true, true, true, true, true, false, false] [(62, .bool true), (61, .agg (b.cells Ab cb))] fun a HF => ?_
   refine qi [12] (by kernel_rfl) rfl ?_
   refine all_cons ?_ all_nil
   refine qj HF (i := 12) rfl rfl ?_
   refine e_sa HF HM 1 rfl rfl rfl rfl rfl si_bk rfl rfl (qcd _ _ _) ?_
   clear HM; intro w13_12 HM
   refine noS (by kernel_rfl) ?_
   refine ap HF (pastS (by kernel_rfl)) [13] #[true, true, true, true, true, true, true, true, true, true, true, true, true, true] [(8, .bool true)] fun a HF => ?_
   refine qm (by kernel_rfl) ?_
   exact ⟨Ab, cb, g7, HF.sub (by kernel_rfl), HM.picks [1, 0, 2] (by decide) rfl, hcb⟩
  clear HF HM; rintro a w13 ⟨Ab, cb, g7, HF, HM, hcb⟩
  refine wp_seq (wp_seq (qa ?_))
  refine fp HF 2 0 [(64, .bool false)] fun a HF => ?_
  refine qb rfl (qe HF rfl (wp_skip (wp_seq (qa ?_))))
  refine fy HF HM 0 rfl rfl rfl (v := .agg (b.cells Ab cb)) (Yl.qx rfl rfl si_bk rfl (fun _ h => qd (h.blk (i := 0) rfl))) fun a HF => ?_
  refine fp HF 1 1 [(67, vI ((lenR l).1))] fun a HF => ?_
  refine fo HF 2 rfl rfl ?_
  refine e_sa HF HM 2 rfl rfl rfl rfl rfl si_bk rfl rfl (qcd _ _ _) ?_
  clear HM; intro w16_2 HM
  refine fp HF 2 3 [(4, vI 0), (3, vI ((lenR l).1))] fun a HF => ?_
  refine qb rfl (wp_ret ?_)
  exact ret3 rfl HF (.cellS (i := 2) HF HM rfl rfl si_bk rfl) (.tmp HF rfl) (.tmp HF rfl) (qjc (qjd (e := 0) hl0 hLb (by unfold blkOf; rw [if_neg (by rw [hs]; decide), if_neg (fun hh => hh hmg), if_neg (by omega), if_neg (by omega), hp])) (HM.own (i := 1) rfl) hcb HM.below)
theorem qet {b d : Bk} (h : (b.kind : Int) ≠ d.kind ∨ (b.cpu : Int) ≠ d.cpu ∨ b.lost ≠ d.lost ∨ b.next ≠ d.next) : decide (b = d) = false := by
 rw [decide_eq_false]
 rintro rfl
 omega
theorem qvj {b d : Bk} (h1 : b.kind = d.kind) (h2 : b.cpu = d.cpu) (h3 : b.lost = d.lost) (h4 : b.next = d.next) : decide (b.evs = d.evs) = decide (b = d) := by
 rw [Bool.eq_iff_iff, decide_eq_true_eq, decide_eq_true_eq]
 cases b; cases d
 simp only at h1 h2 h3 h4
 subst h1; subst h2; subst h3; subst h4
 simp
theorem qog (b d : Bk) (A A2 : Option Addr) (c c2 : Nat) (w : World) (hr : Rd w w.heap.size 11 A b.evs.length (b.evs.flatMap evL)) (hr2 : Rd w w.heap.size 11 A2 d.evs.length (d.evs.flatMap evL)) (hn : b.evs.length ≤ 1000000) :
    Calls Tryz.prog 21 #[.agg (b.cells A c), .agg (d.cells A2 c2)] w (Is w (.bool (decide (b = d)))) := by
 refine qg (vs := [.agg (b.cells A c), .agg (d.cells A2 c2)]) Tryz.func21 rfl rfl (by kernel_rfl) (σ0 := [(0, .agg (b.cells A c)), (1, .agg (d.cells A2 c2))]) rfl ?_
 intro a HF
 have HM := Mem.start w
 refine wp_seq (qa ?_)
 refine fo HF 0 rfl rfl ?_
 refine e_box HF HM (cs := (b.cells A c)) rfl rfl rfl rfl (by decide) ?_
 clear HF HM; intro a w2 g2 HF HM
 refine fo HF 1 rfl rfl ?_
 refine e_box HF HM (cs := (d.cells A2 c2)) rfl rfl rfl rfl (by decide) ?_
 clear HF HM; intro a w3 g3 HF HM
 refine fp HF 1 2 [(4, .bool false)] fun a HF => ?_
 refine qb rfl (wp_seq (qa ?_))
 refine fp HF 1 0 [(5, vP g2 0)] fun a HF => ?_
 refine fy HF HM 1 rfl rfl rfl (v := vB b.kind) (Yl.qh rfl rfl (by kernel_rfl) (fun _ h => h.cell (i := 1) rfl (rfl))) fun a HF => ?_
 refine fp HF 1 2 [(7, vP g3 0)] fun a HF => ?_
 refine fy HF HM 3 rfl rfl rfl (v := vB d.kind) (Yl.qh rfl rfl (by kernel_rfl) (fun _ h => h.cell (i := 0) rfl (rfl))) fun a HF => ?_
 refine fp HF 2 4 [(10, .bool ((b.kind : Int) == (d.kind : Int)))] fun a HF => ?_
 rcases HF.tf 10 rfl with ⟨hb10, HF⟩ | ⟨hb10, HF⟩
 ·
  have hd10 := eq_of_beq hb10
  refine fp HF 1 6 [(11, vP g2 1)] fun a HF => ?_
  refine fy HF HM 7 rfl rfl rfl (v := vB b.cpu) (Yl.qh rfl rfl (by kernel_rfl) (fun _ h => h.cell (i := 1) rfl (rfl))) fun a HF => ?_
  refine fp HF 1 8 [(13, vP g3 1)] fun a HF => ?_
  refine fy HF HM 9 rfl rfl rfl (v := vB d.cpu) (Yl.qh rfl rfl (by kernel_rfl) (fun _ h => h.cell (i := 0) rfl (rfl))) fun a HF => ?_
  refine fp HF 3 10 [(17, .bool ((b.cpu : Int) == (d.cpu : Int)))] fun a HF => ?_
  rcases HF.tf 17 rfl with ⟨hb17, HF⟩ | ⟨hb17, HF⟩
  ·
   have hd17 := eq_of_beq hb17
   refine fp HF 1 13 [(18, vP g2 2)] fun a HF => ?_
   refine fy HF HM 14 rfl rfl rfl (v := vI b.lost) (Yl.qh rfl rfl (by kernel_rfl) (fun _ h => h.cell (i := 1) rfl (rfl))) fun a HF => ?_
   refine fp HF 1 15 [(20, vP g3 2)] fun a HF => ?_
   refine fy HF HM 16 rfl rfl rfl (v := vI d.lost) (Yl.qh rfl rfl (by kernel_rfl) (fun _ h => h.cell (i := 0) rfl (rfl))) fun a HF => ?_
   refine fp HF 3 17 [(24, .bool ((b.lost : Int) == (d.lost : Int)))] fun a HF => ?_
   rcases HF.tf 24 rfl with ⟨hb24, HF⟩ | ⟨hb24, HF⟩
   ·
    have hd24 := eq_of_beq hb24
    refine fp HF 1 20 [(25, vP g2 3)] fun a HF => ?_
    refine fy HF HM 21 rfl rfl rfl (v := vI b.next) (Yl.qh rfl rfl (by kernel_rfl) (fun _ h => h.cell (i := 1) rfl (rfl))) fun a HF => ?_
    refine fp HF 1 22 [(27, vP g3 3)] fun a HF => ?_
    refine fy HF HM 23 rfl rfl rfl (v := vI d.next) (Yl.qh rfl rfl (by kernel_rfl) (fun _ h => h.cell (i := 0) rfl (rfl))) fun a HF => ?_
    refine fp HF 3 24 [(31, .bool ((b.next : Int) == (d.next : Int)))] fun a HF => ?_
    rcases HF.tf 31 rfl with ⟨hb31, HF⟩ | ⟨hb31, HF⟩
    ·
     have hd31 := eq_of_beq hb31
     refine fp HF 1 27 [(32, vP g2 4)] fun a HF => ?_
     refine fy HF HM 28 rfl rfl rfl (v := .slice A b.evs.length c) (Yl.qh rfl rfl (by kernel_rfl) (fun _ h => h.cell (i := 1) rfl (rfl))) fun a HF => ?_
     refine fp HF 1 29 [(34, vP g3 4)] fun a HF => ?_
     refine fy HF HM 30 rfl rfl rfl (v := .slice A2 d.evs.length c2) (Yl.qh rfl rfl (by kernel_rfl) (fun _ h => h.cell (i := 0) rfl (rfl))) fun a HF => ?_
     refine fo HF 31 rfl rfl ?_
     refine e_is HF HM [.slice A b.evs.length c, .slice A2 d.evs.length c2] (.bool (decide (b.evs = d.evs))) rfl rfl (qsg _ _ _ _ _ _ b.evs d.evs _ (HM.old hr) (HM.old hr2) rfl rfl (by omega)) fun w36 hbw HM a HF => ?_
     refine fp HF 2 32 [(4, .bool (decide (b.evs = d.evs)))] fun a HF => ?_
     refine qb rfl (wp_ret ?_)
     replace HM := HM.picks (fs' := []) [] (by decide) rfl
     exact ret1 rfl HF (.tmp HF rfl) (⟨by rw [qvj (by omega) (by omega) (by omega) (by omega)], HM.below⟩)
    have hd31 := ne_of_beq_false hb31
    refine fp HF 7 27 [(4, .bool false)] fun a HF => ?_
    refine qb rfl (wp_ret ?_)
    replace HM := HM.picks (fs' := []) [] (by decide) rfl
    exact ret1 rfl HF (.tmp HF rfl) (⟨by rw [qet (by omega)], HM.below⟩)
   have hd24 := ne_of_beq_false hb24
   refine fp HF 14 20 [(4, .bool false)] fun a HF => ?_
   refine qb rfl (wp_ret ?_)
   replace HM := HM.picks (fs' := []) [] (by decide) rfl
   exact ret1 rfl HF (.tmp HF rfl) (⟨by rw [qet (by omega)], HM.below⟩)
  have hd17 := ne_of_beq_false hb17
  refine fp HF 21 13 [(4, .bool false)] fun a HF => ?_
  refine qb rfl (wp_ret ?_)
  replace HM := HM.picks (fs' := []) [] (by decide) rfl
  exact ret1 rfl HF (.tmp HF rfl) (⟨by rw [qet (by omega)], HM.below⟩)
 have hd10 := ne_of_beq_false hb10
 refine fp HF 28 6 [(4, .bool false)] fun a HF => ?_
 refine qb rfl (wp_ret ?_)
 replace HM := HM.picks (fs' := []) [] (by decide) rfl
 exact ret1 rfl HF (.tmp HF rfl) (⟨by rw [qet (by omega)], HM.below⟩)
theorem qa3.as {w w' : World} {er er' : Nat} {R R' : List Nat} {r : Ending} (h : qa3 w er R r w') (h1 : er = er') (h2 : R = R') : qa3 w er' R' r w' := by subst h1; subst h2; exact h
theorem qia (b : Bk) (hok : b.Ok) (A : Option Addr) (c B : Nat) (w : World) (hL : LaidX B w) (hB : B ≤ w.heap.size) (hr : Rd w w.heap.size 11 A b.evs.length (b.evs.flatMap evL)) (hn : b.evs.length ≤ 1000000) {er : Nat} {R : List Nat} (h1 : b.err = er) (h2 : b.out = R) : Calls Tryz.prog 14 #[.agg (b.cells A c)] w (qa3 w er R) :=
 (qgu b hok A c B w hL hB hr hn).mono fun _ _ h => h.as h1 h2
theorem qoh (b : Bk) (hok : b.Ok) (A : Option Addr) (c B : Nat) (w : World) (hL : LaidX B w) (hB : B ≤ w.heap.size) (hr : Rd w w.heap.size 11 A b.evs.length (b.evs.flatMap evL)) (hn : b.evs.length ≤ 1000000) {er n : Nat} (h1 : b.err = er) (h2 : b.out.length = n) : Calls Tryz.prog 16 #[.agg (b.cells A c)] w (Is w (.tuple #[.int .i64 (n : Int), .int .i64 (er : Int)])) :=
 (qso b hok A c B w hL hB hr hn).mono fun _ _ h => by rw [h1, h2] at h; exact h
theorem qib (b : Bk) (hok : b.Ok) (A : Option Addr) (c B : Nat) (w : World) (hL : LaidX B w) (hB : B ≤ w.heap.size) (hr : Rd w w.heap.size 11 A b.evs.length (b.evs.flatMap evL)) (hn : b.evs.length ≤ 1000000) {er : Nat} (h1 : b.err = er) : Calls Tryz.prog 19 #[.agg (b.cells A c)] w (Is w (.int .i64 (er : Int))) :=
 (qps b hok A c B w hL hB hr hn).mono fun _ _ h => by rw [h1] at h; exact h
theorem qhm (A : Option Addr) (n cp : Nat) (l : List Nat) (B : Nat) (w : World) (hL : LaidX B w) (hB : B ≤ w.heap.size) (hr : Rd w w.heap.size 1 A n (l.map B8)) (hc : n ≤ cp) (hln : l.length = n) (hn : n ≤ 9223372036854775807) (hl : ∀ b ∈ l, b < 256) {b : Bk} {m er : Nat} (h : readB l = (b, m, er)) :
  Calls Tryz.prog 28 #[.slice A n cp] w fun r w' => (∃ A c, r = .returned (.tuple #[.agg (b.cells A c), .int .i64 (m : Int), .int .i64 (er : Int)]) ∧ w'.ownsRow w.heap.size 24 11 (.slice A b.evs.length c) b.evs.length (b.evs.flatMap evL) ∧ b.evs.length ≤ c) ∧ Below w.heap.size w w' :=
 (qss A n cp l B w hL hB hr hc hln hn hl).mono fun _ _ hh => by rw [h] at hh; exact hh
theorem qst (A : Option Addr) (n cp : Nat) (l : List Nat) (w : World) (hr : Rd w w.heap.size 1 A n (l.map B8)) (hln : l.length = n) (hn : n ≤ 9223372036854775807) (hl : ∀ b ∈ l, b < 256) {m er : Nat} (h : lenR l = (m, er)) :
  Calls Tryz.prog 26 #[.slice A n cp] w (Is w (.tuple #[.int .i64 (m : Int), .int .i64 (er : Int)])) :=
 (qgs A n cp l w hr hln hn hl).mono fun _ _ hh => by rw [h] at hh; exact hh
theorem qsu {l : List Nat} {d : Array UInt8} (h : (l.map fun b => UInt8.ofNat b).toArray = d) : ((bstr l).toList == (ByteArray.mk d).toList) = true := by subst h; unfold bstr; simp
theorem qnf {l m : List Nat} (hl : ∀ b ∈ l, b < 256) (hm : ∀ b ∈ m, b < 256) : ((bstr l).toList == (bstr m).toList) = decide (l = m) := by
 rw [Bool.eq_iff_iff, beq_iff_eq, decide_eq_true_eq]
 constructor
 ·intro h
  refine quh hl hm ?_
  rw [ByteArray.toList_eq, ByteArray.toList_eq] at h
  cases hx : bstr l; cases hy : bstr m
  rw [hx, hy] at h
  simpa using h
 ·rintro rfl; rfl
def tickE : Ev := { Ev.zero with seq := 5, time := 340, cpu := 2, kind := 5, ticks := 40, got := 7 }
def awX : List Nat := [13, 0, 0, 0, 113, 116, 1, 2, 7, 91, 144, 57, 154]
def awY : List Nat := [23, 0, 0, 0, 113, 116, 1, 1, 2, 0, 1, 5, 212, 2, 5, 0, 0, 40, 7, 28, 64, 73, 151]
def awZ : List Nat := [13, 0, 0, 0, 113, 116, 1, 2, 6, 91, 144, 57, 154]
theorem numOk (k c : Nat) (lo nx : Int) (hk : k < 256) (hc : c < 256) (hl : I64 lo) (hn : I64 nx) : Bk.Ok ⟨k, c, lo, nx, []⟩ := ⟨hk, hc, hl, hn, by intro e he; cases he⟩
theorem qsv : tickE.Ok := ⟨⟨by decide, by decide⟩, ⟨by decide, by decide⟩, by decide, by decide, ⟨by decide, by decide⟩, ⟨by decide, by decide⟩, ⟨by decide, by decide⟩, ⟨by decide, by decide⟩, ⟨by decide, by decide⟩, by decide, ⟨by decide, by decide⟩⟩
theorem oneOk {k c : Nat} {lo nx : Int} {e : Ev} (hk : k < 256) (hc : c < 256) (hl : I64 lo) (hn : I64 nx) (he : e.Ok) : Bk.Ok ⟨k, c, lo, nx, [e]⟩ := ⟨hk, hc, hl, hn, by intro x hx; simp at hx; subst hx; exact he⟩
theorem ba1 : Bk.err ⟨2, 0, 0, 7, []⟩ = 0 ∧ Bk.out ⟨2, 0, 0, 7, []⟩ = awX := by decide +kernel
theorem ba2 : Bk.err ⟨1, 2, 0, 0, [tickE]⟩ = 0 ∧ Bk.out ⟨1, 2, 0, 0, [tickE]⟩ = awY := by decide +kernel
theorem ba3 : Bk.err ⟨1, 2, 3, 0, []⟩ = 0 ∧ (Bk.out ⟨1, 2, 3, 0, []⟩).length = 15 := by decide +kernel
theorem ba4 : readB awX = (⟨2, 0, 0, 7, []⟩, 13, 0) := by decide +kernel
theorem ba5 : readB awZ = (Bk.zero, 0, 102) := by decide +kernel
theorem ba6 : readB (awZ.take 4) = (Bk.zero, 0, 100) := by decide +kernel
theorem ba7 : lenR [12, 0, 0, 0] = (0, 101) := by decide +kernel
theorem ba8 : Bk.err ⟨1, 2, 0, 0, []⟩ = 107 := by decide +kernel
theorem ba9 : Bk.err ⟨2, 0, 0, 0, []⟩ = 107 := by decide +kernel
theorem qym : ∀ b ∈ awX, b < 256 := by decide
theorem qwn : ∀ b ∈ awZ, b < 256 := by decide
def atOf (b : Bs) (l : List Ev) : Nat → Bs
 | 0 => b
 | k + 1 => (l.getD k Ev.zero).at
theorem qlt : ∀ (l : List Ev) (b : Bs) (k : Nat), k < l.length → recs b (l.take (k + 1)) = recs b (l.take k) ++ zk (atOf b l k) (l.getD k Ev.zero)
 | [], _, _, h => by simp at h
 | e :: r, b, 0, _ => by simp [recs, atOf]
 | e :: r, b, k + 1, h => by
  have h' : k < r.length := by simpa using h
  have ih := qlt r e.at k h'
  rw [List.take_succ_cons, List.take_succ_cons, recs, recs, ih, List.append_assoc]
  congr 2
  cases k with
  | zero => rfl
  | succ k => rfl
theorem qlu {cpu : Nat} : ∀ (l : List Ev) (p : Option Ev) (b : Bs) (k : Nat), Chain cpu p b l → k < l.length → Fit (atOf b l k) (l.getD k Ev.zero)
 | [], _, _, _, _, h => by simp at h
 | e :: r, p, b, 0, hc, _ => hc.1
 | e :: r, p, b, k + 1, hc, h => by
  have h' : k < r.length := by simpa using h
  have ih := qlu r (some e) e.at k hc.2.2.2 h'
  cases k with
  | zero => exact ih
  | succ k => exact ih
theorem qxc {b : Bs} {e : Ev} (h : Fit b e) : zh b e = 0 ∧ qai b e = zk b e := by
 have h1 : zh b e = 0 := by
  unfold zh
  rw [if_neg (by have := h.check; omega), if_pos ⟨h.right, h.behind⟩]
 exact ⟨h1, by unfold qai; rw [if_pos h1]⟩
def Bk.atK (b : Bk) (k : Nat) : Bs := atOf b.base b.evs k
def Bk.sz (b : Bk) (k : Nat) : Nat := 12 + (vbytes b.cpu).length + (vbytes b.lost.toNat).length + (vbytes b.base.seq.toNat).length + (vbytes b.base.time.toNat).length + (recs b.base (b.evs.take k)).length
def Bk.big (b : Bk) (k : Nat) : Bool := decide (4096 < b.sz k + (vbytes k).length)
def Bk.qqs (b : Bk) : Nat := ((List.range b.evs.length).find? fun i => b.big (i + 1)).getD b.evs.length
def Bk.fill (b : Bk) : Nat × Nat := if b.fits = false then (0, 107) else (b.qqs, 0)
theorem sz_le (b : Bk) (k : Nat) : b.sz k ≤ 52 + 61 * k := by
 unfold Bk.sz
 have h1 := qr b.cpu
 have h2 := qr b.lost.toNat
 have h4 := qr b.base.seq.toNat
 have h5 := qr b.base.time.toNat
 have h6 := qf0 (b.evs.take k) b.base
 rw [List.length_take] at h6
 have : min k b.evs.length ≤ k := Nat.min_le_left _ _
 have h7 : 61 * min k b.evs.length ≤ 61 * k := Nat.mul_le_mul_left _ this
 omega
theorem qxd (b : Bk) : b.sz 0 = 8 + ([b.cpu, b.lost.toNat, b.base.seq.toNat, b.base.time.toNat].flatMap vbytes).length + 4 := by
 unfold Bk.sz
 simp [recs]
 omega
theorem qsx {b : Bk} {k : Nat} (h : k < b.evs.length) : b.sz (k + 1) = b.sz k + (zk (b.atK k) (b.evs.getD k Ev.zero)).length := by
 unfold Bk.sz Bk.atK
 rw [qlt _ _ _ h, List.length_append]
 omega
theorem qoi {b : Bk} {k : Nat} (hk : k < b.evs.length) (hno : ∀ i, i < k → b.big (i + 1) = false) (h : b.big (k + 1) = true) : b.qqs = k := by
 unfold Bk.qqs
 have : (List.range b.evs.length).find? (fun i => b.big (i + 1)) = some k := by
  rw [List.find?_eq_some_iff_append]
  refine ⟨h, List.range k, List.range' (k + 1) (b.evs.length - k - 1), ?_, ?_⟩
  ·rw [List.range_eq_range', List.range_eq_range']
   have e1 : b.evs.length = k + (b.evs.length - k) := by omega
   have e2 : b.evs.length - k = (b.evs.length - k - 1) + 1 := by omega
   conv => lhs; rw [e1, ← List.range'_append_1, e2, List.range'_succ]
   simp
  ·intro i hi
   have := hno i (List.mem_range.1 hi)
   simp [this]
 rw [this]
 rfl
theorem qic {b : Bk} (hno : ∀ i, i < b.evs.length → b.big (i + 1) = false) : b.qqs = b.evs.length := by
 unfold Bk.qqs
 have : (List.range b.evs.length).find? (fun i => b.big (i + 1)) = none := by
  rw [List.find?_eq_none]
  intro i hi
  have := hno i (List.mem_range.1 hi)
  simp [this]
 rw [this]
 rfl
theorem qfd {w w' : World} {b : Bk} {n e : Nat} (h : b.fill = (n, e)) (hb : Below w.heap.size w w') : Is w (.tuple #[.int .i64 (b.fill.1 : Int), .int .i64 (b.fill.2 : Int)]) (.returned (.tuple #[.int .i64 (n : Int), .int .i64 (e : Int)])) w' := by rw [h]; exact ⟨rfl, hb⟩
theorem qks (w : World) : Calls Tryz.prog 4 #[] w (Is w (.agg tickE.cells)) := by
 refine qg (vs := []) Tryz.func4 rfl rfl (by kernel_rfl) (σ0 := []) rfl ?_
 intro a HF
 have HM := Mem.start w
 refine wp_seq (qa ?_)
 refine fo HF 0 rfl rfl ?_
 refine qz HF HM (cs := #[vI 0, vI 0, vB 0, vB 0, vI 0, vI 0, vI 0, vI 0, vI 0, vQ 0, vI 0]) rfl (by kernel_rfl) rfl (by decide) ?_
 clear HF HM; intro a w0 g0 HF HM
 refine qb rfl (wp_seq (qa ?_))
 refine fy HF HM 0 rfl rfl rfl (v := .agg #[vI 5, vI 340, vB 2, vB 5, vI 0, vI 0, vI 0, vI 0, vI 40, vQ 0, vI 7]) (Yl.build (vs := [(0, vI 5), (1, vI 340), (2, vB 2), (3, vB 5), (8, vI 40), (10, vI 7)]) rfl (by kernel_rfl) (by kernel_rfl)) fun a HF => ?_
 refine fo HF 1 rfl rfl ?_
 refine e_sa HF HM 0 rfl rfl rfl rfl rfl ⟨(by kernel_rfl), (by kernel_rfl)⟩ rfl rfl (by simp [Value.oneCell']) ?_
 clear HM; intro w1_1 HM
 refine qb rfl (wp_ret ?_)
 exact ret1 rfl HF (.cellS (i := 0) HF HM rfl rfl ⟨(by kernel_rfl), (by kernel_rfl)⟩ rfl) (⟨rfl, HM.below⟩)
theorem qql (B : Nat) (w : World) (hL : LaidX B w) (hB : B ≤ w.heap.size) : Calls Tryz.prog 13 #[] w (Is w (.bool true)) := by
 refine qg (vs := []) Tryz.func13 rfl rfl (by kernel_rfl) (σ0 := []) rfl ?_
 intro a HF
 have HM := Mem.start w
 refine wp_seq (qa ?_)
 refine fp HF 1 0 [(0, .bool false)] fun a HF => ?_
 refine qb rfl (wp_seq (qa ?_))
 refine fy HF HM 0 rfl rfl rfl (v := .agg #[vB 2, vB 0, vI 0, vI 7, .slice none 0 0]) (Yl.build (vs := [(0, vB 2), (3, vI 7)]) rfl (by kernel_rfl) (by kernel_rfl)) fun a HF => ?_
 refine fo HF 1 rfl rfl ?_
 refine e_cl HF [.agg #[vB 2, vB 0, vI 0, vI 7, .slice none 0 0]] rfl rfl (qia (⟨2, 0, 0, 7, []⟩ : Bk) (numOk 2 0 0 7 (by decide) (by decide) (by unfold I64; decide) (by unfold I64; decide)) none 0 B _ (hL.mem HM hB) (HM.le hB) (Rd.nil) (by decide) (ba1.1) (ba1.2)) ?_
 rintro _ w20 ⟨⟨A20, c20, rfl, ho, hc20⟩, hbw⟩
 refine ⟨_, rfl, ?_⟩
 replace HM := HM.callRow hbw ho
 clear HF; intro a HF
 have hcn20 : 13 ≤ c20 := hc20
 refine fp HF 5 2 [(2, vI 0), (1, .slice A20 13 c20)] fun a HF => ?_
 refine qb rfl (wp_seq (qa ?_))
 refine fo HF 0 rfl rfl ?_
 refine e_is HF HM [] (.agg #[vI 5, vI 340, vB 2, vB 5, vI 0, vI 0, vI 0, vI 0, vI 40, vQ 0, vI 7]) rfl rfl (qks _) fun w24 hbw HM a HF => ?_
 refine fo HF 1 rfl rfl ?_
 refine qp HF HM (vs := [(0, .agg #[vI 5, vI 340, vB 2, vB 5, vI 0, vI 0, vI 0, vI 0, vI 40, vQ 0, vI 7])]) (cs := #[vI 5, vI 340, vB 2, vB 5, vI 0, vI 0, vI 0, vI 0, vI 40, vQ 0, vI 7]) rfl ei_ev (by decide) rfl (by kernel_rfl) rfl (by decide) ?_
 clear HF HM; intro a w25 g25 HF HM
 refine fy HF HM 2 rfl rfl rfl (v := .agg #[vB 1, vB 2, vI 0, vI 0, vS g25 1 1]) (Yl.build (vs := [(0, vB 1), (1, vB 2), (4, vS g25 1 1)]) rfl (by kernel_rfl) (by kernel_rfl)) fun a HF => ?_
 refine fo HF 3 rfl rfl ?_
 refine e_cl HF [.agg #[vB 1, vB 2, vI 0, vI 0, vS g25 1 1]] rfl rfl (qia (⟨1, 2, 0, 0, [tickE]⟩ : Bk) (oneOk (by decide) (by decide) (by unfold I64; decide) (by unfold I64; decide) qsv) (some ⟨g25, 0, none⟩) 1 B _ (hL.mem HM hB) (HM.le hB) (HM.rdBlk (i := 0) (n := 1) (size := 11) rfl rfl) (by decide) (ba2.1) (ba2.2)) ?_
 rintro _ w27 ⟨⟨A27, c27, rfl, ho, hc27⟩, hbw⟩
 refine ⟨_, rfl, ?_⟩
 replace HM := HM.callRow hbw ho
 clear HF; intro a HF
 have hcn27 : 23 ≤ c27 := hc27
 refine fp HF 5 4 [(4, vI 0), (3, .slice A27 23 c27)] fun a HF => ?_
 refine qb rfl (wp_seq (qa ?_))
 refine fy HF HM 0 rfl rfl rfl (v := .agg #[vB 1, vB 2, vI 3, vI 0, .slice none 0 0]) (Yl.build (vs := [(0, vB 1), (1, vB 2), (2, vI 3)]) rfl (by kernel_rfl) (by kernel_rfl)) fun a HF => ?_
 refine fo HF 1 rfl rfl ?_
 refine e_is HF HM [.agg #[vB 1, vB 2, vI 3, vI 0, .slice none 0 0]] (.tuple #[vI 15, vI 0]) rfl rfl (qoh (⟨1, 2, 3, 0, []⟩ : Bk) (numOk 1 2 3 0 (by decide) (by decide) (by unfold I64; decide) (by unfold I64; decide)) none 0 B _ (hL.mem HM hB) (HM.le hB) (Rd.nil) (by decide) (ba3.1) (ba3.2)) fun w32 hbw HM a HF => ?_
 refine fp HF 5 2 [(6, vI 0), (5, vI 15)] fun a HF => ?_
 refine qb rfl (wp_seq (wp_seq (qa ?_)))
 refine fp HF 8 0 [(42, .slice A20 13 c20), (41, .bool false)] fun a HF => ?_
 refine fy HF HM 8 rfl rfl rfl (Yl.len rfl rfl (by kernel_rfl)) fun a HF => ?_
 refine fp HF 4 9 [(47, .slice A20 13 c20), (46, .bool false)] fun a HF => ?_
 refine fy HF HM 13 rfl rfl rfl (v := .slice A20 9 c20) (Yl.zx ei_u8 (j := 9) rfl rfl rfl (by omega)) fun a HF => ?_
 refine fy HF HM 14 rfl rfl rfl (v := .string (bstr (awX.take 9))) (Yl.str rfl rfl (fun _ h => (h.rd (i := 2) rfl).toB8 (k := 9) (by decide))) fun a HF => ?_
 refine fp HF 1 15 [(50, .bool (!(((bstr (awX.take 9))).toList == ((ByteArray.mk #[13, 0, 0, 0, 113, 116, 1, 2, 7])).toList)))] fun a HF => ?_
 replace HF := HF.sp 50 (.bool false) rfl (by rw [qsu (by kernel_rfl)]; rfl)
 refine fp HF 3 16 [(53, .slice A27 23 c27), (52, .bool false)] fun a HF => ?_
 refine fy HF HM 19 rfl rfl rfl (Yl.len rfl rfl (by kernel_rfl)) fun a HF => ?_
 refine fp HF 4 20 [(58, .slice A27 23 c27), (57, .bool false)] fun a HF => ?_
 refine fy HF HM 24 rfl rfl rfl (v := .slice A27 19 c27) (Yl.zx ei_u8 (j := 19) rfl rfl rfl (by omega)) fun a HF => ?_
 refine fy HF HM 25 rfl rfl rfl (v := .string (bstr (awY.take 19))) (Yl.str rfl rfl (fun _ h => (h.rd (i := 0) rfl).toB8 (k := 19) (by decide))) fun a HF => ?_
 refine fp HF 1 26 [(61, .bool (!(((bstr (awY.take 19))).toList == ((ByteArray.mk #[23, 0, 0, 0, 113, 116, 1, 1, 2, 0, 1, 5, 212, 2, 5, 0, 0, 40, 7])).toList)))] fun a HF => ?_
 replace HF := HF.sp 61 (.bool false) rfl (by rw [qsu (by kernel_rfl)]; rfl)
 refine fp HF 5 27 [(66, .bool false)] fun a HF => ?_
 refine qb rfl (qe HF rfl (wp_skip (wp_seq (qa ?_))))
 refine fp HF 1 0 [(68, .slice A20 13 c20)] fun a HF => ?_
 refine fo HF 1 rfl rfl ?_
 refine e_cl HF [.slice A20 13 c20] rfl rfl (qhm A20 13 c20 awX B _ (hL.mem HM hB) (HM.le hB) (HM.rd (i := 2) rfl) (by omega) (rfl) (by decide) (qym) (ba4)) ?_
 rintro _ w69 ⟨⟨A69, c69, rfl, ho, hc69⟩, hbw⟩
 refine ⟨_, rfl, ?_⟩
 replace HM := HM.callRow hbw ho
 clear HF; intro a HF
 refine fp HF 4 2 [(72, vI 0), (71, vI 13), (70, .agg #[vB 2, vB 0, vI 0, vI 7, .slice A69 0 c69])] fun a HF => ?_
 refine fo HF 6 rfl rfl ?_
 refine qz HF HM (cs := #[vB 0, vB 0, vI 0, vI 0, .slice none 0 0]) rfl (by kernel_rfl) rfl (by decide) ?_
 clear HF HM; intro a w7 g7 HF HM
 refine fo HF 7 rfl rfl ?_
 refine e_sa HF HM 0 rfl rfl rfl rfl rfl si_bk rfl rfl (by simp [Value.oneCell']) ?_
 clear HM; intro w6_7 HM
 refine fp HF 2 8 [(9, vI 0), (8, vI 13)] fun a HF => ?_
 refine qb rfl (wp_seq (qa ?_))
 refine fp HF 1 0 [(73, .slice A20 13 c20)] fun a HF => ?_
 obtain ⟨gA20, rfl⟩ := qa7 (HM.own (i := 4) rfl) (Nat.lt_of_le_of_lt (Nat.zero_le _) (show 8 < 13 from by decide))
 refine fy HF HM 1 rfl rfl rfl (v := vP gA20 8) (Yl.indexAddr (ad := ⟨gA20, 0, none⟩) (y := 8) (sz := 1) rfl rfl rfl (by decide) (by kernel_rfl)) fun a HF => ?_
 refine fy HF HM 2 rfl rfl rfl (v := vB 7) (Yl.qh rfl rfl (by kernel_rfl) (fun _ h => h.qa1 (i := 4) rfl (k := 8) (za (F := B8) (k := 8) (x := 7) (rfl)))) fun a HF => ?_
 refine fp HF 1 3 [(76, vB (IntKind.u8.wrap (BitVec.ofInt (IntKind.u8).bits (7 : Int) ^^^ BitVec.ofInt (IntKind.u8).bits 1).toNat))] fun a HF => ?_
 replace HF := HF.sp 76 (vB 6) rfl (by kernel_rfl)
 refine fy HF HM 4 rfl rfl rfl (v := vP gA20 8) (Yl.indexAddr (ad := ⟨gA20, 0, none⟩) (y := 8) (sz := 1) rfl rfl rfl (by decide) (by kernel_rfl)) fun a HF => ?_
 refine fo HF 5 rfl rfl ?_
 refine qdb HF HM (i := 4) rfl rfl rfl rfl (by kernel_rfl) rfl rfl (by decide) ?_
 clear HM; intro w7_5 HM
 replace HM := HM.asRow (i := 4) (ys := awZ.map B8) rfl (qfu B8 awX 8 6 (by decide))
 refine qb rfl ?_
 replace HF := HF.to [(9, vI 0), (8, vI 13), (7, vP g7 0), (66, .bool false), (1, vS gA20 13 c20), (0, .bool false)]
 refine wp_seq (qa ?_)
 refine fp HF 1 0 [(79, vS gA20 13 c20)] fun a HF => ?_
 refine fo HF 1 rfl rfl ?_
 refine e_cl HF [vS gA20 13 c20] rfl rfl (qhm (some ⟨gA20, 0, none⟩) 13 c20 awZ B _ (hL.mem HM hB) (HM.le hB) (HM.rd (i := 4) rfl) (by omega) (rfl) (by decide) (qwn) (ba5)) ?_
 rintro _ w80 ⟨⟨A80, c80, rfl, ho, hc80⟩, hbw⟩
 refine ⟨_, rfl, ?_⟩
 replace HM := HM.callRow hbw ho
 clear HF; intro a HF
 refine fp HF 4 2 [(83, vI 102), (82, vI 0), (81, .agg #[vB 0, vB 0, vI 0, vI 0, .slice A80 0 c80])] fun a HF => ?_
 refine fo HF 6 rfl rfl ?_
 refine qz HF HM (cs := #[vB 0, vB 0, vI 0, vI 0, .slice none 0 0]) rfl (by kernel_rfl) rfl (by decide) ?_
 clear HF HM; intro a w10 g10 HF HM
 refine fo HF 7 rfl rfl ?_
 refine e_sa HF HM 0 rfl rfl rfl rfl rfl si_bk rfl rfl (by simp [Value.oneCell']) ?_
 clear HM; intro w8_7 HM
 refine fp HF 2 8 [(12, vI 102)] fun a HF => ?_
 refine qb rfl ?_
 replace HM := HM.picks (fs' := [.row (.slice A80 Bk.zero.evs.length c80) Bk.zero.evs.length (Bk.zero.evs.flatMap evL) 24 11, .blk g7 #[vB 2, vB 0, vI 0, vI 7, .slice A69 0 c69] 28, .row (.slice A69 ((⟨2, 0, 0, 7, []⟩ : Bk).evs.length) c69) ((⟨2, 0, 0, 7, []⟩ : Bk).evs.length) ((⟨2, 0, 0, 7, []⟩ : Bk).evs.flatMap evL) 24 11, .row (vS gA20 13 c20) 13 (awZ.map B8) 5 1]) [1, 2, 3, 6] (by decide) rfl
 refine wp_seq (qa ?_)
 refine fp HF 1 0 [(85, vS gA20 13 c20)] fun a HF => ?_
 refine fy HF HM 1 rfl rfl rfl (v := vS gA20 4 c20) (Yl.zx ei_u8 (j := 4) rfl rfl rfl (by omega)) fun a HF => ?_
 refine fo HF 2 rfl rfl ?_
 refine e_cl HF [vS gA20 4 c20] rfl rfl (qhm (some ⟨gA20, 0, none⟩) 4 c20 (awZ.take 4) B _ (hL.mem HM hB) (HM.le hB) (((HM.rd (i := 3) rfl).toB8 (k := 4) (by decide))) (by omega) (rfl) (by decide) ((zu qwn 4)) (ba6)) ?_
 rintro _ w87 ⟨⟨A87, c87, rfl, ho, hc87⟩, hbw⟩
 refine ⟨_, rfl, ?_⟩
 replace HM := HM.callRow hbw ho
 clear HF; intro a HF
 refine fp HF 4 3 [(90, vI 100), (89, vI 0), (88, .agg #[vB 0, vB 0, vI 0, vI 0, .slice A87 0 c87])] fun a HF => ?_
 refine fo HF 7 rfl rfl ?_
 refine qz HF HM (cs := #[vB 0, vB 0, vI 0, vI 0, .slice none 0 0]) rfl (by kernel_rfl) rfl (by decide) ?_
 clear HF HM; intro a w13 g13 HF HM
 refine fo HF 8 rfl rfl ?_
 refine e_sa HF HM 0 rfl rfl rfl rfl rfl si_bk rfl rfl (by simp [Value.oneCell']) ?_
 clear HM; intro w9_8 HM
 refine fp HF 2 9 [(15, vI 100)] fun a HF => ?_
 refine qb rfl (wp_seq (qa ?_))
 refine fo HF 0 rfl rfl ?_
 refine qp HF HM (vs := [(0, vB 12), (1, vB 0), (2, vB 0), (3, vB 0)]) (cs := #[vB 12, vB 0, vB 0, vB 0]) rfl ei_u8 (by decide) rfl (by kernel_rfl) rfl (by decide) ?_
 clear HF HM; intro a w92 g92 HF HM
 refine fo HF 1 rfl rfl ?_
 refine e_is HF HM [vS g92 4 4] (.tuple #[vI 0, vI 101]) rfl rfl (qst _ 4 _ [12, 0, 0, 0] _ (HM.rdBlk (i := 0) (n := 4) (size := 1) rfl rfl) rfl (by decide) (by decide) ba7) fun w93 hbw HM a HF => ?_
 refine fp HF 5 2 [(17, vI 101)] fun a HF => ?_
 refine qb rfl (wp_seq (qa ?_))
 refine fp HF 8 0 [(103, vP g7 0), (102, .bool true)] fun a HF => ?_
 refine fy HF HM 8 rfl rfl rfl (Yl.qh rfl rfl (by kernel_rfl) (fun _ h => h.cell (i := 4) rfl rfl)) fun a HF => ?_
 refine fp HF 4 9 [(108, vP g7 3), (107, .bool true)] fun a HF => ?_
 refine fy HF HM 13 rfl rfl rfl (Yl.qh rfl rfl (by kernel_rfl) (fun _ h => h.cell (i := 4) rfl rfl)) fun a HF => ?_
 refine fp HF 15 14 [(124, .bool true)] fun a HF => ?_
 refine fy HF HM 29 rfl rfl rfl (v := .agg #[vB 1, vB 2, vI 0, vI 0, .slice none 0 0]) (Yl.build (vs := [(0, vB 1), (1, vB 2)]) rfl (by kernel_rfl) (by kernel_rfl)) fun a HF => ?_
 refine fo HF 30 rfl rfl ?_
 refine e_is HF HM [.agg #[vB 1, vB 2, vI 0, vI 0, .slice none 0 0]] (vI 107) rfl rfl (qib (⟨1, 2, 0, 0, []⟩ : Bk) (numOk 1 2 0 0 (by decide) (by decide) (by unfold I64; decide) (by unfold I64; decide)) none 0 B _ (hL.mem HM hB) (HM.le hB) (Rd.nil) (by decide) (ba8)) fun w126 hbw HM a HF => ?_
 refine fp HF 3 31 [(129, .bool true)] fun a HF => ?_
 refine fy HF HM 34 rfl rfl rfl (v := .agg #[vB 2, vB 0, vI 0, vI 0, .slice none 0 0]) (Yl.build (vs := [(0, vB 2)]) rfl (by kernel_rfl) (by kernel_rfl)) fun a HF => ?_
 refine fo HF 35 rfl rfl ?_
 refine e_is HF HM [.agg #[vB 2, vB 0, vI 0, vI 0, .slice none 0 0]] (vI 107) rfl rfl (qib (⟨2, 0, 0, 0, []⟩ : Bk) (numOk 2 0 0 0 (by decide) (by decide) (by unfold I64; decide) (by unfold I64; decide)) none 0 B _ (hL.mem HM hB) (HM.le hB) (Rd.nil) (by decide) (ba9)) fun w131 hbw HM a HF => ?_
 refine fp HF 3 36 [(0, .bool true)] fun a HF => ?_
 refine qb rfl (wp_ret ?_)
 replace HM := HM.picks (fs' := [.row (.slice A87 Bk.zero.evs.length c87) Bk.zero.evs.length (Bk.zero.evs.flatMap evL) 24 11, .row (.slice A80 Bk.zero.evs.length c80) Bk.zero.evs.length (Bk.zero.evs.flatMap evL) 24 11, .blk g7 #[vB 2, vB 0, vI 0, vI 7, .slice A69 0 c69] 28, .row (.slice A69 ((⟨2, 0, 0, 7, []⟩ : Bk).evs.length) c69) ((⟨2, 0, 0, 7, []⟩ : Bk).evs.length) ((⟨2, 0, 0, 7, []⟩ : Bk).evs.flatMap evL) 24 11, .row (vS gA20 13 c20) 13 (awZ.map B8) 5 1]) [2, 3, 4, 5, 6] (by decide) rfl
 exact ret1 rfl HF (.tmp HF rfl) (⟨rfl, HM.below⟩)
theorem qtu (b : Bk) (hok : b.Ok) (A : Option Addr) (c B : Nat) (w : World) (hL : LaidX B w) (hB : B ≤ w.heap.size) (hr : Rd w w.heap.size 11 A b.evs.length (b.evs.flatMap evL)) (hn : b.evs.length ≤ 1000000) :
    Calls Tryz.prog 17 #[.agg (b.cells A c)] w (Is w (.tuple #[.int .i64 (b.fill.1 : Int), .int .i64 (b.fill.2 : Int)])) := by
 refine qg (vs := [.agg (b.cells A c)]) Tryz.func17 rfl rfl (by kernel_rfl) (σ0 := [(0, .agg (b.cells A c))]) rfl ?_
 intro a HF
 have HM := Mem.start w
 refine wp_seq (qa ?_)
 refine fo HF 0 rfl rfl ?_
 refine e_box HF HM (cs := (b.cells A c)) rfl rfl rfl rfl (by decide) ?_
 clear HF HM; intro a w1 g1 HF HM
 refine fp HF 2 1 [(3, vI 0), (2, vI 0)] fun a HF => ?_
 refine qb rfl (wp_seq (wp_seq (qa ?_)))
 refine fy HF HM 0 rfl rfl rfl (v := .agg (b.cells A c)) (Yl.qx rfl rfl si_bk rfl (fun _ h => qd (h.blk (i := 0) rfl))) fun a HF => ?_
 refine fo HF 1 rfl rfl ?_
 refine e_is HF HM [.agg (b.cells A c)] (.bool b.fits) rfl rfl (qer b hok A c B _ (hL.mem HM hB) (HM.le hB) (HM.old hr) hn) fun w11 hbw HM a HF => ?_
 refine fp HF 1 2 [(12, .bool (!b.fits))] fun a HF => ?_
 refine qb rfl ?_
 rcases HF.tf 12 rfl with ⟨hb12, HF⟩ | ⟨hb12, HF⟩
 ·
  have hf : b.fits = false := by simpa using hb12
  refine qf HF rfl (wp_seq (qa ?_))
  refine fp HF 2 0 [(3, vI 107), (2, vI 0)] fun a HF => ?_
  refine qb rfl (wp_ret ?_)
  exact ret2 rfl HF (.tmp HF rfl) (.tmp HF rfl) (qfd (by unfold Bk.fill; rw [if_pos hf]) HM.below)
 have hf : b.fits = true := by simpa using hb12
 refine qe HF rfl (wp_skip (wp_seq (wp_seq (qa ?_))))
 refine fp HF 1 0 [(13, vP g1 4)] fun a HF => ?_
 refine fy HF HM 1 rfl rfl rfl (v := .slice A b.evs.length c) (Yl.qh rfl rfl (by kernel_rfl) (fun _ h => h.cell (i := 0) rfl (rfl))) fun a HF => ?_
 refine fy HF HM 2 rfl rfl rfl (Yl.len rfl rfl (by kernel_rfl)) fun a HF => ?_
 refine fp HF 1 3 [(16, .bool ((b.evs.length : Int) == (0 : Int)))] fun a HF => ?_
 refine qb rfl ?_
 rcases HF.tf 16 rfl with ⟨hb16, HF⟩ | ⟨hb16, HF⟩
 ·
  have hd16 := eq_of_beq hb16
  refine qf HF rfl (wp_seq (qa ?_))
  refine fp HF 2 0 [(3, vI 0), (2, vI 0)] fun a HF => ?_
  refine qb rfl (wp_ret ?_)
  exact ret2 rfl HF (.tmp HF rfl) (.tmp HF rfl) (qfd (by unfold Bk.fill; rw [if_neg (by rw [hf]; decide), qic (fun i hi => absurd hi (by omega)), show b.evs.length = 0 by omega]) HM.below)
 have hd16 := ne_of_beq_false hb16
 have hk : b.kind ≠ 2 := fun h2 => by have := qf1 hf h2; omega
 obtain ⟨m0, m1, m2, m3, m4⟩ := qh5 hf hk
 obtain ⟨q1, q2, q3, q4⟩ := qkd hok hf hk (by omega)
 obtain ⟨e0, r0, g0⟩ := qdw hok (qb6 hf hk).2 (by omega)
 have hch := g0.chain
 rw [← g0.base] at hch
 refine qe HF rfl (wp_skip (wp_seq (qa ?_)))
 refine fy HF HM 0 rfl rfl rfl (v := .agg (b.cells A c)) (Yl.qx rfl rfl si_bk rfl (fun _ h => qd (h.blk (i := 0) rfl))) fun a HF => ?_
 refine fo HF 1 rfl rfl ?_
 refine e_is HF HM [.agg (b.cells A c)] (.agg b.base.cells) rfl rfl (qod b A c _ (HM.old hr) (by omega)) fun w18 hbw HM a HF => ?_
 refine fo HF 2 rfl rfl ?_
 refine qz HF HM (cs := #[vI 0, vI 0]) rfl (by kernel_rfl) rfl (by decide) ?_
 clear HF HM; intro a w4 g4 HF HM
 refine fo HF 3 rfl rfl ?_
 refine e_sa HF HM 0 rfl rfl rfl rfl rfl ⟨(by kernel_rfl), (by kernel_rfl)⟩ rfl rfl (qn3 b.base) ?_
 clear HM; intro w5_3 HM
 refine qb rfl (wp_seq (qa ?_))
 refine fp HF 1 0 [(19, vP g1 1)] fun a HF => ?_
 refine fy HF HM 1 rfl rfl rfl (v := vB b.cpu) (Yl.qh rfl rfl (by kernel_rfl) (fun _ h => h.cell (i := 1) rfl (rfl))) fun a HF => ?_
 refine fp HF 1 2 [(21, vQ (IntKind.u64.wrap (b.cpu : Int)))] fun a HF => ?_
 replace HF := HF.sp 21 (vQ b.cpu) rfl (qan rfl (by omega))
 refine fp HF 1 3 [(22, vP g1 2)] fun a HF => ?_
 refine fy HF HM 4 rfl rfl rfl (v := vI b.lost) (Yl.qh rfl rfl (by kernel_rfl) (fun _ h => h.cell (i := 1) rfl (rfl))) fun a HF => ?_
 refine fp HF 1 5 [(24, vQ (IntKind.u64.wrap b.lost))] fun a HF => ?_
 replace HF := HF.sp 24 (vQ b.lost.toNat) rfl (qan (by omega) (by omega))
 refine fp HF 1 6 [(25, vP g4 0)] fun a HF => ?_
 refine fy HF HM 7 rfl rfl rfl (v := vI b.base.seq) (Yl.qh rfl rfl (by kernel_rfl) (fun _ h => h.cell (i := 0) rfl (rfl))) fun a HF => ?_
 refine fp HF 1 8 [(27, vQ (IntKind.u64.wrap b.base.seq))] fun a HF => ?_
 replace HF := HF.sp 27 (vQ b.base.seq.toNat) rfl (qan (by omega) (by omega))
 refine fp HF 1 9 [(28, vP g4 1)] fun a HF => ?_
 refine fy HF HM 10 rfl rfl rfl (v := vI b.base.time) (Yl.qh rfl rfl (by kernel_rfl) (fun _ h => h.cell (i := 0) rfl (rfl))) fun a HF => ?_
 refine fp HF 1 11 [(30, vQ (IntKind.u64.wrap b.base.time))] fun a HF => ?_
 replace HF := HF.sp 30 (vQ b.base.time.toNat) rfl (qan (by omega) (by omega))
 refine fo HF 12 rfl rfl ?_
 refine qp HF HM (vs := [(0, vQ b.cpu), (1, vQ b.lost.toNat), (2, vQ b.base.seq.toNat), (3, vQ b.base.time.toNat)]) (cs := #[vQ b.cpu, vQ b.lost.toNat, vQ b.base.seq.toNat, vQ b.base.time.toNat]) rfl qc5 (by decide) rfl (by kernel_rfl) rfl (by decide) ?_
 clear HF HM; intro a w31 g31 HF HM
 refine fo HF 13 rfl rfl ?_
 refine e_cl HF [vS g31 4 4] rfl rfl (qse _ 4 _ [b.cpu, b.lost.toNat, b.base.seq.toNat, b.base.time.toNat] _ (HM.rdBlk (i := 0) (n := 4) (size := 1) rfl rfl) (by intro x hx; simp only [List.mem_cons, List.not_mem_nil, or_false] at hx; omega) (by omega)) ?_
 rintro _ w32 ⟨⟨A32, c32, rfl, ho, hc32⟩, hbw⟩
 refine ⟨_, rfl, ?_⟩
 replace HM := HM.callRow hbw ho
 clear HF; intro a HF
 have hfl := qas [b.cpu, b.lost.toNat, b.base.seq.toNat, b.base.time.toNat]
 refine fy HF HM 14 rfl rfl rfl (Yl.len rfl rfl (by kernel_rfl)) fun a HF => ?_
 refine fp HF 1 15 [(34, vI (IntKind.i64.wrap (8 + ((([b.cpu, b.lost.toNat, b.base.seq.toNat, b.base.time.toNat].flatMap vbytes).length : Nat) : Int))))] fun a HF => ?_
 replace HF := HF.sp 34 (vI (8 + ([b.cpu, b.lost.toNat, b.base.seq.toNat, b.base.time.toNat].flatMap vbytes).length : Nat)) rfl (qk (by omega) (by simp only [List.length_cons, List.length_nil] at hfl; omega))
 refine fp HF 1 16 [(35, vI (IntKind.i64.wrap (((8 + ([b.cpu, b.lost.toNat, b.base.seq.toNat, b.base.time.toNat].flatMap vbytes).length : Nat) : Int) + 4)))] fun a HF => ?_
 replace HF := HF.sp 35 (vI (b.sz 0)) rfl (qk (by rw [qxd]; omega) (by have := sz_le b 0; omega))
 refine fp HF 1 17 [(5, vI (b.sz 0))] fun a HF => ?_
 refine qb rfl (wp_seq (wp_seq (qa ?_)))
 refine fp HF 1 0 [(36, vP g1 4)] fun a HF => ?_
 refine fy HF HM 1 rfl rfl rfl (v := .slice A b.evs.length c) (Yl.qh rfl rfl (by kernel_rfl) (fun _ h => h.cell (i := 3) rfl (rfl))) fun a HF => ?_
 refine fy HF HM 2 rfl rfl rfl (Yl.len rfl rfl (by kernel_rfl)) fun a HF => ?_
 refine fp HF 1 3 [(39, vI 0)] fun a HF => ?_
 refine qb rfl (wp_block ?_)
 replace HM := HM.picks (fs' := [.blk g4 b.base.cells 76, .blk g1 (b.cells A c) 28]) [2, 3] (by decide) rfl
 refine qv (fun mS aS wS => ∃ (k : Nat), (k ≤ b.evs.length) ∧ (∀ i, i < k → b.big (i + 1) = false) ∧ mS = b.evs.length - k ∧ Fr aS 70 [] [(39, vI k), (38, vI b.evs.length), (37, .slice A b.evs.length c), (5, vI (b.sz k)), (4, vP g4 0), (16, .bool false), (12, .bool false), (3, vI 0), (2, vI 0), (1, vP g1 0)] ∧ Mem w wS [.blk g4 ((b.atK k).cells) 76, .blk g1 (b.cells A c) 28]) (m := b.evs.length - 0) ⟨0, Nat.zero_le _, fun i hi => absurd hi (Nat.not_lt_zero _), rfl, HF.sub (by kernel_rfl), HM.picks [0, 1] (by decide) rfl⟩ ?_
 clear HF HM; rintro mS a w_ ⟨k, hk0, hno, rfl, HF, HM⟩
 refine wp_seq (qa ?_)
 refine fp HF 1 0 [(40, .bool (decide ((k : Int) < (b.evs.length : Int))))] fun a HF => ?_
 refine qb rfl (wp_seq ?_)
 rcases HF.tf 40 rfl with ⟨hb40, HF⟩ | ⟨hb40, HF⟩
 ·
  have hd40 := of_decide_eq_true hb40
  have hk40 : k < b.evs.length := by omega
  have hp := qxc (qlu b.evs none b.base k hch hk40)
  have hs0 := sz_le b k
  have hs1 := sz_le b (k + 1)
  have hvb := qr (k + 1)
  refine qf HF rfl (wp_skip (wp_seq (wp_block (wp_seq (qa ?_)))))
  refine fp HF 1 0 [(41, vI k)] fun a HF => ?_
  obtain ⟨gA, oA, rfl, _⟩ := hr.zl (Nat.lt_of_le_of_lt (Nat.zero_le _) (show k < b.evs.length from by omega)) (by decide)
  refine fy HF HM 1 rfl rfl rfl (v := vP gA (oA + k * 11)) (Yl.ix gA oA k 11 rfl rfl rfl) fun a HF => ?_
  refine fy HF HM 2 rfl rfl rfl (v := .agg ((b.evs.getD k Ev.zero).cells)) (Yl.qx rfl rfl ⟨(by kernel_rfl), (by kernel_rfl)⟩ rfl (fun _ h => (h.old hr).qb8 zf ((getD_at Ev.zero (k := k) (by first | omega | (simp; omega)))))) fun a HF => ?_
  refine fo HF 3 rfl rfl ?_
  refine qz HF HM (cs := #[vI 0, vI 0, vB 0, vB 0, vI 0, vI 0, vI 0, vI 0, vI 0, vQ 0, vI 0]) rfl (by kernel_rfl) rfl (by decide) ?_
  clear HF HM; intro a w7 g7 HF HM
  refine fp HF 1 4 [(6, vI k)] fun a HF => ?_
  refine fo HF 5 rfl rfl ?_
  refine e_sa HF HM 0 rfl rfl rfl rfl rfl ⟨(by kernel_rfl), (by kernel_rfl)⟩ rfl rfl (zn (b.evs.getD k Ev.zero)) ?_
  clear HM; intro w9_5 HM
  refine qb rfl (wp_seq (qa ?_))
  refine fy HF HM 0 rfl rfl rfl (v := .agg ((b.atK k).cells)) (Yl.qx rfl rfl ⟨(by kernel_rfl), (by kernel_rfl)⟩ rfl (fun _ h => qd (h.blk (i := 1) rfl))) fun a HF => ?_
  refine fy HF HM 1 rfl rfl rfl (v := .agg ((b.evs.getD k Ev.zero).cells)) (Yl.qx rfl rfl ⟨(by kernel_rfl), (by kernel_rfl)⟩ rfl (fun _ h => qd (h.blk (i := 0) rfl))) fun a HF => ?_
  refine fo HF 2 rfl rfl ?_
  refine e_cl HF [.agg ((b.atK k).cells), .agg ((b.evs.getD k Ev.zero).cells)] rfl rfl (qw5 (b.atK k) (b.evs.getD k Ev.zero) (hok.evs _ (qds _ (by omega))) B _ (hL.mem HM hB).laid (HM.le hB) (congrArg List.length hp.2) hp.1) ?_
  rintro _ w47 ⟨rfl, hbw⟩
  refine ⟨_, rfl, ?_⟩
  replace HM := HM.call hbw
  clear HF; intro a HF
  refine fp HF 5 3 [(8, vI ((zk (b.atK k) (b.evs.getD k Ev.zero)).length))] fun a HF => ?_
  refine qb rfl (wp_seq (qa ?_))
  refine fp HF 3 0 [(52, vI (IntKind.i64.wrap ((b.sz k : Int) + ((zk (b.atK k) (b.evs.getD k Ev.zero)).length : Int))))] fun a HF => ?_
  replace HF := HF.sp 52 (vI (b.sz (k + 1))) rfl (qk (by rw [qsx (by omega)]; omega) (by omega))
  refine fp HF 1 3 [(5, vI (b.sz (k + 1)))] fun a HF => ?_
  refine qb rfl (wp_seq (wp_seq (qa ?_)))
  refine fp HF 3 0 [(55, vI (IntKind.i64.wrap ((k : Int) + 1))), (53, vI (b.sz (k + 1)))] fun a HF => ?_
  replace HF := HF.sp 55 (vI (k + 1 : Nat)) rfl (qk (by omega) (by omega))
  refine fp HF 1 3 [(56, vQ (IntKind.u64.wrap ((k + 1 : Nat) : Int)))] fun a HF => ?_
  replace HF := HF.sp 56 (vQ (k + 1 : Nat)) rfl (qan rfl (by omega))
  refine fo HF 4 rfl rfl ?_
  refine e_cl HF [vQ (k + 1 : Nat)] rfl rfl (qsw (k + 1) _ (by omega)) ?_
  rintro _ w57 ⟨rfl, hbw⟩
  refine ⟨_, rfl, ?_⟩
  replace HM := HM.call hbw
  clear HF; intro a HF
  refine fp HF 1 5 [(58, vI (IntKind.i64.wrap ((b.sz (k + 1) : Int) + ((vbytes (k + 1)).length : Int))))] fun a HF => ?_
  replace HF := HF.sp 58 (vI (b.sz (k + 1) + ((vbytes (k + 1)).length) : Nat)) rfl (qk (by omega) (by omega))
  refine fp HF 1 6 [(59, .bool (decide (((b.sz (k + 1) + ((vbytes (k + 1)).length) : Nat) : Int) > (4096 : Int))))] fun a HF => ?_
  refine qb rfl ?_
  rcases HF.tf 59 rfl with ⟨hb59, HF⟩ | ⟨hb59, HF⟩
  ·
   have hd59 := of_decide_eq_true hb59
   refine qf HF rfl (wp_seq (qa ?_))
   refine fp HF 3 0 [(3, vI 0), (2, vI k)] fun a HF => ?_
   refine qb rfl (wp_ret ?_)
   exact ret2 rfl HF (.tmp HF rfl) (.tmp HF rfl) (qfd (by unfold Bk.fill; rw [if_neg (by rw [hf]; decide), qoi hk40 hno (by unfold Bk.big; rw [decide_eq_true]; omega)]) HM.below)
  have hd59 := of_decide_eq_false hb59
  refine qe HF rfl (wp_skip (qa ?_))
  refine fp HF 1 0 [(61, vP g7 0)] fun a HF => ?_
  refine fy HF HM 1 rfl rfl rfl (v := vI ((b.evs.getD k Ev.zero).seq)) (Yl.qh rfl rfl (by kernel_rfl) (fun _ h => h.cell (i := 0) rfl (rfl))) fun a HF => ?_
  refine fp HF 1 2 [(63, vP g7 1)] fun a HF => ?_
  refine fy HF HM 3 rfl rfl rfl (v := vI ((b.evs.getD k Ev.zero).time)) (Yl.qh rfl rfl (by kernel_rfl) (fun _ h => h.cell (i := 0) rfl (rfl))) fun a HF => ?_
  refine fy HF HM 4 rfl rfl rfl (v := .agg #[vI ((b.evs.getD k Ev.zero).seq), vI ((b.evs.getD k Ev.zero).time)]) (Yl.build (vs := [(0, vI ((b.evs.getD k Ev.zero).seq)), (1, vI ((b.evs.getD k Ev.zero).time))]) rfl (by kernel_rfl) (by kernel_rfl)) fun a HF => ?_
  refine fo HF 5 rfl rfl ?_
  refine e_sa HF HM 1 rfl rfl rfl rfl rfl ⟨(by kernel_rfl), (by kernel_rfl)⟩ rfl rfl (by simp [Value.oneCell']) ?_
  clear HM; intro w14_5 HM
  refine qb rfl (qa ?_)
  refine fp HF 1 0 [(66, vI (IntKind.i64.wrap ((k : Int) + 1)))] fun a HF => ?_
  replace HF := HF.sp 66 (vI (k + 1 : Nat)) rfl (qk (by omega) (by omega))
  refine fp HF 1 1 [(39, vI (k + 1 : Nat))] fun a HF => ?_
  refine qb rfl ?_
  exact ⟨_, (by omega), k + 1, by omega, fun i hi => (Nat.lt_succ_iff_lt_or_eq.1 hi).elim (hno i) (fun h => by subst h; unfold Bk.big; rw [decide_eq_false]; omega), rfl, HF.sub (by kernel_rfl), HM.picks [1, 2] (by decide) rfl⟩
 have hd40 := of_decide_eq_false hb40
 have hke : k = b.evs.length := by omega
 refine qe HF rfl (wp_exit (wp_seq (qa ?_)))
 refine fp HF 1 0 [(67, vP g1 4)] fun a HF => ?_
 refine fy HF HM 1 rfl rfl rfl (v := .slice A b.evs.length c) (Yl.qh rfl rfl (by kernel_rfl) (fun _ h => h.cell (i := 1) rfl (rfl))) fun a HF => ?_
 refine fy HF HM 2 rfl rfl rfl (Yl.len rfl rfl (by kernel_rfl)) fun a HF => ?_
 refine fp HF 2 3 [(3, vI 0), (2, vI b.evs.length)] fun a HF => ?_
 refine qb rfl (wp_ret ?_)
 exact ret2 rfl HF (.tmp HF rfl) (.tmp HF rfl) (qfd (by unfold Bk.fill; rw [if_neg (by rw [hf]; decide), qic (fun i hi => hno i (by omega))]) HM.below)
theorem qnl {w : World} {base n m c size : Nat} {e : TypeId} {A : Option Addr} {xs : List Value} (h : w.ownsRow base e size (.slice A n c) n xs) (hm : m ≤ n) : w.ownsRow base e size (.slice A m c) m (xs.take (m * size)) := by
 have hms : m * size ≤ n * size := Nat.mul_le_mul_right _ hm
 refine ⟨by rw [List.length_take, h.1]; omega, ?_⟩
 rcases h.2 with ⟨hv, hn⟩ | ⟨g, cap, cur, hv, hb, hg, h1, h2, h3, h4⟩
 ·injection hv with a1 a2 a3
  subst a1; subst a3; subst hn
  have : m = 0 := by omega
  subst this
  exact .inl ⟨rfl, rfl⟩
 ·injection hv with a1 a2 a3
  subst a1; subst a3
  refine .inr ⟨g, c, cur, rfl, hb, hg, by omega, h2, h3, ?_⟩
  rw [← h4, List.take_take]
  congr 1
  omega
section
variable {W w : World} {fs : List Fact}
theorem Mem.cutRow (h : Mem W w fs) {i n m c size : Nat} {e : TypeId} {A : Option Addr} {xs ys : List Value} (hi : fs[i]? = some (.row (.slice A n c) n xs e size)) (hm : m ≤ n) (hy : xs.take (m * size) = ys) : Mem W w (fs.set i (.row (.slice A m c) m ys e size)) := by
 subst hy
 have hb := h.holds _ (List.mem_of_getElem? hi)
 exact h.turn hi h.below (fun _ _ _ => rfl) (qnl hb hm) (fun g' hg' => .inl (by cases A <;> exact hg'))
end
theorem qbv : EI Tryz.prog 136 3 (.int .i64 0) 1 8 := ⟨by kernel_rfl, by kernel_rfl, rfl, by omega⟩
def PolIs (w : World) (l : List Nat) (r : Ending) (w' : World) : Prop :=
 (∃ A c, r = .returned (.slice A l.length c) ∧ w'.ownsRow w.heap.size 3 1 (.slice A l.length c) l.length (l.map I64v) ∧ l.length ≤ c) ∧ Below w.heap.size w w'
def DivIs (w : World) (A : Option Addr) (c : Nat) (a b : List Nat) (r : Ending) (w' : World) : Prop :=
 (∃ vq X c', r = .returned (.tuple #[vq, .slice X (divR (a.length + 1) a b).length c']) ∧ (a.length < b.length → X = A ∧ c' = c) ∧ (b.length ≤ a.length → w'.ownsRow w.heap.size 3 1 (.slice X (divR (a.length + 1) a b).length c') (divR (a.length + 1) a b).length ((divR (a.length + 1) a b).map I64v) ∧ (divR (a.length + 1) a b).length ≤ c')) ∧ Below w.heap.size w w'
def P01 (l : List Nat) : Prop := ∀ x ∈ l, x < 2
def Tr (l : List Nat) : Prop := 0 < l.length → l.getD (l.length - 1) 0 ≠ 0
theorem qti {l : List Nat} (h : P01 l) (k : Nat) : l.getD k 0 < 2 := by
 rw [List.getD_eq_getElem?_getD]
 cases hk : l[k]? with
 | none => simp
 | some x => exact h x (List.mem_of_getElem? hk)
theorem qf7 {l : List Nat} {k : Nat} (h : 0 < k) (hk : k ≤ l.length) : l.take k = l.take (k - 1) ++ [l.getD (k - 1) 0] := by
 obtain ⟨j, rfl⟩ : ∃ j, k = j + 1 := ⟨k - 1, by omega⟩
 rw [Nat.add_sub_cancel, List.take_succ_eq_append_getElem (by omega), List.getD_eq_getElem?_getD, List.getElem?_eq_getElem (by omega)]
 rfl
theorem qmb {l : List Nat} {k : Nat} (h : 0 < k) (hk : k ≤ l.length) (h0 : l.getD (k - 1) 0 = 0) (ht : trimL (l.take k) = trimL l) : trimL (l.take (k - 1)) = trimL l := by
 rw [← ht, qf7 h hk, h0, qfa]
theorem qf8 {l : List Nat} {k : Nat} (hk : k ≤ l.length) (h0 : 0 < k → l.getD (k - 1) 0 ≠ 0) (ht : trimL (l.take k) = trimL l) : trimL l = l.take k := by
 rw [← ht]
 by_cases h : 0 < k
 ·rw [qf7 h hk, qi8 (h0 h)]
 ·have : k = 0 := by omega
  subst this
  rfl
theorem qkp (l : List Nat) : trimL l <+: l := by
 have h := List.dropWhile_suffix (l := l.reverse) (· == 0)
 have := List.reverse_prefix.2 h
 rwa [List.reverse_reverse] at this
theorem qtj (l : List Nat) : l.take (trimL l).length = trimL l := (List.prefix_iff_eq_take.1 (qkp l)).symm
theorem qf9 (l : List Nat) : (trimL l).length ≤ l.length := (qkp l).length_le
theorem qga (l : List Nat) : (l.map I64v).take ((trimL l).length * 1) = (trimL l).map I64v := by rw [Nat.mul_one, ← List.map_take, qtj]
theorem qtk {l : List Nat} (h : P01 l) : P01 (trimL l) := fun x hx => h x ((qkp l).sublist.mem hx)
theorem qwr : ∀ (n : Nat) (l : List Nat), l.length = n → Tr (trimL l)
 | 0, l, h => by
  rw [List.length_eq_zero_iff] at h
  subst h
  intro h; simp [trimL] at h
 | n + 1, l, h => by
  have e := qf7 (l := l) (k := l.length) (by omega) (by omega)
  rw [List.take_length] at e
  by_cases h0 : l.getD (l.length - 1) 0 = 0
  ·rw [e, h0, qfa]
   exact qwr n _ (by rw [List.length_take]; omega)
  ·rw [e, qi8 h0, ← e]
   intro _
   exact h0
theorem qnm (l : List Nat) : Tr (trimL l) := qwr _ l rfl
theorem qb7 (f : Nat → Nat) (k : Nat) : (List.range (k + 1)).map f = (List.range k).map f ++ [f k] := by rw [List.range_succ, List.map_append]; rfl
def qdh (p k : Nat) : List Nat := (List.range k).map fun i => p / 2 ^ i % 2
theorem qnn (p k : Nat) : qdh p (k + 1) = qdh p k ++ [p / 2 ^ k % 2] := qb7 _ _
theorem qjk (p k : Nat) : (qdh p k).length = k := by unfold qdh; rw [List.length_map, List.length_range]
def sumUp (a b : List Nat) (s k : Nat) : List Nat := (List.range k).map (sumAt a b s)
theorem qcs (a b : List Nat) (s k : Nat) : sumUp a b s (k + 1) = sumUp a b s k ++ [sumAt a b s k] := qb7 _ _
theorem qmc (a b : List Nat) (s k : Nat) : (sumUp a b s k).length = k := by unfold sumUp; rw [List.length_map, List.length_range]
theorem qtl (a b : List Nat) (s : Nat) : trimL (sumUp a b s (max a.length (b.length + s))) = sumL a b s := rfl
theorem qoq {l : List Nat} {k : Nat} (h : l.length ≤ k) : l.getD k 0 = 0 := by rw [List.getD_eq_getElem?_getD, List.getElem?_eq_none h]; rfl
theorem qws {a b : List Nat} {s k : Nat} (h1 : s ≤ k) (h2 : k - s < b.length) : sumAt a b s k = (a.getD k 0 + b.getD (k - s) 0) % 2 := if_pos ⟨h1, h2⟩
theorem qys {a b : List Nat} {s k : Nat} (h1 : s ≤ k) (h2 : k - s < b.length) (h3 : a.length ≤ k) : sumAt a b s k = (0 + b.getD (k - s) 0) % 2 := by rw [qws h1 h2, qoq h3]
theorem qtm {a b : List Nat} {s k : Nat} (h : ¬ (s ≤ k ∧ k - s < b.length)) : sumAt a b s k = a.getD k 0 := if_neg h
theorem qwt {a b : List Nat} {s k : Nat} (h : ¬ (s ≤ k ∧ k - s < b.length)) (h3 : a.length ≤ k) : sumAt a b s k = 0 := by rw [qtm h, qoq h3]
theorem qxh {a b : List Nat} (ha : P01 a) (s i : Nat) : sumAt a b s i < 2 := by
 unfold sumAt
 split
 ·omega
 ·exact qti ha i
theorem sum01 {a b : List Nat} (ha : P01 a) (s : Nat) : P01 (sumL a b s) := by
 unfold sumL
 apply qtk
 intro x hx
 obtain ⟨i, _, rfl⟩ := List.mem_map.1 hx
 exact qxh ha s i
theorem sumTr (a b : List Nat) (s : Nat) : Tr (sumL a b s) := qnm _
theorem qxi (a b : List Nat) (s : Nat) : (sumL a b s).length ≤ max a.length (b.length + s) := by
 unfold sumL
 refine Nat.le_trans (qf9 _) ?_
 rw [List.length_map, List.length_range]
 exact Nat.le_refl _
theorem qhn {a b : List Nat} (ha : P01 a) (hb : P01 b) (hta : Tr a) (htb : Tr b) (h0 : 0 < b.length) (h : b.length ≤ a.length) : (sumL a b (a.length - b.length)).length < a.length := by
 have e : max a.length (b.length + (a.length - b.length)) = (a.length - 1) + 1 := by omega
 have h1 := hta (by omega)
 have h2 := htb h0
 have h3 := qti ha (a.length - 1)
 have h4 := qti hb (b.length - 1)
 unfold sumL
 rw [e, qb7]
 have hz : sumAt a b (a.length - b.length) (a.length - 1) = 0 := by
  unfold sumAt
  rw [if_pos ⟨by omega, by omega⟩, show a.length - 1 - (a.length - b.length) = b.length - 1 by omega]
  omega
 rw [hz, qfa]
 refine Nat.lt_of_le_of_lt (qf9 _) ?_
 rw [List.length_map, List.length_range]
 omega
theorem qor {b : List Nat} (hb : P01 b) (htb : Tr b) (h0 : 0 < b.length) : ∀ (n : Nat) (a : List Nat), a.length = n → P01 a → Tr a → ∀ f g, a.length < f → a.length < g → divR f a b = divR g a b := by
 intro n
 induction n using Nat.strongRecOn with
 | _ n ih =>
  intro a hn ha hta f g hf hg
  obtain ⟨f, rfl⟩ : ∃ j, f = j + 1 := ⟨f - 1, by omega⟩
  obtain ⟨g, rfl⟩ : ∃ j, g = j + 1 := ⟨g - 1, by omega⟩
  rw [divR, divR]
  split
  ·rename_i h
   have hl := qhn ha hb hta htb h0 h
   exact ih _ (by omega) _ rfl (sum01 ha _) (sumTr _ _ _) f g (by omega) (by omega)
  ·rfl
theorem qos {a0 a b : List Nat} (hb : P01 b) (htb : Tr b) (h0 : 0 < b.length) (ha : P01 a) (hta : Tr a) (h : b.length ≤ a.length) (he : divR (a.length + 1) a b = divR (a0.length + 1) a0 b) :
  divR ((sumL a b (a.length - b.length)).length + 1) (sumL a b (a.length - b.length)) b = divR (a0.length + 1) a0 b := by
 have hl := qhn ha hb hta htb h0 h
 have e : divR (a.length + 1) a b = divR a.length (sumL a b (a.length - b.length)) b := by rw [divR, if_pos h]
 rw [← he, e]
 exact qor hb htb h0 _ _ rfl (sum01 ha _) (sumTr _ _ _) _ _ (by omega) (by omega)
theorem qot {a b : List Nat} (h : ¬ b.length ≤ a.length) : divR (a.length + 1) a b = a := by rw [divR, if_neg h]
theorem qou (p : Nat) : P01 (qlk p) := by
 unfold qlk
 apply qtk
 intro x hx
 obtain ⟨i, _, rfl⟩ := List.mem_map.1 hx
 omega
theorem qov (p : Nat) : P01 (bitsOf p) := by
 unfold bitsOf
 apply qtk
 intro x hx
 obtain ⟨i, _, rfl⟩ := List.mem_map.1 hx
 split <;> omega
theorem qow (p : Nat) : Tr (qlk p) := qnm _
theorem qox (p : Nat) : Tr (bitsOf p) := qnm _
theorem qfg : genP.length = 33 := by decide +kernel
theorem qkq (p : Nat) : (bitsOf p).length ≤ 40 := by
 unfold bitsOf
 refine Nat.le_trans (qf9 _) ?_
 rw [List.length_map, List.length_range]
 exact Nat.le_refl _
theorem qxj {b : List Nat} (h0 : 0 < b.length) (hb : P01 b) (htb : Tr b) : ∀ (n : Nat) (a : List Nat), a.length = n → P01 a → Tr a → (divR (a.length + 1) a b).length < b.length := by
 intro n
 induction n using Nat.strongRecOn with
 | _ n ih =>
  intro a hn ha hta
  by_cases h : b.length ≤ a.length
  ·have hl := qhn ha hb hta htb h0 h
   have hs := qos hb htb h0 ha hta h rfl
   rw [← hs]
   exact ih _ (by omega) _ rfl (sum01 ha _) (sumTr _ _ _)
  ·rw [qot h]; omega
def linR (y : Nat) : List Nat := divR ((bitsOf y).length + 1) (bitsOf y) genP
theorem qoy (y : Nat) : (linR y).length ≤ 32 := by
 have h := qxj (b := genP) (by rw [qfg]; decide) (qou _) (qow _) _ (bitsOf y) rfl (qov _) (qox _)
 rw [qfg] at h
 exact Nat.le_of_lt_succ h
theorem qtn (y : Nat) : qr4 (linR y) = qbe y := by
 unfold qbe linR
 have := qkq y
 rw [qor (b := genP) (qou _) (qow _) (by rw [qfg]; decide) _ (bitsOf y) rfl (qov _) (qox _) ((bitsOf y).length + 1) 41 (by omega) (by omega)]
def remUp (r : List Nat) (k : Nat) : Nat := ((List.range k).map fun k => if r.getD k 0 = 1 then 2 ^ (31 - k) else 0).sum
theorem qey (r : List Nat) (k : Nat) : remUp r (k + 1) = remUp r k + if r.getD k 0 = 1 then 2 ^ (31 - k) else 0 := by
 unfold remUp
 rw [qb7, List.sum_append]
 simp
theorem qoz (r : List Nat) : ∀ k, k ≤ 32 → remUp r k + 2 ^ (32 - k) ≤ 4294967296
 | 0, _ => by show 0 + 2 ^ 32 ≤ _; decide
 | k + 1, h => by
  have ih := qoz r k (by omega)
  rw [qey]
  have e1 : (2 : Nat) ^ (32 - k) = 2 ^ (32 - (k + 1)) * 2 := by rw [show 32 - k = (32 - (k + 1)) + 1 by omega, Nat.pow_succ]
  have e2 : (2 : Nat) ^ (31 - k) = 2 ^ (32 - (k + 1)) := by rw [show 31 - k = 32 - (k + 1) by omega]
  split <;> omega
theorem qmd (r : List Nat) : remUp r r.length = qr4 r := rfl
def qbo (y k : Nat) : List Nat := (List.range 40).map fun i => if 40 - k ≤ i then y / 2 ^ (39 - i) % 2 else 0
theorem qbp (y k : Nat) : (qbo y k).length = 40 := by unfold qbo; rw [List.length_map, List.length_range]
theorem qgx (y k : Nat) {i : Nat} (h : i < 40) : (qbo y k)[i]? = some (if 40 - k ≤ i then y / 2 ^ (39 - i) % 2 else 0) := by
 unfold qbo
 rw [List.getElem?_map, List.getElem?_range h]
 rfl
theorem qno (y : Nat) : qbo y 0 = List.replicate 40 0 := by
 apply List.ext_getElem?
 intro i
 by_cases h : i < 40
 ·rw [qgx y 0 h, if_neg (by omega), List.getElem?_replicate, if_pos h]
 ·rw [List.getElem?_eq_none (by rw [qbp]; omega), List.getElem?_eq_none (by rw [List.length_replicate]; omega)]
theorem qnp {y k : Nat} (hk : k < 8) : (qbo y k).set (39 - k) (y / 2 ^ k % 2) = qbo y (k + 1) := by
 apply List.ext_getElem?
 intro i
 by_cases h : i < 40
 ·rw [List.getElem?_set, qgx y (k + 1) h]
  by_cases hi : 39 - k = i
  ·rw [if_pos hi, if_pos (by rw [qbp]; omega), if_pos (by omega), show 39 - i = k by omega]
  ·rw [if_neg hi, qgx y k h]
   by_cases h2 : 40 - k ≤ i
   ·rw [if_pos h2, if_pos (by omega)]
   ·rw [if_neg h2, if_neg (by omega)]
 ·rw [List.getElem?_eq_none (by rw [List.length_set, qbp]; omega), List.getElem?_eq_none (by rw [qbp]; omega)]
theorem qjl (y : Nat) : trimL (qbo y 8) = bitsOf y := rfl
theorem pow31 (k : Nat) : 1 * 2 ^ (31 - k) ≤ 4294967295 := by
 have : (2 : Nat) ^ (31 - k) ≤ 2 ^ 31 := Nat.pow_le_pow_right (by decide) (by omega)
 omega
theorem qxk (r : List Nat) {k : Nat} (h : k < 32) : remUp r k + 1 * 2 ^ (31 - k) ≤ 4294967295 := by
 have h1 := qoz r k (by omega)
 have e1 : (2 : Nat) ^ (32 - k) = 2 ^ (31 - k) * 2 := by rw [show 32 - k = (31 - k) + 1 by omega, Nat.pow_succ]
 have : 0 < (2 : Nat) ^ (31 - k) := Nat.pow_pos (by decide)
 omega
theorem qto : linR 0 = [] := by decide +kernel
def waUp (l : List Nat) (k : Nat) : List Nat := (l.take k).flatMap vbytes
theorem qme {l : List Nat} {k : Nat} (h : k < l.length) : waUp l (k + 1) = waUp l k ++ vbytes (l.getD k 0) := by
 unfold waUp
 rw [qf7 (by omega) (by omega), Nat.add_sub_cancel, List.flatMap_append]
 simp
theorem qo0 (l : List Nat) (k : Nat) : (waUp l k).length ≤ 10 * k := by
 unfold waUp
 have h := qas (l.take k)
 rw [List.length_take] at h
 omega
theorem qqb {l : List Nat} {n : Nat} (hl : ∀ x ∈ l, x < 256) (hln : l.length = n) : decide (sealL (l.take (n - 4)) = l) = qao l := by
 subst hln
 rw [Bool.eq_iff_iff, decide_eq_true_eq]
 constructor
 ·intro h
  have := qne (l := l.take (l.length - 4))
  rwa [h] at this
 ·intro h
  exact qxb hl h
theorem qvx : ∀ y, y < 256 → y ≠ 0 → 33 ≤ (bitsOf y).length := by decide +kernel
theorem qo1 (A : Option Addr) (n c : Nat) (l : List Nat) (w : World) (hr : Rd w w.heap.size 1 A n (l.map I64v)) (hln : l.length = n) (hn : n ≤ 140737488355328) (hc : n ≤ c) :
    Calls Tryz.prog 98 #[.slice A n c] w (Is w (.slice A (trimL l).length c)) := by
 refine qg (vs := [.slice A n c]) Tryz.func98 rfl rfl (by kernel_rfl) (σ0 := [(0, .slice A n c)]) rfl ?_
 intro a HF
 have HM := Mem.start w
 refine wp_seq (qa ?_)
 refine fp HF 1 0 [(2, .slice none 0 0)] fun a HF => ?_
 refine qb rfl (wp_seq (wp_block ?_))
 refine qv (fun mS aS wS => ∃ (k : Nat), (k ≤ n) ∧ (trimL (l.take k) = trimL l) ∧ mS = 0 + k ∧ Fr aS 21 [] [(2, .slice none 0 0), (0, .slice A k c)] ∧ Mem w wS []) (m := 0 + n) ⟨n, Nat.le_refl _, by rw [List.take_of_length_le (by omega)], rfl, HF.sub (by kernel_rfl), HM.picks [] (by decide) rfl⟩ ?_
 clear HF HM; rintro mS a w_ ⟨k, hk, ht, rfl, HF, HM⟩
 refine wp_seq (wp_seq (qa ?_))
 refine fp HF 1 0 [(3, .slice A k c)] fun a HF => ?_
 refine fy HF HM 1 rfl rfl rfl (Yl.len rfl rfl (by kernel_rfl)) fun a HF => ?_
 refine fp HF 2 2 [(6, .bool (decide ((k : Int) > (0 : Int))))] fun a HF => ?_
 rcases HF.tf 6 rfl with ⟨hb6, HF⟩ | ⟨hb6, HF⟩
 ·
  have hd6 := of_decide_eq_true hb6
  have hk0 : 0 < k := by omega
  obtain ⟨gA, oA, rfl, _⟩ := hr.zl (Nat.lt_of_le_of_lt (Nat.zero_le _) (show 0 < n from by omega)) (by decide)
  refine fp HF 2 4 [(8, .slice (some ⟨gA, oA, none⟩) k c), (7, .slice (some ⟨gA, oA, none⟩) k c)] fun a HF => ?_
  refine fy HF HM 6 rfl rfl rfl (Yl.len rfl rfl (by kernel_rfl)) fun a HF => ?_
  refine fp HF 1 7 [(10, vI (IntKind.i64.wrap ((k : Int) - 1)))] fun a HF => ?_
  replace HF := HF.sp 10 (vI (k - 1 : Nat)) rfl (qk (by omega) (by omega))
  refine fy HF HM 8 rfl rfl rfl (v := vP gA (oA + (k - 1) * 1)) (Yl.ix gA oA (k - 1) 1 rfl rfl rfl) fun a HF => ?_
  refine fy HF HM 9 rfl rfl rfl (v := vI (l.getD (k - 1) 0)) (Yl.qh rfl rfl (by kernel_rfl) (fun _ h => (h.old hr).zt (k := (k - 1)) (za (F := I64v) (k := (k - 1)) (x := (l.getD (k - 1) 0)) ((getD_at 0 (k := (k - 1)) (by first | omega | (simp; omega))))))) fun a HF => ?_
  refine fp HF 2 10 [(14, .bool (((l.getD (k - 1) 0) : Int) == (0 : Int)))] fun a HF => ?_
  refine qb rfl ?_
  rcases HF.tf 14 rfl with ⟨hb14, HF⟩ | ⟨hb14, HF⟩
  ·
   have hd14 := eq_of_beq hb14
   refine qf HF rfl (wp_skip (wp_block (qa ?_)))
   refine fp HF 2 0 [(16, .slice (some ⟨gA, oA, none⟩) k c), (15, .slice (some ⟨gA, oA, none⟩) k c)] fun a HF => ?_
   refine fy HF HM 2 rfl rfl rfl (Yl.len rfl rfl (by kernel_rfl)) fun a HF => ?_
   refine fp HF 1 3 [(18, vI (IntKind.i64.wrap ((k : Int) - 1)))] fun a HF => ?_
   replace HF := HF.sp 18 (vI (k - 1 : Nat)) rfl (qk (by omega) (by omega))
   refine fy HF HM 4 rfl rfl rfl (v := .slice (some ⟨gA, oA, none⟩) (k - 1) c) (Yl.zx qbv (j := k - 1) rfl rfl rfl (by omega)) fun a HF => ?_
   refine fp HF 1 5 [(0, .slice (some ⟨gA, oA, none⟩) (k - 1) c)] fun a HF => ?_
   refine qb rfl ?_
   exact ⟨_, (by omega), (k - 1), by omega, qmb (by omega) (by omega) (by omega) ht, rfl, HF.sub (by kernel_rfl), HM.picks [] (by decide) rfl⟩
  have hd14 := ne_of_beq_false hb14
  refine qe HF rfl (wp_exit (wp_seq (qa ?_)))
  refine fp HF 2 0 [(2, .slice (some ⟨gA, oA, none⟩) k c)] fun a HF => ?_
  refine qb rfl (wp_ret ?_)
  exact ret1 rfl HF (.tmp HF rfl) (⟨by rw [qf8 (k := k) (by omega) (fun _ => by omega) ht, List.length_take, Nat.min_eq_left (by omega)], HM.below⟩)
 have hd6 := of_decide_eq_false hb6
 refine fp HF 8 4 [(14, .bool false)] fun a HF => ?_
 refine qb rfl (qe HF rfl (wp_exit (wp_seq (qa ?_))))
 refine fp HF 2 0 [(2, .slice A k c)] fun a HF => ?_
 refine qb rfl (wp_ret ?_)
 exact ret1 rfl HF (.tmp HF rfl) (⟨by rw [qf8 (k := k) (by omega) (fun _ => by omega) ht, List.length_take, Nat.min_eq_left (by omega)], HM.below⟩)
theorem qtp (p : Nat) (hp : p < 18446744073709551616) (w : World) :
    Calls Tryz.prog 88 #[.int .u64 (p : Int)] w (PolIs w (qlk p)) := by
 refine qg (vs := [vQ p]) Tryz.func88 rfl rfl (by kernel_rfl) (σ0 := [(0, vQ p)]) rfl ?_
 intro a HF
 have HM := Mem.start w
 refine wp_seq (qa ?_)
 refine fp HF 1 0 [(2, .slice none 0 0)] fun a HF => ?_
 refine qb rfl (wp_seq (qa ?_))
 refine fp HF 1 0 [(3, .slice none 0 0)] fun a HF => ?_
 refine qb rfl ?_
 replace HM := HM.nil 3 1
 refine wp_seq (wp_seq (qa ?_))
 refine fp HF 1 0 [(4, vI 0)] fun a HF => ?_
 refine qb rfl (wp_block ?_)
 refine qv (fun mS aS wS => ∃ (k : Nat) (Ak : Option Addr) (ck : Nat), (k ≤ 64) ∧ (k ≤ ck) ∧ mS = 64 - k ∧ Fr aS 19 [] [(4, vI k), (3, .slice Ak k ck), (2, .slice none 0 0), (0, vQ p)] ∧ Mem w wS [.row (.slice Ak k ck) k ((qdh p k).map I64v) 3 1]) (m := 64 - 0) ⟨0, none, 0, by omega, Nat.le_refl _, rfl, HF.sub (by kernel_rfl), HM.picks [0] (by decide) rfl⟩ ?_
 clear HF HM; rintro mS a w_ ⟨k, Ak, ck, hk, hck, rfl, HF, HM⟩
 refine wp_seq (wp_seq (qa ?_))
 refine fp HF 2 0 [(6, .bool (decide ((k : Int) < (64 : Int))))] fun a HF => ?_
 refine qb rfl ?_
 rcases HF.tf 6 rfl with ⟨hb6, HF⟩ | ⟨hb6, HF⟩
 ·
  have hd6 := of_decide_eq_true hb6
  refine qf HF rfl (wp_skip (wp_seq (wp_block (qa ?_))))
  refine fp HF 3 0 [(11, vI k), (10, vQ p), (9, .slice Ak k ck)] fun a HF => ?_
  refine fy HF HM 3 rfl rfl rfl (v := vQ (p / 2 ^ k : Nat)) (Yl.shrN (m := p) (n := k) rfl rfl rfl (by show _ ≤ 64; omega)) fun a HF => ?_
  refine fp HF 1 4 [(13, vQ (Int.tmod ((p / 2 ^ k : Nat) : Int) 2))] fun a HF => ?_
  replace HF := HF.sp 13 (vQ ((p / 2 ^ k) % 2 : Nat)) rfl (qau .u64 _ 2)
  refine fp HF 1 5 [(14, vI (IntKind.i64.wrap (((p / 2 ^ k) % 2 : Nat) : Int)))] fun a HF => ?_
  replace HF := HF.sp 14 (vI ((p / 2 ^ k) % 2 : Nat)) rfl (qk rfl (by omega))
  refine fo HF 6 rfl rfl ?_
  refine qp HF HM (vs := [(0, vI ((p / 2 ^ k) % 2 : Nat))]) (cs := #[vI ((p / 2 ^ k) % 2 : Nat)]) rfl qbv (by decide) rfl (by kernel_rfl) rfl (by decide) ?_
  clear HF HM; intro a w15 g15 HF HM
  refine fo HF 7 rfl rfl ?_
  refine qs HF HM (i := 1) rfl qbv rfl rfl rfl (news := [I64v ((p / 2 ^ k) % 2)]) (HM.rdBlk (i := 0) (n := 1) (size := 1) rfl rfl) (by simp [Value.oneCell', I64v]) (by omega) (by omega) rfl (by decide) ?_
  clear HF HM; intro a w16 A16 c16 HF HM hc16
  refine fp HF 1 8 [(3, .slice A16 (k + 1) c16)] fun a HF => ?_
  refine qb rfl ?_
  have hnA16 : k + 1 = k + 1 := rfl
  replace HM := HM.reRow (i := 1) (ys := (qdh p (k + 1)).map I64v) rfl hnA16 (by rw [qnn]; simp)
  rw [hnA16] at hc16
  replace HF := HF.as (t := 3) (u := .slice A16 (k + 1) c16) rfl (by rw [hnA16])
  replace HF := HF.as (t := 16) (u := .slice A16 (k + 1) c16) rfl (by rw [hnA16])
  refine qa ?_
  refine fp HF 2 0 [(8, vI (IntKind.i64.wrap ((k : Int) + 1)))] fun a HF => ?_
  replace HF := HF.sp 8 (vI (k + 1 : Nat)) rfl (qk (by omega) (by omega))
  refine fp HF 1 2 [(4, vI (k + 1 : Nat))] fun a HF => ?_
  refine qb rfl ?_
  exact ⟨_, (by omega), k + 1, A16, c16, by omega, hc16, rfl, HF.sub (by kernel_rfl), HM.picks [1] (by decide) rfl⟩
 have hd6 := of_decide_eq_false hb6
 obtain rfl : k = 64 := by omega
 refine qe HF rfl (wp_exit (wp_seq (qa ?_)))
 refine fp HF 1 0 [(17, .slice Ak 64 ck)] fun a HF => ?_
 refine fo HF 1 rfl rfl ?_
 refine e_is HF HM [.slice Ak 64 ck] (.slice Ak ((trimL (qdh p 64)).length) ck) rfl rfl (qo1 _ _ _ (qdh p 64) _ (HM.rd (i := 0) rfl) (qjk p 64) (by omega) (by omega)) fun w18 hbw HM a HF => ?_
 have htl18 := qf9 (qdh p 64)
 have hle18 : (trimL (qdh p 64)).length ≤ 64 := by rw [qjk p 64] at htl18; exact htl18
 replace HM := HM.cutRow (i := 0) rfl hle18 (qga (qdh p 64))
 refine fp HF 1 2 [(2, .slice Ak ((trimL (qdh p 64)).length) ck)] fun a HF => ?_
 refine qb rfl (wp_ret ?_)
 exact ret1 rfl HF (.tmp HF rfl) (⟨⟨_, _, rfl, HM.own (i := 0) rfl, by show (trimL (qdh p 64)).length ≤ _; omega⟩, HM.below⟩)
theorem qjm (A A2 : Option Addr) (c c2 : Nat) (p q : List Nat) (s : Nat) (w : World) (h1 : P01 p) (h2 : P01 q) (hr : Rd w w.heap.size 1 A p.length (p.map I64v)) (hr2 : Rd w w.heap.size 1 A2 q.length (q.map I64v)) (hp : p.length ≤ 1000000) (hq : q.length + s ≤ 1000000) :
    Calls Tryz.prog 97 #[.slice A p.length c, .slice A2 q.length c2, .int .i64 (s : Int)] w (PolIs w (sumL p q s)) := by
 refine qg (vs := [.slice A p.length c, .slice A2 q.length c2, vI s]) Tryz.func97 rfl rfl (by kernel_rfl) (σ0 := [(0, .slice A p.length c), (1, .slice A2 q.length c2), (2, vI s)]) rfl ?_
 intro a HF
 have HM := Mem.start w
 refine wp_seq (qa ?_)
 refine fp HF 1 0 [(6, .slice none 0 0)] fun a HF => ?_
 refine qb rfl (wp_seq (qa ?_))
 refine fp HF 1 0 [(7, .slice none 0 0)] fun a HF => ?_
 refine qb rfl ?_
 replace HM := HM.nil 3 1
 refine wp_seq (wp_seq (qa ?_))
 refine fp HF 1 0 [(8, vI 0)] fun a HF => ?_
 refine qb rfl (wp_block ?_)
 refine qv (fun mS aS wS => ∃ (k : Nat) (Ak : Option Addr) (ck : Nat), (k ≤ (max p.length (q.length + s))) ∧ (k ≤ ck) ∧ mS = (max p.length (q.length + s)) - k ∧ Fr aS 58 [] [(8, vI k), (7, .slice Ak k ck), (6, .slice none 0 0), (0, .slice A p.length c), (1, .slice A2 q.length c2), (2, vI s)] ∧ Mem w wS [.row (.slice Ak k ck) k ((sumUp p q s k).map I64v) 3 1]) (m := (max p.length (q.length + s)) - 0) ⟨0, none, 0, Nat.zero_le _, Nat.le_refl _, rfl, HF.sub (by kernel_rfl), HM.picks [0] (by decide) rfl⟩ ?_
 clear HF HM; rintro mS a w_ ⟨k, Ak, ck, hk, hck, rfl, HF, HM⟩
 refine wp_seq (wp_seq (qa ?_))
 refine fp HF 2 0 [(11, .slice A p.length c), (10, vI k)] fun a HF => ?_
 refine fy HF HM 2 rfl rfl rfl (Yl.len rfl rfl (by kernel_rfl)) fun a HF => ?_
 refine fp HF 2 3 [(14, .bool (decide ((k : Int) < (p.length : Int))))] fun a HF => ?_
 rcases HF.tf 14 rfl with ⟨hb14, HF⟩ | ⟨hb14, HF⟩
 ·
  have hd14 := of_decide_eq_true hb14
  refine fp HF 7 5 [(21, .bool true)] fun a HF => ?_
  refine qb rfl (qf HF rfl (wp_skip (wp_seq (wp_block (wp_seq (qa ?_))))))
  refine fp HF 1 0 [(9, vI 0)] fun a HF => ?_
  refine qb rfl (wp_seq (wp_seq (qa ?_)))
  refine fp HF 2 0 [(25, .slice A p.length c), (24, vI k)] fun a HF => ?_
  refine fy HF HM 2 rfl rfl rfl (Yl.len rfl rfl (by kernel_rfl)) fun a HF => ?_
  refine fp HF 1 3 [(27, .bool (decide ((k : Int) < (p.length : Int))))] fun a HF => ?_
  refine qb rfl ?_
  rcases HF.tf 27 rfl with ⟨hb27, HF⟩ | ⟨hb27, HF⟩
  ·
   have hd27 := of_decide_eq_true hb27
   refine qf HF rfl (qa ?_)
   refine fp HF 2 0 [(29, vI k), (28, .slice A p.length c)] fun a HF => ?_
   obtain ⟨gA, oA, rfl, _⟩ := hr.zl (Nat.lt_of_le_of_lt (Nat.zero_le _) (show k < p.length from by omega)) (by decide)
   refine fy HF HM 2 rfl rfl rfl (v := vP gA (oA + k * 1)) (Yl.ix gA oA k 1 rfl rfl rfl) fun a HF => ?_
   have hx54 := getD_lt h1 (k := k) (by first | omega | (simp; omega))
   refine fy HF HM 3 rfl rfl rfl (v := vI (p.getD k 0)) (Yl.qh rfl rfl (by kernel_rfl) (fun _ h => (h.old hr).zt (k := k) (za (F := I64v) (k := k) (x := (p.getD k 0)) ((getD_at 0 (k := k) (by first | omega | (simp; omega))))))) fun a HF => ?_
   refine fp HF 1 4 [(9, vI (p.getD k 0))] fun a HF => ?_
   refine qb rfl (wp_seq (wp_seq (qa ?_)))
   refine fp HF 4 0 [(35, .bool (decide ((k : Int) ≥ (s : Int))))] fun a HF => ?_
   rcases HF.tf 35 rfl with ⟨hb35, HF⟩ | ⟨hb35, HF⟩
   ·
    have hd35 := of_decide_eq_true hb35
    refine fp HF 3 4 [(38, vI (IntKind.i64.wrap ((k : Int) - (s : Int))))] fun a HF => ?_
    replace HF := HF.sp 38 (vI (k - s : Nat)) rfl (qk (by omega) (by omega))
    refine fp HF 1 7 [(39, .slice A2 q.length c2)] fun a HF => ?_
    refine fy HF HM 8 rfl rfl rfl (Yl.len rfl rfl (by kernel_rfl)) fun a HF => ?_
    refine fp HF 2 9 [(42, .bool (decide (((k - s : Nat) : Int) < (q.length : Int))))] fun a HF => ?_
    refine qb rfl ?_
    rcases HF.tf 42 rfl with ⟨hb42, HF⟩ | ⟨hb42, HF⟩
    ·
     have hd42 := of_decide_eq_true hb42
     refine qf HF rfl (qa ?_)
     refine fp HF 5 0 [(47, vI (IntKind.i64.wrap ((k : Int) - (s : Int)))), (44, .slice A2 q.length c2), (43, vI (p.getD k 0))] fun a HF => ?_
     replace HF := HF.sp 47 (vI (k - s : Nat)) rfl (qk (by omega) (by omega))
     obtain ⟨gA2, oA2, rfl, _⟩ := hr2.zl (Nat.lt_of_le_of_lt (Nat.zero_le _) (show k - s < q.length from by omega)) (by decide)
     refine fy HF HM 5 rfl rfl rfl (v := vP gA2 (oA2 + (k - s) * 1)) (Yl.ix gA2 oA2 (k - s) 1 rfl rfl rfl) fun a HF => ?_
     have hx80 := getD_lt h2 (k := (k - s)) (by first | omega | (simp; omega))
     refine fy HF HM 6 rfl rfl rfl (v := vI (q.getD (k - s) 0)) (Yl.qh rfl rfl (by kernel_rfl) (fun _ h => (h.old hr2).zt (k := (k - s)) (za (F := I64v) (k := (k - s)) (x := (q.getD (k - s) 0)) ((getD_at 0 (k := (k - s)) (by first | omega | (simp; omega))))))) fun a HF => ?_
     refine fp HF 1 7 [(50, vI (IntKind.i64.wrap (((p.getD k 0) : Int) + ((q.getD (k - s) 0) : Int))))] fun a HF => ?_
     replace HF := HF.sp 50 (vI ((p.getD k 0) + (q.getD (k - s) 0) : Nat)) rfl (qk (by omega) (by omega))
     refine fp HF 1 8 [(51, vI (Int.tmod (((p.getD k 0) + (q.getD (k - s) 0) : Nat) : Int) 2))] fun a HF => ?_
     replace HF := HF.sp 51 (vI (((p.getD k 0) + (q.getD (k - s) 0)) % 2 : Nat)) rfl (qau .i64 _ 2)
     refine fp HF 1 9 [(9, vI (((p.getD k 0) + (q.getD (k - s) 0)) % 2 : Nat))] fun a HF => ?_
     refine qb rfl (qa ?_)
     refine fp HF 2 0 [(53, vI (((p.getD k 0) + (q.getD (k - s) 0)) % 2 : Nat)), (52, .slice Ak k ck)] fun a HF => ?_
     refine fo HF 2 rfl rfl ?_
     refine qp HF HM (vs := [(0, vI (((p.getD k 0) + (q.getD (k - s) 0)) % 2 : Nat))]) (cs := #[vI (((p.getD k 0) + (q.getD (k - s) 0)) % 2 : Nat)]) rfl qbv (by decide) rfl (by kernel_rfl) rfl (by decide) ?_
     clear HF HM; intro a w54 g54 HF HM
     refine fo HF 3 rfl rfl ?_
     refine qs HF HM (i := 1) rfl qbv rfl rfl rfl (news := [I64v (((p.getD k 0) + (q.getD (k - s) 0)) % 2)]) (HM.rdBlk (i := 0) (n := 1) (size := 1) rfl rfl) (by simp [Value.oneCell', I64v]) (by omega) (by omega) rfl (by decide) ?_
     clear HF HM; intro a w55 A55 c55 HF HM hc55
     refine fp HF 1 4 [(7, .slice A55 (k + 1) c55)] fun a HF => ?_
     refine qb rfl ?_
     have hnA55 : k + 1 = k + 1 := rfl
     replace HM := HM.reRow (i := 1) (ys := (sumUp p q s (k + 1)).map I64v) rfl hnA55 (by rw [qcs, qws (by omega) (by omega)]; simp)
     rw [hnA55] at hc55
     replace HF := HF.as (t := 7) (u := .slice A55 (k + 1) c55) rfl (by rw [hnA55])
     replace HF := HF.as (t := 55) (u := .slice A55 (k + 1) c55) rfl (by rw [hnA55])
     refine qa ?_
     refine fp HF 2 0 [(23, vI (IntKind.i64.wrap ((k : Int) + 1)))] fun a HF => ?_
     replace HF := HF.sp 23 (vI (k + 1 : Nat)) rfl (qk (by omega) (by omega))
     refine fp HF 1 2 [(8, vI (k + 1 : Nat))] fun a HF => ?_
     refine qb rfl ?_
     replace HF := HF.to [(8, vI (k + 1 : Nat)), (55, .slice A55 (k + 1) c55), (7, .slice A55 (k + 1) c55), (9, vI (((p.getD k 0) + (q.getD (k - s) 0)) % 2 : Nat)), (42, .bool true), (27, .bool true), (21, .bool true), (6, .slice none 0 0), (0, .slice (some ⟨gA, oA, none⟩) p.length c), (1, .slice (some ⟨gA2, oA2, none⟩) q.length c2), (2, vI s)]
     exact ⟨_, (by omega), k + 1, A55, c55, by omega, hc55, rfl, HF.sub (by kernel_rfl), HM.picks [1] (by decide) rfl⟩
    have hd42 := of_decide_eq_false hb42
    refine qe HF rfl (wp_skip (qa ?_))
    refine fp HF 2 0 [(53, vI (p.getD k 0)), (52, .slice Ak k ck)] fun a HF => ?_
    refine fo HF 2 rfl rfl ?_
    refine qp HF HM (vs := [(0, vI (p.getD k 0))]) (cs := #[vI (p.getD k 0)]) rfl qbv (by decide) rfl (by kernel_rfl) rfl (by decide) ?_
    clear HF HM; intro a w54 g54 HF HM
    refine fo HF 3 rfl rfl ?_
    refine qs HF HM (i := 1) rfl qbv rfl rfl rfl (news := [I64v (p.getD k 0)]) (HM.rdBlk (i := 0) (n := 1) (size := 1) rfl rfl) (by simp [Value.oneCell', I64v]) (by omega) (by omega) rfl (by decide) ?_
    clear HF HM; intro a w55 A55 c55 HF HM hc55
    refine fp HF 1 4 [(7, .slice A55 (k + 1) c55)] fun a HF => ?_
    refine qb rfl ?_
    have hnA55 : k + 1 = k + 1 := rfl
    replace HM := HM.reRow (i := 1) (ys := (sumUp p q s (k + 1)).map I64v) rfl hnA55 (by rw [qcs, qtm (by omega)]; simp)
    rw [hnA55] at hc55
    replace HF := HF.as (t := 7) (u := .slice A55 (k + 1) c55) rfl (by rw [hnA55])
    replace HF := HF.as (t := 55) (u := .slice A55 (k + 1) c55) rfl (by rw [hnA55])
    refine qa ?_
    refine fp HF 2 0 [(23, vI (IntKind.i64.wrap ((k : Int) + 1)))] fun a HF => ?_
    replace HF := HF.sp 23 (vI (k + 1 : Nat)) rfl (qk (by omega) (by omega))
    refine fp HF 1 2 [(8, vI (k + 1 : Nat))] fun a HF => ?_
    refine qb rfl ?_
    exact ⟨_, (by omega), k + 1, A55, c55, by omega, hc55, rfl, HF.sub (by kernel_rfl), HM.picks [1] (by decide) rfl⟩
   have hd35 := of_decide_eq_false hb35
   refine fp HF 7 4 [(42, .bool false)] fun a HF => ?_
   refine qb rfl (qe HF rfl (wp_skip (qa ?_)))
   refine fp HF 2 0 [(53, vI (p.getD k 0)), (52, .slice Ak k ck)] fun a HF => ?_
   refine fo HF 2 rfl rfl ?_
   refine qp HF HM (vs := [(0, vI (p.getD k 0))]) (cs := #[vI (p.getD k 0)]) rfl qbv (by decide) rfl (by kernel_rfl) rfl (by decide) ?_
   clear HF HM; intro a w54 g54 HF HM
   refine fo HF 3 rfl rfl ?_
   refine qs HF HM (i := 1) rfl qbv rfl rfl rfl (news := [I64v (p.getD k 0)]) (HM.rdBlk (i := 0) (n := 1) (size := 1) rfl rfl) (by simp [Value.oneCell', I64v]) (by omega) (by omega) rfl (by decide) ?_
   clear HF HM; intro a w55 A55 c55 HF HM hc55
   refine fp HF 1 4 [(7, .slice A55 (k + 1) c55)] fun a HF => ?_
   refine qb rfl ?_
   have hnA55 : k + 1 = k + 1 := rfl
   replace HM := HM.reRow (i := 1) (ys := (sumUp p q s (k + 1)).map I64v) rfl hnA55 (by rw [qcs, qtm (by omega)]; simp)
   rw [hnA55] at hc55
   replace HF := HF.as (t := 7) (u := .slice A55 (k + 1) c55) rfl (by rw [hnA55])
   replace HF := HF.as (t := 55) (u := .slice A55 (k + 1) c55) rfl (by rw [hnA55])
   refine qa ?_
   refine fp HF 2 0 [(23, vI (IntKind.i64.wrap ((k : Int) + 1)))] fun a HF => ?_
   replace HF := HF.sp 23 (vI (k + 1 : Nat)) rfl (qk (by omega) (by omega))
   refine fp HF 1 2 [(8, vI (k + 1 : Nat))] fun a HF => ?_
   refine qb rfl ?_
   exact ⟨_, (by omega), k + 1, A55, c55, by omega, hc55, rfl, HF.sub (by kernel_rfl), HM.picks [1] (by decide) rfl⟩
  have hd27 := of_decide_eq_false hb27
  omega
 have hd14 := of_decide_eq_false hb14
 refine fp HF 2 5 [(16, .slice A2 q.length c2), (15, vI k)] fun a HF => ?_
 refine fy HF HM 7 rfl rfl rfl (Yl.len rfl rfl (by kernel_rfl)) fun a HF => ?_
 refine fp HF 2 8 [(19, vI (IntKind.i64.wrap ((q.length : Int) + (s : Int))))] fun a HF => ?_
 replace HF := HF.sp 19 (vI (q.length + s : Nat)) rfl (qk (by omega) (by omega))
 refine fp HF 2 10 [(21, .bool (decide ((k : Int) < ((q.length + s : Nat) : Int))))] fun a HF => ?_
 refine qb rfl ?_
 rcases HF.tf 21 rfl with ⟨hb21, HF⟩ | ⟨hb21, HF⟩
 ·
  have hd21 := of_decide_eq_true hb21
  refine qf HF rfl (wp_skip (wp_seq (wp_block (wp_seq (qa ?_)))))
  refine fp HF 1 0 [(9, vI 0)] fun a HF => ?_
  refine qb rfl (wp_seq (wp_seq (qa ?_)))
  refine fp HF 2 0 [(25, .slice A p.length c), (24, vI k)] fun a HF => ?_
  refine fy HF HM 2 rfl rfl rfl (Yl.len rfl rfl (by kernel_rfl)) fun a HF => ?_
  refine fp HF 1 3 [(27, .bool (decide ((k : Int) < (p.length : Int))))] fun a HF => ?_
  refine qb rfl ?_
  rcases HF.tf 27 rfl with ⟨hb27, HF⟩ | ⟨hb27, HF⟩
  ·
   have hd27 := of_decide_eq_true hb27
   omega
  have hd27 := of_decide_eq_false hb27
  refine qe HF rfl (wp_skip (wp_seq (wp_seq (qa ?_))))
  refine fp HF 4 0 [(35, .bool (decide ((k : Int) ≥ (s : Int))))] fun a HF => ?_
  rcases HF.tf 35 rfl with ⟨hb35, HF⟩ | ⟨hb35, HF⟩
  ·
   have hd35 := of_decide_eq_true hb35
   refine fp HF 3 4 [(38, vI (IntKind.i64.wrap ((k : Int) - (s : Int))))] fun a HF => ?_
   replace HF := HF.sp 38 (vI (k - s : Nat)) rfl (qk (by omega) (by omega))
   refine fp HF 1 7 [(39, .slice A2 q.length c2)] fun a HF => ?_
   refine fy HF HM 8 rfl rfl rfl (Yl.len rfl rfl (by kernel_rfl)) fun a HF => ?_
   refine fp HF 2 9 [(42, .bool (decide (((k - s : Nat) : Int) < (q.length : Int))))] fun a HF => ?_
   refine qb rfl ?_
   rcases HF.tf 42 rfl with ⟨hb42, HF⟩ | ⟨hb42, HF⟩
   ·
    have hd42 := of_decide_eq_true hb42
    refine qf HF rfl (qa ?_)
    refine fp HF 5 0 [(47, vI (IntKind.i64.wrap ((k : Int) - (s : Int)))), (44, .slice A2 q.length c2), (43, vI 0)] fun a HF => ?_
    replace HF := HF.sp 47 (vI (k - s : Nat)) rfl (qk (by omega) (by omega))
    obtain ⟨gA2, oA2, rfl, _⟩ := hr2.zl (Nat.lt_of_le_of_lt (Nat.zero_le _) (show k - s < q.length from by omega)) (by decide)
    refine fy HF HM 5 rfl rfl rfl (v := vP gA2 (oA2 + (k - s) * 1)) (Yl.ix gA2 oA2 (k - s) 1 rfl rfl rfl) fun a HF => ?_
    have hx216 := getD_lt h2 (k := (k - s)) (by first | omega | (simp; omega))
    refine fy HF HM 6 rfl rfl rfl (v := vI (q.getD (k - s) 0)) (Yl.qh rfl rfl (by kernel_rfl) (fun _ h => (h.old hr2).zt (k := (k - s)) (za (F := I64v) (k := (k - s)) (x := (q.getD (k - s) 0)) ((getD_at 0 (k := (k - s)) (by first | omega | (simp; omega))))))) fun a HF => ?_
    refine fp HF 1 7 [(50, vI (IntKind.i64.wrap (0 + ((q.getD (k - s) 0) : Int))))] fun a HF => ?_
    replace HF := HF.sp 50 (vI (0 + (q.getD (k - s) 0) : Nat)) rfl (qk (by omega) (by omega))
    refine fp HF 1 8 [(51, vI (Int.tmod ((0 + (q.getD (k - s) 0) : Nat) : Int) 2))] fun a HF => ?_
    replace HF := HF.sp 51 (vI ((0 + (q.getD (k - s) 0)) % 2 : Nat)) rfl (qau .i64 _ 2)
    refine fp HF 1 9 [(9, vI ((0 + (q.getD (k - s) 0)) % 2 : Nat))] fun a HF => ?_
    refine qb rfl (qa ?_)
    refine fp HF 2 0 [(53, vI ((0 + (q.getD (k - s) 0)) % 2 : Nat)), (52, .slice Ak k ck)] fun a HF => ?_
    refine fo HF 2 rfl rfl ?_
    refine qp HF HM (vs := [(0, vI ((0 + (q.getD (k - s) 0)) % 2 : Nat))]) (cs := #[vI ((0 + (q.getD (k - s) 0)) % 2 : Nat)]) rfl qbv (by decide) rfl (by kernel_rfl) rfl (by decide) ?_
    clear HF HM; intro a w54 g54 HF HM
    refine fo HF 3 rfl rfl ?_
    refine qs HF HM (i := 1) rfl qbv rfl rfl rfl (news := [I64v ((0 + (q.getD (k - s) 0)) % 2)]) (HM.rdBlk (i := 0) (n := 1) (size := 1) rfl rfl) (by simp [Value.oneCell', I64v]) (by omega) (by omega) rfl (by decide) ?_
    clear HF HM; intro a w55 A55 c55 HF HM hc55
    refine fp HF 1 4 [(7, .slice A55 (k + 1) c55)] fun a HF => ?_
    refine qb rfl ?_
    have hnA55 : k + 1 = k + 1 := rfl
    replace HM := HM.reRow (i := 1) (ys := (sumUp p q s (k + 1)).map I64v) rfl hnA55 (by rw [qcs, qys (by omega) (by omega) (by omega)]; simp)
    rw [hnA55] at hc55
    replace HF := HF.as (t := 7) (u := .slice A55 (k + 1) c55) rfl (by rw [hnA55])
    replace HF := HF.as (t := 55) (u := .slice A55 (k + 1) c55) rfl (by rw [hnA55])
    refine qa ?_
    refine fp HF 2 0 [(23, vI (IntKind.i64.wrap ((k : Int) + 1)))] fun a HF => ?_
    replace HF := HF.sp 23 (vI (k + 1 : Nat)) rfl (qk (by omega) (by omega))
    refine fp HF 1 2 [(8, vI (k + 1 : Nat))] fun a HF => ?_
    refine qb rfl ?_
    replace HF := HF.to [(8, vI (k + 1 : Nat)), (55, .slice A55 (k + 1) c55), (7, .slice A55 (k + 1) c55), (9, vI ((0 + (q.getD (k - s) 0)) % 2 : Nat)), (42, .bool true), (27, .bool false), (21, .bool true), (6, .slice none 0 0), (0, .slice A p.length c), (1, .slice (some ⟨gA2, oA2, none⟩) q.length c2), (2, vI s)]
    exact ⟨_, (by omega), k + 1, A55, c55, by omega, hc55, rfl, HF.sub (by kernel_rfl), HM.picks [1] (by decide) rfl⟩
   have hd42 := of_decide_eq_false hb42
   refine qe HF rfl (wp_skip (qa ?_))
   refine fp HF 2 0 [(53, vI 0), (52, .slice Ak k ck)] fun a HF => ?_
   refine fo HF 2 rfl rfl ?_
   refine qp HF HM (vs := [(0, vI 0)]) (cs := #[vI 0]) rfl qbv (by decide) rfl (by kernel_rfl) rfl (by decide) ?_
   clear HF HM; intro a w54 g54 HF HM
   refine fo HF 3 rfl rfl ?_
   refine qs HF HM (i := 1) rfl qbv rfl rfl rfl (news := [I64v 0]) (HM.rdBlk (i := 0) (n := 1) (size := 1) rfl rfl) (by simp [Value.oneCell', I64v]) (by omega) (by omega) rfl (by decide) ?_
   clear HF HM; intro a w55 A55 c55 HF HM hc55
   refine fp HF 1 4 [(7, .slice A55 (k + 1) c55)] fun a HF => ?_
   refine qb rfl ?_
   have hnA55 : k + 1 = k + 1 := rfl
   replace HM := HM.reRow (i := 1) (ys := (sumUp p q s (k + 1)).map I64v) rfl hnA55 (by rw [qcs, qwt (by omega) (by omega)]; simp)
   rw [hnA55] at hc55
   replace HF := HF.as (t := 7) (u := .slice A55 (k + 1) c55) rfl (by rw [hnA55])
   replace HF := HF.as (t := 55) (u := .slice A55 (k + 1) c55) rfl (by rw [hnA55])
   refine qa ?_
   refine fp HF 2 0 [(23, vI (IntKind.i64.wrap ((k : Int) + 1)))] fun a HF => ?_
   replace HF := HF.sp 23 (vI (k + 1 : Nat)) rfl (qk (by omega) (by omega))
   refine fp HF 1 2 [(8, vI (k + 1 : Nat))] fun a HF => ?_
   refine qb rfl ?_
   exact ⟨_, (by omega), k + 1, A55, c55, by omega, hc55, rfl, HF.sub (by kernel_rfl), HM.picks [1] (by decide) rfl⟩
  have hd35 := of_decide_eq_false hb35
  refine fp HF 7 4 [(42, .bool false)] fun a HF => ?_
  refine qb rfl (qe HF rfl (wp_skip (qa ?_)))
  refine fp HF 2 0 [(53, vI 0), (52, .slice Ak k ck)] fun a HF => ?_
  refine fo HF 2 rfl rfl ?_
  refine qp HF HM (vs := [(0, vI 0)]) (cs := #[vI 0]) rfl qbv (by decide) rfl (by kernel_rfl) rfl (by decide) ?_
  clear HF HM; intro a w54 g54 HF HM
  refine fo HF 3 rfl rfl ?_
  refine qs HF HM (i := 1) rfl qbv rfl rfl rfl (news := [I64v 0]) (HM.rdBlk (i := 0) (n := 1) (size := 1) rfl rfl) (by simp [Value.oneCell', I64v]) (by omega) (by omega) rfl (by decide) ?_
  clear HF HM; intro a w55 A55 c55 HF HM hc55
  refine fp HF 1 4 [(7, .slice A55 (k + 1) c55)] fun a HF => ?_
  refine qb rfl ?_
  have hnA55 : k + 1 = k + 1 := rfl
  replace HM := HM.reRow (i := 1) (ys := (sumUp p q s (k + 1)).map I64v) rfl hnA55 (by rw [qcs, qwt (by omega) (by omega)]; simp)
  rw [hnA55] at hc55
  replace HF := HF.as (t := 7) (u := .slice A55 (k + 1) c55) rfl (by rw [hnA55])
  replace HF := HF.as (t := 55) (u := .slice A55 (k + 1) c55) rfl (by rw [hnA55])
  refine qa ?_
  refine fp HF 2 0 [(23, vI (IntKind.i64.wrap ((k : Int) + 1)))] fun a HF => ?_
  replace HF := HF.sp 23 (vI (k + 1 : Nat)) rfl (qk (by omega) (by omega))
  refine fp HF 1 2 [(8, vI (k + 1 : Nat))] fun a HF => ?_
  refine qb rfl ?_
  exact ⟨_, (by omega), k + 1, A55, c55, by omega, hc55, rfl, HF.sub (by kernel_rfl), HM.picks [1] (by decide) rfl⟩
 have hd21 := of_decide_eq_false hb21
 have hkM : k = (max p.length (q.length + s)) := by omega
 refine qe HF rfl (wp_exit (wp_seq (qa ?_)))
 refine fp HF 1 0 [(56, .slice Ak k ck)] fun a HF => ?_
 refine fo HF 1 rfl rfl ?_
 refine e_is HF HM [.slice Ak k ck] (.slice Ak ((trimL (sumUp p q s k)).length) ck) rfl rfl (qo1 _ _ _ (sumUp p q s k) _ (HM.rd (i := 0) rfl) (qmc p q s k) (by omega) (by omega)) fun w57 hbw HM a HF => ?_
 have htl57 := qf9 (sumUp p q s k)
 have hle57 : (trimL (sumUp p q s k)).length ≤ k := by rw [qmc p q s k] at htl57; exact htl57
 replace HM := HM.cutRow (i := 0) rfl hle57 (qga (sumUp p q s k))
 refine fp HF 1 2 [(6, .slice Ak ((trimL (sumUp p q s k)).length) ck)] fun a HF => ?_
 refine qb rfl (wp_ret ?_)
 exact ret1 rfl HF (.tmp HF rfl) (by rw [← qtl p q s, ← hkM]; exact ⟨⟨_, _, rfl, HM.own (i := 0) rfl, by omega⟩, HM.below⟩)
theorem one01 : P01 [1] := by intro x hx; simp at hx; omega
theorem qvy {w w' : World} {A X Xr : Option Addr} {c ca cr : Nat} {p q al xr : List Nat} {vq : Value} (hR : divR (p.length + 1) p q = al) (hX : (X = A ∧ ca = c ∧ al = p) ∨ (X = Xr ∧ ca = cr ∧ al = xr ∧ q.length ≤ p.length))
  (hO : w'.ownsRow w.heap.size 3 1 (.slice Xr xr.length cr) xr.length (xr.map I64v)) (hcr : xr.length ≤ cr) (hless : al.length < q.length) (hb : Below w.heap.size w w') :
  DivIs w A c p q (.returned (.tuple #[vq, .slice X al.length ca])) w' := by
 unfold DivIs
 rw [hR]
 refine ⟨⟨vq, X, ca, rfl, ?_, ?_⟩, hb⟩
 ·intro h
  rcases hX with ⟨h1, h2, _⟩ | ⟨_, _, _, h4⟩
  ·exact ⟨h1, h2⟩
  ·omega
 ·intro h
  rcases hX with ⟨_, _, h3⟩ | ⟨rfl, rfl, rfl, _⟩
  ·subst h3; omega
  ·exact ⟨hO, hcr⟩
theorem qjn (A A2 : Option Addr) (c c2 : Nat) (p q : List Nat) (w : World) (h1 : P01 p) (h2 : P01 q) (t1 : Tr p) (t2 : Tr q) (h0 : 0 < q.length) (hr : Rd w w.heap.size 1 A p.length (p.map I64v)) (hr2 : Rd w w.heap.size 1 A2 q.length (q.map I64v)) (hp : p.length ≤ 100000) (hq : q.length ≤ 100000) :
    Calls Tryz.prog 86 #[.slice A p.length c, .slice A2 q.length c2] w (DivIs w A c p q) := by
 refine qg (vs := [.slice A p.length c, .slice A2 q.length c2]) Tryz.func86 rfl rfl (by kernel_rfl) (σ0 := [(0, .slice A p.length c), (1, .slice A2 q.length c2)]) rfl ?_
 intro a HF
 have HM := Mem.start w
 refine wp_seq (qa ?_)
 refine fp HF 2 0 [(5, .slice none 0 0), (4, .slice none 0 0)] fun a HF => ?_
 refine qb rfl (wp_seq (qa ?_))
 refine fp HF 1 0 [(6, .slice none 0 0)] fun a HF => ?_
 refine qb rfl ?_
 replace HM := (HM.nil 3 1).nil 3 1
 refine wp_seq (wp_block ?_)
 refine qv (fun mS aS wS => ∃ (al : List Nat) (X : Option Addr) (ca : Nat) (Xr : Option Addr) (xr : List Nat) (cr : Nat) (ql : List Nat) (Aq : Option Addr) (cq : Nat), (P01 al) ∧ (Tr al) ∧ (al.length ≤ p.length) ∧ (divR (al.length + 1) al q = divR (p.length + 1) p q) ∧ ((X = A ∧ ca = c ∧ al = p) ∨ (X = Xr ∧ ca = cr ∧ al = xr ∧ q.length ≤ p.length)) ∧ (P01 ql) ∧ (ql.length ≤ p.length + 1) ∧ (xr.length ≤ cr) ∧ mS = al.length ∧ Fr aS 28 [] [(6, .slice Aq ql.length cq), (5, .slice none 0 0), (4, .slice none 0 0), (0, .slice X al.length ca), (1, .slice A2 q.length c2)] ∧ Mem w wS [.row (.slice Aq ql.length cq) ql.length (ql.map I64v) 3 1, .row (.slice Xr xr.length cr) xr.length (xr.map I64v) 3 1]) (m := p.length) ⟨p, A, c, none, [], 0, [], none, 0, h1, t1, Nat.le_refl _, rfl, .inl ⟨rfl, rfl, rfl⟩, (by intro x hx; cases hx), Nat.zero_le _, Nat.le_refl _, rfl, HF.sub (by kernel_rfl), HM.picks [0, 1] (by decide) rfl⟩ ?_
 clear HF HM; rintro mS a w_ ⟨al, X, ca, Xr, xr, cr, ql, Aq, cq, ha1, hat, hal, hdv, hX, hq1, hql, hcr, rfl, HF, HM⟩
 refine wp_seq (wp_seq (qa ?_))
 refine fp HF 1 0 [(8, .slice X al.length ca)] fun a HF => ?_
 refine fy HF HM 1 rfl rfl rfl (Yl.len rfl rfl (by kernel_rfl)) fun a HF => ?_
 refine fp HF 1 2 [(10, .slice A2 q.length c2)] fun a HF => ?_
 refine fy HF HM 3 rfl rfl rfl (Yl.len rfl rfl (by kernel_rfl)) fun a HF => ?_
 refine fp HF 1 4 [(12, .bool (decide ((al.length : Int) ≥ (q.length : Int))))] fun a HF => ?_
 refine qb rfl ?_
 rcases HF.tf 12 rfl with ⟨hb12, HF⟩ | ⟨hb12, HF⟩
 ·
  have hd12 := of_decide_eq_true hb12
  have hless := qhn ha1 h2 hat t2 h0 (by omega)
  refine qf HF rfl (wp_skip (wp_block (wp_seq (qa ?_))))
  refine fp HF 1 0 [(13, .slice X al.length ca)] fun a HF => ?_
  refine fy HF HM 1 rfl rfl rfl (Yl.len rfl rfl (by kernel_rfl)) fun a HF => ?_
  refine fp HF 1 2 [(15, .slice A2 q.length c2)] fun a HF => ?_
  refine fy HF HM 3 rfl rfl rfl (Yl.len rfl rfl (by kernel_rfl)) fun a HF => ?_
  refine fp HF 1 4 [(17, vI (IntKind.i64.wrap ((al.length : Int) - (q.length : Int))))] fun a HF => ?_
  replace HF := HF.sp 17 (vI (al.length - q.length : Nat)) rfl (qk (by omega) (by omega))
  refine fp HF 1 5 [(7, vI (al.length - q.length : Nat))] fun a HF => ?_
  refine qb rfl (wp_seq (qa ?_))
  refine fp HF 1 0 [(18, .slice Aq ql.length cq)] fun a HF => ?_
  refine fo HF 1 rfl rfl ?_
  refine qp HF HM (vs := [(0, vI 1)]) (cs := #[vI 1]) rfl qbv (by decide) rfl (by kernel_rfl) rfl (by decide) ?_
  clear HF HM; intro a w19 g19 HF HM
  refine fp HF 1 2 [(20, vI (al.length - q.length : Nat))] fun a HF => ?_
  refine fo HF 3 rfl rfl ?_
  refine e_cl HF [.slice Aq ql.length cq, vS g19 1 1, vI (al.length - q.length : Nat)] rfl rfl (qjm _ _ _ _ ql [1] (al.length - q.length) _ hq1 one01 (HM.rd (i := 1) rfl) (HM.rdBlk (i := 0) (n := 1) (size := 1) rfl rfl) (by omega) (by simp only [List.length_singleton]; omega)) ?_
  rintro _ w21 ⟨⟨A21, c21, rfl, ho, hc21⟩, hbw⟩
  refine ⟨_, rfl, ?_⟩
  replace HM := HM.callRow hbw ho
  clear HF; intro a HF
  refine fp HF 1 4 [(6, .slice A21 ((sumL ql [1] (al.length - q.length)).length) c21)] fun a HF => ?_
  refine qb rfl (qa ?_)
  refine fp HF 3 0 [(24, vI (al.length - q.length : Nat)), (23, .slice A2 q.length c2), (22, .slice X al.length ca)] fun a HF => ?_
  refine fo HF 3 rfl rfl ?_
  refine e_cl HF [.slice X al.length ca, .slice A2 q.length c2, vI (al.length - q.length : Nat)] rfl rfl (qjm _ _ _ _ al q (al.length - q.length) _ ha1 h2 (by rcases hX with ⟨rfl, rfl, rfl⟩ | ⟨rfl, rfl, rfl, _⟩ <;> first | exact HM.old hr | exact HM.rd (i := 3) rfl) (HM.old hr2) (by omega) (by omega)) ?_
  rintro _ w25 ⟨⟨A25, c25, rfl, ho, hc25⟩, hbw⟩
  refine ⟨_, rfl, ?_⟩
  replace HM := HM.callRow hbw ho
  clear HF; intro a HF
  refine fp HF 1 4 [(0, .slice A25 ((sumL al q (al.length - q.length)).length) c25)] fun a HF => ?_
  refine qb rfl ?_
  exact ⟨_, hless, (sumL al q (al.length - q.length)), A25, c25, A25, (sumL al q (al.length - q.length)), c25, (sumL ql [1] (al.length - q.length)), A21, c21, sum01 ha1 _, sumTr _ _ _, by omega, qos h2 t2 h0 ha1 hat (by omega) hdv, .inr ⟨rfl, rfl, rfl, by omega⟩, sum01 hq1 _, by have := qxi ql [1] (al.length - q.length); simp only [List.length_singleton] at this; omega, hc25, rfl, HF.sub (by kernel_rfl), HM.picks [1, 0] (by decide) rfl⟩
 have hd12 := of_decide_eq_false hb12
 refine qe HF rfl (wp_exit (wp_seq (qa ?_)))
 refine fp HF 4 0 [(5, .slice X al.length ca), (4, .slice Aq ql.length cq)] fun a HF => ?_
 refine qb rfl (wp_ret ?_)
 have hR : divR (p.length + 1) p q = al := by rw [← hdv, qot (by omega)]
 exact ret2 rfl HF (.tmp HF rfl) (.tmp HF rfl) (qvy hR hX (HM.own (i := 1) rfl) hcr (by omega) HM.below)
theorem qo2 (A : Option Addr) (c y : Nat) (hy : y < 256) (w : World) (hr : Rd w w.heap.size 1 A 1 ([y].map B8)) :
    Calls Tryz.prog 87 #[.slice A 1 c] w (PolIs w (bitsOf y)) := by
 refine qg (vs := [.slice A 1 c]) Tryz.func87 rfl rfl (by kernel_rfl) (σ0 := [(0, .slice A 1 c)]) rfl ?_
 intro a HF
 have HM := Mem.start w
 refine wp_seq (qa ?_)
 refine fp HF 1 0 [(2, .slice none 0 0)] fun a HF => ?_
 refine qb rfl (wp_seq (qa ?_))
 refine fp HF 1 0 [(6, .slice A 1 c)] fun a HF => ?_
 refine fy HF HM 1 rfl rfl rfl (Yl.len rfl rfl (by kernel_rfl)) fun a HF => ?_
 refine fp HF 2 2 [(3, vI 8)] fun a HF => ?_
 refine qb rfl (wp_seq (qa ?_))
 refine fp HF 2 0 [(10, vI 40)] fun a HF => ?_
 refine fo HF 2 rfl rfl ?_
 refine qw3 HF HM (m := 40) rfl qbv rfl rfl (by omega) (by omega) rfl (by decide) ?_
 clear HF HM; intro a w11 g11 HF HM
 refine fp HF 1 3 [(4, vS g11 40 40)] fun a HF => ?_
 refine qb rfl ?_
 have hnsomeg110none : 40 = 40 := rfl
 replace HM := HM.reRow (i := 0) (ys := (qbo y 0).map I64v) rfl hnsomeg110none (by rw [qno]; kernel_rfl)
 replace HF := HF.as (t := 4) (u := vS g11 40 40) rfl (by rw [hnsomeg110none])
 replace HF := HF.as (t := 11) (u := vS g11 40 40) rfl (by rw [hnsomeg110none])
 refine wp_seq (wp_seq (qa ?_))
 refine fp HF 1 0 [(5, vI 0)] fun a HF => ?_
 refine qb rfl (wp_block ?_)
 refine qv (fun mS aS wS => ∃ (k : Nat), (k ≤ 8) ∧ mS = 8 - k ∧ Fr aS 52 [] [(5, vI k), (11, vS g11 40 40), (4, vS g11 40 40), (3, vI 8), (2, .slice none 0 0), (0, .slice A 1 c)] ∧ Mem w wS [.row (vS g11 40 40) 40 ((qbo y k).map I64v) 3 1]) (m := 8 - 0) ⟨0, by omega, rfl, HF.sub (by kernel_rfl), HM.picks [0] (by decide) rfl⟩ ?_
 clear HF HM; rintro mS a w_ ⟨k, hk, rfl, HF, HM⟩
 refine wp_seq (wp_seq (qa ?_))
 refine fp HF 3 0 [(14, .bool (decide ((k : Int) < (8 : Int))))] fun a HF => ?_
 refine qb rfl ?_
 rcases HF.tf 14 rfl with ⟨hb14, HF⟩ | ⟨hb14, HF⟩
 ·
  have hd14 := of_decide_eq_true hb14
  have hk8 : k < 8 := by omega
  refine qf HF rfl (wp_skip (wp_seq (wp_block (qa ?_))))
  refine fp HF 6 0 [(22, vI (IntKind.i64.wrap (39 - (k : Int)))), (17, vS g11 40 40)] fun a HF => ?_
  replace HF := HF.sp 22 (vI (39 - k : Nat)) rfl (qk (by omega) (by omega))
  refine fp HF 3 6 [(25, vI (IntKind.i64.wrap (Int.tdiv (k : Int) 8))), (23, .slice A 1 c)] fun a HF => ?_
  replace HF := HF.sp 25 (vI (k / 8 : Nat)) rfl (qbr .i64 8 (by show _ ≤ 9223372036854775807; omega))
  obtain ⟨gA, oA, rfl, _⟩ := hr.zl (Nat.lt_of_le_of_lt (Nat.zero_le _) (show k / 8 < 1 from by omega)) (by decide)
  refine fy HF HM 9 rfl rfl rfl (v := vP gA (oA + (k / 8) * 1)) (Yl.ix gA oA (k / 8) 1 rfl rfl rfl) fun a HF => ?_
  refine fy HF HM 10 rfl rfl rfl (v := vB ([y].getD (k / 8) 0)) (Yl.qh rfl rfl (by kernel_rfl) (fun _ h => (h.old hr).zt (k := (k / 8)) (za (F := B8) (k := (k / 8)) (x := ([y].getD (k / 8) 0)) ((getD_at 0 (k := (k / 8)) (by first | omega | (simp; omega))))))) fun a HF => ?_
  replace HF := HF.sp 27 (vB y) rfl (by rw [show k / 8 = 0 by omega]; rfl)
  refine fp HF 2 11 [(29, vI (Int.tmod (k : Int) 8))] fun a HF => ?_
  replace HF := HF.sp 29 (vI (k % 8 : Nat)) rfl (qau .i64 _ 8)
  refine fy HF HM 13 rfl rfl rfl (v := vB (y / 2 ^ (k % 8) : Nat)) (Yl.shrN (m := y) (n := (k % 8)) rfl rfl rfl (by show _ ≤ 8; omega)) fun a HF => ?_
  refine fp HF 1 14 [(31, vB (Int.tmod ((y / 2 ^ (k % 8) : Nat) : Int) 2))] fun a HF => ?_
  replace HF := HF.sp 31 (vB ((y / 2 ^ (k % 8)) % 2 : Nat)) rfl (qau .u8 _ 2)
  refine fp HF 1 15 [(32, vI (IntKind.i64.wrap (((y / 2 ^ (k % 8)) % 2 : Nat) : Int)))] fun a HF => ?_
  replace HF := HF.sp 32 (vI ((y / 2 ^ (k % 8)) % 2 : Nat)) rfl (qk rfl (by omega))
  refine fy HF HM 16 rfl rfl rfl (v := vP g11 ((39 - k) * 1)) (Yl.ix0 g11 (39 - k) 1 rfl rfl rfl) fun a HF => ?_
  refine fo HF 17 rfl rfl ?_
  refine qdb HF HM (i := 0) rfl rfl rfl rfl (by kernel_rfl) rfl rfl (by rw [List.length_map, qbp]; omega) ?_
  clear HM; intro w6_17 HM
  replace HM := HM.asRow (i := 0) (ys := (qbo y (k + 1)).map I64v) rfl ((qfu I64v (qbo y k) (39 - k) (y / 2 ^ (k % 8) % 2) (by rw [qbp]; omega)).trans (by rw [show k % 8 = k by omega, qnp (by omega)]))
  refine qb rfl (qa ?_)
  refine fp HF 2 0 [(16, vI (IntKind.i64.wrap ((k : Int) + 1)))] fun a HF => ?_
  replace HF := HF.sp 16 (vI (k + 1 : Nat)) rfl (qk (by omega) (by omega))
  refine fp HF 1 2 [(5, vI (k + 1 : Nat))] fun a HF => ?_
  refine qb rfl ?_
  exact ⟨_, (by omega), k + 1, by omega, rfl, HF.sub (by kernel_rfl), HM.picks [0] (by decide) rfl⟩
 have hd14 := of_decide_eq_false hb14
 obtain rfl : k = 8 := by omega
 refine qe HF rfl (wp_exit (wp_seq (wp_block ?_)))
 refine qv (fun mS aS wS => ∃ (j : Nat), (j ≤ 40) ∧ (trimL ((qbo y 8).take j) = trimL (qbo y 8)) ∧ mS = 0 + j ∧ Fr aS 52 [] [(14, .bool false), (5, vI 8), (11, vS g11 40 40), (4, vS g11 j 40), (3, vI 8), (2, .slice none 0 0), (0, .slice A 1 c)] ∧ Mem w wS [.row (vS g11 40 40) 40 ((qbo y 8).map I64v) 3 1]) (m := 0 + 40) ⟨40, by omega, by rw [List.take_of_length_le (by rw [qbp]; omega)], rfl, HF.sub (by kernel_rfl), HM.picks [0] (by decide) rfl⟩ ?_
 clear HF HM; rintro mS a w_ ⟨j, hj, ht, rfl, HF, HM⟩
 have hbl := qbp y 8
 refine wp_seq (wp_seq (qa ?_))
 refine fp HF 1 0 [(34, vS g11 j 40)] fun a HF => ?_
 refine fy HF HM 1 rfl rfl rfl (Yl.len rfl rfl (by kernel_rfl)) fun a HF => ?_
 refine fp HF 2 2 [(37, .bool (decide ((j : Int) > (0 : Int))))] fun a HF => ?_
 rcases HF.tf 37 rfl with ⟨hb37, HF⟩ | ⟨hb37, HF⟩
 ·
  have hd37 := of_decide_eq_true hb37
  have hj0 : 0 < j := by omega
  refine fp HF 2 4 [(39, vS g11 j 40), (38, vS g11 j 40)] fun a HF => ?_
  refine fy HF HM 6 rfl rfl rfl (Yl.len rfl rfl (by kernel_rfl)) fun a HF => ?_
  refine fp HF 1 7 [(41, vI (IntKind.i64.wrap ((j : Int) - 1)))] fun a HF => ?_
  replace HF := HF.sp 41 (vI (j - 1 : Nat)) rfl (qk (by omega) (by omega))
  refine fy HF HM 8 rfl rfl rfl (v := vP g11 ((j - 1) * 1)) (Yl.ix0 g11 (j - 1) 1 rfl rfl rfl) fun a HF => ?_
  refine fy HF HM 9 rfl rfl rfl (v := vI ((qbo y 8).getD (j - 1) 0)) (Yl.qh rfl rfl (by kernel_rfl) (fun _ h => h.qa1 (i := 0) rfl (k := (j - 1)) (za (F := I64v) (k := (j - 1)) (x := ((qbo y 8).getD (j - 1) 0)) ((getD_at 0 (k := (j - 1)) (by first | omega | (simp; omega))))))) fun a HF => ?_
  refine fp HF 2 10 [(45, .bool ((((qbo y 8).getD (j - 1) 0) : Int) == (0 : Int)))] fun a HF => ?_
  refine qb rfl ?_
  rcases HF.tf 45 rfl with ⟨hb45, HF⟩ | ⟨hb45, HF⟩
  ·
   have hd45 := eq_of_beq hb45
   refine qf HF rfl (wp_skip (wp_block (qa ?_)))
   refine fp HF 2 0 [(47, vS g11 j 40), (46, vS g11 j 40)] fun a HF => ?_
   refine fy HF HM 2 rfl rfl rfl (Yl.len rfl rfl (by kernel_rfl)) fun a HF => ?_
   refine fp HF 1 3 [(49, vI (IntKind.i64.wrap ((j : Int) - 1)))] fun a HF => ?_
   replace HF := HF.sp 49 (vI (j - 1 : Nat)) rfl (qk (by omega) (by omega))
   refine fy HF HM 4 rfl rfl rfl (v := vS g11 (j - 1) 40) (Yl.zx qbv (j := j - 1) rfl rfl rfl (by omega)) fun a HF => ?_
   refine fp HF 1 5 [(4, vS g11 (j - 1) 40)] fun a HF => ?_
   refine qb rfl ?_
   exact ⟨_, (by omega), (j - 1), by omega, qmb (by omega) (by omega) (by omega) ht, rfl, HF.sub (by kernel_rfl), HM.picks [0] (by decide) rfl⟩
  have hd45 := ne_of_beq_false hb45
  refine qe HF rfl (wp_exit (wp_seq (qa ?_)))
  refine fp HF 2 0 [(2, vS g11 j 40)] fun a HF => ?_
  refine qb rfl (wp_ret ?_)
  have hjt := qf8 (l := qbo y 8) (k := j) (by omega) (fun _ => by omega) ht
  have hjl : (bitsOf y).length = j := by rw [← qjl, hjt, List.length_take]; omega
  have HM2 := HM.cutRow (i := 0) (m := (bitsOf y).length) (ys := (bitsOf y).map I64v) rfl (by omega) (by rw [Nat.mul_one, ← List.map_take, hjl, ← hjt]; rfl)
  exact ret1 rfl HF (.tmp HF rfl) (⟨⟨some ⟨g11, 0, none⟩, 40, by rw [hjl], HM2.own (i := 0) rfl, by omega⟩, HM.below⟩)
 have hd37 := of_decide_eq_false hb37
 refine fp HF 8 4 [(45, .bool false)] fun a HF => ?_
 refine qb rfl (qe HF rfl (wp_exit (wp_seq (qa ?_))))
 refine fp HF 2 0 [(2, vS g11 j 40)] fun a HF => ?_
 refine qb rfl (wp_ret ?_)
 have hjt := qf8 (l := qbo y 8) (k := j) (by omega) (fun _ => by omega) ht
 have hjl : (bitsOf y).length = j := by rw [← qjl, hjt, List.length_take]; omega
 have HM2 := HM.cutRow (i := 0) (m := (bitsOf y).length) (ys := (bitsOf y).map I64v) rfl (by omega) (by rw [Nat.mul_one, ← List.map_take, hjl, ← hjt]; rfl)
 exact ret1 rfl HF (.tmp HF rfl) (⟨⟨some ⟨g11, 0, none⟩, 40, by rw [hjl], HM2.own (i := 0) rfl, by omega⟩, HM.below⟩)
theorem qmf (w : World) : Calls Tryz.prog 88 #[.int .u64 4374732215] w (PolIs w genP) := qtp 4374732215 (by decide) w
theorem genlen : 0 < genP.length := by rw [qfg]; decide
theorem qnq (A : Option Addr) (c : Nat) (w : World) (hr : Rd w w.heap.size 1 A 1 ([0].map B8)) :
    Calls Tryz.prog 69 #[.slice A 1 c] w (Is w (.int .u32 (crcT 0 : Int))) := by
 refine qg (vs := [.slice A 1 c]) Tryz.func69 rfl rfl (by kernel_rfl) (σ0 := [(0, .slice A 1 c)]) rfl ?_
 intro a HF
 have HM := Mem.start w
 refine wp_seq (qa ?_)
 refine fp HF 1 0 [(2, vW 0)] fun a HF => ?_
 refine qb rfl (wp_seq (qa ?_))
 refine fp HF 1 0 [(8, .slice A 1 c)] fun a HF => ?_
 refine fo HF 1 rfl rfl ?_
 refine e_cl HF [.slice A 1 c] rfl rfl (qo2 _ _ 0 (by omega) _ (HM.old hr)) ?_
 rintro _ w9 ⟨⟨A9, c9, rfl, ho, hc9⟩, hbw⟩
 refine ⟨_, rfl, ?_⟩
 replace HM := HM.callRow hbw ho
 clear HF; intro a HF
 refine fo HF 2 rfl rfl ?_
 refine e_cl HF [vQ 4374732215] rfl rfl (qmf _) ?_
 rintro _ w10 ⟨⟨A10, c10, rfl, ho, hc10⟩, hbw⟩
 refine ⟨_, rfl, ?_⟩
 replace HM := HM.callRow hbw ho
 clear HF; intro a HF
 refine fo HF 3 rfl rfl ?_
 refine e_cl HF [.slice A9 ((bitsOf 0).length) c9, .slice A10 ((genP).length) c10] rfl rfl (qjn _ _ _ _ (bitsOf 0) genP _ (qov _) (qou _) (qox _) (qow _) genlen (HM.rd (i := 1) rfl) (HM.rd (i := 0) rfl) (by have := qkq 0; omega) (by rw [qfg]; decide)) ?_
 rintro _ w11 ⟨⟨vq, X, cX, rfl, hd1, hd2⟩, hbw⟩
 refine ⟨_, rfl, ?_⟩
 replace HM := HM.call hbw
 clear HF; intro a HF
 refine fp HF 5 4 [(4, .slice X ((linR 0).length) cX)] fun a HF => ?_
 refine qb rfl ?_
 have hl32 := qoy 0
 have hl0 : (linR 0).length = 0 := by rw [qto]; rfl
 refine wp_seq (qa ?_)
 refine fp HF 1 0 [(5, vW 0)] fun a HF => ?_
 refine qb rfl (wp_seq (wp_seq (qa ?_)))
 refine fp HF 1 0 [(6, vI 0)] fun a HF => ?_
 refine qb rfl (wp_block ?_)
 replace HM := HM.picks (fs' := []) [] (by decide) rfl
 refine qv (fun mS aS wS => ∃ (k : Nat), (k ≤ (linR 0).length) ∧ mS = (linR 0).length - k ∧ Fr aS 31 [] [(6, vI k), (5, vW (remUp (linR 0) k)), (4, .slice X ((linR 0).length) cX), (2, vW 0)] ∧ Mem w wS []) (m := (linR 0).length - 0) ⟨0, Nat.zero_le _, rfl, HF.sub (by kernel_rfl), HM.picks [] (by decide) rfl⟩ ?_
 clear HF HM; rintro mS a w_ ⟨k, hk, rfl, HF, HM⟩
 refine wp_seq (wp_seq (qa ?_))
 refine fp HF 2 0 [(15, .slice X ((linR 0).length) cX), (14, vI k)] fun a HF => ?_
 refine fy HF HM 2 rfl rfl rfl (Yl.len rfl rfl (by kernel_rfl)) fun a HF => ?_
 refine fp HF 1 3 [(17, .bool (decide ((k : Int) < (((linR 0).length : Nat) : Int))))] fun a HF => ?_
 refine qb rfl ?_
 rcases HF.tf 17 rfl with ⟨hb17, HF⟩ | ⟨hb17, HF⟩
 ·
  have hd17 := of_decide_eq_true hb17
  omega
 have hd17 := of_decide_eq_false hb17
 refine qe HF rfl (wp_exit (wp_seq (qa ?_)))
 refine fp HF 2 0 [(2, vW (remUp (linR 0) k))] fun a HF => ?_
 refine qb rfl (wp_ret ?_)
 exact ret1 rfl HF (.tmp HF rfl) (⟨by rw [show k = (linR 0).length by omega, qmd, qtn, qll 0 (by omega)], HM.below⟩)
theorem qqc (A : Option Addr) (c y : Nat) (hy : y < 256) (hy0 : y ≠ 0) (w : World) (hr : Rd w w.heap.size 1 A 1 ([y].map B8)) :
    Calls Tryz.prog 69 #[.slice A 1 c] w (Is w (.int .u32 (crcT y : Int))) := by
 refine qg (vs := [.slice A 1 c]) Tryz.func69 rfl rfl (by kernel_rfl) (σ0 := [(0, .slice A 1 c)]) rfl ?_
 intro a HF
 have HM := Mem.start w
 refine wp_seq (qa ?_)
 refine fp HF 1 0 [(2, vW 0)] fun a HF => ?_
 refine qb rfl (wp_seq (qa ?_))
 refine fp HF 1 0 [(8, .slice A 1 c)] fun a HF => ?_
 refine fo HF 1 rfl rfl ?_
 refine e_cl HF [.slice A 1 c] rfl rfl (qo2 _ _ y (by omega) _ (HM.old hr)) ?_
 rintro _ w9 ⟨⟨A9, c9, rfl, ho, hc9⟩, hbw⟩
 refine ⟨_, rfl, ?_⟩
 replace HM := HM.callRow hbw ho
 clear HF; intro a HF
 refine fo HF 2 rfl rfl ?_
 refine e_cl HF [vQ 4374732215] rfl rfl (qmf _) ?_
 rintro _ w10 ⟨⟨A10, c10, rfl, ho, hc10⟩, hbw⟩
 refine ⟨_, rfl, ?_⟩
 replace HM := HM.callRow hbw ho
 clear HF; intro a HF
 refine fo HF 3 rfl rfl ?_
 refine e_cl HF [.slice A9 ((bitsOf y).length) c9, .slice A10 ((genP).length) c10] rfl rfl (qjn _ _ _ _ (bitsOf y) genP _ (qov _) (qou _) (qox _) (qow _) genlen (HM.rd (i := 1) rfl) (HM.rd (i := 0) rfl) (by have := qkq y; omega) (by rw [qfg]; decide)) ?_
 rintro _ w11 ⟨⟨vq, X, cX, rfl, hd1, hd2⟩, hbw⟩
 obtain ⟨ho, hcX⟩ := hd2 (by rw [qfg]; exact qvx y hy hy0)
 refine ⟨_, rfl, ?_⟩
 replace HM := HM.callRow hbw ho
 clear HF; intro a HF
 refine fp HF 5 4 [(4, .slice X ((linR y).length) cX)] fun a HF => ?_
 refine qb rfl ?_
 have hl32 := qoy y
 refine wp_seq (qa ?_)
 refine fp HF 1 0 [(5, vW 0)] fun a HF => ?_
 refine qb rfl (wp_seq (wp_seq (qa ?_)))
 refine fp HF 1 0 [(6, vI 0)] fun a HF => ?_
 refine qb rfl (wp_block ?_)
 replace HM := HM.picks (fs' := [.row (.slice X ((linR y).length) cX) ((linR y).length) ((linR y).map I64v) 3 1]) [0] (by decide) rfl
 refine qv (fun mS aS wS => ∃ (k : Nat), (k ≤ (linR y).length) ∧ mS = (linR y).length - k ∧ Fr aS 31 [] [(6, vI k), (5, vW (remUp (linR y) k)), (4, .slice X ((linR y).length) cX), (2, vW 0)] ∧ Mem w wS [.row (.slice X ((linR y).length) cX) ((linR y).length) ((linR y).map I64v) 3 1]) (m := (linR y).length - 0) ⟨0, Nat.zero_le _, rfl, HF.sub (by kernel_rfl), HM.picks [0] (by decide) rfl⟩ ?_
 clear HF HM; rintro mS a w_ ⟨k, hk, rfl, HF, HM⟩
 refine wp_seq (wp_seq (qa ?_))
 refine fp HF 2 0 [(15, .slice X ((linR y).length) cX), (14, vI k)] fun a HF => ?_
 refine fy HF HM 2 rfl rfl rfl (Yl.len rfl rfl (by kernel_rfl)) fun a HF => ?_
 refine fp HF 1 3 [(17, .bool (decide ((k : Int) < (((linR y).length : Nat) : Int))))] fun a HF => ?_
 refine qb rfl ?_
 rcases HF.tf 17 rfl with ⟨hb17, HF⟩ | ⟨hb17, HF⟩
 ·
  have hd17 := of_decide_eq_true hb17
  have hk31 : k < 32 := by omega
  refine qf HF rfl (wp_skip (wp_seq (wp_block (wp_seq (qa ?_)))))
  refine fp HF 2 0 [(21, vI k), (20, .slice X ((linR y).length) cX)] fun a HF => ?_
  obtain ⟨gX, rfl⟩ := qa7 (HM.own (i := 0) rfl) (Nat.lt_of_le_of_lt (Nat.zero_le _) (show k < (linR y).length from by omega))
  refine fy HF HM 2 rfl rfl rfl (v := vP gX (k * 1)) (Yl.ix0 gX k 1 rfl rfl rfl) fun a HF => ?_
  refine fy HF HM 3 rfl rfl rfl (v := vI ((linR y).getD k 0)) (Yl.qh rfl rfl (by kernel_rfl) (fun _ h => h.qa1 (i := 0) rfl (k := k) (za (F := I64v) (k := k) (x := ((linR y).getD k 0)) ((getD_at 0 (k := k) (by first | omega | (simp; omega))))))) fun a HF => ?_
  refine fp HF 1 4 [(24, .bool ((((linR y).getD k 0) : Int) == (1 : Int)))] fun a HF => ?_
  refine qb rfl ?_
  rcases HF.tf 24 rfl with ⟨hb24, HF⟩ | ⟨hb24, HF⟩
  ·
   have hd24 := eq_of_beq hb24
   have hrs := qxk (linR y) hk31
   refine qf HF rfl (qa ?_)
   refine fp HF 3 0 [(27, vI (IntKind.i64.wrap (31 - (k : Int)))), (25, vW (remUp (linR y) k))] fun a HF => ?_
   replace HF := HF.sp 27 (vI (31 - k : Nat)) rfl (qk (by omega) (by omega))
   refine fy HF HM 3 rfl rfl rfl (v := vW (1 * 2 ^ (31 - k) : Nat)) (Yl.shlN (m := 1) (n := (31 - k)) rfl rfl rfl (by show _ ≤ 32; omega) (pow31 k)) fun a HF => ?_
   refine fp HF 1 4 [(29, vW (IntKind.u32.wrap ((remUp (linR y) k : Int) + ((1 * 2 ^ (31 - k) : Nat) : Int))))] fun a HF => ?_
   replace HF := HF.sp 29 (vW (remUp (linR y) (k + 1))) rfl (qcx (by rw [qey, if_pos (by omega)]; omega) (by rw [qey, if_pos (by omega)]; omega))
   refine fp HF 1 5 [(5, vW (remUp (linR y) (k + 1)))] fun a HF => ?_
   refine qb rfl (qa ?_)
   refine fp HF 2 0 [(19, vI (IntKind.i64.wrap ((k : Int) + 1)))] fun a HF => ?_
   replace HF := HF.sp 19 (vI (k + 1 : Nat)) rfl (qk (by omega) (by omega))
   refine fp HF 1 2 [(6, vI (k + 1 : Nat))] fun a HF => ?_
   refine qb rfl ?_
   exact ⟨_, (by omega), k + 1, by omega, rfl, HF.sub (by kernel_rfl), HM.picks [0] (by decide) rfl⟩
  have hd24 := ne_of_beq_false hb24
  replace HF := HF.as (t := 5) (u := .int .u32 (remUp (linR y) (k + 1) : Int)) rfl (by rw [qey, if_neg (by omega), Nat.add_zero])
  refine qe HF rfl (wp_skip (qa ?_))
  refine fp HF 2 0 [(19, vI (IntKind.i64.wrap ((k : Int) + 1)))] fun a HF => ?_
  replace HF := HF.sp 19 (vI (k + 1 : Nat)) rfl (qk (by omega) (by omega))
  refine fp HF 1 2 [(6, vI (k + 1 : Nat))] fun a HF => ?_
  refine qb rfl ?_
  exact ⟨_, (by omega), k + 1, by omega, rfl, HF.sub (by kernel_rfl), HM.picks [0] (by decide) rfl⟩
 have hd17 := of_decide_eq_false hb17
 refine qe HF rfl (wp_exit (wp_seq (qa ?_)))
 refine fp HF 2 0 [(2, vW (remUp (linR y) k))] fun a HF => ?_
 refine qb rfl (wp_ret ?_)
 exact ret1 rfl HF (.tmp HF rfl) (⟨by rw [show k = (linR y).length by omega, qmd, qtn, qll y (by omega)], HM.below⟩)
theorem qqd (A : Option Addr) (c y : Nat) (hy : y < 256) (w : World) (hr : Rd w w.heap.size 1 A 1 ([y].map B8)) : Calls Tryz.prog 69 #[.slice A 1 c] w (Is w (.int .u32 (crcT y : Int))) := by
 by_cases h : y = 0
 ·subst h; exact qnq A c w hr
 ·exact qqc A c y hy h w hr
theorem qtq (c : Nat) (hc : c < 4294967296) (A : Option Addr) (n cp : Nat) (l : List Nat) (w : World) (hr : Rd w w.heap.size 1 A n (l.map B8)) (hln : l.length = n) (hn : n ≤ 1000000000) (hl : ∀ b ∈ l, b < 256) :
    Calls Tryz.prog 50 #[.int .u32 (c : Int), .slice A n cp] w (Is w (.int .u32 ((4294967295 - qu (4294967295 - c) l : Nat) : Int))) := by
 refine qg (vs := [vW c, .slice A n cp]) Tryz.func50 rfl rfl (by kernel_rfl) (σ0 := [(0, vW c), (1, .slice A n cp)]) rfl ?_
 intro a HF
 have HM := Mem.start w
 refine wp_seq (qa ?_)
 refine fp HF 1 0 [(4, vW 0)] fun a HF => ?_
 refine qb rfl (wp_seq (qa ?_))
 refine fp HF 2 0 [(7, vW (IntKind.u32.wrap (4294967295 - (c : Int))))] fun a HF => ?_
 replace HF := HF.sp 7 (vW (4294967295 - c : Nat)) rfl (qcx (by omega) (by omega))
 refine fp HF 1 2 [(0, vW (4294967295 - c : Nat))] fun a HF => ?_
 refine qb rfl (wp_seq (wp_seq (qa ?_)))
 refine fp HF 1 0 [(5, vI 0)] fun a HF => ?_
 refine qb rfl (wp_block ?_)
 refine qv (fun mS aS wS => ∃ (k : Nat), (k ≤ n) ∧ mS = n - k ∧ Fr aS 29 [] [(5, vI k), (0, vW (qu (4294967295 - c) (l.take k))), (4, vW 0), (1, .slice A n cp)] ∧ Mem w wS []) (m := n - 0) ⟨0, Nat.zero_le _, rfl, HF.sub (by kernel_rfl), HM.picks [] (by decide) rfl⟩ ?_
 clear HF HM; rintro mS a w_ ⟨k, hk, rfl, HF, HM⟩
 have hcr := qee (l.take k) (c := 4294967295 - c) (by omega) (zu hl k)
 refine wp_seq (wp_seq (qa ?_))
 refine fp HF 2 0 [(9, .slice A n cp), (8, vI k)] fun a HF => ?_
 refine fy HF HM 2 rfl rfl rfl (Yl.len rfl rfl (by kernel_rfl)) fun a HF => ?_
 refine fp HF 1 3 [(11, .bool (decide ((k : Int) < (n : Int))))] fun a HF => ?_
 refine qb rfl ?_
 rcases HF.tf 11 rfl with ⟨hb11, HF⟩ | ⟨hb11, HF⟩
 ·
  have hd11 := of_decide_eq_true hb11
  have hk11 : k < n := by omega
  have hxk := getD_lt hl (k := k) (by omega)
  have hy8 : (qu (4294967295 - c) (l.take k) % 256 ^^^ l.getD k 0) < 256 := Nat.xor_lt_two_pow (n := 8) (by omega) (by omega)
  refine qf HF rfl (wp_skip (wp_seq (wp_block (qa ?_))))
  refine fp HF 2 0 [(15, vW (IntKind.u32.wrap (Int.tdiv (qu (4294967295 - c) (l.take k) : Int) 256)))] fun a HF => ?_
  replace HF := HF.sp 15 (vW ((qu (4294967295 - c) (l.take k)) / 256 : Nat)) rfl (qbr .u32 256 (by show _ ≤ 4294967295; omega))
  refine fp HF 2 2 [(17, vW (Int.tmod (qu (4294967295 - c) (l.take k) : Int) 256))] fun a HF => ?_
  replace HF := HF.sp 17 (vW ((qu (4294967295 - c) (l.take k)) % 256 : Nat)) rfl (qau .u32 _ 256)
  refine fp HF 1 4 [(18, vB (IntKind.u8.wrap (((qu (4294967295 - c) (l.take k)) % 256 : Nat) : Int)))] fun a HF => ?_
  replace HF := HF.sp 18 (vB (qu (4294967295 - c) (l.take k) % 256 : Nat)) rfl ((qa9 (qu (4294967295 - c) (l.take k) % 256)).trans (by rw [Nat.mod_mod]))
  refine fp HF 2 5 [(20, vI k), (19, .slice A n cp)] fun a HF => ?_
  obtain ⟨gA, oA, rfl, _⟩ := hr.zl (Nat.lt_of_le_of_lt (Nat.zero_le _) (show k < n from by omega)) (by decide)
  refine fy HF HM 7 rfl rfl rfl (v := vP gA (oA + k * 1)) (Yl.ix gA oA k 1 rfl rfl rfl) fun a HF => ?_
  have hx49 := getD_lt hl (k := k) (by first | omega | (simp; omega))
  refine fy HF HM 8 rfl rfl rfl (v := vB (l.getD k 0)) (Yl.qh rfl rfl (by kernel_rfl) (fun _ h => (h.old hr).zt (k := k) (za (F := B8) (k := k) (x := (l.getD k 0)) ((getD_at 0 (k := k) (by first | omega | (simp; omega))))))) fun a HF => ?_
  refine fp HF 1 9 [(23, vB (IntKind.u8.wrap (BitVec.ofInt (IntKind.u8).bits ((qu (4294967295 - c) (l.take k) % 256 : Nat) : Int) ^^^ BitVec.ofInt (IntKind.u8).bits ((l.getD k 0) : Int)).toNat))] fun a HF => ?_
  replace HF := HF.sp 23 (vB ((qu (4294967295 - c) (l.take k) % 256) ^^^ (l.getD k 0) : Nat)) rfl (qyb (m := qu (4294967295 - c) (l.take k) % 256) (n := (l.getD k 0)) (by omega) (by omega))
  refine fo HF 10 rfl rfl ?_
  refine qp HF HM (vs := [(0, vB ((qu (4294967295 - c) (l.take k) % 256) ^^^ (l.getD k 0) : Nat))]) (cs := #[vB ((qu (4294967295 - c) (l.take k) % 256) ^^^ (l.getD k 0) : Nat)]) rfl ei_u8 (by decide) rfl (by kernel_rfl) rfl (by decide) ?_
  clear HF HM; intro a w24 g24 HF HM
  refine fo HF 11 rfl rfl ?_
  refine e_is HF HM [vS g24 1 1] (vW (crcT (qu (4294967295 - c) (l.take k) % 256 ^^^ l.getD k 0))) rfl rfl (qqd _ _ (qu (4294967295 - c) (l.take k) % 256 ^^^ l.getD k 0) hy8 _ (HM.rdBlk (i := 0) (n := 1) (size := 1) rfl rfl)) fun w25 hbw HM a HF => ?_
  refine fp HF 1 12 [(26, vW (IntKind.u32.wrap (BitVec.ofInt (IntKind.u32).bits (((qu (4294967295 - c) (l.take k)) / 256 : Nat) : Int) ^^^ BitVec.ofInt (IntKind.u32).bits (crcT (qu (4294967295 - c) (l.take k) % 256 ^^^ l.getD k 0) : Int)).toNat))] fun a HF => ?_
  replace HF := HF.sp 26 (vW (qu (4294967295 - c) (l.take (k + 1)))) rfl (by have h := qhx (m := (qu (4294967295 - c) (l.take k)) / 256) (n := crcT (qu (4294967295 - c) (l.take k) % 256 ^^^ l.getD k 0)) (by omega) (qr3 (by omega)); rw [qh6 (by omega), qis]; exact h)
  refine fp HF 1 13 [(0, vW (qu (4294967295 - c) (l.take (k + 1))))] fun a HF => ?_
  refine qb rfl (qa ?_)
  refine fp HF 2 0 [(13, vI (IntKind.i64.wrap ((k : Int) + 1)))] fun a HF => ?_
  replace HF := HF.sp 13 (vI (k + 1 : Nat)) rfl (qk (by omega) (by omega))
  refine fp HF 1 2 [(5, vI (k + 1 : Nat))] fun a HF => ?_
  refine qb rfl ?_
  exact ⟨_, (by omega), k + 1, by omega, rfl, HF.sub (by kernel_rfl), HM.picks [] (by decide) rfl⟩
 have hd11 := of_decide_eq_false hb11
 refine qe HF rfl (wp_exit (wp_seq (qa ?_)))
 refine fp HF 2 0 [(28, vW (IntKind.u32.wrap (4294967295 - (qu (4294967295 - c) (l.take k) : Int))))] fun a HF => ?_
 replace HF := HF.sp 28 (vW (4294967295 - (qu (4294967295 - c) (l.take k)) : Nat)) rfl (qcx (by omega) (by omega))
 refine fp HF 1 2 [(4, vW (4294967295 - (qu (4294967295 - c) (l.take k)) : Nat))] fun a HF => ?_
 refine qb rfl (wp_ret ?_)
 exact ret1 rfl HF (.tmp HF rfl) (⟨by rw [List.take_of_length_le (by omega)], HM.below⟩)
theorem qtr (A : Option Addr) (n cp : Nat) (l : List Nat) (w : World) (hr : Rd w w.heap.size 1 A n (l.map B8)) (hln : l.length = n) (hn : n ≤ 1000000000) (hl : ∀ b ∈ l, b < 256) :
    Calls Tryz.prog 31 #[.slice A n cp] w (Is w (.int .u32 (qq l : Int))) := by
 refine qg (vs := [.slice A n cp]) Tryz.func31 rfl rfl (by kernel_rfl) (σ0 := [(0, .slice A n cp)]) rfl ?_
 intro a HF
 have HM := Mem.start w
 refine wp_seq (qa ?_)
 refine fp HF 1 0 [(2, vW 0)] fun a HF => ?_
 refine qb rfl (wp_seq (qa ?_))
 refine fp HF 1 0 [(3, .slice A n cp)] fun a HF => ?_
 refine fo HF 1 rfl rfl ?_
 refine e_is HF HM [vW 0, .slice A n cp] (vW (qq l)) rfl rfl (qtq 0 (by decide) _ _ _ l _ (HM.old hr) hln hn hl) fun w4 hbw HM a HF => ?_
 refine fp HF 1 2 [(2, vW (qq l))] fun a HF => ?_
 refine qb rfl (wp_ret ?_)
 exact ret1 rfl HF (.tmp HF rfl) (⟨rfl, HM.below⟩)
theorem qez (A : Option Addr) (n cp : Nat) (l : List Nat) (w : World) (hr : Rd w w.heap.size 1 A n (l.map B8)) (hln : l.length = n) (hn : n ≤ 100000000) (hl : ∀ b ∈ l, b < 256) :
    Calls Tryz.prog 10 #[.slice A n cp] w (qae w (sealL l)) := by
 refine qg (vs := [.slice A n cp]) Tryz.func10 rfl rfl (by kernel_rfl) (σ0 := [(0, .slice A n cp)]) rfl ?_
 intro a HF
 have HM := Mem.start w
 refine wp_seq (qa ?_)
 refine fp HF 1 0 [(2, .slice none 0 0)] fun a HF => ?_
 refine qb rfl (wp_seq (qa ?_))
 refine fp HF 1 0 [(4, .slice A n cp)] fun a HF => ?_
 refine fo HF 1 rfl rfl ?_
 refine e_is HF HM [.slice A n cp] (vW (qq l)) rfl rfl (qtr _ _ _ l _ (HM.old hr) hln (by omega) hl) fun w5 hbw HM a HF => ?_
 refine fp HF 1 2 [(3, vW (qq l))] fun a HF => ?_
 refine qb rfl ?_
 have hcs := qh7 l
 refine wp_seq (qa ?_)
 refine fo HF 0 rfl rfl ?_
 refine qb5 HF HM rfl ei_u8 rfl (by decide) ?_
 clear HF HM; intro a w6 g6 HF HM
 refine fp HF 1 1 [(7, .slice A n cp)] fun a HF => ?_
 refine fo HF 2 rfl rfl ?_
 refine qs HF HM (i := 0) rfl ei_u8 rfl rfl rfl (news := (l.map B8)) (HM.old hr) (qaa _) (by omega) (by omega) rfl (by decide) ?_
 clear HF HM; intro a w8 A8 c8 HF HM hc8
 refine fp HF 2 3 [(10, vW (Int.tmod (qq l : Int) 256))] fun a HF => ?_
 replace HF := HF.sp 10 (vW ((qq l) % 256 : Nat)) rfl (qau .u32 _ 256)
 refine fp HF 1 5 [(11, vB (IntKind.u8.wrap (((qq l) % 256 : Nat) : Int)))] fun a HF => ?_
 replace HF := HF.sp 11 (vB (qq l % 256 : Nat)) rfl ((qa9 (qq l % 256)).trans (by rw [Nat.mod_mod]))
 refine fp HF 2 6 [(13, vW (IntKind.u32.wrap (Int.tdiv (qq l : Int) 256)))] fun a HF => ?_
 replace HF := HF.sp 13 (vW ((qq l) / 256 : Nat)) rfl (qbr .u32 256 (by show _ ≤ 4294967295; omega))
 refine fp HF 1 8 [(14, vW (Int.tmod (((qq l) / 256 : Nat) : Int) 256))] fun a HF => ?_
 replace HF := HF.sp 14 (vW (((qq l) / 256) % 256 : Nat)) rfl (qau .u32 _ 256)
 refine fp HF 1 9 [(15, vB (IntKind.u8.wrap ((((qq l) / 256) % 256 : Nat) : Int)))] fun a HF => ?_
 replace HF := HF.sp 15 (vB (qq l / 256 % 256 : Nat)) rfl ((qa9 (qq l / 256 % 256)).trans (by rw [Nat.mod_mod]))
 refine fp HF 2 10 [(17, vW (IntKind.u32.wrap (Int.tdiv (qq l : Int) 65536)))] fun a HF => ?_
 replace HF := HF.sp 17 (vW ((qq l) / 65536 : Nat)) rfl (qbr .u32 65536 (by show _ ≤ 4294967295; omega))
 refine fp HF 1 12 [(18, vW (Int.tmod (((qq l) / 65536 : Nat) : Int) 256))] fun a HF => ?_
 replace HF := HF.sp 18 (vW (((qq l) / 65536) % 256 : Nat)) rfl (qau .u32 _ 256)
 refine fp HF 1 13 [(19, vB (IntKind.u8.wrap ((((qq l) / 65536) % 256 : Nat) : Int)))] fun a HF => ?_
 replace HF := HF.sp 19 (vB (qq l / 65536 % 256 : Nat)) rfl ((qa9 (qq l / 65536 % 256)).trans (by rw [Nat.mod_mod]))
 refine fp HF 2 14 [(21, vW (IntKind.u32.wrap (Int.tdiv (qq l : Int) 16777216)))] fun a HF => ?_
 replace HF := HF.sp 21 (vW ((qq l) / 16777216 : Nat)) rfl (qbr .u32 16777216 (by show _ ≤ 4294967295; omega))
 refine fp HF 1 16 [(22, vB (IntKind.u8.wrap (((qq l) / 16777216 : Nat) : Int)))] fun a HF => ?_
 replace HF := HF.sp 22 (vB (((qq l) / 16777216) % 256 : Nat)) rfl (qa9 ((qq l) / 16777216))
 refine fo HF 17 rfl rfl ?_
 refine qp HF HM (vs := [(0, vB (qq l % 256 : Nat)), (1, vB (qq l / 256 % 256 : Nat)), (2, vB (qq l / 65536 % 256 : Nat)), (3, vB (((qq l) / 16777216) % 256 : Nat))]) (cs := #[vB (qq l % 256 : Nat), vB (qq l / 256 % 256 : Nat), vB (qq l / 65536 % 256 : Nat), vB (((qq l) / 16777216) % 256 : Nat)]) rfl ei_u8 (by decide) rfl (by kernel_rfl) rfl (by decide) ?_
 clear HF HM; intro a w23 g23 HF HM
 refine fo HF 18 rfl rfl ?_
 refine qs HF HM (i := 1) rfl ei_u8 rfl rfl rfl (news := ((le4 (qq l)).map B8)) (HM.rdBlk (i := 0) (n := 4) (size := 1) rfl rfl) (qaa _) (by omega) (by omega) rfl (by decide) ?_
 clear HF HM; intro a w24 A24 c24 HF HM hc24
 refine fp HF 1 19 [(2, .slice A24 (0 + n + 4) c24)] fun a HF => ?_
 refine qb rfl ?_
 have hnA24 : 0 + n + 4 = (sealL l).length := by rw [qab]; omega
 replace HM := HM.reRow (i := 1) (ys := (sealL l).map B8) rfl hnA24 (by simp [sealL])
 rw [hnA24] at hc24
 replace HF := HF.as (t := 2) (u := .slice A24 ((sealL l).length) c24) rfl (by rw [hnA24])
 replace HF := HF.as (t := 24) (u := .slice A24 ((sealL l).length) c24) rfl (by rw [hnA24])
 refine wp_ret ?_
 replace HM := HM.picks (fs' := [.row (.slice A24 ((sealL l).length) c24) ((sealL l).length) ((sealL l).map B8) 5 1]) [1] (by decide) rfl
 exact ret1 rfl HF (.tmp HF rfl) (⟨⟨_, _, rfl, HM.own (i := 0) rfl, hc24⟩, HM.below⟩)
theorem qmg (A : Option Addr) (n cp : Nat) (l : List Nat) (w : World) (hr : Rd w w.heap.size 1 A n (l.map B8)) (hc : n ≤ cp) (hln : l.length = n) (hn : n ≤ 100000000) (hl : ∀ b ∈ l, b < 256) :
    Calls Tryz.prog 48 #[.slice A n cp] w (Is w (.bool (qao l))) := by
 refine qg (vs := [.slice A n cp]) Tryz.func48 rfl rfl (by kernel_rfl) (σ0 := [(0, .slice A n cp)]) rfl ?_
 intro a HF
 have HM := Mem.start w
 refine wp_seq (qa ?_)
 refine fp HF 1 0 [(2, .bool false)] fun a HF => ?_
 refine qb rfl (wp_seq (wp_seq (qa ?_)))
 refine fp HF 1 0 [(3, .slice A n cp)] fun a HF => ?_
 refine fy HF HM 1 rfl rfl rfl (Yl.len rfl rfl (by kernel_rfl)) fun a HF => ?_
 refine fp HF 1 2 [(5, .bool (decide ((n : Int) < (4 : Int))))] fun a HF => ?_
 refine qb rfl ?_
 rcases HF.tf 5 rfl with ⟨hb5, HF⟩ | ⟨hb5, HF⟩
 ·
  have hd5 := of_decide_eq_true hb5
  refine qf HF rfl (wp_seq (qa ?_))
  refine fp HF 1 0 [(2, .bool false)] fun a HF => ?_
  refine qb rfl (wp_ret ?_)
  exact ret1 rfl HF (.tmp HF rfl) (⟨by rw [qhb hln (by omega)], HM.below⟩)
 have hd5 := of_decide_eq_false hb5
 refine qe HF rfl (wp_skip (wp_seq ?_))
 refine zw HM [] [] [] fun HM HS => ?_
 refine ap HF (fun _ => HS) [0, 1, 7] #[true, true, false, false, false, false, false, true, false, false, false] [(13, .slice A n cp), (7, .slice A n cp), (6, .slice A n cp)] fun a HF => ?_
 refine ay HF HS 2 rfl rfl rfl (Yl.len rfl rfl (by kernel_rfl)) fun a HF => ?_
 refine qo HF (fun _ => HS) (i := 3) rfl rfl (d := 9) rfl (by decide) (by kernel_rfl) (fun _ _ _ h => h) (v := vI (IntKind.i64.wrap ((n : Int) - 4))) (fun _ => Yl.pure (by kernel_rfl)) fun a HF => ?_
 replace HF := HF.sp 9 (vI (n - 4 : Nat)) rfl (qk (by omega) (by omega))
 refine ay HF HS 4 rfl rfl rfl (v := .slice A (n - 4) cp) (Yl.zx ei_u8 (j := n - 4) rfl rfl rfl (by omega)) fun a HF => ?_
 refine ay HF HS 8 rfl rfl rfl (v := .string (bstr l)) (Yl.str rfl rfl (fun _ h => h.old hr)) fun a HF => ?_
 refine qi [5] (by kernel_rfl) rfl ?_
 refine all_cons ?_ all_nil
 refine qj HF (i := 5) rfl rfl ?_
 refine e_cl HF [.slice A (n - 4) cp] rfl rfl (qez _ (n - 4) _ (l.take (n - 4)) _ (HM.old (hr.toB8 (by omega))) (by rw [List.length_take]; omega) (by omega) (zu hl _)) ?_
 rintro _ w11 ⟨⟨A11, c11, rfl, ho, hc11⟩, hbw⟩
 refine ⟨_, rfl, ?_⟩
 replace HM := HM.callRow hbw ho
 clear HF; intro a HF
 refine keepS (HM.picks [] (by decide) rfl) (fun HS => ?_)
 refine qi [6] (by kernel_rfl) rfl ?_
 refine all_cons ?_ all_nil
 refine qj HF (i := 6) rfl rfl ?_
 refine Yl.wp (S := fun wS => Mem w wS _) (v := .string (bstr (sealL (l.take (n - 4))))) (Yl.str rfl rfl (fun _ h => h.rd (i := 0) rfl)) HF HM rfl (by decide) fun a HF => ?_
 refine keepS HS (fun HS => ?_)
 refine ap HF (fun _ => HS) [9, 10] #[true, true, true, true, true, true, true, true, true, true, true] [(2, .bool (((bstr (sealL (l.take (n - 4))))).toList == ((bstr l)).toList))] fun a HF => ?_
 refine qm (by kernel_rfl) ?_
 replace HM := HM.picks (fs' := []) [] (by decide) rfl
 refine wp_ret ?_
 exact ret1 rfl HF (.tmp HF rfl) (⟨by rw [qnf (qbx (zu hl _)) hl, qqb hl hln], HM.below⟩)
theorem qjp (x : Nat) (w : World) (hx : x < 18446744073709551616) : Calls Tryz.prog 22 #[.int .u64 (x : Int)] w (qae w (vbytes x)) :=
 (qd0 x w hx).mono fun e w' ⟨v, h1, h2, h3⟩ => by
  obtain ⟨A, c, rfl, hc⟩ := qaq h2
  exact ⟨⟨A, c, h1, h2, hc⟩, h3⟩
theorem qjq (A : Option Addr) (n c : Nat) (l : List Nat) (w : World) (hr : Rd w w.heap.size 1 A n (l.map U64)) (hln : l.length = n) (hl : ∀ x ∈ l, x < 18446744073709551616) (hn : n ≤ 1000000) :
    Calls Tryz.prog 23 #[.slice A n c] w (qae w (l.flatMap vbytes)) := by
 refine qg (vs := [.slice A n c]) Tryz.func23 rfl rfl (by kernel_rfl) (σ0 := [(0, .slice A n c)]) rfl ?_
 intro a HF
 have HM := Mem.start w
 refine wp_seq (qa ?_)
 refine fp HF 1 0 [(2, .slice none 0 0)] fun a HF => ?_
 refine qb rfl (wp_seq (qa ?_))
 refine fp HF 1 0 [(3, .slice none 0 0)] fun a HF => ?_
 refine qb rfl ?_
 replace HM := HM.nil 5 1
 refine wp_seq (wp_seq (qa ?_))
 refine fp HF 1 0 [(4, vI 0)] fun a HF => ?_
 refine qb rfl (wp_block ?_)
 refine qv (fun mS aS wS => ∃ (k : Nat) (Ak : Option Addr) (ck : Nat), (k ≤ n) ∧ ((waUp l k).length ≤ ck) ∧ mS = n - k ∧ Fr aS 19 [] [(4, vI k), (3, .slice Ak ((waUp l k).length) ck), (2, .slice none 0 0), (0, .slice A n c)] ∧ Mem w wS [.row (.slice Ak ((waUp l k).length) ck) ((waUp l k).length) ((waUp l k).map B8) 5 1]) (m := n - 0) ⟨0, none, 0, Nat.zero_le _, Nat.le_refl _, rfl, HF.sub (by kernel_rfl), HM.picks [0] (by decide) rfl⟩ ?_
 clear HF HM; rintro mS a w_ ⟨k, Ak, ck, hk, hck, rfl, HF, HM⟩
 refine wp_seq (wp_seq (qa ?_))
 refine fp HF 2 0 [(6, .slice A n c), (5, vI k)] fun a HF => ?_
 refine fy HF HM 2 rfl rfl rfl (Yl.len rfl rfl (by kernel_rfl)) fun a HF => ?_
 refine fp HF 1 3 [(8, .bool (decide ((k : Int) < (n : Int))))] fun a HF => ?_
 refine qb rfl ?_
 rcases HF.tf 8 rfl with ⟨hb8, HF⟩ | ⟨hb8, HF⟩
 ·
  have hd8 := of_decide_eq_true hb8
  have hk8 : k < n := by omega
  refine qf HF rfl (wp_skip (wp_seq (wp_block (qa ?_))))
  refine fp HF 3 0 [(13, vI k), (12, .slice A n c), (11, .slice Ak ((waUp l k).length) ck)] fun a HF => ?_
  obtain ⟨gA, oA, rfl, _⟩ := hr.zl (Nat.lt_of_le_of_lt (Nat.zero_le _) (show k < n from by omega)) (by decide)
  refine fy HF HM 3 rfl rfl rfl (v := vP gA (oA + k * 1)) (Yl.ix gA oA k 1 rfl rfl rfl) fun a HF => ?_
  have hx39 := getD_lt hl (k := k) (by first | omega | (simp; omega))
  refine fy HF HM 4 rfl rfl rfl (v := vQ (l.getD k 0)) (Yl.qh rfl rfl (by kernel_rfl) (fun _ h => (h.old hr).zt (k := k) (za (F := U64) (k := k) (x := (l.getD k 0)) ((getD_at 0 (k := k) (by first | omega | (simp; omega))))))) fun a HF => ?_
  refine fo HF 5 rfl rfl ?_
  refine e_cl HF [vQ (l.getD k 0)] rfl rfl (qjp (l.getD k 0) _ (hl _ (qds 0 (by omega)))) ?_
  rintro _ w16 ⟨⟨A16, c16, rfl, ho, hc16⟩, hbw⟩
  refine ⟨_, rfl, ?_⟩
  replace HM := HM.callRow hbw ho
  clear HF; intro a HF
  refine fo HF 6 rfl rfl ?_
  refine qs HF HM (i := 1) rfl ei_u8 rfl rfl rfl (news := ((vbytes (l.getD k 0)).map B8)) (HM.rd (i := 0) rfl) (qaa _) (by have := qo0 l k; have := qr (l.getD k 0); omega) (by have := qo0 l k; have := qr (l.getD k 0); omega) rfl (by decide) ?_
  clear HF HM; intro a w17 A17 c17 HF HM hc17
  refine fp HF 1 7 [(3, .slice A17 (((waUp l k).length) + (((vbytes (l.getD k 0))).length)) c17)] fun a HF => ?_
  refine qb rfl ?_
  have hnA17 : ((waUp l k).length) + (((vbytes (l.getD k 0))).length) = (waUp l (k + 1)).length := by rw [qme (by omega)]; simp
  replace HM := HM.reRow (i := 1) (ys := (waUp l (k + 1)).map B8) rfl hnA17 (by rw [qme (by omega)]; simp)
  rw [hnA17] at hc17
  replace HF := HF.as (t := 3) (u := .slice A17 ((waUp l (k + 1)).length) c17) rfl (by rw [hnA17])
  replace HF := HF.as (t := 17) (u := .slice A17 ((waUp l (k + 1)).length) c17) rfl (by rw [hnA17])
  refine qa ?_
  refine fp HF 2 0 [(10, vI (IntKind.i64.wrap ((k : Int) + 1)))] fun a HF => ?_
  replace HF := HF.sp 10 (vI (k + 1 : Nat)) rfl (qk (by omega) (by omega))
  refine fp HF 1 2 [(4, vI (k + 1 : Nat))] fun a HF => ?_
  refine qb rfl ?_
  exact ⟨_, (by omega), k + 1, A17, c17, by omega, hc17, rfl, HF.sub (by kernel_rfl), HM.picks [1] (by decide) rfl⟩
 have hd8 := of_decide_eq_false hb8
 have hkn : k = n := by omega
 have hwa : waUp l k = l.flatMap vbytes := by unfold waUp; rw [List.take_of_length_le (by omega)]
 refine qe HF rfl (wp_exit (wp_seq (qa ?_)))
 refine fp HF 2 0 [(2, .slice Ak ((waUp l k).length) ck)] fun a HF => ?_
 refine qb rfl (wp_ret ?_)
 exact ret1 rfl HF (.tmp HF rfl) (qha (HM.own (i := 0) rfl) hck (by rw [hwa]) hwa HM.below)
def qbf (e : Ev) (vs : List Nat) (k : Nat) : Ev := e.base.rfill ((upTo e.kind k).zip vs)
theorem qxf {e : Ev} (h : e.Ok) (i x : Nat) (hx : x < 18446744073709551616) : (e.rput i x).Ok := by
 have hv : I64 (Ev.rval x) := by unfold Ev.rval I64; split <;> omega
 unfold Ev.rput Ev.putV
 split
 ·exact { h with task := hv }
 ·exact { h with group := hv }
 ·exact ⟨h.seq, h.time, h.cpu, h.kind, h.task, h.group, hv, h.weight, h.ticks, h.mask, h.got⟩
 ·exact { h with weight := hv }
 ·exact { h with ticks := hv }
 ·exact { h with mask := hx }
 ·exact { h with got := hv }
theorem qol : ∀ (l : List (Nat × Nat)) (e : Ev), e.Ok → (∀ p ∈ l, p.2 < 18446744073709551616) → (e.rfill l).Ok
 | [], _, h, _ => h
 | p :: l, e, h, hl => qol l (e.rput p.1 p.2) (qxf h p.1 p.2 (hl p (by simp))) (fun q hq => hl q (by simp [hq]))
theorem qp6 (e : Ev) (l : List (Nat × Nat)) (p : Nat × Nat) : e.rfill (l ++ [p]) = (e.rfill l).rput p.1 p.2 := by unfold Ev.rfill; rw [List.foldl_append]; rfl
theorem qvq (kd k : Nat) : ∃ r, usesL kd = upTo kd k ++ r ∨ 7 ≤ k := by
 by_cases h : 7 ≤ k
 ·exact ⟨[], .inr h⟩
 ·refine ⟨((List.range 7).drop k).filter fun i => (usesL kd).contains i, .inl ?_⟩
  have h1 : List.range 7 = List.range k ++ (List.range 7).drop k := by
   rw [← List.take_append_drop k (List.range 7)]
   congr 1
   ·rw [List.take_range]; congr 1; omega
   ·rw [List.take_append_drop]
  conv => lhs; rw [← qhc kd, h1, List.filter_append]
  rfl
theorem qnh (kd k : Nat) (hk : k ≤ 7) : (upTo kd k).length ≤ (usesL kd).length := by
 obtain ⟨r, h | h⟩ := qvq kd k
 ·rw [h, List.length_append]; omega
 ·rw [show k = 7 by omega, qok]; omega
theorem qvr {l : List Nat} {a n : Nat} {vs : List Nat} (hl : l.length = n) (hn : n < vs.length) : (l ++ [a]).zip vs = l.zip vs ++ [(a, vs[n])] := by
 have h1 : vs = vs.take n ++ vs.drop n := (List.take_append_drop n vs).symm
 have h2 : vs.drop n = vs[n] :: vs.drop (n + 1) := List.drop_eq_getElem_cons hn
 have h3 : (vs.take n).length = n := by rw [List.length_take]; omega
 have h4 : l.zip vs = l.zip (vs.take n) := by
  conv => lhs; rw [h1, ← List.append_nil l]
  rw [List.zip_append (by omega)]; simp
 rw [h4]
 conv => lhs; rw [h1]
 rw [List.zip_append (by omega), h2]
 rfl
theorem qei (e : Ev) (vs : List Nat) : qbf e vs 7 = e.rmade vs := by unfold qbf Ev.rmade; rw [qok]
theorem qp7 {e : Ev} {vs : List Nat} {k x : Nat} (h : (usesL e.kind).contains k = true) (hx : vs[(upTo e.kind k).length]? = some x) : (qbf e vs k).rput k x = qbf e vs (k + 1) := by
 obtain ⟨hl, he⟩ := List.getElem?_eq_some_iff.1 hx
 unfold qbf
 rw [qf5 h, qvr rfl hl, qp6, he]
theorem qs5 {e : Ev} {vs : List Nat} {k : Nat} (h : (usesL e.kind).contains k = false) : qbf e vs (k + 1) = qbf e vs k := by unfold qbf; rw [qkj h]
theorem ql1 {kd k : Nat} (h : (usesL kd).contains k = true) : (upTo kd (k + 1)).length = (upTo kd k).length + 1 := by rw [qf5 h, List.length_append]; rfl
theorem qs6 {kd k : Nat} (h : (usesL kd).contains k = true) (hk : k < 7) : (upTo kd k).length < (usesL kd).length := by
 have h1 := qnh kd (k + 1) (by omega)
 rw [ql1 h] at h1
 omega
theorem qs7 {e : Ev} (he : e.Ok) {vs : List Nat} (hv : ∀ x ∈ vs, x < 18446744073709551616) (k : Nat) : (qbf e vs k).Ok := by
 have z : I64 0 := ⟨by decide, by decide⟩
 have zm : (0 : Nat) < 18446744073709551616 := by decide
 refine qol _ _ ?_ (fun p hp => hv _ (List.of_mem_zip hp).2)
 exact ⟨he.seq, he.time, he.cpu, he.kind, z, z, z, z, z, zm, z⟩
def Ev.rErr (e : Ev) (vs : List Nat) : Nat := if e.kind = 0 ∨ 10 < e.kind then 60 else if vs.length ≠ (usesL e.kind).length then 2 else if (e.rmade vs).check ≠ 0 then 61 else 0
def Ev.rEv (e : Ev) (vs : List Nat) : Ev := if e.rErr vs = 0 then e.rmade vs else Ev.zero
theorem qs8 (e : Ev) (vs : List Nat) (hv : ∀ x ∈ vs, x < 18446744073709551616) : e.rErr vs = e.qy vs ∧ e.rEv vs = e.zj vs := by
 have h : e.rErr vs = e.qy vs ∧ (e.rErr vs = 0 → e.rmade vs = e.made vs) := by
  unfold Ev.rErr Ev.qy
  split
  ·exact ⟨rfl, fun h => by omega⟩
  ·split
   ·exact ⟨rfl, fun h => by omega⟩
   ·rename_i h1 h2
    rcases qp5 e vs (by omega) hv with h | ⟨h3, h4⟩
    ·rw [h]; exact ⟨rfl, fun _ => rfl⟩
    ·rw [if_pos h3, if_pos h4]; exact ⟨rfl, fun h => by omega⟩
 refine ⟨h.1, ?_⟩
 unfold Ev.rEv Ev.zj
 rw [← h.1]
 split
 ·exact h.2 ‹_›
 ·rfl
theorem qvs (k i : Nat) (hi : i < 7) (hk : k < 256) (w : World) : Calls Tryz.prog 79 #[.int .u8 (k : Int), .int .i64 (i : Int)] w (BoolPost w ((usesL k).contains i)) :=
 (qf4 k i hi hk w).mono fun _ _ h => ⟨h.1, by rw [h.2]; exact Below.refl _ _⟩
theorem qqf (e : Ev) (he : e.Ok) (A : Option Addr) (n c : Nat) (vs : List Nat) (w : World) (hr : Rd w w.heap.size 1 A n (vs.map U64)) (hvs : ∀ x ∈ vs, x < 18446744073709551616) (hn : vs.length = n) :
    Calls Tryz.prog 96 #[.agg e.cells, .slice A n c] w (WithPost w (e.rEv vs) (e.rErr vs)) := by
 refine qg (vs := [.agg e.cells, .slice A n c]) Tryz.func96 rfl rfl (by kernel_rfl) (σ0 := [(0, .agg e.cells), (1, .slice A n c)]) rfl ?_
 intro a HF
 have HM := Mem.start w
 refine wp_seq (qa ?_)
 refine fo HF 0 rfl rfl ?_
 refine e_box HF HM (cs := e.cells) rfl rfl rfl rfl (by decide) ?_
 clear HF HM; intro a w2 g2 HF HM
 refine fo HF 1 rfl rfl ?_
 refine qz HF HM (cs := #[vI 0, vI 0, vB 0, vB 0, vI 0, vI 0, vI 0, vI 0, vI 0, vQ 0, vI 0]) rfl (by kernel_rfl) rfl (by decide) ?_
 clear HF HM; intro a w4 g4 HF HM
 refine fp HF 1 2 [(5, vI 0)] fun a HF => ?_
 refine qb rfl (wp_seq (wp_seq (qa ?_)))
 refine fp HF 1 0 [(9, vP g2 3)] fun a HF => ?_
 refine fy HF HM 1 rfl rfl rfl (v := vB e.kind) (Yl.qh rfl rfl (by kernel_rfl) (fun _ h => h.cell (i := 1) rfl (rfl))) fun a HF => ?_
 refine fo HF 2 rfl rfl ?_
 refine e_cl HF [vB e.kind] rfl rfl (qgv e.kind he.kind _) ?_
 rintro _ w11 ⟨⟨s, rfl, hs⟩, hbw⟩
 refine ⟨_, rfl, ?_⟩
 replace HM := HM.call hbw
 clear HF; intro a HF
 refine fp HF 1 3 [(12, .bool ((s).toList == ((ByteArray.mk #[])).toList))] fun a HF => ?_
 replace HF := HF.sp 12 (.bool (!decide (1 ≤ e.kind ∧ e.kind ≤ 10))) rfl (by rw [qle hs])
 refine qb rfl ?_
 rcases HF.tf 12 rfl with ⟨hb12, HF⟩ | ⟨hb12, HF⟩
 ·
  have hbad : e.kind = 0 ∨ 10 < e.kind := by simp only [Bool.not_eq_true', decide_eq_false_iff_not] at hb12; omega
  refine qf HF rfl (wp_seq (qa ?_))
  refine fy HF HM 0 rfl rfl rfl (v := .agg Ev.zero.cells) ((Yl.build (vs := []) rfl (by kernel_rfl) (by kernel_rfl))) fun a HF => ?_
  refine fo HF 1 rfl rfl ?_
  refine e_sa HF HM 0 rfl rfl rfl rfl rfl ⟨(by kernel_rfl), (by kernel_rfl)⟩ rfl rfl (zn Ev.zero) ?_
  clear HM; intro w2_1 HM
  refine fp HF 1 2 [(5, vI 60)] fun a HF => ?_
  refine qb rfl (wp_ret ?_)
  exact ret2 rfl HF (.cellS (i := 0) HF HM rfl rfl ⟨(by kernel_rfl), (by kernel_rfl)⟩ rfl) (.tmp HF rfl) (⟨by rw [Ev.rEv, Ev.rErr, if_pos hbad]; rfl, HM.below⟩)
 have hgood : ¬ (e.kind = 0 ∨ 10 < e.kind) := by simp only [Bool.not_eq_false', decide_eq_true_eq] at hb12; omega
 refine qe HF rfl (wp_skip (wp_seq (wp_seq (qa ?_))))
 refine fp HF 1 0 [(14, .slice A n c)] fun a HF => ?_
 refine fy HF HM 1 rfl rfl rfl (Yl.len rfl rfl (by kernel_rfl)) fun a HF => ?_
 refine fp HF 1 2 [(16, vP g2 3)] fun a HF => ?_
 refine fy HF HM 3 rfl rfl rfl (v := vB e.kind) (Yl.qh rfl rfl (by kernel_rfl) (fun _ h => h.cell (i := 1) rfl (rfl))) fun a HF => ?_
 refine fo HF 4 rfl rfl ?_
 refine e_cl HF [vB e.kind] rfl rfl (qhd e.kind he.kind _) ?_
 rintro _ w18 ⟨⟨v, xs18, rfl, ho⟩, hbw⟩
 obtain ⟨A18, c18, rfl, hc18⟩ := qaq ho
 refine ⟨_, rfl, ?_⟩
 replace HM := HM.callRow hbw ho
 clear HF; intro a HF
 refine fy HF HM 5 rfl rfl rfl (Yl.len rfl rfl (by kernel_rfl)) fun a HF => ?_
 refine fp HF 1 6 [(20, .bool ((n : Int) != (((usesL e.kind).length : Nat) : Int)))] fun a HF => ?_
 refine qb rfl ?_
 rcases HF.tf 20 rfl with ⟨hb20, HF⟩ | ⟨hb20, HF⟩
 ·
  have hlb : vs.length ≠ (usesL e.kind).length := by rw [bne_iff_ne] at hb20; omega
  refine qf HF rfl (wp_seq (qa ?_))
  refine fy HF HM 0 rfl rfl rfl (v := .agg Ev.zero.cells) ((Yl.build (vs := []) rfl (by kernel_rfl) (by kernel_rfl))) fun a HF => ?_
  refine fo HF 1 rfl rfl ?_
  refine e_sa HF HM 1 rfl rfl rfl rfl rfl ⟨(by kernel_rfl), (by kernel_rfl)⟩ rfl rfl (zn Ev.zero) ?_
  clear HM; intro w4_1 HM
  refine fp HF 1 2 [(5, vI 2)] fun a HF => ?_
  refine qb rfl (wp_ret ?_)
  replace HM := HM.picks (fs' := [.blk g4 Ev.zero.cells 58, .blk g2 e.cells 58]) [1, 2] (by decide) rfl
  exact ret2 rfl HF (.cellS (i := 0) HF HM rfl rfl ⟨(by kernel_rfl), (by kernel_rfl)⟩ rfl) (.tmp HF rfl) (⟨by rw [Ev.rEv, Ev.rErr, if_neg hgood, if_pos hlb]; rfl, HM.below⟩)
 have hlg : n = (usesL e.kind).length := by rw [bne_eq_false_iff_eq] at hb20; omega
 have hlg2 : ¬ vs.length ≠ (usesL e.kind).length := by omega
 refine qe HF rfl (wp_skip (wp_seq (qa ?_)))
 refine fp HF 1 0 [(22, vP g2 0)] fun a HF => ?_
 refine fy HF HM 1 rfl rfl rfl (v := vI e.seq) (Yl.qh rfl rfl (by kernel_rfl) (fun _ h => h.cell (i := 2) rfl (rfl))) fun a HF => ?_
 refine fp HF 1 2 [(24, vP g2 1)] fun a HF => ?_
 refine fy HF HM 3 rfl rfl rfl (v := vI e.time) (Yl.qh rfl rfl (by kernel_rfl) (fun _ h => h.cell (i := 2) rfl (rfl))) fun a HF => ?_
 refine fp HF 1 4 [(26, vP g2 2)] fun a HF => ?_
 refine fy HF HM 5 rfl rfl rfl (v := vB e.cpu) (Yl.qh rfl rfl (by kernel_rfl) (fun _ h => h.cell (i := 2) rfl (rfl))) fun a HF => ?_
 refine fp HF 1 6 [(28, vP g2 3)] fun a HF => ?_
 refine fy HF HM 7 rfl rfl rfl (v := vB e.kind) (Yl.qh rfl rfl (by kernel_rfl) (fun _ h => h.cell (i := 2) rfl (rfl))) fun a HF => ?_
 refine fy HF HM 8 rfl rfl rfl (v := .agg e.base.cells) ((Yl.build (vs := [(0, vI e.seq), (1, vI e.time), (2, vB e.cpu), (3, vB e.kind)]) rfl (by kernel_rfl) (by kernel_rfl))) fun a HF => ?_
 refine fo HF 9 rfl rfl ?_
 refine qz HF HM (cs := #[vI 0, vI 0, vB 0, vB 0, vI 0, vI 0, vI 0, vI 0, vI 0, vQ 0, vI 0]) rfl (by kernel_rfl) rfl (by decide) ?_
 clear HF HM; intro a w6 g6 HF HM
 refine fo HF 10 rfl rfl ?_
 refine e_sa HF HM 0 rfl rfl rfl rfl rfl ⟨(by kernel_rfl), (by kernel_rfl)⟩ rfl rfl (zn e.base) ?_
 clear HM; intro w5_10 HM
 refine qb rfl (wp_seq (qa ?_))
 refine fp HF 1 0 [(7, vI 0)] fun a HF => ?_
 refine qb rfl (wp_seq (wp_seq (qa ?_)))
 refine fp HF 1 0 [(8, vI 0)] fun a HF => ?_
 refine qb rfl (wp_block ?_)
 replace HM := HM.picks (fs' := [.blk g6 e.base.cells 58, .blk g4 #[vI 0, vI 0, vB 0, vB 0, vI 0, vI 0, vI 0, vI 0, vI 0, vQ 0, vI 0] 58, .blk g2 e.cells 58]) [0, 2, 3] (by decide) rfl
 refine qv (fun mS aS wS => ∃ (k : Nat), (k ≤ 7) ∧ mS = 7 - k ∧ Fr aS 53 [] [(8, vI k), (7, vI ((upTo e.kind k).length : Nat)), (6, vP g6 0), (20, .bool false), (12, .bool false), (5, vI 0), (4, vP g4 0), (2, vP g2 0), (1, .slice A n c)] ∧ Mem w wS [.blk g6 ((qbf e vs k).cells) 58, .blk g4 #[vI 0, vI 0, vB 0, vB 0, vI 0, vI 0, vI 0, vI 0, vI 0, vQ 0, vI 0] 58, .blk g2 e.cells 58]) (m := 7 - 0) ⟨0, by omega, rfl, HF.sub (by kernel_rfl), HM.picks [0, 1, 2] (by decide) rfl⟩ ?_
 clear HF HM; rintro mS a w_ ⟨k, hk, rfl, HF, HM⟩
 refine wp_seq (wp_seq (qa ?_))
 refine fp HF 2 0 [(32, .bool (decide ((k : Int) < (7 : Int))))] fun a HF => ?_
 refine qb rfl ?_
 rcases HF.tf 32 rfl with ⟨hb32, HF⟩ | ⟨hb32, HF⟩
 ·
  have hk7 : k < 7 := by have := of_decide_eq_true hb32; omega
  refine qf HF rfl (wp_skip (wp_seq (wp_block (wp_seq (qa ?_)))))
  refine fp HF 1 0 [(35, vP g2 3)] fun a HF => ?_
  refine fy HF HM 1 rfl rfl rfl (v := vB e.kind) (Yl.qh rfl rfl (by kernel_rfl) (fun _ h => h.cell (i := 2) rfl (rfl))) fun a HF => ?_
  refine fp HF 1 2 [(37, vI k)] fun a HF => ?_
  refine fo HF 3 rfl rfl ?_
  refine e_cl HF [vB e.kind, vI k] rfl rfl (qvs e.kind k hk7 he.kind _) ?_
  rintro _ w38 ⟨rfl, hbw⟩
  refine ⟨_, rfl, ?_⟩
  replace HM := HM.call hbw
  clear HF; intro a HF
  refine qb rfl ?_
  rcases HF.tf 38 rfl with ⟨hb38, HF⟩ | ⟨hb38, HF⟩
  ·
   have hroom : (upTo e.kind k).length < n := by have := qs6 hb38 hk7; omega
   obtain ⟨x, hx⟩ : ∃ x, vs[(upTo e.kind k).length]? = some x := ⟨_, List.getElem?_eq_getElem (by omega)⟩
   refine qf HF rfl (wp_seq ?_)
   refine zw HM [.blk g6 ((qbf e vs k).cells) 58, .blk g4 #[vI 0, vI 0, vB 0, vB 0, vI 0, vI 0, vI 0, vI 0, vI 0, vQ 0, vI 0] 58, .blk g2 e.cells 58] [0, 1, 2] [7] fun HM HS => ?_
   refine ap HF (fun _ => HS) [1, 2, 3] #[false, true, true, true, false, false, false, false] [(42, vI ((upTo e.kind k).length : Nat)), (41, .slice A n c), (40, vI k)] fun a HF => ?_
   refine ay HF HS 0 rfl rfl rfl (v := .agg ((qbf e vs k).cells)) (Yl.qx rfl rfl ⟨(by kernel_rfl), (by kernel_rfl)⟩ rfl (fun _ h => qd (h.blk (i := 0) rfl))) fun a HF => ?_
   obtain ⟨gA, oA, rfl, _⟩ := hr.zl (Nat.lt_of_le_of_lt (Nat.zero_le _) (show (upTo e.kind k).length < n from hroom)) (by decide)
   refine ay HF HS 4 rfl rfl rfl (v := vP gA (oA + ((upTo e.kind k).length) * 1)) (Yl.ix gA oA ((upTo e.kind k).length) 1 rfl rfl rfl (hroom)) fun a HF => ?_
   refine ay HF HS 5 rfl rfl rfl (v := vQ x) (Yl.qh rfl rfl (by kernel_rfl) (fun _ h => (h.old hr).zt (k := ((upTo e.kind k).length)) (za (F := U64) (k := ((upTo e.kind k).length)) (x := x) (hx)))) fun a HF => ?_
   refine qi [6] (by kernel_rfl) rfl ?_
   refine all_cons ?_ all_nil
   refine qj HF (i := 6) rfl rfl ?_
   refine e_cl HF [.agg ((qbf e vs k).cells), vI k, vQ x] rfl rfl (qpz (qbf e vs k) k x hk7 (hvs x (List.mem_of_getElem? hx)) _) ?_
   rintro _ w45 ⟨rfl, hbw⟩
   refine ⟨_, rfl, ?_⟩
   replace HM := HM.call hbw
   clear HF; intro a HF
   refine keepS (HM.picks [0, 1, 2] (by decide) rfl) (fun HS => ?_)
   refine qi [7] (by kernel_rfl) rfl ?_
   refine all_cons ?_ all_nil
   refine qj HF (i := 7) rfl rfl ?_
   refine e_sa HF HM 0 rfl rfl rfl rfl rfl ⟨(by kernel_rfl), (by kernel_rfl)⟩ rfl rfl (zn ((qbf e vs k).rput k x)) ?_
   clear HM; intro w11_7 HM
   refine noS (by kernel_rfl) ?_
   refine qm (by kernel_rfl) ?_
   rw [qp7 hb38 hx] at HM
   refine qa ?_
   refine fp HF 2 0 [(47, vI (IntKind.i64.wrap ((((upTo e.kind k).length : Nat) : Int) + 1)))] fun a HF => ?_
   replace HF := HF.sp 47 (vI ((upTo e.kind (k + 1)).length : Nat)) rfl (by rw [IntWalk.i64_in _ (by have := qkk e.kind k (by omega); omega), ql1 hb38]; simp)
   refine fp HF 1 2 [(7, vI ((upTo e.kind (k + 1)).length : Nat))] fun a HF => ?_
   refine qb rfl (qa ?_)
   refine fp HF 2 0 [(34, vI (IntKind.i64.wrap ((k : Int) + 1)))] fun a HF => ?_
   replace HF := HF.sp 34 (vI (k + 1 : Nat)) rfl (by rw [IntWalk.i64_in _ (by omega)]; simp)
   refine fp HF 1 2 [(8, vI (k + 1 : Nat))] fun a HF => ?_
   refine qb rfl ?_
   exact ⟨_, (by omega), k + 1, by omega, rfl, HF.sub (by kernel_rfl), HM.picks [0, 1, 2] (by decide) rfl⟩
  rw [← qs5 hb38] at HM
  have HF := HF.as (t := 7) (u := .int .i64 (((upTo e.kind (k + 1)).length : Nat) : Int)) rfl (by rw [qkj hb38])
  refine qe HF rfl (wp_skip (qa ?_))
  refine fp HF 2 0 [(34, vI (IntKind.i64.wrap ((k : Int) + 1)))] fun a HF => ?_
  replace HF := HF.sp 34 (vI (k + 1 : Nat)) rfl (by rw [IntWalk.i64_in _ (by omega)]; simp)
  refine fp HF 1 2 [(8, vI (k + 1 : Nat))] fun a HF => ?_
  refine qb rfl ?_
  exact ⟨_, (by omega), k + 1, by omega, rfl, HF.sub (by kernel_rfl), HM.picks [0, 1, 2] (by decide) rfl⟩
 obtain rfl : k = 7 := by have := of_decide_eq_false hb32; omega
 refine qe HF rfl (wp_exit (wp_seq (wp_seq (qa ?_))))
 refine fy HF HM 0 rfl rfl rfl (v := .agg ((qbf e vs 7).cells)) (Yl.qx rfl rfl ⟨(by kernel_rfl), (by kernel_rfl)⟩ rfl (fun _ h => qd (h.blk (i := 0) rfl))) fun a HF => ?_
 refine fo HF 1 rfl rfl ?_
 refine e_cl HF [.agg ((qbf e vs 7).cells)] rfl rfl (qff (qbf e vs 7) (qs7 he hvs 7) _) ?_
 rintro _ w49 ⟨rfl, hbw⟩
 refine ⟨_, rfl, ?_⟩
 replace HM := HM.call hbw
 clear HF; intro a HF
 refine fp HF 1 2 [(50, .bool (((qbf e vs 7).check : Int) != (0 : Int)))] fun a HF => ?_
 refine qb rfl ?_
 rcases HF.tf 50 rfl with ⟨hb50, HF⟩ | ⟨hb50, HF⟩
 ·
  have hcb : (e.rmade vs).check ≠ 0 := by rw [bne_iff_ne, qei] at hb50; omega
  refine qf HF rfl (wp_seq (qa ?_))
  refine fy HF HM 0 rfl rfl rfl (v := .agg Ev.zero.cells) ((Yl.build (vs := []) rfl (by kernel_rfl) (by kernel_rfl))) fun a HF => ?_
  refine fo HF 1 rfl rfl ?_
  refine e_sa HF HM 1 rfl rfl rfl rfl rfl ⟨(by kernel_rfl), (by kernel_rfl)⟩ rfl rfl (zn Ev.zero) ?_
  clear HM; intro w14_1 HM
  refine fp HF 1 2 [(5, vI 61)] fun a HF => ?_
  refine qb rfl (wp_ret ?_)
  exact ret2 rfl HF (.cellS (i := 1) HF HM rfl rfl ⟨(by kernel_rfl), (by kernel_rfl)⟩ rfl) (.tmp HF rfl) (⟨by rw [Ev.rEv, Ev.rErr, if_neg hgood, if_neg hlg2, if_pos hcb]; rfl, HM.below⟩)
 have hcg : (e.rmade vs).check = 0 := by rw [bne_eq_false_iff_eq, qei] at hb50; omega
 have hcg2 : ¬ (e.rmade vs).check ≠ 0 := by omega
 refine qe HF rfl (wp_skip (wp_seq (qa ?_)))
 refine fy HF HM 0 rfl rfl rfl (v := .agg ((qbf e vs 7).cells)) (Yl.qx rfl rfl ⟨(by kernel_rfl), (by kernel_rfl)⟩ rfl (fun _ h => qd (h.blk (i := 0) rfl))) fun a HF => ?_
 refine fo HF 1 rfl rfl ?_
 refine e_sa HF HM 1 rfl rfl rfl rfl rfl ⟨(by kernel_rfl), (by kernel_rfl)⟩ rfl rfl (zn (qbf e vs 7)) ?_
 clear HM; intro w15_1 HM
 refine fp HF 1 2 [(5, vI 0)] fun a HF => ?_
 refine qb rfl (wp_ret ?_)
 exact ret2 rfl HF (.cellS (i := 1) HF HM rfl rfl ⟨(by kernel_rfl), (by kernel_rfl)⟩ rfl) (.tmp HF rfl) (⟨by rw [Ev.rEv, Ev.rErr, if_neg hgood, if_neg hlg2, if_neg hcg2, qei]; rfl, HM.below⟩)
theorem qmh (e : Ev) (he : e.Ok) (A : Option Addr) (n c : Nat) (vs : List Nat) (w : World) (hr : Rd w w.heap.size 1 A n (vs.map U64)) (hvs : ∀ x ∈ vs, x < 18446744073709551616) :
  Calls Tryz.prog 96 #[.agg e.cells, .slice A n c] w (WithPost w (e.zj vs) (e.qy vs)) := by
 rw [← (qs8 e vs hvs).1, ← (qs8 e vs hvs).2]
 exact qqf e he A n c vs w hr hvs (by simpa using hr.len)
theorem ql2 : EI Tryz.prog 35 58 (.agg Ev.zero.cells) 11 80 := ⟨by kernel_rfl, by kernel_rfl, rfl, by omega⟩
def putUp (b : Bs) (e : Ev) (k : Nat) : List Nat := [e.kind] ++ vbytes (e.seq - b.seq).toNat ++ vbytes (e.time - b.time).toNat ++ (e.vals.take k).flatMap vbytes
theorem qjg (b : Bs) (e : Ev) : putUp b e 0 = [e.kind] ++ vbytes (e.seq - b.seq).toNat ++ vbytes (e.time - b.time).toNat := by simp [putUp]
theorem qjh {b : Bs} {e : Ev} {k x : Nat} (h : e.vals[k]? = some x) : putUp b e (k + 1) = putUp b e k ++ vbytes x := by
 unfold putUp
 rw [List.take_add_one, h]
 simp
theorem qig (b : Bs) (e : Ev) : putUp b e e.vals.length = zk b e := by
 unfold putUp zk qaf
 rw [List.take_length]
 simp
theorem qs9 (b : Bs) (e : Ev) (k : Nat) : (putUp b e k).length ≤ 61 := by
 unfold putUp
 simp only [List.length_append, List.length_cons, List.length_nil]
 have h1 := qr (e.seq - b.seq).toNat
 have h2 := qr (e.time - b.time).toNat
 have h3 : ∀ l : List Nat, (l.flatMap vbytes).length ≤ l.length * 10 := by
  intro l
  induction l with
  | nil => simp
  | cons x r ih => rw [List.flatMap_cons, List.length_append, List.length_cons]; have := qr x; omega
 have h4 := h3 (e.vals.take k)
 have h5 := qfo e
 rw [List.length_take] at h4
 omega
theorem qji {b : Bs} {cpu kd : Nat} {r : List Nat} (hb : b.right = true) (hu : (usesL kd).length ≠ 0) : takeR b cpu (kd :: r) = qaw b cpu kd (readN (2 + (usesL kd).length) r) := by
 unfold takeR
 rw [if_neg (by simp [hb]), if_neg (by simp), if_neg (by simpa using hu)]
 rfl
theorem qiu {b : Bs} {cpu kd : Nat} {r : List Nat} (hb : b.right = true) (hu : (usesL kd).length = 0) : takeR b cpu (kd :: r) = (Ev.zero, 0, 60) := by
 unfold takeR
 rw [if_neg (by simp [hb]), if_neg (by simp), if_pos (by simpa using hu)]
theorem ql3 {b : Bs} {cpu kd u : Nat} {r xs : List Nat} {q : Nat × Nat × Nat} (hb : b.right = true) (hu : (usesL kd).length ≠ 0) (hj : readN (2 + (usesL kd).length) r = joinR xs u (readN (2 + (usesL kd).length - xs.length) (r.drop u))) (hlt : xs.length < 2 + (usesL kd).length) (hq : vread (r.drop u) = q) (hq2 : q.2.2 ≠ 0) : takeR b cpu (kd :: r) = (Ev.zero, 0, q.2.2) := by
 rw [qji hb hu, hj, show 2 + (usesL kd).length - xs.length = (2 + (usesL kd).length - xs.length - 1) + 1 by omega, qk0 (by rw [hq]; exact hq2)]
 unfold qaw
 rw [if_pos (by simpa [hq] using hq2), hq]
theorem qvt {kd u : Nat} {r xs : List Nat} {q : Nat × Nat × Nat} (hj : readN (2 + (usesL kd).length) r = joinR xs u (readN (2 + (usesL kd).length - xs.length) (r.drop u))) (hlt : xs.length < 2 + (usesL kd).length) (hq : vread (r.drop u) = q) (hq2 : q.2.2 = 0) :
  readN (2 + (usesL kd).length) r = joinR (xs ++ [q.1]) (u + q.2.1) (readN (2 + (usesL kd).length - (xs ++ [q.1]).length) (r.drop (u + q.2.1))) := by
 rw [hj, show 2 + (usesL kd).length - xs.length = (2 + (usesL kd).length - xs.length - 1) + 1 by omega, qi1 (by rw [hq]; exact hq2), hq, List.drop_drop]
 congr 2
 simp; omega
theorem qgw {b : Bs} {cpu kd u x0 x1 : Nat} {r vs : List Nat} (hb : b.right = true) (hu : (usesL kd).length ≠ 0) (hj : readN (2 + (usesL kd).length) r = joinR (x0 :: x1 :: vs) u (readN (2 + (usesL kd).length - (x0 :: x1 :: vs).length) (r.drop u))) (hl : (x0 :: x1 :: vs).length = 2 + (usesL kd).length) :
  takeR b cpu (kd :: r) = qaw b cpu kd (x0 :: x1 :: vs, u, 0) := by
 rw [qji hb hu, hj, hl, Nat.sub_self]
 unfold joinR readN
 simp
theorem qp8 {b : Bs} {cpu kd u x0 x1 : Nat} {vs : List Nat} (hb : 1 ≤ b.seq ∧ 0 ≤ b.time) (h : 281474976710656 < x0 ∨ 281474976710656 < x1) : qaw b cpu kd (x0 :: x1 :: vs, u, 0) = (Ev.zero, 0, 61) := by
 unfold qaw
 rw [if_neg (by simp), if_pos (by simp; omega)]
theorem qp9 {b : Bs} {cpu kd u x0 x1 : Nat} {vs : List Nat} (h : (b.ev cpu kd x0 x1).qy vs ≠ 0) : qaw b cpu kd (x0 :: x1 :: vs, u, 0) = (Ev.zero, 0, 61) := by
 unfold qaw
 rw [if_neg (by simp)]
 split
 ·rfl
 ·rw [if_pos (by simpa using h)]
theorem qni {b : Bs} {cpu kd u x0 x1 : Nat} {vs : List Nat} (h : (b.ev cpu kd x0 x1).qy vs = 0) : qaw b cpu kd (x0 :: x1 :: vs, u, 0) = ((b.ev cpu kd x0 x1).zj vs, 1 + u, 0) := by
 have hm : ((b.ev cpu kd x0 x1).made vs).check = 0 := by
  unfold Ev.qy at h
  split at h
  ·cases h
  ·split at h
   ·cases h
   ·split at h
    ·cases h
    ·rename_i h3; exact Decidable.not_not.1 h3
 have hv := qba hm
 have hk := qc6 (b.ev cpu kd x0 x1) vs
 rw [hk.2.1, hk.2.2.1] at hv
 obtain ⟨_, _, _, h1, h2, h3, h4⟩ := hv
 have h5 : b.seq + (x0 : Int) ≤ 281474976710656 := h2
 have h6 : b.time + (x1 : Int) ≤ 281474976710656 := h4
 unfold qaw Ev.zj
 rw [if_neg (by simp), if_neg (by simp; omega), if_neg (by simpa using h), if_pos h]
 rfl
theorem qyr {b : Bs} {cpu kd x0 x1 : Nat} (hb : 1 ≤ b.seq ∧ b.seq ≤ 281474976710656 ∧ 0 ≤ b.time ∧ b.time ≤ 281474976710656) (hc : cpu < 256) (hk : kd < 256) (h : ¬ (281474976710656 < x0 ∨ 281474976710656 < x1)) : (b.ev cpu kd x0 x1).Ok := by
 have z : I64 0 := ⟨by decide, by decide⟩
 have zm : (0 : Nat) < 18446744073709551616 := by decide
 exact ⟨⟨by show _ ≤ b.seq + (x0 : Int); omega, by show b.seq + (x0 : Int) ≤ _; omega⟩, ⟨by show _ ≤ b.time + (x1 : Int); omega, by show b.time + (x1 : Int) ≤ _; omega⟩, hc, hk, z, z, z, z, z, zm, z⟩
theorem qta {b : Bs} (h : b.right = true) : 1 ≤ b.seq ∧ b.seq ≤ 281474976710656 ∧ 0 ≤ b.time ∧ b.time ≤ 281474976710656 := by simpa [Bs.right] using h
theorem qtb {kd : Nat} (h : 1 ≤ kd ∧ kd ≤ 10) : (usesL kd).length ≠ 0 := by
 obtain rfl | rfl | rfl | rfl | rfl | rfl | rfl | rfl | rfl | rfl : kd = 1 ∨ kd = 2 ∨ kd = 3 ∨ kd = 4 ∨ kd = 5 ∨ kd = 6 ∨ kd = 7 ∨ kd = 8 ∨ kd = 9 ∨ kd = 10 := by omega
 all_goals decide
theorem qkl {kd : Nat} (h : ¬ (1 ≤ kd ∧ kd ≤ 10)) : (usesL kd).length = 0 := by
 unfold usesL
 split <;> first | omega | rfl
theorem qqa {l : List Ev} {k : Nat} {e : Ev} (hk : l[k]? = some e) : rowGo (qbu l k) k (l.drop k) = if e.check ≠ 0 then ((k : Int), e.check) else if (qbu l k).all (fun q => e.after q) = false then ((k : Int), 71) else rowGo (qbu l (k + 1)) (k + 1) (l.drop (k + 1)) := by
 obtain ⟨hl, he⟩ := List.getElem?_eq_some_iff.1 hk
 rw [List.drop_eq_getElem_cons hl, he, show qbu l (k + 1) = some e from hk]
 rfl
theorem qej {w w' : World} {b : Bs} {l : List Ev} {er : Nat} (h : zg b l = er) (he : er ≠ 0) (hb : Below w.heap.size w w') : qa3 w (zg b l) (zr b l) (.returned (.tuple #[.slice none 0 0, .int .i64 (er : Int)])) w' := by
 have ho : zr b l = [] := by unfold zr; rw [if_neg (by omega)]
 rw [ho, h]
 exact ⟨⟨none, 0, rfl, World.ownsRow_nil _ _ _ _, Nat.le_refl _⟩, hb⟩
theorem ql4 {b : Bs} {l : List Ev} (h : (rowR l).2 ≠ 0) : zg b l = (rowR l).2 := by unfold zg; rw [if_pos h]
theorem qkm {b : Bs} {l : List Ev} (h : (rowR l).2 = 0) (hb : ¬ b.right = true) : zg b l = 70 := by unfold zg; rw [if_neg (by omega), if_neg (by simp [hb])]
theorem ql5 : ∀ (l : List Ev) (b : Bs) (e : Ev), recs b (l ++ [e]) = recs b l ++ zk (match l.getLast? with | some q => q.at | none => b) e
 | [], b, e => by simp [recs]
 | x :: l, b, e => by
  rw [List.cons_append, recs, recs, ql5 l x.at e, List.append_assoc]
  congr 2
  cases l with
  | nil => rfl
  | cons y r => simp only [List.getLast?_cons, Option.getD_some]
def zp (b : Bs) (l : List Ev) (k : Nat) : List Nat := recs b (l.take k)
theorem qom : ∀ (l : List Ev) (b : Bs), (recs b l).length ≤ 61 * l.length
 | [], _ => by simp [recs]
 | e :: l, b => by
  rw [recs, List.length_append, List.length_cons]
  have h1 := qom l e.at
  have h2 := qmt b e
  omega
theorem qnj (b : Bs) (l : List Ev) (k : Nat) : (zp b l k).length ≤ 61 * k := by
 have h1 := qom (l.take k) b
 have h2 : (l.take k).length ≤ k := by rw [List.length_take]; omega
 unfold zp
 omega
theorem qtc (b : Bs) (e : Ev) : (qai b e).length ≤ 61 := by
 unfold qai
 split
 ·exact qmt b e
 ·simp
structure WriteAt (b : Bs) (l : List Ev) (k : Nat) (bk : Bs) : Prop where
 base : bk = qea b l k
 head : 0 < k → l.head?.all b.behind = true
theorem WriteAt.start (b : Bs) (l : List Ev) : WriteAt b l 0 b := ⟨rfl, fun h => by omega⟩
section
variable {b bk : Bs} {l : List Ev} {k : Nat} {e : Ev}
theorem WriteAt.bad (h : WriteAt b l k bk) (hr : (rowR l).2 = 0) (hb : b.right = true) (hk : l[k]? = some e) (hp : zh bk e ≠ 0) : k = 0 := by
 rcases Nat.eq_zero_or_pos k with h0 | h0
 ·exact h0
 ·obtain ⟨hl, he⟩ := List.getElem?_eq_some_iff.1 hk
  have := qn5 hr hb (h.head h0) k hl
  rw [he, ← h.base] at this
  exact absurd this hp
theorem WriteAt.fail (h : WriteAt b l k bk) (hr : (rowR l).2 = 0) (hb : b.right = true) (hk : l[k]? = some e) (h0 : k = 0) (hp : zh bk e ≠ 0) : zg b l = zh bk e := by
 subst h0
 have hbk : bk = b := h.base
 subst hbk
 obtain ⟨g1, _, _⟩ := qgi l none 0 hr
 have hc := g1 e (List.mem_of_getElem? hk)
 have hbh : ¬ bk.behind e = true := by
  intro h1
  unfold zh at hp
  rw [if_neg (by simp [hc]), if_pos ⟨hb, h1⟩] at hp
  exact hp rfl
 have hh : l.head? = some e := by rw [List.head?_eq_getElem?]; exact hk
 unfold zg zh
 rw [if_neg (by omega), if_neg (by simp [hh, hbh]), if_neg (by simp [hc]), if_neg (by simp [hbh])]
theorem WriteAt.up (h : WriteAt b l k bk) (hk : l[k]? = some e) (hp : zh bk e = 0) : zp b l (k + 1) = zp b l k ++ qai bk e := by
 obtain ⟨hl, he⟩ := List.getElem?_eq_some_iff.1 hk
 unfold zp qai
 rw [List.take_add_one, hk, if_pos hp, h.base]
 show recs b (l.take k ++ [e]) = _
 rw [ql5]
 congr 2
 cases k with
 | zero => simp [qea]
 | succ j =>
  rw [show (l.take (j + 1)).getLast? = l[j]? from by rw [List.getLast?_take]; simp [List.getElem?_eq_getElem (show j < l.length by omega)]]
  rfl
theorem WriteAt.next (h : WriteAt b l k bk) (hk : l[k]? = some e) (hp : zh bk e = 0) : WriteAt b l (k + 1) e.at := by
 refine ⟨by show e.at = (match l[k]? with | some e => e.at | none => b); rw [hk], fun _ => ?_⟩
 rcases Nat.eq_zero_or_pos k with h0 | h0
 ·subst h0
  have hbk : bk = b := h.base
  subst hbk
  have hh : l.head? = some e := by rw [List.head?_eq_getElem?]; exact hk
  rw [hh]
  unfold zh at hp
  split at hp
  ·omega
  ·split at hp
   ·rename_i h1; exact h1.2
   ·omega
 ·exact h.head h0
theorem WriteAt.done {w w' : World} {n c : Nat} {A : Option Addr} (h : WriteAt b l n bk) (hr : (rowR l).2 = 0) (hb : b.right = true) (hln : l.length = n) (ho : w'.ownsRow w.heap.size 5 1 (.slice A (zp b l n).length c) (zp b l n).length ((zp b l n).map B8)) (hc : (zp b l n).length ≤ c) (hw : Below w.heap.size w w') :
  qa3 w (zg b l) (zr b l) (.returned (.tuple #[.slice A (zp b l n).length c, .int .i64 0])) w' := by
 have hh : l.head?.all b.behind = true := by
  rcases Nat.eq_zero_or_pos n with h0 | h0
  ·subst h0; rw [List.length_eq_zero_iff.1 hln]; rfl
  ·exact h.head h0
 have he : zg b l = 0 := by unfold zg; rw [if_neg (by omega), if_pos ⟨hb, hh⟩]
 have hout : zr b l = zp b l n := by unfold zr zp; rw [if_pos he, ← hln, List.take_length]
 rw [he, hout]
 exact ⟨⟨A, c, rfl, ho, hc⟩, hw⟩
end
def EvsIs (T : TypeId) (w : World) (q : List Ev × Nat × Nat) (r : Ending) (w' : World) : Prop :=
 (∃ A c, r = .returned (.tuple #[.slice A q.1.length c, .int .i64 (q.2.1 : Int), .int .i64 (q.2.2 : Int)]) ∧ w'.ownsRow w.heap.size T 11 (.slice A q.1.length c) q.1.length (q.1.flatMap evL) ∧ q.1.length ≤ c) ∧ Below w.heap.size w w'
theorem qew {T : TypeId} {w w' : World} {q : List Ev × Nat × Nat} {er : Nat} (h : q = ([], 0, er)) (hb : Below w.heap.size w w') : EvsIs T w q (.returned (.tuple #[.slice none 0 0, .int .i64 0, .int .i64 (er : Int)])) w' := by
 subst h
 exact ⟨⟨none, 0, rfl, World.ownsRow_nil _ _ _ _, Nat.le_refl _⟩, hb⟩
theorem qtd {T : TypeId} {w w' : World} {q : List Ev × Nat × Nat} {es : List Ev} {u c : Nat} {A : Option Addr} (h : q = (es, u, 0)) (ho : w'.ownsRow w.heap.size T 11 (.slice A es.length c) es.length (es.flatMap evL)) (hc : es.length ≤ c) (hb : Below w.heap.size w w') : EvsIs T w q (.returned (.tuple #[.slice A es.length c, .int .i64 (u : Int), .int .i64 0])) w' := by
 subst h
 exact ⟨⟨A, c, rfl, ho, hc⟩, hb⟩
structure ReadJn (b : Bs) (cpu : Nat) (m : Nat) (l : List Nat) (es : List Ev) (u : Nat) (bk : Bs) : Prop where
 fits : u ≤ l.length
 most : es.length ≤ u
 few : es.length ≤ m
 last : ∀ q, es.getLast? = some q → bk = q.at
 said : zc cpu m b none l = joinE es u (zc cpu (m - es.length) bk es.getLast? (l.drop u))
section
variable {b bk : Bs} {cpu m u L er : Nat} {l : List Nat} {es : List Ev} {e : Ev}
theorem ReadJn.start (b : Bs) (cpu m : Nat) (l : List Nat) : ReadJn b cpu m l [] 0 b := ⟨Nat.zero_le _, Nat.le_refl _, Nat.zero_le _, fun q h => by simp at h, (qk8 cpu m b none l).symm⟩
theorem ReadJn.bad (h : ReadJn b cpu m l es u bk) (hm : es.length < m) (hq : takeR bk cpu (l.drop u) = (e, L, er)) (he : er ≠ 0) : zc cpu m b none l = ([], 0, er) := by
 rw [h.said, show m - es.length = (m - es.length - 1) + 1 by omega]
 exact qk7 hq he es u
theorem ReadJn.same (h : ReadJn b cpu m l es u bk) (hm : es.length < m) (hq : takeR bk cpu (l.drop u) = (e, L, 0)) (he : es.getLast?.any (fun q => decide (e.seq = q.seq)) = true) : zc cpu m b none l = ([], 0, 71) := by
 rw [h.said, show m - es.length = (m - es.length - 1) + 1 by omega]
 exact qi2 hq he es u
theorem ReadJn.next (h : ReadJn b cpu m l es u bk) (hm : es.length < m) (hq : takeR bk cpu (l.drop u) = (e, L, 0)) (he : es.getLast?.any (fun q => decide (e.seq = q.seq)) = false) : ReadJn b cpu m l (es ++ [e]) (u + L) e.at := by
 have h1 := qfp bk cpu (l.drop u)
 rw [hq, List.length_drop] at h1
 simp only at h1
 have h2 := h1.2 trivial
 have h3 := h.fits
 have h4 := h.most
 refine ⟨by omega, by simp; omega, by simp; omega, fun q hq => ?_, ?_⟩
 ·simp at hq; rw [hq]
 ·rw [h.said, show m - es.length = (m - es.length - 1) + 1 by omega, qgj hq he es u, List.drop_drop]
  simp [Nat.sub_sub]
theorem ReadJn.done (h : ReadJn b cpu m l es u bk) (hm : m ≤ es.length) : zc cpu m b none l = (es, u, 0) := by
 rw [h.said, show m - es.length = 0 by omega]
 simp [zc, joinE]
theorem qkn {n : Int} (h : ¬ n < 0) (hb : b.right = true) : readR b cpu n l = zc cpu n.toNat b none l := by unfold readR; rw [if_neg h, if_neg (by simp [hb])]
end
def markB (k : Nat) : Nat := (8000024 + k) * 11400714819323198485 % 18446744073709551616 / 72057594037927936
def marks (k : Nat) : List Nat := (List.range k).map markB
theorem qqk (k : Nat) : marks (k + 1) = marks k ++ [markB k] := by unfold marks; rw [List.range_succ, List.map_append]; rfl
theorem qv0 (k : Nat) : markB k < 256 := by unfold markB; omega
def qwu (w : World) (l : List Nat) (r : Ending) (w' : World) : Prop :=
 (∃ A c, r = .returned (.slice A l.length c) ∧ w'.ownsRow w.heap.size 5 1 (.slice A (l.length + 12) c) (l.length + 12) ((l ++ marks 12).map B8) ∧ l.length + 12 ≤ c) ∧ Below w.heap.size w w'
theorem qv1 (k : Nat) (hk : k ≤ 1000) : IntKind.u64.wrap ((8000024 + k : Nat) : Int) = ((8000024 + k : Nat) : Int) := by rw [IntKind.wrap_u64]; omega
theorem qv2 (k : Nat) : IntKind.u64.wrap (((8000024 + k : Nat) : Int) * 11400714819323198485) = (((8000024 + k) * 11400714819323198485 % 18446744073709551616 : Nat) : Int) := by rw [IntKind.wrap_u64]; omega
theorem qv3 (x : Nat) : Int.fdiv (x : Int) (2 ^ (min (56 : Int).toNat (IntKind.u64).bits)) = ((x / 72057594037927936 : Nat) : Int) := by
 rw [show (2 : Int) ^ (min (56 : Int).toNat (IntKind.u64).bits) = 72057594037927936 from by decide, Int.fdiv_eq_ediv_of_nonneg _ (by decide)]
 rfl
theorem qxn (k : Nat) : IntKind.u8.wrap (((8000024 + k) * 11400714819323198485 % 18446744073709551616 / 72057594037927936 : Nat) : Int) = (markB k : Int) := by
 have := qv0 k
 unfold markB at *
 rw [IntKind.wrap_u8]
 omega
theorem qtv {l : List Nat} {n k : Nat} (hl : l.length = n) (h : k < n + 12) : (k < n → ∃ x, l[k]? = some x ∧ (l ++ marks 12)[k]? = some x) ∧ (n ≤ k → (l ++ marks 12)[k]? = some (markB (k - n))) := by
 refine ⟨fun hk => ⟨l[k], List.getElem?_eq_getElem (by omega), ?_⟩, fun hk => ?_⟩
 ·rw [List.getElem?_append_left (by omega)]; exact List.getElem?_eq_getElem (by omega)
 ·rw [List.getElem?_append_right (by omega), hl]
  unfold marks
  rw [List.getElem?_map, List.getElem?_range (by omega)]
  rfl
theorem qv4 (k : Nat) (hk : k ≤ 1000) (w : World) : Calls Tryz.prog 63 #[.int .i64 1, .int .i64 (k : Int)] w fun r w' => r = .returned (.int .i64 ((8000024 + k : Nat) : Int)) ∧ Below w.heap.size w w' := by
 refine qg (vs := [vI 1, vI k]) Tryz.func63 rfl rfl (by kernel_rfl) (σ0 := [(0, vI 1), (1, vI k)]) rfl ?_
 intro a HF
 have HM := Mem.start w
 refine wp_seq (qa ?_)
 refine fp HF 1 0 [(4, vI 0)] fun a HF => ?_
 refine qb rfl (wp_seq (qa ?_))
 refine fp HF 5 0 [(9, vI (IntKind.i64.wrap (8000024 + (k : Int))))] fun a HF => ?_
 replace HF := HF.sp 9 (vI (8000024 + k : Nat)) rfl (by rw [IntWalk.i64_in _ (by omega)]; simp)
 refine fp HF 1 5 [(4, vI (8000024 + k : Nat))] fun a HF => ?_
 refine qb rfl (wp_ret ?_)
 exact ret1 rfl HF (.tmp HF rfl) (⟨rfl, HM.below⟩)
theorem qhg (k : Nat) (hk : k ≤ 1000) (w : World) : Calls Tryz.prog 45 #[.int .i64 1, .int .i64 (k : Int)] w fun r w' => r = .returned (.int .u8 (markB k : Int)) ∧ Below w.heap.size w w' := by
 refine qg (vs := [vI 1, vI k]) Tryz.func45 rfl rfl (by kernel_rfl) (σ0 := [(0, vI 1), (1, vI k)]) rfl ?_
 intro a HF
 have HM := Mem.start w
 refine wp_seq (qa ?_)
 refine fp HF 1 0 [(4, vB 0)] fun a HF => ?_
 refine qb rfl (wp_seq (qa ?_))
 refine fp HF 2 0 [(6, vI k), (5, vI 1)] fun a HF => ?_
 refine fo HF 2 rfl rfl ?_
 refine e_cl HF [vI 1, vI k] rfl rfl (qv4 k hk _) ?_
 rintro _ w7 ⟨rfl, hbw⟩
 refine ⟨_, rfl, ?_⟩
 replace HM := HM.call hbw
 clear HF; intro a HF
 refine fp HF 1 3 [(8, vQ (IntKind.u64.wrap ((8000024 + k : Nat) : Int)))] fun a HF => ?_
 replace HF := HF.sp 8 (vQ (8000024 + k : Nat)) rfl (by rw [qv1 k hk])
 refine fp HF 1 4 [(9, vQ (IntKind.u64.wrap (((8000024 + k : Nat) : Int) * 11400714819323198485)))] fun a HF => ?_
 replace HF := HF.sp 9 (vQ ((8000024 + k) * 11400714819323198485 % 18446744073709551616 : Nat)) rfl (by rw [qv2 k])
 refine fp HF 1 5 [(10, vQ (Int.fdiv (((8000024 + k) * 11400714819323198485 % 18446744073709551616 : Nat) : Int) (2 ^ (min (56 : Int).toNat (IntKind.u64).bits))))] fun a HF => ?_
 replace HF := HF.sp 10 (vQ ((8000024 + k) * 11400714819323198485 % 18446744073709551616 / 72057594037927936 : Nat)) rfl (by rw [qv3])
 refine fp HF 1 6 [(11, vB (IntKind.u8.wrap (((8000024 + k) * 11400714819323198485 % 18446744073709551616 / 72057594037927936 : Nat) : Int)))] fun a HF => ?_
 replace HF := HF.sp 11 (vB (markB k)) rfl (by rw [qxn k])
 refine fp HF 1 7 [(4, vB (markB k))] fun a HF => ?_
 refine qb rfl (wp_ret ?_)
 exact ret1 rfl HF (.tmp HF rfl) (⟨rfl, HM.below⟩)
theorem qv5 (A : Option Addr) (n c : Nat) (l : List Nat) (w : World) (hr : Rd w w.heap.size 1 A n (l.map B8)) (hn : n ≤ 140737488351232) (hln : l.length = n) :
    Calls Tryz.prog 25 #[.slice A n c] w (qwu w l) := by
 refine qg (vs := [.slice A n c]) Tryz.func25 rfl rfl (by kernel_rfl) (σ0 := [(0, .slice A n c)]) rfl ?_
 intro a HF
 have HM := Mem.start w
 refine wp_seq (qa ?_)
 refine fp HF 1 0 [(2, .slice none 0 0)] fun a HF => ?_
 refine qb rfl (wp_seq (qa ?_))
 refine fp HF 1 0 [(5, .slice A n c)] fun a HF => ?_
 refine fy HF HM 1 rfl rfl rfl (Yl.len rfl rfl (by kernel_rfl)) fun a HF => ?_
 refine fp HF 1 2 [(7, vI (IntKind.i64.wrap ((n : Int) + 12)))] fun a HF => ?_
 replace HF := HF.sp 7 (vI (n + 12 : Nat)) rfl (by rw [IntWalk.i64_in _ (by omega)]; simp)
 refine fo HF 3 rfl rfl ?_
 refine qro HF HM (m := (n + 12)) rfl ei_u8 rfl rfl (by omega) (by omega) rfl (by decide) ?_
 clear HF HM; intro a w8 g8 HF HM
 refine fp HF 1 4 [(3, vS g8 0 (n + 12))] fun a HF => ?_
 refine qb rfl (wp_seq (qa ?_))
 refine fp HF 2 0 [(10, .slice A n c), (9, vS g8 0 (n + 12))] fun a HF => ?_
 refine fo HF 2 rfl rfl ?_
 refine qj8 HF HM (i := 0) rfl ei_u8 rfl rfl rfl (news := (l.map B8)) (HM.old hr) (qaa _) (by omega) (by omega) rfl (by decide) ?_
 clear HF HM; intro a w11 A11 c11 HF HM hc11
 refine fp HF 1 3 [(3, .slice A11 (0 + n) c11)] fun a HF => ?_
 refine qb rfl ?_
 have hnA11 : 0 + n = n + 0 := by omega
 replace HM := HM.reRow (i := 0) (ys := (l ++ marks 0).map B8) rfl hnA11 (by simp [marks])
 rw [hnA11] at hc11
 replace HF := HF.as (t := 3) (u := .slice A11 (n + 0) c11) rfl (by rw [hnA11])
 replace HF := HF.as (t := 11) (u := .slice A11 (n + 0) c11) rfl (by rw [hnA11])
 refine wp_seq (wp_seq (qa ?_))
 refine fp HF 1 0 [(4, vI 0)] fun a HF => ?_
 refine qb rfl (wp_block ?_)
 refine qv (fun mS aS wS => ∃ (k : Nat) (Ak : Option Addr) (ck : Nat), (k ≤ 12) ∧ (n + k ≤ ck) ∧ mS = 12 - k ∧ Fr aS 25 [] [(4, vI k), (11, .slice A11 (n + 0) c11), (3, .slice Ak (n + k) ck), (2, .slice none 0 0), (0, .slice A n c)] ∧ Mem w wS [.row (.slice Ak (n + k) ck) (n + k) ((l ++ marks k).map B8) 5 1]) (m := 12 - 0) ⟨0, A11, c11, by omega, hc11, rfl, HF.sub (by kernel_rfl), HM.picks [0] (by decide) rfl⟩ ?_
 clear HF HM; rintro mS a w_ ⟨k, Ak, ck, hk, hck, rfl, HF, HM⟩
 refine wp_seq (wp_seq (qa ?_))
 refine fp HF 2 0 [(13, .bool (decide ((k : Int) < (12 : Int))))] fun a HF => ?_
 refine qb rfl ?_
 rcases HF.tf 13 rfl with ⟨hb13, HF⟩ | ⟨hb13, HF⟩
 ·
  have hk13 : k < 12 := by have := of_decide_eq_true hb13; omega
  refine qf HF rfl (wp_skip (wp_seq (wp_block (qa ?_))))
  refine fp HF 2 0 [(17, vI k), (16, .slice Ak (n + k) ck)] fun a HF => ?_
  refine fo HF 2 rfl rfl ?_
  refine e_cl HF [vI 1, vI k] rfl rfl (qhg k (by omega) _) ?_
  rintro _ w18 ⟨rfl, hbw⟩
  refine ⟨_, rfl, ?_⟩
  replace HM := HM.call hbw
  clear HF; intro a HF
  refine fo HF 3 rfl rfl ?_
  refine qp HF HM (vs := [(0, vB (markB k))]) (cs := #[vB (markB k)]) rfl ei_u8 (by decide) rfl (by kernel_rfl) rfl (by decide) ?_
  clear HF HM; intro a w19 g19 HF HM
  refine fo HF 4 rfl rfl ?_
  refine qs HF HM (i := 1) rfl ei_u8 rfl rfl rfl (news := [B8 (markB k)]) (HM.rdBlk (i := 0) (n := 1) (size := 1) rfl rfl) (by simp [Value.oneCell', U64, B8]) (by omega) (by omega) rfl (by decide) ?_
  clear HF HM; intro a w20 A20 c20 HF HM hc20
  refine fp HF 1 5 [(3, .slice A20 (n + k + 1) c20)] fun a HF => ?_
  refine qb rfl ?_
  have hnA20 : n + k + 1 = n + (k + 1) := by omega
  replace HM := HM.reRow (i := 1) (ys := (l ++ marks (k + 1)).map B8) rfl hnA20 (by rw [qqk]; simp)
  rw [hnA20] at hc20
  replace HF := HF.as (t := 3) (u := .slice A20 (n + (k + 1)) c20) rfl (by rw [hnA20])
  replace HF := HF.as (t := 20) (u := .slice A20 (n + (k + 1)) c20) rfl (by rw [hnA20])
  refine qa ?_
  refine fp HF 2 0 [(15, vI (IntKind.i64.wrap ((k : Int) + 1)))] fun a HF => ?_
  replace HF := HF.sp 15 (vI (k + 1 : Nat)) rfl (by rw [IntWalk.i64_in _ (by omega)]; simp)
  refine fp HF 1 2 [(4, vI (k + 1 : Nat))] fun a HF => ?_
  refine qb rfl ?_
  exact ⟨_, (by omega), k + 1, A20, c20, by omega, hc20, rfl, HF.sub (by kernel_rfl), HM.picks [1] (by decide) rfl⟩
 obtain rfl : k = 12 := by have := of_decide_eq_false hb13; omega
 refine qe HF rfl (wp_exit (wp_seq (qa ?_)))
 refine fp HF 2 0 [(22, .slice A n c), (21, .slice Ak (n + 12) ck)] fun a HF => ?_
 refine fy HF HM 2 rfl rfl rfl (Yl.len rfl rfl (by kernel_rfl)) fun a HF => ?_
 refine fy HF HM 3 rfl rfl rfl (v := .slice Ak n ck) (Yl.zx ei_u8 (j := n) rfl rfl rfl (by omega)) fun a HF => ?_
 refine fp HF 1 4 [(2, .slice Ak n ck)] fun a HF => ?_
 refine qb rfl (wp_ret ?_)
 exact ret1 rfl HF (.tmp HF rfl) (⟨⟨Ak, ck, by rw [hln], by rw [hln]; exact HM.own (i := 0) rfl, by omega⟩, HM.below⟩)
theorem qv6 (A A2 : Option Addr) (n c c2 : Nat) (l : List Nat) (w : World) (hr : Rd w w.heap.size 1 A (n + 12) ((l ++ marks 12).map B8)) (hc : n + 12 ≤ c) (hr2 : Rd w w.heap.size 1 A2 n (l.map B8)) (hn : n ≤ 140737488351232) (hln : l.length = n) :
    Calls Tryz.prog 30 #[.slice A n c, .slice A2 n c2] w (BoolPost w true) := by
 refine qg (vs := [.slice A n c, .slice A2 n c2]) Tryz.func30 rfl rfl (by kernel_rfl) (σ0 := [(0, .slice A n c), (1, .slice A2 n c2)]) rfl ?_
 intro a HF
 have HM := Mem.start w
 refine wp_seq (qa ?_)
 refine fp HF 1 0 [(4, .bool false)] fun a HF => ?_
 refine qb rfl (wp_seq (wp_seq (qa ?_)))
 refine fp HF 1 0 [(7, .slice A n c)] fun a HF => ?_
 refine fy HF HM 1 rfl rfl rfl (Yl.len rfl rfl (by kernel_rfl)) fun a HF => ?_
 refine fp HF 1 2 [(9, .slice A2 n c2)] fun a HF => ?_
 refine fy HF HM 3 rfl rfl rfl (Yl.len rfl rfl (by kernel_rfl)) fun a HF => ?_
 refine fp HF 1 4 [(11, .bool ((n : Int) != (n : Int)))] fun a HF => ?_
 replace HF := HF.sp 11 (.bool false) rfl (by simp)
 refine qb rfl (qe HF rfl (wp_skip (wp_seq (qa ?_))))
 refine fp HF 2 0 [(13, .slice A2 n c2), (12, .slice A n c)] fun a HF => ?_
 refine fy HF HM 2 rfl rfl rfl (Yl.len rfl rfl (by kernel_rfl)) fun a HF => ?_
 refine fp HF 1 3 [(15, vI (IntKind.i64.wrap ((n : Int) + 12)))] fun a HF => ?_
 replace HF := HF.sp 15 (vI (n + 12 : Nat)) rfl (by rw [IntWalk.i64_in _ (by omega)]; simp)
 refine fy HF HM 4 rfl rfl rfl (v := .slice A (n + 12) c) (Yl.zx ei_u8 (j := (n + 12)) rfl rfl rfl (hc)) fun a HF => ?_
 refine fp HF 1 5 [(5, .slice A (n + 12) c)] fun a HF => ?_
 refine qb rfl (wp_seq (wp_seq (qa ?_)))
 refine fp HF 1 0 [(6, vI 0)] fun a HF => ?_
 refine qb rfl (wp_block ?_)
 refine qv (fun mS aS wS => ∃ (k : Nat), (k ≤ n + 12) ∧ mS = n + 12 - k ∧ Fr aS 58 [] [(6, vI k), (5, .slice A (n + 12) c), (11, .bool false), (4, .bool false), (0, .slice A n c), (1, .slice A2 n c2)] ∧ Mem w wS []) (m := n + 12 - 0) ⟨0, Nat.zero_le _, rfl, HF.sub (by kernel_rfl), HM.picks [] (by decide) rfl⟩ ?_
 clear HF HM; rintro mS a w_ ⟨k, hk, rfl, HF, HM⟩
 refine wp_seq (wp_seq (qa ?_))
 refine fp HF 2 0 [(18, .slice A (n + 12) c), (17, vI k)] fun a HF => ?_
 refine fy HF HM 2 rfl rfl rfl (Yl.len rfl rfl (by kernel_rfl)) fun a HF => ?_
 refine fp HF 1 3 [(20, .bool (decide ((k : Int) < ((n + 12) : Int))))] fun a HF => ?_
 refine qb rfl ?_
 rcases HF.tf 20 rfl with ⟨hb20, HF⟩ | ⟨hb20, HF⟩
 ·
  have hk20 : k < n + 12 := by have := of_decide_eq_true hb20; omega
  refine qf HF rfl (wp_skip (wp_seq (wp_block ?_)))
  refine qam (fun aS wS => Fr aS 58 [] [(57, .bool false), (20, .bool true), (6, vI k), (5, .slice A (n + 12) c), (11, .bool false), (4, .bool false), (0, .slice A n c), (1, .slice A2 n c2)] ∧ Mem w wS []) ?_ ?_
  ·
   refine zw HM [] [] [] fun HM HS => ?_
   refine ap HF (fun _ => HS) [0, 1] #[true, true, false, false, false, false, false, false, false, false, false, false, false, false, false, false, false, false, false, false, false, false, false, false, false, false, false, false, false, false, false, false, false, false, false] [(24, .slice A2 n c2), (23, vI k)] fun a HF => ?_
   refine ay HF HS 2 rfl rfl rfl (Yl.len rfl rfl (by kernel_rfl)) fun a HF => ?_
   refine ap HF (fun _ => HS) [3, 4] #[true, true, true, true, true, false, false, false, false, false, false, false, false, false, false, false, false, false, false, false, false, false, false, false, false, false, false, false, false, false, false, false, false, false, false] [(27, .bool (decide ((k : Int) < (n : Int))))] fun a HF => ?_
   rcases HF.tf 27 rfl with ⟨hb27, HF⟩ | ⟨hb27, HF⟩
   ·
    have hk26 : k < n := by have := of_decide_eq_true hb27; omega
    obtain ⟨x, hx1, hx2⟩ := (qtv hln hk20).1 hk26
    refine ap HF (fun _ => HS) [5, 6, 9, 10] #[true, true, true, true, true, true, true, false, false, true, true, false, false, false, false, false, false, false, false, false, false, false, false, false, false, false, false, false, false, false, false, false, false, false, false] [(33, vI k), (32, .slice A2 n c2), (29, vI k), (28, .slice A (n + 12) c)] fun a HF => ?_
    obtain ⟨gA, oA, rfl, _⟩ := hr.zl (Nat.lt_of_le_of_lt (Nat.zero_le _) (show k < (n + 12) from hk20)) (by decide)
    refine ay HF HS 7 rfl rfl rfl (v := vP gA (oA + k * 1)) (Yl.ix gA oA k 1 rfl rfl rfl (hk20)) fun a HF => ?_
    refine ay HF HS 8 rfl rfl rfl (v := vB x) (Yl.qh rfl rfl (by kernel_rfl) (fun _ h => (h.old hr).zt (k := k) (za (F := B8) (k := k) (x := x) (hx2)))) fun a HF => ?_
    obtain ⟨gA2, oA2, rfl, _⟩ := hr2.zl (Nat.lt_of_le_of_lt (Nat.zero_le _) (show k < n from hk26)) (by decide)
    refine ay HF HS 11 rfl rfl rfl (v := vP gA2 (oA2 + k * 1)) (Yl.ix gA2 oA2 k 1 rfl rfl rfl (hk26)) fun a HF => ?_
    refine ay HF HS 12 rfl rfl rfl (v := vB x) (Yl.qh rfl rfl (by kernel_rfl) (fun _ h => (h.old hr2).zt (k := k) (za (F := B8) (k := k) (x := x) (hx1)))) fun a HF => ?_
    refine qo HF (fun _ => HS) (i := 13) rfl rfl (d := 36) rfl (by decide) (by kernel_rfl) (fun _ _ _ h => h) (v := .bool ((x : Int) == (x : Int))) (fun _ => Yl.pure (by kernel_rfl)) fun a HF => ?_
    replace HF := HF.sp 36 (.bool true) rfl (by simp)
    refine ap HF (fun _ => HS) [14, 15, 16, 17, 18] #[true, true, true, true, true, true, true, true, true, true, true, true, true, true, true, true, true, true, true, false, false, false, false, false, false, false, false, false, false, false, false, false, false, false, false] [(41, .slice (some ⟨gA2, oA2, none⟩) n c2), (40, vI k), (39, .bool false)] fun a HF => ?_
    refine ay HF HS 19 rfl rfl rfl (Yl.len rfl rfl (by kernel_rfl)) fun a HF => ?_
    refine qo HF (fun _ => HS) (i := 20) rfl rfl (d := 43) rfl (by decide) (by kernel_rfl) (fun _ _ _ h => h) (v := .bool (decide ((k : Int) ≥ (n : Int)))) (fun _ => Yl.pure (by kernel_rfl)) fun a HF => ?_
    replace HF := HF.sp 43 (.bool false) rfl (by rw [decide_eq_false (by omega)])
    refine ap HF (fun _ => HS) [21, 22, 23, 24, 25, 26, 27, 28, 29, 30, 31, 32, 33, 34] #[true, true, true, true, true, true, true, true, true, true, true, true, true, true, true, true, true, true, true, true, true, true, true, true, true, true, true, true, true, true, true, true, true, true, true] [(57, .bool false)] fun a HF => ?_
    refine qm (by kernel_rfl) ?_
    exact ⟨HF.sub (by kernel_rfl), HM.picks [] (by decide) rfl⟩
   have hk26 : n ≤ k := by have := of_decide_eq_false hb27; omega
   have hx3 := (qtv hln hk20).2 hk26
   refine ap HF (fun _ => HS) [5, 6, 7, 8, 9, 10, 11, 12, 13, 14, 15, 16, 17, 18] #[true, true, true, true, true, true, true, true, true, true, true, true, true, true, true, true, true, true, true, false, false, false, false, false, false, false, false, false, false, false, false, false, false, false, false] [(41, .slice A2 n c2), (40, vI k), (39, .bool false)] fun a HF => ?_
   refine ay HF HS 19 rfl rfl rfl (Yl.len rfl rfl (by kernel_rfl)) fun a HF => ?_
   refine qo HF (fun _ => HS) (i := 20) rfl rfl (d := 43) rfl (by decide) (by kernel_rfl) (fun _ _ _ h => h) (v := .bool (decide ((k : Int) ≥ (n : Int)))) (fun _ => Yl.pure (by kernel_rfl)) fun a HF => ?_
   replace HF := HF.sp 43 (.bool true) rfl (by rw [decide_eq_true (by omega)])
   refine ap HF (fun _ => HS) [21, 22, 23, 26, 27] #[true, true, true, true, true, true, true, true, true, true, true, true, true, true, true, true, true, true, true, true, true, true, true, true, false, false, true, true, false, false, false, false, false, false, false] [(50, .slice A2 n c2), (49, vI k), (46, vI k), (45, .slice A (n + 12) c), (44, .bool true)] fun a HF => ?_
   obtain ⟨gA, oA, rfl, _⟩ := hr.zl (Nat.lt_of_le_of_lt (Nat.zero_le _) (show k < (n + 12) from hk20)) (by decide)
   refine ay HF HS 24 rfl rfl rfl (v := vP gA (oA + k * 1)) (Yl.ix gA oA k 1 rfl rfl rfl (hk20)) fun a HF => ?_
   refine ay HF HS 25 rfl rfl rfl (v := vB (markB (k - n))) (Yl.qh rfl rfl (by kernel_rfl) (fun _ h => (h.old hr).zt (k := k) (za (F := B8) (k := k) (x := (markB (k - n))) (hx3)))) fun a HF => ?_
   refine ay HF HS 28 rfl rfl rfl (Yl.len rfl rfl (by kernel_rfl)) fun a HF => ?_
   refine qo HF (fun _ => HS) (i := 29) rfl rfl (d := 52) rfl (by decide) (by kernel_rfl) (fun _ _ _ h => h) (v := vI (IntKind.i64.wrap ((k : Int) - (n : Int)))) (fun _ => Yl.pure (by kernel_rfl)) fun a HF => ?_
   replace HF := HF.sp 52 (vI (k - n : Nat)) rfl (by rw [IntWalk.i64_in _ (by omega)]; congr 1; omega)
   refine qi [30] (by kernel_rfl) rfl ?_
   refine all_cons ?_ all_nil
   refine qj HF (i := 30) rfl rfl ?_
   refine e_cl HF [vI 1, vI (k - n : Nat)] rfl rfl (qhg (k - n) (by omega) _) ?_
   rintro _ w53 ⟨rfl, hbw⟩
   refine ⟨_, rfl, ?_⟩
   replace HM := HM.call hbw
   clear HF; intro a HF
   refine keepS (HM.picks [] (by decide) rfl) (fun HS => ?_)
   refine qo HF (fun _ => HS) (i := 31) rfl rfl (d := 54) rfl (by decide) (by kernel_rfl) (fun _ _ _ h => h) (v := .bool (((markB (k - n)) : Int) == (markB (k - n) : Int))) (fun _ => Yl.pure (by kernel_rfl)) fun a HF => ?_
   replace HF := HF.sp 54 (.bool true) rfl (by simp)
   refine ap HF (fun _ => HS) [32, 33, 34] #[true, true, true, true, true, true, true, true, true, true, true, true, true, true, true, true, true, true, true, true, true, true, true, true, true, true, true, true, true, true, true, true, true, true, true] [(57, .bool false)] fun a HF => ?_
   refine qm (by kernel_rfl) ?_
   exact ⟨HF.sub (by kernel_rfl), HM.picks [] (by decide) rfl⟩
  clear HF HM; rintro a w7 ⟨HF, HM⟩
  refine qe HF rfl (wp_skip (qa ?_))
  refine fp HF 2 0 [(22, vI (IntKind.i64.wrap ((k : Int) + 1)))] fun a HF => ?_
  replace HF := HF.sp 22 (vI (k + 1 : Nat)) rfl (by rw [IntWalk.i64_in _ (by omega)]; simp)
  refine fp HF 1 2 [(6, vI (k + 1 : Nat))] fun a HF => ?_
  refine qb rfl ?_
  exact ⟨_, (by omega), k + 1, by omega, rfl, HF.sub (by kernel_rfl), HM.picks [] (by decide) rfl⟩
 refine qe HF rfl (wp_exit (wp_seq (qa ?_)))
 refine fp HF 1 0 [(4, .bool true)] fun a HF => ?_
 refine qb rfl (wp_ret ?_)
 exact ret1 rfl HF (.tmp HF rfl) (⟨rfl, HM.below⟩)
end Go.Proofs.YtnakabnmjnfpcaaGreatDoor
