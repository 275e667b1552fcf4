/- Parts. -/
import Derived.Test.YtggpmlaappaopaaGreatDoorQtRnd2
import Derived.Test.YtggpmlaappaopaaGreatDoorQtZ4
set_option linter.all false
set_option maxRecDepth 100000
set_option maxHeartbeats 4000000
namespace Go.Proofs.YtggpmlaappaopaaGreatDoor
open Go.RowKit
theorem qpx (A : Option Addr) (n c : Nat) (l : List Nat) (D : Option Addr) (k c2 : Nat) (m : List Nat) (w : World) (hr : Rd w w.heap.size 1 A n (l.map B8)) (hr2 : Rd w w.heap.size 1 D k (m.map B8)) (hl : ∀ z ∈ l, z < 256) (hm : ∀ z ∈ m, z < 256) :
    Calls Tryz.prog 74 #[.slice A n c, .slice D k c2] w (Is w (.bool (decide (l = m)))) := by
 refine s_ce Tryz.func74 [.slice A n c, .slice D k c2] [(0, .slice A n c), (1, .slice D k c2)] fun a HF => ?_
 have HM := Mem.start w
 refine s_fs1 ?_
 refine fp HF 1 0 [(4, .bool false)] fun a HF => ?_
 refine s_d0 (s_fs1 ?_)
 refine fp HF 1 0 [(5, .slice A n c)] fun a HF => ?_
 refine s_fz HF HM 1 rfl (v := .string (bstr l)) (Yl.str rfl rfl (fun _ h => h.old hr)) fun a HF => ?_
 refine fp HF 1 2 [(7, .slice D k c2)] fun a HF => ?_
 refine s_fz HF HM 3 rfl (v := .string (bstr m)) (Yl.str rfl rfl (fun _ h => h.old hr2)) fun a HF => ?_
 refine fp HF 1 4 [(9, .bool (((bstr l)).toList == ((bstr m)).toList))] fun a HF => ?_
 replace HF := HF.sp 9 (.bool (decide (l = m))) rfl (by rw [qga hl hm])
 refine fp HF 1 5 [(4, .bool (decide (l = m)))] fun a HF => ?_
 refine s_d0 (wp_ret ?_)
 exact s_rt1 rfl HF rfl (⟨rfl, HM.below⟩)
theorem qk8 (A : Option Addr) (c : Nat) (l : List Nat) (B : Nat) (w : World) (hL : LaidX B w) (hB : B ≤ w.heap.size) (hr : Rd w w.heap.size 1 A l.length (l.map B8)) (hc : l.length ≤ c) (hn : l.length ≤ 100000000) (hl : ∀ z ∈ l, z < 256) :
    Calls Tryz.prog 17 #[.slice A l.length c] w (qks w (rdE l) (rdS l)) := by
 refine s_ce Tryz.func17 [.slice A l.length c] [(0, .slice A l.length c)] fun a HF => ?_
 have HM := Mem.start w
 refine s_fs1 ?_
 refine fo HF 0 rfl rfl (s_ea HF HM #[vI 0, vI 0, vQ 0, .slice none 0 0, .slice none 0 0, .slice none 0 0, .slice none 0 0, .slice none 0 0] ?_)
 clear HF HM; intro a w2 g2 HF HM
 refine fp HF 1 1 [(3, vI 0)] fun a HF => ?_
 refine s_d0 (wp_seq ?_)
 rcases hop : opnR l with k | p
 ·
  have hke := qb8 hop
  refine qa ?_
  refine fp HF 1 0 [(9, .slice A l.length c)] fun a HF => ?_
  refine fo HF 1 rfl rfl (e_is HF HM [.slice A l.length c] (.tuple #[.pointer none, vI k]) rfl rfl (qmk A c l B _ (hL.mem HM hB) (HM.le hB) (HM.old hr) hc hn hl hop) fun w10 hbw HM a HF => ?_)
  refine fp HF 5 2 [(5, vI k), (4, .pointer none)] fun a HF => ?_
  refine s_d0 (wp_seq (s_fs1 ?_))
  refine fp HF 2 0 [(14, .bool ((k : Int) != (0 : Int)))] fun a HF => ?_
  refine s_d0 ?_
  rcases HF.tf 14 rfl with ⟨hb14, HF⟩ | ⟨hb14, HF⟩
  ·
   have hd14 := bne_iff_ne.1 hb14
   refine s_ct HF (s_fs1 ?_)
   refine s_fz HF HM 0 rfl (v := .agg #[vI 0, vI 0, vQ 0, .slice none 0 0, .slice none 0 0, .slice none 0 0, .slice none 0 0, .slice none 0 0]) (Yl.build (vs := []) rfl (by kernel_rfl) (by kernel_rfl)) fun a HF => ?_
   refine fp HF 1 1 [(16, vI k)] fun a HF => ?_
   refine fo HF 2 rfl rfl (e_sa HF HM 0 rfl rfl rfl rfl rfl z4 rfl rfl (by simp [Value.oneCell']) ?_)
   clear HM; intro w3_2 HM
   refine fp HF 1 3 [(3, vI k)] fun a HF => ?_
   refine s_d0 (wp_ret ?_)
   exact ret2 rfl HF (.cellS (i := 0) HF HM rfl rfl z4 rfl) (.tmp HF rfl) (qau (rd_no hop) rfl (HM.pk []))
  have hd14 := bne_eq_false_iff_eq.1 hb14
  exfalso; omega
 ·
  have hfit := (qde hl hop).2.2.1
  refine qa ?_
  refine fp HF 1 0 [(9, .slice A l.length c)] fun a HF => ?_
  refine fo HF 1 rfl rfl ?_
  refine e_cl HF [.slice A l.length c] rfl rfl (qmj A c l B _ (hL.mem HM hB) (HM.le hB) (HM.old hr) hc hn hl hop) ?_
  rintro _ w10 ⟨g10, iv, av, NA, nc, SA, sc, rfl, hnc, hsc, hm⟩
  refine ⟨_, rfl, ?_⟩
  replace HM := HM.join hm
  clear HF; intro a HF
  refine fp HF 5 2 [(5, vI 0), (4, vP g10 0)] fun a HF => ?_
  refine s_d0 (wp_seq (s_fs1 ?_))
  refine fp HF 2 0 [(14, .bool false)] fun a HF => ?_
  refine s_d0 (s_cf HF (wp_skip (s_fs1 ?_)))
  refine fp HF 1 0 [(17, vP g10 0)] fun a HF => ?_
  refine s_fk HF 1 fun a HF => ?_
  refine fp HF 1 2 [(19, vP g10 2)] fun a HF => ?_
  refine s_fc HF HM 3 0 fun a HF => ?_
  refine s_fz HF HM 4 rfl (v := .agg #[.slice NA p.nums.length nc, .bool true]) (Yl.build (vs := [(0, .slice NA p.nums.length nc), (1, .bool true)]) rfl (by kernel_rfl) (by kernel_rfl)) fun a HF => ?_
  refine fo HF 5 rfl rfl (s_eb HF HM #[.slice NA p.nums.length nc, .bool true] ?_)
  clear HF HM; intro a w22 g22 HF HM
  refine fp HF 1 6 [(6, vP g22 0)] fun a HF => ?_
  refine s_d0 (s_fs1 ?_)
  refine fp HF 1 0 [(23, vP g22 0)] fun a HF => ?_
  refine fo HF 1 rfl rfl ?_
  refine e_cl HF [vP g22 0] rfl rfl (qts _ _ g22 NA nc p hfit [.blk g2 #[vI 0, vI 0, vQ 0, .slice none 0 0, .slice none 0 0, .slice none 0 0, .slice none 0 0, .slice none 0 0] 32] (HM.pk [0, 2, 4]) hnc) ?_
  rintro _ w24 ⟨z, SA2, n2, c2, rfl, hz, hcap, HM2⟩
  refine ⟨_, rfl, ?_⟩
  replace HM := HM2
  clear HF; intro a HF
  refine fo HF 2 rfl rfl (s_ea HF HM #[vI 0, vI 0, vQ 0, .slice none 0 0, .slice none 0 0, .slice none 0 0, .slice none 0 0, .slice none 0 0] ?_)
  clear HF HM; intro a w7 g7 HF HM
  refine fo HF 3 rfl rfl (e_sa HF HM 0 rfl rfl rfl rfl rfl z4 rfl rfl (qbo z) ?_)
  clear HM; intro w5_3 HM
  refine s_d0 (wp_seq (s_fs1 ?_))
  refine fp HF 1 0 [(25, vP g22 0)] fun a HF => ?_
  refine s_fk HF 1 fun a HF => ?_
  refine fp HF 1 2 [(27, vP g22 1)] fun a HF => ?_
  refine s_fc HF HM 3 1 fun a HF => ?_
  refine fp HF 2 4 [(30, .bool (!p.okB))] fun a HF => ?_
  rcases HF.tf 30 rfl with ⟨hb30, HF⟩ | ⟨hb30, HF⟩
  ·
   refine fp HF 4 6 [(34, .bool true)] fun a HF => ?_
   refine s_d0 (s_ct HF (s_fs1 ?_))
   refine s_fz HF HM 0 rfl (v := .agg #[vI 0, vI 0, vQ 0, .slice none 0 0, .slice none 0 0, .slice none 0 0, .slice none 0 0, .slice none 0 0]) (Yl.build (vs := []) rfl (by kernel_rfl) (by kernel_rfl)) fun a HF => ?_
   refine fo HF 1 rfl rfl (e_sa HF HM 2 rfl rfl rfl rfl rfl z4 rfl rfl (by simp [Value.oneCell']) ?_)
   clear HM; intro w7_1 HM
   refine fp HF 1 2 [(3, vI 347)] fun a HF => ?_
   refine s_d0 (wp_ret ?_)
   exact ret2 rfl HF (.cellS (i := 2) HF HM rfl rfl z4 rfl) (.tmp HF rfl) (qau (qfo hop (fun h => by rw [h.1] at hb30; cases hb30)) rfl (HM.pk []))
  refine s_fz HF HM 6 rfl (v := .agg z.cells) (Yl.qt rfl rfl z4 rfl (fun _ h => qg (h.blk (i := 0) rfl))) fun a HF => ?_
  refine fo HF 7 rfl rfl (e_is HF HM [.agg z.cells] (vI (chkS z)) rfl rfl (qpj z (qxp hz (q08 hfit)) (qhx (qck hz) (qno hfit _ (.inl rfl))) hcap _ (HM.stX 3 rfl)) fun w32 hbw HM a HF => ?_)
  refine fp HF 2 8 [(34, .bool ((chkS z : Int) != (0 : Int)))] fun a HF => ?_
  refine s_d0 ?_
  rcases HF.tf 34 rfl with ⟨hb34, HF⟩ | ⟨hb34, HF⟩
  ·
   have hd34 := bne_iff_ne.1 hb34
   refine s_ct HF (s_fs1 ?_)
   refine s_fz HF HM 0 rfl (v := .agg #[vI 0, vI 0, vQ 0, .slice none 0 0, .slice none 0 0, .slice none 0 0, .slice none 0 0, .slice none 0 0]) (Yl.build (vs := []) rfl (by kernel_rfl) (by kernel_rfl)) fun a HF => ?_
   refine fo HF 1 rfl rfl (e_sa HF HM 2 rfl rfl rfl rfl rfl z4 rfl rfl (by simp [Value.oneCell']) ?_)
   clear HM; intro w7_1 HM
   refine fp HF 1 2 [(3, vI 347)] fun a HF => ?_
   refine s_d0 (wp_ret ?_)
   exact ret2 rfl HF (.cellS (i := 2) HF HM rfl rfl z4 rfl) (.tmp HF rfl) (qau (qfo hop (fun h => by have h2 := h.2; rw [← qkh hz] at h2; omega)) rfl (HM.pk []))
  have hd34 := bne_eq_false_iff_eq.1 hb34
  refine s_cf HF (wp_skip (s_fs1 ?_))
  refine s_fz HF HM 0 rfl (v := .agg z.cells) (Yl.qt rfl rfl z4 rfl (fun _ h => qg (h.blk (i := 0) rfl))) fun a HF => ?_
  refine fo HF 1 rfl rfl (e_sa HF HM 2 rfl rfl rfl rfl rfl z4 rfl rfl (qbo z) ?_)
  clear HM; intro w8_1 HM
  refine fp HF 1 2 [(3, vI 0)] fun a HF => ?_
  refine s_d0 (wp_ret ?_)
  exact ret2 rfl HF (.cellS (i := 2) HF HM rfl rfl z4 rfl) (.tmp HF rfl) (qkt (qsh hop ⟨by simpa using hb30, by rw [← qkh hz]; omega⟩) rfl hz hcap (HM.subl (List.sublist_append_right ([.blk g7 z.cells 32, .blk g22 #[.slice SA2 n2 c2, .bool p.okB] 111, .blk g2 z.cells 32] : List Fact) _)))
theorem qfd (A : Option Addr) (c : Nat) (l : List Nat) (B : Nat) (w : World) (hL : LaidX B w) (hB : B ≤ w.heap.size) (hr : Rd w w.heap.size 1 A l.length (l.map B8)) (hc : l.length ≤ c) (hn : l.length ≤ 100000000) (hl : ∀ z ∈ l, z < 256) {p : Pr} (h : opnR l = .ok p) : Calls Tryz.prog 42 #[.slice A l.length c] w (qcj 82 w 0 p.secs) := by
 have := qce A c l B w hL hB hr hc hn hl
 rwa [qcn h, qdz h] at this
theorem qfe (A : Option Addr) (c : Nat) (l : List Nat) (B : Nat) (w : World) (hL : LaidX B w) (hB : B ≤ w.heap.size) (hr : Rd w w.heap.size 1 A l.length (l.map B8)) (hc : l.length ≤ c) (hn : l.length ≤ 100000000) (hl : ∀ z ∈ l, z < 256) {k : Nat} (h : opnR l = .error k) : Calls Tryz.prog 42 #[.slice A l.length c] w (qcj 82 w k []) := by
 have := qce A c l B w hL hB hr hc hn hl
 rwa [qdb h, qd0 h] at this
theorem qbk {w w' : World} {a b : List Nat} {k : Nat} {s : ByteArray} {r : Ending} (h : difE a b = k ∧ difN a b = s) (hr : r = .returned (.tuple #[.string s, .int .i64 (k : Int)])) (hb : Below w.heap.size w w') : Is w (.tuple #[.string (difN a b), .int .i64 (difE a b : Int)]) r w' := by
 obtain ⟨h1, h2⟩ := h
 rw [h1, h2]
 exact ⟨hr, hb⟩
theorem qff (A : Option Addr) (c : Nat) (la : List Nat) (D : Option Addr) (d : Nat) (lb : List Nat) (B : Nat) (w : World) (hL : LaidX B w) (hB : B ≤ w.heap.size) (hr1 : Rd w w.heap.size 1 A la.length (la.map B8)) (hc1 : la.length ≤ c) (hn1 : la.length ≤ 100000000) (hl1 : ∀ z ∈ la, z < 256) (hr2 : Rd w w.heap.size 1 D lb.length (lb.map B8)) (hc2 : lb.length ≤ d) (hn2 : lb.length ≤ 100000000) (hl2 : ∀ z ∈ lb, z < 256) :
    Calls Tryz.prog 44 #[.slice A la.length c, .slice D lb.length d] w (Is w (.tuple #[.string (difN la lb), .int .i64 (difE la lb : Int)])) := by
 refine s_ce Tryz.func44 [.slice A la.length c, .slice D lb.length d] [(0, .slice A la.length c), (1, .slice D lb.length d)] fun a HF => ?_
 have HM := Mem.start w
 refine s_fs1 ?_
 refine fp HF 2 0 [(5, vI 0), (4, .string (ByteArray.mk #[]))] fun a HF => ?_
 refine s_d0 (wp_seq ?_)
 rcases hoa : opnR la with k | p
 ·
  have hke := qb8 hoa
  refine qa ?_
  refine fp HF 1 0 [(11, .slice A la.length c)] fun a HF => ?_
  refine fo HF 1 rfl rfl ?_
  refine s_ek HF HM [.slice A la.length c] (qfe A c la B _ (hL.mem HM hB) (HM.le hB) (HM.old hr1) hc1 hn1 hl1 hoa) fun X12 c12 w12 hc12 HM a HF => ?_
  refine fp HF 5 2 [(7, vI k), (6, .slice X12 (([] : List Sec).length) c12)] fun a HF => ?_
  refine s_d0 (wp_seq (s_fs1 ?_))
  refine fp HF 2 0 [(16, .bool ((k : Int) != (0 : Int)))] fun a HF => ?_
  refine s_d0 ?_
  rcases HF.tf 16 rfl with ⟨hb16, HF⟩ | ⟨hb16, HF⟩
  ·
   have hd16 := bne_iff_ne.1 hb16
   refine s_ct HF (s_fs1 ?_)
   refine fp HF 3 0 [(5, vI k), (4, .string (ByteArray.mk #[]))] fun a HF => ?_
   refine s_d0 (wp_ret ?_)
   exact s_rt2 rfl HF rfl rfl (qbk (qsi hoa) rfl HM.below)
  have hd16 := bne_eq_false_iff_eq.1 hb16
  exfalso; omega
 ·
  have hsa := qd4 p
  refine qa ?_
  refine fp HF 1 0 [(11, .slice A la.length c)] fun a HF => ?_
  refine fo HF 1 rfl rfl ?_
  refine s_ek HF HM [.slice A la.length c] (qfd A c la B _ (hL.mem HM hB) (HM.le hB) (HM.old hr1) hc1 hn1 hl1 hoa) fun X12 c12 w12 hc12 HM a HF => ?_
  refine fp HF 5 2 [(7, vI 0), (6, .slice X12 p.secs.length c12)] fun a HF => ?_
  refine s_d0 (wp_seq (s_fs1 ?_))
  refine fp HF 2 0 [(16, .bool false)] fun a HF => ?_
  refine s_d0 (s_cf HF (wp_skip (wp_seq ?_)))
  rcases hob : opnR lb with k | q
  ·
   have hke := qb8 hob
   refine qa ?_
   refine fp HF 1 0 [(19, .slice D lb.length d)] fun a HF => ?_
   refine fo HF 1 rfl rfl ?_
   refine s_ek HF HM [.slice D lb.length d] (qfe D d lb B _ (hL.mem HM hB) (HM.le hB) (HM.old hr2) hc2 hn2 hl2 hob) fun X20 c20 w20 hc20 HM a HF => ?_
   refine fp HF 5 2 [(7, vI k), (8, .slice X20 (([] : List Sec).length) c20)] fun a HF => ?_
   refine s_d0 (wp_seq (s_fs1 ?_))
   refine fp HF 2 0 [(24, .bool ((k : Int) != (0 : Int)))] fun a HF => ?_
   refine s_d0 ?_
   rcases HF.tf 24 rfl with ⟨hb24, HF⟩ | ⟨hb24, HF⟩
   ·
    have hd24 := bne_iff_ne.1 hb24
    refine s_ct HF (s_fs1 ?_)
    refine fp HF 3 0 [(5, vI k), (4, .string (ByteArray.mk #[]))] fun a HF => ?_
    refine s_d0 (wp_ret ?_)
    exact s_rt2 rfl HF rfl rfl (qbk (qsj hoa hob) rfl HM.below)
   have hd24 := bne_eq_false_iff_eq.1 hb24
   exfalso; omega
  ·
   have hsb := qd4 q
   refine qa ?_
   refine fp HF 1 0 [(19, .slice D lb.length d)] fun a HF => ?_
   refine fo HF 1 rfl rfl ?_
   refine s_ek HF HM [.slice D lb.length d] (qfd D d lb B _ (hL.mem HM hB) (HM.le hB) (HM.old hr2) hc2 hn2 hl2 hob) fun X20 c20 w20 hc20 HM a HF => ?_
   refine fp HF 5 2 [(7, vI 0), (8, .slice X20 q.secs.length c20)] fun a HF => ?_
   refine s_d0 (wp_seq (s_fs1 ?_))
   refine fp HF 2 0 [(24, .bool false)] fun a HF => ?_
   refine s_d0 (s_cf HF (wp_skip (wp_seq (s_fs1 ?_))))
   refine fp HF 1 0 [(26, .slice X12 p.secs.length c12)] fun a HF => ?_
   refine s_fl HF 1 fun a HF => ?_
   refine fp HF 1 2 [(28, vI 0)] fun a HF => ?_
   refine s_d0 (wp_block ?_)
   refine qi (fun mS aS wS => ∃ (i : Nat), (i ≤ 9) ∧ (difE la lb = 0 ∧ difN la lb = difF la lb p.secs q.secs (9 - i) i) ∧ mS = 9 - i ∧ Fr aS 63 [] [(28, vI i), (27, vI p.secs.length), (24, .bool false), (7, vI 0), (8, .slice X20 q.secs.length c20), (16, .bool false), (6, .slice X12 p.secs.length c12), (5, vI 0), (4, .string (ByteArray.mk #[])), (0, .slice A la.length c), (1, .slice D lb.length d)] ∧ Mem w wS [.row (.slice X20 q.secs.length c20) q.secs.length (q.secs.flatMap secL) 82 3, .row (.slice X12 p.secs.length c12) p.secs.length (p.secs.flatMap secL) 82 3]) (m := 9 - 0) ⟨0, Nat.zero_le _, qxo hoa hob, rfl, HF.sub (by kernel_rfl), HM.pk [0, 1]⟩ ?_
   clear HF HM; rintro mS a w_ ⟨i, hi, hd, rfl, HF, HM⟩
   refine s_fs1 ?_
   refine fp HF 1 0 [(29, .bool (decide ((i : Int) < (p.secs.length : Int))))] fun a HF => ?_
   refine s_d0 (wp_seq ?_)
   rcases HF.tf 29 rfl with ⟨hb29, HF⟩ | ⟨hb29, HF⟩
   ·
    have hd29 := of_decide_eq_true hb29
    have ha1 := qnp hl1 hoa (i := i) (by omega)
    have hb1 := qnp hl2 hob (i := i) (by omega)
    refine s_ct HF (wp_skip (wp_seq (wp_block (s_fs1 ?_))))
    refine fp HF 2 0 [(9, vI i)] fun a HF => ?_
    refine s_d0 (wp_seq ?_)
    refine za HM [.row (.slice X20 q.secs.length c20) q.secs.length (q.secs.flatMap secL) 82 3, .row (.slice X12 p.secs.length c12) p.secs.length (p.secs.flatMap secL) 82 3] [0, 1] [] fun HM HS => ?_
    refine ap HF (fun _ => HS) [0, 1, 2, 6, 7, 12, 13, 14, 18, 19] (bf 26 [0, 1, 2, 6, 7, 12, 13, 14, 18, 19]) [(50, vI i), (49, .slice X20 q.secs.length c20), (45, vI i), (44, .slice X20 q.secs.length c20), (43, .slice D lb.length d), (38, vI i), (37, .slice X12 p.secs.length c12), (33, vI i), (32, .slice X12 p.secs.length c12), (31, .slice A la.length c)] fun a HF => ?_
    obtain ⟨gX12, rfl⟩ := q8 (HM.own (i := 1) rfl) (Nat.lt_of_le_of_lt (Nat.zero_le _) (show i < p.secs.length from by omega))
    refine s_az HF HS 3 rfl (v := vP gX12 (i * 3)) (Yl.ix0 gX12 i 3 rfl rfl rfl) fun a HF => ?_
    refine ap HF (fun _ => HS) [4] (bf 26 [0, 1, 2, 3, 4, 6, 7, 12, 13, 14, 18, 19]) [(35, vP gX12 (i * 3 + 1))] fun a HF => ?_
    refine s_az HF HS 5 rfl (v := vI ((p.secs.getD i Sec.zero).fr)) (Yl.qd rfl rfl (by kernel_rfl) (fun _ h => h.qbe zy (i := 1) rfl (k := i) (off := 1) (x := (p.secs.getD i Sec.zero)) ((getD_at Sec.zero (k := i) (by first | omega | (simp; omega)))) rfl)) fun a HF => ?_
    refine s_az HF HS 8 rfl (v := vP gX12 (i * 3)) (Yl.ix0 gX12 i 3 rfl rfl rfl) fun a HF => ?_
    refine ap HF (fun _ => HS) [9] (bt 26 [10, 11, 15, 16, 17, 20, 21, 22, 23, 24, 25]) [(40, vP gX12 (i * 3 + 2))] fun a HF => ?_
    refine s_az HF HS 10 rfl (v := vI ((p.secs.getD i Sec.zero).to)) (Yl.qd rfl rfl (by kernel_rfl) (fun _ h => h.qbe zy (i := 1) rfl (k := i) (off := 2) (x := (p.secs.getD i Sec.zero)) ((getD_at Sec.zero (k := i) (by first | omega | (simp; omega)))) rfl)) fun a HF => ?_
    refine s_az HF HS 11 rfl (v := .slice (if c = (p.secs.getD i Sec.zero).fr then A else A.map (·.add (((p.secs.getD i Sec.zero).fr) * 1))) (((p.secs.getD i Sec.zero).to) - ((p.secs.getD i Sec.zero).fr)) (c - ((p.secs.getD i Sec.zero).fr))) (Yl.qic ei_u8 (i := (p.secs.getD i Sec.zero).fr) (j := (p.secs.getD i Sec.zero).to) rfl rfl rfl rfl (by omega) (by omega)) fun a HF => ?_
    obtain ⟨gX20, rfl⟩ := q8 (HM.own (i := 0) rfl) (Nat.lt_of_le_of_lt (Nat.zero_le _) (show i < q.secs.length from by omega))
    refine s_az HF HS 15 rfl (v := vP gX20 (i * 3)) (Yl.ix0 gX20 i 3 rfl rfl rfl) fun a HF => ?_
    refine ap HF (fun _ => HS) [16] (bt 26 [17, 20, 21, 22, 23, 24, 25]) [(47, vP gX20 (i * 3 + 1))] fun a HF => ?_
    refine s_az HF HS 17 rfl (v := vI ((q.secs.getD i Sec.zero).fr)) (Yl.qd rfl rfl (by kernel_rfl) (fun _ h => h.qbe zy (i := 0) rfl (k := i) (off := 1) (x := (q.secs.getD i Sec.zero)) ((getD_at Sec.zero (k := i) (by first | omega | (simp; omega)))) rfl)) fun a HF => ?_
    refine s_az HF HS 20 rfl (v := vP gX20 (i * 3)) (Yl.ix0 gX20 i 3 rfl rfl rfl) fun a HF => ?_
    refine ap HF (fun _ => HS) [21] (bt 26 [22, 23, 24, 25]) [(52, vP gX20 (i * 3 + 2))] fun a HF => ?_
    refine s_az HF HS 22 rfl (v := vI ((q.secs.getD i Sec.zero).to)) (Yl.qd rfl rfl (by kernel_rfl) (fun _ h => h.qbe zy (i := 0) rfl (k := i) (off := 2) (x := (q.secs.getD i Sec.zero)) ((getD_at Sec.zero (k := i) (by first | omega | (simp; omega)))) rfl)) fun a HF => ?_
    refine s_az HF HS 23 rfl (v := .slice (if d = (q.secs.getD i Sec.zero).fr then D else D.map (·.add (((q.secs.getD i Sec.zero).fr) * 1))) (((q.secs.getD i Sec.zero).to) - ((q.secs.getD i Sec.zero).fr)) (d - ((q.secs.getD i Sec.zero).fr))) (Yl.qic ei_u8 (i := (q.secs.getD i Sec.zero).fr) (j := (q.secs.getD i Sec.zero).to) rfl rfl rfl rfl (by omega) (by omega)) fun a HF => ?_
    refine qe [24] (by kernel_rfl) rfl ?_
    refine all_cons ?_ all_nil
    refine qf HF (i := 24) rfl rfl ?_
    refine e_is HF HM [.slice (if c = (p.secs.getD i Sec.zero).fr then A else A.map (·.add (((p.secs.getD i Sec.zero).fr) * 1))) (((p.secs.getD i Sec.zero).to) - ((p.secs.getD i Sec.zero).fr)) (c - ((p.secs.getD i Sec.zero).fr)), .slice (if d = (q.secs.getD i Sec.zero).fr then D else D.map (·.add (((q.secs.getD i Sec.zero).fr) * 1))) (((q.secs.getD i Sec.zero).to) - ((q.secs.getD i Sec.zero).fr)) (d - ((q.secs.getD i Sec.zero).fr))] (.bool (decide (cutB la (p.secs.getD i Sec.zero) = cutB lb (q.secs.getD i Sec.zero)))) rfl rfl (qpx _ _ _ (cutB la (p.secs.getD i Sec.zero)) _ _ _ (cutB lb (q.secs.getD i Sec.zero)) _ (qnr (HM.old hr1) ha1 hc1) (qnr (HM.old hr2) hb1 hc2) (qnq hl1 _) (qnq hl2 _)) fun w55 hbw HM a HF => ?_
    refine keepS (HM.pk [0, 1]) (fun HS => ?_)
    refine ap HF (fun _ => HS) [25] (bt 26 []) [(56, .bool (!(decide (cutB la (p.secs.getD i Sec.zero) = cutB lb (q.secs.getD i Sec.zero)))))] fun a HF => ?_
    refine qk (by kernel_rfl) ?_
    rcases HF.tf 56 rfl with ⟨hb56, HF⟩ | ⟨hb56, HF⟩
    ·
     have hd56 := of_decide_eq_false ((Bool.not_eq_true' _).mp hb56)
     refine s_ct HF (s_fs1 ?_)
     refine fp HF 2 0 [(58, vI i), (57, vS gX12 p.secs.length c12)] fun a HF => ?_
     refine s_fz HF HM 2 rfl (v := vP gX12 (i * 3)) (Yl.ix0 gX12 i 3 rfl rfl rfl) fun a HF => ?_
     refine fp HF 1 3 [(60, vP gX12 (i * 3))] fun a HF => ?_
     refine s_fz HF HM 4 rfl (v := .string (p.secs.getD i Sec.zero).nm) (Yl.qd rfl rfl (by kernel_rfl) (fun _ h => (by have := h.qbe zy (i := 1) rfl (k := i) (off := 0) (x := (p.secs.getD i Sec.zero)) ((getD_at Sec.zero (k := i) (by first | omega | (simp; omega)))) rfl; simpa using this))) fun a HF => ?_
     refine fp HF 2 5 [(5, vI 0), (4, .string (p.secs.getD i Sec.zero).nm)] fun a HF => ?_
     refine s_d0 (wp_ret ?_)
     exact s_rt2 rfl HF rfl rfl (qbk ⟨hd.1, hd.2.trans (qnt (by omega) (of_decide_eq_false (by simpa using hb56)))⟩ rfl HM.below)
    have hd56 := of_decide_eq_true ((Bool.not_eq_false' _).mp hb56)
    refine s_cf HF (wp_skip (qa ?_))
    refine fp HF 1 0 [(62, vI (IntKind.i64.wrap ((i : Int) + 1)))] fun a HF => ?_
    replace HF := HF.sp 62 (vI (i + 1 : Nat)) rfl (qc (by omega) (by omega))
    refine fp HF 1 1 [(28, vI (i + 1 : Nat))] fun a HF => ?_
    refine s_d0 ?_
    exact ⟨_, (by omega), i + 1, by omega, ⟨hd.1, hd.2.trans (qns (by omega) (of_decide_eq_true (by simpa using hb56)))⟩, rfl, HF.sub (by kernel_rfl), HM.pk [0, 1]⟩
   have hd29 := of_decide_eq_false hb29
   refine s_cf HF (wp_exit (s_fs1 ?_))
   refine fp HF 2 0 [(5, vI 0), (4, .string (ByteArray.mk #[]))] fun a HF => ?_
   refine s_d0 (wp_ret ?_)
   exact s_rt2 rfl HF rfl rfl (qbk ⟨hd.1, hd.2.trans (qsk (by omega))⟩ rfl HM.below)
def secE (E : List Nat) (j : Nat) : Sec := ⟨nmR j, if j = 0 then 0 else E.getD (j - 1) 0, E.getD j 0⟩
theorem qtn (p : Pr) : p.secs = mapR p.ends.length (secE p.ends) := rfl
theorem qia (p : Pr) : p.lists.flatten = p.nums := by simp [Pr.lists, Pr.nums]
theorem qoe {p : Pr} (h : p.Fit) : p.nums.length ≤ 600000 := by
 obtain ⟨h1, h2⟩ := qnk h
 have h3 := h.cp2
 have h4 := h.gp2
 have h5 := h.tk
 have h6 : 3 * p.cp * (p.gp - 1) ≤ 3 * 64 * 255 := Nat.mul_le_mul (by omega) (by omega)
 unfold Pr.oS Pr.oT Pr.oC at h1
 omega
def qxy (w : World) (l : List Nat) (r : Ending) (w' : World) : Prop :=
 ∃ (Q : List Nw) (E : List Nat) (A : Option Addr) (c : Nat) (EA : Option Addr) (ec : Nat), (Q.map Nw.l).flatten = pnums l ∧ psecs l = mapR E.length (secE E) ∧ (Q.map Nw.l).flatten.length ≤ 600000 ∧ E.length ≤ 9 ∧ Q.length ≤ 9 ∧ r = .returned (.tuple #[.slice A Q.length c, .slice EA E.length ec, .int .i64 (errR l : Int)]) ∧
  Mem w w' (.row (.slice A Q.length c) Q.length (Q.map Nw.val) 58 1 :: .row (.slice EA E.length ec) E.length (E.map I64v) 3 1 :: nwF 22 Q)
theorem qpw {w w' : World} {l : List Nat} {r : Ending} (hl : ∀ z ∈ l, z < 256) (h : qnz w l r w') : qxy w l r w' := by
 rcases h with ⟨k, hk, hr, hb⟩ | ⟨p, Q, A, c, EA, ec, hp, hQ, hqc, hc, hec, hr, hm⟩
 ·refine ⟨[], [], none, 0, none, 0, (qiu hk).symm, qd0 hk, Nat.zero_le _, Nat.zero_le _, Nat.zero_le _, by rw [qdb hk]; exact hr, ?_⟩
  have h0 : Mem w w' [] := ⟨hb, (fun f hf => by cases hf), List.Pairwise.nil⟩
  exact (h0.nil 3 1).nil 58 1
 ·have hQ9 : Q.length = 9 := by have := congrArg List.length hQ; simpa [Pr.lists] using this
  refine ⟨Q, p.ends, A, c, EA, ec, by rw [hQ, qia, qit hp], by rw [qdz hp, qtn], ?_, Nat.le_refl 9, by omega, by rw [qcn hp]; exact hr, hm⟩
  rw [hQ, qia]
  exact qoe (qde hl hp).2.2.1
theorem qto {q : List Nw} {k : Nat} (h : k < q.length) : ((q.map Nw.l).take (k + 1)).flatten = ((q.map Nw.l).take k).flatten ++ (q.getD k Nw.zero).l := by
 have h2 : k < (q.map Nw.l).length := by simpa using h
 rw [List.take_add_one, List.getElem?_eq_getElem h2, List.flatten_append, List.getD_eq_getElem?_getD, List.getElem?_eq_getElem h]
 simp
theorem qzu {l : List (List Nat)} {k : Nat} : ((l.take k).flatten).length ≤ l.flatten.length := by
 have h1 : l.flatten = (l.take k).flatten ++ (l.drop k).flatten := by rw [← List.flatten_append, List.take_append_drop]
 rw [h1, List.length_append]
 omega
theorem nine {Q : List Nw} {p : Pr} (h : Q.map Nw.l = p.lists) : ∃ A0 c0 A1 c1 A2 c2 A3 c3 A4 c4 A5 c5 A6 c6 A7 c7 A8 c8, Q = [⟨A0, c0, []⟩, ⟨A1, c1, [p.nx]⟩, ⟨A2, c2, [p.cp, p.cr, p.gp]⟩, ⟨A3, c3, p.gs⟩, ⟨A4, c4, p.cl⟩, ⟨A5, c5, p.cu⟩, ⟨A6, c6, p.tk :: p.ts⟩, ⟨A7, c7, p.sp⟩, ⟨A8, c8, []⟩] := by
 unfold Pr.lists at h
 match Q, h with
 | [⟨A0, c0, l0⟩, ⟨A1, c1, l1⟩, ⟨A2, c2, l2⟩, ⟨A3, c3, l3⟩, ⟨A4, c4, l4⟩, ⟨A5, c5, l5⟩, ⟨A6, c6, l6⟩, ⟨A7, c7, l7⟩, ⟨A8, c8, l8⟩], h =>
  simp only [List.map_cons, List.map_nil, List.cons.injEq, and_true] at h
  obtain ⟨rfl, rfl, rfl, rfl, rfl, rfl, rfl, rfl, rfl⟩ := h
  exact ⟨A0, c0, A1, c1, A2, c2, A3, c3, A4, c4, A5, c5, A6, c6, A7, c7, A8, c8, rfl⟩
def Pr.tnL (p : Pr) (k : Nat) : List Nat := [p.tn k 0, p.tn k 1, p.tn k 2, p.tn k 3, p.tn k 4, p.tn k 5, p.tn k 6, p.tn k 7]
theorem qtp {p : Pr} {w : World} {B c k : Nat} {A : Option Addr} (h : p.Fit) (hk : k < p.tk) (hr : Rd w B 1 A (p.ts.length + 1) ((p.tk :: p.ts).map U64)) (hc : p.ts.length + 1 ≤ c) : Rd w B 1 (if c = 1 + 8 * k then A else A.map (·.add ((1 + 8 * k) * 1))) 8 ((p.tnL k).map U64) := by
 have ht := h.ts
 have h1 := hr.mid (i := 1 + 8 * k) (j := 1 + 8 * k + 8) (c := c) (by omega) (by omega) hc
 simp only [Nat.mul_one] at h1 ⊢
 rw [Nat.add_sub_cancel_left, ← List.map_take, ← List.map_drop] at h1
 have e : ((p.tk :: p.ts).take (1 + 8 * k + 8)).drop (1 + 8 * k) = p.tnL k := by
  rw [show 1 + 8 * k + 8 = (8 * k + 8) + 1 by omega, show 1 + 8 * k = 8 * k + 1 by omega, List.take_succ_cons, List.drop_succ_cons, List.drop_take, show 8 * k + 8 - 8 * k = 8 by omega]
  exact ql4 p.ts 8 (8 * k) (by omega)
 rw [e] at h1
 exact h1
theorem qtz {l : List Nat} (hl : ∀ z ∈ l, z < 256) : (pnums l).length ≤ 600000 := by
 cases h : opnR l with
 | error k => rw [qiu h]; exact Nat.zero_le _
 | ok p => rw [qit h]; exact qoe (qde hl h).2.2.1
theorem qt0 (l : List Nat) : (psecs l).length ≤ 9 := by
 cases h : opnR l with
 | error k => rw [qd0 h]; exact Nat.zero_le _
 | ok p => rw [qdz h]; exact Nat.le_refl 9
theorem qol : StFew qcp.st := ⟨Nat.zero_le _, Nat.zero_le _, Nat.zero_le _, Nat.zero_le _, Nat.zero_le _, fun y hy => by cases hy⟩
theorem qz2 {l : List Nat} (hl : ∀ z ∈ l, z < 256) : StFew (rdS l).st := by
 cases h : opnR l with
 | error k => rw [(rd_no h).2]; exact qol
 | ok p =>
  by_cases h2 : p.okB = true ∧ chkS p.snA = 0
  ·rw [(qsh h h2).2]; exact qno (qde hl h).2.2.1 _ (.inl rfl)
  ·rw [(qfo h h2).2]; exact qol
section
variable {W w : World} {fs A B l m : List Fact} {x : Stm}
theorem Mem.stM (n : Nat) (h : Mem W w fs) (he : fs.drop n = A ++ (stF x ++ B)) : StRd w x := h.stOf fun _ hf => List.mem_of_mem_drop (he ▸ List.mem_append_right _ (List.mem_append_left _ hf))
theorem Mem.q0c (h : Mem W w (l ++ (A ++ m))) : Mem W w (A ++ l) := (h.subl ((List.sublist_append_left A m).append_left l)).perm List.perm_append_comm
end
theorem qom (s : ByteArray) : (!(s.toList == s.toList)) = false := by simp
def chX (i v : Nat) : List Nat := sealL (byA.set i v)
def fstX : List Nat := sealL byA
def moreX : List Nat := sealL (byA ++ [0])
def badX : List Nat := fstX.set 12 ((fstX.getD 12 0 + 1) % 256)
theorem qad : fstX.length = 15 := by kernel_rfl
theorem qby (i v : Nat) : (chX i v).length = 15 := by unfold chX; rw [qbj, List.length_set]; rfl
theorem qoo : moreX.length = 16 := by unfold moreX; rw [qbj]; rfl
theorem qop : ∀ z ∈ byA, z < 256 := by decide
theorem qlb : ∀ z ∈ fstX, z < 256 := qf9 qop
theorem qt3 {l : List Nat} {i v : Nat} (hl : ∀ z ∈ l, z < 256) (hv : v < 256) : ∀ z ∈ l.set i v, z < 256 := by
 intro z hz
 rcases List.mem_or_eq_of_mem_set hz with h | h
 ·exact hl z h
 ·omega
theorem ch_lt {i v : Nat} (hv : v < 256) : ∀ z ∈ chX i v, z < 256 := qf9 (qt3 qop hv)
theorem qz3 : ∀ z ∈ moreX, z < 256 := qf9 (by decide)
theorem q1r : ∀ z ∈ badX, z < 256 := qt3 qlb (Nat.mod_lt _ (by decide))
theorem qz4 : badX.length = 15 := by unfold badX; rw [List.length_set]; exact qad
theorem x_ok : rdE fstX = 0 := by kernel_rfl
theorem q1s : (rdS fstX).next = 1 := by kernel_rfl
theorem q1t : (rdS fstX).st.cpus = 1 := by kernel_rfl
theorem x_cl : (rdS fstX).st.cl.length = 1 := by kernel_rfl
theorem x_err : errR fstX = 0 := by kernel_rfl
theorem q1u : (pnums fstX).length = 8 := by kernel_rfl
theorem q1v : difE fstX (chX 3 2) = 0 := by kernel_rfl
theorem q1w : difN fstX (chX 3 2) = ⟨#[110, 101, 120, 116]⟩ := by kernel_rfl
theorem qz5 : rdE (fstX.take 14) = 340 := by kernel_rfl
theorem x_sum : rdE badX = 341 := by kernel_rfl
theorem x1 : rdE (chX 0 112) = 342 := by kernel_rfl
theorem x2 : rdE (chX 2 2) = 343 := by kernel_rfl
theorem x3 : rdE (chX 4 0) = 345 := by kernel_rfl
theorem x4 : rdE (chX 4 65) = 345 := by kernel_rfl
theorem x5 : rdE (chX 6 0) = 345 := by kernel_rfl
theorem x6 : rdE (chX 9 1) = 344 := by kernel_rfl
theorem x7 : rdE moreX = 346 := by kernel_rfl
theorem x8 : rdE (chX 3 0) = 347 := by kernel_rfl
theorem x9 : rdE (chX 8 5) = 347 := by kernel_rfl
theorem qz6 {i v : Nat} (hi : i < 11) : ((fstX.set i v).take 11) = byA.set i v := by
 unfold fstX sealL
 rw [List.set_append_left _ _ (show i < byA.length from hi), List.take_append_of_le_length (by rw [List.length_set]; exact Nat.le_refl 11), List.take_of_length_le (by rw [List.length_set]; exact Nat.le_refl 11)]
theorem qwp : fstX.take 11 = byA := by
 unfold fstX sealL
 rw [List.take_append_of_le_length (Nat.le_refl 11)]
 rfl
structure Xb where
 A : Option Addr
 n : Nat
 c : Nat
 l : List Nat
 e : Nat
def Xb.zero : Xb := ⟨none, 0, 0, [], 0⟩
def xbL (x : Xb) : List Value := [.slice x.A x.n x.c, .int .i64 (x.e : Int)]
def Xb.cells (x : Xb) : Array Value := #[.slice x.A x.n x.c, .int .i64 (x.e : Int)]
theorem qz7 (x : Xb) : (xbL x).length = 2 := rfl
theorem q1x (x : Xb) : ∀ v ∈ x.cells.toList, v.oneCell' = true := by simp [Xb.cells, Value.oneCell']
def Xb.own (x : Xb) : Own := ⟨x.A, x.n, x.c, x.l.map B8⟩
def xbF (t : TypeId) (q : List Xb) : List Fact := ownsF t 1 (q.map Xb.own)
def Xb.Ok (x : Xb) : Prop := x.l.length = x.n ∧ x.n ≤ x.c ∧ x.n ≤ 100 ∧ (∀ z ∈ x.l, z < 256) ∧ rdE x.l = x.e
theorem qz8 {t : TypeId} {q : List Xb} {x : Xb} (hq : x ∈ q) : Fact.row (.slice x.A x.n x.c) x.n (x.l.map B8) t 1 ∈ xbF t q := List.mem_map_of_mem (List.mem_map_of_mem hq)
theorem Mem.xbAt {W w : World} {fs : List Fact} {t : TypeId} {q : List Xb} (n : Nat) (h : Mem W w fs) (he : fs.drop n = xbF t q) {x : Xb} (hx : x ∈ q) : Rd w w.heap.size 1 x.A x.n (x.l.map B8) :=
 h.qlc (List.mem_of_mem_drop (he ▸ qz8 hx))
theorem si_xb : SI Tryz.prog 102 2 := ⟨by kernel_rfl, by kernel_rfl⟩
theorem ei_xb : EI Tryz.prog 103 102 (.agg Xb.zero.cells) 2 32 := ⟨by kernel_rfl, by kernel_rfl, rfl, by omega⟩
theorem qla (A : Option Addr) (c : Nat) (l : List Nat) (w : World) (hr : Rd w w.heap.size 1 A l.length (l.map B8)) (hc : l.length ≤ c) (hn : l.length ≤ 100000000) (hl : ∀ z ∈ l, z < 256) : Calls Tryz.prog 72 #[.slice A l.length c] w (qxy w l) := (qg0 A c l w hr hc hn hl).mono fun r w' h => qpw hl h
theorem qi9 (A : Option Addr) (c : Nat) (l : List Nat) (w : World) (hr : Rd w w.heap.size 1 A l.length (l.map B8)) (hc : l.length ≤ c) (hn : l.length ≤ 100000000) (hl : ∀ z ∈ l, z < 256) :
    Calls Tryz.prog 41 #[.slice A l.length c] w (qgm w (errR l) (pnums l)) := by
 refine s_ce Tryz.func41 [.slice A l.length c] [(0, .slice A l.length c)] fun a HF => ?_
 have HM := Mem.start w
 refine s_fs1 ?_
 refine fp HF 2 0 [(3, vI 0), (2, .slice none 0 0)] fun a HF => ?_
 refine s_d0 (s_fs1 ?_)
 refine fp HF 1 0 [(10, .slice A l.length c)] fun a HF => ?_
 refine fo HF 1 rfl rfl ?_
 refine e_cl HF [.slice A l.length c] rfl rfl (qla A c l _ (HM.old hr) hc hn hl) ?_
 rintro _ w11 ⟨Q, E, Aq, cq, Ae, ce, hQ, hE, hQf, hE9, hQ9, rfl, hm⟩
 refine ⟨_, rfl, ?_⟩
 replace HM := HM.joinT hm
 clear HF; intro a HF
 refine fp HF 7 2 [(6, vI (errR l)), (4, .slice Aq Q.length cq)] fun a HF => ?_
 refine s_d0 (s_fs1 ?_)
 refine fp HF 1 0 [(7, .slice none 0 0)] fun a HF => ?_
 refine s_d0 ?_
 replace HM := HM.nil 22 1
 replace HM : Mem w _ (.row (.slice none 0 0) 0 [] 22 1 :: .row (.slice Aq Q.length cq) Q.length (Q.map Nw.val) 58 1 :: .row (.slice Ae E.length ce) E.length (E.map I64v) 3 1 :: nwF 22 Q) := HM
 refine wp_seq (s_fs1 ?_)
 refine fp HF 1 0 [(8, vI 0)] fun a HF => ?_
 refine s_d0 (wp_block ?_)
 refine qi (fun mS aS wS => ∃ (i : Nat) (q : List Nat) (Ao : Option Addr) (co : Nat), (i ≤ Q.length) ∧ (q = ((Q.map Nw.l).take i).flatten) ∧ (q.length ≤ co) ∧ mS = Q.length - i ∧ Fr aS 29 [] [(8, vI i), (7, .slice Ao q.length co), (6, vI (errR l)), (4, .slice Aq Q.length cq), (3, vI 0), (2, .slice none 0 0)] ∧ Mem w wS (.row (.slice Ao q.length co) q.length (q.map U64) 22 1 :: .row (.slice Aq Q.length cq) Q.length (Q.map Nw.val) 58 1 :: .row (.slice Ae E.length ce) E.length (E.map I64v) 3 1 :: nwF 22 Q)) (m := Q.length - 0) ⟨0, [], none, 0, Nat.zero_le _, rfl, Nat.le_refl _, rfl, HF.sub (by kernel_rfl), HM.pt 3 [0, 1, 2]⟩ ?_
 clear HF HM; rintro mS a w_ ⟨i, q, Ao, co, hi, hq, hco, rfl, HF, HM⟩
 refine wp_seq (s_fs1 ?_)
 refine fp HF 2 0 [(16, .slice Aq Q.length cq), (15, vI i)] fun a HF => ?_
 refine s_fl HF 2 fun a HF => ?_
 refine fp HF 1 3 [(18, .bool (decide ((i : Int) < (Q.length : Int))))] fun a HF => ?_
 refine s_d0 ?_
 rcases HF.tf 18 rfl with ⟨hb18, HF⟩ | ⟨hb18, HF⟩
 ·
  have hd18 := of_decide_eq_true hb18
  have hi18 : i < Q.length := by omega
  obtain ⟨y, hy⟩ : ∃ y, Q.getD i Nw.zero = y := ⟨_, rfl⟩
  have hft := qto hi18
  rw [hy] at hft
  have hfl : (q ++ y.l).length ≤ 600000 := by rw [hq, ← hft]; exact Nat.le_trans qzu hQf
  rw [List.length_append] at hfl
  obtain ⟨gAq, rfl⟩ := q8 (HM.own (i := 1) rfl) (Nat.lt_of_le_of_lt (Nat.zero_le _) (show i < Q.length from hi18))
  refine s_ct HF (wp_skip (wp_seq (wp_block (qa ?_))))
  refine fp HF 3 0 [(23, vI i), (22, vS gAq Q.length cq), (21, .slice Ao q.length co)] fun a HF => ?_
  refine s_fz HF HM 3 rfl (v := vP gAq (i * 1)) (Yl.ix0 gAq i 1 rfl rfl rfl) fun a HF => ?_
  refine s_fz HF HM 4 rfl (v := .slice ((Q.getD i Nw.zero).A) ((Q.getD i Nw.zero).l.length) ((Q.getD i Nw.zero).c)) (Yl.r1 1 i Nw.zero (by omega) rfl rfl rfl) fun a HF => ?_
  replace HF := HF.sp 25 (.slice y.A y.l.length y.c) rfl (by rw [hy])
  refine fo HF 5 rfl rfl (qo HF HM (i := 0) rfl q2 rfl rfl rfl (news := (y.l.map U64)) (by have h1 := (HM.nwAt 3 rfl).at hi18; rw [hy] at h1; exact h1) (qab _) (by omega) (by omega) rfl (by decide) ?_)
  clear HF HM; intro a w26 A26 c26 HF HM hc26
  refine fp HF 1 6 [(7, .slice A26 (q.length + y.l.length) c26)] fun a HF => ?_
  refine s_d0 ?_
  have hnA26 : q.length + y.l.length = (q ++ y.l).length := qs rfl
  replace HM := HM.reRow (i := 0) (ys := (q ++ y.l).map U64) rfl hnA26 (List.map_append.symm)
  rw [hnA26] at hc26
  replace HF := HF.sp 7 (.slice A26 ((q ++ y.l).length) c26) rfl (by rw [hnA26])
  replace HF := HF.sp 26 (.slice A26 ((q ++ y.l).length) c26) rfl (by rw [hnA26])
  refine qa ?_
  refine fp HF 2 0 [(20, vI (IntKind.i64.wrap ((i : Int) + 1)))] fun a HF => ?_
  replace HF := HF.sp 20 (vI (i + 1 : Nat)) rfl (qc (by omega) (by omega))
  refine fp HF 1 2 [(8, vI (i + 1 : Nat))] fun a HF => ?_
  refine s_d0 ?_
  exact ⟨_, (by omega), i + 1, (q ++ y.l), A26, c26, by omega, by rw [hft, hq], hc26, rfl, HF.sub (by kernel_rfl), HM.pt 3 [0, 1, 2]⟩
 have hd18 := of_decide_eq_false hb18
 refine s_cf HF (wp_exit (s_fs1 ?_))
 refine fp HF 4 0 [(3, vI (errR l)), (2, .slice Ao q.length co)] fun a HF => ?_
 refine s_d0 (wp_ret ?_)
 exact s_rt2 rfl HF rfl rfl (qet rfl (by rw [hq, List.take_of_length_le (by rw [List.length_map]; omega)]; exact hQ) (HM.own (i := 0) rfl) hco HM.below)
theorem qbp (A : Option Addr) (c : Nat) (l : List Nat) (w : World) (hr : Rd w w.heap.size 1 A l.length (l.map B8)) (hc : l.length ≤ c) (hn : l.length ≤ 100000000) (hl : ∀ z ∈ l, z < 256) :
    Calls Tryz.prog 43 #[.slice A l.length c] w (qcj 83 w (errR l) (psecs l)) := by
 refine s_ce Tryz.func43 [.slice A l.length c] [(0, .slice A l.length c)] fun a HF => ?_
 have HM := Mem.start w
 refine s_fs1 ?_
 refine fp HF 2 0 [(3, vI 0), (2, .slice none 0 0)] fun a HF => ?_
 refine s_d0 (s_fs1 ?_)
 refine fp HF 1 0 [(11, .slice A l.length c)] fun a HF => ?_
 refine fo HF 1 rfl rfl ?_
 refine e_cl HF [.slice A l.length c] rfl rfl (qla A c l _ (HM.old hr) hc hn hl) ?_
 rintro _ w12 ⟨Q, E, Aq, cq, Ae, ce, hQ, hE, hQf, hE9, hQ9, rfl, hm⟩
 refine ⟨_, rfl, ?_⟩
 replace HM := HM.joinT hm
 clear HF; intro a HF
 refine fp HF 7 2 [(6, vI (errR l)), (5, .slice Ae E.length ce)] fun a HF => ?_
 refine s_d0 (s_fs1 ?_)
 refine fp HF 1 0 [(7, .slice none 0 0)] fun a HF => ?_
 refine s_d0 ?_
 replace HM := HM.nil 83 3
 replace HM : Mem w _ (.row (.slice none 0 0) 0 [] 83 3 :: .row (.slice Aq Q.length cq) Q.length (Q.map Nw.val) 58 1 :: .row (.slice Ae E.length ce) E.length (E.map I64v) 3 1 :: nwF 22 Q) := HM
 refine s_fs1 ?_
 refine fp HF 1 0 [(8, vI 0)] fun a HF => ?_
 refine s_d0 (wp_seq (s_fs1 ?_))
 refine fp HF 1 0 [(9, vI 0)] fun a HF => ?_
 refine s_d0 (wp_block ?_)
 refine qi (fun mS aS wS => ∃ (i : Nat) (fr : Nat) (q : List Sec) (Ao : Option Addr) (co : Nat), (i ≤ E.length) ∧ (fr = if i = 0 then 0 else E.getD (i - 1) 0) ∧ (q = mapR i (secE E)) ∧ (q.length = i) ∧ (q.length ≤ co) ∧ mS = E.length - i ∧ Fr aS 41 [] [(9, vI i), (8, vI fr), (7, .slice Ao q.length co), (6, vI (errR l)), (5, .slice Ae E.length ce), (3, vI 0), (2, .slice none 0 0)] ∧ Mem w wS (.row (.slice Ao q.length co) q.length (q.flatMap secL) 83 3 :: .row (.slice Aq Q.length cq) Q.length (Q.map Nw.val) 58 1 :: .row (.slice Ae E.length ce) E.length (E.map I64v) 3 1 :: nwF 22 Q)) (m := E.length - 0) ⟨0, 0, [], none, 0, Nat.zero_le _, rfl, rfl, rfl, Nat.le_refl _, rfl, HF.sub (by kernel_rfl), HM.pt 3 [0, 1, 2]⟩ ?_
 clear HF HM; rintro mS a w_ ⟨i, fr, q, Ao, co, hi, hfr, hq, hql, hco, rfl, HF, HM⟩
 refine wp_seq (s_fs1 ?_)
 refine fp HF 2 0 [(17, .slice Ae E.length ce), (16, vI i)] fun a HF => ?_
 refine s_fl HF 2 fun a HF => ?_
 refine fp HF 1 3 [(19, .bool (decide ((i : Int) < (E.length : Int))))] fun a HF => ?_
 refine s_d0 ?_
 rcases HF.tf 19 rfl with ⟨hb19, HF⟩ | ⟨hb19, HF⟩
 ·
  have hd19 := of_decide_eq_true hb19
  have hi19 : i < E.length := by omega
  obtain ⟨gAe, rfl⟩ := q8 (HM.own (i := 2) rfl) (Nat.lt_of_le_of_lt (Nat.zero_le _) (show i < E.length from hi19))
  refine s_ct HF (wp_skip (wp_seq (wp_block (wp_seq ?_))))
  refine zf HM (.row (.slice Aq Q.length cq) Q.length (Q.map Nw.val) 58 1 :: .row (vS gAe E.length ce) E.length (E.map I64v) 3 1 :: nwF 22 Q) 3 [1, 2] [] fun HM HS => ?_
  refine ap HF (fun _ => HS) [0, 2, 5, 6, 7] (bf 14 [0, 2, 5, 6, 7]) [(29, vI i), (28, vS gAe E.length ce), (27, vI fr), (24, vI i), (22, .slice Ao q.length co)] fun a HF => ?_
  refine s_az HF HS 8 rfl (v := vP gAe (i * 1)) (Yl.ix0 gAe i 1 rfl rfl rfl) fun a HF => ?_
  refine s_az HF HS 9 rfl (v := vI (E.getD i 0)) (Yl.r1 1 i 0 (by omega) rfl rfl rfl) fun a HF => ?_
  replace HF := HF.sp 31 (vI (E.getD i 0)) rfl (rfl)
  refine qe [1] (by kernel_rfl) rfl ?_
  refine all_cons ?_ all_nil
  refine qf HF (i := 1) rfl rfl ?_
  refine e_cl HF [] rfl rfl (qey _) ?_
  rintro _ w23 ⟨⟨g23, rfl, ho⟩, hbw⟩
  refine ⟨_, rfl, ?_⟩
  replace HM := HM.callRow hbw ho
  clear HF; intro a HF
  refine keepS (HM.pt 4 [2, 3]) (fun HS => ?_)
  refine s_az HF HS 3 rfl (v := vP g23 (i * 1)) (Yl.ix0 g23 i 1 rfl rfl rfl) fun a HF => ?_
  refine qe [4] (by kernel_rfl) rfl ?_
  refine all_cons ?_ all_nil
  refine qf HF (i := 4) rfl rfl ?_
  refine Yl.wp (S := fun wS => Mem w wS _) (v := .string (nmR i)) (Yl.r1 0 i [] (show i < nameL.length from by have : nameL.length = 9 := rfl; omega) rfl rfl rfl) HF HM rfl (by decide) fun a HF => ?_
  refine keepS HS (fun HS => ?_)
  refine s_az HF HS 10 rfl (v := .agg #[.string (nmR i), vI fr, vI (E.getD i 0)]) (Yl.build (vs := [(0, .string (nmR i)), (1, vI fr), (2, vI (E.getD i 0))]) rfl (by kernel_rfl) (by kernel_rfl)) fun a HF => ?_
  refine qe [11] (by kernel_rfl) rfl ?_
  refine all_cons ?_ all_nil
  refine qf HF (i := 11) rfl rfl ?_
  refine s_el HF HM qtw [(0, .agg #[.string (nmR i), vI fr, vI (E.getD i 0)])] #[.string (nmR i), vI fr, vI (E.getD i 0)] ?_
  clear HF HM; intro a w33 g33 HF HM
  refine keepS (HM.pt 5 [3, 4]) (fun HS => ?_)
  refine qe [12] (by kernel_rfl) rfl ?_
  refine all_cons ?_ all_nil
  refine qf HF (i := 12) rfl rfl ?_
  refine qo HF HM (i := 2) rfl qtw rfl rfl rfl (news := ([(⟨nmR i, fr, E.getD i 0⟩ : Sec)].flatMap secL)) (HM.rdBlk (i := 0) (n := 1) (size := 3) rfl rfl) (qly _) (by omega) (by omega) rfl (by decide) ?_
  clear HF HM; intro a w34 A34 c34 HF HM hc34
  refine keepS (HM.pt 5 [3, 4]) (fun HS => ?_)
  refine ap HF (fun _ => HS) [13] (bt 14 []) [(7, .slice A34 (q.length + 1) c34)] fun a HF => ?_
  refine qk (by kernel_rfl) ?_
  have hnA34 : q.length + 1 = (q ++ [(secE E i)]).length := qs rfl
  replace HM := HM.reRow (i := 2) (ys := (q ++ [(secE E i)]).flatMap secL) rfl hnA34 (by rw [List.flatMap_append]; unfold secE; rw [← hfr])
  rw [hnA34] at hc34
  replace HF := HF.sp 7 (.slice A34 ((q ++ [(secE E i)]).length) c34) rfl (by rw [hnA34])
  replace HF := HF.sp 34 (.slice A34 ((q ++ [(secE E i)]).length) c34) rfl (by rw [hnA34])
  refine qa ?_
  refine fp HF 2 0 [(36, vI i), (35, vS gAe E.length ce)] fun a HF => ?_
  refine s_fz HF HM 2 rfl (v := vP gAe (i * 1)) (Yl.ix0 gAe i 1 rfl rfl rfl) fun a HF => ?_
  refine s_fz HF HM 3 rfl (v := vI (E.getD i 0)) (Yl.r1 4 i 0 (by omega) rfl rfl rfl) fun a HF => ?_
  replace HF := HF.sp 38 (vI (E.getD i 0)) rfl (rfl)
  refine fp HF 1 4 [(8, vI (E.getD i 0))] fun a HF => ?_
  refine s_d0 (qa ?_)
  refine fp HF 2 0 [(21, vI (IntKind.i64.wrap ((i : Int) + 1)))] fun a HF => ?_
  replace HF := HF.sp 21 (vI (i + 1 : Nat)) rfl (qc (by omega) (by omega))
  refine fp HF 1 2 [(9, vI (i + 1 : Nat))] fun a HF => ?_
  refine s_d0 ?_
  exact ⟨_, (by omega), i + 1, E.getD i 0, (q ++ [(secE E i)]), A34, c34, by omega, by rw [if_neg (by omega), Nat.add_sub_cancel], by rw [hq, q1], by rw [List.length_append, hql]; rfl, hc34, rfl, HF.sub (by kernel_rfl), HM.pt 5 [2, 3, 4]⟩
 have hd19 := of_decide_eq_false hb19
 refine s_cf HF (wp_exit (s_fs1 ?_))
 refine fp HF 4 0 [(3, vI (errR l)), (2, .slice Ao q.length co)] fun a HF => ?_
 refine s_d0 (wp_ret ?_)
 exact s_rt2 rfl HF rfl rfl (qhv rfl (by rw [hE, hq, show i = E.length by omega]) (HM.own (i := 0) rfl) hco HM.below)
theorem qed (A : Option Addr) (c : Nat) (l : List Nat) (w : World) (hr : Rd w w.heap.size 1 A l.length (l.map B8)) (hc : l.length ≤ c) (hn : l.length ≤ 100000000) (hl : ∀ z ∈ l, z < 256) {p : Pr} (h : opnR l = .ok p) : Calls Tryz.prog 43 #[.slice A l.length c] w (qcj 83 w 0 p.secs) := by
 have := qbp A c l w hr hc hn hl
 rwa [qcn h, qdz h] at this
theorem qee (A : Option Addr) (c : Nat) (l : List Nat) (w : World) (hr : Rd w w.heap.size 1 A l.length (l.map B8)) (hc : l.length ≤ c) (hn : l.length ≤ 100000000) (hl : ∀ z ∈ l, z < 256) {k : Nat} (h : opnR l = .error k) : Calls Tryz.prog 43 #[.slice A l.length c] w (qcj 83 w k []) := by
 have := qbp A c l w hr hc hn hl
 rwa [qdb h, qd0 h] at this
theorem qja (A : Option Addr) (c : Nat) (la : List Nat) (D : Option Addr) (d : Nat) (lb : List Nat) (w : World) (hr1 : Rd w w.heap.size 1 A la.length (la.map B8)) (hc1 : la.length ≤ c) (hn1 : la.length ≤ 100000000) (hl1 : ∀ z ∈ la, z < 256) (hr2 : Rd w w.heap.size 1 D lb.length (lb.map B8)) (hc2 : lb.length ≤ d) (hn2 : lb.length ≤ 100000000) (hl2 : ∀ z ∈ lb, z < 256) :
    Calls Tryz.prog 45 #[.slice A la.length c, .slice D lb.length d] w (Is w (.tuple #[.string (difN la lb), .int .i64 (difE la lb : Int)])) := by
 refine s_ce Tryz.func45 [.slice A la.length c, .slice D lb.length d] [(0, .slice A la.length c), (1, .slice D lb.length d)] fun a HF => ?_
 have HM := Mem.start w
 refine s_fs1 ?_
 refine fp HF 2 0 [(5, vI 0), (4, .string (ByteArray.mk #[]))] fun a HF => ?_
 refine s_d0 (wp_seq ?_)
 rcases hoa : opnR la with k | p
 ·
  have hke := qb8 hoa
  refine qa ?_
  refine fp HF 1 0 [(11, .slice A la.length c)] fun a HF => ?_
  refine fo HF 1 rfl rfl ?_
  refine s_ek HF HM [.slice A la.length c] (qee A c la _ (HM.old hr1) hc1 hn1 hl1 hoa) fun X12 c12 w12 hc12 HM a HF => ?_
  refine fp HF 5 2 [(7, vI k), (6, .slice X12 (([] : List Sec).length) c12)] fun a HF => ?_
  refine s_d0 (wp_seq (s_fs1 ?_))
  refine fp HF 2 0 [(16, .bool ((k : Int) != (0 : Int)))] fun a HF => ?_
  refine s_d0 ?_
  rcases HF.tf 16 rfl with ⟨hb16, HF⟩ | ⟨hb16, HF⟩
  ·
   have hd16 := bne_iff_ne.1 hb16
   refine s_ct HF (s_fs1 ?_)
   refine fp HF 3 0 [(5, vI k), (4, .string (ByteArray.mk #[]))] fun a HF => ?_
   refine s_d0 (wp_ret ?_)
   exact s_rt2 rfl HF rfl rfl (qbk (qsi hoa) rfl HM.below)
  have hd16 := bne_eq_false_iff_eq.1 hb16
  exfalso; omega
 ·
  have hsa := qd4 p
  refine qa ?_
  refine fp HF 1 0 [(11, .slice A la.length c)] fun a HF => ?_
  refine fo HF 1 rfl rfl ?_
  refine s_ek HF HM [.slice A la.length c] (qed A c la _ (HM.old hr1) hc1 hn1 hl1 hoa) fun X12 c12 w12 hc12 HM a HF => ?_
  refine fp HF 5 2 [(7, vI 0), (6, .slice X12 p.secs.length c12)] fun a HF => ?_
  refine s_d0 (wp_seq (s_fs1 ?_))
  refine fp HF 2 0 [(16, .bool false)] fun a HF => ?_
  refine s_d0 (s_cf HF (wp_skip (wp_seq ?_)))
  rcases hob : opnR lb with k | q
  ·
   have hke := qb8 hob
   refine qa ?_
   refine fp HF 1 0 [(19, .slice D lb.length d)] fun a HF => ?_
   refine fo HF 1 rfl rfl ?_
   refine s_ek HF HM [.slice D lb.length d] (qee D d lb _ (HM.old hr2) hc2 hn2 hl2 hob) fun X20 c20 w20 hc20 HM a HF => ?_
   refine fp HF 5 2 [(7, vI k), (8, .slice X20 (([] : List Sec).length) c20)] fun a HF => ?_
   refine s_d0 (wp_seq (s_fs1 ?_))
   refine fp HF 2 0 [(24, .bool ((k : Int) != (0 : Int)))] fun a HF => ?_
   refine s_d0 ?_
   rcases HF.tf 24 rfl with ⟨hb24, HF⟩ | ⟨hb24, HF⟩
   ·
    have hd24 := bne_iff_ne.1 hb24
    refine s_ct HF (s_fs1 ?_)
    refine fp HF 3 0 [(5, vI k), (4, .string (ByteArray.mk #[]))] fun a HF => ?_
    refine s_d0 (wp_ret ?_)
    exact s_rt2 rfl HF rfl rfl (qbk (qsj hoa hob) rfl HM.below)
   have hd24 := bne_eq_false_iff_eq.1 hb24
   exfalso; omega
  ·
   have hsb := qd4 q
   refine qa ?_
   refine fp HF 1 0 [(19, .slice D lb.length d)] fun a HF => ?_
   refine fo HF 1 rfl rfl ?_
   refine s_ek HF HM [.slice D lb.length d] (qed D d lb _ (HM.old hr2) hc2 hn2 hl2 hob) fun X20 c20 w20 hc20 HM a HF => ?_
   refine fp HF 5 2 [(7, vI 0), (8, .slice X20 q.secs.length c20)] fun a HF => ?_
   refine s_d0 (wp_seq (s_fs1 ?_))
   refine fp HF 2 0 [(24, .bool false)] fun a HF => ?_
   refine s_d0 (s_cf HF (wp_skip (wp_seq (s_fs1 ?_))))
   refine fp HF 1 0 [(9, vI 0)] fun a HF => ?_
   refine s_d0 (wp_block ?_)
   refine qi (fun mS aS wS => ∃ (i : Nat), (i ≤ 9) ∧ (difE la lb = 0 ∧ difN la lb = difF la lb p.secs q.secs (9 - i) i) ∧ mS = 9 - i ∧ Fr aS 64 [] [(9, vI i), (24, .bool false), (7, vI 0), (8, .slice X20 q.secs.length c20), (16, .bool false), (6, .slice X12 p.secs.length c12), (5, vI 0), (4, .string (ByteArray.mk #[])), (0, .slice A la.length c), (1, .slice D lb.length d)] ∧ Mem w wS [.row (.slice X20 q.secs.length c20) q.secs.length (q.secs.flatMap secL) 83 3, .row (.slice X12 p.secs.length c12) p.secs.length (p.secs.flatMap secL) 83 3]) (m := 9 - 0) ⟨0, Nat.zero_le _, qxo hoa hob, rfl, HF.sub (by kernel_rfl), HM.pk [0, 1]⟩ ?_
   clear HF HM; rintro mS a w_ ⟨i, hi, hd, rfl, HF, HM⟩
   refine wp_seq (s_fs1 ?_)
   refine fp HF 2 0 [(27, .slice X12 p.secs.length c12), (26, vI i)] fun a HF => ?_
   refine s_fl HF 2 fun a HF => ?_
   refine fp HF 1 3 [(29, .bool (decide ((i : Int) < (p.secs.length : Int))))] fun a HF => ?_
   refine s_d0 ?_
   rcases HF.tf 29 rfl with ⟨hb29, HF⟩ | ⟨hb29, HF⟩
   ·
    have hd29 := of_decide_eq_true hb29
    have ha1 := qnp hl1 hoa (i := i) (by omega)
    have hb1 := qnp hl2 hob (i := i) (by omega)
    refine s_ct HF (wp_skip (wp_seq (wp_block (wp_seq ?_))))
    refine za HM [.row (.slice X20 q.secs.length c20) q.secs.length (q.secs.flatMap secL) 83 3, .row (.slice X12 p.secs.length c12) p.secs.length (p.secs.flatMap secL) 83 3] [0, 1] [] fun HM HS => ?_
    refine ap HF (fun _ => HS) [0, 1, 2, 6, 7, 13, 14, 15, 19, 20] (bf 27 [0, 1, 2, 6, 7, 13, 14, 15, 19, 20]) [(52, vI i), (51, .slice X20 q.secs.length c20), (47, vI i), (46, .slice X20 q.secs.length c20), (45, .slice D lb.length d), (39, vI i), (38, .slice X12 p.secs.length c12), (34, vI i), (33, .slice X12 p.secs.length c12), (32, .slice A la.length c)] fun a HF => ?_
    obtain ⟨gX12, rfl⟩ := q8 (HM.own (i := 1) rfl) (Nat.lt_of_le_of_lt (Nat.zero_le _) (show i < p.secs.length from by omega))
    refine s_az HF HS 3 rfl (v := vP gX12 (i * 3)) (Yl.ix0 gX12 i 3 rfl rfl rfl) fun a HF => ?_
    refine ap HF (fun _ => HS) [4] (bf 27 [0, 1, 2, 3, 4, 6, 7, 13, 14, 15, 19, 20]) [(36, vP gX12 (i * 3 + 1))] fun a HF => ?_
    refine s_az HF HS 5 rfl (v := vI ((p.secs.getD i Sec.zero).fr)) (Yl.qd rfl rfl (by kernel_rfl) (fun _ h => h.qbe zy (i := 1) rfl (k := i) (off := 1) (x := (p.secs.getD i Sec.zero)) ((getD_at Sec.zero (k := i) (by first | omega | (simp; omega)))) rfl)) fun a HF => ?_
    refine s_az HF HS 8 rfl (v := vP gX12 (i * 3)) (Yl.ix0 gX12 i 3 rfl rfl rfl) fun a HF => ?_
    refine ap HF (fun _ => HS) [9] (bt 27 [10, 11, 12, 16, 17, 18, 21, 22, 23, 24, 25, 26]) [(41, vP gX12 (i * 3 + 2))] fun a HF => ?_
    refine s_az HF HS 10 rfl (v := vI ((p.secs.getD i Sec.zero).to)) (Yl.qd rfl rfl (by kernel_rfl) (fun _ h => h.qbe zy (i := 1) rfl (k := i) (off := 2) (x := (p.secs.getD i Sec.zero)) ((getD_at Sec.zero (k := i) (by first | omega | (simp; omega)))) rfl)) fun a HF => ?_
    refine s_az HF HS 11 rfl (v := .slice (if c = (p.secs.getD i Sec.zero).fr then A else A.map (·.add (((p.secs.getD i Sec.zero).fr) * 1))) (((p.secs.getD i Sec.zero).to) - ((p.secs.getD i Sec.zero).fr)) (c - ((p.secs.getD i Sec.zero).fr))) (Yl.qic ei_u8 (i := (p.secs.getD i Sec.zero).fr) (j := (p.secs.getD i Sec.zero).to) rfl rfl rfl rfl (by omega) (by omega)) fun a HF => ?_
    refine s_az HF HS 12 rfl (v := .string (bstr (cutB la (p.secs.getD i Sec.zero)))) (Yl.str rfl rfl (fun _ h => qnr (h.old hr1) ha1 hc1)) fun a HF => ?_
    obtain ⟨gX20, rfl⟩ := q8 (HM.own (i := 0) rfl) (Nat.lt_of_le_of_lt (Nat.zero_le _) (show i < q.secs.length from by omega))
    refine s_az HF HS 16 rfl (v := vP gX20 (i * 3)) (Yl.ix0 gX20 i 3 rfl rfl rfl) fun a HF => ?_
    refine ap HF (fun _ => HS) [17] (bt 27 [18, 21, 22, 23, 24, 25, 26]) [(49, vP gX20 (i * 3 + 1))] fun a HF => ?_
    refine s_az HF HS 18 rfl (v := vI ((q.secs.getD i Sec.zero).fr)) (Yl.qd rfl rfl (by kernel_rfl) (fun _ h => h.qbe zy (i := 0) rfl (k := i) (off := 1) (x := (q.secs.getD i Sec.zero)) ((getD_at Sec.zero (k := i) (by first | omega | (simp; omega)))) rfl)) fun a HF => ?_
    refine s_az HF HS 21 rfl (v := vP gX20 (i * 3)) (Yl.ix0 gX20 i 3 rfl rfl rfl) fun a HF => ?_
    refine ap HF (fun _ => HS) [22] (bt 27 [23, 24, 25, 26]) [(54, vP gX20 (i * 3 + 2))] fun a HF => ?_
    refine s_az HF HS 23 rfl (v := vI ((q.secs.getD i Sec.zero).to)) (Yl.qd rfl rfl (by kernel_rfl) (fun _ h => h.qbe zy (i := 0) rfl (k := i) (off := 2) (x := (q.secs.getD i Sec.zero)) ((getD_at Sec.zero (k := i) (by first | omega | (simp; omega)))) rfl)) fun a HF => ?_
    refine s_az HF HS 24 rfl (v := .slice (if d = (q.secs.getD i Sec.zero).fr then D else D.map (·.add (((q.secs.getD i Sec.zero).fr) * 1))) (((q.secs.getD i Sec.zero).to) - ((q.secs.getD i Sec.zero).fr)) (d - ((q.secs.getD i Sec.zero).fr))) (Yl.qic ei_u8 (i := (q.secs.getD i Sec.zero).fr) (j := (q.secs.getD i Sec.zero).to) rfl rfl rfl rfl (by omega) (by omega)) fun a HF => ?_
    refine s_az HF HS 25 rfl (v := .string (bstr (cutB lb (q.secs.getD i Sec.zero)))) (Yl.str rfl rfl (fun _ h => qnr (h.old hr2) hb1 hc2)) fun a HF => ?_
    refine qh HF (fun _ => HS) (i := 26) rfl rfl (d := 58) rfl (by decide) (by kernel_rfl) (fun _ _ _ h => h) (v := .bool (!(((bstr (cutB la (p.secs.getD i Sec.zero)))).toList == ((bstr (cutB lb (q.secs.getD i Sec.zero)))).toList))) (fun _ => Yl.pure (by kernel_rfl)) fun a HF => ?_
    replace HF := HF.sp 58 (.bool (!decide (cutB la (p.secs.getD i Sec.zero) = cutB lb (q.secs.getD i Sec.zero)))) rfl (by rw [qga (qnq hl1 _) (qnq hl2 _)])
    refine qk (by kernel_rfl) ?_
    rcases HF.tf 58 rfl with ⟨hb58, HF⟩ | ⟨hb58, HF⟩
    ·
     refine s_ct HF (s_fs1 ?_)
     refine fp HF 2 0 [(60, vI i), (59, vS gX12 p.secs.length c12)] fun a HF => ?_
     refine s_fz HF HM 2 rfl (v := vP gX12 (i * 3)) (Yl.ix0 gX12 i 3 rfl rfl rfl) fun a HF => ?_
     refine fp HF 1 3 [(62, vP gX12 (i * 3))] fun a HF => ?_
     refine s_fz HF HM 4 rfl (v := .string (p.secs.getD i Sec.zero).nm) (Yl.qd rfl rfl (by kernel_rfl) (fun _ h => (by have := h.qbe zy (i := 1) rfl (k := i) (off := 0) (x := (p.secs.getD i Sec.zero)) ((getD_at Sec.zero (k := i) (by first | omega | (simp; omega)))) rfl; simpa using this))) fun a HF => ?_
     refine fp HF 2 5 [(5, vI 0), (4, .string (p.secs.getD i Sec.zero).nm)] fun a HF => ?_
     refine s_d0 (wp_ret ?_)
     exact s_rt2 rfl HF rfl rfl (qbk ⟨hd.1, hd.2.trans (qnt (by omega) (of_decide_eq_false (by simpa using hb58)))⟩ rfl HM.below)
    refine s_cf HF (wp_skip (qa ?_))
    refine fp HF 2 0 [(31, vI (IntKind.i64.wrap ((i : Int) + 1)))] fun a HF => ?_
    replace HF := HF.sp 31 (vI (i + 1 : Nat)) rfl (qc (by omega) (by omega))
    refine fp HF 1 2 [(9, vI (i + 1 : Nat))] fun a HF => ?_
    refine s_d0 ?_
    exact ⟨_, (by omega), i + 1, by omega, ⟨hd.1, hd.2.trans (qns (by omega) (of_decide_eq_true (by simpa using hb58)))⟩, rfl, HF.sub (by kernel_rfl), HM.pk [0, 1]⟩
   have hd29 := of_decide_eq_false hb29
   refine s_cf HF (wp_exit (s_fs1 ?_))
   refine fp HF 2 0 [(5, vI 0), (4, .string (ByteArray.mk #[]))] fun a HF => ?_
   refine s_d0 (wp_ret ?_)
   exact s_rt2 rfl HF rfl rfl (qbk ⟨hd.1, hd.2.trans (qsk (by omega))⟩ rfl HM.below)
theorem qz0 (x : Nat) : decide ((x : Int) > (0 : Int)) = decide (0 < x) := decide_eq_decide.2 (by omega)
theorem qtx (A : Option Addr) (c : Nat) (Y0 Y1 Y2 Y3 Y4 Y5 Y6 Y7 Y8 : Nw) (p : Pr) (h : p.Fit) (w : World) (hr : Rd w w.heap.size 1 A 9 (([Y0, Y1, Y2, Y3, Y4, Y5, Y6, Y7, Y8] : List Nw).map Nw.val)) (r1 : Rd w w.heap.size 1 Y1.A Y1.l.length (Y1.l.map U64)) (r2 : Rd w w.heap.size 1 Y2.A Y2.l.length (Y2.l.map U64)) (r3 : Rd w w.heap.size 1 Y3.A Y3.l.length (Y3.l.map U64)) (r4 : Rd w w.heap.size 1 Y4.A Y4.l.length (Y4.l.map U64)) (r5 : Rd w w.heap.size 1 Y5.A Y5.l.length (Y5.l.map U64)) (r6 : Rd w w.heap.size 1 Y6.A Y6.l.length (Y6.l.map U64)) (r7 : Rd w w.heap.size 1 Y7.A Y7.l.length (Y7.l.map U64)) (l1 : Y1.l = [p.nx]) (l2 : Y2.l = [p.cp, p.cr, p.gp]) (l3 : Y3.l = p.gs) (l4 : Y4.l = p.cl) (l5 : Y5.l = p.cu) (l6 : Y6.l = p.tk :: p.ts) (l7 : Y7.l = p.sp) (hc6 : Y6.l.length ≤ Y6.c) :
    Calls Tryz.prog 73 #[.slice A 9 c] w (qw7 w p.snB) := by
 have c1 := h.cp1; have c2 := h.cp2; have c3 := h.gp1; have c4 := h.gp2; have c5 := h.tk
 have q3 := h.gs; have q4 := h.cl; have q5 := h.cu; have q6 := h.ts; have q7 := h.sp
 have n1 : Y1.l.length = 1 := by rw [l1]; rfl
 have n2 : Y2.l.length = 3 := by rw [l2]; rfl
 have n3 : Y3.l.length = p.gs.length := by rw [l3]
 have n4 : Y4.l.length = p.cl.length := by rw [l4]
 have n5 : Y5.l.length = p.cu.length := by rw [l5]
 have n6 : Y6.l.length = p.ts.length + 1 := by rw [l6]; rfl
 have n7 : Y7.l.length = p.sp.length := by rw [l7]
 have r6b := r6; rw [l6] at r6b
 have hc6b : p.ts.length + 1 ≤ Y6.c := by omega
 have hm : 3 * p.cp * (p.gp - 1) ≤ 3 * 64 * 255 := Nat.mul_le_mul (by omega) (by omega)
 refine s_ce Tryz.func73 [.slice A 9 c] [(0, .slice A 9 c)] fun a HF => ?_
 have HM := Mem.start w
 refine s_fs1 ?_
 refine fo HF 0 rfl rfl (s_ea HF HM #[vI 0, vI 0, vQ 0, .slice none 0 0, .slice none 0 0, .slice none 0 0, .slice none 0 0, .slice none 0 0] ?_)
 clear HF HM; intro a w2 g2 HF HM
 refine s_d0 (s_fs1 ?_)
 refine fp HF 1 0 [(14, .slice A 9 c)] fun a HF => ?_
 obtain ⟨gA, oA, rfl, _⟩ := hr.qj (Nat.lt_of_le_of_lt (Nat.zero_le _) (show 1 < 9 from by decide)) (by decide)
 refine s_fz HF HM 1 rfl (v := vP gA (oA + 1)) (Yl.indexAddr (ad := ⟨gA, oA, none⟩) (y := 1) (sz := 1) rfl rfl rfl (by decide) (by kernel_rfl)) fun a HF => ?_
 refine s_fz HF HM 2 rfl (v := .slice Y1.A Y1.l.length Y1.c) (Yl.qd rfl rfl (by kernel_rfl) (fun _ h => (h.old hr).zn (k := 1) (zk (F := Nw.val) (k := 1) (x := Y1) (rfl)))) fun a HF => ?_
 obtain ⟨gq1, oq1, hq1, _⟩ := Rd.qj r1 (Nat.lt_of_le_of_lt (Nat.zero_le _) (show 0 < Y1.l.length from by omega)) (by decide)
 have hrq1 := r1; rw [hq1] at hrq1
 replace HF := HF.sp 16 (.slice (some ⟨gq1, oq1, none⟩) Y1.l.length Y1.c) rfl (by rw [hq1]; try rfl)
 refine s_fz HF HM 3 rfl (v := vP gq1 oq1) (Yl.indexAddr (ad := ⟨gq1, oq1, none⟩) (y := 0) (sz := 1) rfl rfl rfl (by omega) (by kernel_rfl)) fun a HF => ?_
 refine s_fz HF HM 4 rfl (v := vQ (Y1.l.getD 0 0)) (Yl.o1 hrq1 0 0 (by omega) rfl rfl) fun a HF => ?_
 replace HF := HF.sp 18 (vQ p.nx) rfl (by rw [l1]; rfl)
 refine fp HF 1 5 [(19, vI (IntKind.i64.wrap (p.nx : Int)))] fun a HF => ?_
 replace HF := HF.sp 19 (vI (toI p.nx)) rfl (rfl)
 refine s_fz HF HM 6 rfl (v := .agg #[vI (toI p.nx), vI 0, vQ 0, .slice none 0 0, .slice none 0 0, .slice none 0 0, .slice none 0 0, .slice none 0 0]) (Yl.build (vs := [(0, vI (toI p.nx))]) rfl (by kernel_rfl) (by kernel_rfl)) fun a HF => ?_
 refine fo HF 7 rfl rfl (s_ea HF HM #[vI 0, vI 0, vQ 0, .slice none 0 0, .slice none 0 0, .slice none 0 0, .slice none 0 0, .slice none 0 0] ?_)
 clear HF HM; intro a w3 g3 HF HM
 refine fo HF 8 rfl rfl (e_sa HF HM 0 rfl rfl rfl rfl rfl zi rfl rfl (by simp [Value.oneCell']) ?_)
 clear HM; intro w1_8 HM
 refine s_d0 (wp_seq ?_)
 refine za HM [.blk g3 #[vI (toI p.nx), vI 0, vQ 0, .slice none 0 0, .slice none 0 0, .slice none 0 0, .slice none 0 0, .slice none 0 0] 56, .blk g2 #[vI 0, vI 0, vQ 0, .slice none 0 0, .slice none 0 0, .slice none 0 0, .slice none 0 0, .slice none 0 0] 56] [0, 1] [16] fun HM HS => ?_
 refine ap HF (fun _ => HS) [0, 6] (bf 17 [0, 6]) [(27, .slice (some ⟨gA, oA, none⟩) 9 c), (21, .slice (some ⟨gA, oA, none⟩) 9 c)] fun a HF => ?_
 refine s_az HF HS 1 rfl (v := vP gA (oA + 2)) (Yl.indexAddr (ad := ⟨gA, oA, none⟩) (y := 2) (sz := 1) rfl rfl rfl (by decide) (by kernel_rfl)) fun a HF => ?_
 refine s_az HF HS 2 rfl (v := .slice Y2.A Y2.l.length Y2.c) (Yl.qd rfl rfl (by kernel_rfl) (fun _ h => (h.old hr).zn (k := 2) (zk (F := Nw.val) (k := 2) (x := Y2) (rfl)))) fun a HF => ?_
 obtain ⟨gq7, oq7, hq7, _⟩ := Rd.qj r2 (Nat.lt_of_le_of_lt (Nat.zero_le _) (show 0 < Y2.l.length from by omega)) (by decide)
 have hrq7 := r2; rw [hq7] at hrq7
 replace HF := HF.sp 23 (.slice (some ⟨gq7, oq7, none⟩) Y2.l.length Y2.c) rfl (by rw [hq7]; try rfl)
 refine s_az HF HS 3 rfl (v := vP gq7 oq7) (Yl.indexAddr (ad := ⟨gq7, oq7, none⟩) (y := 0) (sz := 1) rfl rfl rfl (by omega) (by kernel_rfl)) fun a HF => ?_
 refine s_az HF HS 4 rfl (v := vQ (Y2.l.getD 0 0)) (Yl.o1 hrq7 0 0 (by omega) rfl rfl) fun a HF => ?_
 replace HF := HF.sp 25 (vQ p.cp) rfl (by rw [l2]; rfl)
 refine qh HF (fun _ => HS) (i := 5) rfl rfl (d := 26) rfl (by decide) (by kernel_rfl) (fun _ _ _ h => h) (v := vI (IntKind.i64.wrap (p.cp : Int))) (fun _ => Yl.pure (by kernel_rfl)) fun a HF => ?_
 replace HF := HF.sp 26 (vI p.cp) rfl (congrArg (Value.int .i64) (qix (by omega)))
 refine s_az HF HS 7 rfl (v := vP gA (oA + 2)) (Yl.indexAddr (ad := ⟨gA, oA, none⟩) (y := 2) (sz := 1) rfl rfl rfl (by decide) (by kernel_rfl)) fun a HF => ?_
 refine s_az HF HS 8 rfl (v := .slice Y2.A Y2.l.length Y2.c) (Yl.qd rfl rfl (by kernel_rfl) (fun _ h => (h.old hr).zn (k := 2) (zk (F := Nw.val) (k := 2) (x := Y2) (rfl)))) fun a HF => ?_
 replace HF := HF.sp 29 (.slice (some ⟨gq7, oq7, none⟩) Y2.l.length Y2.c) rfl (by rw [hq7]; try rfl)
 refine s_az HF HS 9 rfl (v := vP gq7 (oq7 + 1)) (Yl.indexAddr (ad := ⟨gq7, oq7, none⟩) (y := 1) (sz := 1) rfl rfl rfl (by omega) (by kernel_rfl)) fun a HF => ?_
 refine s_az HF HS 10 rfl (v := vQ (Y2.l.getD 1 0)) (Yl.o1 hrq7 1 0 (by omega) rfl rfl) fun a HF => ?_
 replace HF := HF.sp 31 (vQ p.cr) rfl (by rw [l2]; rfl)
 refine s_az HF HS 11 rfl (v := .agg #[vI 0, vI 1]) (Yl.build (vs := [(1, vI 1)]) rfl (by kernel_rfl) (by kernel_rfl)) fun a HF => ?_
 refine qe [12] (by kernel_rfl) rfl ?_
 refine all_cons ?_ all_nil
 refine qf HF (i := 12) rfl rfl ?_
 refine s_el HF HM ei_gr [(0, .agg #[vI 0, vI 1])] #[vI 0, vI 1] ?_
 clear HF HM; intro a w33 g33 HF HM
 refine keepS (HM.pk [1, 2]) (fun HS => ?_)
 refine s_az HF HS 13 rfl (v := .agg #[vI p.cp, vQ p.cr, vS g33 1 1]) (Yl.build (vs := [(0, vI p.cp), (1, vQ p.cr), (2, vS g33 1 1)]) rfl (by kernel_rfl) (by kernel_rfl)) fun a HF => ?_
 refine ap HF (fun _ => HS) [14, 15] (bt 17 [16]) [(36, vP g3 1)] fun a HF => ?_
 refine qe [16] (by kernel_rfl) rfl ?_
 refine all_cons ?_ all_nil
 refine qf HF (i := 16) rfl rfl ?_
 refine e_sp HF HM 1 (es := #[vI (toI p.nx), vI p.cp, vQ p.cr, vS g33 1 1, .slice none 0 0, .slice none 0 0, .slice none 0 0, .slice none 0 0]) rfl rfl rfl rfl rfl qa9 (Nat.le_of_ble_eq_true rfl) rfl (by simp [Value.oneCell']) rfl ?_
 clear HM; intro w2_16 HM
 refine noS (by kernel_rfl) ?_
 refine qk (by kernel_rfl) ?_
 replace HM := (HM.blkRow (i := 0) (n := 1) (size := 2) rfl rfl (by decide)).asRow (i := 0) (ys := ([⟨0, 1⟩] : List Gr).flatMap grL) rfl (rfl)
 replace HM := HM.reBlk (i := 1) (ds := #[vI (toI p.nx), vI p.cp, vQ p.cr, vS g33 (([⟨0, 1⟩] : List Gr).length) 1, .slice none 0 0, .slice none 0 0, .slice none 0 0, .slice none 0 0]) rfl (rfl)
 replace HM : Mem w _ [.row (vS g33 (([⟨0, 1⟩] : List Gr).length) 1) (([⟨0, 1⟩] : List Gr).length) (([⟨0, 1⟩] : List Gr).flatMap grL) 40 2, .blk g3 #[vI (toI p.nx), vI p.cp, vQ p.cr, vS g33 (([⟨0, 1⟩] : List Gr).length) 1, .slice none 0 0, .slice none 0 0, .slice none 0 0, .slice none 0 0] 56, .blk g2 #[vI 0, vI 0, vQ 0, .slice none 0 0, .slice none 0 0, .slice none 0 0, .slice none 0 0, .slice none 0 0] 56] := HM
 refine wp_seq (s_fs1 ?_)
 refine fp HF 1 0 [(4, vI 0)] fun a HF => ?_
 refine s_d0 (wp_block ?_)
 refine qi (fun mS aS wS => ∃ (j : Nat) (G : List Gr) (Ag : Option Addr) (cg : Nat), (j + 1 ≤ p.gp) ∧ (G = mapR (j + 1) p.grp) ∧ (G.length = j + 1) ∧ (G.length ≤ cg) ∧ mS = p.gp - j ∧ Fr aS 221 [] [(4, vI (2 * j : Nat)), (3, vP g3 0), (2, vP g2 0), (0, .slice (some ⟨gA, oA, none⟩) 9 c)] ∧ Mem w wS [.row (.slice Ag G.length cg) G.length (G.flatMap grL) 40 2, .blk g3 #[vI (toI p.nx), vI p.cp, vQ p.cr, .slice Ag G.length cg, .slice none 0 0, .slice none 0 0, .slice none 0 0, .slice none 0 0] 56, .blk g2 #[vI 0, vI 0, vQ 0, .slice none 0 0, .slice none 0 0, .slice none 0 0, .slice none 0 0, .slice none 0 0] 56]) (m := p.gp - 0) ⟨0, [⟨0, 1⟩], (some ⟨g33, 0, none⟩), 1, by omega, rfl, rfl, Nat.le_refl _, rfl, HF.sub (by kernel_rfl), HM.pk [0, 1, 2]⟩ ?_
 clear HF HM; rintro mS a w_ ⟨j, G, Ag, cg, hj, hG, hGl, hGc, rfl, HF, HM⟩
 refine wp_seq (s_fs1 ?_)
 refine fp HF 2 0 [(38, .slice (some ⟨gA, oA, none⟩) 9 c), (37, vI (2 * j : Nat))] fun a HF => ?_
 refine s_fz HF HM 2 rfl (v := vP gA (oA + 3)) (Yl.indexAddr (ad := ⟨gA, oA, none⟩) (y := 3) (sz := 1) rfl rfl rfl (by decide) (by kernel_rfl)) fun a HF => ?_
 refine s_fz HF HM 3 rfl (v := .slice Y3.A Y3.l.length Y3.c) (Yl.qd rfl rfl (by kernel_rfl) (fun _ h => (h.old hr).zn (k := 3) (zk (F := Nw.val) (k := 3) (x := Y3) (rfl)))) fun a HF => ?_
 refine s_fl HF 4 fun a HF => ?_
 refine fp HF 1 5 [(42, .bool (decide (((2 * j : Nat) : Int) < (Y3.l.length : Int))))] fun a HF => ?_
 refine s_d0 ?_
 rcases HF.tf 42 rfl with ⟨hb42, HF⟩ | ⟨hb42, HF⟩
 ·
  have hd42 := of_decide_eq_true hb42
  have hj2 : j + 1 < p.gp := by omega
  have hgr : p.grp (j + 1) = (⟨toI (p.gs.getD (2 * j) 0), toI (p.gs.getD (2 * j + 1) 0)⟩ : Gr) := if_neg (by omega)
  obtain ⟨gq8, oq8, hq8, _⟩ := Rd.qj r3 (Nat.lt_of_le_of_lt (Nat.zero_le _) (show 2 * j < Y3.l.length from (by omega : 2 * j < Y3.l.length))) (by decide)
  have hrq8 := r3; rw [hq8] at hrq8
  refine s_ct HF (wp_skip (wp_seq (wp_block ?_)))
  refine za HM [.blk g3 #[vI (toI p.nx), vI p.cp, vQ p.cr, .slice Ag G.length cg, .slice none 0 0, .slice none 0 0, .slice none 0 0, .slice none 0 0] 56, .blk g2 #[vI 0, vI 0, vQ 0, .slice none 0 0, .slice none 0 0, .slice none 0 0, .slice none 0 0, .slice none 0 0] 56] [1, 2] [25] fun HM HS => ?_
  refine ap HF (fun _ => HS) [0, 1, 2, 4, 7, 11, 14] (bf 26 [0, 1, 2, 4, 7, 11, 14]) [(59, vI (2 * j : Nat)), (56, .slice (some ⟨gA, oA, none⟩) 9 c), (52, vI (2 * j : Nat)), (49, .slice (some ⟨gA, oA, none⟩) 9 c), (47, vP g3 3)] fun a HF => ?_
  refine s_ac HF HS 3 0 fun a HF => ?_
  refine s_az HF HS 5 rfl (v := vP gA (oA + 3)) (Yl.indexAddr (ad := ⟨gA, oA, none⟩) (y := 3) (sz := 1) rfl rfl rfl (by decide) (by kernel_rfl)) fun a HF => ?_
  refine s_az HF HS 6 rfl (v := .slice Y3.A Y3.l.length Y3.c) (Yl.qd rfl rfl (by kernel_rfl) (fun _ h => (h.old hr).zn (k := 3) (zk (F := Nw.val) (k := 3) (x := Y3) (rfl)))) fun a HF => ?_
  replace HF := HF.sp 51 (.slice (some ⟨gq8, oq8, none⟩) Y3.l.length Y3.c) rfl (by rw [hq8]; try rfl)
  refine s_az HF HS 8 rfl (v := vP gq8 (oq8 + (2 * j) * 1)) (Yl.ix gq8 oq8 (2 * j) 1 rfl rfl rfl) fun a HF => ?_
  refine s_az HF HS 9 rfl (v := vQ (Y3.l.getD (2 * j) 0)) (Yl.o1 hrq8 (2 * j) 0 (by omega) rfl rfl) fun a HF => ?_
  replace HF := HF.sp 54 (vQ (p.gs.getD (2 * j) 0)) rfl (by rw [l3])
  refine qh HF (fun _ => HS) (i := 10) rfl rfl (d := 55) rfl (by decide) (by kernel_rfl) (fun _ _ _ h => h) (v := vI (IntKind.i64.wrap (p.gs.getD (2 * j) 0 : Int))) (fun _ => Yl.pure (by kernel_rfl)) fun a HF => ?_
  replace HF := HF.sp 55 (vI (toI (p.gs.getD (2 * j) 0))) rfl (rfl)
  refine s_az HF HS 12 rfl (v := vP gA (oA + 3)) (Yl.indexAddr (ad := ⟨gA, oA, none⟩) (y := 3) (sz := 1) rfl rfl rfl (by decide) (by kernel_rfl)) fun a HF => ?_
  refine s_az HF HS 13 rfl (v := .slice Y3.A Y3.l.length Y3.c) (Yl.qd rfl rfl (by kernel_rfl) (fun _ h => (h.old hr).zn (k := 3) (zk (F := Nw.val) (k := 3) (x := Y3) (rfl)))) fun a HF => ?_
  refine qh HF (fun _ => HS) (i := 15) rfl rfl (d := 60) rfl (by decide) (by kernel_rfl) (fun _ _ _ h => h) (v := vI (IntKind.i64.wrap (((2 * j : Nat) : Int) + 1))) (fun _ => Yl.pure (by kernel_rfl)) fun a HF => ?_
  replace HF := HF.sp 60 (vI (2 * j + 1 : Nat)) rfl (qc (by omega) (by omega))
  replace HF := HF.sp 58 (.slice (some ⟨gq8, oq8, none⟩) Y3.l.length Y3.c) rfl (by rw [hq8]; try rfl)
  refine s_az HF HS 16 rfl (v := vP gq8 (oq8 + (2 * j + 1) * 1)) (Yl.ix gq8 oq8 (2 * j + 1) 1 rfl rfl rfl) fun a HF => ?_
  refine s_az HF HS 17 rfl (v := vQ (Y3.l.getD (2 * j + 1) 0)) (Yl.o1 hrq8 (2 * j + 1) 0 (by omega) rfl rfl) fun a HF => ?_
  replace HF := HF.sp 62 (vQ (p.gs.getD (2 * j + 1) 0)) rfl (by rw [l3])
  refine qh HF (fun _ => HS) (i := 18) rfl rfl (d := 63) rfl (by decide) (by kernel_rfl) (fun _ _ _ h => h) (v := vI (IntKind.i64.wrap (p.gs.getD (2 * j + 1) 0 : Int))) (fun _ => Yl.pure (by kernel_rfl)) fun a HF => ?_
  replace HF := HF.sp 63 (vI (toI (p.gs.getD (2 * j + 1) 0))) rfl (rfl)
  refine s_az HF HS 19 rfl (v := .agg #[vI (toI (p.gs.getD (2 * j) 0)), vI (toI (p.gs.getD (2 * j + 1) 0))]) (Yl.build (vs := [(0, vI (toI (p.gs.getD (2 * j) 0))), (1, vI (toI (p.gs.getD (2 * j + 1) 0)))]) rfl (by kernel_rfl) (by kernel_rfl)) fun a HF => ?_
  refine qe [20] (by kernel_rfl) rfl ?_
  refine all_cons ?_ all_nil
  refine qf HF (i := 20) rfl rfl ?_
  refine s_el HF HM ei_gr [(0, .agg #[vI (toI (p.gs.getD (2 * j) 0)), vI (toI (p.gs.getD (2 * j + 1) 0))])] #[vI (toI (p.gs.getD (2 * j) 0)), vI (toI (p.gs.getD (2 * j + 1) 0))] ?_
  clear HF HM; intro a w65 g65 HF HM
  refine keepS (HM.pk [2, 3]) (fun HS => ?_)
  refine qe [21] (by kernel_rfl) rfl ?_
  refine all_cons ?_ all_nil
  refine qf HF (i := 21) rfl rfl ?_
  refine qo HF HM (i := 1) rfl ei_gr rfl rfl rfl (news := ([(⟨toI (p.gs.getD (2 * j) 0), toI (p.gs.getD (2 * j + 1) 0)⟩ : Gr)].flatMap grL)) (HM.rdBlk (i := 0) (n := 1) (size := 2) rfl rfl) (qna _) (by omega) (by omega) rfl (by decide) ?_
  clear HF HM; intro a w66 A66 c66 HF HM hc66
  refine keepS (HM.pk [2, 3]) (fun HS => ?_)
  refine ap HF (fun _ => HS) [22, 23, 24] (bt 26 [25]) [(69, vP g3 3)] fun a HF => ?_
  refine qe [25] (by kernel_rfl) rfl ?_
  refine all_cons ?_ all_nil
  refine qf HF (i := 25) rfl rfl ?_
  refine s_es HF HM 2 ?_
  clear HM; intro w6_25 HM
  refine noS (by kernel_rfl) ?_
  refine qk (by kernel_rfl) ?_
  have hnA66 : G.length + 1 = (G ++ [p.grp (j + 1)]).length := qs rfl
  replace HM := HM.reRow (i := 1) (ys := (G ++ [p.grp (j + 1)]).flatMap grL) rfl hnA66 (by rw [hgr]; exact List.flatMap_append.symm)
  rw [hnA66] at hc66
  replace HF := HF.sp 66 (.slice A66 ((G ++ [p.grp (j + 1)]).length) c66) rfl (by rw [hnA66])
  replace HM := HM.reBlk (i := 2) (ds := #[vI (toI p.nx), vI p.cp, vQ p.cr, .slice A66 ((G ++ [p.grp (j + 1)]).length) c66, .slice none 0 0, .slice none 0 0, .slice none 0 0, .slice none 0 0]) rfl (by rw [hnA66]; rfl)
  replace HM : Mem w _ [.blk g65 #[vI (toI (p.gs.getD (2 * j) 0)), vI (toI (p.gs.getD (2 * j + 1) 0))] 40, .row (.slice A66 ((G ++ [p.grp (j + 1)]).length) c66) ((G ++ [p.grp (j + 1)]).length) ((G ++ [p.grp (j + 1)]).flatMap grL) 40 2, .blk g3 #[vI (toI p.nx), vI p.cp, vQ p.cr, .slice A66 ((G ++ [p.grp (j + 1)]).length) c66, .slice none 0 0, .slice none 0 0, .slice none 0 0, .slice none 0 0] 56, .blk g2 #[vI 0, vI 0, vQ 0, .slice none 0 0, .slice none 0 0, .slice none 0 0, .slice none 0 0, .slice none 0 0] 56] := HM
  refine qa ?_
  refine fp HF 2 0 [(44, vI (IntKind.i64.wrap (((2 * j : Nat) : Int) + 2)))] fun a HF => ?_
  replace HF := HF.sp 44 (vI (2 * (j + 1) : Nat)) rfl (qc (by omega) (by omega))
  refine fp HF 1 2 [(4, vI (2 * (j + 1) : Nat))] fun a HF => ?_
  refine s_d0 ?_
  exact ⟨_, (by omega), j + 1, (G ++ [p.grp (j + 1)]), A66, c66, by omega, by rw [hG, q1 (j + 1)], by rw [List.length_append, hGl]; rfl, hc66, rfl, HF.sub (by kernel_rfl), HM.pk [1, 2, 3]⟩
 have hd42 := of_decide_eq_false hb42
 refine s_cf HF (wp_exit (wp_seq (s_fs1 ?_)))
 refine fp HF 1 0 [(5, vI 0)] fun a HF => ?_
 refine s_d0 ?_
 replace HM := HM.nil 3 1
 replace HM := HM.nil 3 1
 refine wp_block ?_
 refine qi (fun mS aS wS => ∃ (k : Nat) (C : List Int) (Al : Option Addr) (cl : Nat) (U : List Int) (Au : Option Addr) (cu : Nat), (k ≤ p.cp) ∧ (C = mapR k fun i => toI (p.cl.getD i 0)) ∧ (C.length = k) ∧ (C.length ≤ cl) ∧ (U = mapR k fun i => toI (p.cu.getD i 0)) ∧ (U.length = k) ∧ (U.length ≤ cu) ∧ mS = p.cp - k ∧ Fr aS 221 [] [(5, vI k), (42, .bool false), (4, vI (2 * j : Nat)), (3, vP g3 0), (2, vP g2 0), (0, .slice (some ⟨gA, oA, none⟩) 9 c)] ∧ Mem w wS [.row (.slice Au U.length cu) U.length (U.map I64i) 3 1, .row (.slice Al C.length cl) C.length (C.map I64i) 3 1, .row (.slice Ag G.length cg) G.length (G.flatMap grL) 40 2, .blk g3 #[vI (toI p.nx), vI p.cp, vQ p.cr, .slice Ag G.length cg, .slice Al C.length cl, .slice Au U.length cu, .slice none 0 0, .slice none 0 0] 56, .blk g2 #[vI 0, vI 0, vQ 0, .slice none 0 0, .slice none 0 0, .slice none 0 0, .slice none 0 0, .slice none 0 0] 56]) (m := p.cp - 0) ⟨0, [], none, 0, [], none, 0, Nat.zero_le _, rfl, rfl, Nat.le_refl _, rfl, rfl, Nat.le_refl _, rfl, HF.sub (by kernel_rfl), HM.pk [0, 1, 2, 3, 4]⟩ ?_
 clear HF HM; rintro mS a w_ ⟨k, C, Al, cl, U, Au, cu, hk, hC, hCl, hCc, hU, hUl, hUc, rfl, HF, HM⟩
 refine wp_seq (s_fs1 ?_)
 refine fp HF 2 0 [(71, .slice (some ⟨gA, oA, none⟩) 9 c), (70, vI k)] fun a HF => ?_
 refine s_fz HF HM 2 rfl (v := vP gA (oA + 4)) (Yl.indexAddr (ad := ⟨gA, oA, none⟩) (y := 4) (sz := 1) rfl rfl rfl (by decide) (by kernel_rfl)) fun a HF => ?_
 refine s_fz HF HM 3 rfl (v := .slice Y4.A Y4.l.length Y4.c) (Yl.qd rfl rfl (by kernel_rfl) (fun _ h => (h.old hr).zn (k := 4) (zk (F := Nw.val) (k := 4) (x := Y4) (rfl)))) fun a HF => ?_
 refine s_fl HF 4 fun a HF => ?_
 refine fp HF 1 5 [(75, .bool (decide ((k : Int) < (Y4.l.length : Int))))] fun a HF => ?_
 refine s_d0 ?_
 rcases HF.tf 75 rfl with ⟨hb75, HF⟩ | ⟨hb75, HF⟩
 ·
  have hd75 := of_decide_eq_true hb75
  have hk4 : k < Y4.l.length := by omega
  have hk5 : k < Y5.l.length := by omega
  obtain ⟨gq9, oq9, hq9, _⟩ := Rd.qj r4 (Nat.lt_of_le_of_lt (Nat.zero_le _) (show k < Y4.l.length from hk4)) (by decide)
  have hrq9 := r4; rw [hq9] at hrq9
  obtain ⟨gq10, oq10, hq10, _⟩ := Rd.qj r5 (Nat.lt_of_le_of_lt (Nat.zero_le _) (show k < Y5.l.length from hk5)) (by decide)
  have hrq10 := r5; rw [hq10] at hrq10
  refine s_ct HF (wp_skip (wp_seq (wp_block (wp_seq ?_))))
  refine za HM [.row (.slice Au U.length cu) U.length (U.map I64i) 3 1, .row (.slice Ag G.length cg) G.length (G.flatMap grL) 40 2, .blk g3 #[vI (toI p.nx), vI p.cp, vQ p.cr, .slice Ag G.length cg, .slice Al C.length cl, .slice Au U.length cu, .slice none 0 0, .slice none 0 0] 56, .blk g2 #[vI 0, vI 0, vQ 0, .slice none 0 0, .slice none 0 0, .slice none 0 0, .slice none 0 0, .slice none 0 0] 56] [0, 2, 3, 4] [14] fun HM HS => ?_
  refine ap HF (fun _ => HS) [0, 1, 3, 6] (bf 15 [0, 1, 3, 6]) [(84, vI k), (81, .slice (some ⟨gA, oA, none⟩) 9 c), (79, vP g3 4)] fun a HF => ?_
  refine s_ac HF HS 2 2 fun a HF => ?_
  refine s_az HF HS 4 rfl (v := vP gA (oA + 4)) (Yl.indexAddr (ad := ⟨gA, oA, none⟩) (y := 4) (sz := 1) rfl rfl rfl (by decide) (by kernel_rfl)) fun a HF => ?_
  refine s_az HF HS 5 rfl (v := .slice Y4.A Y4.l.length Y4.c) (Yl.qd rfl rfl (by kernel_rfl) (fun _ h => (h.old hr).zn (k := 4) (zk (F := Nw.val) (k := 4) (x := Y4) (rfl)))) fun a HF => ?_
  replace HF := HF.sp 83 (.slice (some ⟨gq9, oq9, none⟩) Y4.l.length Y4.c) rfl (by rw [hq9]; try rfl)
  refine s_az HF HS 7 rfl (v := vP gq9 (oq9 + k * 1)) (Yl.ix gq9 oq9 k 1 rfl rfl rfl) fun a HF => ?_
  refine s_az HF HS 8 rfl (v := vQ (Y4.l.getD k 0)) (Yl.o1 hrq9 k 0 (by omega) rfl rfl) fun a HF => ?_
  replace HF := HF.sp 86 (vQ (p.cl.getD k 0)) rfl (by rw [l4])
  refine qh HF (fun _ => HS) (i := 9) rfl rfl (d := 87) rfl (by decide) (by kernel_rfl) (fun _ _ _ h => h) (v := vI (IntKind.i64.wrap (p.cl.getD k 0 : Int))) (fun _ => Yl.pure (by kernel_rfl)) fun a HF => ?_
  replace HF := HF.sp 87 (vI (toI (p.cl.getD k 0))) rfl (rfl)
  refine qe [10] (by kernel_rfl) rfl ?_
  refine all_cons ?_ all_nil
  refine qf HF (i := 10) rfl rfl ?_
  refine s_el HF HM qbf [(0, vI (toI (p.cl.getD k 0)))] #[vI (toI (p.cl.getD k 0))] ?_
  clear HF HM; intro a w88 g88 HF HM
  refine keepS (HM.pk [1, 3, 4, 5]) (fun HS => ?_)
  refine qe [11] (by kernel_rfl) rfl ?_
  refine all_cons ?_ all_nil
  refine qf HF (i := 11) rfl rfl ?_
  refine qo HF HM (i := 2) rfl qbf rfl rfl rfl (news := ([toI (p.cl.getD k 0)].map I64i)) (HM.rdBlk (i := 0) (n := 1) (size := 1) rfl rfl) (qgn _) (by omega) (by omega) rfl (by decide) ?_
  clear HF HM; intro a w89 A89 c89 HF HM hc89
  refine keepS (HM.pk [1, 3, 4, 5]) (fun HS => ?_)
  refine ap HF (fun _ => HS) [12, 13] (bt 15 [14]) [(91, vP g3 4)] fun a HF => ?_
  refine qe [14] (by kernel_rfl) rfl ?_
  refine all_cons ?_ all_nil
  refine qf HF (i := 14) rfl rfl ?_
  refine s_es HF HM 4 ?_
  clear HM; intro w10_14 HM
  refine noS (by kernel_rfl) ?_
  refine qk (by kernel_rfl) ?_
  have hnA89 : C.length + 1 = (C ++ [toI (p.cl.getD k 0)]).length := qs rfl
  replace HM := HM.reRow (i := 2) (ys := (C ++ [toI (p.cl.getD k 0)]).map I64i) rfl hnA89 (by exact List.map_append.symm)
  rw [hnA89] at hc89
  replace HF := HF.sp 89 (.slice A89 ((C ++ [toI (p.cl.getD k 0)]).length) c89) rfl (by rw [hnA89])
  replace HM := HM.reBlk (i := 4) (ds := #[vI (toI p.nx), vI p.cp, vQ p.cr, .slice Ag G.length cg, .slice A89 ((C ++ [toI (p.cl.getD k 0)]).length) c89, .slice Au U.length cu, .slice none 0 0, .slice none 0 0]) rfl (by rw [hnA89]; rfl)
  replace HM : Mem w _ [.blk g88 #[vI (toI (p.cl.getD k 0))] 3, .row (.slice Au U.length cu) U.length (U.map I64i) 3 1, .row (.slice A89 ((C ++ [toI (p.cl.getD k 0)]).length) c89) ((C ++ [toI (p.cl.getD k 0)]).length) ((C ++ [toI (p.cl.getD k 0)]).map I64i) 3 1, .row (.slice Ag G.length cg) G.length (G.flatMap grL) 40 2, .blk g3 #[vI (toI p.nx), vI p.cp, vQ p.cr, .slice Ag G.length cg, .slice A89 ((C ++ [toI (p.cl.getD k 0)]).length) c89, .slice Au U.length cu, .slice none 0 0, .slice none 0 0] 56, .blk g2 #[vI 0, vI 0, vQ 0, .slice none 0 0, .slice none 0 0, .slice none 0 0, .slice none 0 0, .slice none 0 0] 56] := HM
  refine za HM [.blk g88 #[vI (toI (p.cl.getD k 0))] 3, .row (.slice A89 ((C ++ [toI (p.cl.getD k 0)]).length) c89) ((C ++ [toI (p.cl.getD k 0)]).length) ((C ++ [toI (p.cl.getD k 0)]).map I64i) 3 1, .row (.slice Ag G.length cg) G.length (G.flatMap grL) 40 2, .blk g3 #[vI (toI p.nx), vI p.cp, vQ p.cr, .slice Ag G.length cg, .slice A89 ((C ++ [toI (p.cl.getD k 0)]).length) c89, .slice Au U.length cu, .slice none 0 0, .slice none 0 0] 56, .blk g2 #[vI 0, vI 0, vQ 0, .slice none 0 0, .slice none 0 0, .slice none 0 0, .slice none 0 0, .slice none 0 0] 56] [0, 2, 3, 4, 5] [14] fun HM HS => ?_
  refine ap HF (fun _ => HS) [0, 1, 3, 6] (bf 15 [0, 1, 3, 6]) [(98, vI k), (95, .slice (some ⟨gA, oA, none⟩) 9 c), (93, vP g3 5)] fun a HF => ?_
  refine s_ac HF HS 2 3 fun a HF => ?_
  refine s_az HF HS 4 rfl (v := vP gA (oA + 5)) (Yl.indexAddr (ad := ⟨gA, oA, none⟩) (y := 5) (sz := 1) rfl rfl rfl (by decide) (by kernel_rfl)) fun a HF => ?_
  refine s_az HF HS 5 rfl (v := .slice Y5.A Y5.l.length Y5.c) (Yl.qd rfl rfl (by kernel_rfl) (fun _ h => (h.old hr).zn (k := 5) (zk (F := Nw.val) (k := 5) (x := Y5) (rfl)))) fun a HF => ?_
  replace HF := HF.sp 97 (.slice (some ⟨gq10, oq10, none⟩) Y5.l.length Y5.c) rfl (by rw [hq10]; try rfl)
  refine s_az HF HS 7 rfl (v := vP gq10 (oq10 + k * 1)) (Yl.ix gq10 oq10 k 1 rfl rfl rfl) fun a HF => ?_
  refine s_az HF HS 8 rfl (v := vQ (Y5.l.getD k 0)) (Yl.o1 hrq10 k 0 (by omega) rfl rfl) fun a HF => ?_
  replace HF := HF.sp 100 (vQ (p.cu.getD k 0)) rfl (by rw [l5])
  refine qh HF (fun _ => HS) (i := 9) rfl rfl (d := 101) rfl (by decide) (by kernel_rfl) (fun _ _ _ h => h) (v := vI (IntKind.i64.wrap (p.cu.getD k 0 : Int))) (fun _ => Yl.pure (by kernel_rfl)) fun a HF => ?_
  replace HF := HF.sp 101 (vI (toI (p.cu.getD k 0))) rfl (rfl)
  refine qe [10] (by kernel_rfl) rfl ?_
  refine all_cons ?_ all_nil
  refine qf HF (i := 10) rfl rfl ?_
  refine s_el HF HM qbf [(0, vI (toI (p.cu.getD k 0)))] #[vI (toI (p.cu.getD k 0))] ?_
  clear HF HM; intro a w102 g102 HF HM
  refine keepS (HM.pk [1, 3, 4, 5, 6]) (fun HS => ?_)
  refine qe [11] (by kernel_rfl) rfl ?_
  refine all_cons ?_ all_nil
  refine qf HF (i := 11) rfl rfl ?_
  refine qo HF HM (i := 2) rfl qbf rfl rfl rfl (news := ([toI (p.cu.getD k 0)].map I64i)) (HM.rdBlk (i := 0) (n := 1) (size := 1) rfl rfl) (qgn _) (by omega) (by omega) rfl (by decide) ?_
  clear HF HM; intro a w103 A103 c103 HF HM hc103
  refine keepS (HM.pk [1, 3, 4, 5, 6]) (fun HS => ?_)
  refine ap HF (fun _ => HS) [12, 13] (bt 15 [14]) [(105, vP g3 5)] fun a HF => ?_
  refine qe [14] (by kernel_rfl) rfl ?_
  refine all_cons ?_ all_nil
  refine qf HF (i := 14) rfl rfl ?_
  refine s_es HF HM 5 ?_
  clear HM; intro w11_14 HM
  refine noS (by kernel_rfl) ?_
  refine qk (by kernel_rfl) ?_
  have hnA103 : U.length + 1 = (U ++ [toI (p.cu.getD k 0)]).length := qs rfl
  replace HM := HM.reRow (i := 2) (ys := (U ++ [toI (p.cu.getD k 0)]).map I64i) rfl hnA103 (by exact List.map_append.symm)
  rw [hnA103] at hc103
  replace HF := HF.sp 103 (.slice A103 ((U ++ [toI (p.cu.getD k 0)]).length) c103) rfl (by rw [hnA103])
  replace HM := HM.reBlk (i := 5) (ds := #[vI (toI p.nx), vI p.cp, vQ p.cr, .slice Ag G.length cg, .slice A89 ((C ++ [toI (p.cl.getD k 0)]).length) c89, .slice A103 ((U ++ [toI (p.cu.getD k 0)]).length) c103, .slice none 0 0, .slice none 0 0]) rfl (by rw [hnA103]; rfl)
  replace HM : Mem w _ [.blk g102 #[vI (toI (p.cu.getD k 0))] 3, .blk g88 #[vI (toI (p.cl.getD k 0))] 3, .row (.slice A103 ((U ++ [toI (p.cu.getD k 0)]).length) c103) ((U ++ [toI (p.cu.getD k 0)]).length) ((U ++ [toI (p.cu.getD k 0)]).map I64i) 3 1, .row (.slice A89 ((C ++ [toI (p.cl.getD k 0)]).length) c89) ((C ++ [toI (p.cl.getD k 0)]).length) ((C ++ [toI (p.cl.getD k 0)]).map I64i) 3 1, .row (.slice Ag G.length cg) G.length (G.flatMap grL) 40 2, .blk g3 #[vI (toI p.nx), vI p.cp, vQ p.cr, .slice Ag G.length cg, .slice A89 ((C ++ [toI (p.cl.getD k 0)]).length) c89, .slice A103 ((U ++ [toI (p.cu.getD k 0)]).length) c103, .slice none 0 0, .slice none 0 0] 56, .blk g2 #[vI 0, vI 0, vQ 0, .slice none 0 0, .slice none 0 0, .slice none 0 0, .slice none 0 0, .slice none 0 0] 56] := HM
  refine qa ?_
  refine fp HF 2 0 [(77, vI (IntKind.i64.wrap ((k : Int) + 1)))] fun a HF => ?_
  replace HF := HF.sp 77 (vI (k + 1 : Nat)) rfl (qc (by omega) (by omega))
  refine fp HF 1 2 [(5, vI (k + 1 : Nat))] fun a HF => ?_
  refine s_d0 ?_
  exact ⟨_, (by omega), k + 1, (C ++ [toI (p.cl.getD k 0)]), A89, c89, (U ++ [toI (p.cu.getD k 0)]), A103, c103, by omega, by rw [hC, q1], by rw [List.length_append, hCl]; rfl, hc89, by rw [hU, q1], by rw [List.length_append, hUl]; rfl, hc103, rfl, HF.sub (by kernel_rfl), HM.pk [2, 3, 4, 5, 6]⟩
 have hd75 := of_decide_eq_false hb75
 refine s_cf HF (wp_exit (s_fs1 ?_))
 refine fp HF 1 0 [(6, vI 0)] fun a HF => ?_
 refine s_d0 (wp_seq (s_fs1 ?_))
 refine fp HF 1 0 [(7, vI 1)] fun a HF => ?_
 refine s_d0 ?_
 replace HM := HM.nil 46 8
 refine wp_block ?_
 refine qi (fun mS aS wS => ∃ (i : Nat) (T : List Tk) (At : Option Addr) (ct : Nat), (i ≤ p.tk) ∧ (T = mapR i p.tskB) ∧ (T.length = i) ∧ (T.length ≤ ct) ∧ mS = p.tk - i ∧ Fr aS 221 [] [(7, vI (1 + 8 * i : Nat)), (6, vI (p.idC i)), (75, .bool false), (5, vI k), (42, .bool false), (4, vI (2 * j : Nat)), (3, vP g3 0), (2, vP g2 0), (0, .slice (some ⟨gA, oA, none⟩) 9 c)] ∧ Mem w wS [.row (.slice At T.length ct) T.length (T.flatMap tkL) 46 8, .row (.slice Au U.length cu) U.length (U.map I64i) 3 1, .row (.slice Al C.length cl) C.length (C.map I64i) 3 1, .row (.slice Ag G.length cg) G.length (G.flatMap grL) 40 2, .blk g3 #[vI (toI p.nx), vI p.cp, vQ p.cr, .slice Ag G.length cg, .slice Al C.length cl, .slice Au U.length cu, .slice At T.length ct, .slice none 0 0] 56, .blk g2 #[vI 0, vI 0, vQ 0, .slice none 0 0, .slice none 0 0, .slice none 0 0, .slice none 0 0, .slice none 0 0] 56]) (m := p.tk - 0) ⟨0, [], none, 0, Nat.zero_le _, rfl, rfl, Nat.le_refl _, rfl, HF.sub (by kernel_rfl), HM.pk [0, 1, 2, 3, 4, 5]⟩ ?_
 clear HF HM; rintro mS a w_ ⟨i, T, At, ct, hi, hT, hTl, hTc, rfl, HF, HM⟩
 refine wp_seq (s_fs1 ?_)
 refine fp HF 2 0 [(107, .slice (some ⟨gA, oA, none⟩) 9 c), (106, vI (1 + 8 * i : Nat))] fun a HF => ?_
 refine s_fz HF HM 2 rfl (v := vP gA (oA + 6)) (Yl.indexAddr (ad := ⟨gA, oA, none⟩) (y := 6) (sz := 1) rfl rfl rfl (by decide) (by kernel_rfl)) fun a HF => ?_
 refine s_fz HF HM 3 rfl (v := .slice Y6.A Y6.l.length Y6.c) (Yl.qd rfl rfl (by kernel_rfl) (fun _ h => (h.old hr).zn (k := 6) (zk (F := Nw.val) (k := 6) (x := Y6) (rfl)))) fun a HF => ?_
 refine s_fl HF 4 fun a HF => ?_
 refine fp HF 1 5 [(111, .bool (decide (((1 + 8 * i : Nat) : Int) < (Y6.l.length : Int))))] fun a HF => ?_
 refine s_d0 ?_
 rcases HF.tf 111 rfl with ⟨hb111, HF⟩ | ⟨hb111, HF⟩
 ·
  have hd111 := of_decide_eq_true hb111
  have hi9 : i < p.tk := by omega
  obtain ⟨gq11, oq11, hq11, _⟩ := Rd.qj r6 (Nat.lt_of_le_of_lt (Nat.zero_le _) (show 0 < Y6.l.length from (by omega : 0 < Y6.l.length))) (by decide)
  have hrq11 := r6; rw [hq11] at hrq11
  refine s_ct HF (wp_skip (wp_seq (wp_block (wp_seq ?_))))
  obtain ⟨gX, oX, hX, _⟩ := Rd.qj (qtp h hi9 r6b hc6b) (by decide) (by decide)
  have hrX := qtp h hi9 r6b hc6b; rw [hX] at hrX
  skip
  ·
   refine qa ?_
   refine fp HF 1 0 [(114, .slice (some ⟨gA, oA, none⟩) 9 c)] fun a HF => ?_
   refine s_fz HF HM 1 rfl (v := vP gA (oA + 6)) (Yl.indexAddr (ad := ⟨gA, oA, none⟩) (y := 6) (sz := 1) rfl rfl rfl (by decide) (by kernel_rfl)) fun a HF => ?_
   refine s_fz HF HM 2 rfl (v := .slice Y6.A Y6.l.length Y6.c) (Yl.qd rfl rfl (by kernel_rfl) (fun _ h => (h.old hr).zn (k := 6) (zk (F := Nw.val) (k := 6) (x := Y6) (rfl)))) fun a HF => ?_
   refine fp HF 3 3 [(119, vI (IntKind.i64.wrap (((1 + 8 * i : Nat) : Int) + 8))), (117, vI (1 + 8 * i : Nat))] fun a HF => ?_
   replace HF := HF.sp 119 (vI (1 + 8 * i + 8 : Nat)) rfl (qc (by omega) (by omega))
   refine s_fz HF HM 6 rfl (v := .slice (if Y6.c = (1 + 8 * i) then Y6.A else (Y6.A : Option Addr).map (·.add ((1 + 8 * i) * 1))) ((1 + 8 * i + 8) - (1 + 8 * i)) (Y6.c - (1 + 8 * i))) (Yl.qic q2 (i := (1 + 8 * i)) (j := (1 + 8 * i + 8)) rfl rfl rfl rfl (by omega) (by omega)) fun a HF => ?_
   replace HF := HF.sp 120 (.slice (some ⟨gX, oX, none⟩) 8 (Y6.c - (1 + 8 * i))) rfl (by rw [hX, Nat.add_sub_cancel_left])
   refine fp HF 1 7 [(8, .slice (some ⟨gX, oX, none⟩) 8 (Y6.c - (1 + 8 * i)))] fun a HF => ?_
   refine s_d0 (s_fs1 ?_)
   refine fp HF 2 0 [(122, .slice (some ⟨gX, oX, none⟩) 8 (Y6.c - (1 + 8 * i))), (121, vI (p.idC i))] fun a HF => ?_
   refine s_fz HF HM 2 rfl (v := vP gX oX) (Yl.indexAddr (ad := ⟨gX, oX, none⟩) (y := 0) (sz := 1) rfl rfl rfl (by decide) (by kernel_rfl)) fun a HF => ?_
   refine s_fz HF HM 3 rfl (v := vQ ((p.tnL i).getD 0 0)) (Yl.qd rfl rfl (by kernel_rfl) (fun _ h => (h.old hrX).zn (k := 0) (zk (F := U64) (k := 0) (x := ((p.tnL i).getD 0 0)) (rfl)))) fun a HF => ?_
   replace HF := HF.sp 124 (vQ (p.tn i 0)) rfl (rfl)
   refine fp HF 1 4 [(125, vI (IntKind.i64.wrap (p.tn i 0 : Int)))] fun a HF => ?_
   replace HF := HF.sp 125 (vI (toI (p.tn i 0))) rfl (rfl)
   refine fp HF 1 5 [(126, vI (IntKind.i64.wrap ((p.idC i) + (toI (p.tn i 0)))))] fun a HF => ?_
   replace HF := HF.sp 126 (vI (p.idC (i + 1))) rfl (rfl)
   refine fp HF 1 6 [(6, vI (p.idC (i + 1)))] fun a HF => ?_
   refine s_d0 ?_
   refine za HM [.row (.slice Au U.length cu) U.length (U.map I64i) 3 1, .row (.slice Al C.length cl) C.length (C.map I64i) 3 1, .row (.slice Ag G.length cg) G.length (G.flatMap grL) 40 2, .blk g3 #[vI (toI p.nx), vI p.cp, vQ p.cr, .slice Ag G.length cg, .slice Al C.length cl, .slice Au U.length cu, .slice At T.length ct, .slice none 0 0] 56, .blk g2 #[vI 0, vI 0, vQ 0, .slice none 0 0, .slice none 0 0, .slice none 0 0, .slice none 0 0, .slice none 0 0] 56] [1, 2, 3, 4, 5] [35] fun HM HS => ?_
   refine ap HF (fun _ => HS) [0, 1, 3, 4, 8, 12, 16, 19, 23, 26] (bf 36 [0, 1, 3, 4, 8, 12, 16, 19, 23, 26]) [(153, .slice (some ⟨gX, oX, none⟩) 8 (Y6.c - (1 + 8 * i))), (150, .slice (some ⟨gX, oX, none⟩) 8 (Y6.c - (1 + 8 * i))), (146, .slice (some ⟨gX, oX, none⟩) 8 (Y6.c - (1 + 8 * i))), (143, .slice (some ⟨gX, oX, none⟩) 8 (Y6.c - (1 + 8 * i))), (139, .slice (some ⟨gX, oX, none⟩) 8 (Y6.c - (1 + 8 * i))), (135, .slice (some ⟨gX, oX, none⟩) 8 (Y6.c - (1 + 8 * i))), (131, .slice (some ⟨gX, oX, none⟩) 8 (Y6.c - (1 + 8 * i))), (130, vI (p.idC (i + 1))), (128, vP g3 6)] fun a HF => ?_
   refine s_ac HF HS 2 3 fun a HF => ?_
   refine s_az HF HS 5 rfl (v := vP gX (oX + 1)) (Yl.indexAddr (ad := ⟨gX, oX, none⟩) (y := 1) (sz := 1) rfl rfl rfl (by decide) (by kernel_rfl)) fun a HF => ?_
   refine s_az HF HS 6 rfl (v := vQ ((p.tnL i).getD 1 0)) (Yl.qd rfl rfl (by kernel_rfl) (fun _ h => (h.old hrX).zn (k := 1) (zk (F := U64) (k := 1) (x := ((p.tnL i).getD 1 0)) (rfl)))) fun a HF => ?_
   replace HF := HF.sp 133 (vQ (p.tn i 1)) rfl (rfl)
   refine qh HF (fun _ => HS) (i := 7) rfl rfl (d := 134) rfl (by decide) (by kernel_rfl) (fun _ _ _ h => h) (v := vI (IntKind.i64.wrap (p.tn i 1 : Int))) (fun _ => Yl.pure (by kernel_rfl)) fun a HF => ?_
   replace HF := HF.sp 134 (vI (toI (p.tn i 1))) rfl (rfl)
   refine s_az HF HS 9 rfl (v := vP gX (oX + 2)) (Yl.indexAddr (ad := ⟨gX, oX, none⟩) (y := 2) (sz := 1) rfl rfl rfl (by decide) (by kernel_rfl)) fun a HF => ?_
   refine s_az HF HS 10 rfl (v := vQ ((p.tnL i).getD 2 0)) (Yl.qd rfl rfl (by kernel_rfl) (fun _ h => (h.old hrX).zn (k := 2) (zk (F := U64) (k := 2) (x := ((p.tnL i).getD 2 0)) (rfl)))) fun a HF => ?_
   replace HF := HF.sp 137 (vQ (p.tn i 2)) rfl (rfl)
   refine qh HF (fun _ => HS) (i := 11) rfl rfl (d := 138) rfl (by decide) (by kernel_rfl) (fun _ _ _ h => h) (v := vI (IntKind.i64.wrap (p.tn i 2 : Int))) (fun _ => Yl.pure (by kernel_rfl)) fun a HF => ?_
   replace HF := HF.sp 138 (vI (toI (p.tn i 2))) rfl (rfl)
   refine s_az HF HS 13 rfl (v := vP gX (oX + 3)) (Yl.indexAddr (ad := ⟨gX, oX, none⟩) (y := 3) (sz := 1) rfl rfl rfl (by decide) (by kernel_rfl)) fun a HF => ?_
   refine s_az HF HS 14 rfl (v := vQ ((p.tnL i).getD 3 0)) (Yl.qd rfl rfl (by kernel_rfl) (fun _ h => (h.old hrX).zn (k := 3) (zk (F := U64) (k := 3) (x := ((p.tnL i).getD 3 0)) (rfl)))) fun a HF => ?_
   replace HF := HF.sp 141 (vQ (p.tn i 3)) rfl (rfl)
   refine qh HF (fun _ => HS) (i := 15) rfl rfl (d := 142) rfl (by decide) (by kernel_rfl) (fun _ _ _ h => h) (v := vI (IntKind.i64.wrap (p.tn i 3 : Int))) (fun _ => Yl.pure (by kernel_rfl)) fun a HF => ?_
   replace HF := HF.sp 142 (vI (toI (p.tn i 3))) rfl (rfl)
   refine s_az HF HS 17 rfl (v := vP gX (oX + 4)) (Yl.indexAddr (ad := ⟨gX, oX, none⟩) (y := 4) (sz := 1) rfl rfl rfl (by decide) (by kernel_rfl)) fun a HF => ?_
   refine s_az HF HS 18 rfl (v := vQ ((p.tnL i).getD 4 0)) (Yl.qd rfl rfl (by kernel_rfl) (fun _ h => (h.old hrX).zn (k := 4) (zk (F := U64) (k := 4) (x := ((p.tnL i).getD 4 0)) (rfl)))) fun a HF => ?_
   replace HF := HF.sp 145 (vQ (p.tn i 4)) rfl (rfl)
   refine s_az HF HS 20 rfl (v := vP gX (oX + 5)) (Yl.indexAddr (ad := ⟨gX, oX, none⟩) (y := 5) (sz := 1) rfl rfl rfl (by decide) (by kernel_rfl)) fun a HF => ?_
   refine s_az HF HS 21 rfl (v := vQ ((p.tnL i).getD 5 0)) (Yl.qd rfl rfl (by kernel_rfl) (fun _ h => (h.old hrX).zn (k := 5) (zk (F := U64) (k := 5) (x := ((p.tnL i).getD 5 0)) (rfl)))) fun a HF => ?_
   replace HF := HF.sp 148 (vQ (p.tn i 5)) rfl (rfl)
   refine qh HF (fun _ => HS) (i := 22) rfl rfl (d := 149) rfl (by decide) (by kernel_rfl) (fun _ _ _ h => h) (v := .bool (decide ((p.tn i 5 : Int) > (0 : Int)))) (fun _ => Yl.pure (by kernel_rfl)) fun a HF => ?_
   replace HF := HF.sp 149 (.bool (decide (0 < p.tn i 5))) rfl (congrArg Value.bool (qz0 _))
   refine s_az HF HS 24 rfl (v := vP gX (oX + 6)) (Yl.indexAddr (ad := ⟨gX, oX, none⟩) (y := 6) (sz := 1) rfl rfl rfl (by decide) (by kernel_rfl)) fun a HF => ?_
   refine s_az HF HS 25 rfl (v := vQ ((p.tnL i).getD 6 0)) (Yl.qd rfl rfl (by kernel_rfl) (fun _ h => (h.old hrX).zn (k := 6) (zk (F := U64) (k := 6) (x := ((p.tnL i).getD 6 0)) (rfl)))) fun a HF => ?_
   replace HF := HF.sp 152 (vQ (p.tn i 6)) rfl (rfl)
   refine s_az HF HS 27 rfl (v := vP gX (oX + 7)) (Yl.indexAddr (ad := ⟨gX, oX, none⟩) (y := 7) (sz := 1) rfl rfl rfl (by decide) (by kernel_rfl)) fun a HF => ?_
   refine s_az HF HS 28 rfl (v := vQ ((p.tnL i).getD 7 0)) (Yl.qd rfl rfl (by kernel_rfl) (fun _ h => (h.old hrX).zn (k := 7) (zk (F := U64) (k := 7) (x := ((p.tnL i).getD 7 0)) (rfl)))) fun a HF => ?_
   replace HF := HF.sp 155 (vQ (p.tn i 7)) rfl (rfl)
   refine qh HF (fun _ => HS) (i := 29) rfl rfl (d := 156) rfl (by decide) (by kernel_rfl) (fun _ _ _ h => h) (v := vW (IntKind.u32.wrap (p.tn i 7 : Int))) (fun _ => Yl.pure (by kernel_rfl)) fun a HF => ?_
   replace HF := HF.sp 156 (vW ((p.tn i 7) % 4294967296 : Nat)) rfl (qij (p.tn i 7))
   refine s_az HF HS 30 rfl (v := .agg #[vI (p.idC (i + 1)), vI (toI (p.tn i 1)), vI (toI (p.tn i 2)), vI (toI (p.tn i 3)), vQ (p.tn i 4), .bool (decide (0 < p.tn i 5)), vQ (p.tn i 6), vW ((p.tn i 7) % 4294967296 : Nat)]) (Yl.build (vs := [(0, vI (p.idC (i + 1))), (1, vI (toI (p.tn i 1))), (2, vI (toI (p.tn i 2))), (3, vI (toI (p.tn i 3))), (4, vQ (p.tn i 4)), (5, .bool (decide (0 < p.tn i 5))), (6, vQ (p.tn i 6)), (7, vW ((p.tn i 7) % 4294967296 : Nat))]) rfl (by kernel_rfl) (by kernel_rfl)) fun a HF => ?_
   refine qe [31] (by kernel_rfl) rfl ?_
   refine all_cons ?_ all_nil
   refine qf HF (i := 31) rfl rfl ?_
   refine s_el HF HM ei_tk [(0, .agg #[vI (p.idC (i + 1)), vI (toI (p.tn i 1)), vI (toI (p.tn i 2)), vI (toI (p.tn i 3)), vQ (p.tn i 4), .bool (decide (0 < p.tn i 5)), vQ (p.tn i 6), vW ((p.tn i 7) % 4294967296 : Nat)])] #[vI (p.idC (i + 1)), vI (toI (p.tn i 1)), vI (toI (p.tn i 2)), vI (toI (p.tn i 3)), vQ (p.tn i 4), .bool (decide (0 < p.tn i 5)), vQ (p.tn i 6), vW ((p.tn i 7) % 4294967296 : Nat)] ?_
   clear HF HM; intro a w158 g158 HF HM
   refine keepS (HM.pk [2, 3, 4, 5, 6]) (fun HS => ?_)
   refine qe [32] (by kernel_rfl) rfl ?_
   refine all_cons ?_ all_nil
   refine qf HF (i := 32) rfl rfl ?_
   refine qo HF HM (i := 1) rfl ei_tk rfl rfl rfl (news := ([p.tskB i].flatMap tkL)) (HM.rdBlk (i := 0) (n := 1) (size := 8) rfl rfl) (qnb _) (by omega) (by omega) rfl (by decide) ?_
   clear HF HM; intro a w159 A159 c159 HF HM hc159
   refine keepS (HM.pk [2, 3, 4, 5, 6]) (fun HS => ?_)
   refine ap HF (fun _ => HS) [33, 34] (bt 36 [35]) [(161, vP g3 6)] fun a HF => ?_
   refine qe [35] (by kernel_rfl) rfl ?_
   refine all_cons ?_ all_nil
   refine qf HF (i := 35) rfl rfl ?_
   refine s_es HF HM 5 ?_
   clear HM; intro w18_35 HM
   refine noS (by kernel_rfl) ?_
   refine qk (by kernel_rfl) ?_
   replace HF := HF.to [(6, vI (p.idC (i + 1))), (8, .slice (some ⟨gX, oX, none⟩) 8 (Y6.c - (1 + 8 * i))), (111, .bool true), (7, vI (1 + 8 * i : Nat)), (75, .bool false), (5, vI k), (42, .bool false), (4, vI (2 * j : Nat)), (3, vP g3 0), (2, vP g2 0), (0, .slice (some ⟨gA, oA, none⟩) 9 c)]
   have hnA159 : T.length + 1 = (T ++ [p.tskB i]).length := qs rfl
   replace HM := HM.reRow (i := 1) (ys := (T ++ [p.tskB i]).flatMap tkL) rfl hnA159 (by exact List.flatMap_append.symm)
   rw [hnA159] at hc159
   replace HM := HM.reBlk (i := 5) (ds := #[vI (toI p.nx), vI p.cp, vQ p.cr, .slice Ag G.length cg, .slice Al C.length cl, .slice Au U.length cu, .slice A159 ((T ++ [p.tskB i]).length) c159, .slice none 0 0]) rfl (by rw [hnA159]; rfl)
   replace HM : Mem w _ [.blk g158 #[vI (p.idC (i + 1)), vI (toI (p.tn i 1)), vI (toI (p.tn i 2)), vI (toI (p.tn i 3)), vQ (p.tn i 4), .bool (decide (0 < p.tn i 5)), vQ (p.tn i 6), vW ((p.tn i 7) % 4294967296 : Nat)] 46, .row (.slice A159 ((T ++ [p.tskB i]).length) c159) ((T ++ [p.tskB i]).length) ((T ++ [p.tskB i]).flatMap tkL) 46 8, .row (.slice Au U.length cu) U.length (U.map I64i) 3 1, .row (.slice Al C.length cl) C.length (C.map I64i) 3 1, .row (.slice Ag G.length cg) G.length (G.flatMap grL) 40 2, .blk g3 #[vI (toI p.nx), vI p.cp, vQ p.cr, .slice Ag G.length cg, .slice Al C.length cl, .slice Au U.length cu, .slice A159 ((T ++ [p.tskB i]).length) c159, .slice none 0 0] 56, .blk g2 #[vI 0, vI 0, vQ 0, .slice none 0 0, .slice none 0 0, .slice none 0 0, .slice none 0 0, .slice none 0 0] 56] := HM
   refine qa ?_
   refine fp HF 2 0 [(113, vI (IntKind.i64.wrap (((1 + 8 * i : Nat) : Int) + 8)))] fun a HF => ?_
   replace HF := HF.sp 113 (vI (1 + 8 * (i + 1) : Nat)) rfl (qc (by omega) (by omega))
   refine fp HF 1 2 [(7, vI (1 + 8 * (i + 1) : Nat))] fun a HF => ?_
   refine s_d0 ?_
   exact ⟨_, (by omega), i + 1, (T ++ [p.tskB i]), A159, c159, by omega, by rw [hT, q1], by rw [List.length_append, hTl]; rfl, hc159, rfl, HF.sub (by kernel_rfl), HM.pk [1, 2, 3, 4, 5, 6]⟩
 have hd111 := of_decide_eq_false hb111
 refine s_cf HF (wp_exit (s_fs1 ?_))
 refine fp HF 1 0 [(9, vI 0)] fun a HF => ?_
 refine s_d0 (wp_seq (s_fs1 ?_))
 refine fp HF 1 0 [(10, vI 0)] fun a HF => ?_
 refine s_d0 ?_
 replace HM := HM.nil 44 1
 replace HM := HM.newTail 43 3
 replace HM : Mem w _ (.row (.slice none 0 0) 0 [] 44 1 :: .row (.slice At T.length ct) T.length (T.flatMap tkL) 46 8 :: .row (.slice Au U.length cu) U.length (U.map I64i) 3 1 :: .row (.slice Al C.length cl) C.length (C.map I64i) 3 1 :: .row (.slice Ag G.length cg) G.length (G.flatMap grL) 40 2 :: .blk g3 #[vI (toI p.nx), vI p.cp, vQ p.cr, .slice Ag G.length cg, .slice Al C.length cl, .slice Au U.length cu, .slice At T.length ct, .slice none 0 0] 56 :: .blk g2 #[vI 0, vI 0, vQ 0, .slice none 0 0, .slice none 0 0, .slice none 0 0, .slice none 0 0, .slice none 0 0] 56 :: rwF 43 []) := HM
 refine wp_block ?_
 refine qi (fun mS aS wS => ∃ (y : Nat) (z : List Rw) (As : Option Addr) (cs : Nat), (y ≤ p.gp) ∧ (z.length = y) ∧ (z.map Rw.l = mapR y p.row) ∧ (∀ q ∈ z, q.l.length ≤ q.c) ∧ (z.length ≤ cs) ∧ mS = p.gp - y ∧ Fr aS 221 [] [(10, vI y), (9, vI (p.so y 0)), (111, .bool false), (7, vI (1 + 8 * i : Nat)), (6, vI (p.idC i)), (75, .bool false), (5, vI k), (42, .bool false), (4, vI (2 * j : Nat)), (3, vP g3 0), (2, vP g2 0), (0, .slice (some ⟨gA, oA, none⟩) 9 c)] ∧ Mem w wS (.row (.slice As z.length cs) z.length (z.map Rw.val) 44 1 :: .row (.slice At T.length ct) T.length (T.flatMap tkL) 46 8 :: .row (.slice Au U.length cu) U.length (U.map I64i) 3 1 :: .row (.slice Al C.length cl) C.length (C.map I64i) 3 1 :: .row (.slice Ag G.length cg) G.length (G.flatMap grL) 40 2 :: .blk g3 #[vI (toI p.nx), vI p.cp, vQ p.cr, .slice Ag G.length cg, .slice Al C.length cl, .slice Au U.length cu, .slice At T.length ct, .slice As z.length cs] 56 :: .blk g2 #[vI 0, vI 0, vQ 0, .slice none 0 0, .slice none 0 0, .slice none 0 0, .slice none 0 0, .slice none 0 0] 56 :: rwF 43 z)) (m := p.gp - 0) ⟨0, [], none, 0, Nat.zero_le _, rfl, rfl, (fun q h => by cases h), Nat.le_refl _, rfl, HF.sub (by kernel_rfl), HM.pt 7 [0, 1, 2, 3, 4, 5, 6]⟩ ?_
 clear HF HM; rintro mS a w_ ⟨y, z, As, cs, hy, hzl, hz, hzc, hcs, rfl, HF, HM⟩
 refine wp_seq (s_fs1 ?_)
 refine fp HF 4 0 [(165, vP g3 3), (162, vI y)] fun a HF => ?_
 refine s_fc HF HM 4 5 fun a HF => ?_
 refine s_fl HF 5 fun a HF => ?_
 refine fp HF 1 6 [(168, .bool (decide ((y : Int) < (G.length : Int))))] fun a HF => ?_
 refine s_d0 ?_
 rcases HF.tf 168 rfl with ⟨hb168, HF⟩ | ⟨hb168, HF⟩
 ·
  have hd168 := of_decide_eq_true hb168
  have hyg : y < p.gp := by omega
  refine s_ct HF (wp_skip (wp_seq (wp_block (s_fs1 ?_))))
  refine fp HF 1 0 [(11, .slice none 0 0)] fun a HF => ?_
  refine s_d0 (wp_seq (s_fs1 ?_))
  refine fp HF 1 0 [(12, vI 0)] fun a HF => ?_
  refine s_d0 ?_
  replace HM := HM.nil 43 3
  refine wp_block ?_
  refine qi (fun mS aS wS => ∃ (x : Nat) (R : List Sp) (Ar : Option Addr) (cr : Nat), (x ≤ p.cp) ∧ (R = mapR x (p.spt y)) ∧ (R.length = x) ∧ (R.length ≤ cr) ∧ mS = p.cp - x ∧ Fr aS 221 [] [(12, vI x), (11, .slice Ar R.length cr), (168, .bool true), (10, vI y), (9, vI (p.so y x)), (111, .bool false), (7, vI (1 + 8 * i : Nat)), (6, vI (p.idC i)), (75, .bool false), (5, vI k), (42, .bool false), (4, vI (2 * j : Nat)), (3, vP g3 0), (2, vP g2 0), (0, .slice (some ⟨gA, oA, none⟩) 9 c)] ∧ Mem w wS (.row (.slice Ar R.length cr) R.length (R.flatMap spL) 43 3 :: .row (.slice As z.length cs) z.length (z.map Rw.val) 44 1 :: .row (.slice At T.length ct) T.length (T.flatMap tkL) 46 8 :: .row (.slice Au U.length cu) U.length (U.map I64i) 3 1 :: .row (.slice Al C.length cl) C.length (C.map I64i) 3 1 :: .row (.slice Ag G.length cg) G.length (G.flatMap grL) 40 2 :: .blk g3 #[vI (toI p.nx), vI p.cp, vQ p.cr, .slice Ag G.length cg, .slice Al C.length cl, .slice Au U.length cu, .slice At T.length ct, .slice As z.length cs] 56 :: .blk g2 #[vI 0, vI 0, vQ 0, .slice none 0 0, .slice none 0 0, .slice none 0 0, .slice none 0 0, .slice none 0 0] 56 :: rwF 43 z)) (m := p.cp - 0) ⟨0, [], none, 0, Nat.zero_le _, rfl, rfl, Nat.le_refl _, rfl, HF.sub (by kernel_rfl), HM.pt 8 [0, 1, 2, 3, 4, 5, 6, 7]⟩ ?_
  clear HF HM; rintro mS a w_ ⟨x, R, Ar, cr, hx, hR, hRl, hRc, rfl, HF, HM⟩
  refine wp_seq (s_fs1 ?_)
  refine fp HF 4 0 [(174, vP g3 1), (171, vI x)] fun a HF => ?_
  refine s_fc HF HM 4 6 fun a HF => ?_
  refine fp HF 1 5 [(176, .bool (decide ((x : Int) < (p.cp : Int))))] fun a HF => ?_
  refine s_d0 ?_
  rcases HF.tf 176 rfl with ⟨hb176, HF⟩ | ⟨hb176, HF⟩
  ·
   have hd176 := of_decide_eq_true hb176
   have hxc : x < p.cp := by omega
   have hin := so_in h hyg hxc
   refine s_ct HF (wp_skip (wp_seq (wp_block (s_fs1 ?_))))
   refine fo HF 0 rfl rfl (s_ea HF HM #[vQ 0, vW 0, vQ 0] ?_)
   clear HF HM; intro a w13 g13 HF HM
   refine s_d0 (wp_seq (s_fs1 ?_))
   refine fp HF 2 0 [(180, .bool (decide ((y : Int) > (0 : Int))))] fun a HF => ?_
   refine s_d0 ?_
   rcases HF.tf 180 rfl with ⟨hb180, HF⟩ | ⟨hb180, HF⟩
   ·
    have hd180 := of_decide_eq_true hb180
    rw [if_neg (by omega)] at hin
    have hsp : p.spt y x = ⟨p.sn y x 0, p.sn y x 1 % 4294967296, p.sn y x 2⟩ := if_neg (by omega)
    obtain ⟨gq12, oq12, hq12, _⟩ := Rd.qj r7 (Nat.lt_of_le_of_lt (Nat.zero_le _) (show p.so y x < Y7.l.length from (by omega : p.so y x < Y7.l.length))) (by decide)
    have hrq12 := r7; rw [hq12] at hrq12
    refine s_ct HF (s_fs1 ?_)
    refine fp HF 1 0 [(181, .slice (some ⟨gA, oA, none⟩) 9 c)] fun a HF => ?_
    refine s_fz HF HM 1 rfl (v := vP gA (oA + 7)) (Yl.indexAddr (ad := ⟨gA, oA, none⟩) (y := 7) (sz := 1) rfl rfl rfl (by decide) (by kernel_rfl)) fun a HF => ?_
    refine s_fz HF HM 2 rfl (v := .slice Y7.A Y7.l.length Y7.c) (Yl.qd rfl rfl (by kernel_rfl) (fun _ h => (h.old hr).zn (k := 7) (zk (F := Nw.val) (k := 7) (x := Y7) (rfl)))) fun a HF => ?_
    refine fp HF 1 3 [(184, vI (p.so y x))] fun a HF => ?_
    replace HF := HF.sp 183 (.slice (some ⟨gq12, oq12, none⟩) Y7.l.length Y7.c) rfl (by rw [hq12]; try rfl)
    refine s_fz HF HM 4 rfl (v := vP gq12 (oq12 + (p.so y x) * 1)) (Yl.ix gq12 oq12 (p.so y x) 1 rfl rfl rfl) fun a HF => ?_
    refine s_fz HF HM 5 rfl (v := vQ (Y7.l.getD (p.so y x) 0)) (Yl.o1 hrq12 (p.so y x) 0 (by omega) rfl rfl) fun a HF => ?_
    replace HF := HF.sp 186 (vQ (p.sn y x 0)) rfl (by rw [l7]; rfl)
    refine fp HF 1 6 [(187, vP g13 0)] fun a HF => ?_
    refine fo HF 7 rfl rfl (s_es HF HM 0 ?_)
    clear HM; intro w29_7 HM
    refine s_d0 (s_fs1 ?_)
    refine fp HF 1 0 [(188, .slice (some ⟨gA, oA, none⟩) 9 c)] fun a HF => ?_
    refine s_fz HF HM 1 rfl (v := vP gA (oA + 7)) (Yl.indexAddr (ad := ⟨gA, oA, none⟩) (y := 7) (sz := 1) rfl rfl rfl (by decide) (by kernel_rfl)) fun a HF => ?_
    refine s_fz HF HM 2 rfl (v := .slice Y7.A Y7.l.length Y7.c) (Yl.qd rfl rfl (by kernel_rfl) (fun _ h => (h.old hr).zn (k := 7) (zk (F := Nw.val) (k := 7) (x := Y7) (rfl)))) fun a HF => ?_
    refine fp HF 2 3 [(192, vI (IntKind.i64.wrap ((p.so y x : Int) + 1)))] fun a HF => ?_
    replace HF := HF.sp 192 (vI (p.so y x + 1 : Nat)) rfl (qc (by omega) (by omega))
    replace HF := HF.sp 190 (.slice (some ⟨gq12, oq12, none⟩) Y7.l.length Y7.c) rfl (by rw [hq12]; try rfl)
    refine s_fz HF HM 5 rfl (v := vP gq12 (oq12 + (p.so y x + 1) * 1)) (Yl.ix gq12 oq12 (p.so y x + 1) 1 rfl rfl rfl) fun a HF => ?_
    refine s_fz HF HM 6 rfl (v := vQ (Y7.l.getD (p.so y x + 1) 0)) (Yl.o1 hrq12 (p.so y x + 1) 0 (by omega) rfl rfl) fun a HF => ?_
    replace HF := HF.sp 194 (vQ (p.sn y x 1)) rfl (by rw [l7]; rfl)
    refine fp HF 1 7 [(195, vW (IntKind.u32.wrap (p.sn y x 1 : Int)))] fun a HF => ?_
    replace HF := HF.sp 195 (vW ((p.sn y x 1) % 4294967296 : Nat)) rfl (qij (p.sn y x 1))
    refine fp HF 1 8 [(196, vP g13 1)] fun a HF => ?_
    refine fo HF 9 rfl rfl (s_es HF HM 0 ?_)
    clear HM; intro w30_9 HM
    refine s_d0 (qa ?_)
    refine fp HF 2 0 [(198, vI (IntKind.i64.wrap ((p.so y x : Int) + 2)))] fun a HF => ?_
    replace HF := HF.sp 198 (vI (p.so y x + 2 : Nat)) rfl (qc (by omega) (by omega))
    refine fp HF 1 2 [(9, vI (p.so y x + 2 : Nat))] fun a HF => ?_
    refine s_d0 (wp_seq ?_)
    skip
    ·
     refine qa ?_
     refine fp HF 1 0 [(199, .slice (some ⟨gA, oA, none⟩) 9 c)] fun a HF => ?_
     refine s_fz HF HM 1 rfl (v := vP gA (oA + 7)) (Yl.indexAddr (ad := ⟨gA, oA, none⟩) (y := 7) (sz := 1) rfl rfl rfl (by decide) (by kernel_rfl)) fun a HF => ?_
     refine s_fz HF HM 2 rfl (v := .slice Y7.A Y7.l.length Y7.c) (Yl.qd rfl rfl (by kernel_rfl) (fun _ h => (h.old hr).zn (k := 7) (zk (F := Nw.val) (k := 7) (x := Y7) (rfl)))) fun a HF => ?_
     refine fp HF 1 3 [(202, vI (p.so y x + 2 : Nat))] fun a HF => ?_
     replace HF := HF.sp 201 (.slice (some ⟨gq12, oq12, none⟩) Y7.l.length Y7.c) rfl (by rw [hq12]; try rfl)
     refine s_fz HF HM 4 rfl (v := vP gq12 (oq12 + (p.so y x + 2) * 1)) (Yl.ix gq12 oq12 (p.so y x + 2) 1 rfl rfl rfl) fun a HF => ?_
     refine s_fz HF HM 5 rfl (v := vQ (Y7.l.getD (p.so y x + 2) 0)) (Yl.o1 hrq12 (p.so y x + 2) 0 (by omega) rfl rfl) fun a HF => ?_
     replace HF := HF.sp 204 (vQ (p.sn y x 2)) rfl (by rw [l7]; rfl)
     refine fp HF 1 6 [(205, vP g13 2)] fun a HF => ?_
     refine fo HF 7 rfl rfl (s_es HF HM 0 ?_)
     clear HM; intro w32_7 HM
     refine s_d0 (s_fs1 ?_)
     refine fp HF 2 0 [(207, vI (IntKind.i64.wrap (((p.so y x + 2 : Nat) : Int) + 1)))] fun a HF => ?_
     replace HF := HF.sp 207 (vI (p.so y (x + 1))) rfl (qc (by rw [so_s3 (by omega)]; omega) (by rw [so_s3 (by omega)]; omega))
     refine fp HF 1 2 [(9, vI (p.so y (x + 1)))] fun a HF => ?_
     refine s_d0 ?_
     replace HF := HF.to [(9, vI (p.so y (x + 1))), (180, .bool true), (13, vP g13 0), (176, .bool true), (12, vI x), (11, .slice Ar R.length cr), (168, .bool true), (10, vI y), (111, .bool false), (7, vI (1 + 8 * i : Nat)), (6, vI (p.idC i)), (75, .bool false), (5, vI k), (42, .bool false), (4, vI (2 * j : Nat)), (3, vP g3 0), (2, vP g2 0), (0, .slice (some ⟨gA, oA, none⟩) 9 c)]
     refine qa ?_
     refine fp HF 1 0 [(208, .slice Ar R.length cr)] fun a HF => ?_
     refine s_fz HF HM 1 rfl (v := .agg #[vQ (p.sn y x 0), vW ((p.sn y x 1) % 4294967296 : Nat), vQ (p.sn y x 2)]) (Yl.qt rfl rfl si_sp rfl (fun _ h => qg (h.blk (i := 0) rfl))) fun a HF => ?_
     refine fo HF 2 rfl rfl (s_el HF HM ei_sp [(0, .agg #[vQ (p.sn y x 0), vW ((p.sn y x 1) % 4294967296 : Nat), vQ (p.sn y x 2)])] #[vQ (p.sn y x 0), vW ((p.sn y x 1) % 4294967296 : Nat), vQ (p.sn y x 2)] ?_)
     clear HF HM; intro a w210 g210 HF HM
     refine fo HF 3 rfl rfl (qo HF HM (i := 2) rfl ei_sp rfl rfl rfl (news := ([(⟨p.sn y x 0, p.sn y x 1 % 4294967296, p.sn y x 2⟩ : Sp)].flatMap spL)) (HM.rdBlk (i := 0) (n := 1) (size := 3) rfl rfl) (qkg _) (by omega) (by omega) rfl (by decide) ?_)
     clear HF HM; intro a w211 A211 c211 HF HM hc211
     refine fp HF 1 4 [(11, .slice A211 (R.length + 1) c211)] fun a HF => ?_
     refine s_d0 ?_
     have hnA211 : R.length + 1 = (R ++ [p.spt y x]).length := qs rfl
     replace HM := HM.reRow (i := 2) (ys := (R ++ [p.spt y x]).flatMap spL) rfl hnA211 (by rw [hsp]; exact List.flatMap_append.symm)
     rw [hnA211] at hc211
     replace HF := HF.sp 11 (.slice A211 ((R ++ [p.spt y x]).length) c211) rfl (by rw [hnA211])
     replace HF := HF.sp 211 (.slice A211 ((R ++ [p.spt y x]).length) c211) rfl (by rw [hnA211])
     refine qa ?_
     refine fp HF 2 0 [(178, vI (IntKind.i64.wrap ((x : Int) + 1)))] fun a HF => ?_
     replace HF := HF.sp 178 (vI (x + 1 : Nat)) rfl (qc (by omega) (by omega))
     refine fp HF 1 2 [(12, vI (x + 1 : Nat))] fun a HF => ?_
     refine s_d0 ?_
     exact ⟨_, (by omega), x + 1, (R ++ [p.spt y x]), A211, c211, by omega, by rw [hR, q1], by rw [List.length_append, hRl]; rfl, hc211, rfl, HF.sub (by kernel_rfl), HM.pt 10 [2, 3, 4, 5, 6, 7, 8, 9]⟩
   have hd180 := of_decide_eq_false hb180
   rw [if_pos (by omega)] at hin
   have hsp : p.spt y x = ⟨0, 0, p.sn y x 0⟩ := if_pos (by omega)
   obtain ⟨gq13, oq13, hq13, _⟩ := Rd.qj r7 (Nat.lt_of_le_of_lt (Nat.zero_le _) (show p.so y x < Y7.l.length from (by omega : p.so y x < Y7.l.length))) (by decide)
   have hrq13 := r7; rw [hq13] at hrq13
   refine s_cf HF (wp_skip (wp_seq ?_))
   skip
   ·
    refine qa ?_
    refine fp HF 1 0 [(199, .slice (some ⟨gA, oA, none⟩) 9 c)] fun a HF => ?_
    refine s_fz HF HM 1 rfl (v := vP gA (oA + 7)) (Yl.indexAddr (ad := ⟨gA, oA, none⟩) (y := 7) (sz := 1) rfl rfl rfl (by decide) (by kernel_rfl)) fun a HF => ?_
    refine s_fz HF HM 2 rfl (v := .slice Y7.A Y7.l.length Y7.c) (Yl.qd rfl rfl (by kernel_rfl) (fun _ h => (h.old hr).zn (k := 7) (zk (F := Nw.val) (k := 7) (x := Y7) (rfl)))) fun a HF => ?_
    refine fp HF 1 3 [(202, vI (p.so y x))] fun a HF => ?_
    replace HF := HF.sp 201 (.slice (some ⟨gq13, oq13, none⟩) Y7.l.length Y7.c) rfl (by rw [hq13]; try rfl)
    refine s_fz HF HM 4 rfl (v := vP gq13 (oq13 + (p.so y x) * 1)) (Yl.ix gq13 oq13 (p.so y x) 1 rfl rfl rfl) fun a HF => ?_
    refine s_fz HF HM 5 rfl (v := vQ (Y7.l.getD (p.so y x) 0)) (Yl.o1 hrq13 (p.so y x) 0 (by omega) rfl rfl) fun a HF => ?_
    replace HF := HF.sp 204 (vQ (p.sn y x 0)) rfl (by rw [l7]; rfl)
    refine fp HF 1 6 [(205, vP g13 2)] fun a HF => ?_
    refine fo HF 7 rfl rfl (s_es HF HM 0 ?_)
    clear HM; intro w32_7 HM
    refine s_d0 (s_fs1 ?_)
    refine fp HF 2 0 [(207, vI (IntKind.i64.wrap ((p.so y x : Int) + 1)))] fun a HF => ?_
    replace HF := HF.sp 207 (vI (p.so y (x + 1))) rfl (qc (by rw [so_s0 (by omega)]; omega) (by rw [so_s0 (by omega)]; omega))
    refine fp HF 1 2 [(9, vI (p.so y (x + 1)))] fun a HF => ?_
    refine s_d0 (qa ?_)
    refine fp HF 1 0 [(208, .slice Ar R.length cr)] fun a HF => ?_
    refine s_fz HF HM 1 rfl (v := .agg #[vQ 0, vW 0, vQ (p.sn y x 0)]) (Yl.qt rfl rfl si_sp rfl (fun _ h => qg (h.blk (i := 0) rfl))) fun a HF => ?_
    refine fo HF 2 rfl rfl (s_el HF HM ei_sp [(0, .agg #[vQ 0, vW 0, vQ (p.sn y x 0)])] #[vQ 0, vW 0, vQ (p.sn y x 0)] ?_)
    clear HF HM; intro a w210 g210 HF HM
    refine fo HF 3 rfl rfl (qo HF HM (i := 2) rfl ei_sp rfl rfl rfl (news := ([(⟨0, 0, p.sn y x 0⟩ : Sp)].flatMap spL)) (HM.rdBlk (i := 0) (n := 1) (size := 3) rfl rfl) (qkg _) (by omega) (by omega) rfl (by decide) ?_)
    clear HF HM; intro a w211 A211 c211 HF HM hc211
    refine fp HF 1 4 [(11, .slice A211 (R.length + 1) c211)] fun a HF => ?_
    refine s_d0 ?_
    have hnA211 : R.length + 1 = (R ++ [p.spt y x]).length := qs rfl
    replace HM := HM.reRow (i := 2) (ys := (R ++ [p.spt y x]).flatMap spL) rfl hnA211 (by rw [hsp]; exact List.flatMap_append.symm)
    rw [hnA211] at hc211
    replace HF := HF.sp 11 (.slice A211 ((R ++ [p.spt y x]).length) c211) rfl (by rw [hnA211])
    replace HF := HF.sp 211 (.slice A211 ((R ++ [p.spt y x]).length) c211) rfl (by rw [hnA211])
    refine qa ?_
    refine fp HF 2 0 [(178, vI (IntKind.i64.wrap ((x : Int) + 1)))] fun a HF => ?_
    replace HF := HF.sp 178 (vI (x + 1 : Nat)) rfl (qc (by omega) (by omega))
    refine fp HF 1 2 [(12, vI (x + 1 : Nat))] fun a HF => ?_
    refine s_d0 ?_
    exact ⟨_, (by omega), x + 1, (R ++ [p.spt y x]), A211, c211, by omega, by rw [hR, q1], by rw [List.length_append, hRl]; rfl, hc211, rfl, HF.sub (by kernel_rfl), HM.pt 10 [2, 3, 4, 5, 6, 7, 8, 9]⟩
  have hd176 := of_decide_eq_false hb176
  refine s_cf HF (wp_exit (qa ?_))
  refine fp HF 2 0 [(213, vP g3 7)] fun a HF => ?_
  refine s_fc HF HM 2 6 fun a HF => ?_
  refine fp HF 1 3 [(215, .slice Ar R.length cr)] fun a HF => ?_
  refine fo HF 4 rfl rfl (s_el HF HM ei_rw [(0, .slice Ar R.length cr)] #[.slice Ar R.length cr] ?_)
  clear HF HM; intro a w216 g216 HF HM
  refine fo HF 5 rfl rfl (qo HF HM (i := 2) rfl ei_rw rfl rfl rfl (news := ([(⟨Ar, cr, R⟩ : Rw)].map Rw.val)) (HM.rdBlk (i := 0) (n := 1) (size := 1) rfl rfl) (qrr _) (by omega) (by omega) rfl (by decide) ?_)
  clear HF HM; intro a w217 A217 c217 HF HM hc217
  refine fp HF 2 6 [(219, vP g3 7)] fun a HF => ?_
  refine fo HF 8 rfl rfl (s_es HF HM 7 ?_)
  clear HM; intro w35_8 HM
  refine s_d0 ?_
  have hnA217 : z.length + 1 = (z ++ [(⟨Ar, cr, R⟩ : Rw)]).length := qs rfl
  replace HM := HM.reRow (i := 2) (ys := (z ++ [(⟨Ar, cr, R⟩ : Rw)]).map Rw.val) rfl hnA217 (by exact List.map_append.symm)
  rw [hnA217] at hc217
  replace HF := HF.sp 217 (.slice A217 ((z ++ [(⟨Ar, cr, R⟩ : Rw)]).length) c217) rfl (by rw [hnA217])
  replace HM := HM.reBlk (i := 7) (ds := #[vI (toI p.nx), vI p.cp, vQ p.cr, .slice Ag G.length cg, .slice Al C.length cl, .slice Au U.length cu, .slice At T.length ct, .slice A217 ((z ++ [(⟨Ar, cr, R⟩ : Rw)]).length) c217]) rfl (by rw [hnA217]; rfl)
  replace HM := HM.pt (fs' := (.row (.slice Ar R.length cr) R.length (R.flatMap spL) 43 3 :: .row (.slice A217 ((z ++ [(⟨Ar, cr, R⟩ : Rw)]).length) c217) ((z ++ [(⟨Ar, cr, R⟩ : Rw)]).length) ((z ++ [(⟨Ar, cr, R⟩ : Rw)]).map Rw.val) 44 1 :: .row (.slice At T.length ct) T.length (T.flatMap tkL) 46 8 :: .row (.slice Au U.length cu) U.length (U.map I64i) 3 1 :: .row (.slice Al C.length cl) C.length (C.map I64i) 3 1 :: .row (.slice Ag G.length cg) G.length (G.flatMap grL) 40 2 :: .blk g3 #[vI (toI p.nx), vI p.cp, vQ p.cr, .slice Ag G.length cg, .slice Al C.length cl, .slice Au U.length cu, .slice At T.length ct, .slice A217 ((z ++ [(⟨Ar, cr, R⟩ : Rw)]).length) c217] 56 :: .blk g2 #[vI 0, vI 0, vQ 0, .slice none 0 0, .slice none 0 0, .slice none 0 0, .slice none 0 0, .slice none 0 0] 56 :: rwF 43 z)) 9 [1, 2, 3, 4, 5, 6, 7, 8]
  replace HM := Mem.toRw (fs := [.row (.slice A217 ((z ++ [(⟨Ar, cr, R⟩ : Rw)]).length) c217) ((z ++ [(⟨Ar, cr, R⟩ : Rw)]).length) ((z ++ [(⟨Ar, cr, R⟩ : Rw)]).map Rw.val) 44 1, .row (.slice At T.length ct) T.length (T.flatMap tkL) 46 8, .row (.slice Au U.length cu) U.length (U.map I64i) 3 1, .row (.slice Al C.length cl) C.length (C.map I64i) 3 1, .row (.slice Ag G.length cg) G.length (G.flatMap grL) 40 2, .blk g3 #[vI (toI p.nx), vI p.cp, vQ p.cr, .slice Ag G.length cg, .slice Al C.length cl, .slice Au U.length cu, .slice At T.length ct, .slice A217 ((z ++ [(⟨Ar, cr, R⟩ : Rw)]).length) c217] 56, .blk g2 #[vI 0, vI 0, vQ 0, .slice none 0 0, .slice none 0 0, .slice none 0 0, .slice none 0 0, .slice none 0 0] 56]) HM
  replace HM : Mem w _ (.row (.slice A217 ((z ++ [(⟨Ar, cr, R⟩ : Rw)]).length) c217) ((z ++ [(⟨Ar, cr, R⟩ : Rw)]).length) ((z ++ [(⟨Ar, cr, R⟩ : Rw)]).map Rw.val) 44 1 :: .row (.slice At T.length ct) T.length (T.flatMap tkL) 46 8 :: .row (.slice Au U.length cu) U.length (U.map I64i) 3 1 :: .row (.slice Al C.length cl) C.length (C.map I64i) 3 1 :: .row (.slice Ag G.length cg) G.length (G.flatMap grL) 40 2 :: .blk g3 #[vI (toI p.nx), vI p.cp, vQ p.cr, .slice Ag G.length cg, .slice Al C.length cl, .slice Au U.length cu, .slice At T.length ct, .slice A217 ((z ++ [(⟨Ar, cr, R⟩ : Rw)]).length) c217] 56 :: .blk g2 #[vI 0, vI 0, vQ 0, .slice none 0 0, .slice none 0 0, .slice none 0 0, .slice none 0 0, .slice none 0 0] 56 :: rwF 43 (z ++ [(⟨Ar, cr, R⟩ : Rw)])) := HM
  refine qa ?_
  refine fp HF 2 0 [(170, vI (IntKind.i64.wrap ((y : Int) + 1)))] fun a HF => ?_
  replace HF := HF.sp 170 (vI (y + 1 : Nat)) rfl (qc (by omega) (by omega))
  refine fp HF 1 2 [(10, vI (y + 1 : Nat))] fun a HF => ?_
  refine s_d0 ?_
  replace HF := HF.sp 9 (vI (p.so (y + 1) 0)) rfl (by rw [qgu, show x = p.cp by omega])
  exact ⟨_, (by omega), y + 1, (z ++ [(⟨Ar, cr, R⟩ : Rw)]), A217, c217, by omega, by rw [List.length_append, hzl]; rfl, by rw [List.map_append, hz, q1, hR, show x = p.cp by omega]; rfl, (fun q h => (List.mem_append.1 h).elim (hzc q) (fun h => by rw [List.mem_singleton] at h; subst h; exact hRc)), hc217, rfl, HF.sub (by kernel_rfl), HM.pt 7 [0, 1, 2, 3, 4, 5, 6]⟩
 have hd168 := of_decide_eq_false hb168
 have e0 : y = p.gp := by omega
 have e1 : mapR p.gp p.grp = G := by rw [hG, show j + 1 = p.gp by omega]
 have e2 : p.cl.map toI = C := by rw [hC, show k = p.cp by omega]; exact (qd1 h.cl toI).symm
 have e3 : p.cu.map toI = U := by rw [hU, show k = p.cp by omega]; exact (qd1 h.cu toI).symm
 have e4 : mapR p.tk p.tskB = T := by rw [hT, show i = p.tk by omega]
 have e5 : (mapR p.gp fun g => (⟨none, 0, p.row g⟩ : Rw)).map Rw.l = z.map Rw.l := by rw [hz, e0]; exact qnj _ _ _
 refine s_cf HF (wp_exit (s_fs1 ?_))
 refine s_fz HF HM 0 rfl (v := .agg #[vI (toI p.nx), vI p.cp, vQ p.cr, .slice Ag G.length cg, .slice Al C.length cl, .slice Au U.length cu, .slice At T.length ct, .slice As z.length cs]) (Yl.qt rfl rfl zi rfl (fun _ h => qg (h.blk (i := 5) rfl))) fun a HF => ?_
 refine fo HF 1 rfl rfl (e_sa HF HM 6 rfl rfl rfl rfl rfl zi rfl rfl (by simp [Value.oneCell']) ?_)
 clear HM; intro w36_1 HM
 refine s_d0 (wp_ret ?_)
 exact ret1 rfl HF (.cellS (i := 6) HF HM rfl rfl zi rfl) (⟨(⟨toI p.nx, ⟨(p.cp : Int), p.cr, Ag, cg, G, Al, cl, C, Au, cu, U, At, ct, T, As, cs, z⟩⟩ : Snm), rfl, sn_of rfl ⟨⟨rfl, rfl, e1⟩, e2, e3, e4, e5⟩, ⟨hGc, hCc, hUc, hTc, hcs, hzc⟩, HM.pt 7 [4, 3, 2, 1, 0]⟩)
theorem qwg (A : Option Addr) (c : Nat) (l : List Nat) (w : World) (hr : Rd w w.heap.size 1 A l.length (l.map B8)) (hc : l.length ≤ c) (hn : l.length ≤ 100000000) (hl : ∀ z ∈ l, z < 256) {p : Pr} (h : opnR l = .ok p) : Calls Tryz.prog 72 #[.slice A l.length c] w (fun r w' => ∃ (Y0 Y1 Y2 Y3 Y4 Y5 Y6 Y7 Y8 : Nw) (A : Option Addr) (c : Nat) (EA : Option Addr) (ec : Nat), Y1.l = [p.nx] ∧ Y2.l = [p.cp, p.cr, p.gp] ∧ Y3.l = p.gs ∧ Y4.l = p.cl ∧ Y5.l = p.cu ∧ Y6.l = p.tk :: p.ts ∧ Y7.l = p.sp ∧ Y6.l.length ≤ Y6.c ∧ r = .returned (.tuple #[.slice A 9 c, .slice EA 9 ec, .int .i64 0]) ∧ Mem w w' (.row (.slice A 9 c) 9 (([Y0, Y1, Y2, Y3, Y4, Y5, Y6, Y7, Y8] : List Nw).map Nw.val) 58 1 :: .row (.slice EA 9 ec) 9 (p.ends.map I64v) 3 1 :: nwF 22 [Y0, Y1, Y2, Y3, Y4, Y5, Y6, Y7, Y8])) :=
 (qg0 A c l w hr hc hn hl).mono fun r w' h1 => by
  rcases h1 with ⟨k, h2, _⟩ | ⟨p2, Q, A, c, EA, ec, h2, h3, h4, h5, h6, h7, h8⟩
  ·rw [h] at h2; cases h2
  ·obtain rfl : p2 = p := by rw [h] at h2; injection h2 with h2; exact h2.symm
   obtain ⟨A0, c0, A1, c1, A2, c2, A3, c3, A4, c4, A5, c5, A6, c6, A7, c7, A8, c8, rfl⟩ := nine h3
   exact ⟨_, _, _, _, _, _, _, _, _, A, c, EA, ec, rfl, rfl, rfl, rfl, rfl, rfl, rfl, h4 _ (by simp), h7, h8⟩
theorem qwh (A : Option Addr) (c : Nat) (l : List Nat) (w : World) (hr : Rd w w.heap.size 1 A l.length (l.map B8)) (hc : l.length ≤ c) (hn : l.length ≤ 100000000) (hl : ∀ z ∈ l, z < 256) {k : Nat} (h : opnR l = .error k) : Calls Tryz.prog 72 #[.slice A l.length c] w (Is w (.tuple #[.slice none 0 0, .slice none 0 0, .int .i64 (k : Int)])) :=
 (qg0 A c l w hr hc hn hl).mono fun r w' h1 => by
  rcases h1 with ⟨k2, h2, h3⟩ | ⟨p2, Q, A, c, EA, ec, h2, _⟩
  ·obtain rfl : k2 = k := by rw [h] at h2; injection h2 with h2; exact h2.symm
   exact h3
  ·rw [h] at h2; cases h2
theorem q1p (s : Snm) : ∀ b ∈ outS s, b < 256 := by
 unfold outS
 split
 ·exact qf9 (qrm s)
 ·intro b hb; cases hb
theorem qpz (A : Option Addr) (c : Nat) (l : List Nat) (w : World) (hr : Rd w w.heap.size 1 A l.length (l.map B8)) (hc : l.length ≤ c) (hn : l.length ≤ 100000000) (hl : ∀ z ∈ l, z < 256) :
    Calls Tryz.prog 39 #[.slice A l.length c] w (qks w (rdE l) (rdS l)) := by
 refine s_ce Tryz.func39 [.slice A l.length c] [(0, .slice A l.length c)] fun a HF => ?_
 have HM := Mem.start w
 refine s_fs1 ?_
 refine fo HF 0 rfl rfl (s_ea HF HM #[vI 0, vI 0, vQ 0, .slice none 0 0, .slice none 0 0, .slice none 0 0, .slice none 0 0, .slice none 0 0] ?_)
 clear HF HM; intro a w2 g2 HF HM
 refine fp HF 1 1 [(3, vI 0)] fun a HF => ?_
 refine s_d0 (wp_seq ?_)
 rcases hop : opnR l with k | p
 ·
  have hke := qb8 hop
  refine qa ?_
  refine fp HF 1 0 [(10, .slice A l.length c)] fun a HF => ?_
  refine fo HF 1 rfl rfl (e_is HF HM [.slice A l.length c] (.tuple #[.slice none 0 0, .slice none 0 0, vI k]) rfl rfl (qwh A c l _ (HM.old hr) hc hn hl hop) fun w11 hbw HM a HF => ?_)
  refine fp HF 7 2 [(6, vI k), (4, .slice none 0 0)] fun a HF => ?_
  refine s_d0 (wp_seq (s_fs1 ?_))
  refine fp HF 2 0 [(16, .bool ((k : Int) != (0 : Int)))] fun a HF => ?_
  refine s_d0 ?_
  rcases HF.tf 16 rfl with ⟨hb16, HF⟩ | ⟨hb16, HF⟩
  ·
   have hd16 := bne_iff_ne.1 hb16
   refine s_ct HF (s_fs1 ?_)
   refine s_fz HF HM 0 rfl (v := .agg #[vI 0, vI 0, vQ 0, .slice none 0 0, .slice none 0 0, .slice none 0 0, .slice none 0 0, .slice none 0 0]) (Yl.build (vs := []) rfl (by kernel_rfl) (by kernel_rfl)) fun a HF => ?_
   refine fp HF 1 1 [(18, vI k)] fun a HF => ?_
   refine fo HF 2 rfl rfl (e_sa HF HM 0 rfl rfl rfl rfl rfl zi rfl rfl (by simp [Value.oneCell']) ?_)
   clear HM; intro w3_2 HM
   refine fp HF 1 3 [(3, vI k)] fun a HF => ?_
   refine s_d0 (wp_ret ?_)
   exact ret2 rfl HF (.cellS (i := 0) HF HM rfl rfl zi rfl) (.tmp HF rfl) (qau (rd_no hop) rfl (HM.pk []))
  have hd16 := bne_eq_false_iff_eq.1 hb16
  exfalso; omega
 ·
  have hfit := (qde hl hop).2.2.1
  refine qa ?_
  refine fp HF 1 0 [(10, .slice A l.length c)] fun a HF => ?_
  refine fo HF 1 rfl rfl ?_
  refine e_cl HF [.slice A l.length c] rfl rfl (qwg A c l _ (HM.old hr) hc hn hl hop) ?_
  rintro _ w11 ⟨Y0, Y1, Y2, Y3, Y4, Y5, Y6, Y7, Y8, Aq, cq, Ae, ce, l1, l2, l3, l4, l5, l6, l7, hc6, rfl, hm⟩
  refine ⟨_, rfl, ?_⟩
  replace HM := HM.joinT hm
  clear HF; intro a HF
  refine fp HF 7 2 [(6, vI 0), (4, .slice Aq 9 cq)] fun a HF => ?_
  refine s_d0 (wp_seq (s_fs1 ?_))
  refine fp HF 2 0 [(16, .bool false)] fun a HF => ?_
  refine s_d0 (s_cf HF (wp_skip (s_fs1 ?_)))
  refine fp HF 1 0 [(19, .slice Aq 9 cq)] fun a HF => ?_
  refine fo HF 1 rfl rfl ?_
  refine e_cl HF [.slice Aq 9 cq] rfl rfl (qtx Aq cq Y0 Y1 Y2 Y3 Y4 Y5 Y6 Y7 Y8 p hfit _ (HM.rd (i := 1) rfl) (HM.nwAt 3 rfl Y1 (by simp)) (HM.nwAt 3 rfl Y2 (by simp)) (HM.nwAt 3 rfl Y3 (by simp)) (HM.nwAt 3 rfl Y4 (by simp)) (HM.nwAt 3 rfl Y5 (by simp)) (HM.nwAt 3 rfl Y6 (by simp)) (HM.nwAt 3 rfl Y7 (by simp)) l1 l2 l3 l4 l5 l6 l7 hc6) ?_
  rintro _ w20 ⟨z, rfl, hz, hcap, hm⟩
  refine ⟨_, rfl, ?_⟩
  replace HM := Mem.joinT (HM.pk [0]) hm
  clear HF; intro a HF
  refine fo HF 2 rfl rfl (s_ea HF HM #[vI 0, vI 0, vQ 0, .slice none 0 0, .slice none 0 0, .slice none 0 0, .slice none 0 0, .slice none 0 0] ?_)
  clear HF HM; intro a w7 g7 HF HM
  refine fo HF 3 rfl rfl (e_sa HF HM 0 rfl rfl rfl rfl rfl zi rfl rfl (qbo z) ?_)
  clear HM; intro w4_3 HM
  refine s_d0 (s_fs1 ?_)
  refine s_fz HF HM 0 rfl (v := .agg z.cells) (Yl.qt rfl rfl zi rfl (fun _ h => qg (h.blk (i := 0) rfl))) fun a HF => ?_
  replace HF := HF.sp 22 (.agg z.cells) rfl (rfl)
  refine fo HF 1 rfl rfl ?_
  refine s_ek HF HM [.agg z.cells] (qpy z (qxp hz (qxm hfit)) (qhx (qck hz) (qno hfit _ (.inr rfl))) _ (HM.stX 2 rfl)) fun A23 c23 w23 hc23 HM a HF => ?_
  refine fp HF 5 2 [(6, vI (chkS z)), (8, .slice A23 ((outS z).length) c23)] fun a HF => ?_
  refine s_d0 (wp_seq (s_fs1 ?_))
  refine fp HF 3 0 [(28, .bool ((chkS z : Int) != (0 : Int)))] fun a HF => ?_
  rcases HF.tf 28 rfl with ⟨hb28, HF⟩ | ⟨hb28, HF⟩
  ·
   have hd28 := bne_iff_ne.1 hb28
   refine fp HF 6 3 [(34, .bool true)] fun a HF => ?_
   refine s_d0 (s_ct HF (s_fs1 ?_))
   refine s_fz HF HM 0 rfl (v := .agg #[vI 0, vI 0, vQ 0, .slice none 0 0, .slice none 0 0, .slice none 0 0, .slice none 0 0, .slice none 0 0]) (Yl.build (vs := []) rfl (by kernel_rfl) (by kernel_rfl)) fun a HF => ?_
   refine fo HF 1 rfl rfl (e_sa HF HM 2 rfl rfl rfl rfl rfl zi rfl rfl (by simp [Value.oneCell']) ?_)
   clear HM; intro w7_1 HM
   refine fp HF 1 2 [(3, vI 347)] fun a HF => ?_
   refine s_d0 (wp_ret ?_)
   exact ret2 rfl HF (.cellS (i := 2) HF HM rfl rfl zi rfl) (.tmp HF rfl) (qau (qxn hl hop (fun h => by have h2 := h.1; rw [← qkh hz] at h2; omega)) rfl (HM.pk []))
  have hd28 := bne_eq_false_iff_eq.1 hb28
  refine fp HF 1 3 [(29, .slice A23 ((outS z).length) c23)] fun a HF => ?_
  refine s_fz HF HM 4 rfl (v := .string (bstr (outS z))) (Yl.str rfl rfl (fun _ h => h.rd (i := 0) rfl)) fun a HF => ?_
  refine fp HF 1 5 [(31, .slice A l.length c)] fun a HF => ?_
  refine s_fz HF HM 6 rfl (v := .string (bstr l)) (Yl.str rfl rfl (fun _ h => h.old hr)) fun a HF => ?_
  refine fp HF 1 7 [(33, .bool (!(((bstr (outS z))).toList == ((bstr l)).toList)))] fun a HF => ?_
  replace HF := HF.sp 33 (.bool (!decide (outS z = l))) rfl (by rw [qga (q1p z) hl])
  refine fp HF 1 8 [(34, .bool (!decide (outS z = l)))] fun a HF => ?_
  refine s_d0 ?_
  rcases HF.tf 34 rfl with ⟨hb34, HF⟩ | ⟨hb34, HF⟩
  ·
   refine s_ct HF (s_fs1 ?_)
   refine s_fz HF HM 0 rfl (v := .agg #[vI 0, vI 0, vQ 0, .slice none 0 0, .slice none 0 0, .slice none 0 0, .slice none 0 0, .slice none 0 0]) (Yl.build (vs := []) rfl (by kernel_rfl) (by kernel_rfl)) fun a HF => ?_
   refine fo HF 1 rfl rfl (e_sa HF HM 2 rfl rfl rfl rfl rfl zi rfl rfl (by simp [Value.oneCell']) ?_)
   clear HM; intro w7_1 HM
   refine fp HF 1 2 [(3, vI 347)] fun a HF => ?_
   refine s_d0 (wp_ret ?_)
   exact ret2 rfl HF (.cellS (i := 2) HF HM rfl rfl zi rfl) (.tmp HF rfl) (qau (qxn hl hop (fun h => by have h2 := h.2; rw [← qw9 hz] at h2; simp [h2] at hb34)) rfl (HM.pk []))
  refine s_cf HF (wp_skip (s_fs1 ?_))
  refine s_fz HF HM 0 rfl (v := .agg z.cells) (Yl.qt rfl rfl zi rfl (fun _ h => qg (h.blk (i := 1) rfl))) fun a HF => ?_
  refine fo HF 1 rfl rfl (e_sa HF HM 2 rfl rfl rfl rfl rfl zi rfl rfl (qbo z) ?_)
  clear HM; intro w8_1 HM
  refine fp HF 1 2 [(3, vI 0)] fun a HF => ?_
  refine s_d0 (wp_ret ?_)
  exact ret2 rfl HF (.cellS (i := 2) HF HM rfl rfl zi rfl) (.tmp HF rfl) (qkt (qy7 hl hop ⟨by rw [← qkh hz]; omega, by rw [← qw9 hz]; simpa using hb34⟩) rfl hz hcap (HM.subl (List.sublist_append_right ([.row (.slice A23 ((outS z).length) c23) ((outS z).length) ((outS z).map B8) 5 1, .blk g7 z.cells 56, .blk g2 z.cells 56] : List Fact) _)))
theorem qp4 (A : Option Addr) (c : Nat) (la : List Nat) (D : Option Addr) (d : Nat) (lb : List Nat) (B : Nat) (w : World) (hL : LaidX B w) (hB : B ≤ w.heap.size) (hr1 : Rd w w.heap.size 1 A la.length (la.map B8)) (hc1 : la.length ≤ c) (hn1 : la.length ≤ 100000000) (hl1 : ∀ z ∈ la, z < 256) (hr2 : Rd w w.heap.size 1 D lb.length (lb.map B8)) (hc2 : lb.length ≤ d) (hn2 : lb.length ≤ 100000000) (hl2 : ∀ z ∈ lb, z < 256) :
    Calls Tryz.prog 13 #[.slice A la.length c, .slice D lb.length d] w (Is w (.bool true)) := by
 have hsl := qt0 la
 have hnl := qtz hl1
 have hfa := qz2 hl1
 refine s_ce Tryz.func13 [.slice A la.length c, .slice D lb.length d] [(0, .slice A la.length c), (1, .slice D lb.length d)] fun a HF => ?_
 have HM := Mem.start w
 refine s_fs1 ?_
 refine fp HF 1 0 [(4, .bool false)] fun a HF => ?_
 refine s_d0 (s_fs1 ?_)
 refine fp HF 1 0 [(25, .slice A la.length c)] fun a HF => ?_
 refine fo HF 1 rfl rfl ?_
 refine s_ek HF HM [.slice A la.length c] (qwn A la.length c la _ (HM.old hr1) (by omega) rfl) fun Ow co w26 hco HM a HF => ?_
 refine fp HF 1 2 [(5, .slice Ow la.length co)] fun a HF => ?_
 refine s_d0 (s_fs1 ?_)
 refine fp HF 1 0 [(28, .slice Ow la.length co)] fun a HF => ?_
 refine fo HF 1 rfl rfl ?_
 refine e_cl HF [.slice Ow la.length co] rfl rfl (qk8 Ow co la B _ (hL.mem HM hB) (HM.le hB) ((HM.rd (i := 0) rfl).pre rfl (by omega)) (by omega) hn1 hl1) ?_
 rintro _ w29 ⟨z1, rfl, hz1, hcapz1, hm⟩
 refine ⟨_, rfl, ?_⟩
 replace HM := (show Mem w _ (.row (.slice Ow (la.length + 12) co) (la.length + 12) ((la ++ marks 12).map B8) 5 1 :: stF z1.st) from HM.joinT hm)
 clear HF; intro a HF
 refine fp HF 3 2 [(31, vI (rdE la)), (30, .agg z1.cells)] fun a HF => ?_
 refine fo HF 5 rfl rfl (s_ea HF HM #[vI 0, vI 0, vQ 0, .slice none 0 0, .slice none 0 0, .slice none 0 0, .slice none 0 0, .slice none 0 0] ?_)
 clear HF HM; intro a w6 g6 HF HM
 refine fo HF 6 rfl rfl (e_sa HF HM 0 rfl rfl rfl rfl rfl z4 rfl rfl (qbo z1) ?_)
 clear HM; intro w2_6 HM
 refine fp HF 1 7 [(7, vI (rdE la))] fun a HF => ?_
 refine s_d0 (s_fs1 ?_)
 refine fp HF 1 0 [(33, .slice A la.length c)] fun a HF => ?_
 refine fo HF 1 rfl rfl ?_
 refine e_cl HF [.slice A la.length c] rfl rfl (qpz A c la _ (HM.old hr1) hc1 hn1 hl1) ?_
 rintro _ w34 ⟨z2, rfl, hz2, hcapz2, hm⟩
 refine ⟨_, rfl, ?_⟩
 replace HM := (show Mem w _ (.blk g6 z1.cells 32 :: .row (.slice Ow (la.length + 12) co) (la.length + 12) ((la ++ marks 12).map B8) 5 1 :: (stF z1.st ++ (stF z2.st))) from HM.joinT hm)
 clear HF; intro a HF
 refine fp HF 3 2 [(36, vI (rdE la)), (35, .agg z2.cells)] fun a HF => ?_
 refine fo HF 5 rfl rfl (s_ea HF HM #[vI 0, vI 0, vQ 0, .slice none 0 0, .slice none 0 0, .slice none 0 0, .slice none 0 0, .slice none 0 0] ?_)
 clear HF HM; intro a w8 g8 HF HM
 refine fo HF 6 rfl rfl (e_sa HF HM 0 rfl rfl rfl rfl rfl zi rfl rfl (qbo z2) ?_)
 clear HM; intro w3_6 HM
 refine fp HF 1 7 [(9, vI (rdE la))] fun a HF => ?_
 refine s_d0 (s_fs1 ?_)
 refine fp HF 1 0 [(38, .slice Ow la.length co)] fun a HF => ?_
 refine fo HF 1 rfl rfl ?_
 refine s_ek HF HM [.slice Ow la.length co] (qfc Ow co la B _ (hL.mem HM hB) (HM.le hB) ((HM.rd (i := 2) rfl).pre rfl (by omega)) (by omega) hn1 hl1) fun A39 c39 w39 hc39 HM a HF => ?_
 refine fp HF 5 2 [(11, vI (errR la)), (10, .slice A39 ((pnums la).length) c39)] fun a HF => ?_
 refine s_d0 (s_fs1 ?_)
 refine fp HF 1 0 [(43, .slice A la.length c)] fun a HF => ?_
 refine fo HF 1 rfl rfl ?_
 refine s_ek HF HM [.slice A la.length c] (qi9 A c la _ (HM.old hr1) hc1 hn1 hl1) fun A44 c44 w44 hc44 HM a HF => ?_
 refine fp HF 5 2 [(13, vI (errR la)), (12, .slice A44 ((pnums la).length) c44)] fun a HF => ?_
 refine s_d0 (s_fs1 ?_)
 refine fp HF 1 0 [(48, .slice Ow la.length co)] fun a HF => ?_
 refine fo HF 1 rfl rfl ?_
 refine s_ek HF HM [.slice Ow la.length co] (qce Ow co la B _ (hL.mem HM hB) (HM.le hB) ((HM.rd (i := 4) rfl).pre rfl (by omega)) (by omega) hn1 hl1) fun A49 c49 w49 hc49 HM a HF => ?_
 refine fp HF 5 2 [(15, vI (errR la)), (14, .slice A49 ((psecs la).length) c49)] fun a HF => ?_
 refine s_d0 (s_fs1 ?_)
 refine fp HF 1 0 [(53, .slice A la.length c)] fun a HF => ?_
 refine fo HF 1 rfl rfl ?_
 refine s_ek HF HM [.slice A la.length c] (qbp A c la _ (HM.old hr1) hc1 hn1 hl1) fun A54 c54 w54 hc54 HM a HF => ?_
 refine fp HF 5 2 [(17, vI (errR la)), (16, .slice A54 ((psecs la).length) c54)] fun a HF => ?_
 refine s_d0 (s_fs1 ?_)
 refine fp HF 2 0 [(59, .slice D lb.length d), (58, .slice Ow la.length co)] fun a HF => ?_
 refine fo HF 2 rfl rfl (e_is HF HM [.slice Ow la.length co, .slice D lb.length d] (.tuple #[.string (difN la lb), vI (difE la lb)]) rfl rfl (qff Ow co la D d lb B _ (hL.mem HM hB) (HM.le hB) ((HM.rd (i := 6) rfl).pre rfl (by omega)) (by omega) hn1 hl1 (HM.old hr2) hc2 hn2 hl2) fun w60 hbw HM a HF => ?_)
 refine fp HF 5 3 [(19, vI (difE la lb)), (18, .string (difN la lb))] fun a HF => ?_
 refine s_d0 (s_fs1 ?_)
 refine fp HF 2 0 [(65, .slice D lb.length d), (64, .slice A la.length c)] fun a HF => ?_
 refine fo HF 2 rfl rfl (e_is HF HM [.slice A la.length c, .slice D lb.length d] (.tuple #[.string (difN la lb), vI (difE la lb)]) rfl rfl (qja A c la D d lb _ (HM.old hr1) hc1 hn1 hl1 (HM.old hr2) hc2 hn2 hl2) fun w66 hbw HM a HF => ?_)
 refine fp HF 5 3 [(21, vI (difE la lb)), (20, .string (difN la lb))] fun a HF => ?_
 refine s_d0 (wp_seq (wp_seq ?_))
 refine za HM [.row (.slice A54 ((psecs la).length) c54) ((psecs la).length) ((psecs la).flatMap secL) 83 3, .row (.slice A49 ((psecs la).length) c49) ((psecs la).length) ((psecs la).flatMap secL) 82 3, .row (.slice A44 ((pnums la).length) c44) ((pnums la).length) ((pnums la).map U64) 22 1, .row (.slice A39 ((pnums la).length) c39) ((pnums la).length) ((pnums la).map U64) 22 1, .blk g8 z2.cells 56, .blk g6 z1.cells 32, .row (.slice Ow (la.length + 12) co) (la.length + 12) ((la ++ marks 12).map B8) 5 1] [0, 1, 2, 3, 4, 5, 6] [] fun HM HS => ?_
 refine ap HF (fun _ => HS) [0, 1] (bf 43 [0, 1]) [(70, vI (rdE la)), (69, vI (rdE la))] fun a HF => ?_
 refine qh HF (fun _ => HS) (i := 2) rfl rfl (d := 71) rfl (by decide) (by kernel_rfl) (fun _ _ _ h => h) (v := .bool ((rdE la : Int) != (rdE la : Int))) (fun _ => Yl.pure (by kernel_rfl)) fun a HF => ?_
 replace HF := HF.sp 71 (.bool false) rfl (by simp)
 refine ap HF (fun _ => HS) [3, 4, 5] (bf 43 [0, 1, 2, 3, 4, 5]) [(74, vI (errR la)), (73, vI (errR la)), (72, .bool false)] fun a HF => ?_
 refine qh HF (fun _ => HS) (i := 6) rfl rfl (d := 75) rfl (by decide) (by kernel_rfl) (fun _ _ _ h => h) (v := .bool ((errR la : Int) != (errR la : Int))) (fun _ => Yl.pure (by kernel_rfl)) fun a HF => ?_
 replace HF := HF.sp 75 (.bool false) rfl (by simp)
 refine ap HF (fun _ => HS) [7, 8, 9, 10] (bf 43 [0, 1, 2, 3, 4, 5, 6, 7, 8, 9, 10]) [(79, vI (errR la)), (78, vI (errR la)), (77, .bool false)] fun a HF => ?_
 refine qh HF (fun _ => HS) (i := 11) rfl rfl (d := 80) rfl (by decide) (by kernel_rfl) (fun _ _ _ h => h) (v := .bool ((errR la : Int) != (errR la : Int))) (fun _ => Yl.pure (by kernel_rfl)) fun a HF => ?_
 replace HF := HF.sp 80 (.bool false) rfl (by simp)
 refine ap HF (fun _ => HS) [12, 13, 14, 15] (bf 43 [0, 1, 2, 3, 4, 5, 6, 7, 8, 9, 10, 11, 12, 13, 14, 15]) [(84, vI (difE la lb)), (83, vI (difE la lb)), (82, .bool false)] fun a HF => ?_
 refine qh HF (fun _ => HS) (i := 16) rfl rfl (d := 85) rfl (by decide) (by kernel_rfl) (fun _ _ _ h => h) (v := .bool ((difE la lb : Int) != (difE la lb : Int))) (fun _ => Yl.pure (by kernel_rfl)) fun a HF => ?_
 replace HF := HF.sp 85 (.bool false) rfl (by simp)
 refine ap HF (fun _ => HS) [17, 18] (bf 43 [0, 1, 2, 3, 4, 5, 6, 7, 8, 9, 10, 11, 12, 13, 14, 15, 16, 17, 18]) [(87, .bool false)] fun a HF => ?_
 refine s_az HF HS 19 rfl (v := .agg z1.cells) (Yl.qt rfl rfl z4 rfl (fun _ h => qg (h.blk (i := 5) rfl))) fun a HF => ?_
 replace HF := HF.sp 88 (.agg z1.cells) rfl (rfl)
 refine s_az HF HS 21 rfl (v := .agg z2.cells) (Yl.qt rfl rfl zi rfl (fun _ h => qg (h.blk (i := 4) rfl))) fun a HF => ?_
 replace HF := HF.sp 90 (.agg z2.cells) rfl (rfl)
 refine qe [20] (by kernel_rfl) rfl ?_
 refine all_cons ?_ all_nil
 refine qf HF (i := 20) rfl rfl ?_
 refine e_cl HF [.agg z1.cells] rfl rfl (qp1 z1 _ (HM.stL 7 rfl) (qhx (qck hz1) hfa)) ?_
 rintro _ w89 ⟨z3, rfl, hz3, _, hm⟩
 refine ⟨_, rfl, ?_⟩
 replace HM := (show Mem w _ (.row (.slice A54 ((psecs la).length) c54) ((psecs la).length) ((psecs la).flatMap secL) 83 3 :: .row (.slice A49 ((psecs la).length) c49) ((psecs la).length) ((psecs la).flatMap secL) 82 3 :: .row (.slice A44 ((pnums la).length) c44) ((pnums la).length) ((pnums la).map U64) 22 1 :: .row (.slice A39 ((pnums la).length) c39) ((pnums la).length) ((pnums la).map U64) 22 1 :: .blk g8 z2.cells 56 :: .blk g6 z1.cells 32 :: .row (.slice Ow (la.length + 12) co) (la.length + 12) ((la ++ marks 12).map B8) 5 1 :: (stF z1.st ++ (stF z2.st ++ (stF z3.st)))) from Mem.q13 (l := [.row (.slice A54 ((psecs la).length) c54) ((psecs la).length) ((psecs la).flatMap secL) 83 3, .row (.slice A49 ((psecs la).length) c49) ((psecs la).length) ((psecs la).flatMap secL) 82 3, .row (.slice A44 ((pnums la).length) c44) ((pnums la).length) ((pnums la).map U64) 22 1, .row (.slice A39 ((pnums la).length) c39) ((pnums la).length) ((pnums la).map U64) 22 1, .blk g8 z2.cells 56, .blk g6 z1.cells 32, .row (.slice Ow (la.length + 12) co) (la.length + 12) ((la ++ marks 12).map B8) 5 1]) (A := stF z1.st) (B := stF z2.st) HM hm)
 clear HF; intro a HF
 refine keepS (HM.pk [0, 1, 2, 3, 4, 5, 6]) (fun HS => ?_)
 refine qe [22] (by kernel_rfl) rfl ?_
 refine all_cons ?_ all_nil
 refine qf HF (i := 22) rfl rfl ?_
 refine e_is HF HM [.agg z3.cells, .agg z2.cells] (.bool true) rfl rfl (qp2 (rdS la) z3 z2 (qhw hz1 hz3) hz2 hfa _ (HM.stE 7 rfl) (HM.stM 7 rfl)) fun w91 hbw HM a HF => ?_
 refine keepS (HM.pk [0, 1, 2, 3, 4, 5, 6]) (fun HS => ?_)
 refine ap HF (fun _ => HS) [23, 24, 25, 26, 27] (bt 43 [28, 29, 30, 31, 32, 33, 34, 35, 36, 37, 38, 39, 40, 41, 42]) [(96, .slice A44 ((pnums la).length) c44), (95, .slice A39 ((pnums la).length) c39), (94, .bool false)] fun a HF => ?_
 refine qe [28] (by kernel_rfl) rfl ?_
 refine all_cons ?_ all_nil
 refine qf HF (i := 28) rfl rfl ?_
 refine e_is HF HM [.slice A39 ((pnums la).length) c39, .slice A44 ((pnums la).length) c44] (.bool true) rfl rfl (qp3 A39 c39 (pnums la) A44 c44 _ (HM.rd (i := 3) rfl) (HM.rd (i := 2) rfl) (by omega)) fun w97 hbw HM a HF => ?_
 refine keepS (HM.pk [0, 1, 2, 3, 4, 5, 6]) (fun HS => ?_)
 refine ap HF (fun _ => HS) [29, 30, 31, 32, 34] (bt 43 [33, 35, 36, 37, 38, 39, 40, 41, 42]) [(103, .slice A54 ((psecs la).length) c54), (101, .slice A49 ((psecs la).length) c49), (100, .bool false)] fun a HF => ?_
 refine s_al HF HS 33 fun a HF => ?_
 refine s_al HF HS 35 fun a HF => ?_
 refine qh HF (fun _ => HS) (i := 36) rfl rfl (d := 105) rfl (by decide) (by kernel_rfl) (fun _ _ _ h => h) (v := .bool ((((psecs la).length : Nat) : Int) != (((psecs la).length : Nat) : Int))) (fun _ => Yl.pure (by kernel_rfl)) fun a HF => ?_
 replace HF := HF.sp 105 (.bool false) rfl (by simp)
 refine ap HF (fun _ => HS) [37, 38, 39, 40] (bt 43 [41, 42]) [(109, .string (difN la lb)), (108, .string (difN la lb)), (107, .bool false)] fun a HF => ?_
 refine qh HF (fun _ => HS) (i := 41) rfl rfl (d := 110) rfl (by decide) (by kernel_rfl) (fun _ _ _ h => h) (v := .bool (!(((difN la lb)).toList == ((difN la lb)).toList))) (fun _ => Yl.pure (by kernel_rfl)) fun a HF => ?_
 replace HF := HF.sp 110 (.bool false) rfl (congrArg Value.bool (qom _))
 refine ap HF (fun _ => HS) [42] (bt 43 []) [(111, .bool false)] fun a HF => ?_
 refine qk (by kernel_rfl) ?_
 replace HF := HF.to [(111, .bool false), (16, .slice A54 ((psecs la).length) c54), (14, .slice A49 ((psecs la).length) c49), (10, .slice A39 ((pnums la).length) c39), (8, vP g8 0), (6, vP g6 0), (5, .slice Ow la.length co), (4, .bool false), (0, .slice A la.length c), (1, .slice D lb.length d)]
 refine s_cf HF (wp_skip (wp_seq (s_fs1 ?_)))
 refine fp HF 1 0 [(112, .slice A49 ((psecs la).length) c49)] fun a HF => ?_
 refine s_fl HF 1 fun a HF => ?_
 refine fp HF 1 2 [(114, vI 0)] fun a HF => ?_
 refine s_d0 (wp_block ?_)
 refine qi (fun mS aS wS => ∃ (k : Nat), (k ≤ (psecs la).length) ∧ mS = (psecs la).length - k ∧ Fr aS 141 [] [(114, vI k), (113, vI ((psecs la).length : Nat)), (112, .slice A49 ((psecs la).length) c49), (111, .bool false), (16, .slice A54 ((psecs la).length) c54), (14, .slice A49 ((psecs la).length) c49), (10, .slice A39 ((pnums la).length) c39), (8, vP g8 0), (6, vP g6 0), (5, .slice Ow la.length co), (4, .bool false), (0, .slice A la.length c), (1, .slice D lb.length d)] ∧ Mem w wS (.row (.slice A54 ((psecs la).length) c54) ((psecs la).length) ((psecs la).flatMap secL) 83 3 :: .row (.slice A49 ((psecs la).length) c49) ((psecs la).length) ((psecs la).flatMap secL) 82 3 :: .row (.slice A44 ((pnums la).length) c44) ((pnums la).length) ((pnums la).map U64) 22 1 :: .row (.slice A39 ((pnums la).length) c39) ((pnums la).length) ((pnums la).map U64) 22 1 :: .blk g8 z2.cells 56 :: .blk g6 z1.cells 32 :: .row (.slice Ow (la.length + 12) co) (la.length + 12) ((la ++ marks 12).map B8) 5 1 :: (stF z1.st ++ (stF z2.st ++ (stF z3.st))))) (m := (psecs la).length - 0) ⟨0, Nat.zero_le _, rfl, HF.sub (by kernel_rfl), HM.pt 7 [0, 1, 2, 3, 4, 5, 6]⟩ ?_
 clear HF HM; rintro mS a w_ ⟨k, hk, rfl, HF, HM⟩
 refine s_fs1 ?_
 refine fp HF 1 0 [(115, .bool (decide ((k : Int) < (((psecs la).length : Nat) : Int))))] fun a HF => ?_
 refine s_d0 (wp_seq ?_)
 rcases HF.tf 115 rfl with ⟨hb115, HF⟩ | ⟨hb115, HF⟩
 ·
  have hd115 := of_decide_eq_true hb115
  have hk115 : k < (psecs la).length := by omega
  obtain ⟨gA49, rfl⟩ := q8 (HM.own (i := 1) rfl) (Nat.lt_of_le_of_lt (Nat.zero_le _) (show k < (psecs la).length from hk115))
  obtain ⟨gA54, rfl⟩ := q8 (HM.own (i := 0) rfl) (Nat.lt_of_le_of_lt (Nat.zero_le _) (show k < (psecs la).length from hk115))
  refine s_ct HF (wp_skip (wp_seq (wp_block (s_fs1 ?_))))
  refine fp HF 1 0 [(116, vI k)] fun a HF => ?_
  refine s_fz HF HM 1 rfl (v := vP gA49 (k * 3)) (Yl.ix0 gA49 k 3 rfl rfl rfl) fun a HF => ?_
  refine s_fz HF HM 2 rfl (v := .agg (((psecs la).getD k Sec.zero).cells)) (Yl.qt rfl rfl qtb rfl (fun _ h => h.qg6 zy (i := 1) rfl ((getD_at Sec.zero hk115)))) fun a HF => ?_
  refine fo HF 3 rfl rfl (s_ea HF HM #[.string (ByteArray.mk #[]), vI 0, vI 0] ?_)
  clear HF HM; intro a w23 g23 HF HM
  refine fp HF 1 4 [(22, vI k)] fun a HF => ?_
  refine fo HF 5 rfl rfl (e_sa HF HM 0 rfl rfl rfl rfl rfl qtb rfl rfl (qvd ((psecs la).getD k Sec.zero)) ?_)
  clear HM; intro w14_5 HM
  refine s_d0 (wp_seq ?_)
  refine zf HM (.blk g23 (((psecs la).getD k Sec.zero).cells) 82 :: .row (vS gA54 ((psecs la).length) c54) ((psecs la).length) ((psecs la).flatMap secL) 83 3 :: .row (vS gA49 ((psecs la).length) c49) ((psecs la).length) ((psecs la).flatMap secL) 82 3 :: .row (.slice A44 ((pnums la).length) c44) ((pnums la).length) ((pnums la).map U64) 22 1 :: .row (.slice A39 ((pnums la).length) c39) ((pnums la).length) ((pnums la).map U64) 22 1 :: .blk g8 z2.cells 56 :: .blk g6 z1.cells 32 :: .row (.slice Ow (la.length + 12) co) (la.length + 12) ((la ++ marks 12).map B8) 5 1 :: (stF z1.st ++ (stF z2.st ++ (stF z3.st)))) 8 [0, 1, 2, 3, 4, 5, 6, 7] [] fun HM HS => ?_
  refine ap HF (fun _ => HS) [1, 2] (bf 6 [1, 2]) [(121, vI k), (120, vS gA54 ((psecs la).length) c54)] fun a HF => ?_
  refine s_az HF HS 0 rfl (v := .agg (((psecs la).getD k Sec.zero).cells)) (Yl.qt rfl rfl qtb rfl (fun _ h => qg (h.blk (i := 0) rfl))) fun a HF => ?_
  refine s_az HF HS 3 rfl (v := vP gA54 (k * 3)) (Yl.ix0 gA54 k 3 rfl rfl rfl) fun a HF => ?_
  refine s_az HF HS 4 rfl (v := .agg (((psecs la).getD k Sec.zero).cells)) (Yl.qt rfl rfl qzz rfl (fun _ h => h.qg6 zy (i := 1) rfl ((getD_at Sec.zero hk115)))) fun a HF => ?_
  refine s_az HF HS 5 rfl (v := .bool (!(secEq ((psecs la).getD k Sec.zero) ((psecs la).getD k Sec.zero)))) (Yl.qld rfl rfl rfl (qo9 ((psecs la).getD k Sec.zero) ((psecs la).getD k Sec.zero))) fun a HF => ?_
  refine qk (by kernel_rfl) ?_
  rcases HF.tf 124 rfl with ⟨hb124, HF⟩ | ⟨hb124, HF⟩
  ·
   rw [qo8] at hb124; cases hb124
  refine s_cf HF (wp_skip (qa ?_))
  refine fp HF 1 0 [(125, vI (IntKind.i64.wrap ((k : Int) + 1)))] fun a HF => ?_
  replace HF := HF.sp 125 (vI (k + 1 : Nat)) rfl (qc (by omega) (by omega))
  refine fp HF 1 1 [(114, vI (k + 1 : Nat))] fun a HF => ?_
  refine s_d0 ?_
  exact ⟨_, (by omega), k + 1, by omega, rfl, HF.sub (by kernel_rfl), HM.pt 8 [1, 2, 3, 4, 5, 6, 7]⟩
 have hd115 := of_decide_eq_false hb115
 refine s_cf HF (wp_exit (s_fs1 ?_))
 refine fp HF 1 0 [(126, vP g6 1)] fun a HF => ?_
 refine s_fz HF HM 1 rfl (v := .agg #[vI z1.st.cpus, vQ z1.st.credit, .slice z1.st.gA z1.st.gs.length z1.st.gc, .slice z1.st.lA z1.st.cl.length z1.st.lc, .slice z1.st.uA z1.st.cu.length z1.st.uc, .slice z1.st.tA z1.st.ts.length z1.st.tc, .slice z1.st.sA z1.st.rs.length z1.st.sc]) (Yl.qt rfl rfl si_st rfl (fun _ h => h.sub (i := 5) rfl 1 rfl)) fun a HF => ?_
 replace HF := HF.sp 127 (.agg z1.st.cells) rfl (rfl)
 refine fo HF 2 rfl rfl ?_
 refine s_em HF [.agg z1.st.cells] (qve _ _ z1.st [.row (.slice Ow (la.length + 12) co) (la.length + 12) ((la ++ marks 12).map B8) 5 1, .row (.slice A39 ((pnums la).length) c39) ((pnums la).length) ((pnums la).map U64) 22 1] (Mem.q0c (l := [.row (.slice Ow (la.length + 12) co) (la.length + 12) ((la ++ marks 12).map B8) 5 1, .row (.slice A39 ((pnums la).length) c39) ((pnums la).length) ((pnums la).map U64) 22 1]) (A := stF z1.st) (m := stF z2.st ++ stF z3.st) (HM.pt 7 [6, 3])) (qhx (qck hz1) hfa)) fun w128 HM a HF => ?_
 refine s_d0 (wp_seq (s_fs1 ?_))
 refine fp HF 1 0 [(129, .slice A39 ((pnums la).length) c39)] fun a HF => ?_
 refine s_fl HF 1 fun a HF => ?_
 refine fp HF 1 2 [(131, vI 0)] fun a HF => ?_
 refine s_d0 (wp_block ?_)
 refine qi (fun mS aS wS => ∃ (i : Nat) (V : List Value), (i ≤ (pnums la).length) ∧ (V.length = (pnums la).length) ∧ mS = (pnums la).length - i ∧ Fr aS 141 [] [(131, vI i), (130, vI ((pnums la).length : Nat)), (115, .bool false), (114, vI k), (113, vI ((psecs la).length : Nat)), (112, .slice A49 ((psecs la).length) c49), (111, .bool false), (16, .slice A54 ((psecs la).length) c54), (14, .slice A49 ((psecs la).length) c49), (10, .slice A39 ((pnums la).length) c39), (8, vP g8 0), (6, vP g6 0), (5, .slice Ow la.length co), (4, .bool false), (0, .slice A la.length c), (1, .slice D lb.length d)] ∧ Mem w wS [.row (.slice Ow (la.length + 12) co) (la.length + 12) ((la ++ marks 12).map B8) 5 1, .row (.slice A39 ((pnums la).length) c39) ((pnums la).length) V 22 1]) (m := (pnums la).length - 0) ⟨0, ((pnums la).map U64), Nat.zero_le _, List.length_map .., rfl, HF.sub (by kernel_rfl), HM.pk [0, 1]⟩ ?_
 clear HF HM; rintro mS a w_ ⟨i, V, hi, hV, rfl, HF, HM⟩
 refine s_fs1 ?_
 refine fp HF 1 0 [(132, .bool (decide ((i : Int) < (((pnums la).length : Nat) : Int))))] fun a HF => ?_
 refine s_d0 (wp_seq ?_)
 rcases HF.tf 132 rfl with ⟨hb132, HF⟩ | ⟨hb132, HF⟩
 ·
  have hd132 := of_decide_eq_true hb132
  obtain ⟨gA39, rfl⟩ := q8 (HM.own (i := 1) rfl) (Nat.lt_of_le_of_lt (Nat.zero_le _) (show i < (pnums la).length from (by omega : i < (pnums la).length)))
  refine s_ct HF (wp_skip (wp_seq (wp_block (s_fs1 ?_))))
  refine fp HF 2 0 [(24, vI i)] fun a HF => ?_
  refine s_d0 (qa ?_)
  refine fp HF 2 0 [(135, vI i), (134, vS gA39 ((pnums la).length) c39)] fun a HF => ?_
  refine s_fz HF HM 2 rfl (v := vP gA39 (i * 1)) (Yl.ix0 gA39 i 1 rfl rfl rfl) fun a HF => ?_
  refine fo HF 3 rfl rfl ?_
  refine qa5 HF HM (i := 1) rfl rfl rfl rfl (by kernel_rfl) rfl rfl (by rw [hV]; omega) ?_
  clear HM; intro w22_3 HM
  replace HM := HM.asRow (i := 1) (ys := putAt V (i * 1) [vQ 0]) rfl (rfl)
  refine s_d0 (qa ?_)
  refine fp HF 1 0 [(137, vI (IntKind.i64.wrap ((i : Int) + 1)))] fun a HF => ?_
  replace HF := HF.sp 137 (vI (i + 1 : Nat)) rfl (qc (by omega) (by omega))
  refine fp HF 1 1 [(131, vI (i + 1 : Nat))] fun a HF => ?_
  refine s_d0 ?_
  exact ⟨_, (by omega), i + 1, (putAt V (i * 1) [vQ 0]), by omega, by rw [qa1 (by rw [hV]; show i * 1 + 1 ≤ (pnums la).length; omega)]; exact hV, rfl, HF.sub (by kernel_rfl), HM.pk [0, 1]⟩
 have hd132 := of_decide_eq_false hb132
 refine s_cf HF (wp_exit (s_fs1 ?_))
 refine fp HF 2 0 [(139, .slice A la.length c), (138, .slice Ow la.length co)] fun a HF => ?_
 refine fo HF 2 rfl rfl ?_
 refine e_cl HF [.slice Ow la.length co, .slice A la.length c] rfl rfl (qwo _ _ la.length _ _ la _ (HM.rd (i := 0) rfl) hco (HM.old hr1) (by omega) rfl) ?_
 rintro _ w140 ⟨rfl, hbw⟩
 refine ⟨_, rfl, ?_⟩
 replace HM := HM.call hbw
 clear HF; intro a HF
 refine fp HF 1 3 [(4, .bool true)] fun a HF => ?_
 refine s_d0 (wp_ret ?_)
 exact s_rt1 rfl HF rfl (⟨rfl, HM.below⟩)
theorem qwq (A : Option Addr) (c : Nat) (w : World) (hr : Rd w w.heap.size 1 A 11 (byA.map B8)) : Calls Tryz.prog 15 #[.slice A 11 c] w (fun r w' => (∃ A c, r = .returned (.slice A 15 c) ∧ w'.ownsRow w.heap.size 5 1 (.slice A 15 c) 15 (fstX.map B8) ∧ 15 ≤ c) ∧ Below w.heap.size w w') := by
 have h := qbx A 11 c byA w hr rfl (by decide) qop
 unfold qaw at h
 rwa [show (sealL byA).length = 15 from qad] at h
theorem qz9 (i v : Nat) (hv : v < 256) (A : Option Addr) (c : Nat) (w : World) (hr : Rd w w.heap.size 1 A 11 ((byA.set i v).map B8)) : Calls Tryz.prog 15 #[.slice A 11 c] w (fun r w' => (∃ A c, r = .returned (.slice A 15 c) ∧ w'.ownsRow w.heap.size 5 1 (.slice A 15 c) 15 ((chX i v).map B8) ∧ 15 ≤ c) ∧ Below w.heap.size w w') := by
 have h := qbx A 11 c (byA.set i v) w hr (by rw [List.length_set]; rfl) (by decide) (qt3 qop hv)
 unfold qaw at h
 rwa [show (sealL (byA.set i v)).length = 15 from qby i v] at h
theorem qt4 (A : Option Addr) (c : Nat) (w : World) (hr : Rd w w.heap.size 1 A 12 ((byA ++ [0]).map B8)) : Calls Tryz.prog 15 #[.slice A 12 c] w (fun r w' => (∃ A c, r = .returned (.slice A 16 c) ∧ w'.ownsRow w.heap.size 5 1 (.slice A 16 c) 16 (moreX.map B8) ∧ 16 ≤ c) ∧ Below w.heap.size w w') := by
 have h := qbx A 12 c (byA ++ [0]) w hr rfl (by decide) (by decide)
 unfold qaw at h
 rwa [show (sealL (byA ++ [0])).length = 16 from qoo] at h
theorem qjc (A : Option Addr) (n c : Nat) (l : List Nat) (B : Nat) (w : World) (hL : LaidX B w) (hB : B ≤ w.heap.size) (hr : Rd w w.heap.size 1 A n (l.map B8)) (hc : n ≤ c) (hln : l.length = n) (hn : n ≤ 100000000) (hl : ∀ z ∈ l, z < 256) {e : Nat} (h : rdE l = e) : Calls Tryz.prog 17 #[.slice A n c] w (qks w e (rdS l)) := by
 subst hln; subst h
 exact qk8 A c l B w hL hB hr hc hn hl
theorem numsX (A : Option Addr) (c : Nat) (B : Nat) (w : World) (hL : LaidX B w) (hB : B ≤ w.heap.size) (hr : Rd w w.heap.size 1 A 15 (fstX.map B8)) (hc : 15 ≤ c) : Calls Tryz.prog 40 #[.slice A 15 c] w (fun r w' => (∃ A c, r = .returned (.tuple #[.slice A 8 c, .int .i64 0])) ∧ Below w.heap.size w w') := by
 rw [← qad] at hr hc ⊢
 refine (qfc A c fstX B w hL hB hr hc (by rw [qad]; decide) qlb).mono fun r w' h => ?_
 obtain ⟨⟨A2, c2, h1, _, _⟩, h2⟩ := h
 rw [x_err, q1u] at h1
 exact ⟨⟨A2, c2, h1⟩, h2⟩
theorem difX (A : Option Addr) (c : Nat) (D : Option Addr) (d : Nat) (B : Nat) (w : World) (hL : LaidX B w) (hB : B ≤ w.heap.size) (hr : Rd w w.heap.size 1 A 15 (fstX.map B8)) (hc : 15 ≤ c) (hr2 : Rd w w.heap.size 1 D 15 ((chX 3 2).map B8)) (hd : 15 ≤ d) : Calls Tryz.prog 44 #[.slice A 15 c, .slice D 15 d] w (Is w (.tuple #[.string ⟨#[110, 101, 120, 116]⟩, .int .i64 0])) := by
 have h := qff A c fstX D d (chX 3 2) B w hL hB (by rw [qad]; exact hr) (by rw [qad]; exact hc) (by rw [qad]; decide) qlb (by rw [qby]; exact hr2) (by rw [qby]; exact hd) (by rw [qby]; decide) (ch_lt (by decide))
 rw [q1v, q1w, qad, qby] at h
 exact h
theorem qg5 (w : World) :
    Calls Tryz.prog 16 #[] w (fun r w' => (∃ A c, r = .returned (.slice A 15 c) ∧ w'.ownsRow w.heap.size 5 1 (.slice A 15 c) 15 (fstX.map B8) ∧ 15 ≤ c) ∧ Below w.heap.size w w') := by
 refine s_ce Tryz.func16 [] [] fun a HF => ?_
 have HM := Mem.start w
 refine s_fs1 ?_
 refine fp HF 1 0 [(0, .slice none 0 0)] fun a HF => ?_
 refine s_d0 (s_fs1 ?_)
 refine fo HF 0 rfl rfl (s_el HF HM ei_u8 [(0, vB 113), (1, vB 115), (2, vB 1), (3, vB 1), (4, vB 1), (5, vB 0), (6, vB 1), (7, vB 0), (8, vB 0), (9, vB 0), (10, vB 0)] #[vB 113, vB 115, vB 1, vB 1, vB 1, vB 0, vB 1, vB 0, vB 0, vB 0, vB 0] ?_)
 clear HF HM; intro a w1 g1 HF HM
 refine fo HF 1 rfl rfl ?_
 refine q0p HF HM 0 (e := 5) rfl rfl rfl (by kernel_rfl) (by kernel_rfl) rfl (by decide) ?_
 clear HF HM; intro a w2 HF HM
 refine fo HF 2 rfl rfl ?_
 refine s_ek HF HM [vS g1 11 11] (qwq (some ⟨g1, 0, none⟩) 11 _ (HM.rdMark (i := 0) (size := 1) (n := 11) rfl rfl)) fun A3 c3 w3 hc3 HM a HF => ?_
 refine fp HF 1 3 [(0, .slice A3 15 c3)] fun a HF => ?_
 refine s_d0 (wp_ret ?_)
 exact s_rt1 rfl HF rfl (⟨⟨_, _, rfl, HM.own (i := 0) rfl, hc3⟩, HM.below⟩)
theorem zr (i v : Nat) (hi : i < 11) (hv : v < 256) (w : World) :
    Calls Tryz.prog 48 #[.int .i64 (i : Int), .int .u8 (v : Int)] w (fun r w' => (∃ A c, r = .returned (.slice A 15 c) ∧ w'.ownsRow w.heap.size 5 1 (.slice A 15 c) 15 ((chX i v).map B8) ∧ 15 ≤ c) ∧ Below w.heap.size w w') := by
 refine s_ce Tryz.func48 [vI i, vB v] [(0, vI i), (1, vB v)] fun a HF => ?_
 have HM := Mem.start w
 refine s_fs1 ?_
 refine fp HF 1 0 [(4, .slice none 0 0)] fun a HF => ?_
 refine s_d0 (s_fs1 ?_)
 refine fo HF 0 rfl rfl ?_
 refine s_ek HF HM [] (qg5 _) fun A6 c6 w6 hc6 HM a HF => ?_
 refine fp HF 1 1 [(5, .slice A6 15 c6)] fun a HF => ?_
 refine s_d0 ?_
 obtain ⟨gA6, rfl⟩ := q8 (HM.own (i := 0) rfl) (Nat.lt_of_le_of_lt (Nat.zero_le _) (show i < 15 from (by omega : i < 15)))
 refine s_fs1 ?_
 refine fp HF 3 0 [(9, vB v), (8, vI i), (7, vS gA6 15 c6)] fun a HF => ?_
 refine s_fz HF HM 3 rfl (v := vP gA6 (i * 1)) (Yl.ix0 gA6 i 1 rfl rfl rfl) fun a HF => ?_
 refine fo HF 4 rfl rfl ?_
 refine qa5 HF HM (i := 0) rfl rfl rfl rfl (by kernel_rfl) rfl rfl (by rw [List.length_map, qad]; omega) ?_
 clear HM; intro w2_4 HM
 replace HM := HM.asRow (i := 0) (ys := (fstX.set i v).map B8) rfl (qf2 B8 fstX i v (by rw [qad]; omega))
 refine s_d0 (s_fs1 ?_)
 refine fp HF 2 0 [(12, vS gA6 15 c6), (11, vS gA6 15 c6)] fun a HF => ?_
 refine s_fl HF 2 fun a HF => ?_
 refine fp HF 1 3 [(14, vI 11)] fun a HF => ?_
 refine s_fz HF HM 4 rfl (v := vS gA6 11 c6) (Yl.qap ei_u8 (j := 11) rfl rfl rfl (by omega)) fun a HF => ?_
 refine fo HF 5 rfl rfl ?_
 refine s_ek HF HM [vS gA6 11 c6] (qz9 i v hv (some ⟨gA6, 0, none⟩) c6 _ (by have h1 := (HM.rd (i := 0) rfl).toB8 (k := 11) (by omega); rw [qz6 hi] at h1; exact h1)) fun A16 c16 w16 hc16 HM a HF => ?_
 refine fp HF 1 6 [(4, .slice A16 15 c16)] fun a HF => ?_
 refine s_d0 (wp_ret ?_)
 exact s_rt1 rfl HF rfl (⟨⟨_, _, rfl, HM.own (i := 0) rfl, hc16⟩, HM.below⟩)
theorem qdg (B : Nat) (w : World) (hL : LaidX B w) (hB : B ≤ w.heap.size) :
    Calls Tryz.prog 14 #[] w (Is w (.bool true)) := by
 refine s_ce Tryz.func14 [] [] fun a HF => ?_
 have HM := Mem.start w
 refine s_fs1 ?_
 refine fp HF 1 0 [(0, .bool false)] fun a HF => ?_
 refine s_d0 (s_fs1 ?_)
 refine fo HF 0 rfl rfl ?_
 refine s_ek HF HM [] (qg5 _) fun A16 c16 w16 hc16 HM a HF => ?_
 refine fp HF 1 1 [(1, .slice A16 15 c16)] fun a HF => ?_
 refine s_d0 ?_
 obtain ⟨gA16, rfl⟩ := q8 (HM.own (i := 0) rfl) (Nat.lt_of_le_of_lt (Nat.zero_le _) (show 12 < 15 from (by omega : 12 < 15)))
 refine s_fs1 ?_
 refine fp HF 1 0 [(18, vS gA16 15 c16)] fun a HF => ?_
 refine fo HF 1 rfl rfl ?_
 refine e_cl HF [vS gA16 15 c16] rfl rfl (qjc (some ⟨gA16, 0, none⟩) 15 c16 fstX B _ (hL.mem HM hB) (HM.le hB) (HM.rd (i := 0) rfl) hc16 qad (by decide) qlb x_ok) ?_
 rintro _ w19 ⟨z19, rfl, hz19, _, hm⟩
 refine ⟨_, rfl, ?_⟩
 replace HM := HM.call hm.below
 clear HF; intro a HF
 refine fp HF 3 2 [(21, vI 0), (20, .agg z19.cells)] fun a HF => ?_
 refine fo HF 5 rfl rfl (s_ea HF HM #[vI 0, vI 0, vQ 0, .slice none 0 0, .slice none 0 0, .slice none 0 0, .slice none 0 0, .slice none 0 0] ?_)
 clear HF HM; intro a w2 g2 HF HM
 refine fo HF 6 rfl rfl (e_sa HF HM 0 rfl rfl rfl rfl rfl z4 rfl rfl (qbo z19) ?_)
 clear HM; intro w2_6 HM
 refine fp HF 1 7 [(3, vI 0)] fun a HF => ?_
 refine s_d0 (s_fs1 ?_)
 refine fp HF 1 0 [(23, vS gA16 15 c16)] fun a HF => ?_
 refine fo HF 1 rfl rfl ?_
 refine e_cl HF [vS gA16 15 c16] rfl rfl (numsX (some ⟨gA16, 0, none⟩) c16 B _ (hL.mem HM hB) (HM.le hB) (HM.rd (i := 1) rfl) hc16) ?_
 rintro _ w24 ⟨⟨AN, cN, rfl⟩, hbw⟩
 refine ⟨_, rfl, ?_⟩
 replace HM := HM.call hbw
 clear HF; intro a HF
 refine fp HF 5 2 [(5, vI 0), (4, .slice AN 8 cN)] fun a HF => ?_
 refine s_d0 (s_fs1 ?_)
 refine fp HF 1 0 [(28, vS gA16 15 c16)] fun a HF => ?_
 refine fo HF 1 rfl rfl ?_
 refine s_ek HF HM [vI 3, vB 2] (zr 3 2 (by decide) (by decide) _) fun A29 c29 w29 hc29 HM a HF => ?_
 refine fo HF 2 rfl rfl (e_is HF HM [vS gA16 15 c16, .slice A29 15 c29] (.tuple #[.string (ByteArray.mk #[110, 101, 120, 116]), vI 0]) rfl rfl (difX (some ⟨gA16, 0, none⟩) c16 A29 c29 B _ (hL.mem HM hB) (HM.le hB) (HM.rd (i := 2) rfl) hc16 (HM.rd (i := 0) rfl) hc29) fun w30 hbw HM a HF => ?_)
 refine fp HF 5 3 [(7, vI 0), (6, .string (ByteArray.mk #[110, 101, 120, 116]))] fun a HF => ?_
 refine s_d0 (s_fs1 ?_)
 refine fp HF 1 0 [(34, vS gA16 15 c16)] fun a HF => ?_
 refine s_fz HF HM 1 rfl (v := vS gA16 14 c16) (Yl.qap ei_u8 (j := 14) rfl rfl rfl (by omega)) fun a HF => ?_
 refine fo HF 2 rfl rfl ?_
 refine e_cl HF [vS gA16 14 c16] rfl rfl (qjc (some ⟨gA16, 0, none⟩) 14 c16 (fstX.take 14) B _ (hL.mem HM hB) (HM.le hB) ((HM.rd (i := 2) rfl).toB8 (k := 14) (by decide)) (by omega) (by rw [List.length_take, qad]; rfl) (by decide) (qep qlb _) qz5) ?_
 rintro _ w36 ⟨z36, rfl, hz36, _, hm⟩
 refine ⟨_, rfl, ?_⟩
 replace HM := HM.call hm.below
 clear HF; intro a HF
 refine fp HF 3 3 [(38, vI 340), (37, .agg z36.cells)] fun a HF => ?_
 refine fo HF 6 rfl rfl (s_ea HF HM #[vI 0, vI 0, vQ 0, .slice none 0 0, .slice none 0 0, .slice none 0 0, .slice none 0 0, .slice none 0 0] ?_)
 clear HF HM; intro a w8 g8 HF HM
 refine fo HF 7 rfl rfl (e_sa HF HM 0 rfl rfl rfl rfl rfl z4 rfl rfl (qbo z36) ?_)
 clear HM; intro w5_7 HM
 refine fp HF 1 8 [(9, vI 340)] fun a HF => ?_
 refine s_d0 (s_fs1 ?_)
 refine fp HF 1 0 [(39, vS gA16 15 c16)] fun a HF => ?_
 refine s_fz HF HM 1 rfl (v := vP gA16 12) (Yl.indexAddr (ad := ⟨gA16, 0, none⟩) (y := 12) (sz := 1) rfl rfl rfl (by omega) (by kernel_rfl)) fun a HF => ?_
 refine s_fz HF HM 2 rfl (v := vB (fstX.getD 12 0)) (Yl.r1 3 12 0 (by rw [qad]; decide) rfl rfl rfl) fun a HF => ?_
 refine fp HF 1 3 [(42, vB (IntKind.u8.wrap (((fstX.getD 12 0) : Int) + 1)))] fun a HF => ?_
 replace HF := HF.sp 42 (vB ((fstX.getD 12 0 + 1) % 256 : Nat)) rfl (qhf _)
 refine s_fz HF HM 4 rfl (v := vP gA16 12) (Yl.indexAddr (ad := ⟨gA16, 0, none⟩) (y := 12) (sz := 1) rfl rfl rfl (by omega) (by kernel_rfl)) fun a HF => ?_
 refine fo HF 5 rfl rfl ?_
 refine qa5 HF HM (i := 3) rfl rfl rfl rfl (by kernel_rfl) rfl rfl (by rw [List.length_map, qad]; decide) ?_
 clear HM; intro w6_5 HM
 replace HM := HM.asRow (i := 3) (ys := badX.map B8) rfl (qf2 B8 fstX 12 ((fstX.getD 12 0 + 1) % 256) (by rw [qad]; decide))
 refine s_d0 (s_fs1 ?_)
 refine fp HF 1 0 [(45, vS gA16 15 c16)] fun a HF => ?_
 refine fo HF 1 rfl rfl ?_
 refine e_cl HF [vS gA16 15 c16] rfl rfl (qjc (some ⟨gA16, 0, none⟩) 15 c16 badX B _ (hL.mem HM hB) (HM.le hB) (HM.rd (i := 3) rfl) hc16 qz4 (by decide) q1r x_sum) ?_
 rintro _ w46 ⟨z46, rfl, hz46, _, hm⟩
 refine ⟨_, rfl, ?_⟩
 replace HM := HM.call hm.below
 clear HF; intro a HF
 refine fp HF 3 2 [(48, vI 341), (47, .agg z46.cells)] fun a HF => ?_
 refine fo HF 5 rfl rfl (s_ea HF HM #[vI 0, vI 0, vQ 0, .slice none 0 0, .slice none 0 0, .slice none 0 0, .slice none 0 0, .slice none 0 0] ?_)
 clear HF HM; intro a w10 g10 HF HM
 refine fo HF 6 rfl rfl (e_sa HF HM 0 rfl rfl rfl rfl rfl z4 rfl rfl (qbo z46) ?_)
 clear HM; intro w7_6 HM
 refine fp HF 1 7 [(11, vI 341)] fun a HF => ?_
 refine s_d0 (wp_seq (s_fs1 ?_))
 refine fp HF 8 0 [(56, vP g2 0), (55, .bool false)] fun a HF => ?_
 refine s_fz HF HM 8 rfl (v := vI z19.next) (Yl.qd rfl rfl (by kernel_rfl) (fun _ h => h.cell (i := 3) rfl (rfl))) fun a HF => ?_
 replace HF := HF.sp 57 (vI 1) rfl (by rw [← hz19.1, q1s])
 refine fp HF 6 9 [(63, vP g2 1), (60, .bool false)] fun a HF => ?_
 refine s_fz HF HM 15 rfl (v := vI z19.st.cpus) (Yl.qd rfl rfl (by kernel_rfl) (fun _ h => h.cell (i := 3) rfl (rfl))) fun a HF => ?_
 replace HF := HF.sp 64 (vI 1) rfl (by rw [← hz19.2.1, q1t])
 refine fp HF 5 16 [(69, vP g2 4), (67, .bool false)] fun a HF => ?_
 refine s_fz HF HM 21 rfl (v := .slice z19.st.lA z19.st.cl.length z19.st.lc) (Yl.qd rfl rfl (by kernel_rfl) (fun _ h => h.cell (i := 3) rfl (rfl))) fun a HF => ?_
 refine s_fl HF 22 fun a HF => ?_
 replace HF := HF.sp 71 (vI 1) rfl (by rw [← hz19.2.2.2.2.1, x_cl]; rfl)
 refine fp HF 4 23 [(75, .slice AN 8 cN), (74, .bool false)] fun a HF => ?_
 refine s_fl HF 27 fun a HF => ?_
 refine fp HF 5 28 [(81, .bool (!(((ByteArray.mk #[110, 101, 120, 116])).toList == ((ByteArray.mk #[110, 101, 120, 116])).toList))), (79, .bool false)] fun a HF => ?_
 replace HF := HF.sp 81 (.bool false) rfl (congrArg Value.bool (qom _))
 refine fp HF 9 33 [(90, .bool false)] fun a HF => ?_
 refine s_d0 ?_
 replace HF := HF.to [(90, .bool false), (2, vP g2 0), (1, vS gA16 15 c16), (0, .bool false)]
 refine s_cf HF (wp_skip (wp_seq (s_fs1 ?_)))
 refine fo HF 0 rfl rfl ?_
 refine s_ek HF HM [vI 0, vB 112] (zr 0 112 (by decide) (by decide) _) fun A91 c91 w91 hc91 HM a HF => ?_
 refine s_fz HF HM 1 rfl (v := .agg #[.slice A91 15 c91, vI 342]) (Yl.build (vs := [(0, .slice A91 15 c91), (1, vI 342)]) rfl (by kernel_rfl) (by kernel_rfl)) fun a HF => ?_
 refine fo HF 2 rfl rfl ?_
 refine s_ek HF HM [vI 2, vB 2] (zr 2 2 (by decide) (by decide) _) fun A93 c93 w93 hc93 HM a HF => ?_
 refine s_fz HF HM 3 rfl (v := .agg #[.slice A93 15 c93, vI 343]) (Yl.build (vs := [(0, .slice A93 15 c93), (1, vI 343)]) rfl (by kernel_rfl) (by kernel_rfl)) fun a HF => ?_
 refine fo HF 4 rfl rfl ?_
 refine s_ek HF HM [vI 4, vB 0] (zr 4 0 (by decide) (by decide) _) fun A95 c95 w95 hc95 HM a HF => ?_
 refine s_fz HF HM 5 rfl (v := .agg #[.slice A95 15 c95, vI 345]) (Yl.build (vs := [(0, .slice A95 15 c95), (1, vI 345)]) rfl (by kernel_rfl) (by kernel_rfl)) fun a HF => ?_
 refine fo HF 6 rfl rfl ?_
 refine s_ek HF HM [vI 4, vB 65] (zr 4 65 (by decide) (by decide) _) fun A97 c97 w97 hc97 HM a HF => ?_
 refine s_fz HF HM 7 rfl (v := .agg #[.slice A97 15 c97, vI 345]) (Yl.build (vs := [(0, .slice A97 15 c97), (1, vI 345)]) rfl (by kernel_rfl) (by kernel_rfl)) fun a HF => ?_
 refine fo HF 8 rfl rfl ?_
 refine s_ek HF HM [vI 6, vB 0] (zr 6 0 (by decide) (by decide) _) fun A99 c99 w99 hc99 HM a HF => ?_
 refine s_fz HF HM 9 rfl (v := .agg #[.slice A99 15 c99, vI 345]) (Yl.build (vs := [(0, .slice A99 15 c99), (1, vI 345)]) rfl (by kernel_rfl) (by kernel_rfl)) fun a HF => ?_
 refine fo HF 10 rfl rfl ?_
 refine s_ek HF HM [vI 9, vB 1] (zr 9 1 (by decide) (by decide) _) fun A101 c101 w101 hc101 HM a HF => ?_
 refine s_fz HF HM 11 rfl (v := .agg #[.slice A101 15 c101, vI 344]) (Yl.build (vs := [(0, .slice A101 15 c101), (1, vI 344)]) rfl (by kernel_rfl) (by kernel_rfl)) fun a HF => ?_
 refine fo HF 12 rfl rfl ?_
 refine s_ek HF HM [] (qg5 _) fun A103 c103 w103 hc103 HM a HF => ?_
 obtain ⟨gA103, rfl⟩ := q8 (HM.own (i := 0) rfl) (Nat.lt_of_le_of_lt (Nat.zero_le _) (show 0 < 15 from (by omega : 0 < 15)))
 refine s_fz HF HM 13 rfl (v := vS gA103 11 11) (Yl.q0d ei_u8 (j := 11) (q := 11) rfl rfl rfl rfl (by omega) (by omega)) fun a HF => ?_
 refine fo HF 14 rfl rfl (s_el HF HM ei_u8 [(0, vB 0)] #[vB 0] ?_)
 clear HF HM; intro a w105 g105 HF HM
 refine fo HF 15 rfl rfl ?_
 refine qii HF HM (xs := byA.map B8) (news := [0].map B8) rfl ei_u8 rfl rfl ((by have h1 := (HM.rd (i := 1) rfl).toB8 (k := 11) (by decide); rw [qwp] at h1; exact h1)) (HM.rdBlk (i := 0) (size := 1) (n := 1) rfl rfl) (by omega) (by omega) (fun h => by cases h) (by omega) (by omega) rfl (by decide) ?_
 clear HF HM; intro a w106 g106 c106 HF HM hc106
 replace HM := HM.asRow (i := 0) (ys := (byA ++ [0]).map B8) rfl (rfl)
 refine fo HF 16 rfl rfl ?_
 refine s_ek HF HM [vS g106 12 c106] (qt4 (some ⟨g106, 0, none⟩) c106 _ (HM.rd (i := 0) rfl)) fun A107 c107 w107 hc107 HM a HF => ?_
 refine s_fz HF HM 17 rfl (v := .agg #[.slice A107 16 c107, vI 346]) (Yl.build (vs := [(0, .slice A107 16 c107), (1, vI 346)]) rfl (by kernel_rfl) (by kernel_rfl)) fun a HF => ?_
 refine fo HF 18 rfl rfl ?_
 refine s_ek HF HM [vI 3, vB 0] (zr 3 0 (by decide) (by decide) _) fun A109 c109 w109 hc109 HM a HF => ?_
 refine s_fz HF HM 19 rfl (v := .agg #[.slice A109 15 c109, vI 347]) (Yl.build (vs := [(0, .slice A109 15 c109), (1, vI 347)]) rfl (by kernel_rfl) (by kernel_rfl)) fun a HF => ?_
 refine fo HF 20 rfl rfl ?_
 refine s_ek HF HM [vI 8, vB 5] (zr 8 5 (by decide) (by decide) _) fun A111 c111 w111 hc111 HM a HF => ?_
 refine s_fz HF HM 21 rfl (v := .agg #[.slice A111 15 c111, vI 347]) (Yl.build (vs := [(0, .slice A111 15 c111), (1, vI 347)]) rfl (by kernel_rfl) (by kernel_rfl)) fun a HF => ?_
 refine fo HF 22 rfl rfl (s_el HF HM ei_xb [(0, .agg #[.slice A91 15 c91, vI 342]), (1, .agg #[.slice A93 15 c93, vI 343]), (2, .agg #[.slice A95 15 c95, vI 345]), (3, .agg #[.slice A97 15 c97, vI 345]), (4, .agg #[.slice A99 15 c99, vI 345]), (5, .agg #[.slice A101 15 c101, vI 344]), (6, .agg #[.slice A107 16 c107, vI 346]), (7, .agg #[.slice A109 15 c109, vI 347]), (8, .agg #[.slice A111 15 c111, vI 347])] #[.slice A91 15 c91, vI 342, .slice A93 15 c93, vI 343, .slice A95 15 c95, vI 345, .slice A97 15 c97, vI 345, .slice A99 15 c99, vI 345, .slice A101 15 c101, vI 344, .slice A107 16 c107, vI 346, .slice A109 15 c109, vI 347, .slice A111 15 c111, vI 347] ?_)
 clear HF HM; intro a w113 g113 HF HM
 refine s_fl HF 23 fun a HF => ?_
 refine fp HF 1 24 [(115, vI 0)] fun a HF => ?_
 refine s_d0 ?_
 replace HM := (HM.blkRow (i := 0) (n := 9) (size := 2) rfl rfl (by decide)).asRow (i := 0) (ys := ([⟨A91, 15, c91, chX 0 112, 342⟩, ⟨A93, 15, c93, chX 2 2, 343⟩, ⟨A95, 15, c95, chX 4 0, 345⟩, ⟨A97, 15, c97, chX 4 65, 345⟩, ⟨A99, 15, c99, chX 6 0, 345⟩, ⟨A101, 15, c101, chX 9 1, 344⟩, ⟨A107, 16, c107, moreX, 346⟩, ⟨A109, 15, c109, chX 3 0, 347⟩, ⟨A111, 15, c111, chX 8 5, 347⟩] : List Xb).flatMap xbL) rfl (rfl)
 replace HM := HM.pk [0, 12, 11, 10, 9, 8, 7, 3, 2, 1]
 have hok : ∀ x ∈ ([⟨A91, 15, c91, chX 0 112, 342⟩, ⟨A93, 15, c93, chX 2 2, 343⟩, ⟨A95, 15, c95, chX 4 0, 345⟩, ⟨A97, 15, c97, chX 4 65, 345⟩, ⟨A99, 15, c99, chX 6 0, 345⟩, ⟨A101, 15, c101, chX 9 1, 344⟩, ⟨A107, 16, c107, moreX, 346⟩, ⟨A109, 15, c109, chX 3 0, 347⟩, ⟨A111, 15, c111, chX 8 5, 347⟩] : List Xb), x.Ok := by
   intro x hx; simp only [List.mem_cons, List.not_mem_nil, or_false] at hx
   rcases hx with rfl | rfl | rfl | rfl | rfl | rfl | rfl | rfl | rfl
   · exact ⟨qby _ _, hc91, (by show 15 ≤ 100; decide), ch_lt (by decide), x1⟩
   · exact ⟨qby _ _, hc93, (by show 15 ≤ 100; decide), ch_lt (by decide), x2⟩
   · exact ⟨qby _ _, hc95, (by show 15 ≤ 100; decide), ch_lt (by decide), x3⟩
   · exact ⟨qby _ _, hc97, (by show 15 ≤ 100; decide), ch_lt (by decide), x4⟩
   · exact ⟨qby _ _, hc99, (by show 15 ≤ 100; decide), ch_lt (by decide), x5⟩
   · exact ⟨qby _ _, hc101, (by show 15 ≤ 100; decide), ch_lt (by decide), x6⟩
   · exact ⟨qoo, hc107, (by show 16 ≤ 100; decide), qz3, x7⟩
   · exact ⟨qby _ _, hc109, (by show 15 ≤ 100; decide), ch_lt (by decide), x8⟩
   · exact ⟨qby _ _, hc111, (by show 15 ≤ 100; decide), ch_lt (by decide), x9⟩
 obtain ⟨q, hq⟩ : ∃ q : List Xb, q = [⟨A91, 15, c91, chX 0 112, 342⟩, ⟨A93, 15, c93, chX 2 2, 343⟩, ⟨A95, 15, c95, chX 4 0, 345⟩, ⟨A97, 15, c97, chX 4 65, 345⟩, ⟨A99, 15, c99, chX 6 0, 345⟩, ⟨A101, 15, c101, chX 9 1, 344⟩, ⟨A107, 16, c107, moreX, 346⟩, ⟨A109, 15, c109, chX 3 0, 347⟩, ⟨A111, 15, c111, chX 8 5, 347⟩] := ⟨_, rfl⟩
 have hql : q.length = 9 := by rw [hq]; rfl
 rw [← hq] at hok
 replace HM : Mem w w113 (.row (vS g113 9 9) 9 (q.flatMap xbL) 102 2 :: xbF 5 q) := by rw [hq]; exact HM
 refine wp_block ?_
 refine qi (fun mS aS wS => ∃ (k : Nat), (k ≤ 9) ∧ mS = 9 - k ∧ Fr aS 130 [] [(115, vI k), (114, vI 9), (113, vS g113 9 9), (90, .bool false), (2, vP g2 0), (1, vS gA16 15 c16), (0, .bool false)] ∧ Mem w wS (.row (vS g113 9 9) 9 (q.flatMap xbL) 102 2 :: xbF 5 q)) (m := 9 - 0) ⟨0, Nat.zero_le _, rfl, HF.sub (by kernel_rfl), HM.pt 1 [0]⟩ ?_
 clear HF HM; rintro mS a w_ ⟨k, hk, rfl, HF, HM⟩
 refine s_fs1 ?_
 refine fp HF 1 0 [(116, .bool (decide ((k : Int) < (9 : Int))))] fun a HF => ?_
 refine s_d0 (wp_seq ?_)
 rcases HF.tf 116 rfl with ⟨hb116, HF⟩ | ⟨hb116, HF⟩
 ·
  have hd116 := of_decide_eq_true hb116
  obtain ⟨x, hx⟩ : ∃ x, q.getD k Xb.zero = x := ⟨_, rfl⟩
  have hxq : x ∈ q := by rw [← hx]; exact qu Xb.zero (by omega)
  obtain ⟨hx1, hx2, hx3, hx4, hx5⟩ := hok x hxq
  refine s_ct HF (wp_skip (wp_seq (wp_block (s_fs1 ?_))))
  refine s_fz HF HM 0 rfl (v := vP g113 (k * 2)) (Yl.ix0 g113 k 2 rfl rfl rfl) fun a HF => ?_
  refine s_fz HF HM 1 rfl (v := .agg ((q.getD k Xb.zero).cells)) (Yl.qt rfl rfl si_xb rfl (fun _ h => h.qg6 qz7 (i := 0) rfl ((getD_at Xb.zero (by omega))))) fun a HF => ?_
  replace HF := HF.sp 118 (.agg x.cells) rfl (by rw [hx])
  refine fo HF 2 rfl rfl (s_ea HF HM #[.slice none 0 0, vI 0] ?_)
  clear HF HM; intro a w13 g13 HF HM
  refine fo HF 3 rfl rfl (e_sa HF HM 0 rfl rfl rfl rfl rfl si_xb rfl rfl (q1x x) ?_)
  clear HM; intro w12_3 HM
  refine s_d0 (s_fs1 ?_)
  refine fp HF 1 0 [(120, vP g13 0)] fun a HF => ?_
  refine s_fz HF HM 1 rfl (v := .slice x.A x.n x.c) (Yl.qd rfl rfl (by kernel_rfl) (fun _ h => h.cell (i := 0) rfl (rfl))) fun a HF => ?_
  refine fo HF 2 rfl rfl ?_
  refine e_cl HF [.slice x.A x.n x.c] rfl rfl (qjc _ _ _ _ B _ (hL.mem HM hB) (HM.le hB) (HM.xbAt 2 rfl hxq) hx2 hx1 (by omega) hx4 hx5) ?_
  rintro _ w122 ⟨z122, rfl, hz122, _, hm⟩
  refine ⟨_, rfl, ?_⟩
  replace HM := HM.call hm.below
  clear HF; intro a HF
  refine fp HF 3 3 [(124, vI x.e), (123, .agg z122.cells)] fun a HF => ?_
  refine fo HF 6 rfl rfl (s_ea HF HM #[vI 0, vI 0, vQ 0, .slice none 0 0, .slice none 0 0, .slice none 0 0, .slice none 0 0, .slice none 0 0] ?_)
  clear HF HM; intro a w14 g14 HF HM
  refine fo HF 7 rfl rfl (e_sa HF HM 0 rfl rfl rfl rfl rfl z4 rfl rfl (qbo z122) ?_)
  clear HM; intro w13_7 HM
  refine fp HF 1 8 [(15, vI x.e)] fun a HF => ?_
  refine s_d0 (s_fs1 ?_)
  refine fp HF 2 0 [(126, vP g13 1), (125, vI x.e)] fun a HF => ?_
  refine s_fz HF HM 2 rfl (v := vI x.e) (Yl.qd rfl rfl (by kernel_rfl) (fun _ h => h.cell (i := 1) rfl (rfl))) fun a HF => ?_
  refine fp HF 1 3 [(128, .bool ((x.e : Int) != (x.e : Int)))] fun a HF => ?_
  refine s_d0 ?_
  rcases HF.tf 128 rfl with ⟨hb128, HF⟩ | ⟨hb128, HF⟩
  ·
   have hd128 := bne_iff_ne.1 hb128
   exact absurd rfl hd128
  have hd128 := bne_eq_false_iff_eq.1 hb128
  refine s_cf HF (wp_skip (qa ?_))
  refine fp HF 1 0 [(129, vI (IntKind.i64.wrap ((k : Int) + 1)))] fun a HF => ?_
  replace HF := HF.sp 129 (vI (k + 1 : Nat)) rfl (qc (by omega) (by omega))
  refine fp HF 1 1 [(115, vI (k + 1 : Nat))] fun a HF => ?_
  refine s_d0 ?_
  exact ⟨_, (by omega), k + 1, by omega, rfl, HF.sub (by kernel_rfl), HM.pt 3 [2]⟩
 have hd116 := of_decide_eq_false hb116
 refine s_cf HF (wp_exit (s_fs1 ?_))
 refine fp HF 1 0 [(0, .bool true)] fun a HF => ?_
 refine s_d0 (wp_ret ?_)
 exact s_rt1 rfl HF rfl (⟨rfl, HM.below⟩)
theorem qhc (A : Option Addr) (c : Nat) (la : List Nat) (D : Option Addr) (d : Nat) (lb : List Nat) (B : Nat) (w : World) (hL : LaidX B w) (hB : B ≤ w.heap.size) (hr1 : Rd w w.heap.size 1 A la.length (la.map B8)) (hc1 : la.length ≤ c) (hl1 : ∀ z ∈ la, z < 256) (hr2 : Rd w w.heap.size 1 D lb.length (lb.map B8)) (hc2 : lb.length ≤ d) (hl2 : ∀ z ∈ lb, z < 256) :
    Calls Tryz.prog 5 #[.slice A la.length c, .slice D lb.length d] w (Is w (.bool true)) := by
 refine s_ce Tryz.func5 [.slice A la.length c, .slice D lb.length d] [(0, .slice A la.length c), (1, .slice D lb.length d)] fun a HF => ?_
 have HM := Mem.start w
 refine s_fs1 ?_
 refine fp HF 1 0 [(4, .bool false)] fun a HF => ?_
 refine s_d0 (s_fs1 ?_)
 refine fp HF 1 0 [(5, .slice A la.length c)] fun a HF => ?_
 refine s_fl HF 1 fun a HF => ?_
 refine fp HF 2 2 [(8, .bool (decide ((la.length : Int) > (1200 : Int))))] fun a HF => ?_
 rcases HF.tf 8 rfl with ⟨hb8, HF⟩ | ⟨hb8, HF⟩
 ·
  have hd8 := of_decide_eq_true hb8
  refine fp HF 10 4 [(18, .bool true)] fun a HF => ?_
  refine fo HF 14 rfl rfl (e_is HF HM [] (.bool true) rfl rfl (qdg B _ (hL.mem HM hB) (HM.le hB)) fun w19 hbw HM a HF => ?_)
  refine fp HF 2 15 [(4, .bool true)] fun a HF => ?_
  refine s_d0 (wp_ret ?_)
  exact s_rt1 rfl HF rfl (⟨rfl, HM.below⟩)
 have hd8 := of_decide_eq_false hb8
 refine fp HF 1 4 [(9, .slice D lb.length d)] fun a HF => ?_
 refine s_fl HF 5 fun a HF => ?_
 refine fp HF 3 6 [(13, .bool (decide ((lb.length : Int) > (1200 : Int))))] fun a HF => ?_
 rcases HF.tf 13 rfl with ⟨hb13, HF⟩ | ⟨hb13, HF⟩
 ·
  have hd13 := of_decide_eq_true hb13
  refine fp HF 5 9 [(18, .bool true)] fun a HF => ?_
  refine fo HF 14 rfl rfl (e_is HF HM [] (.bool true) rfl rfl (qdg B _ (hL.mem HM hB) (HM.le hB)) fun w19 hbw HM a HF => ?_)
  refine fp HF 2 15 [(4, .bool true)] fun a HF => ?_
  refine s_d0 (wp_ret ?_)
  exact s_rt1 rfl HF rfl (⟨rfl, HM.below⟩)
 have hd13 := of_decide_eq_false hb13
 refine fp HF 2 9 [(15, .slice D lb.length d), (14, .slice A la.length c)] fun a HF => ?_
 refine fo HF 11 rfl rfl (e_is HF HM [.slice A la.length c, .slice D lb.length d] (.bool true) rfl rfl (qp4 A c la D d lb B _ (hL.mem HM hB) (HM.le hB) (HM.old hr1) hc1 (by omega) hl1 (HM.old hr2) hc2 (by omega) hl2) fun w16 hbw HM a HF => ?_)
 refine fp HF 2 12 [(18, .bool true)] fun a HF => ?_
 refine fo HF 14 rfl rfl (e_is HF HM [] (.bool true) rfl rfl (qdg B _ (hL.mem HM hB) (HM.le hB)) fun w19 hbw HM a HF => ?_)
 refine fp HF 2 15 [(4, .bool true)] fun a HF => ?_
 refine s_d0 (wp_ret ?_)
 exact s_rt1 rfl HF rfl (⟨rfl, HM.below⟩)
end Go.Proofs.YtggpmlaappaopaaGreatDoor
