/- Parts. -/
import Derived.Test.YtggpmlaappaopaaGreatDoorQtSep20
import Derived.Test.YtggpmlaappaopaaGreatDoorQtVarRead
import Derived.Test.YtggpmlaappaopaaGreatDoorQtPan
import Derived.Test.YtggpmlaappaopaaGreatDoorQtSep13
import Derived.Test.YtggpmlaappaopaaGreatDoorQtZ2
set_option linter.all false
set_option maxRecDepth 100000
set_option maxHeartbeats 1000000
namespace Go.Proofs.YtggpmlaappaopaaGreatDoor
open Go.RowKit
theorem qcb : SI Tryz.prog 173 3 := ⟨by kernel_rfl, by kernel_rfl⟩
theorem qi5 : EI Tryz.prog 170 173 (.agg #[.int .u64 0, .int .i64 0, .int .i64 0]) 3 24 := ⟨by kernel_rfl, by kernel_rfl, rfl, by omega⟩
theorem gr_is {x : Gr} (h1 : x.parent = 0) (h2 : x.weight = 1) : x = ⟨0, 1⟩ := by
 obtain ⟨a, b⟩ := x
 simp only at h1 h2
 rw [h1, h2]
theorem qs7 {l : List Tk} {id : Int} (h : ∀ k, k < l.length → (l.getD k Tk.zero).id ≠ id) : fidx l id = -1 := by unfold fidx; rw [qgi h]
theorem qs8 {l : List Tk} {id : Int} {i : Nat} (hi : i < l.length) (h : (l.getD i Tk.zero).id = id) (hn : ∀ k, k < i → (l.getD k Tk.zero).id ≠ id) : fidx l id = i := by unfold fidx; rw [qj5 hi h hn]
theorem qfa (v r : Nat) (wt : Int) (hv : v < 18446744073709551616) (hr : r < 4294967296) (hw : 0 ≤ wt ∧ wt < 4294967296) (w : World) :
    Calls Tryz.prog 134 #[.agg #[.int .u64 (v : Int), .int .u32 (r : Int), .int .u32 wt]] w (Is w (.bool (entOk v r wt))) := by
 obtain ⟨z, rfl⟩ : ∃ z : Nat, wt = (z : Int) := ⟨wt.toNat, by omega⟩
 refine s_ce Tryz.func134 [.agg #[vQ v, vW r, vW z]] [(0, .agg #[vQ v, vW r, vW z])] fun a HF => ?_
 have HM := Mem.start w
 refine s_fs1 ?_
 refine fo HF 0 rfl rfl (s_eb HF HM #[vQ v, vW r, vW z] ?_)
 clear HF HM; intro a w1 g1 HF HM
 refine fp HF 1 1 [(2, .bool false)] fun a HF => ?_
 refine s_d0 (s_fs1 ?_)
 refine fp HF 1 0 [(3, vP g1 2)] fun a HF => ?_
 refine s_fc HF HM 1 0 fun a HF => ?_
 refine fp HF 2 2 [(6, .bool (decide ((z : Int) ≥ (1 : Int))))] fun a HF => ?_
 rcases HF.tf 6 rfl with ⟨hb6, HF⟩ | ⟨hb6, HF⟩
 ·
  have hd6 := of_decide_eq_true hb6
  refine fp HF 1 4 [(7, vP g1 2)] fun a HF => ?_
  refine s_fc HF HM 5 0 fun a HF => ?_
  refine fp HF 3 6 [(11, .bool (decide ((z : Int) ≤ (65536 : Int))))] fun a HF => ?_
  rcases HF.tf 11 rfl with ⟨hb11, HF⟩ | ⟨hb11, HF⟩
  ·
   have hd11 := of_decide_eq_true hb11
   refine fp HF 1 9 [(12, vP g1 1)] fun a HF => ?_
   refine s_fc HF HM 10 0 fun a HF => ?_
   refine fp HF 1 11 [(14, vP g1 2)] fun a HF => ?_
   refine s_fc HF HM 12 0 fun a HF => ?_
   refine fp HF 3 13 [(18, .bool (decide ((r : Int) < (z : Int))))] fun a HF => ?_
   rcases HF.tf 18 rfl with ⟨hb18, HF⟩ | ⟨hb18, HF⟩
   ·
    have hd18 := of_decide_eq_true hb18
    refine fp HF 1 16 [(19, vP g1 0)] fun a HF => ?_
    refine s_fc HF HM 17 0 fun a HF => ?_
    refine fp HF 2 18 [(22, .bool ((v : Int) == (18446744073709551615 : Int)))] fun a HF => ?_
    rcases HF.tf 22 rfl with ⟨hb22, HF⟩ | ⟨hb22, HF⟩
    ·
     have hd22 := eq_of_beq hb22
     refine fp HF 1 20 [(23, vP g1 1)] fun a HF => ?_
     refine s_fc HF HM 21 0 fun a HF => ?_
     refine fp HF 5 22 [(2, .bool (!(decide ((r : Int) > (0 : Int)))))] fun a HF => ?_
     refine s_d0 (wp_ret ?_)
     replace HM := HM.pk (fs' := []) []
     exact s_rt1 rfl HF rfl (is_as (by unfold entOk; rw [← decide_not]; exact decide_eq_decide.2 (by omega)) HM.below)
    have hd22 := ne_of_beq_false hb22
    refine fp HF 7 20 [(2, .bool true)] fun a HF => ?_
    refine s_d0 (wp_ret ?_)
    replace HM := HM.pk (fs' := []) []
    exact s_rt1 rfl HF rfl (qhk (by omega) HM.below)
   have hd18 := of_decide_eq_false hb18
   refine fp HF 11 16 [(2, .bool false)] fun a HF => ?_
   refine s_d0 (wp_ret ?_)
   replace HM := HM.pk (fs' := []) []
   exact s_rt1 rfl HF rfl (is_no (by omega) HM.below)
  have hd11 := of_decide_eq_false hb11
  refine fp HF 18 9 [(2, .bool false)] fun a HF => ?_
  refine s_d0 (wp_ret ?_)
  replace HM := HM.pk (fs' := []) []
  exact s_rt1 rfl HF rfl (is_no (by omega) HM.below)
 have hd6 := of_decide_eq_false hb6
 refine fp HF 23 4 [(2, .bool false)] fun a HF => ?_
 refine s_d0 (wp_ret ?_)
 replace HM := HM.pk (fs' := []) []
 exact s_rt1 rfl HF rfl (is_no (by omega) HM.below)
theorem qgy (v r : Nat) (wt : Int) (hw : 0 ≤ wt ∧ wt < 4294967296) (w : World) :
    Calls Tryz.prog 135 #[.int .u64 (v : Int), .int .u32 (r : Int), .int .i64 wt] w (Is w (.agg #[.int .u64 (v : Int), .int .u32 (r : Int), .int .u32 wt])) := by
 obtain ⟨z, rfl⟩ : ∃ z : Nat, wt = (z : Int) := ⟨wt.toNat, by omega⟩
 refine s_ce Tryz.func135 [vQ v, vW r, vI z] [(0, vQ v), (1, vW r), (2, vI z)] fun a HF => ?_
 have HM := Mem.start w
 refine s_fs1 ?_
 refine fo HF 0 rfl rfl (s_ea HF HM #[vQ 0, vW 0, vW 0] ?_)
 clear HF HM; intro a w6 g6 HF HM
 refine s_d0 (s_fs1 ?_)
 refine fp HF 4 0 [(10, vW (IntKind.u32.wrap (z : Int))), (8, vW r), (7, vQ v)] fun a HF => ?_
 replace HF := HF.sp 10 (vW z) rfl (qas rfl (by omega))
 refine s_fz HF HM 4 rfl (v := .agg #[vQ v, vW r, vW z]) (Yl.build (vs := [(0, vQ v), (1, vW r), (2, vW z)]) rfl (by kernel_rfl) (by kernel_rfl)) fun a HF => ?_
 refine fo HF 5 rfl rfl (e_sa HF HM 0 rfl rfl rfl rfl rfl qqx rfl rfl (by simp [Value.oneCell']) ?_)
 clear HM; intro w1_5 HM
 refine s_d0 (wp_ret ?_)
 exact ret1 rfl HF (.cellS (i := 0) HF HM rfl rfl qqx rfl) (⟨rfl, HM.below⟩)
theorem qs9 (m n : Nat) (hm : m < 18446744073709551616) (hn : 1 ≤ n ∧ n ≤ 64) (w : World) :
    Calls Tryz.prog 136 #[.int .u64 (m : Int), .int .i64 (n : Int)] w (Is w (.bool (decide (2 ^ n ≤ m)))) := by
 refine s_ce Tryz.func136 [vQ m, vI n] [(0, vQ m), (1, vI n)] fun a HF => ?_
 have HM := Mem.start w
 refine s_fs1 ?_
 refine fp HF 1 0 [(4, .bool false)] fun a HF => ?_
 refine s_d0 (wp_seq (s_fs1 ?_))
 refine fp HF 2 0 [(5, vI n)] fun a HF => ?_
 refine s_d0 (wp_block ?_)
 refine qi (fun mS aS wS => ∃ (k : Nat), (n ≤ k) ∧ (k ≤ 64) ∧ (∀ i, n ≤ i → i < k → m / 2 ^ i % 2 = 0) ∧ mS = 64 - k ∧ Fr aS 16 [] [(5, vI k), (4, .bool false), (0, vQ m)] ∧ Mem w wS []) (m := 64 - n) ⟨n, Nat.le_refl _, hn.2, fun i h1 h2 => by omega, rfl, HF.sub (by kernel_rfl), HM.pk []⟩ ?_
 clear HF HM; rintro mS a w_ ⟨k, hkn, hk, hu, rfl, HF, HM⟩
 refine wp_seq (s_fs1 ?_)
 refine fp HF 2 0 [(8, .bool (decide ((k : Int) < (64 : Int))))] fun a HF => ?_
 refine s_d0 ?_
 rcases HF.tf 8 rfl with ⟨hb8, HF⟩ | ⟨hb8, HF⟩
 ·
  have hd8 := of_decide_eq_true hb8
  have hsh := Nat.div_le_self m (2 ^ k)
  refine s_ct HF (wp_skip (wp_seq (wp_block (s_fs1 ?_))))
  refine fp HF 2 0 [(12, vI k), (11, vQ m)] fun a HF => ?_
  refine s_fz HF HM 2 rfl (v := vQ (m / 2 ^ k : Nat)) (Yl.shrN (m := m) (n := k) rfl rfl rfl (by show _ ≤ 64; omega)) fun a HF => ?_
  refine fp HF 1 3 [(14, vQ (Int.tmod ((m / 2 ^ k : Nat) : Int) 2))] fun a HF => ?_
  replace HF := HF.sp 14 (vQ ((m / 2 ^ k) % 2 : Nat)) rfl (qaj .u64 _ 2)
  refine fp HF 1 4 [(15, .bool ((((m / 2 ^ k) % 2 : Nat) : Int) == (1 : Int)))] fun a HF => ?_
  refine s_d0 ?_
  rcases HF.tf 15 rfl with ⟨hb15, HF⟩ | ⟨hb15, HF⟩
  ·
   have hd15 := eq_of_beq hb15
   refine s_ct HF (s_fs1 ?_)
   refine fp HF 1 0 [(4, .bool true)] fun a HF => ?_
   refine s_d0 (wp_ret ?_)
   exact s_rt1 rfl HF rfl (qhk (qso hkn (by omega)) HM.below)
  have hd15 := ne_of_beq_false hb15
  refine s_cf HF (wp_skip (qa ?_))
  refine fp HF 2 0 [(10, vI (IntKind.i64.wrap ((k : Int) + 1)))] fun a HF => ?_
  replace HF := HF.sp 10 (vI (k + 1 : Nat)) rfl (qc (by omega) (by omega))
  refine fp HF 1 2 [(5, vI (k + 1 : Nat))] fun a HF => ?_
  refine s_d0 ?_
  exact ⟨_, (by omega), k + 1, by omega, by omega, fun i h1 h2 => by rcases Nat.lt_or_ge i k with h3 | h3; exact hu i h1 h3; obtain rfl : i = k := (by omega); omega, rfl, HF.sub (by kernel_rfl), HM.pk []⟩
 have hd8 := of_decide_eq_false hb8
 refine s_cf HF (wp_exit (s_fs1 ?_))
 refine fp HF 1 0 [(4, .bool false)] fun a HF => ?_
 refine s_d0 (wp_ret ?_)
 exact s_rt1 rfl HF rfl (is_no (qsn hm hn.2 (fun i h1 h2 => hu i h1 (by omega))) HM.below)
theorem qpf (A : Option Addr) (c : Nat) (l : List Gr) (g : Nat) (w : World) (hok : ∀ x ∈ l, x.Ok) (hr : Rd w w.heap.size 2 A l.length (l.flatMap grL)) (hn : l.length ≤ 1000000) (hg : 0 < g ∧ g < l.length) (hp : ∀ i, 0 < i → i < g → ParB l i) :
    Calls Tryz.prog 150 #[.slice A l.length c, .int .i64 (g : Int)] w (DepIs w l g) := by
 refine s_ce Tryz.func150 [.slice A l.length c, vI g] [(0, .slice A l.length c), (1, vI g)] fun a HF => ?_
 have HM := Mem.start w
 refine s_fs1 ?_
 refine fp HF 1 0 [(4, vI 0)] fun a HF => ?_
 refine s_d0 (s_fs1 ?_)
 refine fp HF 1 0 [(5, vI 0)] fun a HF => ?_
 refine s_d0 (wp_seq (wp_block ?_))
 refine qi (fun mS aS wS => ∃ (y : Nat) (n : Nat), (y ≤ g) ∧ (n ≤ 5) ∧ (depG l g = n + depG l y) ∧ (y = g ∨ ParB l g) ∧ mS = 0 + y ∧ Fr aS 35 [] [(5, vI n), (4, vI 0), (0, .slice A l.length c), (1, vI y)] ∧ Mem w wS []) (m := 0 + g) ⟨g, 0, Nat.le_refl _, by decide, (Nat.zero_add _).symm, .inl rfl, rfl, HF.sub (by kernel_rfl), HM.pk []⟩ ?_
 clear HF HM; rintro mS a w_ ⟨y, n, hyg, hn5, hd, hpg, rfl, HF, HM⟩
 refine wp_seq (s_fs1 ?_)
 refine fp HF 3 0 [(8, .bool (decide ((y : Int) > (0 : Int))))] fun a HF => ?_
 rcases HF.tf 8 rfl with ⟨hb8, HF⟩ | ⟨hb8, HF⟩
 ·
  have hd8 := of_decide_eq_true hb8
  refine fp HF 3 3 [(11, .bool (decide ((n : Int) < (5 : Int))))] fun a HF => ?_
  refine s_d0 ?_
  rcases HF.tf 11 rfl with ⟨hb11, HF⟩ | ⟨hb11, HF⟩
  ·
   have hd11 := of_decide_eq_true hb11
   refine s_ct HF (wp_skip (wp_block (wp_seq (s_fs1 ?_))))
   refine fp HF 2 0 [(13, vI y), (12, .slice A l.length c)] fun a HF => ?_
   obtain ⟨gA, oA, rfl, _⟩ := hr.qj (Nat.lt_of_le_of_lt (Nat.zero_le _) (show y < l.length from by omega)) (by decide)
   refine s_fz HF HM 2 rfl (v := vP gA (oA + y * 2)) (Yl.ix gA oA y 2 rfl rfl rfl) fun a HF => ?_
   refine fp HF 1 3 [(15, vP gA (oA + y * 2))] fun a HF => ?_
   refine s_fz HF HM 4 rfl (v := vI ((l.getD y Gr.zero).parent)) (Yl.qd rfl rfl (by kernel_rfl) (fun _ h => (by have := (h.old hr).partAt zo (k := y) (j := 0) (x := (l.getD y Gr.zero)) ((getD_at Gr.zero (by omega))) rfl; simpa using this))) fun a HF => ?_
   refine fp HF 2 5 [(18, .bool (decide (((l.getD y Gr.zero).parent : Int) < (0 : Int))))] fun a HF => ?_
   rcases HF.tf 18 rfl with ⟨hb18, HF⟩ | ⟨hb18, HF⟩
   ·
    have hd18 := of_decide_eq_true hb18
    refine fp HF 8 7 [(26, .bool true)] fun a HF => ?_
    refine s_d0 (s_ct HF (s_fs1 ?_))
    refine fp HF 1 0 [(4, vI 5)] fun a HF => ?_
    refine s_d0 (wp_ret ?_)
    exact s_rt1 rfl HF rfl (qnu hp hyg (by omega) (by omega) HM.below)
   have hd18 := of_decide_eq_false hb18
   refine fp HF 2 7 [(20, vI y), (19, .slice (some ⟨gA, oA, none⟩) l.length c)] fun a HF => ?_
   refine s_fz HF HM 9 rfl (v := vP gA (oA + y * 2)) (Yl.ix gA oA y 2 rfl rfl rfl) fun a HF => ?_
   refine fp HF 1 10 [(22, vP gA (oA + y * 2))] fun a HF => ?_
   refine s_fz HF HM 11 rfl (v := vI ((l.getD y Gr.zero).parent)) (Yl.qd rfl rfl (by kernel_rfl) (fun _ h => (by have := (h.old hr).partAt zo (k := y) (j := 0) (x := (l.getD y Gr.zero)) ((getD_at Gr.zero (by omega))) rfl; simpa using this))) fun a HF => ?_
   refine fp HF 3 12 [(26, .bool (decide (((l.getD y Gr.zero).parent : Int) ≥ (y : Int))))] fun a HF => ?_
   refine s_d0 ?_
   rcases HF.tf 26 rfl with ⟨hb26, HF⟩ | ⟨hb26, HF⟩
   ·
    have hd26 := of_decide_eq_true hb26
    refine s_ct HF (s_fs1 ?_)
    refine fp HF 1 0 [(4, vI 5)] fun a HF => ?_
    refine s_d0 (wp_ret ?_)
    exact s_rt1 rfl HF rfl (qnu hp hyg (by omega) (by omega) HM.below)
   have hd26 := of_decide_eq_false hb26
   obtain ⟨z, hz⟩ : ∃ z : Nat, (l.getD y Gr.zero).parent = (z : Int) := ⟨(l.getD y Gr.zero).parent.toNat, by omega⟩
   have hds := qvx hp hyg (by omega) hz (by omega)
   refine s_cf HF (wp_skip (s_fs1 ?_))
   refine fp HF 2 0 [(28, vI y), (27, .slice (some ⟨gA, oA, none⟩) l.length c)] fun a HF => ?_
   refine s_fz HF HM 2 rfl (v := vP gA (oA + y * 2)) (Yl.ix gA oA y 2 rfl rfl rfl) fun a HF => ?_
   refine fp HF 1 3 [(30, vP gA (oA + y * 2))] fun a HF => ?_
   refine s_fz HF HM 4 rfl (v := vI ((l.getD y Gr.zero).parent)) (Yl.qd rfl rfl (by kernel_rfl) (fun _ h => (by have := (h.old hr).partAt zo (k := y) (j := 0) (x := (l.getD y Gr.zero)) ((getD_at Gr.zero (by omega))) rfl; simpa using this))) fun a HF => ?_
   replace HF := HF.sp 31 (vI z) rfl (by rw [hz])
   refine fp HF 1 5 [(1, vI z)] fun a HF => ?_
   refine s_d0 (qa ?_)
   refine fp HF 2 0 [(33, vI (IntKind.i64.wrap ((n : Int) + 1)))] fun a HF => ?_
   replace HF := HF.sp 33 (vI (n + 1 : Nat)) rfl (qc (by omega) (by omega))
   refine fp HF 1 2 [(5, vI (n + 1 : Nat))] fun a HF => ?_
   refine s_d0 ?_
   exact ⟨_, (by omega), z, n + 1, by omega, by omega, by omega, .inr (hpg.elim (fun e => e ▸ qy8 hz (by omega)) id), rfl, HF.sub (by kernel_rfl), HM.pk []⟩
  have hd11 := of_decide_eq_false hb11
  refine s_cf HF (wp_exit (s_fs1 ?_))
  refine fp HF 2 0 [(4, vI n)] fun a HF => ?_
  refine s_d0 (wp_ret ?_)
  exact s_rt1 rfl HF rfl (qnv hd (by omega) hpg hg.1 HM.below)
 have hd8 := of_decide_eq_false hb8
 refine fp HF 3 3 [(11, .bool false)] fun a HF => ?_
 refine s_d0 (s_cf HF (wp_exit (s_fs1 ?_)))
 refine fp HF 2 0 [(4, vI n)] fun a HF => ?_
 refine s_d0 (wp_ret ?_)
 exact s_rt1 rfl HF rfl (qnv hd (by omega) hpg hg.1 HM.below)
theorem qfh (x : Stm) (hok : x.sta.Ok) (hf : StFew x) (w : World) (hx : StRd w x) :
    Calls Tryz.prog 133 #[.agg #[.int .i64 x.cpus, .int .u64 (x.credit : Int), .slice x.gA x.gs.length x.gc]] w (Is w (.bool (cfgOk x.sta))) := by
 have hc := hok.cpus
 have hcr := hok.credit
 replace hc : I64 x.cpus := hc
 replace hcr : x.credit < 18446744073709551616 := hcr
 unfold I64 at hc
 have hfg := hf.g
 have hokg : ∀ y ∈ x.gs, y.Ok := hok.gs
 refine s_ce Tryz.func133 [.agg #[vI x.cpus, vQ x.credit, .slice x.gA x.gs.length x.gc]] [(0, .agg #[vI x.cpus, vQ x.credit, .slice x.gA x.gs.length x.gc])] fun a HF => ?_
 have HM := Mem.start w
 refine s_fs1 ?_
 refine fo HF 0 rfl rfl (s_eb HF HM #[vI x.cpus, vQ x.credit, .slice x.gA x.gs.length x.gc] ?_)
 clear HF HM; intro a w1 g1 HF HM
 refine fp HF 1 1 [(2, .bool false)] fun a HF => ?_
 refine s_d0 (wp_seq (s_fs1 ?_))
 refine fp HF 1 0 [(4, vP g1 0)] fun a HF => ?_
 refine s_fc HF HM 1 0 fun a HF => ?_
 refine fp HF 2 2 [(7, .bool (decide ((x.cpus : Int) < (1 : Int))))] fun a HF => ?_
 rcases HF.tf 7 rfl with ⟨hb7, HF⟩ | ⟨hb7, HF⟩
 ·
  have hd7 := of_decide_eq_true hb7
  refine fp HF 21 4 [(28, .bool true)] fun a HF => ?_
  refine s_d0 (s_ct HF (s_fs1 ?_))
  refine fp HF 1 0 [(2, .bool false)] fun a HF => ?_
  refine s_d0 (wp_ret ?_)
  exact s_rt1 rfl HF rfl (is_as (qhm (by omega)).symm HM.below)
 have hd7 := of_decide_eq_false hb7
 refine fp HF 1 4 [(8, vP g1 0)] fun a HF => ?_
 refine s_fc HF HM 5 0 fun a HF => ?_
 refine fp HF 3 6 [(12, .bool (decide ((x.cpus : Int) > (64 : Int))))] fun a HF => ?_
 rcases HF.tf 12 rfl with ⟨hb12, HF⟩ | ⟨hb12, HF⟩
 ·
  have hd12 := of_decide_eq_true hb12
  refine fp HF 16 9 [(28, .bool true)] fun a HF => ?_
  refine s_d0 (s_ct HF (s_fs1 ?_))
  refine fp HF 1 0 [(2, .bool false)] fun a HF => ?_
  refine s_d0 (wp_ret ?_)
  exact s_rt1 rfl HF rfl (is_as (qhm (by omega)).symm HM.below)
 have hd12 := of_decide_eq_false hb12
 refine fp HF 1 9 [(13, vP g1 1)] fun a HF => ?_
 refine s_fc HF HM 10 0 fun a HF => ?_
 refine fp HF 3 11 [(17, .bool (decide ((x.credit : Int) > (1099511627776 : Int))))] fun a HF => ?_
 rcases HF.tf 17 rfl with ⟨hb17, HF⟩ | ⟨hb17, HF⟩
 ·
  have hd17 := of_decide_eq_true hb17
  refine fp HF 11 14 [(28, .bool true)] fun a HF => ?_
  refine s_d0 (s_ct HF (s_fs1 ?_))
  refine fp HF 1 0 [(2, .bool false)] fun a HF => ?_
  refine s_d0 (wp_ret ?_)
  exact s_rt1 rfl HF rfl (is_as (qhm (by omega)).symm HM.below)
 have hd17 := of_decide_eq_false hb17
 refine fp HF 1 14 [(18, vP g1 2)] fun a HF => ?_
 refine s_fc HF HM 15 0 fun a HF => ?_
 refine s_fl HF 16 fun a HF => ?_
 refine fp HF 3 17 [(23, .bool (decide ((x.gs.length : Int) < (1 : Int))))] fun a HF => ?_
 rcases HF.tf 23 rfl with ⟨hb23, HF⟩ | ⟨hb23, HF⟩
 ·
  have hd23 := of_decide_eq_true hb23
  refine fp HF 5 20 [(28, .bool true)] fun a HF => ?_
  refine s_d0 (s_ct HF (s_fs1 ?_))
  refine fp HF 1 0 [(2, .bool false)] fun a HF => ?_
  refine s_d0 (wp_ret ?_)
  exact s_rt1 rfl HF rfl (is_as (qh4 (qb7 (by omega))).symm HM.below)
 have hd23 := of_decide_eq_false hb23
 refine fp HF 1 20 [(24, vP g1 2)] fun a HF => ?_
 refine s_fc HF HM 21 0 fun a HF => ?_
 refine s_fl HF 22 fun a HF => ?_
 refine fp HF 2 23 [(28, .bool (decide ((x.gs.length : Int) > (256 : Int))))] fun a HF => ?_
 refine s_d0 ?_
 rcases HF.tf 28 rfl with ⟨hb28, HF⟩ | ⟨hb28, HF⟩
 ·
  have hd28 := of_decide_eq_true hb28
  refine s_ct HF (s_fs1 ?_)
  refine fp HF 1 0 [(2, .bool false)] fun a HF => ?_
  refine s_d0 (wp_ret ?_)
  exact s_rt1 rfl HF rfl (is_as (qh4 (qb7 (by omega))).symm HM.below)
 have hd28 := of_decide_eq_false hb28
 refine s_cf HF (wp_skip (wp_seq (s_fs1 ?_)))
 refine fp HF 1 0 [(29, vP g1 2)] fun a HF => ?_
 refine s_fc HF HM 1 0 fun a HF => ?_
 obtain ⟨gq1, oq1, hq1, _⟩ := Rd.qj hx.g (Nat.lt_of_le_of_lt (Nat.zero_le _) (show 0 < x.gs.length from by omega)) (by decide)
 have hrq1 := hx.g; rw [hq1] at hrq1
 replace HF := HF.sp 30 (.slice (some ⟨gq1, oq1, none⟩) x.gs.length x.gc) rfl (by rw [hq1]; try rfl)
 refine s_fz HF HM 2 rfl (v := vP gq1 oq1) (Yl.indexAddr (ad := ⟨gq1, oq1, none⟩) (y := 0) (sz := 2) rfl rfl rfl (by omega) (by kernel_rfl)) fun a HF => ?_
 refine fp HF 1 3 [(32, vP gq1 oq1)] fun a HF => ?_
 refine s_fz HF HM 4 rfl (v := vI ((x.gs.getD 0 Gr.zero).parent)) (Yl.qd rfl rfl (by kernel_rfl) (fun _ h => (by have := (h.old hrq1).partAt zo (k := 0) (j := 0) (x := (x.gs.getD 0 Gr.zero)) ((getD_at Gr.zero (by omega))) rfl; simpa using this))) fun a HF => ?_
 refine fp HF 2 5 [(35, .bool (((x.gs.getD 0 Gr.zero).parent : Int) != (0 : Int)))] fun a HF => ?_
 rcases HF.tf 35 rfl with ⟨hb35, HF⟩ | ⟨hb35, HF⟩
 ·
  have hd35 := bne_iff_ne.1 hb35
  refine fp HF 7 7 [(42, .bool true)] fun a HF => ?_
  refine s_d0 (s_ct HF (s_fs1 ?_))
  refine fp HF 1 0 [(2, .bool false)] fun a HF => ?_
  refine s_d0 (wp_ret ?_)
  exact s_rt1 rfl HF rfl (is_as (qh4 (qb7 (fun h => by rw [h.2.2] at hd35; exact hd35 rfl))).symm HM.below)
 have hd35 := bne_eq_false_iff_eq.1 hb35
 refine fp HF 1 7 [(36, vP g1 2)] fun a HF => ?_
 refine s_fc HF HM 8 0 fun a HF => ?_
 replace HF := HF.sp 37 (.slice (some ⟨gq1, oq1, none⟩) x.gs.length x.gc) rfl (by rw [hq1]; try rfl)
 refine s_fz HF HM 9 rfl (v := vP gq1 oq1) (Yl.indexAddr (ad := ⟨gq1, oq1, none⟩) (y := 0) (sz := 2) rfl rfl rfl (by omega) (by kernel_rfl)) fun a HF => ?_
 refine fp HF 1 10 [(39, vP gq1 (oq1 + 1))] fun a HF => ?_
 refine s_fz HF HM 11 rfl (v := vI ((x.gs.getD 0 Gr.zero).weight)) (Yl.qd rfl rfl (by kernel_rfl) (fun _ h => (h.old hrq1).partAt zo (k := 0) (j := 1) (x := (x.gs.getD 0 Gr.zero)) ((getD_at Gr.zero (by omega))) rfl)) fun a HF => ?_
 refine fp HF 2 12 [(42, .bool (((x.gs.getD 0 Gr.zero).weight : Int) != (1 : Int)))] fun a HF => ?_
 refine s_d0 ?_
 rcases HF.tf 42 rfl with ⟨hb42, HF⟩ | ⟨hb42, HF⟩
 ·
  have hd42 := bne_iff_ne.1 hb42
  refine s_ct HF (s_fs1 ?_)
  refine fp HF 1 0 [(2, .bool false)] fun a HF => ?_
  refine s_d0 (wp_ret ?_)
  exact s_rt1 rfl HF rfl (is_as (qh4 (qb7 (fun h => by rw [h.2.2] at hd42; exact hd42 rfl))).symm HM.below)
 have hd42 := bne_eq_false_iff_eq.1 hb42
 have hg0 : (x.gs.getD 0 Gr.zero) = ⟨0, 1⟩ := gr_is hd35 hd42
 refine s_cf HF (wp_skip (wp_seq (s_fs1 ?_)))
 refine fp HF 1 0 [(3, vI 1)] fun a HF => ?_
 refine s_d0 (wp_block ?_)
 refine qi (fun mS aS wS => ∃ (g : Nat), (1 ≤ g) ∧ (g ≤ x.gs.length) ∧ (UpTo g (gOk x.gs)) ∧ mS = x.gs.length - g ∧ Fr aS 65 [] [(3, vI g), (42, .bool false), (28, .bool false), (2, .bool false), (1, vP g1 0)] ∧ Mem w wS [.blk g1 #[vI x.cpus, vQ x.credit, .slice x.gA x.gs.length x.gc] 25]) (m := x.gs.length - 1) ⟨1, Nat.le_refl _, by omega, UpTo.zero.succ (qmu x.gs), rfl, HF.sub (by kernel_rfl), HM.pk [0]⟩ ?_
 clear HF HM; rintro mS a w_ ⟨g, hg1, hgl, hu, rfl, HF, HM⟩
 refine wp_seq (s_fs1 ?_)
 refine fp HF 2 0 [(44, vP g1 2), (43, vI g)] fun a HF => ?_
 refine s_fc HF HM 2 0 fun a HF => ?_
 refine s_fl HF 3 fun a HF => ?_
 refine fp HF 1 4 [(47, .bool (decide ((g : Int) < (x.gs.length : Int))))] fun a HF => ?_
 refine s_d0 ?_
 rcases HF.tf 47 rfl with ⟨hb47, HF⟩ | ⟨hb47, HF⟩
 ·
  have hd47 := of_decide_eq_true hb47
  have hg47 : g < x.gs.length := by omega
  have hOk := hok.gs _ (qu Gr.zero hg47)
  have hOw := hOk.weight
  unfold I64 at hOw
  refine s_ct HF (wp_skip (wp_seq (wp_block (s_fs1 ?_))))
  refine fp HF 1 0 [(50, vP g1 2)] fun a HF => ?_
  refine s_fc HF HM 1 0 fun a HF => ?_
  refine fp HF 1 2 [(52, vI g)] fun a HF => ?_
  replace HF := HF.sp 51 (.slice (some ⟨gq1, oq1, none⟩) x.gs.length x.gc) rfl (by rw [hq1]; try rfl)
  refine s_fz HF HM 3 rfl (v := vP gq1 (oq1 + g * 2)) (Yl.ix gq1 oq1 g 2 rfl rfl rfl) fun a HF => ?_
  refine fp HF 1 4 [(54, vP gq1 (oq1 + g * 2 + 1))] fun a HF => ?_
  refine s_fz HF HM 5 rfl (v := vI ((x.gs.getD g Gr.zero).weight)) (Yl.qd rfl rfl (by kernel_rfl) (fun _ h => (h.old hrq1).partAt zo (k := g) (j := 1) (x := (x.gs.getD g Gr.zero)) ((getD_at Gr.zero (by omega))) rfl)) fun a HF => ?_
  refine fo HF 6 rfl rfl ?_
  refine e_cl HF [vI ((x.gs.getD g Gr.zero).weight)] rfl rfl (qip ((x.gs.getD g Gr.zero).weight) _) ?_
  rintro _ w56 ⟨rfl, hbw⟩
  refine ⟨_, rfl, ?_⟩
  replace HM := HM.call hbw
  clear HF; intro a HF
  refine fp HF 2 7 [(58, .bool (!(decide (1 ≤ (x.gs.getD g Gr.zero).weight ∧ (x.gs.getD g Gr.zero).weight ≤ 65536))))] fun a HF => ?_
  rcases HF.tf 58 rfl with ⟨hb58, HF⟩ | ⟨hb58, HF⟩
  ·
   have hd58 := of_decide_eq_false ((Bool.not_eq_true' _).mp hb58)
   refine fp HF 6 9 [(64, .bool true)] fun a HF => ?_
   refine s_d0 (s_ct HF (s_fs1 ?_))
   refine fp HF 1 0 [(2, .bool false)] fun a HF => ?_
   refine s_d0 (wp_ret ?_)
   exact s_rt1 rfl HF rfl (is_as (qh4 (qeq hg47 (qhl (by omega) (fun h => hd58 h.2.2.1)))).symm HM.below)
  have hd58 := of_decide_eq_true ((Bool.not_eq_false' _).mp hb58)
  refine fp HF 1 9 [(59, vP g1 2)] fun a HF => ?_
  refine s_fc HF HM 10 0 fun a HF => ?_
  refine fp HF 1 11 [(61, vI g)] fun a HF => ?_
  refine fo HF 12 rfl rfl ?_
  refine e_cl HF [.slice x.gA x.gs.length x.gc, vI g] rfl rfl (qpf x.gA x.gc x.gs g _ hok.gs (HM.old hx.g) hf.g ⟨by omega, by omega⟩ (qza hu)) ?_
  rintro _ w62 ⟨⟨d, rfl, hd⟩, hbw⟩
  refine ⟨_, rfl, ?_⟩
  replace HM := HM.call hbw
  clear HF; intro a HF
  refine fp HF 2 13 [(64, .bool (decide ((d : Int) > (4 : Int))))] fun a HF => ?_
  refine s_d0 ?_
  rcases HF.tf 64 rfl with ⟨hb64, HF⟩ | ⟨hb64, HF⟩
  ·
   have hd64 := of_decide_eq_true hb64
   refine s_ct HF (s_fs1 ?_)
   refine fp HF 1 0 [(2, .bool false)] fun a HF => ?_
   refine s_d0 (wp_ret ?_)
   exact s_rt1 rfl HF rfl (is_as (qh4 (qeq hg47 (qy9 (by omega) (fun h => by have := hd.2 h; omega)))).symm HM.below)
  have hd64 := of_decide_eq_false hb64
  refine s_cf HF (wp_skip (qa ?_))
  refine fp HF 2 0 [(49, vI (IntKind.i64.wrap ((g : Int) + 1)))] fun a HF => ?_
  replace HF := HF.sp 49 (vI (g + 1 : Nat)) rfl (qc (by omega) (by omega))
  refine fp HF 1 2 [(3, vI (g + 1 : Nat))] fun a HF => ?_
  refine s_d0 ?_
  exact ⟨_, (by omega), g + 1, by omega, by omega, hu.succ (qvy (hd.1 (by omega)) (by simpa using hb58)), rfl, HF.sub (by kernel_rfl), HM.pk [0]⟩
 have hd47 := of_decide_eq_false hb47
 refine s_cf HF (wp_exit (s_fs1 ?_))
 refine fp HF 1 0 [(2, .bool true)] fun a HF => ?_
 refine s_d0 (wp_ret ?_)
 exact s_rt1 rfl HF rfl (is_as ((qq2 (by omega)).trans (qmt ⟨by omega, by omega, hg0⟩ (fun i hi => hu i (by omega)))).symm HM.below)
theorem qta (x : Stm) (id : Int) (w : World) (hx : StRd w x) (hn : x.ts.length ≤ 1000000) :
    Calls Tryz.prog 113 #[.agg x.cells, .int .i64 id] w (Is w (.int .i64 (fidx x.ts id))) := by
 refine s_ce Tryz.func113 [.agg x.cells, vI id] [(0, .agg x.cells), (1, vI id)] fun a HF => ?_
 have HM := Mem.start w
 refine s_fs1 ?_
 refine fo HF 0 rfl rfl (s_eb HF HM x.cells ?_)
 clear HF HM; intro a w2 g2 HF HM
 refine fp HF 1 1 [(4, vI 0)] fun a HF => ?_
 refine s_d0 (wp_seq (s_fs1 ?_))
 refine fp HF 1 0 [(5, vI 0)] fun a HF => ?_
 refine s_d0 (wp_block ?_)
 refine qi (fun mS aS wS => ∃ (i : Nat), (i ≤ x.ts.length) ∧ (∀ k, k < i → (x.ts.getD k Tk.zero).id ≠ id) ∧ mS = x.ts.length - i ∧ Fr aS 22 [] [(5, vI i), (4, vI 0), (2, vP g2 0), (1, vI id)] ∧ Mem w wS [.blk g2 x.cells 30]) (m := x.ts.length - 0) ⟨0, Nat.zero_le _, fun k h => by omega, rfl, HF.sub (by kernel_rfl), HM.pk [0]⟩ ?_
 clear HF HM; rintro mS a w_ ⟨i, hi, hu, rfl, HF, HM⟩
 refine wp_seq (s_fs1 ?_)
 refine fp HF 2 0 [(7, vP g2 5), (6, vI i)] fun a HF => ?_
 refine s_fz HF HM 2 rfl (v := .slice x.tA x.ts.length x.tc) (Yl.qd rfl rfl (by kernel_rfl) (fun _ h => h.cell (i := 0) rfl (rfl))) fun a HF => ?_
 refine s_fl HF 3 fun a HF => ?_
 refine fp HF 1 4 [(10, .bool (decide ((i : Int) < (x.ts.length : Int))))] fun a HF => ?_
 refine s_d0 ?_
 rcases HF.tf 10 rfl with ⟨hb10, HF⟩ | ⟨hb10, HF⟩
 ·
  have hd10 := of_decide_eq_true hb10
  have hi10 : i < x.ts.length := by omega
  refine s_ct HF (wp_skip (wp_seq (wp_block (s_fs1 ?_))))
  refine fp HF 1 0 [(13, vP g2 5)] fun a HF => ?_
  refine s_fz HF HM 1 rfl (v := .slice x.tA x.ts.length x.tc) (Yl.qd rfl rfl (by kernel_rfl) (fun _ h => h.cell (i := 0) rfl (rfl))) fun a HF => ?_
  refine fp HF 1 2 [(15, vI i)] fun a HF => ?_
  obtain ⟨gq1, oq1, hq1, _⟩ := Rd.qj hx.t (Nat.lt_of_le_of_lt (Nat.zero_le _) (show i < x.ts.length from by omega)) (by decide)
  have hrq1 := hx.t; rw [hq1] at hrq1
  replace HF := HF.sp 14 (.slice (some ⟨gq1, oq1, none⟩) x.ts.length x.tc) rfl (by rw [hq1]; try rfl)
  refine s_fz HF HM 3 rfl (v := vP gq1 (oq1 + i * 8)) (Yl.ix gq1 oq1 i 8 rfl rfl rfl) fun a HF => ?_
  refine fp HF 1 4 [(17, vP gq1 (oq1 + i * 8))] fun a HF => ?_
  refine s_fz HF HM 5 rfl (v := vI ((x.ts.getD i Tk.zero).id)) (Yl.qd rfl rfl (by kernel_rfl) (fun _ h => (by have := (h.old hrq1).partAt zw (k := i) (j := 0) (x := (x.ts.getD i Tk.zero)) ((getD_at Tk.zero (by omega))) rfl; simpa using this))) fun a HF => ?_
  refine fp HF 2 6 [(20, .bool (((x.ts.getD i Tk.zero).id : Int) == (id : Int)))] fun a HF => ?_
  refine s_d0 ?_
  rcases HF.tf 20 rfl with ⟨hb20, HF⟩ | ⟨hb20, HF⟩
  ·
   have hd20 := eq_of_beq hb20
   refine s_ct HF (s_fs1 ?_)
   refine fp HF 2 0 [(4, vI i)] fun a HF => ?_
   refine s_d0 (wp_ret ?_)
   exact s_rt1 rfl HF rfl (⟨by rw [qs8 hi10 hd20 hu], HM.below⟩)
  have hd20 := ne_of_beq_false hb20
  refine s_cf HF (wp_skip (qa ?_))
  refine fp HF 2 0 [(12, vI (IntKind.i64.wrap ((i : Int) + 1)))] fun a HF => ?_
  replace HF := HF.sp 12 (vI (i + 1 : Nat)) rfl (qc (by omega) (by omega))
  refine fp HF 1 2 [(5, vI (i + 1 : Nat))] fun a HF => ?_
  refine s_d0 ?_
  exact ⟨_, (by omega), i + 1, by omega, qht hu hd20, rfl, HF.sub (by kernel_rfl), HM.pk [0]⟩
 have hd10 := of_decide_eq_false hb10
 refine s_cf HF (wp_exit (s_fs1 ?_))
 refine fp HF 1 0 [(4, vI (-1))] fun a HF => ?_
 refine s_d0 (wp_ret ?_)
 exact s_rt1 rfl HF rfl (⟨by rw [qs7 (fun k h => hu k (by omega))], HM.below⟩)
theorem qma (p q : Mb) (w : World) :
    Calls Tryz.prog 137 #[.agg p.rcells, .agg q.rcells] w (Is w (.bool (p.lt q))) := by
 refine s_ce Tryz.func137 [.agg p.rcells, .agg q.rcells] [(0, .agg p.rcells), (1, .agg q.rcells)] fun a HF => ?_
 have HM := Mem.start w
 refine s_fs1 ?_
 refine fo HF 0 rfl rfl (s_eb HF HM p.rcells ?_)
 clear HF HM; intro a w2 g2 HF HM
 refine fo HF 1 rfl rfl (s_eb HF HM q.rcells ?_)
 clear HF HM; intro a w3 g3 HF HM
 refine fp HF 1 2 [(4, .bool false)] fun a HF => ?_
 refine s_d0 (wp_seq (s_fs1 ?_))
 refine fp HF 1 0 [(5, vP g2 0)] fun a HF => ?_
 refine s_fz HF HM 1 rfl (v := vQ p.v) (Yl.qd rfl rfl (by kernel_rfl) (fun _ h => h.cell (i := 1) rfl (rfl))) fun a HF => ?_
 refine fp HF 1 2 [(7, vP g3 0)] fun a HF => ?_
 refine s_fz HF HM 3 rfl (v := vQ q.v) (Yl.qd rfl rfl (by kernel_rfl) (fun _ h => h.cell (i := 0) rfl (rfl))) fun a HF => ?_
 refine fp HF 1 4 [(9, .bool ((p.v : Int) != (q.v : Int)))] fun a HF => ?_
 refine s_d0 ?_
 rcases HF.tf 9 rfl with ⟨hb9, HF⟩ | ⟨hb9, HF⟩
 ·
  have hd9 := bne_iff_ne.1 hb9
  refine s_ct HF (s_fs1 ?_)
  refine fp HF 1 0 [(10, vP g2 0)] fun a HF => ?_
  refine s_fz HF HM 1 rfl (v := vQ p.v) (Yl.qd rfl rfl (by kernel_rfl) (fun _ h => h.cell (i := 1) rfl (rfl))) fun a HF => ?_
  refine fp HF 1 2 [(12, vP g3 0)] fun a HF => ?_
  refine s_fz HF HM 3 rfl (v := vQ q.v) (Yl.qd rfl rfl (by kernel_rfl) (fun _ h => h.cell (i := 0) rfl (rfl))) fun a HF => ?_
  refine fp HF 2 4 [(4, .bool (decide ((p.v : Int) < (q.v : Int))))] fun a HF => ?_
  refine s_d0 (wp_ret ?_)
  exact s_rt1 rfl HF rfl (qss (lt_v (by omega)) HM.below)
 have hd9 := bne_eq_false_iff_eq.1 hb9
 refine s_cf HF (wp_skip (wp_seq (s_fs1 ?_)))
 refine fp HF 1 0 [(15, vP g2 1)] fun a HF => ?_
 refine s_fz HF HM 1 rfl (v := vI p.k) (Yl.qd rfl rfl (by kernel_rfl) (fun _ h => h.cell (i := 1) rfl (rfl))) fun a HF => ?_
 refine fp HF 1 2 [(17, vP g3 1)] fun a HF => ?_
 refine s_fz HF HM 3 rfl (v := vI q.k) (Yl.qd rfl rfl (by kernel_rfl) (fun _ h => h.cell (i := 0) rfl (rfl))) fun a HF => ?_
 refine fp HF 1 4 [(19, .bool ((p.k : Int) != (q.k : Int)))] fun a HF => ?_
 refine s_d0 ?_
 rcases HF.tf 19 rfl with ⟨hb19, HF⟩ | ⟨hb19, HF⟩
 ·
  have hd19 := bne_iff_ne.1 hb19
  refine s_ct HF (s_fs1 ?_)
  refine fp HF 1 0 [(20, vP g2 1)] fun a HF => ?_
  refine s_fz HF HM 1 rfl (v := vI p.k) (Yl.qd rfl rfl (by kernel_rfl) (fun _ h => h.cell (i := 1) rfl (rfl))) fun a HF => ?_
  refine fp HF 1 2 [(22, vP g3 1)] fun a HF => ?_
  refine s_fz HF HM 3 rfl (v := vI q.k) (Yl.qd rfl rfl (by kernel_rfl) (fun _ h => h.cell (i := 0) rfl (rfl))) fun a HF => ?_
  refine fp HF 2 4 [(4, .bool (decide ((p.k : Int) < (q.k : Int))))] fun a HF => ?_
  refine s_d0 (wp_ret ?_)
  exact s_rt1 rfl HF rfl (qss (lt_k (by omega) (by omega)) HM.below)
 have hd19 := bne_eq_false_iff_eq.1 hb19
 refine s_cf HF (wp_skip (s_fs1 ?_))
 refine fp HF 1 0 [(25, vP g2 2)] fun a HF => ?_
 refine s_fz HF HM 1 rfl (v := vI p.id) (Yl.qd rfl rfl (by kernel_rfl) (fun _ h => h.cell (i := 1) rfl (rfl))) fun a HF => ?_
 refine fp HF 1 2 [(27, vP g3 2)] fun a HF => ?_
 refine s_fz HF HM 3 rfl (v := vI q.id) (Yl.qd rfl rfl (by kernel_rfl) (fun _ h => h.cell (i := 0) rfl (rfl))) fun a HF => ?_
 refine fp HF 2 4 [(4, .bool (decide ((p.id : Int) < (q.id : Int))))] fun a HF => ?_
 refine s_d0 (wp_ret ?_)
 exact s_rt1 rfl HF rfl (qss (lt_id (by omega) (by omega)) HM.below)
theorem qmb (x : Stm) (hok : x.sta.Ok) (hf : StFew x) (w : World) (hx : StRd w x) :
    Calls Tryz.prog 111 #[.agg x.cells] w (Is w (.bool (shpS x.sta))) := by
 have hfs := hf.s; have hft := hf.t; have hfg := hf.g; have hfl := hf.l; have hfu := hf.u
 refine s_ce Tryz.func111 [.agg x.cells] [(0, .agg x.cells)] fun a HF => ?_
 have HM := Mem.start w
 refine s_fs1 ?_
 refine fo HF 0 rfl rfl (s_eb HF HM x.cells ?_)
 clear HF HM; intro a w1 g1 HF HM
 refine fp HF 1 1 [(2, .bool false)] fun a HF => ?_
 refine s_d0 (wp_seq (s_fs1 ?_))
 refine fp HF 1 0 [(7, vP g1 0)] fun a HF => ?_
 refine s_fz HF HM 1 rfl (v := .agg #[vI x.cpus, vQ x.credit, .slice x.gA x.gs.length x.gc]) (Yl.qt rfl rfl qa9 rfl (fun _ h => h.sub (i := 0) rfl 0 rfl)) fun a HF => ?_
 refine fo HF 2 rfl rfl (e_is HF HM [.agg #[vI x.cpus, vQ x.credit, .slice x.gA x.gs.length x.gc]] (.bool (cfgOk x.sta)) rfl rfl (qfh x hok hf _ (hx.old HM)) fun w9 hbw HM a HF => ?_)
 refine fp HF 2 3 [(11, .bool (!(cfgOk x.sta)))] fun a HF => ?_
 rcases HF.tf 11 rfl with ⟨hb11, HF⟩ | ⟨hb11, HF⟩
 ·
  refine fp HF 27 5 [(38, .bool true)] fun a HF => ?_
  refine s_d0 (s_ct HF (s_fs1 ?_))
  refine fp HF 1 0 [(2, .bool false)] fun a HF => ?_
  refine s_d0 (wp_ret ?_)
  exact s_rt1 rfl HF rfl (is_as (qzb (by simpa using hb11)).symm HM.below)
 have hcf : cfgOk x.sta = true := by simpa using hb11
 obtain ⟨hc1, hc2, hc3, hgs⟩ := qc2 hcf
 refine fp HF 1 5 [(12, vP g1 3)] fun a HF => ?_
 refine s_fz HF HM 6 rfl (v := .slice x.lA x.cl.length x.lc) (Yl.qd rfl rfl (by kernel_rfl) (fun _ h => h.cell (i := 0) rfl (rfl))) fun a HF => ?_
 refine s_fl HF 7 fun a HF => ?_
 refine fp HF 2 8 [(16, vP g1 0)] fun a HF => ?_
 refine s_fz HF HM 10 rfl (v := vI x.cpus) (Yl.qd rfl rfl (by kernel_rfl) (fun _ h => h.cell (i := 0) rfl (rfl))) fun a HF => ?_
 refine fp HF 3 11 [(20, .bool ((x.cl.length : Int) != (x.cpus : Int)))] fun a HF => ?_
 rcases HF.tf 20 rfl with ⟨hb20, HF⟩ | ⟨hb20, HF⟩
 ·
  have hd20 := bne_iff_ne.1 hb20
  refine fp HF 18 14 [(38, .bool true)] fun a HF => ?_
  refine s_d0 (s_ct HF (s_fs1 ?_))
  refine fp HF 1 0 [(2, .bool false)] fun a HF => ?_
  refine s_d0 (wp_ret ?_)
  exact s_rt1 rfl HF rfl (is_as (ql6 (by omega)).symm HM.below)
 have hd20 := bne_eq_false_iff_eq.1 hb20
 refine fp HF 1 14 [(21, vP g1 4)] fun a HF => ?_
 refine s_fz HF HM 15 rfl (v := .slice x.uA x.cu.length x.uc) (Yl.qd rfl rfl (by kernel_rfl) (fun _ h => h.cell (i := 0) rfl (rfl))) fun a HF => ?_
 refine s_fl HF 16 fun a HF => ?_
 refine fp HF 2 17 [(25, vP g1 0)] fun a HF => ?_
 refine s_fz HF HM 19 rfl (v := vI x.cpus) (Yl.qd rfl rfl (by kernel_rfl) (fun _ h => h.cell (i := 0) rfl (rfl))) fun a HF => ?_
 refine fp HF 3 20 [(29, .bool ((x.cu.length : Int) != (x.cpus : Int)))] fun a HF => ?_
 rcases HF.tf 29 rfl with ⟨hb29, HF⟩ | ⟨hb29, HF⟩
 ·
  have hd29 := bne_iff_ne.1 hb29
  refine fp HF 9 23 [(38, .bool true)] fun a HF => ?_
  refine s_d0 (s_ct HF (s_fs1 ?_))
  refine fp HF 1 0 [(2, .bool false)] fun a HF => ?_
  refine s_d0 (wp_ret ?_)
  exact s_rt1 rfl HF rfl (is_as (ql6 (by omega)).symm HM.below)
 have hd29 := bne_eq_false_iff_eq.1 hb29
 refine fp HF 1 23 [(30, vP g1 6)] fun a HF => ?_
 refine s_fz HF HM 24 rfl (v := .slice x.sA x.rs.length x.sc) (Yl.qd rfl rfl (by kernel_rfl) (fun _ h => h.cell (i := 0) rfl (rfl))) fun a HF => ?_
 refine s_fl HF 25 fun a HF => ?_
 refine fp HF 2 26 [(34, vP g1 2)] fun a HF => ?_
 refine s_fz HF HM 28 rfl (v := .slice x.gA x.gs.length x.gc) (Yl.qd rfl rfl (by kernel_rfl) (fun _ h => h.cell (i := 0) rfl (rfl))) fun a HF => ?_
 refine s_fl HF 29 fun a HF => ?_
 refine fp HF 2 30 [(38, .bool ((x.rs.length : Int) != (x.gs.length : Int)))] fun a HF => ?_
 refine s_d0 ?_
 rcases HF.tf 38 rfl with ⟨hb38, HF⟩ | ⟨hb38, HF⟩
 ·
  have hd38 := bne_iff_ne.1 hb38
  refine s_ct HF (s_fs1 ?_)
  refine fp HF 1 0 [(2, .bool false)] fun a HF => ?_
  refine s_d0 (wp_ret ?_)
  exact s_rt1 rfl HF rfl (is_as (ql6 (by omega)).symm HM.below)
 have hd38 := bne_eq_false_iff_eq.1 hb38
 refine s_cf HF (wp_skip (wp_seq (s_fs1 ?_)))
 refine fp HF 1 0 [(3, vI 0)] fun a HF => ?_
 refine s_d0 (wp_block ?_)
 refine qi (fun mS aS wS => ∃ (k : Nat), (k ≤ x.cl.length) ∧ (UpTo k (fun c => clOk (x.cl.getD c 0))) ∧ mS = x.cl.length - k ∧ Fr aS 123 [] [(3, vI k), (38, .bool false), (2, .bool false), (1, vP g1 0)] ∧ Mem w wS [.blk g1 x.cells 30]) (m := x.cl.length - 0) ⟨0, Nat.zero_le _, UpTo.zero, rfl, HF.sub (by kernel_rfl), HM.pk [0]⟩ ?_
 clear HF HM; rintro mS a w_ ⟨k, hk, hu0, rfl, HF, HM⟩
 refine wp_seq (s_fs1 ?_)
 refine fp HF 2 0 [(40, vP g1 3), (39, vI k)] fun a HF => ?_
 refine s_fz HF HM 2 rfl (v := .slice x.lA x.cl.length x.lc) (Yl.qd rfl rfl (by kernel_rfl) (fun _ h => h.cell (i := 0) rfl (rfl))) fun a HF => ?_
 refine s_fl HF 3 fun a HF => ?_
 refine fp HF 1 4 [(43, .bool (decide ((k : Int) < (x.cl.length : Int))))] fun a HF => ?_
 refine s_d0 ?_
 rcases HF.tf 43 rfl with ⟨hb43, HF⟩ | ⟨hb43, HF⟩
 ·
  have hd43 := of_decide_eq_true hb43
  have hk43 : k < x.cl.length := by omega
  refine s_ct HF (wp_skip (wp_seq (wp_block (s_fs1 ?_))))
  refine fp HF 1 0 [(46, vP g1 3)] fun a HF => ?_
  refine s_fz HF HM 1 rfl (v := .slice x.lA x.cl.length x.lc) (Yl.qd rfl rfl (by kernel_rfl) (fun _ h => h.cell (i := 0) rfl (rfl))) fun a HF => ?_
  refine fp HF 1 2 [(48, vI k)] fun a HF => ?_
  obtain ⟨gq1, oq1, hq1, _⟩ := Rd.qj hx.l (Nat.lt_of_le_of_lt (Nat.zero_le _) (show k < x.cl.length from by omega)) (by decide)
  have hrq1 := hx.l; rw [hq1] at hrq1
  replace HF := HF.sp 47 (.slice (some ⟨gq1, oq1, none⟩) x.cl.length x.lc) rfl (by rw [hq1]; try rfl)
  refine s_fz HF HM 3 rfl (v := vP gq1 (oq1 + k * 1)) (Yl.ix gq1 oq1 k 1 rfl rfl rfl) fun a HF => ?_
  refine s_fz HF HM 4 rfl (v := vI (x.cl.getD k 0)) (Yl.o1 hrq1 k 0 (by omega) rfl rfl) fun a HF => ?_
  refine fp HF 2 5 [(52, .bool (decide (((x.cl.getD k 0) : Int) < (0 : Int))))] fun a HF => ?_
  rcases HF.tf 52 rfl with ⟨hb52, HF⟩ | ⟨hb52, HF⟩
  ·
   have hd52 := of_decide_eq_true hb52
   refine fp HF 7 7 [(59, .bool true)] fun a HF => ?_
   refine s_d0 (s_ct HF (s_fs1 ?_))
   refine fp HF 1 0 [(2, .bool false)] fun a HF => ?_
   refine s_d0 (wp_ret ?_)
   exact s_rt1 rfl HF rfl (is_as (qxq hk43 (qsq (by omega))).symm HM.below)
  have hd52 := of_decide_eq_false hb52
  refine fp HF 1 7 [(53, vP g1 3)] fun a HF => ?_
  refine s_fz HF HM 8 rfl (v := .slice x.lA x.cl.length x.lc) (Yl.qd rfl rfl (by kernel_rfl) (fun _ h => h.cell (i := 0) rfl (rfl))) fun a HF => ?_
  refine fp HF 1 9 [(55, vI k)] fun a HF => ?_
  replace HF := HF.sp 54 (.slice (some ⟨gq1, oq1, none⟩) x.cl.length x.lc) rfl (by rw [hq1]; try rfl)
  refine s_fz HF HM 10 rfl (v := vP gq1 (oq1 + k * 1)) (Yl.ix gq1 oq1 k 1 rfl rfl rfl) fun a HF => ?_
  refine s_fz HF HM 11 rfl (v := vI (x.cl.getD k 0)) (Yl.o1 hrq1 k 0 (by omega) rfl rfl) fun a HF => ?_
  refine fp HF 2 12 [(59, .bool (decide (((x.cl.getD k 0) : Int) > (281474976710656 : Int))))] fun a HF => ?_
  refine s_d0 ?_
  rcases HF.tf 59 rfl with ⟨hb59, HF⟩ | ⟨hb59, HF⟩
  ·
   have hd59 := of_decide_eq_true hb59
   refine s_ct HF (s_fs1 ?_)
   refine fp HF 1 0 [(2, .bool false)] fun a HF => ?_
   refine s_d0 (wp_ret ?_)
   exact s_rt1 rfl HF rfl (is_as (qxq hk43 (qsq (by omega))).symm HM.below)
  have hd59 := of_decide_eq_false hb59
  refine s_cf HF (wp_skip (qa ?_))
  refine fp HF 2 0 [(45, vI (IntKind.i64.wrap ((k : Int) + 1)))] fun a HF => ?_
  replace HF := HF.sp 45 (vI (k + 1 : Nat)) rfl (qc (by omega) (by omega))
  refine fp HF 1 2 [(3, vI (k + 1 : Nat))] fun a HF => ?_
  refine s_d0 ?_
  exact ⟨_, (by omega), k + 1, by omega, hu0.succ (qvz (by omega)), rfl, HF.sub (by kernel_rfl), HM.pk [0]⟩
 have hd43 := of_decide_eq_false hb43
 refine s_cf HF (wp_exit (wp_seq (s_fs1 ?_)))
 refine fp HF 1 0 [(4, vI 0)] fun a HF => ?_
 refine s_d0 (wp_block ?_)
 refine qi (fun mS aS wS => ∃ (g : Nat), (g ≤ x.rs.length) ∧ (UpTo g (rowOk x.sta)) ∧ mS = x.rs.length - g ∧ Fr aS 123 [] [(4, vI g), (43, .bool false), (3, vI k), (38, .bool false), (2, .bool false), (1, vP g1 0)] ∧ Mem w wS [.blk g1 x.cells 30]) (m := x.rs.length - 0) ⟨0, Nat.zero_le _, UpTo.zero, rfl, HF.sub (by kernel_rfl), HM.pk [0]⟩ ?_
 clear HF HM; rintro mS a w_ ⟨g, hg, hu, rfl, HF, HM⟩
 refine wp_seq (s_fs1 ?_)
 refine fp HF 2 0 [(61, vP g1 6), (60, vI g)] fun a HF => ?_
 refine s_fz HF HM 2 rfl (v := .slice x.sA x.rs.length x.sc) (Yl.qd rfl rfl (by kernel_rfl) (fun _ h => h.cell (i := 0) rfl (rfl))) fun a HF => ?_
 refine s_fl HF 3 fun a HF => ?_
 refine fp HF 1 4 [(64, .bool (decide ((g : Int) < (x.rs.length : Int))))] fun a HF => ?_
 refine s_d0 ?_
 rcases HF.tf 64 rfl with ⟨hb64, HF⟩ | ⟨hb64, HF⟩
 ·
  have hd64 := of_decide_eq_true hb64
  have hg48 : g < x.rs.length := by omega
  obtain ⟨y, hy⟩ : ∃ z, x.rs.getD g Rw.zero = z := ⟨_, rfl⟩
  have hyr : Rd w w.heap.size 3 y.A y.l.length (y.l.flatMap spL) := by rw [← hy]; exact hx.row hg48
  have hyl : y.l.length ≤ 1000000 := by rw [← hy]; exact hf.r _ (qu Rw.zero hg48)
  have hyo : ∀ z ∈ y.l, z.Ok := by rw [← hy, ← rs_at hg48]; exact hok.sp _ (qu [] (by rw [qaq]; exact hg48))
  obtain ⟨wt, hwt⟩ : ∃ z, (x.gs.getD g Gr.zero).weight = z := ⟨_, rfl⟩
  have hw1 := wt_at hgs (show g < x.gs.length by omega)
  rw [hwt] at hw1
  obtain ⟨gq2, oq2, hq2, _⟩ := Rd.qj hx.g (Nat.lt_of_le_of_lt (Nat.zero_le _) (show g < x.gs.length from by omega)) (by decide)
  have hrq2 := hx.g; rw [hq2] at hrq2
  obtain ⟨gq3, oq3, hq3, _⟩ := Rd.qj hx.s (Nat.lt_of_le_of_lt (Nat.zero_le _) (show g < x.rs.length from hg48)) (by decide)
  have hrq3 := hx.s; rw [hq3] at hrq3
  refine s_ct HF (wp_skip (wp_seq (wp_block (wp_seq (wp_seq ?_)))))
  refine za HM [.blk g1 x.cells 30] [0] [] fun HM HS => ?_
  refine ap HF (fun _ => HS) [0, 2, 6, 7] (bf 10 [0, 2, 6, 7]) [(74, vP g1 0), (69, vI g), (67, vP g1 6)] fun a HF => ?_
  refine s_az HF HS 1 rfl (v := .slice x.sA x.rs.length x.sc) (Yl.qd rfl rfl (by kernel_rfl) (fun _ h => h.cell (i := 0) rfl (rfl))) fun a HF => ?_
  replace HF := HF.sp 68 (.slice (some ⟨gq3, oq3, none⟩) x.rs.length x.sc) rfl (by rw [hq3]; try rfl)
  refine s_az HF HS 3 rfl (v := vP gq3 (oq3 + g * 1)) (Yl.ix gq3 oq3 g 1 rfl rfl rfl) fun a HF => ?_
  refine s_az HF HS 4 rfl (v := .slice ((x.rs.getD g Rw.zero).A) ((x.rs.getD g Rw.zero).l.length) ((x.rs.getD g Rw.zero).c)) (Yl.o1 hrq3 g Rw.zero hg48 rfl rfl) fun a HF => ?_
  replace HF := HF.sp 71 (.slice y.A y.l.length y.c) rfl (by rw [hy])
  refine s_al HF HS 5 fun a HF => ?_
  refine s_az HF HS 8 rfl (v := vI x.cpus) (Yl.qd rfl rfl (by kernel_rfl) (fun _ h => h.cell (i := 0) rfl (rfl))) fun a HF => ?_
  refine ap HF (fun _ => HS) [9] (bt 10 []) [(76, .bool ((y.l.length : Int) != (x.cpus : Int)))] fun a HF => ?_
  refine qk (by kernel_rfl) ?_
  rcases HF.tf 76 rfl with ⟨hb76, HF⟩ | ⟨hb76, HF⟩
  ·
   have hd76 := bne_iff_ne.1 hb76
   refine s_ct HF (s_fs1 ?_)
   refine fp HF 1 0 [(2, .bool false)] fun a HF => ?_
   refine s_d0 (wp_ret ?_)
   exact s_rt1 rfl HF rfl (is_as (qsp hg48 (qq4 hg48 (by rw [hy]; omega))).symm HM.below)
  have hd76 := bne_eq_false_iff_eq.1 hb76
  refine s_cf HF (wp_skip (s_fs1 ?_))
  refine fp HF 1 0 [(5, vI 0)] fun a HF => ?_
  refine s_d0 (wp_block ?_)
  refine qi (fun mS aS wS => ∃ (c : Nat), (c ≤ y.l.length) ∧ (UpTo c (fun c => spOk x.sta g (y.l.getD c Sp.zero))) ∧ mS = y.l.length - c ∧ Fr aS 123 [] [(5, vI c), (76, .bool false), (64, .bool true), (4, vI g), (43, .bool false), (3, vI k), (38, .bool false), (2, .bool false), (1, vP g1 0)] ∧ Mem w wS [.blk g1 x.cells 30]) (m := y.l.length - 0) ⟨0, Nat.zero_le _, UpTo.zero, rfl, HF.sub (by kernel_rfl), HM.pk [0]⟩ ?_
  clear HF HM; rintro mS a w_ ⟨c, hc, hu2, rfl, HF, HM⟩
  refine wp_seq (s_fs1 ?_)
  refine fp HF 2 0 [(78, vP g1 6), (77, vI c)] fun a HF => ?_
  refine s_fz HF HM 2 rfl (v := .slice x.sA x.rs.length x.sc) (Yl.qd rfl rfl (by kernel_rfl) (fun _ h => h.cell (i := 0) rfl (rfl))) fun a HF => ?_
  refine fp HF 1 3 [(80, vI g)] fun a HF => ?_
  replace HF := HF.sp 79 (.slice (some ⟨gq3, oq3, none⟩) x.rs.length x.sc) rfl (by rw [hq3]; try rfl)
  refine s_fz HF HM 4 rfl (v := vP gq3 (oq3 + g * 1)) (Yl.ix gq3 oq3 g 1 rfl rfl rfl) fun a HF => ?_
  refine s_fz HF HM 5 rfl (v := .slice ((x.rs.getD g Rw.zero).A) ((x.rs.getD g Rw.zero).l.length) ((x.rs.getD g Rw.zero).c)) (Yl.o1 hrq3 g Rw.zero hg48 rfl rfl) fun a HF => ?_
  replace HF := HF.sp 82 (.slice y.A y.l.length y.c) rfl (by rw [hy])
  refine s_fl HF 6 fun a HF => ?_
  refine fp HF 1 7 [(84, .bool (decide ((c : Int) < (y.l.length : Int))))] fun a HF => ?_
  refine s_d0 ?_
  rcases HF.tf 84 rfl with ⟨hb84, HF⟩ | ⟨hb84, HF⟩
  ·
   have hd84 := of_decide_eq_true hb84
   have hc61 : c < y.l.length := by omega
   obtain ⟨z, hz⟩ : ∃ q, y.l.getD c Sp.zero = q := ⟨_, rfl⟩
   have hzo := hyo _ (qu Sp.zero hc61)
   rw [hz] at hzo
   have hzv := hzo.v; have hzr := hzo.r
   refine s_ct HF (wp_skip (wp_seq (wp_block (s_fs1 ?_))))
   refine fp HF 1 0 [(87, vP g1 6)] fun a HF => ?_
   refine s_fz HF HM 1 rfl (v := .slice x.sA x.rs.length x.sc) (Yl.qd rfl rfl (by kernel_rfl) (fun _ h => h.cell (i := 0) rfl (rfl))) fun a HF => ?_
   refine fp HF 1 2 [(89, vI g)] fun a HF => ?_
   replace HF := HF.sp 88 (.slice (some ⟨gq3, oq3, none⟩) x.rs.length x.sc) rfl (by rw [hq3]; try rfl)
   refine s_fz HF HM 3 rfl (v := vP gq3 (oq3 + g * 1)) (Yl.ix gq3 oq3 g 1 rfl rfl rfl) fun a HF => ?_
   refine s_fz HF HM 4 rfl (v := .slice ((x.rs.getD g Rw.zero).A) ((x.rs.getD g Rw.zero).l.length) ((x.rs.getD g Rw.zero).c)) (Yl.o1 hrq3 g Rw.zero hg48 rfl rfl) fun a HF => ?_
   replace HF := HF.sp 91 (.slice y.A y.l.length y.c) rfl (by rw [hy])
   refine fp HF 1 5 [(92, vI c)] fun a HF => ?_
   obtain ⟨gq4, oq4, hq4, _⟩ := Rd.qj hyr (Nat.lt_of_le_of_lt (Nat.zero_le _) (show c < y.l.length from by omega)) (by decide)
   have hrq4 := hyr; rw [hq4] at hrq4
   replace HF := HF.sp 91 (.slice (some ⟨gq4, oq4, none⟩) y.l.length y.c) rfl (by rw [hq4]; try rfl)
   refine s_fz HF HM 6 rfl (v := vP gq4 (oq4 + c * 3)) (Yl.ix gq4 oq4 c 3 rfl rfl rfl) fun a HF => ?_
   refine s_fz HF HM 7 rfl (v := .agg ((y.l.getD c Sp.zero).cells)) (Yl.qt rfl rfl si_sp rfl (fun _ h => (h.old hrq4).q9 qak ((getD_at Sp.zero hc61)))) fun a HF => ?_
   replace HF := HF.sp 94 (.agg z.cells) rfl (by rw [hz])
   refine fo HF 8 rfl rfl (s_ea HF HM #[vQ 0, vW 0, vQ 0] ?_)
   clear HF HM; intro a w6 g6 HF HM
   refine fo HF 9 rfl rfl (e_sa HF HM 0 rfl rfl rfl rfl rfl si_sp rfl rfl (qwy z) ?_)
   clear HM; intro w16_9 HM
   refine s_d0 ?_
   refine qa3 (fun aS wS => Fr aS 123 [] [(122, .bool (!spOk x.sta g z)), (6, vP g6 0), (84, .bool true), (5, vI c), (76, .bool false), (64, .bool true), (4, vI g), (43, .bool false), (3, vI k), (38, .bool false), (2, .bool false), (1, vP g1 0)] ∧ Mem w wS [.blk g6 z.cells 43, .blk g1 x.cells 30]) ?_ ?_
   ·
    refine za HM [.blk g6 z.cells 43, .blk g1 x.cells 30] [0, 1] [] fun HM HS => ?_
    refine ap HF (fun _ => HS) [0, 2, 4, 5, 7] (bf 28 [0, 2, 4, 5, 7]) [(102, vI g), (100, vP g1 2), (97, vP g6 1), (95, vP g6 0)] fun a HF => ?_
    refine s_az HF HS 1 rfl (v := vQ z.v) (Yl.qd rfl rfl (by kernel_rfl) (fun _ h => h.cell (i := 0) rfl (rfl))) fun a HF => ?_
    refine s_az HF HS 3 rfl (v := vW z.r) (Yl.qd rfl rfl (by kernel_rfl) (fun _ h => h.cell (i := 0) rfl (rfl))) fun a HF => ?_
    refine s_az HF HS 6 rfl (v := .slice x.gA x.gs.length x.gc) (Yl.qd rfl rfl (by kernel_rfl) (fun _ h => h.cell (i := 1) rfl (rfl))) fun a HF => ?_
    replace HF := HF.sp 101 (.slice (some ⟨gq2, oq2, none⟩) x.gs.length x.gc) rfl (by rw [hq2]; try rfl)
    refine s_az HF HS 8 rfl (v := vP gq2 (oq2 + g * 2)) (Yl.ix gq2 oq2 g 2 rfl rfl rfl) fun a HF => ?_
    refine ap HF (fun _ => HS) [9] (bf 28 [0, 1, 2, 3, 4, 5, 6, 7, 8, 9]) [(104, vP gq2 (oq2 + g * 2 + 1))] fun a HF => ?_
    refine s_az HF HS 10 rfl (v := vI ((x.gs.getD g Gr.zero).weight)) (Yl.qd rfl rfl (by kernel_rfl) (fun _ h => (h.old hrq2).partAt zo (k := g) (j := 1) (x := (x.gs.getD g Gr.zero)) ((getD_at Gr.zero (by omega))) rfl)) fun a HF => ?_
    replace HF := HF.sp 105 (vI wt) rfl (by rw [hwt])
    refine qe [11] (by kernel_rfl) rfl ?_
    refine all_cons ?_ all_nil
    refine qf HF (i := 11) rfl rfl ?_
    refine e_is HF HM [vQ z.v, vW z.r, vI wt] (.agg #[vQ z.v, vW z.r, vW wt]) rfl rfl (qgy z.v z.r wt (by omega) _) fun w106 hbw HM a HF => ?_
    refine keepS (HM.pk [0, 1]) (fun HS => ?_)
    refine qe [12] (by kernel_rfl) rfl ?_
    refine all_cons ?_ all_nil
    refine qf HF (i := 12) rfl rfl ?_
    refine e_is HF HM [.agg #[vQ z.v, vW z.r, vW wt]] (.bool (entOk z.v z.r wt)) rfl rfl (qfa z.v z.r wt (by omega) (by omega) (by omega) _) fun w107 hbw HM a HF => ?_
    refine keepS (HM.pk [0, 1]) (fun HS => ?_)
    refine ap HF (fun _ => HS) [13, 14] (bt 28 [15, 16, 17, 18, 19, 20, 21, 22, 23, 24, 25, 26, 27]) [(109, .bool (!(entOk z.v z.r wt)))] fun a HF => ?_
    rcases HF.tf 109 rfl with ⟨hb109, HF⟩ | ⟨hb109, HF⟩
    ·
     refine ap HF (fun _ => HS) [15, 16, 17, 18, 19, 20, 21, 22, 23, 24, 25, 26, 27] (bt 28 []) [(122, .bool true)] fun a HF => ?_
     refine qk (by kernel_rfl) ?_
     have HF := HF.sp 122 (.bool (!spOk x.sta g z)) rfl (congrArg Value.bool (by rw [qw4 (by rw [hwt]; simpa using hb109)]; rfl))
     exact ⟨HF.sub (by kernel_rfl), HM.pk [0, 1]⟩
    refine ap HF (fun _ => HS) [15, 16, 17] (bt 28 [18, 19, 20, 21, 22, 23, 24, 25, 26, 27]) [(112, .bool ((g : Int) == (0 : Int)))] fun a HF => ?_
    rcases HF.tf 112 rfl with ⟨hb112, HF⟩ | ⟨hb112, HF⟩
    ·
     have hd112 := eq_of_beq hb112
     refine ap HF (fun _ => HS) [18] (bt 28 [19, 20, 21, 22, 23, 24, 25, 26, 27]) [(113, vP g6 0)] fun a HF => ?_
     refine s_az HF HS 19 rfl (v := vQ z.v) (Yl.qd rfl rfl (by kernel_rfl) (fun _ h => h.cell (i := 0) rfl (rfl))) fun a HF => ?_
     refine ap HF (fun _ => HS) [20, 21] (bt 28 [22, 23, 24, 25, 26, 27]) [(116, .bool (decide ((z.v : Int) > (0 : Int))))] fun a HF => ?_
     rcases HF.tf 116 rfl with ⟨hb116, HF⟩ | ⟨hb116, HF⟩
     ·
      have hd116 := of_decide_eq_true hb116
      refine ap HF (fun _ => HS) [22, 23, 24, 25, 26, 27] (bt 28 []) [(122, .bool true)] fun a HF => ?_
      refine qk (by kernel_rfl) ?_
      replace HF := HF.to [(122, .bool true), (6, vP g6 0), (84, .bool true), (5, vI c), (76, .bool false), (64, .bool true), (4, vI g), (43, .bool false), (3, vI k), (38, .bool false), (2, .bool false), (1, vP g1 0)]
      have HF := HF.sp 122 (.bool (!spOk x.sta g z)) rfl (congrArg Value.bool (by rw [qw5 (by omega) (by omega)]; rfl))
      exact ⟨HF.sub (by kernel_rfl), HM.pk [0, 1]⟩
     have hd116 := of_decide_eq_false hb116
     refine ap HF (fun _ => HS) [22] (bt 28 [23, 24, 25, 26, 27]) [(117, vP g6 1)] fun a HF => ?_
     refine s_az HF HS 23 rfl (v := vW z.r) (Yl.qd rfl rfl (by kernel_rfl) (fun _ h => h.cell (i := 0) rfl (rfl))) fun a HF => ?_
     refine ap HF (fun _ => HS) [24, 25, 26, 27] (bt 28 []) [(122, .bool (decide ((z.r : Int) > (0 : Int))))] fun a HF => ?_
     refine qk (by kernel_rfl) ?_
     replace HF := HF.to [(122, .bool (decide ((z.r : Int) > (0 : Int)))), (6, vP g6 0), (84, .bool true), (5, vI c), (76, .bool false), (64, .bool true), (4, vI g), (43, .bool false), (3, vI k), (38, .bool false), (2, .bool false), (1, vP g1 0)]
     have HF := HF.sp 122 (.bool (!spOk x.sta g z)) rfl (congrArg Value.bool (qv0 (by rw [hwt]; simpa using hb109) (by omega) (by omega)))
     exact ⟨HF.sub (by kernel_rfl), HM.pk [0, 1]⟩
    have hd112 := ne_of_beq_false hb112
    refine ap HF (fun _ => HS) [18, 19, 20, 21, 22, 23, 24, 25, 26, 27] (bt 28 []) [(122, .bool false)] fun a HF => ?_
    refine qk (by kernel_rfl) ?_
    have HF := HF.sp 122 (.bool (!spOk x.sta g z)) rfl (congrArg Value.bool (by rw [qq7 (by rw [hwt]; simpa using hb109) (by omega)]; rfl))
    exact ⟨HF.sub (by kernel_rfl), HM.pk [0, 1]⟩
   clear HF HM; rintro a w17 ⟨HF, HM⟩
   rcases HF.tf 122 rfl with ⟨hb122, HF⟩ | ⟨hb122, HF⟩
   ·
    refine s_ct HF (s_fs1 ?_)
    refine fp HF 1 0 [(2, .bool false)] fun a HF => ?_
    refine s_d0 (wp_ret ?_)
    exact s_rt1 rfl HF rfl (is_as (qsp hg48 (qq5 hg48 (by rw [hy]; exact hc61) (by rw [hy, hz]; simpa using hb122))).symm HM.below)
   refine s_cf HF (wp_skip (qa ?_))
   refine fp HF 2 0 [(86, vI (IntKind.i64.wrap ((c : Int) + 1)))] fun a HF => ?_
   replace HF := HF.sp 86 (vI (c + 1 : Nat)) rfl (qc (by omega) (by omega))
   refine fp HF 1 2 [(5, vI (c + 1 : Nat))] fun a HF => ?_
   refine s_d0 ?_
   exact ⟨_, (by omega), c + 1, by omega, hu2.succ (by rw [hz]; simpa using hb122), rfl, HF.sub (by kernel_rfl), HM.pk [1]⟩
  have hd84 := of_decide_eq_false hb84
  refine s_cf HF (wp_exit (qa ?_))
  refine fp HF 2 0 [(66, vI (IntKind.i64.wrap ((g : Int) + 1)))] fun a HF => ?_
  replace HF := HF.sp 66 (vI (g + 1 : Nat)) rfl (qc (by omega) (by omega))
  refine fp HF 1 2 [(4, vI (g + 1 : Nat))] fun a HF => ?_
  refine s_d0 ?_
  exact ⟨_, (by omega), g + 1, by omega, hu.succ (qq6 hg48 (by rw [hy]; omega) (by rw [hy]; exact fun i hi => hu2 i (by omega))), rfl, HF.sub (by kernel_rfl), HM.pk [0]⟩
 have hd64 := of_decide_eq_false hb64
 refine s_cf HF (wp_exit (s_fs1 ?_))
 refine fp HF 1 0 [(2, .bool true)] fun a HF => ?_
 refine s_d0 (wp_ret ?_)
 exact s_rt1 rfl HF rfl (is_as (qzc hcf (by omega) (fun i hi => hu0 i (by omega)) (fun i hi => hu i (by omega))).symm HM.below)
theorem qpg (x : Stm) (hok : x.sta.Ok) (hf : StFew x) (w : World) (hx : StRd w x) (hcp : 1 ≤ x.cpus ∧ x.cpus ≤ 64) (hrs : x.rs.length = x.gs.length) :
    Calls Tryz.prog 112 #[.agg x.cells] w (Is w (.bool (allN x.ts.length (tkAt x.sta)))) := by
 have hft := hf.t; have hfg := hf.g
 obtain ⟨n, hn⟩ : ∃ n : Nat, x.cpus = (n : Int) := ⟨x.cpus.toNat, by omega⟩
 have hn64 : 1 ≤ n ∧ n ≤ 64 := by omega
 refine s_ce Tryz.func112 [.agg x.cells] [(0, .agg x.cells)] fun a HF => ?_
 have HM := Mem.start w
 refine s_fs1 ?_
 refine fo HF 0 rfl rfl (s_eb HF HM x.cells ?_)
 clear HF HM; intro a w1 g1 HF HM
 refine fp HF 1 1 [(2, .bool false)] fun a HF => ?_
 refine s_d0 (s_fs1 ?_)
 refine fp HF 1 0 [(3, vI 0)] fun a HF => ?_
 refine s_d0 (wp_seq (s_fs1 ?_))
 refine fp HF 1 0 [(4, vI 0)] fun a HF => ?_
 refine s_d0 (wp_block ?_)
 refine qi (fun mS aS wS => ∃ (i : Nat), (i ≤ x.ts.length) ∧ (0 ≤ qr x.ts i) ∧ (UpTo i (tkAt x.sta)) ∧ mS = x.ts.length - i ∧ Fr aS 92 [] [(4, vI i), (3, vI (qr x.ts i)), (2, .bool false), (1, vP g1 0)] ∧ Mem w wS [.blk g1 x.cells 30]) (m := x.ts.length - 0) ⟨0, Nat.zero_le _, Int.le_refl _, UpTo.zero, rfl, HF.sub (by kernel_rfl), HM.pk [0]⟩ ?_
 clear HF HM; rintro mS a w_ ⟨i, hi, hpp, hu3, rfl, HF, HM⟩
 refine wp_seq (s_fs1 ?_)
 refine fp HF 2 0 [(7, vP g1 5), (6, vI i)] fun a HF => ?_
 refine s_fz HF HM 2 rfl (v := .slice x.tA x.ts.length x.tc) (Yl.qd rfl rfl (by kernel_rfl) (fun _ h => h.cell (i := 0) rfl (rfl))) fun a HF => ?_
 refine s_fl HF 3 fun a HF => ?_
 refine fp HF 1 4 [(10, .bool (decide ((i : Int) < (x.ts.length : Int))))] fun a HF => ?_
 refine s_d0 ?_
 rcases HF.tf 10 rfl with ⟨hb10, HF⟩ | ⟨hb10, HF⟩
 ·
  have hd10 := of_decide_eq_true hb10
  have hi98 : i < x.ts.length := by omega
  obtain ⟨t, ht⟩ : ∃ q, x.ts.getD i Tk.zero = q := ⟨_, rfl⟩
  have htok : t.Ok := by rw [← ht]; exact hok.ts _ (qu Tk.zero hi98)
  have hti := htok.id
  have htv := htok.v; have htr := htok.r; have htm := htok.mask
  unfold I64 at hti
  refine s_ct HF (wp_skip (wp_seq (wp_block (s_fs1 ?_))))
  refine fp HF 1 0 [(13, vP g1 5)] fun a HF => ?_
  refine s_fz HF HM 1 rfl (v := .slice x.tA x.ts.length x.tc) (Yl.qd rfl rfl (by kernel_rfl) (fun _ h => h.cell (i := 0) rfl (rfl))) fun a HF => ?_
  refine fp HF 1 2 [(15, vI i)] fun a HF => ?_
  obtain ⟨gq1, oq1, hq1, _⟩ := Rd.qj hx.t (Nat.lt_of_le_of_lt (Nat.zero_le _) (show i < x.ts.length from by omega)) (by decide)
  have hrq1 := hx.t; rw [hq1] at hrq1
  replace HF := HF.sp 14 (.slice (some ⟨gq1, oq1, none⟩) x.ts.length x.tc) rfl (by rw [hq1]; try rfl)
  refine s_fz HF HM 3 rfl (v := vP gq1 (oq1 + i * 8)) (Yl.ix gq1 oq1 i 8 rfl rfl rfl) fun a HF => ?_
  refine s_fz HF HM 4 rfl (v := .agg ((x.ts.getD i Tk.zero).cells)) (Yl.qt rfl rfl si_tk rfl (fun _ h => (h.old hrq1).q9 zw ((getD_at Tk.zero hi98)))) fun a HF => ?_
  replace HF := HF.sp 17 (.agg t.cells) rfl (by rw [ht])
  refine fo HF 5 rfl rfl (s_ea HF HM #[vI 0, vI 0, vI 0, vI 0, vQ 0, .bool false, vQ 0, vW 0] ?_)
  clear HF HM; intro a w5 g5 HF HM
  refine fo HF 6 rfl rfl (e_sa HF HM 0 rfl rfl rfl rfl rfl si_tk rfl rfl (qjz t) ?_)
  clear HM; intro w5_6 HM
  refine s_d0 (wp_seq (s_fs1 ?_))
  refine fp HF 1 0 [(18, vP g5 0)] fun a HF => ?_
  refine s_fz HF HM 1 rfl (v := vI t.id) (Yl.qd rfl rfl (by kernel_rfl) (fun _ h => h.cell (i := 0) rfl (rfl))) fun a HF => ?_
  refine fp HF 3 2 [(22, .bool (decide ((t.id : Int) ≤ (qr x.ts i : Int))))] fun a HF => ?_
  rcases HF.tf 22 rfl with ⟨hb22, HF⟩ | ⟨hb22, HF⟩
  ·
   have hd22 := of_decide_eq_true hb22
   refine fp HF 41 5 [(63, .bool true)] fun a HF => ?_
   refine s_d0 (s_ct HF (s_fs1 ?_))
   refine fp HF 1 0 [(2, .bool false)] fun a HF => ?_
   refine s_d0 (wp_ret ?_)
   exact s_rt1 rfl HF rfl (is_as (qy hi98 (qst ht (by omega))).symm HM.below)
  have hd22 := of_decide_eq_false hb22
  refine fp HF 1 5 [(23, vP g5 0)] fun a HF => ?_
  refine s_fz HF HM 6 rfl (v := vI t.id) (Yl.qd rfl rfl (by kernel_rfl) (fun _ h => h.cell (i := 0) rfl (rfl))) fun a HF => ?_
  refine fp HF 3 7 [(27, .bool (decide ((t.id : Int) > (65535 : Int))))] fun a HF => ?_
  rcases HF.tf 27 rfl with ⟨hb27, HF⟩ | ⟨hb27, HF⟩
  ·
   have hd27 := of_decide_eq_true hb27
   refine fp HF 36 10 [(63, .bool true)] fun a HF => ?_
   refine s_d0 (s_ct HF (s_fs1 ?_))
   refine fp HF 1 0 [(2, .bool false)] fun a HF => ?_
   refine s_d0 (wp_ret ?_)
   exact s_rt1 rfl HF rfl (is_as (qy hi98 (qc5 ht (qcf (by omega)))).symm HM.below)
  have hd27 := of_decide_eq_false hb27
  refine fp HF 1 10 [(28, vP g5 1)] fun a HF => ?_
  refine s_fz HF HM 11 rfl (v := vI t.group) (Yl.qd rfl rfl (by kernel_rfl) (fun _ h => h.cell (i := 0) rfl (rfl))) fun a HF => ?_
  refine fp HF 3 12 [(32, .bool (decide ((t.group : Int) < (0 : Int))))] fun a HF => ?_
  rcases HF.tf 32 rfl with ⟨hb32, HF⟩ | ⟨hb32, HF⟩
  ·
   have hd32 := of_decide_eq_true hb32
   refine fp HF 31 15 [(63, .bool true)] fun a HF => ?_
   refine s_d0 (s_ct HF (s_fs1 ?_))
   refine fp HF 1 0 [(2, .bool false)] fun a HF => ?_
   refine s_d0 (wp_ret ?_)
   exact s_rt1 rfl HF rfl (is_as (qy hi98 (qc5 ht (qcf (by omega)))).symm HM.below)
  have hd32 := of_decide_eq_false hb32
  refine fp HF 1 15 [(33, vP g5 1)] fun a HF => ?_
  refine s_fz HF HM 16 rfl (v := vI t.group) (Yl.qd rfl rfl (by kernel_rfl) (fun _ h => h.cell (i := 0) rfl (rfl))) fun a HF => ?_
  refine fp HF 2 17 [(36, vP g1 2)] fun a HF => ?_
  refine s_fz HF HM 19 rfl (v := .slice x.gA x.gs.length x.gc) (Yl.qd rfl rfl (by kernel_rfl) (fun _ h => h.cell (i := 1) rfl (rfl))) fun a HF => ?_
  refine s_fl HF 20 fun a HF => ?_
  refine fp HF 3 21 [(41, .bool (decide ((t.group : Int) ≥ (x.gs.length : Int))))] fun a HF => ?_
  rcases HF.tf 41 rfl with ⟨hb41, HF⟩ | ⟨hb41, HF⟩
  ·
   have hd41 := of_decide_eq_true hb41
   refine fp HF 22 24 [(63, .bool true)] fun a HF => ?_
   refine s_d0 (s_ct HF (s_fs1 ?_))
   refine fp HF 1 0 [(2, .bool false)] fun a HF => ?_
   refine s_d0 (wp_ret ?_)
   exact s_rt1 rfl HF rfl (is_as (qy hi98 (qc5 ht (qcf (by omega)))).symm HM.below)
  have hd41 := of_decide_eq_false hb41
  refine fp HF 1 24 [(42, vP g5 3)] fun a HF => ?_
  refine s_fz HF HM 25 rfl (v := vI t.cpu) (Yl.qd rfl rfl (by kernel_rfl) (fun _ h => h.cell (i := 0) rfl (rfl))) fun a HF => ?_
  refine fp HF 3 26 [(46, .bool (decide ((t.cpu : Int) < (0 : Int))))] fun a HF => ?_
  rcases HF.tf 46 rfl with ⟨hb46, HF⟩ | ⟨hb46, HF⟩
  ·
   have hd46 := of_decide_eq_true hb46
   refine fp HF 17 29 [(63, .bool true)] fun a HF => ?_
   refine s_d0 (s_ct HF (s_fs1 ?_))
   refine fp HF 1 0 [(2, .bool false)] fun a HF => ?_
   refine s_d0 (wp_ret ?_)
   exact s_rt1 rfl HF rfl (is_as (qy hi98 (qc5 ht (qcf (by omega)))).symm HM.below)
  have hd46 := of_decide_eq_false hb46
  refine fp HF 1 29 [(47, vP g5 3)] fun a HF => ?_
  refine s_fz HF HM 30 rfl (v := vI t.cpu) (Yl.qd rfl rfl (by kernel_rfl) (fun _ h => h.cell (i := 0) rfl (rfl))) fun a HF => ?_
  refine fp HF 2 31 [(50, vP g1 0)] fun a HF => ?_
  refine s_fz HF HM 33 rfl (v := vI x.cpus) (Yl.qd rfl rfl (by kernel_rfl) (fun _ h => h.cell (i := 1) rfl (rfl))) fun a HF => ?_
  refine fp HF 3 34 [(54, .bool (decide ((t.cpu : Int) ≥ (x.cpus : Int))))] fun a HF => ?_
  rcases HF.tf 54 rfl with ⟨hb54, HF⟩ | ⟨hb54, HF⟩
  ·
   have hd54 := of_decide_eq_true hb54
   refine fp HF 9 37 [(63, .bool true)] fun a HF => ?_
   refine s_d0 ?_
   replace HF := HF.to [(63, .bool true), (5, vP g5 0), (10, .bool true), (4, vI i), (3, vI (qr x.ts i)), (2, .bool false), (1, vP g1 0)]
   refine s_ct HF (s_fs1 ?_)
   refine fp HF 1 0 [(2, .bool false)] fun a HF => ?_
   refine s_d0 (wp_ret ?_)
   exact s_rt1 rfl HF rfl (is_as (qy hi98 (qc5 ht (qcf (by omega)))).symm HM.below)
  have hd54 := of_decide_eq_false hb54
  refine fp HF 1 37 [(55, vP g5 2)] fun a HF => ?_
  refine s_fz HF HM 38 rfl (v := vI t.weight) (Yl.qd rfl rfl (by kernel_rfl) (fun _ h => h.cell (i := 0) rfl (rfl))) fun a HF => ?_
  refine fp HF 3 39 [(59, .bool (decide ((t.weight : Int) < (1 : Int))))] fun a HF => ?_
  rcases HF.tf 59 rfl with ⟨hb59, HF⟩ | ⟨hb59, HF⟩
  ·
   have hd59 := of_decide_eq_true hb59
   refine fp HF 4 42 [(63, .bool true)] fun a HF => ?_
   refine s_d0 ?_
   replace HF := HF.to [(63, .bool true), (5, vP g5 0), (10, .bool true), (4, vI i), (3, vI (qr x.ts i)), (2, .bool false), (1, vP g1 0)]
   refine s_ct HF (s_fs1 ?_)
   refine fp HF 1 0 [(2, .bool false)] fun a HF => ?_
   refine s_d0 (wp_ret ?_)
   exact s_rt1 rfl HF rfl (is_as (qy hi98 (qc5 ht (qq0 (by omega)))).symm HM.below)
  have hd59 := of_decide_eq_false hb59
  refine fp HF 1 42 [(60, vP g5 2)] fun a HF => ?_
  refine s_fz HF HM 43 rfl (v := vI t.weight) (Yl.qd rfl rfl (by kernel_rfl) (fun _ h => h.cell (i := 0) rfl (rfl))) fun a HF => ?_
  refine fp HF 2 44 [(63, .bool (decide ((t.weight : Int) > (65536 : Int))))] fun a HF => ?_
  refine s_d0 ?_
  replace HF := HF.to [(63, .bool (decide ((t.weight : Int) > (65536 : Int)))), (5, vP g5 0), (10, .bool true), (4, vI i), (3, vI (qr x.ts i)), (2, .bool false), (1, vP g1 0)]
  rcases HF.tf 63 rfl with ⟨hb63, HF⟩ | ⟨hb63, HF⟩
  ·
   have hd63 := of_decide_eq_true hb63
   refine s_ct HF (s_fs1 ?_)
   refine fp HF 1 0 [(2, .bool false)] fun a HF => ?_
   refine s_d0 (wp_ret ?_)
   exact s_rt1 rfl HF rfl (is_as (qy hi98 (qc5 ht (qq0 (by omega)))).symm HM.below)
  have hd63 := of_decide_eq_false hb63
  obtain ⟨k, hk⟩ : ∃ k : Nat, t.cpu = (k : Int) := ⟨t.cpu.toNat, by omega⟩
  have hsh := Nat.div_le_self t.mask (2 ^ k)
  refine s_cf HF (wp_skip (wp_seq (s_fs1 ?_)))
  refine fp HF 1 0 [(64, vP g5 4)] fun a HF => ?_
  refine s_fz HF HM 1 rfl (v := vQ t.mask) (Yl.qd rfl rfl (by kernel_rfl) (fun _ h => h.cell (i := 0) rfl (rfl))) fun a HF => ?_
  refine fp HF 2 2 [(67, vP g1 0)] fun a HF => ?_
  refine s_fz HF HM 4 rfl (v := vI x.cpus) (Yl.qd rfl rfl (by kernel_rfl) (fun _ h => h.cell (i := 1) rfl (rfl))) fun a HF => ?_
  replace HF := HF.sp 68 (vI n) rfl (by rw [hn])
  refine fo HF 5 rfl rfl (e_is HF HM [vQ t.mask, vI n] (.bool (decide (2 ^ n ≤ t.mask))) rfl rfl (qs9 t.mask n htok.mask hn64 _) fun w69 hbw HM a HF => ?_)
  refine fp HF 1 6 [(70, .bool (decide (2 ^ n ≤ t.mask)))] fun a HF => ?_
  rcases HF.tf 70 rfl with ⟨hb70, HF⟩ | ⟨hb70, HF⟩
  ·
   have hd70 := of_decide_eq_true hb70
   refine fp HF 19 7 [(89, .bool true)] fun a HF => ?_
   refine s_d0 (s_ct HF (s_fs1 ?_))
   refine fp HF 1 0 [(2, .bool false)] fun a HF => ?_
   refine s_d0 (wp_ret ?_)
   exact s_rt1 rfl HF rfl (is_as (qy hi98 (qc5 ht (qw1 (by rw [hn, Int.toNat_natCast]; simpa using hb70)))).symm HM.below)
  have hd70 := of_decide_eq_false hb70
  refine fp HF 1 7 [(71, vP g5 4)] fun a HF => ?_
  refine s_fz HF HM 8 rfl (v := vQ t.mask) (Yl.qd rfl rfl (by kernel_rfl) (fun _ h => h.cell (i := 0) rfl (rfl))) fun a HF => ?_
  refine fp HF 1 9 [(73, vP g5 3)] fun a HF => ?_
  refine s_fz HF HM 10 rfl (v := vI t.cpu) (Yl.qd rfl rfl (by kernel_rfl) (fun _ h => h.cell (i := 0) rfl (rfl))) fun a HF => ?_
  replace HF := HF.sp 74 (vI k) rfl (by rw [hk])
  refine s_fz HF HM 11 rfl (v := vQ (t.mask / 2 ^ k : Nat)) (Yl.shrN (m := t.mask) (n := k) rfl rfl rfl (by show _ ≤ 64; omega)) fun a HF => ?_
  refine fp HF 1 12 [(76, vQ (Int.tmod ((t.mask / 2 ^ k : Nat) : Int) 2))] fun a HF => ?_
  replace HF := HF.sp 76 (vQ ((t.mask / 2 ^ k) % 2 : Nat)) rfl (qaj .u64 _ 2)
  refine fp HF 3 13 [(79, .bool ((((t.mask / 2 ^ k) % 2 : Nat) : Int) == (0 : Int)))] fun a HF => ?_
  rcases HF.tf 79 rfl with ⟨hb79, HF⟩ | ⟨hb79, HF⟩
  ·
   have hd79 := eq_of_beq hb79
   refine fp HF 10 16 [(89, .bool true)] fun a HF => ?_
   refine s_d0 (s_ct HF (s_fs1 ?_))
   refine fp HF 1 0 [(2, .bool false)] fun a HF => ?_
   refine s_d0 (wp_ret ?_)
   exact s_rt1 rfl HF rfl (is_as (qy hi98 (qc5 ht (qw2 (by rw [hk, Int.toNat_natCast]; omega)))).symm HM.below)
  have hd79 := ne_of_beq_false hb79
  refine fp HF 1 16 [(80, vP g5 6)] fun a HF => ?_
  refine s_fz HF HM 17 rfl (v := vQ t.v) (Yl.qd rfl rfl (by kernel_rfl) (fun _ h => h.cell (i := 0) rfl (rfl))) fun a HF => ?_
  refine fp HF 1 18 [(82, vP g5 7)] fun a HF => ?_
  refine s_fz HF HM 19 rfl (v := vW t.r) (Yl.qd rfl rfl (by kernel_rfl) (fun _ h => h.cell (i := 0) rfl (rfl))) fun a HF => ?_
  refine fp HF 1 20 [(84, vP g5 2)] fun a HF => ?_
  refine s_fz HF HM 21 rfl (v := vI t.weight) (Yl.qd rfl rfl (by kernel_rfl) (fun _ h => h.cell (i := 0) rfl (rfl))) fun a HF => ?_
  refine fo HF 22 rfl rfl (e_is HF HM [vQ t.v, vW t.r, vI t.weight] (.agg #[vQ t.v, vW t.r, vW t.weight]) rfl rfl (qgy t.v t.r t.weight (by omega) _) fun w86 hbw HM a HF => ?_)
  refine fo HF 23 rfl rfl (e_is HF HM [.agg #[vQ t.v, vW t.r, vW t.weight]] (.bool (entOk t.v t.r t.weight)) rfl rfl (qfa t.v t.r t.weight (by omega) (by omega) (by omega) _) fun w87 hbw HM a HF => ?_)
  refine fp HF 2 24 [(89, .bool (!(entOk t.v t.r t.weight)))] fun a HF => ?_
  refine s_d0 ?_
  rcases HF.tf 89 rfl with ⟨hb89, HF⟩ | ⟨hb89, HF⟩
  ·
   refine s_ct HF (s_fs1 ?_)
   refine fp HF 1 0 [(2, .bool false)] fun a HF => ?_
   refine s_d0 (wp_ret ?_)
   exact s_rt1 rfl HF rfl (is_as (qy hi98 (qc5 ht ((qq1 (by omega) (by omega) (by rw [hn, Int.toNat_natCast]; simpa using hb70) (by rw [hk, Int.toNat_natCast]; omega)).trans (by simpa using hb89)))).symm HM.below)
  refine s_cf HF (wp_skip (qa ?_))
  refine fp HF 1 0 [(90, vP g5 0)] fun a HF => ?_
  refine s_fz HF HM 1 rfl (v := vI t.id) (Yl.qd rfl rfl (by kernel_rfl) (fun _ h => h.cell (i := 0) rfl (rfl))) fun a HF => ?_
  replace HF := HF.sp 91 (vI (qr x.ts (i + 1))) rfl (by rw [qac, ht])
  refine fp HF 1 2 [(3, vI (qr x.ts (i + 1)))] fun a HF => ?_
  refine s_d0 (qa ?_)
  refine fp HF 2 0 [(12, vI (IntKind.i64.wrap ((i : Int) + 1)))] fun a HF => ?_
  replace HF := HF.sp 12 (vI (i + 1 : Nat)) rfl (qc (by omega) (by omega))
  refine fp HF 1 2 [(4, vI (i + 1 : Nat))] fun a HF => ?_
  refine s_d0 ?_
  exact ⟨_, (by omega), i + 1, by omega, by rw [qac, ht]; omega, hu3.succ (q1a ht (by omega) ((qq1 (by omega) (by omega) (by rw [hn, Int.toNat_natCast]; simpa using hb70) (by rw [hk, Int.toNat_natCast]; omega)).trans (by simpa using hb89))), rfl, HF.sub (by kernel_rfl), HM.pk [1]⟩
 have hd10 := of_decide_eq_false hb10
 refine s_cf HF (wp_exit (s_fs1 ?_))
 refine fp HF 1 0 [(2, .bool true)] fun a HF => ?_
 refine s_d0 (wp_ret ?_)
 exact s_rt1 rfl HF rfl (is_as (qp7 (fun j hj => hu3 j (by omega))).symm HM.below)
def qmc (x : Stm) (c g : Nat) : Prop := ∀ w : World, StRd w x → Calls Tryz.prog 114 #[.agg x.cells, .int .i64 (g : Int), .int .i64 (c : Int)] w (qxr 173 w (memS x.sta g c))
theorem qph (x : Stm) (hok : x.sta.Ok) (hf : StFew x) (hsh : ShAt x) (c : Nat) (hc : (c : Int) < x.cpus) (g : Nat) (hg : g < x.rs.length) (ih : ∀ h, g < h → h < x.rs.length → qmc x c h) : qmc x c g := by
 intro w hx
 have hfs := hf.s; have hft := hf.t; have hfg := hf.g; have hrl := hsh.rs; have hto := hok.ts
 obtain ⟨hc1, hc2, _, hgs⟩ := qc2 hsh.cfg
 refine s_ce Tryz.func114 [.agg x.cells, vI g, vI c] [(0, .agg x.cells), (1, vI g), (2, vI c)] fun a HF => ?_
 have HM := Mem.start w
 refine s_fs1 ?_
 refine fo HF 0 rfl rfl (s_eb HF HM x.cells ?_)
 clear HF HM; intro a w3 g3 HF HM
 refine fp HF 1 1 [(6, .slice none 0 0)] fun a HF => ?_
 refine s_d0 (s_fs1 ?_)
 refine fp HF 1 0 [(7, .slice none 0 0)] fun a HF => ?_
 refine s_d0 ?_
 replace HM := HM.nil 173 3
 refine wp_seq (s_fs1 ?_)
 refine fp HF 1 0 [(8, vI 0)] fun a HF => ?_
 refine s_d0 (wp_block ?_)
 refine qi (fun mS aS wS => ∃ (i : Nat) (q : List Mb) (Ao : Option Addr) (co : Nat), (i ≤ x.ts.length) ∧ (q = (x.ts.take i).filterMap (tkM · g c)) ∧ (q.length ≤ i) ∧ (q.length ≤ co) ∧ mS = x.ts.length - i ∧ Fr aS 84 [] [(8, vI i), (7, .slice Ao q.length co), (6, .slice none 0 0), (3, vP g3 0), (1, vI g), (2, vI c)] ∧ Mem w wS [.row (.slice Ao q.length co) q.length (q.flatMap mbrL) 173 3, .blk g3 x.cells 30]) (m := x.ts.length - 0) ⟨0, [], none, 0, Nat.zero_le _, rfl, Nat.le_refl _, Nat.le_refl _, rfl, HF.sub (by kernel_rfl), HM.pk [0, 1]⟩ ?_
 clear HF HM; rintro mS a w_ ⟨i, q, Ao, co, hi, hq, hql, hco, rfl, HF, HM⟩
 refine wp_seq (s_fs1 ?_)
 refine fp HF 2 0 [(12, vP g3 5), (11, vI i)] fun a HF => ?_
 refine s_fz HF HM 2 rfl (v := .slice x.tA x.ts.length x.tc) (Yl.qd rfl rfl (by kernel_rfl) (fun _ h => h.cell (i := 1) rfl (rfl))) fun a HF => ?_
 refine s_fl HF 3 fun a HF => ?_
 refine fp HF 1 4 [(15, .bool (decide ((i : Int) < (x.ts.length : Int))))] fun a HF => ?_
 refine s_d0 ?_
 rcases HF.tf 15 rfl with ⟨hb15, HF⟩ | ⟨hb15, HF⟩
 ·
  have hd15 := of_decide_eq_true hb15
  have hi15 : i < x.ts.length := by omega
  obtain ⟨t, ht⟩ : ∃ z, (x.ts.getD i Tk.zero) = z := ⟨_, rfl⟩
  have htid := tk_id (hsh.tk i hi15)
  rw [ht] at htid
  refine s_ct HF (wp_skip (wp_seq (wp_block (s_fs1 ?_))))
  refine fp HF 1 0 [(18, vP g3 5)] fun a HF => ?_
  refine s_fz HF HM 1 rfl (v := .slice x.tA x.ts.length x.tc) (Yl.qd rfl rfl (by kernel_rfl) (fun _ h => h.cell (i := 1) rfl (rfl))) fun a HF => ?_
  refine fp HF 1 2 [(20, vI i)] fun a HF => ?_
  obtain ⟨gq1, oq1, hq1, _⟩ := Rd.qj hx.t (Nat.lt_of_le_of_lt (Nat.zero_le _) (show i < x.ts.length from by omega)) (by decide)
  have hrq1 := hx.t; rw [hq1] at hrq1
  replace HF := HF.sp 19 (.slice (some ⟨gq1, oq1, none⟩) x.ts.length x.tc) rfl (by rw [hq1]; try rfl)
  refine s_fz HF HM 3 rfl (v := vP gq1 (oq1 + i * 8)) (Yl.ix gq1 oq1 i 8 rfl rfl rfl) fun a HF => ?_
  refine s_fz HF HM 4 rfl (v := .agg ((x.ts.getD i Tk.zero).cells)) (Yl.qt rfl rfl si_tk rfl (fun _ h => (h.old hrq1).q9 zw ((getD_at Tk.zero hi15)))) fun a HF => ?_
  replace HF := HF.sp 22 (.agg t.cells) rfl (by rw [ht])
  refine fo HF 5 rfl rfl (s_ea HF HM #[vI 0, vI 0, vI 0, vI 0, vQ 0, .bool false, vQ 0, vW 0] ?_)
  clear HF HM; intro a w9 g9 HF HM
  refine fo HF 6 rfl rfl (e_sa HF HM 0 rfl rfl rfl rfl rfl si_tk rfl rfl (qjz t) ?_)
  clear HM; intro w5_6 HM
  refine s_d0 ?_
  refine qa3 (fun aS wS => Fr aS 84 [] [(36, .bool (t.here g c)), (9, vP g9 0), (15, .bool true), (8, vI i), (7, .slice Ao q.length co), (6, .slice none 0 0), (3, vP g3 0), (1, vI g), (2, vI c)] ∧ Mem w wS [.blk g9 t.cells 46, .row (.slice Ao q.length co) q.length (q.flatMap mbrL) 173 3, .blk g3 x.cells 30]) ?_ ?_
  ·
   refine qa ?_
   refine fp HF 1 0 [(23, vP g9 5)] fun a HF => ?_
   refine s_fz HF HM 1 rfl (v := .bool t.ready) (Yl.qd rfl rfl (by kernel_rfl) (fun _ h => h.cell (i := 0) rfl (rfl))) fun a HF => ?_
   refine fp HF 1 2 [(25, .bool t.ready)] fun a HF => ?_
   rcases HF.tf 25 rfl with ⟨hb25, HF⟩ | ⟨hb25, HF⟩
   ·
    refine fp HF 1 3 [(26, vP g9 1)] fun a HF => ?_
    refine s_fz HF HM 4 rfl (v := vI t.group) (Yl.qd rfl rfl (by kernel_rfl) (fun _ h => h.cell (i := 0) rfl (rfl))) fun a HF => ?_
    refine fp HF 4 5 [(31, .bool ((t.group : Int) == (g : Int)))] fun a HF => ?_
    rcases HF.tf 31 rfl with ⟨hb31, HF⟩ | ⟨hb31, HF⟩
    ·
     have hd31 := eq_of_beq hb31
     refine fp HF 1 9 [(32, vP g9 3)] fun a HF => ?_
     refine s_fz HF HM 10 rfl (v := vI t.cpu) (Yl.qd rfl rfl (by kernel_rfl) (fun _ h => h.cell (i := 0) rfl (rfl))) fun a HF => ?_
     refine fp HF 3 11 [(36, .bool ((t.cpu : Int) == (c : Int)))] fun a HF => ?_
     refine s_d0 ?_
     have HF := HF.sp 36 (.bool (t.here g c)) rfl (congrArg Value.bool (by unfold Tk.here; rw [hb25, decide_eq_true (by omega), Bool.true_and, Bool.true_and, Bool.eq_iff_iff, beq_iff_eq, decide_eq_true_eq]))
     exact ⟨HF.sub (by kernel_rfl), HM.pk [0, 1, 2]⟩
    have hd31 := ne_of_beq_false hb31
    refine fp HF 5 9 [(36, .bool false)] fun a HF => ?_
    refine s_d0 ?_
    have HF := HF.sp 36 (.bool (t.here g c)) rfl (congrArg Value.bool (by unfold Tk.here; rw [hb25, decide_eq_false (by omega)]; rfl))
    exact ⟨HF.sub (by kernel_rfl), HM.pk [0, 1, 2]⟩
   refine fp HF 11 3 [(36, .bool false)] fun a HF => ?_
   refine s_d0 ?_
   have HF := HF.sp 36 (.bool (t.here g c)) rfl (congrArg Value.bool (by unfold Tk.here; rw [hb25]; rfl))
   exact ⟨HF.sub (by kernel_rfl), HM.pk [0, 1, 2]⟩
  clear HF HM; rintro a w6 ⟨HF, HM⟩
  rcases HF.tf 36 rfl with ⟨hb36, HF⟩ | ⟨hb36, HF⟩
  ·
   have hq2 : q ++ [(⟨t.v, 0, t.id.toNat⟩ : Mb)] = (x.ts.take (i + 1)).filterMap (tkM · g c) := by rw [z5 Tk.zero hi15, ← hq, ht, tkM, if_pos hb36]; rfl
   refine s_ct HF (qa ?_)
   refine fp HF 2 0 [(38, vP g9 6), (37, .slice Ao q.length co)] fun a HF => ?_
   refine s_fz HF HM 2 rfl (v := vQ t.v) (Yl.qd rfl rfl (by kernel_rfl) (fun _ h => h.cell (i := 0) rfl (rfl))) fun a HF => ?_
   refine fp HF 1 3 [(40, vP g9 0)] fun a HF => ?_
   refine s_fz HF HM 4 rfl (v := vI t.id) (Yl.qd rfl rfl (by kernel_rfl) (fun _ h => h.cell (i := 0) rfl (rfl))) fun a HF => ?_
   replace HF := HF.sp 41 (vI t.id.toNat) rfl (by rw [Int.toNat_of_nonneg (by omega)])
   refine s_fz HF HM 5 rfl (v := .agg #[vQ t.v, vI 0, vI t.id.toNat]) (Yl.build (vs := [(0, vQ t.v), (1, vI 0), (2, vI t.id.toNat)]) rfl (by kernel_rfl) (by kernel_rfl)) fun a HF => ?_
   refine fo HF 6 rfl rfl (s_el HF HM qi5 [(0, .agg #[vQ t.v, vI 0, vI t.id.toNat])] #[vQ t.v, vI 0, vI t.id.toNat] ?_)
   clear HF HM; intro a w43 g43 HF HM
   refine fo HF 7 rfl rfl (qo HF HM (i := 2) rfl qi5 rfl rfl rfl (news := ([(⟨t.v, 0, t.id.toNat⟩ : Mb)].flatMap mbrL)) (HM.rdBlk (i := 0) (n := 1) (size := 3) rfl rfl) (qsr _) (by omega) (by omega) rfl (by decide) ?_)
   clear HF HM; intro a w44 A44 c44 HF HM hc44
   refine fp HF 1 8 [(7, .slice A44 (q.length + 1) c44)] fun a HF => ?_
   refine s_d0 ?_
   have hnA44 : q.length + 1 = (q ++ [(⟨t.v, 0, t.id.toNat⟩ : Mb)]).length := qs rfl
   replace HM := HM.reRow (i := 2) (ys := (q ++ [(⟨t.v, 0, t.id.toNat⟩ : Mb)]).flatMap mbrL) rfl hnA44 (List.flatMap_append.symm)
   rw [hnA44] at hc44
   replace HF := HF.sp 7 (.slice A44 ((q ++ [(⟨t.v, 0, t.id.toNat⟩ : Mb)]).length) c44) rfl (by rw [hnA44])
   replace HF := HF.sp 44 (.slice A44 ((q ++ [(⟨t.v, 0, t.id.toNat⟩ : Mb)]).length) c44) rfl (by rw [hnA44])
   refine qa ?_
   refine fp HF 2 0 [(17, vI (IntKind.i64.wrap ((i : Int) + 1)))] fun a HF => ?_
   replace HF := HF.sp 17 (vI (i + 1 : Nat)) rfl (qc (by omega) (by omega))
   refine fp HF 1 2 [(8, vI (i + 1 : Nat))] fun a HF => ?_
   refine s_d0 ?_
   exact ⟨_, (by omega), i + 1, (q ++ [(⟨t.v, 0, t.id.toNat⟩ : Mb)]), A44, c44, by omega, hq2, by rw [List.length_append, show [(⟨t.v, 0, t.id.toNat⟩ : Mb)].length = 1 from rfl]; omega, hc44, rfl, HF.sub (by kernel_rfl), HM.pk [2, 3]⟩
  have hq2 : q = (x.ts.take (i + 1)).filterMap (tkM · g c) := by rw [z5 Tk.zero hi15, ← hq, ht, tkM, if_neg (by rw [hb36]; decide)]; simp
  refine s_cf HF (wp_skip (qa ?_))
  refine fp HF 2 0 [(17, vI (IntKind.i64.wrap ((i : Int) + 1)))] fun a HF => ?_
  replace HF := HF.sp 17 (vI (i + 1 : Nat)) rfl (qc (by omega) (by omega))
  refine fp HF 1 2 [(8, vI (i + 1 : Nat))] fun a HF => ?_
  refine s_d0 ?_
  exact ⟨_, (by omega), i + 1, q, Ao, co, by omega, hq2, by omega, hco, rfl, HF.sub (by kernel_rfl), HM.pk [1, 2]⟩
 have hd15 := of_decide_eq_false hb15
 rw [List.take_of_length_le (by omega : x.ts.length ≤ i)] at hq
 refine s_cf HF (wp_exit (wp_seq (s_fs1 ?_)))
 refine fp HF 1 0 [(10, vI 1)] fun a HF => ?_
 refine s_d0 (wp_block ?_)
 refine qi (fun mS aS wS => ∃ (u : Nat) (q : List Mb) (Ao : Option Addr) (co : Nat), (1 ≤ u) ∧ (u ≤ x.rs.length) ∧ (q = x.ts.filterMap (tkM · g c) ++ ((((List.range x.rs.length).drop (g + 1)).take (u - (g + 1))).filterMap (grpM x.sta c (fun u => memS x.sta u c) g))) ∧ (q.length ≤ x.ts.length + u) ∧ (q.length ≤ co) ∧ mS = x.rs.length - u ∧ Fr aS 84 [] [(10, vI u), (15, .bool false), (8, vI i), (7, .slice Ao q.length co), (6, .slice none 0 0), (3, vP g3 0), (1, vI g), (2, vI c)] ∧ Mem w wS [.row (.slice Ao q.length co) q.length (q.flatMap mbrL) 173 3, .blk g3 x.cells 30]) (m := x.rs.length - 1) ⟨1, q, Ao, co, Nat.le_refl _, by omega, by rw [hq, show 1 - (g + 1) = 0 by omega]; simp, by omega, hco, rfl, HF.sub (by kernel_rfl), HM.pk [0, 1]⟩ ?_
 clear HF HM; rintro mS a w_ ⟨u, q, Ao, co, hgh, hh, hq, hql, hco, rfl, HF, HM⟩
 refine wp_seq (s_fs1 ?_)
 refine fp HF 2 0 [(46, vP g3 6), (45, vI u)] fun a HF => ?_
 refine s_fz HF HM 2 rfl (v := .slice x.sA x.rs.length x.sc) (Yl.qd rfl rfl (by kernel_rfl) (fun _ h => h.cell (i := 1) rfl (rfl))) fun a HF => ?_
 refine s_fl HF 3 fun a HF => ?_
 refine fp HF 1 4 [(49, .bool (decide ((u : Int) < (x.rs.length : Int))))] fun a HF => ?_
 refine s_d0 ?_
 rcases HF.tf 49 rfl with ⟨hb49, HF⟩ | ⟨hb49, HF⟩
 ·
  have hd49 := of_decide_eq_true hb49
  have hh60 : u < x.rs.length := by omega
  refine s_ct HF (wp_skip (wp_seq (wp_block (s_fs1 ?_))))
  refine fp HF 2 0 [(53, vP g3 2)] fun a HF => ?_
  refine s_fz HF HM 2 rfl (v := .slice x.gA x.gs.length x.gc) (Yl.qd rfl rfl (by kernel_rfl) (fun _ h => h.cell (i := 1) rfl (rfl))) fun a HF => ?_
  refine fp HF 1 3 [(55, vI u)] fun a HF => ?_
  obtain ⟨gq2, oq2, hq2, _⟩ := Rd.qj hx.g (Nat.lt_of_le_of_lt (Nat.zero_le _) (show u < x.gs.length from by omega)) (by decide)
  have hrq2 := hx.g; rw [hq2] at hrq2
  replace HF := HF.sp 54 (.slice (some ⟨gq2, oq2, none⟩) x.gs.length x.gc) rfl (by rw [hq2]; try rfl)
  refine s_fz HF HM 4 rfl (v := vP gq2 (oq2 + u * 2)) (Yl.ix gq2 oq2 u 2 rfl rfl rfl) fun a HF => ?_
  refine fp HF 1 5 [(57, vP gq2 (oq2 + u * 2))] fun a HF => ?_
  refine s_fz HF HM 6 rfl (v := vI ((x.gs.getD u Gr.zero).parent)) (Yl.qd rfl rfl (by kernel_rfl) (fun _ h => (by have := (h.old hrq2).partAt zo (k := u) (j := 0) (x := (x.gs.getD u Gr.zero)) ((getD_at Gr.zero (by omega))) rfl; simpa using this))) fun a HF => ?_
  refine fp HF 3 7 [(61, .bool (((x.gs.getD u Gr.zero).parent : Int) == (g : Int)))] fun a HF => ?_
  rcases HF.tf 61 rfl with ⟨hb61, HF⟩ | ⟨hb61, HF⟩
  ·
   have hd61 := eq_of_beq hb61
   have hpu := qid ((qft hgs).2.2.2 u (by omega)) (by omega)
   unfold ParB at hpu
   have hgst := qio (f := grpM x.sta c (fun u => memS x.sta u c) g) (show g + 1 ≤ u by omega) hh60
   have hml := qi3 x u c
   refine s_fz HF HM 10 rfl (v := .agg x.cells) (Yl.qt rfl rfl si_st rfl (fun _ h => qg (h.blk (i := 1) rfl))) fun a HF => ?_
   replace HF := HF.sp 62 (.agg x.cells) rfl (rfl)
   refine fp HF 2 11 [(64, vI c), (63, vI u)] fun a HF => ?_
   refine fo HF 13 rfl rfl ?_
   refine s_ek HF HM [.agg x.cells, vI u, vI c] (ih u (by omega) (by omega) _ (hx.old HM)) fun A65 c65 w65 hc65 HM a HF => ?_
   refine s_fl HF 14 fun a HF => ?_
   refine fp HF 2 15 [(68, .bool (decide ((((memS x.sta u c).length : Nat) : Int) > (0 : Int))))] fun a HF => ?_
   refine s_d0 ?_
   rcases HF.tf 68 rfl with ⟨hb68, HF⟩ | ⟨hb68, HF⟩
   ·
    have hd68 := of_decide_eq_true hb68
    obtain ⟨y, hy⟩ : ∃ z, x.rs.getD u Rw.zero = z := ⟨_, rfl⟩
    have hyr : Rd w w.heap.size 3 y.A y.l.length (y.l.flatMap spL) := by rw [← hy]; exact hx.row hh60
    have hyl : (y.l.length : Int) = x.cpus := by rw [← hy]; exact (qgh hh60 (hsh.row u hh60)).1
    rw [qm2 hh60 (by omega) (fun e => by rw [e] at hd68; exact absurd hd68 (by decide)), hy] at hgst
    refine s_ct HF (qa ?_)
    refine fp HF 2 0 [(70, vP g3 6), (69, .slice Ao q.length co)] fun a HF => ?_
    refine s_fz HF HM 2 rfl (v := .slice x.sA x.rs.length x.sc) (Yl.qd rfl rfl (by kernel_rfl) (fun _ h => h.cell (i := 2) rfl (rfl))) fun a HF => ?_
    refine fp HF 1 3 [(72, vI u)] fun a HF => ?_
    obtain ⟨gq3, oq3, hq3, _⟩ := Rd.qj hx.s (Nat.lt_of_le_of_lt (Nat.zero_le _) (show u < x.rs.length from by omega)) (by decide)
    have hrq3 := hx.s; rw [hq3] at hrq3
    replace HF := HF.sp 71 (.slice (some ⟨gq3, oq3, none⟩) x.rs.length x.sc) rfl (by rw [hq3]; try rfl)
    refine s_fz HF HM 4 rfl (v := vP gq3 (oq3 + u * 1)) (Yl.ix gq3 oq3 u 1 rfl rfl rfl) fun a HF => ?_
    refine s_fz HF HM 5 rfl (v := .slice ((x.rs.getD u Rw.zero).A) ((x.rs.getD u Rw.zero).l.length) ((x.rs.getD u Rw.zero).c)) (Yl.o1 hrq3 u Rw.zero (by omega) rfl rfl) fun a HF => ?_
    replace HF := HF.sp 74 (.slice y.A y.l.length y.c) rfl (by rw [hy])
    refine fp HF 1 6 [(75, vI c)] fun a HF => ?_
    obtain ⟨gq4, oq4, hq4, _⟩ := Rd.qj hyr (Nat.lt_of_le_of_lt (Nat.zero_le _) (show c < y.l.length from by omega)) (by decide)
    have hrq4 := hyr; rw [hq4] at hrq4
    replace HF := HF.sp 74 (.slice (some ⟨gq4, oq4, none⟩) y.l.length y.c) rfl (by rw [hq4]; try rfl)
    refine s_fz HF HM 7 rfl (v := vP gq4 (oq4 + c * 3)) (Yl.ix gq4 oq4 c 3 rfl rfl rfl) fun a HF => ?_
    refine fp HF 1 8 [(77, vP gq4 (oq4 + c * 3))] fun a HF => ?_
    refine s_fz HF HM 9 rfl (v := vQ ((y.l.getD c Sp.zero).v)) (Yl.qd rfl rfl (by kernel_rfl) (fun _ h => (by have := (h.old hrq4).partAt qak (k := c) (j := 0) (x := (y.l.getD c Sp.zero)) ((getD_at Sp.zero (by omega))) rfl; simpa using this))) fun a HF => ?_
    refine fp HF 1 10 [(79, vI u)] fun a HF => ?_
    refine s_fz HF HM 11 rfl (v := .agg #[vQ ((y.l.getD c Sp.zero).v), vI 1, vI u]) (Yl.build (vs := [(0, vQ ((y.l.getD c Sp.zero).v)), (1, vI 1), (2, vI u)]) rfl (by kernel_rfl) (by kernel_rfl)) fun a HF => ?_
    refine fo HF 12 rfl rfl (s_el HF HM qi5 [(0, .agg #[vQ ((y.l.getD c Sp.zero).v), vI 1, vI u])] #[vQ ((y.l.getD c Sp.zero).v), vI 1, vI u] ?_)
    clear HF HM; intro a w81 g81 HF HM
    refine fo HF 13 rfl rfl (qo HF HM (i := 2) rfl qi5 rfl rfl rfl (news := ([(⟨(y.l.getD c Sp.zero).v, 1, u⟩ : Mb)].flatMap mbrL)) (HM.rdBlk (i := 0) (n := 1) (size := 3) rfl rfl) (qsr _) (by omega) (by omega) rfl (by decide) ?_)
    clear HF HM; intro a w82 A82 c82 HF HM hc82
    refine fp HF 1 14 [(7, .slice A82 (q.length + 1) c82)] fun a HF => ?_
    refine s_d0 ?_
    have hnA82 : q.length + 1 = (q ++ [(⟨(y.l.getD c Sp.zero).v, 1, u⟩ : Mb)]).length := qs rfl
    replace HM := HM.reRow (i := 2) (ys := (q ++ [(⟨(y.l.getD c Sp.zero).v, 1, u⟩ : Mb)]).flatMap mbrL) rfl hnA82 (List.flatMap_append.symm)
    rw [hnA82] at hc82
    replace HF := HF.sp 7 (.slice A82 ((q ++ [(⟨(y.l.getD c Sp.zero).v, 1, u⟩ : Mb)]).length) c82) rfl (by rw [hnA82])
    replace HF := HF.sp 82 (.slice A82 ((q ++ [(⟨(y.l.getD c Sp.zero).v, 1, u⟩ : Mb)]).length) c82) rfl (by rw [hnA82])
    refine qa ?_
    refine fp HF 2 0 [(51, vI (IntKind.i64.wrap ((u : Int) + 1)))] fun a HF => ?_
    replace HF := HF.sp 51 (vI (u + 1 : Nat)) rfl (qc (by omega) (by omega))
    refine fp HF 1 2 [(10, vI (u + 1 : Nat))] fun a HF => ?_
    refine s_d0 ?_
    replace HF := HF.to [(10, vI (u + 1 : Nat)), (82, .slice A82 ((q ++ [(⟨(y.l.getD c Sp.zero).v, 1, u⟩ : Mb)]).length) c82), (7, .slice A82 ((q ++ [(⟨(y.l.getD c Sp.zero).v, 1, u⟩ : Mb)]).length) c82), (68, .bool true), (49, .bool true), (15, .bool false), (8, vI i), (6, .slice none 0 0), (3, vP g3 0), (1, vI g), (2, vI c)]
    exact ⟨_, (by omega), u + 1, (q ++ [(⟨(y.l.getD c Sp.zero).v, 1, u⟩ : Mb)]), A82, c82, by omega, by omega, by rw [hgst, hq, List.append_assoc]; rfl, by rw [List.length_append, show [(⟨(y.l.getD c Sp.zero).v, 1, u⟩ : Mb)].length = 1 from rfl]; omega, hc82, rfl, HF.sub (by kernel_rfl), HM.pk [2, 3]⟩
   have hd68 := of_decide_eq_false hb68
   rw [qj7 (List.length_eq_zero_iff.1 (by omega))] at hgst
   refine s_cf HF (wp_skip (qa ?_))
   refine fp HF 2 0 [(51, vI (IntKind.i64.wrap ((u : Int) + 1)))] fun a HF => ?_
   replace HF := HF.sp 51 (vI (u + 1 : Nat)) rfl (qc (by omega) (by omega))
   refine fp HF 1 2 [(10, vI (u + 1 : Nat))] fun a HF => ?_
   refine s_d0 ?_
   exact ⟨_, (by omega), u + 1, q, Ao, co, by omega, by omega, by rw [hgst, hq]; try simp, by omega, hco, rfl, HF.sub (by kernel_rfl), HM.pk [1, 2]⟩
  have hd61 := ne_of_beq_false hb61
  have hgst := qv1 (g := g) (f := grpM x.sta c (fun u => memS x.sta u c) g) hh60 (fun _ => qj6 (by omega))
  refine fp HF 7 10 [(68, .bool false)] fun a HF => ?_
  refine s_d0 (s_cf HF (wp_skip (qa ?_)))
  refine fp HF 2 0 [(51, vI (IntKind.i64.wrap ((u : Int) + 1)))] fun a HF => ?_
  replace HF := HF.sp 51 (vI (u + 1 : Nat)) rfl (qc (by omega) (by omega))
  refine fp HF 1 2 [(10, vI (u + 1 : Nat))] fun a HF => ?_
  refine s_d0 ?_
  exact ⟨_, (by omega), u + 1, q, Ao, co, by omega, by omega, by rw [hgst, hq]; try simp, by omega, hco, rfl, HF.sub (by kernel_rfl), HM.pk [0, 1]⟩
 have hd49 := of_decide_eq_false hb49
 have hqm : q = memS x.sta g c := by rw [hq, qie, qaq, show u = x.rs.length by omega, qre]; rfl
 refine s_cf HF (wp_exit (s_fs1 ?_))
 refine fp HF 2 0 [(6, .slice Ao q.length co)] fun a HF => ?_
 refine s_d0 (wp_ret ?_)
 exact s_rt1 rfl HF rfl (qsy hqm (HM.own (i := 0) rfl) hco HM.below)
theorem qky (x : Stm) (hok : x.sta.Ok) (hf : StFew x) (hsh : ShAt x) (c : Nat) (hc : (c : Int) < x.cpus) : ∀ (n g : Nat), x.rs.length - g ≤ n → g < x.rs.length → qmc x c g := by
 intro n
 induction n with
 | zero => intro g h1 h2; omega
 | succ n ih => intro g h1 h2; exact qph x hok hf hsh c hc g h2 fun h h3 h4 => ih h (by omega) h4
theorem qh5 (A : Option Addr) (c : Nat) (l : List Mb) (w : World) (hr : Rd w w.heap.size 3 A l.length (l.flatMap mbrL)) (h0 : 0 < l.length) (hn : l.length ≤ 2000000) :
    Calls Tryz.prog 115 #[.slice A l.length c] w (Is w (.agg (qc4 l).rcells)) := by
 refine s_ce Tryz.func115 [.slice A l.length c] [(0, .slice A l.length c)] fun a HF => ?_
 have HM := Mem.start w
 refine s_fs1 ?_
 refine fo HF 0 rfl rfl (s_ea HF HM #[vQ 0, vI 0, vI 0] ?_)
 clear HF HM; intro a w2 g2 HF HM
 refine s_d0 (s_fs1 ?_)
 refine fp HF 1 0 [(5, .slice A l.length c)] fun a HF => ?_
 obtain ⟨gA, oA, rfl, _⟩ := hr.qj (Nat.lt_of_le_of_lt (Nat.zero_le _) (show 0 < l.length from by omega)) (by decide)
 refine s_fz HF HM 1 rfl (v := vP gA oA) (Yl.indexAddr (ad := ⟨gA, oA, none⟩) (y := 0) (sz := 3) rfl rfl rfl (by omega) (by kernel_rfl)) fun a HF => ?_
 refine s_fz HF HM 2 rfl (v := .agg ((l.getD 0 Mb.zero).rcells)) (Yl.qt rfl rfl qcb rfl (fun _ h => (h.old hr).q9 qi2 ((getD_at Mb.zero (by omega))))) fun a HF => ?_
 refine fo HF 3 rfl rfl (s_ea HF HM #[vQ 0, vI 0, vI 0] ?_)
 clear HF HM; intro a w3 g3 HF HM
 refine fo HF 4 rfl rfl (e_sa HF HM 0 rfl rfl rfl rfl rfl qcb rfl rfl (ql7 (l.getD 0 Mb.zero)) ?_)
 clear HM; intro w1_4 HM
 refine s_d0 ?_
 replace HM := HM.asBlk (i := 0) (ds := (bestU l 1).rcells) rfl (by rw [qsv])
 refine wp_seq (s_fs1 ?_)
 refine fp HF 1 0 [(4, vI 1)] fun a HF => ?_
 refine s_d0 (wp_block ?_)
 refine qi (fun mS aS wS => ∃ (k : Nat), (1 ≤ k) ∧ (k ≤ l.length) ∧ mS = l.length - k ∧ Fr aS 25 [] [(4, vI k), (3, vP g3 0), (2, vP g2 0), (0, .slice (some ⟨gA, oA, none⟩) l.length c)] ∧ Mem w wS [.blk g3 ((bestU l k).rcells) 173, .blk g2 #[vQ 0, vI 0, vI 0] 173]) (m := l.length - 1) ⟨1, Nat.le_refl _, by omega, rfl, HF.sub (by kernel_rfl), HM.pk [0, 1]⟩ ?_
 clear HF HM; rintro mS a w_ ⟨k, hk1, hk, rfl, HF, HM⟩
 refine wp_seq (s_fs1 ?_)
 refine fp HF 2 0 [(9, .slice (some ⟨gA, oA, none⟩) l.length c), (8, vI k)] fun a HF => ?_
 refine s_fl HF 2 fun a HF => ?_
 refine fp HF 1 3 [(11, .bool (decide ((k : Int) < (l.length : Int))))] fun a HF => ?_
 refine s_d0 ?_
 rcases HF.tf 11 rfl with ⟨hb11, HF⟩ | ⟨hb11, HF⟩
 ·
  have hd11 := of_decide_eq_true hb11
  have hk11 : k < l.length := by omega
  refine s_ct HF (wp_skip (wp_seq (wp_block (wp_seq ?_))))
  refine za HM [.blk g3 ((bestU l k).rcells) 173, .blk g2 #[vQ 0, vI 0, vI 0] 173] [0, 1] [] fun HM HS => ?_
  refine ap HF (fun _ => HS) [0, 1] (bf 6 [0, 1]) [(15, vI k), (14, .slice (some ⟨gA, oA, none⟩) l.length c)] fun a HF => ?_
  refine s_az HF HS 2 rfl (v := vP gA (oA + k * 3)) (Yl.ix gA oA k 3 rfl rfl rfl) fun a HF => ?_
  refine s_az HF HS 3 rfl (v := .agg ((l.getD k Mb.zero).rcells)) (Yl.qt rfl rfl qcb rfl (fun _ h => (h.old hr).q9 qi2 ((getD_at Mb.zero hk11)))) fun a HF => ?_
  refine s_az HF HS 4 rfl (v := .agg ((bestU l k).rcells)) (Yl.qt rfl rfl qcb rfl (fun _ h => qg (h.blk (i := 0) rfl))) fun a HF => ?_
  refine qe [5] (by kernel_rfl) rfl ?_
  refine all_cons ?_ all_nil
  refine qf HF (i := 5) rfl rfl ?_
  refine e_is HF HM [.agg ((l.getD k Mb.zero).rcells), .agg ((bestU l k).rcells)] (.bool (Mb.lt (l.getD k Mb.zero) (bestU l k))) rfl rfl (qma (l.getD k Mb.zero) (bestU l k) _) fun w19 hbw HM a HF => ?_
  refine keepS (HM.pk [0, 1]) (fun HS => ?_)
  refine qk (by kernel_rfl) ?_
  rcases HF.tf 19 rfl with ⟨hb19, HF⟩ | ⟨hb19, HF⟩
  ·
   refine s_ct HF (qa ?_)
   refine fp HF 2 0 [(21, vI k), (20, .slice (some ⟨gA, oA, none⟩) l.length c)] fun a HF => ?_
   refine s_fz HF HM 2 rfl (v := vP gA (oA + k * 3)) (Yl.ix gA oA k 3 rfl rfl rfl) fun a HF => ?_
   refine s_fz HF HM 3 rfl (v := .agg ((l.getD k Mb.zero).rcells)) (Yl.qt rfl rfl qcb rfl (fun _ h => (h.old hr).q9 qi2 ((getD_at Mb.zero hk11)))) fun a HF => ?_
   refine fo HF 4 rfl rfl (e_sa HF HM 0 rfl rfl rfl rfl rfl qcb rfl rfl (ql7 (l.getD k Mb.zero)) ?_)
   clear HM; intro w6_4 HM
   refine s_d0 ?_
   replace HM := HM.asBlk (i := 0) (ds := (bestU l (k + 1)).rcells) rfl (by rw [qsw hk1 hk11 hb19])
   refine qa ?_
   refine fp HF 2 0 [(13, vI (IntKind.i64.wrap ((k : Int) + 1)))] fun a HF => ?_
   replace HF := HF.sp 13 (vI (k + 1 : Nat)) rfl (qc (by omega) (by omega))
   refine fp HF 1 2 [(4, vI (k + 1 : Nat))] fun a HF => ?_
   refine s_d0 ?_
   exact ⟨_, (by omega), k + 1, by omega, by omega, rfl, HF.sub (by kernel_rfl), HM.pk [0, 1]⟩
  replace HM := HM.asBlk (i := 0) (ds := (bestU l (k + 1)).rcells) rfl (by rw [qv2 hk1 hk11 hb19])
  refine s_cf HF (wp_skip (qa ?_))
  refine fp HF 2 0 [(13, vI (IntKind.i64.wrap ((k : Int) + 1)))] fun a HF => ?_
  replace HF := HF.sp 13 (vI (k + 1 : Nat)) rfl (qc (by omega) (by omega))
  refine fp HF 1 2 [(4, vI (k + 1 : Nat))] fun a HF => ?_
  refine s_d0 ?_
  exact ⟨_, (by omega), k + 1, by omega, by omega, rfl, HF.sub (by kernel_rfl), HM.pk [0, 1]⟩
 have hd11 := of_decide_eq_false hb11
 refine s_cf HF (wp_exit (s_fs1 ?_))
 refine s_fz HF HM 0 rfl (v := .agg ((bestU l k).rcells)) (Yl.qt rfl rfl qcb rfl (fun _ h => qg (h.blk (i := 0) rfl))) fun a HF => ?_
 refine fo HF 1 rfl rfl (e_sa HF HM 1 rfl rfl rfl rfl rfl qcb rfl rfl (ql7 (bestU l k)) ?_)
 clear HM; intro w7_1 HM
 refine s_d0 (wp_ret ?_)
 exact ret1 rfl HF (.cellS (i := 1) HF HM rfl rfl qcb rfl) (⟨by rw [qsx (by omega)], HM.below⟩)
theorem qpi (x : Stm) (hok : x.sta.Ok) (hf : StFew x) (w : World) (hx : StRd w x) :
    Calls Tryz.prog 89 #[.agg x.cells] w (Is w (.bool (zz x.sta))) := by
 have hfs_ := hf.s; have hft := hf.t; have hfg := hf.g; have hfl := hf.l; have hfu := hf.u
 refine s_ce Tryz.func89 [.agg x.cells] [(0, .agg x.cells)] fun a HF => ?_
 have HM := Mem.start w
 refine s_fs1 ?_
 refine fo HF 0 rfl rfl (s_eb HF HM x.cells ?_)
 clear HF HM; intro a w1 g1 HF HM
 refine fp HF 1 1 [(2, .bool false)] fun a HF => ?_
 refine s_d0 (wp_seq (s_fs1 ?_))
 refine s_fz HF HM 0 rfl (v := .agg x.cells) (Yl.qt rfl rfl si_st rfl (fun _ h => qg (h.blk (i := 0) rfl))) fun a HF => ?_
 replace HF := HF.sp 8 (.agg x.cells) rfl (rfl)
 refine fo HF 1 rfl rfl (e_is HF HM [.agg x.cells] (.bool (shpS x.sta)) rfl rfl (qmb x hok hf _ (hx.old HM)) fun w9 hbw HM a HF => ?_)
 refine fp HF 2 2 [(11, .bool (!(shpS x.sta)))] fun a HF => ?_
 rcases HF.tf 11 rfl with ⟨hb11, HF⟩ | ⟨hb11, HF⟩
 ·
  refine fp HF 4 4 [(15, .bool true)] fun a HF => ?_
  refine s_d0 (s_ct HF (s_fs1 ?_))
  refine fp HF 1 0 [(2, .bool false)] fun a HF => ?_
  refine s_d0 (wp_ret ?_)
  exact s_rt1 rfl HF rfl (is_as (r_no0 (by rw [qgx, show shpS x.sta = false by simpa using hb11]; rfl)).symm HM.below)
 have hsp : shpS x.sta = true := by simpa using hb11
 have hsp0 := q09 hsp
 obtain ⟨hc1, hc2, _, _⟩ := qc2 hsp0.cfg
 refine s_fz HF HM 4 rfl (v := .agg x.cells) (Yl.qt rfl rfl si_st rfl (fun _ h => qg (h.blk (i := 0) rfl))) fun a HF => ?_
 replace HF := HF.sp 12 (.agg x.cells) rfl (rfl)
 refine fo HF 5 rfl rfl (e_is HF HM [.agg x.cells] (.bool (allN x.ts.length (tkAt x.sta))) rfl rfl (qpg x hok hf _ (hx.old HM) ⟨hc1, hc2⟩ hsp0.rs) fun w13 hbw HM a HF => ?_)
 refine fp HF 2 6 [(15, .bool (!(allN x.ts.length (tkAt x.sta))))] fun a HF => ?_
 refine s_d0 ?_
 rcases HF.tf 15 rfl with ⟨hb15, HF⟩ | ⟨hb15, HF⟩
 ·
  refine s_ct HF (s_fs1 ?_)
  refine fp HF 1 0 [(2, .bool false)] fun a HF => ?_
  refine s_d0 (wp_ret ?_)
  exact s_rt1 rfl HF rfl (is_as (r_no0 (by rw [qgx, show allN x.ts.length (tkAt x.sta) = false by simpa using hb15, Bool.and_false])).symm HM.below)
 have hsd : zb x.sta = true := by rw [qgx, hsp, show allN x.ts.length (tkAt x.sta) = true by simpa using hb15]; rfl
 have hsh := sh_at hsd
 have hcul := hsh.cu
 refine s_cf HF (wp_skip (wp_seq (s_fs1 ?_)))
 refine fp HF 1 0 [(3, vI 0)] fun a HF => ?_
 refine s_d0 (wp_block ?_)
 refine qi (fun mS aS wS => ∃ (c : Nat), (c ≤ x.cu.length) ∧ (UpTo c fun c => curOk x.sta c && allN x.rs.length fun g => lowS x.sta g c) ∧ mS = x.cu.length - c ∧ Fr aS 83 [] [(3, vI c), (15, .bool false), (2, .bool false), (1, vP g1 0)] ∧ Mem w wS [.blk g1 x.cells 30]) (m := x.cu.length - 0) ⟨0, Nat.zero_le _, UpTo.zero, rfl, HF.sub (by kernel_rfl), HM.pk [0]⟩ ?_
 clear HF HM; rintro mS a w_ ⟨c, hc, hu, rfl, HF, HM⟩
 refine wp_seq (s_fs1 ?_)
 refine fp HF 3 0 [(18, vP g1 0), (16, vI c)] fun a HF => ?_
 refine s_fz HF HM 3 rfl (v := vI x.cpus) (Yl.qd rfl rfl (by kernel_rfl) (fun _ h => h.cell (i := 0) rfl (rfl))) fun a HF => ?_
 refine fp HF 1 4 [(20, .bool (decide ((c : Int) < (x.cpus : Int))))] fun a HF => ?_
 refine s_d0 ?_
 rcases HF.tf 20 rfl with ⟨hb20, HF⟩ | ⟨hb20, HF⟩
 ·
  have hd20 := of_decide_eq_true hb20
  have hc21 : c < x.cu.length := by omega
  obtain ⟨id, hid⟩ : ∃ z, (x.cu.getD c 0) = z := ⟨_, rfl⟩
  refine s_ct HF (wp_skip (wp_seq (wp_block (wp_seq (s_fs1 ?_)))))
  refine fp HF 1 0 [(23, vP g1 4)] fun a HF => ?_
  refine s_fz HF HM 1 rfl (v := .slice x.uA x.cu.length x.uc) (Yl.qd rfl rfl (by kernel_rfl) (fun _ h => h.cell (i := 0) rfl (rfl))) fun a HF => ?_
  refine fp HF 1 2 [(25, vI c)] fun a HF => ?_
  obtain ⟨gq1, oq1, hq1, _⟩ := Rd.qj hx.u (Nat.lt_of_le_of_lt (Nat.zero_le _) (show c < x.cu.length from by omega)) (by decide)
  have hrq1 := hx.u; rw [hq1] at hrq1
  replace HF := HF.sp 24 (.slice (some ⟨gq1, oq1, none⟩) x.cu.length x.uc) rfl (by rw [hq1]; try rfl)
  refine s_fz HF HM 3 rfl (v := vP gq1 (oq1 + c * 1)) (Yl.ix gq1 oq1 c 1 rfl rfl rfl) fun a HF => ?_
  refine s_fz HF HM 4 rfl (v := vI (x.cu.getD c 0)) (Yl.o1 hrq1 c 0 (by omega) rfl rfl) fun a HF => ?_
  replace HF := HF.sp 27 (vI id) rfl (by rw [hid])
  refine fp HF 1 5 [(4, vI id)] fun a HF => ?_
  refine s_d0 (s_fs1 ?_)
  refine fp HF 2 0 [(29, .bool ((id : Int) != (0 : Int)))] fun a HF => ?_
  refine s_d0 ?_
  rcases HF.tf 29 rfl with ⟨hb29, HF⟩ | ⟨hb29, HF⟩
  ·
   have hd29 := bne_iff_ne.1 hb29
   refine s_ct HF (s_fs1 ?_)
   refine s_fz HF HM 0 rfl (v := .agg x.cells) (Yl.qt rfl rfl si_st rfl (fun _ h => qg (h.blk (i := 0) rfl))) fun a HF => ?_
   replace HF := HF.sp 30 (.agg x.cells) rfl (rfl)
   refine fp HF 1 1 [(31, vI id)] fun a HF => ?_
   refine fo HF 2 rfl rfl (e_is HF HM [.agg x.cells, vI id] (vI (fidx x.ts id)) rfl rfl (qta x id _ (hx.old HM) hf.t) fun w32 hbw HM a HF => ?_)
   refine fp HF 1 3 [(5, vI (fidx x.ts id))] fun a HF => ?_
   refine s_d0 (s_fs1 ?_)
   refine fp HF 3 0 [(35, .bool (decide ((fidx x.ts id : Int) < (0 : Int))))] fun a HF => ?_
   rcases HF.tf 35 rfl with ⟨hb35, HF⟩ | ⟨hb35, HF⟩
   ·
    have hd35 := of_decide_eq_true hb35
    refine fp HF 18 3 [(53, .bool true)] fun a HF => ?_
    refine s_d0 (s_ct HF (s_fs1 ?_))
    refine fp HF 1 0 [(2, .bool false)] fun a HF => ?_
    refine s_d0 (wp_ret ?_)
    exact s_rt1 rfl HF rfl (is_as (r_no1 hc21 (qhn (by rw [hid]; omega) (by rw [hid]; exact qrt (by omega)))).symm HM.below)
   have hd35 := of_decide_eq_false hb35
   obtain ⟨i, hfi, hfs, hil, hiid⟩ := qnc (l := x.ts) (id := id) (by omega)
   refine fp HF 1 3 [(36, vP g1 5)] fun a HF => ?_
   refine s_fz HF HM 4 rfl (v := .slice x.tA x.ts.length x.tc) (Yl.qd rfl rfl (by kernel_rfl) (fun _ h => h.cell (i := 0) rfl (rfl))) fun a HF => ?_
   refine fp HF 1 5 [(38, vI (fidx x.ts id))] fun a HF => ?_
   replace HF := HF.sp 38 (vI i) rfl (by rw [hfi])
   obtain ⟨gq2, oq2, hq2, _⟩ := Rd.qj hx.t (Nat.lt_of_le_of_lt (Nat.zero_le _) (show i < x.ts.length from by omega)) (by decide)
   have hrq2 := hx.t; rw [hq2] at hrq2
   replace HF := HF.sp 37 (.slice (some ⟨gq2, oq2, none⟩) x.ts.length x.tc) rfl (by rw [hq2]; try rfl)
   refine s_fz HF HM 6 rfl (v := vP gq2 (oq2 + i * 8)) (Yl.ix gq2 oq2 i 8 rfl rfl rfl) fun a HF => ?_
   refine fp HF 1 7 [(40, vP gq2 (oq2 + i * 8 + 5))] fun a HF => ?_
   refine s_fz HF HM 8 rfl (v := .bool ((x.ts.getD i Tk.zero).ready)) (Yl.qd rfl rfl (by kernel_rfl) (fun _ h => (h.old hrq2).partAt zw (k := i) (j := 5) (x := (x.ts.getD i Tk.zero)) ((getD_at Tk.zero (by omega))) rfl)) fun a HF => ?_
   refine fp HF 3 9 [(44, .bool (!((x.ts.getD i Tk.zero).ready)))] fun a HF => ?_
   rcases HF.tf 44 rfl with ⟨hb44, HF⟩ | ⟨hb44, HF⟩
   ·
    refine fp HF 9 12 [(53, .bool true)] fun a HF => ?_
    refine s_d0 (s_ct HF (s_fs1 ?_))
    refine fp HF 1 0 [(2, .bool false)] fun a HF => ?_
    refine s_d0 (wp_ret ?_)
    exact s_rt1 rfl HF rfl (is_as (r_no1 hc21 (by rw [qds (by rw [hid]; omega) (by rw [hid]; exact hfs), show (x.ts.getD i Tk.zero).ready = false by simpa using hb44, Bool.false_and])).symm HM.below)
   refine fp HF 1 12 [(45, vP g1 5)] fun a HF => ?_
   refine s_fz HF HM 13 rfl (v := .slice x.tA x.ts.length x.tc) (Yl.qd rfl rfl (by kernel_rfl) (fun _ h => h.cell (i := 0) rfl (rfl))) fun a HF => ?_
   refine fp HF 1 14 [(47, vI (fidx x.ts id))] fun a HF => ?_
   replace HF := HF.sp 47 (vI i) rfl (by rw [hfi])
   replace HF := HF.sp 46 (.slice (some ⟨gq2, oq2, none⟩) x.ts.length x.tc) rfl (by rw [hq2]; try rfl)
   refine s_fz HF HM 15 rfl (v := vP gq2 (oq2 + i * 8)) (Yl.ix gq2 oq2 i 8 rfl rfl rfl) fun a HF => ?_
   refine fp HF 1 16 [(49, vP gq2 (oq2 + i * 8 + 3))] fun a HF => ?_
   refine s_fz HF HM 17 rfl (v := vI ((x.ts.getD i Tk.zero).cpu)) (Yl.qd rfl rfl (by kernel_rfl) (fun _ h => (h.old hrq2).partAt zw (k := i) (j := 3) (x := (x.ts.getD i Tk.zero)) ((getD_at Tk.zero (by omega))) rfl)) fun a HF => ?_
   refine fp HF 3 18 [(53, .bool (((x.ts.getD i Tk.zero).cpu : Int) != (c : Int)))] fun a HF => ?_
   refine s_d0 ?_
   rcases HF.tf 53 rfl with ⟨hb53, HF⟩ | ⟨hb53, HF⟩
   ·
    have hd53 := bne_iff_ne.1 hb53
    refine s_ct HF (s_fs1 ?_)
    refine fp HF 1 0 [(2, .bool false)] fun a HF => ?_
    refine s_d0 (wp_ret ?_)
    exact s_rt1 rfl HF rfl (is_as (r_no1 hc21 (by rw [qds (by rw [hid]; omega) (by rw [hid]; exact hfs), decide_eq_false (by omega), Bool.and_false])).symm HM.below)
   have hd53 := bne_eq_false_iff_eq.1 hb53
   have hcu : curOk x.sta c = true := by rw [qds (by rw [hid]; omega) (by rw [hid]; exact hfs), show (x.ts.getD i Tk.zero).ready = true by simpa using hb44, decide_eq_true (by omega)]; rfl
   refine s_cf HF (wp_skip (s_fs1 ?_))
   refine fp HF 1 0 [(6, vI 0)] fun a HF => ?_
   refine s_d0 (wp_block ?_)
   refine qi (fun mS aS wS => ∃ (g : Nat), (g ≤ x.rs.length) ∧ (UpTo g fun g => lowS x.sta g c) ∧ mS = x.rs.length - g ∧ Fr aS 83 [] [(6, vI g), (53, .bool false), (5, vI (fidx x.ts id)), (29, .bool true), (4, vI id), (20, .bool true), (3, vI c), (15, .bool false), (2, .bool false), (1, vP g1 0)] ∧ Mem w wS [.blk g1 x.cells 30]) (m := x.rs.length - 0) ⟨0, Nat.zero_le _, UpTo.zero, rfl, HF.sub (by kernel_rfl), HM.pk [0]⟩ ?_
   clear HF HM; rintro mS a w_ ⟨g, hg, hu2, rfl, HF, HM⟩
   refine wp_seq (s_fs1 ?_)
   refine fp HF 2 0 [(55, vP g1 6), (54, vI g)] fun a HF => ?_
   refine s_fz HF HM 2 rfl (v := .slice x.sA x.rs.length x.sc) (Yl.qd rfl rfl (by kernel_rfl) (fun _ h => h.cell (i := 0) rfl (rfl))) fun a HF => ?_
   refine s_fl HF 3 fun a HF => ?_
   refine fp HF 1 4 [(58, .bool (decide ((g : Int) < (x.rs.length : Int))))] fun a HF => ?_
   refine s_d0 ?_
   rcases HF.tf 58 rfl with ⟨hb58, HF⟩ | ⟨hb58, HF⟩
   ·
    have hd58 := of_decide_eq_true hb58
    have hg58 : g < x.rs.length := by omega
    have hml := qi3 x g c
    obtain ⟨y, hy⟩ : ∃ z, x.rs.getD g Rw.zero = z := ⟨_, rfl⟩
    have hyr : Rd w w.heap.size 3 y.A y.l.length (y.l.flatMap spL) := by rw [← hy]; exact hx.row hg58
    have hyl : (y.l.length : Int) = x.cpus := by rw [← hy]; exact (qgh hg58 (hsh.row g hg58)).1
    obtain ⟨gq3, oq3, hq3, _⟩ := Rd.qj hx.s (Nat.lt_of_le_of_lt (Nat.zero_le _) (show g < x.rs.length from hg58)) (by decide)
    have hrq3 := hx.s; rw [hq3] at hrq3
    obtain ⟨gq4, oq4, hq4, _⟩ := Rd.qj hyr (Nat.lt_of_le_of_lt (Nat.zero_le _) (show c < y.l.length from (by omega : c < y.l.length))) (by decide)
    have hrq4 := hyr; rw [hq4] at hrq4
    refine s_ct HF (wp_skip (wp_seq (wp_block (s_fs1 ?_))))
    refine s_fz HF HM 0 rfl (v := .agg x.cells) (Yl.qt rfl rfl si_st rfl (fun _ h => qg (h.blk (i := 0) rfl))) fun a HF => ?_
    replace HF := HF.sp 61 (.agg x.cells) rfl (rfl)
    refine fp HF 2 1 [(63, vI c), (62, vI g)] fun a HF => ?_
    refine fo HF 3 rfl rfl ?_
    refine s_ek HF HM [.agg x.cells, vI g, vI c] (qky x hok hf hsh c (by omega) _ g (Nat.le_refl _) hg58 _ (hx.old HM)) fun A64 c64 w64 hc64 HM a HF => ?_
    refine fp HF 1 4 [(7, .slice A64 ((memS x.sta g c).length) c64)] fun a HF => ?_
    refine s_d0 ?_
    refine qa3 (fun aS wS => Fr aS 83 [] [(82, .bool (!lowS x.sta g c)), (7, .slice A64 ((memS x.sta g c).length) c64), (58, .bool true), (6, vI g), (53, .bool false), (5, vI (fidx x.ts id)), (29, .bool true), (4, vI id), (20, .bool true), (3, vI c), (15, .bool false), (2, .bool false), (1, vP g1 0)] ∧ Mem w wS [.row (.slice A64 ((memS x.sta g c).length) c64) ((memS x.sta g c).length) ((memS x.sta g c).flatMap mbrL) 173 3, .blk g1 x.cells 30]) ?_ ?_
    ·
     refine za HM [.row (.slice A64 ((memS x.sta g c).length) c64) ((memS x.sta g c).length) ((memS x.sta g c).flatMap mbrL) 173 3, .blk g1 x.cells 30] [0, 1] [] fun HM HS => ?_
     refine ap HF (fun _ => HS) [0] (bf 18 [0]) [(65, .slice A64 ((memS x.sta g c).length) c64)] fun a HF => ?_
     refine s_al HF HS 1 fun a HF => ?_
     refine ap HF (fun _ => HS) [2, 3] (bf 18 [0, 1, 2, 3]) [(68, .bool (decide ((((memS x.sta g c).length : Nat) : Int) > (0 : Int))))] fun a HF => ?_
     rcases HF.tf 68 rfl with ⟨hb68, HF⟩ | ⟨hb68, HF⟩
     ·
      have hd68 := of_decide_eq_true hb68
      have hne : memS x.sta g c ≠ [] := fun e => by rw [e] at hd68; exact absurd hd68 (by decide)
      refine ap HF (fun _ => HS) [4, 7, 9, 12] (bf 18 [0, 1, 2, 3, 4, 7, 9, 12]) [(77, vI c), (74, vI g), (72, vP g1 6), (69, .slice A64 ((memS x.sta g c).length) c64)] fun a HF => ?_
      refine s_az HF HS 8 rfl (v := .slice x.sA x.rs.length x.sc) (Yl.qd rfl rfl (by kernel_rfl) (fun _ h => h.cell (i := 1) rfl (rfl))) fun a HF => ?_
      replace HF := HF.sp 73 (.slice (some ⟨gq3, oq3, none⟩) x.rs.length x.sc) rfl (by rw [hq3]; try rfl)
      refine s_az HF HS 10 rfl (v := vP gq3 (oq3 + g * 1)) (Yl.ix gq3 oq3 g 1 rfl rfl rfl) fun a HF => ?_
      refine s_az HF HS 11 rfl (v := .slice ((x.rs.getD g Rw.zero).A) ((x.rs.getD g Rw.zero).l.length) ((x.rs.getD g Rw.zero).c)) (Yl.o1 hrq3 g Rw.zero hg58 rfl rfl) fun a HF => ?_
      replace HF := HF.sp 76 (.slice y.A y.l.length y.c) rfl (by rw [hy])
      replace HF := HF.sp 76 (.slice (some ⟨gq4, oq4, none⟩) y.l.length y.c) rfl (by rw [hq4]; try rfl)
      refine s_az HF HS 13 rfl (v := vP gq4 (oq4 + c * 3)) (Yl.ix gq4 oq4 c 3 rfl rfl rfl) fun a HF => ?_
      refine ap HF (fun _ => HS) [14] (bt 18 [5, 6, 15, 16, 17]) [(79, vP gq4 (oq4 + c * 3 + 2))] fun a HF => ?_
      refine s_az HF HS 15 rfl (v := vQ ((y.l.getD c Sp.zero).floor)) (Yl.qd rfl rfl (by kernel_rfl) (fun _ h => (h.old hrq4).partAt qak (k := c) (j := 2) (x := (y.l.getD c Sp.zero)) ((getD_at Sp.zero (by omega))) rfl)) fun a HF => ?_
      refine qe [5] (by kernel_rfl) rfl ?_
      refine all_cons ?_ all_nil
      refine qf HF (i := 5) rfl rfl ?_
      refine e_is HF HM [.slice A64 ((memS x.sta g c).length) c64] (.agg ((qc4 (memS x.sta g c)).rcells)) rfl rfl (qh5 A64 c64 (memS x.sta g c) _ (HM.rd (i := 0) rfl) (by omega) (by omega)) fun w70 hbw HM a HF => ?_
      refine keepS (HM.pk [0, 1]) (fun HS => ?_)
      refine s_az HF HS 6 rfl (v := vQ ((qc4 (memS x.sta g c)).v)) (Yl.field rfl rfl (by kernel_rfl)) fun a HF => ?_
      refine ap HF (fun _ => HS) [16, 17] (bt 18 []) [(82, .bool (decide (((qc4 (memS x.sta g c)).v : Int) > ((y.l.getD c Sp.zero).floor : Int))))] fun a HF => ?_
      refine qk (by kernel_rfl) ?_
      have HF := HF.sp 82 (.bool (!lowS x.sta g c)) rfl (congrArg Value.bool (by rw [qrf hne, qlq hg58, hy, ← qku hne (qsu hok g c), ← decide_not]; exact decide_eq_decide.2 (by omega)))
      exact ⟨HF.sub (by kernel_rfl), HM.pk [0, 1]⟩
     have hd68 := of_decide_eq_false hb68
     refine ap HF (fun _ => HS) [4, 5, 6, 7, 8, 9, 10, 11, 12, 13, 14, 15, 16, 17] (bt 18 []) [(82, .bool false)] fun a HF => ?_
     refine qk (by kernel_rfl) ?_
     have HF := HF.sp 82 (.bool (!lowS x.sta g c)) rfl (congrArg Value.bool (by rw [qlp (List.length_eq_zero_iff.1 (by omega))]; rfl))
     exact ⟨HF.sub (by kernel_rfl), HM.pk [0, 1]⟩
    clear HF HM; rintro a w15 ⟨HF, HM⟩
    rcases HF.tf 82 rfl with ⟨hb82, HF⟩ | ⟨hb82, HF⟩
    ·
     refine s_ct HF (s_fs1 ?_)
     refine fp HF 1 0 [(2, .bool false)] fun a HF => ?_
     refine s_d0 (wp_ret ?_)
     exact s_rt1 rfl HF rfl (is_as (r_no2 hc21 hg58 (by simpa using hb82)).symm HM.below)
    refine s_cf HF (wp_skip (qa ?_))
    refine fp HF 2 0 [(60, vI (IntKind.i64.wrap ((g : Int) + 1)))] fun a HF => ?_
    replace HF := HF.sp 60 (vI (g + 1 : Nat)) rfl (qc (by omega) (by omega))
    refine fp HF 1 2 [(6, vI (g + 1 : Nat))] fun a HF => ?_
    refine s_d0 ?_
    exact ⟨_, (by omega), g + 1, by omega, hu2.succ (by simpa using hb82), rfl, HF.sub (by kernel_rfl), HM.pk [1]⟩
   have hd58 := of_decide_eq_false hb58
   refine s_cf HF (wp_exit (qa ?_))
   refine fp HF 2 0 [(22, vI (IntKind.i64.wrap ((c : Int) + 1)))] fun a HF => ?_
   replace HF := HF.sp 22 (vI (c + 1 : Nat)) rfl (qc (by omega) (by omega))
   refine fp HF 1 2 [(3, vI (c + 1 : Nat))] fun a HF => ?_
   refine s_d0 ?_
   exact ⟨_, (by omega), c + 1, by omega, hu.succ (by rw [hcu, Bool.true_and]; exact UpTo.all fun i hi => hu2 i (by omega)), rfl, HF.sub (by kernel_rfl), HM.pk [0]⟩
  have hd29 := bne_eq_false_iff_eq.1 hb29
  have hcu : curOk x.sta c = true := qho (by rw [hid]; omega)
  refine s_cf HF (wp_skip (s_fs1 ?_))
  refine fp HF 1 0 [(6, vI 0)] fun a HF => ?_
  refine s_d0 (wp_block ?_)
  refine qi (fun mS aS wS => ∃ (g : Nat), (g ≤ x.rs.length) ∧ (UpTo g fun g => lowS x.sta g c) ∧ mS = x.rs.length - g ∧ Fr aS 83 [] [(6, vI g), (29, .bool false), (4, vI id), (20, .bool true), (3, vI c), (15, .bool false), (2, .bool false), (1, vP g1 0)] ∧ Mem w wS [.blk g1 x.cells 30]) (m := x.rs.length - 0) ⟨0, Nat.zero_le _, UpTo.zero, rfl, HF.sub (by kernel_rfl), HM.pk [0]⟩ ?_
  clear HF HM; rintro mS a w_ ⟨g, hg, hu2, rfl, HF, HM⟩
  refine wp_seq (s_fs1 ?_)
  refine fp HF 2 0 [(55, vP g1 6), (54, vI g)] fun a HF => ?_
  refine s_fz HF HM 2 rfl (v := .slice x.sA x.rs.length x.sc) (Yl.qd rfl rfl (by kernel_rfl) (fun _ h => h.cell (i := 0) rfl (rfl))) fun a HF => ?_
  refine s_fl HF 3 fun a HF => ?_
  refine fp HF 1 4 [(58, .bool (decide ((g : Int) < (x.rs.length : Int))))] fun a HF => ?_
  refine s_d0 ?_
  rcases HF.tf 58 rfl with ⟨hb58, HF⟩ | ⟨hb58, HF⟩
  ·
   have hd58 := of_decide_eq_true hb58
   have hg58 : g < x.rs.length := by omega
   have hml := qi3 x g c
   obtain ⟨y, hy⟩ : ∃ z, x.rs.getD g Rw.zero = z := ⟨_, rfl⟩
   have hyr : Rd w w.heap.size 3 y.A y.l.length (y.l.flatMap spL) := by rw [← hy]; exact hx.row hg58
   have hyl : (y.l.length : Int) = x.cpus := by rw [← hy]; exact (qgh hg58 (hsh.row g hg58)).1
   obtain ⟨gq5, oq5, hq5, _⟩ := Rd.qj hx.s (Nat.lt_of_le_of_lt (Nat.zero_le _) (show g < x.rs.length from hg58)) (by decide)
   have hrq5 := hx.s; rw [hq5] at hrq5
   obtain ⟨gq6, oq6, hq6, _⟩ := Rd.qj hyr (Nat.lt_of_le_of_lt (Nat.zero_le _) (show c < y.l.length from (by omega : c < y.l.length))) (by decide)
   have hrq6 := hyr; rw [hq6] at hrq6
   refine s_ct HF (wp_skip (wp_seq (wp_block (s_fs1 ?_))))
   refine s_fz HF HM 0 rfl (v := .agg x.cells) (Yl.qt rfl rfl si_st rfl (fun _ h => qg (h.blk (i := 0) rfl))) fun a HF => ?_
   replace HF := HF.sp 61 (.agg x.cells) rfl (rfl)
   refine fp HF 2 1 [(63, vI c), (62, vI g)] fun a HF => ?_
   refine fo HF 3 rfl rfl ?_
   refine s_ek HF HM [.agg x.cells, vI g, vI c] (qky x hok hf hsh c (by omega) _ g (Nat.le_refl _) hg58 _ (hx.old HM)) fun A64 c64 w64 hc64 HM a HF => ?_
   refine fp HF 1 4 [(7, .slice A64 ((memS x.sta g c).length) c64)] fun a HF => ?_
   refine s_d0 ?_
   refine qa3 (fun aS wS => Fr aS 83 [] [(82, .bool (!lowS x.sta g c)), (7, .slice A64 ((memS x.sta g c).length) c64), (58, .bool true), (6, vI g), (29, .bool false), (4, vI id), (20, .bool true), (3, vI c), (15, .bool false), (2, .bool false), (1, vP g1 0)] ∧ Mem w wS [.row (.slice A64 ((memS x.sta g c).length) c64) ((memS x.sta g c).length) ((memS x.sta g c).flatMap mbrL) 173 3, .blk g1 x.cells 30]) ?_ ?_
   ·
    refine za HM [.row (.slice A64 ((memS x.sta g c).length) c64) ((memS x.sta g c).length) ((memS x.sta g c).flatMap mbrL) 173 3, .blk g1 x.cells 30] [0, 1] [] fun HM HS => ?_
    refine ap HF (fun _ => HS) [0] (bf 18 [0]) [(65, .slice A64 ((memS x.sta g c).length) c64)] fun a HF => ?_
    refine s_al HF HS 1 fun a HF => ?_
    refine ap HF (fun _ => HS) [2, 3] (bf 18 [0, 1, 2, 3]) [(68, .bool (decide ((((memS x.sta g c).length : Nat) : Int) > (0 : Int))))] fun a HF => ?_
    rcases HF.tf 68 rfl with ⟨hb68, HF⟩ | ⟨hb68, HF⟩
    ·
     have hd68 := of_decide_eq_true hb68
     have hne : memS x.sta g c ≠ [] := fun e => by rw [e] at hd68; exact absurd hd68 (by decide)
     refine ap HF (fun _ => HS) [4, 7, 9, 12] (bf 18 [0, 1, 2, 3, 4, 7, 9, 12]) [(77, vI c), (74, vI g), (72, vP g1 6), (69, .slice A64 ((memS x.sta g c).length) c64)] fun a HF => ?_
     refine s_az HF HS 8 rfl (v := .slice x.sA x.rs.length x.sc) (Yl.qd rfl rfl (by kernel_rfl) (fun _ h => h.cell (i := 1) rfl (rfl))) fun a HF => ?_
     replace HF := HF.sp 73 (.slice (some ⟨gq5, oq5, none⟩) x.rs.length x.sc) rfl (by rw [hq5]; try rfl)
     refine s_az HF HS 10 rfl (v := vP gq5 (oq5 + g * 1)) (Yl.ix gq5 oq5 g 1 rfl rfl rfl) fun a HF => ?_
     refine s_az HF HS 11 rfl (v := .slice ((x.rs.getD g Rw.zero).A) ((x.rs.getD g Rw.zero).l.length) ((x.rs.getD g Rw.zero).c)) (Yl.o1 hrq5 g Rw.zero hg58 rfl rfl) fun a HF => ?_
     replace HF := HF.sp 76 (.slice y.A y.l.length y.c) rfl (by rw [hy])
     replace HF := HF.sp 76 (.slice (some ⟨gq6, oq6, none⟩) y.l.length y.c) rfl (by rw [hq6]; try rfl)
     refine s_az HF HS 13 rfl (v := vP gq6 (oq6 + c * 3)) (Yl.ix gq6 oq6 c 3 rfl rfl rfl) fun a HF => ?_
     refine ap HF (fun _ => HS) [14] (bt 18 [5, 6, 15, 16, 17]) [(79, vP gq6 (oq6 + c * 3 + 2))] fun a HF => ?_
     refine s_az HF HS 15 rfl (v := vQ ((y.l.getD c Sp.zero).floor)) (Yl.qd rfl rfl (by kernel_rfl) (fun _ h => (h.old hrq6).partAt qak (k := c) (j := 2) (x := (y.l.getD c Sp.zero)) ((getD_at Sp.zero (by omega))) rfl)) fun a HF => ?_
     refine qe [5] (by kernel_rfl) rfl ?_
     refine all_cons ?_ all_nil
     refine qf HF (i := 5) rfl rfl ?_
     refine e_is HF HM [.slice A64 ((memS x.sta g c).length) c64] (.agg ((qc4 (memS x.sta g c)).rcells)) rfl rfl (qh5 A64 c64 (memS x.sta g c) _ (HM.rd (i := 0) rfl) (by omega) (by omega)) fun w70 hbw HM a HF => ?_
     refine keepS (HM.pk [0, 1]) (fun HS => ?_)
     refine s_az HF HS 6 rfl (v := vQ ((qc4 (memS x.sta g c)).v)) (Yl.field rfl rfl (by kernel_rfl)) fun a HF => ?_
     refine ap HF (fun _ => HS) [16, 17] (bt 18 []) [(82, .bool (decide (((qc4 (memS x.sta g c)).v : Int) > ((y.l.getD c Sp.zero).floor : Int))))] fun a HF => ?_
     refine qk (by kernel_rfl) ?_
     have HF := HF.sp 82 (.bool (!lowS x.sta g c)) rfl (congrArg Value.bool (by rw [qrf hne, qlq hg58, hy, ← qku hne (qsu hok g c), ← decide_not]; exact decide_eq_decide.2 (by omega)))
     exact ⟨HF.sub (by kernel_rfl), HM.pk [0, 1]⟩
    have hd68 := of_decide_eq_false hb68
    refine ap HF (fun _ => HS) [4, 5, 6, 7, 8, 9, 10, 11, 12, 13, 14, 15, 16, 17] (bt 18 []) [(82, .bool false)] fun a HF => ?_
    refine qk (by kernel_rfl) ?_
    have HF := HF.sp 82 (.bool (!lowS x.sta g c)) rfl (congrArg Value.bool (by rw [qlp (List.length_eq_zero_iff.1 (by omega))]; rfl))
    exact ⟨HF.sub (by kernel_rfl), HM.pk [0, 1]⟩
   clear HF HM; rintro a w15 ⟨HF, HM⟩
   rcases HF.tf 82 rfl with ⟨hb82, HF⟩ | ⟨hb82, HF⟩
   ·
    refine s_ct HF (s_fs1 ?_)
    refine fp HF 1 0 [(2, .bool false)] fun a HF => ?_
    refine s_d0 (wp_ret ?_)
    exact s_rt1 rfl HF rfl (is_as (r_no2 hc21 hg58 (by simpa using hb82)).symm HM.below)
   refine s_cf HF (wp_skip (qa ?_))
   refine fp HF 2 0 [(60, vI (IntKind.i64.wrap ((g : Int) + 1)))] fun a HF => ?_
   replace HF := HF.sp 60 (vI (g + 1 : Nat)) rfl (qc (by omega) (by omega))
   refine fp HF 1 2 [(6, vI (g + 1 : Nat))] fun a HF => ?_
   refine s_d0 ?_
   exact ⟨_, (by omega), g + 1, by omega, hu2.succ (by simpa using hb82), rfl, HF.sub (by kernel_rfl), HM.pk [1]⟩
  have hd58 := of_decide_eq_false hb58
  refine s_cf HF (wp_exit (qa ?_))
  refine fp HF 2 0 [(22, vI (IntKind.i64.wrap ((c : Int) + 1)))] fun a HF => ?_
  replace HF := HF.sp 22 (vI (c + 1 : Nat)) rfl (qc (by omega) (by omega))
  refine fp HF 1 2 [(3, vI (c + 1 : Nat))] fun a HF => ?_
  refine s_d0 ?_
  exact ⟨_, (by omega), c + 1, by omega, hu.succ (by rw [hcu, Bool.true_and]; exact UpTo.all fun i hi => hu2 i (by omega)), rfl, HF.sub (by kernel_rfl), HM.pk [0]⟩
 have hd20 := of_decide_eq_false hb20
 refine s_cf HF (wp_exit (s_fs1 ?_))
 refine fp HF 1 0 [(2, .bool true)] fun a HF => ?_
 refine s_d0 (wp_ret ?_)
 exact s_rt1 rfl HF rfl (is_as (r_yes hsd (fun i hi => hu i (by omega))).symm HM.below)
theorem qzo : EI Tryz.prog 121 9 (.string (ByteArray.mk #[])) 1 16 := ⟨by kernel_rfl, by kernel_rfl, rfl, by omega⟩
theorem qey (w : World) :
    Calls Tryz.prog 54 #[] w (qv4 9 w) := by
 refine s_ce Tryz.func54 [] [] fun a HF => ?_
 have HM := Mem.start w
 refine s_fs1 ?_
 refine fp HF 1 0 [(0, .slice none 0 0)] fun a HF => ?_
 refine s_d0 (s_fs1 ?_)
 refine fo HF 0 rfl rfl (s_el HF HM qzo [(0, .string (ByteArray.mk #[104, 101, 97, 100])), (1, .string (ByteArray.mk #[110, 101, 120, 116])), (2, .string (ByteArray.mk #[99, 111, 110, 102, 105, 103])), (3, .string (ByteArray.mk #[103, 114, 111, 117, 112, 115])), (4, .string (ByteArray.mk #[99, 108, 111, 99, 107, 115])), (5, .string (ByteArray.mk #[99, 117, 114, 114, 101, 110, 116])), (6, .string (ByteArray.mk #[116, 97, 115, 107, 115])), (7, .string (ByteArray.mk #[115, 112, 111, 116, 115])), (8, .string (ByteArray.mk #[115, 117, 109]))] #[.string (ByteArray.mk #[104, 101, 97, 100]), .string (ByteArray.mk #[110, 101, 120, 116]), .string (ByteArray.mk #[99, 111, 110, 102, 105, 103]), .string (ByteArray.mk #[103, 114, 111, 117, 112, 115]), .string (ByteArray.mk #[99, 108, 111, 99, 107, 115]), .string (ByteArray.mk #[99, 117, 114, 114, 101, 110, 116]), .string (ByteArray.mk #[116, 97, 115, 107, 115]), .string (ByteArray.mk #[115, 112, 111, 116, 115]), .string (ByteArray.mk #[115, 117, 109])] ?_)
 clear HF HM; intro a w1 g1 HF HM
 refine fp HF 1 1 [(0, vS g1 9 9)] fun a HF => ?_
 refine s_d0 ?_
 replace HM := (HM.blkRow (i := 0) (n := 9) (size := 1) rfl rfl (by decide)).asRow (i := 0) (ys := nameL.map StrC) rfl (by kernel_rfl)
 refine wp_ret ?_
 exact s_rt1 rfl HF rfl (⟨⟨_, rfl, HM.own (i := 0) rfl⟩, HM.below⟩)
theorem qpn (s : Snm) (hok : s.st.sta.Ok) (hf : StFew s.st) (w : World) (hx : StRd w s.st) :
    Calls Tryz.prog 53 #[.agg s.cells] w (Is w (.int .i64 (chkS s : Int))) := by
 refine s_ce Tryz.func53 [.agg s.cells] [(0, .agg s.cells)] fun a HF => ?_
 have HM := Mem.start w
 refine s_fs1 ?_
 refine fo HF 0 rfl rfl (s_eb HF HM s.cells ?_)
 clear HF HM; intro a w1 g1 HF HM
 refine fp HF 1 1 [(2, vI 0)] fun a HF => ?_
 refine s_d0 (wp_seq (s_fs1 ?_))
 refine fp HF 1 0 [(3, vP g1 0)] fun a HF => ?_
 refine s_fz HF HM 1 rfl (v := vI s.next) (Yl.qd rfl rfl (by kernel_rfl) (fun _ h => h.cell (i := 0) rfl (rfl))) fun a HF => ?_
 refine fp HF 2 2 [(6, .bool (decide ((s.next : Int) < (1 : Int))))] fun a HF => ?_
 rcases HF.tf 6 rfl with ⟨hb6, HF⟩ | ⟨hb6, HF⟩
 ·
  have hd6 := of_decide_eq_true hb6
  refine fp HF 4 4 [(10, .bool true)] fun a HF => ?_
  refine s_d0 (s_ct HF (s_fs1 ?_))
  refine fp HF 1 0 [(2, vI 330)] fun a HF => ?_
  refine s_d0 (wp_ret ?_)
  exact s_rt1 rfl HF rfl (⟨by rw [qfk (by omega)]; rfl, HM.below⟩)
 have hd6 := of_decide_eq_false hb6
 refine fp HF 1 4 [(7, vP g1 0)] fun a HF => ?_
 refine s_fz HF HM 5 rfl (v := vI s.next) (Yl.qd rfl rfl (by kernel_rfl) (fun _ h => h.cell (i := 0) rfl (rfl))) fun a HF => ?_
 refine fp HF 2 6 [(10, .bool (decide ((s.next : Int) > (281474976710657 : Int))))] fun a HF => ?_
 refine s_d0 ?_
 rcases HF.tf 10 rfl with ⟨hb10, HF⟩ | ⟨hb10, HF⟩
 ·
  have hd10 := of_decide_eq_true hb10
  refine s_ct HF (s_fs1 ?_)
  refine fp HF 1 0 [(2, vI 330)] fun a HF => ?_
  refine s_d0 (wp_ret ?_)
  exact s_rt1 rfl HF rfl (⟨by rw [qfk (by omega)]; rfl, HM.below⟩)
 have hd10 := of_decide_eq_false hb10
 refine s_cf HF (wp_skip (wp_seq (s_fs1 ?_)))
 refine fp HF 1 0 [(11, vP g1 1)] fun a HF => ?_
 refine s_fz HF HM 1 rfl (v := .agg #[vI s.st.cpus, vQ s.st.credit, .slice s.st.gA s.st.gs.length s.st.gc, .slice s.st.lA s.st.cl.length s.st.lc, .slice s.st.uA s.st.cu.length s.st.uc, .slice s.st.tA s.st.ts.length s.st.tc, .slice s.st.sA s.st.rs.length s.st.sc]) (Yl.qt rfl rfl si_st rfl (fun _ h => h.sub (i := 0) rfl 1 rfl)) fun a HF => ?_
 replace HF := HF.sp 12 (.agg s.st.cells) rfl (rfl)
 refine fo HF 2 rfl rfl (e_is HF HM [.agg s.st.cells] (.bool (zz s.st.sta)) rfl rfl (qpi s.st hok hf _ (hx.old HM)) fun w13 hbw HM a HF => ?_)
 refine fp HF 1 3 [(14, .bool (!(zz s.st.sta)))] fun a HF => ?_
 refine s_d0 ?_
 rcases HF.tf 14 rfl with ⟨hb14, HF⟩ | ⟨hb14, HF⟩
 ·
  refine s_ct HF (s_fs1 ?_)
  refine fp HF 1 0 [(2, vI 331)] fun a HF => ?_
  refine s_d0 (wp_ret ?_)
  exact s_rt1 rfl HF rfl (⟨by rw [qkd (by omega) (by simpa using hb14)]; rfl, HM.below⟩)
 refine s_cf HF (wp_skip (s_fs1 ?_))
 refine fp HF 1 0 [(2, vI 0)] fun a HF => ?_
 refine s_d0 (wp_ret ?_)
 exact s_rt1 rfl HF rfl (⟨by rw [qke (by omega) (by simpa using hb14)]; rfl, HM.below⟩)
theorem qzp (s : Snm) (hok : s.st.sta.Ok) (hf : StFew s.st) (hsh : ShAt s.st) (nm : ByteArray) (w : World) (hx : StRd w s.st) :
    Calls Tryz.prog 55 #[.agg s.cells, .string nm] w (qlr w (ofR s nm)) := by
 have hgl := hf.g; have htl := hf.t; have hll := hf.l; have hul := hf.u; have hrl := hf.s
 have hg1 := (qft (qc2 hsh.cfg).2.2.2).1
 obtain ⟨hc1, hc2, _, _⟩ := qc2 hsh.cfg
 have hcred := hok.credit
 replace hcred : s.st.credit < 18446744073709551616 := hcred
 refine s_ce Tryz.func55 [.agg s.cells, .string nm] [(0, .agg s.cells), (1, .string nm)] fun a HF => ?_
 have HM := Mem.start w
 refine s_fs1 ?_
 refine fo HF 0 rfl rfl (s_eb HF HM s.cells ?_)
 clear HF HM; intro a w2 g2 HF HM
 refine fp HF 1 1 [(4, .slice none 0 0)] fun a HF => ?_
 refine s_d0 (s_fs1 ?_)
 refine fp HF 1 0 [(5, .slice none 0 0)] fun a HF => ?_
 refine s_d0 ?_
 replace HM := HM.nil 22 1
 refine s_fs1 ?_
 refine fp HF 1 0 [(16, vP g2 1)] fun a HF => ?_
 refine s_fz HF HM 1 rfl (v := .agg #[vI s.st.cpus, vQ s.st.credit, .slice s.st.gA s.st.gs.length s.st.gc, .slice s.st.lA s.st.cl.length s.st.lc, .slice s.st.uA s.st.cu.length s.st.uc, .slice s.st.tA s.st.ts.length s.st.tc, .slice s.st.sA s.st.rs.length s.st.sc]) (Yl.qt rfl rfl si_st rfl (fun _ h => h.sub (i := 1) rfl 1 rfl)) fun a HF => ?_
 replace HF := HF.sp 17 (.agg s.st.cells) rfl (rfl)
 refine fo HF 2 rfl rfl (s_ea HF HM #[vI 0, vQ 0, .slice none 0 0, .slice none 0 0, .slice none 0 0, .slice none 0 0, .slice none 0 0] ?_)
 clear HF HM; intro a w6 g6 HF HM
 refine fo HF 3 rfl rfl (e_sa HF HM 0 rfl rfl rfl rfl rfl si_st rfl rfl (qgb s.st) ?_)
 clear HM; intro w2_3 HM
 refine s_d0 (wp_seq (s_fs1 ?_))
 refine fp HF 1 0 [(18, .string nm)] fun a HF => ?_
 refine s_d0 (wp_block (s_fs1 ?_))
 refine fp HF 2 0 [(19, .bool ((nm).toList == ((ByteArray.mk #[110, 101, 120, 116])).toList))] fun a HF => ?_
 refine s_d0 ?_
 rcases HF.tf 19 rfl with ⟨hb19, HF⟩ | ⟨hb19, HF⟩
 ·
  refine s_ct HF (qa ?_)
  refine fp HF 2 0 [(22, vP g2 0), (21, .slice none 0 0)] fun a HF => ?_
  refine s_fz HF HM 2 rfl (v := vI s.next) (Yl.qd rfl rfl (by kernel_rfl) (fun _ h => h.cell (i := 2) rfl (rfl))) fun a HF => ?_
  refine fp HF 1 3 [(24, vQ (IntKind.u64.wrap s.next))] fun a HF => ?_
  replace HF := HF.sp 24 (vQ (toU s.next)) rfl (zj _)
  refine fo HF 4 rfl rfl (s_el HF HM q2 [(0, vQ (toU s.next))] #[vQ (toU s.next)] ?_)
  clear HF HM; intro a w25 g25 HF HM
  refine fo HF 5 rfl rfl (qo HF HM (i := 2) rfl q2 rfl rfl rfl (news := ([toU s.next].map U64)) (HM.rdBlk (i := 0) (n := 1) (size := 1) rfl rfl) (qab _) (by omega) (by omega) rfl (by decide) ?_)
  clear HF HM; intro a w26 A26 c26 HF HM hc26
  refine fp HF 1 6 [(5, .slice A26 (0 + 1) c26)] fun a HF => ?_
  refine s_d0 ?_
  have hnA26 : 0 + 1 = [toU s.next].length := rfl
  replace HM := HM.reRow (i := 2) (ys := [toU s.next].map U64) rfl hnA26 (rfl)
  rw [hnA26] at hc26
  replace HF := HF.sp 5 (.slice A26 ([toU s.next].length) c26) rfl (by rw [hnA26])
  replace HF := HF.sp 26 (.slice A26 ([toU s.next].length) c26) rfl (by rw [hnA26])
  refine s_fs1 ?_
  refine fp HF 2 0 [(4, .slice A26 ([toU s.next].length) c26)] fun a HF => ?_
  refine s_d0 (wp_ret ?_)
  exact s_rt1 rfl HF rfl (qah ((show _ = secN s 0 from rfl).trans (Eq.symm (qe9 hb19))) (HM.own (i := 2) rfl) hc26 HM.below)
 refine s_cf HF (s_fs1 ?_)
 refine fp HF 2 0 [(27, .bool ((nm).toList == ((ByteArray.mk #[99, 111, 110, 102, 105, 103])).toList))] fun a HF => ?_
 refine s_d0 ?_
 rcases HF.tf 27 rfl with ⟨hb27, HF⟩ | ⟨hb27, HF⟩
 ·
  refine s_ct HF (qa ?_)
  refine fp HF 3 0 [(31, vP g6 0), (29, .slice none 0 0)] fun a HF => ?_
  refine s_fz HF HM 3 rfl (v := vI s.st.cpus) (Yl.qd rfl rfl (by kernel_rfl) (fun _ h => h.cell (i := 0) rfl (rfl))) fun a HF => ?_
  refine fp HF 1 4 [(33, vQ (IntKind.u64.wrap s.st.cpus))] fun a HF => ?_
  replace HF := HF.sp 33 (vQ (toU s.st.cpus)) rfl (zj _)
  refine fp HF 2 5 [(35, vP g6 1)] fun a HF => ?_
  refine s_fz HF HM 7 rfl (v := vQ s.st.credit) (Yl.qd rfl rfl (by kernel_rfl) (fun _ h => h.cell (i := 0) rfl (rfl))) fun a HF => ?_
  refine fp HF 2 8 [(38, vP g6 2)] fun a HF => ?_
  refine s_fz HF HM 10 rfl (v := .slice s.st.gA s.st.gs.length s.st.gc) (Yl.qd rfl rfl (by kernel_rfl) (fun _ h => h.cell (i := 0) rfl (rfl))) fun a HF => ?_
  refine s_fl HF 11 fun a HF => ?_
  refine fp HF 1 12 [(41, vQ (IntKind.u64.wrap (s.st.gs.length : Int)))] fun a HF => ?_
  replace HF := HF.sp 41 (vQ s.st.gs.length) rfl (qbn rfl (by omega))
  refine fo HF 13 rfl rfl (s_el HF HM q2 [(0, vQ (toU s.st.cpus)), (1, vQ s.st.credit), (2, vQ s.st.gs.length)] #[vQ (toU s.st.cpus), vQ s.st.credit, vQ s.st.gs.length] ?_)
  clear HF HM; intro a w42 g42 HF HM
  refine fo HF 14 rfl rfl (qo HF HM (i := 2) rfl q2 rfl rfl rfl (news := ([toU s.st.cpus, s.st.credit, s.st.gs.length].map U64)) (HM.rdBlk (i := 0) (n := 3) (size := 1) rfl rfl) (qab _) (by omega) (by omega) rfl (by decide) ?_)
  clear HF HM; intro a w43 A43 c43 HF HM hc43
  refine fp HF 1 15 [(5, .slice A43 (0 + 3) c43)] fun a HF => ?_
  refine s_d0 ?_
  have hnA43 : 0 + 3 = [toU s.st.cpus, s.st.credit, s.st.gs.length].length := rfl
  replace HM := HM.reRow (i := 2) (ys := [toU s.st.cpus, s.st.credit, s.st.gs.length].map U64) rfl hnA43 (rfl)
  rw [hnA43] at hc43
  replace HF := HF.sp 5 (.slice A43 ([toU s.st.cpus, s.st.credit, s.st.gs.length].length) c43) rfl (by rw [hnA43])
  replace HF := HF.sp 43 (.slice A43 ([toU s.st.cpus, s.st.credit, s.st.gs.length].length) c43) rfl (by rw [hnA43])
  refine s_fs1 ?_
  refine fp HF 2 0 [(4, .slice A43 ([toU s.st.cpus, s.st.credit, s.st.gs.length].length) c43)] fun a HF => ?_
  refine s_d0 (wp_ret ?_)
  exact s_rt1 rfl HF rfl (qah ((show _ = secN s 1 from rfl).trans (Eq.symm ((of_no hb19).trans (qe9 hb27)))) (HM.own (i := 2) rfl) hc43 HM.below)
 refine s_cf HF (s_fs1 ?_)
 refine fp HF 2 0 [(44, .bool ((nm).toList == ((ByteArray.mk #[103, 114, 111, 117, 112, 115])).toList))] fun a HF => ?_
 refine s_d0 ?_
 rcases HF.tf 44 rfl with ⟨hb44, HF⟩ | ⟨hb44, HF⟩
 ·
  refine s_ct HF (s_fs1 ?_)
  refine fp HF 1 0 [(7, vI 1)] fun a HF => ?_
  refine s_d0 (wp_block ?_)
  refine qi (fun mS aS wS => ∃ (g : Nat) (q : List Nat) (Ao : Option Addr) (co : Nat), (1 ≤ g) ∧ (g ≤ s.st.gs.length) ∧ (q = upF (g - 1) (gsN s.st.gs)) ∧ (q.length ≤ 2 * (g - 1)) ∧ (q.length ≤ co) ∧ mS = s.st.gs.length - g ∧ Fr aS 223 [] [(7, vI g), (44, .bool true), (27, .bool false), (19, .bool false), (18, .string nm), (6, vP g6 0), (5, .slice Ao q.length co), (4, .slice none 0 0), (2, vP g2 0)] ∧ Mem w wS [.blk g6 s.st.cells 30, .row (.slice Ao q.length co) q.length (q.map U64) 22 1, .blk g2 s.cells 56]) (m := s.st.gs.length - 1) ⟨1, [], none, 0, Nat.le_refl _, by omega, rfl, Nat.le_refl _, Nat.le_refl _, rfl, HF.sub (by kernel_rfl), HM.pk [0, 1, 2]⟩ ?_
  clear HF HM; rintro mS a w_ ⟨g, q, Ao, co, hg1, hg, hq, hql, hco, rfl, HF, HM⟩
  refine wp_seq (s_fs1 ?_)
  refine fp HF 3 0 [(48, vP g6 2), (46, vI g)] fun a HF => ?_
  refine s_fz HF HM 3 rfl (v := .slice s.st.gA s.st.gs.length s.st.gc) (Yl.qd rfl rfl (by kernel_rfl) (fun _ h => h.cell (i := 0) rfl (rfl))) fun a HF => ?_
  refine s_fl HF 4 fun a HF => ?_
  refine fp HF 1 5 [(51, .bool (decide ((g : Int) < (s.st.gs.length : Int))))] fun a HF => ?_
  refine s_d0 ?_
  rcases HF.tf 51 rfl with ⟨hb51, HF⟩ | ⟨hb51, HF⟩
  ·
   have hd51 := of_decide_eq_true hb51
   have hg51 : g < s.st.gs.length := by omega
   obtain ⟨gq1, oq1, hq1, _⟩ := Rd.qj hx.g (Nat.lt_of_le_of_lt (Nat.zero_le _) (show g < s.st.gs.length from hg51)) (by decide)
   have hrq1 := hx.g; rw [hq1] at hrq1
   refine s_ct HF (wp_skip (wp_seq (wp_block ?_)))
   refine za HM [.blk g6 s.st.cells 30, .blk g2 s.cells 56] [0, 2] [] fun HM HS => ?_
   refine ap HF (fun _ => HS) [0, 1, 2, 4, 9, 10, 12] (bf 20 [0, 1, 2, 4, 9, 10, 12]) [(66, vI g), (64, vP g6 2), (58, vI g), (56, vP g6 2), (54, .slice Ao q.length co)] fun a HF => ?_
   refine s_az HF HS 3 rfl (v := .slice s.st.gA s.st.gs.length s.st.gc) (Yl.qd rfl rfl (by kernel_rfl) (fun _ h => h.cell (i := 0) rfl (rfl))) fun a HF => ?_
   replace HF := HF.sp 57 (.slice (some ⟨gq1, oq1, none⟩) s.st.gs.length s.st.gc) rfl (by rw [hq1]; try rfl)
   refine s_az HF HS 5 rfl (v := vP gq1 (oq1 + g * 2)) (Yl.ix gq1 oq1 g 2 rfl rfl rfl) fun a HF => ?_
   refine ap HF (fun _ => HS) [6] (bf 20 [0, 1, 2, 3, 4, 5, 6, 9, 10, 12]) [(60, vP gq1 (oq1 + g * 2))] fun a HF => ?_
   refine s_az HF HS 7 rfl (v := vI ((s.st.gs.getD g Gr.zero).parent)) (Yl.qd rfl rfl (by kernel_rfl) (fun _ h => (by have := (h.old hrq1).partAt zo (k := g) (j := 0) (x := (s.st.gs.getD g Gr.zero)) ((getD_at Gr.zero hg51)) rfl; simpa using this))) fun a HF => ?_
   refine qh HF (fun _ => HS) (i := 8) rfl rfl (d := 62) rfl (by decide) (by kernel_rfl) (fun _ _ _ h => h) (v := vQ (IntKind.u64.wrap ((s.st.gs.getD g Gr.zero).parent))) (fun _ => Yl.pure (by kernel_rfl)) fun a HF => ?_
   replace HF := HF.sp 62 (vQ (toU (s.st.gs.getD g Gr.zero).parent)) rfl (zj _)
   refine s_az HF HS 11 rfl (v := .slice s.st.gA s.st.gs.length s.st.gc) (Yl.qd rfl rfl (by kernel_rfl) (fun _ h => h.cell (i := 0) rfl (rfl))) fun a HF => ?_
   replace HF := HF.sp 65 (.slice (some ⟨gq1, oq1, none⟩) s.st.gs.length s.st.gc) rfl (by rw [hq1]; try rfl)
   refine s_az HF HS 13 rfl (v := vP gq1 (oq1 + g * 2)) (Yl.ix gq1 oq1 g 2 rfl rfl rfl) fun a HF => ?_
   refine ap HF (fun _ => HS) [14] (bt 20 [15, 16, 17, 18, 19]) [(68, vP gq1 (oq1 + g * 2 + 1))] fun a HF => ?_
   refine s_az HF HS 15 rfl (v := vI ((s.st.gs.getD g Gr.zero).weight)) (Yl.qd rfl rfl (by kernel_rfl) (fun _ h => (h.old hrq1).partAt zo (k := g) (j := 1) (x := (s.st.gs.getD g Gr.zero)) ((getD_at Gr.zero hg51)) rfl)) fun a HF => ?_
   refine qh HF (fun _ => HS) (i := 16) rfl rfl (d := 70) rfl (by decide) (by kernel_rfl) (fun _ _ _ h => h) (v := vQ (IntKind.u64.wrap ((s.st.gs.getD g Gr.zero).weight))) (fun _ => Yl.pure (by kernel_rfl)) fun a HF => ?_
   replace HF := HF.sp 70 (vQ (toU (s.st.gs.getD g Gr.zero).weight)) rfl (zj _)
   refine qe [17] (by kernel_rfl) rfl ?_
   refine all_cons ?_ all_nil
   refine qf HF (i := 17) rfl rfl ?_
   refine s_el HF HM q2 [(0, vQ (toU (s.st.gs.getD g Gr.zero).parent)), (1, vQ (toU (s.st.gs.getD g Gr.zero).weight))] #[vQ (toU (s.st.gs.getD g Gr.zero).parent), vQ (toU (s.st.gs.getD g Gr.zero).weight)] ?_
   clear HF HM; intro a w71 g71 HF HM
   refine keepS (HM.pk [1, 3]) (fun HS => ?_)
   refine qe [18] (by kernel_rfl) rfl ?_
   refine all_cons ?_ all_nil
   refine qf HF (i := 18) rfl rfl ?_
   refine qo HF HM (i := 2) rfl q2 rfl rfl rfl (news := ([toU (s.st.gs.getD g Gr.zero).parent, toU (s.st.gs.getD g Gr.zero).weight].map U64)) (HM.rdBlk (i := 0) (n := 2) (size := 1) rfl rfl) (qab _) (by omega) (by omega) rfl (by decide) ?_
   clear HF HM; intro a w72 A72 c72 HF HM hc72
   refine keepS (HM.pk [1, 3]) (fun HS => ?_)
   refine ap HF (fun _ => HS) [19] (bt 20 []) [(5, .slice A72 (q.length + 2) c72)] fun a HF => ?_
   refine qk (by kernel_rfl) ?_
   have hnA72 : q.length + 2 = (q ++ [toU (s.st.gs.getD g Gr.zero).parent, toU (s.st.gs.getD g Gr.zero).weight]).length := qs rfl
   replace HM := HM.reRow (i := 2) (ys := (q ++ [toU (s.st.gs.getD g Gr.zero).parent, toU (s.st.gs.getD g Gr.zero).weight]).map U64) rfl hnA72 (List.map_append.symm)
   rw [hnA72] at hc72
   replace HF := HF.sp 5 (.slice A72 ((q ++ [toU (s.st.gs.getD g Gr.zero).parent, toU (s.st.gs.getD g Gr.zero).weight]).length) c72) rfl (by rw [hnA72])
   replace HF := HF.sp 72 (.slice A72 ((q ++ [toU (s.st.gs.getD g Gr.zero).parent, toU (s.st.gs.getD g Gr.zero).weight]).length) c72) rfl (by rw [hnA72])
   refine qa ?_
   refine fp HF 2 0 [(53, vI (IntKind.i64.wrap ((g : Int) + 1)))] fun a HF => ?_
   replace HF := HF.sp 53 (vI (g + 1 : Nat)) rfl (qc (by omega) (by omega))
   refine fp HF 1 2 [(7, vI (g + 1 : Nat))] fun a HF => ?_
   refine s_d0 ?_
   exact ⟨_, (by omega), g + 1, (q ++ [toU (s.st.gs.getD g Gr.zero).parent, toU (s.st.gs.getD g Gr.zero).weight]), A72, c72, by omega, by omega, by rw [show g + 1 - 1 = (g - 1) + 1 by omega, qq, ← hq, q1b hg1], by rw [List.length_append, show [toU (s.st.gs.getD g Gr.zero).parent, toU (s.st.gs.getD g Gr.zero).weight].length = 2 from rfl]; omega, hc72, rfl, HF.sub (by kernel_rfl), HM.pk [1, 2, 3]⟩
  have hd51 := of_decide_eq_false hb51
  refine s_cf HF (wp_exit (s_fs1 ?_))
  refine fp HF 2 0 [(4, .slice Ao q.length co)] fun a HF => ?_
  refine s_d0 (wp_ret ?_)
  exact s_rt1 rfl HF rfl (qah ((show _ = secN s 2 from by rw [hq, show g = s.st.gs.length by omega]; rfl).trans (Eq.symm ((of_no hb19).trans ((of_no hb27).trans (qe9 hb44))))) (HM.own (i := 1) rfl) hco HM.below)
 refine s_cf HF (s_fs1 ?_)
 refine fp HF 2 0 [(73, .bool ((nm).toList == ((ByteArray.mk #[99, 108, 111, 99, 107, 115])).toList))] fun a HF => ?_
 refine s_d0 ?_
 rcases HF.tf 73 rfl with ⟨hb73, HF⟩ | ⟨hb73, HF⟩
 ·
  refine s_ct HF (s_fs1 ?_)
  refine fp HF 1 0 [(8, vI 0)] fun a HF => ?_
  refine s_d0 (wp_block ?_)
  refine qi (fun mS aS wS => ∃ (k : Nat) (q : List Nat) (Ao : Option Addr) (co : Nat), (k ≤ s.st.cl.length) ∧ (q = (s.st.cl.take k).map toU) ∧ (q.length ≤ k) ∧ (q.length ≤ co) ∧ mS = s.st.cl.length - k ∧ Fr aS 223 [] [(8, vI k), (73, .bool true), (44, .bool false), (27, .bool false), (19, .bool false), (18, .string nm), (6, vP g6 0), (5, .slice Ao q.length co), (4, .slice none 0 0), (2, vP g2 0)] ∧ Mem w wS [.blk g6 s.st.cells 30, .row (.slice Ao q.length co) q.length (q.map U64) 22 1, .blk g2 s.cells 56]) (m := s.st.cl.length - 0) ⟨0, [], none, 0, Nat.zero_le _, rfl, Nat.le_refl _, Nat.le_refl _, rfl, HF.sub (by kernel_rfl), HM.pk [0, 1, 2]⟩ ?_
  clear HF HM; rintro mS a w_ ⟨k, q, Ao, co, hk, hq, hql, hco, rfl, HF, HM⟩
  refine wp_seq (s_fs1 ?_)
  refine fp HF 2 0 [(76, vP g6 3), (75, vI k)] fun a HF => ?_
  refine s_fz HF HM 2 rfl (v := .slice s.st.lA s.st.cl.length s.st.lc) (Yl.qd rfl rfl (by kernel_rfl) (fun _ h => h.cell (i := 0) rfl (rfl))) fun a HF => ?_
  refine s_fl HF 3 fun a HF => ?_
  refine fp HF 1 4 [(79, .bool (decide ((k : Int) < (s.st.cl.length : Int))))] fun a HF => ?_
  refine s_d0 ?_
  rcases HF.tf 79 rfl with ⟨hb79, HF⟩ | ⟨hb79, HF⟩
  ·
   have hd79 := of_decide_eq_true hb79
   refine s_ct HF (wp_skip (wp_seq (wp_block (qa ?_))))
   refine fp HF 2 0 [(83, vP g6 3), (82, .slice Ao q.length co)] fun a HF => ?_
   refine s_fz HF HM 2 rfl (v := .slice s.st.lA s.st.cl.length s.st.lc) (Yl.qd rfl rfl (by kernel_rfl) (fun _ h => h.cell (i := 0) rfl (rfl))) fun a HF => ?_
   refine fp HF 1 3 [(85, vI k)] fun a HF => ?_
   obtain ⟨gq2, oq2, hq2, _⟩ := Rd.qj hx.l (Nat.lt_of_le_of_lt (Nat.zero_le _) (show k < s.st.cl.length from by omega)) (by decide)
   have hrq2 := hx.l; rw [hq2] at hrq2
   replace HF := HF.sp 84 (.slice (some ⟨gq2, oq2, none⟩) s.st.cl.length s.st.lc) rfl (by rw [hq2]; try rfl)
   refine s_fz HF HM 4 rfl (v := vP gq2 (oq2 + k * 1)) (Yl.ix gq2 oq2 k 1 rfl rfl rfl) fun a HF => ?_
   refine s_fz HF HM 5 rfl (v := vI (s.st.cl.getD k 0)) (Yl.o1 hrq2 k 0 (by omega) rfl rfl) fun a HF => ?_
   refine fp HF 1 6 [(88, vQ (IntKind.u64.wrap (s.st.cl.getD k 0)))] fun a HF => ?_
   replace HF := HF.sp 88 (vQ (toU (s.st.cl.getD k 0))) rfl (zj _)
   refine fo HF 7 rfl rfl (s_el HF HM q2 [(0, vQ (toU (s.st.cl.getD k 0)))] #[vQ (toU (s.st.cl.getD k 0))] ?_)
   clear HF HM; intro a w89 g89 HF HM
   refine fo HF 8 rfl rfl (qo HF HM (i := 2) rfl q2 rfl rfl rfl (news := ([toU (s.st.cl.getD k 0)].map U64)) (HM.rdBlk (i := 0) (n := 1) (size := 1) rfl rfl) (qab _) (by omega) (by omega) rfl (by decide) ?_)
   clear HF HM; intro a w90 A90 c90 HF HM hc90
   refine fp HF 1 9 [(5, .slice A90 (q.length + 1) c90)] fun a HF => ?_
   refine s_d0 ?_
   have hnA90 : q.length + 1 = (q ++ [toU (s.st.cl.getD k 0)]).length := qs rfl
   replace HM := HM.reRow (i := 2) (ys := (q ++ [toU (s.st.cl.getD k 0)]).map U64) rfl hnA90 (List.map_append.symm)
   rw [hnA90] at hc90
   replace HF := HF.sp 5 (.slice A90 ((q ++ [toU (s.st.cl.getD k 0)]).length) c90) rfl (by rw [hnA90])
   replace HF := HF.sp 90 (.slice A90 ((q ++ [toU (s.st.cl.getD k 0)]).length) c90) rfl (by rw [hnA90])
   refine qa ?_
   refine fp HF 2 0 [(81, vI (IntKind.i64.wrap ((k : Int) + 1)))] fun a HF => ?_
   replace HF := HF.sp 81 (vI (k + 1 : Nat)) rfl (qc (by omega) (by omega))
   refine fp HF 1 2 [(8, vI (k + 1 : Nat))] fun a HF => ?_
   refine s_d0 ?_
   exact ⟨_, (by omega), k + 1, (q ++ [toU (s.st.cl.getD k 0)]), A90, c90, by omega, by rw [hq, qdt (by omega)], by rw [List.length_append, show [toU (s.st.cl.getD k 0)].length = 1 from rfl]; omega, hc90, rfl, HF.sub (by kernel_rfl), HM.pk [1, 2, 3]⟩
  have hd79 := of_decide_eq_false hb79
  refine s_cf HF (wp_exit (s_fs1 ?_))
  refine fp HF 2 0 [(4, .slice Ao q.length co)] fun a HF => ?_
  refine s_d0 (wp_ret ?_)
  exact s_rt1 rfl HF rfl (qah ((show _ = secN s 3 from by rw [hq, List.take_of_length_le (by omega)]; rfl).trans (Eq.symm ((of_no hb19).trans ((of_no hb27).trans ((of_no hb44).trans (qe9 hb73)))))) (HM.own (i := 1) rfl) hco HM.below)
 refine s_cf HF (s_fs1 ?_)
 refine fp HF 2 0 [(91, .bool ((nm).toList == ((ByteArray.mk #[99, 117, 114, 114, 101, 110, 116])).toList))] fun a HF => ?_
 refine s_d0 ?_
 rcases HF.tf 91 rfl with ⟨hb91, HF⟩ | ⟨hb91, HF⟩
 ·
  refine s_ct HF (s_fs1 ?_)
  refine fp HF 1 0 [(9, vI 0)] fun a HF => ?_
  refine s_d0 (wp_block ?_)
  refine qi (fun mS aS wS => ∃ (k : Nat) (q : List Nat) (Ao : Option Addr) (co : Nat), (k ≤ s.st.cu.length) ∧ (q = (s.st.cu.take k).map toU) ∧ (q.length ≤ k) ∧ (q.length ≤ co) ∧ mS = s.st.cu.length - k ∧ Fr aS 223 [] [(9, vI k), (91, .bool true), (73, .bool false), (44, .bool false), (27, .bool false), (19, .bool false), (18, .string nm), (6, vP g6 0), (5, .slice Ao q.length co), (4, .slice none 0 0), (2, vP g2 0)] ∧ Mem w wS [.blk g6 s.st.cells 30, .row (.slice Ao q.length co) q.length (q.map U64) 22 1, .blk g2 s.cells 56]) (m := s.st.cu.length - 0) ⟨0, [], none, 0, Nat.zero_le _, rfl, Nat.le_refl _, Nat.le_refl _, rfl, HF.sub (by kernel_rfl), HM.pk [0, 1, 2]⟩ ?_
  clear HF HM; rintro mS a w_ ⟨k, q, Ao, co, hk, hq, hql, hco, rfl, HF, HM⟩
  refine wp_seq (s_fs1 ?_)
  refine fp HF 2 0 [(94, vP g6 4), (93, vI k)] fun a HF => ?_
  refine s_fz HF HM 2 rfl (v := .slice s.st.uA s.st.cu.length s.st.uc) (Yl.qd rfl rfl (by kernel_rfl) (fun _ h => h.cell (i := 0) rfl (rfl))) fun a HF => ?_
  refine s_fl HF 3 fun a HF => ?_
  refine fp HF 1 4 [(97, .bool (decide ((k : Int) < (s.st.cu.length : Int))))] fun a HF => ?_
  refine s_d0 ?_
  rcases HF.tf 97 rfl with ⟨hb97, HF⟩ | ⟨hb97, HF⟩
  ·
   have hd97 := of_decide_eq_true hb97
   refine s_ct HF (wp_skip (wp_seq (wp_block (qa ?_))))
   refine fp HF 2 0 [(101, vP g6 4), (100, .slice Ao q.length co)] fun a HF => ?_
   refine s_fz HF HM 2 rfl (v := .slice s.st.uA s.st.cu.length s.st.uc) (Yl.qd rfl rfl (by kernel_rfl) (fun _ h => h.cell (i := 0) rfl (rfl))) fun a HF => ?_
   refine fp HF 1 3 [(103, vI k)] fun a HF => ?_
   obtain ⟨gq3, oq3, hq3, _⟩ := Rd.qj hx.u (Nat.lt_of_le_of_lt (Nat.zero_le _) (show k < s.st.cu.length from by omega)) (by decide)
   have hrq3 := hx.u; rw [hq3] at hrq3
   replace HF := HF.sp 102 (.slice (some ⟨gq3, oq3, none⟩) s.st.cu.length s.st.uc) rfl (by rw [hq3]; try rfl)
   refine s_fz HF HM 4 rfl (v := vP gq3 (oq3 + k * 1)) (Yl.ix gq3 oq3 k 1 rfl rfl rfl) fun a HF => ?_
   refine s_fz HF HM 5 rfl (v := vI (s.st.cu.getD k 0)) (Yl.o1 hrq3 k 0 (by omega) rfl rfl) fun a HF => ?_
   refine fp HF 1 6 [(106, vQ (IntKind.u64.wrap (s.st.cu.getD k 0)))] fun a HF => ?_
   replace HF := HF.sp 106 (vQ (toU (s.st.cu.getD k 0))) rfl (zj _)
   refine fo HF 7 rfl rfl (s_el HF HM q2 [(0, vQ (toU (s.st.cu.getD k 0)))] #[vQ (toU (s.st.cu.getD k 0))] ?_)
   clear HF HM; intro a w107 g107 HF HM
   refine fo HF 8 rfl rfl (qo HF HM (i := 2) rfl q2 rfl rfl rfl (news := ([toU (s.st.cu.getD k 0)].map U64)) (HM.rdBlk (i := 0) (n := 1) (size := 1) rfl rfl) (qab _) (by omega) (by omega) rfl (by decide) ?_)
   clear HF HM; intro a w108 A108 c108 HF HM hc108
   refine fp HF 1 9 [(5, .slice A108 (q.length + 1) c108)] fun a HF => ?_
   refine s_d0 ?_
   have hnA108 : q.length + 1 = (q ++ [toU (s.st.cu.getD k 0)]).length := qs rfl
   replace HM := HM.reRow (i := 2) (ys := (q ++ [toU (s.st.cu.getD k 0)]).map U64) rfl hnA108 (List.map_append.symm)
   rw [hnA108] at hc108
   replace HF := HF.sp 5 (.slice A108 ((q ++ [toU (s.st.cu.getD k 0)]).length) c108) rfl (by rw [hnA108])
   replace HF := HF.sp 108 (.slice A108 ((q ++ [toU (s.st.cu.getD k 0)]).length) c108) rfl (by rw [hnA108])
   refine qa ?_
   refine fp HF 2 0 [(99, vI (IntKind.i64.wrap ((k : Int) + 1)))] fun a HF => ?_
   replace HF := HF.sp 99 (vI (k + 1 : Nat)) rfl (qc (by omega) (by omega))
   refine fp HF 1 2 [(9, vI (k + 1 : Nat))] fun a HF => ?_
   refine s_d0 ?_
   exact ⟨_, (by omega), k + 1, (q ++ [toU (s.st.cu.getD k 0)]), A108, c108, by omega, by rw [hq, qdt (by omega)], by rw [List.length_append, show [toU (s.st.cu.getD k 0)].length = 1 from rfl]; omega, hc108, rfl, HF.sub (by kernel_rfl), HM.pk [1, 2, 3]⟩
  have hd97 := of_decide_eq_false hb97
  refine s_cf HF (wp_exit (s_fs1 ?_))
  refine fp HF 2 0 [(4, .slice Ao q.length co)] fun a HF => ?_
  refine s_d0 (wp_ret ?_)
  exact s_rt1 rfl HF rfl (qah ((show _ = secN s 4 from by rw [hq, List.take_of_length_le (by omega)]; rfl).trans (Eq.symm ((of_no hb19).trans ((of_no hb27).trans ((of_no hb44).trans ((of_no hb73).trans (qe9 hb91))))))) (HM.own (i := 1) rfl) hco HM.below)
 refine s_cf HF (s_fs1 ?_)
 refine fp HF 2 0 [(109, .bool ((nm).toList == ((ByteArray.mk #[116, 97, 115, 107, 115])).toList))] fun a HF => ?_
 refine s_d0 ?_
 rcases HF.tf 109 rfl with ⟨hb109, HF⟩ | ⟨hb109, HF⟩
 ·
  refine s_ct HF (s_fs1 ?_)
  refine fp HF 2 0 [(112, vP g6 5), (111, .slice none 0 0)] fun a HF => ?_
  refine s_fz HF HM 2 rfl (v := .slice s.st.tA s.st.ts.length s.st.tc) (Yl.qd rfl rfl (by kernel_rfl) (fun _ h => h.cell (i := 0) rfl (rfl))) fun a HF => ?_
  refine s_fl HF 3 fun a HF => ?_
  refine fp HF 1 4 [(115, vQ (IntKind.u64.wrap (s.st.ts.length : Int)))] fun a HF => ?_
  replace HF := HF.sp 115 (vQ s.st.ts.length) rfl (qbn rfl (by omega))
  refine fo HF 5 rfl rfl (s_el HF HM q2 [(0, vQ s.st.ts.length)] #[vQ s.st.ts.length] ?_)
  clear HF HM; intro a w116 g116 HF HM
  refine fo HF 6 rfl rfl (qo HF HM (i := 2) rfl q2 rfl rfl rfl (news := ([s.st.ts.length].map U64)) (HM.rdBlk (i := 0) (n := 1) (size := 1) rfl rfl) (qab _) (by omega) (by omega) rfl (by decide) ?_)
  clear HF HM; intro a w117 A117 c117 HF HM hc117
  refine fp HF 1 7 [(5, .slice A117 (0 + 1) c117)] fun a HF => ?_
  refine s_d0 ?_
  have hnA117 : 0 + 1 = [s.st.ts.length].length := rfl
  replace HM := HM.reRow (i := 2) (ys := [s.st.ts.length].map U64) rfl hnA117 (rfl)
  rw [hnA117] at hc117
  replace HF := HF.sp 5 (.slice A117 ([s.st.ts.length].length) c117) rfl (by rw [hnA117])
  replace HF := HF.sp 117 (.slice A117 ([s.st.ts.length].length) c117) rfl (by rw [hnA117])
  refine s_fs1 ?_
  refine fp HF 1 0 [(10, vI 0)] fun a HF => ?_
  refine s_d0 (wp_block ?_)
  refine qi (fun mS aS wS => ∃ (i : Nat) (q : List Nat) (Ao : Option Addr) (co : Nat), (i ≤ s.st.ts.length) ∧ (0 ≤ qr s.st.ts i ∧ qr s.st.ts i ≤ 65535) ∧ (q = [s.st.ts.length] ++ upF i fun i => tkN (qr s.st.ts i) (s.st.ts.getD i Tk.zero)) ∧ (q.length ≤ 8 * i + 1) ∧ (q.length ≤ co) ∧ mS = s.st.ts.length - i ∧ Fr aS 223 [] [(10, vI i), (117, .slice A117 ([s.st.ts.length].length) c117), (5, .slice Ao q.length co), (109, .bool true), (91, .bool false), (73, .bool false), (44, .bool false), (27, .bool false), (19, .bool false), (18, .string nm), (6, vP g6 0), (4, .slice none 0 0), (2, vP g2 0)] ∧ Mem w wS [.blk g116 #[vQ s.st.ts.length] 22, .blk g6 s.st.cells 30, .row (.slice Ao q.length co) q.length (q.map U64) 22 1, .blk g2 s.cells 56]) (m := s.st.ts.length - 0) ⟨0, [s.st.ts.length], A117, c117, Nat.zero_le _, by rw [qls]; decide, by rw [qcr, List.append_nil], Nat.le_refl _, hc117, rfl, HF.sub (by kernel_rfl), HM.pk [0, 1, 2, 3]⟩ ?_
  clear HF HM; rintro mS a w_ ⟨i, q, Ao, co, hi, hp, hq, hql, hco, rfl, HF, HM⟩
  refine wp_seq (s_fs1 ?_)
  refine fp HF 2 0 [(119, vP g6 5), (118, vI i)] fun a HF => ?_
  refine s_fz HF HM 2 rfl (v := .slice s.st.tA s.st.ts.length s.st.tc) (Yl.qd rfl rfl (by kernel_rfl) (fun _ h => h.cell (i := 1) rfl (rfl))) fun a HF => ?_
  refine s_fl HF 3 fun a HF => ?_
  refine fp HF 1 4 [(122, .bool (decide ((i : Int) < (s.st.ts.length : Int))))] fun a HF => ?_
  refine s_d0 ?_
  rcases HF.tf 122 rfl with ⟨hb122, HF⟩ | ⟨hb122, HF⟩
  ·
   have hd122 := of_decide_eq_true hb122
   have hi122 : i < s.st.ts.length := by omega
   obtain ⟨t, ht⟩ : ∃ z, (s.st.ts.getD i Tk.zero) = z := ⟨_, rfl⟩
   have htid := tk_id (hsh.tk i hi122)
   rw [ht] at htid
   have hto := hok.ts _ (qu Tk.zero hi122)
   replace hto : Tk.Ok t := by rw [← ht]; exact hto
   have htr := hto.r
   refine s_ct HF (wp_skip (wp_seq (wp_block (s_fs1 ?_))))
   refine fp HF 1 0 [(125, vP g6 5)] fun a HF => ?_
   refine s_fz HF HM 1 rfl (v := .slice s.st.tA s.st.ts.length s.st.tc) (Yl.qd rfl rfl (by kernel_rfl) (fun _ h => h.cell (i := 1) rfl (rfl))) fun a HF => ?_
   refine fp HF 1 2 [(127, vI i)] fun a HF => ?_
   obtain ⟨gq4, oq4, hq4, _⟩ := Rd.qj hx.t (Nat.lt_of_le_of_lt (Nat.zero_le _) (show i < s.st.ts.length from by omega)) (by decide)
   have hrq4 := hx.t; rw [hq4] at hrq4
   replace HF := HF.sp 126 (.slice (some ⟨gq4, oq4, none⟩) s.st.ts.length s.st.tc) rfl (by rw [hq4]; try rfl)
   refine s_fz HF HM 3 rfl (v := vP gq4 (oq4 + i * 8)) (Yl.ix gq4 oq4 i 8 rfl rfl rfl) fun a HF => ?_
   refine s_fz HF HM 4 rfl (v := .agg ((s.st.ts.getD i Tk.zero).cells)) (Yl.qt rfl rfl si_tk rfl (fun _ h => (h.old hrq4).q9 zw ((getD_at Tk.zero hi122)))) fun a HF => ?_
   replace HF := HF.sp 129 (.agg t.cells) rfl (by rw [ht])
   refine fo HF 5 rfl rfl (s_ea HF HM #[vI 0, vI 0, vI 0, vI 0, vQ 0, .bool false, vQ 0, vW 0] ?_)
   clear HF HM; intro a w11 g11 HF HM
   refine fo HF 6 rfl rfl (e_sa HF HM 0 rfl rfl rfl rfl rfl si_tk rfl rfl (qjz t) ?_)
   clear HM; intro w28_6 HM
   refine s_d0 (s_fs1 ?_)
   refine fp HF 1 0 [(130, vP g11 0)] fun a HF => ?_
   refine s_fz HF HM 1 rfl (v := vI t.id) (Yl.qd rfl rfl (by kernel_rfl) (fun _ h => h.cell (i := 0) rfl (rfl))) fun a HF => ?_
   refine fp HF 1 2 [(12, vI t.id)] fun a HF => ?_
   refine s_d0 (wp_seq (s_fs1 ?_))
   refine fp HF 2 0 [(133, .bool (decide ((i : Int) > (0 : Int))))] fun a HF => ?_
   refine s_d0 ?_
   rcases HF.tf 133 rfl with ⟨hb133, HF⟩ | ⟨hb133, HF⟩
   ·
    have hd133 := of_decide_eq_true hb133
    have hpp := qpc (l := s.st.ts) (show 0 < i by omega)
    refine s_ct HF (qa ?_)
    refine fp HF 2 0 [(135, vP g6 5), (134, vI t.id)] fun a HF => ?_
    refine s_fz HF HM 2 rfl (v := .slice s.st.tA s.st.ts.length s.st.tc) (Yl.qd rfl rfl (by kernel_rfl) (fun _ h => h.cell (i := 2) rfl (rfl))) fun a HF => ?_
    refine fp HF 2 3 [(138, vI (IntKind.i64.wrap ((i : Int) - 1)))] fun a HF => ?_
    replace HF := HF.sp 138 (vI (i - 1 : Nat)) rfl (qc (by omega) (by omega))
    replace HF := HF.sp 136 (.slice (some ⟨gq4, oq4, none⟩) s.st.ts.length s.st.tc) rfl (by rw [hq4]; try rfl)
    refine s_fz HF HM 5 rfl (v := vP gq4 (oq4 + (i - 1) * 8)) (Yl.ix gq4 oq4 (i - 1) 8 rfl rfl rfl) fun a HF => ?_
    refine fp HF 1 6 [(140, vP gq4 (oq4 + (i - 1) * 8))] fun a HF => ?_
    refine s_fz HF HM 7 rfl (v := vI ((s.st.ts.getD (i - 1) Tk.zero).id)) (Yl.qd rfl rfl (by kernel_rfl) (fun _ h => (by have := (h.old hrq4).partAt zw (k := (i - 1)) (j := 0) (x := (s.st.ts.getD (i - 1) Tk.zero)) ((getD_at Tk.zero (by omega))) rfl; simpa using this))) fun a HF => ?_
    refine fp HF 1 8 [(142, vI (IntKind.i64.wrap (t.id - ((s.st.ts.getD (i - 1) Tk.zero).id))))] fun a HF => ?_
    replace HF := HF.sp 142 (vI (t.id - qr s.st.ts i)) rfl (by rw [hpp]; exact qqj ⟨by omega, by omega⟩)
    refine fp HF 1 9 [(12, vI (t.id - qr s.st.ts i))] fun a HF => ?_
    refine s_d0 (s_fs1 ?_)
    refine fp HF 1 0 [(13, vQ 0)] fun a HF => ?_
    refine s_d0 (wp_seq (s_fs1 ?_))
    refine fp HF 1 0 [(143, vP g11 5)] fun a HF => ?_
    refine s_fz HF HM 1 rfl (v := .bool t.ready) (Yl.qd rfl rfl (by kernel_rfl) (fun _ h => h.cell (i := 0) rfl (rfl))) fun a HF => ?_
    refine s_d0 ?_
    rcases HF.tf 144 rfl with ⟨hb144, HF⟩ | ⟨hb144, HF⟩
    ·
     refine s_ct HF (qa ?_)
     refine fp HF 1 0 [(13, vQ 1)] fun a HF => ?_
     refine s_d0 (qa ?_)
     refine fp HF 3 0 [(147, vQ (IntKind.u64.wrap (t.id - qr s.st.ts i))), (145, .slice Ao q.length co)] fun a HF => ?_
     replace HF := HF.sp 147 (vQ (toU (t.id - qr s.st.ts i))) rfl (zj _)
     refine fp HF 1 3 [(148, vP g11 1)] fun a HF => ?_
     refine s_fz HF HM 4 rfl (v := vI t.group) (Yl.qd rfl rfl (by kernel_rfl) (fun _ h => h.cell (i := 0) rfl (rfl))) fun a HF => ?_
     refine fp HF 1 5 [(150, vQ (IntKind.u64.wrap t.group))] fun a HF => ?_
     replace HF := HF.sp 150 (vQ (toU t.group)) rfl (zj _)
     refine fp HF 1 6 [(151, vP g11 2)] fun a HF => ?_
     refine s_fz HF HM 7 rfl (v := vI t.weight) (Yl.qd rfl rfl (by kernel_rfl) (fun _ h => h.cell (i := 0) rfl (rfl))) fun a HF => ?_
     refine fp HF 1 8 [(153, vQ (IntKind.u64.wrap t.weight))] fun a HF => ?_
     replace HF := HF.sp 153 (vQ (toU t.weight)) rfl (zj _)
     refine fp HF 1 9 [(154, vP g11 3)] fun a HF => ?_
     refine s_fz HF HM 10 rfl (v := vI t.cpu) (Yl.qd rfl rfl (by kernel_rfl) (fun _ h => h.cell (i := 0) rfl (rfl))) fun a HF => ?_
     refine fp HF 1 11 [(156, vQ (IntKind.u64.wrap t.cpu))] fun a HF => ?_
     replace HF := HF.sp 156 (vQ (toU t.cpu)) rfl (zj _)
     refine fp HF 1 12 [(157, vP g11 4)] fun a HF => ?_
     refine s_fz HF HM 13 rfl (v := vQ t.mask) (Yl.qd rfl rfl (by kernel_rfl) (fun _ h => h.cell (i := 0) rfl (rfl))) fun a HF => ?_
     refine fp HF 2 14 [(160, vP g11 6), (159, vQ 1)] fun a HF => ?_
     refine s_fz HF HM 16 rfl (v := vQ t.v) (Yl.qd rfl rfl (by kernel_rfl) (fun _ h => h.cell (i := 0) rfl (rfl))) fun a HF => ?_
     refine fp HF 1 17 [(162, vP g11 7)] fun a HF => ?_
     refine s_fz HF HM 18 rfl (v := vW t.r) (Yl.qd rfl rfl (by kernel_rfl) (fun _ h => h.cell (i := 0) rfl (rfl))) fun a HF => ?_
     refine fp HF 1 19 [(164, vQ (IntKind.u64.wrap (t.r : Int)))] fun a HF => ?_
     replace HF := HF.sp 164 (vQ t.r) rfl (qbn rfl (by omega))
     refine fo HF 20 rfl rfl (s_el HF HM q2 [(0, vQ (toU (t.id - qr s.st.ts i))), (1, vQ (toU t.group)), (2, vQ (toU t.weight)), (3, vQ (toU t.cpu)), (4, vQ t.mask), (5, vQ 1), (6, vQ t.v), (7, vQ t.r)] #[vQ (toU (t.id - qr s.st.ts i)), vQ (toU t.group), vQ (toU t.weight), vQ (toU t.cpu), vQ t.mask, vQ 1, vQ t.v, vQ t.r] ?_)
     clear HF HM; intro a w165 g165 HF HM
     refine fo HF 21 rfl rfl (qo HF HM (i := 4) rfl q2 rfl rfl rfl (news := ([toU (t.id - qr s.st.ts i), toU t.group, toU t.weight, toU t.cpu, t.mask, 1, t.v, t.r].map U64)) (HM.rdBlk (i := 0) (n := 8) (size := 1) rfl rfl) (qab _) (by omega) (by omega) rfl (by decide) ?_)
     clear HF HM; intro a w166 A166 c166 HF HM hc166
     refine fp HF 1 22 [(5, .slice A166 (q.length + 8) c166)] fun a HF => ?_
     refine s_d0 ?_
     replace HF := HF.to [(5, .slice A166 (q.length + 8) c166), (13, vQ 1), (144, .bool true), (12, vI (t.id - qr s.st.ts i)), (133, .bool true), (11, vP g11 0), (122, .bool true), (10, vI i), (117, .slice A117 ([s.st.ts.length].length) c117), (109, .bool true), (91, .bool false), (73, .bool false), (44, .bool false), (27, .bool false), (19, .bool false), (18, .string nm), (6, vP g6 0), (4, .slice none 0 0), (2, vP g2 0)]
     have hnA166 : q.length + 8 = (q ++ [toU (t.id - qr s.st.ts i), toU t.group, toU t.weight, toU t.cpu, t.mask, 1, t.v, t.r]).length := qs rfl
     replace HM := HM.reRow (i := 4) (ys := (q ++ [toU (t.id - qr s.st.ts i), toU t.group, toU t.weight, toU t.cpu, t.mask, 1, t.v, t.r]).map U64) rfl hnA166 (List.map_append.symm)
     rw [hnA166] at hc166
     replace HF := HF.sp 5 (.slice A166 ((q ++ [toU (t.id - qr s.st.ts i), toU t.group, toU t.weight, toU t.cpu, t.mask, 1, t.v, t.r]).length) c166) rfl (by rw [hnA166])
     refine qa ?_
     refine fp HF 2 0 [(124, vI (IntKind.i64.wrap ((i : Int) + 1)))] fun a HF => ?_
     replace HF := HF.sp 124 (vI (i + 1 : Nat)) rfl (qc (by omega) (by omega))
     refine fp HF 1 2 [(10, vI (i + 1 : Nat))] fun a HF => ?_
     refine s_d0 ?_
     exact ⟨_, (by omega), i + 1, (q ++ [toU (t.id - qr s.st.ts i), toU t.group, toU t.weight, toU t.cpu, t.mask, 1, t.v, t.r]), A166, c166, by omega, by rw [qac, ht]; omega, by rw [hq, qq, ht, List.append_assoc]; unfold tkN; rw [hb144]; rfl, by rw [List.length_append, show [toU (t.id - qr s.st.ts i), toU t.group, toU t.weight, toU t.cpu, t.mask, 1, t.v, t.r].length = 8 from rfl]; omega, hc166, rfl, HF.sub (by kernel_rfl), HM.pk [2, 3, 4, 5]⟩
    refine s_cf HF (wp_skip (qa ?_))
    refine fp HF 3 0 [(147, vQ (IntKind.u64.wrap (t.id - qr s.st.ts i))), (145, .slice Ao q.length co)] fun a HF => ?_
    replace HF := HF.sp 147 (vQ (toU (t.id - qr s.st.ts i))) rfl (zj _)
    refine fp HF 1 3 [(148, vP g11 1)] fun a HF => ?_
    refine s_fz HF HM 4 rfl (v := vI t.group) (Yl.qd rfl rfl (by kernel_rfl) (fun _ h => h.cell (i := 0) rfl (rfl))) fun a HF => ?_
    refine fp HF 1 5 [(150, vQ (IntKind.u64.wrap t.group))] fun a HF => ?_
    replace HF := HF.sp 150 (vQ (toU t.group)) rfl (zj _)
    refine fp HF 1 6 [(151, vP g11 2)] fun a HF => ?_
    refine s_fz HF HM 7 rfl (v := vI t.weight) (Yl.qd rfl rfl (by kernel_rfl) (fun _ h => h.cell (i := 0) rfl (rfl))) fun a HF => ?_
    refine fp HF 1 8 [(153, vQ (IntKind.u64.wrap t.weight))] fun a HF => ?_
    replace HF := HF.sp 153 (vQ (toU t.weight)) rfl (zj _)
    refine fp HF 1 9 [(154, vP g11 3)] fun a HF => ?_
    refine s_fz HF HM 10 rfl (v := vI t.cpu) (Yl.qd rfl rfl (by kernel_rfl) (fun _ h => h.cell (i := 0) rfl (rfl))) fun a HF => ?_
    refine fp HF 1 11 [(156, vQ (IntKind.u64.wrap t.cpu))] fun a HF => ?_
    replace HF := HF.sp 156 (vQ (toU t.cpu)) rfl (zj _)
    refine fp HF 1 12 [(157, vP g11 4)] fun a HF => ?_
    refine s_fz HF HM 13 rfl (v := vQ t.mask) (Yl.qd rfl rfl (by kernel_rfl) (fun _ h => h.cell (i := 0) rfl (rfl))) fun a HF => ?_
    refine fp HF 2 14 [(160, vP g11 6), (159, vQ 0)] fun a HF => ?_
    refine s_fz HF HM 16 rfl (v := vQ t.v) (Yl.qd rfl rfl (by kernel_rfl) (fun _ h => h.cell (i := 0) rfl (rfl))) fun a HF => ?_
    refine fp HF 1 17 [(162, vP g11 7)] fun a HF => ?_
    refine s_fz HF HM 18 rfl (v := vW t.r) (Yl.qd rfl rfl (by kernel_rfl) (fun _ h => h.cell (i := 0) rfl (rfl))) fun a HF => ?_
    refine fp HF 1 19 [(164, vQ (IntKind.u64.wrap (t.r : Int)))] fun a HF => ?_
    replace HF := HF.sp 164 (vQ t.r) rfl (qbn rfl (by omega))
    refine fo HF 20 rfl rfl (s_el HF HM q2 [(0, vQ (toU (t.id - qr s.st.ts i))), (1, vQ (toU t.group)), (2, vQ (toU t.weight)), (3, vQ (toU t.cpu)), (4, vQ t.mask), (5, vQ 0), (6, vQ t.v), (7, vQ t.r)] #[vQ (toU (t.id - qr s.st.ts i)), vQ (toU t.group), vQ (toU t.weight), vQ (toU t.cpu), vQ t.mask, vQ 0, vQ t.v, vQ t.r] ?_)
    clear HF HM; intro a w165 g165 HF HM
    refine fo HF 21 rfl rfl (qo HF HM (i := 4) rfl q2 rfl rfl rfl (news := ([toU (t.id - qr s.st.ts i), toU t.group, toU t.weight, toU t.cpu, t.mask, 0, t.v, t.r].map U64)) (HM.rdBlk (i := 0) (n := 8) (size := 1) rfl rfl) (qab _) (by omega) (by omega) rfl (by decide) ?_)
    clear HF HM; intro a w166 A166 c166 HF HM hc166
    refine fp HF 1 22 [(5, .slice A166 (q.length + 8) c166)] fun a HF => ?_
    refine s_d0 ?_
    replace HF := HF.to [(5, .slice A166 (q.length + 8) c166), (144, .bool false), (13, vQ 0), (12, vI (t.id - qr s.st.ts i)), (133, .bool true), (11, vP g11 0), (122, .bool true), (10, vI i), (117, .slice A117 ([s.st.ts.length].length) c117), (109, .bool true), (91, .bool false), (73, .bool false), (44, .bool false), (27, .bool false), (19, .bool false), (18, .string nm), (6, vP g6 0), (4, .slice none 0 0), (2, vP g2 0)]
    have hnA166 : q.length + 8 = (q ++ [toU (t.id - qr s.st.ts i), toU t.group, toU t.weight, toU t.cpu, t.mask, 0, t.v, t.r]).length := qs rfl
    replace HM := HM.reRow (i := 4) (ys := (q ++ [toU (t.id - qr s.st.ts i), toU t.group, toU t.weight, toU t.cpu, t.mask, 0, t.v, t.r]).map U64) rfl hnA166 (List.map_append.symm)
    rw [hnA166] at hc166
    replace HF := HF.sp 5 (.slice A166 ((q ++ [toU (t.id - qr s.st.ts i), toU t.group, toU t.weight, toU t.cpu, t.mask, 0, t.v, t.r]).length) c166) rfl (by rw [hnA166])
    refine qa ?_
    refine fp HF 2 0 [(124, vI (IntKind.i64.wrap ((i : Int) + 1)))] fun a HF => ?_
    replace HF := HF.sp 124 (vI (i + 1 : Nat)) rfl (qc (by omega) (by omega))
    refine fp HF 1 2 [(10, vI (i + 1 : Nat))] fun a HF => ?_
    refine s_d0 ?_
    exact ⟨_, (by omega), i + 1, (q ++ [toU (t.id - qr s.st.ts i), toU t.group, toU t.weight, toU t.cpu, t.mask, 0, t.v, t.r]), A166, c166, by omega, by rw [qac, ht]; omega, by rw [hq, qq, ht, List.append_assoc]; unfold tkN; rw [hb144]; rfl, by rw [List.length_append, show [toU (t.id - qr s.st.ts i), toU t.group, toU t.weight, toU t.cpu, t.mask, 0, t.v, t.r].length = 8 from rfl]; omega, hc166, rfl, HF.sub (by kernel_rfl), HM.pk [2, 3, 4, 5]⟩
   have hd133 := of_decide_eq_false hb133
   replace HF := HF.sp 12 (vI (t.id - qr s.st.ts i)) rfl (by rw [qs1 (by omega), Int.sub_zero])
   refine s_cf HF (wp_skip (s_fs1 ?_))
   refine fp HF 1 0 [(13, vQ 0)] fun a HF => ?_
   refine s_d0 (wp_seq (s_fs1 ?_))
   refine fp HF 1 0 [(143, vP g11 5)] fun a HF => ?_
   refine s_fz HF HM 1 rfl (v := .bool t.ready) (Yl.qd rfl rfl (by kernel_rfl) (fun _ h => h.cell (i := 0) rfl (rfl))) fun a HF => ?_
   refine s_d0 ?_
   rcases HF.tf 144 rfl with ⟨hb144, HF⟩ | ⟨hb144, HF⟩
   ·
    refine s_ct HF (qa ?_)
    refine fp HF 1 0 [(13, vQ 1)] fun a HF => ?_
    refine s_d0 (qa ?_)
    refine fp HF 3 0 [(147, vQ (IntKind.u64.wrap (t.id - qr s.st.ts i))), (145, .slice Ao q.length co)] fun a HF => ?_
    replace HF := HF.sp 147 (vQ (toU (t.id - qr s.st.ts i))) rfl (zj _)
    refine fp HF 1 3 [(148, vP g11 1)] fun a HF => ?_
    refine s_fz HF HM 4 rfl (v := vI t.group) (Yl.qd rfl rfl (by kernel_rfl) (fun _ h => h.cell (i := 0) rfl (rfl))) fun a HF => ?_
    refine fp HF 1 5 [(150, vQ (IntKind.u64.wrap t.group))] fun a HF => ?_
    replace HF := HF.sp 150 (vQ (toU t.group)) rfl (zj _)
    refine fp HF 1 6 [(151, vP g11 2)] fun a HF => ?_
    refine s_fz HF HM 7 rfl (v := vI t.weight) (Yl.qd rfl rfl (by kernel_rfl) (fun _ h => h.cell (i := 0) rfl (rfl))) fun a HF => ?_
    refine fp HF 1 8 [(153, vQ (IntKind.u64.wrap t.weight))] fun a HF => ?_
    replace HF := HF.sp 153 (vQ (toU t.weight)) rfl (zj _)
    refine fp HF 1 9 [(154, vP g11 3)] fun a HF => ?_
    refine s_fz HF HM 10 rfl (v := vI t.cpu) (Yl.qd rfl rfl (by kernel_rfl) (fun _ h => h.cell (i := 0) rfl (rfl))) fun a HF => ?_
    refine fp HF 1 11 [(156, vQ (IntKind.u64.wrap t.cpu))] fun a HF => ?_
    replace HF := HF.sp 156 (vQ (toU t.cpu)) rfl (zj _)
    refine fp HF 1 12 [(157, vP g11 4)] fun a HF => ?_
    refine s_fz HF HM 13 rfl (v := vQ t.mask) (Yl.qd rfl rfl (by kernel_rfl) (fun _ h => h.cell (i := 0) rfl (rfl))) fun a HF => ?_
    refine fp HF 2 14 [(160, vP g11 6), (159, vQ 1)] fun a HF => ?_
    refine s_fz HF HM 16 rfl (v := vQ t.v) (Yl.qd rfl rfl (by kernel_rfl) (fun _ h => h.cell (i := 0) rfl (rfl))) fun a HF => ?_
    refine fp HF 1 17 [(162, vP g11 7)] fun a HF => ?_
    refine s_fz HF HM 18 rfl (v := vW t.r) (Yl.qd rfl rfl (by kernel_rfl) (fun _ h => h.cell (i := 0) rfl (rfl))) fun a HF => ?_
    refine fp HF 1 19 [(164, vQ (IntKind.u64.wrap (t.r : Int)))] fun a HF => ?_
    replace HF := HF.sp 164 (vQ t.r) rfl (qbn rfl (by omega))
    refine fo HF 20 rfl rfl (s_el HF HM q2 [(0, vQ (toU (t.id - qr s.st.ts i))), (1, vQ (toU t.group)), (2, vQ (toU t.weight)), (3, vQ (toU t.cpu)), (4, vQ t.mask), (5, vQ 1), (6, vQ t.v), (7, vQ t.r)] #[vQ (toU (t.id - qr s.st.ts i)), vQ (toU t.group), vQ (toU t.weight), vQ (toU t.cpu), vQ t.mask, vQ 1, vQ t.v, vQ t.r] ?_)
    clear HF HM; intro a w165 g165 HF HM
    refine fo HF 21 rfl rfl (qo HF HM (i := 4) rfl q2 rfl rfl rfl (news := ([toU (t.id - qr s.st.ts i), toU t.group, toU t.weight, toU t.cpu, t.mask, 1, t.v, t.r].map U64)) (HM.rdBlk (i := 0) (n := 8) (size := 1) rfl rfl) (qab _) (by omega) (by omega) rfl (by decide) ?_)
    clear HF HM; intro a w166 A166 c166 HF HM hc166
    refine fp HF 1 22 [(5, .slice A166 (q.length + 8) c166)] fun a HF => ?_
    refine s_d0 ?_
    replace HF := HF.to [(5, .slice A166 (q.length + 8) c166), (13, vQ 1), (144, .bool true), (12, vI (t.id - qr s.st.ts i)), (133, .bool false), (11, vP g11 0), (122, .bool true), (10, vI i), (117, .slice A117 ([s.st.ts.length].length) c117), (109, .bool true), (91, .bool false), (73, .bool false), (44, .bool false), (27, .bool false), (19, .bool false), (18, .string nm), (6, vP g6 0), (4, .slice none 0 0), (2, vP g2 0)]
    have hnA166 : q.length + 8 = (q ++ [toU (t.id - qr s.st.ts i), toU t.group, toU t.weight, toU t.cpu, t.mask, 1, t.v, t.r]).length := qs rfl
    replace HM := HM.reRow (i := 4) (ys := (q ++ [toU (t.id - qr s.st.ts i), toU t.group, toU t.weight, toU t.cpu, t.mask, 1, t.v, t.r]).map U64) rfl hnA166 (List.map_append.symm)
    rw [hnA166] at hc166
    replace HF := HF.sp 5 (.slice A166 ((q ++ [toU (t.id - qr s.st.ts i), toU t.group, toU t.weight, toU t.cpu, t.mask, 1, t.v, t.r]).length) c166) rfl (by rw [hnA166])
    refine qa ?_
    refine fp HF 2 0 [(124, vI (IntKind.i64.wrap ((i : Int) + 1)))] fun a HF => ?_
    replace HF := HF.sp 124 (vI (i + 1 : Nat)) rfl (qc (by omega) (by omega))
    refine fp HF 1 2 [(10, vI (i + 1 : Nat))] fun a HF => ?_
    refine s_d0 ?_
    exact ⟨_, (by omega), i + 1, (q ++ [toU (t.id - qr s.st.ts i), toU t.group, toU t.weight, toU t.cpu, t.mask, 1, t.v, t.r]), A166, c166, by omega, by rw [qac, ht]; omega, by rw [hq, qq, ht, List.append_assoc]; unfold tkN; rw [hb144]; rfl, by rw [List.length_append, show [toU (t.id - qr s.st.ts i), toU t.group, toU t.weight, toU t.cpu, t.mask, 1, t.v, t.r].length = 8 from rfl]; omega, hc166, rfl, HF.sub (by kernel_rfl), HM.pk [2, 3, 4, 5]⟩
   refine s_cf HF (wp_skip (qa ?_))
   refine fp HF 3 0 [(147, vQ (IntKind.u64.wrap (t.id - qr s.st.ts i))), (145, .slice Ao q.length co)] fun a HF => ?_
   replace HF := HF.sp 147 (vQ (toU (t.id - qr s.st.ts i))) rfl (zj _)
   refine fp HF 1 3 [(148, vP g11 1)] fun a HF => ?_
   refine s_fz HF HM 4 rfl (v := vI t.group) (Yl.qd rfl rfl (by kernel_rfl) (fun _ h => h.cell (i := 0) rfl (rfl))) fun a HF => ?_
   refine fp HF 1 5 [(150, vQ (IntKind.u64.wrap t.group))] fun a HF => ?_
   replace HF := HF.sp 150 (vQ (toU t.group)) rfl (zj _)
   refine fp HF 1 6 [(151, vP g11 2)] fun a HF => ?_
   refine s_fz HF HM 7 rfl (v := vI t.weight) (Yl.qd rfl rfl (by kernel_rfl) (fun _ h => h.cell (i := 0) rfl (rfl))) fun a HF => ?_
   refine fp HF 1 8 [(153, vQ (IntKind.u64.wrap t.weight))] fun a HF => ?_
   replace HF := HF.sp 153 (vQ (toU t.weight)) rfl (zj _)
   refine fp HF 1 9 [(154, vP g11 3)] fun a HF => ?_
   refine s_fz HF HM 10 rfl (v := vI t.cpu) (Yl.qd rfl rfl (by kernel_rfl) (fun _ h => h.cell (i := 0) rfl (rfl))) fun a HF => ?_
   refine fp HF 1 11 [(156, vQ (IntKind.u64.wrap t.cpu))] fun a HF => ?_
   replace HF := HF.sp 156 (vQ (toU t.cpu)) rfl (zj _)
   refine fp HF 1 12 [(157, vP g11 4)] fun a HF => ?_
   refine s_fz HF HM 13 rfl (v := vQ t.mask) (Yl.qd rfl rfl (by kernel_rfl) (fun _ h => h.cell (i := 0) rfl (rfl))) fun a HF => ?_
   refine fp HF 2 14 [(160, vP g11 6), (159, vQ 0)] fun a HF => ?_
   refine s_fz HF HM 16 rfl (v := vQ t.v) (Yl.qd rfl rfl (by kernel_rfl) (fun _ h => h.cell (i := 0) rfl (rfl))) fun a HF => ?_
   refine fp HF 1 17 [(162, vP g11 7)] fun a HF => ?_
   refine s_fz HF HM 18 rfl (v := vW t.r) (Yl.qd rfl rfl (by kernel_rfl) (fun _ h => h.cell (i := 0) rfl (rfl))) fun a HF => ?_
   refine fp HF 1 19 [(164, vQ (IntKind.u64.wrap (t.r : Int)))] fun a HF => ?_
   replace HF := HF.sp 164 (vQ t.r) rfl (qbn rfl (by omega))
   refine fo HF 20 rfl rfl (s_el HF HM q2 [(0, vQ (toU (t.id - qr s.st.ts i))), (1, vQ (toU t.group)), (2, vQ (toU t.weight)), (3, vQ (toU t.cpu)), (4, vQ t.mask), (5, vQ 0), (6, vQ t.v), (7, vQ t.r)] #[vQ (toU (t.id - qr s.st.ts i)), vQ (toU t.group), vQ (toU t.weight), vQ (toU t.cpu), vQ t.mask, vQ 0, vQ t.v, vQ t.r] ?_)
   clear HF HM; intro a w165 g165 HF HM
   refine fo HF 21 rfl rfl (qo HF HM (i := 4) rfl q2 rfl rfl rfl (news := ([toU (t.id - qr s.st.ts i), toU t.group, toU t.weight, toU t.cpu, t.mask, 0, t.v, t.r].map U64)) (HM.rdBlk (i := 0) (n := 8) (size := 1) rfl rfl) (qab _) (by omega) (by omega) rfl (by decide) ?_)
   clear HF HM; intro a w166 A166 c166 HF HM hc166
   refine fp HF 1 22 [(5, .slice A166 (q.length + 8) c166)] fun a HF => ?_
   refine s_d0 ?_
   replace HF := HF.to [(5, .slice A166 (q.length + 8) c166), (144, .bool false), (13, vQ 0), (12, vI (t.id - qr s.st.ts i)), (133, .bool false), (11, vP g11 0), (122, .bool true), (10, vI i), (117, .slice A117 ([s.st.ts.length].length) c117), (109, .bool true), (91, .bool false), (73, .bool false), (44, .bool false), (27, .bool false), (19, .bool false), (18, .string nm), (6, vP g6 0), (4, .slice none 0 0), (2, vP g2 0)]
   have hnA166 : q.length + 8 = (q ++ [toU (t.id - qr s.st.ts i), toU t.group, toU t.weight, toU t.cpu, t.mask, 0, t.v, t.r]).length := qs rfl
   replace HM := HM.reRow (i := 4) (ys := (q ++ [toU (t.id - qr s.st.ts i), toU t.group, toU t.weight, toU t.cpu, t.mask, 0, t.v, t.r]).map U64) rfl hnA166 (List.map_append.symm)
   rw [hnA166] at hc166
   replace HF := HF.sp 5 (.slice A166 ((q ++ [toU (t.id - qr s.st.ts i), toU t.group, toU t.weight, toU t.cpu, t.mask, 0, t.v, t.r]).length) c166) rfl (by rw [hnA166])
   refine qa ?_
   refine fp HF 2 0 [(124, vI (IntKind.i64.wrap ((i : Int) + 1)))] fun a HF => ?_
   replace HF := HF.sp 124 (vI (i + 1 : Nat)) rfl (qc (by omega) (by omega))
   refine fp HF 1 2 [(10, vI (i + 1 : Nat))] fun a HF => ?_
   refine s_d0 ?_
   exact ⟨_, (by omega), i + 1, (q ++ [toU (t.id - qr s.st.ts i), toU t.group, toU t.weight, toU t.cpu, t.mask, 0, t.v, t.r]), A166, c166, by omega, by rw [qac, ht]; omega, by rw [hq, qq, ht, List.append_assoc]; unfold tkN; rw [hb144]; rfl, by rw [List.length_append, show [toU (t.id - qr s.st.ts i), toU t.group, toU t.weight, toU t.cpu, t.mask, 0, t.v, t.r].length = 8 from rfl]; omega, hc166, rfl, HF.sub (by kernel_rfl), HM.pk [2, 3, 4, 5]⟩
  have hd122 := of_decide_eq_false hb122
  refine s_cf HF (wp_exit (s_fs1 ?_))
  refine fp HF 2 0 [(4, .slice Ao q.length co)] fun a HF => ?_
  refine s_d0 (wp_ret ?_)
  exact s_rt1 rfl HF rfl (qah ((show _ = secN s 5 from by rw [hq, show i = s.st.ts.length by omega]; rfl).trans (Eq.symm ((of_no hb19).trans ((of_no hb27).trans ((of_no hb44).trans ((of_no hb73).trans ((of_no hb91).trans (qe9 hb109)))))))) (HM.own (i := 2) rfl) hco HM.below)
 refine s_cf HF (s_fs1 ?_)
 refine fp HF 2 0 [(167, .bool ((nm).toList == ((ByteArray.mk #[115, 112, 111, 116, 115])).toList))] fun a HF => ?_
 refine s_d0 ?_
 rcases HF.tf 167 rfl with ⟨hb167, HF⟩ | ⟨hb167, HF⟩
 ·
  refine s_ct HF (s_fs1 ?_)
  refine fp HF 1 0 [(14, vI 0)] fun a HF => ?_
  refine s_d0 (wp_block ?_)
  refine qi (fun mS aS wS => ∃ (g : Nat) (q : List Nat) (Ao : Option Addr) (co : Nat), (g ≤ s.st.rs.length) ∧ (q = upF g fun i => rwN i (s.st.rs.getD i Rw.zero).l) ∧ (q.length ≤ 192 * g) ∧ (q.length ≤ co) ∧ mS = s.st.rs.length - g ∧ Fr aS 223 [] [(14, vI g), (167, .bool true), (109, .bool false), (91, .bool false), (73, .bool false), (44, .bool false), (27, .bool false), (19, .bool false), (18, .string nm), (6, vP g6 0), (5, .slice Ao q.length co), (4, .slice none 0 0), (2, vP g2 0)] ∧ Mem w wS [.blk g6 s.st.cells 30, .row (.slice Ao q.length co) q.length (q.map U64) 22 1, .blk g2 s.cells 56]) (m := s.st.rs.length - 0) ⟨0, [], none, 0, Nat.zero_le _, rfl, Nat.le_refl _, Nat.le_refl _, rfl, HF.sub (by kernel_rfl), HM.pk [0, 1, 2]⟩ ?_
  clear HF HM; rintro mS a w_ ⟨g, q, Ao, co, hg, hq, hql, hco, rfl, HF, HM⟩
  refine wp_seq (s_fs1 ?_)
  refine fp HF 2 0 [(170, vP g6 6), (169, vI g)] fun a HF => ?_
  refine s_fz HF HM 2 rfl (v := .slice s.st.sA s.st.rs.length s.st.sc) (Yl.qd rfl rfl (by kernel_rfl) (fun _ h => h.cell (i := 0) rfl (rfl))) fun a HF => ?_
  refine s_fl HF 3 fun a HF => ?_
  refine fp HF 1 4 [(173, .bool (decide ((g : Int) < (s.st.rs.length : Int))))] fun a HF => ?_
  refine s_d0 ?_
  rcases HF.tf 173 rfl with ⟨hb173, HF⟩ | ⟨hb173, HF⟩
  ·
   have hd173 := of_decide_eq_true hb173
   have hg173 : g < s.st.rs.length := by omega
   obtain ⟨y, hy⟩ : ∃ z, s.st.rs.getD g Rw.zero = z := ⟨_, rfl⟩
   have hyr : Rd w w.heap.size 3 y.A y.l.length (y.l.flatMap spL) := by rw [← hy]; exact hx.row hg173
   have hyl : (y.l.length : Int) = s.st.cpus := by rw [← hy]; exact (qgh hg173 (hsh.row g hg173)).1
   have hyo : ∀ z ∈ y.l, z.Ok := by rw [← hy, ← rs_at hg173]; exact hok.sp _ (qu [] (by rw [qaq]; exact hg173))
   obtain ⟨gq5, oq5, hq5, _⟩ := Rd.qj hx.s (Nat.lt_of_le_of_lt (Nat.zero_le _) (show g < s.st.rs.length from hg173)) (by decide)
   have hrq5 := hx.s; rw [hq5] at hrq5
   refine s_ct HF (wp_skip (wp_seq (wp_block (s_fs1 ?_))))
   refine fp HF 1 0 [(15, vI 0)] fun a HF => ?_
   refine s_d0 (wp_block ?_)
   refine qi (fun mS aS wS => ∃ (c : Nat) (q : List Nat) (Ao : Option Addr) (co : Nat), (c ≤ y.l.length) ∧ (q = (upF g fun i => rwN i (s.st.rs.getD i Rw.zero).l) ++ upF c fun i => spN g (y.l.getD i Sp.zero)) ∧ (q.length ≤ 192 * g + 3 * c) ∧ (q.length ≤ co) ∧ mS = y.l.length - c ∧ Fr aS 223 [] [(15, vI c), (173, .bool true), (14, vI g), (167, .bool true), (109, .bool false), (91, .bool false), (73, .bool false), (44, .bool false), (27, .bool false), (19, .bool false), (18, .string nm), (6, vP g6 0), (5, .slice Ao q.length co), (4, .slice none 0 0), (2, vP g2 0)] ∧ Mem w wS [.blk g6 s.st.cells 30, .row (.slice Ao q.length co) q.length (q.map U64) 22 1, .blk g2 s.cells 56]) (m := y.l.length - 0) ⟨0, q, Ao, co, Nat.zero_le _, by rw [hq, qcr, List.append_nil], by omega, hco, rfl, HF.sub (by kernel_rfl), HM.pk [0, 1, 2]⟩ ?_
   clear HF HM; rintro mS a w_ ⟨c, q, Ao, co, hc, hq, hql, hco, rfl, HF, HM⟩
   refine wp_seq (s_fs1 ?_)
   refine fp HF 2 0 [(177, vP g6 6), (176, vI c)] fun a HF => ?_
   refine s_fz HF HM 2 rfl (v := .slice s.st.sA s.st.rs.length s.st.sc) (Yl.qd rfl rfl (by kernel_rfl) (fun _ h => h.cell (i := 0) rfl (rfl))) fun a HF => ?_
   refine fp HF 1 3 [(179, vI g)] fun a HF => ?_
   replace HF := HF.sp 178 (.slice (some ⟨gq5, oq5, none⟩) s.st.rs.length s.st.sc) rfl (by rw [hq5]; try rfl)
   refine s_fz HF HM 4 rfl (v := vP gq5 (oq5 + g * 1)) (Yl.ix gq5 oq5 g 1 rfl rfl rfl) fun a HF => ?_
   refine s_fz HF HM 5 rfl (v := .slice ((s.st.rs.getD g Rw.zero).A) ((s.st.rs.getD g Rw.zero).l.length) ((s.st.rs.getD g Rw.zero).c)) (Yl.o1 hrq5 g Rw.zero hg173 rfl rfl) fun a HF => ?_
   replace HF := HF.sp 181 (.slice y.A y.l.length y.c) rfl (by rw [hy])
   refine s_fl HF 6 fun a HF => ?_
   refine fp HF 1 7 [(183, .bool (decide ((c : Int) < (y.l.length : Int))))] fun a HF => ?_
   refine s_d0 ?_
   rcases HF.tf 183 rfl with ⟨hb183, HF⟩ | ⟨hb183, HF⟩
   ·
    have hd183 := of_decide_eq_true hb183
    have hc183 : c < y.l.length := by omega
    have hzo := hyo _ (qu Sp.zero hc183)
    have hzv := hzo.v; have hzr := hzo.r
    obtain ⟨gq6, oq6, hq6, _⟩ := Rd.qj hyr (Nat.lt_of_le_of_lt (Nat.zero_le _) (show c < y.l.length from hc183)) (by decide)
    have hrq6 := hyr; rw [hq6] at hrq6
    refine s_ct HF (wp_skip (wp_seq (wp_block (wp_seq (s_fs1 ?_)))))
    refine fp HF 2 0 [(187, .bool (decide ((g : Int) > (0 : Int))))] fun a HF => ?_
    refine s_d0 ?_
    rcases HF.tf 187 rfl with ⟨hb187, HF⟩ | ⟨hb187, HF⟩
    ·
     have hd187 := of_decide_eq_true hb187
     refine s_ct HF ?_
     refine za HM [.blk g6 s.st.cells 30, .blk g2 s.cells 56] [0, 2] [] fun HM HS => ?_
     refine ap HF (fun _ => HS) [0, 1, 3, 6, 10, 12, 15] (bf 23 [0, 1, 3, 6, 10, 12, 15]) [(203, vI c), (200, vI g), (198, vP g6 6), (194, vI c), (191, vI g), (189, vP g6 6), (188, .slice Ao q.length co)] fun a HF => ?_
     refine s_az HF HS 2 rfl (v := .slice s.st.sA s.st.rs.length s.st.sc) (Yl.qd rfl rfl (by kernel_rfl) (fun _ h => h.cell (i := 0) rfl (rfl))) fun a HF => ?_
     replace HF := HF.sp 190 (.slice (some ⟨gq5, oq5, none⟩) s.st.rs.length s.st.sc) rfl (by rw [hq5]; try rfl)
     refine s_az HF HS 4 rfl (v := vP gq5 (oq5 + g * 1)) (Yl.ix gq5 oq5 g 1 rfl rfl rfl) fun a HF => ?_
     refine s_az HF HS 5 rfl (v := .slice ((s.st.rs.getD g Rw.zero).A) ((s.st.rs.getD g Rw.zero).l.length) ((s.st.rs.getD g Rw.zero).c)) (Yl.o1 hrq5 g Rw.zero hg173 rfl rfl) fun a HF => ?_
     replace HF := HF.sp 193 (.slice y.A y.l.length y.c) rfl (by rw [hy])
     replace HF := HF.sp 193 (.slice (some ⟨gq6, oq6, none⟩) y.l.length y.c) rfl (by rw [hq6]; try rfl)
     refine s_az HF HS 7 rfl (v := vP gq6 (oq6 + c * 3)) (Yl.ix gq6 oq6 c 3 rfl rfl rfl) fun a HF => ?_
     refine ap HF (fun _ => HS) [8] (bt 23 [9, 11, 13, 14, 16, 17, 18, 19, 20, 21, 22]) [(196, vP gq6 (oq6 + c * 3))] fun a HF => ?_
     refine s_az HF HS 9 rfl (v := vQ ((y.l.getD c Sp.zero).v)) (Yl.qd rfl rfl (by kernel_rfl) (fun _ h => (by have := (h.old hrq6).partAt qak (k := c) (j := 0) (x := (y.l.getD c Sp.zero)) ((getD_at Sp.zero hc183)) rfl; simpa using this))) fun a HF => ?_
     refine s_az HF HS 11 rfl (v := .slice s.st.sA s.st.rs.length s.st.sc) (Yl.qd rfl rfl (by kernel_rfl) (fun _ h => h.cell (i := 0) rfl (rfl))) fun a HF => ?_
     replace HF := HF.sp 199 (.slice (some ⟨gq5, oq5, none⟩) s.st.rs.length s.st.sc) rfl (by rw [hq5]; try rfl)
     refine s_az HF HS 13 rfl (v := vP gq5 (oq5 + g * 1)) (Yl.ix gq5 oq5 g 1 rfl rfl rfl) fun a HF => ?_
     refine s_az HF HS 14 rfl (v := .slice ((s.st.rs.getD g Rw.zero).A) ((s.st.rs.getD g Rw.zero).l.length) ((s.st.rs.getD g Rw.zero).c)) (Yl.o1 hrq5 g Rw.zero hg173 rfl rfl) fun a HF => ?_
     replace HF := HF.sp 202 (.slice y.A y.l.length y.c) rfl (by rw [hy])
     replace HF := HF.sp 202 (.slice (some ⟨gq6, oq6, none⟩) y.l.length y.c) rfl (by rw [hq6]; try rfl)
     refine s_az HF HS 16 rfl (v := vP gq6 (oq6 + c * 3)) (Yl.ix gq6 oq6 c 3 rfl rfl rfl) fun a HF => ?_
     refine ap HF (fun _ => HS) [17] (bt 23 [18, 19, 20, 21, 22]) [(205, vP gq6 (oq6 + c * 3 + 1))] fun a HF => ?_
     refine s_az HF HS 18 rfl (v := vW ((y.l.getD c Sp.zero).r)) (Yl.qd rfl rfl (by kernel_rfl) (fun _ h => (h.old hrq6).partAt qak (k := c) (j := 1) (x := (y.l.getD c Sp.zero)) ((getD_at Sp.zero hc183)) rfl)) fun a HF => ?_
     refine qh HF (fun _ => HS) (i := 19) rfl rfl (d := 207) rfl (by decide) (by kernel_rfl) (fun _ _ _ h => h) (v := vQ (IntKind.u64.wrap ((y.l.getD c Sp.zero).r : Int))) (fun _ => Yl.pure (by kernel_rfl)) fun a HF => ?_
     replace HF := HF.sp 207 (vQ ((y.l.getD c Sp.zero).r : Nat)) rfl (qbn rfl (by omega))
     refine qe [20] (by kernel_rfl) rfl ?_
     refine all_cons ?_ all_nil
     refine qf HF (i := 20) rfl rfl ?_
     refine s_el HF HM q2 [(0, vQ ((y.l.getD c Sp.zero).v)), (1, vQ ((y.l.getD c Sp.zero).r : Nat))] #[vQ ((y.l.getD c Sp.zero).v), vQ ((y.l.getD c Sp.zero).r : Nat)] ?_
     clear HF HM; intro a w208 g208 HF HM
     refine keepS (HM.pk [1, 3]) (fun HS => ?_)
     refine qe [21] (by kernel_rfl) rfl ?_
     refine all_cons ?_ all_nil
     refine qf HF (i := 21) rfl rfl ?_
     refine qo HF HM (i := 2) rfl q2 rfl rfl rfl (news := ([(y.l.getD c Sp.zero).v, (y.l.getD c Sp.zero).r].map U64)) (HM.rdBlk (i := 0) (n := 2) (size := 1) rfl rfl) (qab _) (by omega) (by omega) rfl (by decide) ?_
     clear HF HM; intro a w209 A209 c209 HF HM hc209
     refine keepS (HM.pk [1, 3]) (fun HS => ?_)
     refine ap HF (fun _ => HS) [22] (bt 23 []) [(5, .slice A209 (q.length + 2) c209)] fun a HF => ?_
     refine qk (by kernel_rfl) ?_
     replace HF := HF.to [(5, .slice A209 (q.length + 2) c209), (187, .bool true), (183, .bool true), (15, vI c), (173, .bool true), (14, vI g), (167, .bool true), (109, .bool false), (91, .bool false), (73, .bool false), (44, .bool false), (27, .bool false), (19, .bool false), (18, .string nm), (6, vP g6 0), (4, .slice none 0 0), (2, vP g2 0)]
     have hnA209 : q.length + 2 = (q ++ [(y.l.getD c Sp.zero).v, (y.l.getD c Sp.zero).r]).length := qs rfl
     replace HM := HM.reRow (i := 2) (ys := (q ++ [(y.l.getD c Sp.zero).v, (y.l.getD c Sp.zero).r]).map U64) rfl hnA209 (List.map_append.symm)
     rw [hnA209] at hc209
     replace HF := HF.sp 5 (.slice A209 ((q ++ [(y.l.getD c Sp.zero).v, (y.l.getD c Sp.zero).r]).length) c209) rfl (by rw [hnA209])
     refine qa ?_
     refine fp HF 2 0 [(211, vP g6 6), (210, .slice A209 ((q ++ [(y.l.getD c Sp.zero).v, (y.l.getD c Sp.zero).r]).length) c209)] fun a HF => ?_
     refine s_fz HF HM 2 rfl (v := .slice s.st.sA s.st.rs.length s.st.sc) (Yl.qd rfl rfl (by kernel_rfl) (fun _ h => h.cell (i := 1) rfl (rfl))) fun a HF => ?_
     refine fp HF 1 3 [(213, vI g)] fun a HF => ?_
     replace HF := HF.sp 212 (.slice (some ⟨gq5, oq5, none⟩) s.st.rs.length s.st.sc) rfl (by rw [hq5]; try rfl)
     refine s_fz HF HM 4 rfl (v := vP gq5 (oq5 + g * 1)) (Yl.ix gq5 oq5 g 1 rfl rfl rfl) fun a HF => ?_
     refine s_fz HF HM 5 rfl (v := .slice ((s.st.rs.getD g Rw.zero).A) ((s.st.rs.getD g Rw.zero).l.length) ((s.st.rs.getD g Rw.zero).c)) (Yl.o1 hrq5 g Rw.zero hg173 rfl rfl) fun a HF => ?_
     replace HF := HF.sp 215 (.slice y.A y.l.length y.c) rfl (by rw [hy])
     refine fp HF 1 6 [(216, vI c)] fun a HF => ?_
     replace HF := HF.sp 215 (.slice (some ⟨gq6, oq6, none⟩) y.l.length y.c) rfl (by rw [hq6]; try rfl)
     refine s_fz HF HM 7 rfl (v := vP gq6 (oq6 + c * 3)) (Yl.ix gq6 oq6 c 3 rfl rfl rfl) fun a HF => ?_
     refine fp HF 1 8 [(218, vP gq6 (oq6 + c * 3 + 2))] fun a HF => ?_
     refine s_fz HF HM 9 rfl (v := vQ ((y.l.getD c Sp.zero).floor)) (Yl.qd rfl rfl (by kernel_rfl) (fun _ h => (h.old hrq6).partAt qak (k := c) (j := 2) (x := (y.l.getD c Sp.zero)) ((getD_at Sp.zero hc183)) rfl)) fun a HF => ?_
     refine fo HF 10 rfl rfl (s_el HF HM q2 [(0, vQ ((y.l.getD c Sp.zero).floor))] #[vQ ((y.l.getD c Sp.zero).floor)] ?_)
     clear HF HM; intro a w220 g220 HF HM
     refine fo HF 11 rfl rfl (qo HF HM (i := 3) rfl q2 rfl rfl rfl (news := ([(y.l.getD c Sp.zero).floor].map U64)) (HM.rdBlk (i := 0) (n := 1) (size := 1) rfl rfl) (qab _) (by omega) (by omega) rfl (by decide) ?_)
     clear HF HM; intro a w221 A221 c221 HF HM hc221
     refine fp HF 1 12 [(5, .slice A221 (((q ++ [(y.l.getD c Sp.zero).v, (y.l.getD c Sp.zero).r]).length) + 1) c221)] fun a HF => ?_
     refine s_d0 ?_
     have hnA221 : ((q ++ [(y.l.getD c Sp.zero).v, (y.l.getD c Sp.zero).r]).length) + 1 = ((q ++ [(y.l.getD c Sp.zero).v, (y.l.getD c Sp.zero).r]) ++ [(y.l.getD c Sp.zero).floor]).length := qs rfl
     replace HM := HM.reRow (i := 3) (ys := ((q ++ [(y.l.getD c Sp.zero).v, (y.l.getD c Sp.zero).r]) ++ [(y.l.getD c Sp.zero).floor]).map U64) rfl hnA221 (List.map_append.symm)
     rw [hnA221] at hc221
     replace HF := HF.sp 5 (.slice A221 (((q ++ [(y.l.getD c Sp.zero).v, (y.l.getD c Sp.zero).r]) ++ [(y.l.getD c Sp.zero).floor]).length) c221) rfl (by rw [hnA221])
     replace HF := HF.sp 221 (.slice A221 (((q ++ [(y.l.getD c Sp.zero).v, (y.l.getD c Sp.zero).r]) ++ [(y.l.getD c Sp.zero).floor]).length) c221) rfl (by rw [hnA221])
     refine qa ?_
     refine fp HF 2 0 [(185, vI (IntKind.i64.wrap ((c : Int) + 1)))] fun a HF => ?_
     replace HF := HF.sp 185 (vI (c + 1 : Nat)) rfl (qc (by omega) (by omega))
     refine fp HF 1 2 [(15, vI (c + 1 : Nat))] fun a HF => ?_
     refine s_d0 ?_
     exact ⟨_, (by omega), c + 1, ((q ++ [(y.l.getD c Sp.zero).v, (y.l.getD c Sp.zero).r]) ++ [(y.l.getD c Sp.zero).floor]), A221, c221, by omega, by rw [hq, qq, qrh (by omega)]; simp only [List.append_assoc], by (simp only [List.length_append, List.length_cons, List.length_nil]; omega), hc221, rfl, HF.sub (by kernel_rfl), HM.pk [2, 3, 4]⟩
    have hd187 := of_decide_eq_false hb187
    refine s_cf HF (wp_skip (qa ?_))
    refine fp HF 2 0 [(211, vP g6 6), (210, .slice Ao q.length co)] fun a HF => ?_
    refine s_fz HF HM 2 rfl (v := .slice s.st.sA s.st.rs.length s.st.sc) (Yl.qd rfl rfl (by kernel_rfl) (fun _ h => h.cell (i := 0) rfl (rfl))) fun a HF => ?_
    refine fp HF 1 3 [(213, vI g)] fun a HF => ?_
    replace HF := HF.sp 212 (.slice (some ⟨gq5, oq5, none⟩) s.st.rs.length s.st.sc) rfl (by rw [hq5]; try rfl)
    refine s_fz HF HM 4 rfl (v := vP gq5 (oq5 + g * 1)) (Yl.ix gq5 oq5 g 1 rfl rfl rfl) fun a HF => ?_
    refine s_fz HF HM 5 rfl (v := .slice ((s.st.rs.getD g Rw.zero).A) ((s.st.rs.getD g Rw.zero).l.length) ((s.st.rs.getD g Rw.zero).c)) (Yl.o1 hrq5 g Rw.zero hg173 rfl rfl) fun a HF => ?_
    replace HF := HF.sp 215 (.slice y.A y.l.length y.c) rfl (by rw [hy])
    refine fp HF 1 6 [(216, vI c)] fun a HF => ?_
    replace HF := HF.sp 215 (.slice (some ⟨gq6, oq6, none⟩) y.l.length y.c) rfl (by rw [hq6]; try rfl)
    refine s_fz HF HM 7 rfl (v := vP gq6 (oq6 + c * 3)) (Yl.ix gq6 oq6 c 3 rfl rfl rfl) fun a HF => ?_
    refine fp HF 1 8 [(218, vP gq6 (oq6 + c * 3 + 2))] fun a HF => ?_
    refine s_fz HF HM 9 rfl (v := vQ ((y.l.getD c Sp.zero).floor)) (Yl.qd rfl rfl (by kernel_rfl) (fun _ h => (h.old hrq6).partAt qak (k := c) (j := 2) (x := (y.l.getD c Sp.zero)) ((getD_at Sp.zero hc183)) rfl)) fun a HF => ?_
    refine fo HF 10 rfl rfl (s_el HF HM q2 [(0, vQ ((y.l.getD c Sp.zero).floor))] #[vQ ((y.l.getD c Sp.zero).floor)] ?_)
    clear HF HM; intro a w220 g220 HF HM
    refine fo HF 11 rfl rfl (qo HF HM (i := 2) rfl q2 rfl rfl rfl (news := ([(y.l.getD c Sp.zero).floor].map U64)) (HM.rdBlk (i := 0) (n := 1) (size := 1) rfl rfl) (qab _) (by omega) (by omega) rfl (by decide) ?_)
    clear HF HM; intro a w221 A221 c221 HF HM hc221
    refine fp HF 1 12 [(5, .slice A221 (q.length + 1) c221)] fun a HF => ?_
    refine s_d0 ?_
    have hnA221 : q.length + 1 = (q ++ [(y.l.getD c Sp.zero).floor]).length := qs rfl
    replace HM := HM.reRow (i := 2) (ys := (q ++ [(y.l.getD c Sp.zero).floor]).map U64) rfl hnA221 (List.map_append.symm)
    rw [hnA221] at hc221
    replace HF := HF.sp 5 (.slice A221 ((q ++ [(y.l.getD c Sp.zero).floor]).length) c221) rfl (by rw [hnA221])
    replace HF := HF.sp 221 (.slice A221 ((q ++ [(y.l.getD c Sp.zero).floor]).length) c221) rfl (by rw [hnA221])
    refine qa ?_
    refine fp HF 2 0 [(185, vI (IntKind.i64.wrap ((c : Int) + 1)))] fun a HF => ?_
    replace HF := HF.sp 185 (vI (c + 1 : Nat)) rfl (qc (by omega) (by omega))
    refine fp HF 1 2 [(15, vI (c + 1 : Nat))] fun a HF => ?_
    refine s_d0 ?_
    exact ⟨_, (by omega), c + 1, (q ++ [(y.l.getD c Sp.zero).floor]), A221, c221, by omega, by rw [hq, qq, qm5 (by omega), List.append_assoc], by (simp only [List.length_append, List.length_cons, List.length_nil]; omega), hc221, rfl, HF.sub (by kernel_rfl), HM.pk [1, 2, 3]⟩
   have hd183 := of_decide_eq_false hb183
   refine s_cf HF (wp_exit (qa ?_))
   refine fp HF 2 0 [(175, vI (IntKind.i64.wrap ((g : Int) + 1)))] fun a HF => ?_
   replace HF := HF.sp 175 (vI (g + 1 : Nat)) rfl (qc (by omega) (by omega))
   refine fp HF 1 2 [(14, vI (g + 1 : Nat))] fun a HF => ?_
   refine s_d0 ?_
   exact ⟨_, (by omega), g + 1, q, Ao, co, by omega, by rw [hq, show c = y.l.length by omega, qq, hy]; rfl, by omega, hco, rfl, HF.sub (by kernel_rfl), HM.pk [0, 1, 2]⟩
  have hd173 := of_decide_eq_false hb173
  refine s_cf HF (wp_exit (s_fs1 ?_))
  refine fp HF 2 0 [(4, .slice Ao q.length co)] fun a HF => ?_
  refine s_d0 (wp_ret ?_)
  exact s_rt1 rfl HF rfl (qah ((show _ = secN s 6 from by rw [hq, show g = s.st.rs.length by omega]; rfl).trans (Eq.symm ((of_no hb19).trans ((of_no hb27).trans ((of_no hb44).trans ((of_no hb73).trans ((of_no hb91).trans ((of_no hb109).trans (qe9 hb167))))))))) (HM.own (i := 1) rfl) hco HM.below)
 refine s_cf HF (wp_skip (s_fs1 ?_))
 refine fp HF 2 0 [(4, .slice none 0 0)] fun a HF => ?_
 refine s_d0 (wp_ret ?_)
 exact s_rt1 rfl HF rfl (qah ((show _ = [] from rfl).trans (Eq.symm ((of_no hb19).trans ((of_no hb27).trans ((of_no hb44).trans ((of_no hb73).trans ((of_no hb91).trans ((of_no hb109).trans ((of_no hb167).trans (rfl)))))))))) (HM.own (i := 1) rfl) (Nat.le_refl _) HM.below)
theorem q1m (s : Snm) (hok : s.st.sta.Ok) (hf : StFew s.st) (hsh : ShAt s.st) (j : Nat) (w : World) (hx : StRd w s.st) : Calls Tryz.prog 55 #[.agg s.cells, .string (nmR j)] w (qlr w (secR s j)) := qzp s hok hf hsh (nmR j) w hx
theorem qzz : SI Tryz.prog 83 3 := ⟨by kernel_rfl, by kernel_rfl⟩
theorem qtw : EI Tryz.prog 76 83 (.agg #[.string (ByteArray.mk #[]), .int .i64 0, .int .i64 0]) 3 32 := ⟨by kernel_rfl, by kernel_rfl, rfl, by omega⟩
theorem qk9 (s : Snm) (hok : s.st.sta.Ok) (hf : StFew s.st) (w : World) (hx : StRd w s.st) :
    Calls Tryz.prog 21 #[.agg s.cells] w (qgm w (chkS s) (numsE s)) := by
 refine s_ce Tryz.func21 [.agg s.cells] [(0, .agg s.cells)] fun a HF => ?_
 have HM := Mem.start w
 refine s_fs1 ?_
 refine fo HF 0 rfl rfl (s_eb HF HM s.cells ?_)
 clear HF HM; intro a w1 g1 HF HM
 refine fp HF 2 1 [(3, vI 0), (2, .slice none 0 0)] fun a HF => ?_
 refine s_d0 (wp_seq (s_fs1 ?_))
 refine s_fz HF HM 0 rfl (v := .agg s.cells) (Yl.qt rfl rfl zi rfl (fun _ h => qg (h.blk (i := 0) rfl))) fun a HF => ?_
 replace HF := HF.sp 8 (.agg s.cells) rfl (rfl)
 refine fo HF 1 rfl rfl (e_is HF HM [.agg s.cells] (vI (chkS s)) rfl rfl (qpn s hok hf _ (hx.old HM)) fun w9 hbw HM a HF => ?_)
 refine fp HF 1 2 [(4, vI (chkS s))] fun a HF => ?_
 refine s_d0 (s_fs1 ?_)
 refine fp HF 2 0 [(11, .bool ((chkS s : Int) != (0 : Int)))] fun a HF => ?_
 refine s_d0 ?_
 rcases HF.tf 11 rfl with ⟨hb11, HF⟩ | ⟨hb11, HF⟩
 ·
  have hd11 := bne_iff_ne.1 hb11
  refine s_ct HF (s_fs1 ?_)
  refine fp HF 3 0 [(3, vI (chkS s)), (2, .slice none 0 0)] fun a HF => ?_
  refine s_d0 (wp_ret ?_)
  exact s_rt2 rfl HF rfl rfl (qhu _ rfl (qu7 (by omega)) HM.below)
 have hd11 := bne_eq_false_iff_eq.1 hb11
 have hk0 : chkS s = 0 := by omega
 have hsh := qro hk0
 refine s_cf HF (wp_skip (s_fs1 ?_))
 refine fp HF 1 0 [(5, .slice none 0 0)] fun a HF => ?_
 refine s_d0 ?_
 replace HM := HM.nil 22 1
 refine s_fs1 ?_
 refine fo HF 0 rfl rfl ?_
 refine e_cl HF [] rfl rfl (qey _) ?_
 rintro _ w13 ⟨⟨g13, rfl, ho⟩, hbw⟩
 refine ⟨_, rfl, ?_⟩
 replace HM := HM.callRow hbw ho
 clear HF; intro a HF
 refine fp HF 1 1 [(6, vS g13 9 9)] fun a HF => ?_
 refine s_d0 (wp_seq (s_fs1 ?_))
 refine fp HF 1 0 [(7, vI 0)] fun a HF => ?_
 refine s_d0 (wp_block ?_)
 refine qi (fun mS aS wS => ∃ (j : Nat) (q : List Nat) (Ao : Option Addr) (co : Nat), (j ≤ 9) ∧ (q = upF j (secR s)) ∧ (q.length ≤ co) ∧ mS = 9 - j ∧ Fr aS 29 [] [(7, vI j), (6, vS g13 9 9), (5, .slice Ao q.length co), (11, .bool false), (4, vI (chkS s)), (3, vI 0), (2, .slice none 0 0), (1, vP g1 0)] ∧ Mem w wS [.row (vS g13 9 9) 9 (nameL.map StrC) 9 1, .row (.slice Ao q.length co) q.length (q.map U64) 22 1, .blk g1 s.cells 56]) (m := 9 - 0) ⟨0, [], none, 0, Nat.zero_le _, rfl, Nat.le_refl _, rfl, HF.sub (by kernel_rfl), HM.pk [0, 1, 2]⟩ ?_
 clear HF HM; rintro mS a w_ ⟨j, q, Ao, co, hj, hq, hco, rfl, HF, HM⟩
 refine wp_seq (s_fs1 ?_)
 refine fp HF 2 0 [(15, vS g13 9 9), (14, vI j)] fun a HF => ?_
 refine s_fl HF 2 fun a HF => ?_
 refine fp HF 1 3 [(17, .bool (decide ((j : Int) < (9 : Int))))] fun a HF => ?_
 refine s_d0 ?_
 rcases HF.tf 17 rfl with ⟨hb17, HF⟩ | ⟨hb17, HF⟩
 ·
  have hd17 := of_decide_eq_true hb17
  have hj17 : j < 9 := by omega
  have hql : q.length ≤ 5400000 := by have := qs0 hsh j (by omega); rw [← hq] at this; omega
  have hsl := qnw hsh hj17
  refine s_ct HF (wp_skip (wp_seq (wp_block ?_)))
  refine za HM [.row (vS g13 9 9) 9 (nameL.map StrC) 9 1, .blk g1 s.cells 56] [0, 2] [] fun HM HS => ?_
  refine ap HF (fun _ => HS) [0, 2, 3] (bf 9 [0, 2, 3]) [(23, vI j), (22, vS g13 9 9), (20, .slice Ao q.length co)] fun a HF => ?_
  refine s_az HF HS 1 rfl (v := .agg s.cells) (Yl.qt rfl rfl zi rfl (fun _ h => qg (h.blk (i := 1) rfl))) fun a HF => ?_
  replace HF := HF.sp 21 (.agg s.cells) rfl (rfl)
  refine s_az HF HS 4 rfl (v := vP g13 (j * 1)) (Yl.ix0 g13 j 1 rfl rfl rfl) fun a HF => ?_
  refine s_az HF HS 5 rfl (v := .string (nmR j)) (Yl.r1 0 j [] (show j < nameL.length from hj17) rfl rfl rfl) fun a HF => ?_
  refine qe [6] (by kernel_rfl) rfl ?_
  refine all_cons ?_ all_nil
  refine qf HF (i := 6) rfl rfl ?_
  refine s_ek HF HM [.agg s.cells, .string (nmR j)] (q1m s hok hf hsh j _ (hx.old HM)) fun A26 c26 w26 hc26 HM a HF => ?_
  refine keepS (HM.pk [1, 3]) (fun HS => ?_)
  refine qe [7] (by kernel_rfl) rfl ?_
  refine all_cons ?_ all_nil
  refine qf HF (i := 7) rfl rfl ?_
  refine qo HF HM (i := 2) rfl q2 rfl rfl rfl (news := ((secR s j).map U64)) (HM.rd (i := 0) rfl) (qab _) (by omega) (by omega) rfl (by decide) ?_
  clear HF HM; intro a w27 A27 c27 HF HM hc27
  refine keepS (HM.pk [1, 3]) (fun HS => ?_)
  refine ap HF (fun _ => HS) [8] (bt 9 []) [(5, .slice A27 (q.length + ((secR s j).length)) c27)] fun a HF => ?_
  refine qk (by kernel_rfl) ?_
  have hnA27 : q.length + ((secR s j).length) = (q ++ (secR s j)).length := qs rfl
  replace HM := HM.reRow (i := 2) (ys := (q ++ (secR s j)).map U64) rfl hnA27 (List.map_append.symm)
  rw [hnA27] at hc27
  replace HF := HF.sp 5 (.slice A27 ((q ++ (secR s j)).length) c27) rfl (by rw [hnA27])
  replace HF := HF.sp 27 (.slice A27 ((q ++ (secR s j)).length) c27) rfl (by rw [hnA27])
  refine qa ?_
  refine fp HF 2 0 [(19, vI (IntKind.i64.wrap ((j : Int) + 1)))] fun a HF => ?_
  replace HF := HF.sp 19 (vI (j + 1 : Nat)) rfl (qc (by omega) (by omega))
  refine fp HF 1 2 [(7, vI (j + 1 : Nat))] fun a HF => ?_
  refine s_d0 ?_
  exact ⟨_, (by omega), j + 1, (q ++ (secR s j)), A27, c27, by omega, by rw [hq, qq], hc27, rfl, HF.sub (by kernel_rfl), HM.pk [1, 2, 3]⟩
 have hd17 := of_decide_eq_false hb17
 refine s_cf HF (wp_exit (s_fs1 ?_))
 refine fp HF 3 0 [(3, vI 0), (2, .slice Ao q.length co)] fun a HF => ?_
 refine s_d0 (wp_ret ?_)
 exact s_rt2 rfl HF rfl rfl (qet (er' := 0) hk0.symm (by rw [qdw hk0, ← numsR, hq, show j = 9 by omega]) (HM.own (i := 1) rfl) hco HM.below)
theorem qpy (s : Snm) (hok : s.st.sta.Ok) (hf : StFew s.st) (w : World) (hx : StRd w s.st) :
    Calls Tryz.prog 23 #[.agg s.cells] w (qlg w (chkS s) (outS s)) := by
 refine s_ce Tryz.func23 [.agg s.cells] [(0, .agg s.cells)] fun a HF => ?_
 have HM := Mem.start w
 refine s_fs1 ?_
 refine fo HF 0 rfl rfl (s_eb HF HM s.cells ?_)
 clear HF HM; intro a w1 g1 HF HM
 refine fp HF 2 1 [(3, vI 0), (2, .slice none 0 0)] fun a HF => ?_
 refine s_d0 (s_fs1 ?_)
 refine s_fz HF HM 0 rfl (v := .agg s.cells) (Yl.qt rfl rfl zi rfl (fun _ h => qg (h.blk (i := 0) rfl))) fun a HF => ?_
 replace HF := HF.sp 7 (.agg s.cells) rfl (rfl)
 refine fo HF 1 rfl rfl ?_
 refine s_ek HF HM [.agg s.cells] (qk9 s hok hf _ (hx.old HM)) fun A8 c8 w8 hc8 HM a HF => ?_
 refine fp HF 5 2 [(5, vI (chkS s)), (4, .slice A8 ((numsE s).length) c8)] fun a HF => ?_
 refine s_d0 (wp_seq (s_fs1 ?_))
 refine fp HF 2 0 [(12, .bool ((chkS s : Int) != (0 : Int)))] fun a HF => ?_
 refine s_d0 ?_
 rcases HF.tf 12 rfl with ⟨hb12, HF⟩ | ⟨hb12, HF⟩
 ·
  have hd12 := bne_iff_ne.1 hb12
  refine s_ct HF (s_fs1 ?_)
  refine fp HF 3 0 [(3, vI (chkS s)), (2, .slice none 0 0)] fun a HF => ?_
  refine s_d0 (wp_ret ?_)
  exact s_rt2 rfl HF rfl rfl (qo2 _ rfl (qym (by omega)) HM.below)
 have hd12 := bne_eq_false_iff_eq.1 hb12
 have hk0 : chkS s = 0 := by omega
 have hsh := qro hk0
 have hnl := qgl hsh
 rw [← qdw hk0] at hnl
 have hbf := qu9 hsh
 have hfl := qc7 (numsE s)
 refine s_cf HF (wp_skip (s_fs1 ?_))
 refine fo HF 0 rfl rfl (s_el HF HM ei_u8 [(0, vB 113), (1, vB 115), (2, vB 1)] #[vB 113, vB 115, vB 1] ?_)
 clear HF HM; intro a w14 g14 HF HM
 refine fp HF 1 1 [(15, .slice A8 ((numsE s).length) c8)] fun a HF => ?_
 refine fo HF 2 rfl rfl ?_
 refine s_ek HF HM [.slice A8 ((numsE s).length) c8] (qpr A8 ((numsE s).length) c8 (numsE s) _ (HM.rd (i := 1) rfl) rfl (by rw [qdw hk0]; exact qm7 hok hf) (by have := hnl; omega)) fun A16 c16 w16 hc16 HM a HF => ?_
 refine fo HF 3 rfl rfl ?_
 replace HM := HM.blkRow (i := 1) (n := 3) (size := 1) rfl rfl (by decide)
 refine qo HF HM (i := 1) rfl ei_u8 rfl rfl rfl (news := (((numsE s).flatMap vbytes).map B8)) (HM.rd (i := 0) rfl) (qjt _) (by omega) (by omega) rfl (by decide) ?_
 clear HF HM; intro a w17 A17 c17 HF HM hc17
 have hnA17 : 3 + (((numsE s).flatMap vbytes).length) = (bodyS s).length := q0w hk0
 replace HM := HM.reRow (i := 1) (ys := (bodyS s).map B8) rfl hnA17 (qo3 hk0)
 rw [hnA17] at hc17
 replace HF := HF.sp 17 (.slice A17 ((bodyS s).length) c17) rfl (by rw [hnA17])
 refine fo HF 4 rfl rfl ?_
 refine s_ek HF HM [.slice A17 ((bodyS s).length) c17] (qbx A17 ((bodyS s).length) c17 (bodyS s) _ (HM.rd (i := 1) rfl) rfl (by omega) (qrm s)) fun A18 c18 w18 hc18 HM a HF => ?_
 refine fp HF 2 5 [(3, vI 0), (2, .slice A18 ((sealL (bodyS s)).length) c18)] fun a HF => ?_
 refine s_d0 (wp_ret ?_)
 exact s_rt2 rfl HF rfl rfl (qo4 (er' := 0) hk0.symm (qlx hk0).symm (HM.own (i := 0) rfl) hc18 HM.below)
theorem qp1 (s : Snm) (w : World) (hx : StRd w s.st) (hf : StFew s.st) :
    Calls Tryz.prog 19 #[.agg s.cells] w (qw7 w s) := by
 refine s_ce Tryz.func19 [.agg s.cells] [(0, .agg s.cells)] fun a HF => ?_
 have HM := Mem.start w
 refine s_fs1 ?_
 refine fo HF 0 rfl rfl (s_eb HF HM s.cells ?_)
 clear HF HM; intro a w1 g1 HF HM
 refine fo HF 1 rfl rfl (s_ea HF HM #[vI 0, vI 0, vQ 0, .slice none 0 0, .slice none 0 0, .slice none 0 0, .slice none 0 0, .slice none 0 0] ?_)
 clear HF HM; intro a w2 g2 HF HM
 refine s_d0 (wp_seq ?_)
 refine za HM [.blk g2 #[vI 0, vI 0, vQ 0, .slice none 0 0, .slice none 0 0, .slice none 0 0, .slice none 0 0, .slice none 0 0] 56, .blk g1 s.cells 32] [0, 1] [6] fun HM HS => ?_
 refine ap HF (fun _ => HS) [0, 2] (bf 7 [0, 2]) [(5, vP g1 1), (3, vP g1 0)] fun a HF => ?_
 refine s_az HF HS 1 rfl (v := vI s.next) (Yl.qd rfl rfl (by kernel_rfl) (fun _ h => h.cell (i := 1) rfl (rfl))) fun a HF => ?_
 refine s_az HF HS 3 rfl (v := .agg #[vI s.st.cpus, vQ s.st.credit, .slice s.st.gA s.st.gs.length s.st.gc, .slice s.st.lA s.st.cl.length s.st.lc, .slice s.st.uA s.st.cu.length s.st.uc, .slice s.st.tA s.st.ts.length s.st.tc, .slice s.st.sA s.st.rs.length s.st.sc]) (Yl.qt rfl rfl si_st rfl (fun _ h => h.sub (i := 1) rfl 1 rfl)) fun a HF => ?_
 replace HF := HF.sp 6 (.agg s.st.cells) rfl (rfl)
 refine qe [4] (by kernel_rfl) rfl ?_
 refine all_cons ?_ all_nil
 refine qf HF (i := 4) rfl rfl ?_
 refine e_cl HF [.agg s.st.cells] rfl rfl (qjb s.st _ (hx.old HM) hf) ?_
 rintro _ w7 ⟨y, rfl, heq, hcap, hm⟩
 refine ⟨_, rfl, ?_⟩
 replace HM := (show Mem w _ (.blk g2 #[vI 0, vI 0, vQ 0, .slice none 0 0, .slice none 0 0, .slice none 0 0, .slice none 0 0, .slice none 0 0] 56 :: .blk g1 s.cells 32 :: stF y) from HM.joinT hm)
 clear HF; intro a HF
 refine keepS (HM.pk [0, 1]) (fun HS => ?_)
 refine s_az HF HS 5 rfl (v := .agg #[vI s.next, vI y.cpus, vQ y.credit, .slice y.gA y.gs.length y.gc, .slice y.lA y.cl.length y.lc, .slice y.uA y.cu.length y.uc, .slice y.tA y.ts.length y.tc, .slice y.sA y.rs.length y.sc]) (Yl.build (vs := [(0, vI s.next), (1, .agg y.cells)]) rfl (by kernel_rfl) (by kernel_rfl)) fun a HF => ?_
 refine qe [6] (by kernel_rfl) rfl ?_
 refine all_cons ?_ all_nil
 refine qf HF (i := 6) rfl rfl ?_
 refine e_sa HF HM 0 rfl rfl rfl rfl rfl zi rfl rfl (by simp [Value.oneCell']) ?_
 clear HM; intro w1_6 HM
 refine noS (by kernel_rfl) ?_
 refine qk (by kernel_rfl) ?_
 refine wp_ret ?_
 exact ret1 rfl HF (.cellS (i := 0) HF HM rfl rfl zi rfl) (⟨⟨s.next, y⟩, rfl, sn_of rfl heq, hcap, HM.pt 2 []⟩)
theorem qp2 (a x y : Snm) (h : SnEq a x) (k : SnEq a y) (hf : StFew a.st) (w : World) (hx : StRd w x.st) (hy : StRd w y.st) : Calls Tryz.prog 32 #[.agg x.cells, .agg y.cells] w (Is w (.bool true)) := by
 have h1 := qt2 x y w hx hy (qhx (qck h) hf) (qhx (qck k) hf)
 rwa [decide_eq_true (qhw (qrs h) k)] at h1
theorem qp3 (A : Option Addr) (c : Nat) (l : List Nat) (D : Option Addr) (c2 : Nat) (w : World) (hr : Rd w w.heap.size 1 A l.length (l.map U64)) (hr2 : Rd w w.heap.size 1 D l.length (l.map U64)) (hn : l.length ≤ 1000000) : Calls Tryz.prog 30 #[.slice A l.length c, .slice D l.length c2] w (Is w (.bool true)) := by
 have h1 := qt1 A c l D c2 l w hr hr2 hn hn
 rwa [decide_eq_true rfl] at h1
def readN : Nat → List Nat → List Nat × Nat × Nat
 | 0, _ => ([], 0, 0)
 | k + 1, l =>
  if (vread l).2.2 ≠ 0 then ([], 0, (vread l).2.2)
  else if (readN k (l.drop (vread l).2.1)).2.2 ≠ 0 then ([], 0, (readN k (l.drop (vread l).2.1)).2.2)
  else ((vread l).1 :: (readN k (l.drop (vread l).2.1)).1, (vread l).2.1 + (readN k (l.drop (vread l).2.1)).2.1, 0)
theorem ql1 : ∀ (l : List Nat) (i acc : Nat), (vgo i acc l).2.1 ≤ i + l.length ∧ ((vgo i acc l).2.2 = 0 → i < (vgo i acc l).2.1)
 | [], i, acc => by simp [vgo]
 | b :: r, i, acc => by
  rw [vgo]
  split
  ·simp
  ·split
   ·simp
   ·split
    ·simp
    ·have := ql1 r (i + 1) (acc + (b - 128) * 128 ^ i)
     refine ⟨by simp only [List.length_cons]; omega, fun h => by have := this.2 h; omega⟩
theorem qgo (l : List Nat) : (vread l).2.1 ≤ l.length := by have := (ql1 l 0 0).1; unfold vread; omega
theorem qkk (l : List Nat) (h : (vread l).2.2 = 0) : 0 < (vread l).2.1 := (ql1 l 0 0).2 h
theorem qkl : ∀ (l : List Nat) (i acc : Nat), (∀ b ∈ l, b < 256) → acc < 128 ^ i → i ≤ 9 → (vgo i acc l).1 < 18446744073709551616
 | [], i, acc, _, _, _ => by simp [vgo]
 | b :: r, i, acc, hl, ha, hi => by
  have hb := hl b (by simp)
  have hp := qcm i hi
  rw [vgo]
  split
  ·show 0 < _; omega
  ·rename_i h9
   split
   ·show 0 < _; omega
   ·split
    ·show acc + b * 128 ^ i < _
     rcases Nat.lt_or_ge i 9 with h | h
     ·have h1 : (128 : Nat) ^ i ≤ 128 ^ 8 := Nat.pow_le_pow_right (by omega) (by omega)
      have h2 : (128 : Nat) ^ 8 = 72057594037927936 := by decide
      have h3 : b * 128 ^ i ≤ 127 * 128 ^ i := Nat.mul_le_mul_right _ (by omega)
      omega
     ·have h3 : b * 128 ^ i ≤ 1 * 128 ^ i := Nat.mul_le_mul_right _ (by omega)
      omega
    ·rcases Nat.lt_or_ge i 9 with h | h
     ·refine qkl r (i + 1) _ (fun x hx => hl x (by simp [hx])) ?_ (by omega)
      have := qiq acc (b - 128) i ha
      rwa [show (b - 128) % 128 = b - 128 by omega] at this
     ·omega
theorem qgp (l : List Nat) (hl : ∀ b ∈ l, b < 256) : (vread l).1 < 18446744073709551616 := qkl l 0 0 hl (by omega) (by omega)
theorem qnd : ∀ (l : List Nat) (i acc x m : Nat), (∀ b ∈ l, b < 256) → i ≤ 9 → vgo i acc l = (x, m, 0) →
  ∃ y, x = acc + y * 128 ^ i ∧ (grp (10 - i) y).map vbyte = l.take (m - i) ∧ i < m ∧ (0 < i → 0 < y)
 | [], i, acc, x, m, _, _, h => by simp [vgo] at h
 | b :: r, i, acc, x, m, hl, hi, h => by
  have hb := hl b (by simp)
  rw [vgo] at h
  split at h
  ·simp at h
  ·rename_i h9
   split at h
   ·simp at h
   ·rename_i h0
    split at h
    ·rename_i h128
     simp only [Prod.mk.injEq] at h
     obtain ⟨rfl, rfl, _⟩ := h
     refine ⟨b, rfl, ?_, by omega, fun _ => by omega⟩
     obtain ⟨f, hf⟩ : ∃ f, 10 - i = f + 1 := ⟨9 - i, by omega⟩
     rw [hf, qfr f b h128, show i + 1 - i = 1 by omega]
     rfl
    ·rename_i h128
     obtain ⟨y, h1, h2, h3, h4⟩ := qnd r (i + 1) _ x m (fun b hb => hl b (by simp [hb])) (by omega) h
     have hy := h4 (by omega)
     refine ⟨(b - 128) + 128 * y, ?_, ?_, by omega, fun _ => by omega⟩
     ·rw [h1, Nat.pow_succ, Nat.add_mul]
      have : y * (128 ^ i * 128) = 128 * y * 128 ^ i := by rw [Nat.mul_comm (128 ^ i) 128, ← Nat.mul_assoc, Nat.mul_comm y 128]
      omega
     ·obtain ⟨f, hf⟩ : ∃ f, 10 - i = f + 1 := ⟨9 - i, by omega⟩
      rw [hf, qdj f _ (by omega), show ((b - 128) + 128 * y) % 128 = b - 128 by omega, show ((b - 128) + 128 * y) / 128 = y by omega]
      rw [show f = 10 - (i + 1) by omega, List.map_cons, h2]
      obtain ⟨k, hk⟩ : ∃ k, m - i = k + 1 := ⟨m - i - 1, by omega⟩
      rw [hk, List.take_succ_cons, show m - (i + 1) = k by omega]
      congr 1
      show b - 128 + 128 = b
      omega
theorem qhy {l : List Nat} {x m : Nat} (hl : ∀ b ∈ l, b < 256) (h : vread l = (x, m, 0)) : vbytes x = l.take m := by
 obtain ⟨y, h1, h2, h3, _⟩ := qnd l 0 0 x m hl (by omega) h
 have : x = y := by simpa using h1
 subst this
 simpa [vbytes] using h2
theorem qhz : ∀ (j : Nat) (l xs : List Nat) (u : Nat), (∀ b ∈ l, b < 256) → readN j l = (xs, u, 0) → xs.flatMap vbytes = l.take u ∧ xs.length = j ∧ (∀ x ∈ xs, x < 18446744073709551616) ∧ u ≤ l.length
 | 0, l, xs, u, _, h => by
  simp only [readN, Prod.mk.injEq] at h
  obtain ⟨rfl, rfl, _⟩ := h
  simp
 | j + 1, l, xs, u, hl, h => by
  have hvl := qgo l
  have hvb := qgp l hl
  rw [readN] at h
  split at h
  ·rename_i h1; simp at h; exact absurd h.2.2 h1
  ·rename_i h1
   split at h
   ·rename_i h2; simp at h; exact absurd h.2.2 h2
   ·rename_i h2
    have hv : vread l = ((vread l).1, (vread l).2.1, 0) := by rw [← show (vread l).2.2 = 0 by omega]
    generalize (vread l).1 = x at hv h hvb
    generalize (vread l).2.1 = m at hv h hvl
    have hq : readN j (l.drop m) = ((readN j (l.drop m)).1, (readN j (l.drop m)).2.1, 0) := by
     rw [hv] at h2
     rw [← show (readN j (l.drop m)).2.2 = 0 by simpa using h2]
    generalize (readN j (l.drop m)).1 = ys at hq h
    generalize (readN j (l.drop m)).2.1 = n at hq h
    simp only [Prod.mk.injEq] at h
    obtain ⟨rfl, rfl, _⟩ := h
    obtain ⟨g1, g2, g3, g4⟩ := qhz j (l.drop m) ys n (fun b hb => hl b (List.mem_of_mem_drop hb)) hq
    rw [List.length_drop] at g4
    refine ⟨?_, by simp [g2], ?_, by omega⟩
    ·rw [List.flatMap_cons, g1, qhy hl hv, List.take_add]
    ·intro z hz
     rcases List.mem_cons.1 hz with rfl | hz
     ·exact hvb
     ·exact g3 z hz
theorem qvi (i : Nat) (h : i ≤ 8) : 2 ^ (64 - 7 * i) = 128 * 2 ^ (64 - 7 * (i + 1)) := by
 rw [show 64 - 7 * i = 7 + (64 - 7 * (i + 1)) by omega, Nat.pow_add]
theorem qvj (acc y i : Nat) : acc + (y % 128 + 128 - 128) * 128 ^ i + y / 128 * 128 ^ (i + 1) = acc + y * 128 ^ i := by
 rw [Nat.pow_succ, Nat.add_sub_cancel, Nat.add_assoc, Nat.mul_comm (128 ^ i) 128, ← Nat.mul_assoc, ← Nat.add_mul]
 congr 2
 omega
theorem qrz : ∀ (f y i acc : Nat) (rest : List Nat), i + f = 10 → 1 ≤ f → y < 2 ^ (64 - 7 * i) → (0 < i → 0 < y) →
  vgo i acc ((grp f y).map vbyte ++ rest) = (acc + y * 128 ^ i, i + (grp f y).length, 0)
 | 0, _, _, _, _, _, h, _, _ => by omega
 | f + 1, y, i, acc, rest, hi, _, hy, h0 => by
  have h9 : i = 9 → y < 2 := fun e => by subst e; simpa using hy
  by_cases h : y < 128
  ·rw [qfr f y h]
   show vgo i acc (y :: rest) = _
   rw [vgo, if_neg (by omega), if_neg (by omega), if_pos h]
   rfl
  ·rw [qdj f y (by omega)]
   show vgo i acc ((y % 128 + 128) :: ((grp f (y / 128)).map vbyte ++ rest)) = _
   have hi8 : i ≤ 8 := by
    rcases Nat.lt_or_ge i 9 with h | h
    ·omega
    ·have := h9 (by omega); omega
   have hy' : y / 128 < 2 ^ (64 - 7 * (i + 1)) := by
    rw [qvi i hi8] at hy
    exact Nat.div_lt_of_lt_mul hy
   rw [vgo, if_neg (by omega), if_neg (by omega), if_neg (by omega), qrz f (y / 128) (i + 1) _ rest (by omega) (by omega) hy' (fun _ => by omega), qvj]
   simp only [List.length_cons, Prod.mk.injEq, and_true, true_and]
   omega
theorem qr0 {y : Nat} (rest : List Nat) (hy : y < 18446744073709551616) : vread (vbytes y ++ rest) = (y, (vbytes y).length, 0) := by
 have := qrz 10 y 0 0 rest rfl (by omega) (by simpa using hy) (fun h => by omega)
 unfold vread vbytes
 rw [this]
 simp
theorem qgq : ∀ (xs rest : List Nat), (∀ x ∈ xs, x < 18446744073709551616) → readN xs.length (xs.flatMap vbytes ++ rest) = (xs, (xs.flatMap vbytes).length, 0)
 | [], _, _ => rfl
 | x :: xs, rest, h => by
  rw [List.length_cons, readN, List.flatMap_cons, List.append_assoc, qr0 _ (h x (by simp))]
  simp only [List.drop_left, ne_eq, not_true_eq_false, if_false]
  rw [qgq xs rest (fun z hz => h z (by simp [hz]))]
  simp
theorem qh0 : ∀ (k : Nat) (l xs : List Nat) (u x m : Nat), readN k l = (xs, u, 0) → vread (l.drop u) = (x, m, 0) → readN (k + 1) l = (xs ++ [x], u + m, 0)
 | 0, l, xs, u, x, m, h, h2 => by
  simp only [readN, Prod.mk.injEq] at h
  obtain ⟨rfl, rfl, _⟩ := h
  rw [List.drop_zero] at h2
  simp [readN, h2]
 | k + 1, l, xs, u, x, m, h, h2 => by
  rw [readN] at h
  split at h
  ·rename_i h1; simp at h; exact absurd h.2.2 h1
  ·rename_i h1
   split at h
   ·rename_i h3; simp at h; exact absurd h.2.2 h3
   ·rename_i h3
    simp only [Prod.mk.injEq] at h
    obtain ⟨rfl, rfl, _⟩ := h
    have hq : readN k (l.drop (vread l).2.1) = ((readN k (l.drop (vread l).2.1)).1, (readN k (l.drop (vread l).2.1)).2.1, 0) := by
     rw [← show (readN k (l.drop (vread l).2.1)).2.2 = 0 by omega]
    have h4 := qh0 k _ _ _ x m hq (by rwa [List.drop_drop])
    rw [readN, if_neg h1, h4, if_neg (by simp)]
    simp [Nat.add_assoc]
theorem qgr : ∀ (k j : Nat) (l xs : List Nat) (u : Nat), readN k l = (xs, u, 0) → (vread (l.drop u)).2.2 ≠ 0 → (readN (k + 1 + j) l).2.2 ≠ 0
 | 0, j, l, xs, u, h, h2 => by
  simp only [readN, Prod.mk.injEq] at h
  obtain ⟨rfl, rfl, _⟩ := h
  rw [List.drop_zero] at h2
  rw [show 0 + 1 + j = j + 1 by omega, readN, if_pos h2]
  exact h2
 | k + 1, j, l, xs, u, h, h2 => by
  rw [readN] at h
  split at h
  ·rename_i h1; simp at h; exact absurd h.2.2 h1
  ·rename_i h1
   split at h
   ·rename_i h3; simp at h; exact absurd h.2.2 h3
   ·rename_i h3
    simp only [Prod.mk.injEq] at h
    obtain ⟨rfl, rfl, _⟩ := h
    have hq : readN k (l.drop (vread l).2.1) = ((readN k (l.drop (vread l).2.1)).1, (readN k (l.drop (vread l).2.1)).2.1, 0) := by
     rw [← show (readN k (l.drop (vread l).2.1)).2.2 = 0 by omega]
    have h4 := qgr k j _ _ _ hq (by rwa [List.drop_drop])
    rw [show k + 1 + 1 + j = (k + 1 + j) + 1 by omega, readN, if_neg h1, if_pos h4]
    exact h4
theorem qne : ∀ (k : Nat) (l xs : List Nat) (u : Nat), readN k l = (xs, u, 0) → xs.length = k ∧ k ≤ u ∧ u ≤ l.length
 | 0, l, xs, u, h => by
  simp only [readN, Prod.mk.injEq] at h
  obtain ⟨rfl, rfl, _⟩ := h
  simp
 | k + 1, l, xs, u, h => by
  rw [readN] at h
  split at h
  ·rename_i h1; simp at h; exact absurd h.2.2 h1
  ·rename_i h1
   split at h
   ·rename_i h3; simp at h; exact absurd h.2.2 h3
   ·rename_i h3
    simp only [Prod.mk.injEq] at h
    obtain ⟨rfl, rfl, _⟩ := h
    have hq : readN k (l.drop (vread l).2.1) = ((readN k (l.drop (vread l).2.1)).1, (readN k (l.drop (vread l).2.1)).2.1, 0) := by
     rw [← show (readN k (l.drop (vread l).2.1)).2.2 = 0 by omega]
    obtain ⟨h4, h5, h6⟩ := qne k _ _ _ hq
    have h7 := qkk l (by omega)
    have h8 := qgo l
    rw [List.length_drop] at h6
    refine ⟨by simp [h4], by omega, by omega⟩
structure Pr where
 nx : Nat
 cp : Nat
 cr : Nat
 gp : Nat
 gs : List Nat
 cl : List Nat
 cu : List Nat
 tk : Nat
 ts : List Nat
 sp : List Nat
 e1 : Nat
 e2 : Nat
 e3 : Nat
 e4 : Nat
 e5 : Nat
 e6 : Nat
 e7 : Nat
section
variable {α : Type} {b : List Nat} {a x n u : Nat} {xs : List Nat}
def num1 (b : List Nat) (a : Nat) (k : Nat → Nat → Except Nat α) : Except Nat α := if (vread (b.drop a)).2.2 ≠ 0 then .error 344 else k (vread (b.drop a)).1 (a + (vread (b.drop a)).2.1)
def numK (b : List Nat) (n a : Nat) (k : List Nat → Nat → Except Nat α) : Except Nat α := if (readN n (b.drop a)).2.2 ≠ 0 then .error 344 else k (readN n (b.drop a)).1 (a + (readN n (b.drop a)).2.1)
def cnt1 (b : List Nat) (a lo hi : Nat) (k : Nat → Nat → Except Nat α) : Except Nat α := num1 b a fun x e => if x < lo ∨ hi < x then .error 345 else k x e
theorem ql3 {k : Nat → Nat → Except Nat α} (h : vread (b.drop a) = (x, n, 0)) : num1 b a k = k x (a + n) := by unfold num1; rw [h]; rfl
theorem qev {k : Nat → Nat → Except Nat α} (h : (vread (b.drop a)).2.2 ≠ 0) : num1 b a k = .error 344 := if_pos h
theorem qyy {k : List Nat → Nat → Except Nat α} (h : readN n (b.drop a) = (xs, u, 0)) : numK b n a k = k xs (a + u) := by unfold numK; rw [h]; rfl
theorem qbb {k : List Nat → Nat → Except Nat α} (h : (readN n (b.drop a)).2.2 ≠ 0) : numK b n a k = .error 344 := if_pos h
theorem qyz {k : Nat → Nat → Except Nat α} {lo hi : Nat} (h : vread (b.drop a) = (x, n, 0)) (h2 : ¬ (x < lo ∨ hi < x)) : cnt1 b a lo hi k = k x (a + n) := by unfold cnt1; rw [ql3 h, if_neg h2]
theorem qvk {k : Nat → Nat → Except Nat α} {lo hi : Nat} (h : vread (b.drop a) = (x, n, 0)) (h2 : x < lo ∨ hi < x) : cnt1 b a lo hi k = .error 345 := by unfold cnt1; rw [ql3 h, if_pos h2]
theorem qda {k : Nat → Nat → Except Nat α} {lo hi : Nat} (h : (vread (b.drop a)).2.2 ≠ 0) : cnt1 b a lo hi k = .error 344 := qev h
theorem qvl (b : List Nat) (a : Nat) : (vread (b.drop a)).2.2 ≠ 0 ∨ ∃ x n, vread (b.drop a) = (x, n, 0) := by
 by_cases h : (vread (b.drop a)).2.2 = 0
 ·exact .inr ⟨(vread (b.drop a)).1, (vread (b.drop a)).2.1, by rw [← h]⟩
 ·exact .inl h
theorem qvm (b : List Nat) (k a : Nat) : (readN k (b.drop a)).2.2 ≠ 0 ∨ ∃ xs u, readN k (b.drop a) = (xs, u, 0) := by
 by_cases h : (readN k (b.drop a)).2.2 = 0
 ·exact .inr ⟨(readN k (b.drop a)).1, (readN k (b.drop a)).2.1, by rw [← h]⟩
 ·exact .inl h
theorem qng (ha : a ≤ b.length) (h : vread (b.drop a) = (x, n, 0)) : 0 < n ∧ a + n ≤ b.length := by
 have h1 := qgo (b.drop a)
 have h2 := qkk (b.drop a) (by rw [h])
 rw [h] at h1 h2
 rw [List.length_drop] at h1
 exact ⟨h2, by simp only at h1; omega⟩
theorem qvn (ha : a ≤ b.length) (h : readN n (b.drop a) = (xs, u, 0)) : xs.length = n ∧ n ≤ u ∧ a + u ≤ b.length := by
 have h1 := qne _ _ _ _ h
 rw [List.length_drop] at h1
 omega
theorem qkq {l : List Nat} {er : Nat} (h : vread l = (x, n, er)) (h2 : (er : Int) ≠ 0) : (vread l).2.2 ≠ 0 := by rw [h]; show er ≠ 0; omega
theorem qr3 (hl : ∀ z ∈ b, z < 256) (h : vread (b.drop a) = (x, n, 0)) : x < 18446744073709551616 := by
 have := qgp (b.drop a) fun z hz => hl z (List.mem_of_mem_drop hz)
 rwa [h] at this
end
def NumAt (b : List Nat) (p x e : Nat) : Prop := vread (b.drop p) = (x, e - p, 0) ∧ p ≤ e
def qx (b : List Nat) (n p : Nat) (xs : List Nat) (e : Nat) : Prop := readN n (b.drop p) = (xs, e - p, 0) ∧ p ≤ e
section
variable {α : Type} {b : List Nat} {p x e n : Nat} {xs : List Nat}
theorem NumAt.eq (h : NumAt b p x e) : p + (e - p) = e := by have := h.2; omega
theorem qx.eq (h : qx b n p xs e) : p + (e - p) = e := by have := h.2; omega
theorem NumAt.of {m : Nat} (h : vread (b.drop p) = (x, m, 0)) : NumAt b p x (p + m) := ⟨by rw [h, Nat.add_sub_cancel_left], by omega⟩
theorem qx.of {m : Nat} (h : readN n (b.drop p) = (xs, m, 0)) : qx b n p xs (p + m) := ⟨by rw [h, Nat.add_sub_cancel_left], by omega⟩
theorem qh3 (b : List Nat) (p : Nat) : (vread (b.drop p)).2.2 ≠ 0 ∨ ∃ x e, NumAt b p x e := by
 rcases qvl b p with h | ⟨x, n, h⟩
 ·exact .inl h
 ·exact .inr ⟨x, _, .of h⟩
theorem qew (b : List Nat) (n p : Nat) : (readN n (b.drop p)).2.2 ≠ 0 ∨ ∃ xs e, qx b n p xs e := by
 rcases qvm b n p with h | ⟨xs, u, h⟩
 ·exact .inl h
 ·exact .inr ⟨xs, _, .of h⟩
theorem NumAt.go1 {k : Nat → Nat → Except Nat α} (h : NumAt b p x e) : num1 b p k = k x e := by rw [ql3 h.1, h.eq]
theorem qx.goK {k : List Nat → Nat → Except Nat α} (h : qx b n p xs e) : numK b n p k = k xs e := by rw [qyy h.1, h.eq]
theorem NumAt.goC {k : Nat → Nat → Except Nat α} {lo hi : Nat} (h : NumAt b p x e) (h2 : ¬ (x < lo ∨ hi < x)) : cnt1 b p lo hi k = k x e := by rw [qyz h.1 h2, h.eq]
theorem NumAt.bad {k : Nat → Nat → Except Nat α} {lo hi : Nat} (h : NumAt b p x e) (h2 : x < lo ∨ hi < x) : cnt1 b p lo hi k = .error 345 := qvk h.1 h2
theorem NumAt.in (h : NumAt b p x e) (hp : p ≤ b.length) : p < e ∧ e ≤ b.length := by have := qng hp h.1; have := h.2; omega
theorem qx.in (h : qx b n p xs e) (hp : p ≤ b.length) : xs.length = n ∧ p + n ≤ e ∧ e ≤ b.length := by have := qvn hp h.1; have := h.2; omega
theorem NumAt.lt (h : NumAt b p x e) (hl : ∀ z ∈ b, z < 256) : x < 18446744073709551616 := qr3 hl h.1
theorem NumAt.one {x2 e2 : Nat} (h : NumAt b p x e) (h2 : NumAt b p x2 e2) : x2 = x ∧ e2 = e := by
 have h3 := h.1.symm.trans h2.1
 injection h3 with h3 h4
 injection h4 with h4
 have := h.2
 have := h2.2
 exact ⟨h3.symm, by omega⟩
theorem qx.one {xs2 : List Nat} {e2 : Nat} (h : qx b n p xs e) (h2 : qx b n p xs2 e2) : xs2 = xs ∧ e2 = e := by
 have h3 := h.1.symm.trans h2.1
 injection h3 with h3 h4
 injection h4 with h4
 have := h.2
 have := h2.2
 exact ⟨h3.symm, by omega⟩
theorem qx.nil (b : List Nat) (p : Nat) : qx b 0 p [] p := ⟨by rw [Nat.sub_self]; rfl, Nat.le_refl _⟩
theorem qx.snoc {y f : Nat} (h : qx b n p xs e) (h2 : NumAt b e y f) : qx b (n + 1) p (xs ++ [y]) f := by
 have h3 := h.2
 have h4 := h2.2
 have := qh0 n _ xs (e - p) y (f - e) h.1 (by rw [List.drop_drop, h.eq]; exact h2.1)
 exact ⟨by rw [this]; congr 2; omega, by omega⟩
theorem qx.stuck {m : Nat} (h : qx b n p xs e) (hn : n < m) (h2 : (vread (b.drop e)).2.2 ≠ 0) : (readN m (b.drop p)).2.2 ≠ 0 := by
 have := qgr n (m - (n + 1)) _ xs (e - p) h.1 (by rw [List.drop_drop, h.eq]; exact h2)
 rwa [show n + 1 + (m - (n + 1)) = m by omega] at this
end
theorem q_le1 {q : List Nat} {x p e : Nat} (h : q.length ≤ p) (h2 : p < e) : (q ++ [x]).length ≤ e := by rw [List.length_append]; show q.length + 1 ≤ e; omega
theorem q_leK {q xs : List Nat} {p e n : Nat} (h : q.length ≤ p) (h2 : xs.length = n) (h3 : p + n ≤ e) : (q ++ xs).length ≤ e := by rw [List.length_append]; omega
theorem qnh (b : List Nat) (p lo hi : Nat) : (vread (b.drop p)).2.2 ≠ 0 ∨ (∃ x e, NumAt b p x e ∧ (x < lo ∨ hi < x)) ∨ ∃ x e, NumAt b p x e ∧ ¬ (x < lo ∨ hi < x) := by
 rcases qh3 b p with h | ⟨x, e, h⟩
 ·exact .inl h
 ·by_cases h2 : x < lo ∨ hi < x
  ·exact .inr (.inl ⟨x, e, h, h2⟩)
  ·exact .inr (.inr ⟨x, e, h, h2⟩)
theorem qgs {m n : Nat} (h : m * n ≤ 9223372036854775807) : Value.int .i64 (Go.IntKind.i64.wrap ((m : Int) * (n : Int))) = .int .i64 ((m * n : Nat) : Int) := by
 rw [← Int.natCast_mul]
 exact qc rfl h
def zh (l : List Sec) : Nat := (l.getD (l.length - 1) Sec.zero).to
theorem qvo {l : List Sec} (h : l.length = 0) : zh l = 0 := by rw [List.length_eq_zero_iff] at h; subst h; rfl
def prs10 (b : List Nat) (nx : Nat) (e1 : Nat) (cp : Nat) (a1 : Nat) (cr : Nat) (a2 : Nat) (gp : Nat) (e2 : Nat) (gs : List Nat) (e3 : Nat) (cl : List Nat) (e4 : Nat) (cu : List Nat) (e5 : Nat) (tk : Nat) (a3 : Nat) (ts : List Nat) (e6 : Nat) (sp : List Nat) (e7 : Nat) : Except Nat Pr := if e7 ≠ b.length then .error 346 else .ok ⟨nx, cp, cr, gp, gs, cl, cu, tk, ts, sp, e1, e2, e3, e4, e5, e6, e7⟩
def prs9 (b : List Nat) (nx : Nat) (e1 : Nat) (cp : Nat) (a1 : Nat) (cr : Nat) (a2 : Nat) (gp : Nat) (e2 : Nat) (gs : List Nat) (e3 : Nat) (cl : List Nat) (e4 : Nat) (cu : List Nat) (e5 : Nat) (tk : Nat) (a3 : Nat) (ts : List Nat) (e6 : Nat) : Except Nat Pr := numK b (cp + 3 * cp * (gp - 1)) e6 (prs10 b nx e1 cp a1 cr a2 gp e2 gs e3 cl e4 cu e5 tk a3 ts e6)
def prs8 (b : List Nat) (nx : Nat) (e1 : Nat) (cp : Nat) (a1 : Nat) (cr : Nat) (a2 : Nat) (gp : Nat) (e2 : Nat) (gs : List Nat) (e3 : Nat) (cl : List Nat) (e4 : Nat) (cu : List Nat) (e5 : Nat) (tk : Nat) (a3 : Nat) : Except Nat Pr := numK b (8 * tk) a3 (prs9 b nx e1 cp a1 cr a2 gp e2 gs e3 cl e4 cu e5 tk a3)
def prs7 (b : List Nat) (nx : Nat) (e1 : Nat) (cp : Nat) (a1 : Nat) (cr : Nat) (a2 : Nat) (gp : Nat) (e2 : Nat) (gs : List Nat) (e3 : Nat) (cl : List Nat) (e4 : Nat) (cu : List Nat) (e5 : Nat) : Except Nat Pr := cnt1 b e5 0 65535 (prs8 b nx e1 cp a1 cr a2 gp e2 gs e3 cl e4 cu e5)
def prs6 (b : List Nat) (nx : Nat) (e1 : Nat) (cp : Nat) (a1 : Nat) (cr : Nat) (a2 : Nat) (gp : Nat) (e2 : Nat) (gs : List Nat) (e3 : Nat) (cl : List Nat) (e4 : Nat) : Except Nat Pr := numK b cp e4 (prs7 b nx e1 cp a1 cr a2 gp e2 gs e3 cl e4)
def prs5 (b : List Nat) (nx : Nat) (e1 : Nat) (cp : Nat) (a1 : Nat) (cr : Nat) (a2 : Nat) (gp : Nat) (e2 : Nat) (gs : List Nat) (e3 : Nat) : Except Nat Pr := numK b cp e3 (prs6 b nx e1 cp a1 cr a2 gp e2 gs e3)
def prs4 (b : List Nat) (nx : Nat) (e1 : Nat) (cp : Nat) (a1 : Nat) (cr : Nat) (a2 : Nat) (gp : Nat) (e2 : Nat) : Except Nat Pr := numK b (2 * (gp - 1)) e2 (prs5 b nx e1 cp a1 cr a2 gp e2)
def prs3 (b : List Nat) (nx : Nat) (e1 : Nat) (cp : Nat) (a1 : Nat) (cr : Nat) (a2 : Nat) : Except Nat Pr := cnt1 b a2 1 256 (prs4 b nx e1 cp a1 cr a2)
def prs2 (b : List Nat) (nx : Nat) (e1 : Nat) (cp : Nat) (a1 : Nat) : Except Nat Pr := num1 b a1 (prs3 b nx e1 cp a1)
def prs1 (b : List Nat) (nx : Nat) (e1 : Nat) : Except Nat Pr := cnt1 b e1 1 64 (prs2 b nx e1)
def prs (b : List Nat) : Except Nat Pr := num1 b 3 (prs1 b)
def Pr.nums (p : Pr) : List Nat := [p.nx, p.cp, p.cr, p.gp] ++ p.gs ++ p.cl ++ p.cu ++ [p.tk] ++ p.ts ++ p.sp
def Pr.secs (p : Pr) : List Sec := [qm, ⟨qb 0, 3, p.e1⟩, ⟨qb 1, p.e1, p.e2⟩, ⟨qb 2, p.e2, p.e3⟩, ⟨qb 3, p.e3, p.e4⟩, ⟨qb 4, p.e4, p.e5⟩, ⟨qb 5, p.e5, p.e6⟩, ⟨qb 6, p.e6, p.e7⟩, ⟨⟨#[115, 117, 109]⟩, p.e7, p.e7 + 4⟩]
section
variable {α : Type} {b : List Nat} {a n : Nat} {er : Nat}
theorem qir {k : Nat → Nat → Except Nat α} (h : num1 b a k = .error er) : er = 344 ∨ ∃ x e, k x e = .error er := by
 unfold num1 at h
 split at h
 ·injection h with h; exact .inl h.symm
 ·exact .inr ⟨_, _, h⟩
theorem qdx {k : List Nat → Nat → Except Nat α} (h : numK b n a k = .error er) : er = 344 ∨ ∃ x e, k x e = .error er := by
 unfold numK at h
 split at h
 ·injection h with h; exact .inl h.symm
 ·exact .inr ⟨_, _, h⟩
theorem qis {lo hi : Nat} {k : Nat → Nat → Except Nat α} (h : cnt1 b a lo hi k = .error er) : (er = 344 ∨ er = 345) ∨ ∃ x e, k x e = .error er := by
 unfold cnt1 at h
 rcases qir h with h | ⟨x, e, h⟩
 ·exact .inl (.inl h)
 ·split at h
  ·injection h with h; exact .inl (.inr h.symm)
  ·exact .inr ⟨_, _, h⟩
end
theorem qr4 {b : List Nat} {er : Nat} (h : prs b = .error er) : 344 ≤ er ∧ er ≤ 346 := by
 rcases qir h with h | ⟨_, _, h⟩; · omega
 rcases qis h with h | ⟨_, _, h⟩; · omega
 rcases qir h with h | ⟨_, _, h⟩; · omega
 rcases qis h with h | ⟨_, _, h⟩; · omega
 rcases qdx h with h | ⟨_, _, h⟩; · omega
 rcases qdx h with h | ⟨_, _, h⟩; · omega
 rcases qdx h with h | ⟨_, _, h⟩; · omega
 rcases qis h with h | ⟨_, _, h⟩; · omega
 rcases qdx h with h | ⟨_, _, h⟩; · omega
 rcases qdx h with h | ⟨_, _, h⟩; · omega
 unfold prs10 at h
 split at h
 ·injection h with h; omega
 ·cases h
def opnR (l : List Nat) : Except Nat Pr :=
 if l.length < 15 then .error 340 else if 16777216 < l.length then .error 3 else if q0 l = false then .error 341 else
 if ¬ (l.getD 0 0 = 113 ∧ l.getD 1 0 = 115) then .error 342 else if l.getD 2 0 ≠ 1 then .error 343 else prs (l.take (l.length - 4))
section
variable {l : List Nat}
theorem qkr (h : l.length < 15) : opnR l = .error 340 := if_pos h
theorem qni (h : ¬ l.length < 15) (h2 : 16777216 < l.length) : opnR l = .error 3 := by unfold opnR; rw [if_neg h, if_pos h2]
theorem qr5 (h : ¬ l.length < 15) (h2 : ¬ 16777216 < l.length) (h3 : q0 l = false) : opnR l = .error 341 := by unfold opnR; rw [if_neg h, if_neg h2, if_pos h3]
theorem qdy (h : ¬ l.length < 15) (h2 : ¬ 16777216 < l.length) (h3 : q0 l = true) (h4 : ¬ (l.getD 0 0 = 113 ∧ l.getD 1 0 = 115)) : opnR l = .error 342 := by unfold opnR; rw [if_neg h, if_neg h2, h3, if_neg (by decide), if_pos h4]
theorem qgt (h : ¬ l.length < 15) (h2 : ¬ 16777216 < l.length) (h3 : q0 l = true) (h4 : l.getD 0 0 = 113 ∧ l.getD 1 0 = 115) (h5 : l.getD 2 0 ≠ 1) : opnR l = .error 343 := by unfold opnR; rw [if_neg h, if_neg h2, h3, if_neg (by decide), if_neg (fun x => x h4), if_pos h5]
theorem qr6 (h : ¬ l.length < 15) (h2 : ¬ 16777216 < l.length) (h3 : q0 l = true) (h4 : l.getD 0 0 = 113 ∧ l.getD 1 0 = 115) (h5 : l.getD 2 0 = 1) : opnR l = prs (l.take (l.length - 4)) := by unfold opnR; rw [if_neg h, if_neg h2, h3, if_neg (by decide), if_neg (fun x => x h4), if_neg (fun x => x h5)]
theorem qb8 {er : Nat} (h : opnR l = .error er) : 1 ≤ er ∧ er ≤ 346 := by
 unfold opnR at h
 split at h
 ·injection h with h; omega
 ·split at h
  ·injection h with h; omega
  ·split at h
   ·injection h with h; omega
   ·split at h
    ·injection h with h; omega
    ·split at h
     ·injection h with h; omega
     ·have := qr4 h; omega
end
def errR (l : List Nat) : Nat := match opnR l with
 | .ok _ => 0
 | .error k => k
def pnums (l : List Nat) : List Nat := match opnR l with
 | .ok p => p.nums
 | .error _ => []
def psecs (l : List Nat) : List Sec := match opnR l with
 | .ok p => p.secs
 | .error _ => []
section
variable {l : List Nat} {p : Pr} {k : Nat}
theorem qcn (h : opnR l = .ok p) : errR l = 0 := by unfold errR; rw [h]
theorem qdb (h : opnR l = .error k) : errR l = k := by unfold errR; rw [h]
theorem qit (h : opnR l = .ok p) : pnums l = p.nums := by unfold pnums; rw [h]
theorem qiu (h : opnR l = .error k) : pnums l = [] := by unfold pnums; rw [h]
theorem qdz (h : opnR l = .ok p) : psecs l = p.secs := by unfold psecs; rw [h]
theorem qd0 (h : opnR l = .error k) : psecs l = [] := by unfold psecs; rw [h]
end
theorem Mem.reBlk {W w : World} {fs : List Fact} (h : Mem W w fs) {i g : Nat} {cs ds : Array Value} {t : TypeId} (hi : fs[i]? = some (.blk g cs t)) (he : cs = ds) : Mem W w (fs.set i (.blk g ds t)) := by
 subst he
 obtain ⟨hl, h2⟩ := List.getElem?_eq_some_iff.1 hi
 rw [← h2, List.set_getElem_self]
 exact h
theorem rd_at {w : World} {B a c : Nat} {A : Option Addr} {b : List Nat} (h : Rd w B 1 A b.length (b.map B8)) (ha : a ≤ b.length) (hc : b.length ≤ c) : Rd w B 1 (if c = a then A else A.map (·.add (a * 1))) (b.drop a).length ((b.drop a).map B8) := by
 have h1 := h.q0a (i := a) (j := b.length) ha (Nat.le_refl _) hc
 rw [List.take_length] at h1
 rw [List.length_drop]
 exact h1
theorem qvp {A : Option Addr} {c : Nat} {l : List Nat} {w : World} {x n er : Nat} (h : vread l = (x, n, er)) (hr : Rd w w.heap.size 1 A l.length (l.map B8)) (hl : ∀ b ∈ l, b < 256) (hn : l.length ≤ 200000000000000) :
  Calls Tryz.prog 132 #[.slice A l.length c] w (Is w (.tuple #[.int .u64 (x : Int), .int .i64 (n : Int), .int .i64 (er : Int)])) := by
 have := qvh A l.length c l w hr hl hn
 rw [h] at this
 exact this
def errT : TypeId := 53
theorem qfm {W : World} {fs : List Fact} (k : Int) (w : World) (HW : Mem W w fs) : Calls Tryz.prog 109 #[.int .i64 k] w (Dies W fs (pan errT k)) := by
 refine qf1 (vs := [.int .i64 k]) Tryz.func109 rfl rfl (by kernel_rfl) (σ0 := [(0, .int .i64 k)]) rfl ?_
 intro a HF
 refine qa ?_
 refine fp HF 1 0 [(2, .int .i64 k)] fun a HF => ?_
 refine fy HF HW 1 rfl rfl rfl (Yl.makeInterface rfl rfl) fun a HF => ?_
 refine fo HF 2 rfl rfl ?_
 refine qyv HF rfl rfl ?_
 exact qbt HF ⟨rfl, HW⟩
theorem qr7 {W : World} {fs gs : List Fact} {i g : Nat} (k x : Int) (w : World) (HM : Mem W w fs) (hi : fs[i]? = some (.blk g #[.int .i64 x] errT)) (hg : fs.set i (.blk g #[.int .i64 k] errT) = gs) : CallsD Tryz.prog 104 [Value.pointer (some ⟨g, 0, none⟩)].toArray (.panicking (pan errT k)) w (Caught W gs) := by
 subst hg
 refine qe8 Tryz.func104 rfl rfl (by kernel_rfl) (σ0 := [(0, .pointer (some ⟨g, 0, none⟩))]) rfl fun c₀ cs a hu HF => ?_
 refine wpS_seq (wpS_region ?_)
 refine qe7 (i := 0) (v := .iface errT (.int .i64 k)) (cs' := { c₀ with mode := .panicking [{ v := .iface errT (.int .i64 k), recovered := true }] } :: cs) HF rfl rfl rfl rfl (by decide) (.inl (by unfold pan at hu; simp [recoverD, hu])) fun a HF => ?_
 refine qko (i := 1) HF rfl rfl rfl rfl (by decide) fun a HF => ?_
 refine wpS_of_wp (wp_seq ?_)
 refine qa ?_
 refine fp HF 1 0 [(6, .iface errT (.int .i64 k))] fun a HF => ?_
 refine fy HF HM 1 rfl rfl rfl (Yl.qws rfl rfl) fun a HF => ?_
 refine fp HF 5 2 [(2, .int .i64 k), (3, .bool true)] fun a HF => ?_
 refine qa7 rfl ?_
 refine wp_seq (wp_seq ?_)
 refine qa ?_
 refine fp HF 1 0 [(10, .iface errT (.int .i64 k))] fun a HF => ?_
 refine fy HF HM 1 rfl rfl rfl (Yl.q0b rfl rfl rfl) fun a HF => ?_
 refine fp HF 4 2 [(15, .bool false)] fun a HF => ?_
 refine qa7 rfl ?_
 refine qen HF rfl (wp_skip ?_)
 refine qa ?_
 refine fp HF 1 0 [(17, .int .i64 k)] fun a HF => ?_
 refine fo HF 1 rfl rfl ?_
 refine qlf HF HM (i := i) rfl rfl rfl rfl (by kernel_rfl) rfl hi (by simp) ?_
 clear HM; intro w2 HM
 refine qa7 rfl ?_
 exact qkp rfl HF ⟨rfl, rfl, HM⟩
theorem qpb {W : World} {fs gs : List Fact} {i g : Nat} (x : Int) (w : World) (HM : Mem W w fs) (hi : fs[i]? = some (.blk g #[.int .i64 x] errT)) (hg : fs.set i (.blk g #[.int .i64 0] errT) = gs) : CallsD Tryz.prog 104 [Value.pointer (some ⟨g, 0, none⟩)].toArray .returning w (Caught W gs) := by
 subst hg
 refine qe8 Tryz.func104 rfl rfl (by kernel_rfl) (σ0 := [(0, .pointer (some ⟨g, 0, none⟩))]) rfl fun c₀ cs a hu HF => ?_
 refine wpS_seq (wpS_region ?_)
 refine qe7 (i := 0) (v := .nilIface) (cs' := c₀ :: cs) HF rfl rfl rfl rfl (by decide) (.inr ⟨by simp [recoverD, hu], rfl, rfl⟩) fun a HF => ?_
 refine qko (i := 1) HF rfl rfl rfl rfl (by decide) fun a HF => ?_
 refine wpS_of_wp (wp_seq ?_)
 refine qa ?_
 refine fp HF 1 0 [(6, .nilIface)] fun a HF => ?_
 refine fy HF HM 1 rfl rfl rfl (Yl.qt7 (z := .int .i64 0) rfl rfl (by kernel_rfl)) fun a HF => ?_
 refine fp HF 5 2 [(2, .int .i64 0), (3, .bool false)] fun a HF => ?_
 refine qa7 rfl ?_
 refine wp_seq (wp_seq ?_)
 refine qa ?_
 refine fp HF 1 0 [(10, .nilIface)] fun a HF => ?_
 refine fy HF HM 1 rfl rfl rfl (Yl.q14 rfl rfl) fun a HF => ?_
 refine fp HF 4 2 [(15, .bool false)] fun a HF => ?_
 refine qa7 rfl ?_
 refine qen HF rfl (wp_skip ?_)
 refine qa ?_
 refine fp HF 1 0 [(17, .int .i64 0)] fun a HF => ?_
 refine fo HF 1 rfl rfl ?_
 refine qlf HF HM (i := i) rfl rfl rfl rfl (by kernel_rfl) rfl hi (by simp) ?_
 clear HM; intro w2 HM
 refine qa7 rfl ?_
 have hc : c₀ = { c₀ with mode := FrameMode.returning } := by cases c₀; simp at hu; rw [hu]
 rw [hc]
 exact qkp rfl HF ⟨rfl, rfl, HM⟩
section
variable {α : Type} {b : List Nat} {a n : Nat} {p : α}
theorem qfn {k : Nat → Nat → Except Nat α} (h : num1 b a k = .ok p) : ∃ x e, NumAt b a x e ∧ k x e = .ok p := by
 rcases qh3 b a with h2 | ⟨x, e, h2⟩
 ·rw [qev h2] at h; cases h
 ·rw [h2.go1] at h; exact ⟨x, e, h2, h⟩
theorem qax {k : List Nat → Nat → Except Nat α} (h : numK b n a k = .ok p) : ∃ xs e, qx b n a xs e ∧ k xs e = .ok p := by
 rcases qew b n a with h2 | ⟨x, e, h2⟩
 ·rw [qbb h2] at h; cases h
 ·rw [h2.goK] at h; exact ⟨x, e, h2, h⟩
theorem qcw {lo hi : Nat} {k : Nat → Nat → Except Nat α} (h : cnt1 b a lo hi k = .ok p) : ∃ x e, NumAt b a x e ∧ (lo ≤ x ∧ x ≤ hi) ∧ k x e = .ok p := by
 rcases qnh b a lo hi with h2 | ⟨x, e, h2, h3⟩ | ⟨x, e, h2, h3⟩
 ·rw [qda h2] at h; cases h
 ·rw [h2.bad h3] at h; cases h
 ·rw [h2.goC h3] at h; exact ⟨x, e, h2, by omega, h⟩
end
section
variable {b : List Nat} {p x e n : Nat} {xs : List Nat}
theorem NumAt.bytes (h : NumAt b p x e) (hl : ∀ z ∈ b, z < 256) : b.drop p = vbytes x ++ b.drop e := by
 rw [qhy (fun z hz => hl z (List.mem_of_mem_drop hz)) h.1]
 have := List.take_append_drop (e - p) (b.drop p)
 rw [List.drop_drop, h.eq] at this
 exact this.symm
theorem qx.bytes (h : qx b n p xs e) (hl : ∀ z ∈ b, z < 256) : b.drop p = xs.flatMap vbytes ++ b.drop e ∧ ∀ x ∈ xs, x < 18446744073709551616 := by
 obtain ⟨h1, _, h3, _⟩ := qhz n _ xs _ (fun z hz => hl z (List.mem_of_mem_drop hz)) h.1
 refine ⟨?_, h3⟩
 rw [h1]
 have := List.take_append_drop (e - p) (b.drop p)
 rw [List.drop_drop, h.eq] at this
 exact this.symm
end
structure Pr.Fit (p : Pr) : Prop where
 cp1 : 1 ≤ p.cp
 cp2 : p.cp ≤ 64
 gp1 : 1 ≤ p.gp
 gp2 : p.gp ≤ 256
 tk : p.tk ≤ 65535
 gs : p.gs.length = 2 * (p.gp - 1)
 cl : p.cl.length = p.cp
 cu : p.cu.length = p.cp
 ts : p.ts.length = 8 * p.tk
 sp : p.sp.length = p.cp + 3 * p.cp * (p.gp - 1)
 lt : ∀ x ∈ p.nums, x < 18446744073709551616
theorem qy0 {b : List Nat} {p : Pr} (hb : 3 ≤ b.length) (hl : ∀ z ∈ b, z < 256) (h : prs b = .ok p) : p.Fit ∧ b.drop 3 = p.nums.flatMap vbytes := by
 obtain ⟨nx, e1, h1, h⟩ := qfn h
 obtain ⟨cp, a1, h2, c2, h⟩ := qcw h
 obtain ⟨cr, a2, h3, h⟩ := qfn h
 obtain ⟨gp, e2, h4, c4, h⟩ := qcw h
 obtain ⟨gs, e3, h5, h⟩ := qax h
 obtain ⟨cl, e4, h6, h⟩ := qax h
 obtain ⟨cu, e5, h7, h⟩ := qax h
 obtain ⟨tk, a3, h8, c8, h⟩ := qcw h
 obtain ⟨ts, e6, h9, h⟩ := qax h
 obtain ⟨sp, e7, h10, h⟩ := qax h
 unfold prs10 at h
 split at h
 ·cases h
 rename_i he
 injection h with h
 subst h
 have i1 := h1.in hb
 have i2 := h2.in i1.2
 have i3 := h3.in i2.2
 have i4 := h4.in i3.2
 have i5 := h5.in i4.2
 have i6 := h6.in i5.2.2
 have i7 := h7.in i6.2.2
 have i8 := h8.in i7.2.2
 have i9 := h9.in i8.2
 have i10 := h10.in i9.2.2
 have b5 := h5.bytes hl
 have b6 := h6.bytes hl
 have b7 := h7.bytes hl
 have b9 := h9.bytes hl
 have b10 := h10.bytes hl
 have hend : b.drop e7 = [] := List.drop_eq_nil_of_le (by omega)
 refine ⟨⟨c2.1, c2.2, c4.1, c4.2, c8.2, i5.1, i6.1, i7.1, i9.1, i10.1, fun x hx => ?_⟩, ?_⟩
 ·simp only [Pr.nums, List.mem_append, List.mem_cons, List.not_mem_nil, or_false] at hx
  rcases hx with (((((((rfl | rfl | rfl | rfl) | hx) | hx) | hx) | rfl) | hx) | hx)
  ·exact h1.lt hl
  ·exact h2.lt hl
  ·exact h3.lt hl
  ·exact h4.lt hl
  ·exact b5.2 x hx
  ·exact b6.2 x hx
  ·exact b7.2 x hx
  ·exact h8.lt hl
  ·exact b9.2 x hx
  ·exact b10.2 x hx
 ·rw [h1.bytes hl, h2.bytes hl, h3.bytes hl, h4.bytes hl, b5.1, b6.1, b7.1, h8.bytes hl, b9.1, b10.1, hend]
  simp [Pr.nums]
def toI (x : Nat) : Int := Go.IntKind.i64.wrap (x : Int)
def mostI : Nat := 4611686018427387904
def mapR {α : Type} (n : Nat) (f : Nat → α) : List α := (List.range n).map f
theorem zq {α : Type} (n : Nat) (f : Nat → α) : (mapR n f).length = n := by simp [mapR]
theorem q1 {α : Type} (n : Nat) (f : Nat → α) : mapR (n + 1) f = mapR n f ++ [f n] := by unfold mapR; rw [List.range_succ, List.map_append]; rfl
theorem qdc {α : Type} {n i : Nat} {f : Nat → α} {d : α} (h : i < n) : (mapR n f).getD i d = f i := by
 unfold mapR
 rw [List.getD_eq_getElem?_getD, List.getElem?_map, List.getElem?_range h]
 rfl
theorem qnj {α β : Type} (n : Nat) (f : Nat → α) (g : α → β) : (mapR n f).map g = mapR n fun i => g (f i) := by unfold mapR; rw [List.map_map]; rfl
theorem qd1 {l : List Nat} {n : Nat} (h : l.length = n) (f : Nat → Int) : (mapR n fun i => f (l.getD i 0)) = l.map f := by
 subst h
 refine List.ext_getElem (by simp [mapR]) fun i h1 h2 => ?_
 have h3 : i < l.length := by simpa using h2
 simp [mapR, List.getElem?_eq_getElem h3]
def Pr.grp (p : Pr) (g : Nat) : Gr := if g = 0 then ⟨0, 1⟩ else ⟨toI (p.gs.getD (2 * (g - 1)) 0), toI (p.gs.getD (2 * (g - 1) + 1) 0)⟩
def Pr.tn (p : Pr) (i j : Nat) : Nat := p.ts.getD (8 * i + j) 0
def Pr.idB (p : Pr) : Nat → Int
 | 0 => 0
 | i + 1 => if 65535 < Go.IntKind.i64.wrap (p.idB i + toI (p.tn i 0)) then 65535 else Go.IntKind.i64.wrap (p.idB i + toI (p.tn i 0))
def Pr.idA (p : Pr) (i : Nat) : Int := Go.IntKind.i64.wrap (p.idB i + toI (p.tn i 0))
def Pr.tsk (p : Pr) (i : Nat) : Tk := ⟨p.idA i, toI (p.tn i 1), toI (p.tn i 2), toI (p.tn i 3), p.tn i 4, decide (p.tn i 5 = 1), p.tn i 6, p.tn i 7 % 4294967296⟩
def Pr.so (p : Pr) (g c : Nat) : Nat := if g = 0 then c else p.cp + 3 * p.cp * (g - 1) + 3 * c
def Pr.sn (p : Pr) (g c j : Nat) : Nat := p.sp.getD (p.so g c + j) 0
def Pr.spt (p : Pr) (g c : Nat) : Sp := if g = 0 then ⟨0, 0, p.sn g c 0⟩ else ⟨p.sn g c 0, p.sn g c 1 % 4294967296, p.sn g c 2⟩
def Pr.row (p : Pr) (g : Nat) : List Sp := mapR p.cp (p.spt g)
def Pr.snA (p : Pr) : Snm := ⟨toI p.nx, ⟨(p.cp : Int), p.cr, none, 0, mapR p.gp p.grp, none, 0, p.cl.map toI, none, 0, p.cu.map toI, none, 0, mapR p.tk p.tsk, none, 0, mapR p.gp fun g => ⟨none, 0, p.row g⟩⟩⟩
def dle (x m : Nat) : Bool := decide (x ≤ m)
def Pr.ok0 (p : Pr) : Bool := (((true && dle p.nx mostI) && dle p.cp mostI) && dle p.cr 18446744073709551615) && dle p.gp mostI
def Pr.okG (p : Pr) : Nat → Bool
 | 0 => p.ok0
 | g + 1 => if g = 0 then p.ok0 else (p.okG g && dle (p.gs.getD (2 * (g - 1)) 0) mostI) && dle (p.gs.getD (2 * (g - 1) + 1) 0) mostI
def Pr.okC (p : Pr) : Nat → Bool
 | 0 => p.okG p.gp
 | k + 1 => p.okC k && dle (p.cl.getD k 0) mostI
def Pr.okU (p : Pr) : Nat → Bool
 | 0 => p.okC p.cp
 | k + 1 => p.okU k && dle (p.cu.getD k 0) mostI
def Pr.okT (p : Pr) : Nat → Bool
 | 0 => p.okU p.cp && dle p.tk mostI
 | i + 1 => ((((((((p.okT i && dle (p.tn i 0) mostI) && dle (p.tn i 1) mostI) && dle (p.tn i 2) mostI) && dle (p.tn i 3) mostI) && dle (p.tn i 4) 18446744073709551615) && dle (p.tn i 5) 1) && dle (p.tn i 6) 18446744073709551615) && dle (p.tn i 7) 4294967295) && decide (p.idA i ≤ 65535)
def Pr.okR (p : Pr) (base : Bool) (g : Nat) : Nat → Bool
 | 0 => base
 | c + 1 => if g = 0 then p.okR base g c && dle (p.sn g c 0) 18446744073709551615 else ((p.okR base g c && dle (p.sn g c 0) 18446744073709551615) && dle (p.sn g c 1) 4294967295) && dle (p.sn g c 2) 18446744073709551615
def Pr.okS (p : Pr) : Nat → Bool
 | 0 => p.okT p.tk
 | g + 1 => p.okR (p.okS g) g p.cp
def Pr.okB (p : Pr) : Bool := p.okS p.gp
section
variable {p : Pr} (h : p.Fit)
def Pr.oC (p : Pr) : Nat := 4 + 2 * (p.gp - 1)
def Pr.oT (p : Pr) : Nat := p.oC + 2 * p.cp
def Pr.oS (p : Pr) : Nat := p.oT + 1 + 8 * p.tk
theorem qbc {l m : List Nat} {k : Nat} (hk : k < l.length) : (l ++ m).getD k 0 = l.getD k 0 := by
 rw [List.getD_eq_getElem?_getD, List.getElem?_append_left hk, ← List.getD_eq_getElem?_getD]
theorem qbd {l m : List Nat} {k j : Nat} (hk : k = l.length + j) : (l ++ m).getD k 0 = m.getD j 0 := by
 rw [List.getD_eq_getElem?_getD, List.getElem?_append_right (by omega), ← List.getD_eq_getElem?_getD, hk, Nat.add_sub_cancel_left]
theorem qvq (p : Pr) : p.nums.getD 0 0 = p.nx ∧ p.nums.getD 1 0 = p.cp ∧ p.nums.getD 2 0 = p.cr ∧ p.nums.getD 3 0 = p.gp := by
 unfold Pr.nums
 simp [List.append_assoc]
include h in
theorem qnk : p.nums.length = p.oS + p.sp.length ∧ p.sp.length = p.cp + 3 * p.cp * (p.gp - 1) := by
 unfold Pr.nums Pr.oS Pr.oT Pr.oC
 simp only [List.length_append, List.length_cons, List.length_nil, h.gs, h.cl, h.cu, h.ts]
 exact ⟨by omega, h.sp⟩
include h in
theorem qr8 {j : Nat} (hj : j < 2 * (p.gp - 1)) : p.nums.getD (4 + j) 0 = p.gs.getD j 0 := by
 have := h.gs
 unfold Pr.nums
 rw [List.append_assoc, List.append_assoc, List.append_assoc, List.append_assoc, List.append_assoc, qbd (l := [p.nx, p.cp, p.cr, p.gp]) (k := 4 + j) (j := j) rfl, qbc (by omega)]
include h in
theorem qy1 {j : Nat} (hj : j < p.cp) : p.nums.getD (p.oC + j) 0 = p.cl.getD j 0 := by
 have := h.gs
 have := h.cl
 unfold Pr.nums Pr.oC
 rw [List.append_assoc, List.append_assoc, List.append_assoc, List.append_assoc, qbd (j := j) (by simp only [List.length_append, List.length_cons, List.length_nil]; omega), qbc (by omega)]
include h in
theorem qy2 {j : Nat} (hj : j < p.cp) : p.nums.getD (p.oC + p.cp + j) 0 = p.cu.getD j 0 := by
 have := h.gs
 have := h.cl
 have := h.cu
 unfold Pr.nums Pr.oC
 rw [List.append_assoc, List.append_assoc, List.append_assoc, qbd (j := j) (by simp only [List.length_append, List.length_cons, List.length_nil]; omega), qbc (by omega)]
include h in
theorem qy3 : p.nums.getD p.oT 0 = p.tk := by
 have := h.gs
 have := h.cl
 have := h.cu
 unfold Pr.nums Pr.oT Pr.oC
 rw [List.append_assoc, List.append_assoc, qbd (j := 0) (by simp only [List.length_append, List.length_cons, List.length_nil]; omega)]
 rfl
include h in
theorem qco {j : Nat} (hj : j < 8 * p.tk) : p.nums.getD (p.oT + 1 + j) 0 = p.ts.getD j 0 := by
 have := h.gs
 have := h.cl
 have := h.cu
 have := h.ts
 unfold Pr.nums Pr.oT Pr.oC
 rw [List.append_assoc, qbd (j := j) (by simp only [List.length_append, List.length_cons, List.length_nil]; omega), qbc (by omega)]
include h in
theorem qiv (j : Nat) : p.nums.getD (p.oS + j) 0 = p.sp.getD j 0 := by
 have := h.gs
 have := h.cl
 have := h.cu
 have := h.ts
 unfold Pr.nums Pr.oS Pr.oT Pr.oC
 rw [qbd (j := j) (by simp only [List.length_append, List.length_cons, List.length_nil]; omega)]
theorem qb9 (p : Pr) (c : Nat) : p.so 0 c = c := if_pos rfl
theorem qbu {g : Nat} (hg : 0 < g) (c : Nat) : p.so g c = p.cp + 3 * p.cp * (g - 1) + 3 * c := if_neg (by omega)
theorem qgu {g : Nat} : p.so (g + 1) 0 = p.so g p.cp := by
 rw [qbu (by omega)]
 rcases Nat.eq_zero_or_pos g with h0 | h0
 ·subst h0; rw [qb9]; omega
 ·rw [qbu h0, show g + 1 - 1 = (g - 1) + 1 by omega, Nat.mul_succ]; omega
include h in
theorem so_in {g c : Nat} (hg : g < p.gp) (hc : c < p.cp) : p.so g c + (if g = 0 then 1 else 3) ≤ p.sp.length := by
 rw [h.sp]
 rcases Nat.eq_zero_or_pos g with h0 | h0
 ·subst h0; rw [qb9, if_pos rfl]; omega
 ·rw [qbu h0, if_neg (by omega)]
  have : 3 * p.cp * (g - 1) + 3 * p.cp ≤ 3 * p.cp * (p.gp - 1) := by
   rw [← Nat.mul_succ]
   exact Nat.mul_le_mul_left _ (by omega)
  omega
end
def srcA (A : Option Addr) (c : Nat) : Nat → Option Addr
 | 0 => A
 | k + 1 => if c - k = 1 then srcA A c k else (srcA A c k).map (·.add (1 * 1))
theorem qr9 {w : World} {B c : Nat} {A : Option Addr} {q : List Nat} (h : Rd w B 1 A q.length (q.map U64)) (hc : q.length ≤ c) : ∀ k, k ≤ q.length → Rd w B 1 (srcA A c k) (q.length - k) ((q.drop k).map U64)
 | 0, _ => h
 | k + 1, hk => by
  have h1 := qr9 h hc k (by omega)
  have h2 := h1.mid (i := 1) (j := q.length - k) (c := c - k) (by omega) (Nat.le_refl _) (by omega)
  simp only [Nat.mul_one] at h2
  rw [← List.map_take, ← List.map_drop, List.take_of_length_le (by rw [List.length_drop]; omega), List.drop_drop] at h2
  rw [show q.length - (k + 1) = q.length - k - 1 by omega]
  exact h2
theorem q02 {w : World} {B c k gS oS : Nat} {A : Option Addr} {q : List Nat} (h : Rd w B 1 A q.length (q.map U64)) (hc : q.length ≤ c) (hk : k < q.length) (hA : srcA A c k = some ⟨gS, oS, none⟩) : w.cell? ⟨gS, oS, none⟩ = some (.int .u64 (q.getD k 0 : Int)) := by
 have h1 := qr9 h hc k (by omega)
 rw [hA] at h1
 have h2 := h1.zn (k := 0) (zk (F := U64) (x := q.getD k 0) (by rw [List.getElem?_drop, List.getD_eq_getElem?_getD, Nat.add_zero, List.getElem?_eq_getElem hk]; rfl))
 rwa [Nat.zero_mul, Nat.add_zero] at h2
theorem qiw (x : Nat) : toI x = ((x : Int) + 9223372036854775808) % 18446744073709551616 - 9223372036854775808 := by unfold toI; rw [Go.IntKind.wrap_i64]
theorem qdd {x : Nat} (h : x < 18446744073709551616) : toU (toI x) = x := by rw [qiw]; unfold toU; omega
theorem qy4 {x : Nat} (h : x < 18446744073709551616) (h0 : 0 ≤ toI x) : toI x = x := by rw [qiw] at *; omega
theorem qix {x : Nat} (h : x ≤ 4611686018427387904) : toI x = x := by rw [qiw]; omega
theorem qnl {a : Int} {x : Nat} (h : x < 18446744073709551616) : toU (Go.IntKind.i64.wrap (a + toI x) - a) = x := by rw [Go.IntKind.wrap_i64, qiw]; unfold toU; omega
def Pr.idC (p : Pr) : Nat → Int
 | 0 => 0
 | i + 1 => Go.IntKind.i64.wrap (p.idC i + toI (p.tn i 0))
def Pr.tskB (p : Pr) (i : Nat) : Tk := ⟨p.idC (i + 1), toI (p.tn i 1), toI (p.tn i 2), toI (p.tn i 3), p.tn i 4, decide (0 < p.tn i 5), p.tn i 6, p.tn i 7 % 4294967296⟩
def Pr.snB (p : Pr) : Snm := ⟨toI p.nx, ⟨(p.cp : Int), p.cr, none, 0, mapR p.gp p.grp, none, 0, p.cl.map toI, none, 0, p.cu.map toI, none, 0, mapR p.tk p.tskB, none, 0, mapR p.gp fun g => ⟨none, 0, p.row g⟩⟩⟩
theorem qxa (p : Pr) (i : Nat) : p.idB (i + 1) = if 65535 < p.idA i then 65535 else p.idA i := rfl
theorem id_A {p : Pr} : ∀ i, (∀ j, j < i → p.idA j ≤ 65535) → p.idB i = p.idC i
 | 0, _ => rfl
 | i + 1, h => by
  have h1 := id_A i fun j hj => h j (by omega)
  have h2 := h i (by omega)
  rw [qxa, if_neg (by omega)]
  unfold Pr.idA
  rw [h1]
  rfl
theorem id_C {p : Pr} : ∀ i, (∀ j, j < i → p.idC (j + 1) ≤ 65535) → p.idB i = p.idC i
 | 0, _ => rfl
 | i + 1, h => by
  have h1 := id_C i fun j hj => h j (by omega)
  have h2 := h i (by omega)
  have h3 : p.idA i = p.idC (i + 1) := by unfold Pr.idA; rw [h1]; rfl
  rw [qxa, if_neg (by omega), h3]
theorem idA_C {p : Pr} {i : Nat} (h : p.idB i = p.idC i) : p.idA i = p.idC (i + 1) := by unfold Pr.idA; rw [h]; rfl
theorem qgv {α : Type} (l : List α) (o : Nat → Nat) (h0 : o 0 = 0) (ho : ∀ i, o i ≤ o (i + 1)) : ∀ k, (upF k fun i => (l.drop (o i)).take (o (i + 1) - o i)) = l.take (o k)
 | 0 => by rw [qcr, h0, List.take_zero]
 | k + 1 => by
  rw [qq, qgv l o h0 ho k, ← List.take_add]
  congr 1
  have := ho k
  omega
theorem ql4 (l : List Nat) : ∀ (m a : Nat), a + m ≤ l.length → (l.drop a).take m = (List.range m).map fun j => l.getD (a + j) 0
 | 0, a, _ => rfl
 | m + 1, a, h => by
  rw [List.take_add_one, ql4 l m a (by omega), List.range_succ, List.map_append, List.getElem?_drop, List.getElem?_eq_getElem (by omega)]
  simp [List.getElem?_eq_getElem (show a + m < l.length by omega)]
theorem zt {α : Type} {f g : Nat → List α} {k : Nat} (h : ∀ i, i < k → f i = g i) : upF k f = upF k g := qfl k h
theorem qcx {l : List Nat} {m k : Nat} (h : l.length = m * k) : l = upF k fun i => (List.range m).map fun j => l.getD (m * i + j) 0 := by
 have h1 := qgv l (fun i => m * i) rfl (fun i => by show m * i ≤ m * (i + 1); rw [Nat.mul_succ]; omega) k
 rw [List.take_of_length_le (show l.length ≤ m * k by omega)] at h1
 refine h1.symm.trans (zt fun i hi => ?_)
 show (l.drop (m * i)).take (m * (i + 1) - m * i) = _
 have h2 : m * (i + 1) ≤ m * k := Nat.mul_le_mul_left _ hi
 rw [Nat.mul_succ] at h2
 rw [Nat.mul_succ, Nat.add_sub_cancel_left, ql4 l m _ (by omega)]
theorem qgw {α : Type} {f g : Nat → List α} : ∀ k, (∀ i, i < k → (f i).length = (g i).length) → upF k f = upF k g → ∀ i, i < k → f i = g i
 | 0, _, _ => fun i hi => by omega
 | k + 1, hl, h => fun i hi => by
  rw [qq, qq] at h
  have h1 : (upF k f).length = (upF k g).length := by
   have := congrArg List.length h
   rw [List.length_append, List.length_append, hl k (by omega)] at this
   omega
  obtain ⟨h2, h3⟩ := List.append_inj h h1
  rcases Nat.lt_or_ge i k with h4 | h4
  ·exact qgw k (fun i hi => hl i (by omega)) h2 i h4
  ·obtain rfl : i = k := by omega
   exact h3
theorem qex {α : Type} {f g : Nat → List α} : ∀ k, (∀ i, i < k → (f i).length = (g i).length) → (upF k f).length = (upF k g).length
 | 0, _ => rfl
 | k + 1, h => by rw [qq, qq, List.length_append, List.length_append, qex k (fun i hi => h i (by omega)), h k (by omega)]
def Pr.sec (p : Pr) : Nat → List Nat
 | 0 => [p.nx]
 | 1 => [p.cp, p.cr, p.gp]
 | 2 => p.gs
 | 3 => p.cl
 | 4 => p.cu
 | 5 => p.tk :: p.ts
 | 6 => p.sp
 | _ => []
theorem qnm (p : Pr) : p.nums = upF 7 p.sec := by
 rw [qq, qq, qq, qq, qq, qq, qq, qcr]
 simp [Pr.nums, Pr.sec]
structure Pr.Low (p : Pr) : Prop where
 t5 : ∀ i, i < p.tk → p.tn i 5 ≤ 1
 t7 : ∀ i, i < p.tk → p.tn i 7 ≤ 4294967295
 s1 : ∀ g, g < p.gp → 0 < g → ∀ c, c < p.cp → p.sn g c 1 ≤ 4294967295
section
variable {p : Pr}
theorem q03 (x : Nat) (h : x ∈ p.gs) : x ∈ p.nums := by simp [Pr.nums, h]
theorem qxb (x : Nat) (h : x ∈ p.cl) : x ∈ p.nums := by simp [Pr.nums, h]
theorem qxc (x : Nat) (h : x ∈ p.cu) : x ∈ p.nums := by simp [Pr.nums, h]
theorem q04 (x : Nat) (h : x ∈ p.ts) : x ∈ p.nums := by simp [Pr.nums, h]
theorem q05 (x : Nat) (h : x ∈ p.sp) : x ∈ p.nums := by simp [Pr.nums, h]
theorem qd2 {l : List Nat} {n : Nat} (h : ∀ x ∈ l, x < n) (hn : 0 < n) (k : Nat) : l.getD k 0 < n := by
 rw [List.getD_eq_getElem?_getD]
 rcases Nat.lt_or_ge k l.length with h1 | h1
 ·rw [List.getElem?_eq_getElem h1]; exact h _ (List.getElem_mem h1)
 ·rw [List.getElem?_eq_none h1]; exact hn
variable (h : p.Fit)
include h
theorem gs_lt (k : Nat) : p.gs.getD k 0 < 18446744073709551616 := qd2 (fun x hx => h.lt x (q03 x hx)) (by decide) k
theorem cl_lt (k : Nat) : p.cl.getD k 0 < 18446744073709551616 := qd2 (fun x hx => h.lt x (qxb x hx)) (by decide) k
theorem cu_lt (k : Nat) : p.cu.getD k 0 < 18446744073709551616 := qd2 (fun x hx => h.lt x (qxc x hx)) (by decide) k
theorem tn_lt (i j : Nat) : p.tn i j < 18446744073709551616 := qd2 (fun x hx => h.lt x (q04 x hx)) (by decide) _
theorem sn_lt (g c j : Nat) : p.sn g c j < 18446744073709551616 := qd2 (fun x hx => h.lt x (q05 x hx)) (by decide) _
theorem nx_lt : p.nx < 18446744073709551616 := h.lt _ (by simp [Pr.nums])
theorem cr_lt : p.cr < 18446744073709551616 := h.lt _ (by simp [Pr.nums])
theorem qvr : p.gs = upF (p.gp - 1) fun i => [p.gs.getD (2 * i) 0, p.gs.getD (2 * i + 1) 0] := qcx h.gs
theorem qiy : p.ts = upF p.tk fun i => [p.tn i 0, p.tn i 1, p.tn i 2, p.tn i 3, p.tn i 4, p.tn i 5, p.tn i 6, p.tn i 7] := qcx h.ts
theorem q06 {g : Nat} (hg : g < p.gp) : (p.sp.drop (p.so g 0)).take (p.so (g + 1) 0 - p.so g 0) = upF p.cp fun c => if g = 0 then [p.sn g c 0] else [p.sn g c 0, p.sn g c 1, p.sn g c 2] := by
 have hs := h.sp
 rcases Nat.eq_zero_or_pos g with h0 | h0
 ·subst h0
  have e1 : p.so (0 + 1) 0 = p.cp := by rw [qgu, qb9]
  rw [e1, qb9, Nat.sub_zero, List.drop_zero]
  have hl : (p.sp.take p.cp).length = 1 * p.cp := by rw [List.length_take]; omega
  refine (qcx hl).trans (zt fun c hc => ?_)
  rw [if_pos rfl]
  show [(p.sp.take p.cp).getD (1 * c + 0) 0] = [p.sp.getD (p.so 0 c + 0) 0]
  rw [qb9, List.getD_eq_getElem?_getD, List.getD_eq_getElem?_getD, List.getElem?_take_of_lt (by omega), Nat.one_mul]
 ·have e1 : p.so (g + 1) 0 = p.so g 0 + 3 * p.cp := by rw [qgu, qbu h0, qbu h0, Nat.mul_zero, Nat.add_zero]
  have hin : p.so g 0 + 3 * p.cp ≤ p.sp.length := by
   rw [qbu h0, hs]
   have : 3 * p.cp * (g - 1) + 3 * p.cp ≤ 3 * p.cp * (p.gp - 1) := by
    rw [← Nat.mul_succ]
    exact Nat.mul_le_mul_left _ (by omega)
   omega
  rw [e1, Nat.add_sub_cancel_left]
  have hl : ((p.sp.drop (p.so g 0)).take (3 * p.cp)).length = 3 * p.cp := by rw [List.length_take, List.length_drop]; omega
  refine (qcx hl).trans (zt fun c hc => ?_)
  rw [if_neg (by omega)]
  have e2 : ∀ j, j < 3 → ((p.sp.drop (p.so g 0)).take (3 * p.cp)).getD (3 * c + j) 0 = p.sn g c j := fun j hj => by
   unfold Pr.sn
   rw [List.getD_eq_getElem?_getD, List.getD_eq_getElem?_getD, List.getElem?_take_of_lt (by omega), List.getElem?_drop, qbu h0, qbu h0]
   congr 2
   omega
  show [((p.sp.drop (p.so g 0)).take (3 * p.cp)).getD (3 * c + 0) 0, ((p.sp.drop (p.so g 0)).take (3 * p.cp)).getD (3 * c + 1) 0, ((p.sp.drop (p.so g 0)).take (3 * p.cp)).getD (3 * c + 2) 0] = _
  rw [e2 0 (by omega), e2 1 (by omega), e2 2 (by omega)]
theorem qiz : p.sp = upF p.gp fun g => upF p.cp fun c => if g = 0 then [p.sn g c 0] else [p.sn g c 0, p.sn g c 1, p.sn g c 2] := by
 have h1 := qgv p.sp (fun g => p.so g 0) (qb9 p 0) (fun g => by
  show p.so g 0 ≤ p.so (g + 1) 0
  rw [qgu]
  rcases Nat.eq_zero_or_pos g with h0 | h0
  ·subst h0; rw [qb9]; omega
  ·rw [qbu h0, qbu h0]; omega) p.gp
 have h2 : p.so p.gp 0 = p.sp.length := by rw [qbu h.gp1, h.sp]; omega
 rw [h2, List.take_length] at h1
 exact h1.symm.trans (zt fun g hg => q06 h hg)
end
theorem prevB (p : Pr) {i : Nat} (hi : i ≤ p.tk) : qr (mapR p.tk p.tskB) i = p.idC i := by
 cases i with
 | zero => rfl
 | succ i => rw [qac, qdc (by omega)]; rfl
theorem secB {p : Pr} (h : p.Fit) : (∀ i, i < 7 → (secN p.snB i).length = (p.sec i).length) ∧ ((∀ i, i < 7 → secN p.snB i = p.sec i) ↔ p.Low) := by
 have hG : secN p.snB 2 = p.gs := by
  show upF ((mapR p.gp p.grp).length - 1) (gsN (mapR p.gp p.grp)) = p.gs
  rw [zq]
  refine (zt fun i hi => ?_).trans (qvr h).symm
  unfold gsN
  rw [qdc (by omega)]
  unfold Pr.grp
  rw [if_neg (by omega), Nat.add_sub_cancel, qdd (gs_lt h _), qdd (gs_lt h _)]
 have hm : ∀ l : List Nat, (∀ x ∈ l, x < 18446744073709551616) → (l.map toI).map toU = l := fun l hl => by
  rw [List.map_map]
  exact (List.map_congr_left fun x hx => qdd (hl x hx)).trans (List.map_id l)
 have hT : secN p.snB 5 = p.tk :: upF p.tk fun i => [p.tn i 0, p.tn i 1, p.tn i 2, p.tn i 3, p.tn i 4, if decide (0 < p.tn i 5) = true then 1 else 0, p.tn i 6, p.tn i 7 % 4294967296] := by
  show ((mapR p.tk p.tskB).length :: upF (mapR p.tk p.tskB).length fun i => tkN (qr (mapR p.tk p.tskB) i) ((mapR p.tk p.tskB).getD i Tk.zero)) = _
  rw [zq]
  congr 1
  refine zt fun i hi => ?_
  rw [prevB p (by omega), qdc hi]
  show [toU (Go.IntKind.i64.wrap (p.idC i + toI (p.tn i 0)) - p.idC i), toU (toI (p.tn i 1)), toU (toI (p.tn i 2)), toU (toI (p.tn i 3)), _, _, _, _] = _
  rw [qnl (tn_lt h i 0), qdd (tn_lt h i 1), qdd (tn_lt h i 2), qdd (tn_lt h i 3)]
  rfl
 have hS : secN p.snB 6 = upF p.gp fun g => upF p.cp fun c => if g = 0 then [p.sn g c 0] else [p.sn g c 0, p.sn g c 1 % 4294967296, p.sn g c 2] := by
  show (upF (mapR p.gp fun g => (⟨none, 0, p.row g⟩ : Rw)).length fun g => rwN g ((mapR p.gp fun g => (⟨none, 0, p.row g⟩ : Rw)).getD g Rw.zero).l) = _
  rw [zq]
  refine zt fun g hg => ?_
  rw [qdc hg]
  show upF (p.row g).length (fun c => spN g ((p.row g).getD c Sp.zero)) = _
  unfold Pr.row
  rw [zq]
  refine zt fun c hc => ?_
  rw [qdc hc]
  unfold Pr.spt
  rcases Nat.eq_zero_or_pos g with h0 | h0
  ·rw [if_pos h0, if_pos h0, qm5 (by omega)]
  ·rw [if_neg (by omega), if_neg (by omega), qrh h0]; rfl
 have h0 : secN p.snB 0 = p.sec 0 := by show [toU (toI p.nx)] = [p.nx]; rw [qdd (nx_lt h)]
 have h1 : secN p.snB 1 = p.sec 1 := by
  show [toU (p.cp : Int), p.cr, (mapR p.gp p.grp).length] = [p.cp, p.cr, p.gp]
  have := h.cp2
  rw [zq, qyd (by omega)]
 have h3 : secN p.snB 3 = p.sec 3 := hm p.cl fun x hx => h.lt x (qxb x hx)
 have h4 : secN p.snB 4 = p.sec 4 := hm p.cu fun x hx => h.lt x (qxc x hx)
 constructor
 ·intro i hi
  match i, hi with
  | 0, _ => rw [h0]
  | 1, _ => rw [h1]
  | 2, _ => rw [hG]; rfl
  | 3, _ => rw [h3]
  | 4, _ => rw [h4]
  | 5, _ =>
   rw [hT]
   refine congrArg (· + 1) (Eq.trans ?_ (congrArg List.length (qiy h).symm))
   exact qex p.tk fun i _ => rfl
  | 6, _ =>
   rw [hS]
   refine Eq.trans ?_ (congrArg List.length (qiz h).symm)
   exact qex p.gp fun g _ => qex p.cp fun c _ => by split <;> rfl
 ·constructor
  ·intro hh
   have e5 := hh 5 (by omega)
   have e6 := hh 6 (by omega)
   rw [hT] at e5
   rw [hS] at e6
   replace e5 := (List.cons.inj e5).2
   rw [qiy h] at e5
   replace e6 : _ = p.sp := e6
   rw [qiz h] at e6
   have f5 := qgw p.tk (fun i _ => by rfl) e5
   have f6 := qgw p.gp (fun g _ => qex p.cp fun c _ => by split <;> rfl) e6
   refine ⟨fun i hi => ?_, fun i hi => ?_, fun g hg g0 c hc => ?_⟩
   ·have := f5 i hi
    simp only [List.cons.injEq, and_true, true_and] at this
    have := this.1
    split at this <;> omega
   ·have := f5 i hi
    simp only [List.cons.injEq, and_true, true_and] at this
    have := this.2
    omega
   ·have := qgw p.cp (fun c _ => by split <;> rfl) (f6 g hg) c hc
    rw [if_neg (by omega), if_neg (by omega)] at this
    simp only [List.cons.injEq, and_true, true_and] at this
    omega
  ·intro hl i hi
   match i, hi with
   | 0, _ => exact h0
   | 1, _ => exact h1
   | 2, _ => exact hG
   | 3, _ => exact h3
   | 4, _ => exact h4
   | 5, _ =>
    rw [hT]
    show _ = p.tk :: p.ts
    congr 1
    refine Eq.trans (zt fun i hi => ?_) (qiy h).symm
    have g5 := hl.t5 i hi
    have g7 := hl.t7 i hi
    rw [Nat.mod_eq_of_lt (show p.tn i 7 < 4294967296 by omega)]
    congr 5
    split
    ·rename_i hd; rw [decide_eq_true_eq] at hd; rw [show p.tn i 5 = 1 by omega]
    ·rename_i hd; rw [decide_eq_true_eq] at hd; rw [show p.tn i 5 = 0 by omega]
   | 6, _ =>
    rw [hS]
    refine Eq.trans (zt fun g hg => zt fun c hc => ?_) (qiz h).symm
    rcases Nat.eq_zero_or_pos g with g0 | g0
    ·rw [if_pos g0, if_pos g0]
    ·have := hl.s1 g hg g0 c hc
     rw [if_neg (by omega), if_neg (by omega), Nat.mod_eq_of_lt (by omega)]
theorem numsB {p : Pr} (h : p.Fit) : numsS p.snB = p.nums ↔ p.Low := by
 rw [qnm]
 exact ⟨fun e => (secB h).2.1 (qgw 7 (secB h).1 e), fun e => zt ((secB h).2.2 e)⟩
theorem z6 {x m : Nat} (h : x ≤ m) : dle x m = true := decide_eq_true h
theorem qsa {x m : Nat} (h : dle x m = true) : x ≤ m := of_decide_eq_true h
section
variable {p : Pr}
theorem qsb {b : Bool} {g : Nat} : ∀ k, p.okR b g k = true → b = true ∧ (0 < g → ∀ c, c < k → p.sn g c 1 ≤ 4294967295)
 | 0, h => ⟨h, fun _ c hc => by omega⟩
 | k + 1, h => by
  rw [Pr.okR] at h
  split at h
  ·rw [Bool.and_eq_true] at h
   exact ⟨(qsb k h.1).1, fun h0 => by omega⟩
  ·simp only [Bool.and_eq_true] at h
   obtain ⟨h1, h2⟩ := qsb k h.1.1.1
   refine ⟨h1, fun h0 c hc => ?_⟩
   rcases Nat.lt_or_ge c k with h3 | h3
   ·exact h2 h0 c h3
   ·obtain rfl : c = k := by omega
    exact qsa h.1.2
theorem qxd : ∀ k, p.okS k = true → p.okT p.tk = true ∧ ∀ g, g < k → 0 < g → ∀ c, c < p.cp → p.sn g c 1 ≤ 4294967295
 | 0, h => ⟨h, fun g hg => by omega⟩
 | k + 1, h => by
  obtain ⟨h1, h2⟩ := qsb p.cp h
  obtain ⟨h3, h4⟩ := qxd k h1
  refine ⟨h3, fun g hg h0 c hc => ?_⟩
  rcases Nat.lt_or_ge g k with h5 | h5
  ·exact h4 g h5 h0 c hc
  ·obtain rfl : g = k := by omega
   exact h2 h0 c hc
theorem qxe : ∀ k, p.okT k = true → ∀ i, i < k → p.tn i 5 ≤ 1 ∧ p.tn i 7 ≤ 4294967295 ∧ p.idA i ≤ 65535
 | 0, _ => fun i hi => by omega
 | k + 1, h => fun i hi => by
  rw [Pr.okT] at h
  simp only [Bool.and_eq_true] at h
  rcases Nat.lt_or_ge i k with h5 | h5
  ·exact qxe k h.1.1.1.1.1.1.1.1.1 i h5
  ·obtain rfl : i = k := by omega
   exact ⟨qsa h.1.1.1.2, qsa h.1.2, of_decide_eq_true h.2⟩
theorem qsc (h : p.okB = true) : p.Low ∧ ∀ i, i < p.tk → p.idA i ≤ 65535 := by
 obtain ⟨h1, h2⟩ := qxd p.gp h
 have h3 := qxe p.tk h1
 exact ⟨⟨fun i hi => (h3 i hi).1, fun i hi => (h3 i hi).2.1, h2⟩, fun i hi => (h3 i hi).2.2⟩
theorem snA_B (h : p.Low) (h2 : ∀ i, i ≤ p.tk → p.idB i = p.idC i) : p.snA = p.snB := by
 have e : mapR p.tk p.tsk = mapR p.tk p.tskB := by
  unfold mapR
  refine List.map_congr_left fun i hi => ?_
  rw [List.mem_range] at hi
  unfold Pr.tsk Pr.tskB
  rw [idA_C (h2 i (by omega)), show decide (p.tn i 5 = 1) = decide (0 < p.tn i 5) from decide_eq_decide.2 (by have := h.t5 i hi; omega)]
 unfold Pr.snA Pr.snB
 rw [e]
end
section
variable {p : Pr} (h : p.Fit)
include h
theorem qxf (hn : p.nx ≤ mostI) : p.ok0 = true := by
 unfold Pr.ok0
 have h1 := h.cp2
 have h2 := h.gp2
 have h3 := cr_lt h
 unfold mostI at *
 rw [z6 hn, z6 (show p.cp ≤ 4611686018427387904 by omega), z6 (show p.cr ≤ 18446744073709551615 by omega), z6 (show p.gp ≤ 4611686018427387904 by omega)]
 rfl
theorem qxg (hn : p.nx ≤ mostI) (hg : ∀ i, i < 2 * (p.gp - 1) → p.gs.getD i 0 ≤ mostI) : ∀ k, k ≤ p.gp → p.okG k = true
 | 0, _ => qxf h hn
 | k + 1, hk => by
  rw [Pr.okG]
  split
  ·exact qxf h hn
  ·rw [qxg hn hg k (by omega), z6 (hg _ (by omega)), z6 (hg _ (by omega))]
   rfl
end
section
variable {p : Pr}
theorem qxh (h0 : p.okG p.gp = true) (hc : ∀ i, i < p.cp → p.cl.getD i 0 ≤ mostI) : ∀ k, k ≤ p.cp → p.okC k = true
 | 0, _ => h0
 | k + 1, hk => by rw [Pr.okC, qxh h0 hc k (by omega), z6 (hc _ (by omega))]; rfl
theorem qxi (h0 : p.okC p.cp = true) (hc : ∀ i, i < p.cp → p.cu.getD i 0 ≤ mostI) : ∀ k, k ≤ p.cp → p.okU k = true
 | 0, _ => h0
 | k + 1, hk => by rw [Pr.okU, qxi h0 hc k (by omega), z6 (hc _ (by omega))]; rfl
theorem qxj (h : p.Fit) (h0 : p.okU p.cp = true) (hl : p.Low) (ht : ∀ i, i < p.tk → p.tn i 0 ≤ mostI ∧ p.tn i 1 ≤ mostI ∧ p.tn i 2 ≤ mostI ∧ p.tn i 3 ≤ mostI) (hi : ∀ i, i < p.tk → p.idA i ≤ 65535) : ∀ k, k ≤ p.tk → p.okT k = true
 | 0, _ => by
  rw [Pr.okT, h0, z6 (by have := h.tk; unfold mostI; omega)]; rfl
 | k + 1, hk => by
  obtain ⟨t0, t1, t2, t3⟩ := ht k (by omega)
  have t4 := tn_lt h k 4
  have t6 := tn_lt h k 6
  rw [Pr.okT, qxj h h0 hl ht hi k (by omega), z6 t0, z6 t1, z6 t2, z6 t3, z6 (show p.tn k 4 ≤ 18446744073709551615 by omega), z6 (hl.t5 k (by omega)), z6 (show p.tn k 6 ≤ 18446744073709551615 by omega), z6 (hl.t7 k (by omega)), decide_eq_true (hi k (by omega))]
  rfl
theorem qsd (h : p.Fit) {b : Bool} (hb : b = true) {g : Nat} (hg : 0 < g → ∀ c, c < p.cp → p.sn g c 1 ≤ 4294967295) : ∀ k, k ≤ p.cp → p.okR b g k = true
 | 0, _ => hb
 | k + 1, hk => by
  have t0 := sn_lt h g k 0
  have t2 := sn_lt h g k 2
  rw [Pr.okR]
  split
  ·rw [qsd h hb hg k (by omega), z6 (show p.sn g k 0 ≤ 18446744073709551615 by omega)]; rfl
  ·rw [qsd h hb hg k (by omega), z6 (show p.sn g k 0 ≤ 18446744073709551615 by omega), z6 (hg (by omega) k (by omega)), z6 (show p.sn g k 2 ≤ 18446744073709551615 by omega)]; rfl
theorem qxk (h : p.Fit) (h0 : p.okT p.tk = true) (hl : p.Low) : ∀ k, k ≤ p.gp → p.okS k = true
 | 0, _ => h0
 | k + 1, hk => qsd h (qxk h h0 hl k (by omega)) (fun g0 c hc => hl.s1 k (by omega) g0 c hc) p.cp (Nat.le_refl _)
end
theorem ql5 (x : Int) : I64 (Go.IntKind.i64.wrap x) := by rw [Go.IntKind.wrap_i64]; unfold I64; omega
theorem qd3 (x : Nat) : I64 (toI x) := ql5 _
theorem qcy {α : Type} {n : Nat} {f : Nat → α} {q : α → Prop} (h : ∀ i, i < n → q (f i)) : ∀ x ∈ mapR n f, q x := by
 intro x hx
 obtain ⟨i, hi, rfl⟩ := List.mem_map.1 hx
 exact h i (List.mem_range.1 hi)
section
variable {p : Pr} (h : p.Fit)
include h
theorem qxl (g : Nat) : (p.grp g).Ok := by
 unfold Pr.grp
 split
 ·exact ⟨by unfold I64; decide, by unfold I64; decide⟩
 ·exact ⟨qd3 _, qd3 _⟩
theorem q07 (g c : Nat) : (p.spt g c).Ok := by
 have t0 := sn_lt h g c 0
 have t2 := sn_lt h g c 2
 unfold Pr.spt
 split
 ·exact ⟨show 0 < 18446744073709551616 by decide, show 0 < 4294967296 by decide, t0⟩
 ·exact ⟨t0, Nat.mod_lt _ (by decide), t2⟩
theorem cp_in : I64 (p.cp : Int) := by have := h.cp2; unfold I64; omega
theorem qi0 (l : List Nat) : ∀ x ∈ l.map toI, I64 x := by
 intro x hx
 obtain ⟨y, _, rfl⟩ := List.mem_map.1 hx
 exact qd3 y
theorem rows_ok : ∀ l ∈ (mapR p.gp fun g => (⟨none, 0, p.row g⟩ : Rw)).map Rw.l, ∀ x ∈ l, Sp.Ok x := by
 intro l hl
 obtain ⟨y, hy, rfl⟩ := List.mem_map.1 hl
 obtain ⟨g, _, rfl⟩ := List.mem_map.1 hy
 exact qcy fun c _ => q07 h g c
theorem qy5 (i : Nat) : (p.tsk i).Ok := ⟨ql5 _, qd3 _, qd3 _, qd3 _, tn_lt h i 4, tn_lt h i 6, Nat.mod_lt _ (by decide)⟩
theorem qy6 (i : Nat) : (p.tskB i).Ok := ⟨ql5 _, qd3 _, qd3 _, qd3 _, tn_lt h i 4, tn_lt h i 6, Nat.mod_lt _ (by decide)⟩
theorem q08 : p.snA.st.sta.Ok := ⟨cp_in h, cr_lt h, qcy fun g _ => qxl h g, qi0 h _, qi0 h _, qcy fun i _ => qy5 h i, rows_ok h⟩
theorem qxm : p.snB.st.sta.Ok := ⟨cp_in h, cr_lt h, qcy fun g _ => qxl h g, qi0 h _, qi0 h _, qcy fun i _ => qy6 h i, rows_ok h⟩
theorem qi1 {l : List Nat} {n : Nat} (hl : l.length = n) (hn : n ≤ 1000000) : (l.map toI).length ≤ 1000000 := by rw [List.length_map]; omega
theorem qnn : ∀ y ∈ mapR p.gp fun g => (⟨none, 0, p.row g⟩ : Rw), y.l.length ≤ 1000000 := qcy fun g _ => by
 have := h.cp2
 show (p.row g).length ≤ 1000000
 unfold Pr.row
 rw [zq]
 omega
theorem qno (s : Snm) (hs : s = p.snA ∨ s = p.snB) : StFew s.st := by
 have h1 := h.cp2
 have h2 := h.gp2
 have h3 := h.tk
 rcases hs with rfl | rfl
 ·exact ⟨by show (mapR _ _).length ≤ _; rw [zq]; omega, qi1 h h.cl (by omega), qi1 h h.cu (by omega), by show (mapR _ _).length ≤ _; rw [zq]; omega, by show (mapR _ _).length ≤ _; rw [zq]; omega, qnn h⟩
 ·exact ⟨by show (mapR _ _).length ≤ _; rw [zq]; omega, qi1 h h.cl (by omega), qi1 h h.cu (by omega), by show (mapR _ _).length ≤ _; rw [zq]; omega, by show (mapR _ _).length ≤ _; rw [zq]; omega, qnn h⟩
end
theorem qse {p : Pr} (h : p.Fit) (hk : chkS p.snB = 0) (hl : p.Low) : p.okB = true ∧ p.snA = p.snB := by
 have hn := (qrn hk).1
 have hr := (qrn hk).2
 have hsh := qro hk
 have e : mostI = 4611686018427387904 := rfl
 have big : ∀ {x : Nat} {n : Int}, x < 18446744073709551616 → 0 ≤ toI x → toI x ≤ n → n ≤ 4611686018427387904 → x ≤ mostI := fun {x n} h1 h2 h3 h4 => by
  rw [qy4 h1 h2] at h3; omega
 have hgl : p.snB.st.gs.length = p.gp := zq _ _
 have htl : p.snB.st.ts.length = p.tk := zq _ _
 have hrl : p.snB.st.rs.length = p.gp := zq _ _
 have hgd : ∀ g, g < p.gp → p.snB.st.gs.getD g Gr.zero = p.grp g := fun g hg => qdc hg
 have htd : ∀ i, i < p.tk → p.snB.st.ts.getD i Tk.zero = p.tskB i := fun i hi => qdc hi
 obtain ⟨hc1, hc2, _, hgs⟩ := qc2 hsh.cfg
 have hnx : p.nx ≤ mostI := big (nx_lt h) (by have := hn.1; show (0 : Int) ≤ p.snB.next; omega) hn.2 (by omega)
 have hG : ∀ i, i < 2 * (p.gp - 1) → p.gs.getD i 0 ≤ mostI := fun i hi => by
  have hg : i / 2 + 1 < p.gp := by omega
  have h1 := (qft hgs).2.2.2 (i / 2 + 1) (by omega)
  have h2 := qid h1 (by omega)
  have h3 := wt_at hgs (g := i / 2 + 1) (by omega)
  unfold ParB at h2
  rw [hgd _ hg] at h2 h3
  unfold Pr.grp at h2 h3
  rw [if_neg (by omega)] at h2 h3
  rw [Nat.add_sub_cancel] at h2 h3
  dsimp only at h2 h3
  rcases Nat.mod_two_eq_zero_or_one i with h4 | h4
  ·rw [show i = 2 * (i / 2) by omega]
   exact big (n := 256) (gs_lt h _) h2.1 (by have := h2.2; have := h.gp2; show toI _ ≤ 256; omega) (by omega)
  ·rw [show i = 2 * (i / 2) + 1 by omega]
   exact big (gs_lt h _) (by have := h3.1; show 0 ≤ toI _; omega) h3.2 (by omega)
 have hmap : ∀ (l : List Nat) (k : Nat), k < l.length → (l.map toI).getD k 0 = toI (l.getD k 0) := fun l k hk => by
  rw [List.getD_eq_getElem?_getD, List.getD_eq_getElem?_getD, List.getElem?_map, List.getElem?_eq_getElem hk]; rfl
 have hC : ∀ i, i < p.cp → p.cl.getD i 0 ≤ mostI := fun i hi => by
  have hcl := h.cl
  have h1 := hsh.cls i (by show i < (p.cl.map toI).length; rw [List.length_map]; omega)
  rw [show p.snB.st.cl.getD i 0 = toI (p.cl.getD i 0) from hmap p.cl i (by omega)] at h1
  unfold clOk at h1
  rw [decide_eq_true_eq] at h1
  exact big (cl_lt h _) h1.1 h1.2 (by omega)
 have htk : ∀ i, i < p.tk → _ := fun i hi => qin (hsh.tk i (by omega))
 have hT : ∀ i, i < p.tk → (1 ≤ p.idC (i + 1) ∧ p.idC (i + 1) ≤ 65535) ∧ p.tn i 1 ≤ mostI ∧ p.tn i 2 ≤ mostI ∧ p.tn i 3 ≤ mostI := fun i hi => by
  have h1 := (htk i hi).2
  rw [htd i hi] at h1
  unfold tkOk1 wOk at h1
  simp only [Bool.and_eq_true, decide_eq_true_eq] at h1
  obtain ⟨⟨a1, a2, a3, a4, a5, a6⟩, ⟨b1, b2⟩, _⟩ := h1
  rw [qaq, hrl] at a4
  have := h.gp2
  have := h.cp2
  refine ⟨⟨a1, a2⟩, big (n := 256) (tn_lt h i 1) a3 (by show toI _ ≤ 256; have a4 : toI (p.tn i 1) < p.gp := a4; omega) (by omega), big (tn_lt h i 2) (by have b1 : 1 ≤ toI (p.tn i 2) := b1; omega) b2 (by omega), big (n := 64) (tn_lt h i 3) a5 (by have a6 : toI (p.tn i 3) < (p.cp : Int) := a6; omega) (by omega)⟩
 have hI : ∀ i, i ≤ p.tk → p.idB i = p.idC i := fun i hi => id_C i fun j hj => (hT j (by omega)).1.2
 have hA : ∀ i, i < p.tk → p.idA i ≤ 65535 := fun i hi => by rw [idA_C (hI i (by omega))]; exact (hT i hi).1.2
 have h0 : ∀ i, i < p.tk → p.tn i 0 ≤ mostI := fun i hi => by
  have h1 := (htk i hi).1
  have h2 : 0 ≤ p.idC i ∧ p.idC i < p.idC (i + 1) := by
   rcases i with _ | i
   ·have := (hT 0 hi).1.1
    exact ⟨Int.le_refl _, by show (0 : Int) < _; omega⟩
   ·have h3 := (hT i (by omega)).1.1
    rw [Nat.add_sub_cancel, htd i (by omega), htd (i + 1) hi] at h1
    rcases h1 with h1 | h1
    ·omega
    ·exact ⟨by omega, h1⟩
  have h3 := qnl (a := p.idC i) (tn_lt h i 0)
  have h4 : Go.IntKind.i64.wrap (p.idC i + toI (p.tn i 0)) = p.idC (i + 1) := rfl
  rw [h4] at h3
  have h5 := (hT i hi).1
  unfold toU at h3
  omega
 have hU : ∀ i, i < p.cp → p.cu.getD i 0 ≤ mostI := fun i hi => by
  have hcu := h.cu
  have hcl : i < p.snB.st.cu.length := by show i < (p.cu.map toI).length; rw [List.length_map]; omega
  unfold zz at hr
  rw [Bool.and_eq_true] at hr
  have h1 := qb0 hr.2 (i := i) hcl
  rw [Bool.and_eq_true] at h1
  have h2 := h1.1
  unfold curOk at h2
  have hz : p.snB.st.sta.cu.getD i 0 = toI (p.cu.getD i 0) := hmap p.cu i (by omega)
  rw [hz] at h2
  rw [Bool.or_eq_true, decide_eq_true_eq] at h2
  rcases h2 with h2 | h2
  ·exact big (cu_lt h _) (by omega) (Int.le_of_eq h2) (by omega)
  ·split at h2
   ·rename_i j hj
    obtain ⟨h3, h4⟩ := qrc hj
    have h3 : j < p.tk := by have : j < p.snB.st.ts.length := h3; omega
    rw [show p.snB.st.sta.ts.getD j Tk.zero = p.tskB j from htd j h3] at h4
    have h5 := (hT j h3).1
    have h4 : p.idC (j + 1) = toI (p.cu.getD i 0) := h4
    exact big (n := 65535) (cu_lt h _) (by omega) (by omega) (by omega)
   ·cases h2
 refine ⟨qxk h (qxj h (qxi (qxh (qxg h hnx hG p.gp (Nat.le_refl _)) hC p.cp (Nat.le_refl _)) hU p.cp (Nat.le_refl _)) hl (fun i hi => ⟨h0 i hi, (hT i hi).2⟩) hA p.tk (Nat.le_refl _)) hl p.gp (Nat.le_refl _), snA_B hl hI⟩
theorem qsf {p : Pr} (hb : p.okB = true) : p.snA = p.snB := by
 obtain ⟨hl, hi⟩ := qsc hb
 exact snA_B hl fun i h => id_A i fun j hj => hi j (by omega)
theorem qvs {xs ys : List Nat} (hx : ∀ x ∈ xs, x < 18446744073709551616) (hy : ∀ x ∈ ys, x < 18446744073709551616) (hl : xs.length = ys.length) (h : xs.flatMap vbytes = ys.flatMap vbytes) : xs = ys := by
 have h1 := qgq xs [] hx
 have h2 := qgq ys [] hy
 rw [h, hl] at h1
 rw [h1] at h2
 exact (Prod.mk.inj h2).1
theorem qde {l : List Nat} {p : Pr} (hl : ∀ z ∈ l, z < 256) (h : opnR l = .ok p) : 15 ≤ l.length ∧ l.length ≤ 16777216 ∧ p.Fit ∧ l = sealL ([113, 115, 1] ++ p.nums.flatMap vbytes) := by
 unfold opnR at h
 split at h
 ·cases h
 rename_i h1
 split at h
 ·cases h
 rename_i h2
 split at h
 ·cases h
 rename_i h3
 split at h
 ·cases h
 rename_i h4
 split at h
 ·cases h
 rename_i h5
 have h4 : l.getD 0 0 = 113 ∧ l.getD 1 0 = 115 := Decidable.of_not_not h4
 have h5 : l.getD 2 0 = 1 := Decidable.of_not_not h5
 have hs : q0 l = true := by cases hq : q0 l with | true => rfl | false => exact absurd hq h3
 have hlen : (l.take (l.length - 4)).length = l.length - 4 := by rw [List.length_take]; omega
 obtain ⟨hf, hd⟩ := qy0 (by omega) (fun z hz => hl z (List.mem_of_mem_take hz)) h
 refine ⟨by omega, by omega, hf, ?_⟩
 rw [← hd]
 have e : ([113, 115, 1] : List Nat) = (l.take (l.length - 4)).take 3 := by
  rw [List.take_take, show min 3 (l.length - 4) = 3 by omega]
  match l, h1, h4, h5 with
  | a :: b :: c :: r, _, h4, h5 =>
   have h6 : a = 113 := h4.1
   have h7 : b = 115 := h4.2
   have h8 : c = 1 := h5
   subst h6; subst h7; subst h8
   rfl
  | [], h1, _, _ => exact absurd (by decide) h1
  | [_], h1, _, _ => exact absurd (by simp) h1
  | [_, _], h1, _, _ => exact absurd (by simp) h1
 rw [e, List.take_append_drop, qqv hl hs]
theorem qvt {a b : List Nat} (h : sealL a = sealL b) : a = b := by
 have h1 := congrArg List.length h
 rw [qbj, qbj] at h1
 exact (List.append_inj h (by omega)).1
theorem qsg {l : List Nat} {p : Pr} (hl : ∀ z ∈ l, z < 256) (h : opnR l = .ok p) : (p.okB = true ∧ chkS p.snA = 0) ↔ (chkS p.snB = 0 ∧ outS p.snB = l) := by
 obtain ⟨_, _, hf, he⟩ := qde hl h
 constructor
 ·rintro ⟨h1, h2⟩
  rw [qsf h1] at h2
  refine ⟨h2, ?_⟩
  rw [qlx h2, he]
  unfold bodyS
  rw [(numsB hf).2 (qsc h1).1]
 ·rintro ⟨h1, h2⟩
  rw [qlx h1] at h2
  have h3 := qvt (h2.trans he)
  unfold bodyS at h3
  have h4 := qvs (qm7 (qxm hf) (qno hf _ (.inr rfl))) hf.lt (by rw [qnm]; exact qex 7 (secB hf).1) (List.append_cancel_left h3)
  obtain ⟨h5, h6⟩ := qse hf h1 ((numsB hf).1 h4)
  exact ⟨h5, by rw [h6]; exact h1⟩
def rdE (l : List Nat) : Nat := match opnR l with
 | .ok p => if p.okB = true ∧ chkS p.snA = 0 then 0 else 347
 | .error k => k
def qcp : Snm := ⟨0, ⟨0, 0, none, 0, [], none, 0, [], none, 0, [], none, 0, [], none, 0, []⟩⟩
def rdS (l : List Nat) : Snm := match opnR l with
 | .ok p => if p.okB = true ∧ chkS p.snA = 0 then p.snA else qcp
 | .error _ => qcp
section
variable {l : List Nat} {p : Pr} {k : Nat}
theorem rd_no (h : opnR l = .error k) : rdE l = k ∧ rdS l = qcp := by unfold rdE rdS; rw [h]; exact ⟨rfl, rfl⟩
theorem qfo (h : opnR l = .ok p) (h2 : ¬ (p.okB = true ∧ chkS p.snA = 0)) : rdE l = 347 ∧ rdS l = qcp := by unfold rdE rdS; rw [h]; exact ⟨if_neg h2, if_neg h2⟩
theorem qsh (h : opnR l = .ok p) (h2 : p.okB = true ∧ chkS p.snA = 0) : rdE l = 0 ∧ rdS l = p.snA := by unfold rdE rdS; rw [h]; exact ⟨if_pos h2, if_pos h2⟩
theorem qy7 (hl : ∀ z ∈ l, z < 256) (h : opnR l = .ok p) (h2 : chkS p.snB = 0 ∧ outS p.snB = l) : rdE l = 0 ∧ rdS l = p.snB := by
 have h3 := (qsg hl h).2 h2
 rw [← qsf h3.1]
 exact qsh h h3
theorem qxn (hl : ∀ z ∈ l, z < 256) (h : opnR l = .ok p) (h2 : ¬ (chkS p.snB = 0 ∧ outS p.snB = l)) : rdE l = 347 ∧ rdS l = qcp := qfo h fun h3 => h2 ((qsg hl h).1 h3)
end
end Go.Proofs.YtggpmlaappaopaaGreatDoor
