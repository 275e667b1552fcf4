/- Parts. -/
import Derived.Test.YtfeheccoijnbaaaDoorQfMade
import Derived.Test.YtfeheccoijnbaaaDoorQfZ2
set_option linter.all false
set_option maxRecDepth 100000
set_option maxHeartbeats 8000000
namespace Go.Proofs.YtfeheccoijnbaaaDoor
open Go.RowKit
theorem qke (A : Option Addr) (n c : Nat) (l : List It) (w : World) (hr : Rd w w.heap.size 12 A n (l.flatMap itL)) (hln : l.length = n) (hn : n ≤ 1000000) :
  Calls Tryd.prog 36 #[.slice A n c] w fun r w' => (∃ A c, r = .returned (.slice A (evsI l).length c) ∧ w'.ownsRow w.heap.size 45 11 (.slice A (evsI l).length c) (evsI l).length ((evsI l).flatMap evL) ∧ (evsI l).length ≤ c) ∧ Below w.heap.size w w' := by
 have e : (evsI l).length = n := by rw [qeq]; exact hln
 rw [e]
 exact qdq A n c l w hr hln hn
theorem qse (b : Bk) (hok : b.Ok) (hf : b.fits = true) (A : Option Addr) (c B : Nat) (w : World) (hL : LaidX B w) (hB : B ≤ w.heap.size) (hr : Rd w w.heap.size 11 A b.evs.length (b.evs.flatMap evL)) (hn : b.evs.length ≤ 1000000) :
  Calls Tryd.prog 38 #[.agg (b.cells A c)] w (Is w (.tuple #[.int .i64 (b.qdt : Int), .int .i64 0])) := by
 have h := qqq b hok A c B w hL hB hr hn
 unfold Bk.fill at h
 rwa [if_neg (by rw [hf]; decide)] at h
theorem qqr (cpu : Nat) (hcpu : cpu < 256) (A : Option Addr) (n c : Nat) (l : List It) (opn limit : Int) (hok : ∀ x ∈ l, x.Ok) (ho : I64 opn) (hlm : I64 limit) (B : Nat) (w : World) (hL : LaidX B w) (hB : B ≤ w.heap.size) (hr : Rd w w.heap.size 12 A n (l.flatMap itL)) (hc : n ≤ c) (hln : l.length = n) (hn : n ≤ 1000000) :
    Calls Tryd.prog 12 #[.int .u8 (cpu : Int), .slice A n c, .int .i64 opn, .int .i64 limit] w (qjp 45 41 w (cutS cpu l opn limit).2 (cutS cpu l opn limit).1) := by
 subst hln
 refine qh (vs := [vB cpu, .slice A l.length c, vI opn, vI limit]) Tryd.func12 rfl rfl (by kernel_rfl) (σ0 := [(0, vB cpu), (1, .slice A l.length c), (2, vI opn), (3, vI limit)]) rfl ?_
 intro a HF
 have HM := Mem.start w
 refine wp_seq (qa ?_)
 refine fo HF 0 rfl rfl ?_
 refine e_box HF HM (cs := #[vB cpu]) rfl rfl rfl rfl (by decide) ?_
 clear HF HM; intro a w4 g4 HF HM
 refine fo HF 1 rfl rfl ?_
 refine e_box HF HM (cs := #[.slice A l.length c]) rfl rfl rfl rfl (by decide) ?_
 clear HF HM; intro a w5 g5 HF HM
 refine fo HF 2 rfl rfl ?_
 refine e_box HF HM (cs := #[vI opn]) rfl rfl rfl rfl (by decide) ?_
 clear HF HM; intro a w6 g6 HF HM
 refine fp HF 2 3 [(9, vI 0), (8, .slice none 0 0)] fun a HF => ?_
 refine qb rfl (wp_seq (wp_block (wp_seq (qa ?_))))
 refine fy HF HM 0 rfl rfl rfl (Yl.qi rfl rfl (by kernel_rfl) (fun _ h => h.cell (i := 2) rfl rfl)) fun a HF => ?_
 refine fp HF 2 1 [(17, .bool (decide ((cpu : Int) ≥ (64 : Int))))] fun a HF => ?_
 rcases HF.tf 17 rfl with ⟨hb17, HF⟩ | ⟨hb17, HF⟩
 ·
  have hd17 := of_decide_eq_true hb17
  refine fp HF 8 3 [(14, .bool true)] fun a HF => ?_
  refine qb rfl (qf HF rfl (wp_seq (qa ?_)))
  refine fp HF 2 0 [(9, vI 2), (8, .slice none 0 0)] fun a HF => ?_
  refine qb rfl (wp_ret ?_)
  exact ret2 rfl HF (.tmp HF rfl) (.tmp HF rfl) (by rw [qik (by omega)]; exact qeo HM rfl)
 have hd17 := of_decide_eq_false hb17
 refine fp HF 4 3 [(21, .bool (decide ((limit : Int) < (1 : Int))))] fun a HF => ?_
 rcases HF.tf 21 rfl with ⟨hb21, HF⟩ | ⟨hb21, HF⟩
 ·
  have hd21 := of_decide_eq_true hb21
  refine fp HF 4 7 [(14, .bool true)] fun a HF => ?_
  refine qb rfl (qf HF rfl (wp_seq (qa ?_)))
  refine fp HF 2 0 [(9, vI 2), (8, .slice none 0 0)] fun a HF => ?_
  refine qb rfl (wp_ret ?_)
  exact ret2 rfl HF (.tmp HF rfl) (.tmp HF rfl) (by rw [qik (by omega)]; exact qeo HM rfl)
 have hd21 := of_decide_eq_false hb21
 refine fp HF 4 7 [(14, .bool (decide ((limit : Int) > (4096 : Int))))] fun a HF => ?_
 refine qb rfl ?_
 rcases HF.tf 14 rfl with ⟨hb14, HF⟩ | ⟨hb14, HF⟩
 ·
  have hd14 := of_decide_eq_true hb14
  refine qf HF rfl (wp_seq (qa ?_))
  refine fp HF 2 0 [(9, vI 2), (8, .slice none 0 0)] fun a HF => ?_
  refine qb rfl (wp_ret ?_)
  exact ret2 rfl HF (.tmp HF rfl) (.tmp HF rfl) (by rw [qik (by omega)]; exact qeo HM rfl)
 have hd14 := of_decide_eq_false hb14
 refine qe HF rfl (wp_seq (qa ?_))
 refine fy HF HM 0 rfl rfl rfl (Yl.qi rfl rfl (by kernel_rfl) (fun _ h => h.cell (i := 2) rfl rfl)) fun a HF => ?_
 refine fy HF HM 1 rfl rfl rfl (Yl.qi rfl rfl (by kernel_rfl) (fun _ h => h.cell (i := 1) rfl rfl)) fun a HF => ?_
 refine fy HF HM 2 rfl rfl rfl (Yl.qi rfl rfl (by kernel_rfl) (fun _ h => h.cell (i := 0) rfl rfl)) fun a HF => ?_
 refine fo HF 3 rfl rfl ?_
 refine e_is HF HM [vB cpu, .slice A l.length c, vI opn] (.bool (zt cpu l opn)) rfl rfl (qli cpu A l.length c l opn hok ho B _ (hL.mem HM hB) (HM.le hB) (HM.old hr) rfl (by omega)) fun w29 hbw HM a HF => ?_
 refine fp HF 2 4 [(25, .bool (!(zt cpu l opn)))] fun a HF => ?_
 refine qb rfl ?_
 rcases HF.tf 25 rfl with ⟨hb25, HF⟩ | ⟨hb25, HF⟩
 ·
  have hbad : zt cpu l opn = false := by simpa using hb25
  refine qf HF rfl (wp_seq (qa ?_))
  refine fp HF 2 0 [(9, vI 110), (8, .slice none 0 0)] fun a HF => ?_
  refine qb rfl (wp_ret ?_)
  exact ret2 rfl HF (.tmp HF rfl) (.tmp HF rfl) (by rw [qnc (by omega) hbad]; exact qeo HM rfl)
 have hgood : zt cpu l opn = true := by simpa using hb25
 have hG := GoodI.of (by omega) hok hgood
 refine qe HF rfl (wp_seq (qa ?_))
 refine fy HF HM 0 rfl rfl rfl (Yl.qi rfl rfl (by kernel_rfl) (fun _ h => h.cell (i := 1) rfl rfl)) fun a HF => ?_
 refine fy HF HM 1 rfl rfl rfl (Yl.len rfl rfl (by kernel_rfl)) fun a HF => ?_
 refine fp HF 2 2 [(35, .bool ((l.length : Int) == (0 : Int)))] fun a HF => ?_
 rcases HF.tf 35 rfl with ⟨hb35, HF⟩ | ⟨hb35, HF⟩
 ·
  have hd35 := eq_of_beq hb35
  refine fy HF HM 4 rfl rfl rfl (Yl.qi rfl rfl (by kernel_rfl) (fun _ h => h.cell (i := 0) rfl rfl)) fun a HF => ?_
  refine fp HF 3 5 [(31, .bool ((opn : Int) == (0 : Int)))] fun a HF => ?_
  refine qb rfl ?_
  rcases HF.tf 31 rfl with ⟨hb31, HF⟩ | ⟨hb31, HF⟩
  ·
   have hd31 := eq_of_beq hb31
   refine qf HF rfl (wp_seq (qa ?_))
   refine fp HF 2 0 [(9, vI 0), (8, .slice none 0 0)] fun a HF => ?_
   refine qb rfl (wp_ret ?_)
   exact ret2 rfl HF (.tmp HF rfl) (.tmp HF rfl) (by rw [qjv (by omega) hgood (by omega) (by omega)]; exact qeo HM rfl)
  have hd31 := ne_of_beq_false hb31
  refine qe HF rfl (wp_seq (qa ?_))
  refine fy HF HM 0 rfl rfl rfl (Yl.qi rfl rfl (by kernel_rfl) (fun _ h => h.cell (i := 1) rfl rfl)) fun a HF => ?_
  refine fy HF HM 1 rfl rfl rfl (Yl.len rfl rfl (by kernel_rfl)) fun a HF => ?_
  refine fp HF 2 2 [(39, .bool ((l.length : Int) == (0 : Int)))] fun a HF => ?_
  refine qb rfl ?_
  rcases HF.tf 39 rfl with ⟨hb39, HF⟩ | ⟨hb39, HF⟩
  ·
   have hd39 := eq_of_beq hb39
   refine qf HF rfl (wp_seq (qa ?_))
   refine fy HF HM 0 rfl rfl rfl (Yl.qi rfl rfl (by kernel_rfl) (fun _ h => h.cell (i := 2) rfl rfl)) fun a HF => ?_
   refine fy HF HM 1 rfl rfl rfl (Yl.qi rfl rfl (by kernel_rfl) (fun _ h => h.cell (i := 0) rfl rfl)) fun a HF => ?_
   refine fy HF HM 2 rfl rfl rfl (v := .agg #[vB 1, vB cpu, vI opn, vI 0, .slice none 0 0]) (Yl.build (vs := [(0, vB 1), (1, vB cpu), (2, vI opn)]) rfl (by kernel_rfl) (by kernel_rfl)) fun a HF => ?_
   refine fo HF 3 rfl rfl ?_
   refine zo HF HM (vs := [(0, .agg #[vB 1, vB cpu, vI opn, vI 0, .slice none 0 0])]) (cs := #[vB 1, vB cpu, vI opn, vI 0, .slice none 0 0]) rfl ql8 (by decide) rfl (by kernel_rfl) rfl (by decide) ?_
   clear HF HM; intro a w46 g46 HF HM
   refine fp HF 2 4 [(9, vI 0), (8, vS g46 1 1)] fun a HF => ?_
   refine qb rfl (wp_ret ?_)
   exact ret2 rfl HF (.tmp HF rfl) (.tmp HF rfl) (by rw [qjw (by omega) hgood (by omega) (by omega)]; exact qrv HM (i := 0) rfl)
  have hd39 := ne_of_beq_false hb39
  exfalso; omega
 have hd35 := ne_of_beq_false hb35
 refine fp HF 4 4 [(31, .bool false)] fun a HF => ?_
 refine qb rfl (qe HF rfl (wp_seq (qa ?_)))
 refine fy HF HM 0 rfl rfl rfl (Yl.qi rfl rfl (by kernel_rfl) (fun _ h => h.cell (i := 1) rfl rfl)) fun a HF => ?_
 refine fy HF HM 1 rfl rfl rfl (Yl.len rfl rfl (by kernel_rfl)) fun a HF => ?_
 refine fp HF 2 2 [(39, .bool ((l.length : Int) == (0 : Int)))] fun a HF => ?_
 refine qb rfl ?_
 rcases HF.tf 39 rfl with ⟨hb39, HF⟩ | ⟨hb39, HF⟩
 ·
  have hd39 := eq_of_beq hb39
  exfalso; omega
 have hd39 := ne_of_beq_false hb39
 refine qe HF rfl (wp_skip (wp_seq (qa ?_)))
 refine fy HF HM 0 rfl rfl rfl (v := .func (.func 35) #[] #[vP g4 0, vP g5 0, vP g6 0]) (Yl.makeFunc (fst := []) (caps := [vP g4 0, vP g5 0, vP g6 0]) rfl rfl rfl) fun a HF => ?_
 refine fp HF 1 1 [(10, .func (.func 35) #[] #[vP g4 0, vP g5 0, vP g6 0])] fun a HF => ?_
 refine qb rfl (wp_seq (qa ?_))
 refine fp HF 1 0 [(11, .slice none 0 0)] fun a HF => ?_
 refine qb rfl ?_
 obtain ⟨lim, rfl⟩ : ∃ k : Nat, limit = (k : Int) := ⟨limit.toNat, by omega⟩
 replace HM := HM.nil 41 5
 replace HM : Mem w _ (.row (.slice none 0 0) 0 [] 41 5 :: .blk g6 #[vI opn] 3 :: .blk g5 #[.slice A l.length c] 22 :: .blk g4 #[vB cpu] 5 :: hbF 45 []) := HM
 refine wp_seq (wp_block ?_)
 refine zy (fun mS aS wS => ∃ (r : List It) (X : Option Addr) (cc : Nat) (q : List Hb) (f : Nat) (Ao : Option Addr) (co : Nat), (Rd w w.heap.size 12 X r.length (r.flatMap itL)) ∧ (r.length ≤ cc) ∧ (GoodI cpu r opn) ∧ (r.length ≤ l.length) ∧ (r.length ≤ f) ∧ (q.map Hb.b ++ cutGo cpu opn lim f r = cutGo cpu opn lim l.length l) ∧ (q.length ≤ co) ∧ (q.length + r.length ≤ l.length) ∧ mS = r.length ∧ Fr aS 87 [] [(11, .slice Ao q.length co), (10, .func (.func 35) #[] #[vP g4 0, vP g5 0, vP g6 0]), (39, .bool false), (31, .bool false), (25, .bool false), (14, .bool false), (9, vI 0), (8, .slice none 0 0), (6, vP g6 0), (5, vP g5 0), (4, vP g4 0), (3, vI lim)] ∧ Mem w wS (.row (.slice Ao q.length co) q.length (q.flatMap hbL) 41 5 :: .blk g6 #[vI opn] 3 :: .blk g5 #[.slice X r.length cc] 22 :: .blk g4 #[vB cpu] 5 :: hbF 45 q)) (m := l.length) ⟨l, A, c, [], l.length, none, 0, hr, by omega, hG, by omega, Nat.le_refl _, List.nil_append _, Nat.le_refl _, by simp, rfl, HF.sub (by kernel_rfl), HM.picksT 4 [0, 1, 2, 3] (by decide) (by decide) rfl⟩ ?_
 clear HF HM; rintro mS a w_ ⟨r, X, cc, q, f, Ao, co, hX, hcc, hGr, hrn, hf, hq, hco, hql, rfl, HF, HM⟩
 refine wp_seq (wp_seq (qa ?_))
 refine fy HF HM 0 rfl rfl rfl (Yl.qi rfl rfl (by kernel_rfl) (fun _ h => h.cell (i := 2) rfl rfl)) fun a HF => ?_
 refine fy HF HM 1 rfl rfl rfl (Yl.len rfl rfl (by kernel_rfl)) fun a HF => ?_
 refine fp HF 1 2 [(50, .bool (decide ((r.length : Int) > (0 : Int))))] fun a HF => ?_
 refine qb rfl ?_
 rcases HF.tf 50 rfl with ⟨hb50, HF⟩ | ⟨hb50, HF⟩
 ·
  have hd50 := of_decide_eq_true hb50
  have hr0 : 0 < r.length := by omega
  obtain ⟨m0, hm0⟩ : ∃ m, m = min r.length lim := ⟨_, rfl⟩
  obtain ⟨hmf, hmo, hmb, hmp, hma⟩ := qhn hGr (m := m0) (by omega) (by omega)
  have hml : (mostB cpu r m0).evs.length = m0 := by show (evsI (r.take m0)).length = m0; rw [qeq, List.length_take]; omega
  have hcf := qp1 hGr (limit := lim) (by omega) hr0
  rw [← hm0] at hcf
  obtain ⟨hcp, hcl, hce⟩ := qij hGr (limit := lim) (by omega) hr0
  have hst := qcm (cpu := cpu) (limit := lim) (opn := opn) hr0 (f := f) (by omega)
  refine qf HF rfl (wp_skip (wp_block (wp_seq (qa ?_))))
  refine fy HF HM 0 rfl rfl rfl (Yl.qi rfl rfl (by kernel_rfl) (fun _ h => h.cell (i := 2) rfl rfl)) fun a HF => ?_
  refine fy HF HM 1 rfl rfl rfl (Yl.len rfl rfl (by kernel_rfl)) fun a HF => ?_
  refine fp HF 1 2 [(53, vI lim)] fun a HF => ?_
  refine fy HF HM 3 rfl rfl rfl (v := vI (if (lim : Int) < (r.length : Int) then (lim : Int) else (r.length : Int))) (Yl.min rfl rfl rfl) fun a HF => ?_
  replace HF := HF.sp 54 (vI m0) rfl (by rw [hm0]; congr 1; split <;> omega)
  refine fp HF 1 4 [(12, vI m0)] fun a HF => ?_
  refine qb rfl ?_
  refine qay (fun aS wS => ∃ (A59 : Option Addr) (c59 : Nat) (g13 : Nat), Fr aS 87 [] [(13, vP g13 0), (12, vI m0), (50, .bool true), (11, .slice Ao q.length co), (10, .func (.func 35) #[] #[vP g4 0, vP g5 0, vP g6 0]), (39, .bool false), (31, .bool false), (25, .bool false), (14, .bool false), (9, vI 0), (8, .slice none 0 0), (6, vP g6 0), (5, vP g5 0), (4, vP g4 0), (3, vI lim)] ∧ Mem w wS (.blk g13 #[vB 1, vB cpu, vI 0, vI 0, .slice A59 ((evsI (r.take m0)).length) c59] 41 :: .row (.slice A59 ((evsI (r.take m0)).length) c59) ((evsI (r.take m0)).length) ((evsI (r.take m0)).flatMap evL) 45 11 :: .row (.slice Ao q.length co) q.length (q.flatMap hbL) 41 5 :: .blk g6 #[vI opn] 3 :: .blk g5 #[.slice X r.length cc] 22 :: .blk g4 #[vB cpu] 5 :: hbF 45 q) ∧ ((evsI (r.take m0)).length ≤ c59)) ?_ ?_
  ·
   refine qpf HM (.row (.slice Ao q.length co) q.length (q.flatMap hbL) 41 5 :: .blk g6 #[vI opn] 3 :: .blk g5 #[.slice X r.length cc] 22 :: .blk g4 #[vB cpu] 5 :: hbF 45 q) 4 [0, 1, 2, 3] [7] fun HM HS => ?_
   refine ap HF (fun _ => HS) [2] #[false, false, true, false, false, false, false, false] [(57, vI m0)] fun a HF => ?_
   refine ay HF HS 0 rfl rfl rfl (Yl.qi rfl rfl (by kernel_rfl) (fun _ h => h.cell (i := 3) rfl rfl)) fun a HF => ?_
   refine ay HF HS 1 rfl rfl rfl (Yl.qi rfl rfl (by kernel_rfl) (fun _ h => h.cell (i := 2) rfl rfl)) fun a HF => ?_
   refine ay HF HS 3 rfl rfl rfl (v := .slice X m0 cc) (Yl.qbz ei_it (j := m0) rfl rfl rfl (by omega)) fun a HF => ?_
   refine qg [4, 6] (by kernel_rfl) rfl ?_
   refine all_cons ?_ ?_
   ·refine qj HF (i := 4) rfl rfl ?_
    refine e_cl HF [.slice X m0 cc] rfl rfl (qke X m0 cc (r.take m0) _ (HM.old (Rd.qqz qbv hX (by omega))) (by rw [List.length_take]; omega) (by omega)) ?_
    rintro _ w59 ⟨⟨A59, c59, rfl, ho, hc59⟩, hbw⟩
    refine ⟨_, rfl, ?_⟩
    replace HM := HM.callRow hbw ho
    clear HF; intro a HF
    refine keepS (HM.picksT 5 [1, 2, 3, 4] (by decide) (by decide) rfl) (fun HS => ?_)
    refine ay HF HS 5 rfl rfl rfl (v := .agg #[vB 1, vB cpu, vI 0, vI 0, .slice A59 ((evsI (r.take m0)).length) c59]) (Yl.build (vs := [(0, vB 1), (1, vB cpu), (4, .slice A59 ((evsI (r.take m0)).length) c59)]) rfl (by kernel_rfl) (by kernel_rfl)) fun a HF => ?_
    refine qg [6] (by kernel_rfl) rfl ?_
    refine all_cons ?_ all_nil
    refine qj HF (i := 6) rfl rfl ?_
    refine qp HF HM (cs := #[vB 0, vB 0, vI 0, vI 0, .slice none 0 0]) rfl (by kernel_rfl) rfl (by decide) ?_
    clear HF HM; intro a w13 g13 HF HM
    refine keepS (HM.picksT 6 [2, 3, 4, 5] (by decide) (by decide) rfl) (fun HS => ?_)
    refine qg [7] (by kernel_rfl) rfl ?_
    refine all_cons ?_ all_nil
    refine qj HF (i := 7) rfl rfl ?_
    refine e_sa HF HM 0 rfl rfl rfl rfl rfl si_bk rfl rfl (by simp [Value.oneCell']) ?_
    clear HM; intro w13_7 HM
    refine noS (by kernel_rfl) ?_
    refine qn (by kernel_rfl) ?_
    exact ⟨A59, c59, g13, HF.sub (by kernel_rfl), HM.picksT 6 [0, 1, 2, 3, 4, 5] (by decide) (by decide) rfl, hc59⟩
   refine all_cons ?_ all_nil
   refine qj HF (i := 6) rfl rfl ?_
   refine qp HF HM (cs := #[vB 0, vB 0, vI 0, vI 0, .slice none 0 0]) rfl (by kernel_rfl) rfl (by decide) ?_
   clear HF HM; intro a w13 g13 HF HM
   refine keepS (HM.picksT 5 [1, 2, 3, 4] (by decide) (by decide) rfl) (fun HS => ?_)
   refine qg [4] (by kernel_rfl) rfl ?_
   refine all_cons ?_ all_nil
   refine qj HF (i := 4) rfl rfl ?_
   refine e_cl HF [.slice X m0 cc] rfl rfl (qke X m0 cc (r.take m0) _ (HM.old (Rd.qqz qbv hX (by omega))) (by rw [List.length_take]; omega) (by omega)) ?_
   rintro _ w59 ⟨⟨A59, c59, rfl, ho, hc59⟩, hbw⟩
   refine ⟨_, rfl, ?_⟩
   replace HM := HM.callRow hbw ho
   clear HF; intro a HF
   refine keepS (HM.picksT 6 [2, 3, 4, 5] (by decide) (by decide) rfl) (fun HS => ?_)
   refine ay HF HS 5 rfl rfl rfl (v := .agg #[vB 1, vB cpu, vI 0, vI 0, .slice A59 ((evsI (r.take m0)).length) c59]) (Yl.build (vs := [(0, vB 1), (1, vB cpu), (4, .slice A59 ((evsI (r.take m0)).length) c59)]) rfl (by kernel_rfl) (by kernel_rfl)) fun a HF => ?_
   refine qg [7] (by kernel_rfl) rfl ?_
   refine all_cons ?_ all_nil
   refine qj HF (i := 7) rfl rfl ?_
   refine e_sa HF HM 1 rfl rfl rfl rfl rfl si_bk rfl rfl (by simp [Value.oneCell']) ?_
   clear HM; intro w13_7 HM
   refine noS (by kernel_rfl) ?_
   refine qn (by kernel_rfl) ?_
   exact ⟨A59, c59, g13, HF.sub (by kernel_rfl), HM.picksT 6 [1, 0, 2, 3, 4, 5] (by decide) (by decide) rfl, hc59⟩
  clear HF HM; rintro a w13 ⟨A59, c59, g13, HF, HM, hc59⟩
  refine wp_seq (qa ?_)
  refine fy HF HM 0 rfl rfl rfl (v := .agg #[vB 1, vB cpu, vI 0, vI 0, .slice A59 ((evsI (r.take m0)).length) c59]) (Yl.zg rfl rfl si_bk rfl (fun _ h => qd (h.blk (i := 0) rfl))) fun a HF => ?_
  refine fo HF 1 rfl rfl ?_
  refine e_is HF HM [.agg #[vB 1, vB cpu, vI 0, vI 0, .slice A59 ((evsI (r.take m0)).length) c59]] (.tuple #[vI ((mostB cpu r m0).qdt), vI 0]) rfl rfl (qse (mostB cpu r m0) hmo hmf A59 c59 B _ (hL.mem HM hB) (HM.le hB) (HM.rd (i := 1) rfl) (by rw [hml]; omega)) fun w63 hbw HM a HF => ?_
  refine fp HF 4 2 [(12, vI ((mostB cpu r m0).qdt))] fun a HF => ?_
  refine qb rfl (wp_seq (wp_block ?_))
  refine zy (fun mS aS wS => ∃ (m : Nat), (m ≤ r.length) ∧ (cutN cpu r opn lim ≤ m) ∧ (cutN cpu r opn lim = qai (fun n => decide ((ofB cpu r opn n).err = 0)) m) ∧ mS = 0 + m ∧ Fr aS 87 [] [(12, vI m), (13, vP g13 0), (50, .bool true), (11, .slice Ao q.length co), (10, .func (.func 35) #[] #[vP g4 0, vP g5 0, vP g6 0]), (39, .bool false), (31, .bool false), (25, .bool false), (14, .bool false), (9, vI 0), (8, .slice none 0 0), (6, vP g6 0), (5, vP g5 0), (4, vP g4 0), (3, vI lim)] ∧ Mem w wS (.blk g13 #[vB 1, vB cpu, vI 0, vI 0, .slice A59 ((evsI (r.take m0)).length) c59] 41 :: .row (.slice A59 ((evsI (r.take m0)).length) c59) ((evsI (r.take m0)).length) ((evsI (r.take m0)).flatMap evL) 45 11 :: .row (.slice Ao q.length co) q.length (q.flatMap hbL) 41 5 :: .blk g6 #[vI opn] 3 :: .blk g5 #[.slice X r.length cc] 22 :: .blk g4 #[vB cpu] 5 :: hbF 45 q)) (m := 0 + ((mostB cpu r m0).qdt)) ⟨(mostB cpu r m0).qdt, by omega, by rw [hcf]; exact qcl _ _, hcf, rfl, HF.sub (by kernel_rfl), HM.picksT 6 [0, 1, 2, 3, 4, 5] (by decide) (by decide) rfl⟩ ?_
  clear HF HM; rintro mS a w_ ⟨m, hm, hmc, hdn, rfl, HF, HM⟩
  refine wp_seq (wp_seq (qa ?_))
  refine fp HF 2 0 [(67, vI m), (66, .func (.func 35) #[] #[vP g4 0, vP g5 0, vP g6 0])] fun a HF => ?_
  refine fo HF 2 rfl rfl ?_
  refine qb7 HF (f := 35) (vs := [vI m]) (fst := []) (caps := [vP g4 0, vP g5 0, vP g6 0]) rfl rfl rfl (by kernel_rfl) rfl (by decide) (qmg cpu X r.length cc r opn m hGr (by omega) g4 g5 g6 _ (HM.blk (i := 5) rfl) (HM.blk (i := 4) rfl) (HM.blk (i := 3) rfl) (HM.old hX) hcc rfl (by omega)) ?_
  rintro _ w68 ⟨⟨A68, c68, rfl, ho, hc68⟩, hbw⟩
  refine ⟨_, rfl, ?_⟩
  replace HM := HM.callRow hbw ho
  clear HF; intro a HF
  refine fo HF 3 rfl rfl ?_
  refine e_is HF HM [.agg ((ofB cpu r opn m).cells A68 c68)] (vI ((ofB cpu r opn m).err)) rfl rfl (qge (ofB cpu r opn m) (ql6 hGr m) A68 c68 B _ (hL.mem HM hB) (HM.le hB) (HM.rd (i := 0) rfl) (by rw [qb9 (by omega)]; omega) rfl) fun w69 hbw HM a HF => ?_
  refine fp HF 1 4 [(70, .bool (((ofB cpu r opn m).err : Int) != (0 : Int)))] fun a HF => ?_
  refine qb rfl ?_
  rcases HF.tf 70 rfl with ⟨hb70, HF⟩ | ⟨hb70, HF⟩
  ·
   have hd70 := bne_iff_ne.1 hb70
   have hdd := qk6 (p := (fun n => decide ((ofB cpu r opn n).err = 0))) (m := m) (by rw [decide_eq_false_iff_not]; omega) (by omega)
   have hle := qcl (fun n => decide ((ofB cpu r opn n).err = 0)) (m - 1)
   refine qf HF rfl (wp_skip (wp_block (qa ?_)))
   refine fp HF 2 0 [(72, vI (IntKind.i64.wrap ((m : Int) - 1)))] fun a HF => ?_
   replace HF := HF.sp 72 (vI (m - 1 : Nat)) rfl (ql (by omega) (by omega))
   refine fp HF 1 2 [(12, vI (m - 1 : Nat))] fun a HF => ?_
   refine qb rfl ?_
   exact ⟨_, (by omega), (m - 1), by omega, by rw [hdn, hdd]; exact hle, hdn.trans hdd, rfl, HF.sub (by kernel_rfl), HM.picksT 7 [1, 2, 3, 4, 5, 6] (by decide) (by decide) rfl⟩
  have hd70 := bne_eq_false_iff_eq.1 hb70
  have hhere := qk7 (p := (fun n => decide ((ofB cpu r opn n).err = 0))) (m := m) (by rw [decide_eq_true_eq]; omega)
  rw [hdn, hhere] at hst
  refine qe HF rfl (wp_exit (wp_seq (qa ?_)))
  refine fp HF 3 0 [(75, vI m), (74, .func (.func 35) #[] #[vP g4 0, vP g5 0, vP g6 0]), (73, .slice Ao q.length co)] fun a HF => ?_
  refine fo HF 3 rfl rfl ?_
  refine qb7 HF (f := 35) (vs := [vI m]) (fst := []) (caps := [vP g4 0, vP g5 0, vP g6 0]) rfl rfl rfl (by kernel_rfl) rfl (by decide) (qmg cpu X r.length cc r opn m hGr (by omega) g4 g5 g6 _ (HM.blk (i := 6) rfl) (HM.blk (i := 5) rfl) (HM.blk (i := 4) rfl) (HM.old hX) hcc rfl (by omega)) ?_
  rintro _ w76 ⟨⟨A76, c76, rfl, ho, hc76⟩, hbw⟩
  refine ⟨_, rfl, ?_⟩
  replace HM := HM.callRow hbw ho
  clear HF; intro a HF
  refine fo HF 4 rfl rfl ?_
  refine zo HF HM (vs := [(0, .agg ((ofB cpu r opn m).cells A76 c76))]) (cs := ((ofB cpu r opn m).cells A76 c76)) rfl ql8 (by decide) rfl (by kernel_rfl) rfl (by decide) ?_
  clear HF HM; intro a w77 g77 HF HM
  refine fo HF 5 rfl rfl ?_
  refine zh HF HM (i := 5) rfl ql8 rfl rfl rfl (news := (hbL (⟨ofB cpu r opn m, A76, c76⟩ : Hb))) (HM.rdBlk (i := 0) (n := 1) (size := 5) rfl rfl) (qb4 _ _ _) (by omega) (by omega) rfl (by decide) ?_
  clear HF HM; intro a w78 A78 c78 HF HM hc78
  refine fp HF 1 6 [(11, .slice A78 (q.length + 1) c78)] fun a HF => ?_
  refine qb rfl ?_
  have hnA78 : q.length + 1 = (q ++ [(⟨ofB cpu r opn m, A76, c76⟩ : Hb)]).length := by rw [List.length_append]; rfl
  replace HM := HM.reRow (i := 5) (ys := (q ++ [(⟨ofB cpu r opn m, A76, c76⟩ : Hb)]).flatMap hbL) rfl hnA78 (by rw [List.flatMap_append, List.flatMap_cons, List.flatMap_nil, List.append_nil])
  rw [hnA78] at hc78
  replace HF := HF.as (t := 11) (u := .slice A78 ((q ++ [(⟨ofB cpu r opn m, A76, c76⟩ : Hb)]).length) c78) rfl (by rw [hnA78])
  replace HF := HF.as (t := 78) (u := .slice A78 ((q ++ [(⟨ofB cpu r opn m, A76, c76⟩ : Hb)]).length) c78) rfl (by rw [hnA78])
  replace HM := Mem.qvv (a := [.blk g77 ((ofB cpu r opn m).cells A76 c76) 41, .row (.slice A68 ((ofB cpu r opn m).evs.length) c68) ((ofB cpu r opn m).evs.length) ((ofB cpu r opn m).evs.flatMap evL) 45 11, .blk g13 #[vB 1, vB cpu, vI 0, vI 0, .slice A59 ((evsI (r.take m0)).length) c59] 41, .row (.slice A59 ((evsI (r.take m0)).length) c59) ((evsI (r.take m0)).length) ((evsI (r.take m0)).flatMap evL) 45 11, .row (.slice A78 ((q ++ [(⟨ofB cpu r opn m, A76, c76⟩ : Hb)]).length) c78) ((q ++ [(⟨ofB cpu r opn m, A76, c76⟩ : Hb)]).length) ((q ++ [(⟨ofB cpu r opn m, A76, c76⟩ : Hb)]).flatMap hbL) 41 5, .blk g6 #[vI opn] 3, .blk g5 #[.slice X r.length cc] 22, .blk g4 #[vB cpu] 5]) (q := q) (HM.picksT (fs' := (.row (.slice A76 ((ofB cpu r opn m).evs.length) c76) ((ofB cpu r opn m).evs.length) ((ofB cpu r opn m).evs.flatMap evL) 45 11 :: .blk g77 ((ofB cpu r opn m).cells A76 c76) 41 :: .row (.slice A68 ((ofB cpu r opn m).evs.length) c68) ((ofB cpu r opn m).evs.length) ((ofB cpu r opn m).evs.flatMap evL) 45 11 :: .blk g13 #[vB 1, vB cpu, vI 0, vI 0, .slice A59 ((evsI (r.take m0)).length) c59] 41 :: .row (.slice A59 ((evsI (r.take m0)).length) c59) ((evsI (r.take m0)).length) ((evsI (r.take m0)).flatMap evL) 45 11 :: .row (.slice A78 ((q ++ [(⟨ofB cpu r opn m, A76, c76⟩ : Hb)]).length) c78) ((q ++ [(⟨ofB cpu r opn m, A76, c76⟩ : Hb)]).length) ((q ++ [(⟨ofB cpu r opn m, A76, c76⟩ : Hb)]).flatMap hbL) 41 5 :: .blk g6 #[vI opn] 3 :: .blk g5 #[.slice X r.length cc] 22 :: .blk g4 #[vB cpu] 5 :: hbF 45 q)) 9 [1, 0, 2, 3, 4, 5, 6, 7, 8] (by decide) (by decide) rfl) rfl
  replace HM : Mem w _ (.blk g77 ((ofB cpu r opn m).cells A76 c76) 41 :: .row (.slice A68 ((ofB cpu r opn m).evs.length) c68) ((ofB cpu r opn m).evs.length) ((ofB cpu r opn m).evs.flatMap evL) 45 11 :: .blk g13 #[vB 1, vB cpu, vI 0, vI 0, .slice A59 ((evsI (r.take m0)).length) c59] 41 :: .row (.slice A59 ((evsI (r.take m0)).length) c59) ((evsI (r.take m0)).length) ((evsI (r.take m0)).flatMap evL) 45 11 :: .row (.slice A78 ((q ++ [(⟨ofB cpu r opn m, A76, c76⟩ : Hb)]).length) c78) ((q ++ [(⟨ofB cpu r opn m, A76, c76⟩ : Hb)]).length) ((q ++ [(⟨ofB cpu r opn m, A76, c76⟩ : Hb)]).flatMap hbL) 41 5 :: .blk g6 #[vI opn] 3 :: .blk g5 #[.slice X r.length cc] 22 :: .blk g4 #[vB cpu] 5 :: hbF 45 (q ++ [(⟨ofB cpu r opn m, A76, c76⟩ : Hb)])) := HM
  refine qa ?_
  refine fy HF HM 0 rfl rfl rfl (Yl.qi rfl rfl (by kernel_rfl) (fun _ h => h.cell (i := 6) rfl rfl)) fun a HF => ?_
  refine fp HF 1 1 [(80, vI m)] fun a HF => ?_
  refine fy HF HM 2 rfl rfl rfl (Yl.qi rfl rfl (by kernel_rfl) (fun _ h => h.cell (i := 6) rfl rfl)) fun a HF => ?_
  refine fy HF HM 3 rfl rfl rfl (Yl.len rfl rfl (by kernel_rfl)) fun a HF => ?_
  refine fy HF HM 4 rfl rfl rfl (Yl.qi rfl rfl (by kernel_rfl) (fun _ h => h.cell (i := 6) rfl rfl)) fun a HF => ?_
  refine fy HF HM 5 rfl rfl rfl (Yl.len rfl rfl (by kernel_rfl)) fun a HF => ?_
  refine fy HF HM 6 rfl rfl rfl (v := .slice (if r.length = m then X else X.map (·.add (m * 12))) (r.length - m) (r.length - m)) (Yl.qvr ei_it (i := m) (j := r.length) (q := r.length) rfl rfl rfl rfl rfl (by omega) (by omega) (by omega)) fun a HF => ?_
  replace HF := HF.sp 85 (.slice (if r.length = m then X else X.map (·.add (m * 12))) ((r.drop m).length) ((r.drop m).length)) rfl (by rw [List.length_drop])
  refine fo HF 7 rfl rfl ?_
  refine qq HF HM (i := 6) rfl rfl rfl rfl (by kernel_rfl) rfl rfl (by simp) ?_
  clear HM; intro w18_7 HM
  refine qb rfl ?_
  exact ⟨_, (by rw [List.length_drop]; omega), (r.drop m), if r.length = m then X else X.map (·.add (m * 12)), (r.drop m).length, (q ++ [(⟨ofB cpu r opn m, A76, c76⟩ : Hb)]), (f - 1), A78, c78, Rd.qvw qbv hX (by omega) (Nat.le_refl _), Nat.le_refl _, hGr.drop m, by rw [List.length_drop]; omega, by rw [List.length_drop]; omega, by rw [← hq, hst, List.map_append, List.append_assoc]; rfl, hc78, by rw [List.length_append, List.length_drop, List.length_singleton]; omega, rfl, HF.sub (by kernel_rfl), HM.picksT 8 [4, 5, 6, 7] (by decide) (by decide) rfl⟩
 have hd50 := of_decide_eq_false hb50
 have hq2 : q.map Hb.b = cutGo cpu opn lim l.length l := by rw [← hq, qdd (by omega), List.append_nil]
 refine qe HF rfl (wp_exit (wp_seq (qa ?_)))
 refine fp HF 3 0 [(9, vI 0), (8, .slice Ao q.length co)] fun a HF => ?_
 refine qb rfl (wp_ret ?_)
 replace HM := HM.picksT (fs' := (.row (.slice Ao q.length co) q.length (q.flatMap hbL) 41 5 :: hbF 45 q)) 4 [0] (by decide) (by decide) rfl
 exact ret2 rfl HF (.tmp HF rfl) (.tmp HF rfl) (by rw [qjx (by omega) hgood (by omega), ← hq2]; exact qts HM hco)
theorem quc : SI Tryd.prog 102 6 := ⟨by kernel_rfl, by kernel_rfl⟩
theorem qnt (W w : World) (gb lp B : Nat) (A : Option Addr) (c : Nat) (l : List Nat) (Inv : List Nat → List Fact → Prop) (Stop : List Fact → Prop) (F0 : List Fact) (hL : LaidX B W) (hB : B ≤ W.heap.size) (hr : Rd W W.heap.size 1 A l.length (l.map B8)) (hc : l.length ≤ c) (hl : ∀ b ∈ l, b < 256) (hn : l.length ≤ 100000000)
    (hy : qhq W lp Inv Stop) (hI0 : Inv l F0) (HM : Mem W w (.blk gb #[.slice A l.length c] 54 :: F0)) :
    Calls Tryd.prog 60 (.func (.yield lp) #[] #[] :: [.pointer (some ⟨gb, 0, none⟩)]).toArray w (qp9 W Inv Stop) := by
 refine qh (vs := [.func (.yield lp) #[] #[], vP gb 0]) Tryd.func60 rfl rfl (by kernel_rfl) (σ0 := [(0, .func (.yield lp) #[] #[]), (1, vP gb 0)]) rfl ?_
 intro a HF
 refine wp_block ?_
 refine zy (fun mS aS wS => ∃ (rest : List Nat) (X : Option Addr) (cc : Nat) (F : List Fact), (Inv rest F) ∧ (Rd W W.heap.size 1 X rest.length (rest.map B8)) ∧ (rest.length ≤ cc) ∧ (∀ b ∈ rest, b < 256) ∧ (rest.length ≤ l.length) ∧ mS = rest.length ∧ Fr aS 29 [] [(0, .func (.yield lp) #[] #[]), (1, vP gb 0)] ∧ Mem W wS (.blk gb #[.slice X rest.length cc] 54 :: F)) (m := l.length) ⟨l, A, c, F0, hI0, hr, hc, hl, Nat.le_refl _, rfl, HF.sub (by kernel_rfl), HM.picksT 1 [0] (by decide) (by decide) rfl⟩ ?_
 clear HF HM; rintro mS a w_ ⟨rest, X, cc, F, hI, hX, hcc, hrl, hrn, rfl, HF, HM⟩
 refine wp_seq (wp_seq (qa ?_))
 refine fy HF HM 0 rfl rfl rfl (Yl.qi rfl rfl (by kernel_rfl) (fun _ h => h.cell (i := 0) rfl rfl)) fun a HF => ?_
 refine fy HF HM 1 rfl rfl rfl (Yl.len rfl rfl (by kernel_rfl)) fun a HF => ?_
 refine fp HF 1 2 [(8, .bool (decide ((rest.length : Int) > (0 : Int))))] fun a HF => ?_
 refine qb rfl ?_
 rcases HF.tf 8 rfl with ⟨hb8, HF⟩ | ⟨hb8, HF⟩
 ·
  have hd8 := of_decide_eq_true hb8
  have hne : 0 < rest.length := by omega
  obtain ⟨b, m, er, hq⟩ : ∃ b m er, readB rest = (b, m, er) := ⟨_, _, _, rfl⟩
  refine qf HF rfl (wp_skip (wp_block (wp_seq (qa ?_))))
  refine fy HF HM 0 rfl rfl rfl (Yl.qi rfl rfl (by kernel_rfl) (fun _ h => h.cell (i := 0) rfl rfl)) fun a HF => ?_
  refine fo HF 1 rfl rfl ?_
  refine e_cl HF [.slice X rest.length cc] rfl rfl (qig X rest.length cc rest B _ (hL.mem HM hB) (HM.le hB) (HM.old hX) hcc rfl (by omega) hrl hq) ?_
  rintro _ w11 ⟨⟨A11, c11, rfl, ho, hc11⟩, hbw⟩
  refine ⟨_, rfl, ?_⟩
  replace HM := HM.callRow hbw ho
  clear HF; intro a HF
  refine fp HF 4 2 [(14, vI er), (13, vI m), (12, .agg (b.cells A11 c11))] fun a HF => ?_
  refine fo HF 6 rfl rfl ?_
  refine qp HF HM (cs := #[vB 0, vB 0, vI 0, vI 0, .slice none 0 0]) rfl (by kernel_rfl) rfl (by decide) ?_
  clear HF HM; intro a w3 g3 HF HM
  refine fo HF 7 rfl rfl ?_
  refine e_sa HF HM 0 rfl rfl rfl rfl rfl si_bk rfl rfl (qb4 _ _ _) ?_
  clear HM; intro w1_7 HM
  refine fp HF 2 8 [(5, vI er), (4, vI m)] fun a HF => ?_
  refine qb rfl (wp_seq (wp_seq ?_))
  refine qj4 (i := 5) ?_
  refine fp HF 1 0 [(15, .func (.yield lp) #[] #[])] fun a HF => ?_
  refine fy HF HM 1 rfl rfl rfl (v := .agg (b.cells A11 c11)) (Yl.zg rfl rfl si_bk rfl (fun _ h => qd (h.blk (i := 0) rfl))) fun a HF => ?_
  refine fp HF 1 2 [(17, vI m)] fun a HF => ?_
  refine fy HF HM 3 rfl rfl rfl (v := .agg #[vB b.kind, vB b.cpu, vI b.lost, vI b.next, .slice A11 b.evs.length c11, vI m]) (Yl.build (vs := [(0, .agg (b.cells A11 c11)), (1, vI m)]) rfl (by kernel_rfl) (by kernel_rfl)) fun a HF => ?_
  refine fp HF 1 4 [(19, vI er)] fun a HF => ?_
  refine qb rfl ?_
  refine qr4 HF (i := 5) (vs := [.agg #[vB b.kind, vB b.cpu, vI b.lost, vI b.next, .slice A11 b.evs.length c11, vI m], vI er]) rfl rfl rfl rfl rfl rfl (by decide) (hy rest F _ _ A11 c11 b m er hI hq hne hrl hc11 (Mem.quj (es := [.blk g3 (b.cells A11 c11) 41, .blk gb #[.slice X rest.length cc] 54]) (HM.picksT (fs' := (.row (.slice A11 b.evs.length c11) b.evs.length (b.evs.flatMap evL) 45 11 :: .blk g3 (b.cells A11 c11) 41 :: .blk gb #[.slice X rest.length cc] 54 :: F)) 3 [1, 0, 2] (by decide) (by decide) rfl))) qgz ?_
  clear HF HM; rintro v w20 a ⟨F2, HM, (⟨he, hv, hI2⟩ | ⟨he, hv, hS2⟩)⟩ HF <;> injection hv with hv <;> subst hv
  ·
   replace HM : Mem W w20 (.blk g3 (b.cells A11 c11) 41 :: .blk gb #[.slice X rest.length cc] 54 :: F2) := Mem.qq0 (es := [.blk g3 (b.cells A11 c11) 41, .blk gb #[.slice X rest.length cc] 54]) HM
   have hq0 := hq; rw [he] at hq0; have hof := qif hrl hq0; have hm13 := hof.least; have hml := hof.len; have hst : (rest.drop m).length < rest.length := by rw [List.length_drop]; omega
   refine fp HF 4 6 [(24, .bool ((er : Int) != (0 : Int))), (22, .bool false)] fun a HF => ?_
   replace HF := HF.sp 24 (.bool false) rfl (by rw [he]; simp)
   refine fp HF 1 10 [(25, .bool false)] fun a HF => ?_
   refine qb rfl (qe HF rfl (wp_skip (qa ?_)))
   refine fy HF HM 0 rfl rfl rfl (Yl.qi rfl rfl (by kernel_rfl) (fun _ h => h.cell (i := 1) rfl rfl)) fun a HF => ?_
   refine fp HF 1 1 [(27, vI m)] fun a HF => ?_
   refine fy HF HM 2 rfl rfl rfl (v := .slice (if cc = m then X else X.map (·.add (m * 1))) (rest.length - m) (cc - m)) (Yl.sliceFrom ei_u8 (j := m) rfl rfl rfl (by omega)) fun a HF => ?_
   replace HF := HF.sp 28 (.slice (if cc = m then X else X.map (·.add (m * 1))) ((rest.drop m).length) (cc - m)) rfl (by rw [List.length_drop])
   refine fo HF 3 rfl rfl ?_
   refine qq HF HM (i := 1) rfl rfl rfl rfl (by kernel_rfl) rfl rfl (by simp) ?_
   clear HM; intro w3_3 HM
   refine qb rfl ?_
   exact ⟨_, hst, (rest.drop m), if cc = m then X else X.map (·.add (m * 1)), cc - m, F2, hI2, Rd.qvy hX hml hcc, by rw [List.length_drop]; omega, qa0 hrl m, by omega, rfl, HF.sub (by kernel_rfl), HM.picksT 2 [1] (by decide) (by decide) rfl⟩
  ·
   replace HM : Mem W w20 (.blk g3 (b.cells A11 c11) 41 :: .blk gb #[.slice X rest.length cc] 54 :: F2) := Mem.qq0 (es := [.blk g3 (b.cells A11 c11) 41, .blk gb #[.slice X rest.length cc] 54]) HM
   refine fp HF 5 6 [(25, .bool true)] fun a HF => ?_
   refine qb rfl (qf HF rfl (wp_ret ?_))
   exact ret0 rfl HF (⟨_, rfl, F2, Mem.qmn [.blk g3 (b.cells A11 c11) 41, .blk gb #[.slice X rest.length cc] 54] HM, .inr hS2⟩)
 have hd8 := of_decide_eq_false hb8
 have hr0 : rest = [] := List.length_eq_zero_iff.1 (by omega)
 refine qe HF rfl (wp_exit ?_)
 subst hr0
 exact norm0 rfl HF (⟨_, rfl, F, Mem.qmn [.blk gb #[.slice X ([] : List Nat).length cc] 54] HM, .inl hI⟩)
theorem qqp (A : Option Addr) (n c : Nat) (w : World) :
    Calls Tryd.prog 42 #[.slice A n c] w fun r w' => ∃ g, r = .returned (.func (.func 60) #[] #[.pointer (some ⟨g, 0, none⟩)]) ∧ Mem w w' [.blk g #[.slice A n c] 54] := by
 refine qh (vs := [.slice A n c]) Tryd.func42 rfl rfl (by kernel_rfl) (σ0 := [(0, .slice A n c)]) rfl ?_
 intro a HF
 have HM := Mem.start w
 refine wp_seq (qa ?_)
 refine fo HF 0 rfl rfl ?_
 refine e_box HF HM (cs := #[.slice A n c]) rfl rfl rfl rfl (by decide) ?_
 clear HF HM; intro a w1 g1 HF HM
 refine fp HF 1 1 [(2, .nilFunc)] fun a HF => ?_
 refine qb rfl (wp_seq (qa ?_))
 refine fy HF HM 0 rfl rfl rfl (v := .func (.func 60) #[] #[vP g1 0]) (Yl.makeFunc (fst := []) (caps := [vP g1 0]) rfl rfl rfl) fun a HF => ?_
 refine fp HF 1 1 [(2, .func (.func 60) #[] #[vP g1 0])] fun a HF => ?_
 refine qb rfl (wp_ret ?_)
 exact ret1 rfl HF (.tmp HF rfl) (⟨_, rfl, HM⟩)
theorem qud (A : Option Addr) (c : Nat) (l : List Nat) (BB : Nat) (w : World) (hL : LaidX BB w) (hB : BB ≤ w.heap.size) (hr : Rd w w.heap.size 1 A l.length (l.map B8)) (hc : l.length ≤ c) (hl : ∀ b ∈ l, b < 256) (hn : l.length ≤ 100000000) :
    Calls Tryd.prog 22 #[.slice A l.length c] w (Is w (.tuple #[.int .i64 ((qfm l).1.length : Int), .int .i64 ((qfm l).2.1 : Int), .int .i64 ((qfm l).2.2 : Int)])) := by
 refine qin (vs := [.slice A l.length c]) Tryd.func22 rfl rfl (by kernel_rfl) (σ0 := [(0, .slice A l.length c)]) rfl ?_
 intro a HF
 have HM := Mem.start w
 refine wp_seq (qa ?_)
 refine fo HF 0 rfl rfl ?_
 refine qp HF HM (cs := #[vI 0]) rfl (by kernel_rfl) rfl (by decide) ?_
 clear HF HM; intro a w2 g2 HF HM
 refine fo HF 1 rfl rfl ?_
 refine qp HF HM (cs := #[vI 0]) rfl (by kernel_rfl) rfl (by decide) ?_
 clear HF HM; intro a w3 g3 HF HM
 refine fo HF 2 rfl rfl ?_
 refine qp HF HM (cs := #[vI 0]) rfl (by kernel_rfl) rfl (by decide) ?_
 clear HF HM; intro a w4 g4 HF HM
 refine qb rfl (wp_seq (wp_seq (qa ?_)))
 refine fp HF 1 0 [(9, .slice A l.length c)] fun a HF => ?_
 refine fy HF HM 1 rfl rfl rfl (Yl.len rfl rfl (by kernel_rfl)) fun a HF => ?_
 refine fp HF 1 2 [(11, .bool (decide ((l.length : Int) > (524288 : Int))))] fun a HF => ?_
 refine qb rfl ?_
 rcases HF.tf 11 rfl with ⟨hb11, HF⟩ | ⟨hb11, HF⟩
 ·
  have hd11 := of_decide_eq_true hb11
  refine qf HF rfl (wp_seq (qa ?_))
  refine fo HF 0 rfl rfl ?_
  refine qq HF HM (i := 2) rfl rfl rfl rfl (by kernel_rfl) rfl rfl (by simp) ?_
  clear HM; intro w2_0 HM
  refine fo HF 1 rfl rfl ?_
  refine qq HF HM (i := 1) rfl rfl rfl rfl (by kernel_rfl) rfl rfl (by simp) ?_
  clear HM; intro w2_1 HM
  refine fo HF 2 rfl rfl ?_
  refine qq HF HM (i := 0) rfl rfl rfl rfl (by kernel_rfl) rfl rfl (by simp) ?_
  clear HM; intro w2_2 HM
  refine qb rfl (wp_ret ?_)
  refine qve ?_
  exact ret3 rfl HF (.cell1 (i := 2) HF HM rfl rfl (by kernel_rfl) rfl) (.cell1 (i := 1) HF HM rfl rfl (by kernel_rfl) rfl) (.cell1 (i := 0) HF HM rfl rfl (by kernel_rfl) rfl) (⟨by rw [show qfm l = ([], 0, 3) from if_pos (by omega)]; rfl, HM.below⟩)
 have hd11 := of_decide_eq_false hb11
 refine qe HF rfl (wp_skip (wp_seq (qa ?_)))
 refine fo HF 0 rfl rfl ?_
 refine qp HF HM (cs := #[vI 0]) rfl (by kernel_rfl) rfl (by decide) ?_
 clear HF HM; intro a w5 g5 HF HM
 refine fo HF 1 rfl rfl ?_
 refine qp HF HM (cs := #[vI 0]) rfl (by kernel_rfl) rfl (by decide) ?_
 clear HF HM; intro a w6 g6 HF HM
 refine fo HF 2 rfl rfl ?_
 refine qq HF HM (i := 1) rfl rfl rfl rfl (by kernel_rfl) rfl rfl (by simp) ?_
 clear HM; intro w3_2 HM
 refine fo HF 3 rfl rfl ?_
 refine qq HF HM (i := 0) rfl rfl rfl rfl (by kernel_rfl) rfl rfl (by simp) ?_
 clear HM; intro w3_3 HM
 refine qb rfl (wp_seq (wp_seq (qa ?_)))
 refine fp HF 1 0 [(12, .slice A l.length c)] fun a HF => ?_
 refine fo HF 1 rfl rfl ?_
 refine e_cl HF [.slice A l.length c] rfl rfl (qqp A l.length c _) ?_
 rintro _ w13 ⟨gp, rfl, hm⟩
 refine ⟨_, rfl, ?_⟩
 replace HM := HM.join hm
 clear HF; intro a HF
 refine qb rfl (wp_block ?_)
 refine qvd HF HM (fun F => ∃ (k : Nat) (p : Nat) (f : Nat), (([] : List Nat).length ≤ f) ∧ ((qz l.length l).1.length = k + (qz f ([] : List Nat)).1.length) ∧ ((qz l.length l).2.1 = p + (qz f ([] : List Nat)).2.1) ∧ ((qz l.length l).2.2 = (qz f ([] : List Nat)).2.2) ∧ (k + ([] : List Nat).length ≤ l.length) ∧ (p + ([] : List Nat).length ≤ l.length) ∧ F = [.blk g6 #[vI p] 3, .blk g5 #[vI k] 3, .blk g4 #[vI 0] 36, .blk g3 #[vI 0] 3, .blk g2 #[vI 0] 3]) (fun c F => c = .ret ∧ ∃ (k : Nat) (p : Nat) (e : Nat), ((qz l.length l).1.length = k) ∧ ((qz l.length l).2.1 = p) ∧ ((qz l.length l).2.2 = e) ∧ F = [.blk g6 #[vI p] 3, .blk g5 #[vI k] 3, .blk g4 #[vI e] 36, .blk g3 #[vI p] 3, .blk g2 #[vI k] 3]) rfl (by kernel_rfl) ?_ ?_ ?_
 ·
  clear HF HM; intro lp B rec w1 hrec HM
  have hy : qhq w lp (fun rest F => ∃ (k : Nat) (p : Nat) (f : Nat), (rest.length ≤ f) ∧ ((qz l.length l).1.length = k + (qz f rest).1.length) ∧ ((qz l.length l).2.1 = p + (qz f rest).2.1) ∧ ((qz l.length l).2.2 = (qz f rest).2.2) ∧ (k + rest.length ≤ l.length) ∧ (p + rest.length ≤ l.length) ∧ F = (.obj lp (.loop (rec .ready none)) :: .obj B (.deferred (some [])) :: [.blk g6 #[vI p] 3, .blk g5 #[vI k] 3, .blk g4 #[vI 0] 36, .blk g3 #[vI 0] 3, .blk g2 #[vI 0] 3])) (fun F => ∃ (k : Nat) (p : Nat) (e : Nat), ((qz l.length l).1.length = k) ∧ ((qz l.length l).2.1 = p) ∧ ((qz l.length l).2.2 = e) ∧ F = (.obj lp (.loop (rec .done (some .ret))) :: .obj B (.deferred (some [])) :: [.blk g6 #[vI p] 3, .blk g5 #[vI k] 3, .blk g4 #[vI e] 36, .blk g3 #[vI p] 3, .blk g2 #[vI k] 3])) := by
   rintro rest F fr w3 A9 c9 b m er ⟨k, p, f, hf, hk, hp, he, hkn, hpn, rfl⟩ hq hne hrl hcb HM
   replace HM := HM.picksT (fs' := (.obj lp (.loop (rec .ready none)) :: .row (.slice A9 b.evs.length c9) b.evs.length (b.evs.flatMap evL) 45 11 :: .obj B (.deferred (some [])) :: .blk g6 #[vI p] 3 :: .blk g5 #[vI k] 3 :: .blk g4 #[vI 0] 36 :: .blk g3 #[vI 0] 3 :: .blk g2 #[vI 0] 3 :: fr)) 8 [1, 0, 2, 3, 4, 5, 6, 7] (by decide) (by decide) rfl
   refine qj2 (v1 := .agg #[.int .u8 (b.kind : Int), .int .u8 (b.cpu : Int), .int .i64 b.lost, .int .i64 b.next, .slice A9 b.evs.length c9, .int .i64 (m : Int)]) (v2 := vI er) hrec HM (by decide) (by decide) fun a HF => ?_
   refine wpIn_seq ?_
   refine qbi ?_
   refine fo HF 0 rfl rfl ?_
   refine qp HF HM (cs := #[vB 0, vB 0, vI 0, vI 0, .slice none 0 0, vI 0]) rfl (by kernel_rfl) rfl (by decide) ?_
   clear HF HM; intro a w7 g7 HF HM
   refine fo HF 1 rfl rfl ?_
   refine e_sa HF HM 0 rfl rfl rfl rfl rfl quc rfl rfl (by simp [Value.oneCell']) ?_
   clear HM; intro w5_1 HM
   refine qb rfl ?_
   refine qbi ?_
   refine fp HF 1 0 [(8, vI er)] fun a HF => ?_
   refine qb rfl ?_
   refine ⟨(.blk g7 #[.int .u8 (b.kind : Int), .int .u8 (b.cpu : Int), .int .i64 b.lost, .int .i64 b.next, .slice A9 b.evs.length c9, .int .i64 (m : Int)] 102 :: .row (.slice A9 b.evs.length c9) b.evs.length (b.evs.flatMap evL) 45 11 :: .obj B (.deferred (some [])) :: .blk g6 #[vI p] 3 :: .blk g5 #[vI k] 3 :: .blk g4 #[vI 0] 36 :: .blk g3 #[vI 0] 3 :: .blk g2 #[vI 0] 3 :: fr), HM.picksT (fs' := (.obj lp (.loop (rec .ready none)) :: .blk g7 #[.int .u8 (b.kind : Int), .int .u8 (b.cpu : Int), .int .i64 b.lost, .int .i64 b.next, .slice A9 b.evs.length c9, .int .i64 (m : Int)] 102 :: .row (.slice A9 b.evs.length c9) b.evs.length (b.evs.flatMap evL) 45 11 :: .obj B (.deferred (some [])) :: .blk g6 #[vI p] 3 :: .blk g5 #[vI k] 3 :: .blk g4 #[vI 0] 36 :: .blk g3 #[vI 0] 3 :: .blk g2 #[vI 0] 3 :: fr)) 9 [1, 0, 2, 3, 4, 5, 6, 7, 8] (by decide) (by decide) rfl, fun w4 HM => ?_⟩
   refine wpIn_block ?_
   refine wpIn_seq ?_
   refine wpIn_seq ?_
   refine qbi ?_
   refine fp HF 2 0 [(17, .bool ((er : Int) != (0 : Int)))] fun a HF => ?_
   refine qb rfl ?_
   rcases HF.tf 17 rfl with ⟨hb17, HF⟩ | ⟨hb17, HF⟩
   ·
    have hd17 := bne_iff_ne.1 hb17
    have hg := qlc (f := f) (by omega) hne hq (by omega)
    rw [hg] at hk hp he
    simp only [List.length_nil, Nat.add_zero] at hk hp
    refine qk9 HF rfl ?_
    refine wpIn_seq ?_
    refine qp7 HM (.obj lp (.loop (rec .busy none)) :: .blk g7 #[.int .u8 (b.kind : Int), .int .u8 (b.cpu : Int), .int .i64 b.lost, .int .i64 b.next, .slice A9 b.evs.length c9, .int .i64 (m : Int)] 102 :: .row (.slice A9 b.evs.length c9) b.evs.length (b.evs.flatMap evL) 45 11 :: .obj B (.deferred (some [])) :: .blk g6 #[vI p] 3 :: .blk g5 #[vI k] 3 :: .blk g4 #[vI 0] 36 :: .blk g3 #[vI 0] 3 :: fr) 9 [0, 1, 2, 3, 4, 5, 6, 7] [4, 5] fun HM HS => ?_
    refine ap HF (fun _ => HS) [2] #[false, false, true, false, false, false] [(20, vI er)] fun a HF => ?_
    refine ay HF HS 0 rfl rfl rfl (Yl.qi rfl rfl (by kernel_rfl) (fun _ h => h.cell (i := 5) rfl rfl)) fun a HF => ?_
    refine ay HF HS 1 rfl rfl rfl (Yl.qi rfl rfl (by kernel_rfl) (fun _ h => h.cell (i := 4) rfl rfl)) fun a HF => ?_
    refine qg [3] (by kernel_rfl) rfl ?_
    refine all_cons ?_ all_nil
    refine qj HF (i := 3) rfl rfl ?_
    refine qq HF HM (i := 8) rfl rfl rfl rfl (by kernel_rfl) rfl rfl (by simp) ?_
    clear HM; intro w8_3 HM
    refine keepS (HM.picksT 9 [0, 1, 2, 3, 4, 5, 6, 7] (by decide) (by decide) rfl) (fun HS => ?_)
    refine qg [4] (by kernel_rfl) rfl ?_
    refine all_cons ?_ all_nil
    refine qj HF (i := 4) rfl rfl ?_
    refine qq HF HM (i := 7) rfl rfl rfl rfl (by kernel_rfl) rfl rfl (by simp) ?_
    clear HM; intro w8_4 HM
    refine noS (by kernel_rfl) ?_
    refine qg [5] (by kernel_rfl) rfl ?_
    refine all_cons ?_ all_nil
    refine qj HF (i := 5) rfl rfl ?_
    refine qq HF HM (i := 6) rfl rfl rfl rfl (by kernel_rfl) rfl rfl (by simp) ?_
    clear HM; intro w8_5 HM
    refine noS (by kernel_rfl) ?_
    refine qn (by kernel_rfl) ?_
    refine wpIn_ret ?_
    refine ⟨(.obj B (.deferred (some [])) :: .blk g6 #[vI p] 3 :: .blk g5 #[vI k] 3 :: .blk g4 #[vI er] 36 :: .blk g3 #[vI p] 3 :: .blk g2 #[vI k] 3 :: fr), HM.picksT (fs' := (.obj lp (.loop (rec .busy none)) :: .obj B (.deferred (some [])) :: .blk g6 #[vI p] 3 :: .blk g5 #[vI k] 3 :: .blk g4 #[vI er] 36 :: .blk g3 #[vI p] 3 :: .blk g2 #[vI k] 3 :: fr)) 9 [0, 3, 4, 5, 6, 7, 8] (by decide) (by decide) rfl, fun w5 HM => ?_⟩
    exact ⟨(.obj lp (.loop (rec .done (some .ret))) :: .obj B (.deferred (some [])) :: .blk g6 #[vI p] 3 :: .blk g5 #[vI k] 3 :: .blk g4 #[vI er] 36 :: .blk g3 #[vI p] 3 :: .blk g2 #[vI k] 3 :: []), HM, .inr ⟨(by omega), rfl, k, p, er, hk, hp, he, rfl⟩⟩
   have hd17 := bne_eq_false_iff_eq.1 hb17
   have he0 : er = 0 := by omega
   have hq0 := hq
   rw [he0] at hq0
   have hg := qj5 (f := f) (by omega) hne hq0
   have hof := qif hrl hq0
   have hm13 := hof.least
   have hml := hof.len
   rw [hg] at hk hp he
   dsimp only at hk hp he
   rw [List.length_cons] at hk
   refine qj1 HF rfl ?_
   refine wpIn_skip ?_
   refine wpIn_seq ?_
   refine qbi ?_
   refine fy HF HM 0 rfl rfl rfl (Yl.qi rfl rfl (by kernel_rfl) (fun _ h => h.cell (i := 5) rfl rfl)) fun a HF => ?_
   refine fp HF 1 1 [(22, vI (IntKind.i64.wrap ((k : Int) + 1)))] fun a HF => ?_
   replace HF := HF.sp 22 (vI (k + 1 : Nat)) rfl (ql (by omega) (by omega))
   refine fo HF 2 rfl rfl ?_
   refine qq HF HM (i := 5) rfl rfl rfl rfl (by kernel_rfl) rfl rfl (by simp) ?_
   clear HM; intro w9_2 HM
   refine qb rfl ?_
   refine qbi ?_
   refine fy HF HM 0 rfl rfl rfl (Yl.qi rfl rfl (by kernel_rfl) (fun _ h => h.cell (i := 4) rfl rfl)) fun a HF => ?_
   refine fp HF 1 1 [(24, vP g7 5)] fun a HF => ?_
   refine fy HF HM 2 rfl rfl rfl (v := vI m) (Yl.qi rfl rfl (by kernel_rfl) (fun _ h => h.cell (i := 1) rfl (rfl))) fun a HF => ?_
   refine fp HF 1 3 [(26, vI (IntKind.i64.wrap ((p : Int) + (m : Int))))] fun a HF => ?_
   replace HF := HF.sp 26 (vI (p + m : Nat)) rfl (ql (by omega) (by omega))
   refine fo HF 4 rfl rfl ?_
   refine qq HF HM (i := 4) rfl rfl rfl rfl (by kernel_rfl) rfl rfl (by simp) ?_
   clear HM; intro w10_4 HM
   refine qb rfl ?_
   refine ⟨(.obj B (.deferred (some [])) :: .blk g6 #[vI (p + m : Nat)] 3 :: .blk g5 #[vI (k + 1 : Nat)] 3 :: .blk g4 #[vI 0] 36 :: .blk g3 #[vI 0] 3 :: .blk g2 #[vI 0] 3 :: fr), HM.picksT (fs' := (.obj lp (.loop (rec .busy none)) :: .obj B (.deferred (some [])) :: .blk g6 #[vI (p + m : Nat)] 3 :: .blk g5 #[vI (k + 1 : Nat)] 3 :: .blk g4 #[vI 0] 36 :: .blk g3 #[vI 0] 3 :: .blk g2 #[vI 0] 3 :: fr)) 9 [0, 3, 4, 5, 6, 7, 8] (by decide) (by decide) rfl, fun w5 HM => ?_⟩
   exact ⟨(.obj lp (.loop (rec .ready none)) :: .obj B (.deferred (some [])) :: .blk g6 #[vI (p + m : Nat)] 3 :: .blk g5 #[vI (k + 1 : Nat)] 3 :: .blk g4 #[vI 0] 36 :: .blk g3 #[vI 0] 3 :: .blk g2 #[vI 0] 3 :: []), HM, .inl ⟨(by omega), rfl, k + 1, p + m, (f - 1), by rw [List.length_drop]; omega, by omega, by omega, he, by rw [List.length_drop]; omega, by rw [List.length_drop]; omega, rfl⟩⟩
  refine (qnt w w1 gp lp BB A c l _ _ _ hL hB hr hc hl (by omega) hy ⟨0, 0, l.length, Nat.le_refl _, (Nat.zero_add _).symm, (Nat.zero_add _).symm, rfl, by omega, by omega, rfl⟩ (HM.picks [2, 0, 1, 3, 4, 5, 6, 7] (by decide) rfl)).mono ?_
  rintro r w2 ⟨v, rfl, F2, HM2, (⟨k, p, f, hf, hk, hp, he, hkn, hpn, rfl⟩ | ⟨k, p, e, hk, hp, he, rfl⟩)⟩
  ·exact ⟨v, rfl, .inl ⟨_, ⟨k, p, f, hf, hk, hp, he, hkn, hpn, rfl⟩, HM2⟩⟩
  ·exact ⟨v, rfl, .inr ⟨.ret, _, ⟨rfl, k, p, e, hk, hp, he, rfl⟩, HM2⟩⟩
 ·
  clear HF HM; rintro B a w6 _ ⟨k, p, f, hf, hk, hp, he, hkn, hpn, rfl⟩ HF HM
  have hz := qlb (f := f) (l := []) rfl
  rw [hz] at hk hp he
  simp only [List.length_nil, Nat.add_zero] at hk hp
  refine wp_seq ?_
  refine qae HM [.obj B (.deferred (some [])), .blk g6 #[vI p] 3, .blk g5 #[vI k] 3, .blk g4 #[vI 0] 36, .blk g3 #[vI 0] 3] [0, 1, 2, 3, 4] [3, 4] fun HM HS => ?_
  refine ay HF HS 0 rfl rfl rfl (Yl.qi rfl rfl (by kernel_rfl) (fun _ h => h.cell (i := 2) rfl rfl)) fun a HF => ?_
  refine ay HF HS 1 rfl rfl rfl (Yl.qi rfl rfl (by kernel_rfl) (fun _ h => h.cell (i := 1) rfl rfl)) fun a HF => ?_
  refine qg [2] (by kernel_rfl) rfl ?_
  refine all_cons ?_ all_nil
  refine qj HF (i := 2) rfl rfl ?_
  refine qq HF HM (i := 5) rfl rfl rfl rfl (by kernel_rfl) rfl rfl (by simp) ?_
  clear HM; intro w11_2 HM
  refine keepS (HM.picks [0, 1, 2, 3, 4] (by decide) rfl) (fun HS => ?_)
  refine qg [3] (by kernel_rfl) rfl ?_
  refine all_cons ?_ all_nil
  refine qj HF (i := 3) rfl rfl ?_
  refine qq HF HM (i := 4) rfl rfl rfl rfl (by kernel_rfl) rfl rfl (by simp) ?_
  clear HM; intro w11_3 HM
  refine noS (by kernel_rfl) ?_
  refine qg [4] (by kernel_rfl) rfl ?_
  refine all_cons ?_ all_nil
  refine qj HF (i := 4) rfl rfl ?_
  refine qq HF HM (i := 3) rfl rfl rfl rfl (by kernel_rfl) rfl rfl (by simp) ?_
  clear HM; intro w11_4 HM
  refine noS (by kernel_rfl) ?_
  refine qn (by kernel_rfl) ?_
  refine wp_ret ?_
  refine qp8 HF HM (i := 0) rfl fun a w7 HF HM => ?_
  exact ret3 rfl HF (.cell1 (i := 5) HF HM rfl rfl (by kernel_rfl) rfl) (.cell1 (i := 4) HF HM rfl rfl (by kernel_rfl) rfl) (.cell1 (i := 3) HF HM rfl rfl (by kernel_rfl) rfl) (⟨by rw [show qfm l = qz l.length l from if_neg (by omega), hk, hp, he]; rfl, HM.below⟩)
 ·
  clear HF HM; rintro _ B a w6 _ ⟨rfl, k, p, e, hk, hp, he, rfl⟩ HF HM
  refine wp_ret ?_
  refine qp8 HF HM (i := 0) rfl fun a w7 HF HM => ?_
  exact ret3 rfl HF (.cell1 (i := 5) HF HM rfl rfl (by kernel_rfl) rfl) (.cell1 (i := 4) HF HM rfl rfl (by kernel_rfl) rfl) (.cell1 (i := 3) HF HM rfl rfl (by kernel_rfl) rfl) (⟨by rw [show qfm l = qz l.length l from if_neg (by omega), hk, hp, he]; rfl, HM.below⟩)
def outsL (bs : List Bk) : List Nat := bs.flatMap Bk.out
def errL : List Bk → Nat
 | [] => 0
 | b :: t => if b.err = 0 then errL t else b.err
def zu (bs : List Bk) : List Nat × Nat := if errL bs ≠ 0 then ([], errL bs) else if 524288 < (outsL bs).length then ([], 3) else (outsL bs, 0)
theorem qng {bs : List Bk} (h : errL bs ≠ 0) : zu bs = ([], errL bs) := by unfold zu; rw [if_pos h]
theorem qld {bs : List Bk} (h : errL bs = 0) (h2 : 524288 < (outsL bs).length) : zu bs = ([], 3) := by unfold zu; rw [if_neg (by omega), if_pos h2]
theorem qqc {bs : List Bk} (h : errL bs = 0) (h2 : ¬ 524288 < (outsL bs).length) : zu bs = (outsL bs, 0) := by unfold zu; rw [if_neg (by omega), if_neg h2]
theorem qnh (bs : List Bk) : (zu bs).1.length ≤ 524288 := by
 unfold zu
 split
 ·exact Nat.zero_le _
 ·split
  ·exact Nat.zero_le _
  ·dsimp only; omega
theorem qvf {q : List Hb} {k : Nat} (h : k < q.length) : errL ((q.drop k).map Hb.b) = if (q.getD k Hb.zero).b.err = 0 then errL ((q.drop (k + 1)).map Hb.b) else (q.getD k Hb.zero).b.err := by
 rw [qdx Hb.zero h, List.map_cons, errL]
theorem qs1 {q : List Hb} {k : Nat} (h : k < q.length) : outsL ((q.take (k + 1)).map Hb.b) = outsL ((q.take k).map Hb.b) ++ (q.getD k Hb.zero).b.out := by
 unfold outsL
 rw [qdp Hb.zero h, List.map_append, List.flatMap_append]
 simp
theorem qr6 (bs : List Bk) : (outsL bs).length ≤ 4096 * bs.length := by
 unfold outsL
 induction bs with
 | nil => exact Nat.zero_le _
 | cons b t ih =>
  rw [List.flatMap_cons, List.length_append, List.length_cons]
  have := qpk b
  omega
theorem qqd {q : List Hb} (k : Nat) : (outsL ((q.take k).map Hb.b)).length ≤ 4096 * q.length := by
 have h := qr6 ((q.take k).map Hb.b)
 rw [List.length_map, List.length_take] at h
 have : min k q.length ≤ q.length := Nat.min_le_right _ _
 omega
def qa4 (out : List Nat) (bs : List Bk) : List Nat × Nat := if (zu bs).2 ≠ 0 then (out, (zu bs).2) else if 524288 < out.length + (zu bs).1.length then (out, 3) else (out ++ (zu bs).1, 0)
theorem qni {out : List Nat} {bs : List Bk} (h : (zu bs).2 ≠ 0) : qa4 out bs = (out, (zu bs).2) := by unfold qa4; rw [if_pos h]
theorem qle {out : List Nat} {bs : List Bk} (h : (zu bs).2 = 0) (h2 : 524288 < out.length + (zu bs).1.length) : qa4 out bs = (out, 3) := by unfold qa4; rw [if_neg (by omega), if_pos h2]
theorem qqe {out : List Nat} {bs : List Bk} (h : (zu bs).2 = 0) (h2 : ¬ 524288 < out.length + (zu bs).1.length) : qa4 out bs = (out ++ (zu bs).1, 0) := by unfold qa4; rw [if_neg (by omega), if_neg h2]
def endB (next : Int) : Bk := ⟨2, 0, 0, next, []⟩
theorem qt1 {next : Int} (h : I64 next) : (endB next).Ok := ⟨by show 2 < 256; decide, by show 0 < 256; decide, by show I64 0; unfold I64; decide, h, by intro e he; cases he⟩
def nextR (l : List Nat) (p : Nat) : Bk × Nat × Nat := if p = l.length then (Bk.zero, 0, 6) else readB (l.drop p)
section
variable {W w : World} {fs : List Fact} {t bt : TypeId}
theorem Mem.reBlk (h : Mem W w fs) {i g : Nat} {cs ds : Array Value} {t : TypeId} (hi : fs[i]? = some (.blk g cs t)) (he : cs = ds) : Mem W w (fs.set i (.blk g ds t)) := by
 subst he
 obtain ⟨hl, h2⟩ := List.getElem?_eq_some_iff.1 hi
 rw [← h2, List.set_getElem_self]
 exact h
theorem qhr {w w' : World} {p : List Nat × Nat} {er : Nat} {n : Int} (hb : Below w.heap.size w w') (he : p = ([], er)) (hn : n = er) : qaz w p.2 p.1 (.returned (.tuple #[.slice none 0 0, .int .i64 n])) w' := by
 subst he; subst hn
 exact ⟨⟨none, 0, rfl, World.ownsRow_nil _ _ _ _, Nat.le_refl _⟩, hb⟩
end
section
variable {W w w' : World} {fs gs : List Fact} {f g1 g2 : Fact}
end
def WrIs (W : World) (tw : TypeId) (g : Nat) (lim : Int) (out : List Nat) (fs : List Fact) (v : Value) (r : Ending) (w' : World) : Prop :=
 r = .returned v ∧ ∃ A c, out.length ≤ c ∧ Mem W w' (.blk g #[.int .i64 lim, .slice A out.length c] tw :: .row (.slice A out.length c) out.length (out.map B8) 5 1 :: fs)
theorem WrIs.as {W w' : World} {tw : TypeId} {g : Nat} {lim : Int} {out out' : List Nat} {fs : List Fact} {v v' : Value} {r : Ending} (h : WrIs W tw g lim out fs v r w') (h1 : out = out') (h2 : v = v') : WrIs W tw g lim out' fs v' r w' := by subst h1; subst h2; exact h
theorem qlf {out R : List Nat} {bs : List Bk} {er : Nat} (h : zu bs = (R, er)) (he : er ≠ 0) : qa4 out bs = (out, er) := by have h1 := qni (out := out) (bs := bs) (by rw [h]; exact he); rw [h] at h1; exact h1
theorem qj6 {out R : List Nat} {bs : List Bk} {er : Nat} (h : zu bs = (R, er)) (he : er = 0) (h2 : 524288 < out.length + R.length) : qa4 out bs = (out, 3) := qle (by rw [h]; exact he) (by rw [h]; exact h2)
theorem qnj {out R : List Nat} {bs : List Bk} {er : Nat} (h : zu bs = (R, er)) (he : er = 0) (h2 : ¬ 524288 < out.length + R.length) : qa4 out bs = (out ++ R, 0) := by have h1 := qqe (out := out) (bs := bs) (by rw [h]; exact he) (by rw [h]; exact h2); rw [h] at h1; exact h1
theorem qio {W w' : World} {tw : TypeId} {g c : Nat} {lim n : Int} {A : Option Addr} {out : List Nat} {er : Nat} {fs : List Fact} {p : List Nat × Nat} (h : p = (out, er)) (hn : n = er) (hc : out.length ≤ c) (hm : Mem W w' (.blk g #[.int .i64 lim, .slice A out.length c] tw :: .row (.slice A out.length c) out.length (out.map B8) 5 1 :: fs)) : WrIs W tw g lim p.1 fs (.int .i64 (p.2 : Int)) (.returned (.int .i64 n)) w' := by
 subst h; subst hn
 exact ⟨rfl, A, c, hc, hm⟩
section
variable {W w w' : World} {fs gs : List Fact} {f1 f2 : Fact}
end
theorem qnk {l : List Nat} {b : Bk} {m er : Nat} (hl : ∀ x ∈ l, x < 256) (h : readB l = (b, m, er)) : m ≤ l.length := by
 by_cases he : er = 0
 ·subst he; exact (qif hl h).len
 ·have := (qpr h he).2; omega
theorem qqf {l : List Nat} {p : Nat} {b : Bk} {m er : Nat} (hl : ∀ x ∈ l, x < 256) (hp : p ≤ l.length) (h : nextR l p = (b, m, er)) : p + m ≤ l.length := by
 unfold nextR at h
 split at h
 ·injection h with _ h; injection h with h _; omega
 ·have := qnk (qa0 hl p) h
  rw [List.length_drop] at this
  omega
def qs2 (W : World) (tr : TypeId) (g p : Nat) (l : List Nat) (A : Option Addr) (c : Nat) (fs : List Fact) (q : Bk × Nat × Nat) (r : Ending) (w' : World) : Prop :=
 ∃ A' c', r = .returned (.tuple #[.agg (q.1.cells A' c'), .int .i64 (q.2.2 : Int)]) ∧ q.1.evs.length ≤ c' ∧ Mem W w' (.row (.slice A' q.1.evs.length c') q.1.evs.length (q.1.evs.flatMap evL) 45 11 :: .blk g #[.bool true, .int .i64 ((p + q.2.1 : Nat) : Int), .slice A l.length c] tr :: .row (.slice A l.length c) l.length (l.map B8) 5 1 :: fs)
theorem qj7 {W w' : World} {tr : TypeId} {g p c c' m er : Nat} {l : List Nat} {A A' : Option Addr} {fs : List Fact} {q : Bk × Nat × Nat} {b : Bk} (h : q = (b, m, er)) {n : Int} (hn : n = er) (hc : b.evs.length ≤ c') (hm : Mem W w' (.row (.slice A' b.evs.length c') b.evs.length (b.evs.flatMap evL) 45 11 :: .blk g #[.bool true, .int .i64 ((p + m : Nat) : Int), .slice A l.length c] tr :: .row (.slice A l.length c) l.length (l.map B8) 5 1 :: fs)) :
  qs2 W tr g p l A c fs q (.returned (.tuple #[.agg (b.cells A' c'), .int .i64 n])) w' := by
 subst h; subst hn
 exact ⟨A', c', rfl, hc, hm⟩
theorem Rd.quk {w : World} {B : Nat} {l : List Nat} (h : Rd w B 1 none l.length (l.map B8)) : l = [] := by
 rcases Nat.eq_zero_or_pos l.length with h0 | h0
 ·exact List.length_eq_zero_iff.1 h0
 ·obtain ⟨a, ha, _⟩ := h.row h0
  cases ha
theorem LaidX.mem2 {B : Nat} {W w w' : World} {fs gs : List Fact} (h : LaidX B w) (HW : Mem W w fs) (HM : Mem W w' gs) (hB : B ≤ W.heap.size) : LaidX B w' := h.qac fun p hp => by
 rw [HM.below.cell (by omega), HW.below.cell (by omega)]
theorem Mem.qq1 {W w : World} {a b : List Fact} {t : TypeId} {q : List Hb} (h : Mem W w (a ++ (hbF t q ++ b))) : HbRd w q := h.hbRd fun _ hf => List.mem_append_right _ (List.mem_append_left _ hf)
theorem qhs {cpu lim : Nat} {opn : Int} (hl : 0 < lim) : ∀ (f : Nat) (l : List It), GoodI cpu l opn → (∀ b ∈ cutGo cpu opn lim f l, b.Ok ∧ b.evs.length ≤ l.length) ∧ (cutGo cpu opn lim f l).length ≤ l.length
 | 0, l, _ => ⟨fun b hb => (by cases hb), Nat.zero_le _⟩
 | f + 1, l, h => by
  rcases Nat.eq_zero_or_pos l.length with h0 | h0
  ·rw [qdd h0]; exact ⟨fun b hb => (by cases hb), Nat.zero_le _⟩
  ·rw [qcm h0 (by omega)]
   obtain ⟨h1, h2, _⟩ := qij h hl h0
   obtain ⟨i1, i2⟩ := qhs hl f _ (h.drop (cutN cpu l opn lim))
   rw [List.length_drop] at i2
   refine ⟨fun b hb => ?_, ?_⟩
   ·rcases List.mem_cons.1 hb with rfl | hb
    ·exact ⟨ql6 h _, by rw [qb9 h2]; exact h2⟩
    ·have h3 := i1 b hb
     rw [List.length_drop] at h3
     exact ⟨h3.1, by omega⟩
   ·rw [List.length_cons, Nat.add_sub_cancel]; omega
def pick9 : Ev := { Ev.zero with seq := 9, time := 340, cpu := 2, kind := 6 }
def exI : List It := [⟨tickE, 3⟩, ⟨pick9, 0⟩]
theorem que : pick9.Ok := ⟨⟨by decide, by decide⟩, ⟨by decide, by decide⟩, by decide, by decide, ⟨by decide, by decide⟩, ⟨by decide, by decide⟩, ⟨by decide, by decide⟩, ⟨by decide, by decide⟩, ⟨by decide, by decide⟩, by decide, ⟨by decide, by decide⟩⟩
theorem qs5 : ∀ x ∈ exI, x.Ok := by
 intro x hx
 simp only [exI, List.mem_cons, List.not_mem_nil, or_false] at hx
 rcases hx with rfl | rfl
 ·exact ⟨qvb, by show I64 3; unfold I64; decide⟩
 ·exact ⟨que, by show I64 0; unfold I64; decide⟩
theorem sa1 : cutS 2 exI 2 1 = ([⟨1, 2, 3, 0, [tickE]⟩, ⟨1, 2, 2, 0, [pick9]⟩], 0) := by decide +kernel
theorem sa2 : cutS 2 exI 2 2 = ([⟨1, 2, 5, 0, [tickE, pick9]⟩], 0) := by decide +kernel
theorem sa3 : cutS 2 [] 0 1 = ([], 0) := by decide +kernel
theorem sa4 : cutS 2 [] 2 1 = ([⟨1, 2, 2, 0, []⟩], 0) := by decide +kernel
theorem sa5 : qa4 [] [endB 0] = ([], 107) := by decide +kernel
theorem sa6 : qa4 [] [endB 7] = (awX, 0) := by decide +kernel
theorem sa7 : qfm (awX ++ [1]) = ([⟨2, 0, 0, 7, []⟩], 13, 100) := by decide +kernel
theorem sa8 : nextR awX 0 = (⟨2, 0, 0, 7, []⟩, 13, 0) := by decide +kernel
theorem sa9 : nextR awX 13 = (Bk.zero, 0, 6) := by decide +kernel
theorem quf : ∀ b ∈ awX ++ [1], b < 256 := by decide
theorem map1 {q : List Hb} {b : Bk} (h : q.map Hb.b = [b]) : ∃ x, q = [x] ∧ x.b = b := by
 cases q with
 | nil => cases h
 | cons x r =>
  cases r with
  | nil => injection h with h _; exact ⟨x, rfl, h⟩
  | cons y r => injection h with _ h; cases h
theorem map2 {q : List Hb} {b d : Bk} (h : q.map Hb.b = [b, d]) : ∃ x y, q = [x, y] ∧ x.b = b ∧ y.b = d := by
 cases q with
 | nil => cases h
 | cons x r =>
  injection h with h1 h2
  obtain ⟨y, rfl, h3⟩ := map1 h2
  exact ⟨x, y, rfl, h1, h3⟩
structure Ss where
 cpu : Nat
 b : Bs
 l : List Sm
 bef : List Nat
 opn : Nat
structure Ss.Ok (x : Ss) : Prop where
 cpu : x.cpu < 256
 b : x.b.Ok
 l : ∀ y ∈ x.l, y.Ok
 bef : ∀ y ∈ x.bef, y < 4294967296
 opn : x.opn < 4294967296
def Ss.cells (x : Ss) (A : Option Addr) (c : Nat) (A2 : Option Addr) (c2 : Nat) : Array Value := #[.int .u8 (x.cpu : Int), .int .i64 x.b.seq, .int .i64 x.b.time, .slice A x.l.length c, .slice A2 x.bef.length c2, .int .u32 (x.opn : Int)]
def W32 (y : Nat) : Value := .int .u32 (y : Int)
theorem si_ss : SI Tryd.prog 31 6 := ⟨by kernel_rfl, by kernel_rfl⟩
def befAt (bef : List Nat) (i : Nat) : Nat := if bef.length = 0 then 0 else bef.getD (i % bef.length) 0
def qby (bef : List Nat) (es : List Ev) (n : Nat) : List It := (List.range n).map fun i => ⟨es.getD i Ev.zero, (befAt bef i : Int)⟩
def Ss.es (x : Ss) : List Ev := madeL x.cpu x.b x.l
def Ss.items (x : Ss) : List It := qby x.bef x.es x.es.length
def qs3 (w : World) (x : Ss) (r : Ending) (w' : World) : Prop := ∃ A c, r = .returned (.tuple #[.int .u8 ((x.cpu % 64 : Nat) : Int), .slice A x.items.length c, .int .i64 (x.opn : Int)]) ∧ w'.ownsRow w.heap.size 47 12 (.slice A x.items.length c) x.items.length (x.items.flatMap itL) ∧ x.items.length ≤ c ∧ Below w.heap.size w w'
theorem qgn (bef : List Nat) (es : List Ev) (n : Nat) : qby bef es (n + 1) = qby bef es n ++ [⟨es.getD n Ev.zero, (befAt bef n : Int)⟩] := by
 unfold qby
 rw [List.range_succ, List.map_append]
 rfl
theorem qnl (bef : List Nat) (es : List Ev) (n : Nat) : (qby bef es n).length = n := by unfold qby; simp
theorem qj8 (x : Ss) : evsI x.items = x.es := by
 unfold evsI Ss.items qby
 rw [List.map_map]
 refine List.ext_getElem? fun i => ?_
 rw [List.getElem?_map]
 by_cases h : i < x.es.length
 ·rw [List.getElem?_range h]
  show some (x.es.getD i Ev.zero) = _
  rw [List.getD_eq_getElem?_getD, List.getElem?_eq_getElem h]; rfl
 ·rw [List.getElem?_eq_none (by simp; omega), List.getElem?_eq_none (by omega)]; rfl
theorem qr7 {bef : List Nat} (h : ∀ y ∈ bef, y < 4294967296) (i : Nat) : befAt bef i < 4294967296 := by
 unfold befAt
 split
 ·decide
 ·rw [List.getD_eq_getElem?_getD, List.getElem?_eq_getElem (Nat.mod_lt _ (by omega))]
  exact h _ (List.getElem_mem _)
theorem qde {x : Ss} (h : x.Ok) : ∀ y ∈ x.items, 0 ≤ y.before ∧ y.before < 4294967296 := by
 intro y hy
 unfold Ss.items qby at hy
 obtain ⟨i, _, rfl⟩ := List.mem_map.1 hy
 have := qr7 h.bef i
 show 0 ≤ ((befAt x.bef i : Nat) : Int) ∧ ((befAt x.bef i : Nat) : Int) < 4294967296
 omega
theorem qmb (cpu : Nat) : ∀ (l : List Sm) (b : Bs), (qbx cpu b l).length = l.length
 | [], _ => rfl
 | x :: r, b => by rw [qbx, List.length_cons, List.length_cons, qmb cpu r]
theorem es200 (x : Ss) : x.es.length ≤ 200 := by
 unfold Ss.es madeL
 rw [qmb, List.length_take]
 omega
theorem qgo : ∀ (es : List Ev) (cpu : Nat) (p : Option Ev) (b : Bs), Chain cpu p b es → ∀ e ∈ es, e.Ok ∧ e.cpu = cpu
 | [], _, _, _, _, e, he => by cases he
 | x :: r, cpu, p, b, h, e, he => by
  obtain ⟨h1, h2, h3, h4⟩ := h
  rcases List.mem_cons.1 he with rfl | he
  ·exact ⟨h1.ok, h2⟩
  ·exact qgo r cpu _ _ h4 e he
theorem es_ok {x : Ss} (h : x.Ok) : ∀ e ∈ x.es, e.Ok ∧ e.cpu = x.cpu % 64 := qgo _ _ _ _ (qgm h.cpu x.b h.l)
theorem qer (x : Ss) : x.items.length = x.es.length := qnl _ _ _
theorem qmc {x : Ss} (h : x.Ok) : ∀ y ∈ x.items, y.Ok := by
 intro y hy
 have hb := qde h y hy
 have he : y.e ∈ evsI x.items := List.mem_map_of_mem hy
 rw [qj8] at he
 exact ⟨(es_ok h _ he).1, by unfold I64; omega⟩
theorem qs4 {M : Int} : ∀ {l : List Int}, (∀ n ∈ l, n ≤ M) → sumI l ≤ M * l.length
 | [], _ => by simp [sumI]
 | x :: t, h => by
  have h1 := h x List.mem_cons_self
  have h2 := qs4 (l := t) (fun n hn => h n (List.mem_cons_of_mem _ hn))
  simp only [sumI, List.length_cons]
  have : M * ((t.length + 1 : Nat) : Int) = M * t.length + M := by rw [Int.natCast_add, Int.mul_add]; simp
  omega
theorem qt3 {x : Ss} (h : x.Ok) : 0 ≤ sumI (befI x.items) ∧ sumI (befI x.items) ≤ 858993459200 := by
 refine ⟨qar fun y hy => (qde h y hy).1, ?_⟩
 have h1 := qs4 (M := 4294967295) (l := befI x.items) (fun n hn => by
  unfold befI at hn
  obtain ⟨y, hy, rfl⟩ := List.mem_map.1 hn
  have := (qde h y hy).2
  omega)
 have h2 := es200 x
 rw [qil, qer] at h1
 omega
theorem qnm {x : Ss} (h : x.Ok) : GoodI (x.cpu % 64) x.items (x.opn : Int) := by
 have hs := qt3 h
 have ho := h.opn
 exact ⟨by omega, ⟨x.b.based, by rw [qj8]; exact qgm h.cpu x.b h.l⟩, qmc h, by omega, fun y hy => (qde h y hy).1, by omega⟩
theorem qj9 : ∀ {l : List Int} {r : Int}, (∀ n ∈ l, 0 ≤ n) → sumI l ≤ r → qa1 r l = true
 | [], _, _, _ => rfl
 | x :: t, r, h, hs => by
  have h1 := h x List.mem_cons_self
  have h2 := qd5 (l := t) (fun n hn => h n (List.mem_cons_of_mem _ hn))
  simp only [sumI] at hs
  simp only [qa1, Bool.and_eq_true, decide_eq_true_eq]
  exact ⟨⟨h1, by omega⟩, qj9 (fun n hn => h n (List.mem_cons_of_mem _ hn)) (by omega)⟩
theorem qt4 {cpu : Nat} {l : List It} {opn : Int} (h : GoodI cpu l opn) : zt cpu l opn = true := by
 obtain ⟨b, hb⟩ := h.chain
 have hm : qb8 = 281474976710656 := rfl
 have h0 := h.sum
 have h1 := qj9 (r := qb8) (l := opn :: befI l) (fun n hn => by
  rcases List.mem_cons.1 hn with rfl | hn
  ·exact h.o0
  ·unfold befI at hn
   obtain ⟨y, hy, rfl⟩ := List.mem_map.1 hn
   exact h.bef y hy) (by simp only [sumI]; omega)
 unfold zt
 rw [h1, decide_eq_true (qd6 hb)]
 cases l with
 | nil => rfl
 | cons y r =>
  have : y.e.cpu = cpu := (qgo _ _ _ _ hb y.e (by unfold evsI; exact List.mem_cons_self)).2
  simp [cpuOk, this]
end Go.Proofs.YtfeheccoijnbaaaDoor
namespace Go.Proofs.YtfeheccoijnbaaaDoor
open Go.RowKit Go.ChangeShapes Go.WideShapes Go.ChangeAt
def qlh : List Go.IntKind := [.u8, .u8, .u32, .u32, .u32, .u32, .u32, .u32, .u32, .u32, .u64]
theorem qql : qec Tryd.prog 124 qlh = true := by kernel_rfl
theorem qnr : Tryd.prog.underlying 27 = some (.slice 124) := by kernel_rfl
theorem qqm {cs : List Value} (hl : cs.length = qlh.length) (h : ∀ (i : Nat) (k : Go.IntKind), qlh[i]? = some k → ∃ z : Int, cs[i]? = some (Value.int k z) ∧ (Lit.int k z).wf = true) : ∃ x : Sm, smL x = cs ∧ x.Ok := by
 obtain ⟨z0, h0, w0⟩ := h 0 .u8 rfl
 have w0 := u8_wf w0
 obtain ⟨z1, h1, w1⟩ := h 1 .u8 rfl
 have w1 := u8_wf w1
 obtain ⟨z2, h2, w2⟩ := h 2 .u32 rfl
 have w2 := qed w2
 obtain ⟨z3, h3, w3⟩ := h 3 .u32 rfl
 have w3 := qed w3
 obtain ⟨z4, h4, w4⟩ := h 4 .u32 rfl
 have w4 := qed w4
 obtain ⟨z5, h5, w5⟩ := h 5 .u32 rfl
 have w5 := qed w5
 obtain ⟨z6, h6, w6⟩ := h 6 .u32 rfl
 have w6 := qed w6
 obtain ⟨z7, h7, w7⟩ := h 7 .u32 rfl
 have w7 := qed w7
 obtain ⟨z8, h8, w8⟩ := h 8 .u32 rfl
 have w8 := qed w8
 obtain ⟨z9, h9, w9⟩ := h 9 .u32 rfl
 have w9 := qed w9
 obtain ⟨z10, h10, w10⟩ := h 10 .u64 rfl
 have w10 := quz w10
 refine ⟨⟨z0.toNat, z1.toNat, z2.toNat, z3.toNat, z4.toNat, z5.toNat, z6.toNat, z7.toNat, z8.toNat, z9.toNat, z10.toNat⟩, ?_, ⟨by show z0.toNat < _; omega, by show z1.toNat < _; omega, by show z2.toNat < _; omega, by show z3.toNat < _; omega, by show z4.toNat < _; omega, by show z5.toNat < _; omega, by show z6.toNat < _; omega, by show z7.toNat < _; omega, by show z8.toNat < _; omega, by show z9.toNat < _; omega, by show z10.toNat < _; omega⟩⟩
 refine qou (by rw [hl]; rfl) fun i hi => ?_
 have hi' : i < 11 := by rw [hl] at hi; exact hi
 have hc : i = 0 ∨ i = 1 ∨ i = 2 ∨ i = 3 ∨ i = 4 ∨ i = 5 ∨ i = 6 ∨ i = 7 ∨ i = 8 ∨ i = 9 ∨ i = 10 := by omega
 rcases hc with rfl | rfl | rfl | rfl | rfl | rfl | rfl | rfl | rfl | rfl | rfl
 ·rw [h0]; show some (Value.int .u8 ((z0.toNat : Nat) : Int)) = _; rw [Int.toNat_of_nonneg w0.1]
 ·rw [h1]; show some (Value.int .u8 ((z1.toNat : Nat) : Int)) = _; rw [Int.toNat_of_nonneg w1.1]
 ·rw [h2]; show some (Value.int .u32 ((z2.toNat : Nat) : Int)) = _; rw [Int.toNat_of_nonneg w2.1]
 ·rw [h3]; show some (Value.int .u32 ((z3.toNat : Nat) : Int)) = _; rw [Int.toNat_of_nonneg w3.1]
 ·rw [h4]; show some (Value.int .u32 ((z4.toNat : Nat) : Int)) = _; rw [Int.toNat_of_nonneg w4.1]
 ·rw [h5]; show some (Value.int .u32 ((z5.toNat : Nat) : Int)) = _; rw [Int.toNat_of_nonneg w5.1]
 ·rw [h6]; show some (Value.int .u32 ((z6.toNat : Nat) : Int)) = _; rw [Int.toNat_of_nonneg w6.1]
 ·rw [h7]; show some (Value.int .u32 ((z7.toNat : Nat) : Int)) = _; rw [Int.toNat_of_nonneg w7.1]
 ·rw [h8]; show some (Value.int .u32 ((z8.toNat : Nat) : Int)) = _; rw [Int.toNat_of_nonneg w8.1]
 ·rw [h9]; show some (Value.int .u32 ((z9.toNat : Nat) : Int)) = _; rw [Int.toNat_of_nonneg w9.1]
 ·rw [h10]; show some (Value.int .u64 ((z10.toNat : Nat) : Int)) = _; rw [Int.toNat_of_nonneg w10.1]
section
variable {H : Type} {enc : TypeId × Value → H} {W : World} {b0 : Nat} {v : Value} {d : DataW H} {p : List MemPlace}
theorem qt7 : Tryd.prog.underlying 32 = some (.int .u16) := by kernel_rfl
set_option maxRecDepth 100000 in
theorem qt8 (hval : Value.okWide Tryd.prog W .any b0 32 v) (h : DataW.Trod enc Tryd.prog W 0 (fun _ => true) true 32 v d p) : ∃ m : Nat, v = .int .u16 (m : Int) ∧ m < 65536 := by
 obtain ⟨m, rfl, _, _, wf⟩ := open_int qt7 hval h
 have := quy wf
 exact ⟨m.toNat, by rw [Int.toNat_of_nonneg this.1], by omega⟩
theorem qsa : Tryd.prog.cellsOf 124 = 11 := by kernel_rfl
theorem qt9 {fuel : Nat} {cs : List Value} {x : DataW H × List MemPlace} (hf : DataW.trod enc Tryd.prog W 0 (fun _ => true) true fuel 124 cs = some x) : ∃ e : Sm, smL e = cs ∧ e.Ok := by
 obtain ⟨h1, h2⟩ := qf1 qql hf
 exact qqm h1 h2
theorem qsb {fuel : Nat} {cs : List Value} {x : DataW H × List MemPlace} (hf : DataW.trod enc Tryd.prog W 0 (fun _ => true) true fuel 27 cs = some x) :
  ∃ (A : Option Addr) (c : Nat) (l : List Sm), cs = [.slice A l.length c] ∧ l.length ≤ c ∧ c ≤ maxLen ∧ (∀ x ∈ l, x.Ok) ∧ Rd W W.heap.size 11 A l.length (l.flatMap smL) :=
 qhp smL Sm.Ok qnr qsa (by decide) qip (fun _ _ _ h => qt9 h) hf
theorem qsc : Tryd.prog.underlying 28 = some (.slice 29) := by kernel_rfl
theorem qkc : Tryd.prog.cellsOf 29 = 1 := by kernel_rfl
theorem qns : Tryd.prog.cellsOf 28 = 1 := by kernel_rfl
theorem qqn : Tryd.prog.cellsOf 27 = 1 := by kernel_rfl
theorem qme {fuel : Nat} {cs : List Value} {x : DataW H × List MemPlace} (hf : DataW.trod enc Tryd.prog W 0 (fun _ => true) true fuel 29 cs = some x) : ∃ e : Nat, [W32 e] = cs ∧ e < 4294967296 := by
 obtain ⟨z, e1, _, w1⟩ := DataW.trod_int qpe hf
 have := qed w1
 exact ⟨z.toNat, by rw [e1]; show [Value.int .u32 ((z.toNat : Nat) : Int)] = _; rw [Int.toNat_of_nonneg this.1], by omega⟩
theorem qmf : ∀ l : List Nat, l.flatMap (fun e => [W32 e]) = l.map W32
 | [] => rfl
 | a :: r => by rw [List.flatMap_cons, List.map_cons, qmf r]; rfl
theorem qqo {fuel : Nat} {cs : List Value} {x : DataW H × List MemPlace} (hf : DataW.trod enc Tryd.prog W 0 (fun _ => true) true fuel 28 cs = some x) :
  ∃ (A : Option Addr) (c : Nat) (l : List Nat), cs = [.slice A l.length c] ∧ l.length ≤ c ∧ c ≤ maxLen ∧ (∀ x ∈ l, x < 4294967296) ∧ Rd W W.heap.size 1 A l.length (l.map W32) := by
 obtain ⟨A, c, l, h1, h2, h3, h4, h5⟩ := qhp (fun e : Nat => [W32 e]) (· < 4294967296) qsc qkc (by decide) (fun _ => rfl) (fun _ _ _ h => qme h) hf
 refine ⟨A, c, l, h1, h2, h3, h4, ?_⟩
 rwa [qmf l] at h5
theorem ss_f0 : fieldAt Tryd.prog 31 0 0 5 = true := by kernel_rfl
theorem ss_f1 : fieldAt Tryd.prog 31 1 1 26 = true := by kernel_rfl
theorem ss_f2 : fieldAt Tryd.prog 31 2 3 27 = true := by kernel_rfl
theorem ss_f3 : fieldAt Tryd.prog 31 3 4 28 = true := by kernel_rfl
theorem ss_f4 : fieldAt Tryd.prog 31 4 5 29 = true := by kernel_rfl
theorem qsd : Tryd.prog.cellsOf 31 = 6 := by kernel_rfl
theorem qua {cs : List Value} {a b c d e f : Value} (hl : cs.length = 6) (h0 : cs[0]? = some a) (h1 : cs[1]? = some b) (h2 : cs[2]? = some c) (h3 : cs[3]? = some d) (h4 : cs[4]? = some e) (h5 : cs[5]? = some f) : cs = [a, b, c, d, e, f] := by
 refine qou hl fun i hi => ?_
 have hi' : i < 6 := hi
 have hc : i = 0 ∨ i = 1 ∨ i = 2 ∨ i = 3 ∨ i = 4 ∨ i = 5 := by omega
 rcases hc with rfl | rfl | rfl | rfl | rfl | rfl <;> assumption
structure SsIn (W : World) (x : Ss) (A : Option Addr) (c : Nat) (A2 : Option Addr) (c2 : Nat) : Prop where
 ok : x.Ok
 hc : x.l.length ≤ c
 hm : c ≤ maxLen
 hc2 : x.bef.length ≤ c2
 hm2 : c2 ≤ maxLen
 rd : Rd W W.heap.size 11 A x.l.length (x.l.flatMap smL)
 rd2 : Rd W W.heap.size 1 A2 x.bef.length (x.bef.map W32)
theorem qub {fuel : Nat} {cs : List Value} {y : DataW H × List MemPlace} (hf : DataW.trod enc Tryd.prog W 0 (fun _ => true) true fuel 31 cs = some y) :
  ∃ (x : Ss) (A : Option Addr) (c : Nat) (A2 : Option Addr) (c2 : Nat), (x.cells A c A2 c2).toList = cs ∧ SsIn W x A c A2 c2 := by
 obtain ⟨hl, _, y0, g0⟩ := qbe ss_f0 hf
 obtain ⟨_, _, y1, g1⟩ := qbe ss_f1 hf
 obtain ⟨_, _, y2, g2⟩ := qbe ss_f2 hf
 obtain ⟨_, _, y3, g3⟩ := qbe ss_f3 hf
 obtain ⟨_, _, y4, g4⟩ := qbe ss_f4 hf
 rw [qsd] at hl
 obtain ⟨cpu, e0, _, w0⟩ := DataW.trod_int qso g0
 obtain ⟨_, h1⟩ := qf1 qov g1
 obtain ⟨s, hs0, ws⟩ := h1 0 .i64 rfl
 obtain ⟨t, ht0, wt⟩ := h1 1 .i64 rfl
 obtain ⟨A, c, l, e2, k1, k2, k3, k4⟩ := qsb g2
 obtain ⟨A2, c2, bef, e3, m1, m2, m3, m4⟩ := qqo g3
 obtain ⟨o, e4, w4⟩ := qme g4
 rw [qre] at e0
 rw [qqn] at e2
 rw [qns] at e3
 rw [qkc] at e4
 have a0 := qcr e0
 have a3 := qcr e2
 have a4 := qcr e3
 have a5 := qcr e4.symm
 rw [qmw, List.getElem?_take, List.getElem?_drop] at hs0 ht0
 simp only [Nat.reduceLT, if_true] at hs0 ht0
 have u0 := u8_wf w0
 refine ⟨⟨cpu.toNat, ⟨s, t⟩, l, bef, o⟩, A, c, A2, c2, ?_, ⟨⟨by show cpu.toNat < 256; omega, ⟨qsp ws, qsp wt⟩, k3, m3, w4⟩, k1, k2, m1, m2, k4, m4⟩⟩
 refine ((qua hl a0 hs0 ht0 a3 a4 a5).trans ?_).symm
 show _ = [Value.int .u8 ((cpu.toNat : Nat) : Int), .int .i64 s, .int .i64 t, .slice A l.length c, .slice A2 bef.length c2, .int .u32 (o : Int)]
 rw [Int.toNat_of_nonneg u0.1]
 rfl
set_option maxRecDepth 100000 in
theorem qvi (hval : Value.okWide Tryd.prog W .any b0 31 v) (h : DataW.Trod enc Tryd.prog W 0 (fun _ => true) true 31 v d p) :
  ∃ (x : Ss) (A : Option Addr) (c : Nat) (A2 : Option Addr) (c2 : Nat), v = .agg (x.cells A c A2 c2) ∧ SsIn W x A c A2 c2 := by
 obtain ⟨fs, hu⟩ := qi8 (show qf2 Tryd.prog 31 = true by kernel_rfl)
 obtain ⟨cs, rfl, hs⟩ := okWide_struct hu hval
 obtain ⟨fuel, hf⟩ := h
 obtain ⟨x, A, c, A2, c2, e, hx⟩ := qub (cs := cs.toList) hf
 exact ⟨x, A, c, A2, c2, by rw [Array.toList_inj.1 e], hx⟩
end
end Go.Proofs.YtfeheccoijnbaaaDoor
namespace Go.Proofs.YtfeheccoijnbaaaDoor
open Go.RowKit
def atN : List Bk → Nat → Nat
 | _, 0 => 0
 | [], _ + 1 => 0
 | b :: t, i + 1 => b.evs.length + atN t i
theorem qmj : ∀ {bs : List Bk} {i : Nat}, i < bs.length → atN bs (i + 1) = atN bs i + (bs.getD i Bk.zero).evs.length
 | [], _, h => by cases h
 | b :: t, 0, _ => by simp [atN]
 | b :: t, i + 1, h => by
  have := qmj (bs := t) (i := i) (by simpa using h)
  show b.evs.length + atN t (i + 1) = b.evs.length + atN t i + _
  rw [this]
  simp
  omega
def moreB (L : List It) (opn : Int) (b : Bk) (p : Nat) : Bk := ⟨b.kind, b.cpu, b.lost + (L.getD p It.zero).before + (if p + 1 = L.length then opn else 0), 0, b.evs ++ [(L.getD p It.zero).e]⟩
structure FullAt (L : List It) (opn : Int) (lim : Nat) (b : Bk) (p : Nat) (last : Prop) : Prop where
 ok : b.Ok
 err : b.err = 0
 most : b.evs.length ≤ lim
 some : 0 < L.length → 0 < b.evs.length
 fits : p + b.evs.length ≤ L.length
 iff1 : p + b.evs.length < L.length → ¬ last
 iff2 : ¬ last → p + b.evs.length < L.length
 lost : 0 ≤ b.lost ∧ b.lost ≤ 281474976710656
 more : p + b.evs.length < L.length → b.evs.length ≠ lim → (moreB L opn b (p + b.evs.length)).Ok ∧ (moreB L opn b (p + b.evs.length)).err = 3
theorem qqw {b : Bk} (h : b.fits = true) (h2 : b.err ≠ 0) : b.err = 3 := by
 unfold Bk.err at h2 ⊢
 rw [if_neg (by rw [h]; decide)] at h2 ⊢
 split at h2
 ·rename_i h3; rw [if_pos h3]
 ·exact absurd rfl h2
theorem qug {cpu : Nat} {l : List It} {opn : Int} {n : Nat} (h : n < l.length) : moreB l opn (ofB cpu l opn n) n = ofB cpu l opn (n + 1) := by
 have e1 := qp5 (cpu := cpu) (opn := opn) (l := l) (k := n) (by omega)
 have e2 := qp4 h
 have e3 : evsI (l.take (n + 1)) = evsI (l.take n) ++ [(l.getD n It.zero).e] := by unfold evsI; rw [qdp It.zero h, List.map_append]; rfl
 unfold moreB
 rw [e1, ← e2]
 show Bk.mk 1 cpu (sumI (befI (l.take (n + 1))) + _) 0 (evsI (l.take n) ++ _) = Bk.mk 1 cpu _ 0 _
 rw [← e3]
theorem qmk {cpu lim : Nat} {opn : Int} (hl : 0 < lim) : ∀ (f : Nat) (l : List It), GoodI cpu l opn → l.length ≤ f → ∀ i, i < (cutGo cpu opn lim f l).length →
  FullAt l opn lim ((cutGo cpu opn lim f l).getD i Bk.zero) (atN (cutGo cpu opn lim f l) i) (i + 1 = (cutGo cpu opn lim f l).length)
 | 0, l, _, _, i, hi => by cases hi
 | f + 1, l, h, hf, i, hi => by
  rcases Nat.eq_zero_or_pos l.length with h0 | h0
  ·rw [qdd h0] at hi; cases hi
  ·obtain ⟨n, hn⟩ : ∃ n, n = cutN cpu l opn lim := ⟨_, rfl⟩
   obtain ⟨h1, h2, h3⟩ := qij h hl h0
   have hmin : n ≤ min l.length lim := by rw [hn]; exact qcl _ _
   rw [qcm h0 (by omega), ← hn, Nat.add_sub_cancel] at hi ⊢
   rw [← hn] at h1 h2 h3
   have hd : (l.drop n).length = l.length - n := List.length_drop
   cases i with
   | zero =>
    have hel := qb9 (cpu := cpu) (opn := opn) h2
    have hrest : (cutGo cpu opn lim f (l.drop n)).length = 0 ↔ l.length = n := by
     constructor
     ·intro hz
      rcases Nat.eq_zero_or_pos (l.drop n).length with h4 | h4
      ·omega
      ·rw [qcm h4 (by omega)] at hz; cases hz
     ·intro hz
      rw [qdd (by omega)]; rfl
    refine ⟨ql6 h n, h3, by show (ofB cpu l opn n).evs.length ≤ lim; omega, fun _ => by show 0 < (ofB cpu l opn n).evs.length; omega, ?_, ?_, ?_, qfr h n, ?_⟩
    ·show 0 + (ofB cpu l opn n).evs.length ≤ _; omega
    ·show 0 + (ofB cpu l opn n).evs.length < _ → _
     intro hlt hq
     have : (cutGo cpu opn lim f (l.drop n)).length = 0 := by simpa using hq.symm
     have := hrest.1 this
     omega
    ·show _ → 0 + (ofB cpu l opn n).evs.length < _
     intro hq
     have : (cutGo cpu opn lim f (l.drop n)).length ≠ 0 := fun hz => hq (by simp [hz])
     have : l.length ≠ n := fun hz => this (hrest.2 hz)
     omega
    ·show 0 + (ofB cpu l opn n).evs.length < _ → (ofB cpu l opn n).evs.length ≠ lim → (moreB l opn (ofB cpu l opn n) (0 + (ofB cpu l opn n).evs.length)).Ok ∧ (moreB l opn (ofB cpu l opn n) (0 + (ofB cpu l opn n).evs.length)).err = 3
     rw [hel, Nat.zero_add]
     intro hlt hne
     rw [qug hlt]
     refine ⟨ql6 h _, qqw (ql7 h (by omega) (by omega)) ?_⟩
     have hab := qb6 (fun n => decide ((ofB cpu l opn n).err = 0)) (min l.length lim) (n + 1) (by show cutN cpu l opn lim < n + 1; omega) (by omega)
     simpa using hab
   | succ i =>
    have hdn : 0 < (l.drop n).length := by
     rcases Nat.eq_zero_or_pos (l.drop n).length with h4 | h4
     ·rw [qdd h4] at hi; simp at hi
     ·exact h4
    have ih := qmk hl f (l.drop n) (h.drop n) (by omega) i (by simpa using hi)
    have hel := qb9 (cpu := cpu) (opn := opn) h2
    have hat : atN (ofB cpu l opn n :: cutGo cpu opn lim f (l.drop n)) (i + 1) = n + atN (cutGo cpu opn lim f (l.drop n)) i := by rw [atN, hel]
    have hg : (ofB cpu l opn n :: cutGo cpu opn lim f (l.drop n)).getD (i + 1) Bk.zero = (cutGo cpu opn lim f (l.drop n)).getD i Bk.zero := by simp
    rw [hat, hg]
    obtain ⟨b, hb⟩ : ∃ b, b = (cutGo cpu opn lim f (l.drop n)).getD i Bk.zero := ⟨_, rfl⟩
    obtain ⟨p, hp⟩ : ∃ p, p = atN (cutGo cpu opn lim f (l.drop n)) i := ⟨_, rfl⟩
    rw [← hb, ← hp] at ih ⊢
    have hgd : ∀ q, (l.drop n).getD q It.zero = l.getD (n + q) It.zero := fun q => by rw [List.getD_eq_getElem?_getD, List.getElem?_drop, ← List.getD_eq_getElem?_getD]
    have hfits := ih.fits
    refine ⟨ih.ok, ih.err, ih.most, fun _ => ih.some (by omega), by omega, ?_, ?_, ih.lost, ?_⟩
    ·intro hlt hq
     exact ih.iff1 (by omega) (by simpa using hq)
    ·intro hq
     have := ih.iff2 (fun hz => hq (by simpa using hz))
     omega
    ·intro hlt hne
     have hm := ih.more (by omega) hne
     have e : moreB l opn b (n + p + b.evs.length) = moreB (l.drop n) opn b (p + b.evs.length) := by
      unfold moreB
      rw [hgd, show n + (p + b.evs.length) = n + p + b.evs.length by omega]
      congr 2
      by_cases hx : n + p + b.evs.length + 1 = l.length
      ·rw [if_pos hx, if_pos (by omega)]
      ·rw [if_neg hx, if_neg (by omega)]
     rw [e]
     exact hm
theorem qqx {cpu : Nat} {opn : Int} (hc : cpu < 64) (h1 : 0 < opn) (h2 : opn ≤ 281474976710656) : Bk.Ok ⟨1, cpu, opn, 0, []⟩ ∧ Bk.err ⟨1, cpu, opn, 0, []⟩ = 0 := by
 refine ⟨⟨by show 1 < 256; decide, by show cpu < 256; omega, by show I64 opn; unfold I64; omega, by show I64 0; unfold I64; decide, fun e he => by cases he⟩, qva ?_ ?_⟩
 ·unfold Bk.fits
  rw [if_pos rfl]
  unfold Bk.qcz Bk.qfn
  rw [decide_eq_true_eq]
  exact ⟨rfl, hc, by show 0 ≤ opn; omega, h2, rfl, by show decide (0 < opn) = true; rw [decide_eq_true h1]⟩
 ·have := qgb ⟨1, cpu, opn, 0, []⟩
  show 12 + _ ≤ 4096
  have e : (Bk.mk 1 cpu opn 0 []).evs.length = 0 := rfl
  omega
theorem qsi {cpu lim : Nat} {l : List It} {opn : Int} (h : GoodI cpu l opn) (h1 : 0 < lim) (h2 : lim ≤ 4096) : ∃ bs, cutS cpu l opn (lim : Int) = (bs, 0) ∧ (bs.length = 0 ↔ (l.length = 0 ∧ opn = 0)) ∧ bs.length ≤ l.length + 1 ∧ ∀ i, i < bs.length → FullAt l opn lim (bs.getD i Bk.zero) (atN bs i) (i + 1 = bs.length) := by
 have hc := h.c64
 have ho := h.o0
 have hs := h.sum
 have hb := qar h.bef
 have hok := qt4 h
 rcases Nat.eq_zero_or_pos l.length with h0 | h0
 ·by_cases hz : opn = 0
  ·exact ⟨[], qjv (by omega) hok h0 hz, ⟨fun _ => ⟨h0, hz⟩, fun _ => rfl⟩, Nat.zero_le _, fun i hi => by cases hi⟩
  ·have hg := qqx (cpu := cpu) (opn := opn) hc (by omega) (by omega)
   refine ⟨[⟨1, cpu, opn, 0, []⟩], qjw (by omega) hok h0 hz, ⟨fun h => (by cases h), fun h => absurd h.2 hz⟩, by simp, fun i hi => ?_⟩
   obtain rfl : i = 0 := by simpa using hi
   refine ⟨hg.1, hg.2, Nat.zero_le _, fun h => by omega, Nat.zero_le _, fun h => ?_, fun h => absurd rfl h, ⟨ho, by show opn ≤ _; omega⟩, fun h => ?_⟩
   ·have : 0 + 0 < l.length := h; omega
   ·have : 0 + 0 < l.length := h; omega
 ·refine ⟨cutGo cpu opn lim l.length l, qjx (by omega) hok (by omega), ⟨fun hz => ?_, fun hz => by omega⟩, by have := (qhs (cpu := cpu) (opn := opn) h1 l.length l h).2; omega, qmk h1 l.length l h (Nat.le_refl _)⟩
  rw [qcm h0 h0] at hz
  cases hz
theorem quh {a b : Prop} [Decidable a] [Decidable b] (h : a ↔ b) : Value.bool (!(decide a == decide b)) = .bool false := by
 congr 1
 by_cases ha : a
 ·rw [decide_eq_true ha, decide_eq_true (h.1 ha)]; rfl
 ·rw [decide_eq_false ha, decide_eq_false (fun hb => ha (h.2 hb))]; rfl
section
variable {W w : World} {a b c : List Fact} {t : TypeId} {q : List Hb}
end
theorem Mem.qvs {W w : World} {a : List Fact} {α : Type} {f : α → List Value} {sz : Nat} (hf : ∀ x, (f x).length = sz) (h : Mem W w a) {i g m' c' : Nat} {e : TypeId} {l : List α} (hi : a[i]? = some (.row (.slice (some ⟨g, 0, none⟩) m' c') m' (l.flatMap f) e sz)) {k j m : Nat} {x : α} {ys : List Value} (hk : l[k]? = some x) (hy : ((f x).drop j).take m = ys) : w.rangeAt g (k * sz + j) ys := by
 have h1 := Rd.qvx hf (h.rd hi) hk hy
 rwa [Nat.zero_add] at h1
instance itDec : DecidableEq It := fun ⟨a, b⟩ ⟨c, d⟩ => decidable_of_iff (a = c ∧ b = d) (by rw [It.mk.injEq])
structure Sbm where
 x : Sb
 A : Option Addr
 c : Nat
def Sbm.zero : Sbm := ⟨⟨false, 0, 0, ⟨0, 0⟩, []⟩, none, 0⟩
structure SbmIn (W : World) (h : Sbm) : Prop where
 ok : h.x.Ok
 hc : h.x.l.length ≤ h.c
 hm : h.x.l.length ≤ 9223372036854775807
 rd : Rd W W.heap.size 11 h.A h.x.l.length (h.x.l.flatMap smL)
theorem hb_at {q : List Hb} {bs : List Bk} (hq : q.map Hb.b = bs) {k : Nat} (hk : k < bs.length) : (q.getD k Hb.zero).b = bs.getD k Bk.zero := by
 subst hq
 rw [List.length_map] at hk
 rw [List.getD_eq_getElem?_getD, List.getElem?_eq_getElem hk, List.getD_eq_getElem?_getD, List.getElem?_map, List.getElem?_eq_getElem hk]
 rfl
theorem qlj (A : Option Addr) (c : Nat) (q : List Hb) (B : Nat) (w : World) (hL : LaidX B w) (hB : B ≤ w.heap.size) (hr : Rd w w.heap.size 5 A q.length (q.flatMap hbL)) (hQ : HbRd w q) (hok : ∀ h ∈ q, h.b.Ok) (hev : ∀ h ∈ q, h.b.evs.length ≤ 1000000) (hn : q.length ≤ 1000000) :
    Calls Tryd.prog 20 #[.slice A q.length c] w (qaz w (zu (q.map Hb.b)).2 (zu (q.map Hb.b)).1) := by
 refine qh (vs := [.slice A q.length c]) Tryd.func20 rfl rfl (by kernel_rfl) (σ0 := [(0, .slice A q.length c)]) rfl ?_
 intro a HF
 have HM := Mem.start w
 refine wp_seq (qa ?_)
 refine fp HF 2 0 [(3, vI 0), (2, .slice none 0 0)] fun a HF => ?_
 refine qb rfl (wp_seq (qa ?_))
 refine fp HF 1 0 [(4, .slice none 0 0)] fun a HF => ?_
 refine qb rfl (wp_seq (qa ?_))
 refine fp HF 1 0 [(5, .bool false)] fun a HF => ?_
 refine qb rfl ?_
 replace HM := HM.nil 5 1
 refine wp_seq (wp_seq (qa ?_))
 refine fp HF 1 0 [(10, .slice A q.length c)] fun a HF => ?_
 refine fy HF HM 1 rfl rfl rfl (Yl.len rfl rfl (by kernel_rfl)) fun a HF => ?_
 refine fp HF 1 2 [(12, vI 0)] fun a HF => ?_
 refine qb rfl (wp_block ?_)
 refine zy (fun mS aS wS => ∃ (k : Nat) (lg : Bool) (R : List Nat) (Ao : Option Addr) (co : Nat), (k ≤ q.length) ∧ (errL (q.map Hb.b) = errL ((q.drop k).map Hb.b)) ∧ (lg = decide (524288 < (outsL ((q.take k).map Hb.b)).length)) ∧ (lg = false → R = outsL ((q.take k).map Hb.b)) ∧ (R.length ≤ 524288) ∧ (R.length ≤ co) ∧ mS = q.length - k ∧ Fr aS 41 [] [(12, vI k), (11, vI q.length), (10, .slice A q.length c), (5, .bool lg), (4, .slice Ao R.length co), (3, vI 0), (2, .slice none 0 0)] ∧ Mem w wS [.row (.slice Ao R.length co) R.length (R.map B8) 5 1]) (m := q.length - 0) ⟨0, false, [], none, 0, Nat.zero_le _, by rw [List.drop_zero], rfl, by intro _; rfl, by simp, Nat.le_refl _, rfl, HF.sub (by kernel_rfl), HM.picks [0] (by decide) rfl⟩ ?_
 clear HF HM; rintro mS a w_ ⟨k, lg, R, Ao, co, hk, her, hlg, hR, hRl, hco, rfl, HF, HM⟩
 refine wp_seq (qa ?_)
 refine fp HF 1 0 [(13, .bool (decide ((k : Int) < (q.length : Int))))] fun a HF => ?_
 refine qb rfl (wp_seq ?_)
 rcases HF.tf 13 rfl with ⟨hb13, HF⟩ | ⟨hb13, HF⟩
 ·
  have hd13 := of_decide_eq_true hb13
  have hk13 : k < q.length := by omega
  have hat := qvf hk13
  have hoq := congrArg List.length (qs1 hk13)
  rw [List.length_append] at hoq
  have hol := qpk (q.getD k Hb.zero).b
  have htk := qqd (q := q) k
  refine qf HF rfl (wp_skip (wp_seq (wp_block (wp_seq (qa ?_)))))
  obtain ⟨gA, oA, rfl, _⟩ := hr.qa2 (Nat.lt_of_le_of_lt (Nat.zero_le _) (show k < q.length from by omega)) (by decide)
  refine fy HF HM 0 rfl rfl rfl (v := vP gA (oA + k * 5)) (Yl.ix gA oA k 5 rfl rfl rfl) fun a HF => ?_
  refine fy HF HM 1 rfl rfl rfl (v := .agg ((q.getD k Hb.zero).b.cells (q.getD k Hb.zero).A (q.getD k Hb.zero).c)) (Yl.zg rfl rfl si_bk rfl (fun _ h => (h.old hr).qdr qd4 ((getD_at Hb.zero (k := k) (by first | omega | (simp; omega)))))) fun a HF => ?_
  refine fo HF 2 rfl rfl ?_
  refine qp HF HM (cs := #[vB 0, vB 0, vI 0, vI 0, .slice none 0 0]) rfl (by kernel_rfl) rfl (by decide) ?_
  clear HF HM; intro a w7 g7 HF HM
  refine fo HF 3 rfl rfl ?_
  refine e_sa HF HM 0 rfl rfl rfl rfl rfl si_bk rfl rfl (qb4 _ _ _) ?_
  clear HM; intro w5_3 HM
  refine qb rfl (wp_seq (qa ?_))
  refine fy HF HM 0 rfl rfl rfl (v := .agg ((q.getD k Hb.zero).b.cells (q.getD k Hb.zero).A (q.getD k Hb.zero).c)) (Yl.zg rfl rfl si_bk rfl (fun _ h => qd (h.blk (i := 0) rfl))) fun a HF => ?_
  refine fo HF 1 rfl rfl ?_
  refine e_cl HF [.agg ((q.getD k Hb.zero).b.cells (q.getD k Hb.zero).A (q.getD k Hb.zero).c)] rfl rfl (qpt (q.getD k Hb.zero).b (hok _ (qbo Hb.zero hk13)) ((q.getD k Hb.zero).A) (q.getD k Hb.zero).c B _ (hL.mem HM hB) (HM.le hB) (HM.old (hQ.at hk13)) (hev _ (qbo Hb.zero hk13)) rfl rfl) ?_
  rintro _ w18 ⟨⟨A18, c18, rfl, ho, hc18⟩, hbw⟩
  refine ⟨_, rfl, ?_⟩
  replace HM := HM.callRow hbw ho
  clear HF; intro a HF
  refine fp HF 5 2 [(9, vI ((q.getD k Hb.zero).b.err)), (8, .slice A18 ((q.getD k Hb.zero).b.out.length) c18)] fun a HF => ?_
  refine qb rfl (wp_seq (wp_seq (qa ?_)))
  refine fp HF 2 0 [(22, .bool (((q.getD k Hb.zero).b.err : Int) != (0 : Int)))] fun a HF => ?_
  refine qb rfl ?_
  rcases HF.tf 22 rfl with ⟨hb22, HF⟩ | ⟨hb22, HF⟩
  ·
   have hd22 := bne_iff_ne.1 hb22
   have hE : errL (q.map Hb.b) = (q.getD k Hb.zero).b.err := by rw [her, hat, if_neg (by omega)]
   refine qf HF rfl (wp_seq (qa ?_))
   refine fp HF 3 0 [(3, vI ((q.getD k Hb.zero).b.err)), (2, .slice none 0 0)] fun a HF => ?_
   refine qb rfl (wp_ret ?_)
   exact ret2 rfl HF (.tmp HF rfl) (.tmp HF rfl) (qhr HM.below (qng (by rw [hE]; omega)) (by rw [hE]))
  have hd22 := bne_eq_false_iff_eq.1 hb22
  have hE : errL (q.map Hb.b) = errL ((q.drop (k + 1)).map Hb.b) := by rw [her, hat, if_pos (by omega)]
  refine qe HF rfl (wp_skip (wp_seq (qa ?_)))
  refine fp HF 2 0 [(25, .bool lg)] fun a HF => ?_
  rcases HF.tf 25 rfl with ⟨hb25, HF⟩ | ⟨hb25, HF⟩
  ·
   have hlong : 524288 < (outsL ((q.take k).map Hb.b)).length := of_decide_eq_true (hlg.symm.trans hb25)
   refine fp HF 8 2 [(5, .bool true)] fun a HF => ?_
   refine qb rfl (wp_seq (qa ?_))
   refine fp HF 2 0 [(34, .bool false)] fun a HF => ?_
   refine qb rfl (qe HF rfl (wp_skip (qa ?_)))
   refine fp HF 1 0 [(38, vI (IntKind.i64.wrap ((k : Int) + 1)))] fun a HF => ?_
   replace HF := HF.sp 38 (vI (k + 1 : Nat)) rfl (ql (by omega) (by omega))
   refine fp HF 1 1 [(12, vI (k + 1 : Nat))] fun a HF => ?_
   refine qb rfl ?_
   exact ⟨_, (by omega), k + 1, true, R, Ao, co, by omega, hE, (decide_eq_true (by omega)).symm, (by intro h; cases h), hRl, hco, rfl, HF.sub (by kernel_rfl), HM.picks [2] (by decide) rfl⟩
  have hlong : ¬ 524288 < (outsL ((q.take k).map Hb.b)).length := of_decide_eq_false (hlg.symm.trans hb25)
  have hRe := hR hb25
  have hRl2 : R.length = (outsL ((q.take k).map Hb.b)).length := by rw [hRe]
  refine fp HF 1 2 [(26, .slice Ao R.length co)] fun a HF => ?_
  refine fy HF HM 3 rfl rfl rfl (Yl.len rfl rfl (by kernel_rfl)) fun a HF => ?_
  refine fp HF 1 4 [(28, .slice A18 ((q.getD k Hb.zero).b.out.length) c18)] fun a HF => ?_
  refine fy HF HM 5 rfl rfl rfl (Yl.len rfl rfl (by kernel_rfl)) fun a HF => ?_
  refine fp HF 1 6 [(30, vI (IntKind.i64.wrap ((R.length : Int) + (((q.getD k Hb.zero).b.out.length : Nat) : Int))))] fun a HF => ?_
  replace HF := HF.sp 30 (vI (R.length + ((q.getD k Hb.zero).b.out.length) : Nat)) rfl (ql (by omega) (by omega))
  refine fp HF 3 7 [(5, .bool (decide (((R.length + ((q.getD k Hb.zero).b.out.length) : Nat) : Int) > (524288 : Int))))] fun a HF => ?_
  refine qb rfl (wp_seq (qa ?_))
  refine fp HF 2 0 [(34, .bool (!(decide (((R.length + ((q.getD k Hb.zero).b.out.length) : Nat) : Int) > (524288 : Int)))))] fun a HF => ?_
  refine qb rfl ?_
  rcases HF.tf 34 rfl with ⟨hb34, HF⟩ | ⟨hb34, HF⟩
  ·
   have hd34 := of_decide_eq_false ((Bool.not_eq_true' _).mp hb34)
   replace HF := HF.on 5 ((Bool.not_eq_true' _).mp hb34)
   refine qf HF rfl (qa ?_)
   refine fp HF 2 0 [(36, .slice A18 ((q.getD k Hb.zero).b.out.length) c18), (35, .slice Ao R.length co)] fun a HF => ?_
   refine fo HF 2 rfl rfl ?_
   refine zh HF HM (i := 2) rfl ei_u8 rfl rfl rfl (news := ((q.getD k Hb.zero).b.out.map B8)) (HM.rd (i := 0) rfl) (qfj _) (by omega) (by omega) rfl (by decide) ?_
   clear HF HM; intro a w37 A37 c37 HF HM hc37
   rw [show (R.map B8) ++ ((q.getD k Hb.zero).b.out.map B8) = (R ++ (q.getD k Hb.zero).b.out).map B8 from by rw [List.map_append]] at HM
   refine fp HF 1 3 [(4, .slice A37 (R.length + ((q.getD k Hb.zero).b.out.length)) c37)] fun a HF => ?_
   refine qb rfl ?_
   have hnA37 : R.length + ((q.getD k Hb.zero).b.out.length) = (R ++ (q.getD k Hb.zero).b.out).length := by rw [List.length_append]
   replace HM := HM.reRow (i := 2) (ys := (R ++ (q.getD k Hb.zero).b.out).map B8) rfl hnA37 (rfl)
   rw [hnA37] at hc37
   replace HF := HF.as (t := 4) (u := .slice A37 ((R ++ (q.getD k Hb.zero).b.out).length) c37) rfl (by rw [hnA37])
   replace HF := HF.as (t := 37) (u := .slice A37 ((R ++ (q.getD k Hb.zero).b.out).length) c37) rfl (by rw [hnA37])
   refine qa ?_
   refine fp HF 1 0 [(38, vI (IntKind.i64.wrap ((k : Int) + 1)))] fun a HF => ?_
   replace HF := HF.sp 38 (vI (k + 1 : Nat)) rfl (ql (by omega) (by omega))
   refine fp HF 1 1 [(12, vI (k + 1 : Nat))] fun a HF => ?_
   refine qb rfl ?_
   exact ⟨_, (by omega), k + 1, false, (R ++ (q.getD k Hb.zero).b.out), A37, c37, by omega, hE, (decide_eq_false (by omega)).symm, (by intro _; rw [hRe, qs1 hk13]), (by rw [List.length_append]; omega), hc37, rfl, HF.sub (by kernel_rfl), HM.picks [2] (by decide) rfl⟩
  have hd34 := of_decide_eq_true ((Bool.not_eq_false' _).mp hb34)
  replace HF := HF.on 5 ((Bool.not_eq_false' _).mp hb34)
  refine qe HF rfl (wp_skip (qa ?_))
  refine fp HF 1 0 [(38, vI (IntKind.i64.wrap ((k : Int) + 1)))] fun a HF => ?_
  replace HF := HF.sp 38 (vI (k + 1 : Nat)) rfl (ql (by omega) (by omega))
  refine fp HF 1 1 [(12, vI (k + 1 : Nat))] fun a HF => ?_
  refine qb rfl ?_
  exact ⟨_, (by omega), k + 1, true, R, Ao, co, by omega, hE, (decide_eq_true (by omega)).symm, (by intro h; cases h), hRl, hco, rfl, HF.sub (by kernel_rfl), HM.picks [2] (by decide) rfl⟩
 have hd13 := of_decide_eq_false hb13
 have hkn : k = q.length := by omega
 have hdn : errL (q.map Hb.b) = 0 := by rw [her, List.drop_of_length_le (by omega)]; rfl
 have htn : q.take k = q := List.take_of_length_le (by omega)
 rw [htn] at hlg hR
 refine qe HF rfl (wp_exit (wp_seq (wp_seq (qa ?_))))
 refine fp HF 1 0 [(39, .bool lg)] fun a HF => ?_
 refine qb rfl ?_
 rcases HF.tf 39 rfl with ⟨hb39, HF⟩ | ⟨hb39, HF⟩
 ·
  have hlong : 524288 < (outsL (q.map Hb.b)).length := of_decide_eq_true (hlg.symm.trans hb39)
  refine qf HF rfl (wp_seq (qa ?_))
  refine fp HF 2 0 [(3, vI 3), (2, .slice none 0 0)] fun a HF => ?_
  refine qb rfl (wp_ret ?_)
  exact ret2 rfl HF (.tmp HF rfl) (.tmp HF rfl) (qhr HM.below (qld hdn hlong) rfl)
 have hlong : ¬ 524288 < (outsL (q.map Hb.b)).length := of_decide_eq_false (hlg.symm.trans hb39)
 have hRe := hR hb39
 refine qe HF rfl (wp_skip (wp_seq (qa ?_)))
 refine fp HF 3 0 [(3, vI 0), (2, .slice Ao R.length co)] fun a HF => ?_
 refine qb rfl (wp_ret ?_)
 exact ret2 rfl HF (.tmp HF rfl) (.tmp HF rfl) (by rw [qqc hdn hlong, ← hRe]; exact ⟨⟨Ao, co, rfl, HM.own (i := 0) rfl, hco⟩, HM.below⟩)
theorem qnu (g : Nat) (lim : Int) (A : Option Addr) (n c : Nat) (w : World) (hg : w.heap[g]? = some (.cells #[.int .i64 lim, .slice A n c] 95 (0, 0))) :
    Calls Tryd.prog 39 #[.pointer (some ⟨g, 0, none⟩)] w (Is w (.bool (lim == 0))) := by
 refine qh (vs := [vP g 0]) Tryd.func39 rfl rfl (by kernel_rfl) (σ0 := [(0, vP g 0)]) rfl ?_
 intro a HF
 have HM := Mem.start w
 refine wp_seq (qa ?_)
 refine fp HF 1 0 [(2, .bool false)] fun a HF => ?_
 refine qb rfl (wp_seq (qa ?_))
 refine fp HF 1 0 [(3, vP g 0)] fun a HF => ?_
 refine fy HF HM 1 rfl rfl rfl (v := .bool false) (Yl.qmo rfl rfl rfl) fun a HF => ?_
 refine fp HF 2 2 [(6, vP g 0), (5, .bool false)] fun a HF => ?_
 refine fy HF HM 4 rfl rfl rfl (v := vP g 0) (Yl.nilCheck rfl rfl) fun a HF => ?_
 refine fp HF 1 5 [(8, vP g 0)] fun a HF => ?_
 refine fy HF HM 6 rfl rfl rfl (v := vI lim) (Yl.qi rfl rfl (by kernel_rfl) (fun _ h => h.ze hg rfl)) fun a HF => ?_
 refine fp HF 3 7 [(2, .bool ((lim : Int) == (0 : Int)))] fun a HF => ?_
 refine qb rfl (wp_ret ?_)
 exact ret1 rfl HF (.tmp HF rfl) (⟨rfl, HM.below⟩)
theorem qgp (g : Nat) (lim : Int) (A : Option Addr) (n c : Nat) (w : World) (hg : w.heap[g]? = some (.cells #[.int .i64 lim, .slice A n c] 95 (0, 0))) (hlim : lim ≠ 0) :
  Calls Tryd.prog 39 #[.pointer (some ⟨g, 0, none⟩)] w (Is w (.bool false)) := by
 have h := qnu g lim A n c w hg
 rwa [beq_false_of_ne hlim] at h
theorem qkf (A : Option Addr) (c : Nat) (l : List Nat) (w : World) (hr : Rd w w.heap.size 1 A l.length (l.map B8)) (hn : l.length ≤ 100000000) :
    Calls Tryd.prog 41 #[.slice A l.length c] w (qaf w l) := by
 refine qh (vs := [.slice A l.length c]) Tryd.func41 rfl rfl (by kernel_rfl) (σ0 := [(0, .slice A l.length c)]) rfl ?_
 intro a HF
 have HM := Mem.start w
 refine wp_seq (qa ?_)
 refine fp HF 1 0 [(2, .slice none 0 0)] fun a HF => ?_
 refine qb rfl (wp_seq (wp_seq (qa ?_)))
 refine fp HF 1 0 [(3, .slice A l.length c)] fun a HF => ?_
 refine fy HF HM 1 rfl rfl rfl (v := .bool A.isNone) (Yl.qvz rfl rfl rfl) fun a HF => ?_
 refine qb rfl ?_
 rcases HF.tf 4 rfl with ⟨hb4, HF⟩ | ⟨hb4, HF⟩
 ·
  obtain rfl : A = none := by cases A with | none => rfl | some a => cases hb4
  obtain rfl : l = [] := hr.quk
  refine qf HF rfl (wp_seq (qa ?_))
  refine fp HF 1 0 [(2, .slice none 0 0)] fun a HF => ?_
  refine qb rfl (wp_ret ?_)
  exact ret1 rfl HF (.tmp HF rfl) (⟨⟨none, 0, rfl, World.ownsRow_nil _ _ _ _, Nat.le_refl _⟩, HM.below⟩)
 refine qe HF rfl (wp_skip (wp_seq (qa ?_)))
 refine fo HF 0 rfl rfl ?_
 refine qeg HF HM rfl ei_u8 rfl (by decide) ?_
 clear HF HM; intro a w5 g5 HF HM
 refine fp HF 1 1 [(6, .slice A l.length c)] fun a HF => ?_
 refine fo HF 2 rfl rfl ?_
 refine zh HF HM (i := 0) rfl ei_u8 rfl rfl rfl (news := (l.map B8)) (HM.old hr) (qfj _) (by omega) (by omega) rfl (by decide) ?_
 clear HF HM; intro a w7 A7 c7 HF HM hc7
 refine fp HF 1 3 [(2, .slice A7 (0 + l.length) c7)] fun a HF => ?_
 refine qb rfl (wp_ret ?_)
 exact ret1 rfl HF (.tmp HF rfl) (⟨⟨A7, c7, by rw [Nat.zero_add], by have h := HM.own (i := 0) rfl; rwa [Nat.zero_add, List.nil_append] at h, by omega⟩, HM.below⟩)
def NewIs (w : World) (lim : Int) (r : Ending) (w' : World) : Prop := ((lim < 1 ∨ 4096 < lim) ∧ Is w (.tuple #[.pointer none, .int .i64 2]) r w') ∨ (¬ (lim < 1 ∨ 4096 < lim) ∧ ∃ g, r = .returned (.tuple #[.pointer (some ⟨g, 0, none⟩), .int .i64 0]) ∧ Mem w w' [.blk g #[.int .i64 lim, .slice none 0 0] 95])
theorem qmh {w w' : World} {lim : Int} (h : lim < 1 ∨ 4096 < lim) (hb : Below w.heap.size w w') : NewIs w lim (.returned (.tuple #[.pointer none, .int .i64 2])) w' := .inl ⟨h, rfl, hb⟩
theorem qsf {w w' : World} {lim : Int} {g : Nat} (h : ¬ (lim < 1 ∨ 4096 < lim)) (hm : Mem w w' [.blk g #[.int .i64 lim, .slice none 0 0] 95]) : NewIs w lim (.returned (.tuple #[.pointer (some ⟨g, 0, none⟩), .int .i64 0])) w' := .inr ⟨h, g, rfl, hm⟩
theorem qqs (lim : Int) (hl : I64 lim) (w : World) :
    Calls Tryd.prog 14 #[.int .i64 lim] w (NewIs w lim) := by
 refine qh (vs := [vI lim]) Tryd.func14 rfl rfl (by kernel_rfl) (σ0 := [(0, vI lim)]) rfl ?_
 intro a HF
 have HM := Mem.start w
 refine wp_seq (qa ?_)
 refine fp HF 2 0 [(3, vI 0), (2, .pointer none)] fun a HF => ?_
 refine qb rfl (wp_seq (wp_seq (qa ?_)))
 refine fp HF 3 0 [(6, .bool (decide ((lim : Int) < (1 : Int))))] fun a HF => ?_
 rcases HF.tf 6 rfl with ⟨hb6, HF⟩ | ⟨hb6, HF⟩
 ·
  have hd6 := of_decide_eq_true hb6
  refine fp HF 3 3 [(9, .bool true)] fun a HF => ?_
  refine qb rfl (qf HF rfl (wp_seq (qa ?_)))
  refine fp HF 2 0 [(3, vI 2), (2, .pointer none)] fun a HF => ?_
  refine qb rfl (wp_ret ?_)
  exact ret2 rfl HF (.tmp HF rfl) (.tmp HF rfl) (qmh (by omega) HM.below)
 have hd6 := of_decide_eq_false hb6
 refine fp HF 3 3 [(9, .bool (decide ((lim : Int) > (4096 : Int))))] fun a HF => ?_
 refine qb rfl ?_
 rcases HF.tf 9 rfl with ⟨hb9, HF⟩ | ⟨hb9, HF⟩
 ·
  have hd9 := of_decide_eq_true hb9
  refine qf HF rfl (wp_seq (qa ?_))
  refine fp HF 2 0 [(3, vI 2), (2, .pointer none)] fun a HF => ?_
  refine qb rfl (wp_ret ?_)
  exact ret2 rfl HF (.tmp HF rfl) (.tmp HF rfl) (qmh (by omega) HM.below)
 have hd9 := of_decide_eq_false hb9
 refine qe HF rfl (wp_skip (wp_seq (qa ?_)))
 refine fp HF 1 0 [(10, vI lim)] fun a HF => ?_
 refine fy HF HM 1 rfl rfl rfl (v := .agg #[vI lim, .slice none 0 0]) (Yl.build (vs := [(0, vI lim)]) rfl (by kernel_rfl) (by kernel_rfl)) fun a HF => ?_
 refine fo HF 2 rfl rfl ?_
 refine e_box HF HM (cs := #[vI lim, .slice none 0 0]) rfl rfl rfl rfl (by decide) ?_
 clear HF HM; intro a w12 g12 HF HM
 refine fp HF 2 3 [(3, vI 0), (2, vP g12 0)] fun a HF => ?_
 refine qb rfl (wp_ret ?_)
 exact ret2 rfl HF (.tmp HF rfl) (.tmp HF rfl) (qsf (by omega) (HM.picks [0] (by decide) rfl))
theorem qnv (A : Option Addr) (c : Nat) (q : List Hb) (B : Nat) (w : World) (hL : LaidX B w) (hB : B ≤ w.heap.size) (hr : Rd w w.heap.size 5 A q.length (q.flatMap hbL)) (hQ : HbRd w q) (hok : ∀ h ∈ q, h.b.Ok) (hev : ∀ h ∈ q, h.b.evs.length ≤ 1000000) (hn : q.length ≤ 1000000) {R : List Nat} {er : Nat} (h : zu (q.map Hb.b) = (R, er)) :
  Calls Tryd.prog 20 #[.slice A q.length c] w (qaz w er R) := by
 have h1 := qlj A c q B w hL hB hr hQ hok hev hn
 rw [h] at h1
 exact h1
theorem qkg (W w : World) (g : Nat) (lim : Int) (A : Option Addr) (c : Nat) (out : List Nat) (fs : List Fact) (HW : Mem W w (.blk g #[.int .i64 lim, .slice A out.length c] 95 :: .row (.slice A out.length c) out.length (out.map B8) 5 1 :: fs)) (hc : out.length ≤ c) (hout : out.length ≤ 524288) (A2 : Option Addr) (c2 : Nat) (q : List Hb) (B : Nat) (hL : LaidX B w) (hBW : B ≤ W.heap.size) (hr : Rd w w.heap.size 5 A2 q.length (q.flatMap hbL)) (hQ : HbRd w q) (hok : ∀ h ∈ q, h.b.Ok) (hev : ∀ h ∈ q, h.b.evs.length ≤ 1000000) (hn : q.length ≤ 1000000) :
    Calls Tryd.prog 40 #[.pointer (some ⟨g, 0, none⟩), .slice A2 q.length c2] w (WrIs W 95 g lim (qa4 out (q.map Hb.b)).1 fs (.int .i64 ((qa4 out (q.map Hb.b)).2 : Int))) := by
 have hg := HW.blk (i := 0) rfl
 have hB := Nat.le_trans hBW HW.size
 have hrA := HW.rd (i := 1) rfl
 refine qh (vs := [vP g 0, .slice A2 q.length c2]) Tryd.func40 rfl rfl (by kernel_rfl) (σ0 := [(0, vP g 0), (1, .slice A2 q.length c2)]) rfl ?_
 intro a HF
 have HM := Mem.start w
 refine wp_seq (qa ?_)
 refine fp HF 1 0 [(4, vI 0)] fun a HF => ?_
 refine qb rfl ?_
 obtain ⟨R, er, hws⟩ : ∃ R er, zu (q.map Hb.b) = (R, er) := ⟨_, _, rfl⟩
 have hRl : R.length ≤ 524288 := by have h := qnh (q.map Hb.b); rw [hws] at h; exact h
 refine wp_seq (qa ?_)
 refine fp HF 1 0 [(8, .slice A2 q.length c2)] fun a HF => ?_
 refine fo HF 1 rfl rfl ?_
 refine e_cl HF [.slice A2 q.length c2] rfl rfl (qnv A2 c2 q B _ (hL.mem HM hB) (HM.le hB) (HM.old hr) (HbRd.old hQ HM) hok hev hn hws) ?_
 rintro _ w9 ⟨⟨A9, c9, rfl, ho, hc9⟩, hbw⟩
 refine ⟨_, rfl, ?_⟩
 replace HM := HM.callRow hbw ho
 clear HF; intro a HF
 refine fp HF 5 2 [(6, vI er), (5, .slice A9 R.length c9)] fun a HF => ?_
 refine qb rfl (wp_seq (wp_seq (qa ?_)))
 refine fp HF 2 0 [(13, .bool ((er : Int) != (0 : Int)))] fun a HF => ?_
 refine qb rfl ?_
 rcases HF.tf 13 rfl with ⟨hb13, HF⟩ | ⟨hb13, HF⟩
 ·
  have hd13 := bne_iff_ne.1 hb13
  refine qf HF rfl (wp_seq (qa ?_))
  refine fp HF 2 0 [(4, vI er)] fun a HF => ?_
  refine qb rfl (wp_ret ?_)
  exact ret1 rfl HF (.tmp HF rfl) (qio (qlf hws (by omega)) rfl hc (HW.call HM.below))
 have hd13 := bne_eq_false_iff_eq.1 hb13
 refine qe HF rfl (wp_skip (wp_seq (wp_seq (qa ?_))))
 refine fp HF 1 0 [(15, vP g 0)] fun a HF => ?_
 refine fy HF HM 1 rfl rfl rfl (v := vP g 0) (Yl.nilCheck rfl rfl) fun a HF => ?_
 refine fp HF 1 2 [(17, vP g 1)] fun a HF => ?_
 refine fy HF HM 3 rfl rfl rfl (v := .slice A out.length c) (Yl.qi rfl rfl (by kernel_rfl) (fun _ h => h.ze hg rfl)) fun a HF => ?_
 refine fy HF HM 4 rfl rfl rfl (Yl.len rfl rfl (by kernel_rfl)) fun a HF => ?_
 refine fp HF 1 5 [(20, .slice A9 R.length c9)] fun a HF => ?_
 refine fy HF HM 6 rfl rfl rfl (Yl.len rfl rfl (by kernel_rfl)) fun a HF => ?_
 refine fp HF 1 7 [(22, vI (IntKind.i64.wrap ((out.length : Int) + (R.length : Int))))] fun a HF => ?_
 replace HF := HF.sp 22 (vI (out.length + R.length : Nat)) rfl (ql (by omega) (by omega))
 refine fp HF 1 8 [(23, .bool (decide (((out.length + R.length : Nat) : Int) > (524288 : Int))))] fun a HF => ?_
 refine qb rfl ?_
 rcases HF.tf 23 rfl with ⟨hb23, HF⟩ | ⟨hb23, HF⟩
 ·
  have hd23 := of_decide_eq_true hb23
  refine qf HF rfl (wp_seq (qa ?_))
  refine fp HF 1 0 [(4, vI 3)] fun a HF => ?_
  refine qb rfl (wp_ret ?_)
  exact ret1 rfl HF (.tmp HF rfl) (qio (qj6 hws (by omega) (by omega)) rfl hc (HW.call HM.below))
 have hd23 := of_decide_eq_false hb23
 replace HM : Mem W _ (.row (.slice A9 R.length c9) R.length (R.map B8) 5 1 :: .blk g #[vI lim, .slice A out.length c] 95 :: .row (.slice A out.length c) out.length (out.map B8) 5 1 :: fs) := HW.join HM
 refine qe HF rfl (wp_skip (wp_seq (qa ?_)))
 refine fp HF 2 0 [(25, vP g 0), (24, vP g 0)] fun a HF => ?_
 refine fy HF HM 2 rfl rfl rfl (v := vP g 0) (Yl.nilCheck rfl rfl) fun a HF => ?_
 refine fp HF 1 3 [(27, vP g 1)] fun a HF => ?_
 refine fy HF HM 4 rfl rfl rfl (Yl.qi rfl rfl (by kernel_rfl) (fun _ h => h.cell (i := 1) rfl rfl)) fun a HF => ?_
 refine fp HF 1 5 [(29, .slice A9 R.length c9)] fun a HF => ?_
 refine fo HF 6 rfl rfl ?_
 refine zh HF HM (i := 2) rfl ei_u8 rfl rfl rfl (news := (R.map B8)) (HM.rd (i := 0) rfl) (qfj _) (by omega) (by omega) rfl (by decide) ?_
 clear HF HM; intro a w30 A30 c30 HF HM hc30
 rw [show (out.map B8) ++ (R.map B8) = (out ++ R).map B8 from by rw [List.map_append]] at HM
 refine fy HF HM 7 rfl rfl rfl (v := vP g 0) (Yl.nilCheck rfl rfl) fun a HF => ?_
 refine fp HF 1 8 [(32, vP g 1)] fun a HF => ?_
 refine fo HF 9 rfl rfl ?_
 refine qq HF HM (i := 1) rfl rfl rfl rfl (by kernel_rfl) rfl rfl (by simp) ?_
 clear HM; intro w6_9 HM
 refine qb rfl ?_
 have hnA30 : out.length + R.length = (out ++ R).length := by rw [List.length_append]
 replace HM := HM.reRow (i := 2) (ys := (out ++ R).map B8) rfl hnA30 (rfl)
 rw [hnA30] at hc30
 replace HF := HF.as (t := 30) (u := .slice A30 ((out ++ R).length) c30) rfl (by rw [hnA30])
 replace HM := HM.reBlk (i := 1) (ds := #[.int .i64 lim, .slice A30 (out ++ R).length c30]) rfl (by rw [hnA30]; rfl)
 refine wp_seq (qa ?_)
 refine fp HF 1 0 [(4, vI 0)] fun a HF => ?_
 refine qb rfl (wp_ret ?_)
 exact ret1 rfl HF (.tmp HF rfl) (qio (qnj hws (by omega) (by omega)) rfl hc30 (HM.picksT 3 [1, 2] (by decide) (by decide) rfl))
theorem qlk (W w : World) (g : Nat) (lim : Int) (A : Option Addr) (c : Nat) (out : List Nat) (fs : List Fact) (HW : Mem W w (.blk g #[.int .i64 lim, .slice A out.length c] 95 :: .row (.slice A out.length c) out.length (out.map B8) 5 1 :: fs)) (hc : out.length ≤ c) (hout : out.length ≤ 524288) (A2 : Option Addr) (c2 : Nat) (q : List Hb) (B : Nat) (hL : LaidX B w) (hBW : B ≤ W.heap.size) (hr : Rd w w.heap.size 5 A2 q.length (q.flatMap hbL)) (hQ : HbRd w q) (hok : ∀ h ∈ q, h.b.Ok) (hev : ∀ h ∈ q, h.b.evs.length ≤ 1000000) (hn : q.length ≤ 1000000) {o2 : List Nat} {we : Nat} (h : qa4 out (q.map Hb.b) = (o2, we)) :
  Calls Tryd.prog 40 #[.pointer (some ⟨g, 0, none⟩), .slice A2 q.length c2] w (WrIs W 95 g lim o2 fs (.int .i64 (we : Int))) := by
 have h1 := qkg W w g lim A c out fs HW hc hout A2 c2 q B hL hBW hr hQ hok hev hn
 rw [h] at h1
 exact h1
theorem qes (cpu : Nat) (hcpu : cpu < 256) (A : Option Addr) (n c : Nat) (l : List It) (opn limit : Int) (hok : ∀ x ∈ l, x.Ok) (ho : I64 opn) (hlm : I64 limit) (B : Nat) (w : World) (hL : LaidX B w) (hB : B ≤ w.heap.size) (hr : Rd w w.heap.size 12 A n (l.flatMap itL)) (hc : n ≤ c) (hln : l.length = n) (hn : n ≤ 1000000) {bs : List Bk} {ce : Nat} (h : cutS cpu l opn limit = (bs, ce)) :
  Calls Tryd.prog 12 #[.int .u8 (cpu : Int), .slice A n c, .int .i64 opn, .int .i64 limit] w (qjp 45 41 w ce bs) := by
 have h1 := qqr cpu hcpu A n c l opn limit hok ho hlm B w hL hB hr hc hln hn
 rw [h] at h1
 exact h1
theorem qqt (W w : World) (g : Nat) (lim : Int) (A : Option Addr) (c : Nat) (out : List Nat) (fs : List Fact) (HW : Mem W w (.blk g #[.int .i64 lim, .slice A out.length c] 95 :: .row (.slice A out.length c) out.length (out.map B8) 5 1 :: fs)) (hc : out.length ≤ c) (hout : out.length ≤ 524288) (hlim : lim ≠ 0) (next : Int) (hnx : I64 next) (B : Nat) (hL : LaidX B w) (hBW : B ≤ W.heap.size) :
    Calls Tryd.prog 15 #[.pointer (some ⟨g, 0, none⟩), .int .i64 next] w (WrIs W 95 g lim (qa4 out [endB next]).1 fs (.int .i64 ((qa4 out [endB next]).2 : Int))) := by
 have hg := HW.blk (i := 0) rfl
 have hB := Nat.le_trans hBW HW.size
 have hrA := HW.rd (i := 1) rfl
 refine qh (vs := [vP g 0, vI next]) Tryd.func15 rfl rfl (by kernel_rfl) (σ0 := [(0, vP g 0), (1, vI next)]) rfl ?_
 intro a HF
 have HM := Mem.start w
 refine wp_seq (qa ?_)
 refine fp HF 1 0 [(4, vI 0)] fun a HF => ?_
 refine qb rfl (wp_seq (wp_seq (qa ?_)))
 refine fp HF 1 0 [(5, vP g 0)] fun a HF => ?_
 refine fo HF 1 rfl rfl ?_
 refine e_is HF HM [vP g 0] (.bool false) rfl rfl (qgp g lim A out.length c _ (HM.oldBlk hg) hlim) fun w6 hbw HM a HF => ?_
 refine qb rfl ?_
 replace HM : Mem W _ (.blk g #[vI lim, .slice A out.length c] 95 :: .row (.slice A out.length c) out.length (out.map B8) 5 1 :: fs) := HW.join HM
 obtain ⟨o2, we, hww⟩ : ∃ o2 we, qa4 out [endB next] = (o2, we) := ⟨_, _, rfl⟩
 refine qe HF rfl (wp_skip (wp_seq (qa ?_)))
 refine fp HF 2 0 [(8, vI next), (7, vP g 0)] fun a HF => ?_
 refine fy HF HM 2 rfl rfl rfl (v := .agg #[vB 2, vB 0, vI 0, vI next, .slice none 0 0]) (Yl.build (vs := [(0, vB 2), (3, vI next)]) rfl (by kernel_rfl) (by kernel_rfl)) fun a HF => ?_
 refine fo HF 3 rfl rfl ?_
 refine zo HF HM (vs := [(0, .agg #[vB 2, vB 0, vI 0, vI next, .slice none 0 0])]) (cs := #[vB 2, vB 0, vI 0, vI next, .slice none 0 0]) rfl ql8 (by decide) rfl (by kernel_rfl) rfl (by decide) ?_
 clear HF HM; intro a w10 g10 HF HM
 refine fo HF 4 rfl rfl ?_
 refine e_cl HF [vP g 0, vS g10 1 1] rfl rfl (qlk W _ g lim A c out _ (HM.picksT 3 [1, 2, 0] (by decide) (by decide) rfl) hc hout _ 1 [⟨endB next, none, 0⟩] B (hL.mem2 HW HM hBW) hBW (HM.rdBlk (i := 0) (n := 1) (size := 5) rfl rfl) (by intro x hx; rw [List.mem_singleton] at hx; subst hx; exact Rd.nil) (by intro x hx; rw [List.mem_singleton] at hx; subst hx; exact qt1 hnx) (by intro x hx; rw [List.mem_singleton] at hx; subst hx; exact Nat.zero_le _) (by show 1 ≤ 1000000; decide) hww) ?_
 rintro _ w11 ⟨rfl, A11, c11, hc11, HM2⟩
 refine ⟨_, rfl, ?_⟩
 replace HM := HM2
 clear HF; intro a HF
 refine fp HF 1 5 [(4, vI we)] fun a HF => ?_
 refine qb rfl (wp_ret ?_)
 exact ret1 rfl HF (.tmp HF rfl) (qio hww rfl hc11 (HM.picksT 3 [0, 1] (by decide) (by decide) rfl))
theorem qgq (g : Nat) (lim : Int) (A : Option Addr) (c : Nat) (out : List Nat) (w : World) (hg : w.heap[g]? = some (.cells #[.int .i64 lim, .slice A out.length c] 95 (0, 0))) (hrA : Rd w w.heap.size 1 A out.length (out.map B8)) (hout : out.length ≤ 524288) (hlim : lim ≠ 0) :
    Calls Tryd.prog 16 #[.pointer (some ⟨g, 0, none⟩)] w (qaf w out) := by
 refine qh (vs := [vP g 0]) Tryd.func16 rfl rfl (by kernel_rfl) (σ0 := [(0, vP g 0)]) rfl ?_
 intro a HF
 have HM := Mem.start w
 refine wp_seq (qa ?_)
 refine fp HF 1 0 [(2, .slice none 0 0)] fun a HF => ?_
 refine qb rfl (wp_seq (wp_seq (qa ?_)))
 refine fp HF 1 0 [(3, vP g 0)] fun a HF => ?_
 refine fo HF 1 rfl rfl ?_
 refine e_is HF HM [vP g 0] (.bool false) rfl rfl (qgp g lim A out.length c _ (HM.oldBlk hg) hlim) fun w4 hbw HM a HF => ?_
 refine qb rfl (qe HF rfl (wp_skip (wp_seq (qa ?_))))
 refine fp HF 1 0 [(5, vP g 0)] fun a HF => ?_
 refine fy HF HM 1 rfl rfl rfl (v := vP g 0) (Yl.nilCheck rfl rfl) fun a HF => ?_
 refine fp HF 1 2 [(7, vP g 1)] fun a HF => ?_
 refine fy HF HM 3 rfl rfl rfl (v := .slice A out.length c) (Yl.qi rfl rfl (by kernel_rfl) (fun _ h => h.ze hg rfl)) fun a HF => ?_
 refine fo HF 4 rfl rfl ?_
 refine e_cl HF [.slice A out.length c] rfl rfl (qkf A c out _ (HM.old hrA) (by omega)) ?_
 rintro _ w9 ⟨⟨A9, c9, rfl, ho, hc9⟩, hbw⟩
 refine ⟨_, rfl, ?_⟩
 replace HM := HM.callRow hbw ho
 clear HF; intro a HF
 refine fp HF 1 5 [(2, .slice A9 out.length c9)] fun a HF => ?_
 refine qb rfl (wp_ret ?_)
 exact ret1 rfl HF (.tmp HF rfl) (⟨⟨_, _, rfl, HM.own (i := 0) rfl, hc9⟩, HM.below⟩)
theorem qqu (g : Nat) (lim : Int) (A : Option Addr) (c : Nat) (out : List Nat) (w : World) (hg : w.heap[g]? = some (.cells #[.int .i64 lim, .slice A out.length c] 95 (0, 0))) (hlim : lim ≠ 0) :
    Calls Tryd.prog 18 #[.pointer (some ⟨g, 0, none⟩)] w (Is w (.int .i64 (out.length : Int))) := by
 refine qh (vs := [vP g 0]) Tryd.func18 rfl rfl (by kernel_rfl) (σ0 := [(0, vP g 0)]) rfl ?_
 intro a HF
 have HM := Mem.start w
 refine wp_seq (qa ?_)
 refine fp HF 1 0 [(2, vI 0)] fun a HF => ?_
 refine qb rfl (wp_seq (wp_seq (qa ?_)))
 refine fp HF 1 0 [(3, vP g 0)] fun a HF => ?_
 refine fo HF 1 rfl rfl ?_
 refine e_is HF HM [vP g 0] (.bool false) rfl rfl (qgp g lim A out.length c _ (HM.oldBlk hg) hlim) fun w4 hbw HM a HF => ?_
 refine qb rfl (qe HF rfl (wp_skip (wp_seq (qa ?_))))
 refine fp HF 1 0 [(5, vP g 0)] fun a HF => ?_
 refine fy HF HM 1 rfl rfl rfl (v := vP g 0) (Yl.nilCheck rfl rfl) fun a HF => ?_
 refine fp HF 1 2 [(7, vP g 1)] fun a HF => ?_
 refine fy HF HM 3 rfl rfl rfl (v := .slice A out.length c) (Yl.qi rfl rfl (by kernel_rfl) (fun _ h => h.ze hg rfl)) fun a HF => ?_
 refine fy HF HM 4 rfl rfl rfl (Yl.len rfl rfl (by kernel_rfl)) fun a HF => ?_
 refine fp HF 1 5 [(2, vI out.length)] fun a HF => ?_
 refine qb rfl (wp_ret ?_)
 exact ret1 rfl HF (.tmp HF rfl) (⟨rfl, HM.below⟩)
def qvk (w : World) (l : List Nat) (r : Ending) (w' : World) : Prop := ∃ g A c, r = .returned (.pointer (some ⟨g, 0, none⟩)) ∧ l.length ≤ c ∧ Mem w w' [.blk g #[.bool true, .int .i64 0, .slice A l.length c] 108, .row (.slice A l.length c) l.length (l.map B8) 5 1]
theorem Mem.skip {W w : World} {f : Fact} {fs : List Fact} (h : Mem W w (f :: fs)) : Mem W w fs := h.tail
theorem qnw (A : Option Addr) (c : Nat) (l : List Nat) (w : World) (hr : Rd w w.heap.size 1 A l.length (l.map B8)) (hn : l.length ≤ 100000000) :
    Calls Tryd.prog 25 #[.slice A l.length c] w (qvk w l) := by
 refine qh (vs := [.slice A l.length c]) Tryd.func25 rfl rfl (by kernel_rfl) (σ0 := [(0, .slice A l.length c)]) rfl ?_
 intro a HF
 have HM := Mem.start w
 refine wp_seq (qa ?_)
 refine fp HF 1 0 [(2, .pointer none)] fun a HF => ?_
 refine qb rfl (wp_seq (qa ?_))
 refine fp HF 1 0 [(3, .slice A l.length c)] fun a HF => ?_
 refine fo HF 1 rfl rfl ?_
 refine e_cl HF [.slice A l.length c] rfl rfl (qkf A c l _ (HM.old hr) hn) ?_
 rintro _ w4 ⟨⟨A4, c4, rfl, ho, hc4⟩, hbw⟩
 refine ⟨_, rfl, ?_⟩
 replace HM := HM.callRow hbw ho
 clear HF; intro a HF
 refine fy HF HM 2 rfl rfl rfl (v := .agg #[.bool true, vI 0, .slice A4 l.length c4]) (Yl.build (vs := [(0, .bool true), (2, .slice A4 l.length c4)]) rfl (by kernel_rfl) (by kernel_rfl)) fun a HF => ?_
 refine fo HF 3 rfl rfl ?_
 refine e_box HF HM (cs := #[.bool true, vI 0, .slice A4 l.length c4]) rfl rfl rfl rfl (by decide) ?_
 clear HF HM; intro a w6 g6 HF HM
 refine fp HF 1 4 [(2, vP g6 0)] fun a HF => ?_
 refine qb rfl (wp_ret ?_)
 exact ret1 rfl HF (.tmp HF rfl) (⟨g6, A4, c4, rfl, hc4, HM⟩)
theorem qkh (g p : Nat) (A : Option Addr) (c : Nat) (l : List Nat) (w : World) (hg : w.heap[g]? = some (.cells #[.bool true, .int .i64 (p : Int), .slice A l.length c] 108 (0, 0))) :
    Calls Tryd.prog 27 #[.pointer (some ⟨g, 0, none⟩)] w (Is w (.int .i64 (p : Int))) := by
 refine qh (vs := [vP g 0]) Tryd.func27 rfl rfl (by kernel_rfl) (σ0 := [(0, vP g 0)]) rfl ?_
 intro a HF
 have HM := Mem.start w
 refine wp_seq (qa ?_)
 refine fp HF 1 0 [(2, vI 0)] fun a HF => ?_
 refine qb rfl (wp_seq (wp_seq (qa ?_)))
 refine fp HF 1 0 [(3, vP g 0)] fun a HF => ?_
 refine fy HF HM 1 rfl rfl rfl (v := .bool false) (Yl.qmo rfl rfl rfl) fun a HF => ?_
 refine qb rfl (qe HF rfl (wp_skip (wp_seq (qa ?_))))
 refine fp HF 1 0 [(5, vP g 0)] fun a HF => ?_
 refine fy HF HM 1 rfl rfl rfl (v := vP g 0) (Yl.nilCheck rfl rfl) fun a HF => ?_
 refine fp HF 1 2 [(7, vP g 1)] fun a HF => ?_
 refine fy HF HM 3 rfl rfl rfl (v := vI p) (Yl.qi rfl rfl (by kernel_rfl) (fun _ h => h.ze hg rfl)) fun a HF => ?_
 refine fp HF 1 4 [(2, vI p)] fun a HF => ?_
 refine qb rfl (wp_ret ?_)
 exact ret1 rfl HF (.tmp HF rfl) (⟨rfl, HM.below⟩)
theorem qnx (W w : World) (g p : Nat) (A : Option Addr) (c : Nat) (l : List Nat) (fs : List Fact) (HW : Mem W w (.blk g #[.bool true, .int .i64 (p : Int), .slice A l.length c] 108 :: .row (.slice A l.length c) l.length (l.map B8) 5 1 :: fs)) (hp : p ≤ l.length) (hc : l.length ≤ c) (hl : ∀ b ∈ l, b < 256) (hn : l.length ≤ 100000000) (B : Nat) (hL : LaidX B w) (hBW : B ≤ W.heap.size) :
    Calls Tryd.prog 26 #[.pointer (some ⟨g, 0, none⟩)] w (qs2 W 108 g p l A c fs (nextR l p)) := by
 have hg := HW.blk (i := 0) rfl
 have hrA := HW.rd (i := 1) rfl
 have hB := Nat.le_trans hBW HW.size
 refine qh (vs := [vP g 0]) Tryd.func26 rfl rfl (by kernel_rfl) (σ0 := [(0, vP g 0)]) rfl ?_
 intro a HF
 have HM := Mem.start w
 refine wp_seq (qa ?_)
 refine fo HF 0 rfl rfl ?_
 refine qp HF HM (cs := #[vB 0, vB 0, vI 0, vI 0, .slice none 0 0]) rfl (by kernel_rfl) rfl (by decide) ?_
 clear HF HM; intro a w2 g2 HF HM
 refine fp HF 1 1 [(3, vI 0)] fun a HF => ?_
 refine qb rfl (wp_seq (wp_seq (qa ?_)))
 refine fp HF 1 0 [(7, vP g 0)] fun a HF => ?_
 refine fy HF HM 1 rfl rfl rfl (v := .bool false) (Yl.qmo rfl rfl rfl) fun a HF => ?_
 refine fp HF 2 2 [(10, vP g 0), (9, .bool false)] fun a HF => ?_
 refine fy HF HM 4 rfl rfl rfl (v := vP g 0) (Yl.nilCheck rfl rfl) fun a HF => ?_
 refine fp HF 1 5 [(12, vP g 0)] fun a HF => ?_
 refine fy HF HM 6 rfl rfl rfl (v := .bool true) (Yl.qi rfl rfl (by kernel_rfl) (fun _ h => h.ze hg rfl)) fun a HF => ?_
 refine fp HF 2 7 [(15, .bool false)] fun a HF => ?_
 refine qb rfl (qe HF rfl (wp_skip (wp_seq (wp_seq ?_))))
 refine qae HM [.blk g2 #[vB 0, vB 0, vI 0, vI 0, .slice none 0 0] 41] [0] [] fun HM HS => ?_
 refine ap HF (fun _ => HS) [0, 4] #[true, false, false, false, true, false, false, false, false, false] [(21, vP g 0), (17, vP g 0)] fun a HF => ?_
 refine ay HF HS 1 rfl rfl rfl (v := vP g 0) (Yl.nilCheck rfl rfl) fun a HF => ?_
 refine ap HF (fun _ => HS) [2] #[true, true, true, false, true, false, false, false, false, false] [(19, vP g 1)] fun a HF => ?_
 refine ay HF HS 3 rfl rfl rfl (v := vI p) (Yl.qi rfl rfl (by kernel_rfl) (fun _ h => h.ze hg rfl)) fun a HF => ?_
 refine ay HF HS 5 rfl rfl rfl (v := vP g 0) (Yl.nilCheck rfl rfl) fun a HF => ?_
 refine ap HF (fun _ => HS) [6] #[true, true, true, true, true, true, true, false, false, false] [(23, vP g 2)] fun a HF => ?_
 refine ay HF HS 7 rfl rfl rfl (v := .slice A l.length c) (Yl.qi rfl rfl (by kernel_rfl) (fun _ h => h.ze hg rfl)) fun a HF => ?_
 refine ay HF HS 8 rfl rfl rfl (Yl.len rfl rfl (by kernel_rfl)) fun a HF => ?_
 refine ap HF (fun _ => HS) [9] #[true, true, true, true, true, true, true, true, true, true] [(26, .bool ((p : Int) == (l.length : Int)))] fun a HF => ?_
 refine qn (by kernel_rfl) ?_
 rcases HF.tf 26 rfl with ⟨hb26, HF⟩ | ⟨hb26, HF⟩
 ·
  have hd26 := eq_of_beq hb26
  have hpl : p = l.length := by omega
  have hz : nextR l p = (Bk.zero, 0, 6) := if_pos hpl
  refine qf HF rfl (wp_seq (qa ?_))
  refine fy HF HM 0 rfl rfl rfl (v := .agg #[vB 0, vB 0, vI 0, vI 0, .slice none 0 0]) (Yl.build (vs := []) rfl (by kernel_rfl) (by kernel_rfl)) fun a HF => ?_
  refine fo HF 1 rfl rfl ?_
  refine e_sa HF HM 0 rfl rfl rfl rfl rfl si_bk rfl rfl (by simp [Value.oneCell']) ?_
  clear HM; intro w4_1 HM
  refine fp HF 1 2 [(3, vI 6)] fun a HF => ?_
  refine qb rfl (wp_ret ?_)
  exact ret2 rfl HF (.cellS (i := 0) HF HM rfl rfl si_bk rfl) (.tmp HF rfl) (by have HM := HW.join HM; exact qj7 (b := Bk.zero) (A' := none) (c' := 0) hz rfl (Nat.le_refl _) (Mem.nil (Mem.skip HM) _ _))
 have hd26 := ne_of_beq_false hb26
 have hpl : p ≠ l.length := by omega
 obtain ⟨b, m, er, hq⟩ : ∃ b m er, readB (l.drop p) = (b, m, er) := ⟨_, _, _, rfl⟩
 have hz : nextR l p = (b, m, er) := (if_neg hpl).trans hq
 have hpm := qqf hl hp hz
 refine qe HF rfl (wp_skip ?_)
 refine qay (fun aS wS => ∃ (A38 : Option Addr) (c38 : Nat) (g4 : Nat), Fr aS 52 [] [(6, vI er), (5, vI m), (4, vP g4 0), (26, .bool false), (15, .bool false), (3, vI 0), (2, vP g2 0), (0, vP g 0)] ∧ Mem w wS [.blk g4 (b.cells A38 c38) 41, .row (.slice A38 b.evs.length c38) b.evs.length (b.evs.flatMap evL) 45 11, .blk g2 #[vB 0, vB 0, vI 0, vI 0, .slice none 0 0] 41] ∧ (b.evs.length ≤ c38)) ?_ ?_
 ·
  refine qae HM [.blk g2 #[vB 0, vB 0, vI 0, vI 0, .slice none 0 0] 41] [0] [15] fun HM HS => ?_
  refine ap HF (fun _ => HS) [0, 4] #[true, false, false, false, true, false, false, false, false, false, false, false, false, false, false, false, false, false] [(33, vP g 0), (29, vP g 0)] fun a HF => ?_
  refine ay HF HS 1 rfl rfl rfl (v := vP g 0) (Yl.nilCheck rfl rfl) fun a HF => ?_
  refine ap HF (fun _ => HS) [2] #[true, true, true, false, true, false, false, false, false, false, false, false, false, false, false, false, false, false] [(31, vP g 2)] fun a HF => ?_
  refine ay HF HS 3 rfl rfl rfl (v := .slice A l.length c) (Yl.qi rfl rfl (by kernel_rfl) (fun _ h => h.ze hg rfl)) fun a HF => ?_
  refine ay HF HS 5 rfl rfl rfl (v := vP g 0) (Yl.nilCheck rfl rfl) fun a HF => ?_
  refine ap HF (fun _ => HS) [6] #[true, true, true, true, true, true, true, false, false, false, false, false, false, false, false, false, false, false] [(35, vP g 1)] fun a HF => ?_
  refine ay HF HS 7 rfl rfl rfl (v := vI p) (Yl.qi rfl rfl (by kernel_rfl) (fun _ h => h.ze hg rfl)) fun a HF => ?_
  refine ay HF HS 8 rfl rfl rfl (v := .slice (if c = p then A else A.map (·.add (p * 1))) (l.length - p) (c - p)) (Yl.sliceFrom ei_u8 (j := p) rfl rfl rfl (by omega)) fun a HF => ?_
  refine qg [9, 14] (by kernel_rfl) rfl ?_
  refine all_cons ?_ ?_
  ·refine qj HF (i := 9) rfl rfl ?_
   refine e_cl HF [.slice (if c = p then A else A.map (·.add (p * 1))) (l.length - p) (c - p)] rfl rfl (qig (if c = p then A else A.map (·.add (p * 1))) (l.length - p) (c - p) (l.drop p) B _ (hL.mem HM hB) (HM.le hB) (HM.old (hrA.qmm hp hc)) (by omega) (by rw [List.length_drop]) (by omega) (qa0 hl p) hq) ?_
   rintro _ w38 ⟨⟨A38, c38, rfl, ho, hc38⟩, hbw⟩
   refine ⟨_, rfl, ?_⟩
   replace HM := HM.callRow hbw ho
   clear HF; intro a HF
   refine keepS (HM.picks [1] (by decide) rfl) (fun HS => ?_)
   refine ap HF (fun _ => HS) [10, 11, 12, 13] #[true, true, true, true, true, true, true, true, true, true, true, true, true, true, false, false, false, false] [(41, vI er), (40, vI m), (39, .agg (b.cells A38 c38))] fun a HF => ?_
   refine qg [14] (by kernel_rfl) rfl ?_
   refine all_cons ?_ all_nil
   refine qj HF (i := 14) rfl rfl ?_
   refine qp HF HM (cs := #[vB 0, vB 0, vI 0, vI 0, .slice none 0 0]) rfl (by kernel_rfl) rfl (by decide) ?_
   clear HF HM; intro a w4 g4 HF HM
   refine keepS (HM.picks [2] (by decide) rfl) (fun HS => ?_)
   refine qg [15] (by kernel_rfl) rfl ?_
   refine all_cons ?_ all_nil
   refine qj HF (i := 15) rfl rfl ?_
   refine e_sa HF HM 0 rfl rfl rfl rfl rfl si_bk rfl rfl (qb4 _ _ _) ?_
   clear HM; intro w5_15 HM
   refine noS (by kernel_rfl) ?_
   refine ap HF (pastS (by kernel_rfl)) [16, 17] #[true, true, true, true, true, true, true, true, true, true, true, true, true, true, true, true, true, true] [(6, vI er), (5, vI m)] fun a HF => ?_
   refine qn (by kernel_rfl) ?_
   exact ⟨A38, c38, g4, HF.sub (by kernel_rfl), HM.picks [0, 1, 2] (by decide) rfl, hc38⟩
  refine all_cons ?_ all_nil
  refine qj HF (i := 14) rfl rfl ?_
  refine qp HF HM (cs := #[vB 0, vB 0, vI 0, vI 0, .slice none 0 0]) rfl (by kernel_rfl) rfl (by decide) ?_
  clear HF HM; intro a w4 g4 HF HM
  refine keepS (HM.picks [1] (by decide) rfl) (fun HS => ?_)
  refine qg [9] (by kernel_rfl) rfl ?_
  refine all_cons ?_ all_nil
  refine qj HF (i := 9) rfl rfl ?_
  refine e_cl HF [.slice (if c = p then A else A.map (·.add (p * 1))) (l.length - p) (c - p)] rfl rfl (qig (if c = p then A else A.map (·.add (p * 1))) (l.length - p) (c - p) (l.drop p) B _ (hL.mem HM hB) (HM.le hB) (HM.old (hrA.qmm hp hc)) (by omega) (by rw [List.length_drop]) (by omega) (qa0 hl p) hq) ?_
  rintro _ w38 ⟨⟨A38, c38, rfl, ho, hc38⟩, hbw⟩
  refine ⟨_, rfl, ?_⟩
  replace HM := HM.callRow hbw ho
  clear HF; intro a HF
  refine keepS (HM.picks [2] (by decide) rfl) (fun HS => ?_)
  refine ap HF (fun _ => HS) [10, 11, 12, 13] #[true, true, true, true, true, true, true, true, true, true, true, true, true, true, true, false, false, false] [(41, vI er), (40, vI m), (39, .agg (b.cells A38 c38))] fun a HF => ?_
  refine qg [15] (by kernel_rfl) rfl ?_
  refine all_cons ?_ all_nil
  refine qj HF (i := 15) rfl rfl ?_
  refine e_sa HF HM 1 rfl rfl rfl rfl rfl si_bk rfl rfl (qb4 _ _ _) ?_
  clear HM; intro w5_15 HM
  refine noS (by kernel_rfl) ?_
  refine ap HF (pastS (by kernel_rfl)) [16, 17] #[true, true, true, true, true, true, true, true, true, true, true, true, true, true, true, true, true, true] [(6, vI er), (5, vI m)] fun a HF => ?_
  refine qn (by kernel_rfl) ?_
  exact ⟨A38, c38, g4, HF.sub (by kernel_rfl), HM.picks [1, 0, 2] (by decide) rfl, hc38⟩
 clear HF HM; rintro a w5 ⟨A38, c38, g4, HF, HM, hc38⟩
 skip
 ·
  replace HM : Mem W _ (.blk g4 (b.cells A38 c38) 41 :: .row (.slice A38 b.evs.length c38) b.evs.length (b.evs.flatMap evL) 45 11 :: .blk g2 #[vB 0, vB 0, vI 0, vI 0, .slice none 0 0] 41 :: .blk g #[.bool true, vI p, .slice A l.length c] 108 :: .row (.slice A l.length c) l.length (l.map B8) 5 1 :: fs) := HW.join HM
  refine wp_seq (qa ?_)
  refine fp HF 1 0 [(42, vP g 0)] fun a HF => ?_
  refine fy HF HM 1 rfl rfl rfl (v := vP g 0) (Yl.nilCheck rfl rfl) fun a HF => ?_
  refine fp HF 1 2 [(44, vP g 1)] fun a HF => ?_
  refine fy HF HM 3 rfl rfl rfl (Yl.qi rfl rfl (by kernel_rfl) (fun _ h => h.cell (i := 3) rfl rfl)) fun a HF => ?_
  refine fp HF 2 4 [(47, vI (IntKind.i64.wrap ((p : Int) + (m : Int))))] fun a HF => ?_
  replace HF := HF.sp 47 (vI (p + m : Nat)) rfl (ql (by omega) (by omega))
  refine fy HF HM 6 rfl rfl rfl (v := vP g 0) (Yl.nilCheck rfl rfl) fun a HF => ?_
  refine fp HF 1 7 [(49, vP g 1)] fun a HF => ?_
  refine fo HF 8 rfl rfl ?_
  refine qq HF HM (i := 3) rfl rfl rfl rfl (by kernel_rfl) rfl rfl (by simp) ?_
  clear HM; intro w6_8 HM
  refine qb rfl (wp_seq (qa ?_))
  refine fy HF HM 0 rfl rfl rfl (v := .agg (b.cells A38 c38)) (Yl.zg rfl rfl si_bk rfl (fun _ h => qd (h.blk (i := 0) rfl))) fun a HF => ?_
  refine fp HF 1 1 [(51, vI er)] fun a HF => ?_
  refine fo HF 2 rfl rfl ?_
  refine e_sa HF HM 2 rfl rfl rfl rfl rfl si_bk rfl rfl (qb4 _ _ _) ?_
  clear HM; intro w7_2 HM
  refine fp HF 1 3 [(3, vI er)] fun a HF => ?_
  refine qb rfl (wp_ret ?_)
  exact ret2 rfl HF (.cellS (i := 2) HF HM rfl rfl si_bk rfl) (.tmp HF rfl) (qj7 hz rfl hc38 (HM.picksT 5 [1, 3, 4] (by decide) (by decide) rfl))
theorem qsg (lim : Int) (w : World) (h : 1 ≤ lim ∧ lim ≤ 4096) : Calls Tryd.prog 14 #[.int .i64 lim] w fun r w' => ∃ g, r = .returned (.tuple #[.pointer (some ⟨g, 0, none⟩), .int .i64 0]) ∧ Mem w w' [.blk g #[.int .i64 lim, .slice none 0 0] 95] :=
 (qqs lim (by unfold I64; omega) w).mono fun r w' h1 => by
  rcases h1 with ⟨h2, _⟩ | ⟨_, h2⟩
  ·omega
  ·exact h2
theorem qmi (W w : World) (g : Nat) (lim : Int) (A : Option Addr) (c : Nat) (out : List Nat) (fs : List Fact) (HW : Mem W w (.blk g #[.int .i64 lim, .slice A out.length c] 95 :: .row (.slice A out.length c) out.length (out.map B8) 5 1 :: fs)) (hc : out.length ≤ c) (hout : out.length ≤ 524288) (hlim : lim ≠ 0) (next : Int) (hnx : I64 next) (B : Nat) (hL : LaidX B w) (hBW : B ≤ W.heap.size) {o2 : List Nat} {we : Nat} (h : qa4 out [endB next] = (o2, we)) :
  Calls Tryd.prog 15 #[.pointer (some ⟨g, 0, none⟩), .int .i64 next] w (WrIs W 95 g lim o2 fs (.int .i64 (we : Int))) := by
 have h1 := qqt W w g lim A c out fs HW hc hout hlim next hnx B hL hBW
 rw [h] at h1
 exact h1
theorem qsh (g : Nat) (lim : Int) (A : Option Addr) (c : Nat) (out : List Nat) (w : World) (hg : w.heap[g]? = some (.cells #[.int .i64 lim, .slice A out.length c] 95 (0, 0))) (hlim : lim ≠ 0) {n : Nat} (h : out.length = n) :
  Calls Tryd.prog 18 #[.pointer (some ⟨g, 0, none⟩)] w (Is w (.int .i64 (n : Int))) := by
 have h1 := qqu g lim A c out w hg hlim
 rw [h] at h1
 exact h1
theorem qki (W w : World) (g p : Nat) (A : Option Addr) (c : Nat) (l : List Nat) (fs : List Fact) (HW : Mem W w (.blk g #[.bool true, .int .i64 (p : Int), .slice A l.length c] 108 :: .row (.slice A l.length c) l.length (l.map B8) 5 1 :: fs)) (hp : p ≤ l.length) (hc : l.length ≤ c) (hl : ∀ b ∈ l, b < 256) (hn : l.length ≤ 100000000) (B : Nat) (hL : LaidX B w) (hBW : B ≤ W.heap.size) {b : Bk} {m er : Nat} (h : nextR l p = (b, m, er)) {p2 : Nat} (h2 : p + m = p2 := by rfl) :
  Calls Tryd.prog 26 #[.pointer (some ⟨g, 0, none⟩)] w fun r w' => ∃ A' c', r = .returned (.tuple #[.agg (b.cells A' c'), .int .i64 (er : Int)]) ∧ b.evs.length ≤ c' ∧ Mem W w' (.row (.slice A' b.evs.length c') b.evs.length (b.evs.flatMap evL) 45 11 :: .blk g #[.bool true, .int .i64 ((p2 : Nat) : Int), .slice A l.length c] 108 :: .row (.slice A l.length c) l.length (l.map B8) 5 1 :: fs) := by
 have h1 := qnx W w g p A c l fs HW hp hc hl hn B hL hBW
 subst h2
 rw [h] at h1
 exact h1
theorem qvl (A : Option Addr) (n c : Nat) (l : List Nat) (B : Nat) (w : World) (hL : LaidX B w) (hB : B ≤ w.heap.size) (hr : Rd w w.heap.size 1 A n (l.map B8)) (hc : n ≤ c) (hl : ∀ b ∈ l, b < 256) (hln : l.length = n) (hn : n ≤ 100000000) {bs : List Bk} {p er : Nat} (h : qfm l = (bs, p, er)) :
  Calls Tryd.prog 22 #[.slice A n c] w (Is w (.tuple #[.int .i64 (bs.length : Int), .int .i64 (p : Int), .int .i64 (er : Int)])) := by
 subst hln
 have h1 := qud A c l B w hL hB hr hc hl hn
 rw [h] at h1
 exact h1
theorem qet (w : World) : Calls Tryd.prog 32 #[] w fun r w' => ∃ g, r = .returned (.slice (some ⟨g, 0, none⟩) 2 2) ∧ w'.ownsRow w.heap.size 47 12 (.slice (some ⟨g, 0, none⟩) 2 2) 2 (exI.flatMap itL) ∧ Below w.heap.size w w' := by
 refine qh (vs := []) Tryd.func32 rfl rfl (by kernel_rfl) (σ0 := []) rfl ?_
 intro a HF
 have HM := Mem.start w
 refine wp_seq (qa ?_)
 refine fp HF 1 0 [(0, .slice none 0 0)] fun a HF => ?_
 refine qb rfl (wp_seq (qa ?_))
 refine fy HF HM 0 rfl rfl rfl (v := .agg #[vI 5, vI 340, vB 2, vB 5, vI 0, vI 0, vI 0, vI 0, vI 40, vQ 0, vI 7]) (Yl.build (vs := [(0, vI 5), (1, vI 340), (2, vB 2), (3, vB 5), (8, vI 40), (10, vI 7)]) rfl (by kernel_rfl) (by kernel_rfl)) fun a HF => ?_
 refine fy HF HM 1 rfl rfl rfl (v := .agg #[vI 5, vI 340, vB 2, vB 5, vI 0, vI 0, vI 0, vI 0, vI 40, vQ 0, vI 7, vI 3]) (Yl.build (vs := [(0, .agg #[vI 5, vI 340, vB 2, vB 5, vI 0, vI 0, vI 0, vI 0, vI 40, vQ 0, vI 7]), (1, vI 3)]) rfl (by kernel_rfl) (by kernel_rfl)) fun a HF => ?_
 refine fy HF HM 2 rfl rfl rfl (v := .agg #[vI 9, vI 340, vB 2, vB 6, vI 0, vI 0, vI 0, vI 0, vI 0, vQ 0, vI 0]) (Yl.build (vs := [(0, vI 9), (1, vI 340), (2, vB 2), (3, vB 6)]) rfl (by kernel_rfl) (by kernel_rfl)) fun a HF => ?_
 refine fy HF HM 3 rfl rfl rfl (v := .agg #[vI 9, vI 340, vB 2, vB 6, vI 0, vI 0, vI 0, vI 0, vI 0, vQ 0, vI 0, vI 0]) (Yl.build (vs := [(0, .agg #[vI 9, vI 340, vB 2, vB 6, vI 0, vI 0, vI 0, vI 0, vI 0, vQ 0, vI 0])]) rfl (by kernel_rfl) (by kernel_rfl)) fun a HF => ?_
 refine fo HF 4 rfl rfl ?_
 refine zo HF HM (vs := [(0, .agg #[vI 5, vI 340, vB 2, vB 5, vI 0, vI 0, vI 0, vI 0, vI 40, vQ 0, vI 7, vI 3]), (1, .agg #[vI 9, vI 340, vB 2, vB 6, vI 0, vI 0, vI 0, vI 0, vI 0, vQ 0, vI 0, vI 0])]) (cs := #[vI 5, vI 340, vB 2, vB 5, vI 0, vI 0, vI 0, vI 0, vI 40, vQ 0, vI 7, vI 3, vI 9, vI 340, vB 2, vB 6, vI 0, vI 0, vI 0, vI 0, vI 0, vQ 0, vI 0, vI 0]) rfl ei_it (by decide) rfl (by kernel_rfl) rfl (by decide) ?_
 clear HF HM; intro a w5 g5 HF HM
 refine fp HF 1 5 [(0, vS g5 2 2)] fun a HF => ?_
 refine qb rfl (wp_ret ?_)
 exact ret1 rfl HF (.tmp HF rfl) (⟨g5, rfl, (HM.blkRow (i := 0) (n := 2) (size := 12) rfl rfl (by decide)).own (i := 0) rfl, HM.below⟩)
theorem qny (B : Nat) (w : World) (hL : LaidX B w) (hB : B ≤ w.heap.size) : Calls Tryd.prog 10 #[] w (Is w (.bool true)) := by
 refine qh (vs := []) Tryd.func10 rfl rfl (by kernel_rfl) (σ0 := []) rfl ?_
 intro a HF
 have HM := Mem.start w
 refine wp_seq (qa ?_)
 refine fp HF 1 0 [(0, .bool false)] fun a HF => ?_
 refine qb rfl (wp_seq (qa ?_))
 refine fo HF 0 rfl rfl ?_
 refine e_cl HF [] rfl rfl (qet _) ?_
 rintro _ w20 ⟨g20, rfl, ho, hbw⟩
 refine ⟨_, rfl, ?_⟩
 replace HM := HM.callRow hbw ho
 clear HF; intro a HF
 refine fo HF 1 rfl rfl ?_
 refine e_cl HF [vB 2, vS g20 2 2, vI 2, vI 1] rfl rfl (qes 2 (by decide) (some ⟨g20, 0, none⟩) 2 2 exI 2 1 qs5 (by unfold I64; decide) (by unfold I64; decide) B _ (hL.mem HM hB) (HM.le hB) (HM.rd (i := 0) rfl) (by decide) rfl (by decide) sa1) ?_
 rintro _ w21 ⟨A21, c21, q21, rfl, hq21, hc21, hm⟩
 obtain ⟨x1, x2, rfl, hex1, hex2⟩ := map2 hq21
 refine ⟨_, rfl, ?_⟩
 replace HM := HM.callRow hm.below (hm.own (i := 0) rfl)
 clear HF; intro a HF
 refine fp HF 5 2 [(2, vI 0), (1, .slice A21 2 c21)] fun a HF => ?_
 refine qb rfl (wp_seq (qa ?_))
 refine fo HF 0 rfl rfl ?_
 refine e_cl HF [] rfl rfl (qet _) ?_
 rintro _ w25 ⟨g25, rfl, ho, hbw⟩
 refine ⟨_, rfl, ?_⟩
 replace HM := HM.callRow hbw ho
 clear HF; intro a HF
 refine fo HF 1 rfl rfl ?_
 refine e_cl HF [vB 2, vS g25 2 2, vI 2, vI 2] rfl rfl (qes 2 (by decide) (some ⟨g25, 0, none⟩) 2 2 exI 2 2 qs5 (by unfold I64; decide) (by unfold I64; decide) B _ (hL.mem HM hB) (HM.le hB) (HM.rd (i := 0) rfl) (by decide) rfl (by decide) sa2) ?_
 rintro _ w26 ⟨A26, c26, q26, rfl, hq26, hc26, hm⟩
 obtain ⟨x3, rfl, hex3⟩ := map1 hq26
 refine ⟨_, rfl, ?_⟩
 replace HM := HM.callRow hm.below (hm.own (i := 0) rfl)
 clear HF; intro a HF
 refine fp HF 5 2 [(4, vI 0), (3, .slice A26 1 c26)] fun a HF => ?_
 refine qb rfl (wp_seq (qa ?_))
 refine fo HF 0 rfl rfl ?_
 refine e_cl HF [vB 2, .slice none 0 0, vI 0, vI 1] rfl rfl (qes 2 (by decide) none 0 0 [] 0 1 (by intro x hx; cases hx) (by unfold I64; decide) (by unfold I64; decide) B _ (hL.mem HM hB) (HM.le hB) (Rd.nil) (by decide) rfl (by decide) sa3) ?_
 rintro _ w30 ⟨A30, c30, q30, rfl, hq30, hc30, hm⟩
 obtain rfl := List.map_eq_nil_iff.1 hq30
 refine ⟨_, rfl, ?_⟩
 replace HM := HM.callRow hm.below (hm.own (i := 0) rfl)
 clear HF; intro a HF
 refine fp HF 5 1 [(6, vI 0), (5, .slice A30 0 c30)] fun a HF => ?_
 refine qb rfl (wp_seq (qa ?_))
 refine fo HF 0 rfl rfl ?_
 refine e_cl HF [vB 2, .slice none 0 0, vI 2, vI 1] rfl rfl (qes 2 (by decide) none 0 0 [] 2 1 (by intro x hx; cases hx) (by unfold I64; decide) (by unfold I64; decide) B _ (hL.mem HM hB) (HM.le hB) (Rd.nil) (by decide) rfl (by decide) sa4) ?_
 rintro _ w34 ⟨A34, c34, q34, rfl, hq34, hc34, hm⟩
 obtain ⟨x4, rfl, hex4⟩ := map1 hq34
 refine ⟨_, rfl, ?_⟩
 replace HM := HM.callRow hm.below (hm.own (i := 0) rfl)
 clear HF; intro a HF
 refine fp HF 5 1 [(8, vI 0), (7, .slice A34 1 c34)] fun a HF => ?_
 refine qb rfl (wp_seq (wp_seq (qa ?_)))
 refine fp HF 10 0 [(46, .slice A21 2 c21), (45, .bool false)] fun a HF => ?_
 refine fy HF HM 10 rfl rfl rfl (Yl.len rfl rfl (by kernel_rfl)) fun a HF => ?_
 refine fp HF 4 11 [(51, .slice A21 2 c21), (50, .bool false)] fun a HF => ?_
 obtain ⟨gA21, rfl⟩ := qbp (HM.own (i := 4) rfl) (Nat.lt_of_le_of_lt (Nat.zero_le _) (show 0 < 2 from by decide))
 refine fy HF HM 15 rfl rfl rfl (v := vP gA21 0) (Yl.indexAddr (ad := ⟨gA21, 0, none⟩) (y := 0) (sz := 5) rfl rfl rfl (by decide) (by kernel_rfl)) fun a HF => ?_
 refine fp HF 1 16 [(53, vP gA21 2)] fun a HF => ?_
 refine fy HF HM 17 rfl rfl rfl (v := vI x1.b.lost) (Yl.qi rfl rfl (by kernel_rfl) (fun _ h => h.qdg qd4 (i := 4) rfl (k := 0) (off := 2) (x := x1) (rfl) rfl)) fun a HF => ?_
 replace HF := HF.sp 54 (vI 3) rfl (by rw [hex1])
 refine fp HF 4 18 [(58, vS gA21 2 c21), (57, .bool false)] fun a HF => ?_
 refine fy HF HM 22 rfl rfl rfl (v := vP gA21 5) (Yl.indexAddr (ad := ⟨gA21, 0, none⟩) (y := 1) (sz := 5) rfl rfl rfl (by decide) (by kernel_rfl)) fun a HF => ?_
 refine fp HF 1 23 [(60, vP gA21 7)] fun a HF => ?_
 refine fy HF HM 24 rfl rfl rfl (v := vI x2.b.lost) (Yl.qi rfl rfl (by kernel_rfl) (fun _ h => h.qdg qd4 (i := 4) rfl (k := 1) (off := 2) (x := x2) (rfl) rfl)) fun a HF => ?_
 replace HF := HF.sp 61 (vI 2) rfl (by rw [hex2])
 refine fp HF 4 25 [(65, .slice A26 1 c26), (64, .bool false)] fun a HF => ?_
 refine fy HF HM 29 rfl rfl rfl (Yl.len rfl rfl (by kernel_rfl)) fun a HF => ?_
 refine fp HF 4 30 [(70, .slice A26 1 c26), (69, .bool false)] fun a HF => ?_
 obtain ⟨gA26, rfl⟩ := qbp (HM.own (i := 2) rfl) (Nat.lt_of_le_of_lt (Nat.zero_le _) (show 0 < 1 from by decide))
 refine fy HF HM 34 rfl rfl rfl (v := vP gA26 0) (Yl.indexAddr (ad := ⟨gA26, 0, none⟩) (y := 0) (sz := 5) rfl rfl rfl (by decide) (by kernel_rfl)) fun a HF => ?_
 refine fp HF 1 35 [(72, vP gA26 2)] fun a HF => ?_
 refine fy HF HM 36 rfl rfl rfl (v := vI x3.b.lost) (Yl.qi rfl rfl (by kernel_rfl) (fun _ h => h.qdg qd4 (i := 2) rfl (k := 0) (off := 2) (x := x3) (rfl) rfl)) fun a HF => ?_
 replace HF := HF.sp 73 (vI 5) rfl (by rw [hex3])
 refine fp HF 4 37 [(77, vS gA26 1 c26), (76, .bool false)] fun a HF => ?_
 refine fy HF HM 41 rfl rfl rfl (v := vP gA26 0) (Yl.indexAddr (ad := ⟨gA26, 0, none⟩) (y := 0) (sz := 5) rfl rfl rfl (by decide) (by kernel_rfl)) fun a HF => ?_
 refine fp HF 1 42 [(79, vP gA26 4)] fun a HF => ?_
 refine fy HF HM 43 rfl rfl rfl (v := .slice x3.A x3.b.evs.length x3.c) (Yl.qi rfl rfl (by kernel_rfl) (fun _ h => h.qdg qd4 (i := 2) rfl (k := 0) (off := 4) (x := x3) (rfl) rfl)) fun a HF => ?_
 replace HF := HF.sp 80 (.slice x3.A 2 x3.c) rfl (by rw [hex3]; rfl)
 refine fy HF HM 44 rfl rfl rfl (Yl.len rfl rfl (by kernel_rfl)) fun a HF => ?_
 refine fp HF 4 45 [(85, .slice A30 0 c30), (84, .bool false)] fun a HF => ?_
 refine fy HF HM 49 rfl rfl rfl (Yl.len rfl rfl (by kernel_rfl)) fun a HF => ?_
 refine fp HF 4 50 [(90, .slice A34 1 c34), (89, .bool false)] fun a HF => ?_
 refine fy HF HM 54 rfl rfl rfl (Yl.len rfl rfl (by kernel_rfl)) fun a HF => ?_
 refine fp HF 4 55 [(95, .slice A34 1 c34), (94, .bool false)] fun a HF => ?_
 obtain ⟨gA34, rfl⟩ := qbp (HM.own (i := 0) rfl) (Nat.lt_of_le_of_lt (Nat.zero_le _) (show 0 < 1 from by decide))
 refine fy HF HM 59 rfl rfl rfl (v := vP gA34 0) (Yl.indexAddr (ad := ⟨gA34, 0, none⟩) (y := 0) (sz := 5) rfl rfl rfl (by decide) (by kernel_rfl)) fun a HF => ?_
 refine fp HF 1 60 [(97, vP gA34 2)] fun a HF => ?_
 refine fy HF HM 61 rfl rfl rfl (v := vI x4.b.lost) (Yl.qi rfl rfl (by kernel_rfl) (fun _ h => h.qdg qd4 (i := 0) rfl (k := 0) (off := 2) (x := x4) (rfl) rfl)) fun a HF => ?_
 replace HF := HF.sp 98 (vI 2) rfl (by rw [hex4])
 refine fp HF 2 62 [(100, .bool false)] fun a HF => ?_
 refine qb rfl ?_
 replace HF := HF.to [(100, .bool false), (0, .bool false)]
 refine qe HF rfl (wp_skip (wp_seq (qa ?_)))
 refine fo HF 0 rfl rfl ?_
 refine e_cl HF [vI 9] rfl rfl (qsg 9 _ (by decide)) ?_
 rintro _ w102 ⟨gw102, rfl, hm⟩
 refine ⟨_, rfl, ?_⟩
 replace HM := (HM.join hm).nil 5 1
 clear HF; intro a HF
 refine fp HF 5 1 [(10, vI 0), (9, vP gw102 0)] fun a HF => ?_
 refine qb rfl (wp_seq (wp_seq (qa ?_)))
 refine fp HF 4 0 [(108, vP gw102 0), (107, .bool false)] fun a HF => ?_
 refine fy HF HM 4 rfl rfl rfl (v := .bool false) (Yl.qmo rfl rfl rfl) fun a HF => ?_
 refine fp HF 3 5 [(112, vP gw102 0), (111, .bool false)] fun a HF => ?_
 refine fo HF 8 rfl rfl ?_
 refine e_cl HF [vP gw102 0, vI 0] rfl rfl (qmi (o2 := []) (we := 107) _ _ gw102 9 none 0 [] _ (HM.picks [1, 0, 2, 3, 4, 5, 6, 7] (by decide) rfl) (by first | exact Nat.le_refl _ | omega | exact Nat.zero_le _) (by first | decide | omega) (by decide) 0 (by unfold I64; decide) B (hL.mem HM hB) hB sa5) ?_
 rintro _ w113 ⟨rfl, A113, c113, hc113, HM2⟩
 refine ⟨_, rfl, ?_⟩
 replace HM := HM2
 clear HF; intro a HF
 refine fp HF 4 9 [(117, vP gw102 0), (116, .bool false)] fun a HF => ?_
 refine fo HF 13 rfl rfl ?_
 refine e_cl HF [vP gw102 0, vI 7] rfl rfl (qmi (o2 := awX) (we := 0) _ _ gw102 9 A113 c113 [] _ (HM.picks [0, 1, 2, 3, 4, 5, 6, 7] (by decide) rfl) (by first | exact Nat.le_refl _ | omega | exact Nat.zero_le _) (by first | decide | omega) (by decide) 7 (by unfold I64; decide) B (hL.mem HM hB) hB sa6) ?_
 rintro _ w118 ⟨rfl, A118, c118, hc118, HM2⟩
 refine ⟨_, rfl, ?_⟩
 replace HM := HM2
 clear HF; intro a HF
 refine fp HF 4 14 [(122, vP gw102 0), (121, .bool false)] fun a HF => ?_
 refine fo HF 18 rfl rfl ?_
 refine e_cl HF [vP gw102 0] rfl rfl (qsh gw102 9 A118 c118 awX _ (HM.blk (i := 0) rfl) (by decide) rfl) ?_
 rintro _ w123 ⟨rfl, hbw⟩
 refine ⟨_, rfl, ?_⟩
 replace HM := HM.call hbw
 clear HF; intro a HF
 refine fp HF 2 19 [(125, .bool false)] fun a HF => ?_
 refine qb rfl (qe HF rfl (wp_skip (wp_seq (qa ?_))))
 refine fp HF 1 0 [(127, vP gw102 0)] fun a HF => ?_
 refine fo HF 1 rfl rfl ?_
 refine e_cl HF [vP gw102 0] rfl rfl (qgq gw102 9 A118 c118 awX _ (HM.blk (i := 0) rfl) (HM.rd (i := 1) rfl) (by first | decide | omega) (by decide)) ?_
 rintro _ w128 ⟨⟨A128, c128, rfl, ho, hc128⟩, hbw⟩
 refine ⟨_, rfl, ?_⟩
 replace HM := HM.callRow hbw ho
 clear HF; intro a HF
 refine fo HF 2 rfl rfl ?_
 refine zo HF HM (vs := [(0, vB 1)]) (cs := #[vB 1]) rfl ei_u8 (by decide) rfl (by kernel_rfl) rfl (by decide) ?_
 clear HF HM; intro a w129 g129 HF HM
 refine fo HF 3 rfl rfl ?_
 refine zh HF HM (i := 1) rfl ei_u8 rfl rfl rfl (news := ([1].map B8)) (HM.rdBlk (i := 0) (n := 1) (size := 1) rfl rfl) (qfj _) (by decide) (by decide) rfl (by decide) ?_
 clear HF HM; intro a w130 A130 c130 HF HM hc130
 rw [show (awX.map B8) ++ ([1].map B8) = (awX ++ [1]).map B8 from by rw [List.map_append]] at HM
 refine fo HF 4 rfl rfl ?_
 refine e_is HF HM [.slice A130 14 c130] (.tuple #[vI 1, vI 13, vI 100]) rfl rfl (qvl A130 14 c130 (awX ++ [1]) B _ (hL.mem HM hB) (HM.le hB) (HM.rd (i := 1) rfl) hc130 quf rfl (by decide) sa7) fun w131 hbw HM a HF => ?_
 refine fp HF 7 5 [(13, vI 100), (12, vI 13), (11, vI 1)] fun a HF => ?_
 refine qb rfl (wp_seq (qa ?_))
 refine fp HF 1 0 [(135, vP gw102 0)] fun a HF => ?_
 refine fo HF 1 rfl rfl ?_
 refine e_cl HF [vP gw102 0] rfl rfl (qgq gw102 9 A118 c118 awX _ (HM.blk (i := 2) rfl) (HM.rd (i := 3) rfl) (by first | decide | omega) (by decide)) ?_
 rintro _ w136 ⟨⟨A136, c136, rfl, ho, hc136⟩, hbw⟩
 refine ⟨_, rfl, ?_⟩
 replace HM := HM.callRow hbw ho
 clear HF; intro a HF
 refine fo HF 2 rfl rfl ?_
 refine e_cl HF [.slice A136 awX.length c136] rfl rfl (qnw A136 c136 awX _ (HM.rd (i := 0) rfl) (by decide)) ?_
 rintro _ w137 ⟨g137, A137, c137, rfl, hc137, hm⟩
 refine ⟨_, rfl, ?_⟩
 replace HM := HM.join hm
 clear HF; intro a HF
 refine fp HF 1 3 [(14, vP g137 0)] fun a HF => ?_
 refine qb rfl (wp_seq (qa ?_))
 refine fp HF 1 0 [(139, vP g137 0)] fun a HF => ?_
 refine fo HF 1 rfl rfl ?_
 refine e_cl HF [vP g137 0] rfl rfl (qki _ _ g137 0 A137 c137 awX _ (HM.picks [0, 1, 2, 3, 4, 5, 6, 7, 8, 9, 10, 11, 12] (by decide) rfl) (by decide) (by first | exact Nat.le_refl _ | omega | exact Nat.zero_le _) qs0 (by decide) B (hL.mem HM hB) hB (sa8) (p2 := 13) (rfl)) ?_
 rintro _ w140 ⟨A140, c140, rfl, hc140, HM2⟩
 refine ⟨_, rfl, ?_⟩
 replace HM := HM2
 clear HF; intro a HF
 refine fp HF 3 2 [(142, vI 0), (141, .agg #[vB 2, vB 0, vI 0, vI 7, .slice A140 0 c140])] fun a HF => ?_
 refine fo HF 5 rfl rfl ?_
 refine qp HF HM (cs := #[vB 0, vB 0, vI 0, vI 0, .slice none 0 0]) rfl (by kernel_rfl) rfl (by decide) ?_
 clear HF HM; intro a w15 g15 HF HM
 refine fo HF 6 rfl rfl ?_
 refine e_sa HF HM 0 rfl rfl rfl rfl rfl si_bk rfl rfl (by simp [Value.oneCell']) ?_
 clear HM; intro w12_6 HM
 refine fp HF 1 7 [(16, vI 0)] fun a HF => ?_
 refine qb rfl (wp_seq (qa ?_))
 refine fp HF 1 0 [(144, vP g137 0)] fun a HF => ?_
 refine fo HF 1 rfl rfl ?_
 refine e_cl HF [vP g137 0] rfl rfl (qki _ _ g137 13 A137 c137 awX _ (HM.picks [2, 3, 0, 1, 4, 5, 6, 7, 8, 9, 10, 11, 12, 13, 14] (by decide) rfl) (by decide) (by first | exact Nat.le_refl _ | omega | exact Nat.zero_le _) qs0 (by decide) B (hL.mem HM hB) hB (sa9) (p2 := 13) (rfl)) ?_
 rintro _ w145 ⟨A145, c145, rfl, hc145, HM2⟩
 refine ⟨_, rfl, ?_⟩
 replace HM := HM2
 clear HF; intro a HF
 refine fp HF 3 2 [(147, vI 6), (146, .agg #[vB 0, vB 0, vI 0, vI 0, .slice A145 0 c145])] fun a HF => ?_
 refine fo HF 5 rfl rfl ?_
 refine qp HF HM (cs := #[vB 0, vB 0, vI 0, vI 0, .slice none 0 0]) rfl (by kernel_rfl) rfl (by decide) ?_
 clear HF HM; intro a w17 g17 HF HM
 refine fo HF 6 rfl rfl ?_
 refine e_sa HF HM 0 rfl rfl rfl rfl rfl si_bk rfl rfl (by simp [Value.oneCell']) ?_
 clear HM; intro w13_6 HM
 refine fp HF 1 7 [(18, vI 6)] fun a HF => ?_
 refine qb rfl (wp_seq (qa ?_))
 refine fp HF 16 0 [(163, vP g15 3), (162, .bool true)] fun a HF => ?_
 refine fy HF HM 16 rfl rfl rfl (Yl.qi rfl rfl (by kernel_rfl) (fun _ h => h.cell (i := 4) rfl rfl)) fun a HF => ?_
 refine fp HF 8 17 [(172, vP g137 0), (171, .bool true)] fun a HF => ?_
 refine fo HF 25 rfl rfl ?_
 refine e_is HF HM [vP g137 0] (vI 13) rfl rfl (qkh g137 13 A137 c137 awX _ (HM.blk (i := 2) rfl)) fun w173 hbw HM a HF => ?_
 refine fp HF 3 26 [(0, .bool true)] fun a HF => ?_
 refine qb rfl ?_
 replace HF := HF.to [(0, .bool true), (15, vP g15 0), (14, vP g137 0), (125, .bool false), (9, vP gw102 0), (100, .bool false)]
 refine wp_ret ?_
 exact ret1 rfl HF (.tmp HF rfl) (⟨rfl, HM.below⟩)
theorem qqv {w w' : World} {x : Ss} {A : Option Addr} {c k : Nat} (ho : w'.ownsRow w.heap.size 47 12 (.slice A k c) k ((qby x.bef x.es k).flatMap itL)) (hk : k = x.es.length) (hc : k ≤ c) (hb : Below w.heap.size w w') : qs3 w x (.returned (.tuple #[.int .u8 ((x.cpu % 64 : Nat) : Int), .slice A k c, .int .i64 (x.opn : Int)])) w' := by
 subst hk
 have e : x.es.length = x.items.length := (qer x).symm
 rw [e] at ho hc ⊢
 exact ⟨A, c, rfl, by have h := ho; rw [show qby x.bef x.es x.items.length = x.items by rw [qer]; rfl] at h; exact h, hc, hb⟩
theorem qnz (x : Ss) (hx : x.Ok) (A : Option Addr) (c : Nat) (A2 : Option Addr) (c2 : Nat) (w : World) (hr : Rd w w.heap.size 11 A x.l.length (x.l.flatMap smL)) (hc : x.l.length ≤ c) (hr2 : Rd w w.heap.size 1 A2 x.bef.length (x.bef.map W32)) (hn : x.l.length ≤ 9223372036854775807) (hn2 : x.bef.length ≤ 9223372036854775807) :
    Calls Tryd.prog 11 #[.agg (x.cells A c A2 c2)] w (qs3 w x) := by
 refine qh (vs := [.agg (x.cells A c A2 c2)]) Tryd.func11 rfl rfl (by kernel_rfl) (σ0 := [(0, .agg (x.cells A c A2 c2))]) rfl ?_
 intro a HF
 have HM := Mem.start w
 refine wp_seq (qa ?_)
 refine fo HF 0 rfl rfl ?_
 refine e_box HF HM (cs := (x.cells A c A2 c2)) rfl rfl rfl rfl (by decide) ?_
 clear HF HM; intro a w1 g1 HF HM
 refine fp HF 3 1 [(4, vI 0), (3, .slice none 0 0), (2, vB 0)] fun a HF => ?_
 refine qb rfl ?_
 have hcpu := hx.cpu
 have hopn := hx.opn
 have h200 := es200 x
 refine wp_seq (qa ?_)
 refine fp HF 1 0 [(5, .slice none 0 0)] fun a HF => ?_
 refine qb rfl (wp_seq (wp_seq (qa ?_)))
 refine fp HF 1 0 [(9, vP g1 0)] fun a HF => ?_
 refine fy HF HM 1 rfl rfl rfl (v := vB x.cpu) (Yl.qi rfl rfl (by kernel_rfl) (fun _ h => h.cell (i := 0) rfl (rfl))) fun a HF => ?_
 refine fp HF 1 2 [(11, vP g1 1)] fun a HF => ?_
 refine fy HF HM 3 rfl rfl rfl (v := .agg #[vI x.b.seq, vI x.b.time]) (Yl.zg rfl rfl ⟨(by kernel_rfl), (by kernel_rfl)⟩ rfl (fun _ h => h.sub (i := 0) rfl 1 rfl)) fun a HF => ?_
 refine fp HF 1 4 [(13, vP g1 3)] fun a HF => ?_
 refine fy HF HM 5 rfl rfl rfl (v := .slice A x.l.length c) (Yl.qi rfl rfl (by kernel_rfl) (fun _ h => h.cell (i := 0) rfl (rfl))) fun a HF => ?_
 refine fo HF 6 rfl rfl ?_
 refine e_cl HF [vB x.cpu, .agg #[vI x.b.seq, vI x.b.time], .slice A x.l.length c] rfl rfl (qqk x.cpu hx.cpu x.b hx.b _ _ _ x.l hx.l _ (HM.old hr) hc hn) ?_
 rintro _ w15 ⟨⟨v, rfl, ho⟩, hbw⟩
 rw [show madeL x.cpu x.b x.l = x.es from rfl] at ho
 obtain ⟨A15, c15, rfl, hc15⟩ := qc8 ho
 refine ⟨_, rfl, ?_⟩
 replace HM := HM.callRow hbw ho
 clear HF; intro a HF
 refine fy HF HM 7 rfl rfl rfl (Yl.len rfl rfl (by kernel_rfl)) fun a HF => ?_
 refine fp HF 1 8 [(17, vI 0)] fun a HF => ?_
 refine qb rfl ?_
 replace HM := HM.nil 47 12
 refine wp_block ?_
 refine zy (fun mS aS wS => ∃ (k : Nat) (Ak : Option Addr) (ck : Nat), (k ≤ x.es.length) ∧ (k ≤ ck) ∧ mS = x.es.length - k ∧ Fr aS 51 [] [(17, vI k), (16, vI x.es.length), (15, .slice A15 x.es.length c15), (5, .slice Ak k ck), (4, vI 0), (3, .slice none 0 0), (2, vB 0), (1, vP g1 0)] ∧ Mem w wS [.row (.slice Ak k ck) k ((qby x.bef x.es k).flatMap itL) 47 12, .row (.slice A15 x.es.length c15) x.es.length (x.es.flatMap evL) 45 11, .blk g1 (x.cells A c A2 c2) 31]) (m := x.es.length - 0) ⟨0, none, 0, Nat.zero_le _, Nat.le_refl _, rfl, HF.sub (by kernel_rfl), HM.picks [0, 1, 2] (by decide) rfl⟩ ?_
 clear HF HM; rintro mS a w_ ⟨k, Ak, ck, hk, hck, rfl, HF, HM⟩
 refine wp_seq (qa ?_)
 refine fp HF 1 0 [(18, .bool (decide ((k : Int) < (x.es.length : Int))))] fun a HF => ?_
 refine qb rfl (wp_seq ?_)
 rcases HF.tf 18 rfl with ⟨hb18, HF⟩ | ⟨hb18, HF⟩
 ·
  have hd18 := of_decide_eq_true hb18
  have hk18 : k < x.es.length := by omega
  refine qf HF rfl (wp_skip (wp_seq (wp_block (wp_seq (qa ?_)))))
  refine fp HF 1 0 [(19, vI k)] fun a HF => ?_
  obtain ⟨gA15, rfl⟩ := qbp (HM.own (i := 1) rfl) (Nat.lt_of_le_of_lt (Nat.zero_le _) (show k < x.es.length from by omega))
  refine fy HF HM 1 rfl rfl rfl (v := vP gA15 (k * 11)) (Yl.ix0 gA15 k 11 rfl rfl rfl) fun a HF => ?_
  refine fy HF HM 2 rfl rfl rfl (v := .agg ((x.es.getD k Ev.zero).cells)) (Yl.zg rfl rfl ⟨(by kernel_rfl), (by kernel_rfl)⟩ rfl (fun _ h => h.qkk zw (i := 1) rfl ((getD_at Ev.zero (k := k) (by first | omega | (simp; omega)))))) fun a HF => ?_
  refine fo HF 3 rfl rfl ?_
  refine qp HF HM (cs := #[vI 0, vI 0, vB 0, vB 0, vI 0, vI 0, vI 0, vI 0, vI 0, vQ 0, vI 0]) rfl (by kernel_rfl) rfl (by decide) ?_
  clear HF HM; intro a w7 g7 HF HM
  refine fp HF 1 4 [(6, vI k)] fun a HF => ?_
  refine fo HF 5 rfl rfl ?_
  refine e_sa HF HM 0 rfl rfl rfl rfl rfl ⟨(by kernel_rfl), (by kernel_rfl)⟩ rfl rfl (zp (x.es.getD k Ev.zero)) ?_
  clear HM; intro w4_5 HM
  refine qb rfl (wp_seq (qa ?_))
  refine fy HF HM 0 rfl rfl rfl (v := .agg ((x.es.getD k Ev.zero).cells)) (Yl.zg rfl rfl ⟨(by kernel_rfl), (by kernel_rfl)⟩ rfl (fun _ h => qd (h.blk (i := 0) rfl))) fun a HF => ?_
  refine fy HF HM 1 rfl rfl rfl (v := .agg #[vI ((x.es.getD k Ev.zero).seq), vI ((x.es.getD k Ev.zero).time), vB ((x.es.getD k Ev.zero).cpu), vB ((x.es.getD k Ev.zero).kind), vI ((x.es.getD k Ev.zero).task), vI ((x.es.getD k Ev.zero).group), vI ((x.es.getD k Ev.zero).to), vI ((x.es.getD k Ev.zero).weight), vI ((x.es.getD k Ev.zero).ticks), vQ ((x.es.getD k Ev.zero).mask), vI ((x.es.getD k Ev.zero).got), vI 0]) (Yl.build (vs := [(0, .agg ((x.es.getD k Ev.zero).cells))]) rfl (by kernel_rfl) (by kernel_rfl)) fun a HF => ?_
  refine fo HF 2 rfl rfl ?_
  refine qp HF HM (cs := #[vI 0, vI 0, vB 0, vB 0, vI 0, vI 0, vI 0, vI 0, vI 0, vQ 0, vI 0, vI 0]) rfl (by kernel_rfl) rfl (by decide) ?_
  clear HF HM; intro a w8 g8 HF HM
  refine fo HF 3 rfl rfl ?_
  refine e_sa HF HM 0 rfl rfl rfl rfl rfl si_it rfl rfl (by simp [Value.oneCell']) ?_
  clear HM; intro w5_3 HM
  refine qb rfl (wp_seq (wp_seq (qa ?_)))
  refine fp HF 1 0 [(24, vP g1 4)] fun a HF => ?_
  refine fy HF HM 1 rfl rfl rfl (v := .slice A2 x.bef.length c2) (Yl.qi rfl rfl (by kernel_rfl) (fun _ h => h.cell (i := 4) rfl (rfl))) fun a HF => ?_
  refine fy HF HM 2 rfl rfl rfl (Yl.len rfl rfl (by kernel_rfl)) fun a HF => ?_
  refine fp HF 1 3 [(27, .bool (decide ((x.bef.length : Int) > (0 : Int))))] fun a HF => ?_
  refine qb rfl ?_
  rcases HF.tf 27 rfl with ⟨hb27, HF⟩ | ⟨hb27, HF⟩
  ·
   have hd27 := of_decide_eq_true hb27
   have hb0 : 0 < x.bef.length := by omega
   have hbk : k % x.bef.length < x.bef.length := Nat.mod_lt _ hb0
   have hba : befAt x.bef k = x.bef.getD (k % x.bef.length) 0 := if_neg (by omega)
   refine qf HF rfl ?_
   refine qae HM [.blk g8 #[vI ((x.es.getD k Ev.zero).seq), vI ((x.es.getD k Ev.zero).time), vB ((x.es.getD k Ev.zero).cpu), vB ((x.es.getD k Ev.zero).kind), vI ((x.es.getD k Ev.zero).task), vI ((x.es.getD k Ev.zero).group), vI ((x.es.getD k Ev.zero).to), vI ((x.es.getD k Ev.zero).weight), vI ((x.es.getD k Ev.zero).ticks), vQ ((x.es.getD k Ev.zero).mask), vI ((x.es.getD k Ev.zero).got), vI 0] 47, .blk g7 ((x.es.getD k Ev.zero).cells) 45, .row (.slice Ak k ck) k ((qby x.bef x.es k).flatMap itL) 47 12, .row (vS gA15 x.es.length c15) x.es.length (x.es.flatMap evL) 45 11, .blk g1 (x.cells A c A2 c2) 31] [0, 1, 2, 3, 4] [11] fun HM HS => ?_
   refine ap HF (fun _ => HS) [0, 2, 3] #[true, false, true, true, false, false, false, false, false, false, false, false] [(31, vP g1 4), (30, vI k), (28, vP g1 4)] fun a HF => ?_
   refine ay HF HS 1 rfl rfl rfl (v := .slice A2 x.bef.length c2) (Yl.qi rfl rfl (by kernel_rfl) (fun _ h => h.cell (i := 4) rfl (rfl))) fun a HF => ?_
   refine ay HF HS 4 rfl rfl rfl (v := .slice A2 x.bef.length c2) (Yl.qi rfl rfl (by kernel_rfl) (fun _ h => h.cell (i := 4) rfl (rfl))) fun a HF => ?_
   refine ay HF HS 5 rfl rfl rfl (Yl.len rfl rfl (by kernel_rfl)) fun a HF => ?_
   refine ay HF HS 6 rfl rfl rfl (v := vI (k % x.bef.length : Nat)) (Yl.remN (m := k) (n := x.bef.length) rfl rfl rfl (by omega)) fun a HF => ?_
   obtain ⟨gA2, oA2, rfl, _⟩ := hr2.qa2 (Nat.lt_of_le_of_lt (Nat.zero_le _) (show k % x.bef.length < x.bef.length from by omega)) (by decide)
   refine ay HF HS 7 rfl rfl rfl (v := vP gA2 (oA2 + (k % x.bef.length) * 1)) (Yl.ix gA2 oA2 (k % x.bef.length) 1 rfl rfl rfl) fun a HF => ?_
   have hx102 := getD_lt hx.bef (k := (k % x.bef.length)) (by first | omega | (simp; omega))
   refine ay HF HS 8 rfl rfl rfl (v := vW (x.bef.getD (k % x.bef.length) 0)) (Yl.qi rfl rfl (by kernel_rfl) (fun _ h => (h.old hr2).qbk (k := (k % x.bef.length)) (qas (F := W32) (k := (k % x.bef.length)) (x := (x.bef.getD (k % x.bef.length) 0)) ((getD_at 0 (k := (k % x.bef.length)) (by first | omega | (simp; omega))))))) fun a HF => ?_
   refine qo HF (fun _ => HS) (i := 9) rfl rfl (d := 37) rfl (by decide) (by kernel_rfl) (fun _ _ _ h => h) (v := vI (IntKind.i64.wrap ((x.bef.getD (k % x.bef.length) 0) : Int))) (fun _ => Yl.pure (by kernel_rfl)) fun a HF => ?_
   replace HF := HF.sp 37 (vI (x.bef.getD (k % x.bef.length) 0)) rfl (ql rfl (by omega))
   refine ap HF (fun _ => HS) [10] #[true, true, true, true, true, true, true, true, true, true, true, false] [(38, vP g8 11)] fun a HF => ?_
   refine qg [11] (by kernel_rfl) rfl ?_
   refine all_cons ?_ all_nil
   refine qj HF (i := 11) rfl rfl ?_
   refine qq HF HM (i := 0) rfl rfl rfl rfl (by kernel_rfl) rfl rfl (by simp) ?_
   clear HM; intro w7_11 HM
   refine noS (by kernel_rfl) ?_
   refine qn (by kernel_rfl) ?_
   refine qa ?_
   refine fp HF 1 0 [(39, .slice Ak k ck)] fun a HF => ?_
   refine fy HF HM 1 rfl rfl rfl (v := .agg #[vI ((x.es.getD k Ev.zero).seq), vI ((x.es.getD k Ev.zero).time), vB ((x.es.getD k Ev.zero).cpu), vB ((x.es.getD k Ev.zero).kind), vI ((x.es.getD k Ev.zero).task), vI ((x.es.getD k Ev.zero).group), vI ((x.es.getD k Ev.zero).to), vI ((x.es.getD k Ev.zero).weight), vI ((x.es.getD k Ev.zero).ticks), vQ ((x.es.getD k Ev.zero).mask), vI ((x.es.getD k Ev.zero).got), vI (x.bef.getD (k % x.bef.length) 0)]) (Yl.zg rfl rfl si_it rfl (fun _ h => qd (h.blk (i := 0) rfl))) fun a HF => ?_
   refine fo HF 2 rfl rfl ?_
   refine zo HF HM (vs := [(0, .agg #[vI ((x.es.getD k Ev.zero).seq), vI ((x.es.getD k Ev.zero).time), vB ((x.es.getD k Ev.zero).cpu), vB ((x.es.getD k Ev.zero).kind), vI ((x.es.getD k Ev.zero).task), vI ((x.es.getD k Ev.zero).group), vI ((x.es.getD k Ev.zero).to), vI ((x.es.getD k Ev.zero).weight), vI ((x.es.getD k Ev.zero).ticks), vQ ((x.es.getD k Ev.zero).mask), vI ((x.es.getD k Ev.zero).got), vI (x.bef.getD (k % x.bef.length) 0)])]) (cs := #[vI ((x.es.getD k Ev.zero).seq), vI ((x.es.getD k Ev.zero).time), vB ((x.es.getD k Ev.zero).cpu), vB ((x.es.getD k Ev.zero).kind), vI ((x.es.getD k Ev.zero).task), vI ((x.es.getD k Ev.zero).group), vI ((x.es.getD k Ev.zero).to), vI ((x.es.getD k Ev.zero).weight), vI ((x.es.getD k Ev.zero).ticks), vQ ((x.es.getD k Ev.zero).mask), vI ((x.es.getD k Ev.zero).got), vI (x.bef.getD (k % x.bef.length) 0)]) rfl ei_it (by decide) rfl (by kernel_rfl) rfl (by decide) ?_
   clear HF HM; intro a w41 g41 HF HM
   refine fo HF 3 rfl rfl ?_
   refine zh HF HM (i := 3) rfl ei_it rfl rfl rfl (news := (itL (⟨(x.es.getD k Ev.zero), ((x.bef.getD (k % x.bef.length) 0) : Int)⟩ : It))) (HM.rdBlk (i := 0) (n := 1) (size := 12) rfl rfl) (ql9 _) (by omega) (by omega) rfl (by decide) ?_
   clear HF HM; intro a w42 A42 c42 HF HM hc42
   refine fp HF 1 4 [(5, .slice A42 (k + 1) c42)] fun a HF => ?_
   refine qb rfl ?_
   replace HM := HM.asRow (i := 3) (ys := (qby x.bef x.es (k + 1)).flatMap itL) rfl (by rw [qgn, List.flatMap_append, hba]; simp)
   refine qa ?_
   refine fp HF 1 0 [(43, vI (IntKind.i64.wrap ((k : Int) + 1)))] fun a HF => ?_
   replace HF := HF.sp 43 (vI (k + 1 : Nat)) rfl (ql (by omega) (by omega))
   refine fp HF 1 1 [(17, vI (k + 1 : Nat))] fun a HF => ?_
   refine qb rfl ?_
   exact ⟨_, (by omega), k + 1, A42, c42, by omega, hc42, rfl, HF.sub (by kernel_rfl), HM.picks [3, 4, 5] (by decide) rfl⟩
  have hd27 := of_decide_eq_false hb27
  have hba : befAt x.bef k = 0 := if_pos (by omega)
  refine qe HF rfl (wp_skip (qa ?_))
  refine fp HF 1 0 [(39, .slice Ak k ck)] fun a HF => ?_
  refine fy HF HM 1 rfl rfl rfl (v := .agg #[vI ((x.es.getD k Ev.zero).seq), vI ((x.es.getD k Ev.zero).time), vB ((x.es.getD k Ev.zero).cpu), vB ((x.es.getD k Ev.zero).kind), vI ((x.es.getD k Ev.zero).task), vI ((x.es.getD k Ev.zero).group), vI ((x.es.getD k Ev.zero).to), vI ((x.es.getD k Ev.zero).weight), vI ((x.es.getD k Ev.zero).ticks), vQ ((x.es.getD k Ev.zero).mask), vI ((x.es.getD k Ev.zero).got), vI 0]) (Yl.zg rfl rfl si_it rfl (fun _ h => qd (h.blk (i := 0) rfl))) fun a HF => ?_
  refine fo HF 2 rfl rfl ?_
  refine zo HF HM (vs := [(0, .agg #[vI ((x.es.getD k Ev.zero).seq), vI ((x.es.getD k Ev.zero).time), vB ((x.es.getD k Ev.zero).cpu), vB ((x.es.getD k Ev.zero).kind), vI ((x.es.getD k Ev.zero).task), vI ((x.es.getD k Ev.zero).group), vI ((x.es.getD k Ev.zero).to), vI ((x.es.getD k Ev.zero).weight), vI ((x.es.getD k Ev.zero).ticks), vQ ((x.es.getD k Ev.zero).mask), vI ((x.es.getD k Ev.zero).got), vI 0])]) (cs := #[vI ((x.es.getD k Ev.zero).seq), vI ((x.es.getD k Ev.zero).time), vB ((x.es.getD k Ev.zero).cpu), vB ((x.es.getD k Ev.zero).kind), vI ((x.es.getD k Ev.zero).task), vI ((x.es.getD k Ev.zero).group), vI ((x.es.getD k Ev.zero).to), vI ((x.es.getD k Ev.zero).weight), vI ((x.es.getD k Ev.zero).ticks), vQ ((x.es.getD k Ev.zero).mask), vI ((x.es.getD k Ev.zero).got), vI 0]) rfl ei_it (by decide) rfl (by kernel_rfl) rfl (by decide) ?_
  clear HF HM; intro a w41 g41 HF HM
  refine fo HF 3 rfl rfl ?_
  refine zh HF HM (i := 3) rfl ei_it rfl rfl rfl (news := (itL (⟨(x.es.getD k Ev.zero), 0⟩ : It))) (HM.rdBlk (i := 0) (n := 1) (size := 12) rfl rfl) (ql9 _) (by omega) (by omega) rfl (by decide) ?_
  clear HF HM; intro a w42 A42 c42 HF HM hc42
  refine fp HF 1 4 [(5, .slice A42 (k + 1) c42)] fun a HF => ?_
  refine qb rfl ?_
  replace HM := HM.asRow (i := 3) (ys := (qby x.bef x.es (k + 1)).flatMap itL) rfl (by rw [qgn, List.flatMap_append, hba]; simp)
  refine qa ?_
  refine fp HF 1 0 [(43, vI (IntKind.i64.wrap ((k : Int) + 1)))] fun a HF => ?_
  replace HF := HF.sp 43 (vI (k + 1 : Nat)) rfl (ql (by omega) (by omega))
  refine fp HF 1 1 [(17, vI (k + 1 : Nat))] fun a HF => ?_
  refine qb rfl ?_
  exact ⟨_, (by omega), k + 1, A42, c42, by omega, hc42, rfl, HF.sub (by kernel_rfl), HM.picks [3, 4, 5] (by decide) rfl⟩
 have hd18 := of_decide_eq_false hb18
 have hkn : k = x.es.length := by omega
 refine qe HF rfl (wp_exit (wp_seq ?_))
 refine qae HM [.row (.slice Ak k ck) k ((qby x.bef x.es k).flatMap itL) 47 12, .row (.slice A15 x.es.length c15) x.es.length (x.es.flatMap evL) 45 11, .blk g1 (x.cells A c A2 c2) 31] [0, 1, 2] [] fun HM HS => ?_
 refine ap HF (fun _ => HS) [0, 3, 4] #[true, false, false, true, true, false, false, false, false, false] [(48, vP g1 5), (47, .slice Ak k ck), (44, vP g1 0)] fun a HF => ?_
 refine ay HF HS 1 rfl rfl rfl (v := vB x.cpu) (Yl.qi rfl rfl (by kernel_rfl) (fun _ h => h.cell (i := 2) rfl (rfl))) fun a HF => ?_
 refine qo HF (fun _ => HS) (i := 2) rfl rfl (d := 46) rfl (by decide) (by kernel_rfl) (fun _ _ _ h => h) (v := vB (Int.tmod (x.cpu : Int) 64)) (fun _ => Yl.pure (by kernel_rfl)) fun a HF => ?_
 replace HF := HF.sp 46 (vB (x.cpu % 64 : Nat)) rfl (qam .u8 _ 64)
 refine ap HF (fun _ => HS) [7, 8] #[true, true, true, true, true, false, false, true, true, false] [(3, .slice Ak k ck), (2, vB (x.cpu % 64 : Nat))] fun a HF => ?_
 refine ay HF HS 5 rfl rfl rfl (v := vW x.opn) (Yl.qi rfl rfl (by kernel_rfl) (fun _ h => h.cell (i := 2) rfl (rfl))) fun a HF => ?_
 refine qo HF (fun _ => HS) (i := 6) rfl rfl (d := 50) rfl (by decide) (by kernel_rfl) (fun _ _ _ h => h) (v := vI (IntKind.i64.wrap (x.opn : Int))) (fun _ => Yl.pure (by kernel_rfl)) fun a HF => ?_
 replace HF := HF.sp 50 (vI x.opn) rfl (ql rfl (by omega))
 refine ap HF (fun _ => HS) [9] #[true, true, true, true, true, true, true, true, true, true] [(4, vI x.opn)] fun a HF => ?_
 refine qn (by kernel_rfl) ?_
 refine wp_ret ?_
 exact ret3 rfl HF (.tmp HF rfl) (.tmp HF rfl) (.tmp HF rfl) (qqv (HM.own (i := 0) rfl) hkn hck HM.below)
theorem hbat {w : World} {B : Nat} {h k : Hb} (hr : Rd w B 11 h.A h.b.evs.length (h.b.evs.flatMap evL)) (e : h = k) : Rd w B 11 k.A k.b.evs.length (k.b.evs.flatMap evL) := e ▸ hr
theorem qml {l : List It} {opn : Int} {b : Bk} {p n : Nat} (h : n = b.evs.length + 1) : n = (moreB l opn b p).evs.length := by
 show n = (b.evs ++ [_]).length
 rw [List.length_append]; exact h
theorem qgr (d : Bk) (hok : d.Ok) (A : Option Addr) (n c B : Nat) (w : World) (hL : LaidX B w) (hB : B ≤ w.heap.size) {lo : Int} {k cpu : Nat} (hlo : lo = d.lost) (hk : k = d.kind) (hcpu : cpu = d.cpu) (hn : n = d.evs.length) (hr : Rd w w.heap.size 11 A n (d.evs.flatMap evL)) (hm : n ≤ 1000000) (he : d.err = 3) (hz : d.next = 0 := by rfl) :
  Calls Tryd.prog 13 #[.agg #[.int .u8 (k : Int), .int .u8 (cpu : Int), .int .i64 lo, .int .i64 0, .slice A n c]] w (Is w (.int .i64 3)) := by
 subst hlo; subst hk; subst hcpu; subst hn
 rw [← hz]
 exact qge d hok A c B w hL hB hr hm he
theorem qg0 (x : Ss) (hx : x.Ok) (A : Option Addr) (c : Nat) (A2 : Option Addr) (c2 : Nat) (lim0 : Nat) (hlm0 : lim0 < 65536) (B : Nat) (w : World) (hL : LaidX B w) (hB : B ≤ w.heap.size) (hr : Rd w w.heap.size 11 A x.l.length (x.l.flatMap smL)) (hc : x.l.length ≤ c) (hr2 : Rd w w.heap.size 1 A2 x.bef.length (x.bef.map W32)) (hn : x.l.length ≤ 9223372036854775807) (hn2 : x.bef.length ≤ 9223372036854775807) :
    Calls Tryd.prog 4 #[.agg (x.cells A c A2 c2), .int .u16 (lim0 : Int)] w (Is w (.bool true)) := by
 refine qh (vs := [.agg (x.cells A c A2 c2), .int .u16 lim0]) Tryd.func4 rfl rfl (by kernel_rfl) (σ0 := [(0, .agg (x.cells A c A2 c2)), (1, .int .u16 lim0)]) rfl ?_
 intro a HF
 have HM := Mem.start w
 refine wp_seq (qa ?_)
 refine fo HF 0 rfl rfl ?_
 refine e_box HF HM (cs := (x.cells A c A2 c2)) rfl rfl rfl rfl (by decide) ?_
 clear HF HM; intro a w2 g2 HF HM
 refine fp HF 1 1 [(4, .bool false)] fun a HF => ?_
 refine qb rfl ?_
 have hcpu := hx.cpu
 have hopn := hx.opn
 have hL0 := qmc hx
 have hil : x.items.length ≤ 200 := by rw [qer]; exact es200 x
 have hG := qnm hx
 obtain ⟨lim, hlim⟩ : ∃ z, z = (1 + lim0 % 4096) := ⟨_, rfl⟩
 have hlm1 : 1 ≤ lim ∧ lim ≤ 4096 := by rw [hlim]; omega
 obtain ⟨bs, hcs, hbs0, hbl, hfull⟩ := qsi hG (lim := lim) (by omega) (by omega)
 refine wp_seq (wp_seq (qa ?_))
 refine fo HF 0 rfl rfl ?_
 refine e_is HF HM [] (.bool true) rfl rfl (qny B _ (hL.mem HM hB) (HM.le hB)) fun w15 hbw HM a HF => ?_
 refine fp HF 1 1 [(16, .bool false)] fun a HF => ?_
 refine qb rfl (qe HF rfl (wp_skip (wp_seq (qa ?_))))
 refine fy HF HM 0 rfl rfl rfl (v := .agg (x.cells A c A2 c2)) (Yl.zg rfl rfl si_ss rfl (fun _ h => qd (h.blk (i := 0) rfl))) fun a HF => ?_
 refine fo HF 1 rfl rfl ?_
 refine e_cl HF [.agg (x.cells A c A2 c2)] rfl rfl (qnz x hx A c A2 c2 _ (HM.old hr) hc (HM.old hr2) hn hn2) ?_
 rintro _ w19 ⟨Am, cm, rfl, ho, hcm, hbw⟩
 refine ⟨_, rfl, ?_⟩
 replace HM := HM.callRow hbw ho
 clear HF; intro a HF
 refine fp HF 7 2 [(7, vI x.opn), (6, .slice Am x.items.length cm), (5, vB (x.cpu % 64 : Nat))] fun a HF => ?_
 refine qb rfl (wp_seq (qa ?_))
 refine fp HF 2 0 [(24, vI (IntKind.i64.wrap (lim0 : Int)))] fun a HF => ?_
 replace HF := HF.sp 24 (vI lim0) rfl (ql rfl (by omega))
 refine fp HF 1 2 [(25, vI (Int.tmod (lim0 : Int) 4096))] fun a HF => ?_
 replace HF := HF.sp 25 (vI (lim0 % 4096 : Nat)) rfl (qam .i64 _ 4096)
 refine fp HF 1 3 [(26, vI (IntKind.i64.wrap (1 + ((lim0 % 4096 : Nat) : Int))))] fun a HF => ?_
 replace HF := HF.sp 26 (vI lim) rfl (by rw [hlim]; exact ql (by omega) (by omega))
 refine fp HF 1 4 [(8, vI lim)] fun a HF => ?_
 refine qb rfl (wp_seq (qa ?_))
 refine fp HF 4 0 [(31, vI lim), (30, vI x.opn), (29, .slice Am x.items.length cm), (28, vB (x.cpu % 64 : Nat))] fun a HF => ?_
 refine fo HF 4 rfl rfl ?_
 refine e_cl HF [vB (x.cpu % 64 : Nat), .slice Am x.items.length cm, vI x.opn, vI lim] rfl rfl (qes (x.cpu % 64) (by omega) Am x.items.length cm x.items (x.opn : Int) (lim : Int) hL0 (by unfold I64; omega) (by unfold I64; omega) B _ (hL.mem HM hB) (HM.le hB) (HM.rd (i := 0) rfl) hcm rfl (by omega) hcs) ?_
 rintro _ w32 ⟨A1, c1, q, rfl, hqb, hc1, hm⟩
 have hql : bs.length = q.length := by rw [← hqb, List.length_map]
 rw [hql] at hm hc1 hbl hbs0 ⊢
 have hqz : ((q.length : Int) == 0) = (((x.items.length : Int) == 0) && ((x.opn : Int) == 0)) := by rw [Bool.eq_iff_iff]; simp only [Bool.and_eq_true, beq_iff_eq]; omega
 refine ⟨_, rfl, ?_⟩
 replace HM := Mem.qvq (a := [.row (.slice Am x.items.length cm) x.items.length (x.items.flatMap itL) 47 12, .blk g2 (x.cells A c A2 c2) 31]) (b := []) HM hm
 clear HF; intro a HF
 refine fp HF 5 5 [(10, vI 0), (9, .slice A1 q.length c1)] fun a HF => ?_
 refine qb rfl (wp_seq ?_)
 refine qay (fun aS wS => Fr aS 148 [] [(49, .bool false), (9, .slice A1 q.length c1), (8, vI lim), (7, vI x.opn), (6, .slice Am x.items.length cm), (16, .bool false), (4, .bool false)] ∧ Mem w wS (.row (.slice A1 q.length c1) q.length (q.flatMap hbL) 41 5 :: .row (.slice Am x.items.length cm) x.items.length (x.items.flatMap itL) 47 12 :: .blk g2 (x.cells A c A2 c2) 31 :: (hbF 45 q ++ ([])))) ?_ ?_
 ·
  refine qa ?_
  refine fp HF 4 0 [(38, .slice A1 q.length c1), (37, .bool false)] fun a HF => ?_
  refine fy HF HM 4 rfl rfl rfl (Yl.len rfl rfl (by kernel_rfl)) fun a HF => ?_
  refine fp HF 2 5 [(41, .slice Am x.items.length cm), (40, .bool ((q.length : Int) == (0 : Int)))] fun a HF => ?_
  refine fy HF HM 7 rfl rfl rfl (Yl.len rfl rfl (by kernel_rfl)) fun a HF => ?_
  refine fp HF 2 8 [(44, .bool ((x.items.length : Int) == (0 : Int)))] fun a HF => ?_
  rcases HF.tf 44 rfl with ⟨hb44, HF⟩ | ⟨hb44, HF⟩
  ·
   have hd44 := eq_of_beq hb44
   refine fp HF 3 10 [(47, .bool ((x.opn : Int) == (0 : Int)))] fun a HF => ?_
   refine fy HF HM 13 rfl rfl rfl (v := .bool (!(((q.length : Int) == (0 : Int)) == ((x.opn : Int) == (0 : Int))))) (Yl.qll rfl rfl rfl (by kernel_rfl)) fun a HF => ?_
   refine fp HF 1 14 [(49, .bool (!(((q.length : Int) == (0 : Int)) == ((x.opn : Int) == (0 : Int)))))] fun a HF => ?_
   refine qb rfl ?_
   have HF := HF.as (t := 49) (u := .bool false) rfl (by first | (rw [hqz, hb44]; simp) | (rw [hqz]; simp [hb44]))
   exact ⟨HF.sub (by kernel_rfl), HM.picksT 3 [0, 1, 2] (by decide) (by decide) rfl⟩
  have hd44 := ne_of_beq_false hb44
  refine fp HF 3 10 [(47, .bool false)] fun a HF => ?_
  refine fy HF HM 13 rfl rfl rfl (v := .bool (!(((q.length : Int) == (0 : Int)) == false))) (Yl.qll rfl rfl rfl (by kernel_rfl)) fun a HF => ?_
  refine fp HF 1 14 [(49, .bool (!(((q.length : Int) == (0 : Int)) == false)))] fun a HF => ?_
  refine qb rfl ?_
  have HF := HF.as (t := 49) (u := .bool false) rfl (by first | (rw [hqz, hb44]; simp) | (rw [hqz]; simp [hb44]))
  exact ⟨HF.sub (by kernel_rfl), HM.picksT 3 [0, 1, 2] (by decide) (by decide) rfl⟩
 clear HF HM; rintro a w6 ⟨HF, HM⟩
 refine qe HF rfl (wp_skip (wp_seq (qa ?_)))
 refine fp HF 1 0 [(11, vI 0)] fun a HF => ?_
 refine qb rfl ?_
 replace HF := HF.as (t := 11) (u := .int .i64 ((atN bs 0 : Nat) : Int)) rfl (by unfold atN; rfl)
 refine wp_seq (wp_seq (qa ?_))
 refine fp HF 1 0 [(50, .slice A1 q.length c1)] fun a HF => ?_
 refine fy HF HM 1 rfl rfl rfl (Yl.len rfl rfl (by kernel_rfl)) fun a HF => ?_
 refine fp HF 1 2 [(52, vI 0)] fun a HF => ?_
 refine qb rfl (wp_block ?_)
 refine zy (fun mS aS wS => ∃ (i : Nat), (i ≤ q.length) ∧ mS = q.length - i ∧ Fr aS 148 [] [(52, vI i), (51, vI q.length), (50, .slice A1 q.length c1), (11, vI (atN bs i : Nat)), (49, .bool false), (9, .slice A1 q.length c1), (8, vI lim), (7, vI x.opn), (6, .slice Am x.items.length cm), (16, .bool false), (4, .bool false)] ∧ Mem w wS (.row (.slice A1 q.length c1) q.length (q.flatMap hbL) 41 5 :: .row (.slice Am x.items.length cm) x.items.length (x.items.flatMap itL) 47 12 :: .blk g2 (x.cells A c A2 c2) 31 :: (hbF 45 q ++ ([])))) (m := q.length - 0) ⟨0, Nat.zero_le _, rfl, HF.sub (by kernel_rfl), HM.picksT 3 [0, 1, 2] (by decide) (by decide) rfl⟩ ?_
 clear HF HM; rintro mS a w_ ⟨i, hi, rfl, HF, HM⟩
 refine wp_seq (qa ?_)
 refine fp HF 1 0 [(53, .bool (decide ((i : Int) < (q.length : Int))))] fun a HF => ?_
 refine qb rfl (wp_seq ?_)
 rcases HF.tf 53 rfl with ⟨hb53, HF⟩ | ⟨hb53, HF⟩
 ·
  have hd53 := of_decide_eq_true hb53
  have hi53 : i < q.length := by omega
  have hdb : (q.getD i Hb.zero).b = bs.getD i Bk.zero := hb_at hqb (by omega)
  obtain ⟨⟨b, Ab, cb⟩, hxx⟩ : ∃ z, (q.getD i Hb.zero) = z := ⟨_, rfl⟩
  have hF := hfull i (by omega)
  rw [← hdb, hxx, hql] at hF
  have hF0 : FullAt x.items (x.opn : Int) lim b (atN bs i) (i + 1 = q.length) := hF
  have f1 := hF0.most
  have f2 := hF0.fits
  have f3 := hF0.iff1
  have f4 := hF0.iff2
  have f5 := hF0.lost
  have f6 := hF0.some
  have hats := qmj (bs := bs) (i := i) (by omega)
  rw [← hdb, hxx] at hats
  have hats2 : atN bs (i + 1) = atN bs i + b.evs.length := hats
  refine qf HF rfl (wp_skip (wp_seq (wp_block (wp_seq (qa ?_)))))
  refine fp HF 1 0 [(54, vI i)] fun a HF => ?_
  obtain ⟨gA1, rfl⟩ := qbp (HM.own (i := 0) rfl) (Nat.lt_of_le_of_lt (Nat.zero_le _) (show i < q.length from by omega))
  refine fy HF HM 1 rfl rfl rfl (v := vP gA1 (i * 5)) (Yl.ix0 gA1 i 5 rfl rfl rfl) fun a HF => ?_
  refine fy HF HM 2 rfl rfl rfl (v := .agg ((q.getD i Hb.zero).b.cells (q.getD i Hb.zero).A (q.getD i Hb.zero).c)) (Yl.zg rfl rfl si_bk rfl (fun _ h => h.qkk qd4 (i := 0) rfl ((getD_at Hb.zero hi53)))) fun a HF => ?_
  replace HF := HF.sp 56 (.agg (b.cells Ab cb)) rfl (by rw [hxx])
  refine fo HF 3 rfl rfl ?_
  refine qp HF HM (cs := #[vB 0, vB 0, vI 0, vI 0, .slice none 0 0]) rfl (by kernel_rfl) rfl (by decide) ?_
  clear HF HM; intro a w13 g13 HF HM
  refine fp HF 1 4 [(12, vI i)] fun a HF => ?_
  refine fo HF 5 rfl rfl ?_
  refine e_sa HF HM 0 rfl rfl rfl rfl rfl si_bk rfl rfl (qb4 _ _ _) ?_
  clear HM; intro w11_5 HM
  refine qb rfl (wp_seq ?_)
  refine qay (fun aS wS => Fr aS 148 [] [(77, .bool false), (12, vI i), (13, vP g13 0), (53, .bool true), (52, vI i), (51, vI q.length), (50, vS gA1 q.length c1), (11, vI (atN bs i : Nat)), (49, .bool false), (9, vS gA1 q.length c1), (8, vI lim), (7, vI x.opn), (6, .slice Am x.items.length cm), (16, .bool false), (4, .bool false)] ∧ Mem w wS (.blk g13 (b.cells Ab cb) 41 :: .row (vS gA1 q.length c1) q.length (q.flatMap hbL) 41 5 :: .row (.slice Am x.items.length cm) x.items.length (x.items.flatMap itL) 47 12 :: .blk g2 (x.cells A c A2 c2) 31 :: (hbF 45 q ++ ([])))) ?_ ?_
  ·
   refine qa ?_
   refine fy HF HM 0 rfl rfl rfl (v := .agg (b.cells Ab cb)) (Yl.zg rfl rfl si_bk rfl (fun _ h => qd (h.blk (i := 0) rfl))) fun a HF => ?_
   refine fo HF 1 rfl rfl ?_
   refine e_is HF HM [.agg (b.cells Ab cb)] (vI 0) rfl rfl (qge b hF0.ok Ab cb B _ (hL.mem HM hB) (HM.le hB) (hbat (HbRd.at (Mem.qq1 (a := [.blk g13 (b.cells Ab cb) 41, .row (vS gA1 q.length c1) q.length (q.flatMap hbL) 41 5, .row (.slice Am x.items.length cm) x.items.length (x.items.flatMap itL) 47 12, .blk g2 (x.cells A c A2 c2) 31]) HM) hi53) hxx) (by omega) hF0.err) fun w58 hbw HM a HF => ?_
   refine fp HF 3 2 [(61, vP g13 4), (60, .bool false)] fun a HF => ?_
   refine fy HF HM 5 rfl rfl rfl (v := .slice Ab b.evs.length cb) (Yl.qi rfl rfl (by kernel_rfl) (fun _ h => h.cell (i := 0) rfl (rfl))) fun a HF => ?_
   refine fy HF HM 6 rfl rfl rfl (Yl.len rfl rfl (by kernel_rfl)) fun a HF => ?_
   refine fp HF 2 7 [(65, .bool (decide ((b.evs.length : Int) > (lim : Int))))] fun a HF => ?_
   replace HF := HF.sp 65 (.bool false) rfl (by rw [decide_eq_false (by omega)])
   refine fp HF 3 9 [(68, .slice Am x.items.length cm), (67, .bool false)] fun a HF => ?_
   refine fy HF HM 12 rfl rfl rfl (Yl.len rfl rfl (by kernel_rfl)) fun a HF => ?_
   refine fp HF 2 13 [(71, .bool (decide ((x.items.length : Int) > (0 : Int))))] fun a HF => ?_
   rcases HF.tf 71 rfl with ⟨hb71, HF⟩ | ⟨hb71, HF⟩
   ·
    have hd71 := of_decide_eq_true hb71
    refine fp HF 1 15 [(72, vP g13 4)] fun a HF => ?_
    refine fy HF HM 16 rfl rfl rfl (v := .slice Ab b.evs.length cb) (Yl.qi rfl rfl (by kernel_rfl) (fun _ h => h.cell (i := 0) rfl (rfl))) fun a HF => ?_
    refine fy HF HM 17 rfl rfl rfl (Yl.len rfl rfl (by kernel_rfl)) fun a HF => ?_
    refine fp HF 1 18 [(75, .bool ((b.evs.length : Int) == (0 : Int)))] fun a HF => ?_
    replace HF := HF.sp 75 (.bool false) rfl (by rw [beq_eq_false_iff_ne.2 (by have := f6 (by omega); omega)])
    refine fp HF 2 19 [(77, .bool false)] fun a HF => ?_
    refine qb rfl ?_
    have HF := HF.as (t := 77) (u := .bool false) rfl (rfl)
    exact ⟨HF.sub (by kernel_rfl), HM.picksT 4 [0, 1, 2, 3] (by decide) (by decide) rfl⟩
   have hd71 := of_decide_eq_false hb71
   refine fp HF 6 15 [(77, .bool false)] fun a HF => ?_
   refine qb rfl ?_
   have HF := HF.as (t := 77) (u := .bool false) rfl (rfl)
   exact ⟨HF.sub (by kernel_rfl), HM.picksT 4 [0, 1, 2, 3] (by decide) (by decide) rfl⟩
  clear HF HM; rintro a w12 ⟨HF, HM⟩
  refine qe HF rfl (wp_skip (wp_seq (qa ?_)))
  refine fp HF 2 0 [(79, vP g13 4), (78, vI (atN bs i : Nat))] fun a HF => ?_
  refine fy HF HM 2 rfl rfl rfl (v := .slice Ab b.evs.length cb) (Yl.qi rfl rfl (by kernel_rfl) (fun _ h => h.cell (i := 0) rfl (rfl))) fun a HF => ?_
  refine fy HF HM 3 rfl rfl rfl (Yl.len rfl rfl (by kernel_rfl)) fun a HF => ?_
  refine fp HF 1 4 [(82, vI (IntKind.i64.wrap (((atN bs i : Nat) : Int) + (b.evs.length : Int))))] fun a HF => ?_
  replace HF := HF.sp 82 (vI (atN bs (i + 1) : Nat)) rfl (by rw [hats2]; exact ql (by omega) (by omega))
  refine fp HF 1 5 [(11, vI (atN bs (i + 1) : Nat))] fun a HF => ?_
  refine qb rfl (wp_seq (wp_seq (qa ?_)))
  refine fp HF 2 0 [(84, .slice Am x.items.length cm), (83, vI (atN bs (i + 1) : Nat))] fun a HF => ?_
  refine fy HF HM 2 rfl rfl rfl (Yl.len rfl rfl (by kernel_rfl)) fun a HF => ?_
  refine fp HF 1 3 [(86, .bool (decide (((atN bs (i + 1) : Nat) : Int) > (x.items.length : Int))))] fun a HF => ?_
  replace HF := HF.sp 86 (.bool false) rfl (by rw [decide_eq_false (by omega)])
  refine fp HF 3 4 [(89, .slice Am x.items.length cm), (88, vI (atN bs (i + 1) : Nat)), (87, .bool false)] fun a HF => ?_
  refine fy HF HM 7 rfl rfl rfl (Yl.len rfl rfl (by kernel_rfl)) fun a HF => ?_
  refine fp HF 3 8 [(93, vI (IntKind.i64.wrap ((i : Int) + 1))), (91, .bool (decide (((atN bs (i + 1) : Nat) : Int) < (x.items.length : Int))))] fun a HF => ?_
  replace HF := HF.sp 93 (vI (i + 1 : Nat)) rfl (ql (by omega) (by omega))
  refine fp HF 1 11 [(94, vS gA1 q.length c1)] fun a HF => ?_
  refine fy HF HM 12 rfl rfl rfl (Yl.len rfl rfl (by kernel_rfl)) fun a HF => ?_
  refine fp HF 1 13 [(96, .bool (decide (((i + 1 : Nat) : Int) < (q.length : Int))))] fun a HF => ?_
  refine fy HF HM 14 rfl rfl rfl (v := .bool (!((decide (((atN bs (i + 1) : Nat) : Int) < (x.items.length : Int))) == (decide (((i + 1 : Nat) : Int) < (q.length : Int)))))) (Yl.qll rfl rfl rfl (by kernel_rfl)) fun a HF => ?_
  replace HF := HF.sp 97 (.bool false) rfl (quh ⟨fun h => by have := f3 (by omega); omega, fun h => by have := f4 (by omega); omega⟩)
  refine fp HF 1 15 [(98, .bool false)] fun a HF => ?_
  refine qb rfl (qe HF rfl (wp_skip (wp_seq (wp_seq (qa ?_)))))
  refine fp HF 2 0 [(100, .slice Am x.items.length cm), (99, vI (atN bs (i + 1) : Nat))] fun a HF => ?_
  refine fy HF HM 2 rfl rfl rfl (Yl.len rfl rfl (by kernel_rfl)) fun a HF => ?_
  refine fp HF 2 3 [(103, .bool (((atN bs (i + 1) : Nat) : Int) == (x.items.length : Int)))] fun a HF => ?_
  rcases HF.tf 103 rfl with ⟨hb103, HF⟩ | ⟨hb103, HF⟩
  ·
   have hd103 := eq_of_beq hb103
   refine fp HF 6 5 [(109, .bool true)] fun a HF => ?_
   refine qb rfl (qf HF rfl (wp_exit (qa ?_)))
   refine fp HF 1 0 [(147, vI (IntKind.i64.wrap ((i : Int) + 1)))] fun a HF => ?_
   replace HF := HF.sp 147 (vI (i + 1 : Nat)) rfl (ql (by omega) (by omega))
   refine fp HF 1 1 [(52, vI (i + 1 : Nat))] fun a HF => ?_
   refine qb rfl ?_
   exact ⟨_, (by omega), i + 1, by omega, rfl, HF.sub (by kernel_rfl), HM.picksT 4 [1, 2, 3] (by decide) (by decide) rfl⟩
  have hd103 := ne_of_beq_false hb103
  refine fp HF 1 5 [(104, vP g13 4)] fun a HF => ?_
  refine fy HF HM 6 rfl rfl rfl (v := .slice Ab b.evs.length cb) (Yl.qi rfl rfl (by kernel_rfl) (fun _ h => h.cell (i := 0) rfl (rfl))) fun a HF => ?_
  refine fy HF HM 7 rfl rfl rfl (Yl.len rfl rfl (by kernel_rfl)) fun a HF => ?_
  refine fp HF 3 8 [(109, .bool ((b.evs.length : Int) == (lim : Int)))] fun a HF => ?_
  refine qb rfl ?_
  rcases HF.tf 109 rfl with ⟨hb109, HF⟩ | ⟨hb109, HF⟩
  ·
   have hd109 := eq_of_beq hb109
   refine qf HF rfl (wp_exit (qa ?_))
   refine fp HF 1 0 [(147, vI (IntKind.i64.wrap ((i : Int) + 1)))] fun a HF => ?_
   replace HF := HF.sp 147 (vI (i + 1 : Nat)) rfl (ql (by omega) (by omega))
   refine fp HF 1 1 [(52, vI (i + 1 : Nat))] fun a HF => ?_
   refine qb rfl ?_
   exact ⟨_, (by omega), i + 1, by omega, rfl, HF.sub (by kernel_rfl), HM.picksT 4 [1, 2, 3] (by decide) (by decide) rfl⟩
  have hd109 := ne_of_beq_false hb109
  have hlt : atN bs (i + 1) < x.items.length := by omega
  have hne : b.evs.length ≠ lim := by omega
  obtain ⟨hmo, hme⟩ := hF0.more (by omega) hne
  rw [← hats2] at hmo hme
  have hIt := hL0 _ (qbo It.zero hlt)
  have hbn := qde hx _ (qbo It.zero hlt)
  obtain ⟨gAm, rfl⟩ := qbp (HM.own (i := 2) rfl) (Nat.lt_of_le_of_lt (Nat.zero_le _) (show atN bs (i + 1) < x.items.length from hlt))
  refine qe HF rfl (wp_skip (wp_seq ?_))
  refine qpf HM (.blk g13 (b.cells Ab cb) 41 :: .row (vS gA1 q.length c1) q.length (q.flatMap hbL) 41 5 :: .row (vS gAm x.items.length cm) x.items.length (x.items.flatMap itL) 47 12 :: .blk g2 (x.cells A c A2 c2) 31 :: (hbF 45 q ++ ([]))) 4 [0, 1, 2, 3] [25] fun HM HS => ?_
  refine qb1 (f := 0) (l := #[true, true, true, true, true, true, true, true, true, true, true, true, true, true, true, true, true, true, true, true, true, true, true, true, true, true]) (fun aS wS => ∃ (g122 : Nat) (A125 : Option Addr) (c125 : Nat) (g131 : Nat) (A132 : Option Addr) (c132 : Nat) (g14 : Nat), Fr aS 148 [] [(14, vP g14 0), (133, .agg #[vB b.kind, vB b.cpu, vI (b.lost + (x.items.getD (atN bs (i + 1)) It.zero).before), vI 0, .slice A132 ((0 + b.evs.length) + 1) c132]), (132, .slice A132 ((0 + b.evs.length) + 1) c132), (131, vS g131 1 1), (125, .slice A125 (0 + b.evs.length) c125), (122, vS g122 0 0), (130, .agg ((x.items.getD (atN bs (i + 1)) It.zero).e.cells)), (129, vP gAm ((atN bs (i + 1)) * 12)), (128, vP gAm ((atN bs (i + 1)) * 12)), (124, .slice Ab b.evs.length cb), (121, vI (b.lost + (x.items.getD (atN bs (i + 1)) It.zero).before)), (120, vI ((x.items.getD (atN bs (i + 1)) It.zero).before)), (119, vP gAm ((atN bs (i + 1)) * 12 + 11)), (118, vP gAm ((atN bs (i + 1)) * 12)), (115, vI b.lost), (113, vB b.cpu), (111, vB b.kind), (127, vI (atN bs (i + 1) : Nat)), (126, vS gAm x.items.length cm), (123, vP g13 4), (117, vI (atN bs (i + 1) : Nat)), (116, vS gAm x.items.length cm), (114, vP g13 2), (112, vP g13 1), (110, vP g13 0), (109, .bool false), (106, vI b.evs.length), (105, .slice Ab b.evs.length cb), (104, vP g13 4), (103, .bool false), (101, vI x.items.length), (100, vS gAm x.items.length cm), (99, vI (atN bs (i + 1) : Nat)), (98, .bool false), (97, .bool false), (96, .bool (decide (((i + 1 : Nat) : Int) < (q.length : Int)))), (95, vI q.length), (94, vS gA1 q.length c1), (93, vI (i + 1 : Nat)), (91, .bool (decide (((atN bs (i + 1) : Nat) : Int) < (x.items.length : Int)))), (90, vI x.items.length), (89, vS gAm x.items.length cm), (88, vI (atN bs (i + 1) : Nat)), (87, .bool false), (86, .bool false), (85, vI x.items.length), (84, vS gAm x.items.length cm), (83, vI (atN bs (i + 1) : Nat)), (11, vI (atN bs (i + 1) : Nat)), (82, vI (atN bs (i + 1) : Nat)), (81, vI b.evs.length), (80, .slice Ab b.evs.length cb), (79, vP g13 4), (78, vI (atN bs i : Nat)), (77, .bool false), (12, vI i), (13, vP g13 0), (53, .bool true), (52, vI i), (51, vI q.length), (50, vS gA1 q.length c1), (49, .bool false), (9, vS gA1 q.length c1), (8, vI lim), (7, vI x.opn), (6, vS gAm x.items.length cm), (16, .bool false), (4, .bool false)] ∧ Mem w wS (.blk g14 #[vB b.kind, vB b.cpu, vI (b.lost + (x.items.getD (atN bs (i + 1)) It.zero).before), vI 0, .slice A132 ((0 + b.evs.length) + 1) c132] 41 :: .blk g131 ((x.items.getD (atN bs (i + 1)) It.zero).e.cells) 45 :: .row (.slice A132 ((0 + b.evs.length) + 1) c132) ((0 + b.evs.length) + 1) ((b.evs ++ [(x.items.getD (atN bs (i + 1)) It.zero).e]).flatMap evL) 45 11 :: .blk g13 (b.cells Ab cb) 41 :: .row (vS gA1 q.length c1) q.length (q.flatMap hbL) 41 5 :: .row (vS gAm x.items.length cm) x.items.length (x.items.flatMap itL) 47 12 :: .blk g2 (x.cells A c A2 c2) 31 :: (hbF 45 q ++ ([]))) ∧ (0 + b.evs.length ≤ c125) ∧ ((0 + b.evs.length) + 1 ≤ c132)) ?_ fun M18_0 => ?_
  ·
   clear HF HM HS; rintro a wM ⟨g122, A125, c125, g131, A132, c132, g14, HF, HM, hc125, hc132⟩
   refine qn (by kernel_rfl) ?_
   replace HF := HF.to [(14, vP g14 0), (109, .bool false), (98, .bool false), (11, vI (atN bs (i + 1) : Nat)), (77, .bool false), (12, vI i), (13, vP g13 0), (53, .bool true), (52, vI i), (51, vI q.length), (50, vS gA1 q.length c1), (49, .bool false), (9, vS gA1 q.length c1), (8, vI lim), (7, vI x.opn), (6, vS gAm x.items.length cm), (16, .bool false), (4, .bool false)]
   refine wp_seq (wp_seq (qa ?_))
   refine fp HF 2 0 [(135, vI (IntKind.i64.wrap (((atN bs (i + 1) : Nat) : Int) + 1)))] fun a HF => ?_
   replace HF := HF.sp 135 (vI (atN bs (i + 1) + 1 : Nat)) rfl (ql (by omega) (by omega))
   refine fp HF 1 2 [(136, vS gAm x.items.length cm)] fun a HF => ?_
   refine fy HF HM 3 rfl rfl rfl (Yl.len rfl rfl (by kernel_rfl)) fun a HF => ?_
   refine fp HF 1 4 [(138, .bool (((atN bs (i + 1) + 1 : Nat) : Int) == (x.items.length : Int)))] fun a HF => ?_
   refine qb rfl ?_
   rcases HF.tf 138 rfl with ⟨hb138, HF⟩ | ⟨hb138, HF⟩
   ·
    have hd138 := eq_of_beq hb138
    refine qf HF rfl (qa ?_)
    refine fp HF 1 0 [(139, vP g14 2)] fun a HF => ?_
    refine fy HF HM 1 rfl rfl rfl (Yl.qi rfl rfl (by kernel_rfl) (fun _ h => h.cell (i := 0) rfl rfl)) fun a HF => ?_
    refine fp HF 2 2 [(142, vI (IntKind.i64.wrap ((b.lost + (x.items.getD (atN bs (i + 1)) It.zero).before) + (x.opn : Int))))] fun a HF => ?_
    replace HF := HF.sp 142 (vI (b.lost + (x.items.getD (atN bs (i + 1)) It.zero).before + (x.opn : Int))) rfl (qha ⟨by omega, by omega⟩)
    refine fp HF 1 4 [(143, vP g14 2)] fun a HF => ?_
    refine fo HF 5 rfl rfl ?_
    refine qq HF HM (i := 0) rfl rfl rfl rfl (by kernel_rfl) rfl rfl (by simp) ?_
    clear HM; intro w20_5 HM
    refine qb rfl (wp_seq (qa ?_))
    refine fy HF HM 0 rfl rfl rfl (v := .agg #[vB b.kind, vB b.cpu, vI (b.lost + (x.items.getD (atN bs (i + 1)) It.zero).before + (x.opn : Int)), vI 0, .slice A132 ((0 + b.evs.length) + 1) c132]) (Yl.zg rfl rfl si_bk rfl (fun _ h => qd (h.blk (i := 0) rfl))) fun a HF => ?_
    refine fo HF 1 rfl rfl ?_
    refine e_is HF HM [.agg #[vB b.kind, vB b.cpu, vI (b.lost + (x.items.getD (atN bs (i + 1)) It.zero).before + (x.opn : Int)), vI 0, .slice A132 ((0 + b.evs.length) + 1) c132]] (vI 3) rfl rfl (qgr (moreB x.items (x.opn : Int) b (atN bs (i + 1))) hmo A132 ((0 + b.evs.length) + 1) c132 B _ (hL.mem HM hB) (HM.le hB) (by show _ = b.lost + (x.items.getD (atN bs (i + 1)) It.zero).before + _; rw [if_pos (by omega)]) rfl rfl (qml (by omega)) (HM.rd (i := 2) rfl) (by omega) hme) fun w145 hbw HM a HF => ?_
    refine fp HF 1 2 [(146, .bool false)] fun a HF => ?_
    refine qb rfl (qe HF rfl (wp_skip (qa ?_)))
    refine fp HF 1 0 [(147, vI (IntKind.i64.wrap ((i : Int) + 1)))] fun a HF => ?_
    replace HF := HF.sp 147 (vI (i + 1 : Nat)) rfl (ql (by omega) (by omega))
    refine fp HF 1 1 [(52, vI (i + 1 : Nat))] fun a HF => ?_
    refine qb rfl ?_
    exact ⟨_, (by omega), i + 1, by omega, rfl, HF.sub (by kernel_rfl), HM.picksT 7 [4, 5, 6] (by decide) (by decide) rfl⟩
   have hd138 := ne_of_beq_false hb138
   refine qe HF rfl (wp_skip (wp_seq (qa ?_)))
   refine fy HF HM 0 rfl rfl rfl (v := .agg #[vB b.kind, vB b.cpu, vI (b.lost + (x.items.getD (atN bs (i + 1)) It.zero).before), vI 0, .slice A132 ((0 + b.evs.length) + 1) c132]) (Yl.zg rfl rfl si_bk rfl (fun _ h => qd (h.blk (i := 0) rfl))) fun a HF => ?_
   refine fo HF 1 rfl rfl ?_
   refine e_is HF HM [.agg #[vB b.kind, vB b.cpu, vI (b.lost + (x.items.getD (atN bs (i + 1)) It.zero).before), vI 0, .slice A132 ((0 + b.evs.length) + 1) c132]] (vI 3) rfl rfl (qgr (moreB x.items (x.opn : Int) b (atN bs (i + 1))) hmo A132 ((0 + b.evs.length) + 1) c132 B _ (hL.mem HM hB) (HM.le hB) (by show _ = b.lost + (x.items.getD (atN bs (i + 1)) It.zero).before + _; rw [if_neg (by omega), Int.add_zero]) rfl rfl (qml (by omega)) (HM.rd (i := 2) rfl) (by omega) hme) fun w145 hbw HM a HF => ?_
   refine fp HF 1 2 [(146, .bool false)] fun a HF => ?_
   refine qb rfl (qe HF rfl (wp_skip (qa ?_)))
   refine fp HF 1 0 [(147, vI (IntKind.i64.wrap ((i : Int) + 1)))] fun a HF => ?_
   replace HF := HF.sp 147 (vI (i + 1 : Nat)) rfl (ql (by omega) (by omega))
   refine fp HF 1 1 [(52, vI (i + 1 : Nat))] fun a HF => ?_
   refine qb rfl ?_
   exact ⟨_, (by omega), i + 1, by omega, rfl, HF.sub (by kernel_rfl), HM.picksT 7 [4, 5, 6] (by decide) (by decide) rfl⟩
  refine qb1 (f := 3) (l := #[true, true, true, true, true, true, true, true, true, true, true, true, true, true, true, true, true, true, true, true, true, true, false, false, true, false]) (fun aS wS => ∃ (g122 : Nat) (A125 : Option Addr) (c125 : Nat) (g131 : Nat) (g14 : Nat), Fr aS 148 [] [(14, vP g14 0), (131, vS g131 1 1), (125, .slice A125 (0 + b.evs.length) c125), (122, vS g122 0 0), (130, .agg ((x.items.getD (atN bs (i + 1)) It.zero).e.cells)), (129, vP gAm ((atN bs (i + 1)) * 12)), (128, vP gAm ((atN bs (i + 1)) * 12)), (124, .slice Ab b.evs.length cb), (121, vI (b.lost + (x.items.getD (atN bs (i + 1)) It.zero).before)), (120, vI ((x.items.getD (atN bs (i + 1)) It.zero).before)), (119, vP gAm ((atN bs (i + 1)) * 12 + 11)), (118, vP gAm ((atN bs (i + 1)) * 12)), (115, vI b.lost), (113, vB b.cpu), (111, vB b.kind), (127, vI (atN bs (i + 1) : Nat)), (126, vS gAm x.items.length cm), (123, vP g13 4), (117, vI (atN bs (i + 1) : Nat)), (116, vS gAm x.items.length cm), (114, vP g13 2), (112, vP g13 1), (110, vP g13 0), (109, .bool false), (106, vI b.evs.length), (105, .slice Ab b.evs.length cb), (104, vP g13 4), (103, .bool false), (101, vI x.items.length), (100, vS gAm x.items.length cm), (99, vI (atN bs (i + 1) : Nat)), (98, .bool false), (97, .bool false), (96, .bool (decide (((i + 1 : Nat) : Int) < (q.length : Int)))), (95, vI q.length), (94, vS gA1 q.length c1), (93, vI (i + 1 : Nat)), (91, .bool (decide (((atN bs (i + 1) : Nat) : Int) < (x.items.length : Int)))), (90, vI x.items.length), (89, vS gAm x.items.length cm), (88, vI (atN bs (i + 1) : Nat)), (87, .bool false), (86, .bool false), (85, vI x.items.length), (84, vS gAm x.items.length cm), (83, vI (atN bs (i + 1) : Nat)), (11, vI (atN bs (i + 1) : Nat)), (82, vI (atN bs (i + 1) : Nat)), (81, vI b.evs.length), (80, .slice Ab b.evs.length cb), (79, vP g13 4), (78, vI (atN bs i : Nat)), (77, .bool false), (12, vI i), (13, vP g13 0), (53, .bool true), (52, vI i), (51, vI q.length), (50, vS gA1 q.length c1), (49, .bool false), (9, vS gA1 q.length c1), (8, vI lim), (7, vI x.opn), (6, vS gAm x.items.length cm), (16, .bool false), (4, .bool false)] ∧ Mem w wS (.blk g14 #[vB 0, vB 0, vI 0, vI 0, .slice none 0 0] 41 :: .blk g131 ((x.items.getD (atN bs (i + 1)) It.zero).e.cells) 45 :: .row (.slice A125 (0 + b.evs.length) c125) (0 + b.evs.length) (b.evs.flatMap evL) 45 11 :: .blk g13 (b.cells Ab cb) 41 :: .row (vS gA1 q.length c1) q.length (q.flatMap hbL) 41 5 :: .row (vS gAm x.items.length cm) x.items.length (x.items.flatMap itL) 47 12 :: .blk g2 (x.cells A c A2 c2) 31 :: (hbF 45 q ++ ([]))) ∧ (0 + b.evs.length ≤ c125)) ?_ fun M18_1 => ?_
  ·
   clear HF HM HS; rintro a wM ⟨g122, A125, c125, g131, g14, HF, HM, hc125⟩
   have HS := HM.picksT (fs' := (.blk g13 (b.cells Ab cb) 41 :: .row (vS gA1 q.length c1) q.length (q.flatMap hbL) 41 5 :: .row (vS gAm x.items.length cm) x.items.length (x.items.flatMap itL) 47 12 :: .blk g2 (x.cells A c A2 c2) 31 :: (hbF 45 q ++ ([])))) 7 [3, 4, 5, 6] (by decide) (by decide) rfl
   refine qg [22] (by kernel_rfl) rfl ?_
   refine all_cons ?_ all_nil
   refine qj HF (i := 22) rfl rfl ?_
   refine zh HF HM (i := 2) rfl ei_ev rfl rfl rfl (news := (evL (x.items.getD (atN bs (i + 1)) It.zero).e)) (HM.rdBlk (i := 1) (n := 1) (size := 11) rfl rfl) (zp _) (by omega) (by omega) rfl (by decide) ?_
   clear HF HM; intro a w132 A132 c132 HF HM hc132
   rw [show (b.evs.flatMap evL) ++ (evL (x.items.getD (atN bs (i + 1)) It.zero).e) = (b.evs ++ [(x.items.getD (atN bs (i + 1)) It.zero).e]).flatMap evL from by rw [List.flatMap_append, List.flatMap_singleton]] at HM
   refine keepS (HM.picksT 7 [3, 4, 5, 6] (by decide) (by decide) rfl) (fun HS => ?_)
   refine ay HF HS 23 rfl rfl rfl (v := .agg #[vB b.kind, vB b.cpu, vI (b.lost + (x.items.getD (atN bs (i + 1)) It.zero).before), vI 0, .slice A132 ((0 + b.evs.length) + 1) c132]) (Yl.build (vs := [(0, vB b.kind), (1, vB b.cpu), (2, vI (b.lost + (x.items.getD (atN bs (i + 1)) It.zero).before)), (4, .slice A132 ((0 + b.evs.length) + 1) c132)]) rfl (by kernel_rfl) (by kernel_rfl)) fun a HF => ?_
   refine qg [25] (by kernel_rfl) rfl ?_
   refine all_cons ?_ all_nil
   refine qj HF (i := 25) rfl rfl ?_
   refine e_sa HF HM 0 rfl rfl rfl rfl rfl si_bk rfl rfl (by simp [Value.oneCell']) ?_
   clear HM; intro w18_25 HM
   refine noS (by kernel_rfl) ?_
   exact M18_0 _ _ ⟨g122, A125, c125, g131, A132, c132, g14, HF.sub (by kernel_rfl), HM.picksT 7 [0, 1, 2, 3, 4, 5, 6] (by decide) (by decide) rfl, hc125, hc132⟩
  refine qb1 (f := 4) (l := #[true, true, true, true, true, true, true, true, true, true, true, true, true, true, true, true, true, true, true, true, true, true, false, false, false, false]) (fun aS wS => ∃ (g122 : Nat) (A125 : Option Addr) (c125 : Nat) (g131 : Nat), Fr aS 148 [] [(131, vS g131 1 1), (125, .slice A125 (0 + b.evs.length) c125), (122, vS g122 0 0), (130, .agg ((x.items.getD (atN bs (i + 1)) It.zero).e.cells)), (129, vP gAm ((atN bs (i + 1)) * 12)), (128, vP gAm ((atN bs (i + 1)) * 12)), (124, .slice Ab b.evs.length cb), (121, vI (b.lost + (x.items.getD (atN bs (i + 1)) It.zero).before)), (120, vI ((x.items.getD (atN bs (i + 1)) It.zero).before)), (119, vP gAm ((atN bs (i + 1)) * 12 + 11)), (118, vP gAm ((atN bs (i + 1)) * 12)), (115, vI b.lost), (113, vB b.cpu), (111, vB b.kind), (127, vI (atN bs (i + 1) : Nat)), (126, vS gAm x.items.length cm), (123, vP g13 4), (117, vI (atN bs (i + 1) : Nat)), (116, vS gAm x.items.length cm), (114, vP g13 2), (112, vP g13 1), (110, vP g13 0), (109, .bool false), (106, vI b.evs.length), (105, .slice Ab b.evs.length cb), (104, vP g13 4), (103, .bool false), (101, vI x.items.length), (100, vS gAm x.items.length cm), (99, vI (atN bs (i + 1) : Nat)), (98, .bool false), (97, .bool false), (96, .bool (decide (((i + 1 : Nat) : Int) < (q.length : Int)))), (95, vI q.length), (94, vS gA1 q.length c1), (93, vI (i + 1 : Nat)), (91, .bool (decide (((atN bs (i + 1) : Nat) : Int) < (x.items.length : Int)))), (90, vI x.items.length), (89, vS gAm x.items.length cm), (88, vI (atN bs (i + 1) : Nat)), (87, .bool false), (86, .bool false), (85, vI x.items.length), (84, vS gAm x.items.length cm), (83, vI (atN bs (i + 1) : Nat)), (11, vI (atN bs (i + 1) : Nat)), (82, vI (atN bs (i + 1) : Nat)), (81, vI b.evs.length), (80, .slice Ab b.evs.length cb), (79, vP g13 4), (78, vI (atN bs i : Nat)), (77, .bool false), (12, vI i), (13, vP g13 0), (53, .bool true), (52, vI i), (51, vI q.length), (50, vS gA1 q.length c1), (49, .bool false), (9, vS gA1 q.length c1), (8, vI lim), (7, vI x.opn), (6, vS gAm x.items.length cm), (16, .bool false), (4, .bool false)] ∧ Mem w wS (.blk g131 ((x.items.getD (atN bs (i + 1)) It.zero).e.cells) 45 :: .row (.slice A125 (0 + b.evs.length) c125) (0 + b.evs.length) (b.evs.flatMap evL) 45 11 :: .blk g13 (b.cells Ab cb) 41 :: .row (vS gA1 q.length c1) q.length (q.flatMap hbL) 41 5 :: .row (vS gAm x.items.length cm) x.items.length (x.items.flatMap itL) 47 12 :: .blk g2 (x.cells A c A2 c2) 31 :: (hbF 45 q ++ ([]))) ∧ (0 + b.evs.length ≤ c125)) ?_ fun M18_2 => ?_
  ·
   clear HF HM HS; rintro a wM ⟨g122, A125, c125, g131, HF, HM, hc125⟩
   have HS := HM.picksT (fs' := (.blk g13 (b.cells Ab cb) 41 :: .row (vS gA1 q.length c1) q.length (q.flatMap hbL) 41 5 :: .row (vS gAm x.items.length cm) x.items.length (x.items.flatMap itL) 47 12 :: .blk g2 (x.cells A c A2 c2) 31 :: (hbF 45 q ++ ([])))) 6 [2, 3, 4, 5] (by decide) (by decide) rfl
   refine qg [22, 24] (by kernel_rfl) rfl ?_
   refine all_cons ?_ ?_
   ·refine qj HF (i := 22) rfl rfl ?_
    refine zh HF HM (i := 1) rfl ei_ev rfl rfl rfl (news := (evL (x.items.getD (atN bs (i + 1)) It.zero).e)) (HM.rdBlk (i := 0) (n := 1) (size := 11) rfl rfl) (zp _) (by omega) (by omega) rfl (by decide) ?_
    clear HF HM; intro a w132 A132 c132 HF HM hc132
    rw [show (b.evs.flatMap evL) ++ (evL (x.items.getD (atN bs (i + 1)) It.zero).e) = (b.evs ++ [(x.items.getD (atN bs (i + 1)) It.zero).e]).flatMap evL from by rw [List.flatMap_append, List.flatMap_singleton]] at HM
    refine keepS (HM.picksT 6 [2, 3, 4, 5] (by decide) (by decide) rfl) (fun HS => ?_)
    refine ay HF HS 23 rfl rfl rfl (v := .agg #[vB b.kind, vB b.cpu, vI (b.lost + (x.items.getD (atN bs (i + 1)) It.zero).before), vI 0, .slice A132 ((0 + b.evs.length) + 1) c132]) (Yl.build (vs := [(0, vB b.kind), (1, vB b.cpu), (2, vI (b.lost + (x.items.getD (atN bs (i + 1)) It.zero).before)), (4, .slice A132 ((0 + b.evs.length) + 1) c132)]) rfl (by kernel_rfl) (by kernel_rfl)) fun a HF => ?_
    refine qg [24] (by kernel_rfl) rfl ?_
    refine all_cons ?_ all_nil
    refine qj HF (i := 24) rfl rfl ?_
    refine qp HF HM (cs := #[vB 0, vB 0, vI 0, vI 0, .slice none 0 0]) rfl (by kernel_rfl) rfl (by decide) ?_
    clear HF HM; intro a w14 g14 HF HM
    refine keepS (HM.picksT 7 [3, 4, 5, 6] (by decide) (by decide) rfl) (fun HS => ?_)
    refine qg [25] (by kernel_rfl) rfl ?_
    refine all_cons ?_ all_nil
    refine qj HF (i := 25) rfl rfl ?_
    refine e_sa HF HM 0 rfl rfl rfl rfl rfl si_bk rfl rfl (by simp [Value.oneCell']) ?_
    clear HM; intro w18_25 HM
    refine noS (by kernel_rfl) ?_
    exact M18_0 _ _ ⟨g122, A125, c125, g131, A132, c132, g14, HF.sub (by kernel_rfl), HM.picksT 7 [0, 1, 2, 3, 4, 5, 6] (by decide) (by decide) rfl, hc125, hc132⟩
   refine all_cons ?_ all_nil
   refine qj HF (i := 24) rfl rfl ?_
   refine qp HF HM (cs := #[vB 0, vB 0, vI 0, vI 0, .slice none 0 0]) rfl (by kernel_rfl) rfl (by decide) ?_
   clear HF HM; intro a w14 g14 HF HM
   refine keepS (HM.picksT 7 [3, 4, 5, 6] (by decide) (by decide) rfl) (fun HS => ?_)
   exact M18_1 _ _ ⟨g122, A125, c125, g131, g14, HF.sub (by kernel_rfl), HM.picksT 7 [0, 1, 2, 3, 4, 5, 6] (by decide) (by decide) rfl, hc125⟩
  refine qb1 (f := 4) (l := #[true, true, true, true, true, true, true, true, true, true, true, true, true, true, true, true, true, true, true, true, true, false, false, false, true, false]) (fun aS wS => ∃ (g122 : Nat) (A125 : Option Addr) (c125 : Nat) (g14 : Nat), Fr aS 148 [] [(14, vP g14 0), (125, .slice A125 (0 + b.evs.length) c125), (122, vS g122 0 0), (130, .agg ((x.items.getD (atN bs (i + 1)) It.zero).e.cells)), (129, vP gAm ((atN bs (i + 1)) * 12)), (128, vP gAm ((atN bs (i + 1)) * 12)), (124, .slice Ab b.evs.length cb), (121, vI (b.lost + (x.items.getD (atN bs (i + 1)) It.zero).before)), (120, vI ((x.items.getD (atN bs (i + 1)) It.zero).before)), (119, vP gAm ((atN bs (i + 1)) * 12 + 11)), (118, vP gAm ((atN bs (i + 1)) * 12)), (115, vI b.lost), (113, vB b.cpu), (111, vB b.kind), (127, vI (atN bs (i + 1) : Nat)), (126, vS gAm x.items.length cm), (123, vP g13 4), (117, vI (atN bs (i + 1) : Nat)), (116, vS gAm x.items.length cm), (114, vP g13 2), (112, vP g13 1), (110, vP g13 0), (109, .bool false), (106, vI b.evs.length), (105, .slice Ab b.evs.length cb), (104, vP g13 4), (103, .bool false), (101, vI x.items.length), (100, vS gAm x.items.length cm), (99, vI (atN bs (i + 1) : Nat)), (98, .bool false), (97, .bool false), (96, .bool (decide (((i + 1 : Nat) : Int) < (q.length : Int)))), (95, vI q.length), (94, vS gA1 q.length c1), (93, vI (i + 1 : Nat)), (91, .bool (decide (((atN bs (i + 1) : Nat) : Int) < (x.items.length : Int)))), (90, vI x.items.length), (89, vS gAm x.items.length cm), (88, vI (atN bs (i + 1) : Nat)), (87, .bool false), (86, .bool false), (85, vI x.items.length), (84, vS gAm x.items.length cm), (83, vI (atN bs (i + 1) : Nat)), (11, vI (atN bs (i + 1) : Nat)), (82, vI (atN bs (i + 1) : Nat)), (81, vI b.evs.length), (80, .slice Ab b.evs.length cb), (79, vP g13 4), (78, vI (atN bs i : Nat)), (77, .bool false), (12, vI i), (13, vP g13 0), (53, .bool true), (52, vI i), (51, vI q.length), (50, vS gA1 q.length c1), (49, .bool false), (9, vS gA1 q.length c1), (8, vI lim), (7, vI x.opn), (6, vS gAm x.items.length cm), (16, .bool false), (4, .bool false)] ∧ Mem w wS (.blk g14 #[vB 0, vB 0, vI 0, vI 0, .slice none 0 0] 41 :: .row (.slice A125 (0 + b.evs.length) c125) (0 + b.evs.length) (b.evs.flatMap evL) 45 11 :: .blk g13 (b.cells Ab cb) 41 :: .row (vS gA1 q.length c1) q.length (q.flatMap hbL) 41 5 :: .row (vS gAm x.items.length cm) x.items.length (x.items.flatMap itL) 47 12 :: .blk g2 (x.cells A c A2 c2) 31 :: (hbF 45 q ++ ([]))) ∧ (0 + b.evs.length ≤ c125)) ?_ fun M18_3 => ?_
  ·
   clear HF HM HS; rintro a wM ⟨g122, A125, c125, g14, HF, HM, hc125⟩
   have HS := HM.picksT (fs' := (.blk g13 (b.cells Ab cb) 41 :: .row (vS gA1 q.length c1) q.length (q.flatMap hbL) 41 5 :: .row (vS gAm x.items.length cm) x.items.length (x.items.flatMap itL) 47 12 :: .blk g2 (x.cells A c A2 c2) 31 :: (hbF 45 q ++ ([])))) 6 [2, 3, 4, 5] (by decide) (by decide) rfl
   refine qg [21] (by kernel_rfl) rfl ?_
   refine all_cons ?_ all_nil
   refine qj HF (i := 21) rfl rfl ?_
   refine zo HF HM (vs := [(0, .agg ((x.items.getD (atN bs (i + 1)) It.zero).e.cells))]) (cs := (x.items.getD (atN bs (i + 1)) It.zero).e.cells) rfl ei_ev (by decide) rfl (by kernel_rfl) rfl (by decide) ?_
   clear HF HM; intro a w131 g131 HF HM
   refine keepS (HM.picksT 7 [3, 4, 5, 6] (by decide) (by decide) rfl) (fun HS => ?_)
   exact M18_1 _ _ ⟨g122, A125, c125, g131, g14, HF.sub (by kernel_rfl), HM.picksT 7 [1, 0, 2, 3, 4, 5, 6] (by decide) (by decide) rfl, hc125⟩
  refine qb1 (f := 4) (l := #[true, true, true, true, true, true, true, true, true, true, true, true, true, true, true, false, true, true, true, true, true, true, false, false, true, false]) (fun aS wS => ∃ (g122 : Nat) (g131 : Nat) (g14 : Nat), Fr aS 148 [] [(14, vP g14 0), (131, vS g131 1 1), (122, vS g122 0 0), (130, .agg ((x.items.getD (atN bs (i + 1)) It.zero).e.cells)), (129, vP gAm ((atN bs (i + 1)) * 12)), (128, vP gAm ((atN bs (i + 1)) * 12)), (124, .slice Ab b.evs.length cb), (121, vI (b.lost + (x.items.getD (atN bs (i + 1)) It.zero).before)), (120, vI ((x.items.getD (atN bs (i + 1)) It.zero).before)), (119, vP gAm ((atN bs (i + 1)) * 12 + 11)), (118, vP gAm ((atN bs (i + 1)) * 12)), (115, vI b.lost), (113, vB b.cpu), (111, vB b.kind), (127, vI (atN bs (i + 1) : Nat)), (126, vS gAm x.items.length cm), (123, vP g13 4), (117, vI (atN bs (i + 1) : Nat)), (116, vS gAm x.items.length cm), (114, vP g13 2), (112, vP g13 1), (110, vP g13 0), (109, .bool false), (106, vI b.evs.length), (105, .slice Ab b.evs.length cb), (104, vP g13 4), (103, .bool false), (101, vI x.items.length), (100, vS gAm x.items.length cm), (99, vI (atN bs (i + 1) : Nat)), (98, .bool false), (97, .bool false), (96, .bool (decide (((i + 1 : Nat) : Int) < (q.length : Int)))), (95, vI q.length), (94, vS gA1 q.length c1), (93, vI (i + 1 : Nat)), (91, .bool (decide (((atN bs (i + 1) : Nat) : Int) < (x.items.length : Int)))), (90, vI x.items.length), (89, vS gAm x.items.length cm), (88, vI (atN bs (i + 1) : Nat)), (87, .bool false), (86, .bool false), (85, vI x.items.length), (84, vS gAm x.items.length cm), (83, vI (atN bs (i + 1) : Nat)), (11, vI (atN bs (i + 1) : Nat)), (82, vI (atN bs (i + 1) : Nat)), (81, vI b.evs.length), (80, .slice Ab b.evs.length cb), (79, vP g13 4), (78, vI (atN bs i : Nat)), (77, .bool false), (12, vI i), (13, vP g13 0), (53, .bool true), (52, vI i), (51, vI q.length), (50, vS gA1 q.length c1), (49, .bool false), (9, vS gA1 q.length c1), (8, vI lim), (7, vI x.opn), (6, vS gAm x.items.length cm), (16, .bool false), (4, .bool false)] ∧ Mem w wS (.blk g14 #[vB 0, vB 0, vI 0, vI 0, .slice none 0 0] 41 :: .blk g131 ((x.items.getD (atN bs (i + 1)) It.zero).e.cells) 45 :: .row (vS g122 0 0) 0 [] 45 11 :: .blk g13 (b.cells Ab cb) 41 :: .row (vS gA1 q.length c1) q.length (q.flatMap hbL) 41 5 :: .row (vS gAm x.items.length cm) x.items.length (x.items.flatMap itL) 47 12 :: .blk g2 (x.cells A c A2 c2) 31 :: (hbF 45 q ++ ([])))) ?_ fun M18_4 => ?_
  ·
   clear HF HM HS; rintro a wM ⟨g122, g131, g14, HF, HM⟩
   have HS := HM.picksT (fs' := (.blk g13 (b.cells Ab cb) 41 :: .row (vS gA1 q.length c1) q.length (q.flatMap hbL) 41 5 :: .row (vS gAm x.items.length cm) x.items.length (x.items.flatMap itL) 47 12 :: .blk g2 (x.cells A c A2 c2) 31 :: (hbF 45 q ++ ([])))) 7 [3, 4, 5, 6] (by decide) (by decide) rfl
   refine qg [15] (by kernel_rfl) rfl ?_
   refine all_cons ?_ all_nil
   refine qj HF (i := 15) rfl rfl ?_
   refine zh HF HM (i := 2) rfl ei_ev rfl rfl rfl (news := (b.evs.flatMap evL)) (hbat (HbRd.at (Mem.qq1 (a := [.blk g14 #[vB 0, vB 0, vI 0, vI 0, .slice none 0 0] 41, .blk g131 ((x.items.getD (atN bs (i + 1)) It.zero).e.cells) 45, .row (vS g122 0 0) 0 [] 45 11, .blk g13 (b.cells Ab cb) 41, .row (vS gA1 q.length c1) q.length (q.flatMap hbL) 41 5, .row (vS gAm x.items.length cm) x.items.length (x.items.flatMap itL) 47 12, .blk g2 (x.cells A c A2 c2) 31]) HM) hi53) hxx) (qiq _) (by omega) (by omega) rfl (by decide) ?_
   clear HF HM; intro a w125 A125 c125 HF HM hc125
   rw [show [] ++ (b.evs.flatMap evL) = b.evs.flatMap evL from by rw [List.nil_append]] at HM
   refine keepS (HM.picksT 7 [3, 4, 5, 6] (by decide) (by decide) rfl) (fun HS => ?_)
   exact M18_1 _ _ ⟨g122, A125, c125, g131, g14, HF.sub (by kernel_rfl), HM.picksT 7 [0, 1, 2, 3, 4, 5, 6] (by decide) (by decide) rfl, hc125⟩
  refine qb1 (f := 5) (l := #[true, true, true, true, true, true, true, true, true, true, true, true, true, true, true, false, true, true, true, true, true, true, false, false, false, false]) (fun aS wS => ∃ (g122 : Nat) (g131 : Nat), Fr aS 148 [] [(131, vS g131 1 1), (122, vS g122 0 0), (130, .agg ((x.items.getD (atN bs (i + 1)) It.zero).e.cells)), (129, vP gAm ((atN bs (i + 1)) * 12)), (128, vP gAm ((atN bs (i + 1)) * 12)), (124, .slice Ab b.evs.length cb), (121, vI (b.lost + (x.items.getD (atN bs (i + 1)) It.zero).before)), (120, vI ((x.items.getD (atN bs (i + 1)) It.zero).before)), (119, vP gAm ((atN bs (i + 1)) * 12 + 11)), (118, vP gAm ((atN bs (i + 1)) * 12)), (115, vI b.lost), (113, vB b.cpu), (111, vB b.kind), (127, vI (atN bs (i + 1) : Nat)), (126, vS gAm x.items.length cm), (123, vP g13 4), (117, vI (atN bs (i + 1) : Nat)), (116, vS gAm x.items.length cm), (114, vP g13 2), (112, vP g13 1), (110, vP g13 0), (109, .bool false), (106, vI b.evs.length), (105, .slice Ab b.evs.length cb), (104, vP g13 4), (103, .bool false), (101, vI x.items.length), (100, vS gAm x.items.length cm), (99, vI (atN bs (i + 1) : Nat)), (98, .bool false), (97, .bool false), (96, .bool (decide (((i + 1 : Nat) : Int) < (q.length : Int)))), (95, vI q.length), (94, vS gA1 q.length c1), (93, vI (i + 1 : Nat)), (91, .bool (decide (((atN bs (i + 1) : Nat) : Int) < (x.items.length : Int)))), (90, vI x.items.length), (89, vS gAm x.items.length cm), (88, vI (atN bs (i + 1) : Nat)), (87, .bool false), (86, .bool false), (85, vI x.items.length), (84, vS gAm x.items.length cm), (83, vI (atN bs (i + 1) : Nat)), (11, vI (atN bs (i + 1) : Nat)), (82, vI (atN bs (i + 1) : Nat)), (81, vI b.evs.length), (80, .slice Ab b.evs.length cb), (79, vP g13 4), (78, vI (atN bs i : Nat)), (77, .bool false), (12, vI i), (13, vP g13 0), (53, .bool true), (52, vI i), (51, vI q.length), (50, vS gA1 q.length c1), (49, .bool false), (9, vS gA1 q.length c1), (8, vI lim), (7, vI x.opn), (6, vS gAm x.items.length cm), (16, .bool false), (4, .bool false)] ∧ Mem w wS (.blk g131 ((x.items.getD (atN bs (i + 1)) It.zero).e.cells) 45 :: .row (vS g122 0 0) 0 [] 45 11 :: .blk g13 (b.cells Ab cb) 41 :: .row (vS gA1 q.length c1) q.length (q.flatMap hbL) 41 5 :: .row (vS gAm x.items.length cm) x.items.length (x.items.flatMap itL) 47 12 :: .blk g2 (x.cells A c A2 c2) 31 :: (hbF 45 q ++ ([])))) ?_ fun M18_5 => ?_
  ·
   clear HF HM HS; rintro a wM ⟨g122, g131, HF, HM⟩
   have HS := HM.picksT (fs' := (.blk g13 (b.cells Ab cb) 41 :: .row (vS gA1 q.length c1) q.length (q.flatMap hbL) 41 5 :: .row (vS gAm x.items.length cm) x.items.length (x.items.flatMap itL) 47 12 :: .blk g2 (x.cells A c A2 c2) 31 :: (hbF 45 q ++ ([])))) 6 [2, 3, 4, 5] (by decide) (by decide) rfl
   refine qg [15, 24] (by kernel_rfl) rfl ?_
   refine all_cons ?_ ?_
   ·refine qj HF (i := 15) rfl rfl ?_
    refine zh HF HM (i := 1) rfl ei_ev rfl rfl rfl (news := (b.evs.flatMap evL)) (hbat (HbRd.at (Mem.qq1 (a := [.blk g131 ((x.items.getD (atN bs (i + 1)) It.zero).e.cells) 45, .row (vS g122 0 0) 0 [] 45 11, .blk g13 (b.cells Ab cb) 41, .row (vS gA1 q.length c1) q.length (q.flatMap hbL) 41 5, .row (vS gAm x.items.length cm) x.items.length (x.items.flatMap itL) 47 12, .blk g2 (x.cells A c A2 c2) 31]) HM) hi53) hxx) (qiq _) (by omega) (by omega) rfl (by decide) ?_
    clear HF HM; intro a w125 A125 c125 HF HM hc125
    rw [show [] ++ (b.evs.flatMap evL) = b.evs.flatMap evL from by rw [List.nil_append]] at HM
    refine keepS (HM.picksT 6 [2, 3, 4, 5] (by decide) (by decide) rfl) (fun HS => ?_)
    exact M18_2 _ _ ⟨g122, A125, c125, g131, HF.sub (by kernel_rfl), HM.picksT 6 [0, 1, 2, 3, 4, 5] (by decide) (by decide) rfl, hc125⟩
   refine all_cons ?_ all_nil
   refine qj HF (i := 24) rfl rfl ?_
   refine qp HF HM (cs := #[vB 0, vB 0, vI 0, vI 0, .slice none 0 0]) rfl (by kernel_rfl) rfl (by decide) ?_
   clear HF HM; intro a w14 g14 HF HM
   refine keepS (HM.picksT 7 [3, 4, 5, 6] (by decide) (by decide) rfl) (fun HS => ?_)
   exact M18_4 _ _ ⟨g122, g131, g14, HF.sub (by kernel_rfl), HM.picksT 7 [0, 1, 2, 3, 4, 5, 6] (by decide) (by decide) rfl⟩
  refine qb1 (f := 5) (l := #[true, true, true, true, true, true, true, true, true, true, true, true, true, true, true, false, true, true, true, true, true, false, false, false, true, false]) (fun aS wS => ∃ (g122 : Nat) (g14 : Nat), Fr aS 148 [] [(14, vP g14 0), (122, vS g122 0 0), (130, .agg ((x.items.getD (atN bs (i + 1)) It.zero).e.cells)), (129, vP gAm ((atN bs (i + 1)) * 12)), (128, vP gAm ((atN bs (i + 1)) * 12)), (124, .slice Ab b.evs.length cb), (121, vI (b.lost + (x.items.getD (atN bs (i + 1)) It.zero).before)), (120, vI ((x.items.getD (atN bs (i + 1)) It.zero).before)), (119, vP gAm ((atN bs (i + 1)) * 12 + 11)), (118, vP gAm ((atN bs (i + 1)) * 12)), (115, vI b.lost), (113, vB b.cpu), (111, vB b.kind), (127, vI (atN bs (i + 1) : Nat)), (126, vS gAm x.items.length cm), (123, vP g13 4), (117, vI (atN bs (i + 1) : Nat)), (116, vS gAm x.items.length cm), (114, vP g13 2), (112, vP g13 1), (110, vP g13 0), (109, .bool false), (106, vI b.evs.length), (105, .slice Ab b.evs.length cb), (104, vP g13 4), (103, .bool false), (101, vI x.items.length), (100, vS gAm x.items.length cm), (99, vI (atN bs (i + 1) : Nat)), (98, .bool false), (97, .bool false), (96, .bool (decide (((i + 1 : Nat) : Int) < (q.length : Int)))), (95, vI q.length), (94, vS gA1 q.length c1), (93, vI (i + 1 : Nat)), (91, .bool (decide (((atN bs (i + 1) : Nat) : Int) < (x.items.length : Int)))), (90, vI x.items.length), (89, vS gAm x.items.length cm), (88, vI (atN bs (i + 1) : Nat)), (87, .bool false), (86, .bool false), (85, vI x.items.length), (84, vS gAm x.items.length cm), (83, vI (atN bs (i + 1) : Nat)), (11, vI (atN bs (i + 1) : Nat)), (82, vI (atN bs (i + 1) : Nat)), (81, vI b.evs.length), (80, .slice Ab b.evs.length cb), (79, vP g13 4), (78, vI (atN bs i : Nat)), (77, .bool false), (12, vI i), (13, vP g13 0), (53, .bool true), (52, vI i), (51, vI q.length), (50, vS gA1 q.length c1), (49, .bool false), (9, vS gA1 q.length c1), (8, vI lim), (7, vI x.opn), (6, vS gAm x.items.length cm), (16, .bool false), (4, .bool false)] ∧ Mem w wS (.blk g14 #[vB 0, vB 0, vI 0, vI 0, .slice none 0 0] 41 :: .row (vS g122 0 0) 0 [] 45 11 :: .blk g13 (b.cells Ab cb) 41 :: .row (vS gA1 q.length c1) q.length (q.flatMap hbL) 41 5 :: .row (vS gAm x.items.length cm) x.items.length (x.items.flatMap itL) 47 12 :: .blk g2 (x.cells A c A2 c2) 31 :: (hbF 45 q ++ ([])))) ?_ fun M18_6 => ?_
  ·
   clear HF HM HS; rintro a wM ⟨g122, g14, HF, HM⟩
   have HS := HM.picksT (fs' := (.blk g13 (b.cells Ab cb) 41 :: .row (vS gA1 q.length c1) q.length (q.flatMap hbL) 41 5 :: .row (vS gAm x.items.length cm) x.items.length (x.items.flatMap itL) 47 12 :: .blk g2 (x.cells A c A2 c2) 31 :: (hbF 45 q ++ ([])))) 6 [2, 3, 4, 5] (by decide) (by decide) rfl
   refine qg [15, 21] (by kernel_rfl) rfl ?_
   refine all_cons ?_ ?_
   ·refine qj HF (i := 15) rfl rfl ?_
    refine zh HF HM (i := 1) rfl ei_ev rfl rfl rfl (news := (b.evs.flatMap evL)) (hbat (HbRd.at (Mem.qq1 (a := [.blk g14 #[vB 0, vB 0, vI 0, vI 0, .slice none 0 0] 41, .row (vS g122 0 0) 0 [] 45 11, .blk g13 (b.cells Ab cb) 41, .row (vS gA1 q.length c1) q.length (q.flatMap hbL) 41 5, .row (vS gAm x.items.length cm) x.items.length (x.items.flatMap itL) 47 12, .blk g2 (x.cells A c A2 c2) 31]) HM) hi53) hxx) (qiq _) (by omega) (by omega) rfl (by decide) ?_
    clear HF HM; intro a w125 A125 c125 HF HM hc125
    rw [show [] ++ (b.evs.flatMap evL) = b.evs.flatMap evL from by rw [List.nil_append]] at HM
    refine keepS (HM.picksT 6 [2, 3, 4, 5] (by decide) (by decide) rfl) (fun HS => ?_)
    exact M18_3 _ _ ⟨g122, A125, c125, g14, HF.sub (by kernel_rfl), HM.picksT 6 [0, 1, 2, 3, 4, 5] (by decide) (by decide) rfl, hc125⟩
   refine all_cons ?_ all_nil
   refine qj HF (i := 21) rfl rfl ?_
   refine zo HF HM (vs := [(0, .agg ((x.items.getD (atN bs (i + 1)) It.zero).e.cells))]) (cs := (x.items.getD (atN bs (i + 1)) It.zero).e.cells) rfl ei_ev (by decide) rfl (by kernel_rfl) rfl (by decide) ?_
   clear HF HM; intro a w131 g131 HF HM
   refine keepS (HM.picksT 7 [3, 4, 5, 6] (by decide) (by decide) rfl) (fun HS => ?_)
   exact M18_4 _ _ ⟨g122, g131, g14, HF.sub (by kernel_rfl), HM.picksT 7 [1, 0, 2, 3, 4, 5, 6] (by decide) (by decide) rfl⟩
  refine qb1 (f := 5) (l := #[true, true, true, true, true, true, true, true, true, true, true, true, false, true, true, false, true, true, true, true, true, true, false, false, true, false]) (fun aS wS => ∃ (g131 : Nat) (g14 : Nat), Fr aS 148 [] [(14, vP g14 0), (131, vS g131 1 1), (130, .agg ((x.items.getD (atN bs (i + 1)) It.zero).e.cells)), (129, vP gAm ((atN bs (i + 1)) * 12)), (128, vP gAm ((atN bs (i + 1)) * 12)), (124, .slice Ab b.evs.length cb), (121, vI (b.lost + (x.items.getD (atN bs (i + 1)) It.zero).before)), (120, vI ((x.items.getD (atN bs (i + 1)) It.zero).before)), (119, vP gAm ((atN bs (i + 1)) * 12 + 11)), (118, vP gAm ((atN bs (i + 1)) * 12)), (115, vI b.lost), (113, vB b.cpu), (111, vB b.kind), (127, vI (atN bs (i + 1) : Nat)), (126, vS gAm x.items.length cm), (123, vP g13 4), (117, vI (atN bs (i + 1) : Nat)), (116, vS gAm x.items.length cm), (114, vP g13 2), (112, vP g13 1), (110, vP g13 0), (109, .bool false), (106, vI b.evs.length), (105, .slice Ab b.evs.length cb), (104, vP g13 4), (103, .bool false), (101, vI x.items.length), (100, vS gAm x.items.length cm), (99, vI (atN bs (i + 1) : Nat)), (98, .bool false), (97, .bool false), (96, .bool (decide (((i + 1 : Nat) : Int) < (q.length : Int)))), (95, vI q.length), (94, vS gA1 q.length c1), (93, vI (i + 1 : Nat)), (91, .bool (decide (((atN bs (i + 1) : Nat) : Int) < (x.items.length : Int)))), (90, vI x.items.length), (89, vS gAm x.items.length cm), (88, vI (atN bs (i + 1) : Nat)), (87, .bool false), (86, .bool false), (85, vI x.items.length), (84, vS gAm x.items.length cm), (83, vI (atN bs (i + 1) : Nat)), (11, vI (atN bs (i + 1) : Nat)), (82, vI (atN bs (i + 1) : Nat)), (81, vI b.evs.length), (80, .slice Ab b.evs.length cb), (79, vP g13 4), (78, vI (atN bs i : Nat)), (77, .bool false), (12, vI i), (13, vP g13 0), (53, .bool true), (52, vI i), (51, vI q.length), (50, vS gA1 q.length c1), (49, .bool false), (9, vS gA1 q.length c1), (8, vI lim), (7, vI x.opn), (6, vS gAm x.items.length cm), (16, .bool false), (4, .bool false)] ∧ Mem w wS (.blk g14 #[vB 0, vB 0, vI 0, vI 0, .slice none 0 0] 41 :: .blk g131 ((x.items.getD (atN bs (i + 1)) It.zero).e.cells) 45 :: .blk g13 (b.cells Ab cb) 41 :: .row (vS gA1 q.length c1) q.length (q.flatMap hbL) 41 5 :: .row (vS gAm x.items.length cm) x.items.length (x.items.flatMap itL) 47 12 :: .blk g2 (x.cells A c A2 c2) 31 :: (hbF 45 q ++ ([])))) ?_ fun M18_7 => ?_
  ·
   clear HF HM HS; rintro a wM ⟨g131, g14, HF, HM⟩
   have HS := HM.picksT (fs' := (.blk g13 (b.cells Ab cb) 41 :: .row (vS gA1 q.length c1) q.length (q.flatMap hbL) 41 5 :: .row (vS gAm x.items.length cm) x.items.length (x.items.flatMap itL) 47 12 :: .blk g2 (x.cells A c A2 c2) 31 :: (hbF 45 q ++ ([])))) 6 [2, 3, 4, 5] (by decide) (by decide) rfl
   refine qg [12] (by kernel_rfl) rfl ?_
   refine all_cons ?_ all_nil
   refine qj HF (i := 12) rfl rfl ?_
   refine qeg HF HM rfl ei_ev rfl (by decide) ?_
   clear HF HM; intro a w122 g122 HF HM
   refine keepS (HM.picksT 7 [3, 4, 5, 6] (by decide) (by decide) rfl) (fun HS => ?_)
   exact M18_4 _ _ ⟨g122, g131, g14, HF.sub (by kernel_rfl), HM.picksT 7 [1, 2, 0, 3, 4, 5, 6] (by decide) (by decide) rfl⟩
  refine ap HF (fun _ => HS) [0, 2, 4, 6, 7, 13, 16, 17] #[true, false, true, false, true, false, true, true, false, false, false, false, false, true, false, false, true, true, false, false, false, false, false, false, false, false] [(127, vI (atN bs (i + 1) : Nat)), (126, vS gAm x.items.length cm), (123, vP g13 4), (117, vI (atN bs (i + 1) : Nat)), (116, vS gAm x.items.length cm), (114, vP g13 2), (112, vP g13 1), (110, vP g13 0)] fun a HF => ?_
  refine ay HF HS 1 rfl rfl rfl (v := vB b.kind) (Yl.qi rfl rfl (by kernel_rfl) (fun _ h => h.cell (i := 0) rfl (rfl))) fun a HF => ?_
  refine ay HF HS 3 rfl rfl rfl (v := vB b.cpu) (Yl.qi rfl rfl (by kernel_rfl) (fun _ h => h.cell (i := 0) rfl (rfl))) fun a HF => ?_
  refine ay HF HS 5 rfl rfl rfl (v := vI b.lost) (Yl.qi rfl rfl (by kernel_rfl) (fun _ h => h.cell (i := 0) rfl (rfl))) fun a HF => ?_
  refine ay HF HS 8 rfl rfl rfl (v := vP gAm ((atN bs (i + 1)) * 12)) (Yl.ix0 gAm (atN bs (i + 1)) 12 rfl rfl rfl) fun a HF => ?_
  refine ap HF (fun _ => HS) [9] #[true, true, true, true, true, true, true, true, true, true, false, false, false, true, false, false, true, true, false, false, false, false, false, false, false, false] [(119, vP gAm ((atN bs (i + 1)) * 12 + 11))] fun a HF => ?_
  refine ay HF HS 10 rfl rfl rfl (v := vI ((x.items.getD (atN bs (i + 1)) It.zero).before)) (Yl.qi rfl rfl (by kernel_rfl) (fun _ h => h.qdg qbv (i := 2) rfl (k := (atN bs (i + 1))) (off := 11) (x := (x.items.getD (atN bs (i + 1)) It.zero)) ((getD_at It.zero hlt)) rfl)) fun a HF => ?_
  refine qo HF (fun _ => HS) (i := 11) rfl rfl (d := 121) rfl (by decide) (by kernel_rfl) (fun _ _ _ h => h) (v := vI (IntKind.i64.wrap (b.lost + ((x.items.getD (atN bs (i + 1)) It.zero).before)))) (fun _ => Yl.pure (by kernel_rfl)) fun a HF => ?_
  replace HF := HF.sp 121 (vI (b.lost + (x.items.getD (atN bs (i + 1)) It.zero).before)) rfl (qha ⟨by omega, by omega⟩)
  refine ay HF HS 14 rfl rfl rfl (v := .slice Ab b.evs.length cb) (Yl.qi rfl rfl (by kernel_rfl) (fun _ h => h.cell (i := 0) rfl (rfl))) fun a HF => ?_
  refine ay HF HS 18 rfl rfl rfl (v := vP gAm ((atN bs (i + 1)) * 12)) (Yl.ix0 gAm (atN bs (i + 1)) 12 rfl rfl rfl) fun a HF => ?_
  refine ap HF (fun _ => HS) [19] #[true, true, true, true, true, true, true, true, true, true, true, true, false, true, true, false, true, true, true, true, false, false, false, false, false, false] [(129, vP gAm ((atN bs (i + 1)) * 12))] fun a HF => ?_
  refine ay HF HS 20 rfl rfl rfl (v := .agg ((x.items.getD (atN bs (i + 1)) It.zero).e.cells)) (Yl.zg rfl rfl ⟨(by kernel_rfl), (by kernel_rfl)⟩ rfl (fun _ h => h.qvs qbv (i := 2) rfl (k := (atN bs (i + 1))) (j := 0) (m := 11) (x := (x.items.getD (atN bs (i + 1)) It.zero)) ((getD_at It.zero hlt)) rfl)) fun a HF => ?_
  refine qg [12, 21, 24] (by kernel_rfl) rfl ?_
  refine all_cons ?_ ?_
  ·refine qj HF (i := 12) rfl rfl ?_
   refine qeg HF HM rfl ei_ev rfl (by decide) ?_
   clear HF HM; intro a w122 g122 HF HM
   refine keepS (HM.picksT 5 [1, 2, 3, 4] (by decide) (by decide) rfl) (fun HS => ?_)
   refine qg [15, 21, 24] (by kernel_rfl) rfl ?_
   refine all_cons ?_ ?_
   ·refine qj HF (i := 15) rfl rfl ?_
    refine zh HF HM (i := 0) rfl ei_ev rfl rfl rfl (news := (b.evs.flatMap evL)) (hbat (HbRd.at (Mem.qq1 (a := [.row (vS g122 0 0) 0 [] 45 11, .blk g13 (b.cells Ab cb) 41, .row (vS gA1 q.length c1) q.length (q.flatMap hbL) 41 5, .row (vS gAm x.items.length cm) x.items.length (x.items.flatMap itL) 47 12, .blk g2 (x.cells A c A2 c2) 31]) HM) hi53) hxx) (qiq _) (by omega) (by omega) rfl (by decide) ?_
    clear HF HM; intro a w125 A125 c125 HF HM hc125
    rw [show [] ++ (b.evs.flatMap evL) = b.evs.flatMap evL from by rw [List.nil_append]] at HM
    refine keepS (HM.picksT 5 [1, 2, 3, 4] (by decide) (by decide) rfl) (fun HS => ?_)
    refine qg [21, 24] (by kernel_rfl) rfl ?_
    refine all_cons ?_ ?_
    ·refine qj HF (i := 21) rfl rfl ?_
     refine zo HF HM (vs := [(0, .agg ((x.items.getD (atN bs (i + 1)) It.zero).e.cells))]) (cs := (x.items.getD (atN bs (i + 1)) It.zero).e.cells) rfl ei_ev (by decide) rfl (by kernel_rfl) rfl (by decide) ?_
     clear HF HM; intro a w131 g131 HF HM
     refine keepS (HM.picksT 6 [2, 3, 4, 5] (by decide) (by decide) rfl) (fun HS => ?_)
     exact M18_2 _ _ ⟨g122, A125, c125, g131, HF.sub (by kernel_rfl), HM.picksT 6 [0, 1, 2, 3, 4, 5] (by decide) (by decide) rfl, hc125⟩
    refine all_cons ?_ all_nil
    refine qj HF (i := 24) rfl rfl ?_
    refine qp HF HM (cs := #[vB 0, vB 0, vI 0, vI 0, .slice none 0 0]) rfl (by kernel_rfl) rfl (by decide) ?_
    clear HF HM; intro a w14 g14 HF HM
    refine keepS (HM.picksT 6 [2, 3, 4, 5] (by decide) (by decide) rfl) (fun HS => ?_)
    exact M18_3 _ _ ⟨g122, A125, c125, g14, HF.sub (by kernel_rfl), HM.picksT 6 [0, 1, 2, 3, 4, 5] (by decide) (by decide) rfl, hc125⟩
   refine all_cons ?_ ?_
   ·refine qj HF (i := 21) rfl rfl ?_
    refine zo HF HM (vs := [(0, .agg ((x.items.getD (atN bs (i + 1)) It.zero).e.cells))]) (cs := (x.items.getD (atN bs (i + 1)) It.zero).e.cells) rfl ei_ev (by decide) rfl (by kernel_rfl) rfl (by decide) ?_
    clear HF HM; intro a w131 g131 HF HM
    refine keepS (HM.picksT 6 [2, 3, 4, 5] (by decide) (by decide) rfl) (fun HS => ?_)
    exact M18_5 _ _ ⟨g122, g131, HF.sub (by kernel_rfl), HM.picksT 6 [0, 1, 2, 3, 4, 5] (by decide) (by decide) rfl⟩
   refine all_cons ?_ all_nil
   refine qj HF (i := 24) rfl rfl ?_
   refine qp HF HM (cs := #[vB 0, vB 0, vI 0, vI 0, .slice none 0 0]) rfl (by kernel_rfl) rfl (by decide) ?_
   clear HF HM; intro a w14 g14 HF HM
   refine keepS (HM.picksT 6 [2, 3, 4, 5] (by decide) (by decide) rfl) (fun HS => ?_)
   exact M18_6 _ _ ⟨g122, g14, HF.sub (by kernel_rfl), HM.picksT 6 [0, 1, 2, 3, 4, 5] (by decide) (by decide) rfl⟩
  refine all_cons ?_ ?_
  ·refine qj HF (i := 21) rfl rfl ?_
   refine zo HF HM (vs := [(0, .agg ((x.items.getD (atN bs (i + 1)) It.zero).e.cells))]) (cs := (x.items.getD (atN bs (i + 1)) It.zero).e.cells) rfl ei_ev (by decide) rfl (by kernel_rfl) rfl (by decide) ?_
   clear HF HM; intro a w131 g131 HF HM
   refine keepS (HM.picksT 5 [1, 2, 3, 4] (by decide) (by decide) rfl) (fun HS => ?_)
   refine qg [12, 24] (by kernel_rfl) rfl ?_
   refine all_cons ?_ ?_
   ·refine qj HF (i := 12) rfl rfl ?_
    refine qeg HF HM rfl ei_ev rfl (by decide) ?_
    clear HF HM; intro a w122 g122 HF HM
    refine keepS (HM.picksT 6 [2, 3, 4, 5] (by decide) (by decide) rfl) (fun HS => ?_)
    exact M18_5 _ _ ⟨g122, g131, HF.sub (by kernel_rfl), HM.picksT 6 [1, 0, 2, 3, 4, 5] (by decide) (by decide) rfl⟩
   refine all_cons ?_ all_nil
   refine qj HF (i := 24) rfl rfl ?_
   refine qp HF HM (cs := #[vB 0, vB 0, vI 0, vI 0, .slice none 0 0]) rfl (by kernel_rfl) rfl (by decide) ?_
   clear HF HM; intro a w14 g14 HF HM
   refine keepS (HM.picksT 6 [2, 3, 4, 5] (by decide) (by decide) rfl) (fun HS => ?_)
   exact M18_7 _ _ ⟨g131, g14, HF.sub (by kernel_rfl), HM.picksT 6 [0, 1, 2, 3, 4, 5] (by decide) (by decide) rfl⟩
  refine all_cons ?_ all_nil
  refine qj HF (i := 24) rfl rfl ?_
  refine qp HF HM (cs := #[vB 0, vB 0, vI 0, vI 0, .slice none 0 0]) rfl (by kernel_rfl) rfl (by decide) ?_
  clear HF HM; intro a w14 g14 HF HM
  refine keepS (HM.picksT 5 [1, 2, 3, 4] (by decide) (by decide) rfl) (fun HS => ?_)
  refine qg [12, 21] (by kernel_rfl) rfl ?_
  refine all_cons ?_ ?_
  ·refine qj HF (i := 12) rfl rfl ?_
   refine qeg HF HM rfl ei_ev rfl (by decide) ?_
   clear HF HM; intro a w122 g122 HF HM
   refine keepS (HM.picksT 6 [2, 3, 4, 5] (by decide) (by decide) rfl) (fun HS => ?_)
   exact M18_6 _ _ ⟨g122, g14, HF.sub (by kernel_rfl), HM.picksT 6 [1, 0, 2, 3, 4, 5] (by decide) (by decide) rfl⟩
  refine all_cons ?_ all_nil
  refine qj HF (i := 21) rfl rfl ?_
  refine zo HF HM (vs := [(0, .agg ((x.items.getD (atN bs (i + 1)) It.zero).e.cells))]) (cs := (x.items.getD (atN bs (i + 1)) It.zero).e.cells) rfl ei_ev (by decide) rfl (by kernel_rfl) rfl (by decide) ?_
  clear HF HM; intro a w131 g131 HF HM
  refine keepS (HM.picksT 6 [2, 3, 4, 5] (by decide) (by decide) rfl) (fun HS => ?_)
  exact M18_7 _ _ ⟨g131, g14, HF.sub (by kernel_rfl), HM.picksT 6 [1, 0, 2, 3, 4, 5] (by decide) (by decide) rfl⟩
 have hd53 := of_decide_eq_false hb53
 refine qe HF rfl (wp_exit (wp_seq (qa ?_)))
 refine fp HF 1 0 [(4, .bool true)] fun a HF => ?_
 refine qb rfl (wp_ret ?_)
 exact ret1 rfl HF (.tmp HF rfl) (⟨rfl, HM.below⟩)
end Go.Proofs.YtfeheccoijnbaaaDoor
