/- Parts. -/
import Derived.Test.YtfeheccoijnbaaaDoorQbMade
import Derived.Test.YtfeheccoijnbaaaDoorQbZ2
set_option linter.all false
set_option maxRecDepth 100000
set_option maxHeartbeats 8000000
namespace Go.Proofs.YtfeheccoijnbaaaDoor
open Go.RowKit
theorem qm2 (cpu : Nat) (A : Option Addr) (n c : Nat) (l : List It) (opn : Int) (hok : ∀ x ∈ l, x.Ok) (ho : I64 opn) (B : Nat) (w : World) (hL : LaidX B w) (hB : B ≤ w.heap.size) (hr : Rd w w.heap.size 12 A n (l.flatMap itL)) (hln : l.length = n) (hn : n ≤ 1000000) :
    Calls Tryd.prog 34 #[.int .u8 (cpu : Int), .slice A n c, .int .i64 opn] w (Is w (.bool (zt cpu l opn))) := by
 refine qg (vs := [vB cpu, .slice A n c, vI opn]) Tryd.func34 rfl rfl (by kernel_rfl) (σ0 := [(0, vB cpu), (1, .slice A n c), (2, vI opn)]) rfl ?_
 intro a HF
 have HM := Mem.start w
 refine wp_seq (qa ?_)
 refine fp HF 1 0 [(6, .bool false)] fun a HF => ?_
 refine qb rfl (wp_seq (wp_seq (qa ?_)))
 refine fp HF 1 0 [(13, .slice A n c)] fun a HF => ?_
 refine fo HF 1 rfl rfl ?_
 refine e_cl HF [.slice A n c] rfl rfl (qd9 A n c l _ (HM.old hr) (hln) (by omega)) ?_
 rintro _ w14 ⟨⟨A14, c14, rfl, ho, hc14⟩, hbw⟩
 refine ⟨_, rfl, ?_⟩
 replace HM := HM.callRow hbw ho
 clear HF; intro a HF
 refine fo HF 2 rfl rfl ?_
 refine e_cl HF [.slice A14 n c14] rfl rfl (qvk A14 n c14 (evsI l) (qw1 hok) B _ (hL.mem HM hB).laid (HM.le hB) (HM.rd (i := 0) rfl) (by omega) (i := (rowR (evsI l)).1) (er := (rowR (evsI l)).2) rfl) ?_
 rintro _ w15 ⟨rfl, hbw⟩
 refine ⟨_, rfl, ?_⟩
 replace HM := HM.call hbw
 clear HF; intro a HF
 refine fp HF 5 3 [(8, vI ((rowR (evsI l)).2))] fun a HF => ?_
 refine qb rfl (wp_seq (qa ?_))
 refine fp HF 2 0 [(19, .bool (((rowR (evsI l)).2 : Int) != (0 : Int)))] fun a HF => ?_
 refine qb rfl ?_
 rcases HF.tf 19 rfl with ⟨hb19, HF⟩ | ⟨hb19, HF⟩
 ·
  have hd19 := bne_iff_ne.1 hb19
  refine qf HF rfl (wp_seq (qa ?_))
  refine fp HF 1 0 [(6, .bool false)] fun a HF => ?_
  refine qb rfl (wp_ret ?_)
  replace HM := HM.picks (fs' := []) [] (by decide) rfl
  exact ret1 rfl HF (.tmp HF rfl) (⟨by rw [qms (by omega)], HM.below⟩)
 have hd19 := bne_eq_false_iff_eq.1 hb19
 refine qe HF rfl (wp_skip (wp_seq (qa ?_)))
 refine fp HF 1 0 [(9, vI 281474976710656)] fun a HF => ?_
 refine qb rfl (wp_seq (wp_seq (qa ?_)))
 refine fp HF 1 0 [(20, vI opn)] fun a HF => ?_
 refine fo HF 1 rfl rfl ?_
 refine qar HF HM (vs := [(0, vI opn)]) (cs := #[vI opn]) rfl qm4 (by decide) rfl (by kernel_rfl) rfl (by decide) ?_
 clear HF HM; intro a w21 g21 HF HM
 refine fp HF 1 2 [(22, .slice A n c)] fun a HF => ?_
 refine fo HF 3 rfl rfl ?_
 refine e_cl HF [.slice A n c] rfl rfl (qix A n c l _ (HM.old hr) (hln) (by omega)) ?_
 rintro _ w23 ⟨⟨A23, c23, rfl, ho, hc23⟩, hbw⟩
 refine ⟨_, rfl, ?_⟩
 replace HM := HM.callRow hbw ho
 clear HF; intro a HF
 refine fo HF 4 rfl rfl ?_
 replace HM := HM.blkRow (i := 1) (n := 1) (size := 1) rfl rfl (by decide)
 refine qac HF HM (i := 1) rfl qm4 rfl rfl rfl (news := ((befI l).map I64i)) (HM.rd (i := 0) rfl) (qus _) (by omega) (by omega) rfl (by decide) ?_
 clear HF HM; intro a w24 A24 c24 HF HM hc24
 rw [show ((#[vI opn]).toList) ++ ((befI l).map I64i) = (opn :: befI l).map I64i from rfl] at HM
 refine fy HF HM 5 rfl rfl rfl (Yl.len rfl rfl (by kernel_rfl)) fun a HF => ?_
 refine fp HF 1 6 [(26, vI 0)] fun a HF => ?_
 refine qb rfl ?_
 have hxl : (opn :: befI l).length = 1 + n := by rw [List.length_cons, qjn]; omega
 refine wp_block ?_
 replace HM := HM.picks (fs' := [.row (.slice A24 (1 + n) c24) (1 + n) ((opn :: befI l).map I64i) 3 1]) [1] (by decide) rfl
 refine zk (fun mS aS wS => ∃ (k : Nat) (r : Int), (k ≤ 1 + n) ∧ (0 ≤ r) ∧ (r ≤ 281474976710656) ∧ (qa8 qcg (opn :: befI l) = qa8 r ((opn :: befI l).drop k)) ∧ mS = 1 + n - k ∧ Fr aS 53 [] [(26, vI k), (25, vI (1 + n : Nat)), (24, .slice A24 (1 + n) c24), (9, vI r), (19, .bool false), (6, .bool false), (0, vB cpu), (1, .slice A n c)] ∧ Mem w wS [.row (.slice A24 (1 + n) c24) (1 + n) ((opn :: befI l).map I64i) 3 1]) (m := 1 + n - 0) ⟨0, 281474976710656, Nat.zero_le _, by omega, Int.le_refl _, rfl, rfl, HF.sub (by kernel_rfl), HM.picks [0] (by decide) rfl⟩ ?_
 clear HF HM; rintro mS a w_ ⟨k, r, hk, hr0, hr1, hroom, rfl, HF, HM⟩
 refine wp_seq (qa ?_)
 refine fp HF 1 0 [(27, .bool (decide ((k : Int) < ((1 + n : Nat) : Int))))] fun a HF => ?_
 refine qb rfl (wp_seq ?_)
 rcases HF.tf 27 rfl with ⟨hb27, HF⟩ | ⟨hb27, HF⟩
 ·
  have hd27 := of_decide_eq_true hb27
  have hk27 : k < 1 + n := by omega
  have hat := qr2 (xs := opn :: befI l) (k := k) (r := r) (by omega)
  refine qf HF rfl (wp_skip (wp_seq (wp_block (wp_seq (qa ?_)))))
  obtain ⟨gA24, rfl⟩ := qbj (HM.own (i := 0) rfl) (Nat.lt_of_le_of_lt (Nat.zero_le _) (show k < 1 + n from by omega))
  refine fy HF HM 0 rfl rfl rfl (v := vP gA24 (k * 1)) (Yl.ix0 gA24 k 1 rfl rfl rfl) fun a HF => ?_
  refine fy HF HM 1 rfl rfl rfl (v := vI ((opn :: befI l).getD k 0)) (Yl.qh rfl rfl (by kernel_rfl) (fun _ h => h.qgg (i := 0) rfl (k := k) (qab (F := I64i) (k := k) (x := ((opn :: befI l).getD k 0)) ((getD_at 0 (k := k) (by first | omega | (simp; omega))))))) fun a HF => ?_
  refine fp HF 1 2 [(11, vI ((opn :: befI l).getD k 0))] fun a HF => ?_
  refine qb rfl (wp_seq (wp_seq (qa ?_)))
  refine fp HF 3 0 [(32, .bool (decide ((((opn :: befI l).getD k 0) : Int) < (0 : Int))))] fun a HF => ?_
  rcases HF.tf 32 rfl with ⟨hb32, HF⟩ | ⟨hb32, HF⟩
  ·
   have hd32 := of_decide_eq_true hb32
   refine fp HF 4 3 [(36, .bool true)] fun a HF => ?_
   refine qb rfl (qf HF rfl (wp_seq (qa ?_)))
   refine fp HF 1 0 [(6, .bool false)] fun a HF => ?_
   refine qb rfl (wp_ret ?_)
   exact ret1 rfl HF (.tmp HF rfl) (⟨by rw [qgd (by rw [hroom, hat, decide_eq_false (by omega), Bool.false_and])], HM.below⟩)
  have hd32 := of_decide_eq_false hb32
  refine fp HF 4 3 [(36, .bool (decide ((((opn :: befI l).getD k 0) : Int) > (r : Int))))] fun a HF => ?_
  refine qb rfl ?_
  rcases HF.tf 36 rfl with ⟨hb36, HF⟩ | ⟨hb36, HF⟩
  ·
   have hd36 := of_decide_eq_true hb36
   refine qf HF rfl (wp_seq (qa ?_))
   refine fp HF 1 0 [(6, .bool false)] fun a HF => ?_
   refine qb rfl (wp_ret ?_)
   exact ret1 rfl HF (.tmp HF rfl) (⟨by rw [qgd (by rw [hroom, hat, decide_eq_false (by omega), Bool.false_and])], HM.below⟩)
  have hd36 := of_decide_eq_false hb36
  have hat2 : qa8 qcg (opn :: befI l) = qa8 (r - ((opn :: befI l).getD k 0)) ((opn :: befI l).drop (k + 1)) := by rw [hroom, hat, decide_eq_true ⟨by omega, by omega⟩, Bool.true_and]
  refine qe HF rfl (wp_skip (qa ?_))
  refine fp HF 3 0 [(39, vI (IntKind.i64.wrap (r - ((opn :: befI l).getD k 0))))] fun a HF => ?_
  replace HF := HF.sp 39 (vI (r - ((opn :: befI l).getD k 0))) rfl (qg0 ⟨by omega, by omega⟩)
  refine fp HF 1 3 [(9, vI (r - ((opn :: befI l).getD k 0)))] fun a HF => ?_
  refine qb rfl (qa ?_)
  refine fp HF 1 0 [(40, vI (IntKind.i64.wrap ((k : Int) + 1)))] fun a HF => ?_
  replace HF := HF.sp 40 (vI (k + 1 : Nat)) rfl (qi (by omega) (by omega))
  refine fp HF 1 1 [(26, vI (k + 1 : Nat))] fun a HF => ?_
  refine qb rfl ?_
  exact ⟨_, (by omega), k + 1, (r - ((opn :: befI l).getD k 0)), by omega, by omega, by omega, hat2, rfl, HF.sub (by kernel_rfl), HM.picks [0] (by decide) rfl⟩
 have hd27 := of_decide_eq_false hb27
 have hkn : k = 1 + n := by omega
 have hrt : qa8 qcg (opn :: befI l) = true := by rw [hroom, List.drop_of_length_le (by omega)]; rfl
 refine qe HF rfl (wp_exit (wp_seq (qa ?_)))
 refine fp HF 1 0 [(41, .slice A n c)] fun a HF => ?_
 refine fy HF HM 1 rfl rfl rfl (Yl.len rfl rfl (by kernel_rfl)) fun a HF => ?_
 refine fp HF 2 2 [(44, .bool ((n : Int) == (0 : Int)))] fun a HF => ?_
 rcases HF.tf 44 rfl with ⟨hb44, HF⟩ | ⟨hb44, HF⟩
 ·
  have hd44 := eq_of_beq hb44
  refine fp HF 9 4 [(6, .bool true)] fun a HF => ?_
  refine qb rfl (wp_ret ?_)
  exact ret1 rfl HF (.tmp HF rfl) (⟨by rw [qin (by omega) hrt, qr3 (by omega)], HM.below⟩)
 have hd44 := ne_of_beq_false hb44
 refine fp HF 1 4 [(45, .slice A n c)] fun a HF => ?_
 obtain ⟨gA, oA, rfl, _⟩ := hr.qas (Nat.lt_of_le_of_lt (Nat.zero_le _) (show 0 < n from by omega)) (by decide)
 refine fy HF HM 5 rfl rfl rfl (v := vP gA oA) (Yl.indexAddr (ad := ⟨gA, oA, none⟩) (y := 0) (sz := 12) rfl rfl rfl (by omega) (by kernel_rfl)) fun a HF => ?_
 refine fp HF 2 6 [(48, vP gA (oA + 2))] fun a HF => ?_
 refine fy HF HM 8 rfl rfl rfl (v := vB ((l.getD 0 It.zero).e.cpu)) (Yl.qh rfl rfl (by kernel_rfl) (fun _ h => (h.old hr).partAt qb5 (k := 0) (j := 2) (x := (l.getD 0 It.zero)) ((getD_at It.zero (k := 0) (by first | omega | (simp; omega)))) rfl)) fun a HF => ?_
 refine fp HF 4 9 [(6, .bool (((l.getD 0 It.zero).e.cpu : Int) == (cpu : Int)))] fun a HF => ?_
 refine qb rfl (wp_ret ?_)
 exact ret1 rfl HF (.tmp HF rfl) (⟨by rw [qin (by omega) hrt, qo1 (by omega)]; congr 2; rw [Bool.eq_iff_iff, beq_iff_eq, decide_eq_true_eq]; omega, HM.below⟩)
theorem qn4 (cpu : Nat) (A : Option Addr) (n c : Nat) (l : List It) (opn : Int) (k : Nat) (hG : GoodI cpu l opn) (hk : k ≤ n) (g1 g2 g3 : Nat) (w : World) (hg1 : w.heap[g1]? = some (.cells #[.int .u8 (cpu : Int)] 5 (0, 0))) (hg2 : w.heap[g2]? = some (.cells #[.slice A n c] 22 (0, 0))) (hg3 : w.heap[g3]? = some (.cells #[.int .i64 opn] 3 (0, 0))) (hr : Rd w w.heap.size 12 A l.length (l.flatMap itL)) (hc : n ≤ c) (hln : l.length = n) (hn : n ≤ 1000000) :
    Calls Tryd.prog 35 #[.int .i64 (k : Int), .pointer (some ⟨g1, 0, none⟩), .pointer (some ⟨g2, 0, none⟩), .pointer (some ⟨g3, 0, none⟩)] w (qyk w (ofB cpu l opn k)) := by
 refine qg (vs := [vI k, vP g1 0, vP g2 0, vP g3 0]) Tryd.func35 rfl rfl (by kernel_rfl) (σ0 := [(0, vI k), (1, vP g1 0), (2, vP g2 0), (3, vP g3 0)]) rfl ?_
 intro a HF
 have HM := Mem.start w
 refine wp_seq (qa ?_)
 refine fo HF 0 rfl rfl ?_
 refine qr HF HM (cs := #[vB 0, vB 0, vI 0, vI 0, .slice none 0 0]) rfl (by kernel_rfl) rfl (by decide) ?_
 clear HF HM; intro a w5 g5 HF HM
 refine qb rfl ?_
 refine qbt (fun aS wS => ∃ (A13 : Option Addr) (c13 : Nat) (g6 : Nat), Fr aS 40 [] [(6, vP g6 0), (5, vP g5 0), (0, vI k), (2, vP g2 0), (3, vP g3 0)] ∧ Mem w wS [.blk g6 #[vB 1, vB cpu, vI 0, vI 0, .slice A13 k c13] 41, .row (.slice A13 k c13) k ((evsI (l.take k)).flatMap evL) 45 11, .blk g5 #[vB 0, vB 0, vI 0, vI 0, .slice none 0 0] 41] ∧ (k ≤ c13)) ?_ ?_
 ·
  refine qaf HM [.blk g5 #[vB 0, vB 0, vI 0, vI 0, .slice none 0 0] 41] [0] [7] fun HM HS => ?_
  refine ap HF (fun _ => HS) [2] #[false, false, true, false, false, false, false, false] [(11, vI k)] fun a HF => ?_
  refine ay HF HS 0 rfl rfl rfl (v := vB cpu) (Yl.qh rfl rfl (by kernel_rfl) (fun _ h => h.zd hg1 rfl)) fun a HF => ?_
  refine ay HF HS 1 rfl rfl rfl (v := .slice A n c) (Yl.qh rfl rfl (by kernel_rfl) (fun _ h => h.zd hg2 rfl)) fun a HF => ?_
  refine ay HF HS 3 rfl rfl rfl (v := .slice A k c) (Yl.qbq ei_it (j := k) rfl rfl rfl (by omega)) fun a HF => ?_
  refine qj [4, 6] (by kernel_rfl) rfl ?_
  refine all_cons ?_ ?_
  ·refine qm HF (i := 4) rfl rfl ?_
   refine e_cl HF [.slice A k c] rfl rfl (qd9 A k c (l.take k) _ (HM.old (Rd.qtb qb5 hr (by omega))) (by rw [List.length_take]; omega) (by omega)) ?_
   rintro _ w13 ⟨⟨A13, c13, rfl, ho, hc13⟩, hbw⟩
   refine ⟨_, rfl, ?_⟩
   replace HM := HM.callRow hbw ho
   clear HF; intro a HF
   refine keepS (HM.picks [1] (by decide) rfl) (fun HS => ?_)
   refine ay HF HS 5 rfl rfl rfl (v := .agg #[vB 1, vB cpu, vI 0, vI 0, .slice A13 k c13]) (Yl.build (vs := [(0, vB 1), (1, vB cpu), (4, .slice A13 k c13)]) rfl (by kernel_rfl) (by kernel_rfl)) fun a HF => ?_
   refine qj [6] (by kernel_rfl) rfl ?_
   refine all_cons ?_ all_nil
   refine qm HF (i := 6) rfl rfl ?_
   refine qr HF HM (cs := #[vB 0, vB 0, vI 0, vI 0, .slice none 0 0]) rfl (by kernel_rfl) rfl (by decide) ?_
   clear HF HM; intro a w6 g6 HF HM
   refine keepS (HM.picks [2] (by decide) rfl) (fun HS => ?_)
   refine qj [7] (by kernel_rfl) rfl ?_
   refine all_cons ?_ all_nil
   refine qm HF (i := 7) rfl rfl ?_
   refine e_sa HF HM 0 rfl rfl rfl rfl rfl si_bk rfl rfl (by simp [Value.oneCell']) ?_
   clear HM; intro w1_7 HM
   refine noS (by kernel_rfl) ?_
   refine qn (by kernel_rfl) ?_
   exact ⟨A13, c13, g6, HF.sub (by kernel_rfl), HM.picks [0, 1, 2] (by decide) rfl, hc13⟩
  refine all_cons ?_ all_nil
  refine qm HF (i := 6) rfl rfl ?_
  refine qr HF HM (cs := #[vB 0, vB 0, vI 0, vI 0, .slice none 0 0]) rfl (by kernel_rfl) rfl (by decide) ?_
  clear HF HM; intro a w6 g6 HF HM
  refine keepS (HM.picks [1] (by decide) rfl) (fun HS => ?_)
  refine qj [4] (by kernel_rfl) rfl ?_
  refine all_cons ?_ all_nil
  refine qm HF (i := 4) rfl rfl ?_
  refine e_cl HF [.slice A k c] rfl rfl (qd9 A k c (l.take k) _ (HM.old (Rd.qtb qb5 hr (by omega))) (by rw [List.length_take]; omega) (by omega)) ?_
  rintro _ w13 ⟨⟨A13, c13, rfl, ho, hc13⟩, hbw⟩
  refine ⟨_, rfl, ?_⟩
  replace HM := HM.callRow hbw ho
  clear HF; intro a HF
  refine keepS (HM.picks [2] (by decide) rfl) (fun HS => ?_)
  refine ay HF HS 5 rfl rfl rfl (v := .agg #[vB 1, vB cpu, vI 0, vI 0, .slice A13 k c13]) (Yl.build (vs := [(0, vB 1), (1, vB cpu), (4, .slice A13 k c13)]) rfl (by kernel_rfl) (by kernel_rfl)) fun a HF => ?_
  refine qj [7] (by kernel_rfl) rfl ?_
  refine all_cons ?_ all_nil
  refine qm HF (i := 7) rfl rfl ?_
  refine e_sa HF HM 1 rfl rfl rfl rfl rfl si_bk rfl rfl (by simp [Value.oneCell']) ?_
  clear HM; intro w1_7 HM
  refine noS (by kernel_rfl) ?_
  refine qn (by kernel_rfl) ?_
  exact ⟨A13, c13, g6, HF.sub (by kernel_rfl), HM.picks [1, 0, 2] (by decide) rfl, hc13⟩
 clear HF HM; rintro a w1 ⟨A13, c13, g6, HF, HM, hc13⟩
 refine wp_seq (wp_seq (qa ?_))
 refine fy HF HM 0 rfl rfl rfl (v := .slice A n c) (Yl.qh rfl rfl (by kernel_rfl) (fun _ h => h.zd hg2 rfl)) fun a HF => ?_
 refine fp HF 1 1 [(16, vI k)] fun a HF => ?_
 refine fy HF HM 2 rfl rfl rfl (v := .slice A k c) (Yl.qbq ei_it (j := k) rfl rfl rfl (by omega)) fun a HF => ?_
 refine fo HF 3 rfl rfl ?_
 refine e_cl HF [.slice A k c] rfl rfl (qix A k c (l.take k) _ (HM.old (Rd.qtb qb5 hr (by omega))) (by rw [List.length_take]; omega) (by omega)) ?_
 rintro _ w18 ⟨⟨A18, c18, rfl, ho, hc18⟩, hbw⟩
 refine ⟨_, rfl, ?_⟩
 replace HM := HM.callRow hbw ho
 clear HF; intro a HF
 refine fy HF HM 4 rfl rfl rfl (Yl.len rfl rfl (by kernel_rfl)) fun a HF => ?_
 refine fp HF 1 5 [(20, vI 0)] fun a HF => ?_
 refine qb rfl ?_
 have hbl : (befI (l.take k)).length = k := by rw [qjn, List.length_take]; omega
 refine wp_block ?_
 refine zk (fun mS aS wS => ∃ (j : Nat), (j ≤ k) ∧ mS = k - j ∧ Fr aS 40 [] [(20, vI j), (19, vI k), (18, .slice A18 k c18), (6, vP g6 0), (5, vP g5 0), (0, vI k), (2, vP g2 0), (3, vP g3 0)] ∧ Mem w wS [.row (.slice A18 k c18) k ((befI (l.take k)).map I64i) 3 1, .blk g6 #[vB 1, vB cpu, vI (sumI (befI (l.take j))), vI 0, .slice A13 k c13] 41, .row (.slice A13 k c13) k ((evsI (l.take k)).flatMap evL) 45 11, .blk g5 #[vB 0, vB 0, vI 0, vI 0, .slice none 0 0] 41]) (m := k - 0) ⟨0, Nat.zero_le _, rfl, HF.sub (by kernel_rfl), HM.picks [0, 1, 2, 3] (by decide) rfl⟩ ?_
 clear HF HM; rintro mS a w_ ⟨j, hj, rfl, HF, HM⟩
 refine wp_seq (qa ?_)
 refine fp HF 1 0 [(21, .bool (decide ((j : Int) < (k : Int))))] fun a HF => ?_
 refine qb rfl (wp_seq ?_)
 rcases HF.tf 21 rfl with ⟨hb21, HF⟩ | ⟨hb21, HF⟩
 ·
  have hd21 := of_decide_eq_true hb21
  have hj21 : j < k := by omega
  have ho0 := hG.o0
  have hp0 := hG.part j
  have hp1 := hG.part (j + 1)
  have hps := qhh (l := l) (k := k) (j := j) (by omega) (by omega)
  refine qf HF rfl (wp_skip (wp_seq (wp_block (wp_seq (qa ?_)))))
  obtain ⟨gA18, rfl⟩ := qbj (HM.own (i := 0) rfl) (Nat.lt_of_le_of_lt (Nat.zero_le _) (show j < k from by omega))
  refine fy HF HM 0 rfl rfl rfl (v := vP gA18 (j * 1)) (Yl.ix0 gA18 j 1 rfl rfl rfl) fun a HF => ?_
  refine fy HF HM 1 rfl rfl rfl (v := vI ((befI (l.take k)).getD j 0)) (Yl.qh rfl rfl (by kernel_rfl) (fun _ h => h.qgg (i := 0) rfl (k := j) (qab (F := I64i) (k := j) (x := ((befI (l.take k)).getD j 0)) ((getD_at 0 (k := j) (by first | omega | (simp; omega))))))) fun a HF => ?_
  refine fp HF 1 2 [(8, vI ((befI (l.take k)).getD j 0))] fun a HF => ?_
  refine qb rfl (qa ?_)
  refine fp HF 1 0 [(24, vP g6 2)] fun a HF => ?_
  refine fy HF HM 1 rfl rfl rfl (Yl.qh rfl rfl (by kernel_rfl) (fun _ h => h.cell (i := 1) rfl rfl)) fun a HF => ?_
  refine fp HF 2 2 [(27, vI (IntKind.i64.wrap ((sumI (befI (l.take j))) + ((befI (l.take k)).getD j 0))))] fun a HF => ?_
  replace HF := HF.sp 27 (vI (sumI (befI (l.take (j + 1))))) rfl (by rw [qhh (k := k) (by omega) (by omega)]; exact qg0 ⟨by omega, by omega⟩)
  refine fp HF 1 4 [(28, vP g6 2)] fun a HF => ?_
  refine fo HF 5 rfl rfl ?_
  refine qo HF HM (i := 1) rfl rfl rfl rfl (by kernel_rfl) rfl rfl (by simp) ?_
  clear HM; intro w5_5 HM
  refine qb rfl (qa ?_)
  refine fp HF 1 0 [(29, vI (IntKind.i64.wrap ((j : Int) + 1)))] fun a HF => ?_
  replace HF := HF.sp 29 (vI (j + 1 : Nat)) rfl (qi (by omega) (by omega))
  refine fp HF 1 1 [(20, vI (j + 1 : Nat))] fun a HF => ?_
  refine qb rfl ?_
  exact ⟨_, (by omega), j + 1, by omega, rfl, HF.sub (by kernel_rfl), HM.picks [0, 1, 2, 3] (by decide) rfl⟩
 have hd21 := of_decide_eq_false hb21
 obtain rfl : j = k := by omega
 have hp0 := hG.part j
 have ho0 := hG.o0
 refine qe HF rfl (wp_exit (wp_seq (wp_seq (qa ?_))))
 refine fp HF 1 0 [(30, vI j)] fun a HF => ?_
 refine fy HF HM 1 rfl rfl rfl (v := .slice A n c) (Yl.qh rfl rfl (by kernel_rfl) (fun _ h => h.zd hg2 rfl)) fun a HF => ?_
 refine fy HF HM 2 rfl rfl rfl (Yl.len rfl rfl (by kernel_rfl)) fun a HF => ?_
 refine fp HF 1 3 [(33, .bool ((j : Int) == (n : Int)))] fun a HF => ?_
 refine qb rfl ?_
 rcases HF.tf 33 rfl with ⟨hb33, HF⟩ | ⟨hb33, HF⟩
 ·
  have hd33 := eq_of_beq hb33
  have hlo := qr5 (cpu := cpu) (opn := opn) (l := l) (k := j) (by omega)
  refine qf HF rfl (qa ?_)
  refine fp HF 1 0 [(34, vP g6 2)] fun a HF => ?_
  refine fy HF HM 1 rfl rfl rfl (Yl.qh rfl rfl (by kernel_rfl) (fun _ h => h.cell (i := 1) rfl rfl)) fun a HF => ?_
  refine fy HF HM 2 rfl rfl rfl (v := vI opn) (Yl.qh rfl rfl (by kernel_rfl) (fun _ h => h.zd hg3 rfl)) fun a HF => ?_
  refine fp HF 1 3 [(37, vI (IntKind.i64.wrap ((sumI (befI (l.take j))) + opn)))] fun a HF => ?_
  replace HF := HF.sp 37 (vI ((sumI (befI (l.take j))) + opn)) rfl (qg0 ⟨by omega, by omega⟩)
  refine fp HF 1 4 [(38, vP g6 2)] fun a HF => ?_
  refine fo HF 5 rfl rfl ?_
  refine qo HF HM (i := 1) rfl rfl rfl rfl (by kernel_rfl) rfl rfl (by simp) ?_
  clear HM; intro w8_5 HM
  refine qb rfl (wp_seq (qa ?_))
  refine fy HF HM 0 rfl rfl rfl (v := .agg #[vB 1, vB cpu, vI ((sumI (befI (l.take j))) + opn), vI 0, .slice A13 j c13]) (Yl.zg rfl rfl si_bk rfl (fun _ h => qd (h.blk (i := 1) rfl))) fun a HF => ?_
  refine fo HF 1 rfl rfl ?_
  refine e_sa HF HM 3 rfl rfl rfl rfl rfl si_bk rfl rfl (by simp [Value.oneCell']) ?_
  clear HM; intro w9_1 HM
  refine qb rfl (wp_ret ?_)
  exact ret1 rfl HF (.cellS (i := 3) HF HM rfl rfl si_bk rfl) (⟨⟨A13, c13, by rw [← qk9 (by omega) (by rw [hlo])], by rw [qda (by omega)]; exact HM.own (i := 2) rfl, by rw [qda (by omega)]; omega⟩, HM.below⟩)
 have hd33 := ne_of_beq_false hb33
 have hlo := qr6 (cpu := cpu) (opn := opn) (l := l) (k := j) (by omega)
 refine qe HF rfl (wp_skip (wp_seq (qa ?_)))
 refine fy HF HM 0 rfl rfl rfl (v := .agg #[vB 1, vB cpu, vI (sumI (befI (l.take j))), vI 0, .slice A13 j c13]) (Yl.zg rfl rfl si_bk rfl (fun _ h => qd (h.blk (i := 1) rfl))) fun a HF => ?_
 refine fo HF 1 rfl rfl ?_
 refine e_sa HF HM 3 rfl rfl rfl rfl rfl si_bk rfl rfl (by simp [Value.oneCell']) ?_
 clear HM; intro w9_1 HM
 refine qb rfl (wp_ret ?_)
 exact ret1 rfl HF (.cellS (i := 3) HF HM rfl rfl si_bk rfl) (⟨⟨A13, c13, by rw [← qk9 (by omega) (by rw [hlo])], by rw [qda (by omega)]; exact HM.own (i := 2) rfl, by rw [qda (by omega)]; omega⟩, HM.below⟩)
theorem qls (A : Option Addr) (n c : Nat) (l : List It) (w : World) (hr : Rd w w.heap.size 12 A n (l.flatMap itL)) (hln : l.length = n) (hn : n ≤ 1000000) :
  Calls Tryd.prog 36 #[.slice A n c] w fun r w' => (∃ A c, r = .returned (.slice A (evsI l).length c) ∧ w'.ownsRow w.heap.size 45 11 (.slice A (evsI l).length c) (evsI l).length ((evsI l).flatMap evL) ∧ (evsI l).length ≤ c) ∧ Below w.heap.size w w' := by
 have e : (evsI l).length = n := by rw [qc9]; exact hln
 rw [e]
 exact qd9 A n c l w hr hln hn
theorem qu8 (b : Bk) (hok : b.Ok) (hf : b.fits = true) (A : Option Addr) (c B : Nat) (w : World) (hL : LaidX B w) (hB : B ≤ w.heap.size) (hr : Rd w w.heap.size 11 A b.evs.length (b.evs.flatMap evL)) (hn : b.evs.length ≤ 1000000) :
  Calls Tryd.prog 38 #[.agg (b.cells A c)] w (Is w (.tuple #[.int .i64 (b.qea : Int), .int .i64 0])) := by
 have h := qs1 b hok A c B w hL hB hr hn
 unfold Bk.fill at h
 rwa [if_neg (by rw [hf]; decide)] at h
theorem qs2 (cpu : Nat) (hcpu : cpu < 256) (A : Option Addr) (n c : Nat) (l : List It) (opn limit : Int) (hok : ∀ x ∈ l, x.Ok) (ho : I64 opn) (hlm : I64 limit) (B : Nat) (w : World) (hL : LaidX B w) (hB : B ≤ w.heap.size) (hr : Rd w w.heap.size 12 A n (l.flatMap itL)) (hc : n ≤ c) (hln : l.length = n) (hn : n ≤ 1000000) :
    Calls Tryd.prog 12 #[.int .u8 (cpu : Int), .slice A n c, .int .i64 opn, .int .i64 limit] w (qgb 45 41 w (cutS cpu l opn limit).2 (cutS cpu l opn limit).1) := by
 subst hln
 refine qg (vs := [vB cpu, .slice A l.length c, vI opn, vI limit]) Tryd.func12 rfl rfl (by kernel_rfl) (σ0 := [(0, vB cpu), (1, .slice A l.length c), (2, vI opn), (3, vI limit)]) rfl ?_
 intro a HF
 have HM := Mem.start w
 refine wp_seq (qa ?_)
 refine fo HF 0 rfl rfl ?_
 refine e_box HF HM (cs := #[vB cpu]) rfl rfl rfl rfl (by decide) ?_
 clear HF HM; intro a w4 g4 HF HM
 refine fo HF 1 rfl rfl ?_
 refine e_box HF HM (cs := #[.slice A l.length c]) rfl rfl rfl rfl (by decide) ?_
 clear HF HM; intro a w5 g5 HF HM
 refine fo HF 2 rfl rfl ?_
 refine e_box HF HM (cs := #[vI opn]) rfl rfl rfl rfl (by decide) ?_
 clear HF HM; intro a w6 g6 HF HM
 refine fp HF 2 3 [(9, vI 0), (8, .slice none 0 0)] fun a HF => ?_
 refine qb rfl (wp_seq (wp_block (wp_seq (qa ?_))))
 refine fy HF HM 0 rfl rfl rfl (Yl.qh rfl rfl (by kernel_rfl) (fun _ h => h.cell (i := 2) rfl rfl)) fun a HF => ?_
 refine fp HF 2 1 [(17, .bool (decide ((cpu : Int) ≥ (64 : Int))))] fun a HF => ?_
 rcases HF.tf 17 rfl with ⟨hb17, HF⟩ | ⟨hb17, HF⟩
 ·
  have hd17 := of_decide_eq_true hb17
  refine fp HF 8 3 [(14, .bool true)] fun a HF => ?_
  refine qb rfl (qf HF rfl (wp_seq (qa ?_)))
  refine fp HF 2 0 [(9, vI 2), (8, .slice none 0 0)] fun a HF => ?_
  refine qb rfl (wp_ret ?_)
  exact ret2 rfl HF (.tmp HF rfl) (.tmp HF rfl) (by rw [qjm (by omega)]; exact qd5 HM rfl)
 have hd17 := of_decide_eq_false hb17
 refine fp HF 4 3 [(21, .bool (decide ((limit : Int) < (1 : Int))))] fun a HF => ?_
 rcases HF.tf 21 rfl with ⟨hb21, HF⟩ | ⟨hb21, HF⟩
 ·
  have hd21 := of_decide_eq_true hb21
  refine fp HF 4 7 [(14, .bool true)] fun a HF => ?_
  refine qb rfl (qf HF rfl (wp_seq (qa ?_)))
  refine fp HF 2 0 [(9, vI 2), (8, .slice none 0 0)] fun a HF => ?_
  refine qb rfl (wp_ret ?_)
  exact ret2 rfl HF (.tmp HF rfl) (.tmp HF rfl) (by rw [qjm (by omega)]; exact qd5 HM rfl)
 have hd21 := of_decide_eq_false hb21
 refine fp HF 4 7 [(14, .bool (decide ((limit : Int) > (4096 : Int))))] fun a HF => ?_
 refine qb rfl ?_
 rcases HF.tf 14 rfl with ⟨hb14, HF⟩ | ⟨hb14, HF⟩
 ·
  have hd14 := of_decide_eq_true hb14
  refine qf HF rfl (wp_seq (qa ?_))
  refine fp HF 2 0 [(9, vI 2), (8, .slice none 0 0)] fun a HF => ?_
  refine qb rfl (wp_ret ?_)
  exact ret2 rfl HF (.tmp HF rfl) (.tmp HF rfl) (by rw [qjm (by omega)]; exact qd5 HM rfl)
 have hd14 := of_decide_eq_false hb14
 refine qe HF rfl (wp_seq (qa ?_))
 refine fy HF HM 0 rfl rfl rfl (Yl.qh rfl rfl (by kernel_rfl) (fun _ h => h.cell (i := 2) rfl rfl)) fun a HF => ?_
 refine fy HF HM 1 rfl rfl rfl (Yl.qh rfl rfl (by kernel_rfl) (fun _ h => h.cell (i := 1) rfl rfl)) fun a HF => ?_
 refine fy HF HM 2 rfl rfl rfl (Yl.qh rfl rfl (by kernel_rfl) (fun _ h => h.cell (i := 0) rfl rfl)) fun a HF => ?_
 refine fo HF 3 rfl rfl ?_
 refine e_is HF HM [vB cpu, .slice A l.length c, vI opn] (.bool (zt cpu l opn)) rfl rfl (qm2 cpu A l.length c l opn hok ho B _ (hL.mem HM hB) (HM.le hB) (HM.old hr) rfl (by omega)) fun w29 hbw HM a HF => ?_
 refine fp HF 2 4 [(25, .bool (!(zt cpu l opn)))] fun a HF => ?_
 refine qb rfl ?_
 rcases HF.tf 25 rfl with ⟨hb25, HF⟩ | ⟨hb25, HF⟩
 ·
  have hbad : zt cpu l opn = false := by simpa using hb25
  refine qf HF rfl (wp_seq (qa ?_))
  refine fp HF 2 0 [(9, vI 110), (8, .slice none 0 0)] fun a HF => ?_
  refine qb rfl (wp_ret ?_)
  exact ret2 rfl HF (.tmp HF rfl) (.tmp HF rfl) (by rw [qoy (by omega) hbad]; exact qd5 HM rfl)
 have hgood : zt cpu l opn = true := by simpa using hb25
 have hG := GoodI.of (by omega) hok hgood
 refine qe HF rfl (wp_seq (qa ?_))
 refine fy HF HM 0 rfl rfl rfl (Yl.qh rfl rfl (by kernel_rfl) (fun _ h => h.cell (i := 1) rfl rfl)) fun a HF => ?_
 refine fy HF HM 1 rfl rfl rfl (Yl.len rfl rfl (by kernel_rfl)) fun a HF => ?_
 refine fp HF 2 2 [(35, .bool ((l.length : Int) == (0 : Int)))] fun a HF => ?_
 rcases HF.tf 35 rfl with ⟨hb35, HF⟩ | ⟨hb35, HF⟩
 ·
  have hd35 := eq_of_beq hb35
  refine fy HF HM 4 rfl rfl rfl (Yl.qh rfl rfl (by kernel_rfl) (fun _ h => h.cell (i := 0) rfl rfl)) fun a HF => ?_
  refine fp HF 3 5 [(31, .bool ((opn : Int) == (0 : Int)))] fun a HF => ?_
  refine qb rfl ?_
  rcases HF.tf 31 rfl with ⟨hb31, HF⟩ | ⟨hb31, HF⟩
  ·
   have hd31 := eq_of_beq hb31
   refine qf HF rfl (wp_seq (qa ?_))
   refine fp HF 2 0 [(9, vI 0), (8, .slice none 0 0)] fun a HF => ?_
   refine qb rfl (wp_ret ?_)
   exact ret2 rfl HF (.tmp HF rfl) (.tmp HF rfl) (by rw [qk6 (by omega) hgood (by omega) (by omega)]; exact qd5 HM rfl)
  have hd31 := ne_of_beq_false hb31
  refine qe HF rfl (wp_seq (qa ?_))
  refine fy HF HM 0 rfl rfl rfl (Yl.qh rfl rfl (by kernel_rfl) (fun _ h => h.cell (i := 1) rfl rfl)) fun a HF => ?_
  refine fy HF HM 1 rfl rfl rfl (Yl.len rfl rfl (by kernel_rfl)) fun a HF => ?_
  refine fp HF 2 2 [(39, .bool ((l.length : Int) == (0 : Int)))] fun a HF => ?_
  refine qb rfl ?_
  rcases HF.tf 39 rfl with ⟨hb39, HF⟩ | ⟨hb39, HF⟩
  ·
   have hd39 := eq_of_beq hb39
   refine qf HF rfl (wp_seq (qa ?_))
   refine fy HF HM 0 rfl rfl rfl (Yl.qh rfl rfl (by kernel_rfl) (fun _ h => h.cell (i := 2) rfl rfl)) fun a HF => ?_
   refine fy HF HM 1 rfl rfl rfl (Yl.qh rfl rfl (by kernel_rfl) (fun _ h => h.cell (i := 0) rfl rfl)) fun a HF => ?_
   refine fy HF HM 2 rfl rfl rfl (v := .agg #[vB 1, vB cpu, vI opn, vI 0, .slice none 0 0]) (Yl.build (vs := [(0, vB 1), (1, vB cpu), (2, vI opn)]) rfl (by kernel_rfl) (by kernel_rfl)) fun a HF => ?_
   refine fo HF 3 rfl rfl ?_
   refine qar HF HM (vs := [(0, .agg #[vB 1, vB cpu, vI opn, vI 0, .slice none 0 0])]) (cs := #[vB 1, vB cpu, vI opn, vI 0, .slice none 0 0]) rfl qgc (by decide) rfl (by kernel_rfl) rfl (by decide) ?_
   clear HF HM; intro a w46 g46 HF HM
   refine fp HF 2 4 [(9, vI 0), (8, vS g46 1 1)] fun a HF => ?_
   refine qb rfl (wp_ret ?_)
   exact ret2 rfl HF (.tmp HF rfl) (.tmp HF rfl) (by rw [qk7 (by omega) hgood (by omega) (by omega)]; exact quc HM (i := 0) rfl)
  have hd39 := ne_of_beq_false hb39
  exfalso; omega
 have hd35 := ne_of_beq_false hb35
 refine fp HF 4 4 [(31, .bool false)] fun a HF => ?_
 refine qb rfl (qe HF rfl (wp_seq (qa ?_)))
 refine fy HF HM 0 rfl rfl rfl (Yl.qh rfl rfl (by kernel_rfl) (fun _ h => h.cell (i := 1) rfl rfl)) fun a HF => ?_
 refine fy HF HM 1 rfl rfl rfl (Yl.len rfl rfl (by kernel_rfl)) fun a HF => ?_
 refine fp HF 2 2 [(39, .bool ((l.length : Int) == (0 : Int)))] fun a HF => ?_
 refine qb rfl ?_
 rcases HF.tf 39 rfl with ⟨hb39, HF⟩ | ⟨hb39, HF⟩
 ·
  have hd39 := eq_of_beq hb39
  exfalso; omega
 have hd39 := ne_of_beq_false hb39
 refine qe HF rfl (wp_skip (wp_seq (qa ?_)))
 refine fy HF HM 0 rfl rfl rfl (v := .func (.func 35) #[] #[vP g4 0, vP g5 0, vP g6 0]) (Yl.makeFunc (fst := []) (caps := [vP g4 0, vP g5 0, vP g6 0]) rfl rfl rfl) fun a HF => ?_
 refine fp HF 1 1 [(10, .func (.func 35) #[] #[vP g4 0, vP g5 0, vP g6 0])] fun a HF => ?_
 refine qb rfl (wp_seq (qa ?_))
 refine fp HF 1 0 [(11, .slice none 0 0)] fun a HF => ?_
 refine qb rfl ?_
 obtain ⟨lim, rfl⟩ : ∃ k : Nat, limit = (k : Int) := ⟨limit.toNat, by omega⟩
 replace HM := HM.nil 41 5
 replace HM : Mem w _ (.row (.slice none 0 0) 0 [] 41 5 :: .blk g6 #[vI opn] 3 :: .blk g5 #[.slice A l.length c] 22 :: .blk g4 #[vB cpu] 5 :: hbF 45 []) := HM
 refine wp_seq (wp_block ?_)
 refine zk (fun mS aS wS => ∃ (r : List It) (X : Option Addr) (cc : Nat) (q : List Hb) (f : Nat) (Ao : Option Addr) (co : Nat), (Rd w w.heap.size 12 X r.length (r.flatMap itL)) ∧ (r.length ≤ cc) ∧ (GoodI cpu r opn) ∧ (r.length ≤ l.length) ∧ (r.length ≤ f) ∧ (q.map Hb.b ++ cutGo cpu opn lim f r = cutGo cpu opn lim l.length l) ∧ (q.length ≤ co) ∧ (q.length + r.length ≤ l.length) ∧ mS = r.length ∧ Fr aS 87 [] [(11, .slice Ao q.length co), (10, .func (.func 35) #[] #[vP g4 0, vP g5 0, vP g6 0]), (39, .bool false), (31, .bool false), (25, .bool false), (14, .bool false), (9, vI 0), (8, .slice none 0 0), (6, vP g6 0), (5, vP g5 0), (4, vP g4 0), (3, vI lim)] ∧ Mem w wS (.row (.slice Ao q.length co) q.length (q.flatMap hbL) 41 5 :: .blk g6 #[vI opn] 3 :: .blk g5 #[.slice X r.length cc] 22 :: .blk g4 #[vB cpu] 5 :: hbF 45 q)) (m := l.length) ⟨l, A, c, [], l.length, none, 0, hr, by omega, hG, by omega, Nat.le_refl _, List.nil_append _, Nat.le_refl _, by simp, rfl, HF.sub (by kernel_rfl), HM.picksT 4 [0, 1, 2, 3] (by decide) (by decide) rfl⟩ ?_
 clear HF HM; rintro mS a w_ ⟨r, X, cc, q, f, Ao, co, hX, hcc, hGr, hrn, hf, hq, hco, hql, rfl, HF, HM⟩
 refine wp_seq (wp_seq (qa ?_))
 refine fy HF HM 0 rfl rfl rfl (Yl.qh rfl rfl (by kernel_rfl) (fun _ h => h.cell (i := 2) rfl rfl)) fun a HF => ?_
 refine fy HF HM 1 rfl rfl rfl (Yl.len rfl rfl (by kernel_rfl)) fun a HF => ?_
 refine fp HF 1 2 [(50, .bool (decide ((r.length : Int) > (0 : Int))))] fun a HF => ?_
 refine qb rfl ?_
 rcases HF.tf 50 rfl with ⟨hb50, HF⟩ | ⟨hb50, HF⟩
 ·
  have hd50 := of_decide_eq_true hb50
  have hr0 : 0 < r.length := by omega
  obtain ⟨m0, hm0⟩ : ∃ m, m = min r.length lim := ⟨_, rfl⟩
  obtain ⟨hmf, hmo, hmb, hmp, hma⟩ := qim hGr (m := m0) (by omega) (by omega)
  have hml : (mostB cpu r m0).evs.length = m0 := by show (evsI (r.take m0)).length = m0; rw [qc9, List.length_take]; omega
  have hcf := qr1 hGr (limit := lim) (by omega) hr0
  rw [← hm0] at hcf
  obtain ⟨hcp, hcl, hce⟩ := qjl hGr (limit := lim) (by omega) hr0
  have hst := qfx (cpu := cpu) (limit := lim) (opn := opn) hr0 (f := f) (by omega)
  refine qf HF rfl (wp_skip (wp_block (wp_seq (qa ?_))))
  refine fy HF HM 0 rfl rfl rfl (Yl.qh rfl rfl (by kernel_rfl) (fun _ h => h.cell (i := 2) rfl rfl)) fun a HF => ?_
  refine fy HF HM 1 rfl rfl rfl (Yl.len rfl rfl (by kernel_rfl)) fun a HF => ?_
  refine fp HF 1 2 [(53, vI lim)] fun a HF => ?_
  refine fy HF HM 3 rfl rfl rfl (v := vI (if (lim : Int) < (r.length : Int) then (lim : Int) else (r.length : Int))) (Yl.min rfl rfl rfl) fun a HF => ?_
  replace HF := HF.sp 54 (vI m0) rfl (by rw [hm0]; congr 1; split <;> omega)
  refine fp HF 1 4 [(12, vI m0)] fun a HF => ?_
  refine qb rfl ?_
  refine qbt (fun aS wS => ∃ (A59 : Option Addr) (c59 : Nat) (g13 : Nat), Fr aS 87 [] [(13, vP g13 0), (12, vI m0), (50, .bool true), (11, .slice Ao q.length co), (10, .func (.func 35) #[] #[vP g4 0, vP g5 0, vP g6 0]), (39, .bool false), (31, .bool false), (25, .bool false), (14, .bool false), (9, vI 0), (8, .slice none 0 0), (6, vP g6 0), (5, vP g5 0), (4, vP g4 0), (3, vI lim)] ∧ Mem w wS (.blk g13 #[vB 1, vB cpu, vI 0, vI 0, .slice A59 ((evsI (r.take m0)).length) c59] 41 :: .row (.slice A59 ((evsI (r.take m0)).length) c59) ((evsI (r.take m0)).length) ((evsI (r.take m0)).flatMap evL) 45 11 :: .row (.slice Ao q.length co) q.length (q.flatMap hbL) 41 5 :: .blk g6 #[vI opn] 3 :: .blk g5 #[.slice X r.length cc] 22 :: .blk g4 #[vB cpu] 5 :: hbF 45 q) ∧ ((evsI (r.take m0)).length ≤ c59)) ?_ ?_
  ·
   refine qrc HM (.row (.slice Ao q.length co) q.length (q.flatMap hbL) 41 5 :: .blk g6 #[vI opn] 3 :: .blk g5 #[.slice X r.length cc] 22 :: .blk g4 #[vB cpu] 5 :: hbF 45 q) 4 [0, 1, 2, 3] [7] fun HM HS => ?_
   refine ap HF (fun _ => HS) [2] #[false, false, true, false, false, false, false, false] [(57, vI m0)] fun a HF => ?_
   refine ay HF HS 0 rfl rfl rfl (Yl.qh rfl rfl (by kernel_rfl) (fun _ h => h.cell (i := 3) rfl rfl)) fun a HF => ?_
   refine ay HF HS 1 rfl rfl rfl (Yl.qh rfl rfl (by kernel_rfl) (fun _ h => h.cell (i := 2) rfl rfl)) fun a HF => ?_
   refine ay HF HS 3 rfl rfl rfl (v := .slice X m0 cc) (Yl.qbq ei_it (j := m0) rfl rfl rfl (by omega)) fun a HF => ?_
   refine qj [4, 6] (by kernel_rfl) rfl ?_
   refine all_cons ?_ ?_
   ·refine qm HF (i := 4) rfl rfl ?_
    refine e_cl HF [.slice X m0 cc] rfl rfl (qls X m0 cc (r.take m0) _ (HM.old (Rd.qtb qb5 hX (by omega))) (by rw [List.length_take]; omega) (by omega)) ?_
    rintro _ w59 ⟨⟨A59, c59, rfl, ho, hc59⟩, hbw⟩
    refine ⟨_, rfl, ?_⟩
    replace HM := HM.callRow hbw ho
    clear HF; intro a HF
    refine keepS (HM.picksT 5 [1, 2, 3, 4] (by decide) (by decide) rfl) (fun HS => ?_)
    refine ay HF HS 5 rfl rfl rfl (v := .agg #[vB 1, vB cpu, vI 0, vI 0, .slice A59 ((evsI (r.take m0)).length) c59]) (Yl.build (vs := [(0, vB 1), (1, vB cpu), (4, .slice A59 ((evsI (r.take m0)).length) c59)]) rfl (by kernel_rfl) (by kernel_rfl)) fun a HF => ?_
    refine qj [6] (by kernel_rfl) rfl ?_
    refine all_cons ?_ all_nil
    refine qm HF (i := 6) rfl rfl ?_
    refine qr HF HM (cs := #[vB 0, vB 0, vI 0, vI 0, .slice none 0 0]) rfl (by kernel_rfl) rfl (by decide) ?_
    clear HF HM; intro a w13 g13 HF HM
    refine keepS (HM.picksT 6 [2, 3, 4, 5] (by decide) (by decide) rfl) (fun HS => ?_)
    refine qj [7] (by kernel_rfl) rfl ?_
    refine all_cons ?_ all_nil
    refine qm HF (i := 7) rfl rfl ?_
    refine e_sa HF HM 0 rfl rfl rfl rfl rfl si_bk rfl rfl (by simp [Value.oneCell']) ?_
    clear HM; intro w13_7 HM
    refine noS (by kernel_rfl) ?_
    refine qn (by kernel_rfl) ?_
    exact ⟨A59, c59, g13, HF.sub (by kernel_rfl), HM.picksT 6 [0, 1, 2, 3, 4, 5] (by decide) (by decide) rfl, hc59⟩
   refine all_cons ?_ all_nil
   refine qm HF (i := 6) rfl rfl ?_
   refine qr HF HM (cs := #[vB 0, vB 0, vI 0, vI 0, .slice none 0 0]) rfl (by kernel_rfl) rfl (by decide) ?_
   clear HF HM; intro a w13 g13 HF HM
   refine keepS (HM.picksT 5 [1, 2, 3, 4] (by decide) (by decide) rfl) (fun HS => ?_)
   refine qj [4] (by kernel_rfl) rfl ?_
   refine all_cons ?_ all_nil
   refine qm HF (i := 4) rfl rfl ?_
   refine e_cl HF [.slice X m0 cc] rfl rfl (qls X m0 cc (r.take m0) _ (HM.old (Rd.qtb qb5 hX (by omega))) (by rw [List.length_take]; omega) (by omega)) ?_
   rintro _ w59 ⟨⟨A59, c59, rfl, ho, hc59⟩, hbw⟩
   refine ⟨_, rfl, ?_⟩
   replace HM := HM.callRow hbw ho
   clear HF; intro a HF
   refine keepS (HM.picksT 6 [2, 3, 4, 5] (by decide) (by decide) rfl) (fun HS => ?_)
   refine ay HF HS 5 rfl rfl rfl (v := .agg #[vB 1, vB cpu, vI 0, vI 0, .slice A59 ((evsI (r.take m0)).length) c59]) (Yl.build (vs := [(0, vB 1), (1, vB cpu), (4, .slice A59 ((evsI (r.take m0)).length) c59)]) rfl (by kernel_rfl) (by kernel_rfl)) fun a HF => ?_
   refine qj [7] (by kernel_rfl) rfl ?_
   refine all_cons ?_ all_nil
   refine qm HF (i := 7) rfl rfl ?_
   refine e_sa HF HM 1 rfl rfl rfl rfl rfl si_bk rfl rfl (by simp [Value.oneCell']) ?_
   clear HM; intro w13_7 HM
   refine noS (by kernel_rfl) ?_
   refine qn (by kernel_rfl) ?_
   exact ⟨A59, c59, g13, HF.sub (by kernel_rfl), HM.picksT 6 [1, 0, 2, 3, 4, 5] (by decide) (by decide) rfl, hc59⟩
  clear HF HM; rintro a w13 ⟨A59, c59, g13, HF, HM, hc59⟩
  refine wp_seq (qa ?_)
  refine fy HF HM 0 rfl rfl rfl (v := .agg #[vB 1, vB cpu, vI 0, vI 0, .slice A59 ((evsI (r.take m0)).length) c59]) (Yl.zg rfl rfl si_bk rfl (fun _ h => qd (h.blk (i := 0) rfl))) fun a HF => ?_
  refine fo HF 1 rfl rfl ?_
  refine e_is HF HM [.agg #[vB 1, vB cpu, vI 0, vI 0, .slice A59 ((evsI (r.take m0)).length) c59]] (.tuple #[vI ((mostB cpu r m0).qea), vI 0]) rfl rfl (qu8 (mostB cpu r m0) hmo hmf A59 c59 B _ (hL.mem HM hB) (HM.le hB) (HM.rd (i := 1) rfl) (by rw [hml]; omega)) fun w63 hbw HM a HF => ?_
  refine fp HF 4 2 [(12, vI ((mostB cpu r m0).qea))] fun a HF => ?_
  refine qb rfl (wp_seq (wp_block ?_))
  refine zk (fun mS aS wS => ∃ (m : Nat), (m ≤ r.length) ∧ (cutN cpu r opn lim ≤ m) ∧ (cutN cpu r opn lim = qam (fun n => decide ((ofB cpu r opn n).err = 0)) m) ∧ mS = 0 + m ∧ Fr aS 87 [] [(12, vI m), (13, vP g13 0), (50, .bool true), (11, .slice Ao q.length co), (10, .func (.func 35) #[] #[vP g4 0, vP g5 0, vP g6 0]), (39, .bool false), (31, .bool false), (25, .bool false), (14, .bool false), (9, vI 0), (8, .slice none 0 0), (6, vP g6 0), (5, vP g5 0), (4, vP g4 0), (3, vI lim)] ∧ Mem w wS (.blk g13 #[vB 1, vB cpu, vI 0, vI 0, .slice A59 ((evsI (r.take m0)).length) c59] 41 :: .row (.slice A59 ((evsI (r.take m0)).length) c59) ((evsI (r.take m0)).length) ((evsI (r.take m0)).flatMap evL) 45 11 :: .row (.slice Ao q.length co) q.length (q.flatMap hbL) 41 5 :: .blk g6 #[vI opn] 3 :: .blk g5 #[.slice X r.length cc] 22 :: .blk g4 #[vB cpu] 5 :: hbF 45 q)) (m := 0 + ((mostB cpu r m0).qea)) ⟨(mostB cpu r m0).qea, by omega, by rw [hcf]; exact qct _ _, hcf, rfl, HF.sub (by kernel_rfl), HM.picksT 6 [0, 1, 2, 3, 4, 5] (by decide) (by decide) rfl⟩ ?_
  clear HF HM; rintro mS a w_ ⟨m, hm, hmc, hdn, rfl, HF, HM⟩
  refine wp_seq (wp_seq (qa ?_))
  refine fp HF 2 0 [(67, vI m), (66, .func (.func 35) #[] #[vP g4 0, vP g5 0, vP g6 0])] fun a HF => ?_
  refine fo HF 2 rfl rfl ?_
  refine qcf HF (f := 35) (vs := [vI m]) (fst := []) (caps := [vP g4 0, vP g5 0, vP g6 0]) rfl rfl rfl (by kernel_rfl) rfl (by decide) (qn4 cpu X r.length cc r opn m hGr (by omega) g4 g5 g6 _ (HM.blk (i := 5) rfl) (HM.blk (i := 4) rfl) (HM.blk (i := 3) rfl) (HM.old hX) hcc rfl (by omega)) ?_
  rintro _ w68 ⟨⟨A68, c68, rfl, ho, hc68⟩, hbw⟩
  refine ⟨_, rfl, ?_⟩
  replace HM := HM.callRow hbw ho
  clear HF; intro a HF
  refine fo HF 3 rfl rfl ?_
  refine e_is HF HM [.agg ((ofB cpu r opn m).cells A68 c68)] (vI ((ofB cpu r opn m).err)) rfl rfl (qrt (ofB cpu r opn m) (qrz hGr m) A68 c68 B _ (hL.mem HM hB) (HM.le hB) (HM.rd (i := 0) rfl) (by rw [qda (by omega)]; omega) rfl) fun w69 hbw HM a HF => ?_
  refine fp HF 1 4 [(70, .bool (((ofB cpu r opn m).err : Int) != (0 : Int)))] fun a HF => ?_
  refine qb rfl ?_
  rcases HF.tf 70 rfl with ⟨hb70, HF⟩ | ⟨hb70, HF⟩
  ·
   have hd70 := bne_iff_ne.1 hb70
   have hdd := qmq (p := (fun n => decide ((ofB cpu r opn n).err = 0))) (m := m) (by rw [decide_eq_false_iff_not]; omega) (by omega)
   have hle := qct (fun n => decide ((ofB cpu r opn n).err = 0)) (m - 1)
   refine qf HF rfl (wp_skip (wp_block (qa ?_)))
   refine fp HF 2 0 [(72, vI (IntKind.i64.wrap ((m : Int) - 1)))] fun a HF => ?_
   replace HF := HF.sp 72 (vI (m - 1 : Nat)) rfl (qi (by omega) (by omega))
   refine fp HF 1 2 [(12, vI (m - 1 : Nat))] fun a HF => ?_
   refine qb rfl ?_
   exact ⟨_, (by omega), (m - 1), by omega, by rw [hdn, hdd]; exact hle, hdn.trans hdd, rfl, HF.sub (by kernel_rfl), HM.picksT 7 [1, 2, 3, 4, 5, 6] (by decide) (by decide) rfl⟩
  have hd70 := bne_eq_false_iff_eq.1 hb70
  have hhere := qmr (p := (fun n => decide ((ofB cpu r opn n).err = 0))) (m := m) (by rw [decide_eq_true_eq]; omega)
  rw [hdn, hhere] at hst
  refine qe HF rfl (wp_exit (wp_seq (qa ?_)))
  refine fp HF 3 0 [(75, vI m), (74, .func (.func 35) #[] #[vP g4 0, vP g5 0, vP g6 0]), (73, .slice Ao q.length co)] fun a HF => ?_
  refine fo HF 3 rfl rfl ?_
  refine qcf HF (f := 35) (vs := [vI m]) (fst := []) (caps := [vP g4 0, vP g5 0, vP g6 0]) rfl rfl rfl (by kernel_rfl) rfl (by decide) (qn4 cpu X r.length cc r opn m hGr (by omega) g4 g5 g6 _ (HM.blk (i := 6) rfl) (HM.blk (i := 5) rfl) (HM.blk (i := 4) rfl) (HM.old hX) hcc rfl (by omega)) ?_
  rintro _ w76 ⟨⟨A76, c76, rfl, ho, hc76⟩, hbw⟩
  refine ⟨_, rfl, ?_⟩
  replace HM := HM.callRow hbw ho
  clear HF; intro a HF
  refine fo HF 4 rfl rfl ?_
  refine qar HF HM (vs := [(0, .agg ((ofB cpu r opn m).cells A76 c76))]) (cs := ((ofB cpu r opn m).cells A76 c76)) rfl qgc (by decide) rfl (by kernel_rfl) rfl (by decide) ?_
  clear HF HM; intro a w77 g77 HF HM
  refine fo HF 5 rfl rfl ?_
  refine qac HF HM (i := 5) rfl qgc rfl rfl rfl (news := (hbL (⟨ofB cpu r opn m, A76, c76⟩ : Hb))) (HM.rdBlk (i := 0) (n := 1) (size := 5) rfl rfl) (qb3 _ _ _) (by omega) (by omega) rfl (by decide) ?_
  clear HF HM; intro a w78 A78 c78 HF HM hc78
  refine fp HF 1 6 [(11, .slice A78 (q.length + 1) c78)] fun a HF => ?_
  refine qb rfl ?_
  have hnA78 : q.length + 1 = (q ++ [(⟨ofB cpu r opn m, A76, c76⟩ : Hb)]).length := by rw [List.length_append]; rfl
  replace HM := HM.reRow (i := 5) (ys := (q ++ [(⟨ofB cpu r opn m, A76, c76⟩ : Hb)]).flatMap hbL) rfl hnA78 (by rw [List.flatMap_append, List.flatMap_cons, List.flatMap_nil, List.append_nil])
  rw [hnA78] at hc78
  replace HF := HF.as (t := 11) (u := .slice A78 ((q ++ [(⟨ofB cpu r opn m, A76, c76⟩ : Hb)]).length) c78) rfl (by rw [hnA78])
  replace HF := HF.as (t := 78) (u := .slice A78 ((q ++ [(⟨ofB cpu r opn m, A76, c76⟩ : Hb)]).length) c78) rfl (by rw [hnA78])
  replace HM := Mem.qyy (a := [.blk g77 ((ofB cpu r opn m).cells A76 c76) 41, .row (.slice A68 ((ofB cpu r opn m).evs.length) c68) ((ofB cpu r opn m).evs.length) ((ofB cpu r opn m).evs.flatMap evL) 45 11, .blk g13 #[vB 1, vB cpu, vI 0, vI 0, .slice A59 ((evsI (r.take m0)).length) c59] 41, .row (.slice A59 ((evsI (r.take m0)).length) c59) ((evsI (r.take m0)).length) ((evsI (r.take m0)).flatMap evL) 45 11, .row (.slice A78 ((q ++ [(⟨ofB cpu r opn m, A76, c76⟩ : Hb)]).length) c78) ((q ++ [(⟨ofB cpu r opn m, A76, c76⟩ : Hb)]).length) ((q ++ [(⟨ofB cpu r opn m, A76, c76⟩ : Hb)]).flatMap hbL) 41 5, .blk g6 #[vI opn] 3, .blk g5 #[.slice X r.length cc] 22, .blk g4 #[vB cpu] 5]) (q := q) (HM.picksT (fs' := (.row (.slice A76 ((ofB cpu r opn m).evs.length) c76) ((ofB cpu r opn m).evs.length) ((ofB cpu r opn m).evs.flatMap evL) 45 11 :: .blk g77 ((ofB cpu r opn m).cells A76 c76) 41 :: .row (.slice A68 ((ofB cpu r opn m).evs.length) c68) ((ofB cpu r opn m).evs.length) ((ofB cpu r opn m).evs.flatMap evL) 45 11 :: .blk g13 #[vB 1, vB cpu, vI 0, vI 0, .slice A59 ((evsI (r.take m0)).length) c59] 41 :: .row (.slice A59 ((evsI (r.take m0)).length) c59) ((evsI (r.take m0)).length) ((evsI (r.take m0)).flatMap evL) 45 11 :: .row (.slice A78 ((q ++ [(⟨ofB cpu r opn m, A76, c76⟩ : Hb)]).length) c78) ((q ++ [(⟨ofB cpu r opn m, A76, c76⟩ : Hb)]).length) ((q ++ [(⟨ofB cpu r opn m, A76, c76⟩ : Hb)]).flatMap hbL) 41 5 :: .blk g6 #[vI opn] 3 :: .blk g5 #[.slice X r.length cc] 22 :: .blk g4 #[vB cpu] 5 :: hbF 45 q)) 9 [1, 0, 2, 3, 4, 5, 6, 7, 8] (by decide) (by decide) rfl) rfl
  replace HM : Mem w _ (.blk g77 ((ofB cpu r opn m).cells A76 c76) 41 :: .row (.slice A68 ((ofB cpu r opn m).evs.length) c68) ((ofB cpu r opn m).evs.length) ((ofB cpu r opn m).evs.flatMap evL) 45 11 :: .blk g13 #[vB 1, vB cpu, vI 0, vI 0, .slice A59 ((evsI (r.take m0)).length) c59] 41 :: .row (.slice A59 ((evsI (r.take m0)).length) c59) ((evsI (r.take m0)).length) ((evsI (r.take m0)).flatMap evL) 45 11 :: .row (.slice A78 ((q ++ [(⟨ofB cpu r opn m, A76, c76⟩ : Hb)]).length) c78) ((q ++ [(⟨ofB cpu r opn m, A76, c76⟩ : Hb)]).length) ((q ++ [(⟨ofB cpu r opn m, A76, c76⟩ : Hb)]).flatMap hbL) 41 5 :: .blk g6 #[vI opn] 3 :: .blk g5 #[.slice X r.length cc] 22 :: .blk g4 #[vB cpu] 5 :: hbF 45 (q ++ [(⟨ofB cpu r opn m, A76, c76⟩ : Hb)])) := HM
  refine qa ?_
  refine fy HF HM 0 rfl rfl rfl (Yl.qh rfl rfl (by kernel_rfl) (fun _ h => h.cell (i := 6) rfl rfl)) fun a HF => ?_
  refine fp HF 1 1 [(80, vI m)] fun a HF => ?_
  refine fy HF HM 2 rfl rfl rfl (Yl.qh rfl rfl (by kernel_rfl) (fun _ h => h.cell (i := 6) rfl rfl)) fun a HF => ?_
  refine fy HF HM 3 rfl rfl rfl (Yl.len rfl rfl (by kernel_rfl)) fun a HF => ?_
  refine fy HF HM 4 rfl rfl rfl (Yl.qh rfl rfl (by kernel_rfl) (fun _ h => h.cell (i := 6) rfl rfl)) fun a HF => ?_
  refine fy HF HM 5 rfl rfl rfl (Yl.len rfl rfl (by kernel_rfl)) fun a HF => ?_
  refine fy HF HM 6 rfl rfl rfl (v := .slice (if r.length = m then X else X.map (·.add (m * 12))) (r.length - m) (r.length - m)) (Yl.qyt ei_it (i := m) (j := r.length) (q := r.length) rfl rfl rfl rfl rfl (by omega) (by omega) (by omega)) fun a HF => ?_
  replace HF := HF.sp 85 (.slice (if r.length = m then X else X.map (·.add (m * 12))) ((r.drop m).length) ((r.drop m).length)) rfl (by rw [List.length_drop])
  refine fo HF 7 rfl rfl ?_
  refine qo HF HM (i := 6) rfl rfl rfl rfl (by kernel_rfl) rfl rfl (by simp) ?_
  clear HM; intro w18_7 HM
  refine qb rfl ?_
  exact ⟨_, (by rw [List.length_drop]; omega), (r.drop m), if r.length = m then X else X.map (·.add (m * 12)), (r.drop m).length, (q ++ [(⟨ofB cpu r opn m, A76, c76⟩ : Hb)]), (f - 1), A78, c78, Rd.qyz qb5 hX (by omega) (Nat.le_refl _), Nat.le_refl _, hGr.drop m, by rw [List.length_drop]; omega, by rw [List.length_drop]; omega, by rw [← hq, hst, List.map_append, List.append_assoc]; rfl, hc78, by rw [List.length_append, List.length_drop, List.length_singleton]; omega, rfl, HF.sub (by kernel_rfl), HM.picksT 8 [4, 5, 6, 7] (by decide) (by decide) rfl⟩
 have hd50 := of_decide_eq_false hb50
 have hq2 : q.map Hb.b = cutGo cpu opn lim l.length l := by rw [← hq, qhe (by omega), List.append_nil]
 refine qe HF rfl (wp_exit (wp_seq (qa ?_)))
 refine fp HF 3 0 [(9, vI 0), (8, .slice Ao q.length co)] fun a HF => ?_
 refine qb rfl (wp_ret ?_)
 replace HM := HM.picksT (fs' := (.row (.slice Ao q.length co) q.length (q.flatMap hbL) 41 5 :: hbF 45 q)) 4 [0] (by decide) (by decide) rfl
 exact ret2 rfl HF (.tmp HF rfl) (.tmp HF rfl) (by rw [qk8 (by omega) hgood (by omega), ← hq2]; exact qrk HM hco)
theorem qs0 : SI Tryd.prog 102 6 := ⟨by kernel_rfl, by kernel_rfl⟩
theorem qiy (W w : World) (gb lp B : Nat) (A : Option Addr) (c : Nat) (l : List Nat) (Inv : List Nat → List Fact → Prop) (Stop : List Fact → Prop) (F0 : List Fact) (hL : LaidX B W) (hB : B ≤ W.heap.size) (hr : Rd W W.heap.size 1 A l.length (l.map B8)) (hc : l.length ≤ c) (hl : ∀ b ∈ l, b < 256) (hn : l.length ≤ 100000000)
    (hy : qfy W lp Inv Stop) (hI0 : Inv l F0) (HM : Mem W w (.blk gb #[.slice A l.length c] 54 :: F0)) :
    Calls Tryd.prog 60 (.func (.yield lp) #[] #[] :: [.pointer (some ⟨gb, 0, none⟩)]).toArray w (qr9 W Inv Stop) := by
 refine qg (vs := [.func (.yield lp) #[] #[], vP gb 0]) Tryd.func60 rfl rfl (by kernel_rfl) (σ0 := [(0, .func (.yield lp) #[] #[]), (1, vP gb 0)]) rfl ?_
 intro a HF
 refine wp_block ?_
 refine zk (fun mS aS wS => ∃ (rest : List Nat) (X : Option Addr) (cc : Nat) (F : List Fact), (Inv rest F) ∧ (Rd W W.heap.size 1 X rest.length (rest.map B8)) ∧ (rest.length ≤ cc) ∧ (∀ b ∈ rest, b < 256) ∧ (rest.length ≤ l.length) ∧ mS = rest.length ∧ Fr aS 29 [] [(0, .func (.yield lp) #[] #[]), (1, vP gb 0)] ∧ Mem W wS (.blk gb #[.slice X rest.length cc] 54 :: F)) (m := l.length) ⟨l, A, c, F0, hI0, hr, hc, hl, Nat.le_refl _, rfl, HF.sub (by kernel_rfl), HM.picksT 1 [0] (by decide) (by decide) rfl⟩ ?_
 clear HF HM; rintro mS a w_ ⟨rest, X, cc, F, hI, hX, hcc, hrl, hrn, rfl, HF, HM⟩
 refine wp_seq (wp_seq (qa ?_))
 refine fy HF HM 0 rfl rfl rfl (Yl.qh rfl rfl (by kernel_rfl) (fun _ h => h.cell (i := 0) rfl rfl)) fun a HF => ?_
 refine fy HF HM 1 rfl rfl rfl (Yl.len rfl rfl (by kernel_rfl)) fun a HF => ?_
 refine fp HF 1 2 [(8, .bool (decide ((rest.length : Int) > (0 : Int))))] fun a HF => ?_
 refine qb rfl ?_
 rcases HF.tf 8 rfl with ⟨hb8, HF⟩ | ⟨hb8, HF⟩
 ·
  have hd8 := of_decide_eq_true hb8
  have hne : 0 < rest.length := by omega
  obtain ⟨b, m, er, hq⟩ : ∃ b m er, readB rest = (b, m, er) := ⟨_, _, _, rfl⟩
  refine qf HF rfl (wp_skip (wp_block (wp_seq (qa ?_))))
  refine fy HF HM 0 rfl rfl rfl (Yl.qh rfl rfl (by kernel_rfl) (fun _ h => h.cell (i := 0) rfl rfl)) fun a HF => ?_
  refine fo HF 1 rfl rfl ?_
  refine e_cl HF [.slice X rest.length cc] rfl rfl (qji X rest.length cc rest B _ (hL.mem HM hB) (HM.le hB) (HM.old hX) hcc rfl (by omega) hrl hq) ?_
  rintro _ w11 ⟨⟨A11, c11, rfl, ho, hc11⟩, hbw⟩
  refine ⟨_, rfl, ?_⟩
  replace HM := HM.callRow hbw ho
  clear HF; intro a HF
  refine fp HF 4 2 [(14, vI er), (13, vI m), (12, .agg (b.cells A11 c11))] fun a HF => ?_
  refine fo HF 6 rfl rfl ?_
  refine qr HF HM (cs := #[vB 0, vB 0, vI 0, vI 0, .slice none 0 0]) rfl (by kernel_rfl) rfl (by decide) ?_
  clear HF HM; intro a w3 g3 HF HM
  refine fo HF 7 rfl rfl ?_
  refine e_sa HF HM 0 rfl rfl rfl rfl rfl si_bk rfl rfl (qb3 _ _ _) ?_
  clear HM; intro w1_7 HM
  refine fp HF 2 8 [(5, vI er), (4, vI m)] fun a HF => ?_
  refine qb rfl (wp_seq (wp_seq ?_))
  refine qlb (i := 5) ?_
  refine fp HF 1 0 [(15, .func (.yield lp) #[] #[])] fun a HF => ?_
  refine fy HF HM 1 rfl rfl rfl (v := .agg (b.cells A11 c11)) (Yl.zg rfl rfl si_bk rfl (fun _ h => qd (h.blk (i := 0) rfl))) fun a HF => ?_
  refine fp HF 1 2 [(17, vI m)] fun a HF => ?_
  refine fy HF HM 3 rfl rfl rfl (v := .agg #[vB b.kind, vB b.cpu, vI b.lost, vI b.next, .slice A11 b.evs.length c11, vI m]) (Yl.build (vs := [(0, .agg (b.cells A11 c11)), (1, vI m)]) rfl (by kernel_rfl) (by kernel_rfl)) fun a HF => ?_
  refine fp HF 1 4 [(19, vI er)] fun a HF => ?_
  refine qb rfl ?_
  refine qut HF (i := 5) (vs := [.agg #[vB b.kind, vB b.cpu, vI b.lost, vI b.next, .slice A11 b.evs.length c11, vI m], vI er]) rfl rfl rfl rfl rfl rfl (by decide) (hy rest F _ _ A11 c11 b m er hI hq hne hrl hc11 (Mem.qxk (es := [.blk g3 (b.cells A11 c11) 41, .blk gb #[.slice X rest.length cc] 54]) (HM.picksT (fs' := (.row (.slice A11 b.evs.length c11) b.evs.length (b.evs.flatMap evL) 45 11 :: .blk g3 (b.cells A11 c11) 41 :: .blk gb #[.slice X rest.length cc] 54 :: F)) 3 [1, 0, 2] (by decide) (by decide) rfl))) qhx ?_
  clear HF HM; rintro v w20 a ⟨F2, HM, (⟨he, hv, hI2⟩ | ⟨he, hv, hS2⟩)⟩ HF <;> injection hv with hv <;> subst hv
  ·
   replace HM : Mem W w20 (.blk g3 (b.cells A11 c11) 41 :: .blk gb #[.slice X rest.length cc] 54 :: F2) := Mem.qtc (es := [.blk g3 (b.cells A11 c11) 41, .blk gb #[.slice X rest.length cc] 54]) HM
   have hq0 := hq; rw [he] at hq0; have hof := qgm hrl hq0; have hm13 := hof.least; have hml := hof.len; have hst : (rest.drop m).length < rest.length := by rw [List.length_drop]; omega
   refine fp HF 4 6 [(24, .bool ((er : Int) != (0 : Int))), (22, .bool false)] fun a HF => ?_
   replace HF := HF.sp 24 (.bool false) rfl (by rw [he]; simp)
   refine fp HF 1 10 [(25, .bool false)] fun a HF => ?_
   refine qb rfl (qe HF rfl (wp_skip (qa ?_)))
   refine fy HF HM 0 rfl rfl rfl (Yl.qh rfl rfl (by kernel_rfl) (fun _ h => h.cell (i := 1) rfl rfl)) fun a HF => ?_
   refine fp HF 1 1 [(27, vI m)] fun a HF => ?_
   refine fy HF HM 2 rfl rfl rfl (v := .slice (if cc = m then X else X.map (·.add (m * 1))) (rest.length - m) (cc - m)) (Yl.sliceFrom ei_u8 (j := m) rfl rfl rfl (by omega)) fun a HF => ?_
   replace HF := HF.sp 28 (.slice (if cc = m then X else X.map (·.add (m * 1))) ((rest.drop m).length) (cc - m)) rfl (by rw [List.length_drop])
   refine fo HF 3 rfl rfl ?_
   refine qo HF HM (i := 1) rfl rfl rfl rfl (by kernel_rfl) rfl rfl (by simp) ?_
   clear HM; intro w3_3 HM
   refine qb rfl ?_
   exact ⟨_, hst, (rest.drop m), if cc = m then X else X.map (·.add (m * 1)), cc - m, F2, hI2, Rd.qy1 hX hml hcc, by rw [List.length_drop]; omega, qa7 hrl m, by omega, rfl, HF.sub (by kernel_rfl), HM.picksT 2 [1] (by decide) (by decide) rfl⟩
  ·
   replace HM : Mem W w20 (.blk g3 (b.cells A11 c11) 41 :: .blk gb #[.slice X rest.length cc] 54 :: F2) := Mem.qtc (es := [.blk g3 (b.cells A11 c11) 41, .blk gb #[.slice X rest.length cc] 54]) HM
   refine fp HF 5 6 [(25, .bool true)] fun a HF => ?_
   refine qb rfl (qf HF rfl (wp_ret ?_))
   exact ret0 rfl HF (⟨_, rfl, F2, Mem.qn8 [.blk g3 (b.cells A11 c11) 41, .blk gb #[.slice X rest.length cc] 54] HM, .inr hS2⟩)
 have hd8 := of_decide_eq_false hb8
 have hr0 : rest = [] := List.length_eq_zero_iff.1 (by omega)
 refine qe HF rfl (wp_exit ?_)
 subst hr0
 exact norm0 rfl HF (⟨_, rfl, F, Mem.qn8 [.blk gb #[.slice X ([] : List Nat).length cc] 54] HM, .inl hI⟩)
theorem qlq (A : Option Addr) (n c : Nat) (w : World) :
    Calls Tryd.prog 42 #[.slice A n c] w fun r w' => ∃ g, r = .returned (.func (.func 60) #[] #[.pointer (some ⟨g, 0, none⟩)]) ∧ Mem w w' [.blk g #[.slice A n c] 54] := by
 refine qg (vs := [.slice A n c]) Tryd.func42 rfl rfl (by kernel_rfl) (σ0 := [(0, .slice A n c)]) rfl ?_
 intro a HF
 have HM := Mem.start w
 refine wp_seq (qa ?_)
 refine fo HF 0 rfl rfl ?_
 refine e_box HF HM (cs := #[.slice A n c]) rfl rfl rfl rfl (by decide) ?_
 clear HF HM; intro a w1 g1 HF HM
 refine fp HF 1 1 [(2, .nilFunc)] fun a HF => ?_
 refine qb rfl (wp_seq (qa ?_))
 refine fy HF HM 0 rfl rfl rfl (v := .func (.func 60) #[] #[vP g1 0]) (Yl.makeFunc (fst := []) (caps := [vP g1 0]) rfl rfl rfl) fun a HF => ?_
 refine fp HF 1 1 [(2, .func (.func 60) #[] #[vP g1 0])] fun a HF => ?_
 refine qb rfl (wp_ret ?_)
 exact ret1 rfl HF (.tmp HF rfl) (⟨_, rfl, HM⟩)
theorem qxf (A : Option Addr) (c : Nat) (l : List Nat) (BB : Nat) (w : World) (hL : LaidX BB w) (hB : BB ≤ w.heap.size) (hr : Rd w w.heap.size 1 A l.length (l.map B8)) (hc : l.length ≤ c) (hl : ∀ b ∈ l, b < 256) (hn : l.length ≤ 100000000) :
    Calls Tryd.prog 22 #[.slice A l.length c] w (Is w (.tuple #[.int .i64 ((qbp l).1.length : Int), .int .i64 ((qbp l).2.1 : Int), .int .i64 ((qbp l).2.2 : Int)])) := by
 refine qe8 (vs := [.slice A l.length c]) Tryd.func22 rfl rfl (by kernel_rfl) (σ0 := [(0, .slice A l.length c)]) rfl ?_
 intro a HF
 have HM := Mem.start w
 refine wp_seq (qa ?_)
 refine fo HF 0 rfl rfl ?_
 refine qr HF HM (cs := #[vI 0]) rfl (by kernel_rfl) rfl (by decide) ?_
 clear HF HM; intro a w2 g2 HF HM
 refine fo HF 1 rfl rfl ?_
 refine qr HF HM (cs := #[vI 0]) rfl (by kernel_rfl) rfl (by decide) ?_
 clear HF HM; intro a w3 g3 HF HM
 refine fo HF 2 rfl rfl ?_
 refine qr HF HM (cs := #[vI 0]) rfl (by kernel_rfl) rfl (by decide) ?_
 clear HF HM; intro a w4 g4 HF HM
 refine qb rfl (wp_seq (wp_seq (qa ?_)))
 refine fp HF 1 0 [(9, .slice A l.length c)] fun a HF => ?_
 refine fy HF HM 1 rfl rfl rfl (Yl.len rfl rfl (by kernel_rfl)) fun a HF => ?_
 refine fp HF 1 2 [(11, .bool (decide ((l.length : Int) > (524288 : Int))))] fun a HF => ?_
 refine qb rfl ?_
 rcases HF.tf 11 rfl with ⟨hb11, HF⟩ | ⟨hb11, HF⟩
 ·
  have hd11 := of_decide_eq_true hb11
  refine qf HF rfl (wp_seq (qa ?_))
  refine fo HF 0 rfl rfl ?_
  refine qo HF HM (i := 2) rfl rfl rfl rfl (by kernel_rfl) rfl rfl (by simp) ?_
  clear HM; intro w2_0 HM
  refine fo HF 1 rfl rfl ?_
  refine qo HF HM (i := 1) rfl rfl rfl rfl (by kernel_rfl) rfl rfl (by simp) ?_
  clear HM; intro w2_1 HM
  refine fo HF 2 rfl rfl ?_
  refine qo HF HM (i := 0) rfl rfl rfl rfl (by kernel_rfl) rfl rfl (by simp) ?_
  clear HM; intro w2_2 HM
  refine qb rfl (wp_ret ?_)
  refine qvv ?_
  exact ret3 rfl HF (.cell1 (i := 2) HF HM rfl rfl (by kernel_rfl) rfl) (.cell1 (i := 1) HF HM rfl rfl (by kernel_rfl) rfl) (.cell1 (i := 0) HF HM rfl rfl (by kernel_rfl) rfl) (⟨by rw [show qbp l = ([], 0, 3) from if_pos (by omega)]; rfl, HM.below⟩)
 have hd11 := of_decide_eq_false hb11
 refine qe HF rfl (wp_skip (wp_seq (qa ?_)))
 refine fo HF 0 rfl rfl ?_
 refine qr HF HM (cs := #[vI 0]) rfl (by kernel_rfl) rfl (by decide) ?_
 clear HF HM; intro a w5 g5 HF HM
 refine fo HF 1 rfl rfl ?_
 refine qr HF HM (cs := #[vI 0]) rfl (by kernel_rfl) rfl (by decide) ?_
 clear HF HM; intro a w6 g6 HF HM
 refine fo HF 2 rfl rfl ?_
 refine qo HF HM (i := 1) rfl rfl rfl rfl (by kernel_rfl) rfl rfl (by simp) ?_
 clear HM; intro w3_2 HM
 refine fo HF 3 rfl rfl ?_
 refine qo HF HM (i := 0) rfl rfl rfl rfl (by kernel_rfl) rfl rfl (by simp) ?_
 clear HM; intro w3_3 HM
 refine qb rfl (wp_seq (wp_seq (qa ?_)))
 refine fp HF 1 0 [(12, .slice A l.length c)] fun a HF => ?_
 refine fo HF 1 rfl rfl ?_
 refine e_cl HF [.slice A l.length c] rfl rfl (qlq A l.length c _) ?_
 rintro _ w13 ⟨gp, rfl, hm⟩
 refine ⟨_, rfl, ?_⟩
 replace HM := HM.join hm
 clear HF; intro a HF
 refine qb rfl (wp_block ?_)
 refine qvu HF HM (fun F => ∃ (k : Nat) (p : Nat) (f : Nat), (([] : List Nat).length ≤ f) ∧ ((qq l.length l).1.length = k + (qq f ([] : List Nat)).1.length) ∧ ((qq l.length l).2.1 = p + (qq f ([] : List Nat)).2.1) ∧ ((qq l.length l).2.2 = (qq f ([] : List Nat)).2.2) ∧ (k + ([] : List Nat).length ≤ l.length) ∧ (p + ([] : List Nat).length ≤ l.length) ∧ F = [.blk g6 #[vI p] 3, .blk g5 #[vI k] 3, .blk g4 #[vI 0] 36, .blk g3 #[vI 0] 3, .blk g2 #[vI 0] 3]) (fun c F => c = .ret ∧ ∃ (k : Nat) (p : Nat) (e : Nat), ((qq l.length l).1.length = k) ∧ ((qq l.length l).2.1 = p) ∧ ((qq l.length l).2.2 = e) ∧ F = [.blk g6 #[vI p] 3, .blk g5 #[vI k] 3, .blk g4 #[vI e] 36, .blk g3 #[vI p] 3, .blk g2 #[vI k] 3]) rfl (by kernel_rfl) ?_ ?_ ?_
 ·
  clear HF HM; intro lp B rec w1 hrec HM
  have hy : qfy w lp (fun rest F => ∃ (k : Nat) (p : Nat) (f : Nat), (rest.length ≤ f) ∧ ((qq l.length l).1.length = k + (qq f rest).1.length) ∧ ((qq l.length l).2.1 = p + (qq f rest).2.1) ∧ ((qq l.length l).2.2 = (qq f rest).2.2) ∧ (k + rest.length ≤ l.length) ∧ (p + rest.length ≤ l.length) ∧ F = (.obj lp (.loop (rec .ready none)) :: .obj B (.deferred (some [])) :: [.blk g6 #[vI p] 3, .blk g5 #[vI k] 3, .blk g4 #[vI 0] 36, .blk g3 #[vI 0] 3, .blk g2 #[vI 0] 3])) (fun F => ∃ (k : Nat) (p : Nat) (e : Nat), ((qq l.length l).1.length = k) ∧ ((qq l.length l).2.1 = p) ∧ ((qq l.length l).2.2 = e) ∧ F = (.obj lp (.loop (rec .done (some .ret))) :: .obj B (.deferred (some [])) :: [.blk g6 #[vI p] 3, .blk g5 #[vI k] 3, .blk g4 #[vI e] 36, .blk g3 #[vI p] 3, .blk g2 #[vI k] 3])) := by
   rintro rest F fr w3 A9 c9 b m er ⟨k, p, f, hf, hk, hp, he, hkn, hpn, rfl⟩ hq hne hrl hcb HM
   replace HM := HM.picksT (fs' := (.obj lp (.loop (rec .ready none)) :: .row (.slice A9 b.evs.length c9) b.evs.length (b.evs.flatMap evL) 45 11 :: .obj B (.deferred (some [])) :: .blk g6 #[vI p] 3 :: .blk g5 #[vI k] 3 :: .blk g4 #[vI 0] 36 :: .blk g3 #[vI 0] 3 :: .blk g2 #[vI 0] 3 :: fr)) 8 [1, 0, 2, 3, 4, 5, 6, 7] (by decide) (by decide) rfl
   refine qgf (v1 := .agg #[.int .u8 (b.kind : Int), .int .u8 (b.cpu : Int), .int .i64 b.lost, .int .i64 b.next, .slice A9 b.evs.length c9, .int .i64 (m : Int)]) (v2 := vI er) hrec HM (by decide) (by decide) fun a HF => ?_
   refine wpIn_seq ?_
   refine zm ?_
   refine fo HF 0 rfl rfl ?_
   refine qr HF HM (cs := #[vB 0, vB 0, vI 0, vI 0, .slice none 0 0, vI 0]) rfl (by kernel_rfl) rfl (by decide) ?_
   clear HF HM; intro a w7 g7 HF HM
   refine fo HF 1 rfl rfl ?_
   refine e_sa HF HM 0 rfl rfl rfl rfl rfl qs0 rfl rfl (by simp [Value.oneCell']) ?_
   clear HM; intro w5_1 HM
   refine qb rfl ?_
   refine zm ?_
   refine fp HF 1 0 [(8, vI er)] fun a HF => ?_
   refine qb rfl ?_
   refine ⟨(.blk g7 #[.int .u8 (b.kind : Int), .int .u8 (b.cpu : Int), .int .i64 b.lost, .int .i64 b.next, .slice A9 b.evs.length c9, .int .i64 (m : Int)] 102 :: .row (.slice A9 b.evs.length c9) b.evs.length (b.evs.flatMap evL) 45 11 :: .obj B (.deferred (some [])) :: .blk g6 #[vI p] 3 :: .blk g5 #[vI k] 3 :: .blk g4 #[vI 0] 36 :: .blk g3 #[vI 0] 3 :: .blk g2 #[vI 0] 3 :: fr), HM.picksT (fs' := (.obj lp (.loop (rec .ready none)) :: .blk g7 #[.int .u8 (b.kind : Int), .int .u8 (b.cpu : Int), .int .i64 b.lost, .int .i64 b.next, .slice A9 b.evs.length c9, .int .i64 (m : Int)] 102 :: .row (.slice A9 b.evs.length c9) b.evs.length (b.evs.flatMap evL) 45 11 :: .obj B (.deferred (some [])) :: .blk g6 #[vI p] 3 :: .blk g5 #[vI k] 3 :: .blk g4 #[vI 0] 36 :: .blk g3 #[vI 0] 3 :: .blk g2 #[vI 0] 3 :: fr)) 9 [1, 0, 2, 3, 4, 5, 6, 7, 8] (by decide) (by decide) rfl, fun w4 HM => ?_⟩
   refine wpIn_block ?_
   refine wpIn_seq ?_
   refine wpIn_seq ?_
   refine zm ?_
   refine fp HF 2 0 [(17, .bool ((er : Int) != (0 : Int)))] fun a HF => ?_
   refine qb rfl ?_
   rcases HF.tf 17 rfl with ⟨hb17, HF⟩ | ⟨hb17, HF⟩
   ·
    have hd17 := bne_iff_ne.1 hb17
    have hg := qhk (f := f) (by omega) hne hq (by omega)
    rw [hg] at hk hp he
    simp only [List.length_nil, Nat.add_zero] at hk hp
    refine qhj HF rfl ?_
    refine wpIn_seq ?_
    refine qr8 HM (.obj lp (.loop (rec .busy none)) :: .blk g7 #[.int .u8 (b.kind : Int), .int .u8 (b.cpu : Int), .int .i64 b.lost, .int .i64 b.next, .slice A9 b.evs.length c9, .int .i64 (m : Int)] 102 :: .row (.slice A9 b.evs.length c9) b.evs.length (b.evs.flatMap evL) 45 11 :: .obj B (.deferred (some [])) :: .blk g6 #[vI p] 3 :: .blk g5 #[vI k] 3 :: .blk g4 #[vI 0] 36 :: .blk g3 #[vI 0] 3 :: fr) 9 [0, 1, 2, 3, 4, 5, 6, 7] [4, 5] fun HM HS => ?_
    refine ap HF (fun _ => HS) [2] #[false, false, true, false, false, false] [(20, vI er)] fun a HF => ?_
    refine ay HF HS 0 rfl rfl rfl (Yl.qh rfl rfl (by kernel_rfl) (fun _ h => h.cell (i := 5) rfl rfl)) fun a HF => ?_
    refine ay HF HS 1 rfl rfl rfl (Yl.qh rfl rfl (by kernel_rfl) (fun _ h => h.cell (i := 4) rfl rfl)) fun a HF => ?_
    refine qj [3] (by kernel_rfl) rfl ?_
    refine all_cons ?_ all_nil
    refine qm HF (i := 3) rfl rfl ?_
    refine qo HF HM (i := 8) rfl rfl rfl rfl (by kernel_rfl) rfl rfl (by simp) ?_
    clear HM; intro w8_3 HM
    refine keepS (HM.picksT 9 [0, 1, 2, 3, 4, 5, 6, 7] (by decide) (by decide) rfl) (fun HS => ?_)
    refine qj [4] (by kernel_rfl) rfl ?_
    refine all_cons ?_ all_nil
    refine qm HF (i := 4) rfl rfl ?_
    refine qo HF HM (i := 7) rfl rfl rfl rfl (by kernel_rfl) rfl rfl (by simp) ?_
    clear HM; intro w8_4 HM
    refine noS (by kernel_rfl) ?_
    refine qj [5] (by kernel_rfl) rfl ?_
    refine all_cons ?_ all_nil
    refine qm HF (i := 5) rfl rfl ?_
    refine qo HF HM (i := 6) rfl rfl rfl rfl (by kernel_rfl) rfl rfl (by simp) ?_
    clear HM; intro w8_5 HM
    refine noS (by kernel_rfl) ?_
    refine qn (by kernel_rfl) ?_
    refine wpIn_ret ?_
    refine ⟨(.obj B (.deferred (some [])) :: .blk g6 #[vI p] 3 :: .blk g5 #[vI k] 3 :: .blk g4 #[vI er] 36 :: .blk g3 #[vI p] 3 :: .blk g2 #[vI k] 3 :: fr), HM.picksT (fs' := (.obj lp (.loop (rec .busy none)) :: .obj B (.deferred (some [])) :: .blk g6 #[vI p] 3 :: .blk g5 #[vI k] 3 :: .blk g4 #[vI er] 36 :: .blk g3 #[vI p] 3 :: .blk g2 #[vI k] 3 :: fr)) 9 [0, 3, 4, 5, 6, 7, 8] (by decide) (by decide) rfl, fun w5 HM => ?_⟩
    exact ⟨(.obj lp (.loop (rec .done (some .ret))) :: .obj B (.deferred (some [])) :: .blk g6 #[vI p] 3 :: .blk g5 #[vI k] 3 :: .blk g4 #[vI er] 36 :: .blk g3 #[vI p] 3 :: .blk g2 #[vI k] 3 :: []), HM, .inr ⟨(by omega), rfl, k, p, er, hk, hp, he, rfl⟩⟩
   have hd17 := bne_eq_false_iff_eq.1 hb17
   have he0 : er = 0 := by omega
   have hq0 := hq
   rw [he0] at hq0
   have hg := qds (f := f) (by omega) hne hq0
   have hof := qgm hrl hq0
   have hm13 := hof.least
   have hml := hof.len
   rw [hg] at hk hp he
   dsimp only at hk hp he
   rw [List.length_cons] at hk
   refine qge HF rfl ?_
   refine wpIn_skip ?_
   refine wpIn_seq ?_
   refine zm ?_
   refine fy HF HM 0 rfl rfl rfl (Yl.qh rfl rfl (by kernel_rfl) (fun _ h => h.cell (i := 5) rfl rfl)) fun a HF => ?_
   refine fp HF 1 1 [(22, vI (IntKind.i64.wrap ((k : Int) + 1)))] fun a HF => ?_
   replace HF := HF.sp 22 (vI (k + 1 : Nat)) rfl (qi (by omega) (by omega))
   refine fo HF 2 rfl rfl ?_
   refine qo HF HM (i := 5) rfl rfl rfl rfl (by kernel_rfl) rfl rfl (by simp) ?_
   clear HM; intro w9_2 HM
   refine qb rfl ?_
   refine zm ?_
   refine fy HF HM 0 rfl rfl rfl (Yl.qh rfl rfl (by kernel_rfl) (fun _ h => h.cell (i := 4) rfl rfl)) fun a HF => ?_
   refine fp HF 1 1 [(24, vP g7 5)] fun a HF => ?_
   refine fy HF HM 2 rfl rfl rfl (v := vI m) (Yl.qh rfl rfl (by kernel_rfl) (fun _ h => h.cell (i := 1) rfl (rfl))) fun a HF => ?_
   refine fp HF 1 3 [(26, vI (IntKind.i64.wrap ((p : Int) + (m : Int))))] fun a HF => ?_
   replace HF := HF.sp 26 (vI (p + m : Nat)) rfl (qi (by omega) (by omega))
   refine fo HF 4 rfl rfl ?_
   refine qo HF HM (i := 4) rfl rfl rfl rfl (by kernel_rfl) rfl rfl (by simp) ?_
   clear HM; intro w10_4 HM
   refine qb rfl ?_
   refine ⟨(.obj B (.deferred (some [])) :: .blk g6 #[vI (p + m : Nat)] 3 :: .blk g5 #[vI (k + 1 : Nat)] 3 :: .blk g4 #[vI 0] 36 :: .blk g3 #[vI 0] 3 :: .blk g2 #[vI 0] 3 :: fr), HM.picksT (fs' := (.obj lp (.loop (rec .busy none)) :: .obj B (.deferred (some [])) :: .blk g6 #[vI (p + m : Nat)] 3 :: .blk g5 #[vI (k + 1 : Nat)] 3 :: .blk g4 #[vI 0] 36 :: .blk g3 #[vI 0] 3 :: .blk g2 #[vI 0] 3 :: fr)) 9 [0, 3, 4, 5, 6, 7, 8] (by decide) (by decide) rfl, fun w5 HM => ?_⟩
   exact ⟨(.obj lp (.loop (rec .ready none)) :: .obj B (.deferred (some [])) :: .blk g6 #[vI (p + m : Nat)] 3 :: .blk g5 #[vI (k + 1 : Nat)] 3 :: .blk g4 #[vI 0] 36 :: .blk g3 #[vI 0] 3 :: .blk g2 #[vI 0] 3 :: []), HM, .inl ⟨(by omega), rfl, k + 1, p + m, (f - 1), by rw [List.length_drop]; omega, by omega, by omega, he, by rw [List.length_drop]; omega, by rw [List.length_drop]; omega, rfl⟩⟩
  refine (qiy w w1 gp lp BB A c l _ _ _ hL hB hr hc hl (by omega) hy ⟨0, 0, l.length, Nat.le_refl _, (Nat.zero_add _).symm, (Nat.zero_add _).symm, rfl, by omega, by omega, rfl⟩ (HM.picks [2, 0, 1, 3, 4, 5, 6, 7] (by decide) rfl)).mono ?_
  rintro r w2 ⟨v, rfl, F2, HM2, (⟨k, p, f, hf, hk, hp, he, hkn, hpn, rfl⟩ | ⟨k, p, e, hk, hp, he, rfl⟩)⟩
  ·exact ⟨v, rfl, .inl ⟨_, ⟨k, p, f, hf, hk, hp, he, hkn, hpn, rfl⟩, HM2⟩⟩
  ·exact ⟨v, rfl, .inr ⟨.ret, _, ⟨rfl, k, p, e, hk, hp, he, rfl⟩, HM2⟩⟩
 ·
  clear HF HM; rintro B a w6 _ ⟨k, p, f, hf, hk, hp, he, hkn, hpn, rfl⟩ HF HM
  have hz := qem (f := f) (l := []) rfl
  rw [hz] at hk hp he
  simp only [List.length_nil, Nat.add_zero] at hk hp
  refine wp_seq ?_
  refine qaf HM [.obj B (.deferred (some [])), .blk g6 #[vI p] 3, .blk g5 #[vI k] 3, .blk g4 #[vI 0] 36, .blk g3 #[vI 0] 3] [0, 1, 2, 3, 4] [3, 4] fun HM HS => ?_
  refine ay HF HS 0 rfl rfl rfl (Yl.qh rfl rfl (by kernel_rfl) (fun _ h => h.cell (i := 2) rfl rfl)) fun a HF => ?_
  refine ay HF HS 1 rfl rfl rfl (Yl.qh rfl rfl (by kernel_rfl) (fun _ h => h.cell (i := 1) rfl rfl)) fun a HF => ?_
  refine qj [2] (by kernel_rfl) rfl ?_
  refine all_cons ?_ all_nil
  refine qm HF (i := 2) rfl rfl ?_
  refine qo HF HM (i := 5) rfl rfl rfl rfl (by kernel_rfl) rfl rfl (by simp) ?_
  clear HM; intro w11_2 HM
  refine keepS (HM.picks [0, 1, 2, 3, 4] (by decide) rfl) (fun HS => ?_)
  refine qj [3] (by kernel_rfl) rfl ?_
  refine all_cons ?_ all_nil
  refine qm HF (i := 3) rfl rfl ?_
  refine qo HF HM (i := 4) rfl rfl rfl rfl (by kernel_rfl) rfl rfl (by simp) ?_
  clear HM; intro w11_3 HM
  refine noS (by kernel_rfl) ?_
  refine qj [4] (by kernel_rfl) rfl ?_
  refine all_cons ?_ all_nil
  refine qm HF (i := 4) rfl rfl ?_
  refine qo HF HM (i := 3) rfl rfl rfl rfl (by kernel_rfl) rfl rfl (by simp) ?_
  clear HM; intro w11_4 HM
  refine noS (by kernel_rfl) ?_
  refine qn (by kernel_rfl) ?_
  refine wp_ret ?_
  refine qjp HF HM (i := 0) rfl fun a w7 HF HM => ?_
  exact ret3 rfl HF (.cell1 (i := 5) HF HM rfl rfl (by kernel_rfl) rfl) (.cell1 (i := 4) HF HM rfl rfl (by kernel_rfl) rfl) (.cell1 (i := 3) HF HM rfl rfl (by kernel_rfl) rfl) (⟨by rw [show qbp l = qq l.length l from if_neg (by omega), hk, hp, he]; rfl, HM.below⟩)
 ·
  clear HF HM; rintro _ B a w6 _ ⟨rfl, k, p, e, hk, hp, he, rfl⟩ HF HM
  refine wp_ret ?_
  refine qjp HF HM (i := 0) rfl fun a w7 HF HM => ?_
  exact ret3 rfl HF (.cell1 (i := 5) HF HM rfl rfl (by kernel_rfl) rfl) (.cell1 (i := 4) HF HM rfl rfl (by kernel_rfl) rfl) (.cell1 (i := 3) HF HM rfl rfl (by kernel_rfl) rfl) (⟨by rw [show qbp l = qq l.length l from if_neg (by omega), hk, hp, he]; rfl, HM.below⟩)
def outsL (bs : List Bk) : List Nat := bs.flatMap Bk.out
def errL : List Bk → Nat
 | [] => 0
 | b :: t => if b.err = 0 then errL t else b.err
def zy (bs : List Bk) : List Nat × Nat := if errL bs ≠ 0 then ([], errL bs) else if 524288 < (outsL bs).length then ([], 3) else (outsL bs, 0)
theorem qo2 {bs : List Bk} (h : errL bs ≠ 0) : zy bs = ([], errL bs) := by unfold zy; rw [if_pos h]
theorem qmu {bs : List Bk} (h : errL bs = 0) (h2 : 524288 < (outsL bs).length) : zy bs = ([], 3) := by unfold zy; rw [if_neg (by omega), if_pos h2]
theorem qlc {bs : List Bk} (h : errL bs = 0) (h2 : ¬ 524288 < (outsL bs).length) : zy bs = (outsL bs, 0) := by unfold zy; rw [if_neg (by omega), if_neg h2]
theorem qo3 (bs : List Bk) : (zy bs).1.length ≤ 524288 := by
 unfold zy
 split
 ·exact Nat.zero_le _
 ·split
  ·exact Nat.zero_le _
  ·dsimp only; omega
theorem qyg {q : List Hb} {k : Nat} (h : k < q.length) : errL ((q.drop k).map Hb.b) = if (q.getD k Hb.zero).b.err = 0 then errL ((q.drop (k + 1)).map Hb.b) else (q.getD k Hb.zero).b.err := by
 rw [qch Hb.zero h, List.map_cons, errL]
theorem qvw {q : List Hb} {k : Nat} (h : k < q.length) : outsL ((q.take (k + 1)).map Hb.b) = outsL ((q.take k).map Hb.b) ++ (q.getD k Hb.zero).b.out := by
 unfold outsL
 rw [qd8 Hb.zero h, List.map_append, List.flatMap_append]
 simp
theorem quv (bs : List Bk) : (outsL bs).length ≤ 4096 * bs.length := by
 unfold outsL
 induction bs with
 | nil => exact Nat.zero_le _
 | cons b t ih =>
  rw [List.flatMap_cons, List.length_append, List.length_cons]
  have := qg7 b
  omega
theorem qsc {q : List Hb} (k : Nat) : (outsL ((q.take k).map Hb.b)).length ≤ 4096 * q.length := by
 have h := quv ((q.take k).map Hb.b)
 rw [List.length_map, List.length_take] at h
 have : min k q.length ≤ q.length := Nat.min_le_right _ _
 omega
theorem qw2 {bs : List Bk} (h : ∀ b ∈ bs, b.Ok) : ∀ x ∈ outsL bs, x < 256 := by
 intro x hx
 unfold outsL at hx
 obtain ⟨b, hb, hx⟩ := List.mem_flatMap.1 hx
 exact qyc (h b hb) x hx
theorem qld (a b : List Bk) : outsL (a ++ b) = outsL a ++ outsL b := by unfold outsL; rw [List.flatMap_append]
def zi (out : List Nat) (bs : List Bk) : List Nat × Nat := if (zy bs).2 ≠ 0 then (out, (zy bs).2) else if 524288 < out.length + (zy bs).1.length then (out, 3) else (out ++ (zy bs).1, 0)
theorem qo4 {out : List Nat} {bs : List Bk} (h : (zy bs).2 ≠ 0) : zi out bs = (out, (zy bs).2) := by unfold zi; rw [if_pos h]
theorem qmv {out : List Nat} {bs : List Bk} (h : (zy bs).2 = 0) (h2 : 524288 < out.length + (zy bs).1.length) : zi out bs = (out, 3) := by unfold zi; rw [if_neg (by omega), if_pos h2]
theorem qsd {out : List Nat} {bs : List Bk} (h : (zy bs).2 = 0) (h2 : ¬ 524288 < out.length + (zy bs).1.length) : zi out bs = (out ++ (zy bs).1, 0) := by unfold zi; rw [if_neg (by omega), if_neg h2]
def endB (next : Int) : Bk := ⟨2, 0, 0, next, []⟩
theorem qse {next : Int} (h : I64 next) : (endB next).Ok := ⟨by show 2 < 256; decide, by show 0 < 256; decide, by show I64 0; unfold I64; decide, h, by intro e he; cases he⟩
def putW (out : List Nat) (lim : Int) (cpu : Nat) (l : List It) (opn : Int) : List Nat × Nat × Nat :=
 if (cutS cpu l opn lim).2 ≠ 0 then (out, 0, (cutS cpu l opn lim).2)
 else if (zi out (cutS cpu l opn lim).1).2 ≠ 0 then (out, 0, (zi out (cutS cpu l opn lim).1).2)
 else ((zi out (cutS cpu l opn lim).1).1, (cutS cpu l opn lim).1.length, 0)
theorem quw {out : List Nat} {lim : Int} {cpu : Nat} {l : List It} {opn : Int} (h : (cutS cpu l opn lim).2 ≠ 0) : putW out lim cpu l opn = (out, 0, (cutS cpu l opn lim).2) := by unfold putW; rw [if_pos h]
theorem qux {out : List Nat} {lim : Int} {cpu : Nat} {l : List It} {opn : Int} (h : (cutS cpu l opn lim).2 = 0) (h2 : (zi out (cutS cpu l opn lim).1).2 ≠ 0) : putW out lim cpu l opn = (out, 0, (zi out (cutS cpu l opn lim).1).2) := by unfold putW; rw [if_neg (by omega), if_pos h2]
theorem qw3 {out : List Nat} {lim : Int} {cpu : Nat} {l : List It} {opn : Int} (h : (cutS cpu l opn lim).2 = 0) (h2 : (zi out (cutS cpu l opn lim).1).2 = 0) : putW out lim cpu l opn = ((zi out (cutS cpu l opn lim).1).1, (cutS cpu l opn lim).1.length, 0) := by unfold putW; rw [if_neg (by omega), if_neg (by omega)]
theorem qle {out : List Nat} {bs : List Bk} (h : (zi out bs).2 ≠ 0) : (zi out bs).1 = out := by
 unfold zi at h ⊢
 split
 ·rfl
 ·split
  ·rfl
  ·rename_i h1 h2
   rw [if_neg h1, if_neg h2] at h
   exact absurd rfl h
def nextR (l : List Nat) (p : Nat) : Bk × Nat × Nat := if p = l.length then (Bk.zero, 0, 6) else readB (l.drop p)
def readAll (l : List Nat) : List Bk × Nat := if (qbp l).2.2 ≠ 0 then ([], (qbp l).2.2) else ((qbp l).1, 0)
theorem qlf {l : List Nat} (h : 524288 < l.length) : readAll l = ([], 3) := by unfold readAll qbp; rw [if_pos h]; rfl
theorem qmw {l : List Nat} {e : Nat} (h : ¬ 524288 < l.length) (he : (qq l.length l).2.2 = e) (hen : e ≠ 0) : readAll l = ([], e) := by unfold readAll qbp; rw [if_neg h, if_pos (by omega), he]
theorem qo5 {l : List Nat} (h : ¬ 524288 < l.length) (he : (qq l.length l).2.2 = 0) : readAll l = ((qq l.length l).1, 0) := by unfold readAll qbp; rw [if_neg h, if_neg (by omega)]
section
variable {W w : World} {fs : List Fact} {t bt : TypeId}
theorem Mem.reBlk (h : Mem W w fs) {i g : Nat} {cs ds : Array Value} {t : TypeId} (hi : fs[i]? = some (.blk g cs t)) (he : cs = ds) : Mem W w (fs.set i (.blk g ds t)) := by
 subst he
 obtain ⟨hl, h2⟩ := List.getElem?_eq_some_iff.1 hi
 rw [← h2, List.set_getElem_self]
 exact h
theorem qip {w w' : World} {p : List Nat × Nat} {er : Nat} {n : Int} (hb : Below w.heap.size w w') (he : p = ([], er)) (hn : n = er) : qa6 w p.2 p.1 (.returned (.tuple #[.slice none 0 0, .int .i64 n])) w' := by
 subst he; subst hn
 exact ⟨⟨none, 0, rfl, World.ownsRow_nil _ _ _ _, Nat.le_refl _⟩, hb⟩
theorem qlg {p : List Bk × Nat} {er : Nat} {n : Int} (h : Mem W w fs) (he : p = ([], er)) (hn : n = er) : qgb t bt W p.2 p.1 (.returned (.tuple #[.slice none 0 0, .int .i64 n])) w := by
 subst he; exact qd5 h hn
end
section
variable {W w w' : World} {fs gs : List Fact} {f g1 g2 : Fact}
theorem Mem.qyu (h : Mem W w (f :: (gs ++ (g1 :: g2 :: fs)))) : Mem W w (f :: g1 :: g2 :: (gs ++ fs)) := by
 refine h.perm (List.Perm.cons f ?_)
 have h1 : (gs ++ (g1 :: g2 :: fs)).Perm (g1 :: (gs ++ (g2 :: fs))) := List.perm_middle
 exact h1.trans (List.Perm.cons g1 List.perm_middle)
end
def WrIs (W : World) (tw : TypeId) (g : Nat) (lim : Int) (out : List Nat) (fs : List Fact) (v : Value) (r : Ending) (w' : World) : Prop :=
 r = .returned v ∧ ∃ A c, out.length ≤ c ∧ Mem W w' (.blk g #[.int .i64 lim, .slice A out.length c] tw :: .row (.slice A out.length c) out.length (out.map B8) 5 1 :: fs)
theorem WrIs.as {W w' : World} {tw : TypeId} {g : Nat} {lim : Int} {out out' : List Nat} {fs : List Fact} {v v' : Value} {r : Ending} (h : WrIs W tw g lim out fs v r w') (h1 : out = out') (h2 : v = v') : WrIs W tw g lim out' fs v' r w' := by subst h1; subst h2; exact h
theorem qmx {out R : List Nat} {bs : List Bk} {er : Nat} (h : zy bs = (R, er)) (he : er ≠ 0) : zi out bs = (out, er) := by have h1 := qo4 (out := out) (bs := bs) (by rw [h]; exact he); rw [h] at h1; exact h1
theorem qlh {out R : List Nat} {bs : List Bk} {er : Nat} (h : zy bs = (R, er)) (he : er = 0) (h2 : 524288 < out.length + R.length) : zi out bs = (out, 3) := qmv (by rw [h]; exact he) (by rw [h]; exact h2)
theorem qfz {out R : List Nat} {bs : List Bk} {er : Nat} (h : zy bs = (R, er)) (he : er = 0) (h2 : ¬ 524288 < out.length + R.length) : zi out bs = (out ++ R, 0) := by have h1 := qsd (out := out) (bs := bs) (by rw [h]; exact he) (by rw [h]; exact h2); rw [h] at h1; exact h1
theorem qjq {W w' : World} {tw : TypeId} {g c : Nat} {lim n : Int} {A : Option Addr} {out : List Nat} {er : Nat} {fs : List Fact} {p : List Nat × Nat} (h : p = (out, er)) (hn : n = er) (hc : out.length ≤ c) (hm : Mem W w' (.blk g #[.int .i64 lim, .slice A out.length c] tw :: .row (.slice A out.length c) out.length (out.map B8) 5 1 :: fs)) : WrIs W tw g lim p.1 fs (.int .i64 (p.2 : Int)) (.returned (.int .i64 n)) w' := by
 subst h; subst hn
 exact ⟨rfl, A, c, hc, hm⟩
theorem qjr {W w' : World} {tw : TypeId} {g c k : Nat} {lim n m : Int} {A : Option Addr} {out : List Nat} {er : Nat} {fs : List Fact} {p : List Nat × Nat × Nat} (h : p = (out, k, er)) (hm' : m = k) (hn : n = er) (hc : out.length ≤ c) (hm : Mem W w' (.blk g #[.int .i64 lim, .slice A out.length c] tw :: .row (.slice A out.length c) out.length (out.map B8) 5 1 :: fs)) : WrIs W tw g lim p.1 fs (.tuple #[.int .i64 (p.2.1 : Int), .int .i64 (p.2.2 : Int)]) (.returned (.tuple #[.int .i64 m, .int .i64 n])) w' := by
 subst h; subst hn; subst hm'
 exact ⟨rfl, A, c, hc, hm⟩
section
variable {W w w' : World} {fs gs : List Fact} {f1 f2 : Fact}
theorem Mem.drop2 (h : Mem W w (f1 :: f2 :: (gs ++ fs))) : Mem W w (f1 :: f2 :: fs) := h.subl (List.Sublist.cons_cons _ (List.Sublist.cons_cons _ (List.sublist_append_right gs fs)))
theorem Mem.qy3 (h : Mem W w []) (k : Mem w w' gs) : Mem W w' gs := by have h1 := h.join k; rwa [List.append_nil] at h1
end
theorem qsf {out : List Nat} {lim : Int} {cpu : Nat} {l : List It} {opn : Int} {bs : List Bk} {e : Nat} (h : cutS cpu l opn lim = (bs, e)) (he : e ≠ 0) : putW out lim cpu l opn = (out, 0, e) := by have h1 := quw (out := out) (lim := lim) (cpu := cpu) (l := l) (opn := opn) (by rw [h]; exact he); rw [h] at h1; exact h1
theorem qsg {out o2 : List Nat} {lim : Int} {cpu : Nat} {l : List It} {opn : Int} {bs : List Bk} {e we : Nat} (h : cutS cpu l opn lim = (bs, e)) (he : e = 0) (h2 : zi out bs = (o2, we)) (hw : we ≠ 0) : putW out lim cpu l opn = (o2, 0, we) := by
 have h1 := qux (out := out) (lim := lim) (cpu := cpu) (l := l) (opn := opn) (by rw [h]; exact he) (by rw [h, h2]; exact hw)
 have h3 := qle (out := out) (bs := bs) (by rw [h2]; exact hw)
 rw [h2] at h3
 rw [h, h2] at h1
 rw [h1]
 exact congrArg (·, 0, we) h3.symm
theorem qns {out o2 : List Nat} {lim : Int} {cpu : Nat} {l : List It} {opn : Int} {bs : List Bk} {e we : Nat} (h : cutS cpu l opn lim = (bs, e)) (he : e = 0) (h2 : zi out bs = (o2, we)) (hw : we = 0) : putW out lim cpu l opn = (o2, bs.length, 0) := by
 have h1 := qw3 (out := out) (lim := lim) (cpu := cpu) (l := l) (opn := opn) (by rw [h]; exact he) (by rw [h, h2]; exact hw)
 rw [h, h2] at h1
 exact h1
theorem qo6 {l : List Nat} {b : Bk} {m er : Nat} (hl : ∀ x ∈ l, x < 256) (h : readB l = (b, m, er)) : m ≤ l.length := by
 by_cases he : er = 0
 ·subst he; exact (qgm hl h).len
 ·have := (qrp h he).2; omega
theorem qsh {l : List Nat} {p : Nat} {b : Bk} {m er : Nat} (hl : ∀ x ∈ l, x < 256) (hp : p ≤ l.length) (h : nextR l p = (b, m, er)) : p + m ≤ l.length := by
 unfold nextR at h
 split at h
 ·injection h with _ h; injection h with h _; omega
 ·have := qo6 (qa7 hl p) h
  rw [List.length_drop] at this
  omega
def qvx (W : World) (tr : TypeId) (g p : Nat) (l : List Nat) (A : Option Addr) (c : Nat) (fs : List Fact) (q : Bk × Nat × Nat) (r : Ending) (w' : World) : Prop :=
 ∃ A' c', r = .returned (.tuple #[.agg (q.1.cells A' c'), .int .i64 (q.2.2 : Int)]) ∧ q.1.evs.length ≤ c' ∧ Mem W w' (.row (.slice A' q.1.evs.length c') q.1.evs.length (q.1.evs.flatMap evL) 45 11 :: .blk g #[.bool true, .int .i64 ((p + q.2.1 : Nat) : Int), .slice A l.length c] tr :: .row (.slice A l.length c) l.length (l.map B8) 5 1 :: fs)
theorem qli {W w' : World} {tr : TypeId} {g p c c' m er : Nat} {l : List Nat} {A A' : Option Addr} {fs : List Fact} {q : Bk × Nat × Nat} {b : Bk} (h : q = (b, m, er)) {n : Int} (hn : n = er) (hc : b.evs.length ≤ c') (hm : Mem W w' (.row (.slice A' b.evs.length c') b.evs.length (b.evs.flatMap evL) 45 11 :: .blk g #[.bool true, .int .i64 ((p + m : Nat) : Int), .slice A l.length c] tr :: .row (.slice A l.length c) l.length (l.map B8) 5 1 :: fs)) :
  qvx W tr g p l A c fs q (.returned (.tuple #[.agg (b.cells A' c'), .int .i64 n])) w' := by
 subst h; subst hn
 exact ⟨A', c', rfl, hc, hm⟩
theorem Rd.qxl {w : World} {B : Nat} {l : List Nat} (h : Rd w B 1 none l.length (l.map B8)) : l = [] := by
 rcases Nat.eq_zero_or_pos l.length with h0 | h0
 ·exact List.length_eq_zero_iff.1 h0
 ·obtain ⟨a, ha, _⟩ := h.row h0
  cases ha
theorem LaidX.mem2 {B : Nat} {W w w' : World} {fs gs : List Fact} (h : LaidX B w) (HW : Mem W w fs) (HM : Mem W w' gs) (hB : B ≤ W.heap.size) : LaidX B w' := h.qag fun p hp => by
 rw [HM.below.cell (by omega), HW.below.cell (by omega)]
theorem Mem.qy4 {W w : World} {a b : List Fact} {t : TypeId} {q : List Hb} (h : Mem W w (a ++ (hbF t q ++ b))) : HbRd w q := h.hbRd fun _ hf => List.mem_append_right _ (List.mem_append_left _ hf)
theorem qf0 {cpu lim : Nat} {opn : Int} (hl : 0 < lim) : ∀ (f : Nat) (l : List It), GoodI cpu l opn → (∀ b ∈ cutGo cpu opn lim f l, b.Ok ∧ b.evs.length ≤ l.length) ∧ (cutGo cpu opn lim f l).length ≤ l.length
 | 0, l, _ => ⟨fun b hb => (by cases hb), Nat.zero_le _⟩
 | f + 1, l, h => by
  rcases Nat.eq_zero_or_pos l.length with h0 | h0
  ·rw [qhe h0]; exact ⟨fun b hb => (by cases hb), Nat.zero_le _⟩
  ·rw [qfx h0 (by omega)]
   obtain ⟨h1, h2, _⟩ := qjl h hl h0
   obtain ⟨i1, i2⟩ := qf0 hl f _ (h.drop (cutN cpu l opn lim))
   rw [List.length_drop] at i2
   refine ⟨fun b hb => ?_, ?_⟩
   ·rcases List.mem_cons.1 hb with rfl | hb
    ·exact ⟨qrz h _, by rw [qda h2]; exact h2⟩
    ·have h3 := i1 b hb
     rw [List.length_drop] at h3
     exact ⟨h3.1, by omega⟩
   ·rw [List.length_cons, Nat.add_sub_cancel]; omega
theorem qsi {cpu : Nat} {l : List It} {opn lim : Int} {bs : List Bk} {ce : Nat} (hcpu : cpu < 256) (hok : ∀ x ∈ l, x.Ok) (ho : I64 opn) (h : cutS cpu l opn lim = (bs, ce)) : (∀ b ∈ bs, b.Ok) ∧ (∀ b ∈ bs, b.evs.length ≤ l.length) ∧ bs.length ≤ l.length + 1 := by
 have nil : (∀ b ∈ ([] : List Bk), b.Ok) ∧ (∀ b ∈ ([] : List Bk), b.evs.length ≤ l.length) ∧ ([] : List Bk).length ≤ l.length + 1 := ⟨fun b hb => (by cases hb), fun b hb => (by cases hb), Nat.zero_le _⟩
 unfold cutS at h
 split at h
 ·injection h with h _; subst h; exact nil
 ·rename_i h1
  split at h
  ·injection h with h _; subst h; exact nil
  ·rename_i h2
   split at h
   ·injection h with h _
    subst h
    split
    ·exact nil
    ·refine ⟨fun b hb => ?_, fun b hb => ?_, by simp⟩
     ·rw [List.mem_singleton] at hb; subst hb
      exact ⟨by show 1 < 256; decide, hcpu, ho, by show I64 0; unfold I64; decide, fun e he => by cases he⟩
     ·rw [List.mem_singleton] at hb; subst hb; exact Nat.zero_le _
   ·injection h with h _
    subst h
    have hG := GoodI.of (by omega) hok (show zt cpu l opn = true by simpa using h2)
    obtain ⟨i1, i2⟩ := qf0 (cpu := cpu) (lim := lim.toNat) (opn := opn) (by omega) l.length l hG
    exact ⟨fun b hb => (i1 b hb).1, fun b hb => (i1 b hb).2, by omega⟩
def pick9 : Ev := { Ev.zero with seq := 9, time := 340, cpu := 2, kind := 6 }
def exI : List It := [⟨tickE, 3⟩, ⟨pick9, 0⟩]
theorem qxg : pick9.Ok := ⟨⟨by decide, by decide⟩, ⟨by decide, by decide⟩, by decide, by decide, ⟨by decide, by decide⟩, ⟨by decide, by decide⟩, ⟨by decide, by decide⟩, ⟨by decide, by decide⟩, ⟨by decide, by decide⟩, by decide, ⟨by decide, by decide⟩⟩
theorem qv4 : ∀ x ∈ exI, x.Ok := by
 intro x hx
 simp only [exI, List.mem_cons, List.not_mem_nil, or_false] at hx
 rcases hx with rfl | rfl
 ·exact ⟨qye, by show I64 3; unfold I64; decide⟩
 ·exact ⟨qxg, by show I64 0; unfold I64; decide⟩
theorem sa1 : cutS 2 exI 2 1 = ([⟨1, 2, 3, 0, [tickE]⟩, ⟨1, 2, 2, 0, [pick9]⟩], 0) := by decide +kernel
theorem sa2 : cutS 2 exI 2 2 = ([⟨1, 2, 5, 0, [tickE, pick9]⟩], 0) := by decide +kernel
theorem sa3 : cutS 2 [] 0 1 = ([], 0) := by decide +kernel
theorem sa4 : cutS 2 [] 2 1 = ([⟨1, 2, 2, 0, []⟩], 0) := by decide +kernel
theorem sa5 : zi [] [endB 0] = ([], 107) := by decide +kernel
theorem sa6 : zi [] [endB 7] = (awX, 0) := by decide +kernel
theorem sa7 : qbp (awX ++ [1]) = ([⟨2, 0, 0, 7, []⟩], 13, 100) := by decide +kernel
theorem sa8 : nextR awX 0 = (⟨2, 0, 0, 7, []⟩, 13, 0) := by decide +kernel
theorem sa9 : nextR awX 13 = (Bk.zero, 0, 6) := by decide +kernel
theorem qxh : ∀ b ∈ awX ++ [1], b < 256 := by decide
theorem map1 {q : List Hb} {b : Bk} (h : q.map Hb.b = [b]) : ∃ x, q = [x] ∧ x.b = b := by
 cases q with
 | nil => cases h
 | cons x r =>
  cases r with
  | nil => injection h with h _; exact ⟨x, rfl, h⟩
  | cons y r => injection h with _ h; cases h
theorem map2 {q : List Hb} {b d : Bk} (h : q.map Hb.b = [b, d]) : ∃ x y, q = [x, y] ∧ x.b = b ∧ y.b = d := by
 cases q with
 | nil => cases h
 | cons x r =>
  injection h with h1 h2
  obtain ⟨y, rfl, h3⟩ := map1 h2
  exact ⟨x, y, rfl, h1, h3⟩
structure Ss where
 cpu : Nat
 b : Bs
 l : List Sm
 bef : List Nat
 opn : Nat
structure Ss.Ok (x : Ss) : Prop where
 cpu : x.cpu < 256
 b : x.b.Ok
 l : ∀ y ∈ x.l, y.Ok
 bef : ∀ y ∈ x.bef, y < 4294967296
 opn : x.opn < 4294967296
def Ss.cells (x : Ss) (A : Option Addr) (c : Nat) (A2 : Option Addr) (c2 : Nat) : Array Value := #[.int .u8 (x.cpu : Int), .int .i64 x.b.seq, .int .i64 x.b.time, .slice A x.l.length c, .slice A2 x.bef.length c2, .int .u32 (x.opn : Int)]
theorem qvy (x : Ss) (A : Option Addr) (c : Nat) (A2 : Option Addr) (c2 : Nat) : ∀ v ∈ (x.cells A c A2 c2).toList, v.oneCell' = true := by intro v hv; simp [Ss.cells] at hv; rcases hv with rfl | rfl | rfl | rfl | rfl | rfl <;> rfl
def W32 (y : Nat) : Value := .int .u32 (y : Int)
theorem si_ss : SI Tryd.prog 31 6 := ⟨by kernel_rfl, by kernel_rfl⟩
def befAt (bef : List Nat) (i : Nat) : Nat := if bef.length = 0 then 0 else bef.getD (i % bef.length) 0
def qb8 (bef : List Nat) (es : List Ev) (n : Nat) : List It := (List.range n).map fun i => ⟨es.getD i Ev.zero, (befAt bef i : Int)⟩
def Ss.es (x : Ss) : List Ev := madeL x.cpu x.b x.l
def Ss.items (x : Ss) : List It := qb8 x.bef x.es x.es.length
def qvz (w : World) (x : Ss) (r : Ending) (w' : World) : Prop := ∃ A c, r = .returned (.tuple #[.int .u8 ((x.cpu % 64 : Nat) : Int), .slice A x.items.length c, .int .i64 (x.opn : Int)]) ∧ w'.ownsRow w.heap.size 47 12 (.slice A x.items.length c) x.items.length (x.items.flatMap itL) ∧ x.items.length ≤ c ∧ Below w.heap.size w w'
theorem qhn (bef : List Nat) (es : List Ev) (n : Nat) : qb8 bef es (n + 1) = qb8 bef es n ++ [⟨es.getD n Ev.zero, (befAt bef n : Int)⟩] := by
 unfold qb8
 rw [List.range_succ, List.map_append]
 rfl
theorem qo7 (bef : List Nat) (es : List Ev) (n : Nat) : (qb8 bef es n).length = n := by unfold qb8; simp
theorem qlj (x : Ss) : evsI x.items = x.es := by
 unfold evsI Ss.items qb8
 rw [List.map_map]
 refine List.ext_getElem? fun i => ?_
 rw [List.getElem?_map]
 by_cases h : i < x.es.length
 ·rw [List.getElem?_range h]
  show some (x.es.getD i Ev.zero) = _
  rw [List.getD_eq_getElem?_getD, List.getElem?_eq_getElem h]; rfl
 ·rw [List.getElem?_eq_none (by simp; omega), List.getElem?_eq_none (by omega)]; rfl
theorem quy {bef : List Nat} (h : ∀ y ∈ bef, y < 4294967296) (i : Nat) : befAt bef i < 4294967296 := by
 unfold befAt
 split
 ·decide
 ·rw [List.getD_eq_getElem?_getD, List.getElem?_eq_getElem (Nat.mod_lt _ (by omega))]
  exact h _ (List.getElem_mem _)
theorem qdt {x : Ss} (h : x.Ok) : ∀ y ∈ x.items, 0 ≤ y.before ∧ y.before < 4294967296 := by
 intro y hy
 unfold Ss.items qb8 at hy
 obtain ⟨i, _, rfl⟩ := List.mem_map.1 hy
 have := quy h.bef i
 show 0 ≤ ((befAt x.bef i : Nat) : Int) ∧ ((befAt x.bef i : Nat) : Int) < 4294967296
 omega
theorem qnt (cpu : Nat) : ∀ (l : List Sm) (b : Bs), (qb7 cpu b l).length = l.length
 | [], _ => rfl
 | x :: r, b => by rw [qb7, List.length_cons, List.length_cons, qnt cpu r]
theorem es200 (x : Ss) : x.es.length ≤ 200 := by
 unfold Ss.es madeL
 rw [qnt, List.length_take]
 omega
theorem qho : ∀ (es : List Ev) (cpu : Nat) (p : Option Ev) (b : Bs), Chain cpu p b es → ∀ e ∈ es, e.Ok ∧ e.cpu = cpu
 | [], _, _, _, _, e, he => by cases he
 | x :: r, cpu, p, b, h, e, he => by
  obtain ⟨h1, h2, h3, h4⟩ := h
  rcases List.mem_cons.1 he with rfl | he
  ·exact ⟨h1.ok, h2⟩
  ·exact qho r cpu _ _ h4 e he
theorem es_ok {x : Ss} (h : x.Ok) : ∀ e ∈ x.es, e.Ok ∧ e.cpu = x.cpu % 64 := qho _ _ _ _ (qhm h.cpu x.b h.l)
theorem qcu (x : Ss) : x.items.length = x.es.length := qo7 _ _ _
theorem qnu {x : Ss} (h : x.Ok) : ∀ y ∈ x.items, y.Ok := by
 intro y hy
 have hb := qdt h y hy
 have he : y.e ∈ evsI x.items := List.mem_map_of_mem hy
 rw [qlj] at he
 exact ⟨(es_ok h _ he).1, by unfold I64; omega⟩
theorem qv0 {M : Int} : ∀ {l : List Int}, (∀ n ∈ l, n ≤ M) → sumI l ≤ M * l.length
 | [], _ => by simp [sumI]
 | x :: t, h => by
  have h1 := h x List.mem_cons_self
  have h2 := qv0 (l := t) (fun n hn => h n (List.mem_cons_of_mem _ hn))
  simp only [sumI, List.length_cons]
  have : M * ((t.length + 1 : Nat) : Int) = M * t.length + M := by rw [Int.natCast_add, Int.mul_add]; simp
  omega
theorem qsj {x : Ss} (h : x.Ok) : 0 ≤ sumI (befI x.items) ∧ sumI (befI x.items) ≤ 858993459200 := by
 refine ⟨qaz fun y hy => (qdt h y hy).1, ?_⟩
 have h1 := qv0 (M := 4294967295) (l := befI x.items) (fun n hn => by
  unfold befI at hn
  obtain ⟨y, hy, rfl⟩ := List.mem_map.1 hn
  have := (qdt h y hy).2
  omega)
 have h2 := es200 x
 rw [qjn, qcu] at h1
 omega
theorem qbf {x : Ss} (h : x.Ok) : GoodI (x.cpu % 64) x.items (x.opn : Int) := by
 have hs := qsj h
 have ho := h.opn
 exact ⟨by omega, ⟨x.b.based, by rw [qlj]; exact qhm h.cpu x.b h.l⟩, qnu h, by omega, fun y hy => (qdt h y hy).1, by omega⟩
theorem qlk : ∀ {l : List Int} {r : Int}, (∀ n ∈ l, 0 ≤ n) → sumI l ≤ r → qa8 r l = true
 | [], _, _, _ => rfl
 | x :: t, r, h, hs => by
  have h1 := h x List.mem_cons_self
  have h2 := qek (l := t) (fun n hn => h n (List.mem_cons_of_mem _ hn))
  simp only [sumI] at hs
  simp only [qa8, Bool.and_eq_true, decide_eq_true_eq]
  exact ⟨⟨h1, by omega⟩, qlk (fun n hn => h n (List.mem_cons_of_mem _ hn)) (by omega)⟩
theorem qw5 {cpu : Nat} {l : List It} {opn : Int} (h : GoodI cpu l opn) : zt cpu l opn = true := by
 obtain ⟨b, hb⟩ := h.chain
 have hm : qcg = 281474976710656 := rfl
 have h0 := h.sum
 have h1 := qlk (r := qcg) (l := opn :: befI l) (fun n hn => by
  rcases List.mem_cons.1 hn with rfl | hn
  ·exact h.o0
  ·unfold befI at hn
   obtain ⟨y, hy, rfl⟩ := List.mem_map.1 hn
   exact h.bef y hy) (by simp only [sumI]; omega)
 unfold zt
 rw [h1, decide_eq_true (qel hb)]
 cases l with
 | nil => rfl
 | cons y r =>
  have : y.e.cpu = cpu := (qho _ _ _ _ hb y.e (by unfold evsI; exact List.mem_cons_self)).2
  simp [cpuOk, this]
end Go.Proofs.YtfeheccoijnbaaaDoor
namespace Go.Proofs.YtfeheccoijnbaaaDoor
open Go.RowKit Go.ChangeShapes Go.WideShapes Go.ChangeAt
def qmz : List Go.IntKind := [.u8, .u8, .u32, .u32, .u32, .u32, .u32, .u32, .u32, .u32, .u64]
theorem qsp : qeu Tryd.prog 124 qmz = true := by kernel_rfl
theorem qpc : Tryd.prog.underlying 27 = some (.slice 124) := by kernel_rfl
theorem qsq {cs : List Value} (hl : cs.length = qmz.length) (h : ∀ (i : Nat) (k : Go.IntKind), qmz[i]? = some k → ∃ z : Int, cs[i]? = some (Value.int k z) ∧ (Lit.int k z).wf = true) : ∃ x : Sm, smL x = cs ∧ x.Ok := by
 obtain ⟨z0, h0, w0⟩ := h 0 .u8 rfl
 have w0 := u8_wf w0
 obtain ⟨z1, h1, w1⟩ := h 1 .u8 rfl
 have w1 := u8_wf w1
 obtain ⟨z2, h2, w2⟩ := h 2 .u32 rfl
 have w2 := qev w2
 obtain ⟨z3, h3, w3⟩ := h 3 .u32 rfl
 have w3 := qev w3
 obtain ⟨z4, h4, w4⟩ := h 4 .u32 rfl
 have w4 := qev w4
 obtain ⟨z5, h5, w5⟩ := h 5 .u32 rfl
 have w5 := qev w5
 obtain ⟨z6, h6, w6⟩ := h 6 .u32 rfl
 have w6 := qev w6
 obtain ⟨z7, h7, w7⟩ := h 7 .u32 rfl
 have w7 := qev w7
 obtain ⟨z8, h8, w8⟩ := h 8 .u32 rfl
 have w8 := qev w8
 obtain ⟨z9, h9, w9⟩ := h 9 .u32 rfl
 have w9 := qev w9
 obtain ⟨z10, h10, w10⟩ := h 10 .u64 rfl
 have w10 := qx0 w10
 refine ⟨⟨z0.toNat, z1.toNat, z2.toNat, z3.toNat, z4.toNat, z5.toNat, z6.toNat, z7.toNat, z8.toNat, z9.toNat, z10.toNat⟩, ?_, ⟨by show z0.toNat < _; omega, by show z1.toNat < _; omega, by show z2.toNat < _; omega, by show z3.toNat < _; omega, by show z4.toNat < _; omega, by show z5.toNat < _; omega, by show z6.toNat < _; omega, by show z7.toNat < _; omega, by show z8.toNat < _; omega, by show z9.toNat < _; omega, by show z10.toNat < _; omega⟩⟩
 refine qqj (by rw [hl]; rfl) fun i hi => ?_
 have hi' : i < 11 := by rw [hl] at hi; exact hi
 have hc : i = 0 ∨ i = 1 ∨ i = 2 ∨ i = 3 ∨ i = 4 ∨ i = 5 ∨ i = 6 ∨ i = 7 ∨ i = 8 ∨ i = 9 ∨ i = 10 := by omega
 rcases hc with rfl | rfl | rfl | rfl | rfl | rfl | rfl | rfl | rfl | rfl | rfl
 ·rw [h0]; show some (Value.int .u8 ((z0.toNat : Nat) : Int)) = _; rw [Int.toNat_of_nonneg w0.1]
 ·rw [h1]; show some (Value.int .u8 ((z1.toNat : Nat) : Int)) = _; rw [Int.toNat_of_nonneg w1.1]
 ·rw [h2]; show some (Value.int .u32 ((z2.toNat : Nat) : Int)) = _; rw [Int.toNat_of_nonneg w2.1]
 ·rw [h3]; show some (Value.int .u32 ((z3.toNat : Nat) : Int)) = _; rw [Int.toNat_of_nonneg w3.1]
 ·rw [h4]; show some (Value.int .u32 ((z4.toNat : Nat) : Int)) = _; rw [Int.toNat_of_nonneg w4.1]
 ·rw [h5]; show some (Value.int .u32 ((z5.toNat : Nat) : Int)) = _; rw [Int.toNat_of_nonneg w5.1]
 ·rw [h6]; show some (Value.int .u32 ((z6.toNat : Nat) : Int)) = _; rw [Int.toNat_of_nonneg w6.1]
 ·rw [h7]; show some (Value.int .u32 ((z7.toNat : Nat) : Int)) = _; rw [Int.toNat_of_nonneg w7.1]
 ·rw [h8]; show some (Value.int .u32 ((z8.toNat : Nat) : Int)) = _; rw [Int.toNat_of_nonneg w8.1]
 ·rw [h9]; show some (Value.int .u32 ((z9.toNat : Nat) : Int)) = _; rw [Int.toNat_of_nonneg w9.1]
 ·rw [h10]; show some (Value.int .u64 ((z10.toNat : Nat) : Int)) = _; rw [Int.toNat_of_nonneg w10.1]
section
variable {H : Type} {enc : TypeId × Value → H} {W : World} {b0 : Nat} {v : Value} {d : DataW H} {p : List MemPlace}
theorem qu0 : Tryd.prog.cellsOf 124 = 11 := by kernel_rfl
theorem qw8 {fuel : Nat} {cs : List Value} {x : DataW H × List MemPlace} (hf : DataW.trod enc Tryd.prog W 0 (fun _ => true) true fuel 124 cs = some x) : ∃ e : Sm, smL e = cs ∧ e.Ok := by
 obtain ⟨h1, h2⟩ := qgw qsp hf
 exact qsq h1 h2
theorem qu1 {fuel : Nat} {cs : List Value} {x : DataW H × List MemPlace} (hf : DataW.trod enc Tryd.prog W 0 (fun _ => true) true fuel 27 cs = some x) :
  ∃ (A : Option Addr) (c : Nat) (l : List Sm), cs = [.slice A l.length c] ∧ l.length ≤ c ∧ c ≤ maxLen ∧ (∀ x ∈ l, x.Ok) ∧ Rd W W.heap.size 11 A l.length (l.flatMap smL) :=
 qio smL Sm.Ok qpc qu0 (by decide) qjs (fun _ _ _ h => qw8 h) hf
theorem qu2 : Tryd.prog.underlying 28 = some (.slice 29) := by kernel_rfl
theorem qln : Tryd.prog.cellsOf 29 = 1 := by kernel_rfl
theorem qpd : Tryd.prog.cellsOf 28 = 1 := by kernel_rfl
theorem qsr : Tryd.prog.cellsOf 27 = 1 := by kernel_rfl
theorem qnx {fuel : Nat} {cs : List Value} {x : DataW H × List MemPlace} (hf : DataW.trod enc Tryd.prog W 0 (fun _ => true) true fuel 29 cs = some x) : ∃ e : Nat, [W32 e] = cs ∧ e < 4294967296 := by
 obtain ⟨z, e1, _, w1⟩ := DataW.trod_int qrb hf
 have := qev w1
 exact ⟨z.toNat, by rw [e1]; show [Value.int .u32 ((z.toNat : Nat) : Int)] = _; rw [Int.toNat_of_nonneg this.1], by omega⟩
theorem qny : ∀ l : List Nat, l.flatMap (fun e => [W32 e]) = l.map W32
 | [] => rfl
 | a :: r => by rw [List.flatMap_cons, List.map_cons, qny r]; rfl
theorem qss {fuel : Nat} {cs : List Value} {x : DataW H × List MemPlace} (hf : DataW.trod enc Tryd.prog W 0 (fun _ => true) true fuel 28 cs = some x) :
  ∃ (A : Option Addr) (c : Nat) (l : List Nat), cs = [.slice A l.length c] ∧ l.length ≤ c ∧ c ≤ maxLen ∧ (∀ x ∈ l, x < 4294967296) ∧ Rd W W.heap.size 1 A l.length (l.map W32) := by
 obtain ⟨A, c, l, h1, h2, h3, h4, h5⟩ := qio (fun e : Nat => [W32 e]) (· < 4294967296) qu2 qln (by decide) (fun _ => rfl) (fun _ _ _ h => qnx h) hf
 refine ⟨A, c, l, h1, h2, h3, h4, ?_⟩
 rwa [qny l] at h5
theorem ss_f0 : fieldAt Tryd.prog 31 0 0 5 = true := by kernel_rfl
theorem ss_f1 : fieldAt Tryd.prog 31 1 1 26 = true := by kernel_rfl
theorem ss_f2 : fieldAt Tryd.prog 31 2 3 27 = true := by kernel_rfl
theorem ss_f3 : fieldAt Tryd.prog 31 3 4 28 = true := by kernel_rfl
theorem ss_f4 : fieldAt Tryd.prog 31 4 5 29 = true := by kernel_rfl
theorem qnz : Tryd.prog.cellsOf 31 = 6 := by kernel_rfl
theorem qw9 {cs : List Value} {a b c d e f : Value} (hl : cs.length = 6) (h0 : cs[0]? = some a) (h1 : cs[1]? = some b) (h2 : cs[2]? = some c) (h3 : cs[3]? = some d) (h4 : cs[4]? = some e) (h5 : cs[5]? = some f) : cs = [a, b, c, d, e, f] := by
 refine qqj hl fun i hi => ?_
 have hi' : i < 6 := hi
 have hc : i = 0 ∨ i = 1 ∨ i = 2 ∨ i = 3 ∨ i = 4 ∨ i = 5 := by omega
 rcases hc with rfl | rfl | rfl | rfl | rfl | rfl <;> assumption
structure SsIn (W : World) (x : Ss) (A : Option Addr) (c : Nat) (A2 : Option Addr) (c2 : Nat) : Prop where
 ok : x.Ok
 hc : x.l.length ≤ c
 hm : c ≤ maxLen
 hc2 : x.bef.length ≤ c2
 hm2 : c2 ≤ maxLen
 rd : Rd W W.heap.size 11 A x.l.length (x.l.flatMap smL)
 rd2 : Rd W W.heap.size 1 A2 x.bef.length (x.bef.map W32)
theorem qm0 {fuel : Nat} {cs : List Value} {y : DataW H × List MemPlace} (hf : DataW.trod enc Tryd.prog W 0 (fun _ => true) true fuel 31 cs = some y) :
  ∃ (x : Ss) (A : Option Addr) (c : Nat) (A2 : Option Addr) (c2 : Nat), (x.cells A c A2 c2).toList = cs ∧ SsIn W x A c A2 c2 := by
 obtain ⟨hl, _, y0, g0⟩ := qbl ss_f0 hf
 obtain ⟨_, _, y1, g1⟩ := qbl ss_f1 hf
 obtain ⟨_, _, y2, g2⟩ := qbl ss_f2 hf
 obtain ⟨_, _, y3, g3⟩ := qbl ss_f3 hf
 obtain ⟨_, _, y4, g4⟩ := qbl ss_f4 hf
 rw [qnz] at hl
 obtain ⟨cpu, e0, _, w0⟩ := DataW.trod_int qqh g0
 obtain ⟨_, h1⟩ := qgw qqk g1
 obtain ⟨s, hs0, ws⟩ := h1 0 .i64 rfl
 obtain ⟨t, ht0, wt⟩ := h1 1 .i64 rfl
 obtain ⟨A, c, l, e2, k1, k2, k3, k4⟩ := qu1 g2
 obtain ⟨A2, c2, bef, e3, m1, m2, m3, m4⟩ := qss g3
 obtain ⟨o, e4, w4⟩ := qnx g4
 rw [qtp] at e0
 rw [qsr] at e2
 rw [qpd] at e3
 rw [qln] at e4
 have a0 := qcz e0
 have a3 := qcz e2
 have a4 := qcz e3
 have a5 := qcz e4.symm
 rw [qog, List.getElem?_take, List.getElem?_drop] at hs0 ht0
 simp only [Nat.reduceLT, if_true] at hs0 ht0
 have u0 := u8_wf w0
 refine ⟨⟨cpu.toNat, ⟨s, t⟩, l, bef, o⟩, A, c, A2, c2, ?_, ⟨⟨by show cpu.toNat < 256; omega, ⟨qqi ws, qqi wt⟩, k3, m3, w4⟩, k1, k2, m1, m2, k4, m4⟩⟩
 refine ((qw9 hl a0 hs0 ht0 a3 a4 a5).trans ?_).symm
 show _ = [Value.int .u8 ((cpu.toNat : Nat) : Int), .int .i64 s, .int .i64 t, .slice A l.length c, .slice A2 bef.length c2, .int .u32 (o : Int)]
 rw [Int.toNat_of_nonneg u0.1]
 rfl
end
end Go.Proofs.YtfeheccoijnbaaaDoor
namespace Go.Proofs.YtfeheccoijnbaaaDoor
open Go.RowKit
theorem qxa {b : Bk} (h : b.err = 0) : 13 ≤ b.out.length := by rw [qcs h]; have := qno b; omega
theorem qis : ∀ (bs : List Bk) (rest : List Nat) (f : Nat), (∀ b ∈ bs, b.Ok ∧ b.err = 0) → (outsL bs ++ rest).length ≤ f →
  rest.length ≤ f - bs.length ∧ qq f (outsL bs ++ rest) = (bs ++ (qq (f - bs.length) rest).1, (outsL bs).length + (qq (f - bs.length) rest).2.1, (qq (f - bs.length) rest).2.2)
 | [], rest, f, _, hf => by
  refine ⟨hf, ?_⟩
  show qq f rest = _
  simp [outsL]
 | b :: t, rest, f, h, hf => by
  obtain ⟨hb, he⟩ := h b List.mem_cons_self
  have hp := qxa he
  have e : outsL (b :: t) ++ rest = b.out ++ (outsL t ++ rest) := by unfold outsL; rw [List.flatMap_cons, List.append_assoc]
  rw [e] at hf ⊢
  rw [List.length_append] at hf
  obtain ⟨i1, i2⟩ := qis t rest (f - 1) (fun x hx => h x (List.mem_cons_of_mem _ hx)) (by omega)
  refine ⟨by rw [List.length_cons]; omega, ?_⟩
  rw [qds (by omega) (by rw [List.length_append]; omega) (qul hb he _), List.drop_left, i2]
  have e2 : f - 1 - t.length = f - (t.length + 1) := by omega
  have e3 : outsL (b :: t) = b.out ++ outsL t := by unfold outsL; rw [List.flatMap_cons]
  rw [List.length_cons, e2, e3, List.length_append, Nat.add_assoc]
  rfl
theorem qst {bs : List Bk} (h : ∀ b ∈ bs, b.Ok ∧ b.err = 0) (hl : (outsL bs).length ≤ 524288) : qbp (outsL bs) = (bs, (outsL bs).length, 0) := by
 have h1 := (qis bs [] (outsL bs).length h (by simp)).2
 rw [List.append_nil, qem (l := []) rfl] at h1
 unfold qbp
 rw [if_neg (by omega), h1, List.append_nil]
 rfl
theorem qpe {l : List Nat} {bs : List Bk} {p : Nat} (h : qbp l = (bs, p, 0)) : readAll l = (bs, 0) := by unfold readAll; rw [h]; rfl
theorem qlo : ∀ {bs : List Bk}, (∀ b ∈ bs, b.err = 0) → errL bs = 0
 | [], _ => rfl
 | b :: t, h => by
  rw [errL, if_pos (h b List.mem_cons_self)]
  exact qlo fun x hx => h x (List.mem_cons_of_mem _ hx)
theorem qit {bs : List Bk} (h : ∀ b ∈ bs, b.err = 0) (hl : (outsL bs).length ≤ 524288) : zy bs = (outsL bs, 0) := qlc (qlo h) (by omega)
def atN : List Bk → Nat → Nat
 | _, 0 => 0
 | [], _ + 1 => 0
 | b :: t, i + 1 => b.evs.length + atN t i
theorem qn0 : ∀ {bs : List Bk} {i : Nat}, i < bs.length → atN bs (i + 1) = atN bs i + (bs.getD i Bk.zero).evs.length
 | [], _, h => by cases h
 | b :: t, 0, _ => by simp [atN]
 | b :: t, i + 1, h => by
  have := qn0 (bs := t) (i := i) (by simpa using h)
  show b.evs.length + atN t (i + 1) = b.evs.length + atN t i + _
  rw [this]
  simp
  omega
def moreB (L : List It) (opn : Int) (b : Bk) (p : Nat) : Bk := ⟨b.kind, b.cpu, b.lost + (L.getD p It.zero).before + (if p + 1 = L.length then opn else 0), 0, b.evs ++ [(L.getD p It.zero).e]⟩
structure FullAt (L : List It) (opn : Int) (lim : Nat) (b : Bk) (p : Nat) (last : Prop) : Prop where
 ok : b.Ok
 err : b.err = 0
 most : b.evs.length ≤ lim
 some : 0 < L.length → 0 < b.evs.length
 fits : p + b.evs.length ≤ L.length
 iff1 : p + b.evs.length < L.length → ¬ last
 iff2 : ¬ last → p + b.evs.length < L.length
 lost : 0 ≤ b.lost ∧ b.lost ≤ 281474976710656
 more : p + b.evs.length < L.length → b.evs.length ≠ lim → (moreB L opn b (p + b.evs.length)).Ok ∧ (moreB L opn b (p + b.evs.length)).err = 3
theorem qsu {cpu : Nat} {opn : Int} (hc : cpu < 64) (h1 : 0 < opn) (h2 : opn ≤ 281474976710656) : Bk.Ok ⟨1, cpu, opn, 0, []⟩ ∧ Bk.err ⟨1, cpu, opn, 0, []⟩ = 0 := by
 refine ⟨⟨by show 1 < 256; decide, by show cpu < 256; omega, by show I64 opn; unfold I64; omega, by show I64 0; unfold I64; decide, fun e he => by cases he⟩, qvs ?_ ?_⟩
 ·unfold Bk.fits
  rw [if_pos rfl]
  unfold Bk.qcw Bk.qgh
  rw [decide_eq_true_eq]
  exact ⟨rfl, hc, by show 0 ≤ opn; omega, h2, rfl, by show decide (0 < opn) = true; rw [decide_eq_true h1]⟩
 ·have := qeh ⟨1, cpu, opn, 0, []⟩
  show 12 + _ ≤ 4096
  have e : (Bk.mk 1 cpu opn 0 []).evs.length = 0 := rfl
  omega
section
variable {W w : World} {a b c : List Fact} {t : TypeId} {q : List Hb}
end
theorem Mem.qyv {W w : World} {a : List Fact} {α : Type} {f : α → List Value} {sz : Nat} (hf : ∀ x, (f x).length = sz) (h : Mem W w a) {i g m' c' : Nat} {e : TypeId} {l : List α} (hi : a[i]? = some (.row (.slice (some ⟨g, 0, none⟩) m' c') m' (l.flatMap f) e sz)) {k j m : Nat} {x : α} {ys : List Value} (hk : l[k]? = some x) (hy : ((f x).drop j).take m = ys) : w.rangeAt g (k * sz + j) ys := by
 have h1 := Rd.qy0 hf (h.rd hi) hk hy
 rwa [Nat.zero_add] at h1
instance itDec : DecidableEq It := fun ⟨a, b⟩ ⟨c, d⟩ => decidable_of_iff (a = c ∧ b = d) (by rw [It.mk.injEq])
structure Sbm where
 x : Sb
 A : Option Addr
 c : Nat
def Sbm.zero : Sbm := ⟨⟨false, 0, 0, ⟨0, 0⟩, []⟩, none, 0⟩
structure SbmIn (W : World) (h : Sbm) : Prop where
 ok : h.x.Ok
 hc : h.x.l.length ≤ h.c
 hm : h.x.l.length ≤ 9223372036854775807
 rd : Rd W W.heap.size 11 h.A h.x.l.length (h.x.l.flatMap smL)
theorem hb_at {q : List Hb} {bs : List Bk} (hq : q.map Hb.b = bs) {k : Nat} (hk : k < bs.length) : (q.getD k Hb.zero).b = bs.getD k Bk.zero := by
 subst hq
 rw [List.length_map] at hk
 rw [List.getD_eq_getElem?_getD, List.getElem?_eq_getElem hk, List.getD_eq_getElem?_getD, List.getElem?_map, List.getElem?_eq_getElem hk]
 rfl
def isArr (P : Program) (t : TypeId) : Bool := match P.underlying t with
 | some (.array _ e) => (P.info? e).isSome
 | _ => false
section
variable {P : Program} {S : World → Prop} {σ : List (Nat × Value)} {o : Oper}
theorem Yl.qxn {t : TypeId} {cs : Array Value} (hop : o.op = .build t #[]) (hu : isArr P t = true) (hz : qb0 P t = some cs) : Yl P S σ o (.agg cs) := fun a n D HF w hS => by
 obtain ⟨m, e, hu, hse⟩ : ∃ m e, P.underlying t = some (.array m e) ∧ (P.info? e).isSome = true := by
  unfold isArr at hu
  split at hu
  ·rename_i m e h; exact ⟨m, e, h, hu⟩
  ·cases hu
 obtain ⟨ie, he⟩ := Option.isSome_iff_exists.1 hse
 unfold qb0 at hz
 obtain ⟨zv, hz1, rfl⟩ := Option.map_eq_some_iff.1 hz
 obtain ⟨i, hi, hz2⟩ := Option.bind_eq_some_iff.1 hz1
 have e1 : (Instr.build t #[]).run P w = .ok (.agg zv.cells) w := by
  unfold Instr.build
  simp only [Sem.run_bind, zeroValue, sizeOf, typeInfo, program, Sem.run, hi, he, hz2, Sem.run_pure, Result.andThen_ok, run_underlying hu]
  rfl
 unfold execOp
 simp only [hop, Sem.run_bind, Sem.run_pure]
 rw [show (#[] : Array (Nat × Operand)).map (fun x => (x.1, a.eval x.2)) = #[] from by simp, e1]
 rfl
end
theorem qn1 : ∀ {bs : List Bk} {i j : Nat}, i < bs.length → j < (bs.getD i Bk.zero).evs.length → (bs.getD i Bk.zero).evs.getD j Ev.zero = (bs.flatMap Bk.evs).getD (atN bs i + j) Ev.zero
 | [], _, _, h, _ => by cases h
 | b :: t, 0, j, _, hj => by
  have hj' : j < b.evs.length := hj
  show b.evs.getD j Ev.zero = (b.evs ++ t.flatMap Bk.evs).getD (0 + j) Ev.zero
  rw [Nat.zero_add, List.getD_eq_getElem?_getD, List.getD_eq_getElem?_getD, List.getElem?_append_left hj']
 | b :: t, i + 1, j, h, hj => by
  have hj' : j < (t.getD i Bk.zero).evs.length := by simpa using hj
  have ih := qn1 (bs := t) (i := i) (j := j) (by simpa using h) hj'
  have e : (b :: t).getD (i + 1) Bk.zero = t.getD i Bk.zero := by simp
  rw [e, ih]
  show _ = (b.evs ++ t.flatMap Bk.evs).getD (b.evs.length + atN t i + j) Ev.zero
  rw [List.getD_eq_getElem?_getD, List.getD_eq_getElem?_getD, List.getElem?_append_right (by omega)]
  congr 2
  omega
theorem qsw : ∀ bs : List Bk, atN bs bs.length = (bs.flatMap Bk.evs).length
 | [] => rfl
 | b :: t => by
  show b.evs.length + atN t t.length = (b.evs ++ t.flatMap Bk.evs).length
  rw [List.length_append, qsw t]
theorem qv1 : ∀ {bs : List Bk} {i : Nat}, i < bs.length → atN bs i + (bs.getD i Bk.zero).evs.length ≤ (bs.flatMap Bk.evs).length
 | [], _, h => by cases h
 | b :: t, 0, _ => by
  show 0 + b.evs.length ≤ (b.evs ++ t.flatMap Bk.evs).length
  rw [List.length_append]; omega
 | b :: t, i + 1, h => by
  have ih := qv1 (bs := t) (i := i) (by simpa using h)
  have e : (b :: t).getD (i + 1) Bk.zero = t.getD i Bk.zero := by simp
  rw [e]
  show b.evs.length + atN t i + _ ≤ (b.evs ++ t.flatMap Bk.evs).length
  rw [List.length_append]; omega
def lostN : List Bk → Nat → Int
 | _, 0 => 0
 | [], _ + 1 => 0
 | b :: t, i + 1 => b.lost + lostN t i
theorem qiu : ∀ {bs : List Bk} {i : Nat}, i < bs.length → lostN bs (i + 1) = lostN bs i + (bs.getD i Bk.zero).lost
 | [], _, h => by cases h
 | b :: t, 0, _ => by simp [lostN]
 | b :: t, i + 1, h => by
  have := qiu (bs := t) (i := i) (by simpa using h)
  show b.lost + lostN t (i + 1) = b.lost + lostN t i + _
  rw [this]
  simp
  omega
theorem qe9 : ∀ {bs : List Bk} (i : Nat), (∀ b ∈ bs, 0 ≤ b.lost) → 0 ≤ lostN bs i ∧ lostN bs i ≤ lostN bs bs.length
 | [], 0, _ => ⟨Int.le_refl _, Int.le_refl _⟩
 | [], _ + 1, _ => ⟨Int.le_refl _, Int.le_refl _⟩
 | b :: t, 0, h => by
  have h1 := h b List.mem_cons_self
  have h2 := qe9 (bs := t) t.length (fun x hx => h x (List.mem_cons_of_mem _ hx))
  show 0 ≤ (0 : Int) ∧ (0 : Int) ≤ b.lost + lostN t t.length
  omega
 | b :: t, i + 1, h => by
  have h1 := h b List.mem_cons_self
  have h2 := qe9 (bs := t) i (fun x hx => h x (List.mem_cons_of_mem _ hx))
  show 0 ≤ b.lost + lostN t i ∧ b.lost + lostN t i ≤ b.lost + lostN t t.length
  omega
theorem qn2 {cpu lim : Nat} {opn : Int} (hl : 0 < lim) : ∀ (f : Nat) (l : List It), GoodI cpu l opn → l.length ≤ f →
  (cutGo cpu opn lim f l).flatMap Bk.evs = evsI l ∧ lostN (cutGo cpu opn lim f l) (cutGo cpu opn lim f l).length = sumI (befI l) + (if l.length = 0 then 0 else opn) ∧ ∀ b ∈ cutGo cpu opn lim f l, b.Ok ∧ b.err = 0 ∧ b.kind = 1 ∧ b.cpu = cpu ∧ b.evs.length ≤ lim ∧ 0 ≤ b.lost
 | 0, l, _, hf => by
  obtain rfl : l = [] := List.length_eq_zero_iff.1 (by omega)
  exact ⟨rfl, rfl, fun b hb => by cases hb⟩
 | f + 1, l, h, hf => by
  rcases Nat.eq_zero_or_pos l.length with h0 | h0
  ·obtain rfl : l = [] := List.length_eq_zero_iff.1 h0
   rw [qhe rfl]
   exact ⟨rfl, rfl, fun b hb => by cases hb⟩
  ·obtain ⟨n, hn⟩ : ∃ n, n = cutN cpu l opn lim := ⟨_, rfl⟩
   obtain ⟨h1, h2, h3⟩ := qjl h hl h0
   have hmin : n ≤ min l.length lim := by rw [hn]; exact qct _ _
   rw [qfx h0 (by omega), ← hn, Nat.add_sub_cancel]
   rw [← hn] at h1 h2 h3
   obtain ⟨i1, i2, i3⟩ := qn2 hl f (l.drop n) (h.drop n) (by rw [List.length_drop]; omega)
   have hel := qda (cpu := cpu) (opn := opn) h2
   refine ⟨?_, ?_, fun b hb => ?_⟩
   ·rw [List.flatMap_cons, i1, show (ofB cpu l opn n).evs = evsI (l.take n) from rfl, qdq, qk5, List.take_append_drop]
   ·show (ofB cpu l opn n).lost + lostN _ (cutGo cpu opn lim f (l.drop n)).length = _
    rw [i2, qd7 l n, List.length_drop, if_neg (by omega : ¬ l.length = 0)]
    by_cases hx : n = l.length
    ·rw [qr5 hx, if_pos (by omega)]; omega
    ·rw [qr6 hx, if_neg (by omega)]; omega
   ·rcases List.mem_cons.1 hb with rfl | hb
    ·exact ⟨qrz h n, h3, rfl, rfl, by omega, (qgo h n).1⟩
    ·exact i3 b hb
structure BackIs (cpu lim : Nat) (l : List It) (opn : Int) (bs : List Bk) : Prop where
 cut : cutS cpu l opn (lim : Int) = (bs, 0)
 evs : bs.flatMap Bk.evs = evsI l
 lost : lostN bs bs.length = sumI (befI l) + opn
 all : ∀ b ∈ bs, b.Ok ∧ b.err = 0 ∧ b.kind = 1 ∧ b.cpu = cpu ∧ b.evs.length ≤ lim ∧ 0 ≤ b.lost
 few : bs.length ≤ l.length + 1
theorem qjt {cpu lim : Nat} {l : List It} {opn : Int} (h : GoodI cpu l opn) (h1 : 0 < lim) (h2 : lim ≤ 4096) : ∃ bs, BackIs cpu lim l opn bs := by
 have hc := h.c64
 have ho := h.o0
 have hs := h.sum
 have hb := qaz h.bef
 have hok := qw5 h
 rcases Nat.eq_zero_or_pos l.length with h0 | h0
 ·obtain rfl : l = [] := List.length_eq_zero_iff.1 h0
  by_cases hz : opn = 0
  ·subst hz
   exact ⟨[], qk6 (by omega) hok rfl rfl, rfl, rfl, fun b hb => (by cases hb), Nat.zero_le _⟩
  ·have hg := qsu (cpu := cpu) (opn := opn) hc (by omega) (by omega)
   refine ⟨[⟨1, cpu, opn, 0, []⟩], qk7 (by omega) hok rfl hz, rfl, ?_, fun b hb => ?_, Nat.le_refl _⟩
   ·show opn + 0 = 0 + opn; omega
   ·rw [List.mem_singleton] at hb; subst hb
    exact ⟨hg.1, hg.2, rfl, rfl, Nat.zero_le _, ho⟩
 ·obtain ⟨i1, i2, i3⟩ := qn2 (cpu := cpu) (opn := opn) h1 l.length l h (Nat.le_refl _)
  rw [if_neg (by omega)] at i2
  exact ⟨cutGo cpu opn lim l.length l, qk8 (by omega) hok (by omega), i1, i2, i3, by have := (qf0 (cpu := cpu) (opn := opn) h1 l.length l h).2; omega⟩
theorem qiv : ∀ bs : List Bk, (outsL bs).length ≤ 62 * bs.length + 61 * (bs.flatMap Bk.evs).length
 | [] => Nat.zero_le _
 | b :: t => by
  have ih := qiv t
  have e : (outsL (b :: t)).length = b.out.length + (outsL t).length := by unfold outsL; rw [List.flatMap_cons, List.length_append]
  have e2 : ((b :: t).flatMap Bk.evs).length = b.evs.length + (t.flatMap Bk.evs).length := by rw [List.flatMap_cons, List.length_append]
  have hb : b.out.length ≤ 62 + 61 * b.evs.length := by
   by_cases he : b.err = 0
   ·rw [qcs he]; have := qeh b; omega
   ·unfold Bk.out; rw [if_neg he]; exact Nat.zero_le _
  rw [e, e2, List.length_cons]
  omega
theorem qn3 {nx : Int} (h : 1 ≤ nx ∧ nx ≤ 281474976710657) : (endB nx).Ok ∧ (endB nx).err = 0 := by
 refine ⟨qse (by unfold I64; omega), qvs ?_ ?_⟩
 ·unfold Bk.fits
  rw [if_neg (by show ¬ (2 = 1); decide), if_pos (show (endB nx).kind = 2 from rfl)]
  unfold Bk.qf2
  rw [decide_eq_true_eq]
  exact ⟨h.1, h.2, rfl, rfl, rfl⟩
 ·have h1 : (endB nx).body = vbytes nx.toNat := by unfold Bk.body; rw [if_pos (show (endB nx).kind = 2 from rfl)]; rfl
  have := qs nx.toNat
  rw [h1]; omega
theorem qu3 {out : List Nat} {lim : Int} {cpu : Nat} {l : List It} {opn : Int} {bs : List Bk} (h : cutS cpu l opn lim = (bs, 0)) (hw : ∀ b ∈ bs, b.err = 0) (hl : out.length + (outsL bs).length ≤ 524288) : putW out lim cpu l opn = (out ++ outsL bs, bs.length, 0) :=
 qns h rfl (qfz (qit hw (by omega)) rfl (by omega)) rfl
theorem qpf {out : List Nat} {nx : Int} (h : 1 ≤ nx ∧ nx ≤ 281474976710657) (hl : out.length + 4096 ≤ 524288) : zi out [endB nx] = (out ++ (endB nx).out, 0) := by
 have hg := (qn3 h).2
 have ho := qg7 (endB nx)
 have e : outsL [endB nx] = (endB nx).out := by unfold outsL; simp
 have h1 := qit (bs := [endB nx]) (fun b hb => by rw [List.mem_singleton] at hb; subst hb; exact hg) (by rw [e]; omega)
 rw [e] at h1
 exact qfz h1 rfl (by omega)
structure Ssm where
 x : Ss
 A : Option Addr
 c : Nat
 A2 : Option Addr
 c2 : Nat
structure SsmIn (W : World) (h : Ssm) : Prop where
 ok : h.x.Ok
 hc : h.x.l.length ≤ h.c
 hm : h.x.l.length ≤ 9223372036854775807
 hm2 : h.x.bef.length ≤ 9223372036854775807
 rd : Rd W W.heap.size 11 h.A h.x.l.length (h.x.l.flatMap smL)
 rd2 : Rd W W.heap.size 1 h.A2 h.x.bef.length (h.x.bef.map W32)
theorem qxb {ns : List Nat} {F : Nat → Nat} {k : Nat} (h3 : ns.length = 3) (hk : k < 3) (h : ∀ j, j < k → ns.getD j 0 = F j) : ∀ j, j < k + 1 → (ns.set k (F k)).getD j 0 = F j := fun j hj => by
 by_cases e : j = k
 ·subst e
  rw [List.getD_eq_getElem?_getD, List.getElem?_set_self (by omega)]; rfl
 ·rw [List.getD_eq_getElem?_getD, List.getElem?_set_ne (Ne.symm e), ← List.getD_eq_getElem?_getD]
  exact h j (by omega)
theorem qu4 {g p m cc n : Nat} (h : cc = m → n ≤ p + m) (hp : p + m < n) : (if cc = m then some (⟨g, p * 5, none⟩ : Addr) else (some (⟨g, p * 5, none⟩ : Addr)).map (·.add (m * 5))) = some ⟨g, (p + m) * 5, none⟩ := by
 rw [if_neg (fun e => by have := h e; omega)]
 show some (Addr.add ⟨g, p * 5, none⟩ (m * 5)) = _
 rw [Addr.add_mid, Nat.add_mul]
def Ssm.zero : Ssm := ⟨⟨0, ⟨0, 0⟩, [], [], 0⟩, none, 0, none, 0⟩
def ssmL (h : Ssm) : List Value := (h.x.cells h.A h.c h.A2 h.c2).toList
theorem qju (h : Ssm) : (ssmL h).length = 6 := rfl
def arrC (xs : List Ssm) : Array Value := (xs.flatMap ssmL).toArray
theorem qsx {xs : List Ssm} {k : Nat} (h : k < xs.length) : (arrC xs).extract (k * 6) (k * 6 + 6) = (xs.getD k Ssm.zero).x.cells (xs.getD k Ssm.zero).A (xs.getD k Ssm.zero).c (xs.getD k Ssm.zero).A2 (xs.getD k Ssm.zero).c2 := by
 apply Array.toList_inj.1
 unfold arrC
 rw [Array.toList_extract, List.extract_eq_take_drop, qhg ssmL 6 qju, show k * 6 + 6 - k * 6 = 1 * 6 by omega, qhf ssmL 6 qju, qch Ssm.zero h, List.take_succ_cons, List.take_zero, List.flatMap_singleton]
 rfl
def qv2 (P : Program) (t : TypeId) : Option (Nat × Nat) := match P.underlying t with
 | some (.array m e) => match P.underlying e, P.info? e with
  | some (.struct _), some i => some (m, i.size)
  | _, _ => none
 | _ => none
theorem Yl.qv6 {P : Program} {S : World → Prop} {σ : List (Nat × Value)} {o : Oper} {t : TypeId} {x ix : Operand} {cs ds : Array Value} {m y sz : Nat} {k : Go.IntKind} (hop : o.op = .index t x ix) (hx : look σ x = some (.agg cs)) (hi : look σ ix = some (.int k (y : Int))) (he : qv2 P t = some (m, sz)) (hy : y < m) (hd : cs.extract (y * sz) (y * sz + sz) = ds) : Yl P S σ o (.agg ds) := fun a n D HF w hS => by
 subst hd
 unfold qv2 at he
 split at he
 ·rename_i m' e hu
  split at he
  ·rename_i fs i hs hi'
   injection he with he
   injection he with h1 h2
   subst h1; subst h2
   unfold execOp
   simp [hop, HF.eval hx, HF.eval hi, Instr.index, asIntOf, run_underlying hu, hy, sizeOf, typeInfo, hi', part, isAgg, run_underlying hs]
  ·cases he
 ·cases he
def allB (bks : List (List Bk)) (nx : Int) (k : Nat) : List Bk := (bks.take k).flatMap fun bs => bs ++ [endB nx]
theorem qfa {bks : List (List Bk)} {nx : Int} {k : Nat} (h : k < bks.length) : allB bks nx (k + 1) = allB bks nx k ++ (bks.getD k [] ++ [endB nx]) := by
 unfold allB
 rw [qd8 [] h, List.flatMap_append, List.flatMap_singleton]
theorem qfb {bks : List (List Bk)} {nx : Int} {k : Nat} (h : k < bks.length) : (allB bks nx (k + 1)).length = (allB bks nx k).length + (bks.getD k []).length + 1 := by
 rw [qfa h, List.length_append, List.length_append]; simp; omega
theorem qjv {bks : List (List Bk)} {nx : Int} {j k : Nat} (h : j ≤ k) : ∃ t, allB bks nx k = allB bks nx j ++ t := by
 have e : bks.take k = bks.take j ++ (bks.take k).drop j := by
  have h1 := List.take_append_drop j (bks.take k)
  rw [List.take_take, Nat.min_eq_left h] at h1
  exact h1.symm
 unfold allB
 rw [e, List.flatMap_append]
 exact ⟨_, rfl⟩
theorem qxc {bks : List (List Bk)} {nx : Int} {k n j : Nat} (h : k < n) (hn : n ≤ bks.length) (hj : j < (bks.getD k []).length) : (allB bks nx n).getD ((allB bks nx k).length + j) Bk.zero = (bks.getD k []).getD j Bk.zero := by
 obtain ⟨t, ht⟩ := qjv (bks := bks) (nx := nx) (j := k + 1) (k := n) (by omega)
 rw [ht, qfa (by omega), List.append_assoc, List.append_assoc, List.getD_eq_getElem?_getD, List.getElem?_append_right (by omega), Nat.add_sub_cancel_left, List.getElem?_append_left hj, ← List.getD_eq_getElem?_getD]
theorem qu5 {bks : List (List Bk)} {nx : Int} {k n : Nat} (h : k < n) (hn : n ≤ bks.length) : (allB bks nx n).getD ((allB bks nx k).length + (bks.getD k []).length) Bk.zero = endB nx := by
 obtain ⟨t, ht⟩ := qjv (bks := bks) (nx := nx) (j := k + 1) (k := n) (by omega)
 rw [ht, qfa (by omega), List.append_assoc, List.append_assoc, List.getD_eq_getElem?_getD, List.getElem?_append_right (by omega), Nat.add_sub_cancel_left, List.getElem?_append_right (Nat.le_refl _), Nat.sub_self]
 rfl
theorem qxd {bks : List (List Bk)} {nx : Int} {k n : Nat} (h : k < n) (hn : n ≤ bks.length) : (allB bks nx k).length + (bks.getD k []).length < (allB bks nx n).length := by
 obtain ⟨t, ht⟩ := qjv (bks := bks) (nx := nx) (j := k + 1) (k := n) (by omega)
 have := qfb (bks := bks) (nx := nx) (k := k) (by omega)
 rw [ht, List.length_append]; omega
theorem qsy {bks : List (List Bk)} {nx : Int} (hx : 1 ≤ nx ∧ nx ≤ 281474976710657) (h : ∀ bs ∈ bks, ∀ b ∈ bs, b.Ok ∧ b.err = 0) (k : Nat) : ∀ b ∈ allB bks nx k, b.Ok ∧ b.err = 0 := fun b hb => by
 unfold allB at hb
 obtain ⟨bs, hbs, hb⟩ := List.mem_flatMap.1 hb
 rcases List.mem_append.1 hb with hb | hb
 ·exact h bs (List.mem_of_mem_take hbs) b hb
 ·rw [List.mem_singleton] at hb; subst hb; exact qn3 hx
theorem qiw {bks : List (List Bk)} {nx : Int} {k : Nat} (h : k < bks.length) : outsL (allB bks nx (k + 1)) = outsL (allB bks nx k) ++ outsL (bks.getD k []) ++ (endB nx).out := by
 rw [qfa h, qld, qld, List.append_assoc]
 congr 2
 unfold outsL; simp
theorem qlp {bks : List (List Bk)} {nx : Int} (h : ∀ bs ∈ bks, (outsL bs).length ≤ 30000) : ∀ k, k ≤ bks.length → (outsL (allB bks nx k)).length ≤ 34096 * k
 | 0, _ => Nat.zero_le _
 | k + 1, hk => by
  have ih := qlp (nx := nx) h k (by omega)
  have h1 := h _ (qap [] (show k < bks.length by omega))
  have h2 := qg7 (endB nx)
  rw [qiw (by omega), List.length_append, List.length_append]
  omega
structure Tri (W : World) (xs : List Ssm) (lim : Nat) (bks : List (List Bk)) : Prop where
 n3 : xs.length = 3
 b3 : bks.length = 3
 ok : ∀ k, k < 3 → (xs.getD k Ssm.zero).x.Ok
 back : ∀ k, k < 3 → BackIs ((xs.getD k Ssm.zero).x.cpu % 64) lim (xs.getD k Ssm.zero).x.items ((xs.getD k Ssm.zero).x.opn : Int) (bks.getD k [])
theorem qcv {W : World} {xs : List Ssm} {lim : Nat} {bks : List (List Bk)} (h : Tri W xs lim bks) {k : Nat} (hk : k < 3) : (outsL (bks.getD k [])).length ≤ 30000 ∧ (bks.getD k []).length ≤ 201 := by
 have hb := h.back k hk
 have h1 := qiv (bks.getD k [])
 have h2 : (xs.getD k Ssm.zero).x.items.length ≤ 200 := by rw [qcu]; exact es200 _
 have h3 := hb.few
 rw [hb.evs, qc9] at h1
 omega
theorem qxe {W : World} {xs : List Ssm} {lim : Nat} {bks : List (List Bk)} (h : Tri W xs lim bks) : (∀ bs ∈ bks, ∀ b ∈ bs, b.Ok ∧ b.err = 0) ∧ ∀ bs ∈ bks, (outsL bs).length ≤ 30000 := by
 have hmem : ∀ bs ∈ bks, ∃ k, k < 3 ∧ bks.getD k [] = bs := fun bs hbs => by
  obtain ⟨k, hk, rfl⟩ := List.getElem_of_mem hbs
  exact ⟨k, by rw [← h.b3]; exact hk, by rw [List.getD_eq_getElem?_getD, List.getElem?_eq_getElem hk]; rfl⟩
 refine ⟨fun bs hbs b hb => ?_, fun bs hbs => ?_⟩
 ·obtain ⟨k, hk, rfl⟩ := hmem bs hbs
  have := (h.back k hk).all b hb
  exact ⟨this.1, this.2.1⟩
 ·obtain ⟨k, hk, rfl⟩ := hmem bs hbs
  exact (qcv h hk).1
theorem qpg {xs : List Ssm} {W : World} (h3 : xs.length = 3) (h : ∀ x ∈ xs, x.x.Ok) {lim : Nat} (h1 : 0 < lim) (h2 : lim ≤ 4096) : ∃ bks, Tri W xs lim bks := by
 have hk : ∀ k, k < 3 → (xs.getD k Ssm.zero).x.Ok := fun k hk => h _ (qap Ssm.zero (by omega))
 obtain ⟨b0, h0⟩ := qjt (qbf (hk 0 (by decide))) h1 h2
 obtain ⟨b1, h1'⟩ := qjt (qbf (hk 1 (by decide))) h1 h2
 obtain ⟨b2, h2'⟩ := qjt (qbf (hk 2 (by decide))) h1 h2
 refine ⟨[b0, b1, b2], h3, rfl, hk, fun k hk => ?_⟩
 have hc : k = 0 ∨ k = 1 ∨ k = 2 := by omega
 rcases hc with rfl | rfl | rfl
 ·exact h0
 ·exact h1'
 ·exact h2'
end Go.Proofs.YtfeheccoijnbaaaDoor
namespace Go.Proofs.YtfeheccoijnbaaaDoor
open Go.RowKit Go.ChangeShapes Go.WideShapes Go.ChangeAt Go.Lib
theorem qv3 : Tryd.prog.underlying 77 = some (.array 3 31) := by kernel_rfl
theorem qu6 : Tryd.prog.cellsOf 77 = 18 := by kernel_rfl
section
variable {H : Type} {enc : TypeId × Value → H} {W : World} {b0 : Nat} {v : Value} {d : DataW H} {p : List MemPlace}
theorem qu7 {P : Program} {t e : TypeId} {n fuel : Nat} {cs : List Value} {y : DataW H × List MemPlace} (ht : P.underlying t = some (.array n e)) (h : DataW.trod enc P W 0 (fun _ => true) true fuel t cs = some y) :
  cs.length = P.cellsOf t ∧ ∀ i, i < n → ∃ f' z, DataW.trod enc P W 0 (fun _ => true) true f' e ((cs.drop (i * P.cellsOf e)).take (P.cellsOf e)) = some z := by
 cases fuel with
 | zero => simp [DataW.trod] at h
 | succ fuel =>
  simp only [DataW.trod, ht] at h
  split at h
  ·rename_i hl
   obtain ⟨xs, hm, _⟩ := Option.map_eq_some_iff.1 h
   refine ⟨hl, fun i hi => ?_⟩
   obtain ⟨b, _, hf⟩ := mapM_at hm i i (by simp [hi])
   exact ⟨fuel, b, hf⟩
  ·cases h
theorem qsz {cs : List Value} (h : ∃ (x : Ss) (A : Option Addr) (c : Nat) (A2 : Option Addr) (c2 : Nat), (x.cells A c A2 c2).toList = cs ∧ SsIn W x A c A2 c2) : ∃ x : Ssm, ssmL x = cs ∧ SsmIn W x := by
 obtain ⟨x, A, c, A2, c2, e, hx⟩ := h
 have h1 := hx.hc
 have h2 := hx.hm
 have h3 := hx.hc2
 have h4 := hx.hm2
 unfold maxLen at h2 h4
 exact ⟨⟨x, A, c, A2, c2⟩, e, ⟨hx.ok, hx.hc, by show x.l.length ≤ _; omega, by show x.bef.length ≤ _; omega, hx.rd, hx.rd2⟩⟩
theorem three {cs : List Value} (hl : cs.length = 18) : cs = (cs.drop (0 * 6)).take 6 ++ ((cs.drop (1 * 6)).take 6 ++ (cs.drop (2 * 6)).take 6) := by
 have e1 : (cs.drop 12).take 6 = cs.drop 12 := List.take_of_length_le (by simp [hl])
 have e2 : (cs.drop 6).take 6 ++ (cs.drop 6).drop 6 = cs.drop 6 := List.take_append_drop 6 _
 have e3 : cs.take 6 ++ cs.drop 6 = cs := List.take_append_drop 6 _
 rw [List.drop_drop] at e2
 show cs = (cs.drop 0).take 6 ++ ((cs.drop 6).take 6 ++ (cs.drop 12).take 6)
 rw [List.drop_zero, e1, e2, e3]
set_option maxRecDepth 100000 in
theorem qyj (hval : Value.okWide Tryd.prog W .any b0 77 v) (h : DataW.Trod enc Tryd.prog W 0 (fun _ => true) true 77 v d p) :
  ∃ xs : List Ssm, xs.length = 3 ∧ v = .agg (arrC xs) ∧ ∀ x ∈ xs, SsmIn W x := by
 have hv : ∃ cs, v = .agg cs := by
  simp only [Value.okWide, qv3] at hval
  obtain ⟨cs, h1, _⟩ := hval
  exact ⟨cs, h1⟩
 obtain ⟨cs, rfl⟩ := hv
 obtain ⟨fuel, hf⟩ := h
 obtain ⟨hl, hall⟩ := qu7 (cs := cs.toList) qv3 hf
 rw [qu6] at hl
 rw [qnz] at hall
 obtain ⟨_, _, g0⟩ := hall 0 (by omega)
 obtain ⟨_, _, g1⟩ := hall 1 (by omega)
 obtain ⟨_, _, g2⟩ := hall 2 (by omega)
 obtain ⟨x0, e0, i0⟩ := qsz (qm0 g0)
 obtain ⟨x1, e1, i1⟩ := qsz (qm0 g1)
 obtain ⟨x2, e2, i2⟩ := qsz (qm0 g2)
 refine ⟨[x0, x1, x2], rfl, ?_, ?_⟩
 ·refine congrArg Value.agg (Array.toList_inj.1 ?_)
  rw [three hl, ← e0, ← e1, ← e2]
  simp [arrC]
 ·intro x hx
  simp only [List.mem_cons, List.not_mem_nil, or_false] at hx
  rcases hx with rfl | rfl | rfl
  ·exact i0
  ·exact i1
  ·exact i2
end
end Go.Proofs.YtfeheccoijnbaaaDoor
namespace Go.Proofs.YtfeheccoijnbaaaDoor
open Go.RowKit
theorem qm1 (A : Option Addr) (c : Nat) (l : List Nat) (BB : Nat) (w : World) (hL : LaidX BB w) (hB : BB ≤ w.heap.size) (hr : Rd w w.heap.size 1 A l.length (l.map B8)) (hc : l.length ≤ c) (hl : ∀ b ∈ l, b < 256) (hn : l.length ≤ 100000000) :
    Calls Tryd.prog 21 #[.slice A l.length c] w (qgb 45 41 w (readAll l).2 (readAll l).1) := by
 refine qe8 (vs := [.slice A l.length c]) Tryd.func21 rfl rfl (by kernel_rfl) (σ0 := [(0, .slice A l.length c)]) rfl ?_
 intro a HF
 have HM := Mem.start w
 refine wp_seq (qa ?_)
 refine fo HF 0 rfl rfl ?_
 refine qr HF HM (cs := #[.slice none 0 0]) rfl (by kernel_rfl) rfl (by decide) ?_
 clear HF HM; intro a w2 g2 HF HM
 refine fo HF 1 rfl rfl ?_
 refine qr HF HM (cs := #[vI 0]) rfl (by kernel_rfl) rfl (by decide) ?_
 clear HF HM; intro a w3 g3 HF HM
 refine qb rfl (wp_seq (wp_seq (qa ?_)))
 refine fp HF 1 0 [(7, .slice A l.length c)] fun a HF => ?_
 refine fy HF HM 1 rfl rfl rfl (Yl.len rfl rfl (by kernel_rfl)) fun a HF => ?_
 refine fp HF 1 2 [(9, .bool (decide ((l.length : Int) > (524288 : Int))))] fun a HF => ?_
 refine qb rfl ?_
 rcases HF.tf 9 rfl with ⟨hb9, HF⟩ | ⟨hb9, HF⟩
 ·
  have hd9 := of_decide_eq_true hb9
  refine qf HF rfl (wp_seq (qa ?_))
  refine fo HF 0 rfl rfl ?_
  refine qo HF HM (i := 1) rfl rfl rfl rfl (by kernel_rfl) rfl rfl (by simp) ?_
  clear HM; intro w2_0 HM
  refine fo HF 1 rfl rfl ?_
  refine qo HF HM (i := 0) rfl rfl rfl rfl (by kernel_rfl) rfl rfl (by simp) ?_
  clear HM; intro w2_1 HM
  refine qb rfl (wp_ret ?_)
  refine qvv ?_
  exact ret2 rfl HF (.cell1 (i := 1) HF HM rfl rfl (by kernel_rfl) rfl) (.cell1 (i := 0) HF HM rfl rfl (by kernel_rfl) rfl) (qlg HM (qlf (by omega)) rfl)
 have hd9 := of_decide_eq_false hb9
 refine qe HF rfl (wp_skip (wp_seq (qa ?_)))
 refine fo HF 0 rfl rfl ?_
 refine qr HF HM (cs := #[.slice none 0 0]) rfl (by kernel_rfl) rfl (by decide) ?_
 clear HF HM; intro a w4 g4 HF HM
 refine qb rfl (wp_seq (wp_seq (qa ?_)))
 refine fp HF 1 0 [(10, .slice A l.length c)] fun a HF => ?_
 refine fo HF 1 rfl rfl ?_
 refine e_cl HF [.slice A l.length c] rfl rfl (qlq A l.length c _) ?_
 rintro _ w11 ⟨gp, rfl, hm⟩
 refine ⟨_, rfl, ?_⟩
 replace HM := HM.join hm
 clear HF; intro a HF
 refine qb rfl ?_
 replace HM := HM.nil 41 5
 replace HM : Mem w _ (.row (.slice none 0 0) 0 [] 41 5 :: .blk gp #[.slice A l.length c] 54 :: .blk g4 #[.slice none 0 0] 35 :: .blk g3 #[vI 0] 36 :: .blk g2 #[.slice none 0 0] 35 :: hbF 45 []) := HM
 refine wp_block ?_
 refine qvu HF HM (fun F => ∃ (q : List Hb) (f : Nat) (Ao : Option Addr) (co : Nat), (([] : List Nat).length ≤ f) ∧ (q.map Hb.b ++ (qq f ([] : List Nat)).1 = (qq l.length l).1) ∧ ((qq l.length l).2.2 = (qq f ([] : List Nat)).2.2) ∧ (q.length ≤ co) ∧ (q.length + ([] : List Nat).length ≤ l.length) ∧ F = (.row (.slice Ao q.length co) q.length (q.flatMap hbL) 41 5 :: .blk g4 #[.slice Ao q.length co] 35 :: .blk g3 #[vI 0] 36 :: .blk g2 #[.slice none 0 0] 35 :: hbF 45 q)) (fun c F => c = .ret ∧ ∃ (q : List Hb) (e : Nat), (e ≠ 0) ∧ ((qq l.length l).2.2 = e) ∧ F = (.blk g3 #[vI e] 36 :: .blk g2 #[.slice none 0 0] 35 :: hbF 45 q)) rfl (by kernel_rfl) ?_ ?_ ?_
 ·
  clear HF HM; intro lp B rec w1 hrec HM
  have hy : qfy w lp (fun rest F => ∃ (q : List Hb) (f : Nat) (Ao : Option Addr) (co : Nat), (rest.length ≤ f) ∧ (q.map Hb.b ++ (qq f rest).1 = (qq l.length l).1) ∧ ((qq l.length l).2.2 = (qq f rest).2.2) ∧ (q.length ≤ co) ∧ (q.length + rest.length ≤ l.length) ∧ F = (.obj lp (.loop (rec .ready none)) :: .obj B (.deferred (some [])) :: (.row (.slice Ao q.length co) q.length (q.flatMap hbL) 41 5 :: .blk g4 #[.slice Ao q.length co] 35 :: .blk g3 #[vI 0] 36 :: .blk g2 #[.slice none 0 0] 35 :: hbF 45 q))) (fun F => ∃ (q : List Hb) (e : Nat), (e ≠ 0) ∧ ((qq l.length l).2.2 = e) ∧ F = (.obj lp (.loop (rec .done (some .ret))) :: .obj B (.deferred (some [])) :: (.blk g3 #[vI e] 36 :: .blk g2 #[.slice none 0 0] 35 :: hbF 45 q))) := by
   rintro rest F fr w3 A9 c9 b m er ⟨q, f, Ao, co, hf, hk, he, hco, hql, rfl⟩ hq hne hrl hcb HM
   replace HM := HM.picksT (fs' := (.obj lp (.loop (rec .ready none)) :: .row (.slice A9 b.evs.length c9) b.evs.length (b.evs.flatMap evL) 45 11 :: .obj B (.deferred (some [])) :: .row (.slice Ao q.length co) q.length (q.flatMap hbL) 41 5 :: .blk g4 #[.slice Ao q.length co] 35 :: .blk g3 #[vI 0] 36 :: .blk g2 #[.slice none 0 0] 35 :: (hbF 45 q ++ (fr)))) 7 [1, 0, 2, 3, 4, 5, 6] (by decide) (by decide) rfl
   refine qgf (v1 := .agg #[.int .u8 (b.kind : Int), .int .u8 (b.cpu : Int), .int .i64 b.lost, .int .i64 b.next, .slice A9 b.evs.length c9, .int .i64 (m : Int)]) (v2 := vI er) hrec HM (by decide) (by decide) fun a HF => ?_
   refine wpIn_seq ?_
   refine zm ?_
   refine fo HF 0 rfl rfl ?_
   refine qr HF HM (cs := #[vB 0, vB 0, vI 0, vI 0, .slice none 0 0, vI 0]) rfl (by kernel_rfl) rfl (by decide) ?_
   clear HF HM; intro a w5 g5 HF HM
   refine fo HF 1 rfl rfl ?_
   refine e_sa HF HM 0 rfl rfl rfl rfl rfl qs0 rfl rfl (by simp [Value.oneCell']) ?_
   clear HM; intro w5_1 HM
   refine qb rfl ?_
   refine zm ?_
   refine fp HF 1 0 [(6, vI er)] fun a HF => ?_
   refine qb rfl ?_
   refine ⟨(.blk g5 #[.int .u8 (b.kind : Int), .int .u8 (b.cpu : Int), .int .i64 b.lost, .int .i64 b.next, .slice A9 b.evs.length c9, .int .i64 (m : Int)] 102 :: .row (.slice A9 b.evs.length c9) b.evs.length (b.evs.flatMap evL) 45 11 :: .obj B (.deferred (some [])) :: .row (.slice Ao q.length co) q.length (q.flatMap hbL) 41 5 :: .blk g4 #[.slice Ao q.length co] 35 :: .blk g3 #[vI 0] 36 :: .blk g2 #[.slice none 0 0] 35 :: (hbF 45 q ++ (fr))), HM.picksT (fs' := (.obj lp (.loop (rec .ready none)) :: .blk g5 #[.int .u8 (b.kind : Int), .int .u8 (b.cpu : Int), .int .i64 b.lost, .int .i64 b.next, .slice A9 b.evs.length c9, .int .i64 (m : Int)] 102 :: .row (.slice A9 b.evs.length c9) b.evs.length (b.evs.flatMap evL) 45 11 :: .obj B (.deferred (some [])) :: .row (.slice Ao q.length co) q.length (q.flatMap hbL) 41 5 :: .blk g4 #[.slice Ao q.length co] 35 :: .blk g3 #[vI 0] 36 :: .blk g2 #[.slice none 0 0] 35 :: (hbF 45 q ++ (fr)))) 8 [1, 0, 2, 3, 4, 5, 6, 7] (by decide) (by decide) rfl, fun w4 HM => ?_⟩
   refine wpIn_block ?_
   refine wpIn_seq ?_
   refine wpIn_seq ?_
   refine zm ?_
   refine fp HF 2 0 [(15, .bool ((er : Int) != (0 : Int)))] fun a HF => ?_
   refine qb rfl ?_
   rcases HF.tf 15 rfl with ⟨hb15, HF⟩ | ⟨hb15, HF⟩
   ·
    have hd15 := bne_iff_ne.1 hb15
    have hg := qhk (f := f) (by omega) hne hq (by omega)
    rw [hg] at he
    refine qhj HF rfl ?_
    refine wpIn_seq ?_
    refine zm ?_
    refine fp HF 1 0 [(16, vI er)] fun a HF => ?_
    refine fo HF 1 rfl rfl ?_
    refine qo HF HM (i := 7) rfl rfl rfl rfl (by kernel_rfl) rfl rfl (by simp) ?_
    clear HM; intro w8_1 HM
    refine fo HF 2 rfl rfl ?_
    refine qo HF HM (i := 6) rfl rfl rfl rfl (by kernel_rfl) rfl rfl (by simp) ?_
    clear HM; intro w8_2 HM
    refine qb rfl ?_
    refine wpIn_ret ?_
    refine ⟨(.obj B (.deferred (some [])) :: .blk g3 #[vI er] 36 :: .blk g2 #[.slice none 0 0] 35 :: (hbF 45 q ++ (fr))), HM.picksT (fs' := (.obj lp (.loop (rec .busy none)) :: .obj B (.deferred (some [])) :: .blk g3 #[vI er] 36 :: .blk g2 #[.slice none 0 0] 35 :: (hbF 45 q ++ (fr)))) 8 [0, 3, 6, 7] (by decide) (by decide) rfl, fun w5 HM => ?_⟩
    exact ⟨(.obj lp (.loop (rec .done (some .ret))) :: .obj B (.deferred (some [])) :: .blk g3 #[vI er] 36 :: .blk g2 #[.slice none 0 0] 35 :: hbF 45 q), HM, .inr ⟨(by omega), rfl, q, er, by omega, he, rfl⟩⟩
   have hd15 := bne_eq_false_iff_eq.1 hb15
   have he0 : er = 0 := by omega
   have hq0 := hq
   rw [he0] at hq0
   have hg := qds (f := f) (by omega) hne hq0
   have hof := qgm hrl hq0
   have hm13 := hof.least
   have hml := hof.len
   rw [hg] at hk he
   dsimp only at hk he
   refine qge HF rfl ?_
   refine wpIn_skip ?_
   refine zm ?_
   refine fy HF HM 0 rfl rfl rfl (Yl.qh rfl rfl (by kernel_rfl) (fun _ h => h.cell (i := 5) rfl rfl)) fun a HF => ?_
   refine fp HF 1 1 [(18, vP g5 0)] fun a HF => ?_
   refine fy HF HM 2 rfl rfl rfl (v := .agg #[vB b.kind, vB b.cpu, vI b.lost, vI b.next, .slice A9 b.evs.length c9]) (Yl.zg rfl rfl si_bk rfl (fun _ h => h.sub (i := 1) rfl 0 rfl)) fun a HF => ?_
   refine fo HF 3 rfl rfl ?_
   refine qar HF HM (vs := [(0, .agg #[vB b.kind, vB b.cpu, vI b.lost, vI b.next, .slice A9 b.evs.length c9])]) (cs := #[vB b.kind, vB b.cpu, vI b.lost, vI b.next, .slice A9 b.evs.length c9]) rfl qgc (by decide) rfl (by kernel_rfl) rfl (by decide) ?_
   clear HF HM; intro a w20 g20 HF HM
   refine fo HF 4 rfl rfl ?_
   refine qac HF HM (i := 5) rfl qgc rfl rfl rfl (news := (hbL (⟨b, A9, c9⟩ : Hb))) (HM.rdBlk (i := 0) (n := 1) (size := 5) rfl rfl) (qb3 _ _ _) (by omega) (by omega) rfl (by decide) ?_
   clear HF HM; intro a w21 A21 c21 HF HM hc21
   refine fo HF 5 rfl rfl ?_
   refine qo HF HM (i := 6) rfl rfl rfl rfl (by kernel_rfl) rfl rfl (by simp) ?_
   clear HM; intro w9_5 HM
   refine qb rfl ?_
   have hnA21 : q.length + 1 = (q ++ [(⟨b, A9, c9⟩ : Hb)]).length := by rw [List.length_append]; rfl
   replace HM := HM.reRow (i := 5) (ys := (q ++ [(⟨b, A9, c9⟩ : Hb)]).flatMap hbL) rfl hnA21 (by rw [List.flatMap_append, List.flatMap_cons, List.flatMap_nil, List.append_nil])
   rw [hnA21] at hc21
   replace HF := HF.as (t := 21) (u := .slice A21 ((q ++ [(⟨b, A9, c9⟩ : Hb)]).length) c21) rfl (by rw [hnA21])
   replace HM := HM.reBlk (i := 6) (ds := #[.slice A21 (q ++ [(⟨b, A9, c9⟩ : Hb)]).length c21]) rfl (by rw [hnA21]; rfl)
   replace HM := Mem.toHb (a := [.blk g20 #[vB b.kind, vB b.cpu, vI b.lost, vI b.next, .slice A9 b.evs.length c9] 41, .obj lp (.loop (rec .busy none)), .blk g5 #[.int .u8 (b.kind : Int), .int .u8 (b.cpu : Int), .int .i64 b.lost, .int .i64 b.next, .slice A9 b.evs.length c9, .int .i64 (m : Int)] 102, .obj B (.deferred (some [])), .row (.slice A21 ((q ++ [(⟨b, A9, c9⟩ : Hb)]).length) c21) ((q ++ [(⟨b, A9, c9⟩ : Hb)]).length) ((q ++ [(⟨b, A9, c9⟩ : Hb)]).flatMap hbL) 41 5, .blk g4 #[.slice A21 ((q ++ [(⟨b, A9, c9⟩ : Hb)]).length) c21] 35, .blk g3 #[vI 0] 36, .blk g2 #[.slice none 0 0] 35]) (q := q) (b := fr) (HM.picksT (fs' := (.row (.slice A9 b.evs.length c9) b.evs.length (b.evs.flatMap evL) 45 11 :: .blk g20 #[vB b.kind, vB b.cpu, vI b.lost, vI b.next, .slice A9 b.evs.length c9] 41 :: .obj lp (.loop (rec .busy none)) :: .blk g5 #[.int .u8 (b.kind : Int), .int .u8 (b.cpu : Int), .int .i64 b.lost, .int .i64 b.next, .slice A9 b.evs.length c9, .int .i64 (m : Int)] 102 :: .obj B (.deferred (some [])) :: .row (.slice A21 ((q ++ [(⟨b, A9, c9⟩ : Hb)]).length) c21) ((q ++ [(⟨b, A9, c9⟩ : Hb)]).length) ((q ++ [(⟨b, A9, c9⟩ : Hb)]).flatMap hbL) 41 5 :: .blk g4 #[.slice A21 ((q ++ [(⟨b, A9, c9⟩ : Hb)]).length) c21] 35 :: .blk g3 #[vI 0] 36 :: .blk g2 #[.slice none 0 0] 35 :: (hbF 45 q ++ (fr)))) 9 [3, 0, 1, 2, 4, 5, 6, 7, 8] (by decide) (by decide) rfl)
   replace HM : Mem w _ (.blk g20 #[vB b.kind, vB b.cpu, vI b.lost, vI b.next, .slice A9 b.evs.length c9] 41 :: .obj lp (.loop (rec .busy none)) :: .blk g5 #[.int .u8 (b.kind : Int), .int .u8 (b.cpu : Int), .int .i64 b.lost, .int .i64 b.next, .slice A9 b.evs.length c9, .int .i64 (m : Int)] 102 :: .obj B (.deferred (some [])) :: .row (.slice A21 ((q ++ [(⟨b, A9, c9⟩ : Hb)]).length) c21) ((q ++ [(⟨b, A9, c9⟩ : Hb)]).length) ((q ++ [(⟨b, A9, c9⟩ : Hb)]).flatMap hbL) 41 5 :: .blk g4 #[.slice A21 ((q ++ [(⟨b, A9, c9⟩ : Hb)]).length) c21] 35 :: .blk g3 #[vI 0] 36 :: .blk g2 #[.slice none 0 0] 35 :: (hbF 45 (q ++ [(⟨b, A9, c9⟩ : Hb)]) ++ (fr))) := HM
   refine ⟨(.obj B (.deferred (some [])) :: .row (.slice A21 ((q ++ [(⟨b, A9, c9⟩ : Hb)]).length) c21) ((q ++ [(⟨b, A9, c9⟩ : Hb)]).length) ((q ++ [(⟨b, A9, c9⟩ : Hb)]).flatMap hbL) 41 5 :: .blk g4 #[.slice A21 ((q ++ [(⟨b, A9, c9⟩ : Hb)]).length) c21] 35 :: .blk g3 #[vI 0] 36 :: .blk g2 #[.slice none 0 0] 35 :: (hbF 45 (q ++ [(⟨b, A9, c9⟩ : Hb)]) ++ (fr))), HM.picksT (fs' := (.obj lp (.loop (rec .busy none)) :: .obj B (.deferred (some [])) :: .row (.slice A21 ((q ++ [(⟨b, A9, c9⟩ : Hb)]).length) c21) ((q ++ [(⟨b, A9, c9⟩ : Hb)]).length) ((q ++ [(⟨b, A9, c9⟩ : Hb)]).flatMap hbL) 41 5 :: .blk g4 #[.slice A21 ((q ++ [(⟨b, A9, c9⟩ : Hb)]).length) c21] 35 :: .blk g3 #[vI 0] 36 :: .blk g2 #[.slice none 0 0] 35 :: (hbF 45 (q ++ [(⟨b, A9, c9⟩ : Hb)]) ++ (fr)))) 8 [1, 3, 4, 5, 6, 7] (by decide) (by decide) rfl, fun w5 HM => ?_⟩
   exact ⟨(.obj lp (.loop (rec .ready none)) :: .obj B (.deferred (some [])) :: .row (.slice A21 ((q ++ [(⟨b, A9, c9⟩ : Hb)]).length) c21) ((q ++ [(⟨b, A9, c9⟩ : Hb)]).length) ((q ++ [(⟨b, A9, c9⟩ : Hb)]).flatMap hbL) 41 5 :: .blk g4 #[.slice A21 ((q ++ [(⟨b, A9, c9⟩ : Hb)]).length) c21] 35 :: .blk g3 #[vI 0] 36 :: .blk g2 #[.slice none 0 0] 35 :: hbF 45 (q ++ [(⟨b, A9, c9⟩ : Hb)])), HM, .inl ⟨(by omega), rfl, (q ++ [(⟨b, A9, c9⟩ : Hb)]), (f - 1), A21, c21, by rw [List.length_drop]; omega, by rw [← hk, List.map_append, List.append_assoc]; rfl, he, hc21, by rw [List.length_append, List.length_drop, List.length_singleton]; omega, rfl⟩⟩
  refine (qiy w w1 gp lp BB A c l _ _ _ hL hB hr hc hl (by omega) hy ⟨[], l.length, none, 0, Nat.le_refl _, List.nil_append _, rfl, Nat.le_refl _, by simp, rfl⟩ (HM.picksT 7 [3, 0, 1, 2, 4, 5, 6] (by decide) (by decide) rfl)).mono ?_
  rintro r w2 ⟨v, rfl, F2, HM2, (⟨q, f, Ao, co, hf, hk, he, hco, hql, rfl⟩ | ⟨q, e, hen, he, rfl⟩)⟩
  ·exact ⟨v, rfl, .inl ⟨_, ⟨q, f, Ao, co, hf, hk, he, hco, hql, rfl⟩, HM2⟩⟩
  ·exact ⟨v, rfl, .inr ⟨.ret, _, ⟨rfl, q, e, hen, he, rfl⟩, HM2⟩⟩
 ·
  clear HF HM; rintro B a w6 _ ⟨q, f, Ao, co, hf, hk, he, hco, hql, rfl⟩ HF HM
  have hz := qem (f := f) (l := []) rfl
  rw [hz] at hk he
  dsimp only at hk he
  rw [List.append_nil] at hk
  refine wp_seq (qa ?_)
  refine fy HF HM 0 rfl rfl rfl (Yl.qh rfl rfl (by kernel_rfl) (fun _ h => h.cell (i := 2) rfl rfl)) fun a HF => ?_
  refine fo HF 1 rfl rfl ?_
  refine qo HF HM (i := 4) rfl rfl rfl rfl (by kernel_rfl) rfl rfl (by simp) ?_
  clear HM; intro w10_1 HM
  refine fo HF 2 rfl rfl ?_
  refine qo HF HM (i := 3) rfl rfl rfl rfl (by kernel_rfl) rfl rfl (by simp) ?_
  clear HM; intro w10_2 HM
  refine qb rfl (wp_ret ?_)
  refine qjp HF HM (i := 0) rfl fun a w7 HF HM => ?_
  exact ret2 rfl HF (.cell1 (i := 4) HF HM rfl rfl (by kernel_rfl) rfl) (.cell1 (i := 3) HF HM rfl rfl (by kernel_rfl) rfl) (by rw [qo5 (by omega) he, ← hk]; exact qrk (HM.picksT (fs' := (.row (.slice Ao q.length co) q.length (q.flatMap hbL) 41 5 :: hbF 45 q)) 5 [1] (by decide) (by decide) rfl) hco)
 ·
  clear HF HM; rintro _ B a w6 _ ⟨rfl, q, e, hen, he, rfl⟩ HF HM
  refine wp_ret ?_
  refine qjp HF HM (i := 0) rfl fun a w7 HF HM => ?_
  exact ret2 rfl HF (.cell1 (i := 2) HF HM rfl rfl (by kernel_rfl) rfl) (.cell1 (i := 1) HF HM rfl rfl (by kernel_rfl) rfl) (qlg HM (qmw (by omega) he hen) rfl)
theorem qm3 (A : Option Addr) (c : Nat) (q : List Hb) (B : Nat) (w : World) (hL : LaidX B w) (hB : B ≤ w.heap.size) (hr : Rd w w.heap.size 5 A q.length (q.flatMap hbL)) (hQ : HbRd w q) (hok : ∀ h ∈ q, h.b.Ok) (hev : ∀ h ∈ q, h.b.evs.length ≤ 1000000) (hn : q.length ≤ 1000000) :
    Calls Tryd.prog 20 #[.slice A q.length c] w (qa6 w (zy (q.map Hb.b)).2 (zy (q.map Hb.b)).1) := by
 refine qg (vs := [.slice A q.length c]) Tryd.func20 rfl rfl (by kernel_rfl) (σ0 := [(0, .slice A q.length c)]) rfl ?_
 intro a HF
 have HM := Mem.start w
 refine wp_seq (qa ?_)
 refine fp HF 2 0 [(3, vI 0), (2, .slice none 0 0)] fun a HF => ?_
 refine qb rfl (wp_seq (qa ?_))
 refine fp HF 1 0 [(4, .slice none 0 0)] fun a HF => ?_
 refine qb rfl (wp_seq (qa ?_))
 refine fp HF 1 0 [(5, .bool false)] fun a HF => ?_
 refine qb rfl ?_
 replace HM := HM.nil 5 1
 refine wp_seq (wp_seq (qa ?_))
 refine fp HF 1 0 [(10, .slice A q.length c)] fun a HF => ?_
 refine fy HF HM 1 rfl rfl rfl (Yl.len rfl rfl (by kernel_rfl)) fun a HF => ?_
 refine fp HF 1 2 [(12, vI 0)] fun a HF => ?_
 refine qb rfl (wp_block ?_)
 refine zk (fun mS aS wS => ∃ (k : Nat) (lg : Bool) (R : List Nat) (Ao : Option Addr) (co : Nat), (k ≤ q.length) ∧ (errL (q.map Hb.b) = errL ((q.drop k).map Hb.b)) ∧ (lg = decide (524288 < (outsL ((q.take k).map Hb.b)).length)) ∧ (lg = false → R = outsL ((q.take k).map Hb.b)) ∧ (R.length ≤ 524288) ∧ (R.length ≤ co) ∧ mS = q.length - k ∧ Fr aS 41 [] [(12, vI k), (11, vI q.length), (10, .slice A q.length c), (5, .bool lg), (4, .slice Ao R.length co), (3, vI 0), (2, .slice none 0 0)] ∧ Mem w wS [.row (.slice Ao R.length co) R.length (R.map B8) 5 1]) (m := q.length - 0) ⟨0, false, [], none, 0, Nat.zero_le _, by rw [List.drop_zero], rfl, by intro _; rfl, by simp, Nat.le_refl _, rfl, HF.sub (by kernel_rfl), HM.picks [0] (by decide) rfl⟩ ?_
 clear HF HM; rintro mS a w_ ⟨k, lg, R, Ao, co, hk, her, hlg, hR, hRl, hco, rfl, HF, HM⟩
 refine wp_seq (qa ?_)
 refine fp HF 1 0 [(13, .bool (decide ((k : Int) < (q.length : Int))))] fun a HF => ?_
 refine qb rfl (wp_seq ?_)
 rcases HF.tf 13 rfl with ⟨hb13, HF⟩ | ⟨hb13, HF⟩
 ·
  have hd13 := of_decide_eq_true hb13
  have hk13 : k < q.length := by omega
  have hat := qyg hk13
  have hoq := congrArg List.length (qvw hk13)
  rw [List.length_append] at hoq
  have hol := qg7 (q.getD k Hb.zero).b
  have htk := qsc (q := q) k
  refine qf HF rfl (wp_skip (wp_seq (wp_block (wp_seq (qa ?_)))))
  obtain ⟨gA, oA, rfl, _⟩ := hr.qas (Nat.lt_of_le_of_lt (Nat.zero_le _) (show k < q.length from by omega)) (by decide)
  refine fy HF HM 0 rfl rfl rfl (v := vP gA (oA + k * 5)) (Yl.ix gA oA k 5 rfl rfl rfl) fun a HF => ?_
  refine fy HF HM 1 rfl rfl rfl (v := .agg ((q.getD k Hb.zero).b.cells (q.getD k Hb.zero).A (q.getD k Hb.zero).c)) (Yl.zg rfl rfl si_bk rfl (fun _ h => (h.old hr).qce qdp ((getD_at Hb.zero (k := k) (by first | omega | (simp; omega)))))) fun a HF => ?_
  refine fo HF 2 rfl rfl ?_
  refine qr HF HM (cs := #[vB 0, vB 0, vI 0, vI 0, .slice none 0 0]) rfl (by kernel_rfl) rfl (by decide) ?_
  clear HF HM; intro a w7 g7 HF HM
  refine fo HF 3 rfl rfl ?_
  refine e_sa HF HM 0 rfl rfl rfl rfl rfl si_bk rfl rfl (qb3 _ _ _) ?_
  clear HM; intro w5_3 HM
  refine qb rfl (wp_seq (qa ?_))
  refine fy HF HM 0 rfl rfl rfl (v := .agg ((q.getD k Hb.zero).b.cells (q.getD k Hb.zero).A (q.getD k Hb.zero).c)) (Yl.zg rfl rfl si_bk rfl (fun _ h => qd (h.blk (i := 0) rfl))) fun a HF => ?_
  refine fo HF 1 rfl rfl ?_
  refine e_cl HF [.agg ((q.getD k Hb.zero).b.cells (q.getD k Hb.zero).A (q.getD k Hb.zero).c)] rfl rfl (qrs (q.getD k Hb.zero).b (hok _ (qap Hb.zero hk13)) ((q.getD k Hb.zero).A) (q.getD k Hb.zero).c B _ (hL.mem HM hB) (HM.le hB) (HM.old (hQ.at hk13)) (hev _ (qap Hb.zero hk13)) rfl rfl) ?_
  rintro _ w18 ⟨⟨A18, c18, rfl, ho, hc18⟩, hbw⟩
  refine ⟨_, rfl, ?_⟩
  replace HM := HM.callRow hbw ho
  clear HF; intro a HF
  refine fp HF 5 2 [(9, vI ((q.getD k Hb.zero).b.err)), (8, .slice A18 ((q.getD k Hb.zero).b.out.length) c18)] fun a HF => ?_
  refine qb rfl (wp_seq (wp_seq (qa ?_)))
  refine fp HF 2 0 [(22, .bool (((q.getD k Hb.zero).b.err : Int) != (0 : Int)))] fun a HF => ?_
  refine qb rfl ?_
  rcases HF.tf 22 rfl with ⟨hb22, HF⟩ | ⟨hb22, HF⟩
  ·
   have hd22 := bne_iff_ne.1 hb22
   have hE : errL (q.map Hb.b) = (q.getD k Hb.zero).b.err := by rw [her, hat, if_neg (by omega)]
   refine qf HF rfl (wp_seq (qa ?_))
   refine fp HF 3 0 [(3, vI ((q.getD k Hb.zero).b.err)), (2, .slice none 0 0)] fun a HF => ?_
   refine qb rfl (wp_ret ?_)
   exact ret2 rfl HF (.tmp HF rfl) (.tmp HF rfl) (qip HM.below (qo2 (by rw [hE]; omega)) (by rw [hE]))
  have hd22 := bne_eq_false_iff_eq.1 hb22
  have hE : errL (q.map Hb.b) = errL ((q.drop (k + 1)).map Hb.b) := by rw [her, hat, if_pos (by omega)]
  refine qe HF rfl (wp_skip (wp_seq (qa ?_)))
  refine fp HF 2 0 [(25, .bool lg)] fun a HF => ?_
  rcases HF.tf 25 rfl with ⟨hb25, HF⟩ | ⟨hb25, HF⟩
  ·
   have hlong : 524288 < (outsL ((q.take k).map Hb.b)).length := of_decide_eq_true (hlg.symm.trans hb25)
   refine fp HF 8 2 [(5, .bool true)] fun a HF => ?_
   refine qb rfl (wp_seq (qa ?_))
   refine fp HF 2 0 [(34, .bool false)] fun a HF => ?_
   refine qb rfl (qe HF rfl (wp_skip (qa ?_)))
   refine fp HF 1 0 [(38, vI (IntKind.i64.wrap ((k : Int) + 1)))] fun a HF => ?_
   replace HF := HF.sp 38 (vI (k + 1 : Nat)) rfl (qi (by omega) (by omega))
   refine fp HF 1 1 [(12, vI (k + 1 : Nat))] fun a HF => ?_
   refine qb rfl ?_
   exact ⟨_, (by omega), k + 1, true, R, Ao, co, by omega, hE, (decide_eq_true (by omega)).symm, (by intro h; cases h), hRl, hco, rfl, HF.sub (by kernel_rfl), HM.picks [2] (by decide) rfl⟩
  have hlong : ¬ 524288 < (outsL ((q.take k).map Hb.b)).length := of_decide_eq_false (hlg.symm.trans hb25)
  have hRe := hR hb25
  have hRl2 : R.length = (outsL ((q.take k).map Hb.b)).length := by rw [hRe]
  refine fp HF 1 2 [(26, .slice Ao R.length co)] fun a HF => ?_
  refine fy HF HM 3 rfl rfl rfl (Yl.len rfl rfl (by kernel_rfl)) fun a HF => ?_
  refine fp HF 1 4 [(28, .slice A18 ((q.getD k Hb.zero).b.out.length) c18)] fun a HF => ?_
  refine fy HF HM 5 rfl rfl rfl (Yl.len rfl rfl (by kernel_rfl)) fun a HF => ?_
  refine fp HF 1 6 [(30, vI (IntKind.i64.wrap ((R.length : Int) + (((q.getD k Hb.zero).b.out.length : Nat) : Int))))] fun a HF => ?_
  replace HF := HF.sp 30 (vI (R.length + ((q.getD k Hb.zero).b.out.length) : Nat)) rfl (qi (by omega) (by omega))
  refine fp HF 3 7 [(5, .bool (decide (((R.length + ((q.getD k Hb.zero).b.out.length) : Nat) : Int) > (524288 : Int))))] fun a HF => ?_
  refine qb rfl (wp_seq (qa ?_))
  refine fp HF 2 0 [(34, .bool (!(decide (((R.length + ((q.getD k Hb.zero).b.out.length) : Nat) : Int) > (524288 : Int)))))] fun a HF => ?_
  refine qb rfl ?_
  rcases HF.tf 34 rfl with ⟨hb34, HF⟩ | ⟨hb34, HF⟩
  ·
   have hd34 := of_decide_eq_false ((Bool.not_eq_true' _).mp hb34)
   replace HF := HF.on 5 ((Bool.not_eq_true' _).mp hb34)
   refine qf HF rfl (qa ?_)
   refine fp HF 2 0 [(36, .slice A18 ((q.getD k Hb.zero).b.out.length) c18), (35, .slice Ao R.length co)] fun a HF => ?_
   refine fo HF 2 rfl rfl ?_
   refine qac HF HM (i := 2) rfl ei_u8 rfl rfl rfl (news := ((q.getD k Hb.zero).b.out.map B8)) (HM.rd (i := 0) rfl) (qf9 _) (by omega) (by omega) rfl (by decide) ?_
   clear HF HM; intro a w37 A37 c37 HF HM hc37
   rw [show (R.map B8) ++ ((q.getD k Hb.zero).b.out.map B8) = (R ++ (q.getD k Hb.zero).b.out).map B8 from by rw [List.map_append]] at HM
   refine fp HF 1 3 [(4, .slice A37 (R.length + ((q.getD k Hb.zero).b.out.length)) c37)] fun a HF => ?_
   refine qb rfl ?_
   have hnA37 : R.length + ((q.getD k Hb.zero).b.out.length) = (R ++ (q.getD k Hb.zero).b.out).length := by rw [List.length_append]
   replace HM := HM.reRow (i := 2) (ys := (R ++ (q.getD k Hb.zero).b.out).map B8) rfl hnA37 (rfl)
   rw [hnA37] at hc37
   replace HF := HF.as (t := 4) (u := .slice A37 ((R ++ (q.getD k Hb.zero).b.out).length) c37) rfl (by rw [hnA37])
   replace HF := HF.as (t := 37) (u := .slice A37 ((R ++ (q.getD k Hb.zero).b.out).length) c37) rfl (by rw [hnA37])
   refine qa ?_
   refine fp HF 1 0 [(38, vI (IntKind.i64.wrap ((k : Int) + 1)))] fun a HF => ?_
   replace HF := HF.sp 38 (vI (k + 1 : Nat)) rfl (qi (by omega) (by omega))
   refine fp HF 1 1 [(12, vI (k + 1 : Nat))] fun a HF => ?_
   refine qb rfl ?_
   exact ⟨_, (by omega), k + 1, false, (R ++ (q.getD k Hb.zero).b.out), A37, c37, by omega, hE, (decide_eq_false (by omega)).symm, (by intro _; rw [hRe, qvw hk13]), (by rw [List.length_append]; omega), hc37, rfl, HF.sub (by kernel_rfl), HM.picks [2] (by decide) rfl⟩
  have hd34 := of_decide_eq_true ((Bool.not_eq_false' _).mp hb34)
  replace HF := HF.on 5 ((Bool.not_eq_false' _).mp hb34)
  refine qe HF rfl (wp_skip (qa ?_))
  refine fp HF 1 0 [(38, vI (IntKind.i64.wrap ((k : Int) + 1)))] fun a HF => ?_
  replace HF := HF.sp 38 (vI (k + 1 : Nat)) rfl (qi (by omega) (by omega))
  refine fp HF 1 1 [(12, vI (k + 1 : Nat))] fun a HF => ?_
  refine qb rfl ?_
  exact ⟨_, (by omega), k + 1, true, R, Ao, co, by omega, hE, (decide_eq_true (by omega)).symm, (by intro h; cases h), hRl, hco, rfl, HF.sub (by kernel_rfl), HM.picks [2] (by decide) rfl⟩
 have hd13 := of_decide_eq_false hb13
 have hkn : k = q.length := by omega
 have hdn : errL (q.map Hb.b) = 0 := by rw [her, List.drop_of_length_le (by omega)]; rfl
 have htn : q.take k = q := List.take_of_length_le (by omega)
 rw [htn] at hlg hR
 refine qe HF rfl (wp_exit (wp_seq (wp_seq (qa ?_))))
 refine fp HF 1 0 [(39, .bool lg)] fun a HF => ?_
 refine qb rfl ?_
 rcases HF.tf 39 rfl with ⟨hb39, HF⟩ | ⟨hb39, HF⟩
 ·
  have hlong : 524288 < (outsL (q.map Hb.b)).length := of_decide_eq_true (hlg.symm.trans hb39)
  refine qf HF rfl (wp_seq (qa ?_))
  refine fp HF 2 0 [(3, vI 3), (2, .slice none 0 0)] fun a HF => ?_
  refine qb rfl (wp_ret ?_)
  exact ret2 rfl HF (.tmp HF rfl) (.tmp HF rfl) (qip HM.below (qmu hdn hlong) rfl)
 have hlong : ¬ 524288 < (outsL (q.map Hb.b)).length := of_decide_eq_false (hlg.symm.trans hb39)
 have hRe := hR hb39
 refine qe HF rfl (wp_skip (wp_seq (qa ?_)))
 refine fp HF 3 0 [(3, vI 0), (2, .slice Ao R.length co)] fun a HF => ?_
 refine qb rfl (wp_ret ?_)
 exact ret2 rfl HF (.tmp HF rfl) (.tmp HF rfl) (by rw [qlc hdn hlong, ← hRe]; exact ⟨⟨Ao, co, rfl, HM.own (i := 0) rfl, hco⟩, HM.below⟩)
theorem qph (g : Nat) (lim : Int) (A : Option Addr) (n c : Nat) (w : World) (hg : w.heap[g]? = some (.cells #[.int .i64 lim, .slice A n c] 95 (0, 0))) :
    Calls Tryd.prog 39 #[.pointer (some ⟨g, 0, none⟩)] w (Is w (.bool (lim == 0))) := by
 refine qg (vs := [vP g 0]) Tryd.func39 rfl rfl (by kernel_rfl) (σ0 := [(0, vP g 0)]) rfl ?_
 intro a HF
 have HM := Mem.start w
 refine wp_seq (qa ?_)
 refine fp HF 1 0 [(2, .bool false)] fun a HF => ?_
 refine qb rfl (wp_seq (qa ?_))
 refine fp HF 1 0 [(3, vP g 0)] fun a HF => ?_
 refine fy HF HM 1 rfl rfl rfl (v := .bool false) (Yl.ql1 rfl rfl rfl) fun a HF => ?_
 refine fp HF 2 2 [(6, vP g 0), (5, .bool false)] fun a HF => ?_
 refine fy HF HM 4 rfl rfl rfl (v := vP g 0) (Yl.nilCheck rfl rfl) fun a HF => ?_
 refine fp HF 1 5 [(8, vP g 0)] fun a HF => ?_
 refine fy HF HM 6 rfl rfl rfl (v := vI lim) (Yl.qh rfl rfl (by kernel_rfl) (fun _ h => h.zd hg rfl)) fun a HF => ?_
 refine fp HF 3 7 [(2, .bool ((lim : Int) == (0 : Int)))] fun a HF => ?_
 refine qb rfl (wp_ret ?_)
 exact ret1 rfl HF (.tmp HF rfl) (⟨rfl, HM.below⟩)
theorem qfc (g : Nat) (lim : Int) (A : Option Addr) (n c : Nat) (w : World) (hg : w.heap[g]? = some (.cells #[.int .i64 lim, .slice A n c] 95 (0, 0))) (hlim : lim ≠ 0) :
  Calls Tryd.prog 39 #[.pointer (some ⟨g, 0, none⟩)] w (Is w (.bool false)) := by
 have h := qph g lim A n c w hg
 rwa [beq_false_of_ne hlim] at h
theorem qlt (A : Option Addr) (c : Nat) (l : List Nat) (w : World) (hr : Rd w w.heap.size 1 A l.length (l.map B8)) (hn : l.length ≤ 100000000) :
    Calls Tryd.prog 41 #[.slice A l.length c] w (qai w l) := by
 refine qg (vs := [.slice A l.length c]) Tryd.func41 rfl rfl (by kernel_rfl) (σ0 := [(0, .slice A l.length c)]) rfl ?_
 intro a HF
 have HM := Mem.start w
 refine wp_seq (qa ?_)
 refine fp HF 1 0 [(2, .slice none 0 0)] fun a HF => ?_
 refine qb rfl (wp_seq (wp_seq (qa ?_)))
 refine fp HF 1 0 [(3, .slice A l.length c)] fun a HF => ?_
 refine fy HF HM 1 rfl rfl rfl (v := .bool A.isNone) (Yl.qy2 rfl rfl rfl) fun a HF => ?_
 refine qb rfl ?_
 rcases HF.tf 4 rfl with ⟨hb4, HF⟩ | ⟨hb4, HF⟩
 ·
  obtain rfl : A = none := by cases A with | none => rfl | some a => cases hb4
  obtain rfl : l = [] := hr.qxl
  refine qf HF rfl (wp_seq (qa ?_))
  refine fp HF 1 0 [(2, .slice none 0 0)] fun a HF => ?_
  refine qb rfl (wp_ret ?_)
  exact ret1 rfl HF (.tmp HF rfl) (⟨⟨none, 0, rfl, World.ownsRow_nil _ _ _ _, Nat.le_refl _⟩, HM.below⟩)
 refine qe HF rfl (wp_skip (wp_seq (qa ?_)))
 refine fo HF 0 rfl rfl ?_
 refine qtr HF HM rfl ei_u8 rfl (by decide) ?_
 clear HF HM; intro a w5 g5 HF HM
 refine fp HF 1 1 [(6, .slice A l.length c)] fun a HF => ?_
 refine fo HF 2 rfl rfl ?_
 refine qac HF HM (i := 0) rfl ei_u8 rfl rfl rfl (news := (l.map B8)) (HM.old hr) (qf9 _) (by omega) (by omega) rfl (by decide) ?_
 clear HF HM; intro a w7 A7 c7 HF HM hc7
 refine fp HF 1 3 [(2, .slice A7 (0 + l.length) c7)] fun a HF => ?_
 refine qb rfl (wp_ret ?_)
 exact ret1 rfl HF (.tmp HF rfl) (⟨⟨A7, c7, by rw [Nat.zero_add], by have h := HM.own (i := 0) rfl; rwa [Nat.zero_add, List.nil_append] at h, by omega⟩, HM.below⟩)
def NewIs (w : World) (lim : Int) (r : Ending) (w' : World) : Prop := ((lim < 1 ∨ 4096 < lim) ∧ Is w (.tuple #[.pointer none, .int .i64 2]) r w') ∨ (¬ (lim < 1 ∨ 4096 < lim) ∧ ∃ g, r = .returned (.tuple #[.pointer (some ⟨g, 0, none⟩), .int .i64 0]) ∧ Mem w w' [.blk g #[.int .i64 lim, .slice none 0 0] 95])
theorem qn5 {w w' : World} {lim : Int} (h : lim < 1 ∨ 4096 < lim) (hb : Below w.heap.size w w') : NewIs w lim (.returned (.tuple #[.pointer none, .int .i64 2])) w' := .inl ⟨h, rfl, hb⟩
theorem qu9 {w w' : World} {lim : Int} {g : Nat} (h : ¬ (lim < 1 ∨ 4096 < lim)) (hm : Mem w w' [.blk g #[.int .i64 lim, .slice none 0 0] 95]) : NewIs w lim (.returned (.tuple #[.pointer (some ⟨g, 0, none⟩), .int .i64 0])) w' := .inr ⟨h, g, rfl, hm⟩
theorem qs3 (lim : Int) (hl : I64 lim) (w : World) :
    Calls Tryd.prog 14 #[.int .i64 lim] w (NewIs w lim) := by
 refine qg (vs := [vI lim]) Tryd.func14 rfl rfl (by kernel_rfl) (σ0 := [(0, vI lim)]) rfl ?_
 intro a HF
 have HM := Mem.start w
 refine wp_seq (qa ?_)
 refine fp HF 2 0 [(3, vI 0), (2, .pointer none)] fun a HF => ?_
 refine qb rfl (wp_seq (wp_seq (qa ?_)))
 refine fp HF 3 0 [(6, .bool (decide ((lim : Int) < (1 : Int))))] fun a HF => ?_
 rcases HF.tf 6 rfl with ⟨hb6, HF⟩ | ⟨hb6, HF⟩
 ·
  have hd6 := of_decide_eq_true hb6
  refine fp HF 3 3 [(9, .bool true)] fun a HF => ?_
  refine qb rfl (qf HF rfl (wp_seq (qa ?_)))
  refine fp HF 2 0 [(3, vI 2), (2, .pointer none)] fun a HF => ?_
  refine qb rfl (wp_ret ?_)
  exact ret2 rfl HF (.tmp HF rfl) (.tmp HF rfl) (qn5 (by omega) HM.below)
 have hd6 := of_decide_eq_false hb6
 refine fp HF 3 3 [(9, .bool (decide ((lim : Int) > (4096 : Int))))] fun a HF => ?_
 refine qb rfl ?_
 rcases HF.tf 9 rfl with ⟨hb9, HF⟩ | ⟨hb9, HF⟩
 ·
  have hd9 := of_decide_eq_true hb9
  refine qf HF rfl (wp_seq (qa ?_))
  refine fp HF 2 0 [(3, vI 2), (2, .pointer none)] fun a HF => ?_
  refine qb rfl (wp_ret ?_)
  exact ret2 rfl HF (.tmp HF rfl) (.tmp HF rfl) (qn5 (by omega) HM.below)
 have hd9 := of_decide_eq_false hb9
 refine qe HF rfl (wp_skip (wp_seq (qa ?_)))
 refine fp HF 1 0 [(10, vI lim)] fun a HF => ?_
 refine fy HF HM 1 rfl rfl rfl (v := .agg #[vI lim, .slice none 0 0]) (Yl.build (vs := [(0, vI lim)]) rfl (by kernel_rfl) (by kernel_rfl)) fun a HF => ?_
 refine fo HF 2 rfl rfl ?_
 refine e_box HF HM (cs := #[vI lim, .slice none 0 0]) rfl rfl rfl rfl (by decide) ?_
 clear HF HM; intro a w12 g12 HF HM
 refine fp HF 2 3 [(3, vI 0), (2, vP g12 0)] fun a HF => ?_
 refine qb rfl (wp_ret ?_)
 exact ret2 rfl HF (.tmp HF rfl) (.tmp HF rfl) (qu9 (by omega) (HM.picks [0] (by decide) rfl))
theorem qpi (A : Option Addr) (c : Nat) (q : List Hb) (B : Nat) (w : World) (hL : LaidX B w) (hB : B ≤ w.heap.size) (hr : Rd w w.heap.size 5 A q.length (q.flatMap hbL)) (hQ : HbRd w q) (hok : ∀ h ∈ q, h.b.Ok) (hev : ∀ h ∈ q, h.b.evs.length ≤ 1000000) (hn : q.length ≤ 1000000) {R : List Nat} {er : Nat} (h : zy (q.map Hb.b) = (R, er)) :
  Calls Tryd.prog 20 #[.slice A q.length c] w (qa6 w er R) := by
 have h1 := qm3 A c q B w hL hB hr hQ hok hev hn
 rw [h] at h1
 exact h1
theorem qlu (W w : World) (g : Nat) (lim : Int) (A : Option Addr) (c : Nat) (out : List Nat) (fs : List Fact) (HW : Mem W w (.blk g #[.int .i64 lim, .slice A out.length c] 95 :: .row (.slice A out.length c) out.length (out.map B8) 5 1 :: fs)) (hc : out.length ≤ c) (hout : out.length ≤ 524288) (A2 : Option Addr) (c2 : Nat) (q : List Hb) (B : Nat) (hL : LaidX B w) (hBW : B ≤ W.heap.size) (hr : Rd w w.heap.size 5 A2 q.length (q.flatMap hbL)) (hQ : HbRd w q) (hok : ∀ h ∈ q, h.b.Ok) (hev : ∀ h ∈ q, h.b.evs.length ≤ 1000000) (hn : q.length ≤ 1000000) :
    Calls Tryd.prog 40 #[.pointer (some ⟨g, 0, none⟩), .slice A2 q.length c2] w (WrIs W 95 g lim (zi out (q.map Hb.b)).1 fs (.int .i64 ((zi out (q.map Hb.b)).2 : Int))) := by
 have hg := HW.blk (i := 0) rfl
 have hB := Nat.le_trans hBW HW.size
 have hrA := HW.rd (i := 1) rfl
 refine qg (vs := [vP g 0, .slice A2 q.length c2]) Tryd.func40 rfl rfl (by kernel_rfl) (σ0 := [(0, vP g 0), (1, .slice A2 q.length c2)]) rfl ?_
 intro a HF
 have HM := Mem.start w
 refine wp_seq (qa ?_)
 refine fp HF 1 0 [(4, vI 0)] fun a HF => ?_
 refine qb rfl ?_
 obtain ⟨R, er, hws⟩ : ∃ R er, zy (q.map Hb.b) = (R, er) := ⟨_, _, rfl⟩
 have hRl : R.length ≤ 524288 := by have h := qo3 (q.map Hb.b); rw [hws] at h; exact h
 refine wp_seq (qa ?_)
 refine fp HF 1 0 [(8, .slice A2 q.length c2)] fun a HF => ?_
 refine fo HF 1 rfl rfl ?_
 refine e_cl HF [.slice A2 q.length c2] rfl rfl (qpi A2 c2 q B _ (hL.mem HM hB) (HM.le hB) (HM.old hr) (HbRd.old hQ HM) hok hev hn hws) ?_
 rintro _ w9 ⟨⟨A9, c9, rfl, ho, hc9⟩, hbw⟩
 refine ⟨_, rfl, ?_⟩
 replace HM := HM.callRow hbw ho
 clear HF; intro a HF
 refine fp HF 5 2 [(6, vI er), (5, .slice A9 R.length c9)] fun a HF => ?_
 refine qb rfl (wp_seq (wp_seq (qa ?_)))
 refine fp HF 2 0 [(13, .bool ((er : Int) != (0 : Int)))] fun a HF => ?_
 refine qb rfl ?_
 rcases HF.tf 13 rfl with ⟨hb13, HF⟩ | ⟨hb13, HF⟩
 ·
  have hd13 := bne_iff_ne.1 hb13
  refine qf HF rfl (wp_seq (qa ?_))
  refine fp HF 2 0 [(4, vI er)] fun a HF => ?_
  refine qb rfl (wp_ret ?_)
  exact ret1 rfl HF (.tmp HF rfl) (qjq (qmx hws (by omega)) rfl hc (HW.call HM.below))
 have hd13 := bne_eq_false_iff_eq.1 hb13
 refine qe HF rfl (wp_skip (wp_seq (wp_seq (qa ?_))))
 refine fp HF 1 0 [(15, vP g 0)] fun a HF => ?_
 refine fy HF HM 1 rfl rfl rfl (v := vP g 0) (Yl.nilCheck rfl rfl) fun a HF => ?_
 refine fp HF 1 2 [(17, vP g 1)] fun a HF => ?_
 refine fy HF HM 3 rfl rfl rfl (v := .slice A out.length c) (Yl.qh rfl rfl (by kernel_rfl) (fun _ h => h.zd hg rfl)) fun a HF => ?_
 refine fy HF HM 4 rfl rfl rfl (Yl.len rfl rfl (by kernel_rfl)) fun a HF => ?_
 refine fp HF 1 5 [(20, .slice A9 R.length c9)] fun a HF => ?_
 refine fy HF HM 6 rfl rfl rfl (Yl.len rfl rfl (by kernel_rfl)) fun a HF => ?_
 refine fp HF 1 7 [(22, vI (IntKind.i64.wrap ((out.length : Int) + (R.length : Int))))] fun a HF => ?_
 replace HF := HF.sp 22 (vI (out.length + R.length : Nat)) rfl (qi (by omega) (by omega))
 refine fp HF 1 8 [(23, .bool (decide (((out.length + R.length : Nat) : Int) > (524288 : Int))))] fun a HF => ?_
 refine qb rfl ?_
 rcases HF.tf 23 rfl with ⟨hb23, HF⟩ | ⟨hb23, HF⟩
 ·
  have hd23 := of_decide_eq_true hb23
  refine qf HF rfl (wp_seq (qa ?_))
  refine fp HF 1 0 [(4, vI 3)] fun a HF => ?_
  refine qb rfl (wp_ret ?_)
  exact ret1 rfl HF (.tmp HF rfl) (qjq (qlh hws (by omega) (by omega)) rfl hc (HW.call HM.below))
 have hd23 := of_decide_eq_false hb23
 replace HM : Mem W _ (.row (.slice A9 R.length c9) R.length (R.map B8) 5 1 :: .blk g #[vI lim, .slice A out.length c] 95 :: .row (.slice A out.length c) out.length (out.map B8) 5 1 :: fs) := HW.join HM
 refine qe HF rfl (wp_skip (wp_seq (qa ?_)))
 refine fp HF 2 0 [(25, vP g 0), (24, vP g 0)] fun a HF => ?_
 refine fy HF HM 2 rfl rfl rfl (v := vP g 0) (Yl.nilCheck rfl rfl) fun a HF => ?_
 refine fp HF 1 3 [(27, vP g 1)] fun a HF => ?_
 refine fy HF HM 4 rfl rfl rfl (Yl.qh rfl rfl (by kernel_rfl) (fun _ h => h.cell (i := 1) rfl rfl)) fun a HF => ?_
 refine fp HF 1 5 [(29, .slice A9 R.length c9)] fun a HF => ?_
 refine fo HF 6 rfl rfl ?_
 refine qac HF HM (i := 2) rfl ei_u8 rfl rfl rfl (news := (R.map B8)) (HM.rd (i := 0) rfl) (qf9 _) (by omega) (by omega) rfl (by decide) ?_
 clear HF HM; intro a w30 A30 c30 HF HM hc30
 rw [show (out.map B8) ++ (R.map B8) = (out ++ R).map B8 from by rw [List.map_append]] at HM
 refine fy HF HM 7 rfl rfl rfl (v := vP g 0) (Yl.nilCheck rfl rfl) fun a HF => ?_
 refine fp HF 1 8 [(32, vP g 1)] fun a HF => ?_
 refine fo HF 9 rfl rfl ?_
 refine qo HF HM (i := 1) rfl rfl rfl rfl (by kernel_rfl) rfl rfl (by simp) ?_
 clear HM; intro w6_9 HM
 refine qb rfl ?_
 have hnA30 : out.length + R.length = (out ++ R).length := by rw [List.length_append]
 replace HM := HM.reRow (i := 2) (ys := (out ++ R).map B8) rfl hnA30 (rfl)
 rw [hnA30] at hc30
 replace HF := HF.as (t := 30) (u := .slice A30 ((out ++ R).length) c30) rfl (by rw [hnA30])
 replace HM := HM.reBlk (i := 1) (ds := #[.int .i64 lim, .slice A30 (out ++ R).length c30]) rfl (by rw [hnA30]; rfl)
 refine wp_seq (qa ?_)
 refine fp HF 1 0 [(4, vI 0)] fun a HF => ?_
 refine qb rfl (wp_ret ?_)
 exact ret1 rfl HF (.tmp HF rfl) (qjq (qfz hws (by omega) (by omega)) rfl hc30 (HM.picksT 3 [1, 2] (by decide) (by decide) rfl))
theorem qhp (W w : World) (g : Nat) (lim : Int) (A : Option Addr) (c : Nat) (out : List Nat) (fs : List Fact) (HW : Mem W w (.blk g #[.int .i64 lim, .slice A out.length c] 95 :: .row (.slice A out.length c) out.length (out.map B8) 5 1 :: fs)) (hc : out.length ≤ c) (hout : out.length ≤ 524288) (A2 : Option Addr) (c2 : Nat) (q : List Hb) (B : Nat) (hL : LaidX B w) (hBW : B ≤ W.heap.size) (hr : Rd w w.heap.size 5 A2 q.length (q.flatMap hbL)) (hQ : HbRd w q) (hok : ∀ h ∈ q, h.b.Ok) (hev : ∀ h ∈ q, h.b.evs.length ≤ 1000000) (hn : q.length ≤ 1000000) {o2 : List Nat} {we : Nat} (h : zi out (q.map Hb.b) = (o2, we)) :
  Calls Tryd.prog 40 #[.pointer (some ⟨g, 0, none⟩), .slice A2 q.length c2] w (WrIs W 95 g lim o2 fs (.int .i64 (we : Int))) := by
 have h1 := qlu W w g lim A c out fs HW hc hout A2 c2 q B hL hBW hr hQ hok hev hn
 rw [h] at h1
 exact h1
theorem qfd (cpu : Nat) (hcpu : cpu < 256) (A : Option Addr) (n c : Nat) (l : List It) (opn limit : Int) (hok : ∀ x ∈ l, x.Ok) (ho : I64 opn) (hlm : I64 limit) (B : Nat) (w : World) (hL : LaidX B w) (hB : B ≤ w.heap.size) (hr : Rd w w.heap.size 12 A n (l.flatMap itL)) (hc : n ≤ c) (hln : l.length = n) (hn : n ≤ 1000000) {bs : List Bk} {ce : Nat} (h : cutS cpu l opn limit = (bs, ce)) :
  Calls Tryd.prog 12 #[.int .u8 (cpu : Int), .slice A n c, .int .i64 opn, .int .i64 limit] w (qgb 45 41 w ce bs) := by
 have h1 := qs2 cpu hcpu A n c l opn limit hok ho hlm B w hL hB hr hc hln hn
 rw [h] at h1
 exact h1
theorem qs4 (W w : World) (g : Nat) (lim : Int) (A : Option Addr) (c : Nat) (out : List Nat) (fs : List Fact) (HW : Mem W w (.blk g #[.int .i64 lim, .slice A out.length c] 95 :: .row (.slice A out.length c) out.length (out.map B8) 5 1 :: fs)) (hc : out.length ≤ c) (hout : out.length ≤ 524288) (hlim : lim ≠ 0) (hlm : I64 lim) (cpu : Nat) (hcpu : cpu < 256) (A2 : Option Addr) (c2 : Nat) (l : List It) (opn : Int) (hok : ∀ x ∈ l, x.Ok) (ho : I64 opn) (B : Nat) (hL : LaidX B w) (hBW : B ≤ W.heap.size) (hr : Rd w w.heap.size 12 A2 l.length (l.flatMap itL)) (hc2 : l.length ≤ c2) (hn : l.length ≤ 999999) :
    Calls Tryd.prog 17 #[.pointer (some ⟨g, 0, none⟩), .int .u8 (cpu : Int), .slice A2 l.length c2, .int .i64 opn] w (WrIs W 95 g lim (putW out lim cpu l opn).1 fs (.tuple #[.int .i64 ((putW out lim cpu l opn).2.1 : Int), .int .i64 ((putW out lim cpu l opn).2.2 : Int)])) := by
 have hg := HW.blk (i := 0) rfl
 have hB := Nat.le_trans hBW HW.size
 have hrA := HW.rd (i := 1) rfl
 refine qg (vs := [vP g 0, vB cpu, .slice A2 l.length c2, vI opn]) Tryd.func17 rfl rfl (by kernel_rfl) (σ0 := [(0, vP g 0), (1, vB cpu), (2, .slice A2 l.length c2), (3, vI opn)]) rfl ?_
 intro a HF
 have HM := Mem.start w
 refine wp_seq (qa ?_)
 refine fp HF 2 0 [(9, vI 0), (8, vI 0)] fun a HF => ?_
 refine qb rfl ?_
 obtain ⟨bs, ce, hcs⟩ : ∃ bs ce, cutS cpu l opn lim = (bs, ce) := ⟨_, _, rfl⟩
 obtain ⟨o2, we, hwb⟩ : ∃ o2 we, zi out bs = (o2, we) := ⟨_, _, rfl⟩
 refine wp_seq (wp_seq (qa ?_))
 refine fp HF 1 0 [(12, vP g 0)] fun a HF => ?_
 refine fo HF 1 rfl rfl ?_
 refine e_is HF HM [vP g 0] (.bool false) rfl rfl (qfc g lim A out.length c _ (HM.oldBlk hg) hlim) fun w13 hbw HM a HF => ?_
 refine qb rfl (qe HF rfl (wp_skip (wp_seq (qa ?_))))
 refine fp HF 4 0 [(18, vP g 0), (17, vI opn), (16, .slice A2 l.length c2), (15, vB cpu)] fun a HF => ?_
 refine fy HF HM 4 rfl rfl rfl (v := vP g 0) (Yl.nilCheck rfl rfl) fun a HF => ?_
 refine fp HF 1 5 [(20, vP g 0)] fun a HF => ?_
 refine fy HF HM 6 rfl rfl rfl (v := vI lim) (Yl.qh rfl rfl (by kernel_rfl) (fun _ h => h.zd hg rfl)) fun a HF => ?_
 refine fo HF 7 rfl rfl ?_
 refine e_cl HF [vB cpu, .slice A2 l.length c2, vI opn, vI lim] rfl rfl (qfd cpu hcpu A2 l.length c2 l opn lim hok ho hlm B _ (hL.mem HM hB) (HM.le hB) (HM.old hr) hc2 rfl (by omega) hcs) ?_
 rintro _ w22 ⟨Ac, cc, q, rfl, hqb, hcc, hm⟩
 have hql : bs.length = q.length := by rw [← hqb, List.length_map]
 rw [hql] at hm hcc ⊢
 refine ⟨_, rfl, ?_⟩
 replace HM := Mem.qy3 HM hm
 clear HF; intro a HF
 refine fp HF 5 8 [(11, vI ce), (10, .slice Ac q.length cc)] fun a HF => ?_
 refine qb rfl (wp_seq (wp_seq (qa ?_)))
 refine fp HF 2 0 [(26, .bool ((ce : Int) == (0 : Int)))] fun a HF => ?_
 refine qb rfl ?_
 rcases HF.tf 26 rfl with ⟨hb26, HF⟩ | ⟨hb26, HF⟩
 ·
  have hd26 := eq_of_beq hb26
  have hww : zi out (q.map Hb.b) = (o2, we) := by rw [hqb]; exact hwb
  have hcg := qsi hcpu hok ho hcs
  have hqok : ∀ h ∈ q, h.b.Ok := fun h hh => (hcg.1 h.b (by rw [← hqb]; exact List.mem_map_of_mem hh))
  have hqev : ∀ h ∈ q, h.b.evs.length ≤ 1000000 := fun h hh => Nat.le_trans (hcg.2.1 h.b (by rw [← hqb]; exact List.mem_map_of_mem hh)) (by omega)
  have hbl := hcg.2.2
  replace HM : Mem W _ (.row (.slice Ac q.length cc) q.length (q.flatMap hbL) 41 5 :: .blk g #[vI lim, .slice A out.length c] 95 :: .row (.slice A out.length c) out.length (out.map B8) 5 1 :: (hbF 45 q ++ (fs))) := Mem.qyu (HW.join HM)
  refine qf HF rfl (qa ?_)
  refine fp HF 2 0 [(28, .slice Ac q.length cc), (27, vP g 0)] fun a HF => ?_
  refine fo HF 2 rfl rfl ?_
  refine e_cl HF [vP g 0, .slice Ac q.length cc] rfl rfl (qhp W _ g lim A c out _ (HM.picksT 3 [1, 2, 0] (by decide) (by decide) rfl) hc hout Ac cc q B (hL.mem2 HW HM hBW) hBW (HM.rd (i := 0) rfl) (Mem.qy4 (a := [.row (.slice Ac q.length cc) q.length (q.flatMap hbL) 41 5, .blk g #[vI lim, .slice A out.length c] 95, .row (.slice A out.length c) out.length (out.map B8) 5 1]) HM) hqok hqev (by omega) hww) ?_
  rintro _ w29 ⟨rfl, A29, c29, hc29, HM2⟩
  refine ⟨_, rfl, ?_⟩
  replace HM := HM2
  clear HF; intro a HF
  refine fp HF 1 3 [(11, vI we)] fun a HF => ?_
  refine qb rfl (wp_seq (wp_seq (qa ?_)))
  refine fp HF 2 0 [(31, .bool ((we : Int) != (0 : Int)))] fun a HF => ?_
  refine qb rfl ?_
  rcases HF.tf 31 rfl with ⟨hb31, HF⟩ | ⟨hb31, HF⟩
  ·
   have hd31 := bne_iff_ne.1 hb31
   refine qf HF rfl (wp_seq (qa ?_))
   refine fp HF 3 0 [(9, vI we), (8, vI 0)] fun a HF => ?_
   refine qb rfl (wp_ret ?_)
   exact ret2 rfl HF (.tmp HF rfl) (.tmp HF rfl) (qjr (qsg hcs (by omega) hwb (by omega)) rfl rfl hc29 (Mem.drop2 (HM.picksT 3 [0, 1] (by decide) (by decide) rfl)))
  have hd31 := bne_eq_false_iff_eq.1 hb31
  refine qe HF rfl (wp_skip (wp_seq (qa ?_)))
  refine fp HF 1 0 [(33, .slice Ac q.length cc)] fun a HF => ?_
  refine fy HF HM 1 rfl rfl rfl (Yl.len rfl rfl (by kernel_rfl)) fun a HF => ?_
  refine fp HF 2 2 [(9, vI 0), (8, vI q.length)] fun a HF => ?_
  refine qb rfl (wp_ret ?_)
  exact ret2 rfl HF (.tmp HF rfl) (.tmp HF rfl) (qjr (qns hcs (by omega) hwb (by omega)) (by rw [hql]) rfl hc29 (Mem.drop2 (HM.picksT 3 [0, 1] (by decide) (by decide) rfl)))
 have hd26 := ne_of_beq_false hb26
 refine qe HF rfl (wp_skip (wp_seq (wp_seq (qa ?_))))
 refine fp HF 2 0 [(31, .bool ((ce : Int) != (0 : Int)))] fun a HF => ?_
 refine qb rfl ?_
 rcases HF.tf 31 rfl with ⟨hb31, HF⟩ | ⟨hb31, HF⟩
 ·
  have hd31 := bne_iff_ne.1 hb31
  refine qf HF rfl (wp_seq (qa ?_))
  refine fp HF 3 0 [(9, vI ce), (8, vI 0)] fun a HF => ?_
  refine qb rfl (wp_ret ?_)
  exact ret2 rfl HF (.tmp HF rfl) (.tmp HF rfl) (qjr (qsf hcs (by omega)) rfl rfl hc (HW.call HM.below))
 have hd31 := bne_eq_false_iff_eq.1 hb31
 exfalso; omega
theorem qs5 (W w : World) (g : Nat) (lim : Int) (A : Option Addr) (c : Nat) (out : List Nat) (fs : List Fact) (HW : Mem W w (.blk g #[.int .i64 lim, .slice A out.length c] 95 :: .row (.slice A out.length c) out.length (out.map B8) 5 1 :: fs)) (hc : out.length ≤ c) (hout : out.length ≤ 524288) (hlim : lim ≠ 0) (next : Int) (hnx : I64 next) (B : Nat) (hL : LaidX B w) (hBW : B ≤ W.heap.size) :
    Calls Tryd.prog 15 #[.pointer (some ⟨g, 0, none⟩), .int .i64 next] w (WrIs W 95 g lim (zi out [endB next]).1 fs (.int .i64 ((zi out [endB next]).2 : Int))) := by
 have hg := HW.blk (i := 0) rfl
 have hB := Nat.le_trans hBW HW.size
 have hrA := HW.rd (i := 1) rfl
 refine qg (vs := [vP g 0, vI next]) Tryd.func15 rfl rfl (by kernel_rfl) (σ0 := [(0, vP g 0), (1, vI next)]) rfl ?_
 intro a HF
 have HM := Mem.start w
 refine wp_seq (qa ?_)
 refine fp HF 1 0 [(4, vI 0)] fun a HF => ?_
 refine qb rfl (wp_seq (wp_seq (qa ?_)))
 refine fp HF 1 0 [(5, vP g 0)] fun a HF => ?_
 refine fo HF 1 rfl rfl ?_
 refine e_is HF HM [vP g 0] (.bool false) rfl rfl (qfc g lim A out.length c _ (HM.oldBlk hg) hlim) fun w6 hbw HM a HF => ?_
 refine qb rfl ?_
 replace HM : Mem W _ (.blk g #[vI lim, .slice A out.length c] 95 :: .row (.slice A out.length c) out.length (out.map B8) 5 1 :: fs) := HW.join HM
 obtain ⟨o2, we, hww⟩ : ∃ o2 we, zi out [endB next] = (o2, we) := ⟨_, _, rfl⟩
 refine qe HF rfl (wp_skip (wp_seq (qa ?_)))
 refine fp HF 2 0 [(8, vI next), (7, vP g 0)] fun a HF => ?_
 refine fy HF HM 2 rfl rfl rfl (v := .agg #[vB 2, vB 0, vI 0, vI next, .slice none 0 0]) (Yl.build (vs := [(0, vB 2), (3, vI next)]) rfl (by kernel_rfl) (by kernel_rfl)) fun a HF => ?_
 refine fo HF 3 rfl rfl ?_
 refine qar HF HM (vs := [(0, .agg #[vB 2, vB 0, vI 0, vI next, .slice none 0 0])]) (cs := #[vB 2, vB 0, vI 0, vI next, .slice none 0 0]) rfl qgc (by decide) rfl (by kernel_rfl) rfl (by decide) ?_
 clear HF HM; intro a w10 g10 HF HM
 refine fo HF 4 rfl rfl ?_
 refine e_cl HF [vP g 0, vS g10 1 1] rfl rfl (qhp W _ g lim A c out _ (HM.picksT 3 [1, 2, 0] (by decide) (by decide) rfl) hc hout _ 1 [⟨endB next, none, 0⟩] B (hL.mem2 HW HM hBW) hBW (HM.rdBlk (i := 0) (n := 1) (size := 5) rfl rfl) (by intro x hx; rw [List.mem_singleton] at hx; subst hx; exact Rd.nil) (by intro x hx; rw [List.mem_singleton] at hx; subst hx; exact qse hnx) (by intro x hx; rw [List.mem_singleton] at hx; subst hx; exact Nat.zero_le _) (by show 1 ≤ 1000000; decide) hww) ?_
 rintro _ w11 ⟨rfl, A11, c11, hc11, HM2⟩
 refine ⟨_, rfl, ?_⟩
 replace HM := HM2
 clear HF; intro a HF
 refine fp HF 1 5 [(4, vI we)] fun a HF => ?_
 refine qb rfl (wp_ret ?_)
 exact ret1 rfl HF (.tmp HF rfl) (qjq hww rfl hc11 (HM.picksT 3 [0, 1] (by decide) (by decide) rfl))
theorem qen (g : Nat) (lim : Int) (A : Option Addr) (c : Nat) (out : List Nat) (w : World) (hg : w.heap[g]? = some (.cells #[.int .i64 lim, .slice A out.length c] 95 (0, 0))) (hrA : Rd w w.heap.size 1 A out.length (out.map B8)) (hout : out.length ≤ 524288) (hlim : lim ≠ 0) :
    Calls Tryd.prog 16 #[.pointer (some ⟨g, 0, none⟩)] w (qai w out) := by
 refine qg (vs := [vP g 0]) Tryd.func16 rfl rfl (by kernel_rfl) (σ0 := [(0, vP g 0)]) rfl ?_
 intro a HF
 have HM := Mem.start w
 refine wp_seq (qa ?_)
 refine fp HF 1 0 [(2, .slice none 0 0)] fun a HF => ?_
 refine qb rfl (wp_seq (wp_seq (qa ?_)))
 refine fp HF 1 0 [(3, vP g 0)] fun a HF => ?_
 refine fo HF 1 rfl rfl ?_
 refine e_is HF HM [vP g 0] (.bool false) rfl rfl (qfc g lim A out.length c _ (HM.oldBlk hg) hlim) fun w4 hbw HM a HF => ?_
 refine qb rfl (qe HF rfl (wp_skip (wp_seq (qa ?_))))
 refine fp HF 1 0 [(5, vP g 0)] fun a HF => ?_
 refine fy HF HM 1 rfl rfl rfl (v := vP g 0) (Yl.nilCheck rfl rfl) fun a HF => ?_
 refine fp HF 1 2 [(7, vP g 1)] fun a HF => ?_
 refine fy HF HM 3 rfl rfl rfl (v := .slice A out.length c) (Yl.qh rfl rfl (by kernel_rfl) (fun _ h => h.zd hg rfl)) fun a HF => ?_
 refine fo HF 4 rfl rfl ?_
 refine e_cl HF [.slice A out.length c] rfl rfl (qlt A c out _ (HM.old hrA) (by omega)) ?_
 rintro _ w9 ⟨⟨A9, c9, rfl, ho, hc9⟩, hbw⟩
 refine ⟨_, rfl, ?_⟩
 replace HM := HM.callRow hbw ho
 clear HF; intro a HF
 refine fp HF 1 5 [(2, .slice A9 out.length c9)] fun a HF => ?_
 refine qb rfl (wp_ret ?_)
 exact ret1 rfl HF (.tmp HF rfl) (⟨⟨_, _, rfl, HM.own (i := 0) rfl, hc9⟩, HM.below⟩)
theorem qs6 (g : Nat) (lim : Int) (A : Option Addr) (c : Nat) (out : List Nat) (w : World) (hg : w.heap[g]? = some (.cells #[.int .i64 lim, .slice A out.length c] 95 (0, 0))) (hlim : lim ≠ 0) :
    Calls Tryd.prog 18 #[.pointer (some ⟨g, 0, none⟩)] w (Is w (.int .i64 (out.length : Int))) := by
 refine qg (vs := [vP g 0]) Tryd.func18 rfl rfl (by kernel_rfl) (σ0 := [(0, vP g 0)]) rfl ?_
 intro a HF
 have HM := Mem.start w
 refine wp_seq (qa ?_)
 refine fp HF 1 0 [(2, vI 0)] fun a HF => ?_
 refine qb rfl (wp_seq (wp_seq (qa ?_)))
 refine fp HF 1 0 [(3, vP g 0)] fun a HF => ?_
 refine fo HF 1 rfl rfl ?_
 refine e_is HF HM [vP g 0] (.bool false) rfl rfl (qfc g lim A out.length c _ (HM.oldBlk hg) hlim) fun w4 hbw HM a HF => ?_
 refine qb rfl (qe HF rfl (wp_skip (wp_seq (qa ?_))))
 refine fp HF 1 0 [(5, vP g 0)] fun a HF => ?_
 refine fy HF HM 1 rfl rfl rfl (v := vP g 0) (Yl.nilCheck rfl rfl) fun a HF => ?_
 refine fp HF 1 2 [(7, vP g 1)] fun a HF => ?_
 refine fy HF HM 3 rfl rfl rfl (v := .slice A out.length c) (Yl.qh rfl rfl (by kernel_rfl) (fun _ h => h.zd hg rfl)) fun a HF => ?_
 refine fy HF HM 4 rfl rfl rfl (Yl.len rfl rfl (by kernel_rfl)) fun a HF => ?_
 refine fp HF 1 5 [(2, vI out.length)] fun a HF => ?_
 refine qb rfl (wp_ret ?_)
 exact ret1 rfl HF (.tmp HF rfl) (⟨rfl, HM.below⟩)
def qyl (w : World) (l : List Nat) (r : Ending) (w' : World) : Prop := ∃ g A c, r = .returned (.pointer (some ⟨g, 0, none⟩)) ∧ l.length ≤ c ∧ Mem w w' [.blk g #[.bool true, .int .i64 0, .slice A l.length c] 108, .row (.slice A l.length c) l.length (l.map B8) 5 1]
theorem Mem.skip {W w : World} {f : Fact} {fs : List Fact} (h : Mem W w (f :: fs)) : Mem W w fs := h.tail
theorem qpj (A : Option Addr) (c : Nat) (l : List Nat) (w : World) (hr : Rd w w.heap.size 1 A l.length (l.map B8)) (hn : l.length ≤ 100000000) :
    Calls Tryd.prog 25 #[.slice A l.length c] w (qyl w l) := by
 refine qg (vs := [.slice A l.length c]) Tryd.func25 rfl rfl (by kernel_rfl) (σ0 := [(0, .slice A l.length c)]) rfl ?_
 intro a HF
 have HM := Mem.start w
 refine wp_seq (qa ?_)
 refine fp HF 1 0 [(2, .pointer none)] fun a HF => ?_
 refine qb rfl (wp_seq (qa ?_))
 refine fp HF 1 0 [(3, .slice A l.length c)] fun a HF => ?_
 refine fo HF 1 rfl rfl ?_
 refine e_cl HF [.slice A l.length c] rfl rfl (qlt A c l _ (HM.old hr) hn) ?_
 rintro _ w4 ⟨⟨A4, c4, rfl, ho, hc4⟩, hbw⟩
 refine ⟨_, rfl, ?_⟩
 replace HM := HM.callRow hbw ho
 clear HF; intro a HF
 refine fy HF HM 2 rfl rfl rfl (v := .agg #[.bool true, vI 0, .slice A4 l.length c4]) (Yl.build (vs := [(0, .bool true), (2, .slice A4 l.length c4)]) rfl (by kernel_rfl) (by kernel_rfl)) fun a HF => ?_
 refine fo HF 3 rfl rfl ?_
 refine e_box HF HM (cs := #[.bool true, vI 0, .slice A4 l.length c4]) rfl rfl rfl rfl (by decide) ?_
 clear HF HM; intro a w6 g6 HF HM
 refine fp HF 1 4 [(2, vP g6 0)] fun a HF => ?_
 refine qb rfl (wp_ret ?_)
 exact ret1 rfl HF (.tmp HF rfl) (⟨g6, A4, c4, rfl, hc4, HM⟩)
theorem qlv (g p : Nat) (A : Option Addr) (c : Nat) (l : List Nat) (w : World) (hg : w.heap[g]? = some (.cells #[.bool true, .int .i64 (p : Int), .slice A l.length c] 108 (0, 0))) :
    Calls Tryd.prog 27 #[.pointer (some ⟨g, 0, none⟩)] w (Is w (.int .i64 (p : Int))) := by
 refine qg (vs := [vP g 0]) Tryd.func27 rfl rfl (by kernel_rfl) (σ0 := [(0, vP g 0)]) rfl ?_
 intro a HF
 have HM := Mem.start w
 refine wp_seq (qa ?_)
 refine fp HF 1 0 [(2, vI 0)] fun a HF => ?_
 refine qb rfl (wp_seq (wp_seq (qa ?_)))
 refine fp HF 1 0 [(3, vP g 0)] fun a HF => ?_
 refine fy HF HM 1 rfl rfl rfl (v := .bool false) (Yl.ql1 rfl rfl rfl) fun a HF => ?_
 refine qb rfl (qe HF rfl (wp_skip (wp_seq (qa ?_))))
 refine fp HF 1 0 [(5, vP g 0)] fun a HF => ?_
 refine fy HF HM 1 rfl rfl rfl (v := vP g 0) (Yl.nilCheck rfl rfl) fun a HF => ?_
 refine fp HF 1 2 [(7, vP g 1)] fun a HF => ?_
 refine fy HF HM 3 rfl rfl rfl (v := vI p) (Yl.qh rfl rfl (by kernel_rfl) (fun _ h => h.zd hg rfl)) fun a HF => ?_
 refine fp HF 1 4 [(2, vI p)] fun a HF => ?_
 refine qb rfl (wp_ret ?_)
 exact ret1 rfl HF (.tmp HF rfl) (⟨rfl, HM.below⟩)
theorem qpk (W w : World) (g p : Nat) (A : Option Addr) (c : Nat) (l : List Nat) (fs : List Fact) (HW : Mem W w (.blk g #[.bool true, .int .i64 (p : Int), .slice A l.length c] 108 :: .row (.slice A l.length c) l.length (l.map B8) 5 1 :: fs)) (hp : p ≤ l.length) (hc : l.length ≤ c) (hl : ∀ b ∈ l, b < 256) (hn : l.length ≤ 100000000) (B : Nat) (hL : LaidX B w) (hBW : B ≤ W.heap.size) :
    Calls Tryd.prog 26 #[.pointer (some ⟨g, 0, none⟩)] w (qvx W 108 g p l A c fs (nextR l p)) := by
 have hg := HW.blk (i := 0) rfl
 have hrA := HW.rd (i := 1) rfl
 have hB := Nat.le_trans hBW HW.size
 refine qg (vs := [vP g 0]) Tryd.func26 rfl rfl (by kernel_rfl) (σ0 := [(0, vP g 0)]) rfl ?_
 intro a HF
 have HM := Mem.start w
 refine wp_seq (qa ?_)
 refine fo HF 0 rfl rfl ?_
 refine qr HF HM (cs := #[vB 0, vB 0, vI 0, vI 0, .slice none 0 0]) rfl (by kernel_rfl) rfl (by decide) ?_
 clear HF HM; intro a w2 g2 HF HM
 refine fp HF 1 1 [(3, vI 0)] fun a HF => ?_
 refine qb rfl (wp_seq (wp_seq (qa ?_)))
 refine fp HF 1 0 [(7, vP g 0)] fun a HF => ?_
 refine fy HF HM 1 rfl rfl rfl (v := .bool false) (Yl.ql1 rfl rfl rfl) fun a HF => ?_
 refine fp HF 2 2 [(10, vP g 0), (9, .bool false)] fun a HF => ?_
 refine fy HF HM 4 rfl rfl rfl (v := vP g 0) (Yl.nilCheck rfl rfl) fun a HF => ?_
 refine fp HF 1 5 [(12, vP g 0)] fun a HF => ?_
 refine fy HF HM 6 rfl rfl rfl (v := .bool true) (Yl.qh rfl rfl (by kernel_rfl) (fun _ h => h.zd hg rfl)) fun a HF => ?_
 refine fp HF 2 7 [(15, .bool false)] fun a HF => ?_
 refine qb rfl (qe HF rfl (wp_skip (wp_seq (wp_seq ?_))))
 refine qaf HM [.blk g2 #[vB 0, vB 0, vI 0, vI 0, .slice none 0 0] 41] [0] [] fun HM HS => ?_
 refine ap HF (fun _ => HS) [0, 4] #[true, false, false, false, true, false, false, false, false, false] [(21, vP g 0), (17, vP g 0)] fun a HF => ?_
 refine ay HF HS 1 rfl rfl rfl (v := vP g 0) (Yl.nilCheck rfl rfl) fun a HF => ?_
 refine ap HF (fun _ => HS) [2] #[true, true, true, false, true, false, false, false, false, false] [(19, vP g 1)] fun a HF => ?_
 refine ay HF HS 3 rfl rfl rfl (v := vI p) (Yl.qh rfl rfl (by kernel_rfl) (fun _ h => h.zd hg rfl)) fun a HF => ?_
 refine ay HF HS 5 rfl rfl rfl (v := vP g 0) (Yl.nilCheck rfl rfl) fun a HF => ?_
 refine ap HF (fun _ => HS) [6] #[true, true, true, true, true, true, true, false, false, false] [(23, vP g 2)] fun a HF => ?_
 refine ay HF HS 7 rfl rfl rfl (v := .slice A l.length c) (Yl.qh rfl rfl (by kernel_rfl) (fun _ h => h.zd hg rfl)) fun a HF => ?_
 refine ay HF HS 8 rfl rfl rfl (Yl.len rfl rfl (by kernel_rfl)) fun a HF => ?_
 refine ap HF (fun _ => HS) [9] #[true, true, true, true, true, true, true, true, true, true] [(26, .bool ((p : Int) == (l.length : Int)))] fun a HF => ?_
 refine qn (by kernel_rfl) ?_
 rcases HF.tf 26 rfl with ⟨hb26, HF⟩ | ⟨hb26, HF⟩
 ·
  have hd26 := eq_of_beq hb26
  have hpl : p = l.length := by omega
  have hz : nextR l p = (Bk.zero, 0, 6) := if_pos hpl
  refine qf HF rfl (wp_seq (qa ?_))
  refine fy HF HM 0 rfl rfl rfl (v := .agg #[vB 0, vB 0, vI 0, vI 0, .slice none 0 0]) (Yl.build (vs := []) rfl (by kernel_rfl) (by kernel_rfl)) fun a HF => ?_
  refine fo HF 1 rfl rfl ?_
  refine e_sa HF HM 0 rfl rfl rfl rfl rfl si_bk rfl rfl (by simp [Value.oneCell']) ?_
  clear HM; intro w4_1 HM
  refine fp HF 1 2 [(3, vI 6)] fun a HF => ?_
  refine qb rfl (wp_ret ?_)
  exact ret2 rfl HF (.cellS (i := 0) HF HM rfl rfl si_bk rfl) (.tmp HF rfl) (by have HM := HW.join HM; exact qli (b := Bk.zero) (A' := none) (c' := 0) hz rfl (Nat.le_refl _) (Mem.nil (Mem.skip HM) _ _))
 have hd26 := ne_of_beq_false hb26
 have hpl : p ≠ l.length := by omega
 obtain ⟨b, m, er, hq⟩ : ∃ b m er, readB (l.drop p) = (b, m, er) := ⟨_, _, _, rfl⟩
 have hz : nextR l p = (b, m, er) := (if_neg hpl).trans hq
 have hpm := qsh hl hp hz
 refine qe HF rfl (wp_skip ?_)
 refine qbt (fun aS wS => ∃ (A38 : Option Addr) (c38 : Nat) (g4 : Nat), Fr aS 52 [] [(6, vI er), (5, vI m), (4, vP g4 0), (26, .bool false), (15, .bool false), (3, vI 0), (2, vP g2 0), (0, vP g 0)] ∧ Mem w wS [.blk g4 (b.cells A38 c38) 41, .row (.slice A38 b.evs.length c38) b.evs.length (b.evs.flatMap evL) 45 11, .blk g2 #[vB 0, vB 0, vI 0, vI 0, .slice none 0 0] 41] ∧ (b.evs.length ≤ c38)) ?_ ?_
 ·
  refine qaf HM [.blk g2 #[vB 0, vB 0, vI 0, vI 0, .slice none 0 0] 41] [0] [15] fun HM HS => ?_
  refine ap HF (fun _ => HS) [0, 4] #[true, false, false, false, true, false, false, false, false, false, false, false, false, false, false, false, false, false] [(33, vP g 0), (29, vP g 0)] fun a HF => ?_
  refine ay HF HS 1 rfl rfl rfl (v := vP g 0) (Yl.nilCheck rfl rfl) fun a HF => ?_
  refine ap HF (fun _ => HS) [2] #[true, true, true, false, true, false, false, false, false, false, false, false, false, false, false, false, false, false] [(31, vP g 2)] fun a HF => ?_
  refine ay HF HS 3 rfl rfl rfl (v := .slice A l.length c) (Yl.qh rfl rfl (by kernel_rfl) (fun _ h => h.zd hg rfl)) fun a HF => ?_
  refine ay HF HS 5 rfl rfl rfl (v := vP g 0) (Yl.nilCheck rfl rfl) fun a HF => ?_
  refine ap HF (fun _ => HS) [6] #[true, true, true, true, true, true, true, false, false, false, false, false, false, false, false, false, false, false] [(35, vP g 1)] fun a HF => ?_
  refine ay HF HS 7 rfl rfl rfl (v := vI p) (Yl.qh rfl rfl (by kernel_rfl) (fun _ h => h.zd hg rfl)) fun a HF => ?_
  refine ay HF HS 8 rfl rfl rfl (v := .slice (if c = p then A else A.map (·.add (p * 1))) (l.length - p) (c - p)) (Yl.sliceFrom ei_u8 (j := p) rfl rfl rfl (by omega)) fun a HF => ?_
  refine qj [9, 14] (by kernel_rfl) rfl ?_
  refine all_cons ?_ ?_
  ·refine qm HF (i := 9) rfl rfl ?_
   refine e_cl HF [.slice (if c = p then A else A.map (·.add (p * 1))) (l.length - p) (c - p)] rfl rfl (qji (if c = p then A else A.map (·.add (p * 1))) (l.length - p) (c - p) (l.drop p) B _ (hL.mem HM hB) (HM.le hB) (HM.old (hrA.qn7 hp hc)) (by omega) (by rw [List.length_drop]) (by omega) (qa7 hl p) hq) ?_
   rintro _ w38 ⟨⟨A38, c38, rfl, ho, hc38⟩, hbw⟩
   refine ⟨_, rfl, ?_⟩
   replace HM := HM.callRow hbw ho
   clear HF; intro a HF
   refine keepS (HM.picks [1] (by decide) rfl) (fun HS => ?_)
   refine ap HF (fun _ => HS) [10, 11, 12, 13] #[true, true, true, true, true, true, true, true, true, true, true, true, true, true, false, false, false, false] [(41, vI er), (40, vI m), (39, .agg (b.cells A38 c38))] fun a HF => ?_
   refine qj [14] (by kernel_rfl) rfl ?_
   refine all_cons ?_ all_nil
   refine qm HF (i := 14) rfl rfl ?_
   refine qr HF HM (cs := #[vB 0, vB 0, vI 0, vI 0, .slice none 0 0]) rfl (by kernel_rfl) rfl (by decide) ?_
   clear HF HM; intro a w4 g4 HF HM
   refine keepS (HM.picks [2] (by decide) rfl) (fun HS => ?_)
   refine qj [15] (by kernel_rfl) rfl ?_
   refine all_cons ?_ all_nil
   refine qm HF (i := 15) rfl rfl ?_
   refine e_sa HF HM 0 rfl rfl rfl rfl rfl si_bk rfl rfl (qb3 _ _ _) ?_
   clear HM; intro w5_15 HM
   refine noS (by kernel_rfl) ?_
   refine ap HF (pastS (by kernel_rfl)) [16, 17] #[true, true, true, true, true, true, true, true, true, true, true, true, true, true, true, true, true, true] [(6, vI er), (5, vI m)] fun a HF => ?_
   refine qn (by kernel_rfl) ?_
   exact ⟨A38, c38, g4, HF.sub (by kernel_rfl), HM.picks [0, 1, 2] (by decide) rfl, hc38⟩
  refine all_cons ?_ all_nil
  refine qm HF (i := 14) rfl rfl ?_
  refine qr HF HM (cs := #[vB 0, vB 0, vI 0, vI 0, .slice none 0 0]) rfl (by kernel_rfl) rfl (by decide) ?_
  clear HF HM; intro a w4 g4 HF HM
  refine keepS (HM.picks [1] (by decide) rfl) (fun HS => ?_)
  refine qj [9] (by kernel_rfl) rfl ?_
  refine all_cons ?_ all_nil
  refine qm HF (i := 9) rfl rfl ?_
  refine e_cl HF [.slice (if c = p then A else A.map (·.add (p * 1))) (l.length - p) (c - p)] rfl rfl (qji (if c = p then A else A.map (·.add (p * 1))) (l.length - p) (c - p) (l.drop p) B _ (hL.mem HM hB) (HM.le hB) (HM.old (hrA.qn7 hp hc)) (by omega) (by rw [List.length_drop]) (by omega) (qa7 hl p) hq) ?_
  rintro _ w38 ⟨⟨A38, c38, rfl, ho, hc38⟩, hbw⟩
  refine ⟨_, rfl, ?_⟩
  replace HM := HM.callRow hbw ho
  clear HF; intro a HF
  refine keepS (HM.picks [2] (by decide) rfl) (fun HS => ?_)
  refine ap HF (fun _ => HS) [10, 11, 12, 13] #[true, true, true, true, true, true, true, true, true, true, true, true, true, true, true, false, false, false] [(41, vI er), (40, vI m), (39, .agg (b.cells A38 c38))] fun a HF => ?_
  refine qj [15] (by kernel_rfl) rfl ?_
  refine all_cons ?_ all_nil
  refine qm HF (i := 15) rfl rfl ?_
  refine e_sa HF HM 1 rfl rfl rfl rfl rfl si_bk rfl rfl (qb3 _ _ _) ?_
  clear HM; intro w5_15 HM
  refine noS (by kernel_rfl) ?_
  refine ap HF (pastS (by kernel_rfl)) [16, 17] #[true, true, true, true, true, true, true, true, true, true, true, true, true, true, true, true, true, true] [(6, vI er), (5, vI m)] fun a HF => ?_
  refine qn (by kernel_rfl) ?_
  exact ⟨A38, c38, g4, HF.sub (by kernel_rfl), HM.picks [1, 0, 2] (by decide) rfl, hc38⟩
 clear HF HM; rintro a w5 ⟨A38, c38, g4, HF, HM, hc38⟩
 skip
 ·
  replace HM : Mem W _ (.blk g4 (b.cells A38 c38) 41 :: .row (.slice A38 b.evs.length c38) b.evs.length (b.evs.flatMap evL) 45 11 :: .blk g2 #[vB 0, vB 0, vI 0, vI 0, .slice none 0 0] 41 :: .blk g #[.bool true, vI p, .slice A l.length c] 108 :: .row (.slice A l.length c) l.length (l.map B8) 5 1 :: fs) := HW.join HM
  refine wp_seq (qa ?_)
  refine fp HF 1 0 [(42, vP g 0)] fun a HF => ?_
  refine fy HF HM 1 rfl rfl rfl (v := vP g 0) (Yl.nilCheck rfl rfl) fun a HF => ?_
  refine fp HF 1 2 [(44, vP g 1)] fun a HF => ?_
  refine fy HF HM 3 rfl rfl rfl (Yl.qh rfl rfl (by kernel_rfl) (fun _ h => h.cell (i := 3) rfl rfl)) fun a HF => ?_
  refine fp HF 2 4 [(47, vI (IntKind.i64.wrap ((p : Int) + (m : Int))))] fun a HF => ?_
  replace HF := HF.sp 47 (vI (p + m : Nat)) rfl (qi (by omega) (by omega))
  refine fy HF HM 6 rfl rfl rfl (v := vP g 0) (Yl.nilCheck rfl rfl) fun a HF => ?_
  refine fp HF 1 7 [(49, vP g 1)] fun a HF => ?_
  refine fo HF 8 rfl rfl ?_
  refine qo HF HM (i := 3) rfl rfl rfl rfl (by kernel_rfl) rfl rfl (by simp) ?_
  clear HM; intro w6_8 HM
  refine qb rfl (wp_seq (qa ?_))
  refine fy HF HM 0 rfl rfl rfl (v := .agg (b.cells A38 c38)) (Yl.zg rfl rfl si_bk rfl (fun _ h => qd (h.blk (i := 0) rfl))) fun a HF => ?_
  refine fp HF 1 1 [(51, vI er)] fun a HF => ?_
  refine fo HF 2 rfl rfl ?_
  refine e_sa HF HM 2 rfl rfl rfl rfl rfl si_bk rfl rfl (qb3 _ _ _) ?_
  clear HM; intro w7_2 HM
  refine fp HF 1 3 [(3, vI er)] fun a HF => ?_
  refine qb rfl (wp_ret ?_)
  exact ret2 rfl HF (.cellS (i := 2) HF HM rfl rfl si_bk rfl) (.tmp HF rfl) (qli hz rfl hc38 (HM.picksT 5 [1, 3, 4] (by decide) (by decide) rfl))
theorem qn6 (lim : Int) (w : World) (h : 1 ≤ lim ∧ lim ≤ 4096) : Calls Tryd.prog 14 #[.int .i64 lim] w fun r w' => ∃ g, r = .returned (.tuple #[.pointer (some ⟨g, 0, none⟩), .int .i64 0]) ∧ Mem w w' [.blk g #[.int .i64 lim, .slice none 0 0] 95] :=
 (qs3 lim (by unfold I64; omega) w).mono fun r w' h1 => by
  rcases h1 with ⟨h2, _⟩ | ⟨_, h2⟩
  ·omega
  ·exact h2
theorem qjw (W w : World) (g : Nat) (lim : Int) (A : Option Addr) (c : Nat) (out : List Nat) (fs : List Fact) (HW : Mem W w (.blk g #[.int .i64 lim, .slice A out.length c] 95 :: .row (.slice A out.length c) out.length (out.map B8) 5 1 :: fs)) (hc : out.length ≤ c) (hout : out.length ≤ 524288) (hlim : lim ≠ 0) (next : Int) (hnx : I64 next) (B : Nat) (hL : LaidX B w) (hBW : B ≤ W.heap.size) {o2 : List Nat} {we : Nat} (h : zi out [endB next] = (o2, we)) :
  Calls Tryd.prog 15 #[.pointer (some ⟨g, 0, none⟩), .int .i64 next] w (WrIs W 95 g lim o2 fs (.int .i64 (we : Int))) := by
 have h1 := qs5 W w g lim A c out fs HW hc hout hlim next hnx B hL hBW
 rw [h] at h1
 exact h1
theorem qva (W w : World) (g : Nat) (lim : Int) (A : Option Addr) (c : Nat) (out : List Nat) (fs : List Fact) (HW : Mem W w (.blk g #[.int .i64 lim, .slice A out.length c] 95 :: .row (.slice A out.length c) out.length (out.map B8) 5 1 :: fs)) (hc : out.length ≤ c) (hout : out.length ≤ 524288) (hlim : lim ≠ 0) (hlm : I64 lim) (cpu : Nat) (hcpu : cpu < 256) (A2 : Option Addr) (c2 : Nat) (l : List It) (opn : Int) (hok : ∀ x ∈ l, x.Ok) (ho : I64 opn) (B : Nat) (hL : LaidX B w) (hBW : B ≤ W.heap.size) (hr : Rd w w.heap.size 12 A2 l.length (l.flatMap itL)) (hc2 : l.length ≤ c2) (hn : l.length ≤ 999999) {o2 : List Nat} {k we : Nat} (h : putW out lim cpu l opn = (o2, k, we)) :
  Calls Tryd.prog 17 #[.pointer (some ⟨g, 0, none⟩), .int .u8 (cpu : Int), .slice A2 l.length c2, .int .i64 opn] w (WrIs W 95 g lim o2 fs (.tuple #[.int .i64 (k : Int), .int .i64 (we : Int)])) := by
 have h1 := qs4 W w g lim A c out fs HW hc hout hlim hlm cpu hcpu A2 c2 l opn hok ho B hL hBW hr hc2 hn
 rw [h] at h1
 exact h1
theorem qvb (g : Nat) (lim : Int) (A : Option Addr) (c : Nat) (out : List Nat) (w : World) (hg : w.heap[g]? = some (.cells #[.int .i64 lim, .slice A out.length c] 95 (0, 0))) (hlim : lim ≠ 0) {n : Nat} (h : out.length = n) :
  Calls Tryd.prog 18 #[.pointer (some ⟨g, 0, none⟩)] w (Is w (.int .i64 (n : Int))) := by
 have h1 := qs6 g lim A c out w hg hlim
 rw [h] at h1
 exact h1
theorem qlw (W w : World) (g p : Nat) (A : Option Addr) (c : Nat) (l : List Nat) (fs : List Fact) (HW : Mem W w (.blk g #[.bool true, .int .i64 (p : Int), .slice A l.length c] 108 :: .row (.slice A l.length c) l.length (l.map B8) 5 1 :: fs)) (hp : p ≤ l.length) (hc : l.length ≤ c) (hl : ∀ b ∈ l, b < 256) (hn : l.length ≤ 100000000) (B : Nat) (hL : LaidX B w) (hBW : B ≤ W.heap.size) {b : Bk} {m er : Nat} (h : nextR l p = (b, m, er)) {p2 : Nat} (h2 : p + m = p2 := by rfl) :
  Calls Tryd.prog 26 #[.pointer (some ⟨g, 0, none⟩)] w fun r w' => ∃ A' c', r = .returned (.tuple #[.agg (b.cells A' c'), .int .i64 (er : Int)]) ∧ b.evs.length ≤ c' ∧ Mem W w' (.row (.slice A' b.evs.length c') b.evs.length (b.evs.flatMap evL) 45 11 :: .blk g #[.bool true, .int .i64 ((p2 : Nat) : Int), .slice A l.length c] 108 :: .row (.slice A l.length c) l.length (l.map B8) 5 1 :: fs) := by
 have h1 := qpk W w g p A c l fs HW hp hc hl hn B hL hBW
 subst h2
 rw [h] at h1
 exact h1
theorem qym (A : Option Addr) (n c : Nat) (l : List Nat) (B : Nat) (w : World) (hL : LaidX B w) (hB : B ≤ w.heap.size) (hr : Rd w w.heap.size 1 A n (l.map B8)) (hc : n ≤ c) (hl : ∀ b ∈ l, b < 256) (hln : l.length = n) (hn : n ≤ 100000000) {bs : List Bk} {p er : Nat} (h : qbp l = (bs, p, er)) :
  Calls Tryd.prog 22 #[.slice A n c] w (Is w (.tuple #[.int .i64 (bs.length : Int), .int .i64 (p : Int), .int .i64 (er : Int)])) := by
 subst hln
 have h1 := qxf A c l B w hL hB hr hc hl hn
 rw [h] at h1
 exact h1
theorem qfe (w : World) : Calls Tryd.prog 32 #[] w fun r w' => ∃ g, r = .returned (.slice (some ⟨g, 0, none⟩) 2 2) ∧ w'.ownsRow w.heap.size 47 12 (.slice (some ⟨g, 0, none⟩) 2 2) 2 (exI.flatMap itL) ∧ Below w.heap.size w w' := by
 refine qg (vs := []) Tryd.func32 rfl rfl (by kernel_rfl) (σ0 := []) rfl ?_
 intro a HF
 have HM := Mem.start w
 refine wp_seq (qa ?_)
 refine fp HF 1 0 [(0, .slice none 0 0)] fun a HF => ?_
 refine qb rfl (wp_seq (qa ?_))
 refine fy HF HM 0 rfl rfl rfl (v := .agg #[vI 5, vI 340, vB 2, vB 5, vI 0, vI 0, vI 0, vI 0, vI 40, vQ 0, vI 7]) (Yl.build (vs := [(0, vI 5), (1, vI 340), (2, vB 2), (3, vB 5), (8, vI 40), (10, vI 7)]) rfl (by kernel_rfl) (by kernel_rfl)) fun a HF => ?_
 refine fy HF HM 1 rfl rfl rfl (v := .agg #[vI 5, vI 340, vB 2, vB 5, vI 0, vI 0, vI 0, vI 0, vI 40, vQ 0, vI 7, vI 3]) (Yl.build (vs := [(0, .agg #[vI 5, vI 340, vB 2, vB 5, vI 0, vI 0, vI 0, vI 0, vI 40, vQ 0, vI 7]), (1, vI 3)]) rfl (by kernel_rfl) (by kernel_rfl)) fun a HF => ?_
 refine fy HF HM 2 rfl rfl rfl (v := .agg #[vI 9, vI 340, vB 2, vB 6, vI 0, vI 0, vI 0, vI 0, vI 0, vQ 0, vI 0]) (Yl.build (vs := [(0, vI 9), (1, vI 340), (2, vB 2), (3, vB 6)]) rfl (by kernel_rfl) (by kernel_rfl)) fun a HF => ?_
 refine fy HF HM 3 rfl rfl rfl (v := .agg #[vI 9, vI 340, vB 2, vB 6, vI 0, vI 0, vI 0, vI 0, vI 0, vQ 0, vI 0, vI 0]) (Yl.build (vs := [(0, .agg #[vI 9, vI 340, vB 2, vB 6, vI 0, vI 0, vI 0, vI 0, vI 0, vQ 0, vI 0])]) rfl (by kernel_rfl) (by kernel_rfl)) fun a HF => ?_
 refine fo HF 4 rfl rfl ?_
 refine qar HF HM (vs := [(0, .agg #[vI 5, vI 340, vB 2, vB 5, vI 0, vI 0, vI 0, vI 0, vI 40, vQ 0, vI 7, vI 3]), (1, .agg #[vI 9, vI 340, vB 2, vB 6, vI 0, vI 0, vI 0, vI 0, vI 0, vQ 0, vI 0, vI 0])]) (cs := #[vI 5, vI 340, vB 2, vB 5, vI 0, vI 0, vI 0, vI 0, vI 40, vQ 0, vI 7, vI 3, vI 9, vI 340, vB 2, vB 6, vI 0, vI 0, vI 0, vI 0, vI 0, vQ 0, vI 0, vI 0]) rfl ei_it (by decide) rfl (by kernel_rfl) rfl (by decide) ?_
 clear HF HM; intro a w5 g5 HF HM
 refine fp HF 1 5 [(0, vS g5 2 2)] fun a HF => ?_
 refine qb rfl (wp_ret ?_)
 exact ret1 rfl HF (.tmp HF rfl) (⟨g5, rfl, (HM.blkRow (i := 0) (n := 2) (size := 12) rfl rfl (by decide)).own (i := 0) rfl, HM.below⟩)
theorem qpl (B : Nat) (w : World) (hL : LaidX B w) (hB : B ≤ w.heap.size) : Calls Tryd.prog 10 #[] w (Is w (.bool true)) := by
 refine qg (vs := []) Tryd.func10 rfl rfl (by kernel_rfl) (σ0 := []) rfl ?_
 intro a HF
 have HM := Mem.start w
 refine wp_seq (qa ?_)
 refine fp HF 1 0 [(0, .bool false)] fun a HF => ?_
 refine qb rfl (wp_seq (qa ?_))
 refine fo HF 0 rfl rfl ?_
 refine e_cl HF [] rfl rfl (qfe _) ?_
 rintro _ w20 ⟨g20, rfl, ho, hbw⟩
 refine ⟨_, rfl, ?_⟩
 replace HM := HM.callRow hbw ho
 clear HF; intro a HF
 refine fo HF 1 rfl rfl ?_
 refine e_cl HF [vB 2, vS g20 2 2, vI 2, vI 1] rfl rfl (qfd 2 (by decide) (some ⟨g20, 0, none⟩) 2 2 exI 2 1 qv4 (by unfold I64; decide) (by unfold I64; decide) B _ (hL.mem HM hB) (HM.le hB) (HM.rd (i := 0) rfl) (by decide) rfl (by decide) sa1) ?_
 rintro _ w21 ⟨A21, c21, q21, rfl, hq21, hc21, hm⟩
 obtain ⟨x1, x2, rfl, hex1, hex2⟩ := map2 hq21
 refine ⟨_, rfl, ?_⟩
 replace HM := HM.callRow hm.below (hm.own (i := 0) rfl)
 clear HF; intro a HF
 refine fp HF 5 2 [(2, vI 0), (1, .slice A21 2 c21)] fun a HF => ?_
 refine qb rfl (wp_seq (qa ?_))
 refine fo HF 0 rfl rfl ?_
 refine e_cl HF [] rfl rfl (qfe _) ?_
 rintro _ w25 ⟨g25, rfl, ho, hbw⟩
 refine ⟨_, rfl, ?_⟩
 replace HM := HM.callRow hbw ho
 clear HF; intro a HF
 refine fo HF 1 rfl rfl ?_
 refine e_cl HF [vB 2, vS g25 2 2, vI 2, vI 2] rfl rfl (qfd 2 (by decide) (some ⟨g25, 0, none⟩) 2 2 exI 2 2 qv4 (by unfold I64; decide) (by unfold I64; decide) B _ (hL.mem HM hB) (HM.le hB) (HM.rd (i := 0) rfl) (by decide) rfl (by decide) sa2) ?_
 rintro _ w26 ⟨A26, c26, q26, rfl, hq26, hc26, hm⟩
 obtain ⟨x3, rfl, hex3⟩ := map1 hq26
 refine ⟨_, rfl, ?_⟩
 replace HM := HM.callRow hm.below (hm.own (i := 0) rfl)
 clear HF; intro a HF
 refine fp HF 5 2 [(4, vI 0), (3, .slice A26 1 c26)] fun a HF => ?_
 refine qb rfl (wp_seq (qa ?_))
 refine fo HF 0 rfl rfl ?_
 refine e_cl HF [vB 2, .slice none 0 0, vI 0, vI 1] rfl rfl (qfd 2 (by decide) none 0 0 [] 0 1 (by intro x hx; cases hx) (by unfold I64; decide) (by unfold I64; decide) B _ (hL.mem HM hB) (HM.le hB) (Rd.nil) (by decide) rfl (by decide) sa3) ?_
 rintro _ w30 ⟨A30, c30, q30, rfl, hq30, hc30, hm⟩
 obtain rfl := List.map_eq_nil_iff.1 hq30
 refine ⟨_, rfl, ?_⟩
 replace HM := HM.callRow hm.below (hm.own (i := 0) rfl)
 clear HF; intro a HF
 refine fp HF 5 1 [(6, vI 0), (5, .slice A30 0 c30)] fun a HF => ?_
 refine qb rfl (wp_seq (qa ?_))
 refine fo HF 0 rfl rfl ?_
 refine e_cl HF [vB 2, .slice none 0 0, vI 2, vI 1] rfl rfl (qfd 2 (by decide) none 0 0 [] 2 1 (by intro x hx; cases hx) (by unfold I64; decide) (by unfold I64; decide) B _ (hL.mem HM hB) (HM.le hB) (Rd.nil) (by decide) rfl (by decide) sa4) ?_
 rintro _ w34 ⟨A34, c34, q34, rfl, hq34, hc34, hm⟩
 obtain ⟨x4, rfl, hex4⟩ := map1 hq34
 refine ⟨_, rfl, ?_⟩
 replace HM := HM.callRow hm.below (hm.own (i := 0) rfl)
 clear HF; intro a HF
 refine fp HF 5 1 [(8, vI 0), (7, .slice A34 1 c34)] fun a HF => ?_
 refine qb rfl (wp_seq (wp_seq (qa ?_)))
 refine fp HF 10 0 [(46, .slice A21 2 c21), (45, .bool false)] fun a HF => ?_
 refine fy HF HM 10 rfl rfl rfl (Yl.len rfl rfl (by kernel_rfl)) fun a HF => ?_
 refine fp HF 4 11 [(51, .slice A21 2 c21), (50, .bool false)] fun a HF => ?_
 obtain ⟨gA21, rfl⟩ := qbj (HM.own (i := 4) rfl) (Nat.lt_of_le_of_lt (Nat.zero_le _) (show 0 < 2 from by decide))
 refine fy HF HM 15 rfl rfl rfl (v := vP gA21 0) (Yl.indexAddr (ad := ⟨gA21, 0, none⟩) (y := 0) (sz := 5) rfl rfl rfl (by decide) (by kernel_rfl)) fun a HF => ?_
 refine fp HF 1 16 [(53, vP gA21 2)] fun a HF => ?_
 refine fy HF HM 17 rfl rfl rfl (v := vI x1.b.lost) (Yl.qh rfl rfl (by kernel_rfl) (fun _ h => h.qdv qdp (i := 4) rfl (k := 0) (off := 2) (x := x1) (rfl) rfl)) fun a HF => ?_
 replace HF := HF.sp 54 (vI 3) rfl (by rw [hex1])
 refine fp HF 4 18 [(58, vS gA21 2 c21), (57, .bool false)] fun a HF => ?_
 refine fy HF HM 22 rfl rfl rfl (v := vP gA21 5) (Yl.indexAddr (ad := ⟨gA21, 0, none⟩) (y := 1) (sz := 5) rfl rfl rfl (by decide) (by kernel_rfl)) fun a HF => ?_
 refine fp HF 1 23 [(60, vP gA21 7)] fun a HF => ?_
 refine fy HF HM 24 rfl rfl rfl (v := vI x2.b.lost) (Yl.qh rfl rfl (by kernel_rfl) (fun _ h => h.qdv qdp (i := 4) rfl (k := 1) (off := 2) (x := x2) (rfl) rfl)) fun a HF => ?_
 replace HF := HF.sp 61 (vI 2) rfl (by rw [hex2])
 refine fp HF 4 25 [(65, .slice A26 1 c26), (64, .bool false)] fun a HF => ?_
 refine fy HF HM 29 rfl rfl rfl (Yl.len rfl rfl (by kernel_rfl)) fun a HF => ?_
 refine fp HF 4 30 [(70, .slice A26 1 c26), (69, .bool false)] fun a HF => ?_
 obtain ⟨gA26, rfl⟩ := qbj (HM.own (i := 2) rfl) (Nat.lt_of_le_of_lt (Nat.zero_le _) (show 0 < 1 from by decide))
 refine fy HF HM 34 rfl rfl rfl (v := vP gA26 0) (Yl.indexAddr (ad := ⟨gA26, 0, none⟩) (y := 0) (sz := 5) rfl rfl rfl (by decide) (by kernel_rfl)) fun a HF => ?_
 refine fp HF 1 35 [(72, vP gA26 2)] fun a HF => ?_
 refine fy HF HM 36 rfl rfl rfl (v := vI x3.b.lost) (Yl.qh rfl rfl (by kernel_rfl) (fun _ h => h.qdv qdp (i := 2) rfl (k := 0) (off := 2) (x := x3) (rfl) rfl)) fun a HF => ?_
 replace HF := HF.sp 73 (vI 5) rfl (by rw [hex3])
 refine fp HF 4 37 [(77, vS gA26 1 c26), (76, .bool false)] fun a HF => ?_
 refine fy HF HM 41 rfl rfl rfl (v := vP gA26 0) (Yl.indexAddr (ad := ⟨gA26, 0, none⟩) (y := 0) (sz := 5) rfl rfl rfl (by decide) (by kernel_rfl)) fun a HF => ?_
 refine fp HF 1 42 [(79, vP gA26 4)] fun a HF => ?_
 refine fy HF HM 43 rfl rfl rfl (v := .slice x3.A x3.b.evs.length x3.c) (Yl.qh rfl rfl (by kernel_rfl) (fun _ h => h.qdv qdp (i := 2) rfl (k := 0) (off := 4) (x := x3) (rfl) rfl)) fun a HF => ?_
 replace HF := HF.sp 80 (.slice x3.A 2 x3.c) rfl (by rw [hex3]; rfl)
 refine fy HF HM 44 rfl rfl rfl (Yl.len rfl rfl (by kernel_rfl)) fun a HF => ?_
 refine fp HF 4 45 [(85, .slice A30 0 c30), (84, .bool false)] fun a HF => ?_
 refine fy HF HM 49 rfl rfl rfl (Yl.len rfl rfl (by kernel_rfl)) fun a HF => ?_
 refine fp HF 4 50 [(90, .slice A34 1 c34), (89, .bool false)] fun a HF => ?_
 refine fy HF HM 54 rfl rfl rfl (Yl.len rfl rfl (by kernel_rfl)) fun a HF => ?_
 refine fp HF 4 55 [(95, .slice A34 1 c34), (94, .bool false)] fun a HF => ?_
 obtain ⟨gA34, rfl⟩ := qbj (HM.own (i := 0) rfl) (Nat.lt_of_le_of_lt (Nat.zero_le _) (show 0 < 1 from by decide))
 refine fy HF HM 59 rfl rfl rfl (v := vP gA34 0) (Yl.indexAddr (ad := ⟨gA34, 0, none⟩) (y := 0) (sz := 5) rfl rfl rfl (by decide) (by kernel_rfl)) fun a HF => ?_
 refine fp HF 1 60 [(97, vP gA34 2)] fun a HF => ?_
 refine fy HF HM 61 rfl rfl rfl (v := vI x4.b.lost) (Yl.qh rfl rfl (by kernel_rfl) (fun _ h => h.qdv qdp (i := 0) rfl (k := 0) (off := 2) (x := x4) (rfl) rfl)) fun a HF => ?_
 replace HF := HF.sp 98 (vI 2) rfl (by rw [hex4])
 refine fp HF 2 62 [(100, .bool false)] fun a HF => ?_
 refine qb rfl ?_
 replace HF := HF.to [(100, .bool false), (0, .bool false)]
 refine qe HF rfl (wp_skip (wp_seq (qa ?_)))
 refine fo HF 0 rfl rfl ?_
 refine e_cl HF [vI 9] rfl rfl (qn6 9 _ (by decide)) ?_
 rintro _ w102 ⟨gw102, rfl, hm⟩
 refine ⟨_, rfl, ?_⟩
 replace HM := (HM.join hm).nil 5 1
 clear HF; intro a HF
 refine fp HF 5 1 [(10, vI 0), (9, vP gw102 0)] fun a HF => ?_
 refine qb rfl (wp_seq (wp_seq (qa ?_)))
 refine fp HF 4 0 [(108, vP gw102 0), (107, .bool false)] fun a HF => ?_
 refine fy HF HM 4 rfl rfl rfl (v := .bool false) (Yl.ql1 rfl rfl rfl) fun a HF => ?_
 refine fp HF 3 5 [(112, vP gw102 0), (111, .bool false)] fun a HF => ?_
 refine fo HF 8 rfl rfl ?_
 refine e_cl HF [vP gw102 0, vI 0] rfl rfl (qjw (o2 := []) (we := 107) _ _ gw102 9 none 0 [] _ (HM.picks [1, 0, 2, 3, 4, 5, 6, 7] (by decide) rfl) (by first | exact Nat.le_refl _ | omega | exact Nat.zero_le _) (by first | decide | omega) (by decide) 0 (by unfold I64; decide) B (hL.mem HM hB) hB sa5) ?_
 rintro _ w113 ⟨rfl, A113, c113, hc113, HM2⟩
 refine ⟨_, rfl, ?_⟩
 replace HM := HM2
 clear HF; intro a HF
 refine fp HF 4 9 [(117, vP gw102 0), (116, .bool false)] fun a HF => ?_
 refine fo HF 13 rfl rfl ?_
 refine e_cl HF [vP gw102 0, vI 7] rfl rfl (qjw (o2 := awX) (we := 0) _ _ gw102 9 A113 c113 [] _ (HM.picks [0, 1, 2, 3, 4, 5, 6, 7] (by decide) rfl) (by first | exact Nat.le_refl _ | omega | exact Nat.zero_le _) (by first | decide | omega) (by decide) 7 (by unfold I64; decide) B (hL.mem HM hB) hB sa6) ?_
 rintro _ w118 ⟨rfl, A118, c118, hc118, HM2⟩
 refine ⟨_, rfl, ?_⟩
 replace HM := HM2
 clear HF; intro a HF
 refine fp HF 4 14 [(122, vP gw102 0), (121, .bool false)] fun a HF => ?_
 refine fo HF 18 rfl rfl ?_
 refine e_cl HF [vP gw102 0] rfl rfl (qvb gw102 9 A118 c118 awX _ (HM.blk (i := 0) rfl) (by decide) rfl) ?_
 rintro _ w123 ⟨rfl, hbw⟩
 refine ⟨_, rfl, ?_⟩
 replace HM := HM.call hbw
 clear HF; intro a HF
 refine fp HF 2 19 [(125, .bool false)] fun a HF => ?_
 refine qb rfl (qe HF rfl (wp_skip (wp_seq (qa ?_))))
 refine fp HF 1 0 [(127, vP gw102 0)] fun a HF => ?_
 refine fo HF 1 rfl rfl ?_
 refine e_cl HF [vP gw102 0] rfl rfl (qen gw102 9 A118 c118 awX _ (HM.blk (i := 0) rfl) (HM.rd (i := 1) rfl) (by first | decide | omega) (by decide)) ?_
 rintro _ w128 ⟨⟨A128, c128, rfl, ho, hc128⟩, hbw⟩
 refine ⟨_, rfl, ?_⟩
 replace HM := HM.callRow hbw ho
 clear HF; intro a HF
 refine fo HF 2 rfl rfl ?_
 refine qar HF HM (vs := [(0, vB 1)]) (cs := #[vB 1]) rfl ei_u8 (by decide) rfl (by kernel_rfl) rfl (by decide) ?_
 clear HF HM; intro a w129 g129 HF HM
 refine fo HF 3 rfl rfl ?_
 refine qac HF HM (i := 1) rfl ei_u8 rfl rfl rfl (news := ([1].map B8)) (HM.rdBlk (i := 0) (n := 1) (size := 1) rfl rfl) (qf9 _) (by decide) (by decide) rfl (by decide) ?_
 clear HF HM; intro a w130 A130 c130 HF HM hc130
 rw [show (awX.map B8) ++ ([1].map B8) = (awX ++ [1]).map B8 from by rw [List.map_append]] at HM
 refine fo HF 4 rfl rfl ?_
 refine e_is HF HM [.slice A130 14 c130] (.tuple #[vI 1, vI 13, vI 100]) rfl rfl (qym A130 14 c130 (awX ++ [1]) B _ (hL.mem HM hB) (HM.le hB) (HM.rd (i := 1) rfl) hc130 qxh rfl (by decide) sa7) fun w131 hbw HM a HF => ?_
 refine fp HF 7 5 [(13, vI 100), (12, vI 13), (11, vI 1)] fun a HF => ?_
 refine qb rfl (wp_seq (qa ?_))
 refine fp HF 1 0 [(135, vP gw102 0)] fun a HF => ?_
 refine fo HF 1 rfl rfl ?_
 refine e_cl HF [vP gw102 0] rfl rfl (qen gw102 9 A118 c118 awX _ (HM.blk (i := 2) rfl) (HM.rd (i := 3) rfl) (by first | decide | omega) (by decide)) ?_
 rintro _ w136 ⟨⟨A136, c136, rfl, ho, hc136⟩, hbw⟩
 refine ⟨_, rfl, ?_⟩
 replace HM := HM.callRow hbw ho
 clear HF; intro a HF
 refine fo HF 2 rfl rfl ?_
 refine e_cl HF [.slice A136 awX.length c136] rfl rfl (qpj A136 c136 awX _ (HM.rd (i := 0) rfl) (by decide)) ?_
 rintro _ w137 ⟨g137, A137, c137, rfl, hc137, hm⟩
 refine ⟨_, rfl, ?_⟩
 replace HM := HM.join hm
 clear HF; intro a HF
 refine fp HF 1 3 [(14, vP g137 0)] fun a HF => ?_
 refine qb rfl (wp_seq (qa ?_))
 refine fp HF 1 0 [(139, vP g137 0)] fun a HF => ?_
 refine fo HF 1 rfl rfl ?_
 refine e_cl HF [vP g137 0] rfl rfl (qlw _ _ g137 0 A137 c137 awX _ (HM.picks [0, 1, 2, 3, 4, 5, 6, 7, 8, 9, 10, 11, 12] (by decide) rfl) (by decide) (by first | exact Nat.le_refl _ | omega | exact Nat.zero_le _) qvt (by decide) B (hL.mem HM hB) hB (sa8) (p2 := 13) (rfl)) ?_
 rintro _ w140 ⟨A140, c140, rfl, hc140, HM2⟩
 refine ⟨_, rfl, ?_⟩
 replace HM := HM2
 clear HF; intro a HF
 refine fp HF 3 2 [(142, vI 0), (141, .agg #[vB 2, vB 0, vI 0, vI 7, .slice A140 0 c140])] fun a HF => ?_
 refine fo HF 5 rfl rfl ?_
 refine qr HF HM (cs := #[vB 0, vB 0, vI 0, vI 0, .slice none 0 0]) rfl (by kernel_rfl) rfl (by decide) ?_
 clear HF HM; intro a w15 g15 HF HM
 refine fo HF 6 rfl rfl ?_
 refine e_sa HF HM 0 rfl rfl rfl rfl rfl si_bk rfl rfl (by simp [Value.oneCell']) ?_
 clear HM; intro w12_6 HM
 refine fp HF 1 7 [(16, vI 0)] fun a HF => ?_
 refine qb rfl (wp_seq (qa ?_))
 refine fp HF 1 0 [(144, vP g137 0)] fun a HF => ?_
 refine fo HF 1 rfl rfl ?_
 refine e_cl HF [vP g137 0] rfl rfl (qlw _ _ g137 13 A137 c137 awX _ (HM.picks [2, 3, 0, 1, 4, 5, 6, 7, 8, 9, 10, 11, 12, 13, 14] (by decide) rfl) (by decide) (by first | exact Nat.le_refl _ | omega | exact Nat.zero_le _) qvt (by decide) B (hL.mem HM hB) hB (sa9) (p2 := 13) (rfl)) ?_
 rintro _ w145 ⟨A145, c145, rfl, hc145, HM2⟩
 refine ⟨_, rfl, ?_⟩
 replace HM := HM2
 clear HF; intro a HF
 refine fp HF 3 2 [(147, vI 6), (146, .agg #[vB 0, vB 0, vI 0, vI 0, .slice A145 0 c145])] fun a HF => ?_
 refine fo HF 5 rfl rfl ?_
 refine qr HF HM (cs := #[vB 0, vB 0, vI 0, vI 0, .slice none 0 0]) rfl (by kernel_rfl) rfl (by decide) ?_
 clear HF HM; intro a w17 g17 HF HM
 refine fo HF 6 rfl rfl ?_
 refine e_sa HF HM 0 rfl rfl rfl rfl rfl si_bk rfl rfl (by simp [Value.oneCell']) ?_
 clear HM; intro w13_6 HM
 refine fp HF 1 7 [(18, vI 6)] fun a HF => ?_
 refine qb rfl (wp_seq (qa ?_))
 refine fp HF 16 0 [(163, vP g15 3), (162, .bool true)] fun a HF => ?_
 refine fy HF HM 16 rfl rfl rfl (Yl.qh rfl rfl (by kernel_rfl) (fun _ h => h.cell (i := 4) rfl rfl)) fun a HF => ?_
 refine fp HF 8 17 [(172, vP g137 0), (171, .bool true)] fun a HF => ?_
 refine fo HF 25 rfl rfl ?_
 refine e_is HF HM [vP g137 0] (vI 13) rfl rfl (qlv g137 13 A137 c137 awX _ (HM.blk (i := 2) rfl)) fun w173 hbw HM a HF => ?_
 refine fp HF 3 26 [(0, .bool true)] fun a HF => ?_
 refine qb rfl ?_
 replace HF := HF.to [(0, .bool true), (15, vP g15 0), (14, vP g137 0), (125, .bool false), (9, vP gw102 0), (100, .bool false)]
 refine wp_ret ?_
 exact ret1 rfl HF (.tmp HF rfl) (⟨rfl, HM.below⟩)
theorem qs7 {w w' : World} {x : Ss} {A : Option Addr} {c k : Nat} (ho : w'.ownsRow w.heap.size 47 12 (.slice A k c) k ((qb8 x.bef x.es k).flatMap itL)) (hk : k = x.es.length) (hc : k ≤ c) (hb : Below w.heap.size w w') : qvz w x (.returned (.tuple #[.int .u8 ((x.cpu % 64 : Nat) : Int), .slice A k c, .int .i64 (x.opn : Int)])) w' := by
 subst hk
 have e : x.es.length = x.items.length := (qcu x).symm
 rw [e] at ho hc ⊢
 exact ⟨A, c, rfl, by have h := ho; rw [show qb8 x.bef x.es x.items.length = x.items by rw [qcu]; rfl] at h; exact h, hc, hb⟩
theorem qiz (x : Ss) (hx : x.Ok) (A : Option Addr) (c : Nat) (A2 : Option Addr) (c2 : Nat) (w : World) (hr : Rd w w.heap.size 11 A x.l.length (x.l.flatMap smL)) (hc : x.l.length ≤ c) (hr2 : Rd w w.heap.size 1 A2 x.bef.length (x.bef.map W32)) (hn : x.l.length ≤ 9223372036854775807) (hn2 : x.bef.length ≤ 9223372036854775807) :
    Calls Tryd.prog 11 #[.agg (x.cells A c A2 c2)] w (qvz w x) := by
 refine qg (vs := [.agg (x.cells A c A2 c2)]) Tryd.func11 rfl rfl (by kernel_rfl) (σ0 := [(0, .agg (x.cells A c A2 c2))]) rfl ?_
 intro a HF
 have HM := Mem.start w
 refine wp_seq (qa ?_)
 refine fo HF 0 rfl rfl ?_
 refine e_box HF HM (cs := (x.cells A c A2 c2)) rfl rfl rfl rfl (by decide) ?_
 clear HF HM; intro a w1 g1 HF HM
 refine fp HF 3 1 [(4, vI 0), (3, .slice none 0 0), (2, vB 0)] fun a HF => ?_
 refine qb rfl ?_
 have hcpu := hx.cpu
 have hopn := hx.opn
 have h200 := es200 x
 refine wp_seq (qa ?_)
 refine fp HF 1 0 [(5, .slice none 0 0)] fun a HF => ?_
 refine qb rfl (wp_seq (wp_seq (qa ?_)))
 refine fp HF 1 0 [(9, vP g1 0)] fun a HF => ?_
 refine fy HF HM 1 rfl rfl rfl (v := vB x.cpu) (Yl.qh rfl rfl (by kernel_rfl) (fun _ h => h.cell (i := 0) rfl (rfl))) fun a HF => ?_
 refine fp HF 1 2 [(11, vP g1 1)] fun a HF => ?_
 refine fy HF HM 3 rfl rfl rfl (v := .agg #[vI x.b.seq, vI x.b.time]) (Yl.zg rfl rfl ⟨(by kernel_rfl), (by kernel_rfl)⟩ rfl (fun _ h => h.sub (i := 0) rfl 1 rfl)) fun a HF => ?_
 refine fp HF 1 4 [(13, vP g1 3)] fun a HF => ?_
 refine fy HF HM 5 rfl rfl rfl (v := .slice A x.l.length c) (Yl.qh rfl rfl (by kernel_rfl) (fun _ h => h.cell (i := 0) rfl (rfl))) fun a HF => ?_
 refine fo HF 6 rfl rfl ?_
 refine e_cl HF [vB x.cpu, .agg #[vI x.b.seq, vI x.b.time], .slice A x.l.length c] rfl rfl (qso x.cpu hx.cpu x.b hx.b _ _ _ x.l hx.l _ (HM.old hr) hc hn) ?_
 rintro _ w15 ⟨⟨v, rfl, ho⟩, hbw⟩
 rw [show madeL x.cpu x.b x.l = x.es from rfl] at ho
 obtain ⟨A15, c15, rfl, hc15⟩ := qdk ho
 refine ⟨_, rfl, ?_⟩
 replace HM := HM.callRow hbw ho
 clear HF; intro a HF
 refine fy HF HM 7 rfl rfl rfl (Yl.len rfl rfl (by kernel_rfl)) fun a HF => ?_
 refine fp HF 1 8 [(17, vI 0)] fun a HF => ?_
 refine qb rfl ?_
 replace HM := HM.nil 47 12
 refine wp_block ?_
 refine zk (fun mS aS wS => ∃ (k : Nat) (Ak : Option Addr) (ck : Nat), (k ≤ x.es.length) ∧ (k ≤ ck) ∧ mS = x.es.length - k ∧ Fr aS 51 [] [(17, vI k), (16, vI x.es.length), (15, .slice A15 x.es.length c15), (5, .slice Ak k ck), (4, vI 0), (3, .slice none 0 0), (2, vB 0), (1, vP g1 0)] ∧ Mem w wS [.row (.slice Ak k ck) k ((qb8 x.bef x.es k).flatMap itL) 47 12, .row (.slice A15 x.es.length c15) x.es.length (x.es.flatMap evL) 45 11, .blk g1 (x.cells A c A2 c2) 31]) (m := x.es.length - 0) ⟨0, none, 0, Nat.zero_le _, Nat.le_refl _, rfl, HF.sub (by kernel_rfl), HM.picks [0, 1, 2] (by decide) rfl⟩ ?_
 clear HF HM; rintro mS a w_ ⟨k, Ak, ck, hk, hck, rfl, HF, HM⟩
 refine wp_seq (qa ?_)
 refine fp HF 1 0 [(18, .bool (decide ((k : Int) < (x.es.length : Int))))] fun a HF => ?_
 refine qb rfl (wp_seq ?_)
 rcases HF.tf 18 rfl with ⟨hb18, HF⟩ | ⟨hb18, HF⟩
 ·
  have hd18 := of_decide_eq_true hb18
  have hk18 : k < x.es.length := by omega
  refine qf HF rfl (wp_skip (wp_seq (wp_block (wp_seq (qa ?_)))))
  refine fp HF 1 0 [(19, vI k)] fun a HF => ?_
  obtain ⟨gA15, rfl⟩ := qbj (HM.own (i := 1) rfl) (Nat.lt_of_le_of_lt (Nat.zero_le _) (show k < x.es.length from by omega))
  refine fy HF HM 1 rfl rfl rfl (v := vP gA15 (k * 11)) (Yl.ix0 gA15 k 11 rfl rfl rfl) fun a HF => ?_
  refine fy HF HM 2 rfl rfl rfl (v := .agg ((x.es.getD k Ev.zero).cells)) (Yl.zg rfl rfl ⟨(by kernel_rfl), (by kernel_rfl)⟩ rfl (fun _ h => h.qff zr (i := 1) rfl ((getD_at Ev.zero (k := k) (by first | omega | (simp; omega)))))) fun a HF => ?_
  refine fo HF 3 rfl rfl ?_
  refine qr HF HM (cs := #[vI 0, vI 0, vB 0, vB 0, vI 0, vI 0, vI 0, vI 0, vI 0, vQ 0, vI 0]) rfl (by kernel_rfl) rfl (by decide) ?_
  clear HF HM; intro a w7 g7 HF HM
  refine fp HF 1 4 [(6, vI k)] fun a HF => ?_
  refine fo HF 5 rfl rfl ?_
  refine e_sa HF HM 0 rfl rfl rfl rfl rfl ⟨(by kernel_rfl), (by kernel_rfl)⟩ rfl rfl (qaa (x.es.getD k Ev.zero)) ?_
  clear HM; intro w4_5 HM
  refine qb rfl (wp_seq (qa ?_))
  refine fy HF HM 0 rfl rfl rfl (v := .agg ((x.es.getD k Ev.zero).cells)) (Yl.zg rfl rfl ⟨(by kernel_rfl), (by kernel_rfl)⟩ rfl (fun _ h => qd (h.blk (i := 0) rfl))) fun a HF => ?_
  refine fy HF HM 1 rfl rfl rfl (v := .agg #[vI ((x.es.getD k Ev.zero).seq), vI ((x.es.getD k Ev.zero).time), vB ((x.es.getD k Ev.zero).cpu), vB ((x.es.getD k Ev.zero).kind), vI ((x.es.getD k Ev.zero).task), vI ((x.es.getD k Ev.zero).group), vI ((x.es.getD k Ev.zero).to), vI ((x.es.getD k Ev.zero).weight), vI ((x.es.getD k Ev.zero).ticks), vQ ((x.es.getD k Ev.zero).mask), vI ((x.es.getD k Ev.zero).got), vI 0]) (Yl.build (vs := [(0, .agg ((x.es.getD k Ev.zero).cells))]) rfl (by kernel_rfl) (by kernel_rfl)) fun a HF => ?_
  refine fo HF 2 rfl rfl ?_
  refine qr HF HM (cs := #[vI 0, vI 0, vB 0, vB 0, vI 0, vI 0, vI 0, vI 0, vI 0, vQ 0, vI 0, vI 0]) rfl (by kernel_rfl) rfl (by decide) ?_
  clear HF HM; intro a w8 g8 HF HM
  refine fo HF 3 rfl rfl ?_
  refine e_sa HF HM 0 rfl rfl rfl rfl rfl si_it rfl rfl (by simp [Value.oneCell']) ?_
  clear HM; intro w5_3 HM
  refine qb rfl (wp_seq (wp_seq (qa ?_)))
  refine fp HF 1 0 [(24, vP g1 4)] fun a HF => ?_
  refine fy HF HM 1 rfl rfl rfl (v := .slice A2 x.bef.length c2) (Yl.qh rfl rfl (by kernel_rfl) (fun _ h => h.cell (i := 4) rfl (rfl))) fun a HF => ?_
  refine fy HF HM 2 rfl rfl rfl (Yl.len rfl rfl (by kernel_rfl)) fun a HF => ?_
  refine fp HF 1 3 [(27, .bool (decide ((x.bef.length : Int) > (0 : Int))))] fun a HF => ?_
  refine qb rfl ?_
  rcases HF.tf 27 rfl with ⟨hb27, HF⟩ | ⟨hb27, HF⟩
  ·
   have hd27 := of_decide_eq_true hb27
   have hb0 : 0 < x.bef.length := by omega
   have hbk : k % x.bef.length < x.bef.length := Nat.mod_lt _ hb0
   have hba : befAt x.bef k = x.bef.getD (k % x.bef.length) 0 := if_neg (by omega)
   refine qf HF rfl ?_
   refine qaf HM [.blk g8 #[vI ((x.es.getD k Ev.zero).seq), vI ((x.es.getD k Ev.zero).time), vB ((x.es.getD k Ev.zero).cpu), vB ((x.es.getD k Ev.zero).kind), vI ((x.es.getD k Ev.zero).task), vI ((x.es.getD k Ev.zero).group), vI ((x.es.getD k Ev.zero).to), vI ((x.es.getD k Ev.zero).weight), vI ((x.es.getD k Ev.zero).ticks), vQ ((x.es.getD k Ev.zero).mask), vI ((x.es.getD k Ev.zero).got), vI 0] 47, .blk g7 ((x.es.getD k Ev.zero).cells) 45, .row (.slice Ak k ck) k ((qb8 x.bef x.es k).flatMap itL) 47 12, .row (vS gA15 x.es.length c15) x.es.length (x.es.flatMap evL) 45 11, .blk g1 (x.cells A c A2 c2) 31] [0, 1, 2, 3, 4] [11] fun HM HS => ?_
   refine ap HF (fun _ => HS) [0, 2, 3] #[true, false, true, true, false, false, false, false, false, false, false, false] [(31, vP g1 4), (30, vI k), (28, vP g1 4)] fun a HF => ?_
   refine ay HF HS 1 rfl rfl rfl (v := .slice A2 x.bef.length c2) (Yl.qh rfl rfl (by kernel_rfl) (fun _ h => h.cell (i := 4) rfl (rfl))) fun a HF => ?_
   refine ay HF HS 4 rfl rfl rfl (v := .slice A2 x.bef.length c2) (Yl.qh rfl rfl (by kernel_rfl) (fun _ h => h.cell (i := 4) rfl (rfl))) fun a HF => ?_
   refine ay HF HS 5 rfl rfl rfl (Yl.len rfl rfl (by kernel_rfl)) fun a HF => ?_
   refine ay HF HS 6 rfl rfl rfl (v := vI (k % x.bef.length : Nat)) (Yl.remN (m := k) (n := x.bef.length) rfl rfl rfl (by omega)) fun a HF => ?_
   obtain ⟨gA2, oA2, rfl, _⟩ := hr2.qas (Nat.lt_of_le_of_lt (Nat.zero_le _) (show k % x.bef.length < x.bef.length from by omega)) (by decide)
   refine ay HF HS 7 rfl rfl rfl (v := vP gA2 (oA2 + (k % x.bef.length) * 1)) (Yl.ix gA2 oA2 (k % x.bef.length) 1 rfl rfl rfl) fun a HF => ?_
   have hx102 := getD_lt hx.bef (k := (k % x.bef.length)) (by first | omega | (simp; omega))
   refine ay HF HS 8 rfl rfl rfl (v := vW (x.bef.getD (k % x.bef.length) 0)) (Yl.qh rfl rfl (by kernel_rfl) (fun _ h => (h.old hr2).qbv (k := (k % x.bef.length)) (qab (F := W32) (k := (k % x.bef.length)) (x := (x.bef.getD (k % x.bef.length) 0)) ((getD_at 0 (k := (k % x.bef.length)) (by first | omega | (simp; omega))))))) fun a HF => ?_
   refine qp HF (fun _ => HS) (i := 9) rfl rfl (d := 37) rfl (by decide) (by kernel_rfl) (fun _ _ _ h => h) (v := vI (IntKind.i64.wrap ((x.bef.getD (k % x.bef.length) 0) : Int))) (fun _ => Yl.pure (by kernel_rfl)) fun a HF => ?_
   replace HF := HF.sp 37 (vI (x.bef.getD (k % x.bef.length) 0)) rfl (qi rfl (by omega))
   refine ap HF (fun _ => HS) [10] #[true, true, true, true, true, true, true, true, true, true, true, false] [(38, vP g8 11)] fun a HF => ?_
   refine qj [11] (by kernel_rfl) rfl ?_
   refine all_cons ?_ all_nil
   refine qm HF (i := 11) rfl rfl ?_
   refine qo HF HM (i := 0) rfl rfl rfl rfl (by kernel_rfl) rfl rfl (by simp) ?_
   clear HM; intro w7_11 HM
   refine noS (by kernel_rfl) ?_
   refine qn (by kernel_rfl) ?_
   refine qa ?_
   refine fp HF 1 0 [(39, .slice Ak k ck)] fun a HF => ?_
   refine fy HF HM 1 rfl rfl rfl (v := .agg #[vI ((x.es.getD k Ev.zero).seq), vI ((x.es.getD k Ev.zero).time), vB ((x.es.getD k Ev.zero).cpu), vB ((x.es.getD k Ev.zero).kind), vI ((x.es.getD k Ev.zero).task), vI ((x.es.getD k Ev.zero).group), vI ((x.es.getD k Ev.zero).to), vI ((x.es.getD k Ev.zero).weight), vI ((x.es.getD k Ev.zero).ticks), vQ ((x.es.getD k Ev.zero).mask), vI ((x.es.getD k Ev.zero).got), vI (x.bef.getD (k % x.bef.length) 0)]) (Yl.zg rfl rfl si_it rfl (fun _ h => qd (h.blk (i := 0) rfl))) fun a HF => ?_
   refine fo HF 2 rfl rfl ?_
   refine qar HF HM (vs := [(0, .agg #[vI ((x.es.getD k Ev.zero).seq), vI ((x.es.getD k Ev.zero).time), vB ((x.es.getD k Ev.zero).cpu), vB ((x.es.getD k Ev.zero).kind), vI ((x.es.getD k Ev.zero).task), vI ((x.es.getD k Ev.zero).group), vI ((x.es.getD k Ev.zero).to), vI ((x.es.getD k Ev.zero).weight), vI ((x.es.getD k Ev.zero).ticks), vQ ((x.es.getD k Ev.zero).mask), vI ((x.es.getD k Ev.zero).got), vI (x.bef.getD (k % x.bef.length) 0)])]) (cs := #[vI ((x.es.getD k Ev.zero).seq), vI ((x.es.getD k Ev.zero).time), vB ((x.es.getD k Ev.zero).cpu), vB ((x.es.getD k Ev.zero).kind), vI ((x.es.getD k Ev.zero).task), vI ((x.es.getD k Ev.zero).group), vI ((x.es.getD k Ev.zero).to), vI ((x.es.getD k Ev.zero).weight), vI ((x.es.getD k Ev.zero).ticks), vQ ((x.es.getD k Ev.zero).mask), vI ((x.es.getD k Ev.zero).got), vI (x.bef.getD (k % x.bef.length) 0)]) rfl ei_it (by decide) rfl (by kernel_rfl) rfl (by decide) ?_
   clear HF HM; intro a w41 g41 HF HM
   refine fo HF 3 rfl rfl ?_
   refine qac HF HM (i := 3) rfl ei_it rfl rfl rfl (news := (itL (⟨(x.es.getD k Ev.zero), ((x.bef.getD (k % x.bef.length) 0) : Int)⟩ : It))) (HM.rdBlk (i := 0) (n := 1) (size := 12) rfl rfl) (qnq _) (by omega) (by omega) rfl (by decide) ?_
   clear HF HM; intro a w42 A42 c42 HF HM hc42
   refine fp HF 1 4 [(5, .slice A42 (k + 1) c42)] fun a HF => ?_
   refine qb rfl ?_
   replace HM := HM.asRow (i := 3) (ys := (qb8 x.bef x.es (k + 1)).flatMap itL) rfl (by rw [qhn, List.flatMap_append, hba]; simp)
   refine qa ?_
   refine fp HF 1 0 [(43, vI (IntKind.i64.wrap ((k : Int) + 1)))] fun a HF => ?_
   replace HF := HF.sp 43 (vI (k + 1 : Nat)) rfl (qi (by omega) (by omega))
   refine fp HF 1 1 [(17, vI (k + 1 : Nat))] fun a HF => ?_
   refine qb rfl ?_
   exact ⟨_, (by omega), k + 1, A42, c42, by omega, hc42, rfl, HF.sub (by kernel_rfl), HM.picks [3, 4, 5] (by decide) rfl⟩
  have hd27 := of_decide_eq_false hb27
  have hba : befAt x.bef k = 0 := if_pos (by omega)
  refine qe HF rfl (wp_skip (qa ?_))
  refine fp HF 1 0 [(39, .slice Ak k ck)] fun a HF => ?_
  refine fy HF HM 1 rfl rfl rfl (v := .agg #[vI ((x.es.getD k Ev.zero).seq), vI ((x.es.getD k Ev.zero).time), vB ((x.es.getD k Ev.zero).cpu), vB ((x.es.getD k Ev.zero).kind), vI ((x.es.getD k Ev.zero).task), vI ((x.es.getD k Ev.zero).group), vI ((x.es.getD k Ev.zero).to), vI ((x.es.getD k Ev.zero).weight), vI ((x.es.getD k Ev.zero).ticks), vQ ((x.es.getD k Ev.zero).mask), vI ((x.es.getD k Ev.zero).got), vI 0]) (Yl.zg rfl rfl si_it rfl (fun _ h => qd (h.blk (i := 0) rfl))) fun a HF => ?_
  refine fo HF 2 rfl rfl ?_
  refine qar HF HM (vs := [(0, .agg #[vI ((x.es.getD k Ev.zero).seq), vI ((x.es.getD k Ev.zero).time), vB ((x.es.getD k Ev.zero).cpu), vB ((x.es.getD k Ev.zero).kind), vI ((x.es.getD k Ev.zero).task), vI ((x.es.getD k Ev.zero).group), vI ((x.es.getD k Ev.zero).to), vI ((x.es.getD k Ev.zero).weight), vI ((x.es.getD k Ev.zero).ticks), vQ ((x.es.getD k Ev.zero).mask), vI ((x.es.getD k Ev.zero).got), vI 0])]) (cs := #[vI ((x.es.getD k Ev.zero).seq), vI ((x.es.getD k Ev.zero).time), vB ((x.es.getD k Ev.zero).cpu), vB ((x.es.getD k Ev.zero).kind), vI ((x.es.getD k Ev.zero).task), vI ((x.es.getD k Ev.zero).group), vI ((x.es.getD k Ev.zero).to), vI ((x.es.getD k Ev.zero).weight), vI ((x.es.getD k Ev.zero).ticks), vQ ((x.es.getD k Ev.zero).mask), vI ((x.es.getD k Ev.zero).got), vI 0]) rfl ei_it (by decide) rfl (by kernel_rfl) rfl (by decide) ?_
  clear HF HM; intro a w41 g41 HF HM
  refine fo HF 3 rfl rfl ?_
  refine qac HF HM (i := 3) rfl ei_it rfl rfl rfl (news := (itL (⟨(x.es.getD k Ev.zero), 0⟩ : It))) (HM.rdBlk (i := 0) (n := 1) (size := 12) rfl rfl) (qnq _) (by omega) (by omega) rfl (by decide) ?_
  clear HF HM; intro a w42 A42 c42 HF HM hc42
  refine fp HF 1 4 [(5, .slice A42 (k + 1) c42)] fun a HF => ?_
  refine qb rfl ?_
  replace HM := HM.asRow (i := 3) (ys := (qb8 x.bef x.es (k + 1)).flatMap itL) rfl (by rw [qhn, List.flatMap_append, hba]; simp)
  refine qa ?_
  refine fp HF 1 0 [(43, vI (IntKind.i64.wrap ((k : Int) + 1)))] fun a HF => ?_
  replace HF := HF.sp 43 (vI (k + 1 : Nat)) rfl (qi (by omega) (by omega))
  refine fp HF 1 1 [(17, vI (k + 1 : Nat))] fun a HF => ?_
  refine qb rfl ?_
  exact ⟨_, (by omega), k + 1, A42, c42, by omega, hc42, rfl, HF.sub (by kernel_rfl), HM.picks [3, 4, 5] (by decide) rfl⟩
 have hd18 := of_decide_eq_false hb18
 have hkn : k = x.es.length := by omega
 refine qe HF rfl (wp_exit (wp_seq ?_))
 refine qaf HM [.row (.slice Ak k ck) k ((qb8 x.bef x.es k).flatMap itL) 47 12, .row (.slice A15 x.es.length c15) x.es.length (x.es.flatMap evL) 45 11, .blk g1 (x.cells A c A2 c2) 31] [0, 1, 2] [] fun HM HS => ?_
 refine ap HF (fun _ => HS) [0, 3, 4] #[true, false, false, true, true, false, false, false, false, false] [(48, vP g1 5), (47, .slice Ak k ck), (44, vP g1 0)] fun a HF => ?_
 refine ay HF HS 1 rfl rfl rfl (v := vB x.cpu) (Yl.qh rfl rfl (by kernel_rfl) (fun _ h => h.cell (i := 2) rfl (rfl))) fun a HF => ?_
 refine qp HF (fun _ => HS) (i := 2) rfl rfl (d := 46) rfl (by decide) (by kernel_rfl) (fun _ _ _ h => h) (v := vB (Int.tmod (x.cpu : Int) 64)) (fun _ => Yl.pure (by kernel_rfl)) fun a HF => ?_
 replace HF := HF.sp 46 (vB (x.cpu % 64 : Nat)) rfl (qao .u8 _ 64)
 refine ap HF (fun _ => HS) [7, 8] #[true, true, true, true, true, false, false, true, true, false] [(3, .slice Ak k ck), (2, vB (x.cpu % 64 : Nat))] fun a HF => ?_
 refine ay HF HS 5 rfl rfl rfl (v := vW x.opn) (Yl.qh rfl rfl (by kernel_rfl) (fun _ h => h.cell (i := 2) rfl (rfl))) fun a HF => ?_
 refine qp HF (fun _ => HS) (i := 6) rfl rfl (d := 50) rfl (by decide) (by kernel_rfl) (fun _ _ _ h => h) (v := vI (IntKind.i64.wrap (x.opn : Int))) (fun _ => Yl.pure (by kernel_rfl)) fun a HF => ?_
 replace HF := HF.sp 50 (vI x.opn) rfl (qi rfl (by omega))
 refine ap HF (fun _ => HS) [9] #[true, true, true, true, true, true, true, true, true, true] [(4, vI x.opn)] fun a HF => ?_
 refine qn (by kernel_rfl) ?_
 refine wp_ret ?_
 exact ret3 rfl HF (.tmp HF rfl) (.tmp HF rfl) (.tmp HF rfl) (qs7 (HM.own (i := 0) rfl) hkn hck HM.below)
end Go.Proofs.YtfeheccoijnbaaaDoor
