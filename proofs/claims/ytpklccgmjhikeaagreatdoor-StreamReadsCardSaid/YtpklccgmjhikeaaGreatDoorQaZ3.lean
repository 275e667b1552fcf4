/- Parts. -/
import Derived.Test.YtpklccgmjhikeaaGreatDoorQaRef01
import Derived.Test.YtpklccgmjhikeaaGreatDoorQaZ2
set_option linter.all false
set_option maxRecDepth 100000
set_option maxHeartbeats 1000000
namespace Go.Proofs.YtpklccgmjhikeaaGreatDoor
open Go.RowKit
theorem qe4 (A : Option Addr) (n c : Nat) (l : List It) (w : World) (hr : Rd w w.heap.size 12 A n (l.flatMap itL)) (hln : l.length = n) (hn : n ≤ 1000000) :
    Calls Tryz.prog 48 #[.slice A n c] w fun r w' => (∃ A c, r = .returned (.slice A n c) ∧ w'.ownsRow w.heap.size 35 11 (.slice A n c) n ((evsI l).flatMap evL) ∧ n ≤ c) ∧ Below w.heap.size w w' := by
 refine (JN1 Tryz.func48 19) ?_
 refine (JP∘Jp 1∘Jr∘Jp 1∘Jq) fun a Z HM => ?_
 replace HM := HM.nil 35 11
 refine Jb Z HM ((JG∘JQ∘JP∘Jp 1∘Jl∘Jp 1∘Jj∘JB) fun a Z HM => ?_)
 refine qi (fun mS aS wS => ∃ (k : Nat) (Ak : Option Addr) (ck : Nat), (k ≤ n) ∧ (k ≤ ck) ∧ mS = n - k ∧ Fr aS 19 [] [(8, vI k), (7, vI n), (6, .slice A n c), (3, .slice Ak k ck), (2, vN)] ∧ Mem w wS [.row (.slice Ak k ck) k ((evsI (l.take k)).flatMap evL) 35 11]) (m := n - 0) ⟨0, none, 0, Nat.zero_le _, Nat.le_refl _, rfl, Z.sub kr, HM.pk [0]⟩ ?_
 clear Z HM; rintro mS a w_ ⟨k, Ak, ck, hk, hck, rfl, Z, HM⟩
 refine Jb Z HM ((JP∘Jp 1∘Jj∘JQ) (Ju (fun hb9 => ?_) fun hb9 => ?_))
 ·
  intro a Z HM
  have hd9 := of_decide_eq_true hb9
  have hk9 : k < n := by omega
  refine Jb Z HM ((JT∘JS'∘JQ∘JB∘JP) ?_)
  repeat (first | clear Z | clear HM)
  intro a Z HM
  obtain ⟨gA, oA, rfl, _⟩ := hr.qt (Nat.lt_of_le_of_lt (Nat.zero_le _) (show k < n from by omega)) de
  refine Jb Z HM ((Jy (v := vP gA (oA + k * 12)) (h:=by exact Yl.ix gA oA k 12 rfl rfl rfl)∘Jy (v := .agg ((l.getD k It.zero).cells)) (h:=by exact Yl.qr rfl rfl si_it rfl (fun _ h => (h.old hr).qah qdw ((getD_at It.zero (k := k) (by first | omega | (simp; omega))))))∘JA #[vI 0, vI 0, vB 0, vB 0, vI 0, vI 0, vI 0, vI 0, vI 0, vQ 0, vI 0, vI 0]) fun w5 g5 => (JV si_it O0' (h1:=by exact qz9 (l.getD k It.zero))) fun w4_3 => (Jd2∘Jj∘JR∘Jp 1∘Jf 0∘Jy (v := .agg #[vI ((l.getD k It.zero).e.seq), vI ((l.getD k It.zero).e.time), vB ((l.getD k It.zero).e.cpu), vB ((l.getD k It.zero).e.kind), vI ((l.getD k It.zero).e.task), vI ((l.getD k It.zero).e.group), vI ((l.getD k It.zero).e.to), vI ((l.getD k It.zero).e.weight), vI ((l.getD k It.zero).e.ticks), vQ ((l.getD k It.zero).e.mask), vI ((l.getD k It.zero).e.got)]) (h:=by exact Yl.qr rfl rfl ⟨kr, kr⟩ rfl (fun _ h => h.sub (i := 0) rfl 0 rfl))) fun a Z HM => ?_)
  refine fo Z 3 rfl rfl (s_el Z HM ei_ev [(0, .agg #[vI ((l.getD k It.zero).e.seq), vI ((l.getD k It.zero).e.time), vB ((l.getD k It.zero).e.cpu), vB ((l.getD k It.zero).e.kind), vI ((l.getD k It.zero).e.task), vI ((l.getD k It.zero).e.group), vI ((l.getD k It.zero).e.to), vI ((l.getD k It.zero).e.weight), vI ((l.getD k It.zero).e.ticks), vQ ((l.getD k It.zero).e.mask), vI ((l.getD k It.zero).e.got)])] #[vI ((l.getD k It.zero).e.seq), vI ((l.getD k It.zero).e.time), vB ((l.getD k It.zero).e.cpu), vB ((l.getD k It.zero).e.kind), vI ((l.getD k It.zero).e.task), vI ((l.getD k It.zero).e.group), vI ((l.getD k It.zero).e.to), vI ((l.getD k It.zero).e.weight), vI ((l.getD k It.zero).e.ticks), vQ ((l.getD k It.zero).e.mask), vI ((l.getD k It.zero).e.got)] ?_)
  clear Z HM; intro a w15 g15 Z HM
  refine fo Z 4 rfl rfl (qn Z HM (i := 2) rfl ei_ev rfl rfl rfl (news := (evL (l.getD k It.zero).e)) (HM.rdBlk (i := 0) (n := 1) (size := 11) rfl rfl) (zd _) om om rfl de ?_)
  clear Z HM; intro a w16 A16 c16 Z HM hc16
  rw [show ((evsI (l.take k)).flatMap evL) ++ (evL (l.getD k It.zero).e) = ((evsI (l.take (k + 1))).flatMap evL) from by rw [qrz om]] at HM
  refine Jb Z HM ((Jp 1∘Jd5∘Jj∘JR∘JaK 1∘Jp 1∘Jd1∘Jq) fun a Z HM => ?_)
  exact ⟨_, om, k + 1, A16, c16, by omega, hc16, rfl, Z.sub kr, HM.pk [2]⟩
 intro a Z HM
 have hd9 := of_decide_eq_false hb9
 have hkn : k = n := by omega
 exact Jb Z HM ((JF∘JX∘JG∘JP∘Jp 2∘Jd1∘Jj∘JZ∘Jz1) fun HM => by exact ⟨⟨Ak, ck, by rw [hkn], by have h := HM.own (i := 0) rfl; rw [hkn, List.take_of_length_le om] at h; exact h, by omega⟩, HM.below⟩)
theorem qkj (A : Option Addr) (n c : Nat) (l : List It) (w : World) (hr : Rd w w.heap.size 12 A n (l.flatMap itL)) (hln : l.length = n) (hn : n ≤ 1000000) :
    Calls Tryz.prog 49 #[.slice A n c] w fun r w' => (∃ A c, r = .returned (.slice A n c) ∧ w'.ownsRow w.heap.size 3 1 (.slice A n c) n ((befI l).map I64i) ∧ n ≤ c) ∧ Below w.heap.size w w' := by
 refine (JN1 Tryz.func49 19) ?_
 refine (JP∘Jp 1∘Jr∘Jp 1∘Jq) fun a Z HM => ?_
 replace HM := HM.nil 3 1
 refine Jb Z HM ((JG∘JQ∘JP∘Jp 1∘Jl∘Jp 1∘Jj∘JB) fun a Z HM => ?_)
 refine qi (fun mS aS wS => ∃ (k : Nat) (Ak : Option Addr) (ck : Nat), (k ≤ n) ∧ (k ≤ ck) ∧ mS = n - k ∧ Fr aS 19 [] [(8, vI k), (7, vI n), (6, .slice A n c), (3, .slice Ak k ck), (2, vN)] ∧ Mem w wS [.row (.slice Ak k ck) k ((befI (l.take k)).map I64i) 3 1]) (m := n - 0) ⟨0, none, 0, Nat.zero_le _, Nat.le_refl _, rfl, Z.sub kr, HM.pk [0]⟩ ?_
 clear Z HM; rintro mS a w_ ⟨k, Ak, ck, hk, hck, rfl, Z, HM⟩
 refine Jb Z HM ((JP∘Jp 1∘Jj∘JQ) (Ju (fun hb9 => ?_) fun hb9 => ?_))
 ·
  intro a Z HM
  have hd9 := of_decide_eq_true hb9
  have hk9 : k < n := by omega
  refine Jb Z HM ((JT∘JS'∘JQ∘JB∘JP) ?_)
  repeat (first | clear Z | clear HM)
  intro a Z HM
  obtain ⟨gA, oA, rfl, _⟩ := hr.qt (Nat.lt_of_le_of_lt (Nat.zero_le _) (show k < n from by omega)) de
  refine Jb Z HM ((Jy (v := vP gA (oA + k * 12)) (h:=by exact Yl.ix gA oA k 12 rfl rfl rfl)∘Jy (v := .agg ((l.getD k It.zero).cells)) (h:=by exact Yl.qr rfl rfl si_it rfl (fun _ h => (h.old hr).qah qdw ((getD_at It.zero (k := k) (by first | omega | (simp; omega))))))∘JA #[vI 0, vI 0, vB 0, vB 0, vI 0, vI 0, vI 0, vI 0, vI 0, vQ 0, vI 0, vI 0]) fun w5 g5 => (JV si_it O0' (h1:=by exact qz9 (l.getD k It.zero))) fun w4_3 => (Jd2∘Jj∘JR∘Jp 1∘Jg 11 O0) fun a Z HM => ?_)
  refine fo Z 3 rfl rfl (s_el Z HM qpv [(0, vI ((l.getD k It.zero).before))] #[vI ((l.getD k It.zero).before)] ?_)
  clear Z HM; intro a w15 g15 Z HM
  refine fo Z 4 rfl rfl (qn Z HM (i := 2) rfl qpv rfl rfl rfl (news := [I64i (l.getD k It.zero).before]) (HM.rdBlk (i := 0) (n := 1) (size := 1) rfl rfl) (by intro v hv; simp at hv; subst hv; rfl) om om rfl de ?_)
  clear Z HM; intro a w16 A16 c16 Z HM hc16
  rw [show ((befI (l.take k)).map I64i) ++ [I64i (l.getD k It.zero).before] = ((befI (l.take (k + 1))).map I64i) from by rw [qr0 om]] at HM
  refine Jb Z HM ((Jp 1∘Jd4∘Jj∘JR∘JaK 1∘Jp 1∘Jd1∘Jq) fun a Z HM => ?_)
  exact ⟨_, om, k + 1, A16, c16, by omega, hc16, rfl, Z.sub kr, HM.pk [2]⟩
 intro a Z HM
 have hd9 := of_decide_eq_false hb9
 have hkn : k = n := by omega
 exact Jb Z HM ((JF∘JX∘JG∘JP∘Jp 2∘Jd1∘Jj∘JZ∘Jz1) fun HM => by exact ⟨⟨Ak, ck, by rw [hkn], by have h := HM.own (i := 0) rfl; rw [hkn, List.take_of_length_le om] at h; exact h, by omega⟩, HM.below⟩)
theorem qpp (cpu : Nat) (A : Option Addr) (n c : Nat) (l : List It) (opn : Int) (hok : ∀ x ∈ l, x.Ok) (ho : I64 opn) (B : Nat) (w : World) (hL : LaidX B w) (hB : B ≤ w.heap.size) (hr : Rd w w.heap.size 12 A n (l.flatMap itL)) (hln : l.length = n) (hn : n ≤ 1000000) :
    Calls Tryz.prog 46 #[vB cpu, .slice A n c, vI opn] w (Is w (.bool (qax cpu l opn))) := by
 refine (JN3 Tryz.func46 53) ?_
 refine (JP∘Jp 1∘Jj∘JQ∘JP∘Jp 1∘JK (h:=by exact fun HM => qe4 A n c l _ (HM.old hr) (hln) om)) fun A14 c14 w14 hc14 => (JL (h:=by exact fun HM => qzw A14 n c14 (evsI l) (q1d hok) B _ (hL.mem HM hB).laid (HM.le hB) (HM.rd (i := 0) rfl) om (i := (rowR (evsI l)).1) (er := (rowR (evsI l)).2) rfl)) ?_
 rintro HM _ w15 ⟨rfl, hbw⟩
 refine ⟨_, rfl, _, HM.call hbw, ?_⟩
 refine (Jp 1∘Jx∘Jx∘Jp 2∘Jd6∘Jr∘Jp 2∘Jd3∘Jj) (Jh (fun hd19 => ?_) fun hd19 => ?_)
 ·
  exact (JT∘JP∘Jp 1∘Jj∘JZ∘Jz1) fun HM => by exact ⟨by rw [qo7 om], HM.below⟩
 refine (JF∘JS'∘JP∘Jp 1∘Jj∘JQ∘JP∘Jp 1) fun a Z HM => ?_
 refine fo Z 1 rfl rfl (s_el Z HM qpv [(0, vI opn)] #[vI opn] ?_)
 clear Z HM; intro a w21 g21 Z HM
 refine Jb Z HM ((Jp 1∘JK (h:=by exact fun HM => qkj A n c l _ (HM.old hr) (hln) om)) fun A23 c23 w23 hc23 => fun a Z HM => ?_)
 refine fo Z 4 rfl rfl ?_
 replace HM := HM.blkRow (i := 1) (n := 1) (size := 1) rfl rfl de
 refine qn Z HM (i := 1) rfl qpv rfl rfl rfl (news := ((befI l).map I64i)) (HM.rd (i := 0) rfl) (qyy _) om om rfl de ?_
 clear Z HM; intro a w24 A24 c24 Z HM hc24
 rw [show ((#[vI opn]).toList) ++ ((befI l).map I64i) = (opn :: befI l).map I64i from rfl] at HM
 refine Jb Z HM ((Jl∘Jp 1∘Jq) fun a Z HM => ?_)
 have hxl : (opn :: befI l).length = 1 + n := by rw [List.length_cons, qqm]; omega
 refine Jb Z HM ((JG∘JB∘JM (.f (.t (.f .n)))) fun a Z HM => ?_)
 refine qi (fun mS aS wS => ∃ (k : Nat) (r : Int), (k ≤ 1 + n) ∧ (0 ≤ r) ∧ (r ≤ 281474976710656) ∧ (qb4 qeh (opn :: befI l) = qb4 r ((opn :: befI l).drop k)) ∧ mS = 1 + n - k ∧ Fr aS 53 [] [(26, vI k), (25, vI (1 + n : Nat)), (24, .slice A24 (1 + n) c24), (9, vI r), (19, .bool false), (6, .bool false), (0, vB cpu), (1, .slice A n c)] ∧ Mem w wS [.row (.slice A24 (1 + n) c24) (1 + n) ((opn :: befI l).map I64i) 3 1]) (m := 1 + n - 0) ⟨0, 281474976710656, Nat.zero_le _, by omega, Int.le_refl _, rfl, rfl, Z.sub kr, HM.pk [0]⟩ ?_
 clear Z HM; rintro mS a w_ ⟨k, r, hk, hr0, hr1, hroom, rfl, Z, HM⟩
 refine Jb Z HM ((JP∘Jp 1∘Jj∘JQ) (Ju (fun hb27 => ?_) fun hb27 => ?_))
 ·
  intro a Z HM
  have hd27 := of_decide_eq_true hb27
  have hk27 : k < 1 + n := by omega
  have hat := qvq (xs := opn :: befI l) (k := k) (r := r) om
  refine Jb Z HM ((JT∘JS'∘JQ∘JB∘JP) ?_)
  repeat (first | clear Z | clear HM)
  intro a Z HM
  obtain ⟨gA24, rfl⟩ := qaf (HM.own (i := 0) rfl) (Nat.lt_of_le_of_lt (Nat.zero_le _) (show k < 1 + n from by omega))
  refine Jb Z HM ((Jy (v := vP gA24 (k * 1)) (h:=by exact Yl.ix0 gA24 k 1 rfl rfl rfl)∘Jy (v := vI ((opn :: befI l).getD k 0)) (h:=by exact Yl.r1 0 k 0 (by first | omega | (simp; omega)) rfl rfl rfl)∘Jp 1∘Jd2∘Jj∘JQ∘JP∘Jp 3) (Ji (fun hd32 => ?_) fun hd32 => ?_))
  ·
   exact (Jp 4∘Jd6∘Jj∘JT∘JP∘Jp 1∘Jj∘JZ∘Jz1) fun HM => by exact ⟨by rw [qhr (by rw [hroom, hat, decide_eq_false om, Bool.false_and])], HM.below⟩
  refine (Jp 4∘Jd6∘Jj) (Ju (fun hb36 => ?_) fun hb36 => ?_)
  ·
   intro a Z HM
   have hd36 := of_decide_eq_true hb36
   exact Jb Z HM ((JT∘JP∘Jp 1∘Jj∘JZ∘Jz1) fun HM => by exact ⟨by rw [qhr (by rw [hroom, hat, decide_eq_false om, Bool.false_and])], HM.below⟩)
  intro a Z HM
  have hd36 := of_decide_eq_false hb36
  have hat2 : qb4 qeh (opn :: befI l) = qb4 (r - ((opn :: befI l).getD k 0)) ((opn :: befI l).drop (k + 1)) := by rw [hroom, hat, decide_eq_true ⟨by omega, by omega⟩, Bool.true_and]
  refine Jb Z HM ((JF∘JS'∘JR∘Jp 3∘Jo (vI (r - ((opn :: befI l).getD k 0))) (by exact qp9 ⟨by omega, by omega⟩)∘Jp 1∘Jd3∘Jj∘JR∘JaK 1∘Jp 1∘Jd1∘Jq) fun a Z HM => ?_)
  exact ⟨_, om, k + 1, (r - ((opn :: befI l).getD k 0)), by omega, by omega, by omega, hat2, rfl, Z.sub kr, HM.pk [0]⟩
 intro a Z HM
 have hd27 := of_decide_eq_false hb27
 have hkn : k = 1 + n := by omega
 have hrt : qb4 qeh (opn :: befI l) = true := by rw [hroom, List.drop_of_length_le om]; rfl
 refine Jb Z HM ((JF∘JX∘JG∘JP∘Jp 1∘Jl∘Jp 2) (Je (fun hd44 => ?_) fun hd44 => ?_))
 ·
  exact (Jv 9 [(6, .bool true)]∘Jd4∘Jj∘JZ∘Jz1) fun HM => by exact ⟨by rw [qki om hrt, qvr om], HM.below⟩
 refine (Jp 1) ?_
 repeat (first | clear Z | clear HM)
 intro a Z HM
 obtain ⟨gA, oA, rfl, _⟩ := hr.qt (Nat.lt_of_le_of_lt (Nat.zero_le _) (show 0 < n from by omega)) de
 exact Jb Z HM ((Jy (v := vP gA oA) (h:=by exact Yl.indexAddr (ad := ⟨gA, oA, none⟩) (y := 0) (sz := 12) rfl rfl rfl om kr)∘Jf 0∘Jf 2∘Jy (v := vB ((l.getD 0 It.zero).e.cpu)) (h:=by exact Yl.qx rfl rfl kr (fun _ h => (h.old hr).partAt qdw (k := 0) (j := 2) (x := (l.getD 0 It.zero)) ((getD_at It.zero (k := 0) (by first | omega | (simp; omega)))) rfl))∘Jp 4∘Jd6∘Jj∘JZ∘Jz1) fun HM => by exact ⟨by rw [qki om hrt, qr1 om]; congr 2; rw [Bool.eq_iff_iff, beq_iff_eq, decide_eq_true_eq]; omega, HM.below⟩)
theorem qq7 (cpu : Nat) (A : Option Addr) (n c : Nat) (l : List It) (opn : Int) (k : Nat) (hG : GoodI cpu l opn) (hk : k ≤ n) (g1 g2 g3 : Nat) (w : World) (hg1 : w.heap[g1]? = some (.cells #[vB cpu] 5 (0, 0))) (hg2 : w.heap[g2]? = some (.cells #[.slice A n c] 26 (0, 0))) (hg3 : w.heap[g3]? = some (.cells #[vI opn] 3 (0, 0))) (hr : Rd w w.heap.size 12 A l.length (l.flatMap itL)) (hc : n ≤ c) (hln : l.length = n) (hn : n ≤ 1000000) :
    Calls Tryz.prog 47 #[vI k, vP g1 0, vP g2 0, vP g3 0] w (q2z w (ofB cpu l opn k)) := by
 refine (JN4 Tryz.func47 40) ?_
 refine (JP∘JA #[vB 0, vB 0, vI 0, vI 0, vN]) fun w5 g5 => (Jj) fun a Z HM => ?_
 refine zk (fun aS wS => ∃ (A13 : Option Addr) (c13 : Nat) (g6 : Nat), Fr aS 40 [] [(6, vP g6 0), (5, vP g5 0), (0, vI k), (2, vP g2 0), (3, vP g3 0)] ∧ Mem w wS [.blk g6 #[vB 1, vB cpu, vI 0, vI 0, .slice A13 k c13] 60, .row (.slice A13 k c13) k ((evsI (l.take k)).flatMap evL) 35 11, .blk g5 #[vB 0, vB 0, vI 0, vI 0, vN] 60] ∧ (k ≤ c13)) ?_ ?_
 ·
  refine Jb Z HM ((Vs .n [7]) fun wd1 => (Vp [2]∘Vy 0 (v := vB cpu) (h:=by exact Yl.qx rfl rfl kr (fun _ h => h.zh hg1 rfl))∘Vy 1 (v := .slice A n c) (h:=by exact Yl.qx rfl rfl kr (fun _ h => h.zh hg2 rfl))∘Vy 3 (v := .slice A k c) (h:=by exact Yl.zl ei_it (j := k) rfl rfl rfl om)) fun a Z HM HS => ?_)
  refine qcl [4, 6] kr rfl ?_
  refine all_cons ?_ ?_
  ·refine qa8 Z (i := 4) rfl rfl ?_
   refine s_ek Z HM [.slice A k c] (qe4 A k c (l.take k) _ (HM.old (Rd.qw9 qdw hr om)) (by rw [List.length_take]; omega) om) fun A13 c13 w13 hc13 HM a Z => ?_
   refine keepS (HM.pk [1]) (fun HS => ?_)
   refine Vb Z HM HS ((Vy 5 (v := .agg #[vB 1, vB cpu, vI 0, vI 0, .slice A13 k c13]) (h:=by exact Yl.build (vs := [(0, vB 1), (1, vB cpu), (4, .slice A13 k c13)]) rfl kr kr)∘VA 6 (.f .n) #[vB 0, vB 0, vI 0, vI 0, vN]) fun w6 g6 => fun a Z HM HS => ?_)
   refine s_on Z 7 rfl (e_sa Z HM 0 rfl rfl rfl rfl rfl si_bk rfl rfl (by simp [Value.oneCell']) fun w1_7 HM => ?_)
   refine noS kr ?_
   refine qh kr ?_
   exact ⟨A13, c13, g6, Z.sub kr, HM.pk [0, 1, 2], hc13⟩
  refine all_cons ?_ all_nil
  refine qa8 Z (i := 6) rfl rfl ?_
  refine s_ea Z HM #[vB 0, vB 0, vI 0, vI 0, vN] ?_
  clear Z HM; intro a w6 g6 Z HM
  refine keepS (HM.pk [1]) (fun HS => ?_)
  refine Vb Z HM HS ((VK 4 (.f .n) (h:=by exact fun HM => qe4 A k c (l.take k) _ (HM.old (Rd.qw9 qdw hr om)) (by rw [List.length_take]; omega) om)) fun A13 c13 w13 hc13 => (Vy 5 (v := .agg #[vB 1, vB cpu, vI 0, vI 0, .slice A13 k c13]) (h:=by exact Yl.build (vs := [(0, vB 1), (1, vB cpu), (4, .slice A13 k c13)]) rfl kr kr)) fun a Z HM HS => ?_)
  refine s_on Z 7 rfl (e_sa Z HM 1 rfl rfl rfl rfl rfl si_bk rfl rfl (by simp [Value.oneCell']) fun w1_7 HM => ?_)
  refine noS kr ?_
  refine qh kr ?_
  exact ⟨A13, c13, g6, Z.sub kr, HM.pk [1, 0, 2], hc13⟩
 clear Z HM; rintro a w1 ⟨A13, c13, g6, Z, HM, hc13⟩
 refine Jb Z HM ((JQ∘JP∘Jy (v := .slice A n c) (h:=by exact Yl.qx rfl rfl kr (fun _ h => h.zh hg2 rfl))∘Jp 1∘Jy (v := .slice A k c) (h:=by exact Yl.zl ei_it (j := k) rfl rfl rfl om)∘JK (h:=by exact fun HM => qkj A k c (l.take k) _ (HM.old (Rd.qw9 qdw hr om)) (by rw [List.length_take]; omega) om)) fun A18 c18 w18 hc18 => (Jl∘Jp 1∘Jq) fun a Z HM => ?_)
 have hbl : (befI (l.take k)).length = k := by rw [qqm, List.length_take]; omega
 refine Jb Z HM ((JG∘JB) fun a Z HM => ?_)
 refine qi (fun mS aS wS => ∃ (j : Nat), (j ≤ k) ∧ mS = k - j ∧ Fr aS 40 [] [(20, vI j), (19, vI k), (18, .slice A18 k c18), (6, vP g6 0), (5, vP g5 0), (0, vI k), (2, vP g2 0), (3, vP g3 0)] ∧ Mem w wS [.row (.slice A18 k c18) k ((befI (l.take k)).map I64i) 3 1, .blk g6 #[vB 1, vB cpu, vI (sumI (befI (l.take j))), vI 0, .slice A13 k c13] 60, .row (.slice A13 k c13) k ((evsI (l.take k)).flatMap evL) 35 11, .blk g5 #[vB 0, vB 0, vI 0, vI 0, vN] 60]) (m := k - 0) ⟨0, Nat.zero_le _, rfl, Z.sub kr, HM.pk [0, 1, 2, 3]⟩ ?_
 clear Z HM; rintro mS a w_ ⟨j, hj, rfl, Z, HM⟩
 refine Jb Z HM ((JP∘Jp 1∘Jj∘JQ) (Ju (fun hb21 => ?_) fun hb21 => ?_))
 ·
  intro a Z HM
  have hd21 := of_decide_eq_true hb21
  have hj21 : j < k := by omega
  have ho0 := hG.o0
  have hp0 := hG.part j
  have hp1 := hG.part (j + 1)
  have hps := qi4 (l := l) (k := k) (j := j) om om
  refine Jb Z HM ((JT∘JS'∘JQ∘JB∘JP) ?_)
  repeat (first | clear Z | clear HM)
  intro a Z HM
  obtain ⟨gA18, rfl⟩ := qaf (HM.own (i := 0) rfl) (Nat.lt_of_le_of_lt (Nat.zero_le _) (show j < k from by omega))
  refine Jb Z HM ((Jy (v := vP gA18 (j * 1)) (h:=by exact Yl.ix0 gA18 j 1 rfl rfl rfl)∘Jy (v := vI ((befI (l.take k)).getD j 0)) (h:=by exact Yl.r1 0 j 0 (by first | omega | (simp; omega)) rfl rfl rfl)∘Jp 1∘Jd2∘Jj∘JR∘Jg 2 O1∘Jp 2∘Jo (vI (sumI (befI (l.take (j + 1))))) (by rw [qi4 (k := k) om om]; exact qp9 ⟨by omega, by omega⟩)∘Jf 2∘JW O1' O2') fun w5_5 => (Jt4∘Jj∘JR∘JaK 1∘Jp 1∘Jd1∘Jq) fun a Z HM => ?_)
  exact ⟨_, om, j + 1, by omega, rfl, Z.sub kr, HM.pk [0, 1, 2, 3]⟩
 intro a Z HM
 have hd21 := of_decide_eq_false hb21
 revert HM; revert a; repeat (first | clear Z | clear HM)
 intro a Z HM
 obtain rfl : j = k := by omega
 have hp0 := hG.part j
 have ho0 := hG.o0
 refine Jb Z HM ((JF∘JX∘JG∘JQ∘JP∘Jp 1∘Jy (v := .slice A n c) (h:=by exact Yl.qx rfl rfl kr (fun _ h => h.zh hg2 rfl))∘Jl∘Jp 1∘Jd3∘Jj) (Ju (fun hb33 => ?_) fun hb33 => ?_))
 ·
  intro a Z HM
  have hd33 := eq_of_beq hb33
  have hlo := q1e (cpu := cpu) (opn := opn) (l := l) (k := j) om
  refine Jb Z HM ((JT∘JR∘Jg 2 O1∘Jy (v := vI opn) (h:=by exact Yl.qx rfl rfl kr (fun _ h => h.zh hg3 rfl))∘Jp 1∘Jo (vI ((sumI (befI (l.take j))) + opn)) (by exact qp9 ⟨by omega, by omega⟩)∘Jf 2∘JW O1' O2') fun w8_5 => (Jt4∘Jr∘Jy (v := .agg #[vB 1, vB cpu, vI ((sumI (befI (l.take j))) + opn), vI 0, .slice A13 j c13]) (h:=by exact Yl.qr rfl rfl si_bk rfl (fun _ h => qb (h.blk (i := 1) rfl)))∘JV si_bk O3') fun w9_1 => (Jt1∘Jj∘JZ) fun a Z HM => ?_)
  exact ret1 rfl Z (.cellS (i := 3) Z HM rfl rfl si_bk rfl) (⟨⟨A13, c13, by rw [← qnd om (by rw [hlo])], by rw [qfm om]; exact HM.own (i := 2) rfl, by rw [qfm om]; omega⟩, HM.below⟩)
 intro a Z HM
 have hd33 := ne_of_beq_false hb33
 have hlo := q1f (cpu := cpu) (opn := opn) (l := l) (k := j) om
 refine Jb Z HM ((JF∘JS'∘JP∘Jy (v := .agg #[vB 1, vB cpu, vI (sumI (befI (l.take j))), vI 0, .slice A13 j c13]) (h:=by exact Yl.qr rfl rfl si_bk rfl (fun _ h => qb (h.blk (i := 1) rfl)))∘JV si_bk O3') fun w9_1 => (Jt1∘Jj∘JZ) fun a Z HM => ?_)
 exact ret1 rfl Z (.cellS (i := 3) Z HM rfl rfl si_bk rfl) (⟨⟨A13, c13, by rw [← qnd om (by rw [hlo])], by rw [qfm om]; exact HM.own (i := 2) rfl, by rw [qfm om]; omega⟩, HM.below⟩)
theorem qn7 (A : Option Addr) (n c : Nat) (l : List It) (w : World) (hr : Rd w w.heap.size 12 A n (l.flatMap itL)) (hln : l.length = n) (hn : n ≤ 1000000) :
  Calls Tryz.prog 48 #[.slice A n c] w fun r w' => (∃ A c, r = .returned (.slice A (evsI l).length c) ∧ w'.ownsRow w.heap.size 35 11 (.slice A (evsI l).length c) (evsI l).length ((evsI l).flatMap evL) ∧ (evsI l).length ≤ c) ∧ Below w.heap.size w w' := by
 have e : (evsI l).length = n := by rw [qgf]; exact hln
 rw [e]
 exact qe4 A n c l w hr hln hn
theorem qze (b : Bk) (hok : b.Ok) (hf : b.fits = true) (A : Option Addr) (c B : Nat) (w : World) (hL : LaidX B w) (hB : B ≤ w.heap.size) (hr : Rd w w.heap.size 11 A b.evs.length (b.evs.flatMap evL)) (hn : b.evs.length ≤ 1000000) :
  Calls Tryz.prog 50 #[.agg (b.cells A c)] w (Is w (.tuple #[vI (b.qgp : Int), vI 0])) := by
 have h := qwq b hok A c B w hL hB hr hn
 unfold Bk.fill at h
 rwa [if_neg (by rw [hf]; decide)] at h
theorem qwt (cpu : Nat) (hcpu : cpu < 256) (A : Option Addr) (n c : Nat) (l : List It) (opn limit : Int) (hok : ∀ x ∈ l, x.Ok) (ho : I64 opn) (hlm : I64 limit) (B : Nat) (w : World) (hL : LaidX B w) (hB : B ≤ w.heap.size) (hr : Rd w w.heap.size 12 A n (l.flatMap itL)) (hc : n ≤ c) (hln : l.length = n) (hn : n ≤ 1000000) :
    Calls Tryz.prog 26 #[vB cpu, .slice A n c, vI opn, vI limit] w (qhq 35 60 w (cutS cpu l opn limit).2 (cutS cpu l opn limit).1) := by
 subst hln
 refine (JN4 Tryz.func26 87) ?_
 refine (JP∘Je1) fun w4 g4 => (Je1) fun w5 g5 => (Je1) fun w6 g6 => (Jp 2∘Jj∘JQ∘JB∘JP∘Jc O2∘Jp 2) (Ji (fun hd17 => ?_) fun hd17 => ?_)
 ·
  exact (Jv 8 [(14, .bool true)]∘Jd3∘Jj∘JT∘JP∘Jp 2∘Jj∘JZ∘Jz2) fun HM => by rw [qlr om]; exact qez HM rfl
 refine (Jp 4) (Ji (fun hd21 => ?_) fun hd21 => ?_)
 ·
  exact (Jp 4∘Jd6∘Jj∘JT∘JP∘Jp 2∘Jj∘JZ∘Jz2) fun HM => by rw [qlr om]; exact qez HM rfl
 refine (Jp 4∘Jd6∘Jj) (Ji (fun hd14 => ?_) fun hd14 => ?_)
 ·
  exact (JT∘JP∘Jp 2∘Jj∘JZ∘Jz2) fun HM => by rw [qlr om]; exact qez HM rfl
 refine (JF∘JP∘Jc O2∘Jc O1∘Jc O0∘JI (h:=by exact fun HM => qpp cpu A l.length c l opn hok ho B _ (hL.mem HM hB) (HM.le hB) (HM.old hr) rfl om)) fun w29 hbw => (Jp 2∘Jd5∘Jj) (Ju (fun hb25 => ?_) fun hb25 => ?_)
 ·
  intro a Z HM
  have hbad : qax cpu l opn = false := by simpa using hb25
  exact Jb Z HM ((JT∘JP∘Jp 2∘Jj∘JZ∘Jz2) fun HM => by rw [qry om hbad]; exact qez HM rfl)
 intro a Z HM
 have hgood : qax cpu l opn = true := by simpa using hb25
 have hG := GoodI.of om hok hgood
 refine Jb Z HM ((JF∘JP∘Jc O1∘Jl∘Jp 2) (Je (fun hd35 => ?_) fun hd35 => ?_))
 ·
  refine (Jc O0∘Jp 3∘Jd6∘Jj) (Je (fun hd31 => ?_) fun hd31 => ?_)
  ·
   exact (JT∘JP∘Jp 2∘Jj∘JZ∘Jz2) fun HM => by rw [qvn om hgood om om]; exact qez HM rfl
  refine (JF∘JP∘Jc O1∘Jl∘Jp 2∘Jd3∘Jj) (Ju (fun hb39 => ?_) fun hb39 => ?_)
  ·
   intro a Z HM
   have hd39 := eq_of_beq hb39
   refine Jb Z HM ((JT∘JP∘Jc O2∘Jc O0∘Jy (v := .agg #[vB 1, vB cpu, vI opn, vI 0, vN]) (h:=by exact Yl.build (vs := [(0, vB 1), (1, vB cpu), (2, vI opn)]) rfl kr kr)) fun a Z HM => ?_)
   refine fo Z 3 rfl rfl (s_el Z HM qkh [(0, .agg #[vB 1, vB cpu, vI opn, vI 0, vN])] #[vB 1, vB cpu, vI opn, vI 0, vN] ?_)
   clear Z HM; intro a w46 g46 Z HM
   exact Jb Z HM ((Jp 2∘Jj∘JZ∘Jz2) fun HM => by rw [qvo om hgood om om]; exact qym HM (i := 0) rfl)
  intro a Z HM
  have hd39 := ne_of_beq_false hb39
  exfalso; omega
 refine (Jp 4∘Jd6∘Jj∘JF∘JP∘Jc O1∘Jl∘Jp 2∘Jd3∘Jj) (Ju (fun hb39 => ?_) fun hb39 => ?_)
 ·
  intro a Z HM
  have hd39 := eq_of_beq hb39
  exfalso; omega
 intro a Z HM
 have hd39 := ne_of_beq_false hb39
 refine Jb Z HM ((JF∘JS'∘JP∘Jy (v := .func (.func 47) #[] #[vP g4 0, vP g5 0, vP g6 0]) (h:=by exact Yl.makeFunc (fst := []) (caps := [vP g4 0, vP g5 0, vP g6 0]) rfl rfl rfl)∘Jp 1∘Jd1∘Jr∘Jp 1∘Jq) ?_)
 repeat (first | clear Z | clear HM)
 intro a Z HM
 obtain ⟨lim, rfl⟩ : ∃ k : Nat, limit = (k : Int) := ⟨limit.toNat, by omega⟩
 replace HM := HM.nil 60 5
 replace HM : Mem w _ (.row (vN) 0 [] 60 5 :: .blk g6 #[vI opn] 3 :: .blk g5 #[.slice A l.length c] 26 :: .blk g4 #[vB cpu] 5 :: hbF 35 []) := HM
 refine Jb Z HM ((JG∘JQ∘JB) fun a Z HM => ?_)
 refine qi (fun mS aS wS => ∃ (r : List It) (X : Option Addr) (cc : Nat) (q : List Hb) (f : Nat) (Ao : Option Addr) (co : Nat), (Rd w w.heap.size 12 X r.length (r.flatMap itL)) ∧ (r.length ≤ cc) ∧ (GoodI cpu r opn) ∧ (r.length ≤ l.length) ∧ (r.length ≤ f) ∧ (q.map Hb.b ++ cutGo cpu opn lim f r = cutGo cpu opn lim l.length l) ∧ (q.length ≤ co) ∧ (q.length + r.length ≤ l.length) ∧ mS = r.length ∧ Fr aS 87 [] [(11, .slice Ao q.length co), (10, .func (.func 47) #[] #[vP g4 0, vP g5 0, vP g6 0]), (39, .bool false), (31, .bool false), (25, .bool false), (14, .bool false), (9, vI 0), (8, vN), (6, vP g6 0), (5, vP g5 0), (4, vP g4 0), (3, vI lim)] ∧ Mem w wS (.row (.slice Ao q.length co) q.length (q.flatMap hbL) 60 5 :: .blk g6 #[vI opn] 3 :: .blk g5 #[.slice X r.length cc] 26 :: .blk g4 #[vB cpu] 5 :: hbF 35 q)) (m := l.length) ⟨l, A, c, [], l.length, none, 0, hr, by omega, hG, by omega, Nat.le_refl _, List.nil_append _, Nat.le_refl _, by simp, rfl, Z.sub kr, HM.pt 4 [0, 1, 2, 3]⟩ ?_
 clear Z HM; rintro mS a w_ ⟨r, X, cc, q, f, Ao, co, hX, hcc, hGr, hrn, hf, hq, hco, hql, rfl, Z, HM⟩
 refine Jb Z HM ((JQ∘JP∘Jc O2∘Jl∘Jp 1∘Jd2∘Jj) (Ju (fun hb50 => ?_) fun hb50 => ?_))
 ·
  intro a Z HM
  have hd50 := of_decide_eq_true hb50
  have hr0 : 0 < r.length := by omega
  obtain ⟨m0, hm0⟩ : ∃ m, m = min r.length lim := ⟨_, rfl⟩
  obtain ⟨hmf, hmo, hmb, hmp, hma⟩ := qkg hGr (m := m0) om om
  have hml : (mostB cpu r m0).evs.length = m0 := by show (evsI (r.take m0)).length = m0; rw [qgf, List.length_take]; omega
  have hcf := qvl hGr (limit := lim) om hr0
  rw [← hm0] at hcf
  obtain ⟨hcp, hcl, hce⟩ := qyx hGr (limit := lim) om hr0
  have hst := qrx (cpu := cpu) (limit := lim) (opn := opn) hr0 (f := f) om
  refine Jb Z HM ((JT∘JS'∘JB∘JP∘Jc O2∘Jl∘Jp 1∘Jy (v := vI (if (lim : Int) < (r.length : Int) then (lim : Int) else (r.length : Int))) (h:=by exact Yl.min rfl rfl rfl)∘Jo (vI m0) (by rw [hm0]; congr 1; split <;> omega)∘Jp 1∘Jd4∘Jj) fun a Z HM => ?_)
  refine zk (fun aS wS => ∃ (A59 : Option Addr) (c59 : Nat) (g13 : Nat), Fr aS 87 [] [(13, vP g13 0), (12, vI m0), (50, .bool true), (11, .slice Ao q.length co), (10, .func (.func 47) #[] #[vP g4 0, vP g5 0, vP g6 0]), (39, .bool false), (31, .bool false), (25, .bool false), (14, .bool false), (9, vI 0), (8, vN), (6, vP g6 0), (5, vP g5 0), (4, vP g4 0), (3, vI lim)] ∧ Mem w wS (.blk g13 #[vB 1, vB cpu, vI 0, vI 0, .slice A59 ((evsI (r.take m0)).length) c59] 60 :: .row (.slice A59 ((evsI (r.take m0)).length) c59) ((evsI (r.take m0)).length) ((evsI (r.take m0)).flatMap evL) 35 11 :: .row (.slice Ao q.length co) q.length (q.flatMap hbL) 60 5 :: .blk g6 #[vI opn] 3 :: .blk g5 #[.slice X r.length cc] 26 :: .blk g4 #[vB cpu] 5 :: hbF 35 q) ∧ ((evsI (r.take m0)).length ≤ c59)) ?_ ?_
  ·
   refine Jb Z HM ((Vs .n [7]) fun wd13 => (Vp [2]∘Vc 0 O3∘Vc 1 O2∘Vy 3 (v := .slice X m0 cc) (h:=by exact Yl.zl ei_it (j := m0) rfl rfl rfl om)) fun a Z HM HS => ?_)
   refine qcl [4, 6] kr rfl ?_
   refine all_cons ?_ ?_
   ·refine qa8 Z (i := 4) rfl rfl ?_
    refine s_ek Z HM [.slice X m0 cc] (qn7 X m0 cc (r.take m0) _ (HM.old (Rd.qw9 qdw hX om)) (by rw [List.length_take]; omega) om) fun A59 c59 w59 hc59 HM a Z => ?_
    refine keepS (HM.pt 5 [1, 2, 3, 4]) (fun HS => ?_)
    refine Vb Z HM HS ((Vy 5 (v := .agg #[vB 1, vB cpu, vI 0, vI 0, .slice A59 ((evsI (r.take m0)).length) c59]) (h:=by exact Yl.build (vs := [(0, vB 1), (1, vB cpu), (4, .slice A59 ((evsI (r.take m0)).length) c59)]) rfl kr kr)∘VA 6 (.f .n) #[vB 0, vB 0, vI 0, vI 0, vN]) fun w13 g13 => fun a Z HM HS => ?_)
    refine s_on Z 7 rfl (e_sa Z HM 0 rfl rfl rfl rfl rfl si_bk rfl rfl (by simp [Value.oneCell']) fun w13_7 HM => ?_)
    refine noS kr ?_
    refine qh kr ?_
    exact ⟨A59, c59, g13, Z.sub kr, HM.pt 6 [0, 1, 2, 3, 4, 5], hc59⟩
   refine all_cons ?_ all_nil
   refine qa8 Z (i := 6) rfl rfl ?_
   refine s_ea Z HM #[vB 0, vB 0, vI 0, vI 0, vN] ?_
   clear Z HM; intro a w13 g13 Z HM
   refine keepS (HM.pt 5 [1, 2, 3, 4]) (fun HS => ?_)
   refine Vb Z HM HS ((VK 4 (.f .n) (h:=by exact fun HM => qn7 X m0 cc (r.take m0) _ (HM.old (Rd.qw9 qdw hX om)) (by rw [List.length_take]; omega) om)) fun A59 c59 w59 hc59 => (Vy 5 (v := .agg #[vB 1, vB cpu, vI 0, vI 0, .slice A59 ((evsI (r.take m0)).length) c59]) (h:=by exact Yl.build (vs := [(0, vB 1), (1, vB cpu), (4, .slice A59 ((evsI (r.take m0)).length) c59)]) rfl kr kr)) fun a Z HM HS => ?_)
   refine s_on Z 7 rfl (e_sa Z HM 1 rfl rfl rfl rfl rfl si_bk rfl rfl (by simp [Value.oneCell']) fun w13_7 HM => ?_)
   refine noS kr ?_
   refine qh kr ?_
   exact ⟨A59, c59, g13, Z.sub kr, HM.pt 6 [1, 0, 2, 3, 4, 5], hc59⟩
  clear Z HM; rintro a w13 ⟨A59, c59, g13, Z, HM, hc59⟩
  refine Jb Z HM ((JP∘Jy (v := .agg #[vB 1, vB cpu, vI 0, vI 0, .slice A59 ((evsI (r.take m0)).length) c59]) (h:=by exact Yl.qr rfl rfl si_bk rfl (fun _ h => qb (h.blk (i := 0) rfl)))∘JI (h:=by exact fun HM => qze (mostB cpu r m0) hmo hmf A59 c59 B _ (hL.mem HM hB) (HM.le hB) (HM.rd (i := 1) rfl) (by rw [hml]; omega))) fun w63 hbw => (Jp 1∘Jx∘Jx∘Jp 1∘Jd5∘Jj∘JQ∘JB) fun a Z HM => ?_)
  refine qi (fun mS aS wS => ∃ (m : Nat), (m ≤ r.length) ∧ (cutN cpu r opn lim ≤ m) ∧ (cutN cpu r opn lim = qau (fun n => decide ((ofB cpu r opn n).err = 0)) m) ∧ mS = 0 + m ∧ Fr aS 87 [] [(12, vI m), (13, vP g13 0), (50, .bool true), (11, .slice Ao q.length co), (10, .func (.func 47) #[] #[vP g4 0, vP g5 0, vP g6 0]), (39, .bool false), (31, .bool false), (25, .bool false), (14, .bool false), (9, vI 0), (8, vN), (6, vP g6 0), (5, vP g5 0), (4, vP g4 0), (3, vI lim)] ∧ Mem w wS (.blk g13 #[vB 1, vB cpu, vI 0, vI 0, .slice A59 ((evsI (r.take m0)).length) c59] 60 :: .row (.slice A59 ((evsI (r.take m0)).length) c59) ((evsI (r.take m0)).length) ((evsI (r.take m0)).flatMap evL) 35 11 :: .row (.slice Ao q.length co) q.length (q.flatMap hbL) 60 5 :: .blk g6 #[vI opn] 3 :: .blk g5 #[.slice X r.length cc] 26 :: .blk g4 #[vB cpu] 5 :: hbF 35 q)) (m := 0 + ((mostB cpu r m0).qgp)) ⟨(mostB cpu r m0).qgp, by omega, by rw [hcf]; exact qei _ _, hcf, rfl, Z.sub kr, HM.pt 6 [0, 1, 2, 3, 4, 5]⟩ ?_
  clear Z HM; rintro mS a w_ ⟨m, hm, hmc, hdn, rfl, Z, HM⟩
  refine Jb Z HM ((JQ∘JP∘Jp 2) fun a Z HM => ?_)
  refine fo Z 2 rfl rfl ?_
  refine qcy Z (f := 47) (vs := [vI m]) (fst := []) (caps := [vP g4 0, vP g5 0, vP g6 0]) rfl rfl rfl kr rfl de (qq7 cpu X r.length cc r opn m hGr om g4 g5 g6 _ (HM.blk (i := 5) rfl) (HM.blk (i := 4) rfl) (HM.blk (i := 3) rfl) (HM.old hX) hcc rfl om) ?_
  rintro _ w68 ⟨⟨A68, c68, rfl, ho, hc68⟩, hbw⟩
  refine ⟨_, rfl, ?_⟩
  replace HM := HM.callRow hbw ho
  clear Z; intro a Z
  refine Jb Z HM ((JI (h:=by exact fun HM => qvd (ofB cpu r opn m) (q2q hGr m) A68 c68 B _ (hL.mem HM hB) (HM.le hB) (HM.rd (i := 0) rfl) (by rw [qfm om]; omega) rfl)) fun w69 hbw => (Jp 1∘Jd4∘Jj) (Ju (fun hb70 => ?_) fun hb70 => ?_))
  ·
   intro a Z HM
   have hd70 := bne_iff_ne.1 hb70
   have hdd := qo5 (p := (fun n => decide ((ofB cpu r opn n).err = 0))) (m := m) (by rw [decide_eq_false_iff_not]; omega) om
   have hle := qei (fun n => decide ((ofB cpu r opn n).err = 0)) (m - 1)
   refine Jb Z HM ((JT∘JS'∘JB∘JR∘Jp 1∘JsK 1∘Jp 1∘Jd2∘Jq) fun a Z HM => ?_)
   exact ⟨_, om, (m - 1), by omega, by rw [hdn, hdd]; exact hle, hdn.trans hdd, rfl, Z.sub kr, HM.pt 7 [1, 2, 3, 4, 5, 6]⟩
  intro a Z HM
  have hd70 := bne_eq_false_iff_eq.1 hb70
  have hhere := qo6 (p := (fun n => decide ((ofB cpu r opn n).err = 0))) (m := m) (by rw [decide_eq_true_eq]; omega)
  rw [hdn, hhere] at hst
  refine Jb Z HM ((JF∘JX∘JG∘JP∘Jp 3) fun a Z HM => ?_)
  refine fo Z 3 rfl rfl ?_
  refine qcy Z (f := 47) (vs := [vI m]) (fst := []) (caps := [vP g4 0, vP g5 0, vP g6 0]) rfl rfl rfl kr rfl de (qq7 cpu X r.length cc r opn m hGr om g4 g5 g6 _ (HM.blk (i := 6) rfl) (HM.blk (i := 5) rfl) (HM.blk (i := 4) rfl) (HM.old hX) hcc rfl om) ?_
  rintro _ w76 ⟨⟨A76, c76, rfl, ho, hc76⟩, hbw⟩
  refine ⟨_, rfl, ?_⟩
  replace HM := HM.callRow hbw ho
  clear Z; intro a Z
  refine fo Z 4 rfl rfl (s_el Z HM qkh [(0, .agg ((ofB cpu r opn m).cells A76 c76))] ((ofB cpu r opn m).cells A76 c76) ?_)
  clear Z HM; intro a w77 g77 Z HM
  refine fo Z 5 rfl rfl (qn Z HM (i := 5) rfl qkh rfl rfl rfl (news := (hbL (⟨ofB cpu r opn m, A76, c76⟩ : Hb))) (HM.rdBlk (i := 0) (n := 1) (size := 5) rfl rfl) (qas _ _ _) om om rfl de ?_)
  clear Z HM; intro a w78 A78 c78 Z HM hc78
  refine Jb Z HM ((Jp 1∘Jd6∘Jq) fun a Z HM => ?_)
  have hnA78 : q.length + 1 = (q ++ [(⟨ofB cpu r opn m, A76, c76⟩ : Hb)]).length := by rw [List.length_append]; rfl
  replace HM := HM.reRow (i := 5) (ys := (q ++ [(⟨ofB cpu r opn m, A76, c76⟩ : Hb)]).flatMap hbL) rfl hnA78 (by rw [List.flatMap_append, List.flatMap_cons, List.flatMap_nil, List.append_nil])
  rw [hnA78] at hc78
  replace Z := Z.sp 11 (.slice A78 ((q ++ [(⟨ofB cpu r opn m, A76, c76⟩ : Hb)]).length) c78) rfl (by rw [hnA78])
  replace HM := Mem.q3e (a := [.blk g77 ((ofB cpu r opn m).cells A76 c76) 60, .row (.slice A68 ((ofB cpu r opn m).evs.length) c68) ((ofB cpu r opn m).evs.length) ((ofB cpu r opn m).evs.flatMap evL) 35 11, .blk g13 #[vB 1, vB cpu, vI 0, vI 0, .slice A59 ((evsI (r.take m0)).length) c59] 60, .row (.slice A59 ((evsI (r.take m0)).length) c59) ((evsI (r.take m0)).length) ((evsI (r.take m0)).flatMap evL) 35 11, .row (.slice A78 ((q ++ [(⟨ofB cpu r opn m, A76, c76⟩ : Hb)]).length) c78) ((q ++ [(⟨ofB cpu r opn m, A76, c76⟩ : Hb)]).length) ((q ++ [(⟨ofB cpu r opn m, A76, c76⟩ : Hb)]).flatMap hbL) 60 5, .blk g6 #[vI opn] 3, .blk g5 #[.slice X r.length cc] 26, .blk g4 #[vB cpu] 5]) (q := q) (HM.pt (fs' := (.row (.slice A76 ((ofB cpu r opn m).evs.length) c76) ((ofB cpu r opn m).evs.length) ((ofB cpu r opn m).evs.flatMap evL) 35 11 :: .blk g77 ((ofB cpu r opn m).cells A76 c76) 60 :: .row (.slice A68 ((ofB cpu r opn m).evs.length) c68) ((ofB cpu r opn m).evs.length) ((ofB cpu r opn m).evs.flatMap evL) 35 11 :: .blk g13 #[vB 1, vB cpu, vI 0, vI 0, .slice A59 ((evsI (r.take m0)).length) c59] 60 :: .row (.slice A59 ((evsI (r.take m0)).length) c59) ((evsI (r.take m0)).length) ((evsI (r.take m0)).flatMap evL) 35 11 :: .row (.slice A78 ((q ++ [(⟨ofB cpu r opn m, A76, c76⟩ : Hb)]).length) c78) ((q ++ [(⟨ofB cpu r opn m, A76, c76⟩ : Hb)]).length) ((q ++ [(⟨ofB cpu r opn m, A76, c76⟩ : Hb)]).flatMap hbL) 60 5 :: .blk g6 #[vI opn] 3 :: .blk g5 #[.slice X r.length cc] 26 :: .blk g4 #[vB cpu] 5 :: hbF 35 q)) 9 [1, 0, 2, 3, 4, 5, 6, 7, 8]) rfl
  replace HM : Mem w _ (.blk g77 ((ofB cpu r opn m).cells A76 c76) 60 :: .row (.slice A68 ((ofB cpu r opn m).evs.length) c68) ((ofB cpu r opn m).evs.length) ((ofB cpu r opn m).evs.flatMap evL) 35 11 :: .blk g13 #[vB 1, vB cpu, vI 0, vI 0, .slice A59 ((evsI (r.take m0)).length) c59] 60 :: .row (.slice A59 ((evsI (r.take m0)).length) c59) ((evsI (r.take m0)).length) ((evsI (r.take m0)).flatMap evL) 35 11 :: .row (.slice A78 ((q ++ [(⟨ofB cpu r opn m, A76, c76⟩ : Hb)]).length) c78) ((q ++ [(⟨ofB cpu r opn m, A76, c76⟩ : Hb)]).length) ((q ++ [(⟨ofB cpu r opn m, A76, c76⟩ : Hb)]).flatMap hbL) 60 5 :: .blk g6 #[vI opn] 3 :: .blk g5 #[.slice X r.length cc] 26 :: .blk g4 #[vB cpu] 5 :: hbF 35 (q ++ [(⟨ofB cpu r opn m, A76, c76⟩ : Hb)])) := HM
  refine Jb Z HM ((JG∘JR∘Jc O6∘Jp 1∘Jc O6∘Jl∘Jc O6∘Jl∘Jy (v := .slice (if r.length = m then X else X.map (·.add (m * 12))) (r.length - m) (r.length - m)) (h:=by exact Yl.q29 ei_it (i := m) (j := r.length) (q := r.length) rfl rfl rfl rfl rfl om om om)∘Jo (.slice (if r.length = m then X else X.map (·.add (m * 12))) ((r.drop m).length) ((r.drop m).length)) (by rw [List.length_drop])∘JW O6' O0') fun w18_7 => (Jt6∘Jq) fun a Z HM => ?_)
  exact ⟨_, (by rw [List.length_drop]; omega), (r.drop m), if r.length = m then X else X.map (·.add (m * 12)), (r.drop m).length, (q ++ [(⟨ofB cpu r opn m, A76, c76⟩ : Hb)]), (f - 1), A78, c78, Rd.q3f qdw hX om (Nat.le_refl _), Nat.le_refl _, hGr.drop m, by rw [List.length_drop]; omega, by rw [List.length_drop]; omega, by rw [← hq, hst, List.map_append, List.append_assoc]; rfl, hc78, by rw [List.length_append, List.length_drop, List.length_singleton]; omega, rfl, Z.sub kr, HM.pt 8 [4, 5, 6, 7]⟩
 intro a Z HM
 have hd50 := of_decide_eq_false hb50
 have hq2 : q.map Hb.b = cutGo cpu opn lim l.length l := by rw [← hq, qvm om, List.append_nil]
 refine Jb Z HM ((JF∘JX∘JG∘JP∘Jp 3∘Jj∘JZ) fun a Z HM => ?_)
 replace HM := HM.pt (fs' := (.row (.slice Ao q.length co) q.length (q.flatMap hbL) 60 5 :: hbF 35 q)) 4 [0]
 exact s_rt2 rfl Z rfl rfl (by rw [qvp om hgood om, ← hq2]; exact qu7 HM hco)
theorem qvt : SI Tryz.prog 100 6 := ⟨by kernel_rfl, by kernel_rfl⟩
theorem qkk (W w : World) (gb lp B : Nat) (A : Option Addr) (c : Nat) (l : List Nat) (Inv : List Nat → List Fact → Prop) (Stop : List Fact → Prop) (F0 : List Fact) (hL : LaidX B W) (hB : B ≤ W.heap.size) (hr : Rd W W.heap.size 1 A l.length (l.map B8)) (hc : l.length ≤ c) (hl : ∀ b ∈ l, b < 256) (hn : l.length ≤ 100000000)
    (hy : qg9 W lp Inv Stop) (hI0 : Inv l F0) (HM : Mem W w (.blk gb #[.slice A l.length c] 22 :: F0)) :
    Calls Tryz.prog 64 (.func (.yield lp) #[] #[] :: [vP gb 0]).toArray w (qvs W Inv Stop) := by
 refine s_ce Tryz.func64 [.func (.yield lp) #[] #[], vP gb 0] [(0, .func (.yield lp) #[] #[]), (1, vP gb 0)] fun a Z => ?_
 refine Jb Z HM ((JB) fun a Z HM => ?_)
 refine qi (fun mS aS wS => ∃ (rest : List Nat) (X : Option Addr) (cc : Nat) (F : List Fact), (Inv rest F) ∧ (Rd W W.heap.size 1 X rest.length (rest.map B8)) ∧ (rest.length ≤ cc) ∧ (∀ b ∈ rest, b < 256) ∧ (rest.length ≤ l.length) ∧ mS = rest.length ∧ Fr aS 29 [] [(0, .func (.yield lp) #[] #[]), (1, vP gb 0)] ∧ Mem W wS (.blk gb #[.slice X rest.length cc] 22 :: F)) (m := l.length) ⟨l, A, c, F0, hI0, hr, hc, hl, Nat.le_refl _, rfl, Z.sub kr, HM.pt 1 [0]⟩ ?_
 clear Z HM; rintro mS a w_ ⟨rest, X, cc, F, hI, hX, hcc, hrl, hrn, rfl, Z, HM⟩
 refine Jb Z HM ((JQ∘JP∘Jc O0∘Jl∘Jp 1∘Jd2∘Jj) (Ju (fun hb8 => ?_) fun hb8 => ?_))
 ·
  intro a Z HM
  have hd8 := of_decide_eq_true hb8
  have hne : 0 < rest.length := by omega
  obtain ⟨b, m, er, hq⟩ : ∃ b m er, readB rest = (b, m, er) := ⟨_, _, _, rfl⟩
  refine Jb Z HM ((JT∘JS'∘JB∘JP∘Jc O0∘JK (h:=by exact fun HM => qln X rest.length cc rest B _ (hL.mem HM hB) (HM.le hB) (HM.old hX) hcc rfl om hrl hq)) fun A11 c11 w11 hc11 => (Jp 1∘Jx∘Jx∘Jx∘JA #[vB 0, vB 0, vI 0, vI 0, vN]) fun w3 g3 => (JV si_bk O0' (h1:=by exact qas _ _ _)) fun w1_7 => (Jp 2∘Jj∘JQ) fun a Z HM => ?_)
  refine wp_seq ?_
  refine qm2 (i := 5) ?_
  refine Jb Z HM ((Jp 1∘Jy (v := .agg (b.cells A11 c11)) (h:=by exact Yl.qr rfl rfl si_bk rfl (fun _ h => qb (h.blk (i := 0) rfl)))∘Jp 1∘Jy (v := .agg #[vB b.kind, vB b.cpu, vI b.lost, vI b.next, .slice A11 b.evs.length c11, vI m]) (h:=by exact Yl.build (vs := [(0, .agg (b.cells A11 c11)), (1, vI m)]) rfl kr kr)∘Jp 1∘Jq) fun a Z HM => ?_)
  refine qyf Z (i := 5) (vs := [.agg #[vB b.kind, vB b.cpu, vI b.lost, vI b.next, .slice A11 b.evs.length c11, vI m], vI er]) rfl rfl rfl rfl rfl rfl de (hy rest F _ _ A11 c11 b m er hI hq hne hrl hc11 (Mem.q1x (es := [.blk g3 (b.cells A11 c11) 60, .blk gb #[.slice X rest.length cc] 22]) (HM.pt (fs' := (.row (.slice A11 b.evs.length c11) b.evs.length (b.evs.flatMap evL) 35 11 :: .blk g3 (b.cells A11 c11) 60 :: .blk gb #[.slice X rest.length cc] 22 :: F)) 3 [1, 0, 2]))) qjn ?_
  clear Z HM; rintro v w20 a ⟨F2, HM, (⟨he, hv, hI2⟩ | ⟨he, hv, hS2⟩)⟩ Z <;> injection hv with hv <;> subst hv
  ·
   replace HM : Mem W w20 (.blk g3 (b.cells A11 c11) 60 :: .blk gb #[.slice X rest.length cc] 22 :: F2) := Mem.qw8 (es := [.blk g3 (b.cells A11 c11) 60, .blk gb #[.slice X rest.length cc] 22]) HM
   have hq0 := hq; rw [he] at hq0; have hof := qe2 hrl hq0; have hm13 := hof.least; have hml := hof.len; have hst : (rest.drop m).length < rest.length := by rw [List.length_drop]; omega
   refine Jb Z HM ((Jp 4∘Jo (.bool false) (by rw [he]; simp)∘Jp 1∘Jd6∘Jq∘JF∘JS'∘JR∘Jc O1∘Jp 1∘Jy (v := .slice (if cc = m then X else X.map (·.add (m * 1))) (rest.length - m) (cc - m)) (h:=by exact Yl.sliceFrom ei_u8 (j := m) rfl rfl rfl om)∘Jo (.slice (if cc = m then X else X.map (·.add (m * 1))) ((rest.drop m).length) (cc - m)) (by rw [List.length_drop])∘JW O1' O0') fun w3_3 => (Jt3∘Jq) fun a Z HM => ?_)
   exact ⟨_, hst, (rest.drop m), if cc = m then X else X.map (·.add (m * 1)), cc - m, F2, hI2, Rd.q3g hX hml hcc, by rw [List.length_drop]; omega, zw hrl m, by omega, rfl, Z.sub kr, HM.pt 2 [1]⟩
  ·
   replace HM : Mem W w20 (.blk g3 (b.cells A11 c11) 60 :: .blk gb #[.slice X rest.length cc] 22 :: F2) := Mem.qw8 (es := [.blk g3 (b.cells A11 c11) 60, .blk gb #[.slice X rest.length cc] 22]) HM
   refine Jb Z HM ((Jp 5∘Jd6∘Jq∘JT∘JZ) fun a Z HM => ?_)
   exact ret0 rfl Z (⟨_, rfl, F2, Mem.qrb [.blk g3 (b.cells A11 c11) 60, .blk gb #[.slice X rest.length cc] 22] HM, .inr hS2⟩)
 intro a Z HM
 have hd8 := of_decide_eq_false hb8
 have hr0 : rest = [] := List.length_eq_zero_iff.1 om
 refine Jb Z HM ((JF∘JX) ?_)
 repeat (first | clear Z | clear HM)
 intro a Z HM
 subst hr0
 exact norm0 rfl Z (⟨_, rfl, F, Mem.qrb [.blk gb #[.slice X ([] : List Nat).length cc] 22] HM, .inl hI⟩)
theorem qne (A : Option Addr) (n c : Nat) (w : World) :
    Calls Tryz.prog 41 #[.slice A n c] w fun r w' => ∃ g, r = .returned (.func (.func 64) #[] #[vP g 0]) ∧ Mem w w' [.blk g #[.slice A n c] 22] := by
 refine (JN1 Tryz.func41 4) ?_
 exact (JP∘Je1) fun w1 g1 => (Jp 1∘Jr∘Jy (v := .func (.func 64) #[] #[vP g1 0]) (h:=by exact Yl.makeFunc (fst := []) (caps := [vP g1 0]) rfl rfl rfl)∘Jp 1∘Jd1∘Jj∘JZ∘Jz1) fun HM => by exact ⟨_, rfl, HM⟩
theorem q1p (A : Option Addr) (c : Nat) (l : List Nat) (BB : Nat) (w : World) (hL : LaidX BB w) (hB : BB ≤ w.heap.size) (hr : Rd w w.heap.size 1 A l.length (l.map B8)) (hc : l.length ≤ c) (hl : ∀ b ∈ l, b < 256) (hn : l.length ≤ 100000000) :
    Calls Tryz.prog 15 #[.slice A l.length c] w (Is w (.tuple #[vI ((qa3 l).1.length : Int), vI ((qa3 l).2.1 : Int), vI ((qa3 l).2.2 : Int)])) := by
 refine qf9 (vs := [.slice A l.length c]) Tryz.func15 rfl rfl kr (σ0 := [(0, .slice A l.length c)]) rfl ?_
 intro a Z
 have HM := Mem.start w
 refine Jb Z HM ((JP∘JA #[vI 0]) fun w2 g2 => (JA #[vI 0]) fun w3 g3 => (JA #[vI 0]) fun w4 g4 => (Jj∘JQ∘JP∘Jp 1∘Jl∘Jp 1∘Jd2∘Jj) (Ji (fun hd11 => ?_) fun hd11 => ?_))
 ·
  refine (JT∘JP∘JW O2' O0') fun w2_0 => (JW O1' O0') fun w2_1 => (JW O0' O0') fun w2_2 => (Jj∘JZ) fun a Z HM => ?_
  refine qz3 ?_
  exact ret3 rfl Z (.cell1 (i := 2) Z HM rfl rfl kr rfl) (.cell1 (i := 1) Z HM rfl rfl kr rfl) (.cell1 (i := 0) Z HM rfl rfl kr rfl) (⟨by rw [show qa3 l = ([], 0, 3) from if_pos om]; rfl, HM.below⟩)
 refine (JF∘JS'∘JP∘JA #[vI 0]) fun w5 g5 => (JA #[vI 0]) fun w6 g6 => (JW O1' O0') fun w3_2 => (JW O0' O0') fun w3_3 => (Jj∘JQ∘JP∘Jp 1∘JL (h:=by exact fun HM => qne A l.length c _)) ?_
 rintro HM _ w13 ⟨gp, rfl, hm⟩
 refine ⟨_, rfl, _, HM.join hm, ?_⟩
 refine (Jd1∘Jj∘JB) fun a Z HM => ?_
 refine qz2 Z HM (fun F => ∃ (k : Nat) (p : Nat) (f : Nat), (([] : List Nat).length ≤ f) ∧ ((qe l.length l).1.length = k + (qe f ([] : List Nat)).1.length) ∧ ((qe l.length l).2.1 = p + (qe f ([] : List Nat)).2.1) ∧ ((qe l.length l).2.2 = (qe f ([] : List Nat)).2.2) ∧ (k + ([] : List Nat).length ≤ l.length) ∧ (p + ([] : List Nat).length ≤ l.length) ∧ F = [.blk g6 #[vI p] 3, .blk g5 #[vI k] 3, .blk g4 #[vI 0] 45, .blk g3 #[vI 0] 3, .blk g2 #[vI 0] 3]) (fun c F => c = .ret ∧ ∃ (k : Nat) (p : Nat) (e : Nat), ((qe l.length l).1.length = k) ∧ ((qe l.length l).2.1 = p) ∧ ((qe l.length l).2.2 = e) ∧ F = [.blk g6 #[vI p] 3, .blk g5 #[vI k] 3, .blk g4 #[vI e] 45, .blk g3 #[vI p] 3, .blk g2 #[vI k] 3]) rfl kr ?_ ?_ ?_
 ·
  clear Z HM; intro lp B rec w1 hrec HM
  have hy : qg9 w lp (fun rest F => ∃ (k : Nat) (p : Nat) (f : Nat), (rest.length ≤ f) ∧ ((qe l.length l).1.length = k + (qe f rest).1.length) ∧ ((qe l.length l).2.1 = p + (qe f rest).2.1) ∧ ((qe l.length l).2.2 = (qe f rest).2.2) ∧ (k + rest.length ≤ l.length) ∧ (p + rest.length ≤ l.length) ∧ F = (.obj lp (.loop (rec .ready none)) :: .obj B (.deferred (some [])) :: [.blk g6 #[vI p] 3, .blk g5 #[vI k] 3, .blk g4 #[vI 0] 45, .blk g3 #[vI 0] 3, .blk g2 #[vI 0] 3])) (fun F => ∃ (k : Nat) (p : Nat) (e : Nat), ((qe l.length l).1.length = k) ∧ ((qe l.length l).2.1 = p) ∧ ((qe l.length l).2.2 = e) ∧ F = (.obj lp (.loop (rec .done (some .ret))) :: .obj B (.deferred (some [])) :: [.blk g6 #[vI p] 3, .blk g5 #[vI k] 3, .blk g4 #[vI e] 45, .blk g3 #[vI p] 3, .blk g2 #[vI k] 3])) := by
   rintro rest F fr w3 A9 c9 b m er ⟨k, p, f, hf, hk, hp, he, hkn, hpn, rfl⟩ hq hne hrl hcb HM
   replace HM := HM.pt (fs' := (.obj lp (.loop (rec .ready none)) :: .row (.slice A9 b.evs.length c9) b.evs.length (b.evs.flatMap evL) 35 11 :: .obj B (.deferred (some [])) :: .blk g6 #[vI p] 3 :: .blk g5 #[vI k] 3 :: .blk g4 #[vI 0] 45 :: .blk g3 #[vI 0] 3 :: .blk g2 #[vI 0] 3 :: fr)) 8 [1, 0, 2, 3, 4, 5, 6, 7]
   refine qho (v1 := .agg #[vB (b.kind : Int), vB (b.cpu : Int), vI b.lost, vI b.next, .slice A9 b.evs.length c9, vI m]) (v2 := vI er) hrec HM de de fun a Z => ?_
   refine wpIn_seq ?_
   refine zo ?_
   refine Jb Z HM ((JA #[vB 0, vB 0, vI 0, vI 0, vN, vI 0]) fun w7 g7 => (JV qvt O0') fun w5_1 => (Jq) fun a Z HM => ?_)
   refine zo ?_
   refine Jb Z HM ((Jp 1∘Jq) fun a Z HM => ?_)
   refine ⟨(.blk g7 #[vB (b.kind : Int), vB (b.cpu : Int), vI b.lost, vI b.next, .slice A9 b.evs.length c9, vI m] 100 :: .row (.slice A9 b.evs.length c9) b.evs.length (b.evs.flatMap evL) 35 11 :: .obj B (.deferred (some [])) :: .blk g6 #[vI p] 3 :: .blk g5 #[vI k] 3 :: .blk g4 #[vI 0] 45 :: .blk g3 #[vI 0] 3 :: .blk g2 #[vI 0] 3 :: fr), HM.pt (fs' := (.obj lp (.loop (rec .ready none)) :: .blk g7 #[vB (b.kind : Int), vB (b.cpu : Int), vI b.lost, vI b.next, .slice A9 b.evs.length c9, vI m] 100 :: .row (.slice A9 b.evs.length c9) b.evs.length (b.evs.flatMap evL) 35 11 :: .obj B (.deferred (some [])) :: .blk g6 #[vI p] 3 :: .blk g5 #[vI k] 3 :: .blk g4 #[vI 0] 45 :: .blk g3 #[vI 0] 3 :: .blk g2 #[vI 0] 3 :: fr)) 9 [1, 0, 2, 3, 4, 5, 6, 7, 8], fun w4 HM => ?_⟩
   refine wpIn_block ?_
   refine wpIn_seq ?_
   refine wpIn_seq ?_
   refine zo ?_
   refine Jb Z HM ((Jp 2∘Jd1∘Jq) (Ju (fun hb17 => ?_) fun hb17 => ?_))
   ·
    intro a Z HM
    have hd17 := bne_iff_ne.1 hb17
    have hg := qfo (f := f) om hne hq om
    rw [hg] at hk hp he
    simp only [List.length_nil, Nat.add_zero] at hk hp
    refine qiv Z rfl ?_
    refine wpIn_seq ?_
    refine qus HM (.obj lp (.loop (rec .busy none)) :: .blk g7 #[vB (b.kind : Int), vB (b.cpu : Int), vI b.lost, vI b.next, .slice A9 b.evs.length c9, vI m] 100 :: .row (.slice A9 b.evs.length c9) b.evs.length (b.evs.flatMap evL) 35 11 :: .obj B (.deferred (some [])) :: .blk g6 #[vI p] 3 :: .blk g5 #[vI k] 3 :: .blk g4 #[vI 0] 45 :: .blk g3 #[vI 0] 3 :: fr) 9 [0, 1, 2, 3, 4, 5, 6, 7] [4, 5] fun HM HS => ?_
    refine ap Z (fun _ => HS) [2] (bf 6 [2]) [(20, vI er)] fun a Z => ?_
    refine s_ac Z HS 0 5 fun a Z => ?_
    refine s_ac Z HS 1 4 fun a Z => ?_
    refine s_on Z 3 rfl (s_es Z HM 8 fun w8_3 HM => ?_)
    refine keepS (HM.pt 9 [0, 1, 2, 3, 4, 5, 6, 7]) (fun HS => ?_)
    refine s_on Z 4 rfl (s_es Z HM 7 fun w8_4 HM => ?_)
    refine noS kr ?_
    refine s_on Z 5 rfl (s_es Z HM 6 fun w8_5 HM => ?_)
    refine noS kr ?_
    refine qh kr ?_
    refine wpIn_ret ?_
    refine ⟨(.obj B (.deferred (some [])) :: .blk g6 #[vI p] 3 :: .blk g5 #[vI k] 3 :: .blk g4 #[vI er] 45 :: .blk g3 #[vI p] 3 :: .blk g2 #[vI k] 3 :: fr), HM.pt (fs' := (.obj lp (.loop (rec .busy none)) :: .obj B (.deferred (some [])) :: .blk g6 #[vI p] 3 :: .blk g5 #[vI k] 3 :: .blk g4 #[vI er] 45 :: .blk g3 #[vI p] 3 :: .blk g2 #[vI k] 3 :: fr)) 9 [0, 3, 4, 5, 6, 7, 8], fun w5 HM => ?_⟩
    exact ⟨(.obj lp (.loop (rec .done (some .ret))) :: .obj B (.deferred (some [])) :: .blk g6 #[vI p] 3 :: .blk g5 #[vI k] 3 :: .blk g4 #[vI er] 45 :: .blk g3 #[vI p] 3 :: .blk g2 #[vI k] 3 :: []), HM, .inr ⟨om, rfl, k, p, er, hk, hp, he, rfl⟩⟩
   intro a Z HM
   have hd17 := bne_eq_false_iff_eq.1 hb17
   have he0 : er = 0 := by omega
   have hq0 := hq
   rw [he0] at hq0
   have hg := qek (f := f) om hne hq0
   have hof := qe2 hrl hq0
   have hm13 := hof.least
   have hml := hof.len
   rw [hg] at hk hp he
   dsimp only at hk hp he
   rw [List.length_cons] at hk
   refine qhn Z rfl ?_
   refine wpIn_skip ?_
   refine wpIn_seq ?_
   refine zo ?_
   refine Jb Z HM ((Jc O5∘JaK 1∘JW O5' O0') fun w9_2 => (Jt2∘Jq) fun a Z HM => ?_)
   refine zo ?_
   refine Jb Z HM ((Jc O4∘Jg 5 O1∘Ja∘JW O4' O0') fun w10_4 => (Jt3∘Jq) fun a Z HM => ?_)
   refine ⟨(.obj B (.deferred (some [])) :: .blk g6 #[vI (p + m : Nat)] 3 :: .blk g5 #[vI (k + 1 : Nat)] 3 :: .blk g4 #[vI 0] 45 :: .blk g3 #[vI 0] 3 :: .blk g2 #[vI 0] 3 :: fr), HM.pt (fs' := (.obj lp (.loop (rec .busy none)) :: .obj B (.deferred (some [])) :: .blk g6 #[vI (p + m : Nat)] 3 :: .blk g5 #[vI (k + 1 : Nat)] 3 :: .blk g4 #[vI 0] 45 :: .blk g3 #[vI 0] 3 :: .blk g2 #[vI 0] 3 :: fr)) 9 [0, 3, 4, 5, 6, 7, 8], fun w5 HM => ?_⟩
   exact ⟨(.obj lp (.loop (rec .ready none)) :: .obj B (.deferred (some [])) :: .blk g6 #[vI (p + m : Nat)] 3 :: .blk g5 #[vI (k + 1 : Nat)] 3 :: .blk g4 #[vI 0] 45 :: .blk g3 #[vI 0] 3 :: .blk g2 #[vI 0] 3 :: []), HM, .inl ⟨om, rfl, k + 1, p + m, (f - 1), by rw [List.length_drop]; omega, by omega, by omega, he, by rw [List.length_drop]; omega, by rw [List.length_drop]; omega, rfl⟩⟩
  refine (qkk w w1 gp lp BB A c l _ _ _ hL hB hr hc hl om hy ⟨0, 0, l.length, Nat.le_refl _, (Nat.zero_add _).symm, (Nat.zero_add _).symm, rfl, by omega, by omega, rfl⟩ (HM.pk [2, 0, 1, 3, 4, 5, 6, 7])).mono ?_
  rintro r w2 ⟨v, rfl, F2, HM2, (⟨k, p, f, hf, hk, hp, he, hkn, hpn, rfl⟩ | ⟨k, p, e, hk, hp, he, rfl⟩)⟩
  ·exact ⟨v, rfl, .inl ⟨_, ⟨k, p, f, hf, hk, hp, he, hkn, hpn, rfl⟩, HM2⟩⟩
  ·exact ⟨v, rfl, .inr ⟨.ret, _, ⟨rfl, k, p, e, hk, hp, he, rfl⟩, HM2⟩⟩
 ·
  clear Z HM; rintro B a w6 _ ⟨k, p, f, hf, hk, hp, he, hkn, hpn, rfl⟩ Z HM
  have hz := qfn (f := f) (l := []) rfl
  rw [hz] at hk hp he
  simp only [List.length_nil, Nat.add_zero] at hk hp
  refine wp_seq ?_
  refine Jb Z HM ((Vs (.t (.t (.t (.t (.t (.f .n)))))) [3, 4]) fun wd11 => (Vc 0 O2∘Vc 1 O1) fun a Z HM HS => ?_)
  refine s_on Z 2 rfl (s_es Z HM 5 fun w11_2 HM => ?_)
  refine keepS (HM.pk [0, 1, 2, 3, 4]) (fun HS => ?_)
  refine s_on Z 3 rfl (s_es Z HM 4 fun w11_3 HM => ?_)
  refine noS kr ?_
  refine s_on Z 4 rfl (s_es Z HM 3 fun w11_4 HM => ?_)
  refine noS kr ?_
  refine qh kr ?_
  refine Jb Z HM ((JZ) fun a Z HM => ?_)
  refine qli Z HM (i := 0) rfl fun a w7 Z HM => ?_
  exact ret3 rfl Z (.cell1 (i := 5) Z HM rfl rfl kr rfl) (.cell1 (i := 4) Z HM rfl rfl kr rfl) (.cell1 (i := 3) Z HM rfl rfl kr rfl) (⟨by rw [show qa3 l = qe l.length l from if_neg om, hk, hp, he]; rfl, HM.below⟩)
 ·
  clear Z HM; rintro _ B a w6 _ ⟨rfl, k, p, e, hk, hp, he, rfl⟩ Z HM
  refine wp_ret ?_
  refine qli Z HM (i := 0) rfl fun a w7 Z HM => ?_
  exact ret3 rfl Z (.cell1 (i := 5) Z HM rfl rfl kr rfl) (.cell1 (i := 4) Z HM rfl rfl kr rfl) (.cell1 (i := 3) Z HM rfl rfl kr rfl) (⟨by rw [show qa3 l = qe l.length l from if_neg om, hk, hp, he]; rfl, HM.below⟩)
def outsL (bs : List Bk) : List Nat := bs.flatMap Bk.out
def errL : List Bk → Nat
 | [] => 0
 | b :: t => if b.err = 0 then errL t else b.err
def qac (bs : List Bk) : List Nat × Nat := if errL bs ≠ 0 then ([], errL bs) else if 524288 < (outsL bs).length then ([], 3) else (outsL bs, 0)
theorem qr2 {bs : List Bk} (h : errL bs ≠ 0) : qac bs = ([], errL bs) := by unfold qac; rw [if_pos h]
theorem qo8 {bs : List Bk} (h : errL bs = 0) (h2 : 524288 < (outsL bs).length) : qac bs = ([], 3) := by unfold qac; rw [if_neg om, if_pos h2]
theorem qvu {bs : List Bk} (h : errL bs = 0) (h2 : ¬ 524288 < (outsL bs).length) : qac bs = (outsL bs, 0) := by unfold qac; rw [if_neg om, if_neg h2]
theorem qr3 (bs : List Bk) : (qac bs).1.length ≤ 524288 := by
 unfold qac
 split
 ·exact Nat.zero_le _
 ·split
  ·exact Nat.zero_le _
  ·dsimp only; omega
theorem q2r {q : List Hb} {k : Nat} (h : k < q.length) : errL ((q.drop k).map Hb.b) = if (q.getD k Hb.zero).b.err = 0 then errL ((q.drop (k + 1)).map Hb.b) else (q.getD k Hb.zero).b.err := by
 rw [qcz Hb.zero h, List.map_cons, errL]
theorem q0a {q : List Hb} {k : Nat} (h : k < q.length) : outsL ((q.take (k + 1)).map Hb.b) = outsL ((q.take k).map Hb.b) ++ (q.getD k Hb.zero).b.out := by
 unfold outsL
 rw [qh3 Hb.zero h, List.map_append, List.flatMap_append]
 simp
theorem qyz (bs : List Bk) : (outsL bs).length ≤ 4096 * bs.length := by
 unfold outsL
 induction bs with
 | nil => exact Nat.zero_le _
 | cons b t ih =>
  rw [List.flatMap_cons, List.length_append, List.length_cons]
  have := qu4 b
  omega
theorem qvv {q : List Hb} (k : Nat) : (outsL ((q.take k).map Hb.b)).length ≤ 4096 * q.length := by
 have h := qyz ((q.take k).map Hb.b)
 rw [List.length_map, List.length_take] at h
 have : min k q.length ≤ q.length := Nat.min_le_right _ _
 omega
def qbj (out : List Nat) (bs : List Bk) : List Nat × Nat := if (qac bs).2 ≠ 0 then (out, (qac bs).2) else if 524288 < out.length + (qac bs).1.length then (out, 3) else (out ++ (qac bs).1, 0)
theorem qr4 {out : List Nat} {bs : List Bk} (h : (qac bs).2 ≠ 0) : qbj out bs = (out, (qac bs).2) := by unfold qbj; rw [if_pos h]
theorem qo9 {out : List Nat} {bs : List Bk} (h : (qac bs).2 = 0) (h2 : 524288 < out.length + (qac bs).1.length) : qbj out bs = (out, 3) := by unfold qbj; rw [if_neg om, if_pos h2]
theorem qvw {out : List Nat} {bs : List Bk} (h : (qac bs).2 = 0) (h2 : ¬ 524288 < out.length + (qac bs).1.length) : qbj out bs = (out ++ (qac bs).1, 0) := by unfold qbj; rw [if_neg om, if_neg h2]
def endB (next : Int) : Bk := ⟨2, 0, 0, next, []⟩
theorem q1g {next : Int} (h : I64 next) : (endB next).Ok := ⟨by show 2 < 256; decide, by show 0 < 256; decide, by show I64 0; unfold I64; decide, h, by intro e he; cases he⟩
def nextR (l : List Nat) (p : Nat) : Bk × Nat × Nat := if p = l.length then (Bk.zero, 0, 6) else readB (l.drop p)
def readAll (l : List Nat) : List Bk × Nat := if (qa3 l).2.2 ≠ 0 then ([], (qa3 l).2.2) else ((qa3 l).1, 0)
theorem qnf {l : List Nat} (h : 524288 < l.length) : readAll l = ([], 3) := by unfold readAll qa3; rw [if_pos h]; rfl
theorem qpa {l : List Nat} {e : Nat} (h : ¬ 524288 < l.length) (he : (qe l.length l).2.2 = e) (hen : e ≠ 0) : readAll l = ([], e) := by unfold readAll qa3; rw [if_neg h, if_pos om, he]
theorem qr5 {l : List Nat} (h : ¬ 524288 < l.length) (he : (qe l.length l).2.2 = 0) : readAll l = ((qe l.length l).1, 0) := by unfold readAll qa3; rw [if_neg h, if_neg om]
section
variable {W w : World} {fs : List Fact} {t bt : TypeId}
theorem Mem.reBlk (h : Mem W w fs) {i g : Nat} {cs ds : Array Value} {t : TypeId} (hi : fs[i]? = some (.blk g cs t)) (he : cs = ds) : Mem W w (fs.set i (.blk g ds t)) := by
 subst he
 obtain ⟨hl, h2⟩ := List.getElem?_eq_some_iff.1 hi
 rw [← h2, List.set_getElem_self]
 exact h
theorem qkl {w w' : World} {p : List Nat × Nat} {er : Nat} {n : Int} (hb : Below w.heap.size w w') (he : p = ([], er)) (hn : n = er) : qaq w p.2 p.1 (.returned (.tuple #[vN, vI n])) w' := by
 subst he; subst hn
 exact ⟨⟨none, 0, rfl, World.ownsRow_nil _ _ _ _, Nat.le_refl _⟩, hb⟩
theorem qng {p : List Bk × Nat} {er : Nat} {n : Int} (h : Mem W w fs) (he : p = ([], er)) (hn : n = er) : qhq t bt W p.2 p.1 (.returned (.tuple #[vN, vI n])) w := by
 subst he; exact qez h hn
end
section
variable {W w w' : World} {fs gs : List Fact} {f g1 g2 : Fact}
end
def WrIs (W : World) (tw : TypeId) (g : Nat) (lim : Int) (out : List Nat) (fs : List Fact) (v : Value) (r : Ending) (w' : World) : Prop :=
 r = .returned v ∧ ∃ A c, out.length ≤ c ∧ Mem W w' (.blk g #[vI lim, .slice A out.length c] tw :: .row (.slice A out.length c) out.length (out.map B8) 5 1 :: fs)
theorem WrIs.as {W w' : World} {tw : TypeId} {g : Nat} {lim : Int} {out out' : List Nat} {fs : List Fact} {v v' : Value} {r : Ending} (h : WrIs W tw g lim out fs v r w') (h1 : out = out') (h2 : v = v') : WrIs W tw g lim out' fs v' r w' := by subst h1; subst h2; exact h
theorem qpb {out R : List Nat} {bs : List Bk} {er : Nat} (h : qac bs = (R, er)) (he : er ≠ 0) : qbj out bs = (out, er) := by have h1 := qr4 (out := out) (bs := bs) (by rw [h]; exact he); rw [h] at h1; exact h1
theorem qnh {out R : List Nat} {bs : List Bk} {er : Nat} (h : qac bs = (R, er)) (he : er = 0) (h2 : 524288 < out.length + R.length) : qbj out bs = (out, 3) := qo9 (by rw [h]; exact he) (by rw [h]; exact h2)
theorem qr6 {out R : List Nat} {bs : List Bk} {er : Nat} (h : qac bs = (R, er)) (he : er = 0) (h2 : ¬ 524288 < out.length + R.length) : qbj out bs = (out ++ R, 0) := by have h1 := qvw (out := out) (bs := bs) (by rw [h]; exact he) (by rw [h]; exact h2); rw [h] at h1; exact h1
theorem qls {W w' : World} {tw : TypeId} {g c : Nat} {lim n : Int} {A : Option Addr} {out : List Nat} {er : Nat} {fs : List Fact} {p : List Nat × Nat} (h : p = (out, er)) (hn : n = er) (hc : out.length ≤ c) (hm : Mem W w' (.blk g #[vI lim, .slice A out.length c] tw :: .row (.slice A out.length c) out.length (out.map B8) 5 1 :: fs)) : WrIs W tw g lim p.1 fs (vI (p.2 : Int)) (.returned (vI n)) w' := by
 subst h; subst hn
 exact ⟨rfl, A, c, hc, hm⟩
section
variable {W w w' : World} {fs gs : List Fact} {f1 f2 : Fact}
end
theorem qr7 {l : List Nat} {b : Bk} {m er : Nat} (hl : ∀ x ∈ l, x < 256) (h : readB l = (b, m, er)) : m ≤ l.length := by
 by_cases he : er = 0
 ·subst he; exact (qe2 hl h).len
 ·have := (qva h he).2; omega
theorem qni {l : List Nat} {p : Nat} {b : Bk} {m er : Nat} (hl : ∀ x ∈ l, x < 256) (hp : p ≤ l.length) (h : nextR l p = (b, m, er)) : p + m ≤ l.length := by
 unfold nextR at h
 split at h
 ·injection h with _ h; injection h with h _; omega
 ·have := qr7 (zw hl p) h
  rw [List.length_drop] at this
  omega
def q0b (W : World) (tr : TypeId) (g p : Nat) (l : List Nat) (A : Option Addr) (c : Nat) (fs : List Fact) (q : Bk × Nat × Nat) (r : Ending) (w' : World) : Prop :=
 ∃ A' c', r = .returned (.tuple #[.agg (q.1.cells A' c'), vI (q.2.2 : Int)]) ∧ q.1.evs.length ≤ c' ∧ Mem W w' (.row (.slice A' q.1.evs.length c') q.1.evs.length (q.1.evs.flatMap evL) 35 11 :: .blk g #[.bool true, vI ((p + q.2.1 : Nat) : Int), .slice A l.length c] tr :: .row (.slice A l.length c) l.length (l.map B8) 5 1 :: fs)
theorem qnj {W w' : World} {tr : TypeId} {g p c c' m er : Nat} {l : List Nat} {A A' : Option Addr} {fs : List Fact} {q : Bk × Nat × Nat} {b : Bk} (h : q = (b, m, er)) {n : Int} (hn : n = er) (hc : b.evs.length ≤ c') (hm : Mem W w' (.row (.slice A' b.evs.length c') b.evs.length (b.evs.flatMap evL) 35 11 :: .blk g #[.bool true, vI ((p + m : Nat) : Int), .slice A l.length c] tr :: .row (.slice A l.length c) l.length (l.map B8) 5 1 :: fs)) :
  q0b W tr g p l A c fs q (.returned (.tuple #[.agg (b.cells A' c'), vI n])) w' := by
 subst h; subst hn
 exact ⟨A', c', rfl, hc, hm⟩
theorem Rd.q1z {w : World} {B : Nat} {l : List Nat} (h : Rd w B 1 none l.length (l.map B8)) : l = [] := by
 rcases Nat.eq_zero_or_pos l.length with h0 | h0
 ·exact List.length_eq_zero_iff.1 h0
 ·obtain ⟨a, ha, _⟩ := h.row h0
  cases ha
theorem LaidX.mem2 {B : Nat} {W w w' : World} {fs gs : List Fact} (h : LaidX B w) (HW : Mem W w fs) (HM : Mem W w' gs) (hB : B ≤ W.heap.size) : LaidX B w' := h.qal fun p hp => by
 rw [HM.below.cell om, HW.below.cell om]
theorem Mem.q3h {W w : World} {a b : List Fact} {t : TypeId} {q : List Hb} (h : Mem W w (a ++ (hbF t q ++ b))) : HbRd w q := h.hbRd fun _ hf => List.mem_append_right _ (List.mem_append_left _ hf)
def pick9 : Ev := { Ev.zero with seq := 9, time := 340, cpu := 2, kind := 6 }
def exI : List It := [⟨tickE, 3⟩, ⟨pick9, 0⟩]
theorem q1q : pick9.Ok := ⟨⟨by decide, by decide⟩, ⟨by decide, by decide⟩, by decide, by decide, ⟨by decide, by decide⟩, ⟨by decide, by decide⟩, ⟨by decide, by decide⟩, ⟨by decide, by decide⟩, ⟨by decide, by decide⟩, by decide, ⟨by decide, by decide⟩⟩
theorem q0k : ∀ x ∈ exI, x.Ok := by
 intro x hx
 simp only [exI, List.mem_cons, List.not_mem_nil, or_false] at hx
 rcases hx with rfl | rfl
 ·exact ⟨q2o, by show I64 3; unfold I64; decide⟩
 ·exact ⟨q1q, by show I64 0; unfold I64; decide⟩
theorem sa1 : cutS 2 exI 2 1 = ([⟨1, 2, 3, 0, [tickE]⟩, ⟨1, 2, 2, 0, [pick9]⟩], 0) := by decide +kernel
theorem sa2 : cutS 2 exI 2 2 = ([⟨1, 2, 5, 0, [tickE, pick9]⟩], 0) := by decide +kernel
theorem sa3 : cutS 2 [] 0 1 = ([], 0) := by decide +kernel
theorem sa4 : cutS 2 [] 2 1 = ([⟨1, 2, 2, 0, []⟩], 0) := by decide +kernel
theorem sa5 : qbj [] [endB 0] = ([], 107) := by decide +kernel
theorem sa6 : qbj [] [endB 7] = (awX, 0) := by decide +kernel
theorem sa7 : qa3 (awX ++ [1]) = ([⟨2, 0, 0, 7, []⟩], 13, 100) := by decide +kernel
theorem sa8 : nextR awX 0 = (⟨2, 0, 0, 7, []⟩, 13, 0) := by decide +kernel
theorem sa9 : nextR awX 13 = (Bk.zero, 0, 6) := by decide +kernel
theorem q1r : ∀ b ∈ awX ++ [1], b < 256 := by decide
theorem map1 {q : List Hb} {b : Bk} (h : q.map Hb.b = [b]) : ∃ x, q = [x] ∧ x.b = b := by
 cases q with
 | nil => cases h
 | cons x r =>
  cases r with
  | nil => injection h with h _; exact ⟨x, rfl, h⟩
  | cons y r => injection h with _ h; cases h
theorem map2 {q : List Hb} {b d : Bk} (h : q.map Hb.b = [b, d]) : ∃ x y, q = [x, y] ∧ x.b = b ∧ y.b = d := by
 cases q with
 | nil => cases h
 | cons x r =>
  injection h with h1 h2
  obtain ⟨y, rfl, h3⟩ := map1 h2
  exact ⟨x, y, rfl, h1, h3⟩
section
variable {W w : World} {a b c : List Fact} {t : TypeId} {q : List Hb}
theorem Mem.q0p (h : Mem W w (a ++ (c ++ (hbF t q ++ b)))) : HbRd w q := h.hbRd fun _ hf => List.mem_append_right _ (List.mem_append_right _ (List.mem_append_left _ hf))
theorem Mem.dropT (h : Mem W w (a ++ (c ++ b))) : Mem W w (a ++ b) := h.subl (List.Sublist.append_left (List.sublist_append_right c b) a)
end
instance itDec : DecidableEq It := fun ⟨a, b⟩ ⟨c, d⟩ => decidable_of_iff (a = c ∧ b = d) (by rw [It.mk.injEq])
theorem qwx {L : List Nat} {b : Bk} {m er : Nat} (hl : ∀ x ∈ L, x < 256) (h : readB L = (b, m, er)) (he : er ≠ 0) : b = Bk.zero ∧ m = 0 := by
 rw [← qo4 hl] at h
 unfold refB at h
 split at h
 ·injection h with h1 h; injection h with h2 _; exact ⟨h1.symm, h2.symm⟩
 ·split at h
  ·injection h with _ h; injection h with _ h; exact absurd h.symm he
  ·injection h with h1 h; injection h with h2 _; exact ⟨h1.symm, h2.symm⟩
theorem qpt {f : Nat} {L : List Nat} {b : Bk} {t : List Bk} {P e : Nat} (h : qe f L = (b :: t, P, e)) : ∃ m, readB L = (b, m, 0) ∧ 0 < L.length ∧ 0 < f ∧ m ≤ P ∧ qe (f - 1) (L.drop m) = (t, P - m, e) := by
 cases f with
 | zero => cases h
 | succ f =>
  rw [qe] at h
  split at h
  ·cases h
  ·rename_i h1
   split at h
   ·cases h
   ·rename_i h2
    obtain ⟨b', m, er, hq⟩ : ∃ b m er, readB L = (b, m, er) := ⟨_, _, _, rfl⟩
    rw [hq] at h h2
    dsimp only at h h2
    injection h with h3 h4
    injection h3 with h5 h6
    injection h4 with h7 h8
    subst h5
    refine ⟨m, by rw [hq, show er = 0 by omega], by omega, by omega, by omega, ?_⟩
    rw [Nat.add_sub_cancel, ← h6, ← h8, ← h7, Nat.add_sub_cancel_left]
theorem q22 {f : Nat} {L : List Nat} {P e : Nat} (hl : ∀ x ∈ L, x < 256) (hf : L.length ≤ f) (h : qe f L = ([], P, e)) : P = 0 ∧ ((L.length = 0 ∧ e = 0) ∨ (0 < L.length ∧ e ≠ 0 ∧ readB L = (Bk.zero, 0, e))) := by
 cases f with
 | zero =>
  injection h with _ h; injection h with h1 h2
  exact ⟨h1.symm, .inl ⟨by omega, h2.symm⟩⟩
 | succ f =>
  rw [qe] at h
  split at h
  ·rename_i h0
   injection h with _ h; injection h with h1 h2
   exact ⟨h1.symm, .inl ⟨h0, h2.symm⟩⟩
  ·rename_i h0
   split at h
   ·rename_i h2
    obtain ⟨b', m, er, hq⟩ : ∃ b m er, readB L = (b, m, er) := ⟨_, _, _, rfl⟩
    rw [hq] at h h2
    dsimp only at h h2
    injection h with _ h; injection h with h3 h4
    obtain ⟨rfl, rfl⟩ := qwx hl hq h2
    exact ⟨h3.symm, .inr ⟨by omega, by rw [← h4]; exact h2, by rw [hq, h4]⟩⟩
   ·cases h
theorem q1s {l : List Nat} {p f : Nat} {b : Bk} {t : List Bk} {P e : Nat} (h : qe f (l.drop p) = (b :: t, P, e)) : ∃ m, nextR l p = (b, m, 0) ∧ p < l.length ∧ 0 < f ∧ m ≤ P ∧ qe (f - 1) (l.drop (p + m)) = (t, P - m, e) := by
 obtain ⟨m, h1, h2, h3, h4, h5⟩ := qpt h
 rw [List.length_drop] at h2
 refine ⟨m, ?_, by omega, h3, h4, ?_⟩
 ·unfold nextR
  rw [if_neg om, h1]
 ·rw [← List.drop_drop]; exact h5
def endE (e : Nat) : Nat := if e = 0 then 6 else e
theorem qwy {l : List Nat} {p f P e : Nat} (hl : ∀ x ∈ l, x < 256) (hp : p ≤ l.length) (hf : l.length - p ≤ f) (h : qe f (l.drop p) = ([], P, e)) : P = 0 ∧ nextR l p = (Bk.zero, 0, endE e) := by
 obtain ⟨h0, h1⟩ := q22 (zw hl p) (by rw [List.length_drop]; exact hf) h
 refine ⟨h0, ?_⟩
 unfold nextR endE
 rw [List.length_drop] at h1
 rcases h1 with ⟨h1, h2⟩ | ⟨h1, h2, h3⟩
 ·rw [if_pos om, if_pos h2]
 ·rw [if_neg om, if_neg h2, h3]
theorem qsy {l : List Nat} (h : l.length ≤ 6000) : qa3 l = qe l.length l := if_neg om
theorem q1t {q : List Hb} {k : Nat} (h : k < q.length) : (q.map Hb.b).getD k Bk.zero = (q.getD k Hb.zero).b := by
 rw [List.getD_eq_getElem?_getD, List.getElem?_map, List.getD_eq_getElem?_getD, List.getElem?_eq_getElem h]
 rfl
theorem q1u {bs : List Bk} {k : Nat} (h : k < bs.length) : bs.drop k = bs.getD k Bk.zero :: bs.drop (k + 1) := qcz Bk.zero h
theorem qwz : ∀ {f : Nat} {L : List Nat} {bs : List Bk} {P e : Nat}, qe f L = (bs, P, e) → bs.length ≤ f
 | 0, _, _, _, _, h => by injection h with h _; subst h; exact Nat.le_refl _
 | f + 1, L, [], _, _, _ => Nat.zero_le _
 | f + 1, L, b :: t, P, e, h => by
  obtain ⟨m, _, _, _, _, h5⟩ := qpt h
  have := qwz h5
  rw [List.length_cons]; omega
theorem qpc (A : Option Addr) (c : Nat) (l : List Nat) (BB : Nat) (w : World) (hL : LaidX BB w) (hB : BB ≤ w.heap.size) (hr : Rd w w.heap.size 1 A l.length (l.map B8)) (hc : l.length ≤ c) (hl : ∀ b ∈ l, b < 256) (hn : l.length ≤ 100000000) :
    Calls Tryz.prog 14 #[.slice A l.length c] w (qhq 35 60 w (readAll l).2 (readAll l).1) := by
 refine qf9 (vs := [.slice A l.length c]) Tryz.func14 rfl rfl kr (σ0 := [(0, .slice A l.length c)]) rfl ?_
 intro a Z
 have HM := Mem.start w
 refine Jb Z HM ((JP∘JA #[vN]) fun w2 g2 => (JA #[vI 0]) fun w3 g3 => (Jj∘JQ∘JP∘Jp 1∘Jl∘Jp 1∘Jd2∘Jj) (Ji (fun hd9 => ?_) fun hd9 => ?_))
 ·
  refine (JT∘JP∘JW O1' O0') fun w2_0 => (JW O0' O0') fun w2_1 => (Jj∘JZ) fun a Z HM => ?_
  refine qz3 ?_
  exact ret2 rfl Z (.cell1 (i := 1) Z HM rfl rfl kr rfl) (.cell1 (i := 0) Z HM rfl rfl kr rfl) (qng HM (qnf om) rfl)
 refine (JF∘JS'∘JP∘JA #[vN]) fun w4 g4 => (Jj∘JQ∘JP∘Jp 1∘JL (h:=by exact fun HM => qne A l.length c _)) ?_
 rintro HM _ w11 ⟨gp, rfl, hm⟩
 refine ⟨_, rfl, _, HM.join hm, ?_⟩
 refine (Jd1∘Jq) fun a Z HM => ?_
 replace HM := HM.nil 60 5
 replace HM : Mem w _ (.row (vN) 0 [] 60 5 :: .blk gp #[.slice A l.length c] 22 :: .blk g4 #[vN] 44 :: .blk g3 #[vI 0] 45 :: .blk g2 #[vN] 44 :: hbF 35 []) := HM
 refine Jb Z HM ((JG∘JB) fun a Z HM => ?_)
 refine qz2 Z HM (fun F => ∃ (q : List Hb) (f : Nat) (Ao : Option Addr) (co : Nat), (([] : List Nat).length ≤ f) ∧ (q.map Hb.b ++ (qe f ([] : List Nat)).1 = (qe l.length l).1) ∧ ((qe l.length l).2.2 = (qe f ([] : List Nat)).2.2) ∧ (q.length ≤ co) ∧ (q.length + ([] : List Nat).length ≤ l.length) ∧ F = (.row (.slice Ao q.length co) q.length (q.flatMap hbL) 60 5 :: .blk g4 #[.slice Ao q.length co] 44 :: .blk g3 #[vI 0] 45 :: .blk g2 #[vN] 44 :: hbF 35 q)) (fun c F => c = .ret ∧ ∃ (q : List Hb) (e : Nat), (e ≠ 0) ∧ ((qe l.length l).2.2 = e) ∧ F = (.blk g3 #[vI e] 45 :: .blk g2 #[vN] 44 :: hbF 35 q)) rfl kr ?_ ?_ ?_
 ·
  clear Z HM; intro lp B rec w1 hrec HM
  have hy : qg9 w lp (fun rest F => ∃ (q : List Hb) (f : Nat) (Ao : Option Addr) (co : Nat), (rest.length ≤ f) ∧ (q.map Hb.b ++ (qe f rest).1 = (qe l.length l).1) ∧ ((qe l.length l).2.2 = (qe f rest).2.2) ∧ (q.length ≤ co) ∧ (q.length + rest.length ≤ l.length) ∧ F = (.obj lp (.loop (rec .ready none)) :: .obj B (.deferred (some [])) :: (.row (.slice Ao q.length co) q.length (q.flatMap hbL) 60 5 :: .blk g4 #[.slice Ao q.length co] 44 :: .blk g3 #[vI 0] 45 :: .blk g2 #[vN] 44 :: hbF 35 q))) (fun F => ∃ (q : List Hb) (e : Nat), (e ≠ 0) ∧ ((qe l.length l).2.2 = e) ∧ F = (.obj lp (.loop (rec .done (some .ret))) :: .obj B (.deferred (some [])) :: (.blk g3 #[vI e] 45 :: .blk g2 #[vN] 44 :: hbF 35 q))) := by
   rintro rest F fr w3 A9 c9 b m er ⟨q, f, Ao, co, hf, hk, he, hco, hql, rfl⟩ hq hne hrl hcb HM
   replace HM := HM.pt (fs' := (.obj lp (.loop (rec .ready none)) :: .row (.slice A9 b.evs.length c9) b.evs.length (b.evs.flatMap evL) 35 11 :: .obj B (.deferred (some [])) :: .row (.slice Ao q.length co) q.length (q.flatMap hbL) 60 5 :: .blk g4 #[.slice Ao q.length co] 44 :: .blk g3 #[vI 0] 45 :: .blk g2 #[vN] 44 :: (hbF 35 q ++ (fr)))) 7 [1, 0, 2, 3, 4, 5, 6]
   refine qho (v1 := .agg #[vB (b.kind : Int), vB (b.cpu : Int), vI b.lost, vI b.next, .slice A9 b.evs.length c9, vI m]) (v2 := vI er) hrec HM de de fun a Z => ?_
   refine wpIn_seq ?_
   refine zo ?_
   refine Jb Z HM ((JA #[vB 0, vB 0, vI 0, vI 0, vN, vI 0]) fun w5 g5 => (JV qvt O0') fun w5_1 => (Jq) fun a Z HM => ?_)
   refine zo ?_
   refine Jb Z HM ((Jp 1∘Jq) fun a Z HM => ?_)
   refine ⟨(.blk g5 #[vB (b.kind : Int), vB (b.cpu : Int), vI b.lost, vI b.next, .slice A9 b.evs.length c9, vI m] 100 :: .row (.slice A9 b.evs.length c9) b.evs.length (b.evs.flatMap evL) 35 11 :: .obj B (.deferred (some [])) :: .row (.slice Ao q.length co) q.length (q.flatMap hbL) 60 5 :: .blk g4 #[.slice Ao q.length co] 44 :: .blk g3 #[vI 0] 45 :: .blk g2 #[vN] 44 :: (hbF 35 q ++ (fr))), HM.pt (fs' := (.obj lp (.loop (rec .ready none)) :: .blk g5 #[vB (b.kind : Int), vB (b.cpu : Int), vI b.lost, vI b.next, .slice A9 b.evs.length c9, vI m] 100 :: .row (.slice A9 b.evs.length c9) b.evs.length (b.evs.flatMap evL) 35 11 :: .obj B (.deferred (some [])) :: .row (.slice Ao q.length co) q.length (q.flatMap hbL) 60 5 :: .blk g4 #[.slice Ao q.length co] 44 :: .blk g3 #[vI 0] 45 :: .blk g2 #[vN] 44 :: (hbF 35 q ++ (fr)))) 8 [1, 0, 2, 3, 4, 5, 6, 7], fun w4 HM => ?_⟩
   refine wpIn_block ?_
   refine wpIn_seq ?_
   refine wpIn_seq ?_
   refine zo ?_
   refine Jb Z HM ((Jp 2∘Jd1∘Jq) (Ju (fun hb15 => ?_) fun hb15 => ?_))
   ·
    intro a Z HM
    have hd15 := bne_iff_ne.1 hb15
    have hg := qfo (f := f) om hne hq om
    rw [hg] at he
    refine qiv Z rfl ?_
    refine wpIn_seq ?_
    refine zo ?_
    refine Jb Z HM ((Jp 1∘JW O7' O0') fun w8_1 => (JW O6' O0') fun w8_2 => (Jt1∘Jq) fun a Z HM => ?_)
    refine wpIn_ret ?_
    refine ⟨(.obj B (.deferred (some [])) :: .blk g3 #[vI er] 45 :: .blk g2 #[vN] 44 :: (hbF 35 q ++ (fr))), HM.pt (fs' := (.obj lp (.loop (rec .busy none)) :: .obj B (.deferred (some [])) :: .blk g3 #[vI er] 45 :: .blk g2 #[vN] 44 :: (hbF 35 q ++ (fr)))) 8 [0, 3, 6, 7], fun w5 HM => ?_⟩
    exact ⟨(.obj lp (.loop (rec .done (some .ret))) :: .obj B (.deferred (some [])) :: .blk g3 #[vI er] 45 :: .blk g2 #[vN] 44 :: hbF 35 q), HM, .inr ⟨om, rfl, q, er, by omega, he, rfl⟩⟩
   intro a Z HM
   have hd15 := bne_eq_false_iff_eq.1 hb15
   have he0 : er = 0 := by omega
   have hq0 := hq
   rw [he0] at hq0
   have hg := qek (f := f) om hne hq0
   have hof := qe2 hrl hq0
   have hm13 := hof.least
   have hml := hof.len
   rw [hg] at hk he
   dsimp only at hk he
   refine qhn Z rfl ?_
   refine wpIn_skip ?_
   refine zo ?_
   refine Jb Z HM ((Jc O5∘Jf 0∘Jy (v := .agg #[vB b.kind, vB b.cpu, vI b.lost, vI b.next, .slice A9 b.evs.length c9]) (h:=by exact Yl.qr rfl rfl si_bk rfl (fun _ h => h.sub (i := 1) rfl 0 rfl))) fun a Z HM => ?_)
   refine fo Z 3 rfl rfl (s_el Z HM qkh [(0, .agg #[vB b.kind, vB b.cpu, vI b.lost, vI b.next, .slice A9 b.evs.length c9])] #[vB b.kind, vB b.cpu, vI b.lost, vI b.next, .slice A9 b.evs.length c9] ?_)
   clear Z HM; intro a w20 g20 Z HM
   refine fo Z 4 rfl rfl (qn Z HM (i := 5) rfl qkh rfl rfl rfl (news := (hbL (⟨b, A9, c9⟩ : Hb))) (HM.rdBlk (i := 0) (n := 1) (size := 5) rfl rfl) (qas _ _ _) om om rfl de ?_)
   clear Z HM; intro a w21 A21 c21 Z HM hc21
   refine Jb Z HM ((JW O6' O0') fun w9_5 => (Jt5∘Jq) fun a Z HM => ?_)
   have hnA21 : q.length + 1 = (q ++ [(⟨b, A9, c9⟩ : Hb)]).length := by rw [List.length_append]; rfl
   replace HM := HM.reRow (i := 5) (ys := (q ++ [(⟨b, A9, c9⟩ : Hb)]).flatMap hbL) rfl hnA21 (by rw [List.flatMap_append, List.flatMap_cons, List.flatMap_nil, List.append_nil])
   rw [hnA21] at hc21
   replace HM := HM.reBlk (i := 6) (ds := #[.slice A21 (q ++ [(⟨b, A9, c9⟩ : Hb)]).length c21]) rfl (by rw [hnA21]; try rfl)
   replace HM := Mem.toHb (a := [.blk g20 #[vB b.kind, vB b.cpu, vI b.lost, vI b.next, .slice A9 b.evs.length c9] 60, .obj lp (.loop (rec .busy none)), .blk g5 #[vB (b.kind : Int), vB (b.cpu : Int), vI b.lost, vI b.next, .slice A9 b.evs.length c9, vI m] 100, .obj B (.deferred (some [])), .row (.slice A21 ((q ++ [(⟨b, A9, c9⟩ : Hb)]).length) c21) ((q ++ [(⟨b, A9, c9⟩ : Hb)]).length) ((q ++ [(⟨b, A9, c9⟩ : Hb)]).flatMap hbL) 60 5, .blk g4 #[.slice A21 ((q ++ [(⟨b, A9, c9⟩ : Hb)]).length) c21] 44, .blk g3 #[vI 0] 45, .blk g2 #[vN] 44]) (q := q) (b := fr) (HM.pt (fs' := (.row (.slice A9 b.evs.length c9) b.evs.length (b.evs.flatMap evL) 35 11 :: .blk g20 #[vB b.kind, vB b.cpu, vI b.lost, vI b.next, .slice A9 b.evs.length c9] 60 :: .obj lp (.loop (rec .busy none)) :: .blk g5 #[vB (b.kind : Int), vB (b.cpu : Int), vI b.lost, vI b.next, .slice A9 b.evs.length c9, vI m] 100 :: .obj B (.deferred (some [])) :: .row (.slice A21 ((q ++ [(⟨b, A9, c9⟩ : Hb)]).length) c21) ((q ++ [(⟨b, A9, c9⟩ : Hb)]).length) ((q ++ [(⟨b, A9, c9⟩ : Hb)]).flatMap hbL) 60 5 :: .blk g4 #[.slice A21 ((q ++ [(⟨b, A9, c9⟩ : Hb)]).length) c21] 44 :: .blk g3 #[vI 0] 45 :: .blk g2 #[vN] 44 :: (hbF 35 q ++ (fr)))) 9 [3, 0, 1, 2, 4, 5, 6, 7, 8])
   replace HM : Mem w _ (.blk g20 #[vB b.kind, vB b.cpu, vI b.lost, vI b.next, .slice A9 b.evs.length c9] 60 :: .obj lp (.loop (rec .busy none)) :: .blk g5 #[vB (b.kind : Int), vB (b.cpu : Int), vI b.lost, vI b.next, .slice A9 b.evs.length c9, vI m] 100 :: .obj B (.deferred (some [])) :: .row (.slice A21 ((q ++ [(⟨b, A9, c9⟩ : Hb)]).length) c21) ((q ++ [(⟨b, A9, c9⟩ : Hb)]).length) ((q ++ [(⟨b, A9, c9⟩ : Hb)]).flatMap hbL) 60 5 :: .blk g4 #[.slice A21 ((q ++ [(⟨b, A9, c9⟩ : Hb)]).length) c21] 44 :: .blk g3 #[vI 0] 45 :: .blk g2 #[vN] 44 :: (hbF 35 (q ++ [(⟨b, A9, c9⟩ : Hb)]) ++ (fr))) := HM
   refine ⟨(.obj B (.deferred (some [])) :: .row (.slice A21 ((q ++ [(⟨b, A9, c9⟩ : Hb)]).length) c21) ((q ++ [(⟨b, A9, c9⟩ : Hb)]).length) ((q ++ [(⟨b, A9, c9⟩ : Hb)]).flatMap hbL) 60 5 :: .blk g4 #[.slice A21 ((q ++ [(⟨b, A9, c9⟩ : Hb)]).length) c21] 44 :: .blk g3 #[vI 0] 45 :: .blk g2 #[vN] 44 :: (hbF 35 (q ++ [(⟨b, A9, c9⟩ : Hb)]) ++ (fr))), HM.pt (fs' := (.obj lp (.loop (rec .busy none)) :: .obj B (.deferred (some [])) :: .row (.slice A21 ((q ++ [(⟨b, A9, c9⟩ : Hb)]).length) c21) ((q ++ [(⟨b, A9, c9⟩ : Hb)]).length) ((q ++ [(⟨b, A9, c9⟩ : Hb)]).flatMap hbL) 60 5 :: .blk g4 #[.slice A21 ((q ++ [(⟨b, A9, c9⟩ : Hb)]).length) c21] 44 :: .blk g3 #[vI 0] 45 :: .blk g2 #[vN] 44 :: (hbF 35 (q ++ [(⟨b, A9, c9⟩ : Hb)]) ++ (fr)))) 8 [1, 3, 4, 5, 6, 7], fun w5 HM => ?_⟩
   exact ⟨(.obj lp (.loop (rec .ready none)) :: .obj B (.deferred (some [])) :: .row (.slice A21 ((q ++ [(⟨b, A9, c9⟩ : Hb)]).length) c21) ((q ++ [(⟨b, A9, c9⟩ : Hb)]).length) ((q ++ [(⟨b, A9, c9⟩ : Hb)]).flatMap hbL) 60 5 :: .blk g4 #[.slice A21 ((q ++ [(⟨b, A9, c9⟩ : Hb)]).length) c21] 44 :: .blk g3 #[vI 0] 45 :: .blk g2 #[vN] 44 :: hbF 35 (q ++ [(⟨b, A9, c9⟩ : Hb)])), HM, .inl ⟨om, rfl, (q ++ [(⟨b, A9, c9⟩ : Hb)]), (f - 1), A21, c21, by rw [List.length_drop]; omega, by rw [← hk, List.map_append, List.append_assoc]; rfl, he, hc21, by rw [List.length_append, List.length_drop, List.length_singleton]; omega, rfl⟩⟩
  refine (qkk w w1 gp lp BB A c l _ _ _ hL hB hr hc hl om hy ⟨[], l.length, none, 0, Nat.le_refl _, List.nil_append _, rfl, Nat.le_refl _, by simp, rfl⟩ (HM.pt 7 [3, 0, 1, 2, 4, 5, 6])).mono ?_
  rintro r w2 ⟨v, rfl, F2, HM2, (⟨q, f, Ao, co, hf, hk, he, hco, hql, rfl⟩ | ⟨q, e, hen, he, rfl⟩)⟩
  ·exact ⟨v, rfl, .inl ⟨_, ⟨q, f, Ao, co, hf, hk, he, hco, hql, rfl⟩, HM2⟩⟩
  ·exact ⟨v, rfl, .inr ⟨.ret, _, ⟨rfl, q, e, hen, he, rfl⟩, HM2⟩⟩
 ·
  clear Z HM; rintro B a w6 _ ⟨q, f, Ao, co, hf, hk, he, hco, hql, rfl⟩ Z HM
  have hz := qfn (f := f) (l := []) rfl
  rw [hz] at hk he
  dsimp only at hk he
  rw [List.append_nil] at hk
  refine Jb Z HM ((JG∘JP∘Jc O2∘JW O4' O0') fun w10_1 => (JW O3' O0') fun w10_2 => (Jt1∘Jj∘JZ) fun a Z HM => ?_)
  refine qli Z HM (i := 0) rfl fun a w7 Z HM => ?_
  exact ret2 rfl Z (.cell1 (i := 4) Z HM rfl rfl kr rfl) (.cell1 (i := 3) Z HM rfl rfl kr rfl) (by rw [qr5 om he, ← hk]; exact qu7 (HM.pt (fs' := (.row (.slice Ao q.length co) q.length (q.flatMap hbL) 60 5 :: hbF 35 q)) 5 [1]) hco)
 ·
  clear Z HM; rintro _ B a w6 _ ⟨rfl, q, e, hen, he, rfl⟩ Z HM
  refine wp_ret ?_
  refine qli Z HM (i := 0) rfl fun a w7 Z HM => ?_
  exact ret2 rfl Z (.cell1 (i := 2) Z HM rfl rfl kr rfl) (.cell1 (i := 1) Z HM rfl rfl kr rfl) (qng HM (qpa om he hen) rfl)
theorem qpr (A : Option Addr) (c : Nat) (q : List Hb) (B : Nat) (w : World) (hL : LaidX B w) (hB : B ≤ w.heap.size) (hr : Rd w w.heap.size 5 A q.length (q.flatMap hbL)) (hQ : HbRd w q) (hok : ∀ h ∈ q, h.b.Ok) (hev : ∀ h ∈ q, h.b.evs.length ≤ 1000000) (hn : q.length ≤ 1000000) :
    Calls Tryz.prog 39 #[.slice A q.length c] w (qaq w (qac (q.map Hb.b)).2 (qac (q.map Hb.b)).1) := by
 refine (JN1 Tryz.func39 41) ?_
 refine (JP∘Jp 2∘Jr∘Jp 1∘Jr∘Jp 1∘Jq) fun a Z HM => ?_
 replace HM := HM.nil 5 1
 refine Jb Z HM ((JG∘JQ∘JP∘Jp 1∘Jl∘Jp 1∘Jj∘JB) fun a Z HM => ?_)
 refine qi (fun mS aS wS => ∃ (k : Nat) (lg : Bool) (R : List Nat) (Ao : Option Addr) (co : Nat), (k ≤ q.length) ∧ (errL (q.map Hb.b) = errL ((q.drop k).map Hb.b)) ∧ (lg = decide (524288 < (outsL ((q.take k).map Hb.b)).length)) ∧ (lg = false → R = outsL ((q.take k).map Hb.b)) ∧ (R.length ≤ 524288) ∧ (R.length ≤ co) ∧ mS = q.length - k ∧ Fr aS 41 [] [(12, vI k), (11, vI q.length), (10, .slice A q.length c), (5, .bool lg), (4, .slice Ao R.length co), (3, vI 0), (2, vN)] ∧ Mem w wS [.row (.slice Ao R.length co) R.length (R.map B8) 5 1]) (m := q.length - 0) ⟨0, false, [], none, 0, Nat.zero_le _, by rw [List.drop_zero], rfl, by intro _; rfl, by simp, Nat.le_refl _, rfl, Z.sub kr, HM.pk [0]⟩ ?_
 clear Z HM; rintro mS a w_ ⟨k, lg, R, Ao, co, hk, her, hlg, hR, hRl, hco, rfl, Z, HM⟩
 refine Jb Z HM ((JP∘Jp 1∘Jj∘JQ) (Ju (fun hb13 => ?_) fun hb13 => ?_))
 ·
  intro a Z HM
  have hd13 := of_decide_eq_true hb13
  have hk13 : k < q.length := by omega
  have hat := q2r hk13
  have hoq := congrArg List.length (q0a hk13)
  rw [List.length_append] at hoq
  have hol := qu4 (q.getD k Hb.zero).b
  have htk := qvv (q := q) k
  refine Jb Z HM ((JT∘JS'∘JQ∘JB∘JP) ?_)
  repeat (first | clear Z | clear HM)
  intro a Z HM
  obtain ⟨gA, oA, rfl, _⟩ := hr.qt (Nat.lt_of_le_of_lt (Nat.zero_le _) (show k < q.length from by omega)) de
  refine Jb Z HM ((Jy (v := vP gA (oA + k * 5)) (h:=by exact Yl.ix gA oA k 5 rfl rfl rfl)∘Jy (v := .agg ((q.getD k Hb.zero).b.cells (q.getD k Hb.zero).A (q.getD k Hb.zero).c)) (h:=by exact Yl.qr rfl rfl si_bk rfl (fun _ h => (h.old hr).qah qdu ((getD_at Hb.zero (k := k) (by first | omega | (simp; omega))))))∘JA #[vB 0, vB 0, vI 0, vI 0, vN]) fun w7 g7 => (JV si_bk O0' (h1:=by exact qas _ _ _)) fun w5_3 => (Jd2∘Jr∘Jy (v := .agg ((q.getD k Hb.zero).b.cells (q.getD k Hb.zero).A (q.getD k Hb.zero).c)) (h:=by exact Yl.qr rfl rfl si_bk rfl (fun _ h => qb (h.blk (i := 0) rfl)))∘JK (h:=by exact fun HM => qvc (q.getD k Hb.zero).b (hok _ (qa5 Hb.zero hk13)) ((q.getD k Hb.zero).A) (q.getD k Hb.zero).c B _ (hL.mem HM hB) (HM.le hB) (HM.old (hQ.at hk13)) (hev _ (qa5 Hb.zero hk13)) rfl rfl)) fun A18 c18 w18 hc18 => (Jp 1∘Jx∘Jx∘Jp 2∘Jj∘JQ∘JP∘Jp 2∘Jd1∘Jj) (Ju (fun hb22 => ?_) fun hb22 => ?_))
  ·
   intro a Z HM
   have hd22 := bne_iff_ne.1 hb22
   have hE : errL (q.map Hb.b) = (q.getD k Hb.zero).b.err := by rw [her, hat, if_neg om]
   exact Jb Z HM ((JT∘JP∘Jp 3∘Jj∘JZ∘Jz2) fun HM => qkl HM.below (qr2 (by rw [hE]; omega)) (by rw [hE]))
  intro a Z HM
  have hd22 := bne_eq_false_iff_eq.1 hb22
  have hE : errL (q.map Hb.b) = errL ((q.drop (k + 1)).map Hb.b) := by rw [her, hat, if_pos om]
  refine Jb Z HM ((JF∘JS'∘JP∘Jp 2) (Ju (fun hb25 => ?_) fun hb25 => ?_))
  ·
   intro a Z HM
   have hlong : 524288 < (outsL ((q.take k).map Hb.b)).length := of_decide_eq_true (hlg.symm.trans hb25)
   refine Jb Z HM ((Jv 8 [(5, .bool true)]∘Jd2∘Jr∘Jp 2∘Jd1∘Jj∘JF∘JS'∘JR∘JaK 1∘Jp 1∘Jd1∘Jq) fun a Z HM => ?_)
   exact ⟨_, om, k + 1, true, R, Ao, co, by omega, hE, (decide_eq_true om).symm, (by intro h; cases h), hRl, hco, rfl, Z.sub kr, HM.pk [2]⟩
  intro a Z HM
  have hlong : ¬ 524288 < (outsL ((q.take k).map Hb.b)).length := of_decide_eq_false (hlg.symm.trans hb25)
  have hRe := hR hb25
  have hRl2 : R.length = (outsL ((q.take k).map Hb.b)).length := by rw [hRe]
  refine Jb Z HM ((Jp 1∘Jl∘Jp 1∘Jl∘Ja∘Jp 3∘Jd6∘Jr∘Jp 2∘Jd1∘Jj) (Ju (fun hb34 => ?_) fun hb34 => ?_))
  ·
   intro a Z HM
   have hd34 := of_decide_eq_false ((Bool.not_eq_true' _).mp hb34)
   replace Z := Z.on 5 ((Bool.not_eq_true' _).mp hb34)
   refine Jb Z HM ((JT∘JR∘Jp 2) fun a Z HM => ?_)
   refine fo Z 2 rfl rfl (qn Z HM (i := 2) rfl ei_u8 rfl rfl rfl (news := ((q.getD k Hb.zero).b.out.map B8)) (HM.rd (i := 0) rfl) (qba _) om om rfl de ?_)
   clear Z HM; intro a w37 A37 c37 Z HM hc37
   rw [show (R.map B8) ++ ((q.getD k Hb.zero).b.out.map B8) = (R ++ (q.getD k Hb.zero).b.out).map B8 from by rw [List.map_append]] at HM
   refine Jb Z HM ((Jp 1∘Jd3∘Jq) fun a Z HM => ?_)
   have hnA37 : R.length + ((q.getD k Hb.zero).b.out.length) = (R ++ (q.getD k Hb.zero).b.out).length := by rw [List.length_append]
   replace HM := HM.reRow (i := 2) (ys := (R ++ (q.getD k Hb.zero).b.out).map B8) rfl hnA37 (rfl)
   rw [hnA37] at hc37
   replace Z := Z.sp 4 (.slice A37 ((R ++ (q.getD k Hb.zero).b.out).length) c37) rfl (by rw [hnA37])
   refine Jb Z HM ((JG∘JR∘JaK 1∘Jp 1∘Jd1∘Jq) fun a Z HM => ?_)
   exact ⟨_, om, k + 1, false, (R ++ (q.getD k Hb.zero).b.out), A37, c37, by omega, hE, (decide_eq_false om).symm, (by intro _; rw [hRe, q0a hk13]), (by rw [List.length_append]; omega), hc37, rfl, Z.sub kr, HM.pk [2]⟩
  intro a Z HM
  have hd34 := of_decide_eq_true ((Bool.not_eq_false' _).mp hb34)
  replace Z := Z.on 5 ((Bool.not_eq_false' _).mp hb34)
  refine Jb Z HM ((JF∘JS'∘JR∘JaK 1∘Jp 1∘Jd1∘Jq) fun a Z HM => ?_)
  exact ⟨_, om, k + 1, true, R, Ao, co, by omega, hE, (decide_eq_true om).symm, (by intro h; cases h), hRl, hco, rfl, Z.sub kr, HM.pk [2]⟩
 intro a Z HM
 have hd13 := of_decide_eq_false hb13
 have hkn : k = q.length := by omega
 have hdn : errL (q.map Hb.b) = 0 := by rw [her, List.drop_of_length_le om]; rfl
 have htn : q.take k = q := List.take_of_length_le om
 rw [htn] at hlg hR
 refine Jb Z HM ((JF∘JX∘JG∘JQ∘JP∘Jp 1∘Jj) (Ju (fun hb39 => ?_) fun hb39 => ?_))
 ·
  intro a Z HM
  have hlong : 524288 < (outsL (q.map Hb.b)).length := of_decide_eq_true (hlg.symm.trans hb39)
  exact Jb Z HM ((JT∘JP∘Jp 2∘Jj∘JZ∘Jz2) fun HM => qkl HM.below (qo8 hdn hlong) rfl)
 intro a Z HM
 have hlong : ¬ 524288 < (outsL (q.map Hb.b)).length := of_decide_eq_false (hlg.symm.trans hb39)
 have hRe := hR hb39
 exact Jb Z HM ((JF∘JS'∘JP∘Jp 3∘Jj∘JZ∘Jz2) fun HM => by rw [qvu hdn hlong, ← hRe]; exact ⟨⟨Ao, co, rfl, HM.own (i := 0) rfl, hco⟩, HM.below⟩)
theorem qsv (g : Nat) (lim : Int) (A : Option Addr) (n c : Nat) (w : World) (hg : w.heap[g]? = some (.cells #[vI lim, .slice A n c] 88 (0, 0))) :
    Calls Tryz.prog 52 #[vP g 0] w (Is w (.bool (lim == 0))) := by
 refine (JN1 Tryz.func52 12) ?_
 exact (JP∘Jp 1∘Jr∘Jp 1∘Jy (v := .bool false) (h:=by exact Yl.qoc rfl rfl rfl)∘Jp 2∘Jn∘Jf 0∘Jy (v := vI lim) (h:=by exact Yl.qx rfl rfl kr (fun _ h => h.zh hg rfl))∘Jp 3∘Jd6∘Jj∘JZ) JY1
theorem qjc (g : Nat) (lim : Int) (A : Option Addr) (n c : Nat) (w : World) (hg : w.heap[g]? = some (.cells #[vI lim, .slice A n c] 88 (0, 0))) (hlim : lim ≠ 0) :
  Calls Tryz.prog 52 #[vP g 0] w (Is w (.bool false)) := by
 have h := qsv g lim A n c w hg
 rwa [beq_false_of_ne hlim] at h
theorem qn8 (A : Option Addr) (c : Nat) (l : List Nat) (w : World) (hr : Rd w w.heap.size 1 A l.length (l.map B8)) (hn : l.length ≤ 100000000) :
    Calls Tryz.prog 43 #[.slice A l.length c] w (zr w l) := by
 refine (JN1 Tryz.func43 8) ?_
 refine (JP∘Jp 1∘Jj∘JQ∘JP∘Jp 1∘Jy (v := .bool A.isNone) (h:=by exact Yl.q3d rfl rfl rfl)∘Jd1∘Jj) (Ju (fun hb4 => ?_) fun hb4 => ?_)
 ·
  repeat (first | clear Z | clear HM)
  intro a Z HM
  obtain rfl : A = none := by cases A with | none => rfl | some a => cases hb4
  revert HM; revert a; repeat (first | clear Z | clear HM)
  intro a Z HM
  obtain rfl : l = [] := hr.q1z
  exact Jb Z HM ((JT∘JP∘Jp 1∘Jj∘JZ∘Jz1) fun HM => by exact ⟨⟨none, 0, rfl, World.ownsRow_nil _ _ _ _, Nat.le_refl _⟩, HM.below⟩)
 refine (JF∘JS'∘JP) fun a Z HM => ?_
 refine fo Z 0 rfl rfl ?_
 refine qp6 Z HM rfl ei_u8 rfl de ?_
 clear Z HM; intro a w5 g5 Z HM
 refine Jb Z HM ((Jp 1) fun a Z HM => ?_)
 refine fo Z 2 rfl rfl (qn Z HM (i := 0) rfl ei_u8 rfl rfl rfl (news := (l.map B8)) (HM.old hr) (qba _) om om rfl de ?_)
 clear Z HM; intro a w7 A7 c7 Z HM hc7
 exact Jb Z HM ((Jp 1∘Jd3∘Jj∘JZ∘Jz1) fun HM => by exact ⟨⟨A7, c7, by rw [Nat.zero_add], by have h := HM.own (i := 0) rfl; rwa [Nat.zero_add, List.nil_append] at h, by omega⟩, HM.below⟩)
def NewIs (w : World) (lim : Int) (r : Ending) (w' : World) : Prop := ((lim < 1 ∨ 4096 < lim) ∧ Is w (.tuple #[.pointer none, vI 2]) r w') ∨ (¬ (lim < 1 ∨ 4096 < lim) ∧ ∃ g, r = .returned (.tuple #[vP g 0, vI 0]) ∧ Mem w w' [.blk g #[vI lim, vN] 88])
theorem qq8 {w w' : World} {lim : Int} (h : lim < 1 ∨ 4096 < lim) (hb : Below w.heap.size w w') : NewIs w lim (.returned (.tuple #[.pointer none, vI 2])) w' := .inl ⟨h, rfl, hb⟩
theorem qzf {w w' : World} {lim : Int} {g : Nat} (h : ¬ (lim < 1 ∨ 4096 < lim)) (hm : Mem w w' [.blk g #[vI lim, vN] 88]) : NewIs w lim (.returned (.tuple #[vP g 0, vI 0])) w' := .inr ⟨h, g, rfl, hm⟩
theorem qwu (lim : Int) (hl : I64 lim) (w : World) :
    Calls Tryz.prog 27 #[vI lim] w (NewIs w lim) := by
 refine (JN1 Tryz.func27 13) ?_
 refine (JP∘Jp 2∘Jj∘JQ∘JP∘Jp 3) (Ji (fun hd6 => ?_) fun hd6 => ?_)
 ·
  exact (Jp 3∘Jd5∘Jj∘JT∘JP∘Jp 2∘Jj∘JZ∘Jz2) fun HM => qq8 om HM.below
 refine (Jp 3∘Jd5∘Jj) (Ji (fun hd9 => ?_) fun hd9 => ?_)
 ·
  exact (JT∘JP∘Jp 2∘Jj∘JZ∘Jz2) fun HM => qq8 om HM.below
 exact (JF∘JS'∘JP∘Jp 1∘Jy (v := .agg #[vI lim, vN]) (h:=by exact Yl.build (vs := [(0, vI lim)]) rfl kr kr)∘JE) fun w12 g12 => (Jp 2∘Jj∘JZ∘Jz2) fun HM => qzf om (HM.pk [0])
theorem qsw (A : Option Addr) (c : Nat) (q : List Hb) (B : Nat) (w : World) (hL : LaidX B w) (hB : B ≤ w.heap.size) (hr : Rd w w.heap.size 5 A q.length (q.flatMap hbL)) (hQ : HbRd w q) (hok : ∀ h ∈ q, h.b.Ok) (hev : ∀ h ∈ q, h.b.evs.length ≤ 1000000) (hn : q.length ≤ 1000000) {R : List Nat} {er : Nat} (h : qac (q.map Hb.b) = (R, er)) :
  Calls Tryz.prog 39 #[.slice A q.length c] w (qaq w er R) := by
 have h1 := qpr A c q B w hL hB hr hQ hok hev hn
 rw [h] at h1
 exact h1
theorem qn9 (W w : World) (g : Nat) (lim : Int) (A : Option Addr) (c : Nat) (out : List Nat) (fs : List Fact) (HW : Mem W w (.blk g #[vI lim, .slice A out.length c] 88 :: .row (.slice A out.length c) out.length (out.map B8) 5 1 :: fs)) (hc : out.length ≤ c) (hout : out.length ≤ 524288) (A2 : Option Addr) (c2 : Nat) (q : List Hb) (B : Nat) (hL : LaidX B w) (hBW : B ≤ W.heap.size) (hr : Rd w w.heap.size 5 A2 q.length (q.flatMap hbL)) (hQ : HbRd w q) (hok : ∀ h ∈ q, h.b.Ok) (hev : ∀ h ∈ q, h.b.evs.length ≤ 1000000) (hn : q.length ≤ 1000000) :
    Calls Tryz.prog 53 #[vP g 0, .slice A2 q.length c2] w (WrIs W 88 g lim (qbj out (q.map Hb.b)).1 fs (vI ((qbj out (q.map Hb.b)).2 : Int))) := by
 have hg := HW.blk (i := 0) rfl
 have hB := Nat.le_trans hBW HW.size
 have hrA := HW.rd (i := 1) rfl
 refine (JN2 Tryz.func53 33) ?_
 refine (JP∘Jp 1∘Jq) fun a Z HM => ?_
 obtain ⟨R, er, hws⟩ : ∃ R er, qac (q.map Hb.b) = (R, er) := ⟨_, _, rfl⟩
 have hRl : R.length ≤ 524288 := by have h := qr3 (q.map Hb.b); rw [hws] at h; exact h
 refine Jb Z HM ((JG∘JP∘Jp 1∘JK (h:=by exact fun HM => qsw A2 c2 q B _ (hL.mem HM hB) (HM.le hB) (HM.old hr) (HbRd.old hQ HM) hok hev hn hws)) fun A9 c9 w9 hc9 => (Jp 1∘Jx∘Jx∘Jp 2∘Jj∘JQ∘JP∘Jp 2∘Jd1∘Jj) (Jh (fun hd13 => ?_) fun hd13 => ?_))
 ·
  exact (JT∘JP∘Jp 2∘Jd1∘Jj∘JZ∘Jz1) fun HM => qls (qpb hws om) rfl hc (HW.call HM.below)
 refine (JF∘JS'∘JQ∘JP∘Jp 1∘Jn∘Jf 1∘Jy (v := .slice A out.length c) (h:=by exact Yl.qx rfl rfl kr (fun _ h => h.zh hg rfl))∘Jl∘Jp 1∘Jl∘Ja∘Jp 1∘Jd6∘Jj) (Ju (fun hb23 => ?_) fun hb23 => ?_)
 ·
  intro a Z HM
  have hd23 := of_decide_eq_true hb23
  exact Jb Z HM ((JT∘JP∘Jp 1∘Jj∘JZ∘Jz1) fun HM => qls (qnh hws om om) rfl hc (HW.call HM.below))
 intro a Z HM
 have hd23 := of_decide_eq_false hb23
 replace HM : Mem W _ (.row (.slice A9 R.length c9) R.length (R.map B8) 5 1 :: .blk g #[vI lim, .slice A out.length c] 88 :: .row (.slice A out.length c) out.length (out.map B8) 5 1 :: fs) := HW.join HM
 refine Jb Z HM ((JF∘JS'∘JP∘Jp 2∘Jn∘Jg 1 O1∘Jp 1) fun a Z HM => ?_)
 refine fo Z 6 rfl rfl (qn Z HM (i := 2) rfl ei_u8 rfl rfl rfl (news := (R.map B8)) (HM.rd (i := 0) rfl) (qba _) om om rfl de ?_)
 clear Z HM; intro a w30 A30 c30 Z HM hc30
 rw [show (out.map B8) ++ (R.map B8) = (out ++ R).map B8 from by rw [List.map_append]] at HM
 refine Jb Z HM ((Jn∘Jf 1∘JW O1' O1') fun w6_9 => (Jt6∘Jq) fun a Z HM => ?_)
 have hnA30 : out.length + R.length = (out ++ R).length := by rw [List.length_append]
 replace HM := HM.reRow (i := 2) (ys := (out ++ R).map B8) rfl hnA30 (rfl)
 rw [hnA30] at hc30
 replace HM := HM.reBlk (i := 1) (ds := #[vI lim, .slice A30 (out ++ R).length c30]) rfl (by rw [hnA30]; try rfl)
 exact Jb Z HM ((JG∘JP∘Jp 1∘Jd2∘Jj∘JZ∘Jz1) fun HM => qls (qr6 hws om om) rfl hc30 (HM.pt 3 [1, 2]))
theorem qps (W w : World) (g : Nat) (lim : Int) (A : Option Addr) (c : Nat) (out : List Nat) (fs : List Fact) (HW : Mem W w (.blk g #[vI lim, .slice A out.length c] 88 :: .row (.slice A out.length c) out.length (out.map B8) 5 1 :: fs)) (hc : out.length ≤ c) (hout : out.length ≤ 524288) (A2 : Option Addr) (c2 : Nat) (q : List Hb) (B : Nat) (hL : LaidX B w) (hBW : B ≤ W.heap.size) (hr : Rd w w.heap.size 5 A2 q.length (q.flatMap hbL)) (hQ : HbRd w q) (hok : ∀ h ∈ q, h.b.Ok) (hev : ∀ h ∈ q, h.b.evs.length ≤ 1000000) (hn : q.length ≤ 1000000) {o2 : List Nat} {we : Nat} (h : qbj out (q.map Hb.b) = (o2, we)) :
  Calls Tryz.prog 53 #[vP g 0, .slice A2 q.length c2] w (WrIs W 88 g lim o2 fs (vI we)) := by
 have h1 := qn9 W w g lim A c out fs HW hc hout A2 c2 q B hL hBW hr hQ hok hev hn
 rw [h] at h1
 exact h1
theorem qh5 (cpu : Nat) (hcpu : cpu < 256) (A : Option Addr) (n c : Nat) (l : List It) (opn limit : Int) (hok : ∀ x ∈ l, x.Ok) (ho : I64 opn) (hlm : I64 limit) (B : Nat) (w : World) (hL : LaidX B w) (hB : B ≤ w.heap.size) (hr : Rd w w.heap.size 12 A n (l.flatMap itL)) (hc : n ≤ c) (hln : l.length = n) (hn : n ≤ 1000000) {bs : List Bk} {ce : Nat} (h : cutS cpu l opn limit = (bs, ce)) :
  Calls Tryz.prog 26 #[vB cpu, .slice A n c, vI opn, vI limit] w (qhq 35 60 w ce bs) := by
 have h1 := qwt cpu hcpu A n c l opn limit hok ho hlm B w hL hB hr hc hln hn
 rw [h] at h1
 exact h1
theorem qwv (W w : World) (g : Nat) (lim : Int) (A : Option Addr) (c : Nat) (out : List Nat) (fs : List Fact) (HW : Mem W w (.blk g #[vI lim, .slice A out.length c] 88 :: .row (.slice A out.length c) out.length (out.map B8) 5 1 :: fs)) (hc : out.length ≤ c) (hout : out.length ≤ 524288) (hlim : lim ≠ 0) (next : Int) (hnx : I64 next) (B : Nat) (hL : LaidX B w) (hBW : B ≤ W.heap.size) :
    Calls Tryz.prog 28 #[vP g 0, vI next] w (WrIs W 88 g lim (qbj out [endB next]).1 fs (vI ((qbj out [endB next]).2 : Int))) := by
 have hg := HW.blk (i := 0) rfl
 have hB := Nat.le_trans hBW HW.size
 have hrA := HW.rd (i := 1) rfl
 refine (JN2 Tryz.func28 12) ?_
 refine (JP∘Jp 1∘Jj∘JQ∘JP∘Jp 1∘JI (h:=by exact fun HM => qjc g lim A out.length c _ (HM.oldBlk hg) hlim)) fun w6 hbw => (Jd1∘Jq) fun a Z HM => ?_
 replace HM : Mem W _ (.blk g #[vI lim, .slice A out.length c] 88 :: .row (.slice A out.length c) out.length (out.map B8) 5 1 :: fs) := HW.join HM
 obtain ⟨o2, we, hww⟩ : ∃ o2 we, qbj out [endB next] = (o2, we) := ⟨_, _, rfl⟩
 refine Jb Z HM ((JG∘JF∘JS'∘JP∘Jp 2∘Jy (v := .agg #[vB 2, vB 0, vI 0, vI next, vN]) (h:=by exact Yl.build (vs := [(0, vB 2), (3, vI next)]) rfl kr kr)) fun a Z HM => ?_)
 refine fo Z 3 rfl rfl (s_el Z HM qkh [(0, .agg #[vB 2, vB 0, vI 0, vI next, vN])] #[vB 2, vB 0, vI 0, vI next, vN] ?_)
 clear Z HM; intro a w10 g10 Z HM
 refine Jb Z HM ((JL (h:=by exact fun HM => qps W _ g lim A c out _ (HM.pt 3 [1, 2, 0]) hc hout _ 1 [⟨endB next, none, 0⟩] B (hL.mem2 HW HM hBW) hBW (HM.rdBlk (i := 0) (n := 1) (size := 5) rfl rfl) (by intro x hx; rw [List.mem_singleton] at hx; subst hx; exact Rd.nil) (by intro x hx; rw [List.mem_singleton] at hx; subst hx; exact q1g hnx) (by intro x hx; rw [List.mem_singleton] at hx; subst hx; exact Nat.zero_le _) (by show 1 ≤ 1000000; decide) hww)) ?_)
 rintro HM _ w11 ⟨rfl, A11, c11, hc11, HM2⟩
 refine ⟨_, rfl, _, HM2, ?_⟩
 exact (Jp 1∘Jd5∘Jj∘JZ∘Jz1) fun HM => qls hww rfl hc11 (HM.pt 3 [0, 1])
theorem qjd (g : Nat) (lim : Int) (A : Option Addr) (c : Nat) (out : List Nat) (w : World) (hg : w.heap[g]? = some (.cells #[vI lim, .slice A out.length c] 88 (0, 0))) (hrA : Rd w w.heap.size 1 A out.length (out.map B8)) (hout : out.length ≤ 524288) (hlim : lim ≠ 0) :
    Calls Tryz.prog 30 #[vP g 0] w (zr w out) := by
 refine (JN1 Tryz.func30 10) ?_
 exact (JP∘Jp 1∘Jj∘JQ∘JP∘Jp 1∘JI (h:=by exact fun HM => qjc g lim A out.length c _ (HM.oldBlk hg) hlim)) fun w4 hbw => (Jd1∘Jj∘JF∘JS'∘JP∘Jp 1∘Jn∘Jf 1∘Jy (v := .slice A out.length c) (h:=by exact Yl.qx rfl rfl kr (fun _ h => h.zh hg rfl))∘JK (h:=by exact fun HM => qn8 A c out _ (HM.old hrA) om)) fun A9 c9 w9 hc9 => (Jp 1∘Jd5∘Jj∘JZ∘Jz1) fun HM => by exact ⟨⟨_, _, rfl, HM.own (i := 0) rfl, hc9⟩, HM.below⟩
theorem qww (g : Nat) (lim : Int) (A : Option Addr) (c : Nat) (out : List Nat) (w : World) (hg : w.heap[g]? = some (.cells #[vI lim, .slice A out.length c] 88 (0, 0))) (hlim : lim ≠ 0) :
    Calls Tryz.prog 29 #[vP g 0] w (Is w (vI (out.length : Int))) := by
 refine (JN1 Tryz.func29 10) ?_
 exact (JP∘Jp 1∘Jj∘JQ∘JP∘Jp 1∘JI (h:=by exact fun HM => qjc g lim A out.length c _ (HM.oldBlk hg) hlim)) fun w4 hbw => (Jd1∘Jj∘JF∘JS'∘JP∘Jp 1∘Jn∘Jf 1∘Jy (v := .slice A out.length c) (h:=by exact Yl.qx rfl rfl kr (fun _ h => h.zh hg rfl))∘Jl∘Jp 1∘Jd5∘Jj∘JZ) JY1
def q20 (w : World) (l : List Nat) (r : Ending) (w' : World) : Prop := ∃ g A c, r = .returned (vP g 0) ∧ l.length ≤ c ∧ Mem w w' [.blk g #[.bool true, vI 0, .slice A l.length c] 91, .row (.slice A l.length c) l.length (l.map B8) 5 1]
theorem Mem.skip {W w : World} {f : Fact} {fs : List Fact} (h : Mem W w (f :: fs)) : Mem W w fs := h.tail
theorem qky (A : Option Addr) (c : Nat) (l : List Nat) (w : World) (hr : Rd w w.heap.size 1 A l.length (l.map B8)) (hn : l.length ≤ 100000000) :
    Calls Tryz.prog 17 #[.slice A l.length c] w (q20 w l) := by
 refine (JN1 Tryz.func17 7) ?_
 exact (JP∘Jp 1∘Jr∘Jp 1∘JK (h:=by exact fun HM => qn8 A c l _ (HM.old hr) hn)) fun A4 c4 w4 hc4 => (Jy (v := .agg #[.bool true, vI 0, .slice A4 l.length c4]) (h:=by exact Yl.build (vs := [(0, .bool true), (2, .slice A4 l.length c4)]) rfl kr kr)∘JE) fun w6 g6 => (Jp 1∘Jd4∘Jj∘JZ∘Jz1) fun HM => by exact ⟨g6, A4, c4, rfl, hc4, HM⟩
theorem qhu (g p : Nat) (A : Option Addr) (c : Nat) (l : List Nat) (w : World) (hg : w.heap[g]? = some (.cells #[.bool true, vI p, .slice A l.length c] 91 (0, 0))) :
    Calls Tryz.prog 25 #[vP g 0] w (Is w (vI p)) := by
 refine (JN1 Tryz.func25 9) ?_
 exact (JP∘Jp 1∘Jj∘JQ∘JP∘Jp 1∘Jy (v := .bool false) (h:=by exact Yl.qoc rfl rfl rfl)∘Jd1∘Jj∘JF∘JS'∘JP∘Jp 1∘Jn∘Jf 1∘Jy (v := vI p) (h:=by exact Yl.qx rfl rfl kr (fun _ h => h.zh hg rfl))∘Jp 1∘Jd4∘Jj∘JZ) JY1
theorem qsx (W w : World) (g p : Nat) (A : Option Addr) (c : Nat) (l : List Nat) (fs : List Fact) (HW : Mem W w (.blk g #[.bool true, vI p, .slice A l.length c] 91 :: .row (.slice A l.length c) l.length (l.map B8) 5 1 :: fs)) (hp : p ≤ l.length) (hc : l.length ≤ c) (hl : ∀ b ∈ l, b < 256) (hn : l.length ≤ 100000000) (B : Nat) (hL : LaidX B w) (hBW : B ≤ W.heap.size) :
    Calls Tryz.prog 21 #[vP g 0] w (q0b W 91 g p l A c fs (nextR l p)) := by
 have hg := HW.blk (i := 0) rfl
 have hrA := HW.rd (i := 1) rfl
 have hB := Nat.le_trans hBW HW.size
 refine (JN1 Tryz.func21 52) ?_
 refine (JP∘JA #[vB 0, vB 0, vI 0, vI 0, vN]) fun w2 g2 => (Jp 1∘Jj∘JQ∘JP∘Jp 1∘Jy (v := .bool false) (h:=by exact Yl.qoc rfl rfl rfl)∘Jp 2∘Jn∘Jf 0∘Jy (v := .bool true) (h:=by exact Yl.qx rfl rfl kr (fun _ h => h.zh hg rfl))∘Jp 2∘Jd6∘Jj∘JF∘JS'∘JQ) fun a Z HM => ?_
 refine wp_seq ?_
 refine Jb Z HM ((Vs .n []) fun wd3 => (Vp [0, 4]∘Vn 1∘Vf 2 1∘Vy 3 (v := vI p) (h:=by exact Yl.qx rfl rfl kr (fun _ h => h.zh hg rfl))∘Vn 5∘Vf 6 2∘Vy 7 (v := .slice A l.length c) (h:=by exact Yl.qx rfl rfl kr (fun _ h => h.zh hg rfl))∘Vl 8∘Vp [9]∘Vd∘Jd6) (Ju (fun hb26 => ?_) fun hb26 => ?_))
 ·
  intro a Z HM
  have hd26 := eq_of_beq hb26
  have hpl : p = l.length := by omega
  have hz : nextR l p = (Bk.zero, 0, 6) := if_pos hpl
  refine Jb Z HM ((JT∘JP∘Jy (v := .agg #[vB 0, vB 0, vI 0, vI 0, vN]) (h:=by exact Yl.build (vs := []) rfl kr kr)∘JV si_bk O0') fun w4_1 => (Jp 1∘Jd1∘Jj∘JZ) fun a Z HM => ?_)
  exact ret2 rfl Z (.cellS (i := 0) Z HM rfl rfl si_bk rfl) (.tmp Z rfl) (by have HM := HW.join HM; exact qnj (b := Bk.zero) (A' := none) (c' := 0) hz rfl (Nat.le_refl _) (Mem.nil (Mem.skip HM) _ _))
 intro a Z HM
 have hd26 := ne_of_beq_false hb26
 have hpl : p ≠ l.length := by omega
 obtain ⟨b, m, er, hq⟩ : ∃ b m er, readB (l.drop p) = (b, m, er) := ⟨_, _, _, rfl⟩
 have hz : nextR l p = (b, m, er) := (if_neg hpl).trans hq
 have hpm := qni hl hp hz
 refine Jb Z HM ((JF∘JS') fun a Z HM => ?_)
 refine zk (fun aS wS => ∃ (A38 : Option Addr) (c38 : Nat) (g4 : Nat), Fr aS 52 [] [(6, vI er), (5, vI m), (4, vP g4 0), (26, .bool false), (15, .bool false), (3, vI 0), (2, vP g2 0), (0, vP g 0)] ∧ Mem w wS [.blk g4 (b.cells A38 c38) 60, .row (.slice A38 b.evs.length c38) b.evs.length (b.evs.flatMap evL) 35 11, .blk g2 #[vB 0, vB 0, vI 0, vI 0, vN] 60] ∧ (b.evs.length ≤ c38)) ?_ ?_
 ·
  refine Jb Z HM ((Vs .n [15]) fun wd5 => (Vp [0, 4]∘Vn 1∘Vf 2 2∘Vy 3 (v := .slice A l.length c) (h:=by exact Yl.qx rfl rfl kr (fun _ h => h.zh hg rfl))∘Vn 5∘Vf 6 1∘Vy 7 (v := vI p) (h:=by exact Yl.qx rfl rfl kr (fun _ h => h.zh hg rfl))∘Vy 8 (v := .slice (if c = p then A else A.map (·.add (p * 1))) (l.length - p) (c - p)) (h:=by exact Yl.sliceFrom ei_u8 (j := p) rfl rfl rfl om)) fun a Z HM HS => ?_)
  refine qcl [9, 14] kr rfl ?_
  refine all_cons ?_ ?_
  ·refine qa8 Z (i := 9) rfl rfl ?_
   refine s_ek Z HM [.slice (if c = p then A else A.map (·.add (p * 1))) (l.length - p) (c - p)] (qln (if c = p then A else A.map (·.add (p * 1))) (l.length - p) (c - p) (l.drop p) B _ (hL.mem HM hB) (HM.le hB) (HM.old (hrA.qhx hp hc)) om (by rw [List.length_drop]) om (zw hl p) hq) fun A38 c38 w38 hc38 HM a Z => ?_
   refine keepS (HM.pk [1]) (fun HS => ?_)
   refine Vb Z HM HS ((Vp [10]∘Vx 11∘Vx 12∘Vx 13∘VA 14 (.f .n) #[vB 0, vB 0, vI 0, vI 0, vN]) fun w4 g4 => fun a Z HM HS => ?_)
   refine s_on Z 15 rfl (e_sa Z HM 0 rfl rfl rfl rfl rfl si_bk rfl rfl (qas _ _ _) fun w5_15 HM => ?_)
   refine noS kr ?_
   refine ap Z (pastS kr) [16, 17] (bt 18 []) [(6, vI er), (5, vI m)] fun a Z => ?_
   refine qh kr ?_
   exact ⟨A38, c38, g4, Z.sub kr, HM.pk [0, 1, 2], hc38⟩
  refine all_cons ?_ all_nil
  refine qa8 Z (i := 14) rfl rfl ?_
  refine s_ea Z HM #[vB 0, vB 0, vI 0, vI 0, vN] ?_
  clear Z HM; intro a w4 g4 Z HM
  refine keepS (HM.pk [1]) (fun HS => ?_)
  refine Vb Z HM HS ((VK 9 (.f .n) (h:=by exact fun HM => qln (if c = p then A else A.map (·.add (p * 1))) (l.length - p) (c - p) (l.drop p) B _ (hL.mem HM hB) (HM.le hB) (HM.old (hrA.qhx hp hc)) om (by rw [List.length_drop]) om (zw hl p) hq)) fun A38 c38 w38 hc38 => (Vp [10]∘Vx 11∘Vx 12∘Vx 13) fun a Z HM HS => ?_)
  refine s_on Z 15 rfl (e_sa Z HM 1 rfl rfl rfl rfl rfl si_bk rfl rfl (qas _ _ _) fun w5_15 HM => ?_)
  refine noS kr ?_
  refine ap Z (pastS kr) [16, 17] (bt 18 []) [(6, vI er), (5, vI m)] fun a Z => ?_
  refine qh kr ?_
  exact ⟨A38, c38, g4, Z.sub kr, HM.pk [1, 0, 2], hc38⟩
 clear Z HM; rintro a w5 ⟨A38, c38, g4, Z, HM, hc38⟩
 skip
 ·
  replace HM : Mem W _ (.blk g4 (b.cells A38 c38) 60 :: .row (.slice A38 b.evs.length c38) b.evs.length (b.evs.flatMap evL) 35 11 :: .blk g2 #[vB 0, vB 0, vI 0, vI 0, vN] 60 :: .blk g #[.bool true, vI p, .slice A l.length c] 91 :: .row (.slice A l.length c) l.length (l.map B8) 5 1 :: fs) := HW.join HM
  refine Jb Z HM ((JP∘Jp 1∘Jn∘Jg 1 O3∘Jp 1∘Ja∘Jn∘Jf 1∘JW O3' O1') fun w6_8 => (Jt6∘Jr∘Jy (v := .agg (b.cells A38 c38)) (h:=by exact Yl.qr rfl rfl si_bk rfl (fun _ h => qb (h.blk (i := 0) rfl)))∘Jp 1∘JV si_bk O2' (h1:=by exact qas _ _ _)) fun w7_2 => (Jp 1∘Jd5∘Jj∘JZ) fun a Z HM => ?_)
  exact ret2 rfl Z (.cellS (i := 2) Z HM rfl rfl si_bk rfl) (.tmp Z rfl) (qnj hz rfl hc38 (HM.pt 5 [1, 3, 4]))
theorem qzg (lim : Int) (w : World) (h : 1 ≤ lim ∧ lim ≤ 4096) : Calls Tryz.prog 27 #[vI lim] w fun r w' => ∃ g, r = .returned (.tuple #[vP g 0, vI 0]) ∧ Mem w w' [.blk g #[vI lim, vN] 88] :=
 (qwu lim (by unfold I64; omega) w).mono fun r w' h1 => by
  rcases h1 with ⟨h2, _⟩ | ⟨_, h2⟩
  ·omega
  ·exact h2
theorem qq9 (W w : World) (g : Nat) (lim : Int) (A : Option Addr) (c : Nat) (out : List Nat) (fs : List Fact) (HW : Mem W w (.blk g #[vI lim, .slice A out.length c] 88 :: .row (.slice A out.length c) out.length (out.map B8) 5 1 :: fs)) (hc : out.length ≤ c) (hout : out.length ≤ 524288) (hlim : lim ≠ 0) (next : Int) (hnx : I64 next) (B : Nat) (hL : LaidX B w) (hBW : B ≤ W.heap.size) {o2 : List Nat} {we : Nat} (h : qbj out [endB next] = (o2, we)) :
  Calls Tryz.prog 28 #[vP g 0, vI next] w (WrIs W 88 g lim o2 fs (vI we)) := by
 have h1 := qwv W w g lim A c out fs HW hc hout hlim next hnx B hL hBW
 rw [h] at h1
 exact h1
theorem qzh (g : Nat) (lim : Int) (A : Option Addr) (c : Nat) (out : List Nat) (w : World) (hg : w.heap[g]? = some (.cells #[vI lim, .slice A out.length c] 88 (0, 0))) (hlim : lim ≠ 0) {n : Nat} (h : out.length = n) :
  Calls Tryz.prog 29 #[vP g 0] w (Is w (vI n)) := by
 have h1 := qww g lim A c out w hg hlim
 rw [h] at h1
 exact h1
theorem qgn (W w : World) (g p : Nat) (A : Option Addr) (c : Nat) (l : List Nat) (fs : List Fact) (HW : Mem W w (.blk g #[.bool true, vI p, .slice A l.length c] 91 :: .row (.slice A l.length c) l.length (l.map B8) 5 1 :: fs)) (hp : p ≤ l.length) (hc : l.length ≤ c) (hl : ∀ b ∈ l, b < 256) (hn : l.length ≤ 100000000) (B : Nat) (hL : LaidX B w) (hBW : B ≤ W.heap.size) {b : Bk} {m er : Nat} (h : nextR l p = (b, m, er)) {p2 : Nat} (h2 : p + m = p2 := by rfl) :
  Calls Tryz.prog 21 #[vP g 0] w fun r w' => ∃ A' c', r = .returned (.tuple #[.agg (b.cells A' c'), vI er]) ∧ b.evs.length ≤ c' ∧ Mem W w' (.row (.slice A' b.evs.length c') b.evs.length (b.evs.flatMap evL) 35 11 :: .blk g #[.bool true, vI ((p2 : Nat) : Int), .slice A l.length c] 91 :: .row (.slice A l.length c) l.length (l.map B8) 5 1 :: fs) := by
 have h1 := qsx W w g p A c l fs HW hp hc hl hn B hL hBW
 subst h2
 rw [h] at h1
 exact h1
theorem q0l (A : Option Addr) (n c : Nat) (l : List Nat) (B : Nat) (w : World) (hL : LaidX B w) (hB : B ≤ w.heap.size) (hr : Rd w w.heap.size 1 A n (l.map B8)) (hc : n ≤ c) (hl : ∀ b ∈ l, b < 256) (hln : l.length = n) (hn : n ≤ 100000000) {bs : List Bk} {p er : Nat} (h : qa3 l = (bs, p, er)) :
  Calls Tryz.prog 15 #[.slice A n c] w (Is w (.tuple #[vI (bs.length : Int), vI p, vI er])) := by
 subst hln
 have h1 := q1p A c l B w hL hB hr hc hl hn
 rw [h] at h1
 exact h1
theorem qgo (w : World) : Calls Tryz.prog 7 #[] w fun r w' => ∃ g, r = .returned (.slice (some ⟨g, 0, none⟩) 2 2) ∧ w'.ownsRow w.heap.size 37 12 (.slice (some ⟨g, 0, none⟩) 2 2) 2 (exI.flatMap itL) ∧ Below w.heap.size w w' := by
 refine (JN0 Tryz.func7 6) ?_
 refine (JP∘Jp 1∘Jr∘Jy (v := .agg #[vI 5, vI 340, vB 2, vB 5, vI 0, vI 0, vI 0, vI 0, vI 40, vQ 0, vI 7]) (h:=by exact Yl.build (vs := [(0, vI 5), (1, vI 340), (2, vB 2), (3, vB 5), (8, vI 40), (10, vI 7)]) rfl kr kr)∘Jy (v := .agg #[vI 5, vI 340, vB 2, vB 5, vI 0, vI 0, vI 0, vI 0, vI 40, vQ 0, vI 7, vI 3]) (h:=by exact Yl.build (vs := [(0, .agg #[vI 5, vI 340, vB 2, vB 5, vI 0, vI 0, vI 0, vI 0, vI 40, vQ 0, vI 7]), (1, vI 3)]) rfl kr kr)∘Jy (v := .agg #[vI 9, vI 340, vB 2, vB 6, vI 0, vI 0, vI 0, vI 0, vI 0, vQ 0, vI 0]) (h:=by exact Yl.build (vs := [(0, vI 9), (1, vI 340), (2, vB 2), (3, vB 6)]) rfl kr kr)∘Jy (v := .agg #[vI 9, vI 340, vB 2, vB 6, vI 0, vI 0, vI 0, vI 0, vI 0, vQ 0, vI 0, vI 0]) (h:=by exact Yl.build (vs := [(0, .agg #[vI 9, vI 340, vB 2, vB 6, vI 0, vI 0, vI 0, vI 0, vI 0, vQ 0, vI 0])]) rfl kr kr)) fun a Z HM => ?_
 refine fo Z 4 rfl rfl (s_el Z HM ei_it [(0, .agg #[vI 5, vI 340, vB 2, vB 5, vI 0, vI 0, vI 0, vI 0, vI 40, vQ 0, vI 7, vI 3]), (1, .agg #[vI 9, vI 340, vB 2, vB 6, vI 0, vI 0, vI 0, vI 0, vI 0, vQ 0, vI 0, vI 0])] #[vI 5, vI 340, vB 2, vB 5, vI 0, vI 0, vI 0, vI 0, vI 40, vQ 0, vI 7, vI 3, vI 9, vI 340, vB 2, vB 6, vI 0, vI 0, vI 0, vI 0, vI 0, vQ 0, vI 0, vI 0] ?_)
 clear Z HM; intro a w5 g5 Z HM
 exact Jb Z HM ((Jp 1∘Jd5∘Jj∘JZ∘Jz1) fun HM => by exact ⟨g5, rfl, (HM.blkRow (i := 0) (n := 2) (size := 12) rfl rfl de).own (i := 0) rfl, HM.below⟩)
theorem qkz (B : Nat) (w : World) (hL : LaidX B w) (hB : B ≤ w.heap.size) : Calls Tryz.prog 6 #[] w (Is w (.bool true)) := by
 refine (JN0 Tryz.func6 176) ?_
 refine (JP∘Jp 1∘Jr∘JL (h:=by exact fun HM => qgo _)) ?_
 rintro HM _ w20 ⟨g20, rfl, ho, hbw⟩
 refine ⟨vS g20 2 2, rfl, _, HM.callRow hbw ho, ?_⟩
 refine (JL (h:=by exact fun HM => qh5 2 de (some ⟨g20, 0, none⟩) 2 2 exI 2 1 q0k (by unfold I64; decide) (by unfold I64; decide) B _ (hL.mem HM hB) (HM.le hB) (HM.rd (i := 0) rfl) de rfl de sa1)) ?_
 rintro HM _ w21 ⟨A21, c21, q21, rfl, hq21, hc21, hm⟩
 obtain ⟨x1, x2, rfl, hex1, hex2⟩ := map2 hq21
 refine ⟨.tuple #[.slice A21 2 c21, vI 0], rfl, _, HM.callRow hm.below (hm.own (i := 0) rfl), ?_⟩
 refine (Jp 1∘Jx∘Jx∘Jp 2∘Jr∘JL (h:=by exact fun HM => qgo _)) ?_
 rintro HM _ w25 ⟨g25, rfl, ho, hbw⟩
 refine ⟨vS g25 2 2, rfl, _, HM.callRow hbw ho, ?_⟩
 refine (JL (h:=by exact fun HM => qh5 2 de (some ⟨g25, 0, none⟩) 2 2 exI 2 2 q0k (by unfold I64; decide) (by unfold I64; decide) B _ (hL.mem HM hB) (HM.le hB) (HM.rd (i := 0) rfl) de rfl de sa2)) ?_
 rintro HM _ w26 ⟨A26, c26, q26, rfl, hq26, hc26, hm⟩
 obtain ⟨x3, rfl, hex3⟩ := map1 hq26
 refine ⟨.tuple #[.slice A26 1 c26, vI 0], rfl, _, HM.callRow hm.below (hm.own (i := 0) rfl), ?_⟩
 refine (Jp 1∘Jx∘Jx∘Jp 2∘Jr∘JL (h:=by exact fun HM => qh5 2 de none 0 0 [] 0 1 (by intro x hx; cases hx) (by unfold I64; decide) (by unfold I64; decide) B _ (hL.mem HM hB) (HM.le hB) (Rd.nil) de rfl de sa3)) ?_
 rintro HM _ w30 ⟨A30, c30, q30, rfl, hq30, hc30, hm⟩
 obtain rfl := List.map_eq_nil_iff.1 hq30
 refine ⟨.tuple #[.slice A30 0 c30, vI 0], rfl, _, HM.callRow hm.below (hm.own (i := 0) rfl), ?_⟩
 refine (Jp 1∘Jx∘Jx∘Jp 2∘Jr∘JL (h:=by exact fun HM => qh5 2 de none 0 0 [] 2 1 (by intro x hx; cases hx) (by unfold I64; decide) (by unfold I64; decide) B _ (hL.mem HM hB) (HM.le hB) (Rd.nil) de rfl de sa4)) ?_
 rintro HM _ w34 ⟨A34, c34, q34, rfl, hq34, hc34, hm⟩
 obtain ⟨x4, rfl, hex4⟩ := map1 hq34
 refine ⟨.tuple #[.slice A34 1 c34, vI 0], rfl, _, HM.callRow hm.below (hm.own (i := 0) rfl), ?_⟩
 refine (Jp 1∘Jx∘Jx∘Jp 2∘Jj∘JQ∘JP∘Jv 10 [(46, .slice A21 2 c21), (45, .bool false)]∘Jl∘Jv 4 [(51, .slice A21 2 c21), (50, .bool false)]) ?_
 repeat (first | clear Z | clear HM)
 intro a Z HM
 obtain ⟨gA21, rfl⟩ := qaf (HM.own (i := 4) rfl) (Nat.lt_of_le_of_lt (Nat.zero_le _) (show 0 < 2 from by decide))
 refine Jb Z HM ((Jy (v := vP gA21 0) (h:=by exact Yl.indexAddr (ad := ⟨gA21, 0, none⟩) (y := 0) (sz := 5) rfl rfl rfl de kr)∘Jf 2∘Jy (v := vI x1.b.lost) (h:=by exact Yl.qx rfl rfl kr (fun _ h => h.qfu qdu (i := 4) rfl (k := 0) (off := 2) (x := x1) (rfl) rfl))∘Jo (vI 3) (by rw [hex1])∘Jv 4 [(58, vS gA21 2 c21), (57, .bool false)]∘Jy (v := vP gA21 5) (h:=by exact Yl.indexAddr (ad := ⟨gA21, 0, none⟩) (y := 1) (sz := 5) rfl rfl rfl de kr)∘Jf 2∘Jy (v := vI x2.b.lost) (h:=by exact Yl.qx rfl rfl kr (fun _ h => h.qfu qdu (i := 4) rfl (k := 1) (off := 2) (x := x2) (rfl) rfl))∘Jo (vI 2) (by rw [hex2])∘Jv 4 [(65, .slice A26 1 c26), (64, .bool false)]∘Jl∘Jv 4 [(70, .slice A26 1 c26), (69, .bool false)]) ?_)
 repeat (first | clear Z | clear HM)
 intro a Z HM
 obtain ⟨gA26, rfl⟩ := qaf (HM.own (i := 2) rfl) (Nat.lt_of_le_of_lt (Nat.zero_le _) (show 0 < 1 from by decide))
 refine Jb Z HM ((Jy (v := vP gA26 0) (h:=by exact Yl.indexAddr (ad := ⟨gA26, 0, none⟩) (y := 0) (sz := 5) rfl rfl rfl de kr)∘Jf 2∘Jy (v := vI x3.b.lost) (h:=by exact Yl.qx rfl rfl kr (fun _ h => h.qfu qdu (i := 2) rfl (k := 0) (off := 2) (x := x3) (rfl) rfl))∘Jo (vI 5) (by rw [hex3])∘Jv 4 [(77, vS gA26 1 c26), (76, .bool false)]∘Jy (v := vP gA26 0) (h:=by exact Yl.indexAddr (ad := ⟨gA26, 0, none⟩) (y := 0) (sz := 5) rfl rfl rfl de kr)∘Jf 4∘Jy (v := .slice x3.A x3.b.evs.length x3.c) (h:=by exact Yl.qx rfl rfl kr (fun _ h => h.qfu qdu (i := 2) rfl (k := 0) (off := 4) (x := x3) (rfl) rfl))∘Jo (.slice x3.A 2 x3.c) (by rw [hex3]; try rfl)∘Jl∘Jv 4 [(85, .slice A30 0 c30), (84, .bool false)]∘Jl∘Jv 4 [(90, .slice A34 1 c34), (89, .bool false)]∘Jl∘Jv 4 [(95, .slice A34 1 c34), (94, .bool false)]) ?_)
 repeat (first | clear Z | clear HM)
 intro a Z HM
 obtain ⟨gA34, rfl⟩ := qaf (HM.own (i := 0) rfl) (Nat.lt_of_le_of_lt (Nat.zero_le _) (show 0 < 1 from by decide))
 refine Jb Z HM ((Jy (v := vP gA34 0) (h:=by exact Yl.indexAddr (ad := ⟨gA34, 0, none⟩) (y := 0) (sz := 5) rfl rfl rfl de kr)∘Jf 2∘Jy (v := vI x4.b.lost) (h:=by exact Yl.qx rfl rfl kr (fun _ h => h.qfu qdu (i := 0) rfl (k := 0) (off := 2) (x := x4) (rfl) rfl))∘Jo (vI 2) (by rw [hex4])∘Jv 2 [(100, .bool false)]∘Jd6∘Jq) fun a Z HM => ?_)
 replace Z := Z.to [(100, .bool false), (0, .bool false)]
 refine Jb Z HM ((JG∘JF∘JS'∘JP∘JL (h:=by exact fun HM => qzg 9 _ de)) ?_)
 rintro HM _ w102 ⟨gw102, rfl, hm⟩
 refine ⟨.tuple #[vP gw102 0, vI 0], rfl, _, (HM.join hm).nil 5 1, ?_⟩
 refine (Jp 1∘Jx∘Jx∘Jp 2∘Jj∘JQ∘JP∘Jv 4 [(108, vP gw102 0), (107, .bool false)]∘Jy (v := .bool false) (h:=by exact Yl.qoc rfl rfl rfl)∘Jp 3∘JL (h:=by exact fun HM => qq9 (o2 := []) (we := 107) _ _ gw102 9 none 0 [] _ (HM.pk [1, 0, 2, 3, 4, 5, 6, 7]) (by first | exact Nat.le_refl _ | omega | exact Nat.zero_le _) (by first | decide | omega) de 0 (by unfold I64; decide) B (hL.mem HM hB) hB sa5)) ?_
 rintro HM _ w113 ⟨rfl, A113, c113, hc113, HM2⟩
 refine ⟨vI 107, rfl, _, HM2, ?_⟩
 refine (Jv 4 [(117, vP gw102 0), (116, .bool false)]∘JL (h:=by exact fun HM => qq9 (o2 := awX) (we := 0) _ _ gw102 9 A113 c113 [] _ (HM.pk [0, 1, 2, 3, 4, 5, 6, 7]) (by first | exact Nat.le_refl _ | omega | exact Nat.zero_le _) (by first | decide | omega) de 7 (by unfold I64; decide) B (hL.mem HM hB) hB sa6)) ?_
 rintro HM _ w118 ⟨rfl, A118, c118, hc118, HM2⟩
 refine ⟨vI 0, rfl, _, HM2, ?_⟩
 refine (Jv 4 [(122, vP gw102 0), (121, .bool false)]∘JL (h:=by exact fun HM => qzh gw102 9 A118 c118 awX _ (HM.blk (i := 0) rfl) de rfl)) ?_
 rintro HM _ w123 ⟨rfl, hbw⟩
 refine ⟨vI 13, rfl, _, HM.call hbw, ?_⟩
 refine (Jv 2 [(125, .bool false)]∘Jd6∘Jj∘JF∘JS'∘JP∘Jp 1∘JK (h:=by exact fun HM => qjd gw102 9 A118 c118 awX _ (HM.blk (i := 0) rfl) (HM.rd (i := 1) rfl) (by first | decide | omega) de)) fun A128 c128 w128 hc128 => fun a Z HM => ?_
 refine fo Z 2 rfl rfl (s_el Z HM ei_u8 [(0, vB 1)] #[vB 1] ?_)
 clear Z HM; intro a w129 g129 Z HM
 refine fo Z 3 rfl rfl (qn Z HM (i := 1) rfl ei_u8 rfl rfl rfl (news := ([1].map B8)) (HM.rdBlk (i := 0) (n := 1) (size := 1) rfl rfl) (qba _) de de rfl de ?_)
 clear Z HM; intro a w130 A130 c130 Z HM hc130
 rw [show (awX.map B8) ++ ([1].map B8) = (awX ++ [1]).map B8 from by rw [List.map_append]] at HM
 refine Jb Z HM ((JI (v:=.tuple #[vI 1, vI 13, vI 100]) (h:=by exact fun HM => q0l A130 14 c130 (awX ++ [1]) B _ (hL.mem HM hB) (HM.le hB) (HM.rd (i := 1) rfl) hc130 q1r rfl de sa7)) fun w131 hbw => (Jp 1∘Jx∘Jx∘Jx∘Jp 3∘Jr∘Jp 1∘JK (h:=by exact fun HM => qjd gw102 9 A118 c118 awX _ (HM.blk (i := 2) rfl) (HM.rd (i := 3) rfl) (by first | decide | omega) de)) fun A136 c136 w136 hc136 => (JL (h:=by exact fun HM => qky A136 c136 awX _ (HM.rd (i := 0) rfl) de)) ?_)
 rintro HM _ w137 ⟨g137, A137, c137, rfl, hc137, hm⟩
 refine ⟨vP g137 0, rfl, _, HM.join hm, ?_⟩
 refine (Jp 1∘Jd3∘Jr∘Jp 1∘JL (h:=by exact fun HM => qgn _ _ g137 0 A137 c137 awX _ (HM.pk [0, 1, 2, 3, 4, 5, 6, 7, 8, 9, 10, 11, 12]) de (by first | exact Nat.le_refl _ | omega | exact Nat.zero_le _) qz7 de B (hL.mem HM hB) hB (sa8) (p2 := 13) (rfl))) ?_
 rintro HM _ w140 ⟨A140, c140, rfl, hc140, HM2⟩
 refine ⟨.tuple #[.agg #[vB 2, vB 0, vI 0, vI 7, .slice A140 0 c140], vI 0], rfl, _, HM2, ?_⟩
 refine (Jp 1∘Jx∘Jx∘JA #[vB 0, vB 0, vI 0, vI 0, vN]) fun w15 g15 => (JV si_bk O0') fun w12_6 => (Jp 1∘Jr∘Jp 1∘JL (h:=by exact fun HM => qgn _ _ g137 13 A137 c137 awX _ (HM.pk [2, 3, 0, 1, 4, 5, 6, 7, 8, 9, 10, 11, 12, 13, 14]) de (by first | exact Nat.le_refl _ | omega | exact Nat.zero_le _) qz7 de B (hL.mem HM hB) hB (sa9) (p2 := 13) (rfl))) ?_
 rintro HM _ w145 ⟨A145, c145, rfl, hc145, HM2⟩
 refine ⟨.tuple #[.agg #[vB 0, vB 0, vI 0, vI 0, .slice A145 0 c145], vI 6], rfl, _, HM2, ?_⟩
 exact (Jp 1∘Jx∘Jx∘JA #[vB 0, vB 0, vI 0, vI 0, vN]) fun w17 g17 => (JV si_bk O0') fun w13_6 => (Jp 1∘Jd6∘Jr∘Jv 15 [(162, .bool true)]∘Jg 3 O4∘Jv 8 [(172, vP g137 0), (171, .bool true)]∘JI (v:=vI 13) (h:=by exact fun HM => qhu g137 13 A137 c137 awX _ (HM.blk (i := 2) rfl))) fun w173 hbw => (Jv 3 [(0, .bool true)]∘Jd6∘Jj∘JZ) JY1
theorem qss (b : Bs) (cpu : Nat) (hcpu : cpu < 256) (A : Option Addr) (n c : Nat) (l : List Nat) (w : World) (hr : Rd w w.heap.size 1 A n (l.map B8)) (hc : n ≤ c) (hl : ∀ b ∈ l, b < 256) (hn : n ≤ 140737488355328) (hln : l.length = n) :
    Calls Tryz.prog 103 #[.agg b.cells, vB cpu, .slice A n c] w (TakePost w (takeR b cpu l)) := by
 refine (JN3 Tryz.func103 101) ?_
 refine (JP∘JE) fun w3 g3 => (JA #[vI 0, vI 0, vB 0, vB 0, vI 0, vI 0, vI 0, vI 0, vI 0, vQ 0, vI 0]) fun w6 g6 => (Jp 2∘Jr∘Jy (v := .agg Ev.zero.cells) (h:=by exact (Yl.build (vs := []) rfl kr kr))∘JA #[vI 0, vI 0, vB 0, vB 0, vI 0, vI 0, vI 0, vI 0, vI 0, vQ 0, vI 0]) fun w9 g9 => (JV ⟨kr, kr⟩ O0' (h1:=by exact zd Ev.zero)) fun w1_2 => (Jd1∘Jj∘JQ∘JP∘Jy (v := .agg b.cells) (h:=by exact Yl.qr rfl rfl ⟨kr, kr⟩ rfl (fun _ h => qb (h.blk (i := 2) rfl)))∘JL (h:=by exact fun HM => qdz b _)) ?_
 rintro HM _ w19 ⟨rfl, hbw⟩
 refine ⟨_, rfl, _, HM.call hbw, ?_⟩
 refine (Jp 1∘Jd2∘Jj) (Ju (fun hb20 => ?_) fun hb20 => ?_)
 ·
  intro a Z HM
  have hrf : b.right = false := by simpa using hb20
  refine Jb Z HM ((JT∘JP∘Jy (v := .agg Ev.zero.cells) (h:=by exact Yl.qr rfl rfl ⟨kr, kr⟩ rfl (fun _ h => qb (h.blk (i := 0) rfl)))∘JV ⟨kr, kr⟩ O1' (h1:=by exact zd Ev.zero)) fun w3_1 => (Jp 2∘Jj∘JZ) fun a Z HM => ?_)
  exact ret3 rfl Z (.cellS (i := 1) Z HM rfl rfl ⟨kr, kr⟩ rfl) (.tmp Z rfl) (.tmp Z rfl) (⟨by rw [show takeR b cpu _ = _ from by rw [takeR, if_pos hrf]]; rfl, HM.below⟩)
 intro a Z HM
 have hrt : b.right = true := by simpa using hb20
 have hbd := qv6 hrt
 refine Jb Z HM ((JF∘JS'∘JQ∘JP∘Jp 1∘Jl∘Jp 1∘Jd2∘Jj) (Ju (fun hb24 => ?_) fun hb24 => ?_))
 ·
  intro a Z HM
  have hn0 : l = [] := by simp at hb24; exact List.length_eq_zero_iff.1 om
  refine Jb Z HM ((JT∘JP∘Jy (v := .agg Ev.zero.cells) (h:=by exact Yl.qr rfl rfl ⟨kr, kr⟩ rfl (fun _ h => qb (h.blk (i := 0) rfl)))∘JV ⟨kr, kr⟩ O1' (h1:=by exact zd Ev.zero)) fun w5_1 => (Jp 2∘Jj∘JZ) fun a Z HM => ?_)
  exact ret3 rfl Z (.cellS (i := 1) Z HM rfl rfl ⟨kr, kr⟩ rfl) (.tmp Z rfl) (.tmp Z rfl) (⟨by rw [show takeR b cpu _ = _ from by rw [takeR, if_neg (by simp [hrt]), if_pos hn0]]; rfl, HM.below⟩)
 intro a Z HM
 have hn0 : 0 < n := by simp at hb24; omega
 revert HM; revert a; repeat (first | clear Z | clear HM)
 intro a Z HM
 obtain ⟨kd, r, rfl⟩ : ∃ kd r, l = kd :: r := by cases l with
   | nil => simp at hln; omega
   | cons a b => exact ⟨a, b, rfl⟩
 have hkd : kd < 256 := hl kd (by simp)
 simp only [List.length_cons] at hln
 have hul := qay kd
 refine Jb Z HM ((JF∘JS'∘JQ∘JP∘Jp 1) ?_)
 repeat (first | clear Z | clear HM)
 intro a Z HM
 obtain ⟨gA, oA, rfl, _⟩ := hr.qt (Nat.lt_of_le_of_lt (Nat.zero_le _) (show 0 < n from by omega)) de
 refine Jb Z HM ((Jy (v := vP gA oA) (h:=by exact Yl.indexAddr (ad := ⟨gA, oA, none⟩) (y := 0) (sz := 1) rfl rfl rfl om kr)∘Jy (v := vB kd) (h:=by exact Yl.qx rfl rfl kr (fun _ h => (h.old hr).qfd (k := 0) (qbi (F := B8) (k := 0) (x := kd) (rfl))))∘JL (h:=by exact fun HM => qha kd hkd _)) ?_)
 rintro HM _ w29 ⟨⟨s, rfl, hs⟩, hbw⟩
 refine ⟨_, rfl, _, HM.call hbw, ?_⟩
 refine (Jp 1∘Jo (.bool (!decide (1 ≤ kd ∧ kd ≤ 10))) (by rw [qmr hs])∘Jd4∘Jj) (Ju (fun hb30 => ?_) fun hb30 => ?_)
 ·
  intro a Z HM
  have hku : (usesL kd).length = 0 := qlw (by simp at hb30; omega)
  refine Jb Z HM ((JT∘JP∘Jy (v := .agg Ev.zero.cells) (h:=by exact Yl.qr rfl rfl ⟨kr, kr⟩ rfl (fun _ h => qb (h.blk (i := 0) rfl)))∘JV ⟨kr, kr⟩ O1' (h1:=by exact zd Ev.zero)) fun w7_1 => (Jp 2∘Jj∘JZ) fun a Z HM => ?_)
  exact ret3 rfl Z (.cellS (i := 1) Z HM rfl rfl ⟨kr, kr⟩ rfl) (.tmp Z rfl) (.tmp Z rfl) (⟨by rw [show takeR b cpu _ = _ from qjo hrt hku]; rfl, HM.below⟩)
 intro a Z HM
 have hku : (usesL kd).length ≠ 0 := qv7 (by simp at hb30; omega)
 refine Jb Z HM ((JF∘JS'∘JP∘Jp 1∘Jr∘Jp 1∘Jq) fun a Z HM => ?_)
 replace HM := HM.nil 33 1
 refine Jb Z HM ((JG∘JQ∘JB) fun a Z HM => ?_)
 refine qi (fun mS aS wS => ∃ (u : Nat) (xs : List Nat) (Ak : Option Addr) (ck : Nat), (1 + u ≤ n) ∧ (∀ x ∈ xs, x < 18446744073709551616) ∧ (xs.length ≤ (2 + (usesL kd).length)) ∧ (xs.length ≤ ck) ∧ (readN (2 + (usesL kd).length) r = joinR xs u (readN ((2 + (usesL kd).length) - xs.length) (r.drop u))) ∧ mS = (2 + (usesL kd).length) - xs.length ∧ Fr aS 101 [] [(11, .slice Ak xs.length ck), (10, vI (1 + u : Nat)), (30, .bool false), (24, .bool false), (20, .bool false), (9, vP g9 0), (8, vI 0), (7, vI 0), (6, vP g6 0), (3, vP g3 0), (1, vB cpu), (2, .slice (some ⟨gA, oA, none⟩) n c)] ∧ Mem w wS [.row (.slice Ak xs.length ck) xs.length (xs.map U64) 33 1, .blk g9 Ev.zero.cells 105, .blk g6 #[vI 0, vI 0, vB 0, vB 0, vI 0, vI 0, vI 0, vI 0, vI 0, vQ 0, vI 0] 105, .blk g3 b.cells 127]) (m := (2 + (usesL kd).length) - [].length) ⟨0, [], none, 0, by omega, fun x hx => (by cases hx), Nat.zero_le _, Nat.le_refl _, (qmc _ (qmd _ _)).symm, rfl, Z.sub kr, HM.pk [0, 1, 2, 3]⟩ ?_
 clear Z HM; rintro mS a w_ ⟨u, xs, Ak, ck, hu, hxs, hxl, hck, hj, rfl, Z, HM⟩
 refine Jb Z HM ((JQ∘JP∘Jp 1∘Jl∘Jp 1∘Jy (v := vP gA oA) (h:=by exact Yl.indexAddr (ad := ⟨gA, oA, none⟩) (y := 0) (sz := 1) rfl rfl rfl om kr)∘Jy (v := vB kd) (h:=by exact Yl.qx rfl rfl kr (fun _ h => (h.old hr).qfd (k := 0) (qbi (F := B8) (k := 0) (x := kd) (rfl))))∘JL (h:=by exact fun HM => qht kd hkd _)) ?_)
 rintro HM _ w37 ⟨⟨v, xs37, rfl, ho⟩, hbw⟩
 revert HM; revert a; repeat (first | clear Z | clear HM)
 intro a Z HM
 obtain ⟨A37, c37, rfl, hc37⟩ := qaa ho
 refine ⟨_, rfl, _, HM.callRow hbw ho, ?_⟩
 refine (Jl∘Jp 1∘Jo (vI (2 + (usesL kd).length : Nat)) (by rw [IntWalk.i64_in _ om]; simp)∘Jp 1∘Jd6∘Jj) (Ju (fun hb40 => ?_) fun hb40 => ?_)
 ·
  intro a Z HM
  have hlt : xs.length < (2 + (usesL kd).length) := by simp at hb40; omega
  obtain ⟨q, hq⟩ : ∃ q, vread (r.drop u) = q := ⟨_, rfl⟩
  have hq64 := qdh (r.drop u) (fun y hy => hl y (List.mem_cons_of_mem _ (List.mem_of_mem_drop hy)))
  have hql := qaz (r.drop u)
  rw [List.length_drop] at hql
  rw [hq] at hq64 hql
  refine Jb Z HM ((JT∘JS'∘JB∘JP∘Jp 2∘Jy (v := .slice (if c = (1 + u) then some ⟨gA, oA, none⟩ else (some ⟨gA, oA, none⟩ : Option Addr).map (·.add ((1 + u) * 1))) (n - (1 + u)) (c - (1 + u))) (h:=by exact Yl.sliceFrom ei_u8 (j := (1 + u)) rfl rfl rfl om)∘JL (h:=by exact fun HM => (by have h := qkq _ (n - (1 + u)) (c - (1 + u)) _ (r.drop u) _ (by have h := Rd.qhx (HM.old hr) (k := 1 + u) om hc; rw [show (kd :: r).drop (1 + u) = r.drop u from by rw [Nat.add_comm]; rfl] at h; exact h) (fun y hy => hl y (List.mem_cons_of_mem _ (List.mem_of_mem_drop hy))) om; rw [hq] at h; exact h))) ?_)
  rintro HM _ w45 ⟨rfl, rfl⟩
  refine ⟨_, rfl, _, HM, ?_⟩
  refine (Jp 1∘Jx∘Jx∘Jx∘Jp 3∘Jj∘JQ∘JP∘Jp 2∘Jd1∘Jj) (Ju (fun hb50 => ?_) fun hb50 => ?_)
  ·
   intro a Z HM
   have hq2 : q.2.2 ≠ 0 := by rw [bne_iff_ne] at hb50; omega
   refine Jb Z HM ((JT∘JP∘Jy (v := .agg Ev.zero.cells) (h:=by exact Yl.qr rfl rfl ⟨kr, kr⟩ rfl (fun _ h => qb (h.blk (i := 2) rfl)))∘Jp 1∘JV ⟨kr, kr⟩ O3' (h1:=by exact zd Ev.zero)) fun w13_2 => (Jp 2∘Jj∘JZ∘JM (.f .n)) fun a Z HM => ?_)
   exact ret3 rfl Z (.cellS (i := 2) Z HM rfl rfl ⟨kr, kr⟩ rfl) (.tmp Z rfl) (.tmp Z rfl) (⟨by rw [show takeR b cpu _ = _ from qnq hrt hku hj hlt hq hq2]; rfl, HM.below⟩)
  intro a Z HM
  have hq2 : q.2.2 = 0 := by rw [bne_eq_false_iff_eq] at hb50; omega
  have hjn := qy5 hj hlt hq hq2
  refine Jb Z HM ((JF∘JS'∘JP∘Jp 2) fun a Z HM => ?_)
  refine fo Z 2 rfl rfl (s_el Z HM qc0 [(0, vQ q.1)] #[vQ q.1] ?_)
  clear Z HM; intro a w55 g55 Z HM
  refine fo Z 3 rfl rfl (qn Z HM (i := 2) rfl qc0 rfl rfl rfl (news := [U64 q.1]) (HM.rdBlk (i := 0) (n := 1) (size := 1) rfl rfl) (by simp [Value.oneCell', U64, B8]) om om rfl de ?_)
  clear Z HM; intro a w56 A56 c56 Z HM hc56
  refine Jb Z HM ((Jp 1∘Jd4∘Jq) fun a Z HM => ?_)
  have hnA56 : xs.length + 1 = (xs ++ [q.1]).length := by simp
  replace HM := HM.reRow (i := 2) (ys := (xs ++ [q.1]).map U64) rfl hnA56 (by simp)
  rw [hnA56] at hc56
  replace Z := Z.sp 11 (.slice A56 ((xs ++ [q.1]).length) c56) rfl (by rw [hnA56])
  refine Jb Z HM ((JG∘JR∘Jp 3∘Jo (vI (1 + (u + q.2.1) : Nat)) (by rw [IntWalk.i64_in _ om]; congr 1; omega)∘Jp 1∘Jd3∘Jq) fun a Z HM => ?_)
  exact ⟨_, (by simp; omega), u + q.2.1, xs ++ [q.1], A56, c56, by omega, fun x hx => (List.mem_append.1 hx).elim (hxs x) (fun h => by rw [List.mem_singleton.1 h]; exact hq64), by simp; omega, hc56, hjn, rfl, Z.sub kr, HM.pk [2, 3, 4, 5]⟩
 intro a Z HM
 have hge : xs.length = (2 + (usesL kd).length) := by simp at hb40; omega
 revert HM; revert a; repeat (first | clear Z | clear HM)
 intro a Z HM
 obtain ⟨x0, x1, vs, rfl⟩ : ∃ x0 x1 vs, xs = x0 :: x1 :: vs := by
   match xs, hge with
   | x0 :: x1 :: vs, _ => exact ⟨x0, x1, vs, rfl⟩
   | [], h => simp at h; omega
   | [a], h => simp at h; omega
 refine Jb Z HM ((JF∘JX∘JG∘JQ) fun a Z HM => ?_)
 refine zk (fun aS wS => Fr aS 101 [] [(69, .bool (decide (281474976710656 < x0 ∨ 281474976710656 < x1))), (40, .bool false), (11, .slice Ak ((x0 :: x1 :: vs).length) ck), (10, vI (1 + u : Nat)), (30, .bool false), (24, .bool false), (20, .bool false), (9, vP g9 0), (8, vI 0), (7, vI 0), (6, vP g6 0), (3, vP g3 0), (1, vB cpu), (2, .slice (some ⟨gA, oA, none⟩) n c)] ∧ Mem w wS [.row (.slice A37 ((usesL kd).length) c37) ((usesL kd).length) xs37 9 1, .row (.slice Ak ((x0 :: x1 :: vs).length) ck) ((x0 :: x1 :: vs).length) ((x0 :: x1 :: vs).map U64) 33 1, .blk g9 Ev.zero.cells 105, .blk g6 #[vI 0, vI 0, vB 0, vB 0, vI 0, vI 0, vI 0, vI 0, vI 0, vQ 0, vI 0] 105, .blk g3 b.cells 127]) ?_ ?_
 ·
  refine qa7 ?_
  refine Jb Z HM ((Jp 1) ?_)
  repeat (first | clear Z | clear HM)
  intro a Z HM
  obtain ⟨gAk, rfl⟩ := qaf (HM.own (i := 1) rfl) (Nat.lt_of_le_of_lt (Nat.zero_le _) (show 0 < (x0 :: x1 :: vs).length from by simp))
  refine Jb Z HM ((Jy (v := vP gAk 0) (h:=by exact Yl.indexAddr (ad := ⟨gAk, 0, none⟩) (y := 0) (sz := 1) rfl rfl rfl (by simp) kr)∘Jy (v := vQ x0) (h:=by exact Yl.qx rfl rfl kr (fun _ h => h.qk0 (i := 1) rfl (k := 0) (qbi (F := U64) (k := 0) (x := x0) (rfl))))∘Jp 2) (Ju (fun hb64 => ?_) fun hb64 => ?_))
  ·
   refine (Jp 5∘Jd6∘Jq) fun a Z HM => ?_
   have Z := Z.sp 69 (.bool (decide (281474976710656 < x0 ∨ 281474976710656 < x1))) rfl (congrArg Value.bool (by skip; (try simp at hb40); (try simp at hb64); rw [Bool.eq_iff_iff]; (try simp [hb40, hb64]); (try omega)))
   exact ⟨Z.sub kr, HM.pk [0, 1, 2, 3, 4]⟩
  refine (Jp 1∘Jy (v := vP gAk 1) (h:=by exact Yl.indexAddr (ad := ⟨gAk, 0, none⟩) (y := 1) (sz := 1) rfl rfl rfl (by simp) kr)∘Jy (v := vQ x1) (h:=by exact Yl.qx rfl rfl kr (fun _ h => h.qk0 (i := 1) rfl (k := 1) (qbi (F := U64) (k := 1) (x := x1) (rfl))))∘Jp 2∘Jd6∘Jq) fun a Z HM => ?_
  have Z := Z.sp 69 (.bool (decide (281474976710656 < x0 ∨ 281474976710656 < x1))) rfl (congrArg Value.bool (by skip; (try simp at hb40); (try simp at hb64); rw [Bool.eq_iff_iff]; (try simp [hb40, hb64]); (try omega)))
  exact ⟨Z.sub kr, HM.pk [0, 1, 2, 3, 4]⟩
 clear Z HM; rintro a w16 ⟨Z, HM⟩
 refine Jb Z HM (Ju (fun hb69 => ?_) fun hb69 => ?_)
 ·
  intro a Z HM
  have hfar : 281474976710656 < x0 ∨ 281474976710656 < x1 := by simpa using hb69
  refine Jb Z HM ((JT∘JP∘Jy (v := .agg Ev.zero.cells) (h:=by exact Yl.qr rfl rfl ⟨kr, kr⟩ rfl (fun _ h => qb (h.blk (i := 2) rfl)))∘JV ⟨kr, kr⟩ O3' (h1:=by exact zd Ev.zero)) fun w17_1 => (Jp 2∘Jj∘JZ∘JM (.f .n)) fun a Z HM => ?_)
  exact ret3 rfl Z (.cellS (i := 2) Z HM rfl rfl ⟨kr, kr⟩ rfl) (.tmp Z rfl) (.tmp Z rfl) (⟨by rw [show takeR b cpu _ = _ from (qhb hrt hku hj hge).trans (qsj ⟨hbd.1, hbd.2.2.1⟩ hfar)]; rfl, HM.below⟩)
 intro a Z HM
 have hnear : ¬ (281474976710656 < x0 ∨ 281474976710656 < x1) := by simpa using hb69
 have hev := q2v (x0 := x0) (x1 := x1) hbd hcpu hkd hnear
 refine Jb Z HM ((JF∘JS') fun a Z HM => ?_)
 refine zk (fun aS wS => ∃ (g15 : Nat), Fr aS 101 [] [(16, vI ((b.ev cpu kd x0 x1).qm vs)), (15, vP g15 0), (69, .bool false), (40, .bool false), (11, .slice Ak ((x0 :: x1 :: vs).length) ck), (10, vI (1 + u : Nat)), (30, .bool false), (24, .bool false), (20, .bool false), (9, vP g9 0), (8, vI 0), (7, vI 0), (6, vP g6 0), (3, vP g3 0), (2, .slice (some ⟨gA, oA, none⟩) n c)] ∧ Mem w wS [.blk g15 (((b.ev cpu kd x0 x1).ze vs).cells) 105, .row (.slice Ak ((x0 :: x1 :: vs).length) ck) ((x0 :: x1 :: vs).length) ((x0 :: x1 :: vs).map U64) 33 1, .blk g9 Ev.zero.cells 105, .blk g6 #[vI 0, vI 0, vB 0, vB 0, vI 0, vI 0, vI 0, vI 0, vI 0, vQ 0, vI 0] 105, .blk g3 b.cells 127]) ?_ ?_
 ·
  refine Jb Z HM ((Vs .n [26]) fun wd18 => (Vf 0 0∘Vp [2]∘Vf 7 1∘Vp [9, 14, 15, 19]∘Vc 1 O4) ?_)
  repeat (first | clear Z | clear HM | clear HS)
  intro a Z HM HS
  obtain ⟨gAk, rfl⟩ := qaf (HM.own (i := 1) rfl) (Nat.lt_of_le_of_lt (Nat.zero_le _) (show 0 < (x0 :: x1 :: vs).length from by simp))
  refine Vb Z HM HS ((Vy 3 (v := vP gAk 0) (h:=by exact Yl.indexAddr (ad := ⟨gAk, 0, none⟩) (y := 0) (sz := 1) rfl rfl rfl (by simp) kr)∘Vy 4 (v := vQ x0) (h:=by exact Yl.qx rfl rfl kr (fun _ h => h.qk0 (i := 1) rfl (k := 0) (qbi (F := U64) (k := 0) (x := x0) (rfl))))∘Vq [5] [(77, vI (IntKind.i64.wrap (x0 : Int)))]∘Vo (vI x0) (by rw [IntWalk.i64_in _ om])∘Vp [6]∘Vo (vI (b.seq + (x0 : Int))) (by rw [IntWalk.i64_in _ om])∘Vc 8 O4∘Vy 10 (v := vP gAk 1) (h:=by exact Yl.indexAddr (ad := ⟨gAk, 0, none⟩) (y := 1) (sz := 1) rfl rfl rfl (by simp) kr)∘Vy 11 (v := vQ x1) (h:=by exact Yl.qx rfl rfl kr (fun _ h => h.qk0 (i := 1) rfl (k := 1) (qbi (F := U64) (k := 1) (x := x1) (rfl))))∘Vq [12] [(84, vI (IntKind.i64.wrap (x1 : Int)))]∘Vo (vI x1) (by rw [IntWalk.i64_in _ om])∘Vp [13]∘Vo (vI (b.time + (x1 : Int))) (by rw [IntWalk.i64_in _ om])∘Vy 16 (v := vP gA oA) (h:=by exact Yl.indexAddr (ad := ⟨gA, oA, none⟩) (y := 0) (sz := 1) rfl rfl rfl om kr)∘Vy 17 (v := vB kd) (h:=by exact Yl.qx rfl rfl kr (fun _ h => (h.old hr).qfd (k := 0) (qbi (F := B8) (k := 0) (x := kd) (rfl))))∘Vy 18 (v := .agg ((b.ev cpu kd x0 x1).cells)) (h:=by exact (Yl.build (vs := [(0, vI (b.seq + (x0 : Int))), (1, vI (b.time + (x1 : Int))), (2, vB cpu), (3, vB kd)]) rfl kr kr))∘Vy 20 (v := .slice (if ck = 2 then some ⟨gAk, 0, none⟩ else (some ⟨gAk, 0, none⟩ : Option Addr).map (·.add (2 * 1))) (((x0 :: x1 :: vs).length) - 2) (ck - 2)) (h:=by exact Yl.sliceFrom qc0 (j := 2) rfl rfl rfl (by simp))) fun a Z HM HS => ?_)
  refine qcl [21, 25] kr rfl ?_
  refine all_cons ?_ ?_
  ·refine qa8 Z (i := 21) rfl rfl ?_
   refine e_cl Z [.agg ((b.ev cpu kd x0 x1).cells), .slice (if ck = 2 then some ⟨gAk, 0, none⟩ else (some ⟨gAk, 0, none⟩ : Option Addr).map (·.add (2 * 1))) (((x0 :: x1 :: vs).length) - 2) (ck - 2)] rfl rfl (qn5 (b.ev cpu kd x0 x1) hev _ _ _ vs _ (by have h := (HM.rd (i := 1) rfl).from (k := 2) (by simp) hck; exact h) (fun y hy => hxs y (List.mem_cons_of_mem _ (List.mem_cons_of_mem _ hy)))) ?_
   rintro _ w93 ⟨rfl, hbw⟩
   refine ⟨_, rfl, ?_⟩
   replace HM := HM.call hbw
   clear Z; intro a Z
   refine keepS (HM.pk [0, 1, 2, 3, 4]) (fun HS => ?_)
   refine Vb Z HM HS ((Vp [22]∘Vx 23∘Vx 24∘VA 25 .n #[vI 0, vI 0, vB 0, vB 0, vI 0, vI 0, vI 0, vI 0, vI 0, vQ 0, vI 0]) fun w15 g15 => fun a Z HM HS => ?_)
   refine s_on Z 26 rfl (e_sa Z HM 0 rfl rfl rfl rfl rfl ⟨kr, kr⟩ rfl rfl (zd ((b.ev cpu kd x0 x1).ze vs)) fun w18_26 HM => ?_)
   refine noS kr ?_
   refine ap Z (pastS kr) [27] (bt 28 []) [(16, vI ((b.ev cpu kd x0 x1).qm vs))] fun a Z => ?_
   refine qh kr ?_
   refine Jb Z HM ((JM (.t (.f .n))) fun a Z HM => ?_)
   exact ⟨g15, Z.sub kr, HM.pk [0, 1, 2, 3, 4]⟩
  refine all_cons ?_ all_nil
  refine qa8 Z (i := 25) rfl rfl ?_
  refine s_ea Z HM #[vI 0, vI 0, vB 0, vB 0, vI 0, vI 0, vI 0, vI 0, vI 0, vQ 0, vI 0] ?_
  clear Z HM; intro a w15 g15 Z HM
  refine keepS (HM.pk [1, 2, 3, 4, 5]) (fun HS => ?_)
  refine s_on Z 21 rfl ?_
  refine e_cl Z [.agg ((b.ev cpu kd x0 x1).cells), .slice (if ck = 2 then some ⟨gAk, 0, none⟩ else (some ⟨gAk, 0, none⟩ : Option Addr).map (·.add (2 * 1))) (((x0 :: x1 :: vs).length) - 2) (ck - 2)] rfl rfl (qn5 (b.ev cpu kd x0 x1) hev _ _ _ vs _ (by have h := (HM.rd (i := 2) rfl).from (k := 2) (by simp) hck; exact h) (fun y hy => hxs y (List.mem_cons_of_mem _ (List.mem_cons_of_mem _ hy)))) ?_
  rintro _ w93 ⟨rfl, hbw⟩
  refine ⟨_, rfl, ?_⟩
  replace HM := HM.call hbw
  clear Z; intro a Z
  refine keepS (HM.pk [1, 2, 3, 4, 5]) (fun HS => ?_)
  refine Vb Z HM HS ((Vp [22]∘Vx 23∘Vx 24) fun a Z HM HS => ?_)
  refine s_on Z 26 rfl (e_sa Z HM 0 rfl rfl rfl rfl rfl ⟨kr, kr⟩ rfl rfl (zd ((b.ev cpu kd x0 x1).ze vs)) fun w18_26 HM => ?_)
  refine noS kr ?_
  refine ap Z (pastS kr) [27] (bt 28 []) [(16, vI ((b.ev cpu kd x0 x1).qm vs))] fun a Z => ?_
  refine qh kr ?_
  refine Jb Z HM ((JM (.t (.f .n))) fun a Z HM => ?_)
  exact ⟨g15, Z.sub kr, HM.pk [0, 1, 2, 3, 4]⟩
 clear Z HM; rintro a w18 ⟨g15, Z, HM⟩
 refine Jb Z HM ((JQ∘JP∘Jp 2∘Jd2∘Jj) (Ju (fun hb97 => ?_) fun hb97 => ?_))
 ·
  intro a Z HM
  have hwe : (b.ev cpu kd x0 x1).qm vs ≠ 0 := by rw [bne_iff_ne] at hb97; omega
  refine Jb Z HM ((JT∘JP∘Jy (v := .agg Ev.zero.cells) (h:=by exact Yl.qr rfl rfl ⟨kr, kr⟩ rfl (fun _ h => qb (h.blk (i := 2) rfl)))∘JV ⟨kr, kr⟩ O3' (h1:=by exact zd Ev.zero)) fun w20_1 => (Jp 2∘Jj∘JZ) fun a Z HM => ?_)
  exact ret3 rfl Z (.cellS (i := 3) Z HM rfl rfl ⟨kr, kr⟩ rfl) (.tmp Z rfl) (.tmp Z rfl) (⟨by rw [show takeR b cpu _ = _ from (qhb hrt hku hj hge).trans (qsk hwe)]; rfl, HM.below⟩)
 intro a Z HM
 have hwe : (b.ev cpu kd x0 x1).qm vs = 0 := by rw [bne_eq_false_iff_eq] at hb97; omega
 refine Jb Z HM ((JF∘JS'∘JP∘Jy (v := .agg (((b.ev cpu kd x0 x1).ze vs).cells)) (h:=by exact Yl.qr rfl rfl ⟨kr, kr⟩ rfl (fun _ h => qb (h.blk (i := 0) rfl)))∘Jp 1∘JV ⟨kr, kr⟩ O3' (h1:=by exact zd ((b.ev cpu kd x0 x1).ze vs))) fun w21_2 => (Jp 2∘Jj∘JZ) fun a Z HM => ?_)
 exact ret3 rfl Z (.cellS (i := 3) Z HM rfl rfl ⟨kr, kr⟩ rfl) (.tmp Z rfl) (.tmp Z rfl) (⟨by rw [show takeR b cpu _ = _ from (qhb hrt hku hj hge).trans (qpe hwe)]; rfl, HM.below⟩)
theorem qn6 (b : Bs) (cpu : Nat) (hcpu : cpu < 256) (A : Option Addr) (n c : Nat) (l : List Nat) (w : World) (hr : Rd w w.heap.size 1 A n (l.map B8)) (hc : n ≤ c) (hl : ∀ b ∈ l, b < 256) (hn : n ≤ 140737488355328) (hln : l.length = n) {e : Ev} {L er : Nat} (h : takeR b cpu l = (e, L, er)) :
  Calls Tryz.prog 103 #[.agg b.cells, vB cpu, .slice A n c] w fun r w' => r = .returned (.tuple #[.agg e.cells, vI L, vI er]) ∧ Below w.heap.size w w' :=
 (qss b cpu hcpu A n c l w hr hc hl hn hln).mono fun _ _ p => ⟨by rw [p.ret, h], p.below⟩
theorem qst (b : Bs) (cpu : Nat) (hcpu : cpu < 256) (m : Int) (hm : I64 m) (A : Option Addr) (n c : Nat) (l : List Nat) (w : World) (hr : Rd w w.heap.size 1 A n (l.map B8)) (hc : n ≤ c) (hl : ∀ b ∈ l, b < 256) (hn : n ≤ 1000000000) (hln : l.length = n) :
    Calls Tryz.prog 85 #[.agg b.cells, vB cpu, vI m, .slice A n c] w (EvsIs 105 w (readR b cpu m l)) := by
 refine (JN4 Tryz.func85 62) ?_
 refine (JP∘JE) fun w4 g4 => (Jp 3∘Jj∘JQ∘JP∘Jp 2∘Jd1∘Jj) (Ju (fun hb17 => ?_) fun hb17 => ?_)
 ·
  intro a Z HM
  have hm0 : m < 0 := by simpa using hb17
  exact Jb Z HM ((JT∘JP∘Jp 3∘Jj∘JZ∘Jz3) fun HM => qe5 (er := 2) (by unfold readR; rw [if_pos hm0]) HM.below)
 intro a Z HM
 have hm0 : ¬ m < 0 := by simpa using hb17
 refine Jb Z HM ((JF∘JS'∘JQ∘JP∘Jy (v := .agg b.cells) (h:=by exact Yl.qr rfl rfl ⟨kr, kr⟩ rfl (fun _ h => qb (h.blk (i := 0) rfl)))∘JL (h:=by exact fun HM => qdz b _)) ?_)
 rintro HM _ w19 ⟨rfl, hbw⟩
 refine ⟨_, rfl, _, HM.call hbw, ?_⟩
 refine (Jp 1∘Jd2∘Jj) (Ju (fun hb20 => ?_) fun hb20 => ?_)
 ·
  intro a Z HM
  have hrf : b.right = false := by simpa using hb20
  exact Jb Z HM ((JT∘JP∘Jp 3∘Jj∘JZ∘Jz3) fun HM => qe5 (er := 70) (by unfold readR; rw [if_neg hm0, if_pos hrf]) HM.below)
 intro a Z HM
 have hrt : b.right = true := by simpa using hb20
 refine Jb Z HM ((JF∘JS'∘JP∘Jp 1∘Jq) fun a Z HM => ?_)
 replace HM := HM.nil 105 11
 refine Jb Z HM ((JG∘JP∘Jp 1∘Jj∘JQ∘JB) fun a Z HM => ?_)
 refine qi (fun mS aS wS => ∃ (es : List Ev) (u : Nat) (bk : Bs) (Ak : Option Addr) (ck : Nat), (ReadJn b cpu m.toNat l es u bk) ∧ (es.length ≤ ck) ∧ mS = m.toNat - es.length ∧ Fr aS 62 [] [(12, vI u), (11, .slice Ak es.length ck), (20, .bool false), (17, .bool false), (10, vI 0), (9, vI 0), (8, vN), (4, vP g4 0), (1, vB cpu), (2, vI m), (3, .slice A n c)] ∧ Mem w wS [.row (.slice Ak es.length ck) es.length (es.flatMap evL) 105 11, .blk g4 bk.cells 127]) (m := m.toNat - [].length) ⟨[], 0, b, none, 0, ReadJn.start _ _ _ _, Nat.le_refl _, rfl, Z.sub kr, HM.pk [0, 1]⟩ ?_
 clear Z HM; rintro mS a w_ ⟨es, u, bk, Ak, ck, hat, hck, rfl, Z, HM⟩
 refine Jb Z HM ((JQ∘JP∘Jp 1∘Jl∘Jp 2∘Jd3∘Jj) (Ju (fun hb24 => ?_) fun hb24 => ?_))
 ·
  intro a Z HM
  have hlt : es.length < m.toNat := by simp at hb24; omega
  have hu := hat.fits
  rw [hln] at hu
  have hmo := hat.most
  obtain ⟨e, L, er, hq⟩ : ∃ e L er, takeR bk cpu (l.drop u) = (e, L, er) := ⟨_, _, _, rfl⟩
  have htl := (qfy bk cpu (l.drop u)).1
  rw [hq, List.length_drop, hln] at htl
  simp only at htl
  refine Jb Z HM ((JT∘JS'∘JB) fun a Z HM => ?_)
  refine zk (fun aS wS => ∃ (g13 : Nat), Fr aS 62 [] [(15, vI er), (14, vI L), (13, vP g13 0), (24, .bool true), (12, vI u), (11, .slice Ak es.length ck), (20, .bool false), (17, .bool false), (10, vI 0), (9, vI 0), (8, vN), (4, vP g4 0), (1, vB cpu), (2, vI m), (3, .slice A n c)] ∧ Mem w wS [.blk g13 e.cells 105, .row (.slice Ak es.length ck) es.length (es.flatMap evL) 105 11, .blk g4 bk.cells 127]) ?_ ?_
  ·
   refine Jb Z HM ((Vs .n [11]) fun wd8 => (Vp [1, 2, 3]∘Vy 0 (v := .agg bk.cells) (h:=by exact Yl.qr rfl rfl ⟨kr, kr⟩ rfl (fun _ h => qb (h.blk (i := 1) rfl)))∘Vy 4 (v := .slice (if c = u then A else A.map (·.add (u * 1))) (n - u) (c - u)) (h:=by exact Yl.sliceFrom ei_u8 (j := u) rfl rfl rfl (hu))) fun a Z HM HS => ?_)
   refine qcl [5, 10] kr rfl ?_
   refine all_cons ?_ ?_
   ·refine qa8 Z (i := 5) rfl rfl ?_
    refine e_cl Z [.agg bk.cells, vB cpu, .slice (if c = u then A else A.map (·.add (u * 1))) (n - u) (c - u)] rfl rfl (qn6 bk cpu hcpu _ (n - u) (c - u) (l.drop u) _ (Rd.qhx (HM.old hr) (k := u) hu hc) om (fun y hy => hl y (List.mem_of_mem_drop hy)) om (by rw [List.length_drop]; omega) hq) ?_
    rintro _ w31 ⟨rfl, hbw⟩
    refine ⟨_, rfl, ?_⟩
    replace HM := HM.call hbw
    clear Z; intro a Z
    refine keepS (HM.pk [0, 1]) (fun HS => ?_)
    refine Vb Z HM HS ((Vp [6]∘Vx 7∘Vx 8∘Vx 9∘VA 10 .n #[vI 0, vI 0, vB 0, vB 0, vI 0, vI 0, vI 0, vI 0, vI 0, vQ 0, vI 0]) fun w13 g13 => fun a Z HM HS => ?_)
    refine s_on Z 11 rfl (e_sa Z HM 0 rfl rfl rfl rfl rfl ⟨kr, kr⟩ rfl rfl (zd e) fun w8_11 HM => ?_)
    refine noS kr ?_
    refine ap Z (pastS kr) [12, 13] (bt 14 []) [(15, vI er), (14, vI L)] fun a Z => ?_
    refine qh kr ?_
    exact ⟨g13, Z.sub kr, HM.pk [0, 1, 2]⟩
   refine all_cons ?_ all_nil
   refine qa8 Z (i := 10) rfl rfl ?_
   refine s_ea Z HM #[vI 0, vI 0, vB 0, vB 0, vI 0, vI 0, vI 0, vI 0, vI 0, vQ 0, vI 0] ?_
   clear Z HM; intro a w13 g13 Z HM
   refine keepS (HM.pk [1, 2]) (fun HS => ?_)
   refine s_on Z 5 rfl ?_
   refine e_cl Z [.agg bk.cells, vB cpu, .slice (if c = u then A else A.map (·.add (u * 1))) (n - u) (c - u)] rfl rfl (qn6 bk cpu hcpu _ (n - u) (c - u) (l.drop u) _ (Rd.qhx (HM.old hr) (k := u) hu hc) om (fun y hy => hl y (List.mem_of_mem_drop hy)) om (by rw [List.length_drop]; omega) hq) ?_
   rintro _ w31 ⟨rfl, hbw⟩
   refine ⟨_, rfl, ?_⟩
   replace HM := HM.call hbw
   clear Z; intro a Z
   refine keepS (HM.pk [1, 2]) (fun HS => ?_)
   refine Vb Z HM HS ((Vp [6]∘Vx 7∘Vx 8∘Vx 9) fun a Z HM HS => ?_)
   refine s_on Z 11 rfl (e_sa Z HM 0 rfl rfl rfl rfl rfl ⟨kr, kr⟩ rfl rfl (zd e) fun w8_11 HM => ?_)
   refine noS kr ?_
   refine ap Z (pastS kr) [12, 13] (bt 14 []) [(15, vI er), (14, vI L)] fun a Z => ?_
   refine qh kr ?_
   exact ⟨g13, Z.sub kr, HM.pk [0, 1, 2]⟩
  clear Z HM; rintro a w8 ⟨g13, Z, HM⟩
  refine Jb Z HM ((JQ∘JP∘Jp 2∘Jd1∘Jj) (Ju (fun hb36 => ?_) fun hb36 => ?_))
  ·
   intro a Z HM
   have her : er ≠ 0 := by rw [bne_iff_ne] at hb36; omega
   exact Jb Z HM ((JT∘JP∘Jp 4∘Jj∘JZ∘Jz3) fun HM => qe5 (er := er) ((qly hm0 hrt).trans (hat.bad hlt hq her)) HM.below)
  intro a Z HM
  have her0 : er = 0 := by rw [bne_eq_false_iff_eq] at hb36; omega
  have hq0 : takeR bk cpu (l.drop u) = (e, L, 0) := by rw [hq, her0]
  refine Jb Z HM ((JF∘JS'∘JQ) fun a Z HM => ?_)
  refine zk (fun aS wS => Fr aS 62 [] [(47, .bool (es.getLast?.any (fun q => decide (e.seq = q.seq)))), (36, .bool false), (15, vI er), (14, vI L), (13, vP g13 0), (24, .bool true), (12, vI u), (11, .slice Ak es.length ck), (20, .bool false), (17, .bool false), (10, vI 0), (9, vI 0), (8, vN), (4, vP g4 0), (1, vB cpu), (2, vI m), (3, .slice A n c)] ∧ Mem w wS [.blk g13 e.cells 105, .row (.slice Ak es.length ck) es.length (es.flatMap evL) 105 11, .blk g4 bk.cells 127]) ?_ ?_
  ·
   refine qa7 ?_
   refine Jb Z HM ((Jp 1∘Jl∘Jp 2) (Ju (fun hb41 => ?_) fun hb41 => ?_))
   ·
    intro a Z HM
    obtain ⟨q, hls⟩ : ∃ q, es.getLast? = some q := by cases es with
      | nil => simp at hb41
      | cons a r => exact ⟨_, List.getLast?_cons⟩
    have hbq := hat.last q hls
    refine Jb Z HM ((Jg 0 O0∘Jg 0 O2∘Jp 2∘Jd6∘Jq) fun a Z HM => ?_)
    have Z := Z.sp 47 (.bool (es.getLast?.any (fun q => decide (e.seq = q.seq)))) rfl (congrArg Value.bool (by rw [hls]; rw [hbq]; rw [Bool.eq_iff_iff]; simp [Ev.at]))
    exact ⟨Z.sub kr, HM.pk [0, 1, 2]⟩
   intro a Z HM
   have hls : es.getLast? = none := by rw [List.length_eq_zero_iff.1 (show es.length = 0 by have := of_decide_eq_false hb41; omega)]; rfl
   refine Jb Z HM ((Jp 6∘Jd6∘Jq) fun a Z HM => ?_)
   have Z := Z.sp 47 (.bool (es.getLast?.any (fun q => decide (e.seq = q.seq)))) rfl (congrArg Value.bool (by rw [hls]; try rfl))
   exact ⟨Z.sub kr, HM.pk [0, 1, 2]⟩
  clear Z HM; rintro a w11 ⟨Z, HM⟩
  refine Jb Z HM (Ju (fun hb47 => ?_) fun hb47 => ?_)
  ·
   exact (JT∘JP∘Jp 3∘Jj∘JZ∘Jz3) fun HM => qe5 (er := 71) ((qly hm0 hrt).trans (hat.same hlt hq0 hb47)) HM.below
  intro a Z HM
  have hnx := hat.next hlt hq0 hb47
  refine Jb Z HM ((JF∘JS'∘JP∘Jp 1∘Jy (v := .agg e.cells) (h:=by exact Yl.qr rfl rfl ⟨kr, kr⟩ rfl (fun _ h => qb (h.blk (i := 0) rfl)))) fun a Z HM => ?_)
  refine fo Z 2 rfl rfl (s_el Z HM qqp [(0, .agg e.cells)] e.cells ?_)
  clear Z HM; intro a w50 g50 Z HM
  refine fo Z 3 rfl rfl (qn Z HM (i := 2) rfl qqp rfl rfl rfl (news := (evL e)) (HM.rdBlk (i := 0) (n := 1) (size := 11) rfl rfl) (zd e) om om rfl de ?_)
  clear Z HM; intro a w51 A51 c51 Z HM hc51
  refine Jb Z HM ((Jp 1∘Jd4∘Jq) fun a Z HM => ?_)
  have hnA51 : es.length + 1 = (es ++ [e]).length := by simp
  replace HM := HM.reRow (i := 2) (ys := (es ++ [e]).flatMap evL) rfl hnA51 (by simp)
  rw [hnA51] at hc51
  replace Z := Z.sp 11 (.slice A51 ((es ++ [e]).length) c51) rfl (by rw [hnA51])
  refine Jb Z HM ((JG∘JP∘Jp 3∘Jo (vI (u + L : Nat)) (by rw [IntWalk.i64_in _ om]; simp)∘Jp 1∘Jd3∘Jj∘JR∘Jg 0 O1∘Jg 1 O1∘Jy (v := .agg e.at.cells) (h:=by exact (Yl.build (vs := [(0, vI e.seq), (1, vI e.time)]) rfl kr kr))∘JV ⟨kr, kr⟩ O3' (h1:=by exact qp0 e.at)) fun w15_5 => (Jt3∘Jq) fun a Z HM => ?_)
  exact ⟨_, (by simp; omega), es ++ [e], u + L, e.at, A51, c51, hnx, hc51, rfl, Z.sub kr, HM.pk [2, 3]⟩
 intro a Z HM
 have hge : m.toNat ≤ es.length := by simp at hb24; omega
 exact Jb Z HM ((JF∘JX∘JG∘JP∘Jp 5∘Jj∘JZ∘Jz3) fun HM => qv9 ((qly hm0 hrt).trans (hat.done hge)) (HM.own (i := 0) rfl) hck HM.below)
theorem qpn (b : Bs) (A : Option Addr) (n c : Nat) (l : List Ev) (hok : ∀ e ∈ l, e.Ok) (w : World) (hr : Rd w w.heap.size 11 A n (l.flatMap evL)) (hn : n ≤ 1000000000) (hn47 : n ≤ 140737488355328) (hln : l.length = n) :
    Calls Tryz.prog 61 #[.agg b.cells, .slice A n c] w (qaq w (qv b l) (zg b l)) := by
 refine (JN2 Tryz.func61 56) ?_
 refine (JP∘JE) fun w2 g2 => (Jp 2∘Jj∘JQ∘JP∘Jp 1∘JL (h:=by exact fun HM => qi8 _ _ _ l hok _ (HM.old hr) hn47 hln)) ?_
 rintro HM _ w14 ⟨rfl, hbw⟩
 refine ⟨_, rfl, _, HM.call hbw, ?_⟩
 refine (Jp 1∘Jx∘Jx∘Jp 2∘Jd6∘Jr∘Jp 2∘Jd1∘Jj) (Ju (fun hb18 => ?_) fun hb18 => ?_)
 ·
  intro a Z HM
  have hr0 : (rowR l).2 ≠ 0 := by rw [bne_iff_ne] at hb18; omega
  exact Jb Z HM ((JT∘JP∘Jp 3∘Jj∘JZ∘Jz2) fun HM => qen (qnr hr0) (hr0) HM.below)
 intro a Z HM
 have hr0 : (rowR l).2 = 0 := by rw [bne_eq_false_iff_eq] at hb18; omega
 refine Jb Z HM ((JF∘JS'∘JQ∘JP∘Jy (v := .agg b.cells) (h:=by exact Yl.qr rfl rfl ⟨kr, kr⟩ rfl (fun _ h => qb (h.blk (i := 0) rfl)))∘JL (h:=by exact fun HM => qdz b _)) ?_)
 rintro HM _ w21 ⟨rfl, hbw⟩
 refine ⟨_, rfl, _, HM.call hbw, ?_⟩
 refine (Jp 1∘Jd2∘Jj) (Ju (fun hb22 => ?_) fun hb22 => ?_)
 ·
  intro a Z HM
  have hrf : ¬ b.right = true := by simpa using hb22
  exact Jb Z HM ((JT∘JP∘Jp 2∘Jj∘JZ∘Jz2) fun HM => qen (qlx hr0 hrf) de HM.below)
 intro a Z HM
 have hrt : b.right = true := by simpa using hb22
 refine Jb Z HM ((JF∘JS'∘JP∘Jp 1∘Jq) fun a Z HM => ?_)
 replace HM := HM.nil 5 1
 refine Jb Z HM ((JG∘JQ∘JP∘Jp 1∘Jj∘JB) fun a Z HM => ?_)
 refine qi (fun mS aS wS => ∃ (k : Nat) (bk : Bs) (Ak : Option Addr) (ck : Nat), (k ≤ n) ∧ (WriteAt b l k bk) ∧ ((zy b l k).length ≤ ck) ∧ mS = n - k ∧ Fr aS 56 [] [(9, vI k), (8, .slice Ak ((zy b l k).length) ck), (22, .bool false), (18, .bool false), (7, vI ((rowR l).2)), (5, vI 0), (4, vN), (2, vP g2 0), (1, .slice A n c)] ∧ Mem w wS [.row (.slice Ak ((zy b l k).length) ck) ((zy b l k).length) ((zy b l k).map B8) 5 1, .blk g2 bk.cells 127]) (m := n - 0) ⟨0, b, none, 0, Nat.zero_le _, WriteAt.start b l, Nat.le_refl _, rfl, Z.sub kr, HM.pk [0, 1]⟩ ?_
 clear Z HM; rintro mS a w_ ⟨k, bk, Ak, ck, hk, hat, hck, rfl, Z, HM⟩
 refine Jb Z HM ((JQ∘JP∘Jp 2∘Jl∘Jp 1∘Jd3∘Jj) (Ju (fun hb26 => ?_) fun hb26 => ?_))
 ·
  intro a Z HM
  have hk26 : k < n := by simp at hb26; omega
  obtain ⟨e, hke⟩ : ∃ e, l[k]? = some e := ⟨_, List.getElem?_eq_getElem om⟩
  have hpl := qv8 bk e
  have hwl := qpf b l k
  refine Jb Z HM ((JT∘JS'∘JQ∘JB) fun a Z HM => ?_)
  refine wp_seq ?_
  refine Jb Z HM ((Vs .n []) fun wd10 => (Vp [1, 2]∘Vy 0 (v := .agg bk.cells) (h:=by exact Yl.qr rfl rfl ⟨kr, kr⟩ rfl (fun _ h => qb (h.blk (i := 1) rfl)))) ?_)
  repeat (first | clear Z | clear HM | clear HS)
  intro a Z HM HS
  obtain ⟨gA, oA, rfl, _⟩ := hr.qt (Nat.lt_of_le_of_lt (Nat.zero_le _) (show k < n from hk26)) de
  refine Vb Z HM HS ((Vy 3 (v := vP gA (oA + k * 11)) (h:=by exact Yl.ix gA oA k 11 rfl rfl rfl (hk26))∘Vy 4 (v := .agg e.cells) (h:=by exact Yl.qr rfl rfl ⟨kr, kr⟩ rfl (fun _ h => (h.old hr).qah qw (hke)))∘VK 5 .n (h:=by exact fun HM => qwp bk e (hok e (List.mem_of_getElem? hke)) _)) fun A35 c35 w35 hc35 => (Vp [6]∘Vx 7∘Vx 8∘Vp [9, 10]∘Vd∘JQ∘JP∘Jp 2∘Jd1∘Jj) (Ju (fun hb39 => ?_) fun hb39 => ?_))
  ·
   intro a Z HM
   have hpe : qz bk e ≠ 0 := by rw [bne_iff_ne] at hb39; omega
   have hk00 : k = 0 := hat.bad hr0 hrt hke hpe
   have hend := hat.fail hr0 hrt hke hk00 hpe
   exact Jb Z HM ((JT∘JP∘Jp 3∘Jj∘JZ∘Jz2) fun HM => qen (hend) (hpe) HM.below)
  intro a Z HM
  have hpe : qz bk e = 0 := by rw [bne_eq_false_iff_eq] at hb39; omega
  have hup := hat.up hke hpe
  have hnx := hat.next hke hpe
  refine Jb Z HM ((JF∘JS'∘JP∘Jp 2) fun a Z HM => ?_)
  refine fo Z 2 rfl rfl (qn Z HM (i := 1) rfl ei_u8 rfl rfl rfl (news := ((qan bk e).map B8)) (HM.rd (i := 0) rfl) (qba _) om om rfl de ?_)
  clear Z HM; intro a w43 A43 c43 Z HM hc43
  refine Jb Z HM ((Jp 1∘Jd3∘Jq) fun a Z HM => ?_)
  have hnA43 : ((zy b l k).length) + ((qan bk e).length) = (zy b l (k + 1)).length := by rw [hup]; simp
  replace HM := HM.reRow (i := 1) (ys := (zy b l (k + 1)).map B8) rfl hnA43 (by rw [hup]; simp)
  rw [hnA43] at hc43
  replace Z := Z.sp 8 (.slice A43 ((zy b l (k + 1)).length) c43) rfl (by rw [hnA43])
  refine Jb Z HM ((JG∘Vs .n [11]) fun wd14 => (Vp [0, 1, 5, 6]∘Vy 2 (v := vP gA (oA + k * 11)) (h:=by exact Yl.ix gA oA k 11 rfl rfl rfl (hk26))∘Vf 3 0∘Vy 4 (v := vI e.seq) (h:=by exact Yl.qx rfl rfl kr (fun _ h => (by have := (h.old hr).partAt qw (k := k) (j := 0) (x := e) (hke) rfl; simpa using this)))∘Vy 7 (v := vP gA (oA + k * 11)) (h:=by exact Yl.ix gA oA k 11 rfl rfl rfl (hk26))∘Vf 8 1∘Vy 9 (v := vI e.time) (h:=by exact Yl.qx rfl rfl kr (fun _ h => (h.old hr).partAt qw (k := k) (j := 1) (x := e) (hke) rfl))∘Vy 10 (v := .agg e.at.cells) (h:=by exact (Yl.build (vs := [(0, vI e.seq), (1, vI e.time)]) rfl kr kr))) fun a Z HM HS => ?_)
  refine s_on Z 11 rfl (e_sa Z HM 2 rfl rfl rfl rfl rfl ⟨kr, kr⟩ rfl rfl (qp0 e.at) fun w14_11 HM => ?_)
  refine noS kr ?_
  refine qh kr ?_
  refine Jb Z HM ((JG∘JR∘Jp 2∘Jo (vI (k + 1 : Nat)) (by rw [IntWalk.i64_in _ om]; simp)∘Jp 1∘Jd6∘Jq) fun a Z HM => ?_)
  exact ⟨_, om, k + 1, e.at, A43, c43, by omega, hnx, hc43, rfl, Z.sub kr, HM.pk [1, 2]⟩
 repeat (first | clear Z | clear HM)
 intro a Z HM
 obtain rfl : n = k := by simp at hb26; omega
 exact Jb Z HM ((JF∘JX∘JG∘JP∘Jp 3∘Jj∘JZ∘Jz2) fun HM => hat.done hr0 hrt hln (HM.own (i := 0) rfl) hck HM.below)
theorem qsq (b : Bk) (hok : b.Ok) (A : Option Addr) (c : Nat) (w : World) (hr : Rd w w.heap.size 11 A b.evs.length (b.evs.flatMap evL)) (hn : b.evs.length ≤ 1000000) :
    Calls Tryz.prog 57 #[.agg (b.cells A c)] w (Is w (.bool b.fits)) := by
 refine (JN1 Tryz.func57 91) ?_
 refine (JP∘JE) fun w1 g1 => (Jp 1∘Jj∘JQ∘JP∘Jg 0 O0∘Jp 1∘Jd1∘Jj) (Ju (fun hb8 => ?_) fun hb8 => ?_)
 ·
  intro a Z HM
  have hd8 := eq_of_beq hb8
  refine Jb Z HM ((JT∘JP∘Jg 3 O0∘Jp 2) (Ji (fun hd12 => ?_) fun hd12 => ?_))
  ·
   refine (Jg 3 O0∘Jp 3) (Ji (fun hd17 => ?_) fun hd17 => ?_)
   ·
    refine (Jg 1 O0∘Jp 3) (Je (fun hd22 => ?_) fun hd22 => ?_)
    ·
     refine (Jg 2 O0∘Jp 3) (Je (fun hd27 => ?_) fun hd27 => ?_)
     ·
      exact (Jg 4 O0∘Jl∘Jp 3∘Jd6∘Jj∘JZ∘Jz1) fun HM => by exact ⟨congrArg (fun x => Ending.returned (.bool x)) (by rw [qgc om, Bool.eq_iff_iff, beq_iff_eq, decide_eq_true_eq]; omega), HM.below⟩
     exact (Jp 6∘Jd6∘Jj∘JZ∘Jz1) fun HM => by exact ⟨by rw [qgc om, decide_eq_false om], HM.below⟩
    exact (Jv 11 [(2, .bool false)]∘Jd6∘Jj∘JZ∘Jz1) fun HM => by exact ⟨by rw [qgc om, decide_eq_false om], HM.below⟩
   exact (Jv 16 [(2, .bool false)]∘Jd6∘Jj∘JZ∘Jz1) fun HM => by exact ⟨by rw [qgc om, decide_eq_false om], HM.below⟩
  exact (Jv 21 [(2, .bool false)]∘Jd3∘Jj∘JZ∘Jz1) fun HM => by exact ⟨by rw [qgc om, decide_eq_false om], HM.below⟩
 intro a Z HM
 have hd8 := ne_of_beq_false hb8
 refine Jb Z HM ((JF∘JS'∘JQ∘JP∘Jg 0 O0∘Jp 2) (Jh (fun hd36 => ?_) fun hd36 => ?_))
 ·
  exact (Jv 30 [(66, .bool true)]∘Jd3∘Jj∘JT∘JP∘Jp 1∘Jj∘JZ∘Jz1) fun HM => by exact ⟨by rw [qe3 om om], HM.below⟩
 refine (Jg 1 O0∘Jp 3) (Ji (fun hd41 => ?_) fun hd41 => ?_)
 ·
  exact (Jv 25 [(66, .bool true)]∘Jd6∘Jj∘JT∘JP∘Jp 1∘Jj∘JZ∘Jz1) fun HM => by exact ⟨by rw [qe3 om om], HM.below⟩
 refine (Jg 2 O0∘Jp 3) (Ji (fun hd46 => ?_) fun hd46 => ?_)
 ·
  exact (Jv 20 [(66, .bool true)]∘Jd6∘Jj∘JT∘JP∘Jp 1∘Jj∘JZ∘Jz1) fun HM => by exact ⟨by rw [qe3 om om], HM.below⟩
 refine (Jg 2 O0∘Jp 3) (Ji (fun hd51 => ?_) fun hd51 => ?_)
 ·
  exact (Jv 15 [(66, .bool true)]∘Jd6∘Jj∘JT∘JP∘Jp 1∘Jj∘JZ∘Jz1) fun HM => by exact ⟨by rw [qe3 om om], HM.below⟩
 refine (Jg 3 O0∘Jp 3) (Jh (fun hd56 => ?_) fun hd56 => ?_)
 ·
  exact (Jv 10 [(66, .bool true)]∘Jd6∘Jj∘JT∘JP∘Jp 1∘Jj∘JZ∘Jz1) fun HM => by exact ⟨by rw [qe3 om om], HM.below⟩
 refine (Jg 2 O0∘Jp 2) (Je (fun hd60 => ?_) fun hd60 => ?_)
 ·
  refine (Jg 4 O0∘Jl∘Jp 3∘Jd6∘Jj) (Je (fun hd66 => ?_) fun hd66 => ?_)
  ·
   exact (JT∘JP∘Jp 1∘Jj∘JZ∘Jz1) fun HM => by exact ⟨by rw [qe3 om om], HM.below⟩
  refine (JF∘JS'∘JQ∘JP∘Jp 1∘Jj∘JB) fun a Z HM => ?_
  refine qi (fun mS aS wS => ∃ (k : Nat), (k ≤ b.evs.length) ∧ (∀ i, i < k → (b.evs.getD i Ev.zero).cpu = b.cpu) ∧ mS = b.evs.length - k ∧ Fr aS 91 [] [(3, vI k), (66, .bool false), (8, .bool false), (2, .bool false), (1, vP g1 0)] ∧ Mem w wS [.blk g1 (b.cells A c) 42]) (m := b.evs.length - 0) ⟨0, Nat.zero_le _, fun i hi => absurd hi (Nat.not_lt_zero _), rfl, Z.sub kr, HM.pk [0]⟩ ?_
  clear Z HM; rintro mS a w_ ⟨k, hk, hall, rfl, Z, HM⟩
  refine Jb Z HM ((JQ∘JP∘Jp 1∘Jg 4 O0∘Jl∘Jp 1∘Jd3∘Jj) (Ji (fun hd71 => ?_) fun hd71 => ?_))
  ·
   refine (JT∘JS'∘JQ∘JB) fun a Z HM => ?_
   refine wp_seq ?_
   refine Jb Z HM ((Vs .n []) fun wd8 => (Vf 0 4∘Vp [2]∘Vf 6 1∘Vc 1 O0) ?_)
   repeat (first | clear Z | clear HM | clear HS)
   intro a Z HM HS
   obtain ⟨gA, oA, rfl, _⟩ := hr.qt (Nat.lt_of_le_of_lt (Nat.zero_le _) (show k < b.evs.length from by omega)) de
   refine Vb Z HM HS ((Vy 3 (v := vP gA (oA + k * 11)) (h:=by exact Yl.ix gA oA k 11 rfl rfl rfl)∘Vf 4 2∘Vy 5 (v := vB ((b.evs.getD k Ev.zero).cpu)) (h:=by exact Yl.qx rfl rfl kr (fun _ h => (h.old hr).partAt qw (k := k) (j := 2) (x := (b.evs.getD k Ev.zero)) ((getD_at Ev.zero (k := k) (by first | omega | (simp; omega)))) rfl))∘Vc 7 O0∘Vp [8]∘Vd∘Jd6) (Jh (fun hd82 => ?_) fun hd82 => ?_))
   ·
    exact (JT∘JP∘Jp 1∘Jj∘JZ∘Jz1) fun HM => by exact ⟨by rw [qql hok om (k := k) om om], HM.below⟩
   refine (JF∘JS'∘JR∘Jp 1∘JaK 1∘Jp 1∘Jd2∘Jq) fun a Z HM => ?_
   exact ⟨_, om, k + 1, by omega, fun i hi => (Nat.lt_succ_iff_lt_or_eq.1 hi).elim (hall i) (fun h => by subst h; omega), rfl, Z.sub kr, HM.pk [0]⟩
  refine (JF∘JX∘JG∘JP∘Jg 4 O0∘JL (h:=by exact fun HM => qi8 _ _ _ b.evs hok.evs _ (HM.old hr) om rfl)) ?_
  rintro HM _ w86 ⟨rfl, hbw⟩
  refine ⟨_, rfl, _, HM.call hbw, ?_⟩
  exact (Jp 1∘Jx∘Jx∘Jp 2∘Jd6∘Jr∘Jp 3∘Jd3∘Jj∘JZ∘Jz1) fun HM => by exact ⟨congrArg (fun x => Ending.returned (.bool x)) (by rw [qgd om om om om om om (fun i hi => hall i om), Bool.eq_iff_iff, beq_iff_eq, decide_eq_true_eq]; omega), HM.below⟩
 refine (Jp 6∘Jd6∘Jj∘JF∘JS'∘JQ∘JP∘Jp 1∘Jj∘JB) fun a Z HM => ?_
 refine qi (fun mS aS wS => ∃ (k : Nat), (k ≤ b.evs.length) ∧ (∀ i, i < k → (b.evs.getD i Ev.zero).cpu = b.cpu) ∧ mS = b.evs.length - k ∧ Fr aS 91 [] [(3, vI k), (66, .bool false), (8, .bool false), (2, .bool false), (1, vP g1 0)] ∧ Mem w wS [.blk g1 (b.cells A c) 42]) (m := b.evs.length - 0) ⟨0, Nat.zero_le _, fun i hi => absurd hi (Nat.not_lt_zero _), rfl, Z.sub kr, HM.pk [0]⟩ ?_
 clear Z HM; rintro mS a w_ ⟨k, hk, hall, rfl, Z, HM⟩
 refine Jb Z HM ((JQ∘JP∘Jp 1∘Jg 4 O0∘Jl∘Jp 1∘Jd3∘Jj) (Ji (fun hd71 => ?_) fun hd71 => ?_))
 ·
  refine (JT∘JS'∘JQ∘JB) fun a Z HM => ?_
  refine wp_seq ?_
  refine Jb Z HM ((Vs .n []) fun wd8 => (Vf 0 4∘Vp [2]∘Vf 6 1∘Vc 1 O0) ?_)
  repeat (first | clear Z | clear HM | clear HS)
  intro a Z HM HS
  obtain ⟨gA, oA, rfl, _⟩ := hr.qt (Nat.lt_of_le_of_lt (Nat.zero_le _) (show k < b.evs.length from by omega)) de
  refine Vb Z HM HS ((Vy 3 (v := vP gA (oA + k * 11)) (h:=by exact Yl.ix gA oA k 11 rfl rfl rfl)∘Vf 4 2∘Vy 5 (v := vB ((b.evs.getD k Ev.zero).cpu)) (h:=by exact Yl.qx rfl rfl kr (fun _ h => (h.old hr).partAt qw (k := k) (j := 2) (x := (b.evs.getD k Ev.zero)) ((getD_at Ev.zero (k := k) (by first | omega | (simp; omega)))) rfl))∘Vc 7 O0∘Vp [8]∘Vd∘Jd6) (Jh (fun hd82 => ?_) fun hd82 => ?_))
  ·
   exact (JT∘JP∘Jp 1∘Jj∘JZ∘Jz1) fun HM => by exact ⟨by rw [qql hok om (k := k) om om], HM.below⟩
  refine (JF∘JS'∘JR∘Jp 1∘JaK 1∘Jp 1∘Jd2∘Jq) fun a Z HM => ?_
  exact ⟨_, om, k + 1, by omega, fun i hi => (Nat.lt_succ_iff_lt_or_eq.1 hi).elim (hall i) (fun h => by subst h; omega), rfl, Z.sub kr, HM.pk [0]⟩
 refine (JF∘JX∘JG∘JP∘Jg 4 O0∘JL (h:=by exact fun HM => qi8 _ _ _ b.evs hok.evs _ (HM.old hr) om rfl)) ?_
 rintro HM _ w86 ⟨rfl, hbw⟩
 refine ⟨_, rfl, _, HM.call hbw, ?_⟩
 exact (Jp 1∘Jx∘Jx∘Jp 2∘Jd6∘Jr∘Jp 3∘Jd3∘Jj∘JZ∘Jz1) fun HM => by exact ⟨congrArg (fun x => Ending.returned (.bool x)) (by rw [qgd om om om om om om (fun i hi => hall i om), Bool.eq_iff_iff, beq_iff_eq, decide_eq_true_eq]; omega), HM.below⟩
theorem qft (b : Bk) (hok : b.Ok) (A : Option Addr) (c : Nat) (w : World) (hr : Rd w w.heap.size 11 A b.evs.length (b.evs.flatMap evL)) (hn : b.evs.length ≤ 1000000) (hf : b.fits = true) :
    Calls Tryz.prog 38 #[.agg (b.cells A c)] w (zr w b.raw) := by
 refine (JN1 Tryz.func38 83) ?_
 refine (JP∘JE) fun w1 g1 => (Jp 1∘Jq) fun a Z HM => ?_
 have hbl := qcp b
 refine Jb Z HM ((JG∘JP∘Jp 1∘Jj∘JQ∘JP∘Jg 0 O0∘Jp 1∘Jd1∘Jj) (Ju (fun hb11 => ?_) fun hb11 => ?_))
 ·
  intro a Z HM
  have hd11 := eq_of_beq hb11
  have hk2 : b.kind = 2 := by omega
  obtain ⟨n1, n2, n3, n4, n5⟩ := qit hf hk2
  refine Jb Z HM ((JT∘JR∘Jg 3 O0∘Jv 1 [(14, vQ (IntKind.u64.wrap b.next))]∘Jo (vQ b.next.toNat) (by exact qcm om om)∘JK (h:=by exact fun HM => qkr b.next.toNat _ om)) fun A15 c15 w15 hc15 => (Jp 1∘Jd3∘Jj) fun a Z HM => ?_)
  refine zk (fun aS wS => ∃ (Ax : Option Addr) (cx : Nat), (b.body.length ≤ cx) ∧ Fr aS 83 [] [(3, .slice Ax b.body.length cx), (2, vN), (1, vP g1 0)] ∧ Mem w wS [.row (.slice Ax b.body.length cx) b.body.length (b.body.map B8) 5 1, .blk g1 (b.cells A c) 42]) ?_ ?_
  ·
   refine Jb Z HM ((JP∘Jg 4 O1∘Jl∘Jp 1∘Jd2∘Jj) fun a Z HM => ?_)
   have hb31 : (decide ((b.evs.length : Int) > (0 : Int))) = false := by rw [decide_eq_false om]
   have Z := Z.sp 31 (.bool false) rfl (by rw [hb31])
   have hnA15 : ((vbytes b.next.toNat)).length = b.body.length := by rw [qqr hk2]
   replace HM := HM.reRow (i := 0) (ys := b.body.map B8) rfl hnA15 (by rw [qqr hk2])
   replace Z := Z.sp 3 (.slice A15 b.body.length c15) rfl (by rw [hnA15])
   refine Jb Z HM ((JF∘JS) fun a Z HM => ?_)
   exact ⟨A15, c15, by omega, Z.sub kr, HM.pk [0, 1]⟩
  clear Z HM; rintro a w9 ⟨Ax, cx, hcx, Z, HM⟩
  refine Jb Z HM ((JP∘Jp 1∘Jl∘JaK 12∘Jp 1∘Jd3∘Jq) fun a Z HM => ?_)
  have hbl := qcp b
  refine Jb Z HM ((JG∘JP∘Jp 2∘Jo (vI ((b.body.length + 12) % 256 : Nat)) (by exact qae .i64 _ 256)∘Jv 1 [(65, vB (IntKind.u8.wrap (((b.body.length + 12) % 256 : Nat) : Int)))]∘Jo (vB ((b.body.length + 12) % 256 : Nat)) (by exact (qa9 ((b.body.length + 12) % 256)).trans (by rw [Nat.mod_mod]))∘Jp 2∘Jo (vI ((b.body.length + 12) / 256 : Nat)) (by exact qbf .i64 256 (by show _ ≤ 9223372036854775807; omega))∘Jp 1∘Jo (vI (((b.body.length + 12) / 256) % 256 : Nat)) (by exact qae .i64 _ 256)∘Jv 1 [(69, vB (IntKind.u8.wrap ((((b.body.length + 12) / 256) % 256 : Nat) : Int)))]∘Jo (vB (((b.body.length + 12) / 256) % 256 : Nat)) (by exact (qa9 (((b.body.length + 12) / 256) % 256)).trans (by rw [Nat.mod_mod]))∘Jp 2∘Jo (vI ((b.body.length + 12) / 65536 : Nat)) (by exact qbf .i64 65536 (by show _ ≤ 9223372036854775807; omega))∘Jp 1∘Jo (vI (((b.body.length + 12) / 65536) % 256 : Nat)) (by exact qae .i64 _ 256)∘Jv 1 [(73, vB (IntKind.u8.wrap ((((b.body.length + 12) / 65536) % 256 : Nat) : Int)))]∘Jo (vB (((b.body.length + 12) / 65536) % 256 : Nat)) (by exact (qa9 (((b.body.length + 12) / 65536) % 256)).trans (by rw [Nat.mod_mod]))∘Jp 2∘Jo (vI ((b.body.length + 12) / 16777216 : Nat)) (by exact qbf .i64 16777216 (by show _ ≤ 9223372036854775807; omega))∘Jv 1 [(76, vB (IntKind.u8.wrap (((b.body.length + 12) / 16777216 : Nat) : Int)))]∘Jo (vB (((b.body.length + 12) / 16777216) % 256 : Nat)) (by exact qa9 ((b.body.length + 12) / 16777216))∘Jg 0 O1) fun a Z HM => ?_)
  refine fo Z 16 rfl rfl (s_el Z HM ei_u8 [(0, vB ((b.body.length + 12) % 256 : Nat)), (1, vB (((b.body.length + 12) / 256) % 256 : Nat)), (2, vB (((b.body.length + 12) / 65536) % 256 : Nat)), (3, vB (((b.body.length + 12) / 16777216) % 256 : Nat)), (4, vB 113), (5, vB 116), (6, vB 1), (7, vB b.kind)] #[vB ((b.body.length + 12) % 256 : Nat), vB (((b.body.length + 12) / 256) % 256 : Nat), vB (((b.body.length + 12) / 65536) % 256 : Nat), vB (((b.body.length + 12) / 16777216) % 256 : Nat), vB 113, vB 116, vB 1, vB b.kind] ?_)
  clear Z HM; intro a w79 g79 Z HM
  refine Jb Z HM ((Jp 1∘Jd6∘Jr∘Jp 2) fun a Z HM => ?_)
  refine fo Z 2 rfl rfl ?_
  replace HM := HM.blkRow (i := 0) (n := 8) (size := 1) rfl rfl de
  refine qn Z HM (i := 0) rfl ei_u8 rfl rfl rfl (news := (b.body.map B8)) (HM.rd (i := 1) rfl) (qba _) om om rfl de ?_
  clear Z HM; intro a w82 A82 c82 Z HM hc82
  refine Jb Z HM ((Jp 1∘Jd6∘Jq) fun a Z HM => ?_)
  have hnA82 : 8 + b.body.length = b.raw.length := by rw [qdc]
  replace HM := HM.reRow (i := 0) (ys := b.raw.map B8) rfl hnA82 (raw10 b)
  rw [hnA82] at hc82
  replace Z := Z.sp 2 (.slice A82 b.raw.length c82) rfl (by rw [hnA82])
  exact Jb Z HM ((JG∘JZ∘Jz1) fun HM => by exact ⟨⟨_, _, rfl, HM.own (i := 0) rfl, hc82⟩, HM.below⟩)
 intro a Z HM
 have hd11 := ne_of_beq_false hb11
 have hk2 : b.kind ≠ 2 := by omega
 obtain ⟨m0, m1, m2, m3, m4⟩ := qis hf hk2
 refine Jb Z HM ((JF∘JR∘Jg 1 O0∘Jw .u64∘Jg 2 O0∘Jv 1 [(21, vQ (IntKind.u64.wrap b.lost))]∘Jo (vQ b.lost.toNat) (by exact qcm om om)∘Jg 4 O0∘Jl∘Jw .u64) fun a Z HM => ?_)
 refine fo Z 10 rfl rfl (s_el Z HM qc0 [(0, vQ b.cpu), (1, vQ b.lost.toNat), (2, vQ b.evs.length)] #[vQ b.cpu, vQ b.lost.toNat, vQ b.evs.length] ?_)
 clear Z HM; intro a w26 g26 Z HM
 refine Jb Z HM ((JK (h:=by exact fun HM => qks _ 3 _ [b.cpu, b.lost.toNat, b.evs.length] _ (HM.rdBlk (i := 0) (n := 3) (size := 1) rfl rfl) rfl (by intro x hx; simp only [List.mem_cons, List.not_mem_nil, or_false] at hx; omega) om)) fun A27 c27 w27 hc27 => fun a Z HM => ?_)
 have hfl27 := qad [b.cpu, b.lost.toNat, b.evs.length]
 simp only [List.length_cons, List.length_nil] at hfl27
 refine Jb Z HM ((Jp 1∘Jd6∘Jj) fun a Z HM => ?_)
 refine zk (fun aS wS => ∃ (Ax : Option Addr) (cx : Nat), (b.body.length ≤ cx) ∧ Fr aS 83 [] [(3, .slice Ax b.body.length cx), (2, vN), (1, vP g1 0)] ∧ Mem w wS [.row (.slice Ax b.body.length cx) b.body.length (b.body.map B8) 5 1, .blk g1 (b.cells A c) 42]) ?_ ?_
 ·
  refine Jb Z HM ((JP∘Jg 4 O2∘Jl∘Jp 1∘Jd2∘Jj) (Ju (fun hb31 => ?_) fun hb31 => ?_))
  ·
   intro a Z HM
   have hd31 := of_decide_eq_true hb31
   obtain ⟨b1, b2, b3, b4⟩ : 0 ≤ (b.evs.getD 0 Ev.zero).seq ∧ (b.evs.getD 0 Ev.zero).seq ≤ 281474976710656 ∧ 0 ≤ (b.evs.getD 0 Ev.zero).time ∧ (b.evs.getD 0 Ev.zero).time ≤ 281474976710656 := by have hbd := qlg hok hf hk2 om; rw [qeg] at hbd; exact hbd
   have hw07 := qj5 hok (qcw hf hk2).2 om
   refine Jb Z HM ((JT∘JP∘Jg 4 O2) ?_)
   repeat (first | clear Z | clear HM)
   intro a Z HM
   obtain ⟨gA, oA, rfl, _⟩ := hr.qt (Nat.lt_of_le_of_lt (Nat.zero_le _) (show 0 < b.evs.length from by omega)) de
   refine Jb Z HM ((Jy (v := vP gA oA) (h:=by exact Yl.indexAddr (ad := ⟨gA, oA, none⟩) (y := 0) (sz := 11) rfl rfl rfl om kr)∘Jy (v := .agg ((b.evs.getD 0 Ev.zero).cells)) (h:=by exact Yl.qr rfl rfl ⟨kr, kr⟩ rfl (fun _ h => (h.old hr).qah qw ((getD_at Ev.zero (k := 0) (by first | omega | (simp; omega))))))∘JA #[vI 0, vI 0, vB 0, vB 0, vI 0, vI 0, vI 0, vI 0, vI 0, vQ 0, vI 0]) fun w4 g4 => (JV ⟨kr, kr⟩ O0' (h1:=by exact zd (b.evs.getD 0 Ev.zero))) fun w6_5 => (Jd3∘Jr∘Jp 1∘Jg 0 O0∘Jv 1 [(39, vQ (IntKind.u64.wrap ((b.evs.getD 0 Ev.zero).seq)))]∘Jo (vQ (((b.evs.getD 0 Ev.zero).seq).toNat : Nat)) (by exact qcm om om)∘Jg 1 O0∘Jv 1 [(42, vQ (IntKind.u64.wrap ((b.evs.getD 0 Ev.zero).time)))]∘Jo (vQ (((b.evs.getD 0 Ev.zero).time).toNat : Nat)) (by exact qcm om om)) fun a Z HM => ?_)
   refine fo Z 7 rfl rfl (s_el Z HM qc0 [(0, vQ (((b.evs.getD 0 Ev.zero).seq).toNat : Nat)), (1, vQ (((b.evs.getD 0 Ev.zero).time).toNat : Nat))] #[vQ (((b.evs.getD 0 Ev.zero).seq).toNat : Nat), vQ (((b.evs.getD 0 Ev.zero).time).toNat : Nat)] ?_)
   clear Z HM; intro a w43 g43 Z HM
   refine Jb Z HM ((JK (h:=by exact fun HM => qks _ 2 _ [(b.evs.getD 0 Ev.zero).seq.toNat, (b.evs.getD 0 Ev.zero).time.toNat] _ (HM.rdBlk (i := 0) (n := 2) (size := 1) rfl rfl) rfl (by intro x hx; simp only [List.mem_cons, List.not_mem_nil, or_false] at hx; omega) om)) fun A44 c44 w44 hc44 => fun a Z HM => ?_)
   have hfl44 := qad [(b.evs.getD 0 Ev.zero).seq.toNat, (b.evs.getD 0 Ev.zero).time.toNat]
   simp only [List.length_cons, List.length_nil] at hfl44
   refine fo Z 9 rfl rfl (qn Z HM (i := 3) rfl ei_u8 rfl rfl rfl (news := (([(b.evs.getD 0 Ev.zero).seq.toNat, (b.evs.getD 0 Ev.zero).time.toNat].flatMap vbytes).map B8)) (HM.rd (i := 0) rfl) (qba _) om om rfl de ?_)
   clear Z HM; intro a w45 A45 c45 Z HM hc45
   refine Jb Z HM ((Jp 1∘Jd6∘Jq∘JM (.f (.f (.t (.t (.f .n)))))∘JG∘JP∘Jg 0 O0∘Jg 1 O0∘Jy (v := .agg ((⟨(b.evs.getD 0 Ev.zero).seq, (b.evs.getD 0 Ev.zero).time⟩ : Bs).cells)) (h:=by exact (Yl.build (vs := [(0, vI ((b.evs.getD 0 Ev.zero).seq)), (1, vI ((b.evs.getD 0 Ev.zero).time))]) rfl kr kr))∘Jg 4 O2∘JK (h:=by exact fun HM => (qpn ⟨(b.evs.getD 0 Ev.zero).seq, (b.evs.getD 0 Ev.zero).time⟩ _ _ _ b.evs hok.evs _ (HM.old hr) om om rfl).mono (fun _ _ h => h.as (er' := 0) (R' := recs b.base b.evs) (by rw [← qeg]; exact hw07.1) (by rw [← qeg]; exact hw07.2)))) fun A54 c54 w54 hc54 => fun a Z HM => ?_)
   have hrl := qf8 b.evs b.base
   refine Jb Z HM ((Jp 1∘Jx∘Jx∘Jp 2∘Jt1∘Jj∘JR∘Jp 2) fun a Z HM => ?_)
   refine fo Z 2 rfl rfl (qn Z HM (i := 2) rfl ei_u8 rfl rfl rfl (news := ((recs b.base b.evs).map B8)) (HM.rd (i := 0) rfl) (qba _) om om rfl de ?_)
   clear Z HM; intro a w59 A59 c59 Z HM hc59
   refine Jb Z HM ((Jp 1∘Jd6∘Jq) fun a Z HM => ?_)
   have hnA59 : (((([b.cpu, b.lost.toNat, b.evs.length].flatMap vbytes)).length) + ((([(b.evs.getD 0 Ev.zero).seq.toNat, (b.evs.getD 0 Ev.zero).time.toNat].flatMap vbytes)).length)) + (((recs b.base b.evs)).length) = b.body.length := by have h := congrArg List.length (qnu hk2 om); rw [List.length_append, List.length_append] at h; omega
   replace HM := HM.reRow (i := 2) (ys := b.body.map B8) rfl hnA59 (by rw [← qnu hk2 om]; simp)
   rw [hnA59] at hc59
   replace Z := Z.sp 3 (.slice A59 b.body.length c59) rfl (by rw [hnA59])
   exact ⟨A59, c59, by omega, Z.sub kr, HM.pk [2, 3]⟩
  intro a Z HM
  have hd31 := of_decide_eq_false hb31
  have hnA27 : (([b.cpu, b.lost.toNat, b.evs.length].flatMap vbytes)).length = b.body.length := by rw [qnt hk2 om]
  replace HM := HM.reRow (i := 0) (ys := b.body.map B8) rfl hnA27 (by rw [qnt hk2 om])
  replace Z := Z.sp 3 (.slice A27 b.body.length c27) rfl (by rw [hnA27])
  refine Jb Z HM ((JF∘JS) fun a Z HM => ?_)
  exact ⟨A27, c27, by omega, Z.sub kr, HM.pk [0, 2]⟩
 clear Z HM; rintro a w9 ⟨Ax, cx, hcx, Z, HM⟩
 refine Jb Z HM ((JP∘Jp 1∘Jl∘JaK 12∘Jp 1∘Jd3∘Jq) fun a Z HM => ?_)
 have hbl := qcp b
 refine Jb Z HM ((JG∘JP∘Jp 2∘Jo (vI ((b.body.length + 12) % 256 : Nat)) (by exact qae .i64 _ 256)∘Jv 1 [(65, vB (IntKind.u8.wrap (((b.body.length + 12) % 256 : Nat) : Int)))]∘Jo (vB ((b.body.length + 12) % 256 : Nat)) (by exact (qa9 ((b.body.length + 12) % 256)).trans (by rw [Nat.mod_mod]))∘Jp 2∘Jo (vI ((b.body.length + 12) / 256 : Nat)) (by exact qbf .i64 256 (by show _ ≤ 9223372036854775807; omega))∘Jp 1∘Jo (vI (((b.body.length + 12) / 256) % 256 : Nat)) (by exact qae .i64 _ 256)∘Jv 1 [(69, vB (IntKind.u8.wrap ((((b.body.length + 12) / 256) % 256 : Nat) : Int)))]∘Jo (vB (((b.body.length + 12) / 256) % 256 : Nat)) (by exact (qa9 (((b.body.length + 12) / 256) % 256)).trans (by rw [Nat.mod_mod]))∘Jp 2∘Jo (vI ((b.body.length + 12) / 65536 : Nat)) (by exact qbf .i64 65536 (by show _ ≤ 9223372036854775807; omega))∘Jp 1∘Jo (vI (((b.body.length + 12) / 65536) % 256 : Nat)) (by exact qae .i64 _ 256)∘Jv 1 [(73, vB (IntKind.u8.wrap ((((b.body.length + 12) / 65536) % 256 : Nat) : Int)))]∘Jo (vB (((b.body.length + 12) / 65536) % 256 : Nat)) (by exact (qa9 (((b.body.length + 12) / 65536) % 256)).trans (by rw [Nat.mod_mod]))∘Jp 2∘Jo (vI ((b.body.length + 12) / 16777216 : Nat)) (by exact qbf .i64 16777216 (by show _ ≤ 9223372036854775807; omega))∘Jv 1 [(76, vB (IntKind.u8.wrap (((b.body.length + 12) / 16777216 : Nat) : Int)))]∘Jo (vB (((b.body.length + 12) / 16777216) % 256 : Nat)) (by exact qa9 ((b.body.length + 12) / 16777216))∘Jg 0 O1) fun a Z HM => ?_)
 refine fo Z 16 rfl rfl (s_el Z HM ei_u8 [(0, vB ((b.body.length + 12) % 256 : Nat)), (1, vB (((b.body.length + 12) / 256) % 256 : Nat)), (2, vB (((b.body.length + 12) / 65536) % 256 : Nat)), (3, vB (((b.body.length + 12) / 16777216) % 256 : Nat)), (4, vB 113), (5, vB 116), (6, vB 1), (7, vB b.kind)] #[vB ((b.body.length + 12) % 256 : Nat), vB (((b.body.length + 12) / 256) % 256 : Nat), vB (((b.body.length + 12) / 65536) % 256 : Nat), vB (((b.body.length + 12) / 16777216) % 256 : Nat), vB 113, vB 116, vB 1, vB b.kind] ?_)
 clear Z HM; intro a w79 g79 Z HM
 refine Jb Z HM ((Jp 1∘Jd6∘Jr∘Jp 2) fun a Z HM => ?_)
 refine fo Z 2 rfl rfl ?_
 replace HM := HM.blkRow (i := 0) (n := 8) (size := 1) rfl rfl de
 refine qn Z HM (i := 0) rfl ei_u8 rfl rfl rfl (news := (b.body.map B8)) (HM.rd (i := 1) rfl) (qba _) om om rfl de ?_
 clear Z HM; intro a w82 A82 c82 Z HM hc82
 refine Jb Z HM ((Jp 1∘Jd6∘Jq) fun a Z HM => ?_)
 have hnA82 : 8 + b.body.length = b.raw.length := by rw [qdc]
 replace HM := HM.reRow (i := 0) (ys := b.raw.map B8) rfl hnA82 (raw10 b)
 rw [hnA82] at hc82
 replace Z := Z.sp 2 (.slice A82 b.raw.length c82) rfl (by rw [hnA82])
 exact Jb Z HM ((JG∘JZ∘Jz1) fun HM => by exact ⟨⟨_, _, rfl, HM.own (i := 0) rfl, hc82⟩, HM.below⟩)
theorem qja (b : Bk) (hok : b.Ok) (A : Option Addr) (c : Nat) (w : World) (hr : Rd w w.heap.size 11 A b.evs.length (b.evs.flatMap evL)) (hn : b.evs.length ≤ 1000000) :
    Calls Tryz.prog 36 #[.agg (b.cells A c)] w (Is w (vI (b.err : Int))) := by
 refine (JN1 Tryz.func36 11) ?_
 refine (JP∘JE) fun w1 g1 => (Jp 1∘Jj∘JQ∘JP∘Jy (v := .agg (b.cells A c)) (h:=by exact Yl.qr rfl rfl qp rfl (fun _ h => qb (h.blk (i := 0) rfl)))∘JI (h:=by exact fun HM => qsq b hok A c _ (HM.old hr) hn)) fun w4 hbw => (Jp 1∘Jd2∘Jj) (Ju (fun hb5 => ?_) fun hb5 => ?_)
 ·
  intro a Z HM
  have hf : b.fits = false := by simpa using hb5
  exact Jb Z HM ((JT∘JP∘Jp 1∘Jj∘JZ∘Jz1) fun HM => by exact ⟨by rw [show b.err = 107 from by unfold Bk.err; rw [if_pos hf]]; rfl, HM.below⟩)
 intro a Z HM
 have hf : b.fits = true := by simpa using hb5
 refine Jb Z HM ((JF∘JS'∘JQ∘JP∘Jy (v := .agg (b.cells A c)) (h:=by exact Yl.qr rfl rfl qp rfl (fun _ h => qb (h.blk (i := 0) rfl)))∘JK (h:=by exact fun HM => qft b (hok) A c _ (HM.old hr) (hn) (hf))) fun A7 c7 w7 hc7 => fun a Z HM => ?_)
 have hrw7 := qdc b
 have hbl7 := qcp b
 refine Jb Z HM ((Jl∘JaK 4∘Jp 1∘Jd4∘Jj) (Ji (fun hd10 => ?_) fun hd10 => ?_))
 ·
  exact (JT∘JP∘Jp 1∘Jj∘JZ∘JM (.f .n)∘Jz1) fun HM => by exact ⟨by rw [show b.err = 3 from by unfold Bk.err; rw [if_neg (by rw [hf]; decide), if_pos om]]; rfl, HM.below⟩
 exact (JF∘JS'∘JP∘Jp 1∘Jj∘JZ∘JM (.f .n)∘Jz1) fun HM => by exact ⟨by rw [show b.err = 0 from by unfold Bk.err; rw [if_neg (by rw [hf]; decide), if_neg om]]; rfl, HM.below⟩
theorem qzb {b d : Bk} (h1 : b.kind = d.kind) (h2 : b.cpu = d.cpu) (h3 : b.lost = d.lost) (h4 : b.next = d.next) (h5 : b.evs.length = d.evs.length) (h : ∀ i, i < b.evs.length → b.evs.getD i Ev.zero = d.evs.getD i Ev.zero) : b = d := by
 have he : b.evs = d.evs := by
  apply List.ext_getElem h5
  intro i hi hj
  have := h i hi
  rwa [List.getD_eq_getElem?_getD, List.getD_eq_getElem?_getD, List.getElem?_eq_getElem hi, List.getElem?_eq_getElem hj] at this
 cases b; cases d
 simp only at h1 h2 h3 h4 he
 subst h1; subst h2; subst h3; subst h4; subst he
 rfl
theorem qgm {b d : Bk} (h : b.kind ≠ d.kind ∨ b.cpu ≠ d.cpu ∨ b.lost ≠ d.lost ∨ b.next ≠ d.next ∨ b.evs.length ≠ d.evs.length) : ¬ b = d := by
 rintro rfl
 omega
theorem qn4 (A : Option Addr) (n cp : Nat) (l : List Nat) (w : World) (hr : Rd w w.heap.size 1 A n (l.map B8)) (hln : l.length = n) (hn : n ≤ 9223372036854775807) (hl : ∀ b ∈ l, b < 256) :
    Calls Tryz.prog 65 #[.slice A n cp] w (Is w (.tuple #[vI ((lenR l).1 : Int), vI ((lenR l).2 : Int)])) := by
 refine (JN1 Tryz.func65 41) ?_
 refine (JP∘Jp 2∘Jj∘JQ∘JP∘Jp 1∘Jl∘Jp 1∘Jd2∘Jj) (Ju (fun hb7 => ?_) fun hb7 => ?_)
 ·
  intro a Z HM
  have hd7 := of_decide_eq_true hb7
  exact Jb Z HM ((JT∘JP∘Jp 2∘Jj∘JZ∘Jz2) fun HM => qfb (by unfold lenR; rw [if_pos om]) HM.below)
 intro a Z HM
 have hd7 := of_decide_eq_false hb7
 revert HM; revert a; repeat (first | clear Z | clear HM)
 intro a Z HM
 obtain ⟨gA, oA, rfl, _⟩ := hr.qt (Nat.lt_of_le_of_lt (Nat.zero_le _) (show 0 < n from by omega)) de
 refine Jb Z HM ((JF∘JS') fun a Z HM => ?_)
 refine wp_seq ?_
 refine Jb Z HM ((Vs .n []) fun wd3 => (Vp [0, 4, 10, 16]∘Vy 1 (v := vP gA oA) (h:=by exact Yl.indexAddr (ad := ⟨gA, oA, none⟩) (y := 0) (sz := 1) rfl rfl rfl om kr)∘VH (getD_lt hl (k := 0) (by first | omega | (simp; omega)))) fun hx17 => (Vy 2 (v := vB (l.getD 0 0)) (h:=by exact Yl.o1 hr 0 0 (by first | omega | (simp; omega)) rfl rfl)∘Vw 3 .i64∘Vy 5 (v := vP gA (oA + 1)) (h:=by exact Yl.indexAddr (ad := ⟨gA, oA, none⟩) (y := 1) (sz := 1) rfl rfl rfl om kr)∘VH (getD_lt hl (k := 1) (by first | omega | (simp; omega)))) fun hx18 => (Vy 6 (v := vB (l.getD 1 0)) (h:=by exact Yl.o1 hr 1 0 (by first | omega | (simp; omega)) rfl rfl)∘Vw 7 .i64∘Vp [8]∘Vo (vI (256 * (l.getD 1 0) : Nat)) (by exact qap om om)∘Va 9∘Vy 11 (v := vP gA (oA + 2)) (h:=by exact Yl.indexAddr (ad := ⟨gA, oA, none⟩) (y := 2) (sz := 1) rfl rfl rfl om kr)∘VH (getD_lt hl (k := 2) (by first | omega | (simp; omega)))) fun hx19 => (Vy 12 (v := vB (l.getD 2 0)) (h:=by exact Yl.o1 hr 2 0 (by first | omega | (simp; omega)) rfl rfl)∘Vw 13 .i64∘Vp [14]∘Vo (vI (65536 * (l.getD 2 0) : Nat)) (by exact qap om om)∘Va 15∘Vy 17 (v := vP gA (oA + 3)) (h:=by exact Yl.indexAddr (ad := ⟨gA, oA, none⟩) (y := 3) (sz := 1) rfl rfl rfl om kr)∘VH (getD_lt hl (k := 3) (by first | omega | (simp; omega)))) fun hx20 => (Vy 18 (v := vB (l.getD 3 0)) (h:=by exact Yl.o1 hr 3 0 (by first | omega | (simp; omega)) rfl rfl)∘Vw 19 .i64∘Vp [20]∘Vo (vI (16777216 * (l.getD 3 0) : Nat)) (by exact qap om om)∘Vp [21]∘Vo (vI (num4 l)) (by exact qap (by unfold num4; omega) (by unfold num4; omega))∘Vp [22]∘Vd∘Jd6∘JQ∘JP∘Jp 3) (Ji (fun hd32 => ?_) fun hd32 => ?_))
 ·
  exact (Jp 3∘Jd5∘Jj∘JT∘JP∘Jp 2∘Jj∘JZ∘Jz2) fun HM => qfb (by unfold lenR; rw [if_neg om, if_pos om]) HM.below
 refine (Jp 3∘Jd5∘Jj) (Ji (fun hd35 => ?_) fun hd35 => ?_)
 ·
  exact (JT∘JP∘Jp 2∘Jj∘JZ∘Jz2) fun HM => qfb (by unfold lenR; rw [if_neg om, if_pos om]) HM.below
 refine (JF∘JS'∘JQ∘JP∘Jp 1∘Jl∘Jp 2∘Jd3∘Jj) (Ji (fun hd39 => ?_) fun hd39 => ?_)
 ·
  exact (JT∘JP∘Jp 2∘Jj∘JZ∘Jz2) fun HM => qfb (by unfold lenR; rw [if_neg om, if_neg om, if_pos om]) HM.below
 exact (JF∘JS'∘JP∘Jp 3∘Jj∘JZ∘Jz2) fun HM => qfb (by unfold lenR; rw [if_neg om, if_neg om, if_neg om]) HM.below
theorem qkx (b d : Bk) (A A2 : Option Addr) (c c2 : Nat) (w : World) (hr : Rd w w.heap.size 11 A b.evs.length (b.evs.flatMap evL)) (hr2 : Rd w w.heap.size 11 A2 d.evs.length (d.evs.flatMap evL)) (hn : b.evs.length ≤ 1000000) :
    Calls Tryz.prog 22 #[.agg (b.cells A c), .agg (d.cells A2 c2)] w (Is w (.bool (decide (b = d)))) := by
 refine (JN2 Tryz.func22 59) ?_
 refine (JP∘JE) fun w2 g2 => (JE) fun w3 g3 => (Jp 1∘Jj∘JQ∘JP∘Jg 0 O1∘Jg 0 O0∘Jp 2) (Jh (fun hd11 => ?_) fun hd11 => ?_)
 ·
  exact (Jv 29 [(40, .bool true)]∘Jd4∘Jj∘JT∘JP∘Jp 1∘Jj∘JZ∘Jz1) fun HM => by exact ⟨by rw [decide_eq_false (qgm om)], HM.below⟩
 refine (Jg 1 O1∘Jg 1 O0∘Jp 3) (Jh (fun hd18 => ?_) fun hd18 => ?_)
 ·
  exact (Jv 22 [(40, .bool true)]∘Jd6∘Jj∘JT∘JP∘Jp 1∘Jj∘JZ∘Jz1) fun HM => by exact ⟨by rw [decide_eq_false (qgm om)], HM.below⟩
 refine (Jg 2 O1∘Jg 2 O0∘Jp 3) (Jh (fun hd25 => ?_) fun hd25 => ?_)
 ·
  exact (Jv 15 [(40, .bool true)]∘Jd6∘Jj∘JT∘JP∘Jp 1∘Jj∘JZ∘Jz1) fun HM => by exact ⟨by rw [decide_eq_false (qgm om)], HM.below⟩
 refine (Jg 3 O1∘Jg 3 O0∘Jp 3) (Jh (fun hd32 => ?_) fun hd32 => ?_)
 ·
  exact (Jv 8 [(40, .bool true)]∘Jd6∘Jj∘JT∘JP∘Jp 1∘Jj∘JZ∘Jz1) fun HM => by exact ⟨by rw [decide_eq_false (qgm om)], HM.below⟩
 refine (Jg 4 O1∘Jl∘Jg 4 O0∘Jl∘Jp 2∘Jd6∘Jj) (Jh (fun hd40 => ?_) fun hd40 => ?_)
 ·
  exact (JT∘JP∘Jp 1∘Jj∘JZ∘Jz1) fun HM => by exact ⟨by rw [decide_eq_false (qgm om)], HM.below⟩
 refine (JF∘JS'∘JQ∘JP∘Jp 1∘Jj∘JB) fun a Z HM => ?_
 refine qi (fun mS aS wS => ∃ (k : Nat), (k ≤ b.evs.length) ∧ (∀ i, i < k → b.evs.getD i Ev.zero = d.evs.getD i Ev.zero) ∧ mS = b.evs.length - k ∧ Fr aS 59 [] [(5, vI k), (40, .bool false), (4, .bool false), (3, vP g3 0), (2, vP g2 0)] ∧ Mem w wS [.blk g3 (d.cells A2 c2) 42, .blk g2 (b.cells A c) 42]) (m := b.evs.length - 0) ⟨0, Nat.zero_le _, fun i hi => absurd hi (Nat.not_lt_zero _), rfl, Z.sub kr, HM.pk [0, 1]⟩ ?_
 clear Z HM; rintro mS a w_ ⟨k, hk, hall, rfl, Z, HM⟩
 refine Jb Z HM ((JQ∘JP∘Jp 1∘Jg 4 O1∘Jl∘Jp 1∘Jd3∘Jj) (Ju (fun hb45 => ?_) fun hb45 => ?_))
 ·
  intro a Z HM
  have hd45 := of_decide_eq_true hb45
  have hk45 : k < b.evs.length := by omega
  refine Jb Z HM ((JT∘JS'∘JQ∘JB) fun a Z HM => ?_)
  refine wp_seq ?_
  refine Jb Z HM ((Vs .n []) fun wd6 => (Vf 0 4∘Vp [2]∘Vf 5 4∘Vp [7]∘Vc 1 O1) ?_)
  repeat (first | clear Z | clear HM | clear HS)
  intro a Z HM HS
  obtain ⟨gA, oA, rfl, _⟩ := hr.qt (Nat.lt_of_le_of_lt (Nat.zero_le _) (show k < b.evs.length from by omega)) de
  refine Vb Z HM HS ((Vy 3 (v := vP gA (oA + k * 11)) (h:=by exact Yl.ix gA oA k 11 rfl rfl rfl)∘Vy 4 (v := .agg ((b.evs.getD k Ev.zero).cells)) (h:=by exact Yl.qr rfl rfl ⟨kr, kr⟩ rfl (fun _ h => (h.old hr).qah qw ((getD_at Ev.zero (k := k) (by first | omega | (simp; omega))))))∘Vc 6 O0) ?_)
  repeat (first | clear Z | clear HM | clear HS)
  intro a Z HM HS
  obtain ⟨gA2, oA2, rfl, _⟩ := hr2.qt (Nat.lt_of_le_of_lt (Nat.zero_le _) (show k < d.evs.length from by omega)) de
  refine Vb Z HM HS ((Vy 8 (v := vP gA2 (oA2 + k * 11)) (h:=by exact Yl.ix gA2 oA2 k 11 rfl rfl rfl)∘Vy 9 (v := .agg ((d.evs.getD k Ev.zero).cells)) (h:=by exact Yl.qr rfl rfl ⟨kr, kr⟩ rfl (fun _ h => (h.old hr2).qah qw ((getD_at Ev.zero (k := k) (by first | omega | (simp; omega))))))∘Vy 10 (v := .bool (!(decide ((b.evs.getD k Ev.zero) = (d.evs.getD k Ev.zero))))) (h:=by exact Yl.q28 (x := (b.evs.getD k Ev.zero)) (y := (d.evs.getD k Ev.zero)) rfl rfl rfl kr)∘Vd∘Jd6) (Ju (fun hb58 => ?_) fun hb58 => ?_))
  ·
   intro a Z HM
   have hd58 := of_decide_eq_false ((Bool.not_eq_true' _).mp hb58)
   exact Jb Z HM ((JT∘JP∘Jp 1∘Jj∘JZ∘Jz1) fun HM => by exact ⟨by rw [decide_eq_false (fun h => by rw [h] at hb58; simp at hb58)], HM.below⟩)
  intro a Z HM
  have hd58 := of_decide_eq_true ((Bool.not_eq_false' _).mp hb58)
  refine Jb Z HM ((JF∘JS'∘JR∘Jp 1∘JaK 1∘Jp 1∘Jd2∘Jq) fun a Z HM => ?_)
  exact ⟨_, om, k + 1, by omega, fun i hi => (Nat.lt_succ_iff_lt_or_eq.1 hi).elim (hall i) (fun h => by subst h; simpa using hb58), rfl, Z.sub kr, HM.pk [0, 1]⟩
 intro a Z HM
 have hd45 := of_decide_eq_false hb45
 exact Jb Z HM ((JF∘JX∘JG∘JP∘Jp 1∘Jj∘JZ∘Jz1) fun HM => by exact ⟨by rw [decide_eq_true (qzb om om om om om (fun i hi => hall i om))], HM.below⟩)
theorem qhd (A : Option Addr) (c m : Nat) (l : List Nat) (w : World) (hr : Rd w w.heap.size 1 A l.length (l.map B8)) (hc : l.length ≤ c) (hn : l.length ≤ 100000000) (hm : m ≤ 1000000) (hl : ∀ b ∈ l, b < 256) :
    Calls Tryz.prog 84 #[.slice A l.length c, vI m] w (q0d w A l (numsR m l)) := by
 refine (JN2 Tryz.func84 33) ?_
 refine (JP∘Jp 2∘Jr∘Jp 1∘Jq) fun a Z HM => ?_
 replace HM := HM.nil 33 1
 refine Jb Z HM ((JG∘JQ∘JB) fun a Z HM => ?_)
 refine qi (fun mS aS wS => ∃ (xs : List Nat) (Ak : Option Addr) (ck : Nat) (rl : List Nat) (X : Option Addr) (cX : Nat), (xs.length ≤ m) ∧ (xs.length ≤ ck) ∧ (numsR m l = (xs ++ (numsR (m - xs.length) rl).1, (numsR (m - xs.length) rl).2)) ∧ (∀ v : World, Rd v v.heap.size 1 A l.length (l.map B8) → Rd v v.heap.size 1 X rl.length (rl.map B8)) ∧ (∀ b ∈ rl, b < 256) ∧ (rl.length ≤ cX) ∧ (rl.length ≤ l.length) ∧ mS = m - xs.length ∧ Fr aS 33 [] [(6, .slice Ak xs.length ck), (5, vN), (4, vN), (0, .slice X rl.length cX), (1, vI m)] ∧ Mem w wS [.row (.slice Ak xs.length ck) xs.length (xs.map U64) 33 1]) (m := m - [].length) ⟨[], none, 0, l, A, c, Nat.zero_le _, Nat.le_refl _, by simp, fun _ h => h, hl, hc, Nat.le_refl _, rfl, Z.sub kr, HM.pk [0]⟩ ?_
 clear Z HM; rintro mS a w_ ⟨xs, Ak, ck, rl, X, cX, hxm, hck, hj, hrl, hll, hcX, hlen, rfl, Z, HM⟩
 refine Jb Z HM ((JQ∘JP∘Jp 1∘Jl∘Jp 2∘Jd3∘Jj) (Ju (fun hb13 => ?_) fun hb13 => ?_))
 ·
  intro a Z HM
  have hd13 := of_decide_eq_true hb13
  have hlt : xs.length < m := by omega
  refine Jb Z HM ((JT∘JS'∘JB∘JP∘Jp 1∘JL (h:=by exact fun HM => qkq X rl.length cX _ rl _ (HM.old (hrl w hr)) hll om)) ?_)
  rintro HM _ w16 ⟨rfl, rfl⟩
  refine ⟨_, rfl, _, HM, ?_⟩
  refine (Jp 1∘Jx∘Jx∘Jx∘Jp 3∘Jj∘JQ∘JP∘Jp 2∘Jd1∘Jj) (Ju (fun hb21 => ?_) fun hb21 => ?_)
  ·
   intro a Z HM
   have hd21 := bne_iff_ne.1 hb21
   have hb0 : (vread rl).2.2 ≠ 0 := by omega
   exact Jb Z HM ((JT∘JP∘Jp 4∘Jj∘JZ∘Jz2) fun HM => qnv (qy6 hj hlt hb0) (HM.own (i := 0) rfl) hck hrl hcX HM.below)
  intro a Z HM
  have hd21 := bne_eq_false_iff_eq.1 hb21
  have hb0 : (vread rl).2.2 = 0 := by omega
  have hvl := qaz rl
  have htl := qbr rl
  refine Jb Z HM ((JF∘JS'∘JP∘Jp 2) fun a Z HM => ?_)
  refine fo Z 2 rfl rfl (s_el Z HM qc0 [(0, vQ ((vread rl).1))] #[vQ ((vread rl).1)] ?_)
  clear Z HM; intro a w26 g26 Z HM
  refine fo Z 3 rfl rfl (qn Z HM (i := 1) rfl qc0 rfl rfl rfl (news := [U64 (vread rl).1]) (HM.rdBlk (i := 0) (n := 1) (size := 1) rfl rfl) (by simp [Value.oneCell', U64, B8]) om om rfl de ?_)
  clear Z HM; intro a w27 A27 c27 Z HM hc27
  refine Jb Z HM ((Jp 1∘Jd4∘Jq) fun a Z HM => ?_)
  have hnA27 : xs.length + 1 = (xs ++ [(vread rl).1]).length := by simp
  replace HM := HM.reRow (i := 1) (ys := (xs ++ [(vread rl).1]).map U64) rfl hnA27 (by simp)
  rw [hnA27] at hc27
  replace Z := Z.sp 6 (.slice A27 ((xs ++ [(vread rl).1]).length) c27) rfl (by rw [hnA27])
  refine Jb Z HM ((JG∘JR∘Jp 2∘Jy (v := .slice (if cX = ((vread rl).2.1) then X else X.map (·.add (((vread rl).2.1) * 1))) (rl.length - ((vread rl).2.1)) (cX - ((vread rl).2.1))) (h:=by exact Yl.sliceFrom ei_u8 (j := ((vread rl).2.1)) rfl rfl rfl (by have := qaz rl; omega))∘Jo (.slice (if cX = (vread rl).2.1 then X else X.map (·.add ((vread rl).2.1 * 1))) ((qa rl).length) (cX - (vread rl).2.1)) (by rw [qbr])∘Jp 1∘Jd3∘Jq) fun a Z HM => ?_)
  exact ⟨_, (by simp; omega), (xs ++ [(vread rl).1]), A27, c27, (qa rl), (if cX = (vread rl).2.1 then X else X.map (·.add ((vread rl).2.1 * 1))), (cX - (vread rl).2.1), by simp; omega, hc27, qwb hj hlt hb0, fun v h => q1i (hrl v h) hcX, zi hll, by omega, by omega, rfl, Z.sub kr, HM.pk [1]⟩
 intro a Z HM
 have hd13 := of_decide_eq_false hb13
 exact Jb Z HM ((JF∘JX∘JG∘JP∘Jp 4∘Jj∘JZ∘Jz2) fun HM => qnv (qwa hj om) (HM.own (i := 0) rfl) hck hrl hcX HM.below)
theorem qjb (A : Option Addr) (n cp : Nat) (Lb L : List Nat) (hL : L = (Lb.take (Lb.length - 4)).drop 8) (w : World) (hr : Rd w w.heap.size 1 A n (Lb.map B8)) (hc : n ≤ cp) (hln : Lb.length = n) (hn : n ≤ 100000000) (h13 : 13 ≤ n) (hl : ∀ b ∈ Lb, b < 256) :
    Calls Tryz.prog 67 #[.slice A n cp] w (qqs w (loose (Lb.getD 7 0) L)) := by
 refine (JN1 Tryz.func67 98) ?_
 refine (JP∘JA #[vB 0, vB 0, vI 0, vI 0, vN]) fun w2 g2 => (Jq) fun a Z HM => ?_
 have hL8 : L.length = n - 4 - 8 := by rw [hL, List.length_drop, List.length_take]; omega
 have hrL : Rd w w.heap.size 1 (if cp = 8 then A else A.map (·.add (8 * 1))) L.length (L.map B8) := by rw [hL8, hL]; have h := hr.qjp (c := cp) (i := 8) (j := n - 4) om om om; rw [hln]; exact h
 have hlL : ∀ b ∈ L, b < 256 := by rw [hL]; exact zw (zu hl _) _
 revert HM; revert a; repeat (first | clear Z | clear HM)
 intro a Z HM
 obtain ⟨gA, oA, rfl, _⟩ := hr.qt (Nat.lt_of_le_of_lt (Nat.zero_le _) (show 0 < n from by omega)) de
 refine Jb Z HM ((JG∘JP∘Jp 1∘Jy (v := vP gA (oA + 7)) (h:=by exact Yl.indexAddr (ad := ⟨gA, oA, none⟩) (y := 7) (sz := 1) rfl rfl rfl om kr)∘Jy (v := vB (Lb.getD 7 0)) (h:=by exact Yl.o1 hr 7 0 (by first | omega | (simp; omega)) rfl rfl)∘Jy (v := .agg #[vB (Lb.getD 7 0), vB 0, vI 0, vI 0, vN]) (h:=by exact Yl.build (vs := [(0, vB (Lb.getD 7 0))]) rfl kr kr)∘JA #[vB 0, vB 0, vI 0, vI 0, vN]) fun w3 g3 => (JV qp O0') fun w1_5 => (Jd4∘Jr∘Jp 2∘Jl∘JsK 4∘Jy (v := .slice (if cp = 8 then some ⟨gA, oA, none⟩ else (some ⟨gA, oA, none⟩ : Option Addr).map (·.add (8 * 1))) ((n - 4) - 8) (cp - 8)) (h:=by exact Yl.qk1 ei_u8 (i := 8) (j := (n - 4)) rfl rfl rfl rfl om om)∘Jo (.slice (if cp = 8 then some ⟨gA, oA, none⟩ else (some ⟨gA, oA, none⟩ : Option Addr).map (·.add (8 * 1))) L.length (cp - 8)) (by rw [hL8])∘Jp 1∘Jd5∘Jj∘JQ∘JP∘Jg 0 O0∘Jp 1∘Jd1∘Jj) (Ju (fun hb21 => ?_) fun hb21 => ?_))
 ·
  intro a Z HM
  have hd21 := eq_of_beq hb21
  have hk2 : (Lb.getD 7 0) = 2 := by omega
  refine Jb Z HM ((JT∘JP∘Jp 1∘JL (h:=by exact fun HM => qhd (if cp = 8 then some ⟨gA, oA, none⟩ else (some ⟨gA, oA, none⟩ : Option Addr).map (·.add (8 * 1))) (cp - 8) 1 L _ (HM.old hrL) om (by have := qde 3 L; omega) om hlL)) ?_)
  rintro HM _ w24 ⟨⟨A24, c24, X24, cX24, rfl, ho, hc24, hrX24, hcX24⟩, hbw⟩
  refine ⟨_, rfl, _, HM.callRow hbw ho, ?_⟩
  refine (Jp 1∘Jx∘Jx∘Jp 2∘Jt1∘Jj∘JQ∘JP∘Jp 1∘Jl∘Jp 1∘Jd2∘Jj) (Je (fun hd29 => ?_) fun hd29 => ?_)
  ·
   refine (JT∘JR∘Jp 1) ?_
   repeat (first | clear Z | clear HM)
   intro a Z HM
   obtain ⟨gA24, rfl⟩ := qaf (HM.own (i := 0) rfl) (Nat.lt_of_le_of_lt (Nat.zero_le _) (show 0 < (numsR 1 L).1.length from by omega))
   refine Jb Z HM ((Jy (v := vP gA24 0) (h:=by exact Yl.indexAddr (ad := ⟨gA24, 0, none⟩) (y := 0) (sz := 1) rfl rfl rfl om kr)∘Jy (v := vQ ((numsR 1 L).1.getD 0 0)) (h:=by exact Yl.r1 0 0 0 (by first | omega | (simp; omega)) rfl rfl rfl)∘Jv 1 [(33, vI (IntKind.i64.wrap (((numsR 1 L).1.getD 0 0) : Int)))]∘Jo (vI (wrap64 ((numsR 1 L).1.getD 0 0 : Int))) (by rw [IntWalk.i64_left])∘Jf 3∘JW O1' O3') fun w6_5 => (Jt5∘Jr∘Jy (v := .agg #[vB (Lb.getD 7 0), vB 0, vI 0, vI (wrap64 ((numsR 1 L).1.getD 0 0 : Int)), vN]) (h:=by exact Yl.qr rfl rfl qp rfl (fun _ h => qb (h.blk (i := 1) rfl)))∘JV qp O2') fun w7_1 => (Jt1∘Jj∘JZ) fun a Z HM => ?_)
   exact ret1 rfl Z (.cellS (i := 2) Z HM rfl rfl qp rfl) (qe6 (qnx (k := (Lb.getD 7 0)) (l := L) hk2 (by rw [if_pos om])) HM.below)
  refine (JF∘JS'∘JP∘Jy (v := .agg #[vB (Lb.getD 7 0), vB 0, vI 0, vI 0, vN]) (h:=by exact Yl.qr rfl rfl qp rfl (fun _ h => qb (h.blk (i := 1) rfl)))∘JV qp O2') fun w7_1 => (Jt1∘Jj∘JZ) fun a Z HM => ?_
  exact ret1 rfl Z (.cellS (i := 2) Z HM rfl rfl qp rfl) (qe6 (qnx (k := (Lb.getD 7 0)) (l := L) hk2 (by rw [if_neg om])) HM.below)
 intro a Z HM
 have hd21 := ne_of_beq_false hb21
 have hk2 : (Lb.getD 7 0) ≠ 2 := by omega
 refine Jb Z HM ((JF∘JS'∘JP∘Jp 1∘JL (h:=by exact fun HM => qhd (if cp = 8 then some ⟨gA, oA, none⟩ else (some ⟨gA, oA, none⟩ : Option Addr).map (·.add (8 * 1))) (cp - 8) 3 L _ (HM.old hrL) om (by have := qde 3 L; omega) om hlL)) ?_)
 rintro HM _ w38 ⟨⟨A38, c38, X38, cX38, rfl, ho, hc38, hrX38, hcX38⟩, hbw⟩
 refine ⟨_, rfl, _, HM.callRow hbw ho, ?_⟩
 refine (Jp 1∘Jx∘Jx∘Jp 2∘Jj∘JQ∘JP∘Jp 1∘Jl∘Jp 1∘Jd2∘Jj) (Ju (fun hb43 => ?_) fun hb43 => ?_)
 ·
  intro a Z HM
  have hd43 := of_decide_eq_true hb43
  refine Jb Z HM ((JT∘JP∘Jy (v := .agg #[vB (Lb.getD 7 0), vB 0, vI 0, vI 0, vN]) (h:=by exact Yl.qr rfl rfl qp rfl (fun _ h => qb (h.blk (i := 1) rfl)))∘JV qp O2') fun w10_1 => (Jt1∘Jj∘JZ) fun a Z HM => ?_)
  exact ret1 rfl Z (.cellS (i := 2) Z HM rfl rfl qp rfl) (qe6 (qwc hk2 om) HM.below)
 intro a Z HM
 have hd43 := of_decide_eq_false hb43
 revert HM; revert a; repeat (first | clear Z | clear HM)
 intro a Z HM
 obtain ⟨gA38, rfl⟩ := qaf (HM.own (i := 0) rfl) (Nat.lt_of_le_of_lt (Nat.zero_le _) (show 0 < (numsR 3 L).1.length from by omega))
 refine Jb Z HM ((JF∘JS') fun a Z HM => ?_)
 refine wp_seq ?_
 refine Jb Z HM ((Vs (.t (.f .n)) [11]) fun wd11 => (Vp [0, 4]∘Vy 1 (v := vP gA38 0) (h:=by exact Yl.indexAddr (ad := ⟨gA38, 0, none⟩) (y := 0) (sz := 1) rfl rfl rfl om kr)∘Vy 2 (v := vQ ((numsR 3 L).1.getD 0 0)) (h:=by exact Yl.r1 0 0 0 (by first | omega | (simp; omega)) rfl rfl rfl)∘Vq [3] [(48, vB (IntKind.u8.wrap (((numsR 3 L).1.getD 0 0) : Int)))]∘Vo (vB (((numsR 3 L).1.getD 0 0) % 256 : Nat)) (by exact qa9 ((numsR 3 L).1.getD 0 0))∘Vf 8 1∘Vy 5 (v := vP gA38 1) (h:=by exact Yl.indexAddr (ad := ⟨gA38, 0, none⟩) (y := 1) (sz := 1) rfl rfl rfl om kr)∘Vy 6 (v := vQ ((numsR 3 L).1.getD 1 0)) (h:=by exact Yl.r1 0 1 0 (by first | omega | (simp; omega)) rfl rfl rfl)∘Vq [7] [(52, vI (IntKind.i64.wrap (((numsR 3 L).1.getD 1 0) : Int)))]∘Vo (vI (wrap64 ((numsR 3 L).1.getD 1 0 : Int))) (by rw [IntWalk.i64_left])) fun a Z HM HS => ?_)
 refine s_on Z 9 rfl (s_es Z HM 1 fun w11_9 HM => ?_)
 refine keepS (HM.pk [0, 2]) (fun HS => ?_)
 refine Vb Z HM HS ((Vf 10 2) fun a Z HM HS => ?_)
 refine s_on Z 11 rfl (s_es Z HM 1 fun w11_11 HM => ?_)
 refine noS kr ?_
 refine qh kr ?_
 refine Jb Z HM ((JP∘Jp 1∘JL (h:=by exact fun HM => qhd X38 cX38 2 (numsR 3 L).2 _ (HM.old (hrX38 w hrL)) (hcX38) (by have := qde 3 L; omega) om (qe0 3 L hlL))) ?_)
 rintro HM _ w57 ⟨⟨A57, c57, X57, cX57, rfl, ho, hc57, hrX57, hcX57⟩, hbw⟩
 refine ⟨_, rfl, _, HM.callRow hbw ho, ?_⟩
 refine (Jp 1∘Jx∘Jx∘Jp 2∘Jj∘JQ∘JP∘Jp 1∘Jy (v := vP gA38 2) (h:=by exact Yl.indexAddr (ad := ⟨gA38, 0, none⟩) (y := 2) (sz := 1) rfl rfl rfl om kr)∘Jy (v := vQ ((numsR 3 L).1.getD 2 0)) (h:=by exact Yl.r1 1 2 0 (by first | omega | (simp; omega)) rfl rfl rfl)∘Jp 2) (Ji (fun hd64 => ?_) fun hd64 => ?_)
 ·
  refine (Jp 1∘Jy (v := vP gA38 2) (h:=by exact Yl.indexAddr (ad := ⟨gA38, 0, none⟩) (y := 2) (sz := 1) rfl rfl rfl om kr)∘Jy (v := vQ ((numsR 3 L).1.getD 2 0)) (h:=by exact Yl.r1 1 2 0 (by first | omega | (simp; omega)) rfl rfl rfl)∘Jp 3) (Ji (fun hd70 => ?_) fun hd70 => ?_)
  ·
   refine (Jp 1∘Jl∘Jp 2∘Jd6∘Jj) (Ju (fun hb74 => ?_) fun hb74 => ?_)
   ·
    intro a Z HM
    have hd74 := eq_of_beq hb74
    revert HM; revert a; repeat (first | clear Z | clear HM)
    intro a Z HM
    obtain ⟨gA57, rfl⟩ := qaf (HM.own (i := 0) rfl) (Nat.lt_of_le_of_lt (Nat.zero_le _) (show 0 < (numsR 2 (numsR 3 L).2).1.length from by omega))
    refine Jb Z HM ((JT∘Vs .n [22]) fun wd14 => (Vp [0, 4]∘Vf 9 1∘Vp [11, 15]∘Vy 1 (v := vP gA57 0) (h:=by exact Yl.indexAddr (ad := ⟨gA57, 0, none⟩) (y := 0) (sz := 1) rfl rfl rfl om kr)∘Vy 2 (v := vQ ((numsR 2 (numsR 3 L).2).1.getD 0 0)) (h:=by exact Yl.r1 0 0 0 (by first | omega | (simp; omega)) rfl rfl rfl)∘Vq [3] [(79, vI (IntKind.i64.wrap (((numsR 2 (numsR 3 L).2).1.getD 0 0) : Int)))]∘Vo (vI (wrap64 ((numsR 2 (numsR 3 L).2).1.getD 0 0 : Int))) (by rw [IntWalk.i64_left])∘Vy 5 (v := vP gA57 1) (h:=by exact Yl.indexAddr (ad := ⟨gA57, 0, none⟩) (y := 1) (sz := 1) rfl rfl rfl om kr)∘Vy 6 (v := vQ ((numsR 2 (numsR 3 L).2).1.getD 1 0)) (h:=by exact Yl.r1 0 1 0 (by first | omega | (simp; omega)) rfl rfl rfl)∘Vq [7] [(83, vI (IntKind.i64.wrap (((numsR 2 (numsR 3 L).2).1.getD 1 0) : Int)))]∘Vo (vI (wrap64 ((numsR 2 (numsR 3 L).2).1.getD 1 0 : Int))) (by rw [IntWalk.i64_left])∘Vy 8 (v := .agg ((⟨wrap64 ((numsR 2 (numsR 3 L).2).1.getD 0 0 : Int), wrap64 ((numsR 2 (numsR 3 L).2).1.getD 1 0 : Int)⟩ : Bs).cells)) (h:=by exact (Yl.build (vs := [(0, vI (wrap64 ((numsR 2 (numsR 3 L).2).1.getD 0 0 : Int))), (1, vI (wrap64 ((numsR 2 (numsR 3 L).2).1.getD 1 0 : Int)))]) rfl kr kr))∘Vc 10 O2∘Vy 12 (v := vP gA38 2) (h:=by exact Yl.indexAddr (ad := ⟨gA38, 0, none⟩) (y := 2) (sz := 1) rfl rfl rfl om kr)∘Vy 13 (v := vQ ((numsR 3 L).1.getD 2 0)) (h:=by exact Yl.r1 1 2 0 (by first | omega | (simp; omega)) rfl rfl rfl)∘Vq [14] [(90, vI (IntKind.i64.wrap (((numsR 3 L).1.getD 2 0) : Int)))]∘Vo (vI ((numsR 3 L).1.getD 2 0)) (by exact qap rfl om)∘VK 16 .n (h:=by exact fun HM => qst ⟨wrap64 ((numsR 2 (numsR 3 L).2).1.getD 0 0 : Int), wrap64 ((numsR 2 (numsR 3 L).2).1.getD 1 0 : Int)⟩ ((numsR 3 L).1.getD 0 0 % 256) om ((numsR 3 L).1.getD 2 0 : Int) (by unfold I64; omega) X57 _ cX57 (numsR 2 (numsR 3 L).2).2 _ (HM.old (hrX57 w (hrX38 w hrL))) hcX57 (qe0 2 _ (qe0 3 L hlL)) (by have := qde 2 (numsR 3 L).2; have := qde 3 L; omega) rfl)) fun A92 c92 w92 hc92 => (Vp [17]∘Vx 18∘Vx 19∘Vx 20∘Vf 21 4) fun a Z HM HS => ?_)
    refine s_on Z 22 rfl (s_es Z HM 3 fun w14_22 HM => ?_)
    refine noS kr ?_
    refine qh kr ?_
    replace Z := Z.to [(74, .bool true), (8, .slice X57 ((numsR 2 (numsR 3 L).2).2.length) cX57), (9, vS gA57 ((numsR 2 (numsR 3 L).2).1.length) c57), (43, .bool false), (7, vS gA38 ((numsR 3 L).1.length) c38), (21, .bool false), (4, .slice (if cp = 8 then some ⟨gA, oA, none⟩ else (some ⟨gA, oA, none⟩ : Option Addr).map (·.add (8 * 1))) L.length (cp - 8)), (3, vP g3 0), (2, vP g2 0), (0, .slice (some ⟨gA, oA, none⟩) n cp)]
    refine Jb Z HM ((JG∘JP∘Jy (v := .agg #[vB (Lb.getD 7 0), vB (((numsR 3 L).1.getD 0 0) % 256 : Nat), vI (wrap64 ((numsR 3 L).1.getD 1 0 : Int)), vI 0, .slice A92 ((readR ⟨wrap64 ((numsR 2 (numsR 3 L).2).1.getD 0 0 : Int), wrap64 ((numsR 2 (numsR 3 L).2).1.getD 1 0 : Int)⟩ ((numsR 3 L).1.getD 0 0 % 256) ((numsR 3 L).1.getD 2 0 : Int) (numsR 2 (numsR 3 L).2).2).1.length) c92]) (h:=by exact Yl.qr rfl rfl qp rfl (fun _ h => qb (h.blk (i := 3) rfl)))∘JV qp O4') fun w15_1 => (Jt1∘Jj∘JZ) fun a Z HM => ?_)
    exact ret1 rfl Z (.cellS (i := 4) Z HM rfl rfl qp rfl) (qy7 (qgi hk2 om (qlz ⟨by omega, by omega, by omega⟩)) (HM.own (i := 0) rfl) hc92 HM.below)
   intro a Z HM
   have hd74 := ne_of_beq_false hb74
   refine Jb Z HM ((JF∘JS'∘JP∘Jy (v := .agg #[vB (Lb.getD 7 0), vB (((numsR 3 L).1.getD 0 0) % 256 : Nat), vI (wrap64 ((numsR 3 L).1.getD 1 0 : Int)), vI 0, vN]) (h:=by exact Yl.qr rfl rfl qp rfl (fun _ h => qb (h.blk (i := 2) rfl)))∘JV qp O3') fun w15_1 => (Jt1∘Jj∘JZ) fun a Z HM => ?_)
   exact ret1 rfl Z (.cellS (i := 3) Z HM rfl rfl qp rfl) (qe6 (qgi hk2 om (qdx om)) HM.below)
  refine (Jp 4∘Jd6∘Jj∘JF∘JS'∘JP∘Jy (v := .agg #[vB (Lb.getD 7 0), vB (((numsR 3 L).1.getD 0 0) % 256 : Nat), vI (wrap64 ((numsR 3 L).1.getD 1 0 : Int)), vI 0, vN]) (h:=by exact Yl.qr rfl rfl qp rfl (fun _ h => qb (h.blk (i := 2) rfl)))∘JV qp O3') fun w15_1 => (Jt1∘Jj∘JZ) fun a Z HM => ?_
  exact ret1 rfl Z (.cellS (i := 3) Z HM rfl rfl qp rfl) (qe6 (qgi hk2 om (qdx om)) HM.below)
 refine (Jv 10 [(74, .bool false)]∘Jd5∘Jj∘JF∘JS'∘JP∘Jy (v := .agg #[vB (Lb.getD 7 0), vB (((numsR 3 L).1.getD 0 0) % 256 : Nat), vI (wrap64 ((numsR 3 L).1.getD 1 0 : Int)), vI 0, vN]) (h:=by exact Yl.qr rfl rfl qp rfl (fun _ h => qb (h.blk (i := 2) rfl)))∘JV qp O3') fun w15_1 => (Jt1∘Jj∘JZ) fun a Z HM => ?_
 exact ret1 rfl Z (.cellS (i := 3) Z HM rfl rfl qp rfl) (qe6 (qgi hk2 om (qdx om)) HM.below)
theorem qd0 (k : Nat) (l : List Nat) : (loose k l).evs.length ≤ 1000000 := by
 unfold loose
 split
 ·unfold looseEnd; simp
 ·unfold qdv
  split
  ·simp
  ·show (qag _ _ _).length ≤ _
   unfold qag
   split
   ·rename_i h
    exact Nat.le_trans (qwd _ _ _ _) om
   ·simp
theorem qpo (A : Option Addr) (n cp : Nat) (l : List Nat) (w : World) (hr : Rd w w.heap.size 1 A n (l.map B8)) (hc : n ≤ cp) (hln : l.length = n) (hn : n ≤ 100000000) (hl : ∀ b ∈ l, b < 256) :
    Calls Tryz.prog 42 #[.slice A n cp] w (qpg w (refB l)) := by
 refine (JN1 Tryz.func42 70) ?_
 refine (JP∘JA #[vB 0, vB 0, vI 0, vI 0, vN]) fun w2 g2 => (Jp 2∘Jr∘Jp 1∘JI (h:=by exact fun HM => qn4 A n cp l _ (HM.old hr) hln om hl)) fun w10 hbw => (Jp 1∘Jx∘Jx∘Jp 2∘Jj∘JQ∘JP∘Jp 2∘Jd1∘Jj) (Ju (fun hb14 => ?_) fun hb14 => ?_)
 ·
  intro a Z HM
  have hd14 := bne_iff_ne.1 hb14
  refine Jb Z HM ((JT∘JP∘Jy (v := .agg #[vB 0, vB 0, vI 0, vI 0, vN]) (h:=by exact Yl.build (vs := []) rfl kr kr)∘Jp 1∘JV qp O0') fun w3_2 => (Jp 2∘Jj∘JZ) fun a Z HM => ?_)
  exact ret3 rfl Z (.cellS (i := 0) Z HM rfl rfl qp rfl) (.tmp Z rfl) (.tmp Z rfl) (qb5 (qy8 om) HM.below)
 intro a Z HM
 have hd14 := bne_eq_false_iff_eq.1 hb14
 have hl0 : (lenR l).2 = 0 := by omega
 obtain ⟨v1, v2, v3, v4⟩ := qlm hl0
 obtain ⟨Lb, hLb⟩ : ∃ x, x = l.take (lenR l).1 := ⟨_, rfl⟩
 have hrL : Rd w w.heap.size 1 A (lenR l).1 (Lb.map B8) := by rw [hLb]; exact hr.toB8 om
 have hlL : ∀ b ∈ Lb, b < 256 := by rw [hLb]; exact zu hl _
 have hnL : Lb.length = (lenR l).1 := by rw [hLb, List.length_take]; omega
 revert HM; revert a; repeat (first | clear Z | clear HM)
 intro a Z HM
 obtain ⟨gA, oA, rfl, _⟩ := hrL.qt (Nat.lt_of_le_of_lt (Nat.zero_le _) (show 0 < (lenR l).1 from by omega)) de
 refine Jb Z HM ((JF∘JS'∘JP∘Jp 2∘Jy (v := .slice (some ⟨gA, oA, none⟩) ((lenR l).1) cp) (h:=by exact Yl.zl ei_u8 (j := (lenR l).1) rfl rfl rfl om)∘Jp 1∘Jd3∘Jj∘JQ∘JP∘Jp 1∘JI (h:=by exact fun HM => qn3 _ (lenR l).1 cp Lb _ (HM.old hrL) om hnL om hlL)) fun w21 hbw => (Jp 1∘Jd2∘Jj) (Ju (fun hb22 => ?_) fun hb22 => ?_))
 ·
  intro a Z HM
  have hs : qar Lb = false := by simpa using hb22
  refine Jb Z HM ((JT∘JP∘Jy (v := .agg #[vB 0, vB 0, vI 0, vI 0, vN]) (h:=by exact Yl.build (vs := []) rfl kr kr)∘JV qp O0') fun w6_1 => (Jp 2∘Jj∘JZ) fun a Z HM => ?_)
  exact ret3 rfl Z (.cellS (i := 0) Z HM rfl rfl qp rfl) (.tmp Z rfl) (.tmp Z rfl) (qb5 (qcs hl0 hLb (by unfold refOf; rw [if_pos hs])) HM.below)
 intro a Z HM
 have hs : qar Lb = true := by simpa using hb22
 refine Jb Z HM ((JF∘JS'∘JQ∘JP∘Jp 1∘Jy (v := vP gA (oA + 4)) (h:=by exact Yl.indexAddr (ad := ⟨gA, oA, none⟩) (y := 4) (sz := 1) rfl rfl rfl om kr)∘JH (getD_lt hlL (k := 4) (by first | omega | (simp; omega)))) fun hx1 => (Jy (v := vB (Lb.getD 4 0)) (h:=by exact Yl.o1 hrL 4 0 (by first | omega | (simp; omega)) rfl rfl)∘Jp 2) (Ju (fun hb28 => ?_) fun hb28 => ?_))
 ·
  intro a Z HM
  have hd28 := bne_iff_ne.1 hb28
  have hmg : ¬ (Lb.getD 4 0 = 113 ∧ Lb.getD 5 0 = 116) := by omega
  refine Jb Z HM ((Jp 5∘Jd6∘Jj∘JT∘JP∘Jy (v := .agg #[vB 0, vB 0, vI 0, vI 0, vN]) (h:=by exact Yl.build (vs := []) rfl kr kr)∘JV qp O0') fun w8_1 => (Jp 2∘Jj∘JZ) fun a Z HM => ?_)
  exact ret3 rfl Z (.cellS (i := 0) Z HM rfl rfl qp rfl) (.tmp Z rfl) (.tmp Z rfl) (qb5 (qcs hl0 hLb (by unfold refOf; rw [if_neg (by rw [hs]; decide), if_pos hmg])) HM.below)
 intro a Z HM
 have hd28 := bne_eq_false_iff_eq.1 hb28
 refine Jb Z HM ((Jp 1∘Jy (v := vP gA (oA + 5)) (h:=by exact Yl.indexAddr (ad := ⟨gA, oA, none⟩) (y := 5) (sz := 1) rfl rfl rfl om kr)∘JH (getD_lt hlL (k := 5) (by first | omega | (simp; omega)))) fun hx2 => (Jy (v := vB (Lb.getD 5 0)) (h:=by exact Yl.o1 hrL 5 0 (by first | omega | (simp; omega)) rfl rfl)∘Jp 2∘Jd6∘Jj) (Ju (fun hb33 => ?_) fun hb33 => ?_))
 ·
  intro a Z HM
  have hd33 := bne_iff_ne.1 hb33
  have hmg : ¬ (Lb.getD 4 0 = 113 ∧ Lb.getD 5 0 = 116) := by omega
  refine Jb Z HM ((JT∘JP∘Jy (v := .agg #[vB 0, vB 0, vI 0, vI 0, vN]) (h:=by exact Yl.build (vs := []) rfl kr kr)∘JV qp O0') fun w8_1 => (Jp 2∘Jj∘JZ) fun a Z HM => ?_)
  exact ret3 rfl Z (.cellS (i := 0) Z HM rfl rfl qp rfl) (.tmp Z rfl) (.tmp Z rfl) (qb5 (qcs hl0 hLb (by unfold refOf; rw [if_neg (by rw [hs]; decide), if_pos hmg])) HM.below)
 intro a Z HM
 have hd33 := bne_eq_false_iff_eq.1 hb33
 have hmg : Lb.getD 4 0 = 113 ∧ Lb.getD 5 0 = 116 := by omega
 refine Jb Z HM ((JF∘JS'∘JQ∘JP∘Jp 1∘Jy (v := vP gA (oA + 6)) (h:=by exact Yl.indexAddr (ad := ⟨gA, oA, none⟩) (y := 6) (sz := 1) rfl rfl rfl om kr)∘JH (getD_lt hlL (k := 6) (by first | omega | (simp; omega)))) fun hx3 => (Jy (v := vB (Lb.getD 6 0)) (h:=by exact Yl.o1 hrL 6 0 (by first | omega | (simp; omega)) rfl rfl)∘Jp 1∘Jd3∘Jj) (Jh (fun hd38 => ?_) fun hd38 => ?_))
 ·
  refine (JT∘JP∘Jy (v := .agg #[vB 0, vB 0, vI 0, vI 0, vN]) (h:=by exact Yl.build (vs := []) rfl kr kr)∘JV qp O0') fun w10_1 => (Jp 2∘Jj∘JZ) fun a Z HM => ?_
  exact ret3 rfl Z (.cellS (i := 0) Z HM rfl rfl qp rfl) (.tmp Z rfl) (.tmp Z rfl) (qb5 (qcs hl0 hLb (by unfold refOf; rw [if_neg (by rw [hs]; decide), if_neg (fun hh => hh hmg), if_pos om])) HM.below)
 refine (JF∘JS'∘JQ∘JP∘Jp 1∘Jy (v := vP gA (oA + 7)) (h:=by exact Yl.indexAddr (ad := ⟨gA, oA, none⟩) (y := 7) (sz := 1) rfl rfl rfl om kr)∘JH (getD_lt hlL (k := 7) (by first | omega | (simp; omega)))) fun hx4 => (Jy (v := vB (Lb.getD 7 0)) (h:=by exact Yl.o1 hrL 7 0 (by first | omega | (simp; omega)) rfl rfl)∘Jp 2) (Ju (fun hb44 => ?_) fun hb44 => ?_)
 ·
  intro a Z HM
  have hd44 := bne_iff_ne.1 hb44
  refine Jb Z HM ((Jp 1∘Jy (v := vP gA (oA + 7)) (h:=by exact Yl.indexAddr (ad := ⟨gA, oA, none⟩) (y := 7) (sz := 1) rfl rfl rfl om kr)∘JH (getD_lt hlL (k := 7) (by first | omega | (simp; omega)))) fun hx5 => (Jy (v := vB (Lb.getD 7 0)) (h:=by exact Yl.o1 hrL 7 0 (by first | omega | (simp; omega)) rfl rfl)∘Jp 2∘Jd6∘Jj) (Ju (fun hb49 => ?_) fun hb49 => ?_))
  ·
   intro a Z HM
   have hd49 := bne_iff_ne.1 hb49
   refine Jb Z HM ((JT∘JP∘Jy (v := .agg #[vB 0, vB 0, vI 0, vI 0, vN]) (h:=by exact Yl.build (vs := []) rfl kr kr)∘JV qp O0') fun w12_1 => (Jp 2∘Jj∘JZ) fun a Z HM => ?_)
   exact ret3 rfl Z (.cellS (i := 0) Z HM rfl rfl qp rfl) (.tmp Z rfl) (.tmp Z rfl) (qb5 (qcs hl0 hLb (by unfold refOf; rw [if_neg (by rw [hs]; decide), if_neg (fun hh => hh hmg), if_neg om, if_pos om])) HM.below)
  intro a Z HM
  have hd49 := bne_eq_false_iff_eq.1 hb49
  have hkd : Lb.getD 7 0 = 1 ∨ Lb.getD 7 0 = 2 := by omega
  obtain ⟨hqok, hqk⟩ := qll hkd (l := ((Lb.take (Lb.length - 4)).drop 8)) (zw (zu hlL _) _)
  have hqn : (loose (Lb.getD 7 0) ((Lb.take (Lb.length - 4)).drop 8)).evs.length ≤ 1000000 := qd0 _ _
  refine Jb Z HM ((JF∘JS'∘JP∘Jp 1∘JK (h:=by exact fun HM => qjb (some ⟨gA, oA, none⟩) ((lenR l).1) cp Lb ((Lb.take (Lb.length - 4)).drop 8) rfl _ (HM.old hrL) om hnL om om hlL)) fun A52 c52 w52 hc52 => (JA #[vB 0, vB 0, vI 0, vI 0, vN]) fun w7 g7 => (JV qp O0' (h1:=by exact qas _ _ _)) fun w13_3 => (Jd2∘Jj∘JQ) fun a Z HM => ?_)
  refine zk (fun aS wS => Fr aS 70 [] [(66, .bool (decide ((loose (Lb.getD 7 0) ((Lb.take (Lb.length - 4)).drop 8)).err ≠ 0 ∨ (loose (Lb.getD 7 0) ((Lb.take (Lb.length - 4)).drop 8)).raw ≠ Lb.take (Lb.length - 4)))), (7, vP g7 0), (49, .bool false), (38, .bool false), (33, .bool false), (22, .bool false), (0, .slice (some ⟨gA, oA, none⟩) ((lenR l).1) cp), (14, .bool false), (6, vI ((lenR l).2)), (5, vI ((lenR l).1)), (4, vI 0), (3, vI 0), (2, vP g2 0)] ∧ Mem w wS [.blk g7 ((loose (Lb.getD 7 0) ((Lb.take (Lb.length - 4)).drop 8)).cells A52 c52) 42, .row (.slice A52 ((loose (Lb.getD 7 0) ((Lb.take (Lb.length - 4)).drop 8)).evs.length) c52) ((loose (Lb.getD 7 0) ((Lb.take (Lb.length - 4)).drop 8)).evs.length) ((loose (Lb.getD 7 0) ((Lb.take (Lb.length - 4)).drop 8)).evs.flatMap evL) 105 11, .blk g2 #[vB 0, vB 0, vI 0, vI 0, vN] 42]) ?_ ?_
  ·
   refine Jb Z HM ((Vs .n []) fun wd14 => (Vy 0 (v := .agg ((loose (Lb.getD 7 0) ((Lb.take (Lb.length - 4)).drop 8)).cells A52 c52)) (h:=by exact Yl.qr rfl rfl qp rfl (fun _ h => qb (h.blk (i := 0) rfl)))∘VI 1 .n (h:=by exact fun HM => qja (loose (Lb.getD 7 0) ((Lb.take (Lb.length - 4)).drop 8)) hqok A52 c52 _ (HM.rd (i := 1) rfl) hqn)) fun w54 hbw => (Vp [2, 3]) fun a Z HM HS => ?_)
   rcases Z.tf 56 rfl with ⟨hb56, Z⟩ | ⟨hb56, Z⟩
   ·
    have hd56 := bne_iff_ne.1 hb56
    have hqe : (loose (Lb.getD 7 0) ((Lb.take (Lb.length - 4)).drop 8)).err ≠ 0 := by omega
    refine Vb Z HM HS ((Vq [4, 5, 6, 7, 8, 9, 10, 11, 12, 13] [(66, .bool true)]∘Vd∘Jd5) fun a Z HM => ?_)
    have Z := Z.sp 66 (.bool (decide ((loose (Lb.getD 7 0) ((Lb.take (Lb.length - 4)).drop 8)).err ≠ 0 ∨ (loose (Lb.getD 7 0) ((Lb.take (Lb.length - 4)).drop 8)).raw ≠ Lb.take (Lb.length - 4)))) rfl (congrArg Value.bool (by rw [decide_eq_true (show ((loose (Lb.getD 7 0) ((Lb.take (Lb.length - 4)).drop 8)).err ≠ 0 ∨ (loose (Lb.getD 7 0) ((Lb.take (Lb.length - 4)).drop 8)).raw ≠ Lb.take (Lb.length - 4)) from .inl hqe)]))
    exact ⟨Z.sub kr, HM.pk [0, 1, 2]⟩
   have hd56 := bne_eq_false_iff_eq.1 hb56
   have hqe : (loose (Lb.getD 7 0) ((Lb.take (Lb.length - 4)).drop 8)).err = 0 := by omega
   refine ap Z (fun _ => HS) [7, 8] (bf 14 [0, 1, 2, 3, 7, 8]) [(61, vI ((lenR l).1)), (60, .slice (some ⟨gA, oA, none⟩) ((lenR l).1) cp)] fun a Z => ?_
   refine s_az Z HS 4 rfl (v := .agg ((loose (Lb.getD 7 0) ((Lb.take (Lb.length - 4)).drop 8)).cells A52 c52)) (Yl.qr rfl rfl qp rfl (fun _ h => qb (h.blk (i := 0) rfl))) fun a Z => ?_
   refine qcd Z (fun _ => HS) (i := 9) rfl rfl (d := 62) rfl de kr (fun _ _ _ h => h) (v := vI (IntKind.i64.wrap (((lenR l).1 : Int) - 4))) (fun _ => Yl.pure kr) fun a Z => ?_
   replace Z := Z.sp 62 (vI ((lenR l).1 - 4 : Nat)) rfl (qap om om)
   refine s_az Z HS 10 rfl (v := .slice (some ⟨gA, oA, none⟩) ((lenR l).1 - 4) cp) (Yl.zl ei_u8 (j := (lenR l).1 - 4) rfl rfl rfl om) fun a Z => ?_
   refine s_az Z HS 11 rfl (v := .string (bstr (Lb.take ((lenR l).1 - 4)))) (Yl.str rfl rfl (fun _ h => h.old (hrL.toB8 om))) fun a Z => ?_
   refine s_on Z 5 rfl ?_
   refine s_ek Z HM [.agg ((loose (Lb.getD 7 0) ((Lb.take (Lb.length - 4)).drop 8)).cells A52 c52)] (qft (loose (Lb.getD 7 0) ((Lb.take (Lb.length - 4)).drop 8)) hqok A52 c52 _ (HM.rd (i := 1) rfl) hqn (qqj hqe).1) fun A58 c58 w58 hc58 HM a Z => ?_
   refine keepS (HM.pk [1, 2, 3]) (fun HS => ?_)
   refine s_on Z 6 rfl ?_
   refine Yl.wp (S := fun wS => Mem w wS _) (v := .string (bstr ((loose (Lb.getD 7 0) ((Lb.take (Lb.length - 4)).drop 8)).raw))) (Yl.str rfl rfl (fun _ h => h.rd (i := 0) rfl)) Z HM rfl de fun a Z => ?_
   refine keepS HS (fun HS => ?_)
   refine ap Z (fun _ => HS) [12, 13] (bt 14 []) [(66, .bool (!(((bstr ((loose (Lb.getD 7 0) ((Lb.take (Lb.length - 4)).drop 8)).raw))).toList == ((bstr (Lb.take ((lenR l).1 - 4)))).toList)))] fun a Z => ?_
   refine qh kr ?_
   refine Jb Z HM ((JM (.f .n)) fun a Z HM => ?_)
   have Z := Z.sp 66 (.bool (decide ((loose (Lb.getD 7 0) ((Lb.take (Lb.length - 4)).drop 8)).err ≠ 0 ∨ (loose (Lb.getD 7 0) ((Lb.take (Lb.length - 4)).drop 8)).raw ≠ Lb.take (Lb.length - 4)))) rfl (congrArg Value.bool (by rw [qot (qu3 hqok) (zu hlL _), ← hnL, q0e hqe]))
   exact ⟨Z.sub kr, HM.pk [0, 1, 2]⟩
  clear Z HM; rintro a w14 ⟨Z, HM⟩
  refine Jb Z HM (Ju (fun hb66 => ?_) fun hb66 => ?_)
  ·
   intro a Z HM
   have hd66 := of_decide_eq_true hb66
   have hqr : ((loose (Lb.getD 7 0) ((Lb.take (Lb.length - 4)).drop 8)).err ≠ 0 ∨ (loose (Lb.getD 7 0) ((Lb.take (Lb.length - 4)).drop 8)).raw ≠ Lb.take (Lb.length - 4)) := of_decide_eq_true hb66
   refine Jb Z HM ((JT∘JP∘Jy (v := .agg #[vB 0, vB 0, vI 0, vI 0, vN]) (h:=by exact Yl.build (vs := []) rfl kr kr)∘JV qp O2') fun w15_1 => (Jp 2∘Jj∘JZ) fun a Z HM => ?_)
   exact ret3 rfl Z (.cellS (i := 2) Z HM rfl rfl qp rfl) (.tmp Z rfl) (.tmp Z rfl) (qb5 (qcs hl0 hLb (by unfold refOf; rw [if_neg (by rw [hs]; decide), if_neg (fun hh => hh hmg), if_neg om, if_neg om, if_pos hqr])) HM.below)
  intro a Z HM
  have hd66 := of_decide_eq_false hb66
  have hqr : ¬ ((loose (Lb.getD 7 0) ((Lb.take (Lb.length - 4)).drop 8)).err ≠ 0 ∨ (loose (Lb.getD 7 0) ((Lb.take (Lb.length - 4)).drop 8)).raw ≠ Lb.take (Lb.length - 4)) := of_decide_eq_false hb66
  refine Jb Z HM ((JF∘JS'∘JP∘Jy (v := .agg ((loose (Lb.getD 7 0) ((Lb.take (Lb.length - 4)).drop 8)).cells A52 c52)) (h:=by exact Yl.qr rfl rfl qp rfl (fun _ h => qb (h.blk (i := 0) rfl)))∘Jp 1∘JV qp O2' (h1:=by exact qas _ _ _)) fun w16_2 => (Jp 2∘Jj∘JZ) fun a Z HM => ?_)
  exact ret3 rfl Z (.cellS (i := 2) Z HM rfl rfl qp rfl) (.tmp Z rfl) (.tmp Z rfl) (qqt (qnw (e := 0) hl0 hLb (by unfold refOf; rw [if_neg (by rw [hs]; decide), if_neg (fun hh => hh hmg), if_neg om, if_neg om, if_neg hqr])) (HM.own (i := 1) rfl) hc52 HM.below)
 intro a Z HM
 have hd44 := bne_eq_false_iff_eq.1 hb44
 have hkd : Lb.getD 7 0 = 1 ∨ Lb.getD 7 0 = 2 := by omega
 obtain ⟨hqok, hqk⟩ := qll hkd (l := ((Lb.take (Lb.length - 4)).drop 8)) (zw (zu hlL _) _)
 have hqn : (loose (Lb.getD 7 0) ((Lb.take (Lb.length - 4)).drop 8)).evs.length ≤ 1000000 := qd0 _ _
 refine Jb Z HM ((Jp 5∘Jd6∘Jj∘JF∘JS'∘JP∘Jp 1∘JK (h:=by exact fun HM => qjb (some ⟨gA, oA, none⟩) ((lenR l).1) cp Lb ((Lb.take (Lb.length - 4)).drop 8) rfl _ (HM.old hrL) om hnL om om hlL)) fun A52 c52 w52 hc52 => (JA #[vB 0, vB 0, vI 0, vI 0, vN]) fun w7 g7 => (JV qp O0' (h1:=by exact qas _ _ _)) fun w13_3 => (Jd2∘Jj∘JQ) fun a Z HM => ?_)
 refine zk (fun aS wS => Fr aS 70 [] [(66, .bool (decide ((loose (Lb.getD 7 0) ((Lb.take (Lb.length - 4)).drop 8)).err ≠ 0 ∨ (loose (Lb.getD 7 0) ((Lb.take (Lb.length - 4)).drop 8)).raw ≠ Lb.take (Lb.length - 4)))), (7, vP g7 0), (49, .bool false), (38, .bool false), (33, .bool false), (22, .bool false), (0, .slice (some ⟨gA, oA, none⟩) ((lenR l).1) cp), (14, .bool false), (6, vI ((lenR l).2)), (5, vI ((lenR l).1)), (4, vI 0), (3, vI 0), (2, vP g2 0)] ∧ Mem w wS [.blk g7 ((loose (Lb.getD 7 0) ((Lb.take (Lb.length - 4)).drop 8)).cells A52 c52) 42, .row (.slice A52 ((loose (Lb.getD 7 0) ((Lb.take (Lb.length - 4)).drop 8)).evs.length) c52) ((loose (Lb.getD 7 0) ((Lb.take (Lb.length - 4)).drop 8)).evs.length) ((loose (Lb.getD 7 0) ((Lb.take (Lb.length - 4)).drop 8)).evs.flatMap evL) 105 11, .blk g2 #[vB 0, vB 0, vI 0, vI 0, vN] 42]) ?_ ?_
 ·
  refine Jb Z HM ((Vs .n []) fun wd14 => (Vy 0 (v := .agg ((loose (Lb.getD 7 0) ((Lb.take (Lb.length - 4)).drop 8)).cells A52 c52)) (h:=by exact Yl.qr rfl rfl qp rfl (fun _ h => qb (h.blk (i := 0) rfl)))∘VI 1 .n (h:=by exact fun HM => qja (loose (Lb.getD 7 0) ((Lb.take (Lb.length - 4)).drop 8)) hqok A52 c52 _ (HM.rd (i := 1) rfl) hqn)) fun w54 hbw => (Vp [2, 3]) fun a Z HM HS => ?_)
  rcases Z.tf 56 rfl with ⟨hb56, Z⟩ | ⟨hb56, Z⟩
  ·
   have hd56 := bne_iff_ne.1 hb56
   have hqe : (loose (Lb.getD 7 0) ((Lb.take (Lb.length - 4)).drop 8)).err ≠ 0 := by omega
   refine Vb Z HM HS ((Vq [4, 5, 6, 7, 8, 9, 10, 11, 12, 13] [(66, .bool true)]∘Vd∘Jd5) fun a Z HM => ?_)
   have Z := Z.sp 66 (.bool (decide ((loose (Lb.getD 7 0) ((Lb.take (Lb.length - 4)).drop 8)).err ≠ 0 ∨ (loose (Lb.getD 7 0) ((Lb.take (Lb.length - 4)).drop 8)).raw ≠ Lb.take (Lb.length - 4)))) rfl (congrArg Value.bool (by rw [decide_eq_true (show ((loose (Lb.getD 7 0) ((Lb.take (Lb.length - 4)).drop 8)).err ≠ 0 ∨ (loose (Lb.getD 7 0) ((Lb.take (Lb.length - 4)).drop 8)).raw ≠ Lb.take (Lb.length - 4)) from .inl hqe)]))
   exact ⟨Z.sub kr, HM.pk [0, 1, 2]⟩
  have hd56 := bne_eq_false_iff_eq.1 hb56
  have hqe : (loose (Lb.getD 7 0) ((Lb.take (Lb.length - 4)).drop 8)).err = 0 := by omega
  refine ap Z (fun _ => HS) [7, 8] (bf 14 [0, 1, 2, 3, 7, 8]) [(61, vI ((lenR l).1)), (60, .slice (some ⟨gA, oA, none⟩) ((lenR l).1) cp)] fun a Z => ?_
  refine s_az Z HS 4 rfl (v := .agg ((loose (Lb.getD 7 0) ((Lb.take (Lb.length - 4)).drop 8)).cells A52 c52)) (Yl.qr rfl rfl qp rfl (fun _ h => qb (h.blk (i := 0) rfl))) fun a Z => ?_
  refine qcd Z (fun _ => HS) (i := 9) rfl rfl (d := 62) rfl de kr (fun _ _ _ h => h) (v := vI (IntKind.i64.wrap (((lenR l).1 : Int) - 4))) (fun _ => Yl.pure kr) fun a Z => ?_
  replace Z := Z.sp 62 (vI ((lenR l).1 - 4 : Nat)) rfl (qap om om)
  refine s_az Z HS 10 rfl (v := .slice (some ⟨gA, oA, none⟩) ((lenR l).1 - 4) cp) (Yl.zl ei_u8 (j := (lenR l).1 - 4) rfl rfl rfl om) fun a Z => ?_
  refine s_az Z HS 11 rfl (v := .string (bstr (Lb.take ((lenR l).1 - 4)))) (Yl.str rfl rfl (fun _ h => h.old (hrL.toB8 om))) fun a Z => ?_
  refine s_on Z 5 rfl ?_
  refine s_ek Z HM [.agg ((loose (Lb.getD 7 0) ((Lb.take (Lb.length - 4)).drop 8)).cells A52 c52)] (qft (loose (Lb.getD 7 0) ((Lb.take (Lb.length - 4)).drop 8)) hqok A52 c52 _ (HM.rd (i := 1) rfl) hqn (qqj hqe).1) fun A58 c58 w58 hc58 HM a Z => ?_
  refine keepS (HM.pk [1, 2, 3]) (fun HS => ?_)
  refine s_on Z 6 rfl ?_
  refine Yl.wp (S := fun wS => Mem w wS _) (v := .string (bstr ((loose (Lb.getD 7 0) ((Lb.take (Lb.length - 4)).drop 8)).raw))) (Yl.str rfl rfl (fun _ h => h.rd (i := 0) rfl)) Z HM rfl de fun a Z => ?_
  refine keepS HS (fun HS => ?_)
  refine ap Z (fun _ => HS) [12, 13] (bt 14 []) [(66, .bool (!(((bstr ((loose (Lb.getD 7 0) ((Lb.take (Lb.length - 4)).drop 8)).raw))).toList == ((bstr (Lb.take ((lenR l).1 - 4)))).toList)))] fun a Z => ?_
  refine qh kr ?_
  refine Jb Z HM ((JM (.f .n)) fun a Z HM => ?_)
  have Z := Z.sp 66 (.bool (decide ((loose (Lb.getD 7 0) ((Lb.take (Lb.length - 4)).drop 8)).err ≠ 0 ∨ (loose (Lb.getD 7 0) ((Lb.take (Lb.length - 4)).drop 8)).raw ≠ Lb.take (Lb.length - 4)))) rfl (congrArg Value.bool (by rw [qot (qu3 hqok) (zu hlL _), ← hnL, q0e hqe]))
  exact ⟨Z.sub kr, HM.pk [0, 1, 2]⟩
 clear Z HM; rintro a w14 ⟨Z, HM⟩
 refine Jb Z HM (Ju (fun hb66 => ?_) fun hb66 => ?_)
 ·
  intro a Z HM
  have hd66 := of_decide_eq_true hb66
  have hqr : ((loose (Lb.getD 7 0) ((Lb.take (Lb.length - 4)).drop 8)).err ≠ 0 ∨ (loose (Lb.getD 7 0) ((Lb.take (Lb.length - 4)).drop 8)).raw ≠ Lb.take (Lb.length - 4)) := of_decide_eq_true hb66
  refine Jb Z HM ((JT∘JP∘Jy (v := .agg #[vB 0, vB 0, vI 0, vI 0, vN]) (h:=by exact Yl.build (vs := []) rfl kr kr)∘JV qp O2') fun w15_1 => (Jp 2∘Jj∘JZ) fun a Z HM => ?_)
  exact ret3 rfl Z (.cellS (i := 2) Z HM rfl rfl qp rfl) (.tmp Z rfl) (.tmp Z rfl) (qb5 (qcs hl0 hLb (by unfold refOf; rw [if_neg (by rw [hs]; decide), if_neg (fun hh => hh hmg), if_neg om, if_neg om, if_pos hqr])) HM.below)
 intro a Z HM
 have hd66 := of_decide_eq_false hb66
 have hqr : ¬ ((loose (Lb.getD 7 0) ((Lb.take (Lb.length - 4)).drop 8)).err ≠ 0 ∨ (loose (Lb.getD 7 0) ((Lb.take (Lb.length - 4)).drop 8)).raw ≠ Lb.take (Lb.length - 4)) := of_decide_eq_false hb66
 refine Jb Z HM ((JF∘JS'∘JP∘Jy (v := .agg ((loose (Lb.getD 7 0) ((Lb.take (Lb.length - 4)).drop 8)).cells A52 c52)) (h:=by exact Yl.qr rfl rfl qp rfl (fun _ h => qb (h.blk (i := 0) rfl)))∘Jp 1∘JV qp O2' (h1:=by exact qas _ _ _)) fun w16_2 => (Jp 2∘Jj∘JZ) fun a Z HM => ?_)
 exact ret3 rfl Z (.cellS (i := 2) Z HM rfl rfl qp rfl) (.tmp Z rfl) (.tmp Z rfl) (qqt (qnw (e := 0) hl0 hLb (by unfold refOf; rw [if_neg (by rw [hs]; decide), if_neg (fun hh => hh hmg), if_neg om, if_neg om, if_neg hqr])) (HM.own (i := 1) rfl) hc52 HM.below)
theorem qsu (A : Option Addr) (n cp : Nat) (l : List Nat) (w : World) (hr : Rd w w.heap.size 1 A n (l.map B8)) (hc : n ≤ cp) (hln : l.length = n) (hn : n ≤ 100000000) (hl : ∀ b ∈ l, b < 256) {b : Bk} {m er : Nat} (h : readB l = (b, m, er)) :
  Calls Tryz.prog 42 #[.slice A n cp] w fun r w' => (∃ A c, r = .returned (.tuple #[.agg (b.cells A c), vI m, vI er]) ∧ w'.ownsRow w.heap.size 105 11 (.slice A b.evs.length c) b.evs.length (b.evs.flatMap evL) ∧ b.evs.length ≤ c) ∧ Below w.heap.size w w' := by
 have h1 := qpo A n cp l w hr hc hln hn hl
 rw [qo4 hl, h] at h1
 exact h1
def q0i (w : World) (q : List Bk × Nat × Nat) (r : Ending) (w' : World) : Prop := ∃ A c q2, r = .returned (.tuple #[.slice A q2.length c, vI (q.2.1 : Int), vI (q.2.2 : Int)]) ∧ q.1 = q2.map Hb.b ∧ q2.length ≤ c ∧ Mem w w' (.row (.slice A q2.length c) q2.length (q2.flatMap hbL) 42 5 :: hbF 105 q2)
theorem qwr {w w' : World} {Q : List Bk × Nat × Nat} {A : Option Addr} {c p e : Nat} {q : List Hb} (hk : q.map Hb.b = Q.1) (hp : p = Q.2.1) (he : e = Q.2.2) (hc : q.length ≤ c) (hm : Mem w w' (.row (.slice A q.length c) q.length (q.flatMap hbL) 42 5 :: hbF 105 q)) : q0i w Q (.returned (.tuple #[.slice A q.length c, vI p, vI e])) w' := by
 subst hp; subst he; exact ⟨A, c, q, rfl, hk.symm, hc, hm⟩
theorem qzc (A : Option Addr) (c : Nat) (l : List Nat) (w : World) (hr : Rd w w.heap.size 1 A l.length (l.map B8)) (hc : l.length ≤ c) (hl : ∀ b ∈ l, b < 256) (hn : l.length ≤ 1000000) :
    Calls Tryz.prog 16 #[.slice A l.length c] w (q0i w (qa3 l)) := by
 refine (JN1 Tryz.func16 39) ?_
 refine (JP∘Jp 3∘Jj∘JQ∘JP∘Jp 1∘Jl∘Jp 1∘Jd2∘Jj) (Ju (fun hb12 => ?_) fun hb12 => ?_)
 ·
  intro a Z HM
  have hd12 := of_decide_eq_true hb12
  have hlong : qa3 l = ([], 0, 3) := if_pos om
  exact Jb Z HM ((JT∘JP∘Jp 3∘Jj∘JZ∘Jz3) fun HM => by rw [hlong]; exact ⟨none, 0, [], rfl, rfl, Nat.le_refl _, (HM.nil 42 5)⟩)
 intro a Z HM
 have hd12 := of_decide_eq_false hb12
 have hS : qa3 l = qe l.length l := if_neg om
 refine Jb Z HM ((JF∘JS'∘JP∘Jp 1∘Jr∘Jp 1∘Jq) fun a Z HM => ?_)
 replace HM := HM.nil 42 5
 replace HM : Mem w _ (.row (vN) 0 [] 42 5 :: (hbF 105 [] ++ ([]))) := HM
 refine Jb Z HM ((JG∘JQ∘JB) fun a Z HM => ?_)
 refine qi (fun mS aS wS => ∃ (q : List Hb) (at_ : Nat) (f : Nat) (Ao : Option Addr) (co : Nat), (at_ ≤ l.length) ∧ (l.length - at_ ≤ f) ∧ (q.map Hb.b ++ (qe f (l.drop at_)).1 = (qe l.length l).1) ∧ (at_ + (qe f (l.drop at_)).2.1 = (qe l.length l).2.1) ∧ ((qe f (l.drop at_)).2.2 = (qe l.length l).2.2) ∧ (q.length ≤ co) ∧ (q.length ≤ at_) ∧ mS = l.length - at_ ∧ Fr aS 39 [] [(6, vI at_), (5, .slice Ao q.length co), (12, .bool false), (4, vI 0), (3, vI 0), (2, vN), (0, .slice A l.length c)] ∧ Mem w wS (.row (.slice Ao q.length co) q.length (q.flatMap hbL) 42 5 :: (hbF 105 q ++ ([])))) (m := l.length - 0) ⟨[], 0, l.length, none, 0, Nat.zero_le _, Nat.sub_le _ _, rfl, Nat.zero_add _, rfl, Nat.le_refl _, Nat.le_refl _, rfl, Z.sub kr, HM.pt 1 [0]⟩ ?_
 clear Z HM; rintro mS a w_ ⟨q, at_, f, Ao, co, hat, hf, hk, hp, he, hco, hql, rfl, Z, HM⟩
 refine Jb Z HM ((JQ∘JP∘Jp 2∘Jl∘Jp 1∘Jd3∘Jj) (Ju (fun hb16 => ?_) fun hb16 => ?_))
 ·
  intro a Z HM
  have hd16 := of_decide_eq_true hb16
  have hne : 0 < (l.drop at_).length := by rw [List.length_drop]; omega
  obtain ⟨b, m, er, hq⟩ : ∃ b m er, readB (l.drop at_) = (b, m, er) := ⟨_, _, _, rfl⟩
  refine Jb Z HM ((JT∘JS'∘JB∘JP∘Jp 2∘Jy (v := .slice (if c = at_ then A else A.map (·.add (at_ * 1))) (l.length - at_) (c - at_)) (h:=by exact Yl.sliceFrom ei_u8 (j := at_) rfl rfl rfl om)∘JK (h:=by exact fun HM => qsu (if c = at_ then A else A.map (·.add (at_ * 1))) (l.length - at_) (c - at_) (l.drop at_) _ (HM.old (hr.qhx hat hc)) om (by rw [List.length_drop]) om (zw hl at_) hq)) fun A21 c21 w21 hc21 => (Jp 1∘Jx∘Jx∘Jx∘JA #[vB 0, vB 0, vI 0, vI 0, vN]) fun w7 g7 => (JV qp O0' (h1:=by exact qas _ _ _)) fun w6_9 => (Jp 2∘Jj∘JQ∘JP∘Jp 2∘Jd1∘Jj) (Ju (fun hb26 => ?_) fun hb26 => ?_))
  ·
   intro a Z HM
   have hd26 := bne_iff_ne.1 hb26
   have hg := qfo (f := f) (by rw [List.length_drop] at hne; omega) hne hq om
   rw [hg] at hk hp he
   exact Jb Z HM ((JT∘JP∘Jp 6∘Jj∘JZ∘Jz3) fun HM => qwr (by rw [hS]; simpa using hk) (by rw [hS]; simpa using hp) (by rw [hS]; simpa using he) hco (by have h := HM.pt (fs' := (.row (.slice Ao q.length co) q.length (q.flatMap hbL) 42 5 :: (hbF 105 q ++ ([])))) 3 [2]; rwa [List.append_nil] at h))
  intro a Z HM
  have hd26 := bne_eq_false_iff_eq.1 hb26
  revert HM; revert a; repeat (first | clear Z | clear HM)
  intro a Z HM
  obtain rfl : er = 0 := by omega
  have hg := qek (f := f) (by rw [List.length_drop] at hne; omega) hne hq
  have hof := qe2 (zw hl at_) hq
  have hm13 := hof.least
  have hml := hof.len
  rw [hg] at hk hp he
  dsimp only at hk hp he
  rw [List.length_drop] at hml
  refine Jb Z HM ((JF∘JS'∘JP∘Jp 1∘Jy (v := .agg (b.cells A21 c21)) (h:=by exact Yl.qr rfl rfl qp rfl (fun _ h => qb (h.blk (i := 0) rfl)))) fun a Z HM => ?_)
  refine fo Z 2 rfl rfl (s_el Z HM qz8 [(0, .agg (b.cells A21 c21))] (b.cells A21 c21) ?_)
  clear Z HM; intro a w32 g32 Z HM
  refine fo Z 3 rfl rfl (qn Z HM (i := 3) rfl qz8 rfl rfl rfl (news := (hbL (⟨b, A21, c21⟩ : Hb))) (HM.rdBlk (i := 0) (n := 1) (size := 5) rfl rfl) (qas _ _ _) om om rfl de ?_)
  clear Z HM; intro a w33 A33 c33 Z HM hc33
  refine Jb Z HM ((Jp 1∘Jd4∘Jq) fun a Z HM => ?_)
  have hnA33 : q.length + 1 = (q ++ [(⟨b, A21, c21⟩ : Hb)]).length := by rw [List.length_append]; rfl
  replace HM := HM.reRow (i := 3) (ys := (q ++ [(⟨b, A21, c21⟩ : Hb)]).flatMap hbL) rfl hnA33 (by rw [List.flatMap_append, List.flatMap_cons, List.flatMap_nil, List.append_nil])
  rw [hnA33] at hc33
  replace Z := Z.sp 5 (.slice A33 ((q ++ [(⟨b, A21, c21⟩ : Hb)]).length) c33) rfl (by rw [hnA33])
  replace HM := Mem.toHb (a := [.blk g32 (b.cells A21 c21) 42, .blk g7 (b.cells A21 c21) 42, .row (.slice A33 ((q ++ [(⟨b, A21, c21⟩ : Hb)]).length) c33) ((q ++ [(⟨b, A21, c21⟩ : Hb)]).length) ((q ++ [(⟨b, A21, c21⟩ : Hb)]).flatMap hbL) 42 5]) (q := q) (b := []) (HM.pt (fs' := (.row (.slice A21 b.evs.length c21) b.evs.length (b.evs.flatMap evL) 105 11 :: .blk g32 (b.cells A21 c21) 42 :: .blk g7 (b.cells A21 c21) 42 :: .row (.slice A33 ((q ++ [(⟨b, A21, c21⟩ : Hb)]).length) c33) ((q ++ [(⟨b, A21, c21⟩ : Hb)]).length) ((q ++ [(⟨b, A21, c21⟩ : Hb)]).flatMap hbL) 42 5 :: (hbF 105 q ++ ([])))) 4 [2, 0, 1, 3])
  replace HM : Mem w _ (.blk g32 (b.cells A21 c21) 42 :: .blk g7 (b.cells A21 c21) 42 :: .row (.slice A33 ((q ++ [(⟨b, A21, c21⟩ : Hb)]).length) c33) ((q ++ [(⟨b, A21, c21⟩ : Hb)]).length) ((q ++ [(⟨b, A21, c21⟩ : Hb)]).flatMap hbL) 42 5 :: (hbF 105 (q ++ [(⟨b, A21, c21⟩ : Hb)]) ++ ([]))) := HM
  refine Jb Z HM ((JG∘JR∘Jp 2∘Ja∘Jp 1∘Jd3∘Jq) fun a Z HM => ?_)
  exact ⟨_, om, (q ++ [(⟨b, A21, c21⟩ : Hb)]), (at_ + m), (f - 1), A33, c33, by omega, by omega, by rw [← hk, List.map_append, List.append_assoc, ← List.drop_drop]; rfl, by rw [← hp, ← List.drop_drop, Nat.add_assoc], by rw [← he, ← List.drop_drop], hc33, by rw [List.length_append, List.length_singleton]; omega, rfl, Z.sub kr, HM.pt 3 [2]⟩
 intro a Z HM
 have hd16 := of_decide_eq_false hb16
 have hz := qfn (f := f) (l := (l.drop at_)) (by rw [List.length_drop]; omega)
 rw [hz] at hk hp he
 exact Jb Z HM ((JF∘JX∘JG∘JP∘Jp 5∘Jj∘JZ∘Jz3) fun HM => qwr (by rw [hS]; simpa using hk) (by rw [hS]; simpa using hp) (by rw [hS]; simpa using he) hco (by have h := HM.pt (fs' := (.row (.slice Ao q.length co) q.length (q.flatMap hbL) 42 5 :: (hbF 105 q ++ ([])))) 1 [0]; rwa [List.append_nil] at h))
def q0j (W : World) (fs : List Fact) (r : Ending) (w' : World) : Prop := r = .returned (.tuple #[]) ∧ Mem W w' fs
theorem q1o {W w' : World} {fs : List Fact} (hm : Mem W w' fs) : q0j W fs (.returned (.tuple #[])) w' := ⟨rfl, hm⟩
theorem qws (k j : Int) (w : World) : Calls Tryz.prog 63 #[vI k, vI j] w (fun r w' => (∃ v : Int, r = .returned (vI v)) ∧ Below w.heap.size w w') := by
 refine (JN2 Tryz.func63 10) ?_
 exact (JP∘Jp 1∘Jr∘Jp 6∘Jd5∘Jj∘JZ∘Jz1) fun HM => by exact ⟨⟨_, rfl⟩, HM.below⟩
theorem ql3 (k j : Int) (w : World) : Calls Tryz.prog 40 #[vI k, vI j] w (fun r w' => (∃ v : Int, r = .returned (vB v)) ∧ Below w.heap.size w w') := by
 refine (JN2 Tryz.func40 12) ?_
 refine (JP∘Jp 1∘Jr∘Jp 2∘JL (h:=by exact fun HM => qws k j _)) ?_
 rintro HM _ w7 ⟨⟨v7, rfl⟩, hbw⟩
 refine ⟨_, rfl, _, HM.call hbw, ?_⟩
 exact (Jv 1 [(8, vQ (IntKind.u64.wrap v7))]∘Jp 2∘Jv 1 [(11, vB (IntKind.u8.wrap (Int.fdiv (IntKind.u64.wrap ((IntKind.u64.wrap v7) * 11400714819323198485)) (2 ^ (min (56 : Int).toNat (IntKind.u64).bits)))))]∘Jp 1∘Jd6∘Jj∘JZ∘Jz1) fun HM => by exact ⟨⟨_, rfl⟩, HM.below⟩
theorem qzd (W w : World) (A : Option Addr) (n c : Nat) (V0 : List Value) (hV0 : V0.length = n + 12) (fs : List Fact) (HW : Mem W w (.row (.slice A (n + 12) c) (n + 12) V0 5 1 :: fs)) (hc : n + 12 ≤ c) (hn : n ≤ 100000000) :
    Calls Tryz.prog 20 #[.slice A n c] w (q0j W fs) := by
 refine (JN1 Tryz.func20 23) ?_
 intro a Z HM
 replace HM : Mem W w (.row (.slice A (n + 12) c) (n + 12) V0 5 1 :: fs) := HW
 refine Jb Z HM ((JP∘Jp 2∘Jy (h:=by exact Yl.cap rfl rfl kr)∘Jp 1∘Jl∘JaK 12∘Jy (v := vI (if ((n + 12 : Nat) : Int) < (c : Int) then ((n + 12 : Nat) : Int) else (c : Int))) (h:=by exact Yl.min rfl rfl rfl)∘Jo (vI (n + 12 : Nat)) (by by_cases h : ((n + 12 : Nat) : Int) < (c : Int); exact congrArg _ (if_pos h); exact (congrArg _ (if_neg h)).trans (by rw [show c = n + 12 by omega]))∘Jy (v := .slice A (n + 12) c) (h:=by exact Yl.zl ei_u8 (j := n + 12) rfl rfl rfl (hc))∘Jp 1∘Jd6∘Jr∘Jp 1∘Jj∘JB) fun a Z HM => ?_)
 refine qi (fun mS aS wS => ∃ (i : Nat) (V : List Value), (i ≤ n + 12) ∧ (V.length = n + 12) ∧ mS = n + 12 - i ∧ Fr aS 23 [] [(3, vI i), (2, .slice A (n + 12) c)] ∧ Mem W wS (.row (.slice A (n + 12) c) (n + 12) V 5 1 :: fs)) (m := n + 12 - 0) ⟨0, V0, Nat.zero_le _, hV0, rfl, Z.sub kr, HM.pt 1 [0]⟩ ?_
 clear Z HM; rintro mS a w_ ⟨i, V, hi, hV, rfl, Z, HM⟩
 refine Jb Z HM ((JQ∘JP∘Jp 2∘Jl∘Jp 1∘Jd3∘Jj) (Ju (fun hb15 => ?_) fun hb15 => ?_))
 ·
  intro a Z HM
  have hd15 := of_decide_eq_true hb15
  revert HM; revert a; repeat (first | clear Z | clear HM)
  intro a Z HM
  obtain ⟨gA, rfl⟩ := qaf (HM.own (i := 0) rfl) (Nat.lt_of_le_of_lt (Nat.zero_le _) (show i < n + 12 from (by omega : i < n + 12)))
  refine Jb Z HM ((JT∘JS'∘JQ∘JB∘JR∘Jp 3∘JL (h:=by exact fun HM => ql3 2 (i : Int) _)) ?_)
  rintro HM _ w21 ⟨⟨v21, rfl⟩, hbw⟩
  refine ⟨_, rfl, _, HM.call hbw, ?_⟩
  refine (Jy (v := vP gA (i * 1)) (h:=by exact Yl.ix0 gA i 1 rfl rfl rfl)) fun a Z HM => ?_
  refine fo Z 5 rfl rfl ?_
  refine qjz Z HM (i := 0) rfl rfl rfl rfl kr rfl rfl (by rw [hV]; omega) fun w4_5 HM => ?_
  replace HM := HM.asRow (i := 0) (ys := putAt V (i * 1) [vB v21]) rfl (rfl)
  refine Jb Z HM ((Jt5∘Jj∘JR∘Jp 1∘JaK 1∘Jp 1∘Jd2∘Jq) fun a Z HM => ?_)
  exact ⟨_, om, i + 1, (putAt V (i * 1) [vB v21]), by omega, by rw [qig (by rw [hV]; show i * 1 + 1 ≤ n + 12; omega)]; exact hV, rfl, Z.sub kr, HM.pt 1 [0]⟩
 intro a Z HM
 have hd15 := of_decide_eq_false hb15
 refine Jb Z HM ((JF∘JX) fun a Z HM => ?_)
 exact norm0 rfl Z (q1o HM.tail)
theorem qs0 (A A2 : Option Addr) (c c2 : Nat) (q q2 : List Hb) (hqq : q.map Hb.b = q2.map Hb.b) (w : World) (hr : Rd w w.heap.size 5 A q.length (q.flatMap hbL)) (hr2 : Rd w w.heap.size 5 A2 q2.length (q2.flatMap hbL)) (hQ : HbRd w q) (hQ2 : HbRd w q2) (hev : ∀ h ∈ q, h.b.evs.length ≤ 1000000) (hn : q.length ≤ 1000000) :
    Calls Tryz.prog 18 #[.slice A q.length c, .slice A2 q2.length c2] w (Is w (.bool true)) := by
 have hlq : q.length = q2.length := by have h := congrArg List.length hqq; rwa [List.length_map, List.length_map] at h
 refine (JN2 Tryz.func18 28) ?_
 refine (JP∘Jp 1∘Jj∘JQ∘JP∘Jp 1∘Jl∘Jp 1∘Jl∘Jp 1∘Jo (.bool false) (by rw [hlq]; simp)∘Jd4∘Jj∘JF∘JS'∘JQ∘JP∘Jp 1∘Jl∘Jp 1∘Jj∘JB) fun a Z HM => ?_
 refine qi (fun mS aS wS => ∃ (k : Nat), (k ≤ q.length) ∧ mS = q.length - k ∧ Fr aS 28 [] [(14, vI k), (13, vI q.length), (12, .slice A q.length c), (11, .bool false), (4, .bool false), (0, .slice A q.length c), (1, .slice A2 q2.length c2)] ∧ Mem w wS []) (m := q.length - 0) ⟨0, Nat.zero_le _, rfl, Z.sub kr, HM.pk []⟩ ?_
 clear Z HM; rintro mS a w_ ⟨k, hk, rfl, Z, HM⟩
 refine Jb Z HM ((JP∘Jp 1∘Jj∘JQ) (Ju (fun hb15 => ?_) fun hb15 => ?_))
 ·
  intro a Z HM
  have hd15 := of_decide_eq_true hb15
  have hk15 : k < q.length := by omega
  have hbe : (q.getD k Hb.zero).b = (q2.getD k Hb.zero).b := hb_eq hqq om
  refine Jb Z HM ((JT∘JS'∘JQ∘JB∘JP∘Jp 1) ?_)
  repeat (first | clear Z | clear HM)
  intro a Z HM
  obtain ⟨gA, oA, rfl, _⟩ := hr.qt (Nat.lt_of_le_of_lt (Nat.zero_le _) (show k < q.length from by omega)) de
  refine Jb Z HM ((Jy (v := vP gA (oA + k * 5)) (h:=by exact Yl.ix gA oA k 5 rfl rfl rfl)∘Jy (v := .agg ((q.getD k Hb.zero).b.cells (q.getD k Hb.zero).A (q.getD k Hb.zero).c)) (h:=by exact Yl.qr rfl rfl si_bk rfl (fun _ h => (h.old hr).qah qdu ((getD_at Hb.zero (k := k) (by first | omega | (simp; omega))))))∘JA #[vB 0, vB 0, vI 0, vI 0, vN]) fun w6 g6 => (Jp 1∘JV si_bk O0' (h1:=by exact qas _ _ _)) fun w5_5 => (Jj) fun a Z HM => ?_)
  refine wp_seq ?_
  refine Jb Z HM ((Vs .n []) fun wd6 => (Vp [2, 3]∘Vy 0 (v := .agg ((q.getD k Hb.zero).b.cells (q.getD k Hb.zero).A (q.getD k Hb.zero).c)) (h:=by exact Yl.qr rfl rfl si_bk rfl (fun _ h => qb (h.blk (i := 0) rfl)))) ?_)
  repeat (first | clear Z | clear HM | clear HS)
  intro a Z HM HS
  obtain ⟨gA2, oA2, rfl, _⟩ := hr2.qt (Nat.lt_of_le_of_lt (Nat.zero_le _) (show k < q2.length from by omega)) de
  refine Vb Z HM HS ((Vy 4 (v := vP gA2 (oA2 + k * 5)) (h:=by exact Yl.ix gA2 oA2 k 5 rfl rfl rfl)∘Vy 5 (v := .agg ((q2.getD k Hb.zero).b.cells (q2.getD k Hb.zero).A (q2.getD k Hb.zero).c)) (h:=by exact Yl.qr rfl rfl qp rfl (fun _ h => (h.old hr2).qah qdu ((getD_at Hb.zero (k := k) (by first | omega | (simp; omega))))))∘VK 1 .n (h:=by exact fun HM => qhw (q.getD k Hb.zero).b ((q.getD k Hb.zero).A) (q.getD k Hb.zero).c _ (HM.old (hQ.at hk15)) (hev _ (qa5 Hb.zero hk15)))) fun A20 c20 w20 hc20 => (VI 6 (.f .n) (h:=by exact fun HM => qkx (q.getD k Hb.zero).b (q2.getD k Hb.zero).b A20 ((q2.getD k Hb.zero).A) c20 (q2.getD k Hb.zero).c _ (HM.rd (i := 0) rfl) (HM.old (hQ2.at om)) (hev _ (qa5 Hb.zero hk15)))) fun w25 hbw => (Vq [7] [(26, .bool (!(decide ((q.getD k Hb.zero).b = (q2.getD k Hb.zero).b))))]∘Vo (.bool false) (by rw [decide_eq_true hbe]; try rfl)∘Vd∘Jd6∘JF∘JS'∘JR∘JaK 1∘Jp 1∘Jd1∘Jq) fun a Z HM => ?_)
  exact ⟨_, om, k + 1, by omega, rfl, Z.sub kr, HM.pk []⟩
 intro a Z HM
 have hd15 := of_decide_eq_false hb15
 exact Jb Z HM ((JF∘JX∘JG∘JP∘Jp 1∘Jj∘JZ) JY1)
theorem qs1 (A : Option Addr) (n c : Nat) (l : List Nat) (BB : Nat) (w : World) (hL : LaidX BB w) (hB : BB ≤ w.heap.size) (hr : Rd w w.heap.size 1 A n (l.map B8)) (hc : n ≤ c) (hl : ∀ b ∈ l, b < 256) (hln : l.length = n) (hn : n ≤ 100000000) {bs : List Bk} {er : Nat} (h : readAll l = (bs, er)) :
  Calls Tryz.prog 14 #[.slice A n c] w (qhq 35 60 w er bs) := by
 subst hln
 have h1 := qpc A c l BB w hL hB hr hc hl hn
 rw [h] at h1
 exact h1
theorem qw1 (A : Option Addr) (n c : Nat) (l : List Nat) (w : World) (hr : Rd w w.heap.size 1 A n (l.map B8)) (hn : n ≤ 140737488351232) (hln : l.length = n) :
  Calls Tryz.prog 13 #[.slice A n c] w fun r w' => (∃ A c, r = .returned (.slice A n c) ∧ w'.ownsRow w.heap.size 5 1 (.slice A (n + 12) c) (n + 12) ((l ++ marks 12).map B8) ∧ n + 12 ≤ c) ∧ Below w.heap.size w w' := by
 have h := qzn A n c l w hr hn hln
 unfold q0m at h
 rwa [hln] at h
theorem qw2 (b b2 : Bk) (A A2 : Option Addr) (c c2 : Nat) (w : World) (hr : Rd w w.heap.size 11 A b.evs.length (b.evs.flatMap evL)) (hr2 : Rd w w.heap.size 11 A2 b2.evs.length (b2.evs.flatMap evL)) (hn : b.evs.length ≤ 1000000) (he : b = b2) :
  Calls Tryz.prog 22 #[.agg (b.cells A c), .agg (b2.cells A2 c2)] w (Is w (.bool true)) := by
 subst he
 have h := qkx b b A A2 c c2 w hr hr2 hn
 rwa [decide_eq_true rfl] at h
theorem qw3 (A A2 : Option Addr) (c c2 : Nat) (w : World) (hr : Rd w w.heap.size 11 A Bk.zero.evs.length (Bk.zero.evs.flatMap evL)) :
  Calls Tryz.prog 24 #[.agg (Bk.zero.cells A c), .agg (Bk.zero.cells A2 c2)] w (Is w (.bool true)) := by
 have h := qyr Bk.zero Bk.zero A A2 c c2 w hr Rd.nil de
 rwa [decide_eq_true rfl] at h
theorem q1w (A : Option Addr) (n c : Nat) (l : List Nat) (w : World) (hr : Rd w w.heap.size 1 A n (l.map B8)) (hc : n ≤ c) (hl : ∀ b ∈ l, b < 256) (hln : l.length = n) (hn : n ≤ 1000000) {bs : List Bk} {p e : Nat} (h : qa3 l = (bs, p, e)) :
  Calls Tryz.prog 16 #[.slice A n c] w fun r w' => ∃ A c q2, r = .returned (.tuple #[.slice A q2.length c, vI p, vI e]) ∧ bs = q2.map Hb.b ∧ q2.length ≤ c ∧ Mem w w' (.row (.slice A q2.length c) q2.length (q2.flatMap hbL) 42 5 :: hbF 105 q2) := by
 subst hln
 have h1 := qzc A c l w hr hc hl hn
 rw [h] at h1
 exact h1
theorem Mem.q12 {W w w' : World} {f : Fact} {a : List Fact} {t t2 : TypeId} {q q2 : List Hb} (h : Mem W w (a ++ (hbF t q ++ []))) (k : Mem w w' (f :: hbF t2 q2)) : Mem W w' (f :: (a ++ (hbF t q ++ (hbF t2 q2 ++ [])))) := by
 have h1 := Mem.q0o (a := a ++ hbF t q) (b := []) (by rwa [List.append_nil, ← List.append_nil (hbF t q)]) k
 rwa [List.append_assoc] at h1
theorem qw4 {l : List Nat} (hl : ∀ x ∈ l, x < 256) {b : Bk} {m er : Nat} (h : readB l = (b, m, er)) : b.evs.length ≤ 1000000 := by
 rw [← qo4 hl] at h
 unfold refB at h
 split at h
 ·injection h with h; subst h; simp [Bk.zero]
 ·split at h
  ·rename_i b' hb
   injection h with h; subst h
   unfold refOf at hb
   split at hb
   ·cases hb
   ·split at hb
    ·cases hb
    ·split at hb
     ·cases hb
     ·split at hb
      ·cases hb
      ·split at hb
       ·cases hb
       ·injection hb with hb; subst hb; exact qd0 _ _
  ·injection h with h; subst h; simp [Bk.zero]
theorem qw5 : ∀ {f : Nat} {L : List Nat} {bs : List Bk} {P e : Nat}, (∀ x ∈ L, x < 256) → qe f L = (bs, P, e) → ∀ b ∈ bs, b.evs.length ≤ 1000000
 | _, _, [], _, _, _, _ => fun _ h => by cases h
 | f, L, b :: t, P, e, hl, h => by
  obtain ⟨m, h1, _, _, _, h5⟩ := qpt h
  intro x hx
  rcases List.mem_cons.1 hx with rfl | hx
  ·exact qw4 hl h1
  ·exact qw5 (f := f - 1) (zw hl m) h5 x hx
theorem qoa (A : Option Addr) (c : Nat) (l : List Nat) (bs ra : List Bk) (p e : Nat) (hS : qa3 l = (bs, p, e)) (hra : readAll l = (ra, e)) (B : Nat) (w : World) (hL : LaidX B w) (hB : B ≤ w.heap.size) (hr : Rd w w.heap.size 1 A l.length (l.map B8)) (hc : l.length ≤ c) (hl : ∀ b ∈ l, b < 256) (hn : l.length ≤ 6000) :
    Calls Tryz.prog 5 #[.slice A l.length c] w (Is w (.bool true)) := by
 have hfull : qe l.length l = (bs, p, e) := by rw [← qsy hn]; exact hS
 have hbl := qwz hfull
 refine (JN1 Tryz.func5 147) ?_
 refine (JP∘Jp 1∘Jr∘Jp 1∘JK (h:=by exact fun HM => qw1 _ l.length _ l _ (HM.old hr) om rfl)) fun A19 c19 w19 hc19 => (Jp 1∘Jd2∘Jr∘Jp 1∘JL (h:=by exact fun HM => qs1 (bs := ra) (er := e) A19 l.length c19 l B _ (hL.mem HM hB) (HM.le hB) ((HM.rd (i := 0) rfl).pre rfl om) om hl rfl om hra)) ?_
 rintro HM _ w22 ⟨A22, c22, q1, rfl, hq1, hc22, hm⟩
 have hql1 : ra.length = q1.length := by rw [← hq1, List.length_map]
 rw [hql1] at hm hc22 ⊢
 refine ⟨_, rfl, _, Mem.q0o (a := [.row (.slice A19 (l.length + 12) c19) (l.length + 12) ((l ++ marks 12).map B8) 5 1]) (b := []) HM hm, ?_⟩
 refine (Jp 1∘Jx∘Jx∘Jp 2∘Jr∘Jp 1∘JI (h:=by exact fun HM => q0l A19 l.length c19 l B _ (hL.mem HM hB) (HM.le hB) ((HM.rd (i := 1) rfl).pre rfl om) om hl rfl om hS)) fun w27 hbw => (Jp 1∘Jx∘Jx∘Jx∘Jp 3∘Jr∘Jp 1∘JL (h:=by exact fun HM => q1w A l.length c l _ (HM.old hr) hc hl rfl om hS)) ?_
 rintro HM _ w33 ⟨A33, c33, q2, rfl, hq2, hc33, hm⟩
 refine ⟨_, rfl, _, Mem.q12 (a := [.row (.slice A22 q1.length c22) q1.length (q1.flatMap hbL) 60 5, .row (.slice A19 (l.length + 12) c19) (l.length + 12) ((l ++ marks 12).map B8) 5 1]) HM hm, ?_⟩
 intro a Z HM
 have hbq2 : bs.length = q2.length := by rw [hq2, List.length_map]
 refine Jb Z HM ((Jp 1∘Jx∘Jx∘Jx∘Jp 3∘Jr∘Jp 1∘JL (h:=by exact fun HM => qky A19 c19 l _ ((HM.rd (i := 2) rfl).pre rfl om) om)) ?_)
 rintro HM _ w38 ⟨g38, A38, c38, rfl, hc38, hm⟩
 refine ⟨_, rfl, _, HM.join hm, ?_⟩
 refine (Jp 1∘Jd2∘Jj∘JQ) fun a Z HM => ?_
 refine zk (fun aS wS => Fr aS 147 [] [(86, .bool false), (12, vP g38 0), (11, vI e), (10, vI p), (9, .slice A33 q2.length c33), (3, .slice A19 l.length c19), (2, .bool false), (0, .slice A l.length c)] ∧ Mem w wS (.blk g38 #[.bool true, vI (0 : Nat), .slice A38 l.length c38] 91 :: .row (.slice A38 l.length c38) l.length (l.map B8) 5 1 :: .row (.slice A33 q2.length c33) q2.length (q2.flatMap hbL) 42 5 :: .row (.slice A22 q1.length c22) q1.length (q1.flatMap hbL) 60 5 :: .row (.slice A19 (l.length + 12) c19) (l.length + 12) ((l ++ marks 12).map B8) 5 1 :: (hbF 35 q1 ++ (hbF 105 q2 ++ ([]))))) ?_ ?_
 ·
  refine qa7 ?_
  refine Jb Z HM ((Jp 1∘Jy (v := .bool false) (h:=by exact Yl.qoc rfl rfl rfl)∘Jp 4∘Jo (.bool false) (by simp)∘Jp 5∘Jo (.bool false) (by simp)∘Jp 4∘Jl∘Jp 1∘Jo (.bool false) (by rw [hq2, List.length_map]; simp)∘Jp 5∘Jo (.bool false) (by simp)∘Jp 5) (Ju (fun hb65 => ?_) fun hb65 => ?_))
  ·
   intro a Z HM
   have hd65 := eq_of_beq hb65
   have he0 : e = 0 := by omega
   have hqq : q1.map Hb.b = q2.map Hb.b := by rw [hq1, ← hq2]; unfold readAll at hra; rw [hS, if_neg (by simpa using he0)] at hra; injection hra with h _; exact h.symm
   have hev1 : ∀ h ∈ q1, h.b.evs.length ≤ 1000000 := fun h hh => qw5 hl hfull _ (by rw [hq2, ← hqq]; exact List.mem_map_of_mem hh)
   have hql : q1.length = q2.length := by have h := congrArg List.length hqq; rwa [List.length_map, List.length_map] at h
   refine Jb Z HM ((Jp 2∘JI (h:=by exact fun HM => qs0 A22 A33 c22 c33 q1 q2 hqq _ (HM.rd (i := 3) rfl) (HM.rd (i := 2) rfl) (Mem.q3h (a := [.blk g38 #[.bool true, vI (0 : Nat), .slice A38 l.length c38] 91, .row (.slice A38 l.length c38) l.length (l.map B8) 5 1, .row (.slice A33 q2.length c33) q2.length (q2.flatMap hbL) 42 5, .row (.slice A22 q1.length c22) q1.length (q1.flatMap hbL) 60 5, .row (.slice A19 (l.length + 12) c19) (l.length + 12) ((l ++ marks 12).map B8) 5 1]) HM) (Mem.q0p (a := [.blk g38 #[.bool true, vI (0 : Nat), .slice A38 l.length c38] 91, .row (.slice A38 l.length c38) l.length (l.map B8) 5 1, .row (.slice A33 q2.length c33) q2.length (q2.flatMap hbL) 42 5, .row (.slice A22 q1.length c22) q1.length (q1.flatMap hbL) 60 5, .row (.slice A19 (l.length + 12) c19) (l.length + 12) ((l ++ marks 12).map B8) 5 1]) HM) hev1 om)) fun w68 hbw => (Jp 1∘Jo (.bool false) (by simp)∘Jp 5∘Jo (.bool false) (by simp [he0])∘Jp 9∘JL (h:=by exact fun HM => qra _ _ l.length _ _ l _ (HM.rd (i := 4) rfl) hc19 (HM.old hr) om rfl)) ?_)
   rintro HM _ w84 ⟨rfl, hbw⟩
   refine ⟨_, rfl, _, HM.call hbw, ?_⟩
   refine (Jp 1∘Jo (.bool false) (by simp)∘Jp 1∘Jd6∘Jq) fun a Z HM => ?_
   replace Z := Z.to [(86, .bool false), (12, vP g38 0), (11, vI e), (10, vI p), (9, .slice A33 q2.length c33), (3, .slice A19 l.length c19), (2, .bool false), (0, .slice A l.length c)]
   exact ⟨Z.sub kr, HM.pt 5 [0, 1, 2, 3, 4]⟩
  intro a Z HM
  have hd65 := ne_of_beq_false hb65
  have he0 : e ≠ 0 := by omega
  have hq10 : q1.length = 0 := by unfold readAll at hra; rw [hS, if_pos (by simpa using he0)] at hra; injection hra with h _; rw [← hql1, ← h]; rfl
  refine Jb Z HM ((Jv 9 [(74, .bool ((e : Int) != (0 : Int))), (72, .bool false)]∘Jo (.bool true) (by simp [he0])∘Jp 2∘Jl∘Jp 1∘Jo (.bool false) (by rw [hq10]; try rfl)∘Jp 5∘JL (h:=by exact fun HM => qra _ _ l.length _ _ l _ (HM.rd (i := 4) rfl) hc19 (HM.old hr) om rfl)) ?_)
  rintro HM _ w84 ⟨rfl, hbw⟩
  refine ⟨_, rfl, _, HM.call hbw, ?_⟩
  refine (Jp 1∘Jo (.bool false) (by simp)∘Jp 1∘Jd6∘Jq) fun a Z HM => ?_
  replace Z := Z.to [(86, .bool false), (12, vP g38 0), (11, vI e), (10, vI p), (9, .slice A33 q2.length c33), (3, .slice A19 l.length c19), (2, .bool false), (0, .slice A l.length c)]
  exact ⟨Z.sub kr, HM.pt 5 [0, 1, 2, 3, 4]⟩
 clear Z HM; rintro a w6 ⟨Z, HM⟩
 refine Jb Z HM ((JF∘JS'∘JP∘Jp 1∘JO (h:=by exact fun HM => qzd w _ A19 l.length c19 ((l ++ marks 12).map B8) (by simp [marks]) _ (HM.pt 5 [4, 0, 1, 2, 3]) hc19 om)) fun w88 => (Jt2∘Jj∘JQ∘JP∘Jp 1∘Jl∘Jp 1∘Jj∘JB) fun a Z HM => ?_)
 refine qi (fun mS aS wS => ∃ (k : Nat) (pp : Nat) (f : Nat), (k ≤ bs.length) ∧ (pp ≤ l.length) ∧ (l.length - pp ≤ f) ∧ (pp ≤ p) ∧ (qe f (l.drop pp) = (bs.drop k, p - pp, e)) ∧ mS = bs.length - k ∧ Fr aS 147 [] [(91, vI k), (90, vI q2.length), (86, .bool false), (12, vP g38 0), (11, vI e), (10, vI p), (9, .slice A33 q2.length c33), (3, .slice A19 l.length c19), (2, .bool false), (0, .slice A l.length c)] ∧ Mem w wS (.blk g38 #[.bool true, vI pp, .slice A38 l.length c38] 91 :: .row (.slice A38 l.length c38) l.length (l.map B8) 5 1 :: .row (.slice A33 q2.length c33) q2.length (q2.flatMap hbL) 42 5 :: .row (.slice A22 q1.length c22) q1.length (q1.flatMap hbL) 60 5 :: (hbF 35 q1 ++ (hbF 105 q2 ++ ([]))))) (m := bs.length - 0) ⟨0, 0, l.length, Nat.zero_le _, Nat.zero_le _, Nat.sub_le _ _, Nat.zero_le _, hfull, rfl, Z.sub kr, HM.pt 4 [0, 1, 2, 3]⟩ ?_
 clear Z HM; rintro mS a w_ ⟨k, pp, f, hk, hpl, hfl, hpp, hg, rfl, Z, HM⟩
 refine Jb Z HM ((JP∘Jp 1∘Jj∘JQ) (Ju (fun hb92 => ?_) fun hb92 => ?_))
 ·
  intro a Z HM
  have hd92 := of_decide_eq_true hb92
  have hk92 : k < bs.length := by omega
  rw [q1u hk92] at hg
  obtain ⟨m, hnx, hpl2, hf0, hmP, hg2⟩ := q1s hg
  have hbn := qw5 hl hfull _ (qa5 Bk.zero hk92)
  have hbq : (bs.getD k Bk.zero) = (q2.getD k Hb.zero).b := by rw [hq2, q1t om]
  have hmb := qni hl hpl hnx
  have hq92 := hnx
  unfold nextR at hq92
  rw [if_neg om] at hq92
  have hm13 := (qe2 (zw hl pp) hq92).least
  refine Jb Z HM ((JT∘JS'∘JQ∘JB∘JP∘Jp 2∘Jd1∘Jr∘Jp 1∘JL (h:=by exact fun HM => qgn _ _ g38 pp A38 c38 l _ (HM.pt 4 [0, 1, 2, 3]) om (by first | exact Nat.le_refl _ | omega | exact Nat.zero_le _) hl om B (hL.mem HM hB) hB (hnx))) ?_)
  rintro HM _ w96 ⟨A96, c96, rfl, hc96, HM2⟩
  refine ⟨_, rfl, _, HM2, ?_⟩
  refine (Jp 1∘Jx∘Jx∘JA #[vB 0, vB 0, vI 0, vI 0, vN]) fun w14 g14 => (JV si_bk O0' (h1:=by exact qas _ _ _)) fun w12_6 => (Jp 1∘Jj) fun a Z HM => ?_
  refine wp_seq ?_
  refine Jb Z HM ((Vs .n []) fun wd13 => (Vp [0]∘Vq [1] [(100, .bool false)]∘Vo (.bool false) (by simp)∘Vp [2, 5, 6]∘Vy 3 (v := .agg ((bs.getD k Bk.zero).cells A96 c96)) (h:=by exact Yl.qr rfl rfl si_bk rfl (fun _ h => qb (h.blk (i := 0) rfl)))) ?_)
  repeat (first | clear Z | clear HM | clear HS)
  intro a Z HM HS
  obtain ⟨gA33, rfl⟩ := qaf (HM.own (i := 4) rfl) (Nat.lt_of_le_of_lt (Nat.zero_le _) (show k < q2.length from by omega))
  refine Vb Z HM HS ((Vy 7 (v := vP gA33 (k * 5)) (h:=by exact Yl.ix0 gA33 k 5 rfl rfl rfl)∘Vy 8 (v := .agg ((q2.getD k Hb.zero).b.cells (q2.getD k Hb.zero).A (q2.getD k Hb.zero).c)) (h:=by exact Yl.qr rfl rfl qp rfl (fun _ h => h.qw6 qdu (i := 4) rfl ((getD_at Hb.zero (k := k) (by first | omega | (simp; omega))))))∘VK 4 .n (h:=by exact fun HM => qhw (bs.getD k Bk.zero) A96 c96 _ (HM.rd (i := 1) rfl) hbn)) fun A103 c103 w103 hc103 => (VI 9 (.f .n) (h:=by exact fun HM => qw2 (bs.getD k Bk.zero) (q2.getD k Hb.zero).b A103 ((q2.getD k Hb.zero).A) c103 (q2.getD k Hb.zero).c _ (HM.rd (i := 0) rfl) ((Mem.q0p (a := [.row (.slice A103 ((bs.getD k Bk.zero).evs.length) c103) ((bs.getD k Bk.zero).evs.length) ((bs.getD k Bk.zero).evs.flatMap evL) 105 11, .blk g14 ((bs.getD k Bk.zero).cells A96 c96) 60, .row (.slice A96 ((bs.getD k Bk.zero).evs.length) c96) ((bs.getD k Bk.zero).evs.length) ((bs.getD k Bk.zero).evs.flatMap evL) 35 11, .blk g38 #[.bool true, vI (pp + m : Nat), .slice A38 l.length c38] 91, .row (.slice A38 l.length c38) l.length (l.map B8) 5 1, .row (vS gA33 q2.length c33) q2.length (q2.flatMap hbL) 42 5, .row (.slice A22 q1.length c22) q1.length (q1.flatMap hbL) 60 5]) HM).at om) hbn hbq)) fun w108 hbw => (Vp [10, 11]∘Vd∘Jd6∘JF∘JS'∘JR∘JaK 1∘Jp 1∘Jd1∘Jq) fun a Z HM => ?_)
  exact ⟨_, om, k + 1, (pp + m), (f - 1), by omega, by omega, by omega, by omega, by rw [hg2, Nat.sub_sub], rfl, Z.sub kr, HM.pt 7 [3, 4, 5, 6]⟩
 intro a Z HM
 have hd92 := of_decide_eq_false hb92
 rw [List.drop_of_length_le (by omega : bs.length ≤ k)] at hg
 obtain ⟨hP0, hlast⟩ := qwy hl hpl hfl hg
 have hpe : pp = p := by omega
 refine Jb Z HM ((JF∘JX∘JG∘JQ∘JP∘Jp 1∘Jj∘JB) fun a Z HM => ?_)
 refine qi (fun mS aS wS => ∃ (j : Nat), (j ≤ 2) ∧ mS = 2 - j ∧ Fr aS 147 [] [(112, vI j), (92, .bool false), (91, vI k), (90, vI q2.length), (86, .bool false), (12, vP g38 0), (11, vI e), (10, vI p), (9, .slice A33 q2.length c33), (3, .slice A19 l.length c19), (2, .bool false), (0, .slice A l.length c)] ∧ Mem w wS (.blk g38 #[.bool true, vI pp, .slice A38 l.length c38] 91 :: .row (.slice A38 l.length c38) l.length (l.map B8) 5 1 :: .row (.slice A33 q2.length c33) q2.length (q2.flatMap hbL) 42 5 :: .row (.slice A22 q1.length c22) q1.length (q1.flatMap hbL) 60 5 :: (hbF 35 q1 ++ (hbF 105 q2 ++ ([]))))) (m := 2 - 0) ⟨0, by omega, rfl, Z.sub kr, HM.pt 4 [0, 1, 2, 3]⟩ ?_
 clear Z HM; rintro mS a w_ ⟨j, hj, rfl, Z, HM⟩
 refine Jb Z HM ((JP∘Jp 1∘Jj∘JQ) (Ji (fun hd113 => ?_) fun hd113 => ?_))
 ·
  refine (JT∘JS'∘JQ∘JB∘JP∘Jp 1∘JL (h:=by exact fun HM => qgn _ _ g38 pp A38 c38 l _ (HM.pt 4 [0, 1, 2, 3]) (hpl) (by first | exact Nat.le_refl _ | omega | exact Nat.zero_le _) hl om B (hL.mem HM hB) hB (hlast) (p2 := pp) (rfl))) ?_
  rintro HM _ w116 ⟨A116, c116, rfl, hc116, HM2⟩
  refine ⟨_, rfl, _, HM2, ?_⟩
  refine (Jp 1∘Jx∘Jx∘JA #[vB 0, vB 0, vI 0, vI 0, vN]) fun w16 g16 => (JV si_bk O0' (h1:=by exact qas _ _ _)) fun w18_6 => (Jp 1∘Jj) fun a Z HM => ?_
  refine zk (fun aS wS => Fr aS 147 [] [(145, .bool false), (17, vI (endE e)), (16, vP g16 0), (113, .bool true), (112, vI j), (92, .bool false), (91, vI k), (90, vI q2.length), (86, .bool false), (12, vP g38 0), (11, vI e), (10, vI p), (9, .slice A33 q2.length c33), (3, .slice A19 l.length c19), (2, .bool false), (0, .slice A l.length c)] ∧ Mem w wS (.blk g16 (Bk.zero.cells A116 c116) 60 :: .row (.slice A116 Bk.zero.evs.length c116) Bk.zero.evs.length (Bk.zero.evs.flatMap evL) 35 11 :: .blk g38 #[.bool true, vI (pp : Nat), .slice A38 l.length c38] 91 :: .row (.slice A38 l.length c38) l.length (l.map B8) 5 1 :: .row (.slice A33 q2.length c33) q2.length (q2.flatMap hbL) 42 5 :: .row (.slice A22 q1.length c22) q1.length (q1.flatMap hbL) 60 5 :: (hbF 35 q1 ++ (hbF 105 q2 ++ ([]))))) ?_ ?_
  ·
   refine qa7 ?_
   refine Jb Z HM ((Jy (v := .agg (Bk.zero.cells A116 c116)) (h:=by exact Yl.qr rfl rfl si_bk rfl (fun _ h => qb (h.blk (i := 0) rfl)))∘Jy (v := .agg #[vB 0, vB 0, vI 0, vI 0, vN]) (h:=by exact Yl.build (vs := []) rfl kr kr)∘JI (h:=by exact fun HM => qw3 A116 none c116 0 _ (HM.rd (i := 1) rfl))) fun w121 hbw => (Jp 3∘JI (h:=by exact fun HM => qhu g38 pp A38 c38 l _ (HM.blk (i := 2) rfl))) fun w125 hbw => (Jp 2∘Jo (.bool false) (by rw [hpe]; simp)∘Jp 5) (Ju (fun hb132 => ?_) fun hb132 => ?_))
   ·
    intro a Z HM
    have hd132 := eq_of_beq hb132
    have he1 : e = 0 := by omega
    have hE : endE e = 6 := if_pos he1
    refine Jb Z HM ((Jp 2∘Jo (.bool false) (by rw [hE]; simp)∘Jp 5∘Jo (.bool false) (by simp [he1])∘Jp 6∘Jd6∘Jq) fun a Z HM => ?_)
    exact ⟨Z.sub kr, HM.pt 6 [0, 1, 2, 3, 4, 5]⟩
   intro a Z HM
   have hd132 := ne_of_beq_false hb132
   have he1 : e ≠ 0 := by omega
   have hE : endE e = e := if_neg he1
   refine Jb Z HM ((Jp 7∘Jo (.bool true) (by simp [he1])∘Jp 4∘Jo (.bool false) (by rw [hE]; simp)∘Jp 2∘Jd6∘Jq) fun a Z HM => ?_)
   exact ⟨Z.sub kr, HM.pt 6 [0, 1, 2, 3, 4, 5]⟩
  clear Z HM; rintro a w19 ⟨Z, HM⟩
  refine Jb Z HM ((JF∘JS'∘JR∘JaK 1∘Jp 1∘Jd1∘Jq) fun a Z HM => ?_)
  exact ⟨_, om, j + 1, by omega, rfl, Z.sub kr, HM.pt 6 [2, 3, 4, 5]⟩
 exact (JF∘JX∘JG∘JP∘Jp 1∘Jj∘JZ) JY1
theorem qpu (A : Option Addr) (c : Nat) (l : List Nat) (B : Nat) (w : World) (hL : LaidX B w) (hB : B ≤ w.heap.size) (hr : Rd w w.heap.size 1 A l.length (l.map B8)) (hc : l.length ≤ c) (hl : ∀ b ∈ l, b < 256) (hn : l.length ≤ 6000) :
  Calls Tryz.prog 5 #[.slice A l.length c] w (Is w (.bool true)) := by
 obtain ⟨bs, p, e, hS⟩ : ∃ bs p e, qa3 l = (bs, p, e) := ⟨_, _, _, rfl⟩
 have h2 : (readAll l).2 = e := by
  unfold readAll
  rw [hS]
  split
  ·rfl
  ·rename_i h; dsimp only at h ⊢; omega
 exact qoa A c l bs (readAll l).1 p e hS (by rw [← h2]) B w hL hB hr hc hl hn
theorem qje (A : Option Addr) (c : Nat) (l : List Nat) (B : Nat) (w : World) (hL : LaidX B w) (hB : B ≤ w.heap.size) (hr : Rd w w.heap.size 1 A l.length (l.map B8)) (hc : l.length ≤ c) (hl : ∀ b ∈ l, b < 256) :
    Calls Tryz.prog 3 #[.slice A l.length c] w (Is w (.bool true)) := by
 refine (JN1 Tryz.func3 13) ?_
 refine (JP∘Jp 1∘Jr∘Jp 1∘Jl∘Jp 2) (Ji (fun hd6 => ?_) fun hd6 => ?_)
 ·
  exact (Jp 4∘JI (h:=by exact fun HM => qkz B _ (hL.mem HM hB) (HM.le hB))) fun w11 hbw => (Jp 2∘Jd6∘Jj∘JZ) JY1
 exact (Jp 1∘JI (h:=by exact fun HM => qpu A c l B _ (hL.mem HM hB) (HM.le hB) (HM.old hr) hc hl om)) fun w8 hbw => (Jp 2∘JI (h:=by exact fun HM => qkz B _ (hL.mem HM hB) (HM.le hB))) fun w11 hbw => (Jp 2∘Jd6∘Jj∘JZ) JY1
end Go.Proofs.YtpklccgmjhikeaaGreatDoor
