/- Parts. -/
import Derived.Test.YtggpmlaappaopaaGreatDoorQpSep20
import Derived.Test.YtggpmlaappaopaaGreatDoorQpSep11
import Derived.Test.YtggpmlaappaopaaGreatDoorQpRnd2
import Derived.Lib.ConvBytes
import Derived.Test.YtggpmlaappaopaaGreatDoorQpZ3
set_option linter.all false
set_option maxRecDepth 100000
set_option maxHeartbeats 4000000
namespace Go.Proofs.YtggpmlaappaopaaGreatDoor
open Go.RowKit
theorem qt2 {i : Nat} (hi : i < 9) (A : Option Addr) (c : Nat) (Q : List Nw) (w : World) (hr : Rd w w.heap.size 1 A Q.length (Q.map Nw.val)) (hq : NwRd w Q) (hS : (nmN (nmR i) 3 = true ∨ nmN (nmR i) 4 = true ∨ nmN (nmR i) 5 = true ∨ nmN (nmR i) 7 = true) → Cfg3 Q) :
  Calls Tryz.prog 101 #[.string (nmR i), .slice A Q.length c] w (Is w (.int .i64 (wantN i (Q.map Nw.l) : Int))) := by
 rw [← qz5 hi]
 exact qp5 (nmR i) A c Q w hr hq hS
theorem qhf (A : Option Addr) (c : Nat) (l : List Nat) (w : World) (hr : Rd w w.heap.size 1 A l.length (l.map B8)) (hc : l.length ≤ c) (hn : l.length ≤ 100000000) (hl : ∀ z ∈ l, z < 256) :
    Calls Tryz.prog 72 #[.slice A l.length c] w (qog w l) := by
 refine s_ce Tryz.func72 [.slice A l.length c] [(0, .slice A l.length c)] fun a M => ?_
 have O := Mem.start w
 refine s_fs1 ?_
 refine fp M 3 0 [(4, vI 0), (3, .slice none 0 0), (2, .slice none 0 0)] fun a M => s_d0 (wp_seq (s_fs1 ?_))
 refine fp M 1 0 [(20, .slice A l.length c)] fun a M => s_fl M 1 fun a M => ?_
 refine fp M 1 2 [(22, .bool (decide ((l.length : Int) < (15 : Int))))] fun a M => s_d0 ?_
 rcases M.tf 22 rfl with ⟨hb22, M⟩ | ⟨hb22, M⟩
 ·
  have hd22 := of_decide_eq_true hb22
  refine s_ct M (s_fs1 ?_)
  refine fp M 3 0 [(4, vI 340), (3, .slice none 0 0), (2, .slice none 0 0)] fun a M => s_d0 (wp_ret ?_)
  exact s_rt3 rfl M rfl rfl rfl (zy _ (qk4 (by omega)) rfl rfl O.below)
 have hd22 := of_decide_eq_false hb22
 refine s_cf M (wp_skip (wp_seq (s_fs1 ?_)))
 refine fp M 1 0 [(23, .slice A l.length c)] fun a M => s_fl M 1 fun a M => ?_
 refine fp M 1 2 [(25, .bool (decide ((l.length : Int) > (16777216 : Int))))] fun a M => s_d0 ?_
 rcases M.tf 25 rfl with ⟨hb25, M⟩ | ⟨hb25, M⟩
 ·
  have hd25 := of_decide_eq_true hb25
  refine s_ct M (s_fs1 ?_)
  refine fp M 3 0 [(4, vI 3), (3, .slice none 0 0), (2, .slice none 0 0)] fun a M => s_d0 (wp_ret ?_)
  exact s_rt3 rfl M rfl rfl rfl (zy _ (qjb (by omega) (by omega)) rfl rfl O.below)
 have hd25 := of_decide_eq_false hb25
 refine s_cf M (wp_skip (wp_seq (s_fs1 ?_)))
 refine fp M 1 0 [(26, .slice A l.length c)] fun a M => fo M 1 rfl rfl (e_is M O [.slice A l.length c] (.bool (zb l)) rfl rfl (qlh A l.length c l _ (O.old hr) hc rfl hn hl) fun w27 hbw O a M => ?_)
 refine fp M 1 2 [(28, .bool (!(zb l)))] fun a M => s_d0 ?_
 rcases M.tf 28 rfl with ⟨hb28, M⟩ | ⟨hb28, M⟩
 ·
  have hs16 : zb l = false := by simpa using hb28
  refine s_ct M (s_fs1 ?_)
  refine fp M 3 0 [(4, vI 341), (3, .slice none 0 0), (2, .slice none 0 0)] fun a M => s_d0 (wp_ret ?_)
  exact s_rt3 rfl M rfl rfl rfl (zy _ (qsl (by omega) (by omega) hs16) rfl rfl O.below)
 have hs16 : zb l = true := by simpa using hb28
 refine s_cf M (wp_skip (wp_seq (s_fs1 ?_)))
 refine fp M 1 0 [(29, .slice A l.length c)] fun a M => ?_
 obtain ⟨gA, oA, rfl, _⟩ := hr.qi (Nat.lt_of_le_of_lt (Nat.zero_le _) (show 0 < l.length from by omega)) (by decide)
 refine s_fz M O 1 rfl (v := vP gA oA) (Yl.indexAddr (ad := ⟨gA, oA, none⟩) (y := 0) (sz := 1) rfl rfl rfl (by omega) (by kernel_rfl)) fun a M => ?_
 refine s_fz M O 2 rfl (v := vB (l.getD 0 0)) (Yl.o1 hr 0 0 (by first | omega | (simp; omega)) rfl rfl) fun a M => ?_
 refine fp M 2 3 [(33, .bool (((l.getD 0 0) : Int) != (113 : Int)))] fun a M => ?_
 rcases M.tf 33 rfl with ⟨hb33, M⟩ | ⟨hb33, M⟩
 ·
  have hd33 := bne_iff_ne.1 hb33
  refine fp M 5 5 [(38, .bool true)] fun a M => s_d0 (s_ct M (s_fs1 ?_))
  refine fp M 3 0 [(4, vI 342), (3, .slice none 0 0), (2, .slice none 0 0)] fun a M => s_d0 (wp_ret ?_)
  exact s_rt3 rfl M rfl rfl rfl (zy _ (qed (by omega) (by omega) hs16 (by omega)) rfl rfl O.below)
 have hd33 := bne_eq_false_iff_eq.1 hb33
 refine fp M 1 5 [(34, .slice (some ⟨gA, oA, none⟩) l.length c)] fun a M => s_fz M O 6 rfl (v := vP gA (oA + 1)) (Yl.indexAddr (ad := ⟨gA, oA, none⟩) (y := 1) (sz := 1) rfl rfl rfl (by omega) (by kernel_rfl)) fun a M => ?_
 refine s_fz M O 7 rfl (v := vB (l.getD 1 0)) (Yl.o1 hr 1 0 (by first | omega | (simp; omega)) rfl rfl) fun a M => ?_
 refine fp M 2 8 [(38, .bool (((l.getD 1 0) : Int) != (115 : Int)))] fun a M => s_d0 ?_
 rcases M.tf 38 rfl with ⟨hb38, M⟩ | ⟨hb38, M⟩
 ·
  have hd38 := bne_iff_ne.1 hb38
  refine s_ct M (s_fs1 ?_)
  refine fp M 3 0 [(4, vI 342), (3, .slice none 0 0), (2, .slice none 0 0)] fun a M => s_d0 (wp_ret ?_)
  exact s_rt3 rfl M rfl rfl rfl (zy _ (qed (by omega) (by omega) hs16 (by omega)) rfl rfl O.below)
 have hd38 := bne_eq_false_iff_eq.1 hb38
 refine s_cf M (wp_skip (wp_seq (s_fs1 ?_)))
 refine fp M 1 0 [(39, .slice (some ⟨gA, oA, none⟩) l.length c)] fun a M => s_fz M O 1 rfl (v := vP gA (oA + 2)) (Yl.indexAddr (ad := ⟨gA, oA, none⟩) (y := 2) (sz := 1) rfl rfl rfl (by omega) (by kernel_rfl)) fun a M => ?_
 refine s_fz M O 2 rfl (v := vB (l.getD 2 0)) (Yl.o1 hr 2 0 (by first | omega | (simp; omega)) rfl rfl) fun a M => ?_
 refine fp M 1 3 [(42, .bool (((l.getD 2 0) : Int) != (1 : Int)))] fun a M => s_d0 ?_
 rcases M.tf 42 rfl with ⟨hb42, M⟩ | ⟨hb42, M⟩
 ·
  have hd42 := bne_iff_ne.1 hb42
  refine s_ct M (s_fs1 ?_)
  refine fp M 3 0 [(4, vI 343), (3, .slice none 0 0), (2, .slice none 0 0)] fun a M => s_d0 (wp_ret ?_)
  exact s_rt3 rfl M rfl rfl rfl (zy _ (qg8 (by omega) (by omega) hs16 (by omega) (by omega)) rfl rfl O.below)
 have hd42 := bne_eq_false_iff_eq.1 hb42
 refine s_cf M (wp_skip (s_fs1 ?_))
 refine fo M 0 rfl rfl (s_el M O ei_nw [(0, .slice none 0 0)] #[.slice none 0 0] fun a w43 g43 M O => ?_)
 refine fo M 1 rfl rfl (s_el M O qbu [(0, vI 3)] #[vI 3] fun a w44 g44 M O => ?_)
 refine fp M 2 2 [(6, vS g44 1 1), (5, vS g43 1 1)] fun a M => s_d0 ?_
 replace O := (O.blkRow (i := 1) (n := 1) (size := 1) rfl rfl (by decide)).asRow (i := 1) (ys := ([Nw.zero] : List Nw).map Nw.val) rfl (rfl)
 replace O := (O.blkRow (i := 0) (n := 1) (size := 1) rfl rfl (by decide)).asRow (i := 0) (ys := ([3] : List Nat).map I64v) rfl (rfl)
 replace O := O.nil 22 1
 replace O := O.newTail 22 1
 replace O := Mem.toNw (A := none) (c := 0) (l := []) (q := []) (fs := [.row (vS g44 1 1) 1 (([3] : List Nat).map I64v) 3 1, .row (vS g43 1 1) 1 (([Nw.zero] : List Nw).map Nw.val) 58 1]) O
 replace O : Mem w _ (.row (vS g44 1 1) 1 (([3] : List Nat).map I64v) 3 1 :: .row (vS g43 1 1) 1 (([Nw.zero] : List Nw).map Nw.val) 58 1 :: nwF 22 [Nw.zero]) := O
 refine s_fs1 ?_
 refine fp M 1 0 [(45, .slice (some ⟨gA, oA, none⟩) l.length c)] fun a M => s_fl M 1 fun a M => ?_
 refine fp M 1 2 [(47, vI (IntKind.i64.wrap ((l.length : Int) - 4)))] fun a M => ?_
 replace M := M.sp 47 (vI (l.length - 4 : Nat)) rfl (qc (by omega) (by omega))
 refine fp M 2 3 [(8, vI (l.length - 4 : Nat)), (7, vI 3)] fun a M => s_d0 (s_fs1 ?_)
 refine fo M 0 rfl rfl ?_
 refine e_cl M [] rfl rfl (qff _) ?_
 rintro _ w48 ⟨⟨g48, rfl, ho⟩, hbw⟩
 refine ⟨_, rfl, ?_⟩
 replace O := O.callRow hbw ho
 clear M; intro a M
 refine fp M 1 1 [(9, vS g48 9 9)] fun a M => s_d0 (wp_seq (wp_seq ?_))
 obtain ⟨b, hbd⟩ : ∃ b, l.take (l.length - 4) = b := ⟨_, rfl⟩
 have hbl : b.length = l.length - 4 := by rw [← hbd, List.length_take]; omega
 have hlb : ∀ z ∈ b, z < 256 := fun z hz => hl z (List.mem_of_mem_take (hbd ▸ hz))
 have hop := qsm (by omega) (by omega) hs16 (by omega) (by omega)
 rw [hbd] at hop
 skip
 ·
  refine qa ?_
  refine fp M 1 0 [(10, vI 1)] fun a M => s_d0 (wp_block ?_)
  refine qe (fun mS aS wS => ∃ (i : Nat) (Q : List Nw) (Aq : Option Addr) (cq : Nat) (E : List Nat) (Ae : Option Addr) (ce : Nat) (p0 : Nat), (1 ≤ i) ∧ (i ≤ 8) ∧ (RefAt b i (Q.map Nw.l) E p0) ∧ (p0 ≤ b.length) ∧ (Q.length = i) ∧ (E.length = i) ∧ (∀ y ∈ Q, y.l.length ≤ y.c) ∧ (Q.length ≤ cq) ∧ (E.length ≤ ce) ∧ mS = 8 - i ∧ Fr aS 165 [] [(10, vI i), (9, vS g48 9 9), (8, vI (l.length - 4 : Nat)), (7, vI p0), (6, .slice Ae E.length ce), (5, .slice Aq Q.length cq), (42, .bool false), (38, .bool false), (28, .bool false), (25, .bool false), (22, .bool false), (4, vI 0), (3, .slice none 0 0), (2, .slice none 0 0), (0, .slice (some ⟨gA, oA, none⟩) l.length c)] ∧ Mem w wS (.row (vS g48 9 9) 9 (nameL.map StrC) 9 1 :: .row (.slice Ae E.length ce) E.length (E.map I64v) 3 1 :: .row (.slice Aq Q.length cq) Q.length (Q.map Nw.val) 58 1 :: nwF 22 Q)) (m := 8 - 1) ⟨1, [Nw.zero], (some ⟨g43, 0, none⟩), 1, [3], (some ⟨g44, 0, none⟩), 1, 3, Nat.le_refl _, by decide, qti, by omega, rfl, rfl, (fun q h => by rw [List.mem_singleton] at h; subst h; exact Nat.le_refl _), Nat.le_refl _, Nat.le_refl _, rfl, M.sub (by kernel_rfl), O.pt 3 [0, 1, 2]⟩ ?_
  clear M O; rintro mS a w_ ⟨i, Q, Aq, cq, E, Ae, ce, p0, hi1, hi8, hR, ha, hql, hel, hqc, hcq, hce, rfl, M, O⟩
  refine wp_seq (s_fs1 ?_)
  refine fp M 2 0 [(50, .bool (decide ((i : Int) < (8 : Int))))] fun a M => s_d0 ?_
  rcases M.tf 50 rfl with ⟨hb50, M⟩ | ⟨hb50, M⟩
  ·
   have hd50 := of_decide_eq_true hb50
   refine s_ct M (wp_skip (wp_seq (wp_block (s_fs1 ?_))))
   refine fp M 1 0 [(11, .slice none 0 0)] fun a M => s_d0 (s_fs1 ?_)
   refine fp M 2 0 [(54, vI i), (53, vS g48 9 9)] fun a M => s_fz M O 2 rfl (v := vP g48 (i * 1)) (Yl.ix0 g48 i 1 rfl rfl rfl) fun a M => ?_
   refine s_fz M O 3 rfl (v := .string (nmR i)) (Yl.r1 0 i [] (show i < nameL.length from by have : nameL.length = 9 := rfl; omega) rfl rfl rfl) fun a M => ?_
   refine fp M 1 4 [(57, .slice Aq Q.length cq)] fun a M => fo M 5 rfl rfl (e_is M O [.string (nmR i), .slice Aq Q.length cq] (vI (wantN i (Q.map Nw.l))) rfl rfl (qt2 (by omega) Aq cq Q _ (O.rd (i := 2) rfl) (O.nwAt 3 rfl) (fun h => qz7 hR (qz8 (by omega) h))) fun w58 hbw O a M => ?_)
   refine fp M 1 6 [(12, vI (wantN i (Q.map Nw.l)))] fun a M => s_d0 (qaj (fun aS wS => Fr aS 165 [] [(12, vI (needN i (Q.map Nw.l) [])), (11, .slice none 0 0), (50, .bool true), (10, vI i), (9, vS g48 9 9), (8, vI (l.length - 4 : Nat)), (7, vI p0), (6, .slice Ae E.length ce), (5, .slice Aq Q.length cq), (42, .bool false), (38, .bool false), (28, .bool false), (25, .bool false), (22, .bool false), (4, vI 0), (3, .slice none 0 0), (2, .slice none 0 0), (0, .slice (some ⟨gA, oA, none⟩) l.length c)] ∧ Mem w wS (.row (vS g48 9 9) 9 (nameL.map StrC) 9 1 :: .row (.slice Ae E.length ce) E.length (E.map I64v) 3 1 :: .row (.slice Aq Q.length cq) Q.length (Q.map Nw.val) 58 1 :: nwF 22 Q)) ?_ ?_)
   ·
    refine s_fs1 ?_
    refine fp M 2 0 [(60, vI i), (59, vS g48 9 9)] fun a M => s_fz M O 2 rfl (v := vP g48 (i * 1)) (Yl.ix0 g48 i 1 rfl rfl rfl) fun a M => ?_
    refine s_fz M O 3 rfl (v := .string (nmR i)) (Yl.r1 0 i [] (show i < nameL.length from by have : nameL.length = 9 := rfl; omega) rfl rfl rfl) fun a M => ?_
    refine fp M 1 4 [(63, .bool (((nmR i)).toList == ((ByteArray.mk #[116, 97, 115, 107, 115])).toList))] fun a M => ?_
    replace M := M.sp 63 (.bool (decide (i = 6))) rfl (congrArg Value.bool (nm_eq (k := 6) (by omega) (by omega)))
    refine s_d0 ?_
    rcases M.tf 63 rfl with ⟨hb63, M⟩ | ⟨hb63, M⟩
    ·
     have hd63 := of_decide_eq_true hb63
     refine s_ct M (qa ?_)
     refine fp M 1 0 [(12, vI 1)] fun a M => s_d0 ?_
     have M := M.sp 12 (vI (needN i (Q.map Nw.l) [])) rfl (by rw [q19 hd63]; rfl)
     exact ⟨M.sub (by kernel_rfl), O.pt 3 [0, 1, 2]⟩
    have hd63 := of_decide_eq_false hb63
    refine s_cf M (wp_skip ?_)
    have M := M.sp 12 (vI (needN i (Q.map Nw.l) [])) rfl (by rw [qof hd63])
    exact ⟨M.sub (by kernel_rfl), O.pt 3 [0, 1, 2]⟩
   clear M O; rintro a wM63 ⟨M, O⟩
   refine wp_seq (s_fs1 ?_)
   refine fp M 1 0 [(13, vI 0)] fun a M => s_d0 ?_
   replace O := O.nil 22 1
   refine wp_block ?_
   refine qe (fun mS aS wS => ∃ (X : List Nat) (Ax : Option Addr) (cx : Nat) (p1 : Nat), (qy b X.length p0 X p1) ∧ (chkN i X) ∧ (X.length ≤ needN i (Q.map Nw.l) X) ∧ (p1 ≤ b.length) ∧ (X.length ≤ cx) ∧ mS = b.length - p1 ∧ Fr aS 165 [] [(13, vI X.length), (12, vI (needN i (Q.map Nw.l) X)), (11, .slice Ax X.length cx), (50, .bool true), (10, vI i), (9, vS g48 9 9), (8, vI (l.length - 4 : Nat)), (7, vI p1), (6, .slice Ae E.length ce), (5, .slice Aq Q.length cq), (42, .bool false), (38, .bool false), (28, .bool false), (25, .bool false), (22, .bool false), (4, vI 0), (3, .slice none 0 0), (2, .slice none 0 0), (0, .slice (some ⟨gA, oA, none⟩) l.length c)] ∧ Mem w wS (.row (.slice Ax X.length cx) X.length (X.map U64) 22 1 :: .row (vS g48 9 9) 9 (nameL.map StrC) 9 1 :: .row (.slice Ae E.length ce) E.length (E.map I64v) 3 1 :: .row (.slice Aq Q.length cq) Q.length (Q.map Nw.val) 58 1 :: nwF 22 Q)) (m := b.length - p0) ⟨[], none, 0, p0, qy.nil b p0, qz2 i, Nat.zero_le _, ha, Nat.le_refl _, rfl, M.sub (by kernel_rfl), O.pt 4 [0, 1, 2, 3]⟩ ?_
   clear M O; rintro mS a w_ ⟨X, Ax, cx, p1, hX, hcX, hnX, hp1, hXc, rfl, M, O⟩
   refine wp_seq (s_fs1 ?_)
   refine fp M 3 0 [(66, .bool (decide ((X.length : Int) < (needN i (Q.map Nw.l) X : Int))))] fun a M => s_d0 ?_
   rcases M.tf 66 rfl with ⟨hb66, M⟩ | ⟨hb66, M⟩
   ·
    have hd66 := of_decide_eq_true hb66
    refine s_ct M (wp_skip (wp_seq (wp_block (wp_seq ?_))))
    obtain ⟨x, n, er, hv⟩ : ∃ x n er, vread (b.drop p1) = (x, n, er) := ⟨_, _, _, rfl⟩
    ·
     have hlt : X.length < needN i (Q.map Nw.l) X := by omega
     refine qa ?_
     refine fp M 3 0 [(72, vI (l.length - 4 : Nat)), (71, vI p1), (70, .slice (some ⟨gA, oA, none⟩) l.length c)] fun a M => s_fz M O 3 rfl (v := .slice (if c = p1 then some ⟨gA, oA, none⟩ else (some ⟨gA, oA, none⟩ : Option Addr).map (·.add (p1 * 1))) ((l.length - 4) - p1) (c - p1)) (Yl.qiu ei_u8 (i := p1) (j := (l.length - 4)) rfl rfl rfl rfl (by omega) (by omega)) fun a M => ?_
     refine fo M 4 rfl rfl ?_
     refine e_is M O [.slice (if c = p1 then some ⟨gA, oA, none⟩ else (some ⟨gA, oA, none⟩ : Option Addr).map (·.add (p1 * 1))) ((l.length - 4) - p1) (c - p1)] (.tuple #[vQ x, vI n, vI er]) rfl rfl (qtm hv (by have h1 := (O.old hr).q01 (i := p1) (j := l.length - 4) (by omega) (by omega) hc; rw [hbd] at h1; exact h1) (fun z hz => hlb z (List.mem_of_mem_drop hz)) (by omega)) fun w74 hbw O a M => ?_
     refine fp M 7 5 [(16, vI er), (15, vI n), (14, vQ x)] fun a M => s_d0 (wp_seq (s_fs1 ?_))
     refine fp M 2 0 [(79, .bool ((er : Int) != (0 : Int)))] fun a M => s_d0 ?_
     rcases M.tf 79 rfl with ⟨hb79, M⟩ | ⟨hb79, M⟩
     ·
      have hd79 := bne_iff_ne.1 hb79
      refine s_ct M (s_fs1 ?_)
      refine fp M 3 0 [(4, vI 344), (3, .slice none 0 0), (2, .slice none 0 0)] fun a M => s_d0 (wp_ret ?_)
      exact s_rt3 rfl M rfl rfl rfl (zy _ (hop.trans (qz3 hR (by omega) hX hcX hlt (qk3 hv (by omega)))) rfl rfl O.below)
     have hd79 := bne_eq_false_iff_eq.1 hb79
     obtain rfl : er = 0 := by omega
     have hin := (NumAt.of hv).in hp1
     have hxu := (NumAt.of hv).lt hlb
     have hxl := qz1 hR hcX
     refine s_cf M (wp_skip (s_fs1 ?_))
     refine fp M 2 0 [(81, vQ x), (80, .slice Ax X.length cx)] fun a M => fo M 2 rfl rfl (s_el M O zd [(0, vQ x)] #[vQ x] fun a w82 g82 M O => ?_)
     refine fo M 3 rfl rfl (qd M O (i := 1) rfl zd rfl rfl rfl (news := [U64 x]) (O.rdBlk (i := 0) (n := 1) (size := 1) rfl rfl) (by simp [Value.oneCell', U64, B8]) (by omega) (by omega) rfl (by decide) fun a w83 A83 c83 M O hc83 => ?_)
     refine fp M 1 4 [(11, .slice A83 (X.length + 1) c83)] fun a M => s_d0 ?_
     have hnA83 : X.length + 1 = (X ++ [x]).length := qs rfl
     replace O := O.reRow (i := 1) (ys := (X ++ [x]).map U64) rfl hnA83 (by simp)
     rw [hnA83] at hc83
     replace M := M.sp 11 (.slice A83 ((X ++ [x]).length) c83) rfl (by rw [hnA83])
     replace M := M.sp 83 (.slice A83 ((X ++ [x]).length) c83) rfl (by rw [hnA83])
     refine s_fs1 ?_
     refine fp M 3 0 [(86, vI (IntKind.i64.wrap ((p1 : Int) + (n : Int))))] fun a M => ?_
     replace M := M.sp 86 (vI (p1 + n : Nat)) rfl (qc (by omega) (by omega))
     refine fp M 1 3 [(7, vI (p1 + n : Nat))] fun a M => s_d0 ?_
     rcases qwl i X.length with ⟨hi2, hk⟩ | ⟨hi2, hk⟩ | ⟨hi2, hk, hk2⟩ | ⟨hi6, hk⟩ | ⟨hi6, hk⟩ | ⟨hi2, hi6⟩
     ·
      refine wp_seq ?_
      refine zk O (.blk g82 #[vQ x] 22 :: .row (.slice A83 ((X ++ [x]).length) c83) ((X ++ [x]).length) ((X ++ [x]).map U64) 22 1 :: .row (vS g48 9 9) 9 (nameL.map StrC) 9 1 :: .row (.slice Ae E.length ce) E.length (E.map I64v) 3 1 :: .row (.slice Aq Q.length cq) Q.length (Q.map Nw.val) 58 1 :: nwF 22 Q) 5 [0, 1, 2, 3, 4] [] fun O Z => ?_
      refine ap M (fun _ => Z) [0, 1, 9, 10, 18, 19] (bf 30 [0, 1, 9, 10, 18, 19]) [(106, vI i), (105, vS g48 9 9), (97, vI i), (96, vS g48 9 9), (88, vI i), (87, vS g48 9 9)] fun a M => ?_
      refine s_az M Z 2 rfl (v := vP g48 (i * 1)) (Yl.ix0 g48 i 1 rfl rfl rfl) fun a M => ?_
      refine s_az M Z 3 rfl (v := .string (nmR i)) (Yl.r1 2 i [] (show i < nameL.length from by have : nameL.length = 9 := rfl; omega) rfl rfl rfl) fun a M => ?_
      refine qg M (fun _ => Z) (i := 4) rfl rfl (d := 91) rfl (by decide) (by kernel_rfl) (fun _ _ _ h => h) (v := .bool (((nmR i)).toList == ((ByteArray.mk #[99, 111, 110, 102, 105, 103])).toList)) (fun _ => Yl.pure (by kernel_rfl)) fun a M => ?_
      replace M := M.sp 91 (.bool true) rfl (congrArg Value.bool ((nm_eq (k := 2) (by omega) (by omega)).trans (decide_eq_true (show i = 2 from by omega))))
      refine ap M (fun _ => Z) [5, 6] (bf 30 [0, 1, 2, 3, 4, 5, 6, 9, 10, 18, 19]) [(93, vI X.length), (92, .bool true)] fun a M => ?_
      refine qg M (fun _ => Z) (i := 7) rfl rfl (d := 94) rfl (by decide) (by kernel_rfl) (fun _ _ _ h => h) (v := .bool ((X.length : Int) == (0 : Int))) (fun _ => Yl.pure (by kernel_rfl)) fun a M => ?_
      replace M := M.sp 94 (.bool true) rfl (by rw [hk]; rfl)
      refine ap M (fun _ => Z) [8] (bf 30 [0, 1, 2, 3, 4, 5, 6, 7, 8, 9, 10, 18, 19]) [(95, .bool true)] fun a M => ?_
      refine s_az M Z 11 rfl (v := vP g48 (i * 1)) (Yl.ix0 g48 i 1 rfl rfl rfl) fun a M => ?_
      refine s_az M Z 12 rfl (v := .string (nmR i)) (Yl.r1 2 i [] (show i < nameL.length from by have : nameL.length = 9 := rfl; omega) rfl rfl rfl) fun a M => ?_
      refine qg M (fun _ => Z) (i := 13) rfl rfl (d := 100) rfl (by decide) (by kernel_rfl) (fun _ _ _ h => h) (v := .bool (((nmR i)).toList == ((ByteArray.mk #[99, 111, 110, 102, 105, 103])).toList)) (fun _ => Yl.pure (by kernel_rfl)) fun a M => ?_
      replace M := M.sp 100 (.bool true) rfl (congrArg Value.bool ((nm_eq (k := 2) (by omega) (by omega)).trans (decide_eq_true (show i = 2 from by omega))))
      refine ap M (fun _ => Z) [14, 15] (bt 30 [16, 17, 20, 21, 22, 23, 24, 25, 26, 27, 28, 29]) [(102, vI X.length), (101, .bool true)] fun a M => ?_
      refine qg M (fun _ => Z) (i := 16) rfl rfl (d := 103) rfl (by decide) (by kernel_rfl) (fun _ _ _ h => h) (v := .bool ((X.length : Int) == (2 : Int))) (fun _ => Yl.pure (by kernel_rfl)) fun a M => ?_
      replace M := M.sp 103 (.bool false) rfl (by rw [beq_eq_false_iff_ne.2 (by omega)])
      refine ap M (fun _ => Z) [17] (bt 30 [20, 21, 22, 23, 24, 25, 26, 27, 28, 29]) [(104, .bool false)] fun a M => ?_
      refine s_az M Z 20 rfl (v := vP g48 (i * 1)) (Yl.ix0 g48 i 1 rfl rfl rfl) fun a M => ?_
      refine s_az M Z 21 rfl (v := .string (nmR i)) (Yl.r1 2 i [] (show i < nameL.length from by have : nameL.length = 9 := rfl; omega) rfl rfl rfl) fun a M => ?_
      refine qg M (fun _ => Z) (i := 22) rfl rfl (d := 109) rfl (by decide) (by kernel_rfl) (fun _ _ _ h => h) (v := .bool (((nmR i)).toList == ((ByteArray.mk #[116, 97, 115, 107, 115])).toList)) (fun _ => Yl.pure (by kernel_rfl)) fun a M => ?_
      replace M := M.sp 109 (.bool false) rfl (congrArg Value.bool ((nm_eq (k := 6) (by omega) (by omega)).trans (decide_eq_false (show ¬ i = 6 from by omega))))
      refine ap M (fun _ => Z) [23, 24, 25, 26, 27, 28, 29] (bt 30 []) [(19, .bool false), (18, .bool false), (17, .bool true)] fun a M => ?_
      refine qh (by kernel_rfl) ?_
      replace M := M.to [(19, .bool false), (18, .bool false), (17, .bool true), (7, vI (p1 + n : Nat)), (83, .slice A83 ((X ++ [x]).length) c83), (11, .slice A83 ((X ++ [x]).length) c83), (79, .bool false), (16, vI 0), (15, vI n), (14, vQ x), (66, .bool true), (13, vI X.length), (12, vI (needN i (Q.map Nw.l) X)), (50, .bool true), (10, vI i), (9, vS g48 9 9), (8, vI (l.length - 4 : Nat)), (6, .slice Ae E.length ce), (5, .slice Aq Q.length cq), (42, .bool false), (38, .bool false), (28, .bool false), (25, .bool false), (22, .bool false), (4, vI 0), (3, .slice none 0 0), (2, .slice none 0 0), (0, .slice (some ⟨gA, oA, none⟩) l.length c)]
      refine wp_seq (s_fs1 ?_)
      refine fp M 5 0 [(118, .bool (decide ((x : Int) < (1 : Int)))), (115, .bool true)] fun a M => ?_
      rcases M.tf 118 rfl with ⟨hb118, M⟩ | ⟨hb118, M⟩
      ·
       have hd118 := of_decide_eq_true hb118
       refine fp M 22 5 [(140, .bool true)] fun a M => s_d0 (s_ct M (s_fs1 ?_))
       refine fp M 3 0 [(4, vI 345), (3, .slice none 0 0), (2, .slice none 0 0)] fun a M => s_d0 (wp_ret ?_)
       exact s_rt3 rfl M rfl rfl rfl (zy _ (hop.trans (qek hR hX hcX hlt (.of hv) (fun h => by have := (qaw hcX (fun h => qax h hlt)).1 h; omega))) rfl rfl O.below)
      have hd118 := of_decide_eq_false hb118
      refine fp M 5 5 [(123, .bool (decide ((x : Int) > (64 : Int))))] fun a M => ?_
      rcases M.tf 123 rfl with ⟨hb123, M⟩ | ⟨hb123, M⟩
      ·
       have hd123 := of_decide_eq_true hb123
       refine fp M 17 10 [(140, .bool true)] fun a M => s_d0 (s_ct M (s_fs1 ?_))
       refine fp M 3 0 [(4, vI 345), (3, .slice none 0 0), (2, .slice none 0 0)] fun a M => s_d0 (wp_ret ?_)
       exact s_rt3 rfl M rfl rfl rfl (zy _ (hop.trans (qek hR hX hcX hlt (.of hv) (fun h => by have := (qaw hcX (fun h => qax h hlt)).1 h; omega))) rfl rfl O.below)
      have hd123 := of_decide_eq_false hb123
      refine fp M 17 10 [(140, .bool false)] fun a M => s_d0 (s_cf M (wp_skip (wp_seq ?_)))
      skip
      ·
       have hcs := qaw (x := x) hcX (fun h => qax h hlt)
       have hc2 : chkN i (X ++ [x]) := hcs.2 (by omega)
       refine qa ?_
       refine fp M 1 0 [(141, .bool false)] fun a M => s_d0 (s_cf M (wp_skip (qa ?_)))
       refine fp M 2 0 [(68, vI (IntKind.i64.wrap ((X.length : Int) + 1)))] fun a M => ?_
       replace M := M.sp 68 (vI (X.length + 1 : Nat)) rfl (qc (by omega) (by omega))
       refine fp M 1 2 [(13, vI (X.length + 1 : Nat))] fun a M => s_d0 ?_
       replace M := M.sp 12 (vI (needN i (Q.map Nw.l) (X ++ [x]))) rfl (by rw [qc2 (by omega)])
       replace M := M.sp 13 (vI ((X ++ [x]).length)) rfl (by rw [List.length_append]; rfl)
       exact ⟨_, (by omega), (X ++ [x]), A83, c83, p1 + n, by rw [List.length_append]; exact hX.snoc (.of hv), hc2, qb7 hlt, hin.2, hc83, rfl, M.sub (by kernel_rfl), O.pt 5 [1, 2, 3, 4]⟩
     ·
      refine wp_seq ?_
      refine zk O (.blk g82 #[vQ x] 22 :: .row (.slice A83 ((X ++ [x]).length) c83) ((X ++ [x]).length) ((X ++ [x]).map U64) 22 1 :: .row (vS g48 9 9) 9 (nameL.map StrC) 9 1 :: .row (.slice Ae E.length ce) E.length (E.map I64v) 3 1 :: .row (.slice Aq Q.length cq) Q.length (Q.map Nw.val) 58 1 :: nwF 22 Q) 5 [0, 1, 2, 3, 4] [] fun O Z => ?_
      refine ap M (fun _ => Z) [0, 1, 9, 10, 18, 19] (bf 30 [0, 1, 9, 10, 18, 19]) [(106, vI i), (105, vS g48 9 9), (97, vI i), (96, vS g48 9 9), (88, vI i), (87, vS g48 9 9)] fun a M => ?_
      refine s_az M Z 2 rfl (v := vP g48 (i * 1)) (Yl.ix0 g48 i 1 rfl rfl rfl) fun a M => ?_
      refine s_az M Z 3 rfl (v := .string (nmR i)) (Yl.r1 2 i [] (show i < nameL.length from by have : nameL.length = 9 := rfl; omega) rfl rfl rfl) fun a M => ?_
      refine qg M (fun _ => Z) (i := 4) rfl rfl (d := 91) rfl (by decide) (by kernel_rfl) (fun _ _ _ h => h) (v := .bool (((nmR i)).toList == ((ByteArray.mk #[99, 111, 110, 102, 105, 103])).toList)) (fun _ => Yl.pure (by kernel_rfl)) fun a M => ?_
      replace M := M.sp 91 (.bool true) rfl (congrArg Value.bool ((nm_eq (k := 2) (by omega) (by omega)).trans (decide_eq_true (show i = 2 from by omega))))
      refine ap M (fun _ => Z) [5, 6] (bf 30 [0, 1, 2, 3, 4, 5, 6, 9, 10, 18, 19]) [(93, vI X.length), (92, .bool true)] fun a M => ?_
      refine qg M (fun _ => Z) (i := 7) rfl rfl (d := 94) rfl (by decide) (by kernel_rfl) (fun _ _ _ h => h) (v := .bool ((X.length : Int) == (0 : Int))) (fun _ => Yl.pure (by kernel_rfl)) fun a M => ?_
      replace M := M.sp 94 (.bool false) rfl (by rw [beq_eq_false_iff_ne.2 (by omega)])
      refine ap M (fun _ => Z) [8] (bf 30 [0, 1, 2, 3, 4, 5, 6, 7, 8, 9, 10, 18, 19]) [(95, .bool false)] fun a M => ?_
      refine s_az M Z 11 rfl (v := vP g48 (i * 1)) (Yl.ix0 g48 i 1 rfl rfl rfl) fun a M => ?_
      refine s_az M Z 12 rfl (v := .string (nmR i)) (Yl.r1 2 i [] (show i < nameL.length from by have : nameL.length = 9 := rfl; omega) rfl rfl rfl) fun a M => ?_
      refine qg M (fun _ => Z) (i := 13) rfl rfl (d := 100) rfl (by decide) (by kernel_rfl) (fun _ _ _ h => h) (v := .bool (((nmR i)).toList == ((ByteArray.mk #[99, 111, 110, 102, 105, 103])).toList)) (fun _ => Yl.pure (by kernel_rfl)) fun a M => ?_
      replace M := M.sp 100 (.bool true) rfl (congrArg Value.bool ((nm_eq (k := 2) (by omega) (by omega)).trans (decide_eq_true (show i = 2 from by omega))))
      refine ap M (fun _ => Z) [14, 15] (bt 30 [16, 17, 20, 21, 22, 23, 24, 25, 26, 27, 28, 29]) [(102, vI X.length), (101, .bool true)] fun a M => ?_
      refine qg M (fun _ => Z) (i := 16) rfl rfl (d := 103) rfl (by decide) (by kernel_rfl) (fun _ _ _ h => h) (v := .bool ((X.length : Int) == (2 : Int))) (fun _ => Yl.pure (by kernel_rfl)) fun a M => ?_
      replace M := M.sp 103 (.bool true) rfl (by rw [hk]; rfl)
      refine ap M (fun _ => Z) [17] (bt 30 [20, 21, 22, 23, 24, 25, 26, 27, 28, 29]) [(104, .bool true)] fun a M => ?_
      refine s_az M Z 20 rfl (v := vP g48 (i * 1)) (Yl.ix0 g48 i 1 rfl rfl rfl) fun a M => ?_
      refine s_az M Z 21 rfl (v := .string (nmR i)) (Yl.r1 2 i [] (show i < nameL.length from by have : nameL.length = 9 := rfl; omega) rfl rfl rfl) fun a M => ?_
      refine qg M (fun _ => Z) (i := 22) rfl rfl (d := 109) rfl (by decide) (by kernel_rfl) (fun _ _ _ h => h) (v := .bool (((nmR i)).toList == ((ByteArray.mk #[116, 97, 115, 107, 115])).toList)) (fun _ => Yl.pure (by kernel_rfl)) fun a M => ?_
      replace M := M.sp 109 (.bool false) rfl (congrArg Value.bool ((nm_eq (k := 6) (by omega) (by omega)).trans (decide_eq_false (show ¬ i = 6 from by omega))))
      refine ap M (fun _ => Z) [23, 24, 25, 26, 27, 28, 29] (bt 30 []) [(19, .bool false), (18, .bool true), (17, .bool false)] fun a M => ?_
      refine qh (by kernel_rfl) ?_
      replace M := M.to [(19, .bool false), (18, .bool true), (17, .bool false), (7, vI (p1 + n : Nat)), (83, .slice A83 ((X ++ [x]).length) c83), (11, .slice A83 ((X ++ [x]).length) c83), (79, .bool false), (16, vI 0), (15, vI n), (14, vQ x), (66, .bool true), (13, vI X.length), (12, vI (needN i (Q.map Nw.l) X)), (50, .bool true), (10, vI i), (9, vS g48 9 9), (8, vI (l.length - 4 : Nat)), (6, .slice Ae E.length ce), (5, .slice Aq Q.length cq), (42, .bool false), (38, .bool false), (28, .bool false), (25, .bool false), (22, .bool false), (4, vI 0), (3, .slice none 0 0), (2, .slice none 0 0), (0, .slice (some ⟨gA, oA, none⟩) l.length c)]
      refine wp_seq (s_fs1 ?_)
      refine fp M 15 0 [(128, .bool (decide ((x : Int) < (1 : Int)))), (125, .bool true), (123, .bool false)] fun a M => ?_
      rcases M.tf 128 rfl with ⟨hb128, M⟩ | ⟨hb128, M⟩
      ·
       have hd128 := of_decide_eq_true hb128
       refine fp M 12 15 [(140, .bool true)] fun a M => s_d0 (s_ct M (s_fs1 ?_))
       refine fp M 3 0 [(4, vI 345), (3, .slice none 0 0), (2, .slice none 0 0)] fun a M => s_d0 (wp_ret ?_)
       exact s_rt3 rfl M rfl rfl rfl (zy _ (hop.trans (qek hR hX hcX hlt (.of hv) (fun h => by have := (qaw hcX (fun h => qax h hlt)).1 h; omega))) rfl rfl O.below)
      have hd128 := of_decide_eq_false hb128
      refine fp M 6 15 [(134, .bool (decide ((x : Int) > (256 : Int))))] fun a M => ?_
      rcases M.tf 134 rfl with ⟨hb134, M⟩ | ⟨hb134, M⟩
      ·
       have hd134 := of_decide_eq_true hb134
       refine fp M 6 21 [(140, .bool true)] fun a M => s_d0 (s_ct M (s_fs1 ?_))
       refine fp M 3 0 [(4, vI 345), (3, .slice none 0 0), (2, .slice none 0 0)] fun a M => s_d0 (wp_ret ?_)
       exact s_rt3 rfl M rfl rfl rfl (zy _ (hop.trans (qek hR hX hcX hlt (.of hv) (fun h => by have := (qaw hcX (fun h => qax h hlt)).1 h; omega))) rfl rfl O.below)
      have hd134 := of_decide_eq_false hb134
      refine fp M 6 21 [(140, .bool false)] fun a M => s_d0 (s_cf M (wp_skip (wp_seq ?_)))
      skip
      ·
       have hcs := qaw (x := x) hcX (fun h => qax h hlt)
       have hc2 : chkN i (X ++ [x]) := hcs.2 (by omega)
       refine qa ?_
       refine fp M 1 0 [(141, .bool false)] fun a M => s_d0 (s_cf M (wp_skip (qa ?_)))
       refine fp M 2 0 [(68, vI (IntKind.i64.wrap ((X.length : Int) + 1)))] fun a M => ?_
       replace M := M.sp 68 (vI (X.length + 1 : Nat)) rfl (qc (by omega) (by omega))
       refine fp M 1 2 [(13, vI (X.length + 1 : Nat))] fun a M => s_d0 ?_
       replace M := M.sp 12 (vI (needN i (Q.map Nw.l) (X ++ [x]))) rfl (by rw [qc2 (by omega)])
       replace M := M.sp 13 (vI ((X ++ [x]).length)) rfl (by rw [List.length_append]; rfl)
       exact ⟨_, (by omega), (X ++ [x]), A83, c83, p1 + n, by rw [List.length_append]; exact hX.snoc (.of hv), hc2, qb7 hlt, hin.2, hc83, rfl, M.sub (by kernel_rfl), O.pt 5 [1, 2, 3, 4]⟩
     ·
      refine wp_seq ?_
      refine zk O (.blk g82 #[vQ x] 22 :: .row (.slice A83 ((X ++ [x]).length) c83) ((X ++ [x]).length) ((X ++ [x]).map U64) 22 1 :: .row (vS g48 9 9) 9 (nameL.map StrC) 9 1 :: .row (.slice Ae E.length ce) E.length (E.map I64v) 3 1 :: .row (.slice Aq Q.length cq) Q.length (Q.map Nw.val) 58 1 :: nwF 22 Q) 5 [0, 1, 2, 3, 4] [] fun O Z => ?_
      refine ap M (fun _ => Z) [0, 1, 9, 10, 18, 19] (bf 30 [0, 1, 9, 10, 18, 19]) [(106, vI i), (105, vS g48 9 9), (97, vI i), (96, vS g48 9 9), (88, vI i), (87, vS g48 9 9)] fun a M => ?_
      refine s_az M Z 2 rfl (v := vP g48 (i * 1)) (Yl.ix0 g48 i 1 rfl rfl rfl) fun a M => ?_
      refine s_az M Z 3 rfl (v := .string (nmR i)) (Yl.r1 2 i [] (show i < nameL.length from by have : nameL.length = 9 := rfl; omega) rfl rfl rfl) fun a M => ?_
      refine qg M (fun _ => Z) (i := 4) rfl rfl (d := 91) rfl (by decide) (by kernel_rfl) (fun _ _ _ h => h) (v := .bool (((nmR i)).toList == ((ByteArray.mk #[99, 111, 110, 102, 105, 103])).toList)) (fun _ => Yl.pure (by kernel_rfl)) fun a M => ?_
      replace M := M.sp 91 (.bool true) rfl (congrArg Value.bool ((nm_eq (k := 2) (by omega) (by omega)).trans (decide_eq_true (show i = 2 from by omega))))
      refine ap M (fun _ => Z) [5, 6] (bf 30 [0, 1, 2, 3, 4, 5, 6, 9, 10, 18, 19]) [(93, vI X.length), (92, .bool true)] fun a M => ?_
      refine qg M (fun _ => Z) (i := 7) rfl rfl (d := 94) rfl (by decide) (by kernel_rfl) (fun _ _ _ h => h) (v := .bool ((X.length : Int) == (0 : Int))) (fun _ => Yl.pure (by kernel_rfl)) fun a M => ?_
      replace M := M.sp 94 (.bool false) rfl (by rw [beq_eq_false_iff_ne.2 (by omega)])
      refine ap M (fun _ => Z) [8] (bf 30 [0, 1, 2, 3, 4, 5, 6, 7, 8, 9, 10, 18, 19]) [(95, .bool false)] fun a M => ?_
      refine s_az M Z 11 rfl (v := vP g48 (i * 1)) (Yl.ix0 g48 i 1 rfl rfl rfl) fun a M => ?_
      refine s_az M Z 12 rfl (v := .string (nmR i)) (Yl.r1 2 i [] (show i < nameL.length from by have : nameL.length = 9 := rfl; omega) rfl rfl rfl) fun a M => ?_
      refine qg M (fun _ => Z) (i := 13) rfl rfl (d := 100) rfl (by decide) (by kernel_rfl) (fun _ _ _ h => h) (v := .bool (((nmR i)).toList == ((ByteArray.mk #[99, 111, 110, 102, 105, 103])).toList)) (fun _ => Yl.pure (by kernel_rfl)) fun a M => ?_
      replace M := M.sp 100 (.bool true) rfl (congrArg Value.bool ((nm_eq (k := 2) (by omega) (by omega)).trans (decide_eq_true (show i = 2 from by omega))))
      refine ap M (fun _ => Z) [14, 15] (bt 30 [16, 17, 20, 21, 22, 23, 24, 25, 26, 27, 28, 29]) [(102, vI X.length), (101, .bool true)] fun a M => ?_
      refine qg M (fun _ => Z) (i := 16) rfl rfl (d := 103) rfl (by decide) (by kernel_rfl) (fun _ _ _ h => h) (v := .bool ((X.length : Int) == (2 : Int))) (fun _ => Yl.pure (by kernel_rfl)) fun a M => ?_
      replace M := M.sp 103 (.bool false) rfl (by rw [beq_eq_false_iff_ne.2 (by omega)])
      refine ap M (fun _ => Z) [17] (bt 30 [20, 21, 22, 23, 24, 25, 26, 27, 28, 29]) [(104, .bool false)] fun a M => ?_
      refine s_az M Z 20 rfl (v := vP g48 (i * 1)) (Yl.ix0 g48 i 1 rfl rfl rfl) fun a M => ?_
      refine s_az M Z 21 rfl (v := .string (nmR i)) (Yl.r1 2 i [] (show i < nameL.length from by have : nameL.length = 9 := rfl; omega) rfl rfl rfl) fun a M => ?_
      refine qg M (fun _ => Z) (i := 22) rfl rfl (d := 109) rfl (by decide) (by kernel_rfl) (fun _ _ _ h => h) (v := .bool (((nmR i)).toList == ((ByteArray.mk #[116, 97, 115, 107, 115])).toList)) (fun _ => Yl.pure (by kernel_rfl)) fun a M => ?_
      replace M := M.sp 109 (.bool false) rfl (congrArg Value.bool ((nm_eq (k := 6) (by omega) (by omega)).trans (decide_eq_false (show ¬ i = 6 from by omega))))
      refine ap M (fun _ => Z) [23, 24, 25, 26, 27, 28, 29] (bt 30 []) [(19, .bool false), (18, .bool false), (17, .bool false)] fun a M => ?_
      refine qh (by kernel_rfl) ?_
      replace M := M.to [(19, .bool false), (18, .bool false), (17, .bool false), (7, vI (p1 + n : Nat)), (83, .slice A83 ((X ++ [x]).length) c83), (11, .slice A83 ((X ++ [x]).length) c83), (79, .bool false), (16, vI 0), (15, vI n), (14, vQ x), (66, .bool true), (13, vI X.length), (12, vI (needN i (Q.map Nw.l) X)), (50, .bool true), (10, vI i), (9, vS g48 9 9), (8, vI (l.length - 4 : Nat)), (6, .slice Ae E.length ce), (5, .slice Aq Q.length cq), (42, .bool false), (38, .bool false), (28, .bool false), (25, .bool false), (22, .bool false), (4, vI 0), (3, .slice none 0 0), (2, .slice none 0 0), (0, .slice (some ⟨gA, oA, none⟩) l.length c)]
      refine wp_seq (s_fs1 ?_)
      refine fp M 27 0 [(140, .bool false)] fun a M => s_d0 (s_cf M (wp_skip (wp_seq ?_)))
      skip
      ·
       have hcs := qaw (x := x) hcX (fun h => qax h hlt)
       have hc2 : chkN i (X ++ [x]) := hcs.2 (by omega)
       refine qa ?_
       refine fp M 1 0 [(141, .bool false)] fun a M => s_d0 (s_cf M (wp_skip (qa ?_)))
       refine fp M 2 0 [(68, vI (IntKind.i64.wrap ((X.length : Int) + 1)))] fun a M => ?_
       replace M := M.sp 68 (vI (X.length + 1 : Nat)) rfl (qc (by omega) (by omega))
       refine fp M 1 2 [(13, vI (X.length + 1 : Nat))] fun a M => s_d0 ?_
       replace M := M.sp 12 (vI (needN i (Q.map Nw.l) (X ++ [x]))) rfl (by rw [qc2 (by omega)])
       replace M := M.sp 13 (vI ((X ++ [x]).length)) rfl (by rw [List.length_append]; rfl)
       exact ⟨_, (by omega), (X ++ [x]), A83, c83, p1 + n, by rw [List.length_append]; exact hX.snoc (.of hv), hc2, qb7 hlt, hin.2, hc83, rfl, M.sub (by kernel_rfl), O.pt 5 [1, 2, 3, 4]⟩
     ·
      refine wp_seq ?_
      refine zk O (.blk g82 #[vQ x] 22 :: .row (.slice A83 ((X ++ [x]).length) c83) ((X ++ [x]).length) ((X ++ [x]).map U64) 22 1 :: .row (vS g48 9 9) 9 (nameL.map StrC) 9 1 :: .row (.slice Ae E.length ce) E.length (E.map I64v) 3 1 :: .row (.slice Aq Q.length cq) Q.length (Q.map Nw.val) 58 1 :: nwF 22 Q) 5 [0, 1, 2, 3, 4] [] fun O Z => ?_
      refine ap M (fun _ => Z) [0, 1, 9, 10, 18, 19] (bf 30 [0, 1, 9, 10, 18, 19]) [(106, vI i), (105, vS g48 9 9), (97, vI i), (96, vS g48 9 9), (88, vI i), (87, vS g48 9 9)] fun a M => ?_
      refine s_az M Z 2 rfl (v := vP g48 (i * 1)) (Yl.ix0 g48 i 1 rfl rfl rfl) fun a M => ?_
      refine s_az M Z 3 rfl (v := .string (nmR i)) (Yl.r1 2 i [] (show i < nameL.length from by have : nameL.length = 9 := rfl; omega) rfl rfl rfl) fun a M => ?_
      refine qg M (fun _ => Z) (i := 4) rfl rfl (d := 91) rfl (by decide) (by kernel_rfl) (fun _ _ _ h => h) (v := .bool (((nmR i)).toList == ((ByteArray.mk #[99, 111, 110, 102, 105, 103])).toList)) (fun _ => Yl.pure (by kernel_rfl)) fun a M => ?_
      replace M := M.sp 91 (.bool false) rfl (congrArg Value.bool ((nm_eq (k := 2) (by omega) (by omega)).trans (decide_eq_false (show ¬ i = 2 from by omega))))
      refine ap M (fun _ => Z) [5, 6, 7, 8] (bf 30 [0, 1, 2, 3, 4, 5, 6, 7, 8, 9, 10, 18, 19]) [(95, .bool false)] fun a M => ?_
      refine s_az M Z 11 rfl (v := vP g48 (i * 1)) (Yl.ix0 g48 i 1 rfl rfl rfl) fun a M => ?_
      refine s_az M Z 12 rfl (v := .string (nmR i)) (Yl.r1 2 i [] (show i < nameL.length from by have : nameL.length = 9 := rfl; omega) rfl rfl rfl) fun a M => ?_
      refine qg M (fun _ => Z) (i := 13) rfl rfl (d := 100) rfl (by decide) (by kernel_rfl) (fun _ _ _ h => h) (v := .bool (((nmR i)).toList == ((ByteArray.mk #[99, 111, 110, 102, 105, 103])).toList)) (fun _ => Yl.pure (by kernel_rfl)) fun a M => ?_
      replace M := M.sp 100 (.bool false) rfl (congrArg Value.bool ((nm_eq (k := 2) (by omega) (by omega)).trans (decide_eq_false (show ¬ i = 2 from by omega))))
      refine ap M (fun _ => Z) [14, 15, 16, 17] (bt 30 [20, 21, 22, 23, 24, 25, 26, 27, 28, 29]) [(104, .bool false)] fun a M => ?_
      refine s_az M Z 20 rfl (v := vP g48 (i * 1)) (Yl.ix0 g48 i 1 rfl rfl rfl) fun a M => ?_
      refine s_az M Z 21 rfl (v := .string (nmR i)) (Yl.r1 2 i [] (show i < nameL.length from by have : nameL.length = 9 := rfl; omega) rfl rfl rfl) fun a M => ?_
      refine qg M (fun _ => Z) (i := 22) rfl rfl (d := 109) rfl (by decide) (by kernel_rfl) (fun _ _ _ h => h) (v := .bool (((nmR i)).toList == ((ByteArray.mk #[116, 97, 115, 107, 115])).toList)) (fun _ => Yl.pure (by kernel_rfl)) fun a M => ?_
      replace M := M.sp 109 (.bool true) rfl (congrArg Value.bool ((nm_eq (k := 6) (by omega) (by omega)).trans (decide_eq_true (show i = 6 from by omega))))
      refine ap M (fun _ => Z) [23, 24, 27, 28] (bt 30 [25, 26, 29]) [(18, .bool false), (17, .bool false), (111, vI X.length), (110, .bool true)] fun a M => ?_
      refine qg M (fun _ => Z) (i := 25) rfl rfl (d := 112) rfl (by decide) (by kernel_rfl) (fun _ _ _ h => h) (v := .bool ((X.length : Int) == (0 : Int))) (fun _ => Yl.pure (by kernel_rfl)) fun a M => ?_
      replace M := M.sp 112 (.bool true) rfl (by rw [hk]; rfl)
      refine ap M (fun _ => Z) [26, 29] (bt 30 []) [(19, .bool true)] fun a M => ?_
      refine qh (by kernel_rfl) ?_
      refine wp_seq (s_fs1 ?_)
      refine fp M 27 0 [(140, .bool (decide ((x : Int) > (65535 : Int))))] fun a M => s_d0 ?_
      rcases M.tf 140 rfl with ⟨hb140, M⟩ | ⟨hb140, M⟩
      ·
       have hd140 := of_decide_eq_true hb140
       refine s_ct M (s_fs1 ?_)
       refine fp M 3 0 [(4, vI 345), (3, .slice none 0 0), (2, .slice none 0 0)] fun a M => s_d0 ?_
       replace M := M.to [(4, vI 345), (3, .slice none 0 0), (2, .slice none 0 0), (140, .bool true), (19, .bool true), (18, .bool false), (17, .bool false), (7, vI (p1 + n : Nat)), (83, .slice A83 ((X ++ [x]).length) c83), (11, .slice A83 ((X ++ [x]).length) c83), (79, .bool false), (16, vI 0), (15, vI n), (14, vQ x), (66, .bool true), (13, vI X.length), (12, vI (needN i (Q.map Nw.l) X)), (50, .bool true), (10, vI i), (9, vS g48 9 9), (8, vI (l.length - 4 : Nat)), (6, .slice Ae E.length ce), (5, .slice Aq Q.length cq), (42, .bool false), (38, .bool false), (28, .bool false), (25, .bool false), (22, .bool false), (0, .slice (some ⟨gA, oA, none⟩) l.length c)]
       refine wp_ret ?_
       exact s_rt3 rfl M rfl rfl rfl (zy _ (hop.trans (qek hR hX hcX hlt (.of hv) (fun h => by have := (qaw hcX (fun h => qax h hlt)).1 h; omega))) rfl rfl O.below)
      have hd140 := of_decide_eq_false hb140
      refine s_cf M (wp_skip (wp_seq ?_))
      skip
      ·
       have hcs := qaw (x := x) hcX (fun h => qax h hlt)
       have hc2 : chkN i (X ++ [x]) := hcs.2 (by omega)
       refine qa ?_
       refine fp M 1 0 [(141, .bool true)] fun a M => s_d0 ?_
       replace M := M.to [(141, .bool true), (140, .bool false), (19, .bool true), (18, .bool false), (17, .bool false), (7, vI (p1 + n : Nat)), (83, .slice A83 ((X ++ [x]).length) c83), (11, .slice A83 ((X ++ [x]).length) c83), (79, .bool false), (16, vI 0), (15, vI n), (14, vQ x), (66, .bool true), (13, vI X.length), (12, vI (needN i (Q.map Nw.l) X)), (50, .bool true), (10, vI i), (9, vS g48 9 9), (8, vI (l.length - 4 : Nat)), (6, .slice Ae E.length ce), (5, .slice Aq Q.length cq), (42, .bool false), (38, .bool false), (28, .bool false), (25, .bool false), (22, .bool false), (4, vI 0), (3, .slice none 0 0), (2, .slice none 0 0), (0, .slice (some ⟨gA, oA, none⟩) l.length c)]
       refine s_ct M (qa ?_)
       refine fp M 2 0 [(143, vI (IntKind.i64.wrap (x : Int)))] fun a M => ?_
       replace M := M.sp 143 (vI x) rfl (qc rfl (by omega))
       refine fp M 1 2 [(144, vI (IntKind.i64.wrap (8 * (x : Int))))] fun a M => ?_
       replace M := M.sp 144 (vI (8 * x : Nat)) rfl (qc (by omega) (by omega))
       refine fp M 1 3 [(145, vI (IntKind.i64.wrap (1 + ((8 * x : Nat) : Int))))] fun a M => ?_
       replace M := M.sp 145 (vI (1 + (8 * x) : Nat)) rfl (qc (by omega) (by omega))
       refine fp M 1 4 [(12, vI (1 + (8 * x) : Nat))] fun a M => s_d0 (qa ?_)
       refine fp M 2 0 [(68, vI (IntKind.i64.wrap ((X.length : Int) + 1)))] fun a M => ?_
       replace M := M.sp 68 (vI (X.length + 1 : Nat)) rfl (qc (by omega) (by omega))
       refine fp M 1 2 [(13, vI (X.length + 1 : Nat))] fun a M => s_d0 ?_
       replace M := M.sp 12 (vI (needN i (Q.map Nw.l) (X ++ [x]))) rfl (by rw [qpv hi6 hk])
       replace M := M.sp 13 (vI ((X ++ [x]).length)) rfl (by rw [List.length_append]; rfl)
       exact ⟨_, (by omega), (X ++ [x]), A83, c83, p1 + n, by rw [List.length_append]; exact hX.snoc (.of hv), hc2, qb7 hlt, hin.2, hc83, rfl, M.sub (by kernel_rfl), O.pt 5 [1, 2, 3, 4]⟩
     ·
      refine wp_seq ?_
      refine zk O (.blk g82 #[vQ x] 22 :: .row (.slice A83 ((X ++ [x]).length) c83) ((X ++ [x]).length) ((X ++ [x]).map U64) 22 1 :: .row (vS g48 9 9) 9 (nameL.map StrC) 9 1 :: .row (.slice Ae E.length ce) E.length (E.map I64v) 3 1 :: .row (.slice Aq Q.length cq) Q.length (Q.map Nw.val) 58 1 :: nwF 22 Q) 5 [0, 1, 2, 3, 4] [] fun O Z => ?_
      refine ap M (fun _ => Z) [0, 1, 9, 10, 18, 19] (bf 30 [0, 1, 9, 10, 18, 19]) [(106, vI i), (105, vS g48 9 9), (97, vI i), (96, vS g48 9 9), (88, vI i), (87, vS g48 9 9)] fun a M => ?_
      refine s_az M Z 2 rfl (v := vP g48 (i * 1)) (Yl.ix0 g48 i 1 rfl rfl rfl) fun a M => ?_
      refine s_az M Z 3 rfl (v := .string (nmR i)) (Yl.r1 2 i [] (show i < nameL.length from by have : nameL.length = 9 := rfl; omega) rfl rfl rfl) fun a M => ?_
      refine qg M (fun _ => Z) (i := 4) rfl rfl (d := 91) rfl (by decide) (by kernel_rfl) (fun _ _ _ h => h) (v := .bool (((nmR i)).toList == ((ByteArray.mk #[99, 111, 110, 102, 105, 103])).toList)) (fun _ => Yl.pure (by kernel_rfl)) fun a M => ?_
      replace M := M.sp 91 (.bool false) rfl (congrArg Value.bool ((nm_eq (k := 2) (by omega) (by omega)).trans (decide_eq_false (show ¬ i = 2 from by omega))))
      refine ap M (fun _ => Z) [5, 6, 7, 8] (bf 30 [0, 1, 2, 3, 4, 5, 6, 7, 8, 9, 10, 18, 19]) [(95, .bool false)] fun a M => ?_
      refine s_az M Z 11 rfl (v := vP g48 (i * 1)) (Yl.ix0 g48 i 1 rfl rfl rfl) fun a M => ?_
      refine s_az M Z 12 rfl (v := .string (nmR i)) (Yl.r1 2 i [] (show i < nameL.length from by have : nameL.length = 9 := rfl; omega) rfl rfl rfl) fun a M => ?_
      refine qg M (fun _ => Z) (i := 13) rfl rfl (d := 100) rfl (by decide) (by kernel_rfl) (fun _ _ _ h => h) (v := .bool (((nmR i)).toList == ((ByteArray.mk #[99, 111, 110, 102, 105, 103])).toList)) (fun _ => Yl.pure (by kernel_rfl)) fun a M => ?_
      replace M := M.sp 100 (.bool false) rfl (congrArg Value.bool ((nm_eq (k := 2) (by omega) (by omega)).trans (decide_eq_false (show ¬ i = 2 from by omega))))
      refine ap M (fun _ => Z) [14, 15, 16, 17] (bt 30 [20, 21, 22, 23, 24, 25, 26, 27, 28, 29]) [(104, .bool false)] fun a M => ?_
      refine s_az M Z 20 rfl (v := vP g48 (i * 1)) (Yl.ix0 g48 i 1 rfl rfl rfl) fun a M => ?_
      refine s_az M Z 21 rfl (v := .string (nmR i)) (Yl.r1 2 i [] (show i < nameL.length from by have : nameL.length = 9 := rfl; omega) rfl rfl rfl) fun a M => ?_
      refine qg M (fun _ => Z) (i := 22) rfl rfl (d := 109) rfl (by decide) (by kernel_rfl) (fun _ _ _ h => h) (v := .bool (((nmR i)).toList == ((ByteArray.mk #[116, 97, 115, 107, 115])).toList)) (fun _ => Yl.pure (by kernel_rfl)) fun a M => ?_
      replace M := M.sp 109 (.bool true) rfl (congrArg Value.bool ((nm_eq (k := 6) (by omega) (by omega)).trans (decide_eq_true (show i = 6 from by omega))))
      refine ap M (fun _ => Z) [23, 24, 27, 28] (bt 30 [25, 26, 29]) [(18, .bool false), (17, .bool false), (111, vI X.length), (110, .bool true)] fun a M => ?_
      refine qg M (fun _ => Z) (i := 25) rfl rfl (d := 112) rfl (by decide) (by kernel_rfl) (fun _ _ _ h => h) (v := .bool ((X.length : Int) == (0 : Int))) (fun _ => Yl.pure (by kernel_rfl)) fun a M => ?_
      replace M := M.sp 112 (.bool false) rfl (by rw [beq_eq_false_iff_ne.2 (by omega)])
      refine ap M (fun _ => Z) [26, 29] (bt 30 []) [(19, .bool false)] fun a M => ?_
      refine qh (by kernel_rfl) ?_
      refine wp_seq (s_fs1 ?_)
      refine fp M 27 0 [(140, .bool false)] fun a M => s_d0 (s_cf M (wp_skip (wp_seq ?_)))
      skip
      ·
       have hcs := qaw (x := x) hcX (fun h => qax h hlt)
       have hc2 : chkN i (X ++ [x]) := hcs.2 (by omega)
       refine qa ?_
       refine fp M 1 0 [(141, .bool false)] fun a M => s_d0 (s_cf M (wp_skip (qa ?_)))
       refine fp M 2 0 [(68, vI (IntKind.i64.wrap ((X.length : Int) + 1)))] fun a M => ?_
       replace M := M.sp 68 (vI (X.length + 1 : Nat)) rfl (qc (by omega) (by omega))
       refine fp M 1 2 [(13, vI (X.length + 1 : Nat))] fun a M => s_d0 ?_
       replace M := M.to [(13, vI (X.length + 1 : Nat)), (141, .bool false), (140, .bool false), (19, .bool false), (18, .bool false), (17, .bool false), (7, vI (p1 + n : Nat)), (83, .slice A83 ((X ++ [x]).length) c83), (11, .slice A83 ((X ++ [x]).length) c83), (79, .bool false), (16, vI 0), (15, vI n), (14, vQ x), (66, .bool true), (12, vI (needN i (Q.map Nw.l) X)), (50, .bool true), (10, vI i), (9, vS g48 9 9), (8, vI (l.length - 4 : Nat)), (6, .slice Ae E.length ce), (5, .slice Aq Q.length cq), (42, .bool false), (38, .bool false), (28, .bool false), (25, .bool false), (22, .bool false), (4, vI 0), (3, .slice none 0 0), (2, .slice none 0 0), (0, .slice (some ⟨gA, oA, none⟩) l.length c)]
       replace M := M.sp 12 (vI (needN i (Q.map Nw.l) (X ++ [x]))) rfl (by rw [qc2 (by omega)])
       replace M := M.sp 13 (vI ((X ++ [x]).length)) rfl (by rw [List.length_append]; rfl)
       exact ⟨_, (by omega), (X ++ [x]), A83, c83, p1 + n, by rw [List.length_append]; exact hX.snoc (.of hv), hc2, qb7 hlt, hin.2, hc83, rfl, M.sub (by kernel_rfl), O.pt 5 [1, 2, 3, 4]⟩
     ·
      refine wp_seq ?_
      refine zk O (.blk g82 #[vQ x] 22 :: .row (.slice A83 ((X ++ [x]).length) c83) ((X ++ [x]).length) ((X ++ [x]).map U64) 22 1 :: .row (vS g48 9 9) 9 (nameL.map StrC) 9 1 :: .row (.slice Ae E.length ce) E.length (E.map I64v) 3 1 :: .row (.slice Aq Q.length cq) Q.length (Q.map Nw.val) 58 1 :: nwF 22 Q) 5 [0, 1, 2, 3, 4] [] fun O Z => ?_
      refine ap M (fun _ => Z) [0, 1, 9, 10, 18, 19] (bf 30 [0, 1, 9, 10, 18, 19]) [(106, vI i), (105, vS g48 9 9), (97, vI i), (96, vS g48 9 9), (88, vI i), (87, vS g48 9 9)] fun a M => ?_
      refine s_az M Z 2 rfl (v := vP g48 (i * 1)) (Yl.ix0 g48 i 1 rfl rfl rfl) fun a M => ?_
      refine s_az M Z 3 rfl (v := .string (nmR i)) (Yl.r1 2 i [] (show i < nameL.length from by have : nameL.length = 9 := rfl; omega) rfl rfl rfl) fun a M => ?_
      refine qg M (fun _ => Z) (i := 4) rfl rfl (d := 91) rfl (by decide) (by kernel_rfl) (fun _ _ _ h => h) (v := .bool (((nmR i)).toList == ((ByteArray.mk #[99, 111, 110, 102, 105, 103])).toList)) (fun _ => Yl.pure (by kernel_rfl)) fun a M => ?_
      replace M := M.sp 91 (.bool false) rfl (congrArg Value.bool ((nm_eq (k := 2) (by omega) (by omega)).trans (decide_eq_false (show ¬ i = 2 from by omega))))
      refine ap M (fun _ => Z) [5, 6, 7, 8] (bf 30 [0, 1, 2, 3, 4, 5, 6, 7, 8, 9, 10, 18, 19]) [(95, .bool false)] fun a M => ?_
      refine s_az M Z 11 rfl (v := vP g48 (i * 1)) (Yl.ix0 g48 i 1 rfl rfl rfl) fun a M => ?_
      refine s_az M Z 12 rfl (v := .string (nmR i)) (Yl.r1 2 i [] (show i < nameL.length from by have : nameL.length = 9 := rfl; omega) rfl rfl rfl) fun a M => ?_
      refine qg M (fun _ => Z) (i := 13) rfl rfl (d := 100) rfl (by decide) (by kernel_rfl) (fun _ _ _ h => h) (v := .bool (((nmR i)).toList == ((ByteArray.mk #[99, 111, 110, 102, 105, 103])).toList)) (fun _ => Yl.pure (by kernel_rfl)) fun a M => ?_
      replace M := M.sp 100 (.bool false) rfl (congrArg Value.bool ((nm_eq (k := 2) (by omega) (by omega)).trans (decide_eq_false (show ¬ i = 2 from by omega))))
      refine ap M (fun _ => Z) [14, 15, 16, 17] (bt 30 [20, 21, 22, 23, 24, 25, 26, 27, 28, 29]) [(104, .bool false)] fun a M => ?_
      refine s_az M Z 20 rfl (v := vP g48 (i * 1)) (Yl.ix0 g48 i 1 rfl rfl rfl) fun a M => ?_
      refine s_az M Z 21 rfl (v := .string (nmR i)) (Yl.r1 2 i [] (show i < nameL.length from by have : nameL.length = 9 := rfl; omega) rfl rfl rfl) fun a M => ?_
      refine qg M (fun _ => Z) (i := 22) rfl rfl (d := 109) rfl (by decide) (by kernel_rfl) (fun _ _ _ h => h) (v := .bool (((nmR i)).toList == ((ByteArray.mk #[116, 97, 115, 107, 115])).toList)) (fun _ => Yl.pure (by kernel_rfl)) fun a M => ?_
      replace M := M.sp 109 (.bool false) rfl (congrArg Value.bool ((nm_eq (k := 6) (by omega) (by omega)).trans (decide_eq_false (show ¬ i = 6 from by omega))))
      refine ap M (fun _ => Z) [23, 24, 25, 26, 27, 28, 29] (bt 30 []) [(19, .bool false), (18, .bool false), (17, .bool false)] fun a M => ?_
      refine qh (by kernel_rfl) ?_
      refine wp_seq (s_fs1 ?_)
      refine fp M 27 0 [(140, .bool false)] fun a M => s_d0 (s_cf M (wp_skip (wp_seq ?_)))
      skip
      ·
       have hcs := qaw (x := x) hcX (fun h => qax h hlt)
       have hc2 : chkN i (X ++ [x]) := hcs.2 (by omega)
       refine qa ?_
       refine fp M 1 0 [(141, .bool false)] fun a M => s_d0 (s_cf M (wp_skip (qa ?_)))
       refine fp M 2 0 [(68, vI (IntKind.i64.wrap ((X.length : Int) + 1)))] fun a M => ?_
       replace M := M.sp 68 (vI (X.length + 1 : Nat)) rfl (qc (by omega) (by omega))
       refine fp M 1 2 [(13, vI (X.length + 1 : Nat))] fun a M => s_d0 ?_
       replace M := M.sp 12 (vI (needN i (Q.map Nw.l) (X ++ [x]))) rfl (by rw [qc2 (by omega)])
       replace M := M.sp 13 (vI ((X ++ [x]).length)) rfl (by rw [List.length_append]; rfl)
       exact ⟨_, (by omega), (X ++ [x]), A83, c83, p1 + n, by rw [List.length_append]; exact hX.snoc (.of hv), hc2, qb7 hlt, hin.2, hc83, rfl, M.sub (by kernel_rfl), O.pt 5 [1, 2, 3, 4]⟩
   have hd66 := of_decide_eq_false hb66
   refine s_cf M (wp_exit (s_fs1 ?_))
   refine fp M 2 0 [(147, .slice Ax X.length cx), (146, .slice Aq Q.length cq)] fun a M => fo M 2 rfl rfl (s_el M O ei_nw [(0, .slice Ax X.length cx)] #[.slice Ax X.length cx] fun a w148 g148 M O => ?_)
   refine fo M 3 rfl rfl (qd M O (i := 4) rfl ei_nw rfl rfl rfl (news := ([(⟨Ax, cx, X⟩ : Nw)].map Nw.val)) (O.rdBlk (i := 0) (n := 1) (size := 1) rfl rfl) (qyc _) (by omega) (by omega) rfl (by decide) fun a w149 A149 c149 M O hc149 => ?_)
   refine fp M 1 4 [(5, .slice A149 (Q.length + 1) c149)] fun a M => s_d0 ?_
   have hnA149 : Q.length + 1 = (Q ++ [(⟨Ax, cx, X⟩ : Nw)]).length := qs rfl
   replace O := O.reRow (i := 4) (ys := (Q ++ [(⟨Ax, cx, X⟩ : Nw)]).map Nw.val) rfl hnA149 (List.map_append.symm)
   rw [hnA149] at hc149
   replace M := M.sp 5 (.slice A149 ((Q ++ [(⟨Ax, cx, X⟩ : Nw)]).length) c149) rfl (by rw [hnA149])
   replace M := M.sp 149 (.slice A149 ((Q ++ [(⟨Ax, cx, X⟩ : Nw)]).length) c149) rfl (by rw [hnA149])
   replace O := O.pt (fs' := (.row (.slice Ax X.length cx) X.length (X.map U64) 22 1 :: .row (vS g48 9 9) 9 (nameL.map StrC) 9 1 :: .row (.slice Ae E.length ce) E.length (E.map I64v) 3 1 :: .row (.slice A149 ((Q ++ [(⟨Ax, cx, X⟩ : Nw)]).length) c149) ((Q ++ [(⟨Ax, cx, X⟩ : Nw)]).length) ((Q ++ [(⟨Ax, cx, X⟩ : Nw)]).map Nw.val) 58 1 :: nwF 22 Q)) 5 [1, 2, 3, 4]
   replace O := Mem.toNw (A := Ax) (c := cx) (l := X) (fs := [.row (vS g48 9 9) 9 (nameL.map StrC) 9 1, .row (.slice Ae E.length ce) E.length (E.map I64v) 3 1, .row (.slice A149 ((Q ++ [(⟨Ax, cx, X⟩ : Nw)]).length) c149) ((Q ++ [(⟨Ax, cx, X⟩ : Nw)]).length) ((Q ++ [(⟨Ax, cx, X⟩ : Nw)]).map Nw.val) 58 1]) O
   replace O : Mem w _ (.row (vS g48 9 9) 9 (nameL.map StrC) 9 1 :: .row (.slice Ae E.length ce) E.length (E.map I64v) 3 1 :: .row (.slice A149 ((Q ++ [(⟨Ax, cx, X⟩ : Nw)]).length) c149) ((Q ++ [(⟨Ax, cx, X⟩ : Nw)]).length) ((Q ++ [(⟨Ax, cx, X⟩ : Nw)]).map Nw.val) 58 1 :: nwF 22 (Q ++ [(⟨Ax, cx, X⟩ : Nw)])) := O
   refine qa ?_
   refine fp M 2 0 [(151, vI p1), (150, .slice Ae E.length ce)] fun a M => fo M 2 rfl rfl (s_el M O qbu [(0, vI p1)] #[vI p1] fun a w152 g152 M O => ?_)
   refine fo M 3 rfl rfl (qd M O (i := 2) rfl qbu rfl rfl rfl (news := ([p1].map I64v)) (O.rdBlk (i := 0) (n := 1) (size := 1) rfl rfl) (qoe _) (by omega) (by omega) rfl (by decide) fun a w153 A153 c153 M O hc153 => ?_)
   refine fp M 1 4 [(6, .slice A153 (E.length + 1) c153)] fun a M => s_d0 ?_
   have hnA153 : E.length + 1 = (E ++ [p1]).length := qs rfl
   replace O := O.reRow (i := 2) (ys := (E ++ [p1]).map I64v) rfl hnA153 (List.map_append.symm)
   rw [hnA153] at hc153
   replace M := M.sp 6 (.slice A153 ((E ++ [p1]).length) c153) rfl (by rw [hnA153])
   replace M := M.sp 153 (.slice A153 ((E ++ [p1]).length) c153) rfl (by rw [hnA153])
   refine qa ?_
   refine fp M 2 0 [(52, vI (IntKind.i64.wrap ((i : Int) + 1)))] fun a M => ?_
   replace M := M.sp 52 (vI (i + 1 : Nat)) rfl (qc (by omega) (by omega))
   refine fp M 1 2 [(10, vI (i + 1 : Nat))] fun a M => s_d0 ?_
   exact ⟨_, (by omega), i + 1, (Q ++ [(⟨Ax, cx, X⟩ : Nw)]), A149, c149, (E ++ [p1]), A153, c153, p1, by omega, by omega, by rw [List.map_append]; exact qtk (xs := X) hR (by omega) hX hcX (by omega), hp1, by rw [List.length_append, hql]; rfl, by rw [List.length_append, hel]; rfl, (fun q h => (List.mem_append.1 h).elim (hqc q) (fun h => by rw [List.mem_singleton] at h; subst h; exact hXc)), hc149, hc153, rfl, M.sub (by kernel_rfl), O.pt 4 [1, 2, 3]⟩
  have hd50 := of_decide_eq_false hb50
  obtain rfl : i = 8 := by omega
  refine s_cf M (wp_exit (wp_seq (s_fs1 ?_)))
  refine fp M 3 0 [(156, .bool (decide ((p0 : Int) < ((l.length - 4 : Nat) : Int))))] fun a M => s_d0 ?_
  rcases M.tf 156 rfl with ⟨hb156, M⟩ | ⟨hb156, M⟩
  ·
   have hd156 := of_decide_eq_true hb156
   refine s_ct M (s_fs1 ?_)
   refine fp M 3 0 [(4, vI 346), (3, .slice none 0 0), (2, .slice none 0 0)] fun a M => s_d0 (wp_ret ?_)
   exact s_rt3 rfl M rfl rfl rfl (zy _ (hop.trans (qwk hR (by omega))) rfl rfl O.below)
  have hd156 := of_decide_eq_false hb156
  refine s_cf M (wp_skip (s_fs1 ?_))
  refine fp M 1 0 [(157, .slice Aq Q.length cq)] fun a M => fo M 1 rfl rfl (s_el M O ei_nw [(0, .slice none 0 0)] #[.slice none 0 0] fun a w158 g158 M O => ?_)
  refine fo M 2 rfl rfl (qd M O (i := 3) rfl ei_nw rfl rfl rfl (news := ([Nw.zero].map Nw.val)) (O.rdBlk (i := 0) (n := 1) (size := 1) rfl rfl) (qyc _) (by omega) (by omega) rfl (by decide) fun a w159 A159 c159 M O hc159 => ?_)
  refine fp M 2 3 [(161, .slice (some ⟨gA, oA, none⟩) l.length c), (160, .slice Ae E.length ce)] fun a M => s_fl M 5 fun a M => ?_
  replace M := M.sp 162 (vI (b.length + 4 : Nat)) rfl (by rw [show l.length = b.length + 4 by omega])
  refine fo M 6 rfl rfl (s_el M O qbu [(0, vI (b.length + 4 : Nat))] #[vI (b.length + 4 : Nat)] fun a w163 g163 M O => ?_)
  refine fo M 7 rfl rfl (qd M O (i := 3) rfl qbu rfl rfl rfl (news := ([b.length + 4].map I64v)) (O.rdBlk (i := 0) (n := 1) (size := 1) rfl rfl) (qoe _) (by omega) (by omega) rfl (by decide) fun a w164 A164 c164 M O hc164 => ?_)
  refine fp M 3 8 [(4, vI 0), (3, .slice A164 (E.length + 1) c164), (2, .slice A159 (Q.length + 1) c159)] fun a M => s_d0 ?_
  have hnA159 : Q.length + 1 = (Q ++ [Nw.zero]).length := qs rfl
  replace O := O.reRow (i := 4) (ys := (Q ++ [Nw.zero]).map Nw.val) rfl hnA159 (List.map_append.symm)
  rw [hnA159] at hc159
  replace M := M.sp 2 (.slice A159 ((Q ++ [Nw.zero]).length) c159) rfl (by rw [hnA159])
  replace M := M.sp 159 (.slice A159 ((Q ++ [Nw.zero]).length) c159) rfl (by rw [hnA159])
  have hnA164 : E.length + 1 = (E ++ [b.length + 4]).length := qs rfl
  replace O := O.reRow (i := 3) (ys := (E ++ [b.length + 4]).map I64v) rfl hnA164 (List.map_append.symm)
  rw [hnA164] at hc164
  replace M := M.sp 3 (.slice A164 ((E ++ [b.length + 4]).length) c164) rfl (by rw [hnA164])
  replace M := M.sp 164 (.slice A164 ((E ++ [b.length + 4]).length) c164) rfl (by rw [hnA164])
  replace O := O.nil 22 1
  replace O := O.pt (fs' := (.row (.slice none 0 0) 0 [] 22 1 :: .row (vS g48 9 9) 9 (nameL.map StrC) 9 1 :: .row (.slice A164 ((E ++ [b.length + 4]).length) c164) ((E ++ [b.length + 4]).length) ((E ++ [b.length + 4]).map I64v) 3 1 :: .row (.slice A159 ((Q ++ [Nw.zero]).length) c159) ((Q ++ [Nw.zero]).length) ((Q ++ [Nw.zero]).map Nw.val) 58 1 :: nwF 22 Q)) 6 [0, 3, 4, 5]
  replace O := Mem.toNw (A := none) (c := 0) (l := []) (fs := [.row (vS g48 9 9) 9 (nameL.map StrC) 9 1, .row (.slice A164 ((E ++ [b.length + 4]).length) c164) ((E ++ [b.length + 4]).length) ((E ++ [b.length + 4]).map I64v) 3 1, .row (.slice A159 ((Q ++ [Nw.zero]).length) c159) ((Q ++ [Nw.zero]).length) ((Q ++ [Nw.zero]).map Nw.val) 58 1]) O
  replace O : Mem w _ (.row (vS g48 9 9) 9 (nameL.map StrC) 9 1 :: .row (.slice A164 ((E ++ [b.length + 4]).length) c164) ((E ++ [b.length + 4]).length) ((E ++ [b.length + 4]).map I64v) 3 1 :: .row (.slice A159 ((Q ++ [Nw.zero]).length) c159) ((Q ++ [Nw.zero]).length) ((Q ++ [Nw.zero]).map Nw.val) 58 1 :: nwF 22 (Q ++ [Nw.zero])) := O
  refine wp_ret ?_
  obtain ⟨p, hp, hpl, hpe⟩ := qz4 hR (by omega)
  exact s_rt3 rfl M rfl rfl rfl (qtl (hop.trans hp) (by rw [hpl, List.map_append]; rfl) hpe (fun q h => (List.mem_append.1 h).elim (hqc q) (fun h => by rw [List.mem_singleton] at h; subst h; exact Nat.le_refl _)) hc159 hc164 rfl (O.pt 3 [2, 1]))
def NumIs (W : World) (g p : Nat) (A : Option Addr) (c : Nat) (b q : List Nat) (sv : Value) (fs : List Fact) (r : Ending) (w' : World) : Prop :=
 (∃ x e NA nc, NumAt b p x e ∧ r = .returned (.int .u64 (x : Int)) ∧ (q ++ [x]).length ≤ nc ∧ Mem W w' (.blk g #[.slice A b.length c, .int .i64 (e : Int), .slice NA (q ++ [x]).length nc, sv] 109 :: .row (.slice NA (q ++ [x]).length nc) (q ++ [x]).length ((q ++ [x]).map U64) 22 1 :: fs)) ∨ ((vread (b.drop p)).2.2 ≠ 0 ∧ Dies W fs (pan errT 344) r w')
theorem qwq {W w' : World} {g p : Nat} {A : Option Addr} {c : Nat} {b q : List Nat} {sv : Value} {fs : List Fact} {r : Ending} (h : (vread (b.drop p)).2.2 ≠ 0) (hd : Dies W fs (pan errT 344) r w') : NumIs W g p A c b q sv fs r w' := .inr ⟨h, hd⟩
theorem qwr {W w' : World} {g p : Nat} {A : Option Addr} {c : Nat} {b q : List Nat} {sv : Value} {fs : List Fact} {r : Ending} {x e nc : Nat} {NA : Option Addr} (h : NumAt b p x e) (hr : r = .returned (.int .u64 (x : Int))) (hc : (q ++ [x]).length ≤ nc) (hm : Mem W w' (.blk g #[.slice A b.length c, .int .i64 (e : Int), .slice NA (q ++ [x]).length nc, sv] 109 :: .row (.slice NA (q ++ [x]).length nc) (q ++ [x]).length ((q ++ [x]).map U64) 22 1 :: fs)) : NumIs W g p A c b q sv fs r w' := .inl ⟨x, e, NA, nc, h, hr, hc, hm⟩
theorem qis (W w : World) (g p : Nat) (A NA : Option Addr) (c nc : Nat) (b q : List Nat) (sv : Value) (fs : List Fact) (HW : Mem W w (.blk g #[.slice A b.length c, vI p, .slice NA q.length nc, sv] 109 :: .row (.slice NA q.length nc) q.length (q.map U64) 22 1 :: fs)) (hin : Rd W W.heap.size 1 A b.length (b.map B8)) (hbc : b.length ≤ c) (hl : ∀ z ∈ b, z < 256) (hb : b.length ≤ 16777216) (ha : p ≤ b.length) (hq : q.length ≤ p) :
    Calls Tryz.prog 106 #[.pointer (some ⟨g, 0, none⟩)] w (NumIs W g p A c b q sv fs) := by
 refine s_ce Tryz.func106 [vP g 0] [(0, vP g 0)] fun a M => ?_
 have O := Mem.start w
 replace O := HW
 have hv : ∃ x n er, vread (b.drop p) = (x, n, er) := ⟨_, _, _, rfl⟩
 obtain ⟨x, n, er, hv⟩ := hv
 have hl2 : ∀ z ∈ b.drop p, z < 256 := fun z hz => hl z (List.mem_of_mem_drop hz)
 have hdl : (b.drop p).length = b.length - p := List.length_drop
 refine s_fs1 ?_
 refine fp M 1 0 [(2, vQ 0)] fun a M => s_d0 (wp_seq ?_)
 refine zk O (.blk g #[.slice A b.length c, vI p, .slice NA q.length nc, sv] 109 :: .row (.slice NA q.length nc) q.length (q.map U64) 22 1 :: fs) 2 [0, 1] [] fun O Z => ?_
 refine ap M (fun _ => Z) [0, 4] (bf 17 [0, 4]) [(11, vP g 0), (7, vP g 0)] fun a M => ?_
 refine s_am M Z 1 fun a M => ?_
 refine ap M (fun _ => Z) [2] (bf 17 [0, 1, 2, 4]) [(9, vP g 0)] fun a M => ?_
 refine s_ac M Z 3 0 fun a M => ?_
 refine s_am M Z 5 fun a M => ?_
 refine ap M (fun _ => Z) [6] (bf 17 [0, 1, 2, 3, 4, 5, 6]) [(13, vP g 1)] fun a M => ?_
 refine s_ac M Z 7 0 fun a M => ?_
 refine s_az M Z 8 rfl (v := .slice (if c = p then A else A.map (·.add (p * 1))) (b.length - p) (c - p)) (Yl.sliceFrom ei_u8 (j := p) rfl rfl rfl (by omega)) fun a M => ?_
 replace M := M.sp 15 (.slice (if c = p then A else A.map (·.add (p * 1))) ((b.drop p).length) (c - p)) rfl (by rw [List.length_drop])
 refine s_on M 9 rfl (e_is M O [.slice (if c = p then A else A.map (·.add (p * 1))) ((b.drop p).length) (c - p)] (.tuple #[vQ x, vI n, vI er]) rfl rfl (qv4 hv (rd_at (O.old hin) ha hbc) hl2 (by omega)) fun w16 hbw O a M => ?_)
 refine keepS (O.pt 2 [0, 1]) (fun Z => ?_)
 refine ap M (fun _ => Z) [10, 11, 12, 13, 14, 15, 16] (bt 17 []) [(5, vI er), (4, vI n), (3, vQ x)] fun a M => ?_
 refine qh (by kernel_rfl) ?_
 refine wp_seq (s_fs1 ?_)
 refine fp M 2 0 [(21, .bool ((er : Int) != (0 : Int)))] fun a M => s_d0 ?_
 rcases M.tf 21 rfl with ⟨hb21, M⟩ | ⟨hb21, M⟩
 ·
  have hd21 := bne_iff_ne.1 hb21
  refine s_ct M (qa ?_)
  refine fo M 0 rfl rfl ?_
  exact qav M [vI 344] rfl (qf3 344 _ (O.pt 2 [])) fun w2 O => qb5 M (qwq (qk3 hv hd21) ⟨rfl, O⟩)
 have hd21 := bne_eq_false_iff_eq.1 hb21
 have her : er = 0 := by omega
 subst her
 have hin2 := qny ha hv
 refine s_cf M (wp_skip (s_fs1 ?_))
 refine fp M 1 0 [(23, vP g 0)] fun a M => s_fk M 1 fun a M => ?_
 refine fp M 1 2 [(25, vP g 1)] fun a M => s_fc M O 3 0 fun a M => ?_
 refine fp M 2 4 [(28, vI (IntKind.i64.wrap ((p : Int) + (n : Int))))] fun a M => ?_
 replace M := M.sp 28 (vI (p + n : Nat)) rfl (qc (by omega) (by omega))
 refine s_fk M 6 fun a M => ?_
 refine fp M 1 7 [(30, vP g 1)] fun a M => fo M 8 rfl rfl (s_es M O 0 fun w4_8 O => ?_)
 refine s_d0 (s_fs1 ?_)
 refine fp M 2 0 [(32, vP g 0), (31, vP g 0)] fun a M => s_fk M 2 fun a M => ?_
 refine fp M 1 3 [(34, vP g 2)] fun a M => s_fc M O 4 0 fun a M => ?_
 refine fp M 1 5 [(36, vQ x)] fun a M => fo M 6 rfl rfl (s_el M O zd [(0, vQ x)] #[vQ x] fun a w37 g37 M O => ?_)
 refine fo M 7 rfl rfl (qd M O (i := 2) rfl zd rfl rfl rfl (news := [U64 x]) (O.rdBlk (i := 0) (n := 1) (size := 1) rfl rfl) (by simp [Value.oneCell', U64, B8]) (by omega) (by omega) rfl (by decide) fun a w38 A38 c38 M O hc38 => ?_)
 refine s_fk M 8 fun a M => ?_
 refine fp M 1 9 [(40, vP g 2)] fun a M => fo M 10 rfl rfl (s_es M O 1 fun w5_10 O => ?_)
 refine s_d0 ?_
 have hnA38 : q.length + 1 = (q ++ [x]).length := qs rfl
 replace O := O.reRow (i := 2) (ys := (q ++ [x]).map U64) rfl hnA38 (by simp)
 rw [hnA38] at hc38
 replace M := M.sp 38 (.slice A38 ((q ++ [x]).length) c38) rfl (by rw [hnA38])
 replace O := O.reBlk (i := 1) (ds := #[.slice A b.length c, vI (p + n : Nat), .slice A38 ((q ++ [x]).length) c38, sv]) rfl (by rw [hnA38]; rfl)
 refine s_fs1 ?_
 refine fp M 2 0 [(2, vQ x)] fun a M => s_d0 (wp_ret ?_)
 exact s_rt1 rfl M rfl (qwr (.of hv) rfl hc38 (O.pt 3 [1, 2]))
theorem qep (W w : World) (g p : Nat) (A NA : Option Addr) (c nc : Nat) (b q : List Nat) (sv : Value) (fs : List Fact) (HW : Mem W w (.blk g #[.slice A b.length c, vI p, .slice NA q.length nc, sv] 109 :: .row (.slice NA q.length nc) q.length (q.map U64) 22 1 :: fs)) (hin : Rd W W.heap.size 1 A b.length (b.map B8)) (hbc : b.length ≤ c) (hl : ∀ z ∈ b, z < 256) (hb : b.length ≤ 16777216) (ha : p ≤ b.length) (hq : q.length ≤ p) {x e : Nat} (h : NumAt b p x e) :
  Calls Tryz.prog 106 #[.pointer (some ⟨g, 0, none⟩)] w (fun r w' => r = .returned (.int .u64 (x : Int)) ∧ ∃ NA nc, (q ++ [x]).length ≤ nc ∧ Mem W w' (.blk g #[.slice A b.length c, .int .i64 (e : Int), .slice NA (q ++ [x]).length nc, sv] 109 :: .row (.slice NA (q ++ [x]).length nc) (q ++ [x]).length ((q ++ [x]).map U64) 22 1 :: fs)) :=
 (qis W w g p A NA c nc b q sv fs HW hin hbc hl hb ha hq).mono fun r w' h1 => by
  rcases h1 with ⟨x2, e2, NA, nc, h2, h3, h4, h5⟩ | ⟨h2, _⟩
  ·obtain ⟨rfl, rfl⟩ := NumAt.one h h2
   exact ⟨h3, NA, nc, h4, h5⟩
  ·rw [h.1] at h2; exact absurd rfl h2
theorem qeq (W w : World) (g p : Nat) (A NA : Option Addr) (c nc : Nat) (b q : List Nat) (sv : Value) (fs : List Fact) (HW : Mem W w (.blk g #[.slice A b.length c, vI p, .slice NA q.length nc, sv] 109 :: .row (.slice NA q.length nc) q.length (q.map U64) 22 1 :: fs)) (hin : Rd W W.heap.size 1 A b.length (b.map B8)) (hbc : b.length ≤ c) (hl : ∀ z ∈ b, z < 256) (hb : b.length ≤ 16777216) (ha : p ≤ b.length) (hq : q.length ≤ p) (h : (vread (b.drop p)).2.2 ≠ 0) :
  Calls Tryz.prog 106 #[.pointer (some ⟨g, 0, none⟩)] w (Dies W fs (pan errT 344)) :=
 (qis W w g p A NA c nc b q sv fs HW hin hbc hl hb ha hq).mono fun r w' h1 => by
  rcases h1 with ⟨x2, e2, NA, nc, h2, h3, h4, h5⟩ | ⟨_, h2⟩
  ·rw [h2.1] at h; exact absurd rfl h
  ·exact h2
def CntIs (W : World) (g p : Nat) (A : Option Addr) (c : Nat) (b q : List Nat) (sv : Value) (lo hi : Nat) (fs : List Fact) (r : Ending) (w' : World) : Prop :=
 (∃ x e NA nc, NumAt b p x e ∧ ¬ (x < lo ∨ hi < x) ∧ r = .returned (.int .i64 (x : Int)) ∧ (q ++ [x]).length ≤ nc ∧ Mem W w' (.blk g #[.slice A b.length c, .int .i64 (e : Int), .slice NA (q ++ [x]).length nc, sv] 109 :: .row (.slice NA (q ++ [x]).length nc) (q ++ [x]).length ((q ++ [x]).map U64) 22 1 :: fs)) ∨ ((∃ x e, NumAt b p x e ∧ (x < lo ∨ hi < x)) ∧ Dies W fs (pan errT 345) r w') ∨ ((vread (b.drop p)).2.2 ≠ 0 ∧ Dies W fs (pan errT 344) r w')
theorem qws {W w' : World} {g p : Nat} {A : Option Addr} {c : Nat} {b q : List Nat} {sv : Value} {fs : List Fact} {r : Ending} {lo hi : Nat} (h : (vread (b.drop p)).2.2 ≠ 0) (hd : Dies W fs (pan errT 344) r w') : CntIs W g p A c b q sv lo hi fs r w' := .inr (.inr ⟨h, hd⟩)
theorem qlk {W w' : World} {g p : Nat} {A : Option Addr} {c : Nat} {b q : List Nat} {sv : Value} {fs : List Fact} {r : Ending} {lo hi x e : Nat} (h : NumAt b p x e) (h2 : x < lo ∨ hi < x) (hd : Dies W fs (pan errT 345) r w') : CntIs W g p A c b q sv lo hi fs r w' := .inr (.inl ⟨⟨x, e, h, h2⟩, hd⟩)
theorem qwt {W w' : World} {g p : Nat} {A : Option Addr} {c : Nat} {b q : List Nat} {sv : Value} {fs : List Fact} {r : Ending} {lo hi x e nc : Nat} {NA : Option Addr} (h : NumAt b p x e) (h2 : ¬ (x < lo ∨ hi < x)) (hr : r = .returned (.int .i64 (x : Int))) (hc : (q ++ [x]).length ≤ nc) (hm : Mem W w' (.blk g #[.slice A b.length c, .int .i64 (e : Int), .slice NA (q ++ [x]).length nc, sv] 109 :: .row (.slice NA (q ++ [x]).length nc) (q ++ [x]).length ((q ++ [x]).map U64) 22 1 :: fs)) : CntIs W g p A c b q sv lo hi fs r w' := .inl ⟨x, e, NA, nc, h, h2, hr, hc, hm⟩
theorem qhg (W w : World) (g p : Nat) (A NA : Option Addr) (c nc : Nat) (b q : List Nat) (sv : Value) (fs : List Fact) (lo hi : Nat) (hhi : hi < 9223372036854775808) (HW : Mem W w (.blk g #[.slice A b.length c, vI p, .slice NA q.length nc, sv] 109 :: .row (.slice NA q.length nc) q.length (q.map U64) 22 1 :: fs)) (hin : Rd W W.heap.size 1 A b.length (b.map B8)) (hbc : b.length ≤ c) (hl : ∀ z ∈ b, z < 256) (hb : b.length ≤ 16777216) (ha : p ≤ b.length) (hq : q.length ≤ p) :
    Calls Tryz.prog 107 #[.pointer (some ⟨g, 0, none⟩), .int .u64 (lo : Int), .int .u64 (hi : Int)] w (CntIs W g p A c b q sv lo hi fs) := by
 refine s_ce Tryz.func107 [vP g 0, vQ lo, vQ hi] [(0, vP g 0), (1, vQ lo), (2, vQ hi)] fun a M => ?_
 have O := Mem.start w
 replace O := HW
 refine s_fs1 ?_
 refine fp M 1 0 [(6, vI 0)] fun a M => s_d0 (wp_seq ?_)
 rcases qik b p with hv | ⟨x, e, hv⟩
 ·
  refine qa ?_
  refine fp M 1 0 [(8, vP g 0)] fun a M => fo M 1 rfl rfl ?_
  exact qav M [vP g 0] rfl (qeq W _ g p A NA c nc b q sv _ (O.pt 2 [0, 1]) hin hbc hl hb ha hq hv) fun w2 O => qb5 M (qws hv ⟨rfl, (O)⟩)
 ·
  have hx := hv.lt hl
  refine qa ?_
  refine fp M 1 0 [(8, vP g 0)] fun a M => fo M 1 rfl rfl ?_
  refine e_cl M [vP g 0] rfl rfl (qep W _ g p A NA c nc b q sv _ (O.pt 2 [0, 1]) hin hbc hl hb ha hq hv) ?_
  rintro _ w9 ⟨rfl, A9, c9, hc9, HM2⟩
  refine ⟨_, rfl, ?_⟩
  replace O := HM2
  clear M; intro a M
  refine fp M 1 2 [(7, vQ x)] fun a M => s_d0 (wp_seq (s_fs1 ?_))
  refine fp M 4 0 [(13, .bool (decide ((x : Int) < (lo : Int))))] fun a M => ?_
  rcases M.tf 13 rfl with ⟨hb13, M⟩ | ⟨hb13, M⟩
  ·
   have hd13 := of_decide_eq_true hb13
   refine fp M 4 4 [(17, .bool true)] fun a M => s_d0 (s_ct M (qa ?_))
   refine fo M 0 rfl rfl ?_
   exact qav M [vI 345] rfl (qf3 345 _ (O.pt 2 [])) fun w2 O => qb5 M (qlk hv (.inl (by omega)) ⟨rfl, O⟩)
  have hd13 := of_decide_eq_false hb13
  refine fp M 4 4 [(17, .bool (decide ((x : Int) > (hi : Int))))] fun a M => s_d0 ?_
  rcases M.tf 17 rfl with ⟨hb17, M⟩ | ⟨hb17, M⟩
  ·
   have hd17 := of_decide_eq_true hb17
   refine s_ct M (qa ?_)
   refine fo M 0 rfl rfl ?_
   exact qav M [vI 345] rfl (qf3 345 _ (O.pt 2 [])) fun w2 O => qb5 M (qlk hv (.inr (by omega)) ⟨rfl, O⟩)
  have hd17 := of_decide_eq_false hb17
  refine s_cf M (wp_skip (s_fs1 ?_))
  refine fp M 2 0 [(20, vI (IntKind.i64.wrap (x : Int)))] fun a M => ?_
  replace M := M.sp 20 (vI x) rfl (qc rfl (by omega))
  refine fp M 1 2 [(6, vI x)] fun a M => s_d0 (wp_ret ?_)
  exact s_rt1 rfl M rfl (qwt hv (by omega) rfl hc9 (O.pt 2 [0, 1]))
theorem qf7 (W w : World) (g p : Nat) (A NA : Option Addr) (c nc : Nat) (b q : List Nat) (sv : Value) (fs : List Fact) (lo hi : Nat) (hhi : hi < 9223372036854775808) (HW : Mem W w (.blk g #[.slice A b.length c, vI p, .slice NA q.length nc, sv] 109 :: .row (.slice NA q.length nc) q.length (q.map U64) 22 1 :: fs)) (hin : Rd W W.heap.size 1 A b.length (b.map B8)) (hbc : b.length ≤ c) (hl : ∀ z ∈ b, z < 256) (hb : b.length ≤ 16777216) (ha : p ≤ b.length) (hq : q.length ≤ p) {x e : Nat} (h : NumAt b p x e) (hh : ¬ (x < lo ∨ hi < x)) :
  Calls Tryz.prog 107 #[.pointer (some ⟨g, 0, none⟩), .int .u64 (lo : Int), .int .u64 (hi : Int)] w (fun r w' => r = .returned (.int .i64 (x : Int)) ∧ ∃ NA nc, (q ++ [x]).length ≤ nc ∧ Mem W w' (.blk g #[.slice A b.length c, .int .i64 (e : Int), .slice NA (q ++ [x]).length nc, sv] 109 :: .row (.slice NA (q ++ [x]).length nc) (q ++ [x]).length ((q ++ [x]).map U64) 22 1 :: fs)) :=
 (qhg W w g p A NA c nc b q sv fs lo hi hhi HW hin hbc hl hb ha hq).mono fun r w' h1 => by
  rcases h1 with ⟨x2, e2, NA, nc, h2, _, h3, h4, h5⟩ | ⟨⟨x2, e2, h2, h3⟩, _⟩ | ⟨h2, _⟩
  ·obtain ⟨rfl, rfl⟩ := NumAt.one h h2
   exact ⟨h3, NA, nc, h4, h5⟩
  ·obtain ⟨rfl, rfl⟩ := NumAt.one h h2
   exact absurd h3 hh
  ·rw [h.1] at h2; exact absurd rfl h2
theorem qhh (W w : World) (g p : Nat) (A NA : Option Addr) (c nc : Nat) (b q : List Nat) (sv : Value) (fs : List Fact) (lo hi : Nat) (hhi : hi < 9223372036854775808) (HW : Mem W w (.blk g #[.slice A b.length c, vI p, .slice NA q.length nc, sv] 109 :: .row (.slice NA q.length nc) q.length (q.map U64) 22 1 :: fs)) (hin : Rd W W.heap.size 1 A b.length (b.map B8)) (hbc : b.length ≤ c) (hl : ∀ z ∈ b, z < 256) (hb : b.length ≤ 16777216) (ha : p ≤ b.length) (hq : q.length ≤ p) {x e : Nat} (h : NumAt b p x e) (hh : x < lo ∨ hi < x) :
  Calls Tryz.prog 107 #[.pointer (some ⟨g, 0, none⟩), .int .u64 (lo : Int), .int .u64 (hi : Int)] w (Dies W fs (pan errT 345)) :=
 (qhg W w g p A NA c nc b q sv fs lo hi hhi HW hin hbc hl hb ha hq).mono fun r w' h1 => by
  rcases h1 with ⟨x2, e2, NA, nc, h2, h3, _⟩ | ⟨_, h2⟩ | ⟨h2, _⟩
  ·obtain ⟨rfl, rfl⟩ := NumAt.one h h2
   exact absurd hh h3
  ·exact h2
  ·rw [h.1] at h2; exact absurd rfl h2
theorem qjr (W w : World) (g p : Nat) (A NA : Option Addr) (c nc : Nat) (b q : List Nat) (sv : Value) (fs : List Fact) (lo hi : Nat) (hhi : hi < 9223372036854775808) (HW : Mem W w (.blk g #[.slice A b.length c, vI p, .slice NA q.length nc, sv] 109 :: .row (.slice NA q.length nc) q.length (q.map U64) 22 1 :: fs)) (hin : Rd W W.heap.size 1 A b.length (b.map B8)) (hbc : b.length ≤ c) (hl : ∀ z ∈ b, z < 256) (hb : b.length ≤ 16777216) (ha : p ≤ b.length) (hq : q.length ≤ p) (h : (vread (b.drop p)).2.2 ≠ 0) :
  Calls Tryz.prog 107 #[.pointer (some ⟨g, 0, none⟩), .int .u64 (lo : Int), .int .u64 (hi : Int)] w (Dies W fs (pan errT 344)) :=
 (qhg W w g p A NA c nc b q sv fs lo hi hhi HW hin hbc hl hb ha hq).mono fun r w' h1 => by
  rcases h1 with ⟨x2, e2, NA, nc, h2, _⟩ | ⟨⟨x2, e2, h2, _⟩, _⟩ | ⟨_, h2⟩
  ·rw [h2.1] at h; exact absurd rfl h
  ·rw [h2.1] at h; exact absurd rfl h
  ·exact h2
def qt9 (W : World) (g p : Nat) (A : Option Addr) (c : Nat) (b q : List Nat) (sv : Value) (n : Nat) (fs : List Fact) (r : Ending) (w' : World) : Prop :=
 (∃ xs e NA nc, qy b n p xs e ∧ r = .returned (.tuple #[]) ∧ (q ++ xs).length ≤ nc ∧ Mem W w' (.blk g #[.slice A b.length c, .int .i64 (e : Int), .slice NA (q ++ xs).length nc, sv] 109 :: .row (.slice NA (q ++ xs).length nc) (q ++ xs).length ((q ++ xs).map U64) 22 1 :: fs)) ∨ ((readN n (b.drop p)).2.2 ≠ 0 ∧ Dies W fs (pan errT 344) r w')
theorem qua {W w' : World} {g p : Nat} {A : Option Addr} {c : Nat} {b q : List Nat} {sv : Value} {fs : List Fact} {r : Ending} {n : Nat} (h : (readN n (b.drop p)).2.2 ≠ 0) (hd : Dies W fs (pan errT 344) r w') : qt9 W g p A c b q sv n fs r w' := .inr ⟨h, hd⟩
theorem qub {W w' : World} {g p : Nat} {A : Option Addr} {c : Nat} {b q : List Nat} {sv : Value} {fs : List Fact} {r : Ending} {n e nc : Nat} {xs : List Nat} {NA : Option Addr} (h : qy b n p xs e) (hr : r = .returned (.tuple #[])) (hc : (q ++ xs).length ≤ nc) (hm : Mem W w' (.blk g #[.slice A b.length c, .int .i64 (e : Int), .slice NA (q ++ xs).length nc, sv] 109 :: .row (.slice NA (q ++ xs).length nc) (q ++ xs).length ((q ++ xs).map U64) 22 1 :: fs)) : qt9 W g p A c b q sv n fs r w' := .inl ⟨xs, e, NA, nc, h, hr, hc, hm⟩
theorem qox (W w : World) (g p : Nat) (A NA : Option Addr) (c nc : Nat) (b q : List Nat) (sv : Value) (fs : List Fact) (n : Nat) (hnn : n ≤ 1000000) (hnc : q.length ≤ nc) (HW : Mem W w (.blk g #[.slice A b.length c, vI p, .slice NA q.length nc, sv] 109 :: .row (.slice NA q.length nc) q.length (q.map U64) 22 1 :: fs)) (hin : Rd W W.heap.size 1 A b.length (b.map B8)) (hbc : b.length ≤ c) (hl : ∀ z ∈ b, z < 256) (hb : b.length ≤ 16777216) (ha : p ≤ b.length) (hq : q.length ≤ p) :
    Calls Tryz.prog 108 #[.pointer (some ⟨g, 0, none⟩), .int .i64 (n : Int)] w (qt9 W g p A c b q sv n fs) := by
 refine s_ce Tryz.func108 [vP g 0, vI n] [(0, vP g 0), (1, vI n)] fun a M => ?_
 have O := Mem.start w
 replace O := HW
 refine s_fs1 ?_
 refine fp M 2 0 [(5, vI 0), (4, vI n)] fun a M => s_d0 ?_
 rw [← List.append_nil q] at O
 refine wp_block ?_
 refine qe (fun mS aS wS => ∃ (k : Nat) (xs : List Nat) (e : Nat) (NA : Option Addr) (nc : Nat), (qy b k p xs e) ∧ (k ≤ n) ∧ ((q ++ xs).length ≤ nc) ∧ mS = n - k ∧ Fr aS 10 [] [(0, vP g 0), (4, vI n), (5, vI k)] ∧ Mem W wS (.blk g #[.slice A b.length c, vI e, .slice NA ((q ++ xs).length) nc, sv] 109 :: .row (.slice NA ((q ++ xs).length) nc) ((q ++ xs).length) ((q ++ xs).map U64) 22 1 :: fs)) (m := n - 0) ⟨0, [], p, NA, nc, qy.nil b p, Nat.zero_le _, (by rw [List.append_nil]; exact hnc), rfl, M.sub (by kernel_rfl), O.pt 2 [0, 1]⟩ ?_
 clear M O; rintro mS a w_ ⟨k, xs, e, NA, nc, hxs, hle, hnc, rfl, M, O⟩
 have hin2 := hxs.in ha
 refine s_fs1 ?_
 refine fp M 1 0 [(6, .bool (decide ((k : Int) < (n : Int))))] fun a M => s_d0 (wp_seq ?_)
 rcases M.tf 6 rfl with ⟨hb6, M⟩ | ⟨hb6, M⟩
 ·
  have hd6 := of_decide_eq_true hb6
  refine s_ct M (wp_skip (wp_seq (wp_block ?_)))
  have hkn : k < n := by omega
  rcases qik b e with hv | ⟨x, e2, hv⟩
  ·
   refine qa ?_
   refine fp M 1 0 [(7, vP g 0)] fun a M => fo M 1 rfl rfl ?_
   exact qav M [vP g 0] rfl (qeq W _ g e A NA c nc b (q ++ xs) sv _ (O.pt 2 [0, 1]) hin hbc hl hb (by omega) (by rw [List.length_append]; omega) hv) fun w2 O => qb5 M (qua (hxs.stuck hkn hv) ⟨rfl, O⟩)
  ·
   refine qa ?_
   refine fp M 1 0 [(7, vP g 0)] fun a M => fo M 1 rfl rfl ?_
   refine e_cl M [vP g 0] rfl rfl (qep W _ g e A NA c nc b (q ++ xs) sv _ (O.pt 2 [0, 1]) hin hbc hl hb (by omega) (by rw [List.length_append]; omega) hv) ?_
   rintro _ w8 ⟨rfl, A8, c8, hc8, HM2⟩
   refine ⟨_, rfl, ?_⟩
   replace O := HM2
   clear M; intro a M
   refine s_d0 ?_
   rw [List.append_assoc] at O
   refine qa ?_
   refine fp M 1 0 [(9, vI (IntKind.i64.wrap ((k : Int) + 1)))] fun a M => ?_
   replace M := M.sp 9 (vI (k + 1 : Nat)) rfl (qc (by omega) (by omega))
   refine fp M 1 1 [(5, vI (k + 1 : Nat))] fun a M => s_d0 ?_
   exact ⟨_, (by omega), k + 1, (xs ++ [x]), e2, A8, c8, hxs.snoc hv, hkn, (by rwa [List.append_assoc] at hc8), rfl, M.sub (by kernel_rfl), O.pt 2 [0, 1]⟩
 have hd6 := of_decide_eq_false hb6
 refine s_cf M (wp_exit ?_)
 obtain rfl : k = n := by omega
 exact norm0 rfl M (qub hxs rfl hnc O)
theorem qhi (W w : World) (g p : Nat) (A NA : Option Addr) (c nc : Nat) (b q : List Nat) (sv : Value) (fs : List Fact) (n : Nat) (hnn : n ≤ 1000000) (hnc : q.length ≤ nc) (HW : Mem W w (.blk g #[.slice A b.length c, vI p, .slice NA q.length nc, sv] 109 :: .row (.slice NA q.length nc) q.length (q.map U64) 22 1 :: fs)) (hin : Rd W W.heap.size 1 A b.length (b.map B8)) (hbc : b.length ≤ c) (hl : ∀ z ∈ b, z < 256) (hb : b.length ≤ 16777216) (ha : p ≤ b.length) (hq : q.length ≤ p) {xs : List Nat} {e : Nat} (h : qy b n p xs e) :
  Calls Tryz.prog 108 #[.pointer (some ⟨g, 0, none⟩), .int .i64 (n : Int)] w (fun r w' => r = .returned (.tuple #[]) ∧ ∃ NA nc, (q ++ xs).length ≤ nc ∧ Mem W w' (.blk g #[.slice A b.length c, .int .i64 (e : Int), .slice NA (q ++ xs).length nc, sv] 109 :: .row (.slice NA (q ++ xs).length nc) (q ++ xs).length ((q ++ xs).map U64) 22 1 :: fs)) :=
 (qox W w g p A NA c nc b q sv fs n hnn hnc HW hin hbc hl hb ha hq).mono fun r w' h1 => by
  rcases h1 with ⟨x2, e2, NA, nc, h2, h3, h4, h5⟩ | ⟨h2, _⟩
  ·obtain ⟨rfl, rfl⟩ := qy.one h h2
   exact ⟨h3, NA, nc, h4, h5⟩
  ·rw [h.1] at h2; exact absurd rfl h2
theorem qhj (W w : World) (g p : Nat) (A NA : Option Addr) (c nc : Nat) (b q : List Nat) (sv : Value) (fs : List Fact) (n : Nat) (hnn : n ≤ 1000000) (hnc : q.length ≤ nc) (HW : Mem W w (.blk g #[.slice A b.length c, vI p, .slice NA q.length nc, sv] 109 :: .row (.slice NA q.length nc) q.length (q.map U64) 22 1 :: fs)) (hin : Rd W W.heap.size 1 A b.length (b.map B8)) (hbc : b.length ≤ c) (hl : ∀ z ∈ b, z < 256) (hb : b.length ≤ 16777216) (ha : p ≤ b.length) (hq : q.length ≤ p) (h : (readN n (b.drop p)).2.2 ≠ 0) :
  Calls Tryz.prog 108 #[.pointer (some ⟨g, 0, none⟩), .int .i64 (n : Int)] w (Dies W fs (pan errT 344)) :=
 (qox W w g p A NA c nc b q sv fs n hnn hnc HW hin hbc hl hb ha hq).mono fun r w' h1 => by
  rcases h1 with ⟨x2, e2, NA, nc, h2, h3, h4, h5⟩ | ⟨_, h2⟩
  ·rw [h2.1] at h; exact absurd rfl h
  ·exact h2
theorem q2c (W w : World) (g p : Nat) (iv nv : Value) (SA : Option Addr) (sc : Nat) (l : List Sec) (nm : ByteArray) (fs : List Fact) (HW : Mem W w (.blk g #[iv, .int .i64 (p : Int), nv, .slice SA l.length sc] 109 :: .row (.slice SA l.length sc) l.length (l.flatMap secL) 82 3 :: fs)) (hll : l.length ≤ 1000) :
    Calls Tryz.prog 105 #[.pointer (some ⟨g, 0, none⟩), .string nm] w (fun r w' => r = .returned (.tuple #[]) ∧ ∃ SA sc, (l ++ [(⟨nm, zm l, p⟩ : Sec)]).length ≤ sc ∧ Mem W w' (.blk g #[iv, .int .i64 (p : Int), nv, .slice SA (l ++ [(⟨nm, zm l, p⟩ : Sec)]).length sc] 109 :: .row (.slice SA (l ++ [(⟨nm, zm l, p⟩ : Sec)]).length sc) (l ++ [(⟨nm, zm l, p⟩ : Sec)]).length ((l ++ [(⟨nm, zm l, p⟩ : Sec)]).flatMap secL) 82 3 :: fs)) := by
 refine s_ce Tryz.func105 [vP g 0, .string nm] [(0, vP g 0), (1, .string nm)] fun a M => ?_
 have O := Mem.start w
 replace O := HW
 refine s_fs1 ?_
 refine fp M 1 0 [(4, vI 0)] fun a M => s_d0 (wp_seq (s_fs1 ?_))
 refine fp M 1 0 [(6, vP g 0)] fun a M => s_fk M 1 fun a M => ?_
 refine fp M 1 2 [(8, vP g 3)] fun a M => s_fc M O 3 0 fun a M => ?_
 refine s_fl M 4 fun a M => ?_
 refine fp M 1 5 [(5, vI l.length)] fun a M => s_d0 (s_fs1 ?_)
 refine fp M 2 0 [(12, .bool (decide ((l.length : Int) > (0 : Int))))] fun a M => s_d0 ?_
 rcases M.tf 12 rfl with ⟨hb12, M⟩ | ⟨hb12, M⟩
 ·
  have hd12 := of_decide_eq_true hb12
  refine s_ct M (qa ?_)
  refine fp M 1 0 [(13, vP g 0)] fun a M => s_fk M 1 fun a M => ?_
  refine fp M 1 2 [(15, vP g 3)] fun a M => s_fc M O 3 0 fun a M => ?_
  refine fp M 2 4 [(18, vI (IntKind.i64.wrap ((l.length : Int) - 1)))] fun a M => ?_
  replace M := M.sp 18 (vI (l.length - 1 : Nat)) rfl (qc (by omega) (by omega))
  obtain ⟨gSA, rfl⟩ := q9 (O.own (i := 1) rfl) (Nat.lt_of_le_of_lt (Nat.zero_le _) (show l.length - 1 < l.length from by omega))
  refine s_fz M O 6 rfl (v := vP gSA ((l.length - 1) * 3)) (Yl.ix0 gSA (l.length - 1) 3 rfl rfl rfl) fun a M => ?_
  refine fp M 1 7 [(20, vP gSA ((l.length - 1) * 3 + 2))] fun a M => s_fz M O 8 rfl (v := vI ((l.getD (l.length - 1) Sec.zero).to)) (Yl.qk rfl rfl (by kernel_rfl) (fun _ h => h.qbt qaa (i := 1) rfl (k := (l.length - 1)) (off := 2) (x := (l.getD (l.length - 1) Sec.zero)) ((getD_at Sec.zero (by omega))) rfl)) fun a M => ?_
  replace M := M.sp 21 (vI (zm l)) rfl (rfl)
  refine fp M 1 9 [(4, vI (zm l))] fun a M => s_d0 (zk O (.blk g #[iv, vI p, nv, vS gSA l.length sc] 109 :: fs) 2 [0] [16] fun O Z => ?_)
  refine ap M (fun _ => Z) [0, 1, 5, 6, 7] (bf 17 [0, 1, 5, 6, 7]) [(29, vP g 0), (28, vI (zm l)), (27, .string nm), (23, vP g 0), (22, vP g 0)] fun a M => ?_
  refine s_am M Z 2 fun a M => ?_
  refine ap M (fun _ => Z) [3] (bf 17 [0, 1, 2, 3, 5, 6, 7]) [(25, vP g 3)] fun a M => ?_
  refine s_ac M Z 4 0 fun a M => ?_
  refine s_am M Z 8 fun a M => ?_
  refine ap M (fun _ => Z) [9] (bt 17 [10, 11, 12, 13, 14, 15, 16]) [(31, vP g 1)] fun a M => ?_
  refine s_ac M Z 10 0 fun a M => ?_
  refine s_az M Z 11 rfl (v := .agg #[.string nm, vI (zm l), vI p]) (Yl.build (vs := [(0, .string nm), (1, vI (zm l)), (2, vI p)]) rfl (by kernel_rfl) (by kernel_rfl)) fun a M => ?_
  refine s_on M 12 rfl (s_el M O qoh [(0, .agg #[.string nm, vI (zm l), vI p])] #[.string nm, vI (zm l), vI p] fun a w34 g34 M O => ?_)
  refine keepS (O.pt 3 [1]) (fun Z => ?_)
  refine s_on M 13 rfl (qd M O (i := 2) rfl qoh rfl rfl rfl (news := ([(⟨nm, zm l, p⟩ : Sec)].flatMap secL)) (O.rdBlk (i := 0) (n := 1) (size := 3) rfl rfl) (qmd _) (by omega) (by omega) rfl (by decide) fun a w35 A35 c35 M O hc35 => ?_)
  refine keepS (O.pt 3 [1]) (fun Z => ?_)
  refine s_an M (fun _ => Z) 14 fun a M => ?_
  refine ap M (fun _ => Z) [15] (bt 17 [16]) [(37, vP g 3)] fun a M => ?_
  refine s_on M 16 rfl (s_es M O 1 fun w4_16 O => ?_)
  refine noS (by kernel_rfl) ?_
  refine qh (by kernel_rfl) ?_
  have hnA35 : l.length + 1 = (l ++ [(⟨nm, zm l, p⟩ : Sec)]).length := qs rfl
  replace O := O.reRow (i := 2) (ys := (l ++ [(⟨nm, zm l, p⟩ : Sec)]).flatMap secL) rfl hnA35 (List.flatMap_append.symm)
  rw [hnA35] at hc35
  replace M := M.sp 35 (.slice A35 ((l ++ [(⟨nm, zm l, p⟩ : Sec)]).length) c35) rfl (by rw [hnA35])
  replace O := O.reBlk (i := 1) (ds := #[iv, vI p, nv, .slice A35 ((l ++ [(⟨nm, zm l, p⟩ : Sec)]).length) c35]) rfl (by rw [hnA35]; rfl)
  exact norm0 rfl M ⟨rfl, A35, c35, hc35, O.pt 3 [1, 2]⟩
 have hd12 := of_decide_eq_false hb12
 replace M := M.sp 4 (vI (zm l)) rfl (by rw [qv3 (l := l) (by omega)]; rfl)
 refine s_cf M (wp_skip ?_)
 refine zk O (.blk g #[iv, vI p, nv, .slice SA l.length sc] 109 :: fs) 2 [0] [16] fun O Z => ?_
 refine ap M (fun _ => Z) [0, 1, 5, 6, 7] (bf 17 [0, 1, 5, 6, 7]) [(29, vP g 0), (28, vI (zm l)), (27, .string nm), (23, vP g 0), (22, vP g 0)] fun a M => ?_
 refine s_am M Z 2 fun a M => ?_
 refine ap M (fun _ => Z) [3] (bf 17 [0, 1, 2, 3, 5, 6, 7]) [(25, vP g 3)] fun a M => ?_
 refine s_ac M Z 4 0 fun a M => ?_
 refine s_am M Z 8 fun a M => ?_
 refine ap M (fun _ => Z) [9] (bt 17 [10, 11, 12, 13, 14, 15, 16]) [(31, vP g 1)] fun a M => ?_
 refine s_ac M Z 10 0 fun a M => ?_
 refine s_az M Z 11 rfl (v := .agg #[.string nm, vI (zm l), vI p]) (Yl.build (vs := [(0, .string nm), (1, vI (zm l)), (2, vI p)]) rfl (by kernel_rfl) (by kernel_rfl)) fun a M => ?_
 refine s_on M 12 rfl (s_el M O qoh [(0, .agg #[.string nm, vI (zm l), vI p])] #[.string nm, vI (zm l), vI p] fun a w34 g34 M O => ?_)
 refine keepS (O.pt 3 [1]) (fun Z => ?_)
 refine s_on M 13 rfl (qd M O (i := 2) rfl qoh rfl rfl rfl (news := ([(⟨nm, zm l, p⟩ : Sec)].flatMap secL)) (O.rdBlk (i := 0) (n := 1) (size := 3) rfl rfl) (qmd _) (by omega) (by omega) rfl (by decide) fun a w35 A35 c35 M O hc35 => ?_)
 refine keepS (O.pt 3 [1]) (fun Z => ?_)
 refine s_an M (fun _ => Z) 14 fun a M => ?_
 refine ap M (fun _ => Z) [15] (bt 17 [16]) [(37, vP g 3)] fun a M => ?_
 refine s_on M 16 rfl (s_es M O 1 fun w4_16 O => ?_)
 refine noS (by kernel_rfl) ?_
 refine qh (by kernel_rfl) ?_
 have hnA35 : l.length + 1 = (l ++ [(⟨nm, zm l, p⟩ : Sec)]).length := qs rfl
 replace O := O.reRow (i := 2) (ys := (l ++ [(⟨nm, zm l, p⟩ : Sec)]).flatMap secL) rfl hnA35 (List.flatMap_append.symm)
 rw [hnA35] at hc35
 replace M := M.sp 35 (.slice A35 ((l ++ [(⟨nm, zm l, p⟩ : Sec)]).length) c35) rfl (by rw [hnA35])
 replace O := O.reBlk (i := 1) (ds := #[iv, vI p, nv, .slice A35 ((l ++ [(⟨nm, zm l, p⟩ : Sec)]).length) c35]) rfl (by rw [hnA35]; rfl)
 exact norm0 rfl M ⟨rfl, A35, c35, hc35, O.pt 3 [1, 2]⟩
theorem qer (W w : World) (g p : Nat) (iv nv : Value) (SA : Option Addr) (sc : Nat) (l : List Sec) (nm : ByteArray) (fs : List Fact) (HW : Mem W w (.blk g #[iv, .int .i64 (p : Int), nv, .slice SA l.length sc] 109 :: .row (.slice SA l.length sc) l.length (l.flatMap secL) 82 3 :: fs)) (hll : l.length ≤ 1000) {l2 : List Sec} (h : l ++ [(⟨nm, zm l, p⟩ : Sec)] = l2) :
  Calls Tryz.prog 105 #[.pointer (some ⟨g, 0, none⟩), .string nm] w (fun r w' => r = .returned (.tuple #[]) ∧ ∃ SA sc, l2.length ≤ sc ∧ Mem W w' (.blk g #[iv, .int .i64 (p : Int), nv, .slice SA l2.length sc] 109 :: .row (.slice SA l2.length sc) l2.length (l2.flatMap secL) 82 3 :: fs)) := by
 subst h
 exact q2c W w g p iv nv SA sc l nm fs HW hll
def qoy (W : World) (g : Nat) (A : Option Addr) (c : Nat) (b : List Nat) (fs : List Fact) (r : Ending) (w' : World) : Prop :=
 (∃ p NA nc SA sc, prs b = .ok p ∧ r = .returned (.int .i64 0) ∧ p.nums.length ≤ nc ∧ p.secs.length ≤ sc ∧ Mem W w' (.blk g #[.slice A b.length c, .int .i64 ((b.length + 4 : Nat) : Int), .slice NA p.nums.length nc, .slice SA p.secs.length sc] 109 :: .row (.slice NA p.nums.length nc) p.nums.length (p.nums.map U64) 22 1 :: .row (.slice SA p.secs.length sc) p.secs.length (p.secs.flatMap secL) 82 3 :: fs)) ∨ (∃ k : Nat, prs b = .error k ∧ r = .returned (.int .i64 (k : Int)) ∧ Mem W w' fs)
section
variable {W w : World} {g g2 c k i n : Nat} {A : Option Addr} {b : List Nat} {fs ks : List Fact} {σ : List (Nat × Value)} {a : Act}
theorem zr (M : Fr a n [{ target := .fn (.func 104) [Value.pointer (some ⟨g2, 0, none⟩)].toArray, args := #[] }] σ) (h2 : σ.lookup 2 = some (.pointer (some ⟨g2, 0, none⟩))) (O : Mem W w ks) (hi : ks[i]? = some (.blk g2 #[.int .i64 0] errT)) (hp : prs b = .error k) (j : List Nat) (hj : j.Nodup) (he : picks (ks.set i (.blk g2 #[.int .i64 (k : Int)] errT)) j = fs) :
  Leaves Tryz.prog Tryz.f78 a.tmps (qoy W g A c b fs) a.defers (.panicking (pan errT k)) w := by
 refine qpr (v := .int .i64 (k : Int)) M (by kernel_rfl) (qsn k 0 w O hi rfl) rfl fun w' hm => ⟨?_, .inr ⟨k, hp, rfl, hm.picks j hj he⟩⟩
 have hl := (List.getElem?_eq_some_iff.1 hi).1
 exact z5.cell1 (i := i) M hm h2 (List.getElem?_set_self hl) (by kernel_rfl) rfl
theorem qwu (M : Fr a n [{ target := .fn (.func 104) [Value.pointer (some ⟨g2, 0, none⟩)].toArray, args := #[] }] σ) (h2 : σ.lookup 2 = some (.pointer (some ⟨g2, 0, none⟩))) (O : Mem W w ks) (hi : ks[i]? = some (.blk g2 #[.int .i64 0] errT)) (hk : ∀ w', Mem W w' (ks.set i (.blk g2 #[.int .i64 0] errT)) → qoy W g A c b fs (.returned (.int .i64 0)) w') :
  Leaves Tryz.prog Tryz.f78 a.tmps (qoy W g A c b fs) a.defers .returning w := by
 refine qsi (v := .int .i64 0) M (by kernel_rfl) (qps 0 w O hi rfl) rfl fun w' hm => ⟨?_, hk w' hm⟩
 have hl := (List.getElem?_eq_some_iff.1 hi).1
 exact z5.cell1 (i := i) M hm h2 (List.getElem?_set_self hl) (by kernel_rfl) rfl
end
theorem qoz (nx cp cr gp : Nat) (gs cl cu : List Nat) (tk : Nat) (ts sp : List Nat) (e1 e2 e3 e4 e5 e6 e7 : Nat) : (⟨nx, cp, cr, gp, gs, cl, cu, tk, ts, sp, e1, e2, e3, e4, e5, e6, e7⟩ : Pr).nums = ((((((((((([] : List Nat) ++ [nx]) ++ [cp]) ++ [cr]) ++ [gp]) ++ gs) ++ cl) ++ cu) ++ [tk]) ++ ts) ++ sp) := by simp [Pr.nums]
theorem qo0 (W w : World) (g : Nat) (A : Option Addr) (c : Nat) (b : List Nat) (HW : Mem W w [.blk g #[.slice A b.length c, .int .i64 0, .slice none 0 0, .slice none 0 0] 109]) (hin : Rd W W.heap.size 1 A b.length (b.map B8)) (hbc : b.length ≤ c) (hl : ∀ z ∈ b, z < 256) (hb : b.length ≤ 16777216) (hb3 : 3 ≤ b.length) :
    Calls Tryz.prog 78 #[.pointer (some ⟨g, 0, none⟩)] w (qoy W g A c b []) := by
 refine qk0 (vs := [vP g 0]) Tryz.func78 rfl rfl (by kernel_rfl) (σ0 := [(0, vP g 0)]) rfl ?_
 intro a M
 have O := Mem.start w
 replace O := (HW.nil 82 3).nil 22 1
 have hc0 : ([] : List Nat).length ≤ 0 := Nat.le_refl _
 have hp : prs b = prs b := rfl
 have hq0 : ([] : List Nat).length ≤ 3 := Nat.zero_le _
 refine s_fs1 ?_
 refine fo M 0 rfl rfl (s_ea M O #[vI 0] fun a w2 g2 M O => ?_)
 refine s_d0 (s_fs1 ?_)
 refine s_fz M O 0 rfl (v := .func (.func 104) #[] #[vP g2 0]) (Yl.makeFunc (fst := []) (caps := [vP g2 0]) rfl rfl rfl) fun a M => ?_
 refine fo M 1 rfl rfl ?_
 refine qzi M (f := 104) (caps := [vP g2 0]) rfl rfl rfl fun a M => ?_
 refine s_d0 (s_fs1 ?_)
 refine fp M 1 0 [(6, vP g 0)] fun a M => s_fk M 1 fun a M => ?_
 refine fp M 1 2 [(8, vP g 1)] fun a M => fo M 3 rfl rfl (s_es M O 3 fun w2_3 O => ?_)
 refine s_d0 (s_fs1 ?_)
 refine fp M 1 0 [(9, vP g 0)] fun a M => fo M 1 rfl rfl ?_
 refine e_cl M [vP g 0, .string (ByteArray.mk #[104, 101, 97, 100])] rfl rfl (qer (l2 := [qj]) W _ g 3 _ _ none 0 ([] : List Sec) _ _ (O.pk [3, 2, 0, 1]) (Nat.le_of_ble_eq_true rfl) rfl) ?_
 rintro _ w10 ⟨rfl, S10, k10, hk10, HM2⟩
 refine ⟨_, rfl, ?_⟩
 replace O := HM2
 clear M; intro a M
 refine s_d0 ?_
 replace O : Mem W _ [.blk g #[.slice A b.length c, vI 3, .slice none (([] : List Nat).length) 0, .slice S10 ([qj].length) k10] 109, .row (.slice S10 ([qj].length) k10) ([qj].length) ([qj].flatMap secL) 82 3, .blk g2 #[vI 0] 53, .row (.slice none (([] : List Nat).length) 0) (([] : List Nat).length) (([] : List Nat).map U64) 22 1] := O
 refine wp_seq ?_
 rcases qik b 3 with hv_e1 | ⟨nx, e1, hv_e1⟩
 ·
  refine qa ?_
  refine fp M 1 0 [(11, vP g 0)] fun a M => fo M 1 rfl rfl ?_
  exact qav M [vP g 0] rfl (qeq W _ g 3 A none c 0 b ([] : List Nat) (.slice S10 ([qj].length) k10) _ (O.pk [0, 3, 1, 2]) hin hbc hl hb hb3 hq0 hv_e1) fun w2 O => zr M rfl O (i := 1) rfl (hp.trans (qfc hv_e1)) [] (by decide) rfl
 ·
  have hp := hp.trans hv_e1.go1
  have hi_e1 := hv_e1.in hb3
  have hq_e1 := q_le1 (x := nx) hq0 hi_e1.1
  refine qa ?_
  refine fp M 1 0 [(11, vP g 0)] fun a M => fo M 1 rfl rfl ?_
  refine e_cl M [vP g 0] rfl rfl (qep W _ g 3 A none c 0 b ([] : List Nat) (.slice S10 ([qj].length) k10) _ (O.pk [0, 3, 1, 2]) hin hbc hl hb hb3 hq0 hv_e1) ?_
  rintro _ w12 ⟨rfl, A12, c12, hc12, HM2⟩
  refine ⟨_, rfl, ?_⟩
  replace O := HM2
  clear M; intro a M
  refine s_d0 (s_fs1 ?_)
  refine fp M 1 0 [(13, vP g 0)] fun a M => fo M 1 rfl rfl ?_
  refine e_cl M [vP g 0, .string (ByteArray.mk #[110, 101, 120, 116])] rfl rfl (qer (l2 := [qj, ⟨qb 0, 3, e1⟩]) W _ g e1 _ _ S10 k10 ([qj]) _ _ (O.pk [0, 2, 1, 3]) (Nat.le_of_ble_eq_true rfl) rfl) ?_
  rintro _ w14 ⟨rfl, S14, k14, hk14, HM2⟩
  refine ⟨_, rfl, ?_⟩
  replace O := HM2
  clear M; intro a M
  refine s_d0 ?_
  replace O : Mem W _ [.blk g #[.slice A b.length c, vI e1, .slice A12 ((([] : List Nat) ++ [nx]).length) c12, .slice S14 ([qj, ⟨qb 0, 3, e1⟩].length) k14] 109, .row (.slice S14 ([qj, ⟨qb 0, 3, e1⟩].length) k14) ([qj, ⟨qb 0, 3, e1⟩].length) ([qj, ⟨qb 0, 3, e1⟩].flatMap secL) 82 3, .row (.slice A12 ((([] : List Nat) ++ [nx]).length) c12) ((([] : List Nat) ++ [nx]).length) ((([] : List Nat) ++ [nx]).map U64) 22 1, .blk g2 #[vI 0] 53] := O
  refine wp_seq ?_
  rcases qnz b e1 1 64 with hv_a1 | ⟨cp, a1, hv_a1, hr_a1⟩ | ⟨cp, a1, hv_a1, hr_a1⟩
  ·
   refine qa ?_
   refine fp M 1 0 [(15, vP g 0)] fun a M => fo M 1 rfl rfl ?_
   exact qav M [vP g 0, vQ 1, vQ 64] rfl (qjr W _ g e1 A A12 c c12 b (([] : List Nat) ++ [nx]) (.slice S14 ([qj, ⟨qb 0, 3, e1⟩].length) k14) _ 1 64 (by decide) (O.pk [0, 2, 1, 3]) hin hbc hl hb hi_e1.2 hq_e1 hv_a1) fun w2 O => zr M rfl O (i := 1) rfl (hp.trans (qdo hv_a1)) [] (by decide) rfl
  ·
   refine qa ?_
   refine fp M 1 0 [(15, vP g 0)] fun a M => fo M 1 rfl rfl ?_
   exact qav M [vP g 0, vQ 1, vQ 64] rfl (qhh W _ g e1 A A12 c c12 b (([] : List Nat) ++ [nx]) (.slice S14 ([qj, ⟨qb 0, 3, e1⟩].length) k14) _ 1 64 (by decide) (O.pk [0, 2, 1, 3]) hin hbc hl hb hi_e1.2 hq_e1 hv_a1 hr_a1) fun w2 O => zr M rfl O (i := 1) rfl (hp.trans (hv_a1.bad hr_a1)) [] (by decide) rfl
  ·
   have hp := hp.trans (hv_a1.goC hr_a1)
   have hi_a1 := hv_a1.in hi_e1.2
   have hq_a1 := q_le1 (x := cp) hq_e1 hi_a1.1
   refine qa ?_
   refine fp M 1 0 [(15, vP g 0)] fun a M => fo M 1 rfl rfl ?_
   refine e_cl M [vP g 0, vQ 1, vQ 64] rfl rfl (qf7 W _ g e1 A A12 c c12 b (([] : List Nat) ++ [nx]) (.slice S14 ([qj, ⟨qb 0, 3, e1⟩].length) k14) _ 1 64 (by decide) (O.pk [0, 2, 1, 3]) hin hbc hl hb hi_e1.2 hq_e1 hv_a1 hr_a1) ?_
   rintro _ w16 ⟨rfl, A16, c16, hc16, HM2⟩
   refine ⟨_, rfl, ?_⟩
   replace O := HM2
   clear M; intro a M
   refine fp M 1 2 [(3, vI cp)] fun a M => s_d0 (wp_seq ?_)
   rcases qik b a1 with hv_a2 | ⟨cr, a2, hv_a2⟩
   ·
    refine qa ?_
    refine fp M 1 0 [(17, vP g 0)] fun a M => fo M 1 rfl rfl ?_
    exact qav M [vP g 0] rfl (qeq W _ g a1 A A16 c c16 b ((([] : List Nat) ++ [nx]) ++ [cp]) (.slice S14 ([qj, ⟨qb 0, 3, e1⟩].length) k14) _ (O.pk [0, 1, 2, 3]) hin hbc hl hb hi_a1.2 hq_a1 hv_a2) fun w2 O => zr M rfl O (i := 1) rfl (hp.trans (qfc hv_a2)) [] (by decide) rfl
   ·
    have hp := hp.trans hv_a2.go1
    have hi_a2 := hv_a2.in hi_a1.2
    have hq_a2 := q_le1 (x := cr) hq_a1 hi_a2.1
    refine qa ?_
    refine fp M 1 0 [(17, vP g 0)] fun a M => fo M 1 rfl rfl ?_
    refine e_cl M [vP g 0] rfl rfl (qep W _ g a1 A A16 c c16 b ((([] : List Nat) ++ [nx]) ++ [cp]) (.slice S14 ([qj, ⟨qb 0, 3, e1⟩].length) k14) _ (O.pk [0, 1, 2, 3]) hin hbc hl hb hi_a1.2 hq_a1 hv_a2) ?_
    rintro _ w18 ⟨rfl, A18, c18, hc18, HM2⟩
    refine ⟨_, rfl, ?_⟩
    replace O := HM2
    clear M; intro a M
    refine s_d0 (wp_seq ?_)
    rcases qnz b a2 1 256 with hv_e2 | ⟨gp, e2, hv_e2, hr_e2⟩ | ⟨gp, e2, hv_e2, hr_e2⟩
    ·
     refine qa ?_
     refine fp M 1 0 [(19, vP g 0)] fun a M => fo M 1 rfl rfl ?_
     exact qav M [vP g 0, vQ 1, vQ 256] rfl (qjr W _ g a2 A A18 c c18 b (((([] : List Nat) ++ [nx]) ++ [cp]) ++ [cr]) (.slice S14 ([qj, ⟨qb 0, 3, e1⟩].length) k14) _ 1 256 (by decide) (O.pk [0, 1, 2, 3]) hin hbc hl hb hi_a2.2 hq_a2 hv_e2) fun w2 O => zr M rfl O (i := 1) rfl (hp.trans (qdo hv_e2)) [] (by decide) rfl
    ·
     refine qa ?_
     refine fp M 1 0 [(19, vP g 0)] fun a M => fo M 1 rfl rfl ?_
     exact qav M [vP g 0, vQ 1, vQ 256] rfl (qhh W _ g a2 A A18 c c18 b (((([] : List Nat) ++ [nx]) ++ [cp]) ++ [cr]) (.slice S14 ([qj, ⟨qb 0, 3, e1⟩].length) k14) _ 1 256 (by decide) (O.pk [0, 1, 2, 3]) hin hbc hl hb hi_a2.2 hq_a2 hv_e2 hr_e2) fun w2 O => zr M rfl O (i := 1) rfl (hp.trans (hv_e2.bad hr_e2)) [] (by decide) rfl
    ·
     have hp := hp.trans (hv_e2.goC hr_e2)
     have hi_e2 := hv_e2.in hi_a2.2
     have hq_e2 := q_le1 (x := gp) hq_a2 hi_e2.1
     refine qa ?_
     refine fp M 1 0 [(19, vP g 0)] fun a M => fo M 1 rfl rfl ?_
     refine e_cl M [vP g 0, vQ 1, vQ 256] rfl rfl (qf7 W _ g a2 A A18 c c18 b (((([] : List Nat) ++ [nx]) ++ [cp]) ++ [cr]) (.slice S14 ([qj, ⟨qb 0, 3, e1⟩].length) k14) _ 1 256 (by decide) (O.pk [0, 1, 2, 3]) hin hbc hl hb hi_a2.2 hq_a2 hv_e2 hr_e2) ?_
     rintro _ w20 ⟨rfl, A20, c20, hc20, HM2⟩
     refine ⟨_, rfl, ?_⟩
     replace O := HM2
     clear M; intro a M
     refine fp M 1 2 [(4, vI gp)] fun a M => s_d0 ?_
     have h3 : 3 * cp * (gp - 1) ≤ 192 * 255 := Nat.mul_le_mul (by omega) (by omega)
     refine s_fs1 ?_
     refine fp M 1 0 [(21, vP g 0)] fun a M => fo M 1 rfl rfl ?_
     refine e_cl M [vP g 0, .string (ByteArray.mk #[99, 111, 110, 102, 105, 103])] rfl rfl (qer (l2 := [qj, ⟨qb 0, 3, e1⟩, ⟨qb 1, e1, e2⟩]) W _ g e2 _ _ S14 k14 ([qj, ⟨qb 0, 3, e1⟩]) _ _ (O.pk [0, 2, 1, 3]) (Nat.le_of_ble_eq_true rfl) rfl) ?_
     rintro _ w22 ⟨rfl, S22, k22, hk22, HM2⟩
     refine ⟨_, rfl, ?_⟩
     replace O := HM2
     clear M; intro a M
     refine s_d0 ?_
     replace O : Mem W _ [.blk g #[.slice A b.length c, vI e2, .slice A20 (((((([] : List Nat) ++ [nx]) ++ [cp]) ++ [cr]) ++ [gp]).length) c20, .slice S22 ([qj, ⟨qb 0, 3, e1⟩, ⟨qb 1, e1, e2⟩].length) k22] 109, .row (.slice S22 ([qj, ⟨qb 0, 3, e1⟩, ⟨qb 1, e1, e2⟩].length) k22) ([qj, ⟨qb 0, 3, e1⟩, ⟨qb 1, e1, e2⟩].length) ([qj, ⟨qb 0, 3, e1⟩, ⟨qb 1, e1, e2⟩].flatMap secL) 82 3, .row (.slice A20 (((((([] : List Nat) ++ [nx]) ++ [cp]) ++ [cr]) ++ [gp]).length) c20) (((((([] : List Nat) ++ [nx]) ++ [cp]) ++ [cr]) ++ [gp]).length) (((((([] : List Nat) ++ [nx]) ++ [cp]) ++ [cr]) ++ [gp]).map U64) 22 1, .blk g2 #[vI 0] 53] := O
     refine wp_seq ?_
     rcases qfd b (2 * (gp - 1)) e2 with hv_e3 | ⟨gs, e3, hv_e3⟩
     ·
      refine qa ?_
      refine fp M 3 0 [(25, vI (IntKind.i64.wrap ((gp : Int) - 1))), (23, vP g 0)] fun a M => ?_
      replace M := M.sp 25 (vI (gp - 1 : Nat)) rfl (qc (by omega) (by omega))
      refine fp M 1 3 [(26, vI (IntKind.i64.wrap (2 * ((gp - 1 : Nat) : Int))))] fun a M => ?_
      replace M := M.sp 26 (vI (2 * (gp - 1) : Nat)) rfl (qc (by omega) (by omega))
      refine fo M 4 rfl rfl ?_
      exact qav M [vP g 0, vI (2 * (gp - 1) : Nat)] rfl (qhj W _ g e2 A A20 c c20 b ((((([] : List Nat) ++ [nx]) ++ [cp]) ++ [cr]) ++ [gp]) (.slice S22 ([qj, ⟨qb 0, 3, e1⟩, ⟨qb 1, e1, e2⟩].length) k22) _ (2 * (gp - 1)) (by omega) hc20 (O.pk [0, 2, 1, 3]) hin hbc hl hb hi_e2.2 hq_e2 hv_e3) fun w2 O => zr M rfl O (i := 1) rfl (hp.trans (qbq hv_e3)) [] (by decide) rfl
     ·
      have hp := hp.trans hv_e3.goK
      have hi_e3 := hv_e3.in hi_e2.2
      have hq_e3 := q_leK (xs := gs) hq_e2 hi_e3.1 hi_e3.2.1
      refine qa ?_
      refine fp M 3 0 [(25, vI (IntKind.i64.wrap ((gp : Int) - 1))), (23, vP g 0)] fun a M => ?_
      replace M := M.sp 25 (vI (gp - 1 : Nat)) rfl (qc (by omega) (by omega))
      refine fp M 1 3 [(26, vI (IntKind.i64.wrap (2 * ((gp - 1 : Nat) : Int))))] fun a M => ?_
      replace M := M.sp 26 (vI (2 * (gp - 1) : Nat)) rfl (qc (by omega) (by omega))
      refine fo M 4 rfl rfl ?_
      refine e_cl M [vP g 0, vI (2 * (gp - 1) : Nat)] rfl rfl (qhi W _ g e2 A A20 c c20 b ((((([] : List Nat) ++ [nx]) ++ [cp]) ++ [cr]) ++ [gp]) (.slice S22 ([qj, ⟨qb 0, 3, e1⟩, ⟨qb 1, e1, e2⟩].length) k22) _ (2 * (gp - 1)) (by omega) hc20 (O.pk [0, 2, 1, 3]) hin hbc hl hb hi_e2.2 hq_e2 hv_e3) ?_
      rintro _ w27 ⟨rfl, A27, c27, hc27, HM2⟩
      refine ⟨_, rfl, ?_⟩
      replace O := HM2
      clear M; intro a M
      refine s_d0 (s_fs1 ?_)
      refine fp M 1 0 [(28, vP g 0)] fun a M => fo M 1 rfl rfl ?_
      refine e_cl M [vP g 0, .string (ByteArray.mk #[103, 114, 111, 117, 112, 115])] rfl rfl (qer (l2 := [qj, ⟨qb 0, 3, e1⟩, ⟨qb 1, e1, e2⟩, ⟨qb 2, e2, e3⟩]) W _ g e3 _ _ S22 k22 ([qj, ⟨qb 0, 3, e1⟩, ⟨qb 1, e1, e2⟩]) _ _ (O.pk [0, 2, 1, 3]) (Nat.le_of_ble_eq_true rfl) rfl) ?_
      rintro _ w29 ⟨rfl, S29, k29, hk29, HM2⟩
      refine ⟨_, rfl, ?_⟩
      replace O := HM2
      clear M; intro a M
      refine s_d0 ?_
      replace O : Mem W _ [.blk g #[.slice A b.length c, vI e3, .slice A27 ((((((([] : List Nat) ++ [nx]) ++ [cp]) ++ [cr]) ++ [gp]) ++ gs).length) c27, .slice S29 ([qj, ⟨qb 0, 3, e1⟩, ⟨qb 1, e1, e2⟩, ⟨qb 2, e2, e3⟩].length) k29] 109, .row (.slice S29 ([qj, ⟨qb 0, 3, e1⟩, ⟨qb 1, e1, e2⟩, ⟨qb 2, e2, e3⟩].length) k29) ([qj, ⟨qb 0, 3, e1⟩, ⟨qb 1, e1, e2⟩, ⟨qb 2, e2, e3⟩].length) ([qj, ⟨qb 0, 3, e1⟩, ⟨qb 1, e1, e2⟩, ⟨qb 2, e2, e3⟩].flatMap secL) 82 3, .row (.slice A27 ((((((([] : List Nat) ++ [nx]) ++ [cp]) ++ [cr]) ++ [gp]) ++ gs).length) c27) ((((((([] : List Nat) ++ [nx]) ++ [cp]) ++ [cr]) ++ [gp]) ++ gs).length) ((((((([] : List Nat) ++ [nx]) ++ [cp]) ++ [cr]) ++ [gp]) ++ gs).map U64) 22 1, .blk g2 #[vI 0] 53] := O
      refine wp_seq ?_
      rcases qfd b cp e3 with hv_e4 | ⟨cl, e4, hv_e4⟩
      ·
       refine qa ?_
       refine fp M 2 0 [(31, vI cp), (30, vP g 0)] fun a M => fo M 2 rfl rfl ?_
       exact qav M [vP g 0, vI cp] rfl (qhj W _ g e3 A A27 c c27 b (((((([] : List Nat) ++ [nx]) ++ [cp]) ++ [cr]) ++ [gp]) ++ gs) (.slice S29 ([qj, ⟨qb 0, 3, e1⟩, ⟨qb 1, e1, e2⟩, ⟨qb 2, e2, e3⟩].length) k29) _ cp (by omega) hc27 (O.pk [0, 2, 1, 3]) hin hbc hl hb hi_e3.2.2 hq_e3 hv_e4) fun w2 O => zr M rfl O (i := 1) rfl (hp.trans (qbq hv_e4)) [] (by decide) rfl
      ·
       have hp := hp.trans hv_e4.goK
       have hi_e4 := hv_e4.in hi_e3.2.2
       have hq_e4 := q_leK (xs := cl) hq_e3 hi_e4.1 hi_e4.2.1
       refine qa ?_
       refine fp M 2 0 [(31, vI cp), (30, vP g 0)] fun a M => fo M 2 rfl rfl ?_
       refine e_cl M [vP g 0, vI cp] rfl rfl (qhi W _ g e3 A A27 c c27 b (((((([] : List Nat) ++ [nx]) ++ [cp]) ++ [cr]) ++ [gp]) ++ gs) (.slice S29 ([qj, ⟨qb 0, 3, e1⟩, ⟨qb 1, e1, e2⟩, ⟨qb 2, e2, e3⟩].length) k29) _ cp (by omega) hc27 (O.pk [0, 2, 1, 3]) hin hbc hl hb hi_e3.2.2 hq_e3 hv_e4) ?_
       rintro _ w32 ⟨rfl, A32, c32, hc32, HM2⟩
       refine ⟨_, rfl, ?_⟩
       replace O := HM2
       clear M; intro a M
       refine s_d0 (s_fs1 ?_)
       refine fp M 1 0 [(33, vP g 0)] fun a M => fo M 1 rfl rfl ?_
       refine e_cl M [vP g 0, .string (ByteArray.mk #[99, 108, 111, 99, 107, 115])] rfl rfl (qer (l2 := [qj, ⟨qb 0, 3, e1⟩, ⟨qb 1, e1, e2⟩, ⟨qb 2, e2, e3⟩, ⟨qb 3, e3, e4⟩]) W _ g e4 _ _ S29 k29 ([qj, ⟨qb 0, 3, e1⟩, ⟨qb 1, e1, e2⟩, ⟨qb 2, e2, e3⟩]) _ _ (O.pk [0, 2, 1, 3]) (Nat.le_of_ble_eq_true rfl) rfl) ?_
       rintro _ w34 ⟨rfl, S34, k34, hk34, HM2⟩
       refine ⟨_, rfl, ?_⟩
       replace O := HM2
       clear M; intro a M
       refine s_d0 ?_
       replace O : Mem W _ [.blk g #[.slice A b.length c, vI e4, .slice A32 (((((((([] : List Nat) ++ [nx]) ++ [cp]) ++ [cr]) ++ [gp]) ++ gs) ++ cl).length) c32, .slice S34 ([qj, ⟨qb 0, 3, e1⟩, ⟨qb 1, e1, e2⟩, ⟨qb 2, e2, e3⟩, ⟨qb 3, e3, e4⟩].length) k34] 109, .row (.slice S34 ([qj, ⟨qb 0, 3, e1⟩, ⟨qb 1, e1, e2⟩, ⟨qb 2, e2, e3⟩, ⟨qb 3, e3, e4⟩].length) k34) ([qj, ⟨qb 0, 3, e1⟩, ⟨qb 1, e1, e2⟩, ⟨qb 2, e2, e3⟩, ⟨qb 3, e3, e4⟩].length) ([qj, ⟨qb 0, 3, e1⟩, ⟨qb 1, e1, e2⟩, ⟨qb 2, e2, e3⟩, ⟨qb 3, e3, e4⟩].flatMap secL) 82 3, .row (.slice A32 (((((((([] : List Nat) ++ [nx]) ++ [cp]) ++ [cr]) ++ [gp]) ++ gs) ++ cl).length) c32) (((((((([] : List Nat) ++ [nx]) ++ [cp]) ++ [cr]) ++ [gp]) ++ gs) ++ cl).length) (((((((([] : List Nat) ++ [nx]) ++ [cp]) ++ [cr]) ++ [gp]) ++ gs) ++ cl).map U64) 22 1, .blk g2 #[vI 0] 53] := O
       refine wp_seq ?_
       rcases qfd b cp e4 with hv_e5 | ⟨cu, e5, hv_e5⟩
       ·
        refine qa ?_
        refine fp M 2 0 [(36, vI cp), (35, vP g 0)] fun a M => fo M 2 rfl rfl ?_
        exact qav M [vP g 0, vI cp] rfl (qhj W _ g e4 A A32 c c32 b ((((((([] : List Nat) ++ [nx]) ++ [cp]) ++ [cr]) ++ [gp]) ++ gs) ++ cl) (.slice S34 ([qj, ⟨qb 0, 3, e1⟩, ⟨qb 1, e1, e2⟩, ⟨qb 2, e2, e3⟩, ⟨qb 3, e3, e4⟩].length) k34) _ cp (by omega) hc32 (O.pk [0, 2, 1, 3]) hin hbc hl hb hi_e4.2.2 hq_e4 hv_e5) fun w2 O => zr M rfl O (i := 1) rfl (hp.trans (qbq hv_e5)) [] (by decide) rfl
       ·
        have hp := hp.trans hv_e5.goK
        have hi_e5 := hv_e5.in hi_e4.2.2
        have hq_e5 := q_leK (xs := cu) hq_e4 hi_e5.1 hi_e5.2.1
        refine qa ?_
        refine fp M 2 0 [(36, vI cp), (35, vP g 0)] fun a M => fo M 2 rfl rfl ?_
        refine e_cl M [vP g 0, vI cp] rfl rfl (qhi W _ g e4 A A32 c c32 b ((((((([] : List Nat) ++ [nx]) ++ [cp]) ++ [cr]) ++ [gp]) ++ gs) ++ cl) (.slice S34 ([qj, ⟨qb 0, 3, e1⟩, ⟨qb 1, e1, e2⟩, ⟨qb 2, e2, e3⟩, ⟨qb 3, e3, e4⟩].length) k34) _ cp (by omega) hc32 (O.pk [0, 2, 1, 3]) hin hbc hl hb hi_e4.2.2 hq_e4 hv_e5) ?_
        rintro _ w37 ⟨rfl, A37, c37, hc37, HM2⟩
        refine ⟨_, rfl, ?_⟩
        replace O := HM2
        clear M; intro a M
        refine s_d0 (s_fs1 ?_)
        refine fp M 1 0 [(38, vP g 0)] fun a M => fo M 1 rfl rfl ?_
        refine e_cl M [vP g 0, .string (ByteArray.mk #[99, 117, 114, 114, 101, 110, 116])] rfl rfl (qer (l2 := [qj, ⟨qb 0, 3, e1⟩, ⟨qb 1, e1, e2⟩, ⟨qb 2, e2, e3⟩, ⟨qb 3, e3, e4⟩, ⟨qb 4, e4, e5⟩]) W _ g e5 _ _ S34 k34 ([qj, ⟨qb 0, 3, e1⟩, ⟨qb 1, e1, e2⟩, ⟨qb 2, e2, e3⟩, ⟨qb 3, e3, e4⟩]) _ _ (O.pk [0, 2, 1, 3]) (Nat.le_of_ble_eq_true rfl) rfl) ?_
        rintro _ w39 ⟨rfl, S39, k39, hk39, HM2⟩
        refine ⟨_, rfl, ?_⟩
        replace O := HM2
        clear M; intro a M
        refine s_d0 ?_
        replace O : Mem W _ [.blk g #[.slice A b.length c, vI e5, .slice A37 ((((((((([] : List Nat) ++ [nx]) ++ [cp]) ++ [cr]) ++ [gp]) ++ gs) ++ cl) ++ cu).length) c37, .slice S39 ([qj, ⟨qb 0, 3, e1⟩, ⟨qb 1, e1, e2⟩, ⟨qb 2, e2, e3⟩, ⟨qb 3, e3, e4⟩, ⟨qb 4, e4, e5⟩].length) k39] 109, .row (.slice S39 ([qj, ⟨qb 0, 3, e1⟩, ⟨qb 1, e1, e2⟩, ⟨qb 2, e2, e3⟩, ⟨qb 3, e3, e4⟩, ⟨qb 4, e4, e5⟩].length) k39) ([qj, ⟨qb 0, 3, e1⟩, ⟨qb 1, e1, e2⟩, ⟨qb 2, e2, e3⟩, ⟨qb 3, e3, e4⟩, ⟨qb 4, e4, e5⟩].length) ([qj, ⟨qb 0, 3, e1⟩, ⟨qb 1, e1, e2⟩, ⟨qb 2, e2, e3⟩, ⟨qb 3, e3, e4⟩, ⟨qb 4, e4, e5⟩].flatMap secL) 82 3, .row (.slice A37 ((((((((([] : List Nat) ++ [nx]) ++ [cp]) ++ [cr]) ++ [gp]) ++ gs) ++ cl) ++ cu).length) c37) ((((((((([] : List Nat) ++ [nx]) ++ [cp]) ++ [cr]) ++ [gp]) ++ gs) ++ cl) ++ cu).length) ((((((((([] : List Nat) ++ [nx]) ++ [cp]) ++ [cr]) ++ [gp]) ++ gs) ++ cl) ++ cu).map U64) 22 1, .blk g2 #[vI 0] 53] := O
        refine wp_seq ?_
        rcases qnz b e5 0 65535 with hv_a3 | ⟨tk, a3, hv_a3, hr_a3⟩ | ⟨tk, a3, hv_a3, hr_a3⟩
        ·
         refine qa ?_
         refine fp M 2 0 [(41, vP g 0), (40, vP g 0)] fun a M => fo M 2 rfl rfl ?_
         exact qav M [vP g 0, vQ 0, vQ 65535] rfl (qjr W _ g e5 A A37 c c37 b (((((((([] : List Nat) ++ [nx]) ++ [cp]) ++ [cr]) ++ [gp]) ++ gs) ++ cl) ++ cu) (.slice S39 ([qj, ⟨qb 0, 3, e1⟩, ⟨qb 1, e1, e2⟩, ⟨qb 2, e2, e3⟩, ⟨qb 3, e3, e4⟩, ⟨qb 4, e4, e5⟩].length) k39) _ 0 65535 (by decide) (O.pk [0, 2, 1, 3]) hin hbc hl hb hi_e5.2.2 hq_e5 hv_a3) fun w2 O => zr M rfl O (i := 1) rfl (hp.trans (qdo hv_a3)) [] (by decide) rfl
        ·
         refine qa ?_
         refine fp M 2 0 [(41, vP g 0), (40, vP g 0)] fun a M => fo M 2 rfl rfl ?_
         exact qav M [vP g 0, vQ 0, vQ 65535] rfl (qhh W _ g e5 A A37 c c37 b (((((((([] : List Nat) ++ [nx]) ++ [cp]) ++ [cr]) ++ [gp]) ++ gs) ++ cl) ++ cu) (.slice S39 ([qj, ⟨qb 0, 3, e1⟩, ⟨qb 1, e1, e2⟩, ⟨qb 2, e2, e3⟩, ⟨qb 3, e3, e4⟩, ⟨qb 4, e4, e5⟩].length) k39) _ 0 65535 (by decide) (O.pk [0, 2, 1, 3]) hin hbc hl hb hi_e5.2.2 hq_e5 hv_a3 hr_a3) fun w2 O => zr M rfl O (i := 1) rfl (hp.trans (hv_a3.bad hr_a3)) [] (by decide) rfl
        ·
         have hp := hp.trans (hv_a3.goC hr_a3)
         have hi_a3 := hv_a3.in hi_e5.2.2
         have hq_a3 := q_le1 (x := tk) hq_e5 hi_a3.1
         rcases qfd b (8 * tk) a3 with hv_e6 | ⟨ts, e6, hv_e6⟩
         ·
          refine qa ?_
          refine fp M 2 0 [(41, vP g 0), (40, vP g 0)] fun a M => fo M 2 rfl rfl ?_
          refine e_cl M [vP g 0, vQ 0, vQ 65535] rfl rfl (qf7 W _ g e5 A A37 c c37 b (((((((([] : List Nat) ++ [nx]) ++ [cp]) ++ [cr]) ++ [gp]) ++ gs) ++ cl) ++ cu) (.slice S39 ([qj, ⟨qb 0, 3, e1⟩, ⟨qb 1, e1, e2⟩, ⟨qb 2, e2, e3⟩, ⟨qb 3, e3, e4⟩, ⟨qb 4, e4, e5⟩].length) k39) _ 0 65535 (by decide) (O.pk [0, 2, 1, 3]) hin hbc hl hb hi_e5.2.2 hq_e5 hv_a3 hr_a3) ?_
          rintro _ w42 ⟨rfl, A42, c42, hc42, HM2⟩
          refine ⟨_, rfl, ?_⟩
          replace O := HM2
          clear M; intro a M
          refine fp M 1 3 [(43, vI (IntKind.i64.wrap (8 * (tk : Int))))] fun a M => ?_
          replace M := M.sp 43 (vI (8 * tk : Nat)) rfl (qc (by omega) (by omega))
          refine fo M 4 rfl rfl ?_
          exact qav M [vP g 0, vI (8 * tk : Nat)] rfl (qhj W _ g a3 A A42 c c42 b ((((((((([] : List Nat) ++ [nx]) ++ [cp]) ++ [cr]) ++ [gp]) ++ gs) ++ cl) ++ cu) ++ [tk]) (.slice S39 ([qj, ⟨qb 0, 3, e1⟩, ⟨qb 1, e1, e2⟩, ⟨qb 2, e2, e3⟩, ⟨qb 3, e3, e4⟩, ⟨qb 4, e4, e5⟩].length) k39) _ (8 * tk) (by omega) hc42 (O.pk [0, 1, 2, 3]) hin hbc hl hb hi_a3.2 hq_a3 hv_e6) fun w2 O => zr M rfl O (i := 1) rfl (hp.trans (qbq hv_e6)) [] (by decide) rfl
         ·
          have hp := hp.trans hv_e6.goK
          have hi_e6 := hv_e6.in hi_a3.2
          have hq_e6 := q_leK (xs := ts) hq_a3 hi_e6.1 hi_e6.2.1
          refine qa ?_
          refine fp M 2 0 [(41, vP g 0), (40, vP g 0)] fun a M => fo M 2 rfl rfl ?_
          refine e_cl M [vP g 0, vQ 0, vQ 65535] rfl rfl (qf7 W _ g e5 A A37 c c37 b (((((((([] : List Nat) ++ [nx]) ++ [cp]) ++ [cr]) ++ [gp]) ++ gs) ++ cl) ++ cu) (.slice S39 ([qj, ⟨qb 0, 3, e1⟩, ⟨qb 1, e1, e2⟩, ⟨qb 2, e2, e3⟩, ⟨qb 3, e3, e4⟩, ⟨qb 4, e4, e5⟩].length) k39) _ 0 65535 (by decide) (O.pk [0, 2, 1, 3]) hin hbc hl hb hi_e5.2.2 hq_e5 hv_a3 hr_a3) ?_
          rintro _ w42 ⟨rfl, A42, c42, hc42, HM2⟩
          refine ⟨_, rfl, ?_⟩
          replace O := HM2
          clear M; intro a M
          refine fp M 1 3 [(43, vI (IntKind.i64.wrap (8 * (tk : Int))))] fun a M => ?_
          replace M := M.sp 43 (vI (8 * tk : Nat)) rfl (qc (by omega) (by omega))
          refine fo M 4 rfl rfl ?_
          refine e_cl M [vP g 0, vI (8 * tk : Nat)] rfl rfl (qhi W _ g a3 A A42 c c42 b ((((((((([] : List Nat) ++ [nx]) ++ [cp]) ++ [cr]) ++ [gp]) ++ gs) ++ cl) ++ cu) ++ [tk]) (.slice S39 ([qj, ⟨qb 0, 3, e1⟩, ⟨qb 1, e1, e2⟩, ⟨qb 2, e2, e3⟩, ⟨qb 3, e3, e4⟩, ⟨qb 4, e4, e5⟩].length) k39) _ (8 * tk) (by omega) hc42 (O.pk [0, 1, 2, 3]) hin hbc hl hb hi_a3.2 hq_a3 hv_e6) ?_
          rintro _ w44 ⟨rfl, A44, c44, hc44, HM2⟩
          refine ⟨_, rfl, ?_⟩
          replace O := HM2
          clear M; intro a M
          refine s_d0 ?_
          replace M := M.to [(4, vI gp), (3, vI cp), (2, vP g2 0), (0, vP g 0)]
          refine s_fs1 ?_
          refine fp M 1 0 [(45, vP g 0)] fun a M => fo M 1 rfl rfl ?_
          refine e_cl M [vP g 0, .string (ByteArray.mk #[116, 97, 115, 107, 115])] rfl rfl (qer (l2 := [qj, ⟨qb 0, 3, e1⟩, ⟨qb 1, e1, e2⟩, ⟨qb 2, e2, e3⟩, ⟨qb 3, e3, e4⟩, ⟨qb 4, e4, e5⟩, ⟨qb 5, e5, e6⟩]) W _ g e6 _ _ S39 k39 ([qj, ⟨qb 0, 3, e1⟩, ⟨qb 1, e1, e2⟩, ⟨qb 2, e2, e3⟩, ⟨qb 3, e3, e4⟩, ⟨qb 4, e4, e5⟩]) _ _ (O.pk [0, 2, 1, 3]) (Nat.le_of_ble_eq_true rfl) rfl) ?_
          rintro _ w46 ⟨rfl, S46, k46, hk46, HM2⟩
          refine ⟨_, rfl, ?_⟩
          replace O := HM2
          clear M; intro a M
          refine s_d0 ?_
          replace O : Mem W _ [.blk g #[.slice A b.length c, vI e6, .slice A44 ((((((((((([] : List Nat) ++ [nx]) ++ [cp]) ++ [cr]) ++ [gp]) ++ gs) ++ cl) ++ cu) ++ [tk]) ++ ts).length) c44, .slice S46 ([qj, ⟨qb 0, 3, e1⟩, ⟨qb 1, e1, e2⟩, ⟨qb 2, e2, e3⟩, ⟨qb 3, e3, e4⟩, ⟨qb 4, e4, e5⟩, ⟨qb 5, e5, e6⟩].length) k46] 109, .row (.slice S46 ([qj, ⟨qb 0, 3, e1⟩, ⟨qb 1, e1, e2⟩, ⟨qb 2, e2, e3⟩, ⟨qb 3, e3, e4⟩, ⟨qb 4, e4, e5⟩, ⟨qb 5, e5, e6⟩].length) k46) ([qj, ⟨qb 0, 3, e1⟩, ⟨qb 1, e1, e2⟩, ⟨qb 2, e2, e3⟩, ⟨qb 3, e3, e4⟩, ⟨qb 4, e4, e5⟩, ⟨qb 5, e5, e6⟩].length) ([qj, ⟨qb 0, 3, e1⟩, ⟨qb 1, e1, e2⟩, ⟨qb 2, e2, e3⟩, ⟨qb 3, e3, e4⟩, ⟨qb 4, e4, e5⟩, ⟨qb 5, e5, e6⟩].flatMap secL) 82 3, .row (.slice A44 ((((((((((([] : List Nat) ++ [nx]) ++ [cp]) ++ [cr]) ++ [gp]) ++ gs) ++ cl) ++ cu) ++ [tk]) ++ ts).length) c44) ((((((((((([] : List Nat) ++ [nx]) ++ [cp]) ++ [cr]) ++ [gp]) ++ gs) ++ cl) ++ cu) ++ [tk]) ++ ts).length) ((((((((((([] : List Nat) ++ [nx]) ++ [cp]) ++ [cr]) ++ [gp]) ++ gs) ++ cl) ++ cu) ++ [tk]) ++ ts).map U64) 22 1, .blk g2 #[vI 0] 53] := O
          refine wp_seq ?_
          rcases qfd b (cp + 3 * cp * (gp - 1)) e6 with hv_e7 | ⟨sp, e7, hv_e7⟩
          ·
           refine qa ?_
           refine fp M 4 0 [(50, vI (IntKind.i64.wrap (3 * (cp : Int)))), (48, vI cp), (47, vP g 0)] fun a M => ?_
           replace M := M.sp 50 (vI (3 * cp : Nat)) rfl (qc (by omega) (by omega))
           refine fp M 2 4 [(52, vI (IntKind.i64.wrap ((gp : Int) - 1)))] fun a M => ?_
           replace M := M.sp 52 (vI (gp - 1 : Nat)) rfl (qc (by omega) (by omega))
           refine fp M 1 6 [(53, vI (IntKind.i64.wrap (((3 * cp : Nat) : Int) * ((gp - 1 : Nat) : Int))))] fun a M => ?_
           replace M := M.sp 53 (vI (3 * cp * (gp - 1) : Nat)) rfl (qg7 (m := 3 * cp) (n := gp - 1) (by have := h3; omega))
           refine fp M 1 7 [(54, vI (IntKind.i64.wrap ((cp : Int) + ((3 * cp * (gp - 1) : Nat) : Int))))] fun a M => ?_
           replace M := M.sp 54 (vI (cp + (3 * cp * (gp - 1)) : Nat)) rfl (qc (by omega) (by omega))
           refine fo M 8 rfl rfl ?_
           exact qav M [vP g 0, vI (cp + (3 * cp * (gp - 1)) : Nat)] rfl (qhj W _ g e6 A A44 c c44 b (((((((((([] : List Nat) ++ [nx]) ++ [cp]) ++ [cr]) ++ [gp]) ++ gs) ++ cl) ++ cu) ++ [tk]) ++ ts) (.slice S46 ([qj, ⟨qb 0, 3, e1⟩, ⟨qb 1, e1, e2⟩, ⟨qb 2, e2, e3⟩, ⟨qb 3, e3, e4⟩, ⟨qb 4, e4, e5⟩, ⟨qb 5, e5, e6⟩].length) k46) _ (cp + (3 * cp * (gp - 1))) (by omega) hc44 (O.pk [0, 2, 1, 3]) hin hbc hl hb hi_e6.2.2 hq_e6 hv_e7) fun w2 O => zr M rfl O (i := 1) rfl (hp.trans (qbq hv_e7)) [] (by decide) rfl
          ·
           have hp := hp.trans hv_e7.goK
           have hi_e7 := hv_e7.in hi_e6.2.2
           have hq_e7 := q_leK (xs := sp) hq_e6 hi_e7.1 hi_e7.2.1
           refine qa ?_
           refine fp M 4 0 [(50, vI (IntKind.i64.wrap (3 * (cp : Int)))), (48, vI cp), (47, vP g 0)] fun a M => ?_
           replace M := M.sp 50 (vI (3 * cp : Nat)) rfl (qc (by omega) (by omega))
           refine fp M 2 4 [(52, vI (IntKind.i64.wrap ((gp : Int) - 1)))] fun a M => ?_
           replace M := M.sp 52 (vI (gp - 1 : Nat)) rfl (qc (by omega) (by omega))
           refine fp M 1 6 [(53, vI (IntKind.i64.wrap (((3 * cp : Nat) : Int) * ((gp - 1 : Nat) : Int))))] fun a M => ?_
           replace M := M.sp 53 (vI (3 * cp * (gp - 1) : Nat)) rfl (qg7 (m := 3 * cp) (n := gp - 1) (by have := h3; omega))
           refine fp M 1 7 [(54, vI (IntKind.i64.wrap ((cp : Int) + ((3 * cp * (gp - 1) : Nat) : Int))))] fun a M => ?_
           replace M := M.sp 54 (vI (cp + (3 * cp * (gp - 1)) : Nat)) rfl (qc (by omega) (by omega))
           refine fo M 8 rfl rfl ?_
           refine e_cl M [vP g 0, vI (cp + (3 * cp * (gp - 1)) : Nat)] rfl rfl (qhi W _ g e6 A A44 c c44 b (((((((((([] : List Nat) ++ [nx]) ++ [cp]) ++ [cr]) ++ [gp]) ++ gs) ++ cl) ++ cu) ++ [tk]) ++ ts) (.slice S46 ([qj, ⟨qb 0, 3, e1⟩, ⟨qb 1, e1, e2⟩, ⟨qb 2, e2, e3⟩, ⟨qb 3, e3, e4⟩, ⟨qb 4, e4, e5⟩, ⟨qb 5, e5, e6⟩].length) k46) _ (cp + (3 * cp * (gp - 1))) (by omega) hc44 (O.pk [0, 2, 1, 3]) hin hbc hl hb hi_e6.2.2 hq_e6 hv_e7) ?_
           rintro _ w55 ⟨rfl, A55, c55, hc55, HM2⟩
           refine ⟨_, rfl, ?_⟩
           replace O := HM2
           clear M; intro a M
           refine s_d0 (s_fs1 ?_)
           refine fp M 1 0 [(56, vP g 0)] fun a M => fo M 1 rfl rfl ?_
           refine e_cl M [vP g 0, .string (ByteArray.mk #[115, 112, 111, 116, 115])] rfl rfl (qer (l2 := [qj, ⟨qb 0, 3, e1⟩, ⟨qb 1, e1, e2⟩, ⟨qb 2, e2, e3⟩, ⟨qb 3, e3, e4⟩, ⟨qb 4, e4, e5⟩, ⟨qb 5, e5, e6⟩, ⟨qb 6, e6, e7⟩]) W _ g e7 _ _ S46 k46 ([qj, ⟨qb 0, 3, e1⟩, ⟨qb 1, e1, e2⟩, ⟨qb 2, e2, e3⟩, ⟨qb 3, e3, e4⟩, ⟨qb 4, e4, e5⟩, ⟨qb 5, e5, e6⟩]) _ _ (O.pk [0, 2, 1, 3]) (Nat.le_of_ble_eq_true rfl) rfl) ?_
           rintro _ w57 ⟨rfl, S57, k57, hk57, HM2⟩
           refine ⟨_, rfl, ?_⟩
           replace O := HM2
           clear M; intro a M
           refine s_d0 ?_
           replace O : Mem W _ [.blk g #[.slice A b.length c, vI e7, .slice A55 (((((((((((([] : List Nat) ++ [nx]) ++ [cp]) ++ [cr]) ++ [gp]) ++ gs) ++ cl) ++ cu) ++ [tk]) ++ ts) ++ sp).length) c55, .slice S57 ([qj, ⟨qb 0, 3, e1⟩, ⟨qb 1, e1, e2⟩, ⟨qb 2, e2, e3⟩, ⟨qb 3, e3, e4⟩, ⟨qb 4, e4, e5⟩, ⟨qb 5, e5, e6⟩, ⟨qb 6, e6, e7⟩].length) k57] 109, .row (.slice S57 ([qj, ⟨qb 0, 3, e1⟩, ⟨qb 1, e1, e2⟩, ⟨qb 2, e2, e3⟩, ⟨qb 3, e3, e4⟩, ⟨qb 4, e4, e5⟩, ⟨qb 5, e5, e6⟩, ⟨qb 6, e6, e7⟩].length) k57) ([qj, ⟨qb 0, 3, e1⟩, ⟨qb 1, e1, e2⟩, ⟨qb 2, e2, e3⟩, ⟨qb 3, e3, e4⟩, ⟨qb 4, e4, e5⟩, ⟨qb 5, e5, e6⟩, ⟨qb 6, e6, e7⟩].length) ([qj, ⟨qb 0, 3, e1⟩, ⟨qb 1, e1, e2⟩, ⟨qb 2, e2, e3⟩, ⟨qb 3, e3, e4⟩, ⟨qb 4, e4, e5⟩, ⟨qb 5, e5, e6⟩, ⟨qb 6, e6, e7⟩].flatMap secL) 82 3, .row (.slice A55 (((((((((((([] : List Nat) ++ [nx]) ++ [cp]) ++ [cr]) ++ [gp]) ++ gs) ++ cl) ++ cu) ++ [tk]) ++ ts) ++ sp).length) c55) (((((((((((([] : List Nat) ++ [nx]) ++ [cp]) ++ [cr]) ++ [gp]) ++ gs) ++ cl) ++ cu) ++ [tk]) ++ ts) ++ sp).length) (((((((((((([] : List Nat) ++ [nx]) ++ [cp]) ++ [cr]) ++ [gp]) ++ gs) ++ cl) ++ cu) ++ [tk]) ++ ts) ++ sp).map U64) 22 1, .blk g2 #[vI 0] 53] := O
           refine wp_seq (wp_seq ?_)
           refine qzh ?_
           refine qz O [.blk g #[.slice A b.length c, vI e7, .slice A55 (((((((((((([] : List Nat) ++ [nx]) ++ [cp]) ++ [cr]) ++ [gp]) ++ gs) ++ cl) ++ cu) ++ [tk]) ++ ts) ++ sp).length) c55, .slice S57 ([qj, ⟨qb 0, 3, e1⟩, ⟨qb 1, e1, e2⟩, ⟨qb 2, e2, e3⟩, ⟨qb 3, e3, e4⟩, ⟨qb 4, e4, e5⟩, ⟨qb 5, e5, e6⟩, ⟨qb 6, e6, e7⟩].length) k57] 109, .row (.slice S57 ([qj, ⟨qb 0, 3, e1⟩, ⟨qb 1, e1, e2⟩, ⟨qb 2, e2, e3⟩, ⟨qb 3, e3, e4⟩, ⟨qb 4, e4, e5⟩, ⟨qb 5, e5, e6⟩, ⟨qb 6, e6, e7⟩].length) k57) ([qj, ⟨qb 0, 3, e1⟩, ⟨qb 1, e1, e2⟩, ⟨qb 2, e2, e3⟩, ⟨qb 3, e3, e4⟩, ⟨qb 4, e4, e5⟩, ⟨qb 5, e5, e6⟩, ⟨qb 6, e6, e7⟩].length) ([qj, ⟨qb 0, 3, e1⟩, ⟨qb 1, e1, e2⟩, ⟨qb 2, e2, e3⟩, ⟨qb 3, e3, e4⟩, ⟨qb 4, e4, e5⟩, ⟨qb 5, e5, e6⟩, ⟨qb 6, e6, e7⟩].flatMap secL) 82 3, .row (.slice A55 (((((((((((([] : List Nat) ++ [nx]) ++ [cp]) ++ [cr]) ++ [gp]) ++ gs) ++ cl) ++ cu) ++ [tk]) ++ ts) ++ sp).length) c55) (((((((((((([] : List Nat) ++ [nx]) ++ [cp]) ++ [cr]) ++ [gp]) ++ gs) ++ cl) ++ cu) ++ [tk]) ++ ts) ++ sp).length) (((((((((((([] : List Nat) ++ [nx]) ++ [cp]) ++ [cr]) ++ [gp]) ++ gs) ++ cl) ++ cu) ++ [tk]) ++ ts) ++ sp).map U64) 22 1, .blk g2 #[vI 0] 53] [0, 1, 2, 3] [] fun O Z => ?_
           refine ap M (fun _ => Z) [0, 4] (bf 10 [0, 4]) [(62, vP g 0), (58, vP g 0)] fun a M => ?_
           refine s_am M Z 1 fun a M => ?_
           refine ap M (fun _ => Z) [2] (bf 10 [0, 1, 2, 4]) [(60, vP g 1)] fun a M => ?_
           refine s_ac M Z 3 0 fun a M => ?_
           refine s_am M Z 5 fun a M => ?_
           refine ap M (fun _ => Z) [6] (bt 10 [7, 8, 9]) [(64, vP g 0)] fun a M => ?_
           refine s_ac M Z 7 0 fun a M => ?_
           refine s_al M Z 8 fun a M => ?_
           refine ap M (fun _ => Z) [9] (bt 10 []) [(67, .bool ((e7 : Int) != (b.length : Int)))] fun a M => ?_
           refine qh (by kernel_rfl) ?_
           rcases M.tf 67 rfl with ⟨hb67, M⟩ | ⟨hb67, M⟩
           ·
            have hd67 := bne_iff_ne.1 hb67
            have hne : e7 ≠ b.length := by omega
            refine s_ct M (qa ?_)
            refine fo M 0 rfl rfl ?_
            exact qav M [vI 346] rfl (qf3 346 _ O) fun w2 O => zr M rfl O (i := 3) rfl (hp.trans (if_pos hne)) [] (by decide) rfl
           have hd67 := bne_eq_false_iff_eq.1 hb67
           obtain rfl : e7 = b.length := by omega
           have hp := hp.trans (if_neg (fun h => h rfl))
           obtain ⟨qn, hqn⟩ : ∃ qn, ((((((((((([] : List Nat) ++ [nx]) ++ [cp]) ++ [cr]) ++ [gp]) ++ gs) ++ cl) ++ cu) ++ [tk]) ++ ts) ++ sp) = qn := ⟨_, rfl⟩
           rw [hqn] at O hc55
           refine s_cf M (wp_skip (s_fs1 ?_))
           refine fp M 1 0 [(69, vP g 0)] fun a M => s_fk M 1 fun a M => ?_
           refine fp M 1 2 [(71, vP g 1)] fun a M => s_fc M O 3 0 fun a M => ?_
           refine fp M 1 4 [(73, vI (IntKind.i64.wrap ((b.length : Int) + 4)))] fun a M => ?_
           replace M := M.sp 73 (vI (b.length + 4 : Nat)) rfl (qc (by omega) (by omega))
           refine s_fk M 5 fun a M => ?_
           refine fp M 1 6 [(75, vP g 1)] fun a M => fo M 7 rfl rfl (s_es M O 0 fun w22_7 O => ?_)
           refine s_d0 (s_fs1 ?_)
           refine fp M 1 0 [(76, vP g 0)] fun a M => fo M 1 rfl rfl ?_
           refine e_cl M [vP g 0, .string (ByteArray.mk #[115, 117, 109])] rfl rfl (qer (l2 := [qj, ⟨qb 0, 3, e1⟩, ⟨qb 1, e1, e2⟩, ⟨qb 2, e2, e3⟩, ⟨qb 3, e3, e4⟩, ⟨qb 4, e4, e5⟩, ⟨qb 5, e5, e6⟩, ⟨qb 6, e6, b.length⟩, ⟨⟨#[115, 117, 109]⟩, b.length, b.length + 4⟩]) W _ g (b.length + 4 : Nat) _ _ S57 k57 ([qj, ⟨qb 0, 3, e1⟩, ⟨qb 1, e1, e2⟩, ⟨qb 2, e2, e3⟩, ⟨qb 3, e3, e4⟩, ⟨qb 4, e4, e5⟩, ⟨qb 5, e5, e6⟩, ⟨qb 6, e6, b.length⟩]) _ _ (O.pk [0, 1, 2, 3]) (Nat.le_of_ble_eq_true rfl) rfl) ?_
           rintro _ w77 ⟨rfl, S77, k77, hk77, HM2⟩
           refine ⟨_, rfl, ?_⟩
           replace O := HM2
           clear M; intro a M
           refine s_d0 ?_
           replace O : Mem W _ [.blk g #[.slice A b.length c, vI (b.length + 4 : Nat), .slice A55 qn.length c55, .slice S77 ([qj, ⟨qb 0, 3, e1⟩, ⟨qb 1, e1, e2⟩, ⟨qb 2, e2, e3⟩, ⟨qb 3, e3, e4⟩, ⟨qb 4, e4, e5⟩, ⟨qb 5, e5, e6⟩, ⟨qb 6, e6, b.length⟩, ⟨⟨#[115, 117, 109]⟩, b.length, b.length + 4⟩].length) k77] 109, .row (.slice S77 ([qj, ⟨qb 0, 3, e1⟩, ⟨qb 1, e1, e2⟩, ⟨qb 2, e2, e3⟩, ⟨qb 3, e3, e4⟩, ⟨qb 4, e4, e5⟩, ⟨qb 5, e5, e6⟩, ⟨qb 6, e6, b.length⟩, ⟨⟨#[115, 117, 109]⟩, b.length, b.length + 4⟩].length) k77) ([qj, ⟨qb 0, 3, e1⟩, ⟨qb 1, e1, e2⟩, ⟨qb 2, e2, e3⟩, ⟨qb 3, e3, e4⟩, ⟨qb 4, e4, e5⟩, ⟨qb 5, e5, e6⟩, ⟨qb 6, e6, b.length⟩, ⟨⟨#[115, 117, 109]⟩, b.length, b.length + 4⟩].length) ([qj, ⟨qb 0, 3, e1⟩, ⟨qb 1, e1, e2⟩, ⟨qb 2, e2, e3⟩, ⟨qb 3, e3, e4⟩, ⟨qb 4, e4, e5⟩, ⟨qb 5, e5, e6⟩, ⟨qb 6, e6, b.length⟩, ⟨⟨#[115, 117, 109]⟩, b.length, b.length + 4⟩].flatMap secL) 82 3, .row (.slice A55 qn.length c55) qn.length (qn.map U64) 22 1, .blk g2 #[vI 0] 53] := O
           refine s_fs1 ?_
           refine fo M 0 rfl rfl (s_es M O 3 fun w24_0 O => ?_)
           refine s_d0 (wp_ret ?_)
           exact qwu M rfl O (i := 3) rfl fun w3 O => .inl ⟨(⟨nx, cp, cr, gp, gs, cl, cu, tk, ts, sp, e1, e2, e3, e4, e5, e6, b.length⟩ : Pr), A55, c55, S77, k77, hp, rfl, by subst hqn; rw [qoz]; exact hc55, hk77, by subst hqn; rw [qoz]; exact O.pk [0, 2, 1]⟩
theorem q0i (W w : World) (g : Nat) (A : Option Addr) (c : Nat) (b : List Nat) (HW : Mem W w [.blk g #[.slice A b.length c, .int .i64 0, .slice none 0 0, .slice none 0 0] 109]) (hin : Rd W W.heap.size 1 A b.length (b.map B8)) (hbc : b.length ≤ c) (hl : ∀ z ∈ b, z < 256) (hb : b.length ≤ 16777216) (hb3 : 3 ≤ b.length) {p : Pr} (h : prs b = .ok p) : Calls Tryz.prog 78 #[.pointer (some ⟨g, 0, none⟩)] w (fun r w' => r = .returned (.int .i64 0) ∧ ∃ NA nc SA sc, p.nums.length ≤ nc ∧ p.secs.length ≤ sc ∧ Mem W w' [.blk g #[.slice A b.length c, .int .i64 ((b.length + 4 : Nat) : Int), .slice NA p.nums.length nc, .slice SA p.secs.length sc] 109, .row (.slice NA p.nums.length nc) p.nums.length (p.nums.map U64) 22 1, .row (.slice SA p.secs.length sc) p.secs.length (p.secs.flatMap secL) 82 3]) :=
 (qo0 W w g A c b HW hin hbc hl hb hb3).mono fun r w' h1 => by
  rcases h1 with ⟨p2, NA, nc, SA, sc, h2, h3, h4, h5, h6⟩ | ⟨k, h2, _⟩
  ·obtain rfl : p2 = p := by rw [h] at h2; injection h2 with h2; exact h2.symm
   exact ⟨h3, NA, nc, SA, sc, h4, h5, h6⟩
  ·rw [h] at h2; cases h2
theorem q0j (W w : World) (g : Nat) (A : Option Addr) (c : Nat) (b : List Nat) (HW : Mem W w [.blk g #[.slice A b.length c, .int .i64 0, .slice none 0 0, .slice none 0 0] 109]) (hin : Rd W W.heap.size 1 A b.length (b.map B8)) (hbc : b.length ≤ c) (hl : ∀ z ∈ b, z < 256) (hb : b.length ≤ 16777216) (hb3 : 3 ≤ b.length) {k : Nat} (h : prs b = .error k) : Calls Tryz.prog 78 #[.pointer (some ⟨g, 0, none⟩)] w (fun r w' => r = .returned (.int .i64 (k : Int)) ∧ Mem W w' []) :=
 (qo0 W w g A c b HW hin hbc hl hb hb3).mono fun r w' h1 => by
  rcases h1 with ⟨p2, NA, nc, SA, sc, h2, _⟩ | ⟨k2, h2, h3, h4⟩
  ·rw [h] at h2; cases h2
  ·obtain rfl : k2 = k := by rw [h] at h2; injection h2 with h2; exact h2.symm
   exact ⟨h3, h4⟩
def OpnIs (w : World) (l : List Nat) (r : Ending) (w' : World) : Prop := (∃ p, opnR l = .ok p ∧ ∃ g iv av NA nc SA sc, r = .returned (.tuple #[.pointer (some ⟨g, 0, none⟩), .int .i64 0]) ∧ p.nums.length ≤ nc ∧ p.secs.length ≤ sc ∧ Mem w w' [.blk g #[iv, av, .slice NA p.nums.length nc, .slice SA p.secs.length sc] 109, .row (.slice NA p.nums.length nc) p.nums.length (p.nums.map U64) 22 1, .row (.slice SA p.secs.length sc) p.secs.length (p.secs.flatMap secL) 82 3]) ∨ (∃ k : Nat, opnR l = .error k ∧ Is w (.tuple #[.pointer none, .int .i64 (k : Int)]) r w')
theorem qco {w w' : World} {l : List Nat} {r : Ending} {k : Nat} (n : Int) (h : opnR l = .error k) (hk : n = k) (hr : r = .returned (.tuple #[.pointer none, .int .i64 n])) (hb : Below w.heap.size w w') : OpnIs w l r w' := .inr ⟨k, h, by rw [hr, hk], hb⟩
theorem qo1 (A : Option Addr) (c : Nat) (l : List Nat) (B : Nat) (w : World) (hL : LaidX B w) (hB : B ≤ w.heap.size) (hr : Rd w w.heap.size 1 A l.length (l.map B8)) (hc : l.length ≤ c) (hn : l.length ≤ 100000000) (hl : ∀ z ∈ l, z < 256) :
    Calls Tryz.prog 50 #[.slice A l.length c] w (OpnIs w l) := by
 refine s_ce Tryz.func50 [.slice A l.length c] [(0, .slice A l.length c)] fun a M => ?_
 have O := Mem.start w
 refine s_fs1 ?_
 refine fp M 2 0 [(3, vI 0), (2, .pointer none)] fun a M => s_d0 (wp_seq (wp_block (s_fs1 ?_)))
 refine fp M 1 0 [(7, .slice A l.length c)] fun a M => s_fl M 1 fun a M => ?_
 refine fp M 2 2 [(6, .bool (decide ((l.length : Int) < (15 : Int))))] fun a M => s_d0 ?_
 rcases M.tf 6 rfl with ⟨hb6, M⟩ | ⟨hb6, M⟩
 ·
  have hd6 := of_decide_eq_true hb6
  refine s_ct M (s_fs1 ?_)
  refine fp M 2 0 [(3, vI 340), (2, .pointer none)] fun a M => s_d0 (wp_ret ?_)
  exact s_rt2 rfl M rfl rfl (qco _ (qk4 (by omega)) rfl rfl O.below)
 have hd6 := of_decide_eq_false hb6
 refine s_cf M (s_fs1 ?_)
 refine fp M 1 0 [(11, .slice A l.length c)] fun a M => s_fl M 1 fun a M => ?_
 refine fp M 2 2 [(10, .bool (decide ((l.length : Int) > (16777216 : Int))))] fun a M => s_d0 ?_
 rcases M.tf 10 rfl with ⟨hb10, M⟩ | ⟨hb10, M⟩
 ·
  have hd10 := of_decide_eq_true hb10
  refine s_ct M (s_fs1 ?_)
  refine fp M 2 0 [(3, vI 3), (2, .pointer none)] fun a M => s_d0 (wp_ret ?_)
  exact s_rt2 rfl M rfl rfl (qco _ (qjb (by omega) (by omega)) rfl rfl O.below)
 have hd10 := of_decide_eq_false hb10
 refine s_cf M (s_fs1 ?_)
 refine fp M 1 0 [(15, .slice A l.length c)] fun a M => fo M 1 rfl rfl (e_is M O [.slice A l.length c] (.bool (zb l)) rfl rfl (qqa A l.length c l B _ (hL.mem O hB) (O.le hB) (O.old hr) hc rfl (by omega) hl) fun w16 hbw O a M => ?_)
 refine fp M 2 2 [(14, .bool (!(zb l)))] fun a M => s_d0 ?_
 rcases M.tf 14 rfl with ⟨hb14, M⟩ | ⟨hb14, M⟩
 ·
  have hs16 : zb l = false := by simpa using hb14
  refine s_ct M (s_fs1 ?_)
  refine fp M 2 0 [(3, vI 341), (2, .pointer none)] fun a M => s_d0 (wp_ret ?_)
  exact s_rt2 rfl M rfl rfl (qco _ (qsl (by omega) (by omega) hs16) rfl rfl O.below)
 have hs16 : zb l = true := by simpa using hb14
 refine s_cf M (s_fs1 ?_)
 refine fp M 1 0 [(19, .slice A l.length c)] fun a M => ?_
 obtain ⟨gA, oA, rfl, _⟩ := hr.qi (Nat.lt_of_le_of_lt (Nat.zero_le _) (show 0 < l.length from by omega)) (by decide)
 refine s_fz M O 1 rfl (v := vP gA oA) (Yl.indexAddr (ad := ⟨gA, oA, none⟩) (y := 0) (sz := 1) rfl rfl rfl (by omega) (by kernel_rfl)) fun a M => ?_
 refine s_fz M O 2 rfl (v := vB (l.getD 0 0)) (Yl.o1 hr 0 0 (by first | omega | (simp; omega)) rfl rfl) fun a M => ?_
 refine fp M 2 3 [(23, .bool (((l.getD 0 0) : Int) != (113 : Int)))] fun a M => ?_
 rcases M.tf 23 rfl with ⟨hb23, M⟩ | ⟨hb23, M⟩
 ·
  have hd23 := bne_iff_ne.1 hb23
  refine fp M 6 5 [(18, .bool true)] fun a M => s_d0 (s_ct M (s_fs1 ?_))
  refine fp M 2 0 [(3, vI 342), (2, .pointer none)] fun a M => s_d0 (wp_ret ?_)
  exact s_rt2 rfl M rfl rfl (qco _ (qed (by omega) (by omega) hs16 (by omega)) rfl rfl O.below)
 have hd23 := bne_eq_false_iff_eq.1 hb23
 refine fp M 1 5 [(24, .slice (some ⟨gA, oA, none⟩) l.length c)] fun a M => s_fz M O 6 rfl (v := vP gA (oA + 1)) (Yl.indexAddr (ad := ⟨gA, oA, none⟩) (y := 1) (sz := 1) rfl rfl rfl (by omega) (by kernel_rfl)) fun a M => ?_
 refine s_fz M O 7 rfl (v := vB (l.getD 1 0)) (Yl.o1 hr 1 0 (by first | omega | (simp; omega)) rfl rfl) fun a M => ?_
 refine fp M 3 8 [(18, .bool (((l.getD 1 0) : Int) != (115 : Int)))] fun a M => s_d0 ?_
 rcases M.tf 18 rfl with ⟨hb18, M⟩ | ⟨hb18, M⟩
 ·
  have hd18 := bne_iff_ne.1 hb18
  refine s_ct M (s_fs1 ?_)
  refine fp M 2 0 [(3, vI 342), (2, .pointer none)] fun a M => s_d0 (wp_ret ?_)
  exact s_rt2 rfl M rfl rfl (qco _ (qed (by omega) (by omega) hs16 (by omega)) rfl rfl O.below)
 have hd18 := bne_eq_false_iff_eq.1 hb18
 refine s_cf M (s_fs1 ?_)
 refine fp M 1 0 [(30, .slice (some ⟨gA, oA, none⟩) l.length c)] fun a M => s_fz M O 1 rfl (v := vP gA (oA + 2)) (Yl.indexAddr (ad := ⟨gA, oA, none⟩) (y := 2) (sz := 1) rfl rfl rfl (by omega) (by kernel_rfl)) fun a M => ?_
 refine s_fz M O 2 rfl (v := vB (l.getD 2 0)) (Yl.o1 hr 2 0 (by first | omega | (simp; omega)) rfl rfl) fun a M => ?_
 refine fp M 2 3 [(29, .bool (((l.getD 2 0) : Int) != (1 : Int)))] fun a M => s_d0 ?_
 rcases M.tf 29 rfl with ⟨hb29, M⟩ | ⟨hb29, M⟩
 ·
  have hd29 := bne_iff_ne.1 hb29
  refine s_ct M (s_fs1 ?_)
  refine fp M 2 0 [(3, vI 343), (2, .pointer none)] fun a M => s_d0 (wp_ret ?_)
  exact s_rt2 rfl M rfl rfl (qco _ (qg8 (by omega) (by omega) hs16 (by omega) (by omega)) rfl rfl O.below)
 have hd29 := bne_eq_false_iff_eq.1 hb29
 refine s_cf M (wp_skip (wp_seq ?_))
 obtain ⟨b, hbd⟩ : ∃ b, l.take (l.length - 4) = b := ⟨_, rfl⟩
 have hbl : b.length = l.length - 4 := by rw [← hbd, List.length_take]; omega
 have hrb : Rd w w.heap.size 1 (some ⟨gA, oA, none⟩) b.length (b.map B8) := by rw [hbl, ← hbd]; exact hr.toB8 (by omega)
 have hlb : ∀ z ∈ b, z < 256 := fun z hz => hl z (List.mem_of_mem_take (hbd ▸ hz))
 have hop := qsm (by omega) (by omega) hs16 (by omega) (by omega)
 rw [hbd] at hop
 skip
 ·
  refine qa ?_
  refine fp M 2 0 [(35, .slice (some ⟨gA, oA, none⟩) l.length c), (34, .slice (some ⟨gA, oA, none⟩) l.length c)] fun a M => s_fl M 2 fun a M => ?_
  refine fp M 1 3 [(37, vI (IntKind.i64.wrap ((l.length : Int) - 4)))] fun a M => ?_
  replace M := M.sp 37 (vI (l.length - 4 : Nat)) rfl (qc (by omega) (by omega))
  refine s_fz M O 4 rfl (v := .slice (some ⟨gA, oA, none⟩) (l.length - 4) c) (Yl.q1 ei_u8 (j := l.length - 4) rfl rfl rfl (by omega)) fun a M => ?_
  replace M := M.sp 38 (.slice (some ⟨gA, oA, none⟩) b.length c) rfl (by rw [hbl])
  refine s_fz M O 5 rfl (v := .agg #[.slice (some ⟨gA, oA, none⟩) b.length c, vI 0, .slice none 0 0, .slice none 0 0]) (Yl.build (vs := [(0, .slice (some ⟨gA, oA, none⟩) b.length c)]) rfl (by kernel_rfl) (by kernel_rfl)) fun a M => ?_
  refine fo M 6 rfl rfl (s_eb M O #[.slice (some ⟨gA, oA, none⟩) b.length c, vI 0, .slice none 0 0, .slice none 0 0] fun a w40 g40 M O => ?_)
  refine fp M 1 7 [(4, vP g40 0)] fun a M => s_d0 (wp_seq (wp_seq ?_))
  rcases hpr : prs b with k | p
  ·
   have hke := qsk hpr
   refine qa ?_
   refine fp M 1 0 [(41, vP g40 0)] fun a M => fo M 1 rfl rfl ?_
   refine s_em M [vP g40 0] (q0j w _ g40 (some ⟨gA, oA, none⟩) c b (O.pk [0]) hrb (by omega) hlb (by omega) (by omega) hpr) fun w42 O a M => ?_
   refine fp M 1 2 [(5, vI k)] fun a M => s_d0 (s_fs1 ?_)
   refine fp M 2 0 [(44, .bool ((k : Int) != (0 : Int)))] fun a M => s_d0 ?_
   rcases M.tf 44 rfl with ⟨hb44, M⟩ | ⟨hb44, M⟩
   ·
    have hd44 := bne_iff_ne.1 hb44
    refine s_ct M (s_fs1 ?_)
    refine fp M 3 0 [(3, vI k), (2, .pointer none)] fun a M => s_d0 (wp_ret ?_)
    exact s_rt2 rfl M rfl rfl (qco _ (hop.trans hpr) rfl rfl O.below)
   have hd44 := bne_eq_false_iff_eq.1 hb44
   exfalso; omega
  ·
   refine qa ?_
   refine fp M 1 0 [(41, vP g40 0)] fun a M => fo M 1 rfl rfl ?_
   refine e_cl M [vP g40 0] rfl rfl (q0i w _ g40 (some ⟨gA, oA, none⟩) c b (O.pk [0]) hrb (by omega) hlb (by omega) (by omega) hpr) ?_
   rintro _ w42 ⟨rfl, NA, nc, SA, sc, hnc, hsc, HM2⟩
   refine ⟨_, rfl, ?_⟩
   replace O := HM2
   clear M; intro a M
   refine fp M 1 2 [(5, vI 0)] fun a M => s_d0 (s_fs1 ?_)
   refine fp M 2 0 [(44, .bool false)] fun a M => s_d0 (s_cf M (wp_skip (s_fs1 ?_)))
   refine fp M 3 0 [(3, vI 0), (2, vP g40 0)] fun a M => s_d0 (wp_ret ?_)
   exact s_rt2 rfl M rfl rfl (.inl ⟨p, hop.trans hpr, _, _, _, NA, nc, SA, sc, rfl, hnc, hsc, O⟩)
theorem qmy (A : Option Addr) (c : Nat) (l : List Nat) (B : Nat) (w : World) (hL : LaidX B w) (hB : B ≤ w.heap.size) (hr : Rd w w.heap.size 1 A l.length (l.map B8)) (hc : l.length ≤ c) (hn : l.length ≤ 100000000) (hl : ∀ z ∈ l, z < 256) {p : Pr} (h : opnR l = .ok p) : Calls Tryz.prog 50 #[.slice A l.length c] w (fun r w' => ∃ g iv av NA nc SA sc, r = .returned (.tuple #[.pointer (some ⟨g, 0, none⟩), .int .i64 0]) ∧ p.nums.length ≤ nc ∧ p.secs.length ≤ sc ∧ Mem w w' [.blk g #[iv, av, .slice NA p.nums.length nc, .slice SA p.secs.length sc] 109, .row (.slice NA p.nums.length nc) p.nums.length (p.nums.map U64) 22 1, .row (.slice SA p.secs.length sc) p.secs.length (p.secs.flatMap secL) 82 3]) :=
 (qo1 A c l B w hL hB hr hc hn hl).mono fun r w' h1 => by
  rcases h1 with ⟨p2, h2, h3⟩ | ⟨k, h2, _⟩
  ·obtain rfl : p2 = p := by rw [h] at h2; injection h2 with h2; exact h2.symm
   exact h3
  ·rw [h] at h2; cases h2
theorem qmz (A : Option Addr) (c : Nat) (l : List Nat) (B : Nat) (w : World) (hL : LaidX B w) (hB : B ≤ w.heap.size) (hr : Rd w w.heap.size 1 A l.length (l.map B8)) (hc : l.length ≤ c) (hn : l.length ≤ 100000000) (hl : ∀ z ∈ l, z < 256) {k : Nat} (h : opnR l = .error k) : Calls Tryz.prog 50 #[.slice A l.length c] w (Is w (.tuple #[.pointer none, .int .i64 (k : Int)])) :=
 (qo1 A c l B w hL hB hr hc hn hl).mono fun r w' h1 => by
  rcases h1 with ⟨p2, h2, _⟩ | ⟨k2, h2, h3⟩
  ·rw [h] at h2; cases h2
  ·obtain rfl : k2 = k := by rw [h] at h2; injection h2 with h2; exact h2.symm
   exact h3
theorem qbf (A : Option Addr) (c : Nat) (l : List Nat) (B : Nat) (w : World) (hL : LaidX B w) (hB : B ≤ w.heap.size) (hr : Rd w w.heap.size 1 A l.length (l.map B8)) (hc : l.length ≤ c) (hn : l.length ≤ 100000000) (hl : ∀ z ∈ l, z < 256) :
    Calls Tryz.prog 40 #[.slice A l.length c] w (qg1 w (errR l) (pnums l)) := by
 refine s_ce Tryz.func40 [.slice A l.length c] [(0, .slice A l.length c)] fun a M => ?_
 have O := Mem.start w
 refine s_fs1 ?_
 refine fp M 2 0 [(3, vI 0), (2, .slice none 0 0)] fun a M => s_d0 (wp_seq ?_)
 rcases hop : opnR l with k | p
 ·
  have hke := qcj hop
  refine qa ?_
  refine fp M 1 0 [(7, .slice A l.length c)] fun a M => fo M 1 rfl rfl (e_is M O [.slice A l.length c] (.tuple #[.pointer none, vI k]) rfl rfl (qmz A c l B _ (hL.mem O hB) (O.le hB) (O.old hr) hc hn hl hop) fun w8 hbw O a M => ?_)
  refine fp M 5 2 [(5, vI k), (4, .pointer none)] fun a M => s_d0 (wp_seq (s_fs1 ?_))
  refine fp M 2 0 [(12, .bool ((k : Int) != (0 : Int)))] fun a M => s_d0 ?_
  rcases M.tf 12 rfl with ⟨hb12, M⟩ | ⟨hb12, M⟩
  ·
   have hd12 := bne_iff_ne.1 hb12
   refine s_ct M (s_fs1 ?_)
   refine fp M 3 0 [(3, vI k), (2, .slice none 0 0)] fun a M => s_d0 (wp_ret ?_)
   exact s_rt2 rfl M rfl rfl (qib _ (by rw [qdp hop]) (qjd hop) O.below)
  have hd12 := bne_eq_false_iff_eq.1 hb12
  exfalso; omega
 ·
  refine qa ?_
  refine fp M 1 0 [(7, .slice A l.length c)] fun a M => fo M 1 rfl rfl ?_
  refine e_cl M [.slice A l.length c] rfl rfl (qmy A c l B _ (hL.mem O hB) (O.le hB) (O.old hr) hc hn hl hop) ?_
  rintro _ w8 ⟨g8, iv, av, NA, nc, SA, sc, rfl, hnc, hsc, hm⟩
  refine ⟨_, rfl, ?_⟩
  replace O := O.join hm
  clear M; intro a M
  refine fp M 5 2 [(5, vI 0), (4, vP g8 0)] fun a M => s_d0 (wp_seq (s_fs1 ?_))
  refine fp M 2 0 [(12, .bool false)] fun a M => s_d0 (s_cf M (wp_skip (s_fs1 ?_)))
  refine fp M 1 0 [(14, vP g8 0)] fun a M => s_fk M 1 fun a M => ?_
  refine fp M 1 2 [(16, vP g8 2)] fun a M => s_fc M O 3 0 fun a M => ?_
  refine fp M 2 4 [(3, vI 0), (2, .slice NA p.nums.length nc)] fun a M => s_d0 (wp_ret ?_)
  exact s_rt2 rfl M rfl rfl (qfa (er' := 0) (qcz hop).symm (qjc hop).symm (O.own (i := 1) rfl) hnc O.below)
theorem qcp (A : Option Addr) (c : Nat) (l : List Nat) (B : Nat) (w : World) (hL : LaidX B w) (hB : B ≤ w.heap.size) (hr : Rd w w.heap.size 1 A l.length (l.map B8)) (hc : l.length ≤ c) (hn : l.length ≤ 100000000) (hl : ∀ z ∈ l, z < 256) :
    Calls Tryz.prog 42 #[.slice A l.length c] w (qcv 82 w (errR l) (psecs l)) := by
 refine s_ce Tryz.func42 [.slice A l.length c] [(0, .slice A l.length c)] fun a M => ?_
 have O := Mem.start w
 refine s_fs1 ?_
 refine fp M 2 0 [(3, vI 0), (2, .slice none 0 0)] fun a M => s_d0 (wp_seq ?_)
 rcases hop : opnR l with k | p
 ·
  have hke := qcj hop
  refine qa ?_
  refine fp M 1 0 [(7, .slice A l.length c)] fun a M => fo M 1 rfl rfl (e_is M O [.slice A l.length c] (.tuple #[.pointer none, vI k]) rfl rfl (qmz A c l B _ (hL.mem O hB) (O.le hB) (O.old hr) hc hn hl hop) fun w8 hbw O a M => ?_)
  refine fp M 5 2 [(5, vI k), (4, .pointer none)] fun a M => s_d0 (wp_seq (s_fs1 ?_))
  refine fp M 2 0 [(12, .bool ((k : Int) != (0 : Int)))] fun a M => s_d0 ?_
  rcases M.tf 12 rfl with ⟨hb12, M⟩ | ⟨hb12, M⟩
  ·
   have hd12 := bne_iff_ne.1 hb12
   refine s_ct M (s_fs1 ?_)
   refine fp M 3 0 [(3, vI k), (2, .slice none 0 0)] fun a M => s_d0 (wp_ret ?_)
   exact s_rt2 rfl M rfl rfl (qpm _ (by rw [qdp hop]) (qef hop) O.below)
  have hd12 := bne_eq_false_iff_eq.1 hb12
  exfalso; omega
 ·
  refine qa ?_
  refine fp M 1 0 [(7, .slice A l.length c)] fun a M => fo M 1 rfl rfl ?_
  refine e_cl M [.slice A l.length c] rfl rfl (qmy A c l B _ (hL.mem O hB) (O.le hB) (O.old hr) hc hn hl hop) ?_
  rintro _ w8 ⟨g8, iv, av, NA, nc, SA, sc, rfl, hnc, hsc, hm⟩
  refine ⟨_, rfl, ?_⟩
  replace O := O.join hm
  clear M; intro a M
  refine fp M 5 2 [(5, vI 0), (4, vP g8 0)] fun a M => s_d0 (wp_seq (s_fs1 ?_))
  refine fp M 2 0 [(12, .bool false)] fun a M => s_d0 (s_cf M (wp_skip (s_fs1 ?_)))
  refine fp M 1 0 [(14, vP g8 0)] fun a M => s_fk M 1 fun a M => ?_
  refine fp M 1 2 [(16, vP g8 3)] fun a M => s_fc M O 3 0 fun a M => ?_
  refine fp M 2 4 [(3, vI 0), (2, .slice SA p.secs.length sc)] fun a M => s_d0 (wp_ret ?_)
  exact s_rt2 rfl M rfl rfl (qic (er' := 0) (qcz hop).symm (qee hop).symm (O.own (i := 2) rfl) hsc O.below)
def qli (W : World) (g k : Nat) (NA : Option Addr) (nc : Nat) (q : List Nat) (o : Bool) (fs : List Fact) (v : Value) (r : Ending) (w' : World) : Prop := r = .returned v ∧ Mem W w' (.blk g #[.slice (srcA NA nc k) (q.length - k) (nc - k), .bool o] 111 :: .row (.slice NA q.length nc) q.length (q.map U64) 22 1 :: fs)
theorem qlj {W w' : World} {g k : Nat} {NA : Option Addr} {nc : Nat} {q : List Nat} {o b : Bool} {fs : List Fact} {v : Value} {r : Ending} (hr : r = .returned v) (ho : b = o) (O : Mem W w' (.blk g #[.slice (srcA NA nc k) (q.length - k) (nc - k), .bool b] 111 :: .row (.slice NA q.length nc) q.length (q.map U64) 22 1 :: fs)) : qli W g k NA nc q o fs v r w' := by subst ho; exact ⟨hr, O⟩
theorem qwo (x m : Nat) : decide ((x : Int) ≤ (m : Int)) = dle x m := decide_eq_decide.2 Int.ofNat_le
theorem qow (m : Nat) (W w : World) (g k : Nat) (NA : Option Addr) (nc : Nat) (q : List Nat) (o : Bool) (fs : List Fact) (HW : Mem W w (.blk g #[.slice (srcA NA nc k) (q.length - k) (nc - k), .bool o] 111 :: .row (.slice NA q.length nc) q.length (q.map U64) 22 1 :: fs)) (hqc : q.length ≤ nc) (hk : k < q.length) :
    Calls Tryz.prog 80 #[.pointer (some ⟨g, 0, none⟩), .int .u64 (m : Int)] w (qli W g (k + 1) NA nc q (o && dle (q.getD k 0) m) fs (.int .u64 (q.getD k 0 : Int))) := by
 refine s_ce Tryz.func80 [vP g 0, vQ m] [(0, vP g 0), (1, vQ m)] fun a M => ?_
 have O := Mem.start w
 replace O := HW
 obtain ⟨gS, oS, hA, _⟩ := Rd.qi (qsp (O.rd (i := 1) rfl) hqc k (by omega)) (by omega) (by decide)
 refine s_fs1 ?_
 refine fp M 1 0 [(4, vQ 0)] fun a M => s_d0 (s_fs1 ?_)
 refine fp M 1 0 [(6, vP g 0)] fun a M => s_fk M 1 fun a M => ?_
 refine fp M 1 2 [(8, vP g 0)] fun a M => s_fc M O 3 0 fun a M => ?_
 replace M := M.sp 9 (.slice (some ⟨gS, oS, none⟩) (q.length - k) (nc - k)) rfl (by rw [hA]; rfl)
 refine s_fz M O 4 rfl (v := vP gS oS) (Yl.indexAddr (ad := ⟨gS, oS, none⟩) (y := 0) (sz := 1) rfl rfl rfl (by omega) (by kernel_rfl)) fun a M => ?_
 refine s_fz M O 5 rfl (v := vQ (q.getD k 0)) (Yl.qk rfl rfl (by kernel_rfl) (fun _ h => q1q (h.rd (i := 1) rfl) hqc hk hA)) fun a M => ?_
 refine fp M 1 6 [(5, vQ (q.getD k 0))] fun a M => s_d0 (s_fs1 ?_)
 refine fp M 2 0 [(13, vP g 0), (12, vP g 0)] fun a M => s_fk M 2 fun a M => ?_
 refine fp M 1 3 [(15, vP g 0)] fun a M => s_fc M O 4 0 fun a M => ?_
 refine s_fz M O 5 rfl (v := .slice (if nc - k = 1 then srcA NA nc k else (srcA NA nc k : Option Addr).map (·.add (1 * 1))) ((q.length - k) - 1) ((nc - k) - 1)) (Yl.sliceFrom zd (j := 1) rfl rfl rfl (by omega)) fun a M => ?_
 replace M := M.sp 17 (.slice (srcA NA nc (k + 1)) (q.length - (k + 1)) (nc - (k + 1))) rfl (rfl)
 refine s_fk M 6 fun a M => ?_
 refine fp M 1 7 [(19, vP g 0)] fun a M => fo M 8 rfl rfl (s_es M O 0 fun w2_8 O => ?_)
 refine s_d0 (s_fs1 ?_)
 refine fp M 2 0 [(21, vP g 0), (20, vP g 0)] fun a M => s_fk M 2 fun a M => ?_
 refine fp M 1 3 [(23, vP g 1)] fun a M => s_fc M O 4 0 fun a M => ?_
 refine fp M 1 5 [(25, .bool o)] fun a M => ?_
 rcases M.tf 25 rfl with ⟨hb25, M⟩ | ⟨hb25, M⟩
 ·
  refine fp M 4 6 [(29, .bool (decide ((q.getD k 0 : Int) ≤ (m : Int))))] fun a M => s_fk M 10 fun a M => ?_
  refine fp M 1 11 [(31, vP g 1)] fun a M => fo M 12 rfl rfl (s_es M O 0 fun w3_12 O => ?_)
  refine s_d0 (s_fs1 ?_)
  refine fp M 2 0 [(4, vQ (q.getD k 0))] fun a M => s_d0 (wp_ret ?_)
  exact s_rt1 rfl M rfl (qlj rfl (by rw [hb25, Bool.true_and]; exact qwo _ _) O)
 refine fp M 4 6 [(29, .bool false)] fun a M => s_fk M 10 fun a M => ?_
 refine fp M 1 11 [(31, vP g 1)] fun a M => fo M 12 rfl rfl (s_es M O 0 fun w3_12 O => ?_)
 refine s_d0 (s_fs1 ?_)
 refine fp M 2 0 [(4, vQ (q.getD k 0))] fun a M => s_d0 (wp_ret ?_)
 exact s_rt1 rfl M rfl (qlj rfl (by rw [hb25]; rfl) O)
theorem qcn (m : Nat) (W w : World) (g k : Nat) (NA : Option Addr) (nc : Nat) (q : List Nat) (o : Bool) (fs : List Fact) (HW : Mem W w (.blk g #[.slice (srcA NA nc k) (q.length - k) (nc - k), .bool o] 111 :: .row (.slice NA q.length nc) q.length (q.map U64) 22 1 :: fs)) (hqc : q.length ≤ nc) (hk : k < q.length) {x k2 : Nat} {o2 : Bool} (hx : q.getD k 0 = x) (h2 : k + 1 = k2) (ho : (o && dle x m) = o2) : Calls Tryz.prog 80 #[.pointer (some ⟨g, 0, none⟩), .int .u64 (m : Int)] w (qli W g k2 NA nc q o2 fs (.int .u64 (x : Int))) := by
 subst hx; subst h2; subst ho
 exact qow m W w g k NA nc q o fs HW hqc hk
theorem qt6 (W w : World) (g k : Nat) (NA : Option Addr) (nc : Nat) (q : List Nat) (o : Bool) (fs : List Fact) (HW : Mem W w (.blk g #[.slice (srcA NA nc k) (q.length - k) (nc - k), .bool o] 111 :: .row (.slice NA q.length nc) q.length (q.map U64) 22 1 :: fs)) (hqc : q.length ≤ nc) (hk : k < q.length) :
    Calls Tryz.prog 79 #[.pointer (some ⟨g, 0, none⟩)] w (qli W g (k + 1) NA nc q (o && dle (q.getD k 0) mostI) fs (.int .i64 (toI (q.getD k 0)))) := by
 refine s_ce Tryz.func79 [vP g 0] [(0, vP g 0)] fun a M => ?_
 have O := Mem.start w
 replace O := HW
 refine s_fs1 ?_
 refine fp M 1 0 [(2, vI 0)] fun a M => s_d0 (s_fs1 ?_)
 refine fp M 1 0 [(3, vP g 0)] fun a M => fo M 1 rfl rfl ?_
 refine s_em M [vP g 0, vQ 4611686018427387904] (qow mostI W _ g k NA nc q o fs O hqc hk) fun w4 O a M => ?_
 refine fp M 1 2 [(5, vI (IntKind.i64.wrap (q.getD k 0 : Int)))] fun a M => ?_
 replace M := M.sp 5 (vI (toI (q.getD k 0))) rfl (rfl)
 refine fp M 1 3 [(2, vI (toI (q.getD k 0)))] fun a M => s_d0 (wp_ret ?_)
 exact s_rt1 rfl M rfl (⟨rfl, O⟩)
theorem qah (W w : World) (g k : Nat) (NA : Option Addr) (nc : Nat) (q : List Nat) (o : Bool) (fs : List Fact) (HW : Mem W w (.blk g #[.slice (srcA NA nc k) (q.length - k) (nc - k), .bool o] 111 :: .row (.slice NA q.length nc) q.length (q.map U64) 22 1 :: fs)) (hqc : q.length ≤ nc) (hk : k < q.length) {x k2 : Nat} {o2 : Bool} {v : Int} (hx : q.getD k 0 = x) (h2 : k + 1 = k2) (ho : (o && dle x mostI) = o2) (hv : toI x = v) : Calls Tryz.prog 79 #[.pointer (some ⟨g, 0, none⟩)] w (qli W g k2 NA nc q o2 fs (.int .i64 v)) := by
 subst hx; subst h2; subst ho; subst hv
 exact qt6 W w g k NA nc q o fs HW hqc hk
theorem Mem.q2z {W w : World} {f r1 r2 r3 r4 r5 : Fact} {fs rs : List Fact} (h : Mem W w (f :: r1 :: r2 :: r3 :: r4 :: r5 :: (fs ++ rs))) : Mem W w (f :: (fs ++ ([r1, r2, r3, r4, r5] ++ rs))) := h.perm ((List.perm_append_comm_assoc [r1, r2, r3, r4, r5] fs rs).cons f)
theorem q0g (x : Nat) : ((x : Int) == (1 : Int)) = decide (x = 1) := by
 rw [Bool.eq_iff_iff, beq_iff_eq, decide_eq_true_eq]
 omega
theorem qwp {p : Pr} {j : Nat} (h : 0 < j) : p.okG (j + 1) = ((p.okG j && dle (p.gs.getD (2 * (j - 1)) 0) mostI) && dle (p.gs.getD (2 * (j - 1) + 1) 0) mostI) := if_neg (by omega)
theorem qt7 {p : Pr} {j : Nat} (h : j = 0) : p.okG (j + 1) = p.okG j := by subst h; rfl
theorem so_s0 {p : Pr} {y x : Nat} (h : y = 0) : p.so y (x + 1) = p.so y x + 1 := by subst h; rw [qck, qck]
theorem so_s3 {p : Pr} {y x : Nat} (h : 0 < y) : p.so y (x + 1) = p.so y x + 3 := by rw [qb6 h, qb6 h]; omega
theorem okR_z {p : Pr} {b : Bool} {y x : Nat} (h : y = 0) : p.okR b y (x + 1) = (p.okR b y x && dle (p.sn y x 0) 18446744073709551615) := if_pos h
theorem okR_p {p : Pr} {b : Bool} {y x : Nat} (h : 0 < y) : p.okR b y (x + 1) = (((p.okR b y x && dle (p.sn y x 0) 18446744073709551615) && dle (p.sn y x 1) 4294967295) && dle (p.sn y x 2) 18446744073709551615) := if_neg (by omega)
def q0h (W : World) (g : Nat) (p : Pr) (fs : List Fact) (r : Ending) (w' : World) : Prop := ∃ (z : Snm) (A : Option Addr) (n c : Nat), r = .returned (.agg z.cells) ∧ SnEq p.snA z ∧ StCap z.st ∧ Mem W w' (.blk g #[.slice A n c, .bool p.okB] 111 :: (fs ++ stF z.st))
theorem qt8 (W w : World) (g : Nat) (NA : Option Addr) (nc : Nat) (p : Pr) (h : p.Fit) (fs : List Fact) (HW : Mem W w (.blk g #[.slice NA p.nums.length nc, .bool true] 111 :: .row (.slice NA p.nums.length nc) p.nums.length (p.nums.map U64) 22 1 :: fs)) (hnc : p.nums.length ≤ nc) :
    Calls Tryz.prog 51 #[.pointer (some ⟨g, 0, none⟩)] w (q0h W g p fs) := by
 obtain ⟨hnl, hsl⟩ := qn1 h
 have n0 := qv5 p
 have eC : p.oC = 4 + 2 * (p.gp - 1) := rfl
 have eT : p.oT = p.oC + 2 * p.cp := rfl
 have eS : p.oS = p.oT + 1 + 8 * p.tk := rfl
 have c1 := h.cp1; have c2 := h.cp2; have c3 := h.gp1; have c4 := h.gp2; have c5 := h.tk
 refine s_ce Tryz.func51 [vP g 0] [(0, vP g 0)] fun a M => ?_
 have O := Mem.start w
 replace O := HW
 refine s_fs1 ?_
 refine fo M 0 rfl rfl (s_ea M O #[vI 0, vI 0, vQ 0, .slice none 0 0, .slice none 0 0, .slice none 0 0, .slice none 0 0, .slice none 0 0] fun a w2 g2 M O => ?_)
 refine s_d0 (s_fs1 ?_)
 refine fp M 1 0 [(12, vP g 0)] fun a M => fo M 1 rfl rfl ?_
 refine s_em M [vP g 0] (qah W _ g 0 NA nc p.nums true _ (O.pt 3 [1, 2, 0]) hnc (by omega) (x := p.nx) (k2 := 1) (o2 := true && dle p.nx mostI) (n0.1) (rfl) (rfl) (rfl)) fun w13 O a M => ?_
 refine s_fz M O 2 rfl (v := .agg #[vI (toI p.nx), vI 0, vQ 0, .slice none 0 0, .slice none 0 0, .slice none 0 0, .slice none 0 0, .slice none 0 0]) (Yl.build (vs := [(0, vI (toI p.nx))]) rfl (by kernel_rfl) (by kernel_rfl)) fun a M => ?_
 refine fo M 3 rfl rfl (s_ea M O #[vI 0, vI 0, vQ 0, .slice none 0 0, .slice none 0 0, .slice none 0 0, .slice none 0 0, .slice none 0 0] fun a w3 g3 M O => ?_)
 refine fo M 4 rfl rfl (e_sa M O 0 rfl rfl rfl rfl rfl z6 rfl rfl (by simp [Value.oneCell']) fun w1_4 O => ?_)
 refine s_d0 (s_fs1 ?_)
 refine fp M 2 0 [(4, vP g3 1)] fun a M => s_d0 (s_fs1 ?_)
 refine fp M 3 0 [(18, vP g 0), (17, vP g3 1), (16, vP g3 1)] fun a M => fo M 3 rfl rfl ?_
 refine s_em M [vP g 0] (qah W _ g 1 NA nc p.nums (true && dle p.nx mostI) _ (O.pt 4 [1, 2, 0, 3]) hnc (by omega) (x := p.cp) (k2 := 2) (o2 := (true && dle p.nx mostI) && dle p.cp mostI) (n0.2.1) (rfl) (rfl) (qjg (by omega))) fun w19 O a M => ?_
 refine fp M 1 4 [(20, vP g 0)] fun a M => fo M 5 rfl rfl ?_
 refine s_em M [vP g 0, vQ 18446744073709551615] (qcn 18446744073709551615 W _ g 2 NA nc p.nums ((true && dle p.nx mostI) && dle p.cp mostI) _ (O.pt 4 [0, 1, 2, 3]) hnc (by omega) (x := p.cr) (k2 := 3) (o2 := ((true && dle p.nx mostI) && dle p.cp mostI) && dle p.cr 18446744073709551615) (n0.2.2.1) (rfl) (rfl)) fun w21 O a M => ?_
 refine s_fk M 6 fun a M => ?_
 refine fp M 2 7 [(24, vP g3 1)] fun a M => fo M 9 rfl rfl (s_es M O 2 fun w3_9 O => ?_)
 refine s_fk M 10 fun a M => ?_
 refine fp M 2 11 [(27, vP g3 2)] fun a M => fo M 13 rfl rfl (s_es M O 2 fun w3_13 O => ?_)
 refine s_d0 (wp_seq (s_fs1 ?_))
 refine fp M 1 0 [(28, vP g 0)] fun a M => fo M 1 rfl rfl ?_
 refine s_em M [vP g 0] (qah W _ g 3 NA nc p.nums (((true && dle p.nx mostI) && dle p.cp mostI) && dle p.cr 18446744073709551615) _ (O.pt 4 [0, 1, 2, 3]) hnc (by omega) (x := p.gp) (k2 := 4 + 2 * (0 - 1)) (o2 := p.okG 0) (n0.2.2.2) (rfl) (rfl) (qjg (by omega))) fun w29 O a M => ?_
 refine fp M 1 2 [(30, vI 0)] fun a M => s_d0 ?_
 replace O := O.nil 40 2
 refine wp_block ?_
 refine qe (fun mS aS wS => ∃ (j : Nat) (G : List Gr) (Ag : Option Addr) (cg : Nat), (j ≤ p.gp) ∧ (G = mapR j p.grp) ∧ (G.length = j) ∧ (G.length ≤ cg) ∧ mS = p.gp - j ∧ Fr aS 191 [] [(30, vI j), (29, vI p.gp), (4, vP g3 1), (3, vP g3 0), (2, vP g2 0), (0, vP g 0)] ∧ Mem W wS (.row (.slice Ag G.length cg) G.length (G.flatMap grL) 40 2 :: .blk g #[.slice (srcA NA nc (4 + 2 * (j - 1))) (p.nums.length - (4 + 2 * (j - 1))) (nc - (4 + 2 * (j - 1))), .bool (p.okG j)] 111 :: .row (.slice NA p.nums.length nc) p.nums.length (p.nums.map U64) 22 1 :: .blk g3 #[vI (toI p.nx), vI p.cp, vQ p.cr, .slice Ag G.length cg, .slice none 0 0, .slice none 0 0, .slice none 0 0, .slice none 0 0] 32 :: .blk g2 #[vI 0, vI 0, vQ 0, .slice none 0 0, .slice none 0 0, .slice none 0 0, .slice none 0 0, .slice none 0 0] 32 :: fs)) (m := p.gp - 0) ⟨0, [], none, 0, Nat.zero_le _, rfl, rfl, Nat.le_refl _, rfl, M.sub (by kernel_rfl), O.pt 5 [0, 1, 2, 3, 4]⟩ ?_
 clear M O; rintro mS a w_ ⟨j, G, Ag, cg, hj, hG, hGl, hGc, rfl, M, O⟩
 refine s_fs1 ?_
 refine fp M 1 0 [(31, .bool (decide ((j : Int) < (p.gp : Int))))] fun a M => s_d0 (wp_seq ?_)
 rcases M.tf 31 rfl with ⟨hb31, M⟩ | ⟨hb31, M⟩
 ·
  have hd31 := of_decide_eq_true hb31
  refine s_ct M (wp_skip (wp_seq (wp_block (s_fs1 ?_))))
  refine fp M 2 0 [(5, vI j)] fun a M => s_d0 (s_fs1 ?_)
  refine s_fz M O 0 rfl (v := .agg #[vI 0, vI 1]) (Yl.build (vs := [(1, vI 1)]) rfl (by kernel_rfl) (by kernel_rfl)) fun a M => ?_
  refine fo M 1 rfl rfl (s_ea M O #[vI 0, vI 0] fun a w6 g6 M O => ?_)
  refine fo M 2 rfl rfl (e_sa M O 0 rfl rfl rfl rfl rfl si_gr rfl rfl (by simp [Value.oneCell']) fun w7_2 O => ?_)
  refine s_d0 (wp_seq (s_fs1 ?_))
  refine fp M 2 0 [(35, .bool (decide ((j : Int) > (0 : Int))))] fun a M => s_d0 ?_
  rcases M.tf 35 rfl with ⟨hb35, M⟩ | ⟨hb35, M⟩
  ·
   have hd35 := of_decide_eq_true hb35
   have hgr : p.grp j = ⟨toI (p.gs.getD (2 * (j - 1)) 0), toI (p.gs.getD (2 * (j - 1) + 1) 0)⟩ := if_neg (by omega)
   refine s_ct M (qa ?_)
   refine fp M 1 0 [(36, vP g 0)] fun a M => fo M 1 rfl rfl ?_
   refine s_em M [vP g 0] (qah W _ g (4 + 2 * (j - 1)) NA nc p.nums (p.okG j) _ (O.pt 6 [2, 3, 0, 1, 4, 5]) hnc (by omega) (x := p.gs.getD (2 * (j - 1)) 0) (k2 := 4 + (2 * (j - 1) + 1)) (o2 := p.okG j && dle (p.gs.getD (2 * (j - 1)) 0) mostI) (qso h (j := 2 * (j - 1)) (by omega)) (rfl) (rfl) (rfl)) fun w37 O a M => ?_
   refine fp M 1 2 [(38, vP g 0)] fun a M => fo M 3 rfl rfl ?_
   refine s_em M [vP g 0] (qah W _ g (4 + (2 * (j - 1) + 1)) NA nc p.nums (p.okG j && dle (p.gs.getD (2 * (j - 1)) 0) mostI) _ (O.pt 6 [0, 1, 2, 3, 4, 5]) hnc (by omega) (x := p.gs.getD (2 * (j - 1) + 1) 0) (k2 := 4 + 2 * (j + 1 - 1)) (o2 := (p.okG j && dle (p.gs.getD (2 * (j - 1)) 0) mostI) && dle (p.gs.getD (2 * (j - 1) + 1) 0) mostI) (qso h (j := 2 * (j - 1) + 1) (by omega)) (by omega) (rfl) (rfl)) fun w39 O a M => ?_
   refine fp M 1 4 [(40, vP g6 0)] fun a M => fo M 5 rfl rfl (s_es M O 2 fun w9_5 O => ?_)
   refine fp M 1 6 [(41, vP g6 1)] fun a M => fo M 7 rfl rfl (s_es M O 2 fun w9_7 O => ?_)
   refine s_d0 ?_
   replace O : Mem W _ (.blk g #[.slice (srcA NA nc (4 + 2 * (j + 1 - 1))) (p.nums.length - (4 + 2 * (j + 1 - 1))) (nc - (4 + 2 * (j + 1 - 1))), .bool ((p.okG j && dle (p.gs.getD (2 * (j - 1)) 0) mostI) && dle (p.gs.getD (2 * (j - 1) + 1) 0) mostI)] 111 :: .row (.slice NA p.nums.length nc) p.nums.length (p.nums.map U64) 22 1 :: .blk g6 #[vI (toI (p.gs.getD (2 * (j - 1)) 0)), vI (toI (p.gs.getD (2 * (j - 1) + 1) 0))] 40 :: .row (.slice Ag G.length cg) G.length (G.flatMap grL) 40 2 :: .blk g3 #[vI (toI p.nx), vI p.cp, vQ p.cr, .slice Ag G.length cg, .slice none 0 0, .slice none 0 0, .slice none 0 0, .slice none 0 0] 32 :: .blk g2 #[vI 0, vI 0, vQ 0, .slice none 0 0, .slice none 0 0, .slice none 0 0, .slice none 0 0, .slice none 0 0] 32 :: fs) := O
   refine zk O (.blk g #[.slice (srcA NA nc (4 + 2 * (j + 1 - 1))) (p.nums.length - (4 + 2 * (j + 1 - 1))) (nc - (4 + 2 * (j + 1 - 1))), .bool ((p.okG j && dle (p.gs.getD (2 * (j - 1)) 0) mostI) && dle (p.gs.getD (2 * (j - 1) + 1) 0) mostI)] 111 :: .row (.slice NA p.nums.length nc) p.nums.length (p.nums.map U64) 22 1 :: .blk g6 #[vI (toI (p.gs.getD (2 * (j - 1)) 0)), vI (toI (p.gs.getD (2 * (j - 1) + 1) 0))] 40 :: .blk g3 #[vI (toI p.nx), vI p.cp, vQ p.cr, .slice Ag G.length cg, .slice none 0 0, .slice none 0 0, .slice none 0 0, .slice none 0 0] 32 :: .blk g2 #[vI 0, vI 0, vQ 0, .slice none 0 0, .slice none 0 0, .slice none 0 0, .slice none 0 0, .slice none 0 0] 32 :: fs) 6 [0, 1, 2, 4, 5] [12] fun O Z => ?_
   refine ap M (fun _ => Z) [0, 1] (bf 13 [0, 1]) [(43, vP g3 1), (42, vP g3 1)] fun a M => ?_
   refine s_am M Z 2 fun a M => ?_
   refine ap M (fun _ => Z) [3, 4] (bf 13 [0, 1, 2, 3, 4]) [(46, vP g3 3)] fun a M => ?_
   refine s_ac M Z 5 3 fun a M => ?_
   refine s_az M Z 6 rfl (v := .agg #[vI (toI (p.gs.getD (2 * (j - 1)) 0)), vI (toI (p.gs.getD (2 * (j - 1) + 1) 0))]) (Yl.qt rfl rfl si_gr rfl (fun _ h => qf (h.blk (i := 2) rfl))) fun a M => ?_
   refine s_on M 7 rfl (s_el M O ei_gr [(0, .agg #[vI (toI (p.gs.getD (2 * (j - 1)) 0)), vI (toI (p.gs.getD (2 * (j - 1) + 1) 0))])] #[vI (toI (p.gs.getD (2 * (j - 1)) 0)), vI (toI (p.gs.getD (2 * (j - 1) + 1) 0))] fun a w49 g49 M O => ?_)
   refine keepS (O.pt 7 [1, 2, 3, 5, 6]) (fun Z => ?_)
   refine s_on M 8 rfl (qd M O (i := 4) rfl ei_gr rfl rfl rfl (news := ([(⟨toI (p.gs.getD (2 * (j - 1)) 0), toI (p.gs.getD (2 * (j - 1) + 1) 0)⟩ : Gr)].flatMap grL)) (O.rdBlk (i := 0) (n := 1) (size := 2) rfl rfl) (qns _) (by omega) (by omega) rfl (by decide) fun a w50 A50 c50 M O hc50 => ?_)
   refine keepS (O.pt 7 [1, 2, 3, 5, 6]) (fun Z => ?_)
   refine s_an M (fun _ => Z) 9 fun a M => ?_
   refine ap M (fun _ => Z) [10, 11] (bt 13 [12]) [(53, vP g3 3)] fun a M => ?_
   refine s_on M 12 rfl (s_es M O 5 fun w10_12 O => ?_)
   refine noS (by kernel_rfl) ?_
   refine qh (by kernel_rfl) ?_
   have hnA50 : G.length + 1 = (G ++ [p.grp j]).length := qs rfl
   replace O := O.reRow (i := 4) (ys := (G ++ [p.grp j]).flatMap grL) rfl hnA50 (by rw [hgr]; exact List.flatMap_append.symm)
   rw [hnA50] at hc50
   replace M := M.sp 50 (.slice A50 ((G ++ [p.grp j]).length) c50) rfl (by rw [hnA50])
   replace O := O.reBlk (i := 5) (ds := #[vI (toI p.nx), vI p.cp, vQ p.cr, .slice A50 ((G ++ [p.grp j]).length) c50, .slice none 0 0, .slice none 0 0, .slice none 0 0, .slice none 0 0]) rfl (by rw [hnA50]; rfl)
   refine qa ?_
   refine fp M 1 0 [(54, vI (IntKind.i64.wrap ((j : Int) + 1)))] fun a M => ?_
   replace M := M.sp 54 (vI (j + 1 : Nat)) rfl (qc (by omega) (by omega))
   refine fp M 1 1 [(30, vI (j + 1 : Nat))] fun a M => s_d0 ?_
   replace O := O.reBlk (i := 1) (ds := #[.slice (srcA NA nc (4 + 2 * (j + 1 - 1))) (p.nums.length - (4 + 2 * (j + 1 - 1))) (nc - (4 + 2 * (j + 1 - 1))), .bool (p.okG (j + 1))]) rfl (by rw [qwp (by omega)])
   exact ⟨_, (by omega), j + 1, (G ++ [p.grp j]), A50, c50, by omega, by rw [hG, zc], by rw [List.length_append, hGl]; rfl, hc50, rfl, M.sub (by kernel_rfl), O.pt 7 [4, 1, 2, 5, 6]⟩
  have hd35 := of_decide_eq_false hb35
  have hgr : p.grp j = ⟨0, 1⟩ := if_pos (by omega)
  refine s_cf M (wp_skip ?_)
  refine zk O (.blk g6 #[vI 0, vI 1] 40 :: .blk g #[.slice (srcA NA nc (4 + 2 * (j - 1))) (p.nums.length - (4 + 2 * (j - 1))) (nc - (4 + 2 * (j - 1))), .bool (p.okG j)] 111 :: .row (.slice NA p.nums.length nc) p.nums.length (p.nums.map U64) 22 1 :: .blk g3 #[vI (toI p.nx), vI p.cp, vQ p.cr, .slice Ag G.length cg, .slice none 0 0, .slice none 0 0, .slice none 0 0, .slice none 0 0] 32 :: .blk g2 #[vI 0, vI 0, vQ 0, .slice none 0 0, .slice none 0 0, .slice none 0 0, .slice none 0 0, .slice none 0 0] 32 :: fs) 6 [0, 2, 3, 4, 5] [12] fun O Z => ?_
  refine ap M (fun _ => Z) [0, 1] (bf 13 [0, 1]) [(43, vP g3 1), (42, vP g3 1)] fun a M => ?_
  refine s_am M Z 2 fun a M => ?_
  refine ap M (fun _ => Z) [3, 4] (bf 13 [0, 1, 2, 3, 4]) [(46, vP g3 3)] fun a M => ?_
  refine s_ac M Z 5 3 fun a M => ?_
  refine s_az M Z 6 rfl (v := .agg #[vI 0, vI 1]) (Yl.qt rfl rfl si_gr rfl (fun _ h => qf (h.blk (i := 0) rfl))) fun a M => ?_
  refine s_on M 7 rfl (s_el M O ei_gr [(0, .agg #[vI 0, vI 1])] #[vI 0, vI 1] fun a w49 g49 M O => ?_)
  refine keepS (O.pt 7 [1, 3, 4, 5, 6]) (fun Z => ?_)
  refine s_on M 8 rfl (qd M O (i := 2) rfl ei_gr rfl rfl rfl (news := ([(⟨0, 1⟩ : Gr)].flatMap grL)) (O.rdBlk (i := 0) (n := 1) (size := 2) rfl rfl) (qns _) (by omega) (by omega) rfl (by decide) fun a w50 A50 c50 M O hc50 => ?_)
  refine keepS (O.pt 7 [1, 3, 4, 5, 6]) (fun Z => ?_)
  refine s_an M (fun _ => Z) 9 fun a M => ?_
  refine ap M (fun _ => Z) [10, 11] (bt 13 [12]) [(53, vP g3 3)] fun a M => ?_
  refine s_on M 12 rfl (s_es M O 5 fun w10_12 O => ?_)
  refine noS (by kernel_rfl) ?_
  refine qh (by kernel_rfl) ?_
  have hnA50 : G.length + 1 = (G ++ [p.grp j]).length := qs rfl
  replace O := O.reRow (i := 2) (ys := (G ++ [p.grp j]).flatMap grL) rfl hnA50 (by rw [hgr]; exact List.flatMap_append.symm)
  rw [hnA50] at hc50
  replace M := M.sp 50 (.slice A50 ((G ++ [p.grp j]).length) c50) rfl (by rw [hnA50])
  replace O := O.reBlk (i := 5) (ds := #[vI (toI p.nx), vI p.cp, vQ p.cr, .slice A50 ((G ++ [p.grp j]).length) c50, .slice none 0 0, .slice none 0 0, .slice none 0 0, .slice none 0 0]) rfl (by rw [hnA50]; rfl)
  refine qa ?_
  refine fp M 1 0 [(54, vI (IntKind.i64.wrap ((j : Int) + 1)))] fun a M => ?_
  replace M := M.sp 54 (vI (j + 1 : Nat)) rfl (qc (by omega) (by omega))
  refine fp M 1 1 [(30, vI (j + 1 : Nat))] fun a M => s_d0 ?_
  replace O := O.reBlk (i := 3) (ds := #[.slice (srcA NA nc (4 + 2 * (j + 1 - 1))) (p.nums.length - (4 + 2 * (j + 1 - 1))) (nc - (4 + 2 * (j + 1 - 1))), .bool (p.okG (j + 1))]) rfl (by rw [qt7 (by omega), show 4 + 2 * (j + 1 - 1) = 4 + 2 * (j - 1) by omega])
  exact ⟨_, (by omega), j + 1, (G ++ [p.grp j]), A50, c50, by omega, by rw [hG, zc], by rw [List.length_append, hGl]; rfl, hc50, rfl, M.sub (by kernel_rfl), O.pt 7 [2, 3, 4, 5, 6]⟩
 have hd31 := of_decide_eq_false hb31
 refine s_cf M (wp_exit (wp_seq (s_fs1 ?_)))
 refine fp M 1 0 [(55, vP g3 1)] fun a M => s_fk M 1 fun a M => ?_
 refine fp M 2 2 [(58, vP g3 1)] fun a M => s_fc M O 4 3 fun a M => ?_
 refine fp M 1 5 [(60, vI 0)] fun a M => s_d0 ?_
 replace O := O.nil 3 1
 replace O := O.reBlk (i := 2) (ds := #[.slice (srcA NA nc (p.oC + 0)) (p.nums.length - (p.oC + 0)) (nc - (p.oC + 0)), .bool (p.okC 0)]) rfl (by rw [show j = p.gp by omega]; rfl)
 refine wp_block ?_
 refine qe (fun mS aS wS => ∃ (k : Nat) (C : List Int) (Al : Option Addr) (cl : Nat), (k ≤ p.cp) ∧ (C = mapR k fun i => toI (p.cl.getD i 0)) ∧ (C.length = k) ∧ (C.length ≤ cl) ∧ mS = p.cp - k ∧ Fr aS 191 [] [(60, vI k), (59, vI p.cp), (31, .bool false), (30, vI j), (29, vI p.gp), (4, vP g3 1), (3, vP g3 0), (2, vP g2 0), (0, vP g 0)] ∧ Mem W wS (.row (.slice Al C.length cl) C.length (C.map I64i) 3 1 :: .row (.slice Ag G.length cg) G.length (G.flatMap grL) 40 2 :: .blk g #[.slice (srcA NA nc (p.oC + k)) (p.nums.length - (p.oC + k)) (nc - (p.oC + k)), .bool (p.okC k)] 111 :: .row (.slice NA p.nums.length nc) p.nums.length (p.nums.map U64) 22 1 :: .blk g3 #[vI (toI p.nx), vI p.cp, vQ p.cr, .slice Ag G.length cg, .slice Al C.length cl, .slice none 0 0, .slice none 0 0, .slice none 0 0] 32 :: .blk g2 #[vI 0, vI 0, vQ 0, .slice none 0 0, .slice none 0 0, .slice none 0 0, .slice none 0 0, .slice none 0 0] 32 :: fs)) (m := p.cp - 0) ⟨0, [], none, 0, Nat.zero_le _, rfl, rfl, Nat.le_refl _, rfl, M.sub (by kernel_rfl), O.pt 6 [0, 1, 2, 3, 4, 5]⟩ ?_
 clear M O; rintro mS a w_ ⟨k, C, Al, cl, hk, hC, hCl, hCc, rfl, M, O⟩
 refine s_fs1 ?_
 refine fp M 1 0 [(61, .bool (decide ((k : Int) < (p.cp : Int))))] fun a M => s_d0 (wp_seq ?_)
 rcases M.tf 61 rfl with ⟨hb61, M⟩ | ⟨hb61, M⟩
 ·
  have hd61 := of_decide_eq_true hb61
  refine s_ct M (wp_skip (wp_seq (wp_block ?_)))
  refine zk O (.row (.slice Ag G.length cg) G.length (G.flatMap grL) 40 2 :: .row (.slice NA p.nums.length nc) p.nums.length (p.nums.map U64) 22 1 :: .blk g3 #[vI (toI p.nx), vI p.cp, vQ p.cr, .slice Ag G.length cg, .slice Al C.length cl, .slice none 0 0, .slice none 0 0, .slice none 0 0] 32 :: .blk g2 #[vI 0, vI 0, vQ 0, .slice none 0 0, .slice none 0 0, .slice none 0 0, .slice none 0 0, .slice none 0 0] 32 :: fs) 6 [1, 3, 4, 5] [11] fun O Z => ?_
  refine ap M (fun _ => Z) [0, 1, 5] (bf 12 [0, 1, 5]) [(67, vP g 0), (63, vP g3 1), (62, vP g3 1)] fun a M => ?_
  refine s_am M Z 2 fun a M => ?_
  refine ap M (fun _ => Z) [3] (bf 12 [0, 1, 2, 3, 5]) [(65, vP g3 4)] fun a M => ?_
  refine s_ac M Z 4 2 fun a M => ?_
  refine s_on M 6 rfl ?_
  refine s_em M [vP g 0] (qah W _ g (p.oC + k) NA nc p.nums (p.okC k) _ (O.pt 6 [2, 3, 0, 1, 4, 5]) hnc (by omega) (x := p.cl.getD k 0) (k2 := p.oC + (k + 1)) (o2 := p.okC (k + 1)) (qzm h (by omega)) (rfl) (rfl) (rfl)) fun w68 O a M => ?_
  refine keepS (O.pt 6 [3, 1, 4, 5]) (fun Z => ?_)
  refine s_on M 7 rfl (s_el M O qbu [(0, vI (toI (p.cl.getD k 0)))] #[vI (toI (p.cl.getD k 0))] fun a w69 g69 M O => ?_)
  refine keepS (O.pt 7 [4, 2, 5, 6]) (fun Z => ?_)
  refine s_on M 8 rfl (qd M O (i := 3) rfl qbu rfl rfl rfl (news := ([toI (p.cl.getD k 0)].map I64i)) (O.rdBlk (i := 0) (n := 1) (size := 1) rfl rfl) (qg2 _) (by omega) (by omega) rfl (by decide) fun a w70 A70 c70 M O hc70 => ?_)
  refine keepS (O.pt 7 [4, 2, 5, 6]) (fun Z => ?_)
  refine s_an M (fun _ => Z) 9 fun a M => ?_
  refine ap M (fun _ => Z) [10] (bt 12 [11]) [(72, vP g3 4)] fun a M => ?_
  refine s_on M 11 rfl (s_es M O 5 fun w14_11 O => ?_)
  refine noS (by kernel_rfl) ?_
  refine qh (by kernel_rfl) ?_
  have hnA70 : C.length + 1 = (C ++ [toI (p.cl.getD k 0)]).length := qs rfl
  replace O := O.reRow (i := 3) (ys := (C ++ [toI (p.cl.getD k 0)]).map I64i) rfl hnA70 (by exact List.map_append.symm)
  rw [hnA70] at hc70
  replace M := M.sp 70 (.slice A70 ((C ++ [toI (p.cl.getD k 0)]).length) c70) rfl (by rw [hnA70])
  replace O := O.reBlk (i := 5) (ds := #[vI (toI p.nx), vI p.cp, vQ p.cr, .slice Ag G.length cg, .slice A70 ((C ++ [toI (p.cl.getD k 0)]).length) c70, .slice none 0 0, .slice none 0 0, .slice none 0 0]) rfl (by rw [hnA70]; rfl)
  refine qa ?_
  refine fp M 1 0 [(73, vI (IntKind.i64.wrap ((k : Int) + 1)))] fun a M => ?_
  replace M := M.sp 73 (vI (k + 1 : Nat)) rfl (qc (by omega) (by omega))
  refine fp M 1 1 [(60, vI (k + 1 : Nat))] fun a M => s_d0 ?_
  exact ⟨_, (by omega), k + 1, (C ++ [toI (p.cl.getD k 0)]), A70, c70, by omega, by rw [hC, zc], by rw [List.length_append, hCl]; rfl, hc70, rfl, M.sub (by kernel_rfl), O.pt 7 [3, 4, 1, 2, 5, 6]⟩
 have hd61 := of_decide_eq_false hb61
 refine s_cf M (wp_exit (wp_seq (s_fs1 ?_)))
 refine fp M 1 0 [(74, vP g3 1)] fun a M => s_fk M 1 fun a M => ?_
 refine fp M 2 2 [(77, vP g3 1)] fun a M => s_fc M O 4 4 fun a M => ?_
 refine fp M 1 5 [(79, vI 0)] fun a M => s_d0 ?_
 replace O := O.nil 3 1
 replace O := O.reBlk (i := 3) (ds := #[.slice (srcA NA nc (p.oC + p.cp + 0)) (p.nums.length - (p.oC + p.cp + 0)) (nc - (p.oC + p.cp + 0)), .bool (p.okU 0)]) rfl (by rw [show k = p.cp by omega]; rfl)
 refine wp_block ?_
 refine qe (fun mS aS wS => ∃ (u : Nat) (U : List Int) (Au : Option Addr) (cu : Nat), (u ≤ p.cp) ∧ (U = mapR u fun i => toI (p.cu.getD i 0)) ∧ (U.length = u) ∧ (U.length ≤ cu) ∧ mS = p.cp - u ∧ Fr aS 191 [] [(79, vI u), (78, vI p.cp), (61, .bool false), (60, vI k), (59, vI p.cp), (31, .bool false), (30, vI j), (29, vI p.gp), (4, vP g3 1), (3, vP g3 0), (2, vP g2 0), (0, vP g 0)] ∧ Mem W wS (.row (.slice Au U.length cu) U.length (U.map I64i) 3 1 :: .row (.slice Al C.length cl) C.length (C.map I64i) 3 1 :: .row (.slice Ag G.length cg) G.length (G.flatMap grL) 40 2 :: .blk g #[.slice (srcA NA nc (p.oC + p.cp + u)) (p.nums.length - (p.oC + p.cp + u)) (nc - (p.oC + p.cp + u)), .bool (p.okU u)] 111 :: .row (.slice NA p.nums.length nc) p.nums.length (p.nums.map U64) 22 1 :: .blk g3 #[vI (toI p.nx), vI p.cp, vQ p.cr, .slice Ag G.length cg, .slice Al C.length cl, .slice Au U.length cu, .slice none 0 0, .slice none 0 0] 32 :: .blk g2 #[vI 0, vI 0, vQ 0, .slice none 0 0, .slice none 0 0, .slice none 0 0, .slice none 0 0, .slice none 0 0] 32 :: fs)) (m := p.cp - 0) ⟨0, [], none, 0, Nat.zero_le _, rfl, rfl, Nat.le_refl _, rfl, M.sub (by kernel_rfl), O.pt 7 [0, 1, 2, 3, 4, 5, 6]⟩ ?_
 clear M O; rintro mS a w_ ⟨u, U, Au, cu, hu, hU, hUl, hUc, rfl, M, O⟩
 refine s_fs1 ?_
 refine fp M 1 0 [(80, .bool (decide ((u : Int) < (p.cp : Int))))] fun a M => s_d0 (wp_seq ?_)
 rcases M.tf 80 rfl with ⟨hb80, M⟩ | ⟨hb80, M⟩
 ·
  have hd80 := of_decide_eq_true hb80
  refine s_ct M (wp_skip (wp_seq (wp_block ?_)))
  refine zk O (.row (.slice Al C.length cl) C.length (C.map I64i) 3 1 :: .row (.slice Ag G.length cg) G.length (G.flatMap grL) 40 2 :: .row (.slice NA p.nums.length nc) p.nums.length (p.nums.map U64) 22 1 :: .blk g3 #[vI (toI p.nx), vI p.cp, vQ p.cr, .slice Ag G.length cg, .slice Al C.length cl, .slice Au U.length cu, .slice none 0 0, .slice none 0 0] 32 :: .blk g2 #[vI 0, vI 0, vQ 0, .slice none 0 0, .slice none 0 0, .slice none 0 0, .slice none 0 0, .slice none 0 0] 32 :: fs) 7 [1, 2, 4, 5, 6] [11] fun O Z => ?_
  refine ap M (fun _ => Z) [0, 1, 5] (bf 12 [0, 1, 5]) [(86, vP g 0), (82, vP g3 1), (81, vP g3 1)] fun a M => ?_
  refine s_am M Z 2 fun a M => ?_
  refine ap M (fun _ => Z) [3] (bf 12 [0, 1, 2, 3, 5]) [(84, vP g3 5)] fun a M => ?_
  refine s_ac M Z 4 3 fun a M => ?_
  refine s_on M 6 rfl ?_
  refine s_em M [vP g 0] (qah W _ g (p.oC + p.cp + u) NA nc p.nums (p.okU u) _ (O.pt 7 [3, 4, 0, 1, 2, 5, 6]) hnc (by omega) (x := p.cu.getD u 0) (k2 := p.oC + p.cp + (u + 1)) (o2 := p.okU (u + 1)) (qzn h (by omega)) (rfl) (rfl) (rfl)) fun w87 O a M => ?_
  refine keepS (O.pt 7 [3, 4, 1, 5, 6]) (fun Z => ?_)
  refine s_on M 7 rfl (s_el M O qbu [(0, vI (toI (p.cu.getD u 0)))] #[vI (toI (p.cu.getD u 0))] fun a w88 g88 M O => ?_)
  refine keepS (O.pt 8 [4, 5, 2, 6, 7]) (fun Z => ?_)
  refine s_on M 8 rfl (qd M O (i := 3) rfl qbu rfl rfl rfl (news := ([toI (p.cu.getD u 0)].map I64i)) (O.rdBlk (i := 0) (n := 1) (size := 1) rfl rfl) (qg2 _) (by omega) (by omega) rfl (by decide) fun a w89 A89 c89 M O hc89 => ?_)
  refine keepS (O.pt 8 [4, 5, 2, 6, 7]) (fun Z => ?_)
  refine s_an M (fun _ => Z) 9 fun a M => ?_
  refine ap M (fun _ => Z) [10] (bt 12 [11]) [(91, vP g3 5)] fun a M => ?_
  refine s_on M 11 rfl (s_es M O 6 fun w18_11 O => ?_)
  refine noS (by kernel_rfl) ?_
  refine qh (by kernel_rfl) ?_
  have hnA89 : U.length + 1 = (U ++ [toI (p.cu.getD u 0)]).length := qs rfl
  replace O := O.reRow (i := 3) (ys := (U ++ [toI (p.cu.getD u 0)]).map I64i) rfl hnA89 (by exact List.map_append.symm)
  rw [hnA89] at hc89
  replace M := M.sp 89 (.slice A89 ((U ++ [toI (p.cu.getD u 0)]).length) c89) rfl (by rw [hnA89])
  replace O := O.reBlk (i := 6) (ds := #[vI (toI p.nx), vI p.cp, vQ p.cr, .slice Ag G.length cg, .slice Al C.length cl, .slice A89 ((U ++ [toI (p.cu.getD u 0)]).length) c89, .slice none 0 0, .slice none 0 0]) rfl (by rw [hnA89]; rfl)
  refine qa ?_
  refine fp M 1 0 [(92, vI (IntKind.i64.wrap ((u : Int) + 1)))] fun a M => ?_
  replace M := M.sp 92 (vI (u + 1 : Nat)) rfl (qc (by omega) (by omega))
  refine fp M 1 1 [(79, vI (u + 1 : Nat))] fun a M => s_d0 ?_
  exact ⟨_, (by omega), u + 1, (U ++ [toI (p.cu.getD u 0)]), A89, c89, by omega, by rw [hU, zc], by rw [List.length_append, hUl]; rfl, hc89, rfl, M.sub (by kernel_rfl), O.pt 8 [3, 4, 5, 1, 2, 6, 7]⟩
 have hd80 := of_decide_eq_false hb80
 refine s_cf M (wp_exit (s_fs1 ?_))
 refine fp M 1 0 [(7, vI 0)] fun a M => s_d0 ?_
 replace O := O.reBlk (i := 3) (ds := #[.slice (srcA NA nc p.oT) (p.nums.length - p.oT) (nc - p.oT), .bool (p.okU p.cp)]) rfl (by rw [show u = p.cp by omega, show p.oC + p.cp + p.cp = p.oT by omega])
 refine wp_seq (s_fs1 ?_)
 refine fp M 1 0 [(93, vP g 0)] fun a M => fo M 1 rfl rfl ?_
 refine s_em M [vP g 0] (qah W _ g p.oT NA nc p.nums (p.okU p.cp) _ (O.pt 7 [3, 4, 0, 1, 2, 5, 6]) hnc (by omega) (x := p.tk) (k2 := p.oT + 1 + 8 * 0) (o2 := p.okT 0) (qzo h) (rfl) (rfl) (qjg (by omega))) fun w94 O a M => ?_
 refine fp M 1 2 [(95, vI 0)] fun a M => s_d0 ?_
 replace O := O.nil 46 8
 refine wp_block ?_
 refine qe (fun mS aS wS => ∃ (i : Nat) (T : List Tk) (At : Option Addr) (ct : Nat), (i ≤ p.tk) ∧ (T = mapR i p.tsk) ∧ (T.length = i) ∧ (T.length ≤ ct) ∧ mS = p.tk - i ∧ Fr aS 191 [] [(95, vI i), (94, vI p.tk), (7, vI (p.idB i)), (80, .bool false), (79, vI u), (78, vI p.cp), (61, .bool false), (60, vI k), (59, vI p.cp), (31, .bool false), (30, vI j), (29, vI p.gp), (4, vP g3 1), (3, vP g3 0), (2, vP g2 0), (0, vP g 0)] ∧ Mem W wS (.row (.slice At T.length ct) T.length (T.flatMap tkL) 46 8 :: .blk g #[.slice (srcA NA nc (p.oT + 1 + 8 * i)) (p.nums.length - (p.oT + 1 + 8 * i)) (nc - (p.oT + 1 + 8 * i)), .bool (p.okT i)] 111 :: .row (.slice NA p.nums.length nc) p.nums.length (p.nums.map U64) 22 1 :: .row (.slice Au U.length cu) U.length (U.map I64i) 3 1 :: .row (.slice Al C.length cl) C.length (C.map I64i) 3 1 :: .row (.slice Ag G.length cg) G.length (G.flatMap grL) 40 2 :: .blk g3 #[vI (toI p.nx), vI p.cp, vQ p.cr, .slice Ag G.length cg, .slice Al C.length cl, .slice Au U.length cu, .slice At T.length ct, .slice none 0 0] 32 :: .blk g2 #[vI 0, vI 0, vQ 0, .slice none 0 0, .slice none 0 0, .slice none 0 0, .slice none 0 0, .slice none 0 0] 32 :: fs)) (m := p.tk - 0) ⟨0, [], none, 0, Nat.zero_le _, rfl, rfl, Nat.le_refl _, rfl, M.sub (by kernel_rfl), O.pt 8 [0, 1, 2, 3, 4, 5, 6, 7]⟩ ?_
 clear M O; rintro mS a w_ ⟨i, T, At, ct, hi, hT, hTl, hTc, rfl, M, O⟩
 refine s_fs1 ?_
 refine fp M 1 0 [(96, .bool (decide ((i : Int) < (p.tk : Int))))] fun a M => s_d0 (wp_seq ?_)
 rcases M.tf 96 rfl with ⟨hb96, M⟩ | ⟨hb96, M⟩
 ·
  have hd96 := of_decide_eq_true hb96
  refine s_ct M (wp_skip (wp_seq (wp_block (s_fs1 ?_))))
  refine fp M 2 0 [(98, vP g 0), (97, vI (p.idB i))] fun a M => fo M 2 rfl rfl ?_
  refine s_em M [vP g 0] (qah W _ g (p.oT + 1 + 8 * i) NA nc p.nums (p.okT i) _ (O.pt 8 [1, 2, 0, 3, 4, 5, 6, 7]) hnc (by omega) (x := p.tn i 0) (k2 := p.oT + 1 + (8 * i + 1)) (o2 := p.okT i && dle (p.tn i 0) mostI) (qc0 h (j := 8 * i) (by omega)) (rfl) (rfl) (rfl)) fun w99 O a M => ?_
  refine fp M 1 3 [(100, vI (IntKind.i64.wrap ((p.idB i) + (toI (p.tn i 0)))))] fun a M => ?_
  replace M := M.sp 100 (vI (p.idA i)) rfl (rfl)
  refine fp M 1 4 [(7, vI (p.idA i))] fun a M => s_d0 (s_fs1 ?_)
  refine fp M 2 0 [(102, vP g 0), (101, vI (p.idA i))] fun a M => fo M 2 rfl rfl ?_
  refine s_em M [vP g 0] (qah W _ g (p.oT + 1 + (8 * i + 1)) NA nc p.nums (p.okT i && dle (p.tn i 0) mostI) _ (O.pt 8 [0, 1, 2, 3, 4, 5, 6, 7]) hnc (by omega) (x := p.tn i 1) (k2 := p.oT + 1 + (8 * i + 2)) (o2 := (p.okT i && dle (p.tn i 0) mostI) && dle (p.tn i 1) mostI) (qc0 h (j := 8 * i + 1) (by omega)) (rfl) (rfl) (rfl)) fun w103 O a M => ?_
  refine fp M 1 3 [(104, vP g 0)] fun a M => fo M 4 rfl rfl ?_
  refine s_em M [vP g 0] (qah W _ g (p.oT + 1 + (8 * i + 2)) NA nc p.nums ((p.okT i && dle (p.tn i 0) mostI) && dle (p.tn i 1) mostI) _ (O.pt 8 [0, 1, 2, 3, 4, 5, 6, 7]) hnc (by omega) (x := p.tn i 2) (k2 := p.oT + 1 + (8 * i + 3)) (o2 := ((p.okT i && dle (p.tn i 0) mostI) && dle (p.tn i 1) mostI) && dle (p.tn i 2) mostI) (qc0 h (j := 8 * i + 2) (by omega)) (rfl) (rfl) (rfl)) fun w105 O a M => ?_
  refine fp M 1 5 [(106, vP g 0)] fun a M => fo M 6 rfl rfl ?_
  refine s_em M [vP g 0] (qah W _ g (p.oT + 1 + (8 * i + 3)) NA nc p.nums (((p.okT i && dle (p.tn i 0) mostI) && dle (p.tn i 1) mostI) && dle (p.tn i 2) mostI) _ (O.pt 8 [0, 1, 2, 3, 4, 5, 6, 7]) hnc (by omega) (x := p.tn i 3) (k2 := p.oT + 1 + (8 * i + 4)) (o2 := (((p.okT i && dle (p.tn i 0) mostI) && dle (p.tn i 1) mostI) && dle (p.tn i 2) mostI) && dle (p.tn i 3) mostI) (qc0 h (j := 8 * i + 3) (by omega)) (rfl) (rfl) (rfl)) fun w107 O a M => ?_
  refine fp M 1 7 [(108, vP g 0)] fun a M => fo M 8 rfl rfl ?_
  refine s_em M [vP g 0, vQ 18446744073709551615] (qcn 18446744073709551615 W _ g (p.oT + 1 + (8 * i + 4)) NA nc p.nums ((((p.okT i && dle (p.tn i 0) mostI) && dle (p.tn i 1) mostI) && dle (p.tn i 2) mostI) && dle (p.tn i 3) mostI) _ (O.pt 8 [0, 1, 2, 3, 4, 5, 6, 7]) hnc (by omega) (x := p.tn i 4) (k2 := p.oT + 1 + (8 * i + 5)) (o2 := ((((p.okT i && dle (p.tn i 0) mostI) && dle (p.tn i 1) mostI) && dle (p.tn i 2) mostI) && dle (p.tn i 3) mostI) && dle (p.tn i 4) 18446744073709551615) (qc0 h (j := 8 * i + 4) (by omega)) (rfl) (rfl)) fun w109 O a M => ?_
  refine s_fz M O 9 rfl (v := .agg #[vI (p.idA i), vI (toI (p.tn i 1)), vI (toI (p.tn i 2)), vI (toI (p.tn i 3)), vQ (p.tn i 4), .bool false, vQ 0, vW 0]) (Yl.build (vs := [(0, vI (p.idA i)), (1, vI (toI (p.tn i 1))), (2, vI (toI (p.tn i 2))), (3, vI (toI (p.tn i 3))), (4, vQ (p.tn i 4))]) rfl (by kernel_rfl) (by kernel_rfl)) fun a M => ?_
  refine fo M 10 rfl rfl (s_ea M O #[vI 0, vI 0, vI 0, vI 0, vQ 0, .bool false, vQ 0, vW 0] fun a w8 g8 M O => ?_)
  refine fo M 11 rfl rfl (e_sa M O 0 rfl rfl rfl rfl rfl si_tk rfl rfl (by simp [Value.oneCell']) fun w24_11 O => ?_)
  refine s_d0 ?_
  replace O : Mem W _ (.blk g8 #[vI (p.idA i), vI (toI (p.tn i 1)), vI (toI (p.tn i 2)), vI (toI (p.tn i 3)), vQ (p.tn i 4), .bool false, vQ 0, vW 0] 46 :: .blk g #[.slice (srcA NA nc (p.oT + 1 + (8 * i + 5))) (p.nums.length - (p.oT + 1 + (8 * i + 5))) (nc - (p.oT + 1 + (8 * i + 5))), .bool (((((p.okT i && dle (p.tn i 0) mostI) && dle (p.tn i 1) mostI) && dle (p.tn i 2) mostI) && dle (p.tn i 3) mostI) && dle (p.tn i 4) 18446744073709551615)] 111 :: .row (.slice NA p.nums.length nc) p.nums.length (p.nums.map U64) 22 1 :: .row (.slice At T.length ct) T.length (T.flatMap tkL) 46 8 :: .row (.slice Au U.length cu) U.length (U.map I64i) 3 1 :: .row (.slice Al C.length cl) C.length (C.map I64i) 3 1 :: .row (.slice Ag G.length cg) G.length (G.flatMap grL) 40 2 :: .blk g3 #[vI (toI p.nx), vI p.cp, vQ p.cr, .slice Ag G.length cg, .slice Al C.length cl, .slice Au U.length cu, .slice At T.length ct, .slice none 0 0] 32 :: .blk g2 #[vI 0, vI 0, vQ 0, .slice none 0 0, .slice none 0 0, .slice none 0 0, .slice none 0 0, .slice none 0 0] 32 :: fs) := O
  refine s_fs1 ?_
  refine fp M 1 0 [(111, vP g 0)] fun a M => fo M 1 rfl rfl ?_
  refine s_em M [vP g 0, vQ 1] (qcn 1 W _ g (p.oT + 1 + (8 * i + 5)) NA nc p.nums (((((p.okT i && dle (p.tn i 0) mostI) && dle (p.tn i 1) mostI) && dle (p.tn i 2) mostI) && dle (p.tn i 3) mostI) && dle (p.tn i 4) 18446744073709551615) _ (O.pt 9 [1, 2, 0, 3, 4, 5, 6, 7, 8]) hnc (by omega) (x := p.tn i 5) (k2 := p.oT + 1 + (8 * i + 6)) (o2 := (((((p.okT i && dle (p.tn i 0) mostI) && dle (p.tn i 1) mostI) && dle (p.tn i 2) mostI) && dle (p.tn i 3) mostI) && dle (p.tn i 4) 18446744073709551615) && dle (p.tn i 5) 1) (qc0 h (j := 8 * i + 5) (by omega)) (rfl) (rfl)) fun w112 O a M => ?_
  refine fp M 1 2 [(113, .bool ((p.tn i 5 : Int) == (1 : Int)))] fun a M => ?_
  replace M := M.sp 113 (.bool (decide (p.tn i 5 = 1))) rfl (congrArg Value.bool (q0g _))
  refine fp M 1 3 [(114, vP g 0)] fun a M => fo M 4 rfl rfl ?_
  refine s_em M [vP g 0, vQ 18446744073709551615] (qcn 18446744073709551615 W _ g (p.oT + 1 + (8 * i + 6)) NA nc p.nums ((((((p.okT i && dle (p.tn i 0) mostI) && dle (p.tn i 1) mostI) && dle (p.tn i 2) mostI) && dle (p.tn i 3) mostI) && dle (p.tn i 4) 18446744073709551615) && dle (p.tn i 5) 1) _ (O.pt 9 [0, 1, 2, 3, 4, 5, 6, 7, 8]) hnc (by omega) (x := p.tn i 6) (k2 := p.oT + 1 + (8 * i + 7)) (o2 := ((((((p.okT i && dle (p.tn i 0) mostI) && dle (p.tn i 1) mostI) && dle (p.tn i 2) mostI) && dle (p.tn i 3) mostI) && dle (p.tn i 4) 18446744073709551615) && dle (p.tn i 5) 1) && dle (p.tn i 6) 18446744073709551615) (qc0 h (j := 8 * i + 6) (by omega)) (rfl) (rfl)) fun w115 O a M => ?_
  refine fp M 1 5 [(116, vP g 0)] fun a M => fo M 6 rfl rfl ?_
  refine s_em M [vP g 0, vQ 4294967295] (qcn 4294967295 W _ g (p.oT + 1 + (8 * i + 7)) NA nc p.nums (((((((p.okT i && dle (p.tn i 0) mostI) && dle (p.tn i 1) mostI) && dle (p.tn i 2) mostI) && dle (p.tn i 3) mostI) && dle (p.tn i 4) 18446744073709551615) && dle (p.tn i 5) 1) && dle (p.tn i 6) 18446744073709551615) _ (O.pt 9 [0, 1, 2, 3, 4, 5, 6, 7, 8]) hnc (by omega) (x := p.tn i 7) (k2 := p.oT + 1 + 8 * (i + 1)) (o2 := (((((((p.okT i && dle (p.tn i 0) mostI) && dle (p.tn i 1) mostI) && dle (p.tn i 2) mostI) && dle (p.tn i 3) mostI) && dle (p.tn i 4) 18446744073709551615) && dle (p.tn i 5) 1) && dle (p.tn i 6) 18446744073709551615) && dle (p.tn i 7) 4294967295) (qc0 h (j := 8 * i + 7) (by omega)) (by omega) (rfl)) fun w117 O a M => ?_
  refine fp M 1 7 [(118, vW (IntKind.u32.wrap (p.tn i 7 : Int)))] fun a M => ?_
  replace M := M.sp 118 (vW ((p.tn i 7) % 4294967296 : Nat)) rfl (qi1 (p.tn i 7))
  refine fp M 1 8 [(119, vP g8 5)] fun a M => fo M 9 rfl rfl (s_es M O 2 fun w25_9 O => ?_)
  refine fp M 1 10 [(120, vP g8 6)] fun a M => fo M 11 rfl rfl (s_es M O 2 fun w25_11 O => ?_)
  refine fp M 1 12 [(121, vP g8 7)] fun a M => fo M 13 rfl rfl (s_es M O 2 fun w25_13 O => ?_)
  refine s_d0 ?_
  replace O : Mem W _ (.blk g #[.slice (srcA NA nc (p.oT + 1 + 8 * (i + 1))) (p.nums.length - (p.oT + 1 + 8 * (i + 1))) (nc - (p.oT + 1 + 8 * (i + 1))), .bool ((((((((p.okT i && dle (p.tn i 0) mostI) && dle (p.tn i 1) mostI) && dle (p.tn i 2) mostI) && dle (p.tn i 3) mostI) && dle (p.tn i 4) 18446744073709551615) && dle (p.tn i 5) 1) && dle (p.tn i 6) 18446744073709551615) && dle (p.tn i 7) 4294967295)] 111 :: .row (.slice NA p.nums.length nc) p.nums.length (p.nums.map U64) 22 1 :: .blk g8 #[vI (p.idA i), vI (toI (p.tn i 1)), vI (toI (p.tn i 2)), vI (toI (p.tn i 3)), vQ (p.tn i 4), .bool (decide (p.tn i 5 = 1)), vQ (p.tn i 6), vW ((p.tn i 7) % 4294967296 : Nat)] 46 :: .row (.slice At T.length ct) T.length (T.flatMap tkL) 46 8 :: .row (.slice Au U.length cu) U.length (U.map I64i) 3 1 :: .row (.slice Al C.length cl) C.length (C.map I64i) 3 1 :: .row (.slice Ag G.length cg) G.length (G.flatMap grL) 40 2 :: .blk g3 #[vI (toI p.nx), vI p.cp, vQ p.cr, .slice Ag G.length cg, .slice Al C.length cl, .slice Au U.length cu, .slice At T.length ct, .slice none 0 0] 32 :: .blk g2 #[vI 0, vI 0, vQ 0, .slice none 0 0, .slice none 0 0, .slice none 0 0, .slice none 0 0, .slice none 0 0] 32 :: fs) := O
  refine wp_seq ?_
  refine zk O (.blk g #[.slice (srcA NA nc (p.oT + 1 + 8 * (i + 1))) (p.nums.length - (p.oT + 1 + 8 * (i + 1))) (nc - (p.oT + 1 + 8 * (i + 1))), .bool ((((((((p.okT i && dle (p.tn i 0) mostI) && dle (p.tn i 1) mostI) && dle (p.tn i 2) mostI) && dle (p.tn i 3) mostI) && dle (p.tn i 4) 18446744073709551615) && dle (p.tn i 5) 1) && dle (p.tn i 6) 18446744073709551615) && dle (p.tn i 7) 4294967295)] 111 :: .row (.slice NA p.nums.length nc) p.nums.length (p.nums.map U64) 22 1 :: .blk g8 #[vI (p.idA i), vI (toI (p.tn i 1)), vI (toI (p.tn i 2)), vI (toI (p.tn i 3)), vQ (p.tn i 4), .bool (decide (p.tn i 5 = 1)), vQ (p.tn i 6), vW ((p.tn i 7) % 4294967296 : Nat)] 46 :: .row (.slice Au U.length cu) U.length (U.map I64i) 3 1 :: .row (.slice Al C.length cl) C.length (C.map I64i) 3 1 :: .row (.slice Ag G.length cg) G.length (G.flatMap grL) 40 2 :: .blk g3 #[vI (toI p.nx), vI p.cp, vQ p.cr, .slice Ag G.length cg, .slice Al C.length cl, .slice Au U.length cu, .slice At T.length ct, .slice none 0 0] 32 :: .blk g2 #[vI 0, vI 0, vQ 0, .slice none 0 0, .slice none 0 0, .slice none 0 0, .slice none 0 0, .slice none 0 0] 32 :: fs) 9 [0, 1, 2, 4, 5, 6, 7, 8] [10] fun O Z => ?_
  refine ap M (fun _ => Z) [0, 1] (bf 11 [0, 1]) [(123, vP g3 1), (122, vP g3 1)] fun a M => ?_
  refine s_am M Z 2 fun a M => ?_
  refine ap M (fun _ => Z) [3] (bf 11 [0, 1, 2, 3]) [(125, vP g3 6)] fun a M => ?_
  refine s_ac M Z 4 6 fun a M => ?_
  refine s_az M Z 5 rfl (v := .agg #[vI (p.idA i), vI (toI (p.tn i 1)), vI (toI (p.tn i 2)), vI (toI (p.tn i 3)), vQ (p.tn i 4), .bool (decide (p.tn i 5 = 1)), vQ (p.tn i 6), vW ((p.tn i 7) % 4294967296 : Nat)]) (Yl.qt rfl rfl si_tk rfl (fun _ h => qf (h.blk (i := 2) rfl))) fun a M => ?_
  refine s_on M 6 rfl (s_el M O ei_tk [(0, .agg #[vI (p.idA i), vI (toI (p.tn i 1)), vI (toI (p.tn i 2)), vI (toI (p.tn i 3)), vQ (p.tn i 4), .bool (decide (p.tn i 5 = 1)), vQ (p.tn i 6), vW ((p.tn i 7) % 4294967296 : Nat)])] #[vI (p.idA i), vI (toI (p.tn i 1)), vI (toI (p.tn i 2)), vI (toI (p.tn i 3)), vQ (p.tn i 4), .bool (decide (p.tn i 5 = 1)), vQ (p.tn i 6), vW ((p.tn i 7) % 4294967296 : Nat)] fun a w128 g128 M O => ?_)
  refine keepS (O.pt 10 [1, 2, 3, 5, 6, 7, 8, 9]) (fun Z => ?_)
  refine s_on M 7 rfl (qd M O (i := 4) rfl ei_tk rfl rfl rfl (news := ([p.tsk i].flatMap tkL)) (O.rdBlk (i := 0) (n := 1) (size := 8) rfl rfl) (qnt _) (by omega) (by omega) rfl (by decide) fun a w129 A129 c129 M O hc129 => ?_)
  refine keepS (O.pt 10 [1, 2, 3, 5, 6, 7, 8, 9]) (fun Z => ?_)
  refine s_an M (fun _ => Z) 8 fun a M => ?_
  refine ap M (fun _ => Z) [9] (bt 11 [10]) [(131, vP g3 6)] fun a M => ?_
  refine s_on M 10 rfl (s_es M O 8 fun w26_10 O => ?_)
  refine noS (by kernel_rfl) ?_
  refine qh (by kernel_rfl) ?_
  have hnA129 : T.length + 1 = (T ++ [p.tsk i]).length := qs rfl
  replace O := O.reRow (i := 4) (ys := (T ++ [p.tsk i]).flatMap tkL) rfl hnA129 (by exact List.flatMap_append.symm)
  rw [hnA129] at hc129
  replace M := M.sp 129 (.slice A129 ((T ++ [p.tsk i]).length) c129) rfl (by rw [hnA129])
  replace O := O.reBlk (i := 8) (ds := #[vI (toI p.nx), vI p.cp, vQ p.cr, .slice Ag G.length cg, .slice Al C.length cl, .slice Au U.length cu, .slice A129 ((T ++ [p.tsk i]).length) c129, .slice none 0 0]) rfl (by rw [hnA129]; rfl)
  refine s_fs1 ?_
  refine fp M 2 0 [(133, vP g 0), (132, vP g 0)] fun a M => s_fk M 2 fun a M => ?_
  refine fp M 1 3 [(135, vP g 1)] fun a M => s_fc M O 4 1 fun a M => ?_
  refine fp M 1 5 [(137, .bool ((((((((p.okT i && dle (p.tn i 0) mostI) && dle (p.tn i 1) mostI) && dle (p.tn i 2) mostI) && dle (p.tn i 3) mostI) && dle (p.tn i 4) 18446744073709551615) && dle (p.tn i 5) 1) && dle (p.tn i 6) 18446744073709551615) && dle (p.tn i 7) 4294967295))] fun a M => ?_
  rcases M.tf 137 rfl with ⟨hb137, M⟩ | ⟨hb137, M⟩
  ·
   refine fp M 3 6 [(140, .bool (decide ((p.idA i : Int) ≤ (65535 : Int))))] fun a M => s_fk M 9 fun a M => ?_
   refine fp M 1 10 [(142, vP g 1)] fun a M => fo M 11 rfl rfl (s_es M O 1 fun w27_11 O => ?_)
   refine s_d0 ?_
   replace M := M.to [(129, .slice A129 ((T ++ [p.tsk i]).length) c129), (8, vP g8 0), (7, vI (p.idA i)), (96, .bool true), (95, vI i), (94, vI p.tk), (80, .bool false), (79, vI u), (78, vI p.cp), (61, .bool false), (60, vI k), (59, vI p.cp), (31, .bool false), (30, vI j), (29, vI p.gp), (4, vP g3 1), (3, vP g3 0), (2, vP g2 0), (0, vP g 0)]
   refine qa ?_
   refine fp M 1 0 [(143, vI (p.idA i))] fun a M => s_fz M O 1 rfl (v := vI (if (65535 : Int) < (p.idA i : Int) then 65535 else p.idA i)) (Yl.min rfl rfl rfl) fun a M => ?_
   replace M := M.sp 144 (vI (p.idB (i + 1))) rfl (rfl)
   refine fp M 1 2 [(7, vI (p.idB (i + 1)))] fun a M => s_d0 (qa ?_)
   refine fp M 1 0 [(145, vI (IntKind.i64.wrap ((i : Int) + 1)))] fun a M => ?_
   replace M := M.sp 145 (vI (i + 1 : Nat)) rfl (qc (by omega) (by omega))
   refine fp M 1 1 [(95, vI (i + 1 : Nat))] fun a M => s_d0 ?_
   replace O := O.reBlk (i := 1) (ds := #[.slice (srcA NA nc (p.oT + 1 + 8 * (i + 1))) (p.nums.length - (p.oT + 1 + 8 * (i + 1))) (nc - (p.oT + 1 + 8 * (i + 1))), .bool (p.okT (i + 1))]) rfl (by rw [show p.okT (i + 1) = (((((((((p.okT i && dle (p.tn i 0) mostI) && dle (p.tn i 1) mostI) && dle (p.tn i 2) mostI) && dle (p.tn i 3) mostI) && dle (p.tn i 4) 18446744073709551615) && dle (p.tn i 5) 1) && dle (p.tn i 6) 18446744073709551615) && dle (p.tn i 7) 4294967295) && decide (p.idA i ≤ 65535)) from rfl, hb137]; rfl)
   exact ⟨_, (by omega), i + 1, (T ++ [p.tsk i]), A129, c129, by omega, by rw [hT, zc], by rw [List.length_append, hTl]; rfl, hc129, rfl, M.sub (by kernel_rfl), O.pt 10 [4, 1, 2, 5, 6, 7, 8, 9]⟩
  refine fp M 3 6 [(140, .bool false)] fun a M => s_fk M 9 fun a M => ?_
  refine fp M 1 10 [(142, vP g 1)] fun a M => fo M 11 rfl rfl (s_es M O 1 fun w27_11 O => ?_)
  refine s_d0 ?_
  replace M := M.to [(129, .slice A129 ((T ++ [p.tsk i]).length) c129), (8, vP g8 0), (7, vI (p.idA i)), (96, .bool true), (95, vI i), (94, vI p.tk), (80, .bool false), (79, vI u), (78, vI p.cp), (61, .bool false), (60, vI k), (59, vI p.cp), (31, .bool false), (30, vI j), (29, vI p.gp), (4, vP g3 1), (3, vP g3 0), (2, vP g2 0), (0, vP g 0)]
  refine qa ?_
  refine fp M 1 0 [(143, vI (p.idA i))] fun a M => s_fz M O 1 rfl (v := vI (if (65535 : Int) < (p.idA i : Int) then 65535 else p.idA i)) (Yl.min rfl rfl rfl) fun a M => ?_
  replace M := M.sp 144 (vI (p.idB (i + 1))) rfl (rfl)
  refine fp M 1 2 [(7, vI (p.idB (i + 1)))] fun a M => s_d0 (qa ?_)
  refine fp M 1 0 [(145, vI (IntKind.i64.wrap ((i : Int) + 1)))] fun a M => ?_
  replace M := M.sp 145 (vI (i + 1 : Nat)) rfl (qc (by omega) (by omega))
  refine fp M 1 1 [(95, vI (i + 1 : Nat))] fun a M => s_d0 ?_
  replace O := O.reBlk (i := 1) (ds := #[.slice (srcA NA nc (p.oT + 1 + 8 * (i + 1))) (p.nums.length - (p.oT + 1 + 8 * (i + 1))) (nc - (p.oT + 1 + 8 * (i + 1))), .bool (p.okT (i + 1))]) rfl (by rw [show p.okT (i + 1) = (((((((((p.okT i && dle (p.tn i 0) mostI) && dle (p.tn i 1) mostI) && dle (p.tn i 2) mostI) && dle (p.tn i 3) mostI) && dle (p.tn i 4) 18446744073709551615) && dle (p.tn i 5) 1) && dle (p.tn i 6) 18446744073709551615) && dle (p.tn i 7) 4294967295) && decide (p.idA i ≤ 65535)) from rfl, hb137]; rfl)
  exact ⟨_, (by omega), i + 1, (T ++ [p.tsk i]), A129, c129, by omega, by rw [hT, zc], by rw [List.length_append, hTl]; rfl, hc129, rfl, M.sub (by kernel_rfl), O.pt 10 [4, 1, 2, 5, 6, 7, 8, 9]⟩
 have hd96 := of_decide_eq_false hb96
 refine s_cf M (wp_exit (wp_seq (s_fs1 ?_)))
 refine fp M 1 0 [(146, vP g3 1)] fun a M => s_fk M 1 fun a M => ?_
 refine fp M 2 2 [(149, vP g3 3)] fun a M => s_fc M O 4 6 fun a M => ?_
 refine s_fl M 5 fun a M => ?_
 refine fp M 1 6 [(152, vI 0)] fun a M => s_d0 ?_
 replace O := O.reBlk (i := 1) (ds := #[.slice (srcA NA nc (p.oS + p.so 0 0)) (p.nums.length - (p.oS + p.so 0 0)) (nc - (p.oS + p.so 0 0)), .bool (p.okS 0)]) rfl (by rw [show i = p.tk by omega]; rfl)
 replace O := O.nil 44 1
 replace O := O.newTail 43 3
 replace O : Mem W _ (.row (.slice none 0 0) 0 [] 44 1 :: .row (.slice At T.length ct) T.length (T.flatMap tkL) 46 8 :: .blk g #[.slice (srcA NA nc (p.oS + p.so 0 0)) (p.nums.length - (p.oS + p.so 0 0)) (nc - (p.oS + p.so 0 0)), .bool (p.okS 0)] 111 :: .row (.slice NA p.nums.length nc) p.nums.length (p.nums.map U64) 22 1 :: .row (.slice Au U.length cu) U.length (U.map I64i) 3 1 :: .row (.slice Al C.length cl) C.length (C.map I64i) 3 1 :: .row (.slice Ag G.length cg) G.length (G.flatMap grL) 40 2 :: .blk g3 #[vI (toI p.nx), vI p.cp, vQ p.cr, .slice Ag G.length cg, .slice Al C.length cl, .slice Au U.length cu, .slice At T.length ct, .slice none 0 0] 32 :: .blk g2 #[vI 0, vI 0, vQ 0, .slice none 0 0, .slice none 0 0, .slice none 0 0, .slice none 0 0, .slice none 0 0] 32 :: (fs ++ (rwF 43 []))) := O
 refine wp_block ?_
 refine qe (fun mS aS wS => ∃ (y : Nat) (z : List Rw) (As : Option Addr) (cs : Nat), (y ≤ G.length) ∧ (z.length = y) ∧ (z.map Rw.l = mapR y p.row) ∧ (∀ q ∈ z, q.l.length ≤ q.c) ∧ (z.length ≤ cs) ∧ mS = G.length - y ∧ Fr aS 191 [] [(152, vI y), (151, vI G.length), (96, .bool false), (95, vI i), (94, vI p.tk), (7, vI (p.idB i)), (80, .bool false), (79, vI u), (78, vI p.cp), (61, .bool false), (60, vI k), (59, vI p.cp), (31, .bool false), (30, vI j), (29, vI p.gp), (4, vP g3 1), (3, vP g3 0), (2, vP g2 0), (0, vP g 0)] ∧ Mem W wS (.row (.slice As z.length cs) z.length (z.map Rw.val) 44 1 :: .row (.slice At T.length ct) T.length (T.flatMap tkL) 46 8 :: .blk g #[.slice (srcA NA nc (p.oS + p.so y 0)) (p.nums.length - (p.oS + p.so y 0)) (nc - (p.oS + p.so y 0)), .bool (p.okS y)] 111 :: .row (.slice NA p.nums.length nc) p.nums.length (p.nums.map U64) 22 1 :: .row (.slice Au U.length cu) U.length (U.map I64i) 3 1 :: .row (.slice Al C.length cl) C.length (C.map I64i) 3 1 :: .row (.slice Ag G.length cg) G.length (G.flatMap grL) 40 2 :: .blk g3 #[vI (toI p.nx), vI p.cp, vQ p.cr, .slice Ag G.length cg, .slice Al C.length cl, .slice Au U.length cu, .slice At T.length ct, .slice As z.length cs] 32 :: .blk g2 #[vI 0, vI 0, vQ 0, .slice none 0 0, .slice none 0 0, .slice none 0 0, .slice none 0 0, .slice none 0 0] 32 :: (fs ++ (rwF 43 z)))) (m := G.length - 0) ⟨0, [], none, 0, Nat.zero_le _, rfl, rfl, (fun q h => by cases h), Nat.le_refl _, rfl, M.sub (by kernel_rfl), O.pt 9 [0, 1, 2, 3, 4, 5, 6, 7, 8]⟩ ?_
 clear M O; rintro mS a w_ ⟨y, z, As, cs, hy, hzl, hz, hzc, hcs, rfl, M, O⟩
 refine s_fs1 ?_
 refine fp M 1 0 [(153, .bool (decide ((y : Int) < (G.length : Int))))] fun a M => s_d0 (wp_seq ?_)
 rcases M.tf 153 rfl with ⟨hb153, M⟩ | ⟨hb153, M⟩
 ·
  have hd153 := of_decide_eq_true hb153
  have hyg : y < p.gp := by omega
  refine s_ct M (wp_skip (wp_seq (wp_block (s_fs1 ?_))))
  refine fp M 2 0 [(9, vI y)] fun a M => s_d0 (s_fs1 ?_)
  refine fp M 1 0 [(10, .slice none 0 0)] fun a M => s_d0 ?_
  replace O := O.nil 43 3
  refine wp_seq (s_fs1 ?_)
  refine fp M 1 0 [(155, vP g3 1)] fun a M => s_fk M 1 fun a M => ?_
  refine fp M 2 2 [(158, vP g3 1)] fun a M => s_fc M O 4 8 fun a M => ?_
  refine fp M 1 5 [(160, vI 0)] fun a M => s_d0 (wp_block ?_)
  refine qe (fun mS aS wS => ∃ (x : Nat) (R : List Sp) (Ar : Option Addr) (cr : Nat), (x ≤ p.cp) ∧ (R = mapR x (p.spt y)) ∧ (R.length = x) ∧ (R.length ≤ cr) ∧ mS = p.cp - x ∧ Fr aS 191 [] [(160, vI x), (159, vI p.cp), (10, .slice Ar R.length cr), (9, vI y), (153, .bool true), (152, vI y), (151, vI G.length), (96, .bool false), (95, vI i), (94, vI p.tk), (7, vI (p.idB i)), (80, .bool false), (79, vI u), (78, vI p.cp), (61, .bool false), (60, vI k), (59, vI p.cp), (31, .bool false), (30, vI j), (29, vI p.gp), (4, vP g3 1), (3, vP g3 0), (2, vP g2 0), (0, vP g 0)] ∧ Mem W wS (.row (.slice Ar R.length cr) R.length (R.flatMap spL) 43 3 :: .row (.slice As z.length cs) z.length (z.map Rw.val) 44 1 :: .row (.slice At T.length ct) T.length (T.flatMap tkL) 46 8 :: .blk g #[.slice (srcA NA nc (p.oS + p.so y x)) (p.nums.length - (p.oS + p.so y x)) (nc - (p.oS + p.so y x)), .bool (p.okR (p.okS y) y x)] 111 :: .row (.slice NA p.nums.length nc) p.nums.length (p.nums.map U64) 22 1 :: .row (.slice Au U.length cu) U.length (U.map I64i) 3 1 :: .row (.slice Al C.length cl) C.length (C.map I64i) 3 1 :: .row (.slice Ag G.length cg) G.length (G.flatMap grL) 40 2 :: .blk g3 #[vI (toI p.nx), vI p.cp, vQ p.cr, .slice Ag G.length cg, .slice Al C.length cl, .slice Au U.length cu, .slice At T.length ct, .slice As z.length cs] 32 :: .blk g2 #[vI 0, vI 0, vQ 0, .slice none 0 0, .slice none 0 0, .slice none 0 0, .slice none 0 0, .slice none 0 0] 32 :: (fs ++ (rwF 43 z)))) (m := p.cp - 0) ⟨0, [], none, 0, Nat.zero_le _, rfl, rfl, Nat.le_refl _, rfl, M.sub (by kernel_rfl), O.pt 10 [0, 1, 2, 3, 4, 5, 6, 7, 8, 9]⟩ ?_
  clear M O; rintro mS a w_ ⟨x, R, Ar, cr, hx, hR, hRl, hRc, rfl, M, O⟩
  refine s_fs1 ?_
  refine fp M 1 0 [(161, .bool (decide ((x : Int) < (p.cp : Int))))] fun a M => s_d0 (wp_seq ?_)
  rcases M.tf 161 rfl with ⟨hb161, M⟩ | ⟨hb161, M⟩
  ·
   have hd161 := of_decide_eq_true hb161
   have hxc : x < p.cp := by omega
   have hin := so_in h hyg hxc
   refine s_ct M (wp_skip (wp_seq (wp_block (s_fs1 ?_))))
   refine fo M 0 rfl rfl (s_ea M O #[vQ 0, vW 0, vQ 0] fun a w11 g11 M O => ?_)
   refine s_d0 (wp_seq (s_fs1 ?_))
   refine fp M 2 0 [(163, .bool (decide ((y : Int) > (0 : Int))))] fun a M => s_d0 ?_
   rcases M.tf 163 rfl with ⟨hb163, M⟩ | ⟨hb163, M⟩
   ·
    have hd163 := of_decide_eq_true hb163
    rw [if_neg (by omega)] at hin
    have hsp : p.spt y x = ⟨p.sn y x 0, p.sn y x 1 % 4294967296, p.sn y x 2⟩ := if_neg (by omega)
    refine s_ct M (qa ?_)
    refine fp M 1 0 [(164, vP g 0)] fun a M => fo M 1 rfl rfl ?_
    refine s_em M [vP g 0, vQ 18446744073709551615] (qcn 18446744073709551615 W _ g (p.oS + p.so y x) NA nc p.nums (p.okR (p.okS y) y x) _ (O.pt 11 [4, 5, 0, 1, 2, 3, 6, 7, 8, 9, 10]) hnc (by omega) (x := p.sn y x 0) (k2 := p.oS + (p.so y x + 1)) (o2 := p.okR (p.okS y) y x && dle (p.sn y x 0) 18446744073709551615) (qje h (p.so y x)) (rfl) (rfl)) fun w165 O a M => ?_
    refine fp M 1 2 [(166, vP g 0)] fun a M => fo M 3 rfl rfl ?_
    refine s_em M [vP g 0, vQ 4294967295] (qcn 4294967295 W _ g (p.oS + (p.so y x + 1)) NA nc p.nums (p.okR (p.okS y) y x && dle (p.sn y x 0) 18446744073709551615) _ (O.pt 11 [0, 1, 2, 3, 4, 5, 6, 7, 8, 9, 10]) hnc (by omega) (x := p.sn y x 1) (k2 := p.oS + (p.so y x + 2)) (o2 := (p.okR (p.okS y) y x && dle (p.sn y x 0) 18446744073709551615) && dle (p.sn y x 1) 4294967295) (qje h (p.so y x + 1)) (rfl) (rfl)) fun w167 O a M => ?_
    refine fp M 1 4 [(168, vW (IntKind.u32.wrap (p.sn y x 1 : Int)))] fun a M => ?_
    replace M := M.sp 168 (vW ((p.sn y x 1) % 4294967296 : Nat)) rfl (qi1 (p.sn y x 1))
    refine fp M 1 5 [(169, vP g11 0)] fun a M => fo M 6 rfl rfl (s_es M O 2 fun w38_6 O => ?_)
    refine fp M 1 7 [(170, vP g11 1)] fun a M => fo M 8 rfl rfl (s_es M O 2 fun w38_8 O => ?_)
    refine s_d0 ?_
    replace O : Mem W _ (.blk g #[.slice (srcA NA nc (p.oS + (p.so y x + 2))) (p.nums.length - (p.oS + (p.so y x + 2))) (nc - (p.oS + (p.so y x + 2))), .bool ((p.okR (p.okS y) y x && dle (p.sn y x 0) 18446744073709551615) && dle (p.sn y x 1) 4294967295)] 111 :: .row (.slice NA p.nums.length nc) p.nums.length (p.nums.map U64) 22 1 :: .blk g11 #[vQ (p.sn y x 0), vW ((p.sn y x 1) % 4294967296 : Nat), vQ 0] 43 :: .row (.slice Ar R.length cr) R.length (R.flatMap spL) 43 3 :: .row (.slice As z.length cs) z.length (z.map Rw.val) 44 1 :: .row (.slice At T.length ct) T.length (T.flatMap tkL) 46 8 :: .row (.slice Au U.length cu) U.length (U.map I64i) 3 1 :: .row (.slice Al C.length cl) C.length (C.map I64i) 3 1 :: .row (.slice Ag G.length cg) G.length (G.flatMap grL) 40 2 :: .blk g3 #[vI (toI p.nx), vI p.cp, vQ p.cr, .slice Ag G.length cg, .slice Al C.length cl, .slice Au U.length cu, .slice At T.length ct, .slice As z.length cs] 32 :: .blk g2 #[vI 0, vI 0, vQ 0, .slice none 0 0, .slice none 0 0, .slice none 0 0, .slice none 0 0, .slice none 0 0] 32 :: (fs ++ (rwF 43 z))) := O
    refine s_fs1 ?_
    refine fp M 1 0 [(171, vP g 0)] fun a M => fo M 1 rfl rfl ?_
    refine s_em M [vP g 0, vQ 18446744073709551615] (qcn 18446744073709551615 W _ g (p.oS + (p.so y x + 2)) NA nc p.nums ((p.okR (p.okS y) y x && dle (p.sn y x 0) 18446744073709551615) && dle (p.sn y x 1) 4294967295) _ (O.pt 11 [0, 1, 2, 3, 4, 5, 6, 7, 8, 9, 10]) hnc (by omega) (x := p.sn y x 2) (k2 := p.oS + p.so y (x + 1)) (o2 := p.okR (p.okS y) y (x + 1)) (qje h (p.so y x + 2)) (by rw [so_s3 (by omega)]; rfl) ((okR_p (by omega)).symm)) fun w172 O a M => ?_
    refine fp M 1 2 [(173, vP g11 2)] fun a M => fo M 3 rfl rfl (s_es M O 2 fun w39_3 O => ?_)
    refine s_d0 ?_
    replace O : Mem W _ (.blk g #[.slice (srcA NA nc (p.oS + p.so y (x + 1))) (p.nums.length - (p.oS + p.so y (x + 1))) (nc - (p.oS + p.so y (x + 1))), .bool (p.okR (p.okS y) y (x + 1))] 111 :: .row (.slice NA p.nums.length nc) p.nums.length (p.nums.map U64) 22 1 :: .blk g11 #[vQ (p.sn y x 0), vW ((p.sn y x 1) % 4294967296 : Nat), vQ (p.sn y x 2)] 43 :: .row (.slice Ar R.length cr) R.length (R.flatMap spL) 43 3 :: .row (.slice As z.length cs) z.length (z.map Rw.val) 44 1 :: .row (.slice At T.length ct) T.length (T.flatMap tkL) 46 8 :: .row (.slice Au U.length cu) U.length (U.map I64i) 3 1 :: .row (.slice Al C.length cl) C.length (C.map I64i) 3 1 :: .row (.slice Ag G.length cg) G.length (G.flatMap grL) 40 2 :: .blk g3 #[vI (toI p.nx), vI p.cp, vQ p.cr, .slice Ag G.length cg, .slice Al C.length cl, .slice Au U.length cu, .slice At T.length ct, .slice As z.length cs] 32 :: .blk g2 #[vI 0, vI 0, vQ 0, .slice none 0 0, .slice none 0 0, .slice none 0 0, .slice none 0 0, .slice none 0 0] 32 :: (fs ++ (rwF 43 z))) := O
    refine qa ?_
    refine fp M 1 0 [(174, .slice Ar R.length cr)] fun a M => s_fz M O 1 rfl (v := .agg #[vQ (p.sn y x 0), vW ((p.sn y x 1) % 4294967296 : Nat), vQ (p.sn y x 2)]) (Yl.qt rfl rfl si_sp rfl (fun _ h => qf (h.blk (i := 2) rfl))) fun a M => ?_
    refine fo M 2 rfl rfl (s_el M O ei_sp [(0, .agg #[vQ (p.sn y x 0), vW ((p.sn y x 1) % 4294967296 : Nat), vQ (p.sn y x 2)])] #[vQ (p.sn y x 0), vW ((p.sn y x 1) % 4294967296 : Nat), vQ (p.sn y x 2)] fun a w176 g176 M O => ?_)
    refine fo M 3 rfl rfl (qd M O (i := 4) rfl ei_sp rfl rfl rfl (news := ([(⟨p.sn y x 0, p.sn y x 1 % 4294967296, p.sn y x 2⟩ : Sp)].flatMap spL)) (O.rdBlk (i := 0) (n := 1) (size := 3) rfl rfl) (qkt _) (by omega) (by omega) rfl (by decide) fun a w177 A177 c177 M O hc177 => ?_)
    refine fp M 1 4 [(10, .slice A177 (R.length + 1) c177)] fun a M => s_d0 ?_
    have hnA177 : R.length + 1 = (R ++ [p.spt y x]).length := qs rfl
    replace O := O.reRow (i := 4) (ys := (R ++ [p.spt y x]).flatMap spL) rfl hnA177 (by rw [hsp]; exact List.flatMap_append.symm)
    rw [hnA177] at hc177
    replace M := M.sp 10 (.slice A177 ((R ++ [p.spt y x]).length) c177) rfl (by rw [hnA177])
    replace M := M.sp 177 (.slice A177 ((R ++ [p.spt y x]).length) c177) rfl (by rw [hnA177])
    refine qa ?_
    refine fp M 1 0 [(178, vI (IntKind.i64.wrap ((x : Int) + 1)))] fun a M => ?_
    replace M := M.sp 178 (vI (x + 1 : Nat)) rfl (qc (by omega) (by omega))
    refine fp M 1 1 [(160, vI (x + 1 : Nat))] fun a M => s_d0 ?_
    exact ⟨_, (by omega), x + 1, (R ++ [p.spt y x]), A177, c177, by omega, by rw [hR, zc], by rw [List.length_append, hRl]; rfl, hc177, rfl, M.sub (by kernel_rfl), O.pt 12 [4, 5, 6, 1, 2, 7, 8, 9, 10, 11]⟩
   have hd163 := of_decide_eq_false hb163
   rw [if_pos (by omega)] at hin
   have hsp : p.spt y x = ⟨0, 0, p.sn y x 0⟩ := if_pos (by omega)
   refine s_cf M (wp_skip (s_fs1 ?_))
   refine fp M 1 0 [(171, vP g 0)] fun a M => fo M 1 rfl rfl ?_
   refine s_em M [vP g 0, vQ 18446744073709551615] (qcn 18446744073709551615 W _ g (p.oS + p.so y x) NA nc p.nums (p.okR (p.okS y) y x) _ (O.pt 11 [4, 5, 0, 1, 2, 3, 6, 7, 8, 9, 10]) hnc (by omega) (x := p.sn y x 0) (k2 := p.oS + p.so y (x + 1)) (o2 := p.okR (p.okS y) y (x + 1)) (qje h (p.so y x)) (by rw [so_s0 (by omega)]; rfl) ((okR_z (by omega)).symm)) fun w172 O a M => ?_
   refine fp M 1 2 [(173, vP g11 2)] fun a M => fo M 3 rfl rfl (s_es M O 2 fun w39_3 O => ?_)
   refine s_d0 ?_
   replace O : Mem W _ (.blk g #[.slice (srcA NA nc (p.oS + p.so y (x + 1))) (p.nums.length - (p.oS + p.so y (x + 1))) (nc - (p.oS + p.so y (x + 1))), .bool (p.okR (p.okS y) y (x + 1))] 111 :: .row (.slice NA p.nums.length nc) p.nums.length (p.nums.map U64) 22 1 :: .blk g11 #[vQ 0, vW 0, vQ (p.sn y x 0)] 43 :: .row (.slice Ar R.length cr) R.length (R.flatMap spL) 43 3 :: .row (.slice As z.length cs) z.length (z.map Rw.val) 44 1 :: .row (.slice At T.length ct) T.length (T.flatMap tkL) 46 8 :: .row (.slice Au U.length cu) U.length (U.map I64i) 3 1 :: .row (.slice Al C.length cl) C.length (C.map I64i) 3 1 :: .row (.slice Ag G.length cg) G.length (G.flatMap grL) 40 2 :: .blk g3 #[vI (toI p.nx), vI p.cp, vQ p.cr, .slice Ag G.length cg, .slice Al C.length cl, .slice Au U.length cu, .slice At T.length ct, .slice As z.length cs] 32 :: .blk g2 #[vI 0, vI 0, vQ 0, .slice none 0 0, .slice none 0 0, .slice none 0 0, .slice none 0 0, .slice none 0 0] 32 :: (fs ++ (rwF 43 z))) := O
   refine qa ?_
   refine fp M 1 0 [(174, .slice Ar R.length cr)] fun a M => s_fz M O 1 rfl (v := .agg #[vQ 0, vW 0, vQ (p.sn y x 0)]) (Yl.qt rfl rfl si_sp rfl (fun _ h => qf (h.blk (i := 2) rfl))) fun a M => ?_
   refine fo M 2 rfl rfl (s_el M O ei_sp [(0, .agg #[vQ 0, vW 0, vQ (p.sn y x 0)])] #[vQ 0, vW 0, vQ (p.sn y x 0)] fun a w176 g176 M O => ?_)
   refine fo M 3 rfl rfl (qd M O (i := 4) rfl ei_sp rfl rfl rfl (news := ([(⟨0, 0, p.sn y x 0⟩ : Sp)].flatMap spL)) (O.rdBlk (i := 0) (n := 1) (size := 3) rfl rfl) (qkt _) (by omega) (by omega) rfl (by decide) fun a w177 A177 c177 M O hc177 => ?_)
   refine fp M 1 4 [(10, .slice A177 (R.length + 1) c177)] fun a M => s_d0 ?_
   have hnA177 : R.length + 1 = (R ++ [p.spt y x]).length := qs rfl
   replace O := O.reRow (i := 4) (ys := (R ++ [p.spt y x]).flatMap spL) rfl hnA177 (by rw [hsp]; exact List.flatMap_append.symm)
   rw [hnA177] at hc177
   replace M := M.sp 10 (.slice A177 ((R ++ [p.spt y x]).length) c177) rfl (by rw [hnA177])
   replace M := M.sp 177 (.slice A177 ((R ++ [p.spt y x]).length) c177) rfl (by rw [hnA177])
   refine qa ?_
   refine fp M 1 0 [(178, vI (IntKind.i64.wrap ((x : Int) + 1)))] fun a M => ?_
   replace M := M.sp 178 (vI (x + 1 : Nat)) rfl (qc (by omega) (by omega))
   refine fp M 1 1 [(160, vI (x + 1 : Nat))] fun a M => s_d0 ?_
   exact ⟨_, (by omega), x + 1, (R ++ [p.spt y x]), A177, c177, by omega, by rw [hR, zc], by rw [List.length_append, hRl]; rfl, hc177, rfl, M.sub (by kernel_rfl), O.pt 12 [4, 5, 6, 1, 2, 7, 8, 9, 10, 11]⟩
  have hd161 := of_decide_eq_false hb161
  refine s_cf M (wp_exit (qa ?_))
  refine fp M 2 0 [(180, vP g3 1), (179, vP g3 1)] fun a M => s_fk M 2 fun a M => ?_
  refine fp M 1 3 [(182, vP g3 7)] fun a M => s_fc M O 4 8 fun a M => ?_
  refine fp M 1 5 [(184, .slice Ar R.length cr)] fun a M => fo M 6 rfl rfl (s_el M O ei_rw [(0, .slice Ar R.length cr)] #[.slice Ar R.length cr] fun a w185 g185 M O => ?_)
  refine fo M 7 rfl rfl (qd M O (i := 2) rfl ei_rw rfl rfl rfl (news := ([(⟨Ar, cr, R⟩ : Rw)].map Rw.val)) (O.rdBlk (i := 0) (n := 1) (size := 1) rfl rfl) (qr7 _) (by omega) (by omega) rfl (by decide) fun a w186 A186 c186 M O hc186 => ?_)
  refine s_fk M 8 fun a M => ?_
  refine fp M 1 9 [(188, vP g3 7)] fun a M => fo M 10 rfl rfl (s_es M O 9 fun w42_10 O => ?_)
  refine s_d0 ?_
  have hnA186 : z.length + 1 = (z ++ [(⟨Ar, cr, R⟩ : Rw)]).length := qs rfl
  replace O := O.reRow (i := 2) (ys := (z ++ [(⟨Ar, cr, R⟩ : Rw)]).map Rw.val) rfl hnA186 (by exact List.map_append.symm)
  rw [hnA186] at hc186
  replace M := M.sp 186 (.slice A186 ((z ++ [(⟨Ar, cr, R⟩ : Rw)]).length) c186) rfl (by rw [hnA186])
  replace O := O.reBlk (i := 9) (ds := #[vI (toI p.nx), vI p.cp, vQ p.cr, .slice Ag G.length cg, .slice Al C.length cl, .slice Au U.length cu, .slice At T.length ct, .slice A186 ((z ++ [(⟨Ar, cr, R⟩ : Rw)]).length) c186]) rfl (by rw [hnA186]; rfl)
  replace O := O.pt (fs' := (.row (.slice Ar R.length cr) R.length (R.flatMap spL) 43 3 :: .row (.slice A186 ((z ++ [(⟨Ar, cr, R⟩ : Rw)]).length) c186) ((z ++ [(⟨Ar, cr, R⟩ : Rw)]).length) ((z ++ [(⟨Ar, cr, R⟩ : Rw)]).map Rw.val) 44 1 :: .row (.slice At T.length ct) T.length (T.flatMap tkL) 46 8 :: .blk g #[.slice (srcA NA nc (p.oS + p.so y x)) (p.nums.length - (p.oS + p.so y x)) (nc - (p.oS + p.so y x)), .bool (p.okR (p.okS y) y x)] 111 :: .row (.slice NA p.nums.length nc) p.nums.length (p.nums.map U64) 22 1 :: .row (.slice Au U.length cu) U.length (U.map I64i) 3 1 :: .row (.slice Al C.length cl) C.length (C.map I64i) 3 1 :: .row (.slice Ag G.length cg) G.length (G.flatMap grL) 40 2 :: .blk g3 #[vI (toI p.nx), vI p.cp, vQ p.cr, .slice Ag G.length cg, .slice Al C.length cl, .slice Au U.length cu, .slice At T.length ct, .slice A186 ((z ++ [(⟨Ar, cr, R⟩ : Rw)]).length) c186] 32 :: .blk g2 #[vI 0, vI 0, vQ 0, .slice none 0 0, .slice none 0 0, .slice none 0 0, .slice none 0 0, .slice none 0 0] 32 :: (fs ++ (rwF 43 z)))) 11 [1, 2, 3, 4, 5, 6, 7, 8, 9, 10]
  replace O := Mem.toRw (fs := (.row (.slice A186 ((z ++ [(⟨Ar, cr, R⟩ : Rw)]).length) c186) ((z ++ [(⟨Ar, cr, R⟩ : Rw)]).length) ((z ++ [(⟨Ar, cr, R⟩ : Rw)]).map Rw.val) 44 1 :: .row (.slice At T.length ct) T.length (T.flatMap tkL) 46 8 :: .blk g #[.slice (srcA NA nc (p.oS + p.so y x)) (p.nums.length - (p.oS + p.so y x)) (nc - (p.oS + p.so y x)), .bool (p.okR (p.okS y) y x)] 111 :: .row (.slice NA p.nums.length nc) p.nums.length (p.nums.map U64) 22 1 :: .row (.slice Au U.length cu) U.length (U.map I64i) 3 1 :: .row (.slice Al C.length cl) C.length (C.map I64i) 3 1 :: .row (.slice Ag G.length cg) G.length (G.flatMap grL) 40 2 :: .blk g3 #[vI (toI p.nx), vI p.cp, vQ p.cr, .slice Ag G.length cg, .slice Al C.length cl, .slice Au U.length cu, .slice At T.length ct, .slice A186 ((z ++ [(⟨Ar, cr, R⟩ : Rw)]).length) c186] 32 :: .blk g2 #[vI 0, vI 0, vQ 0, .slice none 0 0, .slice none 0 0, .slice none 0 0, .slice none 0 0, .slice none 0 0] 32 :: fs)) O
  replace O : Mem W _ (.row (.slice A186 ((z ++ [(⟨Ar, cr, R⟩ : Rw)]).length) c186) ((z ++ [(⟨Ar, cr, R⟩ : Rw)]).length) ((z ++ [(⟨Ar, cr, R⟩ : Rw)]).map Rw.val) 44 1 :: .row (.slice At T.length ct) T.length (T.flatMap tkL) 46 8 :: .blk g #[.slice (srcA NA nc (p.oS + p.so y x)) (p.nums.length - (p.oS + p.so y x)) (nc - (p.oS + p.so y x)), .bool (p.okR (p.okS y) y x)] 111 :: .row (.slice NA p.nums.length nc) p.nums.length (p.nums.map U64) 22 1 :: .row (.slice Au U.length cu) U.length (U.map I64i) 3 1 :: .row (.slice Al C.length cl) C.length (C.map I64i) 3 1 :: .row (.slice Ag G.length cg) G.length (G.flatMap grL) 40 2 :: .blk g3 #[vI (toI p.nx), vI p.cp, vQ p.cr, .slice Ag G.length cg, .slice Al C.length cl, .slice Au U.length cu, .slice At T.length ct, .slice A186 ((z ++ [(⟨Ar, cr, R⟩ : Rw)]).length) c186] 32 :: .blk g2 #[vI 0, vI 0, vQ 0, .slice none 0 0, .slice none 0 0, .slice none 0 0, .slice none 0 0, .slice none 0 0] 32 :: (fs ++ (rwF 43 (z ++ [(⟨Ar, cr, R⟩ : Rw)])))) := O
  refine qa ?_
  refine fp M 1 0 [(189, vI (IntKind.i64.wrap ((y : Int) + 1)))] fun a M => ?_
  replace M := M.sp 189 (vI (y + 1 : Nat)) rfl (qc (by omega) (by omega))
  refine fp M 1 1 [(152, vI (y + 1 : Nat))] fun a M => s_d0 ?_
  replace O := O.reBlk (i := 2) (ds := #[.slice (srcA NA nc (p.oS + p.so (y + 1) 0)) (p.nums.length - (p.oS + p.so (y + 1) 0)) (nc - (p.oS + p.so (y + 1) 0)), .bool (p.okS (y + 1))]) rfl (by rw [qg9, show x = p.cp by omega]; rfl)
  exact ⟨_, (by omega), y + 1, (z ++ [(⟨Ar, cr, R⟩ : Rw)]), A186, c186, by omega, by rw [List.length_append, hzl]; rfl, by rw [List.map_append, hz, zc, hR, show x = p.cp by omega]; rfl, fun q h => (List.mem_append.1 h).elim (hzc q) (fun h => by rw [List.mem_singleton] at h; subst h; exact hRc), hc186, rfl, M.sub (by kernel_rfl), O.pt 9 [0, 1, 2, 3, 4, 5, 6, 7, 8]⟩
 have hd153 := of_decide_eq_false hb153
 have e0 : y = p.gp := by omega
 have e1 : mapR p.gp p.grp = G := by rw [hG, show j = p.gp by omega]
 have e2 : p.cl.map toI = C := by rw [hC, show k = p.cp by omega]; exact (qeg h.cl toI).symm
 have e3 : p.cu.map toI = U := by rw [hU, show u = p.cp by omega]; exact (qeg h.cu toI).symm
 have e4 : mapR p.tk p.tsk = T := by rw [hT, show i = p.tk by omega]
 have e5 : (mapR p.gp fun g => (⟨none, 0, p.row g⟩ : Rw)).map Rw.l = z.map Rw.l := by rw [hz, e0]; exact qn0 _ _ _
 refine s_cf M (wp_exit (s_fs1 ?_))
 refine s_fz M O 0 rfl (v := .agg #[vI (toI p.nx), vI p.cp, vQ p.cr, .slice Ag G.length cg, .slice Al C.length cl, .slice Au U.length cu, .slice At T.length ct, .slice As z.length cs]) (Yl.qt rfl rfl z6 rfl (fun _ h => qf (h.blk (i := 7) rfl))) fun a M => ?_
 refine fo M 1 rfl rfl (e_sa M O 8 rfl rfl rfl rfl rfl z6 rfl rfl (by simp [Value.oneCell']) fun w44_1 O => ?_)
 refine s_d0 ?_
 replace O := O.reBlk (i := 2) (ds := #[.slice (srcA NA nc (p.oS + p.so p.gp 0)) (p.nums.length - (p.oS + p.so p.gp 0)) (nc - (p.oS + p.so p.gp 0)), .bool p.okB]) rfl (by rw [e0]; rfl)
 refine wp_ret ?_
 exact ret1 rfl M (.cellS (i := 8) M O rfl rfl z6 rfl) (⟨(⟨toI p.nx, ⟨(p.cp : Int), p.cr, Ag, cg, G, Al, cl, C, Au, cu, U, At, ct, T, As, cs, z⟩⟩ : Snm), _, _, _, rfl, sn_of rfl ⟨⟨rfl, rfl, e1⟩, e2, e3, e4, e5⟩, ⟨hGc, hCc, hUc, hTc, hcs, hzc⟩, Mem.q2z (O.pt 9 [2, 6, 5, 4, 1, 0])⟩)
theorem qqe (A : Option Addr) (n c : Nat) (l : List Nat) (D : Option Addr) (k c2 : Nat) (m : List Nat) (w : World) (hr : Rd w w.heap.size 1 A n (l.map B8)) (hr2 : Rd w w.heap.size 1 D k (m.map B8)) (hl : ∀ z ∈ l, z < 256) (hm : ∀ z ∈ m, z < 256) :
    Calls Tryz.prog 74 #[.slice A n c, .slice D k c2] w (Is w (.bool (decide (l = m)))) := by
 refine s_ce Tryz.func74 [.slice A n c, .slice D k c2] [(0, .slice A n c), (1, .slice D k c2)] fun a M => ?_
 have O := Mem.start w
 refine s_fs1 ?_
 refine fp M 1 0 [(4, .bool false)] fun a M => s_d0 (s_fs1 ?_)
 refine fp M 1 0 [(5, .slice A n c)] fun a M => s_fz M O 1 rfl (v := .string (bstr l)) (Yl.str rfl rfl (fun _ h => h.old hr)) fun a M => ?_
 refine fp M 1 2 [(7, .slice D k c2)] fun a M => s_fz M O 3 rfl (v := .string (bstr m)) (Yl.str rfl rfl (fun _ h => h.old hr2)) fun a M => ?_
 refine fp M 1 4 [(9, .bool (((bstr l)).toList == ((bstr m)).toList))] fun a M => ?_
 replace M := M.sp 9 (.bool (decide (l = m))) rfl (by rw [qgp hl hm])
 refine fp M 1 5 [(4, .bool (decide (l = m)))] fun a M => s_d0 (wp_ret ?_)
 exact s_rt1 rfl M rfl (⟨rfl, O.below⟩)
theorem qll (A : Option Addr) (c : Nat) (l : List Nat) (B : Nat) (w : World) (hL : LaidX B w) (hB : B ≤ w.heap.size) (hr : Rd w w.heap.size 1 A l.length (l.map B8)) (hc : l.length ≤ c) (hn : l.length ≤ 100000000) (hl : ∀ z ∈ l, z < 256) :
    Calls Tryz.prog 17 #[.slice A l.length c] w (qk5 w (rdE l) (rdS l)) := by
 refine s_ce Tryz.func17 [.slice A l.length c] [(0, .slice A l.length c)] fun a M => ?_
 have O := Mem.start w
 refine s_fs1 ?_
 refine fo M 0 rfl rfl (s_ea M O #[vI 0, vI 0, vQ 0, .slice none 0 0, .slice none 0 0, .slice none 0 0, .slice none 0 0, .slice none 0 0] fun a w2 g2 M O => ?_)
 refine fp M 1 1 [(3, vI 0)] fun a M => s_d0 (wp_seq ?_)
 rcases hop : opnR l with k | p
 ·
  have hke := qcj hop
  refine qa ?_
  refine fp M 1 0 [(9, .slice A l.length c)] fun a M => fo M 1 rfl rfl (e_is M O [.slice A l.length c] (.tuple #[.pointer none, vI k]) rfl rfl (qmz A c l B _ (hL.mem O hB) (O.le hB) (O.old hr) hc hn hl hop) fun w10 hbw O a M => ?_)
  refine fp M 5 2 [(5, vI k), (4, .pointer none)] fun a M => s_d0 (wp_seq (s_fs1 ?_))
  refine fp M 2 0 [(14, .bool ((k : Int) != (0 : Int)))] fun a M => s_d0 ?_
  rcases M.tf 14 rfl with ⟨hb14, M⟩ | ⟨hb14, M⟩
  ·
   have hd14 := bne_iff_ne.1 hb14
   refine s_ct M (s_fs1 ?_)
   refine s_fz M O 0 rfl (v := .agg #[vI 0, vI 0, vQ 0, .slice none 0 0, .slice none 0 0, .slice none 0 0, .slice none 0 0, .slice none 0 0]) (Yl.build (vs := []) rfl (by kernel_rfl) (by kernel_rfl)) fun a M => ?_
   refine fp M 1 1 [(16, vI k)] fun a M => fo M 2 rfl rfl (e_sa M O 0 rfl rfl rfl rfl rfl z6 rfl rfl (by simp [Value.oneCell']) fun w3_2 O => ?_)
   refine fp M 1 3 [(3, vI k)] fun a M => s_d0 (wp_ret ?_)
   exact ret2 rfl M (.cellS (i := 0) M O rfl rfl z6 rfl) (.tmp M rfl) (qa6 (rd_no hop) rfl (O.pk []))
  have hd14 := bne_eq_false_iff_eq.1 hb14
  exfalso; omega
 ·
  have hfit := (qds hl hop).2.2.1
  refine qa ?_
  refine fp M 1 0 [(9, .slice A l.length c)] fun a M => fo M 1 rfl rfl ?_
  refine e_cl M [.slice A l.length c] rfl rfl (qmy A c l B _ (hL.mem O hB) (O.le hB) (O.old hr) hc hn hl hop) ?_
  rintro _ w10 ⟨g10, iv, av, NA, nc, SA, sc, rfl, hnc, hsc, hm⟩
  refine ⟨_, rfl, ?_⟩
  replace O := O.join hm
  clear M; intro a M
  refine fp M 5 2 [(5, vI 0), (4, vP g10 0)] fun a M => s_d0 (wp_seq (s_fs1 ?_))
  refine fp M 2 0 [(14, .bool false)] fun a M => s_d0 (s_cf M (wp_skip (s_fs1 ?_)))
  refine fp M 1 0 [(17, vP g10 0)] fun a M => s_fk M 1 fun a M => ?_
  refine fp M 1 2 [(19, vP g10 2)] fun a M => s_fc M O 3 0 fun a M => ?_
  refine s_fz M O 4 rfl (v := .agg #[.slice NA p.nums.length nc, .bool true]) (Yl.build (vs := [(0, .slice NA p.nums.length nc), (1, .bool true)]) rfl (by kernel_rfl) (by kernel_rfl)) fun a M => ?_
  refine fo M 5 rfl rfl (s_eb M O #[.slice NA p.nums.length nc, .bool true] fun a w22 g22 M O => ?_)
  refine fp M 1 6 [(6, vP g22 0)] fun a M => s_d0 (s_fs1 ?_)
  refine fp M 1 0 [(23, vP g22 0)] fun a M => fo M 1 rfl rfl ?_
  refine e_cl M [vP g22 0] rfl rfl (qt8 _ _ g22 NA nc p hfit [.blk g2 #[vI 0, vI 0, vQ 0, .slice none 0 0, .slice none 0 0, .slice none 0 0, .slice none 0 0, .slice none 0 0] 32] (O.pk [0, 2, 4]) hnc) ?_
  rintro _ w24 ⟨z, SA2, n2, c2, rfl, hz, hcap, HM2⟩
  refine ⟨_, rfl, ?_⟩
  replace O := HM2
  clear M; intro a M
  refine fo M 2 rfl rfl (s_ea M O #[vI 0, vI 0, vQ 0, .slice none 0 0, .slice none 0 0, .slice none 0 0, .slice none 0 0, .slice none 0 0] fun a w7 g7 M O => ?_)
  refine fo M 3 rfl rfl (e_sa M O 0 rfl rfl rfl rfl rfl z6 rfl rfl (qa5 z) fun w5_3 O => ?_)
  refine s_d0 (wp_seq (s_fs1 ?_))
  refine fp M 1 0 [(25, vP g22 0)] fun a M => s_fk M 1 fun a M => ?_
  refine fp M 1 2 [(27, vP g22 1)] fun a M => s_fc M O 3 1 fun a M => ?_
  refine fp M 2 4 [(30, .bool (!p.okB))] fun a M => ?_
  rcases M.tf 30 rfl with ⟨hb30, M⟩ | ⟨hb30, M⟩
  ·
   refine fp M 4 6 [(34, .bool true)] fun a M => s_d0 (s_ct M (s_fs1 ?_))
   refine s_fz M O 0 rfl (v := .agg #[vI 0, vI 0, vQ 0, .slice none 0 0, .slice none 0 0, .slice none 0 0, .slice none 0 0, .slice none 0 0]) (Yl.build (vs := []) rfl (by kernel_rfl) (by kernel_rfl)) fun a M => ?_
   refine fo M 1 rfl rfl (e_sa M O 2 rfl rfl rfl rfl rfl z6 rfl rfl (by simp [Value.oneCell']) fun w7_1 O => ?_)
   refine fp M 1 2 [(3, vI 347)] fun a M => s_d0 (wp_ret ?_)
   exact ret2 rfl M (.cellS (i := 2) M O rfl rfl z6 rfl) (.tmp M rfl) (qa6 (qf5 hop (fun h => by rw [h.1] at hb30; cases hb30)) rfl (O.pk []))
  refine s_fz M O 6 rfl (v := .agg z.cells) (Yl.qt rfl rfl z6 rfl (fun _ h => qf (h.blk (i := 0) rfl))) fun a M => ?_
  refine fo M 7 rfl rfl (e_is M O [.agg z.cells] (vI (chkS z)) rfl rfl (qp0 z (qx8 hz (q1w hfit)) (qie (qcw hz) (qn5 hfit _ (.inl rfl))) hcap _ (O.stX 3 rfl)) fun w32 hbw O a M => ?_)
  refine fp M 2 8 [(34, .bool ((chkS z : Int) != (0 : Int)))] fun a M => s_d0 ?_
  rcases M.tf 34 rfl with ⟨hb34, M⟩ | ⟨hb34, M⟩
  ·
   have hd34 := bne_iff_ne.1 hb34
   refine s_ct M (s_fs1 ?_)
   refine s_fz M O 0 rfl (v := .agg #[vI 0, vI 0, vQ 0, .slice none 0 0, .slice none 0 0, .slice none 0 0, .slice none 0 0, .slice none 0 0]) (Yl.build (vs := []) rfl (by kernel_rfl) (by kernel_rfl)) fun a M => ?_
   refine fo M 1 rfl rfl (e_sa M O 2 rfl rfl rfl rfl rfl z6 rfl rfl (by simp [Value.oneCell']) fun w7_1 O => ?_)
   refine fp M 1 2 [(3, vI 347)] fun a M => s_d0 (wp_ret ?_)
   exact ret2 rfl M (.cellS (i := 2) M O rfl rfl z6 rfl) (.tmp M rfl) (qa6 (qf5 hop (fun h => by have h2 := h.2; rw [← qku hz] at h2; omega)) rfl (O.pk []))
  have hd34 := bne_eq_false_iff_eq.1 hb34
  refine s_cf M (wp_skip (s_fs1 ?_))
  refine s_fz M O 0 rfl (v := .agg z.cells) (Yl.qt rfl rfl z6 rfl (fun _ h => qf (h.blk (i := 0) rfl))) fun a M => ?_
  refine fo M 1 rfl rfl (e_sa M O 2 rfl rfl rfl rfl rfl z6 rfl rfl (qa5 z) fun w8_1 O => ?_)
  refine fp M 1 2 [(3, vI 0)] fun a M => s_d0 (wp_ret ?_)
  exact ret2 rfl M (.cellS (i := 2) M O rfl rfl z6 rfl) (.tmp M rfl) (qk6 (qsx hop ⟨by simpa using hb30, by rw [← qku hz]; omega⟩) rfl hz hcap (O.subl (List.sublist_append_right ([.blk g7 z.cells 32, .blk g22 #[.slice SA2 n2 c2, .bool p.okB] 111, .blk g2 z.cells 32] : List Fact) _)))
theorem qft (A : Option Addr) (c : Nat) (l : List Nat) (B : Nat) (w : World) (hL : LaidX B w) (hB : B ≤ w.heap.size) (hr : Rd w w.heap.size 1 A l.length (l.map B8)) (hc : l.length ≤ c) (hn : l.length ≤ 100000000) (hl : ∀ z ∈ l, z < 256) {p : Pr} (h : opnR l = .ok p) : Calls Tryz.prog 42 #[.slice A l.length c] w (qcv 82 w 0 p.secs) := by
 have := qcp A c l B w hL hB hr hc hn hl
 rwa [qcz h, qee h] at this
theorem qfu (A : Option Addr) (c : Nat) (l : List Nat) (B : Nat) (w : World) (hL : LaidX B w) (hB : B ≤ w.heap.size) (hr : Rd w w.heap.size 1 A l.length (l.map B8)) (hc : l.length ≤ c) (hn : l.length ≤ 100000000) (hl : ∀ z ∈ l, z < 256) {k : Nat} (h : opnR l = .error k) : Calls Tryz.prog 42 #[.slice A l.length c] w (qcv 82 w k []) := by
 have := qcp A c l B w hL hB hr hc hn hl
 rwa [qdp h, qef h] at this
theorem qbx {w w' : World} {a b : List Nat} {k : Nat} {s : ByteArray} {r : Ending} (h : difE a b = k ∧ difN a b = s) (hr : r = .returned (.tuple #[.string s, .int .i64 (k : Int)])) (hb : Below w.heap.size w w') : Is w (.tuple #[.string (difN a b), .int .i64 (difE a b : Int)]) r w' := by
 obtain ⟨h1, h2⟩ := h
 rw [h1, h2]
 exact ⟨hr, hb⟩
theorem qfv (A : Option Addr) (c : Nat) (la : List Nat) (D : Option Addr) (d : Nat) (lb : List Nat) (B : Nat) (w : World) (hL : LaidX B w) (hB : B ≤ w.heap.size) (hr1 : Rd w w.heap.size 1 A la.length (la.map B8)) (hc1 : la.length ≤ c) (hn1 : la.length ≤ 100000000) (hl1 : ∀ z ∈ la, z < 256) (hr2 : Rd w w.heap.size 1 D lb.length (lb.map B8)) (hc2 : lb.length ≤ d) (hn2 : lb.length ≤ 100000000) (hl2 : ∀ z ∈ lb, z < 256) :
    Calls Tryz.prog 44 #[.slice A la.length c, .slice D lb.length d] w (Is w (.tuple #[.string (difN la lb), .int .i64 (difE la lb : Int)])) := by
 refine s_ce Tryz.func44 [.slice A la.length c, .slice D lb.length d] [(0, .slice A la.length c), (1, .slice D lb.length d)] fun a M => ?_
 have O := Mem.start w
 refine s_fs1 ?_
 refine fp M 2 0 [(5, vI 0), (4, .string (ByteArray.mk #[]))] fun a M => s_d0 (wp_seq ?_)
 rcases hoa : opnR la with k | p
 ·
  have hke := qcj hoa
  refine qa ?_
  refine fp M 1 0 [(11, .slice A la.length c)] fun a M => fo M 1 rfl rfl ?_
  refine s_ek M O [.slice A la.length c] (qfu A c la B _ (hL.mem O hB) (O.le hB) (O.old hr1) hc1 hn1 hl1 hoa) fun X12 c12 w12 hc12 O a M => ?_
  refine fp M 5 2 [(7, vI k), (6, .slice X12 (([] : List Sec).length) c12)] fun a M => s_d0 (wp_seq (s_fs1 ?_))
  refine fp M 2 0 [(16, .bool ((k : Int) != (0 : Int)))] fun a M => s_d0 ?_
  rcases M.tf 16 rfl with ⟨hb16, M⟩ | ⟨hb16, M⟩
  ·
   have hd16 := bne_iff_ne.1 hb16
   refine s_ct M (s_fs1 ?_)
   refine fp M 3 0 [(5, vI k), (4, .string (ByteArray.mk #[]))] fun a M => s_d0 (wp_ret ?_)
   exact s_rt2 rfl M rfl rfl (qbx (qsy hoa) rfl O.below)
  have hd16 := bne_eq_false_iff_eq.1 hb16
  exfalso; omega
 ·
  have hsa := qej p
  refine qa ?_
  refine fp M 1 0 [(11, .slice A la.length c)] fun a M => fo M 1 rfl rfl ?_
  refine s_ek M O [.slice A la.length c] (qft A c la B _ (hL.mem O hB) (O.le hB) (O.old hr1) hc1 hn1 hl1 hoa) fun X12 c12 w12 hc12 O a M => ?_
  refine fp M 5 2 [(7, vI 0), (6, .slice X12 p.secs.length c12)] fun a M => s_d0 (wp_seq (s_fs1 ?_))
  refine fp M 2 0 [(16, .bool false)] fun a M => s_d0 (s_cf M (wp_skip (wp_seq ?_)))
  rcases hob : opnR lb with k | q
  ·
   have hke := qcj hob
   refine qa ?_
   refine fp M 1 0 [(19, .slice D lb.length d)] fun a M => fo M 1 rfl rfl ?_
   refine s_ek M O [.slice D lb.length d] (qfu D d lb B _ (hL.mem O hB) (O.le hB) (O.old hr2) hc2 hn2 hl2 hob) fun X20 c20 w20 hc20 O a M => ?_
   refine fp M 5 2 [(7, vI k), (8, .slice X20 (([] : List Sec).length) c20)] fun a M => s_d0 (wp_seq (s_fs1 ?_))
   refine fp M 2 0 [(24, .bool ((k : Int) != (0 : Int)))] fun a M => s_d0 ?_
   rcases M.tf 24 rfl with ⟨hb24, M⟩ | ⟨hb24, M⟩
   ·
    have hd24 := bne_iff_ne.1 hb24
    refine s_ct M (s_fs1 ?_)
    refine fp M 3 0 [(5, vI k), (4, .string (ByteArray.mk #[]))] fun a M => s_d0 (wp_ret ?_)
    exact s_rt2 rfl M rfl rfl (qbx (qsz hoa hob) rfl O.below)
   have hd24 := bne_eq_false_iff_eq.1 hb24
   exfalso; omega
  ·
   have hsb := qej q
   refine qa ?_
   refine fp M 1 0 [(19, .slice D lb.length d)] fun a M => fo M 1 rfl rfl ?_
   refine s_ek M O [.slice D lb.length d] (qft D d lb B _ (hL.mem O hB) (O.le hB) (O.old hr2) hc2 hn2 hl2 hob) fun X20 c20 w20 hc20 O a M => ?_
   refine fp M 5 2 [(7, vI 0), (8, .slice X20 q.secs.length c20)] fun a M => s_d0 (wp_seq (s_fs1 ?_))
   refine fp M 2 0 [(24, .bool false)] fun a M => s_d0 (s_cf M (wp_skip (wp_seq (s_fs1 ?_))))
   refine fp M 1 0 [(26, .slice X12 p.secs.length c12)] fun a M => s_fl M 1 fun a M => ?_
   refine fp M 1 2 [(28, vI 0)] fun a M => s_d0 (wp_block ?_)
   refine qe (fun mS aS wS => ∃ (i : Nat), (i ≤ 9) ∧ (difE la lb = 0 ∧ difN la lb = difF la lb p.secs q.secs (9 - i) i) ∧ mS = 9 - i ∧ Fr aS 63 [] [(28, vI i), (27, vI p.secs.length), (24, .bool false), (7, vI 0), (8, .slice X20 q.secs.length c20), (16, .bool false), (6, .slice X12 p.secs.length c12), (5, vI 0), (4, .string (ByteArray.mk #[])), (0, .slice A la.length c), (1, .slice D lb.length d)] ∧ Mem w wS [.row (.slice X20 q.secs.length c20) q.secs.length (q.secs.flatMap secL) 82 3, .row (.slice X12 p.secs.length c12) p.secs.length (p.secs.flatMap secL) 82 3]) (m := 9 - 0) ⟨0, Nat.zero_le _, qx7 hoa hob, rfl, M.sub (by kernel_rfl), O.pk [0, 1]⟩ ?_
   clear M O; rintro mS a w_ ⟨i, hi, hd, rfl, M, O⟩
   refine s_fs1 ?_
   refine fp M 1 0 [(29, .bool (decide ((i : Int) < (p.secs.length : Int))))] fun a M => s_d0 (wp_seq ?_)
   rcases M.tf 29 rfl with ⟨hb29, M⟩ | ⟨hb29, M⟩
   ·
    have hd29 := of_decide_eq_true hb29
    have ha1 := qn6 hl1 hoa (i := i) (by omega)
    have hb1 := qn6 hl2 hob (i := i) (by omega)
    refine s_ct M (wp_skip (wp_seq (wp_block (s_fs1 ?_))))
    refine fp M 2 0 [(9, vI i)] fun a M => s_d0 (wp_seq ?_)
    refine qz O [.row (.slice X20 q.secs.length c20) q.secs.length (q.secs.flatMap secL) 82 3, .row (.slice X12 p.secs.length c12) p.secs.length (p.secs.flatMap secL) 82 3] [0, 1] [] fun O Z => ?_
    refine ap M (fun _ => Z) [0, 1, 2, 6, 7, 12, 13, 14, 18, 19] (bf 26 [0, 1, 2, 6, 7, 12, 13, 14, 18, 19]) [(50, vI i), (49, .slice X20 q.secs.length c20), (45, vI i), (44, .slice X20 q.secs.length c20), (43, .slice D lb.length d), (38, vI i), (37, .slice X12 p.secs.length c12), (33, vI i), (32, .slice X12 p.secs.length c12), (31, .slice A la.length c)] fun a M => ?_
    obtain ⟨gX12, rfl⟩ := q9 (O.own (i := 1) rfl) (Nat.lt_of_le_of_lt (Nat.zero_le _) (show i < p.secs.length from by omega))
    refine s_az M Z 3 rfl (v := vP gX12 (i * 3)) (Yl.ix0 gX12 i 3 rfl rfl rfl) fun a M => ?_
    refine ap M (fun _ => Z) [4] (bf 26 [0, 1, 2, 3, 4, 6, 7, 12, 13, 14, 18, 19]) [(35, vP gX12 (i * 3 + 1))] fun a M => ?_
    refine s_az M Z 5 rfl (v := vI ((p.secs.getD i Sec.zero).fr)) (Yl.qk rfl rfl (by kernel_rfl) (fun _ h => h.qbt qaa (i := 1) rfl (k := i) (off := 1) (x := (p.secs.getD i Sec.zero)) ((getD_at Sec.zero (k := i) (by first | omega | (simp; omega)))) rfl)) fun a M => ?_
    refine s_az M Z 8 rfl (v := vP gX12 (i * 3)) (Yl.ix0 gX12 i 3 rfl rfl rfl) fun a M => ?_
    refine ap M (fun _ => Z) [9] (bt 26 [10, 11, 15, 16, 17, 20, 21, 22, 23, 24, 25]) [(40, vP gX12 (i * 3 + 2))] fun a M => ?_
    refine s_az M Z 10 rfl (v := vI ((p.secs.getD i Sec.zero).to)) (Yl.qk rfl rfl (by kernel_rfl) (fun _ h => h.qbt qaa (i := 1) rfl (k := i) (off := 2) (x := (p.secs.getD i Sec.zero)) ((getD_at Sec.zero (k := i) (by first | omega | (simp; omega)))) rfl)) fun a M => ?_
    refine s_az M Z 11 rfl (v := .slice (if c = (p.secs.getD i Sec.zero).fr then A else A.map (·.add (((p.secs.getD i Sec.zero).fr) * 1))) (((p.secs.getD i Sec.zero).to) - ((p.secs.getD i Sec.zero).fr)) (c - ((p.secs.getD i Sec.zero).fr))) (Yl.qiu ei_u8 (i := (p.secs.getD i Sec.zero).fr) (j := (p.secs.getD i Sec.zero).to) rfl rfl rfl rfl (by omega) (by omega)) fun a M => ?_
    obtain ⟨gX20, rfl⟩ := q9 (O.own (i := 0) rfl) (Nat.lt_of_le_of_lt (Nat.zero_le _) (show i < q.secs.length from by omega))
    refine s_az M Z 15 rfl (v := vP gX20 (i * 3)) (Yl.ix0 gX20 i 3 rfl rfl rfl) fun a M => ?_
    refine ap M (fun _ => Z) [16] (bt 26 [17, 20, 21, 22, 23, 24, 25]) [(47, vP gX20 (i * 3 + 1))] fun a M => ?_
    refine s_az M Z 17 rfl (v := vI ((q.secs.getD i Sec.zero).fr)) (Yl.qk rfl rfl (by kernel_rfl) (fun _ h => h.qbt qaa (i := 0) rfl (k := i) (off := 1) (x := (q.secs.getD i Sec.zero)) ((getD_at Sec.zero (k := i) (by first | omega | (simp; omega)))) rfl)) fun a M => ?_
    refine s_az M Z 20 rfl (v := vP gX20 (i * 3)) (Yl.ix0 gX20 i 3 rfl rfl rfl) fun a M => ?_
    refine ap M (fun _ => Z) [21] (bt 26 [22, 23, 24, 25]) [(52, vP gX20 (i * 3 + 2))] fun a M => ?_
    refine s_az M Z 22 rfl (v := vI ((q.secs.getD i Sec.zero).to)) (Yl.qk rfl rfl (by kernel_rfl) (fun _ h => h.qbt qaa (i := 0) rfl (k := i) (off := 2) (x := (q.secs.getD i Sec.zero)) ((getD_at Sec.zero (k := i) (by first | omega | (simp; omega)))) rfl)) fun a M => ?_
    refine s_az M Z 23 rfl (v := .slice (if d = (q.secs.getD i Sec.zero).fr then D else D.map (·.add (((q.secs.getD i Sec.zero).fr) * 1))) (((q.secs.getD i Sec.zero).to) - ((q.secs.getD i Sec.zero).fr)) (d - ((q.secs.getD i Sec.zero).fr))) (Yl.qiu ei_u8 (i := (q.secs.getD i Sec.zero).fr) (j := (q.secs.getD i Sec.zero).to) rfl rfl rfl rfl (by omega) (by omega)) fun a M => ?_
    refine s_on M 24 rfl (e_is M O [.slice (if c = (p.secs.getD i Sec.zero).fr then A else A.map (·.add (((p.secs.getD i Sec.zero).fr) * 1))) (((p.secs.getD i Sec.zero).to) - ((p.secs.getD i Sec.zero).fr)) (c - ((p.secs.getD i Sec.zero).fr)), .slice (if d = (q.secs.getD i Sec.zero).fr then D else D.map (·.add (((q.secs.getD i Sec.zero).fr) * 1))) (((q.secs.getD i Sec.zero).to) - ((q.secs.getD i Sec.zero).fr)) (d - ((q.secs.getD i Sec.zero).fr))] (.bool (decide (cutB la (p.secs.getD i Sec.zero) = cutB lb (q.secs.getD i Sec.zero)))) rfl rfl (qqe _ _ _ (cutB la (p.secs.getD i Sec.zero)) _ _ _ (cutB lb (q.secs.getD i Sec.zero)) _ (qn8 (O.old hr1) ha1 hc1) (qn8 (O.old hr2) hb1 hc2) (qn7 hl1 _) (qn7 hl2 _)) fun w55 hbw O a M => ?_)
    refine keepS (O.pk [0, 1]) (fun Z => ?_)
    refine ap M (fun _ => Z) [25] (bt 26 []) [(56, .bool (!(decide (cutB la (p.secs.getD i Sec.zero) = cutB lb (q.secs.getD i Sec.zero)))))] fun a M => ?_
    refine qh (by kernel_rfl) ?_
    rcases M.tf 56 rfl with ⟨hb56, M⟩ | ⟨hb56, M⟩
    ·
     have hd56 := of_decide_eq_false ((Bool.not_eq_true' _).mp hb56)
     refine s_ct M (s_fs1 ?_)
     refine fp M 2 0 [(58, vI i), (57, vS gX12 p.secs.length c12)] fun a M => s_fz M O 2 rfl (v := vP gX12 (i * 3)) (Yl.ix0 gX12 i 3 rfl rfl rfl) fun a M => ?_
     refine fp M 1 3 [(60, vP gX12 (i * 3))] fun a M => s_fz M O 4 rfl (v := .string (p.secs.getD i Sec.zero).nm) (Yl.qk rfl rfl (by kernel_rfl) (fun _ h => (by have := h.qbt qaa (i := 1) rfl (k := i) (off := 0) (x := (p.secs.getD i Sec.zero)) ((getD_at Sec.zero (k := i) (by first | omega | (simp; omega)))) rfl; simpa using this))) fun a M => ?_
     refine fp M 2 5 [(5, vI 0), (4, .string (p.secs.getD i Sec.zero).nm)] fun a M => s_d0 (wp_ret ?_)
     exact s_rt2 rfl M rfl rfl (qbx ⟨hd.1, hd.2.trans (qoa (by omega) (of_decide_eq_false (by simpa using hb56)))⟩ rfl O.below)
    have hd56 := of_decide_eq_true ((Bool.not_eq_false' _).mp hb56)
    refine s_cf M (wp_skip (qa ?_))
    refine fp M 1 0 [(62, vI (IntKind.i64.wrap ((i : Int) + 1)))] fun a M => ?_
    replace M := M.sp 62 (vI (i + 1 : Nat)) rfl (qc (by omega) (by omega))
    refine fp M 1 1 [(28, vI (i + 1 : Nat))] fun a M => s_d0 ?_
    exact ⟨_, (by omega), i + 1, by omega, ⟨hd.1, hd.2.trans (qn9 (by omega) (of_decide_eq_true (by simpa using hb56)))⟩, rfl, M.sub (by kernel_rfl), O.pk [0, 1]⟩
   have hd29 := of_decide_eq_false hb29
   refine s_cf M (wp_exit (s_fs1 ?_))
   refine fp M 2 0 [(5, vI 0), (4, .string (ByteArray.mk #[]))] fun a M => s_d0 (wp_ret ?_)
   exact s_rt2 rfl M rfl rfl (qbx ⟨hd.1, hd.2.trans (qs0 (by omega))⟩ rfl O.below)
def secE (E : List Nat) (j : Nat) : Sec := ⟨nmR j, if j = 0 then 0 else E.getD (j - 1) 0, E.getD j 0⟩
theorem qt3 (p : Pr) : p.secs = mapR p.ends.length (secE p.ends) := rfl
theorem qir (p : Pr) : p.lists.flatten = p.nums := by simp [Pr.lists, Pr.nums]
theorem qov {p : Pr} (h : p.Fit) : p.nums.length ≤ 600000 := by
 obtain ⟨h1, h2⟩ := qn1 h
 have h3 := h.cp2
 have h4 := h.gp2
 have h5 := h.tk
 have h6 : 3 * p.cp * (p.gp - 1) ≤ 3 * 64 * 255 := Nat.mul_le_mul (by omega) (by omega)
 unfold Pr.oS Pr.oT Pr.oC at h1
 omega
def qyh (w : World) (l : List Nat) (r : Ending) (w' : World) : Prop :=
 ∃ (Q : List Nw) (E : List Nat) (A : Option Addr) (c : Nat) (EA : Option Addr) (ec : Nat), (Q.map Nw.l).flatten = pnums l ∧ psecs l = mapR E.length (secE E) ∧ (Q.map Nw.l).flatten.length ≤ 600000 ∧ E.length ≤ 9 ∧ Q.length ≤ 9 ∧ r = .returned (.tuple #[.slice A Q.length c, .slice EA E.length ec, .int .i64 (errR l : Int)]) ∧
  Mem w w' (.row (.slice A Q.length c) Q.length (Q.map Nw.val) 58 1 :: .row (.slice EA E.length ec) E.length (E.map I64v) 3 1 :: nwF 22 Q)
theorem qqd {w w' : World} {l : List Nat} {r : Ending} (hl : ∀ z ∈ l, z < 256) (h : qog w l r w') : qyh w l r w' := by
 rcases h with ⟨k, hk, hr, hb⟩ | ⟨p, Q, A, c, EA, ec, hp, hQ, hqc, hc, hec, hr, hm⟩
 ·refine ⟨[], [], none, 0, none, 0, (qjd hk).symm, qef hk, Nat.zero_le _, Nat.zero_le _, Nat.zero_le _, by rw [qdp hk]; exact hr, ?_⟩
  have h0 : Mem w w' [] := ⟨hb, (fun f hf => by cases hf), List.Pairwise.nil⟩
  exact (h0.nil 3 1).nil 58 1
 ·have hQ9 : Q.length = 9 := by have := congrArg List.length hQ; simpa [Pr.lists] using this
  refine ⟨Q, p.ends, A, c, EA, ec, by rw [hQ, qir, qjc hp], by rw [qee hp, qt3], ?_, Nat.le_refl 9, by omega, by rw [qcz hp]; exact hr, hm⟩
  rw [hQ, qir]
  exact qov (qds hl hp).2.2.1
theorem qt4 {q : List Nw} {k : Nat} (h : k < q.length) : ((q.map Nw.l).take (k + 1)).flatten = ((q.map Nw.l).take k).flatten ++ (q.getD k Nw.zero).l := by
 have h2 : k < (q.map Nw.l).length := by simpa using h
 rw [List.take_add_one, List.getElem?_eq_getElem h2, List.flatten_append, List.getD_eq_getElem?_getD, List.getElem?_eq_getElem h]
 simp
theorem q0f {l : List (List Nat)} {k : Nat} : ((l.take k).flatten).length ≤ l.flatten.length := by
 have h1 : l.flatten = (l.take k).flatten ++ (l.drop k).flatten := by rw [← List.flatten_append, List.take_append_drop]
 rw [h1, List.length_append]
 omega
theorem nine {Q : List Nw} {p : Pr} (h : Q.map Nw.l = p.lists) : ∃ A0 c0 A1 c1 A2 c2 A3 c3 A4 c4 A5 c5 A6 c6 A7 c7 A8 c8, Q = [⟨A0, c0, []⟩, ⟨A1, c1, [p.nx]⟩, ⟨A2, c2, [p.cp, p.cr, p.gp]⟩, ⟨A3, c3, p.gs⟩, ⟨A4, c4, p.cl⟩, ⟨A5, c5, p.cu⟩, ⟨A6, c6, p.tk :: p.ts⟩, ⟨A7, c7, p.sp⟩, ⟨A8, c8, []⟩] := by
 unfold Pr.lists at h
 match Q, h with
 | [⟨A0, c0, l0⟩, ⟨A1, c1, l1⟩, ⟨A2, c2, l2⟩, ⟨A3, c3, l3⟩, ⟨A4, c4, l4⟩, ⟨A5, c5, l5⟩, ⟨A6, c6, l6⟩, ⟨A7, c7, l7⟩, ⟨A8, c8, l8⟩], h =>
  simp only [List.map_cons, List.map_nil, List.cons.injEq, and_true] at h
  obtain ⟨rfl, rfl, rfl, rfl, rfl, rfl, rfl, rfl, rfl⟩ := h
  exact ⟨A0, c0, A1, c1, A2, c2, A3, c3, A4, c4, A5, c5, A6, c6, A7, c7, A8, c8, rfl⟩
def Pr.tnL (p : Pr) (k : Nat) : List Nat := [p.tn k 0, p.tn k 1, p.tn k 2, p.tn k 3, p.tn k 4, p.tn k 5, p.tn k 6, p.tn k 7]
theorem qt5 {p : Pr} {w : World} {B c k : Nat} {A : Option Addr} (h : p.Fit) (hk : k < p.tk) (hr : Rd w B 1 A (p.ts.length + 1) ((p.tk :: p.ts).map U64)) (hc : p.ts.length + 1 ≤ c) : Rd w B 1 (if c = 1 + 8 * k then A else A.map (·.add ((1 + 8 * k) * 1))) 8 ((p.tnL k).map U64) := by
 have ht := h.ts
 have h1 := hr.mid (i := 1 + 8 * k) (j := 1 + 8 * k + 8) (c := c) (by omega) (by omega) hc
 simp only [Nat.mul_one] at h1 ⊢
 rw [Nat.add_sub_cancel_left, ← List.map_take, ← List.map_drop] at h1
 have e : ((p.tk :: p.ts).take (1 + 8 * k + 8)).drop (1 + 8 * k) = p.tnL k := by
  rw [show 1 + 8 * k + 8 = (8 * k + 8) + 1 by omega, show 1 + 8 * k = 8 * k + 1 by omega, List.take_succ_cons, List.drop_succ_cons, List.drop_take, show 8 * k + 8 - 8 * k = 8 by omega]
  exact qmj p.ts 8 (8 * k) (by omega)
 rw [e] at h1
 exact h1
theorem quf {l : List Nat} (hl : ∀ z ∈ l, z < 256) : (pnums l).length ≤ 600000 := by
 cases h : opnR l with
 | error k => rw [qjd h]; exact Nat.zero_le _
 | ok p => rw [qjc h]; exact qov (qds hl h).2.2.1
theorem qug (l : List Nat) : (psecs l).length ≤ 9 := by
 cases h : opnR l with
 | error k => rw [qef h]; exact Nat.zero_le _
 | ok p => rw [qee h]; exact Nat.le_refl 9
theorem qo2 : StFew qc1.st := ⟨Nat.zero_le _, Nat.zero_le _, Nat.zero_le _, Nat.zero_le _, Nat.zero_le _, fun y hy => by cases hy⟩
theorem q0n {l : List Nat} (hl : ∀ z ∈ l, z < 256) : StFew (rdS l).st := by
 cases h : opnR l with
 | error k => rw [(rd_no h).2]; exact qo2
 | ok p =>
  by_cases h2 : p.okB = true ∧ chkS p.snA = 0
  ·rw [(qsx h h2).2]; exact qn5 (qds hl h).2.2.1 _ (.inl rfl)
  ·rw [(qf5 h h2).2]; exact qo2
section
variable {W w : World} {fs A B l m : List Fact} {x : Stm}
theorem Mem.stM (n : Nat) (h : Mem W w fs) (he : fs.drop n = A ++ (stF x ++ B)) : StRd w x := h.stOf fun _ hf => List.mem_of_mem_drop (he ▸ List.mem_append_right _ (List.mem_append_left _ hf))
theorem Mem.q04 (h : Mem W w (l ++ (A ++ m))) : Mem W w (A ++ l) := (h.subl ((List.sublist_append_left A m).append_left l)).perm List.perm_append_comm
end
theorem qo3 (s : ByteArray) : (!(s.toList == s.toList)) = false := by simp
def chX (i v : Nat) : List Nat := sealL (byA.set i v)
def fstX : List Nat := sealL byA
def moreX : List Nat := sealL (byA ++ [0])
def badX : List Nat := fstX.set 12 ((fstX.getD 12 0 + 1) % 256)
theorem z9 : fstX.length = 15 := by kernel_rfl
theorem qb9 (i v : Nat) : (chX i v).length = 15 := by unfold chX; rw [ze, List.length_set]; rfl
theorem qo5 : moreX.length = 16 := by unfold moreX; rw [ze]; rfl
theorem qo6 : ∀ z ∈ byA, z < 256 := by decide
theorem qhk : ∀ z ∈ fstX, z < 256 := zw qo6
theorem qfx {l : List Nat} {i v : Nat} (hl : ∀ z ∈ l, z < 256) (hv : v < 256) : ∀ z ∈ l.set i v, z < 256 := by
 intro z hz
 rcases List.mem_or_eq_of_mem_set hz with h | h
 ·exact hl z h
 ·omega
theorem ch_lt {i v : Nat} (hv : v < 256) : ∀ z ∈ chX i v, z < 256 := zw (qfx qo6 hv)
theorem q0o : ∀ z ∈ moreX, z < 256 := zw (by decide)
theorem q2f : ∀ z ∈ badX, z < 256 := qfx qhk (Nat.mod_lt _ (by decide))
theorem q0p : badX.length = 15 := by unfold badX; rw [List.length_set]; exact z9
theorem x_ok : rdE fstX = 0 := by kernel_rfl
theorem q2g : (rdS fstX).next = 1 := by kernel_rfl
theorem q2h : (rdS fstX).st.cpus = 1 := by kernel_rfl
theorem x_cl : (rdS fstX).st.cl.length = 1 := by kernel_rfl
theorem x_err : errR fstX = 0 := by kernel_rfl
theorem q2i : (pnums fstX).length = 8 := by kernel_rfl
theorem q2j : difE fstX (chX 3 2) = 0 := by kernel_rfl
theorem q2k : difN fstX (chX 3 2) = ⟨#[110, 101, 120, 116]⟩ := by kernel_rfl
theorem q0q : rdE (fstX.take 14) = 340 := by kernel_rfl
theorem x_sum : rdE badX = 341 := by kernel_rfl
theorem x1 : rdE (chX 0 112) = 342 := by kernel_rfl
theorem x2 : rdE (chX 2 2) = 343 := by kernel_rfl
theorem x3 : rdE (chX 4 0) = 345 := by kernel_rfl
theorem x4 : rdE (chX 4 65) = 345 := by kernel_rfl
theorem x5 : rdE (chX 6 0) = 345 := by kernel_rfl
theorem x6 : rdE (chX 9 1) = 344 := by kernel_rfl
theorem x7 : rdE moreX = 346 := by kernel_rfl
theorem x8 : rdE (chX 3 0) = 347 := by kernel_rfl
theorem x9 : rdE (chX 8 5) = 347 := by kernel_rfl
theorem q0r {i v : Nat} (hi : i < 11) : ((fstX.set i v).take 11) = byA.set i v := by
 unfold fstX sealL
 rw [List.set_append_left _ _ (show i < byA.length from hi), List.take_append_of_le_length (by rw [List.length_set]; exact Nat.le_refl 11), List.take_of_length_le (by rw [List.length_set]; exact Nat.le_refl 11)]
theorem qw4 : fstX.take 11 = byA := by
 unfold fstX sealL
 rw [List.take_append_of_le_length (Nat.le_refl 11)]
 rfl
structure Xb where
 A : Option Addr
 n : Nat
 c : Nat
 l : List Nat
 e : Nat
def Xb.zero : Xb := ⟨none, 0, 0, [], 0⟩
def xbL (x : Xb) : List Value := [.slice x.A x.n x.c, .int .i64 (x.e : Int)]
def Xb.cells (x : Xb) : Array Value := #[.slice x.A x.n x.c, .int .i64 (x.e : Int)]
theorem q0s (x : Xb) : (xbL x).length = 2 := rfl
theorem q2l (x : Xb) : ∀ v ∈ x.cells.toList, v.oneCell' = true := by simp [Xb.cells, Value.oneCell']
def Xb.own (x : Xb) : Own := ⟨x.A, x.n, x.c, x.l.map B8⟩
def xbF (t : TypeId) (q : List Xb) : List Fact := ownsF t 1 (q.map Xb.own)
def Xb.Ok (x : Xb) : Prop := x.l.length = x.n ∧ x.n ≤ x.c ∧ x.n ≤ 100 ∧ (∀ z ∈ x.l, z < 256) ∧ rdE x.l = x.e
theorem q0t {t : TypeId} {q : List Xb} {x : Xb} (hq : x ∈ q) : Fact.row (.slice x.A x.n x.c) x.n (x.l.map B8) t 1 ∈ xbF t q := List.mem_map_of_mem (List.mem_map_of_mem hq)
theorem Mem.xbAt {W w : World} {fs : List Fact} {t : TypeId} {q : List Xb} (n : Nat) (h : Mem W w fs) (he : fs.drop n = xbF t q) {x : Xb} (hx : x ∈ q) : Rd w w.heap.size 1 x.A x.n (x.l.map B8) :=
 h.qlq (List.mem_of_mem_drop (he ▸ q0t hx))
theorem si_xb : SI Tryz.prog 102 2 := ⟨by kernel_rfl, by kernel_rfl⟩
theorem ei_xb : EI Tryz.prog 103 102 (.agg Xb.zero.cells) 2 32 := ⟨by kernel_rfl, by kernel_rfl, rfl, by omega⟩
section
variable {P : Program} {Q : Exit → Act → World → Prop} {a : Act} {W w : World} {n d : Nat} {D : List Deferred} {σ : List (Nat × Value)} {o : Oper} {v : Value} {K : Act → World → Prop} {fs : List Fact}
theorem qlo (M : Fr a n D σ) (O : Mem W w fs) {s x : Operand} {t e : TypeId} {z : Value} {size bytes i m0 m c c0 g B : Nat} {A : Option Addr} {xs news : List Value} (hop : o.op = .call { callee := .builtin .append, args := #[s, x], argTypes := #[t, t] }) (ei : EI P t e z size bytes)
  (hs : look σ s = some (.slice (some ⟨g, 0, none⟩) m0 c0)) (hx : look σ x = some (.slice A m c)) (hi : fs[i]? = some (.row (.slice (some ⟨g, 0, none⟩) m0 c0) m0 xs e size)) (hr : Rd w B size A m news) (hm : 0 < m) (hfit : m0 + m ≤ c0) (h1 : ∀ u ∈ news, u.oneCell' = true) (hb : (m0 + m) * bytes ≤ 140737488355328) (h63 : m0 + m ≤ 9223372036854775807)
  (hd : o.dst = some d) (hdn : d < n) (k : ∀ a' w', Fr a' n D ((d, .slice (some ⟨g, 0, none⟩) (m0 + m) c0) :: σ) → Mem W w' (fs.set i (.row (.slice (some ⟨g, 0, none⟩) (m0 + m) c0) (m0 + m) (xs ++ news) e size)) → K a' w') : o.wp P a w K Q := by
 obtain ⟨A', c', w', hrun, ho, hg, hbl⟩ := qhr (P := P) ei o.type (O.own hi) hr h1 (c := c) hb h63 O.size
 obtain ⟨ti, hti, hz, hsz, hby⟩ := info_parts ei.hi
 obtain ⟨ad, hA, _, hcells⟩ := hr.row hm
 subst hA
 obtain ⟨hlen, h2⟩ := O.own hi
 have he : A' = some ⟨g, 0, none⟩ ∧ c' = c0 := by
  rcases h2 with ⟨h3, _⟩ | ⟨g', cap, cur, hv, hbb, hgg, hnc, hcm, hcs, ht⟩
  ·cases h3
  ·injection hv with hv hv2 hv3
   injection hv with hv
   injection hv with hv
   subst hv; subst hv3
   have hnl : news.length = m * ti.size := by rw [hsz]; exact hr.len
   have hfit2 : m0 * ti.size + news.length ≤ cur.size := by
    rw [hnl, hsz, hcs, ← Nat.add_mul]
    exact Nat.mul_le_mul_right _ hfit
   have := run_append_room (P := P) w t o.type e ti ei.ht hti g m0 c0 cur hgg ad m c news hnl hcells h1 hfit hfit2
   rw [hrun] at this
   injection this with h4 h5
   injection h4 with h6 h7 h8
   exact ⟨h6, h8⟩
 obtain ⟨rfl, rfl⟩ := he
 unfold Oper.wp execOp
 simp only [hop, resolve, invoke, builtin, Sem.run_bind, Sem.run_pure, Result.andThen_ok, List.map_toArray, List.map_cons, List.map_nil, M.eval hs, M.eval hx, hrun, Oper.upon_value, hd]
 exact k _ _ (M.put hdn _) (O.append hi ho hg hbl)
theorem qju (M : Fr a n D σ) (O : Mem W w fs) {s x : Operand} {t e : TypeId} {z : Value} {bytes i m0 m c c0 g B : Nat} {A : Option Addr} {l l2 : List Nat} (hop : o.op = .call { callee := .builtin .append, args := #[s, x], argTypes := #[t, t] }) (ei : EI P t e z 1 bytes)
  (hs : look σ s = some (.slice (some ⟨g, 0, none⟩) m0 c0)) (hx : look σ x = some (.slice A m c)) (hi : fs[i]? = some (.row (.slice (some ⟨g, 0, none⟩) m0 c0) m0 (l.map B8) e 1)) (hln : l.length = m0) (hr : Rd w B 1 A m (l2.map B8)) (hm : 0 < m) (hb : (m0 + m) * bytes ≤ 140737488355328) (h63 : m0 + m ≤ 9223372036854775807)
  (hd : o.dst = some d) (hdn : d < n) (k : ∀ a' w' A' c' mm (zl : List Nat), Fr a' n D ((d, .slice A' (m0 + m) c') :: σ) → Mem W w' (fs.set i (.row (.slice (some ⟨g, 0, none⟩) mm c0) mm (zl.map B8) e 1)) → Rd w' w'.heap.size 1 A' (m0 + m) ((l ++ l2).map B8) → m0 + m ≤ c' → m0 ≤ mm → zl.take m0 = l → K a' w') : o.wp P a w K Q := by
 have h1 : ∀ u ∈ l2.map B8, u.oneCell' = true := by
  intro u hu
  obtain ⟨y, _, rfl⟩ := List.mem_map.1 hu
  rfl
 obtain ⟨hlt, hie⟩ := List.getElem?_eq_some_iff.1 hi
 by_cases hfit : m0 + m ≤ c0
 ·refine qlo M O hop ei hs hx hi hr hm hfit h1 hb h63 hd hdn fun a' w' M O => ?_
  rw [← List.map_append] at O
  exact k a' w' _ c0 (m0 + m) (l ++ l2) M O (O.rd (i := i) (by rw [List.getElem?_set_self hlt])) hfit (by omega) (by rw [← hln, List.take_left])
 ·refine qcf M O hop ei hs hx (O.rd hi) hr hm (by omega) (fun h => by cases h) hb h63 hd hdn fun a' w' g' c' M O hc => ?_
  rw [← List.map_append] at O
  have h2 : fs.set i (.row (.slice (some ⟨g, 0, none⟩) m0 c0) m0 (l.map B8) e 1) = fs := by rw [← hie, List.set_getElem_self]
  exact k a' w' _ c' m0 l M (by rw [h2]; exact O.subl (List.sublist_cons_self _ _)) (O.rd (i := 0) rfl) hc (Nat.le_refl _) (by rw [← hln, List.take_length])
theorem bytesWorld_below (w : World) (e : TypeId) (s : ByteArray) : Below w.heap.size w (Lib.bytesWorld w e s) := by
 unfold Lib.bytesWorld
 exact below_freeze (((Below.refl w.heap.size w).drew).alloc (Nat.le_refl _) _) (Nat.le_refl _) 1
theorem q0v (M : Fr a n D σ) (O : Mem W w fs) {src dst e : TypeId} {x : Operand} {l : List Nat} (hop : o.op = .convert src dst x) (hx : look σ x = some (.string (bstr l))) (hs : P.underlying src = some .string) (ht : P.underlying dst = some (.slice e)) (he : P.underlying e = some (.int .u8)) (hl : ∀ b ∈ l, b < 256)
  (hd : o.dst = some d) (hdn : d < n) (k : ∀ a' w' g c, Fr a' n D ((d, .slice (some ⟨g, 0, none⟩) l.length c) :: σ) → Mem W w' fs → Rd w' w'.heap.size 1 (some ⟨g, 0, none⟩) l.length (l.map B8) → K a' w') : o.wp P a w K Q := by
 have hrun := Lib.run_convert_string_bytes (P := P) w src dst e (bstr l) hs ht he
 unfold Oper.wp execOp
 simp only [hop, M.eval hx, Sem.run_bind, hrun, Result.andThen_ok, Sem.run_pure, Oper.upon_value, hd]
 rw [show (bstr l).size = l.length from by simp [bstr, ByteArray.size]]
 refine k _ _ w.heap.size _ (M.put hdn _) (O.call (bytesWorld_below w e (bstr l))) ⟨by simp, fun _ => ⟨⟨w.heap.size, 0, none⟩, rfl, by rw [Lib.bytesWorld_size]; exact Nat.lt_succ_self _, fun j u hu => ?_⟩⟩
 rw [Addr.add_mid, Nat.zero_add]
 rw [List.getElem?_map] at hu
 obtain ⟨y, hy, rfl⟩ := Option.map_eq_some_iff.1 hu
 obtain ⟨hj, hy2⟩ := List.getElem?_eq_some_iff.1 hy
 rw [Lib.bytesWorld_cell w e (bstr l) j (by rw [show (bstr l).size = l.length from by simp [bstr, ByteArray.size]]; exact hj)]
 have hy3 := hl y (List.mem_of_getElem? hy)
 unfold bstr
 simp [List.getD_eq_getElem?_getD, hy, B8]
 omega
end
theorem qa1 {l m : List Nat} (hl : ∀ z ∈ l, z < 256) (hm : ∀ z ∈ m, z < 256) : ∀ z ∈ l ++ m, z < 256 := fun z hz => (List.mem_append.1 hz).elim (hl z) (hm z)
theorem quk {n v : Nat} (hv : v < 256) : ∀ z ∈ List.replicate n v, z < 256 := fun z hz => by rw [List.eq_of_mem_replicate hz]; exact hv
theorem qeu {l : List Nat} (hl : ∀ z ∈ l, z < 256) (k : Nat) : ∀ z ∈ l.drop k, z < 256 := fun z hz => hl z (List.mem_of_mem_drop hz)
theorem qbg {l : List Nat} (hl : ∀ z ∈ l, z < 256) (k : Nat) : ∀ z ∈ l.take k, z < 256 := fun z hz => hl z (List.mem_of_mem_take hz)
theorem qlp {v : Nat} (hv : v < 256) : ∀ z ∈ [v], z < 256 := fun z hz => by rw [List.mem_singleton] at hz; omega
theorem qyi {v : Nat} (hv : v < 256) : ∀ z ∈ [v ||| 128, 128, 128, 128, 16], z < 256 := by
 intro z hz
 simp only [List.mem_cons, List.not_mem_nil, or_false] at hz
 rcases hz with rfl | rfl | rfl | rfl | rfl
 ·exact Nat.or_lt_two_pow (n := 8) hv (by decide)
 all_goals decide
def grt : List Nat := [255, 255, 255, 255, 255, 255, 255, 255, 255, 1]
theorem qyj : ∀ z ∈ grt, z < 256 := by decide
def c11 : List Nat := [0, 1, 2, 3, 5, 6, 64, 65, 127, 128, 255]
theorem q2m : ∀ z ∈ c11, z < 256 := by decide
def scdA : List Nat := [113, 115, 1, 9, 2, 5, 2, 0, 7, 1, 2, 3, 0, 2, 3, 1, 2, 0, 3, 1, 9, 1, 5, 0, 1, 0, 1, 0, 8, 0, 6, 5, 6, 3, 9, 5, 6, 10]
def scdX : List Nat := sealL scdA
theorem qm1 : scdX.length = 42 := by unfold scdX; rw [ze]; rfl
theorem qul : ∀ z ∈ scdA, z < 256 := by decide
theorem qyk : ∀ z ∈ scdX, z < 256 := zw qul
theorem q2n : rdE (List.replicate 16777217 0) = 3 := (rd_no (qjb (by rw [List.length_replicate]; decide) (by rw [List.length_replicate]; decide))).1
theorem rd_14 : rdE (List.replicate 14 0) = 340 := by kernel_rfl
theorem rd_15 : rdE (List.replicate 15 0) = 341 := by kernel_rfl
theorem qfh (n : Nat) : (madeCells #[.int .u8 0] (n * 1)).toList = (List.replicate n 0).map B8 := by
 rw [Nat.mul_one, List.map_replicate]
 unfold madeCells
 simp only [B8, Array.toList_ofFn, List.size_toArray, List.length_cons, List.length_nil, Nat.mod_one, Array.getD_eq_getD_getElem?]
 rw [List.eq_replicate_iff]
 refine ⟨by simp, fun b hb => ?_⟩
 simp [Nat.mod_one] at hb
 exact hb.2.symm
def Xb.sl (x : Xb) : Value := .slice x.A x.n x.c
def Xb.In (x : Xb) : Prop := x.l.length = x.n ∧ x.n ≤ x.c ∧ 15 ≤ x.n ∧ x.n ≤ 42 ∧ ∀ z ∈ x.l, z < 256
theorem q2o : EI Tryz.prog 52 48 (.slice none 0 0) 1 24 := ⟨by kernel_rfl, by kernel_rfl, rfl, by omega⟩
structure Tq where
 a : Nat
 b : Nat
 c : Nat
def Tq.zero : Tq := ⟨0, 0, 0⟩
def tqL (x : Tq) : List Value := [.int .u8 (x.a : Int), .int .u8 (x.b : Int), .int .u8 (x.c : Int)]
def Tq.cells (x : Tq) : Array Value := #[.int .u8 (x.a : Int), .int .u8 (x.b : Int), .int .u8 (x.c : Int)]
theorem q0w (x : Tq) : (tqL x).length = 3 := rfl
theorem q2p (x : Tq) : ∀ v ∈ x.cells.toList, v.oneCell' = true := by simp [Tq.cells, Value.oneCell']
def six : List Tq := [⟨64, 1, 0⟩, ⟨64, 2, 0⟩, ⟨65, 1, 0⟩, ⟨1, 127, 0⟩, ⟨2, 100, 3⟩, ⟨1, 1, 100⟩]
def Tq.n5 (t : Tq) : Nat := t.a * (1 + 3 * (t.b - 1))
def man0 (t : Tq) : List Nat := [113, 115, 1, 1, t.a, 0, t.b]
def man1 (t : Tq) : List Nat := man0 t ++ upF (t.b - 1) fun _ => [0, 1]
def man2 (t : Tq) : List Nat := man1 t ++ upF (2 * t.a) fun _ => [0]
def man3 (t : Tq) : List Nat := man2 t ++ [t.c]
def man4 (t : Tq) : List Nat := man3 t ++ upF t.c fun _ => [1, 0, 1, 0, 1, 0, 0, 0]
def manL (t : Tq) : List Nat := man4 t ++ upF t.n5 fun _ => [0]
theorem upP {P l F : List Nat} {i : Nat} (h : l = P ++ upF i fun _ => F) : l ++ F = P ++ upF (i + 1) fun _ => F := by rw [h, List.append_assoc, qm]
theorem q0x {e a : Nat} (h : decide (e = 0) = decide (a < 65)) : Value.bool (!(((e : Int) == (0 : Int)) == decide ((a : Int) < (65 : Int)))) = .bool false := by
 rw [show ((e : Int) == (0 : Int)) = decide (e = 0) from by by_cases h1 : e = 0 <;> simp [h1], show decide ((a : Int) < (65 : Int)) = decide (a < 65) from decide_eq_decide.2 (by omega), h]
 simp
theorem rd_ne {w : World} {B size m : Nat} {A : Option Addr} {xs : List Value} (h : Rd w B size A m xs) (hm : 0 < m) {p : Prop} (hA : A = none) : p := by
 obtain ⟨ad, h2, _⟩ := h.row hm
 rw [hA] at h2; cases h2
theorem q0y {l : List Nat} {n : Nat} (h : n = l.length) : (sealL l).take n = l := by subst h; unfold sealL; rw [List.take_left]
structure Tq.Ok (t : Tq) : Prop where
 a1 : 1 ≤ t.a
 a2 : t.a ≤ 65
 b1 : 1 ≤ t.b
 b2 : t.b ≤ 127
 c2 : t.c ≤ 100
 n2 : t.n5 ≤ 600
 lt : ∀ z ∈ manL t, z < 256
 de : decide (errR (sealL (manL t)) = 0) = decide (t.a < 65)
theorem q2q : ∀ t ∈ six, t.Ok := by
 intro t ht
 simp only [six, List.mem_cons, List.not_mem_nil, or_false] at ht
 rcases ht with rfl | rfl | rfl | rfl | rfl | rfl
 all_goals exact ⟨by decide, by decide, by decide, by decide, by decide, by decide, by decide +kernel, by kernel_rfl⟩
theorem si_tq : SI Tryz.prog 113 3 := ⟨by kernel_rfl, by kernel_rfl⟩
theorem ei_tq : EI Tryz.prog 114 113 (.agg Tq.zero.cells) 3 3 := ⟨by kernel_rfl, by kernel_rfl, rfl, by omega⟩
structure Sx where
 l : List Nat
 e : Nat
def Sx.zero : Sx := ⟨[], 0⟩
def sxL (x : Sx) : List Value := [.string (bstr x.l), .int .i64 (x.e : Int)]
def Sx.cells (x : Sx) : Array Value := #[.string (bstr x.l), .int .i64 (x.e : Int)]
theorem q0z (x : Sx) : (sxL x).length = 2 := rfl
theorem q2r (x : Sx) : ∀ v ∈ x.cells.toList, v.oneCell' = true := by simp [Sx.cells, Value.oneCell']
def five : List Sx := [⟨[113, 115, 1, 1, 1, 0, 128, 2], 344⟩, ⟨[113, 115, 1, 1, 1, 0, 129, 2], 345⟩, ⟨[113, 115, 1, 1, 1, 0, 1, 0, 0, 255, 255, 3], 344⟩, ⟨[113, 115, 1, 1, 1, 0, 1, 0, 0, 128, 128, 4], 345⟩, ⟨[113, 115, 1, 1, 64, 0, 1], 344⟩]
def Sx.Ok (x : Sx) : Prop := 1 ≤ x.l.length ∧ x.l.length ≤ 12 ∧ (∀ z ∈ x.l, z < 256) ∧ ∀ j, (11 ≤ x.l.length + j) → (j = 0 ∨ x.l.length + j = 11) → errR (sealL (x.l ++ List.replicate j 128)) = x.e
theorem q00 : ∀ x ∈ five, x.Ok := by
 intro x hx
 simp only [five, List.mem_cons, List.not_mem_nil, or_false] at hx
 rcases hx with rfl | rfl | rfl | rfl | rfl
 ·refine ⟨by decide, by decide, by decide, fun j h1 h2 => ?_⟩
  simp only [List.length_cons, List.length_nil] at h1 h2
  obtain rfl : j = 3 := by omega
  kernel_rfl
 ·refine ⟨by decide, by decide, by decide, fun j h1 h2 => ?_⟩
  simp only [List.length_cons, List.length_nil] at h1 h2
  obtain rfl : j = 3 := by omega
  kernel_rfl
 ·refine ⟨by decide, by decide, by decide, fun j h1 h2 => ?_⟩
  simp only [List.length_cons, List.length_nil] at h1 h2
  obtain rfl : j = 0 := by omega
  kernel_rfl
 ·refine ⟨by decide, by decide, by decide, fun j h1 h2 => ?_⟩
  simp only [List.length_cons, List.length_nil] at h1 h2
  obtain rfl : j = 0 := by omega
  kernel_rfl
 ·refine ⟨by decide, by decide, by decide, fun j h1 h2 => ?_⟩
  simp only [List.length_cons, List.length_nil] at h1 h2
  obtain rfl : j = 4 := by omega
  kernel_rfl
theorem si_sx : SI Tryz.prog 115 2 := ⟨by kernel_rfl, by kernel_rfl⟩
theorem ei_sx : EI Tryz.prog 116 115 (.agg Sx.zero.cells) 2 24 := ⟨by kernel_rfl, by kernel_rfl, rfl, by omega⟩
end Go.Proofs.YtggpmlaappaopaaGreatDoor
