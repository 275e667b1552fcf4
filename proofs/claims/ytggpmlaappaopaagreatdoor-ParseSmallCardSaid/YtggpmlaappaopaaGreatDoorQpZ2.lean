/- Parts. -/
import Derived.Test.YtggpmlaappaopaaGreatDoorQpRnd2
import Derived.Test.YtggpmlaappaopaaGreatDoorQpIs
import Derived.Test.YtggpmlaappaopaaGreatDoorQpSep14
import Derived.Test.YtggpmlaappaopaaGreatDoorQpSep8
import Derived.Test.YtggpmlaappaopaaGreatDoorQpRef01
import Derived.Test.YtggpmlaappaopaaGreatDoorQpSep16
import Derived.Test.YtggpmlaappaopaaGreatDoorQpSep13
import Derived.Test.YtggpmlaappaopaaGreatDoorQpCrcP
import Derived.Test.YtggpmlaappaopaaGreatDoorQpSep17
import Derived.Test.YtggpmlaappaopaaGreatDoorQpVarint
import Derived.Test.YtggpmlaappaopaaGreatDoorQpZ1
set_option linter.all false
set_option maxRecDepth 100000
set_option maxHeartbeats 1000000
namespace Go.Proofs.YtggpmlaappaopaaGreatDoor
open Go.RowKit
theorem z8 (A : Option Addr) (c : Nat) (l : List Int) (w : World) (hr : Rd w w.heap.size 1 A l.length (l.map I64i)) (hn : l.length ≤ 1000000) :
    Calls Tryz.prog 37 #[.slice A l.length c] w (qy9 w l) := by
 refine s_ce Tryz.func37 [.slice A l.length c] [(0, .slice A l.length c)] fun a M => ?_
 have O := Mem.start w
 refine s_fs1 ?_
 refine fp M 1 0 [(2, .slice none 0 0)] fun a M => s_d0 (s_fs1 ?_)
 refine fp M 1 0 [(3, .slice none 0 0)] fun a M => s_d0 (s_fs1 ?_)
 refine fp M 2 0 [(5, .slice A l.length c), (4, .slice none 0 0)] fun a M => fo M 2 rfl rfl ?_
 replace O := O.nil 3 1
 refine qd M O (i := 0) rfl qbu rfl rfl rfl (news := (l.map I64i)) (O.old hr) (qg2 _) (by omega) (by omega) rfl (by decide) fun a w6 A6 c6 M O hc6 => ?_
 have hnA6 : 0 + l.length = l.length := Nat.zero_add _
 replace O := O.reRow (i := 0) (ys := l.map I64i) rfl hnA6 (rfl)
 rw [hnA6] at hc6
 replace M := M.sp 6 (.slice A6 l.length c6) rfl (by rw [hnA6])
 refine fp M 1 3 [(2, .slice A6 l.length c6)] fun a M => s_d0 (wp_ret ?_)
 exact s_rt1 rfl M rfl (⟨⟨_, _, rfl, O.own (i := 0) rfl, hc6⟩, O.below⟩)
theorem zi (x : Stm) (w : World) (hx : StRd w x) (hn : x.gs.length ≤ 1000000) :
    Calls Tryz.prog 36 #[.agg #[.int .i64 x.cpus, .int .u64 (x.credit : Int), .slice x.gA x.gs.length x.gc]] w (q1n w x) := by
 refine s_ce Tryz.func36 [.agg #[vI x.cpus, vQ x.credit, .slice x.gA x.gs.length x.gc]] [(0, .agg #[vI x.cpus, vQ x.credit, .slice x.gA x.gs.length x.gc])] fun a M => ?_
 have O := Mem.start w
 refine s_fs1 ?_
 refine fo M 0 rfl rfl (s_eb M O #[vI x.cpus, vQ x.credit, .slice x.gA x.gs.length x.gc] fun a w1 g1 M O => ?_)
 refine fo M 1 rfl rfl (s_ea M O #[vI 0, vQ 0, .slice none 0 0] fun a w2 g2 M O => ?_)
 refine s_d0 (s_fs1 ?_)
 refine fp M 1 0 [(3, .slice none 0 0)] fun a M => s_d0 (s_fs1 ?_)
 refine fp M 2 0 [(5, vP g1 2), (4, .slice none 0 0)] fun a M => s_fc M O 2 1 fun a M => ?_
 refine fo M 3 rfl rfl ?_
 replace O := O.nil 40 2
 refine qd M O (i := 0) rfl ei_gr rfl rfl rfl (news := (x.gs.flatMap grL)) (O.old hx.g) (qns _) (by omega) (by omega) rfl (by decide) fun a w7 A7 c7 M O hc7 => ?_
 have hnA7 : 0 + x.gs.length = x.gs.length := Nat.zero_add _
 replace O := O.reRow (i := 0) (ys := x.gs.flatMap grL) rfl hnA7 (rfl)
 rw [hnA7] at hc7
 replace M := M.sp 7 (.slice A7 x.gs.length c7) rfl (by rw [hnA7])
 refine fp M 1 4 [(8, vP g1 2)] fun a M => fo M 5 rfl rfl (s_es M O 2 fun w2_5 O => ?_)
 refine s_d0 (s_fs1 ?_)
 refine s_fz M O 0 rfl (v := .agg #[vI x.cpus, vQ x.credit, .slice A7 x.gs.length c7]) (Yl.qt rfl rfl qbo rfl (fun _ h => qf (h.blk (i := 2) rfl))) fun a M => ?_
 refine fo M 1 rfl rfl (e_sa M O 1 rfl rfl rfl rfl rfl qbo rfl rfl (by simp [Value.oneCell']) fun w3_1 O => ?_)
 refine s_d0 (wp_ret ?_)
 exact ret1 rfl M (.cellS (i := 1) M O rfl rfl qbo rfl) (⟨⟨_, _, rfl, O.own (i := 0) rfl, hc7⟩, O.below⟩)
theorem qjt (x : Stm) (w : World) (hx : StRd w x) (hf : StFew x) :
    Calls Tryz.prog 11 #[.agg x.cells] w (q1m w x) := by
 have hfg := hf.g; have hfl := hf.l; have hfu := hf.u; have hft := hf.t; have hfs := hf.s
 refine s_ce Tryz.func11 [.agg x.cells] [(0, .agg x.cells)] fun a M => ?_
 have O := Mem.start w
 refine s_fs1 ?_
 refine fo M 0 rfl rfl (s_eb M O x.cells fun a w1 g1 M O => ?_)
 refine fo M 1 rfl rfl (s_ea M O #[vI 0, vQ 0, .slice none 0 0, .slice none 0 0, .slice none 0 0, .slice none 0 0, .slice none 0 0] fun a w2 g2 M O => ?_)
 refine s_d0 (s_fs1 ?_)
 refine fp M 1 0 [(3, .slice none 0 0)] fun a M => s_d0 (s_fs1 ?_)
 refine fp M 1 0 [(4, .slice none 0 0)] fun a M => s_d0 ?_
 replace O := O.nil 44 1
 replace O := O.newTail 43 3
 replace O : Mem w _ (.row (.slice none 0 0) 0 [] 44 1 :: .blk g2 #[vI 0, vQ 0, .slice none 0 0, .slice none 0 0, .slice none 0 0, .slice none 0 0, .slice none 0 0] 30 :: .blk g1 x.cells 30 :: rwF 43 []) := O
 refine wp_seq (s_fs1 ?_)
 refine fp M 1 0 [(5, vI 0)] fun a M => s_d0 (wp_block ?_)
 refine qe (fun mS aS wS => ∃ (i : Nat) (z : List Rw) (As : Option Addr) (cs : Nat), (i ≤ x.rs.length) ∧ (z.length = i) ∧ (z.map Rw.l = (x.rs.take i).map Rw.l) ∧ (∀ q ∈ z, q.l.length ≤ q.c) ∧ (z.length ≤ cs) ∧ mS = x.rs.length - i ∧ Fr aS 44 [] [(5, vI i), (4, .slice As z.length cs), (3, .slice none 0 0), (2, vP g2 0), (1, vP g1 0)] ∧ Mem w wS (.row (.slice As z.length cs) z.length (z.map Rw.val) 44 1 :: .blk g2 #[vI 0, vQ 0, .slice none 0 0, .slice none 0 0, .slice none 0 0, .slice none 0 0, .slice none 0 0] 30 :: .blk g1 x.cells 30 :: rwF 43 z)) (m := x.rs.length - 0) ⟨0, [], none, 0, Nat.zero_le _, rfl, rfl, (fun q h => by cases h), Nat.le_refl _, rfl, M.sub (by kernel_rfl), O.pt 3 [0, 1, 2]⟩ ?_
 clear M O; rintro mS a w_ ⟨i, z, As, cs, hi, hzl, hz, hzc, hcs, rfl, M, O⟩
 refine wp_seq (s_fs1 ?_)
 refine fp M 2 0 [(8, vP g1 6), (7, vI i)] fun a M => s_fc M O 2 2 (v := .slice x.sA x.rs.length x.sc) fun a M => ?_
 refine s_fl M 3 fun a M => ?_
 refine fp M 1 4 [(11, .bool (decide ((i : Int) < (x.rs.length : Int))))] fun a M => s_d0 ?_
 rcases M.tf 11 rfl with ⟨hb11, M⟩ | ⟨hb11, M⟩
 ·
  have hd11 := of_decide_eq_true hb11
  have hi11 : i < x.rs.length := by omega
  obtain ⟨y, hy⟩ : ∃ q, x.rs.getD i Rw.zero = q := ⟨_, rfl⟩
  have hyr : Rd w w.heap.size 3 y.A y.l.length (y.l.flatMap spL) := by rw [← hy]; exact hx.row hi11
  have hyl : y.l.length ≤ 1000000 := by rw [← hy]; exact hf.r _ (qr Rw.zero hi11)
  refine s_ct M (wp_skip (wp_seq (wp_block (s_fs1 ?_))))
  refine fp M 1 0 [(6, .slice none 0 0)] fun a M => s_d0 (qa ?_)
  refine fp M 3 0 [(16, vP g1 6), (15, .slice none 0 0), (14, .slice As z.length cs)] fun a M => s_fc M O 3 2 (v := .slice x.sA x.rs.length x.sc) fun a M => ?_
  refine fp M 1 4 [(18, vI i)] fun a M => ?_
  obtain ⟨gq1, oq1, hq1, _⟩ := Rd.qi hx.s (Nat.lt_of_le_of_lt (Nat.zero_le _) (show i < x.rs.length from by omega)) (by decide)
  have hrq1 := hx.s; rw [hq1] at hrq1
  replace M := M.sp 17 (.slice (some ⟨gq1, oq1, none⟩) x.rs.length x.sc) rfl (by rw [hq1]; try rfl)
  refine s_fz M O 5 rfl (v := vP gq1 (oq1 + i * 1)) (Yl.ix gq1 oq1 i 1 rfl rfl rfl) fun a M => ?_
  refine s_fz M O 6 rfl (v := .slice ((x.rs.getD i Rw.zero).A) ((x.rs.getD i Rw.zero).l.length) ((x.rs.getD i Rw.zero).c)) (Yl.o1 hrq1 i Rw.zero hi11 rfl rfl) fun a M => ?_
  replace M := M.sp 20 (.slice y.A y.l.length y.c) rfl (by rw [hy])
  refine fo M 7 rfl rfl ?_
  replace O := O.nil 43 3
  refine qd M O (i := 0) rfl ei_sp rfl rfl rfl (news := (y.l.flatMap spL)) (O.old hyr) (qkt _) (by omega) (by omega) rfl (by decide) fun a w21 A21 c21 M O hc21 => ?_
  have hnA21 : 0 + y.l.length = y.l.length := Nat.zero_add _
  replace O := O.reRow (i := 0) (ys := y.l.flatMap spL) rfl hnA21 (rfl)
  rw [hnA21] at hc21
  replace M := M.sp 21 (.slice A21 y.l.length c21) rfl (by rw [hnA21])
  refine fo M 8 rfl rfl (s_el M O ei_rw [(0, .slice A21 y.l.length c21)] #[.slice A21 y.l.length c21] fun a w22 g22 M O => ?_)
  refine fo M 9 rfl rfl (qd M O (i := 2) rfl ei_rw rfl rfl rfl (news := ([(⟨A21, c21, y.l⟩ : Rw)].map Rw.val)) (O.rdBlk (i := 0) (n := 1) (size := 1) rfl rfl) (qr7 _) (by omega) (by omega) rfl (by decide) fun a w23 A23 c23 M O hc23 => ?_)
  have hnA23 : z.length + 1 = (z ++ [(⟨A21, c21, y.l⟩ : Rw)]).length := qs rfl
  replace O := O.reRow (i := 2) (ys := (z ++ [(⟨A21, c21, y.l⟩ : Rw)]).map Rw.val) rfl hnA23 (List.map_append.symm)
  rw [hnA23] at hc23
  replace M := M.sp 23 (.slice A23 ((z ++ [(⟨A21, c21, y.l⟩ : Rw)]).length) c23) rfl (by rw [hnA23])
  refine fp M 1 10 [(4, .slice A23 ((z ++ [(⟨A21, c21, y.l⟩ : Rw)]).length) c23)] fun a M => s_d0 ?_
  replace O := O.pt (fs' := (.row (.slice A21 y.l.length c21) y.l.length (y.l.flatMap spL) 43 3 :: .row (.slice A23 ((z ++ [(⟨A21, c21, y.l⟩ : Rw)]).length) c23) ((z ++ [(⟨A21, c21, y.l⟩ : Rw)]).length) ((z ++ [(⟨A21, c21, y.l⟩ : Rw)]).map Rw.val) 44 1 :: .blk g2 #[vI 0, vQ 0, .slice none 0 0, .slice none 0 0, .slice none 0 0, .slice none 0 0, .slice none 0 0] 30 :: .blk g1 x.cells 30 :: rwF 43 z)) 5 [1, 2, 3, 4]
  replace O := Mem.toRw (fs := [.row (.slice A23 ((z ++ [(⟨A21, c21, y.l⟩ : Rw)]).length) c23) ((z ++ [(⟨A21, c21, y.l⟩ : Rw)]).length) ((z ++ [(⟨A21, c21, y.l⟩ : Rw)]).map Rw.val) 44 1, .blk g2 #[vI 0, vQ 0, .slice none 0 0, .slice none 0 0, .slice none 0 0, .slice none 0 0, .slice none 0 0] 30, .blk g1 x.cells 30]) O
  replace O : Mem w _ (.row (.slice A23 ((z ++ [(⟨A21, c21, y.l⟩ : Rw)]).length) c23) ((z ++ [(⟨A21, c21, y.l⟩ : Rw)]).length) ((z ++ [(⟨A21, c21, y.l⟩ : Rw)]).map Rw.val) 44 1 :: .blk g2 #[vI 0, vQ 0, .slice none 0 0, .slice none 0 0, .slice none 0 0, .slice none 0 0, .slice none 0 0] 30 :: .blk g1 x.cells 30 :: rwF 43 (z ++ [(⟨A21, c21, y.l⟩ : Rw)])) := O
  refine qa ?_
  refine fp M 2 0 [(13, vI (IntKind.i64.wrap ((i : Int) + 1)))] fun a M => ?_
  replace M := M.sp 13 (vI (i + 1 : Nat)) rfl (qc (by omega) (by omega))
  refine fp M 1 2 [(5, vI (i + 1 : Nat))] fun a M => s_d0 ?_
  exact ⟨_, (by omega), i + 1, (z ++ [(⟨A21, c21, y.l⟩ : Rw)]), A23, c23, by omega, by rw [List.length_append, hzl]; rfl, by rw [List.map_append, hz, qvr hi11, hy]; rfl, fun q h => (List.mem_append.1 h).elim (hzc q) (fun h => by rw [List.mem_singleton] at h; subst h; exact hc21), hc23, rfl, M.sub (by kernel_rfl), O.pt 3 [0, 1, 2]⟩
 have hd11 := of_decide_eq_false hb11
 have hzt : x.rs.take i = x.rs := List.take_of_length_le (by omega)
 refine s_cf M (wp_exit (wp_seq ?_))
 refine zk O (.row (.slice As z.length cs) z.length (z.map Rw.val) 44 1 :: .blk g2 #[vI 0, vQ 0, .slice none 0 0, .slice none 0 0, .slice none 0 0, .slice none 0 0, .slice none 0 0] 30 :: rwF 43 z) 3 [0, 1] [15, 21, 23] fun O Z => ?_
 refine qx (f := 9) (l := (bt 24 [15, 16, 17, 18, 19, 20, 21, 22, 23])) (fun aS wS => ∃ (A26 : Option Addr) (c26 : Nat) (A29 : Option Addr) (c29 : Nat) (A32 : Option Addr) (c32 : Nat) (A36 : Option Addr) (c36 : Nat), Fr aS 44 [] [(36, .slice A36 (0 + x.ts.length) c36), (38, vP g1 0), (32, .slice A32 x.cu.length c32), (29, .slice A29 x.cl.length c29), (26, .agg #[vI x.cpus, vQ x.credit, .slice A26 x.gs.length c26]), (37, .slice As z.length cs), (11, .bool false), (10, vI x.rs.length), (9, .slice x.sA x.rs.length x.sc), (8, vP g1 6), (7, vI i), (5, vI i), (4, .slice As z.length cs), (2, vP g2 0), (1, vP g1 0)] ∧ Mem w wS (.row (.slice A36 (0 + x.ts.length) c36) (0 + x.ts.length) ([] ++ (x.ts.flatMap tkL)) 46 8 :: .row (.slice A32 x.cu.length c32) x.cu.length (x.cu.map I64i) 3 1 :: .row (.slice A29 x.cl.length c29) x.cl.length (x.cl.map I64i) 3 1 :: .row (.slice A26 x.gs.length c26) x.gs.length (x.gs.flatMap grL) 40 2 :: .row (.slice As z.length cs) z.length (z.map Rw.val) 44 1 :: .blk g2 #[vI 0, vQ 0, .slice none 0 0, .slice none 0 0, .slice none 0 0, .slice none 0 0, .slice none 0 0] 30 :: .blk g1 x.cells 30 :: rwF 43 z) ∧ (x.gs.length ≤ c26) ∧ (x.cl.length ≤ c29) ∧ (x.cu.length ≤ c32) ∧ (0 + x.ts.length ≤ c36)) ?_ fun M8_0 => ?_
 ·
  clear M O Z; rintro a wM ⟨A26, c26, A29, c29, A32, c32, A36, c36, M, O, hc26, hc29, hc32, hc36⟩
  have Z := O.pt (fs' := (.row (.slice As z.length cs) z.length (z.map Rw.val) 44 1 :: .blk g2 #[vI 0, vQ 0, .slice none 0 0, .slice none 0 0, .slice none 0 0, .slice none 0 0, .slice none 0 0] 30 :: rwF 43 z)) 7 [4, 5]
  refine s_on M 15 rfl (e_sp M O 6 (es := #[vI x.cpus, vQ x.credit, .slice A26 x.gs.length c26, .slice x.lA x.cl.length x.lc, .slice x.uA x.cu.length x.uc, .slice x.tA x.ts.length x.tc, .slice x.sA x.rs.length x.sc]) rfl rfl rfl rfl rfl qbo (Nat.le_of_ble_eq_true rfl) rfl (by simp [Value.oneCell']) rfl fun w8_15 O => ?_)
  refine noS (by kernel_rfl) ?_
  refine ap M (pastS (by kernel_rfl)) [16] (bt 24 [17, 18, 19, 20, 21, 22, 23]) [(39, vP g1 3)] fun a M => ?_
  refine s_on M 17 rfl (s_es M O 6 fun w8_17 O => ?_)
  refine keepS (O.pt 7 [4, 5]) (fun Z => ?_)
  refine ap M (pastS (by kernel_rfl)) [18] (bt 24 [19, 20, 21, 22, 23]) [(40, vP g1 4)] fun a M => ?_
  refine s_on M 19 rfl (s_es M O 6 fun w8_19 O => ?_)
  refine keepS (O.pt 7 [4, 5]) (fun Z => ?_)
  refine ap M (pastS (by kernel_rfl)) [20] (bt 24 [21, 22, 23]) [(41, vP g1 5)] fun a M => ?_
  refine s_on M 21 rfl (s_es M O 6 fun w8_21 O => ?_)
  refine noS (by kernel_rfl) ?_
  refine ap M (pastS (by kernel_rfl)) [22] (bt 24 [23]) [(42, vP g1 6)] fun a M => ?_
  refine s_on M 23 rfl (s_es M O 6 fun w8_23 O => ?_)
  refine noS (by kernel_rfl) ?_
  refine qh (by kernel_rfl) ?_
  rw [Nat.zero_add] at O hc36
  refine s_fs1 ?_
  refine s_fz M O 0 rfl (v := .agg #[vI x.cpus, vQ x.credit, .slice A26 x.gs.length c26, .slice A29 x.cl.length c29, .slice A32 x.cu.length c32, .slice A36 x.ts.length c36, .slice As z.length cs]) (Yl.qt rfl rfl si_st rfl (fun _ h => qf (h.blk (i := 6) rfl))) fun a M => ?_
  refine fo M 1 rfl rfl (e_sa M O 5 rfl rfl rfl rfl rfl si_st rfl rfl (by simp [Value.oneCell']) fun w9_1 O => ?_)
  refine s_d0 (wp_ret ?_)
  exact ret1 rfl M (.cellS (i := 5) M O rfl rfl si_st rfl) (⟨⟨x.cpus, x.credit, A26, c26, x.gs, A29, c29, x.cl, A32, c32, x.cu, A36, c36, x.ts, As, cs, z⟩, rfl, ⟨⟨rfl, rfl, rfl⟩, rfl, rfl, rfl, (by rw [hzt] at hz; exact hz.symm)⟩, ⟨hc26, hc29, hc32, hc36, hcs, hzc⟩, O.pt 7 [3, 2, 1, 0, 4]⟩)
 refine qx (f := 10) (l := (bt 24 [12, 15, 16, 17, 18, 19, 20, 21, 22, 23])) (fun aS wS => ∃ (A26 : Option Addr) (c26 : Nat) (A29 : Option Addr) (c29 : Nat) (A32 : Option Addr) (c32 : Nat), Fr aS 44 [] [(32, .slice A32 x.cu.length c32), (38, vP g1 0), (35, .slice x.tA x.ts.length x.tc), (29, .slice A29 x.cl.length c29), (26, .agg #[vI x.cpus, vQ x.credit, .slice A26 x.gs.length c26]), (37, .slice As z.length cs), (33, .slice none 0 0), (11, .bool false), (10, vI x.rs.length), (9, .slice x.sA x.rs.length x.sc), (8, vP g1 6), (7, vI i), (5, vI i), (4, .slice As z.length cs), (2, vP g2 0), (1, vP g1 0)] ∧ Mem w wS (.row (.slice A32 x.cu.length c32) x.cu.length (x.cu.map I64i) 3 1 :: .row (.slice A29 x.cl.length c29) x.cl.length (x.cl.map I64i) 3 1 :: .row (.slice A26 x.gs.length c26) x.gs.length (x.gs.flatMap grL) 40 2 :: .row (.slice As z.length cs) z.length (z.map Rw.val) 44 1 :: .blk g2 #[vI 0, vQ 0, .slice none 0 0, .slice none 0 0, .slice none 0 0, .slice none 0 0, .slice none 0 0] 30 :: .blk g1 x.cells 30 :: rwF 43 z) ∧ (x.gs.length ≤ c26) ∧ (x.cl.length ≤ c29) ∧ (x.cu.length ≤ c32)) ?_ fun M8_1 => ?_
 ·
  clear M O Z; rintro a wM ⟨A26, c26, A29, c29, A32, c32, M, O, hc26, hc29, hc32⟩
  have Z := O.pt (fs' := (.row (.slice As z.length cs) z.length (z.map Rw.val) 44 1 :: .blk g2 #[vI 0, vQ 0, .slice none 0 0, .slice none 0 0, .slice none 0 0, .slice none 0 0, .slice none 0 0] 30 :: rwF 43 z)) 6 [3, 4]
  refine s_on M 12 rfl ?_
  replace O := O.nil 46 8
  refine qd M O (i := 0) rfl ei_tk rfl rfl rfl (news := (x.ts.flatMap tkL)) (O.old hx.t) (qnt _) (by omega) (by omega) rfl (by decide) fun a w36 A36 c36 M O hc36 => ?_
  refine keepS (O.pt 7 [4, 5]) (fun Z => ?_)
  exact M8_0 _ _ ⟨A26, c26, A29, c29, A32, c32, A36, c36, M.sub (by kernel_rfl), O.pt 7 [0, 1, 2, 3, 4, 5, 6], hc26, hc29, hc32, hc36⟩
 refine qx (f := 12) (l := (bf 24 [0, 1, 2, 3, 4, 5, 6, 7, 9, 10, 11, 13])) (fun aS wS => ∃ (A26 : Option Addr) (c26 : Nat) (A29 : Option Addr) (c29 : Nat), Fr aS 44 [] [(35, .slice x.tA x.ts.length x.tc), (31, .slice x.uA x.cu.length x.uc), (29, .slice A29 x.cl.length c29), (26, .agg #[vI x.cpus, vQ x.credit, .slice A26 x.gs.length c26]), (37, .slice As z.length cs), (33, .slice none 0 0), (11, .bool false), (10, vI x.rs.length), (9, .slice x.sA x.rs.length x.sc), (8, vP g1 6), (7, vI i), (5, vI i), (4, .slice As z.length cs), (2, vP g2 0), (1, vP g1 0)] ∧ Mem w wS (.row (.slice A29 x.cl.length c29) x.cl.length (x.cl.map I64i) 3 1 :: .row (.slice A26 x.gs.length c26) x.gs.length (x.gs.flatMap grL) 40 2 :: .row (.slice As z.length cs) z.length (z.map Rw.val) 44 1 :: .blk g2 #[vI 0, vQ 0, .slice none 0 0, .slice none 0 0, .slice none 0 0, .slice none 0 0, .slice none 0 0] 30 :: .blk g1 x.cells 30 :: rwF 43 z) ∧ (x.gs.length ≤ c26) ∧ (x.cl.length ≤ c29)) ?_ fun M8_2 => ?_
 ·
  clear M O Z; rintro a wM ⟨A26, c26, A29, c29, M, O, hc26, hc29⟩
  have Z := O.pt (fs' := (.row (.slice As z.length cs) z.length (z.map Rw.val) 44 1 :: .blk g2 #[vI 0, vQ 0, .slice none 0 0, .slice none 0 0, .slice none 0 0, .slice none 0 0, .slice none 0 0] 30 :: rwF 43 z)) 5 [2, 3]
  refine ap M (fun _ => Z) [14] (bt 24 [8, 12, 15, 16, 17, 18, 19, 20, 21, 22, 23]) [(38, vP g1 0)] fun a M => ?_
  refine s_on M 8 rfl ?_
  refine s_ek M O [.slice x.uA x.cu.length x.uc] (z8 x.uA x.uc x.cu _ (O.old hx.u) hf.u) fun A32 c32 w32 hc32 O a M => ?_
  refine keepS (O.pt 6 [3, 4]) (fun Z => ?_)
  exact M8_1 _ _ ⟨A26, c26, A29, c29, A32, c32, M.sub (by kernel_rfl), O.pt 6 [0, 1, 2, 3, 4, 5], hc26, hc29, hc32⟩
 refine qx (f := 13) (l := (bf 24 [0, 1, 2, 3, 4, 5, 6, 7, 9, 10, 13])) (fun aS wS => ∃ (A26 : Option Addr) (c26 : Nat) (A29 : Option Addr) (c29 : Nat), Fr aS 44 [] [(31, .slice x.uA x.cu.length x.uc), (29, .slice A29 x.cl.length c29), (26, .agg #[vI x.cpus, vQ x.credit, .slice A26 x.gs.length c26]), (37, .slice As z.length cs), (34, vP g1 5), (33, .slice none 0 0), (11, .bool false), (10, vI x.rs.length), (9, .slice x.sA x.rs.length x.sc), (8, vP g1 6), (7, vI i), (5, vI i), (4, .slice As z.length cs), (2, vP g2 0), (1, vP g1 0)] ∧ Mem w wS (.row (.slice A29 x.cl.length c29) x.cl.length (x.cl.map I64i) 3 1 :: .row (.slice A26 x.gs.length c26) x.gs.length (x.gs.flatMap grL) 40 2 :: .row (.slice As z.length cs) z.length (z.map Rw.val) 44 1 :: .blk g2 #[vI 0, vQ 0, .slice none 0 0, .slice none 0 0, .slice none 0 0, .slice none 0 0, .slice none 0 0] 30 :: .blk g1 x.cells 30 :: rwF 43 z) ∧ (x.gs.length ≤ c26) ∧ (x.cl.length ≤ c29)) ?_ fun M8_3 => ?_
 ·
  clear M O Z; rintro a wM ⟨A26, c26, A29, c29, M, O, hc26, hc29⟩
  have Z := O.pt (fs' := (.row (.slice As z.length cs) z.length (z.map Rw.val) 44 1 :: .blk g2 #[vI 0, vQ 0, .slice none 0 0, .slice none 0 0, .slice none 0 0, .slice none 0 0, .slice none 0 0] 30 :: rwF 43 z)) 5 [2, 3]
  refine qw [8, 11] (by kernel_rfl) rfl ?_
  refine all_cons ?_ ?_
  ·refine qq M (i := 8) rfl rfl ?_
   refine s_ek M O [.slice x.uA x.cu.length x.uc] (z8 x.uA x.uc x.cu _ (O.old hx.u) hf.u) fun A32 c32 w32 hc32 O a M => ?_
   refine keepS (O.pt 6 [3, 4]) (fun Z => ?_)
   refine s_on M 11 rfl ?_
   refine Yl.wp (S := fun wS => Mem w wS _) (v := .slice x.tA x.ts.length x.tc) (Yl.qk rfl rfl (by kernel_rfl) (fun _ h => h.cell (i := 5) rfl (rfl))) M O rfl (by decide) fun a M => ?_
   refine keepS Z (fun Z => ?_)
   refine ap M (fun _ => Z) [14] (bt 24 [12, 15, 16, 17, 18, 19, 20, 21, 22, 23]) [(38, vP g1 0)] fun a M => ?_
   refine s_on M 12 rfl ?_
   replace O := O.nil 46 8
   refine qd M O (i := 0) rfl ei_tk rfl rfl rfl (news := (x.ts.flatMap tkL)) (O.old hx.t) (qnt _) (by omega) (by omega) rfl (by decide) fun a w36 A36 c36 M O hc36 => ?_
   refine keepS (O.pt 7 [4, 5]) (fun Z => ?_)
   exact M8_0 _ _ ⟨A26, c26, A29, c29, A32, c32, A36, c36, M.sub (by kernel_rfl), O.pt 7 [0, 1, 2, 3, 4, 5, 6], hc26, hc29, hc32, hc36⟩
  refine all_cons ?_ all_nil
  refine qq M (i := 11) rfl rfl ?_
  refine Yl.wp (S := fun wS => Mem w wS _) (v := .slice x.tA x.ts.length x.tc) (Yl.qk rfl rfl (by kernel_rfl) (fun _ h => h.cell (i := 4) rfl (rfl))) M O rfl (by decide) fun a M => ?_
  refine keepS Z (fun Z => ?_)
  exact M8_2 _ _ ⟨A26, c26, A29, c29, M.sub (by kernel_rfl), O.pt 5 [0, 1, 2, 3, 4], hc26, hc29⟩
 refine qx (f := 13) (l := (bf 24 [0, 1, 2, 3, 4, 5, 6, 9, 10, 11, 13])) (fun aS wS => ∃ (A26 : Option Addr) (c26 : Nat) (A29 : Option Addr) (c29 : Nat), Fr aS 44 [] [(35, .slice x.tA x.ts.length x.tc), (29, .slice A29 x.cl.length c29), (26, .agg #[vI x.cpus, vQ x.credit, .slice A26 x.gs.length c26]), (37, .slice As z.length cs), (33, .slice none 0 0), (30, vP g1 4), (11, .bool false), (10, vI x.rs.length), (9, .slice x.sA x.rs.length x.sc), (8, vP g1 6), (7, vI i), (5, vI i), (4, .slice As z.length cs), (2, vP g2 0), (1, vP g1 0)] ∧ Mem w wS (.row (.slice A29 x.cl.length c29) x.cl.length (x.cl.map I64i) 3 1 :: .row (.slice A26 x.gs.length c26) x.gs.length (x.gs.flatMap grL) 40 2 :: .row (.slice As z.length cs) z.length (z.map Rw.val) 44 1 :: .blk g2 #[vI 0, vQ 0, .slice none 0 0, .slice none 0 0, .slice none 0 0, .slice none 0 0, .slice none 0 0] 30 :: .blk g1 x.cells 30 :: rwF 43 z) ∧ (x.gs.length ≤ c26) ∧ (x.cl.length ≤ c29)) ?_ fun M8_4 => ?_
 ·
  clear M O Z; rintro a wM ⟨A26, c26, A29, c29, M, O, hc26, hc29⟩
  have Z := O.pt (fs' := (.row (.slice As z.length cs) z.length (z.map Rw.val) 44 1 :: .blk g2 #[vI 0, vQ 0, .slice none 0 0, .slice none 0 0, .slice none 0 0, .slice none 0 0, .slice none 0 0] 30 :: rwF 43 z)) 5 [2, 3]
  refine s_on M 7 rfl ?_
  refine Yl.wp (S := fun wS => Mem w wS _) (v := .slice x.uA x.cu.length x.uc) (Yl.qk rfl rfl (by kernel_rfl) (fun _ h => h.cell (i := 4) rfl (rfl))) M O rfl (by decide) fun a M => ?_
  refine keepS Z (fun Z => ?_)
  exact M8_2 _ _ ⟨A26, c26, A29, c29, M.sub (by kernel_rfl), O.pt 5 [0, 1, 2, 3, 4], hc26, hc29⟩
 refine qx (f := 13) (l := (bf 24 [0, 1, 2, 3, 4, 6, 7, 9, 10, 11, 13])) (fun aS wS => ∃ (A26 : Option Addr) (c26 : Nat), Fr aS 44 [] [(35, .slice x.tA x.ts.length x.tc), (31, .slice x.uA x.cu.length x.uc), (28, .slice x.lA x.cl.length x.lc), (26, .agg #[vI x.cpus, vQ x.credit, .slice A26 x.gs.length c26]), (37, .slice As z.length cs), (33, .slice none 0 0), (11, .bool false), (10, vI x.rs.length), (9, .slice x.sA x.rs.length x.sc), (8, vP g1 6), (7, vI i), (5, vI i), (4, .slice As z.length cs), (2, vP g2 0), (1, vP g1 0)] ∧ Mem w wS (.row (.slice A26 x.gs.length c26) x.gs.length (x.gs.flatMap grL) 40 2 :: .row (.slice As z.length cs) z.length (z.map Rw.val) 44 1 :: .blk g2 #[vI 0, vQ 0, .slice none 0 0, .slice none 0 0, .slice none 0 0, .slice none 0 0, .slice none 0 0] 30 :: .blk g1 x.cells 30 :: rwF 43 z) ∧ (x.gs.length ≤ c26)) ?_ fun M8_5 => ?_
 ·
  clear M O Z; rintro a wM ⟨A26, c26, M, O, hc26⟩
  have Z := O.pt (fs' := (.row (.slice As z.length cs) z.length (z.map Rw.val) 44 1 :: .blk g2 #[vI 0, vQ 0, .slice none 0 0, .slice none 0 0, .slice none 0 0, .slice none 0 0, .slice none 0 0] 30 :: rwF 43 z)) 4 [1, 2]
  refine ap M (fun _ => Z) [14] (bf 24 [0, 1, 2, 3, 4, 6, 7, 9, 10, 11, 13, 14]) [(38, vP g1 0)] fun a M => ?_
  refine s_on M 5 rfl ?_
  refine s_ek M O [.slice x.lA x.cl.length x.lc] (z8 x.lA x.lc x.cl _ (O.old hx.l) hf.l) fun A29 c29 w29 hc29 O a M => ?_
  refine keepS (O.pt 5 [2, 3]) (fun Z => ?_)
  refine s_on M 8 rfl ?_
  refine s_ek M O [.slice x.uA x.cu.length x.uc] (z8 x.uA x.uc x.cu _ (O.old hx.u) hf.u) fun A32 c32 w32 hc32 O a M => ?_
  refine keepS (O.pt 6 [3, 4]) (fun Z => ?_)
  exact M8_1 _ _ ⟨A26, c26, A29, c29, A32, c32, M.sub (by kernel_rfl), O.pt 6 [0, 1, 2, 3, 4, 5], hc26, hc29, hc32⟩
 refine qx (f := 14) (l := (bf 24 [0, 1, 2, 3, 4, 6, 7, 9, 10, 13])) (fun aS wS => ∃ (A26 : Option Addr) (c26 : Nat), Fr aS 44 [] [(31, .slice x.uA x.cu.length x.uc), (28, .slice x.lA x.cl.length x.lc), (26, .agg #[vI x.cpus, vQ x.credit, .slice A26 x.gs.length c26]), (37, .slice As z.length cs), (34, vP g1 5), (33, .slice none 0 0), (11, .bool false), (10, vI x.rs.length), (9, .slice x.sA x.rs.length x.sc), (8, vP g1 6), (7, vI i), (5, vI i), (4, .slice As z.length cs), (2, vP g2 0), (1, vP g1 0)] ∧ Mem w wS (.row (.slice A26 x.gs.length c26) x.gs.length (x.gs.flatMap grL) 40 2 :: .row (.slice As z.length cs) z.length (z.map Rw.val) 44 1 :: .blk g2 #[vI 0, vQ 0, .slice none 0 0, .slice none 0 0, .slice none 0 0, .slice none 0 0, .slice none 0 0] 30 :: .blk g1 x.cells 30 :: rwF 43 z) ∧ (x.gs.length ≤ c26)) ?_ fun M8_6 => ?_
 ·
  clear M O Z; rintro a wM ⟨A26, c26, M, O, hc26⟩
  have Z := O.pt (fs' := (.row (.slice As z.length cs) z.length (z.map Rw.val) 44 1 :: .blk g2 #[vI 0, vQ 0, .slice none 0 0, .slice none 0 0, .slice none 0 0, .slice none 0 0, .slice none 0 0] 30 :: rwF 43 z)) 4 [1, 2]
  refine qw [5, 11] (by kernel_rfl) rfl ?_
  refine all_cons ?_ ?_
  ·refine qq M (i := 5) rfl rfl ?_
   refine s_ek M O [.slice x.lA x.cl.length x.lc] (z8 x.lA x.lc x.cl _ (O.old hx.l) hf.l) fun A29 c29 w29 hc29 O a M => ?_
   refine keepS (O.pt 5 [2, 3]) (fun Z => ?_)
   exact M8_3 _ _ ⟨A26, c26, A29, c29, M.sub (by kernel_rfl), O.pt 5 [0, 1, 2, 3, 4], hc26, hc29⟩
  refine all_cons ?_ all_nil
  refine qq M (i := 11) rfl rfl ?_
  refine Yl.wp (S := fun wS => Mem w wS _) (v := .slice x.tA x.ts.length x.tc) (Yl.qk rfl rfl (by kernel_rfl) (fun _ h => h.cell (i := 3) rfl (rfl))) M O rfl (by decide) fun a M => ?_
  refine keepS Z (fun Z => ?_)
  exact M8_5 _ _ ⟨A26, c26, M.sub (by kernel_rfl), O.pt 4 [0, 1, 2, 3], hc26⟩
 refine qx (f := 14) (l := (bf 24 [0, 1, 2, 3, 4, 6, 9, 10, 11, 13])) (fun aS wS => ∃ (A26 : Option Addr) (c26 : Nat), Fr aS 44 [] [(35, .slice x.tA x.ts.length x.tc), (28, .slice x.lA x.cl.length x.lc), (26, .agg #[vI x.cpus, vQ x.credit, .slice A26 x.gs.length c26]), (37, .slice As z.length cs), (33, .slice none 0 0), (30, vP g1 4), (11, .bool false), (10, vI x.rs.length), (9, .slice x.sA x.rs.length x.sc), (8, vP g1 6), (7, vI i), (5, vI i), (4, .slice As z.length cs), (2, vP g2 0), (1, vP g1 0)] ∧ Mem w wS (.row (.slice A26 x.gs.length c26) x.gs.length (x.gs.flatMap grL) 40 2 :: .row (.slice As z.length cs) z.length (z.map Rw.val) 44 1 :: .blk g2 #[vI 0, vQ 0, .slice none 0 0, .slice none 0 0, .slice none 0 0, .slice none 0 0, .slice none 0 0] 30 :: .blk g1 x.cells 30 :: rwF 43 z) ∧ (x.gs.length ≤ c26)) ?_ fun M8_7 => ?_
 ·
  clear M O Z; rintro a wM ⟨A26, c26, M, O, hc26⟩
  have Z := O.pt (fs' := (.row (.slice As z.length cs) z.length (z.map Rw.val) 44 1 :: .blk g2 #[vI 0, vQ 0, .slice none 0 0, .slice none 0 0, .slice none 0 0, .slice none 0 0, .slice none 0 0] 30 :: rwF 43 z)) 4 [1, 2]
  refine qw [5, 7] (by kernel_rfl) rfl ?_
  refine all_cons ?_ ?_
  ·refine qq M (i := 5) rfl rfl ?_
   refine s_ek M O [.slice x.lA x.cl.length x.lc] (z8 x.lA x.lc x.cl _ (O.old hx.l) hf.l) fun A29 c29 w29 hc29 O a M => ?_
   refine keepS (O.pt 5 [2, 3]) (fun Z => ?_)
   exact M8_4 _ _ ⟨A26, c26, A29, c29, M.sub (by kernel_rfl), O.pt 5 [0, 1, 2, 3, 4], hc26, hc29⟩
  refine all_cons ?_ all_nil
  refine qq M (i := 7) rfl rfl ?_
  refine Yl.wp (S := fun wS => Mem w wS _) (v := .slice x.uA x.cu.length x.uc) (Yl.qk rfl rfl (by kernel_rfl) (fun _ h => h.cell (i := 3) rfl (rfl))) M O rfl (by decide) fun a M => ?_
  refine keepS Z (fun Z => ?_)
  exact M8_5 _ _ ⟨A26, c26, M.sub (by kernel_rfl), O.pt 4 [0, 1, 2, 3], hc26⟩
 refine qx (f := 14) (l := (bf 24 [0, 1, 2, 3, 6, 7, 9, 10, 11, 13])) (fun aS wS => ∃ (A26 : Option Addr) (c26 : Nat), Fr aS 44 [] [(35, .slice x.tA x.ts.length x.tc), (31, .slice x.uA x.cu.length x.uc), (26, .agg #[vI x.cpus, vQ x.credit, .slice A26 x.gs.length c26]), (37, .slice As z.length cs), (33, .slice none 0 0), (27, vP g1 3), (11, .bool false), (10, vI x.rs.length), (9, .slice x.sA x.rs.length x.sc), (8, vP g1 6), (7, vI i), (5, vI i), (4, .slice As z.length cs), (2, vP g2 0), (1, vP g1 0)] ∧ Mem w wS (.row (.slice A26 x.gs.length c26) x.gs.length (x.gs.flatMap grL) 40 2 :: .row (.slice As z.length cs) z.length (z.map Rw.val) 44 1 :: .blk g2 #[vI 0, vQ 0, .slice none 0 0, .slice none 0 0, .slice none 0 0, .slice none 0 0, .slice none 0 0] 30 :: .blk g1 x.cells 30 :: rwF 43 z) ∧ (x.gs.length ≤ c26)) ?_ fun M8_8 => ?_
 ·
  clear M O Z; rintro a wM ⟨A26, c26, M, O, hc26⟩
  have Z := O.pt (fs' := (.row (.slice As z.length cs) z.length (z.map Rw.val) 44 1 :: .blk g2 #[vI 0, vQ 0, .slice none 0 0, .slice none 0 0, .slice none 0 0, .slice none 0 0, .slice none 0 0] 30 :: rwF 43 z)) 4 [1, 2]
  refine s_on M 4 rfl ?_
  refine Yl.wp (S := fun wS => Mem w wS _) (v := .slice x.lA x.cl.length x.lc) (Yl.qk rfl rfl (by kernel_rfl) (fun _ h => h.cell (i := 3) rfl (rfl))) M O rfl (by decide) fun a M => ?_
  refine keepS Z (fun Z => ?_)
  exact M8_5 _ _ ⟨A26, c26, M.sub (by kernel_rfl), O.pt 4 [0, 1, 2, 3], hc26⟩
 refine qx (f := 14) (l := (bf 24 [0, 1, 3, 4, 6, 7, 9, 10, 11, 13])) (fun aS wS => Fr aS 44 [] [(35, .slice x.tA x.ts.length x.tc), (31, .slice x.uA x.cu.length x.uc), (28, .slice x.lA x.cl.length x.lc), (25, .agg #[vI x.cpus, vQ x.credit, .slice x.gA x.gs.length x.gc]), (37, .slice As z.length cs), (33, .slice none 0 0), (11, .bool false), (10, vI x.rs.length), (9, .slice x.sA x.rs.length x.sc), (8, vP g1 6), (7, vI i), (5, vI i), (4, .slice As z.length cs), (2, vP g2 0), (1, vP g1 0)] ∧ Mem w wS (.row (.slice As z.length cs) z.length (z.map Rw.val) 44 1 :: .blk g2 #[vI 0, vQ 0, .slice none 0 0, .slice none 0 0, .slice none 0 0, .slice none 0 0, .slice none 0 0] 30 :: .blk g1 x.cells 30 :: rwF 43 z)) ?_ fun M8_9 => ?_
 ·
  clear M O Z; rintro a wM ⟨M, O⟩
  have Z := O.pt (fs' := (.row (.slice As z.length cs) z.length (z.map Rw.val) 44 1 :: .blk g2 #[vI 0, vQ 0, .slice none 0 0, .slice none 0 0, .slice none 0 0, .slice none 0 0, .slice none 0 0] 30 :: rwF 43 z)) 3 [0, 1]
  refine s_on M 2 rfl ?_
  refine s_ek M O [.agg #[vI x.cpus, vQ x.credit, .slice x.gA x.gs.length x.gc]] (zi x _ (hx.old O) hf.g) fun A26 c26 w26 hc26 O a M => ?_
  refine keepS (O.pt 4 [1, 2]) (fun Z => ?_)
  exact M8_5 _ _ ⟨A26, c26, M.sub (by kernel_rfl), O.pt 4 [0, 1, 2, 3], hc26⟩
 refine qx (f := 15) (l := (bf 24 [0, 1, 2, 3, 4, 6, 9, 10, 13])) (fun aS wS => ∃ (A26 : Option Addr) (c26 : Nat), Fr aS 44 [] [(28, .slice x.lA x.cl.length x.lc), (26, .agg #[vI x.cpus, vQ x.credit, .slice A26 x.gs.length c26]), (37, .slice As z.length cs), (34, vP g1 5), (33, .slice none 0 0), (30, vP g1 4), (11, .bool false), (10, vI x.rs.length), (9, .slice x.sA x.rs.length x.sc), (8, vP g1 6), (7, vI i), (5, vI i), (4, .slice As z.length cs), (2, vP g2 0), (1, vP g1 0)] ∧ Mem w wS (.row (.slice A26 x.gs.length c26) x.gs.length (x.gs.flatMap grL) 40 2 :: .row (.slice As z.length cs) z.length (z.map Rw.val) 44 1 :: .blk g2 #[vI 0, vQ 0, .slice none 0 0, .slice none 0 0, .slice none 0 0, .slice none 0 0, .slice none 0 0] 30 :: .blk g1 x.cells 30 :: rwF 43 z) ∧ (x.gs.length ≤ c26)) ?_ fun M8_10 => ?_
 ·
  clear M O Z; rintro a wM ⟨A26, c26, M, O, hc26⟩
  have Z := O.pt (fs' := (.row (.slice As z.length cs) z.length (z.map Rw.val) 44 1 :: .blk g2 #[vI 0, vQ 0, .slice none 0 0, .slice none 0 0, .slice none 0 0, .slice none 0 0, .slice none 0 0] 30 :: rwF 43 z)) 4 [1, 2]
  refine qw [5, 7, 11] (by kernel_rfl) rfl ?_
  refine all_cons ?_ ?_
  ·refine qq M (i := 5) rfl rfl ?_
   refine s_ek M O [.slice x.lA x.cl.length x.lc] (z8 x.lA x.lc x.cl _ (O.old hx.l) hf.l) fun A29 c29 w29 hc29 O a M => ?_
   refine keepS (O.pt 5 [2, 3]) (fun Z => ?_)
   refine qw [7, 11] (by kernel_rfl) rfl ?_
   refine all_cons ?_ ?_
   ·refine qq M (i := 7) rfl rfl ?_
    refine Yl.wp (S := fun wS => Mem w wS _) (v := .slice x.uA x.cu.length x.uc) (Yl.qk rfl rfl (by kernel_rfl) (fun _ h => h.cell (i := 4) rfl (rfl))) M O rfl (by decide) fun a M => ?_
    refine keepS Z (fun Z => ?_)
    exact M8_3 _ _ ⟨A26, c26, A29, c29, M.sub (by kernel_rfl), O.pt 5 [0, 1, 2, 3, 4], hc26, hc29⟩
   refine all_cons ?_ all_nil
   refine qq M (i := 11) rfl rfl ?_
   refine Yl.wp (S := fun wS => Mem w wS _) (v := .slice x.tA x.ts.length x.tc) (Yl.qk rfl rfl (by kernel_rfl) (fun _ h => h.cell (i := 4) rfl (rfl))) M O rfl (by decide) fun a M => ?_
   refine keepS Z (fun Z => ?_)
   exact M8_4 _ _ ⟨A26, c26, A29, c29, M.sub (by kernel_rfl), O.pt 5 [0, 1, 2, 3, 4], hc26, hc29⟩
  refine all_cons ?_ ?_
  ·refine qq M (i := 7) rfl rfl ?_
   refine Yl.wp (S := fun wS => Mem w wS _) (v := .slice x.uA x.cu.length x.uc) (Yl.qk rfl rfl (by kernel_rfl) (fun _ h => h.cell (i := 3) rfl (rfl))) M O rfl (by decide) fun a M => ?_
   refine keepS Z (fun Z => ?_)
   exact M8_6 _ _ ⟨A26, c26, M.sub (by kernel_rfl), O.pt 4 [0, 1, 2, 3], hc26⟩
  refine all_cons ?_ all_nil
  refine qq M (i := 11) rfl rfl ?_
  refine Yl.wp (S := fun wS => Mem w wS _) (v := .slice x.tA x.ts.length x.tc) (Yl.qk rfl rfl (by kernel_rfl) (fun _ h => h.cell (i := 3) rfl (rfl))) M O rfl (by decide) fun a M => ?_
  refine keepS Z (fun Z => ?_)
  exact M8_7 _ _ ⟨A26, c26, M.sub (by kernel_rfl), O.pt 4 [0, 1, 2, 3], hc26⟩
 refine qx (f := 15) (l := (bf 24 [0, 1, 2, 3, 6, 7, 9, 10, 13])) (fun aS wS => ∃ (A26 : Option Addr) (c26 : Nat), Fr aS 44 [] [(31, .slice x.uA x.cu.length x.uc), (26, .agg #[vI x.cpus, vQ x.credit, .slice A26 x.gs.length c26]), (37, .slice As z.length cs), (34, vP g1 5), (33, .slice none 0 0), (27, vP g1 3), (11, .bool false), (10, vI x.rs.length), (9, .slice x.sA x.rs.length x.sc), (8, vP g1 6), (7, vI i), (5, vI i), (4, .slice As z.length cs), (2, vP g2 0), (1, vP g1 0)] ∧ Mem w wS (.row (.slice A26 x.gs.length c26) x.gs.length (x.gs.flatMap grL) 40 2 :: .row (.slice As z.length cs) z.length (z.map Rw.val) 44 1 :: .blk g2 #[vI 0, vQ 0, .slice none 0 0, .slice none 0 0, .slice none 0 0, .slice none 0 0, .slice none 0 0] 30 :: .blk g1 x.cells 30 :: rwF 43 z) ∧ (x.gs.length ≤ c26)) ?_ fun M8_11 => ?_
 ·
  clear M O Z; rintro a wM ⟨A26, c26, M, O, hc26⟩
  have Z := O.pt (fs' := (.row (.slice As z.length cs) z.length (z.map Rw.val) 44 1 :: .blk g2 #[vI 0, vQ 0, .slice none 0 0, .slice none 0 0, .slice none 0 0, .slice none 0 0, .slice none 0 0] 30 :: rwF 43 z)) 4 [1, 2]
  refine qw [4, 11] (by kernel_rfl) rfl ?_
  refine all_cons ?_ ?_
  ·refine qq M (i := 4) rfl rfl ?_
   refine Yl.wp (S := fun wS => Mem w wS _) (v := .slice x.lA x.cl.length x.lc) (Yl.qk rfl rfl (by kernel_rfl) (fun _ h => h.cell (i := 3) rfl (rfl))) M O rfl (by decide) fun a M => ?_
   refine keepS Z (fun Z => ?_)
   exact M8_6 _ _ ⟨A26, c26, M.sub (by kernel_rfl), O.pt 4 [0, 1, 2, 3], hc26⟩
  refine all_cons ?_ all_nil
  refine qq M (i := 11) rfl rfl ?_
  refine Yl.wp (S := fun wS => Mem w wS _) (v := .slice x.tA x.ts.length x.tc) (Yl.qk rfl rfl (by kernel_rfl) (fun _ h => h.cell (i := 3) rfl (rfl))) M O rfl (by decide) fun a M => ?_
  refine keepS Z (fun Z => ?_)
  exact M8_8 _ _ ⟨A26, c26, M.sub (by kernel_rfl), O.pt 4 [0, 1, 2, 3], hc26⟩
 refine qx (f := 15) (l := (bf 24 [0, 1, 2, 3, 6, 9, 10, 11, 13])) (fun aS wS => ∃ (A26 : Option Addr) (c26 : Nat), Fr aS 44 [] [(35, .slice x.tA x.ts.length x.tc), (26, .agg #[vI x.cpus, vQ x.credit, .slice A26 x.gs.length c26]), (37, .slice As z.length cs), (33, .slice none 0 0), (30, vP g1 4), (27, vP g1 3), (11, .bool false), (10, vI x.rs.length), (9, .slice x.sA x.rs.length x.sc), (8, vP g1 6), (7, vI i), (5, vI i), (4, .slice As z.length cs), (2, vP g2 0), (1, vP g1 0)] ∧ Mem w wS (.row (.slice A26 x.gs.length c26) x.gs.length (x.gs.flatMap grL) 40 2 :: .row (.slice As z.length cs) z.length (z.map Rw.val) 44 1 :: .blk g2 #[vI 0, vQ 0, .slice none 0 0, .slice none 0 0, .slice none 0 0, .slice none 0 0, .slice none 0 0] 30 :: .blk g1 x.cells 30 :: rwF 43 z) ∧ (x.gs.length ≤ c26)) ?_ fun M8_12 => ?_
 ·
  clear M O Z; rintro a wM ⟨A26, c26, M, O, hc26⟩
  have Z := O.pt (fs' := (.row (.slice As z.length cs) z.length (z.map Rw.val) 44 1 :: .blk g2 #[vI 0, vQ 0, .slice none 0 0, .slice none 0 0, .slice none 0 0, .slice none 0 0, .slice none 0 0] 30 :: rwF 43 z)) 4 [1, 2]
  refine qw [4, 7] (by kernel_rfl) rfl ?_
  refine all_cons ?_ ?_
  ·refine qq M (i := 4) rfl rfl ?_
   refine Yl.wp (S := fun wS => Mem w wS _) (v := .slice x.lA x.cl.length x.lc) (Yl.qk rfl rfl (by kernel_rfl) (fun _ h => h.cell (i := 3) rfl (rfl))) M O rfl (by decide) fun a M => ?_
   refine keepS Z (fun Z => ?_)
   exact M8_7 _ _ ⟨A26, c26, M.sub (by kernel_rfl), O.pt 4 [0, 1, 2, 3], hc26⟩
  refine all_cons ?_ all_nil
  refine qq M (i := 7) rfl rfl ?_
  refine Yl.wp (S := fun wS => Mem w wS _) (v := .slice x.uA x.cu.length x.uc) (Yl.qk rfl rfl (by kernel_rfl) (fun _ h => h.cell (i := 3) rfl (rfl))) M O rfl (by decide) fun a M => ?_
  refine keepS Z (fun Z => ?_)
  exact M8_8 _ _ ⟨A26, c26, M.sub (by kernel_rfl), O.pt 4 [0, 1, 2, 3], hc26⟩
 refine qx (f := 15) (l := (bf 24 [0, 1, 3, 4, 6, 7, 9, 10, 13])) (fun aS wS => Fr aS 44 [] [(31, .slice x.uA x.cu.length x.uc), (28, .slice x.lA x.cl.length x.lc), (25, .agg #[vI x.cpus, vQ x.credit, .slice x.gA x.gs.length x.gc]), (37, .slice As z.length cs), (34, vP g1 5), (33, .slice none 0 0), (11, .bool false), (10, vI x.rs.length), (9, .slice x.sA x.rs.length x.sc), (8, vP g1 6), (7, vI i), (5, vI i), (4, .slice As z.length cs), (2, vP g2 0), (1, vP g1 0)] ∧ Mem w wS (.row (.slice As z.length cs) z.length (z.map Rw.val) 44 1 :: .blk g2 #[vI 0, vQ 0, .slice none 0 0, .slice none 0 0, .slice none 0 0, .slice none 0 0, .slice none 0 0] 30 :: .blk g1 x.cells 30 :: rwF 43 z)) ?_ fun M8_13 => ?_
 ·
  clear M O Z; rintro a wM ⟨M, O⟩
  have Z := O.pt (fs' := (.row (.slice As z.length cs) z.length (z.map Rw.val) 44 1 :: .blk g2 #[vI 0, vQ 0, .slice none 0 0, .slice none 0 0, .slice none 0 0, .slice none 0 0, .slice none 0 0] 30 :: rwF 43 z)) 3 [0, 1]
  refine qw [2, 11] (by kernel_rfl) rfl ?_
  refine all_cons ?_ ?_
  ·refine qq M (i := 2) rfl rfl ?_
   refine s_ek M O [.agg #[vI x.cpus, vQ x.credit, .slice x.gA x.gs.length x.gc]] (zi x _ (hx.old O) hf.g) fun A26 c26 w26 hc26 O a M => ?_
   refine keepS (O.pt 4 [1, 2]) (fun Z => ?_)
   exact M8_6 _ _ ⟨A26, c26, M.sub (by kernel_rfl), O.pt 4 [0, 1, 2, 3], hc26⟩
  refine all_cons ?_ all_nil
  refine qq M (i := 11) rfl rfl ?_
  refine Yl.wp (S := fun wS => Mem w wS _) (v := .slice x.tA x.ts.length x.tc) (Yl.qk rfl rfl (by kernel_rfl) (fun _ h => h.cell (i := 2) rfl (rfl))) M O rfl (by decide) fun a M => ?_
  refine keepS Z (fun Z => ?_)
  exact M8_9 _ _ ⟨M.sub (by kernel_rfl), O.pt 3 [0, 1, 2]⟩
 refine qx (f := 15) (l := (bf 24 [0, 1, 3, 4, 6, 9, 10, 11, 13])) (fun aS wS => Fr aS 44 [] [(35, .slice x.tA x.ts.length x.tc), (28, .slice x.lA x.cl.length x.lc), (25, .agg #[vI x.cpus, vQ x.credit, .slice x.gA x.gs.length x.gc]), (37, .slice As z.length cs), (33, .slice none 0 0), (30, vP g1 4), (11, .bool false), (10, vI x.rs.length), (9, .slice x.sA x.rs.length x.sc), (8, vP g1 6), (7, vI i), (5, vI i), (4, .slice As z.length cs), (2, vP g2 0), (1, vP g1 0)] ∧ Mem w wS (.row (.slice As z.length cs) z.length (z.map Rw.val) 44 1 :: .blk g2 #[vI 0, vQ 0, .slice none 0 0, .slice none 0 0, .slice none 0 0, .slice none 0 0, .slice none 0 0] 30 :: .blk g1 x.cells 30 :: rwF 43 z)) ?_ fun M8_14 => ?_
 ·
  clear M O Z; rintro a wM ⟨M, O⟩
  have Z := O.pt (fs' := (.row (.slice As z.length cs) z.length (z.map Rw.val) 44 1 :: .blk g2 #[vI 0, vQ 0, .slice none 0 0, .slice none 0 0, .slice none 0 0, .slice none 0 0, .slice none 0 0] 30 :: rwF 43 z)) 3 [0, 1]
  refine qw [2, 7] (by kernel_rfl) rfl ?_
  refine all_cons ?_ ?_
  ·refine qq M (i := 2) rfl rfl ?_
   refine s_ek M O [.agg #[vI x.cpus, vQ x.credit, .slice x.gA x.gs.length x.gc]] (zi x _ (hx.old O) hf.g) fun A26 c26 w26 hc26 O a M => ?_
   refine keepS (O.pt 4 [1, 2]) (fun Z => ?_)
   exact M8_7 _ _ ⟨A26, c26, M.sub (by kernel_rfl), O.pt 4 [0, 1, 2, 3], hc26⟩
  refine all_cons ?_ all_nil
  refine qq M (i := 7) rfl rfl ?_
  refine Yl.wp (S := fun wS => Mem w wS _) (v := .slice x.uA x.cu.length x.uc) (Yl.qk rfl rfl (by kernel_rfl) (fun _ h => h.cell (i := 2) rfl (rfl))) M O rfl (by decide) fun a M => ?_
  refine keepS Z (fun Z => ?_)
  exact M8_9 _ _ ⟨M.sub (by kernel_rfl), O.pt 3 [0, 1, 2]⟩
 refine qx (f := 15) (l := (bf 24 [0, 1, 3, 6, 7, 9, 10, 11, 13])) (fun aS wS => Fr aS 44 [] [(35, .slice x.tA x.ts.length x.tc), (31, .slice x.uA x.cu.length x.uc), (25, .agg #[vI x.cpus, vQ x.credit, .slice x.gA x.gs.length x.gc]), (37, .slice As z.length cs), (33, .slice none 0 0), (27, vP g1 3), (11, .bool false), (10, vI x.rs.length), (9, .slice x.sA x.rs.length x.sc), (8, vP g1 6), (7, vI i), (5, vI i), (4, .slice As z.length cs), (2, vP g2 0), (1, vP g1 0)] ∧ Mem w wS (.row (.slice As z.length cs) z.length (z.map Rw.val) 44 1 :: .blk g2 #[vI 0, vQ 0, .slice none 0 0, .slice none 0 0, .slice none 0 0, .slice none 0 0, .slice none 0 0] 30 :: .blk g1 x.cells 30 :: rwF 43 z)) ?_ fun M8_15 => ?_
 ·
  clear M O Z; rintro a wM ⟨M, O⟩
  have Z := O.pt (fs' := (.row (.slice As z.length cs) z.length (z.map Rw.val) 44 1 :: .blk g2 #[vI 0, vQ 0, .slice none 0 0, .slice none 0 0, .slice none 0 0, .slice none 0 0, .slice none 0 0] 30 :: rwF 43 z)) 3 [0, 1]
  refine qw [2, 4] (by kernel_rfl) rfl ?_
  refine all_cons ?_ ?_
  ·refine qq M (i := 2) rfl rfl ?_
   refine s_ek M O [.agg #[vI x.cpus, vQ x.credit, .slice x.gA x.gs.length x.gc]] (zi x _ (hx.old O) hf.g) fun A26 c26 w26 hc26 O a M => ?_
   refine keepS (O.pt 4 [1, 2]) (fun Z => ?_)
   exact M8_8 _ _ ⟨A26, c26, M.sub (by kernel_rfl), O.pt 4 [0, 1, 2, 3], hc26⟩
  refine all_cons ?_ all_nil
  refine qq M (i := 4) rfl rfl ?_
  refine Yl.wp (S := fun wS => Mem w wS _) (v := .slice x.lA x.cl.length x.lc) (Yl.qk rfl rfl (by kernel_rfl) (fun _ h => h.cell (i := 2) rfl (rfl))) M O rfl (by decide) fun a M => ?_
  refine keepS Z (fun Z => ?_)
  exact M8_9 _ _ ⟨M.sub (by kernel_rfl), O.pt 3 [0, 1, 2]⟩
 refine qx (f := 15) (l := (bf 24 [0, 3, 4, 6, 7, 9, 10, 11, 13])) (fun aS wS => Fr aS 44 [] [(35, .slice x.tA x.ts.length x.tc), (31, .slice x.uA x.cu.length x.uc), (28, .slice x.lA x.cl.length x.lc), (37, .slice As z.length cs), (33, .slice none 0 0), (24, vP g1 0), (11, .bool false), (10, vI x.rs.length), (9, .slice x.sA x.rs.length x.sc), (8, vP g1 6), (7, vI i), (5, vI i), (4, .slice As z.length cs), (2, vP g2 0), (1, vP g1 0)] ∧ Mem w wS (.row (.slice As z.length cs) z.length (z.map Rw.val) 44 1 :: .blk g2 #[vI 0, vQ 0, .slice none 0 0, .slice none 0 0, .slice none 0 0, .slice none 0 0, .slice none 0 0] 30 :: .blk g1 x.cells 30 :: rwF 43 z)) ?_ fun M8_16 => ?_
 ·
  clear M O Z; rintro a wM ⟨M, O⟩
  have Z := O.pt (fs' := (.row (.slice As z.length cs) z.length (z.map Rw.val) 44 1 :: .blk g2 #[vI 0, vQ 0, .slice none 0 0, .slice none 0 0, .slice none 0 0, .slice none 0 0, .slice none 0 0] 30 :: rwF 43 z)) 3 [0, 1]
  refine s_on M 1 rfl ?_
  refine Yl.wp (S := fun wS => Mem w wS _) (v := .agg #[vI x.cpus, vQ x.credit, .slice x.gA x.gs.length x.gc]) (Yl.qt rfl rfl qbo rfl (fun _ h => h.sub (i := 2) rfl 0 rfl)) M O rfl (by decide) fun a M => ?_
  refine keepS Z (fun Z => ?_)
  exact M8_9 _ _ ⟨M.sub (by kernel_rfl), O.pt 3 [0, 1, 2]⟩
 refine qx (f := 16) (l := (bf 24 [0, 1, 3, 4, 6, 9, 10, 13])) (fun aS wS => Fr aS 44 [] [(28, .slice x.lA x.cl.length x.lc), (25, .agg #[vI x.cpus, vQ x.credit, .slice x.gA x.gs.length x.gc]), (37, .slice As z.length cs), (34, vP g1 5), (33, .slice none 0 0), (30, vP g1 4), (11, .bool false), (10, vI x.rs.length), (9, .slice x.sA x.rs.length x.sc), (8, vP g1 6), (7, vI i), (5, vI i), (4, .slice As z.length cs), (2, vP g2 0), (1, vP g1 0)] ∧ Mem w wS (.row (.slice As z.length cs) z.length (z.map Rw.val) 44 1 :: .blk g2 #[vI 0, vQ 0, .slice none 0 0, .slice none 0 0, .slice none 0 0, .slice none 0 0, .slice none 0 0] 30 :: .blk g1 x.cells 30 :: rwF 43 z)) ?_ fun M8_17 => ?_
 ·
  clear M O Z; rintro a wM ⟨M, O⟩
  have Z := O.pt (fs' := (.row (.slice As z.length cs) z.length (z.map Rw.val) 44 1 :: .blk g2 #[vI 0, vQ 0, .slice none 0 0, .slice none 0 0, .slice none 0 0, .slice none 0 0, .slice none 0 0] 30 :: rwF 43 z)) 3 [0, 1]
  refine qw [2, 7, 11] (by kernel_rfl) rfl ?_
  refine all_cons ?_ ?_
  ·refine qq M (i := 2) rfl rfl ?_
   refine s_ek M O [.agg #[vI x.cpus, vQ x.credit, .slice x.gA x.gs.length x.gc]] (zi x _ (hx.old O) hf.g) fun A26 c26 w26 hc26 O a M => ?_
   refine keepS (O.pt 4 [1, 2]) (fun Z => ?_)
   exact M8_10 _ _ ⟨A26, c26, M.sub (by kernel_rfl), O.pt 4 [0, 1, 2, 3], hc26⟩
  refine all_cons ?_ ?_
  ·refine qq M (i := 7) rfl rfl ?_
   refine Yl.wp (S := fun wS => Mem w wS _) (v := .slice x.uA x.cu.length x.uc) (Yl.qk rfl rfl (by kernel_rfl) (fun _ h => h.cell (i := 2) rfl (rfl))) M O rfl (by decide) fun a M => ?_
   refine keepS Z (fun Z => ?_)
   exact M8_13 _ _ ⟨M.sub (by kernel_rfl), O.pt 3 [0, 1, 2]⟩
  refine all_cons ?_ all_nil
  refine qq M (i := 11) rfl rfl ?_
  refine Yl.wp (S := fun wS => Mem w wS _) (v := .slice x.tA x.ts.length x.tc) (Yl.qk rfl rfl (by kernel_rfl) (fun _ h => h.cell (i := 2) rfl (rfl))) M O rfl (by decide) fun a M => ?_
  refine keepS Z (fun Z => ?_)
  exact M8_14 _ _ ⟨M.sub (by kernel_rfl), O.pt 3 [0, 1, 2]⟩
 refine qx (f := 16) (l := (bf 24 [0, 1, 3, 6, 7, 9, 10, 13])) (fun aS wS => Fr aS 44 [] [(31, .slice x.uA x.cu.length x.uc), (25, .agg #[vI x.cpus, vQ x.credit, .slice x.gA x.gs.length x.gc]), (37, .slice As z.length cs), (34, vP g1 5), (33, .slice none 0 0), (27, vP g1 3), (11, .bool false), (10, vI x.rs.length), (9, .slice x.sA x.rs.length x.sc), (8, vP g1 6), (7, vI i), (5, vI i), (4, .slice As z.length cs), (2, vP g2 0), (1, vP g1 0)] ∧ Mem w wS (.row (.slice As z.length cs) z.length (z.map Rw.val) 44 1 :: .blk g2 #[vI 0, vQ 0, .slice none 0 0, .slice none 0 0, .slice none 0 0, .slice none 0 0, .slice none 0 0] 30 :: .blk g1 x.cells 30 :: rwF 43 z)) ?_ fun M8_18 => ?_
 ·
  clear M O Z; rintro a wM ⟨M, O⟩
  have Z := O.pt (fs' := (.row (.slice As z.length cs) z.length (z.map Rw.val) 44 1 :: .blk g2 #[vI 0, vQ 0, .slice none 0 0, .slice none 0 0, .slice none 0 0, .slice none 0 0, .slice none 0 0] 30 :: rwF 43 z)) 3 [0, 1]
  refine qw [2, 4, 11] (by kernel_rfl) rfl ?_
  refine all_cons ?_ ?_
  ·refine qq M (i := 2) rfl rfl ?_
   refine s_ek M O [.agg #[vI x.cpus, vQ x.credit, .slice x.gA x.gs.length x.gc]] (zi x _ (hx.old O) hf.g) fun A26 c26 w26 hc26 O a M => ?_
   refine keepS (O.pt 4 [1, 2]) (fun Z => ?_)
   exact M8_11 _ _ ⟨A26, c26, M.sub (by kernel_rfl), O.pt 4 [0, 1, 2, 3], hc26⟩
  refine all_cons ?_ ?_
  ·refine qq M (i := 4) rfl rfl ?_
   refine Yl.wp (S := fun wS => Mem w wS _) (v := .slice x.lA x.cl.length x.lc) (Yl.qk rfl rfl (by kernel_rfl) (fun _ h => h.cell (i := 2) rfl (rfl))) M O rfl (by decide) fun a M => ?_
   refine keepS Z (fun Z => ?_)
   exact M8_13 _ _ ⟨M.sub (by kernel_rfl), O.pt 3 [0, 1, 2]⟩
  refine all_cons ?_ all_nil
  refine qq M (i := 11) rfl rfl ?_
  refine Yl.wp (S := fun wS => Mem w wS _) (v := .slice x.tA x.ts.length x.tc) (Yl.qk rfl rfl (by kernel_rfl) (fun _ h => h.cell (i := 2) rfl (rfl))) M O rfl (by decide) fun a M => ?_
  refine keepS Z (fun Z => ?_)
  exact M8_15 _ _ ⟨M.sub (by kernel_rfl), O.pt 3 [0, 1, 2]⟩
 refine qx (f := 16) (l := (bf 24 [0, 1, 3, 6, 9, 10, 11, 13])) (fun aS wS => Fr aS 44 [] [(35, .slice x.tA x.ts.length x.tc), (25, .agg #[vI x.cpus, vQ x.credit, .slice x.gA x.gs.length x.gc]), (37, .slice As z.length cs), (33, .slice none 0 0), (30, vP g1 4), (27, vP g1 3), (11, .bool false), (10, vI x.rs.length), (9, .slice x.sA x.rs.length x.sc), (8, vP g1 6), (7, vI i), (5, vI i), (4, .slice As z.length cs), (2, vP g2 0), (1, vP g1 0)] ∧ Mem w wS (.row (.slice As z.length cs) z.length (z.map Rw.val) 44 1 :: .blk g2 #[vI 0, vQ 0, .slice none 0 0, .slice none 0 0, .slice none 0 0, .slice none 0 0, .slice none 0 0] 30 :: .blk g1 x.cells 30 :: rwF 43 z)) ?_ fun M8_19 => ?_
 ·
  clear M O Z; rintro a wM ⟨M, O⟩
  have Z := O.pt (fs' := (.row (.slice As z.length cs) z.length (z.map Rw.val) 44 1 :: .blk g2 #[vI 0, vQ 0, .slice none 0 0, .slice none 0 0, .slice none 0 0, .slice none 0 0, .slice none 0 0] 30 :: rwF 43 z)) 3 [0, 1]
  refine qw [2, 4, 7] (by kernel_rfl) rfl ?_
  refine all_cons ?_ ?_
  ·refine qq M (i := 2) rfl rfl ?_
   refine s_ek M O [.agg #[vI x.cpus, vQ x.credit, .slice x.gA x.gs.length x.gc]] (zi x _ (hx.old O) hf.g) fun A26 c26 w26 hc26 O a M => ?_
   refine keepS (O.pt 4 [1, 2]) (fun Z => ?_)
   exact M8_12 _ _ ⟨A26, c26, M.sub (by kernel_rfl), O.pt 4 [0, 1, 2, 3], hc26⟩
  refine all_cons ?_ ?_
  ·refine qq M (i := 4) rfl rfl ?_
   refine Yl.wp (S := fun wS => Mem w wS _) (v := .slice x.lA x.cl.length x.lc) (Yl.qk rfl rfl (by kernel_rfl) (fun _ h => h.cell (i := 2) rfl (rfl))) M O rfl (by decide) fun a M => ?_
   refine keepS Z (fun Z => ?_)
   exact M8_14 _ _ ⟨M.sub (by kernel_rfl), O.pt 3 [0, 1, 2]⟩
  refine all_cons ?_ all_nil
  refine qq M (i := 7) rfl rfl ?_
  refine Yl.wp (S := fun wS => Mem w wS _) (v := .slice x.uA x.cu.length x.uc) (Yl.qk rfl rfl (by kernel_rfl) (fun _ h => h.cell (i := 2) rfl (rfl))) M O rfl (by decide) fun a M => ?_
  refine keepS Z (fun Z => ?_)
  exact M8_15 _ _ ⟨M.sub (by kernel_rfl), O.pt 3 [0, 1, 2]⟩
 refine qx (f := 16) (l := (bf 24 [0, 3, 4, 6, 7, 9, 10, 13])) (fun aS wS => Fr aS 44 [] [(31, .slice x.uA x.cu.length x.uc), (28, .slice x.lA x.cl.length x.lc), (37, .slice As z.length cs), (34, vP g1 5), (33, .slice none 0 0), (24, vP g1 0), (11, .bool false), (10, vI x.rs.length), (9, .slice x.sA x.rs.length x.sc), (8, vP g1 6), (7, vI i), (5, vI i), (4, .slice As z.length cs), (2, vP g2 0), (1, vP g1 0)] ∧ Mem w wS (.row (.slice As z.length cs) z.length (z.map Rw.val) 44 1 :: .blk g2 #[vI 0, vQ 0, .slice none 0 0, .slice none 0 0, .slice none 0 0, .slice none 0 0, .slice none 0 0] 30 :: .blk g1 x.cells 30 :: rwF 43 z)) ?_ fun M8_20 => ?_
 ·
  clear M O Z; rintro a wM ⟨M, O⟩
  have Z := O.pt (fs' := (.row (.slice As z.length cs) z.length (z.map Rw.val) 44 1 :: .blk g2 #[vI 0, vQ 0, .slice none 0 0, .slice none 0 0, .slice none 0 0, .slice none 0 0, .slice none 0 0] 30 :: rwF 43 z)) 3 [0, 1]
  refine qw [1, 11] (by kernel_rfl) rfl ?_
  refine all_cons ?_ ?_
  ·refine qq M (i := 1) rfl rfl ?_
   refine Yl.wp (S := fun wS => Mem w wS _) (v := .agg #[vI x.cpus, vQ x.credit, .slice x.gA x.gs.length x.gc]) (Yl.qt rfl rfl qbo rfl (fun _ h => h.sub (i := 2) rfl 0 rfl)) M O rfl (by decide) fun a M => ?_
   refine keepS Z (fun Z => ?_)
   exact M8_13 _ _ ⟨M.sub (by kernel_rfl), O.pt 3 [0, 1, 2]⟩
  refine all_cons ?_ all_nil
  refine qq M (i := 11) rfl rfl ?_
  refine Yl.wp (S := fun wS => Mem w wS _) (v := .slice x.tA x.ts.length x.tc) (Yl.qk rfl rfl (by kernel_rfl) (fun _ h => h.cell (i := 2) rfl (rfl))) M O rfl (by decide) fun a M => ?_
  refine keepS Z (fun Z => ?_)
  exact M8_16 _ _ ⟨M.sub (by kernel_rfl), O.pt 3 [0, 1, 2]⟩
 refine qx (f := 16) (l := (bf 24 [0, 3, 4, 6, 9, 10, 11, 13])) (fun aS wS => Fr aS 44 [] [(35, .slice x.tA x.ts.length x.tc), (28, .slice x.lA x.cl.length x.lc), (37, .slice As z.length cs), (33, .slice none 0 0), (30, vP g1 4), (24, vP g1 0), (11, .bool false), (10, vI x.rs.length), (9, .slice x.sA x.rs.length x.sc), (8, vP g1 6), (7, vI i), (5, vI i), (4, .slice As z.length cs), (2, vP g2 0), (1, vP g1 0)] ∧ Mem w wS (.row (.slice As z.length cs) z.length (z.map Rw.val) 44 1 :: .blk g2 #[vI 0, vQ 0, .slice none 0 0, .slice none 0 0, .slice none 0 0, .slice none 0 0, .slice none 0 0] 30 :: .blk g1 x.cells 30 :: rwF 43 z)) ?_ fun M8_21 => ?_
 ·
  clear M O Z; rintro a wM ⟨M, O⟩
  have Z := O.pt (fs' := (.row (.slice As z.length cs) z.length (z.map Rw.val) 44 1 :: .blk g2 #[vI 0, vQ 0, .slice none 0 0, .slice none 0 0, .slice none 0 0, .slice none 0 0, .slice none 0 0] 30 :: rwF 43 z)) 3 [0, 1]
  refine qw [1, 7] (by kernel_rfl) rfl ?_
  refine all_cons ?_ ?_
  ·refine qq M (i := 1) rfl rfl ?_
   refine Yl.wp (S := fun wS => Mem w wS _) (v := .agg #[vI x.cpus, vQ x.credit, .slice x.gA x.gs.length x.gc]) (Yl.qt rfl rfl qbo rfl (fun _ h => h.sub (i := 2) rfl 0 rfl)) M O rfl (by decide) fun a M => ?_
   refine keepS Z (fun Z => ?_)
   exact M8_14 _ _ ⟨M.sub (by kernel_rfl), O.pt 3 [0, 1, 2]⟩
  refine all_cons ?_ all_nil
  refine qq M (i := 7) rfl rfl ?_
  refine Yl.wp (S := fun wS => Mem w wS _) (v := .slice x.uA x.cu.length x.uc) (Yl.qk rfl rfl (by kernel_rfl) (fun _ h => h.cell (i := 2) rfl (rfl))) M O rfl (by decide) fun a M => ?_
  refine keepS Z (fun Z => ?_)
  exact M8_16 _ _ ⟨M.sub (by kernel_rfl), O.pt 3 [0, 1, 2]⟩
 refine qx (f := 16) (l := (bf 24 [0, 3, 6, 7, 9, 10, 11, 13])) (fun aS wS => Fr aS 44 [] [(35, .slice x.tA x.ts.length x.tc), (31, .slice x.uA x.cu.length x.uc), (37, .slice As z.length cs), (33, .slice none 0 0), (27, vP g1 3), (24, vP g1 0), (11, .bool false), (10, vI x.rs.length), (9, .slice x.sA x.rs.length x.sc), (8, vP g1 6), (7, vI i), (5, vI i), (4, .slice As z.length cs), (2, vP g2 0), (1, vP g1 0)] ∧ Mem w wS (.row (.slice As z.length cs) z.length (z.map Rw.val) 44 1 :: .blk g2 #[vI 0, vQ 0, .slice none 0 0, .slice none 0 0, .slice none 0 0, .slice none 0 0, .slice none 0 0] 30 :: .blk g1 x.cells 30 :: rwF 43 z)) ?_ fun M8_22 => ?_
 ·
  clear M O Z; rintro a wM ⟨M, O⟩
  have Z := O.pt (fs' := (.row (.slice As z.length cs) z.length (z.map Rw.val) 44 1 :: .blk g2 #[vI 0, vQ 0, .slice none 0 0, .slice none 0 0, .slice none 0 0, .slice none 0 0, .slice none 0 0] 30 :: rwF 43 z)) 3 [0, 1]
  refine qw [1, 4] (by kernel_rfl) rfl ?_
  refine all_cons ?_ ?_
  ·refine qq M (i := 1) rfl rfl ?_
   refine Yl.wp (S := fun wS => Mem w wS _) (v := .agg #[vI x.cpus, vQ x.credit, .slice x.gA x.gs.length x.gc]) (Yl.qt rfl rfl qbo rfl (fun _ h => h.sub (i := 2) rfl 0 rfl)) M O rfl (by decide) fun a M => ?_
   refine keepS Z (fun Z => ?_)
   exact M8_15 _ _ ⟨M.sub (by kernel_rfl), O.pt 3 [0, 1, 2]⟩
  refine all_cons ?_ all_nil
  refine qq M (i := 4) rfl rfl ?_
  refine Yl.wp (S := fun wS => Mem w wS _) (v := .slice x.lA x.cl.length x.lc) (Yl.qk rfl rfl (by kernel_rfl) (fun _ h => h.cell (i := 2) rfl (rfl))) M O rfl (by decide) fun a M => ?_
  refine keepS Z (fun Z => ?_)
  exact M8_16 _ _ ⟨M.sub (by kernel_rfl), O.pt 3 [0, 1, 2]⟩
 refine ap M (fun _ => Z) [0, 3, 6, 9, 10, 13] (bf 24 [0, 3, 6, 9, 10, 13]) [(37, .slice As z.length cs), (34, vP g1 5), (33, .slice none 0 0), (30, vP g1 4), (27, vP g1 3), (24, vP g1 0)] fun a M => ?_
 refine qw [1, 4, 7, 11] (by kernel_rfl) rfl ?_
 refine all_cons ?_ ?_
 ·refine qq M (i := 1) rfl rfl ?_
  refine Yl.wp (S := fun wS => Mem w wS _) (v := .agg #[vI x.cpus, vQ x.credit, .slice x.gA x.gs.length x.gc]) (Yl.qt rfl rfl qbo rfl (fun _ h => h.sub (i := 2) rfl 0 rfl)) M O rfl (by decide) fun a M => ?_
  refine keepS Z (fun Z => ?_)
  refine qw [2, 4, 7, 11] (by kernel_rfl) rfl ?_
  refine all_cons ?_ ?_
  ·refine qq M (i := 2) rfl rfl ?_
   refine s_ek M O [.agg #[vI x.cpus, vQ x.credit, .slice x.gA x.gs.length x.gc]] (zi x _ (hx.old O) hf.g) fun A26 c26 w26 hc26 O a M => ?_
   refine keepS (O.pt 4 [1, 2]) (fun Z => ?_)
   refine qw [4, 7, 11] (by kernel_rfl) rfl ?_
   refine all_cons ?_ ?_
   ·refine qq M (i := 4) rfl rfl ?_
    refine Yl.wp (S := fun wS => Mem w wS _) (v := .slice x.lA x.cl.length x.lc) (Yl.qk rfl rfl (by kernel_rfl) (fun _ h => h.cell (i := 3) rfl (rfl))) M O rfl (by decide) fun a M => ?_
    refine keepS Z (fun Z => ?_)
    exact M8_10 _ _ ⟨A26, c26, M.sub (by kernel_rfl), O.pt 4 [0, 1, 2, 3], hc26⟩
   refine all_cons ?_ ?_
   ·refine qq M (i := 7) rfl rfl ?_
    refine Yl.wp (S := fun wS => Mem w wS _) (v := .slice x.uA x.cu.length x.uc) (Yl.qk rfl rfl (by kernel_rfl) (fun _ h => h.cell (i := 3) rfl (rfl))) M O rfl (by decide) fun a M => ?_
    refine keepS Z (fun Z => ?_)
    exact M8_11 _ _ ⟨A26, c26, M.sub (by kernel_rfl), O.pt 4 [0, 1, 2, 3], hc26⟩
   refine all_cons ?_ all_nil
   refine qq M (i := 11) rfl rfl ?_
   refine Yl.wp (S := fun wS => Mem w wS _) (v := .slice x.tA x.ts.length x.tc) (Yl.qk rfl rfl (by kernel_rfl) (fun _ h => h.cell (i := 3) rfl (rfl))) M O rfl (by decide) fun a M => ?_
   refine keepS Z (fun Z => ?_)
   exact M8_12 _ _ ⟨A26, c26, M.sub (by kernel_rfl), O.pt 4 [0, 1, 2, 3], hc26⟩
  refine all_cons ?_ ?_
  ·refine qq M (i := 4) rfl rfl ?_
   refine Yl.wp (S := fun wS => Mem w wS _) (v := .slice x.lA x.cl.length x.lc) (Yl.qk rfl rfl (by kernel_rfl) (fun _ h => h.cell (i := 2) rfl (rfl))) M O rfl (by decide) fun a M => ?_
   refine keepS Z (fun Z => ?_)
   exact M8_17 _ _ ⟨M.sub (by kernel_rfl), O.pt 3 [0, 1, 2]⟩
  refine all_cons ?_ ?_
  ·refine qq M (i := 7) rfl rfl ?_
   refine Yl.wp (S := fun wS => Mem w wS _) (v := .slice x.uA x.cu.length x.uc) (Yl.qk rfl rfl (by kernel_rfl) (fun _ h => h.cell (i := 2) rfl (rfl))) M O rfl (by decide) fun a M => ?_
   refine keepS Z (fun Z => ?_)
   exact M8_18 _ _ ⟨M.sub (by kernel_rfl), O.pt 3 [0, 1, 2]⟩
  refine all_cons ?_ all_nil
  refine qq M (i := 11) rfl rfl ?_
  refine Yl.wp (S := fun wS => Mem w wS _) (v := .slice x.tA x.ts.length x.tc) (Yl.qk rfl rfl (by kernel_rfl) (fun _ h => h.cell (i := 2) rfl (rfl))) M O rfl (by decide) fun a M => ?_
  refine keepS Z (fun Z => ?_)
  exact M8_19 _ _ ⟨M.sub (by kernel_rfl), O.pt 3 [0, 1, 2]⟩
 refine all_cons ?_ ?_
 ·refine qq M (i := 4) rfl rfl ?_
  refine Yl.wp (S := fun wS => Mem w wS _) (v := .slice x.lA x.cl.length x.lc) (Yl.qk rfl rfl (by kernel_rfl) (fun _ h => h.cell (i := 2) rfl (rfl))) M O rfl (by decide) fun a M => ?_
  refine keepS Z (fun Z => ?_)
  refine qw [1, 7, 11] (by kernel_rfl) rfl ?_
  refine all_cons ?_ ?_
  ·refine qq M (i := 1) rfl rfl ?_
   refine Yl.wp (S := fun wS => Mem w wS _) (v := .agg #[vI x.cpus, vQ x.credit, .slice x.gA x.gs.length x.gc]) (Yl.qt rfl rfl qbo rfl (fun _ h => h.sub (i := 2) rfl 0 rfl)) M O rfl (by decide) fun a M => ?_
   refine keepS Z (fun Z => ?_)
   exact M8_17 _ _ ⟨M.sub (by kernel_rfl), O.pt 3 [0, 1, 2]⟩
  refine all_cons ?_ ?_
  ·refine qq M (i := 7) rfl rfl ?_
   refine Yl.wp (S := fun wS => Mem w wS _) (v := .slice x.uA x.cu.length x.uc) (Yl.qk rfl rfl (by kernel_rfl) (fun _ h => h.cell (i := 2) rfl (rfl))) M O rfl (by decide) fun a M => ?_
   refine keepS Z (fun Z => ?_)
   exact M8_20 _ _ ⟨M.sub (by kernel_rfl), O.pt 3 [0, 1, 2]⟩
  refine all_cons ?_ all_nil
  refine qq M (i := 11) rfl rfl ?_
  refine Yl.wp (S := fun wS => Mem w wS _) (v := .slice x.tA x.ts.length x.tc) (Yl.qk rfl rfl (by kernel_rfl) (fun _ h => h.cell (i := 2) rfl (rfl))) M O rfl (by decide) fun a M => ?_
  refine keepS Z (fun Z => ?_)
  exact M8_21 _ _ ⟨M.sub (by kernel_rfl), O.pt 3 [0, 1, 2]⟩
 refine all_cons ?_ ?_
 ·refine qq M (i := 7) rfl rfl ?_
  refine Yl.wp (S := fun wS => Mem w wS _) (v := .slice x.uA x.cu.length x.uc) (Yl.qk rfl rfl (by kernel_rfl) (fun _ h => h.cell (i := 2) rfl (rfl))) M O rfl (by decide) fun a M => ?_
  refine keepS Z (fun Z => ?_)
  refine qw [1, 4, 11] (by kernel_rfl) rfl ?_
  refine all_cons ?_ ?_
  ·refine qq M (i := 1) rfl rfl ?_
   refine Yl.wp (S := fun wS => Mem w wS _) (v := .agg #[vI x.cpus, vQ x.credit, .slice x.gA x.gs.length x.gc]) (Yl.qt rfl rfl qbo rfl (fun _ h => h.sub (i := 2) rfl 0 rfl)) M O rfl (by decide) fun a M => ?_
   refine keepS Z (fun Z => ?_)
   exact M8_18 _ _ ⟨M.sub (by kernel_rfl), O.pt 3 [0, 1, 2]⟩
  refine all_cons ?_ ?_
  ·refine qq M (i := 4) rfl rfl ?_
   refine Yl.wp (S := fun wS => Mem w wS _) (v := .slice x.lA x.cl.length x.lc) (Yl.qk rfl rfl (by kernel_rfl) (fun _ h => h.cell (i := 2) rfl (rfl))) M O rfl (by decide) fun a M => ?_
   refine keepS Z (fun Z => ?_)
   exact M8_20 _ _ ⟨M.sub (by kernel_rfl), O.pt 3 [0, 1, 2]⟩
  refine all_cons ?_ all_nil
  refine qq M (i := 11) rfl rfl ?_
  refine Yl.wp (S := fun wS => Mem w wS _) (v := .slice x.tA x.ts.length x.tc) (Yl.qk rfl rfl (by kernel_rfl) (fun _ h => h.cell (i := 2) rfl (rfl))) M O rfl (by decide) fun a M => ?_
  refine keepS Z (fun Z => ?_)
  exact M8_22 _ _ ⟨M.sub (by kernel_rfl), O.pt 3 [0, 1, 2]⟩
 refine all_cons ?_ all_nil
 refine qq M (i := 11) rfl rfl ?_
 refine Yl.wp (S := fun wS => Mem w wS _) (v := .slice x.tA x.ts.length x.tc) (Yl.qk rfl rfl (by kernel_rfl) (fun _ h => h.cell (i := 2) rfl (rfl))) M O rfl (by decide) fun a M => ?_
 refine keepS Z (fun Z => ?_)
 refine qw [1, 4, 7] (by kernel_rfl) rfl ?_
 refine all_cons ?_ ?_
 ·refine qq M (i := 1) rfl rfl ?_
  refine Yl.wp (S := fun wS => Mem w wS _) (v := .agg #[vI x.cpus, vQ x.credit, .slice x.gA x.gs.length x.gc]) (Yl.qt rfl rfl qbo rfl (fun _ h => h.sub (i := 2) rfl 0 rfl)) M O rfl (by decide) fun a M => ?_
  refine keepS Z (fun Z => ?_)
  exact M8_19 _ _ ⟨M.sub (by kernel_rfl), O.pt 3 [0, 1, 2]⟩
 refine all_cons ?_ ?_
 ·refine qq M (i := 4) rfl rfl ?_
  refine Yl.wp (S := fun wS => Mem w wS _) (v := .slice x.lA x.cl.length x.lc) (Yl.qk rfl rfl (by kernel_rfl) (fun _ h => h.cell (i := 2) rfl (rfl))) M O rfl (by decide) fun a M => ?_
  refine keepS Z (fun Z => ?_)
  exact M8_21 _ _ ⟨M.sub (by kernel_rfl), O.pt 3 [0, 1, 2]⟩
 refine all_cons ?_ all_nil
 refine qq M (i := 7) rfl rfl ?_
 refine Yl.wp (S := fun wS => Mem w wS _) (v := .slice x.uA x.cu.length x.uc) (Yl.qk rfl rfl (by kernel_rfl) (fun _ h => h.cell (i := 2) rfl (rfl))) M O rfl (by decide) fun a M => ?_
 refine keepS Z (fun Z => ?_)
 exact M8_22 _ _ ⟨M.sub (by kernel_rfl), O.pt 3 [0, 1, 2]⟩
theorem qp1 (c : Nat) (hc : c < 4294967296) (A : Option Addr) (n cp : Nat) (l : List Nat) (B : Nat) (w : World) (hL : LaidX B w) (hB : B ≤ w.heap.size) (hr : Rd w w.heap.size 1 A n (l.map B8)) (hln : l.length = n) (hn : n ≤ 140737488355328) (hl : ∀ b ∈ l, b < 256) :
    Calls Tryz.prog 99 #[.int .u32 (c : Int), .slice A n cp] w (Is w (.int .u32 (qo c l : Int))) := by
 refine s_ce Tryz.func99 [vW c, .slice A n cp] [(0, vW c), (1, .slice A n cp)] fun a M => ?_
 have O := Mem.start w
 refine s_fs1 ?_
 refine fp M 1 0 [(4, vW 0)] fun a M => s_d0 (wp_seq (s_fs1 ?_))
 refine fp M 1 0 [(7, .slice A n cp)] fun a M => s_fl M 1 fun a M => ?_
 refine fp M 1 2 [(9, vI 0)] fun a M => s_d0 (wp_block ?_)
 refine qe (fun mS aS wS => ∃ (k : Nat), (k ≤ n) ∧ mS = n - k ∧ Fr aS 33 [] [(9, vI k), (8, vI n), (7, .slice A n cp), (4, vW 0), (0, vW (qo c (l.take k)))] ∧ Mem w wS []) (m := n - 0) ⟨0, Nat.zero_le _, rfl, M.sub (by kernel_rfl), O.pk []⟩ ?_
 clear M O; rintro mS a w_ ⟨k, hk, rfl, M, O⟩
 have hcr := qcu (l.take k) hc (qe6 hl k)
 refine s_fs1 ?_
 refine fp M 1 0 [(10, .bool (decide ((k : Int) < (n : Int))))] fun a M => s_d0 (wp_seq ?_)
 rcases M.tf 10 rfl with ⟨hb10, M⟩ | ⟨hb10, M⟩
 ·
  have hd10 := of_decide_eq_true hb10
  refine s_ct M (wp_skip (wp_seq (wp_block (s_fs1 ?_))))
  obtain ⟨gA, oA, rfl, _⟩ := hr.qi (Nat.lt_of_le_of_lt (Nat.zero_le _) (show k < n from by omega)) (by decide)
  refine s_fz M O 0 rfl (v := vP gA (oA + k * 1)) (Yl.ix gA oA k 1 rfl rfl rfl) fun a M => ?_
  have hx34 := getD_lt hl (k := k) (by first | omega | (simp; omega))
  refine s_fz M O 1 rfl (v := vB (l.getD k 0)) (Yl.o1 hr k 0 (by first | omega | (simp; omega)) rfl rfl) fun a M => ?_
  refine fp M 1 2 [(6, vB (l.getD k 0))] fun a M => s_d0 (s_fs1 ?_)
  refine fp M 3 0 [(15, vW (IntKind.u32.wrap ((l.getD k 0) : Int))), (13, vW (qo c (l.take k)))] fun a M => ?_
  replace M := M.sp 15 (vW (l.getD k 0)) rfl (qa3 rfl (by omega))
  refine fp M 1 3 [(16, vW (IntKind.u32.wrap (BitVec.ofInt (IntKind.u32).bits (qo c (l.take k) : Int) ^^^ BitVec.ofInt (IntKind.u32).bits ((l.getD k 0) : Int)).toNat))] fun a M => ?_
  replace M := M.sp 16 (vW ((qo c (l.take k)) ^^^ (l.getD k 0) : Nat)) rfl (qgk (m := qo c (l.take k)) (n := (l.getD k 0)) (by omega) (by omega))
  refine fp M 1 4 [(0, vW ((qo c (l.take k)) ^^^ (l.getD k 0) : Nat))] fun a M => s_d0 ?_
  have hy := qd6 hcr (show l.getD k 0 < 4294967296 by omega)
  refine s_fs1 ?_
  refine fp M 2 0 [(18, vW (Int.fdiv (((qo c (l.take k)) ^^^ (l.getD k 0) : Nat) : Int) (2 ^ (min (4 : Int).toNat (IntKind.u32).bits))))] fun a M => ?_
  replace M := M.sp 18 (vW (((qo c (l.take k)) ^^^ (l.getD k 0)) / 16 : Nat)) rfl (qd5 .u32 ((qo c (l.take k)) ^^^ (l.getD k 0)) (j := 4) (q := 16) rfl rfl)
  refine fp M 2 2 [(20, vW (IntKind.u32.wrap (BitVec.ofInt (IntKind.u32).bits (((qo c (l.take k)) ^^^ (l.getD k 0) : Nat) : Int) &&& BitVec.ofInt (IntKind.u32).bits 15).toNat))] fun a M => ?_
  replace M := M.sp 20 (vW (((qo c (l.take k)) ^^^ (l.getD k 0)) % 16 : Nat)) rfl (qm7 (n := 15) (j := 4) rfl (by decide) (by omega))
  refine s_fz M O 4 rfl (v := vP 0 ((((qo c (l.take k)) ^^^ (l.getD k 0)) % 16) * 1)) ((Yl.zp (ad := ⟨0, 0, none⟩) (m := 16) (y := ((qo c (l.take k)) ^^^ (l.getD k 0)) % 16) (sz := 1) rfl rfl rfl (by kernel_rfl) (by omega)).as (by rw [Addr.add_mid, Nat.zero_add])) fun a M => ?_
  refine s_fz M O 5 rfl (v := vW (qak.getD (((qo c (l.take k)) ^^^ (l.getD k 0)) % 16) 0)) (Yl.qk rfl rfl (by kernel_rfl) (fun _ h => qm8 hL h hB (k := (((qo c (l.take k)) ^^^ (l.getD k 0)) % 16)) (by omega))) fun a M => ?_
  refine fp M 1 6 [(23, vW (IntKind.u32.wrap (BitVec.ofInt (IntKind.u32).bits ((((qo c (l.take k)) ^^^ (l.getD k 0)) / 16 : Nat) : Int) ^^^ BitVec.ofInt (IntKind.u32).bits (qak.getD (((qo c (l.take k)) ^^^ (l.getD k 0)) % 16) 0 : Int)).toNat))] fun a M => ?_
  replace M := M.sp 23 (vW (nib (qo c (l.take k) ^^^ l.getD k 0))) rfl (by have h := qgk (m := (qo c (l.take k) ^^^ l.getD k 0) / 16) (n := qak.getD ((qo c (l.take k) ^^^ l.getD k 0) % 16) 0) (by omega) (qgn _ (by omega)); exact h)
  refine fp M 1 7 [(0, vW (nib (qo c (l.take k) ^^^ l.getD k 0)))] fun a M => s_d0 ?_
  have hz := q09 hy
  refine qa ?_
  refine fp M 2 0 [(25, vW (Int.fdiv (nib (qo c (l.take k) ^^^ l.getD k 0) : Int) (2 ^ (min (4 : Int).toNat (IntKind.u32).bits))))] fun a M => ?_
  replace M := M.sp 25 (vW ((nib (qo c (l.take k) ^^^ l.getD k 0)) / 16 : Nat)) rfl (qd5 .u32 (nib (qo c (l.take k) ^^^ l.getD k 0)) (j := 4) (q := 16) rfl rfl)
  refine fp M 2 2 [(27, vW (IntKind.u32.wrap (BitVec.ofInt (IntKind.u32).bits (nib (qo c (l.take k) ^^^ l.getD k 0) : Int) &&& BitVec.ofInt (IntKind.u32).bits 15).toNat))] fun a M => ?_
  replace M := M.sp 27 (vW ((nib (qo c (l.take k) ^^^ l.getD k 0)) % 16 : Nat)) rfl (qm7 (n := 15) (j := 4) rfl (by decide) (by omega))
  refine s_fz M O 4 rfl (v := vP 0 (((nib (qo c (l.take k) ^^^ l.getD k 0)) % 16) * 1)) ((Yl.zp (ad := ⟨0, 0, none⟩) (m := 16) (y := (nib (qo c (l.take k) ^^^ l.getD k 0)) % 16) (sz := 1) rfl rfl rfl (by kernel_rfl) (by omega)).as (by rw [Addr.add_mid, Nat.zero_add])) fun a M => ?_
  refine s_fz M O 5 rfl (v := vW (qak.getD ((nib (qo c (l.take k) ^^^ l.getD k 0)) % 16) 0)) (Yl.qk rfl rfl (by kernel_rfl) (fun _ h => qm8 hL h hB (k := ((nib (qo c (l.take k) ^^^ l.getD k 0)) % 16)) (by omega))) fun a M => ?_
  refine fp M 1 6 [(30, vW (IntKind.u32.wrap (BitVec.ofInt (IntKind.u32).bits (((nib (qo c (l.take k) ^^^ l.getD k 0)) / 16 : Nat) : Int) ^^^ BitVec.ofInt (IntKind.u32).bits (qak.getD ((nib (qo c (l.take k) ^^^ l.getD k 0)) % 16) 0 : Int)).toNat))] fun a M => ?_
  replace M := M.sp 30 (vW (qo c (l.take (k + 1)))) rfl (by have h := qgk (m := nib (qo c (l.take k) ^^^ l.getD k 0) / 16) (n := qak.getD (nib (qo c (l.take k) ^^^ l.getD k 0) % 16) 0) (by omega) (qgn _ (by omega)); rw [qgo (by omega)]; exact h)
  refine fp M 1 7 [(0, vW (qo c (l.take (k + 1))))] fun a M => s_d0 (qa ?_)
  refine fp M 1 0 [(31, vI (IntKind.i64.wrap ((k : Int) + 1)))] fun a M => ?_
  replace M := M.sp 31 (vI (k + 1 : Nat)) rfl (qc (by omega) (by omega))
  refine fp M 1 1 [(9, vI (k + 1 : Nat))] fun a M => s_d0 ?_
  exact ⟨_, (by omega), k + 1, by omega, rfl, M.sub (by kernel_rfl), O.pk []⟩
 have hd10 := of_decide_eq_false hb10
 obtain rfl : n = k := by omega
 refine s_cf M (wp_exit (s_fs1 ?_))
 refine fp M 2 0 [(4, vW (qo c (l.take n)))] fun a M => s_d0 (wp_ret ?_)
 exact s_rt1 rfl M rfl (⟨by rw [List.take_of_length_le (by omega)], O.below⟩)
theorem qp2 (c : Nat) (hc0 : c < 4294967296) (A : Option Addr) (n cp : Nat) (l : List Nat) (B : Nat) (w : World) (hL : LaidX B w) (hB : B ≤ w.heap.size) (hr : Rd w w.heap.size 1 A n (l.map B8)) (hln : l.length = n) (hn : n ≤ 140737488355328) (hl : ∀ b ∈ l, b < 256) :
    Calls Tryz.prog 70 #[.int .u32 (c : Int), .slice A n cp] w (Is w (.int .u32 ((qo (c ^^^ 4294967295) l ^^^ 4294967295 : Nat) : Int))) := by
 refine s_ce Tryz.func70 [vW c, .slice A n cp] [(0, vW c), (1, .slice A n cp)] fun a M => ?_
 have O := Mem.start w
 refine s_fs1 ?_
 refine fp M 1 0 [(4, vW 0)] fun a M => s_d0 ?_
 have hc := qd6 hc0 (show 4294967295 < 4294967296 by decide)
 have hcr := qcu l hc hl
 refine s_fs1 ?_
 refine fp M 1 0 [(5, vW c)] fun a M => s_fz M O 1 rfl (v := vW (c ^^^ 4294967295 : Nat)) (Yl.q2w (m := c) rfl rfl (by omega)) fun a M => ?_
 refine fp M 1 2 [(7, .slice A n cp)] fun a M => fo M 3 rfl rfl (e_is M O [vW (c ^^^ 4294967295 : Nat), .slice A n cp] (vW (qo (c ^^^ 4294967295) l)) rfl rfl (qp1 _ hc _ _ _ l B _ (hL.mem O hB) (O.le hB) (O.old hr) hln hn hl) fun w8 hbw O a M => ?_)
 refine s_fz M O 4 rfl (v := vW ((qo (c ^^^ 4294967295) l) ^^^ 4294967295 : Nat)) (Yl.q2w (m := qo (c ^^^ 4294967295) l) rfl rfl (by omega)) fun a M => ?_
 refine fp M 1 5 [(4, vW ((qo (c ^^^ 4294967295) l) ^^^ 4294967295 : Nat))] fun a M => s_d0 (wp_ret ?_)
 exact s_rt1 rfl M rfl (⟨rfl, O.below⟩)
theorem qp3 (A : Option Addr) (n cp : Nat) (l : List Nat) (B : Nat) (w : World) (hL : LaidX B w) (hB : B ≤ w.heap.size) (hr : Rd w w.heap.size 1 A n (l.map B8)) (hln : l.length = n) (hn : n ≤ 140737488355328) (hl : ∀ b ∈ l, b < 256) :
    Calls Tryz.prog 35 #[.slice A n cp] w (Is w (.int .u32 (qu l : Int))) := by
 refine s_ce Tryz.func35 [.slice A n cp] [(0, .slice A n cp)] fun a M => ?_
 have O := Mem.start w
 refine s_fs1 ?_
 refine fp M 1 0 [(2, vW 0)] fun a M => s_d0 (s_fs1 ?_)
 refine fp M 1 0 [(3, .slice A n cp)] fun a M => fo M 1 rfl rfl ?_
 refine e_cl M [vW 0, .slice A n cp] rfl rfl (qp2 0 (by decide) _ _ _ l B _ (hL.mem O hB) (O.le hB) (O.old hr) hln hn hl) ?_
 rintro _ w4 ⟨rfl, hbw⟩
 rw [show (qo (0 ^^^ 4294967295) l ^^^ 4294967295 : Nat) = qu l from qux (qcu l (by decide) hl)]
 refine ⟨_, rfl, ?_⟩
 replace O := O.call hbw
 clear M; intro a M
 refine fp M 1 2 [(2, vW (qu l))] fun a M => s_d0 (wp_ret ?_)
 exact s_rt1 rfl M rfl (⟨rfl, O.below⟩)
theorem qtr : SI Tryz.prog 82 3 := ⟨by kernel_rfl, by kernel_rfl⟩
theorem qoh : EI Tryz.prog 73 82 (.agg #[.string (ByteArray.mk #[]), .int .i64 0, .int .i64 0]) 3 32 := ⟨by kernel_rfl, by kernel_rfl, rfl, by omega⟩
def markB (k : Nat) : Nat := (8000024 + k) * 11400714819323198485 % 18446744073709551616 / 72057594037927936
def marks (k : Nat) : List Nat := (List.range k).map markB
theorem qqh (k : Nat) : marks (k + 1) = marks k ++ [markB k] := by unfold marks; rw [List.range_succ, List.map_append]; rfl
theorem qwx (k : Nat) : markB k < 256 := by unfold markB; omega
def q2e (w : World) (l : List Nat) (r : Ending) (w' : World) : Prop :=
 (∃ A c, r = .returned (.slice A l.length c) ∧ w'.ownsRow w.heap.size 5 1 (.slice A (l.length + 12) c) (l.length + 12) ((l ++ marks 12).map B8) ∧ l.length + 12 ≤ c) ∧ Below w.heap.size w w'
theorem qwy (k : Nat) (hk : k ≤ 1000) : IntKind.u64.wrap ((8000024 + k : Nat) : Int) = ((8000024 + k : Nat) : Int) := by rw [IntKind.wrap_u64]; omega
theorem qwz (k : Nat) : IntKind.u64.wrap (((8000024 + k : Nat) : Int) * 11400714819323198485) = (((8000024 + k) * 11400714819323198485 % 18446744073709551616 : Nat) : Int) := by rw [IntKind.wrap_u64]; omega
theorem qw0 (x : Nat) : Int.fdiv (x : Int) (2 ^ (min (56 : Int).toNat (IntKind.u64).bits)) = ((x / 72057594037927936 : Nat) : Int) := by
 rw [show (2 : Int) ^ (min (56 : Int).toNat (IntKind.u64).bits) = 72057594037927936 from by decide, Int.fdiv_eq_ediv_of_nonneg _ (by decide)]
 rfl
theorem q0m (k : Nat) : IntKind.u8.wrap (((8000024 + k) * 11400714819323198485 % 18446744073709551616 / 72057594037927936 : Nat) : Int) = (markB k : Int) := by
 have := qwx k
 unfold markB at *
 rw [IntKind.wrap_u8]
 omega
theorem que {l : List Nat} {n k : Nat} (hl : l.length = n) (h : k < n + 12) : (k < n → ∃ x, l[k]? = some x ∧ (l ++ marks 12)[k]? = some x) ∧ (n ≤ k → (l ++ marks 12)[k]? = some (markB (k - n))) := by
 refine ⟨fun hk => ⟨l[k], List.getElem?_eq_getElem (by omega), ?_⟩, fun hk => ?_⟩
 ·rw [List.getElem?_append_left (by omega)]; exact List.getElem?_eq_getElem (by omega)
 ·rw [List.getElem?_append_right (by omega), hl]
  unfold marks
  rw [List.getElem?_map, List.getElem?_range (by omega)]
  rfl
theorem qw1 (k : Nat) (hk : k ≤ 1000) (w : World) : Calls Tryz.prog 75 #[.int .i64 1, .int .i64 (k : Int)] w fun r w' => r = .returned (.int .i64 ((8000024 + k : Nat) : Int)) ∧ Below w.heap.size w w' := by
 refine s_ce Tryz.func75 [vI 1, vI k] [(0, vI 1), (1, vI k)] fun a M => ?_
 have O := Mem.start w
 refine s_fs1 ?_
 refine fp M 1 0 [(4, vI 0)] fun a M => s_d0 (s_fs1 ?_)
 refine fp M 5 0 [(9, vI (IntKind.i64.wrap (8000024 + (k : Int))))] fun a M => ?_
 replace M := M.sp 9 (vI (8000024 + k : Nat)) rfl (by rw [IntWalk.i64_in _ (by omega)]; simp)
 refine fp M 1 5 [(4, vI (8000024 + k : Nat))] fun a M => s_d0 (wp_ret ?_)
 exact s_rt1 rfl M rfl (⟨rfl, O.below⟩)
theorem qfw (k : Nat) (hk : k ≤ 1000) (w : World) : Calls Tryz.prog 71 #[.int .i64 1, .int .i64 (k : Int)] w fun r w' => r = .returned (.int .u8 (markB k : Int)) ∧ Below w.heap.size w w' := by
 refine s_ce Tryz.func71 [vI 1, vI k] [(0, vI 1), (1, vI k)] fun a M => ?_
 have O := Mem.start w
 refine s_fs1 ?_
 refine fp M 1 0 [(4, vB 0)] fun a M => s_d0 (s_fs1 ?_)
 refine fp M 2 0 [(6, vI k), (5, vI 1)] fun a M => fo M 2 rfl rfl ?_
 refine e_cl M [vI 1, vI k] rfl rfl (qw1 k hk _) ?_
 rintro _ w7 ⟨rfl, hbw⟩
 refine ⟨_, rfl, ?_⟩
 replace O := O.call hbw
 clear M; intro a M
 refine fp M 1 3 [(8, vQ (IntKind.u64.wrap ((8000024 + k : Nat) : Int)))] fun a M => ?_
 replace M := M.sp 8 (vQ (8000024 + k : Nat)) rfl (by rw [qwy k hk])
 refine fp M 1 4 [(9, vQ (IntKind.u64.wrap (((8000024 + k : Nat) : Int) * 11400714819323198485)))] fun a M => ?_
 replace M := M.sp 9 (vQ ((8000024 + k) * 11400714819323198485 % 18446744073709551616 : Nat)) rfl (by rw [qwz k])
 refine fp M 1 5 [(10, vQ (Int.fdiv (((8000024 + k) * 11400714819323198485 % 18446744073709551616 : Nat) : Int) (2 ^ (min (56 : Int).toNat (IntKind.u64).bits))))] fun a M => ?_
 replace M := M.sp 10 (vQ ((8000024 + k) * 11400714819323198485 % 18446744073709551616 / 72057594037927936 : Nat)) rfl (by rw [qw0])
 refine fp M 1 6 [(11, vB (IntKind.u8.wrap (((8000024 + k) * 11400714819323198485 % 18446744073709551616 / 72057594037927936 : Nat) : Int)))] fun a M => ?_
 replace M := M.sp 11 (vB (markB k)) rfl (by rw [q0m k])
 refine fp M 1 7 [(4, vB (markB k))] fun a M => s_d0 (wp_ret ?_)
 exact s_rt1 rfl M rfl (⟨rfl, O.below⟩)
theorem qw2 (A : Option Addr) (n c : Nat) (l : List Nat) (w : World) (hr : Rd w w.heap.size 1 A n (l.map B8)) (hn : n ≤ 140737488351232) (hln : l.length = n) :
    Calls Tryz.prog 38 #[.slice A n c] w (q2e w l) := by
 refine s_ce Tryz.func38 [.slice A n c] [(0, .slice A n c)] fun a M => ?_
 have O := Mem.start w
 refine s_fs1 ?_
 refine fp M 1 0 [(2, .slice none 0 0)] fun a M => s_d0 (s_fs1 ?_)
 refine fp M 1 0 [(5, .slice A n c)] fun a M => s_fl M 1 fun a M => ?_
 refine fp M 1 2 [(7, vI (IntKind.i64.wrap ((n : Int) + 12)))] fun a M => ?_
 replace M := M.sp 7 (vI (n + 12 : Nat)) rfl (by rw [IntWalk.i64_in _ (by omega)]; simp)
 refine fo M 3 rfl rfl ?_
 refine qyq M O (m := (n + 12)) rfl ei_u8 rfl rfl (by omega) (by omega) rfl (by decide) fun a w8 g8 M O => ?_
 refine fp M 1 4 [(3, vS g8 0 (n + 12))] fun a M => s_d0 (s_fs1 ?_)
 refine fp M 2 0 [(10, .slice A n c), (9, vS g8 0 (n + 12))] fun a M => fo M 2 rfl rfl ?_
 refine qiz M O (i := 0) rfl ei_u8 rfl rfl rfl (news := (l.map B8)) (O.old hr) (q0 _) (by omega) (by omega) rfl (by decide) fun a w11 A11 c11 M O hc11 => ?_
 refine fp M 1 3 [(3, .slice A11 (0 + n) c11)] fun a M => s_d0 ?_
 have hnA11 : 0 + n = n + 0 := by omega
 replace O := O.reRow (i := 0) (ys := (l ++ marks 0).map B8) rfl hnA11 (by simp [marks])
 rw [hnA11] at hc11
 replace M := M.sp 3 (.slice A11 (n + 0) c11) rfl (by rw [hnA11])
 replace M := M.sp 11 (.slice A11 (n + 0) c11) rfl (by rw [hnA11])
 refine wp_seq (s_fs1 ?_)
 refine fp M 1 0 [(4, vI 0)] fun a M => s_d0 (wp_block ?_)
 refine qe (fun mS aS wS => ∃ (k : Nat) (Ak : Option Addr) (ck : Nat), (k ≤ 12) ∧ (n + k ≤ ck) ∧ mS = 12 - k ∧ Fr aS 25 [] [(4, vI k), (11, .slice A11 (n + 0) c11), (3, .slice Ak (n + k) ck), (2, .slice none 0 0), (0, .slice A n c)] ∧ Mem w wS [.row (.slice Ak (n + k) ck) (n + k) ((l ++ marks k).map B8) 5 1]) (m := 12 - 0) ⟨0, A11, c11, by omega, hc11, rfl, M.sub (by kernel_rfl), O.pk [0]⟩ ?_
 clear M O; rintro mS a w_ ⟨k, Ak, ck, hk, hck, rfl, M, O⟩
 refine wp_seq (s_fs1 ?_)
 refine fp M 2 0 [(13, .bool (decide ((k : Int) < (12 : Int))))] fun a M => s_d0 ?_
 rcases M.tf 13 rfl with ⟨hb13, M⟩ | ⟨hb13, M⟩
 ·
  have hk13 : k < 12 := by have := of_decide_eq_true hb13; omega
  refine s_ct M (wp_skip (wp_seq (wp_block (qa ?_))))
  refine fp M 2 0 [(17, vI k), (16, .slice Ak (n + k) ck)] fun a M => fo M 2 rfl rfl ?_
  refine e_cl M [vI 1, vI k] rfl rfl (qfw k (by omega) _) ?_
  rintro _ w18 ⟨rfl, hbw⟩
  refine ⟨_, rfl, ?_⟩
  replace O := O.call hbw
  clear M; intro a M
  refine fo M 3 rfl rfl (s_el M O ei_u8 [(0, vB (markB k))] #[vB (markB k)] fun a w19 g19 M O => ?_)
  refine fo M 4 rfl rfl (qd M O (i := 1) rfl ei_u8 rfl rfl rfl (news := [B8 (markB k)]) (O.rdBlk (i := 0) (n := 1) (size := 1) rfl rfl) (by simp [Value.oneCell', U64, B8]) (by omega) (by omega) rfl (by decide) fun a w20 A20 c20 M O hc20 => ?_)
  refine fp M 1 5 [(3, .slice A20 (n + k + 1) c20)] fun a M => s_d0 ?_
  have hnA20 : n + k + 1 = n + (k + 1) := by omega
  replace O := O.reRow (i := 1) (ys := (l ++ marks (k + 1)).map B8) rfl hnA20 (by rw [qqh]; simp)
  rw [hnA20] at hc20
  replace M := M.sp 3 (.slice A20 (n + (k + 1)) c20) rfl (by rw [hnA20])
  replace M := M.sp 20 (.slice A20 (n + (k + 1)) c20) rfl (by rw [hnA20])
  refine qa ?_
  refine fp M 2 0 [(15, vI (IntKind.i64.wrap ((k : Int) + 1)))] fun a M => ?_
  replace M := M.sp 15 (vI (k + 1 : Nat)) rfl (by rw [IntWalk.i64_in _ (by omega)]; simp)
  refine fp M 1 2 [(4, vI (k + 1 : Nat))] fun a M => s_d0 ?_
  exact ⟨_, (by omega), k + 1, A20, c20, by omega, hc20, rfl, M.sub (by kernel_rfl), O.pk [1]⟩
 obtain rfl : k = 12 := by have := of_decide_eq_false hb13; omega
 refine s_cf M (wp_exit (s_fs1 ?_))
 refine fp M 2 0 [(22, .slice A n c), (21, .slice Ak (n + 12) ck)] fun a M => s_fl M 2 fun a M => ?_
 refine s_fz M O 3 rfl (v := .slice Ak n ck) (Yl.q1 ei_u8 (j := n) rfl rfl rfl (by omega)) fun a M => ?_
 refine fp M 1 4 [(2, .slice Ak n ck)] fun a M => s_d0 (wp_ret ?_)
 exact s_rt1 rfl M rfl (⟨⟨Ak, ck, by rw [hln], by rw [hln]; exact O.own (i := 0) rfl, by omega⟩, O.below⟩)
theorem qw3 (A A2 : Option Addr) (n c c2 : Nat) (l : List Nat) (w : World) (hr : Rd w w.heap.size 1 A (n + 12) ((l ++ marks 12).map B8)) (hc : n + 12 ≤ c) (hr2 : Rd w w.heap.size 1 A2 n (l.map B8)) (hn : n ≤ 140737488351232) (hln : l.length = n) :
    Calls Tryz.prog 47 #[.slice A n c, .slice A2 n c2] w (Is w (.bool true)) := by
 refine s_ce Tryz.func47 [.slice A n c, .slice A2 n c2] [(0, .slice A n c), (1, .slice A2 n c2)] fun a M => ?_
 have O := Mem.start w
 refine s_fs1 ?_
 refine fp M 1 0 [(4, .bool false)] fun a M => s_d0 (wp_seq (s_fs1 ?_))
 refine fp M 1 0 [(7, .slice A n c)] fun a M => s_fl M 1 fun a M => ?_
 refine fp M 1 2 [(9, .slice A2 n c2)] fun a M => s_fl M 3 fun a M => ?_
 refine fp M 1 4 [(11, .bool ((n : Int) != (n : Int)))] fun a M => ?_
 replace M := M.sp 11 (.bool false) rfl (by simp)
 refine s_d0 (s_cf M (wp_skip (s_fs1 ?_)))
 refine fp M 2 0 [(13, .slice A2 n c2), (12, .slice A n c)] fun a M => s_fl M 2 fun a M => ?_
 refine fp M 1 3 [(15, vI (IntKind.i64.wrap ((n : Int) + 12)))] fun a M => ?_
 replace M := M.sp 15 (vI (n + 12 : Nat)) rfl (by rw [IntWalk.i64_in _ (by omega)]; simp)
 refine s_fz M O 4 rfl (v := .slice A (n + 12) c) (Yl.q1 ei_u8 (j := (n + 12)) rfl rfl rfl (hc)) fun a M => ?_
 refine fp M 1 5 [(5, .slice A (n + 12) c)] fun a M => s_d0 (wp_seq (s_fs1 ?_))
 refine fp M 1 0 [(6, vI 0)] fun a M => s_d0 (wp_block ?_)
 refine qe (fun mS aS wS => ∃ (k : Nat), (k ≤ n + 12) ∧ mS = n + 12 - k ∧ Fr aS 58 [] [(6, vI k), (5, .slice A (n + 12) c), (11, .bool false), (4, .bool false), (0, .slice A n c), (1, .slice A2 n c2)] ∧ Mem w wS []) (m := n + 12 - 0) ⟨0, Nat.zero_le _, rfl, M.sub (by kernel_rfl), O.pk []⟩ ?_
 clear M O; rintro mS a w_ ⟨k, hk, rfl, M, O⟩
 refine wp_seq (s_fs1 ?_)
 refine fp M 2 0 [(18, .slice A (n + 12) c), (17, vI k)] fun a M => s_fl M 2 fun a M => ?_
 refine fp M 1 3 [(20, .bool (decide ((k : Int) < ((n + 12) : Int))))] fun a M => s_d0 ?_
 rcases M.tf 20 rfl with ⟨hb20, M⟩ | ⟨hb20, M⟩
 ·
  have hk20 : k < n + 12 := by have := of_decide_eq_true hb20; omega
  refine s_ct M (wp_skip (wp_seq (wp_block ?_)))
  refine qaj (fun aS wS => Fr aS 58 [] [(57, .bool false), (20, .bool true), (6, vI k), (5, .slice A (n + 12) c), (11, .bool false), (4, .bool false), (0, .slice A n c), (1, .slice A2 n c2)] ∧ Mem w wS []) ?_ ?_
  ·
   refine qz O [] [] [] fun O Z => ?_
   refine ap M (fun _ => Z) [0, 1] (bf 35 [0, 1]) [(24, .slice A2 n c2), (23, vI k)] fun a M => ?_
   refine s_al M Z 2 fun a M => ?_
   refine ap M (fun _ => Z) [3, 4] (bf 35 [0, 1, 2, 3, 4]) [(27, .bool (decide ((k : Int) < (n : Int))))] fun a M => ?_
   rcases M.tf 27 rfl with ⟨hb27, M⟩ | ⟨hb27, M⟩
   ·
    have hk26 : k < n := by have := of_decide_eq_true hb27; omega
    obtain ⟨x, hx1, hx2⟩ := (que hln hk20).1 hk26
    refine ap M (fun _ => Z) [5, 6, 9, 10] (bf 35 [0, 1, 2, 3, 4, 5, 6, 9, 10]) [(33, vI k), (32, .slice A2 n c2), (29, vI k), (28, .slice A (n + 12) c)] fun a M => ?_
    obtain ⟨gA, oA, rfl, _⟩ := hr.qi (Nat.lt_of_le_of_lt (Nat.zero_le _) (show k < (n + 12) from hk20)) (by decide)
    refine s_az M Z 7 rfl (v := vP gA (oA + k * 1)) (Yl.ix gA oA k 1 rfl rfl rfl (hk20)) fun a M => ?_
    refine s_az M Z 8 rfl (v := vB x) (Yl.qk rfl rfl (by kernel_rfl) (fun _ h => (h.old hr).zu (k := k) (zq (F := B8) (k := k) (x := x) (hx2)))) fun a M => ?_
    obtain ⟨gA2, oA2, rfl, _⟩ := hr2.qi (Nat.lt_of_le_of_lt (Nat.zero_le _) (show k < n from hk26)) (by decide)
    refine s_az M Z 11 rfl (v := vP gA2 (oA2 + k * 1)) (Yl.ix gA2 oA2 k 1 rfl rfl rfl (hk26)) fun a M => ?_
    refine s_az M Z 12 rfl (v := vB x) (Yl.qk rfl rfl (by kernel_rfl) (fun _ h => (h.old hr2).zu (k := k) (zq (F := B8) (k := k) (x := x) (hx1)))) fun a M => ?_
    refine qg M (fun _ => Z) (i := 13) rfl rfl (d := 36) rfl (by decide) (by kernel_rfl) (fun _ _ _ h => h) (v := .bool ((x : Int) == (x : Int))) (fun _ => Yl.pure (by kernel_rfl)) fun a M => ?_
    replace M := M.sp 36 (.bool true) rfl (by simp)
    refine ap M (fun _ => Z) [14, 15, 16, 17, 18] (bt 35 [19, 20, 21, 22, 23, 24, 25, 26, 27, 28, 29, 30, 31, 32, 33, 34]) [(41, .slice (some ⟨gA2, oA2, none⟩) n c2), (40, vI k), (39, .bool false)] fun a M => ?_
    refine s_al M Z 19 fun a M => ?_
    refine qg M (fun _ => Z) (i := 20) rfl rfl (d := 43) rfl (by decide) (by kernel_rfl) (fun _ _ _ h => h) (v := .bool (decide ((k : Int) ≥ (n : Int)))) (fun _ => Yl.pure (by kernel_rfl)) fun a M => ?_
    replace M := M.sp 43 (.bool false) rfl (by rw [decide_eq_false (by omega)])
    refine ap M (fun _ => Z) [21, 22, 23, 24, 25, 26, 27, 28, 29, 30, 31, 32, 33, 34] (bt 35 []) [(57, .bool false)] fun a M => ?_
    refine qh (by kernel_rfl) ?_
    exact ⟨M.sub (by kernel_rfl), O.pk []⟩
   have hk26 : n ≤ k := by have := of_decide_eq_false hb27; omega
   have hx3 := (que hln hk20).2 hk26
   refine ap M (fun _ => Z) [5, 6, 7, 8, 9, 10, 11, 12, 13, 14, 15, 16, 17, 18] (bt 35 [19, 20, 21, 22, 23, 24, 25, 26, 27, 28, 29, 30, 31, 32, 33, 34]) [(41, .slice A2 n c2), (40, vI k), (39, .bool false)] fun a M => ?_
   refine s_al M Z 19 fun a M => ?_
   refine qg M (fun _ => Z) (i := 20) rfl rfl (d := 43) rfl (by decide) (by kernel_rfl) (fun _ _ _ h => h) (v := .bool (decide ((k : Int) ≥ (n : Int)))) (fun _ => Yl.pure (by kernel_rfl)) fun a M => ?_
   replace M := M.sp 43 (.bool true) rfl (by rw [decide_eq_true (by omega)])
   refine ap M (fun _ => Z) [21, 22, 23, 26, 27] (bt 35 [24, 25, 28, 29, 30, 31, 32, 33, 34]) [(50, .slice A2 n c2), (49, vI k), (46, vI k), (45, .slice A (n + 12) c), (44, .bool true)] fun a M => ?_
   obtain ⟨gA, oA, rfl, _⟩ := hr.qi (Nat.lt_of_le_of_lt (Nat.zero_le _) (show k < (n + 12) from hk20)) (by decide)
   refine s_az M Z 24 rfl (v := vP gA (oA + k * 1)) (Yl.ix gA oA k 1 rfl rfl rfl (hk20)) fun a M => ?_
   refine s_az M Z 25 rfl (v := vB (markB (k - n))) (Yl.qk rfl rfl (by kernel_rfl) (fun _ h => (h.old hr).zu (k := k) (zq (F := B8) (k := k) (x := (markB (k - n))) (hx3)))) fun a M => ?_
   refine s_al M Z 28 fun a M => ?_
   refine qg M (fun _ => Z) (i := 29) rfl rfl (d := 52) rfl (by decide) (by kernel_rfl) (fun _ _ _ h => h) (v := vI (IntKind.i64.wrap ((k : Int) - (n : Int)))) (fun _ => Yl.pure (by kernel_rfl)) fun a M => ?_
   replace M := M.sp 52 (vI (k - n : Nat)) rfl (by rw [IntWalk.i64_in _ (by omega)]; congr 1; omega)
   refine s_on M 30 rfl ?_
   refine e_cl M [vI 1, vI (k - n : Nat)] rfl rfl (qfw (k - n) (by omega) _) ?_
   rintro _ w53 ⟨rfl, hbw⟩
   refine ⟨_, rfl, ?_⟩
   replace O := O.call hbw
   clear M; intro a M
   refine keepS (O.pk []) (fun Z => ?_)
   refine qg M (fun _ => Z) (i := 31) rfl rfl (d := 54) rfl (by decide) (by kernel_rfl) (fun _ _ _ h => h) (v := .bool (((markB (k - n)) : Int) == (markB (k - n) : Int))) (fun _ => Yl.pure (by kernel_rfl)) fun a M => ?_
   replace M := M.sp 54 (.bool true) rfl (by simp)
   refine ap M (fun _ => Z) [32, 33, 34] (bt 35 []) [(57, .bool false)] fun a M => ?_
   refine qh (by kernel_rfl) ?_
   exact ⟨M.sub (by kernel_rfl), O.pk []⟩
  clear M O; rintro a w7 ⟨M, O⟩
  refine s_cf M (wp_skip (qa ?_))
  refine fp M 2 0 [(22, vI (IntKind.i64.wrap ((k : Int) + 1)))] fun a M => ?_
  replace M := M.sp 22 (vI (k + 1 : Nat)) rfl (by rw [IntWalk.i64_in _ (by omega)]; simp)
  refine fp M 1 2 [(6, vI (k + 1 : Nat))] fun a M => s_d0 ?_
  exact ⟨_, (by omega), k + 1, by omega, rfl, M.sub (by kernel_rfl), O.pk []⟩
 refine s_cf M (wp_exit (s_fs1 ?_))
 refine fp M 1 0 [(4, .bool true)] fun a M => s_d0 (wp_ret ?_)
 exact s_rt1 rfl M rfl (⟨rfl, O.below⟩)
theorem qp9 {l : List Nat} {n : Nat} (hln : l.length = n) (h : 4 ≤ n) : (((qu (l.take (n - 4)) : Nat) : Int) == ((l.getD (n - 4) 0 + l.getD (n - 4 + 1) 0 * 256 + l.getD (n - 4 + 2) 0 * 65536 + l.getD (n - 4 + 3) 0 * 16777216 : Nat) : Int)) = zb l := by
 subst hln
 have hd : ∀ i, (l.drop (l.length - 4)).getD i 0 = l.getD (l.length - 4 + i) 0 := fun i => by rw [List.getD_eq_getElem?_getD, List.getElem?_drop, ← List.getD_eq_getElem?_getD]
 unfold zb num4
 rw [hd, hd, hd, hd, Bool.eq_iff_iff, beq_iff_eq, decide_eq_true_eq]
 simp only [Nat.add_zero]
 constructor
 ·intro h1; exact ⟨h, by omega⟩
 ·intro h1; have := h1.2; omega
theorem qfs {l : List Nat} {n : Nat} (hln : l.length = n) (h : n < 4) : zb l = false := by unfold zb; rw [decide_eq_false]; omega
theorem qqa (A : Option Addr) (n cp : Nat) (l : List Nat) (B : Nat) (w : World) (hL : LaidX B w) (hB : B ≤ w.heap.size) (hr : Rd w w.heap.size 1 A n (l.map B8)) (hc : n ≤ cp) (hln : l.length = n) (hn : n ≤ 140737488355328) (hl : ∀ b ∈ l, b < 256) :
    Calls Tryz.prog 34 #[.slice A n cp] w (Is w (.bool (zb l))) := by
 refine s_ce Tryz.func34 [.slice A n cp] [(0, .slice A n cp)] fun a M => ?_
 have O := Mem.start w
 refine s_fs1 ?_
 refine fp M 1 0 [(2, .bool false)] fun a M => s_d0 (s_fs1 ?_)
 refine fp M 1 0 [(4, .slice A n cp)] fun a M => s_fl M 1 fun a M => ?_
 refine fp M 1 2 [(6, vI (IntKind.i64.wrap ((n : Int) - 4)))] fun a M => ?_
 replace M := M.sp 6 (vI ((n : Int) - 4)) rfl (qqz ⟨by omega, by omega⟩)
 refine fp M 1 3 [(3, vI ((n : Int) - 4))] fun a M => s_d0 (wp_seq (s_fs1 ?_))
 refine fp M 2 0 [(8, .bool (decide (((n : Int) - 4 : Int) < (0 : Int))))] fun a M => s_d0 ?_
 rcases M.tf 8 rfl with ⟨hb8, M⟩ | ⟨hb8, M⟩
 ·
  have hd8 := of_decide_eq_true hb8
  refine s_ct M (s_fs1 ?_)
  refine fp M 1 0 [(2, .bool false)] fun a M => s_d0 (wp_ret ?_)
  exact s_rt1 rfl M rfl (⟨by rw [qfs hln (by omega)], O.below⟩)
 have hd8 := of_decide_eq_false hb8
 replace M := M.sp 3 (.int .i64 ((n - 4 : Nat) : Int)) rfl (by congr 1; omega)
 refine s_cf M (wp_skip (wp_seq ?_))
 refine qz O [] [] [] fun O Z => ?_
 refine ap M (fun _ => Z) [0, 1, 4, 5, 9, 10, 17, 18, 25, 26] (bf 35 [0, 1, 4, 5, 9, 10, 17, 18, 25, 26]) [(35, vI (n - 4 : Nat)), (34, .slice A n cp), (27, vI (n - 4 : Nat)), (26, .slice A n cp), (19, vI (n - 4 : Nat)), (18, .slice A n cp), (14, vI (n - 4 : Nat)), (13, .slice A n cp), (10, vI (n - 4 : Nat)), (9, .slice A n cp)] fun a M => ?_
 refine s_az M Z 2 rfl (v := .slice A (n - 4) cp) (Yl.q1 ei_u8 (j := n - 4) rfl rfl rfl (by omega)) fun a M => ?_
 obtain ⟨gA, oA, rfl, _⟩ := hr.qi (Nat.lt_of_le_of_lt (Nat.zero_le _) (show n - 4 < n from by omega)) (by decide)
 refine s_az M Z 6 rfl (v := vP gA (oA + (n - 4) * 1)) (Yl.ix gA oA (n - 4) 1 rfl rfl rfl) fun a M => ?_
 have hx40 := getD_lt hl (k := (n - 4)) (by first | omega | (simp; omega))
 refine s_az M Z 7 rfl (v := vB (l.getD (n - 4) 0)) (Yl.o1 hr (n - 4) 0 (by first | omega | (simp; omega)) rfl rfl) fun a M => ?_
 refine qg M (fun _ => Z) (i := 8) rfl rfl (d := 17) rfl (by decide) (by kernel_rfl) (fun _ _ _ h => h) (v := vW (IntKind.u32.wrap ((l.getD (n - 4) 0) : Int))) (fun _ => Yl.pure (by kernel_rfl)) fun a M => ?_
 replace M := M.sp 17 (vW (l.getD (n - 4) 0)) rfl (qa3 rfl (by omega))
 refine qg M (fun _ => Z) (i := 11) rfl rfl (d := 20) rfl (by decide) (by kernel_rfl) (fun _ _ _ h => h) (v := vI (IntKind.i64.wrap (((n - 4 : Nat) : Int) + 1))) (fun _ => Yl.pure (by kernel_rfl)) fun a M => ?_
 replace M := M.sp 20 (vI ((n - 4) + 1 : Nat)) rfl (qc (by omega) (by omega))
 refine s_az M Z 12 rfl (v := vP gA (oA + ((n - 4) + 1) * 1)) (Yl.ix gA oA ((n - 4) + 1) 1 rfl rfl rfl) fun a M => ?_
 have hx47 := getD_lt hl (k := ((n - 4) + 1)) (by first | omega | (simp; omega))
 refine s_az M Z 13 rfl (v := vB (l.getD ((n - 4) + 1) 0)) (Yl.o1 hr ((n - 4) + 1) 0 (by first | omega | (simp; omega)) rfl rfl) fun a M => ?_
 refine qg M (fun _ => Z) (i := 14) rfl rfl (d := 23) rfl (by decide) (by kernel_rfl) (fun _ _ _ h => h) (v := vW (IntKind.u32.wrap ((l.getD ((n - 4) + 1) 0) : Int))) (fun _ => Yl.pure (by kernel_rfl)) fun a M => ?_
 replace M := M.sp 23 (vW (l.getD ((n - 4) + 1) 0)) rfl (qa3 rfl (by omega))
 refine qg M (fun _ => Z) (i := 15) rfl rfl (d := 24) rfl (by decide) (by kernel_rfl) (fun _ _ _ h => h) (v := vW (IntKind.u32.wrap (((l.getD ((n - 4) + 1) 0) : Int) * 2 ^ (min (8 : Int).toNat (IntKind.u32).bits)))) (fun _ => Yl.pure (by kernel_rfl)) fun a M => ?_
 replace M := M.sp 24 (vW ((l.getD ((n - 4) + 1) 0) * 256 : Nat)) rfl (qa3 (by rw [show (2 : Int) ^ (min (8 : Int).toNat (IntKind.u32).bits) = 256 from rfl]; omega) (by omega))
 refine qg M (fun _ => Z) (i := 16) rfl rfl (d := 25) rfl (by decide) (by kernel_rfl) (fun _ _ _ h => h) (v := vW (IntKind.u32.wrap (BitVec.ofInt (IntKind.u32).bits ((l.getD (n - 4) 0) : Int) ||| BitVec.ofInt (IntKind.u32).bits (((l.getD ((n - 4) + 1) 0) * 256 : Nat) : Int)).toNat)) (fun _ => Yl.pure (by kernel_rfl)) fun a M => ?_
 replace M := M.sp 25 (vW (l.getD (n - 4) 0 + l.getD (n - 4 + 1) 0 * 256 : Nat)) rfl (qi2 (m := l.getD (n - 4) 0) (n := l.getD (n - 4 + 1) 0) (j := 8) (p := 256) rfl (by omega) (by omega))
 refine qg M (fun _ => Z) (i := 19) rfl rfl (d := 28) rfl (by decide) (by kernel_rfl) (fun _ _ _ h => h) (v := vI (IntKind.i64.wrap (((n - 4 : Nat) : Int) + 2))) (fun _ => Yl.pure (by kernel_rfl)) fun a M => ?_
 replace M := M.sp 28 (vI ((n - 4) + 2 : Nat)) rfl (qc (by omega) (by omega))
 refine s_az M Z 20 rfl (v := vP gA (oA + ((n - 4) + 2) * 1)) (Yl.ix gA oA ((n - 4) + 2) 1 rfl rfl rfl) fun a M => ?_
 have hx58 := getD_lt hl (k := ((n - 4) + 2)) (by first | omega | (simp; omega))
 refine s_az M Z 21 rfl (v := vB (l.getD ((n - 4) + 2) 0)) (Yl.o1 hr ((n - 4) + 2) 0 (by first | omega | (simp; omega)) rfl rfl) fun a M => ?_
 refine qg M (fun _ => Z) (i := 22) rfl rfl (d := 31) rfl (by decide) (by kernel_rfl) (fun _ _ _ h => h) (v := vW (IntKind.u32.wrap ((l.getD ((n - 4) + 2) 0) : Int))) (fun _ => Yl.pure (by kernel_rfl)) fun a M => ?_
 replace M := M.sp 31 (vW (l.getD ((n - 4) + 2) 0)) rfl (qa3 rfl (by omega))
 refine qg M (fun _ => Z) (i := 23) rfl rfl (d := 32) rfl (by decide) (by kernel_rfl) (fun _ _ _ h => h) (v := vW (IntKind.u32.wrap (((l.getD ((n - 4) + 2) 0) : Int) * 2 ^ (min (16 : Int).toNat (IntKind.u32).bits)))) (fun _ => Yl.pure (by kernel_rfl)) fun a M => ?_
 replace M := M.sp 32 (vW ((l.getD ((n - 4) + 2) 0) * 65536 : Nat)) rfl (qa3 (by rw [show (2 : Int) ^ (min (16 : Int).toNat (IntKind.u32).bits) = 65536 from rfl]; omega) (by omega))
 refine qg M (fun _ => Z) (i := 24) rfl rfl (d := 33) rfl (by decide) (by kernel_rfl) (fun _ _ _ h => h) (v := vW (IntKind.u32.wrap (BitVec.ofInt (IntKind.u32).bits ((l.getD (n - 4) 0 + l.getD (n - 4 + 1) 0 * 256 : Nat) : Int) ||| BitVec.ofInt (IntKind.u32).bits (((l.getD ((n - 4) + 2) 0) * 65536 : Nat) : Int)).toNat)) (fun _ => Yl.pure (by kernel_rfl)) fun a M => ?_
 replace M := M.sp 33 (vW (l.getD (n - 4) 0 + l.getD (n - 4 + 1) 0 * 256 + l.getD (n - 4 + 2) 0 * 65536 : Nat)) rfl (qi2 (m := l.getD (n - 4) 0 + l.getD (n - 4 + 1) 0 * 256) (n := l.getD (n - 4 + 2) 0) (j := 16) (p := 65536) rfl (by omega) (by omega))
 refine qg M (fun _ => Z) (i := 27) rfl rfl (d := 36) rfl (by decide) (by kernel_rfl) (fun _ _ _ h => h) (v := vI (IntKind.i64.wrap (((n - 4 : Nat) : Int) + 3))) (fun _ => Yl.pure (by kernel_rfl)) fun a M => ?_
 replace M := M.sp 36 (vI ((n - 4) + 3 : Nat)) rfl (qc (by omega) (by omega))
 refine s_az M Z 28 rfl (v := vP gA (oA + ((n - 4) + 3) * 1)) (Yl.ix gA oA ((n - 4) + 3) 1 rfl rfl rfl) fun a M => ?_
 have hx69 := getD_lt hl (k := ((n - 4) + 3)) (by first | omega | (simp; omega))
 refine s_az M Z 29 rfl (v := vB (l.getD ((n - 4) + 3) 0)) (Yl.o1 hr ((n - 4) + 3) 0 (by first | omega | (simp; omega)) rfl rfl) fun a M => ?_
 refine qg M (fun _ => Z) (i := 30) rfl rfl (d := 39) rfl (by decide) (by kernel_rfl) (fun _ _ _ h => h) (v := vW (IntKind.u32.wrap ((l.getD ((n - 4) + 3) 0) : Int))) (fun _ => Yl.pure (by kernel_rfl)) fun a M => ?_
 replace M := M.sp 39 (vW (l.getD ((n - 4) + 3) 0)) rfl (qa3 rfl (by omega))
 refine qg M (fun _ => Z) (i := 31) rfl rfl (d := 40) rfl (by decide) (by kernel_rfl) (fun _ _ _ h => h) (v := vW (IntKind.u32.wrap (((l.getD ((n - 4) + 3) 0) : Int) * 2 ^ (min (24 : Int).toNat (IntKind.u32).bits)))) (fun _ => Yl.pure (by kernel_rfl)) fun a M => ?_
 replace M := M.sp 40 (vW ((l.getD ((n - 4) + 3) 0) * 16777216 : Nat)) rfl (qa3 (by rw [show (2 : Int) ^ (min (24 : Int).toNat (IntKind.u32).bits) = 16777216 from rfl]; omega) (by omega))
 refine qg M (fun _ => Z) (i := 32) rfl rfl (d := 41) rfl (by decide) (by kernel_rfl) (fun _ _ _ h => h) (v := vW (IntKind.u32.wrap (BitVec.ofInt (IntKind.u32).bits ((l.getD (n - 4) 0 + l.getD (n - 4 + 1) 0 * 256 + l.getD (n - 4 + 2) 0 * 65536 : Nat) : Int) ||| BitVec.ofInt (IntKind.u32).bits (((l.getD ((n - 4) + 3) 0) * 16777216 : Nat) : Int)).toNat)) (fun _ => Yl.pure (by kernel_rfl)) fun a M => ?_
 replace M := M.sp 41 (vW (l.getD (n - 4) 0 + l.getD (n - 4 + 1) 0 * 256 + l.getD (n - 4 + 2) 0 * 65536 + l.getD (n - 4 + 3) 0 * 16777216 : Nat)) rfl (qi2 (m := l.getD (n - 4) 0 + l.getD (n - 4 + 1) 0 * 256 + l.getD (n - 4 + 2) 0 * 65536) (n := l.getD (n - 4 + 3) 0) (j := 24) (p := 16777216) rfl (by omega) (by omega))
 refine s_on M 3 rfl (e_is M O [.slice (some ⟨gA, oA, none⟩) (n - 4) cp] (vW (qu (l.take (n - 4)))) rfl rfl (qp3 _ _ _ (l.take (n - 4)) B _ (hL.mem O hB) (O.le hB) ((O.old hr).toB8 (by omega)) (by rw [List.length_take]; omega) (by omega) (qe6 hl _)) fun w12 hbw O a M => ?_)
 refine keepS (O.pk []) (fun Z => ?_)
 refine ap M (fun _ => Z) [33, 34] (bt 35 []) [(2, .bool ((qu (l.take (n - 4)) : Int) == ((l.getD (n - 4) 0 + l.getD (n - 4 + 1) 0 * 256 + l.getD (n - 4 + 2) 0 * 65536 + l.getD (n - 4 + 3) 0 * 16777216 : Nat) : Int)))] fun a M => ?_
 refine qh (by kernel_rfl) ?_
 replace M := M.to [(2, .bool ((qu (l.take (n - 4)) : Int) == ((l.getD (n - 4) 0 + l.getD (n - 4 + 1) 0 * 256 + l.getD (n - 4 + 2) 0 * 65536 + l.getD (n - 4 + 3) 0 * 16777216 : Nat) : Int))), (3, vI (n - 4 : Nat)), (8, .bool false), (0, .slice (some ⟨gA, oA, none⟩) n cp)]
 refine wp_ret ?_
 exact s_rt1 rfl M rfl (⟨by rw [qp9 hln (by omega)], O.below⟩)
def waUp (l : List Nat) (k : Nat) : List Nat := (l.take k).flatMap vbytes
theorem qlf {l : List Nat} {k : Nat} (h : k < l.length) : waUp l (k + 1) = waUp l k ++ vbytes (l.getD k 0) := by
 unfold waUp
 rw [← List.take_append_getElem (by omega : k < l.length), List.flatMap_append, List.getD_eq_getElem?_getD, List.getElem?_eq_getElem h]
 simp
theorem qot (l : List Nat) (k : Nat) : (waUp l k).length ≤ 10 * k := by
 unfold waUp
 have h := qdl (l.take k)
 rw [List.length_take] at h
 omega
theorem qp7 (x : Nat) (w : World) (hx : x < 18446744073709551616) : Calls Tryz.prog 91 #[.int .u64 (x : Int)] w (qat w (vbytes x)) :=
 (qmo x w hx).mono fun e w' ⟨v, h1, h2, h3⟩ => by
  obtain ⟨A, c, rfl, hc⟩ := qgg h2
  exact ⟨⟨A, c, h1, h2, hc⟩, h3⟩
theorem qp8 (A : Option Addr) (n c : Nat) (l : List Nat) (w : World) (hr : Rd w w.heap.size 1 A n (l.map U64)) (hln : l.length = n) (hl : ∀ x ∈ l, x < 18446744073709551616) (hn : n ≤ 1000000) :
    Calls Tryz.prog 58 #[.slice A n c] w (qat w (l.flatMap vbytes)) := by
 refine s_ce Tryz.func58 [.slice A n c] [(0, .slice A n c)] fun a M => ?_
 have O := Mem.start w
 refine s_fs1 ?_
 refine fp M 1 0 [(2, .slice none 0 0)] fun a M => s_d0 (s_fs1 ?_)
 refine fp M 1 0 [(3, .slice none 0 0)] fun a M => s_d0 ?_
 replace O := O.nil 5 1
 refine wp_seq (s_fs1 ?_)
 refine fp M 1 0 [(4, vI 0)] fun a M => s_d0 (wp_block ?_)
 refine qe (fun mS aS wS => ∃ (k : Nat) (Ak : Option Addr) (ck : Nat), (k ≤ n) ∧ ((waUp l k).length ≤ ck) ∧ mS = n - k ∧ Fr aS 19 [] [(4, vI k), (3, .slice Ak ((waUp l k).length) ck), (2, .slice none 0 0), (0, .slice A n c)] ∧ Mem w wS [.row (.slice Ak ((waUp l k).length) ck) ((waUp l k).length) ((waUp l k).map B8) 5 1]) (m := n - 0) ⟨0, none, 0, Nat.zero_le _, Nat.le_refl _, rfl, M.sub (by kernel_rfl), O.pk [0]⟩ ?_
 clear M O; rintro mS a w_ ⟨k, Ak, ck, hk, hck, rfl, M, O⟩
 refine wp_seq (s_fs1 ?_)
 refine fp M 2 0 [(6, .slice A n c), (5, vI k)] fun a M => s_fl M 2 fun a M => ?_
 refine fp M 1 3 [(8, .bool (decide ((k : Int) < (n : Int))))] fun a M => s_d0 ?_
 rcases M.tf 8 rfl with ⟨hb8, M⟩ | ⟨hb8, M⟩
 ·
  have hd8 := of_decide_eq_true hb8
  have hk8 : k < n := by omega
  refine s_ct M (wp_skip (wp_seq (wp_block (qa ?_))))
  refine fp M 3 0 [(13, vI k), (12, .slice A n c), (11, .slice Ak ((waUp l k).length) ck)] fun a M => ?_
  obtain ⟨gA, oA, rfl, _⟩ := hr.qi (Nat.lt_of_le_of_lt (Nat.zero_le _) (show k < n from by omega)) (by decide)
  refine s_fz M O 3 rfl (v := vP gA (oA + k * 1)) (Yl.ix gA oA k 1 rfl rfl rfl) fun a M => ?_
  have hx39 := getD_lt hl (k := k) (by first | omega | (simp; omega))
  refine s_fz M O 4 rfl (v := vQ (l.getD k 0)) (Yl.o1 hr k 0 (by first | omega | (simp; omega)) rfl rfl) fun a M => ?_
  refine fo M 5 rfl rfl ?_
  refine s_ek M O [vQ (l.getD k 0)] (qp7 (l.getD k 0) _ (hl _ (qr 0 (by omega)))) fun A16 c16 w16 hc16 O a M => ?_
  refine fo M 6 rfl rfl (qd M O (i := 1) rfl ei_u8 rfl rfl rfl (news := ((vbytes (l.getD k 0)).map B8)) (O.rd (i := 0) rfl) (q0 _) (by have := qot l k; have := qca (l.getD k 0); omega) (by have := qot l k; have := qca (l.getD k 0); omega) rfl (by decide) fun a w17 A17 c17 M O hc17 => ?_)
  refine fp M 1 7 [(3, .slice A17 (((waUp l k).length) + (((vbytes (l.getD k 0))).length)) c17)] fun a M => s_d0 ?_
  have hnA17 : ((waUp l k).length) + (((vbytes (l.getD k 0))).length) = (waUp l (k + 1)).length := by rw [qlf (by omega)]; simp
  replace O := O.reRow (i := 1) (ys := (waUp l (k + 1)).map B8) rfl hnA17 (by rw [qlf (by omega)]; simp)
  rw [hnA17] at hc17
  replace M := M.sp 3 (.slice A17 ((waUp l (k + 1)).length) c17) rfl (by rw [hnA17])
  replace M := M.sp 17 (.slice A17 ((waUp l (k + 1)).length) c17) rfl (by rw [hnA17])
  refine qa ?_
  refine fp M 2 0 [(10, vI (IntKind.i64.wrap ((k : Int) + 1)))] fun a M => ?_
  replace M := M.sp 10 (vI (k + 1 : Nat)) rfl (qc (by omega) (by omega))
  refine fp M 1 2 [(4, vI (k + 1 : Nat))] fun a M => s_d0 ?_
  exact ⟨_, (by omega), k + 1, A17, c17, by omega, hc17, rfl, M.sub (by kernel_rfl), O.pk [1]⟩
 have hd8 := of_decide_eq_false hb8
 have hkn : k = n := by omega
 have hwa : waUp l k = l.flatMap vbytes := by unfold waUp; rw [List.take_of_length_le (by omega)]
 refine s_cf M (wp_exit (s_fs1 ?_))
 refine fp M 2 0 [(2, .slice Ak ((waUp l k).length) ck)] fun a M => s_d0 (wp_ret ?_)
 exact s_rt1 rfl M rfl (qka (O.own (i := 0) rfl) hck (by rw [hwa]) hwa O.below)
theorem qms {w : World} {base n m c size : Nat} {e : TypeId} {A : Option Addr} {xs : List Value} (h : w.ownsRow base e size (.slice A n c) n xs) (hm : m ≤ n) : w.ownsRow base e size (.slice A m c) m (xs.take (m * size)) := by
 have hms : m * size ≤ n * size := Nat.mul_le_mul_right _ hm
 refine ⟨by rw [List.length_take, h.1]; omega, ?_⟩
 rcases h.2 with ⟨hv, hn⟩ | ⟨g, cap, cur, hv, hb, hg, h1, h2, h3, h4⟩
 ·injection hv with a1 a2 a3
  subst a1; subst a3; subst hn
  have : m = 0 := by omega
  subst this
  exact .inl ⟨rfl, rfl⟩
 ·injection hv with a1 a2 a3
  subst a1; subst a3
  refine .inr ⟨g, c, cur, rfl, hb, hg, by omega, h2, h3, ?_⟩
  rw [← h4, List.take_take]
  congr 1
  omega
section
variable {W w : World} {fs : List Fact}
theorem Mem.cutRow (h : Mem W w fs) {i n m c size : Nat} {e : TypeId} {A : Option Addr} {xs ys : List Value} (hi : fs[i]? = some (.row (.slice A n c) n xs e size)) (hm : m ≤ n) (hy : xs.take (m * size) = ys) : Mem W w (fs.set i (.row (.slice A m c) m ys e size)) := by
 subst hy
 have hb := h.holds _ (List.mem_of_getElem? hi)
 exact h.turn hi h.below (fun _ _ _ => rfl) (qms hb hm) (fun g' hg' => .inl (by cases A <;> exact hg'))
end
theorem qa0 : EI Tryz.prog 192 3 (.int .i64 0) 1 8 := ⟨by kernel_rfl, by kernel_rfl, rfl, by omega⟩
def PolIs (w : World) (l : List Nat) (r : Ending) (w' : World) : Prop :=
 (∃ A c, r = .returned (.slice A l.length c) ∧ w'.ownsRow w.heap.size 3 1 (.slice A l.length c) l.length (l.map I64v) ∧ l.length ≤ c) ∧ Below w.heap.size w w'
def DivIs (w : World) (A : Option Addr) (c : Nat) (a b : List Nat) (r : Ending) (w' : World) : Prop :=
 (∃ vq X c', r = .returned (.tuple #[vq, .slice X (divR (a.length + 1) a b).length c']) ∧ (a.length < b.length → X = A ∧ c' = c) ∧ (b.length ≤ a.length → w'.ownsRow w.heap.size 3 1 (.slice X (divR (a.length + 1) a b).length c') (divR (a.length + 1) a b).length ((divR (a.length + 1) a b).map I64v) ∧ (divR (a.length + 1) a b).length ≤ c')) ∧ Below w.heap.size w w'
def P01 (l : List Nat) : Prop := ∀ x ∈ l, x < 2
def Tr (l : List Nat) : Prop := 0 < l.length → l.getD (l.length - 1) 0 ≠ 0
theorem qts {l : List Nat} (h : P01 l) (k : Nat) : l.getD k 0 < 2 := by
 rw [List.getD_eq_getElem?_getD]
 cases hk : l[k]? with
 | none => simp
 | some x => exact h x (List.mem_of_getElem? hk)
theorem qhe {l : List Nat} {k : Nat} (h : 0 < k) (hk : k ≤ l.length) : l.take k = l.take (k - 1) ++ [l.getD (k - 1) 0] := by
 obtain ⟨j, rfl⟩ : ∃ j, k = j + 1 := ⟨k - 1, by omega⟩
 rw [Nat.add_sub_cancel, List.take_succ_eq_append_getElem (by omega), List.getD_eq_getElem?_getD, List.getElem?_eq_getElem (by omega)]
 rfl
theorem qlc {l : List Nat} {k : Nat} (h : 0 < k) (hk : k ≤ l.length) (h0 : l.getD (k - 1) 0 = 0) (ht : trimL (l.take k) = trimL l) : trimL (l.take (k - 1)) = trimL l := by
 rw [← ht, qhe h hk, h0, qdn]
theorem qem {l : List Nat} {k : Nat} (hk : k ≤ l.length) (h0 : 0 < k → l.getD (k - 1) 0 ≠ 0) (ht : trimL (l.take k) = trimL l) : trimL l = l.take k := by
 rw [← ht]
 by_cases h : 0 < k
 ·rw [qhe h hk, qhy (h0 h)]
 ·have : k = 0 := by omega
  subst this
  rfl
theorem qjp (l : List Nat) : trimL l <+: l := by
 have h := List.dropWhile_suffix (l := l.reverse) (· == 0)
 have := List.reverse_prefix.2 h
 rwa [List.reverse_reverse] at this
theorem qtt (l : List Nat) : l.take (trimL l).length = trimL l := (List.prefix_iff_eq_take.1 (qjp l)).symm
theorem qen (l : List Nat) : (trimL l).length ≤ l.length := (qjp l).length_le
theorem qeo (l : List Nat) : (l.map I64v).take ((trimL l).length * 1) = (trimL l).map I64v := by rw [Nat.mul_one, ← List.map_take, qtt]
theorem qtu {l : List Nat} (h : P01 l) : P01 (trimL l) := fun x hx => h x ((qjp l).sublist.mem hx)
theorem qye : ∀ (n : Nat) (l : List Nat), l.length = n → Tr (trimL l)
 | 0, l, h => by
  rw [List.length_eq_zero_iff] at h
  subst h
  intro h; simp [trimL] at h
 | n + 1, l, h => by
  have e := qhe (l := l) (k := l.length) (by omega) (by omega)
  rw [List.take_length] at e
  by_cases h0 : l.getD (l.length - 1) 0 = 0
  ·rw [e, h0, qdn]
   exact qye n _ (by rw [List.length_take]; omega)
  ·rw [e, qhy h0, ← e]
   intro _
   exact h0
theorem qmt (l : List Nat) : Tr (trimL l) := qye _ l rfl
theorem qba (f : Nat → Nat) (k : Nat) : (List.range (k + 1)).map f = (List.range k).map f ++ [f k] := by rw [List.range_succ, List.map_append]; rfl
def qb8 (p k : Nat) : List Nat := (List.range k).map fun i => p / 2 ^ i % 2
theorem qmu (p k : Nat) : qb8 p (k + 1) = qb8 p k ++ [p / 2 ^ k % 2] := qba _ _
theorem qin (p k : Nat) : (qb8 p k).length = k := by unfold qb8; rw [List.length_map, List.length_range]
def sumUp (a b : List Nat) (s k : Nat) : List Nat := (List.range k).map (sumAt a b s)
theorem qbk (a b : List Nat) (s k : Nat) : sumUp a b s (k + 1) = sumUp a b s k ++ [sumAt a b s k] := qba _ _
theorem qld (a b : List Nat) (s k : Nat) : (sumUp a b s k).length = k := by unfold sumUp; rw [List.length_map, List.length_range]
theorem qtv (a b : List Nat) (s : Nat) : trimL (sumUp a b s (max a.length (b.length + s))) = sumL a b s := rfl
theorem qoi {l : List Nat} {k : Nat} (h : l.length ≤ k) : l.getD k 0 = 0 := by rw [List.getD_eq_getElem?_getD, List.getElem?_eq_none h]; rfl
theorem qyf {a b : List Nat} {s k : Nat} (h1 : s ≤ k) (h2 : k - s < b.length) : sumAt a b s k = (a.getD k 0 + b.getD (k - s) 0) % 2 := if_pos ⟨h1, h2⟩
theorem q2b {a b : List Nat} {s k : Nat} (h1 : s ≤ k) (h2 : k - s < b.length) (h3 : a.length ≤ k) : sumAt a b s k = (0 + b.getD (k - s) 0) % 2 := by rw [qyf h1 h2, qoi h3]
theorem qtw {a b : List Nat} {s k : Nat} (h : ¬ (s ≤ k ∧ k - s < b.length)) : sumAt a b s k = a.getD k 0 := if_neg h
theorem qyg {a b : List Nat} {s k : Nat} (h : ¬ (s ≤ k ∧ k - s < b.length)) (h3 : a.length ≤ k) : sumAt a b s k = 0 := by rw [qtw h, qoi h3]
theorem q0b {a b : List Nat} (ha : P01 a) (s i : Nat) : sumAt a b s i < 2 := by
 unfold sumAt
 split
 ·omega
 ·exact qts ha i
theorem sum01 {a b : List Nat} (ha : P01 a) (s : Nat) : P01 (sumL a b s) := by
 unfold sumL
 apply qtu
 intro x hx
 obtain ⟨i, _, rfl⟩ := List.mem_map.1 hx
 exact q0b ha s i
theorem sumTr (a b : List Nat) (s : Nat) : Tr (sumL a b s) := qmt _
theorem q0c (a b : List Nat) (s : Nat) : (sumL a b s).length ≤ max a.length (b.length + s) := by
 unfold sumL
 refine Nat.le_trans (qen _) ?_
 rw [List.length_map, List.length_range]
 exact Nat.le_refl _
theorem qf6 {a b : List Nat} (ha : P01 a) (hb : P01 b) (hta : Tr a) (htb : Tr b) (h0 : 0 < b.length) (h : b.length ≤ a.length) : (sumL a b (a.length - b.length)).length < a.length := by
 have e : max a.length (b.length + (a.length - b.length)) = (a.length - 1) + 1 := by omega
 have h1 := hta (by omega)
 have h2 := htb h0
 have h3 := qts ha (a.length - 1)
 have h4 := qts hb (b.length - 1)
 unfold sumL
 rw [e, qba]
 have hz : sumAt a b (a.length - b.length) (a.length - 1) = 0 := by
  unfold sumAt
  rw [if_pos ⟨by omega, by omega⟩, show a.length - 1 - (a.length - b.length) = b.length - 1 by omega]
  omega
 rw [hz, qdn]
 refine Nat.lt_of_le_of_lt (qen _) ?_
 rw [List.length_map, List.length_range]
 omega
theorem qoj {b : List Nat} (hb : P01 b) (htb : Tr b) (h0 : 0 < b.length) : ∀ (n : Nat) (a : List Nat), a.length = n → P01 a → Tr a → ∀ f g, a.length < f → a.length < g → divR f a b = divR g a b := by
 intro n
 induction n using Nat.strongRecOn with
 | _ n ih =>
  intro a hn ha hta f g hf hg
  obtain ⟨f, rfl⟩ : ∃ j, f = j + 1 := ⟨f - 1, by omega⟩
  obtain ⟨g, rfl⟩ : ∃ j, g = j + 1 := ⟨g - 1, by omega⟩
  rw [divR, divR]
  split
  ·rename_i h
   have hl := qf6 ha hb hta htb h0 h
   exact ih _ (by omega) _ rfl (sum01 ha _) (sumTr _ _ _) f g (by omega) (by omega)
  ·rfl
theorem qok {a0 a b : List Nat} (hb : P01 b) (htb : Tr b) (h0 : 0 < b.length) (ha : P01 a) (hta : Tr a) (h : b.length ≤ a.length) (he : divR (a.length + 1) a b = divR (a0.length + 1) a0 b) :
  divR ((sumL a b (a.length - b.length)).length + 1) (sumL a b (a.length - b.length)) b = divR (a0.length + 1) a0 b := by
 have hl := qf6 ha hb hta htb h0 h
 have e : divR (a.length + 1) a b = divR a.length (sumL a b (a.length - b.length)) b := by rw [divR, if_pos h]
 rw [← he, e]
 exact qoj hb htb h0 _ _ rfl (sum01 ha _) (sumTr _ _ _) _ _ (by omega) (by omega)
theorem qol {a b : List Nat} (h : ¬ b.length ≤ a.length) : divR (a.length + 1) a b = a := by rw [divR, if_neg h]
theorem qom (p : Nat) : P01 (qj8 p) := by
 unfold qj8
 apply qtu
 intro x hx
 obtain ⟨i, _, rfl⟩ := List.mem_map.1 hx
 omega
theorem qon (p : Nat) : P01 (bitsOf p) := by
 unfold bitsOf
 apply qtu
 intro x hx
 obtain ⟨i, _, rfl⟩ := List.mem_map.1 hx
 split <;> omega
theorem qoo (p : Nat) : Tr (qj8 p) := qmt _
theorem qop (p : Nat) : Tr (bitsOf p) := qmt _
theorem qdt : genP.length = 33 := by decide +kernel
theorem qjq (p : Nat) : (bitsOf p).length ≤ 40 := by
 unfold bitsOf
 refine Nat.le_trans (qen _) ?_
 rw [List.length_map, List.length_range]
 exact Nat.le_refl _
theorem q0d {b : List Nat} (h0 : 0 < b.length) (hb : P01 b) (htb : Tr b) : ∀ (n : Nat) (a : List Nat), a.length = n → P01 a → Tr a → (divR (a.length + 1) a b).length < b.length := by
 intro n
 induction n using Nat.strongRecOn with
 | _ n ih =>
  intro a hn ha hta
  by_cases h : b.length ≤ a.length
  ·have hl := qf6 ha hb hta htb h0 h
   have hs := qok hb htb h0 ha hta h rfl
   rw [← hs]
   exact ih _ (by omega) _ rfl (sum01 ha _) (sumTr _ _ _)
  ·rw [qol h]; omega
def linR (y : Nat) : List Nat := divR ((bitsOf y).length + 1) (bitsOf y) genP
theorem qoq (y : Nat) : (linR y).length ≤ 32 := by
 have h := q0d (b := genP) (by rw [qdt]; decide) (qom _) (qoo _) _ (bitsOf y) rfl (qon _) (qop _)
 rw [qdt] at h
 exact Nat.le_of_lt_succ h
theorem qtx (y : Nat) : qq3 (linR y) = qad y := by
 unfold qad linR
 have := qjq y
 rw [qoj (b := genP) (qom _) (qoo _) (by rw [qdt]; decide) _ (bitsOf y) rfl (qon _) (qop _) ((bitsOf y).length + 1) 41 (by omega) (by omega)]
def remUp (r : List Nat) (k : Nat) : Nat := ((List.range k).map fun k => if r.getD k 0 = 1 then 2 ^ (31 - k) else 0).sum
theorem qdd (r : List Nat) (k : Nat) : remUp r (k + 1) = remUp r k + if r.getD k 0 = 1 then 2 ^ (31 - k) else 0 := by
 unfold remUp
 rw [qba, List.sum_append]
 simp
theorem qor (r : List Nat) : ∀ k, k ≤ 32 → remUp r k + 2 ^ (32 - k) ≤ 4294967296
 | 0, _ => by show 0 + 2 ^ 32 ≤ _; decide
 | k + 1, h => by
  have ih := qor r k (by omega)
  rw [qdd]
  have e1 : (2 : Nat) ^ (32 - k) = 2 ^ (32 - (k + 1)) * 2 := by rw [show 32 - k = (32 - (k + 1)) + 1 by omega, Nat.pow_succ]
  have e2 : (2 : Nat) ^ (31 - k) = 2 ^ (32 - (k + 1)) := by rw [show 31 - k = 32 - (k + 1) by omega]
  split <;> omega
theorem qle (r : List Nat) : remUp r r.length = qq3 r := rfl
def qay (y k : Nat) : List Nat := (List.range 40).map fun i => if 40 - k ≤ i then y / 2 ^ (39 - i) % 2 else 0
theorem qar (y k : Nat) : (qay y k).length = 40 := by unfold qay; rw [List.length_map, List.length_range]
theorem qfg (y k : Nat) {i : Nat} (h : i < 40) : (qay y k)[i]? = some (if 40 - k ≤ i then y / 2 ^ (39 - i) % 2 else 0) := by
 unfold qay
 rw [List.getElem?_map, List.getElem?_range h]
 rfl
theorem qmv (y : Nat) : qay y 0 = List.replicate 40 0 := by
 apply List.ext_getElem?
 intro i
 by_cases h : i < 40
 ·rw [qfg y 0 h, if_neg (by omega), List.getElem?_replicate, if_pos h]
 ·rw [List.getElem?_eq_none (by rw [qar]; omega), List.getElem?_eq_none (by rw [List.length_replicate]; omega)]
theorem qmw {y k : Nat} (hk : k < 8) : (qay y k).set (39 - k) (y / 2 ^ k % 2) = qay y (k + 1) := by
 apply List.ext_getElem?
 intro i
 by_cases h : i < 40
 ·rw [List.getElem?_set, qfg y (k + 1) h]
  by_cases hi : 39 - k = i
  ·rw [if_pos hi, if_pos (by rw [qar]; omega), if_pos (by omega), show 39 - i = k by omega]
  ·rw [if_neg hi, qfg y k h]
   by_cases h2 : 40 - k ≤ i
   ·rw [if_pos h2, if_pos (by omega)]
   ·rw [if_neg h2, if_neg (by omega)]
 ·rw [List.getElem?_eq_none (by rw [List.length_set, qar]; omega), List.getElem?_eq_none (by rw [qar]; omega)]
theorem qio (y : Nat) : trimL (qay y 8) = bitsOf y := rfl
theorem pow31 (k : Nat) : 1 * 2 ^ (31 - k) ≤ 4294967295 := by
 have : (2 : Nat) ^ (31 - k) ≤ 2 ^ 31 := Nat.pow_le_pow_right (by decide) (by omega)
 omega
theorem q0e (r : List Nat) {k : Nat} (h : k < 32) : remUp r k + 1 * 2 ^ (31 - k) ≤ 4294967295 := by
 have h1 := qor r k (by omega)
 have e1 : (2 : Nat) ^ (32 - k) = 2 ^ (31 - k) * 2 := by rw [show 32 - k = (31 - k) + 1 by omega, Nat.pow_succ]
 have : 0 < (2 : Nat) ^ (31 - k) := Nat.pow_pos (by decide)
 omega
theorem qty : linR 0 = [] := by decide +kernel
theorem qp6 {l : List Nat} {n : Nat} (hl : ∀ x ∈ l, x < 256) (hln : l.length = n) : decide (sealL (l.take (n - 4)) = l) = zb l := by
 subst hln
 rw [Bool.eq_iff_iff, decide_eq_true_eq]
 constructor
 ·intro h
  have := qlx (l := l.take (l.length - 4))
  rwa [h] at this
 ·intro h
  exact qrb hl h
theorem qwm : ∀ y, y < 256 → y ≠ 0 → 33 ≤ (bitsOf y).length := by decide +kernel
theorem qos (A : Option Addr) (n c : Nat) (l : List Nat) (w : World) (hr : Rd w w.heap.size 1 A n (l.map I64v)) (hln : l.length = n) (hn : n ≤ 140737488355328) (hc : n ≤ c) :
    Calls Tryz.prog 147 #[.slice A n c] w (Is w (.slice A (trimL l).length c)) := by
 refine s_ce Tryz.func147 [.slice A n c] [(0, .slice A n c)] fun a M => ?_
 have O := Mem.start w
 refine s_fs1 ?_
 refine fp M 1 0 [(2, .slice none 0 0)] fun a M => s_d0 (wp_seq (wp_block ?_))
 refine qe (fun mS aS wS => ∃ (k : Nat), (k ≤ n) ∧ (trimL (l.take k) = trimL l) ∧ mS = 0 + k ∧ Fr aS 21 [] [(2, .slice none 0 0), (0, .slice A k c)] ∧ Mem w wS []) (m := 0 + n) ⟨n, Nat.le_refl _, by rw [List.take_of_length_le (by omega)], rfl, M.sub (by kernel_rfl), O.pk []⟩ ?_
 clear M O; rintro mS a w_ ⟨k, hk, ht, rfl, M, O⟩
 refine wp_seq (s_fs1 ?_)
 refine fp M 1 0 [(3, .slice A k c)] fun a M => s_fl M 1 fun a M => ?_
 refine fp M 2 2 [(6, .bool (decide ((k : Int) > (0 : Int))))] fun a M => ?_
 rcases M.tf 6 rfl with ⟨hb6, M⟩ | ⟨hb6, M⟩
 ·
  have hd6 := of_decide_eq_true hb6
  have hk0 : 0 < k := by omega
  obtain ⟨gA, oA, rfl, _⟩ := hr.qi (Nat.lt_of_le_of_lt (Nat.zero_le _) (show 0 < n from by omega)) (by decide)
  refine fp M 2 4 [(8, .slice (some ⟨gA, oA, none⟩) k c), (7, .slice (some ⟨gA, oA, none⟩) k c)] fun a M => s_fl M 6 fun a M => ?_
  refine fp M 1 7 [(10, vI (IntKind.i64.wrap ((k : Int) - 1)))] fun a M => ?_
  replace M := M.sp 10 (vI (k - 1 : Nat)) rfl (qc (by omega) (by omega))
  refine s_fz M O 8 rfl (v := vP gA (oA + (k - 1) * 1)) (Yl.ix gA oA (k - 1) 1 rfl rfl rfl) fun a M => ?_
  refine s_fz M O 9 rfl (v := vI (l.getD (k - 1) 0)) (Yl.o1 hr (k - 1) 0 (by first | omega | (simp; omega)) rfl rfl) fun a M => ?_
  refine fp M 2 10 [(14, .bool (((l.getD (k - 1) 0) : Int) == (0 : Int)))] fun a M => s_d0 ?_
  rcases M.tf 14 rfl with ⟨hb14, M⟩ | ⟨hb14, M⟩
  ·
   have hd14 := eq_of_beq hb14
   refine s_ct M (wp_skip (wp_block (qa ?_)))
   refine fp M 2 0 [(16, .slice (some ⟨gA, oA, none⟩) k c), (15, .slice (some ⟨gA, oA, none⟩) k c)] fun a M => s_fl M 2 fun a M => ?_
   refine fp M 1 3 [(18, vI (IntKind.i64.wrap ((k : Int) - 1)))] fun a M => ?_
   replace M := M.sp 18 (vI (k - 1 : Nat)) rfl (qc (by omega) (by omega))
   refine s_fz M O 4 rfl (v := .slice (some ⟨gA, oA, none⟩) (k - 1) c) (Yl.q1 qa0 (j := k - 1) rfl rfl rfl (by omega)) fun a M => ?_
   refine fp M 1 5 [(0, .slice (some ⟨gA, oA, none⟩) (k - 1) c)] fun a M => s_d0 ?_
   exact ⟨_, (by omega), (k - 1), by omega, qlc (by omega) (by omega) (by omega) ht, rfl, M.sub (by kernel_rfl), O.pk []⟩
  have hd14 := ne_of_beq_false hb14
  refine s_cf M (wp_exit (s_fs1 ?_))
  refine fp M 2 0 [(2, .slice (some ⟨gA, oA, none⟩) k c)] fun a M => s_d0 (wp_ret ?_)
  exact s_rt1 rfl M rfl (⟨by rw [qem (k := k) (by omega) (fun _ => by omega) ht, List.length_take, Nat.min_eq_left (by omega)], O.below⟩)
 have hd6 := of_decide_eq_false hb6
 refine fp M 8 4 [(14, .bool false)] fun a M => s_d0 (s_cf M (wp_exit (s_fs1 ?_)))
 refine fp M 2 0 [(2, .slice A k c)] fun a M => s_d0 (wp_ret ?_)
 exact s_rt1 rfl M rfl (⟨by rw [qem (k := k) (by omega) (fun _ => by omega) ht, List.length_take, Nat.min_eq_left (by omega)], O.below⟩)
theorem qtz (p : Nat) (hp : p < 18446744073709551616) (w : World) :
    Calls Tryz.prog 131 #[.int .u64 (p : Int)] w (PolIs w (qj8 p)) := by
 refine s_ce Tryz.func131 [vQ p] [(0, vQ p)] fun a M => ?_
 have O := Mem.start w
 refine s_fs1 ?_
 refine fp M 1 0 [(2, .slice none 0 0)] fun a M => s_d0 (s_fs1 ?_)
 refine fp M 1 0 [(3, .slice none 0 0)] fun a M => s_d0 ?_
 replace O := O.nil 3 1
 refine wp_seq (s_fs1 ?_)
 refine fp M 1 0 [(4, vI 0)] fun a M => s_d0 (wp_block ?_)
 refine qe (fun mS aS wS => ∃ (k : Nat) (Ak : Option Addr) (ck : Nat), (k ≤ 64) ∧ (k ≤ ck) ∧ mS = 64 - k ∧ Fr aS 19 [] [(4, vI k), (3, .slice Ak k ck), (2, .slice none 0 0), (0, vQ p)] ∧ Mem w wS [.row (.slice Ak k ck) k ((qb8 p k).map I64v) 3 1]) (m := 64 - 0) ⟨0, none, 0, by omega, Nat.le_refl _, rfl, M.sub (by kernel_rfl), O.pk [0]⟩ ?_
 clear M O; rintro mS a w_ ⟨k, Ak, ck, hk, hck, rfl, M, O⟩
 refine wp_seq (s_fs1 ?_)
 refine fp M 2 0 [(6, .bool (decide ((k : Int) < (64 : Int))))] fun a M => s_d0 ?_
 rcases M.tf 6 rfl with ⟨hb6, M⟩ | ⟨hb6, M⟩
 ·
  have hd6 := of_decide_eq_true hb6
  refine s_ct M (wp_skip (wp_seq (wp_block (qa ?_))))
  refine fp M 3 0 [(11, vI k), (10, vQ p), (9, .slice Ak k ck)] fun a M => s_fz M O 3 rfl (v := vQ (p / 2 ^ k : Nat)) (Yl.shrN (m := p) (n := k) rfl rfl rfl (by show _ ≤ 64; omega)) fun a M => ?_
  refine fp M 1 4 [(13, vQ (Int.tmod ((p / 2 ^ k : Nat) : Int) 2))] fun a M => ?_
  replace M := M.sp 13 (vQ ((p / 2 ^ k) % 2 : Nat)) rfl (qas .u64 _ 2)
  refine fp M 1 5 [(14, vI (IntKind.i64.wrap (((p / 2 ^ k) % 2 : Nat) : Int)))] fun a M => ?_
  replace M := M.sp 14 (vI ((p / 2 ^ k) % 2 : Nat)) rfl (qc rfl (by omega))
  refine fo M 6 rfl rfl (s_el M O qa0 [(0, vI ((p / 2 ^ k) % 2 : Nat))] #[vI ((p / 2 ^ k) % 2 : Nat)] fun a w15 g15 M O => ?_)
  refine fo M 7 rfl rfl (qd M O (i := 1) rfl qa0 rfl rfl rfl (news := [I64v ((p / 2 ^ k) % 2)]) (O.rdBlk (i := 0) (n := 1) (size := 1) rfl rfl) (by simp [Value.oneCell', I64v]) (by omega) (by omega) rfl (by decide) fun a w16 A16 c16 M O hc16 => ?_)
  refine fp M 1 8 [(3, .slice A16 (k + 1) c16)] fun a M => s_d0 ?_
  have hnA16 : k + 1 = k + 1 := rfl
  replace O := O.reRow (i := 1) (ys := (qb8 p (k + 1)).map I64v) rfl hnA16 (by rw [qmu]; simp)
  rw [hnA16] at hc16
  replace M := M.sp 3 (.slice A16 (k + 1) c16) rfl (by rw [hnA16])
  replace M := M.sp 16 (.slice A16 (k + 1) c16) rfl (by rw [hnA16])
  refine qa ?_
  refine fp M 2 0 [(8, vI (IntKind.i64.wrap ((k : Int) + 1)))] fun a M => ?_
  replace M := M.sp 8 (vI (k + 1 : Nat)) rfl (qc (by omega) (by omega))
  refine fp M 1 2 [(4, vI (k + 1 : Nat))] fun a M => s_d0 ?_
  exact ⟨_, (by omega), k + 1, A16, c16, by omega, hc16, rfl, M.sub (by kernel_rfl), O.pk [1]⟩
 have hd6 := of_decide_eq_false hb6
 obtain rfl : k = 64 := by omega
 refine s_cf M (wp_exit (s_fs1 ?_))
 refine fp M 1 0 [(17, .slice Ak 64 ck)] fun a M => fo M 1 rfl rfl (e_is M O [.slice Ak 64 ck] (.slice Ak ((trimL (qb8 p 64)).length) ck) rfl rfl (qos _ _ _ (qb8 p 64) _ (O.rd (i := 0) rfl) (qin p 64) (by omega) (by omega)) fun w18 hbw O a M => ?_)
 have htl18 := qen (qb8 p 64)
 have hle18 : (trimL (qb8 p 64)).length ≤ 64 := by rw [qin p 64] at htl18; exact htl18
 replace O := O.cutRow (i := 0) rfl hle18 (qeo (qb8 p 64))
 refine fp M 1 2 [(2, .slice Ak ((trimL (qb8 p 64)).length) ck)] fun a M => s_d0 (wp_ret ?_)
 exact s_rt1 rfl M rfl (⟨⟨_, _, rfl, O.own (i := 0) rfl, by show (trimL (qb8 p 64)).length ≤ _; omega⟩, O.below⟩)
theorem qip (A A2 : Option Addr) (c c2 : Nat) (p q : List Nat) (s : Nat) (w : World) (h1 : P01 p) (h2 : P01 q) (hr : Rd w w.heap.size 1 A p.length (p.map I64v)) (hr2 : Rd w w.heap.size 1 A2 q.length (q.map I64v)) (hp : p.length ≤ 1000000) (hq : q.length + s ≤ 1000000) :
    Calls Tryz.prog 146 #[.slice A p.length c, .slice A2 q.length c2, .int .i64 (s : Int)] w (PolIs w (sumL p q s)) := by
 refine s_ce Tryz.func146 [.slice A p.length c, .slice A2 q.length c2, vI s] [(0, .slice A p.length c), (1, .slice A2 q.length c2), (2, vI s)] fun a M => ?_
 have O := Mem.start w
 refine s_fs1 ?_
 refine fp M 1 0 [(6, .slice none 0 0)] fun a M => s_d0 (s_fs1 ?_)
 refine fp M 1 0 [(7, .slice none 0 0)] fun a M => s_d0 ?_
 replace O := O.nil 3 1
 refine wp_seq (s_fs1 ?_)
 refine fp M 1 0 [(8, vI 0)] fun a M => s_d0 (wp_block ?_)
 refine qe (fun mS aS wS => ∃ (k : Nat) (Ak : Option Addr) (ck : Nat), (k ≤ (max p.length (q.length + s))) ∧ (k ≤ ck) ∧ mS = (max p.length (q.length + s)) - k ∧ Fr aS 58 [] [(8, vI k), (7, .slice Ak k ck), (6, .slice none 0 0), (0, .slice A p.length c), (1, .slice A2 q.length c2), (2, vI s)] ∧ Mem w wS [.row (.slice Ak k ck) k ((sumUp p q s k).map I64v) 3 1]) (m := (max p.length (q.length + s)) - 0) ⟨0, none, 0, Nat.zero_le _, Nat.le_refl _, rfl, M.sub (by kernel_rfl), O.pk [0]⟩ ?_
 clear M O; rintro mS a w_ ⟨k, Ak, ck, hk, hck, rfl, M, O⟩
 refine wp_seq (s_fs1 ?_)
 refine fp M 2 0 [(11, .slice A p.length c), (10, vI k)] fun a M => s_fl M 2 fun a M => ?_
 refine fp M 2 3 [(14, .bool (decide ((k : Int) < (p.length : Int))))] fun a M => ?_
 rcases M.tf 14 rfl with ⟨hb14, M⟩ | ⟨hb14, M⟩
 ·
  have hd14 := of_decide_eq_true hb14
  refine fp M 7 5 [(21, .bool true)] fun a M => s_d0 (s_ct M (wp_skip (wp_seq (wp_block (s_fs1 ?_)))))
  refine fp M 1 0 [(9, vI 0)] fun a M => s_d0 (wp_seq (s_fs1 ?_))
  refine fp M 2 0 [(25, .slice A p.length c), (24, vI k)] fun a M => s_fl M 2 fun a M => ?_
  refine fp M 1 3 [(27, .bool (decide ((k : Int) < (p.length : Int))))] fun a M => s_d0 ?_
  rcases M.tf 27 rfl with ⟨hb27, M⟩ | ⟨hb27, M⟩
  ·
   have hd27 := of_decide_eq_true hb27
   refine s_ct M (qa ?_)
   refine fp M 2 0 [(29, vI k), (28, .slice A p.length c)] fun a M => ?_
   obtain ⟨gA, oA, rfl, _⟩ := hr.qi (Nat.lt_of_le_of_lt (Nat.zero_le _) (show k < p.length from by omega)) (by decide)
   refine s_fz M O 2 rfl (v := vP gA (oA + k * 1)) (Yl.ix gA oA k 1 rfl rfl rfl) fun a M => ?_
   have hx54 := getD_lt h1 (k := k) (by first | omega | (simp; omega))
   refine s_fz M O 3 rfl (v := vI (p.getD k 0)) (Yl.o1 hr k 0 (by first | omega | (simp; omega)) rfl rfl) fun a M => ?_
   refine fp M 1 4 [(9, vI (p.getD k 0))] fun a M => s_d0 (wp_seq (s_fs1 ?_))
   refine fp M 4 0 [(35, .bool (decide ((k : Int) ≥ (s : Int))))] fun a M => ?_
   rcases M.tf 35 rfl with ⟨hb35, M⟩ | ⟨hb35, M⟩
   ·
    have hd35 := of_decide_eq_true hb35
    refine fp M 3 4 [(38, vI (IntKind.i64.wrap ((k : Int) - (s : Int))))] fun a M => ?_
    replace M := M.sp 38 (vI (k - s : Nat)) rfl (qc (by omega) (by omega))
    refine fp M 1 7 [(39, .slice A2 q.length c2)] fun a M => s_fl M 8 fun a M => ?_
    refine fp M 2 9 [(42, .bool (decide (((k - s : Nat) : Int) < (q.length : Int))))] fun a M => s_d0 ?_
    rcases M.tf 42 rfl with ⟨hb42, M⟩ | ⟨hb42, M⟩
    ·
     have hd42 := of_decide_eq_true hb42
     refine s_ct M (qa ?_)
     refine fp M 5 0 [(47, vI (IntKind.i64.wrap ((k : Int) - (s : Int)))), (44, .slice A2 q.length c2), (43, vI (p.getD k 0))] fun a M => ?_
     replace M := M.sp 47 (vI (k - s : Nat)) rfl (qc (by omega) (by omega))
     obtain ⟨gA2, oA2, rfl, _⟩ := hr2.qi (Nat.lt_of_le_of_lt (Nat.zero_le _) (show k - s < q.length from by omega)) (by decide)
     refine s_fz M O 5 rfl (v := vP gA2 (oA2 + (k - s) * 1)) (Yl.ix gA2 oA2 (k - s) 1 rfl rfl rfl) fun a M => ?_
     have hx80 := getD_lt h2 (k := (k - s)) (by first | omega | (simp; omega))
     refine s_fz M O 6 rfl (v := vI (q.getD (k - s) 0)) (Yl.o1 hr2 (k - s) 0 (by first | omega | (simp; omega)) rfl rfl) fun a M => ?_
     refine fp M 1 7 [(50, vI (IntKind.i64.wrap (((p.getD k 0) : Int) + ((q.getD (k - s) 0) : Int))))] fun a M => ?_
     replace M := M.sp 50 (vI ((p.getD k 0) + (q.getD (k - s) 0) : Nat)) rfl (qc (by omega) (by omega))
     refine fp M 1 8 [(51, vI (Int.tmod (((p.getD k 0) + (q.getD (k - s) 0) : Nat) : Int) 2))] fun a M => ?_
     replace M := M.sp 51 (vI (((p.getD k 0) + (q.getD (k - s) 0)) % 2 : Nat)) rfl (qas .i64 _ 2)
     refine fp M 1 9 [(9, vI (((p.getD k 0) + (q.getD (k - s) 0)) % 2 : Nat))] fun a M => s_d0 (qa ?_)
     refine fp M 2 0 [(53, vI (((p.getD k 0) + (q.getD (k - s) 0)) % 2 : Nat)), (52, .slice Ak k ck)] fun a M => fo M 2 rfl rfl (s_el M O qa0 [(0, vI (((p.getD k 0) + (q.getD (k - s) 0)) % 2 : Nat))] #[vI (((p.getD k 0) + (q.getD (k - s) 0)) % 2 : Nat)] fun a w54 g54 M O => ?_)
     refine fo M 3 rfl rfl (qd M O (i := 1) rfl qa0 rfl rfl rfl (news := [I64v (((p.getD k 0) + (q.getD (k - s) 0)) % 2)]) (O.rdBlk (i := 0) (n := 1) (size := 1) rfl rfl) (by simp [Value.oneCell', I64v]) (by omega) (by omega) rfl (by decide) fun a w55 A55 c55 M O hc55 => ?_)
     refine fp M 1 4 [(7, .slice A55 (k + 1) c55)] fun a M => s_d0 ?_
     have hnA55 : k + 1 = k + 1 := rfl
     replace O := O.reRow (i := 1) (ys := (sumUp p q s (k + 1)).map I64v) rfl hnA55 (by rw [qbk, qyf (by omega) (by omega)]; simp)
     rw [hnA55] at hc55
     replace M := M.sp 7 (.slice A55 (k + 1) c55) rfl (by rw [hnA55])
     replace M := M.sp 55 (.slice A55 (k + 1) c55) rfl (by rw [hnA55])
     refine qa ?_
     refine fp M 2 0 [(23, vI (IntKind.i64.wrap ((k : Int) + 1)))] fun a M => ?_
     replace M := M.sp 23 (vI (k + 1 : Nat)) rfl (qc (by omega) (by omega))
     refine fp M 1 2 [(8, vI (k + 1 : Nat))] fun a M => s_d0 ?_
     replace M := M.to [(8, vI (k + 1 : Nat)), (55, .slice A55 (k + 1) c55), (7, .slice A55 (k + 1) c55), (9, vI (((p.getD k 0) + (q.getD (k - s) 0)) % 2 : Nat)), (42, .bool true), (27, .bool true), (21, .bool true), (6, .slice none 0 0), (0, .slice (some ⟨gA, oA, none⟩) p.length c), (1, .slice (some ⟨gA2, oA2, none⟩) q.length c2), (2, vI s)]
     exact ⟨_, (by omega), k + 1, A55, c55, by omega, hc55, rfl, M.sub (by kernel_rfl), O.pk [1]⟩
    have hd42 := of_decide_eq_false hb42
    refine s_cf M (wp_skip (qa ?_))
    refine fp M 2 0 [(53, vI (p.getD k 0)), (52, .slice Ak k ck)] fun a M => fo M 2 rfl rfl (s_el M O qa0 [(0, vI (p.getD k 0))] #[vI (p.getD k 0)] fun a w54 g54 M O => ?_)
    refine fo M 3 rfl rfl (qd M O (i := 1) rfl qa0 rfl rfl rfl (news := [I64v (p.getD k 0)]) (O.rdBlk (i := 0) (n := 1) (size := 1) rfl rfl) (by simp [Value.oneCell', I64v]) (by omega) (by omega) rfl (by decide) fun a w55 A55 c55 M O hc55 => ?_)
    refine fp M 1 4 [(7, .slice A55 (k + 1) c55)] fun a M => s_d0 ?_
    have hnA55 : k + 1 = k + 1 := rfl
    replace O := O.reRow (i := 1) (ys := (sumUp p q s (k + 1)).map I64v) rfl hnA55 (by rw [qbk, qtw (by omega)]; simp)
    rw [hnA55] at hc55
    replace M := M.sp 7 (.slice A55 (k + 1) c55) rfl (by rw [hnA55])
    replace M := M.sp 55 (.slice A55 (k + 1) c55) rfl (by rw [hnA55])
    refine qa ?_
    refine fp M 2 0 [(23, vI (IntKind.i64.wrap ((k : Int) + 1)))] fun a M => ?_
    replace M := M.sp 23 (vI (k + 1 : Nat)) rfl (qc (by omega) (by omega))
    refine fp M 1 2 [(8, vI (k + 1 : Nat))] fun a M => s_d0 ?_
    exact ⟨_, (by omega), k + 1, A55, c55, by omega, hc55, rfl, M.sub (by kernel_rfl), O.pk [1]⟩
   have hd35 := of_decide_eq_false hb35
   refine fp M 7 4 [(42, .bool false)] fun a M => s_d0 (s_cf M (wp_skip (qa ?_)))
   refine fp M 2 0 [(53, vI (p.getD k 0)), (52, .slice Ak k ck)] fun a M => fo M 2 rfl rfl (s_el M O qa0 [(0, vI (p.getD k 0))] #[vI (p.getD k 0)] fun a w54 g54 M O => ?_)
   refine fo M 3 rfl rfl (qd M O (i := 1) rfl qa0 rfl rfl rfl (news := [I64v (p.getD k 0)]) (O.rdBlk (i := 0) (n := 1) (size := 1) rfl rfl) (by simp [Value.oneCell', I64v]) (by omega) (by omega) rfl (by decide) fun a w55 A55 c55 M O hc55 => ?_)
   refine fp M 1 4 [(7, .slice A55 (k + 1) c55)] fun a M => s_d0 ?_
   have hnA55 : k + 1 = k + 1 := rfl
   replace O := O.reRow (i := 1) (ys := (sumUp p q s (k + 1)).map I64v) rfl hnA55 (by rw [qbk, qtw (by omega)]; simp)
   rw [hnA55] at hc55
   replace M := M.sp 7 (.slice A55 (k + 1) c55) rfl (by rw [hnA55])
   replace M := M.sp 55 (.slice A55 (k + 1) c55) rfl (by rw [hnA55])
   refine qa ?_
   refine fp M 2 0 [(23, vI (IntKind.i64.wrap ((k : Int) + 1)))] fun a M => ?_
   replace M := M.sp 23 (vI (k + 1 : Nat)) rfl (qc (by omega) (by omega))
   refine fp M 1 2 [(8, vI (k + 1 : Nat))] fun a M => s_d0 ?_
   exact ⟨_, (by omega), k + 1, A55, c55, by omega, hc55, rfl, M.sub (by kernel_rfl), O.pk [1]⟩
  have hd27 := of_decide_eq_false hb27
  omega
 have hd14 := of_decide_eq_false hb14
 refine fp M 2 5 [(16, .slice A2 q.length c2), (15, vI k)] fun a M => s_fl M 7 fun a M => ?_
 refine fp M 2 8 [(19, vI (IntKind.i64.wrap ((q.length : Int) + (s : Int))))] fun a M => ?_
 replace M := M.sp 19 (vI (q.length + s : Nat)) rfl (qc (by omega) (by omega))
 refine fp M 2 10 [(21, .bool (decide ((k : Int) < ((q.length + s : Nat) : Int))))] fun a M => s_d0 ?_
 rcases M.tf 21 rfl with ⟨hb21, M⟩ | ⟨hb21, M⟩
 ·
  have hd21 := of_decide_eq_true hb21
  refine s_ct M (wp_skip (wp_seq (wp_block (s_fs1 ?_))))
  refine fp M 1 0 [(9, vI 0)] fun a M => s_d0 (wp_seq (s_fs1 ?_))
  refine fp M 2 0 [(25, .slice A p.length c), (24, vI k)] fun a M => s_fl M 2 fun a M => ?_
  refine fp M 1 3 [(27, .bool (decide ((k : Int) < (p.length : Int))))] fun a M => s_d0 ?_
  rcases M.tf 27 rfl with ⟨hb27, M⟩ | ⟨hb27, M⟩
  ·
   have hd27 := of_decide_eq_true hb27
   omega
  have hd27 := of_decide_eq_false hb27
  refine s_cf M (wp_skip (wp_seq (s_fs1 ?_)))
  refine fp M 4 0 [(35, .bool (decide ((k : Int) ≥ (s : Int))))] fun a M => ?_
  rcases M.tf 35 rfl with ⟨hb35, M⟩ | ⟨hb35, M⟩
  ·
   have hd35 := of_decide_eq_true hb35
   refine fp M 3 4 [(38, vI (IntKind.i64.wrap ((k : Int) - (s : Int))))] fun a M => ?_
   replace M := M.sp 38 (vI (k - s : Nat)) rfl (qc (by omega) (by omega))
   refine fp M 1 7 [(39, .slice A2 q.length c2)] fun a M => s_fl M 8 fun a M => ?_
   refine fp M 2 9 [(42, .bool (decide (((k - s : Nat) : Int) < (q.length : Int))))] fun a M => s_d0 ?_
   rcases M.tf 42 rfl with ⟨hb42, M⟩ | ⟨hb42, M⟩
   ·
    have hd42 := of_decide_eq_true hb42
    refine s_ct M (qa ?_)
    refine fp M 5 0 [(47, vI (IntKind.i64.wrap ((k : Int) - (s : Int)))), (44, .slice A2 q.length c2), (43, vI 0)] fun a M => ?_
    replace M := M.sp 47 (vI (k - s : Nat)) rfl (qc (by omega) (by omega))
    obtain ⟨gA2, oA2, rfl, _⟩ := hr2.qi (Nat.lt_of_le_of_lt (Nat.zero_le _) (show k - s < q.length from by omega)) (by decide)
    refine s_fz M O 5 rfl (v := vP gA2 (oA2 + (k - s) * 1)) (Yl.ix gA2 oA2 (k - s) 1 rfl rfl rfl) fun a M => ?_
    have hx216 := getD_lt h2 (k := (k - s)) (by first | omega | (simp; omega))
    refine s_fz M O 6 rfl (v := vI (q.getD (k - s) 0)) (Yl.o1 hr2 (k - s) 0 (by first | omega | (simp; omega)) rfl rfl) fun a M => ?_
    refine fp M 1 7 [(50, vI (IntKind.i64.wrap (0 + ((q.getD (k - s) 0) : Int))))] fun a M => ?_
    replace M := M.sp 50 (vI (0 + (q.getD (k - s) 0) : Nat)) rfl (qc (by omega) (by omega))
    refine fp M 1 8 [(51, vI (Int.tmod ((0 + (q.getD (k - s) 0) : Nat) : Int) 2))] fun a M => ?_
    replace M := M.sp 51 (vI ((0 + (q.getD (k - s) 0)) % 2 : Nat)) rfl (qas .i64 _ 2)
    refine fp M 1 9 [(9, vI ((0 + (q.getD (k - s) 0)) % 2 : Nat))] fun a M => s_d0 (qa ?_)
    refine fp M 2 0 [(53, vI ((0 + (q.getD (k - s) 0)) % 2 : Nat)), (52, .slice Ak k ck)] fun a M => fo M 2 rfl rfl (s_el M O qa0 [(0, vI ((0 + (q.getD (k - s) 0)) % 2 : Nat))] #[vI ((0 + (q.getD (k - s) 0)) % 2 : Nat)] fun a w54 g54 M O => ?_)
    refine fo M 3 rfl rfl (qd M O (i := 1) rfl qa0 rfl rfl rfl (news := [I64v ((0 + (q.getD (k - s) 0)) % 2)]) (O.rdBlk (i := 0) (n := 1) (size := 1) rfl rfl) (by simp [Value.oneCell', I64v]) (by omega) (by omega) rfl (by decide) fun a w55 A55 c55 M O hc55 => ?_)
    refine fp M 1 4 [(7, .slice A55 (k + 1) c55)] fun a M => s_d0 ?_
    have hnA55 : k + 1 = k + 1 := rfl
    replace O := O.reRow (i := 1) (ys := (sumUp p q s (k + 1)).map I64v) rfl hnA55 (by rw [qbk, q2b (by omega) (by omega) (by omega)]; simp)
    rw [hnA55] at hc55
    replace M := M.sp 7 (.slice A55 (k + 1) c55) rfl (by rw [hnA55])
    replace M := M.sp 55 (.slice A55 (k + 1) c55) rfl (by rw [hnA55])
    refine qa ?_
    refine fp M 2 0 [(23, vI (IntKind.i64.wrap ((k : Int) + 1)))] fun a M => ?_
    replace M := M.sp 23 (vI (k + 1 : Nat)) rfl (qc (by omega) (by omega))
    refine fp M 1 2 [(8, vI (k + 1 : Nat))] fun a M => s_d0 ?_
    replace M := M.to [(8, vI (k + 1 : Nat)), (55, .slice A55 (k + 1) c55), (7, .slice A55 (k + 1) c55), (9, vI ((0 + (q.getD (k - s) 0)) % 2 : Nat)), (42, .bool true), (27, .bool false), (21, .bool true), (6, .slice none 0 0), (0, .slice A p.length c), (1, .slice (some ⟨gA2, oA2, none⟩) q.length c2), (2, vI s)]
    exact ⟨_, (by omega), k + 1, A55, c55, by omega, hc55, rfl, M.sub (by kernel_rfl), O.pk [1]⟩
   have hd42 := of_decide_eq_false hb42
   refine s_cf M (wp_skip (qa ?_))
   refine fp M 2 0 [(53, vI 0), (52, .slice Ak k ck)] fun a M => fo M 2 rfl rfl (s_el M O qa0 [(0, vI 0)] #[vI 0] fun a w54 g54 M O => ?_)
   refine fo M 3 rfl rfl (qd M O (i := 1) rfl qa0 rfl rfl rfl (news := [I64v 0]) (O.rdBlk (i := 0) (n := 1) (size := 1) rfl rfl) (by simp [Value.oneCell', I64v]) (by omega) (by omega) rfl (by decide) fun a w55 A55 c55 M O hc55 => ?_)
   refine fp M 1 4 [(7, .slice A55 (k + 1) c55)] fun a M => s_d0 ?_
   have hnA55 : k + 1 = k + 1 := rfl
   replace O := O.reRow (i := 1) (ys := (sumUp p q s (k + 1)).map I64v) rfl hnA55 (by rw [qbk, qyg (by omega) (by omega)]; simp)
   rw [hnA55] at hc55
   replace M := M.sp 7 (.slice A55 (k + 1) c55) rfl (by rw [hnA55])
   replace M := M.sp 55 (.slice A55 (k + 1) c55) rfl (by rw [hnA55])
   refine qa ?_
   refine fp M 2 0 [(23, vI (IntKind.i64.wrap ((k : Int) + 1)))] fun a M => ?_
   replace M := M.sp 23 (vI (k + 1 : Nat)) rfl (qc (by omega) (by omega))
   refine fp M 1 2 [(8, vI (k + 1 : Nat))] fun a M => s_d0 ?_
   exact ⟨_, (by omega), k + 1, A55, c55, by omega, hc55, rfl, M.sub (by kernel_rfl), O.pk [1]⟩
  have hd35 := of_decide_eq_false hb35
  refine fp M 7 4 [(42, .bool false)] fun a M => s_d0 (s_cf M (wp_skip (qa ?_)))
  refine fp M 2 0 [(53, vI 0), (52, .slice Ak k ck)] fun a M => fo M 2 rfl rfl (s_el M O qa0 [(0, vI 0)] #[vI 0] fun a w54 g54 M O => ?_)
  refine fo M 3 rfl rfl (qd M O (i := 1) rfl qa0 rfl rfl rfl (news := [I64v 0]) (O.rdBlk (i := 0) (n := 1) (size := 1) rfl rfl) (by simp [Value.oneCell', I64v]) (by omega) (by omega) rfl (by decide) fun a w55 A55 c55 M O hc55 => ?_)
  refine fp M 1 4 [(7, .slice A55 (k + 1) c55)] fun a M => s_d0 ?_
  have hnA55 : k + 1 = k + 1 := rfl
  replace O := O.reRow (i := 1) (ys := (sumUp p q s (k + 1)).map I64v) rfl hnA55 (by rw [qbk, qyg (by omega) (by omega)]; simp)
  rw [hnA55] at hc55
  replace M := M.sp 7 (.slice A55 (k + 1) c55) rfl (by rw [hnA55])
  replace M := M.sp 55 (.slice A55 (k + 1) c55) rfl (by rw [hnA55])
  refine qa ?_
  refine fp M 2 0 [(23, vI (IntKind.i64.wrap ((k : Int) + 1)))] fun a M => ?_
  replace M := M.sp 23 (vI (k + 1 : Nat)) rfl (qc (by omega) (by omega))
  refine fp M 1 2 [(8, vI (k + 1 : Nat))] fun a M => s_d0 ?_
  exact ⟨_, (by omega), k + 1, A55, c55, by omega, hc55, rfl, M.sub (by kernel_rfl), O.pk [1]⟩
 have hd21 := of_decide_eq_false hb21
 have hkM : k = (max p.length (q.length + s)) := by omega
 refine s_cf M (wp_exit (s_fs1 ?_))
 refine fp M 1 0 [(56, .slice Ak k ck)] fun a M => fo M 1 rfl rfl (e_is M O [.slice Ak k ck] (.slice Ak ((trimL (sumUp p q s k)).length) ck) rfl rfl (qos _ _ _ (sumUp p q s k) _ (O.rd (i := 0) rfl) (qld p q s k) (by omega) (by omega)) fun w57 hbw O a M => ?_)
 have htl57 := qen (sumUp p q s k)
 have hle57 : (trimL (sumUp p q s k)).length ≤ k := by rw [qld p q s k] at htl57; exact htl57
 replace O := O.cutRow (i := 0) rfl hle57 (qeo (sumUp p q s k))
 refine fp M 1 2 [(6, .slice Ak ((trimL (sumUp p q s k)).length) ck)] fun a M => s_d0 (wp_ret ?_)
 exact s_rt1 rfl M rfl (by rw [← qtv p q s, ← hkM]; exact ⟨⟨_, _, rfl, O.own (i := 0) rfl, by omega⟩, O.below⟩)
theorem one01 : P01 [1] := by intro x hx; simp at hx; omega
theorem qwn {w w' : World} {A X Xr : Option Addr} {c ca cr : Nat} {p q al xr : List Nat} {vq : Value} (hR : divR (p.length + 1) p q = al) (hX : (X = A ∧ ca = c ∧ al = p) ∨ (X = Xr ∧ ca = cr ∧ al = xr ∧ q.length ≤ p.length))
  (hO : w'.ownsRow w.heap.size 3 1 (.slice Xr xr.length cr) xr.length (xr.map I64v)) (hcr : xr.length ≤ cr) (hless : al.length < q.length) (hb : Below w.heap.size w w') :
  DivIs w A c p q (.returned (.tuple #[vq, .slice X al.length ca])) w' := by
 unfold DivIs
 rw [hR]
 refine ⟨⟨vq, X, ca, rfl, ?_, ?_⟩, hb⟩
 ·intro h
  rcases hX with ⟨h1, h2, _⟩ | ⟨_, _, _, h4⟩
  ·exact ⟨h1, h2⟩
  ·omega
 ·intro h
  rcases hX with ⟨_, _, h3⟩ | ⟨rfl, rfl, rfl, _⟩
  ·subst h3; omega
  ·exact ⟨hO, hcr⟩
theorem qiq (A A2 : Option Addr) (c c2 : Nat) (p q : List Nat) (w : World) (h1 : P01 p) (h2 : P01 q) (t1 : Tr p) (t2 : Tr q) (h0 : 0 < q.length) (hr : Rd w w.heap.size 1 A p.length (p.map I64v)) (hr2 : Rd w w.heap.size 1 A2 q.length (q.map I64v)) (hp : p.length ≤ 100000) (hq : q.length ≤ 100000) :
    Calls Tryz.prog 129 #[.slice A p.length c, .slice A2 q.length c2] w (DivIs w A c p q) := by
 refine s_ce Tryz.func129 [.slice A p.length c, .slice A2 q.length c2] [(0, .slice A p.length c), (1, .slice A2 q.length c2)] fun a M => ?_
 have O := Mem.start w
 refine s_fs1 ?_
 refine fp M 2 0 [(5, .slice none 0 0), (4, .slice none 0 0)] fun a M => s_d0 (s_fs1 ?_)
 refine fp M 1 0 [(6, .slice none 0 0)] fun a M => s_d0 ?_
 replace O := (O.nil 3 1).nil 3 1
 refine wp_seq (wp_block ?_)
 refine qe (fun mS aS wS => ∃ (al : List Nat) (X : Option Addr) (ca : Nat) (Xr : Option Addr) (xr : List Nat) (cr : Nat) (ql : List Nat) (Aq : Option Addr) (cq : Nat), (P01 al) ∧ (Tr al) ∧ (al.length ≤ p.length) ∧ (divR (al.length + 1) al q = divR (p.length + 1) p q) ∧ ((X = A ∧ ca = c ∧ al = p) ∨ (X = Xr ∧ ca = cr ∧ al = xr ∧ q.length ≤ p.length)) ∧ (P01 ql) ∧ (ql.length ≤ p.length + 1) ∧ (xr.length ≤ cr) ∧ mS = al.length ∧ Fr aS 28 [] [(6, .slice Aq ql.length cq), (5, .slice none 0 0), (4, .slice none 0 0), (0, .slice X al.length ca), (1, .slice A2 q.length c2)] ∧ Mem w wS [.row (.slice Aq ql.length cq) ql.length (ql.map I64v) 3 1, .row (.slice Xr xr.length cr) xr.length (xr.map I64v) 3 1]) (m := p.length) ⟨p, A, c, none, [], 0, [], none, 0, h1, t1, Nat.le_refl _, rfl, .inl ⟨rfl, rfl, rfl⟩, (by intro x hx; cases hx), Nat.zero_le _, Nat.le_refl _, rfl, M.sub (by kernel_rfl), O.pk [0, 1]⟩ ?_
 clear M O; rintro mS a w_ ⟨al, X, ca, Xr, xr, cr, ql, Aq, cq, ha1, hat, hal, hdv, hX, hq1, hql, hcr, rfl, M, O⟩
 refine wp_seq (s_fs1 ?_)
 refine fp M 1 0 [(8, .slice X al.length ca)] fun a M => s_fl M 1 fun a M => ?_
 refine fp M 1 2 [(10, .slice A2 q.length c2)] fun a M => s_fl M 3 fun a M => ?_
 refine fp M 1 4 [(12, .bool (decide ((al.length : Int) ≥ (q.length : Int))))] fun a M => s_d0 ?_
 rcases M.tf 12 rfl with ⟨hb12, M⟩ | ⟨hb12, M⟩
 ·
  have hd12 := of_decide_eq_true hb12
  have hless := qf6 ha1 h2 hat t2 h0 (by omega)
  refine s_ct M (wp_skip (wp_block (s_fs1 ?_)))
  refine fp M 1 0 [(13, .slice X al.length ca)] fun a M => s_fl M 1 fun a M => ?_
  refine fp M 1 2 [(15, .slice A2 q.length c2)] fun a M => s_fl M 3 fun a M => ?_
  refine fp M 1 4 [(17, vI (IntKind.i64.wrap ((al.length : Int) - (q.length : Int))))] fun a M => ?_
  replace M := M.sp 17 (vI (al.length - q.length : Nat)) rfl (qc (by omega) (by omega))
  refine fp M 1 5 [(7, vI (al.length - q.length : Nat))] fun a M => s_d0 (s_fs1 ?_)
  refine fp M 1 0 [(18, .slice Aq ql.length cq)] fun a M => fo M 1 rfl rfl (s_el M O qa0 [(0, vI 1)] #[vI 1] fun a w19 g19 M O => ?_)
  refine fp M 1 2 [(20, vI (al.length - q.length : Nat))] fun a M => fo M 3 rfl rfl ?_
  refine s_ek M O [.slice Aq ql.length cq, vS g19 1 1, vI (al.length - q.length : Nat)] (qip _ _ _ _ ql [1] (al.length - q.length) _ hq1 one01 (O.rd (i := 1) rfl) (O.rdBlk (i := 0) (n := 1) (size := 1) rfl rfl) (by omega) (by simp only [List.length_singleton]; omega)) fun A21 c21 w21 hc21 O a M => ?_
  refine fp M 1 4 [(6, .slice A21 ((sumL ql [1] (al.length - q.length)).length) c21)] fun a M => s_d0 (qa ?_)
  refine fp M 3 0 [(24, vI (al.length - q.length : Nat)), (23, .slice A2 q.length c2), (22, .slice X al.length ca)] fun a M => fo M 3 rfl rfl ?_
  refine s_ek M O [.slice X al.length ca, .slice A2 q.length c2, vI (al.length - q.length : Nat)] (qip _ _ _ _ al q (al.length - q.length) _ ha1 h2 (by rcases hX with ⟨rfl, rfl, rfl⟩ | ⟨rfl, rfl, rfl, _⟩ <;> first | exact O.old hr | exact O.rd (i := 3) rfl) (O.old hr2) (by omega) (by omega)) fun A25 c25 w25 hc25 O a M => ?_
  refine fp M 1 4 [(0, .slice A25 ((sumL al q (al.length - q.length)).length) c25)] fun a M => s_d0 ?_
  exact ⟨_, hless, (sumL al q (al.length - q.length)), A25, c25, A25, (sumL al q (al.length - q.length)), c25, (sumL ql [1] (al.length - q.length)), A21, c21, sum01 ha1 _, sumTr _ _ _, by omega, qok h2 t2 h0 ha1 hat (by omega) hdv, .inr ⟨rfl, rfl, rfl, by omega⟩, sum01 hq1 _, by have := q0c ql [1] (al.length - q.length); simp only [List.length_singleton] at this; omega, hc25, rfl, M.sub (by kernel_rfl), O.pk [1, 0]⟩
 have hd12 := of_decide_eq_false hb12
 refine s_cf M (wp_exit (s_fs1 ?_))
 refine fp M 4 0 [(5, .slice X al.length ca), (4, .slice Aq ql.length cq)] fun a M => s_d0 (wp_ret ?_)
 have hR : divR (p.length + 1) p q = al := by rw [← hdv, qol (by omega)]
 exact s_rt2 rfl M rfl rfl (qwn hR hX (O.own (i := 1) rfl) hcr (by omega) O.below)
theorem qou (A : Option Addr) (c y : Nat) (hy : y < 256) (w : World) (hr : Rd w w.heap.size 1 A 1 ([y].map B8)) :
    Calls Tryz.prog 130 #[.slice A 1 c] w (PolIs w (bitsOf y)) := by
 refine s_ce Tryz.func130 [.slice A 1 c] [(0, .slice A 1 c)] fun a M => ?_
 have O := Mem.start w
 refine s_fs1 ?_
 refine fp M 1 0 [(2, .slice none 0 0)] fun a M => s_d0 (s_fs1 ?_)
 refine fp M 1 0 [(6, .slice A 1 c)] fun a M => s_fl M 1 fun a M => ?_
 refine fp M 2 2 [(3, vI 8)] fun a M => s_d0 (s_fs1 ?_)
 refine fp M 2 0 [(10, vI 40)] fun a M => fo M 2 rfl rfl ?_
 refine qi0 M O (m := 40) rfl qa0 rfl rfl (by omega) (by omega) rfl (by decide) fun a w11 g11 M O => ?_
 refine fp M 1 3 [(4, vS g11 40 40)] fun a M => s_d0 ?_
 have hnsomeg110none : 40 = 40 := rfl
 replace O := O.reRow (i := 0) (ys := (qay y 0).map I64v) rfl hnsomeg110none (by rw [qmv]; kernel_rfl)
 replace M := M.sp 4 (vS g11 40 40) rfl (by rw [hnsomeg110none])
 replace M := M.sp 11 (vS g11 40 40) rfl (by rw [hnsomeg110none])
 refine wp_seq (s_fs1 ?_)
 refine fp M 1 0 [(5, vI 0)] fun a M => s_d0 (wp_block ?_)
 refine qe (fun mS aS wS => ∃ (k : Nat), (k ≤ 8) ∧ mS = 8 - k ∧ Fr aS 52 [] [(5, vI k), (11, vS g11 40 40), (4, vS g11 40 40), (3, vI 8), (2, .slice none 0 0), (0, .slice A 1 c)] ∧ Mem w wS [.row (vS g11 40 40) 40 ((qay y k).map I64v) 3 1]) (m := 8 - 0) ⟨0, by omega, rfl, M.sub (by kernel_rfl), O.pk [0]⟩ ?_
 clear M O; rintro mS a w_ ⟨k, hk, rfl, M, O⟩
 refine wp_seq (s_fs1 ?_)
 refine fp M 3 0 [(14, .bool (decide ((k : Int) < (8 : Int))))] fun a M => s_d0 ?_
 rcases M.tf 14 rfl with ⟨hb14, M⟩ | ⟨hb14, M⟩
 ·
  have hd14 := of_decide_eq_true hb14
  have hk8 : k < 8 := by omega
  refine s_ct M (wp_skip (wp_seq (wp_block (qa ?_))))
  refine fp M 6 0 [(22, vI (IntKind.i64.wrap (39 - (k : Int)))), (17, vS g11 40 40)] fun a M => ?_
  replace M := M.sp 22 (vI (39 - k : Nat)) rfl (qc (by omega) (by omega))
  refine fp M 3 6 [(25, vI (IntKind.i64.wrap (Int.tdiv (k : Int) 8))), (23, .slice A 1 c)] fun a M => ?_
  replace M := M.sp 25 (vI (k / 8 : Nat)) rfl (qd4 .i64 8 (by show _ ≤ 9223372036854775807; omega))
  obtain ⟨gA, oA, rfl, _⟩ := hr.qi (Nat.lt_of_le_of_lt (Nat.zero_le _) (show k / 8 < 1 from by omega)) (by decide)
  refine s_fz M O 9 rfl (v := vP gA (oA + (k / 8) * 1)) (Yl.ix gA oA (k / 8) 1 rfl rfl rfl) fun a M => ?_
  refine s_fz M O 10 rfl (v := vB ([y].getD (k / 8) 0)) (Yl.o1 hr (k / 8) 0 (by first | omega | (simp; omega)) rfl rfl) fun a M => ?_
  replace M := M.sp 27 (vB y) rfl (by rw [show k / 8 = 0 by omega]; rfl)
  refine fp M 2 11 [(29, vI (Int.tmod (k : Int) 8))] fun a M => ?_
  replace M := M.sp 29 (vI (k % 8 : Nat)) rfl (qas .i64 _ 8)
  refine s_fz M O 13 rfl (v := vB (y / 2 ^ (k % 8) : Nat)) (Yl.shrN (m := y) (n := (k % 8)) rfl rfl rfl (by show _ ≤ 8; omega)) fun a M => ?_
  refine fp M 1 14 [(31, vB (Int.tmod ((y / 2 ^ (k % 8) : Nat) : Int) 2))] fun a M => ?_
  replace M := M.sp 31 (vB ((y / 2 ^ (k % 8)) % 2 : Nat)) rfl (qas .u8 _ 2)
  refine fp M 1 15 [(32, vI (IntKind.i64.wrap (((y / 2 ^ (k % 8)) % 2 : Nat) : Int)))] fun a M => ?_
  replace M := M.sp 32 (vI ((y / 2 ^ (k % 8)) % 2 : Nat)) rfl (qc rfl (by omega))
  refine s_fz M O 16 rfl (v := vP g11 ((39 - k) * 1)) (Yl.ix0 g11 (39 - k) 1 rfl rfl rfl) fun a M => ?_
  refine fo M 17 rfl rfl ?_
  refine qa2 M O (i := 0) rfl rfl rfl rfl (by kernel_rfl) rfl rfl (by rw [List.length_map, qar]; omega) fun w6_17 O => ?_
  replace O := O.asRow (i := 0) (ys := (qay y (k + 1)).map I64v) rfl ((qd3 I64v (qay y k) (39 - k) (y / 2 ^ (k % 8) % 2) (by rw [qar]; omega)).trans (by rw [show k % 8 = k by omega, qmw (by omega)]))
  refine s_d0 (qa ?_)
  refine fp M 2 0 [(16, vI (IntKind.i64.wrap ((k : Int) + 1)))] fun a M => ?_
  replace M := M.sp 16 (vI (k + 1 : Nat)) rfl (qc (by omega) (by omega))
  refine fp M 1 2 [(5, vI (k + 1 : Nat))] fun a M => s_d0 ?_
  exact ⟨_, (by omega), k + 1, by omega, rfl, M.sub (by kernel_rfl), O.pk [0]⟩
 have hd14 := of_decide_eq_false hb14
 obtain rfl : k = 8 := by omega
 refine s_cf M (wp_exit (wp_seq (wp_block ?_)))
 refine qe (fun mS aS wS => ∃ (j : Nat), (j ≤ 40) ∧ (trimL ((qay y 8).take j) = trimL (qay y 8)) ∧ mS = 0 + j ∧ Fr aS 52 [] [(14, .bool false), (5, vI 8), (11, vS g11 40 40), (4, vS g11 j 40), (3, vI 8), (2, .slice none 0 0), (0, .slice A 1 c)] ∧ Mem w wS [.row (vS g11 40 40) 40 ((qay y 8).map I64v) 3 1]) (m := 0 + 40) ⟨40, by omega, by rw [List.take_of_length_le (by rw [qar]; omega)], rfl, M.sub (by kernel_rfl), O.pk [0]⟩ ?_
 clear M O; rintro mS a w_ ⟨j, hj, ht, rfl, M, O⟩
 have hbl := qar y 8
 refine wp_seq (s_fs1 ?_)
 refine fp M 1 0 [(34, vS g11 j 40)] fun a M => s_fl M 1 fun a M => ?_
 refine fp M 2 2 [(37, .bool (decide ((j : Int) > (0 : Int))))] fun a M => ?_
 rcases M.tf 37 rfl with ⟨hb37, M⟩ | ⟨hb37, M⟩
 ·
  have hd37 := of_decide_eq_true hb37
  have hj0 : 0 < j := by omega
  refine fp M 2 4 [(39, vS g11 j 40), (38, vS g11 j 40)] fun a M => s_fl M 6 fun a M => ?_
  refine fp M 1 7 [(41, vI (IntKind.i64.wrap ((j : Int) - 1)))] fun a M => ?_
  replace M := M.sp 41 (vI (j - 1 : Nat)) rfl (qc (by omega) (by omega))
  refine s_fz M O 8 rfl (v := vP g11 ((j - 1) * 1)) (Yl.ix0 g11 (j - 1) 1 rfl rfl rfl) fun a M => ?_
  refine s_fz M O 9 rfl (v := vI ((qay y 8).getD (j - 1) 0)) (Yl.r1 0 (j - 1) 0 (by first | omega | (simp; omega)) rfl rfl rfl) fun a M => ?_
  refine fp M 2 10 [(45, .bool ((((qay y 8).getD (j - 1) 0) : Int) == (0 : Int)))] fun a M => s_d0 ?_
  rcases M.tf 45 rfl with ⟨hb45, M⟩ | ⟨hb45, M⟩
  ·
   have hd45 := eq_of_beq hb45
   refine s_ct M (wp_skip (wp_block (qa ?_)))
   refine fp M 2 0 [(47, vS g11 j 40), (46, vS g11 j 40)] fun a M => s_fl M 2 fun a M => ?_
   refine fp M 1 3 [(49, vI (IntKind.i64.wrap ((j : Int) - 1)))] fun a M => ?_
   replace M := M.sp 49 (vI (j - 1 : Nat)) rfl (qc (by omega) (by omega))
   refine s_fz M O 4 rfl (v := vS g11 (j - 1) 40) (Yl.q1 qa0 (j := j - 1) rfl rfl rfl (by omega)) fun a M => ?_
   refine fp M 1 5 [(4, vS g11 (j - 1) 40)] fun a M => s_d0 ?_
   exact ⟨_, (by omega), (j - 1), by omega, qlc (by omega) (by omega) (by omega) ht, rfl, M.sub (by kernel_rfl), O.pk [0]⟩
  have hd45 := ne_of_beq_false hb45
  refine s_cf M (wp_exit (s_fs1 ?_))
  refine fp M 2 0 [(2, vS g11 j 40)] fun a M => s_d0 (wp_ret ?_)
  have hjt := qem (l := qay y 8) (k := j) (by omega) (fun _ => by omega) ht
  have hjl : (bitsOf y).length = j := by rw [← qio, hjt, List.length_take]; omega
  have HM2 := O.cutRow (i := 0) (m := (bitsOf y).length) (ys := (bitsOf y).map I64v) rfl (by omega) (by rw [Nat.mul_one, ← List.map_take, hjl, ← hjt]; rfl)
  exact s_rt1 rfl M rfl (⟨⟨some ⟨g11, 0, none⟩, 40, by rw [hjl], HM2.own (i := 0) rfl, by omega⟩, O.below⟩)
 have hd37 := of_decide_eq_false hb37
 refine fp M 8 4 [(45, .bool false)] fun a M => s_d0 (s_cf M (wp_exit (s_fs1 ?_)))
 refine fp M 2 0 [(2, vS g11 j 40)] fun a M => s_d0 (wp_ret ?_)
 have hjt := qem (l := qay y 8) (k := j) (by omega) (fun _ => by omega) ht
 have hjl : (bitsOf y).length = j := by rw [← qio, hjt, List.length_take]; omega
 have HM2 := O.cutRow (i := 0) (m := (bitsOf y).length) (ys := (bitsOf y).map I64v) rfl (by omega) (by rw [Nat.mul_one, ← List.map_take, hjl, ← hjt]; rfl)
 exact s_rt1 rfl M rfl (⟨⟨some ⟨g11, 0, none⟩, 40, by rw [hjl], HM2.own (i := 0) rfl, by omega⟩, O.below⟩)
theorem qlg (w : World) : Calls Tryz.prog 131 #[.int .u64 4374732215] w (PolIs w genP) := qtz 4374732215 (by decide) w
theorem genlen : 0 < genP.length := by rw [qdt]; decide
theorem qmx (A : Option Addr) (c : Nat) (w : World) (hr : Rd w w.heap.size 1 A 1 ([0].map B8)) :
    Calls Tryz.prog 103 #[.slice A 1 c] w (Is w (.int .u32 (crcT 0 : Int))) := by
 refine s_ce Tryz.func103 [.slice A 1 c] [(0, .slice A 1 c)] fun a M => ?_
 have O := Mem.start w
 refine s_fs1 ?_
 refine fp M 1 0 [(2, vW 0)] fun a M => s_d0 (s_fs1 ?_)
 refine fp M 1 0 [(8, .slice A 1 c)] fun a M => fo M 1 rfl rfl ?_
 refine s_ek M O [.slice A 1 c] (qou _ _ 0 (by omega) _ (O.old hr)) fun A9 c9 w9 hc9 O a M => ?_
 refine fo M 2 rfl rfl ?_
 refine s_ek M O [vQ 4374732215] (qlg _) fun A10 c10 w10 hc10 O a M => ?_
 refine fo M 3 rfl rfl ?_
 refine e_cl M [.slice A9 ((bitsOf 0).length) c9, .slice A10 ((genP).length) c10] rfl rfl (qiq _ _ _ _ (bitsOf 0) genP _ (qon _) (qom _) (qop _) (qoo _) genlen (O.rd (i := 1) rfl) (O.rd (i := 0) rfl) (by have := qjq 0; omega) (by rw [qdt]; decide)) ?_
 rintro _ w11 ⟨⟨vq, X, cX, rfl, hd1, hd2⟩, hbw⟩
 refine ⟨_, rfl, ?_⟩
 replace O := O.call hbw
 clear M; intro a M
 refine fp M 5 4 [(4, .slice X ((linR 0).length) cX)] fun a M => s_d0 ?_
 have hl32 := qoq 0
 have hl0 : (linR 0).length = 0 := by rw [qty]; rfl
 refine s_fs1 ?_
 refine fp M 1 0 [(5, vW 0)] fun a M => s_d0 (wp_seq (s_fs1 ?_))
 refine fp M 1 0 [(6, vI 0)] fun a M => s_d0 (wp_block ?_)
 replace O := O.pk (fs' := []) []
 refine qe (fun mS aS wS => ∃ (k : Nat), (k ≤ (linR 0).length) ∧ mS = (linR 0).length - k ∧ Fr aS 31 [] [(6, vI k), (5, vW (remUp (linR 0) k)), (4, .slice X ((linR 0).length) cX), (2, vW 0)] ∧ Mem w wS []) (m := (linR 0).length - 0) ⟨0, Nat.zero_le _, rfl, M.sub (by kernel_rfl), O.pk []⟩ ?_
 clear M O; rintro mS a w_ ⟨k, hk, rfl, M, O⟩
 refine wp_seq (s_fs1 ?_)
 refine fp M 2 0 [(15, .slice X ((linR 0).length) cX), (14, vI k)] fun a M => s_fl M 2 fun a M => ?_
 refine fp M 1 3 [(17, .bool (decide ((k : Int) < (((linR 0).length : Nat) : Int))))] fun a M => s_d0 ?_
 rcases M.tf 17 rfl with ⟨hb17, M⟩ | ⟨hb17, M⟩
 ·
  have hd17 := of_decide_eq_true hb17
  omega
 have hd17 := of_decide_eq_false hb17
 refine s_cf M (wp_exit (s_fs1 ?_))
 refine fp M 2 0 [(2, vW (remUp (linR 0) k))] fun a M => s_d0 (wp_ret ?_)
 exact s_rt1 rfl M rfl (⟨by rw [show k = (linR 0).length by omega, qle, qtx, qj9 0 (by omega)], O.below⟩)
theorem qqb (A : Option Addr) (c y : Nat) (hy : y < 256) (hy0 : y ≠ 0) (w : World) (hr : Rd w w.heap.size 1 A 1 ([y].map B8)) :
    Calls Tryz.prog 103 #[.slice A 1 c] w (Is w (.int .u32 (crcT y : Int))) := by
 refine s_ce Tryz.func103 [.slice A 1 c] [(0, .slice A 1 c)] fun a M => ?_
 have O := Mem.start w
 refine s_fs1 ?_
 refine fp M 1 0 [(2, vW 0)] fun a M => s_d0 (s_fs1 ?_)
 refine fp M 1 0 [(8, .slice A 1 c)] fun a M => fo M 1 rfl rfl ?_
 refine s_ek M O [.slice A 1 c] (qou _ _ y (by omega) _ (O.old hr)) fun A9 c9 w9 hc9 O a M => ?_
 refine fo M 2 rfl rfl ?_
 refine s_ek M O [vQ 4374732215] (qlg _) fun A10 c10 w10 hc10 O a M => ?_
 refine fo M 3 rfl rfl ?_
 refine e_cl M [.slice A9 ((bitsOf y).length) c9, .slice A10 ((genP).length) c10] rfl rfl (qiq _ _ _ _ (bitsOf y) genP _ (qon _) (qom _) (qop _) (qoo _) genlen (O.rd (i := 1) rfl) (O.rd (i := 0) rfl) (by have := qjq y; omega) (by rw [qdt]; decide)) ?_
 rintro _ w11 ⟨⟨vq, X, cX, rfl, hd1, hd2⟩, hbw⟩
 obtain ⟨ho, hcX⟩ := hd2 (by rw [qdt]; exact qwm y hy hy0)
 refine ⟨_, rfl, ?_⟩
 replace O := O.callRow hbw ho
 clear M; intro a M
 refine fp M 5 4 [(4, .slice X ((linR y).length) cX)] fun a M => s_d0 ?_
 have hl32 := qoq y
 refine s_fs1 ?_
 refine fp M 1 0 [(5, vW 0)] fun a M => s_d0 (wp_seq (s_fs1 ?_))
 refine fp M 1 0 [(6, vI 0)] fun a M => s_d0 (wp_block ?_)
 replace O := O.pk (fs' := [.row (.slice X ((linR y).length) cX) ((linR y).length) ((linR y).map I64v) 3 1]) [0]
 refine qe (fun mS aS wS => ∃ (k : Nat), (k ≤ (linR y).length) ∧ mS = (linR y).length - k ∧ Fr aS 31 [] [(6, vI k), (5, vW (remUp (linR y) k)), (4, .slice X ((linR y).length) cX), (2, vW 0)] ∧ Mem w wS [.row (.slice X ((linR y).length) cX) ((linR y).length) ((linR y).map I64v) 3 1]) (m := (linR y).length - 0) ⟨0, Nat.zero_le _, rfl, M.sub (by kernel_rfl), O.pk [0]⟩ ?_
 clear M O; rintro mS a w_ ⟨k, hk, rfl, M, O⟩
 refine wp_seq (s_fs1 ?_)
 refine fp M 2 0 [(15, .slice X ((linR y).length) cX), (14, vI k)] fun a M => s_fl M 2 fun a M => ?_
 refine fp M 1 3 [(17, .bool (decide ((k : Int) < (((linR y).length : Nat) : Int))))] fun a M => s_d0 ?_
 rcases M.tf 17 rfl with ⟨hb17, M⟩ | ⟨hb17, M⟩
 ·
  have hd17 := of_decide_eq_true hb17
  have hk31 : k < 32 := by omega
  refine s_ct M (wp_skip (wp_seq (wp_block (s_fs1 ?_))))
  refine fp M 2 0 [(21, vI k), (20, .slice X ((linR y).length) cX)] fun a M => ?_
  obtain ⟨gX, rfl⟩ := q9 (O.own (i := 0) rfl) (Nat.lt_of_le_of_lt (Nat.zero_le _) (show k < (linR y).length from by omega))
  refine s_fz M O 2 rfl (v := vP gX (k * 1)) (Yl.ix0 gX k 1 rfl rfl rfl) fun a M => ?_
  refine s_fz M O 3 rfl (v := vI ((linR y).getD k 0)) (Yl.r1 0 k 0 (by first | omega | (simp; omega)) rfl rfl rfl) fun a M => ?_
  refine fp M 1 4 [(24, .bool ((((linR y).getD k 0) : Int) == (1 : Int)))] fun a M => s_d0 ?_
  rcases M.tf 24 rfl with ⟨hb24, M⟩ | ⟨hb24, M⟩
  ·
   have hd24 := eq_of_beq hb24
   have hrs := q0e (linR y) hk31
   refine s_ct M (qa ?_)
   refine fp M 3 0 [(27, vI (IntKind.i64.wrap (31 - (k : Int)))), (25, vW (remUp (linR y) k))] fun a M => ?_
   replace M := M.sp 27 (vI (31 - k : Nat)) rfl (qc (by omega) (by omega))
   refine s_fz M O 3 rfl (v := vW (1 * 2 ^ (31 - k) : Nat)) (Yl.shlN (m := 1) (n := (31 - k)) rfl rfl rfl (by show _ ≤ 32; omega) (pow31 k)) fun a M => ?_
   refine fp M 1 4 [(29, vW (IntKind.u32.wrap ((remUp (linR y) k : Int) + ((1 * 2 ^ (31 - k) : Nat) : Int))))] fun a M => ?_
   replace M := M.sp 29 (vW (remUp (linR y) (k + 1))) rfl (qa3 (by rw [qdd, if_pos (by omega)]; omega) (by rw [qdd, if_pos (by omega)]; omega))
   refine fp M 1 5 [(5, vW (remUp (linR y) (k + 1)))] fun a M => s_d0 (qa ?_)
   refine fp M 2 0 [(19, vI (IntKind.i64.wrap ((k : Int) + 1)))] fun a M => ?_
   replace M := M.sp 19 (vI (k + 1 : Nat)) rfl (qc (by omega) (by omega))
   refine fp M 1 2 [(6, vI (k + 1 : Nat))] fun a M => s_d0 ?_
   exact ⟨_, (by omega), k + 1, by omega, rfl, M.sub (by kernel_rfl), O.pk [0]⟩
  have hd24 := ne_of_beq_false hb24
  replace M := M.sp 5 (.int .u32 (remUp (linR y) (k + 1) : Int)) rfl (by rw [qdd, if_neg (by omega), Nat.add_zero])
  refine s_cf M (wp_skip (qa ?_))
  refine fp M 2 0 [(19, vI (IntKind.i64.wrap ((k : Int) + 1)))] fun a M => ?_
  replace M := M.sp 19 (vI (k + 1 : Nat)) rfl (qc (by omega) (by omega))
  refine fp M 1 2 [(6, vI (k + 1 : Nat))] fun a M => s_d0 ?_
  exact ⟨_, (by omega), k + 1, by omega, rfl, M.sub (by kernel_rfl), O.pk [0]⟩
 have hd17 := of_decide_eq_false hb17
 refine s_cf M (wp_exit (s_fs1 ?_))
 refine fp M 2 0 [(2, vW (remUp (linR y) k))] fun a M => s_d0 (wp_ret ?_)
 exact s_rt1 rfl M rfl (⟨by rw [show k = (linR y).length by omega, qle, qtx, qj9 y (by omega)], O.below⟩)
theorem qqc (A : Option Addr) (c y : Nat) (hy : y < 256) (w : World) (hr : Rd w w.heap.size 1 A 1 ([y].map B8)) : Calls Tryz.prog 103 #[.slice A 1 c] w (Is w (.int .u32 (crcT y : Int))) := by
 by_cases h : y = 0
 ·subst h; exact qmx A c w hr
 ·exact qqb A c y hy h w hr
theorem qt0 (c : Nat) (hc : c < 4294967296) (A : Option Addr) (n cp : Nat) (l : List Nat) (w : World) (hr : Rd w w.heap.size 1 A n (l.map B8)) (hln : l.length = n) (hn : n ≤ 1000000000) (hl : ∀ b ∈ l, b < 256) :
    Calls Tryz.prog 77 #[.int .u32 (c : Int), .slice A n cp] w (Is w (.int .u32 ((4294967295 - qo (4294967295 - c) l : Nat) : Int))) := by
 refine s_ce Tryz.func77 [vW c, .slice A n cp] [(0, vW c), (1, .slice A n cp)] fun a M => ?_
 have O := Mem.start w
 refine s_fs1 ?_
 refine fp M 1 0 [(4, vW 0)] fun a M => s_d0 (s_fs1 ?_)
 refine fp M 2 0 [(7, vW (IntKind.u32.wrap (4294967295 - (c : Int))))] fun a M => ?_
 replace M := M.sp 7 (vW (4294967295 - c : Nat)) rfl (qa3 (by omega) (by omega))
 refine fp M 1 2 [(0, vW (4294967295 - c : Nat))] fun a M => s_d0 (wp_seq (s_fs1 ?_))
 refine fp M 1 0 [(5, vI 0)] fun a M => s_d0 (wp_block ?_)
 refine qe (fun mS aS wS => ∃ (k : Nat), (k ≤ n) ∧ mS = n - k ∧ Fr aS 29 [] [(5, vI k), (0, vW (qo (4294967295 - c) (l.take k))), (4, vW 0), (1, .slice A n cp)] ∧ Mem w wS []) (m := n - 0) ⟨0, Nat.zero_le _, rfl, M.sub (by kernel_rfl), O.pk []⟩ ?_
 clear M O; rintro mS a w_ ⟨k, hk, rfl, M, O⟩
 have hcr := qcu (l.take k) (c := 4294967295 - c) (by omega) (qe6 hl k)
 refine wp_seq (s_fs1 ?_)
 refine fp M 2 0 [(9, .slice A n cp), (8, vI k)] fun a M => s_fl M 2 fun a M => ?_
 refine fp M 1 3 [(11, .bool (decide ((k : Int) < (n : Int))))] fun a M => s_d0 ?_
 rcases M.tf 11 rfl with ⟨hb11, M⟩ | ⟨hb11, M⟩
 ·
  have hd11 := of_decide_eq_true hb11
  have hk11 : k < n := by omega
  have hxk := getD_lt hl (k := k) (by omega)
  have hy8 : (qo (4294967295 - c) (l.take k) % 256 ^^^ l.getD k 0) < 256 := Nat.xor_lt_two_pow (n := 8) (by omega) (by omega)
  refine s_ct M (wp_skip (wp_seq (wp_block (qa ?_))))
  refine fp M 2 0 [(15, vW (IntKind.u32.wrap (Int.tdiv (qo (4294967295 - c) (l.take k) : Int) 256)))] fun a M => ?_
  replace M := M.sp 15 (vW ((qo (4294967295 - c) (l.take k)) / 256 : Nat)) rfl (qd4 .u32 256 (by show _ ≤ 4294967295; omega))
  refine fp M 2 2 [(17, vW (Int.tmod (qo (4294967295 - c) (l.take k) : Int) 256))] fun a M => ?_
  replace M := M.sp 17 (vW ((qo (4294967295 - c) (l.take k)) % 256 : Nat)) rfl (qas .u32 _ 256)
  refine fp M 1 4 [(18, vB (IntKind.u8.wrap (((qo (4294967295 - c) (l.take k)) % 256 : Nat) : Int)))] fun a M => ?_
  replace M := M.sp 18 (vB (qo (4294967295 - c) (l.take k) % 256 : Nat)) rfl ((qhw (qo (4294967295 - c) (l.take k) % 256)).trans (by rw [Nat.mod_mod]))
  refine fp M 2 5 [(20, vI k), (19, .slice A n cp)] fun a M => ?_
  obtain ⟨gA, oA, rfl, _⟩ := hr.qi (Nat.lt_of_le_of_lt (Nat.zero_le _) (show k < n from by omega)) (by decide)
  refine s_fz M O 7 rfl (v := vP gA (oA + k * 1)) (Yl.ix gA oA k 1 rfl rfl rfl) fun a M => ?_
  have hx49 := getD_lt hl (k := k) (by first | omega | (simp; omega))
  refine s_fz M O 8 rfl (v := vB (l.getD k 0)) (Yl.o1 hr k 0 (by first | omega | (simp; omega)) rfl rfl) fun a M => ?_
  refine fp M 1 9 [(23, vB (IntKind.u8.wrap (BitVec.ofInt (IntKind.u8).bits ((qo (4294967295 - c) (l.take k) % 256 : Nat) : Int) ^^^ BitVec.ofInt (IntKind.u8).bits ((l.getD k 0) : Int)).toNat))] fun a M => ?_
  replace M := M.sp 23 (vB ((qo (4294967295 - c) (l.take k) % 256) ^^^ (l.getD k 0) : Nat)) rfl (q06 (m := qo (4294967295 - c) (l.take k) % 256) (n := (l.getD k 0)) (by omega) (by omega))
  refine fo M 10 rfl rfl (s_el M O ei_u8 [(0, vB ((qo (4294967295 - c) (l.take k) % 256) ^^^ (l.getD k 0) : Nat))] #[vB ((qo (4294967295 - c) (l.take k) % 256) ^^^ (l.getD k 0) : Nat)] fun a w24 g24 M O => ?_)
  refine fo M 11 rfl rfl (e_is M O [vS g24 1 1] (vW (crcT (qo (4294967295 - c) (l.take k) % 256 ^^^ l.getD k 0))) rfl rfl (qqc _ _ (qo (4294967295 - c) (l.take k) % 256 ^^^ l.getD k 0) hy8 _ (O.rdBlk (i := 0) (n := 1) (size := 1) rfl rfl)) fun w25 hbw O a M => ?_)
  refine fp M 1 12 [(26, vW (IntKind.u32.wrap (BitVec.ofInt (IntKind.u32).bits (((qo (4294967295 - c) (l.take k)) / 256 : Nat) : Int) ^^^ BitVec.ofInt (IntKind.u32).bits (crcT (qo (4294967295 - c) (l.take k) % 256 ^^^ l.getD k 0) : Int)).toNat))] fun a M => ?_
  replace M := M.sp 26 (vW (qo (4294967295 - c) (l.take (k + 1)))) rfl (by have h := qgk (m := (qo (4294967295 - c) (l.take k)) / 256) (n := crcT (qo (4294967295 - c) (l.take k) % 256 ^^^ l.getD k 0)) (by omega) (qq2 (by omega)); rw [qgo (by omega), qho]; exact h)
  refine fp M 1 13 [(0, vW (qo (4294967295 - c) (l.take (k + 1))))] fun a M => s_d0 (qa ?_)
  refine fp M 2 0 [(13, vI (IntKind.i64.wrap ((k : Int) + 1)))] fun a M => ?_
  replace M := M.sp 13 (vI (k + 1 : Nat)) rfl (qc (by omega) (by omega))
  refine fp M 1 2 [(5, vI (k + 1 : Nat))] fun a M => s_d0 ?_
  exact ⟨_, (by omega), k + 1, by omega, rfl, M.sub (by kernel_rfl), O.pk []⟩
 have hd11 := of_decide_eq_false hb11
 refine s_cf M (wp_exit (s_fs1 ?_))
 refine fp M 2 0 [(28, vW (IntKind.u32.wrap (4294967295 - (qo (4294967295 - c) (l.take k) : Int))))] fun a M => ?_
 replace M := M.sp 28 (vW (4294967295 - (qo (4294967295 - c) (l.take k)) : Nat)) rfl (qa3 (by omega) (by omega))
 refine fp M 1 2 [(4, vW (4294967295 - (qo (4294967295 - c) (l.take k)) : Nat))] fun a M => s_d0 (wp_ret ?_)
 exact s_rt1 rfl M rfl (⟨by rw [List.take_of_length_le (by omega)], O.below⟩)
theorem qt1 (A : Option Addr) (n cp : Nat) (l : List Nat) (w : World) (hr : Rd w w.heap.size 1 A n (l.map B8)) (hln : l.length = n) (hn : n ≤ 1000000000) (hl : ∀ b ∈ l, b < 256) :
    Calls Tryz.prog 49 #[.slice A n cp] w (Is w (.int .u32 (qu l : Int))) := by
 refine s_ce Tryz.func49 [.slice A n cp] [(0, .slice A n cp)] fun a M => ?_
 have O := Mem.start w
 refine s_fs1 ?_
 refine fp M 1 0 [(2, vW 0)] fun a M => s_d0 (s_fs1 ?_)
 refine fp M 1 0 [(3, .slice A n cp)] fun a M => fo M 1 rfl rfl (e_is M O [vW 0, .slice A n cp] (vW (qu l)) rfl rfl (qt0 0 (by decide) _ _ _ l _ (O.old hr) hln hn hl) fun w4 hbw O a M => ?_)
 refine fp M 1 2 [(2, vW (qu l))] fun a M => s_d0 (wp_ret ?_)
 exact s_rt1 rfl M rfl (⟨rfl, O.below⟩)
theorem qv (A : Option Addr) (n cp : Nat) (l : List Nat) (w : World) (hr : Rd w w.heap.size 1 A n (l.map B8)) (hln : l.length = n) (hn : n ≤ 100000000) (hl : ∀ b ∈ l, b < 256) :
    Calls Tryz.prog 15 #[.slice A n cp] w (qat w (sealL l)) := by
 refine s_ce Tryz.func15 [.slice A n cp] [(0, .slice A n cp)] fun a M => ?_
 have O := Mem.start w
 refine s_fs1 ?_
 refine fp M 1 0 [(2, .slice none 0 0)] fun a M => s_d0 (s_fs1 ?_)
 refine fp M 1 0 [(4, .slice A n cp)] fun a M => fo M 1 rfl rfl (e_is M O [.slice A n cp] (vW (qu l)) rfl rfl (qt1 _ _ _ l _ (O.old hr) hln (by omega) hl) fun w5 hbw O a M => ?_)
 refine fp M 1 2 [(3, vW (qu l))] fun a M => s_d0 ?_
 have hcs := qkb l
 refine s_fs1 ?_
 refine fo M 0 rfl rfl ?_
 refine qa8 M O rfl ei_u8 rfl (by decide) fun a w6 g6 M O => ?_
 refine fp M 1 1 [(7, .slice A n cp)] fun a M => fo M 2 rfl rfl (qd M O (i := 0) rfl ei_u8 rfl rfl rfl (news := (l.map B8)) (O.old hr) (q0 _) (by omega) (by omega) rfl (by decide) fun a w8 A8 c8 M O hc8 => ?_)
 refine fp M 2 3 [(10, vW (Int.tmod (qu l : Int) 256))] fun a M => ?_
 replace M := M.sp 10 (vW ((qu l) % 256 : Nat)) rfl (qas .u32 _ 256)
 refine fp M 1 5 [(11, vB (IntKind.u8.wrap (((qu l) % 256 : Nat) : Int)))] fun a M => ?_
 replace M := M.sp 11 (vB (qu l % 256 : Nat)) rfl ((qhw (qu l % 256)).trans (by rw [Nat.mod_mod]))
 refine fp M 2 6 [(13, vW (IntKind.u32.wrap (Int.tdiv (qu l : Int) 256)))] fun a M => ?_
 replace M := M.sp 13 (vW ((qu l) / 256 : Nat)) rfl (qd4 .u32 256 (by show _ ≤ 4294967295; omega))
 refine fp M 1 8 [(14, vW (Int.tmod (((qu l) / 256 : Nat) : Int) 256))] fun a M => ?_
 replace M := M.sp 14 (vW (((qu l) / 256) % 256 : Nat)) rfl (qas .u32 _ 256)
 refine fp M 1 9 [(15, vB (IntKind.u8.wrap ((((qu l) / 256) % 256 : Nat) : Int)))] fun a M => ?_
 replace M := M.sp 15 (vB (qu l / 256 % 256 : Nat)) rfl ((qhw (qu l / 256 % 256)).trans (by rw [Nat.mod_mod]))
 refine fp M 2 10 [(17, vW (IntKind.u32.wrap (Int.tdiv (qu l : Int) 65536)))] fun a M => ?_
 replace M := M.sp 17 (vW ((qu l) / 65536 : Nat)) rfl (qd4 .u32 65536 (by show _ ≤ 4294967295; omega))
 refine fp M 1 12 [(18, vW (Int.tmod (((qu l) / 65536 : Nat) : Int) 256))] fun a M => ?_
 replace M := M.sp 18 (vW (((qu l) / 65536) % 256 : Nat)) rfl (qas .u32 _ 256)
 refine fp M 1 13 [(19, vB (IntKind.u8.wrap ((((qu l) / 65536) % 256 : Nat) : Int)))] fun a M => ?_
 replace M := M.sp 19 (vB (qu l / 65536 % 256 : Nat)) rfl ((qhw (qu l / 65536 % 256)).trans (by rw [Nat.mod_mod]))
 refine fp M 2 14 [(21, vW (IntKind.u32.wrap (Int.tdiv (qu l : Int) 16777216)))] fun a M => ?_
 replace M := M.sp 21 (vW ((qu l) / 16777216 : Nat)) rfl (qd4 .u32 16777216 (by show _ ≤ 4294967295; omega))
 refine fp M 1 16 [(22, vB (IntKind.u8.wrap (((qu l) / 16777216 : Nat) : Int)))] fun a M => ?_
 replace M := M.sp 22 (vB (((qu l) / 16777216) % 256 : Nat)) rfl (qhw ((qu l) / 16777216))
 refine fo M 17 rfl rfl (s_el M O ei_u8 [(0, vB (qu l % 256 : Nat)), (1, vB (qu l / 256 % 256 : Nat)), (2, vB (qu l / 65536 % 256 : Nat)), (3, vB (((qu l) / 16777216) % 256 : Nat))] #[vB (qu l % 256 : Nat), vB (qu l / 256 % 256 : Nat), vB (qu l / 65536 % 256 : Nat), vB (((qu l) / 16777216) % 256 : Nat)] fun a w23 g23 M O => ?_)
 refine fo M 18 rfl rfl (qd M O (i := 1) rfl ei_u8 rfl rfl rfl (news := ((le4 (qu l)).map B8)) (O.rdBlk (i := 0) (n := 4) (size := 1) rfl rfl) (q0 _) (by omega) (by omega) rfl (by decide) fun a w24 A24 c24 M O hc24 => ?_)
 refine fp M 1 19 [(2, .slice A24 (0 + n + 4) c24)] fun a M => s_d0 ?_
 have hnA24 : 0 + n + 4 = (sealL l).length := by rw [ze]; omega
 replace O := O.reRow (i := 1) (ys := (sealL l).map B8) rfl hnA24 (by simp [sealL])
 rw [hnA24] at hc24
 replace M := M.sp 2 (.slice A24 ((sealL l).length) c24) rfl (by rw [hnA24])
 replace M := M.sp 24 (.slice A24 ((sealL l).length) c24) rfl (by rw [hnA24])
 refine wp_ret ?_
 replace O := O.pk (fs' := [.row (.slice A24 ((sealL l).length) c24) ((sealL l).length) ((sealL l).map B8) 5 1]) [1]
 exact s_rt1 rfl M rfl (⟨⟨_, _, rfl, O.own (i := 0) rfl, hc24⟩, O.below⟩)
theorem qlh (A : Option Addr) (n cp : Nat) (l : List Nat) (w : World) (hr : Rd w w.heap.size 1 A n (l.map B8)) (hc : n ≤ cp) (hln : l.length = n) (hn : n ≤ 100000000) (hl : ∀ b ∈ l, b < 256) :
    Calls Tryz.prog 100 #[.slice A n cp] w (Is w (.bool (zb l))) := by
 refine s_ce Tryz.func100 [.slice A n cp] [(0, .slice A n cp)] fun a M => ?_
 have O := Mem.start w
 refine s_fs1 ?_
 refine fp M 1 0 [(2, .bool false)] fun a M => s_d0 (wp_seq (s_fs1 ?_))
 refine fp M 1 0 [(3, .slice A n cp)] fun a M => s_fl M 1 fun a M => ?_
 refine fp M 1 2 [(5, .bool (decide ((n : Int) < (4 : Int))))] fun a M => s_d0 ?_
 rcases M.tf 5 rfl with ⟨hb5, M⟩ | ⟨hb5, M⟩
 ·
  have hd5 := of_decide_eq_true hb5
  refine s_ct M (s_fs1 ?_)
  refine fp M 1 0 [(2, .bool false)] fun a M => s_d0 (wp_ret ?_)
  exact s_rt1 rfl M rfl (⟨by rw [qfs hln (by omega)], O.below⟩)
 have hd5 := of_decide_eq_false hb5
 refine s_cf M (wp_skip (wp_seq ?_))
 refine qz O [] [] [] fun O Z => ?_
 refine ap M (fun _ => Z) [0, 1, 7] (bf 11 [0, 1, 7]) [(13, .slice A n cp), (7, .slice A n cp), (6, .slice A n cp)] fun a M => ?_
 refine s_al M Z 2 fun a M => ?_
 refine qg M (fun _ => Z) (i := 3) rfl rfl (d := 9) rfl (by decide) (by kernel_rfl) (fun _ _ _ h => h) (v := vI (IntKind.i64.wrap ((n : Int) - 4))) (fun _ => Yl.pure (by kernel_rfl)) fun a M => ?_
 replace M := M.sp 9 (vI (n - 4 : Nat)) rfl (qc (by omega) (by omega))
 refine s_az M Z 4 rfl (v := .slice A (n - 4) cp) (Yl.q1 ei_u8 (j := n - 4) rfl rfl rfl (by omega)) fun a M => ?_
 refine s_az M Z 8 rfl (v := .string (bstr l)) (Yl.str rfl rfl (fun _ h => h.old hr)) fun a M => ?_
 refine s_on M 5 rfl ?_
 refine s_ek M O [.slice A (n - 4) cp] (qv _ (n - 4) _ (l.take (n - 4)) _ (O.old (hr.toB8 (by omega))) (by rw [List.length_take]; omega) (by omega) (qe6 hl _)) fun A11 c11 w11 hc11 O a M => ?_
 refine keepS (O.pk []) (fun Z => ?_)
 refine s_on M 6 rfl ?_
 refine Yl.wp (S := fun wS => Mem w wS _) (v := .string (bstr (sealL (l.take (n - 4))))) (Yl.str rfl rfl (fun _ h => h.rd (i := 0) rfl)) M O rfl (by decide) fun a M => ?_
 refine keepS Z (fun Z => ?_)
 refine ap M (fun _ => Z) [9, 10] (bt 11 []) [(2, .bool (((bstr (sealL (l.take (n - 4))))).toList == ((bstr l)).toList))] fun a M => ?_
 refine qh (by kernel_rfl) ?_
 replace O := O.pk (fs' := []) []
 refine wp_ret ?_
 exact s_rt1 rfl M rfl (⟨by rw [qgp (zw (qe6 hl _)) hl, qp6 hl hln], O.below⟩)
theorem qcx (k j : Int) (w : World) : Calls Tryz.prog 75 #[.int .i64 k, .int .i64 j] w (fun r w' => (∃ v : Int, r = .returned (.int .i64 v)) ∧ Below w.heap.size w w') := by
 refine s_ce Tryz.func75 [vI k, vI j] [(0, vI k), (1, vI j)] fun a M => ?_
 have O := Mem.start w
 refine s_fs1 ?_
 refine fp M 1 0 [(4, vI 0)] fun a M => s_d0 (s_fs1 ?_)
 refine fp M 6 0 [(4, vI (IntKind.i64.wrap ((IntKind.i64.wrap (1000003 * (IntKind.i64.wrap (k + 7)))) + j)))] fun a M => s_d0 (wp_ret ?_)
 exact s_rt1 rfl M rfl (⟨⟨_, rfl⟩, O.below⟩)
theorem qkw (k j : Int) (w : World) : Calls Tryz.prog 76 #[.int .i64 k, .int .i64 j] w (fun r w' => (∃ v : Int, r = .returned (.int .u64 v)) ∧ Below w.heap.size w w') := by
 refine s_ce Tryz.func76 [vI k, vI j] [(0, vI k), (1, vI j)] fun a M => ?_
 have O := Mem.start w
 refine s_fs1 ?_
 refine fp M 1 0 [(4, vQ 0)] fun a M => s_d0 (s_fs1 ?_)
 refine fp M 2 0 [(6, vI j), (5, vI k)] fun a M => fo M 2 rfl rfl ?_
 refine e_cl M [vI k, vI j] rfl rfl (qcx k j _) ?_
 rintro _ w7 ⟨⟨v7, rfl⟩, hbw⟩
 refine ⟨_, rfl, ?_⟩
 replace O := O.call hbw
 clear M; intro a M
 refine fp M 3 3 [(4, vQ (IntKind.u64.wrap ((IntKind.u64.wrap v7) * 11400714819323198485)))] fun a M => s_d0 (wp_ret ?_)
 exact s_rt1 rfl M rfl (⟨⟨_, rfl⟩, O.below⟩)
def Spoilt (W : World) (fs : List Fact) (r : Ending) (w' : World) : Prop := r = .returned (.tuple #[]) ∧ Mem W w' fs
theorem qsa {W w' : World} {fs : List Fact} {r : Ending} (hr : r = .returned (.tuple #[])) (hm : Mem W w' fs) : Spoilt W fs r w' := ⟨hr, hm⟩
theorem qzd {l : List Rw} {k : Nat} (h : k < l.length) : l.drop k = l.getD k Rw.zero :: l.drop (k + 1) := by
 rw [List.drop_eq_getElem_cons h, List.getD_eq_getElem?_getD, List.getElem?_eq_getElem h]
 rfl
theorem Mem.dropRows {W w : World} {gs l m fs : List Fact} (h : Mem W w gs) (he : gs = l ++ (m ++ fs)) : Mem W w fs := (he ▸ h).subl ((List.sublist_append_right _ _).trans (List.sublist_append_right _ _))
theorem qsb (W w : World) (cp : Int) (cr : Nat) (gA : Option Addr) (gc : Nat) (gs : List Gr) (lA : Option Addr) (lc : Nat) (cl : List Int) (uA : Option Addr) (uc : Nat) (cu : List Int) (tA : Option Addr) (tc : Nat) (ts : List Tk) (sA : Option Addr) (sc : Nat) (rs : List Rw) (fs : List Fact) (HW : Mem W w (stF ⟨cp, cr, gA, gc, gs, lA, lc, cl, uA, uc, cu, tA, tc, ts, sA, sc, rs⟩ ++ fs))
    (h1 : gs.length ≤ 1000000) (h2 : cl.length ≤ 1000000) (h3 : cu.length ≤ 1000000) (h4 : ts.length ≤ 1000000) (h5 : rs.length ≤ 1000000) (h6 : ∀ y ∈ rs, y.l.length ≤ 1000000) :
    Calls Tryz.prog 46 #[.agg #[.int .i64 cp, .int .u64 (cr : Int), .slice gA gs.length gc, .slice lA cl.length lc, .slice uA cu.length uc, .slice tA ts.length tc, .slice sA rs.length sc]] w (Spoilt W fs) := by
 refine s_ce Tryz.func46 [.agg #[vI cp, vQ cr, .slice gA gs.length gc, .slice lA cl.length lc, .slice uA cu.length uc, .slice tA ts.length tc, .slice sA rs.length sc]] [(0, .agg #[vI cp, vQ cr, .slice gA gs.length gc, .slice lA cl.length lc, .slice uA cu.length uc, .slice tA ts.length tc, .slice sA rs.length sc])] fun a M => ?_
 have O := Mem.start w
 replace O := HW
 replace O : Mem W _ (.row (.slice gA gs.length gc) gs.length (gs.flatMap grL) 40 2 :: .row (.slice lA cl.length lc) cl.length (cl.map I64i) 3 1 :: .row (.slice uA cu.length uc) cu.length (cu.map I64i) 3 1 :: .row (.slice tA ts.length tc) ts.length (ts.flatMap tkL) 46 8 :: .row (.slice sA rs.length sc) rs.length (rs.map Rw.val) 44 1 :: (rwF 43 rs ++ (fs))) := O
 refine s_fs1 ?_
 refine fo M 0 rfl rfl (s_eb M O #[vI cp, vQ cr, .slice gA gs.length gc, .slice lA cl.length lc, .slice uA cu.length uc, .slice tA ts.length tc, .slice sA rs.length sc] fun a w1 g1 M O => ?_)
 refine s_d0 (wp_seq (s_fs1 ?_))
 refine fp M 1 0 [(2, vI 0)] fun a M => s_d0 (wp_block ?_)
 refine qe (fun mS aS wS => ∃ (i1 : Nat) (V1 : List Value), (i1 ≤ gs.length) ∧ (V1.length = gs.length * 2) ∧ mS = gs.length - i1 ∧ Fr aS 91 [] [(2, vI i1), (1, vP g1 0)] ∧ Mem W wS (.blk g1 #[vI cp, vQ cr, .slice gA gs.length gc, .slice lA cl.length lc, .slice uA cu.length uc, .slice tA ts.length tc, .slice sA rs.length sc] 30 :: .row (.slice gA gs.length gc) gs.length V1 40 2 :: .row (.slice lA cl.length lc) cl.length (cl.map I64i) 3 1 :: .row (.slice uA cu.length uc) cu.length (cu.map I64i) 3 1 :: .row (.slice tA ts.length tc) ts.length (ts.flatMap tkL) 46 8 :: .row (.slice sA rs.length sc) rs.length (rs.map Rw.val) 44 1 :: (rwF 43 rs ++ (fs)))) (m := gs.length - 0) ⟨0, (gs.flatMap grL), Nat.zero_le _, qfz grL 2 zx _, rfl, M.sub (by kernel_rfl), O.pt 6 [0, 1, 2, 3, 4, 5]⟩ ?_
 clear M O; rintro mS a w_ ⟨i1, V1, hi, hV1, rfl, M, O⟩
 refine wp_seq (s_fs1 ?_)
 refine fp M 3 0 [(10, vP g1 2), (8, vI i1)] fun a M => s_fc M O 3 0 fun a M => ?_
 refine s_fl M 4 fun a M => ?_
 refine fp M 1 5 [(13, .bool (decide ((i1 : Int) < (gs.length : Int))))] fun a M => s_d0 ?_
 rcases M.tf 13 rfl with ⟨hb13, M⟩ | ⟨hb13, M⟩
 ·
  have hd13 := of_decide_eq_true hb13
  obtain ⟨ggA, rfl⟩ := q9 (O.own (i := 1) rfl) (Nat.lt_of_le_of_lt (Nat.zero_le _) (show i1 < gs.length from (by omega : i1 < gs.length)))
  refine s_ct M (wp_skip (wp_seq (wp_block ?_)))
  refine zk O (.blk g1 #[vI cp, vQ cr, vS ggA gs.length gc, .slice lA cl.length lc, .slice uA cu.length uc, .slice tA ts.length tc, .slice sA rs.length sc] 30 :: .row (vS ggA gs.length gc) gs.length V1 40 2 :: .row (.slice lA cl.length lc) cl.length (cl.map I64i) 3 1 :: .row (.slice uA cu.length uc) cu.length (cu.map I64i) 3 1 :: .row (.slice tA ts.length tc) ts.length (ts.flatMap tkL) 46 8 :: .row (.slice sA rs.length sc) rs.length (rs.map Rw.val) 44 1 :: (rwF 43 rs ++ (fs))) 6 [0, 1, 2, 3, 4, 5] [8] fun O Z => ?_
  refine ap M (fun _ => Z) [0, 1, 3, 4] (bf 9 [0, 1, 3, 4]) [(20, vI i1), (19, vI i1), (17, vP g1 2)] fun a M => ?_
  refine s_ac M Z 2 0 fun a M => ?_
  refine s_on M 5 rfl ?_
  refine e_cl M [vI 3, vI i1] rfl rfl (qcx 3 (i1 : Int) _) ?_
  rintro _ w21 ⟨⟨v21, rfl⟩, hbw⟩
  refine ⟨_, rfl, ?_⟩
  replace O := O.call hbw
  clear M; intro a M
  refine keepS (O.pt 6 [0, 1, 2, 3, 4, 5]) (fun Z => ?_)
  refine s_az M Z 6 rfl (v := .agg #[vI (-77), vI v21]) (Yl.build (vs := [(0, vI (-77)), (1, vI v21)]) rfl (by kernel_rfl) (by kernel_rfl)) fun a M => ?_
  refine s_az M Z 7 rfl (v := vP ggA (i1 * 2)) (Yl.ix0 ggA i1 2 rfl rfl rfl) fun a M => ?_
  refine s_on M 8 rfl ?_
  refine qdm M O (i := 1) (sz := 2) rfl rfl rfl rfl si_gr rfl (by simp [Value.oneCell']) rfl (by rw [hV1]; omega) fun w4_8 O => ?_
  replace O := O.asRow (i := 1) (ys := putAt V1 (i1 * 2) [vI (-77), vI v21]) rfl (rfl)
  refine noS (by kernel_rfl) ?_
  refine qh (by kernel_rfl) ?_
  refine qa ?_
  refine fp M 2 0 [(15, vI (IntKind.i64.wrap ((i1 : Int) + 1)))] fun a M => ?_
  replace M := M.sp 15 (vI (i1 + 1 : Nat)) rfl (qc (by omega) (by omega))
  refine fp M 1 2 [(2, vI (i1 + 1 : Nat))] fun a M => s_d0 ?_
  exact ⟨_, (by omega), i1 + 1, (putAt V1 (i1 * 2) [vI (-77), vI v21]), by omega, by rw [qbd (by rw [hV1]; show i1 * 2 + 2 ≤ gs.length * 2; omega)]; exact hV1, rfl, M.sub (by kernel_rfl), O.pt 6 [0, 1, 2, 3, 4, 5]⟩
 have hd13 := of_decide_eq_false hb13
 refine s_cf M (wp_exit (wp_seq (s_fs1 ?_)))
 refine fp M 1 0 [(3, vI 0)] fun a M => s_d0 (wp_block ?_)
 refine qe (fun mS aS wS => ∃ (i2 : Nat) (V2 : List Value), (i2 ≤ cl.length) ∧ (V2.length = cl.length * 1) ∧ mS = cl.length - i2 ∧ Fr aS 91 [] [(3, vI i2), (13, .bool false), (2, vI i1), (1, vP g1 0)] ∧ Mem W wS (.blk g1 #[vI cp, vQ cr, .slice gA gs.length gc, .slice lA cl.length lc, .slice uA cu.length uc, .slice tA ts.length tc, .slice sA rs.length sc] 30 :: .row (.slice gA gs.length gc) gs.length V1 40 2 :: .row (.slice lA cl.length lc) cl.length V2 3 1 :: .row (.slice uA cu.length uc) cu.length (cu.map I64i) 3 1 :: .row (.slice tA ts.length tc) ts.length (ts.flatMap tkL) 46 8 :: .row (.slice sA rs.length sc) rs.length (rs.map Rw.val) 44 1 :: (rwF 43 rs ++ (fs)))) (m := cl.length - 0) ⟨0, (cl.map I64i), Nat.zero_le _, by rw [List.length_map, Nat.mul_one], rfl, M.sub (by kernel_rfl), O.pt 6 [0, 1, 2, 3, 4, 5]⟩ ?_
 clear M O; rintro mS a w_ ⟨i2, V2, hi, hV2, rfl, M, O⟩
 refine wp_seq (s_fs1 ?_)
 refine fp M 2 0 [(25, vP g1 3), (24, vI i2)] fun a M => s_fc M O 2 0 fun a M => ?_
 refine s_fl M 3 fun a M => ?_
 refine fp M 1 4 [(28, .bool (decide ((i2 : Int) < (cl.length : Int))))] fun a M => s_d0 ?_
 rcases M.tf 28 rfl with ⟨hb28, M⟩ | ⟨hb28, M⟩
 ·
  have hd28 := of_decide_eq_true hb28
  obtain ⟨glA, rfl⟩ := q9 (O.own (i := 2) rfl) (Nat.lt_of_le_of_lt (Nat.zero_le _) (show i2 < cl.length from (by omega : i2 < cl.length)))
  refine s_ct M (wp_skip (wp_seq (wp_block ?_)))
  refine zk O (.blk g1 #[vI cp, vQ cr, .slice gA gs.length gc, vS glA cl.length lc, .slice uA cu.length uc, .slice tA ts.length tc, .slice sA rs.length sc] 30 :: .row (.slice gA gs.length gc) gs.length V1 40 2 :: .row (vS glA cl.length lc) cl.length V2 3 1 :: .row (.slice uA cu.length uc) cu.length (cu.map I64i) 3 1 :: .row (.slice tA ts.length tc) ts.length (ts.flatMap tkL) 46 8 :: .row (.slice sA rs.length sc) rs.length (rs.map Rw.val) 44 1 :: (rwF 43 rs ++ (fs))) 6 [0, 1, 2, 3, 4, 5] [6] fun O Z => ?_
  refine ap M (fun _ => Z) [0, 2, 3] (bf 7 [0, 2, 3]) [(34, vI i2), (33, vI i2), (31, vP g1 3)] fun a M => ?_
  refine s_ac M Z 1 0 fun a M => ?_
  refine s_on M 4 rfl ?_
  refine e_cl M [vI 4, vI i2] rfl rfl (qcx 4 (i2 : Int) _) ?_
  rintro _ w35 ⟨⟨v35, rfl⟩, hbw⟩
  refine ⟨_, rfl, ?_⟩
  replace O := O.call hbw
  clear M; intro a M
  refine keepS (O.pt 6 [0, 1, 2, 3, 4, 5]) (fun Z => ?_)
  refine s_az M Z 5 rfl (v := vP glA (i2 * 1)) (Yl.ix0 glA i2 1 rfl rfl rfl) fun a M => ?_
  refine s_on M 6 rfl ?_
  refine qa2 M O (i := 2) rfl rfl rfl rfl (by kernel_rfl) rfl rfl (by rw [hV2]; omega) fun w8_6 O => ?_
  replace O := O.asRow (i := 2) (ys := putAt V2 (i2 * 1) [vI v35]) rfl (rfl)
  refine noS (by kernel_rfl) ?_
  refine qh (by kernel_rfl) ?_
  refine qa ?_
  refine fp M 2 0 [(30, vI (IntKind.i64.wrap ((i2 : Int) + 1)))] fun a M => ?_
  replace M := M.sp 30 (vI (i2 + 1 : Nat)) rfl (qc (by omega) (by omega))
  refine fp M 1 2 [(3, vI (i2 + 1 : Nat))] fun a M => s_d0 ?_
  exact ⟨_, (by omega), i2 + 1, (putAt V2 (i2 * 1) [vI v35]), by omega, by rw [qbd (by rw [hV2]; show i2 * 1 + 1 ≤ cl.length * 1; omega)]; exact hV2, rfl, M.sub (by kernel_rfl), O.pt 6 [0, 1, 2, 3, 4, 5]⟩
 have hd28 := of_decide_eq_false hb28
 refine s_cf M (wp_exit (wp_seq (s_fs1 ?_)))
 refine fp M 1 0 [(4, vI 0)] fun a M => s_d0 (wp_block ?_)
 refine qe (fun mS aS wS => ∃ (i3 : Nat) (V3 : List Value), (i3 ≤ cu.length) ∧ (V3.length = cu.length * 1) ∧ mS = cu.length - i3 ∧ Fr aS 91 [] [(4, vI i3), (28, .bool false), (3, vI i2), (13, .bool false), (2, vI i1), (1, vP g1 0)] ∧ Mem W wS (.blk g1 #[vI cp, vQ cr, .slice gA gs.length gc, .slice lA cl.length lc, .slice uA cu.length uc, .slice tA ts.length tc, .slice sA rs.length sc] 30 :: .row (.slice gA gs.length gc) gs.length V1 40 2 :: .row (.slice lA cl.length lc) cl.length V2 3 1 :: .row (.slice uA cu.length uc) cu.length V3 3 1 :: .row (.slice tA ts.length tc) ts.length (ts.flatMap tkL) 46 8 :: .row (.slice sA rs.length sc) rs.length (rs.map Rw.val) 44 1 :: (rwF 43 rs ++ (fs)))) (m := cu.length - 0) ⟨0, (cu.map I64i), Nat.zero_le _, by rw [List.length_map, Nat.mul_one], rfl, M.sub (by kernel_rfl), O.pt 6 [0, 1, 2, 3, 4, 5]⟩ ?_
 clear M O; rintro mS a w_ ⟨i3, V3, hi, hV3, rfl, M, O⟩
 refine wp_seq (s_fs1 ?_)
 refine fp M 2 0 [(38, vP g1 4), (37, vI i3)] fun a M => s_fc M O 2 0 fun a M => ?_
 refine s_fl M 3 fun a M => ?_
 refine fp M 1 4 [(41, .bool (decide ((i3 : Int) < (cu.length : Int))))] fun a M => s_d0 ?_
 rcases M.tf 41 rfl with ⟨hb41, M⟩ | ⟨hb41, M⟩
 ·
  have hd41 := of_decide_eq_true hb41
  obtain ⟨guA, rfl⟩ := q9 (O.own (i := 3) rfl) (Nat.lt_of_le_of_lt (Nat.zero_le _) (show i3 < cu.length from (by omega : i3 < cu.length)))
  refine s_ct M (wp_skip (wp_seq (wp_block ?_)))
  refine zk O (.blk g1 #[vI cp, vQ cr, .slice gA gs.length gc, .slice lA cl.length lc, vS guA cu.length uc, .slice tA ts.length tc, .slice sA rs.length sc] 30 :: .row (.slice gA gs.length gc) gs.length V1 40 2 :: .row (.slice lA cl.length lc) cl.length V2 3 1 :: .row (vS guA cu.length uc) cu.length V3 3 1 :: .row (.slice tA ts.length tc) ts.length (ts.flatMap tkL) 46 8 :: .row (.slice sA rs.length sc) rs.length (rs.map Rw.val) 44 1 :: (rwF 43 rs ++ (fs))) 6 [0, 1, 2, 3, 4, 5] [6] fun O Z => ?_
  refine ap M (fun _ => Z) [0, 2, 3] (bf 7 [0, 2, 3]) [(47, vI i3), (46, vI i3), (44, vP g1 4)] fun a M => ?_
  refine s_ac M Z 1 0 fun a M => ?_
  refine s_on M 4 rfl ?_
  refine e_cl M [vI 5, vI i3] rfl rfl (qcx 5 (i3 : Int) _) ?_
  rintro _ w48 ⟨⟨v48, rfl⟩, hbw⟩
  refine ⟨_, rfl, ?_⟩
  replace O := O.call hbw
  clear M; intro a M
  refine keepS (O.pt 6 [0, 1, 2, 3, 4, 5]) (fun Z => ?_)
  refine s_az M Z 5 rfl (v := vP guA (i3 * 1)) (Yl.ix0 guA i3 1 rfl rfl rfl) fun a M => ?_
  refine s_on M 6 rfl ?_
  refine qa2 M O (i := 3) rfl rfl rfl rfl (by kernel_rfl) rfl rfl (by rw [hV3]; omega) fun w12_6 O => ?_
  replace O := O.asRow (i := 3) (ys := putAt V3 (i3 * 1) [vI v48]) rfl (rfl)
  refine noS (by kernel_rfl) ?_
  refine qh (by kernel_rfl) ?_
  refine qa ?_
  refine fp M 2 0 [(43, vI (IntKind.i64.wrap ((i3 : Int) + 1)))] fun a M => ?_
  replace M := M.sp 43 (vI (i3 + 1 : Nat)) rfl (qc (by omega) (by omega))
  refine fp M 1 2 [(4, vI (i3 + 1 : Nat))] fun a M => s_d0 ?_
  exact ⟨_, (by omega), i3 + 1, (putAt V3 (i3 * 1) [vI v48]), by omega, by rw [qbd (by rw [hV3]; show i3 * 1 + 1 ≤ cu.length * 1; omega)]; exact hV3, rfl, M.sub (by kernel_rfl), O.pt 6 [0, 1, 2, 3, 4, 5]⟩
 have hd41 := of_decide_eq_false hb41
 refine s_cf M (wp_exit (wp_seq (s_fs1 ?_)))
 refine fp M 1 0 [(5, vI 0)] fun a M => s_d0 (wp_block ?_)
 refine qe (fun mS aS wS => ∃ (i4 : Nat) (V4 : List Value), (i4 ≤ ts.length) ∧ (V4.length = ts.length * 8) ∧ mS = ts.length - i4 ∧ Fr aS 91 [] [(5, vI i4), (41, .bool false), (4, vI i3), (28, .bool false), (3, vI i2), (13, .bool false), (2, vI i1), (1, vP g1 0)] ∧ Mem W wS (.blk g1 #[vI cp, vQ cr, .slice gA gs.length gc, .slice lA cl.length lc, .slice uA cu.length uc, .slice tA ts.length tc, .slice sA rs.length sc] 30 :: .row (.slice gA gs.length gc) gs.length V1 40 2 :: .row (.slice lA cl.length lc) cl.length V2 3 1 :: .row (.slice uA cu.length uc) cu.length V3 3 1 :: .row (.slice tA ts.length tc) ts.length V4 46 8 :: .row (.slice sA rs.length sc) rs.length (rs.map Rw.val) 44 1 :: (rwF 43 rs ++ (fs)))) (m := ts.length - 0) ⟨0, (ts.flatMap tkL), Nat.zero_le _, qfz tkL 8 z7 _, rfl, M.sub (by kernel_rfl), O.pt 6 [0, 1, 2, 3, 4, 5]⟩ ?_
 clear M O; rintro mS a w_ ⟨i4, V4, hi, hV4, rfl, M, O⟩
 refine wp_seq (s_fs1 ?_)
 refine fp M 2 0 [(51, vP g1 5), (50, vI i4)] fun a M => s_fc M O 2 0 fun a M => ?_
 refine s_fl M 3 fun a M => ?_
 refine fp M 1 4 [(54, .bool (decide ((i4 : Int) < (ts.length : Int))))] fun a M => s_d0 ?_
 rcases M.tf 54 rfl with ⟨hb54, M⟩ | ⟨hb54, M⟩
 ·
  have hd54 := of_decide_eq_true hb54
  obtain ⟨gtA, rfl⟩ := q9 (O.own (i := 4) rfl) (Nat.lt_of_le_of_lt (Nat.zero_le _) (show i4 < ts.length from (by omega : i4 < ts.length)))
  refine s_ct M (wp_skip (wp_seq (wp_block ?_)))
  refine zk O (.blk g1 #[vI cp, vQ cr, .slice gA gs.length gc, .slice lA cl.length lc, .slice uA cu.length uc, vS gtA ts.length tc, .slice sA rs.length sc] 30 :: .row (.slice gA gs.length gc) gs.length V1 40 2 :: .row (.slice lA cl.length lc) cl.length V2 3 1 :: .row (.slice uA cu.length uc) cu.length V3 3 1 :: .row (vS gtA ts.length tc) ts.length V4 46 8 :: .row (.slice sA rs.length sc) rs.length (rs.map Rw.val) 44 1 :: (rwF 43 rs ++ (fs))) 6 [0, 1, 2, 3, 4, 5] [7] fun O Z => ?_
  refine ap M (fun _ => Z) [0, 2, 3] (bf 8 [0, 2, 3]) [(60, vI i4), (59, vI i4), (57, vP g1 5)] fun a M => ?_
  refine s_ac M Z 1 0 fun a M => ?_
  refine s_on M 4 rfl ?_
  refine e_cl M [vI 6, vI i4] rfl rfl (qcx 6 (i4 : Int) _) ?_
  rintro _ w61 ⟨⟨v61, rfl⟩, hbw⟩
  refine ⟨_, rfl, ?_⟩
  replace O := O.call hbw
  clear M; intro a M
  refine keepS (O.pt 6 [0, 1, 2, 3, 4, 5]) (fun Z => ?_)
  refine s_az M Z 5 rfl (v := .agg #[vI v61, vI 0, vI 0, vI 0, vQ 0, .bool false, vQ 0, vW 0]) (Yl.build (vs := [(0, vI v61)]) rfl (by kernel_rfl) (by kernel_rfl)) fun a M => ?_
  refine s_az M Z 6 rfl (v := vP gtA (i4 * 8)) (Yl.ix0 gtA i4 8 rfl rfl rfl) fun a M => ?_
  refine s_on M 7 rfl ?_
  refine qdm M O (i := 4) (sz := 8) rfl rfl rfl rfl si_tk rfl (by simp [Value.oneCell']) rfl (by rw [hV4]; omega) fun w16_7 O => ?_
  replace O := O.asRow (i := 4) (ys := putAt V4 (i4 * 8) [vI v61, vI 0, vI 0, vI 0, vQ 0, .bool false, vQ 0, vW 0]) rfl (rfl)
  refine noS (by kernel_rfl) ?_
  refine qh (by kernel_rfl) ?_
  refine qa ?_
  refine fp M 2 0 [(56, vI (IntKind.i64.wrap ((i4 : Int) + 1)))] fun a M => ?_
  replace M := M.sp 56 (vI (i4 + 1 : Nat)) rfl (qc (by omega) (by omega))
  refine fp M 1 2 [(5, vI (i4 + 1 : Nat))] fun a M => s_d0 ?_
  exact ⟨_, (by omega), i4 + 1, (putAt V4 (i4 * 8) [vI v61, vI 0, vI 0, vI 0, vQ 0, .bool false, vQ 0, vW 0]), by omega, by rw [qbd (by rw [hV4]; show i4 * 8 + 8 ≤ ts.length * 8; omega)]; exact hV4, rfl, M.sub (by kernel_rfl), O.pt 6 [0, 1, 2, 3, 4, 5]⟩
 have hd54 := of_decide_eq_false hb54
 refine s_cf M (wp_exit (s_fs1 ?_))
 refine fp M 1 0 [(6, vI 0)] fun a M => s_d0 (wp_block ?_)
 refine qe (fun mS aS wS => ∃ (g : Nat), (g ≤ rs.length) ∧ mS = rs.length - g ∧ Fr aS 91 [] [(6, vI g), (54, .bool false), (5, vI i4), (41, .bool false), (4, vI i3), (28, .bool false), (3, vI i2), (13, .bool false), (2, vI i1), (1, vP g1 0)] ∧ Mem W wS (.blk g1 #[vI cp, vQ cr, .slice gA gs.length gc, .slice lA cl.length lc, .slice uA cu.length uc, .slice tA ts.length tc, .slice sA rs.length sc] 30 :: .row (.slice gA gs.length gc) gs.length V1 40 2 :: .row (.slice lA cl.length lc) cl.length V2 3 1 :: .row (.slice uA cu.length uc) cu.length V3 3 1 :: .row (.slice tA ts.length tc) ts.length V4 46 8 :: .row (.slice sA rs.length sc) rs.length (rs.map Rw.val) 44 1 :: (rwF 43 (rs.drop g) ++ (fs)))) (m := rs.length - 0) ⟨0, Nat.zero_le _, rfl, M.sub (by kernel_rfl), O.pt 6 [0, 1, 2, 3, 4, 5]⟩ ?_
 clear M O; rintro mS a w_ ⟨g, hg, rfl, M, O⟩
 refine wp_seq (s_fs1 ?_)
 refine fp M 2 0 [(65, vP g1 6), (64, vI g)] fun a M => s_fc M O 2 0 fun a M => ?_
 refine s_fl M 3 fun a M => ?_
 refine fp M 1 4 [(68, .bool (decide ((g : Int) < (rs.length : Int))))] fun a M => s_d0 ?_
 rcases M.tf 68 rfl with ⟨hb68, M⟩ | ⟨hb68, M⟩
 ·
  have hd68 := of_decide_eq_true hb68
  obtain ⟨gsA, rfl⟩ := q9 (O.own (i := 5) rfl) (Nat.lt_of_le_of_lt (Nat.zero_le _) (show g < rs.length from (by omega : g < rs.length)))
  have hg68 : g < rs.length := by omega
  obtain ⟨⟨yA, yc, yl⟩, hy⟩ : ∃ y, rs.getD g Rw.zero = y := ⟨_, rfl⟩
  have hyl : yl.length ≤ 1000000 := by have := h6 _ (qr Rw.zero hg68); rw [hy] at this; exact this
  have hdr := qzd hg68
  rw [hy] at hdr
  rw [hdr] at O
  replace O : Mem W _ (.blk g1 #[vI cp, vQ cr, .slice gA gs.length gc, .slice lA cl.length lc, .slice uA cu.length uc, .slice tA ts.length tc, vS gsA rs.length sc] 30 :: .row (.slice gA gs.length gc) gs.length V1 40 2 :: .row (.slice lA cl.length lc) cl.length V2 3 1 :: .row (.slice uA cu.length uc) cu.length V3 3 1 :: .row (.slice tA ts.length tc) ts.length V4 46 8 :: .row (vS gsA rs.length sc) rs.length (rs.map Rw.val) 44 1 :: .row (.slice yA yl.length yc) yl.length (yl.flatMap spL) 43 3 :: (rwF 43 (rs.drop (g + 1)) ++ (fs))) := O
  refine s_ct M (wp_skip (wp_seq (wp_block (s_fs1 ?_))))
  refine fp M 1 0 [(7, vI 0)] fun a M => s_d0 (wp_block ?_)
  refine qe (fun mS aS wS => ∃ (c : Nat) (V5 : List Value), (c ≤ yl.length) ∧ (V5.length = yl.length * 3) ∧ mS = yl.length - c ∧ Fr aS 91 [] [(7, vI c), (68, .bool true), (6, vI g), (54, .bool false), (5, vI i4), (41, .bool false), (4, vI i3), (28, .bool false), (3, vI i2), (13, .bool false), (2, vI i1), (1, vP g1 0)] ∧ Mem W wS (.blk g1 #[vI cp, vQ cr, .slice gA gs.length gc, .slice lA cl.length lc, .slice uA cu.length uc, .slice tA ts.length tc, vS gsA rs.length sc] 30 :: .row (.slice gA gs.length gc) gs.length V1 40 2 :: .row (.slice lA cl.length lc) cl.length V2 3 1 :: .row (.slice uA cu.length uc) cu.length V3 3 1 :: .row (.slice tA ts.length tc) ts.length V4 46 8 :: .row (vS gsA rs.length sc) rs.length (rs.map Rw.val) 44 1 :: .row (.slice yA yl.length yc) yl.length V5 43 3 :: (rwF 43 (rs.drop (g + 1)) ++ (fs)))) (m := yl.length - 0) ⟨0, (yl.flatMap spL), Nat.zero_le _, qfz spL 3 qau _, rfl, M.sub (by kernel_rfl), O.pt 7 [0, 1, 2, 3, 4, 5, 6]⟩ ?_
  clear M O; rintro mS a w_ ⟨c, V5, hc, hV5, rfl, M, O⟩
  refine wp_seq (s_fs1 ?_)
  refine fp M 2 0 [(72, vP g1 6), (71, vI c)] fun a M => s_fc M O 2 0 fun a M => ?_
  refine fp M 1 3 [(74, vI g)] fun a M => s_fz M O 4 rfl (v := vP gsA (g * 1)) (Yl.ix0 gsA g 1 rfl rfl rfl) fun a M => ?_
  refine s_fz M O 5 rfl (v := .slice ((rs.getD g Rw.zero).A) ((rs.getD g Rw.zero).l.length) ((rs.getD g Rw.zero).c)) (Yl.r1 5 g Rw.zero (by omega) rfl rfl rfl) fun a M => ?_
  replace M := M.sp 76 (.slice yA yl.length yc) rfl (by rw [hy])
  refine s_fl M 6 fun a M => ?_
  refine fp M 1 7 [(78, .bool (decide ((c : Int) < (yl.length : Int))))] fun a M => s_d0 ?_
  rcases M.tf 78 rfl with ⟨hb78, M⟩ | ⟨hb78, M⟩
  ·
   have hd78 := of_decide_eq_true hb78
   obtain ⟨gyA, rfl⟩ := q9 (O.own (i := 6) rfl) (Nat.lt_of_le_of_lt (Nat.zero_le _) (show c < yl.length from (by omega : c < yl.length)))
   refine s_ct M (wp_skip (wp_seq (wp_block ?_)))
   refine zk O (.blk g1 #[vI cp, vQ cr, .slice gA gs.length gc, .slice lA cl.length lc, .slice uA cu.length uc, .slice tA ts.length tc, vS gsA rs.length sc] 30 :: .row (.slice gA gs.length gc) gs.length V1 40 2 :: .row (.slice lA cl.length lc) cl.length V2 3 1 :: .row (.slice uA cu.length uc) cu.length V3 3 1 :: .row (.slice tA ts.length tc) ts.length V4 46 8 :: .row (vS gsA rs.length sc) rs.length (rs.map Rw.val) 44 1 :: .row (vS gyA yl.length yc) yl.length V5 43 3 :: (rwF 43 (rs.drop (g + 1)) ++ (fs))) 7 [0, 1, 2, 3, 4, 5, 6] [10] fun O Z => ?_
   refine ap M (fun _ => Z) [0, 2, 5, 6] (bf 11 [0, 2, 5, 6]) [(87, vI c), (86, vI c), (83, vI g), (81, vP g1 6)] fun a M => ?_
   refine s_ac M Z 1 0 fun a M => ?_
   refine s_az M Z 3 rfl (v := vP gsA (g * 1)) (Yl.ix0 gsA g 1 rfl rfl rfl) fun a M => ?_
   refine s_az M Z 4 rfl (v := .slice ((rs.getD g Rw.zero).A) ((rs.getD g Rw.zero).l.length) ((rs.getD g Rw.zero).c)) (Yl.r1 5 g Rw.zero (by omega) rfl rfl rfl) fun a M => ?_
   replace M := M.sp 85 (vS gyA yl.length yc) rfl (by rw [hy])
   refine s_on M 7 rfl ?_
   refine e_cl M [vI 7, vI c] rfl rfl (qkw 7 (c : Int) _) ?_
   rintro _ w88 ⟨⟨v88, rfl⟩, hbw⟩
   refine ⟨_, rfl, ?_⟩
   replace O := O.call hbw
   clear M; intro a M
   refine keepS (O.pt 7 [0, 1, 2, 3, 4, 5, 6]) (fun Z => ?_)
   refine s_az M Z 8 rfl (v := .agg #[vQ v88, vW 0, vQ 0]) (Yl.build (vs := [(0, vQ v88)]) rfl (by kernel_rfl) (by kernel_rfl)) fun a M => ?_
   refine s_az M Z 9 rfl (v := vP gyA (c * 3)) (Yl.ix0 gyA c 3 rfl rfl rfl) fun a M => ?_
   refine s_on M 10 rfl ?_
   refine qdm M O (i := 6) (sz := 3) rfl rfl rfl rfl si_sp rfl (by simp [Value.oneCell']) rfl (by rw [hV5]; omega) fun w23_10 O => ?_
   replace O := O.asRow (i := 6) (ys := putAt V5 (c * 3) [vQ v88, vW 0, vQ 0]) rfl (rfl)
   refine noS (by kernel_rfl) ?_
   refine qh (by kernel_rfl) ?_
   refine qa ?_
   refine fp M 2 0 [(80, vI (IntKind.i64.wrap ((c : Int) + 1)))] fun a M => ?_
   replace M := M.sp 80 (vI (c + 1 : Nat)) rfl (qc (by omega) (by omega))
   refine fp M 1 2 [(7, vI (c + 1 : Nat))] fun a M => s_d0 ?_
   exact ⟨_, (by omega), c + 1, (putAt V5 (c * 3) [vQ v88, vW 0, vQ 0]), by omega, by rw [qbd (by rw [hV5]; show c * 3 + 3 ≤ yl.length * 3; omega)]; exact hV5, rfl, M.sub (by kernel_rfl), O.pt 7 [0, 1, 2, 3, 4, 5, 6]⟩
  have hd78 := of_decide_eq_false hb78
  refine s_cf M (wp_exit (qa ?_))
  refine fp M 2 0 [(70, vI (IntKind.i64.wrap ((g : Int) + 1)))] fun a M => ?_
  replace M := M.sp 70 (vI (g + 1 : Nat)) rfl (qc (by omega) (by omega))
  refine fp M 1 2 [(6, vI (g + 1 : Nat))] fun a M => s_d0 ?_
  exact ⟨_, (by omega), g + 1, by omega, rfl, M.sub (by kernel_rfl), O.pt 7 [0, 1, 2, 3, 4, 5]⟩
 have hd68 := of_decide_eq_false hb68
 refine s_cf M (wp_exit ?_)
 exact norm0 rfl M (qsa rfl (O.dropRows (l := [.blk g1 #[vI cp, vQ cr, .slice gA gs.length gc, .slice lA cl.length lc, .slice uA cu.length uc, .slice tA ts.length tc, .slice sA rs.length sc] 30, .row (.slice gA gs.length gc) gs.length V1 40 2, .row (.slice lA cl.length lc) cl.length V2 3 1, .row (.slice uA cu.length uc) cu.length V3 3 1, .row (.slice tA ts.length tc) ts.length V4 46 8, .row (.slice sA rs.length sc) rs.length (rs.map Rw.val) 44 1]) (m := rwF 43 (rs.drop g)) rfl))
theorem qvt (W w : World) (x : Stm) (fs : List Fact) (HW : Mem W w (stF x ++ fs)) (hf : StFew x) : Calls Tryz.prog 46 #[.agg x.cells] w (Spoilt W fs) := qsb W w x.cpus x.credit x.gA x.gc x.gs x.lA x.lc x.cl x.uA x.uc x.cu x.tA x.tc x.ts x.sA x.sc x.rs fs HW hf.g hf.l hf.u hf.t hf.s hf.r
theorem qcm : SI Tryz.prog 173 3 := ⟨by kernel_rfl, by kernel_rfl⟩
theorem qjo : EI Tryz.prog 170 173 (.agg #[.int .u64 0, .int .i64 0, .int .i64 0]) 3 24 := ⟨by kernel_rfl, by kernel_rfl, rfl, by omega⟩
theorem gr_is {x : Gr} (h1 : x.parent = 0) (h2 : x.weight = 1) : x = ⟨0, 1⟩ := by
 obtain ⟨a, b⟩ := x
 simp only at h1 h2
 rw [h1, h2]
theorem qtn {l : List Tk} {id : Int} (h : ∀ k, k < l.length → (l.getD k Tk.zero).id ≠ id) : fidx l id = -1 := by unfold fidx; rw [qgx h]
theorem qto {l : List Tk} {id : Int} {i : Nat} (hi : i < l.length) (h : (l.getD i Tk.zero).id = id) (hn : ∀ k, k < i → (l.getD k Tk.zero).id ≠ id) : fidx l id = i := by unfold fidx; rw [qki hi h hn]
theorem qfr (v r : Nat) (wt : Int) (hv : v < 18446744073709551616) (hr : r < 4294967296) (hw : 0 ≤ wt ∧ wt < 4294967296) (w : World) :
    Calls Tryz.prog 134 #[.agg #[.int .u64 (v : Int), .int .u32 (r : Int), .int .u32 wt]] w (Is w (.bool (entOk v r wt))) := by
 obtain ⟨z, rfl⟩ : ∃ z : Nat, wt = (z : Int) := ⟨wt.toNat, by omega⟩
 refine s_ce Tryz.func134 [.agg #[vQ v, vW r, vW z]] [(0, .agg #[vQ v, vW r, vW z])] fun a M => ?_
 have O := Mem.start w
 refine s_fs1 ?_
 refine fo M 0 rfl rfl (s_eb M O #[vQ v, vW r, vW z] fun a w1 g1 M O => ?_)
 refine fp M 1 1 [(2, .bool false)] fun a M => s_d0 (s_fs1 ?_)
 refine fp M 1 0 [(3, vP g1 2)] fun a M => s_fc M O 1 0 fun a M => ?_
 refine fp M 2 2 [(6, .bool (decide ((z : Int) ≥ (1 : Int))))] fun a M => ?_
 rcases M.tf 6 rfl with ⟨hb6, M⟩ | ⟨hb6, M⟩
 ·
  have hd6 := of_decide_eq_true hb6
  refine fp M 1 4 [(7, vP g1 2)] fun a M => s_fc M O 5 0 fun a M => ?_
  refine fp M 3 6 [(11, .bool (decide ((z : Int) ≤ (65536 : Int))))] fun a M => ?_
  rcases M.tf 11 rfl with ⟨hb11, M⟩ | ⟨hb11, M⟩
  ·
   have hd11 := of_decide_eq_true hb11
   refine fp M 1 9 [(12, vP g1 1)] fun a M => s_fc M O 10 0 fun a M => ?_
   refine fp M 1 11 [(14, vP g1 2)] fun a M => s_fc M O 12 0 fun a M => ?_
   refine fp M 3 13 [(18, .bool (decide ((r : Int) < (z : Int))))] fun a M => ?_
   rcases M.tf 18 rfl with ⟨hb18, M⟩ | ⟨hb18, M⟩
   ·
    have hd18 := of_decide_eq_true hb18
    refine fp M 1 16 [(19, vP g1 0)] fun a M => s_fc M O 17 0 fun a M => ?_
    refine fp M 2 18 [(22, .bool ((v : Int) == (18446744073709551615 : Int)))] fun a M => ?_
    rcases M.tf 22 rfl with ⟨hb22, M⟩ | ⟨hb22, M⟩
    ·
     have hd22 := eq_of_beq hb22
     refine fp M 1 20 [(23, vP g1 1)] fun a M => s_fc M O 21 0 fun a M => ?_
     refine fp M 5 22 [(2, .bool (!(decide ((r : Int) > (0 : Int)))))] fun a M => s_d0 (wp_ret ?_)
     replace O := O.pk (fs' := []) []
     exact s_rt1 rfl M rfl (is_as (by unfold entOk; rw [← decide_not]; exact decide_eq_decide.2 (by omega)) O.below)
    have hd22 := ne_of_beq_false hb22
    refine fp M 7 20 [(2, .bool true)] fun a M => s_d0 (wp_ret ?_)
    replace O := O.pk (fs' := []) []
    exact s_rt1 rfl M rfl (qh1 (by omega) O.below)
   have hd18 := of_decide_eq_false hb18
   refine fp M 11 16 [(2, .bool false)] fun a M => s_d0 (wp_ret ?_)
   replace O := O.pk (fs' := []) []
   exact s_rt1 rfl M rfl (is_no (by omega) O.below)
  have hd11 := of_decide_eq_false hb11
  refine fp M 18 9 [(2, .bool false)] fun a M => s_d0 (wp_ret ?_)
  replace O := O.pk (fs' := []) []
  exact s_rt1 rfl M rfl (is_no (by omega) O.below)
 have hd6 := of_decide_eq_false hb6
 refine fp M 23 4 [(2, .bool false)] fun a M => s_d0 (wp_ret ?_)
 replace O := O.pk (fs' := []) []
 exact s_rt1 rfl M rfl (is_no (by omega) O.below)
theorem qhd (v r : Nat) (wt : Int) (hw : 0 ≤ wt ∧ wt < 4294967296) (w : World) :
    Calls Tryz.prog 135 #[.int .u64 (v : Int), .int .u32 (r : Int), .int .i64 wt] w (Is w (.agg #[.int .u64 (v : Int), .int .u32 (r : Int), .int .u32 wt])) := by
 obtain ⟨z, rfl⟩ : ∃ z : Nat, wt = (z : Int) := ⟨wt.toNat, by omega⟩
 refine s_ce Tryz.func135 [vQ v, vW r, vI z] [(0, vQ v), (1, vW r), (2, vI z)] fun a M => ?_
 have O := Mem.start w
 refine s_fs1 ?_
 refine fo M 0 rfl rfl (s_ea M O #[vQ 0, vW 0, vW 0] fun a w6 g6 M O => ?_)
 refine s_d0 (s_fs1 ?_)
 refine fp M 4 0 [(10, vW (IntKind.u32.wrap (z : Int))), (8, vW r), (7, vQ v)] fun a M => ?_
 replace M := M.sp 10 (vW z) rfl (qa3 rfl (by omega))
 refine s_fz M O 4 rfl (v := .agg #[vQ v, vW r, vW z]) (Yl.build (vs := [(0, vQ v), (1, vW r), (2, vW z)]) rfl (by kernel_rfl) (by kernel_rfl)) fun a M => ?_
 refine fo M 5 rfl rfl (e_sa M O 0 rfl rfl rfl rfl rfl qrd rfl rfl (by simp [Value.oneCell']) fun w1_5 O => ?_)
 refine s_d0 (wp_ret ?_)
 exact ret1 rfl M (.cellS (i := 0) M O rfl rfl qrd rfl) (⟨rfl, O.below⟩)
theorem qtp (m n : Nat) (hm : m < 18446744073709551616) (hn : 1 ≤ n ∧ n ≤ 64) (w : World) :
    Calls Tryz.prog 136 #[.int .u64 (m : Int), .int .i64 (n : Int)] w (Is w (.bool (decide (2 ^ n ≤ m)))) := by
 refine s_ce Tryz.func136 [vQ m, vI n] [(0, vQ m), (1, vI n)] fun a M => ?_
 have O := Mem.start w
 refine s_fs1 ?_
 refine fp M 1 0 [(4, .bool false)] fun a M => s_d0 (wp_seq (s_fs1 ?_))
 refine fp M 2 0 [(5, vI n)] fun a M => s_d0 (wp_block ?_)
 refine qe (fun mS aS wS => ∃ (k : Nat), (n ≤ k) ∧ (k ≤ 64) ∧ (∀ i, n ≤ i → i < k → m / 2 ^ i % 2 = 0) ∧ mS = 64 - k ∧ Fr aS 16 [] [(5, vI k), (4, .bool false), (0, vQ m)] ∧ Mem w wS []) (m := 64 - n) ⟨n, Nat.le_refl _, hn.2, fun i h1 h2 => by omega, rfl, M.sub (by kernel_rfl), O.pk []⟩ ?_
 clear M O; rintro mS a w_ ⟨k, hkn, hk, hu, rfl, M, O⟩
 refine wp_seq (s_fs1 ?_)
 refine fp M 2 0 [(8, .bool (decide ((k : Int) < (64 : Int))))] fun a M => s_d0 ?_
 rcases M.tf 8 rfl with ⟨hb8, M⟩ | ⟨hb8, M⟩
 ·
  have hd8 := of_decide_eq_true hb8
  have hsh := Nat.div_le_self m (2 ^ k)
  refine s_ct M (wp_skip (wp_seq (wp_block (s_fs1 ?_))))
  refine fp M 2 0 [(12, vI k), (11, vQ m)] fun a M => s_fz M O 2 rfl (v := vQ (m / 2 ^ k : Nat)) (Yl.shrN (m := m) (n := k) rfl rfl rfl (by show _ ≤ 64; omega)) fun a M => ?_
  refine fp M 1 3 [(14, vQ (Int.tmod ((m / 2 ^ k : Nat) : Int) 2))] fun a M => ?_
  replace M := M.sp 14 (vQ ((m / 2 ^ k) % 2 : Nat)) rfl (qas .u64 _ 2)
  refine fp M 1 4 [(15, .bool ((((m / 2 ^ k) % 2 : Nat) : Int) == (1 : Int)))] fun a M => s_d0 ?_
  rcases M.tf 15 rfl with ⟨hb15, M⟩ | ⟨hb15, M⟩
  ·
   have hd15 := eq_of_beq hb15
   refine s_ct M (s_fs1 ?_)
   refine fp M 1 0 [(4, .bool true)] fun a M => s_d0 (wp_ret ?_)
   exact s_rt1 rfl M rfl (qh1 (qs4 hkn (by omega)) O.below)
  have hd15 := ne_of_beq_false hb15
  refine s_cf M (wp_skip (qa ?_))
  refine fp M 2 0 [(10, vI (IntKind.i64.wrap ((k : Int) + 1)))] fun a M => ?_
  replace M := M.sp 10 (vI (k + 1 : Nat)) rfl (qc (by omega) (by omega))
  refine fp M 1 2 [(5, vI (k + 1 : Nat))] fun a M => s_d0 ?_
  exact ⟨_, (by omega), k + 1, by omega, by omega, fun i h1 h2 => by rcases Nat.lt_or_ge i k with h3 | h3; exact hu i h1 h3; obtain rfl : i = k := (by omega); omega, rfl, M.sub (by kernel_rfl), O.pk []⟩
 have hd8 := of_decide_eq_false hb8
 refine s_cf M (wp_exit (s_fs1 ?_))
 refine fp M 1 0 [(4, .bool false)] fun a M => s_d0 (wp_ret ?_)
 exact s_rt1 rfl M rfl (is_no (qs3 hm hn.2 (fun i h1 h2 => hu i h1 (by omega))) O.below)
theorem qpw (A : Option Addr) (c : Nat) (l : List Gr) (g : Nat) (w : World) (hok : ∀ x ∈ l, x.Ok) (hr : Rd w w.heap.size 2 A l.length (l.flatMap grL)) (hn : l.length ≤ 1000000) (hg : 0 < g ∧ g < l.length) (hp : ∀ i, 0 < i → i < g → ParB l i) :
    Calls Tryz.prog 150 #[.slice A l.length c, .int .i64 (g : Int)] w (DepIs w l g) := by
 refine s_ce Tryz.func150 [.slice A l.length c, vI g] [(0, .slice A l.length c), (1, vI g)] fun a M => ?_
 have O := Mem.start w
 refine s_fs1 ?_
 refine fp M 1 0 [(4, vI 0)] fun a M => s_d0 (s_fs1 ?_)
 refine fp M 1 0 [(5, vI 0)] fun a M => s_d0 (wp_seq (wp_block ?_))
 refine qe (fun mS aS wS => ∃ (y : Nat) (n : Nat), (y ≤ g) ∧ (n ≤ 5) ∧ (depG l g = n + depG l y) ∧ (y = g ∨ ParB l g) ∧ mS = 0 + y ∧ Fr aS 35 [] [(5, vI n), (4, vI 0), (0, .slice A l.length c), (1, vI y)] ∧ Mem w wS []) (m := 0 + g) ⟨g, 0, Nat.le_refl _, by decide, (Nat.zero_add _).symm, .inl rfl, rfl, M.sub (by kernel_rfl), O.pk []⟩ ?_
 clear M O; rintro mS a w_ ⟨y, n, hyg, hn5, hd, hpg, rfl, M, O⟩
 refine wp_seq (s_fs1 ?_)
 refine fp M 3 0 [(8, .bool (decide ((y : Int) > (0 : Int))))] fun a M => ?_
 rcases M.tf 8 rfl with ⟨hb8, M⟩ | ⟨hb8, M⟩
 ·
  have hd8 := of_decide_eq_true hb8
  refine fp M 3 3 [(11, .bool (decide ((n : Int) < (5 : Int))))] fun a M => s_d0 ?_
  rcases M.tf 11 rfl with ⟨hb11, M⟩ | ⟨hb11, M⟩
  ·
   have hd11 := of_decide_eq_true hb11
   refine s_ct M (wp_skip (wp_block (wp_seq (s_fs1 ?_))))
   refine fp M 2 0 [(13, vI y), (12, .slice A l.length c)] fun a M => ?_
   obtain ⟨gA, oA, rfl, _⟩ := hr.qi (Nat.lt_of_le_of_lt (Nat.zero_le _) (show y < l.length from by omega)) (by decide)
   refine s_fz M O 2 rfl (v := vP gA (oA + y * 2)) (Yl.ix gA oA y 2 rfl rfl rfl) fun a M => ?_
   refine fp M 1 3 [(15, vP gA (oA + y * 2))] fun a M => s_fz M O 4 rfl (v := vI ((l.getD y Gr.zero).parent)) (Yl.qk rfl rfl (by kernel_rfl) (fun _ h => (by have := (h.old hr).partAt zx (k := y) (j := 0) (x := (l.getD y Gr.zero)) ((getD_at Gr.zero (by omega))) rfl; simpa using this))) fun a M => ?_
   refine fp M 2 5 [(18, .bool (decide (((l.getD y Gr.zero).parent : Int) < (0 : Int))))] fun a M => ?_
   rcases M.tf 18 rfl with ⟨hb18, M⟩ | ⟨hb18, M⟩
   ·
    have hd18 := of_decide_eq_true hb18
    refine fp M 8 7 [(26, .bool true)] fun a M => s_d0 (s_ct M (s_fs1 ?_))
    refine fp M 1 0 [(4, vI 5)] fun a M => s_d0 (wp_ret ?_)
    exact s_rt1 rfl M rfl (qob hp hyg (by omega) (by omega) O.below)
   have hd18 := of_decide_eq_false hb18
   refine fp M 2 7 [(20, vI y), (19, .slice (some ⟨gA, oA, none⟩) l.length c)] fun a M => s_fz M O 9 rfl (v := vP gA (oA + y * 2)) (Yl.ix gA oA y 2 rfl rfl rfl) fun a M => ?_
   refine fp M 1 10 [(22, vP gA (oA + y * 2))] fun a M => s_fz M O 11 rfl (v := vI ((l.getD y Gr.zero).parent)) (Yl.qk rfl rfl (by kernel_rfl) (fun _ h => (by have := (h.old hr).partAt zx (k := y) (j := 0) (x := (l.getD y Gr.zero)) ((getD_at Gr.zero (by omega))) rfl; simpa using this))) fun a M => ?_
   refine fp M 3 12 [(26, .bool (decide (((l.getD y Gr.zero).parent : Int) ≥ (y : Int))))] fun a M => s_d0 ?_
   rcases M.tf 26 rfl with ⟨hb26, M⟩ | ⟨hb26, M⟩
   ·
    have hd26 := of_decide_eq_true hb26
    refine s_ct M (s_fs1 ?_)
    refine fp M 1 0 [(4, vI 5)] fun a M => s_d0 (wp_ret ?_)
    exact s_rt1 rfl M rfl (qob hp hyg (by omega) (by omega) O.below)
   have hd26 := of_decide_eq_false hb26
   obtain ⟨z, hz⟩ : ∃ z : Nat, (l.getD y Gr.zero).parent = (z : Int) := ⟨(l.getD y Gr.zero).parent.toNat, by omega⟩
   have hds := qwc hp hyg (by omega) hz (by omega)
   refine s_cf M (wp_skip (s_fs1 ?_))
   refine fp M 2 0 [(28, vI y), (27, .slice (some ⟨gA, oA, none⟩) l.length c)] fun a M => s_fz M O 2 rfl (v := vP gA (oA + y * 2)) (Yl.ix gA oA y 2 rfl rfl rfl) fun a M => ?_
   refine fp M 1 3 [(30, vP gA (oA + y * 2))] fun a M => s_fz M O 4 rfl (v := vI ((l.getD y Gr.zero).parent)) (Yl.qk rfl rfl (by kernel_rfl) (fun _ h => (by have := (h.old hr).partAt zx (k := y) (j := 0) (x := (l.getD y Gr.zero)) ((getD_at Gr.zero (by omega))) rfl; simpa using this))) fun a M => ?_
   replace M := M.sp 31 (vI z) rfl (by rw [hz])
   refine fp M 1 5 [(1, vI z)] fun a M => s_d0 (qa ?_)
   refine fp M 2 0 [(33, vI (IntKind.i64.wrap ((n : Int) + 1)))] fun a M => ?_
   replace M := M.sp 33 (vI (n + 1 : Nat)) rfl (qc (by omega) (by omega))
   refine fp M 1 2 [(5, vI (n + 1 : Nat))] fun a M => s_d0 ?_
   exact ⟨_, (by omega), z, n + 1, by omega, by omega, by omega, .inr (hpg.elim (fun e => e ▸ qzt hz (by omega)) id), rfl, M.sub (by kernel_rfl), O.pk []⟩
  have hd11 := of_decide_eq_false hb11
  refine s_cf M (wp_exit (s_fs1 ?_))
  refine fp M 2 0 [(4, vI n)] fun a M => s_d0 (wp_ret ?_)
  exact s_rt1 rfl M rfl (qoc hd (by omega) hpg hg.1 O.below)
 have hd8 := of_decide_eq_false hb8
 refine fp M 3 3 [(11, .bool false)] fun a M => s_d0 (s_cf M (wp_exit (s_fs1 ?_)))
 refine fp M 2 0 [(4, vI n)] fun a M => s_d0 (wp_ret ?_)
 exact s_rt1 rfl M rfl (qoc hd (by omega) hpg hg.1 O.below)
theorem qfy (x : Stm) (hok : x.sta.Ok) (hf : StFew x) (w : World) (hx : StRd w x) :
    Calls Tryz.prog 133 #[.agg #[.int .i64 x.cpus, .int .u64 (x.credit : Int), .slice x.gA x.gs.length x.gc]] w (Is w (.bool (cfgOk x.sta))) := by
 have hc := hok.cpus
 have hcr := hok.credit
 replace hc : I64 x.cpus := hc
 replace hcr : x.credit < 18446744073709551616 := hcr
 unfold I64 at hc
 have hfg := hf.g
 have hokg : ∀ y ∈ x.gs, y.Ok := hok.gs
 refine s_ce Tryz.func133 [.agg #[vI x.cpus, vQ x.credit, .slice x.gA x.gs.length x.gc]] [(0, .agg #[vI x.cpus, vQ x.credit, .slice x.gA x.gs.length x.gc])] fun a M => ?_
 have O := Mem.start w
 refine s_fs1 ?_
 refine fo M 0 rfl rfl (s_eb M O #[vI x.cpus, vQ x.credit, .slice x.gA x.gs.length x.gc] fun a w1 g1 M O => ?_)
 refine fp M 1 1 [(2, .bool false)] fun a M => s_d0 (wp_seq (s_fs1 ?_))
 refine fp M 1 0 [(4, vP g1 0)] fun a M => s_fc M O 1 0 fun a M => ?_
 refine fp M 2 2 [(7, .bool (decide ((x.cpus : Int) < (1 : Int))))] fun a M => ?_
 rcases M.tf 7 rfl with ⟨hb7, M⟩ | ⟨hb7, M⟩
 ·
  have hd7 := of_decide_eq_true hb7
  refine fp M 21 4 [(28, .bool true)] fun a M => s_d0 (s_ct M (s_fs1 ?_))
  refine fp M 1 0 [(2, .bool false)] fun a M => s_d0 (wp_ret ?_)
  exact s_rt1 rfl M rfl (is_as (qh3 (by omega)).symm O.below)
 have hd7 := of_decide_eq_false hb7
 refine fp M 1 4 [(8, vP g1 0)] fun a M => s_fc M O 5 0 fun a M => ?_
 refine fp M 3 6 [(12, .bool (decide ((x.cpus : Int) > (64 : Int))))] fun a M => ?_
 rcases M.tf 12 rfl with ⟨hb12, M⟩ | ⟨hb12, M⟩
 ·
  have hd12 := of_decide_eq_true hb12
  refine fp M 16 9 [(28, .bool true)] fun a M => s_d0 (s_ct M (s_fs1 ?_))
  refine fp M 1 0 [(2, .bool false)] fun a M => s_d0 (wp_ret ?_)
  exact s_rt1 rfl M rfl (is_as (qh3 (by omega)).symm O.below)
 have hd12 := of_decide_eq_false hb12
 refine fp M 1 9 [(13, vP g1 1)] fun a M => s_fc M O 10 0 fun a M => ?_
 refine fp M 3 11 [(17, .bool (decide ((x.credit : Int) > (1099511627776 : Int))))] fun a M => ?_
 rcases M.tf 17 rfl with ⟨hb17, M⟩ | ⟨hb17, M⟩
 ·
  have hd17 := of_decide_eq_true hb17
  refine fp M 11 14 [(28, .bool true)] fun a M => s_d0 (s_ct M (s_fs1 ?_))
  refine fp M 1 0 [(2, .bool false)] fun a M => s_d0 (wp_ret ?_)
  exact s_rt1 rfl M rfl (is_as (qh3 (by omega)).symm O.below)
 have hd17 := of_decide_eq_false hb17
 refine fp M 1 14 [(18, vP g1 2)] fun a M => s_fc M O 15 0 fun a M => ?_
 refine s_fl M 16 fun a M => ?_
 refine fp M 3 17 [(23, .bool (decide ((x.gs.length : Int) < (1 : Int))))] fun a M => ?_
 rcases M.tf 23 rfl with ⟨hb23, M⟩ | ⟨hb23, M⟩
 ·
  have hd23 := of_decide_eq_true hb23
  refine fp M 5 20 [(28, .bool true)] fun a M => s_d0 (s_ct M (s_fs1 ?_))
  refine fp M 1 0 [(2, .bool false)] fun a M => s_d0 (wp_ret ?_)
  exact s_rt1 rfl M rfl (is_as (qil (qci (by omega))).symm O.below)
 have hd23 := of_decide_eq_false hb23
 refine fp M 1 20 [(24, vP g1 2)] fun a M => s_fc M O 21 0 fun a M => ?_
 refine s_fl M 22 fun a M => ?_
 refine fp M 2 23 [(28, .bool (decide ((x.gs.length : Int) > (256 : Int))))] fun a M => s_d0 ?_
 rcases M.tf 28 rfl with ⟨hb28, M⟩ | ⟨hb28, M⟩
 ·
  have hd28 := of_decide_eq_true hb28
  refine s_ct M (s_fs1 ?_)
  refine fp M 1 0 [(2, .bool false)] fun a M => s_d0 (wp_ret ?_)
  exact s_rt1 rfl M rfl (is_as (qil (qci (by omega))).symm O.below)
 have hd28 := of_decide_eq_false hb28
 refine s_cf M (wp_skip (wp_seq (s_fs1 ?_)))
 refine fp M 1 0 [(29, vP g1 2)] fun a M => s_fc M O 1 0 fun a M => ?_
 obtain ⟨gq1, oq1, hq1, _⟩ := Rd.qi hx.g (Nat.lt_of_le_of_lt (Nat.zero_le _) (show 0 < x.gs.length from by omega)) (by decide)
 have hrq1 := hx.g; rw [hq1] at hrq1
 replace M := M.sp 30 (.slice (some ⟨gq1, oq1, none⟩) x.gs.length x.gc) rfl (by rw [hq1]; try rfl)
 refine s_fz M O 2 rfl (v := vP gq1 oq1) (Yl.indexAddr (ad := ⟨gq1, oq1, none⟩) (y := 0) (sz := 2) rfl rfl rfl (by omega) (by kernel_rfl)) fun a M => ?_
 refine fp M 1 3 [(32, vP gq1 oq1)] fun a M => s_fz M O 4 rfl (v := vI ((x.gs.getD 0 Gr.zero).parent)) (Yl.qk rfl rfl (by kernel_rfl) (fun _ h => (by have := (h.old hrq1).partAt zx (k := 0) (j := 0) (x := (x.gs.getD 0 Gr.zero)) ((getD_at Gr.zero (by omega))) rfl; simpa using this))) fun a M => ?_
 refine fp M 2 5 [(35, .bool (((x.gs.getD 0 Gr.zero).parent : Int) != (0 : Int)))] fun a M => ?_
 rcases M.tf 35 rfl with ⟨hb35, M⟩ | ⟨hb35, M⟩
 ·
  have hd35 := bne_iff_ne.1 hb35
  refine fp M 7 7 [(42, .bool true)] fun a M => s_d0 (s_ct M (s_fs1 ?_))
  refine fp M 1 0 [(2, .bool false)] fun a M => s_d0 (wp_ret ?_)
  exact s_rt1 rfl M rfl (is_as (qil (qci (fun h => by rw [h.2.2] at hd35; exact hd35 rfl))).symm O.below)
 have hd35 := bne_eq_false_iff_eq.1 hb35
 refine fp M 1 7 [(36, vP g1 2)] fun a M => s_fc M O 8 0 fun a M => ?_
 replace M := M.sp 37 (.slice (some ⟨gq1, oq1, none⟩) x.gs.length x.gc) rfl (by rw [hq1]; try rfl)
 refine s_fz M O 9 rfl (v := vP gq1 oq1) (Yl.indexAddr (ad := ⟨gq1, oq1, none⟩) (y := 0) (sz := 2) rfl rfl rfl (by omega) (by kernel_rfl)) fun a M => ?_
 refine fp M 1 10 [(39, vP gq1 (oq1 + 1))] fun a M => s_fz M O 11 rfl (v := vI ((x.gs.getD 0 Gr.zero).weight)) (Yl.qk rfl rfl (by kernel_rfl) (fun _ h => (h.old hrq1).partAt zx (k := 0) (j := 1) (x := (x.gs.getD 0 Gr.zero)) ((getD_at Gr.zero (by omega))) rfl)) fun a M => ?_
 refine fp M 2 12 [(42, .bool (((x.gs.getD 0 Gr.zero).weight : Int) != (1 : Int)))] fun a M => s_d0 ?_
 rcases M.tf 42 rfl with ⟨hb42, M⟩ | ⟨hb42, M⟩
 ·
  have hd42 := bne_iff_ne.1 hb42
  refine s_ct M (s_fs1 ?_)
  refine fp M 1 0 [(2, .bool false)] fun a M => s_d0 (wp_ret ?_)
  exact s_rt1 rfl M rfl (is_as (qil (qci (fun h => by rw [h.2.2] at hd42; exact hd42 rfl))).symm O.below)
 have hd42 := bne_eq_false_iff_eq.1 hb42
 have hg0 : (x.gs.getD 0 Gr.zero) = ⟨0, 1⟩ := gr_is hd35 hd42
 refine s_cf M (wp_skip (wp_seq (s_fs1 ?_)))
 refine fp M 1 0 [(3, vI 1)] fun a M => s_d0 (wp_block ?_)
 refine qe (fun mS aS wS => ∃ (g : Nat), (1 ≤ g) ∧ (g ≤ x.gs.length) ∧ (UpTo g (gOk x.gs)) ∧ mS = x.gs.length - g ∧ Fr aS 65 [] [(3, vI g), (42, .bool false), (28, .bool false), (2, .bool false), (1, vP g1 0)] ∧ Mem w wS [.blk g1 #[vI x.cpus, vQ x.credit, .slice x.gA x.gs.length x.gc] 25]) (m := x.gs.length - 1) ⟨1, Nat.le_refl _, by omega, UpTo.zero.succ (qnc x.gs), rfl, M.sub (by kernel_rfl), O.pk [0]⟩ ?_
 clear M O; rintro mS a w_ ⟨g, hg1, hgl, hu, rfl, M, O⟩
 refine wp_seq (s_fs1 ?_)
 refine fp M 2 0 [(44, vP g1 2), (43, vI g)] fun a M => s_fc M O 2 0 fun a M => ?_
 refine s_fl M 3 fun a M => ?_
 refine fp M 1 4 [(47, .bool (decide ((g : Int) < (x.gs.length : Int))))] fun a M => s_d0 ?_
 rcases M.tf 47 rfl with ⟨hb47, M⟩ | ⟨hb47, M⟩
 ·
  have hd47 := of_decide_eq_true hb47
  have hg47 : g < x.gs.length := by omega
  have hOk := hok.gs _ (qr Gr.zero hg47)
  have hOw := hOk.weight
  unfold I64 at hOw
  refine s_ct M (wp_skip (wp_seq (wp_block (s_fs1 ?_))))
  refine fp M 1 0 [(50, vP g1 2)] fun a M => s_fc M O 1 0 fun a M => ?_
  refine fp M 1 2 [(52, vI g)] fun a M => ?_
  replace M := M.sp 51 (.slice (some ⟨gq1, oq1, none⟩) x.gs.length x.gc) rfl (by rw [hq1]; try rfl)
  refine s_fz M O 3 rfl (v := vP gq1 (oq1 + g * 2)) (Yl.ix gq1 oq1 g 2 rfl rfl rfl) fun a M => ?_
  refine fp M 1 4 [(54, vP gq1 (oq1 + g * 2 + 1))] fun a M => s_fz M O 5 rfl (v := vI ((x.gs.getD g Gr.zero).weight)) (Yl.qk rfl rfl (by kernel_rfl) (fun _ h => (h.old hrq1).partAt zx (k := g) (j := 1) (x := (x.gs.getD g Gr.zero)) ((getD_at Gr.zero (by omega))) rfl)) fun a M => ?_
  refine fo M 6 rfl rfl ?_
  refine e_cl M [vI ((x.gs.getD g Gr.zero).weight)] rfl rfl (qi7 ((x.gs.getD g Gr.zero).weight) _) ?_
  rintro _ w56 ⟨rfl, hbw⟩
  refine ⟨_, rfl, ?_⟩
  replace O := O.call hbw
  clear M; intro a M
  refine fp M 2 7 [(58, .bool (!(decide (1 ≤ (x.gs.getD g Gr.zero).weight ∧ (x.gs.getD g Gr.zero).weight ≤ 65536))))] fun a M => ?_
  rcases M.tf 58 rfl with ⟨hb58, M⟩ | ⟨hb58, M⟩
  ·
   have hd58 := of_decide_eq_false ((Bool.not_eq_true' _).mp hb58)
   refine fp M 6 9 [(64, .bool true)] fun a M => s_d0 (s_ct M (s_fs1 ?_))
   refine fp M 1 0 [(2, .bool false)] fun a M => s_d0 (wp_ret ?_)
   exact s_rt1 rfl M rfl (is_as (qil (qe7 hg47 (qh2 (by omega) (fun h => hd58 h.2.2.1)))).symm O.below)
  have hd58 := of_decide_eq_true ((Bool.not_eq_false' _).mp hb58)
  refine fp M 1 9 [(59, vP g1 2)] fun a M => s_fc M O 10 0 fun a M => ?_
  refine fp M 1 11 [(61, vI g)] fun a M => fo M 12 rfl rfl ?_
  refine e_cl M [.slice x.gA x.gs.length x.gc, vI g] rfl rfl (qpw x.gA x.gc x.gs g _ hok.gs (O.old hx.g) hf.g ⟨by omega, by omega⟩ (qzv hu)) ?_
  rintro _ w62 ⟨⟨d, rfl, hd⟩, hbw⟩
  refine ⟨_, rfl, ?_⟩
  replace O := O.call hbw
  clear M; intro a M
  refine fp M 2 13 [(64, .bool (decide ((d : Int) > (4 : Int))))] fun a M => s_d0 ?_
  rcases M.tf 64 rfl with ⟨hb64, M⟩ | ⟨hb64, M⟩
  ·
   have hd64 := of_decide_eq_true hb64
   refine s_ct M (s_fs1 ?_)
   refine fp M 1 0 [(2, .bool false)] fun a M => s_d0 (wp_ret ?_)
   exact s_rt1 rfl M rfl (is_as (qil (qe7 hg47 (qzu (by omega) (fun h => by have := hd.2 h; omega)))).symm O.below)
  have hd64 := of_decide_eq_false hb64
  refine s_cf M (wp_skip (qa ?_))
  refine fp M 2 0 [(49, vI (IntKind.i64.wrap ((g : Int) + 1)))] fun a M => ?_
  replace M := M.sp 49 (vI (g + 1 : Nat)) rfl (qc (by omega) (by omega))
  refine fp M 1 2 [(3, vI (g + 1 : Nat))] fun a M => s_d0 ?_
  exact ⟨_, (by omega), g + 1, by omega, by omega, hu.succ (qwd (hd.1 (by omega)) (by simpa using hb58)), rfl, M.sub (by kernel_rfl), O.pk [0]⟩
 have hd47 := of_decide_eq_false hb47
 refine s_cf M (wp_exit (s_fs1 ?_))
 refine fp M 1 0 [(2, .bool true)] fun a M => s_d0 (wp_ret ?_)
 exact s_rt1 rfl M rfl (is_as ((qri (by omega)).trans (qnb ⟨by omega, by omega, hg0⟩ (fun i hi => hu i (by omega)))).symm O.below)
theorem qtq (x : Stm) (id : Int) (w : World) (hx : StRd w x) (hn : x.ts.length ≤ 1000000) :
    Calls Tryz.prog 113 #[.agg x.cells, .int .i64 id] w (Is w (.int .i64 (fidx x.ts id))) := by
 refine s_ce Tryz.func113 [.agg x.cells, vI id] [(0, .agg x.cells), (1, vI id)] fun a M => ?_
 have O := Mem.start w
 refine s_fs1 ?_
 refine fo M 0 rfl rfl (s_eb M O x.cells fun a w2 g2 M O => ?_)
 refine fp M 1 1 [(4, vI 0)] fun a M => s_d0 (wp_seq (s_fs1 ?_))
 refine fp M 1 0 [(5, vI 0)] fun a M => s_d0 (wp_block ?_)
 refine qe (fun mS aS wS => ∃ (i : Nat), (i ≤ x.ts.length) ∧ (∀ k, k < i → (x.ts.getD k Tk.zero).id ≠ id) ∧ mS = x.ts.length - i ∧ Fr aS 22 [] [(5, vI i), (4, vI 0), (2, vP g2 0), (1, vI id)] ∧ Mem w wS [.blk g2 x.cells 30]) (m := x.ts.length - 0) ⟨0, Nat.zero_le _, fun k h => by omega, rfl, M.sub (by kernel_rfl), O.pk [0]⟩ ?_
 clear M O; rintro mS a w_ ⟨i, hi, hu, rfl, M, O⟩
 refine wp_seq (s_fs1 ?_)
 refine fp M 2 0 [(7, vP g2 5), (6, vI i)] fun a M => s_fc M O 2 0 (v := .slice x.tA x.ts.length x.tc) fun a M => ?_
 refine s_fl M 3 fun a M => ?_
 refine fp M 1 4 [(10, .bool (decide ((i : Int) < (x.ts.length : Int))))] fun a M => s_d0 ?_
 rcases M.tf 10 rfl with ⟨hb10, M⟩ | ⟨hb10, M⟩
 ·
  have hd10 := of_decide_eq_true hb10
  have hi10 : i < x.ts.length := by omega
  refine s_ct M (wp_skip (wp_seq (wp_block (s_fs1 ?_))))
  refine fp M 1 0 [(13, vP g2 5)] fun a M => s_fc M O 1 0 (v := .slice x.tA x.ts.length x.tc) fun a M => ?_
  refine fp M 1 2 [(15, vI i)] fun a M => ?_
  obtain ⟨gq1, oq1, hq1, _⟩ := Rd.qi hx.t (Nat.lt_of_le_of_lt (Nat.zero_le _) (show i < x.ts.length from by omega)) (by decide)
  have hrq1 := hx.t; rw [hq1] at hrq1
  replace M := M.sp 14 (.slice (some ⟨gq1, oq1, none⟩) x.ts.length x.tc) rfl (by rw [hq1]; try rfl)
  refine s_fz M O 3 rfl (v := vP gq1 (oq1 + i * 8)) (Yl.ix gq1 oq1 i 8 rfl rfl rfl) fun a M => ?_
  refine fp M 1 4 [(17, vP gq1 (oq1 + i * 8))] fun a M => s_fz M O 5 rfl (v := vI ((x.ts.getD i Tk.zero).id)) (Yl.qk rfl rfl (by kernel_rfl) (fun _ h => (by have := (h.old hrq1).partAt z7 (k := i) (j := 0) (x := (x.ts.getD i Tk.zero)) ((getD_at Tk.zero (by omega))) rfl; simpa using this))) fun a M => ?_
  refine fp M 2 6 [(20, .bool (((x.ts.getD i Tk.zero).id : Int) == (id : Int)))] fun a M => s_d0 ?_
  rcases M.tf 20 rfl with ⟨hb20, M⟩ | ⟨hb20, M⟩
  ·
   have hd20 := eq_of_beq hb20
   refine s_ct M (s_fs1 ?_)
   refine fp M 2 0 [(4, vI i)] fun a M => s_d0 (wp_ret ?_)
   exact s_rt1 rfl M rfl (⟨by rw [qto hi10 hd20 hu], O.below⟩)
  have hd20 := ne_of_beq_false hb20
  refine s_cf M (wp_skip (qa ?_))
  refine fp M 2 0 [(12, vI (IntKind.i64.wrap ((i : Int) + 1)))] fun a M => ?_
  replace M := M.sp 12 (vI (i + 1 : Nat)) rfl (qc (by omega) (by omega))
  refine fp M 1 2 [(5, vI (i + 1 : Nat))] fun a M => s_d0 ?_
  exact ⟨_, (by omega), i + 1, by omega, qia hu hd20, rfl, M.sub (by kernel_rfl), O.pk [0]⟩
 have hd10 := of_decide_eq_false hb10
 refine s_cf M (wp_exit (s_fs1 ?_))
 refine fp M 1 0 [(4, vI (-1))] fun a M => s_d0 (wp_ret ?_)
 exact s_rt1 rfl M rfl (⟨by rw [qtn (fun k h => hu k (by omega))], O.below⟩)
theorem qmp (p q : Mb) (w : World) :
    Calls Tryz.prog 137 #[.agg p.rcells, .agg q.rcells] w (Is w (.bool (p.lt q))) := by
 refine s_ce Tryz.func137 [.agg p.rcells, .agg q.rcells] [(0, .agg p.rcells), (1, .agg q.rcells)] fun a M => ?_
 have O := Mem.start w
 refine s_fs1 ?_
 refine fo M 0 rfl rfl (s_eb M O p.rcells fun a w2 g2 M O => ?_)
 refine fo M 1 rfl rfl (s_eb M O q.rcells fun a w3 g3 M O => ?_)
 refine fp M 1 2 [(4, .bool false)] fun a M => s_d0 (wp_seq (s_fs1 ?_))
 refine fp M 1 0 [(5, vP g2 0)] fun a M => s_fc M O 1 1 (v := vQ p.v) fun a M => ?_
 refine fp M 1 2 [(7, vP g3 0)] fun a M => s_fc M O 3 0 (v := vQ q.v) fun a M => ?_
 refine fp M 1 4 [(9, .bool ((p.v : Int) != (q.v : Int)))] fun a M => s_d0 ?_
 rcases M.tf 9 rfl with ⟨hb9, M⟩ | ⟨hb9, M⟩
 ·
  have hd9 := bne_iff_ne.1 hb9
  refine s_ct M (s_fs1 ?_)
  refine fp M 1 0 [(10, vP g2 0)] fun a M => s_fc M O 1 1 (v := vQ p.v) fun a M => ?_
  refine fp M 1 2 [(12, vP g3 0)] fun a M => s_fc M O 3 0 (v := vQ q.v) fun a M => ?_
  refine fp M 2 4 [(4, .bool (decide ((p.v : Int) < (q.v : Int))))] fun a M => s_d0 (wp_ret ?_)
  exact s_rt1 rfl M rfl (qs8 (lt_v (by omega)) O.below)
 have hd9 := bne_eq_false_iff_eq.1 hb9
 refine s_cf M (wp_skip (wp_seq (s_fs1 ?_)))
 refine fp M 1 0 [(15, vP g2 1)] fun a M => s_fc M O 1 1 (v := vI p.k) fun a M => ?_
 refine fp M 1 2 [(17, vP g3 1)] fun a M => s_fc M O 3 0 (v := vI q.k) fun a M => ?_
 refine fp M 1 4 [(19, .bool ((p.k : Int) != (q.k : Int)))] fun a M => s_d0 ?_
 rcases M.tf 19 rfl with ⟨hb19, M⟩ | ⟨hb19, M⟩
 ·
  have hd19 := bne_iff_ne.1 hb19
  refine s_ct M (s_fs1 ?_)
  refine fp M 1 0 [(20, vP g2 1)] fun a M => s_fc M O 1 1 (v := vI p.k) fun a M => ?_
  refine fp M 1 2 [(22, vP g3 1)] fun a M => s_fc M O 3 0 (v := vI q.k) fun a M => ?_
  refine fp M 2 4 [(4, .bool (decide ((p.k : Int) < (q.k : Int))))] fun a M => s_d0 (wp_ret ?_)
  exact s_rt1 rfl M rfl (qs8 (lt_k (by omega) (by omega)) O.below)
 have hd19 := bne_eq_false_iff_eq.1 hb19
 refine s_cf M (wp_skip (s_fs1 ?_))
 refine fp M 1 0 [(25, vP g2 2)] fun a M => s_fc M O 1 1 (v := vI p.id) fun a M => ?_
 refine fp M 1 2 [(27, vP g3 2)] fun a M => s_fc M O 3 0 (v := vI q.id) fun a M => ?_
 refine fp M 2 4 [(4, .bool (decide ((p.id : Int) < (q.id : Int))))] fun a M => s_d0 (wp_ret ?_)
 exact s_rt1 rfl M rfl (qs8 (lt_id (by omega) (by omega)) O.below)
theorem qmq (x : Stm) (hok : x.sta.Ok) (hf : StFew x) (w : World) (hx : StRd w x) :
    Calls Tryz.prog 111 #[.agg x.cells] w (Is w (.bool (shpS x.sta))) := by
 have hfs := hf.s; have hft := hf.t; have hfg := hf.g; have hfl := hf.l; have hfu := hf.u
 refine s_ce Tryz.func111 [.agg x.cells] [(0, .agg x.cells)] fun a M => ?_
 have O := Mem.start w
 refine s_fs1 ?_
 refine fo M 0 rfl rfl (s_eb M O x.cells fun a w1 g1 M O => ?_)
 refine fp M 1 1 [(2, .bool false)] fun a M => s_d0 (wp_seq (s_fs1 ?_))
 refine fp M 1 0 [(7, vP g1 0)] fun a M => s_fz M O 1 rfl (v := .agg #[vI x.cpus, vQ x.credit, .slice x.gA x.gs.length x.gc]) (Yl.qt rfl rfl qbo rfl (fun _ h => h.sub (i := 0) rfl 0 rfl)) fun a M => ?_
 refine fo M 2 rfl rfl (e_is M O [.agg #[vI x.cpus, vQ x.credit, .slice x.gA x.gs.length x.gc]] (.bool (cfgOk x.sta)) rfl rfl (qfy x hok hf _ (hx.old O)) fun w9 hbw O a M => ?_)
 refine fp M 2 3 [(11, .bool (!(cfgOk x.sta)))] fun a M => ?_
 rcases M.tf 11 rfl with ⟨hb11, M⟩ | ⟨hb11, M⟩
 ·
  refine fp M 27 5 [(38, .bool true)] fun a M => s_d0 (s_ct M (s_fs1 ?_))
  refine fp M 1 0 [(2, .bool false)] fun a M => s_d0 (wp_ret ?_)
  exact s_rt1 rfl M rfl (is_as (qzw (by simpa using hb11)).symm O.below)
 have hcf : cfgOk x.sta = true := by simpa using hb11
 obtain ⟨hc1, hc2, hc3, hgs⟩ := qdg hcf
 refine fp M 1 5 [(12, vP g1 3)] fun a M => s_fc M O 6 0 (v := .slice x.lA x.cl.length x.lc) fun a M => ?_
 refine s_fl M 7 fun a M => ?_
 refine fp M 2 8 [(16, vP g1 0)] fun a M => s_fc M O 10 0 (v := vI x.cpus) fun a M => ?_
 refine fp M 3 11 [(20, .bool ((x.cl.length : Int) != (x.cpus : Int)))] fun a M => ?_
 rcases M.tf 20 rfl with ⟨hb20, M⟩ | ⟨hb20, M⟩
 ·
  have hd20 := bne_iff_ne.1 hb20
  refine fp M 18 14 [(38, .bool true)] fun a M => s_d0 (s_ct M (s_fs1 ?_))
  refine fp M 1 0 [(2, .bool false)] fun a M => s_d0 (wp_ret ?_)
  exact s_rt1 rfl M rfl (is_as (qml (by omega)).symm O.below)
 have hd20 := bne_eq_false_iff_eq.1 hb20
 refine fp M 1 14 [(21, vP g1 4)] fun a M => s_fc M O 15 0 (v := .slice x.uA x.cu.length x.uc) fun a M => ?_
 refine s_fl M 16 fun a M => ?_
 refine fp M 2 17 [(25, vP g1 0)] fun a M => s_fc M O 19 0 (v := vI x.cpus) fun a M => ?_
 refine fp M 3 20 [(29, .bool ((x.cu.length : Int) != (x.cpus : Int)))] fun a M => ?_
 rcases M.tf 29 rfl with ⟨hb29, M⟩ | ⟨hb29, M⟩
 ·
  have hd29 := bne_iff_ne.1 hb29
  refine fp M 9 23 [(38, .bool true)] fun a M => s_d0 (s_ct M (s_fs1 ?_))
  refine fp M 1 0 [(2, .bool false)] fun a M => s_d0 (wp_ret ?_)
  exact s_rt1 rfl M rfl (is_as (qml (by omega)).symm O.below)
 have hd29 := bne_eq_false_iff_eq.1 hb29
 refine fp M 1 23 [(30, vP g1 6)] fun a M => s_fc M O 24 0 (v := .slice x.sA x.rs.length x.sc) fun a M => ?_
 refine s_fl M 25 fun a M => ?_
 refine fp M 2 26 [(34, vP g1 2)] fun a M => s_fc M O 28 0 (v := .slice x.gA x.gs.length x.gc) fun a M => ?_
 refine s_fl M 29 fun a M => ?_
 refine fp M 2 30 [(38, .bool ((x.rs.length : Int) != (x.gs.length : Int)))] fun a M => s_d0 ?_
 rcases M.tf 38 rfl with ⟨hb38, M⟩ | ⟨hb38, M⟩
 ·
  have hd38 := bne_iff_ne.1 hb38
  refine s_ct M (s_fs1 ?_)
  refine fp M 1 0 [(2, .bool false)] fun a M => s_d0 (wp_ret ?_)
  exact s_rt1 rfl M rfl (is_as (qml (by omega)).symm O.below)
 have hd38 := bne_eq_false_iff_eq.1 hb38
 refine s_cf M (wp_skip (wp_seq (s_fs1 ?_)))
 refine fp M 1 0 [(3, vI 0)] fun a M => s_d0 (wp_block ?_)
 refine qe (fun mS aS wS => ∃ (k : Nat), (k ≤ x.cl.length) ∧ (UpTo k (fun c => clOk (x.cl.getD c 0))) ∧ mS = x.cl.length - k ∧ Fr aS 123 [] [(3, vI k), (38, .bool false), (2, .bool false), (1, vP g1 0)] ∧ Mem w wS [.blk g1 x.cells 30]) (m := x.cl.length - 0) ⟨0, Nat.zero_le _, UpTo.zero, rfl, M.sub (by kernel_rfl), O.pk [0]⟩ ?_
 clear M O; rintro mS a w_ ⟨k, hk, hu0, rfl, M, O⟩
 refine wp_seq (s_fs1 ?_)
 refine fp M 2 0 [(40, vP g1 3), (39, vI k)] fun a M => s_fc M O 2 0 (v := .slice x.lA x.cl.length x.lc) fun a M => ?_
 refine s_fl M 3 fun a M => ?_
 refine fp M 1 4 [(43, .bool (decide ((k : Int) < (x.cl.length : Int))))] fun a M => s_d0 ?_
 rcases M.tf 43 rfl with ⟨hb43, M⟩ | ⟨hb43, M⟩
 ·
  have hd43 := of_decide_eq_true hb43
  have hk43 : k < x.cl.length := by omega
  refine s_ct M (wp_skip (wp_seq (wp_block (s_fs1 ?_))))
  refine fp M 1 0 [(46, vP g1 3)] fun a M => s_fc M O 1 0 (v := .slice x.lA x.cl.length x.lc) fun a M => ?_
  refine fp M 1 2 [(48, vI k)] fun a M => ?_
  obtain ⟨gq1, oq1, hq1, _⟩ := Rd.qi hx.l (Nat.lt_of_le_of_lt (Nat.zero_le _) (show k < x.cl.length from by omega)) (by decide)
  have hrq1 := hx.l; rw [hq1] at hrq1
  replace M := M.sp 47 (.slice (some ⟨gq1, oq1, none⟩) x.cl.length x.lc) rfl (by rw [hq1]; try rfl)
  refine s_fz M O 3 rfl (v := vP gq1 (oq1 + k * 1)) (Yl.ix gq1 oq1 k 1 rfl rfl rfl) fun a M => ?_
  refine s_fz M O 4 rfl (v := vI (x.cl.getD k 0)) (Yl.o1 hrq1 k 0 (by omega) rfl rfl) fun a M => ?_
  refine fp M 2 5 [(52, .bool (decide (((x.cl.getD k 0) : Int) < (0 : Int))))] fun a M => ?_
  rcases M.tf 52 rfl with ⟨hb52, M⟩ | ⟨hb52, M⟩
  ·
   have hd52 := of_decide_eq_true hb52
   refine fp M 7 7 [(59, .bool true)] fun a M => s_d0 (s_ct M (s_fs1 ?_))
   refine fp M 1 0 [(2, .bool false)] fun a M => s_d0 (wp_ret ?_)
   exact s_rt1 rfl M rfl (is_as (qx9 hk43 (qs6 (by omega))).symm O.below)
  have hd52 := of_decide_eq_false hb52
  refine fp M 1 7 [(53, vP g1 3)] fun a M => s_fc M O 8 0 (v := .slice x.lA x.cl.length x.lc) fun a M => ?_
  refine fp M 1 9 [(55, vI k)] fun a M => ?_
  replace M := M.sp 54 (.slice (some ⟨gq1, oq1, none⟩) x.cl.length x.lc) rfl (by rw [hq1]; try rfl)
  refine s_fz M O 10 rfl (v := vP gq1 (oq1 + k * 1)) (Yl.ix gq1 oq1 k 1 rfl rfl rfl) fun a M => ?_
  refine s_fz M O 11 rfl (v := vI (x.cl.getD k 0)) (Yl.o1 hrq1 k 0 (by omega) rfl rfl) fun a M => ?_
  refine fp M 2 12 [(59, .bool (decide (((x.cl.getD k 0) : Int) > (281474976710656 : Int))))] fun a M => s_d0 ?_
  rcases M.tf 59 rfl with ⟨hb59, M⟩ | ⟨hb59, M⟩
  ·
   have hd59 := of_decide_eq_true hb59
   refine s_ct M (s_fs1 ?_)
   refine fp M 1 0 [(2, .bool false)] fun a M => s_d0 (wp_ret ?_)
   exact s_rt1 rfl M rfl (is_as (qx9 hk43 (qs6 (by omega))).symm O.below)
  have hd59 := of_decide_eq_false hb59
  refine s_cf M (wp_skip (qa ?_))
  refine fp M 2 0 [(45, vI (IntKind.i64.wrap ((k : Int) + 1)))] fun a M => ?_
  replace M := M.sp 45 (vI (k + 1 : Nat)) rfl (qc (by omega) (by omega))
  refine fp M 1 2 [(3, vI (k + 1 : Nat))] fun a M => s_d0 ?_
  exact ⟨_, (by omega), k + 1, by omega, hu0.succ (qwe (by omega)), rfl, M.sub (by kernel_rfl), O.pk [0]⟩
 have hd43 := of_decide_eq_false hb43
 refine s_cf M (wp_exit (wp_seq (s_fs1 ?_)))
 refine fp M 1 0 [(4, vI 0)] fun a M => s_d0 (wp_block ?_)
 refine qe (fun mS aS wS => ∃ (g : Nat), (g ≤ x.rs.length) ∧ (UpTo g (rowOk x.sta)) ∧ mS = x.rs.length - g ∧ Fr aS 123 [] [(4, vI g), (43, .bool false), (3, vI k), (38, .bool false), (2, .bool false), (1, vP g1 0)] ∧ Mem w wS [.blk g1 x.cells 30]) (m := x.rs.length - 0) ⟨0, Nat.zero_le _, UpTo.zero, rfl, M.sub (by kernel_rfl), O.pk [0]⟩ ?_
 clear M O; rintro mS a w_ ⟨g, hg, hu, rfl, M, O⟩
 refine wp_seq (s_fs1 ?_)
 refine fp M 2 0 [(61, vP g1 6), (60, vI g)] fun a M => s_fc M O 2 0 (v := .slice x.sA x.rs.length x.sc) fun a M => ?_
 refine s_fl M 3 fun a M => ?_
 refine fp M 1 4 [(64, .bool (decide ((g : Int) < (x.rs.length : Int))))] fun a M => s_d0 ?_
 rcases M.tf 64 rfl with ⟨hb64, M⟩ | ⟨hb64, M⟩
 ·
  have hd64 := of_decide_eq_true hb64
  have hg48 : g < x.rs.length := by omega
  obtain ⟨y, hy⟩ : ∃ z, x.rs.getD g Rw.zero = z := ⟨_, rfl⟩
  have hyr : Rd w w.heap.size 3 y.A y.l.length (y.l.flatMap spL) := by rw [← hy]; exact hx.row hg48
  have hyl : y.l.length ≤ 1000000 := by rw [← hy]; exact hf.r _ (qr Rw.zero hg48)
  have hyo : ∀ z ∈ y.l, z.Ok := by rw [← hy, ← rs_at hg48]; exact hok.sp _ (qr [] (by rw [qaz]; exact hg48))
  obtain ⟨wt, hwt⟩ : ∃ z, (x.gs.getD g Gr.zero).weight = z := ⟨_, rfl⟩
  have hw1 := wt_at hgs (show g < x.gs.length by omega)
  rw [hwt] at hw1
  obtain ⟨gq2, oq2, hq2, _⟩ := Rd.qi hx.g (Nat.lt_of_le_of_lt (Nat.zero_le _) (show g < x.gs.length from by omega)) (by decide)
  have hrq2 := hx.g; rw [hq2] at hrq2
  obtain ⟨gq3, oq3, hq3, _⟩ := Rd.qi hx.s (Nat.lt_of_le_of_lt (Nat.zero_le _) (show g < x.rs.length from hg48)) (by decide)
  have hrq3 := hx.s; rw [hq3] at hrq3
  refine s_ct M (wp_skip (wp_seq (wp_block (wp_seq (wp_seq ?_)))))
  refine qz O [.blk g1 x.cells 30] [0] [] fun O Z => ?_
  refine ap M (fun _ => Z) [0, 2, 6, 7] (bf 10 [0, 2, 6, 7]) [(74, vP g1 0), (69, vI g), (67, vP g1 6)] fun a M => ?_
  refine s_ac M Z 1 0 (v := .slice x.sA x.rs.length x.sc) fun a M => ?_
  replace M := M.sp 68 (.slice (some ⟨gq3, oq3, none⟩) x.rs.length x.sc) rfl (by rw [hq3]; try rfl)
  refine s_az M Z 3 rfl (v := vP gq3 (oq3 + g * 1)) (Yl.ix gq3 oq3 g 1 rfl rfl rfl) fun a M => ?_
  refine s_az M Z 4 rfl (v := .slice ((x.rs.getD g Rw.zero).A) ((x.rs.getD g Rw.zero).l.length) ((x.rs.getD g Rw.zero).c)) (Yl.o1 hrq3 g Rw.zero hg48 rfl rfl) fun a M => ?_
  replace M := M.sp 71 (.slice y.A y.l.length y.c) rfl (by rw [hy])
  refine s_al M Z 5 fun a M => ?_
  refine s_ac M Z 8 0 (v := vI x.cpus) fun a M => ?_
  refine ap M (fun _ => Z) [9] (bt 10 []) [(76, .bool ((y.l.length : Int) != (x.cpus : Int)))] fun a M => ?_
  refine qh (by kernel_rfl) ?_
  rcases M.tf 76 rfl with ⟨hb76, M⟩ | ⟨hb76, M⟩
  ·
   have hd76 := bne_iff_ne.1 hb76
   refine s_ct M (s_fs1 ?_)
   refine fp M 1 0 [(2, .bool false)] fun a M => s_d0 (wp_ret ?_)
   exact s_rt1 rfl M rfl (is_as (qs5 hg48 (qrk hg48 (by rw [hy]; omega))).symm O.below)
  have hd76 := bne_eq_false_iff_eq.1 hb76
  refine s_cf M (wp_skip (s_fs1 ?_))
  refine fp M 1 0 [(5, vI 0)] fun a M => s_d0 (wp_block ?_)
  refine qe (fun mS aS wS => ∃ (c : Nat), (c ≤ y.l.length) ∧ (UpTo c (fun c => spOk x.sta g (y.l.getD c Sp.zero))) ∧ mS = y.l.length - c ∧ Fr aS 123 [] [(5, vI c), (76, .bool false), (64, .bool true), (4, vI g), (43, .bool false), (3, vI k), (38, .bool false), (2, .bool false), (1, vP g1 0)] ∧ Mem w wS [.blk g1 x.cells 30]) (m := y.l.length - 0) ⟨0, Nat.zero_le _, UpTo.zero, rfl, M.sub (by kernel_rfl), O.pk [0]⟩ ?_
  clear M O; rintro mS a w_ ⟨c, hc, hu2, rfl, M, O⟩
  refine wp_seq (s_fs1 ?_)
  refine fp M 2 0 [(78, vP g1 6), (77, vI c)] fun a M => s_fc M O 2 0 (v := .slice x.sA x.rs.length x.sc) fun a M => ?_
  refine fp M 1 3 [(80, vI g)] fun a M => ?_
  replace M := M.sp 79 (.slice (some ⟨gq3, oq3, none⟩) x.rs.length x.sc) rfl (by rw [hq3]; try rfl)
  refine s_fz M O 4 rfl (v := vP gq3 (oq3 + g * 1)) (Yl.ix gq3 oq3 g 1 rfl rfl rfl) fun a M => ?_
  refine s_fz M O 5 rfl (v := .slice ((x.rs.getD g Rw.zero).A) ((x.rs.getD g Rw.zero).l.length) ((x.rs.getD g Rw.zero).c)) (Yl.o1 hrq3 g Rw.zero hg48 rfl rfl) fun a M => ?_
  replace M := M.sp 82 (.slice y.A y.l.length y.c) rfl (by rw [hy])
  refine s_fl M 6 fun a M => ?_
  refine fp M 1 7 [(84, .bool (decide ((c : Int) < (y.l.length : Int))))] fun a M => s_d0 ?_
  rcases M.tf 84 rfl with ⟨hb84, M⟩ | ⟨hb84, M⟩
  ·
   have hd84 := of_decide_eq_true hb84
   have hc61 : c < y.l.length := by omega
   obtain ⟨z, hz⟩ : ∃ q, y.l.getD c Sp.zero = q := ⟨_, rfl⟩
   have hzo := hyo _ (qr Sp.zero hc61)
   rw [hz] at hzo
   have hzv := hzo.v; have hzr := hzo.r
   refine s_ct M (wp_skip (wp_seq (wp_block (s_fs1 ?_))))
   refine fp M 1 0 [(87, vP g1 6)] fun a M => s_fc M O 1 0 (v := .slice x.sA x.rs.length x.sc) fun a M => ?_
   refine fp M 1 2 [(89, vI g)] fun a M => ?_
   replace M := M.sp 88 (.slice (some ⟨gq3, oq3, none⟩) x.rs.length x.sc) rfl (by rw [hq3]; try rfl)
   refine s_fz M O 3 rfl (v := vP gq3 (oq3 + g * 1)) (Yl.ix gq3 oq3 g 1 rfl rfl rfl) fun a M => ?_
   refine s_fz M O 4 rfl (v := .slice ((x.rs.getD g Rw.zero).A) ((x.rs.getD g Rw.zero).l.length) ((x.rs.getD g Rw.zero).c)) (Yl.o1 hrq3 g Rw.zero hg48 rfl rfl) fun a M => ?_
   replace M := M.sp 91 (.slice y.A y.l.length y.c) rfl (by rw [hy])
   refine fp M 1 5 [(92, vI c)] fun a M => ?_
   obtain ⟨gq4, oq4, hq4, _⟩ := Rd.qi hyr (Nat.lt_of_le_of_lt (Nat.zero_le _) (show c < y.l.length from by omega)) (by decide)
   have hrq4 := hyr; rw [hq4] at hrq4
   replace M := M.sp 91 (.slice (some ⟨gq4, oq4, none⟩) y.l.length y.c) rfl (by rw [hq4]; try rfl)
   refine s_fz M O 6 rfl (v := vP gq4 (oq4 + c * 3)) (Yl.ix gq4 oq4 c 3 rfl rfl rfl) fun a M => ?_
   refine s_fz M O 7 rfl (v := .agg ((y.l.getD c Sp.zero).cells)) (Yl.qt rfl rfl si_sp rfl (fun _ h => (h.old hrq4).zf qau ((getD_at Sp.zero hc61)))) fun a M => ?_
   replace M := M.sp 94 (.agg z.cells) rfl (by rw [hz])
   refine fo M 8 rfl rfl (s_ea M O #[vQ 0, vW 0, vQ 0] fun a w6 g6 M O => ?_)
   refine fo M 9 rfl rfl (e_sa M O 0 rfl rfl rfl rfl rfl si_sp rfl rfl (qxg z) fun w16_9 O => ?_)
   refine s_d0 (qaj (fun aS wS => Fr aS 123 [] [(122, .bool (!spOk x.sta g z)), (6, vP g6 0), (84, .bool true), (5, vI c), (76, .bool false), (64, .bool true), (4, vI g), (43, .bool false), (3, vI k), (38, .bool false), (2, .bool false), (1, vP g1 0)] ∧ Mem w wS [.blk g6 z.cells 43, .blk g1 x.cells 30]) ?_ ?_)
   ·
    refine qz O [.blk g6 z.cells 43, .blk g1 x.cells 30] [0, 1] [] fun O Z => ?_
    refine ap M (fun _ => Z) [0, 2, 4, 5, 7] (bf 28 [0, 2, 4, 5, 7]) [(102, vI g), (100, vP g1 2), (97, vP g6 1), (95, vP g6 0)] fun a M => ?_
    refine s_ac M Z 1 0 (v := vQ z.v) fun a M => ?_
    refine s_ac M Z 3 0 (v := vW z.r) fun a M => ?_
    refine s_ac M Z 6 1 (v := .slice x.gA x.gs.length x.gc) fun a M => ?_
    replace M := M.sp 101 (.slice (some ⟨gq2, oq2, none⟩) x.gs.length x.gc) rfl (by rw [hq2]; try rfl)
    refine s_az M Z 8 rfl (v := vP gq2 (oq2 + g * 2)) (Yl.ix gq2 oq2 g 2 rfl rfl rfl) fun a M => ?_
    refine ap M (fun _ => Z) [9] (bf 28 [0, 1, 2, 3, 4, 5, 6, 7, 8, 9]) [(104, vP gq2 (oq2 + g * 2 + 1))] fun a M => ?_
    refine s_az M Z 10 rfl (v := vI ((x.gs.getD g Gr.zero).weight)) (Yl.qk rfl rfl (by kernel_rfl) (fun _ h => (h.old hrq2).partAt zx (k := g) (j := 1) (x := (x.gs.getD g Gr.zero)) ((getD_at Gr.zero (by omega))) rfl)) fun a M => ?_
    replace M := M.sp 105 (vI wt) rfl (by rw [hwt])
    refine s_on M 11 rfl (e_is M O [vQ z.v, vW z.r, vI wt] (.agg #[vQ z.v, vW z.r, vW wt]) rfl rfl (qhd z.v z.r wt (by omega) _) fun w106 hbw O a M => ?_)
    refine keepS (O.pk [0, 1]) (fun Z => ?_)
    refine s_on M 12 rfl (e_is M O [.agg #[vQ z.v, vW z.r, vW wt]] (.bool (entOk z.v z.r wt)) rfl rfl (qfr z.v z.r wt (by omega) (by omega) (by omega) _) fun w107 hbw O a M => ?_)
    refine keepS (O.pk [0, 1]) (fun Z => ?_)
    refine ap M (fun _ => Z) [13, 14] (bt 28 [15, 16, 17, 18, 19, 20, 21, 22, 23, 24, 25, 26, 27]) [(109, .bool (!(entOk z.v z.r wt)))] fun a M => ?_
    rcases M.tf 109 rfl with ⟨hb109, M⟩ | ⟨hb109, M⟩
    ·
     refine ap M (fun _ => Z) [15, 16, 17, 18, 19, 20, 21, 22, 23, 24, 25, 26, 27] (bt 28 []) [(122, .bool true)] fun a M => ?_
     refine qh (by kernel_rfl) ?_
     have M := M.sp 122 (.bool (!spOk x.sta g z)) rfl (congrArg Value.bool (by rw [qxm (by rw [hwt]; simpa using hb109)]; rfl))
     exact ⟨M.sub (by kernel_rfl), O.pk [0, 1]⟩
    refine ap M (fun _ => Z) [15, 16, 17] (bt 28 [18, 19, 20, 21, 22, 23, 24, 25, 26, 27]) [(112, .bool ((g : Int) == (0 : Int)))] fun a M => ?_
    rcases M.tf 112 rfl with ⟨hb112, M⟩ | ⟨hb112, M⟩
    ·
     have hd112 := eq_of_beq hb112
     refine ap M (fun _ => Z) [18] (bt 28 [19, 20, 21, 22, 23, 24, 25, 26, 27]) [(113, vP g6 0)] fun a M => ?_
     refine s_ac M Z 19 0 (v := vQ z.v) fun a M => ?_
     refine ap M (fun _ => Z) [20, 21] (bt 28 [22, 23, 24, 25, 26, 27]) [(116, .bool (decide ((z.v : Int) > (0 : Int))))] fun a M => ?_
     rcases M.tf 116 rfl with ⟨hb116, M⟩ | ⟨hb116, M⟩
     ·
      have hd116 := of_decide_eq_true hb116
      refine ap M (fun _ => Z) [22, 23, 24, 25, 26, 27] (bt 28 []) [(122, .bool true)] fun a M => ?_
      refine qh (by kernel_rfl) ?_
      replace M := M.to [(122, .bool true), (6, vP g6 0), (84, .bool true), (5, vI c), (76, .bool false), (64, .bool true), (4, vI g), (43, .bool false), (3, vI k), (38, .bool false), (2, .bool false), (1, vP g1 0)]
      have M := M.sp 122 (.bool (!spOk x.sta g z)) rfl (congrArg Value.bool (by rw [qxn (by omega) (by omega)]; rfl))
      exact ⟨M.sub (by kernel_rfl), O.pk [0, 1]⟩
     have hd116 := of_decide_eq_false hb116
     refine ap M (fun _ => Z) [22] (bt 28 [23, 24, 25, 26, 27]) [(117, vP g6 1)] fun a M => ?_
     refine s_ac M Z 23 0 (v := vW z.r) fun a M => ?_
     refine ap M (fun _ => Z) [24, 25, 26, 27] (bt 28 []) [(122, .bool (decide ((z.r : Int) > (0 : Int))))] fun a M => ?_
     refine qh (by kernel_rfl) ?_
     replace M := M.to [(122, .bool (decide ((z.r : Int) > (0 : Int)))), (6, vP g6 0), (84, .bool true), (5, vI c), (76, .bool false), (64, .bool true), (4, vI g), (43, .bool false), (3, vI k), (38, .bool false), (2, .bool false), (1, vP g1 0)]
     have M := M.sp 122 (.bool (!spOk x.sta g z)) rfl (congrArg Value.bool (qwf (by rw [hwt]; simpa using hb109) (by omega) (by omega)))
     exact ⟨M.sub (by kernel_rfl), O.pk [0, 1]⟩
    have hd112 := ne_of_beq_false hb112
    refine ap M (fun _ => Z) [18, 19, 20, 21, 22, 23, 24, 25, 26, 27] (bt 28 []) [(122, .bool false)] fun a M => ?_
    refine qh (by kernel_rfl) ?_
    have M := M.sp 122 (.bool (!spOk x.sta g z)) rfl (congrArg Value.bool (by rw [qrn (by rw [hwt]; simpa using hb109) (by omega)]; rfl))
    exact ⟨M.sub (by kernel_rfl), O.pk [0, 1]⟩
   clear M O; rintro a w17 ⟨M, O⟩
   rcases M.tf 122 rfl with ⟨hb122, M⟩ | ⟨hb122, M⟩
   ·
    refine s_ct M (s_fs1 ?_)
    refine fp M 1 0 [(2, .bool false)] fun a M => s_d0 (wp_ret ?_)
    exact s_rt1 rfl M rfl (is_as (qs5 hg48 (qrl hg48 (by rw [hy]; exact hc61) (by rw [hy, hz]; simpa using hb122))).symm O.below)
   refine s_cf M (wp_skip (qa ?_))
   refine fp M 2 0 [(86, vI (IntKind.i64.wrap ((c : Int) + 1)))] fun a M => ?_
   replace M := M.sp 86 (vI (c + 1 : Nat)) rfl (qc (by omega) (by omega))
   refine fp M 1 2 [(5, vI (c + 1 : Nat))] fun a M => s_d0 ?_
   exact ⟨_, (by omega), c + 1, by omega, hu2.succ (by rw [hz]; simpa using hb122), rfl, M.sub (by kernel_rfl), O.pk [1]⟩
  have hd84 := of_decide_eq_false hb84
  refine s_cf M (wp_exit (qa ?_))
  refine fp M 2 0 [(66, vI (IntKind.i64.wrap ((g : Int) + 1)))] fun a M => ?_
  replace M := M.sp 66 (vI (g + 1 : Nat)) rfl (qc (by omega) (by omega))
  refine fp M 1 2 [(4, vI (g + 1 : Nat))] fun a M => s_d0 ?_
  exact ⟨_, (by omega), g + 1, by omega, hu.succ (qrm hg48 (by rw [hy]; omega) (by rw [hy]; exact fun i hi => hu2 i (by omega))), rfl, M.sub (by kernel_rfl), O.pk [0]⟩
 have hd64 := of_decide_eq_false hb64
 refine s_cf M (wp_exit (s_fs1 ?_))
 refine fp M 1 0 [(2, .bool true)] fun a M => s_d0 (wp_ret ?_)
 exact s_rt1 rfl M rfl (is_as (qzx hcf (by omega) (fun i hi => hu0 i (by omega)) (fun i hi => hu i (by omega))).symm O.below)
theorem qpx (x : Stm) (hok : x.sta.Ok) (hf : StFew x) (w : World) (hx : StRd w x) (hcp : 1 ≤ x.cpus ∧ x.cpus ≤ 64) (hrs : x.rs.length = x.gs.length) :
    Calls Tryz.prog 112 #[.agg x.cells] w (Is w (.bool (allN x.ts.length (tkAt x.sta)))) := by
 have hft := hf.t; have hfg := hf.g
 obtain ⟨n, hn⟩ : ∃ n : Nat, x.cpus = (n : Int) := ⟨x.cpus.toNat, by omega⟩
 have hn64 : 1 ≤ n ∧ n ≤ 64 := by omega
 refine s_ce Tryz.func112 [.agg x.cells] [(0, .agg x.cells)] fun a M => ?_
 have O := Mem.start w
 refine s_fs1 ?_
 refine fo M 0 rfl rfl (s_eb M O x.cells fun a w1 g1 M O => ?_)
 refine fp M 1 1 [(2, .bool false)] fun a M => s_d0 (s_fs1 ?_)
 refine fp M 1 0 [(3, vI 0)] fun a M => s_d0 (wp_seq (s_fs1 ?_))
 refine fp M 1 0 [(4, vI 0)] fun a M => s_d0 (wp_block ?_)
 refine qe (fun mS aS wS => ∃ (i : Nat), (i ≤ x.ts.length) ∧ (0 ≤ qp x.ts i) ∧ (UpTo i (tkAt x.sta)) ∧ mS = x.ts.length - i ∧ Fr aS 92 [] [(4, vI i), (3, vI (qp x.ts i)), (2, .bool false), (1, vP g1 0)] ∧ Mem w wS [.blk g1 x.cells 30]) (m := x.ts.length - 0) ⟨0, Nat.zero_le _, Int.le_refl _, UpTo.zero, rfl, M.sub (by kernel_rfl), O.pk [0]⟩ ?_
 clear M O; rintro mS a w_ ⟨i, hi, hpp, hu3, rfl, M, O⟩
 refine wp_seq (s_fs1 ?_)
 refine fp M 2 0 [(7, vP g1 5), (6, vI i)] fun a M => s_fc M O 2 0 (v := .slice x.tA x.ts.length x.tc) fun a M => ?_
 refine s_fl M 3 fun a M => ?_
 refine fp M 1 4 [(10, .bool (decide ((i : Int) < (x.ts.length : Int))))] fun a M => s_d0 ?_
 rcases M.tf 10 rfl with ⟨hb10, M⟩ | ⟨hb10, M⟩
 ·
  have hd10 := of_decide_eq_true hb10
  have hi98 : i < x.ts.length := by omega
  obtain ⟨t, ht⟩ : ∃ q, x.ts.getD i Tk.zero = q := ⟨_, rfl⟩
  have htok : t.Ok := by rw [← ht]; exact hok.ts _ (qr Tk.zero hi98)
  have hti := htok.id
  have htv := htok.v; have htr := htok.r; have htm := htok.mask
  unfold I64 at hti
  refine s_ct M (wp_skip (wp_seq (wp_block (s_fs1 ?_))))
  refine fp M 1 0 [(13, vP g1 5)] fun a M => s_fc M O 1 0 (v := .slice x.tA x.ts.length x.tc) fun a M => ?_
  refine fp M 1 2 [(15, vI i)] fun a M => ?_
  obtain ⟨gq1, oq1, hq1, _⟩ := Rd.qi hx.t (Nat.lt_of_le_of_lt (Nat.zero_le _) (show i < x.ts.length from by omega)) (by decide)
  have hrq1 := hx.t; rw [hq1] at hrq1
  replace M := M.sp 14 (.slice (some ⟨gq1, oq1, none⟩) x.ts.length x.tc) rfl (by rw [hq1]; try rfl)
  refine s_fz M O 3 rfl (v := vP gq1 (oq1 + i * 8)) (Yl.ix gq1 oq1 i 8 rfl rfl rfl) fun a M => ?_
  refine s_fz M O 4 rfl (v := .agg ((x.ts.getD i Tk.zero).cells)) (Yl.qt rfl rfl si_tk rfl (fun _ h => (h.old hrq1).zf z7 ((getD_at Tk.zero hi98)))) fun a M => ?_
  replace M := M.sp 17 (.agg t.cells) rfl (by rw [ht])
  refine fo M 5 rfl rfl (s_ea M O #[vI 0, vI 0, vI 0, vI 0, vQ 0, .bool false, vQ 0, vW 0] fun a w5 g5 M O => ?_)
  refine fo M 6 rfl rfl (e_sa M O 0 rfl rfl rfl rfl rfl si_tk rfl rfl (qkc t) fun w5_6 O => ?_)
  refine s_d0 (wp_seq (s_fs1 ?_))
  refine fp M 1 0 [(18, vP g5 0)] fun a M => s_fc M O 1 0 (v := vI t.id) fun a M => ?_
  refine fp M 3 2 [(22, .bool (decide ((t.id : Int) ≤ (qp x.ts i : Int))))] fun a M => ?_
  rcases M.tf 22 rfl with ⟨hb22, M⟩ | ⟨hb22, M⟩
  ·
   have hd22 := of_decide_eq_true hb22
   refine fp M 41 5 [(63, .bool true)] fun a M => s_d0 (s_ct M (s_fs1 ?_))
   refine fp M 1 0 [(2, .bool false)] fun a M => s_d0 (wp_ret ?_)
   exact s_rt1 rfl M rfl (is_as (q8 hi98 (qs9 ht (by omega))).symm O.below)
  have hd22 := of_decide_eq_false hb22
  refine fp M 1 5 [(23, vP g5 0)] fun a M => s_fc M O 6 0 (v := vI t.id) fun a M => ?_
  refine fp M 3 7 [(27, .bool (decide ((t.id : Int) > (65535 : Int))))] fun a M => ?_
  rcases M.tf 27 rfl with ⟨hb27, M⟩ | ⟨hb27, M⟩
  ·
   have hd27 := of_decide_eq_true hb27
   refine fp M 36 10 [(63, .bool true)] fun a M => s_d0 (s_ct M (s_fs1 ?_))
   refine fp M 1 0 [(2, .bool false)] fun a M => s_d0 (wp_ret ?_)
   exact s_rt1 rfl M rfl (is_as (q8 hi98 (qdj ht (qcr (by omega)))).symm O.below)
  have hd27 := of_decide_eq_false hb27
  refine fp M 1 10 [(28, vP g5 1)] fun a M => s_fc M O 11 0 (v := vI t.group) fun a M => ?_
  refine fp M 3 12 [(32, .bool (decide ((t.group : Int) < (0 : Int))))] fun a M => ?_
  rcases M.tf 32 rfl with ⟨hb32, M⟩ | ⟨hb32, M⟩
  ·
   have hd32 := of_decide_eq_true hb32
   refine fp M 31 15 [(63, .bool true)] fun a M => s_d0 (s_ct M (s_fs1 ?_))
   refine fp M 1 0 [(2, .bool false)] fun a M => s_d0 (wp_ret ?_)
   exact s_rt1 rfl M rfl (is_as (q8 hi98 (qdj ht (qcr (by omega)))).symm O.below)
  have hd32 := of_decide_eq_false hb32
  refine fp M 1 15 [(33, vP g5 1)] fun a M => s_fc M O 16 0 (v := vI t.group) fun a M => ?_
  refine fp M 2 17 [(36, vP g1 2)] fun a M => s_fc M O 19 1 (v := .slice x.gA x.gs.length x.gc) fun a M => ?_
  refine s_fl M 20 fun a M => ?_
  refine fp M 3 21 [(41, .bool (decide ((t.group : Int) ≥ (x.gs.length : Int))))] fun a M => ?_
  rcases M.tf 41 rfl with ⟨hb41, M⟩ | ⟨hb41, M⟩
  ·
   have hd41 := of_decide_eq_true hb41
   refine fp M 22 24 [(63, .bool true)] fun a M => s_d0 (s_ct M (s_fs1 ?_))
   refine fp M 1 0 [(2, .bool false)] fun a M => s_d0 (wp_ret ?_)
   exact s_rt1 rfl M rfl (is_as (q8 hi98 (qdj ht (qcr (by omega)))).symm O.below)
  have hd41 := of_decide_eq_false hb41
  refine fp M 1 24 [(42, vP g5 3)] fun a M => s_fc M O 25 0 (v := vI t.cpu) fun a M => ?_
  refine fp M 3 26 [(46, .bool (decide ((t.cpu : Int) < (0 : Int))))] fun a M => ?_
  rcases M.tf 46 rfl with ⟨hb46, M⟩ | ⟨hb46, M⟩
  ·
   have hd46 := of_decide_eq_true hb46
   refine fp M 17 29 [(63, .bool true)] fun a M => s_d0 (s_ct M (s_fs1 ?_))
   refine fp M 1 0 [(2, .bool false)] fun a M => s_d0 (wp_ret ?_)
   exact s_rt1 rfl M rfl (is_as (q8 hi98 (qdj ht (qcr (by omega)))).symm O.below)
  have hd46 := of_decide_eq_false hb46
  refine fp M 1 29 [(47, vP g5 3)] fun a M => s_fc M O 30 0 (v := vI t.cpu) fun a M => ?_
  refine fp M 2 31 [(50, vP g1 0)] fun a M => s_fc M O 33 1 (v := vI x.cpus) fun a M => ?_
  refine fp M 3 34 [(54, .bool (decide ((t.cpu : Int) ≥ (x.cpus : Int))))] fun a M => ?_
  rcases M.tf 54 rfl with ⟨hb54, M⟩ | ⟨hb54, M⟩
  ·
   have hd54 := of_decide_eq_true hb54
   refine fp M 9 37 [(63, .bool true)] fun a M => s_d0 ?_
   replace M := M.to [(63, .bool true), (5, vP g5 0), (10, .bool true), (4, vI i), (3, vI (qp x.ts i)), (2, .bool false), (1, vP g1 0)]
   refine s_ct M (s_fs1 ?_)
   refine fp M 1 0 [(2, .bool false)] fun a M => s_d0 (wp_ret ?_)
   exact s_rt1 rfl M rfl (is_as (q8 hi98 (qdj ht (qcr (by omega)))).symm O.below)
  have hd54 := of_decide_eq_false hb54
  refine fp M 1 37 [(55, vP g5 2)] fun a M => s_fc M O 38 0 (v := vI t.weight) fun a M => ?_
  refine fp M 3 39 [(59, .bool (decide ((t.weight : Int) < (1 : Int))))] fun a M => ?_
  rcases M.tf 59 rfl with ⟨hb59, M⟩ | ⟨hb59, M⟩
  ·
   have hd59 := of_decide_eq_true hb59
   refine fp M 4 42 [(63, .bool true)] fun a M => s_d0 ?_
   replace M := M.to [(63, .bool true), (5, vP g5 0), (10, .bool true), (4, vI i), (3, vI (qp x.ts i)), (2, .bool false), (1, vP g1 0)]
   refine s_ct M (s_fs1 ?_)
   refine fp M 1 0 [(2, .bool false)] fun a M => s_d0 (wp_ret ?_)
   exact s_rt1 rfl M rfl (is_as (q8 hi98 (qdj ht (qrg (by omega)))).symm O.below)
  have hd59 := of_decide_eq_false hb59
  refine fp M 1 42 [(60, vP g5 2)] fun a M => s_fc M O 43 0 (v := vI t.weight) fun a M => ?_
  refine fp M 2 44 [(63, .bool (decide ((t.weight : Int) > (65536 : Int))))] fun a M => s_d0 ?_
  replace M := M.to [(63, .bool (decide ((t.weight : Int) > (65536 : Int)))), (5, vP g5 0), (10, .bool true), (4, vI i), (3, vI (qp x.ts i)), (2, .bool false), (1, vP g1 0)]
  rcases M.tf 63 rfl with ⟨hb63, M⟩ | ⟨hb63, M⟩
  ·
   have hd63 := of_decide_eq_true hb63
   refine s_ct M (s_fs1 ?_)
   refine fp M 1 0 [(2, .bool false)] fun a M => s_d0 (wp_ret ?_)
   exact s_rt1 rfl M rfl (is_as (q8 hi98 (qdj ht (qrg (by omega)))).symm O.below)
  have hd63 := of_decide_eq_false hb63
  obtain ⟨k, hk⟩ : ∃ k : Nat, t.cpu = (k : Int) := ⟨t.cpu.toNat, by omega⟩
  have hsh := Nat.div_le_self t.mask (2 ^ k)
  refine s_cf M (wp_skip (wp_seq (s_fs1 ?_)))
  refine fp M 1 0 [(64, vP g5 4)] fun a M => s_fc M O 1 0 (v := vQ t.mask) fun a M => ?_
  refine fp M 2 2 [(67, vP g1 0)] fun a M => s_fc M O 4 1 (v := vI x.cpus) fun a M => ?_
  replace M := M.sp 68 (vI n) rfl (by rw [hn])
  refine fo M 5 rfl rfl (e_is M O [vQ t.mask, vI n] (.bool (decide (2 ^ n ≤ t.mask))) rfl rfl (qtp t.mask n htok.mask hn64 _) fun w69 hbw O a M => ?_)
  refine fp M 1 6 [(70, .bool (decide (2 ^ n ≤ t.mask)))] fun a M => ?_
  rcases M.tf 70 rfl with ⟨hb70, M⟩ | ⟨hb70, M⟩
  ·
   have hd70 := of_decide_eq_true hb70
   refine fp M 19 7 [(89, .bool true)] fun a M => s_d0 (s_ct M (s_fs1 ?_))
   refine fp M 1 0 [(2, .bool false)] fun a M => s_d0 (wp_ret ?_)
   exact s_rt1 rfl M rfl (is_as (q8 hi98 (qdj ht (qxj (by rw [hn, Int.toNat_natCast]; simpa using hb70)))).symm O.below)
  have hd70 := of_decide_eq_false hb70
  refine fp M 1 7 [(71, vP g5 4)] fun a M => s_fc M O 8 0 (v := vQ t.mask) fun a M => ?_
  refine fp M 1 9 [(73, vP g5 3)] fun a M => s_fc M O 10 0 (v := vI t.cpu) fun a M => ?_
  replace M := M.sp 74 (vI k) rfl (by rw [hk])
  refine s_fz M O 11 rfl (v := vQ (t.mask / 2 ^ k : Nat)) (Yl.shrN (m := t.mask) (n := k) rfl rfl rfl (by show _ ≤ 64; omega)) fun a M => ?_
  refine fp M 1 12 [(76, vQ (Int.tmod ((t.mask / 2 ^ k : Nat) : Int) 2))] fun a M => ?_
  replace M := M.sp 76 (vQ ((t.mask / 2 ^ k) % 2 : Nat)) rfl (qas .u64 _ 2)
  refine fp M 3 13 [(79, .bool ((((t.mask / 2 ^ k) % 2 : Nat) : Int) == (0 : Int)))] fun a M => ?_
  rcases M.tf 79 rfl with ⟨hb79, M⟩ | ⟨hb79, M⟩
  ·
   have hd79 := eq_of_beq hb79
   refine fp M 10 16 [(89, .bool true)] fun a M => s_d0 (s_ct M (s_fs1 ?_))
   refine fp M 1 0 [(2, .bool false)] fun a M => s_d0 (wp_ret ?_)
   exact s_rt1 rfl M rfl (is_as (q8 hi98 (qdj ht (qxk (by rw [hk, Int.toNat_natCast]; omega)))).symm O.below)
  have hd79 := ne_of_beq_false hb79
  refine fp M 1 16 [(80, vP g5 6)] fun a M => s_fc M O 17 0 (v := vQ t.v) fun a M => ?_
  refine fp M 1 18 [(82, vP g5 7)] fun a M => s_fc M O 19 0 (v := vW t.r) fun a M => ?_
  refine fp M 1 20 [(84, vP g5 2)] fun a M => s_fc M O 21 0 (v := vI t.weight) fun a M => ?_
  refine fo M 22 rfl rfl (e_is M O [vQ t.v, vW t.r, vI t.weight] (.agg #[vQ t.v, vW t.r, vW t.weight]) rfl rfl (qhd t.v t.r t.weight (by omega) _) fun w86 hbw O a M => ?_)
  refine fo M 23 rfl rfl (e_is M O [.agg #[vQ t.v, vW t.r, vW t.weight]] (.bool (entOk t.v t.r t.weight)) rfl rfl (qfr t.v t.r t.weight (by omega) (by omega) (by omega) _) fun w87 hbw O a M => ?_)
  refine fp M 2 24 [(89, .bool (!(entOk t.v t.r t.weight)))] fun a M => s_d0 ?_
  rcases M.tf 89 rfl with ⟨hb89, M⟩ | ⟨hb89, M⟩
  ·
   refine s_ct M (s_fs1 ?_)
   refine fp M 1 0 [(2, .bool false)] fun a M => s_d0 (wp_ret ?_)
   exact s_rt1 rfl M rfl (is_as (q8 hi98 (qdj ht ((qrh (by omega) (by omega) (by rw [hn, Int.toNat_natCast]; simpa using hb70) (by rw [hk, Int.toNat_natCast]; omega)).trans (by simpa using hb89)))).symm O.below)
  refine s_cf M (wp_skip (qa ?_))
  refine fp M 1 0 [(90, vP g5 0)] fun a M => s_fc M O 1 0 (v := vI t.id) fun a M => ?_
  replace M := M.sp 91 (vI (qp x.ts (i + 1))) rfl (by rw [qam, ht])
  refine fp M 1 2 [(3, vI (qp x.ts (i + 1)))] fun a M => s_d0 (qa ?_)
  refine fp M 2 0 [(12, vI (IntKind.i64.wrap ((i : Int) + 1)))] fun a M => ?_
  replace M := M.sp 12 (vI (i + 1 : Nat)) rfl (qc (by omega) (by omega))
  refine fp M 1 2 [(4, vI (i + 1 : Nat))] fun a M => s_d0 ?_
  exact ⟨_, (by omega), i + 1, by omega, by rw [qam, ht]; omega, hu3.succ (q1y ht (by omega) ((qrh (by omega) (by omega) (by rw [hn, Int.toNat_natCast]; simpa using hb70) (by rw [hk, Int.toNat_natCast]; omega)).trans (by simpa using hb89))), rfl, M.sub (by kernel_rfl), O.pk [1]⟩
 have hd10 := of_decide_eq_false hb10
 refine s_cf M (wp_exit (s_fs1 ?_))
 refine fp M 1 0 [(2, .bool true)] fun a M => s_d0 (wp_ret ?_)
 exact s_rt1 rfl M rfl (is_as (qqn (fun j hj => hu3 j (by omega))).symm O.below)
end Go.Proofs.YtggpmlaappaopaaGreatDoor
