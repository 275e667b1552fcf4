/- Parts. -/
import Derived.Test.YtggpmlaappaopaaGreatDoorQpSep20
import Derived.Test.YtggpmlaappaopaaGreatDoorQpVarRead
import Derived.Test.YtggpmlaappaopaaGreatDoorQpPan
import Derived.Test.YtggpmlaappaopaaGreatDoorQpSep13
import Derived.Test.YtggpmlaappaopaaGreatDoorQpRef01
import Derived.Test.YtggpmlaappaopaaGreatDoorQpZ2
set_option linter.all false
set_option maxRecDepth 100000
set_option maxHeartbeats 1000000
namespace Go.Proofs.YtggpmlaappaopaaGreatDoor
open Go.RowKit
def qmr (x : Stm) (c g : Nat) : Prop := ∀ w : World, StRd w x → Calls Tryz.prog 114 #[.agg x.cells, .int .i64 (g : Int), .int .i64 (c : Int)] w (qya 173 w (memS x.sta g c))
theorem qpy (x : Stm) (hok : x.sta.Ok) (hf : StFew x) (hsh : ShAt x) (c : Nat) (hc : (c : Int) < x.cpus) (g : Nat) (hg : g < x.rs.length) (ih : ∀ h, g < h → h < x.rs.length → qmr x c h) : qmr x c g := by
 intro w hx
 have hfs := hf.s; have hft := hf.t; have hfg := hf.g; have hrl := hsh.rs; have hto := hok.ts
 obtain ⟨hc1, hc2, _, hgs⟩ := qdg hsh.cfg
 refine s_ce Tryz.func114 [.agg x.cells, vI g, vI c] [(0, .agg x.cells), (1, vI g), (2, vI c)] fun a M => ?_
 have O := Mem.start w
 refine s_fs1 ?_
 refine fo M 0 rfl rfl (s_eb M O x.cells fun a w3 g3 M O => ?_)
 refine fp M 1 1 [(6, .slice none 0 0)] fun a M => s_d0 (s_fs1 ?_)
 refine fp M 1 0 [(7, .slice none 0 0)] fun a M => s_d0 ?_
 replace O := O.nil 173 3
 refine wp_seq (s_fs1 ?_)
 refine fp M 1 0 [(8, vI 0)] fun a M => s_d0 (wp_block ?_)
 refine qe (fun mS aS wS => ∃ (i : Nat) (q : List Mb) (Ao : Option Addr) (co : Nat), (i ≤ x.ts.length) ∧ (q = (x.ts.take i).filterMap (tkM · g c)) ∧ (q.length ≤ i) ∧ (q.length ≤ co) ∧ mS = x.ts.length - i ∧ Fr aS 84 [] [(8, vI i), (7, .slice Ao q.length co), (6, .slice none 0 0), (3, vP g3 0), (1, vI g), (2, vI c)] ∧ Mem w wS [.row (.slice Ao q.length co) q.length (q.flatMap mbrL) 173 3, .blk g3 x.cells 30]) (m := x.ts.length - 0) ⟨0, [], none, 0, Nat.zero_le _, rfl, Nat.le_refl _, Nat.le_refl _, rfl, M.sub (by kernel_rfl), O.pk [0, 1]⟩ ?_
 clear M O; rintro mS a w_ ⟨i, q, Ao, co, hi, hq, hql, hco, rfl, M, O⟩
 refine wp_seq (s_fs1 ?_)
 refine fp M 2 0 [(12, vP g3 5), (11, vI i)] fun a M => s_fc M O 2 1 (v := .slice x.tA x.ts.length x.tc) fun a M => ?_
 refine s_fl M 3 fun a M => ?_
 refine fp M 1 4 [(15, .bool (decide ((i : Int) < (x.ts.length : Int))))] fun a M => s_d0 ?_
 rcases M.tf 15 rfl with ⟨hb15, M⟩ | ⟨hb15, M⟩
 ·
  have hd15 := of_decide_eq_true hb15
  have hi15 : i < x.ts.length := by omega
  obtain ⟨t, ht⟩ : ∃ z, (x.ts.getD i Tk.zero) = z := ⟨_, rfl⟩
  have htid := tk_id (hsh.tk i hi15)
  rw [ht] at htid
  refine s_ct M (wp_skip (wp_seq (wp_block (s_fs1 ?_))))
  refine fp M 1 0 [(18, vP g3 5)] fun a M => s_fc M O 1 1 (v := .slice x.tA x.ts.length x.tc) fun a M => ?_
  refine fp M 1 2 [(20, vI i)] fun a M => ?_
  obtain ⟨gq1, oq1, hq1, _⟩ := Rd.qi hx.t (Nat.lt_of_le_of_lt (Nat.zero_le _) (show i < x.ts.length from by omega)) (by decide)
  have hrq1 := hx.t; rw [hq1] at hrq1
  replace M := M.sp 19 (.slice (some ⟨gq1, oq1, none⟩) x.ts.length x.tc) rfl (by rw [hq1]; try rfl)
  refine s_fz M O 3 rfl (v := vP gq1 (oq1 + i * 8)) (Yl.ix gq1 oq1 i 8 rfl rfl rfl) fun a M => ?_
  refine s_fz M O 4 rfl (v := .agg ((x.ts.getD i Tk.zero).cells)) (Yl.qt rfl rfl si_tk rfl (fun _ h => (h.old hrq1).zf z7 ((getD_at Tk.zero hi15)))) fun a M => ?_
  replace M := M.sp 22 (.agg t.cells) rfl (by rw [ht])
  refine fo M 5 rfl rfl (s_ea M O #[vI 0, vI 0, vI 0, vI 0, vQ 0, .bool false, vQ 0, vW 0] fun a w9 g9 M O => ?_)
  refine fo M 6 rfl rfl (e_sa M O 0 rfl rfl rfl rfl rfl si_tk rfl rfl (qkc t) fun w5_6 O => ?_)
  refine s_d0 (qaj (fun aS wS => Fr aS 84 [] [(36, .bool (t.here g c)), (9, vP g9 0), (15, .bool true), (8, vI i), (7, .slice Ao q.length co), (6, .slice none 0 0), (3, vP g3 0), (1, vI g), (2, vI c)] ∧ Mem w wS [.blk g9 t.cells 46, .row (.slice Ao q.length co) q.length (q.flatMap mbrL) 173 3, .blk g3 x.cells 30]) ?_ ?_)
  ·
   refine qa ?_
   refine fp M 1 0 [(23, vP g9 5)] fun a M => s_fc M O 1 0 (v := .bool t.ready) fun a M => ?_
   refine fp M 1 2 [(25, .bool t.ready)] fun a M => ?_
   rcases M.tf 25 rfl with ⟨hb25, M⟩ | ⟨hb25, M⟩
   ·
    refine fp M 1 3 [(26, vP g9 1)] fun a M => s_fc M O 4 0 (v := vI t.group) fun a M => ?_
    refine fp M 4 5 [(31, .bool ((t.group : Int) == (g : Int)))] fun a M => ?_
    rcases M.tf 31 rfl with ⟨hb31, M⟩ | ⟨hb31, M⟩
    ·
     have hd31 := eq_of_beq hb31
     refine fp M 1 9 [(32, vP g9 3)] fun a M => s_fc M O 10 0 (v := vI t.cpu) fun a M => ?_
     refine fp M 3 11 [(36, .bool ((t.cpu : Int) == (c : Int)))] fun a M => s_d0 ?_
     have M := M.sp 36 (.bool (t.here g c)) rfl (congrArg Value.bool (by unfold Tk.here; rw [hb25, decide_eq_true (by omega), Bool.true_and, Bool.true_and, Bool.eq_iff_iff, beq_iff_eq, decide_eq_true_eq]))
     exact ⟨M.sub (by kernel_rfl), O.pk [0, 1, 2]⟩
    have hd31 := ne_of_beq_false hb31
    refine fp M 5 9 [(36, .bool false)] fun a M => s_d0 ?_
    have M := M.sp 36 (.bool (t.here g c)) rfl (congrArg Value.bool (by unfold Tk.here; rw [hb25, decide_eq_false (by omega)]; rfl))
    exact ⟨M.sub (by kernel_rfl), O.pk [0, 1, 2]⟩
   refine fp M 11 3 [(36, .bool false)] fun a M => s_d0 ?_
   have M := M.sp 36 (.bool (t.here g c)) rfl (congrArg Value.bool (by unfold Tk.here; rw [hb25]; rfl))
   exact ⟨M.sub (by kernel_rfl), O.pk [0, 1, 2]⟩
  clear M O; rintro a w6 ⟨M, O⟩
  rcases M.tf 36 rfl with ⟨hb36, M⟩ | ⟨hb36, M⟩
  ·
   have hq2 : q ++ [(⟨t.v, 0, t.id.toNat⟩ : Mb)] = (x.ts.take (i + 1)).filterMap (tkM · g c) := by rw [qae Tk.zero hi15, ← hq, ht, tkM, if_pos hb36]; rfl
   refine s_ct M (qa ?_)
   refine fp M 2 0 [(38, vP g9 6), (37, .slice Ao q.length co)] fun a M => s_fc M O 2 0 (v := vQ t.v) fun a M => ?_
   refine fp M 1 3 [(40, vP g9 0)] fun a M => s_fc M O 4 0 (v := vI t.id) fun a M => ?_
   replace M := M.sp 41 (vI t.id.toNat) rfl (by rw [Int.toNat_of_nonneg (by omega)])
   refine s_fz M O 5 rfl (v := .agg #[vQ t.v, vI 0, vI t.id.toNat]) (Yl.build (vs := [(0, vQ t.v), (1, vI 0), (2, vI t.id.toNat)]) rfl (by kernel_rfl) (by kernel_rfl)) fun a M => ?_
   refine fo M 6 rfl rfl (s_el M O qjo [(0, .agg #[vQ t.v, vI 0, vI t.id.toNat])] #[vQ t.v, vI 0, vI t.id.toNat] fun a w43 g43 M O => ?_)
   refine fo M 7 rfl rfl (qd M O (i := 2) rfl qjo rfl rfl rfl (news := ([(⟨t.v, 0, t.id.toNat⟩ : Mb)].flatMap mbrL)) (O.rdBlk (i := 0) (n := 1) (size := 3) rfl rfl) (qs7 _) (by omega) (by omega) rfl (by decide) fun a w44 A44 c44 M O hc44 => ?_)
   refine fp M 1 8 [(7, .slice A44 (q.length + 1) c44)] fun a M => s_d0 ?_
   have hnA44 : q.length + 1 = (q ++ [(⟨t.v, 0, t.id.toNat⟩ : Mb)]).length := qs rfl
   replace O := O.reRow (i := 2) (ys := (q ++ [(⟨t.v, 0, t.id.toNat⟩ : Mb)]).flatMap mbrL) rfl hnA44 (List.flatMap_append.symm)
   rw [hnA44] at hc44
   replace M := M.sp 7 (.slice A44 ((q ++ [(⟨t.v, 0, t.id.toNat⟩ : Mb)]).length) c44) rfl (by rw [hnA44])
   replace M := M.sp 44 (.slice A44 ((q ++ [(⟨t.v, 0, t.id.toNat⟩ : Mb)]).length) c44) rfl (by rw [hnA44])
   refine qa ?_
   refine fp M 2 0 [(17, vI (IntKind.i64.wrap ((i : Int) + 1)))] fun a M => ?_
   replace M := M.sp 17 (vI (i + 1 : Nat)) rfl (qc (by omega) (by omega))
   refine fp M 1 2 [(8, vI (i + 1 : Nat))] fun a M => s_d0 ?_
   exact ⟨_, (by omega), i + 1, (q ++ [(⟨t.v, 0, t.id.toNat⟩ : Mb)]), A44, c44, by omega, hq2, by rw [List.length_append, show [(⟨t.v, 0, t.id.toNat⟩ : Mb)].length = 1 from rfl]; omega, hc44, rfl, M.sub (by kernel_rfl), O.pk [2, 3]⟩
  have hq2 : q = (x.ts.take (i + 1)).filterMap (tkM · g c) := by rw [qae Tk.zero hi15, ← hq, ht, tkM, if_neg (by rw [hb36]; decide)]; simp
  refine s_cf M (wp_skip (qa ?_))
  refine fp M 2 0 [(17, vI (IntKind.i64.wrap ((i : Int) + 1)))] fun a M => ?_
  replace M := M.sp 17 (vI (i + 1 : Nat)) rfl (qc (by omega) (by omega))
  refine fp M 1 2 [(8, vI (i + 1 : Nat))] fun a M => s_d0 ?_
  exact ⟨_, (by omega), i + 1, q, Ao, co, by omega, hq2, by omega, hco, rfl, M.sub (by kernel_rfl), O.pk [1, 2]⟩
 have hd15 := of_decide_eq_false hb15
 rw [List.take_of_length_le (by omega : x.ts.length ≤ i)] at hq
 refine s_cf M (wp_exit (wp_seq (s_fs1 ?_)))
 refine fp M 1 0 [(10, vI 1)] fun a M => s_d0 (wp_block ?_)
 refine qe (fun mS aS wS => ∃ (u : Nat) (q : List Mb) (Ao : Option Addr) (co : Nat), (1 ≤ u) ∧ (u ≤ x.rs.length) ∧ (q = x.ts.filterMap (tkM · g c) ++ ((((List.range x.rs.length).drop (g + 1)).take (u - (g + 1))).filterMap (grpM x.sta c (fun u => memS x.sta u c) g))) ∧ (q.length ≤ x.ts.length + u) ∧ (q.length ≤ co) ∧ mS = x.rs.length - u ∧ Fr aS 84 [] [(10, vI u), (15, .bool false), (8, vI i), (7, .slice Ao q.length co), (6, .slice none 0 0), (3, vP g3 0), (1, vI g), (2, vI c)] ∧ Mem w wS [.row (.slice Ao q.length co) q.length (q.flatMap mbrL) 173 3, .blk g3 x.cells 30]) (m := x.rs.length - 1) ⟨1, q, Ao, co, Nat.le_refl _, by omega, by rw [hq, show 1 - (g + 1) = 0 by omega]; simp, by omega, hco, rfl, M.sub (by kernel_rfl), O.pk [0, 1]⟩ ?_
 clear M O; rintro mS a w_ ⟨u, q, Ao, co, hgh, hh, hq, hql, hco, rfl, M, O⟩
 refine wp_seq (s_fs1 ?_)
 refine fp M 2 0 [(46, vP g3 6), (45, vI u)] fun a M => s_fc M O 2 1 (v := .slice x.sA x.rs.length x.sc) fun a M => ?_
 refine s_fl M 3 fun a M => ?_
 refine fp M 1 4 [(49, .bool (decide ((u : Int) < (x.rs.length : Int))))] fun a M => s_d0 ?_
 rcases M.tf 49 rfl with ⟨hb49, M⟩ | ⟨hb49, M⟩
 ·
  have hd49 := of_decide_eq_true hb49
  have hh60 : u < x.rs.length := by omega
  refine s_ct M (wp_skip (wp_seq (wp_block (s_fs1 ?_))))
  refine fp M 2 0 [(53, vP g3 2)] fun a M => s_fc M O 2 1 (v := .slice x.gA x.gs.length x.gc) fun a M => ?_
  refine fp M 1 3 [(55, vI u)] fun a M => ?_
  obtain ⟨gq2, oq2, hq2, _⟩ := Rd.qi hx.g (Nat.lt_of_le_of_lt (Nat.zero_le _) (show u < x.gs.length from by omega)) (by decide)
  have hrq2 := hx.g; rw [hq2] at hrq2
  replace M := M.sp 54 (.slice (some ⟨gq2, oq2, none⟩) x.gs.length x.gc) rfl (by rw [hq2]; try rfl)
  refine s_fz M O 4 rfl (v := vP gq2 (oq2 + u * 2)) (Yl.ix gq2 oq2 u 2 rfl rfl rfl) fun a M => ?_
  refine fp M 1 5 [(57, vP gq2 (oq2 + u * 2))] fun a M => s_fz M O 6 rfl (v := vI ((x.gs.getD u Gr.zero).parent)) (Yl.qk rfl rfl (by kernel_rfl) (fun _ h => (by have := (h.old hrq2).partAt zx (k := u) (j := 0) (x := (x.gs.getD u Gr.zero)) ((getD_at Gr.zero (by omega))) rfl; simpa using this))) fun a M => ?_
  refine fp M 3 7 [(61, .bool (((x.gs.getD u Gr.zero).parent : Int) == (g : Int)))] fun a M => ?_
  rcases M.tf 61 rfl with ⟨hb61, M⟩ | ⟨hb61, M⟩
  ·
   have hd61 := eq_of_beq hb61
   have hpu := qiv ((qga hgs).2.2.2 u (by omega)) (by omega)
   unfold ParB at hpu
   have hgst := qi6 (f := grpM x.sta c (fun u => memS x.sta u c) g) (show g + 1 ≤ u by omega) hh60
   have hml := qjm x u c
   refine s_fz M O 10 rfl (v := .agg x.cells) (Yl.qt rfl rfl si_st rfl (fun _ h => qf (h.blk (i := 1) rfl))) fun a M => ?_
   replace M := M.sp 62 (.agg x.cells) rfl (rfl)
   refine fp M 2 11 [(64, vI c), (63, vI u)] fun a M => fo M 13 rfl rfl ?_
   refine s_ek M O [.agg x.cells, vI u, vI c] (ih u (by omega) (by omega) _ (hx.old O)) fun A65 c65 w65 hc65 O a M => ?_
   refine s_fl M 14 fun a M => ?_
   refine fp M 2 15 [(68, .bool (decide ((((memS x.sta u c).length : Nat) : Int) > (0 : Int))))] fun a M => s_d0 ?_
   rcases M.tf 68 rfl with ⟨hb68, M⟩ | ⟨hb68, M⟩
   ·
    have hd68 := of_decide_eq_true hb68
    obtain ⟨y, hy⟩ : ∃ z, x.rs.getD u Rw.zero = z := ⟨_, rfl⟩
    have hyr : Rd w w.heap.size 3 y.A y.l.length (y.l.flatMap spL) := by rw [← hy]; exact hx.row hh60
    have hyl : (y.l.length : Int) = x.cpus := by rw [← hy]; exact (qgw hh60 (hsh.row u hh60)).1
    rw [qnk hh60 (by omega) (fun e => by rw [e] at hd68; exact absurd hd68 (by decide)), hy] at hgst
    refine s_ct M (qa ?_)
    refine fp M 2 0 [(70, vP g3 6), (69, .slice Ao q.length co)] fun a M => s_fc M O 2 2 (v := .slice x.sA x.rs.length x.sc) fun a M => ?_
    refine fp M 1 3 [(72, vI u)] fun a M => ?_
    obtain ⟨gq3, oq3, hq3, _⟩ := Rd.qi hx.s (Nat.lt_of_le_of_lt (Nat.zero_le _) (show u < x.rs.length from by omega)) (by decide)
    have hrq3 := hx.s; rw [hq3] at hrq3
    replace M := M.sp 71 (.slice (some ⟨gq3, oq3, none⟩) x.rs.length x.sc) rfl (by rw [hq3]; try rfl)
    refine s_fz M O 4 rfl (v := vP gq3 (oq3 + u * 1)) (Yl.ix gq3 oq3 u 1 rfl rfl rfl) fun a M => ?_
    refine s_fz M O 5 rfl (v := .slice ((x.rs.getD u Rw.zero).A) ((x.rs.getD u Rw.zero).l.length) ((x.rs.getD u Rw.zero).c)) (Yl.o1 hrq3 u Rw.zero (by omega) rfl rfl) fun a M => ?_
    replace M := M.sp 74 (.slice y.A y.l.length y.c) rfl (by rw [hy])
    refine fp M 1 6 [(75, vI c)] fun a M => ?_
    obtain ⟨gq4, oq4, hq4, _⟩ := Rd.qi hyr (Nat.lt_of_le_of_lt (Nat.zero_le _) (show c < y.l.length from by omega)) (by decide)
    have hrq4 := hyr; rw [hq4] at hrq4
    replace M := M.sp 74 (.slice (some ⟨gq4, oq4, none⟩) y.l.length y.c) rfl (by rw [hq4]; try rfl)
    refine s_fz M O 7 rfl (v := vP gq4 (oq4 + c * 3)) (Yl.ix gq4 oq4 c 3 rfl rfl rfl) fun a M => ?_
    refine fp M 1 8 [(77, vP gq4 (oq4 + c * 3))] fun a M => s_fz M O 9 rfl (v := vQ ((y.l.getD c Sp.zero).v)) (Yl.qk rfl rfl (by kernel_rfl) (fun _ h => (by have := (h.old hrq4).partAt qau (k := c) (j := 0) (x := (y.l.getD c Sp.zero)) ((getD_at Sp.zero (by omega))) rfl; simpa using this))) fun a M => ?_
    refine fp M 1 10 [(79, vI u)] fun a M => s_fz M O 11 rfl (v := .agg #[vQ ((y.l.getD c Sp.zero).v), vI 1, vI u]) (Yl.build (vs := [(0, vQ ((y.l.getD c Sp.zero).v)), (1, vI 1), (2, vI u)]) rfl (by kernel_rfl) (by kernel_rfl)) fun a M => ?_
    refine fo M 12 rfl rfl (s_el M O qjo [(0, .agg #[vQ ((y.l.getD c Sp.zero).v), vI 1, vI u])] #[vQ ((y.l.getD c Sp.zero).v), vI 1, vI u] fun a w81 g81 M O => ?_)
    refine fo M 13 rfl rfl (qd M O (i := 2) rfl qjo rfl rfl rfl (news := ([(⟨(y.l.getD c Sp.zero).v, 1, u⟩ : Mb)].flatMap mbrL)) (O.rdBlk (i := 0) (n := 1) (size := 3) rfl rfl) (qs7 _) (by omega) (by omega) rfl (by decide) fun a w82 A82 c82 M O hc82 => ?_)
    refine fp M 1 14 [(7, .slice A82 (q.length + 1) c82)] fun a M => s_d0 ?_
    have hnA82 : q.length + 1 = (q ++ [(⟨(y.l.getD c Sp.zero).v, 1, u⟩ : Mb)]).length := qs rfl
    replace O := O.reRow (i := 2) (ys := (q ++ [(⟨(y.l.getD c Sp.zero).v, 1, u⟩ : Mb)]).flatMap mbrL) rfl hnA82 (List.flatMap_append.symm)
    rw [hnA82] at hc82
    replace M := M.sp 7 (.slice A82 ((q ++ [(⟨(y.l.getD c Sp.zero).v, 1, u⟩ : Mb)]).length) c82) rfl (by rw [hnA82])
    replace M := M.sp 82 (.slice A82 ((q ++ [(⟨(y.l.getD c Sp.zero).v, 1, u⟩ : Mb)]).length) c82) rfl (by rw [hnA82])
    refine qa ?_
    refine fp M 2 0 [(51, vI (IntKind.i64.wrap ((u : Int) + 1)))] fun a M => ?_
    replace M := M.sp 51 (vI (u + 1 : Nat)) rfl (qc (by omega) (by omega))
    refine fp M 1 2 [(10, vI (u + 1 : Nat))] fun a M => s_d0 ?_
    replace M := M.to [(10, vI (u + 1 : Nat)), (82, .slice A82 ((q ++ [(⟨(y.l.getD c Sp.zero).v, 1, u⟩ : Mb)]).length) c82), (7, .slice A82 ((q ++ [(⟨(y.l.getD c Sp.zero).v, 1, u⟩ : Mb)]).length) c82), (68, .bool true), (49, .bool true), (15, .bool false), (8, vI i), (6, .slice none 0 0), (3, vP g3 0), (1, vI g), (2, vI c)]
    exact ⟨_, (by omega), u + 1, (q ++ [(⟨(y.l.getD c Sp.zero).v, 1, u⟩ : Mb)]), A82, c82, by omega, by omega, by rw [hgst, hq, List.append_assoc]; rfl, by rw [List.length_append, show [(⟨(y.l.getD c Sp.zero).v, 1, u⟩ : Mb)].length = 1 from rfl]; omega, hc82, rfl, M.sub (by kernel_rfl), O.pk [2, 3]⟩
   have hd68 := of_decide_eq_false hb68
   rw [qkk (List.length_eq_zero_iff.1 (by omega))] at hgst
   refine s_cf M (wp_skip (qa ?_))
   refine fp M 2 0 [(51, vI (IntKind.i64.wrap ((u : Int) + 1)))] fun a M => ?_
   replace M := M.sp 51 (vI (u + 1 : Nat)) rfl (qc (by omega) (by omega))
   refine fp M 1 2 [(10, vI (u + 1 : Nat))] fun a M => s_d0 ?_
   exact ⟨_, (by omega), u + 1, q, Ao, co, by omega, by omega, by rw [hgst, hq]; try simp, by omega, hco, rfl, M.sub (by kernel_rfl), O.pk [1, 2]⟩
  have hd61 := ne_of_beq_false hb61
  have hgst := qwg (g := g) (f := grpM x.sta c (fun u => memS x.sta u c) g) hh60 (fun _ => qkj (by omega))
  refine fp M 7 10 [(68, .bool false)] fun a M => s_d0 (s_cf M (wp_skip (qa ?_)))
  refine fp M 2 0 [(51, vI (IntKind.i64.wrap ((u : Int) + 1)))] fun a M => ?_
  replace M := M.sp 51 (vI (u + 1 : Nat)) rfl (qc (by omega) (by omega))
  refine fp M 1 2 [(10, vI (u + 1 : Nat))] fun a M => s_d0 ?_
  exact ⟨_, (by omega), u + 1, q, Ao, co, by omega, by omega, by rw [hgst, hq]; try simp, by omega, hco, rfl, M.sub (by kernel_rfl), O.pk [0, 1]⟩
 have hd49 := of_decide_eq_false hb49
 have hqm : q = memS x.sta g c := by rw [hq, qiw, qaz, show u = x.rs.length by omega, qru]; rfl
 refine s_cf M (wp_exit (s_fs1 ?_))
 refine fp M 2 0 [(6, .slice Ao q.length co)] fun a M => s_d0 (wp_ret ?_)
 exact s_rt1 rfl M rfl (qte hqm (O.own (i := 0) rfl) hco O.below)
theorem qlb (x : Stm) (hok : x.sta.Ok) (hf : StFew x) (hsh : ShAt x) (c : Nat) (hc : (c : Int) < x.cpus) : ∀ (n g : Nat), x.rs.length - g ≤ n → g < x.rs.length → qmr x c g := by
 intro n
 induction n with
 | zero => intro g h1 h2; omega
 | succ n ih => intro g h1 h2; exact qpy x hok hf hsh c hc g h2 fun h h3 h4 => ih h (by omega) h4
theorem qim (A : Option Addr) (c : Nat) (l : List Mb) (w : World) (hr : Rd w w.heap.size 3 A l.length (l.flatMap mbrL)) (h0 : 0 < l.length) (hn : l.length ≤ 2000000) :
    Calls Tryz.prog 115 #[.slice A l.length c] w (Is w (.agg (qdi l).rcells)) := by
 refine s_ce Tryz.func115 [.slice A l.length c] [(0, .slice A l.length c)] fun a M => ?_
 have O := Mem.start w
 refine s_fs1 ?_
 refine fo M 0 rfl rfl (s_ea M O #[vQ 0, vI 0, vI 0] fun a w2 g2 M O => ?_)
 refine s_d0 (s_fs1 ?_)
 refine fp M 1 0 [(5, .slice A l.length c)] fun a M => ?_
 obtain ⟨gA, oA, rfl, _⟩ := hr.qi (Nat.lt_of_le_of_lt (Nat.zero_le _) (show 0 < l.length from by omega)) (by decide)
 refine s_fz M O 1 rfl (v := vP gA oA) (Yl.indexAddr (ad := ⟨gA, oA, none⟩) (y := 0) (sz := 3) rfl rfl rfl (by omega) (by kernel_rfl)) fun a M => ?_
 refine s_fz M O 2 rfl (v := .agg ((l.getD 0 Mb.zero).rcells)) (Yl.qt rfl rfl qcm rfl (fun _ h => (h.old hr).zf qjl ((getD_at Mb.zero (by omega))))) fun a M => ?_
 refine fo M 3 rfl rfl (s_ea M O #[vQ 0, vI 0, vI 0] fun a w3 g3 M O => ?_)
 refine fo M 4 rfl rfl (e_sa M O 0 rfl rfl rfl rfl rfl qcm rfl rfl (qmm (l.getD 0 Mb.zero)) fun w1_4 O => ?_)
 refine s_d0 ?_
 replace O := O.asBlk (i := 0) (ds := (bestU l 1).rcells) rfl (by rw [qtb])
 refine wp_seq (s_fs1 ?_)
 refine fp M 1 0 [(4, vI 1)] fun a M => s_d0 (wp_block ?_)
 refine qe (fun mS aS wS => ∃ (k : Nat), (1 ≤ k) ∧ (k ≤ l.length) ∧ mS = l.length - k ∧ Fr aS 25 [] [(4, vI k), (3, vP g3 0), (2, vP g2 0), (0, .slice (some ⟨gA, oA, none⟩) l.length c)] ∧ Mem w wS [.blk g3 ((bestU l k).rcells) 173, .blk g2 #[vQ 0, vI 0, vI 0] 173]) (m := l.length - 1) ⟨1, Nat.le_refl _, by omega, rfl, M.sub (by kernel_rfl), O.pk [0, 1]⟩ ?_
 clear M O; rintro mS a w_ ⟨k, hk1, hk, rfl, M, O⟩
 refine wp_seq (s_fs1 ?_)
 refine fp M 2 0 [(9, .slice (some ⟨gA, oA, none⟩) l.length c), (8, vI k)] fun a M => s_fl M 2 fun a M => ?_
 refine fp M 1 3 [(11, .bool (decide ((k : Int) < (l.length : Int))))] fun a M => s_d0 ?_
 rcases M.tf 11 rfl with ⟨hb11, M⟩ | ⟨hb11, M⟩
 ·
  have hd11 := of_decide_eq_true hb11
  have hk11 : k < l.length := by omega
  refine s_ct M (wp_skip (wp_seq (wp_block (wp_seq ?_))))
  refine qz O [.blk g3 ((bestU l k).rcells) 173, .blk g2 #[vQ 0, vI 0, vI 0] 173] [0, 1] [] fun O Z => ?_
  refine ap M (fun _ => Z) [0, 1] (bf 6 [0, 1]) [(15, vI k), (14, .slice (some ⟨gA, oA, none⟩) l.length c)] fun a M => ?_
  refine s_az M Z 2 rfl (v := vP gA (oA + k * 3)) (Yl.ix gA oA k 3 rfl rfl rfl) fun a M => ?_
  refine s_az M Z 3 rfl (v := .agg ((l.getD k Mb.zero).rcells)) (Yl.qt rfl rfl qcm rfl (fun _ h => (h.old hr).zf qjl ((getD_at Mb.zero hk11)))) fun a M => ?_
  refine s_az M Z 4 rfl (v := .agg ((bestU l k).rcells)) (Yl.qt rfl rfl qcm rfl (fun _ h => qf (h.blk (i := 0) rfl))) fun a M => ?_
  refine s_on M 5 rfl (e_is M O [.agg ((l.getD k Mb.zero).rcells), .agg ((bestU l k).rcells)] (.bool (Mb.lt (l.getD k Mb.zero) (bestU l k))) rfl rfl (qmp (l.getD k Mb.zero) (bestU l k) _) fun w19 hbw O a M => ?_)
  refine keepS (O.pk [0, 1]) (fun Z => ?_)
  refine qh (by kernel_rfl) ?_
  rcases M.tf 19 rfl with ⟨hb19, M⟩ | ⟨hb19, M⟩
  ·
   refine s_ct M (qa ?_)
   refine fp M 2 0 [(21, vI k), (20, .slice (some ⟨gA, oA, none⟩) l.length c)] fun a M => s_fz M O 2 rfl (v := vP gA (oA + k * 3)) (Yl.ix gA oA k 3 rfl rfl rfl) fun a M => ?_
   refine s_fz M O 3 rfl (v := .agg ((l.getD k Mb.zero).rcells)) (Yl.qt rfl rfl qcm rfl (fun _ h => (h.old hr).zf qjl ((getD_at Mb.zero hk11)))) fun a M => ?_
   refine fo M 4 rfl rfl (e_sa M O 0 rfl rfl rfl rfl rfl qcm rfl rfl (qmm (l.getD k Mb.zero)) fun w6_4 O => ?_)
   refine s_d0 ?_
   replace O := O.asBlk (i := 0) (ds := (bestU l (k + 1)).rcells) rfl (by rw [qtc hk1 hk11 hb19])
   refine qa ?_
   refine fp M 2 0 [(13, vI (IntKind.i64.wrap ((k : Int) + 1)))] fun a M => ?_
   replace M := M.sp 13 (vI (k + 1 : Nat)) rfl (qc (by omega) (by omega))
   refine fp M 1 2 [(4, vI (k + 1 : Nat))] fun a M => s_d0 ?_
   exact ⟨_, (by omega), k + 1, by omega, by omega, rfl, M.sub (by kernel_rfl), O.pk [0, 1]⟩
  replace O := O.asBlk (i := 0) (ds := (bestU l (k + 1)).rcells) rfl (by rw [qwh hk1 hk11 hb19])
  refine s_cf M (wp_skip (qa ?_))
  refine fp M 2 0 [(13, vI (IntKind.i64.wrap ((k : Int) + 1)))] fun a M => ?_
  replace M := M.sp 13 (vI (k + 1 : Nat)) rfl (qc (by omega) (by omega))
  refine fp M 1 2 [(4, vI (k + 1 : Nat))] fun a M => s_d0 ?_
  exact ⟨_, (by omega), k + 1, by omega, by omega, rfl, M.sub (by kernel_rfl), O.pk [0, 1]⟩
 have hd11 := of_decide_eq_false hb11
 refine s_cf M (wp_exit (s_fs1 ?_))
 refine s_fz M O 0 rfl (v := .agg ((bestU l k).rcells)) (Yl.qt rfl rfl qcm rfl (fun _ h => qf (h.blk (i := 0) rfl))) fun a M => ?_
 refine fo M 1 rfl rfl (e_sa M O 1 rfl rfl rfl rfl rfl qcm rfl rfl (qmm (bestU l k)) fun w7_1 O => ?_)
 refine s_d0 (wp_ret ?_)
 exact ret1 rfl M (.cellS (i := 1) M O rfl rfl qcm rfl) (⟨by rw [qtd (by omega)], O.below⟩)
theorem qpz (x : Stm) (hok : x.sta.Ok) (hf : StFew x) (w : World) (hx : StRd w x) :
    Calls Tryz.prog 89 #[.agg x.cells] w (Is w (.bool (qac x.sta))) := by
 have hfs_ := hf.s; have hft := hf.t; have hfg := hf.g; have hfl := hf.l; have hfu := hf.u
 refine s_ce Tryz.func89 [.agg x.cells] [(0, .agg x.cells)] fun a M => ?_
 have O := Mem.start w
 refine s_fs1 ?_
 refine fo M 0 rfl rfl (s_eb M O x.cells fun a w1 g1 M O => ?_)
 refine fp M 1 1 [(2, .bool false)] fun a M => s_d0 (wp_seq (s_fs1 ?_))
 refine s_fz M O 0 rfl (v := .agg x.cells) (Yl.qt rfl rfl si_st rfl (fun _ h => qf (h.blk (i := 0) rfl))) fun a M => ?_
 replace M := M.sp 8 (.agg x.cells) rfl (rfl)
 refine fo M 1 rfl rfl (e_is M O [.agg x.cells] (.bool (shpS x.sta)) rfl rfl (qmq x hok hf _ (hx.old O)) fun w9 hbw O a M => ?_)
 refine fp M 2 2 [(11, .bool (!(shpS x.sta)))] fun a M => ?_
 rcases M.tf 11 rfl with ⟨hb11, M⟩ | ⟨hb11, M⟩
 ·
  refine fp M 4 4 [(15, .bool true)] fun a M => s_d0 (s_ct M (s_fs1 ?_))
  refine fp M 1 0 [(2, .bool false)] fun a M => s_d0 (wp_ret ?_)
  exact s_rt1 rfl M rfl (is_as (r_no0 (by rw [qhc, show shpS x.sta = false by simpa using hb11]; rfl)).symm O.below)
 have hsp : shpS x.sta = true := by simpa using hb11
 have hsp0 := q1x hsp
 obtain ⟨hc1, hc2, _, _⟩ := qdg hsp0.cfg
 refine s_fz M O 4 rfl (v := .agg x.cells) (Yl.qt rfl rfl si_st rfl (fun _ h => qf (h.blk (i := 0) rfl))) fun a M => ?_
 replace M := M.sp 12 (.agg x.cells) rfl (rfl)
 refine fo M 5 rfl rfl (e_is M O [.agg x.cells] (.bool (allN x.ts.length (tkAt x.sta))) rfl rfl (qpx x hok hf _ (hx.old O) ⟨hc1, hc2⟩ hsp0.rs) fun w13 hbw O a M => ?_)
 refine fp M 2 6 [(15, .bool (!(allN x.ts.length (tkAt x.sta))))] fun a M => s_d0 ?_
 rcases M.tf 15 rfl with ⟨hb15, M⟩ | ⟨hb15, M⟩
 ·
  refine s_ct M (s_fs1 ?_)
  refine fp M 1 0 [(2, .bool false)] fun a M => s_d0 (wp_ret ?_)
  exact s_rt1 rfl M rfl (is_as (r_no0 (by rw [qhc, show allN x.ts.length (tkAt x.sta) = false by simpa using hb15, Bool.and_false])).symm O.below)
 have hsd : zg x.sta = true := by rw [qhc, hsp, show allN x.ts.length (tkAt x.sta) = true by simpa using hb15]; rfl
 have hsh := sh_at hsd
 have hcul := hsh.cu
 refine s_cf M (wp_skip (wp_seq (s_fs1 ?_)))
 refine fp M 1 0 [(3, vI 0)] fun a M => s_d0 (wp_block ?_)
 refine qe (fun mS aS wS => ∃ (c : Nat), (c ≤ x.cu.length) ∧ (UpTo c fun c => curOk x.sta c && allN x.rs.length fun g => lowS x.sta g c) ∧ mS = x.cu.length - c ∧ Fr aS 83 [] [(3, vI c), (15, .bool false), (2, .bool false), (1, vP g1 0)] ∧ Mem w wS [.blk g1 x.cells 30]) (m := x.cu.length - 0) ⟨0, Nat.zero_le _, UpTo.zero, rfl, M.sub (by kernel_rfl), O.pk [0]⟩ ?_
 clear M O; rintro mS a w_ ⟨c, hc, hu, rfl, M, O⟩
 refine wp_seq (s_fs1 ?_)
 refine fp M 3 0 [(18, vP g1 0), (16, vI c)] fun a M => s_fc M O 3 0 (v := vI x.cpus) fun a M => ?_
 refine fp M 1 4 [(20, .bool (decide ((c : Int) < (x.cpus : Int))))] fun a M => s_d0 ?_
 rcases M.tf 20 rfl with ⟨hb20, M⟩ | ⟨hb20, M⟩
 ·
  have hd20 := of_decide_eq_true hb20
  have hc21 : c < x.cu.length := by omega
  obtain ⟨id, hid⟩ : ∃ z, (x.cu.getD c 0) = z := ⟨_, rfl⟩
  refine s_ct M (wp_skip (wp_seq (wp_block (wp_seq (s_fs1 ?_)))))
  refine fp M 1 0 [(23, vP g1 4)] fun a M => s_fc M O 1 0 (v := .slice x.uA x.cu.length x.uc) fun a M => ?_
  refine fp M 1 2 [(25, vI c)] fun a M => ?_
  obtain ⟨gq1, oq1, hq1, _⟩ := Rd.qi hx.u (Nat.lt_of_le_of_lt (Nat.zero_le _) (show c < x.cu.length from by omega)) (by decide)
  have hrq1 := hx.u; rw [hq1] at hrq1
  replace M := M.sp 24 (.slice (some ⟨gq1, oq1, none⟩) x.cu.length x.uc) rfl (by rw [hq1]; try rfl)
  refine s_fz M O 3 rfl (v := vP gq1 (oq1 + c * 1)) (Yl.ix gq1 oq1 c 1 rfl rfl rfl) fun a M => ?_
  refine s_fz M O 4 rfl (v := vI (x.cu.getD c 0)) (Yl.o1 hrq1 c 0 (by omega) rfl rfl) fun a M => ?_
  replace M := M.sp 27 (vI id) rfl (by rw [hid])
  refine fp M 1 5 [(4, vI id)] fun a M => s_d0 (s_fs1 ?_)
  refine fp M 2 0 [(29, .bool ((id : Int) != (0 : Int)))] fun a M => s_d0 ?_
  rcases M.tf 29 rfl with ⟨hb29, M⟩ | ⟨hb29, M⟩
  ·
   have hd29 := bne_iff_ne.1 hb29
   refine s_ct M (s_fs1 ?_)
   refine s_fz M O 0 rfl (v := .agg x.cells) (Yl.qt rfl rfl si_st rfl (fun _ h => qf (h.blk (i := 0) rfl))) fun a M => ?_
   replace M := M.sp 30 (.agg x.cells) rfl (rfl)
   refine fp M 1 1 [(31, vI id)] fun a M => fo M 2 rfl rfl (e_is M O [.agg x.cells, vI id] (vI (fidx x.ts id)) rfl rfl (qtq x id _ (hx.old O) hf.t) fun w32 hbw O a M => ?_)
   refine fp M 1 3 [(5, vI (fidx x.ts id))] fun a M => s_d0 (s_fs1 ?_)
   refine fp M 3 0 [(35, .bool (decide ((fidx x.ts id : Int) < (0 : Int))))] fun a M => ?_
   rcases M.tf 35 rfl with ⟨hb35, M⟩ | ⟨hb35, M⟩
   ·
    have hd35 := of_decide_eq_true hb35
    refine fp M 18 3 [(53, .bool true)] fun a M => s_d0 (s_ct M (s_fs1 ?_))
    refine fp M 1 0 [(2, .bool false)] fun a M => s_d0 (wp_ret ?_)
    exact s_rt1 rfl M rfl (is_as (r_no1 hc21 (qh4 (by rw [hid]; omega) (by rw [hid]; exact qr9 (by omega)))).symm O.below)
   have hd35 := of_decide_eq_false hb35
   obtain ⟨i, hfi, hfs, hil, hiid⟩ := qnu (l := x.ts) (id := id) (by omega)
   refine fp M 1 3 [(36, vP g1 5)] fun a M => s_fc M O 4 0 (v := .slice x.tA x.ts.length x.tc) fun a M => ?_
   refine fp M 1 5 [(38, vI (fidx x.ts id))] fun a M => ?_
   replace M := M.sp 38 (vI i) rfl (by rw [hfi])
   obtain ⟨gq2, oq2, hq2, _⟩ := Rd.qi hx.t (Nat.lt_of_le_of_lt (Nat.zero_le _) (show i < x.ts.length from by omega)) (by decide)
   have hrq2 := hx.t; rw [hq2] at hrq2
   replace M := M.sp 37 (.slice (some ⟨gq2, oq2, none⟩) x.ts.length x.tc) rfl (by rw [hq2]; try rfl)
   refine s_fz M O 6 rfl (v := vP gq2 (oq2 + i * 8)) (Yl.ix gq2 oq2 i 8 rfl rfl rfl) fun a M => ?_
   refine fp M 1 7 [(40, vP gq2 (oq2 + i * 8 + 5))] fun a M => s_fz M O 8 rfl (v := .bool ((x.ts.getD i Tk.zero).ready)) (Yl.qk rfl rfl (by kernel_rfl) (fun _ h => (h.old hrq2).partAt z7 (k := i) (j := 5) (x := (x.ts.getD i Tk.zero)) ((getD_at Tk.zero (by omega))) rfl)) fun a M => ?_
   refine fp M 3 9 [(44, .bool (!((x.ts.getD i Tk.zero).ready)))] fun a M => ?_
   rcases M.tf 44 rfl with ⟨hb44, M⟩ | ⟨hb44, M⟩
   ·
    refine fp M 9 12 [(53, .bool true)] fun a M => s_d0 (s_ct M (s_fs1 ?_))
    refine fp M 1 0 [(2, .bool false)] fun a M => s_d0 (wp_ret ?_)
    exact s_rt1 rfl M rfl (is_as (r_no1 hc21 (by rw [qd7 (by rw [hid]; omega) (by rw [hid]; exact hfs), show (x.ts.getD i Tk.zero).ready = false by simpa using hb44, Bool.false_and])).symm O.below)
   refine fp M 1 12 [(45, vP g1 5)] fun a M => s_fc M O 13 0 (v := .slice x.tA x.ts.length x.tc) fun a M => ?_
   refine fp M 1 14 [(47, vI (fidx x.ts id))] fun a M => ?_
   replace M := M.sp 47 (vI i) rfl (by rw [hfi])
   replace M := M.sp 46 (.slice (some ⟨gq2, oq2, none⟩) x.ts.length x.tc) rfl (by rw [hq2]; try rfl)
   refine s_fz M O 15 rfl (v := vP gq2 (oq2 + i * 8)) (Yl.ix gq2 oq2 i 8 rfl rfl rfl) fun a M => ?_
   refine fp M 1 16 [(49, vP gq2 (oq2 + i * 8 + 3))] fun a M => s_fz M O 17 rfl (v := vI ((x.ts.getD i Tk.zero).cpu)) (Yl.qk rfl rfl (by kernel_rfl) (fun _ h => (h.old hrq2).partAt z7 (k := i) (j := 3) (x := (x.ts.getD i Tk.zero)) ((getD_at Tk.zero (by omega))) rfl)) fun a M => ?_
   refine fp M 3 18 [(53, .bool (((x.ts.getD i Tk.zero).cpu : Int) != (c : Int)))] fun a M => s_d0 ?_
   rcases M.tf 53 rfl with ⟨hb53, M⟩ | ⟨hb53, M⟩
   ·
    have hd53 := bne_iff_ne.1 hb53
    refine s_ct M (s_fs1 ?_)
    refine fp M 1 0 [(2, .bool false)] fun a M => s_d0 (wp_ret ?_)
    exact s_rt1 rfl M rfl (is_as (r_no1 hc21 (by rw [qd7 (by rw [hid]; omega) (by rw [hid]; exact hfs), decide_eq_false (by omega), Bool.and_false])).symm O.below)
   have hd53 := bne_eq_false_iff_eq.1 hb53
   have hcu : curOk x.sta c = true := by rw [qd7 (by rw [hid]; omega) (by rw [hid]; exact hfs), show (x.ts.getD i Tk.zero).ready = true by simpa using hb44, decide_eq_true (by omega)]; rfl
   refine s_cf M (wp_skip (s_fs1 ?_))
   refine fp M 1 0 [(6, vI 0)] fun a M => s_d0 (wp_block ?_)
   refine qe (fun mS aS wS => ∃ (g : Nat), (g ≤ x.rs.length) ∧ (UpTo g fun g => lowS x.sta g c) ∧ mS = x.rs.length - g ∧ Fr aS 83 [] [(6, vI g), (53, .bool false), (5, vI (fidx x.ts id)), (29, .bool true), (4, vI id), (20, .bool true), (3, vI c), (15, .bool false), (2, .bool false), (1, vP g1 0)] ∧ Mem w wS [.blk g1 x.cells 30]) (m := x.rs.length - 0) ⟨0, Nat.zero_le _, UpTo.zero, rfl, M.sub (by kernel_rfl), O.pk [0]⟩ ?_
   clear M O; rintro mS a w_ ⟨g, hg, hu2, rfl, M, O⟩
   refine wp_seq (s_fs1 ?_)
   refine fp M 2 0 [(55, vP g1 6), (54, vI g)] fun a M => s_fc M O 2 0 (v := .slice x.sA x.rs.length x.sc) fun a M => ?_
   refine s_fl M 3 fun a M => ?_
   refine fp M 1 4 [(58, .bool (decide ((g : Int) < (x.rs.length : Int))))] fun a M => s_d0 ?_
   rcases M.tf 58 rfl with ⟨hb58, M⟩ | ⟨hb58, M⟩
   ·
    have hd58 := of_decide_eq_true hb58
    have hg58 : g < x.rs.length := by omega
    have hml := qjm x g c
    obtain ⟨y, hy⟩ : ∃ z, x.rs.getD g Rw.zero = z := ⟨_, rfl⟩
    have hyr : Rd w w.heap.size 3 y.A y.l.length (y.l.flatMap spL) := by rw [← hy]; exact hx.row hg58
    have hyl : (y.l.length : Int) = x.cpus := by rw [← hy]; exact (qgw hg58 (hsh.row g hg58)).1
    obtain ⟨gq3, oq3, hq3, _⟩ := Rd.qi hx.s (Nat.lt_of_le_of_lt (Nat.zero_le _) (show g < x.rs.length from hg58)) (by decide)
    have hrq3 := hx.s; rw [hq3] at hrq3
    obtain ⟨gq4, oq4, hq4, _⟩ := Rd.qi hyr (Nat.lt_of_le_of_lt (Nat.zero_le _) (show c < y.l.length from (by omega : c < y.l.length))) (by decide)
    have hrq4 := hyr; rw [hq4] at hrq4
    refine s_ct M (wp_skip (wp_seq (wp_block (s_fs1 ?_))))
    refine s_fz M O 0 rfl (v := .agg x.cells) (Yl.qt rfl rfl si_st rfl (fun _ h => qf (h.blk (i := 0) rfl))) fun a M => ?_
    replace M := M.sp 61 (.agg x.cells) rfl (rfl)
    refine fp M 2 1 [(63, vI c), (62, vI g)] fun a M => fo M 3 rfl rfl ?_
    refine s_ek M O [.agg x.cells, vI g, vI c] (qlb x hok hf hsh c (by omega) _ g (Nat.le_refl _) hg58 _ (hx.old O)) fun A64 c64 w64 hc64 O a M => ?_
    refine fp M 1 4 [(7, .slice A64 ((memS x.sta g c).length) c64)] fun a M => s_d0 (qaj (fun aS wS => Fr aS 83 [] [(82, .bool (!lowS x.sta g c)), (7, .slice A64 ((memS x.sta g c).length) c64), (58, .bool true), (6, vI g), (53, .bool false), (5, vI (fidx x.ts id)), (29, .bool true), (4, vI id), (20, .bool true), (3, vI c), (15, .bool false), (2, .bool false), (1, vP g1 0)] ∧ Mem w wS [.row (.slice A64 ((memS x.sta g c).length) c64) ((memS x.sta g c).length) ((memS x.sta g c).flatMap mbrL) 173 3, .blk g1 x.cells 30]) ?_ ?_)
    ·
     refine qz O [.row (.slice A64 ((memS x.sta g c).length) c64) ((memS x.sta g c).length) ((memS x.sta g c).flatMap mbrL) 173 3, .blk g1 x.cells 30] [0, 1] [] fun O Z => ?_
     refine ap M (fun _ => Z) [0] (bf 18 [0]) [(65, .slice A64 ((memS x.sta g c).length) c64)] fun a M => ?_
     refine s_al M Z 1 fun a M => ?_
     refine ap M (fun _ => Z) [2, 3] (bf 18 [0, 1, 2, 3]) [(68, .bool (decide ((((memS x.sta g c).length : Nat) : Int) > (0 : Int))))] fun a M => ?_
     rcases M.tf 68 rfl with ⟨hb68, M⟩ | ⟨hb68, M⟩
     ·
      have hd68 := of_decide_eq_true hb68
      have hne : memS x.sta g c ≠ [] := fun e => by rw [e] at hd68; exact absurd hd68 (by decide)
      refine ap M (fun _ => Z) [4, 7, 9, 12] (bf 18 [0, 1, 2, 3, 4, 7, 9, 12]) [(77, vI c), (74, vI g), (72, vP g1 6), (69, .slice A64 ((memS x.sta g c).length) c64)] fun a M => ?_
      refine s_ac M Z 8 1 (v := .slice x.sA x.rs.length x.sc) fun a M => ?_
      replace M := M.sp 73 (.slice (some ⟨gq3, oq3, none⟩) x.rs.length x.sc) rfl (by rw [hq3]; try rfl)
      refine s_az M Z 10 rfl (v := vP gq3 (oq3 + g * 1)) (Yl.ix gq3 oq3 g 1 rfl rfl rfl) fun a M => ?_
      refine s_az M Z 11 rfl (v := .slice ((x.rs.getD g Rw.zero).A) ((x.rs.getD g Rw.zero).l.length) ((x.rs.getD g Rw.zero).c)) (Yl.o1 hrq3 g Rw.zero hg58 rfl rfl) fun a M => ?_
      replace M := M.sp 76 (.slice y.A y.l.length y.c) rfl (by rw [hy])
      replace M := M.sp 76 (.slice (some ⟨gq4, oq4, none⟩) y.l.length y.c) rfl (by rw [hq4]; try rfl)
      refine s_az M Z 13 rfl (v := vP gq4 (oq4 + c * 3)) (Yl.ix gq4 oq4 c 3 rfl rfl rfl) fun a M => ?_
      refine ap M (fun _ => Z) [14] (bt 18 [5, 6, 15, 16, 17]) [(79, vP gq4 (oq4 + c * 3 + 2))] fun a M => ?_
      refine s_az M Z 15 rfl (v := vQ ((y.l.getD c Sp.zero).floor)) (Yl.qk rfl rfl (by kernel_rfl) (fun _ h => (h.old hrq4).partAt qau (k := c) (j := 2) (x := (y.l.getD c Sp.zero)) ((getD_at Sp.zero (by omega))) rfl)) fun a M => ?_
      refine s_on M 5 rfl (e_is M O [.slice A64 ((memS x.sta g c).length) c64] (.agg ((qdi (memS x.sta g c)).rcells)) rfl rfl (qim A64 c64 (memS x.sta g c) _ (O.rd (i := 0) rfl) (by omega) (by omega)) fun w70 hbw O a M => ?_)
      refine keepS (O.pk [0, 1]) (fun Z => ?_)
      refine s_az M Z 6 rfl (v := vQ ((qdi (memS x.sta g c)).v)) (Yl.field rfl rfl (by kernel_rfl)) fun a M => ?_
      refine ap M (fun _ => Z) [16, 17] (bt 18 []) [(82, .bool (decide (((qdi (memS x.sta g c)).v : Int) > ((y.l.getD c Sp.zero).floor : Int))))] fun a M => ?_
      refine qh (by kernel_rfl) ?_
      have M := M.sp 82 (.bool (!lowS x.sta g c)) rfl (congrArg Value.bool (by rw [qrv hne, ql5 hg58, hy, ← qk7 hne (qta hok g c), ← decide_not]; exact decide_eq_decide.2 (by omega)))
      exact ⟨M.sub (by kernel_rfl), O.pk [0, 1]⟩
     have hd68 := of_decide_eq_false hb68
     refine ap M (fun _ => Z) [4, 5, 6, 7, 8, 9, 10, 11, 12, 13, 14, 15, 16, 17] (bt 18 []) [(82, .bool false)] fun a M => ?_
     refine qh (by kernel_rfl) ?_
     have M := M.sp 82 (.bool (!lowS x.sta g c)) rfl (congrArg Value.bool (by rw [ql4 (List.length_eq_zero_iff.1 (by omega))]; rfl))
     exact ⟨M.sub (by kernel_rfl), O.pk [0, 1]⟩
    clear M O; rintro a w15 ⟨M, O⟩
    rcases M.tf 82 rfl with ⟨hb82, M⟩ | ⟨hb82, M⟩
    ·
     refine s_ct M (s_fs1 ?_)
     refine fp M 1 0 [(2, .bool false)] fun a M => s_d0 (wp_ret ?_)
     exact s_rt1 rfl M rfl (is_as (r_no2 hc21 hg58 (by simpa using hb82)).symm O.below)
    refine s_cf M (wp_skip (qa ?_))
    refine fp M 2 0 [(60, vI (IntKind.i64.wrap ((g : Int) + 1)))] fun a M => ?_
    replace M := M.sp 60 (vI (g + 1 : Nat)) rfl (qc (by omega) (by omega))
    refine fp M 1 2 [(6, vI (g + 1 : Nat))] fun a M => s_d0 ?_
    exact ⟨_, (by omega), g + 1, by omega, hu2.succ (by simpa using hb82), rfl, M.sub (by kernel_rfl), O.pk [1]⟩
   have hd58 := of_decide_eq_false hb58
   refine s_cf M (wp_exit (qa ?_))
   refine fp M 2 0 [(22, vI (IntKind.i64.wrap ((c : Int) + 1)))] fun a M => ?_
   replace M := M.sp 22 (vI (c + 1 : Nat)) rfl (qc (by omega) (by omega))
   refine fp M 1 2 [(3, vI (c + 1 : Nat))] fun a M => s_d0 ?_
   exact ⟨_, (by omega), c + 1, by omega, hu.succ (by rw [hcu, Bool.true_and]; exact UpTo.all fun i hi => hu2 i (by omega)), rfl, M.sub (by kernel_rfl), O.pk [0]⟩
  have hd29 := bne_eq_false_iff_eq.1 hb29
  have hcu : curOk x.sta c = true := qh5 (by rw [hid]; omega)
  refine s_cf M (wp_skip (s_fs1 ?_))
  refine fp M 1 0 [(6, vI 0)] fun a M => s_d0 (wp_block ?_)
  refine qe (fun mS aS wS => ∃ (g : Nat), (g ≤ x.rs.length) ∧ (UpTo g fun g => lowS x.sta g c) ∧ mS = x.rs.length - g ∧ Fr aS 83 [] [(6, vI g), (29, .bool false), (4, vI id), (20, .bool true), (3, vI c), (15, .bool false), (2, .bool false), (1, vP g1 0)] ∧ Mem w wS [.blk g1 x.cells 30]) (m := x.rs.length - 0) ⟨0, Nat.zero_le _, UpTo.zero, rfl, M.sub (by kernel_rfl), O.pk [0]⟩ ?_
  clear M O; rintro mS a w_ ⟨g, hg, hu2, rfl, M, O⟩
  refine wp_seq (s_fs1 ?_)
  refine fp M 2 0 [(55, vP g1 6), (54, vI g)] fun a M => s_fc M O 2 0 (v := .slice x.sA x.rs.length x.sc) fun a M => ?_
  refine s_fl M 3 fun a M => ?_
  refine fp M 1 4 [(58, .bool (decide ((g : Int) < (x.rs.length : Int))))] fun a M => s_d0 ?_
  rcases M.tf 58 rfl with ⟨hb58, M⟩ | ⟨hb58, M⟩
  ·
   have hd58 := of_decide_eq_true hb58
   have hg58 : g < x.rs.length := by omega
   have hml := qjm x g c
   obtain ⟨y, hy⟩ : ∃ z, x.rs.getD g Rw.zero = z := ⟨_, rfl⟩
   have hyr : Rd w w.heap.size 3 y.A y.l.length (y.l.flatMap spL) := by rw [← hy]; exact hx.row hg58
   have hyl : (y.l.length : Int) = x.cpus := by rw [← hy]; exact (qgw hg58 (hsh.row g hg58)).1
   obtain ⟨gq5, oq5, hq5, _⟩ := Rd.qi hx.s (Nat.lt_of_le_of_lt (Nat.zero_le _) (show g < x.rs.length from hg58)) (by decide)
   have hrq5 := hx.s; rw [hq5] at hrq5
   obtain ⟨gq6, oq6, hq6, _⟩ := Rd.qi hyr (Nat.lt_of_le_of_lt (Nat.zero_le _) (show c < y.l.length from (by omega : c < y.l.length))) (by decide)
   have hrq6 := hyr; rw [hq6] at hrq6
   refine s_ct M (wp_skip (wp_seq (wp_block (s_fs1 ?_))))
   refine s_fz M O 0 rfl (v := .agg x.cells) (Yl.qt rfl rfl si_st rfl (fun _ h => qf (h.blk (i := 0) rfl))) fun a M => ?_
   replace M := M.sp 61 (.agg x.cells) rfl (rfl)
   refine fp M 2 1 [(63, vI c), (62, vI g)] fun a M => fo M 3 rfl rfl ?_
   refine s_ek M O [.agg x.cells, vI g, vI c] (qlb x hok hf hsh c (by omega) _ g (Nat.le_refl _) hg58 _ (hx.old O)) fun A64 c64 w64 hc64 O a M => ?_
   refine fp M 1 4 [(7, .slice A64 ((memS x.sta g c).length) c64)] fun a M => s_d0 (qaj (fun aS wS => Fr aS 83 [] [(82, .bool (!lowS x.sta g c)), (7, .slice A64 ((memS x.sta g c).length) c64), (58, .bool true), (6, vI g), (29, .bool false), (4, vI id), (20, .bool true), (3, vI c), (15, .bool false), (2, .bool false), (1, vP g1 0)] ∧ Mem w wS [.row (.slice A64 ((memS x.sta g c).length) c64) ((memS x.sta g c).length) ((memS x.sta g c).flatMap mbrL) 173 3, .blk g1 x.cells 30]) ?_ ?_)
   ·
    refine qz O [.row (.slice A64 ((memS x.sta g c).length) c64) ((memS x.sta g c).length) ((memS x.sta g c).flatMap mbrL) 173 3, .blk g1 x.cells 30] [0, 1] [] fun O Z => ?_
    refine ap M (fun _ => Z) [0] (bf 18 [0]) [(65, .slice A64 ((memS x.sta g c).length) c64)] fun a M => ?_
    refine s_al M Z 1 fun a M => ?_
    refine ap M (fun _ => Z) [2, 3] (bf 18 [0, 1, 2, 3]) [(68, .bool (decide ((((memS x.sta g c).length : Nat) : Int) > (0 : Int))))] fun a M => ?_
    rcases M.tf 68 rfl with ⟨hb68, M⟩ | ⟨hb68, M⟩
    ·
     have hd68 := of_decide_eq_true hb68
     have hne : memS x.sta g c ≠ [] := fun e => by rw [e] at hd68; exact absurd hd68 (by decide)
     refine ap M (fun _ => Z) [4, 7, 9, 12] (bf 18 [0, 1, 2, 3, 4, 7, 9, 12]) [(77, vI c), (74, vI g), (72, vP g1 6), (69, .slice A64 ((memS x.sta g c).length) c64)] fun a M => ?_
     refine s_ac M Z 8 1 (v := .slice x.sA x.rs.length x.sc) fun a M => ?_
     replace M := M.sp 73 (.slice (some ⟨gq5, oq5, none⟩) x.rs.length x.sc) rfl (by rw [hq5]; try rfl)
     refine s_az M Z 10 rfl (v := vP gq5 (oq5 + g * 1)) (Yl.ix gq5 oq5 g 1 rfl rfl rfl) fun a M => ?_
     refine s_az M Z 11 rfl (v := .slice ((x.rs.getD g Rw.zero).A) ((x.rs.getD g Rw.zero).l.length) ((x.rs.getD g Rw.zero).c)) (Yl.o1 hrq5 g Rw.zero hg58 rfl rfl) fun a M => ?_
     replace M := M.sp 76 (.slice y.A y.l.length y.c) rfl (by rw [hy])
     replace M := M.sp 76 (.slice (some ⟨gq6, oq6, none⟩) y.l.length y.c) rfl (by rw [hq6]; try rfl)
     refine s_az M Z 13 rfl (v := vP gq6 (oq6 + c * 3)) (Yl.ix gq6 oq6 c 3 rfl rfl rfl) fun a M => ?_
     refine ap M (fun _ => Z) [14] (bt 18 [5, 6, 15, 16, 17]) [(79, vP gq6 (oq6 + c * 3 + 2))] fun a M => ?_
     refine s_az M Z 15 rfl (v := vQ ((y.l.getD c Sp.zero).floor)) (Yl.qk rfl rfl (by kernel_rfl) (fun _ h => (h.old hrq6).partAt qau (k := c) (j := 2) (x := (y.l.getD c Sp.zero)) ((getD_at Sp.zero (by omega))) rfl)) fun a M => ?_
     refine s_on M 5 rfl (e_is M O [.slice A64 ((memS x.sta g c).length) c64] (.agg ((qdi (memS x.sta g c)).rcells)) rfl rfl (qim A64 c64 (memS x.sta g c) _ (O.rd (i := 0) rfl) (by omega) (by omega)) fun w70 hbw O a M => ?_)
     refine keepS (O.pk [0, 1]) (fun Z => ?_)
     refine s_az M Z 6 rfl (v := vQ ((qdi (memS x.sta g c)).v)) (Yl.field rfl rfl (by kernel_rfl)) fun a M => ?_
     refine ap M (fun _ => Z) [16, 17] (bt 18 []) [(82, .bool (decide (((qdi (memS x.sta g c)).v : Int) > ((y.l.getD c Sp.zero).floor : Int))))] fun a M => ?_
     refine qh (by kernel_rfl) ?_
     have M := M.sp 82 (.bool (!lowS x.sta g c)) rfl (congrArg Value.bool (by rw [qrv hne, ql5 hg58, hy, ← qk7 hne (qta hok g c), ← decide_not]; exact decide_eq_decide.2 (by omega)))
     exact ⟨M.sub (by kernel_rfl), O.pk [0, 1]⟩
    have hd68 := of_decide_eq_false hb68
    refine ap M (fun _ => Z) [4, 5, 6, 7, 8, 9, 10, 11, 12, 13, 14, 15, 16, 17] (bt 18 []) [(82, .bool false)] fun a M => ?_
    refine qh (by kernel_rfl) ?_
    have M := M.sp 82 (.bool (!lowS x.sta g c)) rfl (congrArg Value.bool (by rw [ql4 (List.length_eq_zero_iff.1 (by omega))]; rfl))
    exact ⟨M.sub (by kernel_rfl), O.pk [0, 1]⟩
   clear M O; rintro a w15 ⟨M, O⟩
   rcases M.tf 82 rfl with ⟨hb82, M⟩ | ⟨hb82, M⟩
   ·
    refine s_ct M (s_fs1 ?_)
    refine fp M 1 0 [(2, .bool false)] fun a M => s_d0 (wp_ret ?_)
    exact s_rt1 rfl M rfl (is_as (r_no2 hc21 hg58 (by simpa using hb82)).symm O.below)
   refine s_cf M (wp_skip (qa ?_))
   refine fp M 2 0 [(60, vI (IntKind.i64.wrap ((g : Int) + 1)))] fun a M => ?_
   replace M := M.sp 60 (vI (g + 1 : Nat)) rfl (qc (by omega) (by omega))
   refine fp M 1 2 [(6, vI (g + 1 : Nat))] fun a M => s_d0 ?_
   exact ⟨_, (by omega), g + 1, by omega, hu2.succ (by simpa using hb82), rfl, M.sub (by kernel_rfl), O.pk [1]⟩
  have hd58 := of_decide_eq_false hb58
  refine s_cf M (wp_exit (qa ?_))
  refine fp M 2 0 [(22, vI (IntKind.i64.wrap ((c : Int) + 1)))] fun a M => ?_
  replace M := M.sp 22 (vI (c + 1 : Nat)) rfl (qc (by omega) (by omega))
  refine fp M 1 2 [(3, vI (c + 1 : Nat))] fun a M => s_d0 ?_
  exact ⟨_, (by omega), c + 1, by omega, hu.succ (by rw [hcu, Bool.true_and]; exact UpTo.all fun i hi => hu2 i (by omega)), rfl, M.sub (by kernel_rfl), O.pk [0]⟩
 have hd20 := of_decide_eq_false hb20
 refine s_cf M (wp_exit (s_fs1 ?_))
 refine fp M 1 0 [(2, .bool true)] fun a M => s_d0 (wp_ret ?_)
 exact s_rt1 rfl M rfl (is_as (r_yes hsd (fun i hi => hu i (by omega))).symm O.below)
theorem qz9 : EI Tryz.prog 121 9 (.string (ByteArray.mk #[])) 1 16 := ⟨by kernel_rfl, by kernel_rfl, rfl, by omega⟩
theorem qff (w : World) :
    Calls Tryz.prog 54 #[] w (qwj 9 w) := by
 refine s_ce Tryz.func54 [] [] fun a M => ?_
 have O := Mem.start w
 refine s_fs1 ?_
 refine fp M 1 0 [(0, .slice none 0 0)] fun a M => s_d0 (s_fs1 ?_)
 refine fo M 0 rfl rfl (s_el M O qz9 [(0, .string (ByteArray.mk #[104, 101, 97, 100])), (1, .string (ByteArray.mk #[110, 101, 120, 116])), (2, .string (ByteArray.mk #[99, 111, 110, 102, 105, 103])), (3, .string (ByteArray.mk #[103, 114, 111, 117, 112, 115])), (4, .string (ByteArray.mk #[99, 108, 111, 99, 107, 115])), (5, .string (ByteArray.mk #[99, 117, 114, 114, 101, 110, 116])), (6, .string (ByteArray.mk #[116, 97, 115, 107, 115])), (7, .string (ByteArray.mk #[115, 112, 111, 116, 115])), (8, .string (ByteArray.mk #[115, 117, 109]))] #[.string (ByteArray.mk #[104, 101, 97, 100]), .string (ByteArray.mk #[110, 101, 120, 116]), .string (ByteArray.mk #[99, 111, 110, 102, 105, 103]), .string (ByteArray.mk #[103, 114, 111, 117, 112, 115]), .string (ByteArray.mk #[99, 108, 111, 99, 107, 115]), .string (ByteArray.mk #[99, 117, 114, 114, 101, 110, 116]), .string (ByteArray.mk #[116, 97, 115, 107, 115]), .string (ByteArray.mk #[115, 112, 111, 116, 115]), .string (ByteArray.mk #[115, 117, 109])] fun a w1 g1 M O => ?_)
 refine fp M 1 1 [(0, vS g1 9 9)] fun a M => s_d0 ?_
 replace O := (O.blkRow (i := 0) (n := 9) (size := 1) rfl rfl (by decide)).asRow (i := 0) (ys := nameL.map StrC) rfl (by kernel_rfl)
 refine wp_ret ?_
 exact s_rt1 rfl M rfl (⟨⟨_, rfl, O.own (i := 0) rfl⟩, O.below⟩)
theorem qp4 (s : Snm) (hok : s.st.sta.Ok) (hf : StFew s.st) (w : World) (hx : StRd w s.st) :
    Calls Tryz.prog 53 #[.agg s.cells] w (Is w (.int .i64 (chkS s : Int))) := by
 refine s_ce Tryz.func53 [.agg s.cells] [(0, .agg s.cells)] fun a M => ?_
 have O := Mem.start w
 refine s_fs1 ?_
 refine fo M 0 rfl rfl (s_eb M O s.cells fun a w1 g1 M O => ?_)
 refine fp M 1 1 [(2, vI 0)] fun a M => s_d0 (wp_seq (s_fs1 ?_))
 refine fp M 1 0 [(3, vP g1 0)] fun a M => s_fc M O 1 0 (v := vI s.next) fun a M => ?_
 refine fp M 2 2 [(6, .bool (decide ((s.next : Int) < (1 : Int))))] fun a M => ?_
 rcases M.tf 6 rfl with ⟨hb6, M⟩ | ⟨hb6, M⟩
 ·
  have hd6 := of_decide_eq_true hb6
  refine fp M 4 4 [(10, .bool true)] fun a M => s_d0 (s_ct M (s_fs1 ?_))
  refine fp M 1 0 [(2, vI 330)] fun a M => s_d0 (wp_ret ?_)
  exact s_rt1 rfl M rfl (⟨by rw [qf1 (by omega)]; rfl, O.below⟩)
 have hd6 := of_decide_eq_false hb6
 refine fp M 1 4 [(7, vP g1 0)] fun a M => s_fc M O 5 0 (v := vI s.next) fun a M => ?_
 refine fp M 2 6 [(10, .bool (decide ((s.next : Int) > (281474976710657 : Int))))] fun a M => s_d0 ?_
 rcases M.tf 10 rfl with ⟨hb10, M⟩ | ⟨hb10, M⟩
 ·
  have hd10 := of_decide_eq_true hb10
  refine s_ct M (s_fs1 ?_)
  refine fp M 1 0 [(2, vI 330)] fun a M => s_d0 (wp_ret ?_)
  exact s_rt1 rfl M rfl (⟨by rw [qf1 (by omega)]; rfl, O.below⟩)
 have hd10 := of_decide_eq_false hb10
 refine s_cf M (wp_skip (wp_seq (s_fs1 ?_)))
 refine fp M 1 0 [(11, vP g1 1)] fun a M => s_fz M O 1 rfl (v := .agg #[vI s.st.cpus, vQ s.st.credit, .slice s.st.gA s.st.gs.length s.st.gc, .slice s.st.lA s.st.cl.length s.st.lc, .slice s.st.uA s.st.cu.length s.st.uc, .slice s.st.tA s.st.ts.length s.st.tc, .slice s.st.sA s.st.rs.length s.st.sc]) (Yl.qt rfl rfl si_st rfl (fun _ h => h.sub (i := 0) rfl 1 rfl)) fun a M => ?_
 replace M := M.sp 12 (.agg s.st.cells) rfl (rfl)
 refine fo M 2 rfl rfl (e_is M O [.agg s.st.cells] (.bool (qac s.st.sta)) rfl rfl (qpz s.st hok hf _ (hx.old O)) fun w13 hbw O a M => ?_)
 refine fp M 1 3 [(14, .bool (!(qac s.st.sta)))] fun a M => s_d0 ?_
 rcases M.tf 14 rfl with ⟨hb14, M⟩ | ⟨hb14, M⟩
 ·
  refine s_ct M (s_fs1 ?_)
  refine fp M 1 0 [(2, vI 331)] fun a M => s_d0 (wp_ret ?_)
  exact s_rt1 rfl M rfl (⟨by rw [qkq (by omega) (by simpa using hb14)]; rfl, O.below⟩)
 refine s_cf M (wp_skip (s_fs1 ?_))
 refine fp M 1 0 [(2, vI 0)] fun a M => s_d0 (wp_ret ?_)
 exact s_rt1 rfl M rfl (⟨by rw [qkr (by omega) (by simpa using hb14)]; rfl, O.below⟩)
theorem q0a (s : Snm) (hok : s.st.sta.Ok) (hf : StFew s.st) (hsh : ShAt s.st) (nm : ByteArray) (w : World) (hx : StRd w s.st) :
    Calls Tryz.prog 55 #[.agg s.cells, .string nm] w (ql6 w (ofR s nm)) := by
 have hgl := hf.g; have htl := hf.t; have hll := hf.l; have hul := hf.u; have hrl := hf.s
 have hg1 := (qga (qdg hsh.cfg).2.2.2).1
 obtain ⟨hc1, hc2, _, _⟩ := qdg hsh.cfg
 have hcred := hok.credit
 replace hcred : s.st.credit < 18446744073709551616 := hcred
 refine s_ce Tryz.func55 [.agg s.cells, .string nm] [(0, .agg s.cells), (1, .string nm)] fun a M => ?_
 have O := Mem.start w
 refine s_fs1 ?_
 refine fo M 0 rfl rfl (s_eb M O s.cells fun a w2 g2 M O => ?_)
 refine fp M 1 1 [(4, .slice none 0 0)] fun a M => s_d0 (s_fs1 ?_)
 refine fp M 1 0 [(5, .slice none 0 0)] fun a M => s_d0 ?_
 replace O := O.nil 22 1
 refine s_fs1 ?_
 refine fp M 1 0 [(16, vP g2 1)] fun a M => s_fz M O 1 rfl (v := .agg #[vI s.st.cpus, vQ s.st.credit, .slice s.st.gA s.st.gs.length s.st.gc, .slice s.st.lA s.st.cl.length s.st.lc, .slice s.st.uA s.st.cu.length s.st.uc, .slice s.st.tA s.st.ts.length s.st.tc, .slice s.st.sA s.st.rs.length s.st.sc]) (Yl.qt rfl rfl si_st rfl (fun _ h => h.sub (i := 1) rfl 1 rfl)) fun a M => ?_
 replace M := M.sp 17 (.agg s.st.cells) rfl (rfl)
 refine fo M 2 rfl rfl (s_ea M O #[vI 0, vQ 0, .slice none 0 0, .slice none 0 0, .slice none 0 0, .slice none 0 0, .slice none 0 0] fun a w6 g6 M O => ?_)
 refine fo M 3 rfl rfl (e_sa M O 0 rfl rfl rfl rfl rfl si_st rfl rfl (qgq s.st) fun w2_3 O => ?_)
 refine s_d0 (wp_seq (s_fs1 ?_))
 refine fp M 1 0 [(18, .string nm)] fun a M => s_d0 (wp_block (s_fs1 ?_))
 refine fp M 2 0 [(19, .bool ((nm).toList == ((ByteArray.mk #[110, 101, 120, 116])).toList))] fun a M => s_d0 ?_
 rcases M.tf 19 rfl with ⟨hb19, M⟩ | ⟨hb19, M⟩
 ·
  refine s_ct M (qa ?_)
  refine fp M 2 0 [(22, vP g2 0), (21, .slice none 0 0)] fun a M => s_fc M O 2 2 (v := vI s.next) fun a M => ?_
  refine fp M 1 3 [(24, vQ (IntKind.u64.wrap s.next))] fun a M => ?_
  replace M := M.sp 24 (vQ (toU s.next)) rfl (zo _)
  refine fo M 4 rfl rfl (s_el M O zd [(0, vQ (toU s.next))] #[vQ (toU s.next)] fun a w25 g25 M O => ?_)
  refine fo M 5 rfl rfl (qd M O (i := 2) rfl zd rfl rfl rfl (news := ([toU s.next].map U64)) (O.rdBlk (i := 0) (n := 1) (size := 1) rfl rfl) (qal _) (by omega) (by omega) rfl (by decide) fun a w26 A26 c26 M O hc26 => ?_)
  refine fp M 1 6 [(5, .slice A26 (0 + 1) c26)] fun a M => s_d0 ?_
  have hnA26 : 0 + 1 = [toU s.next].length := rfl
  replace O := O.reRow (i := 2) (ys := [toU s.next].map U64) rfl hnA26 (rfl)
  rw [hnA26] at hc26
  replace M := M.sp 5 (.slice A26 ([toU s.next].length) c26) rfl (by rw [hnA26])
  replace M := M.sp 26 (.slice A26 ([toU s.next].length) c26) rfl (by rw [hnA26])
  refine s_fs1 ?_
  refine fp M 2 0 [(4, .slice A26 ([toU s.next].length) c26)] fun a M => s_d0 (wp_ret ?_)
  exact s_rt1 rfl M rfl (qaq ((show _ = secN s 0 from rfl).trans (Eq.symm (qfq hb19))) (O.own (i := 2) rfl) hc26 O.below)
 refine s_cf M (s_fs1 ?_)
 refine fp M 2 0 [(27, .bool ((nm).toList == ((ByteArray.mk #[99, 111, 110, 102, 105, 103])).toList))] fun a M => s_d0 ?_
 rcases M.tf 27 rfl with ⟨hb27, M⟩ | ⟨hb27, M⟩
 ·
  refine s_ct M (qa ?_)
  refine fp M 3 0 [(31, vP g6 0), (29, .slice none 0 0)] fun a M => s_fc M O 3 0 (v := vI s.st.cpus) fun a M => ?_
  refine fp M 1 4 [(33, vQ (IntKind.u64.wrap s.st.cpus))] fun a M => ?_
  replace M := M.sp 33 (vQ (toU s.st.cpus)) rfl (zo _)
  refine fp M 2 5 [(35, vP g6 1)] fun a M => s_fc M O 7 0 (v := vQ s.st.credit) fun a M => ?_
  refine fp M 2 8 [(38, vP g6 2)] fun a M => s_fc M O 10 0 (v := .slice s.st.gA s.st.gs.length s.st.gc) fun a M => ?_
  refine s_fl M 11 fun a M => ?_
  refine fp M 1 12 [(41, vQ (IntKind.u64.wrap (s.st.gs.length : Int)))] fun a M => ?_
  replace M := M.sp 41 (vQ s.st.gs.length) rfl (qb0 rfl (by omega))
  refine fo M 13 rfl rfl (s_el M O zd [(0, vQ (toU s.st.cpus)), (1, vQ s.st.credit), (2, vQ s.st.gs.length)] #[vQ (toU s.st.cpus), vQ s.st.credit, vQ s.st.gs.length] fun a w42 g42 M O => ?_)
  refine fo M 14 rfl rfl (qd M O (i := 2) rfl zd rfl rfl rfl (news := ([toU s.st.cpus, s.st.credit, s.st.gs.length].map U64)) (O.rdBlk (i := 0) (n := 3) (size := 1) rfl rfl) (qal _) (by omega) (by omega) rfl (by decide) fun a w43 A43 c43 M O hc43 => ?_)
  refine fp M 1 15 [(5, .slice A43 (0 + 3) c43)] fun a M => s_d0 ?_
  have hnA43 : 0 + 3 = [toU s.st.cpus, s.st.credit, s.st.gs.length].length := rfl
  replace O := O.reRow (i := 2) (ys := [toU s.st.cpus, s.st.credit, s.st.gs.length].map U64) rfl hnA43 (rfl)
  rw [hnA43] at hc43
  replace M := M.sp 5 (.slice A43 ([toU s.st.cpus, s.st.credit, s.st.gs.length].length) c43) rfl (by rw [hnA43])
  replace M := M.sp 43 (.slice A43 ([toU s.st.cpus, s.st.credit, s.st.gs.length].length) c43) rfl (by rw [hnA43])
  refine s_fs1 ?_
  refine fp M 2 0 [(4, .slice A43 ([toU s.st.cpus, s.st.credit, s.st.gs.length].length) c43)] fun a M => s_d0 (wp_ret ?_)
  exact s_rt1 rfl M rfl (qaq ((show _ = secN s 1 from rfl).trans (Eq.symm ((of_no hb19).trans (qfq hb27)))) (O.own (i := 2) rfl) hc43 O.below)
 refine s_cf M (s_fs1 ?_)
 refine fp M 2 0 [(44, .bool ((nm).toList == ((ByteArray.mk #[103, 114, 111, 117, 112, 115])).toList))] fun a M => s_d0 ?_
 rcases M.tf 44 rfl with ⟨hb44, M⟩ | ⟨hb44, M⟩
 ·
  refine s_ct M (s_fs1 ?_)
  refine fp M 1 0 [(7, vI 1)] fun a M => s_d0 (wp_block ?_)
  refine qe (fun mS aS wS => ∃ (g : Nat) (q : List Nat) (Ao : Option Addr) (co : Nat), (1 ≤ g) ∧ (g ≤ s.st.gs.length) ∧ (q = upF (g - 1) (gsN s.st.gs)) ∧ (q.length ≤ 2 * (g - 1)) ∧ (q.length ≤ co) ∧ mS = s.st.gs.length - g ∧ Fr aS 223 [] [(7, vI g), (44, .bool true), (27, .bool false), (19, .bool false), (18, .string nm), (6, vP g6 0), (5, .slice Ao q.length co), (4, .slice none 0 0), (2, vP g2 0)] ∧ Mem w wS [.blk g6 s.st.cells 30, .row (.slice Ao q.length co) q.length (q.map U64) 22 1, .blk g2 s.cells 56]) (m := s.st.gs.length - 1) ⟨1, [], none, 0, Nat.le_refl _, by omega, rfl, Nat.le_refl _, Nat.le_refl _, rfl, M.sub (by kernel_rfl), O.pk [0, 1, 2]⟩ ?_
  clear M O; rintro mS a w_ ⟨g, q, Ao, co, hg1, hg, hq, hql, hco, rfl, M, O⟩
  refine wp_seq (s_fs1 ?_)
  refine fp M 3 0 [(48, vP g6 2), (46, vI g)] fun a M => s_fc M O 3 0 (v := .slice s.st.gA s.st.gs.length s.st.gc) fun a M => ?_
  refine s_fl M 4 fun a M => ?_
  refine fp M 1 5 [(51, .bool (decide ((g : Int) < (s.st.gs.length : Int))))] fun a M => s_d0 ?_
  rcases M.tf 51 rfl with ⟨hb51, M⟩ | ⟨hb51, M⟩
  ·
   have hd51 := of_decide_eq_true hb51
   have hg51 : g < s.st.gs.length := by omega
   obtain ⟨gq1, oq1, hq1, _⟩ := Rd.qi hx.g (Nat.lt_of_le_of_lt (Nat.zero_le _) (show g < s.st.gs.length from hg51)) (by decide)
   have hrq1 := hx.g; rw [hq1] at hrq1
   refine s_ct M (wp_skip (wp_seq (wp_block ?_)))
   refine qz O [.blk g6 s.st.cells 30, .blk g2 s.cells 56] [0, 2] [] fun O Z => ?_
   refine ap M (fun _ => Z) [0, 1, 2, 4, 9, 10, 12] (bf 20 [0, 1, 2, 4, 9, 10, 12]) [(66, vI g), (64, vP g6 2), (58, vI g), (56, vP g6 2), (54, .slice Ao q.length co)] fun a M => ?_
   refine s_ac M Z 3 0 (v := .slice s.st.gA s.st.gs.length s.st.gc) fun a M => ?_
   replace M := M.sp 57 (.slice (some ⟨gq1, oq1, none⟩) s.st.gs.length s.st.gc) rfl (by rw [hq1]; try rfl)
   refine s_az M Z 5 rfl (v := vP gq1 (oq1 + g * 2)) (Yl.ix gq1 oq1 g 2 rfl rfl rfl) fun a M => ?_
   refine ap M (fun _ => Z) [6] (bf 20 [0, 1, 2, 3, 4, 5, 6, 9, 10, 12]) [(60, vP gq1 (oq1 + g * 2))] fun a M => ?_
   refine s_az M Z 7 rfl (v := vI ((s.st.gs.getD g Gr.zero).parent)) (Yl.qk rfl rfl (by kernel_rfl) (fun _ h => (by have := (h.old hrq1).partAt zx (k := g) (j := 0) (x := (s.st.gs.getD g Gr.zero)) ((getD_at Gr.zero hg51)) rfl; simpa using this))) fun a M => ?_
   refine qg M (fun _ => Z) (i := 8) rfl rfl (d := 62) rfl (by decide) (by kernel_rfl) (fun _ _ _ h => h) (v := vQ (IntKind.u64.wrap ((s.st.gs.getD g Gr.zero).parent))) (fun _ => Yl.pure (by kernel_rfl)) fun a M => ?_
   replace M := M.sp 62 (vQ (toU (s.st.gs.getD g Gr.zero).parent)) rfl (zo _)
   refine s_ac M Z 11 0 (v := .slice s.st.gA s.st.gs.length s.st.gc) fun a M => ?_
   replace M := M.sp 65 (.slice (some ⟨gq1, oq1, none⟩) s.st.gs.length s.st.gc) rfl (by rw [hq1]; try rfl)
   refine s_az M Z 13 rfl (v := vP gq1 (oq1 + g * 2)) (Yl.ix gq1 oq1 g 2 rfl rfl rfl) fun a M => ?_
   refine ap M (fun _ => Z) [14] (bt 20 [15, 16, 17, 18, 19]) [(68, vP gq1 (oq1 + g * 2 + 1))] fun a M => ?_
   refine s_az M Z 15 rfl (v := vI ((s.st.gs.getD g Gr.zero).weight)) (Yl.qk rfl rfl (by kernel_rfl) (fun _ h => (h.old hrq1).partAt zx (k := g) (j := 1) (x := (s.st.gs.getD g Gr.zero)) ((getD_at Gr.zero hg51)) rfl)) fun a M => ?_
   refine qg M (fun _ => Z) (i := 16) rfl rfl (d := 70) rfl (by decide) (by kernel_rfl) (fun _ _ _ h => h) (v := vQ (IntKind.u64.wrap ((s.st.gs.getD g Gr.zero).weight))) (fun _ => Yl.pure (by kernel_rfl)) fun a M => ?_
   replace M := M.sp 70 (vQ (toU (s.st.gs.getD g Gr.zero).weight)) rfl (zo _)
   refine s_on M 17 rfl (s_el M O zd [(0, vQ (toU (s.st.gs.getD g Gr.zero).parent)), (1, vQ (toU (s.st.gs.getD g Gr.zero).weight))] #[vQ (toU (s.st.gs.getD g Gr.zero).parent), vQ (toU (s.st.gs.getD g Gr.zero).weight)] fun a w71 g71 M O => ?_)
   refine keepS (O.pk [1, 3]) (fun Z => ?_)
   refine s_on M 18 rfl (qd M O (i := 2) rfl zd rfl rfl rfl (news := ([toU (s.st.gs.getD g Gr.zero).parent, toU (s.st.gs.getD g Gr.zero).weight].map U64)) (O.rdBlk (i := 0) (n := 2) (size := 1) rfl rfl) (qal _) (by omega) (by omega) rfl (by decide) fun a w72 A72 c72 M O hc72 => ?_)
   refine keepS (O.pk [1, 3]) (fun Z => ?_)
   refine ap M (fun _ => Z) [19] (bt 20 []) [(5, .slice A72 (q.length + 2) c72)] fun a M => ?_
   refine qh (by kernel_rfl) ?_
   have hnA72 : q.length + 2 = (q ++ [toU (s.st.gs.getD g Gr.zero).parent, toU (s.st.gs.getD g Gr.zero).weight]).length := qs rfl
   replace O := O.reRow (i := 2) (ys := (q ++ [toU (s.st.gs.getD g Gr.zero).parent, toU (s.st.gs.getD g Gr.zero).weight]).map U64) rfl hnA72 (List.map_append.symm)
   rw [hnA72] at hc72
   replace M := M.sp 5 (.slice A72 ((q ++ [toU (s.st.gs.getD g Gr.zero).parent, toU (s.st.gs.getD g Gr.zero).weight]).length) c72) rfl (by rw [hnA72])
   replace M := M.sp 72 (.slice A72 ((q ++ [toU (s.st.gs.getD g Gr.zero).parent, toU (s.st.gs.getD g Gr.zero).weight]).length) c72) rfl (by rw [hnA72])
   refine qa ?_
   refine fp M 2 0 [(53, vI (IntKind.i64.wrap ((g : Int) + 1)))] fun a M => ?_
   replace M := M.sp 53 (vI (g + 1 : Nat)) rfl (qc (by omega) (by omega))
   refine fp M 1 2 [(7, vI (g + 1 : Nat))] fun a M => s_d0 ?_
   exact ⟨_, (by omega), g + 1, (q ++ [toU (s.st.gs.getD g Gr.zero).parent, toU (s.st.gs.getD g Gr.zero).weight]), A72, c72, by omega, by omega, by rw [show g + 1 - 1 = (g - 1) + 1 by omega, qm, ← hq, q1z hg1], by rw [List.length_append, show [toU (s.st.gs.getD g Gr.zero).parent, toU (s.st.gs.getD g Gr.zero).weight].length = 2 from rfl]; omega, hc72, rfl, M.sub (by kernel_rfl), O.pk [1, 2, 3]⟩
  have hd51 := of_decide_eq_false hb51
  refine s_cf M (wp_exit (s_fs1 ?_))
  refine fp M 2 0 [(4, .slice Ao q.length co)] fun a M => s_d0 (wp_ret ?_)
  exact s_rt1 rfl M rfl (qaq ((show _ = secN s 2 from by rw [hq, show g = s.st.gs.length by omega]; rfl).trans (Eq.symm ((of_no hb19).trans ((of_no hb27).trans (qfq hb44))))) (O.own (i := 1) rfl) hco O.below)
 refine s_cf M (s_fs1 ?_)
 refine fp M 2 0 [(73, .bool ((nm).toList == ((ByteArray.mk #[99, 108, 111, 99, 107, 115])).toList))] fun a M => s_d0 ?_
 rcases M.tf 73 rfl with ⟨hb73, M⟩ | ⟨hb73, M⟩
 ·
  refine s_ct M (s_fs1 ?_)
  refine fp M 1 0 [(8, vI 0)] fun a M => s_d0 (wp_block ?_)
  refine qe (fun mS aS wS => ∃ (k : Nat) (q : List Nat) (Ao : Option Addr) (co : Nat), (k ≤ s.st.cl.length) ∧ (q = (s.st.cl.take k).map toU) ∧ (q.length ≤ k) ∧ (q.length ≤ co) ∧ mS = s.st.cl.length - k ∧ Fr aS 223 [] [(8, vI k), (73, .bool true), (44, .bool false), (27, .bool false), (19, .bool false), (18, .string nm), (6, vP g6 0), (5, .slice Ao q.length co), (4, .slice none 0 0), (2, vP g2 0)] ∧ Mem w wS [.blk g6 s.st.cells 30, .row (.slice Ao q.length co) q.length (q.map U64) 22 1, .blk g2 s.cells 56]) (m := s.st.cl.length - 0) ⟨0, [], none, 0, Nat.zero_le _, rfl, Nat.le_refl _, Nat.le_refl _, rfl, M.sub (by kernel_rfl), O.pk [0, 1, 2]⟩ ?_
  clear M O; rintro mS a w_ ⟨k, q, Ao, co, hk, hq, hql, hco, rfl, M, O⟩
  refine wp_seq (s_fs1 ?_)
  refine fp M 2 0 [(76, vP g6 3), (75, vI k)] fun a M => s_fc M O 2 0 (v := .slice s.st.lA s.st.cl.length s.st.lc) fun a M => ?_
  refine s_fl M 3 fun a M => ?_
  refine fp M 1 4 [(79, .bool (decide ((k : Int) < (s.st.cl.length : Int))))] fun a M => s_d0 ?_
  rcases M.tf 79 rfl with ⟨hb79, M⟩ | ⟨hb79, M⟩
  ·
   have hd79 := of_decide_eq_true hb79
   refine s_ct M (wp_skip (wp_seq (wp_block (qa ?_))))
   refine fp M 2 0 [(83, vP g6 3), (82, .slice Ao q.length co)] fun a M => s_fc M O 2 0 (v := .slice s.st.lA s.st.cl.length s.st.lc) fun a M => ?_
   refine fp M 1 3 [(85, vI k)] fun a M => ?_
   obtain ⟨gq2, oq2, hq2, _⟩ := Rd.qi hx.l (Nat.lt_of_le_of_lt (Nat.zero_le _) (show k < s.st.cl.length from by omega)) (by decide)
   have hrq2 := hx.l; rw [hq2] at hrq2
   replace M := M.sp 84 (.slice (some ⟨gq2, oq2, none⟩) s.st.cl.length s.st.lc) rfl (by rw [hq2]; try rfl)
   refine s_fz M O 4 rfl (v := vP gq2 (oq2 + k * 1)) (Yl.ix gq2 oq2 k 1 rfl rfl rfl) fun a M => ?_
   refine s_fz M O 5 rfl (v := vI (s.st.cl.getD k 0)) (Yl.o1 hrq2 k 0 (by omega) rfl rfl) fun a M => ?_
   refine fp M 1 6 [(88, vQ (IntKind.u64.wrap (s.st.cl.getD k 0)))] fun a M => ?_
   replace M := M.sp 88 (vQ (toU (s.st.cl.getD k 0))) rfl (zo _)
   refine fo M 7 rfl rfl (s_el M O zd [(0, vQ (toU (s.st.cl.getD k 0)))] #[vQ (toU (s.st.cl.getD k 0))] fun a w89 g89 M O => ?_)
   refine fo M 8 rfl rfl (qd M O (i := 2) rfl zd rfl rfl rfl (news := ([toU (s.st.cl.getD k 0)].map U64)) (O.rdBlk (i := 0) (n := 1) (size := 1) rfl rfl) (qal _) (by omega) (by omega) rfl (by decide) fun a w90 A90 c90 M O hc90 => ?_)
   refine fp M 1 9 [(5, .slice A90 (q.length + 1) c90)] fun a M => s_d0 ?_
   have hnA90 : q.length + 1 = (q ++ [toU (s.st.cl.getD k 0)]).length := qs rfl
   replace O := O.reRow (i := 2) (ys := (q ++ [toU (s.st.cl.getD k 0)]).map U64) rfl hnA90 (List.map_append.symm)
   rw [hnA90] at hc90
   replace M := M.sp 5 (.slice A90 ((q ++ [toU (s.st.cl.getD k 0)]).length) c90) rfl (by rw [hnA90])
   replace M := M.sp 90 (.slice A90 ((q ++ [toU (s.st.cl.getD k 0)]).length) c90) rfl (by rw [hnA90])
   refine qa ?_
   refine fp M 2 0 [(81, vI (IntKind.i64.wrap ((k : Int) + 1)))] fun a M => ?_
   replace M := M.sp 81 (vI (k + 1 : Nat)) rfl (qc (by omega) (by omega))
   refine fp M 1 2 [(8, vI (k + 1 : Nat))] fun a M => s_d0 ?_
   exact ⟨_, (by omega), k + 1, (q ++ [toU (s.st.cl.getD k 0)]), A90, c90, by omega, by rw [hq, qd8 (by omega)], by rw [List.length_append, show [toU (s.st.cl.getD k 0)].length = 1 from rfl]; omega, hc90, rfl, M.sub (by kernel_rfl), O.pk [1, 2, 3]⟩
  have hd79 := of_decide_eq_false hb79
  refine s_cf M (wp_exit (s_fs1 ?_))
  refine fp M 2 0 [(4, .slice Ao q.length co)] fun a M => s_d0 (wp_ret ?_)
  exact s_rt1 rfl M rfl (qaq ((show _ = secN s 3 from by rw [hq, List.take_of_length_le (by omega)]; rfl).trans (Eq.symm ((of_no hb19).trans ((of_no hb27).trans ((of_no hb44).trans (qfq hb73)))))) (O.own (i := 1) rfl) hco O.below)
 refine s_cf M (s_fs1 ?_)
 refine fp M 2 0 [(91, .bool ((nm).toList == ((ByteArray.mk #[99, 117, 114, 114, 101, 110, 116])).toList))] fun a M => s_d0 ?_
 rcases M.tf 91 rfl with ⟨hb91, M⟩ | ⟨hb91, M⟩
 ·
  refine s_ct M (s_fs1 ?_)
  refine fp M 1 0 [(9, vI 0)] fun a M => s_d0 (wp_block ?_)
  refine qe (fun mS aS wS => ∃ (k : Nat) (q : List Nat) (Ao : Option Addr) (co : Nat), (k ≤ s.st.cu.length) ∧ (q = (s.st.cu.take k).map toU) ∧ (q.length ≤ k) ∧ (q.length ≤ co) ∧ mS = s.st.cu.length - k ∧ Fr aS 223 [] [(9, vI k), (91, .bool true), (73, .bool false), (44, .bool false), (27, .bool false), (19, .bool false), (18, .string nm), (6, vP g6 0), (5, .slice Ao q.length co), (4, .slice none 0 0), (2, vP g2 0)] ∧ Mem w wS [.blk g6 s.st.cells 30, .row (.slice Ao q.length co) q.length (q.map U64) 22 1, .blk g2 s.cells 56]) (m := s.st.cu.length - 0) ⟨0, [], none, 0, Nat.zero_le _, rfl, Nat.le_refl _, Nat.le_refl _, rfl, M.sub (by kernel_rfl), O.pk [0, 1, 2]⟩ ?_
  clear M O; rintro mS a w_ ⟨k, q, Ao, co, hk, hq, hql, hco, rfl, M, O⟩
  refine wp_seq (s_fs1 ?_)
  refine fp M 2 0 [(94, vP g6 4), (93, vI k)] fun a M => s_fc M O 2 0 (v := .slice s.st.uA s.st.cu.length s.st.uc) fun a M => ?_
  refine s_fl M 3 fun a M => ?_
  refine fp M 1 4 [(97, .bool (decide ((k : Int) < (s.st.cu.length : Int))))] fun a M => s_d0 ?_
  rcases M.tf 97 rfl with ⟨hb97, M⟩ | ⟨hb97, M⟩
  ·
   have hd97 := of_decide_eq_true hb97
   refine s_ct M (wp_skip (wp_seq (wp_block (qa ?_))))
   refine fp M 2 0 [(101, vP g6 4), (100, .slice Ao q.length co)] fun a M => s_fc M O 2 0 (v := .slice s.st.uA s.st.cu.length s.st.uc) fun a M => ?_
   refine fp M 1 3 [(103, vI k)] fun a M => ?_
   obtain ⟨gq3, oq3, hq3, _⟩ := Rd.qi hx.u (Nat.lt_of_le_of_lt (Nat.zero_le _) (show k < s.st.cu.length from by omega)) (by decide)
   have hrq3 := hx.u; rw [hq3] at hrq3
   replace M := M.sp 102 (.slice (some ⟨gq3, oq3, none⟩) s.st.cu.length s.st.uc) rfl (by rw [hq3]; try rfl)
   refine s_fz M O 4 rfl (v := vP gq3 (oq3 + k * 1)) (Yl.ix gq3 oq3 k 1 rfl rfl rfl) fun a M => ?_
   refine s_fz M O 5 rfl (v := vI (s.st.cu.getD k 0)) (Yl.o1 hrq3 k 0 (by omega) rfl rfl) fun a M => ?_
   refine fp M 1 6 [(106, vQ (IntKind.u64.wrap (s.st.cu.getD k 0)))] fun a M => ?_
   replace M := M.sp 106 (vQ (toU (s.st.cu.getD k 0))) rfl (zo _)
   refine fo M 7 rfl rfl (s_el M O zd [(0, vQ (toU (s.st.cu.getD k 0)))] #[vQ (toU (s.st.cu.getD k 0))] fun a w107 g107 M O => ?_)
   refine fo M 8 rfl rfl (qd M O (i := 2) rfl zd rfl rfl rfl (news := ([toU (s.st.cu.getD k 0)].map U64)) (O.rdBlk (i := 0) (n := 1) (size := 1) rfl rfl) (qal _) (by omega) (by omega) rfl (by decide) fun a w108 A108 c108 M O hc108 => ?_)
   refine fp M 1 9 [(5, .slice A108 (q.length + 1) c108)] fun a M => s_d0 ?_
   have hnA108 : q.length + 1 = (q ++ [toU (s.st.cu.getD k 0)]).length := qs rfl
   replace O := O.reRow (i := 2) (ys := (q ++ [toU (s.st.cu.getD k 0)]).map U64) rfl hnA108 (List.map_append.symm)
   rw [hnA108] at hc108
   replace M := M.sp 5 (.slice A108 ((q ++ [toU (s.st.cu.getD k 0)]).length) c108) rfl (by rw [hnA108])
   replace M := M.sp 108 (.slice A108 ((q ++ [toU (s.st.cu.getD k 0)]).length) c108) rfl (by rw [hnA108])
   refine qa ?_
   refine fp M 2 0 [(99, vI (IntKind.i64.wrap ((k : Int) + 1)))] fun a M => ?_
   replace M := M.sp 99 (vI (k + 1 : Nat)) rfl (qc (by omega) (by omega))
   refine fp M 1 2 [(9, vI (k + 1 : Nat))] fun a M => s_d0 ?_
   exact ⟨_, (by omega), k + 1, (q ++ [toU (s.st.cu.getD k 0)]), A108, c108, by omega, by rw [hq, qd8 (by omega)], by rw [List.length_append, show [toU (s.st.cu.getD k 0)].length = 1 from rfl]; omega, hc108, rfl, M.sub (by kernel_rfl), O.pk [1, 2, 3]⟩
  have hd97 := of_decide_eq_false hb97
  refine s_cf M (wp_exit (s_fs1 ?_))
  refine fp M 2 0 [(4, .slice Ao q.length co)] fun a M => s_d0 (wp_ret ?_)
  exact s_rt1 rfl M rfl (qaq ((show _ = secN s 4 from by rw [hq, List.take_of_length_le (by omega)]; rfl).trans (Eq.symm ((of_no hb19).trans ((of_no hb27).trans ((of_no hb44).trans ((of_no hb73).trans (qfq hb91))))))) (O.own (i := 1) rfl) hco O.below)
 refine s_cf M (s_fs1 ?_)
 refine fp M 2 0 [(109, .bool ((nm).toList == ((ByteArray.mk #[116, 97, 115, 107, 115])).toList))] fun a M => s_d0 ?_
 rcases M.tf 109 rfl with ⟨hb109, M⟩ | ⟨hb109, M⟩
 ·
  refine s_ct M (s_fs1 ?_)
  refine fp M 2 0 [(112, vP g6 5), (111, .slice none 0 0)] fun a M => s_fc M O 2 0 (v := .slice s.st.tA s.st.ts.length s.st.tc) fun a M => ?_
  refine s_fl M 3 fun a M => ?_
  refine fp M 1 4 [(115, vQ (IntKind.u64.wrap (s.st.ts.length : Int)))] fun a M => ?_
  replace M := M.sp 115 (vQ s.st.ts.length) rfl (qb0 rfl (by omega))
  refine fo M 5 rfl rfl (s_el M O zd [(0, vQ s.st.ts.length)] #[vQ s.st.ts.length] fun a w116 g116 M O => ?_)
  refine fo M 6 rfl rfl (qd M O (i := 2) rfl zd rfl rfl rfl (news := ([s.st.ts.length].map U64)) (O.rdBlk (i := 0) (n := 1) (size := 1) rfl rfl) (qal _) (by omega) (by omega) rfl (by decide) fun a w117 A117 c117 M O hc117 => ?_)
  refine fp M 1 7 [(5, .slice A117 (0 + 1) c117)] fun a M => s_d0 ?_
  have hnA117 : 0 + 1 = [s.st.ts.length].length := rfl
  replace O := O.reRow (i := 2) (ys := [s.st.ts.length].map U64) rfl hnA117 (rfl)
  rw [hnA117] at hc117
  replace M := M.sp 5 (.slice A117 ([s.st.ts.length].length) c117) rfl (by rw [hnA117])
  replace M := M.sp 117 (.slice A117 ([s.st.ts.length].length) c117) rfl (by rw [hnA117])
  refine s_fs1 ?_
  refine fp M 1 0 [(10, vI 0)] fun a M => s_d0 (wp_block ?_)
  refine qe (fun mS aS wS => ∃ (i : Nat) (q : List Nat) (Ao : Option Addr) (co : Nat), (i ≤ s.st.ts.length) ∧ (0 ≤ qp s.st.ts i ∧ qp s.st.ts i ≤ 65535) ∧ (q = [s.st.ts.length] ++ upF i fun i => tkN (qp s.st.ts i) (s.st.ts.getD i Tk.zero)) ∧ (q.length ≤ 8 * i + 1) ∧ (q.length ≤ co) ∧ mS = s.st.ts.length - i ∧ Fr aS 223 [] [(10, vI i), (117, .slice A117 ([s.st.ts.length].length) c117), (5, .slice Ao q.length co), (109, .bool true), (91, .bool false), (73, .bool false), (44, .bool false), (27, .bool false), (19, .bool false), (18, .string nm), (6, vP g6 0), (4, .slice none 0 0), (2, vP g2 0)] ∧ Mem w wS [.blk g116 #[vQ s.st.ts.length] 22, .blk g6 s.st.cells 30, .row (.slice Ao q.length co) q.length (q.map U64) 22 1, .blk g2 s.cells 56]) (m := s.st.ts.length - 0) ⟨0, [s.st.ts.length], A117, c117, Nat.zero_le _, by rw [ql7]; decide, by rw [qbj, List.append_nil], Nat.le_refl _, hc117, rfl, M.sub (by kernel_rfl), O.pk [0, 1, 2, 3]⟩ ?_
  clear M O; rintro mS a w_ ⟨i, q, Ao, co, hi, hp, hq, hql, hco, rfl, M, O⟩
  refine wp_seq (s_fs1 ?_)
  refine fp M 2 0 [(119, vP g6 5), (118, vI i)] fun a M => s_fc M O 2 1 (v := .slice s.st.tA s.st.ts.length s.st.tc) fun a M => ?_
  refine s_fl M 3 fun a M => ?_
  refine fp M 1 4 [(122, .bool (decide ((i : Int) < (s.st.ts.length : Int))))] fun a M => s_d0 ?_
  rcases M.tf 122 rfl with ⟨hb122, M⟩ | ⟨hb122, M⟩
  ·
   have hd122 := of_decide_eq_true hb122
   have hi122 : i < s.st.ts.length := by omega
   obtain ⟨t, ht⟩ : ∃ z, (s.st.ts.getD i Tk.zero) = z := ⟨_, rfl⟩
   have htid := tk_id (hsh.tk i hi122)
   rw [ht] at htid
   have hto := hok.ts _ (qr Tk.zero hi122)
   replace hto : Tk.Ok t := by rw [← ht]; exact hto
   have htr := hto.r
   refine s_ct M (wp_skip (wp_seq (wp_block (s_fs1 ?_))))
   refine fp M 1 0 [(125, vP g6 5)] fun a M => s_fc M O 1 1 (v := .slice s.st.tA s.st.ts.length s.st.tc) fun a M => ?_
   refine fp M 1 2 [(127, vI i)] fun a M => ?_
   obtain ⟨gq4, oq4, hq4, _⟩ := Rd.qi hx.t (Nat.lt_of_le_of_lt (Nat.zero_le _) (show i < s.st.ts.length from by omega)) (by decide)
   have hrq4 := hx.t; rw [hq4] at hrq4
   replace M := M.sp 126 (.slice (some ⟨gq4, oq4, none⟩) s.st.ts.length s.st.tc) rfl (by rw [hq4]; try rfl)
   refine s_fz M O 3 rfl (v := vP gq4 (oq4 + i * 8)) (Yl.ix gq4 oq4 i 8 rfl rfl rfl) fun a M => ?_
   refine s_fz M O 4 rfl (v := .agg ((s.st.ts.getD i Tk.zero).cells)) (Yl.qt rfl rfl si_tk rfl (fun _ h => (h.old hrq4).zf z7 ((getD_at Tk.zero hi122)))) fun a M => ?_
   replace M := M.sp 129 (.agg t.cells) rfl (by rw [ht])
   refine fo M 5 rfl rfl (s_ea M O #[vI 0, vI 0, vI 0, vI 0, vQ 0, .bool false, vQ 0, vW 0] fun a w11 g11 M O => ?_)
   refine fo M 6 rfl rfl (e_sa M O 0 rfl rfl rfl rfl rfl si_tk rfl rfl (qkc t) fun w28_6 O => ?_)
   refine s_d0 (s_fs1 ?_)
   refine fp M 1 0 [(130, vP g11 0)] fun a M => s_fc M O 1 0 (v := vI t.id) fun a M => ?_
   refine fp M 1 2 [(12, vI t.id)] fun a M => s_d0 (wp_seq (s_fs1 ?_))
   refine fp M 2 0 [(133, .bool (decide ((i : Int) > (0 : Int))))] fun a M => s_d0 ?_
   rcases M.tf 133 rfl with ⟨hb133, M⟩ | ⟨hb133, M⟩
   ·
    have hd133 := of_decide_eq_true hb133
    have hpp := qpt (l := s.st.ts) (show 0 < i by omega)
    refine s_ct M (qa ?_)
    refine fp M 2 0 [(135, vP g6 5), (134, vI t.id)] fun a M => s_fc M O 2 2 (v := .slice s.st.tA s.st.ts.length s.st.tc) fun a M => ?_
    refine fp M 2 3 [(138, vI (IntKind.i64.wrap ((i : Int) - 1)))] fun a M => ?_
    replace M := M.sp 138 (vI (i - 1 : Nat)) rfl (qc (by omega) (by omega))
    replace M := M.sp 136 (.slice (some ⟨gq4, oq4, none⟩) s.st.ts.length s.st.tc) rfl (by rw [hq4]; try rfl)
    refine s_fz M O 5 rfl (v := vP gq4 (oq4 + (i - 1) * 8)) (Yl.ix gq4 oq4 (i - 1) 8 rfl rfl rfl) fun a M => ?_
    refine fp M 1 6 [(140, vP gq4 (oq4 + (i - 1) * 8))] fun a M => s_fz M O 7 rfl (v := vI ((s.st.ts.getD (i - 1) Tk.zero).id)) (Yl.qk rfl rfl (by kernel_rfl) (fun _ h => (by have := (h.old hrq4).partAt z7 (k := (i - 1)) (j := 0) (x := (s.st.ts.getD (i - 1) Tk.zero)) ((getD_at Tk.zero (by omega))) rfl; simpa using this))) fun a M => ?_
    refine fp M 1 8 [(142, vI (IntKind.i64.wrap (t.id - ((s.st.ts.getD (i - 1) Tk.zero).id))))] fun a M => ?_
    replace M := M.sp 142 (vI (t.id - qp s.st.ts i)) rfl (by rw [hpp]; exact qqz ⟨by omega, by omega⟩)
    refine fp M 1 9 [(12, vI (t.id - qp s.st.ts i))] fun a M => s_d0 (s_fs1 ?_)
    refine fp M 1 0 [(13, vQ 0)] fun a M => s_d0 (wp_seq (s_fs1 ?_))
    refine fp M 1 0 [(143, vP g11 5)] fun a M => s_fc M O 1 0 (v := .bool t.ready) fun a M => ?_
    refine s_d0 ?_
    rcases M.tf 144 rfl with ⟨hb144, M⟩ | ⟨hb144, M⟩
    ·
     refine s_ct M (qa ?_)
     refine fp M 1 0 [(13, vQ 1)] fun a M => s_d0 (qa ?_)
     refine fp M 3 0 [(147, vQ (IntKind.u64.wrap (t.id - qp s.st.ts i))), (145, .slice Ao q.length co)] fun a M => ?_
     replace M := M.sp 147 (vQ (toU (t.id - qp s.st.ts i))) rfl (zo _)
     refine fp M 1 3 [(148, vP g11 1)] fun a M => s_fc M O 4 0 (v := vI t.group) fun a M => ?_
     refine fp M 1 5 [(150, vQ (IntKind.u64.wrap t.group))] fun a M => ?_
     replace M := M.sp 150 (vQ (toU t.group)) rfl (zo _)
     refine fp M 1 6 [(151, vP g11 2)] fun a M => s_fc M O 7 0 (v := vI t.weight) fun a M => ?_
     refine fp M 1 8 [(153, vQ (IntKind.u64.wrap t.weight))] fun a M => ?_
     replace M := M.sp 153 (vQ (toU t.weight)) rfl (zo _)
     refine fp M 1 9 [(154, vP g11 3)] fun a M => s_fc M O 10 0 (v := vI t.cpu) fun a M => ?_
     refine fp M 1 11 [(156, vQ (IntKind.u64.wrap t.cpu))] fun a M => ?_
     replace M := M.sp 156 (vQ (toU t.cpu)) rfl (zo _)
     refine fp M 1 12 [(157, vP g11 4)] fun a M => s_fc M O 13 0 (v := vQ t.mask) fun a M => ?_
     refine fp M 2 14 [(160, vP g11 6), (159, vQ 1)] fun a M => s_fc M O 16 0 (v := vQ t.v) fun a M => ?_
     refine fp M 1 17 [(162, vP g11 7)] fun a M => s_fc M O 18 0 (v := vW t.r) fun a M => ?_
     refine fp M 1 19 [(164, vQ (IntKind.u64.wrap (t.r : Int)))] fun a M => ?_
     replace M := M.sp 164 (vQ t.r) rfl (qb0 rfl (by omega))
     refine fo M 20 rfl rfl (s_el M O zd [(0, vQ (toU (t.id - qp s.st.ts i))), (1, vQ (toU t.group)), (2, vQ (toU t.weight)), (3, vQ (toU t.cpu)), (4, vQ t.mask), (5, vQ 1), (6, vQ t.v), (7, vQ t.r)] #[vQ (toU (t.id - qp s.st.ts i)), vQ (toU t.group), vQ (toU t.weight), vQ (toU t.cpu), vQ t.mask, vQ 1, vQ t.v, vQ t.r] fun a w165 g165 M O => ?_)
     refine fo M 21 rfl rfl (qd M O (i := 4) rfl zd rfl rfl rfl (news := ([toU (t.id - qp s.st.ts i), toU t.group, toU t.weight, toU t.cpu, t.mask, 1, t.v, t.r].map U64)) (O.rdBlk (i := 0) (n := 8) (size := 1) rfl rfl) (qal _) (by omega) (by omega) rfl (by decide) fun a w166 A166 c166 M O hc166 => ?_)
     refine fp M 1 22 [(5, .slice A166 (q.length + 8) c166)] fun a M => s_d0 ?_
     replace M := M.to [(5, .slice A166 (q.length + 8) c166), (13, vQ 1), (144, .bool true), (12, vI (t.id - qp s.st.ts i)), (133, .bool true), (11, vP g11 0), (122, .bool true), (10, vI i), (117, .slice A117 ([s.st.ts.length].length) c117), (109, .bool true), (91, .bool false), (73, .bool false), (44, .bool false), (27, .bool false), (19, .bool false), (18, .string nm), (6, vP g6 0), (4, .slice none 0 0), (2, vP g2 0)]
     have hnA166 : q.length + 8 = (q ++ [toU (t.id - qp s.st.ts i), toU t.group, toU t.weight, toU t.cpu, t.mask, 1, t.v, t.r]).length := qs rfl
     replace O := O.reRow (i := 4) (ys := (q ++ [toU (t.id - qp s.st.ts i), toU t.group, toU t.weight, toU t.cpu, t.mask, 1, t.v, t.r]).map U64) rfl hnA166 (List.map_append.symm)
     rw [hnA166] at hc166
     replace M := M.sp 5 (.slice A166 ((q ++ [toU (t.id - qp s.st.ts i), toU t.group, toU t.weight, toU t.cpu, t.mask, 1, t.v, t.r]).length) c166) rfl (by rw [hnA166])
     refine qa ?_
     refine fp M 2 0 [(124, vI (IntKind.i64.wrap ((i : Int) + 1)))] fun a M => ?_
     replace M := M.sp 124 (vI (i + 1 : Nat)) rfl (qc (by omega) (by omega))
     refine fp M 1 2 [(10, vI (i + 1 : Nat))] fun a M => s_d0 ?_
     exact ⟨_, (by omega), i + 1, (q ++ [toU (t.id - qp s.st.ts i), toU t.group, toU t.weight, toU t.cpu, t.mask, 1, t.v, t.r]), A166, c166, by omega, by rw [qam, ht]; omega, by rw [hq, qm, ht, List.append_assoc]; unfold tkN; rw [hb144]; rfl, by rw [List.length_append, show [toU (t.id - qp s.st.ts i), toU t.group, toU t.weight, toU t.cpu, t.mask, 1, t.v, t.r].length = 8 from rfl]; omega, hc166, rfl, M.sub (by kernel_rfl), O.pk [2, 3, 4, 5]⟩
    refine s_cf M (wp_skip (qa ?_))
    refine fp M 3 0 [(147, vQ (IntKind.u64.wrap (t.id - qp s.st.ts i))), (145, .slice Ao q.length co)] fun a M => ?_
    replace M := M.sp 147 (vQ (toU (t.id - qp s.st.ts i))) rfl (zo _)
    refine fp M 1 3 [(148, vP g11 1)] fun a M => s_fc M O 4 0 (v := vI t.group) fun a M => ?_
    refine fp M 1 5 [(150, vQ (IntKind.u64.wrap t.group))] fun a M => ?_
    replace M := M.sp 150 (vQ (toU t.group)) rfl (zo _)
    refine fp M 1 6 [(151, vP g11 2)] fun a M => s_fc M O 7 0 (v := vI t.weight) fun a M => ?_
    refine fp M 1 8 [(153, vQ (IntKind.u64.wrap t.weight))] fun a M => ?_
    replace M := M.sp 153 (vQ (toU t.weight)) rfl (zo _)
    refine fp M 1 9 [(154, vP g11 3)] fun a M => s_fc M O 10 0 (v := vI t.cpu) fun a M => ?_
    refine fp M 1 11 [(156, vQ (IntKind.u64.wrap t.cpu))] fun a M => ?_
    replace M := M.sp 156 (vQ (toU t.cpu)) rfl (zo _)
    refine fp M 1 12 [(157, vP g11 4)] fun a M => s_fc M O 13 0 (v := vQ t.mask) fun a M => ?_
    refine fp M 2 14 [(160, vP g11 6), (159, vQ 0)] fun a M => s_fc M O 16 0 (v := vQ t.v) fun a M => ?_
    refine fp M 1 17 [(162, vP g11 7)] fun a M => s_fc M O 18 0 (v := vW t.r) fun a M => ?_
    refine fp M 1 19 [(164, vQ (IntKind.u64.wrap (t.r : Int)))] fun a M => ?_
    replace M := M.sp 164 (vQ t.r) rfl (qb0 rfl (by omega))
    refine fo M 20 rfl rfl (s_el M O zd [(0, vQ (toU (t.id - qp s.st.ts i))), (1, vQ (toU t.group)), (2, vQ (toU t.weight)), (3, vQ (toU t.cpu)), (4, vQ t.mask), (5, vQ 0), (6, vQ t.v), (7, vQ t.r)] #[vQ (toU (t.id - qp s.st.ts i)), vQ (toU t.group), vQ (toU t.weight), vQ (toU t.cpu), vQ t.mask, vQ 0, vQ t.v, vQ t.r] fun a w165 g165 M O => ?_)
    refine fo M 21 rfl rfl (qd M O (i := 4) rfl zd rfl rfl rfl (news := ([toU (t.id - qp s.st.ts i), toU t.group, toU t.weight, toU t.cpu, t.mask, 0, t.v, t.r].map U64)) (O.rdBlk (i := 0) (n := 8) (size := 1) rfl rfl) (qal _) (by omega) (by omega) rfl (by decide) fun a w166 A166 c166 M O hc166 => ?_)
    refine fp M 1 22 [(5, .slice A166 (q.length + 8) c166)] fun a M => s_d0 ?_
    replace M := M.to [(5, .slice A166 (q.length + 8) c166), (144, .bool false), (13, vQ 0), (12, vI (t.id - qp s.st.ts i)), (133, .bool true), (11, vP g11 0), (122, .bool true), (10, vI i), (117, .slice A117 ([s.st.ts.length].length) c117), (109, .bool true), (91, .bool false), (73, .bool false), (44, .bool false), (27, .bool false), (19, .bool false), (18, .string nm), (6, vP g6 0), (4, .slice none 0 0), (2, vP g2 0)]
    have hnA166 : q.length + 8 = (q ++ [toU (t.id - qp s.st.ts i), toU t.group, toU t.weight, toU t.cpu, t.mask, 0, t.v, t.r]).length := qs rfl
    replace O := O.reRow (i := 4) (ys := (q ++ [toU (t.id - qp s.st.ts i), toU t.group, toU t.weight, toU t.cpu, t.mask, 0, t.v, t.r]).map U64) rfl hnA166 (List.map_append.symm)
    rw [hnA166] at hc166
    replace M := M.sp 5 (.slice A166 ((q ++ [toU (t.id - qp s.st.ts i), toU t.group, toU t.weight, toU t.cpu, t.mask, 0, t.v, t.r]).length) c166) rfl (by rw [hnA166])
    refine qa ?_
    refine fp M 2 0 [(124, vI (IntKind.i64.wrap ((i : Int) + 1)))] fun a M => ?_
    replace M := M.sp 124 (vI (i + 1 : Nat)) rfl (qc (by omega) (by omega))
    refine fp M 1 2 [(10, vI (i + 1 : Nat))] fun a M => s_d0 ?_
    exact ⟨_, (by omega), i + 1, (q ++ [toU (t.id - qp s.st.ts i), toU t.group, toU t.weight, toU t.cpu, t.mask, 0, t.v, t.r]), A166, c166, by omega, by rw [qam, ht]; omega, by rw [hq, qm, ht, List.append_assoc]; unfold tkN; rw [hb144]; rfl, by rw [List.length_append, show [toU (t.id - qp s.st.ts i), toU t.group, toU t.weight, toU t.cpu, t.mask, 0, t.v, t.r].length = 8 from rfl]; omega, hc166, rfl, M.sub (by kernel_rfl), O.pk [2, 3, 4, 5]⟩
   have hd133 := of_decide_eq_false hb133
   replace M := M.sp 12 (vI (t.id - qp s.st.ts i)) rfl (by rw [qth (by omega), Int.sub_zero])
   refine s_cf M (wp_skip (s_fs1 ?_))
   refine fp M 1 0 [(13, vQ 0)] fun a M => s_d0 (wp_seq (s_fs1 ?_))
   refine fp M 1 0 [(143, vP g11 5)] fun a M => s_fc M O 1 0 (v := .bool t.ready) fun a M => ?_
   refine s_d0 ?_
   rcases M.tf 144 rfl with ⟨hb144, M⟩ | ⟨hb144, M⟩
   ·
    refine s_ct M (qa ?_)
    refine fp M 1 0 [(13, vQ 1)] fun a M => s_d0 (qa ?_)
    refine fp M 3 0 [(147, vQ (IntKind.u64.wrap (t.id - qp s.st.ts i))), (145, .slice Ao q.length co)] fun a M => ?_
    replace M := M.sp 147 (vQ (toU (t.id - qp s.st.ts i))) rfl (zo _)
    refine fp M 1 3 [(148, vP g11 1)] fun a M => s_fc M O 4 0 (v := vI t.group) fun a M => ?_
    refine fp M 1 5 [(150, vQ (IntKind.u64.wrap t.group))] fun a M => ?_
    replace M := M.sp 150 (vQ (toU t.group)) rfl (zo _)
    refine fp M 1 6 [(151, vP g11 2)] fun a M => s_fc M O 7 0 (v := vI t.weight) fun a M => ?_
    refine fp M 1 8 [(153, vQ (IntKind.u64.wrap t.weight))] fun a M => ?_
    replace M := M.sp 153 (vQ (toU t.weight)) rfl (zo _)
    refine fp M 1 9 [(154, vP g11 3)] fun a M => s_fc M O 10 0 (v := vI t.cpu) fun a M => ?_
    refine fp M 1 11 [(156, vQ (IntKind.u64.wrap t.cpu))] fun a M => ?_
    replace M := M.sp 156 (vQ (toU t.cpu)) rfl (zo _)
    refine fp M 1 12 [(157, vP g11 4)] fun a M => s_fc M O 13 0 (v := vQ t.mask) fun a M => ?_
    refine fp M 2 14 [(160, vP g11 6), (159, vQ 1)] fun a M => s_fc M O 16 0 (v := vQ t.v) fun a M => ?_
    refine fp M 1 17 [(162, vP g11 7)] fun a M => s_fc M O 18 0 (v := vW t.r) fun a M => ?_
    refine fp M 1 19 [(164, vQ (IntKind.u64.wrap (t.r : Int)))] fun a M => ?_
    replace M := M.sp 164 (vQ t.r) rfl (qb0 rfl (by omega))
    refine fo M 20 rfl rfl (s_el M O zd [(0, vQ (toU (t.id - qp s.st.ts i))), (1, vQ (toU t.group)), (2, vQ (toU t.weight)), (3, vQ (toU t.cpu)), (4, vQ t.mask), (5, vQ 1), (6, vQ t.v), (7, vQ t.r)] #[vQ (toU (t.id - qp s.st.ts i)), vQ (toU t.group), vQ (toU t.weight), vQ (toU t.cpu), vQ t.mask, vQ 1, vQ t.v, vQ t.r] fun a w165 g165 M O => ?_)
    refine fo M 21 rfl rfl (qd M O (i := 4) rfl zd rfl rfl rfl (news := ([toU (t.id - qp s.st.ts i), toU t.group, toU t.weight, toU t.cpu, t.mask, 1, t.v, t.r].map U64)) (O.rdBlk (i := 0) (n := 8) (size := 1) rfl rfl) (qal _) (by omega) (by omega) rfl (by decide) fun a w166 A166 c166 M O hc166 => ?_)
    refine fp M 1 22 [(5, .slice A166 (q.length + 8) c166)] fun a M => s_d0 ?_
    replace M := M.to [(5, .slice A166 (q.length + 8) c166), (13, vQ 1), (144, .bool true), (12, vI (t.id - qp s.st.ts i)), (133, .bool false), (11, vP g11 0), (122, .bool true), (10, vI i), (117, .slice A117 ([s.st.ts.length].length) c117), (109, .bool true), (91, .bool false), (73, .bool false), (44, .bool false), (27, .bool false), (19, .bool false), (18, .string nm), (6, vP g6 0), (4, .slice none 0 0), (2, vP g2 0)]
    have hnA166 : q.length + 8 = (q ++ [toU (t.id - qp s.st.ts i), toU t.group, toU t.weight, toU t.cpu, t.mask, 1, t.v, t.r]).length := qs rfl
    replace O := O.reRow (i := 4) (ys := (q ++ [toU (t.id - qp s.st.ts i), toU t.group, toU t.weight, toU t.cpu, t.mask, 1, t.v, t.r]).map U64) rfl hnA166 (List.map_append.symm)
    rw [hnA166] at hc166
    replace M := M.sp 5 (.slice A166 ((q ++ [toU (t.id - qp s.st.ts i), toU t.group, toU t.weight, toU t.cpu, t.mask, 1, t.v, t.r]).length) c166) rfl (by rw [hnA166])
    refine qa ?_
    refine fp M 2 0 [(124, vI (IntKind.i64.wrap ((i : Int) + 1)))] fun a M => ?_
    replace M := M.sp 124 (vI (i + 1 : Nat)) rfl (qc (by omega) (by omega))
    refine fp M 1 2 [(10, vI (i + 1 : Nat))] fun a M => s_d0 ?_
    exact ⟨_, (by omega), i + 1, (q ++ [toU (t.id - qp s.st.ts i), toU t.group, toU t.weight, toU t.cpu, t.mask, 1, t.v, t.r]), A166, c166, by omega, by rw [qam, ht]; omega, by rw [hq, qm, ht, List.append_assoc]; unfold tkN; rw [hb144]; rfl, by rw [List.length_append, show [toU (t.id - qp s.st.ts i), toU t.group, toU t.weight, toU t.cpu, t.mask, 1, t.v, t.r].length = 8 from rfl]; omega, hc166, rfl, M.sub (by kernel_rfl), O.pk [2, 3, 4, 5]⟩
   refine s_cf M (wp_skip (qa ?_))
   refine fp M 3 0 [(147, vQ (IntKind.u64.wrap (t.id - qp s.st.ts i))), (145, .slice Ao q.length co)] fun a M => ?_
   replace M := M.sp 147 (vQ (toU (t.id - qp s.st.ts i))) rfl (zo _)
   refine fp M 1 3 [(148, vP g11 1)] fun a M => s_fc M O 4 0 (v := vI t.group) fun a M => ?_
   refine fp M 1 5 [(150, vQ (IntKind.u64.wrap t.group))] fun a M => ?_
   replace M := M.sp 150 (vQ (toU t.group)) rfl (zo _)
   refine fp M 1 6 [(151, vP g11 2)] fun a M => s_fc M O 7 0 (v := vI t.weight) fun a M => ?_
   refine fp M 1 8 [(153, vQ (IntKind.u64.wrap t.weight))] fun a M => ?_
   replace M := M.sp 153 (vQ (toU t.weight)) rfl (zo _)
   refine fp M 1 9 [(154, vP g11 3)] fun a M => s_fc M O 10 0 (v := vI t.cpu) fun a M => ?_
   refine fp M 1 11 [(156, vQ (IntKind.u64.wrap t.cpu))] fun a M => ?_
   replace M := M.sp 156 (vQ (toU t.cpu)) rfl (zo _)
   refine fp M 1 12 [(157, vP g11 4)] fun a M => s_fc M O 13 0 (v := vQ t.mask) fun a M => ?_
   refine fp M 2 14 [(160, vP g11 6), (159, vQ 0)] fun a M => s_fc M O 16 0 (v := vQ t.v) fun a M => ?_
   refine fp M 1 17 [(162, vP g11 7)] fun a M => s_fc M O 18 0 (v := vW t.r) fun a M => ?_
   refine fp M 1 19 [(164, vQ (IntKind.u64.wrap (t.r : Int)))] fun a M => ?_
   replace M := M.sp 164 (vQ t.r) rfl (qb0 rfl (by omega))
   refine fo M 20 rfl rfl (s_el M O zd [(0, vQ (toU (t.id - qp s.st.ts i))), (1, vQ (toU t.group)), (2, vQ (toU t.weight)), (3, vQ (toU t.cpu)), (4, vQ t.mask), (5, vQ 0), (6, vQ t.v), (7, vQ t.r)] #[vQ (toU (t.id - qp s.st.ts i)), vQ (toU t.group), vQ (toU t.weight), vQ (toU t.cpu), vQ t.mask, vQ 0, vQ t.v, vQ t.r] fun a w165 g165 M O => ?_)
   refine fo M 21 rfl rfl (qd M O (i := 4) rfl zd rfl rfl rfl (news := ([toU (t.id - qp s.st.ts i), toU t.group, toU t.weight, toU t.cpu, t.mask, 0, t.v, t.r].map U64)) (O.rdBlk (i := 0) (n := 8) (size := 1) rfl rfl) (qal _) (by omega) (by omega) rfl (by decide) fun a w166 A166 c166 M O hc166 => ?_)
   refine fp M 1 22 [(5, .slice A166 (q.length + 8) c166)] fun a M => s_d0 ?_
   replace M := M.to [(5, .slice A166 (q.length + 8) c166), (144, .bool false), (13, vQ 0), (12, vI (t.id - qp s.st.ts i)), (133, .bool false), (11, vP g11 0), (122, .bool true), (10, vI i), (117, .slice A117 ([s.st.ts.length].length) c117), (109, .bool true), (91, .bool false), (73, .bool false), (44, .bool false), (27, .bool false), (19, .bool false), (18, .string nm), (6, vP g6 0), (4, .slice none 0 0), (2, vP g2 0)]
   have hnA166 : q.length + 8 = (q ++ [toU (t.id - qp s.st.ts i), toU t.group, toU t.weight, toU t.cpu, t.mask, 0, t.v, t.r]).length := qs rfl
   replace O := O.reRow (i := 4) (ys := (q ++ [toU (t.id - qp s.st.ts i), toU t.group, toU t.weight, toU t.cpu, t.mask, 0, t.v, t.r]).map U64) rfl hnA166 (List.map_append.symm)
   rw [hnA166] at hc166
   replace M := M.sp 5 (.slice A166 ((q ++ [toU (t.id - qp s.st.ts i), toU t.group, toU t.weight, toU t.cpu, t.mask, 0, t.v, t.r]).length) c166) rfl (by rw [hnA166])
   refine qa ?_
   refine fp M 2 0 [(124, vI (IntKind.i64.wrap ((i : Int) + 1)))] fun a M => ?_
   replace M := M.sp 124 (vI (i + 1 : Nat)) rfl (qc (by omega) (by omega))
   refine fp M 1 2 [(10, vI (i + 1 : Nat))] fun a M => s_d0 ?_
   exact ⟨_, (by omega), i + 1, (q ++ [toU (t.id - qp s.st.ts i), toU t.group, toU t.weight, toU t.cpu, t.mask, 0, t.v, t.r]), A166, c166, by omega, by rw [qam, ht]; omega, by rw [hq, qm, ht, List.append_assoc]; unfold tkN; rw [hb144]; rfl, by rw [List.length_append, show [toU (t.id - qp s.st.ts i), toU t.group, toU t.weight, toU t.cpu, t.mask, 0, t.v, t.r].length = 8 from rfl]; omega, hc166, rfl, M.sub (by kernel_rfl), O.pk [2, 3, 4, 5]⟩
  have hd122 := of_decide_eq_false hb122
  refine s_cf M (wp_exit (s_fs1 ?_))
  refine fp M 2 0 [(4, .slice Ao q.length co)] fun a M => s_d0 (wp_ret ?_)
  exact s_rt1 rfl M rfl (qaq ((show _ = secN s 5 from by rw [hq, show i = s.st.ts.length by omega]; rfl).trans (Eq.symm ((of_no hb19).trans ((of_no hb27).trans ((of_no hb44).trans ((of_no hb73).trans ((of_no hb91).trans (qfq hb109)))))))) (O.own (i := 2) rfl) hco O.below)
 refine s_cf M (s_fs1 ?_)
 refine fp M 2 0 [(167, .bool ((nm).toList == ((ByteArray.mk #[115, 112, 111, 116, 115])).toList))] fun a M => s_d0 ?_
 rcases M.tf 167 rfl with ⟨hb167, M⟩ | ⟨hb167, M⟩
 ·
  refine s_ct M (s_fs1 ?_)
  refine fp M 1 0 [(14, vI 0)] fun a M => s_d0 (wp_block ?_)
  refine qe (fun mS aS wS => ∃ (g : Nat) (q : List Nat) (Ao : Option Addr) (co : Nat), (g ≤ s.st.rs.length) ∧ (q = upF g fun i => rwN i (s.st.rs.getD i Rw.zero).l) ∧ (q.length ≤ 192 * g) ∧ (q.length ≤ co) ∧ mS = s.st.rs.length - g ∧ Fr aS 223 [] [(14, vI g), (167, .bool true), (109, .bool false), (91, .bool false), (73, .bool false), (44, .bool false), (27, .bool false), (19, .bool false), (18, .string nm), (6, vP g6 0), (5, .slice Ao q.length co), (4, .slice none 0 0), (2, vP g2 0)] ∧ Mem w wS [.blk g6 s.st.cells 30, .row (.slice Ao q.length co) q.length (q.map U64) 22 1, .blk g2 s.cells 56]) (m := s.st.rs.length - 0) ⟨0, [], none, 0, Nat.zero_le _, rfl, Nat.le_refl _, Nat.le_refl _, rfl, M.sub (by kernel_rfl), O.pk [0, 1, 2]⟩ ?_
  clear M O; rintro mS a w_ ⟨g, q, Ao, co, hg, hq, hql, hco, rfl, M, O⟩
  refine wp_seq (s_fs1 ?_)
  refine fp M 2 0 [(170, vP g6 6), (169, vI g)] fun a M => s_fc M O 2 0 (v := .slice s.st.sA s.st.rs.length s.st.sc) fun a M => ?_
  refine s_fl M 3 fun a M => ?_
  refine fp M 1 4 [(173, .bool (decide ((g : Int) < (s.st.rs.length : Int))))] fun a M => s_d0 ?_
  rcases M.tf 173 rfl with ⟨hb173, M⟩ | ⟨hb173, M⟩
  ·
   have hd173 := of_decide_eq_true hb173
   have hg173 : g < s.st.rs.length := by omega
   obtain ⟨y, hy⟩ : ∃ z, s.st.rs.getD g Rw.zero = z := ⟨_, rfl⟩
   have hyr : Rd w w.heap.size 3 y.A y.l.length (y.l.flatMap spL) := by rw [← hy]; exact hx.row hg173
   have hyl : (y.l.length : Int) = s.st.cpus := by rw [← hy]; exact (qgw hg173 (hsh.row g hg173)).1
   have hyo : ∀ z ∈ y.l, z.Ok := by rw [← hy, ← rs_at hg173]; exact hok.sp _ (qr [] (by rw [qaz]; exact hg173))
   obtain ⟨gq5, oq5, hq5, _⟩ := Rd.qi hx.s (Nat.lt_of_le_of_lt (Nat.zero_le _) (show g < s.st.rs.length from hg173)) (by decide)
   have hrq5 := hx.s; rw [hq5] at hrq5
   refine s_ct M (wp_skip (wp_seq (wp_block (s_fs1 ?_))))
   refine fp M 1 0 [(15, vI 0)] fun a M => s_d0 (wp_block ?_)
   refine qe (fun mS aS wS => ∃ (c : Nat) (q : List Nat) (Ao : Option Addr) (co : Nat), (c ≤ y.l.length) ∧ (q = (upF g fun i => rwN i (s.st.rs.getD i Rw.zero).l) ++ upF c fun i => spN g (y.l.getD i Sp.zero)) ∧ (q.length ≤ 192 * g + 3 * c) ∧ (q.length ≤ co) ∧ mS = y.l.length - c ∧ Fr aS 223 [] [(15, vI c), (173, .bool true), (14, vI g), (167, .bool true), (109, .bool false), (91, .bool false), (73, .bool false), (44, .bool false), (27, .bool false), (19, .bool false), (18, .string nm), (6, vP g6 0), (5, .slice Ao q.length co), (4, .slice none 0 0), (2, vP g2 0)] ∧ Mem w wS [.blk g6 s.st.cells 30, .row (.slice Ao q.length co) q.length (q.map U64) 22 1, .blk g2 s.cells 56]) (m := y.l.length - 0) ⟨0, q, Ao, co, Nat.zero_le _, by rw [hq, qbj, List.append_nil], by omega, hco, rfl, M.sub (by kernel_rfl), O.pk [0, 1, 2]⟩ ?_
   clear M O; rintro mS a w_ ⟨c, q, Ao, co, hc, hq, hql, hco, rfl, M, O⟩
   refine wp_seq (s_fs1 ?_)
   refine fp M 2 0 [(177, vP g6 6), (176, vI c)] fun a M => s_fc M O 2 0 (v := .slice s.st.sA s.st.rs.length s.st.sc) fun a M => ?_
   refine fp M 1 3 [(179, vI g)] fun a M => ?_
   replace M := M.sp 178 (.slice (some ⟨gq5, oq5, none⟩) s.st.rs.length s.st.sc) rfl (by rw [hq5]; try rfl)
   refine s_fz M O 4 rfl (v := vP gq5 (oq5 + g * 1)) (Yl.ix gq5 oq5 g 1 rfl rfl rfl) fun a M => ?_
   refine s_fz M O 5 rfl (v := .slice ((s.st.rs.getD g Rw.zero).A) ((s.st.rs.getD g Rw.zero).l.length) ((s.st.rs.getD g Rw.zero).c)) (Yl.o1 hrq5 g Rw.zero hg173 rfl rfl) fun a M => ?_
   replace M := M.sp 181 (.slice y.A y.l.length y.c) rfl (by rw [hy])
   refine s_fl M 6 fun a M => ?_
   refine fp M 1 7 [(183, .bool (decide ((c : Int) < (y.l.length : Int))))] fun a M => s_d0 ?_
   rcases M.tf 183 rfl with ⟨hb183, M⟩ | ⟨hb183, M⟩
   ·
    have hd183 := of_decide_eq_true hb183
    have hc183 : c < y.l.length := by omega
    have hzo := hyo _ (qr Sp.zero hc183)
    have hzv := hzo.v; have hzr := hzo.r
    obtain ⟨gq6, oq6, hq6, _⟩ := Rd.qi hyr (Nat.lt_of_le_of_lt (Nat.zero_le _) (show c < y.l.length from hc183)) (by decide)
    have hrq6 := hyr; rw [hq6] at hrq6
    refine s_ct M (wp_skip (wp_seq (wp_block (wp_seq (s_fs1 ?_)))))
    refine fp M 2 0 [(187, .bool (decide ((g : Int) > (0 : Int))))] fun a M => s_d0 ?_
    rcases M.tf 187 rfl with ⟨hb187, M⟩ | ⟨hb187, M⟩
    ·
     have hd187 := of_decide_eq_true hb187
     refine s_ct M ?_
     refine qz O [.blk g6 s.st.cells 30, .blk g2 s.cells 56] [0, 2] [] fun O Z => ?_
     refine ap M (fun _ => Z) [0, 1, 3, 6, 10, 12, 15] (bf 23 [0, 1, 3, 6, 10, 12, 15]) [(203, vI c), (200, vI g), (198, vP g6 6), (194, vI c), (191, vI g), (189, vP g6 6), (188, .slice Ao q.length co)] fun a M => ?_
     refine s_ac M Z 2 0 (v := .slice s.st.sA s.st.rs.length s.st.sc) fun a M => ?_
     replace M := M.sp 190 (.slice (some ⟨gq5, oq5, none⟩) s.st.rs.length s.st.sc) rfl (by rw [hq5]; try rfl)
     refine s_az M Z 4 rfl (v := vP gq5 (oq5 + g * 1)) (Yl.ix gq5 oq5 g 1 rfl rfl rfl) fun a M => ?_
     refine s_az M Z 5 rfl (v := .slice ((s.st.rs.getD g Rw.zero).A) ((s.st.rs.getD g Rw.zero).l.length) ((s.st.rs.getD g Rw.zero).c)) (Yl.o1 hrq5 g Rw.zero hg173 rfl rfl) fun a M => ?_
     replace M := M.sp 193 (.slice y.A y.l.length y.c) rfl (by rw [hy])
     replace M := M.sp 193 (.slice (some ⟨gq6, oq6, none⟩) y.l.length y.c) rfl (by rw [hq6]; try rfl)
     refine s_az M Z 7 rfl (v := vP gq6 (oq6 + c * 3)) (Yl.ix gq6 oq6 c 3 rfl rfl rfl) fun a M => ?_
     refine ap M (fun _ => Z) [8] (bt 23 [9, 11, 13, 14, 16, 17, 18, 19, 20, 21, 22]) [(196, vP gq6 (oq6 + c * 3))] fun a M => ?_
     refine s_az M Z 9 rfl (v := vQ ((y.l.getD c Sp.zero).v)) (Yl.qk rfl rfl (by kernel_rfl) (fun _ h => (by have := (h.old hrq6).partAt qau (k := c) (j := 0) (x := (y.l.getD c Sp.zero)) ((getD_at Sp.zero hc183)) rfl; simpa using this))) fun a M => ?_
     refine s_ac M Z 11 0 (v := .slice s.st.sA s.st.rs.length s.st.sc) fun a M => ?_
     replace M := M.sp 199 (.slice (some ⟨gq5, oq5, none⟩) s.st.rs.length s.st.sc) rfl (by rw [hq5]; try rfl)
     refine s_az M Z 13 rfl (v := vP gq5 (oq5 + g * 1)) (Yl.ix gq5 oq5 g 1 rfl rfl rfl) fun a M => ?_
     refine s_az M Z 14 rfl (v := .slice ((s.st.rs.getD g Rw.zero).A) ((s.st.rs.getD g Rw.zero).l.length) ((s.st.rs.getD g Rw.zero).c)) (Yl.o1 hrq5 g Rw.zero hg173 rfl rfl) fun a M => ?_
     replace M := M.sp 202 (.slice y.A y.l.length y.c) rfl (by rw [hy])
     replace M := M.sp 202 (.slice (some ⟨gq6, oq6, none⟩) y.l.length y.c) rfl (by rw [hq6]; try rfl)
     refine s_az M Z 16 rfl (v := vP gq6 (oq6 + c * 3)) (Yl.ix gq6 oq6 c 3 rfl rfl rfl) fun a M => ?_
     refine ap M (fun _ => Z) [17] (bt 23 [18, 19, 20, 21, 22]) [(205, vP gq6 (oq6 + c * 3 + 1))] fun a M => ?_
     refine s_az M Z 18 rfl (v := vW ((y.l.getD c Sp.zero).r)) (Yl.qk rfl rfl (by kernel_rfl) (fun _ h => (h.old hrq6).partAt qau (k := c) (j := 1) (x := (y.l.getD c Sp.zero)) ((getD_at Sp.zero hc183)) rfl)) fun a M => ?_
     refine qg M (fun _ => Z) (i := 19) rfl rfl (d := 207) rfl (by decide) (by kernel_rfl) (fun _ _ _ h => h) (v := vQ (IntKind.u64.wrap ((y.l.getD c Sp.zero).r : Int))) (fun _ => Yl.pure (by kernel_rfl)) fun a M => ?_
     replace M := M.sp 207 (vQ ((y.l.getD c Sp.zero).r : Nat)) rfl (qb0 rfl (by omega))
     refine s_on M 20 rfl (s_el M O zd [(0, vQ ((y.l.getD c Sp.zero).v)), (1, vQ ((y.l.getD c Sp.zero).r : Nat))] #[vQ ((y.l.getD c Sp.zero).v), vQ ((y.l.getD c Sp.zero).r : Nat)] fun a w208 g208 M O => ?_)
     refine keepS (O.pk [1, 3]) (fun Z => ?_)
     refine s_on M 21 rfl (qd M O (i := 2) rfl zd rfl rfl rfl (news := ([(y.l.getD c Sp.zero).v, (y.l.getD c Sp.zero).r].map U64)) (O.rdBlk (i := 0) (n := 2) (size := 1) rfl rfl) (qal _) (by omega) (by omega) rfl (by decide) fun a w209 A209 c209 M O hc209 => ?_)
     refine keepS (O.pk [1, 3]) (fun Z => ?_)
     refine ap M (fun _ => Z) [22] (bt 23 []) [(5, .slice A209 (q.length + 2) c209)] fun a M => ?_
     refine qh (by kernel_rfl) ?_
     replace M := M.to [(5, .slice A209 (q.length + 2) c209), (187, .bool true), (183, .bool true), (15, vI c), (173, .bool true), (14, vI g), (167, .bool true), (109, .bool false), (91, .bool false), (73, .bool false), (44, .bool false), (27, .bool false), (19, .bool false), (18, .string nm), (6, vP g6 0), (4, .slice none 0 0), (2, vP g2 0)]
     have hnA209 : q.length + 2 = (q ++ [(y.l.getD c Sp.zero).v, (y.l.getD c Sp.zero).r]).length := qs rfl
     replace O := O.reRow (i := 2) (ys := (q ++ [(y.l.getD c Sp.zero).v, (y.l.getD c Sp.zero).r]).map U64) rfl hnA209 (List.map_append.symm)
     rw [hnA209] at hc209
     replace M := M.sp 5 (.slice A209 ((q ++ [(y.l.getD c Sp.zero).v, (y.l.getD c Sp.zero).r]).length) c209) rfl (by rw [hnA209])
     refine qa ?_
     refine fp M 2 0 [(211, vP g6 6), (210, .slice A209 ((q ++ [(y.l.getD c Sp.zero).v, (y.l.getD c Sp.zero).r]).length) c209)] fun a M => s_fc M O 2 1 (v := .slice s.st.sA s.st.rs.length s.st.sc) fun a M => ?_
     refine fp M 1 3 [(213, vI g)] fun a M => ?_
     replace M := M.sp 212 (.slice (some ⟨gq5, oq5, none⟩) s.st.rs.length s.st.sc) rfl (by rw [hq5]; try rfl)
     refine s_fz M O 4 rfl (v := vP gq5 (oq5 + g * 1)) (Yl.ix gq5 oq5 g 1 rfl rfl rfl) fun a M => ?_
     refine s_fz M O 5 rfl (v := .slice ((s.st.rs.getD g Rw.zero).A) ((s.st.rs.getD g Rw.zero).l.length) ((s.st.rs.getD g Rw.zero).c)) (Yl.o1 hrq5 g Rw.zero hg173 rfl rfl) fun a M => ?_
     replace M := M.sp 215 (.slice y.A y.l.length y.c) rfl (by rw [hy])
     refine fp M 1 6 [(216, vI c)] fun a M => ?_
     replace M := M.sp 215 (.slice (some ⟨gq6, oq6, none⟩) y.l.length y.c) rfl (by rw [hq6]; try rfl)
     refine s_fz M O 7 rfl (v := vP gq6 (oq6 + c * 3)) (Yl.ix gq6 oq6 c 3 rfl rfl rfl) fun a M => ?_
     refine fp M 1 8 [(218, vP gq6 (oq6 + c * 3 + 2))] fun a M => s_fz M O 9 rfl (v := vQ ((y.l.getD c Sp.zero).floor)) (Yl.qk rfl rfl (by kernel_rfl) (fun _ h => (h.old hrq6).partAt qau (k := c) (j := 2) (x := (y.l.getD c Sp.zero)) ((getD_at Sp.zero hc183)) rfl)) fun a M => ?_
     refine fo M 10 rfl rfl (s_el M O zd [(0, vQ ((y.l.getD c Sp.zero).floor))] #[vQ ((y.l.getD c Sp.zero).floor)] fun a w220 g220 M O => ?_)
     refine fo M 11 rfl rfl (qd M O (i := 3) rfl zd rfl rfl rfl (news := ([(y.l.getD c Sp.zero).floor].map U64)) (O.rdBlk (i := 0) (n := 1) (size := 1) rfl rfl) (qal _) (by omega) (by omega) rfl (by decide) fun a w221 A221 c221 M O hc221 => ?_)
     refine fp M 1 12 [(5, .slice A221 (((q ++ [(y.l.getD c Sp.zero).v, (y.l.getD c Sp.zero).r]).length) + 1) c221)] fun a M => s_d0 ?_
     have hnA221 : ((q ++ [(y.l.getD c Sp.zero).v, (y.l.getD c Sp.zero).r]).length) + 1 = ((q ++ [(y.l.getD c Sp.zero).v, (y.l.getD c Sp.zero).r]) ++ [(y.l.getD c Sp.zero).floor]).length := qs rfl
     replace O := O.reRow (i := 3) (ys := ((q ++ [(y.l.getD c Sp.zero).v, (y.l.getD c Sp.zero).r]) ++ [(y.l.getD c Sp.zero).floor]).map U64) rfl hnA221 (List.map_append.symm)
     rw [hnA221] at hc221
     replace M := M.sp 5 (.slice A221 (((q ++ [(y.l.getD c Sp.zero).v, (y.l.getD c Sp.zero).r]) ++ [(y.l.getD c Sp.zero).floor]).length) c221) rfl (by rw [hnA221])
     replace M := M.sp 221 (.slice A221 (((q ++ [(y.l.getD c Sp.zero).v, (y.l.getD c Sp.zero).r]) ++ [(y.l.getD c Sp.zero).floor]).length) c221) rfl (by rw [hnA221])
     refine qa ?_
     refine fp M 2 0 [(185, vI (IntKind.i64.wrap ((c : Int) + 1)))] fun a M => ?_
     replace M := M.sp 185 (vI (c + 1 : Nat)) rfl (qc (by omega) (by omega))
     refine fp M 1 2 [(15, vI (c + 1 : Nat))] fun a M => s_d0 ?_
     exact ⟨_, (by omega), c + 1, ((q ++ [(y.l.getD c Sp.zero).v, (y.l.getD c Sp.zero).r]) ++ [(y.l.getD c Sp.zero).floor]), A221, c221, by omega, by rw [hq, qm, qrx (by omega)]; simp only [List.append_assoc], by (simp only [List.length_append, List.length_cons, List.length_nil]; omega), hc221, rfl, M.sub (by kernel_rfl), O.pk [2, 3, 4]⟩
    have hd187 := of_decide_eq_false hb187
    refine s_cf M (wp_skip (qa ?_))
    refine fp M 2 0 [(211, vP g6 6), (210, .slice Ao q.length co)] fun a M => s_fc M O 2 0 (v := .slice s.st.sA s.st.rs.length s.st.sc) fun a M => ?_
    refine fp M 1 3 [(213, vI g)] fun a M => ?_
    replace M := M.sp 212 (.slice (some ⟨gq5, oq5, none⟩) s.st.rs.length s.st.sc) rfl (by rw [hq5]; try rfl)
    refine s_fz M O 4 rfl (v := vP gq5 (oq5 + g * 1)) (Yl.ix gq5 oq5 g 1 rfl rfl rfl) fun a M => ?_
    refine s_fz M O 5 rfl (v := .slice ((s.st.rs.getD g Rw.zero).A) ((s.st.rs.getD g Rw.zero).l.length) ((s.st.rs.getD g Rw.zero).c)) (Yl.o1 hrq5 g Rw.zero hg173 rfl rfl) fun a M => ?_
    replace M := M.sp 215 (.slice y.A y.l.length y.c) rfl (by rw [hy])
    refine fp M 1 6 [(216, vI c)] fun a M => ?_
    replace M := M.sp 215 (.slice (some ⟨gq6, oq6, none⟩) y.l.length y.c) rfl (by rw [hq6]; try rfl)
    refine s_fz M O 7 rfl (v := vP gq6 (oq6 + c * 3)) (Yl.ix gq6 oq6 c 3 rfl rfl rfl) fun a M => ?_
    refine fp M 1 8 [(218, vP gq6 (oq6 + c * 3 + 2))] fun a M => s_fz M O 9 rfl (v := vQ ((y.l.getD c Sp.zero).floor)) (Yl.qk rfl rfl (by kernel_rfl) (fun _ h => (h.old hrq6).partAt qau (k := c) (j := 2) (x := (y.l.getD c Sp.zero)) ((getD_at Sp.zero hc183)) rfl)) fun a M => ?_
    refine fo M 10 rfl rfl (s_el M O zd [(0, vQ ((y.l.getD c Sp.zero).floor))] #[vQ ((y.l.getD c Sp.zero).floor)] fun a w220 g220 M O => ?_)
    refine fo M 11 rfl rfl (qd M O (i := 2) rfl zd rfl rfl rfl (news := ([(y.l.getD c Sp.zero).floor].map U64)) (O.rdBlk (i := 0) (n := 1) (size := 1) rfl rfl) (qal _) (by omega) (by omega) rfl (by decide) fun a w221 A221 c221 M O hc221 => ?_)
    refine fp M 1 12 [(5, .slice A221 (q.length + 1) c221)] fun a M => s_d0 ?_
    have hnA221 : q.length + 1 = (q ++ [(y.l.getD c Sp.zero).floor]).length := qs rfl
    replace O := O.reRow (i := 2) (ys := (q ++ [(y.l.getD c Sp.zero).floor]).map U64) rfl hnA221 (List.map_append.symm)
    rw [hnA221] at hc221
    replace M := M.sp 5 (.slice A221 ((q ++ [(y.l.getD c Sp.zero).floor]).length) c221) rfl (by rw [hnA221])
    replace M := M.sp 221 (.slice A221 ((q ++ [(y.l.getD c Sp.zero).floor]).length) c221) rfl (by rw [hnA221])
    refine qa ?_
    refine fp M 2 0 [(185, vI (IntKind.i64.wrap ((c : Int) + 1)))] fun a M => ?_
    replace M := M.sp 185 (vI (c + 1 : Nat)) rfl (qc (by omega) (by omega))
    refine fp M 1 2 [(15, vI (c + 1 : Nat))] fun a M => s_d0 ?_
    exact ⟨_, (by omega), c + 1, (q ++ [(y.l.getD c Sp.zero).floor]), A221, c221, by omega, by rw [hq, qm, qnn (by omega), List.append_assoc], by (simp only [List.length_append, List.length_cons, List.length_nil]; omega), hc221, rfl, M.sub (by kernel_rfl), O.pk [1, 2, 3]⟩
   have hd183 := of_decide_eq_false hb183
   refine s_cf M (wp_exit (qa ?_))
   refine fp M 2 0 [(175, vI (IntKind.i64.wrap ((g : Int) + 1)))] fun a M => ?_
   replace M := M.sp 175 (vI (g + 1 : Nat)) rfl (qc (by omega) (by omega))
   refine fp M 1 2 [(14, vI (g + 1 : Nat))] fun a M => s_d0 ?_
   exact ⟨_, (by omega), g + 1, q, Ao, co, by omega, by rw [hq, show c = y.l.length by omega, qm, hy]; rfl, by omega, hco, rfl, M.sub (by kernel_rfl), O.pk [0, 1, 2]⟩
  have hd173 := of_decide_eq_false hb173
  refine s_cf M (wp_exit (s_fs1 ?_))
  refine fp M 2 0 [(4, .slice Ao q.length co)] fun a M => s_d0 (wp_ret ?_)
  exact s_rt1 rfl M rfl (qaq ((show _ = secN s 6 from by rw [hq, show g = s.st.rs.length by omega]; rfl).trans (Eq.symm ((of_no hb19).trans ((of_no hb27).trans ((of_no hb44).trans ((of_no hb73).trans ((of_no hb91).trans ((of_no hb109).trans (qfq hb167))))))))) (O.own (i := 1) rfl) hco O.below)
 refine s_cf M (wp_skip (s_fs1 ?_))
 refine fp M 2 0 [(4, .slice none 0 0)] fun a M => s_d0 (wp_ret ?_)
 exact s_rt1 rfl M rfl (qaq ((show _ = [] from rfl).trans (Eq.symm ((of_no hb19).trans ((of_no hb27).trans ((of_no hb44).trans ((of_no hb73).trans ((of_no hb91).trans ((of_no hb109).trans ((of_no hb167).trans (rfl)))))))))) (O.own (i := 1) rfl) (Nat.le_refl _) O.below)
theorem q2a (s : Snm) (hok : s.st.sta.Ok) (hf : StFew s.st) (hsh : ShAt s.st) (j : Nat) (w : World) (hx : StRd w s.st) : Calls Tryz.prog 55 #[.agg s.cells, .string (nmR j)] w (ql6 w (secR s j)) := q0a s hok hf hsh (nmR j) w hx
theorem q0k : SI Tryz.prog 83 3 := ⟨by kernel_rfl, by kernel_rfl⟩
theorem quc : EI Tryz.prog 76 83 (.agg #[.string (ByteArray.mk #[]), .int .i64 0, .int .i64 0]) 3 32 := ⟨by kernel_rfl, by kernel_rfl, rfl, by omega⟩
theorem qlm (s : Snm) (hok : s.st.sta.Ok) (hf : StFew s.st) (w : World) (hx : StRd w s.st) :
    Calls Tryz.prog 21 #[.agg s.cells] w (qg1 w (chkS s) (numsE s)) := by
 refine s_ce Tryz.func21 [.agg s.cells] [(0, .agg s.cells)] fun a M => ?_
 have O := Mem.start w
 refine s_fs1 ?_
 refine fo M 0 rfl rfl (s_eb M O s.cells fun a w1 g1 M O => ?_)
 refine fp M 2 1 [(3, vI 0), (2, .slice none 0 0)] fun a M => s_d0 (wp_seq (s_fs1 ?_))
 refine s_fz M O 0 rfl (v := .agg s.cells) (Yl.qt rfl rfl zn rfl (fun _ h => qf (h.blk (i := 0) rfl))) fun a M => ?_
 replace M := M.sp 8 (.agg s.cells) rfl (rfl)
 refine fo M 1 rfl rfl (e_is M O [.agg s.cells] (vI (chkS s)) rfl rfl (qp4 s hok hf _ (hx.old O)) fun w9 hbw O a M => ?_)
 refine fp M 1 2 [(4, vI (chkS s))] fun a M => s_d0 (s_fs1 ?_)
 refine fp M 2 0 [(11, .bool ((chkS s : Int) != (0 : Int)))] fun a M => s_d0 ?_
 rcases M.tf 11 rfl with ⟨hb11, M⟩ | ⟨hb11, M⟩
 ·
  have hd11 := bne_iff_ne.1 hb11
  refine s_ct M (s_fs1 ?_)
  refine fp M 3 0 [(3, vI (chkS s)), (2, .slice none 0 0)] fun a M => s_d0 (wp_ret ?_)
  exact s_rt2 rfl M rfl rfl (qib _ rfl (qvm (by omega)) O.below)
 have hd11 := bne_eq_false_iff_eq.1 hb11
 have hk0 : chkS s = 0 := by omega
 have hsh := qr4 hk0
 refine s_cf M (wp_skip (s_fs1 ?_))
 refine fp M 1 0 [(5, .slice none 0 0)] fun a M => s_d0 ?_
 replace O := O.nil 22 1
 refine s_fs1 ?_
 refine fo M 0 rfl rfl ?_
 refine e_cl M [] rfl rfl (qff _) ?_
 rintro _ w13 ⟨⟨g13, rfl, ho⟩, hbw⟩
 refine ⟨_, rfl, ?_⟩
 replace O := O.callRow hbw ho
 clear M; intro a M
 refine fp M 1 1 [(6, vS g13 9 9)] fun a M => s_d0 (wp_seq (s_fs1 ?_))
 refine fp M 1 0 [(7, vI 0)] fun a M => s_d0 (wp_block ?_)
 refine qe (fun mS aS wS => ∃ (j : Nat) (q : List Nat) (Ao : Option Addr) (co : Nat), (j ≤ 9) ∧ (q = upF j (secR s)) ∧ (q.length ≤ co) ∧ mS = 9 - j ∧ Fr aS 29 [] [(7, vI j), (6, vS g13 9 9), (5, .slice Ao q.length co), (11, .bool false), (4, vI (chkS s)), (3, vI 0), (2, .slice none 0 0), (1, vP g1 0)] ∧ Mem w wS [.row (vS g13 9 9) 9 (nameL.map StrC) 9 1, .row (.slice Ao q.length co) q.length (q.map U64) 22 1, .blk g1 s.cells 56]) (m := 9 - 0) ⟨0, [], none, 0, Nat.zero_le _, rfl, Nat.le_refl _, rfl, M.sub (by kernel_rfl), O.pk [0, 1, 2]⟩ ?_
 clear M O; rintro mS a w_ ⟨j, q, Ao, co, hj, hq, hco, rfl, M, O⟩
 refine wp_seq (s_fs1 ?_)
 refine fp M 2 0 [(15, vS g13 9 9), (14, vI j)] fun a M => s_fl M 2 fun a M => ?_
 refine fp M 1 3 [(17, .bool (decide ((j : Int) < (9 : Int))))] fun a M => s_d0 ?_
 rcases M.tf 17 rfl with ⟨hb17, M⟩ | ⟨hb17, M⟩
 ·
  have hd17 := of_decide_eq_true hb17
  have hj17 : j < 9 := by omega
  have hql : q.length ≤ 5400000 := by have := qtg hsh j (by omega); rw [← hq] at this; omega
  have hsl := qod hsh hj17
  refine s_ct M (wp_skip (wp_seq (wp_block ?_)))
  refine qz O [.row (vS g13 9 9) 9 (nameL.map StrC) 9 1, .blk g1 s.cells 56] [0, 2] [] fun O Z => ?_
  refine ap M (fun _ => Z) [0, 2, 3] (bf 9 [0, 2, 3]) [(23, vI j), (22, vS g13 9 9), (20, .slice Ao q.length co)] fun a M => ?_
  refine s_az M Z 1 rfl (v := .agg s.cells) (Yl.qt rfl rfl zn rfl (fun _ h => qf (h.blk (i := 1) rfl))) fun a M => ?_
  replace M := M.sp 21 (.agg s.cells) rfl (rfl)
  refine s_az M Z 4 rfl (v := vP g13 (j * 1)) (Yl.ix0 g13 j 1 rfl rfl rfl) fun a M => ?_
  refine s_az M Z 5 rfl (v := .string (nmR j)) (Yl.r1 0 j [] (show j < nameL.length from hj17) rfl rfl rfl) fun a M => ?_
  refine s_on M 6 rfl ?_
  refine s_ek M O [.agg s.cells, .string (nmR j)] (q2a s hok hf hsh j _ (hx.old O)) fun A26 c26 w26 hc26 O a M => ?_
  refine keepS (O.pk [1, 3]) (fun Z => ?_)
  refine s_on M 7 rfl (qd M O (i := 2) rfl zd rfl rfl rfl (news := ((secR s j).map U64)) (O.rd (i := 0) rfl) (qal _) (by omega) (by omega) rfl (by decide) fun a w27 A27 c27 M O hc27 => ?_)
  refine keepS (O.pk [1, 3]) (fun Z => ?_)
  refine ap M (fun _ => Z) [8] (bt 9 []) [(5, .slice A27 (q.length + ((secR s j).length)) c27)] fun a M => ?_
  refine qh (by kernel_rfl) ?_
  have hnA27 : q.length + ((secR s j).length) = (q ++ (secR s j)).length := qs rfl
  replace O := O.reRow (i := 2) (ys := (q ++ (secR s j)).map U64) rfl hnA27 (List.map_append.symm)
  rw [hnA27] at hc27
  replace M := M.sp 5 (.slice A27 ((q ++ (secR s j)).length) c27) rfl (by rw [hnA27])
  replace M := M.sp 27 (.slice A27 ((q ++ (secR s j)).length) c27) rfl (by rw [hnA27])
  refine qa ?_
  refine fp M 2 0 [(19, vI (IntKind.i64.wrap ((j : Int) + 1)))] fun a M => ?_
  replace M := M.sp 19 (vI (j + 1 : Nat)) rfl (qc (by omega) (by omega))
  refine fp M 1 2 [(7, vI (j + 1 : Nat))] fun a M => s_d0 ?_
  exact ⟨_, (by omega), j + 1, (q ++ (secR s j)), A27, c27, by omega, by rw [hq, qm], hc27, rfl, M.sub (by kernel_rfl), O.pk [1, 2, 3]⟩
 have hd17 := of_decide_eq_false hb17
 refine s_cf M (wp_exit (s_fs1 ?_))
 refine fp M 3 0 [(3, vI 0), (2, .slice Ao q.length co)] fun a M => s_d0 (wp_ret ?_)
 exact s_rt2 rfl M rfl rfl (qfa (er' := 0) hk0.symm (by rw [qeb hk0, ← numsR, hq, show j = 9 by omega]) (O.own (i := 1) rfl) hco O.below)
theorem qqf (s : Snm) (hok : s.st.sta.Ok) (hf : StFew s.st) (w : World) (hx : StRd w s.st) :
    Calls Tryz.prog 23 #[.agg s.cells] w (qlu w (chkS s) (outS s)) := by
 refine s_ce Tryz.func23 [.agg s.cells] [(0, .agg s.cells)] fun a M => ?_
 have O := Mem.start w
 refine s_fs1 ?_
 refine fo M 0 rfl rfl (s_eb M O s.cells fun a w1 g1 M O => ?_)
 refine fp M 2 1 [(3, vI 0), (2, .slice none 0 0)] fun a M => s_d0 (s_fs1 ?_)
 refine s_fz M O 0 rfl (v := .agg s.cells) (Yl.qt rfl rfl zn rfl (fun _ h => qf (h.blk (i := 0) rfl))) fun a M => ?_
 replace M := M.sp 7 (.agg s.cells) rfl (rfl)
 refine fo M 1 rfl rfl ?_
 refine s_ek M O [.agg s.cells] (qlm s hok hf _ (hx.old O)) fun A8 c8 w8 hc8 O a M => ?_
 refine fp M 5 2 [(5, vI (chkS s)), (4, .slice A8 ((numsE s).length) c8)] fun a M => s_d0 (wp_seq (s_fs1 ?_))
 refine fp M 2 0 [(12, .bool ((chkS s : Int) != (0 : Int)))] fun a M => s_d0 ?_
 rcases M.tf 12 rfl with ⟨hb12, M⟩ | ⟨hb12, M⟩
 ·
  have hd12 := bne_iff_ne.1 hb12
  refine s_ct M (s_fs1 ?_)
  refine fp M 3 0 [(3, vI (chkS s)), (2, .slice none 0 0)] fun a M => s_d0 (wp_ret ?_)
  exact s_rt2 rfl M rfl rfl (qpj _ rfl (qy7 (by omega)) O.below)
 have hd12 := bne_eq_false_iff_eq.1 hb12
 have hk0 : chkS s = 0 := by omega
 have hsh := qr4 hk0
 have hnl := qg0 hsh
 rw [← qeb hk0] at hnl
 have hbf := qvo hsh
 have hfl := qdl (numsE s)
 refine s_cf M (wp_skip (s_fs1 ?_))
 refine fo M 0 rfl rfl (s_el M O ei_u8 [(0, vB 113), (1, vB 115), (2, vB 1)] #[vB 113, vB 115, vB 1] fun a w14 g14 M O => ?_)
 refine fp M 1 1 [(15, .slice A8 ((numsE s).length) c8)] fun a M => fo M 2 rfl rfl ?_
 refine s_ek M O [.slice A8 ((numsE s).length) c8] (qp8 A8 ((numsE s).length) c8 (numsE s) _ (O.rd (i := 1) rfl) rfl (by rw [qeb hk0]; exact qnp hok hf) (by have := hnl; omega)) fun A16 c16 w16 hc16 O a M => ?_
 refine fo M 3 rfl rfl ?_
 replace O := O.blkRow (i := 1) (n := 3) (size := 1) rfl rfl (by decide)
 refine qd M O (i := 1) rfl ei_u8 rfl rfl rfl (news := (((numsE s).flatMap vbytes).map B8)) (O.rd (i := 0) rfl) (q0 _) (by omega) (by omega) rfl (by decide) fun a w17 A17 c17 M O hc17 => ?_
 have hnA17 : 3 + (((numsE s).flatMap vbytes).length) = (bodyS s).length := q1k hk0
 replace O := O.reRow (i := 1) (ys := (bodyS s).map B8) rfl hnA17 (qpk hk0)
 rw [hnA17] at hc17
 replace M := M.sp 17 (.slice A17 ((bodyS s).length) c17) rfl (by rw [hnA17])
 refine fo M 4 rfl rfl ?_
 refine s_ek M O [.slice A17 ((bodyS s).length) c17] (qv A17 ((bodyS s).length) c17 (bodyS s) _ (O.rd (i := 1) rfl) rfl (by omega) (qr2 s)) fun A18 c18 w18 hc18 O a M => ?_
 refine fp M 2 5 [(3, vI 0), (2, .slice A18 ((sealL (bodyS s)).length) c18)] fun a M => s_d0 (wp_ret ?_)
 exact s_rt2 rfl M rfl rfl (qpl (er' := 0) hk0.symm (qmc hk0).symm (O.own (i := 0) rfl) hc18 O.below)
theorem qqi (s : Snm) (w : World) (hx : StRd w s.st) (hf : StFew s.st) :
    Calls Tryz.prog 19 #[.agg s.cells] w (qxq w s) := by
 refine s_ce Tryz.func19 [.agg s.cells] [(0, .agg s.cells)] fun a M => ?_
 have O := Mem.start w
 refine s_fs1 ?_
 refine fo M 0 rfl rfl (s_eb M O s.cells fun a w1 g1 M O => ?_)
 refine fo M 1 rfl rfl (s_ea M O #[vI 0, vI 0, vQ 0, .slice none 0 0, .slice none 0 0, .slice none 0 0, .slice none 0 0, .slice none 0 0] fun a w2 g2 M O => ?_)
 refine s_d0 (wp_seq ?_)
 refine qz O [.blk g2 #[vI 0, vI 0, vQ 0, .slice none 0 0, .slice none 0 0, .slice none 0 0, .slice none 0 0, .slice none 0 0] 56, .blk g1 s.cells 32] [0, 1] [6] fun O Z => ?_
 refine ap M (fun _ => Z) [0, 2] (bf 7 [0, 2]) [(5, vP g1 1), (3, vP g1 0)] fun a M => ?_
 refine s_ac M Z 1 1 (v := vI s.next) fun a M => ?_
 refine s_az M Z 3 rfl (v := .agg #[vI s.st.cpus, vQ s.st.credit, .slice s.st.gA s.st.gs.length s.st.gc, .slice s.st.lA s.st.cl.length s.st.lc, .slice s.st.uA s.st.cu.length s.st.uc, .slice s.st.tA s.st.ts.length s.st.tc, .slice s.st.sA s.st.rs.length s.st.sc]) (Yl.qt rfl rfl si_st rfl (fun _ h => h.sub (i := 1) rfl 1 rfl)) fun a M => ?_
 replace M := M.sp 6 (.agg s.st.cells) rfl (rfl)
 refine s_on M 4 rfl ?_
 refine e_cl M [.agg s.st.cells] rfl rfl (qjt s.st _ (hx.old O) hf) ?_
 rintro _ w7 ⟨y, rfl, heq, hcap, hm⟩
 refine ⟨_, rfl, ?_⟩
 replace O := (show Mem w _ (.blk g2 #[vI 0, vI 0, vQ 0, .slice none 0 0, .slice none 0 0, .slice none 0 0, .slice none 0 0, .slice none 0 0] 56 :: .blk g1 s.cells 32 :: stF y) from O.joinT hm)
 clear M; intro a M
 refine keepS (O.pk [0, 1]) (fun Z => ?_)
 refine s_az M Z 5 rfl (v := .agg #[vI s.next, vI y.cpus, vQ y.credit, .slice y.gA y.gs.length y.gc, .slice y.lA y.cl.length y.lc, .slice y.uA y.cu.length y.uc, .slice y.tA y.ts.length y.tc, .slice y.sA y.rs.length y.sc]) (Yl.build (vs := [(0, vI s.next), (1, .agg y.cells)]) rfl (by kernel_rfl) (by kernel_rfl)) fun a M => ?_
 refine s_on M 6 rfl (e_sa M O 0 rfl rfl rfl rfl rfl zn rfl rfl (by simp [Value.oneCell']) fun w1_6 O => ?_)
 refine noS (by kernel_rfl) ?_
 refine qh (by kernel_rfl) ?_
 refine wp_ret ?_
 exact ret1 rfl M (.cellS (i := 0) M O rfl rfl zn rfl) (⟨⟨s.next, y⟩, rfl, sn_of rfl heq, hcap, O.pt 2 []⟩)
theorem qqj (a x y : Snm) (h : SnEq a x) (k : SnEq a y) (hf : StFew a.st) (w : World) (hx : StRd w x.st) (hy : StRd w y.st) : Calls Tryz.prog 32 #[.agg x.cells, .agg y.cells] w (Is w (.bool true)) := by
 have h1 := qui x y w hx hy (qie (qcw h) hf) (qie (qcw k) hf)
 rwa [decide_eq_true (qid (qr8 h) k)] at h1
theorem qqk (A : Option Addr) (c : Nat) (l : List Nat) (D : Option Addr) (c2 : Nat) (w : World) (hr : Rd w w.heap.size 1 A l.length (l.map U64)) (hr2 : Rd w w.heap.size 1 D l.length (l.map U64)) (hn : l.length ≤ 1000000) : Calls Tryz.prog 30 #[.slice A l.length c, .slice D l.length c2] w (Is w (.bool true)) := by
 have h1 := quh A c l D c2 l w hr hr2 hn hn
 rwa [decide_eq_true rfl] at h1
def readN : Nat → List Nat → List Nat × Nat × Nat
 | 0, _ => ([], 0, 0)
 | k + 1, l =>
  if (vread l).2.2 ≠ 0 then ([], 0, (vread l).2.2)
  else if (readN k (l.drop (vread l).2.1)).2.2 ≠ 0 then ([], 0, (readN k (l.drop (vread l).2.1)).2.2)
  else ((vread l).1 :: (readN k (l.drop (vread l).2.1)).1, (vread l).2.1 + (readN k (l.drop (vread l).2.1)).2.1, 0)
theorem qmg : ∀ (l : List Nat) (i acc : Nat), (vgo i acc l).2.1 ≤ i + l.length ∧ ((vgo i acc l).2.2 = 0 → i < (vgo i acc l).2.1)
 | [], i, acc => by simp [vgo]
 | b :: r, i, acc => by
  rw [vgo]
  split
  ·simp
  ·split
   ·simp
   ·split
    ·simp
    ·have := qmg r (i + 1) (acc + (b - 128) * 128 ^ i)
     refine ⟨by simp only [List.length_cons]; omega, fun h => by have := this.2 h; omega⟩
theorem qg3 (l : List Nat) : (vread l).2.1 ≤ l.length := by have := (qmg l 0 0).1; unfold vread; omega
theorem qkx (l : List Nat) (h : (vread l).2.2 = 0) : 0 < (vread l).2.1 := (qmg l 0 0).2 h
theorem qky : ∀ (l : List Nat) (i acc : Nat), (∀ b ∈ l, b < 256) → acc < 128 ^ i → i ≤ 9 → (vgo i acc l).1 < 18446744073709551616
 | [], i, acc, _, _, _ => by simp [vgo]
 | b :: r, i, acc, hl, ha, hi => by
  have hb := hl b (by simp)
  have hp := qcy i hi
  rw [vgo]
  split
  ·show 0 < _; omega
  ·rename_i h9
   split
   ·show 0 < _; omega
   ·split
    ·show acc + b * 128 ^ i < _
     rcases Nat.lt_or_ge i 9 with h | h
     ·have h1 : (128 : Nat) ^ i ≤ 128 ^ 8 := Nat.pow_le_pow_right (by omega) (by omega)
      have h2 : (128 : Nat) ^ 8 = 72057594037927936 := by decide
      have h3 : b * 128 ^ i ≤ 127 * 128 ^ i := Nat.mul_le_mul_right _ (by omega)
      omega
     ·have h3 : b * 128 ^ i ≤ 1 * 128 ^ i := Nat.mul_le_mul_right _ (by omega)
      omega
    ·rcases Nat.lt_or_ge i 9 with h | h
     ·refine qky r (i + 1) _ (fun x hx => hl x (by simp [hx])) ?_ (by omega)
      have := qi8 acc (b - 128) i ha
      rwa [show (b - 128) % 128 = b - 128 by omega] at this
     ·omega
theorem qg4 (l : List Nat) (hl : ∀ b ∈ l, b < 256) : (vread l).1 < 18446744073709551616 := qky l 0 0 hl (by omega) (by omega)
theorem qnv : ∀ (l : List Nat) (i acc x m : Nat), (∀ b ∈ l, b < 256) → i ≤ 9 → vgo i acc l = (x, m, 0) →
  ∃ y, x = acc + y * 128 ^ i ∧ (grp (10 - i) y).map vbyte = l.take (m - i) ∧ i < m ∧ (0 < i → 0 < y)
 | [], i, acc, x, m, _, _, h => by simp [vgo] at h
 | b :: r, i, acc, x, m, hl, hi, h => by
  have hb := hl b (by simp)
  rw [vgo] at h
  split at h
  ·simp at h
  ·rename_i h9
   split at h
   ·simp at h
   ·rename_i h0
    split at h
    ·rename_i h128
     simp only [Prod.mk.injEq] at h
     obtain ⟨rfl, rfl, _⟩ := h
     refine ⟨b, rfl, ?_, by omega, fun _ => by omega⟩
     obtain ⟨f, hf⟩ : ∃ f, 10 - i = f + 1 := ⟨9 - i, by omega⟩
     rw [hf, qf8 f b h128, show i + 1 - i = 1 by omega]
     rfl
    ·rename_i h128
     obtain ⟨y, h1, h2, h3, h4⟩ := qnv r (i + 1) _ x m (fun b hb => hl b (by simp [hb])) (by omega) h
     have hy := h4 (by omega)
     refine ⟨(b - 128) + 128 * y, ?_, ?_, by omega, fun _ => by omega⟩
     ·rw [h1, Nat.pow_succ, Nat.add_mul]
      have : y * (128 ^ i * 128) = 128 * y * 128 ^ i := by rw [Nat.mul_comm (128 ^ i) 128, ← Nat.mul_assoc, Nat.mul_comm y 128]
      omega
     ·obtain ⟨f, hf⟩ : ∃ f, 10 - i = f + 1 := ⟨9 - i, by omega⟩
      rw [hf, qdx f _ (by omega), show ((b - 128) + 128 * y) % 128 = b - 128 by omega, show ((b - 128) + 128 * y) / 128 = y by omega]
      rw [show f = 10 - (i + 1) by omega, List.map_cons, h2]
      obtain ⟨k, hk⟩ : ∃ k, m - i = k + 1 := ⟨m - i - 1, by omega⟩
      rw [hk, List.take_succ_cons, show m - (i + 1) = k by omega]
      congr 1
      show b - 128 + 128 = b
      omega
theorem qif {l : List Nat} {x m : Nat} (hl : ∀ b ∈ l, b < 256) (h : vread l = (x, m, 0)) : vbytes x = l.take m := by
 obtain ⟨y, h1, h2, h3, _⟩ := qnv l 0 0 x m hl (by omega) h
 have : x = y := by simpa using h1
 subst this
 simpa [vbytes] using h2
theorem qig : ∀ (j : Nat) (l xs : List Nat) (u : Nat), (∀ b ∈ l, b < 256) → readN j l = (xs, u, 0) → xs.flatMap vbytes = l.take u ∧ xs.length = j ∧ (∀ x ∈ xs, x < 18446744073709551616) ∧ u ≤ l.length
 | 0, l, xs, u, _, h => by
  simp only [readN, Prod.mk.injEq] at h
  obtain ⟨rfl, rfl, _⟩ := h
  simp
 | j + 1, l, xs, u, hl, h => by
  have hvl := qg3 l
  have hvb := qg4 l hl
  rw [readN] at h
  split at h
  ·rename_i h1; simp at h; exact absurd h.2.2 h1
  ·rename_i h1
   split at h
   ·rename_i h2; simp at h; exact absurd h.2.2 h2
   ·rename_i h2
    have hv : vread l = ((vread l).1, (vread l).2.1, 0) := by rw [← show (vread l).2.2 = 0 by omega]
    generalize (vread l).1 = x at hv h hvb
    generalize (vread l).2.1 = m at hv h hvl
    have hq : readN j (l.drop m) = ((readN j (l.drop m)).1, (readN j (l.drop m)).2.1, 0) := by
     rw [hv] at h2
     rw [← show (readN j (l.drop m)).2.2 = 0 by simpa using h2]
    generalize (readN j (l.drop m)).1 = ys at hq h
    generalize (readN j (l.drop m)).2.1 = n at hq h
    simp only [Prod.mk.injEq] at h
    obtain ⟨rfl, rfl, _⟩ := h
    obtain ⟨g1, g2, g3, g4⟩ := qig j (l.drop m) ys n (fun b hb => hl b (List.mem_of_mem_drop hb)) hq
    rw [List.length_drop] at g4
    refine ⟨?_, by simp [g2], ?_, by omega⟩
    ·rw [List.flatMap_cons, g1, qif hl hv, List.take_add]
    ·intro z hz
     rcases List.mem_cons.1 hz with rfl | hz
     ·exact hvb
     ·exact g3 z hz
theorem qvx (i : Nat) (h : i ≤ 8) : 2 ^ (64 - 7 * i) = 128 * 2 ^ (64 - 7 * (i + 1)) := by
 rw [show 64 - 7 * i = 7 + (64 - 7 * (i + 1)) by omega, Nat.pow_add]
theorem qvy (acc y i : Nat) : acc + (y % 128 + 128 - 128) * 128 ^ i + y / 128 * 128 ^ (i + 1) = acc + y * 128 ^ i := by
 rw [Nat.pow_succ, Nat.add_sub_cancel, Nat.add_assoc, Nat.mul_comm (128 ^ i) 128, ← Nat.mul_assoc, ← Nat.add_mul]
 congr 2
 omega
theorem qsf : ∀ (f y i acc : Nat) (rest : List Nat), i + f = 10 → 1 ≤ f → y < 2 ^ (64 - 7 * i) → (0 < i → 0 < y) →
  vgo i acc ((grp f y).map vbyte ++ rest) = (acc + y * 128 ^ i, i + (grp f y).length, 0)
 | 0, _, _, _, _, _, h, _, _ => by omega
 | f + 1, y, i, acc, rest, hi, _, hy, h0 => by
  have h9 : i = 9 → y < 2 := fun e => by subst e; simpa using hy
  by_cases h : y < 128
  ·rw [qf8 f y h]
   show vgo i acc (y :: rest) = _
   rw [vgo, if_neg (by omega), if_neg (by omega), if_pos h]
   rfl
  ·rw [qdx f y (by omega)]
   show vgo i acc ((y % 128 + 128) :: ((grp f (y / 128)).map vbyte ++ rest)) = _
   have hi8 : i ≤ 8 := by
    rcases Nat.lt_or_ge i 9 with h | h
    ·omega
    ·have := h9 (by omega); omega
   have hy' : y / 128 < 2 ^ (64 - 7 * (i + 1)) := by
    rw [qvx i hi8] at hy
    exact Nat.div_lt_of_lt_mul hy
   rw [vgo, if_neg (by omega), if_neg (by omega), if_neg (by omega), qsf f (y / 128) (i + 1) _ rest (by omega) (by omega) hy' (fun _ => by omega), qvy]
   simp only [List.length_cons, Prod.mk.injEq, and_true, true_and]
   omega
theorem qsg {y : Nat} (rest : List Nat) (hy : y < 18446744073709551616) : vread (vbytes y ++ rest) = (y, (vbytes y).length, 0) := by
 have := qsf 10 y 0 0 rest rfl (by omega) (by simpa using hy) (fun h => by omega)
 unfold vread vbytes
 rw [this]
 simp
theorem qg5 : ∀ (xs rest : List Nat), (∀ x ∈ xs, x < 18446744073709551616) → readN xs.length (xs.flatMap vbytes ++ rest) = (xs, (xs.flatMap vbytes).length, 0)
 | [], _, _ => rfl
 | x :: xs, rest, h => by
  rw [List.length_cons, readN, List.flatMap_cons, List.append_assoc, qsg _ (h x (by simp))]
  simp only [List.drop_left, ne_eq, not_true_eq_false, if_false]
  rw [qg5 xs rest (fun z hz => h z (by simp [hz]))]
  simp
theorem qih : ∀ (k : Nat) (l xs : List Nat) (u x m : Nat), readN k l = (xs, u, 0) → vread (l.drop u) = (x, m, 0) → readN (k + 1) l = (xs ++ [x], u + m, 0)
 | 0, l, xs, u, x, m, h, h2 => by
  simp only [readN, Prod.mk.injEq] at h
  obtain ⟨rfl, rfl, _⟩ := h
  rw [List.drop_zero] at h2
  simp [readN, h2]
 | k + 1, l, xs, u, x, m, h, h2 => by
  rw [readN] at h
  split at h
  ·rename_i h1; simp at h; exact absurd h.2.2 h1
  ·rename_i h1
   split at h
   ·rename_i h3; simp at h; exact absurd h.2.2 h3
   ·rename_i h3
    simp only [Prod.mk.injEq] at h
    obtain ⟨rfl, rfl, _⟩ := h
    have hq : readN k (l.drop (vread l).2.1) = ((readN k (l.drop (vread l).2.1)).1, (readN k (l.drop (vread l).2.1)).2.1, 0) := by
     rw [← show (readN k (l.drop (vread l).2.1)).2.2 = 0 by omega]
    have h4 := qih k _ _ _ x m hq (by rwa [List.drop_drop])
    rw [readN, if_neg h1, h4, if_neg (by simp)]
    simp [Nat.add_assoc]
theorem qg6 : ∀ (k j : Nat) (l xs : List Nat) (u : Nat), readN k l = (xs, u, 0) → (vread (l.drop u)).2.2 ≠ 0 → (readN (k + 1 + j) l).2.2 ≠ 0
 | 0, j, l, xs, u, h, h2 => by
  simp only [readN, Prod.mk.injEq] at h
  obtain ⟨rfl, rfl, _⟩ := h
  rw [List.drop_zero] at h2
  rw [show 0 + 1 + j = j + 1 by omega, readN, if_pos h2]
  exact h2
 | k + 1, j, l, xs, u, h, h2 => by
  rw [readN] at h
  split at h
  ·rename_i h1; simp at h; exact absurd h.2.2 h1
  ·rename_i h1
   split at h
   ·rename_i h3; simp at h; exact absurd h.2.2 h3
   ·rename_i h3
    simp only [Prod.mk.injEq] at h
    obtain ⟨rfl, rfl, _⟩ := h
    have hq : readN k (l.drop (vread l).2.1) = ((readN k (l.drop (vread l).2.1)).1, (readN k (l.drop (vread l).2.1)).2.1, 0) := by
     rw [← show (readN k (l.drop (vread l).2.1)).2.2 = 0 by omega]
    have h4 := qg6 k j _ _ _ hq (by rwa [List.drop_drop])
    rw [show k + 1 + 1 + j = (k + 1 + j) + 1 by omega, readN, if_neg h1, if_pos h4]
    exact h4
theorem qnw : ∀ (k : Nat) (l xs : List Nat) (u : Nat), readN k l = (xs, u, 0) → xs.length = k ∧ k ≤ u ∧ u ≤ l.length
 | 0, l, xs, u, h => by
  simp only [readN, Prod.mk.injEq] at h
  obtain ⟨rfl, rfl, _⟩ := h
  simp
 | k + 1, l, xs, u, h => by
  rw [readN] at h
  split at h
  ·rename_i h1; simp at h; exact absurd h.2.2 h1
  ·rename_i h1
   split at h
   ·rename_i h3; simp at h; exact absurd h.2.2 h3
   ·rename_i h3
    simp only [Prod.mk.injEq] at h
    obtain ⟨rfl, rfl, _⟩ := h
    have hq : readN k (l.drop (vread l).2.1) = ((readN k (l.drop (vread l).2.1)).1, (readN k (l.drop (vread l).2.1)).2.1, 0) := by
     rw [← show (readN k (l.drop (vread l).2.1)).2.2 = 0 by omega]
    obtain ⟨h4, h5, h6⟩ := qnw k _ _ _ hq
    have h7 := qkx l (by omega)
    have h8 := qg3 l
    rw [List.length_drop] at h6
    refine ⟨by simp [h4], by omega, by omega⟩
structure Pr where
 nx : Nat
 cp : Nat
 cr : Nat
 gp : Nat
 gs : List Nat
 cl : List Nat
 cu : List Nat
 tk : Nat
 ts : List Nat
 sp : List Nat
 e1 : Nat
 e2 : Nat
 e3 : Nat
 e4 : Nat
 e5 : Nat
 e6 : Nat
 e7 : Nat
section
variable {α : Type} {b : List Nat} {a x n u : Nat} {xs : List Nat}
def num1 (b : List Nat) (a : Nat) (k : Nat → Nat → Except Nat α) : Except Nat α := if (vread (b.drop a)).2.2 ≠ 0 then .error 344 else k (vread (b.drop a)).1 (a + (vread (b.drop a)).2.1)
def numK (b : List Nat) (n a : Nat) (k : List Nat → Nat → Except Nat α) : Except Nat α := if (readN n (b.drop a)).2.2 ≠ 0 then .error 344 else k (readN n (b.drop a)).1 (a + (readN n (b.drop a)).2.1)
def cnt1 (b : List Nat) (a lo hi : Nat) (k : Nat → Nat → Except Nat α) : Except Nat α := num1 b a fun x e => if x < lo ∨ hi < x then .error 345 else k x e
theorem qmi {k : Nat → Nat → Except Nat α} (h : vread (b.drop a) = (x, n, 0)) : num1 b a k = k x (a + n) := by unfold num1; rw [h]; rfl
theorem qfc {k : Nat → Nat → Except Nat α} (h : (vread (b.drop a)).2.2 ≠ 0) : num1 b a k = .error 344 := if_pos h
theorem qzj {k : List Nat → Nat → Except Nat α} (h : readN n (b.drop a) = (xs, u, 0)) : numK b n a k = k xs (a + u) := by unfold numK; rw [h]; rfl
theorem qbq {k : List Nat → Nat → Except Nat α} (h : (readN n (b.drop a)).2.2 ≠ 0) : numK b n a k = .error 344 := if_pos h
theorem qzk {k : Nat → Nat → Except Nat α} {lo hi : Nat} (h : vread (b.drop a) = (x, n, 0)) (h2 : ¬ (x < lo ∨ hi < x)) : cnt1 b a lo hi k = k x (a + n) := by unfold cnt1; rw [qmi h, if_neg h2]
theorem qvz {k : Nat → Nat → Except Nat α} {lo hi : Nat} (h : vread (b.drop a) = (x, n, 0)) (h2 : x < lo ∨ hi < x) : cnt1 b a lo hi k = .error 345 := by unfold cnt1; rw [qmi h, if_pos h2]
theorem qdo {k : Nat → Nat → Except Nat α} {lo hi : Nat} (h : (vread (b.drop a)).2.2 ≠ 0) : cnt1 b a lo hi k = .error 344 := qfc h
theorem qv0 (b : List Nat) (a : Nat) : (vread (b.drop a)).2.2 ≠ 0 ∨ ∃ x n, vread (b.drop a) = (x, n, 0) := by
 by_cases h : (vread (b.drop a)).2.2 = 0
 ·exact .inr ⟨(vread (b.drop a)).1, (vread (b.drop a)).2.1, by rw [← h]⟩
 ·exact .inl h
theorem qv1 (b : List Nat) (k a : Nat) : (readN k (b.drop a)).2.2 ≠ 0 ∨ ∃ xs u, readN k (b.drop a) = (xs, u, 0) := by
 by_cases h : (readN k (b.drop a)).2.2 = 0
 ·exact .inr ⟨(readN k (b.drop a)).1, (readN k (b.drop a)).2.1, by rw [← h]⟩
 ·exact .inl h
theorem qny (ha : a ≤ b.length) (h : vread (b.drop a) = (x, n, 0)) : 0 < n ∧ a + n ≤ b.length := by
 have h1 := qg3 (b.drop a)
 have h2 := qkx (b.drop a) (by rw [h])
 rw [h] at h1 h2
 rw [List.length_drop] at h1
 exact ⟨h2, by simp only at h1; omega⟩
theorem qv2 (ha : a ≤ b.length) (h : readN n (b.drop a) = (xs, u, 0)) : xs.length = n ∧ n ≤ u ∧ a + u ≤ b.length := by
 have h1 := qnw _ _ _ _ h
 rw [List.length_drop] at h1
 omega
theorem qk3 {l : List Nat} {er : Nat} (h : vread l = (x, n, er)) (h2 : (er : Int) ≠ 0) : (vread l).2.2 ≠ 0 := by rw [h]; show er ≠ 0; omega
theorem qsj (hl : ∀ z ∈ b, z < 256) (h : vread (b.drop a) = (x, n, 0)) : x < 18446744073709551616 := by
 have := qg4 (b.drop a) fun z hz => hl z (List.mem_of_mem_drop hz)
 rwa [h] at this
end
def NumAt (b : List Nat) (p x e : Nat) : Prop := vread (b.drop p) = (x, e - p, 0) ∧ p ≤ e
def qy (b : List Nat) (n p : Nat) (xs : List Nat) (e : Nat) : Prop := readN n (b.drop p) = (xs, e - p, 0) ∧ p ≤ e
section
variable {α : Type} {b : List Nat} {p x e n : Nat} {xs : List Nat}
theorem NumAt.eq (h : NumAt b p x e) : p + (e - p) = e := by have := h.2; omega
theorem qy.eq (h : qy b n p xs e) : p + (e - p) = e := by have := h.2; omega
theorem NumAt.of {m : Nat} (h : vread (b.drop p) = (x, m, 0)) : NumAt b p x (p + m) := ⟨by rw [h, Nat.add_sub_cancel_left], by omega⟩
theorem qy.of {m : Nat} (h : readN n (b.drop p) = (xs, m, 0)) : qy b n p xs (p + m) := ⟨by rw [h, Nat.add_sub_cancel_left], by omega⟩
theorem qik (b : List Nat) (p : Nat) : (vread (b.drop p)).2.2 ≠ 0 ∨ ∃ x e, NumAt b p x e := by
 rcases qv0 b p with h | ⟨x, n, h⟩
 ·exact .inl h
 ·exact .inr ⟨x, _, .of h⟩
theorem qfd (b : List Nat) (n p : Nat) : (readN n (b.drop p)).2.2 ≠ 0 ∨ ∃ xs e, qy b n p xs e := by
 rcases qv1 b n p with h | ⟨xs, u, h⟩
 ·exact .inl h
 ·exact .inr ⟨xs, _, .of h⟩
theorem NumAt.go1 {k : Nat → Nat → Except Nat α} (h : NumAt b p x e) : num1 b p k = k x e := by rw [qmi h.1, h.eq]
theorem qy.goK {k : List Nat → Nat → Except Nat α} (h : qy b n p xs e) : numK b n p k = k xs e := by rw [qzj h.1, h.eq]
theorem NumAt.goC {k : Nat → Nat → Except Nat α} {lo hi : Nat} (h : NumAt b p x e) (h2 : ¬ (x < lo ∨ hi < x)) : cnt1 b p lo hi k = k x e := by rw [qzk h.1 h2, h.eq]
theorem NumAt.bad {k : Nat → Nat → Except Nat α} {lo hi : Nat} (h : NumAt b p x e) (h2 : x < lo ∨ hi < x) : cnt1 b p lo hi k = .error 345 := qvz h.1 h2
theorem NumAt.in (h : NumAt b p x e) (hp : p ≤ b.length) : p < e ∧ e ≤ b.length := by have := qny hp h.1; have := h.2; omega
theorem qy.in (h : qy b n p xs e) (hp : p ≤ b.length) : xs.length = n ∧ p + n ≤ e ∧ e ≤ b.length := by have := qv2 hp h.1; have := h.2; omega
theorem NumAt.lt (h : NumAt b p x e) (hl : ∀ z ∈ b, z < 256) : x < 18446744073709551616 := qsj hl h.1
theorem NumAt.one {x2 e2 : Nat} (h : NumAt b p x e) (h2 : NumAt b p x2 e2) : x2 = x ∧ e2 = e := by
 have h3 := h.1.symm.trans h2.1
 injection h3 with h3 h4
 injection h4 with h4
 have := h.2
 have := h2.2
 exact ⟨h3.symm, by omega⟩
theorem qy.one {xs2 : List Nat} {e2 : Nat} (h : qy b n p xs e) (h2 : qy b n p xs2 e2) : xs2 = xs ∧ e2 = e := by
 have h3 := h.1.symm.trans h2.1
 injection h3 with h3 h4
 injection h4 with h4
 have := h.2
 have := h2.2
 exact ⟨h3.symm, by omega⟩
theorem qy.nil (b : List Nat) (p : Nat) : qy b 0 p [] p := ⟨by rw [Nat.sub_self]; rfl, Nat.le_refl _⟩
theorem qy.snoc {y f : Nat} (h : qy b n p xs e) (h2 : NumAt b e y f) : qy b (n + 1) p (xs ++ [y]) f := by
 have h3 := h.2
 have h4 := h2.2
 have := qih n _ xs (e - p) y (f - e) h.1 (by rw [List.drop_drop, h.eq]; exact h2.1)
 exact ⟨by rw [this]; congr 2; omega, by omega⟩
theorem qy.stuck {m : Nat} (h : qy b n p xs e) (hn : n < m) (h2 : (vread (b.drop e)).2.2 ≠ 0) : (readN m (b.drop p)).2.2 ≠ 0 := by
 have := qg6 n (m - (n + 1)) _ xs (e - p) h.1 (by rw [List.drop_drop, h.eq]; exact h2)
 rwa [show n + 1 + (m - (n + 1)) = m by omega] at this
end
theorem q_le1 {q : List Nat} {x p e : Nat} (h : q.length ≤ p) (h2 : p < e) : (q ++ [x]).length ≤ e := by rw [List.length_append]; show q.length + 1 ≤ e; omega
theorem q_leK {q xs : List Nat} {p e n : Nat} (h : q.length ≤ p) (h2 : xs.length = n) (h3 : p + n ≤ e) : (q ++ xs).length ≤ e := by rw [List.length_append]; omega
theorem qnz (b : List Nat) (p lo hi : Nat) : (vread (b.drop p)).2.2 ≠ 0 ∨ (∃ x e, NumAt b p x e ∧ (x < lo ∨ hi < x)) ∨ ∃ x e, NumAt b p x e ∧ ¬ (x < lo ∨ hi < x) := by
 rcases qik b p with h | ⟨x, e, h⟩
 ·exact .inl h
 ·by_cases h2 : x < lo ∨ hi < x
  ·exact .inr (.inl ⟨x, e, h, h2⟩)
  ·exact .inr (.inr ⟨x, e, h, h2⟩)
theorem qg7 {m n : Nat} (h : m * n ≤ 9223372036854775807) : Value.int .i64 (Go.IntKind.i64.wrap ((m : Int) * (n : Int))) = .int .i64 ((m * n : Nat) : Int) := by
 rw [← Int.natCast_mul]
 exact qc rfl h
def zm (l : List Sec) : Nat := (l.getD (l.length - 1) Sec.zero).to
theorem qv3 {l : List Sec} (h : l.length = 0) : zm l = 0 := by rw [List.length_eq_zero_iff] at h; subst h; rfl
def prs10 (b : List Nat) (nx : Nat) (e1 : Nat) (cp : Nat) (a1 : Nat) (cr : Nat) (a2 : Nat) (gp : Nat) (e2 : Nat) (gs : List Nat) (e3 : Nat) (cl : List Nat) (e4 : Nat) (cu : List Nat) (e5 : Nat) (tk : Nat) (a3 : Nat) (ts : List Nat) (e6 : Nat) (sp : List Nat) (e7 : Nat) : Except Nat Pr := if e7 ≠ b.length then .error 346 else .ok ⟨nx, cp, cr, gp, gs, cl, cu, tk, ts, sp, e1, e2, e3, e4, e5, e6, e7⟩
def prs9 (b : List Nat) (nx : Nat) (e1 : Nat) (cp : Nat) (a1 : Nat) (cr : Nat) (a2 : Nat) (gp : Nat) (e2 : Nat) (gs : List Nat) (e3 : Nat) (cl : List Nat) (e4 : Nat) (cu : List Nat) (e5 : Nat) (tk : Nat) (a3 : Nat) (ts : List Nat) (e6 : Nat) : Except Nat Pr := numK b (cp + 3 * cp * (gp - 1)) e6 (prs10 b nx e1 cp a1 cr a2 gp e2 gs e3 cl e4 cu e5 tk a3 ts e6)
def prs8 (b : List Nat) (nx : Nat) (e1 : Nat) (cp : Nat) (a1 : Nat) (cr : Nat) (a2 : Nat) (gp : Nat) (e2 : Nat) (gs : List Nat) (e3 : Nat) (cl : List Nat) (e4 : Nat) (cu : List Nat) (e5 : Nat) (tk : Nat) (a3 : Nat) : Except Nat Pr := numK b (8 * tk) a3 (prs9 b nx e1 cp a1 cr a2 gp e2 gs e3 cl e4 cu e5 tk a3)
def prs7 (b : List Nat) (nx : Nat) (e1 : Nat) (cp : Nat) (a1 : Nat) (cr : Nat) (a2 : Nat) (gp : Nat) (e2 : Nat) (gs : List Nat) (e3 : Nat) (cl : List Nat) (e4 : Nat) (cu : List Nat) (e5 : Nat) : Except Nat Pr := cnt1 b e5 0 65535 (prs8 b nx e1 cp a1 cr a2 gp e2 gs e3 cl e4 cu e5)
def prs6 (b : List Nat) (nx : Nat) (e1 : Nat) (cp : Nat) (a1 : Nat) (cr : Nat) (a2 : Nat) (gp : Nat) (e2 : Nat) (gs : List Nat) (e3 : Nat) (cl : List Nat) (e4 : Nat) : Except Nat Pr := numK b cp e4 (prs7 b nx e1 cp a1 cr a2 gp e2 gs e3 cl e4)
def prs5 (b : List Nat) (nx : Nat) (e1 : Nat) (cp : Nat) (a1 : Nat) (cr : Nat) (a2 : Nat) (gp : Nat) (e2 : Nat) (gs : List Nat) (e3 : Nat) : Except Nat Pr := numK b cp e3 (prs6 b nx e1 cp a1 cr a2 gp e2 gs e3)
def prs4 (b : List Nat) (nx : Nat) (e1 : Nat) (cp : Nat) (a1 : Nat) (cr : Nat) (a2 : Nat) (gp : Nat) (e2 : Nat) : Except Nat Pr := numK b (2 * (gp - 1)) e2 (prs5 b nx e1 cp a1 cr a2 gp e2)
def prs3 (b : List Nat) (nx : Nat) (e1 : Nat) (cp : Nat) (a1 : Nat) (cr : Nat) (a2 : Nat) : Except Nat Pr := cnt1 b a2 1 256 (prs4 b nx e1 cp a1 cr a2)
def prs2 (b : List Nat) (nx : Nat) (e1 : Nat) (cp : Nat) (a1 : Nat) : Except Nat Pr := num1 b a1 (prs3 b nx e1 cp a1)
def prs1 (b : List Nat) (nx : Nat) (e1 : Nat) : Except Nat Pr := cnt1 b e1 1 64 (prs2 b nx e1)
def prs (b : List Nat) : Except Nat Pr := num1 b 3 (prs1 b)
def Pr.nums (p : Pr) : List Nat := [p.nx, p.cp, p.cr, p.gp] ++ p.gs ++ p.cl ++ p.cu ++ [p.tk] ++ p.ts ++ p.sp
def Pr.secs (p : Pr) : List Sec := [qj, ⟨qb 0, 3, p.e1⟩, ⟨qb 1, p.e1, p.e2⟩, ⟨qb 2, p.e2, p.e3⟩, ⟨qb 3, p.e3, p.e4⟩, ⟨qb 4, p.e4, p.e5⟩, ⟨qb 5, p.e5, p.e6⟩, ⟨qb 6, p.e6, p.e7⟩, ⟨⟨#[115, 117, 109]⟩, p.e7, p.e7 + 4⟩]
section
variable {α : Type} {b : List Nat} {a n : Nat} {er : Nat}
theorem qi9 {k : Nat → Nat → Except Nat α} (h : num1 b a k = .error er) : er = 344 ∨ ∃ x e, k x e = .error er := by
 unfold num1 at h
 split at h
 ·injection h with h; exact .inl h.symm
 ·exact .inr ⟨_, _, h⟩
theorem qec {k : List Nat → Nat → Except Nat α} (h : numK b n a k = .error er) : er = 344 ∨ ∃ x e, k x e = .error er := by
 unfold numK at h
 split at h
 ·injection h with h; exact .inl h.symm
 ·exact .inr ⟨_, _, h⟩
theorem qja {lo hi : Nat} {k : Nat → Nat → Except Nat α} (h : cnt1 b a lo hi k = .error er) : (er = 344 ∨ er = 345) ∨ ∃ x e, k x e = .error er := by
 unfold cnt1 at h
 rcases qi9 h with h | ⟨x, e, h⟩
 ·exact .inl (.inl h)
 ·split at h
  ·injection h with h; exact .inl (.inr h.symm)
  ·exact .inr ⟨_, _, h⟩
end
theorem qsk {b : List Nat} {er : Nat} (h : prs b = .error er) : 344 ≤ er ∧ er ≤ 346 := by
 rcases qi9 h with h | ⟨_, _, h⟩; · omega
 rcases qja h with h | ⟨_, _, h⟩; · omega
 rcases qi9 h with h | ⟨_, _, h⟩; · omega
 rcases qja h with h | ⟨_, _, h⟩; · omega
 rcases qec h with h | ⟨_, _, h⟩; · omega
 rcases qec h with h | ⟨_, _, h⟩; · omega
 rcases qec h with h | ⟨_, _, h⟩; · omega
 rcases qja h with h | ⟨_, _, h⟩; · omega
 rcases qec h with h | ⟨_, _, h⟩; · omega
 rcases qec h with h | ⟨_, _, h⟩; · omega
 unfold prs10 at h
 split at h
 ·injection h with h; omega
 ·cases h
def opnR (l : List Nat) : Except Nat Pr :=
 if l.length < 15 then .error 340 else if 16777216 < l.length then .error 3 else if zb l = false then .error 341 else
 if ¬ (l.getD 0 0 = 113 ∧ l.getD 1 0 = 115) then .error 342 else if l.getD 2 0 ≠ 1 then .error 343 else prs (l.take (l.length - 4))
section
variable {l : List Nat}
theorem qk4 (h : l.length < 15) : opnR l = .error 340 := if_pos h
theorem qjb (h : ¬ l.length < 15) (h2 : 16777216 < l.length) : opnR l = .error 3 := by unfold opnR; rw [if_neg h, if_pos h2]
theorem qsl (h : ¬ l.length < 15) (h2 : ¬ 16777216 < l.length) (h3 : zb l = false) : opnR l = .error 341 := by unfold opnR; rw [if_neg h, if_neg h2, if_pos h3]
theorem qed (h : ¬ l.length < 15) (h2 : ¬ 16777216 < l.length) (h3 : zb l = true) (h4 : ¬ (l.getD 0 0 = 113 ∧ l.getD 1 0 = 115)) : opnR l = .error 342 := by unfold opnR; rw [if_neg h, if_neg h2, h3, if_neg (by decide), if_pos h4]
theorem qg8 (h : ¬ l.length < 15) (h2 : ¬ 16777216 < l.length) (h3 : zb l = true) (h4 : l.getD 0 0 = 113 ∧ l.getD 1 0 = 115) (h5 : l.getD 2 0 ≠ 1) : opnR l = .error 343 := by unfold opnR; rw [if_neg h, if_neg h2, h3, if_neg (by decide), if_neg (fun x => x h4), if_pos h5]
theorem qsm (h : ¬ l.length < 15) (h2 : ¬ 16777216 < l.length) (h3 : zb l = true) (h4 : l.getD 0 0 = 113 ∧ l.getD 1 0 = 115) (h5 : l.getD 2 0 = 1) : opnR l = prs (l.take (l.length - 4)) := by unfold opnR; rw [if_neg h, if_neg h2, h3, if_neg (by decide), if_neg (fun x => x h4), if_neg (fun x => x h5)]
theorem qcj {er : Nat} (h : opnR l = .error er) : 1 ≤ er ∧ er ≤ 346 := by
 unfold opnR at h
 split at h
 ·injection h with h; omega
 ·split at h
  ·injection h with h; omega
  ·split at h
   ·injection h with h; omega
   ·split at h
    ·injection h with h; omega
    ·split at h
     ·injection h with h; omega
     ·have := qsk h; omega
end
def errR (l : List Nat) : Nat := match opnR l with
 | .ok _ => 0
 | .error k => k
def pnums (l : List Nat) : List Nat := match opnR l with
 | .ok p => p.nums
 | .error _ => []
def psecs (l : List Nat) : List Sec := match opnR l with
 | .ok p => p.secs
 | .error _ => []
section
variable {l : List Nat} {p : Pr} {k : Nat}
theorem qcz (h : opnR l = .ok p) : errR l = 0 := by unfold errR; rw [h]
theorem qdp (h : opnR l = .error k) : errR l = k := by unfold errR; rw [h]
theorem qjc (h : opnR l = .ok p) : pnums l = p.nums := by unfold pnums; rw [h]
theorem qjd (h : opnR l = .error k) : pnums l = [] := by unfold pnums; rw [h]
theorem qee (h : opnR l = .ok p) : psecs l = p.secs := by unfold psecs; rw [h]
theorem qef (h : opnR l = .error k) : psecs l = [] := by unfold psecs; rw [h]
end
theorem Mem.reBlk {W w : World} {fs : List Fact} (h : Mem W w fs) {i g : Nat} {cs ds : Array Value} {t : TypeId} (hi : fs[i]? = some (.blk g cs t)) (he : cs = ds) : Mem W w (fs.set i (.blk g ds t)) := by
 subst he
 obtain ⟨hl, h2⟩ := List.getElem?_eq_some_iff.1 hi
 rw [← h2, List.set_getElem_self]
 exact h
theorem rd_at {w : World} {B a c : Nat} {A : Option Addr} {b : List Nat} (h : Rd w B 1 A b.length (b.map B8)) (ha : a ≤ b.length) (hc : b.length ≤ c) : Rd w B 1 (if c = a then A else A.map (·.add (a * 1))) (b.drop a).length ((b.drop a).map B8) := by
 have h1 := h.q01 (i := a) (j := b.length) ha (Nat.le_refl _) hc
 rw [List.take_length] at h1
 rw [List.length_drop]
 exact h1
theorem qv4 {A : Option Addr} {c : Nat} {l : List Nat} {w : World} {x n er : Nat} (h : vread l = (x, n, er)) (hr : Rd w w.heap.size 1 A l.length (l.map B8)) (hl : ∀ b ∈ l, b < 256) (hn : l.length ≤ 200000000000000) :
  Calls Tryz.prog 132 #[.slice A l.length c] w (Is w (.tuple #[.int .u64 (x : Int), .int .i64 (n : Int), .int .i64 (er : Int)])) := by
 have := qvw A l.length c l w hr hl hn
 rw [h] at this
 exact this
def errT : TypeId := 53
theorem qf3 {W : World} {fs : List Fact} (k : Int) (w : World) (HW : Mem W w fs) : Calls Tryz.prog 109 #[.int .i64 k] w (Dies W fs (pan errT k)) := by
 refine qgi (vs := [.int .i64 k]) Tryz.func109 rfl rfl (by kernel_rfl) (σ0 := [(0, .int .i64 k)]) rfl ?_
 intro a M
 refine qa ?_
 refine fp M 1 0 [(2, .int .i64 k)] fun a M => fy M HW 1 rfl rfl rfl (Yl.makeInterface rfl rfl) fun a M => ?_
 refine fo M 2 rfl rfl ?_
 refine qzg M rfl rfl ?_
 exact qb5 M ⟨rfl, HW⟩
theorem qsn {W : World} {fs gs : List Fact} {i g : Nat} (k x : Int) (w : World) (O : Mem W w fs) (hi : fs[i]? = some (.blk g #[.int .i64 x] errT)) (hg : fs.set i (.blk g #[.int .i64 k] errT) = gs) : CallsD Tryz.prog 104 [Value.pointer (some ⟨g, 0, none⟩)].toArray (.panicking (pan errT k)) w (Caught W gs) := by
 subst hg
 refine qfp Tryz.func104 rfl rfl (by kernel_rfl) (σ0 := [(0, .pointer (some ⟨g, 0, none⟩))]) rfl fun c₀ cs a hu M => ?_
 refine wpS_seq (wpS_region ?_)
 refine qfo (i := 0) (v := .iface errT (.int .i64 k)) (cs' := { c₀ with mode := .panicking [{ v := .iface errT (.int .i64 k), recovered := true }] } :: cs) M rfl rfl rfl rfl (by decide) (.inl (by unfold pan at hu; simp [recoverD, hu])) fun a M => ?_
 refine qk1 (i := 1) M rfl rfl rfl rfl (by decide) fun a M => ?_
 refine wpS_of_wp (wp_seq ?_)
 refine qa ?_
 refine fp M 1 0 [(6, .iface errT (.int .i64 k))] fun a M => fy M O 1 rfl rfl rfl (Yl.qw9 rfl rfl) fun a M => ?_
 refine fp M 5 2 [(2, .int .i64 k), (3, .bool true)] fun a M => qbm rfl ?_
 refine wp_seq (wp_seq ?_)
 refine qa ?_
 refine fp M 1 0 [(10, .iface errT (.int .i64 k))] fun a M => fy M O 1 rfl rfl rfl (Yl.q03 rfl rfl rfl) fun a M => ?_
 refine fp M 4 2 [(15, .bool false)] fun a M => qbm rfl ?_
 refine qe4 M rfl (wp_skip ?_)
 refine qa ?_
 refine fp M 1 0 [(17, .int .i64 k)] fun a M => fo M 1 rfl rfl ?_
 refine qlt M O (i := i) rfl rfl rfl rfl (by kernel_rfl) rfl hi (by simp) fun w2 O => ?_
 refine qbm rfl ?_
 exact qk2 rfl M ⟨rfl, rfl, O⟩
theorem qps {W : World} {fs gs : List Fact} {i g : Nat} (x : Int) (w : World) (O : Mem W w fs) (hi : fs[i]? = some (.blk g #[.int .i64 x] errT)) (hg : fs.set i (.blk g #[.int .i64 0] errT) = gs) : CallsD Tryz.prog 104 [Value.pointer (some ⟨g, 0, none⟩)].toArray .returning w (Caught W gs) := by
 subst hg
 refine qfp Tryz.func104 rfl rfl (by kernel_rfl) (σ0 := [(0, .pointer (some ⟨g, 0, none⟩))]) rfl fun c₀ cs a hu M => ?_
 refine wpS_seq (wpS_region ?_)
 refine qfo (i := 0) (v := .nilIface) (cs' := c₀ :: cs) M rfl rfl rfl rfl (by decide) (.inr ⟨by simp [recoverD, hu], rfl, rfl⟩) fun a M => ?_
 refine qk1 (i := 1) M rfl rfl rfl rfl (by decide) fun a M => ?_
 refine wpS_of_wp (wp_seq ?_)
 refine qa ?_
 refine fp M 1 0 [(6, .nilIface)] fun a M => fy M O 1 rfl rfl rfl (Yl.qun (z := .int .i64 0) rfl rfl (by kernel_rfl)) fun a M => ?_
 refine fp M 5 2 [(2, .int .i64 0), (3, .bool false)] fun a M => qbm rfl ?_
 refine wp_seq (wp_seq ?_)
 refine qa ?_
 refine fp M 1 0 [(10, .nilIface)] fun a M => fy M O 1 rfl rfl rfl (Yl.q2y rfl rfl) fun a M => ?_
 refine fp M 4 2 [(15, .bool false)] fun a M => qbm rfl ?_
 refine qe4 M rfl (wp_skip ?_)
 refine qa ?_
 refine fp M 1 0 [(17, .int .i64 0)] fun a M => fo M 1 rfl rfl ?_
 refine qlt M O (i := i) rfl rfl rfl rfl (by kernel_rfl) rfl hi (by simp) fun w2 O => ?_
 refine qbm rfl ?_
 have hc : c₀ = { c₀ with mode := FrameMode.returning } := by cases c₀; simp at hu; rw [hu]
 rw [hc]
 exact qk2 rfl M ⟨rfl, rfl, O⟩
section
variable {α : Type} {b : List Nat} {a n : Nat} {p : α}
theorem qf4 {k : Nat → Nat → Except Nat α} (h : num1 b a k = .ok p) : ∃ x e, NumAt b a x e ∧ k x e = .ok p := by
 rcases qik b a with h2 | ⟨x, e, h2⟩
 ·rw [qfc h2] at h; cases h
 ·rw [h2.go1] at h; exact ⟨x, e, h2, h⟩
theorem qa9 {k : List Nat → Nat → Except Nat α} (h : numK b n a k = .ok p) : ∃ xs e, qy b n a xs e ∧ k xs e = .ok p := by
 rcases qfd b n a with h2 | ⟨x, e, h2⟩
 ·rw [qbq h2] at h; cases h
 ·rw [h2.goK] at h; exact ⟨x, e, h2, h⟩
theorem qda {lo hi : Nat} {k : Nat → Nat → Except Nat α} (h : cnt1 b a lo hi k = .ok p) : ∃ x e, NumAt b a x e ∧ (lo ≤ x ∧ x ≤ hi) ∧ k x e = .ok p := by
 rcases qnz b a lo hi with h2 | ⟨x, e, h2, h3⟩ | ⟨x, e, h2, h3⟩
 ·rw [qdo h2] at h; cases h
 ·rw [h2.bad h3] at h; cases h
 ·rw [h2.goC h3] at h; exact ⟨x, e, h2, by omega, h⟩
end
section
variable {b : List Nat} {p x e n : Nat} {xs : List Nat}
theorem NumAt.bytes (h : NumAt b p x e) (hl : ∀ z ∈ b, z < 256) : b.drop p = vbytes x ++ b.drop e := by
 rw [qif (fun z hz => hl z (List.mem_of_mem_drop hz)) h.1]
 have := List.take_append_drop (e - p) (b.drop p)
 rw [List.drop_drop, h.eq] at this
 exact this.symm
theorem qy.bytes (h : qy b n p xs e) (hl : ∀ z ∈ b, z < 256) : b.drop p = xs.flatMap vbytes ++ b.drop e ∧ ∀ x ∈ xs, x < 18446744073709551616 := by
 obtain ⟨h1, _, h3, _⟩ := qig n _ xs _ (fun z hz => hl z (List.mem_of_mem_drop hz)) h.1
 refine ⟨?_, h3⟩
 rw [h1]
 have := List.take_append_drop (e - p) (b.drop p)
 rw [List.drop_drop, h.eq] at this
 exact this.symm
end
structure Pr.Fit (p : Pr) : Prop where
 cp1 : 1 ≤ p.cp
 cp2 : p.cp ≤ 64
 gp1 : 1 ≤ p.gp
 gp2 : p.gp ≤ 256
 tk : p.tk ≤ 65535
 gs : p.gs.length = 2 * (p.gp - 1)
 cl : p.cl.length = p.cp
 cu : p.cu.length = p.cp
 ts : p.ts.length = 8 * p.tk
 sp : p.sp.length = p.cp + 3 * p.cp * (p.gp - 1)
 lt : ∀ x ∈ p.nums, x < 18446744073709551616
theorem qzl {b : List Nat} {p : Pr} (hb : 3 ≤ b.length) (hl : ∀ z ∈ b, z < 256) (h : prs b = .ok p) : p.Fit ∧ b.drop 3 = p.nums.flatMap vbytes := by
 obtain ⟨nx, e1, h1, h⟩ := qf4 h
 obtain ⟨cp, a1, h2, c2, h⟩ := qda h
 obtain ⟨cr, a2, h3, h⟩ := qf4 h
 obtain ⟨gp, e2, h4, c4, h⟩ := qda h
 obtain ⟨gs, e3, h5, h⟩ := qa9 h
 obtain ⟨cl, e4, h6, h⟩ := qa9 h
 obtain ⟨cu, e5, h7, h⟩ := qa9 h
 obtain ⟨tk, a3, h8, c8, h⟩ := qda h
 obtain ⟨ts, e6, h9, h⟩ := qa9 h
 obtain ⟨sp, e7, h10, h⟩ := qa9 h
 unfold prs10 at h
 split at h
 ·cases h
 rename_i he
 injection h with h
 subst h
 have i1 := h1.in hb
 have i2 := h2.in i1.2
 have i3 := h3.in i2.2
 have i4 := h4.in i3.2
 have i5 := h5.in i4.2
 have i6 := h6.in i5.2.2
 have i7 := h7.in i6.2.2
 have i8 := h8.in i7.2.2
 have i9 := h9.in i8.2
 have i10 := h10.in i9.2.2
 have b5 := h5.bytes hl
 have b6 := h6.bytes hl
 have b7 := h7.bytes hl
 have b9 := h9.bytes hl
 have b10 := h10.bytes hl
 have hend : b.drop e7 = [] := List.drop_eq_nil_of_le (by omega)
 refine ⟨⟨c2.1, c2.2, c4.1, c4.2, c8.2, i5.1, i6.1, i7.1, i9.1, i10.1, fun x hx => ?_⟩, ?_⟩
 ·simp only [Pr.nums, List.mem_append, List.mem_cons, List.not_mem_nil, or_false] at hx
  rcases hx with (((((((rfl | rfl | rfl | rfl) | hx) | hx) | hx) | rfl) | hx) | hx)
  ·exact h1.lt hl
  ·exact h2.lt hl
  ·exact h3.lt hl
  ·exact h4.lt hl
  ·exact b5.2 x hx
  ·exact b6.2 x hx
  ·exact b7.2 x hx
  ·exact h8.lt hl
  ·exact b9.2 x hx
  ·exact b10.2 x hx
 ·rw [h1.bytes hl, h2.bytes hl, h3.bytes hl, h4.bytes hl, b5.1, b6.1, b7.1, h8.bytes hl, b9.1, b10.1, hend]
  simp [Pr.nums]
def toI (x : Nat) : Int := Go.IntKind.i64.wrap (x : Int)
def mostI : Nat := 4611686018427387904
def mapR {α : Type} (n : Nat) (f : Nat → α) : List α := (List.range n).map f
theorem zz {α : Type} (n : Nat) (f : Nat → α) : (mapR n f).length = n := by simp [mapR]
theorem zc {α : Type} (n : Nat) (f : Nat → α) : mapR (n + 1) f = mapR n f ++ [f n] := by unfold mapR; rw [List.range_succ, List.map_append]; rfl
theorem qdq {α : Type} {n i : Nat} {f : Nat → α} {d : α} (h : i < n) : (mapR n f).getD i d = f i := by
 unfold mapR
 rw [List.getD_eq_getElem?_getD, List.getElem?_map, List.getElem?_range h]
 rfl
theorem qn0 {α β : Type} (n : Nat) (f : Nat → α) (g : α → β) : (mapR n f).map g = mapR n fun i => g (f i) := by unfold mapR; rw [List.map_map]; rfl
theorem qeg {l : List Nat} {n : Nat} (h : l.length = n) (f : Nat → Int) : (mapR n fun i => f (l.getD i 0)) = l.map f := by
 subst h
 refine List.ext_getElem (by simp [mapR]) fun i h1 h2 => ?_
 have h3 : i < l.length := by simpa using h2
 simp [mapR, List.getElem?_eq_getElem h3]
def Pr.grp (p : Pr) (g : Nat) : Gr := if g = 0 then ⟨0, 1⟩ else ⟨toI (p.gs.getD (2 * (g - 1)) 0), toI (p.gs.getD (2 * (g - 1) + 1) 0)⟩
def Pr.tn (p : Pr) (i j : Nat) : Nat := p.ts.getD (8 * i + j) 0
def Pr.idB (p : Pr) : Nat → Int
 | 0 => 0
 | i + 1 => if 65535 < Go.IntKind.i64.wrap (p.idB i + toI (p.tn i 0)) then 65535 else Go.IntKind.i64.wrap (p.idB i + toI (p.tn i 0))
def Pr.idA (p : Pr) (i : Nat) : Int := Go.IntKind.i64.wrap (p.idB i + toI (p.tn i 0))
def Pr.tsk (p : Pr) (i : Nat) : Tk := ⟨p.idA i, toI (p.tn i 1), toI (p.tn i 2), toI (p.tn i 3), p.tn i 4, decide (p.tn i 5 = 1), p.tn i 6, p.tn i 7 % 4294967296⟩
def Pr.so (p : Pr) (g c : Nat) : Nat := if g = 0 then c else p.cp + 3 * p.cp * (g - 1) + 3 * c
def Pr.sn (p : Pr) (g c j : Nat) : Nat := p.sp.getD (p.so g c + j) 0
def Pr.spt (p : Pr) (g c : Nat) : Sp := if g = 0 then ⟨0, 0, p.sn g c 0⟩ else ⟨p.sn g c 0, p.sn g c 1 % 4294967296, p.sn g c 2⟩
def Pr.row (p : Pr) (g : Nat) : List Sp := mapR p.cp (p.spt g)
def Pr.snA (p : Pr) : Snm := ⟨toI p.nx, ⟨(p.cp : Int), p.cr, none, 0, mapR p.gp p.grp, none, 0, p.cl.map toI, none, 0, p.cu.map toI, none, 0, mapR p.tk p.tsk, none, 0, mapR p.gp fun g => ⟨none, 0, p.row g⟩⟩⟩
def dle (x m : Nat) : Bool := decide (x ≤ m)
def Pr.ok0 (p : Pr) : Bool := (((true && dle p.nx mostI) && dle p.cp mostI) && dle p.cr 18446744073709551615) && dle p.gp mostI
def Pr.okG (p : Pr) : Nat → Bool
 | 0 => p.ok0
 | g + 1 => if g = 0 then p.ok0 else (p.okG g && dle (p.gs.getD (2 * (g - 1)) 0) mostI) && dle (p.gs.getD (2 * (g - 1) + 1) 0) mostI
def Pr.okC (p : Pr) : Nat → Bool
 | 0 => p.okG p.gp
 | k + 1 => p.okC k && dle (p.cl.getD k 0) mostI
def Pr.okU (p : Pr) : Nat → Bool
 | 0 => p.okC p.cp
 | k + 1 => p.okU k && dle (p.cu.getD k 0) mostI
def Pr.okT (p : Pr) : Nat → Bool
 | 0 => p.okU p.cp && dle p.tk mostI
 | i + 1 => ((((((((p.okT i && dle (p.tn i 0) mostI) && dle (p.tn i 1) mostI) && dle (p.tn i 2) mostI) && dle (p.tn i 3) mostI) && dle (p.tn i 4) 18446744073709551615) && dle (p.tn i 5) 1) && dle (p.tn i 6) 18446744073709551615) && dle (p.tn i 7) 4294967295) && decide (p.idA i ≤ 65535)
def Pr.okR (p : Pr) (base : Bool) (g : Nat) : Nat → Bool
 | 0 => base
 | c + 1 => if g = 0 then p.okR base g c && dle (p.sn g c 0) 18446744073709551615 else ((p.okR base g c && dle (p.sn g c 0) 18446744073709551615) && dle (p.sn g c 1) 4294967295) && dle (p.sn g c 2) 18446744073709551615
def Pr.okS (p : Pr) : Nat → Bool
 | 0 => p.okT p.tk
 | g + 1 => p.okR (p.okS g) g p.cp
def Pr.okB (p : Pr) : Bool := p.okS p.gp
section
variable {p : Pr} (h : p.Fit)
def Pr.oC (p : Pr) : Nat := 4 + 2 * (p.gp - 1)
def Pr.oT (p : Pr) : Nat := p.oC + 2 * p.cp
def Pr.oS (p : Pr) : Nat := p.oT + 1 + 8 * p.tk
theorem qbr {l m : List Nat} {k : Nat} (hk : k < l.length) : (l ++ m).getD k 0 = l.getD k 0 := by
 rw [List.getD_eq_getElem?_getD, List.getElem?_append_left hk, ← List.getD_eq_getElem?_getD]
theorem qbs {l m : List Nat} {k j : Nat} (hk : k = l.length + j) : (l ++ m).getD k 0 = m.getD j 0 := by
 rw [List.getD_eq_getElem?_getD, List.getElem?_append_right (by omega), ← List.getD_eq_getElem?_getD, hk, Nat.add_sub_cancel_left]
theorem qv5 (p : Pr) : p.nums.getD 0 0 = p.nx ∧ p.nums.getD 1 0 = p.cp ∧ p.nums.getD 2 0 = p.cr ∧ p.nums.getD 3 0 = p.gp := by
 unfold Pr.nums
 simp [List.append_assoc]
include h in
theorem qn1 : p.nums.length = p.oS + p.sp.length ∧ p.sp.length = p.cp + 3 * p.cp * (p.gp - 1) := by
 unfold Pr.nums Pr.oS Pr.oT Pr.oC
 simp only [List.length_append, List.length_cons, List.length_nil, h.gs, h.cl, h.cu, h.ts]
 exact ⟨by omega, h.sp⟩
include h in
theorem qso {j : Nat} (hj : j < 2 * (p.gp - 1)) : p.nums.getD (4 + j) 0 = p.gs.getD j 0 := by
 have := h.gs
 unfold Pr.nums
 rw [List.append_assoc, List.append_assoc, List.append_assoc, List.append_assoc, List.append_assoc, qbs (l := [p.nx, p.cp, p.cr, p.gp]) (k := 4 + j) (j := j) rfl, qbr (by omega)]
include h in
theorem qzm {j : Nat} (hj : j < p.cp) : p.nums.getD (p.oC + j) 0 = p.cl.getD j 0 := by
 have := h.gs
 have := h.cl
 unfold Pr.nums Pr.oC
 rw [List.append_assoc, List.append_assoc, List.append_assoc, List.append_assoc, qbs (j := j) (by simp only [List.length_append, List.length_cons, List.length_nil]; omega), qbr (by omega)]
include h in
theorem qzn {j : Nat} (hj : j < p.cp) : p.nums.getD (p.oC + p.cp + j) 0 = p.cu.getD j 0 := by
 have := h.gs
 have := h.cl
 have := h.cu
 unfold Pr.nums Pr.oC
 rw [List.append_assoc, List.append_assoc, List.append_assoc, qbs (j := j) (by simp only [List.length_append, List.length_cons, List.length_nil]; omega), qbr (by omega)]
include h in
theorem qzo : p.nums.getD p.oT 0 = p.tk := by
 have := h.gs
 have := h.cl
 have := h.cu
 unfold Pr.nums Pr.oT Pr.oC
 rw [List.append_assoc, List.append_assoc, qbs (j := 0) (by simp only [List.length_append, List.length_cons, List.length_nil]; omega)]
 rfl
include h in
theorem qc0 {j : Nat} (hj : j < 8 * p.tk) : p.nums.getD (p.oT + 1 + j) 0 = p.ts.getD j 0 := by
 have := h.gs
 have := h.cl
 have := h.cu
 have := h.ts
 unfold Pr.nums Pr.oT Pr.oC
 rw [List.append_assoc, qbs (j := j) (by simp only [List.length_append, List.length_cons, List.length_nil]; omega), qbr (by omega)]
include h in
theorem qje (j : Nat) : p.nums.getD (p.oS + j) 0 = p.sp.getD j 0 := by
 have := h.gs
 have := h.cl
 have := h.cu
 have := h.ts
 unfold Pr.nums Pr.oS Pr.oT Pr.oC
 rw [qbs (j := j) (by simp only [List.length_append, List.length_cons, List.length_nil]; omega)]
theorem qck (p : Pr) (c : Nat) : p.so 0 c = c := if_pos rfl
theorem qb6 {g : Nat} (hg : 0 < g) (c : Nat) : p.so g c = p.cp + 3 * p.cp * (g - 1) + 3 * c := if_neg (by omega)
theorem qg9 {g : Nat} : p.so (g + 1) 0 = p.so g p.cp := by
 rw [qb6 (by omega)]
 rcases Nat.eq_zero_or_pos g with h0 | h0
 ·subst h0; rw [qck]; omega
 ·rw [qb6 h0, show g + 1 - 1 = (g - 1) + 1 by omega, Nat.mul_succ]; omega
include h in
theorem so_in {g c : Nat} (hg : g < p.gp) (hc : c < p.cp) : p.so g c + (if g = 0 then 1 else 3) ≤ p.sp.length := by
 rw [h.sp]
 rcases Nat.eq_zero_or_pos g with h0 | h0
 ·subst h0; rw [qck, if_pos rfl]; omega
 ·rw [qb6 h0, if_neg (by omega)]
  have : 3 * p.cp * (g - 1) + 3 * p.cp ≤ 3 * p.cp * (p.gp - 1) := by
   rw [← Nat.mul_succ]
   exact Nat.mul_le_mul_left _ (by omega)
  omega
end
def srcA (A : Option Addr) (c : Nat) : Nat → Option Addr
 | 0 => A
 | k + 1 => if c - k = 1 then srcA A c k else (srcA A c k).map (·.add (1 * 1))
theorem qsp {w : World} {B c : Nat} {A : Option Addr} {q : List Nat} (h : Rd w B 1 A q.length (q.map U64)) (hc : q.length ≤ c) : ∀ k, k ≤ q.length → Rd w B 1 (srcA A c k) (q.length - k) ((q.drop k).map U64)
 | 0, _ => h
 | k + 1, hk => by
  have h1 := qsp h hc k (by omega)
  have h2 := h1.mid (i := 1) (j := q.length - k) (c := c - k) (by omega) (Nat.le_refl _) (by omega)
  simp only [Nat.mul_one] at h2
  rw [← List.map_take, ← List.map_drop, List.take_of_length_le (by rw [List.length_drop]; omega), List.drop_drop] at h2
  rw [show q.length - (k + 1) = q.length - k - 1 by omega]
  exact h2
theorem q1q {w : World} {B c k gS oS : Nat} {A : Option Addr} {q : List Nat} (h : Rd w B 1 A q.length (q.map U64)) (hc : q.length ≤ c) (hk : k < q.length) (hA : srcA A c k = some ⟨gS, oS, none⟩) : w.cell? ⟨gS, oS, none⟩ = some (.int .u64 (q.getD k 0 : Int)) := by
 have h1 := qsp h hc k (by omega)
 rw [hA] at h1
 have h2 := h1.zu (k := 0) (zq (F := U64) (x := q.getD k 0) (by rw [List.getElem?_drop, List.getD_eq_getElem?_getD, Nat.add_zero, List.getElem?_eq_getElem hk]; rfl))
 rwa [Nat.zero_mul, Nat.add_zero] at h2
theorem qjf (x : Nat) : toI x = ((x : Int) + 9223372036854775808) % 18446744073709551616 - 9223372036854775808 := by unfold toI; rw [Go.IntKind.wrap_i64]
theorem qdr {x : Nat} (h : x < 18446744073709551616) : toU (toI x) = x := by rw [qjf]; unfold toU; omega
theorem qzp {x : Nat} (h : x < 18446744073709551616) (h0 : 0 ≤ toI x) : toI x = x := by rw [qjf] at *; omega
theorem qjg {x : Nat} (h : x ≤ 4611686018427387904) : toI x = x := by rw [qjf]; omega
theorem qn2 {a : Int} {x : Nat} (h : x < 18446744073709551616) : toU (Go.IntKind.i64.wrap (a + toI x) - a) = x := by rw [Go.IntKind.wrap_i64, qjf]; unfold toU; omega
def Pr.idC (p : Pr) : Nat → Int
 | 0 => 0
 | i + 1 => Go.IntKind.i64.wrap (p.idC i + toI (p.tn i 0))
def Pr.tskB (p : Pr) (i : Nat) : Tk := ⟨p.idC (i + 1), toI (p.tn i 1), toI (p.tn i 2), toI (p.tn i 3), p.tn i 4, decide (0 < p.tn i 5), p.tn i 6, p.tn i 7 % 4294967296⟩
def Pr.snB (p : Pr) : Snm := ⟨toI p.nx, ⟨(p.cp : Int), p.cr, none, 0, mapR p.gp p.grp, none, 0, p.cl.map toI, none, 0, p.cu.map toI, none, 0, mapR p.tk p.tskB, none, 0, mapR p.gp fun g => ⟨none, 0, p.row g⟩⟩⟩
theorem qxt (p : Pr) (i : Nat) : p.idB (i + 1) = if 65535 < p.idA i then 65535 else p.idA i := rfl
theorem id_A {p : Pr} : ∀ i, (∀ j, j < i → p.idA j ≤ 65535) → p.idB i = p.idC i
 | 0, _ => rfl
 | i + 1, h => by
  have h1 := id_A i fun j hj => h j (by omega)
  have h2 := h i (by omega)
  rw [qxt, if_neg (by omega)]
  unfold Pr.idA
  rw [h1]
  rfl
theorem id_C {p : Pr} : ∀ i, (∀ j, j < i → p.idC (j + 1) ≤ 65535) → p.idB i = p.idC i
 | 0, _ => rfl
 | i + 1, h => by
  have h1 := id_C i fun j hj => h j (by omega)
  have h2 := h i (by omega)
  have h3 : p.idA i = p.idC (i + 1) := by unfold Pr.idA; rw [h1]; rfl
  rw [qxt, if_neg (by omega), h3]
theorem idA_C {p : Pr} {i : Nat} (h : p.idB i = p.idC i) : p.idA i = p.idC (i + 1) := by unfold Pr.idA; rw [h]; rfl
theorem qha {α : Type} (l : List α) (o : Nat → Nat) (h0 : o 0 = 0) (ho : ∀ i, o i ≤ o (i + 1)) : ∀ k, (upF k fun i => (l.drop (o i)).take (o (i + 1) - o i)) = l.take (o k)
 | 0 => by rw [qbj, h0, List.take_zero]
 | k + 1 => by
  rw [qm, qha l o h0 ho k, ← List.take_add]
  congr 1
  have := ho k
  omega
theorem qmj (l : List Nat) : ∀ (m a : Nat), a + m ≤ l.length → (l.drop a).take m = (List.range m).map fun j => l.getD (a + j) 0
 | 0, a, _ => rfl
 | m + 1, a, h => by
  rw [List.take_add_one, qmj l m a (by omega), List.range_succ, List.map_append, List.getElem?_drop, List.getElem?_eq_getElem (by omega)]
  simp [List.getElem?_eq_getElem (show a + m < l.length by omega)]
theorem z4 {α : Type} {f g : Nat → List α} {k : Nat} (h : ∀ i, i < k → f i = g i) : upF k f = upF k g := qf2 k h
theorem qdb {l : List Nat} {m k : Nat} (h : l.length = m * k) : l = upF k fun i => (List.range m).map fun j => l.getD (m * i + j) 0 := by
 have h1 := qha l (fun i => m * i) rfl (fun i => by show m * i ≤ m * (i + 1); rw [Nat.mul_succ]; omega) k
 rw [List.take_of_length_le (show l.length ≤ m * k by omega)] at h1
 refine h1.symm.trans (z4 fun i hi => ?_)
 show (l.drop (m * i)).take (m * (i + 1) - m * i) = _
 have h2 : m * (i + 1) ≤ m * k := Nat.mul_le_mul_left _ hi
 rw [Nat.mul_succ] at h2
 rw [Nat.mul_succ, Nat.add_sub_cancel_left, qmj l m _ (by omega)]
theorem qhb {α : Type} {f g : Nat → List α} : ∀ k, (∀ i, i < k → (f i).length = (g i).length) → upF k f = upF k g → ∀ i, i < k → f i = g i
 | 0, _, _ => fun i hi => by omega
 | k + 1, hl, h => fun i hi => by
  rw [qm, qm] at h
  have h1 : (upF k f).length = (upF k g).length := by
   have := congrArg List.length h
   rw [List.length_append, List.length_append, hl k (by omega)] at this
   omega
  obtain ⟨h2, h3⟩ := List.append_inj h h1
  rcases Nat.lt_or_ge i k with h4 | h4
  ·exact qhb k (fun i hi => hl i (by omega)) h2 i h4
  ·obtain rfl : i = k := by omega
   exact h3
theorem qfe {α : Type} {f g : Nat → List α} : ∀ k, (∀ i, i < k → (f i).length = (g i).length) → (upF k f).length = (upF k g).length
 | 0, _ => rfl
 | k + 1, h => by rw [qm, qm, List.length_append, List.length_append, qfe k (fun i hi => h i (by omega)), h k (by omega)]
def Pr.sec (p : Pr) : Nat → List Nat
 | 0 => [p.nx]
 | 1 => [p.cp, p.cr, p.gp]
 | 2 => p.gs
 | 3 => p.cl
 | 4 => p.cu
 | 5 => p.tk :: p.ts
 | 6 => p.sp
 | _ => []
theorem qn3 (p : Pr) : p.nums = upF 7 p.sec := by
 rw [qm, qm, qm, qm, qm, qm, qm, qbj]
 simp [Pr.nums, Pr.sec]
structure Pr.Low (p : Pr) : Prop where
 t5 : ∀ i, i < p.tk → p.tn i 5 ≤ 1
 t7 : ∀ i, i < p.tk → p.tn i 7 ≤ 4294967295
 s1 : ∀ g, g < p.gp → 0 < g → ∀ c, c < p.cp → p.sn g c 1 ≤ 4294967295
section
variable {p : Pr}
theorem q1r (x : Nat) (h : x ∈ p.gs) : x ∈ p.nums := by simp [Pr.nums, h]
theorem qxu (x : Nat) (h : x ∈ p.cl) : x ∈ p.nums := by simp [Pr.nums, h]
theorem qxv (x : Nat) (h : x ∈ p.cu) : x ∈ p.nums := by simp [Pr.nums, h]
theorem q1s (x : Nat) (h : x ∈ p.ts) : x ∈ p.nums := by simp [Pr.nums, h]
theorem q1t (x : Nat) (h : x ∈ p.sp) : x ∈ p.nums := by simp [Pr.nums, h]
theorem qeh {l : List Nat} {n : Nat} (h : ∀ x ∈ l, x < n) (hn : 0 < n) (k : Nat) : l.getD k 0 < n := by
 rw [List.getD_eq_getElem?_getD]
 rcases Nat.lt_or_ge k l.length with h1 | h1
 ·rw [List.getElem?_eq_getElem h1]; exact h _ (List.getElem_mem h1)
 ·rw [List.getElem?_eq_none h1]; exact hn
variable (h : p.Fit)
include h
theorem gs_lt (k : Nat) : p.gs.getD k 0 < 18446744073709551616 := qeh (fun x hx => h.lt x (q1r x hx)) (by decide) k
theorem cl_lt (k : Nat) : p.cl.getD k 0 < 18446744073709551616 := qeh (fun x hx => h.lt x (qxu x hx)) (by decide) k
theorem cu_lt (k : Nat) : p.cu.getD k 0 < 18446744073709551616 := qeh (fun x hx => h.lt x (qxv x hx)) (by decide) k
theorem tn_lt (i j : Nat) : p.tn i j < 18446744073709551616 := qeh (fun x hx => h.lt x (q1s x hx)) (by decide) _
theorem sn_lt (g c j : Nat) : p.sn g c j < 18446744073709551616 := qeh (fun x hx => h.lt x (q1t x hx)) (by decide) _
theorem nx_lt : p.nx < 18446744073709551616 := h.lt _ (by simp [Pr.nums])
theorem cr_lt : p.cr < 18446744073709551616 := h.lt _ (by simp [Pr.nums])
theorem qv6 : p.gs = upF (p.gp - 1) fun i => [p.gs.getD (2 * i) 0, p.gs.getD (2 * i + 1) 0] := qdb h.gs
theorem qjh : p.ts = upF p.tk fun i => [p.tn i 0, p.tn i 1, p.tn i 2, p.tn i 3, p.tn i 4, p.tn i 5, p.tn i 6, p.tn i 7] := qdb h.ts
theorem q1u {g : Nat} (hg : g < p.gp) : (p.sp.drop (p.so g 0)).take (p.so (g + 1) 0 - p.so g 0) = upF p.cp fun c => if g = 0 then [p.sn g c 0] else [p.sn g c 0, p.sn g c 1, p.sn g c 2] := by
 have hs := h.sp
 rcases Nat.eq_zero_or_pos g with h0 | h0
 ·subst h0
  have e1 : p.so (0 + 1) 0 = p.cp := by rw [qg9, qck]
  rw [e1, qck, Nat.sub_zero, List.drop_zero]
  have hl : (p.sp.take p.cp).length = 1 * p.cp := by rw [List.length_take]; omega
  refine (qdb hl).trans (z4 fun c hc => ?_)
  rw [if_pos rfl]
  show [(p.sp.take p.cp).getD (1 * c + 0) 0] = [p.sp.getD (p.so 0 c + 0) 0]
  rw [qck, List.getD_eq_getElem?_getD, List.getD_eq_getElem?_getD, List.getElem?_take_of_lt (by omega), Nat.one_mul]
 ·have e1 : p.so (g + 1) 0 = p.so g 0 + 3 * p.cp := by rw [qg9, qb6 h0, qb6 h0, Nat.mul_zero, Nat.add_zero]
  have hin : p.so g 0 + 3 * p.cp ≤ p.sp.length := by
   rw [qb6 h0, hs]
   have : 3 * p.cp * (g - 1) + 3 * p.cp ≤ 3 * p.cp * (p.gp - 1) := by
    rw [← Nat.mul_succ]
    exact Nat.mul_le_mul_left _ (by omega)
   omega
  rw [e1, Nat.add_sub_cancel_left]
  have hl : ((p.sp.drop (p.so g 0)).take (3 * p.cp)).length = 3 * p.cp := by rw [List.length_take, List.length_drop]; omega
  refine (qdb hl).trans (z4 fun c hc => ?_)
  rw [if_neg (by omega)]
  have e2 : ∀ j, j < 3 → ((p.sp.drop (p.so g 0)).take (3 * p.cp)).getD (3 * c + j) 0 = p.sn g c j := fun j hj => by
   unfold Pr.sn
   rw [List.getD_eq_getElem?_getD, List.getD_eq_getElem?_getD, List.getElem?_take_of_lt (by omega), List.getElem?_drop, qb6 h0, qb6 h0]
   congr 2
   omega
  show [((p.sp.drop (p.so g 0)).take (3 * p.cp)).getD (3 * c + 0) 0, ((p.sp.drop (p.so g 0)).take (3 * p.cp)).getD (3 * c + 1) 0, ((p.sp.drop (p.so g 0)).take (3 * p.cp)).getD (3 * c + 2) 0] = _
  rw [e2 0 (by omega), e2 1 (by omega), e2 2 (by omega)]
theorem qji : p.sp = upF p.gp fun g => upF p.cp fun c => if g = 0 then [p.sn g c 0] else [p.sn g c 0, p.sn g c 1, p.sn g c 2] := by
 have h1 := qha p.sp (fun g => p.so g 0) (qck p 0) (fun g => by
  show p.so g 0 ≤ p.so (g + 1) 0
  rw [qg9]
  rcases Nat.eq_zero_or_pos g with h0 | h0
  ·subst h0; rw [qck]; omega
  ·rw [qb6 h0, qb6 h0]; omega) p.gp
 have h2 : p.so p.gp 0 = p.sp.length := by rw [qb6 h.gp1, h.sp]; omega
 rw [h2, List.take_length] at h1
 exact h1.symm.trans (z4 fun g hg => q1u h hg)
end
theorem prevB (p : Pr) {i : Nat} (hi : i ≤ p.tk) : qp (mapR p.tk p.tskB) i = p.idC i := by
 cases i with
 | zero => rfl
 | succ i => rw [qam, qdq (by omega)]; rfl
theorem secB {p : Pr} (h : p.Fit) : (∀ i, i < 7 → (secN p.snB i).length = (p.sec i).length) ∧ ((∀ i, i < 7 → secN p.snB i = p.sec i) ↔ p.Low) := by
 have hG : secN p.snB 2 = p.gs := by
  show upF ((mapR p.gp p.grp).length - 1) (gsN (mapR p.gp p.grp)) = p.gs
  rw [zz]
  refine (z4 fun i hi => ?_).trans (qv6 h).symm
  unfold gsN
  rw [qdq (by omega)]
  unfold Pr.grp
  rw [if_neg (by omega), Nat.add_sub_cancel, qdr (gs_lt h _), qdr (gs_lt h _)]
 have hm : ∀ l : List Nat, (∀ x ∈ l, x < 18446744073709551616) → (l.map toI).map toU = l := fun l hl => by
  rw [List.map_map]
  exact (List.map_congr_left fun x hx => qdr (hl x hx)).trans (List.map_id l)
 have hT : secN p.snB 5 = p.tk :: upF p.tk fun i => [p.tn i 0, p.tn i 1, p.tn i 2, p.tn i 3, p.tn i 4, if decide (0 < p.tn i 5) = true then 1 else 0, p.tn i 6, p.tn i 7 % 4294967296] := by
  show ((mapR p.tk p.tskB).length :: upF (mapR p.tk p.tskB).length fun i => tkN (qp (mapR p.tk p.tskB) i) ((mapR p.tk p.tskB).getD i Tk.zero)) = _
  rw [zz]
  congr 1
  refine z4 fun i hi => ?_
  rw [prevB p (by omega), qdq hi]
  show [toU (Go.IntKind.i64.wrap (p.idC i + toI (p.tn i 0)) - p.idC i), toU (toI (p.tn i 1)), toU (toI (p.tn i 2)), toU (toI (p.tn i 3)), _, _, _, _] = _
  rw [qn2 (tn_lt h i 0), qdr (tn_lt h i 1), qdr (tn_lt h i 2), qdr (tn_lt h i 3)]
  rfl
 have hS : secN p.snB 6 = upF p.gp fun g => upF p.cp fun c => if g = 0 then [p.sn g c 0] else [p.sn g c 0, p.sn g c 1 % 4294967296, p.sn g c 2] := by
  show (upF (mapR p.gp fun g => (⟨none, 0, p.row g⟩ : Rw)).length fun g => rwN g ((mapR p.gp fun g => (⟨none, 0, p.row g⟩ : Rw)).getD g Rw.zero).l) = _
  rw [zz]
  refine z4 fun g hg => ?_
  rw [qdq hg]
  show upF (p.row g).length (fun c => spN g ((p.row g).getD c Sp.zero)) = _
  unfold Pr.row
  rw [zz]
  refine z4 fun c hc => ?_
  rw [qdq hc]
  unfold Pr.spt
  rcases Nat.eq_zero_or_pos g with h0 | h0
  ·rw [if_pos h0, if_pos h0, qnn (by omega)]
  ·rw [if_neg (by omega), if_neg (by omega), qrx h0]; rfl
 have h0 : secN p.snB 0 = p.sec 0 := by show [toU (toI p.nx)] = [p.nx]; rw [qdr (nx_lt h)]
 have h1 : secN p.snB 1 = p.sec 1 := by
  show [toU (p.cp : Int), p.cr, (mapR p.gp p.grp).length] = [p.cp, p.cr, p.gp]
  have := h.cp2
  rw [zz, qyy (by omega)]
 have h3 : secN p.snB 3 = p.sec 3 := hm p.cl fun x hx => h.lt x (qxu x hx)
 have h4 : secN p.snB 4 = p.sec 4 := hm p.cu fun x hx => h.lt x (qxv x hx)
 constructor
 ·intro i hi
  match i, hi with
  | 0, _ => rw [h0]
  | 1, _ => rw [h1]
  | 2, _ => rw [hG]; rfl
  | 3, _ => rw [h3]
  | 4, _ => rw [h4]
  | 5, _ =>
   rw [hT]
   refine congrArg (· + 1) (Eq.trans ?_ (congrArg List.length (qjh h).symm))
   exact qfe p.tk fun i _ => rfl
  | 6, _ =>
   rw [hS]
   refine Eq.trans ?_ (congrArg List.length (qji h).symm)
   exact qfe p.gp fun g _ => qfe p.cp fun c _ => by split <;> rfl
 ·constructor
  ·intro hh
   have e5 := hh 5 (by omega)
   have e6 := hh 6 (by omega)
   rw [hT] at e5
   rw [hS] at e6
   replace e5 := (List.cons.inj e5).2
   rw [qjh h] at e5
   replace e6 : _ = p.sp := e6
   rw [qji h] at e6
   have f5 := qhb p.tk (fun i _ => by rfl) e5
   have f6 := qhb p.gp (fun g _ => qfe p.cp fun c _ => by split <;> rfl) e6
   refine ⟨fun i hi => ?_, fun i hi => ?_, fun g hg g0 c hc => ?_⟩
   ·have := f5 i hi
    simp only [List.cons.injEq, and_true, true_and] at this
    have := this.1
    split at this <;> omega
   ·have := f5 i hi
    simp only [List.cons.injEq, and_true, true_and] at this
    have := this.2
    omega
   ·have := qhb p.cp (fun c _ => by split <;> rfl) (f6 g hg) c hc
    rw [if_neg (by omega), if_neg (by omega)] at this
    simp only [List.cons.injEq, and_true, true_and] at this
    omega
  ·intro hl i hi
   match i, hi with
   | 0, _ => exact h0
   | 1, _ => exact h1
   | 2, _ => exact hG
   | 3, _ => exact h3
   | 4, _ => exact h4
   | 5, _ =>
    rw [hT]
    show _ = p.tk :: p.ts
    congr 1
    refine Eq.trans (z4 fun i hi => ?_) (qjh h).symm
    have g5 := hl.t5 i hi
    have g7 := hl.t7 i hi
    rw [Nat.mod_eq_of_lt (show p.tn i 7 < 4294967296 by omega)]
    congr 5
    split
    ·rename_i hd; rw [decide_eq_true_eq] at hd; rw [show p.tn i 5 = 1 by omega]
    ·rename_i hd; rw [decide_eq_true_eq] at hd; rw [show p.tn i 5 = 0 by omega]
   | 6, _ =>
    rw [hS]
    refine Eq.trans (z4 fun g hg => z4 fun c hc => ?_) (qji h).symm
    rcases Nat.eq_zero_or_pos g with g0 | g0
    ·rw [if_pos g0, if_pos g0]
    ·have := hl.s1 g hg g0 c hc
     rw [if_neg (by omega), if_neg (by omega), Nat.mod_eq_of_lt (by omega)]
theorem numsB {p : Pr} (h : p.Fit) : numsS p.snB = p.nums ↔ p.Low := by
 rw [qn3]
 exact ⟨fun e => (secB h).2.1 (qhb 7 (secB h).1 e), fun e => z4 ((secB h).2.2 e)⟩
theorem qaf {x m : Nat} (h : x ≤ m) : dle x m = true := decide_eq_true h
theorem qsq {x m : Nat} (h : dle x m = true) : x ≤ m := of_decide_eq_true h
section
variable {p : Pr}
theorem qsr {b : Bool} {g : Nat} : ∀ k, p.okR b g k = true → b = true ∧ (0 < g → ∀ c, c < k → p.sn g c 1 ≤ 4294967295)
 | 0, h => ⟨h, fun _ c hc => by omega⟩
 | k + 1, h => by
  rw [Pr.okR] at h
  split at h
  ·rw [Bool.and_eq_true] at h
   exact ⟨(qsr k h.1).1, fun h0 => by omega⟩
  ·simp only [Bool.and_eq_true] at h
   obtain ⟨h1, h2⟩ := qsr k h.1.1.1
   refine ⟨h1, fun h0 c hc => ?_⟩
   rcases Nat.lt_or_ge c k with h3 | h3
   ·exact h2 h0 c h3
   ·obtain rfl : c = k := by omega
    exact qsq h.1.2
theorem qxw : ∀ k, p.okS k = true → p.okT p.tk = true ∧ ∀ g, g < k → 0 < g → ∀ c, c < p.cp → p.sn g c 1 ≤ 4294967295
 | 0, h => ⟨h, fun g hg => by omega⟩
 | k + 1, h => by
  obtain ⟨h1, h2⟩ := qsr p.cp h
  obtain ⟨h3, h4⟩ := qxw k h1
  refine ⟨h3, fun g hg h0 c hc => ?_⟩
  rcases Nat.lt_or_ge g k with h5 | h5
  ·exact h4 g h5 h0 c hc
  ·obtain rfl : g = k := by omega
   exact h2 h0 c hc
theorem qxx : ∀ k, p.okT k = true → ∀ i, i < k → p.tn i 5 ≤ 1 ∧ p.tn i 7 ≤ 4294967295 ∧ p.idA i ≤ 65535
 | 0, _ => fun i hi => by omega
 | k + 1, h => fun i hi => by
  rw [Pr.okT] at h
  simp only [Bool.and_eq_true] at h
  rcases Nat.lt_or_ge i k with h5 | h5
  ·exact qxx k h.1.1.1.1.1.1.1.1.1 i h5
  ·obtain rfl : i = k := by omega
   exact ⟨qsq h.1.1.1.2, qsq h.1.2, of_decide_eq_true h.2⟩
theorem qss (h : p.okB = true) : p.Low ∧ ∀ i, i < p.tk → p.idA i ≤ 65535 := by
 obtain ⟨h1, h2⟩ := qxw p.gp h
 have h3 := qxx p.tk h1
 exact ⟨⟨fun i hi => (h3 i hi).1, fun i hi => (h3 i hi).2.1, h2⟩, fun i hi => (h3 i hi).2.2⟩
theorem snA_B (h : p.Low) (h2 : ∀ i, i ≤ p.tk → p.idB i = p.idC i) : p.snA = p.snB := by
 have e : mapR p.tk p.tsk = mapR p.tk p.tskB := by
  unfold mapR
  refine List.map_congr_left fun i hi => ?_
  rw [List.mem_range] at hi
  unfold Pr.tsk Pr.tskB
  rw [idA_C (h2 i (by omega)), show decide (p.tn i 5 = 1) = decide (0 < p.tn i 5) from decide_eq_decide.2 (by have := h.t5 i hi; omega)]
 unfold Pr.snA Pr.snB
 rw [e]
end
section
variable {p : Pr} (h : p.Fit)
include h
theorem qxy (hn : p.nx ≤ mostI) : p.ok0 = true := by
 unfold Pr.ok0
 have h1 := h.cp2
 have h2 := h.gp2
 have h3 := cr_lt h
 unfold mostI at *
 rw [qaf hn, qaf (show p.cp ≤ 4611686018427387904 by omega), qaf (show p.cr ≤ 18446744073709551615 by omega), qaf (show p.gp ≤ 4611686018427387904 by omega)]
 rfl
theorem qxz (hn : p.nx ≤ mostI) (hg : ∀ i, i < 2 * (p.gp - 1) → p.gs.getD i 0 ≤ mostI) : ∀ k, k ≤ p.gp → p.okG k = true
 | 0, _ => qxy h hn
 | k + 1, hk => by
  rw [Pr.okG]
  split
  ·exact qxy h hn
  ·rw [qxz hn hg k (by omega), qaf (hg _ (by omega)), qaf (hg _ (by omega))]
   rfl
end
section
variable {p : Pr}
theorem qx0 (h0 : p.okG p.gp = true) (hc : ∀ i, i < p.cp → p.cl.getD i 0 ≤ mostI) : ∀ k, k ≤ p.cp → p.okC k = true
 | 0, _ => h0
 | k + 1, hk => by rw [Pr.okC, qx0 h0 hc k (by omega), qaf (hc _ (by omega))]; rfl
theorem qx1 (h0 : p.okC p.cp = true) (hc : ∀ i, i < p.cp → p.cu.getD i 0 ≤ mostI) : ∀ k, k ≤ p.cp → p.okU k = true
 | 0, _ => h0
 | k + 1, hk => by rw [Pr.okU, qx1 h0 hc k (by omega), qaf (hc _ (by omega))]; rfl
theorem qx2 (h : p.Fit) (h0 : p.okU p.cp = true) (hl : p.Low) (ht : ∀ i, i < p.tk → p.tn i 0 ≤ mostI ∧ p.tn i 1 ≤ mostI ∧ p.tn i 2 ≤ mostI ∧ p.tn i 3 ≤ mostI) (hi : ∀ i, i < p.tk → p.idA i ≤ 65535) : ∀ k, k ≤ p.tk → p.okT k = true
 | 0, _ => by
  rw [Pr.okT, h0, qaf (by have := h.tk; unfold mostI; omega)]; rfl
 | k + 1, hk => by
  obtain ⟨t0, t1, t2, t3⟩ := ht k (by omega)
  have t4 := tn_lt h k 4
  have t6 := tn_lt h k 6
  rw [Pr.okT, qx2 h h0 hl ht hi k (by omega), qaf t0, qaf t1, qaf t2, qaf t3, qaf (show p.tn k 4 ≤ 18446744073709551615 by omega), qaf (hl.t5 k (by omega)), qaf (show p.tn k 6 ≤ 18446744073709551615 by omega), qaf (hl.t7 k (by omega)), decide_eq_true (hi k (by omega))]
  rfl
theorem qst (h : p.Fit) {b : Bool} (hb : b = true) {g : Nat} (hg : 0 < g → ∀ c, c < p.cp → p.sn g c 1 ≤ 4294967295) : ∀ k, k ≤ p.cp → p.okR b g k = true
 | 0, _ => hb
 | k + 1, hk => by
  have t0 := sn_lt h g k 0
  have t2 := sn_lt h g k 2
  rw [Pr.okR]
  split
  ·rw [qst h hb hg k (by omega), qaf (show p.sn g k 0 ≤ 18446744073709551615 by omega)]; rfl
  ·rw [qst h hb hg k (by omega), qaf (show p.sn g k 0 ≤ 18446744073709551615 by omega), qaf (hg (by omega) k (by omega)), qaf (show p.sn g k 2 ≤ 18446744073709551615 by omega)]; rfl
theorem qx3 (h : p.Fit) (h0 : p.okT p.tk = true) (hl : p.Low) : ∀ k, k ≤ p.gp → p.okS k = true
 | 0, _ => h0
 | k + 1, hk => qst h (qx3 h h0 hl k (by omega)) (fun g0 c hc => hl.s1 k (by omega) g0 c hc) p.cp (Nat.le_refl _)
end
theorem qmk (x : Int) : I64 (Go.IntKind.i64.wrap x) := by rw [Go.IntKind.wrap_i64]; unfold I64; omega
theorem qei (x : Nat) : I64 (toI x) := qmk _
theorem qdc {α : Type} {n : Nat} {f : Nat → α} {q : α → Prop} (h : ∀ i, i < n → q (f i)) : ∀ x ∈ mapR n f, q x := by
 intro x hx
 obtain ⟨i, hi, rfl⟩ := List.mem_map.1 hx
 exact h i (List.mem_range.1 hi)
section
variable {p : Pr} (h : p.Fit)
include h
theorem qx4 (g : Nat) : (p.grp g).Ok := by
 unfold Pr.grp
 split
 ·exact ⟨by unfold I64; decide, by unfold I64; decide⟩
 ·exact ⟨qei _, qei _⟩
theorem q1v (g c : Nat) : (p.spt g c).Ok := by
 have t0 := sn_lt h g c 0
 have t2 := sn_lt h g c 2
 unfold Pr.spt
 split
 ·exact ⟨show 0 < 18446744073709551616 by decide, show 0 < 4294967296 by decide, t0⟩
 ·exact ⟨t0, Nat.mod_lt _ (by decide), t2⟩
theorem cp_in : I64 (p.cp : Int) := by have := h.cp2; unfold I64; omega
theorem qjj (l : List Nat) : ∀ x ∈ l.map toI, I64 x := by
 intro x hx
 obtain ⟨y, _, rfl⟩ := List.mem_map.1 hx
 exact qei y
theorem rows_ok : ∀ l ∈ (mapR p.gp fun g => (⟨none, 0, p.row g⟩ : Rw)).map Rw.l, ∀ x ∈ l, Sp.Ok x := by
 intro l hl
 obtain ⟨y, hy, rfl⟩ := List.mem_map.1 hl
 obtain ⟨g, _, rfl⟩ := List.mem_map.1 hy
 exact qdc fun c _ => q1v h g c
theorem qzq (i : Nat) : (p.tsk i).Ok := ⟨qmk _, qei _, qei _, qei _, tn_lt h i 4, tn_lt h i 6, Nat.mod_lt _ (by decide)⟩
theorem qzr (i : Nat) : (p.tskB i).Ok := ⟨qmk _, qei _, qei _, qei _, tn_lt h i 4, tn_lt h i 6, Nat.mod_lt _ (by decide)⟩
theorem q1w : p.snA.st.sta.Ok := ⟨cp_in h, cr_lt h, qdc fun g _ => qx4 h g, qjj h _, qjj h _, qdc fun i _ => qzq h i, rows_ok h⟩
theorem qx5 : p.snB.st.sta.Ok := ⟨cp_in h, cr_lt h, qdc fun g _ => qx4 h g, qjj h _, qjj h _, qdc fun i _ => qzr h i, rows_ok h⟩
theorem qjk {l : List Nat} {n : Nat} (hl : l.length = n) (hn : n ≤ 1000000) : (l.map toI).length ≤ 1000000 := by rw [List.length_map]; omega
theorem qn4 : ∀ y ∈ mapR p.gp fun g => (⟨none, 0, p.row g⟩ : Rw), y.l.length ≤ 1000000 := qdc fun g _ => by
 have := h.cp2
 show (p.row g).length ≤ 1000000
 unfold Pr.row
 rw [zz]
 omega
theorem qn5 (s : Snm) (hs : s = p.snA ∨ s = p.snB) : StFew s.st := by
 have h1 := h.cp2
 have h2 := h.gp2
 have h3 := h.tk
 rcases hs with rfl | rfl
 ·exact ⟨by show (mapR _ _).length ≤ _; rw [zz]; omega, qjk h h.cl (by omega), qjk h h.cu (by omega), by show (mapR _ _).length ≤ _; rw [zz]; omega, by show (mapR _ _).length ≤ _; rw [zz]; omega, qn4 h⟩
 ·exact ⟨by show (mapR _ _).length ≤ _; rw [zz]; omega, qjk h h.cl (by omega), qjk h h.cu (by omega), by show (mapR _ _).length ≤ _; rw [zz]; omega, by show (mapR _ _).length ≤ _; rw [zz]; omega, qn4 h⟩
end
theorem qsu {p : Pr} (h : p.Fit) (hk : chkS p.snB = 0) (hl : p.Low) : p.okB = true ∧ p.snA = p.snB := by
 have hn := (qr3 hk).1
 have hr := (qr3 hk).2
 have hsh := qr4 hk
 have e : mostI = 4611686018427387904 := rfl
 have big : ∀ {x : Nat} {n : Int}, x < 18446744073709551616 → 0 ≤ toI x → toI x ≤ n → n ≤ 4611686018427387904 → x ≤ mostI := fun {x n} h1 h2 h3 h4 => by
  rw [qzp h1 h2] at h3; omega
 have hgl : p.snB.st.gs.length = p.gp := zz _ _
 have htl : p.snB.st.ts.length = p.tk := zz _ _
 have hrl : p.snB.st.rs.length = p.gp := zz _ _
 have hgd : ∀ g, g < p.gp → p.snB.st.gs.getD g Gr.zero = p.grp g := fun g hg => qdq hg
 have htd : ∀ i, i < p.tk → p.snB.st.ts.getD i Tk.zero = p.tskB i := fun i hi => qdq hi
 obtain ⟨hc1, hc2, _, hgs⟩ := qdg hsh.cfg
 have hnx : p.nx ≤ mostI := big (nx_lt h) (by have := hn.1; show (0 : Int) ≤ p.snB.next; omega) hn.2 (by omega)
 have hG : ∀ i, i < 2 * (p.gp - 1) → p.gs.getD i 0 ≤ mostI := fun i hi => by
  have hg : i / 2 + 1 < p.gp := by omega
  have h1 := (qga hgs).2.2.2 (i / 2 + 1) (by omega)
  have h2 := qiv h1 (by omega)
  have h3 := wt_at hgs (g := i / 2 + 1) (by omega)
  unfold ParB at h2
  rw [hgd _ hg] at h2 h3
  unfold Pr.grp at h2 h3
  rw [if_neg (by omega)] at h2 h3
  rw [Nat.add_sub_cancel] at h2 h3
  dsimp only at h2 h3
  rcases Nat.mod_two_eq_zero_or_one i with h4 | h4
  ·rw [show i = 2 * (i / 2) by omega]
   exact big (n := 256) (gs_lt h _) h2.1 (by have := h2.2; have := h.gp2; show toI _ ≤ 256; omega) (by omega)
  ·rw [show i = 2 * (i / 2) + 1 by omega]
   exact big (gs_lt h _) (by have := h3.1; show 0 ≤ toI _; omega) h3.2 (by omega)
 have hmap : ∀ (l : List Nat) (k : Nat), k < l.length → (l.map toI).getD k 0 = toI (l.getD k 0) := fun l k hk => by
  rw [List.getD_eq_getElem?_getD, List.getD_eq_getElem?_getD, List.getElem?_map, List.getElem?_eq_getElem hk]; rfl
 have hC : ∀ i, i < p.cp → p.cl.getD i 0 ≤ mostI := fun i hi => by
  have hcl := h.cl
  have h1 := hsh.cls i (by show i < (p.cl.map toI).length; rw [List.length_map]; omega)
  rw [show p.snB.st.cl.getD i 0 = toI (p.cl.getD i 0) from hmap p.cl i (by omega)] at h1
  unfold clOk at h1
  rw [decide_eq_true_eq] at h1
  exact big (cl_lt h _) h1.1 h1.2 (by omega)
 have htk : ∀ i, i < p.tk → _ := fun i hi => qi5 (hsh.tk i (by omega))
 have hT : ∀ i, i < p.tk → (1 ≤ p.idC (i + 1) ∧ p.idC (i + 1) ≤ 65535) ∧ p.tn i 1 ≤ mostI ∧ p.tn i 2 ≤ mostI ∧ p.tn i 3 ≤ mostI := fun i hi => by
  have h1 := (htk i hi).2
  rw [htd i hi] at h1
  unfold tkOk1 wOk at h1
  simp only [Bool.and_eq_true, decide_eq_true_eq] at h1
  obtain ⟨⟨a1, a2, a3, a4, a5, a6⟩, ⟨b1, b2⟩, _⟩ := h1
  rw [qaz, hrl] at a4
  have := h.gp2
  have := h.cp2
  refine ⟨⟨a1, a2⟩, big (n := 256) (tn_lt h i 1) a3 (by show toI _ ≤ 256; have a4 : toI (p.tn i 1) < p.gp := a4; omega) (by omega), big (tn_lt h i 2) (by have b1 : 1 ≤ toI (p.tn i 2) := b1; omega) b2 (by omega), big (n := 64) (tn_lt h i 3) a5 (by have a6 : toI (p.tn i 3) < (p.cp : Int) := a6; omega) (by omega)⟩
 have hI : ∀ i, i ≤ p.tk → p.idB i = p.idC i := fun i hi => id_C i fun j hj => (hT j (by omega)).1.2
 have hA : ∀ i, i < p.tk → p.idA i ≤ 65535 := fun i hi => by rw [idA_C (hI i (by omega))]; exact (hT i hi).1.2
 have h0 : ∀ i, i < p.tk → p.tn i 0 ≤ mostI := fun i hi => by
  have h1 := (htk i hi).1
  have h2 : 0 ≤ p.idC i ∧ p.idC i < p.idC (i + 1) := by
   rcases i with _ | i
   ·have := (hT 0 hi).1.1
    exact ⟨Int.le_refl _, by show (0 : Int) < _; omega⟩
   ·have h3 := (hT i (by omega)).1.1
    rw [Nat.add_sub_cancel, htd i (by omega), htd (i + 1) hi] at h1
    rcases h1 with h1 | h1
    ·omega
    ·exact ⟨by omega, h1⟩
  have h3 := qn2 (a := p.idC i) (tn_lt h i 0)
  have h4 : Go.IntKind.i64.wrap (p.idC i + toI (p.tn i 0)) = p.idC (i + 1) := rfl
  rw [h4] at h3
  have h5 := (hT i hi).1
  unfold toU at h3
  omega
 have hU : ∀ i, i < p.cp → p.cu.getD i 0 ≤ mostI := fun i hi => by
  have hcu := h.cu
  have hcl : i < p.snB.st.cu.length := by show i < (p.cu.map toI).length; rw [List.length_map]; omega
  unfold qac at hr
  rw [Bool.and_eq_true] at hr
  have h1 := qcb hr.2 (i := i) hcl
  rw [Bool.and_eq_true] at h1
  have h2 := h1.1
  unfold curOk at h2
  have hz : p.snB.st.sta.cu.getD i 0 = toI (p.cu.getD i 0) := hmap p.cu i (by omega)
  rw [hz] at h2
  rw [Bool.or_eq_true, decide_eq_true_eq] at h2
  rcases h2 with h2 | h2
  ·exact big (cu_lt h _) (by omega) (Int.le_of_eq h2) (by omega)
  ·split at h2
   ·rename_i j hj
    obtain ⟨h3, h4⟩ := qrs hj
    have h3 : j < p.tk := by have : j < p.snB.st.ts.length := h3; omega
    rw [show p.snB.st.sta.ts.getD j Tk.zero = p.tskB j from htd j h3] at h4
    have h5 := (hT j h3).1
    have h4 : p.idC (j + 1) = toI (p.cu.getD i 0) := h4
    exact big (n := 65535) (cu_lt h _) (by omega) (by omega) (by omega)
   ·cases h2
 refine ⟨qx3 h (qx2 h (qx1 (qx0 (qxz h hnx hG p.gp (Nat.le_refl _)) hC p.cp (Nat.le_refl _)) hU p.cp (Nat.le_refl _)) hl (fun i hi => ⟨h0 i hi, (hT i hi).2⟩) hA p.tk (Nat.le_refl _)) hl p.gp (Nat.le_refl _), snA_B hl hI⟩
theorem qsv {p : Pr} (hb : p.okB = true) : p.snA = p.snB := by
 obtain ⟨hl, hi⟩ := qss hb
 exact snA_B hl fun i h => id_A i fun j hj => hi j (by omega)
theorem qv7 {xs ys : List Nat} (hx : ∀ x ∈ xs, x < 18446744073709551616) (hy : ∀ x ∈ ys, x < 18446744073709551616) (hl : xs.length = ys.length) (h : xs.flatMap vbytes = ys.flatMap vbytes) : xs = ys := by
 have h1 := qg5 xs [] hx
 have h2 := qg5 ys [] hy
 rw [h, hl] at h1
 rw [h1] at h2
 exact (Prod.mk.inj h2).1
theorem qds {l : List Nat} {p : Pr} (hl : ∀ z ∈ l, z < 256) (h : opnR l = .ok p) : 15 ≤ l.length ∧ l.length ≤ 16777216 ∧ p.Fit ∧ l = sealL ([113, 115, 1] ++ p.nums.flatMap vbytes) := by
 unfold opnR at h
 split at h
 ·cases h
 rename_i h1
 split at h
 ·cases h
 rename_i h2
 split at h
 ·cases h
 rename_i h3
 split at h
 ·cases h
 rename_i h4
 split at h
 ·cases h
 rename_i h5
 have h4 : l.getD 0 0 = 113 ∧ l.getD 1 0 = 115 := Decidable.of_not_not h4
 have h5 : l.getD 2 0 = 1 := Decidable.of_not_not h5
 have hs : zb l = true := by cases hq : zb l with | true => rfl | false => exact absurd hq h3
 have hlen : (l.take (l.length - 4)).length = l.length - 4 := by rw [List.length_take]; omega
 obtain ⟨hf, hd⟩ := qzl (by omega) (fun z hz => hl z (List.mem_of_mem_take hz)) h
 refine ⟨by omega, by omega, hf, ?_⟩
 rw [← hd]
 have e : ([113, 115, 1] : List Nat) = (l.take (l.length - 4)).take 3 := by
  rw [List.take_take, show min 3 (l.length - 4) = 3 by omega]
  match l, h1, h4, h5 with
  | a :: b :: c :: r, _, h4, h5 =>
   have h6 : a = 113 := h4.1
   have h7 : b = 115 := h4.2
   have h8 : c = 1 := h5
   subst h6; subst h7; subst h8
   rfl
  | [], h1, _, _ => exact absurd (by decide) h1
  | [_], h1, _, _ => exact absurd (by simp) h1
  | [_, _], h1, _, _ => exact absurd (by simp) h1
 rw [e, List.take_append_drop, qrb hl hs]
theorem qv8 {a b : List Nat} (h : sealL a = sealL b) : a = b := by
 have h1 := congrArg List.length h
 rw [ze, ze] at h1
 exact (List.append_inj h (by omega)).1
theorem qsw {l : List Nat} {p : Pr} (hl : ∀ z ∈ l, z < 256) (h : opnR l = .ok p) : (p.okB = true ∧ chkS p.snA = 0) ↔ (chkS p.snB = 0 ∧ outS p.snB = l) := by
 obtain ⟨_, _, hf, he⟩ := qds hl h
 constructor
 ·rintro ⟨h1, h2⟩
  rw [qsv h1] at h2
  refine ⟨h2, ?_⟩
  rw [qmc h2, he]
  unfold bodyS
  rw [(numsB hf).2 (qss h1).1]
 ·rintro ⟨h1, h2⟩
  rw [qmc h1] at h2
  have h3 := qv8 (h2.trans he)
  unfold bodyS at h3
  have h4 := qv7 (qnp (qx5 hf) (qn5 hf _ (.inr rfl))) hf.lt (by rw [qn3]; exact qfe 7 (secB hf).1) (List.append_cancel_left h3)
  obtain ⟨h5, h6⟩ := qsu hf h1 ((numsB hf).1 h4)
  exact ⟨h5, by rw [h6]; exact h1⟩
def rdE (l : List Nat) : Nat := match opnR l with
 | .ok p => if p.okB = true ∧ chkS p.snA = 0 then 0 else 347
 | .error k => k
def qc1 : Snm := ⟨0, ⟨0, 0, none, 0, [], none, 0, [], none, 0, [], none, 0, [], none, 0, []⟩⟩
def rdS (l : List Nat) : Snm := match opnR l with
 | .ok p => if p.okB = true ∧ chkS p.snA = 0 then p.snA else qc1
 | .error _ => qc1
section
variable {l : List Nat} {p : Pr} {k : Nat}
theorem rd_no (h : opnR l = .error k) : rdE l = k ∧ rdS l = qc1 := by unfold rdE rdS; rw [h]; exact ⟨rfl, rfl⟩
theorem qf5 (h : opnR l = .ok p) (h2 : ¬ (p.okB = true ∧ chkS p.snA = 0)) : rdE l = 347 ∧ rdS l = qc1 := by unfold rdE rdS; rw [h]; exact ⟨if_neg h2, if_neg h2⟩
theorem qsx (h : opnR l = .ok p) (h2 : p.okB = true ∧ chkS p.snA = 0) : rdE l = 0 ∧ rdS l = p.snA := by unfold rdE rdS; rw [h]; exact ⟨if_pos h2, if_pos h2⟩
theorem qzs (hl : ∀ z ∈ l, z < 256) (h : opnR l = .ok p) (h2 : chkS p.snB = 0 ∧ outS p.snB = l) : rdE l = 0 ∧ rdS l = p.snB := by
 have h3 := (qsw hl h).2 h2
 rw [← qsv h3.1]
 exact qsx h h3
theorem qx6 (hl : ∀ z ∈ l, z < 256) (h : opnR l = .ok p) (h2 : ¬ (chkS p.snB = 0 ∧ outS p.snB = l)) : rdE l = 347 ∧ rdS l = qc1 := qf5 h fun h3 => h2 ((qsw hl h).1 h3)
end
theorem qv9 {b : List Nat} {p : Pr} (hb : 3 ≤ b.length) (h : prs b = .ok p) : 3 ≤ p.e1 ∧ p.e1 ≤ p.e2 ∧ p.e2 ≤ p.e3 ∧ p.e3 ≤ p.e4 ∧ p.e4 ≤ p.e5 ∧ p.e5 ≤ p.e6 ∧ p.e6 ≤ p.e7 ∧ p.e7 = b.length := by
 obtain ⟨nx, e1, h1, h⟩ := qf4 h
 obtain ⟨cp, a1, h2, c2, h⟩ := qda h
 obtain ⟨cr, a2, h3, h⟩ := qf4 h
 obtain ⟨gp, e2, h4, c4, h⟩ := qda h
 obtain ⟨gs, e3, h5, h⟩ := qa9 h
 obtain ⟨cl, e4, h6, h⟩ := qa9 h
 obtain ⟨cu, e5, h7, h⟩ := qa9 h
 obtain ⟨tk, a3, h8, c8, h⟩ := qda h
 obtain ⟨ts, e6, h9, h⟩ := qa9 h
 obtain ⟨sp, e7, h10, h⟩ := qa9 h
 unfold prs10 at h
 split at h
 ·cases h
 rename_i he
 injection h with h
 subst h
 have i1 := h1.2
 have i2 := h2.2
 have i3 := h3.2
 have i4 := h4.2
 have i5 := h5.2
 have i6 := h6.2
 have i7 := h7.2
 have i8 := h8.2
 have i9 := h9.2
 have i10 := h10.2
 refine ⟨i1, ?_, i5, i6, i7, ?_, i10, Decidable.of_not_not he⟩
 ·show e1 ≤ e2; omega
 ·show e5 ≤ e6; omega
theorem qwa {l : List Nat} {p : Pr} (hl : ∀ z ∈ l, z < 256) (h : opnR l = .ok p) : 3 ≤ p.e1 ∧ p.e1 ≤ p.e2 ∧ p.e2 ≤ p.e3 ∧ p.e3 ≤ p.e4 ∧ p.e4 ≤ p.e5 ∧ p.e5 ≤ p.e6 ∧ p.e6 ≤ p.e7 ∧ p.e7 + 4 = l.length := by
 have h0 := qds hl h
 unfold opnR at h
 repeat (split at h; · cases h)
 have hlen : (l.take (l.length - 4)).length = l.length - 4 := by rw [List.length_take]; omega
 have := qv9 (by omega) h
 omega
theorem qej (p : Pr) : p.secs.length = 9 := rfl
theorem qn6 {l : List Nat} {p : Pr} (hl : ∀ z ∈ l, z < 256) (h : opnR l = .ok p) {i : Nat} (hi : i < p.secs.length) : (p.secs.getD i Sec.zero).fr ≤ (p.secs.getD i Sec.zero).to ∧ (p.secs.getD i Sec.zero).to ≤ l.length := by
 obtain ⟨h1, h2, h3, h4, h5, h6, h7, h8⟩ := qwa hl h
 rw [qej] at hi
 unfold Pr.secs qj
 match i, hi with
 | 0, _ => exact ⟨Nat.zero_le _, show 3 ≤ l.length by omega⟩
 | 1, _ => exact ⟨h1, show p.e1 ≤ l.length by omega⟩
 | 2, _ => exact ⟨h2, show p.e2 ≤ l.length by omega⟩
 | 3, _ => exact ⟨h3, show p.e3 ≤ l.length by omega⟩
 | 4, _ => exact ⟨h4, show p.e4 ≤ l.length by omega⟩
 | 5, _ => exact ⟨h5, show p.e5 ≤ l.length by omega⟩
 | 6, _ => exact ⟨h6, show p.e6 ≤ l.length by omega⟩
 | 7, _ => exact ⟨h7, show p.e7 ≤ l.length by omega⟩
 | 8, _ => exact ⟨show p.e7 ≤ p.e7 + 4 by omega, show p.e7 + 4 ≤ l.length by omega⟩
def cutB (l : List Nat) (x : Sec) : List Nat := (l.take x.to).drop x.fr
theorem qn7 {l : List Nat} (hl : ∀ z ∈ l, z < 256) (x : Sec) : ∀ z ∈ cutB l x, z < 256 := fun z hz => hl z (List.mem_of_mem_take (List.mem_of_mem_drop hz))
theorem qn8 {w : World} {B c : Nat} {A : Option Addr} {l : List Nat} {x : Sec} (h : Rd w B 1 A l.length (l.map B8)) (h1 : x.fr ≤ x.to ∧ x.to ≤ l.length) (hc : l.length ≤ c) : Rd w B 1 (if c = x.fr then A else A.map (·.add (x.fr * 1))) (x.to - x.fr) ((cutB l x).map B8) := h.q01 h1.1 h1.2 hc
def difF (a b : List Nat) (X Y : List Sec) : Nat → Nat → ByteArray
 | 0, _ => ⟨#[]⟩
 | f + 1, i => if cutB a (X.getD i Sec.zero) = cutB b (Y.getD i Sec.zero) then difF a b X Y f (i + 1) else (X.getD i Sec.zero).nm
def difE (a b : List Nat) : Nat := if errR a = 0 then errR b else errR a
def difN (a b : List Nat) : ByteArray := match opnR a, opnR b with
 | .ok p, .ok q => difF a b p.secs q.secs 9 0
 | _, _ => ⟨#[]⟩
section
variable {a b : List Nat} {p q : Pr} {k : Nat} {X Y : List Sec} {i : Nat}
theorem qsy (h : opnR a = .error k) : difE a b = k ∧ difN a b = ⟨#[]⟩ := by
 have := qcj h
 unfold difE difN
 rw [qdp h, h, if_neg (by omega)]
 exact ⟨rfl, rfl⟩
theorem qsz (h : opnR a = .ok p) (h2 : opnR b = .error k) : difE a b = k ∧ difN a b = ⟨#[]⟩ := by
 unfold difE difN
 rw [qcz h, qdp h2, h, h2, if_pos rfl]
 exact ⟨rfl, rfl⟩
theorem qx7 (h : opnR a = .ok p) (h2 : opnR b = .ok q) : difE a b = 0 ∧ difN a b = difF a b p.secs q.secs (9 - 0) 0 := by
 unfold difE difN
 rw [qcz h, qcz h2, h, h2, if_pos rfl]
 exact ⟨rfl, rfl⟩
theorem qn9 (hi : i < 9) (h : cutB a (X.getD i Sec.zero) = cutB b (Y.getD i Sec.zero)) : difF a b X Y (9 - i) i = difF a b X Y (9 - (i + 1)) (i + 1) := by
 rw [show 9 - i = (9 - (i + 1)) + 1 by omega]
 exact if_pos h
theorem qoa (hi : i < 9) (h : ¬ cutB a (X.getD i Sec.zero) = cutB b (Y.getD i Sec.zero)) : difF a b X Y (9 - i) i = (X.getD i Sec.zero).nm := by
 rw [show 9 - i = (9 - (i + 1)) + 1 by omega]
 exact if_neg h
theorem qs0 (hi : ¬ i < 9) : difF a b X Y (9 - i) i = ⟨#[]⟩ := by
 rw [show 9 - i = 0 by omega]
 rfl
end
theorem Mem.zeroSt {W w : World} (h : Mem W w []) : Mem W w (stF qc1.st) := ((((h.nil 44 1).nil 46 8).nil 3 1).nil 3 1).nil 40 2
theorem qwb : StCap qc1.st := ⟨Nat.le_refl _, Nat.le_refl _, Nat.le_refl _, Nat.le_refl _, Nat.le_refl _, fun y hy => by cases hy⟩
theorem qs1 (s : Snm) : SnEq s s := sn_of rfl (qpn _)
def qk5 (w : World) (er : Nat) (s : Snm) (r : Ending) (w' : World) : Prop := ∃ z : Snm, r = .returned (.tuple #[.agg z.cells, .int .i64 (er : Int)]) ∧ SnEq s z ∧ StCap z.st ∧ Mem w w' (stF z.st)
theorem qa6 {w w' : World} {er k : Nat} {s : Snm} {r : Ending} (h : er = k ∧ s = qc1) (hr : r = .returned (.tuple #[.agg qc1.cells, .int .i64 (k : Int)])) (O : Mem w w' []) : qk5 w er s r w' := by
 obtain ⟨rfl, rfl⟩ := h
 exact ⟨qc1, hr, qs1 _, qwb, O.zeroSt⟩
theorem qk6 {w w' : World} {er : Nat} {s t z : Snm} {r : Ending} (h : er = 0 ∧ s = t) (hr : r = .returned (.tuple #[.agg z.cells, .int .i64 0])) (hz : SnEq t z) (hc : StCap z.st) (O : Mem w w' (stF z.st)) : qk5 w er s r w' := by
 obtain ⟨rfl, rfl⟩ := h
 exact ⟨z, hr, hz, hc, O⟩
theorem qx8 {s z : Snm} (h : SnEq s z) (hok : s.st.sta.Ok) : z.st.sta.Ok := by rw [qxr (qcw h)]; exact hok
theorem qy.zero {b : List Nat} {a e : Nat} (h : qy b 0 a [] e) : e = a := ((qy.nil b a).one h).2
theorem qy.uncons {b : List Nat} {k a e x : Nat} {xs : List Nat} (h : qy b (k + 1) a (x :: xs) e) : ∃ c, NumAt b a x c ∧ qy b k c xs e := by
 obtain ⟨h1, h2⟩ := h
 rw [readN] at h1
 split at h1
 ·rename_i h3; simp at h1
 ·rename_i h3
  split at h1
  ·rename_i h4; simp at h1
  ·rename_i h4
   simp only [Prod.mk.injEq, List.cons.injEq] at h1
   obtain ⟨⟨hx, hxs⟩, hu, _⟩ := h1
   refine ⟨a + (vread (b.drop a)).2.1, .of ?_, ?_, by omega⟩
   ·rw [← hx]
    have : (vread (b.drop a)).2.2 = 0 := by omega
    rw [← this]
   ·rw [List.drop_drop] at hxs hu h4
    rw [← hxs, show e - (a + (vread (b.drop a)).2.1) = (readN k (b.drop (a + (vread (b.drop a)).2.1))).2.1 by omega]
    have : (readN k (b.drop (a + (vread (b.drop a)).2.1))).2.2 = 0 := by omega
    rw [← this]
def wantN (i : Nat) (L : List (List Nat)) : Nat :=
 if i = 1 then 1 else if i = 2 then 3 else if i = 3 then 2 * ((L.getD 2 []).getD 2 0 - 1) else if i = 4 ∨ i = 5 then (L.getD 2 []).getD 0 0 else if i = 7 then (L.getD 2 []).getD 0 0 * (1 + 3 * ((L.getD 2 []).getD 2 0 - 1)) else 0
def needN (i : Nat) (L : List (List Nat)) (xs : List Nat) : Nat := if i = 6 then (if xs.length = 0 then 1 else 1 + 8 * xs.getD 0 0) else wantN i L
def chkN (i : Nat) (xs : List Nat) : Prop := (i = 2 → (0 < xs.length → 1 ≤ xs.getD 0 0 ∧ xs.getD 0 0 ≤ 64) ∧ (2 < xs.length → 1 ≤ xs.getD 2 0 ∧ xs.getD 2 0 ≤ 256)) ∧ (i = 6 → 0 < xs.length → xs.getD 0 0 ≤ 65535)
def RefAt (b : List Nat) (i : Nat) (L : List (List Nat)) (E : List Nat) (a : Nat) : Prop :=
 (i = 1 ∧ L = [[]] ∧ E = [3] ∧ a = 3) ∨
 (i = 2 ∧ ∃ nx, L = [[], [nx]] ∧ E = [3, a] ∧ prs b = prs1 b nx a) ∨
 (i = 3 ∧ ∃ nx e1 cp a1 cr a2 gp, L = [[], [nx], [cp, cr, gp]] ∧ E = [3, e1, a] ∧ (1 ≤ cp ∧ cp ≤ 64 ∧ 1 ≤ gp ∧ gp ≤ 256) ∧ prs b = prs4 b nx e1 cp a1 cr a2 gp a) ∨
 (i = 4 ∧ ∃ nx e1 cp a1 cr a2 gp e2 gs, L = [[], [nx], [cp, cr, gp], gs] ∧ E = [3, e1, e2, a] ∧ (1 ≤ cp ∧ cp ≤ 64 ∧ 1 ≤ gp ∧ gp ≤ 256) ∧ prs b = prs5 b nx e1 cp a1 cr a2 gp e2 gs a) ∨
 (i = 5 ∧ ∃ nx e1 cp a1 cr a2 gp e2 gs e3 cl, L = [[], [nx], [cp, cr, gp], gs, cl] ∧ E = [3, e1, e2, e3, a] ∧ (1 ≤ cp ∧ cp ≤ 64 ∧ 1 ≤ gp ∧ gp ≤ 256) ∧ prs b = prs6 b nx e1 cp a1 cr a2 gp e2 gs e3 cl a) ∨
 (i = 6 ∧ ∃ nx e1 cp a1 cr a2 gp e2 gs e3 cl e4 cu, L = [[], [nx], [cp, cr, gp], gs, cl, cu] ∧ E = [3, e1, e2, e3, e4, a] ∧ (1 ≤ cp ∧ cp ≤ 64 ∧ 1 ≤ gp ∧ gp ≤ 256) ∧ prs b = prs7 b nx e1 cp a1 cr a2 gp e2 gs e3 cl e4 cu a) ∨
 (i = 7 ∧ ∃ nx e1 cp a1 cr a2 gp e2 gs e3 cl e4 cu e5 tk a3 ts, L = [[], [nx], [cp, cr, gp], gs, cl, cu, tk :: ts] ∧ E = [3, e1, e2, e3, e4, e5, a] ∧ (1 ≤ cp ∧ cp ≤ 64 ∧ 1 ≤ gp ∧ gp ≤ 256) ∧ prs b = prs9 b nx e1 cp a1 cr a2 gp e2 gs e3 cl e4 cu e5 tk a3 ts a) ∨
 (i = 8 ∧ ∃ nx e1 cp a1 cr a2 gp e2 gs e3 cl e4 cu e5 tk a3 ts e6 sp, L = [[], [nx], [cp, cr, gp], gs, cl, cu, tk :: ts, sp] ∧ E = [3, e1, e2, e3, e4, e5, e6, a] ∧ (1 ≤ cp ∧ cp ≤ 64 ∧ 1 ≤ gp ∧ gp ≤ 256) ∧ prs b = prs10 b nx e1 cp a1 cr a2 gp e2 gs e3 cl e4 cu e5 tk a3 ts e6 sp a)
theorem qla {xs : List Nat} (h : xs.length < 3) : xs = [] ∨ (∃ x, xs = [x]) ∨ ∃ x y, xs = [x, y] := by
 match xs, h with
 | [], _ => exact .inl rfl
 | [x], _ => exact .inr (.inl ⟨x, rfl⟩)
 | [x, y], _ => exact .inr (.inr ⟨x, y, rfl⟩)
 | _ :: _ :: _ :: _, h => exact absurd h (by simp)
section
variable {b : List Nat} {i a e : Nat} {L : List (List Nat)} {E xs : List Nat}
theorem qti : RefAt b 1 [[]] [3] 3 := .inl ⟨rfl, rfl, rfl, rfl⟩
theorem qtj (h : RefAt b i L E a) (hi : 3 ≤ i) : 3 ≤ L.length ∧ ∃ cp cr gp, L.getD 2 [] = [cp, cr, gp] ∧ 1 ≤ cp ∧ cp ≤ 64 ∧ 1 ≤ gp ∧ gp ≤ 256 := by
 rcases h with ⟨rfl, _⟩ | ⟨rfl, _⟩ | ⟨rfl, _, _, cp, _, cr, _, gp, rfl, _, h, _⟩ | ⟨rfl, _, _, cp, _, cr, _, gp, _, _, rfl, _, h, _⟩ | ⟨rfl, _, _, cp, _, cr, _, gp, _, _, _, _, rfl, _, h, _⟩ | ⟨rfl, _, _, cp, _, cr, _, gp, _, _, _, _, _, _, rfl, _, h, _⟩ | ⟨rfl, _, _, cp, _, cr, _, gp, _, _, _, _, _, _, _, _, _, _, rfl, _, h, _⟩ | ⟨rfl, _, _, cp, _, cr, _, gp, _, _, _, _, _, _, _, _, _, _, _, _, rfl, _, h, _⟩
 ·omega
 ·omega
 all_goals exact ⟨by simp, cp, cr, gp, rfl, h⟩
theorem qz0 (h : RefAt b i L E a) : wantN i L ≤ 50000 := by
 unfold wantN
 rcases Nat.lt_or_ge i 3 with h1 | h1
 ·split
  ·omega
  ·split
   ·omega
   ·rw [if_neg (by omega), if_neg (by omega), if_neg (by omega)]; omega
 ·obtain ⟨_, cp, cr, gp, h2, h3, h4, h5, h6⟩ := qtj h h1
  rw [h2, if_neg (by omega), if_neg (by omega)]
  show (if i = 3 then 2 * (gp - 1) else if i = 4 ∨ i = 5 then cp else if i = 7 then cp * (1 + 3 * (gp - 1)) else 0) ≤ 50000
  have h7 : cp * (1 + 3 * (gp - 1)) ≤ 64 * (1 + 3 * 255) := Nat.mul_le_mul h4 (by omega)
  split
  ·omega
  ·split
   ·omega
   ·split <;> omega
theorem qz1 (h : RefAt b i L E a) (hc : chkN i xs) : needN i L xs ≤ 524281 := by
 unfold needN
 split
 ·rename_i h6
  split
  ·omega
  ·rename_i h7
   have := hc.2 h6 (by omega)
   omega
 ·have := qz0 h; omega
theorem qb7 {x : Nat} (hn : xs.length < needN i L xs) : (xs ++ [x]).length ≤ needN i L (xs ++ [x]) := by
 unfold needN at *
 rw [List.length_append]
 show xs.length + 1 ≤ _
 split
 ·rename_i h6
  rw [if_pos h6] at hn
  rw [if_neg (show ¬ (xs.length + [x].length = 0) by simp)]
  by_cases h7 : xs.length = 0
  ·omega
  ·rw [if_neg h7] at hn
   rw [qbr (by omega)]
   omega
 ·rename_i h6
  rw [if_neg h6] at hn
  omega
theorem qz2 (i : Nat) : chkN i [] := ⟨fun _ => ⟨fun h => absurd h (Nat.lt_irrefl 0), fun h => absurd h (by decide)⟩, fun _ h => absurd h (Nat.lt_irrefl 0)⟩
theorem qz3 (h : RefAt b i L E a) (hi : i < 8) (hp : qy b xs.length a xs e) (hc : chkN i xs) (hn : xs.length < needN i L xs) (hv : (vread (b.drop e)).2.2 ≠ 0) : prs b = .error 344 := by
 rcases h with ⟨rfl, rfl, rfl, rfl⟩ | ⟨rfl, nx, rfl, rfl, h⟩ | ⟨rfl, nx, e1, cp, a1, cr, a2, gp, rfl, rfl, hb, h⟩ | ⟨rfl, nx, e1, cp, a1, cr, a2, gp, e2, gs, rfl, rfl, hb, h⟩ | ⟨rfl, nx, e1, cp, a1, cr, a2, gp, e2, gs, e3, cl, rfl, rfl, hb, h⟩ | ⟨rfl, nx, e1, cp, a1, cr, a2, gp, e2, gs, e3, cl, e4, cu, rfl, rfl, hb, h⟩ | ⟨rfl, nx, e1, cp, a1, cr, a2, gp, e2, gs, e3, cl, e4, cu, e5, tk, a3, ts, rfl, rfl, hb, h⟩ | ⟨rfl, _⟩
 ·have : xs = [] := List.length_eq_zero_iff.1 (by have : xs.length < 1 := hn; omega)
  subst this
  obtain rfl := hp.zero
  exact qfc hv
 ·rcases qla (xs := xs) hn with rfl | ⟨x, rfl⟩ | ⟨x, y, rfl⟩
  ·obtain rfl := hp.zero
   exact h.trans (qdo hv)
  ·obtain ⟨c1, n1, hp⟩ := hp.uncons
   obtain rfl := hp.zero
   have := (hc.1 rfl).1 (by simp)
   exact h.trans ((n1.goC (by show ¬ (x < 1 ∨ 64 < x); have : 1 ≤ x ∧ x ≤ 64 := this; omega)).trans (qfc hv))
  ·obtain ⟨c1, n1, hp⟩ := hp.uncons
   obtain ⟨c2, n2, hp⟩ := hp.uncons
   obtain rfl := hp.zero
   have := (hc.1 rfl).1 (by simp)
   exact h.trans ((n1.goC (by show ¬ (x < 1 ∨ 64 < x); have : 1 ≤ x ∧ x ≤ 64 := this; omega)).trans (n2.go1.trans (qdo hv)))
 ·exact h.trans (qbq (hp.stuck hn hv))
 ·exact h.trans (qbq (hp.stuck hn hv))
 ·exact h.trans (qbq (hp.stuck hn hv))
 ·rcases xs with _ | ⟨x, xs⟩
  ·obtain rfl := hp.zero
   exact h.trans (qdo hv)
  ·obtain ⟨c1, n1, hp⟩ := hp.uncons
   have h6 : x ≤ 65535 := hc.2 rfl (by simp)
   have hn : xs.length + 1 < 1 + 8 * x := hn
   exact h.trans ((n1.goC (by omega)).trans (qbq (hp.stuck (m := 8 * x) (by omega) hv)))
 ·refine h.trans (qbq (hp.stuck ?_ hv))
  have hn : xs.length < cp * (1 + 3 * (gp - 1)) := hn
  rw [Nat.mul_add, Nat.mul_one, ← Nat.mul_assoc, Nat.mul_comm cp 3] at hn
  exact hn
 ·omega
theorem qek {x e2 : Nat} (h : RefAt b i L E a) (hp : qy b xs.length a xs e) (hc : chkN i xs) (hn : xs.length < needN i L xs) (hv : NumAt b e x e2) (hx : ¬ chkN i (xs ++ [x])) : prs b = .error 345 := by
 rcases h with ⟨rfl, _⟩ | ⟨rfl, nx, rfl, rfl, h⟩ | ⟨rfl, _⟩ | ⟨rfl, _⟩ | ⟨rfl, _⟩ | ⟨rfl, nx, e1, cp, a1, cr, a2, gp, e2, gs, e3, cl, e4, cu, rfl, rfl, hb, h⟩ | ⟨rfl, _⟩ | ⟨rfl, _⟩
 ·exact absurd ⟨fun h => absurd h (by decide), fun h => absurd h (by decide)⟩ hx
 ·rcases qla (xs := xs) hn with rfl | ⟨y, rfl⟩ | ⟨y, z, rfl⟩
  ·obtain rfl := hp.zero
   refine h.trans (hv.bad ?_)
   by_cases h1 : x < 1 ∨ 64 < x
   ·exact h1
   ·exact absurd ⟨fun _ => ⟨fun _ => show 1 ≤ x ∧ x ≤ 64 by omega, fun h => absurd h (by simp)⟩, fun h => absurd h (by decide)⟩ hx
  ·exact absurd ⟨fun _ => ⟨fun _ => (hc.1 rfl).1 (by simp), fun h => absurd h (by simp)⟩, fun h => absurd h (by decide)⟩ hx
  ·obtain ⟨c1, n1, hp⟩ := hp.uncons
   obtain ⟨c2, n2, hp⟩ := hp.uncons
   obtain rfl := hp.zero
   have h2 : 1 ≤ y ∧ y ≤ 64 := (hc.1 rfl).1 (by simp)
   refine h.trans ((n1.goC (by omega)).trans (n2.go1.trans (hv.bad ?_)))
   by_cases h1 : x < 1 ∨ 256 < x
   ·exact h1
   ·exact absurd ⟨fun _ => ⟨fun _ => h2, fun _ => show 1 ≤ x ∧ x ≤ 256 by omega⟩, fun h => absurd h (by decide)⟩ hx
 ·exact absurd ⟨fun h => absurd h (by decide), fun h => absurd h (by decide)⟩ hx
 ·exact absurd ⟨fun h => absurd h (by decide), fun h => absurd h (by decide)⟩ hx
 ·exact absurd ⟨fun h => absurd h (by decide), fun h => absurd h (by decide)⟩ hx
 ·rcases xs with _ | ⟨y, xs⟩
  ·obtain rfl := hp.zero
   refine h.trans (hv.bad ?_)
   by_cases h1 : x < 0 ∨ 65535 < x
   ·exact h1
   ·exact absurd ⟨fun h => absurd h (by decide), fun _ _ => show x ≤ 65535 by omega⟩ hx
  ·exact absurd ⟨fun h => absurd h (by decide), fun _ _ => hc.2 rfl (by simp)⟩ hx
 ·exact absurd ⟨fun h => absurd h (by decide), fun h => absurd h (by decide)⟩ hx
 ·exact absurd ⟨fun h => absurd h (by decide), fun h => absurd h (by decide)⟩ hx
theorem qtk (h : RefAt b i L E a) (hi : i < 8) (hp : qy b xs.length a xs e) (hc : chkN i xs) (hn : xs.length = needN i L xs) : RefAt b (i + 1) (L ++ [xs]) (E ++ [e]) e := by
 rcases h with ⟨rfl, rfl, rfl, rfl⟩ | ⟨rfl, nx, rfl, rfl, h⟩ | ⟨rfl, nx, e1, cp, a1, cr, a2, gp, rfl, rfl, hb, h⟩ | ⟨rfl, nx, e1, cp, a1, cr, a2, gp, e2, gs, rfl, rfl, hb, h⟩ | ⟨rfl, nx, e1, cp, a1, cr, a2, gp, e2, gs, e3, cl, rfl, rfl, hb, h⟩ | ⟨rfl, nx, e1, cp, a1, cr, a2, gp, e2, gs, e3, cl, e4, cu, rfl, rfl, hb, h⟩ | ⟨rfl, nx, e1, cp, a1, cr, a2, gp, e2, gs, e3, cl, e4, cu, e5, tk, a3, ts, rfl, rfl, hb, h⟩ | ⟨rfl, _⟩
 ·obtain ⟨x, rfl⟩ : ∃ x, xs = [x] := List.length_eq_one_iff.1 hn
  obtain ⟨c1, n1, hp⟩ := hp.uncons
  obtain rfl := hp.zero
  exact .inr (.inl ⟨rfl, x, rfl, rfl, n1.go1⟩)
 ·match xs, hn, hp, hc with
  | [x, y, z], _, hp, hc =>
   obtain ⟨c1, n1, hp⟩ := hp.uncons
   obtain ⟨c2, n2, hp⟩ := hp.uncons
   obtain ⟨c3, n3, hp⟩ := hp.uncons
   obtain rfl := hp.zero
   have h2 : 1 ≤ x ∧ x ≤ 64 := (hc.1 rfl).1 (by simp)
   have h3 : 1 ≤ z ∧ z ≤ 256 := (hc.1 rfl).2 (by simp)
   exact .inr (.inr (.inl ⟨rfl, nx, _, x, c1, y, c2, z, rfl, rfl, ⟨h2.1, h2.2, h3.1, h3.2⟩, h.trans ((n1.goC (by omega)).trans (n2.go1.trans (n3.goC (by omega))))⟩))
 ·refine .inr (.inr (.inr (.inl ⟨rfl, nx, e1, cp, a1, cr, a2, gp, _, xs, rfl, rfl, hb, ?_⟩)))
  rw [hn] at hp
  exact h.trans hp.goK
 ·refine .inr (.inr (.inr (.inr (.inl ⟨rfl, nx, e1, cp, a1, cr, a2, gp, e2, gs, _, xs, rfl, rfl, hb, ?_⟩))))
  rw [hn] at hp
  exact h.trans hp.goK
 ·refine .inr (.inr (.inr (.inr (.inr (.inl ⟨rfl, nx, e1, cp, a1, cr, a2, gp, e2, gs, e3, cl, _, xs, rfl, rfl, hb, ?_⟩)))))
  rw [hn] at hp
  exact h.trans hp.goK
 ·rcases xs with _ | ⟨x, xs⟩
  ·exact absurd hn (show ¬ ((0 : Nat) = 1) by decide)
  ·obtain ⟨c1, n1, hp⟩ := hp.uncons
   have h6 : x ≤ 65535 := hc.2 rfl (by simp)
   have hn : xs.length + 1 = 1 + 8 * x := hn
   rw [show xs.length = 8 * x by omega] at hp
   exact .inr (.inr (.inr (.inr (.inr (.inr (.inl ⟨rfl, nx, e1, cp, a1, cr, a2, gp, e2, gs, e3, cl, e4, cu, _, x, c1, xs, rfl, rfl, hb, h.trans ((n1.goC (by omega)).trans hp.goK)⟩))))))
 ·refine .inr (.inr (.inr (.inr (.inr (.inr (.inr ⟨rfl, nx, e1, cp, a1, cr, a2, gp, e2, gs, e3, cl, e4, cu, e5, tk, a3, ts, _, xs, rfl, rfl, hb, ?_⟩))))))
  have hn : xs.length = cp * (1 + 3 * (gp - 1)) := hn
  rw [Nat.mul_add, Nat.mul_one, ← Nat.mul_assoc, Nat.mul_comm cp 3] at hn
  rw [hn] at hp
  exact h.trans hp.goK
 ·omega
end
def Pr.lists (p : Pr) : List (List Nat) := [[], [p.nx], [p.cp, p.cr, p.gp], p.gs, p.cl, p.cu, p.tk :: p.ts, p.sp, []]
def Pr.ends (p : Pr) : List Nat := [3, p.e1, p.e2, p.e3, p.e4, p.e5, p.e6, p.e7, p.e7 + 4]
theorem qwk {b : List Nat} {L : List (List Nat)} {E : List Nat} {a : Nat} (h : RefAt b 8 L E a) (ha : a ≠ b.length) : prs b = .error 346 := by
 rcases h with ⟨h, _⟩ | ⟨h, _⟩ | ⟨h, _⟩ | ⟨h, _⟩ | ⟨h, _⟩ | ⟨h, _⟩ | ⟨h, _⟩ | ⟨_, nx, e1, cp, a1, cr, a2, gp, e2, gs, e3, cl, e4, cu, e5, tk, a3, ts, e6, sp, rfl, rfl, hb, h⟩
 all_goals first | (exact absurd h (by decide)) | exact h.trans (if_pos ha)
theorem qz4 {b : List Nat} {L : List (List Nat)} {E : List Nat} {a : Nat} (h : RefAt b 8 L E a) (ha : a = b.length) : ∃ p, prs b = .ok p ∧ p.lists = L ++ [[]] ∧ p.ends = E ++ [b.length + 4] := by
 subst ha
 rcases h with ⟨h, _⟩ | ⟨h, _⟩ | ⟨h, _⟩ | ⟨h, _⟩ | ⟨h, _⟩ | ⟨h, _⟩ | ⟨h, _⟩ | ⟨_, nx, e1, cp, a1, cr, a2, gp, e2, gs, e3, cl, e4, cu, e5, tk, a3, ts, e6, sp, rfl, rfl, hb, h⟩
 all_goals first | (exact absurd h (by decide)) | exact ⟨_, h.trans (if_neg (fun h => h rfl)), rfl, rfl⟩
def nmN (nm : ByteArray) (j : Nat) : Bool := nm.toList == (nmR j).toList
def wantR (nm : ByteArray) (L : List (List Nat)) : Nat :=
 if nmN nm 1 = true then 1 else if nmN nm 2 = true then 3 else if nmN nm 3 = true then 2 * ((L.getD 2 []).getD 2 0 - 1) else if nmN nm 4 = true then (L.getD 2 []).getD 0 0 else if nmN nm 5 = true then (L.getD 2 []).getD 0 0 else if nmN nm 7 = true then (L.getD 2 []).getD 0 0 * (1 + 3 * ((L.getD 2 []).getD 2 0 - 1)) else 0
theorem qdk {i j : Nat} (hi : i < 9) (hj : j < 9) : nmN (nmR i) j = decide (i = j) := nm_eq hi hj
theorem qz5 {i : Nat} (hi : i < 9) (L : List (List Nat)) : wantR (nmR i) L = wantN i L := by
 unfold wantR wantN
 rw [qdk hi (by decide), qdk hi (by decide), qdk hi (by decide), qdk hi (by decide), qdk hi (by decide), qdk hi (by decide)]
 simp only [decide_eq_true_eq]
 by_cases h4 : i = 4
 ·subst h4; rfl
 ·by_cases h5 : i = 5
  ·subst h5; rfl
  ·rw [if_neg h4, if_neg h5]
   simp only [h4, h5, or_self, if_false]
structure Nw where
 A : Option Addr
 c : Nat
 l : List Nat
def Nw.zero : Nw := ⟨none, 0, []⟩
def Nw.val (x : Nw) : Value := .slice x.A x.l.length x.c
def Nw.own (x : Nw) : Own := ⟨x.A, x.l.length, x.c, x.l.map U64⟩
def nwF (t : TypeId) (q : List Nw) : List Fact := ownsF t 1 (q.map Nw.own)
section
variable {W w w' : World} {fs : List Fact} {t : TypeId} {q : List Nw}
theorem qz6 {x : Nw} (hq : x ∈ q) : Fact.row (.slice x.A x.l.length x.c) x.l.length (x.l.map U64) t 1 ∈ nwF t q := List.mem_map_of_mem (List.mem_map_of_mem hq)
theorem Mem.toNw {A : Option Addr} {c : Nat} {l : List Nat} (h : Mem W w (.row (.slice A l.length c) l.length (l.map U64) t 1 :: (fs ++ nwF t q))) : Mem W w (fs ++ nwF t (q ++ [⟨A, c, l⟩])) := by
 have h1 := Mem.qym h
 unfold nwF
 rw [List.map_append]
 exact h1
end
theorem qyc (l : List Nw) : ∀ u ∈ l.map Nw.val, u.oneCell' = true := by
 intro u hu
 obtain ⟨x, _, rfl⟩ := List.mem_map.1 hu
 rfl
theorem qoe (l : List Nat) : ∀ u ∈ l.map I64v, u.oneCell' = true := by
 intro u hu
 obtain ⟨x, _, rfl⟩ := List.mem_map.1 hu
 rfl
section
variable {nm : ByteArray} {L : List (List Nat)}
theorem q12 (h1 : nmN nm 1 = true) : wantR nm L = 1 := by unfold wantR; rw [h1]; rfl
theorem q13 (h1 : nmN nm 1 = false) (h2 : nmN nm 2 = true) : wantR nm L = 3 := by unfold wantR; rw [h1, h2]; rfl
theorem q14 (h1 : nmN nm 1 = false) (h2 : nmN nm 2 = false) (h3 : nmN nm 3 = true) : wantR nm L = 2 * ((L.getD 2 []).getD 2 0 - 1) := by unfold wantR; rw [h1, h2, h3]; rfl
theorem q15 (h1 : nmN nm 1 = false) (h2 : nmN nm 2 = false) (h3 : nmN nm 3 = false) (h4 : nmN nm 4 = true) : wantR nm L = (L.getD 2 []).getD 0 0 := by unfold wantR; rw [h1, h2, h3, h4]; rfl
theorem q16 (h1 : nmN nm 1 = false) (h2 : nmN nm 2 = false) (h3 : nmN nm 3 = false) (h4 : nmN nm 4 = false) (h5 : nmN nm 5 = true) : wantR nm L = (L.getD 2 []).getD 0 0 := by unfold wantR; rw [h1, h2, h3, h4, h5]; rfl
theorem q17 (h1 : nmN nm 1 = false) (h2 : nmN nm 2 = false) (h3 : nmN nm 3 = false) (h4 : nmN nm 4 = false) (h5 : nmN nm 5 = false) (h7 : nmN nm 7 = true) : wantR nm L = (L.getD 2 []).getD 0 0 * (1 + 3 * ((L.getD 2 []).getD 2 0 - 1)) := by unfold wantR; rw [h1, h2, h3, h4, h5, h7]; rfl
theorem q18 (h1 : nmN nm 1 = false) (h2 : nmN nm 2 = false) (h3 : nmN nm 3 = false) (h4 : nmN nm 4 = false) (h5 : nmN nm 5 = false) (h7 : nmN nm 7 = false) : wantR nm L = 0 := by unfold wantR; rw [h1, h2, h3, h4, h5, h7]; rfl
end
theorem qel {q : List Nw} {k : Nat} (h : k < q.length) : (q.map Nw.l).getD k [] = (q.getD k Nw.zero).l := by
 rw [List.getD_eq_getElem?_getD, List.getD_eq_getElem?_getD, List.getElem?_map, List.getElem?_eq_getElem h]
 rfl
def NwRd (w : World) (q : List Nw) : Prop := ∀ y ∈ q, Rd w w.heap.size 1 y.A y.l.length (y.l.map U64)
theorem NwRd.old {W w : World} {fs : List Fact} {q : List Nw} (h : NwRd W q) (O : Mem W w fs) : NwRd w q := fun y hy => O.old (h y hy)
theorem NwRd.at {w : World} {q : List Nw} (h : NwRd w q) {k : Nat} (hk : k < q.length) : Rd w w.heap.size 1 (q.getD k Nw.zero).A (q.getD k Nw.zero).l.length ((q.getD k Nw.zero).l.map U64) := h _ (qr Nw.zero hk)
theorem Mem.nwAt {W w : World} {fs : List Fact} {t : TypeId} {q : List Nw} (n : Nat) (h : Mem W w fs) (he : fs.drop n = nwF t q) : NwRd w q := fun y hy => h.qlq (List.mem_of_mem_drop (he ▸ qz6 hy))
def Cfg3 (q : List Nw) : Prop := 3 ≤ q.length ∧ ∃ cp cr gp, (q.getD 2 Nw.zero).l = [cp, cr, gp] ∧ 1 ≤ cp ∧ cp ≤ 64 ∧ 1 ≤ gp ∧ gp ≤ 256
theorem qz7 {b : List Nat} {i a : Nat} {q : List Nw} {E : List Nat} (h : RefAt b i (q.map Nw.l) E a) (hi : 3 ≤ i) : Cfg3 q := by
 obtain ⟨h1, cp, cr, gp, h2, h3⟩ := qtj h hi
 rw [List.length_map] at h1
 rw [qel (by omega)] at h2
 exact ⟨h1, cp, cr, gp, h2, h3⟩
theorem qz8 {i : Nat} (hi : i < 9) (h : nmN (nmR i) 3 = true ∨ nmN (nmR i) 4 = true ∨ nmN (nmR i) 5 = true ∨ nmN (nmR i) 7 = true) : 3 ≤ i := by
 rw [qdk hi (by decide), qdk hi (by decide), qdk hi (by decide), qdk hi (by decide)] at h
 simp only [decide_eq_true_eq] at h
 omega
instance chkDec (i : Nat) (xs : List Nat) : Decidable (chkN i xs) := by unfold chkN; infer_instance
theorem qaw {i x : Nat} {xs : List Nat} (hc : chkN i xs) (h3 : i = 2 → xs.length < 3) : chkN i (xs ++ [x]) ↔ ((i = 2 ∧ xs.length = 0 → 1 ≤ x ∧ x ≤ 64) ∧ (i = 2 ∧ xs.length = 2 → 1 ≤ x ∧ x ≤ 256) ∧ (i = 6 ∧ xs.length = 0 → x ≤ 65535)) := by
 have hl : (xs ++ [x]).length = xs.length + 1 := by simp
 have hh : ∀ k, k < xs.length → (xs ++ [x]).getD k 0 = xs.getD k 0 := fun k hk => qbr hk
 have ht : (xs ++ [x]).getD xs.length 0 = x := (qbs (j := 0) rfl)
 unfold chkN at *
 rw [hl]
 constructor
 ·rintro ⟨h1, h2⟩
  refine ⟨fun ⟨a, k⟩ => ?_, fun ⟨a, k⟩ => ?_, fun ⟨a, k⟩ => ?_⟩
  ·have := (h1 a).1 (by omega)
   rw [k] at ht
   rwa [ht] at this
  ·have := (h1 a).2 (by omega)
   rw [k] at ht
   rwa [ht] at this
  ·have := h2 a (by omega)
   rw [k] at ht
   rwa [ht] at this
 ·rintro ⟨h1, h2, h4⟩
  refine ⟨fun a => ⟨fun _ => ?_, fun k => ?_⟩, fun a _ => ?_⟩
  ·by_cases h0 : xs.length = 0
   ·rw [h0] at ht; rw [ht]; exact h1 ⟨a, h0⟩
   ·rw [hh 0 (by omega)]; exact (hc.1 a).1 (by omega)
  ·have := h3 a
   have h5 : xs.length = 2 := by omega
   rw [h5] at ht; rw [ht]; exact h2 ⟨a, h5⟩
  ·by_cases h0 : xs.length = 0
   ·rw [h0] at ht; rw [ht]; exact h4 ⟨a, h0⟩
   ·rw [hh 0 (by omega)]; exact hc.2 a (by omega)
section
variable {i x : Nat} {L : List (List Nat)} {xs : List Nat}
theorem q19 (h : i = 6) : needN i L [] = 1 := by unfold needN; rw [if_pos h]; rfl
theorem qof (h : i ≠ 6) : needN i L xs = wantN i L := by unfold needN; rw [if_neg h]
theorem qc2 (h : ¬ (i = 6 ∧ xs.length = 0)) : needN i L (xs ++ [x]) = needN i L xs := by
 by_cases h6 : i = 6
 ·unfold needN
  rw [if_pos h6, if_pos h6, if_neg (show ¬ (xs ++ [x]).length = 0 by simp), if_neg (show ¬ xs.length = 0 from fun h0 => h ⟨h6, h0⟩), qbr (by have : xs.length ≠ 0 := fun h0 => h ⟨h6, h0⟩; omega)]
 ·rw [qof h6, qof h6]
theorem qpv (h6 : i = 6) (h0 : xs.length = 0) : needN i L (xs ++ [x]) = 1 + 8 * x := by
 obtain rfl : xs = [] := List.length_eq_zero_iff.1 h0
 unfold needN
 rw [if_pos h6]
 rfl
theorem qax (h : i = 2) (hn : xs.length < needN i L xs) : xs.length < 3 := by
 rw [qof (by omega)] at hn
 subst h
 exact hn
end
theorem qwl (i n : Nat) : (i = 2 ∧ n = 0) ∨ (i = 2 ∧ n = 2) ∨ (i = 2 ∧ n ≠ 0 ∧ n ≠ 2) ∨ (i = 6 ∧ n = 0) ∨ (i = 6 ∧ n ≠ 0) ∨ (i ≠ 2 ∧ i ≠ 6) := by omega
def qog (w : World) (l : List Nat) (r : Ending) (w' : World) : Prop := (∃ k : Nat, opnR l = .error k ∧ Is w (.tuple #[.slice none 0 0, .slice none 0 0, .int .i64 (k : Int)]) r w') ∨
 (∃ (p : Pr) (Q : List Nw) (A : Option Addr) (c : Nat) (EA : Option Addr) (ec : Nat), opnR l = .ok p ∧ Q.map Nw.l = p.lists ∧ (∀ y ∈ Q, y.l.length ≤ y.c) ∧ Q.length ≤ c ∧ p.ends.length ≤ ec ∧ r = .returned (.tuple #[.slice A Q.length c, .slice EA p.ends.length ec, .int .i64 0]) ∧
  Mem w w' (.row (.slice A Q.length c) Q.length (Q.map Nw.val) 58 1 :: .row (.slice EA p.ends.length ec) p.ends.length (p.ends.map I64v) 3 1 :: nwF 22 Q))
theorem zy {w w' : World} {l : List Nat} {r : Ending} {k : Nat} (n : Int) (h : opnR l = .error k) (hk : n = k) (hr : r = .returned (.tuple #[.slice none 0 0, .slice none 0 0, .int .i64 n])) (hb : Below w.heap.size w w') : qog w l r w' := .inl ⟨k, h, by rw [hr, hk], hb⟩
theorem qtl {w w' : World} {l E : List Nat} {r : Ending} {p : Pr} {Q : List Nw} {A EA : Option Addr} {c ec : Nat} (h : opnR l = .ok p) (h2 : p.lists = Q.map Nw.l) (h3 : p.ends = E) (h4 : ∀ y ∈ Q, y.l.length ≤ y.c) (h5 : Q.length ≤ c) (h6 : E.length ≤ ec) (hr : r = .returned (.tuple #[.slice A Q.length c, .slice EA E.length ec, .int .i64 0]))
  (O : Mem w w' (.row (.slice A Q.length c) Q.length (Q.map Nw.val) 58 1 :: .row (.slice EA E.length ec) E.length (E.map I64v) 3 1 :: nwF 22 Q)) : qog w l r w' := by
 subst h3
 exact .inr ⟨p, Q, A, c, EA, ec, h, h2.symm, h4, h5, h6, hr, O⟩
theorem qtm {A : Option Addr} {n c : Nat} {l : List Nat} {w : World} {x m er : Nat} (h : vread l = (x, m, er)) (hr : Rd w w.heap.size 1 A n (l.map B8)) (hl : ∀ b ∈ l, b < 256) (hn : n ≤ 140737488355328) :
  Calls Tryz.prog 102 #[.slice A n c] w (Is w (.tuple #[.int .u64 (x : Int), .int .i64 (m : Int), .int .i64 (er : Int)])) := by
 refine (qpu A n c w.heap.size l w hr hl hn).mono fun r w' h1 => ?_
 obtain ⟨h2, h3⟩ := h1
 subst h3
 rw [h] at h2
 exact ⟨h2, Below.refl _ _⟩
theorem ei_nw : EI Tryz.prog 135 58 (.slice none 0 0) 1 24 := ⟨by kernel_rfl, by kernel_rfl, rfl, by omega⟩
theorem qp5 (nm : ByteArray) (A : Option Addr) (c : Nat) (Q : List Nw) (w : World) (hr : Rd w w.heap.size 1 A Q.length (Q.map Nw.val)) (hq : NwRd w Q) (hS : (nmN nm 3 = true ∨ nmN nm 4 = true ∨ nmN nm 5 = true ∨ nmN nm 7 = true) → Cfg3 Q) :
    Calls Tryz.prog 101 #[.string nm, .slice A Q.length c] w (Is w (.int .i64 (wantR nm (Q.map Nw.l) : Int))) := by
 refine s_ce Tryz.func101 [.string nm, .slice A Q.length c] [(0, .string nm), (1, .slice A Q.length c)] fun a M => ?_
 have O := Mem.start w
 refine s_fs1 ?_
 refine fp M 1 0 [(4, vI 0)] fun a M => s_d0 (wp_seq (s_fs1 ?_))
 refine fp M 1 0 [(5, .string nm)] fun a M => s_d0 (wp_block (s_fs1 ?_))
 refine fp M 2 0 [(6, .bool ((nm).toList == ((ByteArray.mk #[110, 101, 120, 116])).toList))] fun a M => s_d0 ?_
 rcases M.tf 6 rfl with ⟨hb6, M⟩ | ⟨hb6, M⟩
 ·
  refine s_ct M (s_fs1 ?_)
  refine fp M 1 0 [(4, vI 1)] fun a M => s_d0 (wp_ret ?_)
  exact s_rt1 rfl M rfl (⟨by rw [q12 hb6]; rfl, O.below⟩)
 refine s_cf M (s_fs1 ?_)
 refine fp M 2 0 [(8, .bool ((nm).toList == ((ByteArray.mk #[99, 111, 110, 102, 105, 103])).toList))] fun a M => s_d0 ?_
 rcases M.tf 8 rfl with ⟨hb8, M⟩ | ⟨hb8, M⟩
 ·
  refine s_ct M (s_fs1 ?_)
  refine fp M 1 0 [(4, vI 3)] fun a M => s_d0 (wp_ret ?_)
  exact s_rt1 rfl M rfl (⟨by rw [q13 hb6 hb8]; rfl, O.below⟩)
 refine s_cf M (s_fs1 ?_)
 refine fp M 2 0 [(10, .bool ((nm).toList == ((ByteArray.mk #[103, 114, 111, 117, 112, 115])).toList))] fun a M => s_d0 ?_
 rcases M.tf 10 rfl with ⟨hb10, M⟩ | ⟨hb10, M⟩
 ·
  obtain ⟨h3, cp, cr, gp, hcfg, b1, b2, b3, b4⟩ := hS (.inl hb10)
  obtain ⟨y, hy⟩ : ∃ y, Q.getD 2 Nw.zero = y := ⟨_, rfl⟩
  rw [hy] at hcfg
  have hyr := hq.at (k := 2) (by omega)
  rw [hy] at hyr
  have hyl : y.l.length = 3 := by rw [hcfg]; rfl
  have hw0 : ((Q.map Nw.l).getD 2 []).getD 0 0 = cp := by rw [qel (by omega), hy, hcfg]; rfl
  have hw2 : ((Q.map Nw.l).getD 2 []).getD 2 0 = gp := by rw [qel (by omega), hy, hcfg]; rfl
  obtain ⟨gA, oA, rfl, _⟩ := hr.qi (Nat.lt_of_le_of_lt (Nat.zero_le _) (show 2 < Q.length from (by omega : 2 < Q.length))) (by decide)
  obtain ⟨gq1, oq1, hq1, _⟩ := Rd.qi hyr (Nat.lt_of_le_of_lt (Nat.zero_le _) (show 2 < y.l.length from (by omega : 2 < y.l.length))) (by decide)
  have hrq1 := hyr; rw [hq1] at hrq1
  refine s_ct M (s_fs1 ?_)
  refine fp M 1 0 [(12, .slice (some ⟨gA, oA, none⟩) Q.length c)] fun a M => s_fz M O 1 rfl (v := vP gA (oA + 2)) (Yl.indexAddr (ad := ⟨gA, oA, none⟩) (y := 2) (sz := 1) rfl rfl rfl (by omega) (by kernel_rfl)) fun a M => ?_
  refine s_fz M O 2 rfl (v := .slice ((Q.getD 2 Nw.zero).A) ((Q.getD 2 Nw.zero).l.length) ((Q.getD 2 Nw.zero).c)) (Yl.o1 hr 2 Nw.zero (by omega) rfl rfl) fun a M => ?_
  replace M := M.sp 14 (.slice y.A y.l.length y.c) rfl (by rw [hy])
  replace M := M.sp 14 (.slice (some ⟨gq1, oq1, none⟩) y.l.length y.c) rfl (by rw [hq1]; try rfl)
  refine s_fz M O 3 rfl (v := vP gq1 (oq1 + 2)) (Yl.indexAddr (ad := ⟨gq1, oq1, none⟩) (y := 2) (sz := 1) rfl rfl rfl (by omega) (by kernel_rfl)) fun a M => ?_
  refine s_fz M O 4 rfl (v := vQ (y.l.getD 2 0)) (Yl.o1 hrq1 2 0 (by omega) rfl rfl) fun a M => ?_
  replace M := M.sp 16 (vQ gp) rfl (by rw [hcfg]; rfl)
  refine fp M 1 5 [(17, vI (IntKind.i64.wrap (gp : Int)))] fun a M => ?_
  replace M := M.sp 17 (vI gp) rfl (qc rfl (by omega))
  refine fp M 1 6 [(18, vI (IntKind.i64.wrap ((gp : Int) - 1)))] fun a M => ?_
  replace M := M.sp 18 (vI (gp - 1 : Nat)) rfl (qc (by omega) (by omega))
  refine fp M 1 7 [(19, vI (IntKind.i64.wrap (2 * ((gp - 1 : Nat) : Int))))] fun a M => ?_
  replace M := M.sp 19 (vI (2 * (gp - 1) : Nat)) rfl (qc (by omega) (by omega))
  refine fp M 1 8 [(4, vI (2 * (gp - 1) : Nat))] fun a M => s_d0 (wp_ret ?_)
  exact s_rt1 rfl M rfl (⟨by rw [q14 hb6 hb8 hb10, hw2], O.below⟩)
 refine s_cf M (wp_seq (s_fs1 ?_))
 refine fp M 2 0 [(20, .bool ((nm).toList == ((ByteArray.mk #[99, 108, 111, 99, 107, 115])).toList))] fun a M => s_d0 ?_
 rcases M.tf 20 rfl with ⟨hb20, M⟩ | ⟨hb20, M⟩
 ·
  obtain ⟨h3, cp, cr, gp, hcfg, b1, b2, b3, b4⟩ := hS (.inr (.inl hb20))
  obtain ⟨y, hy⟩ : ∃ y, Q.getD 2 Nw.zero = y := ⟨_, rfl⟩
  rw [hy] at hcfg
  have hyr := hq.at (k := 2) (by omega)
  rw [hy] at hyr
  have hyl : y.l.length = 3 := by rw [hcfg]; rfl
  have hw0 : ((Q.map Nw.l).getD 2 []).getD 0 0 = cp := by rw [qel (by omega), hy, hcfg]; rfl
  have hw2 : ((Q.map Nw.l).getD 2 []).getD 2 0 = gp := by rw [qel (by omega), hy, hcfg]; rfl
  obtain ⟨gA, oA, rfl, _⟩ := hr.qi (Nat.lt_of_le_of_lt (Nat.zero_le _) (show 2 < Q.length from (by omega : 2 < Q.length))) (by decide)
  obtain ⟨gq2, oq2, hq2, _⟩ := Rd.qi hyr (Nat.lt_of_le_of_lt (Nat.zero_le _) (show 2 < y.l.length from (by omega : 2 < y.l.length))) (by decide)
  have hrq2 := hyr; rw [hq2] at hrq2
  refine s_ct M (wp_skip (s_ct M (s_fs1 ?_)))
  refine fp M 1 0 [(23, .slice (some ⟨gA, oA, none⟩) Q.length c)] fun a M => s_fz M O 1 rfl (v := vP gA (oA + 2)) (Yl.indexAddr (ad := ⟨gA, oA, none⟩) (y := 2) (sz := 1) rfl rfl rfl (by omega) (by kernel_rfl)) fun a M => ?_
  refine s_fz M O 2 rfl (v := .slice ((Q.getD 2 Nw.zero).A) ((Q.getD 2 Nw.zero).l.length) ((Q.getD 2 Nw.zero).c)) (Yl.o1 hr 2 Nw.zero (by omega) rfl rfl) fun a M => ?_
  replace M := M.sp 25 (.slice y.A y.l.length y.c) rfl (by rw [hy])
  replace M := M.sp 25 (.slice (some ⟨gq2, oq2, none⟩) y.l.length y.c) rfl (by rw [hq2]; try rfl)
  refine s_fz M O 3 rfl (v := vP gq2 oq2) (Yl.indexAddr (ad := ⟨gq2, oq2, none⟩) (y := 0) (sz := 1) rfl rfl rfl (by omega) (by kernel_rfl)) fun a M => ?_
  refine s_fz M O 4 rfl (v := vQ (y.l.getD 0 0)) (Yl.o1 hrq2 0 0 (by omega) rfl rfl) fun a M => ?_
  replace M := M.sp 27 (vQ cp) rfl (by rw [hcfg]; rfl)
  refine fp M 1 5 [(28, vI (IntKind.i64.wrap (cp : Int)))] fun a M => ?_
  replace M := M.sp 28 (vI cp) rfl (qc rfl (by omega))
  refine fp M 1 6 [(4, vI cp)] fun a M => s_d0 (wp_ret ?_)
  exact s_rt1 rfl M rfl (⟨by rw [q15 hb6 hb8 hb10 hb20, hw0], O.below⟩)
 have hb4 := hb20
 refine s_cf M (qa ?_)
 refine fp M 2 0 [(20, .bool ((nm).toList == ((ByteArray.mk #[99, 117, 114, 114, 101, 110, 116])).toList))] fun a M => s_d0 ?_
 rcases M.tf 20 rfl with ⟨hb20, M⟩ | ⟨hb20, M⟩
 ·
  obtain ⟨h3, cp, cr, gp, hcfg, b1, b2, b3, b4⟩ := hS (.inr (.inr (.inl hb20)))
  obtain ⟨y, hy⟩ : ∃ y, Q.getD 2 Nw.zero = y := ⟨_, rfl⟩
  rw [hy] at hcfg
  have hyr := hq.at (k := 2) (by omega)
  rw [hy] at hyr
  have hyl : y.l.length = 3 := by rw [hcfg]; rfl
  have hw0 : ((Q.map Nw.l).getD 2 []).getD 0 0 = cp := by rw [qel (by omega), hy, hcfg]; rfl
  have hw2 : ((Q.map Nw.l).getD 2 []).getD 2 0 = gp := by rw [qel (by omega), hy, hcfg]; rfl
  obtain ⟨gA, oA, rfl, _⟩ := hr.qi (Nat.lt_of_le_of_lt (Nat.zero_le _) (show 2 < Q.length from (by omega : 2 < Q.length))) (by decide)
  obtain ⟨gq3, oq3, hq3, _⟩ := Rd.qi hyr (Nat.lt_of_le_of_lt (Nat.zero_le _) (show 2 < y.l.length from (by omega : 2 < y.l.length))) (by decide)
  have hrq3 := hyr; rw [hq3] at hrq3
  refine s_ct M (s_fs1 ?_)
  refine fp M 1 0 [(23, .slice (some ⟨gA, oA, none⟩) Q.length c)] fun a M => s_fz M O 1 rfl (v := vP gA (oA + 2)) (Yl.indexAddr (ad := ⟨gA, oA, none⟩) (y := 2) (sz := 1) rfl rfl rfl (by omega) (by kernel_rfl)) fun a M => ?_
  refine s_fz M O 2 rfl (v := .slice ((Q.getD 2 Nw.zero).A) ((Q.getD 2 Nw.zero).l.length) ((Q.getD 2 Nw.zero).c)) (Yl.o1 hr 2 Nw.zero (by omega) rfl rfl) fun a M => ?_
  replace M := M.sp 25 (.slice y.A y.l.length y.c) rfl (by rw [hy])
  replace M := M.sp 25 (.slice (some ⟨gq3, oq3, none⟩) y.l.length y.c) rfl (by rw [hq3]; try rfl)
  refine s_fz M O 3 rfl (v := vP gq3 oq3) (Yl.indexAddr (ad := ⟨gq3, oq3, none⟩) (y := 0) (sz := 1) rfl rfl rfl (by omega) (by kernel_rfl)) fun a M => ?_
  refine s_fz M O 4 rfl (v := vQ (y.l.getD 0 0)) (Yl.o1 hrq3 0 0 (by omega) rfl rfl) fun a M => ?_
  replace M := M.sp 27 (vQ cp) rfl (by rw [hcfg]; rfl)
  refine fp M 1 5 [(28, vI (IntKind.i64.wrap (cp : Int)))] fun a M => ?_
  replace M := M.sp 28 (vI cp) rfl (qc rfl (by omega))
  refine fp M 1 6 [(4, vI cp)] fun a M => s_d0 (wp_ret ?_)
  exact s_rt1 rfl M rfl (⟨by rw [q16 hb6 hb8 hb10 hb4 hb20, hw0], O.below⟩)
 have hb45 := hb20
 refine s_cf M (s_fs1 ?_)
 refine fp M 2 0 [(29, .bool ((nm).toList == ((ByteArray.mk #[115, 112, 111, 116, 115])).toList))] fun a M => s_d0 ?_
 rcases M.tf 29 rfl with ⟨hb29, M⟩ | ⟨hb29, M⟩
 ·
  obtain ⟨h3, cp, cr, gp, hcfg, b1, b2, b3, b4⟩ := hS (.inr (.inr (.inr hb29)))
  obtain ⟨y, hy⟩ : ∃ y, Q.getD 2 Nw.zero = y := ⟨_, rfl⟩
  rw [hy] at hcfg
  have hyr := hq.at (k := 2) (by omega)
  rw [hy] at hyr
  have hyl : y.l.length = 3 := by rw [hcfg]; rfl
  have hw0 : ((Q.map Nw.l).getD 2 []).getD 0 0 = cp := by rw [qel (by omega), hy, hcfg]; rfl
  have hw2 : ((Q.map Nw.l).getD 2 []).getD 2 0 = gp := by rw [qel (by omega), hy, hcfg]; rfl
  obtain ⟨gA, oA, rfl, _⟩ := hr.qi (Nat.lt_of_le_of_lt (Nat.zero_le _) (show 2 < Q.length from (by omega : 2 < Q.length))) (by decide)
  obtain ⟨gq4, oq4, hq4, _⟩ := Rd.qi hyr (Nat.lt_of_le_of_lt (Nat.zero_le _) (show 2 < y.l.length from (by omega : 2 < y.l.length))) (by decide)
  have hrq4 := hyr; rw [hq4] at hrq4
  refine s_ct M (wp_seq ?_)
  refine qz O [] [] [] fun O Z => ?_
  refine ap M (fun _ => Z) [0, 6] (bf 17 [0, 6]) [(37, .slice (some ⟨gA, oA, none⟩) Q.length c), (31, .slice (some ⟨gA, oA, none⟩) Q.length c)] fun a M => ?_
  refine s_az M Z 1 rfl (v := vP gA (oA + 2)) (Yl.indexAddr (ad := ⟨gA, oA, none⟩) (y := 2) (sz := 1) rfl rfl rfl (by omega) (by kernel_rfl)) fun a M => ?_
  refine s_az M Z 2 rfl (v := .slice ((Q.getD 2 Nw.zero).A) ((Q.getD 2 Nw.zero).l.length) ((Q.getD 2 Nw.zero).c)) (Yl.o1 hr 2 Nw.zero (by omega) rfl rfl) fun a M => ?_
  replace M := M.sp 33 (.slice y.A y.l.length y.c) rfl (by rw [hy])
  replace M := M.sp 33 (.slice (some ⟨gq4, oq4, none⟩) y.l.length y.c) rfl (by rw [hq4]; try rfl)
  refine s_az M Z 3 rfl (v := vP gq4 oq4) (Yl.indexAddr (ad := ⟨gq4, oq4, none⟩) (y := 0) (sz := 1) rfl rfl rfl (by omega) (by kernel_rfl)) fun a M => ?_
  refine s_az M Z 4 rfl (v := vQ (y.l.getD 0 0)) (Yl.o1 hrq4 0 0 (by omega) rfl rfl) fun a M => ?_
  replace M := M.sp 35 (vQ cp) rfl (by rw [hcfg]; rfl)
  refine qg M (fun _ => Z) (i := 5) rfl rfl (d := 36) rfl (by decide) (by kernel_rfl) (fun _ _ _ h => h) (v := vI (IntKind.i64.wrap (cp : Int))) (fun _ => Yl.pure (by kernel_rfl)) fun a M => ?_
  replace M := M.sp 36 (vI cp) rfl (qc rfl (by omega))
  refine s_az M Z 7 rfl (v := vP gA (oA + 2)) (Yl.indexAddr (ad := ⟨gA, oA, none⟩) (y := 2) (sz := 1) rfl rfl rfl (by omega) (by kernel_rfl)) fun a M => ?_
  refine s_az M Z 8 rfl (v := .slice ((Q.getD 2 Nw.zero).A) ((Q.getD 2 Nw.zero).l.length) ((Q.getD 2 Nw.zero).c)) (Yl.o1 hr 2 Nw.zero (by omega) rfl rfl) fun a M => ?_
  replace M := M.sp 39 (.slice y.A y.l.length y.c) rfl (by rw [hy])
  replace M := M.sp 39 (.slice (some ⟨gq4, oq4, none⟩) y.l.length y.c) rfl (by rw [hq4]; try rfl)
  refine s_az M Z 9 rfl (v := vP gq4 (oq4 + 2)) (Yl.indexAddr (ad := ⟨gq4, oq4, none⟩) (y := 2) (sz := 1) rfl rfl rfl (by omega) (by kernel_rfl)) fun a M => ?_
  refine s_az M Z 10 rfl (v := vQ (y.l.getD 2 0)) (Yl.o1 hrq4 2 0 (by omega) rfl rfl) fun a M => ?_
  replace M := M.sp 41 (vQ gp) rfl (by rw [hcfg]; rfl)
  refine qg M (fun _ => Z) (i := 11) rfl rfl (d := 42) rfl (by decide) (by kernel_rfl) (fun _ _ _ h => h) (v := vI (IntKind.i64.wrap (gp : Int))) (fun _ => Yl.pure (by kernel_rfl)) fun a M => ?_
  replace M := M.sp 42 (vI gp) rfl (qc rfl (by omega))
  refine qg M (fun _ => Z) (i := 12) rfl rfl (d := 43) rfl (by decide) (by kernel_rfl) (fun _ _ _ h => h) (v := vI (IntKind.i64.wrap ((gp : Int) - 1))) (fun _ => Yl.pure (by kernel_rfl)) fun a M => ?_
  replace M := M.sp 43 (vI (gp - 1 : Nat)) rfl (qc (by omega) (by omega))
  refine qg M (fun _ => Z) (i := 13) rfl rfl (d := 44) rfl (by decide) (by kernel_rfl) (fun _ _ _ h => h) (v := vI (IntKind.i64.wrap (3 * ((gp - 1 : Nat) : Int)))) (fun _ => Yl.pure (by kernel_rfl)) fun a M => ?_
  replace M := M.sp 44 (vI (3 * (gp - 1) : Nat)) rfl (qc (by omega) (by omega))
  refine qg M (fun _ => Z) (i := 14) rfl rfl (d := 45) rfl (by decide) (by kernel_rfl) (fun _ _ _ h => h) (v := vI (IntKind.i64.wrap (1 + ((3 * (gp - 1) : Nat) : Int)))) (fun _ => Yl.pure (by kernel_rfl)) fun a M => ?_
  replace M := M.sp 45 (vI (1 + (3 * (gp - 1)) : Nat)) rfl (qc (by omega) (by omega))
  refine qg M (fun _ => Z) (i := 15) rfl rfl (d := 46) rfl (by decide) (by kernel_rfl) (fun _ _ _ h => h) (v := vI (IntKind.i64.wrap ((cp : Int) * ((1 + (3 * (gp - 1)) : Nat) : Int)))) (fun _ => Yl.pure (by kernel_rfl)) fun a M => ?_
  replace M := M.sp 46 (vI (cp * (1 + 3 * (gp - 1)) : Nat)) rfl (qg7 (by have : cp * (1 + 3 * (gp - 1)) ≤ 64 * (1 + 3 * 255) := Nat.mul_le_mul b2 (by omega); omega))
  refine ap M (fun _ => Z) [16] (bt 17 []) [(4, vI (cp * (1 + 3 * (gp - 1)) : Nat))] fun a M => ?_
  refine qh (by kernel_rfl) ?_
  refine wp_ret ?_
  exact s_rt1 rfl M rfl (⟨by rw [q17 hb6 hb8 hb10 hb4 hb45 hb29, hw0, hw2], O.below⟩)
 refine s_cf M (wp_skip (s_fs1 ?_))
 refine fp M 1 0 [(4, vI 0)] fun a M => s_d0 (wp_ret ?_)
 exact s_rt1 rfl M rfl (⟨by rw [q18 hb6 hb8 hb10 hb4 hb45 hb29]; rfl, O.below⟩)
end Go.Proofs.YtggpmlaappaopaaGreatDoor
