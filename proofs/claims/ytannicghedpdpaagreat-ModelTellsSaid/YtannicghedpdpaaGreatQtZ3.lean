/- Parts. -/
import Derived.Test.YtannicghedpdpaaGreatQtChv
import Derived.Test.YtannicghedpdpaaGreatQtDoorE
import Derived.Test.YtannicghedpdpaaGreatQtSep20
import Derived.Test.YtannicghedpdpaaGreatQtZ2
set_option linter.all false
set_option maxRecDepth 100000
set_option maxHeartbeats 1000000
namespace Go.Proofs.YtannicghedpdpaaGreat
open Go.RowKit
theorem qtm {w w' : World} {fs : List Fact} {g : Nat} (HM : Mem w w' fs) (h : fs[0]? = some (.blk g #[vI 0, vI 1, vI 0, vI 1024] 50)) : MkCfg w 1 0 exG (.returned (.agg #[vI 1, vQ 0, .slice (some ⟨g, 0, none⟩) 2 2])) w' :=
 ⟨⟨_, _, rfl, (HM.blkRow (i := 0) (n := 2) (size := 2) h rfl de).own (i := 0) (by rw [List.getElem?_set_self (List.getElem?_eq_some_iff.1 h).1]; rfl), by decide⟩, HM.below⟩
theorem qq7 {cp : Int} {cr : Nat} {gA : Option Addr} {gc : Nat} {gs : List Gr} {w : World} (h : (⟨cp, cr, gA, gc, gs, none, 0, [], none, 0, [], none, 0, [], none, 0, []⟩ : Stm).sta.Ok ∧ gs.length ≤ 1000000 ∧ cfgOk (⟨cp, cr, gA, gc, gs, none, 0, [], none, 0, [], none, 0, [], none, 0, []⟩ : Stm).sta = true) (hr : Rd w w.heap.size 2 gA gs.length (gs.flatMap grL)) : Calls Tryz.prog 7 #[.agg #[vI cp, vQ cr, .slice gA gs.length gc]] w (qur w (newS cp cr gs)) :=
 (qvw cp cr gA gc gs w h.1 h.2.1 hr).mono fun r w' k => by unfold NewIs at k; rwa [if_pos h.2.2] at k
theorem qq8 {cp : Int} {cr : Nat} {gA : Option Addr} {gc : Nat} {gs : List Gr} (h1 : 1 ≤ cp ∧ cp ≤ 64) (h2 : cr ≤ 1099511627776) (h3 : gsOk gs = true) (h4 : ∀ g ∈ gs, g.Ok) : (⟨cp, cr, gA, gc, gs, none, 0, [], none, 0, [], none, 0, [], none, 0, []⟩ : Stm).sta.Ok ∧ gs.length ≤ 1000000 ∧ cfgOk (⟨cp, cr, gA, gc, gs, none, 0, [], none, 0, [], none, 0, [], none, 0, []⟩ : Stm).sta = true := by
 have h5 := (qh h3).2.1
 refine ⟨⟨by show I64 cp; unfold I64; omega, by show cr < _; omega, h4, fun x hx => (by cases hx), fun x hx => (by cases hx), fun x hx => (by cases hx), fun l hl => (by cases hl)⟩, by omega, ?_⟩
 unfold cfgOk
 rw [Bool.and_eq_true, decide_eq_true_eq]
 exact ⟨⟨h1.1, h1.2, h2⟩, h3⟩
theorem qw8 : ∀ g ∈ exG, g.Ok := by
 intro g hg
 simp only [exG, List.mem_cons, List.not_mem_nil, or_false] at hg
 rcases hg with rfl | rfl <;> exact ⟨by unfold I64; decide, by unfold I64; decide⟩
theorem exNew {gA : Option Addr} {gc : Nat} : (⟨1, 0, gA, gc, exG, none, 0, [], none, 0, [], none, 0, [], none, 0, []⟩ : Stm).sta.Ok ∧ exG.length ≤ 1000000 ∧ cfgOk (⟨1, 0, gA, gc, exG, none, 0, [], none, 0, [], none, 0, [], none, 0, []⟩ : Stm).sta = true := qq8 de de qkc qw8
section
variable {W w : World} {F T : List Fact} {x : Stm} {gm : Nat}
theorem do_y (n : Nat) (HM : Mem W w F) (he : F.drop n = mdB gm x ++ T) (hG : GoodS x.sta) {o : Op30} (ho : o.Ok) : Calls Tryz.prog 13 #[vP gm 0, .agg o.cells] w (OpIs W gm (F.take n ++ T) (doS x.sta o)) :=
 qtf W w x gm _ _ _ _ _ (qal hG.sh) hG o ho _ (HM.front n he)
theorem do_ex {k : Nat} {ez : Ex} (n : Nat) (HM : Mem W w F) (he : F.drop n = mdB gm x ++ T) (hx : x.sta = exSt k) (hk : k < 12) (hz : exO.getD k Ex.zero = ez) : Calls Tryz.prog 13 #[vP gm 0, .agg ez.op.cells] w (fun r w' => ∃ y : Stm, r = .returned (.tuple #[vI ez.got, vI (ez.e : Int)]) ∧ y.sta = exSt (k + 1) ∧ Mem W w' (mdB gm y ++ (F.take n ++ T))) := by
 subst hz
 refine (do_y n HM he (by rw [hx]; exact qq6 k) (ex_ok k)).mono fun r w' ⟨y, h1, h2, h3⟩ => ⟨y, ?_, ?_, h3⟩
 ·rw [h1, hx, qw6 hk]
 ·rw [h2, hx]; rfl
theorem qv4 (n : Nat) (HM : Mem W w F) (he : F.drop n = mdB gm x ++ T) (hG : GoodS x.sta) : Calls Tryz.prog 14 #[vP gm 0] w (qqy w x) :=
 qj9 x gm w (qal hG.sh).few (HM.mdRdB n he) (HM.mdBlkB n he)
theorem qtn (n : Nat) (HM : Mem W w F) (he : F.drop n = mdB gm x ++ T) (hx : x.sta = exSt 12) : Calls Tryz.prog 14 #[vP gm 0] w (fun r w' => ∃ gA gc lA lc uA uc tA tc sA sc rA rc qA qc, r = .returned (.tuple #[.agg #[vI 1, vQ 0, .slice gA 2 gc, .slice lA 1 lc, .slice uA 1 uc, .slice tA 2 tc, .slice sA 2 sc], vI 0]) ∧ Mem w w' (stF ⟨1, 0, gA, gc, exG, lA, lc, [4], uA, uc, [6], tA, tc, [⟨5, 0, 1024, 0, 1, true, 3072, 0⟩, ⟨6, 1, 1, 0, 1, true, 3145728, 0⟩], sA, sc, [⟨rA, rc, [⟨0, 0, 3072⟩]⟩, ⟨qA, qc, [⟨3072, 0, 3145728⟩]⟩]⟩)) := by
 refine (qv4 n HM he (by rw [hx]; exact qq6 12)).mono fun r w' ⟨y, h1, h2, _, h4⟩ => ?_
 obtain ⟨gA, gc, lA, lc, uA, uc, tA, tc, sA, sc, rA, rc, qA, qc, rfl⟩ := qw7 ((qf1 h2).trans hx)
 exact ⟨gA, gc, lA, lc, uA, uc, tA, tc, sA, sc, rA, rc, qA, qc, h1, h4⟩
end
theorem qlj (w : World) :
    Calls Tryz.prog 30 #[] w (MkCfg w 1 0 exG) := by
 refine (JN0 Tryz.func30 5) ?_
 refine (JP∘JA #[vI 0, vQ 0, vN]) fun w0 g0 => (Jr∘Jy (v := .agg #[vI 0, vI 1]) (h:=by exact Yl.build (vs := [(0, vI 0), (1, vI 1)]) rfl kr kr)∘Jy (v := .agg #[vI 0, vI 1024]) (h:=by exact Yl.build (vs := [(0, vI 0), (1, vI 1024)]) rfl kr kr)∘JU ei_gr #[vI 0, vI 1, vI 0, vI 1024]) fun w3 g3 => (Jy (v := .agg #[vI 1, vQ 0, vS g3 2 2]) (h:=by exact Yl.build (vs := [(0, vI 1), (2, vS g3 2 2)]) rfl kr kr)∘JV qbj O1') fun w1_4 => (Jt4∘Jj∘JZ) fun a I HM => ?_
 exact ret1 rfl I (.cellS (i := 1) I HM rfl rfl qbj rfl) (qtm HM rfl)
theorem qlk (w : World) :
    Calls Tryz.prog 11 #[] w (Is w (.bool true)) := by
 refine (JN0 Tryz.func11 151) ?_
 refine (JP∘Jp 1∘Jr∘JK (h:=by exact fun HM => qlj _)) fun A9 c9 w9 hc9 => (JL (h:=by exact fun HM => qq7 exNew (HM.rd (i := 0) rfl))) ?_
 rintro HM _ w10 ⟨gm, x, rfl, hxs, hm⟩
 refine ⟨_, rfl, _, (show Mem w w10 ((mdB gm x ++ ([]))) from by have h := Mem.alone HM hm; rw [← List.append_nil (mdB gm x)] at h; exact h), ?_⟩
 refine (Jp 1∘Jx∘Jx∘Jp 2∘Jj∘JQ∘JP∘Jv 4 [(16, vP gm 0), (15, .bool false)]∘Jy (v := .bool false) (h:=by exact Yl.qht rfl rfl rfl)∘Jp 1∘Jd3∘Jj∘JF∘JS'∘JQ∘JP∘Jy (v := .agg #[vB 1, vI 0, vI 5, vI 0, vI 1024, vI 0, vI 0, vQ 1]) (h:=by exact Yl.build (vs := [(0, vB 1), (2, vI 5), (4, vI 1024), (7, vQ 1)]) rfl kr kr)∘Jy (v := .agg #[vB 1, vI 0, vI 5, vI 0, vI 1024, vI 0, vI 0, vQ 1, vI 0, vI 0]) (h:=by exact Yl.build (vs := [(0, .agg #[vB 1, vI 0, vI 5, vI 0, vI 1024, vI 0, vI 0, vQ 1]), (1, vI 0), (2, vI 0)]) rfl kr kr)∘Jy (v := .agg #[vB 1, vI 0, vI 6, vI 1, vI 1, vI 0, vI 0, vQ 1]) (h:=by exact Yl.build (vs := [(0, vB 1), (2, vI 6), (3, vI 1), (4, vI 1), (7, vQ 1)]) rfl kr kr)∘Jy (v := .agg #[vB 1, vI 0, vI 6, vI 1, vI 1, vI 0, vI 0, vQ 1, vI 0, vI 0]) (h:=by exact Yl.build (vs := [(0, .agg #[vB 1, vI 0, vI 6, vI 1, vI 1, vI 0, vI 0, vQ 1]), (1, vI 0), (2, vI 0)]) rfl kr kr)∘Jy (v := .agg #[vB 6, vI 0, vI 0, vI 0, vI 0, vI 0, vI 0, vQ 0]) (h:=by exact Yl.build (vs := [(0, vB 6)]) rfl kr kr)∘Jy (v := .agg #[vB 6, vI 0, vI 0, vI 0, vI 0, vI 0, vI 0, vQ 0, vI 5, vI 0]) (h:=by exact Yl.build (vs := [(0, .agg #[vB 6, vI 0, vI 0, vI 0, vI 0, vI 0, vI 0, vQ 0]), (1, vI 5), (2, vI 0)]) rfl kr kr)∘Jy (v := .agg #[vB 5, vI 0, vI 0, vI 0, vI 0, vI 0, vI 1, vQ 0]) (h:=by exact Yl.build (vs := [(0, vB 5), (6, vI 1)]) rfl kr kr)∘Jy (v := .agg #[vB 5, vI 0, vI 0, vI 0, vI 0, vI 0, vI 1, vQ 0, vI 5, vI 0]) (h:=by exact Yl.build (vs := [(0, .agg #[vB 5, vI 0, vI 0, vI 0, vI 0, vI 0, vI 1, vQ 0]), (1, vI 5), (2, vI 0)]) rfl kr kr)∘Jy (v := .agg #[vB 6, vI 0, vI 0, vI 0, vI 0, vI 0, vI 0, vQ 0]) (h:=by exact Yl.build (vs := [(0, vB 6)]) rfl kr kr)∘Jy (v := .agg #[vB 6, vI 0, vI 0, vI 0, vI 0, vI 0, vI 0, vQ 0, vI 6, vI 0]) (h:=by exact Yl.build (vs := [(0, .agg #[vB 6, vI 0, vI 0, vI 0, vI 0, vI 0, vI 0, vQ 0]), (1, vI 6), (2, vI 0)]) rfl kr kr)∘Jy (v := .agg #[vB 5, vI 0, vI 0, vI 0, vI 0, vI 0, vI 1, vQ 0]) (h:=by exact Yl.build (vs := [(0, vB 5), (6, vI 1)]) rfl kr kr)∘Jy (v := .agg #[vB 5, vI 0, vI 0, vI 0, vI 0, vI 0, vI 1, vQ 0, vI 6, vI 0]) (h:=by exact Yl.build (vs := [(0, .agg #[vB 5, vI 0, vI 0, vI 0, vI 0, vI 0, vI 1, vQ 0]), (1, vI 6), (2, vI 0)]) rfl kr kr)∘Jy (v := .agg #[vB 6, vI 0, vI 0, vI 0, vI 0, vI 0, vI 0, vQ 0]) (h:=by exact Yl.build (vs := [(0, vB 6)]) rfl kr kr)∘Jy (v := .agg #[vB 6, vI 0, vI 0, vI 0, vI 0, vI 0, vI 0, vQ 0, vI 5, vI 0]) (h:=by exact Yl.build (vs := [(0, .agg #[vB 6, vI 0, vI 0, vI 0, vI 0, vI 0, vI 0, vQ 0]), (1, vI 5), (2, vI 0)]) rfl kr kr)∘Jy (v := .agg #[vB 3, vI 0, vI 0, vI 0, vI 0, vI 0, vI 0, vQ 0]) (h:=by exact Yl.build (vs := [(0, vB 3)]) rfl kr kr)∘Jy (v := .agg #[vB 3, vI 0, vI 0, vI 0, vI 0, vI 0, vI 0, vQ 0, vI 5, vI 0]) (h:=by exact Yl.build (vs := [(0, .agg #[vB 3, vI 0, vI 0, vI 0, vI 0, vI 0, vI 0, vQ 0]), (1, vI 5), (2, vI 0)]) rfl kr kr)∘Jy (v := .agg #[vB 6, vI 0, vI 0, vI 0, vI 0, vI 0, vI 0, vQ 0]) (h:=by exact Yl.build (vs := [(0, vB 6)]) rfl kr kr)∘Jy (v := .agg #[vB 6, vI 0, vI 0, vI 0, vI 0, vI 0, vI 0, vQ 0, vI 6, vI 0]) (h:=by exact Yl.build (vs := [(0, .agg #[vB 6, vI 0, vI 0, vI 0, vI 0, vI 0, vI 0, vQ 0]), (1, vI 6), (2, vI 0)]) rfl kr kr)∘Jy (v := .agg #[vB 5, vI 0, vI 0, vI 0, vI 0, vI 0, vI 2, vQ 0]) (h:=by exact Yl.build (vs := [(0, vB 5), (6, vI 2)]) rfl kr kr)∘Jy (v := .agg #[vB 5, vI 0, vI 0, vI 0, vI 0, vI 0, vI 2, vQ 0, vI 6, vI 0]) (h:=by exact Yl.build (vs := [(0, .agg #[vB 5, vI 0, vI 0, vI 0, vI 0, vI 0, vI 2, vQ 0]), (1, vI 6), (2, vI 0)]) rfl kr kr)∘Jy (v := .agg #[vB 2, vI 0, vI 5, vI 0, vI 0, vI 0, vI 0, vQ 0]) (h:=by exact Yl.build (vs := [(0, vB 2), (2, vI 5)]) rfl kr kr)∘Jy (v := .agg #[vB 2, vI 0, vI 5, vI 0, vI 0, vI 0, vI 0, vQ 0, vI 0, vI 0]) (h:=by exact Yl.build (vs := [(0, .agg #[vB 2, vI 0, vI 5, vI 0, vI 0, vI 0, vI 0, vQ 0]), (1, vI 0), (2, vI 0)]) rfl kr kr)∘Jy (v := .agg #[vB 9, vI 0, vI 6, vI 0, vI 0, vI 1, vI 0, vQ 0]) (h:=by exact Yl.build (vs := [(0, vB 9), (2, vI 6), (5, vI 1)]) rfl kr kr)∘Jy (v := .agg #[vB 9, vI 0, vI 6, vI 0, vI 0, vI 1, vI 0, vQ 0, vI 0, vI 300]) (h:=by exact Yl.build (vs := [(0, .agg #[vB 9, vI 0, vI 6, vI 0, vI 0, vI 1, vI 0, vQ 0]), (1, vI 0), (2, vI 300)]) rfl kr kr)∘JU ei_ex #[vB 1, vI 0, vI 5, vI 0, vI 1024, vI 0, vI 0, vQ 1, vI 0, vI 0, vB 1, vI 0, vI 6, vI 1, vI 1, vI 0, vI 0, vQ 1, vI 0, vI 0, vB 6, vI 0, vI 0, vI 0, vI 0, vI 0, vI 0, vQ 0, vI 5, vI 0, vB 5, vI 0, vI 0, vI 0, vI 0, vI 0, vI 1, vQ 0, vI 5, vI 0, vB 6, vI 0, vI 0, vI 0, vI 0, vI 0, vI 0, vQ 0, vI 6, vI 0, vB 5, vI 0, vI 0, vI 0, vI 0, vI 0, vI 1, vQ 0, vI 6, vI 0, vB 6, vI 0, vI 0, vI 0, vI 0, vI 0, vI 0, vQ 0, vI 5, vI 0, vB 3, vI 0, vI 0, vI 0, vI 0, vI 0, vI 0, vQ 0, vI 5, vI 0, vB 6, vI 0, vI 0, vI 0, vI 0, vI 0, vI 0, vQ 0, vI 6, vI 0, vB 5, vI 0, vI 0, vI 0, vI 0, vI 0, vI 2, vQ 0, vI 6, vI 0, vB 2, vI 0, vI 5, vI 0, vI 0, vI 0, vI 0, vQ 0, vI 0, vI 0, vB 9, vI 0, vI 6, vI 0, vI 0, vI 1, vI 0, vQ 0, vI 0, vI 300]) fun w43 g43 => (Jl∘Jp 1∘Jq) fun a I HM => ?_
 replace HM := HM.blkRow (i := 0) (n := 12) (size := 10) rfl rfl de
 replace HM : Mem w _ (.row (vS g43 12 12) 12 (exO.flatMap exL) 78 10 :: (mdB gm x ++ ([]))) := HM
 refine Jb I HM ((JG∘JB) fun a I HM => ?_)
 refine qi (fun mS aS wS => ∃ (k : Nat) (x : Stm), (k ≤ 12) ∧ (x.sta = exSt k) ∧ mS = 12 - k ∧ Fr aS 151 [] [(45, vI k), (44, vI 12), (43, vS g43 12 12), (18, .bool false), (2, vI 0), (1, vP gm 0), (0, .bool false)] ∧ Mem w wS (.row (vS g43 12 12) 12 (exO.flatMap exL) 78 10 :: (mdB gm x ++ ([])))) (m := 12 - 0) ⟨0, x, Nat.zero_le _, hxs, rfl, I.sub kr, HM.pt 1 [0]⟩ ?_
 clear I HM; rintro mS a w_ ⟨k, x, hk, hxs, rfl, I, HM⟩
 refine Jb I HM ((JP∘Jp 1∘Jj∘JQ) (Ju (fun hb46 => ?_) fun hb46 => ?_))
 ·
  intro a I HM
  have hd46 := of_decide_eq_true hb46
  have hk12 : k < 12 := by omega
  obtain ⟨ez, hez⟩ : ∃ z, exO.getD k Ex.zero = z := ⟨_, rfl⟩
  have hex := hez
  refine Jb I HM ((JT∘JS'∘JQ∘JB∘JP∘Jy (h:=by exact Yl.ix0 g43 k 10 rfl rfl rfl)∘Jy (v := .agg ((exO.getD k Ex.zero).cells)) (h:=by exact Yl.loadS rfl rfl si_ex rfl (fun _ h => h.qbf qv2 (i := 0) rfl ((getD_at Ex.zero hk12))))∘Jo (.agg ez.cells) (by rw [hez])∘JA #[vB 0, vI 0, vI 0, vI 0, vI 0, vI 0, vI 0, vQ 0, vI 0, vI 0]) fun w4 g4 => (JV si_ex O0' (h1:=by exact qw3 ez)) fun w6_3 => (Jd2∘Jr∘Jp 1∘Jf 0∘Jy (v := .agg #[vB ez.op.kind, vI ez.op.cpu, vI ez.op.task, vI ez.op.group, vI ez.op.weight, vI ez.op.to, vI ez.op.ticks, vQ ez.op.mask]) (h:=by exact Yl.loadS rfl rfl si_op rfl (fun _ h => h.sub (i := 0) rfl 0 rfl))∘Jo (.agg ez.op.cells) (by exact rfl)∘JL (h:=by exact fun HM => do_ex 2 HM rfl hxs hk12 hex)) ?_)
  rintro HM _ w53 ⟨y, rfl, hys, HM2⟩
  refine ⟨_, rfl, _, (show Mem w w53 (.blk g4 ez.cells 78 :: .row (vS g43 12 12) 12 (exO.flatMap exL) 78 10 :: (mdB gm y ++ ([]))) from HM2.back), ?_⟩
  refine (Jp 1∘Jx∘Jx∘Jp 2∘Jr∘Jp 1∘Jg 8 O0∘Jp 2) (Jh (fun hd60 => ?_) fun hd60 => ?_)
  ·
   exact (Jp 5∘Jd6∘Jj∘JT∘JP∘Jp 1∘Jj∘JZ∘Jz1) fun HM => absurd rfl hd60
  refine (Jp 1∘Jg 9 O0∘Jp 2∘Jd6∘Jj) (Jh (fun hd65 => ?_) fun hd65 => ?_)
  ·
   exact (JT∘JP∘Jp 1∘Jj∘JZ∘Jz1) fun HM => absurd rfl hd65
  refine (JF∘JS'∘JR∘JaK 1∘Jp 1∘Jd1∘Jq) fun a I HM => ?_
  exact ⟨_, om, k + 1, y, by omega, hys, rfl, I.sub kr, HM.pt 2 [1]⟩
 intro a I HM
 have hd46 := of_decide_eq_false hb46
 have hke : k = 12 := by omega
 refine Jb I HM ((JF∘JX∘JG∘JP∘Jp 1∘JL (h:=by exact fun HM => qtn 1 HM rfl (by rw [hxs, hke]))) ?_)
 rintro HM _ w69 ⟨gA, gc, lA, lc, uA, uc, tA, tc, sA, sc, rA, rc, qA, qc, rfl, hm⟩
 refine ⟨_, rfl, _, (show Mem w w69 [.row (.slice gA 2 gc) 2 (exG.flatMap grL) 50 2, .row (.slice lA 1 lc) 1 ([(4 : Int)].map I64i) 3 1, .row (.slice uA 1 uc) 1 ([(6 : Int)].map I64i) 3 1, .row (.slice tA 2 tc) 2 ([(⟨5, 0, 1024, 0, 1, true, 3072, 0⟩ : Tk), (⟨6, 1, 1, 0, 1, true, 3145728, 0⟩ : Tk)].flatMap tkL) 81 8, .row (.slice sA 2 sc) 2 ([(⟨rA, rc, [(⟨0, 0, 3072⟩ : Sp)]⟩ : Rw), ⟨qA, qc, [(⟨3072, 0, 3145728⟩ : Sp)]⟩].map Rw.val) 63 1, .row (.slice rA 1 rc) 1 ([(⟨0, 0, 3072⟩ : Sp)].flatMap spL) 83 3, .row (.slice qA 1 qc) 1 ([(⟨3072, 0, 3145728⟩ : Sp)].flatMap spL) 83 3] from Mem.alone HM hm), ?_⟩
 refine (Jp 1∘Jx∘Jx∘JA #[vI 0, vQ 0, vN, vN, vN, vN, vN]) fun w7 g7 => (JV si_st O0') fun w11_6 => (Jp 1∘Jq) ?_
 repeat (first | clear I | clear HM)
 intro a I HM
 obtain ⟨glA, rfl⟩ := qe (HM.own (i := 2) rfl) om
 revert HM; revert a; repeat (first | clear I | clear HM)
 intro a I HM
 obtain ⟨gtA, rfl⟩ := qe (HM.own (i := 4) rfl) om
 revert HM; revert a; repeat (first | clear I | clear HM)
 intro a I HM
 obtain ⟨gsA, rfl⟩ := qe (HM.own (i := 5) rfl) om
 revert HM; revert a; repeat (first | clear I | clear HM)
 intro a I HM
 obtain ⟨grA, rfl⟩ := qe (HM.own (i := 6) rfl) om
 revert HM; revert a; repeat (first | clear I | clear HM)
 intro a I HM
 obtain ⟨gqA, rfl⟩ := qe (HM.own (i := 7) rfl) om
 refine Jb I HM ((JG∘JP∘Jv 3 [(74, .bool true)]∘Jg 5 O0∘Jl∘Jv 3 [(80, .bool true)]∘Jg 5 O0∘Jy (v := vP gtA 0) (h:=by exact Yl.indexAddr (ad := ⟨gtA, 0, none⟩) (y := 0) (sz := 8) rfl rfl rfl de kr)∘Jf 6∘Jy (v := vQ ((⟨5, 0, 1024, 0, 1, true, 3072, 0⟩ : Tk).v)) (h:=by exact Yl.qo rfl rfl kr (fun _ h => h.qq qd (i := 4) rfl (k := 0) (off := 6) (x := (⟨5, 0, 1024, 0, 1, true, 3072, 0⟩ : Tk)) (rfl) rfl))∘Jo (vQ 3072) (by exact rfl)∘Jv 3 [(88, .bool true)]∘Jg 5 O0∘Jy (v := vP gtA 8) (h:=by exact Yl.indexAddr (ad := ⟨gtA, 0, none⟩) (y := 1) (sz := 8) rfl rfl rfl de kr)∘Jf 6∘Jy (v := vQ ((⟨6, 1, 1, 0, 1, true, 3145728, 0⟩ : Tk).v)) (h:=by exact Yl.qo rfl rfl kr (fun _ h => h.qq qd (i := 4) rfl (k := 1) (off := 6) (x := (⟨6, 1, 1, 0, 1, true, 3145728, 0⟩ : Tk)) (rfl) rfl))∘Jo (vQ 3145728) (by exact rfl)∘Jv 3 [(96, .bool true)]∘Jg 6 O0∘Jl∘Jv 3 [(102, .bool true)]∘Jg 6 O0∘Jy (v := vP gsA 0) (h:=by exact Yl.indexAddr (ad := ⟨gsA, 0, none⟩) (y := 0) (sz := 1) rfl rfl rfl de kr)∘Jy (v := .slice ((⟨some ⟨grA, 0, none⟩, rc, [(⟨0, 0, 3072⟩ : Sp)]⟩ : Rw).A) ((⟨some ⟨grA, 0, none⟩, rc, [(⟨0, 0, 3072⟩ : Sp)]⟩ : Rw).l.length) ((⟨some ⟨grA, 0, none⟩, rc, [(⟨0, 0, 3072⟩ : Sp)]⟩ : Rw).c)) (h:=by exact Yl.qo rfl rfl kr (fun _ h => h.qgq (i := 5) rfl (k := 0) (qdc (F := Rw.val) (k := 0) (x := (⟨some ⟨grA, 0, none⟩, rc, [(⟨0, 0, 3072⟩ : Sp)]⟩ : Rw)) (rfl))))∘Jo (vS grA 1 rc) (by exact rfl)∘Jl∘Jv 3 [(110, .bool true)]∘Jg 6 O0∘Jy (v := vP gsA 0) (h:=by exact Yl.indexAddr (ad := ⟨gsA, 0, none⟩) (y := 0) (sz := 1) rfl rfl rfl de kr)∘Jy (v := .slice ((⟨some ⟨grA, 0, none⟩, rc, [(⟨0, 0, 3072⟩ : Sp)]⟩ : Rw).A) ((⟨some ⟨grA, 0, none⟩, rc, [(⟨0, 0, 3072⟩ : Sp)]⟩ : Rw).l.length) ((⟨some ⟨grA, 0, none⟩, rc, [(⟨0, 0, 3072⟩ : Sp)]⟩ : Rw).c)) (h:=by exact Yl.qo rfl rfl kr (fun _ h => h.qgq (i := 5) rfl (k := 0) (qdc (F := Rw.val) (k := 0) (x := (⟨some ⟨grA, 0, none⟩, rc, [(⟨0, 0, 3072⟩ : Sp)]⟩ : Rw)) (rfl))))∘Jo (vS grA 1 rc) (by exact rfl)∘Jy (v := vP grA 0) (h:=by exact Yl.indexAddr (ad := ⟨grA, 0, none⟩) (y := 0) (sz := 3) rfl rfl rfl de kr)∘Jf 2∘Jy (v := vQ ((⟨0, 0, 3072⟩ : Sp).floor)) (h:=by exact Yl.qo rfl rfl kr (fun _ h => h.qq qax (i := 6) rfl (k := 0) (off := 2) (x := (⟨0, 0, 3072⟩ : Sp)) (rfl) rfl))∘Jo (vQ 3072) (by exact rfl)∘Jv 3 [(120, .bool true)]∘Jg 6 O0∘Jy (v := vP gsA 1) (h:=by exact Yl.indexAddr (ad := ⟨gsA, 0, none⟩) (y := 1) (sz := 1) rfl rfl rfl de kr)∘Jy (v := .slice ((⟨some ⟨gqA, 0, none⟩, qc, [(⟨3072, 0, 3145728⟩ : Sp)]⟩ : Rw).A) ((⟨some ⟨gqA, 0, none⟩, qc, [(⟨3072, 0, 3145728⟩ : Sp)]⟩ : Rw).l.length) ((⟨some ⟨gqA, 0, none⟩, qc, [(⟨3072, 0, 3145728⟩ : Sp)]⟩ : Rw).c)) (h:=by exact Yl.qo rfl rfl kr (fun _ h => h.qgq (i := 5) rfl (k := 1) (qdc (F := Rw.val) (k := 1) (x := (⟨some ⟨gqA, 0, none⟩, qc, [(⟨3072, 0, 3145728⟩ : Sp)]⟩ : Rw)) (rfl))))∘Jo (vS gqA 1 qc) (by exact rfl)∘Jl∘Jv 3 [(128, .bool true)]∘Jg 6 O0∘Jy (v := vP gsA 1) (h:=by exact Yl.indexAddr (ad := ⟨gsA, 0, none⟩) (y := 1) (sz := 1) rfl rfl rfl de kr)∘Jy (v := .slice ((⟨some ⟨gqA, 0, none⟩, qc, [(⟨3072, 0, 3145728⟩ : Sp)]⟩ : Rw).A) ((⟨some ⟨gqA, 0, none⟩, qc, [(⟨3072, 0, 3145728⟩ : Sp)]⟩ : Rw).l.length) ((⟨some ⟨gqA, 0, none⟩, qc, [(⟨3072, 0, 3145728⟩ : Sp)]⟩ : Rw).c)) (h:=by exact Yl.qo rfl rfl kr (fun _ h => h.qgq (i := 5) rfl (k := 1) (qdc (F := Rw.val) (k := 1) (x := (⟨some ⟨gqA, 0, none⟩, qc, [(⟨3072, 0, 3145728⟩ : Sp)]⟩ : Rw)) (rfl))))∘Jo (vS gqA 1 qc) (by exact rfl)∘Jy (v := vP gqA 0) (h:=by exact Yl.indexAddr (ad := ⟨gqA, 0, none⟩) (y := 0) (sz := 3) rfl rfl rfl de kr)∘Jf 0∘Jy (v := vQ ((⟨3072, 0, 3145728⟩ : Sp).v)) (h:=by exact Yl.qo rfl rfl kr (fun _ h => (by have := h.qq qax (i := 7) rfl (k := 0) (off := 0) (x := (⟨3072, 0, 3145728⟩ : Sp)) (rfl) rfl; simpa using this)))∘Jo (vQ 3072) (by exact rfl)∘Jv 3 [(138, .bool true)]∘Jg 3 O0∘Jl∘Jv 3 [(144, .bool true)]∘Jg 3 O0∘Jy (v := vP glA 0) (h:=by exact Yl.indexAddr (ad := ⟨glA, 0, none⟩) (y := 0) (sz := 1) rfl rfl rfl de kr)∘Jy (v := vI 4) (h:=by exact Yl.qo rfl rfl kr (fun _ h => h.qgq (i := 2) rfl (k := 0) (qdc (F := I64i) (k := 0) (x := (4 : Int)) (rfl))))∘Jo (vI 4) (by exact rfl)∘Jv 3 [(0, .bool true)]) fun a I HM => ?_)
 refine Jb I HM ((Jd6∘Jq) fun a I HM => ?_)
 replace I := I.to [(0, .bool true), (2, vI 0), (7, vP g7 0), (46, .bool false), (45, vI k), (44, vI 12), (43, vS g43 12 12), (18, .bool false), (1, vP gm 0)]
 exact Jb I HM ((JG∘JZ) JY1)
section
variable {W w w' : World} {F T A B G : List Fact} {x y : Stm} {gm : Nat} {s : Sta}
theorem Mem.swapT (n : Nat) (h : Mem W w F) (he : F.drop n = A ++ (B ++ T)) : Mem W w (F.take n ++ (B ++ (A ++ T))) := by
 have h2 : Mem W w (F.take n ++ (A ++ (B ++ T))) := by rw [← he, List.take_append_drop]; exact h
 exact h2.perm (List.Perm.append_left _ (List.perm_append_comm_assoc ..))
theorem Mem.dropT (n : Nat) (h : Mem W w F) (he : F.drop n = A ++ T) : Mem W w (F.take n ++ T) := by
 have h2 : Mem W w (F.take n ++ (A ++ T)) := by rw [← he, List.take_append_drop]; exact h
 exact h2.subl (List.Sublist.append (List.Sublist.refl _) (List.sublist_append_right ..))
theorem Mem.joinF (n : Nat) (h : Mem W w F) (k : Mem w w' G) (he : F.drop n = T) : Mem W w' (F.take n ++ (G ++ T)) := by
 have h2 := h.joinT k
 rw [← List.take_append_drop n F, he, List.append_assoc] at h2
 exact h2.perm (List.Perm.append_left _ List.perm_append_comm)
theorem Mem.st1 (n : Nat) (h : Mem W w F) (he : F.drop n = stF x ++ T) : StRd w x := h.stL n he
theorem Mem.st2 (n : Nat) (h : Mem W w F) (he : F.drop n = A ++ (stF x ++ T)) : StRd w x := h.stOf fun _ hf => List.mem_of_mem_drop (he ▸ List.mem_append_right _ (List.mem_append_left _ hf))
theorem few_s (hs : x.sta = s) (hG : GoodS s) : StFew x := (qal (y := x) (by rw [hs]; exact hG.sh)).few
theorem do_s (n : Nat) (HM : Mem W w F) (he : F.drop n = mdB gm x ++ T) (hs : x.sta = s) (hG : GoodS s) {o : Op30} (ho : o.Ok) : Calls Tryz.prog 13 #[.pointer (some ⟨gm, 0, none⟩), .agg o.cells] w (OpIs W gm (F.take n ++ T) (doS s o)) := by
 subst hs
 exact do_y n HM he hG ho
def StaIs (w : World) (s : Sta) (r : Ending) (w' : World) : Prop := ∃ y : Stm, r = .returned (.tuple #[.agg y.cells, .int .i64 0]) ∧ y.sta = s ∧ StCap y ∧ Mem w w' (stF y)
theorem qto (h : x.sta = y.sta) : StaEq x y := by
 unfold Stm.sta at h
 simp only [Sta.mk.injEq] at h
 obtain ⟨h1, h2, h3, h4, h5, h6, h7⟩ := h
 exact ⟨⟨h1, h2, h3⟩, h4, h5, h6, h7⟩
theorem qw9 (hx : StRd w x) (hy : StRd w y) (hs : x.sta = s) (hs' : y.sta = s) (hG : GoodS s) : Calls Tryz.prog 24 #[.agg x.cells, .agg y.cells] w (Is w (.bool true)) := by
 have h1 := qn8 x y w hx hy (few_s hs hG) (few_s hs' hG)
 rwa [decide_eq_true (qto (hs.trans hs'.symm))] at h1
end
def Nums.new (n : Nums) : Sta := newS (n.cp : Int) n.credit n.gs
theorem gs_ok {gs : List Gr} (h : gsOk gs = true) : ∀ g ∈ gs, g.Ok := fun x hx => by
 obtain ⟨g, hg, rfl⟩ := zx Gr.zero hx
 have hw := wt_at h hg
 have hl := (qh h).2.1
 refine ⟨?_, by unfold I64; omega⟩
 rcases Nat.eq_zero_or_pos g with rfl | h0
 ·rw [(qh h).2.2.1]; unfold I64; decide
 ·have := qhz ((qh h).2.2.2 g hg) h0
  unfold ParB at this
  unfold I64; omega
theorem Nums.good {n : Nums} (h : n.Ok) : GoodS n.new ∧ qpc n.new = true := by
 have h1 := Nums.right h
 have h2 := h.credit
 exact qmu (by unfold Nums.cp; omega) om h1.1 (gs_ok h1.1)
theorem Nums.cfg {n : Nums} {gA : Option Addr} {gc : Nat} (h : n.Ok) : (⟨(n.cp : Int), n.credit, gA, gc, n.gs, none, 0, [], none, 0, [], none, 0, [], none, 0, []⟩ : Stm).sta.Ok ∧ n.gs.length ≤ 1000000 ∧ cfgOk (⟨(n.cp : Int), n.credit, gA, gc, n.gs, none, 0, [], none, 0, [], none, 0, [], none, 0, []⟩ : Stm).sta = true := by
 have h1 := Nums.right h
 have h2 := h.credit
 exact qq8 (by unfold Nums.cp; omega) om h1.1 (gs_ok h1.1)
theorem qq9 (l : List Sml) (most : Nat) : (q9 l most).length ≤ most := by
 rw [qho, List.length_take]
 omega
theorem qra {n : Nums} (h : n.Ok) : n.cells.size = 13 := by
 unfold Nums.cells
 rw [List.size_toArray]
 simp [h.pl, h.wl]
end Go.Proofs.YtannicghedpdpaaGreat
set_option linter.all false
namespace Go.Proofs.YtannicghedpdpaaGreat
open Go.RowKit Go.ChangeShapes Go.WideShapes Go.ChangeAt
section
variable {H : Type} {enc : TypeId × Value → H} {P : Program} {W : World} {sp : Nat → Bool} {held : Bool}
def intZ : Value → Int
 | .int _ z => z
 | _ => 0
theorem qmv {t e : TypeId} {n : Nat} {k : Go.IntKind} (ht : P.underlying t = some (.array n e)) (he : P.underlying e = some (.int k)) (hc : P.cellsOf e = 1) (hn : P.cellsOf t = n) {fuel : Nat} {L : List Value} {d : DataW H} {p : List MemPlace} (hf : DataW.trod enc P W 0 sp held fuel t L = some (d, p)) :
  ∃ zs : List Int, zs.length = n ∧ L = zs.map (Value.int k) ∧ ∀ z ∈ zs, (Lit.int k z).wf = true := by
 obtain ⟨xs, m, _, _, hl, hx, hg⟩ := DataW.trod_array ht hf
 rw [hn] at hl
 have el : ∀ i, i < n → ∃ z : Int, L[i]? = some (.int k z) ∧ (Lit.int k z).wf = true := fun i hi => by
  have g := hg i hi
  rw [hc, Nat.mul_one, List.getElem?_eq_getElem om] at g
  obtain ⟨z, e0, _, w0⟩ := DataW.trod_int he g
  exact ⟨z, qbx e0, w0⟩
 refine ⟨L.map intZ, by rw [List.length_map, hl], qkl (by rw [List.length_map, List.length_map]) fun i hi => ?_, fun z hz => ?_⟩
 ·rw [List.length_map, List.length_map] at hi
  obtain ⟨z, h1, _⟩ := el i om
  rw [List.map_map, List.getElem?_map, h1]
  rfl
 ·obtain ⟨v, hv, rfl⟩ := List.mem_map.1 hz
  obtain ⟨i, hi, rfl⟩ := List.getElem_of_mem hv
  obtain ⟨z, h1, h2⟩ := el i om
  rw [List.getElem?_eq_getElem hi] at h1
  injection h1 with h1
  rw [h1]
  exact h2
end
def qio : List Go.IntKind := [.u8, .u8, .u8, .u8, .u8, .u16, .u32, .u8]
theorem qob : qdu Tryz.prog 73 qio = true := by kernel_rfl
theorem qmw : Tryz.prog.underlying 28 = some (.slice 73) := by kernel_rfl
theorem qoc : Tryz.prog.cellsOf 73 = 8 := by kernel_rfl
theorem qod {cs : List Value} (hl : cs.length = qio.length) (h : ∀ (i : Nat) (k : Go.IntKind), qio[i]? = some k → ∃ z : Int, cs[i]? = some (Value.int k z) ∧ (Lit.int k z).wf = true) : ∃ x : Sml, sml x = cs ∧ x.Ok := by
 obtain ⟨z0, h0, w0⟩ := h 0 .u8 rfl
 have w0 := u8_wf w0
 obtain ⟨z1, h1, w1⟩ := h 1 .u8 rfl
 have w1 := u8_wf w1
 obtain ⟨z2, h2, w2⟩ := h 2 .u8 rfl
 have w2 := u8_wf w2
 obtain ⟨z3, h3, w3⟩ := h 3 .u8 rfl
 have w3 := u8_wf w3
 obtain ⟨z4, h4, w4⟩ := h 4 .u8 rfl
 have w4 := u8_wf w4
 obtain ⟨z5, h5, w5⟩ := h 5 .u16 rfl
 have w5 := qoz w5
 obtain ⟨z6, h6, w6⟩ := h 6 .u32 rfl
 have w6 := que w6
 obtain ⟨z7, h7, w7⟩ := h 7 .u8 rfl
 have w7 := u8_wf w7
 refine ⟨⟨z0.toNat, z1.toNat, z2.toNat, z3.toNat, z4.toNat, z5.toNat, z6.toNat, z7.toNat⟩, ?_, ⟨by show z0.toNat < _; omega, by show z1.toNat < _; omega, by show z2.toNat < _; omega, by show z3.toNat < _; omega, by show z4.toNat < _; omega, by show z5.toNat < _; omega, by show z6.toNat < _; omega, by show z7.toNat < _; omega⟩⟩
 refine qkl (by rw [hl]; rfl) fun i hi => ?_
 have hi' : i < 8 := by rw [hl] at hi; exact hi
 have hc : i = 0 ∨ i = 1 ∨ i = 2 ∨ i = 3 ∨ i = 4 ∨ i = 5 ∨ i = 6 ∨ i = 7 := by omega
 rcases hc with rfl | rfl | rfl | rfl | rfl | rfl | rfl | rfl
 ·rw [h0]; show some (Value.int .u8 ((z0.toNat : Nat) : Int)) = _; rw [Int.toNat_of_nonneg w0.1]
 ·rw [h1]; show some (Value.int .u8 ((z1.toNat : Nat) : Int)) = _; rw [Int.toNat_of_nonneg w1.1]
 ·rw [h2]; show some (Value.int .u8 ((z2.toNat : Nat) : Int)) = _; rw [Int.toNat_of_nonneg w2.1]
 ·rw [h3]; show some (Value.int .u8 ((z3.toNat : Nat) : Int)) = _; rw [Int.toNat_of_nonneg w3.1]
 ·rw [h4]; show some (Value.int .u8 ((z4.toNat : Nat) : Int)) = _; rw [Int.toNat_of_nonneg w4.1]
 ·rw [h5]; show some (Value.int .u16 ((z5.toNat : Nat) : Int)) = _; rw [Int.toNat_of_nonneg w5.1]
 ·rw [h6]; show some (Value.int .u32 ((z6.toNat : Nat) : Int)) = _; rw [Int.toNat_of_nonneg w6.1]
 ·rw [h7]; show some (Value.int .u8 ((z7.toNat : Nat) : Int)) = _; rw [Int.toNat_of_nonneg w7.1]
section
variable {H : Type} {enc : TypeId × Value → H} {P : Program} {W : World} {sp : Nat → Bool} {held : Bool}
theorem flat_get {sz : Nat} : ∀ (css : List (List Value)), (∀ l ∈ css, l.length = sz) → ∀ p u, (css.flatMap id)[p]? = some u → ∃ i j, ∃ hi : i < css.length, j < sz ∧ p = i * sz + j ∧ css[i][j]? = some u := by
 intro css
 induction css with
 | nil => intro _ p u h; simp at h
 | cons l r ih =>
  intro h p u hu
  have hll := h l (by simp)
  rw [List.flatMap_cons] at hu
  by_cases hp : p < sz
  ·rw [List.getElem?_append_left (by simp only [id]; omega)] at hu
   exact ⟨0, p, by simp, hp, by omega, hu⟩
  ·rw [List.getElem?_append_right (by simp only [id]; omega)] at hu
   simp only [id] at hu
   rw [hll] at hu
   obtain ⟨i, j, hi, hj, hpj, hu'⟩ := ih (fun y hy => h y (by simp [hy])) _ u hu
   exact ⟨i + 1, j, by simp; omega, hj, by rw [Nat.succ_mul]; omega, by simpa using hu'⟩
theorem qrb {sz : Nat} : ∀ (css : List (List Value)), (∀ l ∈ css, l.length = sz) → (css.flatMap id).length = css.length * sz := by
 intro css
 induction css with
 | nil => simp
 | cons l r ih => intro h; rw [List.flatMap_cons, List.length_append, ih (fun y hy => h y (by simp [hy])), List.length_cons, Nat.succ_mul]; have := h l (by simp); simp only [id]; omega
theorem qhp {α : Type} (f : α → List Value) (Ok : α → Prop) {t e : TypeId} {sz : Nat} (ht : P.underlying t = some (.slice e)) (hsz : P.cellsOf e = sz) (h0 : 0 < sz) (hf : ∀ x, (f x).length = sz)
  (hE : ∀ m l y, DataW.trod enc P W 0 sp held m e l = some y → ∃ x, f x = l ∧ Ok x) {fuel : Nat} {cs : List Value} {x : DataW H × List MemPlace} (h : DataW.trod enc P W 0 sp held fuel t cs = some x) :
  ∃ (A : Option Addr) (c : Nat) (l : List α), cs = [.slice A l.length c] ∧ l.length ≤ c ∧ c ≤ maxLen ∧ (∀ x ∈ l, Ok x) ∧ Rd W W.heap.size sz A l.length (l.flatMap f) := by
 rcases DataW.trod_slice ht h with ⟨hc, _⟩ | ⟨a, len, cap, elems, rest, m, _, hc, _, _, hl, hm, hlen, hel, _⟩
 ·exact ⟨none, 0, [], hc, Nat.le_refl _, by unfold maxLen; omega, by simp, Rd.nil⟩
 ·have hall : ∀ i, i < len → ∃ x : α, W.cells? 0 (a.add (i * sz)) sz = some (f x) ∧ Ok x := by
   intro i hi
   have h1 := hel i hi
   rw [hsz, List.getElem?_eq_getElem (by omega : i < elems.length)] at h1
   obtain ⟨l, h2, h3⟩ := Option.bind_eq_some_iff.1 h1
   obtain ⟨x, rfl, hx⟩ := hE _ _ _ h3
   exact ⟨x, h2, hx⟩
  have key : ∀ k, k ≤ len → ∃ xs : List α, xs.length = k ∧ ∀ i (hi : i < xs.length), W.cells? 0 (a.add (i * sz)) sz = some (f xs[i]) ∧ Ok xs[i] := by
   intro k
   induction k with
   | zero => intro _; exact ⟨[], rfl, fun i hi => by simp at hi⟩
   | succ k ih =>
    intro hk
    obtain ⟨xs, h1, h2⟩ := ih om
    obtain ⟨x, h3, h4⟩ := hall k om
    refine ⟨xs ++ [x], by simp [h1], fun i hi => ?_⟩
    by_cases hik : i < xs.length
    ·rw [List.getElem_append_left hik]; exact h2 i hik
    ·obtain rfl : i = xs.length := by simp at hi; omega
     rw [List.getElem_append_right (Nat.le_refl _)]
     simp only [Nat.sub_self, List.getElem_cons_zero, h1]
     exact ⟨h3, h4⟩
  obtain ⟨xs, h1, h2⟩ := key len (Nat.le_refl _)
  have hfm : xs.flatMap f = (xs.map f).flatMap id := by rw [List.flatMap_map]; rfl
  have hll : ∀ l ∈ xs.map f, l.length = sz := fun l hl' => by obtain ⟨x, _, rfl⟩ := List.mem_map.1 hl'; exact hf x
  have hat : ∀ i (hi : i < xs.length) j, j < sz → W.cell? (a.add (i * sz + j)) = (f xs[i])[j]? := by
   intro i hi j hj
   have := (World.cells?_some (h2 i hi).1).2.2 j hj
   rwa [qi3] at this
  refine ⟨some a, cap, xs, by rw [hc, h1], by omega, hm, fun x hx => by obtain ⟨i, hi, rfl⟩ := List.getElem_of_mem hx; exact (h2 i hi).2, ⟨by rw [hfm, qrb _ hll, List.length_map], fun hn => ⟨a, rfl, ?_, ?_⟩⟩⟩
  ·have h3 := hat 0 hn 0 h0
   have h4 := hf xs[0]
   rw [List.getElem?_eq_getElem om] at h3
   have := World.block_lt_of_cell? W _ h3
   simpa [Addr.add] using this
  ·intro p u hu
   rw [hfm] at hu
   obtain ⟨i, j, hi, hj, rfl, hu'⟩ := flat_get _ hll p u hu
   rw [List.length_map] at hi
   rw [hat i hi j hj, ← hu', List.getElem_map]
end
section
variable {H : Type} {enc : TypeId × Value → H} {W : World} {b0 : Nat} {v : Value} {d : DataW H} {p : List MemPlace}
theorem qtp {fuel : Nat} {cs : List Value} {x : DataW H × List MemPlace} (hf : DataW.trod enc Tryz.prog W 0 (fun _ => true) true fuel 73 cs = some x) : ∃ e : Sml, sml e = cs ∧ e.Ok := by
 obtain ⟨h1, h2⟩ := qfo qob hf
 exact qod h1 h2
set_option maxRecDepth 100000 in
theorem qtq (hval : Value.okWide Tryz.prog W .any b0 28 v) (h : DataW.Trod enc Tryz.prog W 0 (fun _ => true) true 28 v d p) :
  ∃ (A : Option Addr) (c : Nat) (l : List Sml), v = .slice A l.length c ∧ l.length ≤ c ∧ c ≤ maxLen ∧ (∀ x ∈ l, x.Ok) ∧ Rd W W.heap.size 8 A l.length (l.flatMap sml) := by
 obtain ⟨a0, len, cap, rfl⟩ := okWide_slice qmw hval
 obtain ⟨fuel, hf⟩ := h
 obtain ⟨A, c, l, hcs, h1⟩ := qhp sml Sml.Ok qmw qoc de qli (fun _ _ _ h => qtp h) hf
 simp only [Value.cells, List.cons.injEq, and_true, Value.slice.injEq] at hcs
 obtain ⟨rfl, rfl, rfl⟩ := hcs
 exact ⟨_, _, l, rfl, h1⟩
theorem nf0 : fieldAt Tryz.prog 27 0 0 5 = true := by kernel_rfl
theorem nf1 : fieldAt Tryz.prog 27 1 1 5 = true := by kernel_rfl
theorem nf2 : fieldAt Tryz.prog 27 2 2 22 = true := by kernel_rfl
theorem nf3 : fieldAt Tryz.prog 27 3 3 23 = true := by kernel_rfl
theorem nf4 : fieldAt Tryz.prog 27 4 8 25 = true := by kernel_rfl
theorem qoe : Tryz.prog.cellsOf 27 = 13 := by kernel_rfl
theorem qv5 : Tryz.prog.underlying 22 = some (.int .u32) := by kernel_rfl
theorem qv6 : Tryz.prog.underlying 24 = some (.int .u16) := by kernel_rfl
theorem qxa : Tryz.prog.underlying 23 = some (.array 5 5) := by kernel_rfl
theorem qxb : Tryz.prog.underlying 25 = some (.array 5 24) := by kernel_rfl
theorem qmx : Tryz.prog.cellsOf 5 = 1 := by kernel_rfl
theorem qrc : Tryz.prog.cellsOf 24 = 1 := by kernel_rfl
theorem qrd : Tryz.prog.cellsOf 22 = 1 := by kernel_rfl
theorem qmy : Tryz.prog.cellsOf 23 = 5 := by kernel_rfl
theorem qmz : Tryz.prog.cellsOf 25 = 5 := by kernel_rfl
theorem qip (k : Go.IntKind) : ∀ {zs : List Int}, (∀ z ∈ zs, 0 ≤ z) → zs.map (Value.int k) = (zs.map Int.toNat).map (fun z : Nat => Value.int k (z : Int))
 | [], _ => rfl
 | z :: r, h => by
  rw [List.map_cons, List.map_cons, List.map_cons, qip k (fun y hy => h y (List.mem_cons_of_mem _ hy)), Int.toNat_of_nonneg (h z (List.mem_cons_self ..))]
theorem qtr {cs A B : List Value} {a b c : Value} (hl : cs.length = 13) (h0 : cs[0]? = some a) (h1 : cs[1]? = some b) (h2 : cs[2]? = some c) (h3 : (cs.drop 3).take 5 = A) (h4 : (cs.drop 8).take 5 = B) : cs = a :: b :: c :: (A ++ B) := by
 match cs, hl with
 | [c0, c1, c2, c3, c4, c5, c6, c7, c8, c9, c10, c11, c12], _ =>
  injection h0 with h0
  injection h1 with h1
  injection h2 with h2
  rw [← h3, ← h4, ← h0, ← h1, ← h2]
  rfl
theorem qre {fuel : Nat} {cs : List Value} {y : DataW H × List MemPlace} (hf : DataW.trod enc Tryz.prog W 0 (fun _ => true) true fuel 27 cs = some y) : ∃ n : Nums, n.cells.toList = cs ∧ n.Ok := by
 obtain ⟨hl, _, y0, g0⟩ := qaq nf0 hf
 obtain ⟨_, _, y1, g1⟩ := qaq nf1 hf
 obtain ⟨_, _, y2, g2⟩ := qaq nf2 hf
 obtain ⟨_, _, y3, g3⟩ := qaq nf3 hf
 obtain ⟨_, _, y4, g4⟩ := qaq nf4 hf
 rw [qoe] at hl
 obtain ⟨c0, e0, _, w0⟩ := DataW.trod_int qoy g0
 obtain ⟨c1, e1, _, w1⟩ := DataW.trod_int qoy g1
 obtain ⟨c2, e2, _, w2⟩ := DataW.trod_int qv5 g2
 obtain ⟨ps, l3, e3, w3⟩ := qmv qxa qoy qmx qmy g3
 obtain ⟨ws, l4, e4, w4⟩ := qmv qxb qv6 qrc qmz g4
 rw [qmx] at e0 e1
 rw [qrd] at e2
 rw [qmy] at e3
 rw [qmz] at e4
 have u0 := u8_wf w0
 have u1 := u8_wf w1
 have u2 := que w2
 rw [qip _ fun z hz => (u8_wf (w3 z hz)).1] at e3
 rw [qip _ fun z hz => (qoz (w4 z hz)).1] at e4
 refine ⟨⟨c0.toNat, c1.toNat, c2.toNat, ps.map Int.toNat, ws.map Int.toNat⟩, ?_, ⟨by show c0.toNat < _; omega, by show c1.toNat < _; omega, by show c2.toNat < _; omega, by show (ps.map Int.toNat).length = 5; rw [List.length_map, l3], by show (ws.map Int.toNat).length = 5; rw [List.length_map, l4], fun z hz => ?_, fun z hz => ?_⟩⟩
 ·rw [qtr hl (qbx e0) (qbx e1) (qbx e2) e3 e4]
  unfold Nums.cells
  dsimp only
  rw [Int.toNat_of_nonneg u0.1, Int.toNat_of_nonneg u1.1, Int.toNat_of_nonneg u2.1]
 ·obtain ⟨x, hx, rfl⟩ := List.mem_map.1 hz
  have := u8_wf (w3 x hx)
  omega
 ·obtain ⟨x, hx, rfl⟩ := List.mem_map.1 hz
  have := qoz (w4 x hx)
  omega
set_option maxRecDepth 100000 in
theorem qts (hval : Value.okWide Tryz.prog W .any b0 27 v) (h : DataW.Trod enc Tryz.prog W 0 (fun _ => true) true 27 v d p) : ∃ n : Nums, v = .agg n.cells ∧ n.Ok := by
 obtain ⟨fs, hu⟩ := qi5 (show qfp Tryz.prog 27 = true by kernel_rfl)
 obtain ⟨cs, rfl, hs⟩ := okWide_struct hu hval
 obtain ⟨fuel, hf⟩ := h
 obtain ⟨n, e, hn⟩ := qre (cs := cs.toList) hf
 exact ⟨n, by rw [Array.toList_inj.1 e], hn⟩
end
end Go.Proofs.YtannicghedpdpaaGreat
set_option linter.all false
namespace Go.Proofs.YtannicghedpdpaaGreat
open Go.RowKit Go.ChangeShapes Go.WideShapes Go.ChangeAt
def qll : List Go.IntKind := [.u8, .i64, .i64, .i64, .i64, .i64, .i64, .u64]
theorem qrf : qdu Tryz.prog 52 qll = true := by kernel_rfl
theorem qrg : Tryz.prog.underlying 29 = some (.slice 52) := by kernel_rfl
theorem qrh : Tryz.prog.cellsOf 52 = 8 := by kernel_rfl
theorem qri {cs : List Value} (hl : cs.length = qll.length) (h : ∀ (i : Nat) (k : Go.IntKind), qll[i]? = some k → ∃ z : Int, cs[i]? = some (Value.int k z) ∧ (Lit.int k z).wf = true) : ∃ x : Op30, opL x = cs ∧ x.Ok := by
 obtain ⟨z0, h0, w0⟩ := h 0 .u8 rfl
 have w0 := u8_wf w0
 obtain ⟨z1, h1, w1⟩ := h 1 .i64 rfl
 obtain ⟨z2, h2, w2⟩ := h 2 .i64 rfl
 obtain ⟨z3, h3, w3⟩ := h 3 .i64 rfl
 obtain ⟨z4, h4, w4⟩ := h 4 .i64 rfl
 obtain ⟨z5, h5, w5⟩ := h 5 .i64 rfl
 obtain ⟨z6, h6, w6⟩ := h 6 .i64 rfl
 have w1 := qfn w1; have w2 := qfn w2; have w3 := qfn w3; have w4 := qfn w4; have w5 := qfn w5; have w6 := qfn w6
 obtain ⟨z7, h7, w7⟩ := h 7 .u64 rfl
 have w7 := qwk w7
 refine ⟨⟨z0.toNat, z1, z2, z3, z4, z5, z6, z7.toNat⟩, ?_, ⟨by show z0.toNat < _; omega, w1, w2, w3, w4, w5, w6, by show z7.toNat < _; omega⟩⟩
 refine qkl (by rw [hl]; rfl) fun i hi => ?_
 have hi' : i < 8 := by rw [hl] at hi; exact hi
 have hc : i = 0 ∨ i = 1 ∨ i = 2 ∨ i = 3 ∨ i = 4 ∨ i = 5 ∨ i = 6 ∨ i = 7 := by omega
 rcases hc with rfl | rfl | rfl | rfl | rfl | rfl | rfl | rfl
 ·rw [h0]; show some (Value.int .u8 ((z0.toNat : Nat) : Int)) = _; rw [Int.toNat_of_nonneg w0.1]
 ·exact h1.symm ▸ rfl
 ·exact h2.symm ▸ rfl
 ·exact h3.symm ▸ rfl
 ·exact h4.symm ▸ rfl
 ·exact h5.symm ▸ rfl
 ·exact h6.symm ▸ rfl
 ·rw [h7]; show some (Value.int .u64 ((z7.toNat : Nat) : Int)) = _; rw [Int.toNat_of_nonneg w7.1]
section
variable {H : Type} {enc : TypeId × Value → H} {W : World} {b0 : Nat} {v : Value} {d : DataW H} {p : List MemPlace}
theorem qv7 {fuel : Nat} {cs : List Value} {x : DataW H × List MemPlace} (hf : DataW.trod enc Tryz.prog W 0 (fun _ => true) true fuel 52 cs = some x) : ∃ e : Op30, opL e = cs ∧ e.Ok := by
 obtain ⟨h1, h2⟩ := qfo qrf hf
 exact qri h1 h2
set_option maxRecDepth 100000 in
theorem qv8 (hval : Value.okWide Tryz.prog W .any b0 29 v) (h : DataW.Trod enc Tryz.prog W 0 (fun _ => true) true 29 v d p) :
  ∃ (A : Option Addr) (c : Nat) (l : List Op30), v = .slice A l.length c ∧ l.length ≤ c ∧ c ≤ maxLen ∧ (∀ x ∈ l, x.Ok) ∧ Rd W W.heap.size 8 A l.length (l.flatMap opL) := by
 obtain ⟨a0, len, cap, rfl⟩ := okWide_slice qrg hval
 obtain ⟨fuel, hf⟩ := h
 obtain ⟨A, c, l, hcs, h1⟩ := qhp opL Op30.Ok qrg qrh de qlg (fun _ _ _ h => qv7 h) hf
 simp only [Value.cells, List.cons.injEq, and_true, Value.slice.injEq] at hcs
 obtain ⟨rfl, rfl, rfl⟩ := hcs
 exact ⟨_, _, l, rfl, h1⟩
end
end Go.Proofs.YtannicghedpdpaaGreat
namespace Go.Proofs.YtannicghedpdpaaGreat
open Go.RowKit
structure Grow (s s' : Sta) : Prop where
 cpus : s'.cpus = s.cpus
 cl : s'.cl.length = s.cl.length
 clm : ∀ c, s.cl.getD c 0 ≤ s'.cl.getD c 0
 sp : s'.sp.length = s.sp.length
 row : ∀ g, (s'.sp.getD g []).length = (s.sp.getD g []).length
 fl : ∀ g c, (s.spot g c).floor ≤ (s'.spot g c).floor
section
variable {s a b d : Sta} {g c i : Nat} {z : Sp} {e : En} {o : Op30}
theorem Grow.refl (s : Sta) : Grow s s := ⟨rfl, rfl, fun _ => Int.le_refl _, rfl, fun _ => rfl, fun _ _ => Nat.le_refl _⟩
theorem Grow.trans (h : Grow a b) (k : Grow b d) : Grow a d := ⟨k.cpus.trans h.cpus, k.cl.trans h.cl, fun c => Int.le_trans (h.clm c) (k.clm c), k.sp.trans h.sp, fun g => (k.row g).trans (h.row g), fun g c => Nat.le_trans (h.fl g c) (k.fl g c)⟩
theorem qtt (g' c' : Nat) : (s.qc9 g c z).spot g' c' = s.spot g' c' ∨ (g' = g ∧ c' = c ∧ (s.qc9 g c z).spot g' c' = z) := by
 rcases Nat.lt_or_ge g s.sp.length with hg | hg
 ·rcases Nat.lt_or_ge c (s.sp.getD g []).length with hc | hc
  ·rw [qmh hg hc]
   split
   ·rename_i h; exact .inr ⟨h.1, h.2, rfl⟩
   ·exact .inl rfl
  ·refine .inl ?_
   unfold Sta.qc9
   rw [List.set_eq_of_length_le hc, qb2 [] hg]
 ·refine .inl ?_
  unfold Sta.qc9
  rw [List.set_eq_of_length_le hg]
theorem Grow.spot (hz : z.floor = (s.spot g c).floor) : Grow s (s.qc9 g c z) := ⟨rfl, rfl, fun _ => Int.le_refl _, qbc, qf9, fun g' c' => by
 rcases qtt (s := s) (g := g) (c := c) (z := z) g' c' with h | ⟨rfl, rfl, h⟩
 ·rw [h]; exact Nat.le_refl _
 ·rw [h, hz]; exact Nat.le_refl _⟩
theorem Grow.run : Grow s (s.qfd g c e) := Grow.spot rfl
theorem Grow.wake1 : Grow s (wake1 c s g) := Grow.run
theorem Grow.wake : ∀ (l : List Nat) (s : Sta), Grow s (wakeS s l c)
 | [], s => Grow.refl s
 | g :: r, s => (Grow.wake1 (s := s) (c := c) (g := g)).trans (Grow.wake r (Go.Proofs.YtannicghedpdpaaGreat.wake1 c s g))
theorem Grow.charge (c d : Nat) : ∀ (f g : Nat) (s : Sta), Grow s (zt c d f g s)
 | 0, _, s => Grow.refl s
 | f + 1, g, s => by
  rw [zt]
  split
  ·exact Grow.refl s
  ·exact (Grow.run (s := s) (g := g) (c := c) (e := (s.spEn g c).add d)).trans (Grow.charge c d f _ _)
theorem Grow.ts {l : List Tk} : Grow s { s with ts := l } := ⟨rfl, rfl, fun _ => Int.le_refl _, rfl, fun _ => rfl, fun _ _ => Nat.le_refl _⟩
theorem Grow.cu {l : List Int} : Grow s { s with cu := l } := ⟨rfl, rfl, fun _ => Int.le_refl _, rfl, fun _ => rfl, fun _ _ => Nat.le_refl _⟩
theorem Grow.move (i : Nat) (to : Int) : Grow s (moveS s i to) := by
 unfold moveS
 dsimp only
 split
 ·exact Grow.ts.trans (Grow.wake _ _)
 ·exact Grow.ts
theorem Grow.step : Grow s (stepS s o).1 := by
 unfold stepS
 split
 ·unfold qb9; repeat' split
  all_goals first | exact Grow.refl s | exact Grow.ts.trans (Grow.wake _ _)
 ·unfold qca; repeat' split
  all_goals first | exact Grow.refl s | exact Grow.ts.trans (Grow.wake _ _)
 ·unfold qai; repeat' split
  all_goals first | exact Grow.refl s | exact ⟨rfl, rfl, fun _ => Int.le_refl _, rfl, fun _ => rfl, fun _ _ => Nat.le_refl _⟩
 ·unfold qai; repeat' split
  all_goals first | exact Grow.refl s | exact ⟨rfl, rfl, fun _ => Int.le_refl _, rfl, fun _ => rfl, fun _ _ => Nat.le_refl _⟩
 ·unfold tickS
  split
  ·exact Grow.refl s
  ·split
   ·exact Grow.refl s
   ·split
    ·exact Grow.refl s
    ·rename_i _ h2 _
     have hcl : Grow s { s with cl := s.cl.set o.cpu.toNat (s.cl.getD o.cpu.toNat 0 + o.ticks) } := ⟨rfl, by show (s.cl.set _ _).length = _; rw [List.length_set], fun c => by
      show s.cl.getD c 0 ≤ (s.cl.set o.cpu.toNat (s.cl.getD o.cpu.toNat 0 + o.ticks)).getD c 0
      by_cases e : o.cpu.toNat = c
      ·subst e
       rcases Nat.lt_or_ge o.cpu.toNat s.cl.length with h | h
       ·rw [qg _ _ h]; omega
       ·rw [List.set_eq_of_length_le h]; exact Int.le_refl _
      ·rw [getD_set_ne _ _ e]; exact Int.le_refl _, rfl, fun _ => rfl, fun _ _ => Nat.le_refl _⟩
     dsimp only
     split
     ·exact hcl
     ·exact hcl.trans (Grow.ts.trans (Grow.charge ..))
 ·unfold pickS; split
  ·exact Grow.refl s
  ·exact Grow.cu
 ·unfold zk; repeat' split
  all_goals first | exact Grow.refl s | exact Grow.ts
 ·unfold z8
  split
  ·exact Grow.refl s
  ·split
   ·exact Grow.refl s
   ·refine ⟨rfl, rfl, fun _ => Int.le_refl _, List.length_set .., fun g => ?_, fun g c => ?_⟩
    ·show ((s.sp.set o.group.toNat _).getD g []).length = _
     by_cases e : o.group.toNat = g
     ·subst e
      rcases Nat.lt_or_ge o.group.toNat s.sp.length with h | h
      ·rw [qg _ _ h, List.length_map]
      ·rw [List.set_eq_of_length_le h]
     ·rw [getD_set_ne _ _ e]
    ·show (s.spot g c).floor ≤ (((s.sp.set o.group.toNat _).getD g []).getD c Sp.zero).floor
     by_cases e : o.group.toNat = g
     ·subst e
      rcases Nat.lt_or_ge o.group.toNat s.sp.length with h | h
      ·rw [qg _ _ h, List.getD_eq_getElem?_getD, List.getElem?_map]
       unfold Sta.spot
       rw [List.getD_eq_getElem?_getD (l := s.sp.getD o.group.toNat [])]
       cases (s.sp.getD o.group.toNat [])[c]? <;> exact Nat.le_refl _
      ·rw [List.set_eq_of_length_le h]; exact Nat.le_refl _
     ·rw [getD_set_ne _ _ e]; exact Nat.le_refl _
 ·unfold qad; repeat' split
  all_goals first | exact Grow.refl s | exact Grow.move _ _
 ·unfold zu; repeat' split
  all_goals first | exact Grow.refl s | exact Grow.move _ _
 ·exact Grow.refl s
theorem Grow.rise : Grow s (riseS s) := ⟨rfl, rfl, fun _ => Int.le_refl _, qbk, qh8, fun g c => by
 rcases Nat.lt_or_ge g s.sp.length with hg | hg
 ·rcases Nat.lt_or_ge c (s.sp.getD g []).length with hc | hc
  ·rw [qjw hg hc]
   unfold rise1
   split
   ·exact Nat.le_refl _
   ·exact Nat.le_max_left ..
  ·unfold Sta.spot
   rw [List.getD_eq_getElem?_getD (l := s.sp.getD g []), List.getElem?_eq_none hc]
   exact Nat.zero_le _
 ·unfold Sta.spot
  rw [List.getD_eq_getElem?_getD (l := s.sp), List.getElem?_eq_none hg]
  exact Nat.zero_le _⟩
end
section
variable {s : Sta} {x : Stm} {k c : Nat}
end
theorem Rd.to {w : World} {B sz n : Nat} {A A' : Option Addr} {xs : List Value} (h : Rd w B sz A n xs) (e : A = A') : Rd w B sz A' n xs := e ▸ h
theorem qbn : SI Tryz.prog 102 3 := ⟨by kernel_rfl, by kernel_rfl⟩
theorem qis : EI Tryz.prog 99 102 (.agg #[vQ 0, vI 0, vI 0]) 3 24 := ⟨by kernel_rfl, by kernel_rfl, rfl, by omega⟩
theorem qof {l : List Tk} {id : Int} (h : ∀ k, k < l.length → (l.getD k Tk.zero).id ≠ id) : fidx l id = -1 := by unfold fidx; rw [qfz h]
theorem qru {l : List Tk} {id : Int} {i : Nat} (hi : i < l.length) (h : (l.getD i Tk.zero).id = id) (hn : ∀ k, k < i → (l.getD k Tk.zero).id ≠ id) : fidx l id = i := by unfold fidx; rw [qd6 hi h hn]
theorem qke (v r : Nat) (wt : Int) (hv : v < 18446744073709551616) (hr : r < 4294967296) (hw : 0 ≤ wt ∧ wt < 4294967296) (w : World) :
    Calls Tryz.prog 106 #[.agg #[vQ v, vW r, vW wt]] w (Is w (.bool (entOk v r wt))) := by
 obtain ⟨z, rfl⟩ : ∃ z : Nat, wt = (z : Int) := ⟨wt.toNat, by omega⟩
 refine (JN1 Tryz.func106 29) ?_
 refine (JP∘JE) fun w1 g1 => (Jp 1∘Jr∘Jg 2 O0∘Jp 2) (Ji (fun hd6 => ?_) fun hd6 => ?_)
 ·
  refine (Jg 2 O0∘Jp 3) (Ji (fun hd11 => ?_) fun hd11 => ?_)
  ·
   refine (Jg 1 O0∘Jg 2 O0∘Jp 3) (Ji (fun hd18 => ?_) fun hd18 => ?_)
   ·
    refine (Jg 0 O0∘Jp 2) (Je (fun hd22 => ?_) fun hd22 => ?_)
    ·
     exact (Jg 1 O0∘Jp 5∘Jd6∘Jj∘JZ∘Jz1) fun HM => is_as (by unfold entOk; rw [← decide_not]; exact decide_eq_decide.2 om) HM.below
    exact (Jp 7∘Jd6∘Jj∘JZ∘Jz1) fun HM => qd5 om HM.below
   exact (Jv 11 [(2, .bool false)]∘Jd6∘Jj∘JZ∘Jz1) fun HM => is_no om HM.below
  exact (Jv 18 [(2, .bool false)]∘Jd6∘Jj∘JZ∘Jz1) fun HM => is_no om HM.below
 exact (Jv 23 [(2, .bool false)]∘Jd3∘Jj∘JZ∘Jz1) fun HM => is_no om HM.below
theorem zo (v r : Nat) (wt : Int) (hw : 0 ≤ wt ∧ wt < 4294967296) (w : World) :
    Calls Tryz.prog 107 #[vQ v, vW r, vI wt] w (Is w (.agg #[vQ v, vW r, vW wt])) := by
 obtain ⟨z, rfl⟩ : ∃ z : Nat, wt = (z : Int) := ⟨wt.toNat, by omega⟩
 refine (JN3 Tryz.func107 12) ?_
 refine (JP∘JA #[vQ 0, vW 0, vW 0]) fun w6 g6 => (Jr∘Jp 3∘Jv 1 [(10, vW (IntKind.u32.wrap (z : Int)))]∘Jo (vW z) (by exact qen rfl om)∘Jy (v := .agg #[vQ v, vW r, vW z]) (h:=by exact Yl.build (vs := [(0, vQ v), (1, vW r), (2, vW z)]) rfl kr kr)∘JV qn O0') fun w1_5 => (Jt5∘Jj∘JZ) fun a I HM => ?_
 exact ret1 rfl I (.cellS (i := 0) I HM rfl rfl qn rfl) (⟨rfl, HM.below⟩)
theorem qrv (m n : Nat) (hm : m < 18446744073709551616) (hn : 1 ≤ n ∧ n ≤ 64) (w : World) :
    Calls Tryz.prog 108 #[vQ m, vI n] w (Is w (.bool (decide (2 ^ n ≤ m)))) := by
 refine (JN2 Tryz.func108 16) ?_
 refine (JP∘Jp 1∘Jj∘JQ∘JP∘Jp 2∘Jd1∘Jj∘JB) fun a I HM => ?_
 refine qi (fun mS aS wS => ∃ (k : Nat), (n ≤ k) ∧ (k ≤ 64) ∧ (∀ i, n ≤ i → i < k → m / 2 ^ i % 2 = 0) ∧ mS = 64 - k ∧ Fr aS 16 [] [(5, vI k), (4, .bool false), (0, vQ m)] ∧ Mem w wS []) (m := 64 - n) ⟨n, Nat.le_refl _, hn.2, fun i h1 h2 => by omega, rfl, I.sub kr, HM.pk []⟩ ?_
 clear I HM; rintro mS a w_ ⟨k, hkn, hk, hu, rfl, I, HM⟩
 refine Jb I HM ((JQ∘JP∘Jp 2∘Jd1∘Jj) (Ju (fun hb8 => ?_) fun hb8 => ?_))
 ·
  intro a I HM
  have hd8 := of_decide_eq_true hb8
  have hsh := Nat.div_le_self m (2 ^ k)
  refine Jb I HM ((JT∘JS'∘JQ∘JB∘JP∘Jp 2∘Jy (v := vQ (m / 2 ^ k : Nat)) (h:=by exact Yl.shrN (m := m) (n := k) rfl rfl rfl (by show _ ≤ 64; omega))∘Jp 1∘Jo (vQ ((m / 2 ^ k) % 2 : Nat)) (by exact zn .u64 _ 2)∘Jp 1∘Jd4∘Jj) (Je (fun hd15 => ?_) fun hd15 => ?_))
  ·
   exact (JT∘JP∘Jp 1∘Jj∘JZ∘Jz1) fun HM => qd5 (qrl hkn om) HM.below
  refine (JF∘JS'∘JR∘Jp 1∘JaK 1∘Jp 1∘Jd2∘Jq) fun a I HM => ?_
  exact ⟨_, om, k + 1, by omega, by omega, fun i h1 h2 => by rcases Nat.lt_or_ge i k with h3 | h3; exact hu i h1 h3; obtain rfl : i = k := om; omega, rfl, I.sub kr, HM.pk []⟩
 intro a I HM
 have hd8 := of_decide_eq_false hb8
 exact Jb I HM ((JF∘JX∘JG∘JP∘Jp 1∘Jj∘JZ∘Jz1) fun HM => is_no (qrk hm hn.2 (fun i h1 h2 => hu i h1 om)) HM.below)
theorem qrw (x : Stm) (id : Int) (w : World) (hx : StRd w x) (hn : x.ts.length ≤ 1000000) :
    Calls Tryz.prog 55 #[.agg x.cells, vI id] w (Is w (vI (fidx x.ts id))) := by
 refine (JN2 Tryz.func55 22) ?_
 refine (JP∘JE) fun w2 g2 => (Jp 1∘Jj∘JQ∘JP∘Jp 1∘Jj∘JB) fun a I HM => ?_
 refine qi (fun mS aS wS => ∃ (i : Nat), (i ≤ x.ts.length) ∧ (∀ k, k < i → (x.ts.getD k Tk.zero).id ≠ id) ∧ mS = x.ts.length - i ∧ Fr aS 22 [] [(5, vI i), (4, vI 0), (2, vP g2 0), (1, vI id)] ∧ Mem w wS [.blk g2 x.cells 45]) (m := x.ts.length - 0) ⟨0, Nat.zero_le _, fun k h => by omega, rfl, I.sub kr, HM.pk [0]⟩ ?_
 clear I HM; rintro mS a w_ ⟨i, hi, hu, rfl, I, HM⟩
 refine Jb I HM ((JQ∘JP∘Jp 1∘Jg 5 O0∘Jl∘Jp 1∘Jd3∘Jj) (Ju (fun hb10 => ?_) fun hb10 => ?_))
 ·
  intro a I HM
  have hd10 := of_decide_eq_true hb10
  have hi10 : i < x.ts.length := by omega
  refine Jb I HM ((JT∘JS'∘JQ∘JB∘JP∘Jg 5 O0∘Jp 1) fun a I HM => ?_)
  obtain ⟨gq1, oq1, hq1, _⟩ := Rd.qt hx.t (Nat.lt_of_le_of_lt (Nat.zero_le _) (show i < x.ts.length from by omega)) de
  have hrq1 := hx.t; rw [hq1] at hrq1
  replace I := I.sp 14 (.slice (some ⟨gq1, oq1, none⟩) x.ts.length x.tc) rfl (by rw [hq1]; try rfl)
  refine Jb I HM ((Jy (h:=by exact Yl.ix gq1 oq1 i 8 rfl rfl rfl)∘Jf 0∘Jy (v := vI ((x.ts.getD i Tk.zero).id)) (h:=by exact Yl.qo rfl rfl kr (fun _ h => (by have := (h.old hrq1).partAt qd (k := i) (j := 0) (x := (x.ts.getD i Tk.zero)) ((getD_at Tk.zero om)) rfl; simpa using this)))∘Jp 2∘Jd4∘Jj) (Je (fun hd20 => ?_) fun hd20 => ?_))
  ·
   exact (JT∘JP∘Jp 2∘Jd1∘Jj∘JZ∘Jz1) fun HM => by exact ⟨by rw [qru hi10 hd20 hu], HM.below⟩
  refine (JF∘JS'∘JR∘Jp 1∘JaK 1∘Jp 1∘Jd2∘Jq) fun a I HM => ?_
  exact ⟨_, om, i + 1, by omega, qg6 hu hd20, rfl, I.sub kr, HM.pk [0]⟩
 intro a I HM
 have hd10 := of_decide_eq_false hb10
 exact Jb I HM ((JF∘JX∘JG∘JP∘Jp 1∘Jj∘JZ∘Jz1) fun HM => by exact ⟨by rw [qof (fun k h => hu k om)], HM.below⟩)
theorem qln (p q : Mb) (w : World) :
    Calls Tryz.prog 109 #[.agg p.rcells, .agg q.rcells] w (Is w (.bool (p.lt q))) := by
 refine (JN2 Tryz.func109 30) ?_
 refine (JP∘JE) fun w2 g2 => (JE) fun w3 g3 => (Jp 1∘Jj∘JQ∘JP∘Jg 0 O1∘Jg 0 O0∘Jp 1∘Jd2∘Jj) (Jh (fun hd9 => ?_) fun hd9 => ?_)
 ·
  exact (JT∘JP∘Jg 0 O1∘Jg 0 O0∘Jp 2∘Jd3∘Jj∘JZ∘Jz1) fun HM => qro (lt_v om) HM.below
 refine (JF∘JS'∘JQ∘JP∘Jg 1 O1∘Jg 1 O0∘Jp 1∘Jd2∘Jj) (Jh (fun hd19 => ?_) fun hd19 => ?_)
 ·
  exact (JT∘JP∘Jg 1 O1∘Jg 1 O0∘Jp 2∘Jd3∘Jj∘JZ∘Jz1) fun HM => qro (lt_k om om) HM.below
 exact (JF∘JS'∘JP∘Jg 2 O1∘Jg 2 O0∘Jp 2∘Jd3∘Jj∘JZ∘Jz1) fun HM => qro (lt_id om om) HM.below
def qlo (x : Stm) (c g : Nat) : Prop := ∀ w : World, StRd w x → Calls Tryz.prog 56 #[.agg x.cells, vI g, vI c] w (qrs 102 w (memS x.sta g c))
theorem qol (x : Stm) (hok : x.sta.Ok) (hf : StFew x) (hsh : ShAt x) (c : Nat) (hc : (c : Int) < x.cpus) (g : Nat) (hg : g < x.rs.length) (ih : ∀ h, g < h → h < x.rs.length → qlo x c h) : qlo x c g := by
 intro w hx
 have hfs := hf.s; have hft := hf.t; have hfg := hf.g; have hrl := hsh.rs; have hto := hok.ts
 obtain ⟨hc1, hc2, _, hgs⟩ := zf hsh.cfg
 refine (JN3 Tryz.func56 84) ?_
 refine (JP∘JE) fun w3 g3 => (Jp 1∘Jr∘Jp 1∘Jq) fun a I HM => ?_
 replace HM := HM.nil 102 3
 refine Jb I HM ((JG∘JQ∘JP∘Jp 1∘Jj∘JB) fun a I HM => ?_)
 refine qi (fun mS aS wS => ∃ (i : Nat) (q : List Mb) (Ao : Option Addr) (co : Nat), (i ≤ x.ts.length) ∧ (q = (x.ts.take i).filterMap (tkM · g c)) ∧ (q.length ≤ i) ∧ (q.length ≤ co) ∧ mS = x.ts.length - i ∧ Fr aS 84 [] [(8, vI i), (7, .slice Ao q.length co), (6, vN), (3, vP g3 0), (1, vI g), (2, vI c)] ∧ Mem w wS [.row (.slice Ao q.length co) q.length (q.flatMap mbrL) 102 3, .blk g3 x.cells 45]) (m := x.ts.length - 0) ⟨0, [], none, 0, Nat.zero_le _, rfl, Nat.le_refl _, Nat.le_refl _, rfl, I.sub kr, HM.pk [0, 1]⟩ ?_
 clear I HM; rintro mS a w_ ⟨i, q, Ao, co, hi, hq, hql, hco, rfl, I, HM⟩
 refine Jb I HM ((JQ∘JP∘Jp 1∘Jg 5 O1∘Jl∘Jp 1∘Jd3∘Jj) (Ju (fun hb15 => ?_) fun hb15 => ?_))
 ·
  intro a I HM
  have hd15 := of_decide_eq_true hb15
  have hi15 : i < x.ts.length := by omega
  obtain ⟨t, ht⟩ : ∃ z, (x.ts.getD i Tk.zero) = z := ⟨_, rfl⟩
  have htid := tk_id (hsh.tk i hi15)
  rw [ht] at htid
  refine Jb I HM ((JT∘JS'∘JQ∘JB∘JP∘Jg 5 O1∘Jp 1) fun a I HM => ?_)
  obtain ⟨gq1, oq1, hq1, _⟩ := Rd.qt hx.t (Nat.lt_of_le_of_lt (Nat.zero_le _) (show i < x.ts.length from by omega)) de
  have hrq1 := hx.t; rw [hq1] at hrq1
  replace I := I.sp 19 (.slice (some ⟨gq1, oq1, none⟩) x.ts.length x.tc) rfl (by rw [hq1]; try rfl)
  refine Jb I HM ((Jy (h:=by exact Yl.ix gq1 oq1 i 8 rfl rfl rfl)∘Jy (v := .agg ((x.ts.getD i Tk.zero).cells)) (h:=by exact Yl.loadS rfl rfl si_tk rfl (fun _ h => (h.old hrq1).q4 qd ((getD_at Tk.zero hi15))))∘Jo (.agg t.cells) (by rw [ht])∘JA #[vI 0, vI 0, vI 0, vI 0, vQ 0, .bool false, vQ 0, vW 0]) fun w9 g9 => (JV si_tk O0' (h1:=by exact qbi t)) fun w5_6 => (Jd5∘Jj) fun a I HM => ?_)
  refine qy (fun aS wS => Fr aS 84 [] [(36, .bool (t.here g c)), (9, vP g9 0), (15, .bool true), (8, vI i), (7, .slice Ao q.length co), (6, vN), (3, vP g3 0), (1, vI g), (2, vI c)] ∧ Mem w wS [.blk g9 t.cells 81, .row (.slice Ao q.length co) q.length (q.flatMap mbrL) 102 3, .blk g3 x.cells 45]) ?_ ?_
  ·
   refine qaj ?_
   refine Jb I HM ((Jg 5 O0∘Jp 1) (Ju (fun hb25 => ?_) fun hb25 => ?_))
   ·
    refine (Jg 1 O0∘Jp 4) (Je (fun hd31 => ?_) fun hd31 => ?_)
    ·
     refine (Jg 3 O0∘Jp 3∘Jd6∘Jq) fun a I HM => ?_
     have I := I.sp 36 (.bool (t.here g c)) rfl (congrArg Value.bool (by unfold Tk.here; rw [hb25, decide_eq_true om, Bool.true_and, Bool.true_and, Bool.eq_iff_iff, beq_iff_eq, decide_eq_true_eq]))
     exact ⟨I.sub kr, HM.pk [0, 1, 2]⟩
    refine (Jp 5∘Jd6∘Jq) fun a I HM => ?_
    have I := I.sp 36 (.bool (t.here g c)) rfl (congrArg Value.bool (by unfold Tk.here; rw [hb25, decide_eq_false om]; rfl))
    exact ⟨I.sub kr, HM.pk [0, 1, 2]⟩
   refine (Jv 11 [(36, .bool false)]∘Jd2∘Jq) fun a I HM => ?_
   have I := I.sp 36 (.bool (t.here g c)) rfl (congrArg Value.bool (by unfold Tk.here; rw [hb25]; rfl))
   exact ⟨I.sub kr, HM.pk [0, 1, 2]⟩
  clear I HM; rintro a w6 ⟨I, HM⟩
  refine Jb I HM (Ju (fun hb36 => ?_) fun hb36 => ?_)
  ·
   intro a I HM
   have hq2 : q ++ [(⟨t.v, 0, t.id.toNat⟩ : Mb)] = (x.ts.take (i + 1)).filterMap (tkM · g c) := by rw [qab Tk.zero hi15, ← hq, ht, tkM, if_pos hb36]; rfl
   refine Jb I HM ((JT∘JR∘Jp 1∘Jg 6 O0∘Jf 0∘Jc O0∘Jo (vI t.id.toNat) (by rw [Int.toNat_of_nonneg om])∘Jy (v := .agg #[vQ t.v, vI 0, vI t.id.toNat]) (h:=by exact Yl.build (vs := [(0, vQ t.v), (1, vI 0), (2, vI t.id.toNat)]) rfl kr kr)∘JU qis #[vQ t.v, vI 0, vI t.id.toNat]) fun w43 g43 => (JD ([(⟨t.v, 0, t.id.toNat⟩ : Mb)].flatMap mbrL) 2 (fun _ _ => O2') qis (hr:=by exact fun HM => HM.rdBlk (i := 0) (n := 1) (size := 3) rfl rfl) (h1:=by exact qrm _)) fun w44 A44 c44 hc44 => (Jp 1∘Jd6∘Jq) fun a I HM => ?_)
   have hnA44 : q.length + 1 = (q ++ [(⟨t.v, 0, t.id.toNat⟩ : Mb)]).length := qlm rfl
   replace HM := HM.reRow (i := 2) (ys := (q ++ [(⟨t.v, 0, t.id.toNat⟩ : Mb)]).flatMap mbrL) rfl hnA44 (List.flatMap_append.symm)
   rw [hnA44] at hc44
   replace I := I.sp 7 (.slice A44 ((q ++ [(⟨t.v, 0, t.id.toNat⟩ : Mb)]).length) c44) rfl (by rw [hnA44])
   refine Jb I HM ((JG∘JR∘Jp 1∘JaK 1∘Jp 1∘Jd2∘Jq) fun a I HM => ?_)
   exact ⟨_, om, i + 1, (q ++ [(⟨t.v, 0, t.id.toNat⟩ : Mb)]), A44, c44, by omega, hq2, by rw [List.length_append, show [(⟨t.v, 0, t.id.toNat⟩ : Mb)].length = 1 from rfl]; omega, hc44, rfl, I.sub kr, HM.pk [2, 3]⟩
  intro a I HM
  have hq2 : q = (x.ts.take (i + 1)).filterMap (tkM · g c) := by rw [qab Tk.zero hi15, ← hq, ht, tkM, if_neg (by rw [hb36]; decide)]; simp
  refine Jb I HM ((JF∘JS'∘JR∘Jp 1∘JaK 1∘Jp 1∘Jd2∘Jq) fun a I HM => ?_)
  exact ⟨_, om, i + 1, q, Ao, co, by omega, hq2, by omega, hco, rfl, I.sub kr, HM.pk [1, 2]⟩
 intro a I HM
 have hd15 := of_decide_eq_false hb15
 rw [List.take_of_length_le (by omega : x.ts.length ≤ i)] at hq
 refine Jb I HM ((JF∘JX∘JG∘JQ∘JP∘Jp 1∘Jj∘JB) fun a I HM => ?_)
 refine qi (fun mS aS wS => ∃ (u : Nat) (q : List Mb) (Ao : Option Addr) (co : Nat), (1 ≤ u) ∧ (u ≤ x.rs.length) ∧ (q = x.ts.filterMap (tkM · g c) ++ ((((List.range x.rs.length).drop (g + 1)).take (u - (g + 1))).filterMap (grpM x.sta c (fun u => memS x.sta u c) g))) ∧ (q.length ≤ x.ts.length + u) ∧ (q.length ≤ co) ∧ mS = x.rs.length - u ∧ Fr aS 84 [] [(10, vI u), (15, .bool false), (8, vI i), (7, .slice Ao q.length co), (6, vN), (3, vP g3 0), (1, vI g), (2, vI c)] ∧ Mem w wS [.row (.slice Ao q.length co) q.length (q.flatMap mbrL) 102 3, .blk g3 x.cells 45]) (m := x.rs.length - 1) ⟨1, q, Ao, co, Nat.le_refl _, by omega, by rw [hq, show 1 - (g + 1) = 0 by omega]; simp, by omega, hco, rfl, I.sub kr, HM.pk [0, 1]⟩ ?_
 clear I HM; rintro mS a w_ ⟨u, q, Ao, co, hgh, hh, hq, hql, hco, rfl, I, HM⟩
 refine Jb I HM ((JQ∘JP∘Jp 1∘Jg 6 O1∘Jl∘Jp 1∘Jd3∘Jj) (Ju (fun hb49 => ?_) fun hb49 => ?_))
 ·
  intro a I HM
  have hd49 := of_decide_eq_true hb49
  have hh60 : u < x.rs.length := by omega
  refine Jb I HM ((JT∘JS'∘JQ∘JB∘JP∘Jf 0∘Jg 2 O1∘Jp 1) fun a I HM => ?_)
  obtain ⟨gq2, oq2, hq2, _⟩ := Rd.qt hx.g (Nat.lt_of_le_of_lt (Nat.zero_le _) (show u < x.gs.length from by omega)) de
  have hrq2 := hx.g; rw [hq2] at hrq2
  replace I := I.sp 54 (.slice (some ⟨gq2, oq2, none⟩) x.gs.length x.gc) rfl (by rw [hq2]; try rfl)
  refine Jb I HM ((Jy (h:=by exact Yl.ix gq2 oq2 u 2 rfl rfl rfl)∘Jf 0∘Jy (v := vI ((x.gs.getD u Gr.zero).parent)) (h:=by exact Yl.qo rfl rfl kr (fun _ h => (by have := (h.old hrq2).partAt za (k := u) (j := 0) (x := (x.gs.getD u Gr.zero)) ((getD_at Gr.zero om)) rfl; simpa using this)))∘Jp 3) (Ju (fun hb61 => ?_) fun hb61 => ?_))
  ·
   intro a I HM
   have hd61 := eq_of_beq hb61
   have hpu := qhz ((qh hgs).2.2.2 u om) om
   unfold ParB at hpu
   have hgst := qh6 (f := grpM x.sta c (fun u => memS x.sta u c) g) (show g + 1 ≤ u by omega) hh60
   have hml := qm1 x u c
   refine Jb I HM ((Jy (v := .agg x.cells) (h:=by exact Yl.loadS rfl rfl si_st rfl (fun _ h => qa (h.blk (i := 1) rfl)))∘Jo (.agg x.cells) (by exact rfl)∘Jp 2∘JK (h:=by exact fun HM => ih u om om _ (hx.old HM))) fun A65 c65 w65 hc65 => (Jl∘Jp 2∘Jd6∘Jj) (Ju (fun hb68 => ?_) fun hb68 => ?_))
   ·
    intro a I HM
    have hd68 := of_decide_eq_true hb68
    obtain ⟨y, hy⟩ : ∃ z, x.rs.getD u Rw.zero = z := ⟨_, rfl⟩
    have hyr : Rd w w.heap.size 3 y.A y.l.length (y.l.flatMap spL) := by rw [← hy]; exact hx.row hh60
    have hyl : (y.l.length : Int) = x.cpus := by rw [← hy]; exact (qg2 hh60 (hsh.row u hh60)).1
    rw [ql1 hh60 om (fun e => by rw [e] at hd68; exact absurd hd68 de), hy] at hgst
    refine Jb I HM ((JT∘JR∘Jp 1∘Jg 6 O2∘Jp 1) fun a I HM => ?_)
    obtain ⟨gq3, oq3, hq3, _⟩ := Rd.qt hx.s (Nat.lt_of_le_of_lt (Nat.zero_le _) (show u < x.rs.length from by omega)) de
    have hrq3 := hx.s; rw [hq3] at hrq3
    replace I := I.sp 71 (.slice (some ⟨gq3, oq3, none⟩) x.rs.length x.sc) rfl (by rw [hq3]; try rfl)
    refine Jb I HM ((Jy (h:=by exact Yl.ix gq3 oq3 u 1 rfl rfl rfl)∘Jy (v := .slice ((x.rs.getD u Rw.zero).A) ((x.rs.getD u Rw.zero).l.length) ((x.rs.getD u Rw.zero).c)) (h:=by exact Yl.o1 hrq3 u Rw.zero om rfl rfl)∘Jo (.slice y.A y.l.length y.c) (by rw [hy])∘Jp 1) fun a I HM => ?_)
    obtain ⟨gq4, oq4, hq4, _⟩ := Rd.qt hyr (Nat.lt_of_le_of_lt (Nat.zero_le _) (show c < y.l.length from by omega)) de
    have hrq4 := hyr; rw [hq4] at hrq4
    replace I := I.sp 74 (.slice (some ⟨gq4, oq4, none⟩) y.l.length y.c) rfl (by rw [hq4]; try rfl)
    refine Jb I HM ((Jy (h:=by exact Yl.ix gq4 oq4 c 3 rfl rfl rfl)∘Jf 0∘Jy (v := vQ ((y.l.getD c Sp.zero).v)) (h:=by exact Yl.qo rfl rfl kr (fun _ h => (by have := (h.old hrq4).partAt qax (k := c) (j := 0) (x := (y.l.getD c Sp.zero)) ((getD_at Sp.zero om)) rfl; simpa using this)))∘Jp 1∘Jy (v := .agg #[vQ ((y.l.getD c Sp.zero).v), vI 1, vI u]) (h:=by exact Yl.build (vs := [(0, vQ ((y.l.getD c Sp.zero).v)), (1, vI 1), (2, vI u)]) rfl kr kr)∘JU qis #[vQ ((y.l.getD c Sp.zero).v), vI 1, vI u]) fun w81 g81 => (JD ([(⟨(y.l.getD c Sp.zero).v, 1, u⟩ : Mb)].flatMap mbrL) 2 (fun _ _ => O2') qis (hr:=by exact fun HM => HM.rdBlk (i := 0) (n := 1) (size := 3) rfl rfl) (h1:=by exact qrm _)) fun w82 A82 c82 hc82 => (Jp 1∘Jd6∘Jq) fun a I HM => ?_)
    have hnA82 : q.length + 1 = (q ++ [(⟨(y.l.getD c Sp.zero).v, 1, u⟩ : Mb)]).length := qlm rfl
    replace HM := HM.reRow (i := 2) (ys := (q ++ [(⟨(y.l.getD c Sp.zero).v, 1, u⟩ : Mb)]).flatMap mbrL) rfl hnA82 (List.flatMap_append.symm)
    rw [hnA82] at hc82
    replace I := I.sp 7 (.slice A82 ((q ++ [(⟨(y.l.getD c Sp.zero).v, 1, u⟩ : Mb)]).length) c82) rfl (by rw [hnA82])
    refine Jb I HM ((JG∘JR∘Jp 1∘JaK 1∘Jp 1∘Jd2∘Jq) fun a I HM => ?_)
    exact ⟨_, om, u + 1, (q ++ [(⟨(y.l.getD c Sp.zero).v, 1, u⟩ : Mb)]), A82, c82, by omega, by omega, by rw [hgst, hq, List.append_assoc]; rfl, by rw [List.length_append, show [(⟨(y.l.getD c Sp.zero).v, 1, u⟩ : Mb)].length = 1 from rfl]; omega, hc82, rfl, I.sub kr, HM.pk [2, 3]⟩
   intro a I HM
   have hd68 := of_decide_eq_false hb68
   rw [qji (List.length_eq_zero_iff.1 om)] at hgst
   refine Jb I HM ((JF∘JS'∘JR∘Jp 1∘JaK 1∘Jp 1∘Jd2∘Jq) fun a I HM => ?_)
   exact ⟨_, om, u + 1, q, Ao, co, by omega, by omega, by rw [hgst, hq]; try simp, by omega, hco, rfl, I.sub kr, HM.pk [1, 2]⟩
  intro a I HM
  have hd61 := ne_of_beq_false hb61
  have hgst := qtv (g := g) (f := grpM x.sta c (fun u => memS x.sta u c) g) hh60 (fun _ => qjh om)
  refine Jb I HM ((Jp 7∘Jd6∘Jj∘JF∘JS'∘JR∘Jp 1∘JaK 1∘Jp 1∘Jd2∘Jq) fun a I HM => ?_)
  exact ⟨_, om, u + 1, q, Ao, co, by omega, by omega, by rw [hgst, hq]; try simp, by omega, hco, rfl, I.sub kr, HM.pk [0, 1]⟩
 intro a I HM
 have hd49 := of_decide_eq_false hb49
 have hqm : q = memS x.sta g c := by rw [hq, qdi, zl, show u = x.rs.length by omega, qpl]; rfl
 exact Jb I HM ((JF∘JX∘JG∘JP∘Jp 2∘Jd1∘Jj∘JZ∘Jz1) fun HM => qrt hqm (HM.own (i := 0) rfl) hco HM.below)
theorem qry (x : Stm) (hok : x.sta.Ok) (hf : StFew x) (hsh : ShAt x) (c : Nat) (hc : (c : Int) < x.cpus) : ∀ (n g : Nat), x.rs.length - g ≤ n → g < x.rs.length → qlo x c g := by
 intro n
 induction n with
 | zero => intro g h1 h2; omega
 | succ n ih => intro g h1 h2; exact qol x hok hf hsh c hc g h2 fun h h3 h4 => ih h om h4
theorem qom (A : Option Addr) (c : Nat) (l : List Mb) (w : World) (hr : Rd w w.heap.size 3 A l.length (l.flatMap mbrL)) (h0 : 0 < l.length) (hn : l.length ≤ 2000000) :
    Calls Tryz.prog 57 #[.slice A l.length c] w (Is w (.agg (qm0 l).rcells)) := by
 refine (JN1 Tryz.func57 25) ?_
 refine (JP∘JA #[vQ 0, vI 0, vI 0]) fun w2 g2 => (Jr∘Jp 1) ?_
 repeat (first | clear I | clear HM)
 intro a I HM
 obtain ⟨gA, oA, rfl, _⟩ := hr.qt (Nat.lt_of_le_of_lt (Nat.zero_le _) (show 0 < l.length from by omega)) de
 refine Jb I HM ((Jy (v := vP gA oA) (h:=by exact Yl.indexAddr (ad := ⟨gA, oA, none⟩) (y := 0) (sz := 3) rfl rfl rfl om kr)∘Jy (v := .agg ((l.getD 0 Mb.zero).rcells)) (h:=by exact Yl.loadS rfl rfl qbn rfl (fun _ h => (h.old hr).q4 qiq ((getD_at Mb.zero om))))∘JA #[vQ 0, vI 0, vI 0]) fun w3 g3 => (JV qbn O0' (h1:=by exact qir (l.getD 0 Mb.zero))) fun w1_4 => (Jd3∘Jq) fun a I HM => ?_)
 replace HM := HM.asBlk (i := 0) (ds := (bestU l 1).rcells) rfl (by rw [qrp])
 refine Jb I HM ((JG∘JQ∘JP∘Jp 1∘Jj∘JB) fun a I HM => ?_)
 refine qi (fun mS aS wS => ∃ (k : Nat), (1 ≤ k) ∧ (k ≤ l.length) ∧ mS = l.length - k ∧ Fr aS 25 [] [(4, vI k), (3, vP g3 0), (2, vP g2 0), (0, .slice (some ⟨gA, oA, none⟩) l.length c)] ∧ Mem w wS [.blk g3 ((bestU l k).rcells) 102, .blk g2 #[vQ 0, vI 0, vI 0] 102]) (m := l.length - 1) ⟨1, Nat.le_refl _, by omega, rfl, I.sub kr, HM.pk [0, 1]⟩ ?_
 clear I HM; rintro mS a w_ ⟨k, hk1, hk, rfl, I, HM⟩
 refine Jb I HM ((JQ∘JP∘Jp 2∘Jl∘Jp 1∘Jd3∘Jj) (Ju (fun hb11 => ?_) fun hb11 => ?_))
 ·
  intro a I HM
  have hd11 := of_decide_eq_true hb11
  have hk11 : k < l.length := by omega
  refine Jb I HM ((JT∘JS'∘JQ∘JB) fun a I HM => ?_)
  refine wp_seq ?_
  refine Jb I HM ((Vs .n []) fun wd5 => (Vp [0, 1]∘Vy 2 (h:=by exact Yl.ix gA oA k 3 rfl rfl rfl)∘Vy 3 (v := .agg ((l.getD k Mb.zero).rcells)) (h:=by exact Yl.loadS rfl rfl qbn rfl (fun _ h => (h.old hr).q4 qiq ((getD_at Mb.zero hk11))))∘Vy 4 (v := .agg ((bestU l k).rcells)) (h:=by exact Yl.loadS rfl rfl qbn rfl (fun _ h => qa (h.blk (i := 0) rfl)))∘VI 5 .n (h:=by exact fun HM => qln (l.getD k Mb.zero) (bestU l k) _)) fun w19 hbw => (Vd∘Jd5) (Ju (fun hb19 => ?_) fun hb19 => ?_))
  ·
   refine (JT∘JR∘Jp 2∘Jy (h:=by exact Yl.ix gA oA k 3 rfl rfl rfl)∘Jy (v := .agg ((l.getD k Mb.zero).rcells)) (h:=by exact Yl.loadS rfl rfl qbn rfl (fun _ h => (h.old hr).q4 qiq ((getD_at Mb.zero hk11))))∘JV qbn O0' (h1:=by exact qir (l.getD k Mb.zero))) fun w6_4 => (Jt4∘Jq) fun a I HM => ?_
   replace HM := HM.asBlk (i := 0) (ds := (bestU l (k + 1)).rcells) rfl (by rw [qrq hk1 hk11 hb19])
   refine Jb I HM ((JG∘JR∘Jp 1∘JaK 1∘Jp 1∘Jd2∘Jq) fun a I HM => ?_)
   exact ⟨_, om, k + 1, by omega, by omega, rfl, I.sub kr, HM.pk [0, 1]⟩
  intro a I HM
  replace HM := HM.asBlk (i := 0) (ds := (bestU l (k + 1)).rcells) rfl (by rw [qtw hk1 hk11 hb19])
  refine Jb I HM ((JF∘JS'∘JR∘Jp 1∘JaK 1∘Jp 1∘Jd2∘Jq) fun a I HM => ?_)
  exact ⟨_, om, k + 1, by omega, by omega, rfl, I.sub kr, HM.pk [0, 1]⟩
 intro a I HM
 have hd11 := of_decide_eq_false hb11
 refine Jb I HM ((JF∘JX∘JG∘JP∘Jy (v := .agg ((bestU l k).rcells)) (h:=by exact Yl.loadS rfl rfl qbn rfl (fun _ h => qa (h.blk (i := 0) rfl)))∘JV qbn O1' (h1:=by exact qir (bestU l k))) fun w7_1 => (Jt1∘Jj∘JZ) fun a I HM => ?_)
 exact ret1 rfl I (.cellS (i := 1) I HM rfl rfl qbn rfl) (⟨by rw [qrr om], HM.below⟩)
theorem qog (x : En) (hx : x.Ok) (w : World) : Calls Tryz.prog 106 #[.agg x.cells] w (Is w (.bool true)) := by
 have h1 := qbu hx.1
 have h2 := qke x.v x.r x.w hx.2 om om w
 rw [hx.1] at h2
 exact h2
theorem qrx {x : En} {d q : Nat} (hq : (d * 1048576 + x.r) / x.w = q) (h : 18446744073709551615 - x.v ≤ q) : x.add d = ⟨18446744073709551615, 0, x.w⟩ := if_pos (by rw [hq]; exact h)
theorem qxc {x : En} {d q : Nat} (hq : (d * 1048576 + x.r) / x.w = q) (h : ¬ 18446744073709551615 - x.v ≤ q) : x.add d = ⟨x.v + q, (d * 1048576 + x.r) % x.w, x.w⟩ := (if_neg (by rw [hq]; exact h)).trans (by rw [hq])
theorem qgk {x : En} {fr to v : Nat} (h : qas x.v fr to = v) (he : v = 18446744073709551615) : x.moved fr to = ⟨v, 0, x.w⟩ := by
 unfold En.moved
 rw [h, if_pos he]
theorem qit {x : En} {fr to v : Nat} (h : qas x.v fr to = v) (he : v ≠ 18446744073709551615) : x.moved fr to = ⟨v, x.r, x.w⟩ := by
 unfold En.moved
 rw [h, if_neg he]
theorem qoh (d : Int) (w : World) : Calls Tryz.prog 133 #[vI d] w (Is w (.bool (decide (0 ≤ d ∧ d ≤ 4294967295)))) := by
 refine (JN1 Tryz.func133 9) ?_
 refine (JP∘Jp 1∘Jr∘Jp 3) (Ji (fun hd5 => ?_) fun hd5 => ?_)
 ·
  exact (Jp 4∘Jd6∘Jj∘JZ∘Jz1) fun HM => qcl om HM.below
 exact (Jp 4∘Jd6∘Jj∘JZ∘Jz1) fun HM => is_no om HM.below
theorem qkf (x : En) (hx : x.Ok) (d : Nat) (hd : d ≤ 4294967295) (w : World) :
    Calls Tryz.prog 134 #[.agg x.cells, vI d] w (Is w (.agg (x.add d).cells)) := by
 have hxo := qbu hx.1
 have hxv := hx.2
 have hq1 := Nat.div_le_self (d * 1048576 + x.r) x.w
 obtain ⟨q, hq⟩ : ∃ z, (d * 1048576 + x.r) / x.w = z := ⟨_, rfl⟩
 rw [hq] at hq1
 have hq2 := Nat.mod_lt (d * 1048576 + x.r) (show x.w > 0 by omega)
 obtain ⟨vv, hvv⟩ : ∃ z, (x.v + q) % 18446744073709551616 = z := ⟨_, rfl⟩
 refine (JN2 Tryz.func134 45) ?_
 refine (JP∘JE) fun w2 g2 => (JA #[vQ 0, vW 0, vW 0]) fun w4 g4 => (Jr∘Jp 2∘Jo (vI (d * 1048576 : Nat)) (by exact qbl om om)∘Jg 1 O1∘Jw .i64∘Ja∘Jp 1∘Jd5∘Jr∘Jp 1∘Jg 2 O1∘Jw .i64∘Jy (v := vI ((d * 1048576 + x.r) / x.w : Nat)) (h:=by exact Yl.quoN (m := (d * 1048576 + x.r)) (n := x.w) rfl rfl rfl om (by show _ ≤ 9223372036854775807; omega))∘Jo (vI q) (by rw [hq])∘Jw .u64∘Jp 1∘Jd5∘Jr∘Jg 0 O1∘Jp 2∘Jo (vQ vv) (by exact (qkq (x.v + q)).trans (by rw [hvv]))∘Jp 1∘Jd4∘Jj∘JQ∘JP∘Jp 1∘Jg 0 O1∘Jp 2) (Ji (fun hd28 => ?_) fun hd28 => ?_)
 ·
  refine (Jp 3∘Jd6∘Jj∘JT∘JP∘Jg 2 O1∘Jy (v := .agg #[vQ 18446744073709551615, vW 0, vW x.w]) (h:=by exact Yl.build (vs := [(0, vQ 18446744073709551615), (1, vW 0), (2, vW x.w)]) rfl kr kr)∘JV qn O0') fun w5_3 => (Jt2∘Jj∘JZ) fun a I HM => ?_
  exact ret1 rfl I (.cellS (i := 0) I HM rfl rfl qn rfl) (⟨by rw [qrx hq om]; rfl, HM.below⟩)
 refine (Jp 3∘Jd6∘Jj) (Je (fun hd31 => ?_) fun hd31 => ?_)
 ·
  refine (JT∘JP∘Jg 2 O1∘Jy (v := .agg #[vQ 18446744073709551615, vW 0, vW x.w]) (h:=by exact Yl.build (vs := [(0, vQ 18446744073709551615), (1, vW 0), (2, vW x.w)]) rfl kr kr)∘JV qn O0') fun w5_3 => (Jt2∘Jj∘JZ) fun a I HM => ?_
  exact ret1 rfl I (.cellS (i := 0) I HM rfl rfl qn rfl) (⟨by rw [qrx hq om]; rfl, HM.below⟩)
 refine (JF∘JS') fun a I HM => ?_
 refine wp_seq ?_
 refine Jb I HM ((Vs .n [10]) fun wd6 => (Vp [0, 1]∘Vf 2 2∘Vf 7 2∘Vc 3 O1∘Vw 4 .i64∘Vy 5 (v := vI ((d * 1048576 + x.r) % x.w : Nat)) (h:=by exact Yl.remN (m := (d * 1048576 + x.r)) (n := x.w) rfl rfl rfl om)∘Vq [6] [(41, vW (IntKind.u32.wrap (((d * 1048576 + x.r) % x.w : Nat) : Int)))]∘Vo (vW ((d * 1048576 + x.r) % x.w : Nat)) (by exact qen rfl om)∘Vc 8 O1∘Vy 9 (v := .agg #[vQ vv, vW ((d * 1048576 + x.r) % x.w : Nat), vW x.w]) (h:=by exact Yl.build (vs := [(0, vQ vv), (1, vW ((d * 1048576 + x.r) % x.w : Nat)), (2, vW x.w)]) rfl kr kr)) fun a I HM HS => ?_)
 refine s_on I 10 rfl (e_sa I HM 0 rfl rfl rfl rfl rfl qn rfl rfl (by simp [Value.oneCell']) fun w6_10 HM => ?_)
 refine noS kr ?_
 refine qb kr ?_
 refine Jb I HM ((JZ) fun a I HM => ?_)
 exact ret1 rfl I (.cellS (i := 0) I HM rfl rfl qn rfl) (⟨by rw [qxc hq om, show vv = x.v + q by omega]; rfl, HM.below⟩)
theorem qoi (d : Nat) (hd : d ≤ 4294967295) (w : World) : Calls Tryz.prog 133 #[vI d] w (Is w (.bool true)) := by
 have h2 := qoh d w
 rw [decide_eq_true om] at h2
 exact h2
theorem qtx (x : En) (hx : x.Ok) (d : Nat) (hd : d ≤ 4294967295) (w : World) :
    Calls Tryz.prog 116 #[.agg x.cells, vI d] w (Is w (.tuple #[.agg (x.add d).cells, vI 0])) := by
 refine (JN2 Tryz.func116 18) ?_
 refine (JP∘JE) fun w2 g2 => (JA #[vQ 0, vW 0, vW 0]) fun w4 g4 => (Jp 1∘Jj∘JQ∘JP∘Jy (v := .agg x.cells) (h:=by exact Yl.loadS rfl rfl qn rfl (fun _ h => qa (h.blk (i := 1) rfl)))∘JI (h:=by exact fun HM => qog x hx _)) fun w7 hbw => (Jp 3∘JI (h:=by exact fun HM => qoi d hd _)) fun w11 hbw => (Jp 2∘Jd6∘Jj∘JF∘JS'∘JP∘Jy (v := .agg x.cells) (h:=by exact Yl.loadS rfl rfl qn rfl (fun _ h => qa (h.blk (i := 1) rfl)))∘Jp 1∘JI (h:=by exact fun HM => qkf x hx d hd _)) fun w17 hbw => (JV qn O0' (h1:=by exact qw (x.add d))) fun w3_3 => (Jp 1∘Jd3∘Jj∘JZ) fun a I HM => ?_
 exact ret2 rfl I (.cellS (i := 0) I HM rfl rfl qn rfl) (.tmp I rfl) (⟨rfl, HM.below⟩)
theorem qiu (t : Tk) (x : En) (hx : x.Ok) (w : World) :
    Calls Tryz.prog 114 #[.agg t.cells, .agg x.cells] w (Is w (.agg (t.put x).cells)) := by
 have hxo := qbu hx.1
 have hxv := hx.2
 refine (JN2 Tryz.func114 16) ?_
 refine (JP∘JE) fun w2 g2 => (JE) fun w3 g3 => (JA #[vI 0, vI 0, vI 0, vI 0, vQ 0, .bool false, vQ 0, vW 0]) fun w4 g4 => (Jj) fun a I HM => ?_
 refine wp_seq ?_
 refine Jb I HM ((Vs (.t (.t (.f .n))) [12]) fun wd1 => (Vf 0 0∘Vf 2 1∘Vf 4 2∘Vc 1 O1∘Vf 7 6∘Vc 3 O1∘Vc 5 O1∘Vw 6 .i64) fun a I HM HS => ?_)
 refine s_on I 8 rfl ?_
 refine zr I HM (i := 2) rfl rfl rfl rfl kr rfl rfl (by simp [Tk.cells]) fun w1_8 HM => ?_
 refine keepS (HM.pk [0, 1]) (fun HS => ?_)
 refine Vb I HM HS ((Vf 9 7) fun a I HM HS => ?_)
 refine s_on I 10 rfl ?_
 refine zr I HM (i := 2) rfl rfl rfl rfl kr rfl rfl (by simp [Tk.cells]) fun w1_10 HM => ?_
 refine keepS (HM.pk [0, 1]) (fun HS => ?_)
 refine Vb I HM HS ((Vf 11 2) fun a I HM HS => ?_)
 refine s_on I 12 rfl ?_
 refine zr I HM (i := 2) rfl rfl rfl rfl kr rfl rfl (by simp [Tk.cells]) fun w1_12 HM => ?_
 refine noS kr ?_
 refine qb kr ?_
 refine Jb I HM ((JM (.t (.f .n))∘JP∘Jy (v := .agg #[vI t.id, vI t.group, vI x.w, vI t.cpu, vQ t.mask, .bool t.ready, vQ x.v, vW x.r]) (h:=by exact Yl.loadS rfl rfl si_tk rfl (fun _ h => qa (h.blk (i := 1) rfl)))∘JV si_tk O0') fun w2_1 => (Jt6∘Jj∘JZ) fun a I HM => ?_)
 exact ret1 rfl I (.cellS (i := 0) I HM rfl rfl si_tk rfl) (⟨rfl, HM.below⟩)
theorem qoj (x : En) (hx : x.Ok) (fl cr : Nat) (hf : fl < 18446744073709551616) (hc : cr < 18446744073709551616) (w : World) :
    Calls Tryz.prog 115 #[.agg x.cells, vQ fl, vQ cr] w (Is w (.agg (x.woken fl cr).cells)) := by
 have hxv := hx.2
 refine (JN3 Tryz.func115 23) ?_
 refine (JP∘JE) fun w3 g3 => (JA #[vQ 0, vW 0, vW 0]) fun w6 g6 => (Jr∘Jp 1∘Jj∘JQ∘JP∘Jp 3∘Jd2∘Jj) (Ju (fun hb10 => ?_) fun hb10 => ?_)
 ·
  intro a I HM
  have hd10 := of_decide_eq_true hb10
  refine Jb I HM ((JT∘JR∘Jp 2∘Js∘Jp 1∘Jd3∘Jj∘JQ∘JP∘Jg 0 O1∘Jp 2∘Jd2∘Jj) (Ji (fun hd17 => ?_) fun hd17 => ?_))
  ·
   refine (JT∘JP∘Jp 1∘Jg 2 O1∘Jy (v := .agg #[vQ (fl - cr : Nat), vW 0, vW x.w]) (h:=by exact Yl.build (vs := [(0, vQ (fl - cr : Nat)), (2, vW x.w)]) rfl kr kr)∘JV qn O0') fun w5_4 => (Jt3∘Jj∘JZ) fun a I HM => ?_
   exact ret1 rfl I (.cellS (i := 0) I HM rfl rfl qn rfl) (⟨by rw [show x.woken fl cr = ⟨fl - cr, 0, x.w⟩ from if_pos om]; rfl, HM.below⟩)
  refine (JF∘JS'∘JP∘Jy (v := .agg x.cells) (h:=by exact Yl.loadS rfl rfl qn rfl (fun _ h => qa (h.blk (i := 1) rfl)))∘JV qn O0' (h1:=by exact qw x)) fun w6_1 => (Jt1∘Jj∘JZ) fun a I HM => ?_
  exact ret1 rfl I (.cellS (i := 0) I HM rfl rfl qn rfl) (⟨by rw [show x.woken fl cr = x from if_neg om], HM.below⟩)
 intro a I HM
 have hd10 := of_decide_eq_false hb10
 refine Jb I HM ((JF∘JS'∘JQ∘JP∘Jg 0 O1∘Jp 2∘Jd2∘Jj) (Ji (fun hd17 => ?_) fun hd17 => ?_))
 ·
  refine (JT∘JP∘Jp 1∘Jg 2 O1∘Jy (v := .agg #[vQ 0, vW 0, vW x.w]) (h:=by exact Yl.build (vs := [(0, vQ 0), (2, vW x.w)]) rfl kr kr)∘JV qn O0') fun w5_4 => (Jt3∘Jj∘JZ) fun a I HM => ?_
  exact ret1 rfl I (.cellS (i := 0) I HM rfl rfl qn rfl) (⟨by rw [show x.woken fl cr = ⟨fl - cr, 0, x.w⟩ from if_pos om]; omega, HM.below⟩)
 refine (JF∘JS'∘JP∘Jy (v := .agg x.cells) (h:=by exact Yl.loadS rfl rfl qn rfl (fun _ h => qa (h.blk (i := 1) rfl)))∘JV qn O0' (h1:=by exact qw x)) fun w6_1 => (Jt1∘Jj∘JZ) fun a I HM => ?_
 exact ret1 rfl I (.cellS (i := 0) I HM rfl rfl qn rfl) (⟨by rw [show x.woken fl cr = x from if_neg om], HM.below⟩)
theorem qok (x : En) (hx : x.Ok) (fr to : Nat) (hfr : fr < 18446744073709551616) (hto : to < 18446744073709551616) (w : World) :
    Calls Tryz.prog 135 #[.agg x.cells, vQ fr, vQ to] w (Is w (.agg (x.moved fr to).cells)) := by
 have hxv := hx.2
 refine (JN3 Tryz.func135 44) ?_
 refine (JP∘JE) fun w3 g3 => (JA #[vQ 0, vW 0, vW 0]) fun w6 g6 => (Jj∘JQ∘JP∘Jg 0 O1∘Jp 2∘Jd2∘Jj) (Ju (fun hb12 => ?_) fun hb12 => ?_)
 ·
  intro a I HM
  have hd12 := of_decide_eq_true hb12
  have hmv : qas x.v fr to = to - (fr - x.v) := (if_neg om).trans om
  refine Jb I HM ((JT∘JP∘Jp 1∘Jg 0 O1∘Js∘Jp 1∘Jd3∘Jr∘Jp 3∘Jd2∘Jj) (Ji (fun hd19 => ?_) fun hd19 => ?_))
  ·
   refine (JT∘JR∘Jp 2∘Js∘Jf 0) fun a I HM => ?_
   refine fo I 4 rfl rfl ?_
   refine zr I HM (i := 1) rfl rfl rfl rfl kr rfl rfl (by simp [En.cells]) fun w4_4 HM => ?_
   refine Jb I HM ((Jt4∘Jj∘JQ∘JP∘Jg 0 O1∘Jp 1∘Jd1∘Jj) (Je (fun hd41 => ?_) fun hd41 => ?_))
   ·
    refine (JT∘JR∘Jf 1∘JW O1' O1') fun w11_1 => (Jt1∘Jr∘Jy (v := .agg #[vQ (to - (fr - x.v) : Nat), vW 0, vW x.w]) (h:=by exact Yl.loadS rfl rfl qn rfl (fun _ h => qa (h.blk (i := 1) rfl)))∘JV qn O0') fun w12_1 => (Jt1∘Jj∘JZ) fun a I HM => ?_
    exact ret1 rfl I (.cellS (i := 0) I HM rfl rfl qn rfl) (⟨by rw [show x.moved fr to = ⟨to - (fr - x.v), 0, x.w⟩ from qgk (by rw [hmv] <;> omega) om]; (try (first | rfl | (congr 1; omega))), HM.below⟩)
   refine (JF∘JS'∘JP∘Jy (v := .agg #[vQ (to - (fr - x.v) : Nat), vW x.r, vW x.w]) (h:=by exact Yl.loadS rfl rfl qn rfl (fun _ h => qa (h.blk (i := 1) rfl)))∘JV qn O0') fun w12_1 => (Jt1∘Jj∘JZ) fun a I HM => ?_
   exact ret1 rfl I (.cellS (i := 0) I HM rfl rfl qn rfl) (⟨by rw [show x.moved fr to = ⟨to - (fr - x.v), x.r, x.w⟩ from qit (by rw [hmv] <;> omega) om]; (try rfl), HM.below⟩)
  refine (JF∘JR∘Jf 0) fun a I HM => ?_
  refine fo I 1 rfl rfl ?_
  refine zr I HM (i := 1) rfl rfl rfl rfl kr rfl rfl (by simp [En.cells]) fun w5_1 HM => ?_
  refine Jb I HM ((Jt1∘Jj∘JQ∘JP∘Jg 0 O1∘Jv 1 [(41, .bool false)]∘Jd1∘Jj∘JF∘JS'∘JP∘Jy (v := .agg #[vQ 0, vW x.r, vW x.w]) (h:=by exact Yl.loadS rfl rfl qn rfl (fun _ h => qa (h.blk (i := 1) rfl)))∘JV qn O0') fun w12_1 => (Jt1∘Jj∘JZ) fun a I HM => ?_)
  exact ret1 rfl I (.cellS (i := 0) I HM rfl rfl qn rfl) (⟨by rw [show x.moved fr to = ⟨0, x.r, x.w⟩ from qit (by rw [hmv] <;> omega) om]; (try rfl), HM.below⟩)
 intro a I HM
 have hd12 := of_decide_eq_false hb12
 have hmv : qas x.v fr to = to + min (x.v - fr) (18446744073709551615 - to) := if_pos om
 obtain ⟨vv, hvv⟩ : ∃ z, (to + (x.v - fr)) % 18446744073709551616 = z := ⟨_, rfl⟩
 refine Jb I HM ((JF∘JP∘Jg 0 O1∘Jp 1∘Js∘Jp 1∘Jd3∘Jr∘Jp 3∘Jo (vQ vv) (by exact (qkq (to + (x.v - fr))).trans (by rw [hvv]))∘Jp 2∘Jd4∘Jj) (Ji (fun hd33 => ?_) fun hd33 => ?_))
 ·
  refine (JT∘JR∘Jf 0) fun a I HM => ?_
  refine fo I 1 rfl rfl ?_
  refine zr I HM (i := 1) rfl rfl rfl rfl kr rfl rfl (by simp [En.cells]) fun w8_1 HM => ?_
  refine Jb I HM ((Jt1∘Jj∘JQ∘JP∘Jg 0 O1∘Jv 1 [(41, .bool true)]∘Jd1∘Jj∘JT∘JR∘Jf 1∘JW O1' O1') fun w11_1 => (Jt1∘Jr∘Jy (v := .agg #[vQ 18446744073709551615, vW 0, vW x.w]) (h:=by exact Yl.loadS rfl rfl qn rfl (fun _ h => qa (h.blk (i := 1) rfl)))∘JV qn O0') fun w12_1 => (Jt1∘Jj∘JZ) fun a I HM => ?_)
  exact ret1 rfl I (.cellS (i := 0) I HM rfl rfl qn rfl) (⟨by rw [show x.moved fr to = ⟨18446744073709551615, 0, x.w⟩ from qgk (by rw [hmv] <;> omega) om]; (try (first | rfl | (congr 1; omega))), HM.below⟩)
 refine (JF∘JR∘Jp 3∘Jo (vQ vv) (by exact (qkq (to + (x.v - fr))).trans (by rw [hvv]))∘Jf 0) fun a I HM => ?_
 refine fo I 4 rfl rfl ?_
 refine zr I HM (i := 1) rfl rfl rfl rfl kr rfl rfl (by simp [En.cells]) fun w9_4 HM => ?_
 refine Jb I HM ((Jt4∘Jj∘JQ∘JP∘Jg 0 O1∘Jp 1∘Jd1∘Jj) (Je (fun hd41 => ?_) fun hd41 => ?_))
 ·
  refine (JT∘JR∘Jf 1∘JW O1' O1') fun w11_1 => (Jt1∘Jr∘Jy (v := .agg #[vQ vv, vW 0, vW x.w]) (h:=by exact Yl.loadS rfl rfl qn rfl (fun _ h => qa (h.blk (i := 1) rfl)))∘JV qn O0') fun w12_1 => (Jt1∘Jj∘JZ) fun a I HM => ?_
  exact ret1 rfl I (.cellS (i := 0) I HM rfl rfl qn rfl) (⟨by rw [show x.moved fr to = ⟨vv, 0, x.w⟩ from qgk (by rw [hmv] <;> omega) om]; (try (first | rfl | (congr 1; omega))), HM.below⟩)
 refine (JF∘JS'∘JP∘Jy (v := .agg #[vQ vv, vW x.r, vW x.w]) (h:=by exact Yl.loadS rfl rfl qn rfl (fun _ h => qa (h.blk (i := 1) rfl)))∘JV qn O0') fun w12_1 => (Jt1∘Jj∘JZ) fun a I HM => ?_
 exact ret1 rfl I (.cellS (i := 0) I HM rfl rfl qn rfl) (⟨by rw [show x.moved fr to = ⟨vv, x.r, x.w⟩ from qit (by rw [hmv] <;> omega) om]; (try rfl), HM.below⟩)
def sdA (x : Stm) (ng nl nu nt ns : Nat) : List Fact := fG x.gA ng x.gc x.gs :: fI x.lA nl x.lc x.cl :: fI x.uA nu x.uc x.cu :: fT x.tA nt x.tc x.ts :: fS x.sA ns x.sc x.rs :: fR x.rs
def sdC (x : Stm) (ng nl nu nt ns : Nat) : Array Value := #[.int .i64 x.cpus, .int .u64 (x.credit : Int), .slice x.gA ng x.gc, .slice x.lA nl x.lc, .slice x.uA nu x.uc, .slice x.tA nt x.tc, .slice x.sA ns x.sc]
def StOut (W : World) (T : List Fact) (s : Sta) (r : Ending) (w' : World) : Prop := ∃ y : Stm, r = .returned (.agg y.cells) ∧ y.sta = s ∧ Mem W w' (stF y ++ T)
def OpOut (W : World) (T : List Fact) (out : Out30) (r : Ending) (w' : World) : Prop := ∃ y : Stm, r = .returned (.tuple #[.agg y.cells, .int .i64 out.2.1, .int .i64 (out.2.2 : Int)]) ∧ y.sta = out.1 ∧ Mem W w' (stF y ++ T)
section
variable {W w w' : World} {F A T fs : List Fact} {x y z : Stm} {s : Sta} {ng nl nu nt ns g c n : Nat} {mm : List Mb}
theorem Mem.sdRd (n : Nat) (h : Mem W w F) (he : F.drop n = sdA x ng nl nu nt ns ++ T) (hl : Lns x ng nl nu nt ns) : StRd w x := by
 obtain ⟨rfl, rfl, rfl, rfl, rfl⟩ := hl
 exact h.stL (T := T) n he
theorem Mem.sdB (n : Nat) (h : Mem W w F) (he : F.drop n = sdA x ng nl nu nt ns ++ T) (hl : Lns x ng nl nu nt ns) : Mem W w (stF x ++ T) := by
 obtain ⟨rfl, rfl, rfl, rfl, rfl⟩ := hl
 exact h.dropN n he
theorem qfa (hl : Lns x ng nl nu nt ns) : sdC x ng nl nu nt ns = x.cells := by
 obtain ⟨rfl, rfl, rfl, rfl, rfl⟩ := hl
 rfl
theorem qfl (n : Nat) (HM : Mem W w F) (he : F.drop n = sdA y ng nl nu nt ns ++ T) (hl : Lns y ng nl nu nt ns) (hs : y.sta = s) : StOut W T s (.returned (.agg (sdC y ng nl nu nt ns))) w := ⟨y, by rw [qfa hl], hs, HM.sdB n he hl⟩
theorem qj {out : Out30} {got : Int} {e : Nat} (n : Nat) (HM : Mem W w F) (he : F.drop n = sdA y ng nl nu nt ns ++ T) (hl : Lns y ng nl nu nt ns) (hout : out = (y.sta, got, e)) : OpOut W T out (.returned (.tuple #[.agg (sdC y ng nl nu nt ns), .int .i64 got, .int .i64 (e : Int)])) w := by
 subst hout
 exact ⟨y, by rw [qfa hl], rfl, HM.sdB n he hl⟩
theorem qiv {out : Out30} {got : Int} {e : Nat} (n : Nat) (HM : Mem W w F) (he : F.drop n = stF y ++ T) (hs : y.sta = s) (hout : out = (s, got, e)) : OpOut W T out (.returned (.tuple #[.agg y.cells, .int .i64 got, .int .i64 (e : Int)])) w := by
 subst hout
 exact ⟨y, rfl, hs, HM.dropN n he⟩
theorem qiw (hx : MdOk x ng nl nu nt ns) (hr : StRd w x) (hc : (c : Int) < x.cpus) (hg : g < ns) (hm : memS x.sta g c = mm) : Calls Tryz.prog 56 #[.agg (sdC x ng nl nu nt ns), .int .i64 (g : Int), .int .i64 (c : Int)] w (qrs 102 w mm) := by
 rw [qfa hx.ln, ← hm]
 exact qry x hx.ok hx.few hx.sh c hc _ g (Nat.le_refl _) (by rw [hx.ln.s]; exact hg) w hr
theorem qgl (hx : MdOk x ng nl nu nt ns) (hm : memS x.sta g c = mm) : mm.length ≤ 2000000 := by
 rw [← hm]
 have h1 := qm1 x g c
 have h2 := hx.few.t
 have h3 := hx.few.s
 omega
theorem qgm (hx : MdOk x ng nl nu nt ns) (hm : memS x.sta g c = mm) (h0 : mm ≠ []) {B : Option Addr} {bc : Nat} (hr : Rd w w.heap.size 3 B mm.length (mm.flatMap mbrL)) : Calls Tryz.prog 57 #[.slice B mm.length bc] w (Is w (.agg (bestM topM mm).rcells)) := by
 have h1 := qom B bc mm w hr (List.length_pos_iff.2 h0) (qgl hx hm)
 rwa [qrn h0 (by rw [← hm]; exact qv9 hx.ok g c)] at h1
theorem qeg (hx : Lns x ng nl nu nt ns) (hr : StRd w x) (hf : x.ts.length ≤ 1000000) (id : Int) : Calls Tryz.prog 55 #[.agg (sdC x ng nl nu nt ns), .int .i64 id] w (Is w (.int .i64 (fidx x.ts id))) := by
 rw [qfa hx]
 exact qrw x id w hr hf
theorem qrz (hx : Lns x ng nl nu nt ns) (hr : StRd w x) (hf : x.ts.length ≤ 1000000) (id : Int) (k : Nat) (hk : fidx x.ts id = (k : Int)) : Calls Tryz.prog 55 #[.agg (sdC x ng nl nu nt ns), .int .i64 id] w (Is w (.int .i64 (k : Int))) := hk ▸ qeg hx hr hf id
end
theorem qty {s : Sta} {g c : Nat} {z : Sp} (h : 0 < (memS s g c).length ∧ z.floor < (bestM topM (memS s g c)).v) : rise1 s g c z = { z with floor := (bestM topM (memS s g c)).v } := by
 unfold rise1
 split
 ·rename_i hn; rw [List.isEmpty_iff] at hn; rw [hn] at h; exact absurd h.1 de
 ·rw [Nat.max_eq_right om]
theorem qon {s : Sta} {g c : Nat} {z : Sp} (h : ¬ (0 < (memS s g c).length ∧ z.floor < (bestM topM (memS s g c)).v)) : rise1 s g c z = z := by
 unfold rise1
 split
 ·rfl
 ·rename_i hn
  have : 0 < (memS s g c).length := List.length_pos_iff.2 (by simpa using hn)
  rw [Nat.max_eq_left om]
theorem Mem.joinG {W w w' : World} {F A G T : List Fact} (n : Nat) (h : Mem W w F) (k : Mem w w' G) (he : F.drop n = A ++ T) : Mem W w' (F.take n ++ (A ++ (G ++ T))) := by
 have h2 := h.joinT k
 rw [← List.take_append_drop n F, he, List.append_assoc, List.append_assoc] at h2
 exact h2.perm (List.Perm.append_left _ (List.Perm.append_left _ List.perm_append_comm))
theorem StOut.drop {W w' : World} {A T : List Fact} {s : Sta} {r : Ending} (h : StOut W (A ++ T) s r w') : StOut W T s r w' := by
 obtain ⟨y, h1, h2, h3⟩ := h
 exact ⟨y, h1, h2, h3.subl (List.Sublist.append (List.Sublist.refl _) (List.sublist_append_right ..))⟩
theorem OpOut.drop {W w' : World} {A T : List Fact} {o : Out30} {r : Ending} (h : OpOut W (A ++ T) o r w') : OpOut W T o r w' := by
 obtain ⟨y, h1, h2, h3⟩ := h
 exact ⟨y, h1, h2, h3.subl (List.Sublist.append (List.Sublist.refl _) (List.sublist_append_right ..))⟩
theorem Mem.front2 {W w : World} {F A Z T : List Fact} (n : Nat) (h : Mem W w F) (he : F.drop n = A ++ (Z ++ T)) : Mem W w (A ++ (Z ++ (F.take n ++ T))) := by
 have h2 : Mem W w (F.take n ++ (A ++ (Z ++ T))) := by rw [← he, List.take_append_drop]; exact h
 exact h2.perm ((List.perm_append_comm_assoc ..).trans (List.Perm.append_left _ (List.perm_append_comm_assoc ..)))
theorem Mem.qxr {W w : World} {F A Z T : List Fact} (h : Mem W w (A ++ (Z ++ (F ++ T)))) : Mem W w (F ++ (A ++ (Z ++ T))) := h.perm ((List.Perm.append_left _ (List.perm_append_comm_assoc ..)).trans (List.perm_append_comm_assoc ..))
def DoRef (w : World) (x : Stm) (out : Out30) (r : Ending) (w' : World) : Prop := ∃ y : Stm, r = .returned (.tuple #[.agg y.cells, .int .i64 out.2.1, .int .i64 (out.2.2 : Int)]) ∧ y.sta = out.1 ∧ ((y = x ∧ Below w.heap.size w w') ∨ Mem w w' (stF y))
section
variable {s : Sta} {o : Op30}
theorem qxd (h : o.kind = 1) : stepS s o = qb9 s o := by unfold stepS; rw [h]; rfl
theorem qxe (h : o.kind = 2) : stepS s o = qca s o := by unfold stepS; rw [h]; rfl
theorem qr0 (h : o.kind = 3 ∨ o.kind = 4) : stepS s o = qai s o := by unfold stepS; rcases h with h | h <;> rw [h] <;> rfl
theorem qxf (h : o.kind = 5) : stepS s o = tickS s o := by unfold stepS; rw [h]; rfl
theorem quv (h : o.kind = 6) : stepS s o = pickS s o := by unfold stepS; rw [h]; rfl
theorem qr1 (h : o.kind = 7 ∨ o.kind = 8) : stepS s o = if o.kind = 8 then z8 s o else zk s o := by
 unfold stepS
 rcases h with h | h
 ·rw [h, if_neg de]; rfl
 ·rw [h, if_pos rfl]; rfl
theorem qxg (h : o.kind = 9) : stepS s o = qad s o := by unfold stepS; rw [h]; rfl
theorem qwa (h : o.kind = 10) : stepS s o = zu s o := by unfold stepS; rw [h]; rfl
theorem qwb (h : ¬ (1 ≤ o.kind ∧ o.kind ≤ 10)) : stepS s o = (s, 0, 2) := by
 unfold stepS
 split <;> first | (exfalso; omega) | rfl
end
theorem op_md {P : Program} {W w : World} {F T : List Fact} {y : Stm} {f : Nat} {o : Op30} {out spec : Out30} (n : Nat) (HM : Mem W w F) (he : F.drop n = stF y ++ T) (hs : out = spec) (k : ∀ T', Mem W w (stF y ++ T') → Calls P f #[.agg y.cells, .agg o.cells] w (OpOut W T' spec)) :
  Calls P f #[.agg y.cells, .agg o.cells] w (fun r w' => ∃ z : Stm, r = .returned (.tuple #[.agg z.cells, .int .i64 out.2.1, .int .i64 (out.2.2 : Int)]) ∧ z.sta = out.1 ∧ Mem W w' (F.take n ++ (stF z ++ T))) := by
 subst hs
 exact (k _ (HM.front n he)).mono fun r w' ⟨z, h1, h2, h3⟩ => ⟨z, h1, h2, h3.back⟩
theorem st_md {P : Program} {W w : World} {F T : List Fact} {y : Stm} {f : Nat} {s : Sta} {args : Array Value} (n : Nat) (HM : Mem W w F) (he : F.drop n = stF y ++ T) (k : ∀ T', Mem W w (stF y ++ T') → Calls P f args w (StOut W T' s)) :
  Calls P f args w (fun r w' => ∃ z : Stm, r = .returned (.agg z.cells) ∧ z.sta = s ∧ Mem W w' (F.take n ++ (stF z ++ T))) :=
 (k _ (HM.front n he)).mono fun r w' ⟨z, h1, h2, h3⟩ => ⟨z, h1, h2, h3.back⟩
def Floors (s : Sta) (rs : List Rw) : Prop := ∀ g c, ((rs.getD g Rw.zero).l.getD c Sp.zero).floor = (s.spot g c).floor
theorem qoo {s : Sta} {rs : List Rw} {g c : Nat} {z z' : Sp} (h : Floors s rs) (hg : g < rs.length) (hz : (rs.getD g Rw.zero).l[c]? = some z) (he : z'.floor = z.floor) : Floors s (rsPut rs g c z') := fun g' c' => by
 by_cases e : g = g'
 ·subst e
  rw [qb3 hg]
  show (((rs.getD g Rw.zero).l.set c z').getD c' Sp.zero).floor = _
  by_cases e2 : c = c'
  ·subst e2
   rw [qg _ _ (List.getElem?_eq_some_iff.1 hz).1, he, ← h g c, qx Sp.zero hz]
  ·rw [getD_set_ne _ _ e2]; exact h g c'
 ·rw [qc0 e]; exact h g' c'
theorem qdr (x : Stm) : Floors x.sta x.rs := fun g c => by rw [qff]
theorem qop (c g : Nat) (l : List Nat) (s : Sta) : wakeS s (g :: l) c = wakeS (wake1 c s g) l c := rfl
def new0 (n cr : Nat) (gA : Option Addr) (gc : Nat) (gs : List Gr) (a b : Nat) : Stm := ⟨(n : Int), cr, gA, gc, gs, some ⟨a, 0, none⟩, n, List.replicate n 0, some ⟨b, 0, none⟩, n, List.replicate n 0, none, 0, [], none, 0, []⟩
theorem qlp {W w : World} {F : List Fact} {n cr gc a b : Nat} {gA : Option Addr} {gs : List Gr} (HM : Mem W w F) (hr : Rd W W.heap.size 2 gA gs.length (gs.flatMap grL)) {i j : Nat} (h1 : F[i]? = some (.row (.slice (some ⟨a, 0, none⟩) n n) n (madeCells #[.int .i64 0] (n * 1)).toList 3 1)) (h2 : F[j]? = some (.row (.slice (some ⟨b, 0, none⟩) n n) n (madeCells #[.int .i64 0] (n * 1)).toList 3 1)) : StRd w (new0 n cr gA gc gs a b) := by
 have e := qj8 n
 have h3 := HM.rd h1
 have h4 := HM.rd h2
 rw [e] at h3 h4
 exact ⟨HM.old hr, by show Rd w _ 1 _ (List.replicate n (0 : Int)).length _; rw [List.length_replicate]; exact h3, by show Rd w _ 1 _ (List.replicate n (0 : Int)).length _; rw [List.length_replicate]; exact h4, Rd.nil, Rd.nil, fun y hy => by cases hy⟩
theorem qix {n cr gc a b : Nat} {gA : Option Addr} {gs : List Gr} (h1 : n ≤ 64) (h2 : gs.length ≤ 256) : StFew (new0 n cr gA gc gs a b) := ⟨by show gs.length ≤ _; omega, by show (List.replicate n (0 : Int)).length ≤ _; rw [List.length_replicate]; omega, by show (List.replicate n (0 : Int)).length ≤ _; rw [List.length_replicate]; omega, Nat.zero_le _, Nat.zero_le _, fun y hy => by cases hy⟩
theorem qtz {n cr gc lc uc tc cs : Nat} {gA lA uA tA As : Option Addr} {gs : List Gr} {z : List Rw} (hk : z.length = gs.length) (hz : ∀ q ∈ z, q.l = List.replicate n Sp.zero) : (⟨(n : Int), cr, gA, gc, gs, lA, lc, List.replicate n 0, uA, uc, List.replicate n 0, tA, tc, [], As, cs, z⟩ : Stm).sta = newS (n : Int) cr gs := by
 have h1 : z.map Rw.l = List.replicate gs.length (List.replicate n Sp.zero) := by
  rw [List.eq_replicate_iff]
  refine ⟨by rw [List.length_map]; exact hk, fun b hb => ?_⟩
  obtain ⟨q, hq, rfl⟩ := List.mem_map.1 hb
  exact hz q hq
 unfold Stm.sta newS
 dsimp only
 rw [h1, Int.toNat_natCast]
theorem qt0 {x y : Stm} (h : StaEq x y) (h0 : x.rs = []) : x.cpus = y.cpus ∧ x.credit = y.credit ∧ x.gs = y.gs ∧ x.cl = y.cl ∧ x.cu = y.cu ∧ x.ts = y.ts ∧ y.rs = [] := by
 obtain ⟨⟨h1, h2, h3⟩, h4, h5, h6, h7⟩ := h
 refine ⟨h1, h2, h3, h4, h5, h6, ?_⟩
 have h8 := qg5 (a := x) (b := y) h7
 rw [h0] at h8
 exact List.length_eq_zero_iff.1 h8.symm
theorem qbd (x : Stm) (w : World) (hx : StRd w x) (hf : StFew x) :
    Calls Tryz.prog 29 #[.agg x.cells] w (ql3 w x) := by
 have hfg := hf.g; have hfl := hf.l; have hfu := hf.u; have hft := hf.t; have hfs := hf.s
 refine (JN1 Tryz.func29 47) ?_
 refine (JP∘JE) fun w1 g1 => (JA #[vI 0, vQ 0, vN, vN, vN, vN, vN]) fun w2 g2 => (Jr) fun a I HM => ?_
 refine fo I 0 rfl rfl ?_
 refine qac I HM rfl ei_gr rfl de ?_
 clear I HM; intro a w5 g5 I HM
 refine Jb I HM ((Jf 0∘Jg 2 O2∘JD (x.gs.flatMap grL) 0 (fun _ _ => O0') ei_gr (hr:=by exact fun HM => HM.old hx.g) (h1:=by exact ql4 _)) fun w9 A9 c9 hc9 => fun a I HM => ?_)
 have hnA9 : 0 + x.gs.length = x.gs.length := Nat.zero_add _
 replace HM := HM.reRow (i := 0) (ys := x.gs.flatMap grL) rfl hnA9 (rfl)
 rw [hnA9] at hc9
 replace I := I.sp 9 (.slice A9 x.gs.length c9) rfl (by rw [hnA9])
 refine Jb I HM ((Jf 0∘Jf 2) fun a I HM => ?_)
 refine fo I 7 rfl rfl ?_
 refine zr I HM (i := 2) rfl rfl rfl rfl kr rfl rfl (by simp [Stm.cells]) fun w1_7 HM => ?_
 refine Jb I HM ((Jt6∘Jr) fun a I HM => ?_)
 refine fo I 0 rfl rfl ?_
 refine qac I HM rfl zd rfl de ?_
 clear I HM; intro a w12 g12 I HM
 refine Jb I HM ((Jg 3 O3∘JD (x.cl.map I64i) 0 (fun _ _ => O0') zd (hr:=by exact fun HM => HM.old hx.l) (h1:=by exact qkx _)) fun w15 A15 c15 hc15 => fun a I HM => ?_)
 have hnA15 : 0 + x.cl.length = x.cl.length := Nat.zero_add _
 replace HM := HM.reRow (i := 0) (ys := x.cl.map I64i) rfl hnA15 (rfl)
 rw [hnA15] at hc15
 replace I := I.sp 15 (.slice A15 x.cl.length c15) rfl (by rw [hnA15])
 refine Jb I HM ((Jf 3∘JW O3' O3') fun w2_5 => (Jt6∘Jr) fun a I HM => ?_)
 refine fo I 0 rfl rfl ?_
 refine qac I HM rfl zd rfl de ?_
 clear I HM; intro a w17 g17 I HM
 refine Jb I HM ((Jg 4 O4∘JD (x.cu.map I64i) 0 (fun _ _ => O0') zd (hr:=by exact fun HM => HM.old hx.u) (h1:=by exact qkx _)) fun w20 A20 c20 hc20 => fun a I HM => ?_)
 have hnA20 : 0 + x.cu.length = x.cu.length := Nat.zero_add _
 replace HM := HM.reRow (i := 0) (ys := x.cu.map I64i) rfl hnA20 (rfl)
 rw [hnA20] at hc20
 replace I := I.sp 20 (.slice A20 x.cu.length c20) rfl (by rw [hnA20])
 refine Jb I HM ((Jf 4∘JW O4' O4') fun w3_5 => (Jt5∘Jr) fun a I HM => ?_)
 refine fo I 0 rfl rfl ?_
 refine qac I HM rfl ei_tk rfl de ?_
 clear I HM; intro a w22 g22 I HM
 refine Jb I HM ((Jg 5 O5∘JD (x.ts.flatMap tkL) 0 (fun _ _ => O0') ei_tk (hr:=by exact fun HM => HM.old hx.t) (h1:=by exact qbs _)) fun w25 A25 c25 hc25 => fun a I HM => ?_)
 have hnA25 : 0 + x.ts.length = x.ts.length := Nat.zero_add _
 replace HM := HM.reRow (i := 0) (ys := x.ts.flatMap tkL) rfl hnA25 (rfl)
 rw [hnA25] at hc25
 replace I := I.sp 25 (.slice A25 x.ts.length c25) rfl (by rw [hnA25])
 refine Jb I HM ((Jf 5∘JW O5' O5') fun w4_5 => (Jt5∘Jr∘Jp 1∘Jq) fun a I HM => ?_)
 replace HM := HM.nil 63 1
 replace HM := HM.newTail 83 3
 replace HM : Mem w _ (.row (vN) 0 [] 63 1 :: .row (.slice A25 x.ts.length c25) x.ts.length (x.ts.flatMap tkL) 81 8 :: .row (.slice A20 x.cu.length c20) x.cu.length (x.cu.map I64i) 3 1 :: .row (.slice A15 x.cl.length c15) x.cl.length (x.cl.map I64i) 3 1 :: .row (.slice A9 x.gs.length c9) x.gs.length (x.gs.flatMap grL) 50 2 :: .blk g2 #[vI 0, vQ 0, vN, vN, vN, vN, vN] 45 :: .blk g1 #[vI x.cpus, vQ x.credit, .slice A9 x.gs.length c9, .slice A15 x.cl.length c15, .slice A20 x.cu.length c20, .slice A25 x.ts.length c25, .slice x.sA x.rs.length x.sc] 45 :: rwF 83 []) := HM
 refine Jb I HM ((JG∘JQ∘JP∘Jp 1∘Jj∘JB) fun a I HM => ?_)
 refine qi (fun mS aS wS => ∃ (i : Nat) (z : List Rw) (As : Option Addr) (cs : Nat), (i ≤ x.rs.length) ∧ (z.length = i) ∧ (z.map Rw.l = (x.rs.take i).map Rw.l) ∧ (∀ q ∈ z, q.l.length ≤ q.c) ∧ (z.length ≤ cs) ∧ mS = x.rs.length - i ∧ Fr aS 47 [] [(4, vI i), (3, .slice As z.length cs), (2, vP g2 0), (1, vP g1 0)] ∧ Mem w wS (.row (.slice As z.length cs) z.length (z.map Rw.val) 63 1 :: .row (.slice A25 x.ts.length c25) x.ts.length (x.ts.flatMap tkL) 81 8 :: .row (.slice A20 x.cu.length c20) x.cu.length (x.cu.map I64i) 3 1 :: .row (.slice A15 x.cl.length c15) x.cl.length (x.cl.map I64i) 3 1 :: .row (.slice A9 x.gs.length c9) x.gs.length (x.gs.flatMap grL) 50 2 :: .blk g2 #[vI 0, vQ 0, vN, vN, vN, vN, vN] 45 :: .blk g1 #[vI x.cpus, vQ x.credit, .slice A9 x.gs.length c9, .slice A15 x.cl.length c15, .slice A20 x.cu.length c20, .slice A25 x.ts.length c25, .slice x.sA x.rs.length x.sc] 45 :: rwF 83 z)) (m := x.rs.length - 0) ⟨0, [], none, 0, Nat.zero_le _, rfl, rfl, (fun q h => by cases h), Nat.le_refl _, rfl, I.sub kr, HM.pt 7 [0, 1, 2, 3, 4, 5, 6]⟩ ?_
 clear I HM; rintro mS a w_ ⟨i, z, As, cs, hi, hzl, hz, hzc, hcs, rfl, I, HM⟩
 refine Jb I HM ((JQ∘JP∘Jp 1∘Jg 6 O6∘Jl∘Jp 1∘Jd3∘Jj) (Ju (fun hb31 => ?_) fun hb31 => ?_))
 ·
  intro a I HM
  have hd31 := of_decide_eq_true hb31
  have hi31 : i < x.rs.length := by omega
  obtain ⟨y, hy⟩ : ∃ q, x.rs.getD i Rw.zero = q := ⟨_, rfl⟩
  have hyr : Rd w w.heap.size 3 y.A y.l.length (y.l.flatMap spL) := by rw [← hy]; exact hx.row hi31
  have hyl : y.l.length ≤ 1000000 := by rw [← hy]; exact hf.r _ (qm Rw.zero hi31)
  refine Jb I HM ((JT∘JS'∘JQ∘JB∘JR∘Jp 1) fun a I HM => ?_)
  refine fo I 1 rfl rfl ?_
  refine qac I HM rfl ei_sp rfl de ?_
  clear I HM; intro a w35 g35 I HM
  refine Jb I HM ((Jg 6 O7∘Jp 1) fun a I HM => ?_)
  obtain ⟨gq1, oq1, hq1, _⟩ := Rd.qt hx.s (Nat.lt_of_le_of_lt (Nat.zero_le _) (show i < x.rs.length from by omega)) de
  have hrq1 := hx.s; rw [hq1] at hrq1
  replace I := I.sp 37 (.slice (some ⟨gq1, oq1, none⟩) x.rs.length x.sc) rfl (by rw [hq1]; try rfl)
  refine Jb I HM ((Jy (h:=by exact Yl.ix gq1 oq1 i 1 rfl rfl rfl)∘Jy (v := .slice ((x.rs.getD i Rw.zero).A) ((x.rs.getD i Rw.zero).l.length) ((x.rs.getD i Rw.zero).c)) (h:=by exact Yl.o1 hrq1 i Rw.zero hi31 rfl rfl)∘Jo (.slice y.A y.l.length y.c) (by rw [hy])∘JD (y.l.flatMap spL) 0 (fun _ _ => O0') ei_sp (hr:=by exact fun HM => HM.old hyr) (h1:=by exact quj _)) fun w41 A41 c41 hc41 => fun a I HM => ?_)
  have hnA41 : 0 + y.l.length = y.l.length := Nat.zero_add _
  replace HM := HM.reRow (i := 0) (ys := y.l.flatMap spL) rfl hnA41 (rfl)
  rw [hnA41] at hc41
  replace I := I.sp 41 (.slice A41 y.l.length c41) rfl (by rw [hnA41])
  refine Jb I HM ((JU ei_rw #[.slice A41 y.l.length c41]) fun w42 g42 => (JD ([(⟨A41, c41, y.l⟩ : Rw)].map Rw.val) 2 (fun _ _ => O2') ei_rw (hr:=by exact fun HM => HM.rdBlk (i := 0) (n := 1) (size := 1) rfl rfl) (h1:=by exact qpq _)) fun w43 A43 c43 hc43 => fun a I HM => ?_)
  have hnA43 : z.length + 1 = (z ++ [(⟨A41, c41, y.l⟩ : Rw)]).length := qlm rfl
  replace HM := HM.reRow (i := 2) (ys := (z ++ [(⟨A41, c41, y.l⟩ : Rw)]).map Rw.val) rfl hnA43 (List.map_append.symm)
  rw [hnA43] at hc43
  replace I := I.sp 43 (.slice A43 ((z ++ [(⟨A41, c41, y.l⟩ : Rw)]).length) c43) rfl (by rw [hnA43])
  refine Jb I HM ((Jp 1∘Jd6∘Jq) fun a I HM => ?_)
  replace HM := HM.pt (fs' := (.row (.slice A41 y.l.length c41) y.l.length (y.l.flatMap spL) 83 3 :: .row (.slice A43 ((z ++ [(⟨A41, c41, y.l⟩ : Rw)]).length) c43) ((z ++ [(⟨A41, c41, y.l⟩ : Rw)]).length) ((z ++ [(⟨A41, c41, y.l⟩ : Rw)]).map Rw.val) 63 1 :: .row (.slice A25 x.ts.length c25) x.ts.length (x.ts.flatMap tkL) 81 8 :: .row (.slice A20 x.cu.length c20) x.cu.length (x.cu.map I64i) 3 1 :: .row (.slice A15 x.cl.length c15) x.cl.length (x.cl.map I64i) 3 1 :: .row (.slice A9 x.gs.length c9) x.gs.length (x.gs.flatMap grL) 50 2 :: .blk g2 #[vI 0, vQ 0, vN, vN, vN, vN, vN] 45 :: .blk g1 #[vI x.cpus, vQ x.credit, .slice A9 x.gs.length c9, .slice A15 x.cl.length c15, .slice A20 x.cu.length c20, .slice A25 x.ts.length c25, .slice x.sA x.rs.length x.sc] 45 :: rwF 83 z)) 9 [1, 2, 3, 4, 5, 6, 7, 8]
  replace HM := Mem.toRw (fs := [.row (.slice A43 ((z ++ [(⟨A41, c41, y.l⟩ : Rw)]).length) c43) ((z ++ [(⟨A41, c41, y.l⟩ : Rw)]).length) ((z ++ [(⟨A41, c41, y.l⟩ : Rw)]).map Rw.val) 63 1, .row (.slice A25 x.ts.length c25) x.ts.length (x.ts.flatMap tkL) 81 8, .row (.slice A20 x.cu.length c20) x.cu.length (x.cu.map I64i) 3 1, .row (.slice A15 x.cl.length c15) x.cl.length (x.cl.map I64i) 3 1, .row (.slice A9 x.gs.length c9) x.gs.length (x.gs.flatMap grL) 50 2, .blk g2 #[vI 0, vQ 0, vN, vN, vN, vN, vN] 45, .blk g1 #[vI x.cpus, vQ x.credit, .slice A9 x.gs.length c9, .slice A15 x.cl.length c15, .slice A20 x.cu.length c20, .slice A25 x.ts.length c25, .slice x.sA x.rs.length x.sc] 45]) HM
  replace HM : Mem w _ (.row (.slice A43 ((z ++ [(⟨A41, c41, y.l⟩ : Rw)]).length) c43) ((z ++ [(⟨A41, c41, y.l⟩ : Rw)]).length) ((z ++ [(⟨A41, c41, y.l⟩ : Rw)]).map Rw.val) 63 1 :: .row (.slice A25 x.ts.length c25) x.ts.length (x.ts.flatMap tkL) 81 8 :: .row (.slice A20 x.cu.length c20) x.cu.length (x.cu.map I64i) 3 1 :: .row (.slice A15 x.cl.length c15) x.cl.length (x.cl.map I64i) 3 1 :: .row (.slice A9 x.gs.length c9) x.gs.length (x.gs.flatMap grL) 50 2 :: .blk g2 #[vI 0, vQ 0, vN, vN, vN, vN, vN] 45 :: .blk g1 #[vI x.cpus, vQ x.credit, .slice A9 x.gs.length c9, .slice A15 x.cl.length c15, .slice A20 x.cu.length c20, .slice A25 x.ts.length c25, .slice x.sA x.rs.length x.sc] 45 :: rwF 83 (z ++ [(⟨A41, c41, y.l⟩ : Rw)])) := HM
  refine Jb I HM ((JG∘JR∘Jp 1∘JaK 1∘Jp 1∘Jd2∘Jq) fun a I HM => ?_)
  exact ⟨_, om, i + 1, (z ++ [(⟨A41, c41, y.l⟩ : Rw)]), A43, c43, by omega, by rw [List.length_append, hzl]; rfl, by rw [List.map_append, hz, ql5 hi31, hy]; rfl, fun q h => (List.mem_append.1 h).elim (hzc q) (fun h => by rw [List.mem_singleton] at h; subst h; exact hc41), hc43, rfl, I.sub kr, HM.pt 7 [0, 1, 2, 3, 4, 5, 6]⟩
 intro a I HM
 have hd31 := of_decide_eq_false hb31
 have hzt : x.rs.take i = x.rs := List.take_of_length_le om
 refine Jb I HM ((JF∘JX∘JG∘JP∘Jp 1∘Jf 6∘JW O6' O6') fun w10_2 => (Jt2∘Jr∘Jy (v := .agg #[vI x.cpus, vQ x.credit, .slice A9 x.gs.length c9, .slice A15 x.cl.length c15, .slice A20 x.cu.length c20, .slice A25 x.ts.length c25, .slice As z.length cs]) (h:=by exact Yl.loadS rfl rfl si_st rfl (fun _ h => qa (h.blk (i := 6) rfl)))∘JV si_st O5') fun w11_1 => (Jt1∘Jj∘JZ) fun a I HM => ?_)
 exact ret1 rfl I (.cellS (i := 5) I HM rfl rfl si_st rfl) (⟨⟨x.cpus, x.credit, A9, c9, x.gs, A15, c15, x.cl, A20, c20, x.cu, A25, c25, x.ts, As, cs, z⟩, rfl, ⟨⟨rfl, rfl, rfl⟩, rfl, rfl, rfl, (by rw [hzt] at hz; exact hz.symm)⟩, ⟨hc9, hc15, hc20, hc25, hcs, hzc⟩, HM.pt 7 [4, 3, 2, 1, 0]⟩)
theorem qev {w : World} {x : Stm} {ng nl nu nt ns : Nat} (hl : Lns x ng nl nu nt ns) (hr : StRd w x) (hf : StFew x) : Calls Tryz.prog 29 #[.agg (sdC x ng nl nu nt ns)] w (ql3 w x) := by
 rw [qfa hl]
 exact qbd x w hr hf
theorem qoq (W w : World) (x : Stm) (ng nl nu nt ns : Nat) (hx : MdOk x ng nl nu nt ns) (T : List Fact) (HM : Mem W w (sdA x ng nl nu nt ns ++ T)) :
    Calls Tryz.prog 77 #[.agg (sdC x ng nl nu nt ns)] w (StOut W T (riseS x.sta)) := by
 obtain ⟨cp, cr, gA, gc, gs, lA, lc, cl, uA, uc, cu, tA, tc, ts, sA, sc, rs⟩ := x
 replace HM : Mem W w (fG gA ng gc gs :: fI lA nl lc cl :: fI uA nu uc cu :: fT tA nt tc ts :: fS sA ns sc rs :: (fR rs ++ (T))) := HM
 have hln := hx.ln
 obtain ⟨hlg, hll, hlu, hlt, hls⟩ := hln
 replace hlg : gs.length = ng := hlg; replace hll : cl.length = nl := hll; replace hlu : cu.length = nu := hlu; replace hlt : ts.length = nt := hlt; replace hls : rs.length = ns := hls
 have hlns := hx.ln
 have hsp : SpsOk gs cp rs := hx.spots
 have hrg : rs.length = gs.length := hx.sh.rs
 have hcr : cr < 18446744073709551616 := hx.ok.credit
 obtain ⟨hcp1, hcp2, _, hgs⟩ := zf hx.sh.cfg
 replace hcp1 : 1 ≤ cp := hcp1; replace hcp2 : cp ≤ 64 := hcp2; replace hgs : gsOk gs = true := hgs
 have hgl1 := (qh hgs).1; have hgl2 := (qh hgs).2.1
 have hcll : (cl.length : Int) = cp := hx.sh.cl; have hcul : (cu.length : Int) = cp := hx.sh.cu
 have hfts : ts.length ≤ 1000000 := hx.few.t
 obtain ⟨gsA, rfl⟩ := qe (HM.own (i := 4) rfl) om
 show Calls Tryz.prog 77 #[.agg #[vI cp, vQ cr, .slice gA ng gc, .slice lA nl lc, .slice uA nu uc, .slice tA nt tc, vS gsA ns sc]] w _
 refine (Jin1 HM Tryz.func77 54) ?_
 refine (JP∘JE) fun w1 g1 => (JA #[vI 0, vQ 0, vN, vN, vN, vN, vN]) fun w2 g2 => (Jj∘JQ∘JP∘Jp 1∘Jj∘JB) fun a I HM => ?_
 refine qi (fun mS aS wS => ∃ (g : Nat) (rs2 : List Rw), (g ≤ ns) ∧ (rs2.length = ns) ∧ (MdOk (⟨cp, cr, gA, gc, gs, lA, lc, cl, uA, uc, cu, tA, tc, ts, some ⟨gsA, 0, none⟩, sc, rs2⟩ : Stm) ng nl nu nt ns) ∧ (Risen (⟨cp, cr, gA, gc, gs, lA, lc, cl, uA, uc, cu, tA, tc, ts, some ⟨gsA, 0, none⟩, sc, rs⟩ : Stm) rs2 g 0) ∧ mS = ns - g ∧ Fr aS 54 [] [(3, vI g), (2, vP g2 0), (1, vP g1 0)] ∧ Mem W wS (.blk g2 #[vI 0, vQ 0, vN, vN, vN, vN, vN] 45 :: .blk g1 #[vI cp, vQ cr, .slice gA ng gc, .slice lA nl lc, .slice uA nu uc, .slice tA nt tc, vS gsA ns sc] 45 :: fG gA ng gc gs :: fI lA nl lc cl :: fI uA nu uc cu :: fT tA nt tc ts :: fS (some ⟨gsA, 0, none⟩) ns sc rs2 :: (fR rs2 ++ (T)))) (m := ns - 0) ⟨0, rs, Nat.zero_le _, hls, hx, qg9, rfl, I.sub kr, HM.pt 7 [0, 1, 2, 3, 4, 5, 6]⟩ ?_
 clear I HM; rintro mS a w_ ⟨g, rs2, hg, hl2, hx2, hR, rfl, I, HM⟩
 refine Jb I HM ((JQ∘JP∘Jp 1∘Jg 6 O1∘Jl∘Jp 1∘Jd3∘Jj) (Ju (fun hb10 => ?_) fun hb10 => ?_))
 ·
  intro a I HM
  have hd10 := of_decide_eq_true hb10
  have hg10 : g < ns := by omega
  obtain ⟨⟨yA, yc, yl⟩, hy⟩ : ∃ y, rs2.getD g Rw.zero = y := ⟨_, rfl⟩
  have hys := hx2.spots g (by show g < rs2.length; omega)
  replace hys : ((rs2.getD g Rw.zero).l.length : Int) = cp ∧ _ := hys
  rw [hy] at hys
  have hyl : (yl.length : Int) = cp := hys.1
  revert HM; revert a; repeat (first | clear I | clear HM)
  intro a I HM
  obtain ⟨gy, rfl⟩ := HM.rwSome 7 rfl om hy om
  have hyo := hR.2.1 g
  rw [hy] at hyo
  replace hyo : yl.length = (rs.getD g Rw.zero).l.length := hyo
  refine Jb I HM ((JT∘JS'∘JQ∘JB∘JP∘Jp 1∘Jj∘JB) fun a I HM => ?_)
  refine qi (fun mS aS wS => ∃ (c : Nat) (rs3 : List Rw) (yl3 : List Sp), (rs3.length = ns) ∧ (MdOk (⟨cp, cr, gA, gc, gs, lA, lc, cl, uA, uc, cu, tA, tc, ts, some ⟨gsA, 0, none⟩, sc, rs3⟩ : Stm) ng nl nu nt ns) ∧ (Risen (⟨cp, cr, gA, gc, gs, lA, lc, cl, uA, uc, cu, tA, tc, ts, some ⟨gsA, 0, none⟩, sc, rs⟩ : Stm) rs3 g c) ∧ (rs3.getD g Rw.zero = ⟨some ⟨gy, 0, none⟩, yc, yl3⟩) ∧ (yl3.length = yl.length) ∧ mS = yl.length - c ∧ Fr aS 54 [] [(4, vI c), (10, .bool true), (3, vI g), (2, vP g2 0), (1, vP g1 0)] ∧ Mem W wS (.blk g2 #[vI 0, vQ 0, vN, vN, vN, vN, vN] 45 :: .blk g1 #[vI cp, vQ cr, .slice gA ng gc, .slice lA nl lc, .slice uA nu uc, .slice tA nt tc, vS gsA ns sc] 45 :: fG gA ng gc gs :: fI lA nl lc cl :: fI uA nu uc cu :: fT tA nt tc ts :: fS (some ⟨gsA, 0, none⟩) ns sc rs3 :: (fR rs3 ++ (T)))) (m := yl.length - 0) ⟨0, rs2, yl, hl2, hx2, hR, hy, rfl, rfl, I.sub kr, HM.pt 7 [0, 1, 2, 3, 4, 5, 6]⟩ ?_
  clear I HM; rintro mS a w_ ⟨c, rs3, yl3, hl3, hx3, hR3, hy3, hyl3, rfl, I, HM⟩
  refine Jb I HM ((JQ∘JP∘Jp 1∘Jf 0∘Jg 0 O1∘Jp 1∘Jd3∘Jj) (Ju (fun hb17 => ?_) fun hb17 => ?_))
  ·
   intro a I HM
   have hd17 := of_decide_eq_true hb17
   have hc17 : c < yl.length := by omega
   obtain ⟨zz, hzz⟩ : ∃ z, yl3[c]? = some z := ⟨_, List.getElem?_eq_getElem om⟩
   obtain ⟨mm, hmm⟩ : ∃ z, memS (⟨cp, cr, gA, gc, gs, lA, lc, cl, uA, uc, cu, tA, tc, ts, some ⟨gsA, 0, none⟩, sc, rs⟩ : Stm).sta g c = z := ⟨_, rfl⟩
   have hm3 := (qjo hR3 g c).trans hmm
   have hmf := qgl hx3 hm3
   have hsp3 := hx3.spots g (by show g < rs3.length; omega)
   replace hsp3 : ((rs3.getD g Rw.zero).l.length : Int) = cp ∧ ∀ z ∈ (rs3.getD g Rw.zero).l, z.Ok ∧ _ := hsp3
   rw [hy3] at hsp3
   have hzo := (hsp3.2 zz (List.mem_of_getElem? hzz)).1
   have hzf := hzo.floor
   have hso := (qg2 (x := (⟨cp, cr, gA, gc, gs, lA, lc, cl, uA, uc, cu, tA, tc, ts, some ⟨gsA, 0, none⟩, sc, rs3⟩ : Stm)) (by show g < rs3.length; omega) (hx3.sh.row g (by show g < rs3.length; omega))).2 c (by show c < (rs3.getD g Rw.zero).l.length; rw [hy3]; show c < yl3.length; omega)
   replace hso : spOk _ g ((rs3.getD g Rw.zero).l.getD c Sp.zero) = true := hso
   rw [hy3, show (⟨some ⟨gy, 0, none⟩, yc, yl3⟩ : Rw).l.getD c Sp.zero = zz from qx Sp.zero hzz] at hso
   refine Jb I HM ((JT∘JS'∘JQ∘JB∘JP∘Jy (v := .agg #[vI cp, vQ cr, .slice gA ng gc, .slice lA nl lc, .slice uA nu uc, .slice tA nt tc, vS gsA ns sc]) (h:=by exact Yl.loadS rfl rfl si_st rfl (fun _ h => qa (h.blk (i := 1) rfl)))∘Jp 2∘JK (h:=by exact fun HM => qiw (x := (⟨cp, cr, gA, gc, gs, lA, lc, cl, uA, uc, cu, tA, tc, ts, some ⟨gsA, 0, none⟩, sc, rs3⟩ : Stm)) hx3 (HM.sdRd 2 rfl hx3.ln) om om hm3)) fun A23 c23 w23 hc23 => (Jp 1∘Jd4∘Jj) fun a I HM => ?_)
   refine qy (fun aS wS => Fr aS 54 [] [(41, .bool (decide (0 < mm.length ∧ zz.floor < (bestM topM mm).v))), (5, .slice A23 mm.length c23), (17, .bool true), (4, vI c), (10, .bool true), (3, vI g), (2, vP g2 0), (1, vP g1 0)] ∧ Mem W wS (.row (.slice A23 mm.length c23) mm.length (mm.flatMap mbrL) 102 3 :: .blk g2 #[vI 0, vQ 0, vN, vN, vN, vN, vN] 45 :: .blk g1 #[vI cp, vQ cr, .slice gA ng gc, .slice lA nl lc, .slice uA nu uc, .slice tA nt tc, vS gsA ns sc] 45 :: fG gA ng gc gs :: fI lA nl lc cl :: fI uA nu uc cu :: fT tA nt tc ts :: fS (some ⟨gsA, 0, none⟩) ns sc rs3 :: (fR rs3 ++ (T)))) ?_ ?_
   ·
    refine Jb I HM ((Vs .n []) fun wd8 => (Vp [0]∘Vl 1∘Vp [2, 3]) fun a I HM HS => ?_)
    rcases I.tf 27 rfl with ⟨hb27, I⟩ | ⟨hb27, I⟩
    ·
     have hd27 := of_decide_eq_true hb27
     have hne : mm ≠ [] := fun e => by rw [e] at hd27; exact absurd hd27 de
     refine Vb I HM HS ((Vp [4]∘Vf 7 6∘Vp [9, 12]∘Vc 8 O2∘Vy 10 (h:=by exact Yl.ix0 gsA g 1 rfl rfl rfl)∘Vy 11 (v := .slice ((rs3.getD g Rw.zero).A) ((rs3.getD g Rw.zero).l.length) ((rs3.getD g Rw.zero).c)) (h:=by exact Yl.r1 7 g Rw.zero om rfl rfl rfl)∘Vo (vS gy yl3.length yc) (by rw [hy3])∘Vy 13 (h:=by exact Yl.ix0 gy c 3 rfl rfl rfl)∘Vf 14 2∘Vy 15 (v := vQ zz.floor) (h:=by exact Yl.qo rfl rfl kr (fun _ h => h.qat 8 (j := 2) rfl om hy3 (hzz) rfl))∘VI 5 .n (h:=by exact fun HM => qgm hx3 hm3 hne (HM.rd (i := 0) rfl))) fun w29 hbw => (Vy 6 (v := vQ ((bestM topM mm).v)) (h:=by exact Yl.field rfl rfl kr)∘Vp [16, 17]∘Vd∘Jd6) fun a I HM => ?_)
     have I := I.sp 41 (.bool (decide (0 < mm.length ∧ zz.floor < (bestM topM mm).v))) rfl (congrArg Value.bool (decide_eq_decide.2 om))
     exact ⟨I.sub kr, HM.pt 8 [0, 1, 2, 3, 4, 5, 6, 7]⟩
    have hd27 := of_decide_eq_false hb27
    refine ap I (fun _ => HS) [4, 5, 6, 7, 8, 9, 10, 11, 12, 13, 14, 15, 16, 17] (bt 18 []) [(41, .bool false)] fun a I => ?_
    refine qb kr ?_
    have I := I.sp 41 (.bool (decide (0 < mm.length ∧ zz.floor < (bestM topM mm).v))) rfl (congrArg Value.bool (decide_eq_false om).symm)
    exact ⟨I.sub kr, HM.pt 8 [0, 1, 2, 3, 4, 5, 6, 7]⟩
   clear I HM; rintro a w8 ⟨I, HM⟩
   refine Jb I HM (Ju (fun hb41 => ?_) fun hb41 => ?_)
   ·
    intro a I HM
    have hd41 := of_decide_eq_true hb41
    have hne : mm ≠ [] := fun e => by rw [e] at hd41; exact absurd hd41.1 de
    have hbv := qmj (x := (⟨cp, cr, gA, gc, gs, lA, lc, cl, uA, uc, cu, tA, tc, ts, some ⟨gsA, 0, none⟩, sc, rs⟩ : Stm)) hx.ok (g := g) (c := c) (by rw [hmm]; exact hne)
    rw [hmm] at hbv
    have hr1 : rise1 (⟨cp, cr, gA, gc, gs, lA, lc, cl, uA, uc, cu, tA, tc, ts, some ⟨gsA, 0, none⟩, sc, rs⟩ : Stm).sta g c zz = { zz with floor := (bestM topM mm).v } := (qty (by rw [hmm]; exact hd41)).trans (by rw [hmm])
    refine Jb I HM ((JT∘Vs .n [11]) fun wd9 => (Vf 0 6∘Vp [2, 5, 6]∘Vc 1 O2∘Vy 3 (h:=by exact Yl.ix0 gsA g 1 rfl rfl rfl)∘Vy 4 (v := .slice ((rs3.getD g Rw.zero).A) ((rs3.getD g Rw.zero).l.length) ((rs3.getD g Rw.zero).c)) (h:=by exact Yl.r1 7 g Rw.zero om rfl rfl rfl)∘Vo (vS gy yl3.length yc) (by rw [hy3])∘VI 7 .n (h:=by exact fun HM => qgm hx3 hm3 hne (HM.rd (i := 0) rfl))) fun w49 hbw => (Vy 8 (v := vQ ((bestM topM mm).v)) (h:=by exact Yl.field rfl rfl kr)∘Vu 9 (h:=by exact fun _ => Yl.ix0 gy c 3 rfl rfl rfl)∘Vf 10 2) fun a I HM HS => ?_)
    refine s_on I 11 rfl ?_
    refine q6 I HM 7 (c := c) 2 ({ zz with floor := (bestM topM mm).v }) rfl rfl rfl rfl kr rfl rfl om (hy3) (hzz) rfl de rfl fun w9_11 HM => ?_
    replace HM : Mem W w9_11 (.row (.slice A23 mm.length c23) mm.length (mm.flatMap mbrL) 102 3 :: .blk g2 #[vI 0, vQ 0, vN, vN, vN, vN, vN] 45 :: .blk g1 #[vI cp, vQ cr, .slice gA ng gc, .slice lA nl lc, .slice uA nu uc, .slice tA nt tc, vS gsA ns sc] 45 :: fG gA ng gc gs :: fI lA nl lc cl :: fI uA nu uc cu :: fT tA nt tc ts :: fS (some ⟨gsA, 0, none⟩) ns sc (rsPut rs3 g c ({ zz with floor := (bestM topM mm).v })) :: (fR (rsPut rs3 g c ({ zz with floor := (bestM topM mm).v })) ++ (T))) := HM
    refine noS kr ?_
    refine qb kr ?_
    refine Jb I HM ((JG∘JR∘Jp 1∘JaK 1∘Jp 1∘Jd6∘Jq) fun a I HM => ?_)
    exact ⟨_, om, c + 1, (rsPut rs3 g c { zz with floor := (bestM topM mm).v }), (yl3.set c { zz with floor := (bestM topM mm).v }), by rw [qr]; exact hl3, hx3.put (by show g < rs3.length; omega) { zz with floor := (bestM topM mm).v } ⟨hzo.v, hzo.r, hbv⟩ hso, qha hR3 (by show g < rs.length; omega) (by show c < (rs.getD g Rw.zero).l.length; omega) (by rw [hy3]; exact hzz) hr1, qeb om hy3, by rw [List.length_set]; exact hyl3, rfl, I.sub kr, HM.pt 8 [1, 2, 3, 4, 5, 6, 7]⟩
   intro a I HM
   have hd41 := of_decide_eq_false hb41
   have hr1 : rise1 (⟨cp, cr, gA, gc, gs, lA, lc, cl, uA, uc, cu, tA, tc, ts, some ⟨gsA, 0, none⟩, sc, rs⟩ : Stm).sta g c zz = zz := qon (by rw [hmm]; exact hd41)
   refine Jb I HM ((JF∘JS'∘JR∘Jp 1∘JaK 1∘Jp 1∘Jd2∘Jq) fun a I HM => ?_)
   exact ⟨_, om, c + 1, rs3, yl3, hl3, hx3, qni hR3 (by show g < rs.length; omega) (by show c < (rs.getD g Rw.zero).l.length; omega) (by rw [hy3]; exact hzz) hr1, hy3, hyl3, rfl, I.sub kr, HM.pt 8 [1, 2, 3, 4, 5, 6, 7]⟩
  intro a I HM
  have hd17 := of_decide_eq_false hb17
  refine Jb I HM ((JF∘JX∘JG∘JR∘Jp 1∘JaK 1∘Jp 1∘Jd2∘Jq) fun a I HM => ?_)
  exact ⟨_, om, g + 1, rs3, by omega, hl3, hx3, qjp hR3 (by show (rs.getD g Rw.zero).l.length ≤ c; omega), rfl, I.sub kr, HM.pt 7 [0, 1, 2, 3, 4, 5, 6]⟩
 intro a I HM
 have hd10 := of_decide_eq_false hb10
 refine Jb I HM ((JF∘JX∘JG∘JP∘Jy (v := .agg #[vI cp, vQ cr, .slice gA ng gc, .slice lA nl lc, .slice uA nu uc, .slice tA nt tc, vS gsA ns sc]) (h:=by exact Yl.loadS rfl rfl si_st rfl (fun _ h => qa (h.blk (i := 1) rfl)))∘JV si_st O0') fun w10_1 => (Jt1∘Jj∘JZ) fun a I HM => ?_)
 exact ret1 rfl I (.cellS (i := 0) I HM rfl rfl si_st rfl) (qfl (y := (⟨cp, cr, gA, gc, gs, lA, lc, cl, uA, uc, cu, tA, tc, ts, some ⟨gsA, 0, none⟩, sc, rs2⟩ : Stm)) 2 HM rfl hx2.ln (qjq hR (by show rs.length ≤ g; omega)))
theorem qr2 {w : World} {x : Stm} {y : Rw} {k : Nat} {A : Option Addr} (hy : x.rs.getD k Rw.zero = y) (hk : k < x.rs.length) (hx : StRd w x) (e : y.A = A) : Rd w w.heap.size 3 A y.l.length (y.l.flatMap spL) := by
 subst e
 rw [← hy]
 exact hx.row hk
theorem qeh (x e : En) (hx : x.Ok) (fl cr : Nat) (hf : fl < 18446744073709551616) (hc : cr < 18446744073709551616) (he : x.woken fl cr = e) (w : World) :
  Calls Tryz.prog 115 #[.agg x.cells, vQ fl, vQ cr] w (Is w (.agg e.cells)) := he ▸ qoj x hx fl cr hf hc w
theorem Jin4 {P : Program} {W w : World} {fs : List Fact} {f : Nat} {fn : Func} {c : Code} {R : Ending → World → Prop} {u1 u2 u3 u4 : Value} (HM : Mem W w fs) (hf : P.funcs[f]? = some fn) (N : Nat) (hn : fn.ntmps = N := by exact rfl) (hb : fn.body = some c := by exact rfl) (hl : decide (4 ≤ N) = true := by kernel_rfl) (k : JJ W w N [] [(0, u1), (1, u2), (2, u3), (3, u4)] fs (Code.wp P c (bodyPost P fn R))) : Calls P f #[u1, u2, u3, u4] w R :=
 zg (vs := [u1, u2, u3, u4]) hf hb hn hl rfl fun a I => k a I HM
theorem qt1 (n cr : Nat) (gA : Option Addr) (gc : Nat) (gs : List Gr) (w : World) (hn : 1 ≤ n ∧ n ≤ 64) (hgl : 1 ≤ gs.length ∧ gs.length ≤ 256) (hr : Rd w w.heap.size 2 gA gs.length (gs.flatMap grL)) :
    Calls Tryz.prog 10 #[.agg #[vI n, vQ cr, .slice gA gs.length gc]] w (fun r w' => ∃ y : Stm, r = .returned (.agg y.cells) ∧ y.sta = newS (n : Int) cr gs ∧ Mem w w' (stF y)) := by
 refine (JN1 Tryz.func10 30) ?_
 refine (JP∘JE) fun w1 g1 => (JA #[vI 0, vQ 0, vN, vN, vN, vN, vN]) fun w2 g2 => (Jj) fun a I HM => ?_
 refine wp_seq ?_
 refine Jb I HM ((Vs .n [10]) fun wd1 => fun a I HM HS => ?_)
 refine qao (f := 1) (l := (bt 11 [10])) (fun aS wS => ∃ (g8 : Nat) (g11 : Nat) (y : Stm) (g3 : Nat), Fr aS 30 [] [(3, vP g3 0), (13, .agg y.cells), (2, vP g2 0), (1, vP g1 0), (0, .agg #[vI n, vQ cr, .slice gA gs.length gc])] ∧ Mem w wS (.blk g3 #[vI 0, vQ 0, vN, vN, vN, vN, vN] 45 :: .row (vS g11 n n) n ((madeCells #[vI 0] (n * 1)).toList) 3 1 :: .row (vS g8 n n) n ((madeCells #[vI 0] (n * 1)).toList) 3 1 :: .blk g2 #[vI 0, vQ 0, vN, vN, vN, vN, vN] 45 :: .blk g1 #[vI n, vQ cr, .slice gA gs.length gc] 33 :: stF y) ∧ (StaEq (new0 n cr gA gc gs g8 g11) y) ∧ (StCap y)) ?_ fun M1_0 => ?_
 ·
  clear I HM HS; rintro a wM ⟨g8, g11, y, g3, I, HM, heq, hcap⟩
  have HS := HM.pk (fs' := [.blk g2 #[vI 0, vQ 0, vN, vN, vN, vN, vN] 45, .blk g1 #[vI n, vQ cr, .slice gA gs.length gc] 33]) [3, 4]
  refine s_on I 10 rfl (e_sa I HM 0 rfl rfl rfl rfl rfl si_st rfl rfl (qz y) fun w1_10 HM => ?_)
  refine noS kr ?_
  refine qb kr ?_
  obtain ⟨_, _, gA2, gc2, _, lA2, lc2, _, uA2, uc2, _, tA2, tc2, _, sA2, sc2, _⟩ := y
  revert HM; revert a; repeat (first | clear I | clear HM)
  intro a I HM
  obtain ⟨rfl, rfl, rfl, rfl, rfl, rfl, rfl⟩ := qt0 heq rfl
  replace HM := HM.pt 5 [0, 3, 4]
  replace HM : Mem w _ (.blk g3 #[vI n, vQ cr, .slice gA2 gs.length gc2, .slice lA2 ((List.replicate n (0 : Int)).length) lc2, .slice uA2 ((List.replicate n (0 : Int)).length) uc2, .slice tA2 (([] : List Tk).length) tc2, .slice sA2 0 sc2] 45 :: .blk g2 #[vI 0, vQ 0, vN, vN, vN, vN, vN] 45 :: .blk g1 #[vI n, vQ cr, .slice gA gs.length gc] 33 :: .row (.slice gA2 gs.length gc2) gs.length (gs.flatMap grL) 50 2 :: .row (.slice lA2 ((List.replicate n (0 : Int)).length) lc2) ((List.replicate n (0 : Int)).length) ((List.replicate n (0 : Int)).map I64i) 3 1 :: .row (.slice uA2 ((List.replicate n (0 : Int)).length) uc2) ((List.replicate n (0 : Int)).length) ((List.replicate n (0 : Int)).map I64i) 3 1 :: .row (.slice tA2 (([] : List Tk).length) tc2) (([] : List Tk).length) (([] : List Tk).flatMap tkL) 81 8 :: .row (.slice sA2 0 sc2) 0 [] 63 1 :: rwF 83 []) := HM
  refine Jb I HM ((JQ∘JP∘Jp 1∘Jj∘JB) fun a I HM => ?_)
  refine qi (fun mS aS wS => ∃ (k : Nat) (z : List Rw) (As : Option Addr) (cs : Nat), (k ≤ gs.length) ∧ (z.length = k) ∧ (∀ q ∈ z, q.l = List.replicate n Sp.zero) ∧ (k ≤ cs) ∧ mS = gs.length - k ∧ Fr aS 30 [] [(4, vI k), (3, vP g3 0), (2, vP g2 0), (1, vP g1 0)] ∧ Mem w wS (.blk g3 #[vI n, vQ cr, .slice gA2 gs.length gc2, .slice lA2 ((List.replicate n (0 : Int)).length) lc2, .slice uA2 ((List.replicate n (0 : Int)).length) uc2, .slice tA2 (([] : List Tk).length) tc2, .slice As k cs] 45 :: .blk g2 #[vI 0, vQ 0, vN, vN, vN, vN, vN] 45 :: .blk g1 #[vI n, vQ cr, .slice gA gs.length gc] 33 :: .row (.slice gA2 gs.length gc2) gs.length (gs.flatMap grL) 50 2 :: .row (.slice lA2 ((List.replicate n (0 : Int)).length) lc2) ((List.replicate n (0 : Int)).length) ((List.replicate n (0 : Int)).map I64i) 3 1 :: .row (.slice uA2 ((List.replicate n (0 : Int)).length) uc2) ((List.replicate n (0 : Int)).length) ((List.replicate n (0 : Int)).map I64i) 3 1 :: .row (.slice tA2 (([] : List Tk).length) tc2) (([] : List Tk).length) (([] : List Tk).flatMap tkL) 81 8 :: .row (.slice As k cs) k (z.map Rw.val) 63 1 :: rwF 83 z)) (m := gs.length - 0) ⟨0, [], sA2, sc2, Nat.zero_le _, rfl, (fun q h => by cases h), Nat.zero_le _, rfl, I.sub kr, HM.pt 8 [0, 1, 2, 3, 4, 5, 6, 7]⟩ ?_
  clear I HM; rintro mS a w_ ⟨k, z, As, cs, hk, hzl, hz, hcs, rfl, I, HM⟩
  refine Jb I HM ((JQ∘JP∘Jp 1∘Jg 2 O2∘Jl∘Jp 1∘Jd3∘Jj) (Ju (fun hb18 => ?_) fun hb18 => ?_))
  ·
   intro a I HM
   have hd18 := of_decide_eq_true hb18
   refine Jb I HM ((JT∘JS'∘JQ∘JB∘Vs (.t (.t (.t (.t (.t (.t (.t (.f .n)))))))) [8]) fun wd5 => (Vf 0 6∘Vf 2 0∘Vc 1 O0∘Vc 3 O2) fun a I HM HS => ?_)
   refine s_on I 4 rfl ?_
   refine zm I HM (m := n) rfl ei_sp rfl rfl om om rfl de ?_
   clear I HM; intro a w25 g25 I HM
   refine keepS (HM.pt 9 [1, 2, 3, 4, 5, 6, 7]) (fun HS => ?_)
   refine s_on I 5 rfl (s_el I HM ei_rw [(0, vS g25 n n)] #[vS g25 n n] ?_)
   clear I HM; intro a w26 g26 I HM
   refine keepS (HM.pt 10 [2, 3, 4, 5, 6, 7, 8]) (fun HS => ?_)
   refine s_on I 6 rfl (ze I HM (i := 9) rfl ei_rw rfl rfl rfl (news := ([(⟨some ⟨g25, 0, none⟩, n, List.replicate n Sp.zero⟩ : Rw)].map Rw.val)) ((by have h := HM.rdBlk (i := 0) (n := 1) (size := 1) rfl rfl; show Rd _ _ _ _ _ [Value.slice _ (List.replicate n Sp.zero).length n]; rw [List.length_replicate]; exact h)) (qpq _) om om rfl de ?_)
   clear I HM; intro a w27 A27 c27 I HM hc27
   refine keepS (HM.pt 10 [2, 3, 4, 5, 6, 7, 8]) (fun HS => ?_)
   refine Vb I HM HS ((Vf 7 6) fun a I HM HS => ?_)
   refine s_on I 8 rfl (s_es I HM 2 fun w5_8 HM => ?_)
   refine noS kr ?_
   refine qb kr ?_
   replace HM := HM.asRow (i := 1) (ys := (List.replicate n Sp.zero).flatMap spL) rfl (qti _)
   replace HM := HM.asRow (i := 9) (ys := (z ++ [(⟨some ⟨g25, 0, none⟩, n, List.replicate n Sp.zero⟩ : Rw)]).map Rw.val) rfl (by rw [List.map_append])
   replace HM := HM.pt (fs' := (.row (vS g25 n n) n ((List.replicate n Sp.zero).flatMap spL) 83 3 :: .blk g3 #[vI n, vQ cr, .slice gA2 gs.length gc2, .slice lA2 ((List.replicate n (0 : Int)).length) lc2, .slice uA2 ((List.replicate n (0 : Int)).length) uc2, .slice tA2 (([] : List Tk).length) tc2, .slice A27 (k + 1) c27] 45 :: .blk g2 #[vI 0, vQ 0, vN, vN, vN, vN, vN] 45 :: .blk g1 #[vI n, vQ cr, .slice gA gs.length gc] 33 :: .row (.slice gA2 gs.length gc2) gs.length (gs.flatMap grL) 50 2 :: .row (.slice lA2 ((List.replicate n (0 : Int)).length) lc2) ((List.replicate n (0 : Int)).length) ((List.replicate n (0 : Int)).map I64i) 3 1 :: .row (.slice uA2 ((List.replicate n (0 : Int)).length) uc2) ((List.replicate n (0 : Int)).length) ((List.replicate n (0 : Int)).map I64i) 3 1 :: .row (.slice tA2 (([] : List Tk).length) tc2) (([] : List Tk).length) (([] : List Tk).flatMap tkL) 81 8 :: .row (.slice A27 (k + 1) c27) (k + 1) ((z ++ [(⟨some ⟨g25, 0, none⟩, n, List.replicate n Sp.zero⟩ : Rw)]).map Rw.val) 63 1 :: rwF 83 z)) 10 [1, 2, 3, 4, 5, 6, 7, 8, 9]
   replace HM := Mem.toRw (A := some ⟨g25, 0, none⟩) (c := n) (l := List.replicate n Sp.zero) (fs := [.blk g3 #[vI n, vQ cr, .slice gA2 gs.length gc2, .slice lA2 ((List.replicate n (0 : Int)).length) lc2, .slice uA2 ((List.replicate n (0 : Int)).length) uc2, .slice tA2 (([] : List Tk).length) tc2, .slice A27 (k + 1) c27] 45, .blk g2 #[vI 0, vQ 0, vN, vN, vN, vN, vN] 45, .blk g1 #[vI n, vQ cr, .slice gA gs.length gc] 33, .row (.slice gA2 gs.length gc2) gs.length (gs.flatMap grL) 50 2, .row (.slice lA2 ((List.replicate n (0 : Int)).length) lc2) ((List.replicate n (0 : Int)).length) ((List.replicate n (0 : Int)).map I64i) 3 1, .row (.slice uA2 ((List.replicate n (0 : Int)).length) uc2) ((List.replicate n (0 : Int)).length) ((List.replicate n (0 : Int)).map I64i) 3 1, .row (.slice tA2 (([] : List Tk).length) tc2) (([] : List Tk).length) (([] : List Tk).flatMap tkL) 81 8, .row (.slice A27 (k + 1) c27) (k + 1) ((z ++ [(⟨some ⟨g25, 0, none⟩, n, List.replicate n Sp.zero⟩ : Rw)]).map Rw.val) 63 1]) (by rw [List.length_replicate]; exact HM)
   replace HM : Mem w _ (.blk g3 #[vI n, vQ cr, .slice gA2 gs.length gc2, .slice lA2 ((List.replicate n (0 : Int)).length) lc2, .slice uA2 ((List.replicate n (0 : Int)).length) uc2, .slice tA2 (([] : List Tk).length) tc2, .slice A27 (k + 1) c27] 45 :: .blk g2 #[vI 0, vQ 0, vN, vN, vN, vN, vN] 45 :: .blk g1 #[vI n, vQ cr, .slice gA gs.length gc] 33 :: .row (.slice gA2 gs.length gc2) gs.length (gs.flatMap grL) 50 2 :: .row (.slice lA2 ((List.replicate n (0 : Int)).length) lc2) ((List.replicate n (0 : Int)).length) ((List.replicate n (0 : Int)).map I64i) 3 1 :: .row (.slice uA2 ((List.replicate n (0 : Int)).length) uc2) ((List.replicate n (0 : Int)).length) ((List.replicate n (0 : Int)).map I64i) 3 1 :: .row (.slice tA2 (([] : List Tk).length) tc2) (([] : List Tk).length) (([] : List Tk).flatMap tkL) 81 8 :: .row (.slice A27 (k + 1) c27) (k + 1) ((z ++ [(⟨some ⟨g25, 0, none⟩, n, List.replicate n Sp.zero⟩ : Rw)]).map Rw.val) 63 1 :: rwF 83 (z ++ [(⟨some ⟨g25, 0, none⟩, n, List.replicate n Sp.zero⟩ : Rw)])) := HM
   refine Jb I HM ((JG∘JR∘Jp 1∘JaK 1∘Jp 1∘Jd6∘Jq) fun a I HM => ?_)
   exact ⟨_, om, k + 1, (z ++ [(⟨some ⟨g25, 0, none⟩, n, List.replicate n Sp.zero⟩ : Rw)]), A27, c27, by omega, by rw [List.length_append, hzl]; rfl, fun q h => (List.mem_append.1 h).elim (hz q) (fun h => by rw [List.mem_singleton] at h; subst h; rfl), hc27, rfl, I.sub kr, HM.pt 8 [0, 1, 2, 3, 4, 5, 6, 7]⟩
  intro a I HM
  have hd18 := of_decide_eq_false hb18
  revert HM; revert a; repeat (first | clear I | clear HM)
  intro a I HM
  subst hzl
  have hkg : z.length = gs.length := by omega
  refine Jb I HM ((JF∘JX∘JG∘JP∘Jy (v := .agg #[vI n, vQ cr, .slice gA2 gs.length gc2, .slice lA2 ((List.replicate n (0 : Int)).length) lc2, .slice uA2 ((List.replicate n (0 : Int)).length) uc2, .slice tA2 (([] : List Tk).length) tc2, .slice As z.length cs]) (h:=by exact Yl.loadS rfl rfl si_st rfl (fun _ h => qa (h.blk (i := 0) rfl)))∘JV si_st O1') fun w6_1 => (Jt1∘Jj∘JZ) fun a I HM => ?_)
  exact ret1 rfl I (.cellS (i := 1) I HM rfl rfl si_st rfl) (⟨⟨(n : Int), cr, gA2, gc2, gs, lA2, lc2, (List.replicate n (0 : Int)), uA2, uc2, (List.replicate n (0 : Int)), tA2, tc2, [], As, cs, z⟩, rfl, qtz hkg hz, HM.pt 8 [3, 4, 5, 6, 7]⟩)
 refine qao (f := 3) (l := (bt 11 [7, 8, 10])) (fun aS wS => ∃ (g8 : Nat) (g3 : Nat) (g11 : Nat), Fr aS 30 [] [(11, vS g11 n n), (3, vP g3 0), (8, vS g8 n n), (5, .agg #[vI n, vQ cr, .slice gA gs.length gc]), (2, vP g2 0), (1, vP g1 0), (0, .agg #[vI n, vQ cr, .slice gA gs.length gc])] ∧ Mem w wS [.row (vS g11 n n) n ((madeCells #[vI 0] (n * 1)).toList) 3 1, .blk g3 #[vI 0, vQ 0, vN, vN, vN, vN, vN] 45, .row (vS g8 n n) n ((madeCells #[vI 0] (n * 1)).toList) 3 1, .blk g2 #[vI 0, vQ 0, vN, vN, vN, vN, vN] 45, .blk g1 #[vI n, vQ cr, .slice gA gs.length gc] 33]) ?_ fun M1_1 => ?_
 ·
  clear I HM HS; rintro a wM ⟨g8, g3, g11, I, HM⟩
  have HS := HM.pk (fs' := [.blk g2 #[vI 0, vQ 0, vN, vN, vN, vN, vN] 45, .blk g1 #[vI n, vQ cr, .slice gA gs.length gc] 33]) [3, 4]
  refine Vb I HM HS ((Vy 7 (v := .agg #[vI n, vQ cr, .slice gA gs.length gc, vS g8 n n, vS g11 n n, vN, vN]) (h:=by exact Yl.build (vs := [(0, .agg #[vI n, vQ cr, .slice gA gs.length gc]), (1, vS g8 n n), (2, vS g11 n n)]) rfl kr kr)∘Vo (.agg ((new0 n cr gA gc gs g8 g11).cells)) (by unfold new0 Stm.cells; dsimp only; rw [List.length_replicate]; try rfl)) fun a I HM HS => ?_)
  refine s_on I 8 rfl ?_
  refine e_cl I [.agg ((new0 n cr gA gc gs g8 g11).cells)] rfl rfl (qbd (new0 n cr gA gc gs g8 g11) _ (qlp HM hr (i := 2) (j := 0) rfl rfl) (qix hn.2 hgl.2)) ?_
  rintro _ w13 ⟨y, rfl, heq, hcap, hm⟩
  refine ⟨_, rfl, ?_⟩
  replace HM := (show Mem w _ (.row (vS g11 n n) n ((madeCells #[vI 0] (n * 1)).toList) 3 1 :: .blk g3 #[vI 0, vQ 0, vN, vN, vN, vN, vN] 45 :: .row (vS g8 n n) n ((madeCells #[vI 0] (n * 1)).toList) 3 1 :: .blk g2 #[vI 0, vQ 0, vN, vN, vN, vN, vN] 45 :: .blk g1 #[vI n, vQ cr, .slice gA gs.length gc] 33 :: stF y) from HM.joinT hm)
  clear I; intro a I
  refine keepS (HM.pk [3, 4]) (fun HS => ?_)
  exact M1_0 _ _ ⟨g8, g11, y, g3, I.sub kr, HM.pt 5 [1, 0, 2, 3, 4], heq, hcap⟩
 refine qao (f := 4) (l := (bt 11 [7, 8, 9, 10])) (fun aS wS => ∃ (g8 : Nat) (g11 : Nat), Fr aS 30 [] [(11, vS g11 n n), (8, vS g8 n n), (5, .agg #[vI n, vQ cr, .slice gA gs.length gc]), (2, vP g2 0), (1, vP g1 0), (0, .agg #[vI n, vQ cr, .slice gA gs.length gc])] ∧ Mem w wS [.row (vS g11 n n) n ((madeCells #[vI 0] (n * 1)).toList) 3 1, .row (vS g8 n n) n ((madeCells #[vI 0] (n * 1)).toList) 3 1, .blk g2 #[vI 0, vQ 0, vN, vN, vN, vN, vN] 45, .blk g1 #[vI n, vQ cr, .slice gA gs.length gc] 33]) ?_ fun M1_2 => ?_
 ·
  clear I HM HS; rintro a wM ⟨g8, g11, I, HM⟩
  have HS := HM.pk (fs' := [.blk g2 #[vI 0, vQ 0, vN, vN, vN, vN, vN] 45, .blk g1 #[vI n, vQ cr, .slice gA gs.length gc] 33]) [2, 3]
  refine Vb I HM HS ((Vy 7 (v := .agg #[vI n, vQ cr, .slice gA gs.length gc, vS g8 n n, vS g11 n n, vN, vN]) (h:=by exact Yl.build (vs := [(0, .agg #[vI n, vQ cr, .slice gA gs.length gc]), (1, vS g8 n n), (2, vS g11 n n)]) rfl kr kr)∘Vo (.agg ((new0 n cr gA gc gs g8 g11).cells)) (by unfold new0 Stm.cells; dsimp only; rw [List.length_replicate]; try rfl)) fun a I HM HS => ?_)
  refine qu [8, 9] kr rfl ?_
  refine all_cons ?_ ?_
  ·refine qk I (i := 8) rfl rfl ?_
   refine e_cl I [.agg ((new0 n cr gA gc gs g8 g11).cells)] rfl rfl (qbd (new0 n cr gA gc gs g8 g11) _ (qlp HM hr (i := 1) (j := 0) rfl rfl) (qix hn.2 hgl.2)) ?_
   rintro _ w13 ⟨y, rfl, heq, hcap, hm⟩
   refine ⟨_, rfl, ?_⟩
   replace HM := (show Mem w _ (.row (vS g11 n n) n ((madeCells #[vI 0] (n * 1)).toList) 3 1 :: .row (vS g8 n n) n ((madeCells #[vI 0] (n * 1)).toList) 3 1 :: .blk g2 #[vI 0, vQ 0, vN, vN, vN, vN, vN] 45 :: .blk g1 #[vI n, vQ cr, .slice gA gs.length gc] 33 :: stF y) from HM.joinT hm)
   clear I; intro a I
   refine keepS (HM.pk [2, 3]) (fun HS => ?_)
   refine s_on I 9 rfl (s_ea I HM #[vI 0, vQ 0, vN, vN, vN, vN, vN] ?_)
   clear I HM; intro a w3 g3 I HM
   refine keepS (HM.pk [3, 4]) (fun HS => ?_)
   exact M1_0 _ _ ⟨g8, g11, y, g3, I.sub kr, HM.pt 5 [0, 1, 2, 3, 4], heq, hcap⟩
  refine all_cons ?_ all_nil
  refine qk I (i := 9) rfl rfl ?_
  refine s_ea I HM #[vI 0, vQ 0, vN, vN, vN, vN, vN] ?_
  clear I HM; intro a w3 g3 I HM
  refine keepS (HM.pk [3, 4]) (fun HS => ?_)
  refine s_on I 8 rfl ?_
  refine e_cl I [.agg ((new0 n cr gA gc gs g8 g11).cells)] rfl rfl (qbd (new0 n cr gA gc gs g8 g11) _ (qlp HM hr (i := 2) (j := 1) rfl rfl) (qix hn.2 hgl.2)) ?_
  rintro _ w13 ⟨y, rfl, heq, hcap, hm⟩
  refine ⟨_, rfl, ?_⟩
  replace HM := (show Mem w _ (.blk g3 #[vI 0, vQ 0, vN, vN, vN, vN, vN] 45 :: .row (vS g11 n n) n ((madeCells #[vI 0] (n * 1)).toList) 3 1 :: .row (vS g8 n n) n ((madeCells #[vI 0] (n * 1)).toList) 3 1 :: .blk g2 #[vI 0, vQ 0, vN, vN, vN, vN, vN] 45 :: .blk g1 #[vI n, vQ cr, .slice gA gs.length gc] 33 :: stF y) from HM.joinT hm)
  clear I; intro a I
  refine keepS (HM.pk [3, 4]) (fun HS => ?_)
  exact M1_0 _ _ ⟨g8, g11, y, g3, I.sub kr, HM.pt 5 [0, 1, 2, 3, 4], heq, hcap⟩
 refine qao (f := 4) (l := (bt 11 [6, 7, 8, 10])) (fun aS wS => ∃ (g8 : Nat) (g3 : Nat), Fr aS 30 [] [(3, vP g3 0), (8, vS g8 n n), (10, vI n), (5, .agg #[vI n, vQ cr, .slice gA gs.length gc]), (2, vP g2 0), (1, vP g1 0), (0, .agg #[vI n, vQ cr, .slice gA gs.length gc])] ∧ Mem w wS [.blk g3 #[vI 0, vQ 0, vN, vN, vN, vN, vN] 45, .row (vS g8 n n) n ((madeCells #[vI 0] (n * 1)).toList) 3 1, .blk g2 #[vI 0, vQ 0, vN, vN, vN, vN, vN] 45, .blk g1 #[vI n, vQ cr, .slice gA gs.length gc] 33]) ?_ fun M1_3 => ?_
 ·
  clear I HM HS; rintro a wM ⟨g8, g3, I, HM⟩
  have HS := HM.pk (fs' := [.blk g2 #[vI 0, vQ 0, vN, vN, vN, vN, vN] 45, .blk g1 #[vI n, vQ cr, .slice gA gs.length gc] 33]) [2, 3]
  refine s_on I 6 rfl ?_
  refine zm I HM (m := n) rfl zd rfl rfl om om rfl de ?_
  clear I HM; intro a w11 g11 I HM
  refine keepS (HM.pk [3, 4]) (fun HS => ?_)
  exact M1_1 _ _ ⟨g8, g3, g11, I.sub kr, HM.pk [0, 1, 2, 3, 4]⟩
 refine qao (f := 4) (l := (bt 11 [3, 7, 8, 10])) (fun aS wS => ∃ (g11 : Nat) (g3 : Nat), Fr aS 30 [] [(3, vP g3 0), (11, vS g11 n n), (7, vI n), (5, .agg #[vI n, vQ cr, .slice gA gs.length gc]), (2, vP g2 0), (1, vP g1 0), (0, .agg #[vI n, vQ cr, .slice gA gs.length gc])] ∧ Mem w wS [.blk g3 #[vI 0, vQ 0, vN, vN, vN, vN, vN] 45, .row (vS g11 n n) n ((madeCells #[vI 0] (n * 1)).toList) 3 1, .blk g2 #[vI 0, vQ 0, vN, vN, vN, vN, vN] 45, .blk g1 #[vI n, vQ cr, .slice gA gs.length gc] 33]) ?_ fun M1_4 => ?_
 ·
  clear I HM HS; rintro a wM ⟨g11, g3, I, HM⟩
  have HS := HM.pk (fs' := [.blk g2 #[vI 0, vQ 0, vN, vN, vN, vN, vN] 45, .blk g1 #[vI n, vQ cr, .slice gA gs.length gc] 33]) [2, 3]
  refine s_on I 3 rfl ?_
  refine zm I HM (m := n) rfl zd rfl rfl om om rfl de ?_
  clear I HM; intro a w8 g8 I HM
  refine keepS (HM.pk [3, 4]) (fun HS => ?_)
  exact M1_1 _ _ ⟨g8, g3, g11, I.sub kr, HM.pk [2, 1, 0, 3, 4]⟩
 refine Vb I HM HS ((Vf 1 0∘Vf 4 0∘Vy 0 (v := .agg #[vI n, vQ cr, .slice gA gs.length gc]) (h:=by exact Yl.loadS rfl rfl qbj rfl (fun _ h => qa (h.blk (i := 1) rfl)))∘Vc 2 O1∘Vc 5 O1) fun a I HM HS => ?_)
 refine qu [3, 6, 9] kr rfl ?_
 refine all_cons ?_ ?_
 ·refine qk I (i := 3) rfl rfl ?_
  refine zm I HM (m := n) rfl zd rfl rfl om om rfl de ?_
  clear I HM; intro a w8 g8 I HM
  refine keepS (HM.pk [1, 2]) (fun HS => ?_)
  refine qu [6, 9] kr rfl ?_
  refine all_cons ?_ ?_
  ·refine qk I (i := 6) rfl rfl ?_
   refine zm I HM (m := n) rfl zd rfl rfl om om rfl de ?_
   clear I HM; intro a w11 g11 I HM
   refine keepS (HM.pk [2, 3]) (fun HS => ?_)
   exact M1_2 _ _ ⟨g8, g11, I.sub kr, HM.pk [0, 1, 2, 3]⟩
  refine all_cons ?_ all_nil
  refine qk I (i := 9) rfl rfl ?_
  refine s_ea I HM #[vI 0, vQ 0, vN, vN, vN, vN, vN] ?_
  clear I HM; intro a w3 g3 I HM
  refine keepS (HM.pk [2, 3]) (fun HS => ?_)
  exact M1_3 _ _ ⟨g8, g3, I.sub kr, HM.pk [0, 1, 2, 3]⟩
 refine all_cons ?_ ?_
 ·refine qk I (i := 6) rfl rfl ?_
  refine zm I HM (m := n) rfl zd rfl rfl om om rfl de ?_
  clear I HM; intro a w11 g11 I HM
  refine keepS (HM.pk [1, 2]) (fun HS => ?_)
  refine qu [3, 9] kr rfl ?_
  refine all_cons ?_ ?_
  ·refine qk I (i := 3) rfl rfl ?_
   refine zm I HM (m := n) rfl zd rfl rfl om om rfl de ?_
   clear I HM; intro a w8 g8 I HM
   refine keepS (HM.pk [2, 3]) (fun HS => ?_)
   exact M1_2 _ _ ⟨g8, g11, I.sub kr, HM.pk [1, 0, 2, 3]⟩
  refine all_cons ?_ all_nil
  refine qk I (i := 9) rfl rfl ?_
  refine s_ea I HM #[vI 0, vQ 0, vN, vN, vN, vN, vN] ?_
  clear I HM; intro a w3 g3 I HM
  refine keepS (HM.pk [2, 3]) (fun HS => ?_)
  exact M1_4 _ _ ⟨g11, g3, I.sub kr, HM.pk [0, 1, 2, 3]⟩
 refine all_cons ?_ all_nil
 refine qk I (i := 9) rfl rfl ?_
 refine s_ea I HM #[vI 0, vQ 0, vN, vN, vN, vN, vN] ?_
 clear I HM; intro a w3 g3 I HM
 refine keepS (HM.pk [1, 2]) (fun HS => ?_)
 refine qu [3, 6] kr rfl ?_
 refine all_cons ?_ ?_
 ·refine qk I (i := 3) rfl rfl ?_
  refine zm I HM (m := n) rfl zd rfl rfl om om rfl de ?_
  clear I HM; intro a w8 g8 I HM
  refine keepS (HM.pk [2, 3]) (fun HS => ?_)
  exact M1_3 _ _ ⟨g8, g3, I.sub kr, HM.pk [1, 0, 2, 3]⟩
 refine all_cons ?_ all_nil
 refine qk I (i := 6) rfl rfl ?_
 refine zm I HM (m := n) rfl zd rfl rfl om om rfl de ?_
 clear I HM; intro a w11 g11 I HM
 refine keepS (HM.pk [2, 3]) (fun HS => ?_)
 exact M1_4 _ _ ⟨g11, g3, I.sub kr, HM.pk [1, 0, 2, 3]⟩
theorem qr3 (W w : World) (x z : Stm) (g0 c : Nat) (ng nl nu nt ns : Nat) (hln : Lns x ng nl nu nt ns) (hz : Shp z.sta) (hgz : x.gs = z.gs) (hcz : x.cpus = z.cpus) (hrg2 : x.rs.length = x.gs.length) (hfl : Floors z.sta x.rs) (hsp : SpsOk x.gs x.cpus x.rs) (hcr : x.credit < 18446744073709551616) (hc : (c : Int) < x.cpus) (hg : g0 < ns) (T : List Fact) (HM : Mem W w (sdA x ng nl nu nt ns ++ (stF z ++ T))) :
    Calls Tryz.prog 113 #[.agg (sdC x ng nl nu nt ns), .agg z.cells, vI g0, vI c] w (StOut W (stF z ++ T) (wakeS x.sta (q5 z.sta g0 c) c)) := by
 obtain ⟨cp, cr, gA, gc, gs, lA, lc, cl, uA, uc, cu, tA, tc, ts, sA, sc, rs⟩ := x
 replace HM : Mem W w (fG gA ng gc gs :: fI lA nl lc cl :: fI uA nu uc cu :: fT tA nt tc ts :: fS sA ns sc rs :: (fR rs ++ (stF z ++ (T)))) := HM
 obtain ⟨hlg, hll, hlu, hlt, hls⟩ := hln
 replace hlg : gs.length = ng := hlg; replace hll : cl.length = nl := hll; replace hlu : cu.length = nu := hlu; replace hlt : ts.length = nt := hlt; replace hls : rs.length = ns := hls
 replace hgz : gs = z.gs := hgz; replace hcz : cp = z.cpus := hcz; replace hfl : Floors z.sta rs := hfl; replace hsp : SpsOk gs cp rs := hsp; replace hcr : cr < 18446744073709551616 := hcr
 have hzg := hz.gs; have hzs := hz.sp; have hzo := qal hz; have hzf := hzo.few; have hzfs := hzf.s
 have hgs : gsOk gs = true := by rw [hgz]; exact hzg
 have hgl1 := (qh hgs).1; have hgl2 := (qh hgs).2.1
 have hrg : z.rs.length = gs.length := by rw [← zl, hzs, hgz]; rfl
 replace hrg2 : rs.length = gs.length := hrg2
 have hcp2 := hz.cpus; replace hcp2 : 1 ≤ z.cpus ∧ z.cpus ≤ 64 := hcp2
 replace hc : (c : Int) < cp := hc
 obtain ⟨ggA, rfl⟩ := qe (HM.own (i := 0) rfl) om
 obtain ⟨gsA, rfl⟩ := qe (HM.own (i := 4) rfl) om
 show Calls Tryz.prog 113 #[.agg #[vI cp, vQ cr, vS ggA ng gc, .slice lA nl lc, .slice uA nu uc, .slice tA nt tc, vS gsA ns sc], .agg z.cells, vI g0, vI c] w _
 refine (Jin4 HM Tryz.func113 84) ?_
 refine (JP∘JE) fun w4 g4 => (JE) fun w5 g5 => (JA #[vI 0, vQ 0, vN, vN, vN, vN, vN]) fun w8 g8 => (Jj∘JQ∘JB) fun a I HM => ?_
 refine qi (fun mS aS wS => ∃ (g : Nat) (rs2 : List Rw), (g < ns) ∧ (rs2.length = ns) ∧ (SpsOk gs cp rs2) ∧ (Floors z.sta rs2) ∧ (wakeS (⟨cp, cr, some ⟨ggA, 0, none⟩, gc, gs, lA, lc, cl, uA, uc, cu, tA, tc, ts, some ⟨gsA, 0, none⟩, sc, rs2⟩ : Stm).sta (q5 z.sta g c) c = wakeS (⟨cp, cr, some ⟨ggA, 0, none⟩, gc, gs, lA, lc, cl, uA, uc, cu, tA, tc, ts, some ⟨gsA, 0, none⟩, sc, rs⟩ : Stm).sta (q5 z.sta g0 c) c) ∧ mS = 0 + g ∧ Fr aS 84 [] [(8, vP g8 0), (5, vP g5 0), (4, vP g4 0), (2, vI g), (3, vI c)] ∧ Mem W wS (.blk g8 #[vI 0, vQ 0, vN, vN, vN, vN, vN] 45 :: .blk g5 z.cells 45 :: .blk g4 #[vI cp, vQ cr, vS ggA ng gc, .slice lA nl lc, .slice uA nu uc, .slice tA nt tc, vS gsA ns sc] 45 :: fG (some ⟨ggA, 0, none⟩) ng gc gs :: fI lA nl lc cl :: fI uA nu uc cu :: fT tA nt tc ts :: fS (some ⟨gsA, 0, none⟩) ns sc rs2 :: (fR rs2 ++ (stF z ++ (T))))) (m := 0 + g0) ⟨g0, rs, hg, hls, hsp, hfl, rfl, rfl, I.sub kr, HM.pt 8 [0, 1, 2, 3, 4, 5, 6, 7]⟩ ?_
 clear I HM; rintro mS a w_ ⟨g, rs2, hg, hl2, hsp2, hfl2, hst2, rfl, I, HM⟩
 refine Jb I HM ((JQ∘JP∘Jp 3) (Ju (fun hb14 => ?_) fun hb14 => ?_))
 ·
  intro a I HM
  have hd14 := of_decide_eq_true hb14
  have hg0 : 0 < g := by omega
  obtain ⟨mm, hmm⟩ : ∃ q, memS z.sta g c = q := ⟨_, rfl⟩
  refine Jb I HM ((Jy (v := .agg z.cells) (h:=by exact Yl.loadS rfl rfl si_st rfl (fun _ h => qa (h.blk (i := 1) rfl)))∘Jp 2∘JK (h:=by exact fun HM => qiw (x := z) hzo (HM.st2 8 rfl) (by show (c : Int) < z.cpus; omega) om hmm)) fun A18 c18 w18 hc18 => (Jl∘Jp 2∘Jd6∘Jj) (Ju (fun hb21 => ?_) fun hb21 => ?_))
  ·
   intro a I HM
   have hd21 := eq_of_beq hb21
   have hme : memS z.sta g c = [] := by rw [hmm]; exact List.length_eq_zero_iff.1 om
   have hpall : ∀ i, 0 < i → i ≤ g → ParB gs i := zy hgs om
   have hpb := hpall g hg0 (Nat.le_refl _)
   unfold ParB at hpb
   obtain ⟨p, hpp⟩ : ∃ p : Nat, (gs.getD g Gr.zero).parent = (p : Int) := ⟨(gs.getD g Gr.zero).parent.toNat, by omega⟩
   have hpg : p < g := by omega
   have hpn : p < z.rs.length := by omega
   have hes := qdj (s := z.sta) (c := c) (by show ∀ i, 0 < i → i ≤ g → ParB z.gs i; rw [← hgz]; exact hpall) hg0 hme
   rw [show z.sta.gs = gs from hgz.symm, hpp, Int.toNat_natCast] at hes
   obtain ⟨⟨yA, yc, yl⟩, hy⟩ : ∃ y, rs2.getD g Rw.zero = y := ⟨_, rfl⟩
   have hys := hsp2 g om; rw [hy] at hys
   have hyl : (yl.length : Int) = cp := hys.1
   revert HM; revert a; repeat (first | clear I | clear HM)
   intro a I HM
   obtain ⟨gy, rfl⟩ := HM.rwSome 9 rfl om hy om
   obtain ⟨yz, hyz⟩ : ∃ z, yl[c]? = some z := ⟨_, List.getElem?_eq_getElem om⟩
   have hyo := hys.2 yz (List.mem_of_getElem? hyz)
   have hyv := hyo.1.v; have hyr := hyo.1.r; have hyf := hyo.1.floor
   obtain ⟨⟨pA, pc, pl⟩, hp⟩ : ∃ y, rs2.getD p Rw.zero = y := ⟨_, rfl⟩
   have hps := hsp2 p om; rw [hp] at hps
   have hpl : (pl.length : Int) = cp := hps.1
   revert HM; revert a; repeat (first | clear I | clear HM)
   intro a I HM
   obtain ⟨gp, rfl⟩ := HM.rwSome 9 rfl om hp om
   obtain ⟨pz, hpz⟩ : ∃ z, pl[c]? = some z := ⟨_, List.getElem?_eq_getElem om⟩
   have hpo := hps.2 pz (List.mem_of_getElem? hpz)
   have hpv := hpo.1.v; have hpr := hpo.1.r; have hpf := hpo.1.floor
   obtain ⟨zp, hzp⟩ : ∃ q, z.rs.getD p Rw.zero = q := ⟨_, rfl⟩
   have hzpl : (zp.l.length : Int) = cp := by have h := hz.rows p (by rw [zl]; exact hpn); rw [← hzp, hcz, ← rs_at hpn]; exact h
   obtain ⟨gzs, ozs, hgzs, _⟩ := ((HM.st2 9 rfl).s).qt (show 0 < z.rs.length by omega) de
   obtain ⟨gzp, ozp, hgzp, _⟩ := ((qr2 hzp hpn (HM.st2 9 rfl) rfl)).qt (show 0 < zp.l.length by omega) de
   obtain ⟨pf, hpf0⟩ : ∃ q, (zp.l.getD c Sp.zero).floor = q := ⟨_, rfl⟩
   have hpz2 : pz.floor = pf := by have h := hfl2 p c; rw [hp, qff, hzp, hpf0] at h; exact (congrArg Sp.floor (qx Sp.zero hpz).symm).trans h
   have hpf : pf < 18446744073709551616 := by rw [← hpz2]; exact hpo.1.floor
   obtain ⟨wt, hwt, hwt1, hwt2⟩ := qbt hgs (g := g) om
   have hEo : (⟨yz.v, yz.r, wt⟩ : En).Ok := ⟨by have := hyo.2; rw [hwt] at this; exact this, hyo.1.v⟩
   obtain ⟨e, hew⟩ : ∃ e, (⟨yz.v, yz.r, wt⟩ : En).woken pf cr = e := ⟨_, rfl⟩
   have heo : e.Ok ∧ e.w = wt := by rw [← hew]; exact En.qc8 hEo _ _ hpf
   have hev := heo.1.2; have her : e.r < 4294967296 := by have := qbu heo.1.1; omega
   refine Jb I HM ((JT∘JS'∘JB∘JP∘Jf 0∘Jg 2 O3∘Jp 1∘Jy (h:=by exact Yl.ix0 ggA g 2 rfl rfl rfl)∘Jf 0∘Jy (v := vI ((gs.getD g Gr.zero).parent)) (h:=by exact Yl.qo rfl rfl kr (fun _ h => (by have := h.qq za (i := 4) rfl (k := g) (off := 0) (x := (gs.getD g Gr.zero)) ((getD_at Gr.zero om)) rfl; simpa using this)))∘Jo (vI p) (by rw [hpp])∘Jp 1∘Jd6∘Jr∘Jg 6 O3∘Jp 1∘Jy (h:=by exact Yl.ix0 gsA g 1 rfl rfl rfl)∘Jy (v := .slice ((rs2.getD g Rw.zero).A) ((rs2.getD g Rw.zero).l.length) ((rs2.getD g Rw.zero).c)) (h:=by exact Yl.r1 8 g Rw.zero om rfl rfl rfl)∘Jo (vS gy yl.length yc) (by rw [hy])∘Jp 1∘Jy (h:=by exact Yl.ix0 gy c 3 rfl rfl rfl)∘Jy (v := .agg yz.cells) (h:=by exact Yl.loadS rfl rfl si_sp rfl (fun _ h => by have h2 := (h.rwRd 9 rfl om hy).q4 qax hyz; rw [Nat.zero_add] at h2; exact h2))∘JA #[vQ 0, vW 0, vQ 0]) fun w10 g10 => (JV si_sp O0' (h1:=by exact qug yz)) fun w3_9 => (Jd6∘Jj) fun a I HM => ?_)
   refine qy (fun aS wS => ∃ (g11 : Nat), Fr aS 84 [] [(11, vP g11 0), (10, vP g10 0), (9, vI p), (21, .bool true), (8, vP g8 0), (5, vP g5 0), (4, vP g4 0), (2, vI g), (3, vI c)] ∧ Mem W wS (.blk g11 e.cells 143 :: .blk g10 yz.cells 83 :: .row (.slice A18 mm.length c18) mm.length (mm.flatMap mbrL) 102 3 :: .blk g8 #[vI 0, vQ 0, vN, vN, vN, vN, vN] 45 :: .blk g5 z.cells 45 :: .blk g4 #[vI cp, vQ cr, vS ggA ng gc, .slice lA nl lc, .slice uA nu uc, .slice tA nt tc, vS gsA ns sc] 45 :: fG (some ⟨ggA, 0, none⟩) ng gc gs :: fI lA nl lc cl :: fI uA nu uc cu :: fT tA nt tc ts :: fS (some ⟨gsA, 0, none⟩) ns sc rs2 :: (fR rs2 ++ (stF z ++ (T))))) ?_ ?_
   ·
    refine Jb I HM ((Vs .n [26]) fun wd4 => (Vf 0 0∘Vf 2 1∘Vf 4 0∘Vf 5 2∘Vp [7]∘Vf 12 6∘Vp [14, 17]∘Vf 21 0∘Vf 22 1∘Vc 1 O0∘Vc 3 O0∘Vc 6 O4∘Vy 8 (h:=by exact Yl.ix0 ggA g 2 rfl rfl rfl)∘Vf 9 1∘Vy 10 (v := vI ((gs.getD g Gr.zero).weight)) (h:=by exact Yl.qo rfl rfl kr (fun _ h => h.qq za (i := 5) rfl (k := g) (off := 1) (x := (gs.getD g Gr.zero)) ((getD_at Gr.zero om)) rfl))∘Vo (vI wt) (by rw [hwt])∘Vc 13 O3∘Vo (.slice (some ⟨gzs, ozs, none⟩) z.rs.length z.sc) (by rw [hgzs])∘Vy 15 (h:=by exact Yl.ix gzs ozs p 1 rfl rfl rfl)∘Vy 16 (v := .slice ((z.rs.getD p Rw.zero).A) ((z.rs.getD p Rw.zero).l.length) ((z.rs.getD p Rw.zero).c)) (h:=by exact Yl.qo rfl rfl kr (fun _ h => ((Mem.st2 10 h rfl).s.to hgzs).qsb (k := p) (qdc (F := Rw.val) (k := p) (x := (z.rs.getD p Rw.zero)) ((getD_at Rw.zero om)))))∘Vo (.slice (some ⟨gzp, ozp, none⟩) zp.l.length zp.c) (by rw [hzp, hgzp])∘Vy 18 (h:=by exact Yl.ix gzp ozp c 3 rfl rfl rfl)∘Vf 19 2∘Vy 20 (v := vQ ((zp.l.getD c Sp.zero).floor)) (h:=by exact Yl.qo rfl rfl kr (fun _ h => (qr2 hzp hpn (Mem.st2 10 h rfl) hgzp).partAt qax (k := c) (j := 2) (x := (zp.l.getD c Sp.zero)) ((getD_at Sp.zero om)) rfl))∘Vo (vQ pf) (by rw [hpf0])∘Vc 23 O4) fun a I HM HS => ?_)
    refine qu [11, 25] kr rfl ?_
    refine all_cons ?_ ?_
    ·refine qk I (i := 11) rfl rfl ?_
     refine e_is I HM [vQ yz.v, vW yz.r, vI wt] (.agg #[vQ yz.v, vW yz.r, vW wt]) rfl rfl (zo yz.v yz.r (wt : Int) om _) fun w48 hbw HM a I => ?_
     refine keepS (HM.pt 10 [0, 1, 2, 3, 4, 5, 6, 7, 8, 9]) (fun HS => ?_)
     refine qu [24, 25] kr rfl ?_
     refine all_cons ?_ ?_
     ·refine qk I (i := 24) rfl rfl ?_
      refine e_is I HM [.agg #[vQ yz.v, vW yz.r, vW wt], vQ pf, vQ cr] (.agg e.cells) rfl rfl (qeh (⟨yz.v, yz.r, wt⟩ : En) e hEo pf cr hpf hcr hew _) fun w61 hbw HM a I => ?_
      refine keepS (HM.pt 10 [0, 1, 2, 3, 4, 5, 6, 7, 8, 9]) (fun HS => ?_)
      refine Vb I HM HS ((VA 25 .n #[vQ 0, vW 0, vW 0]) fun w11 g11 => fun a I HM HS => ?_)
      refine s_on I 26 rfl (e_sa I HM 0 rfl rfl rfl rfl rfl qn rfl rfl (qw e) fun w4_26 HM => ?_)
      refine noS kr ?_
      refine qb kr ?_
      exact ⟨g11, I.sub kr, HM.pt 11 [0, 1, 2, 3, 4, 5, 6, 7, 8, 9, 10]⟩
     refine all_cons ?_ all_nil
     refine qk I (i := 25) rfl rfl ?_
     refine s_ea I HM #[vQ 0, vW 0, vW 0] ?_
     clear I HM; intro a w11 g11 I HM
     refine keepS (HM.pt 11 [1, 2, 3, 4, 5, 6, 7, 8, 9, 10]) (fun HS => ?_)
     refine Vb I HM HS ((VI 24 (.f .n) (h:=by exact fun HM => qeh (⟨yz.v, yz.r, wt⟩ : En) e hEo pf cr hpf hcr hew _)) fun w61 hbw => fun a I HM HS => ?_)
     refine s_on I 26 rfl (e_sa I HM 0 rfl rfl rfl rfl rfl qn rfl rfl (qw e) fun w4_26 HM => ?_)
     refine noS kr ?_
     refine qb kr ?_
     exact ⟨g11, I.sub kr, HM.pt 11 [0, 1, 2, 3, 4, 5, 6, 7, 8, 9, 10]⟩
    refine all_cons ?_ all_nil
    refine qk I (i := 25) rfl rfl ?_
    refine s_ea I HM #[vQ 0, vW 0, vW 0] ?_
    clear I HM; intro a w11 g11 I HM
    refine keepS (HM.pt 11 [1, 2, 3, 4, 5, 6, 7, 8, 9, 10]) (fun HS => ?_)
    refine Vb I HM HS ((VI 11 (.f .n) (h:=by exact fun HM => zo yz.v yz.r (wt : Int) om _)) fun w48 hbw => (VI 24 (.f .n) (h:=by exact fun HM => qeh (⟨yz.v, yz.r, wt⟩ : En) e hEo pf cr hpf hcr hew _)) fun w61 hbw => fun a I HM HS => ?_)
    refine s_on I 26 rfl (e_sa I HM 0 rfl rfl rfl rfl rfl qn rfl rfl (qw e) fun w4_26 HM => ?_)
    refine noS kr ?_
    refine qb kr ?_
    exact ⟨g11, I.sub kr, HM.pt 11 [0, 1, 2, 3, 4, 5, 6, 7, 8, 9, 10]⟩
   clear I HM; rintro a w4 ⟨g11, I, HM⟩
   refine qy (fun aS wS => Fr aS 84 [] [(11, vP g11 0), (10, vP g10 0), (9, vI p), (21, .bool true), (8, vP g8 0), (5, vP g5 0), (4, vP g4 0), (2, vI g), (3, vI c)] ∧ Mem W wS (.blk g11 e.cells 143 :: .blk g10 yz.cells 83 :: .row (.slice A18 mm.length c18) mm.length (mm.flatMap mbrL) 102 3 :: .blk g8 #[vI 0, vQ 0, vN, vN, vN, vN, vN] 45 :: .blk g5 z.cells 45 :: .blk g4 #[vI cp, vQ cr, vS ggA ng gc, .slice lA nl lc, .slice uA nu uc, .slice tA nt tc, vS gsA ns sc] 45 :: fG (some ⟨ggA, 0, none⟩) ng gc gs :: fI lA nl lc cl :: fI uA nu uc cu :: fT tA nt tc ts :: fS (some ⟨gsA, 0, none⟩) ns sc (rsPut rs2 g c ({ yz with v := e.v, r := e.r })) :: (fR (rsPut rs2 g c ({ yz with v := e.v, r := e.r })) ++ (stF z ++ (T))))) ?_ ?_
   ·
    refine qgx HM [.blk g11 e.cells 143, .blk g10 yz.cells 83, .row (.slice A18 mm.length c18) mm.length (mm.flatMap mbrL) 102 3, .blk g8 #[vI 0, vQ 0, vN, vN, vN, vN, vN] 45, .blk g5 z.cells 45, .blk g4 #[vI cp, vQ cr, vS ggA ng gc, .slice lA nl lc, .slice uA nu uc, .slice tA nt tc, vS gsA ns sc] 45, fG (some ⟨ggA, 0, none⟩) ng gc gs, fI lA nl lc cl, fI uA nu uc cu, fT tA nt tc ts] [0, 1, 2, 3, 4, 5, 6, 7, 8, 9] [21] fun HM HS => ?_
    refine ap I (fun _ => HS) [0, 2, 5, 6, 8, 11, 12, 14] (bf 22 [0, 2, 5, 6, 8, 11, 12, 14]) [(76, vP g11 1), (74, vP g11 0), (73, vI c), (70, vI g), (68, vP g4 6), (67, vI c), (64, vI g), (62, vP g4 6)] fun a I => ?_
    refine s_ac I HS 1 5 fun a I => ?_
    refine s_az I HS 3 rfl (v := vP gsA (g * 1)) (Yl.ix0 gsA g 1 rfl rfl rfl) fun a I => ?_
    refine s_ac I HS 7 5 fun a I => ?_
    refine s_az I HS 9 rfl (v := vP gsA (g * 1)) (Yl.ix0 gsA g 1 rfl rfl rfl) fun a I => ?_
    refine s_ac I HS 13 0 (v := vQ e.v) fun a I => ?_
    refine s_ac I HS 15 0 (v := vW e.r) fun a I => ?_
    refine qu [4, 10] kr rfl ?_
    refine all_cons ?_ ?_
    ·refine qk I (i := 4) rfl rfl ?_
     refine Yl.wp (S := fun wS => Mem W wS _) (v := .slice ((rs2.getD g Rw.zero).A) ((rs2.getD g Rw.zero).l.length) ((rs2.getD g Rw.zero).c)) (Yl.r1 10 g Rw.zero om rfl rfl rfl) I HM rfl de fun a I => ?_
     replace I := I.sp 66 (vS gy yl.length yc) rfl (by rw [hy])
     refine keepS HS (fun HS => ?_)
     refine s_on I 10 rfl ?_
     refine Yl.wp (S := fun wS => Mem W wS _) (v := .slice ((rs2.getD g Rw.zero).A) ((rs2.getD g Rw.zero).l.length) ((rs2.getD g Rw.zero).c)) (Yl.r1 10 g Rw.zero om rfl rfl rfl) I HM rfl de fun a I => ?_
     replace I := I.sp 72 (vS gy yl.length yc) rfl (by rw [hy])
     refine keepS HS (fun HS => ?_)
     refine s_az I HS 16 rfl (v := vP gy (c * 3)) (Yl.ix0 gy c 3 rfl rfl rfl) fun a I => ?_
     refine ap I (fun _ => HS) [17] (bt 22 [18, 19, 20, 21]) [(79, vP gy (c * 3))] fun a I => ?_
     refine s_on I 18 rfl ?_
     refine q6 I HM 10 (c := c) 0 ({ yz with v := e.v }) rfl rfl rfl rfl kr rfl rfl om (hy) (hyz) rfl de rfl fun w5_18 HM => ?_
     replace HM : Mem W w5_18 (.blk g11 e.cells 143 :: .blk g10 yz.cells 83 :: .row (.slice A18 mm.length c18) mm.length (mm.flatMap mbrL) 102 3 :: .blk g8 #[vI 0, vQ 0, vN, vN, vN, vN, vN] 45 :: .blk g5 z.cells 45 :: .blk g4 #[vI cp, vQ cr, vS ggA ng gc, .slice lA nl lc, .slice uA nu uc, .slice tA nt tc, vS gsA ns sc] 45 :: fG (some ⟨ggA, 0, none⟩) ng gc gs :: fI lA nl lc cl :: fI uA nu uc cu :: fT tA nt tc ts :: fS (some ⟨gsA, 0, none⟩) ns sc (rsPut rs2 g c ({ yz with v := e.v })) :: (fR (rsPut rs2 g c ({ yz with v := e.v })) ++ (stF z ++ (T)))) := HM
     refine keepS (HM.pk [0, 1, 2, 3, 4, 5, 6, 7, 8, 9]) (fun HS => ?_)
     refine zh I (fun _ => HS) (i := 19) rfl rfl (d := 80) rfl de kr (fun _ _ _ h => h) (v := vP gy (c * 3)) (fun _ => Yl.ix0 gy c 3 rfl rfl rfl) fun a I => ?_
     refine ap I (fun _ => HS) [20] (bt 22 [21]) [(81, vP gy (c * 3 + 1))] fun a I => ?_
     refine s_on I 21 rfl ?_
     refine q6 I HM 10 (c := c) 1 ({ yz with v := e.v, r := e.r }) rfl rfl rfl rfl kr rfl rfl (by first | omega | (rw [qr]; omega)) (qeb om hy) (qba hyz) rfl de rfl fun w5_21 HM => ?_
     replace HM : Mem W w5_21 (.blk g11 e.cells 143 :: .blk g10 yz.cells 83 :: .row (.slice A18 mm.length c18) mm.length (mm.flatMap mbrL) 102 3 :: .blk g8 #[vI 0, vQ 0, vN, vN, vN, vN, vN] 45 :: .blk g5 z.cells 45 :: .blk g4 #[vI cp, vQ cr, vS ggA ng gc, .slice lA nl lc, .slice uA nu uc, .slice tA nt tc, vS gsA ns sc] 45 :: fG (some ⟨ggA, 0, none⟩) ng gc gs :: fI lA nl lc cl :: fI uA nu uc cu :: fT tA nt tc ts :: fS (some ⟨gsA, 0, none⟩) ns sc (rsPut (rsPut rs2 g c ({ yz with v := e.v })) g c ({ yz with v := e.v, r := e.r })) :: (fR (rsPut (rsPut rs2 g c ({ yz with v := e.v })) g c ({ yz with v := e.v, r := e.r })) ++ (stF z ++ (T)))) := HM
     rw [qa9 (by first | omega | (rw [qr]; omega))] at HM
     refine noS kr ?_
     refine qb kr ?_
     exact ⟨I.sub kr, HM.pt 11 [0, 1, 2, 3, 4, 5, 6, 7, 8, 9, 10]⟩
    refine all_cons ?_ all_nil
    refine qk I (i := 10) rfl rfl ?_
    refine Yl.wp (S := fun wS => Mem W wS _) (v := .slice ((rs2.getD g Rw.zero).A) ((rs2.getD g Rw.zero).l.length) ((rs2.getD g Rw.zero).c)) (Yl.r1 10 g Rw.zero om rfl rfl rfl) I HM rfl de fun a I => ?_
    replace I := I.sp 72 (vS gy yl.length yc) rfl (by rw [hy])
    refine keepS HS (fun HS => ?_)
    refine s_on I 4 rfl ?_
    refine Yl.wp (S := fun wS => Mem W wS _) (v := .slice ((rs2.getD g Rw.zero).A) ((rs2.getD g Rw.zero).l.length) ((rs2.getD g Rw.zero).c)) (Yl.r1 10 g Rw.zero om rfl rfl rfl) I HM rfl de fun a I => ?_
    replace I := I.sp 66 (vS gy yl.length yc) rfl (by rw [hy])
    refine keepS HS (fun HS => ?_)
    refine s_az I HS 16 rfl (v := vP gy (c * 3)) (Yl.ix0 gy c 3 rfl rfl rfl) fun a I => ?_
    refine ap I (fun _ => HS) [17] (bt 22 [18, 19, 20, 21]) [(79, vP gy (c * 3))] fun a I => ?_
    refine s_on I 18 rfl ?_
    refine q6 I HM 10 (c := c) 0 ({ yz with v := e.v }) rfl rfl rfl rfl kr rfl rfl om (hy) (hyz) rfl de rfl fun w5_18 HM => ?_
    replace HM : Mem W w5_18 (.blk g11 e.cells 143 :: .blk g10 yz.cells 83 :: .row (.slice A18 mm.length c18) mm.length (mm.flatMap mbrL) 102 3 :: .blk g8 #[vI 0, vQ 0, vN, vN, vN, vN, vN] 45 :: .blk g5 z.cells 45 :: .blk g4 #[vI cp, vQ cr, vS ggA ng gc, .slice lA nl lc, .slice uA nu uc, .slice tA nt tc, vS gsA ns sc] 45 :: fG (some ⟨ggA, 0, none⟩) ng gc gs :: fI lA nl lc cl :: fI uA nu uc cu :: fT tA nt tc ts :: fS (some ⟨gsA, 0, none⟩) ns sc (rsPut rs2 g c ({ yz with v := e.v })) :: (fR (rsPut rs2 g c ({ yz with v := e.v })) ++ (stF z ++ (T)))) := HM
    refine keepS (HM.pk [0, 1, 2, 3, 4, 5, 6, 7, 8, 9]) (fun HS => ?_)
    refine zh I (fun _ => HS) (i := 19) rfl rfl (d := 80) rfl de kr (fun _ _ _ h => h) (v := vP gy (c * 3)) (fun _ => Yl.ix0 gy c 3 rfl rfl rfl) fun a I => ?_
    refine ap I (fun _ => HS) [20] (bt 22 [21]) [(81, vP gy (c * 3 + 1))] fun a I => ?_
    refine s_on I 21 rfl ?_
    refine q6 I HM 10 (c := c) 1 ({ yz with v := e.v, r := e.r }) rfl rfl rfl rfl kr rfl rfl (by first | omega | (rw [qr]; omega)) (qeb om hy) (qba hyz) rfl de rfl fun w5_21 HM => ?_
    replace HM : Mem W w5_21 (.blk g11 e.cells 143 :: .blk g10 yz.cells 83 :: .row (.slice A18 mm.length c18) mm.length (mm.flatMap mbrL) 102 3 :: .blk g8 #[vI 0, vQ 0, vN, vN, vN, vN, vN] 45 :: .blk g5 z.cells 45 :: .blk g4 #[vI cp, vQ cr, vS ggA ng gc, .slice lA nl lc, .slice uA nu uc, .slice tA nt tc, vS gsA ns sc] 45 :: fG (some ⟨ggA, 0, none⟩) ng gc gs :: fI lA nl lc cl :: fI uA nu uc cu :: fT tA nt tc ts :: fS (some ⟨gsA, 0, none⟩) ns sc (rsPut (rsPut rs2 g c ({ yz with v := e.v })) g c ({ yz with v := e.v, r := e.r })) :: (fR (rsPut (rsPut rs2 g c ({ yz with v := e.v })) g c ({ yz with v := e.v, r := e.r })) ++ (stF z ++ (T)))) := HM
    rw [qa9 (by first | omega | (rw [qr]; omega))] at HM
    refine noS kr ?_
    refine qb kr ?_
    exact ⟨I.sub kr, HM.pt 11 [0, 1, 2, 3, 4, 5, 6, 7, 8, 9, 10]⟩
   clear I HM; rintro a w5 ⟨I, HM⟩
   refine Jb I HM ((JR∘Jp 2∘Jd1∘Jq) fun a I HM => ?_)
   exact ⟨_, om, p, (rsPut rs2 g c { yz with v := e.v, r := e.r }), by omega, by rw [qr]; exact hl2, hsp2.put { yz with v := e.v, r := e.r } ⟨hev, her, hyo.1.floor⟩ (by rw [hwt]; have := heo.1.1; rw [heo.2] at this; exact this), qoo (z := yz) hfl2 om (by rw [hy]; exact hyz) rfl, by rw [← hst2, hes, qop, qjn (x := (⟨cp, cr, some ⟨ggA, 0, none⟩, gc, gs, lA, lc, cl, uA, uc, cu, tA, tc, ts, some ⟨gsA, 0, none⟩, sc, rs2⟩ : Stm)) (by show g < rs2.length; omega) hy hyz hpp (by show p < rs2.length; omega) hp hpz hwt (by rw [hpz2]; exact hew)], rfl, I.sub kr, HM.pt 11 [3, 4, 5, 6, 7, 8, 9, 10]⟩
  intro a I HM
  have hd21 := ne_of_beq_false hb21
  refine Jb I HM ((JF∘JX∘JG∘JP∘Jy (v := .agg #[vI cp, vQ cr, vS ggA ng gc, .slice lA nl lc, .slice uA nu uc, .slice tA nt tc, vS gsA ns sc]) (h:=by exact Yl.loadS rfl rfl si_st rfl (fun _ h => qa (h.blk (i := 3) rfl)))∘JV si_st O1') fun w7_1 => (Jt1∘Jj∘JZ) fun a I HM => ?_)
  exact ret1 rfl I (.cellS (i := 1) I HM rfl rfl si_st rfl) (qfl (y := (⟨cp, cr, some ⟨ggA, 0, none⟩, gc, gs, lA, lc, cl, uA, uc, cu, tA, tc, ts, some ⟨gsA, 0, none⟩, sc, rs2⟩ : Stm)) 4 HM rfl ⟨hlg, hll, hlu, hlt, hl2⟩ (by rw [← hst2, show q5 z.sta g c = [] from qdk (fun e => hd21 (by rw [← hmm, e]; rfl))]; rfl))
 intro a I HM
 have hd14 := of_decide_eq_false hb14
 refine Jb I HM ((Jp 7∘Jd6∘Jj∘JF∘JX∘JG∘JP∘Jy (v := .agg #[vI cp, vQ cr, vS ggA ng gc, .slice lA nl lc, .slice uA nu uc, .slice tA nt tc, vS gsA ns sc]) (h:=by exact Yl.loadS rfl rfl si_st rfl (fun _ h => qa (h.blk (i := 2) rfl)))∘JV si_st O0') fun w7_1 => (Jt1∘Jj∘JZ) fun a I HM => ?_)
 exact ret1 rfl I (.cellS (i := 0) I HM rfl rfl si_st rfl) (qfl (y := (⟨cp, cr, some ⟨ggA, 0, none⟩, gc, gs, lA, lc, cl, uA, uc, cu, tA, tc, ts, some ⟨gsA, 0, none⟩, sc, rs2⟩ : Stm)) 3 HM rfl ⟨hlg, hll, hlu, hlt, hl2⟩ (by rw [← hst2, show q5 z.sta g c = [] from by rw [show g = 0 by omega]; rfl]; rfl))
theorem qiy {W w : World} {F T : List Fact} {x z : Stm} {g0 c : Nat} {ng nl nu nt ns : Nat} (n : Nat) (HM : Mem W w F) (he : F.drop n = sdA x ng nl nu nt ns ++ (stF z ++ T)) (hln : Lns x ng nl nu nt ns) (hz : Shp z.sta) (hgz : x.gs = z.gs) (hcz : x.cpus = z.cpus) (hrg2 : x.rs.length = x.gs.length) (hfl : Floors z.sta x.rs) (hsp : SpsOk x.gs x.cpus x.rs) (hcr : x.credit < 18446744073709551616) (hc : (c : Int) < x.cpus) (hg : g0 < ns) :
  Calls Tryz.prog 113 #[.agg (sdC x ng nl nu nt ns), .agg z.cells, vI g0, vI c] w (fun r w' => ∃ y : Stm, r = .returned (.agg y.cells) ∧ y.sta = wakeS x.sta (q5 z.sta g0 c) c ∧ Mem W w' (F.take n ++ (stF y ++ (stF z ++ T)))) :=
 (qr3 W w x z g0 c ng nl nu nt ns hln hz hgz hcz hrg2 hfl hsp hcr hc hg (F.take n ++ T) (HM.front2 n he)).mono fun r w' ⟨y, h1, h2, h3⟩ => ⟨y, h1, h2, h3.qxr⟩
theorem qt2 {l : List Int} {id : Int} {k : Nat} (h : ∀ j, j < k → l.getD j 0 ≠ id) (hk : l.getD k 0 ≠ id) : ∀ j, j < k + 1 → l.getD j 0 ≠ id := fun j hj => by
 rcases Nat.lt_or_ge j k with h1 | h1
 ·exact h j h1
 ·obtain rfl : j = k := by omega
  exact hk
theorem qxh {l : List Int} {id : Int} (h : ∀ j, j < l.length → l.getD j 0 ≠ id) : ¬ id ∈ l := fun hm => by
 obtain ⟨j, hj, he⟩ := zx 0 hm
 exact h j hj he
theorem qgn (x e : En) (hx : x.Ok) (fr to : Nat) (hf : fr < 18446744073709551616) (ht : to < 18446744073709551616) (he : x.moved fr to = e) (w : World) :
  Calls Tryz.prog 135 #[.agg x.cells, vQ fr, vQ to] w (Is w (.agg e.cells)) := he ▸ qok x hx fr to hf ht w
section
variable {x : Stm} {i to gt ct wt : Nat} {t : Tk} {yz pz : Sp} {e : En}
theorem qt3 (ht : x.ts[i]? = some t) (hr : t.ready = true) (hg : t.group = (gt : Int)) (hc : t.cpu = (ct : Int)) (hw : t.weight = (wt : Int)) (hy : x.sta.spot gt ct = yz) (hp : x.sta.spot gt to = pz) (he : (⟨t.v, t.r, wt⟩ : En).moved yz.floor pz.floor = e) : moveS x.sta i (to : Int) = wakeS ({ x with ts := x.ts.set i { t.put e with cpu := (to : Int) } } : Stm).sta (q5 x.sta gt to) to := by
 unfold moveS
 rw [show x.sta.ts.getD i Tk.zero = t from qx Tk.zero ht]
 dsimp only
 rw [if_pos hr, hg, hc, Int.toNat_natCast, Int.toNat_natCast, Int.toNat_natCast, hy, hp, tk_en hw, he]
 rfl
theorem qwc (ht : x.ts[i]? = some t) (hr : t.ready = false) (hg : t.group = (gt : Int)) (hc : t.cpu = (ct : Int)) (hw : t.weight = (wt : Int)) (hy : x.sta.spot gt ct = yz) (hp : x.sta.spot gt to = pz) (he : (⟨t.v, t.r, wt⟩ : En).moved yz.floor pz.floor = e) : moveS x.sta i (to : Int) = ({ x with ts := x.ts.set i { t.put e with cpu := (to : Int) } } : Stm).sta := by
 unfold moveS
 rw [show x.sta.ts.getD i Tk.zero = t from qx Tk.zero ht]
 dsimp only
 rw [if_neg (by rw [hr]; decide), hg, hc, Int.toNat_natCast, Int.toNat_natCast, Int.toNat_natCast, hy, hp, tk_en hw, he]
 rfl
end
theorem qgo (x : Stm) (hx : MdOk x x.gs.length x.cl.length x.cu.length x.ts.length x.rs.length) (c : Nat) (w : World) (hr : StRd w x) :
    Calls Tryz.prog 63 #[.agg x.cells, vI c] w (Is w (vI (loadS x.sta c))) := by
 have hft_ := hx.few.t
 have hwt := qc4 hx.sh
 refine (JN2 Tryz.func63 39) ?_
 refine (JP∘JE) fun w2 g2 => (Jp 1∘Jr∘Jp 1∘Jj∘JQ∘JP∘Jp 1∘Jj∘JB) fun a I HM => ?_
 refine qi (fun mS aS wS => ∃ (i : Nat), (i ≤ x.ts.length) ∧ mS = x.ts.length - i ∧ Fr aS 39 [] [(6, vI i), (5, vI (loadN (x.ts.take i) c)), (4, vI 0), (2, vP g2 0), (1, vI c)] ∧ Mem w wS [.blk g2 x.cells 45]) (m := x.ts.length - 0) ⟨0, Nat.zero_le _, rfl, I.sub kr, HM.pk [0]⟩ ?_
 clear I HM; rintro mS a w_ ⟨i, hi, rfl, I, HM⟩
 refine Jb I HM ((JQ∘JP∘Jp 1∘Jg 5 O0∘Jl∘Jp 1∘Jd3∘Jj) (Ju (fun hb11 => ?_) fun hb11 => ?_))
 ·
  intro a I HM
  have hd11 := of_decide_eq_true hb11
  have hi15 : i < x.ts.length := by omega
  obtain ⟨t, ht⟩ : ∃ z, (x.ts.getD i Tk.zero) = z := ⟨_, rfl⟩
  have hls := qg8 (c := c) hi15
  rw [ht] at hls
  have hb1 := qc3 (c := c) hwt i; have hb2 := qc3 (c := c) hwt (i + 1)
  obtain ⟨gq1, oq1, hq1, _⟩ := Rd.qt hr.t (Nat.lt_of_le_of_lt (Nat.zero_le _) (show i < x.ts.length from hi15)) de
  have hrq1 := hr.t; rw [hq1] at hrq1
  refine Jb I HM ((JT∘JS'∘JQ∘JB) fun a I HM => ?_)
  refine qy (fun aS wS => Fr aS 39 [] [(29, .bool (t.ready && decide (t.cpu = (c : Int)))), (11, .bool true), (6, vI i), (5, vI (loadN (x.ts.take i) c)), (4, vI 0), (2, vP g2 0), (1, vI c)] ∧ Mem w wS [.blk g2 x.cells 45]) ?_ ?_
  ·
   refine qaj ?_
   refine Jb I HM ((Jg 5 O0∘Jp 1) fun a I HM => ?_)
   replace I := I.sp 15 (.slice (some ⟨gq1, oq1, none⟩) x.ts.length x.tc) rfl (by rw [hq1]; try rfl)
   refine Jb I HM ((Jy (h:=by exact Yl.ix gq1 oq1 i 8 rfl rfl rfl)∘Jf 5∘Jy (v := .bool ((x.ts.getD i Tk.zero).ready)) (h:=by exact Yl.qo rfl rfl kr (fun _ h => (h.old hrq1).partAt qd (k := i) (j := 5) (x := (x.ts.getD i Tk.zero)) ((getD_at Tk.zero om)) rfl))∘Jo (.bool t.ready) (by rw [ht])∘Jp 1) (Ju (fun hb20 => ?_) fun hb20 => ?_))
   ·
    refine (Jg 5 O0∘Jp 1) fun a I HM => ?_
    replace I := I.sp 22 (.slice (some ⟨gq1, oq1, none⟩) x.ts.length x.tc) rfl (by rw [hq1]; try rfl)
    refine Jb I HM ((Jy (h:=by exact Yl.ix gq1 oq1 i 8 rfl rfl rfl)∘Jf 3∘Jy (v := vI ((x.ts.getD i Tk.zero).cpu)) (h:=by exact Yl.qo rfl rfl kr (fun _ h => (h.old hrq1).partAt qd (k := i) (j := 3) (x := (x.ts.getD i Tk.zero)) ((getD_at Tk.zero om)) rfl))∘Jo (vI t.cpu) (by rw [ht])∘Jp 3∘Jd5∘Jq) fun a I HM => ?_)
    have I := I.sp 29 (.bool (t.ready && decide (t.cpu = (c : Int)))) rfl (congrArg Value.bool (by rw [hb20, Bool.true_and, Bool.eq_iff_iff, beq_iff_eq, decide_eq_true_eq]))
    exact ⟨I.sub kr, HM.pk [0]⟩
   refine (Jv 9 [(29, .bool false)]∘Jd4∘Jq) fun a I HM => ?_
   have I := I.sp 29 (.bool (t.ready && decide (t.cpu = (c : Int)))) rfl (congrArg Value.bool (by rw [hb20]; try rfl))
   exact ⟨I.sub kr, HM.pk [0]⟩
  clear I HM; rintro a w5 ⟨I, HM⟩
  refine Jb I HM (Ju (fun hb29 => ?_) fun hb29 => ?_)
  ·
   intro a I HM
   rw [if_pos hb29] at hls
   refine Jb I HM ((JT∘JR∘Jp 1∘Jg 5 O0∘Jp 1) fun a I HM => ?_)
   replace I := I.sp 32 (.slice (some ⟨gq1, oq1, none⟩) x.ts.length x.tc) rfl (by rw [hq1]; try rfl)
   refine Jb I HM ((Jy (h:=by exact Yl.ix gq1 oq1 i 8 rfl rfl rfl)∘Jf 2∘Jy (v := vI ((x.ts.getD i Tk.zero).weight)) (h:=by exact Yl.qo rfl rfl kr (fun _ h => (h.old hrq1).partAt qd (k := i) (j := 2) (x := (x.ts.getD i Tk.zero)) ((getD_at Tk.zero om)) rfl))∘Jo (vI t.weight) (by rw [ht])∘Jp 1∘Jo (vI (loadN (x.ts.take (i + 1)) c)) (by rw [hls]; exact qcj ⟨by omega, by omega⟩)∘Jp 1∘Jd4∘Jj∘JR∘Jp 1∘JaK 1∘Jp 1∘Jd2∘Jq) fun a I HM => ?_)
   exact ⟨_, om, i + 1, by omega, rfl, I.sub kr, HM.pk [0]⟩
  intro a I HM
  rw [if_neg (by rw [hb29]; decide), Int.add_zero] at hls
  replace I := I.sp 5 (vI (loadN (x.ts.take (i + 1)) c)) rfl (by rw [hls])
  refine Jb I HM ((JF∘JS'∘JR∘Jp 1∘JaK 1∘Jp 1∘Jd2∘Jq) fun a I HM => ?_)
  exact ⟨_, om, i + 1, by omega, rfl, I.sub kr, HM.pk [0]⟩
 intro a I HM
 have hd11 := of_decide_eq_false hb11
 have hall : loadN (x.ts.take i) c = loadS x.sta c := by rw [List.take_of_length_le om]; rfl
 exact Jb I HM ((JF∘JX∘JG∘JP∘Jp 2∘Jd1∘Jj∘JZ∘Jz1) fun HM => by exact ⟨by rw [hall], HM.below⟩)
theorem qhq (x : Stm) (hx : MdOk x x.gs.length x.cl.length x.cu.length x.ts.length x.rs.length) (c : Nat) (w : World) (hr : StRd w x) (hc : (c : Int) < x.cpus) :
    Calls Tryz.prog 62 #[.agg x.cells, vI c] w (Is w (vI (q3 x.sta c : Int))) := by
 have hrs0 : 0 < x.rs.length := by have h1 := hx.sh.rs; obtain ⟨_, _, _, hgs⟩ := zf hx.sh.cfg; have h2 := (qh hgs).1; replace h2 : 1 ≤ x.gs.length := h2; omega
 refine (JN2 Tryz.func62 24) ?_
 refine (JP∘JE) fun w2 g2 => (Jp 1∘Jr∘Jp 1∘Jj∘JB) fun a I HM => ?_
 refine qi (fun mS aS wS => ∃ (g : Nat), (g < x.rs.length) ∧ (qcb x.sta c g = q3 x.sta c) ∧ mS = x.rs.length - g ∧ Fr aS 24 [] [(5, vI g), (4, vI 0), (2, vP g2 0), (1, vI c)] ∧ Mem w wS [.blk g2 x.cells 45]) (m := x.rs.length - 0) ⟨0, hrs0, rfl, rfl, I.sub kr, HM.pk [0]⟩ ?_
 clear I HM; rintro mS a w_ ⟨g, hg, hq, rfl, I, HM⟩
 obtain ⟨mm, hmm⟩ : ∃ q, memS x.sta g c = q := ⟨_, rfl⟩
 have hsl : x.sta.sp.length = x.rs.length := zl
 refine Jb I HM ((JB∘JP∘Jy (v := .agg x.cells) (h:=by exact Yl.loadS rfl rfl si_st rfl (fun _ h => qa (h.blk (i := 0) rfl)))∘Jp 2∘JK (h:=by exact fun HM => qiw (x := x) hx (hr.old HM) (hc) om hmm)) fun A11 c11 w11 hc11 => (Jp 1∘Jd4∘Jj∘JQ∘JP∘Jp 1∘Jl∘Jp 1∘Jd2∘Jj) (Ju (fun hb14 => ?_) fun hb14 => ?_))
 ·
  intro a I HM
  have hd14 := eq_of_beq hb14
  have hm0 : memS x.sta g c = [] := by rw [hmm]; exact List.length_eq_zero_iff.1 om
  exact Jb I HM ((JT∘JP∘Jp 1∘Jj∘JZ∘Jz1) fun HM => by exact ⟨by rw [← hq, qdl (by rw [zl]; omega) hm0]; rfl, HM.below⟩)
 intro a I HM
 have hd14 := ne_of_beq_false hb14
 have hne : mm ≠ [] := fun e => by rw [e] at hd14; exact hd14 rfl
 have hm0 : memS x.sta g c ≠ [] := by rw [hmm]; exact hne
 refine Jb I HM ((JF∘JS'∘JP∘Jp 1∘JI (h:=by exact fun HM => qgm hx hmm hne (HM.rd (i := 0) rfl))) fun w16 hbw => (JA #[vQ 0, vI 0, vI 0]) fun w7 g7 => (JV qbn O0' (h1:=by exact qir (bestM topM mm))) fun w5_3 => (Jd2∘Jj∘JQ∘JP∘Jg 1 O0∘Jp 1∘Jd1∘Jj) (Ju (fun hb19 => ?_) fun hb19 => ?_))
 ·
  intro a I HM
  have hd19 := eq_of_beq hb19
  have hft := qdm (s := x.sta) (c := c) (g := g) om hm0 (by rw [hmm]; omega)
  rw [hmm] at hft
  exact Jb I HM ((JT∘JP∘Jg 2 O0∘Jp 1∘Jd1∘Jj∘JZ∘Jz1) fun HM => by exact ⟨by rw [← hq, hft], HM.below⟩)
 intro a I HM
 have hd19 := ne_of_beq_false hb19
 obtain ⟨hdn, hdg, hdl⟩ := qdn (s := x.sta) (c := c) (g := g) hx.ok om hm0 (by rw [hmm]; omega)
 rw [hmm] at hdn hdg hdl
 refine Jb I HM ((JF∘JS'∘JR∘Jg 2 O0∘Jp 1∘Jd1∘Jq) fun a I HM => ?_)
 exact ⟨_, om, (bestM topM mm).id, by omega, by rw [← hdn]; exact hq, rfl, I.sub kr, HM.pk [2]⟩
theorem qkg (x : Stm) (id : Int) (w : World) (hr : Rd w w.heap.size 1 x.uA x.cu.length (x.cu.map I64i)) (hn : x.cu.length ≤ 1000000) :
    Calls Tryz.prog 117 #[.agg x.cells, vI id] w (Is w (.bool (decide (id ∈ x.cu)))) := by
 refine (JN2 Tryz.func117 20) ?_
 refine (JP∘JE) fun w2 g2 => (Jp 1∘Jj∘JQ∘JP∘Jp 1∘Jj∘JB) fun a I HM => ?_
 refine qi (fun mS aS wS => ∃ (i : Nat), (i ≤ x.cu.length) ∧ (∀ j, j < i → x.cu.getD j 0 ≠ id) ∧ mS = x.cu.length - i ∧ Fr aS 20 [] [(5, vI i), (4, .bool false), (2, vP g2 0), (1, vI id)] ∧ Mem w wS [.blk g2 x.cells 45]) (m := x.cu.length - 0) ⟨0, Nat.zero_le _, fun j h => by omega, rfl, I.sub kr, HM.pk [0]⟩ ?_
 clear I HM; rintro mS a w_ ⟨i, hi, hu, rfl, I, HM⟩
 refine Jb I HM ((JQ∘JP∘Jp 1∘Jg 4 O0∘Jl∘Jp 1∘Jd3∘Jj) (Ju (fun hb10 => ?_) fun hb10 => ?_))
 ·
  intro a I HM
  have hd10 := of_decide_eq_true hb10
  have hi10 : i < x.cu.length := by omega
  refine Jb I HM ((JT∘JS'∘JQ∘JB∘JP∘Jg 4 O0∘Jp 1) fun a I HM => ?_)
  obtain ⟨gq1, oq1, hq1, _⟩ := Rd.qt hr (Nat.lt_of_le_of_lt (Nat.zero_le _) (show i < x.cu.length from by omega)) de
  have hrq1 := hr; rw [hq1] at hrq1
  replace I := I.sp 14 (.slice (some ⟨gq1, oq1, none⟩) x.cu.length x.uc) rfl (by rw [hq1]; try rfl)
  refine Jb I HM ((Jy (h:=by exact Yl.ix gq1 oq1 i 1 rfl rfl rfl)∘Jy (h:=by exact Yl.o1 hrq1 i 0 om rfl rfl)∘Jp 2∘Jd6∘Jj) (Je (fun hd19 => ?_) fun hd19 => ?_))
  ·
   exact (JT∘JP∘Jp 1∘Jj∘JZ∘Jz1) fun HM => qd5 (by rw [← hd19]; exact qm 0 hi10) HM.below
  refine (JF∘JS'∘JR∘Jp 1∘JaK 1∘Jp 1∘Jd2∘Jq) fun a I HM => ?_
  exact ⟨_, om, i + 1, by omega, qt2 hu hd19, rfl, I.sub kr, HM.pk [0]⟩
 intro a I HM
 have hd10 := of_decide_eq_false hb10
 exact Jb I HM ((JF∘JX∘JG∘JP∘Jp 1∘Jj∘JZ∘Jz1) fun HM => is_no (qxh (fun j hj => hu j om)) HM.below)
theorem qiz (W w : World) (x : Stm) (ng nl nu nt ns : Nat) (hx : MdOk x ng nl nu nt ns) (T : List Fact) (HM : Mem W w (sdA x ng nl nu nt ns ++ T)) (i to : Nat) (t : Tk) (ht : x.ts[i]? = some t) (hto : (to : Int) < x.cpus) :
    Calls Tryz.prog 118 #[.agg (sdC x ng nl nu nt ns), vI i, vI to] w (StOut W T (moveS x.sta i (to : Int))) := by
 obtain ⟨cp, cr, gA, gc, gs, lA, lc, cl, uA, uc, cu, tA, tc, ts, sA, sc, rs⟩ := x
 replace HM : Mem W w (fG gA ng gc gs :: fI lA nl lc cl :: fI uA nu uc cu :: fT tA nt tc ts :: fS sA ns sc rs :: (fR rs ++ (T))) := HM
 have hln := hx.ln
 obtain ⟨hlg, hll, hlu, hlt, hls⟩ := hln
 replace hlg : gs.length = ng := hlg; replace hll : cl.length = nl := hll; replace hlu : cu.length = nu := hlu; replace hlt : ts.length = nt := hlt; replace hls : rs.length = ns := hls
 have hlns := hx.ln
 have hsp : SpsOk gs cp rs := hx.spots
 have hrg : rs.length = gs.length := hx.sh.rs
 have hcr : cr < 18446744073709551616 := hx.ok.credit
 obtain ⟨hcp1, hcp2, _, hgs⟩ := zf hx.sh.cfg
 replace hcp1 : 1 ≤ cp := hcp1; replace hcp2 : cp ≤ 64 := hcp2; replace hgs : gsOk gs = true := hgs
 have hgl1 := (qh hgs).1; have hgl2 := (qh hgs).2.1
 have hcll : (cl.length : Int) = cp := hx.sh.cl; have hcul : (cu.length : Int) = cp := hx.sh.cu
 have hfts : ts.length ≤ 1000000 := hx.few.t
 replace ht : ts[i]? = some t := ht; replace hto : (to : Int) < cp := hto
 have hil : i < ts.length := (List.getElem?_eq_some_iff.1 ht).1
 have hsx := qqa hx
 obtain ⟨htg, hto⟩ := hx.task ht
 have hti := htg.id; have htgr := htg.group; have htc := htg.cpu; have htw := htg.weight; have htv := hto.v; have htr := hto.r; have htm := hto.mask
 replace htc : 0 ≤ t.cpu ∧ t.cpu < cp := htc
 obtain ⟨gt, hgt⟩ : ∃ n : Nat, t.group = (n : Int) := ⟨t.group.toNat, by omega⟩
 obtain ⟨ct, hct⟩ : ∃ n : Nat, t.cpu = (n : Int) := ⟨t.cpu.toNat, by omega⟩
 obtain ⟨wt, hwt⟩ : ∃ n : Nat, t.weight = (n : Int) := ⟨t.weight.toNat, by omega⟩
 have hEo : (⟨t.v, t.r, wt⟩ : En).Ok := En.qda htg.ent hwt htv
 have hgtl : gt < ns := by omega
 obtain ⟨gtA, rfl⟩ := qe (HM.own (i := 3) rfl) om
 obtain ⟨gsA, rfl⟩ := qe (HM.own (i := 4) rfl) om
 obtain ⟨⟨yA, yc, yl⟩, hy⟩ : ∃ y, rs.getD gt Rw.zero = y := ⟨_, rfl⟩
 have hys := hsp gt om; rw [hy] at hys
 have hyl : (yl.length : Int) = cp := hys.1
 obtain ⟨gy, rfl⟩ := HM.rwSome 5 rfl om hy om
 obtain ⟨yz, hyz⟩ : ∃ z, yl[ct]? = some z := ⟨_, List.getElem?_eq_getElem om⟩
 obtain ⟨pz, hpz⟩ : ∃ z, yl[to]? = some z := ⟨_, List.getElem?_eq_getElem om⟩
 have hyf := (hys.2 yz (List.mem_of_getElem? hyz)).1.floor; have hpf := (hys.2 pz (List.mem_of_getElem? hpz)).1.floor
 obtain ⟨e, hew⟩ : ∃ e, (⟨t.v, t.r, wt⟩ : En).moved yz.floor pz.floor = e := ⟨_, rfl⟩
 have heo : e.Ok ∧ e.w = wt := by rw [← hew]; exact En.qi2 hEo _ _ hpf
 have hsy := qag (x := (⟨cp, cr, gA, gc, gs, lA, lc, cl, uA, uc, cu, some ⟨gtA, 0, none⟩, tc, ts, some ⟨gsA, 0, none⟩, sc, rs⟩ : Stm)) (by show gt < rs.length; omega) hy hyz; have hsp2 := qag (x := (⟨cp, cr, gA, gc, gs, lA, lc, cl, uA, uc, cu, some ⟨gtA, 0, none⟩, tc, ts, some ⟨gsA, 0, none⟩, sc, rs⟩ : Stm)) (by show gt < rs.length; omega) hy hpz
 show Calls Tryz.prog 118 #[.agg #[vI cp, vQ cr, .slice gA ng gc, .slice lA nl lc, .slice uA nu uc, vS gtA nt tc, vS gsA ns sc], vI i, vI to] w _
 refine (Jin3 HM Tryz.func118 65) ?_
 refine (JP∘JE) fun w3 g3 => (JA #[vI 0, vQ 0, vN, vN, vN, vN, vN]) fun w6 g6 => (Jr∘Jy (v := .agg #[vI cp, vQ cr, .slice gA ng gc, .slice lA nl lc, .slice uA nu uc, vS gtA nt tc, vS gsA ns sc]) (h:=by exact Yl.loadS rfl rfl si_st rfl (fun _ h => qa (h.blk (i := 1) rfl)))∘JL (h:=by exact fun HM => qev (x := (⟨cp, cr, gA, gc, gs, lA, lc, cl, uA, uc, cu, some ⟨gtA, 0, none⟩, tc, ts, some ⟨gsA, 0, none⟩, sc, rs⟩ : Stm)) hlns (HM.sdRd 2 rfl hlns) (hx.few))) ?_
 rintro HM _ w11 ⟨y, rfl, heq, hcap, hm⟩
 refine ⟨_, rfl, _, (show Mem W _ (.blk g6 #[vI 0, vQ 0, vN, vN, vN, vN, vN] 45 :: .blk g3 #[vI cp, vQ cr, .slice gA ng gc, .slice lA nl lc, .slice uA nu uc, vS gtA nt tc, vS gsA ns sc] 45 :: fG gA ng gc gs :: fI lA nl lc cl :: fI uA nu uc cu :: fT (some ⟨gtA, 0, none⟩) nt tc ts :: fS (some ⟨gsA, 0, none⟩) ns sc rs :: (fR rs ++ (stF y ++ (T)))) from HM.joinG (A := fR rs) (T := (T)) 7 hm rfl), ?_⟩
 refine (JA #[vI 0, vQ 0, vN, vN, vN, vN, vN]) fun w7 g7 => (JV si_st O0' (h1:=by exact qz y)) fun w1_3 => (Jd2∘Jq) fun a I HM => ?_
 have hyS : y.sta = (⟨cp, cr, gA, gc, gs, lA, lc, cl, uA, uc, cu, some ⟨gtA, 0, none⟩, tc, ts, some ⟨gsA, 0, none⟩, sc, rs⟩ : Stm).sta := qf1 heq
 have hsz : Shp y.sta := by rw [hyS]; exact hsx
 refine Jb I HM ((JG∘JP∘Jg 5 O2∘Jp 1∘Jy (h:=by exact Yl.ix0 gtA i 8 rfl rfl rfl)∘Jy (v := .agg t.cells) (h:=by exact Yl.loadS rfl rfl si_tk rfl (fun _ h => h.qbf qd (i := 6) rfl (ht)))∘JA #[vI 0, vI 0, vI 0, vI 0, vQ 0, .bool false, vQ 0, vW 0]) fun w8 g8 => (JV si_tk O0' (h1:=by exact qbi t)) fun w2_6 => (Jd4∘Jj) fun a I HM => ?_)
 refine qy (fun aS wS => ∃ (g9 : Nat), Fr aS 65 [] [(9, vP g9 0), (8, vP g8 0), (7, vP g7 0), (6, vP g6 0), (3, vP g3 0), (1, vI i), (2, vI to)] ∧ Mem W wS (.blk g9 e.cells 143 :: .blk g8 t.cells 81 :: .blk g7 y.cells 45 :: .blk g6 #[vI 0, vQ 0, vN, vN, vN, vN, vN] 45 :: .blk g3 #[vI cp, vQ cr, .slice gA ng gc, .slice lA nl lc, .slice uA nu uc, vS gtA nt tc, vS gsA ns sc] 45 :: fG gA ng gc gs :: fI lA nl lc cl :: fI uA nu uc cu :: fT (some ⟨gtA, 0, none⟩) nt tc ts :: fS (some ⟨gsA, 0, none⟩) ns sc rs :: (fR rs ++ (stF y ++ (T))))) ?_ ?_
 ·
  refine Jb I HM ((Vs .n [30]) fun wd3 => (Vf 0 6∘Vf 2 7∘Vf 4 2∘Vf 7 6∘Vf 9 1∘Vf 13 3∘Vf 18 6∘Vf 20 1∘Vp [24]∘Vc 1 O0∘Vc 3 O0∘Vc 5 O0∘Vo (vI wt) (by rw [hwt])∘Vc 8 O3∘Vc 10 O0∘Vo (vI gt) (by rw [hgt])∘Vy 11 (h:=by exact Yl.ix0 gsA gt 1 rfl rfl rfl)∘Vy 12 (v := .slice ((rs.getD gt Rw.zero).A) ((rs.getD gt Rw.zero).l.length) ((rs.getD gt Rw.zero).c)) (h:=by exact Yl.r1 8 gt Rw.zero om rfl rfl rfl)∘Vo (vS gy yl.length yc) (by rw [hy])∘Vc 14 O0∘Vo (vI ct) (by rw [hct])∘Vy 15 (h:=by exact Yl.ix0 gy ct 3 rfl rfl rfl)∘Vf 16 2∘Vy 17 (v := vQ yz.floor) (h:=by exact Yl.qo rfl rfl kr (fun _ h => h.qat 9 (j := 2) rfl om hy (hyz) rfl))∘Vc 19 O3∘Vc 21 O0∘Vo (vI gt) (by rw [hgt])∘Vy 22 (h:=by exact Yl.ix0 gsA gt 1 rfl rfl rfl)∘Vy 23 (v := .slice ((rs.getD gt Rw.zero).A) ((rs.getD gt Rw.zero).l.length) ((rs.getD gt Rw.zero).c)) (h:=by exact Yl.r1 8 gt Rw.zero om rfl rfl rfl)∘Vo (vS gy yl.length yc) (by rw [hy])∘Vy 25 (h:=by exact Yl.ix0 gy to 3 rfl rfl rfl)∘Vf 26 2∘Vy 27 (v := vQ pz.floor) (h:=by exact Yl.qo rfl rfl kr (fun _ h => h.qat 9 (j := 2) rfl om hy (hpz) rfl))) fun a I HM HS => ?_)
  refine qu [6, 29] kr rfl ?_
  refine all_cons ?_ ?_
  ·refine qk I (i := 6) rfl rfl ?_
   refine e_is I HM [vQ t.v, vW t.r, vI wt] (.agg #[vQ t.v, vW t.r, vW wt]) rfl rfl (zo t.v t.r (wt : Int) om _) fun w23 hbw HM a I => ?_
   refine keepS (HM.pt 9 [0, 1, 2, 3, 4, 5, 6, 7, 8]) (fun HS => ?_)
   refine qu [28, 29] kr rfl ?_
   refine all_cons ?_ ?_
   ·refine qk I (i := 28) rfl rfl ?_
    refine e_is I HM [.agg #[vQ t.v, vW t.r, vW wt], vQ yz.floor, vQ pz.floor] (.agg e.cells) rfl rfl (qgn (⟨t.v, t.r, wt⟩ : En) e hEo yz.floor pz.floor hyf hpf hew _) fun w45 hbw HM a I => ?_
    refine keepS (HM.pt 9 [0, 1, 2, 3, 4, 5, 6, 7, 8]) (fun HS => ?_)
    refine Vb I HM HS ((VA 29 .n #[vQ 0, vW 0, vW 0]) fun w9 g9 => fun a I HM HS => ?_)
    refine s_on I 30 rfl (e_sa I HM 0 rfl rfl rfl rfl rfl qn rfl rfl (qw e) fun w3_30 HM => ?_)
    refine noS kr ?_
    refine qb kr ?_
    exact ⟨g9, I.sub kr, HM.pt 10 [0, 1, 2, 3, 4, 5, 6, 7, 8, 9]⟩
   refine all_cons ?_ all_nil
   refine qk I (i := 29) rfl rfl ?_
   refine s_ea I HM #[vQ 0, vW 0, vW 0] ?_
   clear I HM; intro a w9 g9 I HM
   refine keepS (HM.pt 10 [1, 2, 3, 4, 5, 6, 7, 8, 9]) (fun HS => ?_)
   refine Vb I HM HS ((VI 28 (.f .n) (h:=by exact fun HM => qgn (⟨t.v, t.r, wt⟩ : En) e hEo yz.floor pz.floor hyf hpf hew _)) fun w45 hbw => fun a I HM HS => ?_)
   refine s_on I 30 rfl (e_sa I HM 0 rfl rfl rfl rfl rfl qn rfl rfl (qw e) fun w3_30 HM => ?_)
   refine noS kr ?_
   refine qb kr ?_
   exact ⟨g9, I.sub kr, HM.pt 10 [0, 1, 2, 3, 4, 5, 6, 7, 8, 9]⟩
  refine all_cons ?_ all_nil
  refine qk I (i := 29) rfl rfl ?_
  refine s_ea I HM #[vQ 0, vW 0, vW 0] ?_
  clear I HM; intro a w9 g9 I HM
  refine keepS (HM.pt 10 [1, 2, 3, 4, 5, 6, 7, 8, 9]) (fun HS => ?_)
  refine Vb I HM HS ((VI 6 (.f .n) (h:=by exact fun HM => zo t.v t.r (wt : Int) om _)) fun w23 hbw => (VI 28 (.f .n) (h:=by exact fun HM => qgn (⟨t.v, t.r, wt⟩ : En) e hEo yz.floor pz.floor hyf hpf hew _)) fun w45 hbw => fun a I HM HS => ?_)
  refine s_on I 30 rfl (e_sa I HM 0 rfl rfl rfl rfl rfl qn rfl rfl (qw e) fun w3_30 HM => ?_)
  refine noS kr ?_
  refine qb kr ?_
  exact ⟨g9, I.sub kr, HM.pt 10 [0, 1, 2, 3, 4, 5, 6, 7, 8, 9]⟩
 clear I HM; rintro a w3 ⟨g9, I, HM⟩
 refine Jb I HM ((JP∘Jy (v := .agg t.cells) (h:=by exact Yl.loadS rfl rfl si_tk rfl (fun _ h => qa (h.blk (i := 1) rfl)))∘Jy (v := .agg e.cells) (h:=by exact Yl.loadS rfl rfl qn rfl (fun _ h => qa (h.blk (i := 0) rfl)))∘JI (h:=by exact fun HM => qiu t e heo.1 _)) fun w48 hbw => (JV si_tk O1' (h1:=by exact qbi (t.put e))) fun w4_3 => (Jt3∘Jr∘Jp 1∘Jf 3) fun a I HM => ?_)
 refine fo I 2 rfl rfl ?_
 refine zr I HM (i := 1) rfl rfl rfl rfl kr rfl rfl (by simp [Tk.cells]) fun w5_2 HM => ?_
 refine Jb I HM ((Jt2∘Jr∘Jg 5 O4∘Jp 1∘Jy (v := .agg #[vI ((t.put e).id), vI ((t.put e).group), vI ((t.put e).weight), vI to, vQ ((t.put e).mask), .bool ((t.put e).ready), vQ ((t.put e).v), vW ((t.put e).r)]) (h:=by exact Yl.loadS rfl rfl si_tk rfl (fun _ h => qa (h.blk (i := 1) rfl)))∘Jo (.agg (({ t.put e with cpu := (to : Int) } : Tk).cells)) (by exact rfl)∘Jy (h:=by exact Yl.ix0 gtA i 8 rfl rfl rfl)) fun a I HM => ?_)
 refine fo I 5 rfl rfl ?_
 refine qdg I HM (i := 8) (sz := 8) rfl rfl rfl rfl si_tk rfl (qbi ({ t.put e with cpu := (to : Int) } : Tk)) rfl (by rw [q8 tkL 8 qd]; omega) fun w6_5 HM => ?_
 replace HM := HM.asRow (i := 8) (ys := (ts.set i { t.put e with cpu := (to : Int) }).flatMap tkL) rfl (qa2 tkL 8 qd ts i { t.put e with cpu := (to : Int) } om)
 refine Jb I HM ((Jt4∘Jj∘JQ∘JP∘Jg 5 O1∘Jj) (Ju (fun hb57 => ?_) fun hb57 => ?_))
 ·
  refine (JT∘JR∘Jy (v := .agg #[vI cp, vQ cr, .slice gA ng gc, .slice lA nl lc, .slice uA nu uc, vS gtA nt tc, vS gsA ns sc]) (h:=by exact Yl.loadS rfl rfl si_st rfl (fun _ h => qa (h.blk (i := 4) rfl)))∘Jy (v := .agg y.cells) (h:=by exact Yl.loadS rfl rfl si_st rfl (fun _ h => qa (h.blk (i := 2) rfl)))∘Jf 1∘Jc O1∘Jo (vI gt) (by exact congrArg (Value.int .i64) (show (t.put e).group = _ from hgt))∘Jp 1∘JL (h:=by exact fun HM => qiy (x := (⟨cp, cr, gA, gc, gs, lA, lc, cl, uA, uc, cu, some ⟨gtA, 0, none⟩, tc, (ts.set i { t.put e with cpu := (to : Int) }), some ⟨gsA, 0, none⟩, sc, rs⟩ : Stm)) 5 HM rfl (qec (ts' := ts.set i { t.put e with cpu := (to : Int) }) hlns (by rw [List.length_set]; exact hlt)) hsz (heq.1.2.2) (heq.1.1) (hrg) (by rw [hyS]; exact qdr _) (hsp) hcr om om)) ?_
  rintro HM _ w63 ⟨y2, rfl, hy2, HM2⟩
  refine ⟨_, rfl, _, (show Mem W w63 (.blk g9 e.cells 143 :: .blk g8 #[vI ((t.put e).id), vI ((t.put e).group), vI ((t.put e).weight), vI to, vQ ((t.put e).mask), .bool ((t.put e).ready), vQ ((t.put e).v), vW ((t.put e).r)] 81 :: .blk g7 y.cells 45 :: .blk g6 #[vI 0, vQ 0, vN, vN, vN, vN, vN] 45 :: .blk g3 #[vI cp, vQ cr, .slice gA ng gc, .slice lA nl lc, .slice uA nu uc, vS gtA nt tc, vS gsA ns sc] 45 :: (stF y2 ++ (stF y ++ (T)))) from HM2), ?_⟩
  refine (JV si_st O4' (h1:=by exact qz y2)) fun w8_6 => (Jt6∘Jr∘Jy (v := .agg y2.cells) (h:=by exact Yl.loadS rfl rfl si_st rfl (fun _ h => qa (h.blk (i := 4) rfl)))∘JV si_st O3' (h1:=by exact qz y2)) fun w9_1 => (Jt1∘Jj∘JZ) fun a I HM => ?_
  exact ret1 rfl I (.cellS (i := 3) I HM rfl rfl si_st rfl) (StOut.drop (A := stF y) ⟨y2, rfl, hy2.trans ((by rw [hyS] : _ = _).trans (qt3 (x := (⟨cp, cr, gA, gc, gs, lA, lc, cl, uA, uc, cu, some ⟨gtA, 0, none⟩, tc, ts, some ⟨gsA, 0, none⟩, sc, rs⟩ : Stm)) ht hb57 hgt hct hwt hsy hsp2 hew).symm), HM.dropN 5 rfl⟩)
 refine (JF∘JS'∘JP∘Jy (v := .agg #[vI cp, vQ cr, .slice gA ng gc, .slice lA nl lc, .slice uA nu uc, vS gtA nt tc, vS gsA ns sc]) (h:=by exact Yl.loadS rfl rfl si_st rfl (fun _ h => qa (h.blk (i := 4) rfl)))∘JV si_st O3') fun w9_1 => (Jt1∘Jj∘JZ) fun a I HM => ?_
 exact ret1 rfl I (.cellS (i := 3) I HM rfl rfl si_st rfl) (StOut.drop (A := stF y) (qfl (y := (⟨cp, cr, gA, gc, gs, lA, lc, cl, uA, uc, cu, some ⟨gtA, 0, none⟩, tc, (ts.set i { t.put e with cpu := (to : Int) }), some ⟨gsA, 0, none⟩, sc, rs⟩ : Stm)) 5 HM rfl (qec hlns (by rw [List.length_set]; exact hlt)) (qwc (x := (⟨cp, cr, gA, gc, gs, lA, lc, cl, uA, uc, cu, some ⟨gtA, 0, none⟩, tc, ts, some ⟨gsA, 0, none⟩, sc, rs⟩ : Stm)) ht hb57 hgt hct hwt hsy hsp2 hew).symm))
theorem qgp {w : World} {x : Stm} {ng nl nu nt ns : Nat} (hl : Lns x ng nl nu nt ns) (hr : StRd w x) (hn : x.cu.length ≤ 1000000) (id : Int) : Calls Tryz.prog 117 #[.agg (sdC x ng nl nu nt ns), vI id] w (Is w (.bool (decide (id ∈ x.cu)))) := by
 rw [qfa hl]
 exact qkg x id w hr.u hn
theorem qc7 {w : World} {x : Stm} {ng nl nu nt ns c : Nat} {v : Int} (hx : MdOk x ng nl nu nt ns) (hr : StRd w x) (hv : loadS x.sta c = v) : Calls Tryz.prog 63 #[.agg (sdC x ng nl nu nt ns), vI c] w (Is w (vI v)) := by
 rw [qfa hx.ln, ← hv]
 have hx2 := hx
 obtain ⟨rfl, rfl, rfl, rfl, rfl⟩ := hx2.ln
 exact qgo x hx c w hr
theorem qr4 {w : World} {x : Stm} {ng nl nu nt ns c : Nat} (hx : MdOk x ng nl nu nt ns) (hr : StRd w x) (hc : (c : Int) < x.cpus) : Calls Tryz.prog 62 #[.agg (sdC x ng nl nu nt ns), vI c] w (Is w (vI (q3 x.sta c : Int))) := by
 rw [qfa hx.ln]
 have hx2 := hx
 obtain ⟨rfl, rfl, rfl, rfl, rfl⟩ := hx2.ln
 exact qhq x hx c w hr hc
theorem quw {w : World} {base : Nat} {e : TypeId} {size : Nat} {A : Option Addr} {n c : Nat} {xs : List Value} (h : w.ownsRow base e size (.slice A n c) n xs) : n ≤ c := by
 obtain ⟨A', c', h3, h4⟩ := qdz h
 injection h3 with _ _ h5
 subst h5
 exact h4
theorem tsRd {α : Type} {f : α → List Value} {sz : Nat} {w : World} {B n : Nat} {A : Option Addr} {l : List α} (hl : l.length = n) (h : Rd w B sz A n (l.flatMap f)) : Rd w B sz A l.length (l.flatMap f) := by rw [hl]; exact h
theorem qm2 {α : Type} {f : α → List Value} {sz : Nat} (hf : ∀ x, (f x).length = sz) {w : World} {B k c n : Nat} {A : Option Addr} {l : List α} (h : Rd w B sz A l.length (l.flatMap f)) (hk : k ≤ l.length) (hc : l.length ≤ c) (hn : l.length - k = n) : Rd w B sz (if c = k then A else A.map (·.add (k * sz))) n ((l.drop k).flatMap f) := by
 have h1 := Rd.qxs hf h hk hc
 rwa [List.length_drop, hn] at h1
theorem qfb {W w : World} {F T : List Fact} {x : Stm} {ng nl nu nt ns : Nat} (n : Nat) (HM : Mem W w F) (he : F.drop n = sdA x ng nl nu nt ns ++ T) (hx : MdOk x ng nl nu nt ns) (i to : Nat) (t : Tk) (ht : x.ts[i]? = some t) (hto : (to : Int) < x.cpus) :
  Calls Tryz.prog 118 #[.agg (sdC x ng nl nu nt ns), vI i, vI to] w (fun r w' => ∃ y : Stm, r = .returned (.agg y.cells) ∧ y.sta = moveS x.sta i (to : Int) ∧ Mem W w' (F.take n ++ (stF y ++ T))) :=
 (qiz W w x ng nl nu nt ns hx (F.take n ++ T) (HM.front n he) i to t ht hto).mono fun r w' ⟨y, h1, h2, h3⟩ => ⟨y, h1, h2, h3.back⟩
theorem qor (W w : World) (x : Stm) (ng nl nu nt ns : Nat) (hx : MdOk x ng nl nu nt ns) (T : List Fact) (HM : Mem W w (sdA x ng nl nu nt ns ++ T)) (o : Op30) (ho : o.Ok) :
    Calls Tryz.prog 71 #[.agg (sdC x ng nl nu nt ns), .agg o.cells] w (OpOut W T (qca x.sta o)) := by
 obtain ⟨cp, cr, gA, gc, gs, lA, lc, cl, uA, uc, cu, tA, tc, ts, sA, sc, rs⟩ := x
 replace HM : Mem W w (fG gA ng gc gs :: fI lA nl lc cl :: fI uA nu uc cu :: fT tA nt tc ts :: fS sA ns sc rs :: (fR rs ++ (T))) := HM
 have hln := hx.ln
 obtain ⟨hlg, hll, hlu, hlt, hls⟩ := hln
 replace hlg : gs.length = ng := hlg; replace hll : cl.length = nl := hll; replace hlu : cu.length = nu := hlu; replace hlt : ts.length = nt := hlt; replace hls : rs.length = ns := hls
 have hlns := hx.ln
 have hsp : SpsOk gs cp rs := hx.spots
 have hrg : rs.length = gs.length := hx.sh.rs
 have hcr : cr < 18446744073709551616 := hx.ok.credit
 obtain ⟨hcp1, hcp2, _, hgs⟩ := zf hx.sh.cfg
 replace hcp1 : 1 ≤ cp := hcp1; replace hcp2 : cp ≤ 64 := hcp2; replace hgs : gsOk gs = true := hgs
 have hgl1 := (qh hgs).1; have hgl2 := (qh hgs).2.1
 have hcll : (cl.length : Int) = cp := hx.sh.cl; have hcul : (cu.length : Int) = cp := hx.sh.cu
 have hfts : ts.length ≤ 1000000 := hx.few.t
 have hoc := ho.cpu; have hot := ho.task; have hog := ho.group; have how := ho.weight; have hoto := ho.to; have hotk := ho.ticks; have hom := ho.mask; have hok8 := ho.kind; unfold I64 at hoc hot hog how hoto hotk
 have hsx := qqa hx
 obtain ⟨gsA, rfl⟩ := qe (HM.own (i := 4) rfl) om
 show Calls Tryz.prog 71 #[.agg #[vI cp, vQ cr, .slice gA ng gc, .slice lA nl lc, .slice uA nu uc, .slice tA nt tc, vS gsA ns sc], .agg o.cells] w _
 refine (Jin2 HM Tryz.func71 77) ?_
 refine (JP∘JE) fun w2 g2 => (JE) fun w3 g3 => (JA #[vI 0, vQ 0, vN, vN, vN, vN, vN]) fun w4 g4 => (Jp 2∘Jj∘JQ∘JP∘Jg 2 O1∘Jp 2) (Ju (fun hb13 => ?_) fun hb13 => ?_)
 ·
  intro a I HM
  have hd13 := of_decide_eq_true hb13
  refine Jb I HM ((Jp 4∘Jd6∘Jj∘JT∘JP∘Jy (v := .agg #[vI cp, vQ cr, .slice gA ng gc, .slice lA nl lc, .slice uA nu uc, .slice tA nt tc, vS gsA ns sc]) (h:=by exact Yl.loadS rfl rfl si_st rfl (fun _ h => qa (h.blk (i := 2) rfl)))∘JV si_st O0') fun w2_1 => (Jp 2∘Jj∘JZ) fun a I HM => ?_)
  exact ret3 rfl I (.cellS (i := 0) I HM rfl rfl si_st rfl) (.tmp I rfl) (.tmp I rfl) (qj (y := (⟨cp, cr, gA, gc, gs, lA, lc, cl, uA, uc, cu, tA, tc, ts, some ⟨gsA, 0, none⟩, sc, rs⟩ : Stm)) 3 HM rfl hlns (if_pos (decide_eq_false (by show ¬ (1 ≤ o.task ∧ o.task ≤ 65535); omega))))
 intro a I HM
 have hd13 := of_decide_eq_false hb13
 refine Jb I HM ((Jg 2 O1∘Jp 2∘Jd5∘Jj) (Ji (fun hd17 => ?_) fun hd17 => ?_))
 ·
  refine (JT∘JP∘Jy (v := .agg #[vI cp, vQ cr, .slice gA ng gc, .slice lA nl lc, .slice uA nu uc, .slice tA nt tc, vS gsA ns sc]) (h:=by exact Yl.loadS rfl rfl si_st rfl (fun _ h => qa (h.blk (i := 2) rfl)))∘JV si_st O0') fun w2_1 => (Jp 2∘Jj∘JZ) fun a I HM => ?_
  exact ret3 rfl I (.cellS (i := 0) I HM rfl rfl si_st rfl) (.tmp I rfl) (.tmp I rfl) (qj (y := (⟨cp, cr, gA, gc, gs, lA, lc, cl, uA, uc, cu, tA, tc, ts, some ⟨gsA, 0, none⟩, sc, rs⟩ : Stm)) 3 HM rfl hlns (if_pos (decide_eq_false (by show ¬ (1 ≤ o.task ∧ o.task ≤ 65535); omega))))
 refine (JF∘JS'∘JP∘Jy (v := .agg #[vI cp, vQ cr, .slice gA ng gc, .slice lA nl lc, .slice uA nu uc, .slice tA nt tc, vS gsA ns sc]) (h:=by exact Yl.loadS rfl rfl si_st rfl (fun _ h => qa (h.blk (i := 2) rfl)))∘Jg 2 O1∘JI (h:=by exact fun HM => qeg (x := (⟨cp, cr, gA, gc, gs, lA, lc, cl, uA, uc, cu, tA, tc, ts, some ⟨gsA, 0, none⟩, sc, rs⟩ : Stm)) hlns (HM.sdRd 3 rfl hlns) hfts o.task)) fun w22 hbw => (Jp 1∘Jd3∘Jj∘JQ∘JP∘Jp 2∘Jd1∘Jj) (Ju (fun hb24 => ?_) fun hb24 => ?_)
 ·
  intro a I HM
  have hd24 := of_decide_eq_true hb24
  refine Jb I HM ((JT∘JP∘Jy (v := .agg #[vI cp, vQ cr, .slice gA ng gc, .slice lA nl lc, .slice uA nu uc, .slice tA nt tc, vS gsA ns sc]) (h:=by exact Yl.loadS rfl rfl si_st rfl (fun _ h => qa (h.blk (i := 2) rfl)))∘JV si_st O0') fun w5_1 => (Jp 2∘Jj∘JZ) fun a I HM => ?_)
  exact ret3 rfl I (.cellS (i := 0) I HM rfl rfl si_st rfl) (.tmp I rfl) (.tmp I rfl) (qj (y := (⟨cp, cr, gA, gc, gs, lA, lc, cl, uA, uc, cu, tA, tc, ts, some ⟨gsA, 0, none⟩, sc, rs⟩ : Stm)) 3 HM rfl hlns ((if_neg (nf (decide_eq_true (by show 1 ≤ o.task ∧ o.task ≤ 65535; omega)))).trans (if_pos (hd24))))
 intro a I HM
 have hd24 := of_decide_eq_false hb24
 obtain ⟨k, t, hk, ht, hkl, hkid⟩ := qco hd24
 replace hk : fidx ts o.task = (k : Int) := hk; replace ht : ts[k]? = some t := ht; replace hkl : k < ts.length := hkl
 obtain ⟨htg, hto⟩ := hx.task ht
 have hti := htg.id; have htgr := htg.group; have htc := htg.cpu; have htw := htg.weight; have htv := hto.v; have htr := hto.r; have htm := hto.mask
 replace htc : 0 ≤ t.cpu ∧ t.cpu < cp := htc
 obtain ⟨gt, hgt⟩ : ∃ n : Nat, t.group = (n : Int) := ⟨t.group.toNat, by omega⟩
 obtain ⟨ct, hct⟩ : ∃ n : Nat, t.cpu = (n : Int) := ⟨t.cpu.toNat, by omega⟩
 obtain ⟨wt, hwt⟩ : ∃ n : Nat, t.weight = (n : Int) := ⟨t.weight.toNat, by omega⟩
 have hEo : (⟨t.v, t.r, wt⟩ : En).Ok := En.qda htg.ent hwt htv
 revert HM; revert a; repeat (first | clear I | clear HM)
 intro a I HM
 obtain ⟨gtA, rfl⟩ := qe (HM.own (i := 6) rfl) (Nat.lt_of_le_of_lt (Nat.zero_le _) (show k < nt from (by omega : k < nt)))
 refine Jb I HM ((JF∘JS'∘JQ∘JP∘Jg 5 O2∘Jp 1∘Jo (vI k) (by rw [hk])∘Jy (h:=by exact Yl.ix0 gtA k 8 rfl rfl rfl)∘Jf 5∘Jy (v := .bool t.ready) (h:=by exact Yl.qo rfl rfl kr (fun _ h => h.qq qd (i := 6) rfl (k := k) (off := 5) (x := t) (ht) rfl))∘Jd4∘Jj) (Ju (fun hb31 => ?_) fun hb31 => ?_))
 ·
  refine (JT∘JP∘Jy (v := .agg #[vI cp, vQ cr, .slice gA ng gc, .slice lA nl lc, .slice uA nu uc, vS gtA nt tc, vS gsA ns sc]) (h:=by exact Yl.loadS rfl rfl si_st rfl (fun _ h => qa (h.blk (i := 2) rfl)))∘JV si_st O0') fun w7_1 => (Jp 2∘Jj∘JZ) fun a I HM => ?_
  exact ret3 rfl I (.cellS (i := 0) I HM rfl rfl si_st rfl) (.tmp I rfl) (.tmp I rfl) (qj (y := (⟨cp, cr, gA, gc, gs, lA, lc, cl, uA, uc, cu, some ⟨gtA, 0, none⟩, tc, ts, some ⟨gsA, 0, none⟩, sc, rs⟩ : Stm)) 3 HM rfl hlns ((if_neg (nf (decide_eq_true (by show 1 ≤ o.task ∧ o.task ≤ 65535; omega)))).trans ((if_neg (hd24)).trans (if_pos (by rw [qah (s := Stm.sta (⟨cp, cr, gA, gc, gs, lA, lc, cl, uA, uc, cu, some ⟨gtA, 0, none⟩, tc, ts, some ⟨gsA, 0, none⟩, sc, rs⟩ : Stm)) hk ht]; exact hb31)))))
 intro a I HM
 have hnr : t.ready = false := by simpa using hb31
 obtain ⟨⟨yA, yc, yl⟩, hy⟩ : ∃ y, rs.getD gt Rw.zero = y := ⟨_, rfl⟩
 have hys := hsp gt om; rw [hy] at hys
 have hyl : (yl.length : Int) = cp := hys.1
 revert HM; revert a; repeat (first | clear I | clear HM)
 intro a I HM
 obtain ⟨gy, rfl⟩ := HM.rwSome 8 rfl om hy om
 obtain ⟨yz, hyz⟩ : ∃ z, yl[ct]? = some z := ⟨_, List.getElem?_eq_getElem om⟩
 have hyo := hys.2 yz (List.mem_of_getElem? hyz)
 have hyv := hyo.1.v; have hyr := hyo.1.r; have hyf := hyo.1.floor
 obtain ⟨e, hew⟩ : ∃ e, (⟨t.v, t.r, wt⟩ : En).woken yz.floor cr = e := ⟨_, rfl⟩
 have heo : e.Ok ∧ e.w = wt := by rw [← hew]; exact En.qc8 hEo _ _ hyf
 have hsy := qag (x := (⟨cp, cr, gA, gc, gs, lA, lc, cl, uA, uc, cu, some ⟨gtA, 0, none⟩, tc, ts, some ⟨gsA, 0, none⟩, sc, rs⟩ : Stm)) (by show gt < rs.length; omega) hy hyz
 refine Jb I HM ((JF∘JS'∘JP∘Jy (v := .agg #[vI cp, vQ cr, .slice gA ng gc, .slice lA nl lc, .slice uA nu uc, vS gtA nt tc, vS gsA ns sc]) (h:=by exact Yl.loadS rfl rfl si_st rfl (fun _ h => qa (h.blk (i := 2) rfl)))∘JL (h:=by exact fun HM => qev (x := (⟨cp, cr, gA, gc, gs, lA, lc, cl, uA, uc, cu, some ⟨gtA, 0, none⟩, tc, ts, some ⟨gsA, 0, none⟩, sc, rs⟩ : Stm)) hlns (HM.sdRd 3 rfl hlns) (hx.few))) ?_)
 rintro HM _ w34 ⟨y, rfl, heq, hcap, hm⟩
 refine ⟨_, rfl, _, (show Mem W _ (.blk g4 #[vI 0, vQ 0, vN, vN, vN, vN, vN] 45 :: .blk g3 o.cells 52 :: .blk g2 #[vI cp, vQ cr, .slice gA ng gc, .slice lA nl lc, .slice uA nu uc, vS gtA nt tc, vS gsA ns sc] 45 :: fG gA ng gc gs :: fI lA nl lc cl :: fI uA nu uc cu :: fT (some ⟨gtA, 0, none⟩) nt tc ts :: fS (some ⟨gsA, 0, none⟩) ns sc rs :: (fR rs ++ (stF y ++ (T)))) from HM.joinG (A := fR rs) (T := (T)) 8 hm rfl), ?_⟩
 refine (JA #[vI 0, vQ 0, vN, vN, vN, vN, vN]) fun w8 g8 => (JV si_st O0' (h1:=by exact qz y)) fun w8_3 => (Jd2∘Jq) fun a I HM => ?_
 have hyS : y.sta = (⟨cp, cr, gA, gc, gs, lA, lc, cl, uA, uc, cu, some ⟨gtA, 0, none⟩, tc, ts, some ⟨gsA, 0, none⟩, sc, rs⟩ : Stm).sta := qf1 heq
 have hsz : Shp y.sta := by rw [hyS]; exact hsx
 refine Jb I HM ((JG∘JP∘Jg 5 O3∘Jp 1∘Jo (vI k) (by rw [hk])∘Jy (h:=by exact Yl.ix0 gtA k 8 rfl rfl rfl)∘Jy (v := .agg t.cells) (h:=by exact Yl.loadS rfl rfl si_tk rfl (fun _ h => h.qbf qd (i := 7) rfl (ht)))∘JA #[vI 0, vI 0, vI 0, vI 0, vQ 0, .bool false, vQ 0, vW 0]) fun w9 g9 => (JV si_tk O0' (h1:=by exact qbi t)) fun w9_6 => (Jd4∘Jj) fun a I HM => ?_)
 refine wp_seq ?_
 refine Jb I HM ((Vs .n [24]) fun wd10 => (Vf 1 6∘Vf 3 7∘Vf 5 2∘Vf 8 6∘Vf 10 1∘Vf 14 3∘Vf 19 0∘Vf 20 1∘Vy 0 (v := .agg t.cells) (h:=by exact Yl.loadS rfl rfl si_tk rfl (fun _ h => qa (h.blk (i := 0) rfl)))∘Vc 2 O0∘Vc 4 O0∘Vc 6 O0∘Vo (vI wt) (by rw [hwt])∘Vc 9 O4∘Vc 11 O0∘Vo (vI gt) (by rw [hgt])∘Vy 12 (h:=by exact Yl.ix0 gsA gt 1 rfl rfl rfl)∘Vy 13 (v := .slice ((rs.getD gt Rw.zero).A) ((rs.getD gt Rw.zero).l.length) ((rs.getD gt Rw.zero).c)) (h:=by exact Yl.r1 9 gt Rw.zero om rfl rfl rfl)∘Vo (vS gy yl.length yc) (by rw [hy])∘Vc 15 O0∘Vo (vI ct) (by rw [hct])∘Vy 16 (h:=by exact Yl.ix0 gy ct 3 rfl rfl rfl)∘Vf 17 2∘Vy 18 (v := vQ yz.floor) (h:=by exact Yl.qo rfl rfl kr (fun _ h => h.qat 10 (j := 2) rfl om hy (hyz) rfl))∘Vc 21 O4∘VI 7 .n (h:=by exact fun HM => zo t.v t.r (wt : Int) om _)) fun w47 hbw => (VI 22 .n (h:=by exact fun HM => qeh (⟨t.v, t.r, wt⟩ : En) e hEo yz.floor cr hyf hcr hew _)) fun w62 hbw => (VI 23 .n (h:=by exact fun HM => qiu t e heo.1 _)) fun w63 hbw => fun a I HM HS => ?_)
 refine s_on I 24 rfl (e_sa I HM 0 rfl rfl rfl rfl rfl si_tk rfl rfl (qbi (t.put e)) fun w10_24 HM => ?_)
 refine noS kr ?_
 refine qb kr ?_
 refine Jb I HM ((JP∘Jf 5) fun a I HM => ?_)
 refine fo I 1 rfl rfl ?_
 refine zr I HM (i := 0) rfl rfl rfl rfl kr rfl rfl (by simp [Tk.cells]) fun w11_1 HM => ?_
 refine Jb I HM ((Jt6∘Jr∘Jg 5 O4∘Jp 1∘Jo (vI k) (by rw [hk])∘Jy (v := .agg #[vI ((t.put e).id), vI ((t.put e).group), vI ((t.put e).weight), vI ((t.put e).cpu), vQ ((t.put e).mask), .bool true, vQ ((t.put e).v), vW ((t.put e).r)]) (h:=by exact Yl.loadS rfl rfl si_tk rfl (fun _ h => qa (h.blk (i := 0) rfl)))∘Jo (.agg (({ t.put e with ready := true } : Tk).cells)) (by exact rfl)∘Jy (h:=by exact Yl.ix0 gtA k 8 rfl rfl rfl)) fun a I HM => ?_)
 refine fo I 5 rfl rfl ?_
 refine qdg I HM (i := 8) (sz := 8) rfl rfl rfl rfl si_tk rfl (qbi ({ t.put e with ready := true } : Tk)) rfl (by rw [q8 tkL 8 qd]; omega) fun w12_5 HM => ?_
 replace HM := HM.asRow (i := 8) (ys := (ts.set k { t.put e with ready := true }).flatMap tkL) rfl (qa2 tkL 8 qd ts k { t.put e with ready := true } om)
 refine Jb I HM ((Jt6∘Jr∘Jy (v := .agg #[vI cp, vQ cr, .slice gA ng gc, .slice lA nl lc, .slice uA nu uc, vS gtA nt tc, vS gsA ns sc]) (h:=by exact Yl.loadS rfl rfl si_st rfl (fun _ h => qa (h.blk (i := 4) rfl)))∘Jy (v := .agg y.cells) (h:=by exact Yl.loadS rfl rfl si_st rfl (fun _ h => qa (h.blk (i := 1) rfl)))∘Jf 1∘Jc O0∘Jo (vI gt) (by exact congrArg (Value.int .i64) (show (t.put e).group = _ from hgt))∘Jf 3∘Jc O0∘Jo (vI ct) (by exact congrArg (Value.int .i64) (show (t.put e).cpu = _ from hct))∘JL (h:=by exact fun HM => qiy (x := (⟨cp, cr, gA, gc, gs, lA, lc, cl, uA, uc, cu, some ⟨gtA, 0, none⟩, tc, (ts.set k { t.put e with ready := true }), some ⟨gsA, 0, none⟩, sc, rs⟩ : Stm)) 5 HM rfl (qec (ts' := ts.set k { t.put e with ready := true }) hlns (by rw [List.length_set]; exact hlt)) hsz (heq.1.2.2) (heq.1.1) (hrg) (by rw [hyS]; exact qdr _) (hsp) hcr (by show ((ct : Nat) : Int) < cp; omega) om)) ?_)
 rintro HM _ w76 ⟨y2, rfl, hy2, HM2⟩
 refine ⟨_, rfl, _, (show Mem W w76 (.blk g9 #[vI ((t.put e).id), vI ((t.put e).group), vI ((t.put e).weight), vI ((t.put e).cpu), vQ ((t.put e).mask), .bool true, vQ ((t.put e).v), vW ((t.put e).r)] 81 :: .blk g8 y.cells 45 :: .blk g4 #[vI 0, vQ 0, vN, vN, vN, vN, vN] 45 :: .blk g3 o.cells 52 :: .blk g2 #[vI cp, vQ cr, .slice gA ng gc, .slice lA nl lc, .slice uA nu uc, vS gtA nt tc, vS gsA ns sc] 45 :: (stF y2 ++ (stF y ++ (T)))) from HM2), ?_⟩
 refine (JV si_st O2' (h1:=by exact qz y2)) fun w13_7 => (Jp 2∘Jj∘JZ) fun a I HM => ?_
 exact ret3 rfl I (.cellS (i := 2) I HM rfl rfl si_st rfl) (.tmp I rfl) (.tmp I rfl) (OpOut.drop (A := stF y) (qiv (y := y2) 5 HM rfl hy2 ((qjr (x := (⟨cp, cr, gA, gc, gs, lA, lc, cl, uA, uc, cu, some ⟨gtA, 0, none⟩, tc, ts, some ⟨gsA, 0, none⟩, sc, rs⟩ : Stm)) (decide_eq_true (by show 1 ≤ o.task ∧ o.task ≤ 65535; omega)) hk ht hnr hgt hct hwt hsy hew rfl).trans (by rw [hyS]))))
theorem qhr (W w : World) (x : Stm) (ng nl nu nt ns : Nat) (hx : MdOk x ng nl nu nt ns) (T : List Fact) (HM : Mem W w (sdA x ng nl nu nt ns ++ T)) (o : Op30) (ho : o.Ok) (hcur : ∀ c, c < x.cu.length → curOk x.sta c = true) :
    Calls Tryz.prog 72 #[.agg (sdC x ng nl nu nt ns), .agg o.cells] w (OpOut W T (qai x.sta o)) := by
 obtain ⟨cp, cr, gA, gc, gs, lA, lc, cl, uA, uc, cu, tA, tc, ts, sA, sc, rs⟩ := x
 replace HM : Mem W w (fG gA ng gc gs :: fI lA nl lc cl :: fI uA nu uc cu :: fT tA nt tc ts :: fS sA ns sc rs :: (fR rs ++ (T))) := HM
 have hln := hx.ln
 obtain ⟨hlg, hll, hlu, hlt, hls⟩ := hln
 replace hlg : gs.length = ng := hlg; replace hll : cl.length = nl := hll; replace hlu : cu.length = nu := hlu; replace hlt : ts.length = nt := hlt; replace hls : rs.length = ns := hls
 have hlns := hx.ln
 have hsp : SpsOk gs cp rs := hx.spots
 have hrg : rs.length = gs.length := hx.sh.rs
 have hcr : cr < 18446744073709551616 := hx.ok.credit
 obtain ⟨hcp1, hcp2, _, hgs⟩ := zf hx.sh.cfg
 replace hcp1 : 1 ≤ cp := hcp1; replace hcp2 : cp ≤ 64 := hcp2; replace hgs : gsOk gs = true := hgs
 have hgl1 := (qh hgs).1; have hgl2 := (qh hgs).2.1
 have hcll : (cl.length : Int) = cp := hx.sh.cl; have hcul : (cu.length : Int) = cp := hx.sh.cu
 have hfts : ts.length ≤ 1000000 := hx.few.t
 have hoc := ho.cpu; have hot := ho.task; have hog := ho.group; have how := ho.weight; have hoto := ho.to; have hotk := ho.ticks; have hom := ho.mask; have hok8 := ho.kind; unfold I64 at hoc hot hog how hoto hotk
 have hcuo := hx.ok.cu
 obtain ⟨guA, rfl⟩ := qe (HM.own (i := 2) rfl) om
 show Calls Tryz.prog 72 #[.agg #[vI cp, vQ cr, .slice gA ng gc, .slice lA nl lc, vS guA nu uc, .slice tA nt tc, .slice sA ns sc], .agg o.cells] w _
 refine (Jin2 HM Tryz.func72 61) ?_
 refine (JP∘JE) fun w2 g2 => (JE) fun w3 g3 => (JA #[vI 0, vQ 0, vN, vN, vN, vN, vN]) fun w4 g4 => (Jp 2∘Jj∘JQ∘JP∘Jg 1 O1∘Jp 2) (Ji (fun hd12 => ?_) fun hd12 => ?_)
 ·
  refine (Jp 7∘Jd6∘Jj∘JT∘JP∘Jy (v := .agg #[vI cp, vQ cr, .slice gA ng gc, .slice lA nl lc, vS guA nu uc, .slice tA nt tc, .slice sA ns sc]) (h:=by exact Yl.loadS rfl rfl si_st rfl (fun _ h => qa (h.blk (i := 2) rfl)))∘JV si_st O0') fun w2_1 => (Jp 2∘Jj∘JZ) fun a I HM => ?_
  exact ret3 rfl I (.cellS (i := 0) I HM rfl rfl si_st rfl) (.tmp I rfl) (.tmp I rfl) (qj (y := (⟨cp, cr, gA, gc, gs, lA, lc, cl, some ⟨guA, 0, none⟩, uc, cu, tA, tc, ts, sA, sc, rs⟩ : Stm)) 3 HM rfl hlns (if_pos (decide_eq_false (by show ¬ (0 ≤ o.cpu ∧ o.cpu < cp); omega))))
 refine (Jg 1 O1∘Jf 0∘Jg 0 O2∘Jp 2∘Jd6∘Jj) (Ju (fun hb19 => ?_) fun hb19 => ?_)
 ·
  intro a I HM
  have hd19 := of_decide_eq_true hb19
  refine Jb I HM ((JT∘JP∘Jy (v := .agg #[vI cp, vQ cr, .slice gA ng gc, .slice lA nl lc, vS guA nu uc, .slice tA nt tc, .slice sA ns sc]) (h:=by exact Yl.loadS rfl rfl si_st rfl (fun _ h => qa (h.blk (i := 2) rfl)))∘JV si_st O0') fun w2_1 => (Jp 2∘Jj∘JZ) fun a I HM => ?_)
  exact ret3 rfl I (.cellS (i := 0) I HM rfl rfl si_st rfl) (.tmp I rfl) (.tmp I rfl) (qj (y := (⟨cp, cr, gA, gc, gs, lA, lc, cl, some ⟨guA, 0, none⟩, uc, cu, tA, tc, ts, sA, sc, rs⟩ : Stm)) 3 HM rfl hlns (if_pos (decide_eq_false (by show ¬ (0 ≤ o.cpu ∧ o.cpu < cp); omega))))
 intro a I HM
 have hd19 := of_decide_eq_false hb19
 obtain ⟨c, hcc⟩ : ∃ n : Nat, o.cpu = (n : Int) := ⟨o.cpu.toNat, by omega⟩
 have hccp : ((c : Nat) : Int) < cp := by omega
 obtain ⟨id, hid⟩ : ∃ z, cu.getD c 0 = z := ⟨_, rfl⟩
 have hidI : I64 id := by rw [← hid]; exact hcuo _ (qm 0 (by show c < cu.length; omega))
 unfold I64 at hidI
 refine Jb I HM ((JF∘JS'∘JP∘Jg 4 O2∘Jf 1∘Jc O1∘Jo (vI c) (by rw [hcc])∘Jy (h:=by exact Yl.ix0 guA c 1 rfl rfl rfl)∘Jy (v := vI (cu.getD c 0)) (h:=by exact Yl.r1 5 c 0 om rfl rfl rfl)∘Jo (vI id) (by rw [hid])∘Jp 1∘Jd5∘Jj∘JQ∘JP∘Jp 2∘Jd1∘Jj) (Ju (fun hb28 => ?_) fun hb28 => ?_))
 ·
  intro a I HM
  have hd28 := eq_of_beq hb28
  refine Jb I HM ((JT∘JP∘Jy (v := .agg #[vI cp, vQ cr, .slice gA ng gc, .slice lA nl lc, vS guA nu uc, .slice tA nt tc, .slice sA ns sc]) (h:=by exact Yl.loadS rfl rfl si_st rfl (fun _ h => qa (h.blk (i := 2) rfl)))∘JV si_st O0') fun w5_1 => (Jp 2∘Jj∘JZ) fun a I HM => ?_)
  exact ret3 rfl I (.cellS (i := 0) I HM rfl rfl si_st rfl) (.tmp I rfl) (.tmp I rfl) (qj (y := (⟨cp, cr, gA, gc, gs, lA, lc, cl, some ⟨guA, 0, none⟩, uc, cu, tA, tc, ts, sA, sc, rs⟩ : Stm)) 3 HM rfl hlns ((if_neg (nf (decide_eq_true (by show 0 ≤ o.cpu ∧ o.cpu < cp; omega)))).trans (if_pos (by show cu.getD o.cpu.toNat 0 = 0; rw [hcc, Int.toNat_natCast, hid]; exact hd28))))
 intro a I HM
 have hd28 := ne_of_beq_false hb28
 have hid0 : id ≠ 0 := by omega
 have hcuk := qef (x := (⟨cp, cr, gA, gc, gs, lA, lc, cl, some ⟨guA, 0, none⟩, uc, cu, tA, tc, ts, sA, sc, rs⟩ : Stm)) (hcur c (by show c < cu.length; omega)) (by show cu.getD c 0 ≠ 0; rw [hid]; exact hid0)
 rw [show (⟨cp, cr, gA, gc, gs, lA, lc, cl, some ⟨guA, 0, none⟩, uc, cu, tA, tc, ts, sA, sc, rs⟩ : Stm).cu.getD c 0 = id from hid] at hcuk
 obtain ⟨k, t, hk, ht, hkl, hkid⟩ := hcuk
 replace hk : fidx ts id = (k : Int) := hk; replace ht : ts[k]? = some t := ht; replace hkl : k < ts.length := hkl
 revert HM; revert a; repeat (first | clear I | clear HM)
 intro a I HM
 obtain ⟨gtA, rfl⟩ := qe (HM.own (i := 6) rfl) (Nat.lt_of_le_of_lt (Nat.zero_le _) (show k < nt from (by omega : k < nt)))
 have htcap : nt ≤ tc := quw (HM.own (i := 6) rfl)
 refine Jb I HM ((JF∘JS'∘JP∘Jy (v := .agg #[vI cp, vQ cr, .slice gA ng gc, .slice lA nl lc, vS guA nu uc, vS gtA nt tc, .slice sA ns sc]) (h:=by exact Yl.loadS rfl rfl si_st rfl (fun _ h => qa (h.blk (i := 2) rfl)))∘Jp 1∘JI (h:=by exact fun HM => qrz (x := (⟨cp, cr, gA, gc, gs, lA, lc, cl, some ⟨guA, 0, none⟩, uc, cu, some ⟨gtA, 0, none⟩, tc, ts, sA, sc, rs⟩ : Stm)) hlns (HM.sdRd 3 rfl hlns) hfts id k hk)) fun w32 hbw => (Jp 1∘Jd3∘Jr∘Jg 4 O2∘Jf 1∘Jc O1∘Jo (vI c) (by rw [hcc])∘Jy (h:=by exact Yl.ix0 guA c 1 rfl rfl rfl)) fun a I HM => ?_)
 refine fo I 5 rfl rfl ?_
 refine qv I HM (i := 5) rfl rfl rfl rfl kr rfl rfl (by rw [List.length_map]; omega) fun w7_5 HM => ?_
 replace HM := HM.asRow (i := 5) (ys := (cu.set c 0).map I64i) rfl (qa6 I64i cu c 0 om)
 refine Jb I HM ((Jt4∘Jr∘Jg 5 O2∘Jp 1∘Jy (h:=by exact Yl.ix0 gtA k 8 rfl rfl rfl)∘Jf 5) fun a I HM => ?_)
 refine fo I 5 rfl rfl ?_
 refine qv I HM (i := 6) rfl rfl rfl rfl kr rfl rfl (by rw [q8 tkL 8 qd]; omega) fun w8_5 HM => ?_
 replace HM := HM.asRow (i := 6) (ys := (ts.set k { t with ready := false }).flatMap tkL) rfl (zc tkL 8 qd ts k t { t with ready := false } ht 5 de _ rfl)
 refine Jb I HM ((Jt4∘Jj∘JQ∘JP∘Jg 0 O1∘Jp 1∘Jd1∘Jj) (Je (fun hd45 => ?_) fun hd45 => ?_))
 ·
  refine (JT∘Vs .n [13]) fun wd10 => (Vf 1 5∘Vp [3]∘Vf 6 5∘Vp [8]∘Vc 2 O2∘Vy 4 (h:=by exact Yl.qbe ei_tk (j := k) rfl rfl rfl om)∘Vc 7 O2∘VaK 9 1∘Vy 10 (h:=by exact Yl.sliceFrom ei_tk (j := (k + 1)) rfl rfl rfl om)) fun a I HM HS => ?_
  refine s_on I 0 rfl ?_
  refine qac I HM rfl ei_tk rfl de ?_
  clear I HM; intro a w46 g46 I HM
  refine keepS (HM.pt 9 [1, 2, 3, 4, 5, 6, 7, 8]) (fun HS => ?_)
  refine s_on I 5 rfl (ze I HM (i := 0) rfl ei_tk rfl rfl rfl (news := (((ts.set k { t with ready := false }).take k).flatMap tkL)) (Rd.qsd qd (tsRd (l := (ts.set k { t with ready := false })) (by rw [List.length_set]; exact hlt) (HM.rd (i := 7) rfl)) (by rw [List.length_set]; omega)) (qbs _) om om rfl de ?_)
  clear I HM; intro a w51 A51 c51 I HM hc51
  refine keepS (HM.pt 9 [1, 2, 3, 4, 5, 6, 7, 8]) (fun HS => ?_)
  refine s_on I 11 rfl (ze I HM (i := 0) rfl ei_tk rfl rfl rfl (news := (((ts.set k { t with ready := false }).drop (k + 1)).flatMap tkL)) (qm2 qd (tsRd (l := (ts.set k { t with ready := false })) (by rw [List.length_set]; exact hlt) (HM.rd (i := 7) rfl)) (by rw [List.length_set]; omega) (by rw [List.length_set]; omega) (by rw [List.length_set]; omega)) (qbs _) om om rfl de ?_)
  clear I HM; intro a w57 A57 c57 I HM hc57
  refine keepS (HM.pt 9 [1, 2, 3, 4, 5, 6, 7, 8]) (fun HS => ?_)
  refine Vb I HM HS ((Vf 12 5) fun a I HM HS => ?_)
  refine s_on I 13 rfl (s_es I HM 3 fun w10_13 HM => ?_)
  refine noS kr ?_
  refine qb kr ?_
  replace HM : Mem W _ (.row (.slice A57 ((0 + k) + (nt - (k + 1))) c57) ((0 + k) + (nt - (k + 1))) (([] ++ (((ts.set k { t with ready := false }).take k).flatMap tkL)) ++ (((ts.set k { t with ready := false }).drop (k + 1)).flatMap tkL)) 81 8 :: .blk g4 #[vI 0, vQ 0, vN, vN, vN, vN, vN] 45 :: .blk g3 o.cells 52 :: .blk g2 #[vI cp, vQ cr, .slice gA ng gc, .slice lA nl lc, vS guA nu uc, .slice A57 ((0 + k) + (nt - (k + 1))) c57, .slice sA ns sc] 45 :: fG gA ng gc gs :: fI lA nl lc cl :: fI (some ⟨guA, 0, none⟩) nu uc (cu.set c 0) :: fT (some ⟨gtA, 0, none⟩) nt tc (ts.set k { t with ready := false }) :: fS sA ns sc rs :: (fR rs ++ (T))) := HM
  have hn57 : 0 + k + (nt - (k + 1)) = nt - 1 := by omega
  rw [hn57] at HM hc57
  replace HM := HM.asRow (i := 0) (ys := ((ts.set k { t with ready := false }).eraseIdx k).flatMap tkL) rfl (by rw [List.nil_append]; exact qme (by rw [List.length_set]; omega))
  refine Jb I HM ((JG∘JP∘Jy (v := .agg #[vI cp, vQ cr, .slice gA ng gc, .slice lA nl lc, vS guA nu uc, .slice A57 (nt - 1) c57, .slice sA ns sc]) (h:=by exact Yl.loadS rfl rfl si_st rfl (fun _ h => qa (h.blk (i := 3) rfl)))∘Jp 1∘JV si_st O1') fun w11_2 => (Jp 2∘Jj∘JZ) fun a I HM => ?_)
  exact ret3 rfl I (.cellS (i := 1) I HM rfl rfl si_st rfl) (.tmp I rfl) (.tmp I rfl) (qj (y := (⟨cp, cr, gA, gc, gs, lA, lc, cl, some ⟨guA, 0, none⟩, uc, (cu.set c 0), A57, c57, ((ts.set k { t with ready := false }).eraseIdx k), sA, sc, rs⟩ : Stm)) 0 (HM.pt 9 [4, 5, 6, 0, 8]) rfl ⟨hlg, hll, by show (cu.set c 0).length = nu; rw [List.length_set]; exact hlu, by show ((ts.set k { t with ready := false }).eraseIdx k).length = nt - 1; rw [List.length_eraseIdx_of_lt (by rw [List.length_set]; omega), List.length_set, hlt], hls⟩ (qmf (x := (⟨cp, cr, gA, gc, gs, lA, lc, cl, some ⟨guA, 0, none⟩, uc, cu, some ⟨gtA, 0, none⟩, tc, ts, sA, sc, rs⟩ : Stm)) (decide_eq_true (by show 0 ≤ o.cpu ∧ o.cpu < cp; omega)) hcc hid hid0 hk ht om))
 refine (JF∘JS'∘JP∘Jy (v := .agg #[vI cp, vQ cr, .slice gA ng gc, .slice lA nl lc, vS guA nu uc, vS gtA nt tc, .slice sA ns sc]) (h:=by exact Yl.loadS rfl rfl si_st rfl (fun _ h => qa (h.blk (i := 2) rfl)))∘Jp 1∘JV si_st O0') fun w11_2 => (Jp 2∘Jj∘JZ) fun a I HM => ?_
 exact ret3 rfl I (.cellS (i := 0) I HM rfl rfl si_st rfl) (.tmp I rfl) (.tmp I rfl) (qj (y := (⟨cp, cr, gA, gc, gs, lA, lc, cl, some ⟨guA, 0, none⟩, uc, (cu.set c 0), some ⟨gtA, 0, none⟩, tc, (ts.set k { t with ready := false }), sA, sc, rs⟩ : Stm)) 3 HM rfl ⟨hlg, hll, by show (cu.set c 0).length = nu; rw [List.length_set]; exact hlu, by show (ts.set k { t with ready := false }).length = nt; rw [List.length_set]; exact hlt, hls⟩ (qhe (x := (⟨cp, cr, gA, gc, gs, lA, lc, cl, some ⟨guA, 0, none⟩, uc, cu, some ⟨gtA, 0, none⟩, tc, ts, sA, sc, rs⟩ : Stm)) (decide_eq_true (by show 0 ≤ o.cpu ∧ o.cpu < cp; omega)) hcc hid hid0 hk ht om))
theorem qkh (W w : World) (x : Stm) (ng nl nu nt ns : Nat) (hx : MdOk x ng nl nu nt ns) (T : List Fact) (HM : Mem W w (sdA x ng nl nu nt ns ++ T)) (o : Op30) (ho : o.Ok) :
    Calls Tryz.prog 75 #[.agg (sdC x ng nl nu nt ns), .agg o.cells] w (OpOut W T (qad x.sta o)) := by
 obtain ⟨cp, cr, gA, gc, gs, lA, lc, cl, uA, uc, cu, tA, tc, ts, sA, sc, rs⟩ := x
 replace HM : Mem W w (fG gA ng gc gs :: fI lA nl lc cl :: fI uA nu uc cu :: fT tA nt tc ts :: fS sA ns sc rs :: (fR rs ++ (T))) := HM
 have hln := hx.ln
 obtain ⟨hlg, hll, hlu, hlt, hls⟩ := hln
 replace hlg : gs.length = ng := hlg; replace hll : cl.length = nl := hll; replace hlu : cu.length = nu := hlu; replace hlt : ts.length = nt := hlt; replace hls : rs.length = ns := hls
 have hlns := hx.ln
 have hsp : SpsOk gs cp rs := hx.spots
 have hrg : rs.length = gs.length := hx.sh.rs
 have hcr : cr < 18446744073709551616 := hx.ok.credit
 obtain ⟨hcp1, hcp2, _, hgs⟩ := zf hx.sh.cfg
 replace hcp1 : 1 ≤ cp := hcp1; replace hcp2 : cp ≤ 64 := hcp2; replace hgs : gsOk gs = true := hgs
 have hgl1 := (qh hgs).1; have hgl2 := (qh hgs).2.1
 have hcll : (cl.length : Int) = cp := hx.sh.cl; have hcul : (cu.length : Int) = cp := hx.sh.cu
 have hfts : ts.length ≤ 1000000 := hx.few.t
 have hoc := ho.cpu; have hot := ho.task; have hog := ho.group; have how := ho.weight; have hoto := ho.to; have hotk := ho.ticks; have hom := ho.mask; have hok8 := ho.kind; unfold I64 at hoc hot hog how hoto hotk
 show Calls Tryz.prog 75 #[.agg #[vI cp, vQ cr, .slice gA ng gc, .slice lA nl lc, .slice uA nu uc, .slice tA nt tc, .slice sA ns sc], .agg o.cells] w _
 refine (Jin2 HM Tryz.func75 74) ?_
 refine (JP∘JE) fun w2 g2 => (JE) fun w3 g3 => (JA #[vI 0, vQ 0, vN, vN, vN, vN, vN]) fun w4 g4 => (Jp 2∘Jj∘JQ∘JB∘JP∘Jg 5 O1∘Jp 2) (Ji (fun hd12 => ?_) fun hd12 => ?_)
 ·
  refine (Jv 8 [(8, .bool true)]∘Jd3∘Jj∘JT∘JP∘Jy (v := .agg #[vI cp, vQ cr, .slice gA ng gc, .slice lA nl lc, .slice uA nu uc, .slice tA nt tc, .slice sA ns sc]) (h:=by exact Yl.loadS rfl rfl si_st rfl (fun _ h => qa (h.blk (i := 2) rfl)))∘JV si_st O0') fun w2_1 => (Jp 2∘Jj∘JZ) fun a I HM => ?_
  exact ret3 rfl I (.cellS (i := 0) I HM rfl rfl si_st rfl) (.tmp I rfl) (.tmp I rfl) (qj (y := (⟨cp, cr, gA, gc, gs, lA, lc, cl, uA, uc, cu, tA, tc, ts, sA, sc, rs⟩ : Stm)) 3 HM rfl hlns (if_pos (decide_eq_false (by show ¬ (0 ≤ o.to ∧ o.to < cp); omega))))
 refine (Jg 5 O1∘Jf 0∘Jg 0 O2∘Jp 3∘Jd6∘Jj) (Ju (fun hb8 => ?_) fun hb8 => ?_)
 ·
  intro a I HM
  have hd8 := of_decide_eq_true hb8
  refine Jb I HM ((JT∘JP∘Jy (v := .agg #[vI cp, vQ cr, .slice gA ng gc, .slice lA nl lc, .slice uA nu uc, .slice tA nt tc, .slice sA ns sc]) (h:=by exact Yl.loadS rfl rfl si_st rfl (fun _ h => qa (h.blk (i := 2) rfl)))∘JV si_st O0') fun w2_1 => (Jp 2∘Jj∘JZ) fun a I HM => ?_)
  exact ret3 rfl I (.cellS (i := 0) I HM rfl rfl si_st rfl) (.tmp I rfl) (.tmp I rfl) (qj (y := (⟨cp, cr, gA, gc, gs, lA, lc, cl, uA, uc, cu, tA, tc, ts, sA, sc, rs⟩ : Stm)) 3 HM rfl hlns (if_pos (decide_eq_false (by show ¬ (0 ≤ o.to ∧ o.to < cp); omega))))
 intro a I HM
 have hd8 := of_decide_eq_false hb8
 obtain ⟨c, hcc⟩ : ∃ n : Nat, o.to = (n : Int) := ⟨o.to.toNat, by omega⟩
 have hccp : ((c : Nat) : Int) < cp := by omega
 refine Jb I HM ((JF∘JP∘Jg 2 O1∘Jp 2) (Ji (fun hd25 => ?_) fun hd25 => ?_))
 ·
  refine (Jp 5∘Jd6∘Jj∘JT∘JP∘Jy (v := .agg #[vI cp, vQ cr, .slice gA ng gc, .slice lA nl lc, .slice uA nu uc, .slice tA nt tc, .slice sA ns sc]) (h:=by exact Yl.loadS rfl rfl si_st rfl (fun _ h => qa (h.blk (i := 2) rfl)))∘JV si_st O0') fun w4_1 => (Jp 2∘Jj∘JZ) fun a I HM => ?_
  exact ret3 rfl I (.cellS (i := 0) I HM rfl rfl si_st rfl) (.tmp I rfl) (.tmp I rfl) (qj (y := (⟨cp, cr, gA, gc, gs, lA, lc, cl, uA, uc, cu, tA, tc, ts, sA, sc, rs⟩ : Stm)) 3 HM rfl hlns ((if_neg (nf (decide_eq_true (by show 0 ≤ o.to ∧ o.to < cp; omega)))).trans (if_pos (decide_eq_false (by show ¬ (1 ≤ o.task ∧ o.task ≤ 65535); omega)))))
 refine (Jg 2 O1∘Jp 3∘Jd6∘Jj) (Ji (fun hd21 => ?_) fun hd21 => ?_)
 ·
  refine (JT∘JP∘Jy (v := .agg #[vI cp, vQ cr, .slice gA ng gc, .slice lA nl lc, .slice uA nu uc, .slice tA nt tc, .slice sA ns sc]) (h:=by exact Yl.loadS rfl rfl si_st rfl (fun _ h => qa (h.blk (i := 2) rfl)))∘JV si_st O0') fun w4_1 => (Jp 2∘Jj∘JZ) fun a I HM => ?_
  exact ret3 rfl I (.cellS (i := 0) I HM rfl rfl si_st rfl) (.tmp I rfl) (.tmp I rfl) (qj (y := (⟨cp, cr, gA, gc, gs, lA, lc, cl, uA, uc, cu, tA, tc, ts, sA, sc, rs⟩ : Stm)) 3 HM rfl hlns ((if_neg (nf (decide_eq_true (by show 0 ≤ o.to ∧ o.to < cp; omega)))).trans (if_pos (decide_eq_false (by show ¬ (1 ≤ o.task ∧ o.task ≤ 65535); omega)))))
 refine (JF∘JS'∘JP∘Jy (v := .agg #[vI cp, vQ cr, .slice gA ng gc, .slice lA nl lc, .slice uA nu uc, .slice tA nt tc, .slice sA ns sc]) (h:=by exact Yl.loadS rfl rfl si_st rfl (fun _ h => qa (h.blk (i := 2) rfl)))∘Jg 2 O1∘JI (h:=by exact fun HM => qeg (x := (⟨cp, cr, gA, gc, gs, lA, lc, cl, uA, uc, cu, tA, tc, ts, sA, sc, rs⟩ : Stm)) hlns (HM.sdRd 3 rfl hlns) hfts o.task)) fun w34 hbw => (Jp 1∘Jd3∘Jj∘JQ∘JB∘JP∘Jp 3∘Jd2∘Jj) (Ju (fun hb35 => ?_) fun hb35 => ?_)
 ·
  intro a I HM
  have hd35 := of_decide_eq_true hb35
  refine Jb I HM ((JT∘JP∘Jy (v := .agg #[vI cp, vQ cr, .slice gA ng gc, .slice lA nl lc, .slice uA nu uc, .slice tA nt tc, .slice sA ns sc]) (h:=by exact Yl.loadS rfl rfl si_st rfl (fun _ h => qa (h.blk (i := 2) rfl)))∘JV si_st O0') fun w7_1 => (Jp 2∘Jj∘JZ) fun a I HM => ?_)
  exact ret3 rfl I (.cellS (i := 0) I HM rfl rfl si_st rfl) (.tmp I rfl) (.tmp I rfl) (qj (y := (⟨cp, cr, gA, gc, gs, lA, lc, cl, uA, uc, cu, tA, tc, ts, sA, sc, rs⟩ : Stm)) 3 HM rfl hlns ((if_neg (nf (decide_eq_true (by show 0 ≤ o.to ∧ o.to < cp; omega)))).trans ((if_neg (nf (decide_eq_true (by show 1 ≤ o.task ∧ o.task ≤ 65535; omega)))).trans (if_pos (hd35)))))
 intro a I HM
 have hd35 := of_decide_eq_false hb35
 obtain ⟨k, t, hk, ht, hkl, hkid⟩ := qco hd35
 replace hk : fidx ts o.task = (k : Int) := hk; replace ht : ts[k]? = some t := ht; replace hkl : k < ts.length := hkl
 obtain ⟨htg, hto⟩ := hx.task ht
 have hti := htg.id; have htgr := htg.group; have htc := htg.cpu; have htw := htg.weight; have htv := hto.v; have htr := hto.r; have htm := hto.mask
 replace htc : 0 ≤ t.cpu ∧ t.cpu < cp := htc
 obtain ⟨gt, hgt⟩ : ∃ n : Nat, t.group = (n : Int) := ⟨t.group.toNat, by omega⟩
 obtain ⟨ct, hct⟩ : ∃ n : Nat, t.cpu = (n : Int) := ⟨t.cpu.toNat, by omega⟩
 obtain ⟨wt, hwt⟩ : ∃ n : Nat, t.weight = (n : Int) := ⟨t.weight.toNat, by omega⟩
 have hEo : (⟨t.v, t.r, wt⟩ : En).Ok := En.qda htg.ent hwt htv
 revert HM; revert a; repeat (first | clear I | clear HM)
 intro a I HM
 obtain ⟨gtA, rfl⟩ := qe (HM.own (i := 6) rfl) (Nat.lt_of_le_of_lt (Nat.zero_le _) (show k < nt from (by omega : k < nt)))
 have hbm := Nat.div_le_self t.mask (2 ^ c)
 refine Jb I HM ((JF∘JP∘Jy (v := .agg #[vI cp, vQ cr, .slice gA ng gc, .slice lA nl lc, .slice uA nu uc, vS gtA nt tc, .slice sA ns sc]) (h:=by exact Yl.loadS rfl rfl si_st rfl (fun _ h => qa (h.blk (i := 2) rfl)))∘Jg 2 O1∘JI (h:=by exact fun HM => qgp (x := (⟨cp, cr, gA, gc, gs, lA, lc, cl, uA, uc, cu, some ⟨gtA, 0, none⟩, tc, ts, sA, sc, rs⟩ : Stm)) hlns (HM.sdRd 3 rfl hlns) hx.few.u o.task)) fun w43 hbw => (Jp 1∘Jd3∘Jj) (Ji (fun hd39 => ?_) fun hd39 => ?_))
 ·
  refine (JT∘JP∘Jy (v := .agg #[vI cp, vQ cr, .slice gA ng gc, .slice lA nl lc, .slice uA nu uc, vS gtA nt tc, .slice sA ns sc]) (h:=by exact Yl.loadS rfl rfl si_st rfl (fun _ h => qa (h.blk (i := 2) rfl)))∘JV si_st O0') fun w9_1 => (Jp 2∘Jj∘JZ) fun a I HM => ?_
  exact ret3 rfl I (.cellS (i := 0) I HM rfl rfl si_st rfl) (.tmp I rfl) (.tmp I rfl) (qj (y := (⟨cp, cr, gA, gc, gs, lA, lc, cl, uA, uc, cu, some ⟨gtA, 0, none⟩, tc, ts, sA, sc, rs⟩ : Stm)) 3 HM rfl hlns ((if_neg (nf (decide_eq_true (by show 0 ≤ o.to ∧ o.to < cp; omega)))).trans ((if_neg (nf (decide_eq_true (by show 1 ≤ o.task ∧ o.task ≤ 65535; omega)))).trans ((if_neg (hd35)).trans (if_pos (hd39))))))
 refine (JF) fun a I HM => ?_
 refine wp_seq ?_
 refine Jb I HM ((Vs .n []) fun wd10 => (Vf 0 5∘Vf 6 5∘Vc 1 O2∘Vp [2]∘Vo (vI k) (by rw [hk])∘Vy 3 (h:=by exact Yl.ix0 gtA k 8 rfl rfl rfl)∘Vf 4 3∘Vy 5 (v := vI t.cpu) (h:=by exact Yl.qo rfl rfl kr (fun _ h => h.qq qd (i := 6) rfl (k := k) (off := 3) (x := t) (ht) rfl))∘Vc 7 O1∘Vo (vI c) (by rw [hcc])∘Vp [8, 9]∘Vd∘Jd6) (Je (fun hd45 => ?_) fun hd45 => ?_))
 ·
  refine (JT∘JP∘Jy (v := .agg #[vI cp, vQ cr, .slice gA ng gc, .slice lA nl lc, .slice uA nu uc, vS gtA nt tc, .slice sA ns sc]) (h:=by exact Yl.loadS rfl rfl si_st rfl (fun _ h => qa (h.blk (i := 2) rfl)))∘JV si_st O0') fun w11_1 => (Jp 2∘Jj∘JZ) fun a I HM => ?_
  exact ret3 rfl I (.cellS (i := 0) I HM rfl rfl si_st rfl) (.tmp I rfl) (.tmp I rfl) (qj (y := (⟨cp, cr, gA, gc, gs, lA, lc, cl, uA, uc, cu, some ⟨gtA, 0, none⟩, tc, ts, sA, sc, rs⟩ : Stm)) 3 HM rfl hlns ((if_neg (nf (decide_eq_true (by show 0 ≤ o.to ∧ o.to < cp; omega)))).trans ((if_neg (nf (decide_eq_true (by show 1 ≤ o.task ∧ o.task ≤ 65535; omega)))).trans ((if_neg (hd35)).trans ((if_neg (hd39)).trans (if_pos (by rw [qah (s := Stm.sta (⟨cp, cr, gA, gc, gs, lA, lc, cl, uA, uc, cu, some ⟨gtA, 0, none⟩, tc, ts, sA, sc, rs⟩ : Stm)) hk ht]; omega)))))))
 refine (JF) fun a I HM => ?_
 refine wp_seq ?_
 refine Jb I HM ((Vs .n []) fun wd12 => (Vf 0 5∘Vf 6 5∘Vc 1 O2∘Vp [2]∘Vo (vI k) (by rw [hk])∘Vy 3 (h:=by exact Yl.ix0 gtA k 8 rfl rfl rfl)∘Vf 4 4∘Vy 5 (v := vQ t.mask) (h:=by exact Yl.qo rfl rfl kr (fun _ h => h.qq qd (i := 6) rfl (k := k) (off := 4) (x := t) (ht) rfl))∘Vc 7 O1∘Vo (vI c) (by rw [hcc])∘Vy 8 (v := vQ (t.mask / 2 ^ c : Nat)) (h:=by exact Yl.shrN (m := t.mask) (n := c) rfl rfl rfl (by show _ ≤ 64; omega))∘Vp [9]∘Vo (vQ ((t.mask / 2 ^ c) % 2 : Nat)) (by exact zn .u64 _ 2)∘Vp [10, 11]∘Vd∘Jd6) (Je (fun hd56 => ?_) fun hd56 => ?_))
 ·
  refine (JT∘JP∘Jy (v := .agg #[vI cp, vQ cr, .slice gA ng gc, .slice lA nl lc, .slice uA nu uc, vS gtA nt tc, .slice sA ns sc]) (h:=by exact Yl.loadS rfl rfl si_st rfl (fun _ h => qa (h.blk (i := 2) rfl)))∘JV si_st O0') fun w13_1 => (Jp 2∘Jj∘JZ) fun a I HM => ?_
  exact ret3 rfl I (.cellS (i := 0) I HM rfl rfl si_st rfl) (.tmp I rfl) (.tmp I rfl) (qj (y := (⟨cp, cr, gA, gc, gs, lA, lc, cl, uA, uc, cu, some ⟨gtA, 0, none⟩, tc, ts, sA, sc, rs⟩ : Stm)) 3 HM rfl hlns ((if_neg (nf (decide_eq_true (by show 0 ≤ o.to ∧ o.to < cp; omega)))).trans ((if_neg (nf (decide_eq_true (by show 1 ≤ o.task ∧ o.task ≤ 65535; omega)))).trans ((if_neg (hd35)).trans ((if_neg (hd39)).trans ((if_neg (by rw [qah (s := Stm.sta (⟨cp, cr, gA, gc, gs, lA, lc, cl, uA, uc, cu, some ⟨gtA, 0, none⟩, tc, ts, sA, sc, rs⟩ : Stm)) hk ht]; omega)).trans (if_pos (by rw [qah (s := Stm.sta (⟨cp, cr, gA, gc, gs, lA, lc, cl, uA, uc, cu, some ⟨gtA, 0, none⟩, tc, ts, sA, sc, rs⟩ : Stm)) hk ht]; exact qml rfl hcc om))))))))
 refine (JF∘JS'∘JP∘Jy (v := .agg #[vI cp, vQ cr, .slice gA ng gc, .slice lA nl lc, .slice uA nu uc, vS gtA nt tc, .slice sA ns sc]) (h:=by exact Yl.loadS rfl rfl si_st rfl (fun _ h => qa (h.blk (i := 2) rfl)))∘Jp 1∘Jo (vI k) (by rw [hk])∘Jf 5∘Jc O1∘Jo (vI c) (by rw [hcc])∘JL (h:=by exact fun HM => qfb 3 HM rfl hx k c t ht om)) ?_
 rintro HM _ w73 ⟨y2, rfl, hy2, HM2⟩
 refine ⟨_, rfl, _, (show Mem W w73 (.blk g4 #[vI 0, vQ 0, vN, vN, vN, vN, vN] 45 :: .blk g3 o.cells 52 :: .blk g2 #[vI cp, vQ cr, .slice gA ng gc, .slice lA nl lc, .slice uA nu uc, vS gtA nt tc, .slice sA ns sc] 45 :: (stF y2 ++ (T))) from HM2), ?_⟩
 refine (JV si_st O0' (h1:=by exact qz y2)) fun w14_5 => (Jp 2∘Jj∘JZ) fun a I HM => ?_
 exact ret3 rfl I (.cellS (i := 0) I HM rfl rfl si_st rfl) (.tmp I rfl) (.tmp I rfl) (qiv (y := y2) 3 HM rfl hy2 ((qf6 (x := (⟨cp, cr, gA, gc, gs, lA, lc, cl, uA, uc, cu, some ⟨gtA, 0, none⟩, tc, ts, sA, sc, rs⟩ : Stm)) (decide_eq_true (by show 0 ≤ o.to ∧ o.to < cp; omega)) (decide_eq_true (by show 1 ≤ o.task ∧ o.task ≤ 65535; omega)) hk ht hd39 om (qgf hcc om)).trans (by rw [hcc])))
end Go.Proofs.YtannicghedpdpaaGreat
