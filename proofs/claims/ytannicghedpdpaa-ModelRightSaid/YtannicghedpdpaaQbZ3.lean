/- Parts. -/
import Derived.Test.YtannicghedpdpaaQbChv
import Derived.Test.YtannicghedpdpaaQbDoorE
import Derived.Test.YtannicghedpdpaaQbZ2
set_option linter.all false
set_option maxRecDepth 100000
set_option maxHeartbeats 1000000
namespace Go.Proofs.Ytannicghedpdpaa
open Go.RowKit
theorem qqw {w w' : World} {fs : List Fact} {g : Nat} (I : Mem w w' fs) (h : fs[0]? = some (.blk g #[vI 0, vI 1, vI 0, vI 1024] 59)) : MkCfg w 1 0 exG (.returned (.agg #[vI 1, vQ 0, .slice (some ⟨g, 0, none⟩) 2 2])) w' :=
 ⟨⟨_, _, rfl, (I.blkRow (i := 0) (n := 2) (size := 2) h rfl de).own (i := 0) (by rw [List.getElem?_set_self (List.getElem?_eq_some_iff.1 h).1]; rfl), by decide⟩, I.below⟩
theorem qo5 {cp : Int} {cr : Nat} {gA : Option Addr} {gc : Nat} {gs : List Gr} {w : World} (h : (⟨cp, cr, gA, gc, gs, none, 0, [], none, 0, [], none, 0, [], none, 0, []⟩ : Stm).sta.Ok ∧ gs.length ≤ 1000000 ∧ cfgOk (⟨cp, cr, gA, gc, gs, none, 0, [], none, 0, [], none, 0, [], none, 0, []⟩ : Stm).sta = true) (hr : Rd w w.heap.size 2 gA gs.length (gs.flatMap grL)) : Calls Try.prog 9 #[.agg #[vI cp, vQ cr, .slice gA gs.length gc]] w (qrj w (newS cp cr gs)) :=
 (qst cp cr gA gc gs w h.1 h.2.1 hr).mono fun r w' k => by unfold NewIs at k; rwa [if_pos h.2.2] at k
theorem qo6 {cp : Int} {cr : Nat} {gA : Option Addr} {gc : Nat} {gs : List Gr} (h1 : 1 ≤ cp ∧ cp ≤ 64) (h2 : cr ≤ 1099511627776) (h3 : gsOk gs = true) (h4 : ∀ g ∈ gs, g.Ok) : (⟨cp, cr, gA, gc, gs, none, 0, [], none, 0, [], none, 0, [], none, 0, []⟩ : Stm).sta.Ok ∧ gs.length ≤ 1000000 ∧ cfgOk (⟨cp, cr, gA, gc, gs, none, 0, [], none, 0, [], none, 0, [], none, 0, []⟩ : Stm).sta = true := by
 have h5 := (qp h3).2.1
 refine ⟨⟨by show I64 cp; unfold I64; omega, by show cr < _; omega, h4, fun x hx => (by cases hx), fun x hx => (by cases hx), fun x hx => (by cases hx), fun l hl => (by cases hl)⟩, by omega, ?_⟩
 unfold cfgOk
 rw [Bool.and_eq_true, decide_eq_true_eq]
 exact ⟨⟨h1.1, h1.2, h2⟩, h3⟩
theorem qt7 : ∀ g ∈ exG, g.Ok := by
 intro g hg
 simp only [exG, List.mem_cons, List.not_mem_nil, or_false] at hg
 rcases hg with rfl | rfl <;> exact ⟨by unfold I64; decide, by unfold I64; decide⟩
theorem exNew {gA : Option Addr} {gc : Nat} : (⟨1, 0, gA, gc, exG, none, 0, [], none, 0, [], none, 0, [], none, 0, []⟩ : Stm).sta.Ok ∧ exG.length ≤ 1000000 ∧ cfgOk (⟨1, 0, gA, gc, exG, none, 0, [], none, 0, [], none, 0, [], none, 0, []⟩ : Stm).sta = true := qo6 de de qh8 qt7
section
variable {W w : World} {F T : List Fact} {x : Stm} {gm : Nat}
theorem do_y (n : Nat) (I : Mem W w F) (he : F.drop n = mdB gm x ++ T) (hG : GoodS x.sta) {o : Op30} (ho : o.Ok) : Calls Try.prog 13 #[vP gm 0, .agg o.cells] w (OpIs W gm (F.take n ++ T) (doS x.sta o)) :=
 qqp W w x gm _ _ _ _ _ (qey hG.sh) hG o ho _ (I.front n he)
theorem do_ex {k : Nat} {ez : Ex} (n : Nat) (I : Mem W w F) (he : F.drop n = mdB gm x ++ T) (hx : x.sta = exSt k) (hk : k < 12) (hz : exO.getD k Ex.zero = ez) : Calls Try.prog 13 #[vP gm 0, .agg ez.op.cells] w (fun r w' => ∃ y : Stm, r = .returned (.tuple #[vI ez.got, vI (ez.e : Int)]) ∧ y.sta = exSt (k + 1) ∧ Mem W w' (mdB gm y ++ (F.take n ++ T))) := by
 subst hz
 refine (do_y n I he (by rw [hx]; exact qo4 k) (ex_ok k)).mono fun r w' ⟨y, h1, h2, h3⟩ => ⟨y, ?_, ?_, h3⟩
 ·rw [h1, hx, qt5 hk]
 ·rw [h2, hx]; rfl
theorem qo7 (n : Nat) (I : Mem W w F) (he : F.drop n = mdB gm x ++ T) (hG : GoodS x.sta) : Calls Try.prog 11 #[vP gm 0] w (qou w x) :=
 qoy x gm w (qey hG.sh).few (I.mdRdB n he) (I.mdBlkB n he)
theorem qqx (n : Nat) (I : Mem W w F) (he : F.drop n = mdB gm x ++ T) (hx : x.sta = exSt 12) : Calls Try.prog 11 #[vP gm 0] w (fun r w' => ∃ gA gc lA lc uA uc tA tc sA sc rA rc qA qc, r = .returned (.tuple #[.agg #[vI 1, vQ 0, .slice gA 2 gc, .slice lA 1 lc, .slice uA 1 uc, .slice tA 2 tc, .slice sA 2 sc], vI 0]) ∧ Mem w w' (stF ⟨1, 0, gA, gc, exG, lA, lc, [4], uA, uc, [6], tA, tc, [⟨5, 0, 1024, 0, 1, true, 3072, 0⟩, ⟨6, 1, 1, 0, 1, true, 3145728, 0⟩], sA, sc, [⟨rA, rc, [⟨0, 0, 3072⟩]⟩, ⟨qA, qc, [⟨3072, 0, 3145728⟩]⟩]⟩)) := by
 refine (qo7 n I he (by rw [hx]; exact qo4 12)).mono fun r w' ⟨y, h1, h2, _, h4⟩ => ?_
 obtain ⟨gA, gc, lA, lc, uA, uc, tA, tc, sA, sc, rA, rc, qA, qc, rfl⟩ := qt6 ((qni h2).trans hx)
 exact ⟨gA, gc, lA, lc, uA, uc, tA, tc, sA, sc, rA, rc, qA, qc, h1, h4⟩
end
theorem qjg (w : World) :
    Calls Try.prog 35 #[] w (MkCfg w 1 0 exG) := by
 refine (JN0 Try.func35 5) ?_
 refine (JP∘JA #[vI 0, vQ 0, vN]) fun w0 g0 => (Jr∘Jy (v := .agg #[vI 0, vI 1]) (h:=by exact Yl.build (vs := [(0, vI 0), (1, vI 1)]) rfl kr kr)∘Jy (v := .agg #[vI 0, vI 1024]) (h:=by exact Yl.build (vs := [(0, vI 0), (1, vI 1024)]) rfl kr kr)∘JU ei_gr #[vI 0, vI 1, vI 0, vI 1024]) fun w3 g3 => (Jy (v := .agg #[vI 1, vQ 0, vS g3 2 2]) (h:=by exact Yl.build (vs := [(0, vI 1), (2, vS g3 2 2)]) rfl kr kr)∘JV qbq O1') fun w1_4 => (Jt4∘Jj∘JZ) fun a Z I => ?_
 exact ret1 rfl Z (.cellS (i := 1) Z I rfl rfl qbq rfl) (qqw I rfl)
theorem qjh (w : World) :
    Calls Try.prog 15 #[] w (Is w (.bool true)) := by
 refine (JN0 Try.func15 151) ?_
 refine (JP∘Jp 1∘Jr∘JK (h:=by exact fun I => qjg _)) fun A9 c9 w9 hc9 => (JL (h:=by exact fun I => qo5 exNew (I.rd (i := 0) rfl))) ?_
 rintro I _ w10 ⟨gm, x, rfl, hxs, hm⟩
 refine ⟨_, rfl, _, (show Mem w w10 ((mdB gm x ++ ([]))) from by have h := Mem.alone I hm; rw [← List.append_nil (mdB gm x)] at h; exact h), ?_⟩
 refine (Jp 1∘Jx∘Jx∘Jp 2∘Jj∘JQ∘JP∘Jv 4 [(16, vP gm 0), (15, .bool false)]∘Jy (v := .bool false) (h:=by exact Yl.qkv rfl rfl rfl)∘Jp 1∘Jd3∘Jj∘JF∘JS'∘JQ∘JP∘Jy (v := .agg #[vB 1, vI 0, vI 5, vI 0, vI 1024, vI 0, vI 0, vQ 1]) (h:=by exact Yl.build (vs := [(0, vB 1), (2, vI 5), (4, vI 1024), (7, vQ 1)]) rfl kr kr)∘Jy (v := .agg #[vB 1, vI 0, vI 5, vI 0, vI 1024, vI 0, vI 0, vQ 1, vI 0, vI 0]) (h:=by exact Yl.build (vs := [(0, .agg #[vB 1, vI 0, vI 5, vI 0, vI 1024, vI 0, vI 0, vQ 1]), (1, vI 0), (2, vI 0)]) rfl kr kr)∘Jy (v := .agg #[vB 1, vI 0, vI 6, vI 1, vI 1, vI 0, vI 0, vQ 1]) (h:=by exact Yl.build (vs := [(0, vB 1), (2, vI 6), (3, vI 1), (4, vI 1), (7, vQ 1)]) rfl kr kr)∘Jy (v := .agg #[vB 1, vI 0, vI 6, vI 1, vI 1, vI 0, vI 0, vQ 1, vI 0, vI 0]) (h:=by exact Yl.build (vs := [(0, .agg #[vB 1, vI 0, vI 6, vI 1, vI 1, vI 0, vI 0, vQ 1]), (1, vI 0), (2, vI 0)]) rfl kr kr)∘Jy (v := .agg #[vB 6, vI 0, vI 0, vI 0, vI 0, vI 0, vI 0, vQ 0]) (h:=by exact Yl.build (vs := [(0, vB 6)]) rfl kr kr)∘Jy (v := .agg #[vB 6, vI 0, vI 0, vI 0, vI 0, vI 0, vI 0, vQ 0, vI 5, vI 0]) (h:=by exact Yl.build (vs := [(0, .agg #[vB 6, vI 0, vI 0, vI 0, vI 0, vI 0, vI 0, vQ 0]), (1, vI 5), (2, vI 0)]) rfl kr kr)∘Jy (v := .agg #[vB 5, vI 0, vI 0, vI 0, vI 0, vI 0, vI 1, vQ 0]) (h:=by exact Yl.build (vs := [(0, vB 5), (6, vI 1)]) rfl kr kr)∘Jy (v := .agg #[vB 5, vI 0, vI 0, vI 0, vI 0, vI 0, vI 1, vQ 0, vI 5, vI 0]) (h:=by exact Yl.build (vs := [(0, .agg #[vB 5, vI 0, vI 0, vI 0, vI 0, vI 0, vI 1, vQ 0]), (1, vI 5), (2, vI 0)]) rfl kr kr)∘Jy (v := .agg #[vB 6, vI 0, vI 0, vI 0, vI 0, vI 0, vI 0, vQ 0]) (h:=by exact Yl.build (vs := [(0, vB 6)]) rfl kr kr)∘Jy (v := .agg #[vB 6, vI 0, vI 0, vI 0, vI 0, vI 0, vI 0, vQ 0, vI 6, vI 0]) (h:=by exact Yl.build (vs := [(0, .agg #[vB 6, vI 0, vI 0, vI 0, vI 0, vI 0, vI 0, vQ 0]), (1, vI 6), (2, vI 0)]) rfl kr kr)∘Jy (v := .agg #[vB 5, vI 0, vI 0, vI 0, vI 0, vI 0, vI 1, vQ 0]) (h:=by exact Yl.build (vs := [(0, vB 5), (6, vI 1)]) rfl kr kr)∘Jy (v := .agg #[vB 5, vI 0, vI 0, vI 0, vI 0, vI 0, vI 1, vQ 0, vI 6, vI 0]) (h:=by exact Yl.build (vs := [(0, .agg #[vB 5, vI 0, vI 0, vI 0, vI 0, vI 0, vI 1, vQ 0]), (1, vI 6), (2, vI 0)]) rfl kr kr)∘Jy (v := .agg #[vB 6, vI 0, vI 0, vI 0, vI 0, vI 0, vI 0, vQ 0]) (h:=by exact Yl.build (vs := [(0, vB 6)]) rfl kr kr)∘Jy (v := .agg #[vB 6, vI 0, vI 0, vI 0, vI 0, vI 0, vI 0, vQ 0, vI 5, vI 0]) (h:=by exact Yl.build (vs := [(0, .agg #[vB 6, vI 0, vI 0, vI 0, vI 0, vI 0, vI 0, vQ 0]), (1, vI 5), (2, vI 0)]) rfl kr kr)∘Jy (v := .agg #[vB 3, vI 0, vI 0, vI 0, vI 0, vI 0, vI 0, vQ 0]) (h:=by exact Yl.build (vs := [(0, vB 3)]) rfl kr kr)∘Jy (v := .agg #[vB 3, vI 0, vI 0, vI 0, vI 0, vI 0, vI 0, vQ 0, vI 5, vI 0]) (h:=by exact Yl.build (vs := [(0, .agg #[vB 3, vI 0, vI 0, vI 0, vI 0, vI 0, vI 0, vQ 0]), (1, vI 5), (2, vI 0)]) rfl kr kr)∘Jy (v := .agg #[vB 6, vI 0, vI 0, vI 0, vI 0, vI 0, vI 0, vQ 0]) (h:=by exact Yl.build (vs := [(0, vB 6)]) rfl kr kr)∘Jy (v := .agg #[vB 6, vI 0, vI 0, vI 0, vI 0, vI 0, vI 0, vQ 0, vI 6, vI 0]) (h:=by exact Yl.build (vs := [(0, .agg #[vB 6, vI 0, vI 0, vI 0, vI 0, vI 0, vI 0, vQ 0]), (1, vI 6), (2, vI 0)]) rfl kr kr)∘Jy (v := .agg #[vB 5, vI 0, vI 0, vI 0, vI 0, vI 0, vI 2, vQ 0]) (h:=by exact Yl.build (vs := [(0, vB 5), (6, vI 2)]) rfl kr kr)∘Jy (v := .agg #[vB 5, vI 0, vI 0, vI 0, vI 0, vI 0, vI 2, vQ 0, vI 6, vI 0]) (h:=by exact Yl.build (vs := [(0, .agg #[vB 5, vI 0, vI 0, vI 0, vI 0, vI 0, vI 2, vQ 0]), (1, vI 6), (2, vI 0)]) rfl kr kr)∘Jy (v := .agg #[vB 2, vI 0, vI 5, vI 0, vI 0, vI 0, vI 0, vQ 0]) (h:=by exact Yl.build (vs := [(0, vB 2), (2, vI 5)]) rfl kr kr)∘Jy (v := .agg #[vB 2, vI 0, vI 5, vI 0, vI 0, vI 0, vI 0, vQ 0, vI 0, vI 0]) (h:=by exact Yl.build (vs := [(0, .agg #[vB 2, vI 0, vI 5, vI 0, vI 0, vI 0, vI 0, vQ 0]), (1, vI 0), (2, vI 0)]) rfl kr kr)∘Jy (v := .agg #[vB 9, vI 0, vI 6, vI 0, vI 0, vI 1, vI 0, vQ 0]) (h:=by exact Yl.build (vs := [(0, vB 9), (2, vI 6), (5, vI 1)]) rfl kr kr)∘Jy (v := .agg #[vB 9, vI 0, vI 6, vI 0, vI 0, vI 1, vI 0, vQ 0, vI 0, vI 300]) (h:=by exact Yl.build (vs := [(0, .agg #[vB 9, vI 0, vI 6, vI 0, vI 0, vI 1, vI 0, vQ 0]), (1, vI 0), (2, vI 300)]) rfl kr kr)∘JU ei_ex #[vB 1, vI 0, vI 5, vI 0, vI 1024, vI 0, vI 0, vQ 1, vI 0, vI 0, vB 1, vI 0, vI 6, vI 1, vI 1, vI 0, vI 0, vQ 1, vI 0, vI 0, vB 6, vI 0, vI 0, vI 0, vI 0, vI 0, vI 0, vQ 0, vI 5, vI 0, vB 5, vI 0, vI 0, vI 0, vI 0, vI 0, vI 1, vQ 0, vI 5, vI 0, vB 6, vI 0, vI 0, vI 0, vI 0, vI 0, vI 0, vQ 0, vI 6, vI 0, vB 5, vI 0, vI 0, vI 0, vI 0, vI 0, vI 1, vQ 0, vI 6, vI 0, vB 6, vI 0, vI 0, vI 0, vI 0, vI 0, vI 0, vQ 0, vI 5, vI 0, vB 3, vI 0, vI 0, vI 0, vI 0, vI 0, vI 0, vQ 0, vI 5, vI 0, vB 6, vI 0, vI 0, vI 0, vI 0, vI 0, vI 0, vQ 0, vI 6, vI 0, vB 5, vI 0, vI 0, vI 0, vI 0, vI 0, vI 2, vQ 0, vI 6, vI 0, vB 2, vI 0, vI 5, vI 0, vI 0, vI 0, vI 0, vQ 0, vI 0, vI 0, vB 9, vI 0, vI 6, vI 0, vI 0, vI 1, vI 0, vQ 0, vI 0, vI 300]) fun w43 g43 => (Jl∘Jp 1∘Jq) fun a Z I => ?_
 replace I := I.blkRow (i := 0) (n := 12) (size := 10) rfl rfl de
 replace I : Mem w _ (.row (vS g43 12 12) 12 (exO.flatMap exL) 86 10 :: (mdB gm x ++ ([]))) := I
 refine Jb Z I ((JG∘JB) fun a Z I => ?_)
 refine qk (fun mS aS wS => ∃ (k : Nat) (x : Stm), (k ≤ 12) ∧ (x.sta = exSt k) ∧ mS = 12 - k ∧ Fr aS 151 [] [(45, vI k), (44, vI 12), (43, vS g43 12 12), (18, .bool false), (2, vI 0), (1, vP gm 0), (0, .bool false)] ∧ Mem w wS (.row (vS g43 12 12) 12 (exO.flatMap exL) 86 10 :: (mdB gm x ++ ([])))) (m := 12 - 0) ⟨0, x, Nat.zero_le _, hxs, rfl, Z.sub kr, I.pt 1 [0]⟩ ?_
 clear Z I; rintro mS a w_ ⟨k, x, hk, hxs, rfl, Z, I⟩
 refine Jb Z I ((JP∘Jp 1∘Jj∘JQ) (Ju (fun hb46 => ?_) fun hb46 => ?_))
 ·
  intro a Z I
  have hd46 := of_decide_eq_true hb46
  have hk12 : k < 12 := by omega
  obtain ⟨ez, hez⟩ : ∃ z, exO.getD k Ex.zero = z := ⟨_, rfl⟩
  have hex := hez
  refine Jb Z I ((JT∘JS'∘JQ∘JB∘JP∘Jy (h:=by exact Yl.ix0 g43 k 10 rfl rfl rfl)∘Jy (v := .agg ((exO.getD k Ex.zero).cells)) (h:=by exact Yl.loadS rfl rfl si_ex rfl (fun _ h => h.qc9 qs0 (i := 0) rfl ((getD_at Ex.zero hk12))))∘Jo (.agg ez.cells) (by rw [hez])∘JA #[vB 0, vI 0, vI 0, vI 0, vI 0, vI 0, vI 0, vQ 0, vI 0, vI 0]) fun w4 g4 => (JV si_ex O0' (h1:=by exact qt2 ez)) fun w6_3 => (Jd2∘Jr∘Jp 1∘Jf 0∘Jy (v := .agg #[vB ez.op.kind, vI ez.op.cpu, vI ez.op.task, vI ez.op.group, vI ez.op.weight, vI ez.op.to, vI ez.op.ticks, vQ ez.op.mask]) (h:=by exact Yl.loadS rfl rfl si_op rfl (fun _ h => h.sub (i := 0) rfl 0 rfl))∘Jo (.agg ez.op.cells) (by exact rfl)∘JL (h:=by exact fun I => do_ex 2 I rfl hxs hk12 hex)) ?_)
  rintro I _ w53 ⟨y, rfl, hys, HM2⟩
  refine ⟨_, rfl, _, (show Mem w w53 (.blk g4 ez.cells 86 :: .row (vS g43 12 12) 12 (exO.flatMap exL) 86 10 :: (mdB gm y ++ ([]))) from HM2.back), ?_⟩
  refine (Jp 1∘Jx∘Jx∘Jp 2∘Jr∘Jp 1∘Jg 8 O0∘Jp 2) (Jh (fun hd60 => ?_) fun hd60 => ?_)
  ·
   exact (Jp 5∘Jd6∘Jj∘JT∘JP∘Jp 1∘Jj∘JZ∘Jz1) fun I => absurd rfl hd60
  refine (Jp 1∘Jg 9 O0∘Jp 2∘Jd6∘Jj) (Jh (fun hd65 => ?_) fun hd65 => ?_)
  ·
   exact (JT∘JP∘Jp 1∘Jj∘JZ∘Jz1) fun I => absurd rfl hd65
  refine (JF∘JS'∘JR∘JaK 1∘Jp 1∘Jd1∘Jq) fun a Z I => ?_
  exact ⟨_, om, k + 1, y, by omega, hys, rfl, Z.sub kr, I.pt 2 [1]⟩
 intro a Z I
 have hd46 := of_decide_eq_false hb46
 have hke : k = 12 := by omega
 refine Jb Z I ((JF∘JX∘JG∘JP∘Jp 1∘JL (h:=by exact fun I => qqx 1 I rfl (by rw [hxs, hke]))) ?_)
 rintro I _ w69 ⟨gA, gc, lA, lc, uA, uc, tA, tc, sA, sc, rA, rc, qA, qc, rfl, hm⟩
 refine ⟨_, rfl, _, (show Mem w w69 [.row (.slice gA 2 gc) 2 (exG.flatMap grL) 59 2, .row (.slice lA 1 lc) 1 ([(4 : Int)].map I64i) 3 1, .row (.slice uA 1 uc) 1 ([(6 : Int)].map I64i) 3 1, .row (.slice tA 2 tc) 2 ([(⟨5, 0, 1024, 0, 1, true, 3072, 0⟩ : Tk), (⟨6, 1, 1, 0, 1, true, 3145728, 0⟩ : Tk)].flatMap tkL) 52 8, .row (.slice sA 2 sc) 2 ([(⟨rA, rc, [(⟨0, 0, 3072⟩ : Sp)]⟩ : Rw), ⟨qA, qc, [(⟨3072, 0, 3145728⟩ : Sp)]⟩].map Rw.val) 64 1, .row (.slice rA 1 rc) 1 ([(⟨0, 0, 3072⟩ : Sp)].flatMap spL) 66 3, .row (.slice qA 1 qc) 1 ([(⟨3072, 0, 3145728⟩ : Sp)].flatMap spL) 66 3] from Mem.alone I hm), ?_⟩
 refine (Jp 1∘Jx∘Jx∘JA #[vI 0, vQ 0, vN, vN, vN, vN, vN]) fun w7 g7 => (JV si_st O0') fun w11_6 => (Jp 1∘Jq) ?_
 repeat (first | clear Z | clear I)
 intro a Z I
 obtain ⟨glA, rfl⟩ := qm (I.own (i := 2) rfl) om
 revert I; revert a; repeat (first | clear Z | clear I)
 intro a Z I
 obtain ⟨gtA, rfl⟩ := qm (I.own (i := 4) rfl) om
 revert I; revert a; repeat (first | clear Z | clear I)
 intro a Z I
 obtain ⟨gsA, rfl⟩ := qm (I.own (i := 5) rfl) om
 revert I; revert a; repeat (first | clear Z | clear I)
 intro a Z I
 obtain ⟨grA, rfl⟩ := qm (I.own (i := 6) rfl) om
 revert I; revert a; repeat (first | clear Z | clear I)
 intro a Z I
 obtain ⟨gqA, rfl⟩ := qm (I.own (i := 7) rfl) om
 refine Jb Z I ((JG∘JP∘Jv 3 [(74, .bool true)]∘Jg 5 O0∘Jl∘Jv 3 [(80, .bool true)]∘Jg 5 O0∘Jy (v := vP gtA 0) (h:=by exact Yl.indexAddr (ad := ⟨gtA, 0, none⟩) (y := 0) (sz := 8) rfl rfl rfl de kr)∘Jf 6∘Jy (v := vQ ((⟨5, 0, 1024, 0, 1, true, 3072, 0⟩ : Tk).v)) (h:=by exact Yl.ql rfl rfl kr (fun _ h => h.qq qe (i := 4) rfl (k := 0) (off := 6) (x := (⟨5, 0, 1024, 0, 1, true, 3072, 0⟩ : Tk)) (rfl) rfl))∘Jo (vQ 3072) (by exact rfl)∘Jv 3 [(88, .bool true)]∘Jg 5 O0∘Jy (v := vP gtA 8) (h:=by exact Yl.indexAddr (ad := ⟨gtA, 0, none⟩) (y := 1) (sz := 8) rfl rfl rfl de kr)∘Jf 6∘Jy (v := vQ ((⟨6, 1, 1, 0, 1, true, 3145728, 0⟩ : Tk).v)) (h:=by exact Yl.ql rfl rfl kr (fun _ h => h.qq qe (i := 4) rfl (k := 1) (off := 6) (x := (⟨6, 1, 1, 0, 1, true, 3145728, 0⟩ : Tk)) (rfl) rfl))∘Jo (vQ 3145728) (by exact rfl)∘Jv 3 [(96, .bool true)]∘Jg 6 O0∘Jl∘Jv 3 [(102, .bool true)]∘Jg 6 O0∘Jy (v := vP gsA 0) (h:=by exact Yl.indexAddr (ad := ⟨gsA, 0, none⟩) (y := 0) (sz := 1) rfl rfl rfl de kr)∘Jy (v := .slice ((⟨some ⟨grA, 0, none⟩, rc, [(⟨0, 0, 3072⟩ : Sp)]⟩ : Rw).A) ((⟨some ⟨grA, 0, none⟩, rc, [(⟨0, 0, 3072⟩ : Sp)]⟩ : Rw).l.length) ((⟨some ⟨grA, 0, none⟩, rc, [(⟨0, 0, 3072⟩ : Sp)]⟩ : Rw).c)) (h:=by exact Yl.ql rfl rfl kr (fun _ h => h.qfa (i := 5) rfl (k := 0) (qae (F := Rw.val) (k := 0) (x := (⟨some ⟨grA, 0, none⟩, rc, [(⟨0, 0, 3072⟩ : Sp)]⟩ : Rw)) (rfl))))∘Jo (vS grA 1 rc) (by exact rfl)∘Jl∘Jv 3 [(110, .bool true)]∘Jg 6 O0∘Jy (v := vP gsA 0) (h:=by exact Yl.indexAddr (ad := ⟨gsA, 0, none⟩) (y := 0) (sz := 1) rfl rfl rfl de kr)∘Jy (v := .slice ((⟨some ⟨grA, 0, none⟩, rc, [(⟨0, 0, 3072⟩ : Sp)]⟩ : Rw).A) ((⟨some ⟨grA, 0, none⟩, rc, [(⟨0, 0, 3072⟩ : Sp)]⟩ : Rw).l.length) ((⟨some ⟨grA, 0, none⟩, rc, [(⟨0, 0, 3072⟩ : Sp)]⟩ : Rw).c)) (h:=by exact Yl.ql rfl rfl kr (fun _ h => h.qfa (i := 5) rfl (k := 0) (qae (F := Rw.val) (k := 0) (x := (⟨some ⟨grA, 0, none⟩, rc, [(⟨0, 0, 3072⟩ : Sp)]⟩ : Rw)) (rfl))))∘Jo (vS grA 1 rc) (by exact rfl)∘Jy (v := vP grA 0) (h:=by exact Yl.indexAddr (ad := ⟨grA, 0, none⟩) (y := 0) (sz := 3) rfl rfl rfl de kr)∘Jf 2∘Jy (v := vQ ((⟨0, 0, 3072⟩ : Sp).floor)) (h:=by exact Yl.ql rfl rfl kr (fun _ h => h.qq qad (i := 6) rfl (k := 0) (off := 2) (x := (⟨0, 0, 3072⟩ : Sp)) (rfl) rfl))∘Jo (vQ 3072) (by exact rfl)∘Jv 3 [(120, .bool true)]∘Jg 6 O0∘Jy (v := vP gsA 1) (h:=by exact Yl.indexAddr (ad := ⟨gsA, 0, none⟩) (y := 1) (sz := 1) rfl rfl rfl de kr)∘Jy (v := .slice ((⟨some ⟨gqA, 0, none⟩, qc, [(⟨3072, 0, 3145728⟩ : Sp)]⟩ : Rw).A) ((⟨some ⟨gqA, 0, none⟩, qc, [(⟨3072, 0, 3145728⟩ : Sp)]⟩ : Rw).l.length) ((⟨some ⟨gqA, 0, none⟩, qc, [(⟨3072, 0, 3145728⟩ : Sp)]⟩ : Rw).c)) (h:=by exact Yl.ql rfl rfl kr (fun _ h => h.qfa (i := 5) rfl (k := 1) (qae (F := Rw.val) (k := 1) (x := (⟨some ⟨gqA, 0, none⟩, qc, [(⟨3072, 0, 3145728⟩ : Sp)]⟩ : Rw)) (rfl))))∘Jo (vS gqA 1 qc) (by exact rfl)∘Jl∘Jv 3 [(128, .bool true)]∘Jg 6 O0∘Jy (v := vP gsA 1) (h:=by exact Yl.indexAddr (ad := ⟨gsA, 0, none⟩) (y := 1) (sz := 1) rfl rfl rfl de kr)∘Jy (v := .slice ((⟨some ⟨gqA, 0, none⟩, qc, [(⟨3072, 0, 3145728⟩ : Sp)]⟩ : Rw).A) ((⟨some ⟨gqA, 0, none⟩, qc, [(⟨3072, 0, 3145728⟩ : Sp)]⟩ : Rw).l.length) ((⟨some ⟨gqA, 0, none⟩, qc, [(⟨3072, 0, 3145728⟩ : Sp)]⟩ : Rw).c)) (h:=by exact Yl.ql rfl rfl kr (fun _ h => h.qfa (i := 5) rfl (k := 1) (qae (F := Rw.val) (k := 1) (x := (⟨some ⟨gqA, 0, none⟩, qc, [(⟨3072, 0, 3145728⟩ : Sp)]⟩ : Rw)) (rfl))))∘Jo (vS gqA 1 qc) (by exact rfl)∘Jy (v := vP gqA 0) (h:=by exact Yl.indexAddr (ad := ⟨gqA, 0, none⟩) (y := 0) (sz := 3) rfl rfl rfl de kr)∘Jf 0∘Jy (v := vQ ((⟨3072, 0, 3145728⟩ : Sp).v)) (h:=by exact Yl.ql rfl rfl kr (fun _ h => (by have := h.qq qad (i := 7) rfl (k := 0) (off := 0) (x := (⟨3072, 0, 3145728⟩ : Sp)) (rfl) rfl; simpa using this)))∘Jo (vQ 3072) (by exact rfl)∘Jv 3 [(138, .bool true)]∘Jg 3 O0∘Jl∘Jv 3 [(144, .bool true)]∘Jg 3 O0∘Jy (v := vP glA 0) (h:=by exact Yl.indexAddr (ad := ⟨glA, 0, none⟩) (y := 0) (sz := 1) rfl rfl rfl de kr)∘Jy (v := vI 4) (h:=by exact Yl.ql rfl rfl kr (fun _ h => h.qfa (i := 2) rfl (k := 0) (qae (F := I64i) (k := 0) (x := (4 : Int)) (rfl))))∘Jo (vI 4) (by exact rfl)∘Jv 3 [(0, .bool true)]) fun a Z I => ?_)
 refine Jb Z I ((Jd6∘Jq) fun a Z I => ?_)
 replace Z := Z.to [(0, .bool true), (2, vI 0), (7, vP g7 0), (46, .bool false), (45, vI k), (44, vI 12), (43, vS g43 12 12), (18, .bool false), (1, vP gm 0)]
 exact Jb Z I ((JG∘JZ) JY1)
section
variable {W w w' : World} {F T A B G : List Fact} {x y : Stm} {gm : Nat} {s : Sta}
theorem Mem.swapT (n : Nat) (h : Mem W w F) (he : F.drop n = A ++ (B ++ T)) : Mem W w (F.take n ++ (B ++ (A ++ T))) := by
 have h2 : Mem W w (F.take n ++ (A ++ (B ++ T))) := by rw [← he, List.take_append_drop]; exact h
 exact h2.perm (List.Perm.append_left _ (List.perm_append_comm_assoc ..))
theorem Mem.dropT (n : Nat) (h : Mem W w F) (he : F.drop n = A ++ T) : Mem W w (F.take n ++ T) := by
 have h2 : Mem W w (F.take n ++ (A ++ T)) := by rw [← he, List.take_append_drop]; exact h
 exact h2.subl (List.Sublist.append (List.Sublist.refl _) (List.sublist_append_right ..))
theorem Mem.joinF (n : Nat) (h : Mem W w F) (k : Mem w w' G) (he : F.drop n = T) : Mem W w' (F.take n ++ (G ++ T)) := by
 have h2 := h.joinT k
 rw [← List.take_append_drop n F, he, List.append_assoc] at h2
 exact h2.perm (List.Perm.append_left _ List.perm_append_comm)
theorem Mem.st1 (n : Nat) (h : Mem W w F) (he : F.drop n = stF x ++ T) : StRd w x := h.stL n he
theorem Mem.st2 (n : Nat) (h : Mem W w F) (he : F.drop n = A ++ (stF x ++ T)) : StRd w x := h.stOf fun _ hf => List.mem_of_mem_drop (he ▸ List.mem_append_right _ (List.mem_append_left _ hf))
theorem few_s (hs : x.sta = s) (hG : GoodS s) : StFew x := (qey (y := x) (by rw [hs]; exact hG.sh)).few
theorem do_s (n : Nat) (I : Mem W w F) (he : F.drop n = mdB gm x ++ T) (hs : x.sta = s) (hG : GoodS s) {o : Op30} (ho : o.Ok) : Calls Try.prog 13 #[.pointer (some ⟨gm, 0, none⟩), .agg o.cells] w (OpIs W gm (F.take n ++ T) (doS s o)) := by
 subst hs
 exact do_y n I he hG ho
def StaIs (w : World) (s : Sta) (r : Ending) (w' : World) : Prop := ∃ y : Stm, r = .returned (.tuple #[.agg y.cells, .int .i64 0]) ∧ y.sta = s ∧ StCap y ∧ Mem w w' (stF y)
theorem qo8 (n : Nat) (I : Mem W w F) (he : F.drop n = mdB gm x ++ T) (hs : x.sta = s) (hG : GoodS s) : Calls Try.prog 11 #[.pointer (some ⟨gm, 0, none⟩)] w (StaIs w s) := by
 subst hs
 exact (qo7 n I he hG).mono fun r w' ⟨y, h1, h2, h3, h4⟩ => ⟨y, h1, qni h2, h3, h4⟩
theorem qs2 (hx : StRd w x) (hs : x.sta = s) (hG : GoodS s) (hR : zp s = true) : Calls Try.prog 21 #[.agg x.cells] w (Is w (.bool true)) := by
 subst hs
 have h := qey hG.sh
 have := qit x h.ok h.few w hx
 rwa [hR] at this
theorem qqy (h : x.sta = y.sta) : StaEq x y := by
 unfold Stm.sta at h
 simp only [Sta.mk.injEq] at h
 obtain ⟨h1, h2, h3, h4, h5, h6, h7⟩ := h
 exact ⟨⟨h1, h2, h3⟩, h4, h5, h6, h7⟩
theorem qt8 (hx : StRd w x) (hy : StRd w y) (hs : x.sta = s) (hs' : y.sta = s) (hG : GoodS s) : Calls Try.prog 22 #[.agg x.cells, .agg y.cells] w (Is w (.bool true)) := by
 have h1 := qmb x y w hx hy (few_s hs hG) (few_s hs' hG)
 rwa [decide_eq_true (qqy (hs.trans hs'.symm))] at h1
end
def Nums.new (n : Nums) : Sta := newS (n.cp : Int) n.credit n.gs
theorem gs_ok {gs : List Gr} (h : gsOk gs = true) : ∀ g ∈ gs, g.Ok := fun x hx => by
 obtain ⟨g, hg, rfl⟩ := zg Gr.zero hx
 have hw := wt_at h hg
 have hl := (qp h).2.1
 refine ⟨?_, by unfold I64; omega⟩
 rcases Nat.eq_zero_or_pos g with rfl | h0
 ·rw [(qp h).2.2.1]; unfold I64; decide
 ·have := qik ((qp h).2.2.2 g hg) h0
  unfold ParB at this
  unfold I64; omega
theorem Nums.good {n : Nums} (h : n.Ok) : GoodS n.new ∧ zp n.new = true := by
 have h1 := Nums.right h
 have h2 := h.credit
 exact qkm (by unfold Nums.cp; omega) om h1.1 (gs_ok h1.1)
theorem Nums.cfg {n : Nums} {gA : Option Addr} {gc : Nat} (h : n.Ok) : (⟨(n.cp : Int), n.credit, gA, gc, n.gs, none, 0, [], none, 0, [], none, 0, [], none, 0, []⟩ : Stm).sta.Ok ∧ n.gs.length ≤ 1000000 ∧ cfgOk (⟨(n.cp : Int), n.credit, gA, gc, n.gs, none, 0, [], none, 0, [], none, 0, [], none, 0, []⟩ : Stm).sta = true := by
 have h1 := Nums.right h
 have h2 := h.credit
 exact qo6 (by unfold Nums.cp; omega) om h1.1 (gs_ok h1.1)
theorem qo9 (l : List Sml) (most : Nat) : (qf l most).length ≤ most := by
 rw [qf6, List.length_take]
 omega
theorem qpa {n : Nums} (h : n.Ok) : n.cells.size = 13 := by
 unfold Nums.cells
 rw [List.size_toArray]
 simp [h.pl, h.wl]
end Go.Proofs.Ytannicghedpdpaa
set_option linter.all false
namespace Go.Proofs.Ytannicghedpdpaa
open Go.RowKit Go.ChangeShapes Go.WideShapes Go.ChangeAt
section
variable {H : Type} {enc : TypeId × Value → H} {P : Program} {W : World} {sp : Nat → Bool} {held : Bool}
def intZ : Value → Int
 | .int _ z => z
 | _ => 0
theorem qkn {t e : TypeId} {n : Nat} {k : Go.IntKind} (ht : P.underlying t = some (.array n e)) (he : P.underlying e = some (.int k)) (hc : P.cellsOf e = 1) (hn : P.cellsOf t = n) {fuel : Nat} {L : List Value} {d : DataW H} {p : List MemPlace} (hf : DataW.trod enc P W 0 sp held fuel t L = some (d, p)) :
  ∃ zs : List Int, zs.length = n ∧ L = zs.map (Value.int k) ∧ ∀ z ∈ zs, (Lit.int k z).wf = true := by
 obtain ⟨xs, m, _, _, hl, hx, hg⟩ := DataW.trod_array ht hf
 rw [hn] at hl
 have el : ∀ i, i < n → ∃ z : Int, L[i]? = some (.int k z) ∧ (Lit.int k z).wf = true := fun i hi => by
  have g := hg i hi
  rw [hc, Nat.mul_one, List.getElem?_eq_getElem om] at g
  obtain ⟨z, e0, _, w0⟩ := DataW.trod_int he g
  exact ⟨z, qbc e0, w0⟩
 refine ⟨L.map intZ, by rw [List.length_map, hl], qmn (by rw [List.length_map, List.length_map]) fun i hi => ?_, fun z hz => ?_⟩
 ·rw [List.length_map, List.length_map] at hi
  obtain ⟨z, h1, _⟩ := el i om
  rw [List.map_map, List.getElem?_map, h1]
  rfl
 ·obtain ⟨v, hv, rfl⟩ := List.mem_map.1 hz
  obtain ⟨i, hi, rfl⟩ := List.getElem_of_mem hv
  obtain ⟨z, h1, h2⟩ := el i om
  rw [List.getElem?_eq_getElem hi] at h1
  injection h1 with h1
  rw [h1]
  exact h2
end
def qgz : List Go.IntKind := [.u8, .u8, .u8, .u8, .u8, .u16, .u32, .u8]
theorem qme : qd9 Try.prog 82 qgz = true := by kernel_rfl
theorem qko : Try.prog.underlying 28 = some (.slice 82) := by kernel_rfl
theorem qmf : Try.prog.cellsOf 82 = 8 := by kernel_rfl
theorem qmg {cs : List Value} (hl : cs.length = qgz.length) (h : ∀ (i : Nat) (k : Go.IntKind), qgz[i]? = some k → ∃ z : Int, cs[i]? = some (Value.int k z) ∧ (Lit.int k z).wf = true) : ∃ x : Sml, sml x = cs ∧ x.Ok := by
 obtain ⟨z0, h0, w0⟩ := h 0 .u8 rfl
 have w0 := u8_wf w0
 obtain ⟨z1, h1, w1⟩ := h 1 .u8 rfl
 have w1 := u8_wf w1
 obtain ⟨z2, h2, w2⟩ := h 2 .u8 rfl
 have w2 := u8_wf w2
 obtain ⟨z3, h3, w3⟩ := h 3 .u8 rfl
 have w3 := u8_wf w3
 obtain ⟨z4, h4, w4⟩ := h 4 .u8 rfl
 have w4 := u8_wf w4
 obtain ⟨z5, h5, w5⟩ := h 5 .u16 rfl
 have w5 := qmm w5
 obtain ⟨z6, h6, w6⟩ := h 6 .u32 rfl
 have w6 := qq6 w6
 obtain ⟨z7, h7, w7⟩ := h 7 .u8 rfl
 have w7 := u8_wf w7
 refine ⟨⟨z0.toNat, z1.toNat, z2.toNat, z3.toNat, z4.toNat, z5.toNat, z6.toNat, z7.toNat⟩, ?_, ⟨by show z0.toNat < _; omega, by show z1.toNat < _; omega, by show z2.toNat < _; omega, by show z3.toNat < _; omega, by show z4.toNat < _; omega, by show z5.toNat < _; omega, by show z6.toNat < _; omega, by show z7.toNat < _; omega⟩⟩
 refine qmn (by rw [hl]; rfl) fun i hi => ?_
 have hi' : i < 8 := by rw [hl] at hi; exact hi
 have hc : i = 0 ∨ i = 1 ∨ i = 2 ∨ i = 3 ∨ i = 4 ∨ i = 5 ∨ i = 6 ∨ i = 7 := by omega
 rcases hc with rfl | rfl | rfl | rfl | rfl | rfl | rfl | rfl
 ·rw [h0]; show some (Value.int .u8 ((z0.toNat : Nat) : Int)) = _; rw [Int.toNat_of_nonneg w0.1]
 ·rw [h1]; show some (Value.int .u8 ((z1.toNat : Nat) : Int)) = _; rw [Int.toNat_of_nonneg w1.1]
 ·rw [h2]; show some (Value.int .u8 ((z2.toNat : Nat) : Int)) = _; rw [Int.toNat_of_nonneg w2.1]
 ·rw [h3]; show some (Value.int .u8 ((z3.toNat : Nat) : Int)) = _; rw [Int.toNat_of_nonneg w3.1]
 ·rw [h4]; show some (Value.int .u8 ((z4.toNat : Nat) : Int)) = _; rw [Int.toNat_of_nonneg w4.1]
 ·rw [h5]; show some (Value.int .u16 ((z5.toNat : Nat) : Int)) = _; rw [Int.toNat_of_nonneg w5.1]
 ·rw [h6]; show some (Value.int .u32 ((z6.toNat : Nat) : Int)) = _; rw [Int.toNat_of_nonneg w6.1]
 ·rw [h7]; show some (Value.int .u8 ((z7.toNat : Nat) : Int)) = _; rw [Int.toNat_of_nonneg w7.1]
section
variable {H : Type} {enc : TypeId × Value → H} {P : Program} {W : World} {sp : Nat → Bool} {held : Bool}
theorem flat_get {sz : Nat} : ∀ (css : List (List Value)), (∀ l ∈ css, l.length = sz) → ∀ p u, (css.flatMap id)[p]? = some u → ∃ i j, ∃ hi : i < css.length, j < sz ∧ p = i * sz + j ∧ css[i][j]? = some u := by
 intro css
 induction css with
 | nil => intro _ p u h; simp at h
 | cons l r ih =>
  intro h p u hu
  have hll := h l (by simp)
  rw [List.flatMap_cons] at hu
  by_cases hp : p < sz
  ·rw [List.getElem?_append_left (by simp only [id]; omega)] at hu
   exact ⟨0, p, by simp, hp, by omega, hu⟩
  ·rw [List.getElem?_append_right (by simp only [id]; omega)] at hu
   simp only [id] at hu
   rw [hll] at hu
   obtain ⟨i, j, hi, hj, hpj, hu'⟩ := ih (fun y hy => h y (by simp [hy])) _ u hu
   exact ⟨i + 1, j, by simp; omega, hj, by rw [Nat.succ_mul]; omega, by simpa using hu'⟩
theorem qpb {sz : Nat} : ∀ (css : List (List Value)), (∀ l ∈ css, l.length = sz) → (css.flatMap id).length = css.length * sz := by
 intro css
 induction css with
 | nil => simp
 | cons l r ih => intro h; rw [List.flatMap_cons, List.length_append, ih (fun y hy => h y (by simp [hy])), List.length_cons, Nat.succ_mul]; have := h l (by simp); simp only [id]; omega
theorem qmh {α : Type} (f : α → List Value) (Ok : α → Prop) {t e : TypeId} {sz : Nat} (ht : P.underlying t = some (.slice e)) (hsz : P.cellsOf e = sz) (h0 : 0 < sz) (hf : ∀ x, (f x).length = sz)
  (hE : ∀ m l y, DataW.trod enc P W 0 sp held m e l = some y → ∃ x, f x = l ∧ Ok x) {fuel : Nat} {cs : List Value} {x : DataW H × List MemPlace} (h : DataW.trod enc P W 0 sp held fuel t cs = some x) :
  ∃ (A : Option Addr) (c : Nat) (l : List α), cs = [.slice A l.length c] ∧ l.length ≤ c ∧ c ≤ maxLen ∧ (∀ x ∈ l, Ok x) ∧ Rd W W.heap.size sz A l.length (l.flatMap f) := by
 rcases DataW.trod_slice ht h with ⟨hc, _⟩ | ⟨a, len, cap, elems, rest, m, _, hc, _, _, hl, hm, hlen, hel, _⟩
 ·exact ⟨none, 0, [], hc, Nat.le_refl _, by unfold maxLen; omega, by simp, Rd.nil⟩
 ·have hall : ∀ i, i < len → ∃ x : α, W.cells? 0 (a.add (i * sz)) sz = some (f x) ∧ Ok x := by
   intro i hi
   have h1 := hel i hi
   rw [hsz, List.getElem?_eq_getElem (by omega : i < elems.length)] at h1
   obtain ⟨l, h2, h3⟩ := Option.bind_eq_some_iff.1 h1
   obtain ⟨x, rfl, hx⟩ := hE _ _ _ h3
   exact ⟨x, h2, hx⟩
  have key : ∀ k, k ≤ len → ∃ xs : List α, xs.length = k ∧ ∀ i (hi : i < xs.length), W.cells? 0 (a.add (i * sz)) sz = some (f xs[i]) ∧ Ok xs[i] := by
   intro k
   induction k with
   | zero => intro _; exact ⟨[], rfl, fun i hi => by simp at hi⟩
   | succ k ih =>
    intro hk
    obtain ⟨xs, h1, h2⟩ := ih om
    obtain ⟨x, h3, h4⟩ := hall k om
    refine ⟨xs ++ [x], by simp [h1], fun i hi => ?_⟩
    by_cases hik : i < xs.length
    ·rw [List.getElem_append_left hik]; exact h2 i hik
    ·obtain rfl : i = xs.length := by simp at hi; omega
     rw [List.getElem_append_right (Nat.le_refl _)]
     simp only [Nat.sub_self, List.getElem_cons_zero, h1]
     exact ⟨h3, h4⟩
  obtain ⟨xs, h1, h2⟩ := key len (Nat.le_refl _)
  have hfm : xs.flatMap f = (xs.map f).flatMap id := by rw [List.flatMap_map]; rfl
  have hll : ∀ l ∈ xs.map f, l.length = sz := fun l hl' => by obtain ⟨x, _, rfl⟩ := List.mem_map.1 hl'; exact hf x
  have hat : ∀ i (hi : i < xs.length) j, j < sz → W.cell? (a.add (i * sz + j)) = (f xs[i])[j]? := by
   intro i hi j hj
   have := (World.cells?_some (h2 i hi).1).2.2 j hj
   rwa [qg2] at this
  refine ⟨some a, cap, xs, by rw [hc, h1], by omega, hm, fun x hx => by obtain ⟨i, hi, rfl⟩ := List.getElem_of_mem hx; exact (h2 i hi).2, ⟨by rw [hfm, qpb _ hll, List.length_map], fun hn => ⟨a, rfl, ?_, ?_⟩⟩⟩
  ·have h3 := hat 0 hn 0 h0
   have h4 := hf xs[0]
   rw [List.getElem?_eq_getElem om] at h3
   have := World.block_lt_of_cell? W _ h3
   simpa [Addr.add] using this
  ·intro p u hu
   rw [hfm] at hu
   obtain ⟨i, j, hi, hj, rfl, hu'⟩ := flat_get _ hll p u hu
   rw [List.length_map] at hi
   rw [hat i hi j hj, ← hu', List.getElem_map]
end
section
variable {H : Type} {enc : TypeId × Value → H} {W : World} {b0 : Nat} {v : Value} {d : DataW H} {p : List MemPlace}
theorem qqz {fuel : Nat} {cs : List Value} {x : DataW H × List MemPlace} (hf : DataW.trod enc Try.prog W 0 (fun _ => true) true fuel 82 cs = some x) : ∃ e : Sml, sml e = cs ∧ e.Ok := by
 obtain ⟨h1, h2⟩ := qic qme hf
 exact qmg h1 h2
set_option maxRecDepth 100000 in
theorem qq0 (hval : Value.okWide Try.prog W .any b0 28 v) (h : DataW.Trod enc Try.prog W 0 (fun _ => true) true 28 v d p) :
  ∃ (A : Option Addr) (c : Nat) (l : List Sml), v = .slice A l.length c ∧ l.length ≤ c ∧ c ≤ maxLen ∧ (∀ x ∈ l, x.Ok) ∧ Rd W W.heap.size 8 A l.length (l.flatMap sml) := by
 obtain ⟨a0, len, cap, rfl⟩ := okWide_slice qko hval
 obtain ⟨fuel, hf⟩ := h
 obtain ⟨A, c, l, hcs, h1⟩ := qmh sml Sml.Ok qko qmf de qjf (fun _ _ _ h => qqz h) hf
 simp only [Value.cells, List.cons.injEq, and_true, Value.slice.injEq] at hcs
 obtain ⟨rfl, rfl, rfl⟩ := hcs
 exact ⟨_, _, l, rfl, h1⟩
theorem nf0 : fieldAt Try.prog 27 0 0 5 = true := by kernel_rfl
theorem nf1 : fieldAt Try.prog 27 1 1 5 = true := by kernel_rfl
theorem nf2 : fieldAt Try.prog 27 2 2 22 = true := by kernel_rfl
theorem nf3 : fieldAt Try.prog 27 3 3 23 = true := by kernel_rfl
theorem nf4 : fieldAt Try.prog 27 4 8 25 = true := by kernel_rfl
theorem qmi : Try.prog.cellsOf 27 = 13 := by kernel_rfl
theorem qs3 : Try.prog.underlying 22 = some (.int .u32) := by kernel_rfl
theorem qs4 : Try.prog.underlying 24 = some (.int .u16) := by kernel_rfl
theorem qt9 : Try.prog.underlying 23 = some (.array 5 5) := by kernel_rfl
theorem qua : Try.prog.underlying 25 = some (.array 5 24) := by kernel_rfl
theorem qkp : Try.prog.cellsOf 5 = 1 := by kernel_rfl
theorem qpc : Try.prog.cellsOf 24 = 1 := by kernel_rfl
theorem qpd : Try.prog.cellsOf 22 = 1 := by kernel_rfl
theorem qkq : Try.prog.cellsOf 23 = 5 := by kernel_rfl
theorem qkr : Try.prog.cellsOf 25 = 5 := by kernel_rfl
theorem qg0 (k : Go.IntKind) : ∀ {zs : List Int}, (∀ z ∈ zs, 0 ≤ z) → zs.map (Value.int k) = (zs.map Int.toNat).map (fun z : Nat => Value.int k (z : Int))
 | [], _ => rfl
 | z :: r, h => by
  rw [List.map_cons, List.map_cons, List.map_cons, qg0 k (fun y hy => h y (List.mem_cons_of_mem _ hy)), Int.toNat_of_nonneg (h z (List.mem_cons_self ..))]
theorem qq1 {cs A B : List Value} {a b c : Value} (hl : cs.length = 13) (h0 : cs[0]? = some a) (h1 : cs[1]? = some b) (h2 : cs[2]? = some c) (h3 : (cs.drop 3).take 5 = A) (h4 : (cs.drop 8).take 5 = B) : cs = a :: b :: c :: (A ++ B) := by
 match cs, hl with
 | [c0, c1, c2, c3, c4, c5, c6, c7, c8, c9, c10, c11, c12], _ =>
  injection h0 with h0
  injection h1 with h1
  injection h2 with h2
  rw [← h3, ← h4, ← h0, ← h1, ← h2]
  rfl
theorem qpe {fuel : Nat} {cs : List Value} {y : DataW H × List MemPlace} (hf : DataW.trod enc Try.prog W 0 (fun _ => true) true fuel 27 cs = some y) : ∃ n : Nums, n.cells.toList = cs ∧ n.Ok := by
 obtain ⟨hl, _, y0, g0⟩ := qaa nf0 hf
 obtain ⟨_, _, y1, g1⟩ := qaa nf1 hf
 obtain ⟨_, _, y2, g2⟩ := qaa nf2 hf
 obtain ⟨_, _, y3, g3⟩ := qaa nf3 hf
 obtain ⟨_, _, y4, g4⟩ := qaa nf4 hf
 rw [qmi] at hl
 obtain ⟨c0, e0, _, w0⟩ := DataW.trod_int qml g0
 obtain ⟨c1, e1, _, w1⟩ := DataW.trod_int qml g1
 obtain ⟨c2, e2, _, w2⟩ := DataW.trod_int qs3 g2
 obtain ⟨ps, l3, e3, w3⟩ := qkn qt9 qml qkp qkq g3
 obtain ⟨ws, l4, e4, w4⟩ := qkn qua qs4 qpc qkr g4
 rw [qkp] at e0 e1
 rw [qpd] at e2
 rw [qkq] at e3
 rw [qkr] at e4
 have u0 := u8_wf w0
 have u1 := u8_wf w1
 have u2 := qq6 w2
 rw [qg0 _ fun z hz => (u8_wf (w3 z hz)).1] at e3
 rw [qg0 _ fun z hz => (qmm (w4 z hz)).1] at e4
 refine ⟨⟨c0.toNat, c1.toNat, c2.toNat, ps.map Int.toNat, ws.map Int.toNat⟩, ?_, ⟨by show c0.toNat < _; omega, by show c1.toNat < _; omega, by show c2.toNat < _; omega, by show (ps.map Int.toNat).length = 5; rw [List.length_map, l3], by show (ws.map Int.toNat).length = 5; rw [List.length_map, l4], fun z hz => ?_, fun z hz => ?_⟩⟩
 ·rw [qq1 hl (qbc e0) (qbc e1) (qbc e2) e3 e4]
  unfold Nums.cells
  dsimp only
  rw [Int.toNat_of_nonneg u0.1, Int.toNat_of_nonneg u1.1, Int.toNat_of_nonneg u2.1]
 ·obtain ⟨x, hx, rfl⟩ := List.mem_map.1 hz
  have := u8_wf (w3 x hx)
  omega
 ·obtain ⟨x, hx, rfl⟩ := List.mem_map.1 hz
  have := qmm (w4 x hx)
  omega
set_option maxRecDepth 100000 in
theorem qq2 (hval : Value.okWide Try.prog W .any b0 27 v) (h : DataW.Trod enc Try.prog W 0 (fun _ => true) true 27 v d p) : ∃ n : Nums, v = .agg n.cells ∧ n.Ok := by
 obtain ⟨fs, hu⟩ := qg4 (show qea Try.prog 27 = true by kernel_rfl)
 obtain ⟨cs, rfl, hs⟩ := okWide_struct hu hval
 obtain ⟨fuel, hf⟩ := h
 obtain ⟨n, e, hn⟩ := qpe (cs := cs.toList) hf
 exact ⟨n, by rw [Array.toList_inj.1 e], hn⟩
end
end Go.Proofs.Ytannicghedpdpaa
namespace Go.Proofs.Ytannicghedpdpaa
open Go.RowKit
structure Grow (s s' : Sta) : Prop where
 cpus : s'.cpus = s.cpus
 cl : s'.cl.length = s.cl.length
 clm : ∀ c, s.cl.getD c 0 ≤ s'.cl.getD c 0
 sp : s'.sp.length = s.sp.length
 row : ∀ g, (s'.sp.getD g []).length = (s.sp.getD g []).length
 fl : ∀ g c, (s.spot g c).floor ≤ (s'.spot g c).floor
section
variable {s a b d : Sta} {g c i : Nat} {z : Sp} {e : En} {o : Op30}
theorem Grow.refl (s : Sta) : Grow s s := ⟨rfl, rfl, fun _ => Int.le_refl _, rfl, fun _ => rfl, fun _ _ => Nat.le_refl _⟩
theorem Grow.trans (h : Grow a b) (k : Grow b d) : Grow a d := ⟨k.cpus.trans h.cpus, k.cl.trans h.cl, fun c => Int.le_trans (h.clm c) (k.clm c), k.sp.trans h.sp, fun g => (k.row g).trans (h.row g), fun g c => Nat.le_trans (h.fl g c) (k.fl g c)⟩
theorem qq3 (g' c' : Nat) : (s.qb6 g c z).spot g' c' = s.spot g' c' ∨ (g' = g ∧ c' = c ∧ (s.qb6 g c z).spot g' c' = z) := by
 rcases Nat.lt_or_ge g s.sp.length with hg | hg
 ·rcases Nat.lt_or_ge c (s.sp.getD g []).length with hc | hc
  ·rw [qka hg hc]
   split
   ·rename_i h; exact .inr ⟨h.1, h.2, rfl⟩
   ·exact .inl rfl
  ·refine .inl ?_
   unfold Sta.qb6
   rw [List.set_eq_of_length_le hc, qcg [] hg]
 ·refine .inl ?_
  unfold Sta.qb6
  rw [List.set_eq_of_length_le hg]
theorem Grow.spot (hz : z.floor = (s.spot g c).floor) : Grow s (s.qb6 g c z) := ⟨rfl, rfl, fun _ => Int.le_refl _, qar, qez, fun g' c' => by
 rcases qq3 (s := s) (g := g) (c := c) (z := z) g' c' with h | ⟨rfl, rfl, h⟩
 ·rw [h]; exact Nat.le_refl _
 ·rw [h, hz]; exact Nat.le_refl _⟩
theorem Grow.run : Grow s (s.qdx g c e) := Grow.spot rfl
theorem Grow.wake1 : Grow s (wake1 c s g) := Grow.run
theorem Grow.wake : ∀ (l : List Nat) (s : Sta), Grow s (wakeS s l c)
 | [], s => Grow.refl s
 | g :: r, s => (Grow.wake1 (s := s) (c := c) (g := g)).trans (Grow.wake r (Go.Proofs.Ytannicghedpdpaa.wake1 c s g))
theorem Grow.charge (c d : Nat) : ∀ (f g : Nat) (s : Sta), Grow s (q9 c d f g s)
 | 0, _, s => Grow.refl s
 | f + 1, g, s => by
  rw [q9]
  split
  ·exact Grow.refl s
  ·exact (Grow.run (s := s) (g := g) (c := c) (e := (s.spEn g c).add d)).trans (Grow.charge c d f _ _)
theorem Grow.ts {l : List Tk} : Grow s { s with ts := l } := ⟨rfl, rfl, fun _ => Int.le_refl _, rfl, fun _ => rfl, fun _ _ => Nat.le_refl _⟩
theorem Grow.cu {l : List Int} : Grow s { s with cu := l } := ⟨rfl, rfl, fun _ => Int.le_refl _, rfl, fun _ => rfl, fun _ _ => Nat.le_refl _⟩
theorem Grow.move (i : Nat) (to : Int) : Grow s (moveS s i to) := by
 unfold moveS
 dsimp only
 split
 ·exact Grow.ts.trans (Grow.wake _ _)
 ·exact Grow.ts
theorem Grow.step : Grow s (stepS s o).1 := by
 unfold stepS
 split
 ·unfold qcu; repeat' split
  all_goals first | exact Grow.refl s | exact Grow.ts.trans (Grow.wake _ _)
 ·unfold qcv; repeat' split
  all_goals first | exact Grow.refl s | exact Grow.ts.trans (Grow.wake _ _)
 ·unfold qav; repeat' split
  all_goals first | exact Grow.refl s | exact ⟨rfl, rfl, fun _ => Int.le_refl _, rfl, fun _ => rfl, fun _ _ => Nat.le_refl _⟩
 ·unfold qav; repeat' split
  all_goals first | exact Grow.refl s | exact ⟨rfl, rfl, fun _ => Int.le_refl _, rfl, fun _ => rfl, fun _ _ => Nat.le_refl _⟩
 ·unfold tickS
  split
  ·exact Grow.refl s
  ·split
   ·exact Grow.refl s
   ·split
    ·exact Grow.refl s
    ·rename_i _ h2 _
     have hcl : Grow s { s with cl := s.cl.set o.cpu.toNat (s.cl.getD o.cpu.toNat 0 + o.ticks) } := ⟨rfl, by show (s.cl.set _ _).length = _; rw [List.length_set], fun c => by
      show s.cl.getD c 0 ≤ (s.cl.set o.cpu.toNat (s.cl.getD o.cpu.toNat 0 + o.ticks)).getD c 0
      by_cases e : o.cpu.toNat = c
      ·subst e
       rcases Nat.lt_or_ge o.cpu.toNat s.cl.length with h | h
       ·rw [qh _ _ h]; omega
       ·rw [List.set_eq_of_length_le h]; exact Int.le_refl _
      ·rw [getD_set_ne _ _ e]; exact Int.le_refl _, rfl, fun _ => rfl, fun _ _ => Nat.le_refl _⟩
     dsimp only
     split
     ·exact hcl
     ·exact hcl.trans (Grow.ts.trans (Grow.charge ..))
 ·unfold pickS; split
  ·exact Grow.refl s
  ·exact Grow.cu
 ·unfold zm; repeat' split
  all_goals first | exact Grow.refl s | exact Grow.ts
 ·unfold qaj
  split
  ·exact Grow.refl s
  ·split
   ·exact Grow.refl s
   ·refine ⟨rfl, rfl, fun _ => Int.le_refl _, List.length_set .., fun g => ?_, fun g c => ?_⟩
    ·show ((s.sp.set o.group.toNat _).getD g []).length = _
     by_cases e : o.group.toNat = g
     ·subst e
      rcases Nat.lt_or_ge o.group.toNat s.sp.length with h | h
      ·rw [qh _ _ h, List.length_map]
      ·rw [List.set_eq_of_length_le h]
     ·rw [getD_set_ne _ _ e]
    ·show (s.spot g c).floor ≤ (((s.sp.set o.group.toNat _).getD g []).getD c Sp.zero).floor
     by_cases e : o.group.toNat = g
     ·subst e
      rcases Nat.lt_or_ge o.group.toNat s.sp.length with h | h
      ·rw [qh _ _ h, List.getD_eq_getElem?_getD, List.getElem?_map]
       unfold Sta.spot
       rw [List.getD_eq_getElem?_getD (l := s.sp.getD o.group.toNat [])]
       cases (s.sp.getD o.group.toNat [])[c]? <;> exact Nat.le_refl _
      ·rw [List.set_eq_of_length_le h]; exact Nat.le_refl _
     ·rw [getD_set_ne _ _ e]; exact Nat.le_refl _
 ·unfold qak; repeat' split
  all_goals first | exact Grow.refl s | exact Grow.move _ _
 ·unfold zn; repeat' split
  all_goals first | exact Grow.refl s | exact Grow.move _ _
 ·exact Grow.refl s
theorem Grow.rise : Grow s (riseS s) := ⟨rfl, rfl, fun _ => Int.le_refl _, z8, qgk, fun g c => by
 rcases Nat.lt_or_ge g s.sp.length with hg | hg
 ·rcases Nat.lt_or_ge c (s.sp.getD g []).length with hc | hc
  ·rw [qe1 hg hc]
   unfold rise1
   split
   ·exact Nat.le_refl _
   ·exact Nat.le_max_left ..
  ·unfold Sta.spot
   rw [List.getD_eq_getElem?_getD (l := s.sp.getD g []), List.getElem?_eq_none hc]
   exact Nat.zero_le _
 ·unfold Sta.spot
  rw [List.getD_eq_getElem?_getD (l := s.sp), List.getElem?_eq_none hg]
  exact Nat.zero_le _⟩
theorem qs5 : Grow s (doS s o).1 := by
 by_cases he : (stepS s o).2.2 = 0
 ·rw [qe8 he]; exact Grow.step.trans Grow.rise
 ·rw [qe7 he]; exact Grow.refl s
theorem qs6 (h : (doS s o).2.2 ≠ 0) : (doS s o).1 = s := by
 by_cases he : (stepS s o).2.2 = 0
 ·rw [qe8 he] at h; exact absurd rfl h
 ·rw [qe7 he]
end
section
variable {s : Sta} {x : Stm} {k c : Nat}
theorem qks (h : x.sta = s) : x.cl = s.cl := congrArg Sta.cl h
theorem qrm (h : x.sta = s) : x.rs.length = s.sp.length := by rw [← h, q6]
theorem qji (h : x.sta = s) (hk : k < x.rs.length) : (x.rs.getD k Rw.zero).l = s.sp.getD k [] := by rw [← h, rs_at hk]
theorem qkt (h : x.sta = s) (hk : k < x.rs.length) : (x.rs.getD k Rw.zero).l.getD c Sp.zero = s.spot k c := by
 unfold Sta.spot
 rw [← qji h hk]
end
theorem Rd.to {w : World} {B sz n : Nat} {A A' : Option Addr} {xs : List Value} (h : Rd w B sz A n xs) (e : A = A') : Rd w B sz A' n xs := e ▸ h
theorem qku {w : World} {x : Stm} {y : Rw} {k : Nat} {A : Option Addr} (hy : x.rs.getD k Rw.zero = y) (hk : k < x.rs.length) (hx : StRd w x) (e : y.A = A) : Rd w w.heap.size 3 A y.l.length (y.l.flatMap spL) := by
 subst e
 rw [← hy]
 exact hx.row hk
theorem qh9 (n : Nums) (hn : n.Ok) (A : Option Addr) (c : Nat) (l : List Sml) (hl : ∀ x ∈ l, x.Ok) (hc : l.length ≤ c) (hnl : l.length ≤ 9223372036854775807) (w : World) (hr : Rd w w.heap.size 8 A l.length (l.flatMap sml)) :
    Calls Try.prog 7 #[.agg n.cells, .slice A l.length c] w (Is w (.bool true)) := by
 have hsl := qo9 l 120
 refine (JN2 Try.func7 160) ?_
 refine (JP∘JE) fun w2 g2 => (Jp 1∘Jr∘Jy (v := .agg n.cells) (h:=by exact Yl.loadS rfl rfl qsz (qpa hn) (fun _ h => qa (h.blk (i := 0) rfl)))∘JK (h:=by exact fun I => qmc n hn _)) fun A20 c20 w20 hc20 => (JL (h:=by exact fun I => qo5 (Nums.cfg hn) (I.rd (i := 0) rfl))) ?_
 rintro I _ w21 ⟨gm, x, rfl, hx, hm⟩
 refine ⟨_, rfl, _, (show Mem w w21 ((mdB gm x ++ ([]))) from by have h := Mem.alone I hm; rw [← List.append_nil (mdB gm x)] at h; exact h), ?_⟩
 refine (Jp 1∘Jx∘Jx∘Jp 2∘Jj∘JQ∘JP∘Jv 4 [(27, vP gm 0), (26, .bool false)]∘Jy (v := .bool false) (h:=by exact Yl.qkv rfl rfl rfl)∘Jp 1∘Jd4∘Jj∘JF∘JS'∘JP∘Jp 1∘JL (h:=by exact fun I => qo8 0 I rfl hx (Nums.good hn).1)) ?_
 rintro I _ w32 ⟨p, rfl, hp, hcapp, hm⟩
 refine ⟨_, rfl, _, (show Mem w w32 ((stF p ++ (mdB gm x ++ ([])))) from I.joinF (T := (mdB gm x ++ ([]))) 0 hm rfl), ?_⟩
 refine (Jp 1∘Jx∘Jx∘JA #[vI 0, vQ 0, vN, vN, vN, vN, vN]) fun w7 g7 => (JV si_st O0' (h1:=by exact qgd p)) fun w4_6 => (Jp 1∘Jj∘JQ∘JP∘Jp 1∘JK (h:=by exact fun I => qmd A c l 120 _ hl (I.old hr) hc hnl de)) fun A36 c36 w36 hc36 => (Jl∘Jp 1∘Jj∘JB) fun a Z I => ?_
 refine qk (fun mS aS wS => ∃ (k : Nat) (x : Stm) (p : Stm) (s : Sta), (k ≤ (qf l 120).length) ∧ (x.sta = s) ∧ (p.sta = s) ∧ (GoodS s) ∧ (zp s = true) ∧ mS = (qf l 120).length - k ∧ Fr aS 160 [] [(38, vI k), (37, vI ((qf l 120).length : Nat)), (36, .slice A36 ((qf l 120).length) c36), (8, vI 0), (7, vP g7 0), (29, .bool false), (5, vP gm 0), (4, .bool false)] ∧ Mem w wS (.row (.slice A36 ((qf l 120).length) c36) ((qf l 120).length) ((qf l 120).flatMap opL) 48 8 :: .blk g7 p.cells 42 :: (stF p ++ (mdB gm x ++ ([]))))) (m := (qf l 120).length - 0) ⟨0, x, p, n.new, Nat.zero_le _, hx, hp, (Nums.good hn).1, (Nums.good hn).2, rfl, Z.sub kr, I.pt 2 [0, 1]⟩ ?_
 clear Z I; rintro mS a w_ ⟨k, x, p, s, hk, hx, hp, hG, hR, rfl, Z, I⟩
 refine Jb Z I ((JP∘Jp 1∘Jj∘JQ) (Ju (fun hb39 => ?_) fun hb39 => ?_))
 ·
  intro a Z I
  have hd39 := of_decide_eq_true hb39
  have hkl : k < (qf l 120).length := by omega
  obtain ⟨o, ho⟩ : ∃ z, (qf l 120).getD k Op30.zero = z := ⟨_, rfl⟩
  have hoo : o.Ok := by rw [← ho]; exact qo1 hl _ (qi Op30.zero hkl)
  have hG' := qkl hoo hG
  have hR' := qqv hoo hG hR
  have hgw := qs5 (s := s) (o := o)
  have hfp := few_s hp hG
  refine Jb Z I ((JT∘JS'∘JQ∘JB∘JP) ?_)
  repeat (first | clear Z | clear I)
  intro a Z I
  obtain ⟨gA36, rfl⟩ := qm (I.own (i := 0) rfl) (Nat.lt_of_le_of_lt (Nat.zero_le _) (show k < (qf l 120).length from by omega))
  refine Jb Z I ((Jy (h:=by exact Yl.ix0 gA36 k 8 rfl rfl rfl)∘Jy (v := .agg (((qf l 120).getD k Op30.zero).cells)) (h:=by exact Yl.loadS rfl rfl si_op rfl (fun _ h => h.qc9 qsx (i := 0) rfl ((getD_at Op30.zero hkl))))∘Jo (.agg o.cells) (by rw [ho])∘JA #[vB 0, vI 0, vI 0, vI 0, vI 0, vI 0, vI 0, vQ 0]) fun w10 g10 => (JV si_op O0' (h1:=by exact qre o)) fun w7_3 => (Jd2∘Jr∘Jp 1∘Jy (v := .agg o.cells) (h:=by exact Yl.loadS rfl rfl si_op rfl (fun _ h => qa (h.blk (i := 0) rfl)))∘JL (h:=by exact fun I => do_s 3 (show Mem w w7_3 (.blk g10 o.cells 48 :: .row (vS gA36 ((qf l 120).length) c36) ((qf l 120).length) ((qf l 120).flatMap opL) 48 8 :: .blk g7 p.cells 42 :: (mdB gm x ++ (stF p ++ ([])))) from Mem.swapT (A := stF p) (B := mdB gm x) 3 I rfl) rfl hx hG hoo)) ?_)
  rintro I _ w45 ⟨y, rfl, hy, HM2⟩
  refine ⟨_, rfl, _, (show Mem w w45 (.blk g10 o.cells 48 :: .row (vS gA36 ((qf l 120).length) c36) ((qf l 120).length) ((qf l 120).flatMap opL) 48 8 :: .blk g7 p.cells 42 :: (stF p ++ (mdB gm y ++ ([])))) from Mem.swapT (A := mdB gm y) (B := stF p) 3 (show Mem w w45 (.blk g10 o.cells 48 :: .row (vS gA36 ((qf l 120).length) c36) ((qf l 120).length) ((qf l 120).flatMap opL) 48 8 :: .blk g7 p.cells 42 :: (mdB gm y ++ (stF p ++ ([])))) from HM2.back) rfl), ?_⟩
  refine (Jp 1∘Jx∘Jx∘Jp 2∘Jd6∘Jr∘Jp 1∘JL (h:=by exact fun I => qo8 3 (show Mem w w45 (.blk g10 o.cells 48 :: .row (vS gA36 ((qf l 120).length) c36) ((qf l 120).length) ((qf l 120).flatMap opL) 48 8 :: .blk g7 p.cells 42 :: (mdB gm y ++ ([]))) from Mem.dropT (A := stF p) 3 I rfl) rfl hy hG')) ?_
  rintro I _ w50 ⟨q, rfl, hq, hcapq, hm⟩
  refine ⟨_, rfl, _, (show Mem w w50 (.blk g10 o.cells 48 :: .row (vS gA36 ((qf l 120).length) c36) ((qf l 120).length) ((qf l 120).flatMap opL) 48 8 :: .blk g7 p.cells 42 :: (stF q ++ (stF p ++ (mdB gm y ++ ([]))))) from I.joinF (T := (stF p ++ (mdB gm y ++ ([])))) 3 hm rfl), ?_⟩
  refine (Jp 1∘Jx∘Jx∘JA #[vI 0, vQ 0, vN, vN, vN, vN, vN]) fun w13 g13 => (JV si_st O0' (h1:=by exact qgd q)) fun w9_6 => (Jp 1∘Jq) fun a Z I => ?_
  have hlc : q.cl.length = p.cl.length := by rw [qks hp, qks hq]; exact hgw.cl
  have hls : q.rs.length = p.rs.length := by rw [qrm hp, qrm hq]; exact hgw.sp
  have hfl := hfp.l; have hfs := hfp.s
  refine Jb Z I ((JG∘JQ) fun a Z I => ?_)
  refine q4 (fun aS wS => Fr aS 160 [] [(89, .bool false), (14, vI 0), (13, vP g13 0), (12, vI ((doS s o).2.2)), (10, vP g10 0), (39, .bool true), (38, vI k), (37, vI ((qf l 120).length : Nat)), (36, vS gA36 ((qf l 120).length) c36), (8, vI 0), (7, vP g7 0), (29, .bool false), (5, vP gm 0), (4, .bool false)] ∧ Mem w wS (.blk g13 q.cells 42 :: .blk g10 o.cells 48 :: .row (vS gA36 ((qf l 120).length) c36) ((qf l 120).length) ((qf l 120).flatMap opL) 48 8 :: .blk g7 p.cells 42 :: (stF q ++ (stF p ++ (mdB gm y ++ ([])))))) ?_ ?_
  ·
   refine zq ?_
   refine Jb Z I ((Jv 5 [(57, .bool false)]∘Jy (v := .agg q.cells) (h:=by exact Yl.loadS rfl rfl si_st rfl (fun _ h => qa (h.blk (i := 0) rfl)))∘JI (h:=by exact fun I => qs2 (I.st1 4 rfl) hq hG' hR')) fun w59 hbw => (Jp 6) (Jh (fun hd65 => ?_) fun hd65 => ?_))
   ·
    refine (Jy (v := .agg p.cells) (h:=by exact Yl.loadS rfl rfl si_st rfl (fun _ h => qa (h.blk (i := 3) rfl)))∘Jy (v := .agg q.cells) (h:=by exact Yl.loadS rfl rfl si_st rfl (fun _ h => qa (h.blk (i := 0) rfl)))∘JI (h:=by exact fun I => qt8 (I.st2 4 rfl) (I.st1 4 rfl) hp (hq.trans (qs6 om)) hG)) fun w68 hbw => (Jp 4∘Jg 3 O0∘Jl∘Jo (vI p.cl.length) (by rw [hlc])∘Jg 3 O3∘Jl∘Jp 1∘Jo (.bool false) (by simp)∘Jp 2∘Jg 6 O0∘Jl∘Jo (vI p.rs.length) (by rw [hls])∘Jg 6 O3∘Jl∘Jp 1∘Jo (.bool false) (by simp)∘Jp 1∘Jd6∘Jq) fun a Z I => ?_
    have Z := Z.sp 89 (.bool false) rfl (rfl)
    exact ⟨Z.sub kr, I.pt 4 [0, 1, 2, 3]⟩
   refine (Jp 7∘Jg 3 O0∘Jl∘Jo (vI p.cl.length) (by rw [hlc])∘Jg 3 O3∘Jl∘Jp 1∘Jo (.bool false) (by simp)∘Jp 2∘Jg 6 O0∘Jl∘Jo (vI p.rs.length) (by rw [hls])∘Jg 6 O3∘Jl∘Jp 1∘Jo (.bool false) (by simp)∘Jp 1∘Jd6∘Jq) fun a Z I => ?_
   have Z := Z.sp 89 (.bool false) rfl (rfl)
   exact ⟨Z.sub kr, I.pt 4 [0, 1, 2, 3]⟩
  clear Z I; rintro a w10 ⟨Z, I⟩
  refine Jb Z I ((JF∘JS'∘JQ∘JP∘Jg 3 O3∘Jl∘Jp 1∘Jj∘JB) fun a Z I => ?_)
  refine qk (fun mS aS wS => ∃ (c : Nat), (c ≤ p.cl.length) ∧ mS = p.cl.length - c ∧ Fr aS 160 [] [(93, vI c), (92, vI p.cl.length), (89, .bool false), (14, vI 0), (13, vP g13 0), (12, vI ((doS s o).2.2)), (10, vP g10 0), (39, .bool true), (38, vI k), (37, vI ((qf l 120).length : Nat)), (36, vS gA36 ((qf l 120).length) c36), (8, vI 0), (7, vP g7 0), (29, .bool false), (5, vP gm 0), (4, .bool false)] ∧ Mem w wS (.blk g13 q.cells 42 :: .blk g10 o.cells 48 :: .row (vS gA36 ((qf l 120).length) c36) ((qf l 120).length) ((qf l 120).flatMap opL) 48 8 :: .blk g7 p.cells 42 :: (stF q ++ (stF p ++ (mdB gm y ++ ([])))))) (m := p.cl.length - 0) ⟨0, Nat.zero_le _, rfl, Z.sub kr, I.pt 4 [0, 1, 2, 3]⟩ ?_
  clear Z I; rintro mS a w_ ⟨c, hzc, rfl, Z, I⟩
  refine Jb Z I ((JP∘Jp 1∘Jj∘JQ) (Ju (fun hb94 => ?_) fun hb94 => ?_))
  ·
   intro a Z I
   have hd94 := of_decide_eq_true hb94
   have hc1 : c < p.cl.length := by omega
   have hc2 : c < q.cl.length := by omega
   obtain ⟨gp, op, hgp, _⟩ := ((I.st2 4 rfl).l).qn (show 0 < p.cl.length by omega) de
   obtain ⟨gq, oq, hgq, _⟩ := ((I.st1 4 rfl).l).qn (show 0 < q.cl.length by omega) de
   have hmo := hgw.clm c
   rw [← qks hp, ← qks hq] at hmo
   refine Jb Z I ((JT∘JS'∘JQ∘JB∘JP∘Jp 2∘Jd1∘Jj) fun a Z I => ?_)
   refine wp_seq ?_
   refine Jb Z I ((Vs .n []) fun wd15 => (Vf 0 3∘Vp [2]∘Vf 5 3∘Vp [7]∘Vc 1 O0∘Vo (.slice (some ⟨gq, oq, none⟩) q.cl.length q.lc) (by rw [hgq])∘Vy 3 (h:=by exact Yl.ix gq oq c 1 rfl rfl rfl)∘Vy 4 (v := vI (q.cl.getD c 0)) (h:=by exact Yl.ql rfl rfl kr (fun _ h => ((Mem.st1 4 h rfl).l.to hgq).qc7 (k := c) (qae (F := I64i) (k := c) (x := (q.cl.getD c 0)) ((getD_at 0 hc2)))))∘Vc 6 O3∘Vo (.slice (some ⟨gp, op, none⟩) p.cl.length p.lc) (by rw [hgp])∘Vy 8 (h:=by exact Yl.ix gp op c 1 rfl rfl rfl)∘Vy 9 (v := vI (p.cl.getD c 0)) (h:=by exact Yl.ql rfl rfl kr (fun _ h => ((Mem.st2 4 h rfl).l.to hgp).qc7 (k := c) (qae (F := I64i) (k := c) (x := (p.cl.getD c 0)) ((getD_at 0 hc1)))))∘Vp [10]∘Vd∘Jd6) (Ji (fun hd106 => ?_) fun hd106 => ?_))
   ·
    exact (JT∘JP∘Jp 1∘Jj∘JZ∘Jz1) fun I => absurd hd106 om
   refine (JF∘JS'∘JR∘JaK 1∘Jp 1∘Jd1∘Jq) fun a Z I => ?_
   exact ⟨_, om, c + 1, by omega, rfl, Z.sub kr, I.pt 4 [0, 1, 2, 3]⟩
  intro a Z I
  have hd94 := of_decide_eq_false hb94
  refine Jb Z I ((JF∘JX∘JG∘JQ∘JP∘Jg 6 O3∘Jl∘Jp 1∘Jj∘JB) fun a Z I => ?_)
  refine qk (fun mS aS wS => ∃ (i : Nat), (i ≤ p.rs.length) ∧ mS = p.rs.length - i ∧ Fr aS 160 [] [(111, vI i), (110, vI p.rs.length), (94, .bool false), (93, vI c), (92, vI p.cl.length), (89, .bool false), (14, vI 0), (13, vP g13 0), (12, vI ((doS s o).2.2)), (10, vP g10 0), (39, .bool true), (38, vI k), (37, vI ((qf l 120).length : Nat)), (36, vS gA36 ((qf l 120).length) c36), (8, vI 0), (7, vP g7 0), (29, .bool false), (5, vP gm 0), (4, .bool false)] ∧ Mem w wS (.blk g13 q.cells 42 :: .blk g10 o.cells 48 :: .row (vS gA36 ((qf l 120).length) c36) ((qf l 120).length) ((qf l 120).flatMap opL) 48 8 :: .blk g7 p.cells 42 :: (stF q ++ (stF p ++ (mdB gm y ++ ([])))))) (m := p.rs.length - 0) ⟨0, Nat.zero_le _, rfl, Z.sub kr, I.pt 4 [0, 1, 2, 3]⟩ ?_
  clear Z I; rintro mS a w_ ⟨i, hzi, rfl, Z, I⟩
  refine Jb Z I ((JP∘Jp 1∘Jj∘JQ) (Ju (fun hb112 => ?_) fun hb112 => ?_))
  ·
   intro a Z I
   have hd112 := of_decide_eq_true hb112
   have hi1 : i < p.rs.length := by omega
   have hi2 : i < q.rs.length := by omega
   obtain ⟨gps, ops, hgps, _⟩ := ((I.st2 4 rfl).s).qn (show 0 < p.rs.length by omega) de
   obtain ⟨gqs, oqs, hgqs, _⟩ := ((I.st1 4 rfl).s).qn (show 0 < q.rs.length by omega) de
   obtain ⟨u, hu⟩ : ∃ z, p.rs.getD i Rw.zero = z := ⟨_, rfl⟩
   obtain ⟨v, hv⟩ : ∃ z, q.rs.getD i Rw.zero = z := ⟨_, rfl⟩
   have hlr : v.l.length = u.l.length := by rw [← hu, ← hv, qji hp hi1, qji hq hi2]; exact hgw.row i
   have hul : u.l.length ≤ 1000000 := by rw [← hu]; exact hfp.r _ (qi Rw.zero hi1)
   refine Jb Z I ((JT∘JS'∘JQ∘JB∘JP∘Jp 2∘Jd1∘Jj∘JQ) fun a Z I => ?_)
   refine wp_seq ?_
   refine Jb Z I ((Vs .n []) fun wd21 => (Vf 0 6∘Vp [2]∘Vf 6 6∘Vp [8]∘Vc 1 O0∘Vo (.slice (some ⟨gqs, oqs, none⟩) q.rs.length q.sc) (by rw [hgqs])∘Vy 3 (h:=by exact Yl.ix gqs oqs i 1 rfl rfl rfl)∘Vy 4 (v := .slice ((q.rs.getD i Rw.zero).A) ((q.rs.getD i Rw.zero).l.length) ((q.rs.getD i Rw.zero).c)) (h:=by exact Yl.ql rfl rfl kr (fun _ h => ((Mem.st1 4 h rfl).s.to hgqs).qc7 (k := i) (qae (F := Rw.val) (k := i) (x := (q.rs.getD i Rw.zero)) ((getD_at Rw.zero hi2)))))∘Vo (.slice v.A v.l.length v.c) (by rw [hv])∘Vl 5∘Vo (vI u.l.length) (by rw [hlr])∘Vc 7 O3∘Vo (.slice (some ⟨gps, ops, none⟩) p.rs.length p.sc) (by rw [hgps])∘Vy 9 (h:=by exact Yl.ix gps ops i 1 rfl rfl rfl)∘Vy 10 (v := .slice ((p.rs.getD i Rw.zero).A) ((p.rs.getD i Rw.zero).l.length) ((p.rs.getD i Rw.zero).c)) (h:=by exact Yl.ql rfl rfl kr (fun _ h => ((Mem.st2 4 h rfl).s.to hgps).qc7 (k := i) (qae (F := Rw.val) (k := i) (x := (p.rs.getD i Rw.zero)) ((getD_at Rw.zero hi1)))))∘Vo (.slice u.A u.l.length u.c) (by rw [hu])∘Vl 11∘Vp [12]∘Vd∘Jd6) (Jh (fun hd126 => ?_) fun hd126 => ?_))
   ·
    exact (JT∘JP∘Jp 1∘Jj∘JZ∘Jz1) fun I => absurd rfl hd126
   refine (JF∘JS'∘JP∘Jf 6∘Jc O3∘Jo (.slice (some ⟨gps, ops, none⟩) p.rs.length p.sc) (by rw [hgps])∘Jp 1∘Jy (h:=by exact Yl.ix gps ops i 1 rfl rfl rfl)∘Jy (v := .slice ((p.rs.getD i Rw.zero).A) ((p.rs.getD i Rw.zero).l.length) ((p.rs.getD i Rw.zero).c)) (h:=by exact Yl.ql rfl rfl kr (fun _ h => ((Mem.st2 4 h rfl).s.to hgps).qc7 (k := i) (qae (F := Rw.val) (k := i) (x := (p.rs.getD i Rw.zero)) ((getD_at Rw.zero hi1)))))∘Jo (.slice u.A u.l.length u.c) (by rw [hu])∘Jl∘Jp 1∘Jj∘JB) fun a Z I => ?_
   refine qk (fun mS aS wS => ∃ (d : Nat), (d ≤ u.l.length) ∧ mS = u.l.length - d ∧ Fr aS 160 [] [(133, vI d), (132, vI u.l.length), (126, .bool false), (16, vI i), (112, .bool true), (111, vI i), (110, vI p.rs.length), (94, .bool false), (93, vI c), (92, vI p.cl.length), (89, .bool false), (14, vI 0), (13, vP g13 0), (12, vI ((doS s o).2.2)), (10, vP g10 0), (39, .bool true), (38, vI k), (37, vI ((qf l 120).length : Nat)), (36, vS gA36 ((qf l 120).length) c36), (8, vI 0), (7, vP g7 0), (29, .bool false), (5, vP gm 0), (4, .bool false)] ∧ Mem w wS (.blk g13 q.cells 42 :: .blk g10 o.cells 48 :: .row (vS gA36 ((qf l 120).length) c36) ((qf l 120).length) ((qf l 120).flatMap opL) 48 8 :: .blk g7 p.cells 42 :: (stF q ++ (stF p ++ (mdB gm y ++ ([])))))) (m := u.l.length - 0) ⟨0, Nat.zero_le _, rfl, Z.sub kr, I.pt 4 [0, 1, 2, 3]⟩ ?_
   clear Z I; rintro mS a w_ ⟨d, hzd, rfl, Z, I⟩
   refine Jb Z I ((JP∘Jp 1∘Jj∘JQ) (Ju (fun hb134 => ?_) fun hb134 => ?_))
   ·
    intro a Z I
    have hd134 := of_decide_eq_true hb134
    have hd1 : d < u.l.length := by omega
    have hd2 : d < v.l.length := by omega
    obtain ⟨gpr, opr, hgpr, _⟩ := ((qku hu hi1 (I.st2 4 rfl) rfl)).qn (show 0 < u.l.length by omega) de
    obtain ⟨gqr, oqr, hgqr, _⟩ := ((qku hv hi2 (I.st1 4 rfl) rfl)).qn (show 0 < v.l.length by omega) de
    have hmo := hgw.fl i d
    rw [← qkt hp hi1, ← qkt hq hi2, hu, hv] at hmo
    refine Jb Z I ((JT∘JS'∘JQ∘JB∘JP∘Jp 2∘Jd1∘Jj) fun a Z I => ?_)
    refine wp_seq ?_
    refine Jb Z I ((Vs .n []) fun wd26 => (Vf 0 6∘Vp [2, 5]∘Vf 9 6∘Vp [11, 14]∘Vc 1 O0∘Vo (.slice (some ⟨gqs, oqs, none⟩) q.rs.length q.sc) (by rw [hgqs])∘Vy 3 (h:=by exact Yl.ix gqs oqs i 1 rfl rfl rfl)∘Vy 4 (v := .slice ((q.rs.getD i Rw.zero).A) ((q.rs.getD i Rw.zero).l.length) ((q.rs.getD i Rw.zero).c)) (h:=by exact Yl.ql rfl rfl kr (fun _ h => ((Mem.st1 4 h rfl).s.to hgqs).qc7 (k := i) (qae (F := Rw.val) (k := i) (x := (q.rs.getD i Rw.zero)) ((getD_at Rw.zero hi2)))))∘Vo (.slice (some ⟨gqr, oqr, none⟩) v.l.length v.c) (by rw [hv, hgqr])∘Vy 6 (h:=by exact Yl.ix gqr oqr d 3 rfl rfl rfl)∘Vf 7 2∘Vy 8 (v := vQ ((v.l.getD d Sp.zero).floor)) (h:=by exact Yl.ql rfl rfl kr (fun _ h => (qku hv hi2 (Mem.st1 4 h rfl) hgqr).partAt qad (k := d) (j := 2) (x := (v.l.getD d Sp.zero)) ((getD_at Sp.zero hd2)) rfl))∘Vc 10 O3∘Vo (.slice (some ⟨gps, ops, none⟩) p.rs.length p.sc) (by rw [hgps])∘Vy 12 (h:=by exact Yl.ix gps ops i 1 rfl rfl rfl)∘Vy 13 (v := .slice ((p.rs.getD i Rw.zero).A) ((p.rs.getD i Rw.zero).l.length) ((p.rs.getD i Rw.zero).c)) (h:=by exact Yl.ql rfl rfl kr (fun _ h => ((Mem.st2 4 h rfl).s.to hgps).qc7 (k := i) (qae (F := Rw.val) (k := i) (x := (p.rs.getD i Rw.zero)) ((getD_at Rw.zero hi1)))))∘Vo (.slice (some ⟨gpr, opr, none⟩) u.l.length u.c) (by rw [hu, hgpr])∘Vy 15 (h:=by exact Yl.ix gpr opr d 3 rfl rfl rfl)∘Vf 16 2∘Vy 17 (v := vQ ((u.l.getD d Sp.zero).floor)) (h:=by exact Yl.ql rfl rfl kr (fun _ h => (qku hu hi1 (Mem.st2 4 h rfl) hgpr).partAt qad (k := d) (j := 2) (x := (u.l.getD d Sp.zero)) ((getD_at Sp.zero hd1)) rfl))∘Vp [18]∘Vd∘Jd6) (Ji (fun hd154 => ?_) fun hd154 => ?_))
    ·
     exact (JT∘JP∘Jp 1∘Jj∘JZ∘Jz1) fun I => absurd hd154 om
    refine (JF∘JS'∘JR∘JaK 1∘Jp 1∘Jd1∘Jq) fun a Z I => ?_
    exact ⟨_, om, d + 1, by omega, rfl, Z.sub kr, I.pt 4 [0, 1, 2, 3]⟩
   intro a Z I
   have hd134 := of_decide_eq_false hb134
   refine Jb Z I ((JF∘JX∘JG∘JR∘JaK 1∘Jp 1∘Jd1∘Jq) fun a Z I => ?_)
   exact ⟨_, om, i + 1, by omega, rfl, Z.sub kr, I.pt 4 [0, 1, 2, 3]⟩
  intro a Z I
  have hd112 := of_decide_eq_false hb112
  refine Jb Z I ((JF∘JX∘JG∘JR∘Jy (v := .agg q.cells) (h:=by exact Yl.loadS rfl rfl si_st rfl (fun _ h => qa (h.blk (i := 0) rfl)))∘JV si_st O3' (h1:=by exact qgd q)) fun w30_1 => (Jt1∘Jq) fun a Z I => ?_)
  replace I := (show Mem w _ (.blk g13 q.cells 42 :: .blk g10 o.cells 48 :: .row (vS gA36 ((qf l 120).length) c36) ((qf l 120).length) ((qf l 120).flatMap opL) 48 8 :: .blk g7 q.cells 42 :: (stF q ++ (mdB gm y ++ ([])))) from Mem.dropT (A := stF p) 4 (show Mem w _ (.blk g13 q.cells 42 :: .blk g10 o.cells 48 :: .row (vS gA36 ((qf l 120).length) c36) ((qf l 120).length) ((qf l 120).flatMap opL) 48 8 :: .blk g7 q.cells 42 :: (stF p ++ (stF q ++ (mdB gm y ++ ([]))))) from Mem.swapT (A := stF q) (B := stF p) 4 I rfl) rfl)
  refine Jb Z I ((JG∘JR∘JaK 1∘Jp 1∘Jd1∘Jq) fun a Z I => ?_)
  exact ⟨_, om, k + 1, y, q, (doS s o).1, by omega, hy, hq, hG', hR', rfl, Z.sub kr, I.pt 4 [2, 3]⟩
 intro a Z I
 have hd39 := of_decide_eq_false hb39
 exact Jb Z I ((JF∘JX∘JG∘JP∘JI (h:=by exact fun I => qjh _)) fun w159 hbw => (Jp 1∘Jd1∘Jj∘JZ) JY1)
end Go.Proofs.Ytannicghedpdpaa
