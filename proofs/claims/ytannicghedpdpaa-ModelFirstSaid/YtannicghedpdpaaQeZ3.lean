/- Parts. -/
import Derived.Test.YtannicghedpdpaaQeChv
import Derived.Test.YtannicghedpdpaaQeZ2
set_option linter.all false
set_option maxRecDepth 100000
set_option maxHeartbeats 1000000
namespace Go.Proofs.Ytannicghedpdpaa
open Go.RowKit
theorem qq2 {w : World} {x : Stm} {y : Rw} {k : Nat} {A : Option Addr} (hy : x.rs.getD k Rw.zero = y) (hk : k < x.rs.length) (hx : StRd w x) (e : y.A = A) : Rd w w.heap.size 3 A y.l.length (y.l.flatMap spL) := by
 subst e
 rw [← hy]
 exact hx.row hk
theorem qsj {u : Tk} {p c : Nat} (h1 : u.ready = true) (h2 : u.cpu = (c : Int)) (h3 : u.group = (p : Int)) : u.here p c = true := by
 unfold Tk.here
 rw [h1, decide_eq_true h2, decide_eq_true h3]
 rfl
theorem qi5 (n : Nums) (hn : n.Ok) (A : Option Addr) (c_ : Nat) (l : List Sml) (hl : ∀ x ∈ l, x.Ok) (hc : l.length ≤ c_) (hnl : l.length ≤ 9223372036854775807) (b : Nat) (hb : b < 256) (w : World) (hr : Rd w w.heap.size 8 A l.length (l.flatMap sml)) :
    Calls Try.prog 5 #[.agg n.cells, .slice A l.length c_, vB b] w (Is w (.bool true)) := by
 have hsl := qoj l 80
 have hcp0 : 1 ≤ n.cp ∧ n.cp ≤ 4 := by unfold Nums.cp; omega
 obtain ⟨kk, hkk⟩ : ∃ z, b % n.cp = z := ⟨_, rfl⟩
 have hkc : kk < n.cp := by rw [← hkk]; exact Nat.mod_lt _ om
 refine (JN3 Try.func5 259) ?_
 refine (JP∘JE) fun w3 g3 => (Jp 1∘Jr∘Jy (v := .agg n.cells) (h:=by exact Yl.loadS rfl rfl qsb (qok hn) (fun _ h => qa (h.blk (i := 0) rfl)))∘JK (h:=by exact fun I => qlo n hn _)) fun A29 c29 w29 hc29 => (JA #[vI 0, vQ 0, vN]) fun w7 g7 => (JV qb5 O0') fun w1_3 => (Jd2∘Jr∘Jy (v := .agg #[vI n.cp, vQ n.credit, .slice A29 n.gs.length c29]) (h:=by exact Yl.loadS rfl rfl qb5 rfl (fun _ h => qa (h.blk (i := 0) rfl)))∘JL (h:=by exact fun I => qog (Nums.cfg hn) (I.rd (i := 1) rfl))) ?_
 rintro I _ w32 ⟨gm, x, rfl, hx, hm⟩
 refine ⟨_, rfl, _, (show Mem w w32 (.blk g7 #[vI n.cp, vQ n.credit, .slice A29 n.gs.length c29] 36 :: .row (.slice A29 n.gs.length c29) n.gs.length (n.gs.flatMap grL) 59 2 :: .blk g3 n.cells 27 :: (mdB gm x ++ ([]))) from I.joinF 3 hm rfl), ?_⟩
 refine (Jp 1∘Jx∘Jx∘Jp 2∘Jj∘JQ∘JP∘Jv 4 [(38, vP gm 0), (37, .bool false)]∘Jy (v := .bool false) (h:=by exact Yl.qh2 rfl rfl rfl)∘Jp 1∘Jd4∘Jj∘JF∘JS'∘JQ∘JP∘Jp 1∘JK (h:=by exact fun I => qlp A c_ l 80 _ hl (I.old hr) hc hnl de)) fun A42 c42 w42 hc42 => (Jl∘Jp 1∘Jj∘JB) fun a Z I => ?_
 refine qo (fun mS aS wS => ∃ (k : Nat) (x : Stm) (s : Sta), (k ≤ (qb l 80).length) ∧ (x.sta = s) ∧ (GoodS s) ∧ (s.cpus = (n.cp : Int)) ∧ mS = (qb l 80).length - k ∧ Fr aS 259 [] [(44, vI k), (43, vI ((qb l 80).length : Nat)), (42, .slice A42 ((qb l 80).length) c42), (40, .bool false), (8, vP gm 0), (7, vP g7 0), (6, .bool false), (2, vB b)] ∧ Mem w wS (.row (.slice A42 ((qb l 80).length) c42) ((qb l 80).length) ((qb l 80).flatMap opL) 48 8 :: .blk g7 #[vI n.cp, vQ n.credit, .slice A29 n.gs.length c29] 36 :: (mdB gm x ++ ([])))) (m := (qb l 80).length - 0) ⟨0, x, n.new, Nat.zero_le _, hx, (Nums.good hn).1, rfl, rfl, Z.sub kr, I.pt 4 [0, 1]⟩ ?_
 clear Z I; rintro mS a w_ ⟨k, x, s, hk, hx, hG, hcp, rfl, Z, I⟩
 refine Jb Z I ((JP∘Jp 1∘Jj∘JQ) (Ju (fun hb45 => ?_) fun hb45 => ?_))
 ·
  intro a Z I
  have hd45 := of_decide_eq_true hb45
  have hkl : k < (qb l 80).length := by omega
  obtain ⟨o, ho⟩ : ∃ z, (qb l 80).getD k Op30.zero = z := ⟨_, rfl⟩
  have hoo : o.Ok := by rw [← ho]; exact qob hl _ (qj Op30.zero hkl)
  have hG' := qj4 hoo hG
  have hcp2 := (qsh (s := s) (o := o)).cpus
  refine Jb Z I ((JT∘JS'∘JQ∘JB∘JP) ?_)
  repeat (first | clear Z | clear I)
  intro a Z I
  obtain ⟨gA42, rfl⟩ := qk (I.own (i := 0) rfl) (Nat.lt_of_le_of_lt (Nat.zero_le _) (show k < (qb l 80).length from by omega))
  refine Jb Z I ((Jy (h:=by exact Yl.ix0 gA42 k 8 rfl rfl rfl)∘Jy (v := .agg (((qb l 80).getD k Op30.zero).cells)) (h:=by exact Yl.loadS rfl rfl si_op rfl (fun _ h => h.qc4 qr9 (i := 0) rfl ((getD_at Op30.zero hkl))))∘Jo (.agg o.cells) (by rw [ho])∘JA #[vB 0, vI 0, vI 0, vI 0, vI 0, vI 0, vI 0, vQ 0]) fun w11 g11 => (JV si_op O0' (h1:=by exact qqt o)) fun w7_3 => (Jd2∘Jj∘JR∘Jp 1∘Jy (v := .agg o.cells) (h:=by exact Yl.loadS rfl rfl si_op rfl (fun _ h => qa (h.blk (i := 0) rfl)))∘JL (h:=by exact fun I => do_s 3 I rfl hx hG hoo)) ?_)
  rintro I _ w50 ⟨y, rfl, hy, HM2⟩
  refine ⟨_, rfl, _, (show Mem w w50 (.blk g11 o.cells 48 :: .row (vS gA42 ((qb l 80).length) c42) ((qb l 80).length) ((qb l 80).flatMap opL) 48 8 :: .blk g7 #[vI n.cp, vQ n.credit, .slice A29 n.gs.length c29] 36 :: (mdB gm y ++ ([]))) from HM2.back), ?_⟩
  refine (Jt3∘Jj∘JR∘JaK 1∘Jp 1∘Jd1∘Jq) fun a Z I => ?_
  exact ⟨_, om, k + 1, y, (doS s o).1, by omega, hy, hG', hcp2.trans hcp, rfl, Z.sub kr, I.pt 3 [1, 2]⟩
 intro a Z I
 have hd45 := of_decide_eq_false hb45
 refine Jb Z I ((JF∘JX∘JG∘JP∘Jp 1∘JL (h:=by exact fun I => qse 2 I rfl hx hG)) ?_)
 rintro I _ w54 ⟨p, rfl, hp, hcapp, hm⟩
 refine ⟨_, rfl, _, (show Mem w w54 (.row (.slice A42 ((qb l 80).length) c42) ((qb l 80).length) ((qb l 80).flatMap opL) 48 8 :: .blk g7 #[vI n.cp, vQ n.credit, .slice A29 n.gs.length c29] 36 :: (stF p ++ (mdB gm x ++ ([])))) from I.joinF (T := (mdB gm x ++ ([]))) 2 hm rfl), ?_⟩
 refine (Jp 1∘Jx∘Jx∘JA #[vI 0, vQ 0, vN, vN, vN, vN, vN]) fun w12 g12 => (JV si_st O0' (h1:=by exact qmf p)) fun w10_6 => (Jp 1∘Jt1∘Jq) fun a Z I => ?_
 have hfp := few_s hp hG
 have hft2 := hfp.t; have hfg2 := hfp.g; have hfs2 := hfp.s
 have hgl : p.rs.length = p.gs.length := by rw [qq1 hp, qop hp]; exact hG.sh.sp
 refine Jb Z I ((JG∘JP∘Jp 1∘Jw .i64∘Jg 0 O2∘Jy (v := vI (b % n.cp : Nat)) (h:=by exact Yl.remN (m := b) (n := n.cp) rfl rfl rfl om)∘Jo (vI kk) (by rw [hkk])∘Jp 1∘Jd4∘Jr∘Jp 2∘JL (h:=by exact fun I => (qqd 3 (show Mem w w10_6 (.blk g12 p.cells 42 :: .row (.slice A42 ((qb l 80).length) c42) ((qb l 80).length) ((qb l 80).flatMap opL) 48 8 :: .blk g7 #[vI n.cp, vQ n.credit, .slice A29 n.gs.length c29] 36 :: (mdB gm x ++ ([]))) from Mem.dropT (A := stF p) 3 I rfl) rfl hx hG (kk : Int)).mono fun r w2 k => qbr.yes k (by rw [hcp]; omega))) ?_)
 rintro I _ w65 ⟨rfl, hbw⟩
 refine ⟨_, rfl, _, I.call hbw, ?_⟩
 refine (Jp 1∘Jx∘Jx∘Jp 2∘Jj∘JQ) fun a Z I => ?_
 rcases qi4 (c := kk) hG with ⟨hf0, hno, hat⟩ | ⟨t, hft⟩
 ·
  replace Z := Z.sp 15 (vI 0) rfl (by rw [Int.toNat_natCast, hf0]; rfl)
  refine Jb Z I ((JR∘Jy (v := .agg p.cells) (h:=by exact Yl.loadS rfl rfl si_st rfl (fun _ h => qa (h.blk (i := 0) rfl)))∘Jp 1∘JI (h:=by exact fun I => at_is (u := Tk.zero) (b := false) (by rw [qe2 hp]; exact hat) (I.st1 3 rfl).t hfp.t)) fun w71 hbw => (Jp 1∘Jx∘Jx∘JA #[vI 0, vI 0, vI 0, vI 0, vQ 0, .bool false, vQ 0, vW 0]) fun w17 g17 => (JV si_tk O0' (h1:=by exact qb4 Tk.zero)) fun w13_7 => (Jp 1∘Jr∘Jp 1∘Jq) fun a Z I => ?_)
  replace Z := Z.sp 19 (.bool (anyUp p.ts kk 0)) rfl rfl
  refine Jb Z I ((JG∘JQ∘JP∘Jg 5 O1∘Jl∘Jp 1∘Jj∘JB) fun a Z I => ?_)
  refine qo (fun mS aS wS => ∃ (i : Nat), (i ≤ p.ts.length) ∧ mS = p.ts.length - i ∧ Fr aS 259 [] [(77, vI i), (76, vI p.ts.length), (75, .slice p.tA p.ts.length p.tc), (19, .bool (anyUp p.ts kk i)), (18, .bool false), (17, vP g17 0), (15, vI 0), (16, vI 0), (14, vI kk), (12, vP g12 0), (45, .bool false), (44, vI k), (43, vI ((qb l 80).length : Nat)), (42, .slice A42 ((qb l 80).length) c42), (40, .bool false), (8, vP gm 0), (7, vP g7 0), (6, .bool false)] ∧ Mem w wS (.blk g17 Tk.zero.cells 52 :: .blk g12 p.cells 42 :: .row (.slice A42 ((qb l 80).length) c42) ((qb l 80).length) ((qb l 80).flatMap opL) 48 8 :: .blk g7 #[vI n.cp, vQ n.credit, .slice A29 n.gs.length c29] 36 :: (stF p ++ (mdB gm x ++ ([]))))) (m := p.ts.length - 0) ⟨0, Nat.zero_le _, rfl, Z.sub kr, I.pt 4 [0, 1, 2, 3]⟩ ?_
  clear Z I; rintro mS a w_ ⟨i, hzi, rfl, Z, I⟩
  refine Jb Z I ((JP∘Jp 1∘Jj∘JQ) (Ju (fun hb78 => ?_) fun hb78 => ?_))
  ·
   intro a Z I
   have hd78 := of_decide_eq_true hb78
   have hi1 : i < p.ts.length := by omega
   obtain ⟨gpt, opt, hgpt, _⟩ := ((I.st1 4 rfl).t).qt (show 0 < p.ts.length by omega) de
   obtain ⟨u, hu⟩ : ∃ z, p.ts.getD i Tk.zero = z := ⟨_, rfl⟩
   have hum : u ∈ s.ts := by rw [← hu, ← qe2 hp]; exact qj Tk.zero hi1
   replace Z := Z.sp 75 (.slice (some ⟨gpt, opt, none⟩) p.ts.length p.tc) rfl (by rw [hgpt])
   refine Jb Z I ((JT∘JS'∘JQ∘JB∘JP∘Jy (h:=by exact Yl.ix gpt opt i 8 rfl rfl rfl)∘Jy (v := .agg ((p.ts.getD i Tk.zero).cells)) (h:=by exact Yl.loadS rfl rfl si_tk rfl (fun _ h => ((Mem.st1 4 h rfl).t.to hgpt).zf qf ((getD_at Tk.zero hi1))))∘Jo (.agg u.cells) (by rw [hu])∘JA #[vI 0, vI 0, vI 0, vI 0, vQ 0, .bool false, vQ 0, vW 0]) fun w21 g21 => (JV si_tk O0' (h1:=by exact qb4 u)) fun w17_3 => (Jd2∘Jj) fun a Z I => ?_)
   refine q3 (fun aS wS => Fr aS 259 [] [(19, .bool (anyUp p.ts kk (i + 1))), (21, vP g21 0), (75, .slice (some ⟨gpt, opt, none⟩) p.ts.length p.tc), (78, .bool true), (77, vI i), (76, vI p.ts.length), (18, .bool false), (17, vP g17 0), (15, vI 0), (16, vI 0), (14, vI kk), (12, vP g12 0), (45, .bool false), (44, vI k), (43, vI ((qb l 80).length : Nat)), (42, .slice A42 ((qb l 80).length) c42), (40, .bool false), (8, vP gm 0), (7, vP g7 0), (6, .bool false)] ∧ Mem w wS (.blk g21 u.cells 52 :: .blk g17 Tk.zero.cells 52 :: .blk g12 p.cells 42 :: .row (.slice A42 ((qb l 80).length) c42) ((qb l 80).length) ((qb l 80).flatMap opL) 48 8 :: .blk g7 #[vI n.cp, vQ n.credit, .slice A29 n.gs.length c29] 36 :: (stF p ++ (mdB gm x ++ ([]))))) ?_ ?_
   ·
    refine q9 ?_
    refine Jb Z I ((Jp 2) (Ju (fun hb82 => ?_) fun hb82 => ?_))
    ·
     refine (Jv 10 [(19, .bool true)]∘Jd2∘Jq) fun a Z I => ?_
     have Z := Z.sp 19 (.bool (anyUp p.ts kk (i + 1))) rfl (congrArg Value.bool (by rw [qag hi1, hb82]; rfl))
     exact ⟨Z.sub kr, I.pt 5 [0, 1, 2, 3, 4]⟩
    refine (Jg 5 O0∘Jp 1) (Ju (fun hb85 => ?_) fun hb85 => ?_)
    ·
     refine (Jg 3 O0∘Jp 5∘Jd6∘Jq) fun a Z I => ?_
     have Z := Z.sp 19 (.bool (anyUp p.ts kk (i + 1))) rfl (congrArg Value.bool (by rw [qag hi1, hb82, hu, hb85, Bool.eq_iff_iff]; simp))
     exact ⟨Z.sub kr, I.pt 5 [0, 1, 2, 3, 4]⟩
    refine (Jp 7∘Jd6∘Jq) fun a Z I => ?_
    have Z := Z.sp 19 (.bool (anyUp p.ts kk (i + 1))) rfl (congrArg Value.bool (by rw [qag hi1, hb82, hu, hb85]; rfl))
    exact ⟨Z.sub kr, I.pt 5 [0, 1, 2, 3, 4]⟩
   clear Z I; rintro a w18 ⟨Z, I⟩
   refine s_fs1 ?_
   refine Jb Z I ((Jv 39 [(130, .bool false)]∘Jq) fun a Z I => ?_)
   replace Z := Z.sp 75 (.slice p.tA p.ts.length p.tc) rfl (by rw [hgpt])
   refine Jb Z I ((JF∘JS'∘JR∘JaK 1∘Jp 1∘Jd1∘Jq) fun a Z I => ?_)
   exact ⟨_, om, i + 1, by omega, rfl, Z.sub kr, I.pt 5 [1, 2, 3, 4]⟩
  intro a Z I
  have hd78 := of_decide_eq_false hb78
  have hie : i = p.ts.length := by omega
  replace Z := Z.sp 19 (.bool false) rfl (by rw [qlw (by rw [qe2 hp]; exact hno)])
  exact Jb Z I ((JF∘JX∘JG∘JQ∘JP∘Jv 5 [(136, .bool false), (135, .bool false), (134, .bool false)]∘Jy (v := .bool (!(false == false))) (h:=by exact Yl.qov rfl rfl rfl kr)∘Jo (.bool false) (by exact rfl)∘Jv 23 [(160, .bool false)]∘Jd4∘Jj∘JF∘JS'∘JQ∘JP∘Jv 12 [(172, .bool true)]∘Jj∘JT∘JP∘Jp 3∘JI (h:=by exact fun I => qe1 _)) fun w176 hbw => (Jp 2∘Jd5∘Jj∘JZ) JY1)
 ·
  replace Z := Z.sp 15 (vI t.id) rfl (by rw [Int.toNat_natCast, hft.first])
  refine Jb Z I ((JR∘Jy (v := .agg p.cells) (h:=by exact Yl.loadS rfl rfl si_st rfl (fun _ h => qa (h.blk (i := 0) rfl)))∘Jp 1∘JI (h:=by exact fun I => at_is (u := t) (b := true) (by rw [qe2 hp]; exact hft.at') (I.st1 3 rfl).t hfp.t)) fun w71 hbw => (Jp 1∘Jx∘Jx∘JA #[vI 0, vI 0, vI 0, vI 0, vQ 0, .bool false, vQ 0, vW 0]) fun w17 g17 => (JV si_tk O0' (h1:=by exact qb4 t)) fun w13_7 => (Jp 1∘Jr∘Jp 1∘Jq) fun a Z I => ?_)
  replace Z := Z.sp 19 (.bool (anyUp p.ts kk 0)) rfl rfl
  refine Jb Z I ((JG∘JQ∘JP∘Jg 5 O1∘Jl∘Jp 1∘Jj∘JB) fun a Z I => ?_)
  refine qo (fun mS aS wS => ∃ (i : Nat), (i ≤ p.ts.length) ∧ mS = p.ts.length - i ∧ Fr aS 259 [] [(77, vI i), (76, vI p.ts.length), (75, .slice p.tA p.ts.length p.tc), (19, .bool (anyUp p.ts kk i)), (18, .bool true), (17, vP g17 0), (15, vI t.id), (16, vI 0), (14, vI kk), (12, vP g12 0), (45, .bool false), (44, vI k), (43, vI ((qb l 80).length : Nat)), (42, .slice A42 ((qb l 80).length) c42), (40, .bool false), (8, vP gm 0), (7, vP g7 0), (6, .bool false)] ∧ Mem w wS (.blk g17 t.cells 52 :: .blk g12 p.cells 42 :: .row (.slice A42 ((qb l 80).length) c42) ((qb l 80).length) ((qb l 80).flatMap opL) 48 8 :: .blk g7 #[vI n.cp, vQ n.credit, .slice A29 n.gs.length c29] 36 :: (stF p ++ (mdB gm x ++ ([]))))) (m := p.ts.length - 0) ⟨0, Nat.zero_le _, rfl, Z.sub kr, I.pt 4 [0, 1, 2, 3]⟩ ?_
  clear Z I; rintro mS a w_ ⟨i, hzi, rfl, Z, I⟩
  refine Jb Z I ((JP∘Jp 1∘Jj∘JQ) (Ju (fun hb78 => ?_) fun hb78 => ?_))
  ·
   intro a Z I
   have hd78 := of_decide_eq_true hb78
   have hi1 : i < p.ts.length := by omega
   obtain ⟨gpt, opt, hgpt, _⟩ := ((I.st1 4 rfl).t).qt (show 0 < p.ts.length by omega) de
   obtain ⟨u, hu⟩ : ∃ z, p.ts.getD i Tk.zero = z := ⟨_, rfl⟩
   have hum : u ∈ s.ts := by rw [← hu, ← qe2 hp]; exact qj Tk.zero hi1
   replace Z := Z.sp 75 (.slice (some ⟨gpt, opt, none⟩) p.ts.length p.tc) rfl (by rw [hgpt])
   refine Jb Z I ((JT∘JS'∘JQ∘JB∘JP∘Jy (h:=by exact Yl.ix gpt opt i 8 rfl rfl rfl)∘Jy (v := .agg ((p.ts.getD i Tk.zero).cells)) (h:=by exact Yl.loadS rfl rfl si_tk rfl (fun _ h => ((Mem.st1 4 h rfl).t.to hgpt).zf qf ((getD_at Tk.zero hi1))))∘Jo (.agg u.cells) (by rw [hu])∘JA #[vI 0, vI 0, vI 0, vI 0, vQ 0, .bool false, vQ 0, vW 0]) fun w21 g21 => (JV si_tk O0' (h1:=by exact qb4 u)) fun w17_3 => (Jd2∘Jj) fun a Z I => ?_)
   refine q3 (fun aS wS => Fr aS 259 [] [(19, .bool (anyUp p.ts kk (i + 1))), (21, vP g21 0), (75, .slice (some ⟨gpt, opt, none⟩) p.ts.length p.tc), (78, .bool true), (77, vI i), (76, vI p.ts.length), (18, .bool true), (17, vP g17 0), (15, vI t.id), (16, vI 0), (14, vI kk), (12, vP g12 0), (45, .bool false), (44, vI k), (43, vI ((qb l 80).length : Nat)), (42, .slice A42 ((qb l 80).length) c42), (40, .bool false), (8, vP gm 0), (7, vP g7 0), (6, .bool false)] ∧ Mem w wS (.blk g21 u.cells 52 :: .blk g17 t.cells 52 :: .blk g12 p.cells 42 :: .row (.slice A42 ((qb l 80).length) c42) ((qb l 80).length) ((qb l 80).flatMap opL) 48 8 :: .blk g7 #[vI n.cp, vQ n.credit, .slice A29 n.gs.length c29] 36 :: (stF p ++ (mdB gm x ++ ([]))))) ?_ ?_
   ·
    refine q9 ?_
    refine Jb Z I ((Jp 2) (Ju (fun hb82 => ?_) fun hb82 => ?_))
    ·
     refine (Jv 10 [(19, .bool true)]∘Jd2∘Jq) fun a Z I => ?_
     have Z := Z.sp 19 (.bool (anyUp p.ts kk (i + 1))) rfl (congrArg Value.bool (by rw [qag hi1, hb82]; rfl))
     exact ⟨Z.sub kr, I.pt 5 [0, 1, 2, 3, 4]⟩
    refine (Jg 5 O0∘Jp 1) (Ju (fun hb85 => ?_) fun hb85 => ?_)
    ·
     refine (Jg 3 O0∘Jp 5∘Jd6∘Jq) fun a Z I => ?_
     have Z := Z.sp 19 (.bool (anyUp p.ts kk (i + 1))) rfl (congrArg Value.bool (by rw [qag hi1, hb82, hu, hb85, Bool.eq_iff_iff]; simp))
     exact ⟨Z.sub kr, I.pt 5 [0, 1, 2, 3, 4]⟩
    refine (Jp 7∘Jd6∘Jq) fun a Z I => ?_
    have Z := Z.sp 19 (.bool (anyUp p.ts kk (i + 1))) rfl (congrArg Value.bool (by rw [qag hi1, hb82, hu, hb85]; rfl))
    exact ⟨Z.sub kr, I.pt 5 [0, 1, 2, 3, 4]⟩
   clear Z I; rintro a w18 ⟨Z, I⟩
   refine q3 (fun aS wS => Fr aS 259 [] [(75, .slice p.tA p.ts.length p.tc), (130, .bool false), (19, .bool (anyUp p.ts kk (i + 1))), (21, vP g21 0), (78, .bool true), (77, vI i), (76, vI p.ts.length), (18, .bool true), (17, vP g17 0), (15, vI t.id), (16, vI 0), (14, vI kk), (12, vP g12 0), (45, .bool false), (44, vI k), (43, vI ((qb l 80).length : Nat)), (42, .slice A42 ((qb l 80).length) c42), (40, .bool false), (8, vP gm 0), (7, vP g7 0), (6, .bool false)] ∧ Mem w wS (.blk g21 u.cells 52 :: .blk g17 t.cells 52 :: .blk g12 p.cells 42 :: .row (.slice A42 ((qb l 80).length) c42) ((qb l 80).length) ((qb l 80).flatMap opL) 48 8 :: .blk g7 #[vI n.cp, vQ n.credit, .slice A29 n.gs.length c29] 36 :: (stF p ++ (mdB gm x ++ ([]))))) ?_ ?_
   ·
    refine q9 ?_
    refine Jb Z I ((Jp 2∘Jg 5 O0∘Jp 2) (Ju (fun hb97 => ?_) fun hb97 => ?_))
    ·
     refine (Jg 3 O0∘Jp 4) (Je (fun hd103 => ?_) fun hd103 => ?_)
     ·
      refine (Jg 1 O0∘Jg 1 O1∘Jp 3) (Je (fun hd110 => ?_) fun hd110 => ?_)
      ·
       refine (Jg 6 O0∘Jg 6 O1∘Jp 1∘Jo (.bool false) (by have h := hft.least u hum hb97 hd103 hd110; simp; omega)∘Jp 1∘Jg 6 O0∘Jg 6 O1∘Jp 2) (Je (fun hd122 => ?_) fun hd122 => ?_)
       ·
        refine (Jg 0 O0∘Jg 0 O1∘Jp 1∘Jo (.bool false) (by have h := hft.least u hum hb97 hd103 hd110; simp; omega)∘Jp 3∘Jd6∘Jq) fun a Z I => ?_
        replace Z := Z.sp 75 (.slice p.tA p.ts.length p.tc) rfl (by rw [hgpt])
        have Z := Z.sp 130 (.bool false) rfl (rfl)
        exact ⟨Z.sub kr, I.pt 5 [0, 1, 2, 3, 4]⟩
       refine (Jv 8 [(130, .bool false)]∘Jd6∘Jq) fun a Z I => ?_
       replace Z := Z.sp 75 (.slice p.tA p.ts.length p.tc) rfl (by rw [hgpt])
       have Z := Z.sp 130 (.bool false) rfl (rfl)
       exact ⟨Z.sub kr, I.pt 5 [0, 1, 2, 3, 4]⟩
      refine (Jv 20 [(130, .bool false)]∘Jd6∘Jq) fun a Z I => ?_
      replace Z := Z.sp 75 (.slice p.tA p.ts.length p.tc) rfl (by rw [hgpt])
      have Z := Z.sp 130 (.bool false) rfl (rfl)
      exact ⟨Z.sub kr, I.pt 5 [0, 1, 2, 3, 4]⟩
     refine (Jv 27 [(130, .bool false)]∘Jd6∘Jq) fun a Z I => ?_
     replace Z := Z.sp 75 (.slice p.tA p.ts.length p.tc) rfl (by rw [hgpt])
     have Z := Z.sp 130 (.bool false) rfl (rfl)
     exact ⟨Z.sub kr, I.pt 5 [0, 1, 2, 3, 4]⟩
    refine (Jv 33 [(130, .bool false)]∘Jd5∘Jq) fun a Z I => ?_
    replace Z := Z.sp 75 (.slice p.tA p.ts.length p.tc) rfl (by rw [hgpt])
    have Z := Z.sp 130 (.bool false) rfl (rfl)
    exact ⟨Z.sub kr, I.pt 5 [0, 1, 2, 3, 4]⟩
   clear Z I; rintro a w19 ⟨Z, I⟩
   refine Jb Z I ((JF∘JS'∘JR∘JaK 1∘Jp 1∘Jd1∘Jq) fun a Z I => ?_)
   exact ⟨_, om, i + 1, by omega, rfl, Z.sub kr, I.pt 5 [1, 2, 3, 4]⟩
  intro a Z I
  have hd78 := of_decide_eq_false hb78
  have hie : i = p.ts.length := by omega
  replace Z := Z.sp 19 (.bool true) rfl (by rw [hie, qot (by rw [qe2 hp]; exact hft.mem) hft.ready hft.cpu])
  refine Jb Z I ((JF∘JX∘JG∘JQ∘JP∘Jv 5 [(136, .bool true), (135, .bool true), (134, .bool false)]∘Jy (v := .bool (!(true == true))) (h:=by exact Yl.qov rfl rfl rfl kr)∘Jo (.bool false) (by exact rfl)∘Jv 12 [(149, .bool true), (147, .bool false)]∘Jf 5∘Jc O0∘Jo (.bool true) (by rw [hft.ready])∘Jp 2∘Jg 3 O0∘Jp 2∘Jo (.bool false) (by simp [hft.cpu])∘Jp 3∘Jd6∘Jj∘JF∘JS'∘JQ∘JP∘Jp 3∘Jg 6 O1∘Jl∘Jf 0∘Jg 2 O1∘Jl∘Jo (vI p.rs.length) (by rw [hgl])∘Jp 1∘Jo (.bool false) (by simp)∘Jp 1∘Jd6∘Jj∘JF∘JS'∘JQ∘JP∘Jf 1∘Jc O0∘Jo (vI t.group.toNat) (by have h := (hG.sh.tasks t hft.mem).group; rw [Int.toNat_of_nonneg h.1])∘Jp 1∘Jd2∘Jj∘JB) fun a Z I => ?_)
  refine qo (fun mS aS wS => ∃ (g : Nat), (Up s kk 0 g) ∧ mS = 0 + g ∧ Fr aS 259 [] [(22, vI g), (172, .bool false), (160, .bool false), (19, .bool true), (78, .bool false), (77, vI i), (76, vI p.ts.length), (75, .slice p.tA p.ts.length p.tc), (18, .bool true), (17, vP g17 0), (15, vI t.id), (14, vI kk), (12, vP g12 0), (45, .bool false), (44, vI k), (43, vI ((qb l 80).length : Nat)), (42, .slice A42 ((qb l 80).length) c42), (40, .bool false), (8, vP gm 0), (7, vP g7 0), (6, .bool false)] ∧ Mem w wS (.blk g17 t.cells 52 :: .blk g12 p.cells 42 :: .row (.slice A42 ((qb l 80).length) c42) ((qb l 80).length) ((qb l 80).flatMap opL) 48 8 :: .blk g7 #[vI n.cp, vQ n.credit, .slice A29 n.gs.length c29] 36 :: (stF p ++ (mdB gm x ++ ([]))))) (m := 0 + t.group.toNat) ⟨t.group.toNat, hft.up, rfl, Z.sub kr, I.pt 4 [0, 1, 2, 3]⟩ ?_
  clear Z I; rintro mS a w_ ⟨g, hup, rfl, Z, I⟩
  refine Jb Z I ((JQ∘JP∘Jp 2∘Jd1∘Jj) (Ju (fun hb181 => ?_) fun hb181 => ?_))
  ·
   intro a Z I
   have hd181 := of_decide_eq_true hb181
   obtain ⟨pp, hpar, hpg, hgl1, hbe, hup2⟩ := hup.inv om
   have hgl2 : g < p.rs.length := by rw [qq1 hp]; exact hgl1
   have hgl3 : g < p.gs.length := by omega
   obtain ⟨gpg, opg, hgpg, _⟩ := ((I.st1 4 rfl).g).qt (show 0 < p.gs.length by omega) de
   obtain ⟨gps, ops, hgps, _⟩ := ((I.st1 4 rfl).s).qt (show 0 < p.rs.length by omega) de
   obtain ⟨v, hv⟩ : ∃ z, p.rs.getD g Rw.zero = z := ⟨_, rfl⟩
   have hvl : (v.l.length : Int) = (n.cp : Int) := by rw [← hv, qoq hp hgl2, ← hcp]; exact hG.sh.rows g hgl1
   obtain ⟨gpr, opr, hgpr, _⟩ := ((qq2 hv hgl2 (I.st1 4 rfl) rfl)).qt (show 0 < v.l.length by omega) de
   refine Jb Z I ((JT∘JS'∘JQ∘JB∘JP∘Jf 0∘Jf 2∘Jc O1∘Jo (.slice (some ⟨gpg, opg, none⟩) p.gs.length p.gc) (by rw [hgpg])∘Jp 1∘Jy (h:=by exact Yl.ix gpg opg g 2 rfl rfl rfl)∘Jf 0∘Jy (v := vI ((p.gs.getD g Gr.zero).parent)) (h:=by exact Yl.ql rfl rfl kr (fun _ h => (by have := ((Mem.st1 4 h rfl).g.to hgpg).partAt zg (k := g) (j := 0) (x := (p.gs.getD g Gr.zero)) ((getD_at Gr.zero hgl3)) rfl; simpa using this)))∘Jo (vI pp) (by rw [qop hp]; exact congrArg (Value.int .i64) hpar)∘Jp 1∘Jd6∘Jr∘Jg 5 O1∘Jl∘Jp 1∘Jj∘JB) fun a Z I => ?_)
   refine qo (fun mS aS wS => ∃ (e : Nat), (e ≤ p.ts.length) ∧ mS = p.ts.length - e ∧ Fr aS 259 [] [(199, vI e), (198, vI p.ts.length), (197, .slice p.tA p.ts.length p.tc), (23, vI pp), (181, .bool true), (22, vI g), (172, .bool false), (160, .bool false), (19, .bool true), (78, .bool false), (77, vI i), (76, vI p.ts.length), (75, .slice p.tA p.ts.length p.tc), (18, .bool true), (17, vP g17 0), (15, vI t.id), (14, vI kk), (12, vP g12 0), (45, .bool false), (44, vI k), (43, vI ((qb l 80).length : Nat)), (42, .slice A42 ((qb l 80).length) c42), (40, .bool false), (8, vP gm 0), (7, vP g7 0), (6, .bool false)] ∧ Mem w wS (.blk g17 t.cells 52 :: .blk g12 p.cells 42 :: .row (.slice A42 ((qb l 80).length) c42) ((qb l 80).length) ((qb l 80).flatMap opL) 48 8 :: .blk g7 #[vI n.cp, vQ n.credit, .slice A29 n.gs.length c29] 36 :: (stF p ++ (mdB gm x ++ ([]))))) (m := p.ts.length - 0) ⟨0, Nat.zero_le _, rfl, Z.sub kr, I.pt 4 [0, 1, 2, 3]⟩ ?_
   clear Z I; rintro mS a w_ ⟨e, hze, rfl, Z, I⟩
   refine Jb Z I ((JP∘Jp 1∘Jj∘JQ) (Ju (fun hb200 => ?_) fun hb200 => ?_))
   ·
    intro a Z I
    have hd200 := of_decide_eq_true hb200
    have hi1 : e < p.ts.length := by omega
    obtain ⟨gpt, opt, hgpt, _⟩ := ((I.st1 4 rfl).t).qt (show 0 < p.ts.length by omega) de
    obtain ⟨u, hu⟩ : ∃ z, p.ts.getD e Tk.zero = z := ⟨_, rfl⟩
    have hum : u ∈ s.ts := by rw [← hu, ← qe2 hp]; exact qj Tk.zero hi1
    replace Z := Z.sp 197 (.slice (some ⟨gpt, opt, none⟩) p.ts.length p.tc) rfl (by rw [hgpt])
    refine Jb Z I ((JT∘JS'∘JQ∘JB∘JP∘Jy (h:=by exact Yl.ix gpt opt e 8 rfl rfl rfl)∘Jy (v := .agg ((p.ts.getD e Tk.zero).cells)) (h:=by exact Yl.loadS rfl rfl si_tk rfl (fun _ h => ((Mem.st1 4 h rfl).t.to hgpt).zf qf ((getD_at Tk.zero hi1))))∘Jo (.agg u.cells) (by rw [hu])∘JA #[vI 0, vI 0, vI 0, vI 0, vQ 0, .bool false, vQ 0, vW 0]) fun w25 g25 => (JV si_tk O0' (h1:=by exact qb4 u)) fun w32_3 => (Jd2∘Jj) fun a Z I => ?_)
    refine q3 (fun aS wS => Fr aS 259 [] [(197, .slice p.tA p.ts.length p.tc), (240, .bool false), (25, vP g25 0), (200, .bool true), (199, vI e), (198, vI p.ts.length), (23, vI pp), (181, .bool true), (22, vI g), (172, .bool false), (160, .bool false), (19, .bool true), (78, .bool false), (77, vI i), (76, vI p.ts.length), (75, .slice p.tA p.ts.length p.tc), (18, .bool true), (17, vP g17 0), (15, vI t.id), (14, vI kk), (12, vP g12 0), (45, .bool false), (44, vI k), (43, vI ((qb l 80).length : Nat)), (42, .slice A42 ((qb l 80).length) c42), (40, .bool false), (8, vP gm 0), (7, vP g7 0), (6, .bool false)] ∧ Mem w wS (.blk g25 u.cells 52 :: .blk g17 t.cells 52 :: .blk g12 p.cells 42 :: .row (.slice A42 ((qb l 80).length) c42) ((qb l 80).length) ((qb l 80).flatMap opL) 48 8 :: .blk g7 #[vI n.cp, vQ n.credit, .slice A29 n.gs.length c29] 36 :: (stF p ++ (mdB gm x ++ ([]))))) ?_ ?_
    ·
     refine Jb Z I ((Vs .n []) fun wd33 => (Vf 0 5∘Vc 1 O0∘Vp [2]) fun a Z I HS => ?_)
     rcases Z.tf 205 rfl with ⟨hb205, Z⟩ | ⟨hb205, Z⟩
     ·
      refine Vb Z I HS ((Vf 3 3∘Vp [5]∘Vc 4 O0∘Vp [6, 7, 8]) fun a Z I HS => ?_)
      rcases Z.tf 211 rfl with ⟨hb211, Z⟩ | ⟨hb211, Z⟩
      ·
       have hd211 := eq_of_beq hb211
       refine Vb Z I HS ((Vf 9 1∘Vp [11]∘Vc 10 O0∘Vp [12, 13, 14]) fun a Z I HS => ?_)
       rcases Z.tf 217 rfl with ⟨hb217, Z⟩ | ⟨hb217, Z⟩
       ·
        have hd217 := eq_of_beq hb217
        refine Vb Z I HS ((Vp [15]∘Vf 16 6∘Vp [18]∘Vc 17 O2∘Vo (.slice (some ⟨gps, ops, none⟩) p.rs.length p.sc) (by rw [hgps])∘Vy 19 (h:=by exact Yl.ix gps ops g 1 rfl rfl rfl)∘Vy 20 (v := .slice ((p.rs.getD g Rw.zero).A) ((p.rs.getD g Rw.zero).l.length) ((p.rs.getD g Rw.zero).c)) (h:=by exact Yl.ql rfl rfl kr (fun _ h => ((Mem.st1 5 h rfl).s.to hgps).qkb (k := g) (qbl (F := Rw.val) (k := g) (x := (p.rs.getD g Rw.zero)) ((getD_at Rw.zero hgl2)))))∘Vo (.slice (some ⟨gpr, opr, none⟩) v.l.length v.c) (by rw [hv, hgpr])∘Vl 21∘Vq [22] [(225, .bool (decide ((kk : Int) < (v.l.length : Int))))]∘Vo (.bool true) (by simp; omega)∘Vp [23, 24]∘Vf 25 6∘Vf 27 6∘Vp [29, 32]∘Vc 26 O0∘Vc 28 O2∘Vo (.slice (some ⟨gps, ops, none⟩) p.rs.length p.sc) (by rw [hgps])∘Vy 30 (h:=by exact Yl.ix gps ops g 1 rfl rfl rfl)∘Vy 31 (v := .slice ((p.rs.getD g Rw.zero).A) ((p.rs.getD g Rw.zero).l.length) ((p.rs.getD g Rw.zero).c)) (h:=by exact Yl.ql rfl rfl kr (fun _ h => ((Mem.st1 5 h rfl).s.to hgps).qkb (k := g) (qbl (F := Rw.val) (k := g) (x := (p.rs.getD g Rw.zero)) ((getD_at Rw.zero hgl2)))))∘Vo (.slice (some ⟨gpr, opr, none⟩) v.l.length v.c) (by rw [hv, hgpr])∘Vy 33 (h:=by exact Yl.ix gpr opr kk 3 rfl rfl rfl)∘Vf 34 0∘Vy 35 (v := vQ ((v.l.getD kk Sp.zero).v)) (h:=by exact Yl.ql rfl rfl kr (fun _ h => (by have := (qq2 hv hgl2 (Mem.st1 5 h rfl) hgpr).partAt qcd (k := kk) (j := 0) (x := (v.l.getD kk Sp.zero)) ((getD_at Sp.zero om)) rfl; simpa using this)))∘Vq [36] [(239, .bool (decide ((u.v : Int) ≤ ((v.l.getD kk Sp.zero).v : Int))))]∘Vo (.bool false) (by have h := hbe u hum (qsj hb205 hd211 hd217); rw [← qqj hp hgl2, hv] at h; exact congrArg Value.bool (decide_eq_false om))∘Vp [37]∘Vd∘Jd6) fun a Z I => ?_)
        replace Z := Z.sp 197 (.slice p.tA p.ts.length p.tc) rfl (by rw [hgpt])
        have Z := Z.sp 240 (.bool false) rfl (rfl)
        exact ⟨Z.sub kr, I.pt 5 [0, 1, 2, 3, 4]⟩
       have hd217 := ne_of_beq_false hb217
       refine ap Z (fun _ => HS) [15, 16, 17, 18, 19, 20, 21, 22, 23, 24, 25, 26, 27, 28, 29, 30, 31, 32, 33, 34, 35, 36, 37] (bt 38 []) [(240, .bool false)] fun a Z => ?_
       refine qd kr ?_
       replace Z := Z.sp 197 (.slice p.tA p.ts.length p.tc) rfl (by rw [hgpt])
       have Z := Z.sp 240 (.bool false) rfl (rfl)
       exact ⟨Z.sub kr, I.pt 5 [0, 1, 2, 3, 4]⟩
      have hd211 := ne_of_beq_false hb211
      refine ap Z (fun _ => HS) [9, 10, 11, 12, 13, 14, 15, 16, 17, 18, 19, 20, 21, 22, 23, 24, 25, 26, 27, 28, 29, 30, 31, 32, 33, 34, 35, 36, 37] (bt 38 []) [(240, .bool false)] fun a Z => ?_
      refine qd kr ?_
      replace Z := Z.sp 197 (.slice p.tA p.ts.length p.tc) rfl (by rw [hgpt])
      have Z := Z.sp 240 (.bool false) rfl (rfl)
      exact ⟨Z.sub kr, I.pt 5 [0, 1, 2, 3, 4]⟩
     refine ap Z (fun _ => HS) [3, 4, 5, 6, 7, 8, 9, 10, 11, 12, 13, 14, 15, 16, 17, 18, 19, 20, 21, 22, 23, 24, 25, 26, 27, 28, 29, 30, 31, 32, 33, 34, 35, 36, 37] (bt 38 []) [(240, .bool false)] fun a Z => ?_
     refine qd kr ?_
     replace Z := Z.sp 197 (.slice p.tA p.ts.length p.tc) rfl (by rw [hgpt])
     have Z := Z.sp 240 (.bool false) rfl (rfl)
     exact ⟨Z.sub kr, I.pt 5 [0, 1, 2, 3, 4]⟩
    clear Z I; rintro a w33 ⟨Z, I⟩
    refine Jb Z I ((JF∘JS'∘JR∘JaK 1∘Jp 1∘Jd1∘Jq) fun a Z I => ?_)
    exact ⟨_, om, e + 1, by omega, rfl, Z.sub kr, I.pt 5 [1, 2, 3, 4]⟩
   intro a Z I
   have hd200 := of_decide_eq_false hb200
   refine Jb Z I ((JF∘JX∘JG∘JR∘Jf 0∘Jf 2∘Jc O1∘Jo (.slice (some ⟨gpg, opg, none⟩) p.gs.length p.gc) (by rw [hgpg])∘Jp 1∘Jy (h:=by exact Yl.ix gpg opg g 2 rfl rfl rfl)∘Jf 0∘Jy (v := vI ((p.gs.getD g Gr.zero).parent)) (h:=by exact Yl.ql rfl rfl kr (fun _ h => (by have := ((Mem.st1 4 h rfl).g.to hgpg).partAt zg (k := g) (j := 0) (x := (p.gs.getD g Gr.zero)) ((getD_at Gr.zero hgl3)) rfl; simpa using this)))∘Jo (vI pp) (by rw [qop hp]; exact congrArg (Value.int .i64) hpar)∘Jp 1∘Jd6∘Jq) fun a Z I => ?_)
   exact ⟨_, om, pp, hup2, rfl, Z.sub kr, I.pt 4 [0, 1, 2, 3]⟩
  intro a Z I
  have hd181 := of_decide_eq_false hb181
  refine Jb Z I ((JF∘JX∘JG∘JP∘Jp 2∘Jy (v := .agg #[vB 6, vI kk, vI 0, vI 0, vI 0, vI 0, vI 0, vQ 0]) (h:=by exact Yl.build (vs := [(0, vB 6), (1, vI kk)]) rfl kr kr)∘JL (h:=by exact fun I => do_pk (c := kk) 4 (show Mem w w_ (.blk g17 t.cells 52 :: .blk g12 p.cells 42 :: .row (.slice A42 ((qb l 80).length) c42) ((qb l 80).length) ((qb l 80).flatMap opL) 48 8 :: .blk g7 #[vI n.cp, vQ n.credit, .slice A29 n.gs.length c29] 36 :: (mdB gm x ++ ([]))) from Mem.dropT (A := stF p) 4 I rfl) rfl hx hG (decide_eq_true (by rw [hcp]; omega)) (by unfold I64; omega) hft.first)) ?_)
  rintro I _ w246 ⟨y2, rfl, HM2⟩
  refine ⟨_, rfl, _, (show Mem w w246 (.blk g17 t.cells 52 :: .blk g12 p.cells 42 :: .row (.slice A42 ((qb l 80).length) c42) ((qb l 80).length) ((qb l 80).flatMap opL) 48 8 :: .blk g7 #[vI n.cp, vQ n.credit, .slice A29 n.gs.length c29] 36 :: (mdB gm y2 ++ ([]))) from HM2.back), ?_⟩
  exact (Jp 1∘Jx∘Jx∘Jp 2∘Jr∘Jp 3∘Jo (.bool true) (by simp)∘Jv 5 [(256, .bool true)]∘JI (h:=by exact fun I => qe1 _)) fun w257 hbw => (Jp 2∘Jd6∘Jj∘JZ) JY1
end Go.Proofs.Ytannicghedpdpaa
