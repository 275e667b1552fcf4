/- Parts. -/
import Derived.Test.YtannicghedpdpaaGreatQuChv
import Derived.Test.YtannicghedpdpaaGreatQuZ4
set_option linter.all false
set_option maxRecDepth 100000
set_option maxHeartbeats 1000000
namespace Go.Proofs.YtannicghedpdpaaGreat
open Go.RowKit
theorem qv8 {l : List Rw} {k : Nat} (h : ∀ j, j < k → (l.getD j Rw.zero).l.length ≤ 8) (hk : (l.getD k Rw.zero).l.length ≤ 8) : ∀ j, j < k + 1 → (l.getD j Rw.zero).l.length ≤ 8 := fun j hj => by
 rcases Nat.lt_or_ge j k with h1 | h1
 ·exact h j h1
 ·obtain rfl : j = k := by omega
  exact hk
theorem is_b {P : Program} {f : Nat} {args : Array Value} {w : World} {b c : Bool} (h : Calls P f args w (Is w (.bool b))) (e : b = c) : Calls P f args w (Is w (.bool c)) := e ▸ h
theorem i64_0 : I64 0 := by unfold I64; decide
theorem qt9 (s : Sta) : (cfgOk s = false ∧ qae s = false) ∨ (cfgOk s = true ∧ qae s = false) ∨ (cfgOk s = true ∧ qae s = true) := by
 cases h : cfgOk s with
 | false => exact .inl ⟨rfl, by unfold qae zc; rw [h]; rfl⟩
 | true =>
  cases h2 : qae s with
  | false => exact .inr (.inl ⟨rfl, rfl⟩)
  | true => exact .inr (.inr ⟨rfl, rfl⟩)
theorem Mem.qz7 {W w : World} {F A B C T : List Fact} (n : Nat) (h : Mem W w F) (he : F.drop n = A ++ (B ++ (C ++ T))) : Mem W w (F.take n ++ (A ++ (C ++ (B ++ T)))) := by
 have h2 : Mem W w (F.take n ++ (A ++ (B ++ (C ++ T)))) := by rw [← he, List.take_append_drop]; exact h
 exact h2.perm (List.Perm.append_left _ (List.Perm.append_left _ (List.perm_append_comm_assoc ..)))
section
variable {w : World} {x : Stm}
theorem qwz (hok : x.sta.Ok) : (⟨x.cpus, x.credit, x.gA, x.gc, x.gs, none, 0, [], none, 0, [], none, 0, [], none, 0, []⟩ : Stm).sta.Ok := ⟨hok.cpus, hok.credit, hok.gs, (fun z hz => by cases hz), (fun z hz => by cases hz), (fun z hz => by cases hz), (fun z hz => by cases hz)⟩
theorem qyr (hok : x.sta.Ok) (hf : x.gs.length ≤ 1000000) (hr : StRd w x) (h : cfgOk x.sta = false) : Calls Tryz.prog 7 #[.agg #[vI x.cpus, vQ (x.credit : Int), .slice x.gA x.gs.length x.gc]] w (fun r w' => r = .returned (.tuple #[.pointer none, vI 2]) ∧ Below w.heap.size w w') :=
 (qmt x.cpus x.credit x.gA x.gc x.gs w (qwz hok) hf hr.g).mono fun r w' k => by
  unfold NewIs at k
  rw [show cfgOk (⟨x.cpus, x.credit, x.gA, x.gc, x.gs, none, 0, [], none, 0, [], none, 0, [], none, 0, []⟩ : Stm).sta = false from h, if_neg de] at k
  exact k
theorem qon (hok : x.sta.Ok) (hf : x.gs.length ≤ 1000000) (hr : StRd w x) (h : cfgOk x.sta = true) : Calls Tryz.prog 7 #[.agg #[vI x.cpus, vQ (x.credit : Int), .slice x.gA x.gs.length x.gc]] w (fun r w' => ∃ gm : Nat, r = .returned (.tuple #[vP gm 0, vI 0]) ∧ Below w.heap.size w w') :=
 (qmt x.cpus x.credit x.gA x.gc x.gs w (qwz hok) hf hr.g).mono fun r w' k => by
  unfold NewIs at k
  rw [show cfgOk (⟨x.cpus, x.credit, x.gA, x.gc, x.gs, none, 0, [], none, 0, [], none, 0, [], none, 0, []⟩ : Stm).sta = true from h, if_pos rfl] at k
  obtain ⟨gm, y, h1, _, h3⟩ := k
  exact ⟨gm, h1, h3.below⟩
theorem qua (hok : x.sta.Ok) (hf : StFew x) (hr : StRd w x) (h : qae x.sta = false) : Calls Tryz.prog 20 #[.agg x.cells] w (fun r w' => r = .returned (.tuple #[.pointer none, vI 2]) ∧ Below w.heap.size w w') :=
 (qn8 x w hok hf hr).mono fun r w' k => by
  unfold NewIs at k
  rw [h, if_neg de] at k
  exact k
end
theorem qm5 (x : Stm) (hok : x.sta.Ok) (A : Option Addr) (c_ : Nat) (l : List Sml) (hl : ∀ x ∈ l, x.Ok) (hc : l.length ≤ c_) (hnl : l.length ≤ 9223372036854775807) (w : World) (hr : StRd w x) (hrl : Rd w w.heap.size 8 A l.length (l.flatMap sml)) :
    Calls Tryz.prog 5 #[.agg x.cells, .slice A l.length c_] w (Is w (.bool true)) := by
 have hsl := qs5 l 40
 refine (JN2 Tryz.func5 181) ?_
 refine (JP∘JE) fun w2 g2 => (Jp 1∘Jj∘JQ∘JP∘Jf 0∘Jg 2 O0∘Jl∘Jp 2) (Ji (fun hd23 => ?_) fun hd23 => ?_)
 ·
  exact (Jv 29 [(52, .bool true)]∘Jd5∘Jj∘JT∘JP∘JI (h:=by exact fun L => zn _)) fun w53 hbw => (Jp 1∘Jd1∘Jj∘JZ) JY1
 refine (Jf 0∘Jg 0 O0∘Jp 3) (Ju (fun hb29 => ?_) fun hb29 => ?_)
 ·
  intro a I L
  have hd29 := of_decide_eq_true hb29
  exact Jb I L ((Jv 23 [(52, .bool true)]∘Jd6∘Jj∘JT∘JP∘JI (h:=by exact fun L => zn _)) fun w53 hbw => (Jp 1∘Jd1∘Jj∘JZ) JY1)
 intro a I L
 have hd29 := of_decide_eq_false hb29
 refine Jb I L ((Jg 5 O0∘Jl∘Jp 3) (Ji (fun hd35 => ?_) fun hd35 => ?_))
 ·
  exact (Jv 17 [(52, .bool true)]∘Jd6∘Jj∘JT∘JP∘JI (h:=by exact fun L => zn _)) fun w53 hbw => (Jp 1∘Jd1∘Jj∘JZ) JY1
 refine (Jg 6 O0∘Jl∘Jp 3) (Ji (fun hd41 => ?_) fun hd41 => ?_)
 ·
  exact (Jv 11 [(52, .bool true)]∘Jd6∘Jj∘JT∘JP∘JI (h:=by exact fun L => zn _)) fun w53 hbw => (Jp 1∘Jd1∘Jj∘JZ) JY1
 refine (Jg 3 O0∘Jl∘Jp 3) (Ji (fun hd47 => ?_) fun hd47 => ?_)
 ·
  exact (Jp 5∘Jd6∘Jj∘JT∘JP∘JI (h:=by exact fun L => zn _)) fun w53 hbw => (Jp 1∘Jd1∘Jj∘JZ) JY1
 refine (Jg 4 O0∘Jl∘Jp 2∘Jd6∘Jj) (Ji (fun hd52 => ?_) fun hd52 => ?_)
 ·
  exact (JT∘JP∘JI (h:=by exact fun L => zn _)) fun w53 hbw => (Jp 1∘Jd1∘Jj∘JZ) JY1
 refine (JF∘JS'∘JQ∘JP∘Jg 6 O0∘Jl∘Jp 1∘Jj∘JB) fun a I L => ?_
 refine qf (fun mS aS wS => ∃ (i : Nat), (i ≤ x.rs.length) ∧ (∀ j, j < i → (x.rs.getD j Rw.zero).l.length ≤ 8) ∧ mS = x.rs.length - i ∧ Fr aS 181 [] [(57, vI i), (56, vI x.rs.length), (55, .slice x.sA x.rs.length x.sc), (52, .bool false), (4, .bool false), (2, vP g2 0), (1, .slice A l.length c_)] ∧ Mem w wS [.blk g2 x.cells 45]) (m := x.rs.length - 0) ⟨0, Nat.zero_le _, fun j h => by omega, rfl, I.sub kr, L.pk [0]⟩ ?_
 clear I L; rintro mS a w_ ⟨i, hi, hu, rfl, I, L⟩
 refine Jb I L ((JP∘Jp 1∘Jj∘JQ) (Ju (fun hb58 => ?_) fun hb58 => ?_))
 ·
  intro a I L
  have hd58 := of_decide_eq_true hb58
  have hi58 : i < x.rs.length := by omega
  obtain ⟨y, hy⟩ : ∃ q, x.rs.getD i Rw.zero = q := ⟨_, rfl⟩
  refine Jb I L ((JT∘JS'∘JQ∘JB∘JP) fun a I L => ?_)
  obtain ⟨gq1, oq1, hq1, _⟩ := Rd.qk hr.s (Nat.lt_of_le_of_lt (Nat.zero_le _) (show i < x.rs.length from by omega)) de
  have hrq1 := hr.s; rw [hq1] at hrq1
  replace I := I.sp 55 (.slice (some ⟨gq1, oq1, none⟩) x.rs.length x.sc) rfl (by rw [hq1]; try rfl)
  refine Jb I L ((Jy (h:=by exact Yl.ix gq1 oq1 i 1 rfl rfl rfl)∘Jy (v := .slice ((x.rs.getD i Rw.zero).A) ((x.rs.getD i Rw.zero).l.length) ((x.rs.getD i Rw.zero).c)) (h:=by exact Yl.o1 hrq1 i Rw.zero hi58 rfl rfl)∘Jo (.slice y.A y.l.length y.c) (by rw [hy])∘Jp 1∘Jd2∘Jr∘Jp 1∘Jl∘Jp 1∘Jd2∘Jj) (Ji (fun hd63 => ?_) fun hd63 => ?_))
  ·
   exact (JT∘JP∘JI (h:=by exact fun L => zn _)) fun w64 hbw => (Jp 1∘Jd1∘Jj∘JZ) JY1
  refine (JF∘JS'∘JR∘JaK 1∘Jp 1∘Jd1∘Jq) fun a I L => ?_
  replace I := I.sp 55 (.slice x.sA x.rs.length x.sc) rfl (by rw [hq1])
  exact ⟨_, om, i + 1, by omega, qv8 hu (by rw [hy]; omega), rfl, I.sub kr, L.pk [0]⟩
 intro a I L
 have hd58 := of_decide_eq_false hb58
 have hf : StFew x := ⟨by omega, by omega, by omega, by omega, by omega, fun r hr2 => by obtain ⟨j, hj, rfl⟩ := z8 Rw.zero hr2; have := hu j om; omega⟩
 refine Jb I L ((JF∘JX∘JG∘JP∘Jy (v := .agg x.cells) (h:=by exact Yl.loadS rfl rfl si_st rfl (fun _ h => qa (h.blk (i := 0) rfl)))∘JL (h:=by exact fun L => qfb x _ (hr.old L) hf)) ?_)
 rintro L _ w67 ⟨y, rfl, heq, hcapy, hm⟩
 refine ⟨_, rfl, _, (show Mem w w67 (.blk g2 x.cells 45 :: (stF y ++ ([]))) from by have h := L.joinT hm; rw [← List.append_nil (stF y)] at h; exact h), ?_⟩
 refine (JA #[vI 0, vQ 0, vN, vN, vN, vN, vN]) fun w7 g7 => (JV si_st O0' (h1:=by exact q4 y)) fun w9_3 => (Jd2∘Jq) fun a I L => ?_
 have hyS : y.sta = x.sta := qc4 heq
 have hyok : y.sta.Ok := by rw [hyS]; exact hok
 have hyf := qwk heq hf
 refine Jb I L ((JG∘JP∘Jf 0∘Jy (v := .agg #[vI y.cpus, vQ y.credit, .slice y.gA y.gs.length y.gc]) (h:=by exact Yl.loadS rfl rfl zr rfl (fun _ h => h.sub (i := 0) rfl 0 rfl))∘JI (h:=by exact fun L => qcv y hyok hyf _ (L.st1 2 rfl))) fun w70 hbw => (Jp 1∘Jd3∘Jj∘JQ) fun a I L => ?_)
 rcases qt9 x.sta with ⟨hbc, hR⟩ | ⟨hbc, hR⟩ | ⟨hbc, hR⟩
 ·
  replace I := I.sp 8 (.bool false) rfl (by rw [hyS, hbc])
  refine Jb I L ((JR∘Jf 0∘Jy (v := .agg #[vI x.cpus, vQ x.credit, .slice x.gA x.gs.length x.gc]) (h:=by exact Yl.loadS rfl rfl zr rfl (fun _ h => h.sub (i := 1) rfl 0 rfl))∘JL (h:=by exact fun L => qyr hok hf.g (hr.old L) hbc)) ?_)
  rintro L _ w74 ⟨rfl, hbw⟩
  refine ⟨_, rfl, _, L.call hbw, ?_⟩
  refine (Jp 1∘Jx∘Jx∘Jp 2∘Jr∘Jy (v := .agg x.cells) (h:=by exact Yl.loadS rfl rfl si_st rfl (fun _ h => qa (h.blk (i := 1) rfl)))∘JL (h:=by exact fun L => qua hok hf (hr.old L) hR)) ?_
  rintro L _ w79 ⟨rfl, hbw⟩
  refine ⟨_, rfl, _, L.call hbw, ?_⟩
  refine (Jp 1∘Jx∘Jx∘Jp 2∘Jj∘JQ) fun a I L => ?_
  refine wp_seq ?_
  exact Jb I L ((Vs .n []) fun wd13 => (Vf 0 0∘Vp [3]∘Vy 1 (v := .agg #[vI x.cpus, vQ x.credit, .slice x.gA x.gs.length x.gc]) (h:=by exact Yl.loadS rfl rfl zr rfl (fun _ h => h.sub (i := 1) rfl 0 rfl))∘VI 2 .n (h:=by exact fun L => is_b (qaf x hok hf _ (hr.old L)) hbc)) fun w84 hbw => (Vy 4 (v := .bool (!(false == false))) (h:=by exact Yl.qbc rfl rfl rfl kr)∘Vo (.bool false) (by exact rfl)∘Vq [5, 6, 7, 8] [(90, .bool false), (89, .bool false), (87, .bool false)]∘Vy 9 (v := .bool (!(false == false))) (h:=by exact Yl.qbc rfl rfl rfl kr)∘Vo (.bool false) (by exact rfl)∘Vp [10, 11, 12, 14]∘Vy 13 (v := .bool false) (h:=by exact Yl.qoo rfl rfl rfl)∘Vy 15 (v := .bool (!(false == false))) (h:=by exact Yl.qbc rfl rfl rfl kr)∘Vo (.bool false) (by exact rfl)∘Vq [16, 17, 18, 19, 20, 21, 22, 23, 24, 25] [(107, .bool false)]∘Vy 26 (v := .agg x.cells) (h:=by exact Yl.loadS rfl rfl si_st rfl (fun _ h => qa (h.blk (i := 1) rfl)))∘Vy 28 (v := .agg y.cells) (h:=by exact Yl.loadS rfl rfl si_st rfl (fun _ h => qa (h.blk (i := 0) rfl)))∘VI 27 .n (h:=by exact fun L => is_b (qci x hok hf _ (hr.old L)) hR)) fun w109 hbw => (VI 29 .n (h:=by exact fun L => is_b (qbk y hyok hyf _ (L.st1 2 rfl)) (by rw [hyS, hR]))) fun w111 hbw => (Vy 30 (v := .bool (!(false == false))) (h:=by exact Yl.qbc rfl rfl rfl kr)∘Vo (.bool false) (by exact rfl)∘Vp [31, 32]∘Vy 33 (v := .agg x.cells) (h:=by exact Yl.loadS rfl rfl si_st rfl (fun _ h => qa (h.blk (i := 1) rfl)))∘Vy 34 (v := .agg y.cells) (h:=by exact Yl.loadS rfl rfl si_st rfl (fun _ h => qa (h.blk (i := 0) rfl)))∘VI 35 .n (h:=by exact fun L => is_b (qdr x y _ (hr.old L) (L.st1 2 rfl) hf hyf) (decide_eq_true heq))) fun w117 hbw => (Vp [36, 37]∘Vd∘Jd6∘JF∘JS'∘JQ∘JP∘Jy (v := .agg y.cells) (h:=by exact Yl.loadS rfl rfl si_st rfl (fun _ h => qa (h.blk (i := 0) rfl)))∘JI (h:=by exact fun L => is_b (qbk y hyok hyf _ (L.st1 2 rfl)) (by rw [hyS, hR]))) fun w121 hbw => (Jp 1∘Jd2∘Jj∘JT∘JP∘Jp 1∘Jy (v := .bool true) (h:=by exact Yl.qgb rfl rfl rfl)∘Jv 5 [(129, .bool true)]∘JI (h:=by exact fun L => zn _)) fun w130 hbw => (Jp 2∘Jd5∘Jj∘JZ) JY1)
 ·
  replace I := I.sp 8 (.bool true) rfl (by rw [hyS, hbc])
  refine Jb I L ((JR∘Jf 0∘Jy (v := .agg #[vI x.cpus, vQ x.credit, .slice x.gA x.gs.length x.gc]) (h:=by exact Yl.loadS rfl rfl zr rfl (fun _ h => h.sub (i := 1) rfl 0 rfl))∘JL (h:=by exact fun L => qon hok hf.g (hr.old L) hbc)) ?_)
  rintro L _ w74 ⟨gn, rfl, hbw⟩
  refine ⟨_, rfl, _, L.call hbw, ?_⟩
  refine (Jp 1∘Jx∘Jx∘Jp 2∘Jr∘Jy (v := .agg x.cells) (h:=by exact Yl.loadS rfl rfl si_st rfl (fun _ h => qa (h.blk (i := 1) rfl)))∘JL (h:=by exact fun L => qua hok hf (hr.old L) hR)) ?_
  rintro L _ w79 ⟨rfl, hbw⟩
  refine ⟨_, rfl, _, L.call hbw, ?_⟩
  refine (Jp 1∘Jx∘Jx∘Jp 2∘Jj∘JQ) fun a I L => ?_
  refine wp_seq ?_
  exact Jb I L ((Vs .n []) fun wd13 => (Vf 0 0∘Vp [3]∘Vy 1 (v := .agg #[vI x.cpus, vQ x.credit, .slice x.gA x.gs.length x.gc]) (h:=by exact Yl.loadS rfl rfl zr rfl (fun _ h => h.sub (i := 1) rfl 0 rfl))∘VI 2 .n (h:=by exact fun L => is_b (qaf x hok hf _ (hr.old L)) hbc)) fun w84 hbw => (Vy 4 (v := .bool (!(true == true))) (h:=by exact Yl.qbc rfl rfl rfl kr)∘Vo (.bool false) (by exact rfl)∘Vq [5, 6, 7, 8] [(90, .bool true), (89, .bool true), (87, .bool false)]∘Vy 9 (v := .bool (!(true == true))) (h:=by exact Yl.qbc rfl rfl rfl kr)∘Vo (.bool false) (by exact rfl)∘Vp [10, 11, 12, 14]∘Vy 13 (v := .bool true) (h:=by exact Yl.qoo rfl rfl rfl)∘Vy 15 (v := .bool (!(true == true))) (h:=by exact Yl.qbc rfl rfl rfl kr)∘Vo (.bool false) (by exact rfl)∘Vq [16, 17, 18, 19, 20, 21, 22, 23, 24, 25] [(107, .bool false)]∘Vy 26 (v := .agg x.cells) (h:=by exact Yl.loadS rfl rfl si_st rfl (fun _ h => qa (h.blk (i := 1) rfl)))∘Vy 28 (v := .agg y.cells) (h:=by exact Yl.loadS rfl rfl si_st rfl (fun _ h => qa (h.blk (i := 0) rfl)))∘VI 27 .n (h:=by exact fun L => is_b (qci x hok hf _ (hr.old L)) hR)) fun w109 hbw => (VI 29 .n (h:=by exact fun L => is_b (qbk y hyok hyf _ (L.st1 2 rfl)) (by rw [hyS, hR]))) fun w111 hbw => (Vy 30 (v := .bool (!(false == false))) (h:=by exact Yl.qbc rfl rfl rfl kr)∘Vo (.bool false) (by exact rfl)∘Vp [31, 32]∘Vy 33 (v := .agg x.cells) (h:=by exact Yl.loadS rfl rfl si_st rfl (fun _ h => qa (h.blk (i := 1) rfl)))∘Vy 34 (v := .agg y.cells) (h:=by exact Yl.loadS rfl rfl si_st rfl (fun _ h => qa (h.blk (i := 0) rfl)))∘VI 35 .n (h:=by exact fun L => is_b (qdr x y _ (hr.old L) (L.st1 2 rfl) hf hyf) (decide_eq_true heq))) fun w117 hbw => (Vp [36, 37]∘Vd∘Jd6∘JF∘JS'∘JQ∘JP∘Jy (v := .agg y.cells) (h:=by exact Yl.loadS rfl rfl si_st rfl (fun _ h => qa (h.blk (i := 0) rfl)))∘JI (h:=by exact fun L => is_b (qbk y hyok hyf _ (L.st1 2 rfl)) (by rw [hyS, hR]))) fun w121 hbw => (Jp 1∘Jd2∘Jj∘JT∘JP∘Jp 1∘Jy (v := .bool true) (h:=by exact Yl.qgb rfl rfl rfl)∘Jv 5 [(129, .bool true)]∘JI (h:=by exact fun L => zn _)) fun w130 hbw => (Jp 2∘Jd5∘Jj∘JZ) JY1)
 ·
  replace I := I.sp 8 (.bool true) rfl (by rw [hyS, hbc])
  refine Jb I L ((JR∘Jf 0∘Jy (v := .agg #[vI x.cpus, vQ x.credit, .slice x.gA x.gs.length x.gc]) (h:=by exact Yl.loadS rfl rfl zr rfl (fun _ h => h.sub (i := 1) rfl 0 rfl))∘JL (h:=by exact fun L => qon hok hf.g (hr.old L) hbc)) ?_)
  rintro L _ w74 ⟨gn, rfl, hbw⟩
  refine ⟨_, rfl, _, L.call hbw, ?_⟩
  refine (Jp 1∘Jx∘Jx∘Jp 2∘Jr∘Jy (v := .agg x.cells) (h:=by exact Yl.loadS rfl rfl si_st rfl (fun _ h => qa (h.blk (i := 1) rfl)))∘JL (h:=by exact fun L => qwu (hr.old L) rfl (qa1 hok hR) hR)) ?_
  rintro L _ w79 ⟨gm, x2, rfl, hx2, hm⟩
  refine ⟨_, rfl, _, (show Mem w w79 (.blk g7 y.cells 45 :: .blk g2 x.cells 45 :: (mdB gm x2 ++ (stF y ++ ([])))) from L.joinF (T := (stF y ++ ([]))) 2 hm rfl), ?_⟩
  refine (Jp 1∘Jx∘Jx∘Jp 2∘Jj∘JQ) fun a I L => ?_
  refine wp_seq ?_
  refine Jb I L ((Vs .n []) fun wd13 => (Vf 0 0∘Vp [3]∘Vy 1 (v := .agg #[vI x.cpus, vQ x.credit, .slice x.gA x.gs.length x.gc]) (h:=by exact Yl.loadS rfl rfl zr rfl (fun _ h => h.sub (i := 1) rfl 0 rfl))∘VI 2 .n (h:=by exact fun L => is_b (qaf x hok hf _ (hr.old L)) hbc)) fun w84 hbw => (Vy 4 (v := .bool (!(true == true))) (h:=by exact Yl.qbc rfl rfl rfl kr)∘Vo (.bool false) (by exact rfl)∘Vq [5, 6, 7, 8] [(90, .bool true), (89, .bool true), (87, .bool false)]∘Vy 9 (v := .bool (!(true == true))) (h:=by exact Yl.qbc rfl rfl rfl kr)∘Vo (.bool false) (by exact rfl)∘Vp [10, 11, 12, 14]∘Vy 13 (v := .bool true) (h:=by exact Yl.qoo rfl rfl rfl)∘Vy 15 (v := .bool (!(true == true))) (h:=by exact Yl.qbc rfl rfl rfl kr)∘Vo (.bool false) (by exact rfl)∘Vq [16, 17, 18, 19, 20, 21, 22, 23, 24, 25] [(107, .bool false)]∘Vy 26 (v := .agg x.cells) (h:=by exact Yl.loadS rfl rfl si_st rfl (fun _ h => qa (h.blk (i := 1) rfl)))∘Vy 28 (v := .agg y.cells) (h:=by exact Yl.loadS rfl rfl si_st rfl (fun _ h => qa (h.blk (i := 0) rfl)))∘VI 27 .n (h:=by exact fun L => is_b (qci x hok hf _ (hr.old L)) hR)) fun w109 hbw => (VI 29 .n (h:=by exact fun L => is_b (qbk y hyok hyf _ (L.st2 2 rfl)) (by rw [hyS, hR]))) fun w111 hbw => (Vy 30 (v := .bool (!(true == true))) (h:=by exact Yl.qbc rfl rfl rfl kr)∘Vo (.bool false) (by exact rfl)∘Vp [31, 32]∘Vy 33 (v := .agg x.cells) (h:=by exact Yl.loadS rfl rfl si_st rfl (fun _ h => qa (h.blk (i := 1) rfl)))∘Vy 34 (v := .agg y.cells) (h:=by exact Yl.loadS rfl rfl si_st rfl (fun _ h => qa (h.blk (i := 0) rfl)))∘VI 35 .n (h:=by exact fun L => is_b (qdr x y _ (hr.old L) (L.st2 2 rfl) hf hyf) (decide_eq_true heq))) fun w117 hbw => (Vp [36, 37]∘Vd∘Jd6∘JF∘JS'∘JQ∘JP∘Jy (v := .agg y.cells) (h:=by exact Yl.loadS rfl rfl si_st rfl (fun _ h => qa (h.blk (i := 0) rfl)))∘JI (h:=by exact fun L => is_b (qbk y hyok hyf _ (L.st2 2 rfl)) (by rw [hyS, hR]))) fun w121 hbw => (Jp 1∘Jd2∘Jj∘JF∘JS'∘JQ∘JP∘Jv 4 [(135, vP gm 0), (134, .bool false)]∘Jy (v := .bool false) (h:=by exact Yl.qgb rfl rfl rfl)∘Jp 3∘Jy (v := .agg y.cells) (h:=by exact Yl.loadS rfl rfl si_st rfl (fun _ h => qa (h.blk (i := 0) rfl)))∘JI (h:=by exact fun L => qm4 2 L rfl 0 i64_0 hx2 hyS (qa1 hok hR))) fun w141 hbw => (Jp 2∘Jd6∘Jj∘JF∘JS'∘JP) fun a I L => ?_)
  refine Jb I L ((Jp 1∘JL (h:=by exact fun L => qx1 2 L rfl hx2 (qa1 hok hR))) ?_)
  rintro L _ w146 ⟨q, rfl, hq, hcapq, hm⟩
  refine ⟨_, rfl, _, (show Mem w w146 (.blk g7 y.cells 45 :: .blk g2 x.cells 45 :: (stF q ++ (mdB gm x2 ++ (stF y ++ ([]))))) from L.joinF (T := (mdB gm x2 ++ (stF y ++ ([])))) 2 hm rfl), ?_⟩
  refine (Jp 1∘Jx∘Jx∘JA #[vI 0, vQ 0, vN, vN, vN, vN, vN]) fun w13 g13 => (JV si_st O0' (h1:=by exact q4 q)) fun w19_6 => (Jp 1∘Jt1∘Jq) fun a I L => ?_
  replace I := I.to [(13, vP g13 0), (143, .bool false), (122, .bool false), (119, .bool false), (12, vI 0), (11, vP gm 0), (7, vP g7 0), (58, .bool false), (57, vI i), (56, vI x.rs.length), (55, .slice x.sA x.rs.length x.sc), (52, .bool false), (4, .bool false), (2, vP g2 0), (1, .slice A l.length c_)]
  refine Jb I L ((JG∘JP∘Jy (v := .agg q.cells) (h:=by exact Yl.loadS rfl rfl si_st rfl (fun _ h => qa (h.blk (i := 0) rfl)))∘JL (h:=by exact fun L => qom _ _ q _ (Mem.front (A := stF q) 3 L rfl) (few_s hq (qa1 hok hR)))) ?_)
  rintro L _ w150 ⟨rfl, HM2⟩
  refine ⟨_, rfl, _, (show Mem w w150 (.blk g13 q.cells 45 :: .blk g7 y.cells 45 :: .blk g2 x.cells 45 :: (mdB gm x2 ++ (stF y ++ ([])))) from HM2), ?_⟩
  refine (Jt2∘Jr∘Jy (v := .agg y.cells) (h:=by exact Yl.loadS rfl rfl si_st rfl (fun _ h => qa (h.blk (i := 1) rfl)))∘JL (h:=by exact fun L => qfb y _ (L.st2 3 rfl) hyf)) ?_
  rintro L _ w152 ⟨z, rfl, heq2, hcapz, hm⟩
  refine ⟨_, rfl, _, (show Mem w w152 (.blk g13 q.cells 45 :: .blk g7 y.cells 45 :: .blk g2 x.cells 45 :: (stF z ++ (mdB gm x2 ++ (stF y ++ ([]))))) from L.joinF (T := (mdB gm x2 ++ (stF y ++ ([])))) 3 hm rfl), ?_⟩
  refine (JA #[vI 0, vQ 0, vN, vN, vN, vN, vN]) fun w15 g15 => (JV si_st O0' (h1:=by exact q4 z)) fun w21_3 => (Jd2∘Jq) fun a I L => ?_
  have hzS : z.sta = x.sta := (qc4 heq2).trans hyS
  refine Jb I L ((JG∘JP∘Jy (v := .agg z.cells) (h:=by exact Yl.loadS rfl rfl si_st rfl (fun _ h => qa (h.blk (i := 0) rfl)))∘JL (h:=by exact fun L => qwu (L.st1 4 rfl) hzS (qa1 hok hR) hR)) ?_)
  rintro L _ w155 ⟨gm2, x4, rfl, hx4, hm⟩
  refine ⟨_, rfl, _, (show Mem w w155 (.blk g15 z.cells 45 :: .blk g13 q.cells 45 :: .blk g7 y.cells 45 :: .blk g2 x.cells 45 :: (mdB gm2 x4 ++ (stF z ++ (mdB gm x2 ++ (stF y ++ ([])))))) from L.joinF (T := (stF z ++ (mdB gm x2 ++ (stF y ++ ([]))))) 4 hm rfl), ?_⟩
  refine (Jp 1∘Jx∘Jx∘Jp 2∘Jr∘Jy (v := .agg z.cells) (h:=by exact Yl.loadS rfl rfl si_st rfl (fun _ h => qa (h.blk (i := 0) rfl)))∘JL (h:=by exact fun L => qom _ _ z _ (Mem.front (A := stF z) 4 (show Mem w _ (.blk g15 z.cells 45 :: .blk g13 q.cells 45 :: .blk g7 y.cells 45 :: .blk g2 x.cells 45 :: (stF z ++ (mdB gm2 x4 ++ (mdB gm x2 ++ (stF y ++ ([])))))) from Mem.swapT (A := mdB gm2 x4) (B := stF z) 4 L rfl) rfl) (qwk heq2 hyf))) ?_
  rintro L _ w159 ⟨rfl, HM2⟩
  refine ⟨_, rfl, _, (show Mem w w159 (.blk g15 z.cells 45 :: .blk g13 q.cells 45 :: .blk g7 y.cells 45 :: .blk g2 x.cells 45 :: (mdB gm2 x4 ++ (mdB gm x2 ++ (stF y ++ ([]))))) from HM2), ?_⟩
  refine (Jt2∘Jj) fun a I L => ?_
  refine wp_seq ?_
  refine qgu L [.blk g15 z.cells 45, .blk g13 q.cells 45, .blk g7 y.cells 45, .blk g2 x.cells 45] [0, 1, 2, 3] [] fun L HS => ?_
  refine ap I (fun _ => HS) [0, 1, 2, 3] (bf 22 [0, 1, 2, 3]) [(163, vP gm2 0), (162, .bool true)] fun a I => ?_
  refine s_az I HS 4 rfl (v := .bool true) (Yl.qoo rfl rfl rfl) fun a I => ?_
  refine ap I (fun _ => HS) [5, 6, 7] (bf 22 [0, 1, 2, 3, 4, 5, 6, 7]) [(167, vP gm2 0), (166, .bool true)] fun a I => ?_
  refine s_az I HS 8 rfl (v := .agg y.cells) (Yl.loadS rfl rfl si_st rfl (fun _ h => qa (h.blk (i := 2) rfl))) fun a I => ?_
  refine s_on I 9 rfl (e_is I L [vP gm2 0, .agg y.cells, vI 0] (.bool true) rfl rfl (qm4 4 (show Mem w _ (.blk g15 z.cells 45 :: .blk g13 q.cells 45 :: .blk g7 y.cells 45 :: .blk g2 x.cells 45 :: (mdB gm2 x4 ++ (stF y ++ (mdB gm x2 ++ ([]))))) from Mem.qz7 (A := mdB gm2 x4) (B := mdB gm x2) (C := stF y) 4 L rfl) rfl 0 i64_0 hx4 hyS (qa1 hok hR)) fun w169 hbw L a I => ?_)
  refine keepS (L.pk [0, 1, 2, 3]) (fun HS => ?_)
  refine ap I (fun _ => HS) [10, 11, 12, 14] (bt 22 [13, 15, 16, 17, 18, 19, 20, 21]) [(174, .slice A l.length c_), (172, vP gm 0), (171, .bool true)] fun a I => ?_
  refine s_az I HS 13 rfl (v := .agg y.cells) (Yl.loadS rfl rfl si_st rfl (fun _ h => qa (h.blk (i := 2) rfl))) fun a I => ?_
  refine s_on I 15 rfl ?_
  refine s_ek I L [.slice A l.length c_, vI 40] (qpw A c_ l 40 _ hl (L.old hrl) hc hnl de) fun A175 c175 w175 hc175 L a I => ?_
  refine keepS (L.pk [1, 2, 3, 4]) (fun HS => ?_)
  refine s_on I 16 rfl ?_
  refine e_cl I [vP gm 0, .agg y.cells, .slice A175 ((qa2 l 40).length) c175, vI 0] rfl rfl (qt6 5 (show Mem w _ (.row (.slice A175 ((qa2 l 40).length) c175) ((qa2 l 40).length) ((qa2 l 40).flatMap opL) 52 8 :: .blk g15 z.cells 45 :: .blk g13 q.cells 45 :: .blk g7 y.cells 45 :: .blk g2 x.cells 45 :: (mdB gm x2 ++ (stF y ++ ([])))) from Mem.dropT (A := mdB gm2 x4) 5 L rfl) rfl (qsz hl) om 0 i64_0 hx2 hyS (qa1 hok hR) (fun _ _ _ h hf => h.rdMem (hf _ (List.mem_append_left _ (List.mem_of_getElem? (i := 0) rfl))))) ?_
  rintro _ w176 ⟨rfl, x3, p3, HM2⟩
  refine ⟨_, rfl, ?_⟩
  replace L := (show Mem w w176 (.row (.slice A175 ((qa2 l 40).length) c175) ((qa2 l 40).length) ((qa2 l 40).flatMap opL) 52 8 :: .blk g15 z.cells 45 :: .blk g13 q.cells 45 :: .blk g7 y.cells 45 :: .blk g2 x.cells 45 :: (mdB gm x3 ++ (stF p3 ++ ([])))) from HM2)
  clear I; intro a I
  refine keepS (L.pk [1, 2, 3, 4]) (fun HS => ?_)
  refine ap I (fun _ => HS) [17, 18] (bt 22 [19, 20, 21]) [(178, .bool true)] fun a I => ?_
  refine s_on I 19 rfl (e_is I L [] (.bool true) rfl rfl (zn _) fun w179 hbw L a I => ?_)
  refine keepS (L.pk [1, 2, 3, 4]) (fun HS => ?_)
  refine ap I (fun _ => HS) [20, 21] (bt 22 []) [(4, .bool true)] fun a I => ?_
  refine qb kr ?_
  exact Jb I L ((JZ) JY1)
end Go.Proofs.YtannicghedpdpaaGreat
