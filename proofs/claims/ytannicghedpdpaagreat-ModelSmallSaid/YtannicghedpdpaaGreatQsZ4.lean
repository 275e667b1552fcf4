/- Parts. -/
import Derived.Test.YtannicghedpdpaaGreatQsChv
import Derived.Test.YtannicghedpdpaaGreatQsZ3
set_option linter.all false
set_option maxRecDepth 100000
set_option maxHeartbeats 1000000
namespace Go.Proofs.YtannicghedpdpaaGreat
open Go.RowKit
theorem qu6 {l : List Int} {id : Int} {k : Nat} (h : ∀ j, j < k → l.getD j 0 ≠ id) (hk : l.getD k 0 ≠ id) : ∀ j, j < k + 1 → l.getD j 0 ≠ id := fun j hj => by
 rcases Nat.lt_or_ge j k with h1 | h1
 ·exact h j h1
 ·obtain rfl : j = k := by omega
  exact hk
theorem qyg {l : List Int} {id : Int} (h : ∀ j, j < l.length → l.getD j 0 ≠ id) : ¬ id ∈ l := fun hm => by
 obtain ⟨j, hj, he⟩ := z4 0 hm
 exact h j hj he
theorem qg6 (x e : En) (hx : x.Ok) (fr to : Nat) (hf : fr < 18446744073709551616) (ht : to < 18446744073709551616) (he : x.moved fr to = e) (w : World) :
  Calls Tryz.prog 135 #[.agg x.cells, vQ fr, vQ to] w (Is w (.agg e.cells)) := he ▸ qpk x hx fr to hf ht w
section
variable {x : Stm} {i to gt ct wt : Nat} {t : Tk} {yz pz : Sp} {e : En}
theorem qu7 (ht : x.ts[i]? = some t) (hr : t.ready = true) (hg : t.group = (gt : Int)) (hc : t.cpu = (ct : Int)) (hw : t.weight = (wt : Int)) (hy : x.sta.spot gt ct = yz) (hp : x.sta.spot gt to = pz) (he : (⟨t.v, t.r, wt⟩ : En).moved yz.floor pz.floor = e) : moveS x.sta i (to : Int) = wakeS ({ x with ts := x.ts.set i { t.put e with cpu := (to : Int) } } : Stm).sta (zh x.sta gt to) to := by
 unfold moveS
 rw [show x.sta.ts.getD i Tk.zero = t from zc Tk.zero ht]
 dsimp only
 rw [if_pos hr, hg, hc, Int.toNat_natCast, Int.toNat_natCast, Int.toNat_natCast, hy, hp, tk_en hw, he]
 rfl
theorem qw9 (ht : x.ts[i]? = some t) (hr : t.ready = false) (hg : t.group = (gt : Int)) (hc : t.cpu = (ct : Int)) (hw : t.weight = (wt : Int)) (hy : x.sta.spot gt ct = yz) (hp : x.sta.spot gt to = pz) (he : (⟨t.v, t.r, wt⟩ : En).moved yz.floor pz.floor = e) : moveS x.sta i (to : Int) = ({ x with ts := x.ts.set i { t.put e with cpu := (to : Int) } } : Stm).sta := by
 unfold moveS
 rw [show x.sta.ts.getD i Tk.zero = t from zc Tk.zero ht]
 dsimp only
 rw [if_neg (by rw [hr]; decide), hg, hc, Int.toNat_natCast, Int.toNat_natCast, Int.toNat_natCast, hy, hp, tk_en hw, he]
 rfl
end
theorem qg7 (x : Stm) (hx : MdOk x x.gs.length x.cl.length x.cu.length x.ts.length x.rs.length) (c : Nat) (w : World) (hr : StRd w x) :
    Calls Tryz.prog 63 #[.agg x.cells, vI c] w (Is w (vI (loadS x.sta c))) := by
 have hft_ := hx.few.t
 have hwt := qc8 hx.sh
 refine (JN2 Tryz.func63 39) ?_
 refine (JP∘JE) fun w2 g2 => (Jp 1∘Jr∘Jp 1∘Jj∘JQ∘JP∘Jp 1∘Jj∘JB) fun a I L => ?_
 refine qg (fun mS aS wS => ∃ (i : Nat), (i ≤ x.ts.length) ∧ mS = x.ts.length - i ∧ Fr aS 39 [] [(6, vI i), (5, vI (loadN (x.ts.take i) c)), (4, vI 0), (2, vP g2 0), (1, vI c)] ∧ Mem w wS [.blk g2 x.cells 45]) (m := x.ts.length - 0) ⟨0, Nat.zero_le _, rfl, I.sub kr, L.pk [0]⟩ ?_
 clear I L; rintro mS a w_ ⟨i, hi, rfl, I, L⟩
 refine Jb I L ((JQ∘JP∘Jp 1∘Jg 5 O0∘Jl∘Jp 1∘Jd3∘Jj) (Ju (fun hb11 => ?_) fun hb11 => ?_))
 ·
  intro a I L
  have hd11 := of_decide_eq_true hb11
  have hi15 : i < x.ts.length := by omega
  obtain ⟨t, ht⟩ : ∃ z, (x.ts.getD i Tk.zero) = z := ⟨_, rfl⟩
  have hls := qhv (c := c) hi15
  rw [ht] at hls
  have hb1 := qc7 (c := c) hwt i; have hb2 := qc7 (c := c) hwt (i + 1)
  obtain ⟨gq1, oq1, hq1, _⟩ := Rd.qn hr.t (Nat.lt_of_le_of_lt (Nat.zero_le _) (show i < x.ts.length from hi15)) de
  have hrq1 := hr.t; rw [hq1] at hrq1
  refine Jb I L ((JT∘JS'∘JQ∘JB) fun a I L => ?_)
  refine qz (fun aS wS => Fr aS 39 [] [(29, .bool (t.ready && decide (t.cpu = (c : Int)))), (11, .bool true), (6, vI i), (5, vI (loadN (x.ts.take i) c)), (4, vI 0), (2, vP g2 0), (1, vI c)] ∧ Mem w wS [.blk g2 x.cells 45]) ?_ ?_
  ·
   refine qal ?_
   refine Jb I L ((Jg 5 O0∘Jp 1) fun a I L => ?_)
   replace I := I.sp 15 (.slice (some ⟨gq1, oq1, none⟩) x.ts.length x.tc) rfl (by rw [hq1]; try rfl)
   refine Jb I L ((Jy (h:=by exact Yl.ix gq1 oq1 i 8 rfl rfl rfl)∘Jf 5∘Jy (v := .bool ((x.ts.getD i Tk.zero).ready)) (h:=by exact Yl.qh rfl rfl kr (fun _ h => (h.old hrq1).partAt qd (k := i) (j := 5) (x := (x.ts.getD i Tk.zero)) ((getD_at Tk.zero om)) rfl))∘Jo (.bool t.ready) (by rw [ht])∘Jp 1) (Ju (fun hb20 => ?_) fun hb20 => ?_))
   ·
    refine (Jg 5 O0∘Jp 1) fun a I L => ?_
    replace I := I.sp 22 (.slice (some ⟨gq1, oq1, none⟩) x.ts.length x.tc) rfl (by rw [hq1]; try rfl)
    refine Jb I L ((Jy (h:=by exact Yl.ix gq1 oq1 i 8 rfl rfl rfl)∘Jf 3∘Jy (v := vI ((x.ts.getD i Tk.zero).cpu)) (h:=by exact Yl.qh rfl rfl kr (fun _ h => (h.old hrq1).partAt qd (k := i) (j := 3) (x := (x.ts.getD i Tk.zero)) ((getD_at Tk.zero om)) rfl))∘Jo (vI t.cpu) (by rw [ht])∘Jp 3∘Jd5∘Jq) fun a I L => ?_)
    have I := I.sp 29 (.bool (t.ready && decide (t.cpu = (c : Int)))) rfl (congrArg Value.bool (by rw [hb20, Bool.true_and, Bool.eq_iff_iff, beq_iff_eq, decide_eq_true_eq]))
    exact ⟨I.sub kr, L.pk [0]⟩
   refine (Jv 9 [(29, .bool false)]∘Jd4∘Jq) fun a I L => ?_
   have I := I.sp 29 (.bool (t.ready && decide (t.cpu = (c : Int)))) rfl (congrArg Value.bool (by rw [hb20]; try rfl))
   exact ⟨I.sub kr, L.pk [0]⟩
  clear I L; rintro a w5 ⟨I, L⟩
  refine Jb I L (Ju (fun hb29 => ?_) fun hb29 => ?_)
  ·
   intro a I L
   rw [if_pos hb29] at hls
   refine Jb I L ((JT∘JR∘Jp 1∘Jg 5 O0∘Jp 1) fun a I L => ?_)
   replace I := I.sp 32 (.slice (some ⟨gq1, oq1, none⟩) x.ts.length x.tc) rfl (by rw [hq1]; try rfl)
   refine Jb I L ((Jy (h:=by exact Yl.ix gq1 oq1 i 8 rfl rfl rfl)∘Jf 2∘Jy (v := vI ((x.ts.getD i Tk.zero).weight)) (h:=by exact Yl.qh rfl rfl kr (fun _ h => (h.old hrq1).partAt qd (k := i) (j := 2) (x := (x.ts.getD i Tk.zero)) ((getD_at Tk.zero om)) rfl))∘Jo (vI t.weight) (by rw [ht])∘Jp 1∘Jo (vI (loadN (x.ts.take (i + 1)) c)) (by rw [hls]; exact qcb ⟨by omega, by omega⟩)∘Jp 1∘Jd4∘Jj∘JR∘Jp 1∘JaK 1∘Jp 1∘Jd2∘Jq) fun a I L => ?_)
   exact ⟨_, om, i + 1, by omega, rfl, I.sub kr, L.pk [0]⟩
  intro a I L
  rw [if_neg (by rw [hb29]; decide), Int.add_zero] at hls
  replace I := I.sp 5 (vI (loadN (x.ts.take (i + 1)) c)) rfl (by rw [hls])
  refine Jb I L ((JF∘JS'∘JR∘Jp 1∘JaK 1∘Jp 1∘Jd2∘Jq) fun a I L => ?_)
  exact ⟨_, om, i + 1, by omega, rfl, I.sub kr, L.pk [0]⟩
 intro a I L
 have hd11 := of_decide_eq_false hb11
 have hall : loadN (x.ts.take i) c = loadS x.sta c := by rw [List.take_of_length_le om]; rfl
 exact Jb I L ((JF∘JX∘JG∘JP∘Jp 2∘Jd1∘Jj∘JZ∘Jz1) fun L => by exact ⟨by rw [hall], L.below⟩)
theorem qic (x : Stm) (hx : MdOk x x.gs.length x.cl.length x.cu.length x.ts.length x.rs.length) (c : Nat) (w : World) (hr : StRd w x) (hc : (c : Int) < x.cpus) :
    Calls Tryz.prog 62 #[.agg x.cells, vI c] w (Is w (vI (ze x.sta c : Int))) := by
 have hrs0 : 0 < x.rs.length := by have h1 := hx.sh.rs; obtain ⟨_, _, _, hgs⟩ := zj hx.sh.cfg; have h2 := (qo hgs).1; replace h2 : 1 ≤ x.gs.length := h2; omega
 refine (JN2 Tryz.func62 24) ?_
 refine (JP∘JE) fun w2 g2 => (Jp 1∘Jr∘Jp 1∘Jj∘JB) fun a I L => ?_
 refine qg (fun mS aS wS => ∃ (g : Nat), (g < x.rs.length) ∧ (qcf x.sta c g = ze x.sta c) ∧ mS = x.rs.length - g ∧ Fr aS 24 [] [(5, vI g), (4, vI 0), (2, vP g2 0), (1, vI c)] ∧ Mem w wS [.blk g2 x.cells 45]) (m := x.rs.length - 0) ⟨0, hrs0, rfl, rfl, I.sub kr, L.pk [0]⟩ ?_
 clear I L; rintro mS a w_ ⟨g, hg, hq, rfl, I, L⟩
 obtain ⟨mm, hmm⟩ : ∃ q, memS x.sta g c = q := ⟨_, rfl⟩
 have hsl : x.sta.sp.length = x.rs.length := zg
 refine Jb I L ((JB∘JP∘Jy (v := .agg x.cells) (h:=by exact Yl.loadS rfl rfl si_st rfl (fun _ h => qa (h.blk (i := 0) rfl)))∘Jp 2∘JK (h:=by exact fun L => qjk (x := x) hx (hr.old L) (hc) om hmm)) fun A11 c11 w11 hc11 => (Jp 1∘Jd4∘Jj∘JQ∘JP∘Jp 1∘Jl∘Jp 1∘Jd2∘Jj) (Ju (fun hb14 => ?_) fun hb14 => ?_))
 ·
  intro a I L
  have hd14 := eq_of_beq hb14
  have hm0 : memS x.sta g c = [] := by rw [hmm]; exact List.length_eq_zero_iff.1 om
  exact Jb I L ((JT∘JP∘Jp 1∘Jj∘JZ∘Jz1) fun L => by exact ⟨by rw [← hq, qdt (by rw [zg]; omega) hm0]; rfl, L.below⟩)
 intro a I L
 have hd14 := ne_of_beq_false hb14
 have hne : mm ≠ [] := fun e => by rw [e] at hd14; exact hd14 rfl
 have hm0 : memS x.sta g c ≠ [] := by rw [hmm]; exact hne
 refine Jb I L ((JF∘JS'∘JP∘Jp 1∘JI (h:=by exact fun L => qg5 hx hmm hne (L.rd (i := 0) rfl))) fun w16 hbw => (JA #[vQ 0, vI 0, vI 0]) fun w7 g7 => (JV qbp O0' (h1:=by exact qjf (bestM topM mm))) fun w5_3 => (Jd2∘Jj∘JQ∘JP∘Jg 1 O0∘Jp 1∘Jd1∘Jj) (Ju (fun hb19 => ?_) fun hb19 => ?_))
 ·
  intro a I L
  have hd19 := eq_of_beq hb19
  have hft := qdu (s := x.sta) (c := c) (g := g) om hm0 (by rw [hmm]; omega)
  rw [hmm] at hft
  exact Jb I L ((JT∘JP∘Jg 2 O0∘Jp 1∘Jd1∘Jj∘JZ∘Jz1) fun L => by exact ⟨by rw [← hq, hft], L.below⟩)
 intro a I L
 have hd19 := ne_of_beq_false hb19
 obtain ⟨hdn, hdg, hdl⟩ := qdv (s := x.sta) (c := c) (g := g) hx.ok om hm0 (by rw [hmm]; omega)
 rw [hmm] at hdn hdg hdl
 refine Jb I L ((JF∘JS'∘JR∘Jg 2 O0∘Jp 1∘Jd1∘Jq) fun a I L => ?_)
 exact ⟨_, om, (bestM topM mm).id, by omega, by rw [← hdn]; exact hq, rfl, I.sub kr, L.pk [2]⟩
theorem qla (x : Stm) (id : Int) (w : World) (hr : Rd w w.heap.size 1 x.uA x.cu.length (x.cu.map I64i)) (hn : x.cu.length ≤ 1000000) :
    Calls Tryz.prog 117 #[.agg x.cells, vI id] w (Is w (.bool (decide (id ∈ x.cu)))) := by
 refine (JN2 Tryz.func117 20) ?_
 refine (JP∘JE) fun w2 g2 => (Jp 1∘Jj∘JQ∘JP∘Jp 1∘Jj∘JB) fun a I L => ?_
 refine qg (fun mS aS wS => ∃ (i : Nat), (i ≤ x.cu.length) ∧ (∀ j, j < i → x.cu.getD j 0 ≠ id) ∧ mS = x.cu.length - i ∧ Fr aS 20 [] [(5, vI i), (4, .bool false), (2, vP g2 0), (1, vI id)] ∧ Mem w wS [.blk g2 x.cells 45]) (m := x.cu.length - 0) ⟨0, Nat.zero_le _, fun j h => by omega, rfl, I.sub kr, L.pk [0]⟩ ?_
 clear I L; rintro mS a w_ ⟨i, hi, hu, rfl, I, L⟩
 refine Jb I L ((JQ∘JP∘Jp 1∘Jg 4 O0∘Jl∘Jp 1∘Jd3∘Jj) (Ju (fun hb10 => ?_) fun hb10 => ?_))
 ·
  intro a I L
  have hd10 := of_decide_eq_true hb10
  have hi10 : i < x.cu.length := by omega
  refine Jb I L ((JT∘JS'∘JQ∘JB∘JP∘Jg 4 O0∘Jp 1) fun a I L => ?_)
  obtain ⟨gq1, oq1, hq1, _⟩ := Rd.qn hr (Nat.lt_of_le_of_lt (Nat.zero_le _) (show i < x.cu.length from by omega)) de
  have hrq1 := hr; rw [hq1] at hrq1
  replace I := I.sp 14 (.slice (some ⟨gq1, oq1, none⟩) x.cu.length x.uc) rfl (by rw [hq1]; try rfl)
  refine Jb I L ((Jy (h:=by exact Yl.ix gq1 oq1 i 1 rfl rfl rfl)∘Jy (h:=by exact Yl.o1 hrq1 i 0 om rfl rfl)∘Jp 2∘Jd6∘Jj) (Je (fun hd19 => ?_) fun hd19 => ?_))
  ·
   exact (JT∘JP∘Jp 1∘Jj∘JZ∘Jz1) fun L => qec (by rw [← hd19]; exact qf 0 hi10) L.below
  refine (JF∘JS'∘JR∘Jp 1∘JaK 1∘Jp 1∘Jd2∘Jq) fun a I L => ?_
  exact ⟨_, om, i + 1, by omega, qu6 hu hd19, rfl, I.sub kr, L.pk [0]⟩
 intro a I L
 have hd10 := of_decide_eq_false hb10
 exact Jb I L ((JF∘JX∘JG∘JP∘Jp 1∘Jj∘JZ∘Jz1) fun L => is_no (qyg (fun j hj => hu j om)) L.below)
theorem qjn (W w : World) (x : Stm) (ng nl nu nt ns : Nat) (hx : MdOk x ng nl nu nt ns) (T : List Fact) (L : Mem W w (sdA x ng nl nu nt ns ++ T)) (i to : Nat) (t : Tk) (ht : x.ts[i]? = some t) (hto : (to : Int) < x.cpus) :
    Calls Tryz.prog 118 #[.agg (sdC x ng nl nu nt ns), vI i, vI to] w (StOut W T (moveS x.sta i (to : Int))) := by
 obtain ⟨cp, cr, gA, gc, gs, lA, lc, cl, uA, uc, cu, tA, tc, ts, sA, sc, rs⟩ := x
 replace L : Mem W w (fG gA ng gc gs :: fI lA nl lc cl :: fI uA nu uc cu :: fT tA nt tc ts :: fS sA ns sc rs :: (fR rs ++ (T))) := L
 have hln := hx.ln
 obtain ⟨hlg, hll, hlu, hlt, hls⟩ := hln
 replace hlg : gs.length = ng := hlg; replace hll : cl.length = nl := hll; replace hlu : cu.length = nu := hlu; replace hlt : ts.length = nt := hlt; replace hls : rs.length = ns := hls
 have hlns := hx.ln
 have hsp : SpsOk gs cp rs := hx.spots
 have hrg : rs.length = gs.length := hx.sh.rs
 have hcr : cr < 18446744073709551616 := hx.ok.credit
 obtain ⟨hcp1, hcp2, _, hgs⟩ := zj hx.sh.cfg
 replace hcp1 : 1 ≤ cp := hcp1; replace hcp2 : cp ≤ 64 := hcp2; replace hgs : gsOk gs = true := hgs
 have hgl1 := (qo hgs).1; have hgl2 := (qo hgs).2.1
 have hcll : (cl.length : Int) = cp := hx.sh.cl; have hcul : (cu.length : Int) = cp := hx.sh.cu
 have hfts : ts.length ≤ 1000000 := hx.few.t
 replace ht : ts[i]? = some t := ht; replace hto : (to : Int) < cp := hto
 have hil : i < ts.length := (List.getElem?_eq_some_iff.1 ht).1
 have hsx := qrp hx
 obtain ⟨htg, hto⟩ := hx.task ht
 have hti := htg.id; have htgr := htg.group; have htc := htg.cpu; have htw := htg.weight; have htv := hto.v; have htr := hto.r; have htm := hto.mask
 replace htc : 0 ≤ t.cpu ∧ t.cpu < cp := htc
 obtain ⟨gt, hgt⟩ : ∃ n : Nat, t.group = (n : Int) := ⟨t.group.toNat, by omega⟩
 obtain ⟨ct, hct⟩ : ∃ n : Nat, t.cpu = (n : Int) := ⟨t.cpu.toNat, by omega⟩
 obtain ⟨wt, hwt⟩ : ∃ n : Nat, t.weight = (n : Int) := ⟨t.weight.toNat, by omega⟩
 have hEo : (⟨t.v, t.r, wt⟩ : En).Ok := En.qdf htg.ent hwt htv
 have hgtl : gt < ns := by omega
 obtain ⟨gtA, rfl⟩ := qi (L.own (i := 3) rfl) om
 obtain ⟨gsA, rfl⟩ := qi (L.own (i := 4) rfl) om
 obtain ⟨⟨yA, yc, yl⟩, hy⟩ : ∃ y, rs.getD gt Rw.zero = y := ⟨_, rfl⟩
 have hys := hsp gt om; rw [hy] at hys
 have hyl : (yl.length : Int) = cp := hys.1
 obtain ⟨gy, rfl⟩ := L.rwSome 5 rfl om hy om
 obtain ⟨yz, hyz⟩ : ∃ z, yl[ct]? = some z := ⟨_, List.getElem?_eq_getElem om⟩
 obtain ⟨pz, hpz⟩ : ∃ z, yl[to]? = some z := ⟨_, List.getElem?_eq_getElem om⟩
 have hyf := (hys.2 yz (List.mem_of_getElem? hyz)).1.floor; have hpf := (hys.2 pz (List.mem_of_getElem? hpz)).1.floor
 obtain ⟨e, hew⟩ : ∃ e, (⟨t.v, t.r, wt⟩ : En).moved yz.floor pz.floor = e := ⟨_, rfl⟩
 have heo : e.Ok ∧ e.w = wt := by rw [← hew]; exact En.qjs hEo _ _ hpf
 have hsy := qan (x := (⟨cp, cr, gA, gc, gs, lA, lc, cl, uA, uc, cu, some ⟨gtA, 0, none⟩, tc, ts, some ⟨gsA, 0, none⟩, sc, rs⟩ : Stm)) (by show gt < rs.length; omega) hy hyz; have hsp2 := qan (x := (⟨cp, cr, gA, gc, gs, lA, lc, cl, uA, uc, cu, some ⟨gtA, 0, none⟩, tc, ts, some ⟨gsA, 0, none⟩, sc, rs⟩ : Stm)) (by show gt < rs.length; omega) hy hpz
 show Calls Tryz.prog 118 #[.agg #[vI cp, vQ cr, .slice gA ng gc, .slice lA nl lc, .slice uA nu uc, vS gtA nt tc, vS gsA ns sc], vI i, vI to] w _
 refine (Jin3 L Tryz.func118 65) ?_
 refine (JP∘JE) fun w3 g3 => (JA #[vI 0, vQ 0, vN, vN, vN, vN, vN]) fun w6 g6 => (Jr∘Jy (v := .agg #[vI cp, vQ cr, .slice gA ng gc, .slice lA nl lc, .slice uA nu uc, vS gtA nt tc, vS gsA ns sc]) (h:=by exact Yl.loadS rfl rfl si_st rfl (fun _ h => qa (h.blk (i := 1) rfl)))∘JL (h:=by exact fun L => qfa (x := (⟨cp, cr, gA, gc, gs, lA, lc, cl, uA, uc, cu, some ⟨gtA, 0, none⟩, tc, ts, some ⟨gsA, 0, none⟩, sc, rs⟩ : Stm)) hlns (L.sdRd 2 rfl hlns) (hx.few))) ?_
 rintro L _ w11 ⟨y, rfl, heq, hcap, hm⟩
 refine ⟨_, rfl, _, (show Mem W _ (.blk g6 #[vI 0, vQ 0, vN, vN, vN, vN, vN] 45 :: .blk g3 #[vI cp, vQ cr, .slice gA ng gc, .slice lA nl lc, .slice uA nu uc, vS gtA nt tc, vS gsA ns sc] 45 :: fG gA ng gc gs :: fI lA nl lc cl :: fI uA nu uc cu :: fT (some ⟨gtA, 0, none⟩) nt tc ts :: fS (some ⟨gsA, 0, none⟩) ns sc rs :: (fR rs ++ (stF y ++ (T)))) from L.joinG (A := fR rs) (T := (T)) 7 hm rfl), ?_⟩
 refine (JA #[vI 0, vQ 0, vN, vN, vN, vN, vN]) fun w7 g7 => (JV si_st O0' (h1:=by exact q5 y)) fun w1_3 => (Jd2∘Jq) fun a I L => ?_
 have hyS : y.sta = (⟨cp, cr, gA, gc, gs, lA, lc, cl, uA, uc, cu, some ⟨gtA, 0, none⟩, tc, ts, some ⟨gsA, 0, none⟩, sc, rs⟩ : Stm).sta := qfk heq
 have hsz : Shp y.sta := by rw [hyS]; exact hsx
 refine Jb I L ((JG∘JP∘Jg 5 O2∘Jp 1∘Jy (h:=by exact Yl.ix0 gtA i 8 rfl rfl rfl)∘Jy (v := .agg t.cells) (h:=by exact Yl.loadS rfl rfl si_tk rfl (fun _ h => h.z5 qd (i := 6) rfl (ht)))∘JA #[vI 0, vI 0, vI 0, vI 0, vQ 0, .bool false, vQ 0, vW 0]) fun w8 g8 => (JV si_tk O0' (h1:=by exact qa4 t)) fun w2_6 => (Jd4∘Jj) fun a I L => ?_)
 refine qz (fun aS wS => ∃ (g9 : Nat), Fr aS 65 [] [(9, vP g9 0), (8, vP g8 0), (7, vP g7 0), (6, vP g6 0), (3, vP g3 0), (1, vI i), (2, vI to)] ∧ Mem W wS (.blk g9 e.cells 143 :: .blk g8 t.cells 81 :: .blk g7 y.cells 45 :: .blk g6 #[vI 0, vQ 0, vN, vN, vN, vN, vN] 45 :: .blk g3 #[vI cp, vQ cr, .slice gA ng gc, .slice lA nl lc, .slice uA nu uc, vS gtA nt tc, vS gsA ns sc] 45 :: fG gA ng gc gs :: fI lA nl lc cl :: fI uA nu uc cu :: fT (some ⟨gtA, 0, none⟩) nt tc ts :: fS (some ⟨gsA, 0, none⟩) ns sc rs :: (fR rs ++ (stF y ++ (T))))) ?_ ?_
 ·
  refine Jb I L ((Vs .n [30]) fun wd3 => (Vf 0 6∘Vf 2 7∘Vf 4 2∘Vf 7 6∘Vf 9 1∘Vf 13 3∘Vf 18 6∘Vf 20 1∘Vp [24]∘Vc 1 O0∘Vc 3 O0∘Vc 5 O0∘Vo (vI wt) (by rw [hwt])∘Vc 8 O3∘Vc 10 O0∘Vo (vI gt) (by rw [hgt])∘Vy 11 (h:=by exact Yl.ix0 gsA gt 1 rfl rfl rfl)∘Vy 12 (v := .slice ((rs.getD gt Rw.zero).A) ((rs.getD gt Rw.zero).l.length) ((rs.getD gt Rw.zero).c)) (h:=by exact Yl.r1 8 gt Rw.zero om rfl rfl rfl)∘Vo (vS gy yl.length yc) (by rw [hy])∘Vc 14 O0∘Vo (vI ct) (by rw [hct])∘Vy 15 (h:=by exact Yl.ix0 gy ct 3 rfl rfl rfl)∘Vf 16 2∘Vy 17 (v := vQ yz.floor) (h:=by exact Yl.qh rfl rfl kr (fun _ h => h.qa1 9 (j := 2) rfl om hy (hyz) rfl))∘Vc 19 O3∘Vc 21 O0∘Vo (vI gt) (by rw [hgt])∘Vy 22 (h:=by exact Yl.ix0 gsA gt 1 rfl rfl rfl)∘Vy 23 (v := .slice ((rs.getD gt Rw.zero).A) ((rs.getD gt Rw.zero).l.length) ((rs.getD gt Rw.zero).c)) (h:=by exact Yl.r1 8 gt Rw.zero om rfl rfl rfl)∘Vo (vS gy yl.length yc) (by rw [hy])∘Vy 25 (h:=by exact Yl.ix0 gy to 3 rfl rfl rfl)∘Vf 26 2∘Vy 27 (v := vQ pz.floor) (h:=by exact Yl.qh rfl rfl kr (fun _ h => h.qa1 9 (j := 2) rfl om hy (hpz) rfl))) fun a I L HS => ?_)
  refine qj [6, 29] kr rfl ?_
  refine all_cons ?_ ?_
  ·refine qe I (i := 6) rfl rfl ?_
   refine e_is I L [vQ t.v, vW t.r, vI wt] (.agg #[vQ t.v, vW t.r, vW wt]) rfl rfl (zl t.v t.r (wt : Int) om _) fun w23 hbw L a I => ?_
   refine keepS (L.pt 9 [0, 1, 2, 3, 4, 5, 6, 7, 8]) (fun HS => ?_)
   refine qj [28, 29] kr rfl ?_
   refine all_cons ?_ ?_
   ·refine qe I (i := 28) rfl rfl ?_
    refine e_is I L [.agg #[vQ t.v, vW t.r, vW wt], vQ yz.floor, vQ pz.floor] (.agg e.cells) rfl rfl (qg6 (⟨t.v, t.r, wt⟩ : En) e hEo yz.floor pz.floor hyf hpf hew _) fun w45 hbw L a I => ?_
    refine keepS (L.pt 9 [0, 1, 2, 3, 4, 5, 6, 7, 8]) (fun HS => ?_)
    refine Vb I L HS ((VA 29 .n #[vQ 0, vW 0, vW 0]) fun w9 g9 => fun a I L HS => ?_)
    refine s_on I 30 rfl (e_sa I L 0 rfl rfl rfl rfl rfl qr rfl rfl (q9 e) ?_)
    clear L; intro w3_30 L
    refine noS kr ?_
    refine qb kr ?_
    exact ⟨g9, I.sub kr, L.pt 10 [0, 1, 2, 3, 4, 5, 6, 7, 8, 9]⟩
   refine all_cons ?_ all_nil
   refine qe I (i := 29) rfl rfl ?_
   refine s_ea I L #[vQ 0, vW 0, vW 0] ?_
   clear I L; intro a w9 g9 I L
   refine keepS (L.pt 10 [1, 2, 3, 4, 5, 6, 7, 8, 9]) (fun HS => ?_)
   refine Vb I L HS ((VI 28 (.f .n) (h:=by exact fun L => qg6 (⟨t.v, t.r, wt⟩ : En) e hEo yz.floor pz.floor hyf hpf hew _)) fun w45 hbw => fun a I L HS => ?_)
   refine s_on I 30 rfl (e_sa I L 0 rfl rfl rfl rfl rfl qr rfl rfl (q9 e) ?_)
   clear L; intro w3_30 L
   refine noS kr ?_
   refine qb kr ?_
   exact ⟨g9, I.sub kr, L.pt 10 [0, 1, 2, 3, 4, 5, 6, 7, 8, 9]⟩
  refine all_cons ?_ all_nil
  refine qe I (i := 29) rfl rfl ?_
  refine s_ea I L #[vQ 0, vW 0, vW 0] ?_
  clear I L; intro a w9 g9 I L
  refine keepS (L.pt 10 [1, 2, 3, 4, 5, 6, 7, 8, 9]) (fun HS => ?_)
  refine Vb I L HS ((VI 6 (.f .n) (h:=by exact fun L => zl t.v t.r (wt : Int) om _)) fun w23 hbw => (VI 28 (.f .n) (h:=by exact fun L => qg6 (⟨t.v, t.r, wt⟩ : En) e hEo yz.floor pz.floor hyf hpf hew _)) fun w45 hbw => fun a I L HS => ?_)
  refine s_on I 30 rfl (e_sa I L 0 rfl rfl rfl rfl rfl qr rfl rfl (q9 e) ?_)
  clear L; intro w3_30 L
  refine noS kr ?_
  refine qb kr ?_
  exact ⟨g9, I.sub kr, L.pt 10 [0, 1, 2, 3, 4, 5, 6, 7, 8, 9]⟩
 clear I L; rintro a w3 ⟨g9, I, L⟩
 refine Jb I L ((JP∘Jy (v := .agg t.cells) (h:=by exact Yl.loadS rfl rfl si_tk rfl (fun _ h => qa (h.blk (i := 1) rfl)))∘Jy (v := .agg e.cells) (h:=by exact Yl.loadS rfl rfl qr rfl (fun _ h => qa (h.blk (i := 0) rfl)))∘JI (h:=by exact fun L => qji t e heo.1 _)) fun w48 hbw => (JV si_tk O1' (h1:=by exact qa4 (t.put e))) fun w4_3 => (Jt3∘Jr∘Jp 1∘Jf 3) fun a I L => ?_)
 refine fo I 2 rfl rfl ?_
 refine z7 I L (i := 1) rfl rfl rfl rfl kr rfl rfl (by simp [Tk.cells]) ?_
 clear L; intro w5_2 L
 refine Jb I L ((Jt2∘Jr∘Jg 5 O4∘Jp 1∘Jy (v := .agg #[vI ((t.put e).id), vI ((t.put e).group), vI ((t.put e).weight), vI to, vQ ((t.put e).mask), .bool ((t.put e).ready), vQ ((t.put e).v), vW ((t.put e).r)]) (h:=by exact Yl.loadS rfl rfl si_tk rfl (fun _ h => qa (h.blk (i := 1) rfl)))∘Jo (.agg (({ t.put e with cpu := (to : Int) } : Tk).cells)) (by exact rfl)∘Jy (h:=by exact Yl.ix0 gtA i 8 rfl rfl rfl)) fun a I L => ?_)
 refine fo I 5 rfl rfl ?_
 refine qdn I L (i := 8) (sz := 8) rfl rfl rfl rfl si_tk rfl (qa4 ({ t.put e with cpu := (to : Int) } : Tk)) rfl (by rw [qy tkL 8 qd]; omega) ?_
 clear L; intro w6_5 L
 replace L := L.asRow (i := 8) (ys := (ts.set i { t.put e with cpu := (to : Int) }).flatMap tkL) rfl (qa9 tkL 8 qd ts i { t.put e with cpu := (to : Int) } om)
 refine Jb I L ((Jt4∘Jj∘JQ∘JP∘Jg 5 O1∘Jj) (Ju (fun hb57 => ?_) fun hb57 => ?_))
 ·
  refine (JT∘JR∘Jy (v := .agg #[vI cp, vQ cr, .slice gA ng gc, .slice lA nl lc, .slice uA nu uc, vS gtA nt tc, vS gsA ns sc]) (h:=by exact Yl.loadS rfl rfl si_st rfl (fun _ h => qa (h.blk (i := 4) rfl)))∘Jy (v := .agg y.cells) (h:=by exact Yl.loadS rfl rfl si_st rfl (fun _ h => qa (h.blk (i := 2) rfl)))∘Jf 1∘Jc O1∘Jo (vI gt) (by exact congrArg (Value.int .i64) (show (t.put e).group = _ from hgt))∘Jp 1∘JL (h:=by exact fun L => qjm (x := (⟨cp, cr, gA, gc, gs, lA, lc, cl, uA, uc, cu, some ⟨gtA, 0, none⟩, tc, (ts.set i { t.put e with cpu := (to : Int) }), some ⟨gsA, 0, none⟩, sc, rs⟩ : Stm)) 5 L rfl (qen (ts' := ts.set i { t.put e with cpu := (to : Int) }) hlns (by rw [List.length_set]; exact hlt)) hsz (heq.1.2.2) (heq.1.1) (hrg) (by rw [hyS]; exact qdz _) (hsp) hcr om om)) ?_
  rintro L _ w63 ⟨y2, rfl, hy2, HM2⟩
  refine ⟨_, rfl, _, (show Mem W w63 (.blk g9 e.cells 143 :: .blk g8 #[vI ((t.put e).id), vI ((t.put e).group), vI ((t.put e).weight), vI to, vQ ((t.put e).mask), .bool ((t.put e).ready), vQ ((t.put e).v), vW ((t.put e).r)] 81 :: .blk g7 y.cells 45 :: .blk g6 #[vI 0, vQ 0, vN, vN, vN, vN, vN] 45 :: .blk g3 #[vI cp, vQ cr, .slice gA ng gc, .slice lA nl lc, .slice uA nu uc, vS gtA nt tc, vS gsA ns sc] 45 :: (stF y2 ++ (stF y ++ (T)))) from HM2), ?_⟩
  refine (JV si_st O4' (h1:=by exact q5 y2)) fun w8_6 => (Jt6∘Jr∘Jy (v := .agg y2.cells) (h:=by exact Yl.loadS rfl rfl si_st rfl (fun _ h => qa (h.blk (i := 4) rfl)))∘JV si_st O3' (h1:=by exact q5 y2)) fun w9_1 => (Jt1∘Jj∘JZ) fun a I L => ?_
  exact ret1 rfl I (.cellS (i := 3) I L rfl rfl si_st rfl) (StOut.drop (A := stF y) ⟨y2, rfl, hy2.trans ((by rw [hyS] : _ = _).trans (qu7 (x := (⟨cp, cr, gA, gc, gs, lA, lc, cl, uA, uc, cu, some ⟨gtA, 0, none⟩, tc, ts, some ⟨gsA, 0, none⟩, sc, rs⟩ : Stm)) ht hb57 hgt hct hwt hsy hsp2 hew).symm), L.dropN 5 rfl⟩)
 refine (JF∘JS'∘JP∘Jy (v := .agg #[vI cp, vQ cr, .slice gA ng gc, .slice lA nl lc, .slice uA nu uc, vS gtA nt tc, vS gsA ns sc]) (h:=by exact Yl.loadS rfl rfl si_st rfl (fun _ h => qa (h.blk (i := 4) rfl)))∘JV si_st O3') fun w9_1 => (Jt1∘Jj∘JZ) fun a I L => ?_
 exact ret1 rfl I (.cellS (i := 3) I L rfl rfl si_st rfl) (StOut.drop (A := stF y) (qf5 (y := (⟨cp, cr, gA, gc, gs, lA, lc, cl, uA, uc, cu, some ⟨gtA, 0, none⟩, tc, (ts.set i { t.put e with cpu := (to : Int) }), some ⟨gsA, 0, none⟩, sc, rs⟩ : Stm)) 5 L rfl (qen hlns (by rw [List.length_set]; exact hlt)) (qw9 (x := (⟨cp, cr, gA, gc, gs, lA, lc, cl, uA, uc, cu, some ⟨gtA, 0, none⟩, tc, ts, some ⟨gsA, 0, none⟩, sc, rs⟩ : Stm)) ht hb57 hgt hct hwt hsy hsp2 hew).symm))
theorem qg8 {w : World} {x : Stm} {ng nl nu nt ns : Nat} (hl : Lns x ng nl nu nt ns) (hr : StRd w x) (hn : x.cu.length ≤ 1000000) (id : Int) : Calls Tryz.prog 117 #[.agg (sdC x ng nl nu nt ns), vI id] w (Is w (.bool (decide (id ∈ x.cu)))) := by
 rw [qdl hl]
 exact qla x id w hr.u hn
theorem qdb {w : World} {x : Stm} {ng nl nu nt ns c : Nat} {v : Int} (hx : MdOk x ng nl nu nt ns) (hr : StRd w x) (hv : loadS x.sta c = v) : Calls Tryz.prog 63 #[.agg (sdC x ng nl nu nt ns), vI c] w (Is w (vI v)) := by
 rw [qdl hx.ln, ← hv]
 have hx2 := hx
 obtain ⟨rfl, rfl, rfl, rfl, rfl⟩ := hx2.ln
 exact qg7 x hx c w hr
theorem qs5 {w : World} {x : Stm} {ng nl nu nt ns c : Nat} (hx : MdOk x ng nl nu nt ns) (hr : StRd w x) (hc : (c : Int) < x.cpus) : Calls Tryz.prog 62 #[.agg (sdC x ng nl nu nt ns), vI c] w (Is w (vI (ze x.sta c : Int))) := by
 rw [qdl hx.ln]
 have hx2 := hx
 obtain ⟨rfl, rfl, rfl, rfl, rfl⟩ := hx2.ln
 exact qic x hx c w hr hc
theorem qv0 {w : World} {base : Nat} {e : TypeId} {size : Nat} {A : Option Addr} {n c : Nat} {xs : List Value} (h : w.ownsRow base e size (.slice A n c) n xs) : n ≤ c := by
 obtain ⟨A', c', h3, h4⟩ := qd6 h
 injection h3 with _ _ h5
 subst h5
 exact h4
theorem tsRd {α : Type} {f : α → List Value} {sz : Nat} {w : World} {B n : Nat} {A : Option Addr} {l : List α} (hl : l.length = n) (h : Rd w B sz A n (l.flatMap f)) : Rd w B sz A l.length (l.flatMap f) := by rw [hl]; exact h
theorem qn1 {α : Type} {f : α → List Value} {sz : Nat} (hf : ∀ x, (f x).length = sz) {w : World} {B k c n : Nat} {A : Option Addr} {l : List α} (h : Rd w B sz A l.length (l.flatMap f)) (hk : k ≤ l.length) (hc : l.length ≤ c) (hn : l.length - k = n) : Rd w B sz (if c = k then A else A.map (·.add (k * sz))) n ((l.drop k).flatMap f) := by
 have h1 := Rd.qyu hf h hk hc
 rwa [List.length_drop, hn] at h1
theorem qfq {W w : World} {F T : List Fact} {x : Stm} {ng nl nu nt ns : Nat} (n : Nat) (L : Mem W w F) (he : F.drop n = sdA x ng nl nu nt ns ++ T) (hx : MdOk x ng nl nu nt ns) (i to : Nat) (t : Tk) (ht : x.ts[i]? = some t) (hto : (to : Int) < x.cpus) :
  Calls Tryz.prog 118 #[.agg (sdC x ng nl nu nt ns), vI i, vI to] w (fun r w' => ∃ y : Stm, r = .returned (.agg y.cells) ∧ y.sta = moveS x.sta i (to : Int) ∧ Mem W w' (F.take n ++ (stF y ++ T))) :=
 (qjn W w x ng nl nu nt ns hx (F.take n ++ T) (L.front n he) i to t ht hto).mono fun r w' ⟨y, h1, h2, h3⟩ => ⟨y, h1, h2, h3.back⟩
theorem qps (W w : World) (x : Stm) (ng nl nu nt ns : Nat) (hx : MdOk x ng nl nu nt ns) (T : List Fact) (L : Mem W w (sdA x ng nl nu nt ns ++ T)) (o : Op30) (ho : o.Ok) :
    Calls Tryz.prog 71 #[.agg (sdC x ng nl nu nt ns), .agg o.cells] w (OpOut W T (qce x.sta o)) := by
 obtain ⟨cp, cr, gA, gc, gs, lA, lc, cl, uA, uc, cu, tA, tc, ts, sA, sc, rs⟩ := x
 replace L : Mem W w (fG gA ng gc gs :: fI lA nl lc cl :: fI uA nu uc cu :: fT tA nt tc ts :: fS sA ns sc rs :: (fR rs ++ (T))) := L
 have hln := hx.ln
 obtain ⟨hlg, hll, hlu, hlt, hls⟩ := hln
 replace hlg : gs.length = ng := hlg; replace hll : cl.length = nl := hll; replace hlu : cu.length = nu := hlu; replace hlt : ts.length = nt := hlt; replace hls : rs.length = ns := hls
 have hlns := hx.ln
 have hsp : SpsOk gs cp rs := hx.spots
 have hrg : rs.length = gs.length := hx.sh.rs
 have hcr : cr < 18446744073709551616 := hx.ok.credit
 obtain ⟨hcp1, hcp2, _, hgs⟩ := zj hx.sh.cfg
 replace hcp1 : 1 ≤ cp := hcp1; replace hcp2 : cp ≤ 64 := hcp2; replace hgs : gsOk gs = true := hgs
 have hgl1 := (qo hgs).1; have hgl2 := (qo hgs).2.1
 have hcll : (cl.length : Int) = cp := hx.sh.cl; have hcul : (cu.length : Int) = cp := hx.sh.cu
 have hfts : ts.length ≤ 1000000 := hx.few.t
 have hoc := ho.cpu; have hot := ho.task; have hog := ho.group; have how := ho.weight; have hoto := ho.to; have hotk := ho.ticks; have hom := ho.mask; have hok8 := ho.kind; unfold I64 at hoc hot hog how hoto hotk
 have hsx := qrp hx
 obtain ⟨gsA, rfl⟩ := qi (L.own (i := 4) rfl) om
 show Calls Tryz.prog 71 #[.agg #[vI cp, vQ cr, .slice gA ng gc, .slice lA nl lc, .slice uA nu uc, .slice tA nt tc, vS gsA ns sc], .agg o.cells] w _
 refine (Jin2 L Tryz.func71 77) ?_
 refine (JP∘JE) fun w2 g2 => (JE) fun w3 g3 => (JA #[vI 0, vQ 0, vN, vN, vN, vN, vN]) fun w4 g4 => (Jp 2∘Jj∘JQ∘JP∘Jg 2 O1∘Jp 2) (Ju (fun hb13 => ?_) fun hb13 => ?_)
 ·
  intro a I L
  have hd13 := of_decide_eq_true hb13
  refine Jb I L ((Jp 4∘Jd6∘Jj∘JT∘JP∘Jy (v := .agg #[vI cp, vQ cr, .slice gA ng gc, .slice lA nl lc, .slice uA nu uc, .slice tA nt tc, vS gsA ns sc]) (h:=by exact Yl.loadS rfl rfl si_st rfl (fun _ h => qa (h.blk (i := 2) rfl)))∘JV si_st O0') fun w2_1 => (Jp 2∘Jj∘JZ) fun a I L => ?_)
  exact ret3 rfl I (.cellS (i := 0) I L rfl rfl si_st rfl) (.tmp I rfl) (.tmp I rfl) (qp (y := (⟨cp, cr, gA, gc, gs, lA, lc, cl, uA, uc, cu, tA, tc, ts, some ⟨gsA, 0, none⟩, sc, rs⟩ : Stm)) 3 L rfl hlns (if_pos (decide_eq_false (by show ¬ (1 ≤ o.task ∧ o.task ≤ 65535); omega))))
 intro a I L
 have hd13 := of_decide_eq_false hb13
 refine Jb I L ((Jg 2 O1∘Jp 2∘Jd5∘Jj) (Ji (fun hd17 => ?_) fun hd17 => ?_))
 ·
  refine (JT∘JP∘Jy (v := .agg #[vI cp, vQ cr, .slice gA ng gc, .slice lA nl lc, .slice uA nu uc, .slice tA nt tc, vS gsA ns sc]) (h:=by exact Yl.loadS rfl rfl si_st rfl (fun _ h => qa (h.blk (i := 2) rfl)))∘JV si_st O0') fun w2_1 => (Jp 2∘Jj∘JZ) fun a I L => ?_
  exact ret3 rfl I (.cellS (i := 0) I L rfl rfl si_st rfl) (.tmp I rfl) (.tmp I rfl) (qp (y := (⟨cp, cr, gA, gc, gs, lA, lc, cl, uA, uc, cu, tA, tc, ts, some ⟨gsA, 0, none⟩, sc, rs⟩ : Stm)) 3 L rfl hlns (if_pos (decide_eq_false (by show ¬ (1 ≤ o.task ∧ o.task ≤ 65535); omega))))
 refine (JF∘JS'∘JP∘Jy (v := .agg #[vI cp, vQ cr, .slice gA ng gc, .slice lA nl lc, .slice uA nu uc, .slice tA nt tc, vS gsA ns sc]) (h:=by exact Yl.loadS rfl rfl si_st rfl (fun _ h => qa (h.blk (i := 2) rfl)))∘Jg 2 O1∘JI (h:=by exact fun L => qer (x := (⟨cp, cr, gA, gc, gs, lA, lc, cl, uA, uc, cu, tA, tc, ts, some ⟨gsA, 0, none⟩, sc, rs⟩ : Stm)) hlns (L.sdRd 3 rfl hlns) hfts o.task)) fun w22 hbw => (Jp 1∘Jd3∘Jj∘JQ∘JP∘Jp 2∘Jd1∘Jj) (Ju (fun hb24 => ?_) fun hb24 => ?_)
 ·
  intro a I L
  have hd24 := of_decide_eq_true hb24
  refine Jb I L ((JT∘JP∘Jy (v := .agg #[vI cp, vQ cr, .slice gA ng gc, .slice lA nl lc, .slice uA nu uc, .slice tA nt tc, vS gsA ns sc]) (h:=by exact Yl.loadS rfl rfl si_st rfl (fun _ h => qa (h.blk (i := 2) rfl)))∘JV si_st O0') fun w5_1 => (Jp 2∘Jj∘JZ) fun a I L => ?_)
  exact ret3 rfl I (.cellS (i := 0) I L rfl rfl si_st rfl) (.tmp I rfl) (.tmp I rfl) (qp (y := (⟨cp, cr, gA, gc, gs, lA, lc, cl, uA, uc, cu, tA, tc, ts, some ⟨gsA, 0, none⟩, sc, rs⟩ : Stm)) 3 L rfl hlns ((if_neg (nf (decide_eq_true (by show 1 ≤ o.task ∧ o.task ≤ 65535; omega)))).trans (if_pos (hd24))))
 intro a I L
 have hd24 := of_decide_eq_false hb24
 obtain ⟨k, t, hk, ht, hkl, hkid⟩ := qco hd24
 replace hk : fidx ts o.task = (k : Int) := hk; replace ht : ts[k]? = some t := ht; replace hkl : k < ts.length := hkl
 obtain ⟨htg, hto⟩ := hx.task ht
 have hti := htg.id; have htgr := htg.group; have htc := htg.cpu; have htw := htg.weight; have htv := hto.v; have htr := hto.r; have htm := hto.mask
 replace htc : 0 ≤ t.cpu ∧ t.cpu < cp := htc
 obtain ⟨gt, hgt⟩ : ∃ n : Nat, t.group = (n : Int) := ⟨t.group.toNat, by omega⟩
 obtain ⟨ct, hct⟩ : ∃ n : Nat, t.cpu = (n : Int) := ⟨t.cpu.toNat, by omega⟩
 obtain ⟨wt, hwt⟩ : ∃ n : Nat, t.weight = (n : Int) := ⟨t.weight.toNat, by omega⟩
 have hEo : (⟨t.v, t.r, wt⟩ : En).Ok := En.qdf htg.ent hwt htv
 revert L; revert a; repeat (first | clear I | clear L)
 intro a I L
 obtain ⟨gtA, rfl⟩ := qi (L.own (i := 6) rfl) (Nat.lt_of_le_of_lt (Nat.zero_le _) (show k < nt from (by omega : k < nt)))
 refine Jb I L ((JF∘JS'∘JQ∘JP∘Jg 5 O2∘Jp 1∘Jo (vI k) (by rw [hk])∘Jy (h:=by exact Yl.ix0 gtA k 8 rfl rfl rfl)∘Jf 5∘Jy (v := .bool t.ready) (h:=by exact Yl.qh rfl rfl kr (fun _ h => h.qv qd (i := 6) rfl (k := k) (off := 5) (x := t) (ht) rfl))∘Jd4∘Jj) (Ju (fun hb31 => ?_) fun hb31 => ?_))
 ·
  refine (JT∘JP∘Jy (v := .agg #[vI cp, vQ cr, .slice gA ng gc, .slice lA nl lc, .slice uA nu uc, vS gtA nt tc, vS gsA ns sc]) (h:=by exact Yl.loadS rfl rfl si_st rfl (fun _ h => qa (h.blk (i := 2) rfl)))∘JV si_st O0') fun w7_1 => (Jp 2∘Jj∘JZ) fun a I L => ?_
  exact ret3 rfl I (.cellS (i := 0) I L rfl rfl si_st rfl) (.tmp I rfl) (.tmp I rfl) (qp (y := (⟨cp, cr, gA, gc, gs, lA, lc, cl, uA, uc, cu, some ⟨gtA, 0, none⟩, tc, ts, some ⟨gsA, 0, none⟩, sc, rs⟩ : Stm)) 3 L rfl hlns ((if_neg (nf (decide_eq_true (by show 1 ≤ o.task ∧ o.task ≤ 65535; omega)))).trans ((if_neg (hd24)).trans (if_pos (by rw [qao (s := Stm.sta (⟨cp, cr, gA, gc, gs, lA, lc, cl, uA, uc, cu, some ⟨gtA, 0, none⟩, tc, ts, some ⟨gsA, 0, none⟩, sc, rs⟩ : Stm)) hk ht]; exact hb31)))))
 intro a I L
 have hnr : t.ready = false := by simpa using hb31
 obtain ⟨⟨yA, yc, yl⟩, hy⟩ : ∃ y, rs.getD gt Rw.zero = y := ⟨_, rfl⟩
 have hys := hsp gt om; rw [hy] at hys
 have hyl : (yl.length : Int) = cp := hys.1
 revert L; revert a; repeat (first | clear I | clear L)
 intro a I L
 obtain ⟨gy, rfl⟩ := L.rwSome 8 rfl om hy om
 obtain ⟨yz, hyz⟩ : ∃ z, yl[ct]? = some z := ⟨_, List.getElem?_eq_getElem om⟩
 have hyo := hys.2 yz (List.mem_of_getElem? hyz)
 have hyv := hyo.1.v; have hyr := hyo.1.r; have hyf := hyo.1.floor
 obtain ⟨e, hew⟩ : ∃ e, (⟨t.v, t.r, wt⟩ : En).woken yz.floor cr = e := ⟨_, rfl⟩
 have heo : e.Ok ∧ e.w = wt := by rw [← hew]; exact En.qdd hEo _ _ hyf
 have hsy := qan (x := (⟨cp, cr, gA, gc, gs, lA, lc, cl, uA, uc, cu, some ⟨gtA, 0, none⟩, tc, ts, some ⟨gsA, 0, none⟩, sc, rs⟩ : Stm)) (by show gt < rs.length; omega) hy hyz
 refine Jb I L ((JF∘JS'∘JP∘Jy (v := .agg #[vI cp, vQ cr, .slice gA ng gc, .slice lA nl lc, .slice uA nu uc, vS gtA nt tc, vS gsA ns sc]) (h:=by exact Yl.loadS rfl rfl si_st rfl (fun _ h => qa (h.blk (i := 2) rfl)))∘JL (h:=by exact fun L => qfa (x := (⟨cp, cr, gA, gc, gs, lA, lc, cl, uA, uc, cu, some ⟨gtA, 0, none⟩, tc, ts, some ⟨gsA, 0, none⟩, sc, rs⟩ : Stm)) hlns (L.sdRd 3 rfl hlns) (hx.few))) ?_)
 rintro L _ w34 ⟨y, rfl, heq, hcap, hm⟩
 refine ⟨_, rfl, _, (show Mem W _ (.blk g4 #[vI 0, vQ 0, vN, vN, vN, vN, vN] 45 :: .blk g3 o.cells 52 :: .blk g2 #[vI cp, vQ cr, .slice gA ng gc, .slice lA nl lc, .slice uA nu uc, vS gtA nt tc, vS gsA ns sc] 45 :: fG gA ng gc gs :: fI lA nl lc cl :: fI uA nu uc cu :: fT (some ⟨gtA, 0, none⟩) nt tc ts :: fS (some ⟨gsA, 0, none⟩) ns sc rs :: (fR rs ++ (stF y ++ (T)))) from L.joinG (A := fR rs) (T := (T)) 8 hm rfl), ?_⟩
 refine (JA #[vI 0, vQ 0, vN, vN, vN, vN, vN]) fun w8 g8 => (JV si_st O0' (h1:=by exact q5 y)) fun w8_3 => (Jd2∘Jq) fun a I L => ?_
 have hyS : y.sta = (⟨cp, cr, gA, gc, gs, lA, lc, cl, uA, uc, cu, some ⟨gtA, 0, none⟩, tc, ts, some ⟨gsA, 0, none⟩, sc, rs⟩ : Stm).sta := qfk heq
 have hsz : Shp y.sta := by rw [hyS]; exact hsx
 refine Jb I L ((JG∘JP∘Jg 5 O3∘Jp 1∘Jo (vI k) (by rw [hk])∘Jy (h:=by exact Yl.ix0 gtA k 8 rfl rfl rfl)∘Jy (v := .agg t.cells) (h:=by exact Yl.loadS rfl rfl si_tk rfl (fun _ h => h.z5 qd (i := 7) rfl (ht)))∘JA #[vI 0, vI 0, vI 0, vI 0, vQ 0, .bool false, vQ 0, vW 0]) fun w9 g9 => (JV si_tk O0' (h1:=by exact qa4 t)) fun w9_6 => (Jd4∘Jj) fun a I L => ?_)
 refine wp_seq ?_
 refine Jb I L ((Vs .n [24]) fun wd10 => (Vf 1 6∘Vf 3 7∘Vf 5 2∘Vf 8 6∘Vf 10 1∘Vf 14 3∘Vf 19 0∘Vf 20 1∘Vy 0 (v := .agg t.cells) (h:=by exact Yl.loadS rfl rfl si_tk rfl (fun _ h => qa (h.blk (i := 0) rfl)))∘Vc 2 O0∘Vc 4 O0∘Vc 6 O0∘Vo (vI wt) (by rw [hwt])∘Vc 9 O4∘Vc 11 O0∘Vo (vI gt) (by rw [hgt])∘Vy 12 (h:=by exact Yl.ix0 gsA gt 1 rfl rfl rfl)∘Vy 13 (v := .slice ((rs.getD gt Rw.zero).A) ((rs.getD gt Rw.zero).l.length) ((rs.getD gt Rw.zero).c)) (h:=by exact Yl.r1 9 gt Rw.zero om rfl rfl rfl)∘Vo (vS gy yl.length yc) (by rw [hy])∘Vc 15 O0∘Vo (vI ct) (by rw [hct])∘Vy 16 (h:=by exact Yl.ix0 gy ct 3 rfl rfl rfl)∘Vf 17 2∘Vy 18 (v := vQ yz.floor) (h:=by exact Yl.qh rfl rfl kr (fun _ h => h.qa1 10 (j := 2) rfl om hy (hyz) rfl))∘Vc 21 O4∘VI 7 .n (h:=by exact fun L => zl t.v t.r (wt : Int) om _)) fun w47 hbw => (VI 22 .n (h:=by exact fun L => qes (⟨t.v, t.r, wt⟩ : En) e hEo yz.floor cr hyf hcr hew _)) fun w62 hbw => (VI 23 .n (h:=by exact fun L => qji t e heo.1 _)) fun w63 hbw => fun a I L HS => ?_)
 refine s_on I 24 rfl (e_sa I L 0 rfl rfl rfl rfl rfl si_tk rfl rfl (qa4 (t.put e)) ?_)
 clear L; intro w10_24 L
 refine noS kr ?_
 refine qb kr ?_
 refine Jb I L ((JP∘Jf 5) fun a I L => ?_)
 refine fo I 1 rfl rfl ?_
 refine z7 I L (i := 0) rfl rfl rfl rfl kr rfl rfl (by simp [Tk.cells]) ?_
 clear L; intro w11_1 L
 refine Jb I L ((Jt6∘Jr∘Jg 5 O4∘Jp 1∘Jo (vI k) (by rw [hk])∘Jy (v := .agg #[vI ((t.put e).id), vI ((t.put e).group), vI ((t.put e).weight), vI ((t.put e).cpu), vQ ((t.put e).mask), .bool true, vQ ((t.put e).v), vW ((t.put e).r)]) (h:=by exact Yl.loadS rfl rfl si_tk rfl (fun _ h => qa (h.blk (i := 0) rfl)))∘Jo (.agg (({ t.put e with ready := true } : Tk).cells)) (by exact rfl)∘Jy (h:=by exact Yl.ix0 gtA k 8 rfl rfl rfl)) fun a I L => ?_)
 refine fo I 5 rfl rfl ?_
 refine qdn I L (i := 8) (sz := 8) rfl rfl rfl rfl si_tk rfl (qa4 ({ t.put e with ready := true } : Tk)) rfl (by rw [qy tkL 8 qd]; omega) ?_
 clear L; intro w12_5 L
 replace L := L.asRow (i := 8) (ys := (ts.set k { t.put e with ready := true }).flatMap tkL) rfl (qa9 tkL 8 qd ts k { t.put e with ready := true } om)
 refine Jb I L ((Jt6∘Jr∘Jy (v := .agg #[vI cp, vQ cr, .slice gA ng gc, .slice lA nl lc, .slice uA nu uc, vS gtA nt tc, vS gsA ns sc]) (h:=by exact Yl.loadS rfl rfl si_st rfl (fun _ h => qa (h.blk (i := 4) rfl)))∘Jy (v := .agg y.cells) (h:=by exact Yl.loadS rfl rfl si_st rfl (fun _ h => qa (h.blk (i := 1) rfl)))∘Jf 1∘Jc O0∘Jo (vI gt) (by exact congrArg (Value.int .i64) (show (t.put e).group = _ from hgt))∘Jf 3∘Jc O0∘Jo (vI ct) (by exact congrArg (Value.int .i64) (show (t.put e).cpu = _ from hct))∘JL (h:=by exact fun L => qjm (x := (⟨cp, cr, gA, gc, gs, lA, lc, cl, uA, uc, cu, some ⟨gtA, 0, none⟩, tc, (ts.set k { t.put e with ready := true }), some ⟨gsA, 0, none⟩, sc, rs⟩ : Stm)) 5 L rfl (qen (ts' := ts.set k { t.put e with ready := true }) hlns (by rw [List.length_set]; exact hlt)) hsz (heq.1.2.2) (heq.1.1) (hrg) (by rw [hyS]; exact qdz _) (hsp) hcr (by show ((ct : Nat) : Int) < cp; omega) om)) ?_)
 rintro L _ w76 ⟨y2, rfl, hy2, HM2⟩
 refine ⟨_, rfl, _, (show Mem W w76 (.blk g9 #[vI ((t.put e).id), vI ((t.put e).group), vI ((t.put e).weight), vI ((t.put e).cpu), vQ ((t.put e).mask), .bool true, vQ ((t.put e).v), vW ((t.put e).r)] 81 :: .blk g8 y.cells 45 :: .blk g4 #[vI 0, vQ 0, vN, vN, vN, vN, vN] 45 :: .blk g3 o.cells 52 :: .blk g2 #[vI cp, vQ cr, .slice gA ng gc, .slice lA nl lc, .slice uA nu uc, vS gtA nt tc, vS gsA ns sc] 45 :: (stF y2 ++ (stF y ++ (T)))) from HM2), ?_⟩
 refine (JV si_st O2' (h1:=by exact q5 y2)) fun w13_7 => (Jp 2∘Jj∘JZ) fun a I L => ?_
 exact ret3 rfl I (.cellS (i := 2) I L rfl rfl si_st rfl) (.tmp I rfl) (.tmp I rfl) (OpOut.drop (A := stF y) (qjj (y := y2) 5 L rfl hy2 ((qkj (x := (⟨cp, cr, gA, gc, gs, lA, lc, cl, uA, uc, cu, some ⟨gtA, 0, none⟩, tc, ts, some ⟨gsA, 0, none⟩, sc, rs⟩ : Stm)) (decide_eq_true (by show 1 ≤ o.task ∧ o.task ≤ 65535; omega)) hk ht hnr hgt hct hwt hsy hew rfl).trans (by rw [hyS]))))
theorem qid (W w : World) (x : Stm) (ng nl nu nt ns : Nat) (hx : MdOk x ng nl nu nt ns) (T : List Fact) (L : Mem W w (sdA x ng nl nu nt ns ++ T)) (o : Op30) (ho : o.Ok) (hcur : ∀ c, c < x.cu.length → curOk x.sta c = true) :
    Calls Tryz.prog 72 #[.agg (sdC x ng nl nu nt ns), .agg o.cells] w (OpOut W T (qar x.sta o)) := by
 obtain ⟨cp, cr, gA, gc, gs, lA, lc, cl, uA, uc, cu, tA, tc, ts, sA, sc, rs⟩ := x
 replace L : Mem W w (fG gA ng gc gs :: fI lA nl lc cl :: fI uA nu uc cu :: fT tA nt tc ts :: fS sA ns sc rs :: (fR rs ++ (T))) := L
 have hln := hx.ln
 obtain ⟨hlg, hll, hlu, hlt, hls⟩ := hln
 replace hlg : gs.length = ng := hlg; replace hll : cl.length = nl := hll; replace hlu : cu.length = nu := hlu; replace hlt : ts.length = nt := hlt; replace hls : rs.length = ns := hls
 have hlns := hx.ln
 have hsp : SpsOk gs cp rs := hx.spots
 have hrg : rs.length = gs.length := hx.sh.rs
 have hcr : cr < 18446744073709551616 := hx.ok.credit
 obtain ⟨hcp1, hcp2, _, hgs⟩ := zj hx.sh.cfg
 replace hcp1 : 1 ≤ cp := hcp1; replace hcp2 : cp ≤ 64 := hcp2; replace hgs : gsOk gs = true := hgs
 have hgl1 := (qo hgs).1; have hgl2 := (qo hgs).2.1
 have hcll : (cl.length : Int) = cp := hx.sh.cl; have hcul : (cu.length : Int) = cp := hx.sh.cu
 have hfts : ts.length ≤ 1000000 := hx.few.t
 have hoc := ho.cpu; have hot := ho.task; have hog := ho.group; have how := ho.weight; have hoto := ho.to; have hotk := ho.ticks; have hom := ho.mask; have hok8 := ho.kind; unfold I64 at hoc hot hog how hoto hotk
 have hcuo := hx.ok.cu
 obtain ⟨guA, rfl⟩ := qi (L.own (i := 2) rfl) om
 show Calls Tryz.prog 72 #[.agg #[vI cp, vQ cr, .slice gA ng gc, .slice lA nl lc, vS guA nu uc, .slice tA nt tc, .slice sA ns sc], .agg o.cells] w _
 refine (Jin2 L Tryz.func72 61) ?_
 refine (JP∘JE) fun w2 g2 => (JE) fun w3 g3 => (JA #[vI 0, vQ 0, vN, vN, vN, vN, vN]) fun w4 g4 => (Jp 2∘Jj∘JQ∘JP∘Jg 1 O1∘Jp 2) (Ji (fun hd12 => ?_) fun hd12 => ?_)
 ·
  refine (Jp 7∘Jd6∘Jj∘JT∘JP∘Jy (v := .agg #[vI cp, vQ cr, .slice gA ng gc, .slice lA nl lc, vS guA nu uc, .slice tA nt tc, .slice sA ns sc]) (h:=by exact Yl.loadS rfl rfl si_st rfl (fun _ h => qa (h.blk (i := 2) rfl)))∘JV si_st O0') fun w2_1 => (Jp 2∘Jj∘JZ) fun a I L => ?_
  exact ret3 rfl I (.cellS (i := 0) I L rfl rfl si_st rfl) (.tmp I rfl) (.tmp I rfl) (qp (y := (⟨cp, cr, gA, gc, gs, lA, lc, cl, some ⟨guA, 0, none⟩, uc, cu, tA, tc, ts, sA, sc, rs⟩ : Stm)) 3 L rfl hlns (if_pos (decide_eq_false (by show ¬ (0 ≤ o.cpu ∧ o.cpu < cp); omega))))
 refine (Jg 1 O1∘Jf 0∘Jg 0 O2∘Jp 2∘Jd6∘Jj) (Ju (fun hb19 => ?_) fun hb19 => ?_)
 ·
  intro a I L
  have hd19 := of_decide_eq_true hb19
  refine Jb I L ((JT∘JP∘Jy (v := .agg #[vI cp, vQ cr, .slice gA ng gc, .slice lA nl lc, vS guA nu uc, .slice tA nt tc, .slice sA ns sc]) (h:=by exact Yl.loadS rfl rfl si_st rfl (fun _ h => qa (h.blk (i := 2) rfl)))∘JV si_st O0') fun w2_1 => (Jp 2∘Jj∘JZ) fun a I L => ?_)
  exact ret3 rfl I (.cellS (i := 0) I L rfl rfl si_st rfl) (.tmp I rfl) (.tmp I rfl) (qp (y := (⟨cp, cr, gA, gc, gs, lA, lc, cl, some ⟨guA, 0, none⟩, uc, cu, tA, tc, ts, sA, sc, rs⟩ : Stm)) 3 L rfl hlns (if_pos (decide_eq_false (by show ¬ (0 ≤ o.cpu ∧ o.cpu < cp); omega))))
 intro a I L
 have hd19 := of_decide_eq_false hb19
 obtain ⟨c, hcc⟩ : ∃ n : Nat, o.cpu = (n : Int) := ⟨o.cpu.toNat, by omega⟩
 have hccp : ((c : Nat) : Int) < cp := by omega
 obtain ⟨id, hid⟩ : ∃ z, cu.getD c 0 = z := ⟨_, rfl⟩
 have hidI : I64 id := by rw [← hid]; exact hcuo _ (qf 0 (by show c < cu.length; omega))
 unfold I64 at hidI
 refine Jb I L ((JF∘JS'∘JP∘Jg 4 O2∘Jf 1∘Jc O1∘Jo (vI c) (by rw [hcc])∘Jy (h:=by exact Yl.ix0 guA c 1 rfl rfl rfl)∘Jy (v := vI (cu.getD c 0)) (h:=by exact Yl.r1 5 c 0 om rfl rfl rfl)∘Jo (vI id) (by rw [hid])∘Jp 1∘Jd5∘Jj∘JQ∘JP∘Jp 2∘Jd1∘Jj) (Ju (fun hb28 => ?_) fun hb28 => ?_))
 ·
  intro a I L
  have hd28 := eq_of_beq hb28
  refine Jb I L ((JT∘JP∘Jy (v := .agg #[vI cp, vQ cr, .slice gA ng gc, .slice lA nl lc, vS guA nu uc, .slice tA nt tc, .slice sA ns sc]) (h:=by exact Yl.loadS rfl rfl si_st rfl (fun _ h => qa (h.blk (i := 2) rfl)))∘JV si_st O0') fun w5_1 => (Jp 2∘Jj∘JZ) fun a I L => ?_)
  exact ret3 rfl I (.cellS (i := 0) I L rfl rfl si_st rfl) (.tmp I rfl) (.tmp I rfl) (qp (y := (⟨cp, cr, gA, gc, gs, lA, lc, cl, some ⟨guA, 0, none⟩, uc, cu, tA, tc, ts, sA, sc, rs⟩ : Stm)) 3 L rfl hlns ((if_neg (nf (decide_eq_true (by show 0 ≤ o.cpu ∧ o.cpu < cp; omega)))).trans (if_pos (by show cu.getD o.cpu.toNat 0 = 0; rw [hcc, Int.toNat_natCast, hid]; exact hd28))))
 intro a I L
 have hd28 := ne_of_beq_false hb28
 have hid0 : id ≠ 0 := by omega
 have hcuk := qeq (x := (⟨cp, cr, gA, gc, gs, lA, lc, cl, some ⟨guA, 0, none⟩, uc, cu, tA, tc, ts, sA, sc, rs⟩ : Stm)) (hcur c (by show c < cu.length; omega)) (by show cu.getD c 0 ≠ 0; rw [hid]; exact hid0)
 rw [show (⟨cp, cr, gA, gc, gs, lA, lc, cl, some ⟨guA, 0, none⟩, uc, cu, tA, tc, ts, sA, sc, rs⟩ : Stm).cu.getD c 0 = id from hid] at hcuk
 obtain ⟨k, t, hk, ht, hkl, hkid⟩ := hcuk
 replace hk : fidx ts id = (k : Int) := hk; replace ht : ts[k]? = some t := ht; replace hkl : k < ts.length := hkl
 revert L; revert a; repeat (first | clear I | clear L)
 intro a I L
 obtain ⟨gtA, rfl⟩ := qi (L.own (i := 6) rfl) (Nat.lt_of_le_of_lt (Nat.zero_le _) (show k < nt from (by omega : k < nt)))
 have htcap : nt ≤ tc := qv0 (L.own (i := 6) rfl)
 refine Jb I L ((JF∘JS'∘JP∘Jy (v := .agg #[vI cp, vQ cr, .slice gA ng gc, .slice lA nl lc, vS guA nu uc, vS gtA nt tc, .slice sA ns sc]) (h:=by exact Yl.loadS rfl rfl si_st rfl (fun _ h => qa (h.blk (i := 2) rfl)))∘Jp 1∘JI (h:=by exact fun L => qs0 (x := (⟨cp, cr, gA, gc, gs, lA, lc, cl, some ⟨guA, 0, none⟩, uc, cu, some ⟨gtA, 0, none⟩, tc, ts, sA, sc, rs⟩ : Stm)) hlns (L.sdRd 3 rfl hlns) hfts id k hk)) fun w32 hbw => (Jp 1∘Jd3∘Jr∘Jg 4 O2∘Jf 1∘Jc O1∘Jo (vI c) (by rw [hcc])∘Jy (h:=by exact Yl.ix0 guA c 1 rfl rfl rfl)) fun a I L => ?_)
 refine fo I 5 rfl rfl ?_
 refine qk I L (i := 5) rfl rfl rfl rfl kr rfl rfl (by rw [List.length_map]; omega) ?_
 clear L; intro w7_5 L
 replace L := L.asRow (i := 5) (ys := (cu.set c 0).map I64i) rfl (zt I64i cu c 0 om)
 refine Jb I L ((Jt4∘Jr∘Jg 5 O2∘Jp 1∘Jy (h:=by exact Yl.ix0 gtA k 8 rfl rfl rfl)∘Jf 5) fun a I L => ?_)
 refine fo I 5 rfl rfl ?_
 refine qk I L (i := 6) rfl rfl rfl rfl kr rfl rfl (by rw [qy tkL 8 qd]; omega) ?_
 clear L; intro w8_5 L
 replace L := L.asRow (i := 6) (ys := (ts.set k { t with ready := false }).flatMap tkL) rfl (qw tkL 8 qd ts k t { t with ready := false } ht 5 de _ rfl)
 refine Jb I L ((Jt4∘Jj∘JQ∘JP∘Jg 0 O1∘Jp 1∘Jd1∘Jj) (Je (fun hd45 => ?_) fun hd45 => ?_))
 ·
  refine (JT∘Vs .n [13]) fun wd10 => (Vf 1 5∘Vp [3]∘Vf 6 5∘Vp [8]∘Vc 2 O2∘Vy 4 (h:=by exact Yl.qa0 ei_tk (j := k) rfl rfl rfl om)∘Vc 7 O2∘VaK 9 1∘Vy 10 (h:=by exact Yl.sliceFrom ei_tk (j := (k + 1)) rfl rfl rfl om)) fun a I L HS => ?_
  refine s_on I 0 rfl ?_
  refine zr I L rfl ei_tk rfl de ?_
  clear I L; intro a w46 g46 I L
  refine keepS (L.pt 9 [1, 2, 3, 4, 5, 6, 7, 8]) (fun HS => ?_)
  refine s_on I 5 rfl (q6 I L (i := 0) rfl ei_tk rfl rfl rfl (news := (((ts.set k { t with ready := false }).take k).flatMap tkL)) (Rd.qtn qd (tsRd (l := (ts.set k { t with ready := false })) (by rw [List.length_set]; exact hlt) (L.rd (i := 7) rfl)) (by rw [List.length_set]; omega)) (qaz _) om om rfl de ?_)
  clear I L; intro a w51 A51 c51 I L hc51
  refine keepS (L.pt 9 [1, 2, 3, 4, 5, 6, 7, 8]) (fun HS => ?_)
  refine s_on I 11 rfl (q6 I L (i := 0) rfl ei_tk rfl rfl rfl (news := (((ts.set k { t with ready := false }).drop (k + 1)).flatMap tkL)) (qn1 qd (tsRd (l := (ts.set k { t with ready := false })) (by rw [List.length_set]; exact hlt) (L.rd (i := 7) rfl)) (by rw [List.length_set]; omega) (by rw [List.length_set]; omega) (by rw [List.length_set]; omega)) (qaz _) om om rfl de ?_)
  clear I L; intro a w57 A57 c57 I L hc57
  refine keepS (L.pt 9 [1, 2, 3, 4, 5, 6, 7, 8]) (fun HS => ?_)
  refine Vb I L HS ((Vf 12 5) fun a I L HS => ?_)
  refine s_on I 13 rfl (s_es I L 3 ?_)
  clear L; intro w10_13 L
  refine noS kr ?_
  refine qb kr ?_
  replace L : Mem W _ (.row (.slice A57 ((0 + k) + (nt - (k + 1))) c57) ((0 + k) + (nt - (k + 1))) (([] ++ (((ts.set k { t with ready := false }).take k).flatMap tkL)) ++ (((ts.set k { t with ready := false }).drop (k + 1)).flatMap tkL)) 81 8 :: .blk g4 #[vI 0, vQ 0, vN, vN, vN, vN, vN] 45 :: .blk g3 o.cells 52 :: .blk g2 #[vI cp, vQ cr, .slice gA ng gc, .slice lA nl lc, vS guA nu uc, .slice A57 ((0 + k) + (nt - (k + 1))) c57, .slice sA ns sc] 45 :: fG gA ng gc gs :: fI lA nl lc cl :: fI (some ⟨guA, 0, none⟩) nu uc (cu.set c 0) :: fT (some ⟨gtA, 0, none⟩) nt tc (ts.set k { t with ready := false }) :: fS sA ns sc rs :: (fR rs ++ (T))) := L
  have hn57 : 0 + k + (nt - (k + 1)) = nt - 1 := by omega
  rw [hn57] at L hc57
  replace L := L.asRow (i := 0) (ys := ((ts.set k { t with ready := false }).eraseIdx k).flatMap tkL) rfl (by rw [List.nil_append]; exact qnl (by rw [List.length_set]; omega))
  refine Jb I L ((JG∘JP∘Jy (v := .agg #[vI cp, vQ cr, .slice gA ng gc, .slice lA nl lc, vS guA nu uc, .slice A57 (nt - 1) c57, .slice sA ns sc]) (h:=by exact Yl.loadS rfl rfl si_st rfl (fun _ h => qa (h.blk (i := 3) rfl)))∘Jp 1∘JV si_st O1') fun w11_2 => (Jp 2∘Jj∘JZ) fun a I L => ?_)
  exact ret3 rfl I (.cellS (i := 1) I L rfl rfl si_st rfl) (.tmp I rfl) (.tmp I rfl) (qp (y := (⟨cp, cr, gA, gc, gs, lA, lc, cl, some ⟨guA, 0, none⟩, uc, (cu.set c 0), A57, c57, ((ts.set k { t with ready := false }).eraseIdx k), sA, sc, rs⟩ : Stm)) 0 (L.pt 9 [4, 5, 6, 0, 8]) rfl ⟨hlg, hll, by show (cu.set c 0).length = nu; rw [List.length_set]; exact hlu, by show ((ts.set k { t with ready := false }).eraseIdx k).length = nt - 1; rw [List.length_eraseIdx_of_lt (by rw [List.length_set]; omega), List.length_set, hlt], hls⟩ (qnm (x := (⟨cp, cr, gA, gc, gs, lA, lc, cl, some ⟨guA, 0, none⟩, uc, cu, some ⟨gtA, 0, none⟩, tc, ts, sA, sc, rs⟩ : Stm)) (decide_eq_true (by show 0 ≤ o.cpu ∧ o.cpu < cp; omega)) hcc hid hid0 hk ht om))
 refine (JF∘JS'∘JP∘Jy (v := .agg #[vI cp, vQ cr, .slice gA ng gc, .slice lA nl lc, vS guA nu uc, vS gtA nt tc, .slice sA ns sc]) (h:=by exact Yl.loadS rfl rfl si_st rfl (fun _ h => qa (h.blk (i := 2) rfl)))∘Jp 1∘JV si_st O0') fun w11_2 => (Jp 2∘Jj∘JZ) fun a I L => ?_
 exact ret3 rfl I (.cellS (i := 0) I L rfl rfl si_st rfl) (.tmp I rfl) (.tmp I rfl) (qp (y := (⟨cp, cr, gA, gc, gs, lA, lc, cl, some ⟨guA, 0, none⟩, uc, (cu.set c 0), some ⟨gtA, 0, none⟩, tc, (ts.set k { t with ready := false }), sA, sc, rs⟩ : Stm)) 3 L rfl ⟨hlg, hll, by show (cu.set c 0).length = nu; rw [List.length_set]; exact hlu, by show (ts.set k { t with ready := false }).length = nt; rw [List.length_set]; exact hlt, hls⟩ (qh1 (x := (⟨cp, cr, gA, gc, gs, lA, lc, cl, some ⟨guA, 0, none⟩, uc, cu, some ⟨gtA, 0, none⟩, tc, ts, sA, sc, rs⟩ : Stm)) (decide_eq_true (by show 0 ≤ o.cpu ∧ o.cpu < cp; omega)) hcc hid hid0 hk ht om))
theorem qlb (W w : World) (x : Stm) (ng nl nu nt ns : Nat) (hx : MdOk x ng nl nu nt ns) (T : List Fact) (L : Mem W w (sdA x ng nl nu nt ns ++ T)) (o : Op30) (ho : o.Ok) :
    Calls Tryz.prog 75 #[.agg (sdC x ng nl nu nt ns), .agg o.cells] w (OpOut W T (qaj x.sta o)) := by
 obtain ⟨cp, cr, gA, gc, gs, lA, lc, cl, uA, uc, cu, tA, tc, ts, sA, sc, rs⟩ := x
 replace L : Mem W w (fG gA ng gc gs :: fI lA nl lc cl :: fI uA nu uc cu :: fT tA nt tc ts :: fS sA ns sc rs :: (fR rs ++ (T))) := L
 have hln := hx.ln
 obtain ⟨hlg, hll, hlu, hlt, hls⟩ := hln
 replace hlg : gs.length = ng := hlg; replace hll : cl.length = nl := hll; replace hlu : cu.length = nu := hlu; replace hlt : ts.length = nt := hlt; replace hls : rs.length = ns := hls
 have hlns := hx.ln
 have hsp : SpsOk gs cp rs := hx.spots
 have hrg : rs.length = gs.length := hx.sh.rs
 have hcr : cr < 18446744073709551616 := hx.ok.credit
 obtain ⟨hcp1, hcp2, _, hgs⟩ := zj hx.sh.cfg
 replace hcp1 : 1 ≤ cp := hcp1; replace hcp2 : cp ≤ 64 := hcp2; replace hgs : gsOk gs = true := hgs
 have hgl1 := (qo hgs).1; have hgl2 := (qo hgs).2.1
 have hcll : (cl.length : Int) = cp := hx.sh.cl; have hcul : (cu.length : Int) = cp := hx.sh.cu
 have hfts : ts.length ≤ 1000000 := hx.few.t
 have hoc := ho.cpu; have hot := ho.task; have hog := ho.group; have how := ho.weight; have hoto := ho.to; have hotk := ho.ticks; have hom := ho.mask; have hok8 := ho.kind; unfold I64 at hoc hot hog how hoto hotk
 show Calls Tryz.prog 75 #[.agg #[vI cp, vQ cr, .slice gA ng gc, .slice lA nl lc, .slice uA nu uc, .slice tA nt tc, .slice sA ns sc], .agg o.cells] w _
 refine (Jin2 L Tryz.func75 74) ?_
 refine (JP∘JE) fun w2 g2 => (JE) fun w3 g3 => (JA #[vI 0, vQ 0, vN, vN, vN, vN, vN]) fun w4 g4 => (Jp 2∘Jj∘JQ∘JB∘JP∘Jg 5 O1∘Jp 2) (Ji (fun hd12 => ?_) fun hd12 => ?_)
 ·
  refine (Jv 8 [(8, .bool true)]∘Jd3∘Jj∘JT∘JP∘Jy (v := .agg #[vI cp, vQ cr, .slice gA ng gc, .slice lA nl lc, .slice uA nu uc, .slice tA nt tc, .slice sA ns sc]) (h:=by exact Yl.loadS rfl rfl si_st rfl (fun _ h => qa (h.blk (i := 2) rfl)))∘JV si_st O0') fun w2_1 => (Jp 2∘Jj∘JZ) fun a I L => ?_
  exact ret3 rfl I (.cellS (i := 0) I L rfl rfl si_st rfl) (.tmp I rfl) (.tmp I rfl) (qp (y := (⟨cp, cr, gA, gc, gs, lA, lc, cl, uA, uc, cu, tA, tc, ts, sA, sc, rs⟩ : Stm)) 3 L rfl hlns (if_pos (decide_eq_false (by show ¬ (0 ≤ o.to ∧ o.to < cp); omega))))
 refine (Jg 5 O1∘Jf 0∘Jg 0 O2∘Jp 3∘Jd6∘Jj) (Ju (fun hb8 => ?_) fun hb8 => ?_)
 ·
  intro a I L
  have hd8 := of_decide_eq_true hb8
  refine Jb I L ((JT∘JP∘Jy (v := .agg #[vI cp, vQ cr, .slice gA ng gc, .slice lA nl lc, .slice uA nu uc, .slice tA nt tc, .slice sA ns sc]) (h:=by exact Yl.loadS rfl rfl si_st rfl (fun _ h => qa (h.blk (i := 2) rfl)))∘JV si_st O0') fun w2_1 => (Jp 2∘Jj∘JZ) fun a I L => ?_)
  exact ret3 rfl I (.cellS (i := 0) I L rfl rfl si_st rfl) (.tmp I rfl) (.tmp I rfl) (qp (y := (⟨cp, cr, gA, gc, gs, lA, lc, cl, uA, uc, cu, tA, tc, ts, sA, sc, rs⟩ : Stm)) 3 L rfl hlns (if_pos (decide_eq_false (by show ¬ (0 ≤ o.to ∧ o.to < cp); omega))))
 intro a I L
 have hd8 := of_decide_eq_false hb8
 obtain ⟨c, hcc⟩ : ∃ n : Nat, o.to = (n : Int) := ⟨o.to.toNat, by omega⟩
 have hccp : ((c : Nat) : Int) < cp := by omega
 refine Jb I L ((JF∘JP∘Jg 2 O1∘Jp 2) (Ji (fun hd25 => ?_) fun hd25 => ?_))
 ·
  refine (Jp 5∘Jd6∘Jj∘JT∘JP∘Jy (v := .agg #[vI cp, vQ cr, .slice gA ng gc, .slice lA nl lc, .slice uA nu uc, .slice tA nt tc, .slice sA ns sc]) (h:=by exact Yl.loadS rfl rfl si_st rfl (fun _ h => qa (h.blk (i := 2) rfl)))∘JV si_st O0') fun w4_1 => (Jp 2∘Jj∘JZ) fun a I L => ?_
  exact ret3 rfl I (.cellS (i := 0) I L rfl rfl si_st rfl) (.tmp I rfl) (.tmp I rfl) (qp (y := (⟨cp, cr, gA, gc, gs, lA, lc, cl, uA, uc, cu, tA, tc, ts, sA, sc, rs⟩ : Stm)) 3 L rfl hlns ((if_neg (nf (decide_eq_true (by show 0 ≤ o.to ∧ o.to < cp; omega)))).trans (if_pos (decide_eq_false (by show ¬ (1 ≤ o.task ∧ o.task ≤ 65535); omega)))))
 refine (Jg 2 O1∘Jp 3∘Jd6∘Jj) (Ji (fun hd21 => ?_) fun hd21 => ?_)
 ·
  refine (JT∘JP∘Jy (v := .agg #[vI cp, vQ cr, .slice gA ng gc, .slice lA nl lc, .slice uA nu uc, .slice tA nt tc, .slice sA ns sc]) (h:=by exact Yl.loadS rfl rfl si_st rfl (fun _ h => qa (h.blk (i := 2) rfl)))∘JV si_st O0') fun w4_1 => (Jp 2∘Jj∘JZ) fun a I L => ?_
  exact ret3 rfl I (.cellS (i := 0) I L rfl rfl si_st rfl) (.tmp I rfl) (.tmp I rfl) (qp (y := (⟨cp, cr, gA, gc, gs, lA, lc, cl, uA, uc, cu, tA, tc, ts, sA, sc, rs⟩ : Stm)) 3 L rfl hlns ((if_neg (nf (decide_eq_true (by show 0 ≤ o.to ∧ o.to < cp; omega)))).trans (if_pos (decide_eq_false (by show ¬ (1 ≤ o.task ∧ o.task ≤ 65535); omega)))))
 refine (JF∘JS'∘JP∘Jy (v := .agg #[vI cp, vQ cr, .slice gA ng gc, .slice lA nl lc, .slice uA nu uc, .slice tA nt tc, .slice sA ns sc]) (h:=by exact Yl.loadS rfl rfl si_st rfl (fun _ h => qa (h.blk (i := 2) rfl)))∘Jg 2 O1∘JI (h:=by exact fun L => qer (x := (⟨cp, cr, gA, gc, gs, lA, lc, cl, uA, uc, cu, tA, tc, ts, sA, sc, rs⟩ : Stm)) hlns (L.sdRd 3 rfl hlns) hfts o.task)) fun w34 hbw => (Jp 1∘Jd3∘Jj∘JQ∘JB∘JP∘Jp 3∘Jd2∘Jj) (Ju (fun hb35 => ?_) fun hb35 => ?_)
 ·
  intro a I L
  have hd35 := of_decide_eq_true hb35
  refine Jb I L ((JT∘JP∘Jy (v := .agg #[vI cp, vQ cr, .slice gA ng gc, .slice lA nl lc, .slice uA nu uc, .slice tA nt tc, .slice sA ns sc]) (h:=by exact Yl.loadS rfl rfl si_st rfl (fun _ h => qa (h.blk (i := 2) rfl)))∘JV si_st O0') fun w7_1 => (Jp 2∘Jj∘JZ) fun a I L => ?_)
  exact ret3 rfl I (.cellS (i := 0) I L rfl rfl si_st rfl) (.tmp I rfl) (.tmp I rfl) (qp (y := (⟨cp, cr, gA, gc, gs, lA, lc, cl, uA, uc, cu, tA, tc, ts, sA, sc, rs⟩ : Stm)) 3 L rfl hlns ((if_neg (nf (decide_eq_true (by show 0 ≤ o.to ∧ o.to < cp; omega)))).trans ((if_neg (nf (decide_eq_true (by show 1 ≤ o.task ∧ o.task ≤ 65535; omega)))).trans (if_pos (hd35)))))
 intro a I L
 have hd35 := of_decide_eq_false hb35
 obtain ⟨k, t, hk, ht, hkl, hkid⟩ := qco hd35
 replace hk : fidx ts o.task = (k : Int) := hk; replace ht : ts[k]? = some t := ht; replace hkl : k < ts.length := hkl
 obtain ⟨htg, hto⟩ := hx.task ht
 have hti := htg.id; have htgr := htg.group; have htc := htg.cpu; have htw := htg.weight; have htv := hto.v; have htr := hto.r; have htm := hto.mask
 replace htc : 0 ≤ t.cpu ∧ t.cpu < cp := htc
 obtain ⟨gt, hgt⟩ : ∃ n : Nat, t.group = (n : Int) := ⟨t.group.toNat, by omega⟩
 obtain ⟨ct, hct⟩ : ∃ n : Nat, t.cpu = (n : Int) := ⟨t.cpu.toNat, by omega⟩
 obtain ⟨wt, hwt⟩ : ∃ n : Nat, t.weight = (n : Int) := ⟨t.weight.toNat, by omega⟩
 have hEo : (⟨t.v, t.r, wt⟩ : En).Ok := En.qdf htg.ent hwt htv
 revert L; revert a; repeat (first | clear I | clear L)
 intro a I L
 obtain ⟨gtA, rfl⟩ := qi (L.own (i := 6) rfl) (Nat.lt_of_le_of_lt (Nat.zero_le _) (show k < nt from (by omega : k < nt)))
 have hbm := Nat.div_le_self t.mask (2 ^ c)
 refine Jb I L ((JF∘JP∘Jy (v := .agg #[vI cp, vQ cr, .slice gA ng gc, .slice lA nl lc, .slice uA nu uc, vS gtA nt tc, .slice sA ns sc]) (h:=by exact Yl.loadS rfl rfl si_st rfl (fun _ h => qa (h.blk (i := 2) rfl)))∘Jg 2 O1∘JI (h:=by exact fun L => qg8 (x := (⟨cp, cr, gA, gc, gs, lA, lc, cl, uA, uc, cu, some ⟨gtA, 0, none⟩, tc, ts, sA, sc, rs⟩ : Stm)) hlns (L.sdRd 3 rfl hlns) hx.few.u o.task)) fun w43 hbw => (Jp 1∘Jd3∘Jj) (Ji (fun hd39 => ?_) fun hd39 => ?_))
 ·
  refine (JT∘JP∘Jy (v := .agg #[vI cp, vQ cr, .slice gA ng gc, .slice lA nl lc, .slice uA nu uc, vS gtA nt tc, .slice sA ns sc]) (h:=by exact Yl.loadS rfl rfl si_st rfl (fun _ h => qa (h.blk (i := 2) rfl)))∘JV si_st O0') fun w9_1 => (Jp 2∘Jj∘JZ) fun a I L => ?_
  exact ret3 rfl I (.cellS (i := 0) I L rfl rfl si_st rfl) (.tmp I rfl) (.tmp I rfl) (qp (y := (⟨cp, cr, gA, gc, gs, lA, lc, cl, uA, uc, cu, some ⟨gtA, 0, none⟩, tc, ts, sA, sc, rs⟩ : Stm)) 3 L rfl hlns ((if_neg (nf (decide_eq_true (by show 0 ≤ o.to ∧ o.to < cp; omega)))).trans ((if_neg (nf (decide_eq_true (by show 1 ≤ o.task ∧ o.task ≤ 65535; omega)))).trans ((if_neg (hd35)).trans (if_pos (hd39))))))
 refine (JF) fun a I L => ?_
 refine wp_seq ?_
 refine Jb I L ((Vs .n []) fun wd10 => (Vf 0 5∘Vf 6 5∘Vc 1 O2∘Vp [2]∘Vo (vI k) (by rw [hk])∘Vy 3 (h:=by exact Yl.ix0 gtA k 8 rfl rfl rfl)∘Vf 4 3∘Vy 5 (v := vI t.cpu) (h:=by exact Yl.qh rfl rfl kr (fun _ h => h.qv qd (i := 6) rfl (k := k) (off := 3) (x := t) (ht) rfl))∘Vc 7 O1∘Vo (vI c) (by rw [hcc])∘Vp [8, 9]∘Vd∘Jd6) (Je (fun hd45 => ?_) fun hd45 => ?_))
 ·
  refine (JT∘JP∘Jy (v := .agg #[vI cp, vQ cr, .slice gA ng gc, .slice lA nl lc, .slice uA nu uc, vS gtA nt tc, .slice sA ns sc]) (h:=by exact Yl.loadS rfl rfl si_st rfl (fun _ h => qa (h.blk (i := 2) rfl)))∘JV si_st O0') fun w11_1 => (Jp 2∘Jj∘JZ) fun a I L => ?_
  exact ret3 rfl I (.cellS (i := 0) I L rfl rfl si_st rfl) (.tmp I rfl) (.tmp I rfl) (qp (y := (⟨cp, cr, gA, gc, gs, lA, lc, cl, uA, uc, cu, some ⟨gtA, 0, none⟩, tc, ts, sA, sc, rs⟩ : Stm)) 3 L rfl hlns ((if_neg (nf (decide_eq_true (by show 0 ≤ o.to ∧ o.to < cp; omega)))).trans ((if_neg (nf (decide_eq_true (by show 1 ≤ o.task ∧ o.task ≤ 65535; omega)))).trans ((if_neg (hd35)).trans ((if_neg (hd39)).trans (if_pos (by rw [qao (s := Stm.sta (⟨cp, cr, gA, gc, gs, lA, lc, cl, uA, uc, cu, some ⟨gtA, 0, none⟩, tc, ts, sA, sc, rs⟩ : Stm)) hk ht]; omega)))))))
 refine (JF) fun a I L => ?_
 refine wp_seq ?_
 refine Jb I L ((Vs .n []) fun wd12 => (Vf 0 5∘Vf 6 5∘Vc 1 O2∘Vp [2]∘Vo (vI k) (by rw [hk])∘Vy 3 (h:=by exact Yl.ix0 gtA k 8 rfl rfl rfl)∘Vf 4 4∘Vy 5 (v := vQ t.mask) (h:=by exact Yl.qh rfl rfl kr (fun _ h => h.qv qd (i := 6) rfl (k := k) (off := 4) (x := t) (ht) rfl))∘Vc 7 O1∘Vo (vI c) (by rw [hcc])∘Vy 8 (v := vQ (t.mask / 2 ^ c : Nat)) (h:=by exact Yl.shrN (m := t.mask) (n := c) rfl rfl rfl (by show _ ≤ 64; omega))∘Vp [9]∘Vo (vQ ((t.mask / 2 ^ c) % 2 : Nat)) (by exact qav .u64 _ 2)∘Vp [10, 11]∘Vd∘Jd6) (Je (fun hd56 => ?_) fun hd56 => ?_))
 ·
  refine (JT∘JP∘Jy (v := .agg #[vI cp, vQ cr, .slice gA ng gc, .slice lA nl lc, .slice uA nu uc, vS gtA nt tc, .slice sA ns sc]) (h:=by exact Yl.loadS rfl rfl si_st rfl (fun _ h => qa (h.blk (i := 2) rfl)))∘JV si_st O0') fun w13_1 => (Jp 2∘Jj∘JZ) fun a I L => ?_
  exact ret3 rfl I (.cellS (i := 0) I L rfl rfl si_st rfl) (.tmp I rfl) (.tmp I rfl) (qp (y := (⟨cp, cr, gA, gc, gs, lA, lc, cl, uA, uc, cu, some ⟨gtA, 0, none⟩, tc, ts, sA, sc, rs⟩ : Stm)) 3 L rfl hlns ((if_neg (nf (decide_eq_true (by show 0 ≤ o.to ∧ o.to < cp; omega)))).trans ((if_neg (nf (decide_eq_true (by show 1 ≤ o.task ∧ o.task ≤ 65535; omega)))).trans ((if_neg (hd35)).trans ((if_neg (hd39)).trans ((if_neg (by rw [qao (s := Stm.sta (⟨cp, cr, gA, gc, gs, lA, lc, cl, uA, uc, cu, some ⟨gtA, 0, none⟩, tc, ts, sA, sc, rs⟩ : Stm)) hk ht]; omega)).trans (if_pos (by rw [qao (s := Stm.sta (⟨cp, cr, gA, gc, gs, lA, lc, cl, uA, uc, cu, some ⟨gtA, 0, none⟩, tc, ts, sA, sc, rs⟩ : Stm)) hk ht]; exact qns rfl hcc om))))))))
 refine (JF∘JS'∘JP∘Jy (v := .agg #[vI cp, vQ cr, .slice gA ng gc, .slice lA nl lc, .slice uA nu uc, vS gtA nt tc, .slice sA ns sc]) (h:=by exact Yl.loadS rfl rfl si_st rfl (fun _ h => qa (h.blk (i := 2) rfl)))∘Jp 1∘Jo (vI k) (by rw [hk])∘Jf 5∘Jc O1∘Jo (vI c) (by rw [hcc])∘JL (h:=by exact fun L => qfq 3 L rfl hx k c t ht om)) ?_
 rintro L _ w73 ⟨y2, rfl, hy2, HM2⟩
 refine ⟨_, rfl, _, (show Mem W w73 (.blk g4 #[vI 0, vQ 0, vN, vN, vN, vN, vN] 45 :: .blk g3 o.cells 52 :: .blk g2 #[vI cp, vQ cr, .slice gA ng gc, .slice lA nl lc, .slice uA nu uc, vS gtA nt tc, .slice sA ns sc] 45 :: (stF y2 ++ (T))) from HM2), ?_⟩
 refine (JV si_st O0' (h1:=by exact q5 y2)) fun w14_5 => (Jp 2∘Jj∘JZ) fun a I L => ?_
 exact ret3 rfl I (.cellS (i := 0) I L rfl rfl si_st rfl) (.tmp I rfl) (.tmp I rfl) (qjj (y := y2) 3 L rfl hy2 ((qgm (x := (⟨cp, cr, gA, gc, gs, lA, lc, cl, uA, uc, cu, some ⟨gtA, 0, none⟩, tc, ts, sA, sc, rs⟩ : Stm)) (decide_eq_true (by show 0 ≤ o.to ∧ o.to < cp; omega)) (decide_eq_true (by show 1 ≤ o.task ∧ o.task ≤ 65535; omega)) hk ht hd39 om (qgv hcc om)).trans (by rw [hcc])))
theorem qfb (x e : En) (hx : x.Ok) (d : Nat) (hd : d ≤ 4294967295) (he : x.add d = e) (w : World) : Calls Tryz.prog 116 #[.agg x.cells, vI d] w (Is w (.tuple #[.agg e.cells, vI 0])) := he ▸ qu2 x hx d hd w
theorem qie (W w : World) (x : Stm) (ng nl nu nt ns : Nat) (hx : MdOk x ng nl nu nt ns) (T : List Fact) (L : Mem W w (sdA x ng nl nu nt ns ++ T)) (o : Op30) (ho : o.Ok) :
    Calls Tryz.prog 74 #[.agg (sdC x ng nl nu nt ns), .agg o.cells] w (OpOut W T (if o.kind = 8 then qad x.sta o else zx x.sta o)) := by
 obtain ⟨cp, cr, gA, gc, gs, lA, lc, cl, uA, uc, cu, tA, tc, ts, sA, sc, rs⟩ := x
 replace L : Mem W w (fG gA ng gc gs :: fI lA nl lc cl :: fI uA nu uc cu :: fT tA nt tc ts :: fS sA ns sc rs :: (fR rs ++ (T))) := L
 have hln := hx.ln
 obtain ⟨hlg, hll, hlu, hlt, hls⟩ := hln
 replace hlg : gs.length = ng := hlg; replace hll : cl.length = nl := hll; replace hlu : cu.length = nu := hlu; replace hlt : ts.length = nt := hlt; replace hls : rs.length = ns := hls
 have hlns := hx.ln
 have hsp : SpsOk gs cp rs := hx.spots
 have hrg : rs.length = gs.length := hx.sh.rs
 have hcr : cr < 18446744073709551616 := hx.ok.credit
 obtain ⟨hcp1, hcp2, _, hgs⟩ := zj hx.sh.cfg
 replace hcp1 : 1 ≤ cp := hcp1; replace hcp2 : cp ≤ 64 := hcp2; replace hgs : gsOk gs = true := hgs
 have hgl1 := (qo hgs).1; have hgl2 := (qo hgs).2.1
 have hcll : (cl.length : Int) = cp := hx.sh.cl; have hcul : (cu.length : Int) = cp := hx.sh.cu
 have hfts : ts.length ≤ 1000000 := hx.few.t
 have hoc := ho.cpu; have hot := ho.task; have hog := ho.group; have how := ho.weight; have hoto := ho.to; have hotk := ho.ticks; have hom := ho.mask; have hok8 := ho.kind; unfold I64 at hoc hot hog how hoto hotk
 obtain ⟨ggA, rfl⟩ := qi (L.own (i := 0) rfl) om
 obtain ⟨gsA, rfl⟩ := qi (L.own (i := 4) rfl) om
 show Calls Tryz.prog 74 #[.agg #[vI cp, vQ cr, vS ggA ng gc, .slice lA nl lc, .slice uA nu uc, .slice tA nt tc, vS gsA ns sc], .agg o.cells] w _
 refine (Jin2 L Tryz.func74 90) ?_
 refine (JP∘JE) fun w2 g2 => (JE) fun w3 g3 => (JA #[vI 0, vQ 0, vN, vN, vN, vN, vN]) fun w4 g4 => (Jp 2∘Jj∘JQ∘JP∘Jg 0 O1∘Jp 1∘Jd1∘Jj) (Je (fun hd11 => ?_) fun hd11 => ?_)
 ·
  refine (JT∘JQ∘JP∘Jg 3 O1∘Jp 2) (Ji (fun hd15 => ?_) fun hd15 => ?_)
  ·
   refine (Jv 8 [(23, .bool true)]∘Jd3∘Jj∘JT∘JP∘Jy (v := .agg #[vI cp, vQ cr, vS ggA ng gc, .slice lA nl lc, .slice uA nu uc, .slice tA nt tc, vS gsA ns sc]) (h:=by exact Yl.loadS rfl rfl si_st rfl (fun _ h => qa (h.blk (i := 2) rfl)))∘JV si_st O0') fun w3_1 => (Jp 2∘Jj∘JZ) fun a I L => ?_
   exact ret3 rfl I (.cellS (i := 0) I L rfl rfl si_st rfl) (.tmp I rfl) (.tmp I rfl) (qp (y := (⟨cp, cr, some ⟨ggA, 0, none⟩, gc, gs, lA, lc, cl, uA, uc, cu, tA, tc, ts, some ⟨gsA, 0, none⟩, sc, rs⟩ : Stm)) 3 L rfl hlns ((if_pos om).trans (if_pos (by show ¬ (1 ≤ o.group ∧ o.group < ((rs.map Rw.l).length : Nat)); rw [List.length_map]; omega))))
  refine (Jg 3 O1∘Jf 0∘Jg 2 O2∘Jl∘Jp 2∘Jd6∘Jj) (Ji (fun hd23 => ?_) fun hd23 => ?_)
  ·
   refine (JT∘JP∘Jy (v := .agg #[vI cp, vQ cr, vS ggA ng gc, .slice lA nl lc, .slice uA nu uc, .slice tA nt tc, vS gsA ns sc]) (h:=by exact Yl.loadS rfl rfl si_st rfl (fun _ h => qa (h.blk (i := 2) rfl)))∘JV si_st O0') fun w3_1 => (Jp 2∘Jj∘JZ) fun a I L => ?_
   exact ret3 rfl I (.cellS (i := 0) I L rfl rfl si_st rfl) (.tmp I rfl) (.tmp I rfl) (qp (y := (⟨cp, cr, some ⟨ggA, 0, none⟩, gc, gs, lA, lc, cl, uA, uc, cu, tA, tc, ts, some ⟨gsA, 0, none⟩, sc, rs⟩ : Stm)) 3 L rfl hlns ((if_pos om).trans (if_pos (by show ¬ (1 ≤ o.group ∧ o.group < ((rs.map Rw.l).length : Nat)); rw [List.length_map]; omega))))
  refine (JF∘JS'∘JQ∘JP∘Jg 4 O1∘JL (h:=by exact fun L => qa8 o.weight _)) ?_
  rintro L _ w27 ⟨rfl, hbw⟩
  refine ⟨_, rfl, _, L.call hbw, ?_⟩
  refine (Jp 1∘Jd2∘Jj) (Ju (fun hb28 => ?_) fun hb28 => ?_)
  ·
   intro a I L
   have hd28 := of_decide_eq_false ((Bool.not_eq_true' _).mp hb28)
   refine Jb I L ((JT∘JP∘Jy (v := .agg #[vI cp, vQ cr, vS ggA ng gc, .slice lA nl lc, .slice uA nu uc, .slice tA nt tc, vS gsA ns sc]) (h:=by exact Yl.loadS rfl rfl si_st rfl (fun _ h => qa (h.blk (i := 2) rfl)))∘JV si_st O0') fun w5_1 => (Jp 2∘Jj∘JZ) fun a I L => ?_)
   exact ret3 rfl I (.cellS (i := 0) I L rfl rfl si_st rfl) (.tmp I rfl) (.tmp I rfl) (qp (y := (⟨cp, cr, some ⟨ggA, 0, none⟩, gc, gs, lA, lc, cl, uA, uc, cu, tA, tc, ts, some ⟨gsA, 0, none⟩, sc, rs⟩ : Stm)) 3 L rfl hlns ((if_pos om).trans ((if_neg (by show ¬ ¬ (1 ≤ o.group ∧ o.group < ((rs.map Rw.l).length : Nat)); rw [List.length_map]; omega)).trans (if_pos (decide_eq_false hd28)))))
  intro a I L
  have hd28 := of_decide_eq_true ((Bool.not_eq_false' _).mp hb28)
  have hgb : 1 ≤ o.group ∧ o.group < rs.length := by omega
  obtain ⟨g, hgg⟩ : ∃ n : Nat, o.group = (n : Int) := ⟨o.group.toNat, by omega⟩
  obtain ⟨⟨yA, yc, yl⟩, hy⟩ : ∃ y, rs.getD g Rw.zero = y := ⟨_, rfl⟩
  have hys := hsp g om; rw [hy] at hys
  have hyl : (yl.length : Int) = cp := hys.1
  obtain ⟨gr, hgr⟩ : ∃ z, gs[g]? = some z := ⟨_, List.getElem?_eq_getElem om⟩
  have hgrd := zc Gr.zero hgr
  revert L; revert a; repeat (first | clear I | clear L)
  intro a I L
  obtain ⟨gy, rfl⟩ := L.rwSome 8 rfl om hy om
  refine Jb I L ((JF∘JS'∘JP∘Jf 0∘Jg 2 O2∘Jf 3∘Jc O1∘Jo (vI g) (by rw [hgg])∘Jg 4 O1∘Jy (h:=by exact Yl.ix0 ggA g 2 rfl rfl rfl)∘Jf 1) fun a I L => ?_)
  refine fo I 9 rfl rfl ?_
  refine qk I L (i := 3) rfl rfl rfl rfl kr rfl rfl (by rw [qy grL 2 q0]; omega) ?_
  clear L; intro w6_9 L
  replace L := L.asRow (i := 3) (ys := (gs.set g { gr with weight := o.weight }).flatMap grL) rfl (qw grL 2 q0 gs g gr { gr with weight := o.weight } hgr 1 de _ rfl)
  refine Jb I L ((Jt6∘Jj∘JQ∘JP∘Jp 1∘Jd1∘Jj∘JB) fun a I L => ?_)
  refine qg (fun mS aS wS => ∃ (c : Nat) (rs2 : List Rw), (c ≤ yl.length) ∧ (rs2.length = ns) ∧ (rs2 = (rs.set g ⟨some ⟨gy, 0, none⟩, yc, upd r0 yl c⟩)) ∧ mS = yl.length - c ∧ Fr aS 90 [] [(7, vI c), (28, .bool false), (23, .bool false), (11, .bool true), (6, vI 0), (5, vI 0), (4, vP g4 0), (3, vP g3 0), (2, vP g2 0)] ∧ Mem W wS (.blk g4 #[vI 0, vQ 0, vN, vN, vN, vN, vN] 45 :: .blk g3 o.cells 52 :: .blk g2 #[vI cp, vQ cr, vS ggA ng gc, .slice lA nl lc, .slice uA nu uc, .slice tA nt tc, vS gsA ns sc] 45 :: fG (some ⟨ggA, 0, none⟩) ng gc (gs.set g { gr with weight := o.weight }) :: fI lA nl lc cl :: fI uA nu uc cu :: fT tA nt tc ts :: fS (some ⟨gsA, 0, none⟩) ns sc rs2 :: (fR rs2 ++ (T)))) (m := yl.length - 0) ⟨0, rs, Nat.zero_le _, hls, by rw [qnj, ← hy]; exact (qb3 _ om).symm, rfl, I.sub kr, L.pt 8 [0, 1, 2, 3, 4, 5, 6, 7]⟩ ?_
  clear I L; rintro mS a w_ ⟨c, rs2, hc, hl2, hr2, rfl, I, L⟩
  refine Jb I L ((JQ∘JP∘Jp 1∘Jf 0∘Jg 0 O2∘Jp 1∘Jd3∘Jj) (Ju (fun hb43 => ?_) fun hb43 => ?_))
  ·
   intro a I L
   have hd43 := of_decide_eq_true hb43
   have hc43 : c < yl.length := by omega
   obtain ⟨yz, hyz⟩ : ∃ z, yl[c]? = some z := ⟨_, List.getElem?_eq_getElem om⟩
   have hyz2 := (qri r0 (Nat.le_refl c)).trans hyz
   have hy2 : rs2.getD g Rw.zero = ⟨some ⟨gy, 0, none⟩, yc, upd r0 yl c⟩ := by rw [hr2]; exact qm _ _ om
   refine Jb I L ((JT∘JS'∘JQ∘JB∘JR∘Jg 6 O2∘Jf 3∘Jc O1∘Jo (vI g) (by rw [hgg])∘Jy (h:=by exact Yl.ix0 gsA g 1 rfl rfl rfl)∘Jy (v := .slice ((rs2.getD g Rw.zero).A) ((rs2.getD g Rw.zero).l.length) ((rs2.getD g Rw.zero).c)) (h:=by exact Yl.r1 7 g Rw.zero om rfl rfl rfl)∘Jo (vS gy yl.length yc) (by rw [hy2]; show Value.slice _ (upd r0 yl c).length _ = _; rw [qrg])∘Jp 1∘Jy (h:=by exact Yl.ix0 gy c 3 rfl rfl rfl)∘Jf 1) fun a I L => ?_)
   refine fo I 9 rfl rfl ?_
   refine zb I L 7 (c := c) 1 (r0 yz) rfl rfl rfl rfl kr rfl rfl om (hy2) (hyz2) rfl de rfl ?_
   clear L; intro w10_9 L
   replace L : Mem W w10_9 (.blk g4 #[vI 0, vQ 0, vN, vN, vN, vN, vN] 45 :: .blk g3 o.cells 52 :: .blk g2 #[vI cp, vQ cr, vS ggA ng gc, .slice lA nl lc, .slice uA nu uc, .slice tA nt tc, vS gsA ns sc] 45 :: fG (some ⟨ggA, 0, none⟩) ng gc (gs.set g { gr with weight := o.weight }) :: fI lA nl lc cl :: fI uA nu uc cu :: fT tA nt tc ts :: fS (some ⟨gsA, 0, none⟩) ns sc (rsPut rs2 g c (r0 yz)) :: (fR (rsPut rs2 g c (r0 yz)) ++ (T))) := L
   refine Jb I L ((Jt6∘Jj∘JR∘Jp 1∘JaK 1∘Jp 1∘Jd4∘Jq) fun a I L => ?_)
   exact ⟨_, om, c + 1, (rsPut rs2 g c (r0 yz)), by omega, by rw [qt]; exact hl2, qkm om hyz hr2, rfl, I.sub kr, L.pt 8 [0, 1, 2, 3, 4, 5, 6, 7]⟩
  intro a I L
  have hd43 := of_decide_eq_false hb43
  refine Jb I L ((JF∘JX∘JG∘JP∘Jy (v := .agg #[vI cp, vQ cr, vS ggA ng gc, .slice lA nl lc, .slice uA nu uc, .slice tA nt tc, vS gsA ns sc]) (h:=by exact Yl.loadS rfl rfl si_st rfl (fun _ h => qa (h.blk (i := 2) rfl)))∘JV si_st O0') fun w11_1 => (Jp 2∘Jj∘JZ) fun a I L => ?_)
  exact ret3 rfl I (.cellS (i := 0) I L rfl rfl si_st rfl) (.tmp I rfl) (.tmp I rfl) (qp (y := (⟨cp, cr, some ⟨ggA, 0, none⟩, gc, (gs.set g { gr with weight := o.weight }), lA, lc, cl, uA, uc, cu, tA, tc, ts, some ⟨gsA, 0, none⟩, sc, rs2⟩ : Stm)) 3 L rfl ⟨by show (gs.set _ _).length = ng; rw [List.length_set]; exact hlg, hll, hlu, hlt, hl2⟩ ((if_pos om).trans ((qgl (x := (⟨cp, cr, some ⟨ggA, 0, none⟩, gc, gs, lA, lc, cl, uA, uc, cu, tA, tc, ts, some ⟨gsA, 0, none⟩, sc, rs⟩ : Stm)) hgg hgb (decide_eq_true hd28) hy hgrd).trans (congrArg (fun r => (Stm.sta (⟨cp, cr, some ⟨ggA, 0, none⟩, gc, (gs.set g { gr with weight := o.weight }), lA, lc, cl, uA, uc, cu, tA, tc, ts, some ⟨gsA, 0, none⟩, sc, r⟩ : Stm), (0 : Int), 0)) (show _ = rs2 by rw [hr2, qrh r0 yl om])))))
 refine (JF∘JS'∘JQ∘JP∘Jg 2 O1∘Jp 2) (Ji (fun hd59 => ?_) fun hd59 => ?_)
 ·
  refine (Jp 4∘Jd6∘Jj∘JT∘JP∘Jy (v := .agg #[vI cp, vQ cr, vS ggA ng gc, .slice lA nl lc, .slice uA nu uc, .slice tA nt tc, vS gsA ns sc]) (h:=by exact Yl.loadS rfl rfl si_st rfl (fun _ h => qa (h.blk (i := 2) rfl)))∘JV si_st O0') fun w13_1 => (Jp 2∘Jj∘JZ) fun a I L => ?_
  exact ret3 rfl I (.cellS (i := 0) I L rfl rfl si_st rfl) (.tmp I rfl) (.tmp I rfl) (qp (y := (⟨cp, cr, some ⟨ggA, 0, none⟩, gc, gs, lA, lc, cl, uA, uc, cu, tA, tc, ts, some ⟨gsA, 0, none⟩, sc, rs⟩ : Stm)) 3 L rfl hlns ((if_neg om).trans (if_pos (decide_eq_false (by show ¬ (1 ≤ o.task ∧ o.task ≤ 65535); omega)))))
 refine (Jg 2 O1∘Jp 2∘Jd5∘Jj) (Ji (fun hd63 => ?_) fun hd63 => ?_)
 ·
  refine (JT∘JP∘Jy (v := .agg #[vI cp, vQ cr, vS ggA ng gc, .slice lA nl lc, .slice uA nu uc, .slice tA nt tc, vS gsA ns sc]) (h:=by exact Yl.loadS rfl rfl si_st rfl (fun _ h => qa (h.blk (i := 2) rfl)))∘JV si_st O0') fun w13_1 => (Jp 2∘Jj∘JZ) fun a I L => ?_
  exact ret3 rfl I (.cellS (i := 0) I L rfl rfl si_st rfl) (.tmp I rfl) (.tmp I rfl) (qp (y := (⟨cp, cr, some ⟨ggA, 0, none⟩, gc, gs, lA, lc, cl, uA, uc, cu, tA, tc, ts, some ⟨gsA, 0, none⟩, sc, rs⟩ : Stm)) 3 L rfl hlns ((if_neg om).trans (if_pos (decide_eq_false (by show ¬ (1 ≤ o.task ∧ o.task ≤ 65535); omega)))))
 refine (JF∘JS'∘JQ∘JP∘Jg 4 O1∘JL (h:=by exact fun L => qa8 o.weight _)) ?_
 rintro L _ w67 ⟨rfl, hbw⟩
 refine ⟨_, rfl, _, L.call hbw, ?_⟩
 refine (Jp 1∘Jd2∘Jj) (Ji' (fun hd68 => ?_) fun hd68 => ?_)
 ·
  refine (JT∘JP∘Jy (v := .agg #[vI cp, vQ cr, vS ggA ng gc, .slice lA nl lc, .slice uA nu uc, .slice tA nt tc, vS gsA ns sc]) (h:=by exact Yl.loadS rfl rfl si_st rfl (fun _ h => qa (h.blk (i := 2) rfl)))∘JV si_st O0') fun w15_1 => (Jp 2∘Jj∘JZ) fun a I L => ?_
  exact ret3 rfl I (.cellS (i := 0) I L rfl rfl si_st rfl) (.tmp I rfl) (.tmp I rfl) (qp (y := (⟨cp, cr, some ⟨ggA, 0, none⟩, gc, gs, lA, lc, cl, uA, uc, cu, tA, tc, ts, some ⟨gsA, 0, none⟩, sc, rs⟩ : Stm)) 3 L rfl hlns ((if_neg om).trans ((if_neg (nf (decide_eq_true (by show 1 ≤ o.task ∧ o.task ≤ 65535; omega)))).trans (if_pos (decide_eq_false hd68)))))
 refine (JF∘JS'∘JP∘Jy (v := .agg #[vI cp, vQ cr, vS ggA ng gc, .slice lA nl lc, .slice uA nu uc, .slice tA nt tc, vS gsA ns sc]) (h:=by exact Yl.loadS rfl rfl si_st rfl (fun _ h => qa (h.blk (i := 2) rfl)))∘Jg 2 O1∘JI (h:=by exact fun L => qer (x := (⟨cp, cr, some ⟨ggA, 0, none⟩, gc, gs, lA, lc, cl, uA, uc, cu, tA, tc, ts, some ⟨gsA, 0, none⟩, sc, rs⟩ : Stm)) hlns (L.sdRd 3 rfl hlns) hfts o.task)) fun w73 hbw => (Jp 1∘Jd3∘Jj∘JQ∘JP∘Jp 2∘Jd1∘Jj) (Ju (fun hb75 => ?_) fun hb75 => ?_)
 ·
  intro a I L
  have hd75 := of_decide_eq_true hb75
  refine Jb I L ((JT∘JP∘Jy (v := .agg #[vI cp, vQ cr, vS ggA ng gc, .slice lA nl lc, .slice uA nu uc, .slice tA nt tc, vS gsA ns sc]) (h:=by exact Yl.loadS rfl rfl si_st rfl (fun _ h => qa (h.blk (i := 2) rfl)))∘JV si_st O0') fun w18_1 => (Jp 2∘Jj∘JZ) fun a I L => ?_)
  exact ret3 rfl I (.cellS (i := 0) I L rfl rfl si_st rfl) (.tmp I rfl) (.tmp I rfl) (qp (y := (⟨cp, cr, some ⟨ggA, 0, none⟩, gc, gs, lA, lc, cl, uA, uc, cu, tA, tc, ts, some ⟨gsA, 0, none⟩, sc, rs⟩ : Stm)) 3 L rfl hlns ((if_neg om).trans ((if_neg (nf (decide_eq_true (by show 1 ≤ o.task ∧ o.task ≤ 65535; omega)))).trans ((if_neg (nf (decide_eq_true hd68))).trans (if_pos (hd75))))))
 intro a I L
 have hd75 := of_decide_eq_false hb75
 obtain ⟨k, t, hk, ht, hkl, hkid⟩ := qco hd75
 replace hk : fidx ts o.task = (k : Int) := hk; replace ht : ts[k]? = some t := ht; replace hkl : k < ts.length := hkl
 obtain ⟨wt, hwt⟩ : ∃ n : Nat, o.weight = (n : Int) := ⟨o.weight.toNat, by omega⟩
 revert L; revert a; repeat (first | clear I | clear L)
 intro a I L
 obtain ⟨gtA, rfl⟩ := qi (L.own (i := 6) rfl) (Nat.lt_of_le_of_lt (Nat.zero_le _) (show k < nt from (by omega : k < nt)))
 refine Jb I L ((JF∘JS') fun a I L => ?_)
 refine wp_seq ?_
 refine Jb I L ((Vs (.t (.t (.t (.t (.t (.t (.f .n))))))) [13]) fun wd19 => (Vf 0 5∘Vf 3 5∘Vf 6 4∘Vc 1 O2∘Vp [2]∘Vo (vI k) (by rw [hk])∘Vc 4 O2∘Vp [5]∘Vo (vI k) (by rw [hk])∘Vc 7 O1∘Vy 8 (h:=by exact Yl.ix0 gtA k 8 rfl rfl rfl)∘Vf 9 2) fun a I L HS => ?_)
 refine s_on I 10 rfl ?_
 refine qk I L (i := 6) rfl rfl rfl rfl kr rfl rfl (by rw [qy tkL 8 qd]; omega) ?_
 clear L; intro w19_10 L
 replace L := L.asRow (i := 6) (ys := (ts.set k { t with weight := o.weight }).flatMap tkL) rfl (qw tkL 8 qd ts k t { t with weight := o.weight } ht 2 de _ rfl)
 refine keepS (L.pt 8 [0, 1, 2, 3, 4, 5, 7]) (fun HS => ?_)
 refine Vb I L HS ((Vu 11 (h:=by exact fun _ => Yl.ix0 gtA k 8 rfl rfl rfl)∘Vf 12 7) fun a I L HS => ?_)
 refine s_on I 13 rfl ?_
 refine qk I L (i := 6) rfl rfl rfl rfl kr rfl rfl (by rw [qy tkL 8 qd, List.length_set]; omega) ?_
 clear L; intro w19_13 L
 replace L := L.asRow (i := 6) (ys := (ts.set k { t with r := 0, weight := o.weight }).flatMap tkL) rfl ((qw tkL 8 qd (ts.set k { t with weight := o.weight }) k { t with weight := o.weight } { t with r := 0, weight := o.weight } (qbg ht) 7 de _ rfl).trans (by rw [List.set_set]))
 refine noS kr ?_
 refine qb kr ?_
 refine Jb I L ((JP∘Jy (v := .agg #[vI cp, vQ cr, vS ggA ng gc, .slice lA nl lc, .slice uA nu uc, vS gtA nt tc, vS gsA ns sc]) (h:=by exact Yl.loadS rfl rfl si_st rfl (fun _ h => qa (h.blk (i := 2) rfl)))∘JV si_st O0') fun w20_1 => (Jp 2∘Jj∘JZ) fun a I L => ?_)
 exact ret3 rfl I (.cellS (i := 0) I L rfl rfl si_st rfl) (.tmp I rfl) (.tmp I rfl) (qp (y := (⟨cp, cr, some ⟨ggA, 0, none⟩, gc, gs, lA, lc, cl, uA, uc, cu, some ⟨gtA, 0, none⟩, tc, (ts.set k { t with r := 0, weight := o.weight }), some ⟨gsA, 0, none⟩, sc, rs⟩ : Stm)) 3 L rfl ⟨hlg, hll, hlu, by show (ts.set _ _).length = nt; rw [List.length_set]; exact hlt, hls⟩ ((if_neg om).trans ((qfm (x := (⟨cp, cr, some ⟨ggA, 0, none⟩, gc, gs, lA, lc, cl, uA, uc, cu, some ⟨gtA, 0, none⟩, tc, ts, some ⟨gsA, 0, none⟩, sc, rs⟩ : Stm)) (decide_eq_true (by show 1 ≤ o.task ∧ o.task ≤ 65535; omega)) (decide_eq_true hd68) hk ht hwt).trans (by rw [hwt]; try rfl))))
theorem qs6 (W w : World) (x : Stm) (ng nl nu nt ns : Nat) (hx : MdOk x ng nl nu nt ns) (T : List Fact) (L : Mem W w (sdA x ng nl nu nt ns ++ T)) (o : Op30) (ho : o.Ok) (hcur : ∀ c, c < x.cu.length → curOk x.sta c = true) :
    Calls Tryz.prog 73 #[.agg (sdC x ng nl nu nt ns), .agg o.cells] w (OpOut W T (tickS x.sta o)) := by
 obtain ⟨cp, cr, gA, gc, gs, lA, lc, cl, uA, uc, cu, tA, tc, ts, sA, sc, rs⟩ := x
 replace L : Mem W w (fG gA ng gc gs :: fI lA nl lc cl :: fI uA nu uc cu :: fT tA nt tc ts :: fS sA ns sc rs :: (fR rs ++ (T))) := L
 have hln := hx.ln
 obtain ⟨hlg, hll, hlu, hlt, hls⟩ := hln
 replace hlg : gs.length = ng := hlg; replace hll : cl.length = nl := hll; replace hlu : cu.length = nu := hlu; replace hlt : ts.length = nt := hlt; replace hls : rs.length = ns := hls
 have hlns := hx.ln
 have hsp : SpsOk gs cp rs := hx.spots
 have hrg : rs.length = gs.length := hx.sh.rs
 have hcr : cr < 18446744073709551616 := hx.ok.credit
 obtain ⟨hcp1, hcp2, _, hgs⟩ := zj hx.sh.cfg
 replace hcp1 : 1 ≤ cp := hcp1; replace hcp2 : cp ≤ 64 := hcp2; replace hgs : gsOk gs = true := hgs
 have hgl1 := (qo hgs).1; have hgl2 := (qo hgs).2.1
 have hcll : (cl.length : Int) = cp := hx.sh.cl; have hcul : (cu.length : Int) = cp := hx.sh.cu
 have hfts : ts.length ≤ 1000000 := hx.few.t
 have hoc := ho.cpu; have hot := ho.task; have hog := ho.group; have how := ho.weight; have hoto := ho.to; have hotk := ho.ticks; have hom := ho.mask; have hok8 := ho.kind; unfold I64 at hoc hot hog how hoto hotk
 have hcuo := hx.ok.cu; have hclo := hx.ok.cl
 have hcls := hx.sh.cls
 obtain ⟨ggA, rfl⟩ := qi (L.own (i := 0) rfl) om
 obtain ⟨glA, rfl⟩ := qi (L.own (i := 1) rfl) om
 obtain ⟨guA, rfl⟩ := qi (L.own (i := 2) rfl) om
 obtain ⟨gsA, rfl⟩ := qi (L.own (i := 4) rfl) om
 show Calls Tryz.prog 73 #[.agg #[vI cp, vQ cr, vS ggA ng gc, vS glA nl lc, vS guA nu uc, .slice tA nt tc, vS gsA ns sc], .agg o.cells] w _
 refine (Jin2 L Tryz.func73 164) ?_
 refine (JP∘JE) fun w2 g2 => (JE) fun w3 g3 => (JA #[vI 0, vQ 0, vN, vN, vN, vN, vN]) fun w4 g4 => (Jp 2∘Jj∘JQ∘JB∘JP∘Jg 1 O1∘Jp 2) (Ji (fun hd20 => ?_) fun hd20 => ?_)
 ·
  refine (Jv 8 [(16, .bool true)]∘Jd3∘Jj∘JT∘JP∘Jy (v := .agg #[vI cp, vQ cr, vS ggA ng gc, vS glA nl lc, vS guA nu uc, .slice tA nt tc, vS gsA ns sc]) (h:=by exact Yl.loadS rfl rfl si_st rfl (fun _ h => qa (h.blk (i := 2) rfl)))∘JV si_st O0') fun w2_1 => (Jp 2∘Jj∘JZ) fun a I L => ?_
  exact ret3 rfl I (.cellS (i := 0) I L rfl rfl si_st rfl) (.tmp I rfl) (.tmp I rfl) (qp (y := (⟨cp, cr, some ⟨ggA, 0, none⟩, gc, gs, some ⟨glA, 0, none⟩, lc, cl, some ⟨guA, 0, none⟩, uc, cu, tA, tc, ts, some ⟨gsA, 0, none⟩, sc, rs⟩ : Stm)) 3 L rfl hlns (if_pos (decide_eq_false (by show ¬ (0 ≤ o.cpu ∧ o.cpu < cp); omega))))
 refine (Jg 1 O1∘Jf 0∘Jg 0 O2∘Jp 3∘Jd6∘Jj) (Ju (fun hb16 => ?_) fun hb16 => ?_)
 ·
  intro a I L
  have hd16 := of_decide_eq_true hb16
  refine Jb I L ((JT∘JP∘Jy (v := .agg #[vI cp, vQ cr, vS ggA ng gc, vS glA nl lc, vS guA nu uc, .slice tA nt tc, vS gsA ns sc]) (h:=by exact Yl.loadS rfl rfl si_st rfl (fun _ h => qa (h.blk (i := 2) rfl)))∘JV si_st O0') fun w2_1 => (Jp 2∘Jj∘JZ) fun a I L => ?_)
  exact ret3 rfl I (.cellS (i := 0) I L rfl rfl si_st rfl) (.tmp I rfl) (.tmp I rfl) (qp (y := (⟨cp, cr, some ⟨ggA, 0, none⟩, gc, gs, some ⟨glA, 0, none⟩, lc, cl, some ⟨guA, 0, none⟩, uc, cu, tA, tc, ts, some ⟨gsA, 0, none⟩, sc, rs⟩ : Stm)) 3 L rfl hlns (if_pos (decide_eq_false (by show ¬ (0 ≤ o.cpu ∧ o.cpu < cp); omega))))
 intro a I L
 have hd16 := of_decide_eq_false hb16
 obtain ⟨c, hcc⟩ : ∃ n : Nat, o.cpu = (n : Int) := ⟨o.cpu.toNat, by omega⟩
 have hccp : ((c : Nat) : Int) < cp := by omega
 have hclb := hcls c (by show c < cl.length; omega); replace hclb : 0 ≤ (cl.getD c 0) ∧ (cl.getD c 0) ≤ 281474976710656 := by unfold clOk at hclb; simpa using hclb
 obtain ⟨v, hv⟩ : ∃ z, (cl.getD c 0) = z := ⟨_, rfl⟩
 rw [hv] at hclb
 refine Jb I L ((JF∘JP∘Jg 6 O1∘Jp 2) (Ji (fun hd33 => ?_) fun hd33 => ?_))
 ·
  refine (Jp 5∘Jd6∘Jj∘JT∘JP∘Jy (v := .agg #[vI cp, vQ cr, vS ggA ng gc, vS glA nl lc, vS guA nu uc, .slice tA nt tc, vS gsA ns sc]) (h:=by exact Yl.loadS rfl rfl si_st rfl (fun _ h => qa (h.blk (i := 2) rfl)))∘JV si_st O0') fun w4_1 => (Jp 2∘Jj∘JZ) fun a I L => ?_
  exact ret3 rfl I (.cellS (i := 0) I L rfl rfl si_st rfl) (.tmp I rfl) (.tmp I rfl) (qp (y := (⟨cp, cr, some ⟨ggA, 0, none⟩, gc, gs, some ⟨glA, 0, none⟩, lc, cl, some ⟨guA, 0, none⟩, uc, cu, tA, tc, ts, some ⟨gsA, 0, none⟩, sc, rs⟩ : Stm)) 3 L rfl hlns ((if_neg (nf (decide_eq_true (by show 0 ≤ o.cpu ∧ o.cpu < cp; omega)))).trans (if_pos om)))
 refine (Jg 6 O1∘Jp 3∘Jd6∘Jj) (Ju (fun hb29 => ?_) fun hb29 => ?_)
 ·
  intro a I L
  have hd29 := of_decide_eq_true hb29
  refine Jb I L ((JT∘JP∘Jy (v := .agg #[vI cp, vQ cr, vS ggA ng gc, vS glA nl lc, vS guA nu uc, .slice tA nt tc, vS gsA ns sc]) (h:=by exact Yl.loadS rfl rfl si_st rfl (fun _ h => qa (h.blk (i := 2) rfl)))∘JV si_st O0') fun w4_1 => (Jp 2∘Jj∘JZ) fun a I L => ?_)
  exact ret3 rfl I (.cellS (i := 0) I L rfl rfl si_st rfl) (.tmp I rfl) (.tmp I rfl) (qp (y := (⟨cp, cr, some ⟨ggA, 0, none⟩, gc, gs, some ⟨glA, 0, none⟩, lc, cl, some ⟨guA, 0, none⟩, uc, cu, tA, tc, ts, some ⟨gsA, 0, none⟩, sc, rs⟩ : Stm)) 3 L rfl hlns ((if_neg (nf (decide_eq_true (by show 0 ≤ o.cpu ∧ o.cpu < cp; omega)))).trans (if_pos om)))
 intro a I L
 have hd29 := of_decide_eq_false hb29
 have htk : 1 ≤ o.ticks ∧ o.ticks ≤ 4294967295 := by omega
 obtain ⟨d, hod⟩ : ∃ n : Nat, o.ticks = (n : Int) := ⟨o.ticks.toNat, by omega⟩
 have hd0 : d ≤ 4294967295 := by omega
 refine Jb I L ((JF) fun a I L => ?_)
 refine wp_seq ?_
 refine Jb I L ((Vs .n []) fun wd5 => (Vf 0 3∘Vf 2 1∘Vf 6 6∘Vc 1 O2∘Vc 3 O1∘Vo (vI c) (by rw [hcc])∘Vy 4 (h:=by exact Yl.ix0 glA c 1 rfl rfl rfl)∘Vy 5 (v := vI (cl.getD c 0)) (h:=by exact Yl.r1 4 c 0 om rfl rfl rfl)∘Vo (vI v) (by rw [hv])∘Vc 7 O1∘Vo (vI d) (by rw [hod])∘Vp [8]∘Vo (vI (v + d)) (by exact qcb ⟨by omega, by omega⟩)∘Vp [9, 10]∘Vd∘Jd6) (Ju (fun hb39 => ?_) fun hb39 => ?_))
 ·
  intro a I L
  have hd39 := of_decide_eq_true hb39
  refine Jb I L ((JT∘JP∘Jy (v := .agg #[vI cp, vQ cr, vS ggA ng gc, vS glA nl lc, vS guA nu uc, .slice tA nt tc, vS gsA ns sc]) (h:=by exact Yl.loadS rfl rfl si_st rfl (fun _ h => qa (h.blk (i := 2) rfl)))∘JV si_st O0') fun w6_1 => (Jp 2∘Jj∘JZ) fun a I L => ?_)
  exact ret3 rfl I (.cellS (i := 0) I L rfl rfl si_st rfl) (.tmp I rfl) (.tmp I rfl) (qp (y := (⟨cp, cr, some ⟨ggA, 0, none⟩, gc, gs, some ⟨glA, 0, none⟩, lc, cl, some ⟨guA, 0, none⟩, uc, cu, tA, tc, ts, some ⟨gsA, 0, none⟩, sc, rs⟩ : Stm)) 3 L rfl hlns ((if_neg (nf (decide_eq_true (by show 0 ≤ o.cpu ∧ o.cpu < cp; omega)))).trans ((if_neg om).trans (if_pos (by show 281474976710656 < cl.getD o.cpu.toNat 0 + o.ticks; rw [hcc, Int.toNat_natCast, hv]; omega)))))
 intro a I L
 have hd39 := of_decide_eq_false hb39
 obtain ⟨id, hid⟩ : ∃ z, cu.getD c 0 = z := ⟨_, rfl⟩
 have hidI : I64 id := by rw [← hid]; exact hcuo _ (qf 0 (by show c < cu.length; omega))
 unfold I64 at hidI
 refine Jb I L ((JF∘JS') fun a I L => ?_)
 refine wp_seq ?_
 refine Jb I L ((Vs .n [14]) fun wd7 => (Vf 0 3∘Vf 2 1∘Vf 4 3∘Vf 6 1∘Vf 10 6∘Vc 1 O2∘Vc 3 O1∘Vo (vI c) (by rw [hcc])∘Vc 5 O2∘Vc 7 O1∘Vo (vI c) (by rw [hcc])∘Vy 8 (h:=by exact Yl.ix0 glA c 1 rfl rfl rfl)∘Vy 9 (v := vI (cl.getD c 0)) (h:=by exact Yl.r1 4 c 0 om rfl rfl rfl)∘Vo (vI v) (by rw [hv])∘Vc 11 O1∘Vo (vI d) (by rw [hod])∘Vp [12]∘Vo (vI (v + d)) (by exact qcb ⟨by omega, by omega⟩)∘Vy 13 (h:=by exact Yl.ix0 glA c 1 rfl rfl rfl)) fun a I L HS => ?_)
 refine s_on I 14 rfl ?_
 refine qk I L (i := 4) rfl rfl rfl rfl kr rfl rfl (by rw [List.length_map]; omega) ?_
 clear L; intro w7_14 L
 replace L := L.asRow (i := 4) (ys := (cl.set c (v + d)).map I64i) rfl (zt I64i cl c (v + d) om)
 refine noS kr ?_
 refine qb kr ?_
 refine Jb I L ((JP∘Jg 4 O2∘Jf 1∘Jc O1∘Jo (vI c) (by rw [hcc])∘Jy (h:=by exact Yl.ix0 guA c 1 rfl rfl rfl)∘Jy (v := vI (cu.getD c 0)) (h:=by exact Yl.r1 5 c 0 om rfl rfl rfl)∘Jo (vI id) (by rw [hid])∘Jp 1∘Jd6∘Jj∘JQ∘JP∘Jp 2∘Jd1∘Jj) (Ju (fun hb72 => ?_) fun hb72 => ?_))
 ·
  intro a I L
  have hd72 := eq_of_beq hb72
  refine Jb I L ((JT∘JP∘Jy (v := .agg #[vI cp, vQ cr, vS ggA ng gc, vS glA nl lc, vS guA nu uc, .slice tA nt tc, vS gsA ns sc]) (h:=by exact Yl.loadS rfl rfl si_st rfl (fun _ h => qa (h.blk (i := 2) rfl)))∘JV si_st O0') fun w10_1 => (Jp 2∘Jj∘JZ) fun a I L => ?_)
  exact ret3 rfl I (.cellS (i := 0) I L rfl rfl si_st rfl) (.tmp I rfl) (.tmp I rfl) (qp (y := (⟨cp, cr, some ⟨ggA, 0, none⟩, gc, gs, some ⟨glA, 0, none⟩, lc, (cl.set c (v + d)), some ⟨guA, 0, none⟩, uc, cu, tA, tc, ts, some ⟨gsA, 0, none⟩, sc, rs⟩ : Stm)) 3 L rfl ⟨hlg, by show (cl.set _ _).length = nl; rw [List.length_set]; exact hll, hlu, hlt, hls⟩ ((qkl (x := (⟨cp, cr, some ⟨ggA, 0, none⟩, gc, gs, some ⟨glA, 0, none⟩, lc, cl, some ⟨guA, 0, none⟩, uc, cu, tA, tc, ts, some ⟨gsA, 0, none⟩, sc, rs⟩ : Stm)) (decide_eq_true (by show 0 ≤ o.cpu ∧ o.cpu < cp; omega)) htk hcc hv om (hid.trans om)).trans (by rw [hod])))
 intro a I L
 have hd72 := ne_of_beq_false hb72
 have hid0 : id ≠ 0 := by omega
 have hcuk := qeq (x := (⟨cp, cr, some ⟨ggA, 0, none⟩, gc, gs, some ⟨glA, 0, none⟩, lc, cl, some ⟨guA, 0, none⟩, uc, cu, tA, tc, ts, some ⟨gsA, 0, none⟩, sc, rs⟩ : Stm)) (hcur c (by show c < cu.length; omega)) (by show cu.getD c 0 ≠ 0; rw [hid]; exact hid0)
 rw [show (⟨cp, cr, some ⟨ggA, 0, none⟩, gc, gs, some ⟨glA, 0, none⟩, lc, cl, some ⟨guA, 0, none⟩, uc, cu, tA, tc, ts, some ⟨gsA, 0, none⟩, sc, rs⟩ : Stm).cu.getD c 0 = id from hid] at hcuk
 obtain ⟨k, t, hk, ht, hkl, hkid⟩ := hcuk
 replace hk : fidx ts id = (k : Int) := hk; replace ht : ts[k]? = some t := ht; replace hkl : k < ts.length := hkl
 obtain ⟨htg, hto⟩ := hx.task ht
 have hti := htg.id; have htgr := htg.group; have htc := htg.cpu; have htw := htg.weight; have htv := hto.v; have htr := hto.r; have htm := hto.mask
 replace htc : 0 ≤ t.cpu ∧ t.cpu < cp := htc
 obtain ⟨gt, hgt⟩ : ∃ n : Nat, t.group = (n : Int) := ⟨t.group.toNat, by omega⟩
 obtain ⟨ct, hct⟩ : ∃ n : Nat, t.cpu = (n : Int) := ⟨t.cpu.toNat, by omega⟩
 obtain ⟨wt, hwt⟩ : ∃ n : Nat, t.weight = (n : Int) := ⟨t.weight.toNat, by omega⟩
 have hEo : (⟨t.v, t.r, wt⟩ : En).Ok := En.qdf htg.ent hwt htv
 obtain ⟨e, hew⟩ : ∃ e, (⟨t.v, t.r, wt⟩ : En).add d = e := ⟨_, rfl⟩
 have heo : e.Ok ∧ e.w = wt := by rw [← hew]; exact En.qig hEo d
 revert L; revert a; repeat (first | clear I | clear L)
 intro a I L
 obtain ⟨gtA, rfl⟩ := qi (L.own (i := 6) rfl) (Nat.lt_of_le_of_lt (Nat.zero_le _) (show k < nt from (by omega : k < nt)))
 refine Jb I L ((JF∘JS'∘JP∘Jy (v := .agg #[vI cp, vQ cr, vS ggA ng gc, vS glA nl lc, vS guA nu uc, vS gtA nt tc, vS gsA ns sc]) (h:=by exact Yl.loadS rfl rfl si_st rfl (fun _ h => qa (h.blk (i := 2) rfl)))∘Jp 1∘JI (h:=by exact fun L => qs0 (x := (⟨cp, cr, some ⟨ggA, 0, none⟩, gc, gs, some ⟨glA, 0, none⟩, lc, (cl.set c (v + d)), some ⟨guA, 0, none⟩, uc, cu, some ⟨gtA, 0, none⟩, tc, ts, some ⟨gsA, 0, none⟩, sc, rs⟩ : Stm)) (show Lns ((⟨cp, cr, some ⟨ggA, 0, none⟩, gc, gs, some ⟨glA, 0, none⟩, lc, (cl.set c (v + d)), some ⟨guA, 0, none⟩, uc, cu, some ⟨gtA, 0, none⟩, tc, ts, some ⟨gsA, 0, none⟩, sc, rs⟩ : Stm) : Stm) ng nl nu nt ns from ⟨hlg, by show (cl.set c (v + d)).length = nl; rw [List.length_set]; exact hll, hlu, hlt, hls⟩) (L.sdRd 3 rfl (show Lns ((⟨cp, cr, some ⟨ggA, 0, none⟩, gc, gs, some ⟨glA, 0, none⟩, lc, (cl.set c (v + d)), some ⟨guA, 0, none⟩, uc, cu, some ⟨gtA, 0, none⟩, tc, ts, some ⟨gsA, 0, none⟩, sc, rs⟩ : Stm) : Stm) ng nl nu nt ns from ⟨hlg, by show (cl.set c (v + d)).length = nl; rw [List.length_set]; exact hll, hlu, hlt, hls⟩)) hfts id k hk)) fun w76 hbw => (Jp 1∘Jd3∘Jr∘Jg 5 O2∘Jp 1∘Jy (h:=by exact Yl.ix0 gtA k 8 rfl rfl rfl)∘Jy (v := .agg t.cells) (h:=by exact Yl.loadS rfl rfl si_tk rfl (fun _ h => h.z5 qd (i := 6) rfl (ht)))∘JA #[vI 0, vI 0, vI 0, vI 0, vQ 0, .bool false, vQ 0, vW 0]) fun w9 g9 => (JV si_tk O0' (h1:=by exact qa4 t)) fun w12_6 => (Jd4∘Jj) fun a I L => ?_)
 refine qz (fun aS wS => ∃ (g10 : Nat), Fr aS 164 [] [(10, vP g10 0), (9, vP g9 0), (8, vI k), (72, .bool false), (7, vI id), (39, .bool false), (29, .bool false), (16, .bool false), (6, vI 0), (5, vI 0), (4, vP g4 0), (3, vP g3 0), (2, vP g2 0)] ∧ Mem W wS (.blk g10 e.cells 143 :: .blk g9 t.cells 81 :: .blk g4 #[vI 0, vQ 0, vN, vN, vN, vN, vN] 45 :: .blk g3 o.cells 52 :: .blk g2 #[vI cp, vQ cr, vS ggA ng gc, vS glA nl lc, vS guA nu uc, vS gtA nt tc, vS gsA ns sc] 45 :: fG (some ⟨ggA, 0, none⟩) ng gc gs :: fI (some ⟨glA, 0, none⟩) nl lc (cl.set c (v + d)) :: fI (some ⟨guA, 0, none⟩) nu uc cu :: fT (some ⟨gtA, 0, none⟩) nt tc ts :: fS (some ⟨gsA, 0, none⟩) ns sc rs :: (fR rs ++ (T)))) ?_ ?_
 ·
  refine Jb I L ((Vs .n [14]) fun wd13 => (Vf 0 6∘Vf 2 7∘Vf 4 2∘Vf 7 6∘Vc 1 O0∘Vc 3 O0∘Vc 5 O0∘Vo (vI wt) (by rw [hwt])∘Vc 8 O2∘Vo (vI d) (by rw [hod])) fun a I L HS => ?_)
  refine qj [6, 13] kr rfl ?_
  refine all_cons ?_ ?_
  ·refine qe I (i := 6) rfl rfl ?_
   refine e_is I L [vQ t.v, vW t.r, vI wt] (.agg #[vQ t.v, vW t.r, vW wt]) rfl rfl (zl t.v t.r (wt : Int) om _) fun w89 hbw L a I => ?_
   refine keepS (L.pt 9 [0, 1, 2, 3, 4, 5, 6, 7, 8]) (fun HS => ?_)
   refine qj [9, 13] kr rfl ?_
   refine all_cons ?_ ?_
   ·refine qe I (i := 9) rfl rfl ?_
    refine e_is I L [.agg #[vQ t.v, vW t.r, vW wt], vI d] (.tuple #[.agg e.cells, vI 0]) rfl rfl (qfb (⟨t.v, t.r, wt⟩ : En) e hEo d hd0 hew _) fun w92 hbw L a I => ?_
    refine keepS (L.pt 9 [0, 1, 2, 3, 4, 5, 6, 7, 8]) (fun HS => ?_)
    refine Vb I L HS ((Vp [10]∘Vx 11∘Vx 12∘VA 13 .n #[vQ 0, vW 0, vW 0]) fun w10 g10 => fun a I L HS => ?_)
    refine s_on I 14 rfl (e_sa I L 0 rfl rfl rfl rfl rfl qr rfl rfl (q9 e) ?_)
    clear L; intro w13_14 L
    refine noS kr ?_
    refine ap I (pastS kr) [15] (bt 16 []) [] fun a I => ?_
    refine qb kr ?_
    exact ⟨g10, I.sub kr, L.pt 10 [0, 1, 2, 3, 4, 5, 6, 7, 8, 9]⟩
   refine all_cons ?_ all_nil
   refine qe I (i := 13) rfl rfl ?_
   refine s_ea I L #[vQ 0, vW 0, vW 0] ?_
   clear I L; intro a w10 g10 I L
   refine keepS (L.pt 10 [1, 2, 3, 4, 5, 6, 7, 8, 9]) (fun HS => ?_)
   refine Vb I L HS ((VI 9 (.f .n) (h:=by exact fun L => qfb (⟨t.v, t.r, wt⟩ : En) e hEo d hd0 hew _)) fun w92 hbw => (Vp [10]∘Vx 11∘Vx 12) fun a I L HS => ?_)
   refine s_on I 14 rfl (e_sa I L 0 rfl rfl rfl rfl rfl qr rfl rfl (q9 e) ?_)
   clear L; intro w13_14 L
   refine noS kr ?_
   refine ap I (pastS kr) [15] (bt 16 []) [] fun a I => ?_
   refine qb kr ?_
   exact ⟨g10, I.sub kr, L.pt 10 [0, 1, 2, 3, 4, 5, 6, 7, 8, 9]⟩
  refine all_cons ?_ all_nil
  refine qe I (i := 13) rfl rfl ?_
  refine s_ea I L #[vQ 0, vW 0, vW 0] ?_
  clear I L; intro a w10 g10 I L
  refine keepS (L.pt 10 [1, 2, 3, 4, 5, 6, 7, 8, 9]) (fun HS => ?_)
  refine Vb I L HS ((VI 6 (.f .n) (h:=by exact fun L => zl t.v t.r (wt : Int) om _)) fun w89 hbw => (VI 9 (.f .n) (h:=by exact fun L => qfb (⟨t.v, t.r, wt⟩ : En) e hEo d hd0 hew _)) fun w92 hbw => (Vp [10]∘Vx 11∘Vx 12) fun a I L HS => ?_)
  refine s_on I 14 rfl (e_sa I L 0 rfl rfl rfl rfl rfl qr rfl rfl (q9 e) ?_)
  clear L; intro w13_14 L
  refine noS kr ?_
  refine ap I (pastS kr) [15] (bt 16 []) [] fun a I => ?_
  refine qb kr ?_
  exact ⟨g10, I.sub kr, L.pt 10 [0, 1, 2, 3, 4, 5, 6, 7, 8, 9]⟩
 clear I L; rintro a w13 ⟨g10, I, L⟩
 refine wp_seq ?_
 refine Jb I L ((Vs .n [7]) fun wd14 => (Vf 0 5∘Vp [2]∘Vc 1 O4∘Vy 3 (v := .agg t.cells) (h:=by exact Yl.loadS rfl rfl si_tk rfl (fun _ h => qa (h.blk (i := 1) rfl)))∘Vy 4 (v := .agg e.cells) (h:=by exact Yl.loadS rfl rfl qr rfl (fun _ h => qa (h.blk (i := 0) rfl)))∘VI 5 .n (h:=by exact fun L => qji t e heo.1 _)) fun w100 hbw => (Vy 6 (h:=by exact Yl.ix0 gtA k 8 rfl rfl rfl)) fun a I L HS => ?_)
 refine s_on I 7 rfl ?_
 refine qdn I L (i := 8) (sz := 8) rfl rfl rfl rfl si_tk rfl (qa4 (t.put e)) rfl (by rw [qy tkL 8 qd]; omega) ?_
 clear L; intro w14_7 L
 replace L := L.asRow (i := 8) (ys := (ts.set k (t.put e)).flatMap tkL) rfl (qa9 tkL 8 qd ts k (t.put e) om)
 refine noS kr ?_
 refine qb kr ?_
 refine Jb I L ((JQ∘JP∘Jf 1∘Jc O1∘Jo (vI gt) (by rw [hgt])∘Jp 1∘Jd6∘Jj∘JB) fun a I L => ?_)
 refine qg (fun mS aS wS => ∃ (g : Nat) (rs2 : List Rw), (g < ns) ∧ (rs2.length = ns) ∧ (SpsOk gs cp rs2) ∧ (qb6 c d g (⟨cp, cr, some ⟨ggA, 0, none⟩, gc, gs, some ⟨glA, 0, none⟩, lc, cl.set c (v + d), some ⟨guA, 0, none⟩, uc, cu, some ⟨gtA, 0, none⟩, tc, ts.set k (t.put e), some ⟨gsA, 0, none⟩, sc, rs2⟩ : Stm).sta = qb6 c d gt (⟨cp, cr, some ⟨ggA, 0, none⟩, gc, gs, some ⟨glA, 0, none⟩, lc, cl.set c (v + d), some ⟨guA, 0, none⟩, uc, cu, some ⟨gtA, 0, none⟩, tc, ts.set k (t.put e), some ⟨gsA, 0, none⟩, sc, rs⟩ : Stm).sta) ∧ mS = 0 + g ∧ Fr aS 164 [] [(12, vI g), (10, vP g10 0), (9, vP g9 0), (8, vI k), (72, .bool false), (7, vI id), (39, .bool false), (29, .bool false), (16, .bool false), (6, vI 0), (5, vI 0), (4, vP g4 0), (3, vP g3 0), (2, vP g2 0)] ∧ Mem W wS (.blk g10 e.cells 143 :: .blk g9 t.cells 81 :: .blk g4 #[vI 0, vQ 0, vN, vN, vN, vN, vN] 45 :: .blk g3 o.cells 52 :: .blk g2 #[vI cp, vQ cr, vS ggA ng gc, vS glA nl lc, vS guA nu uc, vS gtA nt tc, vS gsA ns sc] 45 :: fG (some ⟨ggA, 0, none⟩) ng gc gs :: fI (some ⟨glA, 0, none⟩) nl lc (cl.set c (v + d)) :: fI (some ⟨guA, 0, none⟩) nu uc cu :: fT (some ⟨gtA, 0, none⟩) nt tc (ts.set k (t.put e)) :: fS (some ⟨gsA, 0, none⟩) ns sc rs2 :: (fR rs2 ++ (T)))) (m := 0 + gt) ⟨gt, rs, by omega, hls, hsp, rfl, rfl, I.sub kr, L.pt 10 [0, 1, 2, 3, 4, 5, 6, 7, 8, 9]⟩ ?_
 clear I L; rintro mS a w_ ⟨g, rs2, hg, hl2, hsp2, hst2, rfl, I, L⟩
 refine Jb I L ((JQ∘JP∘Jp 2∘Jd1∘Jj) (Ju (fun hb105 => ?_) fun hb105 => ?_))
 ·
  intro a I L
  have hd105 := of_decide_eq_true hb105
  have hg0 : 0 < g := by omega
  obtain ⟨⟨yA, yc, yl⟩, hy⟩ : ∃ y, rs2.getD g Rw.zero = y := ⟨_, rfl⟩
  have hys := hsp2 g om; rw [hy] at hys
  have hyl : (yl.length : Int) = cp := hys.1
  revert L; revert a; repeat (first | clear I | clear L)
  intro a I L
  obtain ⟨gy, rfl⟩ := L.rwSome 10 rfl om hy om
  obtain ⟨yz, hyz⟩ : ∃ z, yl[c]? = some z := ⟨_, List.getElem?_eq_getElem om⟩
  have hyo := hys.2 yz (List.mem_of_getElem? hyz)
  have hyv := hyo.1.v; have hyr := hyo.1.r; have hyf := hyo.1.floor
  have hpb := qac hgs (g := g) om g hg0 (Nat.le_refl _)
  unfold ParB at hpb
  obtain ⟨p, hpp⟩ : ∃ p : Nat, (gs.getD g Gr.zero).parent = (p : Int) := ⟨(gs.getD g Gr.zero).parent.toNat, by omega⟩
  have hpg : p < g := by omega
  obtain ⟨zw, hzw, hzw1, hzw2⟩ := qbu hgs (g := g) om
  have hFo : (⟨yz.v, yz.r, zw⟩ : En).Ok := En.qdf hyo.2 hzw hyo.1.v
  obtain ⟨f, hfw⟩ : ∃ e, (⟨yz.v, yz.r, zw⟩ : En).add d = e := ⟨_, rfl⟩
  have hfo : f.Ok ∧ f.w = zw := by rw [← hfw]; exact En.qig hFo d
  have hfv := hfo.1.2; have hfr : f.r < 4294967296 := by have := qbv hfo.1.1; omega
  refine Jb I L ((JT∘JS'∘JQ∘JB) fun a I L => ?_)
  refine wp_seq ?_
  refine Jb I L ((Vs .n [10]) fun wd18 => (Vf 0 6∘Vp [2]∘Vf 5 1∘Vc 1 O4∘Vy 3 (h:=by exact Yl.ix0 gsA g 1 rfl rfl rfl)∘Vy 4 (v := .slice ((rs2.getD g Rw.zero).A) ((rs2.getD g Rw.zero).l.length) ((rs2.getD g Rw.zero).c)) (h:=by exact Yl.r1 9 g Rw.zero om rfl rfl rfl)∘Vo (vS gy yl.length yc) (by rw [hy])∘Vc 6 O3∘Vo (vI c) (by rw [hcc])∘Vy 7 (h:=by exact Yl.ix0 gy c 3 rfl rfl rfl)∘Vy 8 (v := .agg yz.cells) (h:=by exact Yl.loadS rfl rfl si_sp rfl (fun _ h => by have h2 := (h.rwRd 10 rfl om hy).q8 z8 hyz; rw [Nat.zero_add] at h2; exact h2))∘VA 9 .n #[vQ 0, vW 0, vQ 0]) fun w13 g13 => fun a I L HS => ?_)
  refine s_on I 10 rfl (e_sa I L 0 rfl rfl rfl rfl rfl si_sp rfl rfl (qmy yz) ?_)
  clear L; intro w18_10 L
  refine noS kr ?_
  refine qb kr ?_
  refine qz (fun aS wS => ∃ (g14 : Nat), Fr aS 164 [] [(14, vP g14 0), (13, vP g13 0), (105, .bool true), (12, vI g), (10, vP g10 0), (9, vP g9 0), (8, vI k), (72, .bool false), (7, vI id), (39, .bool false), (29, .bool false), (16, .bool false), (6, vI 0), (5, vI 0), (4, vP g4 0), (3, vP g3 0), (2, vP g2 0)] ∧ Mem W wS (.blk g14 f.cells 143 :: .blk g13 yz.cells 83 :: .blk g10 e.cells 143 :: .blk g9 t.cells 81 :: .blk g4 #[vI 0, vQ 0, vN, vN, vN, vN, vN] 45 :: .blk g3 o.cells 52 :: .blk g2 #[vI cp, vQ cr, vS ggA ng gc, vS glA nl lc, vS guA nu uc, vS gtA nt tc, vS gsA ns sc] 45 :: fG (some ⟨ggA, 0, none⟩) ng gc gs :: fI (some ⟨glA, 0, none⟩) nl lc (cl.set c (v + d)) :: fI (some ⟨guA, 0, none⟩) nu uc cu :: fT (some ⟨gtA, 0, none⟩) nt tc (ts.set k (t.put e)) :: fS (some ⟨gsA, 0, none⟩) ns sc rs2 :: (fR rs2 ++ (T)))) ?_ ?_
  ·
   refine Jb I L ((Vs .n [19]) fun wd19 => (Vf 0 0∘Vf 2 1∘Vf 4 0∘Vf 5 2∘Vp [7]∘Vf 12 6∘Vc 1 O0∘Vc 3 O0∘Vc 6 O5∘Vy 8 (h:=by exact Yl.ix0 ggA g 2 rfl rfl rfl)∘Vf 9 1∘Vy 10 (v := vI ((gs.getD g Gr.zero).weight)) (h:=by exact Yl.qh rfl rfl kr (fun _ h => h.qv q0 (i := 6) rfl (k := g) (off := 1) (x := (gs.getD g Gr.zero)) ((getD_at Gr.zero om)) rfl))∘Vo (vI zw) (by rw [hzw])∘Vc 13 O4∘Vo (vI d) (by rw [hod])) fun a I L HS => ?_)
   refine qj [11, 18] kr rfl ?_
   refine all_cons ?_ ?_
   ·refine qe I (i := 11) rfl rfl ?_
    refine e_is I L [vQ yz.v, vW yz.r, vI zw] (.agg #[vQ yz.v, vW yz.r, vW zw]) rfl rfl (zl yz.v yz.r (zw : Int) om _) fun w134 hbw L a I => ?_
    refine keepS (L.pt 11 [0, 1, 2, 3, 4, 5, 6, 7, 8, 9, 10]) (fun HS => ?_)
    refine qj [14, 18] kr rfl ?_
    refine all_cons ?_ ?_
    ·refine qe I (i := 14) rfl rfl ?_
     refine e_is I L [.agg #[vQ yz.v, vW yz.r, vW zw], vI d] (.tuple #[.agg f.cells, vI 0]) rfl rfl (qfb (⟨yz.v, yz.r, zw⟩ : En) f hFo d hd0 hfw _) fun w137 hbw L a I => ?_
     refine keepS (L.pt 11 [0, 1, 2, 3, 4, 5, 6, 7, 8, 9, 10]) (fun HS => ?_)
     refine Vb I L HS ((Vp [15]∘Vx 16∘Vx 17∘VA 18 .n #[vQ 0, vW 0, vW 0]) fun w14 g14 => fun a I L HS => ?_)
     refine s_on I 19 rfl (e_sa I L 0 rfl rfl rfl rfl rfl qr rfl rfl (q9 f) ?_)
     clear L; intro w19_19 L
     refine noS kr ?_
     refine ap I (pastS kr) [20] (bt 21 []) [] fun a I => ?_
     refine qb kr ?_
     exact ⟨g14, I.sub kr, L.pt 12 [0, 1, 2, 3, 4, 5, 6, 7, 8, 9, 10, 11]⟩
    refine all_cons ?_ all_nil
    refine qe I (i := 18) rfl rfl ?_
    refine s_ea I L #[vQ 0, vW 0, vW 0] ?_
    clear I L; intro a w14 g14 I L
    refine keepS (L.pt 12 [1, 2, 3, 4, 5, 6, 7, 8, 9, 10, 11]) (fun HS => ?_)
    refine Vb I L HS ((VI 14 (.f .n) (h:=by exact fun L => qfb (⟨yz.v, yz.r, zw⟩ : En) f hFo d hd0 hfw _)) fun w137 hbw => (Vp [15]∘Vx 16∘Vx 17) fun a I L HS => ?_)
    refine s_on I 19 rfl (e_sa I L 0 rfl rfl rfl rfl rfl qr rfl rfl (q9 f) ?_)
    clear L; intro w19_19 L
    refine noS kr ?_
    refine ap I (pastS kr) [20] (bt 21 []) [] fun a I => ?_
    refine qb kr ?_
    exact ⟨g14, I.sub kr, L.pt 12 [0, 1, 2, 3, 4, 5, 6, 7, 8, 9, 10, 11]⟩
   refine all_cons ?_ all_nil
   refine qe I (i := 18) rfl rfl ?_
   refine s_ea I L #[vQ 0, vW 0, vW 0] ?_
   clear I L; intro a w14 g14 I L
   refine keepS (L.pt 12 [1, 2, 3, 4, 5, 6, 7, 8, 9, 10, 11]) (fun HS => ?_)
   refine Vb I L HS ((VI 11 (.f .n) (h:=by exact fun L => zl yz.v yz.r (zw : Int) om _)) fun w134 hbw => (VI 14 (.f .n) (h:=by exact fun L => qfb (⟨yz.v, yz.r, zw⟩ : En) f hFo d hd0 hfw _)) fun w137 hbw => (Vp [15]∘Vx 16∘Vx 17) fun a I L HS => ?_)
   refine s_on I 19 rfl (e_sa I L 0 rfl rfl rfl rfl rfl qr rfl rfl (q9 f) ?_)
   clear L; intro w19_19 L
   refine noS kr ?_
   refine ap I (pastS kr) [20] (bt 21 []) [] fun a I => ?_
   refine qb kr ?_
   exact ⟨g14, I.sub kr, L.pt 12 [0, 1, 2, 3, 4, 5, 6, 7, 8, 9, 10, 11]⟩
  clear I L; rintro a w19 ⟨g14, I, L⟩
  refine qfd L [.blk g14 f.cells 143, .blk g13 yz.cells 83, .blk g10 e.cells 143, .blk g9 t.cells 81, .blk g4 #[vI 0, vQ 0, vN, vN, vN, vN, vN] 45, .blk g3 o.cells 52, .blk g2 #[vI cp, vQ cr, vS ggA ng gc, vS glA nl lc, vS guA nu uc, vS gtA nt tc, vS gsA ns sc] 45, fG (some ⟨ggA, 0, none⟩) ng gc gs, fI (some ⟨glA, 0, none⟩) nl lc (cl.set c (v + d)), fI (some ⟨guA, 0, none⟩) nu uc cu, fT (some ⟨gtA, 0, none⟩) nt tc (ts.set k (t.put e))] [0, 1, 2, 3, 4, 5, 6, 7, 8, 9, 10] [23] fun L HS => ?_
  refine ap I (fun _ => HS) [0, 2, 5, 7, 9, 12, 14, 16] (bf 24 [0, 2, 5, 7, 9, 12, 14, 16]) [(156, vP g14 1), (154, vP g14 0), (152, vP g3 1), (149, vI g), (147, vP g2 6), (145, vP g3 1), (142, vI g), (140, vP g2 6)] fun a I => ?_
  refine s_ac I HS 1 6 fun a I => ?_
  refine s_az I HS 3 rfl (v := vP gsA (g * 1)) (Yl.ix0 gsA g 1 rfl rfl rfl) fun a I => ?_
  refine s_ac I HS 6 5 (v := vI o.cpu) fun a I => ?_
  replace I := I.sp 146 (vI c) rfl (by rw [hcc])
  refine s_ac I HS 8 6 fun a I => ?_
  refine s_az I HS 10 rfl (v := vP gsA (g * 1)) (Yl.ix0 gsA g 1 rfl rfl rfl) fun a I => ?_
  refine s_ac I HS 13 5 (v := vI o.cpu) fun a I => ?_
  replace I := I.sp 153 (vI c) rfl (by rw [hcc])
  refine s_ac I HS 15 0 (v := vQ f.v) fun a I => ?_
  refine s_ac I HS 17 0 (v := vW f.r) fun a I => ?_
  refine qj [4, 11] kr rfl ?_
  refine all_cons ?_ ?_
  ·refine qe I (i := 4) rfl rfl ?_
   refine Yl.wp (S := fun wS => Mem W wS _) (v := .slice ((rs2.getD g Rw.zero).A) ((rs2.getD g Rw.zero).l.length) ((rs2.getD g Rw.zero).c)) (Yl.r1 11 g Rw.zero om rfl rfl rfl) I L rfl de fun a I => ?_
   replace I := I.sp 144 (vS gy yl.length yc) rfl (by rw [hy])
   refine keepS HS (fun HS => ?_)
   refine s_on I 11 rfl ?_
   refine Yl.wp (S := fun wS => Mem W wS _) (v := .slice ((rs2.getD g Rw.zero).A) ((rs2.getD g Rw.zero).l.length) ((rs2.getD g Rw.zero).c)) (Yl.r1 11 g Rw.zero om rfl rfl rfl) I L rfl de fun a I => ?_
   replace I := I.sp 151 (vS gy yl.length yc) rfl (by rw [hy])
   refine keepS HS (fun HS => ?_)
   refine s_az I HS 18 rfl (v := vP gy (c * 3)) (Yl.ix0 gy c 3 rfl rfl rfl) fun a I => ?_
   refine ap I (fun _ => HS) [19] (bt 24 [20, 21, 22, 23]) [(159, vP gy (c * 3))] fun a I => ?_
   refine s_on I 20 rfl ?_
   refine zb I L 11 (c := c) 0 ({ yz with v := f.v }) rfl rfl rfl rfl kr rfl rfl om (hy) (hyz) rfl de rfl ?_
   clear L; intro w20_20 L
   replace L : Mem W w20_20 (.blk g14 f.cells 143 :: .blk g13 yz.cells 83 :: .blk g10 e.cells 143 :: .blk g9 t.cells 81 :: .blk g4 #[vI 0, vQ 0, vN, vN, vN, vN, vN] 45 :: .blk g3 o.cells 52 :: .blk g2 #[vI cp, vQ cr, vS ggA ng gc, vS glA nl lc, vS guA nu uc, vS gtA nt tc, vS gsA ns sc] 45 :: fG (some ⟨ggA, 0, none⟩) ng gc gs :: fI (some ⟨glA, 0, none⟩) nl lc (cl.set c (v + d)) :: fI (some ⟨guA, 0, none⟩) nu uc cu :: fT (some ⟨gtA, 0, none⟩) nt tc (ts.set k (t.put e)) :: fS (some ⟨gsA, 0, none⟩) ns sc (rsPut rs2 g c ({ yz with v := f.v })) :: (fR (rsPut rs2 g c ({ yz with v := f.v })) ++ (T))) := L
   refine keepS (L.pk [0, 1, 2, 3, 4, 5, 6, 7, 8, 9, 10]) (fun HS => ?_)
   refine za I (fun _ => HS) (i := 21) rfl rfl (d := 160) rfl de kr (fun _ _ _ h => h) (v := vP gy (c * 3)) (fun _ => Yl.ix0 gy c 3 rfl rfl rfl) fun a I => ?_
   refine ap I (fun _ => HS) [22] (bt 24 [23]) [(161, vP gy (c * 3 + 1))] fun a I => ?_
   refine s_on I 23 rfl ?_
   refine zb I L 11 (c := c) 1 ({ yz with v := f.v, r := f.r }) rfl rfl rfl rfl kr rfl rfl (by first | omega | (rw [qt]; omega)) (qem om hy) (qbg hyz) rfl de rfl ?_
   clear L; intro w20_23 L
   replace L : Mem W w20_23 (.blk g14 f.cells 143 :: .blk g13 yz.cells 83 :: .blk g10 e.cells 143 :: .blk g9 t.cells 81 :: .blk g4 #[vI 0, vQ 0, vN, vN, vN, vN, vN] 45 :: .blk g3 o.cells 52 :: .blk g2 #[vI cp, vQ cr, vS ggA ng gc, vS glA nl lc, vS guA nu uc, vS gtA nt tc, vS gsA ns sc] 45 :: fG (some ⟨ggA, 0, none⟩) ng gc gs :: fI (some ⟨glA, 0, none⟩) nl lc (cl.set c (v + d)) :: fI (some ⟨guA, 0, none⟩) nu uc cu :: fT (some ⟨gtA, 0, none⟩) nt tc (ts.set k (t.put e)) :: fS (some ⟨gsA, 0, none⟩) ns sc (rsPut (rsPut rs2 g c ({ yz with v := f.v })) g c ({ yz with v := f.v, r := f.r })) :: (fR (rsPut (rsPut rs2 g c ({ yz with v := f.v })) g c ({ yz with v := f.v, r := f.r })) ++ (T))) := L
   rw [qbf (by first | omega | (rw [qt]; omega))] at L
   refine noS kr ?_
   refine qb kr ?_
   refine Jb I L ((JG∘JR∘Jf 0∘Jg 2 O6∘Jp 1∘Jy (h:=by exact Yl.ix0 ggA g 2 rfl rfl rfl)∘Jf 0∘Jy (v := vI ((gs.getD g Gr.zero).parent)) (h:=by exact Yl.qh rfl rfl kr (fun _ h => (by have := h.qv q0 (i := 7) rfl (k := g) (off := 0) (x := (gs.getD g Gr.zero)) ((getD_at Gr.zero om)) rfl; simpa using this)))∘Jo (vI p) (by rw [hpp])∘Jp 1∘Jd6∘Jq) fun a I L => ?_)
   exact ⟨_, om, p, (rsPut rs2 g c { yz with v := f.v, r := f.r }), by omega, by rw [qt]; exact hl2, hsp2.put { yz with v := f.v, r := f.r } ⟨hfv, hfr, hyo.1.floor⟩ (by rw [hzw]; have := hfo.1.1; rw [hfo.2] at this; exact this), by rw [← hst2, qcp (c := c) (d := d) (g := g) (p := p) (qac hgs om) hg0 hpp, qdx (x := (⟨cp, cr, some ⟨ggA, 0, none⟩, gc, gs, some ⟨glA, 0, none⟩, lc, (cl.set c (v + d)), some ⟨guA, 0, none⟩, uc, cu, some ⟨gtA, 0, none⟩, tc, (ts.set k (t.put e)), some ⟨gsA, 0, none⟩, sc, rs2⟩ : Stm)) (by show g < rs2.length; omega) hy hyz hzw hfw], rfl, I.sub kr, L.pt 12 [2, 3, 4, 5, 6, 7, 8, 9, 10, 11]⟩
  refine all_cons ?_ all_nil
  refine qe I (i := 11) rfl rfl ?_
  refine Yl.wp (S := fun wS => Mem W wS _) (v := .slice ((rs2.getD g Rw.zero).A) ((rs2.getD g Rw.zero).l.length) ((rs2.getD g Rw.zero).c)) (Yl.r1 11 g Rw.zero om rfl rfl rfl) I L rfl de fun a I => ?_
  replace I := I.sp 151 (vS gy yl.length yc) rfl (by rw [hy])
  refine keepS HS (fun HS => ?_)
  refine s_on I 4 rfl ?_
  refine Yl.wp (S := fun wS => Mem W wS _) (v := .slice ((rs2.getD g Rw.zero).A) ((rs2.getD g Rw.zero).l.length) ((rs2.getD g Rw.zero).c)) (Yl.r1 11 g Rw.zero om rfl rfl rfl) I L rfl de fun a I => ?_
  replace I := I.sp 144 (vS gy yl.length yc) rfl (by rw [hy])
  refine keepS HS (fun HS => ?_)
  refine s_az I HS 18 rfl (v := vP gy (c * 3)) (Yl.ix0 gy c 3 rfl rfl rfl) fun a I => ?_
  refine ap I (fun _ => HS) [19] (bt 24 [20, 21, 22, 23]) [(159, vP gy (c * 3))] fun a I => ?_
  refine s_on I 20 rfl ?_
  refine zb I L 11 (c := c) 0 ({ yz with v := f.v }) rfl rfl rfl rfl kr rfl rfl om (hy) (hyz) rfl de rfl ?_
  clear L; intro w20_20 L
  replace L : Mem W w20_20 (.blk g14 f.cells 143 :: .blk g13 yz.cells 83 :: .blk g10 e.cells 143 :: .blk g9 t.cells 81 :: .blk g4 #[vI 0, vQ 0, vN, vN, vN, vN, vN] 45 :: .blk g3 o.cells 52 :: .blk g2 #[vI cp, vQ cr, vS ggA ng gc, vS glA nl lc, vS guA nu uc, vS gtA nt tc, vS gsA ns sc] 45 :: fG (some ⟨ggA, 0, none⟩) ng gc gs :: fI (some ⟨glA, 0, none⟩) nl lc (cl.set c (v + d)) :: fI (some ⟨guA, 0, none⟩) nu uc cu :: fT (some ⟨gtA, 0, none⟩) nt tc (ts.set k (t.put e)) :: fS (some ⟨gsA, 0, none⟩) ns sc (rsPut rs2 g c ({ yz with v := f.v })) :: (fR (rsPut rs2 g c ({ yz with v := f.v })) ++ (T))) := L
  refine keepS (L.pk [0, 1, 2, 3, 4, 5, 6, 7, 8, 9, 10]) (fun HS => ?_)
  refine za I (fun _ => HS) (i := 21) rfl rfl (d := 160) rfl de kr (fun _ _ _ h => h) (v := vP gy (c * 3)) (fun _ => Yl.ix0 gy c 3 rfl rfl rfl) fun a I => ?_
  refine ap I (fun _ => HS) [22] (bt 24 [23]) [(161, vP gy (c * 3 + 1))] fun a I => ?_
  refine s_on I 23 rfl ?_
  refine zb I L 11 (c := c) 1 ({ yz with v := f.v, r := f.r }) rfl rfl rfl rfl kr rfl rfl (by first | omega | (rw [qt]; omega)) (qem om hy) (qbg hyz) rfl de rfl ?_
  clear L; intro w20_23 L
  replace L : Mem W w20_23 (.blk g14 f.cells 143 :: .blk g13 yz.cells 83 :: .blk g10 e.cells 143 :: .blk g9 t.cells 81 :: .blk g4 #[vI 0, vQ 0, vN, vN, vN, vN, vN] 45 :: .blk g3 o.cells 52 :: .blk g2 #[vI cp, vQ cr, vS ggA ng gc, vS glA nl lc, vS guA nu uc, vS gtA nt tc, vS gsA ns sc] 45 :: fG (some ⟨ggA, 0, none⟩) ng gc gs :: fI (some ⟨glA, 0, none⟩) nl lc (cl.set c (v + d)) :: fI (some ⟨guA, 0, none⟩) nu uc cu :: fT (some ⟨gtA, 0, none⟩) nt tc (ts.set k (t.put e)) :: fS (some ⟨gsA, 0, none⟩) ns sc (rsPut (rsPut rs2 g c ({ yz with v := f.v })) g c ({ yz with v := f.v, r := f.r })) :: (fR (rsPut (rsPut rs2 g c ({ yz with v := f.v })) g c ({ yz with v := f.v, r := f.r })) ++ (T))) := L
  rw [qbf (by first | omega | (rw [qt]; omega))] at L
  refine noS kr ?_
  refine qb kr ?_
  refine Jb I L ((JG∘JR∘Jf 0∘Jg 2 O6∘Jp 1∘Jy (h:=by exact Yl.ix0 ggA g 2 rfl rfl rfl)∘Jf 0∘Jy (v := vI ((gs.getD g Gr.zero).parent)) (h:=by exact Yl.qh rfl rfl kr (fun _ h => (by have := h.qv q0 (i := 7) rfl (k := g) (off := 0) (x := (gs.getD g Gr.zero)) ((getD_at Gr.zero om)) rfl; simpa using this)))∘Jo (vI p) (by rw [hpp])∘Jp 1∘Jd6∘Jq) fun a I L => ?_)
  exact ⟨_, om, p, (rsPut rs2 g c { yz with v := f.v, r := f.r }), by omega, by rw [qt]; exact hl2, hsp2.put { yz with v := f.v, r := f.r } ⟨hfv, hfr, hyo.1.floor⟩ (by rw [hzw]; have := hfo.1.1; rw [hfo.2] at this; exact this), by rw [← hst2, qcp (c := c) (d := d) (g := g) (p := p) (qac hgs om) hg0 hpp, qdx (x := (⟨cp, cr, some ⟨ggA, 0, none⟩, gc, gs, some ⟨glA, 0, none⟩, lc, (cl.set c (v + d)), some ⟨guA, 0, none⟩, uc, cu, some ⟨gtA, 0, none⟩, tc, (ts.set k (t.put e)), some ⟨gsA, 0, none⟩, sc, rs2⟩ : Stm)) (by show g < rs2.length; omega) hy hyz hzw hfw], rfl, I.sub kr, L.pt 12 [2, 3, 4, 5, 6, 7, 8, 9, 10, 11]⟩
 intro a I L
 have hd105 := of_decide_eq_false hb105
 refine Jb I L ((JF∘JX∘JG∘JP∘Jy (v := .agg #[vI cp, vQ cr, vS ggA ng gc, vS glA nl lc, vS guA nu uc, vS gtA nt tc, vS gsA ns sc]) (h:=by exact Yl.loadS rfl rfl si_st rfl (fun _ h => qa (h.blk (i := 4) rfl)))∘Jp 1∘JV si_st O2') fun w21_2 => (Jp 2∘Jj∘JZ) fun a I L => ?_)
 exact ret3 rfl I (.cellS (i := 2) I L rfl rfl si_st rfl) (.tmp I rfl) (.tmp I rfl) (qp (y := (⟨cp, cr, some ⟨ggA, 0, none⟩, gc, gs, some ⟨glA, 0, none⟩, lc, (cl.set c (v + d)), some ⟨guA, 0, none⟩, uc, cu, some ⟨gtA, 0, none⟩, tc, (ts.set k (t.put e)), some ⟨gsA, 0, none⟩, sc, rs2⟩ : Stm)) 5 L rfl ⟨hlg, by show (cl.set _ _).length = nl; rw [List.length_set]; exact hll, hlu, by show (ts.set _ _).length = nt; rw [List.length_set]; exact hlt, hl2⟩ ((qni (x := (⟨cp, cr, some ⟨ggA, 0, none⟩, gc, gs, some ⟨glA, 0, none⟩, lc, cl, some ⟨guA, 0, none⟩, uc, cu, some ⟨gtA, 0, none⟩, tc, ts, some ⟨gsA, 0, none⟩, sc, rs⟩ : Stm)) (decide_eq_true (by show 0 ≤ o.cpu ∧ o.cpu < cp; omega)) htk hcc hod hv om hid hid0 hk ht hgt hwt hew).trans (by rw [← show qb6 c d g (⟨cp, cr, some ⟨ggA, 0, none⟩, gc, gs, some ⟨glA, 0, none⟩, lc, cl.set c (v + d), some ⟨guA, 0, none⟩, uc, cu, some ⟨gtA, 0, none⟩, tc, ts.set k (t.put e), some ⟨gsA, 0, none⟩, sc, rs2⟩ : Stm).sta = _ from hst2, show g = 0 by omega]; rfl)))
theorem qu8 {l : List Tk} {id : Int} {n : Nat} (hn : n ≤ l.length) (hu : ∀ j, j < l.length → (l.getD j Tk.zero).id ≠ id) (h : ¬ (n < l.length ∧ (l.getD n Tk.zero).id < id)) : n = l.length ∨ id < (l.getD n Tk.zero).id := by
 rcases Nat.lt_or_ge n l.length with h1 | h1
 ·have := hu n h1
  exact .inr om
 ·exact .inl om
theorem qxa {s : Sta} (hG : GoodS s) {t : Tk} (ht : t ∈ s.ts) {c : Nat} (hc : t.cpu = (c : Int)) : t.id ∈ s.cu ↔ s.cu.getD c 0 = t.id := by
 have hid := (hG.sh.tasks t ht).id
 constructor
 ·intro h
  obtain ⟨d, hd, he⟩ := z4 0 h
  rcases hG.cur d hd with h0 | ⟨u, hu, h1, h2, h3⟩
  ·omega
  ·obtain rfl := qrn hG.sh.sort hu ht om
   rw [show c = d by omega]
   exact he
 ·intro h
  have hcp := (hG.sh.tasks t ht).cpu
  have hcu := hG.sh.cu
  rw [← h]
  exact qf 0 om
section
variable {x : Stm} {o : Op30} {t : Tk} {be fr mo lc : Int} {c ct bb : Nat}
theorem qxb (hcc : o.cpu = (c : Int)) (hbz : busyF x.sta o.cpu x.cpus.toNat = (fr, mo)) (hlc : loadS x.sta c = lc) (hct : t.cpu = (ct : Int)) : mayB x.sta o t = decide (t.ready = true ∧ t.cpu = fr ∧ (t.mask / 2 ^ c) % 2 = 1 ∧ x.cu.getD ct 0 ≠ t.id ∧ 2 * t.weight ≤ mo - lc) := by
 unfold mayB bitOn
 rw [show x.sta.cpus = x.cpus from rfl, hbz, hcc, Int.toNat_natCast, hlc, show x.sta.cu = x.cu from rfl, hct, Int.toNat_natCast]
 simp
theorem qu9 {w y fr : Int} {a : Prop} {q : Nat} {z : Prop} (h1 : t.ready = true) (h2 : t.cpu = fr) (h3 : q = 1) (h4 : ¬ z) (h5 : a ↔ ¬ (w ≤ y)) : a ↔ ¬ (t.ready = true ∧ t.cpu = fr ∧ q = 1 ∧ ¬ z ∧ w ≤ y) := by
 rw [h5]
 exact ⟨fun h k => h k.2.2.2.2, fun h k => h ⟨h1, h2, h3, h4, k⟩⟩
theorem qs7 (hbb : be.toNat = bb) (h1 : mayB x.sta o t = true) (h2 : be < 0 ∨ (x.ts.getD bb Tk.zero).weight < t.weight) : qbh x.sta o be t = true := by
 unfold qbh
 rw [h1, hbb, Bool.true_and, Bool.or_eq_true, decide_eq_true_eq, decide_eq_true_eq]
 exact h2
theorem qs8 (hbb : be.toNat = bb) (h2 : ¬ (be < 0 ∨ (x.ts.getD bb Tk.zero).weight < t.weight)) : ¬ qbh x.sta o be t = true := by
 unfold qbh
 rw [hbb, Bool.and_eq_true, Bool.or_eq_true, decide_eq_true_eq, decide_eq_true_eq]
 exact fun h => h2 h.2
theorem qs9 (h1 : mayB x.sta o t = false) : ¬ qbh x.sta o be t = true := by
 unfold qbh
 rw [h1]
 simp
end
theorem qpt (W w : World) (x : Stm) (ng nl nu nt ns : Nat) (hx : MdOk x ng nl nu nt ns) (T : List Fact) (L : Mem W w (sdA x ng nl nu nt ns ++ T)) (o : Op30) (ho : o.Ok) :
    Calls Tryz.prog 70 #[.agg (sdC x ng nl nu nt ns), .agg o.cells] w (OpOut W T (qcd x.sta o)) := by
 obtain ⟨cp, cr, gA, gc, gs, lA, lc, cl, uA, uc, cu, tA, tc, ts, sA, sc, rs⟩ := x
 replace L : Mem W w (fG gA ng gc gs :: fI lA nl lc cl :: fI uA nu uc cu :: fT tA nt tc ts :: fS sA ns sc rs :: (fR rs ++ (T))) := L
 have hln := hx.ln
 obtain ⟨hlg, hll, hlu, hlt, hls⟩ := hln
 replace hlg : gs.length = ng := hlg; replace hll : cl.length = nl := hll; replace hlu : cu.length = nu := hlu; replace hlt : ts.length = nt := hlt; replace hls : rs.length = ns := hls
 have hlns := hx.ln
 have hsp : SpsOk gs cp rs := hx.spots
 have hrg : rs.length = gs.length := hx.sh.rs
 have hcr : cr < 18446744073709551616 := hx.ok.credit
 obtain ⟨hcp1, hcp2, _, hgs⟩ := zj hx.sh.cfg
 replace hcp1 : 1 ≤ cp := hcp1; replace hcp2 : cp ≤ 64 := hcp2; replace hgs : gsOk gs = true := hgs
 have hgl1 := (qo hgs).1; have hgl2 := (qo hgs).2.1
 have hcll : (cl.length : Int) = cp := hx.sh.cl; have hcul : (cu.length : Int) = cp := hx.sh.cu
 have hfts : ts.length ≤ 1000000 := hx.few.t
 have hoc := ho.cpu; have hot := ho.task; have hog := ho.group; have how := ho.weight; have hoto := ho.to; have hotk := ho.ticks; have hom := ho.mask; have hok8 := ho.kind; unfold I64 at hoc hot hog how hoto hotk
 have hsx := qrp hx
 obtain ⟨cn, hcn⟩ : ∃ n : Nat, cp = (n : Int) := ⟨cp.toNat, by omega⟩
 obtain ⟨gsA, rfl⟩ := qi (L.own (i := 4) rfl) om
 show Calls Tryz.prog 70 #[.agg #[vI cp, vQ cr, .slice gA ng gc, .slice lA nl lc, .slice uA nu uc, .slice tA nt tc, vS gsA ns sc], .agg o.cells] w _
 refine (Jin2 L Tryz.func70 146) ?_
 refine (JP∘JE) fun w2 g2 => (JE) fun w3 g3 => (JA #[vI 0, vQ 0, vN, vN, vN, vN, vN]) fun w4 g4 => (Jp 2∘Jj∘JQ∘JB∘JP∘Jg 1 O1∘Jp 2) (Ji (fun hd14 => ?_) fun hd14 => ?_)
 ·
  refine (Jv 8 [(10, .bool true)]∘Jd3∘Jj∘JT∘JP∘Jy (v := .agg #[vI cp, vQ cr, .slice gA ng gc, .slice lA nl lc, .slice uA nu uc, .slice tA nt tc, vS gsA ns sc]) (h:=by exact Yl.loadS rfl rfl si_st rfl (fun _ h => qa (h.blk (i := 2) rfl)))∘JV si_st O0') fun w2_1 => (Jp 2∘Jj∘JZ) fun a I L => ?_
  exact ret3 rfl I (.cellS (i := 0) I L rfl rfl si_st rfl) (.tmp I rfl) (.tmp I rfl) (qp (y := (⟨cp, cr, gA, gc, gs, lA, lc, cl, uA, uc, cu, tA, tc, ts, some ⟨gsA, 0, none⟩, sc, rs⟩ : Stm)) 3 L rfl hlns (if_pos (decide_eq_false (by show ¬ (0 ≤ o.cpu ∧ o.cpu < cp); omega))))
 refine (Jg 1 O1∘Jf 0∘Jg 0 O2∘Jp 3∘Jd6∘Jj) (Ju (fun hb10 => ?_) fun hb10 => ?_)
 ·
  intro a I L
  have hd10 := of_decide_eq_true hb10
  refine Jb I L ((JT∘JP∘Jy (v := .agg #[vI cp, vQ cr, .slice gA ng gc, .slice lA nl lc, .slice uA nu uc, .slice tA nt tc, vS gsA ns sc]) (h:=by exact Yl.loadS rfl rfl si_st rfl (fun _ h => qa (h.blk (i := 2) rfl)))∘JV si_st O0') fun w2_1 => (Jp 2∘Jj∘JZ) fun a I L => ?_)
  exact ret3 rfl I (.cellS (i := 0) I L rfl rfl si_st rfl) (.tmp I rfl) (.tmp I rfl) (qp (y := (⟨cp, cr, gA, gc, gs, lA, lc, cl, uA, uc, cu, tA, tc, ts, some ⟨gsA, 0, none⟩, sc, rs⟩ : Stm)) 3 L rfl hlns (if_pos (decide_eq_false (by show ¬ (0 ≤ o.cpu ∧ o.cpu < cp); omega))))
 intro a I L
 have hd10 := of_decide_eq_false hb10
 obtain ⟨c, hcc⟩ : ∃ n : Nat, o.cpu = (n : Int) := ⟨o.cpu.toNat, by omega⟩
 have hccp : ((c : Nat) : Int) < cp := by omega
 refine Jb I L ((JF∘JP∘Jg 2 O1∘Jp 2) (Ji (fun hd27 => ?_) fun hd27 => ?_))
 ·
  refine (Jp 5∘Jd6∘Jj∘JT∘JP∘Jy (v := .agg #[vI cp, vQ cr, .slice gA ng gc, .slice lA nl lc, .slice uA nu uc, .slice tA nt tc, vS gsA ns sc]) (h:=by exact Yl.loadS rfl rfl si_st rfl (fun _ h => qa (h.blk (i := 2) rfl)))∘JV si_st O0') fun w4_1 => (Jp 2∘Jj∘JZ) fun a I L => ?_
  exact ret3 rfl I (.cellS (i := 0) I L rfl rfl si_st rfl) (.tmp I rfl) (.tmp I rfl) (qp (y := (⟨cp, cr, gA, gc, gs, lA, lc, cl, uA, uc, cu, tA, tc, ts, some ⟨gsA, 0, none⟩, sc, rs⟩ : Stm)) 3 L rfl hlns ((if_neg (nf (decide_eq_true (by show 0 ≤ o.cpu ∧ o.cpu < cp; omega)))).trans (if_pos (decide_eq_false (by show ¬ (1 ≤ o.task ∧ o.task ≤ 65535); omega)))))
 refine (Jg 2 O1∘Jp 3∘Jd6∘Jj) (Ji (fun hd23 => ?_) fun hd23 => ?_)
 ·
  refine (JT∘JP∘Jy (v := .agg #[vI cp, vQ cr, .slice gA ng gc, .slice lA nl lc, .slice uA nu uc, .slice tA nt tc, vS gsA ns sc]) (h:=by exact Yl.loadS rfl rfl si_st rfl (fun _ h => qa (h.blk (i := 2) rfl)))∘JV si_st O0') fun w4_1 => (Jp 2∘Jj∘JZ) fun a I L => ?_
  exact ret3 rfl I (.cellS (i := 0) I L rfl rfl si_st rfl) (.tmp I rfl) (.tmp I rfl) (qp (y := (⟨cp, cr, gA, gc, gs, lA, lc, cl, uA, uc, cu, tA, tc, ts, some ⟨gsA, 0, none⟩, sc, rs⟩ : Stm)) 3 L rfl hlns ((if_neg (nf (decide_eq_true (by show 0 ≤ o.cpu ∧ o.cpu < cp; omega)))).trans (if_pos (decide_eq_false (by show ¬ (1 ≤ o.task ∧ o.task ≤ 65535); omega)))))
 refine (JF∘JP∘Jg 3 O1∘Jp 2) (Ji (fun hd37 => ?_) fun hd37 => ?_)
 ·
  refine (Jv 9 [(33, .bool true)]∘Jd3∘Jj∘JT∘JP∘Jy (v := .agg #[vI cp, vQ cr, .slice gA ng gc, .slice lA nl lc, .slice uA nu uc, .slice tA nt tc, vS gsA ns sc]) (h:=by exact Yl.loadS rfl rfl si_st rfl (fun _ h => qa (h.blk (i := 2) rfl)))∘JV si_st O0') fun w6_1 => (Jp 2∘Jj∘JZ) fun a I L => ?_
  exact ret3 rfl I (.cellS (i := 0) I L rfl rfl si_st rfl) (.tmp I rfl) (.tmp I rfl) (qp (y := (⟨cp, cr, gA, gc, gs, lA, lc, cl, uA, uc, cu, tA, tc, ts, some ⟨gsA, 0, none⟩, sc, rs⟩ : Stm)) 3 L rfl hlns ((if_neg (nf (decide_eq_true (by show 0 ≤ o.cpu ∧ o.cpu < cp; omega)))).trans ((if_neg (nf (decide_eq_true (by show 1 ≤ o.task ∧ o.task ≤ 65535; omega)))).trans (if_pos (by show ¬ (0 ≤ o.group ∧ o.group < ((rs.map Rw.l).length : Nat)); rw [List.length_map]; omega)))))
 refine (Jg 3 O1∘Jf 0∘Jg 2 O2∘Jl∘Jp 3∘Jd6∘Jj) (Ju (fun hb33 => ?_) fun hb33 => ?_)
 ·
  intro a I L
  have hd33 := of_decide_eq_true hb33
  refine Jb I L ((JT∘JP∘Jy (v := .agg #[vI cp, vQ cr, .slice gA ng gc, .slice lA nl lc, .slice uA nu uc, .slice tA nt tc, vS gsA ns sc]) (h:=by exact Yl.loadS rfl rfl si_st rfl (fun _ h => qa (h.blk (i := 2) rfl)))∘JV si_st O0') fun w6_1 => (Jp 2∘Jj∘JZ) fun a I L => ?_)
  exact ret3 rfl I (.cellS (i := 0) I L rfl rfl si_st rfl) (.tmp I rfl) (.tmp I rfl) (qp (y := (⟨cp, cr, gA, gc, gs, lA, lc, cl, uA, uc, cu, tA, tc, ts, some ⟨gsA, 0, none⟩, sc, rs⟩ : Stm)) 3 L rfl hlns ((if_neg (nf (decide_eq_true (by show 0 ≤ o.cpu ∧ o.cpu < cp; omega)))).trans ((if_neg (nf (decide_eq_true (by show 1 ≤ o.task ∧ o.task ≤ 65535; omega)))).trans (if_pos (by show ¬ (0 ≤ o.group ∧ o.group < ((rs.map Rw.l).length : Nat)); rw [List.length_map]; omega)))))
 intro a I L
 have hd33 := of_decide_eq_false hb33
 obtain ⟨g, hgg⟩ : ∃ n : Nat, o.group = (n : Int) := ⟨o.group.toNat, by omega⟩
 refine Jb I L ((JF∘JP∘Jg 4 O1∘JL (h:=by exact fun L => qa8 o.weight _)) ?_)
 rintro L _ w50 ⟨rfl, hbw⟩
 refine ⟨_, rfl, _, L.call hbw, ?_⟩
 refine (Jp 2) (Ji' (fun hd52 => ?_) fun hd52 => ?_)
 ·
  refine (Jv 13 [(47, .bool true)]∘Jd4∘Jj∘JT∘JP∘Jy (v := .agg #[vI cp, vQ cr, .slice gA ng gc, .slice lA nl lc, .slice uA nu uc, .slice tA nt tc, vS gsA ns sc]) (h:=by exact Yl.loadS rfl rfl si_st rfl (fun _ h => qa (h.blk (i := 2) rfl)))∘JV si_st O0') fun w8_1 => (Jp 2∘Jj∘JZ) fun a I L => ?_
  exact ret3 rfl I (.cellS (i := 0) I L rfl rfl si_st rfl) (.tmp I rfl) (.tmp I rfl) (qp (y := (⟨cp, cr, gA, gc, gs, lA, lc, cl, uA, uc, cu, tA, tc, ts, some ⟨gsA, 0, none⟩, sc, rs⟩ : Stm)) 3 L rfl hlns ((if_neg (nf (decide_eq_true (by show 0 ≤ o.cpu ∧ o.cpu < cp; omega)))).trans ((if_neg (nf (decide_eq_true (by show 1 ≤ o.task ∧ o.task ≤ 65535; omega)))).trans ((if_neg (by show ¬ ¬ (0 ≤ o.group ∧ o.group < ((rs.map Rw.l).length : Nat)); rw [List.length_map]; omega)).trans (if_pos (qf1 hcn (fun h => hd52 ⟨h.1, h.2.1⟩)))))))
 refine (Jg 7 O1∘Jp 3) (Je (fun hd57 => ?_) fun hd57 => ?_)
 ·
  refine (Jv 8 [(47, .bool true)]∘Jd6∘Jj∘JT∘JP∘Jy (v := .agg #[vI cp, vQ cr, .slice gA ng gc, .slice lA nl lc, .slice uA nu uc, .slice tA nt tc, vS gsA ns sc]) (h:=by exact Yl.loadS rfl rfl si_st rfl (fun _ h => qa (h.blk (i := 2) rfl)))∘JV si_st O0') fun w8_1 => (Jp 2∘Jj∘JZ) fun a I L => ?_
  exact ret3 rfl I (.cellS (i := 0) I L rfl rfl si_st rfl) (.tmp I rfl) (.tmp I rfl) (qp (y := (⟨cp, cr, gA, gc, gs, lA, lc, cl, uA, uc, cu, tA, tc, ts, some ⟨gsA, 0, none⟩, sc, rs⟩ : Stm)) 3 L rfl hlns ((if_neg (nf (decide_eq_true (by show 0 ≤ o.cpu ∧ o.cpu < cp; omega)))).trans ((if_neg (nf (decide_eq_true (by show 1 ≤ o.task ∧ o.task ≤ 65535; omega)))).trans ((if_neg (by show ¬ ¬ (0 ≤ o.group ∧ o.group < ((rs.map Rw.l).length : Nat)); rw [List.length_map]; omega)).trans (if_pos (qf1 hcn (fun h => h.2.2.1 om)))))))
 refine (Jg 7 O1∘Jf 0∘Jf 0∘Jc O2∘Jo (vI cn) (by rw [hcn])∘JI (h:=by exact fun L => qk7 o.mask cn hom om _)) fun w63 hbw => (Jp 2∘Jd6∘Jj) (Ju (fun hb47 => ?_) fun hb47 => ?_)
 ·
  intro a I L
  have hd47 := of_decide_eq_true hb47
  refine Jb I L ((JT∘JP∘Jy (v := .agg #[vI cp, vQ cr, .slice gA ng gc, .slice lA nl lc, .slice uA nu uc, .slice tA nt tc, vS gsA ns sc]) (h:=by exact Yl.loadS rfl rfl si_st rfl (fun _ h => qa (h.blk (i := 2) rfl)))∘JV si_st O0') fun w8_1 => (Jp 2∘Jj∘JZ) fun a I L => ?_)
  exact ret3 rfl I (.cellS (i := 0) I L rfl rfl si_st rfl) (.tmp I rfl) (.tmp I rfl) (qp (y := (⟨cp, cr, gA, gc, gs, lA, lc, cl, uA, uc, cu, tA, tc, ts, some ⟨gsA, 0, none⟩, sc, rs⟩ : Stm)) 3 L rfl hlns ((if_neg (nf (decide_eq_true (by show 0 ≤ o.cpu ∧ o.cpu < cp; omega)))).trans ((if_neg (nf (decide_eq_true (by show 1 ≤ o.task ∧ o.task ≤ 65535; omega)))).trans ((if_neg (by show ¬ ¬ (0 ≤ o.group ∧ o.group < ((rs.map Rw.l).length : Nat)); rw [List.length_map]; omega)).trans (if_pos (qf1 hcn (fun h => h.2.2.2 hd47)))))))
 intro a I L
 have hd47 := of_decide_eq_false hb47
 have hmb := Nat.div_le_self o.mask (2 ^ c)
 refine Jb I L ((JF∘JP∘Jy (v := .agg #[vI cp, vQ cr, .slice gA ng gc, .slice lA nl lc, .slice uA nu uc, .slice tA nt tc, vS gsA ns sc]) (h:=by exact Yl.loadS rfl rfl si_st rfl (fun _ h => qa (h.blk (i := 2) rfl)))∘Jg 2 O1∘JI (h:=by exact fun L => qer (x := (⟨cp, cr, gA, gc, gs, lA, lc, cl, uA, uc, cu, tA, tc, ts, some ⟨gsA, 0, none⟩, sc, rs⟩ : Stm)) hlns (L.sdRd 3 rfl hlns) hfts o.task)) fun w70 hbw => (Jp 2∘Jd4∘Jj) (Ju (fun hb66 => ?_) fun hb66 => ?_))
 ·
  intro a I L
  have hd66 := of_decide_eq_true hb66
  refine Jb I L ((JT∘JP∘Jy (v := .agg #[vI cp, vQ cr, .slice gA ng gc, .slice lA nl lc, .slice uA nu uc, .slice tA nt tc, vS gsA ns sc]) (h:=by exact Yl.loadS rfl rfl si_st rfl (fun _ h => qa (h.blk (i := 2) rfl)))∘JV si_st O0') fun w10_1 => (Jp 2∘Jj∘JZ) fun a I L => ?_)
  exact ret3 rfl I (.cellS (i := 0) I L rfl rfl si_st rfl) (.tmp I rfl) (.tmp I rfl) (qp (y := (⟨cp, cr, gA, gc, gs, lA, lc, cl, uA, uc, cu, tA, tc, ts, some ⟨gsA, 0, none⟩, sc, rs⟩ : Stm)) 3 L rfl hlns ((if_neg (nf (decide_eq_true (by show 0 ≤ o.cpu ∧ o.cpu < cp; omega)))).trans ((if_neg (nf (decide_eq_true (by show 1 ≤ o.task ∧ o.task ≤ 65535; omega)))).trans ((if_neg (by show ¬ ¬ (0 ≤ o.group ∧ o.group < ((rs.map Rw.l).length : Nat)); rw [List.length_map]; omega)).trans ((if_neg ((qdy hcn ⟨hd52.1, hd52.2, by omega, hd47⟩))).trans (if_pos (by show 0 ≤ fidx ts o.task; omega)))))))
 intro a I L
 have hd66 := of_decide_eq_false hb66
 replace hd66 : ¬ (fidx ts o.task ≥ 0) := hd66
 have hu0 : ∀ j, j < ts.length → (ts.getD j Tk.zero).id ≠ o.task := fun j hj => qkt (l := ts) om _ (qf Tk.zero hj)
 refine Jb I L ((JF∘JP∘Jg 7 O1∘Jf 1∘Jc O1∘Jo (vI c) (by rw [hcc])∘Jy (v := vQ (o.mask / 2 ^ c : Nat)) (h:=by exact Yl.shrN (m := o.mask) (n := c) rfl rfl rfl (by show _ ≤ 64; omega))∘Jp 1∘Jo (vQ ((o.mask / 2 ^ c) % 2 : Nat)) (by exact qav .u64 _ 2)∘Jp 2∘Jd6∘Jj) (Ju (fun hb73 => ?_) fun hb73 => ?_))
 ·
  intro a I L
  have hd73 := eq_of_beq hb73
  refine Jb I L ((JT∘JP∘Jy (v := .agg #[vI cp, vQ cr, .slice gA ng gc, .slice lA nl lc, .slice uA nu uc, .slice tA nt tc, vS gsA ns sc]) (h:=by exact Yl.loadS rfl rfl si_st rfl (fun _ h => qa (h.blk (i := 2) rfl)))∘JV si_st O0') fun w12_1 => (Jp 2∘Jj∘JZ) fun a I L => ?_)
  exact ret3 rfl I (.cellS (i := 0) I L rfl rfl si_st rfl) (.tmp I rfl) (.tmp I rfl) (qp (y := (⟨cp, cr, gA, gc, gs, lA, lc, cl, uA, uc, cu, tA, tc, ts, some ⟨gsA, 0, none⟩, sc, rs⟩ : Stm)) 3 L rfl hlns ((if_neg (nf (decide_eq_true (by show 0 ≤ o.cpu ∧ o.cpu < cp; omega)))).trans ((if_neg (nf (decide_eq_true (by show 1 ≤ o.task ∧ o.task ≤ 65535; omega)))).trans ((if_neg (by show ¬ ¬ (0 ≤ o.group ∧ o.group < ((rs.map Rw.l).length : Nat)); rw [List.length_map]; omega)).trans ((if_neg ((qdy hcn ⟨hd52.1, hd52.2, by omega, hd47⟩))).trans ((if_neg (by show ¬ 0 ≤ fidx ts o.task; omega)).trans (if_pos (qns rfl hcc om))))))))
 intro a I L
 have hd73 := ne_of_beq_false hb73
 obtain ⟨⟨yA, yc, yl⟩, hy⟩ : ∃ y, rs.getD g Rw.zero = y := ⟨_, rfl⟩
 have hys := hsp g om; rw [hy] at hys
 have hyl : (yl.length : Int) = cp := hys.1
 revert L; revert a; repeat (first | clear I | clear L)
 intro a I L
 obtain ⟨gy, rfl⟩ := L.rwSome 8 rfl om hy om
 obtain ⟨yz, hyz⟩ : ∃ z, yl[c]? = some z := ⟨_, List.getElem?_eq_getElem om⟩
 have hyo := hys.2 yz (List.mem_of_getElem? hyz)
 have hyv := hyo.1.v; have hyr := hyo.1.r; have hyf := hyo.1.floor
 obtain ⟨tn, htn⟩ : ∃ z : Tk, (⟨o.task, o.group, o.weight, o.cpu, o.mask, true, yz.floor, 0⟩ : Tk) = z := ⟨_, rfl⟩
 have hti : tn.id = o.task := by rw [← htn]
 have htg2 : tn.group = (g : Int) := by rw [← htn]; exact hgg
 have htc2 : tn.cpu = (c : Int) := by rw [← htn]; exact hcc
 have hsy := qan (x := (⟨cp, cr, gA, gc, gs, lA, lc, cl, uA, uc, cu, tA, tc, ts, some ⟨gsA, 0, none⟩, sc, rs⟩ : Stm)) (by show g < rs.length; omega) hy hyz
 have htcap : nt ≤ tc := qv0 (L.own (i := 6) rfl)
 refine Jb I L ((JF∘JS'∘JP∘Jy (v := .agg #[vI cp, vQ cr, .slice gA ng gc, .slice lA nl lc, .slice uA nu uc, .slice tA nt tc, vS gsA ns sc]) (h:=by exact Yl.loadS rfl rfl si_st rfl (fun _ h => qa (h.blk (i := 2) rfl)))∘JL (h:=by exact fun L => qfa (x := (⟨cp, cr, gA, gc, gs, lA, lc, cl, uA, uc, cu, tA, tc, ts, some ⟨gsA, 0, none⟩, sc, rs⟩ : Stm)) hlns (L.sdRd 3 rfl hlns) (hx.few))) ?_)
 rintro L _ w83 ⟨y, rfl, heq, hcap, hm⟩
 refine ⟨_, rfl, _, (show Mem W _ (.blk g4 #[vI 0, vQ 0, vN, vN, vN, vN, vN] 45 :: .blk g3 o.cells 52 :: .blk g2 #[vI cp, vQ cr, .slice gA ng gc, .slice lA nl lc, .slice uA nu uc, .slice tA nt tc, vS gsA ns sc] 45 :: fG gA ng gc gs :: fI lA nl lc cl :: fI uA nu uc cu :: fT tA nt tc ts :: fS (some ⟨gsA, 0, none⟩) ns sc rs :: (fR rs ++ (stF y ++ (T)))) from L.joinG (A := fR rs) (T := (T)) 8 hm rfl), ?_⟩
 refine (JA #[vI 0, vQ 0, vN, vN, vN, vN, vN]) fun w7 g7 => (JV si_st O0' (h1:=by exact q5 y)) fun w13_3 => (Jd2∘Jq) fun a I L => ?_
 have hyS : y.sta = (⟨cp, cr, gA, gc, gs, lA, lc, cl, uA, uc, cu, tA, tc, ts, some ⟨gsA, 0, none⟩, sc, rs⟩ : Stm).sta := qfk heq
 have hsz : Shp y.sta := by rw [hyS]; exact hsx
 refine wp_seq ?_
 refine Jb I L ((Vs .n [23]) fun wd14 => (Vf 0 2∘Vf 2 3∘Vf 4 4∘Vf 6 1∘Vf 8 7∘Vf 10 6∘Vf 12 3∘Vf 16 1∘Vc 1 O2∘Vc 3 O2∘Vc 5 O2∘Vc 7 O2∘Vc 9 O2∘Vc 11 O3∘Vc 13 O2∘Vo (vI g) (by rw [hgg])∘Vy 14 (h:=by exact Yl.ix0 gsA g 1 rfl rfl rfl)∘Vy 15 (v := .slice ((rs.getD g Rw.zero).A) ((rs.getD g Rw.zero).l.length) ((rs.getD g Rw.zero).c)) (h:=by exact Yl.r1 8 g Rw.zero om rfl rfl rfl)∘Vo (vS gy yl.length yc) (by rw [hy])∘Vc 17 O2∘Vo (vI c) (by rw [hcc])∘Vy 18 (h:=by exact Yl.ix0 gy c 3 rfl rfl rfl)∘Vf 19 2∘Vy 20 (v := vQ yz.floor) (h:=by exact Yl.qh rfl rfl kr (fun _ h => h.qa1 9 (j := 2) rfl om hy (hyz) rfl))∘Vy 21 (v := .agg #[vI o.task, vI o.group, vI o.weight, vI o.cpu, vQ o.mask, .bool true, vQ yz.floor, vW 0]) (h:=by exact Yl.build (vs := [(0, vI o.task), (1, vI o.group), (2, vI o.weight), (3, vI o.cpu), (4, vQ o.mask), (5, .bool true), (6, vQ yz.floor)]) rfl kr kr)∘Vo (.agg tn.cells) (by rw [← htn]; try rfl)∘VA 22 .n #[vI 0, vI 0, vI 0, vI 0, vQ 0, .bool false, vQ 0, vW 0]) fun w8 g8 => fun a I L HS => ?_)
 refine s_on I 23 rfl (e_sa I L 0 rfl rfl rfl rfl rfl si_tk rfl rfl (qa4 tn) ?_)
 clear L; intro w14_23 L
 refine noS kr ?_
 refine qb kr ?_
 refine Jb I L ((JP∘Jp 1∘Jj∘JQ∘JB) fun a I L => ?_)
 refine qg (fun mS aS wS => ∃ (n : Nat), (n ≤ ts.length) ∧ (∀ j, j < n → (ts.getD j Tk.zero).id ≤ o.task) ∧ mS = ts.length - n ∧ Fr aS 146 [] [(9, vI n), (8, vP g8 0), (7, vP g7 0), (73, .bool false), (66, .bool false), (47, .bool false), (33, .bool false), (23, .bool false), (10, .bool false), (6, vI 0), (5, vI 0), (4, vP g4 0), (3, vP g3 0), (2, vP g2 0)] ∧ Mem W wS (.blk g8 tn.cells 81 :: .blk g7 y.cells 45 :: .blk g4 #[vI 0, vQ 0, vN, vN, vN, vN, vN] 45 :: .blk g3 o.cells 52 :: .blk g2 #[vI cp, vQ cr, .slice gA ng gc, .slice lA nl lc, .slice uA nu uc, .slice tA nt tc, vS gsA ns sc] 45 :: fG gA ng gc gs :: fI lA nl lc cl :: fI uA nu uc cu :: fT tA nt tc ts :: fS (some ⟨gsA, 0, none⟩) ns sc rs :: (fR rs ++ (stF y ++ (T))))) (m := ts.length - 0) ⟨0, Nat.zero_le _, fun j h => by omega, rfl, I.sub kr, L.pt 10 [0, 1, 2, 3, 4, 5, 6, 7, 8, 9]⟩ ?_
 clear I L; rintro mS a w_ ⟨n, hn, hu, rfl, I, L⟩
 refine Jb I L ((JQ) fun a I L => ?_)
 refine qz (fun aS wS => Fr aS 146 [] [(121, .bool (decide (n < ts.length ∧ (ts.getD n Tk.zero).id < o.task))), (9, vI n), (8, vP g8 0), (7, vP g7 0), (73, .bool false), (66, .bool false), (47, .bool false), (33, .bool false), (23, .bool false), (10, .bool false), (6, vI 0), (5, vI 0), (4, vP g4 0), (3, vP g3 0), (2, vP g2 0)] ∧ Mem W wS (.blk g8 tn.cells 81 :: .blk g7 y.cells 45 :: .blk g4 #[vI 0, vQ 0, vN, vN, vN, vN, vN] 45 :: .blk g3 o.cells 52 :: .blk g2 #[vI cp, vQ cr, .slice gA ng gc, .slice lA nl lc, .slice uA nu uc, .slice tA nt tc, vS gsA ns sc] 45 :: fG gA ng gc gs :: fI lA nl lc cl :: fI uA nu uc cu :: fT tA nt tc ts :: fS (some ⟨gsA, 0, none⟩) ns sc rs :: (fR rs ++ (stF y ++ (T))))) ?_ ?_
 ·
  refine Jb I L ((Vs .n []) fun wd16 => (Vp [0]∘Vf 1 5∘Vc 2 O4∘Vl 3∘Vp [4, 5]) fun a I L HS => ?_)
  rcases I.tf 111 rfl with ⟨hb111, I⟩ | ⟨hb111, I⟩
  ·
   have hd111 := of_decide_eq_true hb111
   refine Vb I L HS ((Vf 6 5∘Vp [8]∘Vf 12 0∘Vc 7 O4) ?_)
   repeat (first | clear I | clear L | clear HS)
   intro a I L HS
   obtain ⟨gtA, rfl⟩ := qi (L.own (i := 8) rfl) (Nat.lt_of_le_of_lt (Nat.zero_le _) (show n < nt from by omega))
   refine Vb I L HS ((Vy 9 (h:=by exact Yl.ix0 gtA n 8 rfl rfl rfl)∘Vf 10 0∘Vy 11 (v := vI ((ts.getD n Tk.zero).id)) (h:=by exact Yl.qh rfl rfl kr (fun _ h => (by have := h.qv qd (i := 8) rfl (k := n) (off := 0) (x := (ts.getD n Tk.zero)) ((getD_at Tk.zero om)) rfl; simpa using this)))∘Vc 13 O0∘Vp [14, 15]∘Vd∘Jd6) fun a I L => ?_)
   have I := I.sp 121 (.bool (decide (n < ts.length ∧ (ts.getD n Tk.zero).id < o.task))) rfl (congrArg Value.bool (decide_eq_decide.2 (by rw [hti]; omega)))
   exact ⟨I.sub kr, L.pt 10 [0, 1, 2, 3, 4, 5, 6, 7, 8, 9]⟩
  have hd111 := of_decide_eq_false hb111
  refine ap I (fun _ => HS) [6, 7, 8, 9, 10, 11, 12, 13, 14, 15] (bt 16 []) [(121, .bool false)] fun a I => ?_
  refine qb kr ?_
  have I := I.sp 121 (.bool (decide (n < ts.length ∧ (ts.getD n Tk.zero).id < o.task))) rfl (congrArg Value.bool (decide_eq_false om).symm)
  exact ⟨I.sub kr, L.pt 10 [0, 1, 2, 3, 4, 5, 6, 7, 8, 9]⟩
 clear I L; rintro a w16 ⟨I, L⟩
 refine Jb I L (Ju (fun hb121 => ?_) fun hb121 => ?_)
 ·
  intro a I L
  have hd121 := of_decide_eq_true hb121
  refine Jb I L ((JT∘JS'∘JB∘JR∘Jp 1∘JaK 1∘Jp 1∘Jd2∘Jq) fun a I L => ?_)
  exact ⟨_, om, n + 1, by omega, qh0 hu om, rfl, I.sub kr, L.pt 10 [0, 1, 2, 3, 4, 5, 6, 7, 8, 9]⟩
 intro a I L
 have hd121 := of_decide_eq_false hb121
 have hstop : n = ts.length ∨ o.task < (ts.getD n Tk.zero).id := qu8 hn hu0 hd121
 refine Jb I L ((JF∘JX) fun a I L => ?_)
 refine qz (fun aS wS => ∃ (g124 : Nat) (A129 : Option Addr) (c129 : Nat) (g131 : Nat) (A132 : Option Addr) (c132 : Nat) (A137 : Option Addr) (c137 : Nat), Fr aS 146 [] [(121, .bool false), (9, vI n), (8, vP g8 0), (7, vP g7 0), (73, .bool false), (66, .bool false), (47, .bool false), (33, .bool false), (23, .bool false), (10, .bool false), (6, vI 0), (5, vI 0), (4, vP g4 0), (3, vP g3 0), (2, vP g2 0)] ∧ Mem W wS (.blk g131 tn.cells 81 :: .blk g8 tn.cells 81 :: .blk g7 y.cells 45 :: .blk g4 #[vI 0, vQ 0, vN, vN, vN, vN, vN] 45 :: .blk g3 o.cells 52 :: .blk g2 #[vI cp, vQ cr, .slice gA ng gc, .slice lA nl lc, .slice uA nu uc, .slice A137 (nt + 1) c137, vS gsA ns sc] 45 :: fG gA ng gc gs :: fI lA nl lc cl :: fI uA nu uc cu :: fT A137 (nt + 1) c137 (insT ts n tn) :: fS (some ⟨gsA, 0, none⟩) ns sc rs :: (fR rs ++ (stF y ++ (T)))) ∧ (0 + n ≤ c129) ∧ ((0 + n) + 1 ≤ c132) ∧ (((0 + n) + 1) + (nt - n) ≤ c137)) ?_ ?_
 ·
  refine Jb I L ((Vs .n [15]) fun wd18 => (Vf 1 5∘Vp [3]∘Vf 9 5∘Vp [11]∘Vc 2 O4∘Vy 4 (h:=by exact Yl.qa0 ei_tk (j := n) rfl rfl rfl om)∘Vy 6 (v := .agg tn.cells) (h:=by exact Yl.loadS rfl rfl si_tk rfl (fun _ h => qa (h.blk (i := 0) rfl)))∘Vc 10 O4∘Vy 12 (h:=by exact Yl.sliceFrom ei_tk (j := n) rfl rfl rfl om)) fun a I L HS => ?_)
  refine qj [0, 7] kr rfl ?_
  refine all_cons ?_ ?_
  ·refine qe I (i := 0) rfl rfl ?_
   refine zr I L rfl ei_tk rfl de ?_
   clear I L; intro a w124 g124 I L
   refine keepS (L.pt 11 [1, 2, 3, 4, 5, 6, 7, 8, 9, 10]) (fun HS => ?_)
   refine qj [5, 7] kr rfl ?_
   refine all_cons ?_ ?_
   ·refine qe I (i := 5) rfl rfl ?_
    refine q6 I L (i := 0) rfl ei_tk rfl rfl rfl (news := ((ts.take n).flatMap tkL)) (Rd.qtn qd (tsRd (l := ts) hlt (L.rd (i := 9) rfl)) om) (qaz _) om om rfl de ?_
    clear I L; intro a w129 A129 c129 I L hc129
    refine keepS (L.pt 11 [1, 2, 3, 4, 5, 6, 7, 8, 9, 10]) (fun HS => ?_)
    refine s_on I 7 rfl (s_el I L ei_tk [(0, .agg tn.cells)] tn.cells ?_)
    clear I L; intro a w131 g131 I L
    refine keepS (L.pt 12 [2, 3, 4, 5, 6, 7, 8, 9, 10, 11]) (fun HS => ?_)
    refine s_on I 8 rfl (q6 I L (i := 1) rfl ei_tk rfl rfl rfl (news := (tkL tn)) (L.rdBlk (i := 0) (n := 1) (size := 8) rfl rfl) (qe6 tn) om om rfl de ?_)
    clear I L; intro a w132 A132 c132 I L hc132
    refine keepS (L.pt 12 [2, 3, 4, 5, 6, 7, 8, 9, 10, 11]) (fun HS => ?_)
    refine s_on I 13 rfl (q6 I L (i := 1) rfl ei_tk rfl rfl rfl (news := ((ts.drop n).flatMap tkL)) (qn1 qd (tsRd (l := ts) hlt (L.rd (i := 10) rfl)) om om om) (qaz _) om om rfl de ?_)
    clear I L; intro a w137 A137 c137 I L hc137
    refine keepS (L.pt 12 [2, 3, 4, 5, 6, 7, 8, 9, 10, 11]) (fun HS => ?_)
    refine Vb I L HS ((Vf 14 5) fun a I L HS => ?_)
    refine s_on I 15 rfl (s_es I L 6 ?_)
    clear L; intro w18_15 L
    refine noS kr ?_
    refine qb kr ?_
    replace L : Mem W _ (.blk g131 tn.cells 81 :: .row (.slice A137 (((0 + n) + 1) + (nt - n)) c137) (((0 + n) + 1) + (nt - n)) ((([] ++ ((ts.take n).flatMap tkL)) ++ (tkL tn)) ++ ((ts.drop n).flatMap tkL)) 81 8 :: .blk g8 tn.cells 81 :: .blk g7 y.cells 45 :: .blk g4 #[vI 0, vQ 0, vN, vN, vN, vN, vN] 45 :: .blk g3 o.cells 52 :: .blk g2 #[vI cp, vQ cr, .slice gA ng gc, .slice lA nl lc, .slice uA nu uc, .slice A137 (((0 + n) + 1) + (nt - n)) c137, vS gsA ns sc] 45 :: fG gA ng gc gs :: fI lA nl lc cl :: fI uA nu uc cu :: fT tA nt tc ts :: fS (some ⟨gsA, 0, none⟩) ns sc rs :: (fR rs ++ (stF y ++ (T)))) := L
    have hn137 : ((0 + n) + 1) + (nt - n) = nt + 1 := by omega
    rw [hn137] at L
    replace L := L.asRow (i := 1) (ys := (insT ts n tn).flatMap tkL) rfl (by rw [qcs, List.nil_append, List.append_assoc])
    replace L := L.pt (fs' := (.blk g131 tn.cells 81 :: .blk g8 tn.cells 81 :: .blk g7 y.cells 45 :: .blk g4 #[vI 0, vQ 0, vN, vN, vN, vN, vN] 45 :: .blk g3 o.cells 52 :: .blk g2 #[vI cp, vQ cr, .slice gA ng gc, .slice lA nl lc, .slice uA nu uc, .slice A137 (nt + 1) c137, vS gsA ns sc] 45 :: fG gA ng gc gs :: fI lA nl lc cl :: fI uA nu uc cu :: fT A137 (nt + 1) c137 (insT ts n tn) :: fS (some ⟨gsA, 0, none⟩) ns sc rs :: (fR rs ++ (stF y ++ (T))))) 12 [0, 2, 3, 4, 5, 6, 7, 8, 9, 1, 11]
    exact ⟨g124, A129, c129, g131, A132, c132, A137, c137, I.sub kr, L.pt 11 [0, 1, 2, 3, 4, 5, 6, 7, 8, 9, 10], hc129, hc132, hc137⟩
   refine all_cons ?_ all_nil
   refine qe I (i := 7) rfl rfl ?_
   refine s_el I L ei_tk [(0, .agg tn.cells)] tn.cells ?_
   clear I L; intro a w131 g131 I L
   refine keepS (L.pt 12 [2, 3, 4, 5, 6, 7, 8, 9, 10, 11]) (fun HS => ?_)
   refine s_on I 5 rfl (q6 I L (i := 1) rfl ei_tk rfl rfl rfl (news := ((ts.take n).flatMap tkL)) (Rd.qtn qd (tsRd (l := ts) hlt (L.rd (i := 10) rfl)) om) (qaz _) om om rfl de ?_)
   clear I L; intro a w129 A129 c129 I L hc129
   refine keepS (L.pt 12 [2, 3, 4, 5, 6, 7, 8, 9, 10, 11]) (fun HS => ?_)
   refine s_on I 8 rfl (q6 I L (i := 1) rfl ei_tk rfl rfl rfl (news := (tkL tn)) (L.rdBlk (i := 0) (n := 1) (size := 8) rfl rfl) (qe6 tn) om om rfl de ?_)
   clear I L; intro a w132 A132 c132 I L hc132
   refine keepS (L.pt 12 [2, 3, 4, 5, 6, 7, 8, 9, 10, 11]) (fun HS => ?_)
   refine s_on I 13 rfl (q6 I L (i := 1) rfl ei_tk rfl rfl rfl (news := ((ts.drop n).flatMap tkL)) (qn1 qd (tsRd (l := ts) hlt (L.rd (i := 10) rfl)) om om om) (qaz _) om om rfl de ?_)
   clear I L; intro a w137 A137 c137 I L hc137
   refine keepS (L.pt 12 [2, 3, 4, 5, 6, 7, 8, 9, 10, 11]) (fun HS => ?_)
   refine Vb I L HS ((Vf 14 5) fun a I L HS => ?_)
   refine s_on I 15 rfl (s_es I L 6 ?_)
   clear L; intro w18_15 L
   refine noS kr ?_
   refine qb kr ?_
   replace L : Mem W _ (.blk g131 tn.cells 81 :: .row (.slice A137 (((0 + n) + 1) + (nt - n)) c137) (((0 + n) + 1) + (nt - n)) ((([] ++ ((ts.take n).flatMap tkL)) ++ (tkL tn)) ++ ((ts.drop n).flatMap tkL)) 81 8 :: .blk g8 tn.cells 81 :: .blk g7 y.cells 45 :: .blk g4 #[vI 0, vQ 0, vN, vN, vN, vN, vN] 45 :: .blk g3 o.cells 52 :: .blk g2 #[vI cp, vQ cr, .slice gA ng gc, .slice lA nl lc, .slice uA nu uc, .slice A137 (((0 + n) + 1) + (nt - n)) c137, vS gsA ns sc] 45 :: fG gA ng gc gs :: fI lA nl lc cl :: fI uA nu uc cu :: fT tA nt tc ts :: fS (some ⟨gsA, 0, none⟩) ns sc rs :: (fR rs ++ (stF y ++ (T)))) := L
   have hn137 : ((0 + n) + 1) + (nt - n) = nt + 1 := by omega
   rw [hn137] at L
   replace L := L.asRow (i := 1) (ys := (insT ts n tn).flatMap tkL) rfl (by rw [qcs, List.nil_append, List.append_assoc])
   replace L := L.pt (fs' := (.blk g131 tn.cells 81 :: .blk g8 tn.cells 81 :: .blk g7 y.cells 45 :: .blk g4 #[vI 0, vQ 0, vN, vN, vN, vN, vN] 45 :: .blk g3 o.cells 52 :: .blk g2 #[vI cp, vQ cr, .slice gA ng gc, .slice lA nl lc, .slice uA nu uc, .slice A137 (nt + 1) c137, vS gsA ns sc] 45 :: fG gA ng gc gs :: fI lA nl lc cl :: fI uA nu uc cu :: fT A137 (nt + 1) c137 (insT ts n tn) :: fS (some ⟨gsA, 0, none⟩) ns sc rs :: (fR rs ++ (stF y ++ (T))))) 12 [0, 2, 3, 4, 5, 6, 7, 8, 9, 1, 11]
   exact ⟨g124, A129, c129, g131, A132, c132, A137, c137, I.sub kr, L.pt 11 [0, 1, 2, 3, 4, 5, 6, 7, 8, 9, 10], hc129, hc132, hc137⟩
  refine all_cons ?_ all_nil
  refine qe I (i := 7) rfl rfl ?_
  refine s_el I L ei_tk [(0, .agg tn.cells)] tn.cells ?_
  clear I L; intro a w131 g131 I L
  refine keepS (L.pt 11 [1, 2, 3, 4, 5, 6, 7, 8, 9, 10]) (fun HS => ?_)
  refine s_on I 0 rfl ?_
  refine zr I L rfl ei_tk rfl de ?_
  clear I L; intro a w124 g124 I L
  refine keepS (L.pt 12 [2, 3, 4, 5, 6, 7, 8, 9, 10, 11]) (fun HS => ?_)
  refine s_on I 5 rfl (q6 I L (i := 0) rfl ei_tk rfl rfl rfl (news := ((ts.take n).flatMap tkL)) (Rd.qtn qd (tsRd (l := ts) hlt (L.rd (i := 10) rfl)) om) (qaz _) om om rfl de ?_)
  clear I L; intro a w129 A129 c129 I L hc129
  refine keepS (L.pt 12 [2, 3, 4, 5, 6, 7, 8, 9, 10, 11]) (fun HS => ?_)
  refine s_on I 8 rfl (q6 I L (i := 0) rfl ei_tk rfl rfl rfl (news := (tkL tn)) (L.rdBlk (i := 1) (n := 1) (size := 8) rfl rfl) (qe6 tn) om om rfl de ?_)
  clear I L; intro a w132 A132 c132 I L hc132
  refine keepS (L.pt 12 [2, 3, 4, 5, 6, 7, 8, 9, 10, 11]) (fun HS => ?_)
  refine s_on I 13 rfl (q6 I L (i := 0) rfl ei_tk rfl rfl rfl (news := ((ts.drop n).flatMap tkL)) (qn1 qd (tsRd (l := ts) hlt (L.rd (i := 10) rfl)) om om om) (qaz _) om om rfl de ?_)
  clear I L; intro a w137 A137 c137 I L hc137
  refine keepS (L.pt 12 [2, 3, 4, 5, 6, 7, 8, 9, 10, 11]) (fun HS => ?_)
  refine Vb I L HS ((Vf 14 5) fun a I L HS => ?_)
  refine s_on I 15 rfl (s_es I L 6 ?_)
  clear L; intro w18_15 L
  refine noS kr ?_
  refine qb kr ?_
  replace L : Mem W _ (.row (.slice A137 (((0 + n) + 1) + (nt - n)) c137) (((0 + n) + 1) + (nt - n)) ((([] ++ ((ts.take n).flatMap tkL)) ++ (tkL tn)) ++ ((ts.drop n).flatMap tkL)) 81 8 :: .blk g131 tn.cells 81 :: .blk g8 tn.cells 81 :: .blk g7 y.cells 45 :: .blk g4 #[vI 0, vQ 0, vN, vN, vN, vN, vN] 45 :: .blk g3 o.cells 52 :: .blk g2 #[vI cp, vQ cr, .slice gA ng gc, .slice lA nl lc, .slice uA nu uc, .slice A137 (((0 + n) + 1) + (nt - n)) c137, vS gsA ns sc] 45 :: fG gA ng gc gs :: fI lA nl lc cl :: fI uA nu uc cu :: fT tA nt tc ts :: fS (some ⟨gsA, 0, none⟩) ns sc rs :: (fR rs ++ (stF y ++ (T)))) := L
  have hn137 : ((0 + n) + 1) + (nt - n) = nt + 1 := by omega
  rw [hn137] at L
  replace L := L.asRow (i := 0) (ys := (insT ts n tn).flatMap tkL) rfl (by rw [qcs, List.nil_append, List.append_assoc])
  replace L := L.pt (fs' := (.blk g131 tn.cells 81 :: .blk g8 tn.cells 81 :: .blk g7 y.cells 45 :: .blk g4 #[vI 0, vQ 0, vN, vN, vN, vN, vN] 45 :: .blk g3 o.cells 52 :: .blk g2 #[vI cp, vQ cr, .slice gA ng gc, .slice lA nl lc, .slice uA nu uc, .slice A137 (nt + 1) c137, vS gsA ns sc] 45 :: fG gA ng gc gs :: fI lA nl lc cl :: fI uA nu uc cu :: fT A137 (nt + 1) c137 (insT ts n tn) :: fS (some ⟨gsA, 0, none⟩) ns sc rs :: (fR rs ++ (stF y ++ (T))))) 12 [1, 2, 3, 4, 5, 6, 7, 8, 9, 0, 11]
  exact ⟨g124, A129, c129, g131, A132, c132, A137, c137, I.sub kr, L.pt 11 [0, 1, 2, 3, 4, 5, 6, 7, 8, 9, 10], hc129, hc132, hc137⟩
 clear I L; rintro a w18 ⟨g124, A129, c129, g131, A132, c132, A137, c137, I, L, hc129, hc132, hc137⟩
 refine Jb I L ((JP∘Jy (v := .agg #[vI cp, vQ cr, .slice gA ng gc, .slice lA nl lc, .slice uA nu uc, .slice A137 (nt + 1) c137, vS gsA ns sc]) (h:=by exact Yl.loadS rfl rfl si_st rfl (fun _ h => qa (h.blk (i := 5) rfl)))∘Jy (v := .agg y.cells) (h:=by exact Yl.loadS rfl rfl si_st rfl (fun _ h => qa (h.blk (i := 2) rfl)))∘Jf 1∘Jc O1∘Jo (vI g) (by rw [htg2])∘Jf 3∘Jc O1∘Jo (vI c) (by rw [htc2])∘JL (h:=by exact fun L => qjm (x := (⟨cp, cr, gA, gc, gs, lA, lc, cl, uA, uc, cu, A137, c137, (insT ts n tn), some ⟨gsA, 0, none⟩, sc, rs⟩ : Stm)) 6 L rfl (qkz hlns (qeo (by omega : n ≤ ts.length) |>.trans (by rw [hlt]))) hsz (heq.1.2.2) (heq.1.1) (hrg) (by rw [hyS]; exact qdz _) (hsp) hcr (by show ((c : Nat) : Int) < cp; omega) om)) ?_)
 rintro L _ w145 ⟨y2, rfl, hy2, HM2⟩
 refine ⟨_, rfl, _, (show Mem W w145 (.blk g131 tn.cells 81 :: .blk g8 tn.cells 81 :: .blk g7 y.cells 45 :: .blk g4 #[vI 0, vQ 0, vN, vN, vN, vN, vN] 45 :: .blk g3 o.cells 52 :: .blk g2 #[vI cp, vQ cr, .slice gA ng gc, .slice lA nl lc, .slice uA nu uc, .slice A137 (nt + 1) c137, vS gsA ns sc] 45 :: (stF y2 ++ (stF y ++ (T)))) from HM2), ?_⟩
 refine (JV si_st O3' (h1:=by exact q5 y2)) fun w19_7 => (Jp 2∘Jj∘JZ) fun a I L => ?_
 exact ret3 rfl I (.cellS (i := 3) I L rfl rfl si_st rfl) (.tmp I rfl) (.tmp I rfl) (OpOut.drop (A := stF y) (qjj (y := y2) 6 L rfl hy2 ((qgo (x := (⟨cp, cr, gA, gc, gs, lA, lc, cl, uA, uc, cu, tA, tc, ts, some ⟨gsA, 0, none⟩, sc, rs⟩ : Stm)) (t1 := tn) (decide_eq_true (by show 0 ≤ o.cpu ∧ o.cpu < cp; omega)) (decide_eq_true (by show 1 ≤ o.task ∧ o.task ≤ 65535; omega)) (by show 0 ≤ o.group ∧ o.group < (rs.length : Int); omega) (qdy hcn ⟨hd52.1, hd52.2, by omega, hd47⟩) (by show fidx ts o.task < 0; omega) (qgv hcc om) hgg hcc (congrArg Sp.floor hsy) htn rfl).trans (by rw [hyS, show qcg ts o.task = n from qgn hn hu hstop]; rfl))))
theorem qlc (W w : World) (x : Stm) (ng nl nu nt ns : Nat) (hx : MdOk x ng nl nu nt ns) (T : List Fact) (L : Mem W w (sdA x ng nl nu nt ns ++ T)) (o : Op30) (ho : o.Ok) (hG : GoodS x.sta) :
    Calls Tryz.prog 76 #[.agg (sdC x ng nl nu nt ns), .agg o.cells] w (OpOut W T (qaa x.sta o)) := by
 obtain ⟨cp, cr, gA, gc, gs, lA, lc, cl, uA, uc, cu, tA, tc, ts, sA, sc, rs⟩ := x
 replace L : Mem W w (fG gA ng gc gs :: fI lA nl lc cl :: fI uA nu uc cu :: fT tA nt tc ts :: fS sA ns sc rs :: (fR rs ++ (T))) := L
 have hln := hx.ln
 obtain ⟨hlg, hll, hlu, hlt, hls⟩ := hln
 replace hlg : gs.length = ng := hlg; replace hll : cl.length = nl := hll; replace hlu : cu.length = nu := hlu; replace hlt : ts.length = nt := hlt; replace hls : rs.length = ns := hls
 have hlns := hx.ln
 have hsp : SpsOk gs cp rs := hx.spots
 have hrg : rs.length = gs.length := hx.sh.rs
 have hcr : cr < 18446744073709551616 := hx.ok.credit
 obtain ⟨hcp1, hcp2, _, hgs⟩ := zj hx.sh.cfg
 replace hcp1 : 1 ≤ cp := hcp1; replace hcp2 : cp ≤ 64 := hcp2; replace hgs : gsOk gs = true := hgs
 have hgl1 := (qo hgs).1; have hgl2 := (qo hgs).2.1
 have hcll : (cl.length : Int) = cp := hx.sh.cl; have hcul : (cu.length : Int) = cp := hx.sh.cu
 have hfts : ts.length ≤ 1000000 := hx.few.t
 have hoc := ho.cpu; have hot := ho.task; have hog := ho.group; have how := ho.weight; have hoto := ho.to; have hotk := ho.ticks; have hom := ho.mask; have hok8 := ho.kind; unfold I64 at hoc hot hog how hoto hotk
 have hwt_ := qc8 hx.sh; replace hwt_ : ∀ t ∈ ts, 1 ≤ t.weight ∧ t.weight ≤ 65536 := hwt_
 have hld : ∀ c, loadS (⟨cp, cr, gA, gc, gs, lA, lc, cl, uA, uc, cu, tA, tc, ts, sA, sc, rs⟩ : Stm).sta c ≤ 65536000000 ∧ 0 ≤ loadS (⟨cp, cr, gA, gc, gs, lA, lc, cl, uA, uc, cu, tA, tc, ts, sA, sc, rs⟩ : Stm).sta c := fun c => by have h1 : 0 ≤ loadN ts c ∧ loadN ts c ≤ 65536 * ts.length := qdw (c := c) hwt_; exact ⟨by show loadN ts c ≤ _; omega, h1.1⟩
 show Calls Tryz.prog 76 #[.agg #[vI cp, vQ cr, .slice gA ng gc, .slice lA nl lc, .slice uA nu uc, .slice tA nt tc, .slice sA ns sc], .agg o.cells] w _
 refine (Jin2 L Tryz.func76 133) ?_
 refine (JP∘JE) fun w2 g2 => (JE) fun w3 g3 => (JA #[vI 0, vQ 0, vN, vN, vN, vN, vN]) fun w4 g4 => (Jp 2∘Jj∘JQ∘JP∘Jg 1 O1∘Jp 2) (Ji (fun hd16 => ?_) fun hd16 => ?_)
 ·
  refine (Jp 7∘Jd6∘Jj∘JT∘JP∘Jy (v := .agg #[vI cp, vQ cr, .slice gA ng gc, .slice lA nl lc, .slice uA nu uc, .slice tA nt tc, .slice sA ns sc]) (h:=by exact Yl.loadS rfl rfl si_st rfl (fun _ h => qa (h.blk (i := 2) rfl)))∘JV si_st O0') fun w2_1 => (Jp 2∘Jj∘JZ) fun a I L => ?_
  exact ret3 rfl I (.cellS (i := 0) I L rfl rfl si_st rfl) (.tmp I rfl) (.tmp I rfl) (qp (y := (⟨cp, cr, gA, gc, gs, lA, lc, cl, uA, uc, cu, tA, tc, ts, sA, sc, rs⟩ : Stm)) 3 L rfl hlns (if_pos (decide_eq_false (by show ¬ (0 ≤ o.cpu ∧ o.cpu < cp); omega))))
 refine (Jg 1 O1∘Jf 0∘Jg 0 O2∘Jp 2∘Jd6∘Jj) (Ju (fun hb23 => ?_) fun hb23 => ?_)
 ·
  intro a I L
  have hd23 := of_decide_eq_true hb23
  refine Jb I L ((JT∘JP∘Jy (v := .agg #[vI cp, vQ cr, .slice gA ng gc, .slice lA nl lc, .slice uA nu uc, .slice tA nt tc, .slice sA ns sc]) (h:=by exact Yl.loadS rfl rfl si_st rfl (fun _ h => qa (h.blk (i := 2) rfl)))∘JV si_st O0') fun w2_1 => (Jp 2∘Jj∘JZ) fun a I L => ?_)
  exact ret3 rfl I (.cellS (i := 0) I L rfl rfl si_st rfl) (.tmp I rfl) (.tmp I rfl) (qp (y := (⟨cp, cr, gA, gc, gs, lA, lc, cl, uA, uc, cu, tA, tc, ts, sA, sc, rs⟩ : Stm)) 3 L rfl hlns (if_pos (decide_eq_false (by show ¬ (0 ≤ o.cpu ∧ o.cpu < cp); omega))))
 intro a I L
 have hd23 := of_decide_eq_false hb23
 obtain ⟨c, hcc⟩ : ∃ n : Nat, o.cpu = (n : Int) := ⟨o.cpu.toNat, by omega⟩
 have hccp : ((c : Nat) : Int) < cp := by omega
 obtain ⟨lc_, hlc⟩ : ∃ z, loadS (⟨cp, cr, gA, gc, gs, lA, lc, cl, uA, uc, cu, tA, tc, ts, sA, sc, rs⟩ : Stm).sta c = z := ⟨_, rfl⟩
 have hlcb := hld c
 rw [hlc] at hlcb
 refine Jb I L ((JF∘JS'∘JP∘Jp 1∘Jj∘JQ∘JP∘Jp 1∘Jj∘JB) fun a I L => ?_)
 refine qg (fun mS aS wS => ∃ (i : Nat) (fr : Int) (mo : Int), ((i : Int) ≤ cp) ∧ (-1 ≤ fr ∧ fr < (i : Int)) ∧ (fr < 0 → mo = -1) ∧ (0 ≤ fr → loadS (⟨cp, cr, gA, gc, gs, lA, lc, cl, uA, uc, cu, tA, tc, ts, sA, sc, rs⟩ : Stm).sta fr.toNat = mo) ∧ (busyF (⟨cp, cr, gA, gc, gs, lA, lc, cl, uA, uc, cu, tA, tc, ts, sA, sc, rs⟩ : Stm).sta o.cpu i = (fr, mo)) ∧ mS = cp.toNat - i ∧ Fr aS 133 [] [(8, vI i), (7, vI fr), (23, .bool false), (6, vI 0), (5, vI 0), (4, vP g4 0), (3, vP g3 0), (2, vP g2 0)] ∧ Mem W wS (.blk g4 #[vI 0, vQ 0, vN, vN, vN, vN, vN] 45 :: .blk g3 o.cells 52 :: .blk g2 #[vI cp, vQ cr, .slice gA ng gc, .slice lA nl lc, .slice uA nu uc, .slice tA nt tc, .slice sA ns sc] 45 :: fG gA ng gc gs :: fI lA nl lc cl :: fI uA nu uc cu :: fT tA nt tc ts :: fS sA ns sc rs :: (fR rs ++ (T)))) (m := cp.toNat - 0) ⟨0, (-1), (-1), by omega, by omega, fun _ => rfl, fun h => absurd h de, rfl, rfl, I.sub kr, L.pt 8 [0, 1, 2, 3, 4, 5, 6, 7]⟩ ?_
 clear I L; rintro mS a w_ ⟨i, fr, mo, hi, hfr, hm1, hmo, hbz, rfl, I, L⟩
 refine Jb I L ((JQ∘JP∘Jp 1∘Jf 0∘Jg 0 O2∘Jp 1∘Jd3∘Jj) (Ju (fun hb29 => ?_) fun hb29 => ?_))
 ·
  intro a I L
  have hd29 := of_decide_eq_true hb29
  obtain ⟨lw, hlw⟩ : ∃ z, loadS (⟨cp, cr, gA, gc, gs, lA, lc, cl, uA, uc, cu, tA, tc, ts, sA, sc, rs⟩ : Stm).sta i = z := ⟨_, rfl⟩
  have hlwb := hld i
  rw [hlw] at hlwb
  refine Jb I L ((JT∘JS'∘JQ∘JB) fun a I L => ?_)
  refine qz (fun aS wS => Fr aS 133 [] [(48, .bool (decide ((i : Int) ≠ o.cpu ∧ mo < lw))), (29, .bool true), (8, vI i), (7, vI fr), (23, .bool false), (6, vI 0), (5, vI 0), (4, vP g4 0), (3, vP g3 0), (2, vP g2 0)] ∧ Mem W wS (.blk g4 #[vI 0, vQ 0, vN, vN, vN, vN, vN] 45 :: .blk g3 o.cells 52 :: .blk g2 #[vI cp, vQ cr, .slice gA ng gc, .slice lA nl lc, .slice uA nu uc, .slice tA nt tc, .slice sA ns sc] 45 :: fG gA ng gc gs :: fI lA nl lc cl :: fI uA nu uc cu :: fT tA nt tc ts :: fS sA ns sc rs :: (fR rs ++ (T)))) ?_ ?_
  ·
   refine Jb I L ((Vs .n []) fun wd7 => (Vp [0]∘Vf 1 1∘Vc 2 O1∘Vp [3, 4]) fun a I L HS => ?_)
   rcases I.tf 36 rfl with ⟨hb36, I⟩ | ⟨hb36, I⟩
   ·
    have hd36 := bne_iff_ne.1 hb36
    refine Vb I L HS ((Vp [5, 6, 7]) fun a I L HS => ?_)
    rcases I.tf 39 rfl with ⟨hb39, I⟩ | ⟨hb39, I⟩
    ·
     have hd39 := of_decide_eq_true hb39
     have hm2 := hm1 om
     refine Vb I L HS ((Vq [8, 9, 10, 11, 12, 13, 14, 15, 16] [(48, .bool true)]∘Vd∘Jd6) fun a I L => ?_)
     have I := I.sp 48 (.bool (decide ((i : Int) ≠ o.cpu ∧ mo < lw))) rfl (congrArg Value.bool (decide_eq_true om).symm)
     exact ⟨I.sub kr, L.pt 8 [0, 1, 2, 3, 4, 5, 6, 7]⟩
    have hd39 := of_decide_eq_false hb39
    refine ap I (fun _ => HS) [9] (bt 17 [8, 10, 11, 12, 13, 14, 15, 16]) [(41, vI i)] fun a I => ?_
    refine s_az I HS 8 rfl (v := .agg #[vI cp, vQ cr, .slice gA ng gc, .slice lA nl lc, .slice uA nu uc, .slice tA nt tc, .slice sA ns sc]) (Yl.loadS rfl rfl si_st rfl (fun _ h => qa (h.blk (i := 2) rfl))) fun a I => ?_
    refine s_az I HS 11 rfl (v := .agg #[vI cp, vQ cr, .slice gA ng gc, .slice lA nl lc, .slice uA nu uc, .slice tA nt tc, .slice sA ns sc]) (Yl.loadS rfl rfl si_st rfl (fun _ h => qa (h.blk (i := 2) rfl))) fun a I => ?_
    refine za I (fun _ => HS) (i := 12) rfl rfl (d := 44) rfl de kr (fun _ _ _ h => h) (v := vI fr) (fun _ => Yl.pure kr) fun a I => ?_
    replace I := I.sp 44 (vI fr.toNat) rfl (by rw [Int.toNat_of_nonneg om])
    refine s_on I 10 rfl (e_is I L [.agg #[vI cp, vQ cr, .slice gA ng gc, .slice lA nl lc, .slice uA nu uc, .slice tA nt tc, .slice sA ns sc], vI i] (vI lw) rfl rfl (qdb (x := (⟨cp, cr, gA, gc, gs, lA, lc, cl, uA, uc, cu, tA, tc, ts, sA, sc, rs⟩ : Stm)) hx (L.sdRd 3 rfl hlns) hlw) fun w42 hbw L a I => ?_)
    refine keepS (L.pt 8 [0, 1, 2, 3, 4, 5, 6, 7]) (fun HS => ?_)
    refine s_on I 13 rfl (e_is I L [.agg #[vI cp, vQ cr, .slice gA ng gc, .slice lA nl lc, .slice uA nu uc, .slice tA nt tc, .slice sA ns sc], vI fr.toNat] (vI mo) rfl rfl (qdb (x := (⟨cp, cr, gA, gc, gs, lA, lc, cl, uA, uc, cu, tA, tc, ts, sA, sc, rs⟩ : Stm)) hx (L.sdRd 3 rfl hlns) (hmo om)) fun w45 hbw L a I => ?_)
    refine keepS (L.pt 8 [0, 1, 2, 3, 4, 5, 6, 7]) (fun HS => ?_)
    refine ap I (fun _ => HS) [14, 15, 16] (bt 17 []) [(48, .bool (decide ((lw : Int) > (mo : Int))))] fun a I => ?_
    refine qb kr ?_
    have I := I.sp 48 (.bool (decide ((i : Int) ≠ o.cpu ∧ mo < lw))) rfl (congrArg Value.bool (decide_eq_decide.2 om))
    exact ⟨I.sub kr, L.pt 8 [0, 1, 2, 3, 4, 5, 6, 7]⟩
   have hd36 := bne_eq_false_iff_eq.1 hb36
   refine ap I (fun _ => HS) [5, 6, 7, 8, 9, 10, 11, 12, 13, 14, 15, 16] (bt 17 []) [(48, .bool false)] fun a I => ?_
   refine qb kr ?_
   have I := I.sp 48 (.bool (decide ((i : Int) ≠ o.cpu ∧ mo < lw))) rfl (congrArg Value.bool (decide_eq_false om).symm)
   exact ⟨I.sub kr, L.pt 8 [0, 1, 2, 3, 4, 5, 6, 7]⟩
  clear I L; rintro a w7 ⟨I, L⟩
  refine Jb I L (Ji (fun hd48 => ?_) fun hd48 => ?_)
  ·
   refine (JT∘JR∘Jp 2∘Jd1∘Jj∘JR∘Jp 1∘JaK 1∘Jp 1∘Jd2∘Jq) fun a I L => ?_
   exact ⟨_, om, i + 1, (i : Int), lw, by omega, by omega, fun h => by omega, fun _ => hlw, by rw [qcr hbz, if_pos ⟨by omega, by rw [hlw]; omega⟩, hlw], rfl, I.sub kr, L.pt 8 [0, 1, 2, 3, 4, 5, 6, 7]⟩
  refine (JF∘JS'∘JR∘Jp 1∘JaK 1∘Jp 1∘Jd2∘Jq) fun a I L => ?_
  exact ⟨_, om, i + 1, fr, mo, by omega, by omega, hm1, hmo, by rw [qcr hbz, if_neg (by rw [hlw]; omega)], rfl, I.sub kr, L.pt 8 [0, 1, 2, 3, 4, 5, 6, 7]⟩
 intro a I L
 have hd29 := of_decide_eq_false hb29
 have hcpi : i = cp.toNat := by omega
 revert L; revert a; repeat (first | clear I | clear L)
 intro a I L
 subst hcpi
 have hbb_ := qe5 (cpu := o.cpu) hld de cp.toNat
 rw [hbz] at hbb_
 replace hbb_ : -1 ≤ fr ∧ fr < (cp.toNat : Int) ∧ -1 ≤ mo ∧ mo ≤ 65536000000 := hbb_
 refine Jb I L ((JF∘JX∘JG∘JP∘Jp 1∘Jj∘JQ∘JP∘Jp 1∘Jj∘JB) fun a I L => ?_)
 refine qg (fun mS aS wS => ∃ (n : Nat) (be : Int), (n ≤ ts.length) ∧ (bestI (bestF (⟨cp, cr, gA, gc, gs, lA, lc, cl, uA, uc, cu, tA, tc, ts, sA, sc, rs⟩ : Stm).sta o n) = be) ∧ mS = ts.length - n ∧ Fr aS 133 [] [(10, vI n), (9, vI be), (29, .bool false), (8, vI cp.toNat), (7, vI fr), (23, .bool false), (6, vI 0), (5, vI 0), (4, vP g4 0), (3, vP g3 0), (2, vP g2 0)] ∧ Mem W wS (.blk g4 #[vI 0, vQ 0, vN, vN, vN, vN, vN] 45 :: .blk g3 o.cells 52 :: .blk g2 #[vI cp, vQ cr, .slice gA ng gc, .slice lA nl lc, .slice uA nu uc, .slice tA nt tc, .slice sA ns sc] 45 :: fG gA ng gc gs :: fI lA nl lc cl :: fI uA nu uc cu :: fT tA nt tc ts :: fS sA ns sc rs :: (fR rs ++ (T)))) (m := ts.length - 0) ⟨0, (-1), Nat.zero_le _, rfl, rfl, I.sub kr, L.pt 8 [0, 1, 2, 3, 4, 5, 6, 7]⟩ ?_
 clear I L; rintro mS a w_ ⟨n, be, hn, hbe, rfl, I, L⟩
 refine Jb I L ((JQ∘JP∘Jp 1∘Jg 5 O2∘Jl∘Jp 1∘Jd3∘Jj) (Ju (fun hb54 => ?_) fun hb54 => ?_))
 ·
  intro a I L
  have hd54 := of_decide_eq_true hb54
  revert L; revert a; repeat (first | clear I | clear L)
  intro a I L
  obtain ⟨gtA, rfl⟩ := qi (L.own (i := 6) rfl) (Nat.lt_of_le_of_lt (Nat.zero_le _) (show n < nt from (by omega : n < nt)))
  obtain ⟨t, ht⟩ : ∃ z, ts[n]? = some z := ⟨_, List.getElem?_eq_getElem om⟩
  obtain ⟨htg, hto⟩ := hx.task ht
  have hti := htg.id; have htgr := htg.group; have htc := htg.cpu; have htw := htg.weight; have htv := hto.v; have htr := hto.r; have htm := hto.mask
  replace htc : 0 ≤ t.cpu ∧ t.cpu < cp := htc
  obtain ⟨gt, hgt⟩ : ∃ n : Nat, t.group = (n : Int) := ⟨t.group.toNat, by omega⟩
  obtain ⟨ct, hct⟩ : ∃ n : Nat, t.cpu = (n : Int) := ⟨t.cpu.toNat, by omega⟩
  obtain ⟨wt, hwt⟩ : ∃ n : Nat, t.weight = (n : Int) := ⟨t.weight.toNat, by omega⟩
  have hEo : (⟨t.v, t.r, wt⟩ : En).Ok := En.qdf htg.ent hwt htv
  have hbi := qb7 hbe
  obtain ⟨bb, hbb⟩ : ∃ n : Nat, be.toNat = n := ⟨_, rfl⟩
  have hmb := Nat.div_le_self t.mask (2 ^ c)
  have hbw := fun h => hwt_ (ts.getD bb Tk.zero) (qf Tk.zero h)
  have hcx : (t.id ∈ cu) ↔ cu.getD ct 0 = t.id := qxa (s := (⟨cp, cr, gA, gc, gs, lA, lc, cl, uA, uc, cu, some ⟨gtA, 0, none⟩, tc, ts, sA, sc, rs⟩ : Stm).sta) hG (List.mem_of_getElem? ht) hct
  have hmay := qxb (x := (⟨cp, cr, gA, gc, gs, lA, lc, cl, uA, uc, cu, some ⟨gtA, 0, none⟩, tc, ts, sA, sc, rs⟩ : Stm)) (t := t) hcc hbz hlc hct
  refine Jb I L ((JT∘JS'∘JQ∘JB∘JP∘Jg 5 O2∘Jp 1∘Jy (h:=by exact Yl.ix0 gtA n 8 rfl rfl rfl)∘Jy (v := .agg t.cells) (h:=by exact Yl.loadS rfl rfl si_tk rfl (fun _ h => h.z5 qd (i := 6) rfl (ht)))∘JA #[vI 0, vI 0, vI 0, vI 0, vQ 0, .bool false, vQ 0, vW 0]) fun w11 g11 => (JV si_tk O0' (h1:=by exact qa4 t)) fun w13_6 => (Jd4∘Jj∘JQ) fun a I L => ?_)
  refine qz (fun aS wS => Fr aS 133 [] [(103, .bool (!(decide (t.ready = true ∧ t.cpu = fr ∧ (t.mask / 2 ^ c) % 2 = 1 ∧ cu.getD ct 0 ≠ t.id ∧ 2 * t.weight ≤ mo - lc_)))), (11, vP g11 0), (54, .bool true), (10, vI n), (9, vI be), (29, .bool false), (8, vI cp.toNat), (7, vI fr), (23, .bool false), (6, vI 0), (5, vI 0), (4, vP g4 0), (3, vP g3 0), (2, vP g2 0)] ∧ Mem W wS (.blk g11 t.cells 81 :: .blk g4 #[vI 0, vQ 0, vN, vN, vN, vN, vN] 45 :: .blk g3 o.cells 52 :: .blk g2 #[vI cp, vQ cr, .slice gA ng gc, .slice lA nl lc, .slice uA nu uc, vS gtA nt tc, .slice sA ns sc] 45 :: fG gA ng gc gs :: fI lA nl lc cl :: fI uA nu uc cu :: fT (some ⟨gtA, 0, none⟩) nt tc ts :: fS sA ns sc rs :: (fR rs ++ (T)))) ?_ ?_
  ·
   refine Jb I L ((Vs .n []) fun wd14 => (Vp [0, 1, 2]) fun a I L HS => ?_)
   rcases I.tf 64 rfl with ⟨hb64, I⟩ | ⟨hb64, I⟩
   ·
    have hd64 := of_decide_eq_true hb64
    refine Vb I L HS ((Vq [3, 4, 5, 6, 7, 8, 9, 10, 11, 12, 13, 14, 15, 16, 17, 18, 19, 20, 21, 22, 23, 24, 25, 26, 27, 28, 29, 30, 31, 32, 33, 34, 35, 36, 37, 38, 39, 40, 41] [(103, .bool true)]∘Vd∘Jd4) fun a I L => ?_)
    have I := I.sp 103 (.bool (!(decide (t.ready = true ∧ t.cpu = fr ∧ (t.mask / 2 ^ c) % 2 = 1 ∧ cu.getD ct 0 ≠ t.id ∧ 2 * t.weight ≤ mo - lc_)))) rfl (congrArg Value.bool (by rw [decide_eq_false (fun h => by have := h.2.1; omega)]; rfl))
    exact ⟨I.sub kr, L.pt 9 [0, 1, 2, 3, 4, 5, 6, 7, 8]⟩
   have hd64 := of_decide_eq_false hb64
   refine ap I (fun _ => HS) [3] (bf 42 [0, 1, 2, 3]) [(65, vP g11 5)] fun a I => ?_
   refine s_ac I HS 4 0 (v := .bool t.ready) fun a I => ?_
   refine ap I (fun _ => HS) [5, 6, 7] (bf 42 [0, 1, 2, 3, 4, 5, 6, 7]) [(69, .bool (!t.ready))] fun a I => ?_
   refine Jb I L (Ju (fun hb69 => ?_) fun hb69 => ?_)
   ·
    intro a I L
    refine ap I (fun _ => HS) [8, 9, 10, 11, 12, 13, 14, 15, 16, 17, 18, 19, 20, 21, 22, 23, 24, 25, 26, 27, 28, 29, 30, 31, 32, 33, 34, 35, 36, 37, 38, 39, 40, 41] (bt 42 []) [(103, .bool true)] fun a I => ?_
    refine qb kr ?_
    have I := I.sp 103 (.bool (!(decide (t.ready = true ∧ t.cpu = fr ∧ (t.mask / 2 ^ c) % 2 = 1 ∧ cu.getD ct 0 ≠ t.id ∧ 2 * t.weight ≤ mo - lc_)))) rfl (congrArg Value.bool (by rw [decide_eq_false (fun h => by simp [h.1] at hb69)]; rfl))
    exact ⟨I.sub kr, L.pt 9 [0, 1, 2, 3, 4, 5, 6, 7, 8]⟩
   intro a I L
   refine ap I (fun _ => HS) [8, 10] (bf 42 [0, 1, 2, 3, 4, 5, 6, 7, 8, 10]) [(72, vI fr), (70, vP g11 3)] fun a I => ?_
   refine s_ac I HS 9 0 (v := vI t.cpu) fun a I => ?_
   refine ap I (fun _ => HS) [11, 12, 13] (bf 42 [0, 1, 2, 3, 4, 5, 6, 7, 8, 9, 10, 11, 12, 13]) [(75, .bool ((t.cpu : Int) != (fr : Int)))] fun a I => ?_
   refine Jb I L (Jh (fun hd75 => ?_) fun hd75 => ?_)
   ·
    intro a I L
    refine ap I (fun _ => HS) [14, 15, 16, 17, 18, 19, 20, 21, 22, 23, 24, 25, 26, 27, 28, 29, 30, 31, 32, 33, 34, 35, 36, 37, 38, 39, 40, 41] (bt 42 []) [(103, .bool true)] fun a I => ?_
    refine qb kr ?_
    have I := I.sp 103 (.bool (!(decide (t.ready = true ∧ t.cpu = fr ∧ (t.mask / 2 ^ c) % 2 = 1 ∧ cu.getD ct 0 ≠ t.id ∧ 2 * t.weight ≤ mo - lc_)))) rfl (congrArg Value.bool (by rw [decide_eq_false (fun h => by have := h.2.1; omega)]; rfl))
    exact ⟨I.sub kr, L.pt 9 [0, 1, 2, 3, 4, 5, 6, 7, 8]⟩
   intro a I L
   refine ap I (fun _ => HS) [15] (bf 42 [0, 1, 2, 3, 4, 5, 6, 7, 8, 9, 10, 11, 12, 13, 15]) [(77, vP g11 0)] fun a I => ?_
   refine s_az I HS 14 rfl (v := .agg #[vI cp, vQ cr, .slice gA ng gc, .slice lA nl lc, .slice uA nu uc, vS gtA nt tc, .slice sA ns sc]) (Yl.loadS rfl rfl si_st rfl (fun _ h => qa (h.blk (i := 3) rfl))) fun a I => ?_
   refine s_ac I HS 16 0 (v := vI t.id) fun a I => ?_
   refine s_on I 17 rfl (e_is I L [.agg #[vI cp, vQ cr, .slice gA ng gc, .slice lA nl lc, .slice uA nu uc, vS gtA nt tc, .slice sA ns sc], vI t.id] (.bool (decide (t.id ∈ cu))) rfl rfl (qg8 (x := (⟨cp, cr, gA, gc, gs, lA, lc, cl, uA, uc, cu, some ⟨gtA, 0, none⟩, tc, ts, sA, sc, rs⟩ : Stm)) hlns (L.sdRd 4 rfl hlns) hx.few.u t.id) fun w79 hbw L a I => ?_)
   refine keepS (L.pt 9 [0, 1, 2, 3, 4, 5, 6, 7, 8]) (fun HS => ?_)
   refine ap I (fun _ => HS) [18, 19] (bf 42 [0, 1, 2, 3, 4, 5, 6, 7, 8, 9, 10, 11, 12, 13, 14, 15, 16, 17, 18, 19]) [(81, .bool (decide (t.id ∈ cu)))] fun a I => ?_
   refine Jb I L (Ji (fun hd81 => ?_) fun hd81 => ?_)
   ·
    intro a I L
    refine ap I (fun _ => HS) [20, 21, 22, 23, 24, 25, 26, 27, 28, 29, 30, 31, 32, 33, 34, 35, 36, 37, 38, 39, 40, 41] (bt 42 []) [(103, .bool true)] fun a I => ?_
    refine qb kr ?_
    have I := I.sp 103 (.bool (!(decide (t.ready = true ∧ t.cpu = fr ∧ (t.mask / 2 ^ c) % 2 = 1 ∧ cu.getD ct 0 ≠ t.id ∧ 2 * t.weight ≤ mo - lc_)))) rfl (congrArg Value.bool (by rw [decide_eq_false (fun h => h.2.2.2.1 (hcx.1 hd81))]; rfl))
    exact ⟨I.sub kr, L.pt 9 [0, 1, 2, 3, 4, 5, 6, 7, 8]⟩
   intro a I L
   refine ap I (fun _ => HS) [20, 22] (bt 42 [21, 23, 24, 25, 26, 27, 28, 29, 30, 31, 32, 33, 34, 35, 36, 37, 38, 39, 40, 41]) [(84, vP g3 1), (82, vP g11 4)] fun a I => ?_
   refine s_ac I HS 21 0 (v := vQ t.mask) fun a I => ?_
   refine s_ac I HS 23 2 (v := vI o.cpu) fun a I => ?_
   replace I := I.sp 85 (vI c) rfl (by rw [hcc])
   refine s_az I HS 24 rfl (v := vQ (t.mask / 2 ^ c : Nat)) (Yl.shrN (m := t.mask) (n := c) rfl rfl rfl (by show _ ≤ 64; omega)) fun a I => ?_
   refine za I (fun _ => HS) (i := 25) rfl rfl (d := 87) rfl de kr (fun _ _ _ h => h) (v := vQ (Int.tmod ((t.mask / 2 ^ c : Nat) : Int) 2)) (fun _ => Yl.pure kr) fun a I => ?_
   replace I := I.sp 87 (vQ ((t.mask / 2 ^ c) % 2 : Nat)) rfl (qav .u64 _ 2)
   refine ap I (fun _ => HS) [26, 27, 28] (bt 42 [29, 30, 31, 32, 33, 34, 35, 36, 37, 38, 39, 40, 41]) [(90, .bool ((((t.mask / 2 ^ c) % 2 : Nat) : Int) == (0 : Int)))] fun a I => ?_
   refine Jb I L (Je (fun hd90 => ?_) fun hd90 => ?_)
   ·
    intro a I L
    refine ap I (fun _ => HS) [29, 30, 31, 32, 33, 34, 35, 36, 37, 38, 39, 40, 41] (bt 42 []) [(103, .bool true)] fun a I => ?_
    refine qb kr ?_
    have I := I.sp 103 (.bool (!(decide (t.ready = true ∧ t.cpu = fr ∧ (t.mask / 2 ^ c) % 2 = 1 ∧ cu.getD ct 0 ≠ t.id ∧ 2 * t.weight ≤ mo - lc_)))) rfl (congrArg Value.bool (by rw [decide_eq_false (fun h => by have := h.2.2.1; omega)]; rfl))
    exact ⟨I.sub kr, L.pt 9 [0, 1, 2, 3, 4, 5, 6, 7, 8]⟩
   intro a I L
   refine ap I (fun _ => HS) [29, 36] (bt 42 [30, 31, 32, 33, 34, 35, 37, 38, 39, 40, 41]) [(98, vP g3 1), (91, vP g11 2)] fun a I => ?_
   refine s_ac I HS 30 0 (v := vI t.weight) fun a I => ?_
   refine za I (fun _ => HS) (i := 31) rfl rfl (d := 93) rfl de kr (fun _ _ _ h => h) (v := vI (IntKind.i64.wrap (2 * t.weight))) (fun _ => Yl.pure kr) fun a I => ?_
   replace I := I.sp 93 (vI (2 * t.weight)) rfl (qcb ⟨by omega, by omega⟩)
   refine s_az I HS 32 rfl (v := .agg #[vI cp, vQ cr, .slice gA ng gc, .slice lA nl lc, .slice uA nu uc, vS gtA nt tc, .slice sA ns sc]) (Yl.loadS rfl rfl si_st rfl (fun _ h => qa (h.blk (i := 3) rfl))) fun a I => ?_
   refine za I (fun _ => HS) (i := 33) rfl rfl (d := 95) rfl de kr (fun _ _ _ h => h) (v := vI fr) (fun _ => Yl.pure kr) fun a I => ?_
   replace I := I.sp 95 (vI fr.toNat) rfl (by rw [Int.toNat_of_nonneg om])
   refine s_az I HS 35 rfl (v := .agg #[vI cp, vQ cr, .slice gA ng gc, .slice lA nl lc, .slice uA nu uc, vS gtA nt tc, .slice sA ns sc]) (Yl.loadS rfl rfl si_st rfl (fun _ h => qa (h.blk (i := 3) rfl))) fun a I => ?_
   refine s_ac I HS 37 2 (v := vI o.cpu) fun a I => ?_
   replace I := I.sp 99 (vI c) rfl (by rw [hcc])
   refine s_on I 34 rfl (e_is I L [.agg #[vI cp, vQ cr, .slice gA ng gc, .slice lA nl lc, .slice uA nu uc, vS gtA nt tc, .slice sA ns sc], vI fr.toNat] (vI mo) rfl rfl (qdb (x := (⟨cp, cr, gA, gc, gs, lA, lc, cl, uA, uc, cu, some ⟨gtA, 0, none⟩, tc, ts, sA, sc, rs⟩ : Stm)) hx (L.sdRd 4 rfl hlns) (hmo om)) fun w96 hbw L a I => ?_)
   refine keepS (L.pt 9 [0, 1, 2, 3, 4, 5, 6, 7, 8]) (fun HS => ?_)
   refine s_on I 38 rfl (e_is I L [.agg #[vI cp, vQ cr, .slice gA ng gc, .slice lA nl lc, .slice uA nu uc, vS gtA nt tc, .slice sA ns sc], vI c] (vI lc_) rfl rfl (qdb (x := (⟨cp, cr, gA, gc, gs, lA, lc, cl, uA, uc, cu, some ⟨gtA, 0, none⟩, tc, ts, sA, sc, rs⟩ : Stm)) hx (L.sdRd 4 rfl hlns) hlc) fun w100 hbw L a I => ?_)
   refine keepS (L.pt 9 [0, 1, 2, 3, 4, 5, 6, 7, 8]) (fun HS => ?_)
   refine za I (fun _ => HS) (i := 39) rfl rfl (d := 101) rfl de kr (fun _ _ _ h => h) (v := vI (IntKind.i64.wrap (mo - lc_))) (fun _ => Yl.pure kr) fun a I => ?_
   replace I := I.sp 101 (vI (mo - lc_)) rfl (qcb ⟨by omega, by omega⟩)
   refine ap I (fun _ => HS) [40, 41] (bt 42 []) [(103, .bool (decide ((2 * t.weight : Int) > (mo - lc_ : Int))))] fun a I => ?_
   refine qb kr ?_
   have I := I.sp 103 (.bool (!(decide (t.ready = true ∧ t.cpu = fr ∧ (t.mask / 2 ^ c) % 2 = 1 ∧ cu.getD ct 0 ≠ t.id ∧ 2 * t.weight ≤ mo - lc_)))) rfl (congrArg Value.bool (by rw [← decide_not]; exact decide_eq_decide.2 (qu9 (by simpa using hb69) om om (fun h => hd81 (hcx.2 h)) om)))
   exact ⟨I.sub kr, L.pt 9 [0, 1, 2, 3, 4, 5, 6, 7, 8]⟩
  clear I L; rintro a w14 ⟨I, L⟩
  refine Jb I L (Ji' (fun hd103 => ?_) fun hd103 => ?_)
  ·
   refine (JT∘JX∘JG∘JR∘Jp 1∘JaK 1∘Jp 1∘Jd2∘Jq) fun a I L => ?_
   exact ⟨_, om, n + 1, be, by omega, by rw [qcq hbe, show (Stm.sta (⟨cp, cr, gA, gc, gs, lA, lc, cl, uA, uc, cu, some ⟨gtA, 0, none⟩, tc, ts, sA, sc, rs⟩ : Stm)).ts.getD n Tk.zero = t from zc Tk.zero ht, if_neg (qs9 (x := (⟨cp, cr, gA, gc, gs, lA, lc, cl, uA, uc, cu, some ⟨gtA, 0, none⟩, tc, ts, sA, sc, rs⟩ : Stm)) (hmay.trans (decide_eq_false hd103)))], rfl, I.sub kr, L.pt 9 [1, 2, 3, 4, 5, 6, 7, 8]⟩
  refine (JF∘JS') fun a I L => ?_
  refine qz (fun aS wS => Fr aS 133 [] [(116, .bool (decide (be < 0 ∨ (ts.getD bb Tk.zero).weight < t.weight))), (103, .bool false), (11, vP g11 0), (54, .bool true), (10, vI n), (9, vI be), (29, .bool false), (8, vI cp.toNat), (7, vI fr), (23, .bool false), (6, vI 0), (5, vI 0), (4, vP g4 0), (3, vP g3 0), (2, vP g2 0)] ∧ Mem W wS (.blk g11 t.cells 81 :: .blk g4 #[vI 0, vQ 0, vN, vN, vN, vN, vN] 45 :: .blk g3 o.cells 52 :: .blk g2 #[vI cp, vQ cr, .slice gA ng gc, .slice lA nl lc, .slice uA nu uc, vS gtA nt tc, .slice sA ns sc] 45 :: fG gA ng gc gs :: fI lA nl lc cl :: fI uA nu uc cu :: fT (some ⟨gtA, 0, none⟩) nt tc ts :: fS sA ns sc rs :: (fR rs ++ (T)))) ?_ ?_
  ·
   refine Jb I L ((Vs .n []) fun wd15 => (Vp [0, 1, 2]) fun a I L HS => ?_)
   rcases I.tf 106 rfl with ⟨hb106, I⟩ | ⟨hb106, I⟩
   ·
    have hd106 := of_decide_eq_true hb106
    refine Vb I L HS ((Vq [3, 4, 5, 6, 7, 8, 9, 10, 11, 12] [(116, .bool true)]∘Vd∘Jd4) fun a I L => ?_)
    have I := I.sp 116 (.bool (decide (be < 0 ∨ (ts.getD bb Tk.zero).weight < t.weight))) rfl (congrArg Value.bool (decide_eq_true om).symm)
    exact ⟨I.sub kr, L.pt 9 [0, 1, 2, 3, 4, 5, 6, 7, 8]⟩
   have hd106 := of_decide_eq_false hb106
   refine ap I (fun _ => HS) [3, 5] (bf 13 [0, 1, 2, 3, 5]) [(109, vP g2 5), (107, vP g11 2)] fun a I => ?_
   refine s_ac I HS 4 0 (v := vI t.weight) fun a I => ?_
   refine s_ac I HS 6 3 fun a I => ?_
   refine za I (fun _ => HS) (i := 7) rfl rfl (d := 111) rfl de kr (fun _ _ _ h => h) (v := vI be) (fun _ => Yl.pure kr) fun a I => ?_
   replace I := I.sp 111 (vI bb) rfl (by rw [show be = (bb : Int) by omega])
   refine s_az I HS 8 rfl (v := vP gtA (bb * 8)) (Yl.ix0 gtA bb 8 rfl rfl rfl) fun a I => ?_
   refine ap I (fun _ => HS) [9] (bt 13 [10, 11, 12]) [(113, vP gtA (bb * 8 + 2))] fun a I => ?_
   refine s_az I HS 10 rfl (v := vI ((ts.getD bb Tk.zero).weight)) (Yl.qh rfl rfl kr (fun _ h => h.qv qd (i := 7) rfl (k := bb) (off := 2) (x := (ts.getD bb Tk.zero)) ((getD_at Tk.zero om)) rfl)) fun a I => ?_
   refine ap I (fun _ => HS) [11, 12] (bt 13 []) [(116, .bool (decide ((t.weight : Int) > ((ts.getD bb Tk.zero).weight : Int))))] fun a I => ?_
   refine qb kr ?_
   have I := I.sp 116 (.bool (decide (be < 0 ∨ (ts.getD bb Tk.zero).weight < t.weight))) rfl (congrArg Value.bool (decide_eq_decide.2 om))
   exact ⟨I.sub kr, L.pt 9 [0, 1, 2, 3, 4, 5, 6, 7, 8]⟩
  clear I L; rintro a w15 ⟨I, L⟩
  refine Jb I L (Ji (fun hd116 => ?_) fun hd116 => ?_)
  ·
   refine (JT∘JR∘Jp 2∘Jd1∘Jj∘JR∘Jp 1∘JaK 1∘Jp 1∘Jd2∘Jq) fun a I L => ?_
   exact ⟨_, om, n + 1, (n : Int), by omega, by rw [qcq hbe, show (Stm.sta (⟨cp, cr, gA, gc, gs, lA, lc, cl, uA, uc, cu, some ⟨gtA, 0, none⟩, tc, ts, sA, sc, rs⟩ : Stm)).ts.getD n Tk.zero = t from zc Tk.zero ht, if_pos (qs7 (x := (⟨cp, cr, gA, gc, gs, lA, lc, cl, uA, uc, cu, some ⟨gtA, 0, none⟩, tc, ts, sA, sc, rs⟩ : Stm)) hbb (hmay.trans (decide_eq_true hd103)) hd116)], rfl, I.sub kr, L.pt 9 [1, 2, 3, 4, 5, 6, 7, 8]⟩
  refine (JF∘JS'∘JR∘Jp 1∘JaK 1∘Jp 1∘Jd2∘Jq) fun a I L => ?_
  exact ⟨_, om, n + 1, be, by omega, by rw [qcq hbe, show (Stm.sta (⟨cp, cr, gA, gc, gs, lA, lc, cl, uA, uc, cu, some ⟨gtA, 0, none⟩, tc, ts, sA, sc, rs⟩ : Stm)).ts.getD n Tk.zero = t from zc Tk.zero ht, if_neg (qs8 (x := (⟨cp, cr, gA, gc, gs, lA, lc, cl, uA, uc, cu, some ⟨gtA, 0, none⟩, tc, ts, sA, sc, rs⟩ : Stm)) hbb hd116)], rfl, I.sub kr, L.pt 9 [1, 2, 3, 4, 5, 6, 7, 8]⟩
 intro a I L
 have hd54 := of_decide_eq_false hb54
 have hnl : n = ts.length := by omega
 revert L; revert a; repeat (first | clear I | clear L)
 intro a I L
 subst hnl
 have hbi := qb7 hbe
 refine Jb I L ((JF∘JX∘JG∘JQ∘JP∘Jp 2∘Jd1∘Jj) (Ju (fun hb119 => ?_) fun hb119 => ?_))
 ·
  intro a I L
  have hd119 := of_decide_eq_true hb119
  refine Jb I L ((JT∘JP∘Jy (v := .agg #[vI cp, vQ cr, .slice gA ng gc, .slice lA nl lc, .slice uA nu uc, .slice tA nt tc, .slice sA ns sc]) (h:=by exact Yl.loadS rfl rfl si_st rfl (fun _ h => qa (h.blk (i := 2) rfl)))∘JV si_st O0') fun w18_1 => (Jp 2∘Jj∘JZ) fun a I L => ?_)
  exact ret3 rfl I (.cellS (i := 0) I L rfl rfl si_st rfl) (.tmp I rfl) (.tmp I rfl) (qp (y := (⟨cp, cr, gA, gc, gs, lA, lc, cl, uA, uc, cu, tA, tc, ts, sA, sc, rs⟩ : Stm)) 3 L rfl hlns (qfn (x := (⟨cp, cr, gA, gc, gs, lA, lc, cl, uA, uc, cu, tA, tc, ts, sA, sc, rs⟩ : Stm)) (decide_eq_true (by show 0 ≤ o.cpu ∧ o.cpu < cp; omega)) (by rw [hbe]; omega)))
 intro a I L
 have hd119 := of_decide_eq_false hb119
 obtain ⟨k, hk⟩ : ∃ n : Nat, be = (n : Int) := ⟨be.toNat, by omega⟩
 revert L; revert a; repeat (first | clear I | clear L)
 intro a I L
 subst hk
 revert L; revert a; repeat (first | clear I | clear L)
 intro a I L
 obtain ⟨gtA, rfl⟩ := qi (L.own (i := 6) rfl) (Nat.lt_of_le_of_lt (Nat.zero_le _) (show k < nt from (by omega : k < nt)))
 obtain ⟨t2, ht2⟩ : ∃ z, ts[k]? = some z := ⟨_, List.getElem?_eq_getElem om⟩
 refine Jb I L ((JF∘JS'∘JP∘Jg 5 O2∘Jp 1∘Jy (h:=by exact Yl.ix0 gtA k 8 rfl rfl rfl)∘Jf 0∘Jy (v := vI t2.id) (h:=by exact Yl.qh rfl rfl kr (fun _ h => (by have := h.qv qd (i := 6) rfl (k := k) (off := 0) (x := t2) (ht2) rfl; simpa using this)))∘Jp 1∘Jd5∘Jr∘Jy (v := .agg #[vI cp, vQ cr, .slice gA ng gc, .slice lA nl lc, .slice uA nu uc, vS gtA nt tc, .slice sA ns sc]) (h:=by exact Yl.loadS rfl rfl si_st rfl (fun _ h => qa (h.blk (i := 2) rfl)))∘Jp 1∘Jf 1∘Jc O1∘Jo (vI c) (by rw [hcc])∘JL (h:=by exact fun L => qfq 3 L rfl hx k c t2 ht2 (by show ((c : Nat) : Int) < cp; omega))) ?_)
 rintro L _ w131 ⟨y2, rfl, hy2, HM2⟩
 refine ⟨_, rfl, _, (show Mem W w131 (.blk g4 #[vI 0, vQ 0, vN, vN, vN, vN, vN] 45 :: .blk g3 o.cells 52 :: .blk g2 #[vI cp, vQ cr, .slice gA ng gc, .slice lA nl lc, .slice uA nu uc, vS gtA nt tc, .slice sA ns sc] 45 :: (stF y2 ++ (T))) from HM2), ?_⟩
 refine (Jp 1∘JV si_st O0' (h1:=by exact q5 y2)) fun w20_6 => (Jp 2∘Jj∘JZ) fun a I L => ?_
 exact ret3 rfl I (.cellS (i := 0) I L rfl rfl si_st rfl) (.tmp I rfl) (.tmp I rfl) (qjj (y := y2) 3 L rfl hy2 ((qfo (x := (⟨cp, cr, gA, gc, gs, lA, lc, cl, uA, uc, cu, some ⟨gtA, 0, none⟩, tc, ts, sA, sc, rs⟩ : Stm)) (decide_eq_true (by show 0 ≤ o.cpu ∧ o.cpu < cp; omega)) hbe ht2).trans (by rw [hcc])))
theorem qta {P : Program} {x : Code} {Q : Exit → Act → World → Prop} {a : Act} {w : World} (R : Act → World → Prop) (h : x.wp P (Exit.then R Q) a w) (k : ∀ a w, R a w → Q .normal a w) : x.wp P Q a w :=
 Code.wp_mono (fun e a w hq => by cases e <;> first | exact k _ _ hq | exact hq) h
theorem qpu {x : Stm} {y : Stm} {o : Op30} {c : Nat} (hc : o.cpu = (c : Int)) (hk : o.kind = 6) (hy : y.sta = x.sta) (hok : x.sta.qb8 o.cpu = true) : (ze y.sta c : Int) = (stepS x.sta o).2.1 ∧ (stepS x.sta o).2.2 = 0 ∧ (stepS x.sta o).1 = { x.sta with cu := x.sta.cu.set c (ze y.sta c) } := by
 rw [qvz hk, hy]
 unfold pickS
 rw [if_neg (nf hok), hc, Int.toNat_natCast]
 exact ⟨rfl, rfl, rfl⟩
theorem qjo {s : Sta} {o : Op30} (hk : o.kind = 6) (hok : s.qb8 o.cpu = false) : doS s o = (s, 0, 300) := by
 have e : stepS s o = (s, 0, 300) := by
  rw [qvz hk]
  unfold pickS
  rw [if_pos hok]
 rw [qgx (by rw [e]; show (300 : Nat) ≠ 0; decide), e]
theorem qxc (x : Stm) (o : Op30) (w : World) (hG : GoodS x.sta) (hr : StRd w x) (ho : o.Ok) :
    Calls Tryz.prog 28 #[.agg x.cells, .agg o.cells] w (DoRef w x (doS x.sta o)) := by
 have hxo := qap hG.sh
 have hfx := hxo.few
 refine (JN2 Tryz.func28 110) ?_
 refine (JP∘JE) fun w2 g2 => (JE) fun w3 g3 => (JA #[vI 0, vQ 0, vN, vN, vN, vN, vN]) fun w4 g4 => (Jp 2∘Jr∘Jy (v := .agg x.cells) (h:=by exact Yl.loadS rfl rfl si_st rfl (fun _ h => qa (h.blk (i := 2) rfl)))∘JL (h:=by exact fun L => qbj x _ (hr.old L) hfx)) ?_
 rintro L _ w11 ⟨y, rfl, heq, hcap, hm⟩
 refine ⟨_, rfl, _, (show Mem w _ (.blk g4 #[vI 0, vQ 0, vN, vN, vN, vN, vN] 45 :: .blk g3 o.cells 52 :: .blk g2 x.cells 45 :: (stF y ++ ([]))) from by have h := L.joinT hm; rw [← List.append_nil (stF y)] at h; exact h), ?_⟩
 refine (JA #[vI 0, vQ 0, vN, vN, vN, vN, vN]) fun w7 g7 => (JV si_st O0' (h1:=by exact q5 y)) fun w1_3 => (Jd2∘Jq) fun a I L => ?_
 have hyS : y.sta = x.sta := qfk heq
 have hyG : GoodS y.sta := by rw [hyS]; exact hG
 have hyo := qap hyG.sh
 have hcur : ∀ c, c < y.cu.length → curOk y.sta c = true := (ql3 hyG.sh.sort).2 hyG.cur
 refine Jb I L ((JG∘JP∘Jp 2∘Jj∘JQ∘JP∘Jg 0 O2∘Jj) fun a I L => ?_)
 refine qta (fun aS wS => ∃ (z : Stm), (z.sta = (stepS x.sta o).1) ∧ Fr aS 110 [] [(8, vI ((stepS x.sta o).2.1)), (9, vI ((stepS x.sta o).2.2)), (7, vP g7 0), (6, vI 0), (5, vI 0), (4, vP g4 0), (3, vP g3 0), (2, vP g2 0)] ∧ Mem w wS (.blk g7 z.cells 45 :: .blk g4 #[vI 0, vQ 0, vN, vN, vN, vN, vN] 45 :: .blk g3 o.cells 52 :: .blk g2 x.cells 45 :: (stF z ++ ([])))) ?_ ?_
 ·
  refine Jb I L ((JB∘JP∘Jp 2∘Jd1∘Jj) (Je (fun hd14 => ?_) fun hd14 => ?_))
  ·
   refine (JT∘JR∘Jy (v := .agg y.cells) (h:=by exact Yl.loadS rfl rfl si_st rfl (fun _ h => qa (h.blk (i := 0) rfl)))∘Jy (v := .agg o.cells) (h:=by exact Yl.loadS rfl rfl si_op rfl (fun _ h => qa (h.blk (i := 2) rfl)))∘JL (h:=by exact fun L => op_md (out := (stepS x.sta o)) (spec := qcd y.sta o) 4 L rfl ((qyc om).trans (by rw [hyS])) (fun T h => qpt w _ y _ _ _ _ _ hyo T h o ho))) ?_
   rintro L _ w19 ⟨z, rfl, hz, HM2⟩
   refine ⟨_, rfl, _, (show Mem w w19 (.blk g7 y.cells 45 :: .blk g4 #[vI 0, vQ 0, vN, vN, vN, vN, vN] 45 :: .blk g3 o.cells 52 :: .blk g2 x.cells 45 :: (stF z ++ ([]))) from HM2), ?_⟩
   refine (Jp 1∘Jx∘Jx∘Jx∘JV si_st O0' (h1:=by exact q5 z)) fun w6_7 => (Jp 2∘Jq) fun a I L => ?_
   exact ⟨z, hz, I.sub kr, L.pt 4 [0, 1, 2, 3]⟩
  refine (JF∘JP∘Jp 2∘Jd1∘Jj) (Je (fun hd23 => ?_) fun hd23 => ?_)
  ·
   refine (JT∘JR∘Jy (v := .agg y.cells) (h:=by exact Yl.loadS rfl rfl si_st rfl (fun _ h => qa (h.blk (i := 0) rfl)))∘Jy (v := .agg o.cells) (h:=by exact Yl.loadS rfl rfl si_op rfl (fun _ h => qa (h.blk (i := 2) rfl)))∘JL (h:=by exact fun L => op_md (out := (stepS x.sta o)) (spec := qce y.sta o) 4 L rfl ((qyd om).trans (by rw [hyS])) (fun T h => qps w _ y _ _ _ _ _ hyo T h o ho))) ?_
   rintro L _ w28 ⟨z, rfl, hz, HM2⟩
   refine ⟨_, rfl, _, (show Mem w w28 (.blk g7 y.cells 45 :: .blk g4 #[vI 0, vQ 0, vN, vN, vN, vN, vN] 45 :: .blk g3 o.cells 52 :: .blk g2 x.cells 45 :: (stF z ++ ([]))) from HM2), ?_⟩
   refine (Jp 1∘Jx∘Jx∘Jx∘JV si_st O0' (h1:=by exact q5 z)) fun w8_7 => (Jp 2∘Jq) fun a I L => ?_
   exact ⟨z, hz, I.sub kr, L.pt 4 [0, 1, 2, 3]⟩
  refine (JF∘JQ∘JP∘Jp 2∘Jd1∘Jj) (Je (fun hd32 => ?_) fun hd32 => ?_)
  ·
   refine (JT∘JS'∘JT∘JR∘Jy (v := .agg y.cells) (h:=by exact Yl.loadS rfl rfl si_st rfl (fun _ h => qa (h.blk (i := 0) rfl)))∘Jy (v := .agg o.cells) (h:=by exact Yl.loadS rfl rfl si_op rfl (fun _ h => qa (h.blk (i := 2) rfl)))∘JL (h:=by exact fun L => op_md (out := (stepS x.sta o)) (spec := qar y.sta o) 4 L rfl ((qs1 om).trans (by rw [hyS])) (fun T h => qid w _ y _ _ _ _ _ hyo T h o ho hcur))) ?_
   rintro L _ w38 ⟨z, rfl, hz, HM2⟩
   refine ⟨_, rfl, _, (show Mem w w38 (.blk g7 y.cells 45 :: .blk g4 #[vI 0, vQ 0, vN, vN, vN, vN, vN] 45 :: .blk g3 o.cells 52 :: .blk g2 x.cells 45 :: (stF z ++ ([]))) from HM2), ?_⟩
   refine (Jp 1∘Jx∘Jx∘Jx∘JV si_st O0' (h1:=by exact q5 z)) fun w11_7 => (Jp 2∘Jq) fun a I L => ?_
   exact ⟨z, hz, I.sub kr, L.pt 4 [0, 1, 2, 3]⟩
  refine (JF∘JR∘Jp 2∘Jd1∘Jj) (Je (fun hd32 => ?_) fun hd32 => ?_)
  ·
   refine (JT∘JR∘Jy (v := .agg y.cells) (h:=by exact Yl.loadS rfl rfl si_st rfl (fun _ h => qa (h.blk (i := 0) rfl)))∘Jy (v := .agg o.cells) (h:=by exact Yl.loadS rfl rfl si_op rfl (fun _ h => qa (h.blk (i := 2) rfl)))∘JL (h:=by exact fun L => op_md (out := (stepS x.sta o)) (spec := qar y.sta o) 4 L rfl ((qs1 om).trans (by rw [hyS])) (fun T h => qid w _ y _ _ _ _ _ hyo T h o ho hcur))) ?_
   rintro L _ w38 ⟨z, rfl, hz, HM2⟩
   refine ⟨_, rfl, _, (show Mem w w38 (.blk g7 y.cells 45 :: .blk g4 #[vI 0, vQ 0, vN, vN, vN, vN, vN] 45 :: .blk g3 o.cells 52 :: .blk g2 x.cells 45 :: (stF z ++ ([]))) from HM2), ?_⟩
   refine (Jp 1∘Jx∘Jx∘Jx∘JV si_st O0' (h1:=by exact q5 z)) fun w11_7 => (Jp 2∘Jq) fun a I L => ?_
   exact ⟨z, hz, I.sub kr, L.pt 4 [0, 1, 2, 3]⟩
  refine (JF∘JP∘Jp 2∘Jd1∘Jj) (Je (fun hd42 => ?_) fun hd42 => ?_)
  ·
   refine (JT∘JR∘Jy (v := .agg y.cells) (h:=by exact Yl.loadS rfl rfl si_st rfl (fun _ h => qa (h.blk (i := 0) rfl)))∘Jy (v := .agg o.cells) (h:=by exact Yl.loadS rfl rfl si_op rfl (fun _ h => qa (h.blk (i := 2) rfl)))∘JL (h:=by exact fun L => op_md (out := (stepS x.sta o)) (spec := tickS y.sta o) 4 L rfl ((qye om).trans (by rw [hyS])) (fun T h => qs6 w _ y _ _ _ _ _ hyo T h o ho hcur))) ?_
   rintro L _ w47 ⟨z, rfl, hz, HM2⟩
   refine ⟨_, rfl, _, (show Mem w w47 (.blk g7 y.cells 45 :: .blk g4 #[vI 0, vQ 0, vN, vN, vN, vN, vN] 45 :: .blk g3 o.cells 52 :: .blk g2 x.cells 45 :: (stF z ++ ([]))) from HM2), ?_⟩
   refine (Jp 1∘Jx∘Jx∘Jx∘JV si_st O0' (h1:=by exact q5 z)) fun w13_7 => (Jp 2∘Jq) fun a I L => ?_
   exact ⟨z, hz, I.sub kr, L.pt 4 [0, 1, 2, 3]⟩
  refine (JF∘JP∘Jp 2∘Jd1∘Jj) (Je (fun hd51 => ?_) fun hd51 => ?_)
  ·
   refine (JT∘JQ∘JP∘Jg 1 O2∘Jp 2) (Ji (fun hd56 => ?_) fun hd56 => ?_)
   ·
    refine (Jp 7∘Jd6∘Jj∘JT∘JP∘Jy (v := .agg x.cells) (h:=by exact Yl.loadS rfl rfl si_st rfl (fun _ h => qa (h.blk (i := 3) rfl)))∘JV si_st O1' (h1:=by exact q5 x)) fun w16_1 => (Jp 2∘Jj∘JZ) fun a I L => ?_
    exact ret3 rfl I (.cellS (i := 1) I L rfl rfl si_st rfl) (.tmp I rfl) (.tmp I rfl) (⟨x, by rw [qjo om (decide_eq_false (by show ¬ (0 ≤ o.cpu ∧ o.cpu < x.cpus); omega))]; rfl, by rw [qjo om (decide_eq_false (by show ¬ (0 ≤ o.cpu ∧ o.cpu < x.cpus); omega))], .inl ⟨rfl, L.below⟩⟩)
   refine (Jg 1 O2∘Jf 0∘Jg 0 O3∘Jp 2∘Jd6∘Jj) (Ju (fun hb63 => ?_) fun hb63 => ?_)
   ·
    intro a I L
    have hd63 := of_decide_eq_true hb63
    refine Jb I L ((JT∘JP∘Jy (v := .agg x.cells) (h:=by exact Yl.loadS rfl rfl si_st rfl (fun _ h => qa (h.blk (i := 3) rfl)))∘JV si_st O1' (h1:=by exact q5 x)) fun w16_1 => (Jp 2∘Jj∘JZ) fun a I L => ?_)
    exact ret3 rfl I (.cellS (i := 1) I L rfl rfl si_st rfl) (.tmp I rfl) (.tmp I rfl) (⟨x, by rw [qjo om (decide_eq_false (by show ¬ (0 ≤ o.cpu ∧ o.cpu < x.cpus); omega))]; rfl, by rw [qjo om (decide_eq_false (by show ¬ (0 ≤ o.cpu ∧ o.cpu < x.cpus); omega))], .inl ⟨rfl, L.below⟩⟩)
   intro a I L
   have hd63 := of_decide_eq_false hb63
   obtain ⟨c, hcc⟩ : ∃ n : Nat, o.cpu = (n : Int) := ⟨o.cpu.toNat, by omega⟩
   have hccp : ((c : Nat) : Int) < x.sta.cpus := by show ((c : Nat) : Int) < x.cpus; omega
   have hcul : (y.cu.length : Int) = x.cpus := by have h := hyG.sh.cu; rw [hyS] at h; rw [show y.cu = y.sta.cu from rfl, hyS]; exact h
   have hcul2 : c < y.cu.length := by have h : ((c : Nat) : Int) < x.cpus := hccp; omega
   refine Jb I L ((JF∘JS'∘JP∘Jy (v := .agg y.cells) (h:=by exact Yl.loadS rfl rfl si_st rfl (fun _ h => qa (h.blk (i := 0) rfl)))∘Jf 1∘Jc O2∘Jo (vI c) (by rw [hcc])∘JI (h:=by exact fun L => qs5 (x := y) hyo (L.stL 4 rfl) (by show ((c : Nat) : Int) < y.sta.cpus; rw [hyS]; exact hccp))) fun w68 hbw => (Jp 1∘Jd4∘Jq) fun a I L => ?_)
   have hfy : (ze y.sta c : Int) = (stepS x.sta o).2.1 ∧ (stepS x.sta o).2.2 = 0 ∧ (stepS x.sta o).1 = { x.sta with cu := x.sta.cu.set c (ze y.sta c) } := qpu hcc om hyS (decide_eq_true (by show 0 ≤ o.cpu ∧ o.cpu < x.cpus; omega))
   obtain ⟨fz, hfz⟩ : ∃ q : Int, (ze y.sta c : Int) = q := ⟨_, rfl⟩
   rw [hfz] at hfy
   replace I := I.sp 8 (vI fz) rfl (by rw [hfz])
   have hyS2 := hyS
   obtain ⟨cp, cr, gA, gc, gs, lA, lc, cl, uA, uc, cu, tA, tc, ts, sA, sc, rs⟩ := y
   replace L : Mem w _ (.blk g7 #[vI cp, vQ cr, .slice gA gs.length gc, .slice lA cl.length lc, .slice uA cu.length uc, .slice tA ts.length tc, .slice sA rs.length sc] 45 :: .blk g4 #[vI 0, vQ 0, vN, vN, vN, vN, vN] 45 :: .blk g3 o.cells 52 :: .blk g2 x.cells 45 :: fG gA gs.length gc gs :: fI lA cl.length lc cl :: fI uA cu.length uc cu :: fT tA ts.length tc ts :: fS sA rs.length sc rs :: (fR rs ++ ([]))) := L
   replace hcul2 : c < cu.length := hcul2
   revert L; revert a; repeat (first | clear I | clear L)
   intro a I L
   obtain ⟨guA, rfl⟩ := qi (L.own (i := 6) rfl) om
   refine Jb I L ((JG∘JR∘Jg 4 O0∘Jf 1∘Jc O2∘Jo (vI c) (by rw [hcc])∘Jp 1∘Jy (h:=by exact Yl.ix0 guA c 1 rfl rfl rfl)) fun a I L => ?_)
   refine fo I 6 rfl rfl ?_
   refine qk I L (i := 6) rfl rfl rfl rfl kr rfl rfl (by rw [List.length_map]; omega) ?_
   clear L; intro w18_6 L
   replace L := L.asRow (i := 6) (ys := (cu.set c fz).map I64i) rfl (zt I64i cu c fz om)
   refine Jb I L ((Jt5∘Jq) fun a I L => ?_)
   replace L : Mem w _ (.blk g7 ((⟨cp, cr, gA, gc, gs, lA, lc, cl, some ⟨guA, 0, none⟩, uc, cu.set c fz, tA, tc, ts, sA, sc, rs⟩ : Stm).cells) 45 :: .blk g4 #[vI 0, vQ 0, vN, vN, vN, vN, vN] 45 :: .blk g3 o.cells 52 :: .blk g2 x.cells 45 :: (stF (⟨cp, cr, gA, gc, gs, lA, lc, cl, some ⟨guA, 0, none⟩, uc, cu.set c fz, tA, tc, ts, sA, sc, rs⟩ : Stm) ++ ([]))) := (by have h := L; rw [← (show (cu.set c fz).length = cu.length from List.length_set ..)] at h; exact h)
   replace I := I.sp 8 (vI ((stepS x.sta o).2.1)) rfl (by rw [hfy.1])
   replace I := I.sp 9 (vI ((stepS x.sta o).2.2)) rfl (by rw [hfy.2.1]; rfl)
   exact ⟨(⟨cp, cr, gA, gc, gs, lA, lc, cl, some ⟨guA, 0, none⟩, uc, cu.set c fz, tA, tc, ts, sA, sc, rs⟩ : Stm), (congrArg (fun s : Sta => ({ s with cu := s.cu.set c fz } : Sta)) hyS2).trans hfy.2.2.symm, I.sub kr, L.pt 4 [0, 1, 2, 3]⟩
  refine (JF∘JQ∘JP∘Jp 2∘Jd1∘Jj) (Je (fun hd75 => ?_) fun hd75 => ?_)
  ·
   refine (JT∘JS'∘JT∘JR∘Jy (v := .agg y.cells) (h:=by exact Yl.loadS rfl rfl si_st rfl (fun _ h => qa (h.blk (i := 0) rfl)))∘Jy (v := .agg o.cells) (h:=by exact Yl.loadS rfl rfl si_op rfl (fun _ h => qa (h.blk (i := 2) rfl)))∘JL (h:=by exact fun L => op_md (out := (stepS x.sta o)) (spec := if o.kind = 8 then qad y.sta o else zx y.sta o) 4 L rfl ((qs2 om).trans (by rw [hyS])) (fun T h => qie w _ y _ _ _ _ _ hyo T h o ho))) ?_
   rintro L _ w81 ⟨z, rfl, hz, HM2⟩
   refine ⟨_, rfl, _, (show Mem w w81 (.blk g7 y.cells 45 :: .blk g4 #[vI 0, vQ 0, vN, vN, vN, vN, vN] 45 :: .blk g3 o.cells 52 :: .blk g2 x.cells 45 :: (stF z ++ ([]))) from HM2), ?_⟩
   refine (Jp 1∘Jx∘Jx∘Jx∘JV si_st O0' (h1:=by exact q5 z)) fun w21_7 => (Jp 2∘Jq) fun a I L => ?_
   exact ⟨z, hz, I.sub kr, L.pt 4 [0, 1, 2, 3]⟩
  refine (JF∘JR∘Jp 2∘Jd1∘Jj) (Je (fun hd75 => ?_) fun hd75 => ?_)
  ·
   refine (JT∘JR∘Jy (v := .agg y.cells) (h:=by exact Yl.loadS rfl rfl si_st rfl (fun _ h => qa (h.blk (i := 0) rfl)))∘Jy (v := .agg o.cells) (h:=by exact Yl.loadS rfl rfl si_op rfl (fun _ h => qa (h.blk (i := 2) rfl)))∘JL (h:=by exact fun L => op_md (out := (stepS x.sta o)) (spec := if o.kind = 8 then qad y.sta o else zx y.sta o) 4 L rfl ((qs2 om).trans (by rw [hyS])) (fun T h => qie w _ y _ _ _ _ _ hyo T h o ho))) ?_
   rintro L _ w81 ⟨z, rfl, hz, HM2⟩
   refine ⟨_, rfl, _, (show Mem w w81 (.blk g7 y.cells 45 :: .blk g4 #[vI 0, vQ 0, vN, vN, vN, vN, vN] 45 :: .blk g3 o.cells 52 :: .blk g2 x.cells 45 :: (stF z ++ ([]))) from HM2), ?_⟩
   refine (Jp 1∘Jx∘Jx∘Jx∘JV si_st O0' (h1:=by exact q5 z)) fun w21_7 => (Jp 2∘Jq) fun a I L => ?_
   exact ⟨z, hz, I.sub kr, L.pt 4 [0, 1, 2, 3]⟩
  refine (JF∘JP∘Jp 2∘Jd1∘Jj) (Je (fun hd85 => ?_) fun hd85 => ?_)
  ·
   refine (JT∘JR∘Jy (v := .agg y.cells) (h:=by exact Yl.loadS rfl rfl si_st rfl (fun _ h => qa (h.blk (i := 0) rfl)))∘Jy (v := .agg o.cells) (h:=by exact Yl.loadS rfl rfl si_op rfl (fun _ h => qa (h.blk (i := 2) rfl)))∘JL (h:=by exact fun L => op_md (out := (stepS x.sta o)) (spec := qaj y.sta o) 4 L rfl ((qyf om).trans (by rw [hyS])) (fun T h => qlb w _ y _ _ _ _ _ hyo T h o ho))) ?_
   rintro L _ w90 ⟨z, rfl, hz, HM2⟩
   refine ⟨_, rfl, _, (show Mem w w90 (.blk g7 y.cells 45 :: .blk g4 #[vI 0, vQ 0, vN, vN, vN, vN, vN] 45 :: .blk g3 o.cells 52 :: .blk g2 x.cells 45 :: (stF z ++ ([]))) from HM2), ?_⟩
   refine (Jp 1∘Jx∘Jx∘Jx∘JV si_st O0' (h1:=by exact q5 z)) fun w23_7 => (Jp 2∘Jq) fun a I L => ?_
   exact ⟨z, hz, I.sub kr, L.pt 4 [0, 1, 2, 3]⟩
  refine (JF∘JP∘Jp 2∘Jd1∘Jj) (Je (fun hd94 => ?_) fun hd94 => ?_)
  ·
   refine (JT∘JR∘Jy (v := .agg y.cells) (h:=by exact Yl.loadS rfl rfl si_st rfl (fun _ h => qa (h.blk (i := 0) rfl)))∘Jy (v := .agg o.cells) (h:=by exact Yl.loadS rfl rfl si_op rfl (fun _ h => qa (h.blk (i := 2) rfl)))∘JL (h:=by exact fun L => op_md (out := (stepS x.sta o)) (spec := qaa y.sta o) 4 L rfl ((qw7 om).trans (by rw [hyS])) (fun T h => qlc w _ y _ _ _ _ _ hyo T h o ho hyG))) ?_
   rintro L _ w99 ⟨z, rfl, hz, HM2⟩
   refine ⟨_, rfl, _, (show Mem w w99 (.blk g7 y.cells 45 :: .blk g4 #[vI 0, vQ 0, vN, vN, vN, vN, vN] 45 :: .blk g3 o.cells 52 :: .blk g2 x.cells 45 :: (stF z ++ ([]))) from HM2), ?_⟩
   refine (Jp 1∘Jx∘Jx∘Jx∘JV si_st O0' (h1:=by exact q5 z)) fun w25_7 => (Jp 2∘Jq) fun a I L => ?_
   exact ⟨z, hz, I.sub kr, L.pt 4 [0, 1, 2, 3]⟩
  refine (JF∘JR∘Jp 1∘Jq) fun a I L => ?_
  have hno : (stepS x.sta o) = (x.sta, 0, 2) := qw8 om
  replace I := I.sp 8 (vI ((stepS x.sta o).2.1)) rfl (by rw [hno])
  replace I := I.sp 9 (vI ((stepS x.sta o).2.2)) rfl (by rw [hno]; try rfl)
  exact ⟨y, by rw [hno]; exact hyS, I.sub kr, L.pt 4 [0, 1, 2, 3]⟩
 clear I L; rintro a w_ ⟨z, hz, I, L⟩
 refine Jb I L ((JG∘JQ∘JP∘Jp 2∘Jd1∘Jj) (Ju (fun hb104 => ?_) fun hb104 => ?_))
 ·
  intro a I L
  have hd104 := bne_iff_ne.1 hb104
  refine Jb I L ((JT∘JP∘Jy (v := .agg x.cells) (h:=by exact Yl.loadS rfl rfl si_st rfl (fun _ h => qa (h.blk (i := 3) rfl)))∘Jp 1∘JV si_st O1' (h1:=by exact q5 x)) fun w27_2 => (Jp 2∘Jj∘JZ) fun a I L => ?_)
  exact ret3 rfl I (.cellS (i := 1) I L rfl rfl si_st rfl) (.tmp I rfl) (.tmp I rfl) (⟨x, by rw [qgx (by omega : (stepS x.sta o).2.2 ≠ 0)], by rw [qgx (by omega : (stepS x.sta o).2.2 ≠ 0)], .inl ⟨rfl, L.below⟩⟩)
 intro a I L
 have hd104 := bne_eq_false_iff_eq.1 hb104
 have he0 : (stepS x.sta o).2.2 = 0 := by omega
 have hzG : GoodS z.sta := by rw [hz]; exact qgt ho hG he0
 have hzo := qap hzG.sh
 refine Jb I L ((JF∘JS'∘JP∘Jy (v := .agg z.cells) (h:=by exact Yl.loadS rfl rfl si_st rfl (fun _ h => qa (h.blk (i := 0) rfl)))∘JL (h:=by exact fun L => st_md 4 L rfl (fun T h => qpr w _ z _ _ _ _ _ hzo T h))) ?_)
 rintro L _ w108 ⟨y3, rfl, hy3, HM2⟩
 refine ⟨_, rfl, _, (show Mem w w108 (.blk g7 z.cells 45 :: .blk g4 #[vI 0, vQ 0, vN, vN, vN, vN, vN] 45 :: .blk g3 o.cells 52 :: .blk g2 x.cells 45 :: (stF y3 ++ ([]))) from HM2), ?_⟩
 refine (Jp 1∘JV si_st O1' (h1:=by exact q5 y3)) fun w28_3 => (Jp 2∘Jj∘JZ) fun a I L => ?_
 exact ret3 rfl I (.cellS (i := 1) I L rfl rfl si_st rfl) (.tmp I rfl) (.tmp I rfl) (⟨y3, by rw [qi9 he0]; rfl, by rw [qi9 he0, hy3, hz], .inr (by have h := L.dropN 4 rfl; rw [List.append_nil] at h; exact h)⟩)
section
variable {W w w' : World} {F A B T G : List Fact} {x y p : Stm} {gm : Nat} {s : Sta}
theorem Mem.inT (n : Nat) (he : F.drop n = A ++ (B ++ T)) : ∀ f ∈ T, f ∈ F := fun _ hf => List.mem_of_mem_drop (he ▸ List.mem_append_right _ (List.mem_append_right _ hf))
theorem qif (n : Nat) (h : Mem W w F) (he : F.drop n = A ++ (stF p ++ T)) (hj : (y = p ∧ Below w.heap.size w w') ∨ Mem w w' (stF y)) : Mem W w' (F.take n ++ (A ++ (stF y ++ T))) := by
 rcases hj with ⟨rfl, hb⟩ | hm
 ·have h1 := h.call hb
  rwa [← List.take_append_drop n F, he] at h1
 ·have h1 := h.joinG n hm he
  exact h1.subl (List.Sublist.append (List.Sublist.refl _) (List.Sublist.append (List.Sublist.refl _) (List.Sublist.append (List.Sublist.refl _) (List.sublist_append_right ..))))
theorem qva (hr : StRd w x) (hm : w.heap[gm]? = some (.cells #[vI x.cpus, vQ x.credit, .slice x.gA x.gs.length x.gc, .slice x.lA x.cl.length x.lc, .slice x.uA x.cu.length x.uc, .slice x.tA x.ts.length x.tc, .slice x.sA x.rs.length x.sc, .bool true] 56 (0, 0))) (hs : x.sta = s) (hG : GoodS s) (o : Int) : Calls Tryz.prog 15 #[vP gm 0, vI o] w (qcu w s.cpus o (ze s o.toNat : Int)) := by
 subst hs
 have h := qap hG.sh
 exact qk3 x gm o w h.ok h.few h.sh hr hm
theorem qvb (hr : StRd w x) (hm : w.heap[gm]? = some (.cells #[vI x.cpus, vQ x.credit, .slice x.gA x.gs.length x.gc, .slice x.lA x.cl.length x.lc, .slice x.uA x.cu.length x.uc, .slice x.tA x.ts.length x.tc, .slice x.sA x.rs.length x.sc, .bool true] 56 (0, 0))) (hs : x.sta = s) (hG : GoodS s) (o : Int) : Calls Tryz.prog 16 #[vP gm 0, vI o] w (qcu w s.cpus o (loadS s o.toNat)) := by
 subst hs
 have h := qap hG.sh
 exact qja x gm o w h.ok h.few h.sh hr hm
theorem qtb (hr : StRd w x) (hm : w.heap[gm]? = some (.cells #[vI x.cpus, vQ x.credit, .slice x.gA x.gs.length x.gc, .slice x.lA x.cl.length x.lc, .slice x.uA x.cu.length x.uc, .slice x.tA x.ts.length x.tc, .slice x.sA x.rs.length x.sc, .bool true] 56 (0, 0))) (hs : x.sta = s) (hG : GoodS s) : Calls Tryz.prog 14 #[vP gm 0] w (StaIs w s) := by
 subst hs
 have h := qap hG.sh
 exact (qk2 x gm w h.few hr hm).mono fun r w' ⟨y, h1, h2, h3, h4⟩ => ⟨y, h1, qfk h2, h3, h4⟩
theorem rdo_s {o : Op30} (hr : StRd w p) (hp : p.sta = s) (hG : GoodS s) (ho : o.Ok) : Calls Tryz.prog 28 #[.agg p.cells, .agg o.cells] w (DoRef w p (doS s o)) := by
 subst hp
 exact qxc p o w hG hr ho
theorem qvc (hr : StRd w p) (hp : p.sta = s) (hG : GoodS s) (c : Nat) (hc : (c : Int) < p.sta.cpus) : Calls Tryz.prog 62 #[.agg p.cells, vI c] w (Is w (vI (ze s c : Int))) := by
 subst hp
 exact qic p (qap hG.sh) c w hr hc
theorem qtc (hr : StRd w p) (hp : p.sta = s) (hG : GoodS s) (c : Nat) : Calls Tryz.prog 63 #[.agg p.cells, vI c] w (Is w (vI (loadS s c))) := by
 subst hp
 exact qg7 p (qap hG.sh) c w hr
def qvd (W : World) (gm : Nat) (T : List Fact) (r : Ending) (w' : World) : Prop := r = .returned (.bool true) ∧ ∃ (x p : Stm) (s : Sta), x.sta = s ∧ p.sta = s ∧ GoodS s ∧ Mem W w' (mdB gm x ++ (stF p ++ T))
end
theorem qve (w : World) (gm : Nat) (x p : Stm) (s : Sta) (cpu : Int) (hI : I64 cpu) (hx : x.sta = s) (hp : p.sta = s) (hG : GoodS s) (hxr : StRd w x) (hpr : StRd w p) (hm : w.heap[gm]? = some (.cells #[vI x.cpus, vQ x.credit, .slice x.gA x.gs.length x.gc, .slice x.lA x.cl.length x.lc, .slice x.uA x.cu.length x.uc, .slice x.tA x.ts.length x.tc, .slice x.sA x.rs.length x.sc, .bool true] 56 (0, 0))) :
    Calls Tryz.prog 25 #[vP gm 0, .agg p.cells, vI cpu] w (Is w (.bool true)) := by
 have hpc : p.cpus = s.cpus := congrArg Sta.cpus hp
 unfold I64 at hI
 have hcpb := hG.sh.cpus
 refine (JN3 Tryz.func25 78) ?_
 refine (JP∘JE) fun w4 g4 => (Jp 1∘Jr∘Jp 1∘JL (h:=by exact fun L => qtb (hxr.old L) (L.oldBlk hm) hx hG)) ?_
 rintro L _ w15 ⟨q, rfl, hq, hcap, hm2⟩
 refine ⟨_, rfl, _, (show Mem w _ (.blk g4 p.cells 45 :: (stF q ++ ([]))) from by have h := L.joinT hm2; rw [← List.append_nil (stF q)] at h; exact h), ?_⟩
 refine (Jp 1∘Jx∘Jx∘JA #[vI 0, vQ 0, vN, vN, vN, vN, vN]) fun w7 g7 => (JV si_st O0' (h1:=by exact q5 q)) fun w1_6 => (Jp 1∘Jj∘JQ∘JP∘Jv 3 [(20, .bool false)]∘Jy (v := .agg q.cells) (h:=by exact Yl.loadS rfl rfl si_st rfl (fun _ h => qa (h.blk (i := 0) rfl)))∘Jy (v := .agg p.cells) (h:=by exact Yl.loadS rfl rfl si_st rfl (fun _ h => qa (h.blk (i := 1) rfl)))∘JI (h:=by exact fun L => qx8 (L.st1 2 rfl) (hpr.old L) hq hp hG)) fun w23 hbw => (Jp 2∘Jd6∘Jj∘JF∘JS'∘JP∘Jp 2∘JL (h:=by exact fun L => qva (hxr.old L) (L.oldBlk hm) hx hG cpu)) ?_
 rintro L _ w29 ⟨⟨a1, e1, rfl, hq1⟩, hbw⟩
 refine ⟨_, rfl, _, L.call hbw, ?_⟩
 refine (Jp 1∘Jx∘Jx∘Jp 2∘Jr∘Jp 2∘JL (h:=by exact fun L => qvb (hxr.old L) (L.oldBlk hm) hx hG cpu)) ?_
 rintro L _ w35 ⟨⟨a2, e2, rfl, hq2⟩, hbw⟩
 refine ⟨_, rfl, _, L.call hbw, ?_⟩
 refine (Jp 1∘Jx∘Jx∘Jp 2∘Jj∘JQ∘JP∘Jp 3) (Ju (fun hb40 => ?_) fun hb40 => ?_)
 ·
  intro a I L
  have hd40 := of_decide_eq_true hb40
  have hn1 := hq1
  have hn2 := hq2
  rw [if_neg (by rw [← hpc]; omega)] at hn1 hn2
  replace I := I.sp 9 (vI 0) rfl (by rw [hn1.1])
  replace I := I.sp 11 (vI 0) rfl (by rw [hn2.1])
  replace I := I.sp 10 (vI 300) rfl (by rw [hn1.2]; rfl)
  replace I := I.sp 12 (vI 300) rfl (by rw [hn2.2]; rfl)
  exact Jb I L ((Jp 6∘Jd5∘Jj∘JT∘JP∘Jv 14 [(6, .bool true)]∘Jj∘JZ) JY1)
 intro a I L
 have hd40 := of_decide_eq_false hb40
 refine Jb I L ((Jp 1∘Jf 0∘Jg 0 O1∘Jp 2∘Jd6∘Jj) (Ju (fun hb46 => ?_) fun hb46 => ?_))
 ·
  intro a I L
  have hd46 := of_decide_eq_true hb46
  have hn1 := hq1
  have hn2 := hq2
  rw [if_neg (by rw [← hpc]; omega)] at hn1 hn2
  replace I := I.sp 9 (vI 0) rfl (by rw [hn1.1])
  replace I := I.sp 11 (vI 0) rfl (by rw [hn2.1])
  replace I := I.sp 10 (vI 300) rfl (by rw [hn1.2]; rfl)
  replace I := I.sp 12 (vI 300) rfl (by rw [hn2.2]; rfl)
  exact Jb I L ((JT∘JP∘Jv 14 [(6, .bool true)]∘Jj∘JZ) JY1)
 intro a I L
 have hd46 := of_decide_eq_false hb46
 obtain ⟨c, hcc⟩ : ∃ c : Nat, cpu = (c : Int) := ⟨cpu.toNat, by omega⟩
 have hn1 := hq1
 have hn2 := hq2
 rw [if_pos (by rw [← hpc]; omega), hcc, Int.toNat_natCast] at hn1 hn2
 replace I := I.sp 9 (vI (ze s c)) rfl (by rw [hn1.1])
 replace I := I.sp 11 (vI (loadS s c)) rfl (by rw [hn2.1])
 replace I := I.sp 10 (vI 0) rfl (by rw [hn1.2]; rfl)
 replace I := I.sp 12 (vI 0) rfl (by rw [hn2.2]; rfl)
 replace I := I.sp 2 (vI c) rfl (by rw [hcc])
 exact Jb I L ((JF∘JS'∘JP∘Jv 6 [(65, vI (ze s c)), (64, .bool true)]∘Jy (v := .agg p.cells) (h:=by exact Yl.loadS rfl rfl si_st rfl (fun _ h => qa (h.blk (i := 1) rfl)))∘Jp 1∘JI (h:=by exact fun L => qvc (hpr.old L) hp hG c (by rw [hp]; omega))) fun w68 hbw => (Jp 1∘Jo (.bool true) (by simp)∘Jp 3∘Jy (v := .agg p.cells) (h:=by exact Yl.loadS rfl rfl si_st rfl (fun _ h => qa (h.blk (i := 1) rfl)))∘Jp 1∘JI (h:=by exact fun L => qtc (hpr.old L) hp hG c)) fun w75 hbw => (Jp 1∘Jo (.bool true) (by simp)∘Jp 2∘Jd6∘Jj∘JZ) JY1)
theorem qxd {W w : World} {F T : List Fact} {gm : Nat} {x p : Stm} {s : Sta} (n : Nat) (L : Mem W w F) (he : F.drop n = mdB gm x ++ (stF p ++ T)) (cpu : Int) (hI : I64 cpu) (hx : x.sta = s) (hp : p.sta = s) (hG : GoodS s) :
  Calls Tryz.prog 25 #[vP gm 0, .agg p.cells, vI cpu] w (Is w (.bool true)) := qve w gm x p s cpu hI hx hp hG (L.mdRdB n he) (L.st2 n he) (L.mdBlkB n he)
theorem qpv (W w : World) (gm : Nat) (x p : Stm) (s : Sta) (A : Option Addr) (lc : Nat) (l : List Op30) (hl : ∀ o ∈ l, o.Ok) (hln : l.length ≤ 9223372036854775807) (cpu : Int) (hI : I64 cpu) (hx : x.sta = s) (hp : p.sta = s) (hG : GoodS s) (T : List Fact) (hrd : ∀ (W' w' : World) (F : List Fact), Mem W' w' F → (∀ f ∈ T, f ∈ F) → Rd w' w'.heap.size 8 A l.length (l.flatMap opL)) (L : Mem W w (mdB gm x ++ (stF p ++ T))) :
    Calls Tryz.prog 9 #[vP gm 0, .agg p.cells, .slice A l.length lc, vI cpu] w (qvd W gm T) := by
 show Calls Tryz.prog 9 #[vP gm 0, .agg p.cells, .slice A l.length lc, vI cpu] w _
 refine (Jin4 L Tryz.func9 50) ?_
 refine (JP∘JE) fun w5 g5 => (Jp 1∘Jj∘JQ∘JP∘Jp 1∘Jl∘Jp 1∘Jj∘JB) fun a I L => ?_
 refine qg (fun mS aS wS => ∃ (k : Nat) (x : Stm) (p : Stm) (s : Sta), (k ≤ l.length) ∧ (x.sta = s) ∧ (p.sta = s) ∧ (GoodS s) ∧ mS = l.length - k ∧ Fr aS 50 [] [(18, vI k), (17, vI l.length), (16, .slice A l.length lc), (8, .bool false), (5, vP g5 0), (0, vP gm 0), (3, vI cpu)] ∧ Mem W wS (.blk g5 p.cells 45 :: (mdB gm x ++ (stF p ++ (T))))) (m := l.length - 0) ⟨0, x, p, s, Nat.zero_le _, hx, hp, hG, rfl, I.sub kr, L.pt 1 [0]⟩ ?_
 clear I L; rintro mS a w_ ⟨k, x, p, s, hk, hx, hp, hG, rfl, I, L⟩
 refine Jb I L ((JP∘Jp 1∘Jj∘JQ) (Ju (fun hb19 => ?_) fun hb19 => ?_))
 ·
  intro a I L
  have hd19 := of_decide_eq_true hb19
  have hkl : k < l.length := by omega
  obtain ⟨o, ho⟩ : ∃ z, l.getD k Op30.zero = z := ⟨_, rfl⟩
  have hoo : o.Ok := by rw [← ho]; exact hl _ (qf Op30.zero hkl)
  have hG' := qjc hoo hG
  obtain ⟨go, oo, hgo, _⟩ := (hrd _ _ _ L (Mem.inT 1 rfl)).qn (show 0 < l.length by omega) de
  replace I := I.sp 16 (.slice (some ⟨go, oo, none⟩) l.length lc) rfl (by rw [hgo])
  refine Jb I L ((JT∘JS'∘JQ∘JB∘JP∘Jy (h:=by exact Yl.ix go oo k 8 rfl rfl rfl)∘Jy (v := .agg ((l.getD k Op30.zero).cells)) (h:=by exact Yl.loadS rfl rfl si_op rfl (fun _ h => ((hrd _ _ _ h (Mem.inT 1 rfl)).to hgo).q8 qcv ((getD_at Op30.zero hkl))))∘Jo (.agg o.cells) (by rw [ho])∘JA #[vB 0, vI 0, vI 0, vI 0, vI 0, vI 0, vI 0, vQ 0]) fun w10 g10 => (JV si_op O0' (h1:=by exact qq8 o)) fun w3_3 => (Jd2∘Jr∘Jy (v := .agg p.cells) (h:=by exact Yl.loadS rfl rfl si_st rfl (fun _ h => qa (h.blk (i := 1) rfl)))∘Jy (v := .agg o.cells) (h:=by exact Yl.loadS rfl rfl si_op rfl (fun _ h => qa (h.blk (i := 0) rfl)))∘JL (h:=by exact fun L => rdo_s (L.st2 2 rfl) hp hG hoo)) ?_)
  rintro L _ w25 ⟨p2, rfl, hp2, hj⟩
  refine ⟨_, rfl, _, (show Mem W w25 (.blk g10 o.cells 52 :: .blk g5 p.cells 45 :: (mdB gm x ++ (stF p2 ++ (T)))) from qif (A := mdB gm x) (p := p) (T := T) 2 L rfl hj), ?_⟩
  refine (Jp 1∘Jx∘Jx∘Jx∘JA #[vI 0, vQ 0, vN, vN, vN, vN, vN]) fun w11 g11 => (JV si_st O0' (h1:=by exact q5 p2)) fun w4_8 => (Jp 2∘Jr∘Jp 1∘Jy (v := .agg o.cells) (h:=by exact Yl.loadS rfl rfl si_op rfl (fun _ h => qa (h.blk (i := 1) rfl)))∘JL (h:=by exact fun L => do_s 3 L rfl hx hG hoo)) ?_
  rintro L _ w32 ⟨y, rfl, hy, HM2⟩
  refine ⟨_, rfl, _, (show Mem W w32 (.blk g11 p2.cells 45 :: .blk g10 o.cells 52 :: .blk g5 p.cells 45 :: (mdB gm y ++ (stF p2 ++ (T)))) from HM2.back), ?_⟩
  refine (Jp 1∘Jx∘Jx∘Jp 2∘Jj∘JQ∘JP∘Jp 3∘Jo (.bool false) (by simp)∘Jp 4∘Jo (.bool false) (by simp)∘Jp 1∘Jd6∘Jj∘JF∘JS'∘JP∘Jy (v := .agg p2.cells) (h:=by exact Yl.loadS rfl rfl si_st rfl (fun _ h => qa (h.blk (i := 0) rfl)))∘JV si_st O2' (h1:=by exact q5 p2)) fun w8_1 => (Jt1∘Jr∘Jp 1∘Jy (v := .agg p2.cells) (h:=by exact Yl.loadS rfl rfl si_st rfl (fun _ h => qa (h.blk (i := 2) rfl)))∘Jp 1∘JI (h:=by exact fun L => qxd 3 L rfl cpu hI hy hp2 hG')) fun w47 hbw => (Jp 1∘Jd4∘Jj∘JF∘JS'∘JR∘JaK 1∘Jp 1∘Jd1∘Jq) fun a I L => ?_
  replace I := I.sp 16 (.slice A l.length lc) rfl (by rw [hgo])
  exact ⟨_, om, k + 1, y, p2, (doS s o).1, by omega, hy, hp2, hG', rfl, I.sub kr, L.pt 3 [2]⟩
 intro a I L
 have hd19 := of_decide_eq_false hb19
 exact Jb I L ((JF∘JX∘JG∘JP∘Jp 1∘Jj∘JZ∘Jz1) fun L => by exact ⟨rfl, x, p, s, hx, hp, hG, L.dropN 1 rfl⟩)
theorem qtd {W w : World} {F T : List Fact} {gm : Nat} {x p : Stm} {s : Sta} {A : Option Addr} {lc : Nat} {l : List Op30} (n : Nat) (L : Mem W w F) (he : F.drop n = mdB gm x ++ (stF p ++ T)) (hl : ∀ o ∈ l, o.Ok) (hln : l.length ≤ 9223372036854775807) (cpu : Int) (hI : I64 cpu) (hx : x.sta = s) (hp : p.sta = s) (hG : GoodS s) (hrd : ∀ (W' w' : World) (F' : List Fact), Mem W' w' F' → (∀ f ∈ F.take n ++ T, f ∈ F') → Rd w' w'.heap.size 8 A l.length (l.flatMap opL)) :
  Calls Tryz.prog 9 #[vP gm 0, .agg p.cells, .slice A l.length lc, vI cpu] w (fun r w' => r = .returned (.bool true) ∧ ∃ (x p : Stm) (s : Sta), x.sta = s ∧ p.sta = s ∧ GoodS s ∧ Mem W w' (F.take n ++ (mdB gm x ++ (stF p ++ T)))) :=
 (qpv W w gm x p s A lc l hl hln cpu hI hx hp hG (F.take n ++ T) hrd (L.front2 n he)).mono fun r w' ⟨h1, x, p, s, a, b, d, h2⟩ => ⟨h1, x, p, s, a, b, d, h2.qyv⟩
def opOk (o : Op30) : Bool := decide (o.kind < 256 ∧ (-9223372036854775808 ≤ o.cpu ∧ o.cpu ≤ 9223372036854775807) ∧ (-9223372036854775808 ≤ o.task ∧ o.task ≤ 9223372036854775807) ∧ (-9223372036854775808 ≤ o.group ∧ o.group ≤ 9223372036854775807) ∧ (-9223372036854775808 ≤ o.weight ∧ o.weight ≤ 9223372036854775807) ∧ (-9223372036854775808 ≤ o.to ∧ o.to ≤ 9223372036854775807) ∧ (-9223372036854775808 ≤ o.ticks ∧ o.ticks ≤ 9223372036854775807) ∧ o.mask < 18446744073709551616)
theorem qms {o : Op30} (h : opOk o = true) : o.Ok := by
 have := of_decide_eq_true h
 exact ⟨this.1, by unfold I64; omega, by unfold I64; omega, by unfold I64; omega, by unfold I64; omega, by unfold I64; omega, by unfold I64; omega, this.2.2.2.2.2.2.2⟩
theorem qte {l : List Op30} (h : l.all opOk = true) : ∀ o ∈ l, o.Ok := fun o ho => qms (List.all_eq_true.1 h o ho)
def defO : List Op30 := [⟨1, 0, 1, 1, 2, 0, 0, 3⟩, ⟨1, 0, 9, 0, 1, 0, 0, 1⟩, ⟨6, 0, 0, 0, 0, 0, 0, 0⟩, ⟨5, 0, 0, 0, 0, 0, 9, 0⟩]
def defG : List Gr := [⟨0, 1⟩, ⟨0, 3⟩]
theorem qtf : ∀ o ∈ defO, o.Ok := qte de
def defS : Nat → Sta
 | 0 => newS 2 0 defG
 | k + 1 => (doS (defS k) (defO.getD k Op30.zero)).1
theorem qxg : Op30.zero.Ok := qms de
theorem qmt {l : List Op30} (h : ∀ o ∈ l, o.Ok) (k : Nat) : (l.getD k Op30.zero).Ok := by
 rcases Nat.lt_or_ge k l.length with h1 | h1
 ·exact h _ (qf Op30.zero h1)
 ·rw [List.getD_eq_getElem?_getD, List.getElem?_eq_none h1]; exact qxg
theorem qtg : gsOk defG = true := by decide
theorem qet : ∀ k, GoodS (defS k)
 | 0 => (qf3 de de qtg (gs_ok qtg)).1
 | k + 1 => qjc (qmt qtf k) (qet k)
def lens4 (s : Sta) : Bool := s.gs.length == 2 && s.cl.length == 2 && s.cu.length == 2 && s.ts.length == 2 && s.sp.length == 2 && (s.sp.getD 0 []).length == 2 && (s.sp.getD 1 []).length == 2
theorem qth : lens4 (defS 4) = true := by decide +kernel
theorem qxh {s : Sta} (h : lens4 s = true) : s.gs.length = 2 ∧ s.cl.length = 2 ∧ s.cu.length = 2 ∧ s.ts.length = 2 ∧ s.sp.length = 2 ∧ (s.sp.getD 0 []).length = 2 ∧ (s.sp.getD 1 []).length = 2 := by
 unfold lens4 at h
 simp only [Bool.and_eq_true, beq_iff_eq] at h
 obtain ⟨⟨⟨⟨⟨⟨h1, h2⟩, h3⟩, h4⟩, h5⟩, h6⟩, h7⟩ := h
 exact ⟨h1, h2, h3, h4, h5, h6, h7⟩
section
variable {x : Stm} {k g c : Nat} {w : World} {ng nl nu nt ns : Nat}
theorem qg9 {α : Type} {l : List α} {P : α → Prop} {a : α} (h : ∀ x ∈ l, P x) (ha : P a) : ∀ x ∈ l.set k a, P x := fun x hx => by
 rcases List.mem_or_eq_of_mem_set hx with h1 | rfl
 ·exact h x h1
 ·exact ha
theorem ok_cp (h : x.sta.Ok) {v : Int} (hv : I64 v) : ({ x with cpus := v } : Stm).sta.Ok := ⟨hv, h.credit, h.gs, h.cl, h.cu, h.ts, h.sp⟩
theorem ok_cr (h : x.sta.Ok) {v : Nat} (hv : v < 18446744073709551616) : ({ x with credit := v } : Stm).sta.Ok := ⟨h.cpus, hv, h.gs, h.cl, h.cu, h.ts, h.sp⟩
theorem ok_gs (h : x.sta.Ok) {a : Gr} (ha : a.Ok) : ({ x with gs := x.gs.set k a } : Stm).sta.Ok := ⟨h.cpus, h.credit, qg9 h.gs ha, h.cl, h.cu, h.ts, h.sp⟩
theorem ok_cl (h : x.sta.Ok) {a : Int} (ha : I64 a) : ({ x with cl := x.cl.set k a } : Stm).sta.Ok := ⟨h.cpus, h.credit, h.gs, qg9 h.cl ha, h.cu, h.ts, h.sp⟩
theorem ok_cu (h : x.sta.Ok) {a : Int} (ha : I64 a) : ({ x with cu := x.cu.set k a } : Stm).sta.Ok := ⟨h.cpus, h.credit, h.gs, h.cl, qg9 h.cu ha, h.ts, h.sp⟩
theorem ok_ts (h : x.sta.Ok) {a : Tk} (ha : a.Ok) : ({ x with ts := x.ts.set k a } : Stm).sta.Ok := ⟨h.cpus, h.credit, h.gs, h.cl, h.cu, qg9 h.ts ha, h.sp⟩
theorem qyh (h : x.sta.Ok) {A : Option Addr} {c : Nat} {a : Int} (ha : I64 a) : ({ x with uA := A, uc := c, cu := x.cu ++ [a] } : Stm).sta.Ok := ⟨h.cpus, h.credit, h.gs, h.cl, (fun z hz => (List.mem_append.1 hz).elim (h.cu z) (fun h2 => by rw [List.mem_singleton.1 h2]; exact ha)), h.ts, h.sp⟩
theorem ok_rs (h : x.sta.Ok) {rs' : List Rw} (hr : ∀ y ∈ rs', ∀ z ∈ y.l, z.Ok) : ({ x with rs := rs' } : Stm).sta.Ok := ⟨h.cpus, h.credit, h.gs, h.cl, h.cu, h.ts, fun l hl z hz => by
 obtain ⟨y, hy, rfl⟩ := List.mem_map.1 hl
 exact hr y hy z hz⟩
theorem rows_ok (h : x.sta.Ok) : ∀ y ∈ x.rs, ∀ z ∈ y.l, z.Ok := fun y hy z hz => h.sp y.l (List.mem_map_of_mem hy) z hz
theorem qn2 (h : ∀ y ∈ x.rs, ∀ z ∈ y.l, z.Ok) {a : Sp} (ha : a.Ok) : ∀ y ∈ rsPut x.rs g c a, ∀ z ∈ y.l, z.Ok := fun y hy => by
 rcases List.mem_or_eq_of_mem_set hy with h1 | rfl
 ·exact h y h1
 ·refine qg9 (fun z hz => ?_) ha
  rcases Nat.lt_or_ge g x.rs.length with h2 | h2
  ·exact h _ (qf Rw.zero h2) z hz
  ·have e : x.rs.getD g Rw.zero = Rw.zero := by rw [List.getD_eq_getElem?_getD, List.getElem?_eq_none h2]; rfl
   rw [e] at hz
   cases hz
theorem q7 (hl : Lns x ng nl nu nt ns) (h : ng ≤ 100 ∧ nl ≤ 100 ∧ nu ≤ 100 ∧ nt ≤ 100 ∧ ns ≤ 100) (hr : ∀ y ∈ x.rs, y.l.length ≤ 100) : StFew x := by
 obtain ⟨rfl, rfl, rfl, rfl, rfl⟩ := hl
 exact ⟨by omega, by omega, by omega, by omega, by omega, fun y hy => by have := hr y hy; omega⟩
theorem qn3 {rs : List Rw} {a : Sp} (h : ∀ y ∈ rs, y.l.length ≤ 100) : ∀ y ∈ rsPut rs g c a, y.l.length ≤ 100 := fun y hy => by
 rcases List.mem_or_eq_of_mem_set hy with h1 | rfl
 ·exact h y h1
 ·show ((rs.getD g Rw.zero).l.set c a).length ≤ 100
  rw [List.length_set]
  rcases Nat.lt_or_ge g rs.length with h2 | h2
  ·exact h _ (qf Rw.zero h2)
  ·have e : rs.getD g Rw.zero = Rw.zero := by rw [List.getD_eq_getElem?_getD, List.getElem?_eq_none h2]; rfl
   rw [e]; exact Nat.zero_le _
theorem qvf (hl : Lns x ng nl nu nt ns) (hr : StRd w x) (hok : x.sta.Ok) (hf : StFew x) : Calls Tryz.prog 22 #[.agg (sdC x ng nl nu nt ns)] w (Is w (.bool (qax x.sta))) := by
 rw [qdl hl]
 exact qlv x hok hf w hr
theorem qti (hl : Lns x ng nl nu nt ns) (hr : StRd w x) (hok : x.sta.Ok) (hf : StFew x) : Calls Tryz.prog 23 #[.agg (sdC x ng nl nu nt ns)] w (Is w (.bool (qax x.sta))) := by
 rw [qdl hl]
 exact qpn x hok hf w hr
end
section
variable {W w : World} {F T : List Fact} {rs : List Rw} {gy yc g m : Nat} {yl : List Sp}
theorem Mem.qyx (n : Nat) (h : Mem W w F) (he : F.drop n = fR rs ++ T) (hg : g < rs.length) (hy : rs.getD g Rw.zero = ⟨some ⟨gy, 0, none⟩, yc, yl⟩) (hm : m ≤ yl.length) : Mem W w (F.take n ++ (fR (rs.set g ⟨some ⟨gy, 0, none⟩, yc, yl.take m⟩) ++ T)) := by
 have hi := Mem.qto n he hg
 rw [hy] at hi
 have hl : (yl.take m).length = m := by rw [List.length_take]; omega
 have h1 := h.cutR (m' := m) (ys := (yl.take m).flatMap spL) hi hm (qgj spL 3 z8 ..)
 have h2 : F = F.take n ++ (fR rs ++ T) := by rw [← he, List.take_append_drop]
 have hgl : n + g < F.length := (List.getElem?_eq_some_iff.1 hi).1
 have hn : (F.take n).length = n := by rw [List.length_take]; omega
 have hfl : (fR rs).length = rs.length := by unfold fR rwF ownsF; rw [List.length_map, List.length_map]
 have h4 : F.set (n + g) (.row (.slice (some ⟨gy, 0, none⟩) m yc) m ((yl.take m).flatMap spL) 83 3) = F.take n ++ ((fR rs).set g (.row (.slice (some ⟨gy, 0, none⟩) m yc) m ((yl.take m).flatMap spL) 83 3) ++ T) := by
  conv => lhs; rw [h2]
  rw [List.set_append, if_neg (by rw [hn]; omega), hn, Nat.add_sub_cancel_left, List.set_append, if_pos (by rw [hfl]; exact hg)]
 have h6 := qvt (rs := rs) (g := g) (r := ⟨some ⟨gy, 0, none⟩, yc, yl.take m⟩)
 simp only [hl] at h6
 rw [h4, h6] at h1
 exact h1
theorem Mem.qyw (n : Nat) (h : Mem W w F) (he : F.drop n = fR rs ++ T) (m : Nat) : Mem W w (F.take n ++ (fR (rs.take m) ++ T)) := by
 have h2 : Mem W w (F.take n ++ (fR rs ++ T)) := by rw [← he, List.take_append_drop]; exact h
 refine h2.subl (List.Sublist.append (List.Sublist.refl _) (List.Sublist.append ?_ (List.Sublist.refl _)))
 unfold fR rwF ownsF
 rw [List.map_take, List.map_take]
 exact List.take_sublist ..
end
def smG : List Gr := [⟨0, 1⟩, ⟨0, 3⟩, ⟨1, 2⟩]
def smF : List Op30 := [⟨1, 0, 1, 2, 2, 0, 0, 3⟩, ⟨1, 0, 2, 0, 1, 0, 0, 1⟩, ⟨6, 0, 0, 0, 0, 0, 0, 0⟩]
def smP : List Op30 := [⟨1, 1, 3, 1, 5, 0, 0, 2⟩, ⟨2, 0, 1, 0, 0, 0, 0, 0⟩, ⟨2, 0, 2, 0, 0, 0, 0, 0⟩, ⟨3, 0, 0, 0, 0, 0, 0, 0⟩, ⟨4, 0, 0, 0, 0, 0, 0, 0⟩, ⟨5, 0, 0, 0, 0, 0, 3, 0⟩, ⟨5, 1, 0, 0, 0, 0, 1, 0⟩, ⟨6, 0, 0, 0, 0, 0, 0, 0⟩, ⟨6, 1, 0, 0, 0, 0, 0, 0⟩, ⟨7, 0, 1, 0, 7, 0, 0, 0⟩, ⟨8, 0, 0, 2, 9, 0, 0, 0⟩, ⟨9, 0, 1, 0, 0, 1, 0, 0⟩, ⟨10, 1, 0, 0, 0, 0, 0, 0⟩, ⟨9, 0, 2, 0, 0, 1, 0, 0⟩]
theorem qn4 : gsOk smG = true := by decide
theorem qn5 : GoodS (newS 2 5 smG) := (qf3 de de qn4 (gs_ok qn4)).1
theorem qv1 {g : Nat} {w : World} (hr : Rd w w.heap.size 2 (some ⟨g, 0, none⟩) 3 (smG.flatMap grL)) : Calls Tryz.prog 7 #[.agg #[.int .i64 2, .int .u64 5, .slice (some ⟨g, 0, none⟩) 3 3]] w (qse w (newS 2 5 smG)) :=
 qsk (cp := 2) (cr := 5) (gA := some ⟨g, 0, none⟩) (gc := 3) (gs := smG) (qmc de de qn4 (gs_ok qn4)) hr
theorem qha {g : Nat} {w : World} (hr : Rd w w.heap.size 2 (some ⟨g, 0, none⟩) 3 (smG.flatMap grL)) : Calls Tryz.prog 10 #[.agg #[.int .i64 2, .int .u64 5, .slice (some ⟨g, 0, none⟩) 3 3]] w (fun r w' => ∃ y : Stm, r = .returned (.agg y.cells) ∧ y.sta = newS 2 5 smG ∧ Mem w w' (stF y)) :=
 qn0 2 5 (some ⟨g, 0, none⟩) 3 smG w de de hr
theorem qyi : ∀ o ∈ smF, o.Ok := qte de
theorem qyj : ∀ o ∈ smP, o.Ok := qte de
theorem qyk (a b c d : Nat) : ∀ o ∈ smF ++ [smP.getD a Op30.zero, smP.getD b Op30.zero, smP.getD c Op30.zero, smP.getD d Op30.zero], o.Ok := fun o ho => by
 rcases List.mem_append.1 ho with h | h
 ·exact qyi o h
 ·simp only [List.mem_cons, List.not_mem_nil, or_false] at h
  rcases h with rfl | rfl | rfl | rfl <;> exact qmt qyj _
theorem sm_rd {w : World} {B : Nat} {A : Option Addr} {a b c d : Op30} (h : Rd w B 8 A (0 + 3 + 4) (([] ++ smF.flatMap opL) ++ [a, b, c, d].flatMap opL)) : Rd w B 8 A (smF ++ [a, b, c, d]).length ((smF ++ [a, b, c, d]).flatMap opL) := by
 rw [List.flatMap_append]
 exact h
theorem qyl (a b c d : Op30) : (smF ++ [a, b, c, d]).length = 0 + 3 + 4 := rfl
theorem qv2 {n m : Int} (h : 0 < m) : -m < n.tmod m ∧ n.tmod m < m := by
 have h1 := Int.tmod_lt_of_pos n h
 have h2 := Int.lt_tmod_of_pos n h
 exact ⟨h2, h1⟩
theorem ei_mp : EI Tryz.prog 57 35 (.pointer none) 1 8 := ⟨by kernel_rfl, by kernel_rfl, rfl, by omega⟩
theorem qxj {w : World} {B n : Nat} {A : Option Addr} {l : List Op30} (h : Rd w B 8 A l.length (l.flatMap opL)) (hn : n ≤ l.length) : Rd w B 8 A (l.take n).length ((l.take n).flatMap opL) := by
 rw [List.length_take, Nat.min_eq_left hn]
 exact Rd.qtn qcv h hn
section
variable {W w : World} {F T : List Fact} {gm : Nat} {x p : Stm} {s : Sta}
theorem qhb {A : Option Addr} {lc m : Nat} {l : List Op30} (n : Nat) (L : Mem W w F) (he : F.drop n = mdB gm x ++ (stF p ++ T)) (hl : ∀ o ∈ l, o.Ok) (hm : l.length = m) (hln : m ≤ 9223372036854775807) (cpu : Int) (hI : I64 cpu) (hx : x.sta = s) (hp : p.sta = s) (hG : GoodS s) (hrd : ∀ (W' w' : World) (F' : List Fact), Mem W' w' F' → (∀ f ∈ F.take n ++ T, f ∈ F') → Rd w' w'.heap.size 8 A l.length (l.flatMap opL)) :
  Calls Tryz.prog 9 #[.pointer (some ⟨gm, 0, none⟩), .agg p.cells, .slice A m lc, .int .i64 cpu] w (fun r w' => r = .returned (.bool true) ∧ ∃ (x p : Stm) (s : Sta), x.sta = s ∧ p.sta = s ∧ GoodS s ∧ Mem W w' (F.take n ++ (mdB gm x ++ (stF p ++ T)))) := by
 subst hm
 exact qtd n L he hl hln cpu hI hx hp hG hrd
end
theorem qml (w : World) :
    Calls Tryz.prog 41 #[.pointer none, vI 0, .func (.func 42) #[] #[]] w (Is w (.tuple #[vI 0, vI 1])) := by
 refine (JN3 Tryz.func41 27) ?_
 exact (JP∘Jp 2∘Jj∘JQ∘JB∘JP∘Jp 1∘Jy (v := .bool true) (h:=by exact Yl.qbk rfl rfl rfl)∘Jv 8 [(8, .bool true)]∘Jd2∘Jj∘JT∘JP∘Jp 2∘Jj∘JZ) JY2
theorem qmm (w : World) (gm : Nat) (hm : w.heap[gm]? = some (.cells #[vI 0, vQ 0, vN, vN, vN, vN, vN, .bool false] 56 (0, 0))) :
    Calls Tryz.prog 41 #[vP gm 0, vI 0, .func (.func 42) #[] #[]] w (Is w (.tuple #[vI 0, vI 1])) := by
 refine (JN3 Tryz.func41 27) ?_
 exact (JP∘Jp 2∘Jj∘JQ∘JB∘JP∘Jp 1∘Jy (v := .bool false) (h:=by exact Yl.qbk rfl rfl rfl)∘Jp 2∘Jn∘Jf 7∘Jy (v := .bool false) (h:=by exact Yl.qh rfl rfl kr (fun _ h => h.qae hm rfl))∘Jp 3∘Jd6∘Jj∘JT∘JP∘Jp 2∘Jj∘JZ) JY2
theorem qmn (w : World) :
    Calls Tryz.prog 41 #[.pointer none, vI 0, .func (.func 43) #[] #[]] w (Is w (.tuple #[vI 0, vI 1])) := by
 refine (JN3 Tryz.func41 27) ?_
 exact (JP∘Jp 2∘Jj∘JQ∘JB∘JP∘Jp 1∘Jy (v := .bool true) (h:=by exact Yl.qbk rfl rfl rfl)∘Jv 8 [(8, .bool true)]∘Jd2∘Jj∘JT∘JP∘Jp 2∘Jj∘JZ) JY2
theorem qmo (w : World) (gm : Nat) (hm : w.heap[gm]? = some (.cells #[vI 0, vQ 0, vN, vN, vN, vN, vN, .bool false] 56 (0, 0))) :
    Calls Tryz.prog 41 #[vP gm 0, vI 0, .func (.func 43) #[] #[]] w (Is w (.tuple #[vI 0, vI 1])) := by
 refine (JN3 Tryz.func41 27) ?_
 exact (JP∘Jp 2∘Jj∘JQ∘JB∘JP∘Jp 1∘Jy (v := .bool false) (h:=by exact Yl.qbk rfl rfl rfl)∘Jp 2∘Jn∘Jf 7∘Jy (v := .bool false) (h:=by exact Yl.qh rfl rfl kr (fun _ h => h.qae hm rfl))∘Jp 3∘Jd6∘Jj∘JT∘JP∘Jp 2∘Jj∘JZ) JY2
theorem qxe (w : World) :
    Calls Tryz.prog 13 #[.pointer none, .agg #[vB 0, vI 0, vI 0, vI 0, vI 0, vI 0, vI 0, vQ 0]] w (Is w (.tuple #[vI 0, vI 1])) := by
 refine (JN2 Tryz.func13 67) ?_
 exact (JP∘JE) fun w3 g3 => (Jp 2∘Jj∘JQ∘JP∘Jp 1∘Jy (v := .bool true) (h:=by exact Yl.qbk rfl rfl rfl)∘Jp 7∘Jd6∘Jj∘JT∘JP∘Jp 2∘Jj∘JZ) JY2
theorem qxf (w : World) (gm : Nat) (hm : w.heap[gm]? = some (.cells #[vI 0, vQ 0, vN, vN, vN, vN, vN, .bool false] 56 (0, 0))) :
    Calls Tryz.prog 13 #[vP gm 0, .agg #[vB 0, vI 0, vI 0, vI 0, vI 0, vI 0, vI 0, vQ 0]] w (Is w (.tuple #[vI 0, vI 1])) := by
 refine (JN2 Tryz.func13 67) ?_
 exact (JP∘JE) fun w3 g3 => (Jp 2∘Jj∘JQ∘JP∘Jp 1∘Jy (v := .bool false) (h:=by exact Yl.qbk rfl rfl rfl)∘Jp 2∘Jn∘Jf 7∘Jy (v := .bool false) (h:=by exact Yl.qh rfl rfl kr (fun _ h => h.qae hm rfl))∘Jp 2∘Jd6∘Jj∘JT∘JP∘Jp 2∘Jj∘JZ) JY2
theorem qpw (w : World) :
    Calls Tryz.prog 14 #[.pointer none] w (Is w (.tuple #[.agg #[vI 0, vQ 0, vN, vN, vN, vN, vN], vI 1])) := by
 refine (JN1 Tryz.func14 19) ?_
 refine (JP∘JA #[vI 0, vQ 0, vN, vN, vN, vN, vN]) fun w2 g2 => (Jp 1∘Jj∘JQ∘JP∘Jp 1∘Jy (v := .bool true) (h:=by exact Yl.qbk rfl rfl rfl)∘Jp 7∘Jd6∘Jj∘JT∘JP∘Jy (v := .agg #[vI 0, vQ 0, vN, vN, vN, vN, vN]) (h:=by exact Yl.build (vs := []) rfl kr kr)∘JV si_st O0') fun w2_1 => (Jp 1∘Jd1∘Jj∘JZ) fun a I L => ?_
 exact ret2 rfl I (.cellS (i := 0) I L rfl rfl si_st rfl) (.tmp I rfl) (⟨rfl, L.below⟩)
theorem qpx (w : World) (gm : Nat) (hm : w.heap[gm]? = some (.cells #[vI 0, vQ 0, vN, vN, vN, vN, vN, .bool false] 56 (0, 0))) :
    Calls Tryz.prog 14 #[vP gm 0] w (Is w (.tuple #[.agg #[vI 0, vQ 0, vN, vN, vN, vN, vN], vI 1])) := by
 refine (JN1 Tryz.func14 19) ?_
 refine (JP∘JA #[vI 0, vQ 0, vN, vN, vN, vN, vN]) fun w2 g2 => (Jp 1∘Jj∘JQ∘JP∘Jp 1∘Jy (v := .bool false) (h:=by exact Yl.qbk rfl rfl rfl)∘Jp 2∘Jn∘Jf 7∘Jy (v := .bool false) (h:=by exact Yl.qh rfl rfl kr (fun _ h => h.qae hm rfl))∘Jp 2∘Jd6∘Jj∘JT∘JP∘Jy (v := .agg #[vI 0, vQ 0, vN, vN, vN, vN, vN]) (h:=by exact Yl.build (vs := []) rfl kr kr)∘JV si_st O0') fun w2_1 => (Jp 1∘Jd1∘Jj∘JZ) fun a I L => ?_
 exact ret2 rfl I (.cellS (i := 0) I L rfl rfl si_st rfl) (.tmp I rfl) (⟨rfl, L.below⟩)
theorem qpy (w : World) :
    Calls Tryz.prog 15 #[.pointer none, vI 0] w (Is w (.tuple #[vI 0, vI 1])) := by
 refine (JN2 Tryz.func15 11) ?_
 refine (JP∘Jp 2∘Jr∘Jp 2∘JL (h:=by exact fun L => qml _)) ?_
 rintro L _ w8 ⟨rfl, hbw⟩
 refine ⟨_, rfl, _, L.call hbw, ?_⟩
 exact (Jx∘Jx∘Jp 2∘Jj∘JZ) JY2
theorem qpz (w : World) (gm : Nat) (hm : w.heap[gm]? = some (.cells #[vI 0, vQ 0, vN, vN, vN, vN, vN, .bool false] 56 (0, 0))) :
    Calls Tryz.prog 15 #[vP gm 0, vI 0] w (Is w (.tuple #[vI 0, vI 1])) := by
 refine (JN2 Tryz.func15 11) ?_
 refine (JP∘Jp 2∘Jr∘Jp 2∘JL (h:=by exact fun L => qmm _ gm (L.oldBlk hm))) ?_
 rintro L _ w8 ⟨rfl, hbw⟩
 refine ⟨_, rfl, _, L.call hbw, ?_⟩
 exact (Jx∘Jx∘Jp 2∘Jj∘JZ) JY2
theorem qmp (w : World) :
    Calls Tryz.prog 16 #[.pointer none, vI 0] w (Is w (.tuple #[vI 0, vI 1])) := by
 refine (JN2 Tryz.func16 11) ?_
 refine (JP∘Jp 2∘Jr∘Jp 2∘JL (h:=by exact fun L => qmn _)) ?_
 rintro L _ w8 ⟨rfl, hbw⟩
 refine ⟨_, rfl, _, L.call hbw, ?_⟩
 exact (Jx∘Jx∘Jp 2∘Jj∘JZ) JY2
theorem qmq (w : World) (gm : Nat) (hm : w.heap[gm]? = some (.cells #[vI 0, vQ 0, vN, vN, vN, vN, vN, .bool false] 56 (0, 0))) :
    Calls Tryz.prog 16 #[vP gm 0, vI 0] w (Is w (.tuple #[vI 0, vI 1])) := by
 refine (JN2 Tryz.func16 11) ?_
 refine (JP∘Jp 2∘Jr∘Jp 2∘JL (h:=by exact fun L => qmo _ gm (L.oldBlk hm))) ?_
 rintro L _ w8 ⟨rfl, hbw⟩
 refine ⟨_, rfl, _, L.call hbw, ?_⟩
 exact (Jx∘Jx∘Jp 2∘Jj∘JZ) JY2
theorem qmr (w : World) (gm : Nat) (x : Stm) (s : Sta) (hx : x.sta = s) (hG : GoodS s) (hxr : StRd w x) (hm : w.heap[gm]? = some (.cells #[vI x.cpus, vQ x.credit, .slice x.gA x.gs.length x.gc, .slice x.lA x.cl.length x.lc, .slice x.uA x.cu.length x.uc, .slice x.tA x.ts.length x.tc, .slice x.sA x.rs.length x.sc, .bool true] 56 (0, 0))) :
    Calls Tryz.prog 12 #[vP gm 0] w (fun r w' => ∃ q : Stm, r = .returned (.agg q.cells) ∧ q.sta = s ∧ StCap q ∧ Mem w w' (stF q)) := by
 refine (JN1 Tryz.func12 11) ?_
 refine (JP∘JA #[vI 0, vQ 0, vN, vN, vN, vN, vN]) fun w2 g2 => (Jr∘Jp 1∘JL (h:=by exact fun L => qtb (hxr.old L) (L.oldBlk hm) hx hG)) ?_
 rintro L _ w7 ⟨q, rfl, hq, hcap, hm2⟩
 refine ⟨_, rfl, _, (show Mem w _ (.blk g2 #[vI 0, vQ 0, vN, vN, vN, vN, vN] 45 :: (stF q ++ ([]))) from by have h := L.joinT hm2; rw [← List.append_nil (stF q)] at h; exact h), ?_⟩
 refine (Jp 1∘Jx∘Jx∘JA #[vI 0, vQ 0, vN, vN, vN, vN, vN]) fun w3 g3 => (JV si_st O0' (h1:=by exact q5 q)) fun w1_6 => (Jp 1∘Jt1∘Jr∘Jy (v := .agg q.cells) (h:=by exact Yl.loadS rfl rfl si_st rfl (fun _ h => qa (h.blk (i := 0) rfl)))∘JV si_st O1' (h1:=by exact q5 q)) fun w2_1 => (Jt1∘Jj∘JZ) fun a I L => ?_
 exact ret1 rfl I (.cellS (i := 1) I L rfl rfl si_st rfl) (⟨q, rfl, hq, hcap, by have h := L.dropN 2 rfl; rw [List.append_nil] at h; exact h⟩)
theorem qp0 {W w : World} {F T : List Fact} {gm : Nat} {x : Stm} {s : Sta} (n : Nat) (L : Mem W w F) (he : F.drop n = mdB gm x ++ T) (hx : x.sta = s) (hG : GoodS s) :
  Calls Tryz.prog 12 #[vP gm 0] w (fun r w' => ∃ q : Stm, r = .returned (.agg q.cells) ∧ q.sta = s ∧ StCap q ∧ Mem w w' (stF q)) := qmr w gm x s hx hG (L.mdRdB n he) (L.mdBlkB n he)
end Go.Proofs.YtannicghedpdpaaGreat
