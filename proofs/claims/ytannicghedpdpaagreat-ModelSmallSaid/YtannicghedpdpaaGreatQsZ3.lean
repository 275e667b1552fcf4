/- Parts. -/
import Derived.Test.YtannicghedpdpaaGreatQsChv
import Derived.Test.YtannicghedpdpaaGreatQsDoorE
import Derived.Test.YtannicghedpdpaaGreatQsSep20
import Derived.Test.YtannicghedpdpaaGreatQsZ2
set_option linter.all false
set_option maxRecDepth 100000
set_option maxHeartbeats 1000000
namespace Go.Proofs.YtannicghedpdpaaGreat
open Go.RowKit
theorem ql7 (A : Option Addr) (c : Nat) (l : List Gr) (w : World) (hr : Rd w w.heap.size 2 A l.length (l.flatMap grL)) (hn : l.length ≤ 1000000) :
    Calls Tryz.prog 66 #[.slice A l.length c] w (qk0 w 50 2 l.length (l.flatMap grL)) := by
 refine (JN1 Tryz.func66 8) ?_
 refine (JP∘Jp 1∘Jj∘JQ∘JP∘Jp 1∘Jy (v := .bool A.isNone) (h:=by exact Yl.qvh rfl rfl rfl)∘Jd1∘Jj) (Ju (fun hb4 => ?_) fun hb4 => ?_)
 ·
  exact (JT∘JP∘Jp 1∘Jj∘JZ∘Jz1) fun L => qda hr (by simpa using hb4) L.below
 refine (JF∘JS'∘JP) fun a I L => ?_
 refine fo I 0 rfl rfl ?_
 refine zr I L rfl ei_gr rfl de ?_
 clear I L; intro a w5 g5 I L
 refine Jb I L ((Jp 1∘JD (l.flatMap grL) 0 (fun _ _ => O0') ei_gr (hr:=by exact fun L => L.old hr) (h1:=by exact qq3 _)) fun w7 A7 c7 hc7 => fun a I L => ?_)
 have hnA7 : 0 + l.length = l.length := Nat.zero_add _
 replace L := L.reRow (i := 0) (ys := l.flatMap grL) rfl hnA7 (rfl)
 rw [hnA7] at hc7
 replace I := I.sp 7 (.slice A7 l.length c7) rfl (by rw [hnA7])
 exact Jb I L ((Jp 1∘Jd4∘Jj∘JZ∘Jz1) fun L => by exact ⟨⟨_, _, rfl, L.own (i := 0) rfl, hc7⟩, L.below⟩)
theorem qfp (A : Option Addr) (c : Nat) (l : List Int) (w : World) (hr : Rd w w.heap.size 1 A l.length (l.map I64i)) (hn : l.length ≤ 1000000) :
    Calls Tryz.prog 67 #[.slice A l.length c] w (qk0 w 3 1 l.length (l.map I64i)) := by
 refine (JN1 Tryz.func67 8) ?_
 refine (JP∘Jp 1∘Jj∘JQ∘JP∘Jp 1∘Jy (v := .bool A.isNone) (h:=by exact Yl.qvh rfl rfl rfl)∘Jd1∘Jj) (Ju (fun hb4 => ?_) fun hb4 => ?_)
 ·
  exact (JT∘JP∘Jp 1∘Jj∘JZ∘Jz1) fun L => qda hr (by simpa using hb4) L.below
 refine (JF∘JS'∘JP) fun a I L => ?_
 refine fo I 0 rfl rfl ?_
 refine zr I L rfl zo rfl de ?_
 clear I L; intro a w5 g5 I L
 refine Jb I L ((Jp 1∘JD (l.map I64i) 0 (fun _ _ => O0') zo (hr:=by exact fun L => L.old hr) (h1:=by exact qir _)) fun w7 A7 c7 hc7 => fun a I L => ?_)
 have hnA7 : 0 + l.length = l.length := Nat.zero_add _
 replace L := L.reRow (i := 0) (ys := l.map I64i) rfl hnA7 (rfl)
 rw [hnA7] at hc7
 replace I := I.sp 7 (.slice A7 l.length c7) rfl (by rw [hnA7])
 exact Jb I L ((Jp 1∘Jd4∘Jj∘JZ∘Jz1) fun L => by exact ⟨⟨_, _, rfl, L.own (i := 0) rfl, hc7⟩, L.below⟩)
theorem ql8 (A : Option Addr) (c : Nat) (l : List Tk) (w : World) (hr : Rd w w.heap.size 8 A l.length (l.flatMap tkL)) (hn : l.length ≤ 1000000) :
    Calls Tryz.prog 68 #[.slice A l.length c] w (qk0 w 81 8 l.length (l.flatMap tkL)) := by
 refine (JN1 Tryz.func68 8) ?_
 refine (JP∘Jp 1∘Jj∘JQ∘JP∘Jp 1∘Jy (v := .bool A.isNone) (h:=by exact Yl.qvh rfl rfl rfl)∘Jd1∘Jj) (Ju (fun hb4 => ?_) fun hb4 => ?_)
 ·
  exact (JT∘JP∘Jp 1∘Jj∘JZ∘Jz1) fun L => qda hr (by simpa using hb4) L.below
 refine (JF∘JS'∘JP) fun a I L => ?_
 refine fo I 0 rfl rfl ?_
 refine zr I L rfl ei_tk rfl de ?_
 clear I L; intro a w5 g5 I L
 refine Jb I L ((Jp 1∘JD (l.flatMap tkL) 0 (fun _ _ => O0') ei_tk (hr:=by exact fun L => L.old hr) (h1:=by exact qaz _)) fun w7 A7 c7 hc7 => fun a I L => ?_)
 have hnA7 : 0 + l.length = l.length := Nat.zero_add _
 replace L := L.reRow (i := 0) (ys := l.flatMap tkL) rfl hnA7 (rfl)
 rw [hnA7] at hc7
 replace I := I.sp 7 (.slice A7 l.length c7) rfl (by rw [hnA7])
 exact Jb I L ((Jp 1∘Jd4∘Jj∘JZ∘Jz1) fun L => by exact ⟨⟨_, _, rfl, L.own (i := 0) rfl, hc7⟩, L.below⟩)
theorem ql9 (A : Option Addr) (c : Nat) (l : List Sp) (w : World) (hr : Rd w w.heap.size 3 A l.length (l.flatMap spL)) (hn : l.length ≤ 1000000) :
    Calls Tryz.prog 69 #[.slice A l.length c] w (qk0 w 83 3 l.length (l.flatMap spL)) := by
 refine (JN1 Tryz.func69 8) ?_
 refine (JP∘Jp 1∘Jj∘JQ∘JP∘Jp 1∘Jy (v := .bool A.isNone) (h:=by exact Yl.qvh rfl rfl rfl)∘Jd1∘Jj) (Ju (fun hb4 => ?_) fun hb4 => ?_)
 ·
  exact (JT∘JP∘Jp 1∘Jj∘JZ∘Jz1) fun L => qda hr (by simpa using hb4) L.below
 refine (JF∘JS'∘JP) fun a I L => ?_
 refine fo I 0 rfl rfl ?_
 refine zr I L rfl ei_sp rfl de ?_
 clear I L; intro a w5 g5 I L
 refine Jb I L ((Jp 1∘JD (l.flatMap spL) 0 (fun _ _ => O0') ei_sp (hr:=by exact fun L => L.old hr) (h1:=by exact qq4 _)) fun w7 A7 c7 hc7 => fun a I L => ?_)
 have hnA7 : 0 + l.length = l.length := Nat.zero_add _
 replace L := L.reRow (i := 0) (ys := l.flatMap spL) rfl hnA7 (rfl)
 rw [hnA7] at hc7
 replace I := I.sp 7 (.slice A7 l.length c7) rfl (by rw [hnA7])
 exact Jb I L ((Jp 1∘Jd4∘Jj∘JZ∘Jz1) fun L => by exact ⟨⟨_, _, rfl, L.own (i := 0) rfl, hc7⟩, L.below⟩)
theorem qh8 (x : Stm) (w : World) (hx : StRd w x) (hf : StFew x) :
    Calls Tryz.prog 27 #[.agg x.cells] w (qka w x) := by
 have hfg := hf.g; have hfl := hf.l; have hfu := hf.u; have hft := hf.t; have hfs := hf.s
 refine (JN1 Tryz.func27 45) ?_
 refine (JP∘JE) fun w1 g1 => (JA #[vI 0, vQ 0, vN, vN, vN, vN, vN]) fun w2 g2 => (Jr∘Jf 0∘Jg 2 O1∘JK (h:=by exact fun L => ql7 x.gA x.gc x.gs _ (L.old hx.g) (hf.g))) fun A9 c9 w9 hc9 => (Jf 0∘Jf 2) fun a I L => ?_
 refine fo I 6 rfl rfl ?_
 refine z7 I L (i := 2) rfl rfl rfl rfl kr rfl rfl (by simp [Stm.cells]) ?_
 clear L; intro w1_6 L
 refine Jb I L ((Jt5∘Jj) fun a I L => ?_)
 refine wp_seq ?_
 refine Jb I L ((Vs .n [10, 12, 14]) fun wd2 => (Vf 0 3∘Vf 3 4∘Vf 6 5∘Vc 1 O2∘Vc 4 O2∘Vc 7 O2∘VK 2 .n (h:=by exact fun L => qfp x.lA x.lc x.cl _ (L.old hx.l) (hf.l))) fun A14 c14 w14 hc14 => (Vf 9 3∘VK 5 (.f .n) (h:=by exact fun L => qfp x.uA x.uc x.cu _ (L.old hx.u) (hf.u))) fun A17 c17 w17 hc17 => (VK 8 (.f (.f .n)) (h:=by exact fun L => ql8 x.tA x.tc x.ts _ (L.old hx.t) (hf.t))) fun A20 c20 w20 hc20 => fun a I L HS => ?_)
 refine s_on I 10 rfl ?_
 refine z7 I L (i := 5) rfl rfl rfl rfl kr rfl rfl (by simp [Stm.cells]) ?_
 clear L; intro w2_10 L
 refine noS kr ?_
 refine ap I (pastS kr) [11] (bt 15 [12, 13, 14]) [(22, vP g1 4)] fun a I => ?_
 refine s_on I 12 rfl ?_
 refine z7 I L (i := 5) rfl rfl rfl rfl kr rfl rfl (by simp [Stm.cells]) ?_
 clear L; intro w2_12 L
 refine noS kr ?_
 refine ap I (pastS kr) [13] (bt 15 [14]) [(23, vP g1 5)] fun a I => ?_
 refine s_on I 14 rfl ?_
 refine z7 I L (i := 5) rfl rfl rfl rfl kr rfl rfl (by simp [Stm.cells]) ?_
 clear L; intro w2_14 L
 refine noS kr ?_
 refine qb kr ?_
 refine Jb I L ((JP∘Jg 6 O5∘Jl) fun a I L => ?_)
 refine fo I 3 rfl rfl ?_
 refine z3 I L (m := x.rs.length) rfl ei_rw rfl rfl om om rfl de ?_
 clear I L; intro a w27 g27 I L
 refine Jb I L ((Jp 1∘Jd6∘Jq) fun a I L => ?_)
 rw [qo8] at L
 replace L := L.newTail 83 3
 replace L : Mem w _ (.row (vS g27 x.rs.length x.rs.length) x.rs.length ((rwUp [] x.rs.length).map Rw.val) 63 1 :: .row (.slice A20 x.ts.length c20) x.ts.length (x.ts.flatMap tkL) 81 8 :: .row (.slice A17 x.cu.length c17) x.cu.length (x.cu.map I64i) 3 1 :: .row (.slice A14 x.cl.length c14) x.cl.length (x.cl.map I64i) 3 1 :: .row (.slice A9 x.gs.length c9) x.gs.length (x.gs.flatMap grL) 50 2 :: .blk g2 #[vI 0, vQ 0, vN, vN, vN, vN, vN] 45 :: .blk g1 #[vI x.cpus, vQ x.credit, .slice A9 x.gs.length c9, .slice A14 x.cl.length c14, .slice A17 x.cu.length c17, .slice A20 x.ts.length c20, .slice x.sA x.rs.length x.sc] 45 :: rwF 83 []) := L
 refine Jb I L ((JG∘JQ∘JP∘Jg 6 O6∘Jl∘Jp 1∘Jj∘JB) fun a I L => ?_)
 refine qg (fun mS aS wS => ∃ (i : Nat) (z : List Rw), (i ≤ x.rs.length) ∧ (z.length = i) ∧ (z.map Rw.l = (x.rs.take i).map Rw.l) ∧ (∀ q ∈ z, q.l.length ≤ q.c) ∧ mS = x.rs.length - i ∧ Fr aS 45 [] [(31, vI i), (30, vI x.rs.length), (29, .slice x.sA x.rs.length x.sc), (3, vS g27 x.rs.length x.rs.length), (2, vP g2 0), (1, vP g1 0)] ∧ Mem w wS (.row (vS g27 x.rs.length x.rs.length) x.rs.length ((rwUp z (x.rs.length - i)).map Rw.val) 63 1 :: .row (.slice A20 x.ts.length c20) x.ts.length (x.ts.flatMap tkL) 81 8 :: .row (.slice A17 x.cu.length c17) x.cu.length (x.cu.map I64i) 3 1 :: .row (.slice A14 x.cl.length c14) x.cl.length (x.cl.map I64i) 3 1 :: .row (.slice A9 x.gs.length c9) x.gs.length (x.gs.flatMap grL) 50 2 :: .blk g2 #[vI 0, vQ 0, vN, vN, vN, vN, vN] 45 :: .blk g1 #[vI x.cpus, vQ x.credit, .slice A9 x.gs.length c9, .slice A14 x.cl.length c14, .slice A17 x.cu.length c17, .slice A20 x.ts.length c20, .slice x.sA x.rs.length x.sc] 45 :: rwF 83 z)) (m := x.rs.length - 0) ⟨0, [], Nat.zero_le _, rfl, rfl, (fun q h => by cases h), rfl, I.sub kr, L.pt 7 [0, 1, 2, 3, 4, 5, 6]⟩ ?_
 clear I L; rintro mS a w_ ⟨i, z, hi, hzl, hz, hzc, rfl, I, L⟩
 refine Jb I L ((JP∘Jp 1∘Jj∘JQ) (Ju (fun hb32 => ?_) fun hb32 => ?_))
 ·
  intro a I L
  have hd32 := of_decide_eq_true hb32
  have hi32 : i < x.rs.length := by omega
  obtain ⟨y, hy⟩ : ∃ q, x.rs.getD i Rw.zero = q := ⟨_, rfl⟩
  have hyr : Rd w w.heap.size 3 y.A y.l.length (y.l.flatMap spL) := by rw [← hy]; exact hx.row hi32
  have hyl : y.l.length ≤ 1000000 := by rw [← hy]; exact hf.r _ (qf Rw.zero hi32)
  refine Jb I L ((JT∘JS'∘JQ∘JB∘JP∘Jp 1) fun a I L => ?_)
  obtain ⟨gq1, oq1, hq1, _⟩ := Rd.qn hx.s (Nat.lt_of_le_of_lt (Nat.zero_le _) (show i < x.rs.length from by omega)) de
  have hrq1 := hx.s; rw [hq1] at hrq1
  replace I := I.sp 29 (.slice (some ⟨gq1, oq1, none⟩) x.rs.length x.sc) rfl (by rw [hq1]; try rfl)
  refine Jb I L ((Jy (h:=by exact Yl.ix gq1 oq1 i 1 rfl rfl rfl)∘Jy (v := .slice ((x.rs.getD i Rw.zero).A) ((x.rs.getD i Rw.zero).l.length) ((x.rs.getD i Rw.zero).c)) (h:=by exact Yl.o1 hrq1 i Rw.zero hi32 rfl rfl)∘Jo (.slice y.A y.l.length y.c) (by rw [hy])∘Jp 2∘Jj∘JR∘Jp 3∘JK (h:=by exact fun L => ql9 y.A y.c y.l _ (L.old hyr) (hyl))) fun A39 c39 w39 hc39 => (Jy (h:=by exact Yl.ix0 g27 i 1 rfl rfl rfl)) fun a I L => ?_)
  refine fo I 5 rfl rfl ?_
  refine qk I L (i := 1) rfl rfl rfl rfl kr rfl rfl (by rw [List.length_map, qnu]; omega) ?_
  clear L; intro w7_5 L
  replace L := L.asRow (i := 1) (ys := (rwUp (z ++ [(⟨A39, c39, y.l⟩ : Rw)]) (x.rs.length - (i + 1))).map Rw.val) rfl ((zt Rw.val _ i (⟨A39, c39, y.l⟩ : Rw) (by rw [qnu]; omega)).trans (by rw [show i = z.length from hzl.symm, qum (⟨A39, c39, y.l⟩ : Rw) om]; rfl))
  refine Jb I L ((Jt5∘Jq) fun a I L => ?_)
  replace L := L.pt (fs' := (.row (.slice A39 y.l.length c39) y.l.length (y.l.flatMap spL) 83 3 :: .row (vS g27 x.rs.length x.rs.length) x.rs.length ((rwUp (z ++ [(⟨A39, c39, y.l⟩ : Rw)]) (x.rs.length - (i + 1))).map Rw.val) 63 1 :: .row (.slice A20 x.ts.length c20) x.ts.length (x.ts.flatMap tkL) 81 8 :: .row (.slice A17 x.cu.length c17) x.cu.length (x.cu.map I64i) 3 1 :: .row (.slice A14 x.cl.length c14) x.cl.length (x.cl.map I64i) 3 1 :: .row (.slice A9 x.gs.length c9) x.gs.length (x.gs.flatMap grL) 50 2 :: .blk g2 #[vI 0, vQ 0, vN, vN, vN, vN, vN] 45 :: .blk g1 #[vI x.cpus, vQ x.credit, .slice A9 x.gs.length c9, .slice A14 x.cl.length c14, .slice A17 x.cu.length c17, .slice A20 x.ts.length c20, .slice x.sA x.rs.length x.sc] 45 :: rwF 83 z)) 8 [0, 1, 2, 3, 4, 5, 6, 7]
  replace L := Mem.toRw (fs := [.row (vS g27 x.rs.length x.rs.length) x.rs.length ((rwUp (z ++ [(⟨A39, c39, y.l⟩ : Rw)]) (x.rs.length - (i + 1))).map Rw.val) 63 1, .row (.slice A20 x.ts.length c20) x.ts.length (x.ts.flatMap tkL) 81 8, .row (.slice A17 x.cu.length c17) x.cu.length (x.cu.map I64i) 3 1, .row (.slice A14 x.cl.length c14) x.cl.length (x.cl.map I64i) 3 1, .row (.slice A9 x.gs.length c9) x.gs.length (x.gs.flatMap grL) 50 2, .blk g2 #[vI 0, vQ 0, vN, vN, vN, vN, vN] 45, .blk g1 #[vI x.cpus, vQ x.credit, .slice A9 x.gs.length c9, .slice A14 x.cl.length c14, .slice A17 x.cu.length c17, .slice A20 x.ts.length c20, .slice x.sA x.rs.length x.sc] 45]) L
  replace L : Mem w _ (.row (vS g27 x.rs.length x.rs.length) x.rs.length ((rwUp (z ++ [(⟨A39, c39, y.l⟩ : Rw)]) (x.rs.length - (i + 1))).map Rw.val) 63 1 :: .row (.slice A20 x.ts.length c20) x.ts.length (x.ts.flatMap tkL) 81 8 :: .row (.slice A17 x.cu.length c17) x.cu.length (x.cu.map I64i) 3 1 :: .row (.slice A14 x.cl.length c14) x.cl.length (x.cl.map I64i) 3 1 :: .row (.slice A9 x.gs.length c9) x.gs.length (x.gs.flatMap grL) 50 2 :: .blk g2 #[vI 0, vQ 0, vN, vN, vN, vN, vN] 45 :: .blk g1 #[vI x.cpus, vQ x.credit, .slice A9 x.gs.length c9, .slice A14 x.cl.length c14, .slice A17 x.cu.length c17, .slice A20 x.ts.length c20, .slice x.sA x.rs.length x.sc] 45 :: rwF 83 (z ++ [(⟨A39, c39, y.l⟩ : Rw)])) := L
  refine Jb I L ((JG∘JR∘JaK 1∘Jp 1∘Jd1∘Jq) fun a I L => ?_)
  replace I := I.sp 29 (.slice x.sA x.rs.length x.sc) rfl (by rw [hq1])
  exact ⟨_, om, i + 1, (z ++ [(⟨A39, c39, y.l⟩ : Rw)]), by omega, by rw [List.length_append, hzl]; rfl, by rw [List.map_append, hz, qis hi32, hy]; rfl, fun q h => (List.mem_append.1 h).elim (hzc q) (fun h => by rw [List.mem_singleton] at h; subst h; exact hc39), rfl, I.sub kr, L.pt 7 [0, 1, 2, 3, 4, 5, 6]⟩
 intro a I L
 have hd32 := of_decide_eq_false hb32
 have hzt : x.rs.take i = x.rs := List.take_of_length_le om
 have hil : i = x.rs.length := by omega
 refine Jb I L ((JF∘JX∘JG∘JP∘Jp 1∘Jf 6∘JW O6' O6') fun w9_2 => (Jt2∘Jr∘Jy (v := .agg #[vI x.cpus, vQ x.credit, .slice A9 x.gs.length c9, .slice A14 x.cl.length c14, .slice A17 x.cu.length c17, .slice A20 x.ts.length c20, vS g27 x.rs.length x.rs.length]) (h:=by exact Yl.loadS rfl rfl si_st rfl (fun _ h => qa (h.blk (i := 6) rfl)))∘JV si_st O5') fun w10_1 => (Jt1∘Jj∘JZ) fun a I L => ?_)
 exact ret1 rfl I (.cellS (i := 5) I L rfl rfl si_st rfl) (qsc (x := x) (n := x.rs.length) (i := i) hzl hil hc9 hc14 hc17 hc20 hzc (by rw [hzt] at hz; exact hz.symm) (L.pt 7 [4, 3, 2, 1, 0]))
def qsd (w : World) (x : Stm) (r : Ending) (w' : World) : Prop := ∃ y : Stm, r = .returned (.tuple #[.agg y.cells, .int .i64 0]) ∧ StaEq x y ∧ StCap y ∧ Mem w w' (stF y)
def qse (w : World) (s : Sta) (r : Ending) (w' : World) : Prop := ∃ (gm : Nat) (y : Stm), r = .returned (.tuple #[.pointer (some ⟨gm, 0, none⟩), .int .i64 0]) ∧ y.sta = s ∧ Mem w w' (mdB gm y)
def NewNo (w : World) (r : Ending) (w' : World) : Prop := r = .returned (.tuple #[.pointer none, .int .i64 2]) ∧ Below w.heap.size w w'
def NewIs (w : World) (b : Bool) (s : Sta) (r : Ending) (w' : World) : Prop := if b = true then qse w s r w' else NewNo w r w'
theorem qun {w w' : World} {b : Bool} {s : Sta} (h : b = false) (hb : Below w.heap.size w w') : NewIs w b s (.returned (.tuple #[.pointer none, .int .i64 2])) w' := by
 unfold NewIs
 rw [if_neg (by rw [h]; decide)]
 exact ⟨rfl, hb⟩
theorem qsf {w w' : World} {b : Bool} {s : Sta} {gm : Nat} {y : Stm} (h : b = true) (hs : y.sta = s) (hm : Mem w w' (mdB gm y)) : NewIs w b s (.returned (.tuple #[.pointer (some ⟨gm, 0, none⟩), .int .i64 0])) w' := by
 unfold NewIs
 rw [if_pos h]
 exact ⟨gm, y, rfl, hs, hm⟩
section
variable {W w w' : World} {F T fs gs : List Fact} {x y : Stm} {gm : Nat}
theorem Mem.mdRdB (n : Nat) (h : Mem W w F) (he : F.drop n = mdB gm x ++ T) : StRd w x := h.mdRd n he ⟨rfl, rfl, rfl, rfl, rfl⟩
theorem Mem.mdBlkB (n : Nat) (h : Mem W w F) (he : F.drop n = mdB gm x ++ T) : w.heap[gm]? = some (.cells #[.int .i64 x.cpus, .int .u64 (x.credit : Int), .slice x.gA x.gs.length x.gc, .slice x.lA x.cl.length x.lc, .slice x.uA x.cu.length x.uc, .slice x.tA x.ts.length x.tc, .slice x.sA x.rs.length x.sc, .bool true] 56 (0, 0)) := h.mdBlk n he ⟨rfl, rfl, rfl, rfl, rfl⟩
theorem Mem.qxl (h : Mem W w fs) {g : Nat} {cs ds : Array Value} {t : TypeId} (hb : W.heap[g]? = some (.cells cs t (0, 0))) (he : cs.toList.take ds.size = ds.toList) : w.rangeAt g 0 ds.toList := fun j u hu => by
 have hr := h.qyr hb
 refine hr j u ?_
 rw [← he, List.getElem?_take] at hu
 split at hu
 ·exact hu
 ·cases hu
theorem Mem.alone (h : Mem W w fs) (k : Mem w w' gs) : Mem W w' gs := (h.joinT k).dropN fs.length (by rw [List.drop_left])
end
theorem qsg {α : Type} (f : α → List Value) (sz : Nat) (hf : ∀ x, (f x).length = sz) (h0 : 0 < sz) (z : α) (m : Nat) : (madeCells (f z).toArray (m * sz)).toList = (List.replicate m z).flatMap f := by
 unfold madeCells
 have hl : ((List.replicate m z).flatMap f).length = m * sz := by rw [qy f sz hf, List.length_replicate]
 refine List.ext_getElem (by rw [hl]; simp) fun i h1 h2 => ?_
 have h3 : i < m * sz := by rw [← hl]; exact h2
 have hk : i / sz < (List.replicate m z).length := by rw [List.length_replicate]; exact Nat.div_lt_of_lt_mul (by rw [Nat.mul_comm]; exact h3)
 have hj := Nat.mod_lt i h0
 have h4 := qch f sz hf (List.replicate m z) (i / sz) (i % sz) hk hj
 rw [show i / sz * sz + i % sz = i by rw [Nat.mul_comm]; exact Nat.div_add_mod i sz, List.getElem?_eq_getElem h2, List.getElem_replicate] at h4
 rw [List.getElem?_eq_getElem (by rw [hf]; exact hj)] at h4
 injection h4 with h4
 rw [h4]
 simp [hf]
 rw [List.getElem?_eq_getElem (by rw [hf]; exact hj)]
 rfl
theorem qsh (m : Nat) : (madeCells (Value.agg #[.int .u64 0, .int .u32 0, .int .u64 0]).cells (m * 3)).toList = (List.replicate m Sp.zero).flatMap spL := qsg spL 3 (fun _ => rfl) de Sp.zero m
theorem qk1 (m : Nat) : (madeCells #[.int .i64 0] (m * 1)).toList = (List.replicate m (0 : Int)).map I64i := qnv I64i 0 m
theorem qup (m : Nat) : (madeCells #[.int .u64 0, .int .u32 0, .int .u64 0] (m * 3)).toList = (List.replicate m Sp.zero).flatMap spL := qsh m
def qcu (w : World) (cp o a0 : Int) (r : Ending) (w' : World) : Prop := (∃ (a : Int) (e : Nat), r = .returned (.tuple #[vI a, vI e]) ∧ if 0 ≤ o ∧ o < cp then a = a0 ∧ e = 0 else a = 0 ∧ e = 300) ∧ Below w.heap.size w w'
theorem qh9 {w w' : World} {cp o a0 : Int} (h : ¬ (0 ≤ o ∧ o < cp)) (hb : Below w.heap.size w w') : qcu w cp o a0 (.returned (.tuple #[vI 0, vI 300])) w' := ⟨⟨0, 300, rfl, by rw [if_neg h]; exact ⟨rfl, rfl⟩⟩, hb⟩
theorem qgy {w w' : World} {cp o a0 a : Int} (h : 0 ≤ o ∧ o < cp) (ha : a = a0) (hb : Below w.heap.size w w') : qcu w cp o a0 (.returned (.tuple #[vI a, vI 0])) w' := ⟨⟨a, 0, rfl, by rw [if_pos h]; exact ⟨ha, rfl⟩⟩, hb⟩
theorem qk2 (x : Stm) (gm : Nat) (w : World) (hf : StFew x) (hx : StRd w x) (hm : w.heap[gm]? = some (.cells #[vI x.cpus, vQ x.credit, .slice x.gA x.gs.length x.gc, .slice x.lA x.cl.length x.lc, .slice x.uA x.cu.length x.uc, .slice x.tA x.ts.length x.tc, .slice x.sA x.rs.length x.sc, .bool true] 56 (0, 0))) :
    Calls Tryz.prog 14 #[vP gm 0] w (qsd w x) := by
 refine (JN1 Tryz.func14 19) ?_
 refine (JP∘JA #[vI 0, vQ 0, vN, vN, vN, vN, vN]) fun w2 g2 => (Jp 1∘Jj∘JQ∘JP∘Jp 1∘Jy (v := .bool false) (h:=by exact Yl.qbk rfl rfl rfl)∘Jp 2∘Jn∘Jf 7∘Jy (v := .bool true) (h:=by exact Yl.qh rfl rfl kr (fun _ h => h.qae hm rfl))∘Jp 2∘Jd6∘Jj∘JF∘JS'∘JP∘Jp 1∘Jn∘Jf 0∘Jy (v := .agg x.cells) (h:=by exact Yl.loadS rfl rfl si_st rfl (fun _ h => h.qxl hm rfl))∘JL (h:=by exact fun L => qh8 x _ (hx.old L) (hf))) ?_
 rintro L _ w18 ⟨y, rfl, heq, hcap, hm⟩
 refine ⟨_, rfl, _, (show Mem w _ (.blk g2 #[vI 0, vQ 0, vN, vN, vN, vN, vN] 45 :: stF y) from L.joinT hm), ?_⟩
 refine (JV si_st O0' (h1:=by exact q5 y)) fun w3_5 => (Jp 1∘Jd5∘Jj∘JZ) fun a I L => ?_
 exact ret2 rfl I (.cellS (i := 0) I L rfl rfl si_st rfl) (.tmp I rfl) (⟨y, rfl, heq, hcap, L.pt 1 []⟩)
theorem qo9 (x : Stm) (gm : Nat) (o : Int) (w : World) (hok : x.sta.Ok) (hf : StFew x) (hsh : ShAt x) (hx : StRd w x) (hm : w.heap[gm]? = some (.cells #[vI x.cpus, vQ x.credit, .slice x.gA x.gs.length x.gc, .slice x.lA x.cl.length x.lc, .slice x.uA x.cu.length x.uc, .slice x.tA x.ts.length x.tc, .slice x.sA x.rs.length x.sc, .bool true] 56 (0, 0))) :
    Calls Tryz.prog 41 #[vP gm 0, vI o, .func (.func 42) #[] #[]] w (qcu w x.cpus o (ze x.sta o.toNat : Int)) := by
 refine (JN3 Tryz.func41 27) ?_
 refine (JP∘Jp 2∘Jj∘JQ∘JB∘JP∘Jp 1∘Jy (v := .bool false) (h:=by exact Yl.qbk rfl rfl rfl)∘Jp 2∘Jn∘Jf 7∘Jy (v := .bool true) (h:=by exact Yl.qh rfl rfl kr (fun _ h => h.qae hm rfl))∘Jp 3∘Jd6∘Jj∘JF∘JP∘Jp 2∘JI (h:=by exact fun L => ql1 gm x.cpus x.credit x.gA x.gs.length x.gc x.lA x.cl.length x.lc x.uA x.cu.length x.uc x.tA x.ts.length x.tc x.sA x.rs.length x.sc o _ (L.oldBlk hm))) fun w21 hbw => (Jp 2∘Jd4∘Jj) (Ju (fun hb18 => ?_) fun hb18 => ?_)
 ·
  intro a I L
  have hd18 := of_decide_eq_false ((Bool.not_eq_true' _).mp hb18)
  exact Jb I L ((JT∘JP∘Jp 2∘Jj∘JZ∘Jz2) fun L => qh9 hd18 L.below)
 intro a I L
 have hd18 := of_decide_eq_true ((Bool.not_eq_false' _).mp hb18)
 obtain ⟨c, hcc⟩ : ∃ c : Nat, o = (c : Int) := ⟨o.toNat, by omega⟩
 refine Jb I L ((JF∘JS'∘JP∘Jp 3∘Jo (vI c) (by rw [hcc])) fun a I L => ?_)
 refine fo I 3 rfl rfl ?_
 refine qb0 I (f := 42) (vs := [vP gm 0, vI c]) (fst := []) (caps := []) rfl rfl rfl kr rfl de (qku x gm c _ hok hf hsh (hx.old L) (L.oldBlk hm) om) ?_
 rintro _ w26 ⟨rfl, hbw⟩
 refine ⟨_, rfl, ?_⟩
 replace L := L.call hbw
 clear I; intro a I
 exact Jb I L ((Jp 2∘Jj∘JZ∘Jz2) fun L => qgy hd18 (by rw [hcc]; rfl) L.below)
theorem qpa (x : Stm) (gm : Nat) (o : Int) (w : World) (hok : x.sta.Ok) (hf : StFew x) (hsh : ShAt x) (hx : StRd w x) (hm : w.heap[gm]? = some (.cells #[vI x.cpus, vQ x.credit, .slice x.gA x.gs.length x.gc, .slice x.lA x.cl.length x.lc, .slice x.uA x.cu.length x.uc, .slice x.tA x.ts.length x.tc, .slice x.sA x.rs.length x.sc, .bool true] 56 (0, 0))) :
    Calls Tryz.prog 41 #[vP gm 0, vI o, .func (.func 43) #[] #[]] w (qcu w x.cpus o (loadS x.sta o.toNat)) := by
 refine (JN3 Tryz.func41 27) ?_
 refine (JP∘Jp 2∘Jj∘JQ∘JB∘JP∘Jp 1∘Jy (v := .bool false) (h:=by exact Yl.qbk rfl rfl rfl)∘Jp 2∘Jn∘Jf 7∘Jy (v := .bool true) (h:=by exact Yl.qh rfl rfl kr (fun _ h => h.qae hm rfl))∘Jp 3∘Jd6∘Jj∘JF∘JP∘Jp 2∘JI (h:=by exact fun L => ql1 gm x.cpus x.credit x.gA x.gs.length x.gc x.lA x.cl.length x.lc x.uA x.cu.length x.uc x.tA x.ts.length x.tc x.sA x.rs.length x.sc o _ (L.oldBlk hm))) fun w21 hbw => (Jp 2∘Jd4∘Jj) (Ju (fun hb18 => ?_) fun hb18 => ?_)
 ·
  intro a I L
  have hd18 := of_decide_eq_false ((Bool.not_eq_true' _).mp hb18)
  exact Jb I L ((JT∘JP∘Jp 2∘Jj∘JZ∘Jz2) fun L => qh9 hd18 L.below)
 intro a I L
 have hd18 := of_decide_eq_true ((Bool.not_eq_false' _).mp hb18)
 obtain ⟨c, hcc⟩ : ∃ c : Nat, o = (c : Int) := ⟨o.toNat, by omega⟩
 refine Jb I L ((JF∘JS'∘JP∘Jp 3∘Jo (vI c) (by rw [hcc])) fun a I L => ?_)
 refine fo I 3 rfl rfl ?_
 refine qb0 I (f := 43) (vs := [vP gm 0, vI c]) (fst := []) (caps := []) rfl rfl rfl kr rfl de (qh6 x gm c _ hok hf hsh (hx.old L) (L.oldBlk hm)) ?_
 rintro _ w26 ⟨rfl, hbw⟩
 refine ⟨_, rfl, ?_⟩
 replace L := L.call hbw
 clear I; intro a I
 exact Jb I L ((Jp 2∘Jj∘JZ∘Jz2) fun L => qgy hd18 (by rw [hcc]; rfl) L.below)
theorem qk3 (x : Stm) (gm : Nat) (o : Int) (w : World) (hok : x.sta.Ok) (hf : StFew x) (hsh : ShAt x) (hx : StRd w x) (hm : w.heap[gm]? = some (.cells #[vI x.cpus, vQ x.credit, .slice x.gA x.gs.length x.gc, .slice x.lA x.cl.length x.lc, .slice x.uA x.cu.length x.uc, .slice x.tA x.ts.length x.tc, .slice x.sA x.rs.length x.sc, .bool true] 56 (0, 0))) :
    Calls Tryz.prog 15 #[vP gm 0, vI o] w (qcu w x.cpus o (ze x.sta o.toNat : Int)) := by
 refine (JN2 Tryz.func15 11) ?_
 refine (JP∘Jp 2∘Jr∘Jp 2∘JL (h:=by exact fun L => qo9 x gm o _ hok hf hsh (hx.old L) (L.oldBlk hm))) ?_
 rintro L _ w8 ⟨⟨a, e, rfl, hae⟩, hbw⟩
 refine ⟨_, rfl, _, L.call hbw, ?_⟩
 exact (Jx∘Jx∘Jp 2∘Jj∘JZ∘Jz2) fun L => by exact ⟨⟨a, e, rfl, hae⟩, L.below⟩
theorem qja (x : Stm) (gm : Nat) (o : Int) (w : World) (hok : x.sta.Ok) (hf : StFew x) (hsh : ShAt x) (hx : StRd w x) (hm : w.heap[gm]? = some (.cells #[vI x.cpus, vQ x.credit, .slice x.gA x.gs.length x.gc, .slice x.lA x.cl.length x.lc, .slice x.uA x.cu.length x.uc, .slice x.tA x.ts.length x.tc, .slice x.sA x.rs.length x.sc, .bool true] 56 (0, 0))) :
    Calls Tryz.prog 16 #[vP gm 0, vI o] w (qcu w x.cpus o (loadS x.sta o.toNat)) := by
 refine (JN2 Tryz.func16 11) ?_
 refine (JP∘Jp 2∘Jr∘Jp 2∘JL (h:=by exact fun L => qpa x gm o _ hok hf hsh (hx.old L) (L.oldBlk hm))) ?_
 rintro L _ w8 ⟨⟨a, e, rfl, hae⟩, hbw⟩
 refine ⟨_, rfl, _, L.call hbw, ?_⟩
 exact (Jx∘Jx∘Jp 2∘Jj∘JZ∘Jz2) fun L => by exact ⟨⟨a, e, rfl, hae⟩, L.below⟩
theorem qws {cp : Int} {cr gc : Nat} {gA : Option Addr} {gs : List Gr} (hf : gs.length ≤ 1000000) : StFew (⟨cp, cr, gA, gc, gs, none, 0, [], none, 0, [], none, 0, [], none, 0, []⟩ : Stm) := ⟨hf, Nat.zero_le _, Nat.zero_le _, Nat.zero_le _, Nat.zero_le _, fun y hy => by cases hy⟩
theorem qx0 {w : World} {cp : Int} {cr gc : Nat} {gA : Option Addr} {gs : List Gr} (hr : Rd w w.heap.size 2 gA gs.length (gs.flatMap grL)) : StRd w (⟨cp, cr, gA, gc, gs, none, 0, [], none, 0, [], none, 0, [], none, 0, []⟩ : Stm) := ⟨hr, Rd.nil, Rd.nil, Rd.nil, Rd.nil, fun y hy => by cases hy⟩
theorem qx1 {W w : World} {F : List Fact} {rz : List Sp} {cr gc cs g11 g14 : Nat} {gA As : Option Addr} {gs : List Gr} {z : List Rw} (L : Mem W w F) (hr : Rd W W.heap.size 2 gA gs.length (gs.flatMap grL)) {q : Nat} (hq : z.length = q) (i j k n : Nat) (h1 : F[i]? = some (.row (.slice (some ⟨g11, 0, none⟩) rz.length rz.length) rz.length ((List.replicate rz.length (0 : Int)).map I64i) 3 1)) (h2 : F[j]? = some (.row (.slice (some ⟨g14, 0, none⟩) rz.length rz.length) rz.length ((List.replicate rz.length (0 : Int)).map I64i) 3 1)) (h3 : F[k]? = some (.row (.slice As q cs) q (z.map Rw.val) 63 1)) (h4 : F.drop n = rwF 83 z) : StRd w (⟨(rz.length : Int), cr, gA, gc, gs, some ⟨g11, 0, none⟩, rz.length, (List.replicate rz.length (0 : Int)), some ⟨g14, 0, none⟩, rz.length, (List.replicate rz.length (0 : Int)), none, 0, [], As, cs, z⟩ : Stm) :=
 ⟨L.old hr, by show Rd w _ 1 _ (List.length _) _; rw [List.length_replicate]; exact L.rd h1, by show Rd w _ 1 _ (List.length _) _; rw [List.length_replicate]; exact L.rd h2, Rd.nil, by show Rd w _ 1 _ z.length _; rw [hq]; exact L.rd h3, fun y hy => L.rdMem (List.mem_of_mem_drop (h4 ▸ qq2 hy))⟩
theorem qwt {rz : List Sp} {cr gc cs g11 g14 : Nat} {gA As : Option Addr} {gs : List Gr} {z : List Rw} (hr : List.replicate rz.length Sp.zero = rz) (hk : z.length = gs.length) (hz : ∀ q ∈ z, q.l = rz) : (⟨(rz.length : Int), cr, gA, gc, gs, some ⟨g11, 0, none⟩, rz.length, (List.replicate rz.length (0 : Int)), some ⟨g14, 0, none⟩, rz.length, (List.replicate rz.length (0 : Int)), none, 0, [], As, cs, z⟩ : Stm).sta = newS (rz.length : Int) cr gs := by
 have h1 : z.map Rw.l = List.replicate gs.length rz := by
  rw [List.eq_replicate_iff]
  refine ⟨by rw [List.length_map]; exact hk, fun b hb => ?_⟩
  obtain ⟨q, hq, rfl⟩ := List.mem_map.1 hb
  exact hz q hq
 unfold Stm.sta newS
 dsimp only
 rw [h1, Int.toNat_natCast, hr]
theorem qwu (cp : Int) (cr : Nat) (gA : Option Addr) (gc : Nat) (gs : List Gr) (w : World) (hok : (⟨cp, cr, gA, gc, gs, none, 0, [], none, 0, [], none, 0, [], none, 0, []⟩ : Stm).sta.Ok) (hf : gs.length ≤ 1000000) (hr : Rd w w.heap.size 2 gA gs.length (gs.flatMap grL)) :
    Calls Tryz.prog 7 #[.agg #[vI cp, vQ cr, .slice gA gs.length gc]] w (NewIs w (cfgOk (⟨cp, cr, gA, gc, gs, none, 0, [], none, 0, [], none, 0, [], none, 0, []⟩ : Stm).sta) (newS cp cr gs)) := by
 have hocr := hok.credit
 refine (JN1 Tryz.func7 34) ?_
 refine (JP∘JE) fun w1 g1 => (Jp 2∘Jj∘JQ∘JP∘Jy (v := .agg #[vI cp, vQ cr, .slice gA gs.length gc]) (h:=by exact Yl.loadS rfl rfl zq rfl (fun _ h => qa (h.blk (i := 0) rfl)))∘JI (h:=by exact fun L => qcn (⟨cp, cr, gA, gc, gs, none, 0, [], none, 0, [], none, 0, [], none, 0, []⟩ : Stm) hok (qws hf) _ (qx0 (L.old hr)))) fun w6 hbw => (Jp 1∘Jd2∘Jj) (Ju (fun hb7 => ?_) fun hb7 => ?_)
 ·
  exact (JT∘JP∘Jp 2∘Jj∘JZ∘Jz2) fun L => qun (by simpa using hb7) L.below
 intro a I L
 obtain ⟨hcp1, hcp2, _, hgs⟩ := zj (x := (⟨cp, cr, gA, gc, gs, none, 0, [], none, 0, [], none, 0, [], none, 0, []⟩ : Stm)) (by simpa using hb7)
 replace hcp1 : 1 ≤ cp := hcp1; replace hcp2 : cp ≤ 64 := hcp2; replace hgs : gsOk gs = true := hgs
 have hgl := (qo hgs).2.1
 have hcfg : cfgOk (⟨cp, cr, gA, gc, gs, none, 0, [], none, 0, [], none, 0, [], none, 0, []⟩ : Stm).sta = true := by simpa using hb7
 obtain ⟨rz, hrz0⟩ : ∃ l : List Sp, List.replicate cp.toNat Sp.zero = l := ⟨_, rfl⟩
 revert L; revert a; repeat (first | clear I | clear L)
 intro a I L
 obtain rfl : cp = (rz.length : Int) := by rw [← hrz0, List.length_replicate]; omega
 have hrz : List.replicate rz.length Sp.zero = rz := hrz0
 refine Jb I L ((JF∘JS') fun a I L => ?_)
 refine wp_seq ?_
 refine Jb I L ((Vs .n [9]) fun wd3 => fun a I L HS => ?_)
 refine qu (f := 0) (l := (bt 10 [])) (fun aS wS => ∃ (g11 : Nat) (g14 : Nat) (g4 : Nat), Fr aS 34 [] [(4, vP g4 0), (7, .bool false), (3, vI 0), (2, .pointer none), (1, vP g1 0), (0, .agg #[vI rz.length, vQ cr, .slice gA gs.length gc])] ∧ Mem w wS [.blk g4 #[vI rz.length, vQ cr, .slice gA gs.length gc, vS g11 rz.length rz.length, vS g14 rz.length rz.length, vN, vN] 45, .row (vS g14 rz.length rz.length) rz.length ((madeCells #[vI 0] (rz.length * 1)).toList) 3 1, .row (vS g11 rz.length rz.length) rz.length ((madeCells #[vI 0] (rz.length * 1)).toList) 3 1, .blk g1 #[vI rz.length, vQ cr, .slice gA gs.length gc] 33]) ?_ fun M3_0 => ?_
 ·
  clear I L HS; rintro a wM ⟨g11, g14, g4, I, L⟩
  refine qb kr ?_
  rw [qk1] at L
  replace L := L.nil 63 1
  replace L := L.newTail 83 3
  replace L : Mem w _ (.row (vN) 0 [] 63 1 :: .blk g4 #[vI rz.length, vQ cr, .slice gA gs.length gc, vS g11 rz.length rz.length, vS g14 rz.length rz.length, vN, vN] 45 :: .row (vS g14 rz.length rz.length) rz.length ((List.replicate rz.length (0 : Int)).map I64i) 3 1 :: .row (vS g11 rz.length rz.length) rz.length ((List.replicate rz.length (0 : Int)).map I64i) 3 1 :: .blk g1 #[vI rz.length, vQ cr, .slice gA gs.length gc] 33 :: rwF 83 []) := L
  refine Jb I L ((JQ∘JP∘Jg 2 O4∘Jl∘Jp 1∘Jj∘JB) fun a I L => ?_)
  refine qg (fun mS aS wS => ∃ (k : Nat) (z : List Rw) (As : Option Addr) (cs : Nat), (k ≤ gs.length) ∧ (z.length = k) ∧ (∀ q ∈ z, q.l = rz) ∧ (k ≤ cs) ∧ mS = gs.length - k ∧ Fr aS 34 [] [(19, vI k), (18, vI gs.length), (4, vP g4 0), (7, .bool false), (3, vI 0), (2, .pointer none), (1, vP g1 0)] ∧ Mem w wS (.row (.slice As k cs) k (z.map Rw.val) 63 1 :: .blk g4 #[vI rz.length, vQ cr, .slice gA gs.length gc, vS g11 rz.length rz.length, vS g14 rz.length rz.length, vN, .slice As k cs] 45 :: .row (vS g14 rz.length rz.length) rz.length ((List.replicate rz.length (0 : Int)).map I64i) 3 1 :: .row (vS g11 rz.length rz.length) rz.length ((List.replicate rz.length (0 : Int)).map I64i) 3 1 :: .blk g1 #[vI rz.length, vQ cr, .slice gA gs.length gc] 33 :: rwF 83 z)) (m := gs.length - 0) ⟨0, [], none, 0, Nat.zero_le _, rfl, (fun q h => by cases h), Nat.le_refl _, rfl, I.sub kr, L.pt 5 [0, 1, 2, 3, 4]⟩ ?_
  clear I L; rintro mS a w_ ⟨k, z, As, cs, hk, hzl, hz, hcs, rfl, I, L⟩
  refine Jb I L ((JP∘Jp 1∘Jj∘JQ) (Ju (fun hb20 => ?_) fun hb20 => ?_))
  ·
   intro a I L
   have hd20 := of_decide_eq_true hb20
   refine Jb I L ((JT∘JS'∘JQ∘JB∘Vs (.f .n) [8]) fun wd6 => (Vf 0 6∘Vf 2 0∘Vc 1 O0∘Vc 3 O3) fun a I L HS => ?_)
   refine s_on I 4 rfl ?_
   refine z3 I L (m := rz.length) rfl ei_sp rfl rfl om om rfl de ?_
   clear I L; intro a w25 g25 I L
   refine keepS (L.pt 6 [2, 3, 4, 5]) (fun HS => ?_)
   refine s_on I 5 rfl (s_el I L ei_rw [(0, vS g25 rz.length rz.length)] #[vS g25 rz.length rz.length] ?_)
   clear I L; intro a w26 g26 I L
   refine keepS (L.pt 7 [3, 4, 5, 6]) (fun HS => ?_)
   refine s_on I 6 rfl (q6 I L (i := 2) rfl ei_rw rfl rfl rfl (news := ([(⟨some ⟨g25, 0, none⟩, rz.length, rz⟩ : Rw)].map Rw.val)) (L.rdBlk (i := 0) (n := 1) (size := 1) rfl rfl) (qnb _) om om rfl de ?_)
   clear I L; intro a w27 A27 c27 I L hc27
   refine keepS (L.pt 7 [3, 4, 5, 6]) (fun HS => ?_)
   refine Vb I L HS ((Vf 7 6) fun a I L HS => ?_)
   refine s_on I 8 rfl (s_es I L 3 ?_)
   clear L; intro w6_8 L
   refine noS kr ?_
   refine qb kr ?_
   replace L := L.asRow (i := 1) (ys := rz.flatMap spL) rfl ((qsh _).trans (by rw [hrz]))
   replace L := L.asRow (i := 2) (ys := (z ++ [(⟨some ⟨g25, 0, none⟩, rz.length, rz⟩ : Rw)]).map Rw.val) rfl (by rw [List.map_append])
   replace L := L.pt (fs' := (.row (vS g25 rz.length rz.length) rz.length (rz.flatMap spL) 83 3 :: .row (.slice A27 (k + 1) c27) (k + 1) ((z ++ [(⟨some ⟨g25, 0, none⟩, rz.length, rz⟩ : Rw)]).map Rw.val) 63 1 :: .blk g4 #[vI rz.length, vQ cr, .slice gA gs.length gc, vS g11 rz.length rz.length, vS g14 rz.length rz.length, vN, .slice A27 (k + 1) c27] 45 :: .row (vS g14 rz.length rz.length) rz.length ((List.replicate rz.length (0 : Int)).map I64i) 3 1 :: .row (vS g11 rz.length rz.length) rz.length ((List.replicate rz.length (0 : Int)).map I64i) 3 1 :: .blk g1 #[vI rz.length, vQ cr, .slice gA gs.length gc] 33 :: rwF 83 z)) 7 [1, 2, 3, 4, 5, 6]
   replace L := Mem.toRw (fs := [.row (.slice A27 (k + 1) c27) (k + 1) ((z ++ [(⟨some ⟨g25, 0, none⟩, rz.length, rz⟩ : Rw)]).map Rw.val) 63 1, .blk g4 #[vI rz.length, vQ cr, .slice gA gs.length gc, vS g11 rz.length rz.length, vS g14 rz.length rz.length, vN, .slice A27 (k + 1) c27] 45, .row (vS g14 rz.length rz.length) rz.length ((List.replicate rz.length (0 : Int)).map I64i) 3 1, .row (vS g11 rz.length rz.length) rz.length ((List.replicate rz.length (0 : Int)).map I64i) 3 1, .blk g1 #[vI rz.length, vQ cr, .slice gA gs.length gc] 33]) L
   replace L : Mem w _ (.row (.slice A27 (k + 1) c27) (k + 1) ((z ++ [(⟨some ⟨g25, 0, none⟩, rz.length, rz⟩ : Rw)]).map Rw.val) 63 1 :: .blk g4 #[vI rz.length, vQ cr, .slice gA gs.length gc, vS g11 rz.length rz.length, vS g14 rz.length rz.length, vN, .slice A27 (k + 1) c27] 45 :: .row (vS g14 rz.length rz.length) rz.length ((List.replicate rz.length (0 : Int)).map I64i) 3 1 :: .row (vS g11 rz.length rz.length) rz.length ((List.replicate rz.length (0 : Int)).map I64i) 3 1 :: .blk g1 #[vI rz.length, vQ cr, .slice gA gs.length gc] 33 :: rwF 83 (z ++ [(⟨some ⟨g25, 0, none⟩, rz.length, rz⟩ : Rw)])) := L
   refine Jb I L ((JG∘JR∘JaK 1∘Jp 1∘Jd6∘Jq) fun a I L => ?_)
   exact ⟨_, om, k + 1, (z ++ [(⟨some ⟨g25, 0, none⟩, rz.length, rz⟩ : Rw)]), A27, c27, by omega, by rw [List.length_append, hzl]; rfl, fun q h => (List.mem_append.1 h).elim (hz q) (fun h => by rw [List.mem_singleton] at h; subst h; rfl), hc27, rfl, I.sub kr, L.pt 5 [0, 1, 2, 3, 4]⟩
  intro a I L
  have hd20 := of_decide_eq_false hb20
  have hkg : z.length = gs.length := by omega
  refine Jb I L ((JF∘JX∘JG∘JP∘Jy (v := .agg #[vI rz.length, vQ cr, .slice gA gs.length gc, vS g11 rz.length rz.length, vS g14 rz.length rz.length, vN, .slice As k cs]) (h:=by exact Yl.loadS rfl rfl si_st rfl (fun _ h => qa (h.blk (i := 1) rfl)))∘Jo (.agg ((⟨(rz.length : Int), cr, gA, gc, gs, some ⟨g11, 0, none⟩, rz.length, (List.replicate rz.length (0 : Int)), some ⟨g14, 0, none⟩, rz.length, (List.replicate rz.length (0 : Int)), none, 0, [], As, cs, z⟩ : Stm).cells)) (by unfold Stm.cells; rw [List.length_replicate, hzl]; try rfl)∘JL (h:=by exact fun L => qh8 (⟨(rz.length : Int), cr, gA, gc, gs, some ⟨g11, 0, none⟩, rz.length, (List.replicate rz.length (0 : Int)), some ⟨g14, 0, none⟩, rz.length, (List.replicate rz.length (0 : Int)), none, 0, [], As, cs, z⟩ : Stm) _ (qx1 L hr hzl 3 2 0 5 rfl rfl rfl rfl) (⟨hf, by rw [List.length_replicate]; omega, by rw [List.length_replicate]; omega, Nat.zero_le _, by show z.length ≤ 1000000; omega, fun q hq => by rw [hz q hq]; omega⟩))) ?_)
  rintro L _ w31 ⟨y, rfl, heq, hcap, hm⟩
  refine ⟨_, rfl, _, (Mem.alone L hm), ?_⟩
  exact (Jy (v := .agg #[vI y.cpus, vQ y.credit, .slice y.gA y.gs.length y.gc, .slice y.lA y.cl.length y.lc, .slice y.uA y.cu.length y.uc, .slice y.tA y.ts.length y.tc, .slice y.sA y.rs.length y.sc, .bool true]) (h:=by exact Yl.build (vs := [(0, .agg y.cells), (1, .bool true)]) rfl kr kr)∘JE) fun w33 g33 => (Jp 2∘Jj∘JZ∘Jz2) fun L => qsf (y := y) hcfg ((qfk heq).trans (qwt hrz hkg hz)) (L.pt 1 [0])
 refine qu (f := 2) (l := (bt 10 [7, 9])) (fun aS wS => ∃ (g11 : Nat) (g4 : Nat) (g14 : Nat), Fr aS 34 [] [(14, vS g14 rz.length rz.length), (4, vP g4 0), (11, vS g11 rz.length rz.length), (8, .agg #[vI rz.length, vQ cr, .slice gA gs.length gc]), (7, .bool false), (3, vI 0), (2, .pointer none), (1, vP g1 0), (0, .agg #[vI rz.length, vQ cr, .slice gA gs.length gc])] ∧ Mem w wS [.row (vS g14 rz.length rz.length) rz.length ((madeCells #[vI 0] (rz.length * 1)).toList) 3 1, .blk g4 #[vI 0, vQ 0, vN, vN, vN, vN, vN] 45, .row (vS g11 rz.length rz.length) rz.length ((madeCells #[vI 0] (rz.length * 1)).toList) 3 1, .blk g1 #[vI rz.length, vQ cr, .slice gA gs.length gc] 33]) ?_ fun M3_1 => ?_
 ·
  clear I L HS; rintro a wM ⟨g11, g4, g14, I, L⟩
  have HS := L.pk (fs' := [.blk g1 #[vI rz.length, vQ cr, .slice gA gs.length gc] 33]) [3]
  refine Vb I L HS ((Vy 7 (v := .agg #[vI rz.length, vQ cr, .slice gA gs.length gc, vS g11 rz.length rz.length, vS g14 rz.length rz.length, vN, vN]) (h:=by exact Yl.build (vs := [(0, .agg #[vI rz.length, vQ cr, .slice gA gs.length gc]), (1, vS g11 rz.length rz.length), (2, vS g14 rz.length rz.length)]) rfl kr kr)) fun a I L HS => ?_)
  refine s_on I 9 rfl (e_sa I L 1 rfl rfl rfl rfl rfl si_st rfl rfl (by simp [Value.oneCell']) ?_)
  clear L; intro w3_9 L
  refine noS kr ?_
  exact M3_0 _ _ ⟨g11, g14, g4, I.sub kr, L.pk [1, 0, 2, 3]⟩
 refine qu (f := 3) (l := (bt 10 [7, 8, 9])) (fun aS wS => ∃ (g11 : Nat) (g14 : Nat), Fr aS 34 [] [(14, vS g14 rz.length rz.length), (11, vS g11 rz.length rz.length), (8, .agg #[vI rz.length, vQ cr, .slice gA gs.length gc]), (7, .bool false), (3, vI 0), (2, .pointer none), (1, vP g1 0), (0, .agg #[vI rz.length, vQ cr, .slice gA gs.length gc])] ∧ Mem w wS [.row (vS g14 rz.length rz.length) rz.length ((madeCells #[vI 0] (rz.length * 1)).toList) 3 1, .row (vS g11 rz.length rz.length) rz.length ((madeCells #[vI 0] (rz.length * 1)).toList) 3 1, .blk g1 #[vI rz.length, vQ cr, .slice gA gs.length gc] 33]) ?_ fun M3_2 => ?_
 ·
  clear I L HS; rintro a wM ⟨g11, g14, I, L⟩
  have HS := L.pk (fs' := [.blk g1 #[vI rz.length, vQ cr, .slice gA gs.length gc] 33]) [2]
  refine Vb I L HS ((Vy 7 (v := .agg #[vI rz.length, vQ cr, .slice gA gs.length gc, vS g11 rz.length rz.length, vS g14 rz.length rz.length, vN, vN]) (h:=by exact Yl.build (vs := [(0, .agg #[vI rz.length, vQ cr, .slice gA gs.length gc]), (1, vS g11 rz.length rz.length), (2, vS g14 rz.length rz.length)]) rfl kr kr)∘VA 8 (.f (.f .n)) #[vI 0, vQ 0, vN, vN, vN, vN, vN]) fun w4 g4 => fun a I L HS => ?_)
  refine s_on I 9 rfl (e_sa I L 0 rfl rfl rfl rfl rfl si_st rfl rfl (by simp [Value.oneCell']) ?_)
  clear L; intro w3_9 L
  refine noS kr ?_
  exact M3_0 _ _ ⟨g11, g14, g4, I.sub kr, L.pk [0, 1, 2, 3]⟩
 refine qu (f := 3) (l := (bt 10 [6, 7, 9])) (fun aS wS => ∃ (g11 : Nat) (g4 : Nat), Fr aS 34 [] [(4, vP g4 0), (11, vS g11 rz.length rz.length), (13, vI rz.length), (8, .agg #[vI rz.length, vQ cr, .slice gA gs.length gc]), (7, .bool false), (3, vI 0), (2, .pointer none), (1, vP g1 0), (0, .agg #[vI rz.length, vQ cr, .slice gA gs.length gc])] ∧ Mem w wS [.blk g4 #[vI 0, vQ 0, vN, vN, vN, vN, vN] 45, .row (vS g11 rz.length rz.length) rz.length ((madeCells #[vI 0] (rz.length * 1)).toList) 3 1, .blk g1 #[vI rz.length, vQ cr, .slice gA gs.length gc] 33]) ?_ fun M3_3 => ?_
 ·
  clear I L HS; rintro a wM ⟨g11, g4, I, L⟩
  have HS := L.pk (fs' := [.blk g1 #[vI rz.length, vQ cr, .slice gA gs.length gc] 33]) [2]
  refine s_on I 6 rfl ?_
  refine z3 I L (m := rz.length) rfl zo rfl rfl om om rfl de ?_
  clear I L; intro a w14 g14 I L
  refine keepS (L.pk [3]) (fun HS => ?_)
  exact M3_1 _ _ ⟨g11, g4, g14, I.sub kr, L.pk [0, 1, 2, 3]⟩
 refine qu (f := 3) (l := (bt 10 [3, 7, 9])) (fun aS wS => ∃ (g14 : Nat) (g4 : Nat), Fr aS 34 [] [(4, vP g4 0), (14, vS g14 rz.length rz.length), (10, vI rz.length), (8, .agg #[vI rz.length, vQ cr, .slice gA gs.length gc]), (7, .bool false), (3, vI 0), (2, .pointer none), (1, vP g1 0), (0, .agg #[vI rz.length, vQ cr, .slice gA gs.length gc])] ∧ Mem w wS [.blk g4 #[vI 0, vQ 0, vN, vN, vN, vN, vN] 45, .row (vS g14 rz.length rz.length) rz.length ((madeCells #[vI 0] (rz.length * 1)).toList) 3 1, .blk g1 #[vI rz.length, vQ cr, .slice gA gs.length gc] 33]) ?_ fun M3_4 => ?_
 ·
  clear I L HS; rintro a wM ⟨g14, g4, I, L⟩
  have HS := L.pk (fs' := [.blk g1 #[vI rz.length, vQ cr, .slice gA gs.length gc] 33]) [2]
  refine s_on I 3 rfl ?_
  refine z3 I L (m := rz.length) rfl zo rfl rfl om om rfl de ?_
  clear I L; intro a w11 g11 I L
  refine keepS (L.pk [3]) (fun HS => ?_)
  exact M3_1 _ _ ⟨g11, g4, g14, I.sub kr, L.pk [2, 1, 0, 3]⟩
 refine Vb I L HS ((Vf 1 0∘Vf 4 0∘Vy 0 (v := .agg #[vI rz.length, vQ cr, .slice gA gs.length gc]) (h:=by exact Yl.loadS rfl rfl zq rfl (fun _ h => qa (h.blk (i := 0) rfl)))∘Vc 2 O0∘Vc 5 O0) fun a I L HS => ?_)
 refine qj [3, 6, 8] kr rfl ?_
 refine all_cons ?_ ?_
 ·refine qe I (i := 3) rfl rfl ?_
  refine z3 I L (m := rz.length) rfl zo rfl rfl om om rfl de ?_
  clear I L; intro a w11 g11 I L
  refine keepS (L.pk [1]) (fun HS => ?_)
  refine qj [6, 8] kr rfl ?_
  refine all_cons ?_ ?_
  ·refine qe I (i := 6) rfl rfl ?_
   refine z3 I L (m := rz.length) rfl zo rfl rfl om om rfl de ?_
   clear I L; intro a w14 g14 I L
   refine keepS (L.pk [2]) (fun HS => ?_)
   exact M3_2 _ _ ⟨g11, g14, I.sub kr, L.pk [0, 1, 2]⟩
  refine all_cons ?_ all_nil
  refine qe I (i := 8) rfl rfl ?_
  refine s_ea I L #[vI 0, vQ 0, vN, vN, vN, vN, vN] ?_
  clear I L; intro a w4 g4 I L
  refine keepS (L.pk [2]) (fun HS => ?_)
  exact M3_3 _ _ ⟨g11, g4, I.sub kr, L.pk [0, 1, 2]⟩
 refine all_cons ?_ ?_
 ·refine qe I (i := 6) rfl rfl ?_
  refine z3 I L (m := rz.length) rfl zo rfl rfl om om rfl de ?_
  clear I L; intro a w14 g14 I L
  refine keepS (L.pk [1]) (fun HS => ?_)
  refine qj [3, 8] kr rfl ?_
  refine all_cons ?_ ?_
  ·refine qe I (i := 3) rfl rfl ?_
   refine z3 I L (m := rz.length) rfl zo rfl rfl om om rfl de ?_
   clear I L; intro a w11 g11 I L
   refine keepS (L.pk [2]) (fun HS => ?_)
   exact M3_2 _ _ ⟨g11, g14, I.sub kr, L.pk [1, 0, 2]⟩
  refine all_cons ?_ all_nil
  refine qe I (i := 8) rfl rfl ?_
  refine s_ea I L #[vI 0, vQ 0, vN, vN, vN, vN, vN] ?_
  clear I L; intro a w4 g4 I L
  refine keepS (L.pk [2]) (fun HS => ?_)
  exact M3_4 _ _ ⟨g14, g4, I.sub kr, L.pk [0, 1, 2]⟩
 refine all_cons ?_ all_nil
 refine qe I (i := 8) rfl rfl ?_
 refine s_ea I L #[vI 0, vQ 0, vN, vN, vN, vN, vN] ?_
 clear I L; intro a w4 g4 I L
 refine keepS (L.pk [1]) (fun HS => ?_)
 refine qj [3, 6] kr rfl ?_
 refine all_cons ?_ ?_
 ·refine qe I (i := 3) rfl rfl ?_
  refine z3 I L (m := rz.length) rfl zo rfl rfl om om rfl de ?_
  clear I L; intro a w11 g11 I L
  refine keepS (L.pk [2]) (fun HS => ?_)
  exact M3_3 _ _ ⟨g11, g4, I.sub kr, L.pk [1, 0, 2]⟩
 refine all_cons ?_ all_nil
 refine qe I (i := 6) rfl rfl ?_
 refine z3 I L (m := rz.length) rfl zo rfl rfl om om rfl de ?_
 clear I L; intro a w14 g14 I L
 refine keepS (L.pk [2]) (fun HS => ?_)
 exact M3_4 _ _ ⟨g14, g4, I.sub kr, L.pk [1, 0, 2]⟩
theorem qwv (A : Option Addr) (c : Nat) (l : List Gr) (D : Option Addr) (c2 : Nat) (m : List Gr) (w : World) (hr : Rd w w.heap.size 2 A l.length (l.flatMap grL)) (hr2 : Rd w w.heap.size 2 D m.length (m.flatMap grL)) (hn : l.length ≤ 1000000) (hn2 : m.length ≤ 1000000) :
    Calls Tryz.prog 132 #[.slice A l.length c, .slice D m.length c2] w (Is w (.bool (decide (l = m)))) := by
 refine (JN2 Tryz.func132 26) ?_
 refine (JP∘Jp 1∘Jj∘JQ∘JP∘Jp 1∘Jl∘Jp 1∘Jl∘Jp 1∘Jd4∘Jj) (Ju (fun hb10 => ?_) fun hb10 => ?_)
 ·
  intro a I L
  have hd10 := bne_iff_ne.1 hb10
  exact Jb I L ((JT∘JP∘Jp 1∘Jj∘JZ∘Jz1) fun L => is_no (fun e => by rw [e] at hd10; exact hd10 rfl) L.below)
 intro a I L
 have hd10 := bne_eq_false_iff_eq.1 hb10
 have hlm : l.length = m.length := by omega
 refine Jb I L ((JF∘JS'∘JQ∘JP∘Jp 1∘Jj∘JB) fun a I L => ?_)
 refine qg (fun mS aS wS => ∃ (k : Nat), (k ≤ l.length) ∧ (∀ i, i < k → l.getD i Gr.zero = m.getD i Gr.zero) ∧ mS = l.length - k ∧ Fr aS 26 [] [(5, vI k), (10, .bool false), (4, .bool false), (0, .slice A l.length c), (1, .slice D m.length c2)] ∧ Mem w wS []) (m := l.length - 0) ⟨0, Nat.zero_le _, qeh, rfl, I.sub kr, L.pk []⟩ ?_
 clear I L; rintro mS a w_ ⟨k, hk, hu, rfl, I, L⟩
 refine Jb I L ((JQ∘JP∘Jp 2∘Jl∘Jp 1∘Jd3∘Jj) (Ju (fun hb14 => ?_) fun hb14 => ?_))
 ·
  intro a I L
  have hd14 := of_decide_eq_true hb14
  have hk1 : k < l.length := by omega
  have hk2 : k < m.length := by omega
  revert L; revert a; repeat (first | clear I | clear L)
  intro a I L
  obtain ⟨gA, oA, rfl, _⟩ := hr.qn (Nat.lt_of_le_of_lt (Nat.zero_le _) (show k < l.length from hk1)) de
  revert L; revert a; repeat (first | clear I | clear L)
  intro a I L
  obtain ⟨gD, oD, rfl, _⟩ := hr2.qn (Nat.lt_of_le_of_lt (Nat.zero_le _) (show k < m.length from hk2)) de
  refine Jb I L ((JT∘JS'∘JQ∘JB) fun a I L => ?_)
  refine wp_seq ?_
  refine Jb I L ((Vs .n []) fun wd6 => (Vp [0, 1, 4, 5]∘Vy 2 (h:=by exact Yl.ix gA oA k 2 rfl rfl rfl)∘Vy 3 (v := .agg ((l.getD k Gr.zero).cells)) (h:=by exact Yl.loadS rfl rfl si_gr rfl (fun _ h => (h.old hr).q8 q0 ((getD_at Gr.zero hk1))))∘Vy 6 (h:=by exact Yl.ix gD oD k 2 rfl rfl rfl)∘Vy 7 (v := .agg ((m.getD k Gr.zero).cells)) (h:=by exact Yl.loadS rfl rfl si_gr rfl (fun _ h => (h.old hr2).q8 q0 ((getD_at Gr.zero hk2))))∘Vy 8 (v := .bool (!(decide ((l.getD k Gr.zero) = (m.getD k Gr.zero))))) (h:=by exact Yl.qn6 rfl rfl rfl (qm3 (l.getD k Gr.zero) (m.getD k Gr.zero)))∘Vd∘Jd6) (Ji' (fun hd25 => ?_) fun hd25 => ?_))
  ·
   exact (JT∘JP∘Jp 1∘Jj∘JZ∘Jz1) fun L => is_no (fun e => hd25 (by rw [e])) L.below
  refine (JF∘JS'∘JR∘Jp 1∘JaK 1∘Jp 1∘Jd2∘Jq) fun a I L => ?_
  exact ⟨_, om, k + 1, by omega, qei hu (hd25), rfl, I.sub kr, L.pk []⟩
 intro a I L
 have hd14 := of_decide_eq_false hb14
 exact Jb I L ((JF∘JX∘JG∘JP∘Jp 1∘Jj∘JZ∘Jz1) fun L => qec (qeg Gr.zero hlm (fun i hi => hu i om)) L.below)
theorem qnw (A : Option Addr) (c : Nat) (l : List Int) (D : Option Addr) (c2 : Nat) (m : List Int) (w : World) (hr : Rd w w.heap.size 1 A l.length (l.map I64i)) (hr2 : Rd w w.heap.size 1 D m.length (m.map I64i)) (hn : l.length ≤ 1000000) (hn2 : m.length ≤ 1000000) :
    Calls Tryz.prog 59 #[.slice A l.length c, .slice D m.length c2] w (Is w (.bool (decide (l = m)))) := by
 refine (JN2 Tryz.func59 26) ?_
 refine (JP∘Jp 1∘Jj∘JQ∘JP∘Jp 1∘Jl∘Jp 1∘Jl∘Jp 1∘Jd4∘Jj) (Ju (fun hb10 => ?_) fun hb10 => ?_)
 ·
  intro a I L
  have hd10 := bne_iff_ne.1 hb10
  exact Jb I L ((JT∘JP∘Jp 1∘Jj∘JZ∘Jz1) fun L => is_no (fun e => by rw [e] at hd10; exact hd10 rfl) L.below)
 intro a I L
 have hd10 := bne_eq_false_iff_eq.1 hb10
 have hlm : l.length = m.length := by omega
 refine Jb I L ((JF∘JS'∘JQ∘JP∘Jp 1∘Jj∘JB) fun a I L => ?_)
 refine qg (fun mS aS wS => ∃ (k : Nat), (k ≤ l.length) ∧ (∀ i, i < k → l.getD i 0 = m.getD i 0) ∧ mS = l.length - k ∧ Fr aS 26 [] [(5, vI k), (10, .bool false), (4, .bool false), (0, .slice A l.length c), (1, .slice D m.length c2)] ∧ Mem w wS []) (m := l.length - 0) ⟨0, Nat.zero_le _, qeh, rfl, I.sub kr, L.pk []⟩ ?_
 clear I L; rintro mS a w_ ⟨k, hk, hu, rfl, I, L⟩
 refine Jb I L ((JQ∘JP∘Jp 2∘Jl∘Jp 1∘Jd3∘Jj) (Ju (fun hb14 => ?_) fun hb14 => ?_))
 ·
  intro a I L
  have hd14 := of_decide_eq_true hb14
  have hk1 : k < l.length := by omega
  have hk2 : k < m.length := by omega
  revert L; revert a; repeat (first | clear I | clear L)
  intro a I L
  obtain ⟨gA, oA, rfl, _⟩ := hr.qn (Nat.lt_of_le_of_lt (Nat.zero_le _) (show k < l.length from hk1)) de
  revert L; revert a; repeat (first | clear I | clear L)
  intro a I L
  obtain ⟨gD, oD, rfl, _⟩ := hr2.qn (Nat.lt_of_le_of_lt (Nat.zero_le _) (show k < m.length from hk2)) de
  refine Jb I L ((JT∘JS'∘JQ∘JB) fun a I L => ?_)
  refine wp_seq ?_
  refine Jb I L ((Vs .n []) fun wd6 => (Vp [0, 1, 4, 5]∘Vy 2 (h:=by exact Yl.ix gA oA k 1 rfl rfl rfl)∘Vy 3 (h:=by exact Yl.o1 hr k 0 hk1 rfl rfl)∘Vy 6 (h:=by exact Yl.ix gD oD k 1 rfl rfl rfl)∘Vy 7 (h:=by exact Yl.o1 hr2 k 0 hk2 rfl rfl)∘Vp [8]∘Vd∘Jd6) (Jh (fun hd25 => ?_) fun hd25 => ?_))
  ·
   exact (JT∘JP∘Jp 1∘Jj∘JZ∘Jz1) fun L => is_no (fun e => hd25 (by rw [e])) L.below
  refine (JF∘JS'∘JR∘Jp 1∘JaK 1∘Jp 1∘Jd2∘Jq) fun a I L => ?_
  exact ⟨_, om, k + 1, by omega, qei hu (hd25), rfl, I.sub kr, L.pk []⟩
 intro a I L
 have hd14 := of_decide_eq_false hb14
 exact Jb I L ((JF∘JX∘JG∘JP∘Jp 1∘Jj∘JZ∘Jz1) fun L => qec (qeg 0 hlm (fun i hi => hu i om)) L.below)
theorem qww (A : Option Addr) (c : Nat) (l : List Tk) (D : Option Addr) (c2 : Nat) (m : List Tk) (w : World) (hr : Rd w w.heap.size 8 A l.length (l.flatMap tkL)) (hr2 : Rd w w.heap.size 8 D m.length (m.flatMap tkL)) (hn : l.length ≤ 1000000) (hn2 : m.length ≤ 1000000) :
    Calls Tryz.prog 111 #[.slice A l.length c, .slice D m.length c2] w (Is w (.bool (decide (l = m)))) := by
 refine (JN2 Tryz.func111 26) ?_
 refine (JP∘Jp 1∘Jj∘JQ∘JP∘Jp 1∘Jl∘Jp 1∘Jl∘Jp 1∘Jd4∘Jj) (Ju (fun hb10 => ?_) fun hb10 => ?_)
 ·
  intro a I L
  have hd10 := bne_iff_ne.1 hb10
  exact Jb I L ((JT∘JP∘Jp 1∘Jj∘JZ∘Jz1) fun L => is_no (fun e => by rw [e] at hd10; exact hd10 rfl) L.below)
 intro a I L
 have hd10 := bne_eq_false_iff_eq.1 hb10
 have hlm : l.length = m.length := by omega
 refine Jb I L ((JF∘JS'∘JQ∘JP∘Jp 1∘Jj∘JB) fun a I L => ?_)
 refine qg (fun mS aS wS => ∃ (k : Nat), (k ≤ l.length) ∧ (∀ i, i < k → l.getD i Tk.zero = m.getD i Tk.zero) ∧ mS = l.length - k ∧ Fr aS 26 [] [(5, vI k), (10, .bool false), (4, .bool false), (0, .slice A l.length c), (1, .slice D m.length c2)] ∧ Mem w wS []) (m := l.length - 0) ⟨0, Nat.zero_le _, qeh, rfl, I.sub kr, L.pk []⟩ ?_
 clear I L; rintro mS a w_ ⟨k, hk, hu, rfl, I, L⟩
 refine Jb I L ((JQ∘JP∘Jp 2∘Jl∘Jp 1∘Jd3∘Jj) (Ju (fun hb14 => ?_) fun hb14 => ?_))
 ·
  intro a I L
  have hd14 := of_decide_eq_true hb14
  have hk1 : k < l.length := by omega
  have hk2 : k < m.length := by omega
  revert L; revert a; repeat (first | clear I | clear L)
  intro a I L
  obtain ⟨gA, oA, rfl, _⟩ := hr.qn (Nat.lt_of_le_of_lt (Nat.zero_le _) (show k < l.length from hk1)) de
  revert L; revert a; repeat (first | clear I | clear L)
  intro a I L
  obtain ⟨gD, oD, rfl, _⟩ := hr2.qn (Nat.lt_of_le_of_lt (Nat.zero_le _) (show k < m.length from hk2)) de
  refine Jb I L ((JT∘JS'∘JQ∘JB) fun a I L => ?_)
  refine wp_seq ?_
  refine Jb I L ((Vs .n []) fun wd6 => (Vp [0, 1, 4, 5]∘Vy 2 (h:=by exact Yl.ix gA oA k 8 rfl rfl rfl)∘Vy 3 (v := .agg ((l.getD k Tk.zero).cells)) (h:=by exact Yl.loadS rfl rfl si_tk rfl (fun _ h => (h.old hr).q8 qd ((getD_at Tk.zero hk1))))∘Vy 6 (h:=by exact Yl.ix gD oD k 8 rfl rfl rfl)∘Vy 7 (v := .agg ((m.getD k Tk.zero).cells)) (h:=by exact Yl.loadS rfl rfl si_tk rfl (fun _ h => (h.old hr2).q8 qd ((getD_at Tk.zero hk2))))∘Vy 8 (v := .bool (!(decide ((l.getD k Tk.zero) = (m.getD k Tk.zero))))) (h:=by exact Yl.qn6 rfl rfl rfl (qtz (l.getD k Tk.zero) (m.getD k Tk.zero)))∘Vd∘Jd6) (Ji' (fun hd25 => ?_) fun hd25 => ?_))
  ·
   exact (JT∘JP∘Jp 1∘Jj∘JZ∘Jz1) fun L => is_no (fun e => hd25 (by rw [e])) L.below
  refine (JF∘JS'∘JR∘Jp 1∘JaK 1∘Jp 1∘Jd2∘Jq) fun a I L => ?_
  exact ⟨_, om, k + 1, by omega, qei hu (hd25), rfl, I.sub kr, L.pk []⟩
 intro a I L
 have hd14 := of_decide_eq_false hb14
 exact Jb I L ((JF∘JX∘JG∘JP∘Jp 1∘Jj∘JZ∘Jz1) fun L => qec (qeg Tk.zero hlm (fun i hi => hu i om)) L.below)
theorem qwx (A : Option Addr) (c : Nat) (l : List Sp) (D : Option Addr) (c2 : Nat) (m : List Sp) (w : World) (hr : Rd w w.heap.size 3 A l.length (l.flatMap spL)) (hr2 : Rd w w.heap.size 3 D m.length (m.flatMap spL)) (hn : l.length ≤ 1000000) (hn2 : m.length ≤ 1000000) :
    Calls Tryz.prog 112 #[.slice A l.length c, .slice D m.length c2] w (Is w (.bool (decide (l = m)))) := by
 refine (JN2 Tryz.func112 26) ?_
 refine (JP∘Jp 1∘Jj∘JQ∘JP∘Jp 1∘Jl∘Jp 1∘Jl∘Jp 1∘Jd4∘Jj) (Ju (fun hb10 => ?_) fun hb10 => ?_)
 ·
  intro a I L
  have hd10 := bne_iff_ne.1 hb10
  exact Jb I L ((JT∘JP∘Jp 1∘Jj∘JZ∘Jz1) fun L => is_no (fun e => by rw [e] at hd10; exact hd10 rfl) L.below)
 intro a I L
 have hd10 := bne_eq_false_iff_eq.1 hb10
 have hlm : l.length = m.length := by omega
 refine Jb I L ((JF∘JS'∘JQ∘JP∘Jp 1∘Jj∘JB) fun a I L => ?_)
 refine qg (fun mS aS wS => ∃ (k : Nat), (k ≤ l.length) ∧ (∀ i, i < k → l.getD i Sp.zero = m.getD i Sp.zero) ∧ mS = l.length - k ∧ Fr aS 26 [] [(5, vI k), (10, .bool false), (4, .bool false), (0, .slice A l.length c), (1, .slice D m.length c2)] ∧ Mem w wS []) (m := l.length - 0) ⟨0, Nat.zero_le _, qeh, rfl, I.sub kr, L.pk []⟩ ?_
 clear I L; rintro mS a w_ ⟨k, hk, hu, rfl, I, L⟩
 refine Jb I L ((JQ∘JP∘Jp 2∘Jl∘Jp 1∘Jd3∘Jj) (Ju (fun hb14 => ?_) fun hb14 => ?_))
 ·
  intro a I L
  have hd14 := of_decide_eq_true hb14
  have hk1 : k < l.length := by omega
  have hk2 : k < m.length := by omega
  revert L; revert a; repeat (first | clear I | clear L)
  intro a I L
  obtain ⟨gA, oA, rfl, _⟩ := hr.qn (Nat.lt_of_le_of_lt (Nat.zero_le _) (show k < l.length from hk1)) de
  revert L; revert a; repeat (first | clear I | clear L)
  intro a I L
  obtain ⟨gD, oD, rfl, _⟩ := hr2.qn (Nat.lt_of_le_of_lt (Nat.zero_le _) (show k < m.length from hk2)) de
  refine Jb I L ((JT∘JS'∘JQ∘JB) fun a I L => ?_)
  refine wp_seq ?_
  refine Jb I L ((Vs .n []) fun wd6 => (Vp [0, 1, 4, 5]∘Vy 2 (h:=by exact Yl.ix gA oA k 3 rfl rfl rfl)∘Vy 3 (v := .agg ((l.getD k Sp.zero).cells)) (h:=by exact Yl.loadS rfl rfl si_sp rfl (fun _ h => (h.old hr).q8 z8 ((getD_at Sp.zero hk1))))∘Vy 6 (h:=by exact Yl.ix gD oD k 3 rfl rfl rfl)∘Vy 7 (v := .agg ((m.getD k Sp.zero).cells)) (h:=by exact Yl.loadS rfl rfl si_sp rfl (fun _ h => (h.old hr2).q8 z8 ((getD_at Sp.zero hk2))))∘Vy 8 (v := .bool (!(decide ((l.getD k Sp.zero) = (m.getD k Sp.zero))))) (h:=by exact Yl.qn6 rfl rfl rfl (qt0 (l.getD k Sp.zero) (m.getD k Sp.zero)))∘Vd∘Jd6) (Ji' (fun hd25 => ?_) fun hd25 => ?_))
  ·
   exact (JT∘JP∘Jp 1∘Jj∘JZ∘Jz1) fun L => is_no (fun e => hd25 (by rw [e])) L.below
  refine (JF∘JS'∘JR∘Jp 1∘JaK 1∘Jp 1∘Jd2∘Jq) fun a I L => ?_
  exact ⟨_, om, k + 1, by omega, qei hu (hd25), rfl, I.sub kr, L.pk []⟩
 intro a I L
 have hd14 := of_decide_eq_false hb14
 exact Jb I L ((JF∘JX∘JG∘JP∘Jp 1∘Jj∘JZ∘Jz1) fun L => qec (qeg Sp.zero hlm (fun i hi => hu i om)) L.below)
theorem qma (A : Option Addr) (c : Nat) (l : List Gr) (D : Option Addr) (c2 : Nat) (m : List Gr) (w : World) (hr : Rd w w.heap.size 2 A l.length (l.flatMap grL)) (hr2 : Rd w w.heap.size 2 D m.length (m.flatMap grL)) (hn : l.length ≤ 1000000) (hn2 : m.length ≤ 1000000) :
    Calls Tryz.prog 110 #[.slice A l.length c, .slice D m.length c2] w (Is w (.bool (decide (l = m)))) := by
 refine (JN2 Tryz.func110 8) ?_
 refine (JP∘Jp 1∘Jr∘Jp 2∘JL (h:=by exact fun L => qwv A c l D c2 m _ (L.old hr) (L.old hr2) hn hn2)) ?_
 rintro L _ w7 ⟨rfl, hbw⟩
 refine ⟨_, rfl, _, L.call hbw, ?_⟩
 exact (Jp 1∘Jd3∘Jj∘JZ) JY1
theorem qpb (A : Option Addr) (c : Nat) (l : List Tk) (D : Option Addr) (c2 : Nat) (m : List Tk) (w : World) (hr : Rd w w.heap.size 8 A l.length (l.flatMap tkL)) (hr2 : Rd w w.heap.size 8 D m.length (m.flatMap tkL)) (hn : l.length ≤ 1000000) (hn2 : m.length ≤ 1000000) :
    Calls Tryz.prog 60 #[.slice A l.length c, .slice D m.length c2] w (Is w (.bool (decide (l = m)))) := by
 refine (JN2 Tryz.func60 8) ?_
 refine (JP∘Jp 1∘Jr∘Jp 2∘JL (h:=by exact fun L => qww A c l D c2 m _ (L.old hr) (L.old hr2) hn hn2)) ?_
 rintro L _ w7 ⟨rfl, hbw⟩
 refine ⟨_, rfl, _, L.call hbw, ?_⟩
 exact (Jp 1∘Jd3∘Jj∘JZ) JY1
theorem qpc (A : Option Addr) (c : Nat) (l : List Sp) (D : Option Addr) (c2 : Nat) (m : List Sp) (w : World) (hr : Rd w w.heap.size 3 A l.length (l.flatMap spL)) (hr2 : Rd w w.heap.size 3 D m.length (m.flatMap spL)) (hn : l.length ≤ 1000000) (hn2 : m.length ≤ 1000000) :
    Calls Tryz.prog 61 #[.slice A l.length c, .slice D m.length c2] w (Is w (.bool (decide (l = m)))) := by
 refine (JN2 Tryz.func61 8) ?_
 refine (JP∘Jp 1∘Jr∘Jp 2∘JL (h:=by exact fun L => qwx A c l D c2 m _ (L.old hr) (L.old hr2) hn hn2)) ?_
 rintro L _ w7 ⟨rfl, hbw⟩
 refine ⟨_, rfl, _, L.call hbw, ?_⟩
 exact (Jp 1∘Jd3∘Jj∘JZ) JY1
theorem qmb (s z : Stm) (w : World) (hx : StRd w s) (hz : StRd w z) (hf : StFew s) (hg : StFew z) :
    Calls Tryz.prog 58 #[.agg #[vI s.cpus, vQ (s.credit : Int), .slice s.gA s.gs.length s.gc], .agg #[vI z.cpus, vQ (z.credit : Int), .slice z.gA z.gs.length z.gc]] w (Is w (.bool (decide (CfgEq s z)))) := by
 refine (JN2 Tryz.func58 24) ?_
 refine (JP∘JE) fun w2 g2 => (JE) fun w3 g3 => (Jp 1∘Jr∘Jg 0 O1∘Jg 0 O0∘Jp 2) (Je (fun hd10 => ?_) fun hd10 => ?_)
 ·
  refine (Jg 1 O1∘Jg 1 O0∘Jp 3) (Je (fun hd17 => ?_) fun hd17 => ?_)
  ·
   refine (Jg 2 O1∘Jg 2 O0∘JL (h:=by exact fun L => qma s.gA s.gc s.gs z.gA z.gc z.gs _ (L.old hx.g) (L.old hz.g) hf.g hg.g)) ?_
   rintro L _ w22 ⟨rfl, hbw⟩
   refine ⟨_, rfl, _, L.call hbw, ?_⟩
   exact (Jp 2∘Jd6∘Jj∘JZ∘Jz1) fun L => by exact qcm (p := CfgEq s z) ⟨fun e => ⟨hd10, by omega, e⟩, fun e => e.2.2⟩ L.below
  exact (Jp 7∘Jd6∘Jj∘JZ∘Jz1) fun L => is_no (p := CfgEq s z) (fun e => hd17 (by rw [e.2.1])) L.below
 exact (Jv 14 [(4, .bool false)]∘Jd4∘Jj∘JZ∘Jz1) fun L => is_no (p := CfgEq s z) (fun e => hd10 e.1) L.below
theorem qpd (s z : Stm) (w : World) (hx : StRd w s) (hz : StRd w z) (hf : StFew s) (hg : StFew z) :
    Calls Tryz.prog 24 #[.agg s.cells, .agg z.cells] w (Is w (.bool (decide (StaEq s z)))) := by
 have hfs_ := hf.s
 refine (JN2 Tryz.func24 64) ?_
 refine (JP∘JE) fun w2 g2 => (JE) fun w3 g3 => (Jp 1∘Jj∘JQ∘JP∘Jf 0∘Jy (v := .agg #[vI s.cpus, vQ s.credit, .slice s.gA s.gs.length s.gc]) (h:=by exact Yl.loadS rfl rfl zq rfl (fun _ h => h.sub (i := 1) rfl 0 rfl))∘Jf 0∘Jy (v := .agg #[vI z.cpus, vQ z.credit, .slice z.gA z.gs.length z.gc]) (h:=by exact Yl.loadS rfl rfl zq rfl (fun _ h => h.sub (i := 0) rfl 0 rfl))∘JI (h:=by exact fun L => qmb s z _ (hx.old L) (hz.old L) hf hg)) fun w10 hbw => (Jp 2) (Ji' (fun hd12 => ?_) fun hd12 => ?_)
 ·
  exact (Jv 32 [(44, .bool true)]∘Jd6∘Jj∘JT∘JP∘Jp 1∘Jj∘JZ∘Jz1) fun L => is_no (p := StaEq s z) (fun e => hd12 e.1) L.below
 refine (Jg 3 O1∘Jg 3 O0∘JL (h:=by exact fun L => qnw s.lA s.lc s.cl z.lA z.lc z.cl _ (L.old hx.l) (L.old hz.l) hf.l hg.l)) ?_
 rintro L _ w17 ⟨rfl, hbw⟩
 refine ⟨_, rfl, _, L.call hbw, ?_⟩
 refine (Jp 3) (Ji' (fun hd20 => ?_) fun hd20 => ?_)
 ·
  exact (Jv 24 [(44, .bool true)]∘Jd6∘Jj∘JT∘JP∘Jp 1∘Jj∘JZ∘Jz1) fun L => is_no (p := StaEq s z) (fun e => hd20 e.2.1) L.below
 refine (Jg 4 O1∘Jg 4 O0∘JL (h:=by exact fun L => qnw s.uA s.uc s.cu z.uA z.uc z.cu _ (L.old hx.u) (L.old hz.u) hf.u hg.u)) ?_
 rintro L _ w25 ⟨rfl, hbw⟩
 refine ⟨_, rfl, _, L.call hbw, ?_⟩
 refine (Jp 3) (Ji' (fun hd28 => ?_) fun hd28 => ?_)
 ·
  exact (Jv 16 [(44, .bool true)]∘Jd6∘Jj∘JT∘JP∘Jp 1∘Jj∘JZ∘Jz1) fun L => is_no (p := StaEq s z) (fun e => hd28 e.2.2.1) L.below
 refine (Jg 5 O1∘Jg 5 O0∘JL (h:=by exact fun L => qpb s.tA s.tc s.ts z.tA z.tc z.ts _ (L.old hx.t) (L.old hz.t) hf.t hg.t)) ?_
 rintro L _ w33 ⟨rfl, hbw⟩
 refine ⟨_, rfl, _, L.call hbw, ?_⟩
 refine (Jp 3) (Ji' (fun hd36 => ?_) fun hd36 => ?_)
 ·
  exact (Jv 8 [(44, .bool true)]∘Jd6∘Jj∘JT∘JP∘Jp 1∘Jj∘JZ∘Jz1) fun L => is_no (p := StaEq s z) (fun e => hd36 e.2.2.2.1) L.below
 refine (Jg 6 O1∘Jl∘Jg 6 O0∘Jl∘Jp 2∘Jd6∘Jj) (Ju (fun hb44 => ?_) fun hb44 => ?_)
 ·
  intro a I L
  have hd44 := bne_iff_ne.1 hb44
  exact Jb I L ((JT∘JP∘Jp 1∘Jj∘JZ∘Jz1) fun L => is_no (p := StaEq s z) (fun e => by have := qhs e.2.2.2.2; omega) L.below)
 intro a I L
 have hd44 := bne_eq_false_iff_eq.1 hb44
 have hlm : s.rs.length = z.rs.length := by omega
 refine Jb I L ((JF∘JS'∘JQ∘JP∘Jp 1∘Jj∘JB) fun a I L => ?_)
 refine qg (fun mS aS wS => ∃ (k : Nat), (k ≤ s.rs.length) ∧ (∀ i, i < k → (s.rs.getD i Rw.zero).l = (z.rs.getD i Rw.zero).l) ∧ mS = s.rs.length - k ∧ Fr aS 64 [] [(5, vI k), (44, .bool false), (4, .bool false), (3, vP g3 0), (2, vP g2 0)] ∧ Mem w wS [.blk g3 z.cells 45, .blk g2 s.cells 45]) (m := s.rs.length - 0) ⟨0, Nat.zero_le _, qeh, rfl, I.sub kr, L.pk [0, 1]⟩ ?_
 clear I L; rintro mS a w_ ⟨k, hk, hu, rfl, I, L⟩
 refine Jb I L ((JQ∘JP∘Jp 1∘Jg 6 O1∘Jl∘Jp 1∘Jd3∘Jj) (Ju (fun hb49 => ?_) fun hb49 => ?_))
 ·
  intro a I L
  have hd49 := of_decide_eq_true hb49
  have hk1 : k < s.rs.length := by omega
  have hk2 : k < z.rs.length := by omega
  obtain ⟨x, hx_⟩ : ∃ q, s.rs.getD k Rw.zero = q := ⟨_, rfl⟩
  obtain ⟨y, hy_⟩ : ∃ q, z.rs.getD k Rw.zero = q := ⟨_, rfl⟩
  have hxr : Rd w w.heap.size 3 x.A x.l.length (x.l.flatMap spL) := by rw [← hx_]; exact hx.row hk1
  have hyr : Rd w w.heap.size 3 y.A y.l.length (y.l.flatMap spL) := by rw [← hy_]; exact hz.row hk2
  have hxl : x.l.length ≤ 1000000 := by rw [← hx_]; exact hf.r _ (qf Rw.zero hk1)
  have hyl : y.l.length ≤ 1000000 := by rw [← hy_]; exact hg.r _ (qf Rw.zero hk2)
  obtain ⟨gq1, oq1, hq1, _⟩ := Rd.qn hx.s (Nat.lt_of_le_of_lt (Nat.zero_le _) (show k < s.rs.length from hk1)) de
  have hrq1 := hx.s; rw [hq1] at hrq1
  obtain ⟨gq2, oq2, hq2, _⟩ := Rd.qn hz.s (Nat.lt_of_le_of_lt (Nat.zero_le _) (show k < z.rs.length from hk2)) de
  have hrq2 := hz.s; rw [hq2] at hrq2
  refine Jb I L ((JT∘JS'∘JQ∘JB) fun a I L => ?_)
  refine wp_seq ?_
  refine Jb I L ((Vs .n []) fun wd6 => (Vf 0 6∘Vp [2]∘Vf 5 6∘Vp [7]∘Vc 1 O1) fun a I L HS => ?_)
  replace I := I.sp 53 (.slice (some ⟨gq1, oq1, none⟩) s.rs.length s.sc) rfl (by rw [hq1]; try rfl)
  refine Vb I L HS ((Vy 3 (h:=by exact Yl.ix gq1 oq1 k 1 rfl rfl rfl)∘Vy 4 (v := .slice ((s.rs.getD k Rw.zero).A) ((s.rs.getD k Rw.zero).l.length) ((s.rs.getD k Rw.zero).c)) (h:=by exact Yl.o1 hrq1 k Rw.zero hk1 rfl rfl)∘Vo (.slice x.A x.l.length x.c) (by rw [hx_])∘Vc 6 O0) fun a I L HS => ?_)
  replace I := I.sp 58 (.slice (some ⟨gq2, oq2, none⟩) z.rs.length z.sc) rfl (by rw [hq2]; try rfl)
  refine Vb I L HS ((Vy 8 (h:=by exact Yl.ix gq2 oq2 k 1 rfl rfl rfl)∘Vy 9 (v := .slice ((z.rs.getD k Rw.zero).A) ((z.rs.getD k Rw.zero).l.length) ((z.rs.getD k Rw.zero).c)) (h:=by exact Yl.o1 hrq2 k Rw.zero hk2 rfl rfl)∘Vo (.slice y.A y.l.length y.c) (by rw [hy_])) fun a I L HS => ?_)
  refine s_on I 10 rfl ?_
  refine e_cl I [.slice x.A x.l.length x.c, .slice y.A y.l.length y.c] rfl rfl (qpc x.A x.c x.l y.A y.c y.l _ (L.old hxr) (L.old hyr) hxl hyl) ?_
  rintro _ w62 ⟨rfl, hbw⟩
  refine ⟨_, rfl, ?_⟩
  replace L := L.call hbw
  clear I; intro a I
  refine keepS (L.pk [0, 1]) (fun HS => ?_)
  refine Vb I L HS ((Vp [11]∘Vd∘Jd6) (Ju (fun hb63 => ?_) fun hb63 => ?_))
  ·
   intro a I L
   have hd63 := of_decide_eq_false ((Bool.not_eq_true' _).mp hb63)
   exact Jb I L ((JT∘JP∘Jp 1∘Jj∘JZ∘Jz1) fun L => is_no (p := StaEq s z) (fun e => qq1 hk1 hk2 (by rw [hx_, hy_]; exact hd63) e.2.2.2.2) L.below)
  intro a I L
  have hd63 := of_decide_eq_true ((Bool.not_eq_false' _).mp hb63)
  refine Jb I L ((JF∘JS'∘JR∘Jp 1∘JaK 1∘Jp 1∘Jd2∘Jq) fun a I L => ?_)
  exact ⟨_, om, k + 1, by omega, qei (f := fun i => (s.rs.getD i Rw.zero).l) (g := fun i => (z.rs.getD i Rw.zero).l) hu (by rw [hx_, hy_]; exact hd63), rfl, I.sub kr, L.pk [0, 1]⟩
 intro a I L
 have hd49 := of_decide_eq_false hb49
 exact Jb I L ((JF∘JX∘JG∘JP∘Jp 1∘Jj∘JZ∘Jz1) fun L => by exact qec (p := StaEq s z) ⟨hd12, hd20, hd28, hd36, qq0 hlm (fun i hi => hu i om)⟩ L.below)
structure Nums where
 cpus : Nat
 groups : Nat
 credit : Nat
 ps : List Nat
 ws : List Nat
def Nums.cells (n : Nums) : Array Value := (.int .u8 (n.cpus : Int) :: .int .u8 (n.groups : Int) :: .int .u32 (n.credit : Int) :: (n.ps.map (fun z : Nat => Value.int .u8 (z : Int)) ++ n.ws.map (fun z : Nat => Value.int .u16 (z : Int)))).toArray
structure Nums.Ok (n : Nums) : Prop where
 cpus : n.cpus < 256
 groups : n.groups < 256
 credit : n.credit < 4294967296
 pl : n.ps.length = 5
 wl : n.ws.length = 5
 ps : ∀ z ∈ n.ps, z < 256
 ws : ∀ z ∈ n.ws, z < 65536
section
variable {n : Nums} {i g : Nat} {gs : List Gr} {ds : List Nat} {x : Gr}
def madeF (ps ws : List Nat) : Nat → List Gr × List Nat
 | 0 => ([⟨0, 1⟩], [0])
 | i + 1 =>
  let q := madeF ps ws i
  let u := ps.getD i 0 % q.1.length
  let up := if q.2.getD u 0 = 4 then 0 else u
  (q.1 ++ [⟨(up : Int), ((1 + ws.getD i 0 : Nat) : Int)⟩], q.2 ++ [q.2.getD up 0 + 1])
theorem qnx : ∀ (f g : Nat), g < gs.length → (∀ i, 0 < i → i ≤ g → ParB gs i) → depF (gs ++ [x]) f g = depF gs f g
 | 0, _, _, _ => rfl
 | f + 1, g, hg, hp => by
  rw [depF, depF]
  split
  ·rfl
  ·rename_i h0
   have h1 := hp g om (Nat.le_refl _)
   unfold ParB at h1
   rw [List.getD_eq_getElem?_getD, List.getElem?_append_left hg, ← List.getD_eq_getElem?_getD]
   rw [qnx f _ om (fun i hi hl => hp i hi om)]
theorem qf2 {α : Type} {l : List α} {x d : α} {g : Nat} (hg : g < l.length) : (l ++ [x]).getD g d = l.getD g d := by
 rw [List.getD_eq_getElem?_getD, List.getElem?_append_left hg, ← List.getD_eq_getElem?_getD]
theorem qk4 {α : Type} {l : List α} {x d : α} : (l ++ [x]).getD l.length d = x := by
 rw [List.getD_eq_getElem?_getD, List.getElem?_append_right (Nat.le_refl _), Nat.sub_self]
 rfl
structure MadeOk (gs : List Gr) (ds : List Nat) : Prop where
 len : ds.length = gs.length
 ok : gsOk gs = true
 dep : ∀ g, g < gs.length → ds.getD g 0 = depG gs g
theorem quq : MadeOk [⟨0, 1⟩] [0] := ⟨rfl, by decide, fun g hg => by
 obtain rfl : g = 0 := by simp at hg; omega
 rfl⟩
theorem MadeOk.le (h : MadeOk gs ds) (hg : g < gs.length) : ds.getD g 0 ≤ 4 := by
 rw [h.dep g hg]
 have h1 := (qo h.ok).2.2.2 g hg
 unfold gOk at h1
 rw [Bool.or_eq_true, beq_iff_eq, decide_eq_true_eq] at h1
 rcases h1 with rfl | h1
 ·exact Nat.zero_le _
 ·exact h1.2.2.2
theorem MadeOk.snoc {up w : Nat} (h : MadeOk gs ds) (hu : up < gs.length) (hd : ds.getD up 0 < 4) (hw : w < 65536) (hl : gs.length < 256) : MadeOk (gs ++ [⟨(up : Int), ((1 + w : Nat) : Int)⟩]) (ds ++ [ds.getD up 0 + 1]) := by
 obtain ⟨h1, h2, h3, h4⟩ := qo h.ok
 have hlen : (gs ++ [(⟨(up : Int), ((1 + w : Nat) : Int)⟩ : Gr)]).length = gs.length + 1 := by rw [List.length_append]; rfl
 have hp : ∀ g, g < gs.length → ∀ i, 0 < i → i ≤ g → ParB gs i := fun g hg => qac h.ok hg
 have hdep : ∀ g, g < gs.length → depG (gs ++ [⟨(up : Int), ((1 + w : Nat) : Int)⟩]) g = depG gs g := fun g hg => qnx g g hg (hp g hg)
 have hlast : (gs ++ [(⟨(up : Int), ((1 + w : Nat) : Int)⟩ : Gr)]).getD gs.length Gr.zero = ⟨(up : Int), ((1 + w : Nat) : Int)⟩ := qk4
 have hpl : ∀ i, 0 < i → i ≤ gs.length → ParB (gs ++ [⟨(up : Int), ((1 + w : Nat) : Int)⟩]) i := fun i hi hil => by
  unfold ParB
  rcases Nat.lt_or_ge i gs.length with h5 | h5
  ·rw [qf2 h5]; exact hp i h5 i hi (Nat.le_refl _)
  ·obtain rfl : i = gs.length := by omega
   rw [hlast]
   exact ⟨by show (0 : Int) ≤ (up : Int); omega, by show (up : Int) < _; omega⟩
 have hnew : depG (gs ++ [⟨(up : Int), ((1 + w : Nat) : Int)⟩]) gs.length = ds.getD up 0 + 1 := by
  rw [qeb hpl om, hlast]
  show depG (gs ++ [⟨(up : Int), ((1 + w : Nat) : Int)⟩]) ((up : Int)).toNat + 1 = _
  rw [Int.toNat_natCast, hdep up hu, h.dep up hu]
 refine ⟨by rw [List.length_append, hlen, h.len]; rfl, ?_, fun g hg => ?_⟩
 ·unfold gsOk
  rw [hlen, qf2 om, decide_eq_true ⟨by omega, by omega, h3⟩, Bool.true_and]
  refine qas fun g hg => ?_
  rcases Nat.lt_or_ge g gs.length with h5 | h5
  ·have h6 := h4 g h5
   unfold gOk at h6 ⊢
   rw [qf2 h5, hdep g h5]
   exact h6
  ·obtain rfl : g = gs.length := by omega
   unfold gOk
   rw [hlast, hnew, Bool.or_eq_true, decide_eq_true_eq]
   refine .inr ⟨by show (0 : Int) ≤ (up : Int); omega, by show (up : Int) < _; omega, ?_, by omega⟩
   unfold wOk
   rw [decide_eq_true_eq]
   show (1 : Int) ≤ ((1 + w : Nat) : Int) ∧ ((1 + w : Nat) : Int) ≤ 65536
   omega
 ·rw [hlen] at hg
  rcases Nat.lt_or_ge g gs.length with h5 | h5
  ·rw [qf2 (by rw [h.len]; exact h5), hdep g h5, h.dep g h5]
  ·obtain rfl : g = gs.length := by omega
   rw [hnew, ← h.len, qk4]
theorem qsi {ps ws : List Nat} (hw : ∀ z ∈ ws, z < 65536) : ∀ i, i ≤ 5 → MadeOk (madeF ps ws i).1 (madeF ps ws i).2 ∧ (madeF ps ws i).1.length = i + 1
 | 0, _ => ⟨quq, rfl⟩
 | i + 1, hi => by
  obtain ⟨h1, h2⟩ := qsi (ps := ps) hw i om
  have hu : ps.getD i 0 % (madeF ps ws i).1.length < (madeF ps ws i).1.length := Nat.mod_lt _ om
  have hwi : ws.getD i 0 < 65536 := by
   rcases Nat.lt_or_ge i ws.length with h | h
   ·exact hw _ (qf 0 h)
   ·rw [List.getD_eq_getElem?_getD, List.getElem?_eq_none h]; decide
  have h0 : (madeF ps ws i).2.getD 0 0 = 0 := by rw [h1.dep 0 om]; rfl
  have key : ∀ up, up < (madeF ps ws i).1.length → (madeF ps ws i).2.getD up 0 < 4 → MadeOk ((madeF ps ws i).1 ++ [⟨(up : Int), ((1 + ws.getD i 0 : Nat) : Int)⟩]) ((madeF ps ws i).2 ++ [(madeF ps ws i).2.getD up 0 + 1]) := fun up h3 h4 => h1.snoc h3 h4 hwi om
  rw [madeF]
  dsimp only
  refine ⟨?_, by rw [List.length_append, h2]; rfl⟩
  by_cases h4 : (madeF ps ws i).2.getD (ps.getD i 0 % (madeF ps ws i).1.length) 0 = 4
  ·rw [if_pos h4]; exact key 0 om om
  ·rw [if_neg h4]; exact key _ hu (by have := h1.le hu; omega)
end
def Nums.gs (n : Nums) : List Gr := (madeF n.ps n.ws (n.groups % 6)).1
def Nums.cp (n : Nums) : Nat := 1 + n.cpus % 4
theorem Nums.right {n : Nums} (h : n.Ok) : gsOk n.gs = true ∧ n.gs.length = n.groups % 6 + 1 := by
 have := qsi (ps := n.ps) h.ws (n.groups % 6) om
 exact ⟨this.1.ok, this.2⟩
def Op30.zero : Op30 := ⟨0, 0, 0, 0, 0, 0, 0, 0⟩
def opL (x : Op30) : List Value := x.cells.toList
theorem qcv (x : Op30) : (opL x).length = 8 := rfl
theorem qjb (l : List Op30) : ∀ u ∈ l.flatMap opL, u.oneCell' = true := by
 intro u hu
 obtain ⟨x, _, hx⟩ := List.mem_flatMap.1 hu
 exact qq8 x u hx
structure Sml where
 kind : Nat
 cpu : Nat
 task : Nat
 group : Nat
 to : Nat
 weight : Nat
 ticks : Nat
 mask : Nat
structure Sml.Ok (x : Sml) : Prop where
 kind : x.kind < 256
 cpu : x.cpu < 256
 task : x.task < 256
 group : x.group < 256
 to : x.to < 256
 weight : x.weight < 65536
 ticks : x.ticks < 4294967296
 mask : x.mask < 256
def Sml.zero : Sml := ⟨0, 0, 0, 0, 0, 0, 0, 0⟩
def Sml.cells (x : Sml) : Array Value := #[.int .u8 (x.kind : Int), .int .u8 (x.cpu : Int), .int .u8 (x.task : Int), .int .u8 (x.group : Int), .int .u8 (x.to : Int), .int .u16 (x.weight : Int), .int .u32 (x.ticks : Int), .int .u8 (x.mask : Int)]
def kindT : List Nat := [1, 1, 1, 2, 2, 3, 3, 4, 5, 5, 5, 5, 6, 6, 6, 6, 7, 8, 9, 10]
def Sml.msk (x : Sml) : Nat := if 0 < x.mask % 4 then (1 * 2 ^ (1 + x.to % 4) - 1) ||| 1 * 2 ^ (x.cpu % 4) else x.mask
def Sml.op (x : Sml) : Op30 := ⟨kindT.getD (x.kind % 20) 0, ((x.cpu % 4 : Nat) : Int), ((1 + x.task % 12 : Nat) : Int), ((x.group % 6 : Nat) : Int), ((1 + x.weight : Nat) : Int), ((x.to % 4 : Nat) : Int), ((1 + x.ticks % 16777216 : Nat) : Int), x.msk⟩
def MkCfg (w : World) (cp : Int) (cr : Nat) (gs : List Gr) (r : Ending) (w' : World) : Prop := (∃ A c, r = .returned (.agg #[vI cp, vQ cr, .slice A gs.length c]) ∧ w'.ownsRow w.heap.size 50 2 (.slice A gs.length c) gs.length (gs.flatMap grL) ∧ gs.length ≤ c) ∧ Below w.heap.size w w'
theorem qjc {s : Sta} {o : Op30} (ho : o.Ok) (h : GoodS s) : GoodS (doS s o).1 := by
 by_cases he : (stepS s o).2.2 = 0
 ·rw [qi9 he]; exact (qgt ho h he).rise
 ·rw [qgx he]; exact h
structure Ex where
 op : Op30
 got : Int
 e : Nat
def Ex.zero : Ex := ⟨Op30.zero, 0, 0⟩
def Ex.cells (x : Ex) : Array Value := #[.int .u8 (x.op.kind : Int), .int .i64 x.op.cpu, .int .i64 x.op.task, .int .i64 x.op.group, .int .i64 x.op.weight, .int .i64 x.op.to, .int .i64 x.op.ticks, .int .u64 (x.op.mask : Int), .int .i64 x.got, .int .i64 (x.e : Int)]
def exL (x : Ex) : List Value := x.cells.toList
theorem qwy (x : Ex) : (exL x).length = 10 := rfl
theorem qx2 (x : Ex) : ∀ v ∈ x.cells.toList, v.oneCell' = true := by simp [Ex.cells, Value.oneCell']
theorem si_ex : SI Tryz.prog 78 10 := ⟨by kernel_rfl, by kernel_rfl⟩
theorem ei_ex : EI Tryz.prog 79 78 (.agg Ex.zero.cells) 10 80 := ⟨by kernel_rfl, by kernel_rfl, rfl, by omega⟩
def exG : List Gr := [⟨0, 1⟩, ⟨0, 1024⟩]
def exO : List Ex := [⟨⟨1, 0, 5, 0, 1024, 0, 0, 1⟩, 0, 0⟩, ⟨⟨1, 0, 6, 1, 1, 0, 0, 1⟩, 0, 0⟩, ⟨⟨6, 0, 0, 0, 0, 0, 0, 0⟩, 5, 0⟩, ⟨⟨5, 0, 0, 0, 0, 0, 1, 0⟩, 5, 0⟩, ⟨⟨6, 0, 0, 0, 0, 0, 0, 0⟩, 6, 0⟩, ⟨⟨5, 0, 0, 0, 0, 0, 1, 0⟩, 6, 0⟩, ⟨⟨6, 0, 0, 0, 0, 0, 0, 0⟩, 5, 0⟩, ⟨⟨3, 0, 0, 0, 0, 0, 0, 0⟩, 5, 0⟩, ⟨⟨6, 0, 0, 0, 0, 0, 0, 0⟩, 6, 0⟩, ⟨⟨5, 0, 0, 0, 0, 0, 2, 0⟩, 6, 0⟩, ⟨⟨2, 0, 5, 0, 0, 0, 0, 0⟩, 0, 0⟩, ⟨⟨9, 0, 6, 0, 0, 1, 0, 0⟩, 0, 300⟩]
def exSt : Nat → Sta
 | 0 => newS 1 0 exG
 | k + 1 => (doS (exSt k) (exO.getD k Ex.zero).op).1
theorem qk5 : gsOk exG = true := by decide
theorem ex_ok : ∀ k, (exO.getD k Ex.zero).op.Ok := by
 have h : ∀ x ∈ exO, x.op.Ok := by
  intro x hx
  simp only [exO, List.mem_cons, List.not_mem_nil, or_false] at hx
  rcases hx with rfl | rfl | rfl | rfl | rfl | rfl | rfl | rfl | rfl | rfl | rfl | rfl <;> exact ⟨by decide, by unfold I64; decide, by unfold I64; decide, by unfold I64; decide, by unfold I64; decide, by unfold I64; decide, by unfold I64; decide, by decide⟩
 intro k
 rcases Nat.lt_or_ge k exO.length with hk | hk
 ·exact h _ (qf _ hk)
 ·rw [List.getD_eq_getElem?_getD, List.getElem?_eq_none hk]
  exact ⟨by decide, by unfold I64; decide, by unfold I64; decide, by unfold I64; decide, by unfold I64; decide, by unfold I64; decide, by unfold I64; decide, by decide⟩
theorem qf3 {cp : Int} {cr : Nat} {gs : List Gr} (h1 : 1 ≤ cp ∧ cp ≤ 64) (h2 : cr ≤ 1099511627776) (h3 : gsOk gs = true) (h4 : ∀ g ∈ gs, g.Ok) : GoodS (newS cp cr gs) ∧ qax (newS cp cr gs) = true := by
 obtain ⟨c, rfl⟩ : ∃ c : Nat, cp = (c : Int) := ⟨cp.toNat, by omega⟩
 have hsp : ∀ g, g < gs.length → (newS (c : Int) cr gs).sp.getD g [] = List.replicate c Sp.zero := fun g hg => by
  show (List.replicate gs.length (List.replicate ((c : Int)).toNat Sp.zero)).getD g [] = _
  rw [List.getD_eq_getElem?_getD, List.getElem?_replicate, if_pos hg]
  rfl
 have hspot : ∀ g c', (newS (c : Int) cr gs).spot g c' = Sp.zero := fun g c' => by
  unfold Sta.spot
  rcases Nat.lt_or_ge g gs.length with hg | hg
  ·rw [hsp g hg, List.getD_eq_getElem?_getD, List.getElem?_replicate]
   split <;> rfl
  ·rw [show (newS (c : Int) cr gs).sp.getD g [] = [] by
    show (List.replicate gs.length _).getD g [] = _
    rw [List.getD_eq_getElem?_getD, List.getElem?_eq_none (by rw [List.length_replicate]; exact hg)]; rfl]
   rfl
 have hz : (Sp.zero).Ok := ⟨by decide, by decide, by decide⟩
 have hsl : (newS (c : Int) cr gs).sp.length = gs.length := List.length_replicate ..
 have hgd : GoodS (newS (c : Int) cr gs) := by
  refine ⟨⟨⟨by show I64 (c : Int); unfold I64; omega, by show cr < _; omega, h4, fun x hx => ?_, fun x hx => ?_, fun x hx => (by cases hx), fun l hl x hx => ?_⟩, h1, h2, h3, ?_, ?_, hsl, fun c' hc' => ?_, fun g hg => ?_, fun g c' hg _ => ?_, fun i j _ hj => absurd hj (Nat.not_lt_zero _), fun t ht => (by cases ht)⟩, fun d hd => ?_⟩
  ·rw [List.eq_of_mem_replicate hx]; unfold I64; decide
  ·rw [List.eq_of_mem_replicate hx]; unfold I64; decide
  ·rw [List.eq_of_mem_replicate hl] at hx
   rw [List.eq_of_mem_replicate hx]; exact hz
  ·show ((List.replicate ((c : Int)).toNat (0 : Int)).length : Int) = (c : Int); rw [List.length_replicate]; rfl
  ·show ((List.replicate ((c : Int)).toNat (0 : Int)).length : Int) = (c : Int); rw [List.length_replicate]; rfl
  ·have : (newS (c : Int) cr gs).cl.getD c' 0 = 0 := List.eq_of_mem_replicate (qf 0 hc')
   rw [this]; decide
  ·rw [hsl] at hg; rw [hsp g hg, List.length_replicate]; rfl
  ·rw [hspot]
   rw [hsl] at hg
   unfold spOk
   have hw := wt_at h3 hg
   rw [Bool.and_eq_true]
   refine ⟨?_, by simp [Sp.zero]⟩
   unfold entOk
   rw [decide_eq_true_eq]
   exact ⟨hw.1, hw.2, by show ((0 : Nat) : Int) < _; have := hw.1; show (0 : Int) < (gs.getD g Gr.zero).weight; omega, .inr rfl⟩
  ·exact .inl (List.eq_of_mem_replicate (qf 0 hd))
 refine ⟨hgd, ?_⟩
 unfold qax
 rw [(ql2 hgd.sh.ok).2 hgd.sh, Bool.true_and]
 refine qas fun d hd => ?_
 rw [(ql3 hgd.sh.sort).2 hgd.cur d hd, Bool.true_and]
 refine qas fun g hg => ?_
 have hm : memS (newS (c : Int) cr gs) g d = [] := by
  have key : ∀ n g, gs.length - g ≤ n → memS (newS (c : Int) cr gs) g d = [] := by
   intro n
   induction n with
   | zero =>
    intro g hg
    rw [qdp, hsl, List.drop_of_length_le (by rw [List.length_range]; omega)]
    rfl
   | succ n ih =>
    intro g hg
    rw [qdp, show (newS (c : Int) cr gs).ts = [] from rfl]
    rw [List.filterMap_nil, List.nil_append, List.filterMap_eq_nil_iff]
    intro h hh
    obtain ⟨i, hi, rfl⟩ := List.getElem_of_mem hh
    rw [List.getElem_drop, List.getElem_range]
    unfold grpM
    rw [if_neg]
    rintro ⟨_, h5⟩
    exact absurd (ih (g + 1 + i) om) (by simpa using h5)
  exact key _ g (Nat.le_refl _)
 unfold lowS
 rw [decide_eq_true_eq]
 exact .inl hm
theorem qsj (k : Nat) : GoodS (exSt k) := by
 induction k with
 | zero => exact (qf3 de de qk5 (by
   intro g hg
   simp only [exG, List.mem_cons, List.not_mem_nil, or_false] at hg
   rcases hg with rfl | rfl <;> exact ⟨by unfold I64; decide, by unfold I64; decide⟩)).1
 | succ k ih => exact qjc (ex_ok k) ih
theorem ex_r0 : (doS (exSt 0) (exO.getD 0 Ex.zero).op).2 = ((0 : Int), (0 : Nat)) := by kernel_rfl
theorem ex_r1 : (doS (exSt 1) (exO.getD 1 Ex.zero).op).2 = ((0 : Int), (0 : Nat)) := by kernel_rfl
theorem ex_r2 : (doS (exSt 2) (exO.getD 2 Ex.zero).op).2 = ((5 : Int), (0 : Nat)) := by kernel_rfl
theorem ex_r3 : (doS (exSt 3) (exO.getD 3 Ex.zero).op).2 = ((5 : Int), (0 : Nat)) := by kernel_rfl
theorem ex_r4 : (doS (exSt 4) (exO.getD 4 Ex.zero).op).2 = ((6 : Int), (0 : Nat)) := by kernel_rfl
theorem ex_r5 : (doS (exSt 5) (exO.getD 5 Ex.zero).op).2 = ((6 : Int), (0 : Nat)) := by kernel_rfl
theorem ex_r6 : (doS (exSt 6) (exO.getD 6 Ex.zero).op).2 = ((5 : Int), (0 : Nat)) := by kernel_rfl
theorem ex_r7 : (doS (exSt 7) (exO.getD 7 Ex.zero).op).2 = ((5 : Int), (0 : Nat)) := by kernel_rfl
theorem ex_r8 : (doS (exSt 8) (exO.getD 8 Ex.zero).op).2 = ((6 : Int), (0 : Nat)) := by kernel_rfl
theorem ex_r9 : (doS (exSt 9) (exO.getD 9 Ex.zero).op).2 = ((6 : Int), (0 : Nat)) := by kernel_rfl
theorem qx3 : (doS (exSt 10) (exO.getD 10 Ex.zero).op).2 = ((0 : Int), (0 : Nat)) := by kernel_rfl
theorem qx4 : (doS (exSt 11) (exO.getD 11 Ex.zero).op).2 = ((0 : Int), (300 : Nat)) := by kernel_rfl
theorem qx5 {k : Nat} (h : k < 12) : (doS (exSt k) (exO.getD k Ex.zero).op).2 = ((exO.getD k Ex.zero).got, (exO.getD k Ex.zero).e) := by
 have h2 : k = 0 ∨ k = 1 ∨ k = 2 ∨ k = 3 ∨ k = 4 ∨ k = 5 ∨ k = 6 ∨ k = 7 ∨ k = 8 ∨ k = 9 ∨ k = 10 ∨ k = 11 := by omega
 rcases h2 with rfl | rfl | rfl | rfl | rfl | rfl | rfl | rfl | rfl | rfl | rfl | rfl
 ·exact ex_r0
 ·exact ex_r1
 ·exact ex_r2
 ·exact ex_r3
 ·exact ex_r4
 ·exact ex_r5
 ·exact ex_r6
 ·exact ex_r7
 ·exact ex_r8
 ·exact ex_r9
 ·exact qx3
 ·exact qx4
theorem qwz : exSt 12 = ⟨1, 0, exG, [4], [6], [⟨5, 0, 1024, 0, 1, true, 3072, 0⟩, ⟨6, 1, 1, 0, 1, true, 3145728, 0⟩], [[⟨0, 0, 3072⟩], [⟨3072, 0, 3145728⟩]]⟩ := by kernel_rfl
theorem qx6 {y : Stm} (h : y.sta = exSt 12) : ∃ gA gc lA lc uA uc tA tc sA sc rA rc qA qc, y = ⟨1, 0, gA, gc, exG, lA, lc, [4], uA, uc, [6], tA, tc, [⟨5, 0, 1024, 0, 1, true, 3072, 0⟩, ⟨6, 1, 1, 0, 1, true, 3145728, 0⟩], sA, sc, [⟨rA, rc, [⟨0, 0, 3072⟩]⟩, ⟨qA, qc, [⟨3072, 0, 3145728⟩]⟩]⟩ := by
 rw [qwz] at h
 obtain ⟨cp, cr, gA, gc, gs, lA, lc, cl, uA, uc, cu, tA, tc, ts, sA, sc, rs⟩ := y
 unfold Stm.sta at h
 simp only [Sta.mk.injEq] at h
 obtain ⟨rfl, rfl, rfl, rfl, rfl, rfl, h⟩ := h
 match rs, h with
 | [⟨rA, rc, l1⟩, ⟨qA, qc, l2⟩], h =>
  simp only [List.map_cons, List.map_nil, List.cons.injEq, and_true] at h
  obtain ⟨rfl, rfl⟩ := h
  exact ⟨gA, gc, lA, lc, uA, uc, tA, tc, sA, sc, rA, rc, qA, qc, rfl⟩
theorem qur {w w' : World} {fs : List Fact} {g : Nat} (L : Mem w w' fs) (h : fs[0]? = some (.blk g #[vI 0, vI 1, vI 0, vI 1024] 50)) : MkCfg w 1 0 exG (.returned (.agg #[vI 1, vQ 0, .slice (some ⟨g, 0, none⟩) 2 2])) w' :=
 ⟨⟨_, _, rfl, (L.blkRow (i := 0) (n := 2) (size := 2) h rfl de).own (i := 0) (by rw [List.getElem?_set_self (List.getElem?_eq_some_iff.1 h).1]; rfl), by decide⟩, L.below⟩
theorem qsk {cp : Int} {cr : Nat} {gA : Option Addr} {gc : Nat} {gs : List Gr} {w : World} (h : (⟨cp, cr, gA, gc, gs, none, 0, [], none, 0, [], none, 0, [], none, 0, []⟩ : Stm).sta.Ok ∧ gs.length ≤ 1000000 ∧ cfgOk (⟨cp, cr, gA, gc, gs, none, 0, [], none, 0, [], none, 0, [], none, 0, []⟩ : Stm).sta = true) (hr : Rd w w.heap.size 2 gA gs.length (gs.flatMap grL)) : Calls Tryz.prog 7 #[.agg #[vI cp, vQ cr, .slice gA gs.length gc]] w (qse w (newS cp cr gs)) :=
 (qwu cp cr gA gc gs w h.1 h.2.1 hr).mono fun r w' k => by unfold NewIs at k; rwa [if_pos h.2.2] at k
theorem qmc {cp : Int} {cr : Nat} {gA : Option Addr} {gc : Nat} {gs : List Gr} (h1 : 1 ≤ cp ∧ cp ≤ 64) (h2 : cr ≤ 1099511627776) (h3 : gsOk gs = true) (h4 : ∀ g ∈ gs, g.Ok) : (⟨cp, cr, gA, gc, gs, none, 0, [], none, 0, [], none, 0, [], none, 0, []⟩ : Stm).sta.Ok ∧ gs.length ≤ 1000000 ∧ cfgOk (⟨cp, cr, gA, gc, gs, none, 0, [], none, 0, [], none, 0, [], none, 0, []⟩ : Stm).sta = true := by
 have h5 := (qo h3).2.1
 refine ⟨⟨by show I64 cp; unfold I64; omega, by show cr < _; omega, h4, fun x hx => (by cases hx), fun x hx => (by cases hx), fun x hx => (by cases hx), fun l hl => (by cases hl)⟩, by omega, ?_⟩
 unfold cfgOk
 rw [Bool.and_eq_true, decide_eq_true_eq]
 exact ⟨⟨h1.1, h1.2, h2⟩, h3⟩
theorem qx7 : ∀ g ∈ exG, g.Ok := by
 intro g hg
 simp only [exG, List.mem_cons, List.not_mem_nil, or_false] at hg
 rcases hg with rfl | rfl <;> exact ⟨by unfold I64; decide, by unfold I64; decide⟩
theorem exNew {gA : Option Addr} {gc : Nat} : (⟨1, 0, gA, gc, exG, none, 0, [], none, 0, [], none, 0, [], none, 0, []⟩ : Stm).sta.Ok ∧ exG.length ≤ 1000000 ∧ cfgOk (⟨1, 0, gA, gc, exG, none, 0, [], none, 0, [], none, 0, [], none, 0, []⟩ : Stm).sta = true := qmc de de qk5 qx7
section
variable {W w : World} {F T : List Fact} {x : Stm} {gm : Nat}
theorem do_y (n : Nat) (L : Mem W w F) (he : F.drop n = mdB gm x ++ T) (hG : GoodS x.sta) {o : Op30} (ho : o.Ok) : Calls Tryz.prog 13 #[vP gm 0, .agg o.cells] w (OpIs W gm (F.take n ++ T) (doS x.sta o)) :=
 qul W w x gm _ _ _ _ _ (qap hG.sh) hG o ho _ (L.front n he)
theorem do_ex {k : Nat} {ez : Ex} (n : Nat) (L : Mem W w F) (he : F.drop n = mdB gm x ++ T) (hx : x.sta = exSt k) (hk : k < 12) (hz : exO.getD k Ex.zero = ez) : Calls Tryz.prog 13 #[vP gm 0, .agg ez.op.cells] w (fun r w' => ∃ y : Stm, r = .returned (.tuple #[vI ez.got, vI (ez.e : Int)]) ∧ y.sta = exSt (k + 1) ∧ Mem W w' (mdB gm y ++ (F.take n ++ T))) := by
 subst hz
 refine (do_y n L he (by rw [hx]; exact qsj k) (ex_ok k)).mono fun r w' ⟨y, h1, h2, h3⟩ => ⟨y, ?_, ?_, h3⟩
 ·rw [h1, hx, qx5 hk]
 ·rw [h2, hx]; rfl
theorem qw0 (n : Nat) (L : Mem W w F) (he : F.drop n = mdB gm x ++ T) (hG : GoodS x.sta) : Calls Tryz.prog 14 #[vP gm 0] w (qsd w x) :=
 qk2 x gm w (qap hG.sh).few (L.mdRdB n he) (L.mdBlkB n he)
theorem qus (n : Nat) (L : Mem W w F) (he : F.drop n = mdB gm x ++ T) (hx : x.sta = exSt 12) : Calls Tryz.prog 14 #[vP gm 0] w (fun r w' => ∃ gA gc lA lc uA uc tA tc sA sc rA rc qA qc, r = .returned (.tuple #[.agg #[vI 1, vQ 0, .slice gA 2 gc, .slice lA 1 lc, .slice uA 1 uc, .slice tA 2 tc, .slice sA 2 sc], vI 0]) ∧ Mem w w' (stF ⟨1, 0, gA, gc, exG, lA, lc, [4], uA, uc, [6], tA, tc, [⟨5, 0, 1024, 0, 1, true, 3072, 0⟩, ⟨6, 1, 1, 0, 1, true, 3145728, 0⟩], sA, sc, [⟨rA, rc, [⟨0, 0, 3072⟩]⟩, ⟨qA, qc, [⟨3072, 0, 3145728⟩]⟩]⟩)) := by
 refine (qw0 n L he (by rw [hx]; exact qsj 12)).mono fun r w' ⟨y, h1, h2, _, h4⟩ => ?_
 obtain ⟨gA, gc, lA, lc, uA, uc, tA, tc, sA, sc, rA, rc, qA, qc, rfl⟩ := qx6 ((qfk h2).trans hx)
 exact ⟨gA, gc, lA, lc, uA, uc, tA, tc, sA, sc, rA, rc, qA, qc, h1, h4⟩
end
theorem qmd (w : World) :
    Calls Tryz.prog 30 #[] w (MkCfg w 1 0 exG) := by
 refine (JN0 Tryz.func30 5) ?_
 refine (JP∘JA #[vI 0, vQ 0, vN]) fun w0 g0 => (Jr∘Jy (v := .agg #[vI 0, vI 1]) (h:=by exact Yl.build (vs := [(0, vI 0), (1, vI 1)]) rfl kr kr)∘Jy (v := .agg #[vI 0, vI 1024]) (h:=by exact Yl.build (vs := [(0, vI 0), (1, vI 1024)]) rfl kr kr)∘JU ei_gr #[vI 0, vI 1, vI 0, vI 1024]) fun w3 g3 => (Jy (v := .agg #[vI 1, vQ 0, vS g3 2 2]) (h:=by exact Yl.build (vs := [(0, vI 1), (2, vS g3 2 2)]) rfl kr kr)∘JV zq O1') fun w1_4 => (Jt4∘Jj∘JZ) fun a I L => ?_
 exact ret1 rfl I (.cellS (i := 1) I L rfl rfl zq rfl) (qur L rfl)
theorem qme (w : World) :
    Calls Tryz.prog 11 #[] w (Is w (.bool true)) := by
 refine (JN0 Tryz.func11 151) ?_
 refine (JP∘Jp 1∘Jr∘JK (h:=by exact fun L => qmd _)) fun A9 c9 w9 hc9 => (JL (h:=by exact fun L => qsk exNew (L.rd (i := 0) rfl))) ?_
 rintro L _ w10 ⟨gm, x, rfl, hxs, hm⟩
 refine ⟨_, rfl, _, (show Mem w w10 ((mdB gm x ++ ([]))) from by have h := Mem.alone L hm; rw [← List.append_nil (mdB gm x)] at h; exact h), ?_⟩
 refine (Jp 1∘Jx∘Jx∘Jp 2∘Jj∘JQ∘JP∘Jv 4 [(16, vP gm 0), (15, .bool false)]∘Jy (v := .bool false) (h:=by exact Yl.qbk rfl rfl rfl)∘Jp 1∘Jd3∘Jj∘JF∘JS'∘JQ∘JP∘Jy (v := .agg #[vB 1, vI 0, vI 5, vI 0, vI 1024, vI 0, vI 0, vQ 1]) (h:=by exact Yl.build (vs := [(0, vB 1), (2, vI 5), (4, vI 1024), (7, vQ 1)]) rfl kr kr)∘Jy (v := .agg #[vB 1, vI 0, vI 5, vI 0, vI 1024, vI 0, vI 0, vQ 1, vI 0, vI 0]) (h:=by exact Yl.build (vs := [(0, .agg #[vB 1, vI 0, vI 5, vI 0, vI 1024, vI 0, vI 0, vQ 1]), (1, vI 0), (2, vI 0)]) rfl kr kr)∘Jy (v := .agg #[vB 1, vI 0, vI 6, vI 1, vI 1, vI 0, vI 0, vQ 1]) (h:=by exact Yl.build (vs := [(0, vB 1), (2, vI 6), (3, vI 1), (4, vI 1), (7, vQ 1)]) rfl kr kr)∘Jy (v := .agg #[vB 1, vI 0, vI 6, vI 1, vI 1, vI 0, vI 0, vQ 1, vI 0, vI 0]) (h:=by exact Yl.build (vs := [(0, .agg #[vB 1, vI 0, vI 6, vI 1, vI 1, vI 0, vI 0, vQ 1]), (1, vI 0), (2, vI 0)]) rfl kr kr)∘Jy (v := .agg #[vB 6, vI 0, vI 0, vI 0, vI 0, vI 0, vI 0, vQ 0]) (h:=by exact Yl.build (vs := [(0, vB 6)]) rfl kr kr)∘Jy (v := .agg #[vB 6, vI 0, vI 0, vI 0, vI 0, vI 0, vI 0, vQ 0, vI 5, vI 0]) (h:=by exact Yl.build (vs := [(0, .agg #[vB 6, vI 0, vI 0, vI 0, vI 0, vI 0, vI 0, vQ 0]), (1, vI 5), (2, vI 0)]) rfl kr kr)∘Jy (v := .agg #[vB 5, vI 0, vI 0, vI 0, vI 0, vI 0, vI 1, vQ 0]) (h:=by exact Yl.build (vs := [(0, vB 5), (6, vI 1)]) rfl kr kr)∘Jy (v := .agg #[vB 5, vI 0, vI 0, vI 0, vI 0, vI 0, vI 1, vQ 0, vI 5, vI 0]) (h:=by exact Yl.build (vs := [(0, .agg #[vB 5, vI 0, vI 0, vI 0, vI 0, vI 0, vI 1, vQ 0]), (1, vI 5), (2, vI 0)]) rfl kr kr)∘Jy (v := .agg #[vB 6, vI 0, vI 0, vI 0, vI 0, vI 0, vI 0, vQ 0]) (h:=by exact Yl.build (vs := [(0, vB 6)]) rfl kr kr)∘Jy (v := .agg #[vB 6, vI 0, vI 0, vI 0, vI 0, vI 0, vI 0, vQ 0, vI 6, vI 0]) (h:=by exact Yl.build (vs := [(0, .agg #[vB 6, vI 0, vI 0, vI 0, vI 0, vI 0, vI 0, vQ 0]), (1, vI 6), (2, vI 0)]) rfl kr kr)∘Jy (v := .agg #[vB 5, vI 0, vI 0, vI 0, vI 0, vI 0, vI 1, vQ 0]) (h:=by exact Yl.build (vs := [(0, vB 5), (6, vI 1)]) rfl kr kr)∘Jy (v := .agg #[vB 5, vI 0, vI 0, vI 0, vI 0, vI 0, vI 1, vQ 0, vI 6, vI 0]) (h:=by exact Yl.build (vs := [(0, .agg #[vB 5, vI 0, vI 0, vI 0, vI 0, vI 0, vI 1, vQ 0]), (1, vI 6), (2, vI 0)]) rfl kr kr)∘Jy (v := .agg #[vB 6, vI 0, vI 0, vI 0, vI 0, vI 0, vI 0, vQ 0]) (h:=by exact Yl.build (vs := [(0, vB 6)]) rfl kr kr)∘Jy (v := .agg #[vB 6, vI 0, vI 0, vI 0, vI 0, vI 0, vI 0, vQ 0, vI 5, vI 0]) (h:=by exact Yl.build (vs := [(0, .agg #[vB 6, vI 0, vI 0, vI 0, vI 0, vI 0, vI 0, vQ 0]), (1, vI 5), (2, vI 0)]) rfl kr kr)∘Jy (v := .agg #[vB 3, vI 0, vI 0, vI 0, vI 0, vI 0, vI 0, vQ 0]) (h:=by exact Yl.build (vs := [(0, vB 3)]) rfl kr kr)∘Jy (v := .agg #[vB 3, vI 0, vI 0, vI 0, vI 0, vI 0, vI 0, vQ 0, vI 5, vI 0]) (h:=by exact Yl.build (vs := [(0, .agg #[vB 3, vI 0, vI 0, vI 0, vI 0, vI 0, vI 0, vQ 0]), (1, vI 5), (2, vI 0)]) rfl kr kr)∘Jy (v := .agg #[vB 6, vI 0, vI 0, vI 0, vI 0, vI 0, vI 0, vQ 0]) (h:=by exact Yl.build (vs := [(0, vB 6)]) rfl kr kr)∘Jy (v := .agg #[vB 6, vI 0, vI 0, vI 0, vI 0, vI 0, vI 0, vQ 0, vI 6, vI 0]) (h:=by exact Yl.build (vs := [(0, .agg #[vB 6, vI 0, vI 0, vI 0, vI 0, vI 0, vI 0, vQ 0]), (1, vI 6), (2, vI 0)]) rfl kr kr)∘Jy (v := .agg #[vB 5, vI 0, vI 0, vI 0, vI 0, vI 0, vI 2, vQ 0]) (h:=by exact Yl.build (vs := [(0, vB 5), (6, vI 2)]) rfl kr kr)∘Jy (v := .agg #[vB 5, vI 0, vI 0, vI 0, vI 0, vI 0, vI 2, vQ 0, vI 6, vI 0]) (h:=by exact Yl.build (vs := [(0, .agg #[vB 5, vI 0, vI 0, vI 0, vI 0, vI 0, vI 2, vQ 0]), (1, vI 6), (2, vI 0)]) rfl kr kr)∘Jy (v := .agg #[vB 2, vI 0, vI 5, vI 0, vI 0, vI 0, vI 0, vQ 0]) (h:=by exact Yl.build (vs := [(0, vB 2), (2, vI 5)]) rfl kr kr)∘Jy (v := .agg #[vB 2, vI 0, vI 5, vI 0, vI 0, vI 0, vI 0, vQ 0, vI 0, vI 0]) (h:=by exact Yl.build (vs := [(0, .agg #[vB 2, vI 0, vI 5, vI 0, vI 0, vI 0, vI 0, vQ 0]), (1, vI 0), (2, vI 0)]) rfl kr kr)∘Jy (v := .agg #[vB 9, vI 0, vI 6, vI 0, vI 0, vI 1, vI 0, vQ 0]) (h:=by exact Yl.build (vs := [(0, vB 9), (2, vI 6), (5, vI 1)]) rfl kr kr)∘Jy (v := .agg #[vB 9, vI 0, vI 6, vI 0, vI 0, vI 1, vI 0, vQ 0, vI 0, vI 300]) (h:=by exact Yl.build (vs := [(0, .agg #[vB 9, vI 0, vI 6, vI 0, vI 0, vI 1, vI 0, vQ 0]), (1, vI 0), (2, vI 300)]) rfl kr kr)∘JU ei_ex #[vB 1, vI 0, vI 5, vI 0, vI 1024, vI 0, vI 0, vQ 1, vI 0, vI 0, vB 1, vI 0, vI 6, vI 1, vI 1, vI 0, vI 0, vQ 1, vI 0, vI 0, vB 6, vI 0, vI 0, vI 0, vI 0, vI 0, vI 0, vQ 0, vI 5, vI 0, vB 5, vI 0, vI 0, vI 0, vI 0, vI 0, vI 1, vQ 0, vI 5, vI 0, vB 6, vI 0, vI 0, vI 0, vI 0, vI 0, vI 0, vQ 0, vI 6, vI 0, vB 5, vI 0, vI 0, vI 0, vI 0, vI 0, vI 1, vQ 0, vI 6, vI 0, vB 6, vI 0, vI 0, vI 0, vI 0, vI 0, vI 0, vQ 0, vI 5, vI 0, vB 3, vI 0, vI 0, vI 0, vI 0, vI 0, vI 0, vQ 0, vI 5, vI 0, vB 6, vI 0, vI 0, vI 0, vI 0, vI 0, vI 0, vQ 0, vI 6, vI 0, vB 5, vI 0, vI 0, vI 0, vI 0, vI 0, vI 2, vQ 0, vI 6, vI 0, vB 2, vI 0, vI 5, vI 0, vI 0, vI 0, vI 0, vQ 0, vI 0, vI 0, vB 9, vI 0, vI 6, vI 0, vI 0, vI 1, vI 0, vQ 0, vI 0, vI 300]) fun w43 g43 => (Jl∘Jp 1∘Jq) fun a I L => ?_
 replace L := L.blkRow (i := 0) (n := 12) (size := 10) rfl rfl de
 replace L : Mem w _ (.row (vS g43 12 12) 12 (exO.flatMap exL) 78 10 :: (mdB gm x ++ ([]))) := L
 refine Jb I L ((JG∘JB) fun a I L => ?_)
 refine qg (fun mS aS wS => ∃ (k : Nat) (x : Stm), (k ≤ 12) ∧ (x.sta = exSt k) ∧ mS = 12 - k ∧ Fr aS 151 [] [(45, vI k), (44, vI 12), (43, vS g43 12 12), (18, .bool false), (2, vI 0), (1, vP gm 0), (0, .bool false)] ∧ Mem w wS (.row (vS g43 12 12) 12 (exO.flatMap exL) 78 10 :: (mdB gm x ++ ([])))) (m := 12 - 0) ⟨0, x, Nat.zero_le _, hxs, rfl, I.sub kr, L.pt 1 [0]⟩ ?_
 clear I L; rintro mS a w_ ⟨k, x, hk, hxs, rfl, I, L⟩
 refine Jb I L ((JP∘Jp 1∘Jj∘JQ) (Ju (fun hb46 => ?_) fun hb46 => ?_))
 ·
  intro a I L
  have hd46 := of_decide_eq_true hb46
  have hk12 : k < 12 := by omega
  obtain ⟨ez, hez⟩ : ∃ z, exO.getD k Ex.zero = z := ⟨_, rfl⟩
  have hex := hez
  refine Jb I L ((JT∘JS'∘JQ∘JB∘JP∘Jy (h:=by exact Yl.ix0 g43 k 10 rfl rfl rfl)∘Jy (v := .agg ((exO.getD k Ex.zero).cells)) (h:=by exact Yl.loadS rfl rfl si_ex rfl (fun _ h => h.z5 qwy (i := 0) rfl ((getD_at Ex.zero hk12))))∘Jo (.agg ez.cells) (by rw [hez])∘JA #[vB 0, vI 0, vI 0, vI 0, vI 0, vI 0, vI 0, vQ 0, vI 0, vI 0]) fun w4 g4 => (JV si_ex O0' (h1:=by exact qx2 ez)) fun w6_3 => (Jd2∘Jr∘Jp 1∘Jf 0∘Jy (v := .agg #[vB ez.op.kind, vI ez.op.cpu, vI ez.op.task, vI ez.op.group, vI ez.op.weight, vI ez.op.to, vI ez.op.ticks, vQ ez.op.mask]) (h:=by exact Yl.loadS rfl rfl si_op rfl (fun _ h => h.sub (i := 0) rfl 0 rfl))∘Jo (.agg ez.op.cells) (by exact rfl)∘JL (h:=by exact fun L => do_ex 2 L rfl hxs hk12 hex)) ?_)
  rintro L _ w53 ⟨y, rfl, hys, HM2⟩
  refine ⟨_, rfl, _, (show Mem w w53 (.blk g4 ez.cells 78 :: .row (vS g43 12 12) 12 (exO.flatMap exL) 78 10 :: (mdB gm y ++ ([]))) from HM2.back), ?_⟩
  refine (Jp 1∘Jx∘Jx∘Jp 2∘Jr∘Jp 1∘Jg 8 O0∘Jp 2) (Jh (fun hd60 => ?_) fun hd60 => ?_)
  ·
   exact (Jp 5∘Jd6∘Jj∘JT∘JP∘Jp 1∘Jj∘JZ∘Jz1) fun L => absurd rfl hd60
  refine (Jp 1∘Jg 9 O0∘Jp 2∘Jd6∘Jj) (Jh (fun hd65 => ?_) fun hd65 => ?_)
  ·
   exact (JT∘JP∘Jp 1∘Jj∘JZ∘Jz1) fun L => absurd rfl hd65
  refine (JF∘JS'∘JR∘JaK 1∘Jp 1∘Jd1∘Jq) fun a I L => ?_
  exact ⟨_, om, k + 1, y, by omega, hys, rfl, I.sub kr, L.pt 2 [1]⟩
 intro a I L
 have hd46 := of_decide_eq_false hb46
 have hke : k = 12 := by omega
 refine Jb I L ((JF∘JX∘JG∘JP∘Jp 1∘JL (h:=by exact fun L => qus 1 L rfl (by rw [hxs, hke]))) ?_)
 rintro L _ w69 ⟨gA, gc, lA, lc, uA, uc, tA, tc, sA, sc, rA, rc, qA, qc, rfl, hm⟩
 refine ⟨_, rfl, _, (show Mem w w69 [.row (.slice gA 2 gc) 2 (exG.flatMap grL) 50 2, .row (.slice lA 1 lc) 1 ([(4 : Int)].map I64i) 3 1, .row (.slice uA 1 uc) 1 ([(6 : Int)].map I64i) 3 1, .row (.slice tA 2 tc) 2 ([(⟨5, 0, 1024, 0, 1, true, 3072, 0⟩ : Tk), (⟨6, 1, 1, 0, 1, true, 3145728, 0⟩ : Tk)].flatMap tkL) 81 8, .row (.slice sA 2 sc) 2 ([(⟨rA, rc, [(⟨0, 0, 3072⟩ : Sp)]⟩ : Rw), ⟨qA, qc, [(⟨3072, 0, 3145728⟩ : Sp)]⟩].map Rw.val) 63 1, .row (.slice rA 1 rc) 1 ([(⟨0, 0, 3072⟩ : Sp)].flatMap spL) 83 3, .row (.slice qA 1 qc) 1 ([(⟨3072, 0, 3145728⟩ : Sp)].flatMap spL) 83 3] from Mem.alone L hm), ?_⟩
 refine (Jp 1∘Jx∘Jx∘JA #[vI 0, vQ 0, vN, vN, vN, vN, vN]) fun w7 g7 => (JV si_st O0') fun w11_6 => (Jp 1∘Jq) ?_
 repeat (first | clear I | clear L)
 intro a I L
 obtain ⟨glA, rfl⟩ := qi (L.own (i := 2) rfl) om
 revert L; revert a; repeat (first | clear I | clear L)
 intro a I L
 obtain ⟨gtA, rfl⟩ := qi (L.own (i := 4) rfl) om
 revert L; revert a; repeat (first | clear I | clear L)
 intro a I L
 obtain ⟨gsA, rfl⟩ := qi (L.own (i := 5) rfl) om
 revert L; revert a; repeat (first | clear I | clear L)
 intro a I L
 obtain ⟨grA, rfl⟩ := qi (L.own (i := 6) rfl) om
 revert L; revert a; repeat (first | clear I | clear L)
 intro a I L
 obtain ⟨gqA, rfl⟩ := qi (L.own (i := 7) rfl) om
 refine Jb I L ((JG∘JP∘Jv 3 [(74, .bool true)]∘Jg 5 O0∘Jl∘Jv 3 [(80, .bool true)]∘Jg 5 O0∘Jy (v := vP gtA 0) (h:=by exact Yl.indexAddr (ad := ⟨gtA, 0, none⟩) (y := 0) (sz := 8) rfl rfl rfl de kr)∘Jf 6∘Jy (v := vQ ((⟨5, 0, 1024, 0, 1, true, 3072, 0⟩ : Tk).v)) (h:=by exact Yl.qh rfl rfl kr (fun _ h => h.qv qd (i := 4) rfl (k := 0) (off := 6) (x := (⟨5, 0, 1024, 0, 1, true, 3072, 0⟩ : Tk)) (rfl) rfl))∘Jo (vQ 3072) (by exact rfl)∘Jv 3 [(88, .bool true)]∘Jg 5 O0∘Jy (v := vP gtA 8) (h:=by exact Yl.indexAddr (ad := ⟨gtA, 0, none⟩) (y := 1) (sz := 8) rfl rfl rfl de kr)∘Jf 6∘Jy (v := vQ ((⟨6, 1, 1, 0, 1, true, 3145728, 0⟩ : Tk).v)) (h:=by exact Yl.qh rfl rfl kr (fun _ h => h.qv qd (i := 4) rfl (k := 1) (off := 6) (x := (⟨6, 1, 1, 0, 1, true, 3145728, 0⟩ : Tk)) (rfl) rfl))∘Jo (vQ 3145728) (by exact rfl)∘Jv 3 [(96, .bool true)]∘Jg 6 O0∘Jl∘Jv 3 [(102, .bool true)]∘Jg 6 O0∘Jy (v := vP gsA 0) (h:=by exact Yl.indexAddr (ad := ⟨gsA, 0, none⟩) (y := 0) (sz := 1) rfl rfl rfl de kr)∘Jy (v := .slice ((⟨some ⟨grA, 0, none⟩, rc, [(⟨0, 0, 3072⟩ : Sp)]⟩ : Rw).A) ((⟨some ⟨grA, 0, none⟩, rc, [(⟨0, 0, 3072⟩ : Sp)]⟩ : Rw).l.length) ((⟨some ⟨grA, 0, none⟩, rc, [(⟨0, 0, 3072⟩ : Sp)]⟩ : Rw).c)) (h:=by exact Yl.qh rfl rfl kr (fun _ h => h.qhc (i := 5) rfl (k := 0) (qdg (F := Rw.val) (k := 0) (x := (⟨some ⟨grA, 0, none⟩, rc, [(⟨0, 0, 3072⟩ : Sp)]⟩ : Rw)) (rfl))))∘Jo (vS grA 1 rc) (by exact rfl)∘Jl∘Jv 3 [(110, .bool true)]∘Jg 6 O0∘Jy (v := vP gsA 0) (h:=by exact Yl.indexAddr (ad := ⟨gsA, 0, none⟩) (y := 0) (sz := 1) rfl rfl rfl de kr)∘Jy (v := .slice ((⟨some ⟨grA, 0, none⟩, rc, [(⟨0, 0, 3072⟩ : Sp)]⟩ : Rw).A) ((⟨some ⟨grA, 0, none⟩, rc, [(⟨0, 0, 3072⟩ : Sp)]⟩ : Rw).l.length) ((⟨some ⟨grA, 0, none⟩, rc, [(⟨0, 0, 3072⟩ : Sp)]⟩ : Rw).c)) (h:=by exact Yl.qh rfl rfl kr (fun _ h => h.qhc (i := 5) rfl (k := 0) (qdg (F := Rw.val) (k := 0) (x := (⟨some ⟨grA, 0, none⟩, rc, [(⟨0, 0, 3072⟩ : Sp)]⟩ : Rw)) (rfl))))∘Jo (vS grA 1 rc) (by exact rfl)∘Jy (v := vP grA 0) (h:=by exact Yl.indexAddr (ad := ⟨grA, 0, none⟩) (y := 0) (sz := 3) rfl rfl rfl de kr)∘Jf 2∘Jy (v := vQ ((⟨0, 0, 3072⟩ : Sp).floor)) (h:=by exact Yl.qh rfl rfl kr (fun _ h => h.qv z8 (i := 6) rfl (k := 0) (off := 2) (x := (⟨0, 0, 3072⟩ : Sp)) (rfl) rfl))∘Jo (vQ 3072) (by exact rfl)∘Jv 3 [(120, .bool true)]∘Jg 6 O0∘Jy (v := vP gsA 1) (h:=by exact Yl.indexAddr (ad := ⟨gsA, 0, none⟩) (y := 1) (sz := 1) rfl rfl rfl de kr)∘Jy (v := .slice ((⟨some ⟨gqA, 0, none⟩, qc, [(⟨3072, 0, 3145728⟩ : Sp)]⟩ : Rw).A) ((⟨some ⟨gqA, 0, none⟩, qc, [(⟨3072, 0, 3145728⟩ : Sp)]⟩ : Rw).l.length) ((⟨some ⟨gqA, 0, none⟩, qc, [(⟨3072, 0, 3145728⟩ : Sp)]⟩ : Rw).c)) (h:=by exact Yl.qh rfl rfl kr (fun _ h => h.qhc (i := 5) rfl (k := 1) (qdg (F := Rw.val) (k := 1) (x := (⟨some ⟨gqA, 0, none⟩, qc, [(⟨3072, 0, 3145728⟩ : Sp)]⟩ : Rw)) (rfl))))∘Jo (vS gqA 1 qc) (by exact rfl)∘Jl∘Jv 3 [(128, .bool true)]∘Jg 6 O0∘Jy (v := vP gsA 1) (h:=by exact Yl.indexAddr (ad := ⟨gsA, 0, none⟩) (y := 1) (sz := 1) rfl rfl rfl de kr)∘Jy (v := .slice ((⟨some ⟨gqA, 0, none⟩, qc, [(⟨3072, 0, 3145728⟩ : Sp)]⟩ : Rw).A) ((⟨some ⟨gqA, 0, none⟩, qc, [(⟨3072, 0, 3145728⟩ : Sp)]⟩ : Rw).l.length) ((⟨some ⟨gqA, 0, none⟩, qc, [(⟨3072, 0, 3145728⟩ : Sp)]⟩ : Rw).c)) (h:=by exact Yl.qh rfl rfl kr (fun _ h => h.qhc (i := 5) rfl (k := 1) (qdg (F := Rw.val) (k := 1) (x := (⟨some ⟨gqA, 0, none⟩, qc, [(⟨3072, 0, 3145728⟩ : Sp)]⟩ : Rw)) (rfl))))∘Jo (vS gqA 1 qc) (by exact rfl)∘Jy (v := vP gqA 0) (h:=by exact Yl.indexAddr (ad := ⟨gqA, 0, none⟩) (y := 0) (sz := 3) rfl rfl rfl de kr)∘Jf 0∘Jy (v := vQ ((⟨3072, 0, 3145728⟩ : Sp).v)) (h:=by exact Yl.qh rfl rfl kr (fun _ h => (by have := h.qv z8 (i := 7) rfl (k := 0) (off := 0) (x := (⟨3072, 0, 3145728⟩ : Sp)) (rfl) rfl; simpa using this)))∘Jo (vQ 3072) (by exact rfl)∘Jv 3 [(138, .bool true)]∘Jg 3 O0∘Jl∘Jv 3 [(144, .bool true)]∘Jg 3 O0∘Jy (v := vP glA 0) (h:=by exact Yl.indexAddr (ad := ⟨glA, 0, none⟩) (y := 0) (sz := 1) rfl rfl rfl de kr)∘Jy (v := vI 4) (h:=by exact Yl.qh rfl rfl kr (fun _ h => h.qhc (i := 2) rfl (k := 0) (qdg (F := I64i) (k := 0) (x := (4 : Int)) (rfl))))∘Jo (vI 4) (by exact rfl)∘Jv 3 [(0, .bool true)]) fun a I L => ?_)
 refine Jb I L ((Jd6∘Jq) fun a I L => ?_)
 replace I := I.to [(0, .bool true), (2, vI 0), (7, vP g7 0), (46, .bool false), (45, vI k), (44, vI 12), (43, vS g43 12 12), (18, .bool false), (1, vP gm 0)]
 exact Jb I L ((JG∘JZ) JY1)
section
variable {W w w' : World} {F T A B G : List Fact} {x y : Stm} {gm : Nat} {s : Sta}
theorem Mem.swapT (n : Nat) (h : Mem W w F) (he : F.drop n = A ++ (B ++ T)) : Mem W w (F.take n ++ (B ++ (A ++ T))) := by
 have h2 : Mem W w (F.take n ++ (A ++ (B ++ T))) := by rw [← he, List.take_append_drop]; exact h
 exact h2.perm (List.Perm.append_left _ (List.perm_append_comm_assoc ..))
theorem Mem.dropT (n : Nat) (h : Mem W w F) (he : F.drop n = A ++ T) : Mem W w (F.take n ++ T) := by
 have h2 : Mem W w (F.take n ++ (A ++ T)) := by rw [← he, List.take_append_drop]; exact h
 exact h2.subl (List.Sublist.append (List.Sublist.refl _) (List.sublist_append_right ..))
theorem Mem.joinF (n : Nat) (h : Mem W w F) (k : Mem w w' G) (he : F.drop n = T) : Mem W w' (F.take n ++ (G ++ T)) := by
 have h2 := h.joinT k
 rw [← List.take_append_drop n F, he, List.append_assoc] at h2
 exact h2.perm (List.Perm.append_left _ List.perm_append_comm)
theorem Mem.st1 (n : Nat) (h : Mem W w F) (he : F.drop n = stF x ++ T) : StRd w x := h.stL n he
theorem Mem.st2 (n : Nat) (h : Mem W w F) (he : F.drop n = A ++ (stF x ++ T)) : StRd w x := h.stOf fun _ hf => List.mem_of_mem_drop (he ▸ List.mem_append_right _ (List.mem_append_left _ hf))
theorem few_s (hs : x.sta = s) (hG : GoodS s) : StFew x := (qap (y := x) (by rw [hs]; exact hG.sh)).few
theorem do_s (n : Nat) (L : Mem W w F) (he : F.drop n = mdB gm x ++ T) (hs : x.sta = s) (hG : GoodS s) {o : Op30} (ho : o.Ok) : Calls Tryz.prog 13 #[.pointer (some ⟨gm, 0, none⟩), .agg o.cells] w (OpIs W gm (F.take n ++ T) (doS s o)) := by
 subst hs
 exact do_y n L he hG ho
def StaIs (w : World) (s : Sta) (r : Ending) (w' : World) : Prop := ∃ y : Stm, r = .returned (.tuple #[.agg y.cells, .int .i64 0]) ∧ y.sta = s ∧ StCap y ∧ Mem w w' (stF y)
theorem qut (h : x.sta = y.sta) : StaEq x y := by
 unfold Stm.sta at h
 simp only [Sta.mk.injEq] at h
 obtain ⟨h1, h2, h3, h4, h5, h6, h7⟩ := h
 exact ⟨⟨h1, h2, h3⟩, h4, h5, h6, h7⟩
theorem qx8 (hx : StRd w x) (hy : StRd w y) (hs : x.sta = s) (hs' : y.sta = s) (hG : GoodS s) : Calls Tryz.prog 24 #[.agg x.cells, .agg y.cells] w (Is w (.bool true)) := by
 have h1 := qpd x y w hx hy (few_s hs hG) (few_s hs' hG)
 rwa [decide_eq_true (qut (hs.trans hs'.symm))] at h1
end
def Nums.new (n : Nums) : Sta := newS (n.cp : Int) n.credit n.gs
theorem gs_ok {gs : List Gr} (h : gsOk gs = true) : ∀ g ∈ gs, g.Ok := fun x hx => by
 obtain ⟨g, hg, rfl⟩ := z4 Gr.zero hx
 have hw := wt_at h hg
 have hl := (qo h).2.1
 refine ⟨?_, by unfold I64; omega⟩
 rcases Nat.eq_zero_or_pos g with rfl | h0
 ·rw [(qo h).2.2.1]; unfold I64; decide
 ·have := qgc ((qo h).2.2.2 g hg) h0
  unfold ParB at this
  unfold I64; omega
theorem Nums.good {n : Nums} (h : n.Ok) : GoodS n.new ∧ qax n.new = true := by
 have h1 := Nums.right h
 have h2 := h.credit
 exact qf3 (by unfold Nums.cp; omega) om h1.1 (gs_ok h1.1)
theorem Nums.cfg {n : Nums} {gA : Option Addr} {gc : Nat} (h : n.Ok) : (⟨(n.cp : Int), n.credit, gA, gc, n.gs, none, 0, [], none, 0, [], none, 0, [], none, 0, []⟩ : Stm).sta.Ok ∧ n.gs.length ≤ 1000000 ∧ cfgOk (⟨(n.cp : Int), n.credit, gA, gc, n.gs, none, 0, [], none, 0, [], none, 0, [], none, 0, []⟩ : Stm).sta = true := by
 have h1 := Nums.right h
 have h2 := h.credit
 exact qmc (by unfold Nums.cp; omega) om h1.1 (gs_ok h1.1)
end Go.Proofs.YtannicghedpdpaaGreat
set_option linter.all false
namespace Go.Proofs.YtannicghedpdpaaGreat
open Go.RowKit Go.ChangeShapes Go.WideShapes Go.ChangeAt
section
variable {H : Type} {enc : TypeId × Value → H} {P : Program} {W : World} {sp : Nat → Bool} {held : Bool}
end
section
variable {H : Type} {enc : TypeId × Value → H} {P : Program} {W : World} {sp : Nat → Bool} {held : Bool}
end
section
variable {H : Type} {enc : TypeId × Value → H} {W : World} {b0 : Nat} {v : Value} {d : DataW H} {p : List MemPlace}
end
end Go.Proofs.YtannicghedpdpaaGreat
namespace Go.Proofs.YtannicghedpdpaaGreat
open Go.RowKit
structure Grow (s s' : Sta) : Prop where
 cpus : s'.cpus = s.cpus
 cl : s'.cl.length = s.cl.length
 clm : ∀ c, s.cl.getD c 0 ≤ s'.cl.getD c 0
 sp : s'.sp.length = s.sp.length
 row : ∀ g, (s'.sp.getD g []).length = (s.sp.getD g []).length
 fl : ∀ g c, (s.spot g c).floor ≤ (s'.spot g c).floor
section
variable {s a b d : Sta} {g c i : Nat} {z : Sp} {e : En} {o : Op30}
theorem Grow.refl (s : Sta) : Grow s s := ⟨rfl, rfl, fun _ => Int.le_refl _, rfl, fun _ => rfl, fun _ _ => Nat.le_refl _⟩
theorem Grow.trans (h : Grow a b) (k : Grow b d) : Grow a d := ⟨k.cpus.trans h.cpus, k.cl.trans h.cl, fun c => Int.le_trans (h.clm c) (k.clm c), k.sp.trans h.sp, fun g => (k.row g).trans (h.row g), fun g c => Nat.le_trans (h.fl g c) (k.fl g c)⟩
theorem quu (g' c' : Nat) : (s.qde g c z).spot g' c' = s.spot g' c' ∨ (g' = g ∧ c' = c ∧ (s.qde g c z).spot g' c' = z) := by
 rcases Nat.lt_or_ge g s.sp.length with hg | hg
 ·rcases Nat.lt_or_ge c (s.sp.getD g []).length with hc | hc
  ·rw [qno hg hc]
   split
   ·rename_i h; exact .inr ⟨h.1, h.2, rfl⟩
   ·exact .inl rfl
  ·refine .inl ?_
   unfold Sta.qde
   rw [List.set_eq_of_length_le hc, qb3 [] hg]
 ·refine .inl ?_
  unfold Sta.qde
  rw [List.set_eq_of_length_le hg]
theorem Grow.spot (hz : z.floor = (s.spot g c).floor) : Grow s (s.qde g c z) := ⟨rfl, rfl, fun _ => Int.le_refl _, qbi, qgp, fun g' c' => by
 rcases quu (s := s) (g := g) (c := c) (z := z) g' c' with h | ⟨rfl, rfl, h⟩
 ·rw [h]; exact Nat.le_refl _
 ·rw [h, hz]; exact Nat.le_refl _⟩
theorem Grow.run : Grow s (s.qft g c e) := Grow.spot rfl
theorem Grow.wake1 : Grow s (wake1 c s g) := Grow.run
theorem Grow.wake : ∀ (l : List Nat) (s : Sta), Grow s (wakeS s l c)
 | [], s => Grow.refl s
 | g :: r, s => (Grow.wake1 (s := s) (c := c) (g := g)).trans (Grow.wake r (Go.Proofs.YtannicghedpdpaaGreat.wake1 c s g))
theorem Grow.charge (c d : Nat) : ∀ (f g : Nat) (s : Sta), Grow s (z9 c d f g s)
 | 0, _, s => Grow.refl s
 | f + 1, g, s => by
  rw [z9]
  split
  ·exact Grow.refl s
  ·exact (Grow.run (s := s) (g := g) (c := c) (e := (s.spEn g c).add d)).trans (Grow.charge c d f _ _)
theorem Grow.ts {l : List Tk} : Grow s { s with ts := l } := ⟨rfl, rfl, fun _ => Int.le_refl _, rfl, fun _ => rfl, fun _ _ => Nat.le_refl _⟩
theorem Grow.cu {l : List Int} : Grow s { s with cu := l } := ⟨rfl, rfl, fun _ => Int.le_refl _, rfl, fun _ => rfl, fun _ _ => Nat.le_refl _⟩
theorem Grow.move (i : Nat) (to : Int) : Grow s (moveS s i to) := by
 unfold moveS
 dsimp only
 split
 ·exact Grow.ts.trans (Grow.wake _ _)
 ·exact Grow.ts
theorem Grow.step : Grow s (stepS s o).1 := by
 unfold stepS
 split
 ·unfold qcd; repeat' split
  all_goals first | exact Grow.refl s | exact Grow.ts.trans (Grow.wake _ _)
 ·unfold qce; repeat' split
  all_goals first | exact Grow.refl s | exact Grow.ts.trans (Grow.wake _ _)
 ·unfold qar; repeat' split
  all_goals first | exact Grow.refl s | exact ⟨rfl, rfl, fun _ => Int.le_refl _, rfl, fun _ => rfl, fun _ _ => Nat.le_refl _⟩
 ·unfold qar; repeat' split
  all_goals first | exact Grow.refl s | exact ⟨rfl, rfl, fun _ => Int.le_refl _, rfl, fun _ => rfl, fun _ _ => Nat.le_refl _⟩
 ·unfold tickS
  split
  ·exact Grow.refl s
  ·split
   ·exact Grow.refl s
   ·split
    ·exact Grow.refl s
    ·rename_i _ h2 _
     have hcl : Grow s { s with cl := s.cl.set o.cpu.toNat (s.cl.getD o.cpu.toNat 0 + o.ticks) } := ⟨rfl, by show (s.cl.set _ _).length = _; rw [List.length_set], fun c => by
      show s.cl.getD c 0 ≤ (s.cl.set o.cpu.toNat (s.cl.getD o.cpu.toNat 0 + o.ticks)).getD c 0
      by_cases e : o.cpu.toNat = c
      ·subst e
       rcases Nat.lt_or_ge o.cpu.toNat s.cl.length with h | h
       ·rw [qm _ _ h]; omega
       ·rw [List.set_eq_of_length_le h]; exact Int.le_refl _
      ·rw [getD_set_ne _ _ e]; exact Int.le_refl _, rfl, fun _ => rfl, fun _ _ => Nat.le_refl _⟩
     dsimp only
     split
     ·exact hcl
     ·exact hcl.trans (Grow.ts.trans (Grow.charge ..))
 ·unfold pickS; split
  ·exact Grow.refl s
  ·exact Grow.cu
 ·unfold zx; repeat' split
  all_goals first | exact Grow.refl s | exact Grow.ts
 ·unfold qad
  split
  ·exact Grow.refl s
  ·split
   ·exact Grow.refl s
   ·refine ⟨rfl, rfl, fun _ => Int.le_refl _, List.length_set .., fun g => ?_, fun g c => ?_⟩
    ·show ((s.sp.set o.group.toNat _).getD g []).length = _
     by_cases e : o.group.toNat = g
     ·subst e
      rcases Nat.lt_or_ge o.group.toNat s.sp.length with h | h
      ·rw [qm _ _ h, List.length_map]
      ·rw [List.set_eq_of_length_le h]
     ·rw [getD_set_ne _ _ e]
    ·show (s.spot g c).floor ≤ (((s.sp.set o.group.toNat _).getD g []).getD c Sp.zero).floor
     by_cases e : o.group.toNat = g
     ·subst e
      rcases Nat.lt_or_ge o.group.toNat s.sp.length with h | h
      ·rw [qm _ _ h, List.getD_eq_getElem?_getD, List.getElem?_map]
       unfold Sta.spot
       rw [List.getD_eq_getElem?_getD (l := s.sp.getD o.group.toNat [])]
       cases (s.sp.getD o.group.toNat [])[c]? <;> exact Nat.le_refl _
      ·rw [List.set_eq_of_length_le h]; exact Nat.le_refl _
     ·rw [getD_set_ne _ _ e]; exact Nat.le_refl _
 ·unfold qaj; repeat' split
  all_goals first | exact Grow.refl s | exact Grow.move _ _
 ·unfold qaa; repeat' split
  all_goals first | exact Grow.refl s | exact Grow.move _ _
 ·exact Grow.refl s
theorem Grow.rise : Grow s (riseS s) := ⟨rfl, rfl, fun _ => Int.le_refl _, qbn, qiv, fun g c => by
 rcases Nat.lt_or_ge g s.sp.length with hg | hg
 ·rcases Nat.lt_or_ge c (s.sp.getD g []).length with hc | hc
  ·rw [qko hg hc]
   unfold rise1
   split
   ·exact Nat.le_refl _
   ·exact Nat.le_max_left ..
  ·unfold Sta.spot
   rw [List.getD_eq_getElem?_getD (l := s.sp.getD g []), List.getElem?_eq_none hc]
   exact Nat.zero_le _
 ·unfold Sta.spot
  rw [List.getD_eq_getElem?_getD (l := s.sp), List.getElem?_eq_none hg]
  exact Nat.zero_le _⟩
end
section
variable {s : Sta} {x : Stm} {k c : Nat}
end
theorem Rd.to {w : World} {B sz n : Nat} {A A' : Option Addr} {xs : List Value} (h : Rd w B sz A n xs) (e : A = A') : Rd w B sz A' n xs := e ▸ h
theorem qbp : SI Tryz.prog 102 3 := ⟨by kernel_rfl, by kernel_rfl⟩
theorem qjg : EI Tryz.prog 99 102 (.agg #[vQ 0, vI 0, vI 0]) 3 24 := ⟨by kernel_rfl, by kernel_rfl, rfl, by omega⟩
theorem gr_is {x : Gr} (h1 : x.parent = 0) (h2 : x.weight = 1) : x = ⟨0, 1⟩ := by
 obtain ⟨a, b⟩ := x
 simp only at h1 h2
 rw [h1, h2]
theorem qpe {l : List Tk} {id : Int} (h : ∀ k, k < l.length → (l.getD k Tk.zero).id ≠ id) : fidx l id = -1 := by unfold fidx; rw [qgg h]
theorem qsy {l : List Tk} {id : Int} {i : Nat} (hi : i < l.length) (h : (l.getD i Tk.zero).id = id) (hn : ∀ k, k < i → (l.getD k Tk.zero).id ≠ id) : fidx l id = i := by unfold fidx; rw [qee hi h hn]
theorem qcx (v r : Nat) (wt : Int) (hv : v < 18446744073709551616) (hr : r < 4294967296) (hw : 0 ≤ wt ∧ wt < 4294967296) (w : World) :
    Calls Tryz.prog 106 #[.agg #[vQ v, vW r, vW wt]] w (Is w (.bool (entOk v r wt))) := by
 obtain ⟨z, rfl⟩ : ∃ z : Nat, wt = (z : Int) := ⟨wt.toNat, by omega⟩
 refine (JN1 Tryz.func106 29) ?_
 refine (JP∘JE) fun w1 g1 => (Jp 1∘Jr∘Jg 2 O0∘Jp 2) (Ji (fun hd6 => ?_) fun hd6 => ?_)
 ·
  refine (Jg 2 O0∘Jp 3) (Ji (fun hd11 => ?_) fun hd11 => ?_)
  ·
   refine (Jg 1 O0∘Jg 2 O0∘Jp 3) (Ji (fun hd18 => ?_) fun hd18 => ?_)
   ·
    refine (Jg 0 O0∘Jp 2) (Je (fun hd22 => ?_) fun hd22 => ?_)
    ·
     exact (Jg 1 O0∘Jp 5∘Jd6∘Jj∘JZ∘Jz1) fun L => is_as (by unfold entOk; rw [← decide_not]; exact decide_eq_decide.2 om) L.below
    exact (Jp 7∘Jd6∘Jj∘JZ∘Jz1) fun L => qec om L.below
   exact (Jv 11 [(2, .bool false)]∘Jd6∘Jj∘JZ∘Jz1) fun L => is_no om L.below
  exact (Jv 18 [(2, .bool false)]∘Jd6∘Jj∘JZ∘Jz1) fun L => is_no om L.below
 exact (Jv 23 [(2, .bool false)]∘Jd3∘Jj∘JZ∘Jz1) fun L => is_no om L.below
theorem zl (v r : Nat) (wt : Int) (hw : 0 ≤ wt ∧ wt < 4294967296) (w : World) :
    Calls Tryz.prog 107 #[vQ v, vW r, vI wt] w (Is w (.agg #[vQ v, vW r, vW wt])) := by
 obtain ⟨z, rfl⟩ : ∃ z : Nat, wt = (z : Int) := ⟨wt.toNat, by omega⟩
 refine (JN3 Tryz.func107 12) ?_
 refine (JP∘JA #[vQ 0, vW 0, vW 0]) fun w6 g6 => (Jr∘Jp 3∘Jv 1 [(10, vW (IntKind.u32.wrap (z : Int)))]∘Jo (vW z) (by exact qez rfl om)∘Jy (v := .agg #[vQ v, vW r, vW z]) (h:=by exact Yl.build (vs := [(0, vQ v), (1, vW r), (2, vW z)]) rfl kr kr)∘JV qr O0') fun w1_5 => (Jt5∘Jj∘JZ) fun a I L => ?_
 exact ret1 rfl I (.cellS (i := 0) I L rfl rfl qr rfl) (⟨rfl, L.below⟩)
theorem qk7 (m n : Nat) (hm : m < 18446744073709551616) (hn : 1 ≤ n ∧ n ≤ 64) (w : World) :
    Calls Tryz.prog 108 #[vQ m, vI n] w (Is w (.bool (decide (2 ^ n ≤ m)))) := by
 refine (JN2 Tryz.func108 16) ?_
 refine (JP∘Jp 1∘Jj∘JQ∘JP∘Jp 2∘Jd1∘Jj∘JB) fun a I L => ?_
 refine qg (fun mS aS wS => ∃ (k : Nat), (n ≤ k) ∧ (k ≤ 64) ∧ (∀ i, n ≤ i → i < k → m / 2 ^ i % 2 = 0) ∧ mS = 64 - k ∧ Fr aS 16 [] [(5, vI k), (4, .bool false), (0, vQ m)] ∧ Mem w wS []) (m := 64 - n) ⟨n, Nat.le_refl _, hn.2, fun i h1 h2 => by omega, rfl, I.sub kr, L.pk []⟩ ?_
 clear I L; rintro mS a w_ ⟨k, hkn, hk, hu, rfl, I, L⟩
 refine Jb I L ((JQ∘JP∘Jp 2∘Jd1∘Jj) (Ju (fun hb8 => ?_) fun hb8 => ?_))
 ·
  intro a I L
  have hd8 := of_decide_eq_true hb8
  have hsh := Nat.div_le_self m (2 ^ k)
  refine Jb I L ((JT∘JS'∘JQ∘JB∘JP∘Jp 2∘Jy (v := vQ (m / 2 ^ k : Nat)) (h:=by exact Yl.shrN (m := m) (n := k) rfl rfl rfl (by show _ ≤ 64; omega))∘Jp 1∘Jo (vQ ((m / 2 ^ k) % 2 : Nat)) (by exact qav .u64 _ 2)∘Jp 1∘Jd4∘Jj) (Je (fun hd15 => ?_) fun hd15 => ?_))
  ·
   exact (JT∘JP∘Jp 1∘Jj∘JZ∘Jz1) fun L => qec (qsn hkn om) L.below
  refine (JF∘JS'∘JR∘Jp 1∘JaK 1∘Jp 1∘Jd2∘Jq) fun a I L => ?_
  exact ⟨_, om, k + 1, by omega, by omega, fun i h1 h2 => by rcases Nat.lt_or_ge i k with h3 | h3; exact hu i h1 h3; obtain rfl : i = k := om; omega, rfl, I.sub kr, L.pk []⟩
 intro a I L
 have hd8 := of_decide_eq_false hb8
 exact Jb I L ((JF∘JX∘JG∘JP∘Jp 1∘Jj∘JZ∘Jz1) fun L => is_no (qsm hm hn.2 (fun i h1 h2 => hu i h1 om)) L.below)
theorem qpf (A : Option Addr) (c : Nat) (l : List Gr) (g : Nat) (w : World) (hok : ∀ x ∈ l, x.Ok) (hr : Rd w w.heap.size 2 A l.length (l.flatMap grL)) (hn : l.length ≤ 1000000) (hg : 0 < g ∧ g < l.length) (hp : ∀ i, 0 < i → i < g → ParB l i) :
    Calls Tryz.prog 47 #[.slice A l.length c, vI g] w (DepIs w l g) := by
 refine (JN2 Tryz.func47 35) ?_
 refine (JP∘Jp 1∘Jr∘Jp 1∘Jj∘JQ∘JB) fun a I L => ?_
 refine qg (fun mS aS wS => ∃ (y : Nat) (n : Nat), (y ≤ g) ∧ (n ≤ 5) ∧ (depG l g = n + depG l y) ∧ (y = g ∨ ParB l g) ∧ mS = 0 + y ∧ Fr aS 35 [] [(5, vI n), (4, vI 0), (0, .slice A l.length c), (1, vI y)] ∧ Mem w wS []) (m := 0 + g) ⟨g, 0, Nat.le_refl _, by decide, (Nat.zero_add _).symm, .inl rfl, rfl, I.sub kr, L.pk []⟩ ?_
 clear I L; rintro mS a w_ ⟨y, n, hyg, hn5, hd, hpg, rfl, I, L⟩
 refine Jb I L ((JQ∘JP∘Jp 3) (Ji (fun hd8 => ?_) fun hd8 => ?_))
 ·
  refine (Jp 3∘Jd5∘Jj) (Ji (fun hd11 => ?_) fun hd11 => ?_)
  ·
   refine (JT∘JS'∘JB∘JQ∘JP∘Jp 2) ?_
   repeat (first | clear I | clear L)
   intro a I L
   obtain ⟨gA, oA, rfl, _⟩ := hr.qn (Nat.lt_of_le_of_lt (Nat.zero_le _) (show y < l.length from by omega)) de
   refine Jb I L ((Jy (h:=by exact Yl.ix gA oA y 2 rfl rfl rfl)∘Jf 0∘Jy (v := vI ((l.getD y Gr.zero).parent)) (h:=by exact Yl.qh rfl rfl kr (fun _ h => (by have := (h.old hr).partAt q0 (k := y) (j := 0) (x := (l.getD y Gr.zero)) ((getD_at Gr.zero om)) rfl; simpa using this)))∘Jp 2) (Ji (fun hd18 => ?_) fun hd18 => ?_))
   ·
    exact (Jv 8 [(26, .bool true)]∘Jd6∘Jj∘JT∘JP∘Jp 1∘Jj∘JZ∘Jz1) fun L => qny hp hyg om om L.below
   refine (Jp 2∘Jy (h:=by exact Yl.ix gA oA y 2 rfl rfl rfl)∘Jf 0∘Jy (v := vI ((l.getD y Gr.zero).parent)) (h:=by exact Yl.qh rfl rfl kr (fun _ h => (by have := (h.old hr).partAt q0 (k := y) (j := 0) (x := (l.getD y Gr.zero)) ((getD_at Gr.zero om)) rfl; simpa using this)))∘Jp 3∘Jd6∘Jj) (Ju (fun hb26 => ?_) fun hb26 => ?_)
   ·
    intro a I L
    have hd26 := of_decide_eq_true hb26
    exact Jb I L ((JT∘JP∘Jp 1∘Jj∘JZ∘Jz1) fun L => qny hp hyg om om L.below)
   intro a I L
   have hd26 := of_decide_eq_false hb26
   obtain ⟨z, hz⟩ : ∃ z : Nat, (l.getD y Gr.zero).parent = (z : Int) := ⟨(l.getD y Gr.zero).parent.toNat, by omega⟩
   have hds := quv hp hyg om hz om
   refine Jb I L ((JF∘JS'∘JP∘Jp 2∘Jy (h:=by exact Yl.ix gA oA y 2 rfl rfl rfl)∘Jf 0∘Jy (v := vI ((l.getD y Gr.zero).parent)) (h:=by exact Yl.qh rfl rfl kr (fun _ h => (by have := (h.old hr).partAt q0 (k := y) (j := 0) (x := (l.getD y Gr.zero)) ((getD_at Gr.zero om)) rfl; simpa using this)))∘Jo (vI z) (by rw [hz])∘Jp 1∘Jd5∘Jj∘JR∘Jp 1∘JaK 1∘Jp 1∘Jd2∘Jq) fun a I L => ?_)
   exact ⟨_, om, z, n + 1, by omega, by omega, by omega, .inr (hpg.elim (fun e => e ▸ qw1 hz om) id), rfl, I.sub kr, L.pk []⟩
  exact (JF∘JX∘JG∘JP∘Jp 2∘Jd1∘Jj∘JZ∘Jz1) fun L => qnz hd om hpg hg.1 L.below
 exact (Jp 3∘Jd5∘Jj∘JF∘JX∘JG∘JP∘Jp 2∘Jd1∘Jj∘JZ∘Jz1) fun L => qnz hd om hpg hg.1 L.below
theorem qfs (x : Stm) (hok : x.sta.Ok) (hf : StFew x) (w : World) (hx : StRd w x) :
    Calls Tryz.prog 19 #[.agg #[vI x.cpus, vQ (x.credit : Int), .slice x.gA x.gs.length x.gc]] w (Is w (.bool (cfgOk x.sta))) := by
 have hc := hok.cpus
 have hcr := hok.credit
 replace hc : I64 x.cpus := hc
 replace hcr : x.credit < 18446744073709551616 := hcr
 unfold I64 at hc
 have hfg := hf.g
 have hokg : ∀ y ∈ x.gs, y.Ok := hok.gs
 refine (JN1 Tryz.func19 65) ?_
 refine (JP∘JE) fun w1 g1 => (Jp 1∘Jj∘JQ∘JP∘Jg 0 O0∘Jp 2) (Ji (fun hd7 => ?_) fun hd7 => ?_)
 ·
  exact (Jv 21 [(28, .bool true)]∘Jd3∘Jj∘JT∘JP∘Jp 1∘Jj∘JZ∘Jz1) fun L => is_as (qhp om).symm L.below
 refine (Jg 0 O0∘Jp 3) (Ji (fun hd12 => ?_) fun hd12 => ?_)
 ·
  exact (Jv 16 [(28, .bool true)]∘Jd6∘Jj∘JT∘JP∘Jp 1∘Jj∘JZ∘Jz1) fun L => is_as (qhp om).symm L.below
 refine (Jg 1 O0∘Jp 3) (Ji (fun hd17 => ?_) fun hd17 => ?_)
 ·
  exact (Jv 11 [(28, .bool true)]∘Jd6∘Jj∘JT∘JP∘Jp 1∘Jj∘JZ∘Jz1) fun L => is_as (qhp om).symm L.below
 refine (Jg 2 O0∘Jl∘Jp 3) (Ji (fun hd23 => ?_) fun hd23 => ?_)
 ·
  exact (Jp 5∘Jd6∘Jj∘JT∘JP∘Jp 1∘Jj∘JZ∘Jz1) fun L => is_as (qia (qb2 om)).symm L.below
 refine (Jg 2 O0∘Jl∘Jp 2∘Jd6∘Jj) (Ji (fun hd28 => ?_) fun hd28 => ?_)
 ·
  exact (JT∘JP∘Jp 1∘Jj∘JZ∘Jz1) fun L => is_as (qia (qb2 om)).symm L.below
 refine (JF∘JS'∘JQ∘JP∘Jg 2 O0) fun a I L => ?_
 obtain ⟨gq1, oq1, hq1, _⟩ := Rd.qn hx.g (Nat.lt_of_le_of_lt (Nat.zero_le _) (show 0 < x.gs.length from by omega)) de
 have hrq1 := hx.g; rw [hq1] at hrq1
 replace I := I.sp 30 (.slice (some ⟨gq1, oq1, none⟩) x.gs.length x.gc) rfl (by rw [hq1]; try rfl)
 refine Jb I L ((Jy (v := vP gq1 oq1) (h:=by exact Yl.indexAddr (ad := ⟨gq1, oq1, none⟩) (y := 0) (sz := 2) rfl rfl rfl om kr)∘Jf 0∘Jy (v := vI ((x.gs.getD 0 Gr.zero).parent)) (h:=by exact Yl.qh rfl rfl kr (fun _ h => (by have := (h.old hrq1).partAt q0 (k := 0) (j := 0) (x := (x.gs.getD 0 Gr.zero)) ((getD_at Gr.zero om)) rfl; simpa using this)))∘Jp 2) (Jh (fun hd35 => ?_) fun hd35 => ?_))
 ·
  exact (Jp 7∘Jd6∘Jj∘JT∘JP∘Jp 1∘Jj∘JZ∘Jz1) fun L => is_as (qia (qb2 (fun h => by rw [h.2.2] at hd35; exact hd35 rfl))).symm L.below
 refine (Jg 2 O0) fun a I L => ?_
 replace I := I.sp 37 (.slice (some ⟨gq1, oq1, none⟩) x.gs.length x.gc) rfl (by rw [hq1]; try rfl)
 refine Jb I L ((Jy (v := vP gq1 oq1) (h:=by exact Yl.indexAddr (ad := ⟨gq1, oq1, none⟩) (y := 0) (sz := 2) rfl rfl rfl om kr)∘Jf 1∘Jy (v := vI ((x.gs.getD 0 Gr.zero).weight)) (h:=by exact Yl.qh rfl rfl kr (fun _ h => (h.old hrq1).partAt q0 (k := 0) (j := 1) (x := (x.gs.getD 0 Gr.zero)) ((getD_at Gr.zero om)) rfl))∘Jp 2∘Jd6∘Jj) (Ju (fun hb42 => ?_) fun hb42 => ?_))
 ·
  intro a I L
  have hd42 := bne_iff_ne.1 hb42
  exact Jb I L ((JT∘JP∘Jp 1∘Jj∘JZ∘Jz1) fun L => is_as (qia (qb2 (fun h => by rw [h.2.2] at hd42; exact hd42 rfl))).symm L.below)
 intro a I L
 have hd42 := bne_eq_false_iff_eq.1 hb42
 have hg0 : (x.gs.getD 0 Gr.zero) = ⟨0, 1⟩ := gr_is hd35 hd42
 refine Jb I L ((JF∘JS'∘JQ∘JP∘Jp 1∘Jj∘JB) fun a I L => ?_)
 refine qg (fun mS aS wS => ∃ (g : Nat), (1 ≤ g) ∧ (g ≤ x.gs.length) ∧ (UpTo g (gOk x.gs)) ∧ mS = x.gs.length - g ∧ Fr aS 65 [] [(3, vI g), (42, .bool false), (28, .bool false), (2, .bool false), (1, vP g1 0)] ∧ Mem w wS [.blk g1 #[vI x.cpus, vQ x.credit, .slice x.gA x.gs.length x.gc] 33]) (m := x.gs.length - 1) ⟨1, Nat.le_refl _, by omega, UpTo.zero.succ (qm2 x.gs), rfl, I.sub kr, L.pk [0]⟩ ?_
 clear I L; rintro mS a w_ ⟨g, hg1, hgl, hu, rfl, I, L⟩
 refine Jb I L ((JQ∘JP∘Jp 1∘Jg 2 O0∘Jl∘Jp 1∘Jd3∘Jj) (Ju (fun hb47 => ?_) fun hb47 => ?_))
 ·
  intro a I L
  have hd47 := of_decide_eq_true hb47
  have hg47 : g < x.gs.length := by omega
  have hOk := hok.gs _ (qf Gr.zero hg47)
  have hOw := hOk.weight
  unfold I64 at hOw
  refine Jb I L ((JT∘JS'∘JQ∘JB∘JP∘Jg 2 O0∘Jp 1) fun a I L => ?_)
  replace I := I.sp 51 (.slice (some ⟨gq1, oq1, none⟩) x.gs.length x.gc) rfl (by rw [hq1]; try rfl)
  refine Jb I L ((Jy (h:=by exact Yl.ix gq1 oq1 g 2 rfl rfl rfl)∘Jf 1∘Jy (v := vI ((x.gs.getD g Gr.zero).weight)) (h:=by exact Yl.qh rfl rfl kr (fun _ h => (h.old hrq1).partAt q0 (k := g) (j := 1) (x := (x.gs.getD g Gr.zero)) ((getD_at Gr.zero om)) rfl))∘JL (h:=by exact fun L => qa8 ((x.gs.getD g Gr.zero).weight) _)) ?_)
  rintro L _ w56 ⟨rfl, hbw⟩
  refine ⟨_, rfl, _, L.call hbw, ?_⟩
  refine (Jp 2) (Ju (fun hb58 => ?_) fun hb58 => ?_)
  ·
   intro a I L
   have hd58 := of_decide_eq_false ((Bool.not_eq_true' _).mp hb58)
   exact Jb I L ((Jp 6∘Jd6∘Jj∘JT∘JP∘Jp 1∘Jj∘JZ∘Jz1) fun L => is_as (qia (qe1 hg47 (qho om (fun h => hd58 h.2.2.1)))).symm L.below)
  intro a I L
  have hd58 := of_decide_eq_true ((Bool.not_eq_false' _).mp hb58)
  refine Jb I L ((Jg 2 O0∘Jp 1∘JL (h:=by exact fun L => qpf x.gA x.gc x.gs g _ hok.gs (L.old hx.g) hf.g ⟨by omega, by omega⟩ (qw3 hu))) ?_)
  rintro L _ w62 ⟨⟨d, rfl, hd⟩, hbw⟩
  refine ⟨_, rfl, _, L.call hbw, ?_⟩
  refine (Jp 2∘Jd6∘Jj) (Ji (fun hd64 => ?_) fun hd64 => ?_)
  ·
   exact (JT∘JP∘Jp 1∘Jj∘JZ∘Jz1) fun L => is_as (qia (qe1 hg47 (qw2 om (fun h => by have := hd.2 h; omega)))).symm L.below
  refine (JF∘JS'∘JR∘Jp 1∘JaK 1∘Jp 1∘Jd2∘Jq) fun a I L => ?_
  exact ⟨_, om, g + 1, by omega, by omega, hu.succ (quw (hd.1 om) (by simpa using hb58)), rfl, I.sub kr, L.pk [0]⟩
 intro a I L
 have hd47 := of_decide_eq_false hb47
 exact Jb I L ((JF∘JX∘JG∘JP∘Jp 1∘Jj∘JZ∘Jz1) fun L => by exact is_as ((qqm om).trans (qm1 ⟨by omega, by omega, hg0⟩ (fun i hi => hu i om))).symm L.below)
theorem qk8 (x : Stm) (id : Int) (w : World) (hx : StRd w x) (hn : x.ts.length ≤ 1000000) :
    Calls Tryz.prog 55 #[.agg x.cells, vI id] w (Is w (vI (fidx x.ts id))) := by
 refine (JN2 Tryz.func55 22) ?_
 refine (JP∘JE) fun w2 g2 => (Jp 1∘Jj∘JQ∘JP∘Jp 1∘Jj∘JB) fun a I L => ?_
 refine qg (fun mS aS wS => ∃ (i : Nat), (i ≤ x.ts.length) ∧ (∀ k, k < i → (x.ts.getD k Tk.zero).id ≠ id) ∧ mS = x.ts.length - i ∧ Fr aS 22 [] [(5, vI i), (4, vI 0), (2, vP g2 0), (1, vI id)] ∧ Mem w wS [.blk g2 x.cells 45]) (m := x.ts.length - 0) ⟨0, Nat.zero_le _, fun k h => by omega, rfl, I.sub kr, L.pk [0]⟩ ?_
 clear I L; rintro mS a w_ ⟨i, hi, hu, rfl, I, L⟩
 refine Jb I L ((JQ∘JP∘Jp 1∘Jg 5 O0∘Jl∘Jp 1∘Jd3∘Jj) (Ju (fun hb10 => ?_) fun hb10 => ?_))
 ·
  intro a I L
  have hd10 := of_decide_eq_true hb10
  have hi10 : i < x.ts.length := by omega
  refine Jb I L ((JT∘JS'∘JQ∘JB∘JP∘Jg 5 O0∘Jp 1) fun a I L => ?_)
  obtain ⟨gq1, oq1, hq1, _⟩ := Rd.qn hx.t (Nat.lt_of_le_of_lt (Nat.zero_le _) (show i < x.ts.length from by omega)) de
  have hrq1 := hx.t; rw [hq1] at hrq1
  replace I := I.sp 14 (.slice (some ⟨gq1, oq1, none⟩) x.ts.length x.tc) rfl (by rw [hq1]; try rfl)
  refine Jb I L ((Jy (h:=by exact Yl.ix gq1 oq1 i 8 rfl rfl rfl)∘Jf 0∘Jy (v := vI ((x.ts.getD i Tk.zero).id)) (h:=by exact Yl.qh rfl rfl kr (fun _ h => (by have := (h.old hrq1).partAt qd (k := i) (j := 0) (x := (x.ts.getD i Tk.zero)) ((getD_at Tk.zero om)) rfl; simpa using this)))∘Jp 2∘Jd4∘Jj) (Je (fun hd20 => ?_) fun hd20 => ?_))
  ·
   exact (JT∘JP∘Jp 2∘Jd1∘Jj∘JZ∘Jz1) fun L => by exact ⟨by rw [qsy hi10 hd20 hu], L.below⟩
  refine (JF∘JS'∘JR∘Jp 1∘JaK 1∘Jp 1∘Jd2∘Jq) fun a I L => ?_
  exact ⟨_, om, i + 1, by omega, qht hu hd20, rfl, I.sub kr, L.pk [0]⟩
 intro a I L
 have hd10 := of_decide_eq_false hb10
 exact Jb I L ((JF∘JX∘JG∘JP∘Jp 1∘Jj∘JZ∘Jz1) fun L => by exact ⟨by rw [qpe (fun k h => hu k om)], L.below⟩)
theorem qmh (p q : Mb) (w : World) :
    Calls Tryz.prog 109 #[.agg p.rcells, .agg q.rcells] w (Is w (.bool (p.lt q))) := by
 refine (JN2 Tryz.func109 30) ?_
 refine (JP∘JE) fun w2 g2 => (JE) fun w3 g3 => (Jp 1∘Jj∘JQ∘JP∘Jg 0 O1∘Jg 0 O0∘Jp 1∘Jd2∘Jj) (Jh (fun hd9 => ?_) fun hd9 => ?_)
 ·
  exact (JT∘JP∘Jg 0 O1∘Jg 0 O0∘Jp 2∘Jd3∘Jj∘JZ∘Jz1) fun L => qsr (lt_v om) L.below
 refine (JF∘JS'∘JQ∘JP∘Jg 1 O1∘Jg 1 O0∘Jp 1∘Jd2∘Jj) (Jh (fun hd19 => ?_) fun hd19 => ?_)
 ·
  exact (JT∘JP∘Jg 1 O1∘Jg 1 O0∘Jp 2∘Jd3∘Jj∘JZ∘Jz1) fun L => qsr (lt_k om om) L.below
 exact (JF∘JS'∘JP∘Jg 2 O1∘Jg 2 O0∘Jp 2∘Jd3∘Jj∘JZ∘Jz1) fun L => qsr (lt_id om om) L.below
theorem qmi (x : Stm) (hok : x.sta.Ok) (hf : StFew x) (w : World) (hx : StRd w x) :
    Calls Tryz.prog 53 #[.agg x.cells] w (Is w (.bool (shpS x.sta))) := by
 have hfs := hf.s; have hft := hf.t; have hfg := hf.g; have hfl := hf.l; have hfu := hf.u
 refine (JN1 Tryz.func53 123) ?_
 refine (JP∘JE) fun w1 g1 => (Jp 1∘Jj∘JQ∘JP∘Jf 0∘Jy (v := .agg #[vI x.cpus, vQ x.credit, .slice x.gA x.gs.length x.gc]) (h:=by exact Yl.loadS rfl rfl zq rfl (fun _ h => h.sub (i := 0) rfl 0 rfl))∘JI (h:=by exact fun L => qfs x hok hf _ (hx.old L))) fun w9 hbw => (Jp 2) (Ju (fun hb11 => ?_) fun hb11 => ?_)
 ·
  exact (Jv 27 [(38, .bool true)]∘Jd5∘Jj∘JT∘JP∘Jp 1∘Jj∘JZ∘Jz1) fun L => is_as (qw4 (by simpa using hb11)).symm L.below
 intro a I L
 have hcf : cfgOk x.sta = true := by simpa using hb11
 obtain ⟨hc1, hc2, hc3, hgs⟩ := zj hcf
 refine Jb I L ((Jg 3 O0∘Jl∘Jf 0∘Jg 0 O0∘Jp 3) (Jh (fun hd20 => ?_) fun hd20 => ?_))
 ·
  exact (Jv 18 [(38, .bool true)]∘Jd6∘Jj∘JT∘JP∘Jp 1∘Jj∘JZ∘Jz1) fun L => is_as (qmf om).symm L.below
 refine (Jg 4 O0∘Jl∘Jf 0∘Jg 0 O0∘Jp 3) (Jh (fun hd29 => ?_) fun hd29 => ?_)
 ·
  exact (Jv 9 [(38, .bool true)]∘Jd6∘Jj∘JT∘JP∘Jp 1∘Jj∘JZ∘Jz1) fun L => is_as (qmf om).symm L.below
 refine (Jg 6 O0∘Jl∘Jf 0∘Jg 2 O0∘Jl∘Jp 2∘Jd6∘Jj) (Jh (fun hd38 => ?_) fun hd38 => ?_)
 ·
  exact (JT∘JP∘Jp 1∘Jj∘JZ∘Jz1) fun L => is_as (qmf om).symm L.below
 refine (JF∘JS'∘JQ∘JP∘Jp 1∘Jj∘JB) fun a I L => ?_
 refine qg (fun mS aS wS => ∃ (k : Nat), (k ≤ x.cl.length) ∧ (UpTo k (fun c => clOk (x.cl.getD c 0))) ∧ mS = x.cl.length - k ∧ Fr aS 123 [] [(3, vI k), (38, .bool false), (2, .bool false), (1, vP g1 0)] ∧ Mem w wS [.blk g1 x.cells 45]) (m := x.cl.length - 0) ⟨0, Nat.zero_le _, UpTo.zero, rfl, I.sub kr, L.pk [0]⟩ ?_
 clear I L; rintro mS a w_ ⟨k, hk, hu0, rfl, I, L⟩
 refine Jb I L ((JQ∘JP∘Jp 1∘Jg 3 O0∘Jl∘Jp 1∘Jd3∘Jj) (Ju (fun hb43 => ?_) fun hb43 => ?_))
 ·
  intro a I L
  have hd43 := of_decide_eq_true hb43
  have hk43 : k < x.cl.length := by omega
  refine Jb I L ((JT∘JS'∘JQ∘JB∘JP∘Jg 3 O0∘Jp 1) fun a I L => ?_)
  obtain ⟨gq1, oq1, hq1, _⟩ := Rd.qn hx.l (Nat.lt_of_le_of_lt (Nat.zero_le _) (show k < x.cl.length from by omega)) de
  have hrq1 := hx.l; rw [hq1] at hrq1
  replace I := I.sp 47 (.slice (some ⟨gq1, oq1, none⟩) x.cl.length x.lc) rfl (by rw [hq1]; try rfl)
  refine Jb I L ((Jy (h:=by exact Yl.ix gq1 oq1 k 1 rfl rfl rfl)∘Jy (h:=by exact Yl.o1 hrq1 k 0 om rfl rfl)∘Jp 2) (Ji (fun hd52 => ?_) fun hd52 => ?_))
  ·
   exact (Jp 7∘Jd6∘Jj∘JT∘JP∘Jp 1∘Jj∘JZ∘Jz1) fun L => is_as (qvx hk43 (qsp om)).symm L.below
  refine (Jg 3 O0∘Jp 1) fun a I L => ?_
  replace I := I.sp 54 (.slice (some ⟨gq1, oq1, none⟩) x.cl.length x.lc) rfl (by rw [hq1]; try rfl)
  refine Jb I L ((Jy (h:=by exact Yl.ix gq1 oq1 k 1 rfl rfl rfl)∘Jy (h:=by exact Yl.o1 hrq1 k 0 om rfl rfl)∘Jp 2∘Jd6∘Jj) (Ji (fun hd59 => ?_) fun hd59 => ?_))
  ·
   exact (JT∘JP∘Jp 1∘Jj∘JZ∘Jz1) fun L => is_as (qvx hk43 (qsp om)).symm L.below
  refine (JF∘JS'∘JR∘Jp 1∘JaK 1∘Jp 1∘Jd2∘Jq) fun a I L => ?_
  exact ⟨_, om, k + 1, by omega, hu0.succ (qux om), rfl, I.sub kr, L.pk [0]⟩
 intro a I L
 have hd43 := of_decide_eq_false hb43
 refine Jb I L ((JF∘JX∘JG∘JQ∘JP∘Jp 1∘Jj∘JB) fun a I L => ?_)
 refine qg (fun mS aS wS => ∃ (g : Nat), (g ≤ x.rs.length) ∧ (UpTo g (rowOk x.sta)) ∧ mS = x.rs.length - g ∧ Fr aS 123 [] [(4, vI g), (43, .bool false), (3, vI k), (38, .bool false), (2, .bool false), (1, vP g1 0)] ∧ Mem w wS [.blk g1 x.cells 45]) (m := x.rs.length - 0) ⟨0, Nat.zero_le _, UpTo.zero, rfl, I.sub kr, L.pk [0]⟩ ?_
 clear I L; rintro mS a w_ ⟨g, hg, hu, rfl, I, L⟩
 refine Jb I L ((JQ∘JP∘Jp 1∘Jg 6 O0∘Jl∘Jp 1∘Jd3∘Jj) (Ju (fun hb64 => ?_) fun hb64 => ?_))
 ·
  intro a I L
  have hd64 := of_decide_eq_true hb64
  have hg48 : g < x.rs.length := by omega
  obtain ⟨y, hy⟩ : ∃ z, x.rs.getD g Rw.zero = z := ⟨_, rfl⟩
  have hyr : Rd w w.heap.size 3 y.A y.l.length (y.l.flatMap spL) := by rw [← hy]; exact hx.row hg48
  have hyl : y.l.length ≤ 1000000 := by rw [← hy]; exact hf.r _ (qf Rw.zero hg48)
  have hyo : ∀ z ∈ y.l, z.Ok := by rw [← hy, ← rs_at hg48]; exact hok.sp _ (qf [] (by rw [zg]; exact hg48))
  obtain ⟨wt, hwt⟩ : ∃ z, (x.gs.getD g Gr.zero).weight = z := ⟨_, rfl⟩
  have hw1 := wt_at hgs (show g < x.gs.length by omega)
  rw [hwt] at hw1
  obtain ⟨gq2, oq2, hq2, _⟩ := Rd.qn hx.g (Nat.lt_of_le_of_lt (Nat.zero_le _) (show g < x.gs.length from by omega)) de
  have hrq2 := hx.g; rw [hq2] at hrq2
  obtain ⟨gq3, oq3, hq3, _⟩ := Rd.qn hx.s (Nat.lt_of_le_of_lt (Nat.zero_le _) (show g < x.rs.length from hg48)) de
  have hrq3 := hx.s; rw [hq3] at hrq3
  refine Jb I L ((JT∘JS'∘JQ∘JB∘JQ) fun a I L => ?_)
  refine wp_seq ?_
  refine Jb I L ((Vs .n []) fun wd11 => (Vf 0 6∘Vp [2]∘Vf 6 0∘Vf 7 0∘Vc 1 O0) fun a I L HS => ?_)
  replace I := I.sp 68 (.slice (some ⟨gq3, oq3, none⟩) x.rs.length x.sc) rfl (by rw [hq3]; try rfl)
  refine Vb I L HS ((Vy 3 (h:=by exact Yl.ix gq3 oq3 g 1 rfl rfl rfl)∘Vy 4 (v := .slice ((x.rs.getD g Rw.zero).A) ((x.rs.getD g Rw.zero).l.length) ((x.rs.getD g Rw.zero).c)) (h:=by exact Yl.o1 hrq3 g Rw.zero hg48 rfl rfl)∘Vo (.slice y.A y.l.length y.c) (by rw [hy])∘Vl 5∘Vc 8 O0∘Vp [9]∘Vd∘Jd6) (Jh (fun hd76 => ?_) fun hd76 => ?_))
  ·
   exact (JT∘JP∘Jp 1∘Jj∘JZ∘Jz1) fun L => is_as (qso hg48 (qqo hg48 (by rw [hy]; omega))).symm L.below
  refine (JF∘JS'∘JP∘Jp 1∘Jj∘JB) fun a I L => ?_
  refine qg (fun mS aS wS => ∃ (c : Nat), (c ≤ y.l.length) ∧ (UpTo c (fun c => spOk x.sta g (y.l.getD c Sp.zero))) ∧ mS = y.l.length - c ∧ Fr aS 123 [] [(5, vI c), (76, .bool false), (64, .bool true), (4, vI g), (43, .bool false), (3, vI k), (38, .bool false), (2, .bool false), (1, vP g1 0)] ∧ Mem w wS [.blk g1 x.cells 45]) (m := y.l.length - 0) ⟨0, Nat.zero_le _, UpTo.zero, rfl, I.sub kr, L.pk [0]⟩ ?_
  clear I L; rintro mS a w_ ⟨c, hc, hu2, rfl, I, L⟩
  refine Jb I L ((JQ∘JP∘Jp 1∘Jg 6 O0∘Jp 1) fun a I L => ?_)
  replace I := I.sp 79 (.slice (some ⟨gq3, oq3, none⟩) x.rs.length x.sc) rfl (by rw [hq3]; try rfl)
  refine Jb I L ((Jy (h:=by exact Yl.ix gq3 oq3 g 1 rfl rfl rfl)∘Jy (v := .slice ((x.rs.getD g Rw.zero).A) ((x.rs.getD g Rw.zero).l.length) ((x.rs.getD g Rw.zero).c)) (h:=by exact Yl.o1 hrq3 g Rw.zero hg48 rfl rfl)∘Jo (.slice y.A y.l.length y.c) (by rw [hy])∘Jl∘Jp 1∘Jd6∘Jj) (Ju (fun hb84 => ?_) fun hb84 => ?_))
  ·
   intro a I L
   have hd84 := of_decide_eq_true hb84
   have hc61 : c < y.l.length := by omega
   obtain ⟨z, hz⟩ : ∃ q, y.l.getD c Sp.zero = q := ⟨_, rfl⟩
   have hzo := hyo _ (qf Sp.zero hc61)
   rw [hz] at hzo
   have hzv := hzo.v; have hzr := hzo.r
   refine Jb I L ((JT∘JS'∘JQ∘JB∘JP∘Jg 6 O0∘Jp 1) fun a I L => ?_)
   replace I := I.sp 88 (.slice (some ⟨gq3, oq3, none⟩) x.rs.length x.sc) rfl (by rw [hq3]; try rfl)
   refine Jb I L ((Jy (h:=by exact Yl.ix gq3 oq3 g 1 rfl rfl rfl)∘Jy (v := .slice ((x.rs.getD g Rw.zero).A) ((x.rs.getD g Rw.zero).l.length) ((x.rs.getD g Rw.zero).c)) (h:=by exact Yl.o1 hrq3 g Rw.zero hg48 rfl rfl)∘Jo (.slice y.A y.l.length y.c) (by rw [hy])∘Jp 1) fun a I L => ?_)
   obtain ⟨gq4, oq4, hq4, _⟩ := Rd.qn hyr (Nat.lt_of_le_of_lt (Nat.zero_le _) (show c < y.l.length from by omega)) de
   have hrq4 := hyr; rw [hq4] at hrq4
   replace I := I.sp 91 (.slice (some ⟨gq4, oq4, none⟩) y.l.length y.c) rfl (by rw [hq4]; try rfl)
   refine Jb I L ((Jy (h:=by exact Yl.ix gq4 oq4 c 3 rfl rfl rfl)∘Jy (v := .agg ((y.l.getD c Sp.zero).cells)) (h:=by exact Yl.loadS rfl rfl si_sp rfl (fun _ h => (h.old hrq4).q8 z8 ((getD_at Sp.zero hc61))))∘Jo (.agg z.cells) (by rw [hz])∘JA #[vQ 0, vW 0, vQ 0]) fun w6 g6 => (JV si_sp O0' (h1:=by exact qmy z)) fun w16_9 => (Jd6∘Jj) fun a I L => ?_)
   refine qz (fun aS wS => Fr aS 123 [] [(122, .bool (!spOk x.sta g z)), (6, vP g6 0), (84, .bool true), (5, vI c), (76, .bool false), (64, .bool true), (4, vI g), (43, .bool false), (3, vI k), (38, .bool false), (2, .bool false), (1, vP g1 0)] ∧ Mem w wS [.blk g6 z.cells 83, .blk g1 x.cells 45]) ?_ ?_
   ·
    refine Jb I L ((Vs .n []) fun wd17 => (Vf 0 0∘Vf 2 1∘Vf 4 0∘Vf 5 2∘Vp [7]∘Vc 1 O0∘Vc 3 O0∘Vc 6 O1) fun a I L HS => ?_)
    replace I := I.sp 101 (.slice (some ⟨gq2, oq2, none⟩) x.gs.length x.gc) rfl (by rw [hq2]; try rfl)
    refine Vb I L HS ((Vy 8 (h:=by exact Yl.ix gq2 oq2 g 2 rfl rfl rfl)∘Vf 9 1∘Vy 10 (v := vI ((x.gs.getD g Gr.zero).weight)) (h:=by exact Yl.qh rfl rfl kr (fun _ h => (h.old hrq2).partAt q0 (k := g) (j := 1) (x := (x.gs.getD g Gr.zero)) ((getD_at Gr.zero om)) rfl))∘Vo (vI wt) (by rw [hwt])∘VI 11 .n (h:=by exact fun L => zl z.v z.r wt om _)) fun w106 hbw => (VI 12 .n (h:=by exact fun L => qcx z.v z.r wt om om om _)) fun w107 hbw => (Vp [13, 14]) fun a I L HS => ?_)
    rcases I.tf 109 rfl with ⟨hb109, I⟩ | ⟨hb109, I⟩
    ·
     refine Vb I L HS ((Vq [15, 16, 17, 18, 19, 20, 21, 22, 23, 24, 25, 26, 27] [(122, .bool true)]∘Vd∘Jd6) fun a I L => ?_)
     have I := I.sp 122 (.bool (!spOk x.sta g z)) rfl (congrArg Value.bool (by rw [qvo (by rw [hwt]; simpa using hb109)]; rfl))
     exact ⟨I.sub kr, L.pk [0, 1]⟩
    refine ap I (fun _ => HS) [15, 16, 17] (bt 28 [18, 19, 20, 21, 22, 23, 24, 25, 26, 27]) [(112, .bool ((g : Int) == (0 : Int)))] fun a I => ?_
    refine Jb I L (Je (fun hd112 => ?_) fun hd112 => ?_)
    ·
     intro a I L
     refine ap I (fun _ => HS) [18] (bt 28 [19, 20, 21, 22, 23, 24, 25, 26, 27]) [(113, vP g6 0)] fun a I => ?_
     refine s_ac I HS 19 0 (v := vQ z.v) fun a I => ?_
     refine ap I (fun _ => HS) [20, 21] (bt 28 [22, 23, 24, 25, 26, 27]) [(116, .bool (decide ((z.v : Int) > (0 : Int))))] fun a I => ?_
     refine Jb I L (Ji (fun hd116 => ?_) fun hd116 => ?_)
     ·
      intro a I L
      refine ap I (fun _ => HS) [22, 23, 24, 25, 26, 27] (bt 28 []) [(122, .bool true)] fun a I => ?_
      refine qb kr ?_
      have I := I.sp 122 (.bool (!spOk x.sta g z)) rfl (congrArg Value.bool (by rw [qvp om om]; rfl))
      exact ⟨I.sub kr, L.pk [0, 1]⟩
     intro a I L
     refine ap I (fun _ => HS) [22] (bt 28 [23, 24, 25, 26, 27]) [(117, vP g6 1)] fun a I => ?_
     refine s_ac I HS 23 0 (v := vW z.r) fun a I => ?_
     refine ap I (fun _ => HS) [24, 25, 26, 27] (bt 28 []) [(122, .bool (decide ((z.r : Int) > (0 : Int))))] fun a I => ?_
     refine qb kr ?_
     have I := I.sp 122 (.bool (!spOk x.sta g z)) rfl (congrArg Value.bool (quy (by rw [hwt]; simpa using hb109) om om))
     exact ⟨I.sub kr, L.pk [0, 1]⟩
    intro a I L
    refine ap I (fun _ => HS) [18, 19, 20, 21, 22, 23, 24, 25, 26, 27] (bt 28 []) [(122, .bool false)] fun a I => ?_
    refine qb kr ?_
    have I := I.sp 122 (.bool (!spOk x.sta g z)) rfl (congrArg Value.bool (by rw [qqq (by rw [hwt]; simpa using hb109) om]; rfl))
    exact ⟨I.sub kr, L.pk [0, 1]⟩
   clear I L; rintro a w17 ⟨I, L⟩
   refine Jb I L (Ju (fun hb122 => ?_) fun hb122 => ?_)
   ·
    exact (JT∘JP∘Jp 1∘Jj∘JZ∘Jz1) fun L => is_as (qso hg48 (qqp hg48 (by rw [hy]; exact hc61) (by rw [hy, hz]; simpa using hb122))).symm L.below
   refine (JF∘JS'∘JR∘Jp 1∘JaK 1∘Jp 1∘Jd2∘Jq) fun a I L => ?_
   exact ⟨_, om, c + 1, by omega, hu2.succ (by rw [hz]; simpa using hb122), rfl, I.sub kr, L.pk [1]⟩
  intro a I L
  have hd84 := of_decide_eq_false hb84
  refine Jb I L ((JF∘JX∘JG∘JR∘Jp 1∘JaK 1∘Jp 1∘Jd2∘Jq) fun a I L => ?_)
  exact ⟨_, om, g + 1, by omega, hu.succ (qlo hg48 (by rw [hy]; omega) (by rw [hy]; exact fun i hi => hu2 i om)), rfl, I.sub kr, L.pk [0]⟩
 intro a I L
 have hd64 := of_decide_eq_false hb64
 exact Jb I L ((JF∘JX∘JG∘JP∘Jp 1∘Jj∘JZ∘Jz1) fun L => is_as (qw5 hcf om (fun i hi => hu0 i om) (fun i hi => hu i om)).symm L.below)
theorem qpl (x : Stm) (hok : x.sta.Ok) (hf : StFew x) (w : World) (hx : StRd w x) (hcp : 1 ≤ x.cpus ∧ x.cpus ≤ 64) (hrs : x.rs.length = x.gs.length) :
    Calls Tryz.prog 54 #[.agg x.cells] w (Is w (.bool (allN x.ts.length (tkAt x.sta)))) := by
 have hft := hf.t; have hfg := hf.g
 obtain ⟨n, hn⟩ : ∃ n : Nat, x.cpus = (n : Int) := ⟨x.cpus.toNat, by omega⟩
 have hn64 : 1 ≤ n ∧ n ≤ 64 := by omega
 refine (JN1 Tryz.func54 92) ?_
 refine (JP∘JE) fun w1 g1 => (Jp 1∘Jr∘Jp 1∘Jj∘JQ∘JP∘Jp 1∘Jj∘JB) fun a I L => ?_
 refine qg (fun mS aS wS => ∃ (i : Nat), (i ≤ x.ts.length) ∧ (0 ≤ qcw x.ts i) ∧ (UpTo i (tkAt x.sta)) ∧ mS = x.ts.length - i ∧ Fr aS 92 [] [(4, vI i), (3, vI (qcw x.ts i)), (2, .bool false), (1, vP g1 0)] ∧ Mem w wS [.blk g1 x.cells 45]) (m := x.ts.length - 0) ⟨0, Nat.zero_le _, Int.le_refl _, UpTo.zero, rfl, I.sub kr, L.pk [0]⟩ ?_
 clear I L; rintro mS a w_ ⟨i, hi, hpp, hu3, rfl, I, L⟩
 refine Jb I L ((JQ∘JP∘Jp 1∘Jg 5 O0∘Jl∘Jp 1∘Jd3∘Jj) (Ju (fun hb10 => ?_) fun hb10 => ?_))
 ·
  intro a I L
  have hd10 := of_decide_eq_true hb10
  have hi98 : i < x.ts.length := by omega
  obtain ⟨t, ht⟩ : ∃ q, x.ts.getD i Tk.zero = q := ⟨_, rfl⟩
  have htok : t.Ok := by rw [← ht]; exact hok.ts _ (qf Tk.zero hi98)
  have hti := htok.id
  have htv := htok.v; have htr := htok.r; have htm := htok.mask
  unfold I64 at hti
  refine Jb I L ((JT∘JS'∘JQ∘JB∘JP∘Jg 5 O0∘Jp 1) fun a I L => ?_)
  obtain ⟨gq1, oq1, hq1, _⟩ := Rd.qn hx.t (Nat.lt_of_le_of_lt (Nat.zero_le _) (show i < x.ts.length from by omega)) de
  have hrq1 := hx.t; rw [hq1] at hrq1
  replace I := I.sp 14 (.slice (some ⟨gq1, oq1, none⟩) x.ts.length x.tc) rfl (by rw [hq1]; try rfl)
  refine Jb I L ((Jy (h:=by exact Yl.ix gq1 oq1 i 8 rfl rfl rfl)∘Jy (v := .agg ((x.ts.getD i Tk.zero).cells)) (h:=by exact Yl.loadS rfl rfl si_tk rfl (fun _ h => (h.old hrq1).q8 qd ((getD_at Tk.zero hi98))))∘Jo (.agg t.cells) (by rw [ht])∘JA #[vI 0, vI 0, vI 0, vI 0, vQ 0, .bool false, vQ 0, vW 0]) fun w5 g5 => (JV si_tk O0' (h1:=by exact qa4 t)) fun w5_6 => (Jd5∘Jj∘JQ∘JP∘Jg 0 O0∘Jp 3) (Ji (fun hd22 => ?_) fun hd22 => ?_))
  ·
   exact (Jv 41 [(63, .bool true)]∘Jd4∘Jj∘JT∘JP∘Jp 1∘Jj∘JZ∘Jz1) fun L => is_as (zf hi98 (qss ht om)).symm L.below
  refine (Jg 0 O0∘Jp 3) (Ji (fun hd27 => ?_) fun hd27 => ?_)
  ·
   exact (Jv 36 [(63, .bool true)]∘Jd6∘Jj∘JT∘JP∘Jp 1∘Jj∘JZ∘Jz1) fun L => is_as (zf hi98 (qdk ht (qcc om))).symm L.below
  refine (Jg 1 O0∘Jp 3) (Ji (fun hd32 => ?_) fun hd32 => ?_)
  ·
   exact (Jv 31 [(63, .bool true)]∘Jd6∘Jj∘JT∘JP∘Jp 1∘Jj∘JZ∘Jz1) fun L => is_as (zf hi98 (qdk ht (qcc om))).symm L.below
  refine (Jg 1 O0∘Jf 0∘Jg 2 O1∘Jl∘Jp 3) (Ji (fun hd41 => ?_) fun hd41 => ?_)
  ·
   exact (Jv 22 [(63, .bool true)]∘Jd6∘Jj∘JT∘JP∘Jp 1∘Jj∘JZ∘Jz1) fun L => is_as (zf hi98 (qdk ht (qcc om))).symm L.below
  refine (Jg 3 O0∘Jp 3) (Ji (fun hd46 => ?_) fun hd46 => ?_)
  ·
   exact (Jv 17 [(63, .bool true)]∘Jd6∘Jj∘JT∘JP∘Jp 1∘Jj∘JZ∘Jz1) fun L => is_as (zf hi98 (qdk ht (qcc om))).symm L.below
  refine (Jg 3 O0∘Jf 0∘Jg 0 O1∘Jp 3) (Ji (fun hd54 => ?_) fun hd54 => ?_)
  ·
   exact (Jv 9 [(63, .bool true)]∘Jd6∘Jj∘JT∘JP∘Jp 1∘Jj∘JZ∘Jz1) fun L => is_as (zf hi98 (qdk ht (qcc om))).symm L.below
  refine (Jg 2 O0∘Jp 3) (Ji (fun hd59 => ?_) fun hd59 => ?_)
  ·
   exact (Jp 4∘Jd6∘Jj∘JT∘JP∘Jp 1∘Jj∘JZ∘Jz1) fun L => is_as (zf hi98 (qdk ht (qqk om))).symm L.below
  refine (Jg 2 O0∘Jp 2∘Jd6∘Jj) (Ju (fun hb63 => ?_) fun hb63 => ?_)
  ·
   intro a I L
   have hd63 := of_decide_eq_true hb63
   exact Jb I L ((JT∘JP∘Jp 1∘Jj∘JZ∘Jz1) fun L => is_as (zf hi98 (qdk ht (qqk om))).symm L.below)
  intro a I L
  have hd63 := of_decide_eq_false hb63
  obtain ⟨k, hk⟩ : ∃ k : Nat, t.cpu = (k : Int) := ⟨t.cpu.toNat, by omega⟩
  have hsh := Nat.div_le_self t.mask (2 ^ k)
  refine Jb I L ((JF∘JS'∘JQ∘JP∘Jg 4 O0∘Jf 0∘Jf 0∘Jc O1∘Jo (vI n) (by rw [hn])∘JI (h:=by exact fun L => qk7 t.mask n htok.mask hn64 _)) fun w69 hbw => (Jp 1) (Ju (fun hb70 => ?_) fun hb70 => ?_))
  ·
   intro a I L
   have hd70 := of_decide_eq_true hb70
   exact Jb I L ((Jv 19 [(89, .bool true)]∘Jd6∘Jj∘JT∘JP∘Jp 1∘Jj∘JZ∘Jz1) fun L => is_as (zf hi98 (qdk ht (qvl (by rw [hn, Int.toNat_natCast]; simpa using hb70)))).symm L.below)
  intro a I L
  have hd70 := of_decide_eq_false hb70
  refine Jb I L ((Jg 4 O0∘Jf 3∘Jc O0∘Jo (vI k) (by rw [hk])∘Jy (v := vQ (t.mask / 2 ^ k : Nat)) (h:=by exact Yl.shrN (m := t.mask) (n := k) rfl rfl rfl (by show _ ≤ 64; omega))∘Jp 1∘Jo (vQ ((t.mask / 2 ^ k) % 2 : Nat)) (by exact qav .u64 _ 2)∘Jp 3) (Je (fun hd79 => ?_) fun hd79 => ?_))
  ·
   exact (Jv 10 [(89, .bool true)]∘Jd6∘Jj∘JT∘JP∘Jp 1∘Jj∘JZ∘Jz1) fun L => is_as (zf hi98 (qdk ht (qvm (by rw [hk, Int.toNat_natCast]; omega)))).symm L.below
  refine (Jg 6 O0∘Jg 7 O0∘Jg 2 O0∘JI (h:=by exact fun L => zl t.v t.r t.weight om _)) fun w86 hbw => (JI (h:=by exact fun L => qcx t.v t.r t.weight om om om _)) fun w87 hbw => (Jp 2∘Jd6∘Jq) fun a I L => ?_
  replace I := I.to [(89, .bool (!(entOk t.v t.r t.weight))), (63, .bool false), (5, vP g5 0), (10, .bool true), (4, vI i), (3, vI (qcw x.ts i)), (2, .bool false), (1, vP g1 0)]
  refine Jb I L (Ju (fun hb89 => ?_) fun hb89 => ?_)
  ·
   exact (JT∘JP∘Jp 1∘Jj∘JZ∘Jz1) fun L => is_as (zf hi98 (qdk ht ((qql om om (by rw [hn, Int.toNat_natCast]; simpa using hb70) (by rw [hk, Int.toNat_natCast]; omega)).trans (by simpa using hb89)))).symm L.below
  refine (JF∘JS'∘JR∘Jf 0∘Jc O0∘Jo (vI (qcw x.ts (i + 1))) (by rw [qgz, ht])∘Jp 1∘Jd2∘Jj∘JR∘Jp 1∘JaK 1∘Jp 1∘Jd2∘Jq) fun a I L => ?_
  exact ⟨_, om, i + 1, by omega, by rw [qgz, ht]; omega, hu3.succ (qya ht om ((qql om om (by rw [hn, Int.toNat_natCast]; simpa using hb70) (by rw [hk, Int.toNat_natCast]; omega)).trans (by simpa using hb89))), rfl, I.sub kr, L.pk [1]⟩
 intro a I L
 have hd10 := of_decide_eq_false hb10
 exact Jb I L ((JF∘JX∘JG∘JP∘Jp 1∘Jj∘JZ∘Jz1) fun L => is_as (qas (fun j hj => hu3 j om)).symm L.below)
def qmj (x : Stm) (c g : Nat) : Prop := ∀ w : World, StRd w x → Calls Tryz.prog 56 #[.agg x.cells, vI g, vI c] w (qsw 102 w (memS x.sta g c))
theorem qpm (x : Stm) (hok : x.sta.Ok) (hf : StFew x) (hsh : ShAt x) (c : Nat) (hc : (c : Int) < x.cpus) (g : Nat) (hg : g < x.rs.length) (ih : ∀ h, g < h → h < x.rs.length → qmj x c h) : qmj x c g := by
 intro w hx
 have hfs := hf.s; have hft := hf.t; have hfg := hf.g; have hrl := hsh.rs; have hto := hok.ts
 obtain ⟨hc1, hc2, _, hgs⟩ := zj hsh.cfg
 refine (JN3 Tryz.func56 84) ?_
 refine (JP∘JE) fun w3 g3 => (Jp 1∘Jr∘Jp 1∘Jq) fun a I L => ?_
 replace L := L.nil 102 3
 refine Jb I L ((JG∘JQ∘JP∘Jp 1∘Jj∘JB) fun a I L => ?_)
 refine qg (fun mS aS wS => ∃ (i : Nat) (q : List Mb) (Ao : Option Addr) (co : Nat), (i ≤ x.ts.length) ∧ (q = (x.ts.take i).filterMap (tkM · g c)) ∧ (q.length ≤ i) ∧ (q.length ≤ co) ∧ mS = x.ts.length - i ∧ Fr aS 84 [] [(8, vI i), (7, .slice Ao q.length co), (6, vN), (3, vP g3 0), (1, vI g), (2, vI c)] ∧ Mem w wS [.row (.slice Ao q.length co) q.length (q.flatMap mbrL) 102 3, .blk g3 x.cells 45]) (m := x.ts.length - 0) ⟨0, [], none, 0, Nat.zero_le _, rfl, Nat.le_refl _, Nat.le_refl _, rfl, I.sub kr, L.pk [0, 1]⟩ ?_
 clear I L; rintro mS a w_ ⟨i, q, Ao, co, hi, hq, hql, hco, rfl, I, L⟩
 refine Jb I L ((JQ∘JP∘Jp 1∘Jg 5 O1∘Jl∘Jp 1∘Jd3∘Jj) (Ju (fun hb15 => ?_) fun hb15 => ?_))
 ·
  intro a I L
  have hd15 := of_decide_eq_true hb15
  have hi15 : i < x.ts.length := by omega
  obtain ⟨t, ht⟩ : ∃ z, (x.ts.getD i Tk.zero) = z := ⟨_, rfl⟩
  have htid := tk_id (hsh.tk i hi15)
  rw [ht] at htid
  refine Jb I L ((JT∘JS'∘JQ∘JB∘JP∘Jg 5 O1∘Jp 1) fun a I L => ?_)
  obtain ⟨gq1, oq1, hq1, _⟩ := Rd.qn hx.t (Nat.lt_of_le_of_lt (Nat.zero_le _) (show i < x.ts.length from by omega)) de
  have hrq1 := hx.t; rw [hq1] at hrq1
  replace I := I.sp 19 (.slice (some ⟨gq1, oq1, none⟩) x.ts.length x.tc) rfl (by rw [hq1]; try rfl)
  refine Jb I L ((Jy (h:=by exact Yl.ix gq1 oq1 i 8 rfl rfl rfl)∘Jy (v := .agg ((x.ts.getD i Tk.zero).cells)) (h:=by exact Yl.loadS rfl rfl si_tk rfl (fun _ h => (h.old hrq1).q8 qd ((getD_at Tk.zero hi15))))∘Jo (.agg t.cells) (by rw [ht])∘JA #[vI 0, vI 0, vI 0, vI 0, vQ 0, .bool false, vQ 0, vW 0]) fun w9 g9 => (JV si_tk O0' (h1:=by exact qa4 t)) fun w5_6 => (Jd5∘Jj) fun a I L => ?_)
  refine qz (fun aS wS => Fr aS 84 [] [(36, .bool (t.here g c)), (9, vP g9 0), (15, .bool true), (8, vI i), (7, .slice Ao q.length co), (6, vN), (3, vP g3 0), (1, vI g), (2, vI c)] ∧ Mem w wS [.blk g9 t.cells 81, .row (.slice Ao q.length co) q.length (q.flatMap mbrL) 102 3, .blk g3 x.cells 45]) ?_ ?_
  ·
   refine qal ?_
   refine Jb I L ((Jg 5 O0∘Jp 1) (Ju (fun hb25 => ?_) fun hb25 => ?_))
   ·
    refine (Jg 1 O0∘Jp 4) (Je (fun hd31 => ?_) fun hd31 => ?_)
    ·
     refine (Jg 3 O0∘Jp 3∘Jd6∘Jq) fun a I L => ?_
     have I := I.sp 36 (.bool (t.here g c)) rfl (congrArg Value.bool (by unfold Tk.here; rw [hb25, decide_eq_true om, Bool.true_and, Bool.true_and, Bool.eq_iff_iff, beq_iff_eq, decide_eq_true_eq]))
     exact ⟨I.sub kr, L.pk [0, 1, 2]⟩
    refine (Jp 5∘Jd6∘Jq) fun a I L => ?_
    have I := I.sp 36 (.bool (t.here g c)) rfl (congrArg Value.bool (by unfold Tk.here; rw [hb25, decide_eq_false om]; rfl))
    exact ⟨I.sub kr, L.pk [0, 1, 2]⟩
   refine (Jv 11 [(36, .bool false)]∘Jd2∘Jq) fun a I L => ?_
   have I := I.sp 36 (.bool (t.here g c)) rfl (congrArg Value.bool (by unfold Tk.here; rw [hb25]; rfl))
   exact ⟨I.sub kr, L.pk [0, 1, 2]⟩
  clear I L; rintro a w6 ⟨I, L⟩
  refine Jb I L (Ju (fun hb36 => ?_) fun hb36 => ?_)
  ·
   intro a I L
   have hq2 : q ++ [(⟨t.v, 0, t.id.toNat⟩ : Mb)] = (x.ts.take (i + 1)).filterMap (tkM · g c) := by rw [qah Tk.zero hi15, ← hq, ht, tkM, if_pos hb36]; rfl
   refine Jb I L ((JT∘JR∘Jp 1∘Jg 6 O0∘Jf 0∘Jc O0∘Jo (vI t.id.toNat) (by rw [Int.toNat_of_nonneg om])∘Jy (v := .agg #[vQ t.v, vI 0, vI t.id.toNat]) (h:=by exact Yl.build (vs := [(0, vQ t.v), (1, vI 0), (2, vI t.id.toNat)]) rfl kr kr)∘JU qjg #[vQ t.v, vI 0, vI t.id.toNat]) fun w43 g43 => (JD ([(⟨t.v, 0, t.id.toNat⟩ : Mb)].flatMap mbrL) 2 (fun _ _ => O2') qjg (hr:=by exact fun L => L.rdBlk (i := 0) (n := 1) (size := 3) rfl rfl) (h1:=by exact qsq _)) fun w44 A44 c44 hc44 => (Jp 1∘Jd6∘Jq) fun a I L => ?_)
   have hnA44 : q.length + 1 = (q ++ [(⟨t.v, 0, t.id.toNat⟩ : Mb)]).length := qjd rfl
   replace L := L.reRow (i := 2) (ys := (q ++ [(⟨t.v, 0, t.id.toNat⟩ : Mb)]).flatMap mbrL) rfl hnA44 (List.flatMap_append.symm)
   rw [hnA44] at hc44
   replace I := I.sp 7 (.slice A44 ((q ++ [(⟨t.v, 0, t.id.toNat⟩ : Mb)]).length) c44) rfl (by rw [hnA44])
   refine Jb I L ((JG∘JR∘Jp 1∘JaK 1∘Jp 1∘Jd2∘Jq) fun a I L => ?_)
   exact ⟨_, om, i + 1, (q ++ [(⟨t.v, 0, t.id.toNat⟩ : Mb)]), A44, c44, by omega, hq2, by rw [List.length_append, show [(⟨t.v, 0, t.id.toNat⟩ : Mb)].length = 1 from rfl]; omega, hc44, rfl, I.sub kr, L.pk [2, 3]⟩
  intro a I L
  have hq2 : q = (x.ts.take (i + 1)).filterMap (tkM · g c) := by rw [qah Tk.zero hi15, ← hq, ht, tkM, if_neg (by rw [hb36]; decide)]; simp
  refine Jb I L ((JF∘JS'∘JR∘Jp 1∘JaK 1∘Jp 1∘Jd2∘Jq) fun a I L => ?_)
  exact ⟨_, om, i + 1, q, Ao, co, by omega, hq2, by omega, hco, rfl, I.sub kr, L.pk [1, 2]⟩
 intro a I L
 have hd15 := of_decide_eq_false hb15
 rw [List.take_of_length_le (by omega : x.ts.length ≤ i)] at hq
 refine Jb I L ((JF∘JX∘JG∘JQ∘JP∘Jp 1∘Jj∘JB) fun a I L => ?_)
 refine qg (fun mS aS wS => ∃ (u : Nat) (q : List Mb) (Ao : Option Addr) (co : Nat), (1 ≤ u) ∧ (u ≤ x.rs.length) ∧ (q = x.ts.filterMap (tkM · g c) ++ ((((List.range x.rs.length).drop (g + 1)).take (u - (g + 1))).filterMap (grpM x.sta c (fun u => memS x.sta u c) g))) ∧ (q.length ≤ x.ts.length + u) ∧ (q.length ≤ co) ∧ mS = x.rs.length - u ∧ Fr aS 84 [] [(10, vI u), (15, .bool false), (8, vI i), (7, .slice Ao q.length co), (6, vN), (3, vP g3 0), (1, vI g), (2, vI c)] ∧ Mem w wS [.row (.slice Ao q.length co) q.length (q.flatMap mbrL) 102 3, .blk g3 x.cells 45]) (m := x.rs.length - 1) ⟨1, q, Ao, co, Nat.le_refl _, by omega, by rw [hq, show 1 - (g + 1) = 0 by omega]; simp, by omega, hco, rfl, I.sub kr, L.pk [0, 1]⟩ ?_
 clear I L; rintro mS a w_ ⟨u, q, Ao, co, hgh, hh, hq, hql, hco, rfl, I, L⟩
 refine Jb I L ((JQ∘JP∘Jp 1∘Jg 6 O1∘Jl∘Jp 1∘Jd3∘Jj) (Ju (fun hb49 => ?_) fun hb49 => ?_))
 ·
  intro a I L
  have hd49 := of_decide_eq_true hb49
  have hh60 : u < x.rs.length := by omega
  refine Jb I L ((JT∘JS'∘JQ∘JB∘JP∘Jf 0∘Jg 2 O1∘Jp 1) fun a I L => ?_)
  obtain ⟨gq2, oq2, hq2, _⟩ := Rd.qn hx.g (Nat.lt_of_le_of_lt (Nat.zero_le _) (show u < x.gs.length from by omega)) de
  have hrq2 := hx.g; rw [hq2] at hrq2
  replace I := I.sp 54 (.slice (some ⟨gq2, oq2, none⟩) x.gs.length x.gc) rfl (by rw [hq2]; try rfl)
  refine Jb I L ((Jy (h:=by exact Yl.ix gq2 oq2 u 2 rfl rfl rfl)∘Jf 0∘Jy (v := vI ((x.gs.getD u Gr.zero).parent)) (h:=by exact Yl.qh rfl rfl kr (fun _ h => (by have := (h.old hrq2).partAt q0 (k := u) (j := 0) (x := (x.gs.getD u Gr.zero)) ((getD_at Gr.zero om)) rfl; simpa using this)))∘Jp 3) (Ju (fun hb61 => ?_) fun hb61 => ?_))
  ·
   intro a I L
   have hd61 := eq_of_beq hb61
   have hpu := qgc ((qo hgs).2.2.2 u om) om
   unfold ParB at hpu
   have hgst := qiq (f := grpM x.sta c (fun u => memS x.sta u c) g) (show g + 1 ≤ u by omega) hh60
   have hml := qf4 x u c
   refine Jb I L ((Jy (v := .agg x.cells) (h:=by exact Yl.loadS rfl rfl si_st rfl (fun _ h => qa (h.blk (i := 1) rfl)))∘Jo (.agg x.cells) (by exact rfl)∘Jp 2∘JK (h:=by exact fun L => ih u om om _ (hx.old L))) fun A65 c65 w65 hc65 => (Jl∘Jp 2∘Jd6∘Jj) (Ju (fun hb68 => ?_) fun hb68 => ?_))
   ·
    intro a I L
    have hd68 := of_decide_eq_true hb68
    obtain ⟨y, hy⟩ : ∃ z, x.rs.getD u Rw.zero = z := ⟨_, rfl⟩
    have hyr : Rd w w.heap.size 3 y.A y.l.length (y.l.flatMap spL) := by rw [← hy]; exact hx.row hh60
    have hyl : (y.l.length : Int) = x.cpus := by rw [← hy]; exact (qed hh60 (hsh.row u hh60)).1
    rw [qm9 hh60 om (fun e => by rw [e] at hd68; exact absurd hd68 de), hy] at hgst
    refine Jb I L ((JT∘JR∘Jp 1∘Jg 6 O2∘Jp 1) fun a I L => ?_)
    obtain ⟨gq3, oq3, hq3, _⟩ := Rd.qn hx.s (Nat.lt_of_le_of_lt (Nat.zero_le _) (show u < x.rs.length from by omega)) de
    have hrq3 := hx.s; rw [hq3] at hrq3
    replace I := I.sp 71 (.slice (some ⟨gq3, oq3, none⟩) x.rs.length x.sc) rfl (by rw [hq3]; try rfl)
    refine Jb I L ((Jy (h:=by exact Yl.ix gq3 oq3 u 1 rfl rfl rfl)∘Jy (v := .slice ((x.rs.getD u Rw.zero).A) ((x.rs.getD u Rw.zero).l.length) ((x.rs.getD u Rw.zero).c)) (h:=by exact Yl.o1 hrq3 u Rw.zero om rfl rfl)∘Jo (.slice y.A y.l.length y.c) (by rw [hy])∘Jp 1) fun a I L => ?_)
    obtain ⟨gq4, oq4, hq4, _⟩ := Rd.qn hyr (Nat.lt_of_le_of_lt (Nat.zero_le _) (show c < y.l.length from by omega)) de
    have hrq4 := hyr; rw [hq4] at hrq4
    replace I := I.sp 74 (.slice (some ⟨gq4, oq4, none⟩) y.l.length y.c) rfl (by rw [hq4]; try rfl)
    refine Jb I L ((Jy (h:=by exact Yl.ix gq4 oq4 c 3 rfl rfl rfl)∘Jf 0∘Jy (v := vQ ((y.l.getD c Sp.zero).v)) (h:=by exact Yl.qh rfl rfl kr (fun _ h => (by have := (h.old hrq4).partAt z8 (k := c) (j := 0) (x := (y.l.getD c Sp.zero)) ((getD_at Sp.zero om)) rfl; simpa using this)))∘Jp 1∘Jy (v := .agg #[vQ ((y.l.getD c Sp.zero).v), vI 1, vI u]) (h:=by exact Yl.build (vs := [(0, vQ ((y.l.getD c Sp.zero).v)), (1, vI 1), (2, vI u)]) rfl kr kr)∘JU qjg #[vQ ((y.l.getD c Sp.zero).v), vI 1, vI u]) fun w81 g81 => (JD ([(⟨(y.l.getD c Sp.zero).v, 1, u⟩ : Mb)].flatMap mbrL) 2 (fun _ _ => O2') qjg (hr:=by exact fun L => L.rdBlk (i := 0) (n := 1) (size := 3) rfl rfl) (h1:=by exact qsq _)) fun w82 A82 c82 hc82 => (Jp 1∘Jd6∘Jq) fun a I L => ?_)
    have hnA82 : q.length + 1 = (q ++ [(⟨(y.l.getD c Sp.zero).v, 1, u⟩ : Mb)]).length := qjd rfl
    replace L := L.reRow (i := 2) (ys := (q ++ [(⟨(y.l.getD c Sp.zero).v, 1, u⟩ : Mb)]).flatMap mbrL) rfl hnA82 (List.flatMap_append.symm)
    rw [hnA82] at hc82
    replace I := I.sp 7 (.slice A82 ((q ++ [(⟨(y.l.getD c Sp.zero).v, 1, u⟩ : Mb)]).length) c82) rfl (by rw [hnA82])
    refine Jb I L ((JG∘JR∘Jp 1∘JaK 1∘Jp 1∘Jd2∘Jq) fun a I L => ?_)
    exact ⟨_, om, u + 1, (q ++ [(⟨(y.l.getD c Sp.zero).v, 1, u⟩ : Mb)]), A82, c82, by omega, by omega, by rw [hgst, hq, List.append_assoc]; rfl, by rw [List.length_append, show [(⟨(y.l.getD c Sp.zero).v, 1, u⟩ : Mb)].length = 1 from rfl]; omega, hc82, rfl, I.sub kr, L.pk [2, 3]⟩
   intro a I L
   have hd68 := of_decide_eq_false hb68
   rw [qj8 (List.length_eq_zero_iff.1 om)] at hgst
   refine Jb I L ((JF∘JS'∘JR∘Jp 1∘JaK 1∘Jp 1∘Jd2∘Jq) fun a I L => ?_)
   exact ⟨_, om, u + 1, q, Ao, co, by omega, by omega, by rw [hgst, hq]; try simp, by omega, hco, rfl, I.sub kr, L.pk [1, 2]⟩
  intro a I L
  have hd61 := ne_of_beq_false hb61
  have hgst := qu0 (g := g) (f := grpM x.sta c (fun u => memS x.sta u c) g) hh60 (fun _ => qj7 om)
  refine Jb I L ((Jp 7∘Jd6∘Jj∘JF∘JS'∘JR∘Jp 1∘JaK 1∘Jp 1∘Jd2∘Jq) fun a I L => ?_)
  exact ⟨_, om, u + 1, q, Ao, co, by omega, by omega, by rw [hgst, hq]; try simp, by omega, hco, rfl, I.sub kr, L.pk [0, 1]⟩
 intro a I L
 have hd49 := of_decide_eq_false hb49
 have hqm : q = memS x.sta g c := by rw [hq, qdp, zg, show u = x.rs.length by omega, qqy]; rfl
 exact Jb I L ((JF∘JX∘JG∘JP∘Jp 2∘Jd1∘Jj∘JZ∘Jz1) fun L => qsx hqm (L.own (i := 0) rfl) hco L.below)
theorem qg3 (x : Stm) (hok : x.sta.Ok) (hf : StFew x) (hsh : ShAt x) (c : Nat) (hc : (c : Int) < x.cpus) : ∀ (n g : Nat), x.rs.length - g ≤ n → g < x.rs.length → qmj x c g := by
 intro n
 induction n with
 | zero => intro g h1 h2; omega
 | succ n ih => intro g h1 h2; exact qpm x hok hf hsh c hc g h2 fun h h3 h4 => ih h om h4
theorem qe9 (A : Option Addr) (c : Nat) (l : List Mb) (w : World) (hr : Rd w w.heap.size 3 A l.length (l.flatMap mbrL)) (h0 : 0 < l.length) (hn : l.length ≤ 2000000) :
    Calls Tryz.prog 57 #[.slice A l.length c] w (Is w (.agg (qib l).rcells)) := by
 refine (JN1 Tryz.func57 25) ?_
 refine (JP∘JA #[vQ 0, vI 0, vI 0]) fun w2 g2 => (Jr∘Jp 1) ?_
 repeat (first | clear I | clear L)
 intro a I L
 obtain ⟨gA, oA, rfl, _⟩ := hr.qn (Nat.lt_of_le_of_lt (Nat.zero_le _) (show 0 < l.length from by omega)) de
 refine Jb I L ((Jy (v := vP gA oA) (h:=by exact Yl.indexAddr (ad := ⟨gA, oA, none⟩) (y := 0) (sz := 3) rfl rfl rfl om kr)∘Jy (v := .agg ((l.getD 0 Mb.zero).rcells)) (h:=by exact Yl.loadS rfl rfl qbp rfl (fun _ h => (h.old hr).q8 qje ((getD_at Mb.zero om))))∘JA #[vQ 0, vI 0, vI 0]) fun w3 g3 => (JV qbp O0' (h1:=by exact qjf (l.getD 0 Mb.zero))) fun w1_4 => (Jd3∘Jq) fun a I L => ?_)
 replace L := L.asBlk (i := 0) (ds := (bestU l 1).rcells) rfl (by rw [qst])
 refine Jb I L ((JG∘JQ∘JP∘Jp 1∘Jj∘JB) fun a I L => ?_)
 refine qg (fun mS aS wS => ∃ (k : Nat), (1 ≤ k) ∧ (k ≤ l.length) ∧ mS = l.length - k ∧ Fr aS 25 [] [(4, vI k), (3, vP g3 0), (2, vP g2 0), (0, .slice (some ⟨gA, oA, none⟩) l.length c)] ∧ Mem w wS [.blk g3 ((bestU l k).rcells) 102, .blk g2 #[vQ 0, vI 0, vI 0] 102]) (m := l.length - 1) ⟨1, Nat.le_refl _, by omega, rfl, I.sub kr, L.pk [0, 1]⟩ ?_
 clear I L; rintro mS a w_ ⟨k, hk1, hk, rfl, I, L⟩
 refine Jb I L ((JQ∘JP∘Jp 2∘Jl∘Jp 1∘Jd3∘Jj) (Ju (fun hb11 => ?_) fun hb11 => ?_))
 ·
  intro a I L
  have hd11 := of_decide_eq_true hb11
  have hk11 : k < l.length := by omega
  refine Jb I L ((JT∘JS'∘JQ∘JB) fun a I L => ?_)
  refine wp_seq ?_
  refine Jb I L ((Vs .n []) fun wd5 => (Vp [0, 1]∘Vy 2 (h:=by exact Yl.ix gA oA k 3 rfl rfl rfl)∘Vy 3 (v := .agg ((l.getD k Mb.zero).rcells)) (h:=by exact Yl.loadS rfl rfl qbp rfl (fun _ h => (h.old hr).q8 qje ((getD_at Mb.zero hk11))))∘Vy 4 (v := .agg ((bestU l k).rcells)) (h:=by exact Yl.loadS rfl rfl qbp rfl (fun _ h => qa (h.blk (i := 0) rfl)))∘VI 5 .n (h:=by exact fun L => qmh (l.getD k Mb.zero) (bestU l k) _)) fun w19 hbw => (Vd∘Jd5) (Ju (fun hb19 => ?_) fun hb19 => ?_))
  ·
   refine (JT∘JR∘Jp 2∘Jy (h:=by exact Yl.ix gA oA k 3 rfl rfl rfl)∘Jy (v := .agg ((l.getD k Mb.zero).rcells)) (h:=by exact Yl.loadS rfl rfl qbp rfl (fun _ h => (h.old hr).q8 qje ((getD_at Mb.zero hk11))))∘JV qbp O0' (h1:=by exact qjf (l.getD k Mb.zero))) fun w6_4 => (Jt4∘Jq) fun a I L => ?_
   replace L := L.asBlk (i := 0) (ds := (bestU l (k + 1)).rcells) rfl (by rw [qsu hk1 hk11 hb19])
   refine Jb I L ((JG∘JR∘Jp 1∘JaK 1∘Jp 1∘Jd2∘Jq) fun a I L => ?_)
   exact ⟨_, om, k + 1, by omega, by omega, rfl, I.sub kr, L.pk [0, 1]⟩
  intro a I L
  replace L := L.asBlk (i := 0) (ds := (bestU l (k + 1)).rcells) rfl (by rw [qu1 hk1 hk11 hb19])
  refine Jb I L ((JF∘JS'∘JR∘Jp 1∘JaK 1∘Jp 1∘Jd2∘Jq) fun a I L => ?_)
  exact ⟨_, om, k + 1, by omega, by omega, rfl, I.sub kr, L.pk [0, 1]⟩
 intro a I L
 have hd11 := of_decide_eq_false hb11
 refine Jb I L ((JF∘JX∘JG∘JP∘Jy (v := .agg ((bestU l k).rcells)) (h:=by exact Yl.loadS rfl rfl qbp rfl (fun _ h => qa (h.blk (i := 0) rfl)))∘JV qbp O1' (h1:=by exact qjf (bestU l k))) fun w7_1 => (Jt1∘Jj∘JZ) fun a I L => ?_)
 exact ret1 rfl I (.cellS (i := 1) I L rfl rfl qbp rfl) (⟨by rw [qsv om], L.below⟩)
theorem qpn (x : Stm) (hok : x.sta.Ok) (hf : StFew x) (w : World) (hx : StRd w x) :
    Calls Tryz.prog 23 #[.agg x.cells] w (Is w (.bool (qax x.sta))) := by
 have hfs_ := hf.s; have hft := hf.t; have hfg := hf.g; have hfl := hf.l; have hfu := hf.u
 refine (JN1 Tryz.func23 83) ?_
 refine (JP∘JE) fun w1 g1 => (Jp 1∘Jj∘JQ∘JP∘Jy (v := .agg x.cells) (h:=by exact Yl.loadS rfl rfl si_st rfl (fun _ h => qa (h.blk (i := 0) rfl)))∘Jo (.agg x.cells) (by exact rfl)∘JI (h:=by exact fun L => qmi x hok hf _ (hx.old L))) fun w9 hbw => (Jp 2) (Ju (fun hb11 => ?_) fun hb11 => ?_)
 ·
  exact (Jp 4∘Jd6∘Jj∘JT∘JP∘Jp 1∘Jj∘JZ∘Jz1) fun L => is_as (r_no0 (by rw [qg0, show shpS x.sta = false by simpa using hb11]; rfl)).symm L.below
 intro a I L
 have hsp : shpS x.sta = true := by simpa using hb11
 have hsp0 := qx9 hsp
 obtain ⟨hc1, hc2, _, _⟩ := zj hsp0.cfg
 refine Jb I L ((Jy (v := .agg x.cells) (h:=by exact Yl.loadS rfl rfl si_st rfl (fun _ h => qa (h.blk (i := 0) rfl)))∘Jo (.agg x.cells) (by exact rfl)∘JI (h:=by exact fun L => qpl x hok hf _ (hx.old L) ⟨hc1, hc2⟩ hsp0.rs)) fun w13 hbw => (Jp 2∘Jd6∘Jj) (Ju (fun hb15 => ?_) fun hb15 => ?_))
 ·
  exact (JT∘JP∘Jp 1∘Jj∘JZ∘Jz1) fun L => is_as (r_no0 (by rw [qg0, show allN x.ts.length (tkAt x.sta) = false by simpa using hb15, Bool.and_false])).symm L.below
 intro a I L
 have hsd : zi x.sta = true := by rw [qg0, hsp, show allN x.ts.length (tkAt x.sta) = true by simpa using hb15]; rfl
 have hsh := sh_at hsd
 have hcul := hsh.cu
 refine Jb I L ((JF∘JS'∘JQ∘JP∘Jp 1∘Jj∘JB) fun a I L => ?_)
 refine qg (fun mS aS wS => ∃ (c : Nat), (c ≤ x.cu.length) ∧ (UpTo c fun c => curOk x.sta c && allN x.rs.length fun g => lowS x.sta g c) ∧ mS = x.cu.length - c ∧ Fr aS 83 [] [(3, vI c), (15, .bool false), (2, .bool false), (1, vP g1 0)] ∧ Mem w wS [.blk g1 x.cells 45]) (m := x.cu.length - 0) ⟨0, Nat.zero_le _, UpTo.zero, rfl, I.sub kr, L.pk [0]⟩ ?_
 clear I L; rintro mS a w_ ⟨c, hc, hu, rfl, I, L⟩
 refine Jb I L ((JQ∘JP∘Jp 1∘Jf 0∘Jg 0 O0∘Jp 1∘Jd3∘Jj) (Ju (fun hb20 => ?_) fun hb20 => ?_))
 ·
  intro a I L
  have hd20 := of_decide_eq_true hb20
  have hc21 : c < x.cu.length := by omega
  obtain ⟨id, hid⟩ : ∃ z, (x.cu.getD c 0) = z := ⟨_, rfl⟩
  refine Jb I L ((JT∘JS'∘JQ∘JB∘JQ∘JP∘Jg 4 O0∘Jp 1) fun a I L => ?_)
  obtain ⟨gq1, oq1, hq1, _⟩ := Rd.qn hx.u (Nat.lt_of_le_of_lt (Nat.zero_le _) (show c < x.cu.length from by omega)) de
  have hrq1 := hx.u; rw [hq1] at hrq1
  replace I := I.sp 24 (.slice (some ⟨gq1, oq1, none⟩) x.cu.length x.uc) rfl (by rw [hq1]; try rfl)
  refine Jb I L ((Jy (h:=by exact Yl.ix gq1 oq1 c 1 rfl rfl rfl)∘Jy (v := vI (x.cu.getD c 0)) (h:=by exact Yl.o1 hrq1 c 0 om rfl rfl)∘Jo (vI id) (by rw [hid])∘Jp 1∘Jd5∘Jr∘Jp 2∘Jd1∘Jj) (Ju (fun hb29 => ?_) fun hb29 => ?_))
  ·
   intro a I L
   have hd29 := bne_iff_ne.1 hb29
   refine Jb I L ((JT∘JP∘Jy (v := .agg x.cells) (h:=by exact Yl.loadS rfl rfl si_st rfl (fun _ h => qa (h.blk (i := 0) rfl)))∘Jo (.agg x.cells) (by exact rfl)∘Jp 1∘JI (h:=by exact fun L => qk8 x id _ (hx.old L) hf.t)) fun w32 hbw => (Jp 1∘Jd3∘Jr∘Jp 3) (Ju (fun hb35 => ?_) fun hb35 => ?_))
   ·
    intro a I L
    have hd35 := of_decide_eq_true hb35
    exact Jb I L ((Jv 18 [(53, .bool true)]∘Jd3∘Jj∘JT∘JP∘Jp 1∘Jj∘JZ∘Jz1) fun L => is_as (r_no1 hc21 (qe2 (by rw [hid]; omega) (by rw [hid]; exact qlu om))).symm L.below)
   intro a I L
   have hd35 := of_decide_eq_false hb35
   obtain ⟨i, hfi, hfs, hil, hiid⟩ := qit (l := x.ts) (id := id) om
   refine Jb I L ((Jg 5 O0∘Jp 1∘Jo (vI i) (by rw [hfi])) fun a I L => ?_)
   obtain ⟨gq2, oq2, hq2, _⟩ := Rd.qn hx.t (Nat.lt_of_le_of_lt (Nat.zero_le _) (show i < x.ts.length from by omega)) de
   have hrq2 := hx.t; rw [hq2] at hrq2
   replace I := I.sp 37 (.slice (some ⟨gq2, oq2, none⟩) x.ts.length x.tc) rfl (by rw [hq2]; try rfl)
   refine Jb I L ((Jy (h:=by exact Yl.ix gq2 oq2 i 8 rfl rfl rfl)∘Jf 5∘Jy (v := .bool ((x.ts.getD i Tk.zero).ready)) (h:=by exact Yl.qh rfl rfl kr (fun _ h => (h.old hrq2).partAt qd (k := i) (j := 5) (x := (x.ts.getD i Tk.zero)) ((getD_at Tk.zero om)) rfl))∘Jp 3) (Ju (fun hb44 => ?_) fun hb44 => ?_))
   ·
    exact (Jv 9 [(53, .bool true)]∘Jd6∘Jj∘JT∘JP∘Jp 1∘Jj∘JZ∘Jz1) fun L => is_as (r_no1 hc21 (by rw [qef (by rw [hid]; omega) (by rw [hid]; exact hfs), show (x.ts.getD i Tk.zero).ready = false by simpa using hb44, Bool.false_and])).symm L.below
   refine (Jg 5 O0∘Jp 1∘Jo (vI i) (by rw [hfi])) fun a I L => ?_
   replace I := I.sp 46 (.slice (some ⟨gq2, oq2, none⟩) x.ts.length x.tc) rfl (by rw [hq2]; try rfl)
   refine Jb I L ((Jy (h:=by exact Yl.ix gq2 oq2 i 8 rfl rfl rfl)∘Jf 3∘Jy (v := vI ((x.ts.getD i Tk.zero).cpu)) (h:=by exact Yl.qh rfl rfl kr (fun _ h => (h.old hrq2).partAt qd (k := i) (j := 3) (x := (x.ts.getD i Tk.zero)) ((getD_at Tk.zero om)) rfl))∘Jp 3∘Jd5∘Jj) (Ju (fun hb53 => ?_) fun hb53 => ?_))
   ·
    intro a I L
    have hd53 := bne_iff_ne.1 hb53
    exact Jb I L ((JT∘JP∘Jp 1∘Jj∘JZ∘Jz1) fun L => is_as (r_no1 hc21 (by rw [qef (by rw [hid]; omega) (by rw [hid]; exact hfs), decide_eq_false om, Bool.and_false])).symm L.below)
   intro a I L
   have hd53 := bne_eq_false_iff_eq.1 hb53
   have hcu : curOk x.sta c = true := by rw [qef (by rw [hid]; omega) (by rw [hid]; exact hfs), show (x.ts.getD i Tk.zero).ready = true by simpa using hb44, decide_eq_true om]; rfl
   refine Jb I L ((JF∘JS'∘JP∘Jp 1∘Jj∘JB) fun a I L => ?_)
   refine qg (fun mS aS wS => ∃ (g : Nat), (g ≤ x.rs.length) ∧ (UpTo g fun g => lowS x.sta g c) ∧ mS = x.rs.length - g ∧ Fr aS 83 [] [(6, vI g), (53, .bool false), (5, vI (fidx x.ts id)), (29, .bool true), (4, vI id), (20, .bool true), (3, vI c), (15, .bool false), (2, .bool false), (1, vP g1 0)] ∧ Mem w wS [.blk g1 x.cells 45]) (m := x.rs.length - 0) ⟨0, Nat.zero_le _, UpTo.zero, rfl, I.sub kr, L.pk [0]⟩ ?_
   clear I L; rintro mS a w_ ⟨g, hg, hu2, rfl, I, L⟩
   refine Jb I L ((JQ∘JP∘Jp 1∘Jg 6 O0∘Jl∘Jp 1∘Jd3∘Jj) (Ju (fun hb58 => ?_) fun hb58 => ?_))
   ·
    intro a I L
    have hd58 := of_decide_eq_true hb58
    have hg58 : g < x.rs.length := by omega
    have hml := qf4 x g c
    obtain ⟨y, hy⟩ : ∃ z, x.rs.getD g Rw.zero = z := ⟨_, rfl⟩
    have hyr : Rd w w.heap.size 3 y.A y.l.length (y.l.flatMap spL) := by rw [← hy]; exact hx.row hg58
    have hyl : (y.l.length : Int) = x.cpus := by rw [← hy]; exact (qed hg58 (hsh.row g hg58)).1
    obtain ⟨gq3, oq3, hq3, _⟩ := Rd.qn hx.s (Nat.lt_of_le_of_lt (Nat.zero_le _) (show g < x.rs.length from hg58)) de
    have hrq3 := hx.s; rw [hq3] at hrq3
    obtain ⟨gq4, oq4, hq4, _⟩ := Rd.qn hyr (Nat.lt_of_le_of_lt (Nat.zero_le _) (show c < y.l.length from (by omega : c < y.l.length))) de
    have hrq4 := hyr; rw [hq4] at hrq4
    refine Jb I L ((JT∘JS'∘JQ∘JB∘JP∘Jy (v := .agg x.cells) (h:=by exact Yl.loadS rfl rfl si_st rfl (fun _ h => qa (h.blk (i := 0) rfl)))∘Jo (.agg x.cells) (by exact rfl)∘Jp 2∘JK (h:=by exact fun L => qg3 x hok hf hsh c om _ g (Nat.le_refl _) hg58 _ (hx.old L))) fun A64 c64 w64 hc64 => (Jp 1∘Jd4∘Jj) fun a I L => ?_)
    refine qz (fun aS wS => Fr aS 83 [] [(82, .bool (!lowS x.sta g c)), (7, .slice A64 ((memS x.sta g c).length) c64), (58, .bool true), (6, vI g), (53, .bool false), (5, vI (fidx x.ts id)), (29, .bool true), (4, vI id), (20, .bool true), (3, vI c), (15, .bool false), (2, .bool false), (1, vP g1 0)] ∧ Mem w wS [.row (.slice A64 ((memS x.sta g c).length) c64) ((memS x.sta g c).length) ((memS x.sta g c).flatMap mbrL) 102 3, .blk g1 x.cells 45]) ?_ ?_
    ·
     refine Jb I L ((Vs .n []) fun wd15 => (Vp [0]∘Vl 1∘Vp [2, 3]) fun a I L HS => ?_)
     rcases I.tf 68 rfl with ⟨hb68, I⟩ | ⟨hb68, I⟩
     ·
      have hd68 := of_decide_eq_true hb68
      have hne : memS x.sta g c ≠ [] := fun e => by rw [e] at hd68; exact absurd hd68 de
      refine Vb I L HS ((Vp [4]∘Vf 7 6∘Vp [9, 12]∘Vc 8 O1) fun a I L HS => ?_)
      replace I := I.sp 73 (.slice (some ⟨gq3, oq3, none⟩) x.rs.length x.sc) rfl (by rw [hq3]; try rfl)
      refine Vb I L HS ((Vy 10 (h:=by exact Yl.ix gq3 oq3 g 1 rfl rfl rfl)∘Vy 11 (v := .slice ((x.rs.getD g Rw.zero).A) ((x.rs.getD g Rw.zero).l.length) ((x.rs.getD g Rw.zero).c)) (h:=by exact Yl.o1 hrq3 g Rw.zero hg58 rfl rfl)∘Vo (.slice y.A y.l.length y.c) (by rw [hy])) fun a I L HS => ?_)
      replace I := I.sp 76 (.slice (some ⟨gq4, oq4, none⟩) y.l.length y.c) rfl (by rw [hq4]; try rfl)
      refine Vb I L HS ((Vy 13 (h:=by exact Yl.ix gq4 oq4 c 3 rfl rfl rfl)∘Vf 14 2∘Vy 15 (v := vQ ((y.l.getD c Sp.zero).floor)) (h:=by exact Yl.qh rfl rfl kr (fun _ h => (h.old hrq4).partAt z8 (k := c) (j := 2) (x := (y.l.getD c Sp.zero)) ((getD_at Sp.zero om)) rfl))∘VI 5 .n (h:=by exact fun L => qe9 A64 c64 (memS x.sta g c) _ (L.rd (i := 0) rfl) om om)) fun w70 hbw => (Vy 6 (v := vQ ((qib (memS x.sta g c)).v)) (h:=by exact Yl.field rfl rfl kr)∘Vp [16, 17]∘Vd∘Jd6) fun a I L => ?_)
      have I := I.sp 82 (.bool (!lowS x.sta g c)) rfl (congrArg Value.bool (by rw [qqz hne, qgi hg58, hy, ← qg1 hne (qmg hok g c), ← decide_not]; exact decide_eq_decide.2 om))
      exact ⟨I.sub kr, L.pk [0, 1]⟩
     have hd68 := of_decide_eq_false hb68
     refine ap I (fun _ => HS) [4, 5, 6, 7, 8, 9, 10, 11, 12, 13, 14, 15, 16, 17] (bt 18 []) [(82, .bool false)] fun a I => ?_
     refine qb kr ?_
     have I := I.sp 82 (.bool (!lowS x.sta g c)) rfl (congrArg Value.bool (by rw [qlq (List.length_eq_zero_iff.1 om)]; rfl))
     exact ⟨I.sub kr, L.pk [0, 1]⟩
    clear I L; rintro a w15 ⟨I, L⟩
    refine Jb I L (Ju (fun hb82 => ?_) fun hb82 => ?_)
    ·
     exact (JT∘JP∘Jp 1∘Jj∘JZ∘Jz1) fun L => is_as (r_no2 hc21 hg58 (by simpa using hb82)).symm L.below
    refine (JF∘JS'∘JR∘Jp 1∘JaK 1∘Jp 1∘Jd2∘Jq) fun a I L => ?_
    exact ⟨_, om, g + 1, by omega, hu2.succ (by simpa using hb82), rfl, I.sub kr, L.pk [1]⟩
   intro a I L
   have hd58 := of_decide_eq_false hb58
   refine Jb I L ((JF∘JX∘JG∘JR∘Jp 1∘JaK 1∘Jp 1∘Jd2∘Jq) fun a I L => ?_)
   exact ⟨_, om, c + 1, by omega, hu.succ (by rw [hcu, Bool.true_and]; exact UpTo.all fun i hi => hu2 i om), rfl, I.sub kr, L.pk [0]⟩
  intro a I L
  have hd29 := bne_eq_false_iff_eq.1 hb29
  have hcu : curOk x.sta c = true := qhq (by rw [hid]; omega)
  refine Jb I L ((JF∘JS'∘JP∘Jp 1∘Jj∘JB) fun a I L => ?_)
  refine qg (fun mS aS wS => ∃ (g : Nat), (g ≤ x.rs.length) ∧ (UpTo g fun g => lowS x.sta g c) ∧ mS = x.rs.length - g ∧ Fr aS 83 [] [(6, vI g), (29, .bool false), (4, vI id), (20, .bool true), (3, vI c), (15, .bool false), (2, .bool false), (1, vP g1 0)] ∧ Mem w wS [.blk g1 x.cells 45]) (m := x.rs.length - 0) ⟨0, Nat.zero_le _, UpTo.zero, rfl, I.sub kr, L.pk [0]⟩ ?_
  clear I L; rintro mS a w_ ⟨g, hg, hu2, rfl, I, L⟩
  refine Jb I L ((JQ∘JP∘Jp 1∘Jg 6 O0∘Jl∘Jp 1∘Jd3∘Jj) (Ju (fun hb58 => ?_) fun hb58 => ?_))
  ·
   intro a I L
   have hd58 := of_decide_eq_true hb58
   have hg58 : g < x.rs.length := by omega
   have hml := qf4 x g c
   obtain ⟨y, hy⟩ : ∃ z, x.rs.getD g Rw.zero = z := ⟨_, rfl⟩
   have hyr : Rd w w.heap.size 3 y.A y.l.length (y.l.flatMap spL) := by rw [← hy]; exact hx.row hg58
   have hyl : (y.l.length : Int) = x.cpus := by rw [← hy]; exact (qed hg58 (hsh.row g hg58)).1
   obtain ⟨gq5, oq5, hq5, _⟩ := Rd.qn hx.s (Nat.lt_of_le_of_lt (Nat.zero_le _) (show g < x.rs.length from hg58)) de
   have hrq5 := hx.s; rw [hq5] at hrq5
   obtain ⟨gq6, oq6, hq6, _⟩ := Rd.qn hyr (Nat.lt_of_le_of_lt (Nat.zero_le _) (show c < y.l.length from (by omega : c < y.l.length))) de
   have hrq6 := hyr; rw [hq6] at hrq6
   refine Jb I L ((JT∘JS'∘JQ∘JB∘JP∘Jy (v := .agg x.cells) (h:=by exact Yl.loadS rfl rfl si_st rfl (fun _ h => qa (h.blk (i := 0) rfl)))∘Jo (.agg x.cells) (by exact rfl)∘Jp 2∘JK (h:=by exact fun L => qg3 x hok hf hsh c om _ g (Nat.le_refl _) hg58 _ (hx.old L))) fun A64 c64 w64 hc64 => (Jp 1∘Jd4∘Jj) fun a I L => ?_)
   refine qz (fun aS wS => Fr aS 83 [] [(82, .bool (!lowS x.sta g c)), (7, .slice A64 ((memS x.sta g c).length) c64), (58, .bool true), (6, vI g), (29, .bool false), (4, vI id), (20, .bool true), (3, vI c), (15, .bool false), (2, .bool false), (1, vP g1 0)] ∧ Mem w wS [.row (.slice A64 ((memS x.sta g c).length) c64) ((memS x.sta g c).length) ((memS x.sta g c).flatMap mbrL) 102 3, .blk g1 x.cells 45]) ?_ ?_
   ·
    refine Jb I L ((Vs .n []) fun wd15 => (Vp [0]∘Vl 1∘Vp [2, 3]) fun a I L HS => ?_)
    rcases I.tf 68 rfl with ⟨hb68, I⟩ | ⟨hb68, I⟩
    ·
     have hd68 := of_decide_eq_true hb68
     have hne : memS x.sta g c ≠ [] := fun e => by rw [e] at hd68; exact absurd hd68 de
     refine Vb I L HS ((Vp [4]∘Vf 7 6∘Vp [9, 12]∘Vc 8 O1) fun a I L HS => ?_)
     replace I := I.sp 73 (.slice (some ⟨gq5, oq5, none⟩) x.rs.length x.sc) rfl (by rw [hq5]; try rfl)
     refine Vb I L HS ((Vy 10 (h:=by exact Yl.ix gq5 oq5 g 1 rfl rfl rfl)∘Vy 11 (v := .slice ((x.rs.getD g Rw.zero).A) ((x.rs.getD g Rw.zero).l.length) ((x.rs.getD g Rw.zero).c)) (h:=by exact Yl.o1 hrq5 g Rw.zero hg58 rfl rfl)∘Vo (.slice y.A y.l.length y.c) (by rw [hy])) fun a I L HS => ?_)
     replace I := I.sp 76 (.slice (some ⟨gq6, oq6, none⟩) y.l.length y.c) rfl (by rw [hq6]; try rfl)
     refine Vb I L HS ((Vy 13 (h:=by exact Yl.ix gq6 oq6 c 3 rfl rfl rfl)∘Vf 14 2∘Vy 15 (v := vQ ((y.l.getD c Sp.zero).floor)) (h:=by exact Yl.qh rfl rfl kr (fun _ h => (h.old hrq6).partAt z8 (k := c) (j := 2) (x := (y.l.getD c Sp.zero)) ((getD_at Sp.zero om)) rfl))∘VI 5 .n (h:=by exact fun L => qe9 A64 c64 (memS x.sta g c) _ (L.rd (i := 0) rfl) om om)) fun w70 hbw => (Vy 6 (v := vQ ((qib (memS x.sta g c)).v)) (h:=by exact Yl.field rfl rfl kr)∘Vp [16, 17]∘Vd∘Jd6) fun a I L => ?_)
     have I := I.sp 82 (.bool (!lowS x.sta g c)) rfl (congrArg Value.bool (by rw [qqz hne, qgi hg58, hy, ← qg1 hne (qmg hok g c), ← decide_not]; exact decide_eq_decide.2 om))
     exact ⟨I.sub kr, L.pk [0, 1]⟩
    have hd68 := of_decide_eq_false hb68
    refine ap I (fun _ => HS) [4, 5, 6, 7, 8, 9, 10, 11, 12, 13, 14, 15, 16, 17] (bt 18 []) [(82, .bool false)] fun a I => ?_
    refine qb kr ?_
    have I := I.sp 82 (.bool (!lowS x.sta g c)) rfl (congrArg Value.bool (by rw [qlq (List.length_eq_zero_iff.1 om)]; rfl))
    exact ⟨I.sub kr, L.pk [0, 1]⟩
   clear I L; rintro a w15 ⟨I, L⟩
   refine Jb I L (Ju (fun hb82 => ?_) fun hb82 => ?_)
   ·
    exact (JT∘JP∘Jp 1∘Jj∘JZ∘Jz1) fun L => is_as (r_no2 hc21 hg58 (by simpa using hb82)).symm L.below
   refine (JF∘JS'∘JR∘Jp 1∘JaK 1∘Jp 1∘Jd2∘Jq) fun a I L => ?_
   exact ⟨_, om, g + 1, by omega, hu2.succ (by simpa using hb82), rfl, I.sub kr, L.pk [1]⟩
  intro a I L
  have hd58 := of_decide_eq_false hb58
  refine Jb I L ((JF∘JX∘JG∘JR∘Jp 1∘JaK 1∘Jp 1∘Jd2∘Jq) fun a I L => ?_)
  exact ⟨_, om, c + 1, by omega, hu.succ (by rw [hcu, Bool.true_and]; exact UpTo.all fun i hi => hu2 i om), rfl, I.sub kr, L.pk [0]⟩
 intro a I L
 have hd20 := of_decide_eq_false hb20
 exact Jb I L ((JF∘JX∘JG∘JP∘Jp 1∘Jj∘JZ∘Jz1) fun L => is_as (r_yes hsd (fun i hi => hu i om)).symm L.below)
theorem qpg (x : En) (hx : x.Ok) (w : World) : Calls Tryz.prog 106 #[.agg x.cells] w (Is w (.bool true)) := by
 have h1 := qbv hx.1
 have h2 := qcx x.v x.r x.w hx.2 om om w
 rw [hx.1] at h2
 exact h2
theorem qsz {x : En} {d q : Nat} (hq : (d * 1048576 + x.r) / x.w = q) (h : 18446744073709551615 - x.v ≤ q) : x.add d = ⟨18446744073709551615, 0, x.w⟩ := if_pos (by rw [hq]; exact h)
theorem qyb {x : En} {d q : Nat} (hq : (d * 1048576 + x.r) / x.w = q) (h : ¬ 18446744073709551615 - x.v ≤ q) : x.add d = ⟨x.v + q, (d * 1048576 + x.r) % x.w, x.w⟩ := (if_neg (by rw [hq]; exact h)).trans (by rw [hq])
theorem qg2 {x : En} {fr to v : Nat} (h : qay x.v fr to = v) (he : v = 18446744073709551615) : x.moved fr to = ⟨v, 0, x.w⟩ := by
 unfold En.moved
 rw [h, if_pos he]
theorem qjh {x : En} {fr to v : Nat} (h : qay x.v fr to = v) (he : v ≠ 18446744073709551615) : x.moved fr to = ⟨v, x.r, x.w⟩ := by
 unfold En.moved
 rw [h, if_neg he]
theorem qph (d : Int) (w : World) : Calls Tryz.prog 133 #[vI d] w (Is w (.bool (decide (0 ≤ d ∧ d ≤ 4294967295)))) := by
 refine (JN1 Tryz.func133 9) ?_
 refine (JP∘Jp 1∘Jr∘Jp 3) (Ji (fun hd5 => ?_) fun hd5 => ?_)
 ·
  exact (Jp 4∘Jd6∘Jj∘JZ∘Jz1) fun L => qcm om L.below
 exact (Jp 4∘Jd6∘Jj∘JZ∘Jz1) fun L => is_no om L.below
theorem qk9 (x : En) (hx : x.Ok) (d : Nat) (hd : d ≤ 4294967295) (w : World) :
    Calls Tryz.prog 134 #[.agg x.cells, vI d] w (Is w (.agg (x.add d).cells)) := by
 have hxo := qbv hx.1
 have hxv := hx.2
 have hq1 := Nat.div_le_self (d * 1048576 + x.r) x.w
 obtain ⟨q, hq⟩ : ∃ z, (d * 1048576 + x.r) / x.w = z := ⟨_, rfl⟩
 rw [hq] at hq1
 have hq2 := Nat.mod_lt (d * 1048576 + x.r) (show x.w > 0 by omega)
 obtain ⟨vv, hvv⟩ : ∃ z, (x.v + q) % 18446744073709551616 = z := ⟨_, rfl⟩
 refine (JN2 Tryz.func134 45) ?_
 refine (JP∘JE) fun w2 g2 => (JA #[vQ 0, vW 0, vW 0]) fun w4 g4 => (Jr∘Jp 2∘Jo (vI (d * 1048576 : Nat)) (by exact qih om om)∘Jg 1 O1∘Jw .i64∘Ja∘Jp 1∘Jd5∘Jr∘Jp 1∘Jg 2 O1∘Jw .i64∘Jy (v := vI ((d * 1048576 + x.r) / x.w : Nat)) (h:=by exact Yl.quoN (m := (d * 1048576 + x.r)) (n := x.w) rfl rfl rfl om (by show _ ≤ 9223372036854775807; omega))∘Jo (vI q) (by rw [hq])∘Jw .u64∘Jp 1∘Jd5∘Jr∘Jg 0 O1∘Jp 2∘Jo (vQ vv) (by exact (qlh (x.v + q)).trans (by rw [hvv]))∘Jp 1∘Jd4∘Jj∘JQ∘JP∘Jp 1∘Jg 0 O1∘Jp 2) (Ji (fun hd28 => ?_) fun hd28 => ?_)
 ·
  refine (Jp 3∘Jd6∘Jj∘JT∘JP∘Jg 2 O1∘Jy (v := .agg #[vQ 18446744073709551615, vW 0, vW x.w]) (h:=by exact Yl.build (vs := [(0, vQ 18446744073709551615), (1, vW 0), (2, vW x.w)]) rfl kr kr)∘JV qr O0') fun w5_3 => (Jt2∘Jj∘JZ) fun a I L => ?_
  exact ret1 rfl I (.cellS (i := 0) I L rfl rfl qr rfl) (⟨by rw [qsz hq om]; rfl, L.below⟩)
 refine (Jp 3∘Jd6∘Jj) (Je (fun hd31 => ?_) fun hd31 => ?_)
 ·
  refine (JT∘JP∘Jg 2 O1∘Jy (v := .agg #[vQ 18446744073709551615, vW 0, vW x.w]) (h:=by exact Yl.build (vs := [(0, vQ 18446744073709551615), (1, vW 0), (2, vW x.w)]) rfl kr kr)∘JV qr O0') fun w5_3 => (Jt2∘Jj∘JZ) fun a I L => ?_
  exact ret1 rfl I (.cellS (i := 0) I L rfl rfl qr rfl) (⟨by rw [qsz hq om]; rfl, L.below⟩)
 refine (JF∘JS') fun a I L => ?_
 refine wp_seq ?_
 refine Jb I L ((Vs .n [10]) fun wd6 => (Vp [0, 1]∘Vf 2 2∘Vf 7 2∘Vc 3 O1∘Vw 4 .i64∘Vy 5 (v := vI ((d * 1048576 + x.r) % x.w : Nat)) (h:=by exact Yl.remN (m := (d * 1048576 + x.r)) (n := x.w) rfl rfl rfl om)∘Vq [6] [(41, vW (IntKind.u32.wrap (((d * 1048576 + x.r) % x.w : Nat) : Int)))]∘Vo (vW ((d * 1048576 + x.r) % x.w : Nat)) (by exact qez rfl om)∘Vc 8 O1∘Vy 9 (v := .agg #[vQ vv, vW ((d * 1048576 + x.r) % x.w : Nat), vW x.w]) (h:=by exact Yl.build (vs := [(0, vQ vv), (1, vW ((d * 1048576 + x.r) % x.w : Nat)), (2, vW x.w)]) rfl kr kr)) fun a I L HS => ?_)
 refine s_on I 10 rfl (e_sa I L 0 rfl rfl rfl rfl rfl qr rfl rfl (by simp [Value.oneCell']) ?_)
 clear L; intro w6_10 L
 refine noS kr ?_
 refine qb kr ?_
 refine Jb I L ((JZ) fun a I L => ?_)
 exact ret1 rfl I (.cellS (i := 0) I L rfl rfl qr rfl) (⟨by rw [qyb hq om, show vv = x.v + q by omega]; rfl, L.below⟩)
theorem qpi (d : Nat) (hd : d ≤ 4294967295) (w : World) : Calls Tryz.prog 133 #[vI d] w (Is w (.bool true)) := by
 have h2 := qph d w
 rw [decide_eq_true om] at h2
 exact h2
theorem qu2 (x : En) (hx : x.Ok) (d : Nat) (hd : d ≤ 4294967295) (w : World) :
    Calls Tryz.prog 116 #[.agg x.cells, vI d] w (Is w (.tuple #[.agg (x.add d).cells, vI 0])) := by
 refine (JN2 Tryz.func116 18) ?_
 refine (JP∘JE) fun w2 g2 => (JA #[vQ 0, vW 0, vW 0]) fun w4 g4 => (Jp 1∘Jj∘JQ∘JP∘Jy (v := .agg x.cells) (h:=by exact Yl.loadS rfl rfl qr rfl (fun _ h => qa (h.blk (i := 1) rfl)))∘JI (h:=by exact fun L => qpg x hx _)) fun w7 hbw => (Jp 3∘JI (h:=by exact fun L => qpi d hd _)) fun w11 hbw => (Jp 2∘Jd6∘Jj∘JF∘JS'∘JP∘Jy (v := .agg x.cells) (h:=by exact Yl.loadS rfl rfl qr rfl (fun _ h => qa (h.blk (i := 1) rfl)))∘Jp 1∘JI (h:=by exact fun L => qk9 x hx d hd _)) fun w17 hbw => (JV qr O0' (h1:=by exact q9 (x.add d))) fun w3_3 => (Jp 1∘Jd3∘Jj∘JZ) fun a I L => ?_
 exact ret2 rfl I (.cellS (i := 0) I L rfl rfl qr rfl) (.tmp I rfl) (⟨rfl, L.below⟩)
theorem qji (t : Tk) (x : En) (hx : x.Ok) (w : World) :
    Calls Tryz.prog 114 #[.agg t.cells, .agg x.cells] w (Is w (.agg (t.put x).cells)) := by
 have hxo := qbv hx.1
 have hxv := hx.2
 refine (JN2 Tryz.func114 16) ?_
 refine (JP∘JE) fun w2 g2 => (JE) fun w3 g3 => (JA #[vI 0, vI 0, vI 0, vI 0, vQ 0, .bool false, vQ 0, vW 0]) fun w4 g4 => (Jj) fun a I L => ?_
 refine wp_seq ?_
 refine Jb I L ((Vs (.t (.t (.f .n))) [12]) fun wd1 => (Vf 0 0∘Vf 2 1∘Vf 4 2∘Vc 1 O1∘Vf 7 6∘Vc 3 O1∘Vc 5 O1∘Vw 6 .i64) fun a I L HS => ?_)
 refine s_on I 8 rfl ?_
 refine z7 I L (i := 2) rfl rfl rfl rfl kr rfl rfl (by simp [Tk.cells]) ?_
 clear L; intro w1_8 L
 refine keepS (L.pk [0, 1]) (fun HS => ?_)
 refine Vb I L HS ((Vf 9 7) fun a I L HS => ?_)
 refine s_on I 10 rfl ?_
 refine z7 I L (i := 2) rfl rfl rfl rfl kr rfl rfl (by simp [Tk.cells]) ?_
 clear L; intro w1_10 L
 refine keepS (L.pk [0, 1]) (fun HS => ?_)
 refine Vb I L HS ((Vf 11 2) fun a I L HS => ?_)
 refine s_on I 12 rfl ?_
 refine z7 I L (i := 2) rfl rfl rfl rfl kr rfl rfl (by simp [Tk.cells]) ?_
 clear L; intro w1_12 L
 refine noS kr ?_
 refine qb kr ?_
 refine Jb I L ((JM (.t (.f .n))∘JP∘Jy (v := .agg #[vI t.id, vI t.group, vI x.w, vI t.cpu, vQ t.mask, .bool t.ready, vQ x.v, vW x.r]) (h:=by exact Yl.loadS rfl rfl si_tk rfl (fun _ h => qa (h.blk (i := 1) rfl)))∘JV si_tk O0') fun w2_1 => (Jt6∘Jj∘JZ) fun a I L => ?_)
 exact ret1 rfl I (.cellS (i := 0) I L rfl rfl si_tk rfl) (⟨rfl, L.below⟩)
theorem qpj (x : En) (hx : x.Ok) (fl cr : Nat) (hf : fl < 18446744073709551616) (hc : cr < 18446744073709551616) (w : World) :
    Calls Tryz.prog 115 #[.agg x.cells, vQ fl, vQ cr] w (Is w (.agg (x.woken fl cr).cells)) := by
 have hxv := hx.2
 refine (JN3 Tryz.func115 23) ?_
 refine (JP∘JE) fun w3 g3 => (JA #[vQ 0, vW 0, vW 0]) fun w6 g6 => (Jr∘Jp 1∘Jj∘JQ∘JP∘Jp 3∘Jd2∘Jj) (Ju (fun hb10 => ?_) fun hb10 => ?_)
 ·
  intro a I L
  have hd10 := of_decide_eq_true hb10
  refine Jb I L ((JT∘JR∘Jp 2∘Js∘Jp 1∘Jd3∘Jj∘JQ∘JP∘Jg 0 O1∘Jp 2∘Jd2∘Jj) (Ji (fun hd17 => ?_) fun hd17 => ?_))
  ·
   refine (JT∘JP∘Jp 1∘Jg 2 O1∘Jy (v := .agg #[vQ (fl - cr : Nat), vW 0, vW x.w]) (h:=by exact Yl.build (vs := [(0, vQ (fl - cr : Nat)), (2, vW x.w)]) rfl kr kr)∘JV qr O0') fun w5_4 => (Jt3∘Jj∘JZ) fun a I L => ?_
   exact ret1 rfl I (.cellS (i := 0) I L rfl rfl qr rfl) (⟨by rw [show x.woken fl cr = ⟨fl - cr, 0, x.w⟩ from if_pos om]; rfl, L.below⟩)
  refine (JF∘JS'∘JP∘Jy (v := .agg x.cells) (h:=by exact Yl.loadS rfl rfl qr rfl (fun _ h => qa (h.blk (i := 1) rfl)))∘JV qr O0' (h1:=by exact q9 x)) fun w6_1 => (Jt1∘Jj∘JZ) fun a I L => ?_
  exact ret1 rfl I (.cellS (i := 0) I L rfl rfl qr rfl) (⟨by rw [show x.woken fl cr = x from if_neg om], L.below⟩)
 intro a I L
 have hd10 := of_decide_eq_false hb10
 refine Jb I L ((JF∘JS'∘JQ∘JP∘Jg 0 O1∘Jp 2∘Jd2∘Jj) (Ji (fun hd17 => ?_) fun hd17 => ?_))
 ·
  refine (JT∘JP∘Jp 1∘Jg 2 O1∘Jy (v := .agg #[vQ 0, vW 0, vW x.w]) (h:=by exact Yl.build (vs := [(0, vQ 0), (2, vW x.w)]) rfl kr kr)∘JV qr O0') fun w5_4 => (Jt3∘Jj∘JZ) fun a I L => ?_
  exact ret1 rfl I (.cellS (i := 0) I L rfl rfl qr rfl) (⟨by rw [show x.woken fl cr = ⟨fl - cr, 0, x.w⟩ from if_pos om]; omega, L.below⟩)
 refine (JF∘JS'∘JP∘Jy (v := .agg x.cells) (h:=by exact Yl.loadS rfl rfl qr rfl (fun _ h => qa (h.blk (i := 1) rfl)))∘JV qr O0' (h1:=by exact q9 x)) fun w6_1 => (Jt1∘Jj∘JZ) fun a I L => ?_
 exact ret1 rfl I (.cellS (i := 0) I L rfl rfl qr rfl) (⟨by rw [show x.woken fl cr = x from if_neg om], L.below⟩)
theorem qpk (x : En) (hx : x.Ok) (fr to : Nat) (hfr : fr < 18446744073709551616) (hto : to < 18446744073709551616) (w : World) :
    Calls Tryz.prog 135 #[.agg x.cells, vQ fr, vQ to] w (Is w (.agg (x.moved fr to).cells)) := by
 have hxv := hx.2
 refine (JN3 Tryz.func135 44) ?_
 refine (JP∘JE) fun w3 g3 => (JA #[vQ 0, vW 0, vW 0]) fun w6 g6 => (Jj∘JQ∘JP∘Jg 0 O1∘Jp 2∘Jd2∘Jj) (Ju (fun hb12 => ?_) fun hb12 => ?_)
 ·
  intro a I L
  have hd12 := of_decide_eq_true hb12
  have hmv : qay x.v fr to = to - (fr - x.v) := (if_neg om).trans om
  refine Jb I L ((JT∘JP∘Jp 1∘Jg 0 O1∘Js∘Jp 1∘Jd3∘Jr∘Jp 3∘Jd2∘Jj) (Ji (fun hd19 => ?_) fun hd19 => ?_))
  ·
   refine (JT∘JR∘Jp 2∘Js∘Jf 0) fun a I L => ?_
   refine fo I 4 rfl rfl ?_
   refine z7 I L (i := 1) rfl rfl rfl rfl kr rfl rfl (by simp [En.cells]) ?_
   clear L; intro w4_4 L
   refine Jb I L ((Jt4∘Jj∘JQ∘JP∘Jg 0 O1∘Jp 1∘Jd1∘Jj) (Je (fun hd41 => ?_) fun hd41 => ?_))
   ·
    refine (JT∘JR∘Jf 1∘JW O1' O1') fun w11_1 => (Jt1∘Jr∘Jy (v := .agg #[vQ (to - (fr - x.v) : Nat), vW 0, vW x.w]) (h:=by exact Yl.loadS rfl rfl qr rfl (fun _ h => qa (h.blk (i := 1) rfl)))∘JV qr O0') fun w12_1 => (Jt1∘Jj∘JZ) fun a I L => ?_
    exact ret1 rfl I (.cellS (i := 0) I L rfl rfl qr rfl) (⟨by rw [show x.moved fr to = ⟨to - (fr - x.v), 0, x.w⟩ from qg2 (by rw [hmv] <;> omega) om]; (try (first | rfl | (congr 1; omega))), L.below⟩)
   refine (JF∘JS'∘JP∘Jy (v := .agg #[vQ (to - (fr - x.v) : Nat), vW x.r, vW x.w]) (h:=by exact Yl.loadS rfl rfl qr rfl (fun _ h => qa (h.blk (i := 1) rfl)))∘JV qr O0') fun w12_1 => (Jt1∘Jj∘JZ) fun a I L => ?_
   exact ret1 rfl I (.cellS (i := 0) I L rfl rfl qr rfl) (⟨by rw [show x.moved fr to = ⟨to - (fr - x.v), x.r, x.w⟩ from qjh (by rw [hmv] <;> omega) om]; (try rfl), L.below⟩)
  refine (JF∘JR∘Jf 0) fun a I L => ?_
  refine fo I 1 rfl rfl ?_
  refine z7 I L (i := 1) rfl rfl rfl rfl kr rfl rfl (by simp [En.cells]) ?_
  clear L; intro w5_1 L
  refine Jb I L ((Jt1∘Jj∘JQ∘JP∘Jg 0 O1∘Jv 1 [(41, .bool false)]∘Jd1∘Jj∘JF∘JS'∘JP∘Jy (v := .agg #[vQ 0, vW x.r, vW x.w]) (h:=by exact Yl.loadS rfl rfl qr rfl (fun _ h => qa (h.blk (i := 1) rfl)))∘JV qr O0') fun w12_1 => (Jt1∘Jj∘JZ) fun a I L => ?_)
  exact ret1 rfl I (.cellS (i := 0) I L rfl rfl qr rfl) (⟨by rw [show x.moved fr to = ⟨0, x.r, x.w⟩ from qjh (by rw [hmv] <;> omega) om]; (try rfl), L.below⟩)
 intro a I L
 have hd12 := of_decide_eq_false hb12
 have hmv : qay x.v fr to = to + min (x.v - fr) (18446744073709551615 - to) := if_pos om
 obtain ⟨vv, hvv⟩ : ∃ z, (to + (x.v - fr)) % 18446744073709551616 = z := ⟨_, rfl⟩
 refine Jb I L ((JF∘JP∘Jg 0 O1∘Jp 1∘Js∘Jp 1∘Jd3∘Jr∘Jp 3∘Jo (vQ vv) (by exact (qlh (to + (x.v - fr))).trans (by rw [hvv]))∘Jp 2∘Jd4∘Jj) (Ji (fun hd33 => ?_) fun hd33 => ?_))
 ·
  refine (JT∘JR∘Jf 0) fun a I L => ?_
  refine fo I 1 rfl rfl ?_
  refine z7 I L (i := 1) rfl rfl rfl rfl kr rfl rfl (by simp [En.cells]) ?_
  clear L; intro w8_1 L
  refine Jb I L ((Jt1∘Jj∘JQ∘JP∘Jg 0 O1∘Jv 1 [(41, .bool true)]∘Jd1∘Jj∘JT∘JR∘Jf 1∘JW O1' O1') fun w11_1 => (Jt1∘Jr∘Jy (v := .agg #[vQ 18446744073709551615, vW 0, vW x.w]) (h:=by exact Yl.loadS rfl rfl qr rfl (fun _ h => qa (h.blk (i := 1) rfl)))∘JV qr O0') fun w12_1 => (Jt1∘Jj∘JZ) fun a I L => ?_)
  exact ret1 rfl I (.cellS (i := 0) I L rfl rfl qr rfl) (⟨by rw [show x.moved fr to = ⟨18446744073709551615, 0, x.w⟩ from qg2 (by rw [hmv] <;> omega) om]; (try (first | rfl | (congr 1; omega))), L.below⟩)
 refine (JF∘JR∘Jp 3∘Jo (vQ vv) (by exact (qlh (to + (x.v - fr))).trans (by rw [hvv]))∘Jf 0) fun a I L => ?_
 refine fo I 4 rfl rfl ?_
 refine z7 I L (i := 1) rfl rfl rfl rfl kr rfl rfl (by simp [En.cells]) ?_
 clear L; intro w9_4 L
 refine Jb I L ((Jt4∘Jj∘JQ∘JP∘Jg 0 O1∘Jp 1∘Jd1∘Jj) (Je (fun hd41 => ?_) fun hd41 => ?_))
 ·
  refine (JT∘JR∘Jf 1∘JW O1' O1') fun w11_1 => (Jt1∘Jr∘Jy (v := .agg #[vQ vv, vW 0, vW x.w]) (h:=by exact Yl.loadS rfl rfl qr rfl (fun _ h => qa (h.blk (i := 1) rfl)))∘JV qr O0') fun w12_1 => (Jt1∘Jj∘JZ) fun a I L => ?_
  exact ret1 rfl I (.cellS (i := 0) I L rfl rfl qr rfl) (⟨by rw [show x.moved fr to = ⟨vv, 0, x.w⟩ from qg2 (by rw [hmv] <;> omega) om]; (try (first | rfl | (congr 1; omega))), L.below⟩)
 refine (JF∘JS'∘JP∘Jy (v := .agg #[vQ vv, vW x.r, vW x.w]) (h:=by exact Yl.loadS rfl rfl qr rfl (fun _ h => qa (h.blk (i := 1) rfl)))∘JV qr O0') fun w12_1 => (Jt1∘Jj∘JZ) fun a I L => ?_
 exact ret1 rfl I (.cellS (i := 0) I L rfl rfl qr rfl) (⟨by rw [show x.moved fr to = ⟨vv, x.r, x.w⟩ from qjh (by rw [hmv] <;> omega) om]; (try rfl), L.below⟩)
def sdA (x : Stm) (ng nl nu nt ns : Nat) : List Fact := fG x.gA ng x.gc x.gs :: fI x.lA nl x.lc x.cl :: fI x.uA nu x.uc x.cu :: fT x.tA nt x.tc x.ts :: fS x.sA ns x.sc x.rs :: fR x.rs
def sdC (x : Stm) (ng nl nu nt ns : Nat) : Array Value := #[.int .i64 x.cpus, .int .u64 (x.credit : Int), .slice x.gA ng x.gc, .slice x.lA nl x.lc, .slice x.uA nu x.uc, .slice x.tA nt x.tc, .slice x.sA ns x.sc]
def StOut (W : World) (T : List Fact) (s : Sta) (r : Ending) (w' : World) : Prop := ∃ y : Stm, r = .returned (.agg y.cells) ∧ y.sta = s ∧ Mem W w' (stF y ++ T)
def OpOut (W : World) (T : List Fact) (out : Out30) (r : Ending) (w' : World) : Prop := ∃ y : Stm, r = .returned (.tuple #[.agg y.cells, .int .i64 out.2.1, .int .i64 (out.2.2 : Int)]) ∧ y.sta = out.1 ∧ Mem W w' (stF y ++ T)
section
variable {W w w' : World} {F A T fs : List Fact} {x y z : Stm} {s : Sta} {ng nl nu nt ns g c n : Nat} {mm : List Mb}
theorem Mem.sdRd (n : Nat) (h : Mem W w F) (he : F.drop n = sdA x ng nl nu nt ns ++ T) (hl : Lns x ng nl nu nt ns) : StRd w x := by
 obtain ⟨rfl, rfl, rfl, rfl, rfl⟩ := hl
 exact h.stL (T := T) n he
theorem Mem.sdB (n : Nat) (h : Mem W w F) (he : F.drop n = sdA x ng nl nu nt ns ++ T) (hl : Lns x ng nl nu nt ns) : Mem W w (stF x ++ T) := by
 obtain ⟨rfl, rfl, rfl, rfl, rfl⟩ := hl
 exact h.dropN n he
theorem qdl (hl : Lns x ng nl nu nt ns) : sdC x ng nl nu nt ns = x.cells := by
 obtain ⟨rfl, rfl, rfl, rfl, rfl⟩ := hl
 rfl
theorem qf5 (n : Nat) (L : Mem W w F) (he : F.drop n = sdA y ng nl nu nt ns ++ T) (hl : Lns y ng nl nu nt ns) (hs : y.sta = s) : StOut W T s (.returned (.agg (sdC y ng nl nu nt ns))) w := ⟨y, by rw [qdl hl], hs, L.sdB n he hl⟩
theorem qp {out : Out30} {got : Int} {e : Nat} (n : Nat) (L : Mem W w F) (he : F.drop n = sdA y ng nl nu nt ns ++ T) (hl : Lns y ng nl nu nt ns) (hout : out = (y.sta, got, e)) : OpOut W T out (.returned (.tuple #[.agg (sdC y ng nl nu nt ns), .int .i64 got, .int .i64 (e : Int)])) w := by
 subst hout
 exact ⟨y, by rw [qdl hl], rfl, L.sdB n he hl⟩
theorem qjj {out : Out30} {got : Int} {e : Nat} (n : Nat) (L : Mem W w F) (he : F.drop n = stF y ++ T) (hs : y.sta = s) (hout : out = (s, got, e)) : OpOut W T out (.returned (.tuple #[.agg y.cells, .int .i64 got, .int .i64 (e : Int)])) w := by
 subst hout
 exact ⟨y, rfl, hs, L.dropN n he⟩
theorem qjk (hx : MdOk x ng nl nu nt ns) (hr : StRd w x) (hc : (c : Int) < x.cpus) (hg : g < ns) (hm : memS x.sta g c = mm) : Calls Tryz.prog 56 #[.agg (sdC x ng nl nu nt ns), .int .i64 (g : Int), .int .i64 (c : Int)] w (qsw 102 w mm) := by
 rw [qdl hx.ln, ← hm]
 exact qg3 x hx.ok hx.few hx.sh c hc _ g (Nat.le_refl _) (by rw [hx.ln.s]; exact hg) w hr
theorem qg4 (hx : MdOk x ng nl nu nt ns) (hm : memS x.sta g c = mm) : mm.length ≤ 2000000 := by
 rw [← hm]
 have h1 := qf4 x g c
 have h2 := hx.few.t
 have h3 := hx.few.s
 omega
theorem qg5 (hx : MdOk x ng nl nu nt ns) (hm : memS x.sta g c = mm) (h0 : mm ≠ []) {B : Option Addr} {bc : Nat} (hr : Rd w w.heap.size 3 B mm.length (mm.flatMap mbrL)) : Calls Tryz.prog 57 #[.slice B mm.length bc] w (Is w (.agg (bestM topM mm).rcells)) := by
 have h1 := qe9 B bc mm w hr (List.length_pos_iff.2 h0) (qg4 hx hm)
 rwa [qg1 h0 (by rw [← hm]; exact qmg hx.ok g c)] at h1
theorem qer (hx : Lns x ng nl nu nt ns) (hr : StRd w x) (hf : x.ts.length ≤ 1000000) (id : Int) : Calls Tryz.prog 55 #[.agg (sdC x ng nl nu nt ns), .int .i64 id] w (Is w (.int .i64 (fidx x.ts id))) := by
 rw [qdl hx]
 exact qk8 x id w hr hf
theorem qs0 (hx : Lns x ng nl nu nt ns) (hr : StRd w x) (hf : x.ts.length ≤ 1000000) (id : Int) (k : Nat) (hk : fidx x.ts id = (k : Int)) : Calls Tryz.prog 55 #[.agg (sdC x ng nl nu nt ns), .int .i64 id] w (Is w (.int .i64 (k : Int))) := hk ▸ qer hx hr hf id
end
theorem qu3 {s : Sta} {g c : Nat} {z : Sp} (h : 0 < (memS s g c).length ∧ z.floor < (bestM topM (memS s g c)).v) : rise1 s g c z = { z with floor := (bestM topM (memS s g c)).v } := by
 unfold rise1
 split
 ·rename_i hn; rw [List.isEmpty_iff] at hn; rw [hn] at h; exact absurd h.1 de
 ·rw [Nat.max_eq_right om]
theorem qpo {s : Sta} {g c : Nat} {z : Sp} (h : ¬ (0 < (memS s g c).length ∧ z.floor < (bestM topM (memS s g c)).v)) : rise1 s g c z = z := by
 unfold rise1
 split
 ·rfl
 ·rename_i hn
  have : 0 < (memS s g c).length := List.length_pos_iff.2 (by simpa using hn)
  rw [Nat.max_eq_left om]
theorem Mem.joinG {W w w' : World} {F A G T : List Fact} (n : Nat) (h : Mem W w F) (k : Mem w w' G) (he : F.drop n = A ++ T) : Mem W w' (F.take n ++ (A ++ (G ++ T))) := by
 have h2 := h.joinT k
 rw [← List.take_append_drop n F, he, List.append_assoc, List.append_assoc] at h2
 exact h2.perm (List.Perm.append_left _ (List.Perm.append_left _ List.perm_append_comm))
theorem StOut.drop {W w' : World} {A T : List Fact} {s : Sta} {r : Ending} (h : StOut W (A ++ T) s r w') : StOut W T s r w' := by
 obtain ⟨y, h1, h2, h3⟩ := h
 exact ⟨y, h1, h2, h3.subl (List.Sublist.append (List.Sublist.refl _) (List.sublist_append_right ..))⟩
theorem OpOut.drop {W w' : World} {A T : List Fact} {o : Out30} {r : Ending} (h : OpOut W (A ++ T) o r w') : OpOut W T o r w' := by
 obtain ⟨y, h1, h2, h3⟩ := h
 exact ⟨y, h1, h2, h3.subl (List.Sublist.append (List.Sublist.refl _) (List.sublist_append_right ..))⟩
theorem Mem.front2 {W w : World} {F A Z T : List Fact} (n : Nat) (h : Mem W w F) (he : F.drop n = A ++ (Z ++ T)) : Mem W w (A ++ (Z ++ (F.take n ++ T))) := by
 have h2 : Mem W w (F.take n ++ (A ++ (Z ++ T))) := by rw [← he, List.take_append_drop]; exact h
 exact h2.perm ((List.perm_append_comm_assoc ..).trans (List.Perm.append_left _ (List.perm_append_comm_assoc ..)))
theorem Mem.qyv {W w : World} {F A Z T : List Fact} (h : Mem W w (A ++ (Z ++ (F ++ T)))) : Mem W w (F ++ (A ++ (Z ++ T))) := h.perm ((List.Perm.append_left _ (List.perm_append_comm_assoc ..)).trans (List.perm_append_comm_assoc ..))
def DoRef (w : World) (x : Stm) (out : Out30) (r : Ending) (w' : World) : Prop := ∃ y : Stm, r = .returned (.tuple #[.agg y.cells, .int .i64 out.2.1, .int .i64 (out.2.2 : Int)]) ∧ y.sta = out.1 ∧ ((y = x ∧ Below w.heap.size w w') ∨ Mem w w' (stF y))
section
variable {s : Sta} {o : Op30}
theorem qyc (h : o.kind = 1) : stepS s o = qcd s o := by unfold stepS; rw [h]; rfl
theorem qyd (h : o.kind = 2) : stepS s o = qce s o := by unfold stepS; rw [h]; rfl
theorem qs1 (h : o.kind = 3 ∨ o.kind = 4) : stepS s o = qar s o := by unfold stepS; rcases h with h | h <;> rw [h] <;> rfl
theorem qye (h : o.kind = 5) : stepS s o = tickS s o := by unfold stepS; rw [h]; rfl
theorem qvz (h : o.kind = 6) : stepS s o = pickS s o := by unfold stepS; rw [h]; rfl
theorem qs2 (h : o.kind = 7 ∨ o.kind = 8) : stepS s o = if o.kind = 8 then qad s o else zx s o := by
 unfold stepS
 rcases h with h | h
 ·rw [h, if_neg de]; rfl
 ·rw [h, if_pos rfl]; rfl
theorem qyf (h : o.kind = 9) : stepS s o = qaj s o := by unfold stepS; rw [h]; rfl
theorem qw7 (h : o.kind = 10) : stepS s o = qaa s o := by unfold stepS; rw [h]; rfl
theorem qw8 (h : ¬ (1 ≤ o.kind ∧ o.kind ≤ 10)) : stepS s o = (s, 0, 2) := by
 unfold stepS
 split <;> first | (exfalso; omega) | rfl
end
theorem op_md {P : Program} {W w : World} {F T : List Fact} {y : Stm} {f : Nat} {o : Op30} {out spec : Out30} (n : Nat) (L : Mem W w F) (he : F.drop n = stF y ++ T) (hs : out = spec) (k : ∀ T', Mem W w (stF y ++ T') → Calls P f #[.agg y.cells, .agg o.cells] w (OpOut W T' spec)) :
  Calls P f #[.agg y.cells, .agg o.cells] w (fun r w' => ∃ z : Stm, r = .returned (.tuple #[.agg z.cells, .int .i64 out.2.1, .int .i64 (out.2.2 : Int)]) ∧ z.sta = out.1 ∧ Mem W w' (F.take n ++ (stF z ++ T))) := by
 subst hs
 exact (k _ (L.front n he)).mono fun r w' ⟨z, h1, h2, h3⟩ => ⟨z, h1, h2, h3.back⟩
theorem st_md {P : Program} {W w : World} {F T : List Fact} {y : Stm} {f : Nat} {s : Sta} {args : Array Value} (n : Nat) (L : Mem W w F) (he : F.drop n = stF y ++ T) (k : ∀ T', Mem W w (stF y ++ T') → Calls P f args w (StOut W T' s)) :
  Calls P f args w (fun r w' => ∃ z : Stm, r = .returned (.agg z.cells) ∧ z.sta = s ∧ Mem W w' (F.take n ++ (stF z ++ T))) :=
 (k _ (L.front n he)).mono fun r w' ⟨z, h1, h2, h3⟩ => ⟨z, h1, h2, h3.back⟩
def Floors (s : Sta) (rs : List Rw) : Prop := ∀ g c, ((rs.getD g Rw.zero).l.getD c Sp.zero).floor = (s.spot g c).floor
theorem qpp {s : Sta} {rs : List Rw} {g c : Nat} {z z' : Sp} (h : Floors s rs) (hg : g < rs.length) (hz : (rs.getD g Rw.zero).l[c]? = some z) (he : z'.floor = z.floor) : Floors s (rsPut rs g c z') := fun g' c' => by
 by_cases e : g = g'
 ·subst e
  rw [qb4 hg]
  show (((rs.getD g Rw.zero).l.set c z').getD c' Sp.zero).floor = _
  by_cases e2 : c = c'
  ·subst e2
   rw [qm _ _ (List.getElem?_eq_some_iff.1 hz).1, he, ← h g c, zc Sp.zero hz]
  ·rw [getD_set_ne _ _ e2]; exact h g c'
 ·rw [qc4 e]; exact h g' c'
theorem qdz (x : Stm) : Floors x.sta x.rs := fun g c => by rw [qfx]
theorem qpq (c g : Nat) (l : List Nat) (s : Sta) : wakeS s (g :: l) c = wakeS (wake1 c s g) l c := rfl
def new0 (n cr : Nat) (gA : Option Addr) (gc : Nat) (gs : List Gr) (a b : Nat) : Stm := ⟨(n : Int), cr, gA, gc, gs, some ⟨a, 0, none⟩, n, List.replicate n 0, some ⟨b, 0, none⟩, n, List.replicate n 0, none, 0, [], none, 0, []⟩
theorem qmk {W w : World} {F : List Fact} {n cr gc a b : Nat} {gA : Option Addr} {gs : List Gr} (L : Mem W w F) (hr : Rd W W.heap.size 2 gA gs.length (gs.flatMap grL)) {i j : Nat} (h1 : F[i]? = some (.row (.slice (some ⟨a, 0, none⟩) n n) n (madeCells #[.int .i64 0] (n * 1)).toList 3 1)) (h2 : F[j]? = some (.row (.slice (some ⟨b, 0, none⟩) n n) n (madeCells #[.int .i64 0] (n * 1)).toList 3 1)) : StRd w (new0 n cr gA gc gs a b) := by
 have e := qk1 n
 have h3 := L.rd h1
 have h4 := L.rd h2
 rw [e] at h3 h4
 exact ⟨L.old hr, by show Rd w _ 1 _ (List.replicate n (0 : Int)).length _; rw [List.length_replicate]; exact h3, by show Rd w _ 1 _ (List.replicate n (0 : Int)).length _; rw [List.length_replicate]; exact h4, Rd.nil, Rd.nil, fun y hy => by cases hy⟩
theorem qjl {n cr gc a b : Nat} {gA : Option Addr} {gs : List Gr} (h1 : n ≤ 64) (h2 : gs.length ≤ 256) : StFew (new0 n cr gA gc gs a b) := ⟨by show gs.length ≤ _; omega, by show (List.replicate n (0 : Int)).length ≤ _; rw [List.length_replicate]; omega, by show (List.replicate n (0 : Int)).length ≤ _; rw [List.length_replicate]; omega, Nat.zero_le _, Nat.zero_le _, fun y hy => by cases hy⟩
theorem qu4 {n cr gc lc uc tc cs : Nat} {gA lA uA tA As : Option Addr} {gs : List Gr} {z : List Rw} (hk : z.length = gs.length) (hz : ∀ q ∈ z, q.l = List.replicate n Sp.zero) : (⟨(n : Int), cr, gA, gc, gs, lA, lc, List.replicate n 0, uA, uc, List.replicate n 0, tA, tc, [], As, cs, z⟩ : Stm).sta = newS (n : Int) cr gs := by
 have h1 : z.map Rw.l = List.replicate gs.length (List.replicate n Sp.zero) := by
  rw [List.eq_replicate_iff]
  refine ⟨by rw [List.length_map]; exact hk, fun b hb => ?_⟩
  obtain ⟨q, hq, rfl⟩ := List.mem_map.1 hb
  exact hz q hq
 unfold Stm.sta newS
 dsimp only
 rw [h1, Int.toNat_natCast]
theorem qu5 {x y : Stm} (h : StaEq x y) (h0 : x.rs = []) : x.cpus = y.cpus ∧ x.credit = y.credit ∧ x.gs = y.gs ∧ x.cl = y.cl ∧ x.cu = y.cu ∧ x.ts = y.ts ∧ y.rs = [] := by
 obtain ⟨⟨h1, h2, h3⟩, h4, h5, h6, h7⟩ := h
 refine ⟨h1, h2, h3, h4, h5, h6, ?_⟩
 have h8 := qhs (a := x) (b := y) h7
 rw [h0] at h8
 exact List.length_eq_zero_iff.1 h8.symm
theorem qbj (x : Stm) (w : World) (hx : StRd w x) (hf : StFew x) :
    Calls Tryz.prog 29 #[.agg x.cells] w (qka w x) := by
 have hfg := hf.g; have hfl := hf.l; have hfu := hf.u; have hft := hf.t; have hfs := hf.s
 refine (JN1 Tryz.func29 47) ?_
 refine (JP∘JE) fun w1 g1 => (JA #[vI 0, vQ 0, vN, vN, vN, vN, vN]) fun w2 g2 => (Jr) fun a I L => ?_
 refine fo I 0 rfl rfl ?_
 refine zr I L rfl ei_gr rfl de ?_
 clear I L; intro a w5 g5 I L
 refine Jb I L ((Jf 0∘Jg 2 O2∘JD (x.gs.flatMap grL) 0 (fun _ _ => O0') ei_gr (hr:=by exact fun L => L.old hx.g) (h1:=by exact qq3 _)) fun w9 A9 c9 hc9 => fun a I L => ?_)
 have hnA9 : 0 + x.gs.length = x.gs.length := Nat.zero_add _
 replace L := L.reRow (i := 0) (ys := x.gs.flatMap grL) rfl hnA9 (rfl)
 rw [hnA9] at hc9
 replace I := I.sp 9 (.slice A9 x.gs.length c9) rfl (by rw [hnA9])
 refine Jb I L ((Jf 0∘Jf 2) fun a I L => ?_)
 refine fo I 7 rfl rfl ?_
 refine z7 I L (i := 2) rfl rfl rfl rfl kr rfl rfl (by simp [Stm.cells]) ?_
 clear L; intro w1_7 L
 refine Jb I L ((Jt6∘Jr) fun a I L => ?_)
 refine fo I 0 rfl rfl ?_
 refine zr I L rfl zo rfl de ?_
 clear I L; intro a w12 g12 I L
 refine Jb I L ((Jg 3 O3∘JD (x.cl.map I64i) 0 (fun _ _ => O0') zo (hr:=by exact fun L => L.old hx.l) (h1:=by exact qir _)) fun w15 A15 c15 hc15 => fun a I L => ?_)
 have hnA15 : 0 + x.cl.length = x.cl.length := Nat.zero_add _
 replace L := L.reRow (i := 0) (ys := x.cl.map I64i) rfl hnA15 (rfl)
 rw [hnA15] at hc15
 replace I := I.sp 15 (.slice A15 x.cl.length c15) rfl (by rw [hnA15])
 refine Jb I L ((Jf 3∘JW O3' O3') fun w2_5 => (Jt6∘Jr) fun a I L => ?_)
 refine fo I 0 rfl rfl ?_
 refine zr I L rfl zo rfl de ?_
 clear I L; intro a w17 g17 I L
 refine Jb I L ((Jg 4 O4∘JD (x.cu.map I64i) 0 (fun _ _ => O0') zo (hr:=by exact fun L => L.old hx.u) (h1:=by exact qir _)) fun w20 A20 c20 hc20 => fun a I L => ?_)
 have hnA20 : 0 + x.cu.length = x.cu.length := Nat.zero_add _
 replace L := L.reRow (i := 0) (ys := x.cu.map I64i) rfl hnA20 (rfl)
 rw [hnA20] at hc20
 replace I := I.sp 20 (.slice A20 x.cu.length c20) rfl (by rw [hnA20])
 refine Jb I L ((Jf 4∘JW O4' O4') fun w3_5 => (Jt5∘Jr) fun a I L => ?_)
 refine fo I 0 rfl rfl ?_
 refine zr I L rfl ei_tk rfl de ?_
 clear I L; intro a w22 g22 I L
 refine Jb I L ((Jg 5 O5∘JD (x.ts.flatMap tkL) 0 (fun _ _ => O0') ei_tk (hr:=by exact fun L => L.old hx.t) (h1:=by exact qaz _)) fun w25 A25 c25 hc25 => fun a I L => ?_)
 have hnA25 : 0 + x.ts.length = x.ts.length := Nat.zero_add _
 replace L := L.reRow (i := 0) (ys := x.ts.flatMap tkL) rfl hnA25 (rfl)
 rw [hnA25] at hc25
 replace I := I.sp 25 (.slice A25 x.ts.length c25) rfl (by rw [hnA25])
 refine Jb I L ((Jf 5∘JW O5' O5') fun w4_5 => (Jt5∘Jr∘Jp 1∘Jq) fun a I L => ?_)
 replace L := L.nil 63 1
 replace L := L.newTail 83 3
 replace L : Mem w _ (.row (vN) 0 [] 63 1 :: .row (.slice A25 x.ts.length c25) x.ts.length (x.ts.flatMap tkL) 81 8 :: .row (.slice A20 x.cu.length c20) x.cu.length (x.cu.map I64i) 3 1 :: .row (.slice A15 x.cl.length c15) x.cl.length (x.cl.map I64i) 3 1 :: .row (.slice A9 x.gs.length c9) x.gs.length (x.gs.flatMap grL) 50 2 :: .blk g2 #[vI 0, vQ 0, vN, vN, vN, vN, vN] 45 :: .blk g1 #[vI x.cpus, vQ x.credit, .slice A9 x.gs.length c9, .slice A15 x.cl.length c15, .slice A20 x.cu.length c20, .slice A25 x.ts.length c25, .slice x.sA x.rs.length x.sc] 45 :: rwF 83 []) := L
 refine Jb I L ((JG∘JQ∘JP∘Jp 1∘Jj∘JB) fun a I L => ?_)
 refine qg (fun mS aS wS => ∃ (i : Nat) (z : List Rw) (As : Option Addr) (cs : Nat), (i ≤ x.rs.length) ∧ (z.length = i) ∧ (z.map Rw.l = (x.rs.take i).map Rw.l) ∧ (∀ q ∈ z, q.l.length ≤ q.c) ∧ (z.length ≤ cs) ∧ mS = x.rs.length - i ∧ Fr aS 47 [] [(4, vI i), (3, .slice As z.length cs), (2, vP g2 0), (1, vP g1 0)] ∧ Mem w wS (.row (.slice As z.length cs) z.length (z.map Rw.val) 63 1 :: .row (.slice A25 x.ts.length c25) x.ts.length (x.ts.flatMap tkL) 81 8 :: .row (.slice A20 x.cu.length c20) x.cu.length (x.cu.map I64i) 3 1 :: .row (.slice A15 x.cl.length c15) x.cl.length (x.cl.map I64i) 3 1 :: .row (.slice A9 x.gs.length c9) x.gs.length (x.gs.flatMap grL) 50 2 :: .blk g2 #[vI 0, vQ 0, vN, vN, vN, vN, vN] 45 :: .blk g1 #[vI x.cpus, vQ x.credit, .slice A9 x.gs.length c9, .slice A15 x.cl.length c15, .slice A20 x.cu.length c20, .slice A25 x.ts.length c25, .slice x.sA x.rs.length x.sc] 45 :: rwF 83 z)) (m := x.rs.length - 0) ⟨0, [], none, 0, Nat.zero_le _, rfl, rfl, (fun q h => by cases h), Nat.le_refl _, rfl, I.sub kr, L.pt 7 [0, 1, 2, 3, 4, 5, 6]⟩ ?_
 clear I L; rintro mS a w_ ⟨i, z, As, cs, hi, hzl, hz, hzc, hcs, rfl, I, L⟩
 refine Jb I L ((JQ∘JP∘Jp 1∘Jg 6 O6∘Jl∘Jp 1∘Jd3∘Jj) (Ju (fun hb31 => ?_) fun hb31 => ?_))
 ·
  intro a I L
  have hd31 := of_decide_eq_true hb31
  have hi31 : i < x.rs.length := by omega
  obtain ⟨y, hy⟩ : ∃ q, x.rs.getD i Rw.zero = q := ⟨_, rfl⟩
  have hyr : Rd w w.heap.size 3 y.A y.l.length (y.l.flatMap spL) := by rw [← hy]; exact hx.row hi31
  have hyl : y.l.length ≤ 1000000 := by rw [← hy]; exact hf.r _ (qf Rw.zero hi31)
  refine Jb I L ((JT∘JS'∘JQ∘JB∘JR∘Jp 1) fun a I L => ?_)
  refine fo I 1 rfl rfl ?_
  refine zr I L rfl ei_sp rfl de ?_
  clear I L; intro a w35 g35 I L
  refine Jb I L ((Jg 6 O7∘Jp 1) fun a I L => ?_)
  obtain ⟨gq1, oq1, hq1, _⟩ := Rd.qn hx.s (Nat.lt_of_le_of_lt (Nat.zero_le _) (show i < x.rs.length from by omega)) de
  have hrq1 := hx.s; rw [hq1] at hrq1
  replace I := I.sp 37 (.slice (some ⟨gq1, oq1, none⟩) x.rs.length x.sc) rfl (by rw [hq1]; try rfl)
  refine Jb I L ((Jy (h:=by exact Yl.ix gq1 oq1 i 1 rfl rfl rfl)∘Jy (v := .slice ((x.rs.getD i Rw.zero).A) ((x.rs.getD i Rw.zero).l.length) ((x.rs.getD i Rw.zero).c)) (h:=by exact Yl.o1 hrq1 i Rw.zero hi31 rfl rfl)∘Jo (.slice y.A y.l.length y.c) (by rw [hy])∘JD (y.l.flatMap spL) 0 (fun _ _ => O0') ei_sp (hr:=by exact fun L => L.old hyr) (h1:=by exact qq4 _)) fun w41 A41 c41 hc41 => fun a I L => ?_)
  have hnA41 : 0 + y.l.length = y.l.length := Nat.zero_add _
  replace L := L.reRow (i := 0) (ys := y.l.flatMap spL) rfl hnA41 (rfl)
  rw [hnA41] at hc41
  replace I := I.sp 41 (.slice A41 y.l.length c41) rfl (by rw [hnA41])
  refine Jb I L ((JU ei_rw #[.slice A41 y.l.length c41]) fun w42 g42 => (JD ([(⟨A41, c41, y.l⟩ : Rw)].map Rw.val) 2 (fun _ _ => O2') ei_rw (hr:=by exact fun L => L.rdBlk (i := 0) (n := 1) (size := 1) rfl rfl) (h1:=by exact qnb _)) fun w43 A43 c43 hc43 => fun a I L => ?_)
  have hnA43 : z.length + 1 = (z ++ [(⟨A41, c41, y.l⟩ : Rw)]).length := qjd rfl
  replace L := L.reRow (i := 2) (ys := (z ++ [(⟨A41, c41, y.l⟩ : Rw)]).map Rw.val) rfl hnA43 (List.map_append.symm)
  rw [hnA43] at hc43
  replace I := I.sp 43 (.slice A43 ((z ++ [(⟨A41, c41, y.l⟩ : Rw)]).length) c43) rfl (by rw [hnA43])
  refine Jb I L ((Jp 1∘Jd6∘Jq) fun a I L => ?_)
  replace L := L.pt (fs' := (.row (.slice A41 y.l.length c41) y.l.length (y.l.flatMap spL) 83 3 :: .row (.slice A43 ((z ++ [(⟨A41, c41, y.l⟩ : Rw)]).length) c43) ((z ++ [(⟨A41, c41, y.l⟩ : Rw)]).length) ((z ++ [(⟨A41, c41, y.l⟩ : Rw)]).map Rw.val) 63 1 :: .row (.slice A25 x.ts.length c25) x.ts.length (x.ts.flatMap tkL) 81 8 :: .row (.slice A20 x.cu.length c20) x.cu.length (x.cu.map I64i) 3 1 :: .row (.slice A15 x.cl.length c15) x.cl.length (x.cl.map I64i) 3 1 :: .row (.slice A9 x.gs.length c9) x.gs.length (x.gs.flatMap grL) 50 2 :: .blk g2 #[vI 0, vQ 0, vN, vN, vN, vN, vN] 45 :: .blk g1 #[vI x.cpus, vQ x.credit, .slice A9 x.gs.length c9, .slice A15 x.cl.length c15, .slice A20 x.cu.length c20, .slice A25 x.ts.length c25, .slice x.sA x.rs.length x.sc] 45 :: rwF 83 z)) 9 [1, 2, 3, 4, 5, 6, 7, 8]
  replace L := Mem.toRw (fs := [.row (.slice A43 ((z ++ [(⟨A41, c41, y.l⟩ : Rw)]).length) c43) ((z ++ [(⟨A41, c41, y.l⟩ : Rw)]).length) ((z ++ [(⟨A41, c41, y.l⟩ : Rw)]).map Rw.val) 63 1, .row (.slice A25 x.ts.length c25) x.ts.length (x.ts.flatMap tkL) 81 8, .row (.slice A20 x.cu.length c20) x.cu.length (x.cu.map I64i) 3 1, .row (.slice A15 x.cl.length c15) x.cl.length (x.cl.map I64i) 3 1, .row (.slice A9 x.gs.length c9) x.gs.length (x.gs.flatMap grL) 50 2, .blk g2 #[vI 0, vQ 0, vN, vN, vN, vN, vN] 45, .blk g1 #[vI x.cpus, vQ x.credit, .slice A9 x.gs.length c9, .slice A15 x.cl.length c15, .slice A20 x.cu.length c20, .slice A25 x.ts.length c25, .slice x.sA x.rs.length x.sc] 45]) L
  replace L : Mem w _ (.row (.slice A43 ((z ++ [(⟨A41, c41, y.l⟩ : Rw)]).length) c43) ((z ++ [(⟨A41, c41, y.l⟩ : Rw)]).length) ((z ++ [(⟨A41, c41, y.l⟩ : Rw)]).map Rw.val) 63 1 :: .row (.slice A25 x.ts.length c25) x.ts.length (x.ts.flatMap tkL) 81 8 :: .row (.slice A20 x.cu.length c20) x.cu.length (x.cu.map I64i) 3 1 :: .row (.slice A15 x.cl.length c15) x.cl.length (x.cl.map I64i) 3 1 :: .row (.slice A9 x.gs.length c9) x.gs.length (x.gs.flatMap grL) 50 2 :: .blk g2 #[vI 0, vQ 0, vN, vN, vN, vN, vN] 45 :: .blk g1 #[vI x.cpus, vQ x.credit, .slice A9 x.gs.length c9, .slice A15 x.cl.length c15, .slice A20 x.cu.length c20, .slice A25 x.ts.length c25, .slice x.sA x.rs.length x.sc] 45 :: rwF 83 (z ++ [(⟨A41, c41, y.l⟩ : Rw)])) := L
  refine Jb I L ((JG∘JR∘Jp 1∘JaK 1∘Jp 1∘Jd2∘Jq) fun a I L => ?_)
  exact ⟨_, om, i + 1, (z ++ [(⟨A41, c41, y.l⟩ : Rw)]), A43, c43, by omega, by rw [List.length_append, hzl]; rfl, by rw [List.map_append, hz, qis hi31, hy]; rfl, fun q h => (List.mem_append.1 h).elim (hzc q) (fun h => by rw [List.mem_singleton] at h; subst h; exact hc41), hc43, rfl, I.sub kr, L.pt 7 [0, 1, 2, 3, 4, 5, 6]⟩
 intro a I L
 have hd31 := of_decide_eq_false hb31
 have hzt : x.rs.take i = x.rs := List.take_of_length_le om
 refine Jb I L ((JF∘JX∘JG∘JP∘Jp 1∘Jf 6∘JW O6' O6') fun w10_2 => (Jt2∘Jr∘Jy (v := .agg #[vI x.cpus, vQ x.credit, .slice A9 x.gs.length c9, .slice A15 x.cl.length c15, .slice A20 x.cu.length c20, .slice A25 x.ts.length c25, .slice As z.length cs]) (h:=by exact Yl.loadS rfl rfl si_st rfl (fun _ h => qa (h.blk (i := 6) rfl)))∘JV si_st O5') fun w11_1 => (Jt1∘Jj∘JZ) fun a I L => ?_)
 exact ret1 rfl I (.cellS (i := 5) I L rfl rfl si_st rfl) (⟨⟨x.cpus, x.credit, A9, c9, x.gs, A15, c15, x.cl, A20, c20, x.cu, A25, c25, x.ts, As, cs, z⟩, rfl, ⟨⟨rfl, rfl, rfl⟩, rfl, rfl, rfl, (by rw [hzt] at hz; exact hz.symm)⟩, ⟨hc9, hc15, hc20, hc25, hcs, hzc⟩, L.pt 7 [4, 3, 2, 1, 0]⟩)
theorem qfa {w : World} {x : Stm} {ng nl nu nt ns : Nat} (hl : Lns x ng nl nu nt ns) (hr : StRd w x) (hf : StFew x) : Calls Tryz.prog 29 #[.agg (sdC x ng nl nu nt ns)] w (qka w x) := by
 rw [qdl hl]
 exact qbj x w hr hf
theorem qpr (W w : World) (x : Stm) (ng nl nu nt ns : Nat) (hx : MdOk x ng nl nu nt ns) (T : List Fact) (L : Mem W w (sdA x ng nl nu nt ns ++ T)) :
    Calls Tryz.prog 77 #[.agg (sdC x ng nl nu nt ns)] w (StOut W T (riseS x.sta)) := by
 obtain ⟨cp, cr, gA, gc, gs, lA, lc, cl, uA, uc, cu, tA, tc, ts, sA, sc, rs⟩ := x
 replace L : Mem W w (fG gA ng gc gs :: fI lA nl lc cl :: fI uA nu uc cu :: fT tA nt tc ts :: fS sA ns sc rs :: (fR rs ++ (T))) := L
 have hln := hx.ln
 obtain ⟨hlg, hll, hlu, hlt, hls⟩ := hln
 replace hlg : gs.length = ng := hlg; replace hll : cl.length = nl := hll; replace hlu : cu.length = nu := hlu; replace hlt : ts.length = nt := hlt; replace hls : rs.length = ns := hls
 have hlns := hx.ln
 have hsp : SpsOk gs cp rs := hx.spots
 have hrg : rs.length = gs.length := hx.sh.rs
 have hcr : cr < 18446744073709551616 := hx.ok.credit
 obtain ⟨hcp1, hcp2, _, hgs⟩ := zj hx.sh.cfg
 replace hcp1 : 1 ≤ cp := hcp1; replace hcp2 : cp ≤ 64 := hcp2; replace hgs : gsOk gs = true := hgs
 have hgl1 := (qo hgs).1; have hgl2 := (qo hgs).2.1
 have hcll : (cl.length : Int) = cp := hx.sh.cl; have hcul : (cu.length : Int) = cp := hx.sh.cu
 have hfts : ts.length ≤ 1000000 := hx.few.t
 obtain ⟨gsA, rfl⟩ := qi (L.own (i := 4) rfl) om
 show Calls Tryz.prog 77 #[.agg #[vI cp, vQ cr, .slice gA ng gc, .slice lA nl lc, .slice uA nu uc, .slice tA nt tc, vS gsA ns sc]] w _
 refine (Jin1 L Tryz.func77 54) ?_
 refine (JP∘JE) fun w1 g1 => (JA #[vI 0, vQ 0, vN, vN, vN, vN, vN]) fun w2 g2 => (Jj∘JQ∘JP∘Jp 1∘Jj∘JB) fun a I L => ?_
 refine qg (fun mS aS wS => ∃ (g : Nat) (rs2 : List Rw), (g ≤ ns) ∧ (rs2.length = ns) ∧ (MdOk (⟨cp, cr, gA, gc, gs, lA, lc, cl, uA, uc, cu, tA, tc, ts, some ⟨gsA, 0, none⟩, sc, rs2⟩ : Stm) ng nl nu nt ns) ∧ (Risen (⟨cp, cr, gA, gc, gs, lA, lc, cl, uA, uc, cu, tA, tc, ts, some ⟨gsA, 0, none⟩, sc, rs⟩ : Stm) rs2 g 0) ∧ mS = ns - g ∧ Fr aS 54 [] [(3, vI g), (2, vP g2 0), (1, vP g1 0)] ∧ Mem W wS (.blk g2 #[vI 0, vQ 0, vN, vN, vN, vN, vN] 45 :: .blk g1 #[vI cp, vQ cr, .slice gA ng gc, .slice lA nl lc, .slice uA nu uc, .slice tA nt tc, vS gsA ns sc] 45 :: fG gA ng gc gs :: fI lA nl lc cl :: fI uA nu uc cu :: fT tA nt tc ts :: fS (some ⟨gsA, 0, none⟩) ns sc rs2 :: (fR rs2 ++ (T)))) (m := ns - 0) ⟨0, rs, Nat.zero_le _, hls, hx, qhw, rfl, I.sub kr, L.pt 7 [0, 1, 2, 3, 4, 5, 6]⟩ ?_
 clear I L; rintro mS a w_ ⟨g, rs2, hg, hl2, hx2, hR, rfl, I, L⟩
 refine Jb I L ((JQ∘JP∘Jp 1∘Jg 6 O1∘Jl∘Jp 1∘Jd3∘Jj) (Ju (fun hb10 => ?_) fun hb10 => ?_))
 ·
  intro a I L
  have hd10 := of_decide_eq_true hb10
  have hg10 : g < ns := by omega
  obtain ⟨⟨yA, yc, yl⟩, hy⟩ : ∃ y, rs2.getD g Rw.zero = y := ⟨_, rfl⟩
  have hys := hx2.spots g (by show g < rs2.length; omega)
  replace hys : ((rs2.getD g Rw.zero).l.length : Int) = cp ∧ _ := hys
  rw [hy] at hys
  have hyl : (yl.length : Int) = cp := hys.1
  revert L; revert a; repeat (first | clear I | clear L)
  intro a I L
  obtain ⟨gy, rfl⟩ := L.rwSome 7 rfl om hy om
  have hyo := hR.2.1 g
  rw [hy] at hyo
  replace hyo : yl.length = (rs.getD g Rw.zero).l.length := hyo
  refine Jb I L ((JT∘JS'∘JQ∘JB∘JP∘Jp 1∘Jj∘JB) fun a I L => ?_)
  refine qg (fun mS aS wS => ∃ (c : Nat) (rs3 : List Rw) (yl3 : List Sp), (rs3.length = ns) ∧ (MdOk (⟨cp, cr, gA, gc, gs, lA, lc, cl, uA, uc, cu, tA, tc, ts, some ⟨gsA, 0, none⟩, sc, rs3⟩ : Stm) ng nl nu nt ns) ∧ (Risen (⟨cp, cr, gA, gc, gs, lA, lc, cl, uA, uc, cu, tA, tc, ts, some ⟨gsA, 0, none⟩, sc, rs⟩ : Stm) rs3 g c) ∧ (rs3.getD g Rw.zero = ⟨some ⟨gy, 0, none⟩, yc, yl3⟩) ∧ (yl3.length = yl.length) ∧ mS = yl.length - c ∧ Fr aS 54 [] [(4, vI c), (10, .bool true), (3, vI g), (2, vP g2 0), (1, vP g1 0)] ∧ Mem W wS (.blk g2 #[vI 0, vQ 0, vN, vN, vN, vN, vN] 45 :: .blk g1 #[vI cp, vQ cr, .slice gA ng gc, .slice lA nl lc, .slice uA nu uc, .slice tA nt tc, vS gsA ns sc] 45 :: fG gA ng gc gs :: fI lA nl lc cl :: fI uA nu uc cu :: fT tA nt tc ts :: fS (some ⟨gsA, 0, none⟩) ns sc rs3 :: (fR rs3 ++ (T)))) (m := yl.length - 0) ⟨0, rs2, yl, hl2, hx2, hR, hy, rfl, rfl, I.sub kr, L.pt 7 [0, 1, 2, 3, 4, 5, 6]⟩ ?_
  clear I L; rintro mS a w_ ⟨c, rs3, yl3, hl3, hx3, hR3, hy3, hyl3, rfl, I, L⟩
  refine Jb I L ((JQ∘JP∘Jp 1∘Jf 0∘Jg 0 O1∘Jp 1∘Jd3∘Jj) (Ju (fun hb17 => ?_) fun hb17 => ?_))
  ·
   intro a I L
   have hd17 := of_decide_eq_true hb17
   have hc17 : c < yl.length := by omega
   obtain ⟨zz, hzz⟩ : ∃ z, yl3[c]? = some z := ⟨_, List.getElem?_eq_getElem om⟩
   obtain ⟨mm, hmm⟩ : ∃ z, memS (⟨cp, cr, gA, gc, gs, lA, lc, cl, uA, uc, cu, tA, tc, ts, some ⟨gsA, 0, none⟩, sc, rs⟩ : Stm).sta g c = z := ⟨_, rfl⟩
   have hm3 := (qkg hR3 g c).trans hmm
   have hmf := qg4 hx3 hm3
   have hsp3 := hx3.spots g (by show g < rs3.length; omega)
   replace hsp3 : ((rs3.getD g Rw.zero).l.length : Int) = cp ∧ ∀ z ∈ (rs3.getD g Rw.zero).l, z.Ok ∧ _ := hsp3
   rw [hy3] at hsp3
   have hzo := (hsp3.2 zz (List.mem_of_getElem? hzz)).1
   have hzf := hzo.floor
   have hso := (qed (x := (⟨cp, cr, gA, gc, gs, lA, lc, cl, uA, uc, cu, tA, tc, ts, some ⟨gsA, 0, none⟩, sc, rs3⟩ : Stm)) (by show g < rs3.length; omega) (hx3.sh.row g (by show g < rs3.length; omega))).2 c (by show c < (rs3.getD g Rw.zero).l.length; rw [hy3]; show c < yl3.length; omega)
   replace hso : spOk _ g ((rs3.getD g Rw.zero).l.getD c Sp.zero) = true := hso
   rw [hy3, show (⟨some ⟨gy, 0, none⟩, yc, yl3⟩ : Rw).l.getD c Sp.zero = zz from zc Sp.zero hzz] at hso
   refine Jb I L ((JT∘JS'∘JQ∘JB∘JP∘Jy (v := .agg #[vI cp, vQ cr, .slice gA ng gc, .slice lA nl lc, .slice uA nu uc, .slice tA nt tc, vS gsA ns sc]) (h:=by exact Yl.loadS rfl rfl si_st rfl (fun _ h => qa (h.blk (i := 1) rfl)))∘Jp 2∘JK (h:=by exact fun L => qjk (x := (⟨cp, cr, gA, gc, gs, lA, lc, cl, uA, uc, cu, tA, tc, ts, some ⟨gsA, 0, none⟩, sc, rs3⟩ : Stm)) hx3 (L.sdRd 2 rfl hx3.ln) om om hm3)) fun A23 c23 w23 hc23 => (Jp 1∘Jd4∘Jj) fun a I L => ?_)
   refine qz (fun aS wS => Fr aS 54 [] [(41, .bool (decide (0 < mm.length ∧ zz.floor < (bestM topM mm).v))), (5, .slice A23 mm.length c23), (17, .bool true), (4, vI c), (10, .bool true), (3, vI g), (2, vP g2 0), (1, vP g1 0)] ∧ Mem W wS (.row (.slice A23 mm.length c23) mm.length (mm.flatMap mbrL) 102 3 :: .blk g2 #[vI 0, vQ 0, vN, vN, vN, vN, vN] 45 :: .blk g1 #[vI cp, vQ cr, .slice gA ng gc, .slice lA nl lc, .slice uA nu uc, .slice tA nt tc, vS gsA ns sc] 45 :: fG gA ng gc gs :: fI lA nl lc cl :: fI uA nu uc cu :: fT tA nt tc ts :: fS (some ⟨gsA, 0, none⟩) ns sc rs3 :: (fR rs3 ++ (T)))) ?_ ?_
   ·
    refine Jb I L ((Vs .n []) fun wd8 => (Vp [0]∘Vl 1∘Vp [2, 3]) fun a I L HS => ?_)
    rcases I.tf 27 rfl with ⟨hb27, I⟩ | ⟨hb27, I⟩
    ·
     have hd27 := of_decide_eq_true hb27
     have hne : mm ≠ [] := fun e => by rw [e] at hd27; exact absurd hd27 de
     refine Vb I L HS ((Vp [4]∘Vf 7 6∘Vp [9, 12]∘Vc 8 O2∘Vy 10 (h:=by exact Yl.ix0 gsA g 1 rfl rfl rfl)∘Vy 11 (v := .slice ((rs3.getD g Rw.zero).A) ((rs3.getD g Rw.zero).l.length) ((rs3.getD g Rw.zero).c)) (h:=by exact Yl.r1 7 g Rw.zero om rfl rfl rfl)∘Vo (vS gy yl3.length yc) (by rw [hy3])∘Vy 13 (h:=by exact Yl.ix0 gy c 3 rfl rfl rfl)∘Vf 14 2∘Vy 15 (v := vQ zz.floor) (h:=by exact Yl.qh rfl rfl kr (fun _ h => h.qa1 8 (j := 2) rfl om hy3 (hzz) rfl))∘VI 5 .n (h:=by exact fun L => qg5 hx3 hm3 hne (L.rd (i := 0) rfl))) fun w29 hbw => (Vy 6 (v := vQ ((bestM topM mm).v)) (h:=by exact Yl.field rfl rfl kr)∘Vp [16, 17]∘Vd∘Jd6) fun a I L => ?_)
     have I := I.sp 41 (.bool (decide (0 < mm.length ∧ zz.floor < (bestM topM mm).v))) rfl (congrArg Value.bool (decide_eq_decide.2 om))
     exact ⟨I.sub kr, L.pt 8 [0, 1, 2, 3, 4, 5, 6, 7]⟩
    have hd27 := of_decide_eq_false hb27
    refine ap I (fun _ => HS) [4, 5, 6, 7, 8, 9, 10, 11, 12, 13, 14, 15, 16, 17] (bt 18 []) [(41, .bool false)] fun a I => ?_
    refine qb kr ?_
    have I := I.sp 41 (.bool (decide (0 < mm.length ∧ zz.floor < (bestM topM mm).v))) rfl (congrArg Value.bool (decide_eq_false om).symm)
    exact ⟨I.sub kr, L.pt 8 [0, 1, 2, 3, 4, 5, 6, 7]⟩
   clear I L; rintro a w8 ⟨I, L⟩
   refine Jb I L (Ju (fun hb41 => ?_) fun hb41 => ?_)
   ·
    intro a I L
    have hd41 := of_decide_eq_true hb41
    have hne : mm ≠ [] := fun e => by rw [e] at hd41; exact absurd hd41.1 de
    have hbv := qnq (x := (⟨cp, cr, gA, gc, gs, lA, lc, cl, uA, uc, cu, tA, tc, ts, some ⟨gsA, 0, none⟩, sc, rs⟩ : Stm)) hx.ok (g := g) (c := c) (by rw [hmm]; exact hne)
    rw [hmm] at hbv
    have hr1 : rise1 (⟨cp, cr, gA, gc, gs, lA, lc, cl, uA, uc, cu, tA, tc, ts, some ⟨gsA, 0, none⟩, sc, rs⟩ : Stm).sta g c zz = { zz with floor := (bestM topM mm).v } := (qu3 (by rw [hmm]; exact hd41)).trans (by rw [hmm])
    refine Jb I L ((JT∘Vs .n [11]) fun wd9 => (Vf 0 6∘Vp [2, 5, 6]∘Vc 1 O2∘Vy 3 (h:=by exact Yl.ix0 gsA g 1 rfl rfl rfl)∘Vy 4 (v := .slice ((rs3.getD g Rw.zero).A) ((rs3.getD g Rw.zero).l.length) ((rs3.getD g Rw.zero).c)) (h:=by exact Yl.r1 7 g Rw.zero om rfl rfl rfl)∘Vo (vS gy yl3.length yc) (by rw [hy3])∘VI 7 .n (h:=by exact fun L => qg5 hx3 hm3 hne (L.rd (i := 0) rfl))) fun w49 hbw => (Vy 8 (v := vQ ((bestM topM mm).v)) (h:=by exact Yl.field rfl rfl kr)∘Vu 9 (h:=by exact fun _ => Yl.ix0 gy c 3 rfl rfl rfl)∘Vf 10 2) fun a I L HS => ?_)
    refine s_on I 11 rfl ?_
    refine zb I L 7 (c := c) 2 ({ zz with floor := (bestM topM mm).v }) rfl rfl rfl rfl kr rfl rfl om (hy3) (hzz) rfl de rfl ?_
    clear L; intro w9_11 L
    replace L : Mem W w9_11 (.row (.slice A23 mm.length c23) mm.length (mm.flatMap mbrL) 102 3 :: .blk g2 #[vI 0, vQ 0, vN, vN, vN, vN, vN] 45 :: .blk g1 #[vI cp, vQ cr, .slice gA ng gc, .slice lA nl lc, .slice uA nu uc, .slice tA nt tc, vS gsA ns sc] 45 :: fG gA ng gc gs :: fI lA nl lc cl :: fI uA nu uc cu :: fT tA nt tc ts :: fS (some ⟨gsA, 0, none⟩) ns sc (rsPut rs3 g c ({ zz with floor := (bestM topM mm).v })) :: (fR (rsPut rs3 g c ({ zz with floor := (bestM topM mm).v })) ++ (T))) := L
    refine noS kr ?_
    refine qb kr ?_
    refine Jb I L ((JG∘JR∘Jp 1∘JaK 1∘Jp 1∘Jd6∘Jq) fun a I L => ?_)
    exact ⟨_, om, c + 1, (rsPut rs3 g c { zz with floor := (bestM topM mm).v }), (yl3.set c { zz with floor := (bestM topM mm).v }), by rw [qt]; exact hl3, hx3.put (by show g < rs3.length; omega) { zz with floor := (bestM topM mm).v } ⟨hzo.v, hzo.r, hbv⟩ hso, qhx hR3 (by show g < rs.length; omega) (by show c < (rs.getD g Rw.zero).l.length; omega) (by rw [hy3]; exact hzz) hr1, qem om hy3, by rw [List.length_set]; exact hyl3, rfl, I.sub kr, L.pt 8 [1, 2, 3, 4, 5, 6, 7]⟩
   intro a I L
   have hd41 := of_decide_eq_false hb41
   have hr1 : rise1 (⟨cp, cr, gA, gc, gs, lA, lc, cl, uA, uc, cu, tA, tc, ts, some ⟨gsA, 0, none⟩, sc, rs⟩ : Stm).sta g c zz = zz := qpo (by rw [hmm]; exact hd41)
   refine Jb I L ((JF∘JS'∘JR∘Jp 1∘JaK 1∘Jp 1∘Jd2∘Jq) fun a I L => ?_)
   exact ⟨_, om, c + 1, rs3, yl3, hl3, hx3, qon hR3 (by show g < rs.length; omega) (by show c < (rs.getD g Rw.zero).l.length; omega) (by rw [hy3]; exact hzz) hr1, hy3, hyl3, rfl, I.sub kr, L.pt 8 [1, 2, 3, 4, 5, 6, 7]⟩
  intro a I L
  have hd17 := of_decide_eq_false hb17
  refine Jb I L ((JF∘JX∘JG∘JR∘Jp 1∘JaK 1∘Jp 1∘Jd2∘Jq) fun a I L => ?_)
  exact ⟨_, om, g + 1, rs3, by omega, hl3, hx3, qkh hR3 (by show (rs.getD g Rw.zero).l.length ≤ c; omega), rfl, I.sub kr, L.pt 7 [0, 1, 2, 3, 4, 5, 6]⟩
 intro a I L
 have hd10 := of_decide_eq_false hb10
 refine Jb I L ((JF∘JX∘JG∘JP∘Jy (v := .agg #[vI cp, vQ cr, .slice gA ng gc, .slice lA nl lc, .slice uA nu uc, .slice tA nt tc, vS gsA ns sc]) (h:=by exact Yl.loadS rfl rfl si_st rfl (fun _ h => qa (h.blk (i := 1) rfl)))∘JV si_st O0') fun w10_1 => (Jt1∘Jj∘JZ) fun a I L => ?_)
 exact ret1 rfl I (.cellS (i := 0) I L rfl rfl si_st rfl) (qf5 (y := (⟨cp, cr, gA, gc, gs, lA, lc, cl, uA, uc, cu, tA, tc, ts, some ⟨gsA, 0, none⟩, sc, rs2⟩ : Stm)) 2 L rfl hx2.ln (qki hR (by show rs.length ≤ g; omega)))
theorem qs3 {w : World} {x : Stm} {y : Rw} {k : Nat} {A : Option Addr} (hy : x.rs.getD k Rw.zero = y) (hk : k < x.rs.length) (hx : StRd w x) (e : y.A = A) : Rd w w.heap.size 3 A y.l.length (y.l.flatMap spL) := by
 subst e
 rw [← hy]
 exact hx.row hk
theorem qes (x e : En) (hx : x.Ok) (fl cr : Nat) (hf : fl < 18446744073709551616) (hc : cr < 18446744073709551616) (he : x.woken fl cr = e) (w : World) :
  Calls Tryz.prog 115 #[.agg x.cells, vQ fl, vQ cr] w (Is w (.agg e.cells)) := he ▸ qpj x hx fl cr hf hc w
theorem Jin4 {P : Program} {W w : World} {fs : List Fact} {f : Nat} {fn : Func} {c : Code} {R : Ending → World → Prop} {u1 u2 u3 u4 : Value} (L : Mem W w fs) (hf : P.funcs[f]? = some fn) (N : Nat) (hn : fn.ntmps = N := by exact rfl) (hb : fn.body = some c := by exact rfl) (hl : decide (4 ≤ N) = true := by kernel_rfl) (k : JJ W w N [] [(0, u1), (1, u2), (2, u3), (3, u4)] fs (Code.wp P c (bodyPost P fn R))) : Calls P f #[u1, u2, u3, u4] w R :=
 zy (vs := [u1, u2, u3, u4]) hf hb hn hl rfl fun a I => k a I L
theorem qn0 (n cr : Nat) (gA : Option Addr) (gc : Nat) (gs : List Gr) (w : World) (hn : 1 ≤ n ∧ n ≤ 64) (hgl : 1 ≤ gs.length ∧ gs.length ≤ 256) (hr : Rd w w.heap.size 2 gA gs.length (gs.flatMap grL)) :
    Calls Tryz.prog 10 #[.agg #[vI n, vQ cr, .slice gA gs.length gc]] w (fun r w' => ∃ y : Stm, r = .returned (.agg y.cells) ∧ y.sta = newS (n : Int) cr gs ∧ Mem w w' (stF y)) := by
 refine (JN1 Tryz.func10 30) ?_
 refine (JP∘JE) fun w1 g1 => (JA #[vI 0, vQ 0, vN, vN, vN, vN, vN]) fun w2 g2 => (Jj) fun a I L => ?_
 refine wp_seq ?_
 refine Jb I L ((Vs .n [10]) fun wd1 => fun a I L HS => ?_)
 refine qu (f := 1) (l := (bt 11 [10])) (fun aS wS => ∃ (g8 : Nat) (g11 : Nat) (y : Stm) (g3 : Nat), Fr aS 30 [] [(3, vP g3 0), (13, .agg y.cells), (2, vP g2 0), (1, vP g1 0), (0, .agg #[vI n, vQ cr, .slice gA gs.length gc])] ∧ Mem w wS (.blk g3 #[vI 0, vQ 0, vN, vN, vN, vN, vN] 45 :: .row (vS g11 n n) n ((madeCells #[vI 0] (n * 1)).toList) 3 1 :: .row (vS g8 n n) n ((madeCells #[vI 0] (n * 1)).toList) 3 1 :: .blk g2 #[vI 0, vQ 0, vN, vN, vN, vN, vN] 45 :: .blk g1 #[vI n, vQ cr, .slice gA gs.length gc] 33 :: stF y) ∧ (StaEq (new0 n cr gA gc gs g8 g11) y) ∧ (StCap y)) ?_ fun M1_0 => ?_
 ·
  clear I L HS; rintro a wM ⟨g8, g11, y, g3, I, L, heq, hcap⟩
  have HS := L.pk (fs' := [.blk g2 #[vI 0, vQ 0, vN, vN, vN, vN, vN] 45, .blk g1 #[vI n, vQ cr, .slice gA gs.length gc] 33]) [3, 4]
  refine s_on I 10 rfl (e_sa I L 0 rfl rfl rfl rfl rfl si_st rfl rfl (q5 y) ?_)
  clear L; intro w1_10 L
  refine noS kr ?_
  refine qb kr ?_
  obtain ⟨_, _, gA2, gc2, _, lA2, lc2, _, uA2, uc2, _, tA2, tc2, _, sA2, sc2, _⟩ := y
  revert L; revert a; repeat (first | clear I | clear L)
  intro a I L
  obtain ⟨rfl, rfl, rfl, rfl, rfl, rfl, rfl⟩ := qu5 heq rfl
  replace L := L.pt 5 [0, 3, 4]
  replace L : Mem w _ (.blk g3 #[vI n, vQ cr, .slice gA2 gs.length gc2, .slice lA2 ((List.replicate n (0 : Int)).length) lc2, .slice uA2 ((List.replicate n (0 : Int)).length) uc2, .slice tA2 (([] : List Tk).length) tc2, .slice sA2 0 sc2] 45 :: .blk g2 #[vI 0, vQ 0, vN, vN, vN, vN, vN] 45 :: .blk g1 #[vI n, vQ cr, .slice gA gs.length gc] 33 :: .row (.slice gA2 gs.length gc2) gs.length (gs.flatMap grL) 50 2 :: .row (.slice lA2 ((List.replicate n (0 : Int)).length) lc2) ((List.replicate n (0 : Int)).length) ((List.replicate n (0 : Int)).map I64i) 3 1 :: .row (.slice uA2 ((List.replicate n (0 : Int)).length) uc2) ((List.replicate n (0 : Int)).length) ((List.replicate n (0 : Int)).map I64i) 3 1 :: .row (.slice tA2 (([] : List Tk).length) tc2) (([] : List Tk).length) (([] : List Tk).flatMap tkL) 81 8 :: .row (.slice sA2 0 sc2) 0 [] 63 1 :: rwF 83 []) := L
  refine Jb I L ((JQ∘JP∘Jp 1∘Jj∘JB) fun a I L => ?_)
  refine qg (fun mS aS wS => ∃ (k : Nat) (z : List Rw) (As : Option Addr) (cs : Nat), (k ≤ gs.length) ∧ (z.length = k) ∧ (∀ q ∈ z, q.l = List.replicate n Sp.zero) ∧ (k ≤ cs) ∧ mS = gs.length - k ∧ Fr aS 30 [] [(4, vI k), (3, vP g3 0), (2, vP g2 0), (1, vP g1 0)] ∧ Mem w wS (.blk g3 #[vI n, vQ cr, .slice gA2 gs.length gc2, .slice lA2 ((List.replicate n (0 : Int)).length) lc2, .slice uA2 ((List.replicate n (0 : Int)).length) uc2, .slice tA2 (([] : List Tk).length) tc2, .slice As k cs] 45 :: .blk g2 #[vI 0, vQ 0, vN, vN, vN, vN, vN] 45 :: .blk g1 #[vI n, vQ cr, .slice gA gs.length gc] 33 :: .row (.slice gA2 gs.length gc2) gs.length (gs.flatMap grL) 50 2 :: .row (.slice lA2 ((List.replicate n (0 : Int)).length) lc2) ((List.replicate n (0 : Int)).length) ((List.replicate n (0 : Int)).map I64i) 3 1 :: .row (.slice uA2 ((List.replicate n (0 : Int)).length) uc2) ((List.replicate n (0 : Int)).length) ((List.replicate n (0 : Int)).map I64i) 3 1 :: .row (.slice tA2 (([] : List Tk).length) tc2) (([] : List Tk).length) (([] : List Tk).flatMap tkL) 81 8 :: .row (.slice As k cs) k (z.map Rw.val) 63 1 :: rwF 83 z)) (m := gs.length - 0) ⟨0, [], sA2, sc2, Nat.zero_le _, rfl, (fun q h => by cases h), Nat.zero_le _, rfl, I.sub kr, L.pt 8 [0, 1, 2, 3, 4, 5, 6, 7]⟩ ?_
  clear I L; rintro mS a w_ ⟨k, z, As, cs, hk, hzl, hz, hcs, rfl, I, L⟩
  refine Jb I L ((JQ∘JP∘Jp 1∘Jg 2 O2∘Jl∘Jp 1∘Jd3∘Jj) (Ju (fun hb18 => ?_) fun hb18 => ?_))
  ·
   intro a I L
   have hd18 := of_decide_eq_true hb18
   refine Jb I L ((JT∘JS'∘JQ∘JB∘Vs (.t (.t (.t (.t (.t (.t (.t (.f .n)))))))) [8]) fun wd5 => (Vf 0 6∘Vf 2 0∘Vc 1 O0∘Vc 3 O2) fun a I L HS => ?_)
   refine s_on I 4 rfl ?_
   refine z3 I L (m := n) rfl ei_sp rfl rfl om om rfl de ?_
   clear I L; intro a w25 g25 I L
   refine keepS (L.pt 9 [1, 2, 3, 4, 5, 6, 7]) (fun HS => ?_)
   refine s_on I 5 rfl (s_el I L ei_rw [(0, vS g25 n n)] #[vS g25 n n] ?_)
   clear I L; intro a w26 g26 I L
   refine keepS (L.pt 10 [2, 3, 4, 5, 6, 7, 8]) (fun HS => ?_)
   refine s_on I 6 rfl (q6 I L (i := 9) rfl ei_rw rfl rfl rfl (news := ([(⟨some ⟨g25, 0, none⟩, n, List.replicate n Sp.zero⟩ : Rw)].map Rw.val)) ((by have h := L.rdBlk (i := 0) (n := 1) (size := 1) rfl rfl; show Rd _ _ _ _ _ [Value.slice _ (List.replicate n Sp.zero).length n]; rw [List.length_replicate]; exact h)) (qnb _) om om rfl de ?_)
   clear I L; intro a w27 A27 c27 I L hc27
   refine keepS (L.pt 10 [2, 3, 4, 5, 6, 7, 8]) (fun HS => ?_)
   refine Vb I L HS ((Vf 7 6) fun a I L HS => ?_)
   refine s_on I 8 rfl (s_es I L 2 ?_)
   clear L; intro w5_8 L
   refine noS kr ?_
   refine qb kr ?_
   replace L := L.asRow (i := 1) (ys := (List.replicate n Sp.zero).flatMap spL) rfl (qup _)
   replace L := L.asRow (i := 9) (ys := (z ++ [(⟨some ⟨g25, 0, none⟩, n, List.replicate n Sp.zero⟩ : Rw)]).map Rw.val) rfl (by rw [List.map_append])
   replace L := L.pt (fs' := (.row (vS g25 n n) n ((List.replicate n Sp.zero).flatMap spL) 83 3 :: .blk g3 #[vI n, vQ cr, .slice gA2 gs.length gc2, .slice lA2 ((List.replicate n (0 : Int)).length) lc2, .slice uA2 ((List.replicate n (0 : Int)).length) uc2, .slice tA2 (([] : List Tk).length) tc2, .slice A27 (k + 1) c27] 45 :: .blk g2 #[vI 0, vQ 0, vN, vN, vN, vN, vN] 45 :: .blk g1 #[vI n, vQ cr, .slice gA gs.length gc] 33 :: .row (.slice gA2 gs.length gc2) gs.length (gs.flatMap grL) 50 2 :: .row (.slice lA2 ((List.replicate n (0 : Int)).length) lc2) ((List.replicate n (0 : Int)).length) ((List.replicate n (0 : Int)).map I64i) 3 1 :: .row (.slice uA2 ((List.replicate n (0 : Int)).length) uc2) ((List.replicate n (0 : Int)).length) ((List.replicate n (0 : Int)).map I64i) 3 1 :: .row (.slice tA2 (([] : List Tk).length) tc2) (([] : List Tk).length) (([] : List Tk).flatMap tkL) 81 8 :: .row (.slice A27 (k + 1) c27) (k + 1) ((z ++ [(⟨some ⟨g25, 0, none⟩, n, List.replicate n Sp.zero⟩ : Rw)]).map Rw.val) 63 1 :: rwF 83 z)) 10 [1, 2, 3, 4, 5, 6, 7, 8, 9]
   replace L := Mem.toRw (A := some ⟨g25, 0, none⟩) (c := n) (l := List.replicate n Sp.zero) (fs := [.blk g3 #[vI n, vQ cr, .slice gA2 gs.length gc2, .slice lA2 ((List.replicate n (0 : Int)).length) lc2, .slice uA2 ((List.replicate n (0 : Int)).length) uc2, .slice tA2 (([] : List Tk).length) tc2, .slice A27 (k + 1) c27] 45, .blk g2 #[vI 0, vQ 0, vN, vN, vN, vN, vN] 45, .blk g1 #[vI n, vQ cr, .slice gA gs.length gc] 33, .row (.slice gA2 gs.length gc2) gs.length (gs.flatMap grL) 50 2, .row (.slice lA2 ((List.replicate n (0 : Int)).length) lc2) ((List.replicate n (0 : Int)).length) ((List.replicate n (0 : Int)).map I64i) 3 1, .row (.slice uA2 ((List.replicate n (0 : Int)).length) uc2) ((List.replicate n (0 : Int)).length) ((List.replicate n (0 : Int)).map I64i) 3 1, .row (.slice tA2 (([] : List Tk).length) tc2) (([] : List Tk).length) (([] : List Tk).flatMap tkL) 81 8, .row (.slice A27 (k + 1) c27) (k + 1) ((z ++ [(⟨some ⟨g25, 0, none⟩, n, List.replicate n Sp.zero⟩ : Rw)]).map Rw.val) 63 1]) (by rw [List.length_replicate]; exact L)
   replace L : Mem w _ (.blk g3 #[vI n, vQ cr, .slice gA2 gs.length gc2, .slice lA2 ((List.replicate n (0 : Int)).length) lc2, .slice uA2 ((List.replicate n (0 : Int)).length) uc2, .slice tA2 (([] : List Tk).length) tc2, .slice A27 (k + 1) c27] 45 :: .blk g2 #[vI 0, vQ 0, vN, vN, vN, vN, vN] 45 :: .blk g1 #[vI n, vQ cr, .slice gA gs.length gc] 33 :: .row (.slice gA2 gs.length gc2) gs.length (gs.flatMap grL) 50 2 :: .row (.slice lA2 ((List.replicate n (0 : Int)).length) lc2) ((List.replicate n (0 : Int)).length) ((List.replicate n (0 : Int)).map I64i) 3 1 :: .row (.slice uA2 ((List.replicate n (0 : Int)).length) uc2) ((List.replicate n (0 : Int)).length) ((List.replicate n (0 : Int)).map I64i) 3 1 :: .row (.slice tA2 (([] : List Tk).length) tc2) (([] : List Tk).length) (([] : List Tk).flatMap tkL) 81 8 :: .row (.slice A27 (k + 1) c27) (k + 1) ((z ++ [(⟨some ⟨g25, 0, none⟩, n, List.replicate n Sp.zero⟩ : Rw)]).map Rw.val) 63 1 :: rwF 83 (z ++ [(⟨some ⟨g25, 0, none⟩, n, List.replicate n Sp.zero⟩ : Rw)])) := L
   refine Jb I L ((JG∘JR∘Jp 1∘JaK 1∘Jp 1∘Jd6∘Jq) fun a I L => ?_)
   exact ⟨_, om, k + 1, (z ++ [(⟨some ⟨g25, 0, none⟩, n, List.replicate n Sp.zero⟩ : Rw)]), A27, c27, by omega, by rw [List.length_append, hzl]; rfl, fun q h => (List.mem_append.1 h).elim (hz q) (fun h => by rw [List.mem_singleton] at h; subst h; rfl), hc27, rfl, I.sub kr, L.pt 8 [0, 1, 2, 3, 4, 5, 6, 7]⟩
  intro a I L
  have hd18 := of_decide_eq_false hb18
  revert L; revert a; repeat (first | clear I | clear L)
  intro a I L
  subst hzl
  have hkg : z.length = gs.length := by omega
  refine Jb I L ((JF∘JX∘JG∘JP∘Jy (v := .agg #[vI n, vQ cr, .slice gA2 gs.length gc2, .slice lA2 ((List.replicate n (0 : Int)).length) lc2, .slice uA2 ((List.replicate n (0 : Int)).length) uc2, .slice tA2 (([] : List Tk).length) tc2, .slice As z.length cs]) (h:=by exact Yl.loadS rfl rfl si_st rfl (fun _ h => qa (h.blk (i := 0) rfl)))∘JV si_st O1') fun w6_1 => (Jt1∘Jj∘JZ) fun a I L => ?_)
  exact ret1 rfl I (.cellS (i := 1) I L rfl rfl si_st rfl) (⟨⟨(n : Int), cr, gA2, gc2, gs, lA2, lc2, (List.replicate n (0 : Int)), uA2, uc2, (List.replicate n (0 : Int)), tA2, tc2, [], As, cs, z⟩, rfl, qu4 hkg hz, L.pt 8 [3, 4, 5, 6, 7]⟩)
 refine qu (f := 3) (l := (bt 11 [7, 8, 10])) (fun aS wS => ∃ (g8 : Nat) (g3 : Nat) (g11 : Nat), Fr aS 30 [] [(11, vS g11 n n), (3, vP g3 0), (8, vS g8 n n), (5, .agg #[vI n, vQ cr, .slice gA gs.length gc]), (2, vP g2 0), (1, vP g1 0), (0, .agg #[vI n, vQ cr, .slice gA gs.length gc])] ∧ Mem w wS [.row (vS g11 n n) n ((madeCells #[vI 0] (n * 1)).toList) 3 1, .blk g3 #[vI 0, vQ 0, vN, vN, vN, vN, vN] 45, .row (vS g8 n n) n ((madeCells #[vI 0] (n * 1)).toList) 3 1, .blk g2 #[vI 0, vQ 0, vN, vN, vN, vN, vN] 45, .blk g1 #[vI n, vQ cr, .slice gA gs.length gc] 33]) ?_ fun M1_1 => ?_
 ·
  clear I L HS; rintro a wM ⟨g8, g3, g11, I, L⟩
  have HS := L.pk (fs' := [.blk g2 #[vI 0, vQ 0, vN, vN, vN, vN, vN] 45, .blk g1 #[vI n, vQ cr, .slice gA gs.length gc] 33]) [3, 4]
  refine Vb I L HS ((Vy 7 (v := .agg #[vI n, vQ cr, .slice gA gs.length gc, vS g8 n n, vS g11 n n, vN, vN]) (h:=by exact Yl.build (vs := [(0, .agg #[vI n, vQ cr, .slice gA gs.length gc]), (1, vS g8 n n), (2, vS g11 n n)]) rfl kr kr)∘Vo (.agg ((new0 n cr gA gc gs g8 g11).cells)) (by unfold new0 Stm.cells; dsimp only; rw [List.length_replicate]; try rfl)) fun a I L HS => ?_)
  refine s_on I 8 rfl ?_
  refine e_cl I [.agg ((new0 n cr gA gc gs g8 g11).cells)] rfl rfl (qbj (new0 n cr gA gc gs g8 g11) _ (qmk L hr (i := 2) (j := 0) rfl rfl) (qjl hn.2 hgl.2)) ?_
  rintro _ w13 ⟨y, rfl, heq, hcap, hm⟩
  refine ⟨_, rfl, ?_⟩
  replace L := (show Mem w _ (.row (vS g11 n n) n ((madeCells #[vI 0] (n * 1)).toList) 3 1 :: .blk g3 #[vI 0, vQ 0, vN, vN, vN, vN, vN] 45 :: .row (vS g8 n n) n ((madeCells #[vI 0] (n * 1)).toList) 3 1 :: .blk g2 #[vI 0, vQ 0, vN, vN, vN, vN, vN] 45 :: .blk g1 #[vI n, vQ cr, .slice gA gs.length gc] 33 :: stF y) from L.joinT hm)
  clear I; intro a I
  refine keepS (L.pk [3, 4]) (fun HS => ?_)
  exact M1_0 _ _ ⟨g8, g11, y, g3, I.sub kr, L.pt 5 [1, 0, 2, 3, 4], heq, hcap⟩
 refine qu (f := 4) (l := (bt 11 [7, 8, 9, 10])) (fun aS wS => ∃ (g8 : Nat) (g11 : Nat), Fr aS 30 [] [(11, vS g11 n n), (8, vS g8 n n), (5, .agg #[vI n, vQ cr, .slice gA gs.length gc]), (2, vP g2 0), (1, vP g1 0), (0, .agg #[vI n, vQ cr, .slice gA gs.length gc])] ∧ Mem w wS [.row (vS g11 n n) n ((madeCells #[vI 0] (n * 1)).toList) 3 1, .row (vS g8 n n) n ((madeCells #[vI 0] (n * 1)).toList) 3 1, .blk g2 #[vI 0, vQ 0, vN, vN, vN, vN, vN] 45, .blk g1 #[vI n, vQ cr, .slice gA gs.length gc] 33]) ?_ fun M1_2 => ?_
 ·
  clear I L HS; rintro a wM ⟨g8, g11, I, L⟩
  have HS := L.pk (fs' := [.blk g2 #[vI 0, vQ 0, vN, vN, vN, vN, vN] 45, .blk g1 #[vI n, vQ cr, .slice gA gs.length gc] 33]) [2, 3]
  refine Vb I L HS ((Vy 7 (v := .agg #[vI n, vQ cr, .slice gA gs.length gc, vS g8 n n, vS g11 n n, vN, vN]) (h:=by exact Yl.build (vs := [(0, .agg #[vI n, vQ cr, .slice gA gs.length gc]), (1, vS g8 n n), (2, vS g11 n n)]) rfl kr kr)∘Vo (.agg ((new0 n cr gA gc gs g8 g11).cells)) (by unfold new0 Stm.cells; dsimp only; rw [List.length_replicate]; try rfl)) fun a I L HS => ?_)
  refine qj [8, 9] kr rfl ?_
  refine all_cons ?_ ?_
  ·refine qe I (i := 8) rfl rfl ?_
   refine e_cl I [.agg ((new0 n cr gA gc gs g8 g11).cells)] rfl rfl (qbj (new0 n cr gA gc gs g8 g11) _ (qmk L hr (i := 1) (j := 0) rfl rfl) (qjl hn.2 hgl.2)) ?_
   rintro _ w13 ⟨y, rfl, heq, hcap, hm⟩
   refine ⟨_, rfl, ?_⟩
   replace L := (show Mem w _ (.row (vS g11 n n) n ((madeCells #[vI 0] (n * 1)).toList) 3 1 :: .row (vS g8 n n) n ((madeCells #[vI 0] (n * 1)).toList) 3 1 :: .blk g2 #[vI 0, vQ 0, vN, vN, vN, vN, vN] 45 :: .blk g1 #[vI n, vQ cr, .slice gA gs.length gc] 33 :: stF y) from L.joinT hm)
   clear I; intro a I
   refine keepS (L.pk [2, 3]) (fun HS => ?_)
   refine s_on I 9 rfl (s_ea I L #[vI 0, vQ 0, vN, vN, vN, vN, vN] ?_)
   clear I L; intro a w3 g3 I L
   refine keepS (L.pk [3, 4]) (fun HS => ?_)
   exact M1_0 _ _ ⟨g8, g11, y, g3, I.sub kr, L.pt 5 [0, 1, 2, 3, 4], heq, hcap⟩
  refine all_cons ?_ all_nil
  refine qe I (i := 9) rfl rfl ?_
  refine s_ea I L #[vI 0, vQ 0, vN, vN, vN, vN, vN] ?_
  clear I L; intro a w3 g3 I L
  refine keepS (L.pk [3, 4]) (fun HS => ?_)
  refine s_on I 8 rfl ?_
  refine e_cl I [.agg ((new0 n cr gA gc gs g8 g11).cells)] rfl rfl (qbj (new0 n cr gA gc gs g8 g11) _ (qmk L hr (i := 2) (j := 1) rfl rfl) (qjl hn.2 hgl.2)) ?_
  rintro _ w13 ⟨y, rfl, heq, hcap, hm⟩
  refine ⟨_, rfl, ?_⟩
  replace L := (show Mem w _ (.blk g3 #[vI 0, vQ 0, vN, vN, vN, vN, vN] 45 :: .row (vS g11 n n) n ((madeCells #[vI 0] (n * 1)).toList) 3 1 :: .row (vS g8 n n) n ((madeCells #[vI 0] (n * 1)).toList) 3 1 :: .blk g2 #[vI 0, vQ 0, vN, vN, vN, vN, vN] 45 :: .blk g1 #[vI n, vQ cr, .slice gA gs.length gc] 33 :: stF y) from L.joinT hm)
  clear I; intro a I
  refine keepS (L.pk [3, 4]) (fun HS => ?_)
  exact M1_0 _ _ ⟨g8, g11, y, g3, I.sub kr, L.pt 5 [0, 1, 2, 3, 4], heq, hcap⟩
 refine qu (f := 4) (l := (bt 11 [6, 7, 8, 10])) (fun aS wS => ∃ (g8 : Nat) (g3 : Nat), Fr aS 30 [] [(3, vP g3 0), (8, vS g8 n n), (10, vI n), (5, .agg #[vI n, vQ cr, .slice gA gs.length gc]), (2, vP g2 0), (1, vP g1 0), (0, .agg #[vI n, vQ cr, .slice gA gs.length gc])] ∧ Mem w wS [.blk g3 #[vI 0, vQ 0, vN, vN, vN, vN, vN] 45, .row (vS g8 n n) n ((madeCells #[vI 0] (n * 1)).toList) 3 1, .blk g2 #[vI 0, vQ 0, vN, vN, vN, vN, vN] 45, .blk g1 #[vI n, vQ cr, .slice gA gs.length gc] 33]) ?_ fun M1_3 => ?_
 ·
  clear I L HS; rintro a wM ⟨g8, g3, I, L⟩
  have HS := L.pk (fs' := [.blk g2 #[vI 0, vQ 0, vN, vN, vN, vN, vN] 45, .blk g1 #[vI n, vQ cr, .slice gA gs.length gc] 33]) [2, 3]
  refine s_on I 6 rfl ?_
  refine z3 I L (m := n) rfl zo rfl rfl om om rfl de ?_
  clear I L; intro a w11 g11 I L
  refine keepS (L.pk [3, 4]) (fun HS => ?_)
  exact M1_1 _ _ ⟨g8, g3, g11, I.sub kr, L.pk [0, 1, 2, 3, 4]⟩
 refine qu (f := 4) (l := (bt 11 [3, 7, 8, 10])) (fun aS wS => ∃ (g11 : Nat) (g3 : Nat), Fr aS 30 [] [(3, vP g3 0), (11, vS g11 n n), (7, vI n), (5, .agg #[vI n, vQ cr, .slice gA gs.length gc]), (2, vP g2 0), (1, vP g1 0), (0, .agg #[vI n, vQ cr, .slice gA gs.length gc])] ∧ Mem w wS [.blk g3 #[vI 0, vQ 0, vN, vN, vN, vN, vN] 45, .row (vS g11 n n) n ((madeCells #[vI 0] (n * 1)).toList) 3 1, .blk g2 #[vI 0, vQ 0, vN, vN, vN, vN, vN] 45, .blk g1 #[vI n, vQ cr, .slice gA gs.length gc] 33]) ?_ fun M1_4 => ?_
 ·
  clear I L HS; rintro a wM ⟨g11, g3, I, L⟩
  have HS := L.pk (fs' := [.blk g2 #[vI 0, vQ 0, vN, vN, vN, vN, vN] 45, .blk g1 #[vI n, vQ cr, .slice gA gs.length gc] 33]) [2, 3]
  refine s_on I 3 rfl ?_
  refine z3 I L (m := n) rfl zo rfl rfl om om rfl de ?_
  clear I L; intro a w8 g8 I L
  refine keepS (L.pk [3, 4]) (fun HS => ?_)
  exact M1_1 _ _ ⟨g8, g3, g11, I.sub kr, L.pk [2, 1, 0, 3, 4]⟩
 refine Vb I L HS ((Vf 1 0∘Vf 4 0∘Vy 0 (v := .agg #[vI n, vQ cr, .slice gA gs.length gc]) (h:=by exact Yl.loadS rfl rfl zq rfl (fun _ h => qa (h.blk (i := 1) rfl)))∘Vc 2 O1∘Vc 5 O1) fun a I L HS => ?_)
 refine qj [3, 6, 9] kr rfl ?_
 refine all_cons ?_ ?_
 ·refine qe I (i := 3) rfl rfl ?_
  refine z3 I L (m := n) rfl zo rfl rfl om om rfl de ?_
  clear I L; intro a w8 g8 I L
  refine keepS (L.pk [1, 2]) (fun HS => ?_)
  refine qj [6, 9] kr rfl ?_
  refine all_cons ?_ ?_
  ·refine qe I (i := 6) rfl rfl ?_
   refine z3 I L (m := n) rfl zo rfl rfl om om rfl de ?_
   clear I L; intro a w11 g11 I L
   refine keepS (L.pk [2, 3]) (fun HS => ?_)
   exact M1_2 _ _ ⟨g8, g11, I.sub kr, L.pk [0, 1, 2, 3]⟩
  refine all_cons ?_ all_nil
  refine qe I (i := 9) rfl rfl ?_
  refine s_ea I L #[vI 0, vQ 0, vN, vN, vN, vN, vN] ?_
  clear I L; intro a w3 g3 I L
  refine keepS (L.pk [2, 3]) (fun HS => ?_)
  exact M1_3 _ _ ⟨g8, g3, I.sub kr, L.pk [0, 1, 2, 3]⟩
 refine all_cons ?_ ?_
 ·refine qe I (i := 6) rfl rfl ?_
  refine z3 I L (m := n) rfl zo rfl rfl om om rfl de ?_
  clear I L; intro a w11 g11 I L
  refine keepS (L.pk [1, 2]) (fun HS => ?_)
  refine qj [3, 9] kr rfl ?_
  refine all_cons ?_ ?_
  ·refine qe I (i := 3) rfl rfl ?_
   refine z3 I L (m := n) rfl zo rfl rfl om om rfl de ?_
   clear I L; intro a w8 g8 I L
   refine keepS (L.pk [2, 3]) (fun HS => ?_)
   exact M1_2 _ _ ⟨g8, g11, I.sub kr, L.pk [1, 0, 2, 3]⟩
  refine all_cons ?_ all_nil
  refine qe I (i := 9) rfl rfl ?_
  refine s_ea I L #[vI 0, vQ 0, vN, vN, vN, vN, vN] ?_
  clear I L; intro a w3 g3 I L
  refine keepS (L.pk [2, 3]) (fun HS => ?_)
  exact M1_4 _ _ ⟨g11, g3, I.sub kr, L.pk [0, 1, 2, 3]⟩
 refine all_cons ?_ all_nil
 refine qe I (i := 9) rfl rfl ?_
 refine s_ea I L #[vI 0, vQ 0, vN, vN, vN, vN, vN] ?_
 clear I L; intro a w3 g3 I L
 refine keepS (L.pk [1, 2]) (fun HS => ?_)
 refine qj [3, 6] kr rfl ?_
 refine all_cons ?_ ?_
 ·refine qe I (i := 3) rfl rfl ?_
  refine z3 I L (m := n) rfl zo rfl rfl om om rfl de ?_
  clear I L; intro a w8 g8 I L
  refine keepS (L.pk [2, 3]) (fun HS => ?_)
  exact M1_3 _ _ ⟨g8, g3, I.sub kr, L.pk [1, 0, 2, 3]⟩
 refine all_cons ?_ all_nil
 refine qe I (i := 6) rfl rfl ?_
 refine z3 I L (m := n) rfl zo rfl rfl om om rfl de ?_
 clear I L; intro a w11 g11 I L
 refine keepS (L.pk [2, 3]) (fun HS => ?_)
 exact M1_4 _ _ ⟨g11, g3, I.sub kr, L.pk [1, 0, 2, 3]⟩
theorem qs4 (W w : World) (x z : Stm) (g0 c : Nat) (ng nl nu nt ns : Nat) (hln : Lns x ng nl nu nt ns) (hz : Shp z.sta) (hgz : x.gs = z.gs) (hcz : x.cpus = z.cpus) (hrg2 : x.rs.length = x.gs.length) (hfl : Floors z.sta x.rs) (hsp : SpsOk x.gs x.cpus x.rs) (hcr : x.credit < 18446744073709551616) (hc : (c : Int) < x.cpus) (hg : g0 < ns) (T : List Fact) (L : Mem W w (sdA x ng nl nu nt ns ++ (stF z ++ T))) :
    Calls Tryz.prog 113 #[.agg (sdC x ng nl nu nt ns), .agg z.cells, vI g0, vI c] w (StOut W (stF z ++ T) (wakeS x.sta (zh z.sta g0 c) c)) := by
 obtain ⟨cp, cr, gA, gc, gs, lA, lc, cl, uA, uc, cu, tA, tc, ts, sA, sc, rs⟩ := x
 replace L : Mem W w (fG gA ng gc gs :: fI lA nl lc cl :: fI uA nu uc cu :: fT tA nt tc ts :: fS sA ns sc rs :: (fR rs ++ (stF z ++ (T)))) := L
 obtain ⟨hlg, hll, hlu, hlt, hls⟩ := hln
 replace hlg : gs.length = ng := hlg; replace hll : cl.length = nl := hll; replace hlu : cu.length = nu := hlu; replace hlt : ts.length = nt := hlt; replace hls : rs.length = ns := hls
 replace hgz : gs = z.gs := hgz; replace hcz : cp = z.cpus := hcz; replace hfl : Floors z.sta rs := hfl; replace hsp : SpsOk gs cp rs := hsp; replace hcr : cr < 18446744073709551616 := hcr
 have hzg := hz.gs; have hzs := hz.sp; have hzo := qap hz; have hzf := hzo.few; have hzfs := hzf.s
 have hgs : gsOk gs = true := by rw [hgz]; exact hzg
 have hgl1 := (qo hgs).1; have hgl2 := (qo hgs).2.1
 have hrg : z.rs.length = gs.length := by rw [← zg, hzs, hgz]; rfl
 replace hrg2 : rs.length = gs.length := hrg2
 have hcp2 := hz.cpus; replace hcp2 : 1 ≤ z.cpus ∧ z.cpus ≤ 64 := hcp2
 replace hc : (c : Int) < cp := hc
 obtain ⟨ggA, rfl⟩ := qi (L.own (i := 0) rfl) om
 obtain ⟨gsA, rfl⟩ := qi (L.own (i := 4) rfl) om
 show Calls Tryz.prog 113 #[.agg #[vI cp, vQ cr, vS ggA ng gc, .slice lA nl lc, .slice uA nu uc, .slice tA nt tc, vS gsA ns sc], .agg z.cells, vI g0, vI c] w _
 refine (Jin4 L Tryz.func113 84) ?_
 refine (JP∘JE) fun w4 g4 => (JE) fun w5 g5 => (JA #[vI 0, vQ 0, vN, vN, vN, vN, vN]) fun w8 g8 => (Jj∘JQ∘JB) fun a I L => ?_
 refine qg (fun mS aS wS => ∃ (g : Nat) (rs2 : List Rw), (g < ns) ∧ (rs2.length = ns) ∧ (SpsOk gs cp rs2) ∧ (Floors z.sta rs2) ∧ (wakeS (⟨cp, cr, some ⟨ggA, 0, none⟩, gc, gs, lA, lc, cl, uA, uc, cu, tA, tc, ts, some ⟨gsA, 0, none⟩, sc, rs2⟩ : Stm).sta (zh z.sta g c) c = wakeS (⟨cp, cr, some ⟨ggA, 0, none⟩, gc, gs, lA, lc, cl, uA, uc, cu, tA, tc, ts, some ⟨gsA, 0, none⟩, sc, rs⟩ : Stm).sta (zh z.sta g0 c) c) ∧ mS = 0 + g ∧ Fr aS 84 [] [(8, vP g8 0), (5, vP g5 0), (4, vP g4 0), (2, vI g), (3, vI c)] ∧ Mem W wS (.blk g8 #[vI 0, vQ 0, vN, vN, vN, vN, vN] 45 :: .blk g5 z.cells 45 :: .blk g4 #[vI cp, vQ cr, vS ggA ng gc, .slice lA nl lc, .slice uA nu uc, .slice tA nt tc, vS gsA ns sc] 45 :: fG (some ⟨ggA, 0, none⟩) ng gc gs :: fI lA nl lc cl :: fI uA nu uc cu :: fT tA nt tc ts :: fS (some ⟨gsA, 0, none⟩) ns sc rs2 :: (fR rs2 ++ (stF z ++ (T))))) (m := 0 + g0) ⟨g0, rs, hg, hls, hsp, hfl, rfl, rfl, I.sub kr, L.pt 8 [0, 1, 2, 3, 4, 5, 6, 7]⟩ ?_
 clear I L; rintro mS a w_ ⟨g, rs2, hg, hl2, hsp2, hfl2, hst2, rfl, I, L⟩
 refine Jb I L ((JQ∘JP∘Jp 3) (Ju (fun hb14 => ?_) fun hb14 => ?_))
 ·
  intro a I L
  have hd14 := of_decide_eq_true hb14
  have hg0 : 0 < g := by omega
  obtain ⟨mm, hmm⟩ : ∃ q, memS z.sta g c = q := ⟨_, rfl⟩
  refine Jb I L ((Jy (v := .agg z.cells) (h:=by exact Yl.loadS rfl rfl si_st rfl (fun _ h => qa (h.blk (i := 1) rfl)))∘Jp 2∘JK (h:=by exact fun L => qjk (x := z) hzo (L.st2 8 rfl) (by show (c : Int) < z.cpus; omega) om hmm)) fun A18 c18 w18 hc18 => (Jl∘Jp 2∘Jd6∘Jj) (Ju (fun hb21 => ?_) fun hb21 => ?_))
  ·
   intro a I L
   have hd21 := eq_of_beq hb21
   have hme : memS z.sta g c = [] := by rw [hmm]; exact List.length_eq_zero_iff.1 om
   have hpall : ∀ i, 0 < i → i ≤ g → ParB gs i := qac hgs om
   have hpb := hpall g hg0 (Nat.le_refl _)
   unfold ParB at hpb
   obtain ⟨p, hpp⟩ : ∃ p : Nat, (gs.getD g Gr.zero).parent = (p : Int) := ⟨(gs.getD g Gr.zero).parent.toNat, by omega⟩
   have hpg : p < g := by omega
   have hpn : p < z.rs.length := by omega
   have hes := qdr (s := z.sta) (c := c) (by show ∀ i, 0 < i → i ≤ g → ParB z.gs i; rw [← hgz]; exact hpall) hg0 hme
   rw [show z.sta.gs = gs from hgz.symm, hpp, Int.toNat_natCast] at hes
   obtain ⟨⟨yA, yc, yl⟩, hy⟩ : ∃ y, rs2.getD g Rw.zero = y := ⟨_, rfl⟩
   have hys := hsp2 g om; rw [hy] at hys
   have hyl : (yl.length : Int) = cp := hys.1
   revert L; revert a; repeat (first | clear I | clear L)
   intro a I L
   obtain ⟨gy, rfl⟩ := L.rwSome 9 rfl om hy om
   obtain ⟨yz, hyz⟩ : ∃ z, yl[c]? = some z := ⟨_, List.getElem?_eq_getElem om⟩
   have hyo := hys.2 yz (List.mem_of_getElem? hyz)
   have hyv := hyo.1.v; have hyr := hyo.1.r; have hyf := hyo.1.floor
   obtain ⟨⟨pA, pc, pl⟩, hp⟩ : ∃ y, rs2.getD p Rw.zero = y := ⟨_, rfl⟩
   have hps := hsp2 p om; rw [hp] at hps
   have hpl : (pl.length : Int) = cp := hps.1
   revert L; revert a; repeat (first | clear I | clear L)
   intro a I L
   obtain ⟨gp, rfl⟩ := L.rwSome 9 rfl om hp om
   obtain ⟨pz, hpz⟩ : ∃ z, pl[c]? = some z := ⟨_, List.getElem?_eq_getElem om⟩
   have hpo := hps.2 pz (List.mem_of_getElem? hpz)
   have hpv := hpo.1.v; have hpr := hpo.1.r; have hpf := hpo.1.floor
   obtain ⟨zp, hzp⟩ : ∃ q, z.rs.getD p Rw.zero = q := ⟨_, rfl⟩
   have hzpl : (zp.l.length : Int) = cp := by have h := hz.rows p (by rw [zg]; exact hpn); rw [← hzp, hcz, ← rs_at hpn]; exact h
   obtain ⟨gzs, ozs, hgzs, _⟩ := ((L.st2 9 rfl).s).qn (show 0 < z.rs.length by omega) de
   obtain ⟨gzp, ozp, hgzp, _⟩ := ((qs3 hzp hpn (L.st2 9 rfl) rfl)).qn (show 0 < zp.l.length by omega) de
   obtain ⟨pf, hpf0⟩ : ∃ q, (zp.l.getD c Sp.zero).floor = q := ⟨_, rfl⟩
   have hpz2 : pz.floor = pf := by have h := hfl2 p c; rw [hp, qfx, hzp, hpf0] at h; exact (congrArg Sp.floor (zc Sp.zero hpz).symm).trans h
   have hpf : pf < 18446744073709551616 := by rw [← hpz2]; exact hpo.1.floor
   obtain ⟨wt, hwt, hwt1, hwt2⟩ := qbu hgs (g := g) om
   have hEo : (⟨yz.v, yz.r, wt⟩ : En).Ok := ⟨by have := hyo.2; rw [hwt] at this; exact this, hyo.1.v⟩
   obtain ⟨e, hew⟩ : ∃ e, (⟨yz.v, yz.r, wt⟩ : En).woken pf cr = e := ⟨_, rfl⟩
   have heo : e.Ok ∧ e.w = wt := by rw [← hew]; exact En.qdd hEo _ _ hpf
   have hev := heo.1.2; have her : e.r < 4294967296 := by have := qbv heo.1.1; omega
   refine Jb I L ((JT∘JS'∘JB∘JP∘Jf 0∘Jg 2 O3∘Jp 1∘Jy (h:=by exact Yl.ix0 ggA g 2 rfl rfl rfl)∘Jf 0∘Jy (v := vI ((gs.getD g Gr.zero).parent)) (h:=by exact Yl.qh rfl rfl kr (fun _ h => (by have := h.qv q0 (i := 4) rfl (k := g) (off := 0) (x := (gs.getD g Gr.zero)) ((getD_at Gr.zero om)) rfl; simpa using this)))∘Jo (vI p) (by rw [hpp])∘Jp 1∘Jd6∘Jr∘Jg 6 O3∘Jp 1∘Jy (h:=by exact Yl.ix0 gsA g 1 rfl rfl rfl)∘Jy (v := .slice ((rs2.getD g Rw.zero).A) ((rs2.getD g Rw.zero).l.length) ((rs2.getD g Rw.zero).c)) (h:=by exact Yl.r1 8 g Rw.zero om rfl rfl rfl)∘Jo (vS gy yl.length yc) (by rw [hy])∘Jp 1∘Jy (h:=by exact Yl.ix0 gy c 3 rfl rfl rfl)∘Jy (v := .agg yz.cells) (h:=by exact Yl.loadS rfl rfl si_sp rfl (fun _ h => by have h2 := (h.rwRd 9 rfl om hy).q8 z8 hyz; rw [Nat.zero_add] at h2; exact h2))∘JA #[vQ 0, vW 0, vQ 0]) fun w10 g10 => (JV si_sp O0' (h1:=by exact qmy yz)) fun w3_9 => (Jd6∘Jj) fun a I L => ?_)
   refine qz (fun aS wS => ∃ (g11 : Nat), Fr aS 84 [] [(11, vP g11 0), (10, vP g10 0), (9, vI p), (21, .bool true), (8, vP g8 0), (5, vP g5 0), (4, vP g4 0), (2, vI g), (3, vI c)] ∧ Mem W wS (.blk g11 e.cells 143 :: .blk g10 yz.cells 83 :: .row (.slice A18 mm.length c18) mm.length (mm.flatMap mbrL) 102 3 :: .blk g8 #[vI 0, vQ 0, vN, vN, vN, vN, vN] 45 :: .blk g5 z.cells 45 :: .blk g4 #[vI cp, vQ cr, vS ggA ng gc, .slice lA nl lc, .slice uA nu uc, .slice tA nt tc, vS gsA ns sc] 45 :: fG (some ⟨ggA, 0, none⟩) ng gc gs :: fI lA nl lc cl :: fI uA nu uc cu :: fT tA nt tc ts :: fS (some ⟨gsA, 0, none⟩) ns sc rs2 :: (fR rs2 ++ (stF z ++ (T))))) ?_ ?_
   ·
    refine Jb I L ((Vs .n [26]) fun wd4 => (Vf 0 0∘Vf 2 1∘Vf 4 0∘Vf 5 2∘Vp [7]∘Vf 12 6∘Vp [14, 17]∘Vf 21 0∘Vf 22 1∘Vc 1 O0∘Vc 3 O0∘Vc 6 O4∘Vy 8 (h:=by exact Yl.ix0 ggA g 2 rfl rfl rfl)∘Vf 9 1∘Vy 10 (v := vI ((gs.getD g Gr.zero).weight)) (h:=by exact Yl.qh rfl rfl kr (fun _ h => h.qv q0 (i := 5) rfl (k := g) (off := 1) (x := (gs.getD g Gr.zero)) ((getD_at Gr.zero om)) rfl))∘Vo (vI wt) (by rw [hwt])∘Vc 13 O3∘Vo (.slice (some ⟨gzs, ozs, none⟩) z.rs.length z.sc) (by rw [hgzs])∘Vy 15 (h:=by exact Yl.ix gzs ozs p 1 rfl rfl rfl)∘Vy 16 (v := .slice ((z.rs.getD p Rw.zero).A) ((z.rs.getD p Rw.zero).l.length) ((z.rs.getD p Rw.zero).c)) (h:=by exact Yl.qh rfl rfl kr (fun _ h => ((Mem.st2 10 h rfl).s.to hgzs).qtk (k := p) (qdg (F := Rw.val) (k := p) (x := (z.rs.getD p Rw.zero)) ((getD_at Rw.zero om)))))∘Vo (.slice (some ⟨gzp, ozp, none⟩) zp.l.length zp.c) (by rw [hzp, hgzp])∘Vy 18 (h:=by exact Yl.ix gzp ozp c 3 rfl rfl rfl)∘Vf 19 2∘Vy 20 (v := vQ ((zp.l.getD c Sp.zero).floor)) (h:=by exact Yl.qh rfl rfl kr (fun _ h => (qs3 hzp hpn (Mem.st2 10 h rfl) hgzp).partAt z8 (k := c) (j := 2) (x := (zp.l.getD c Sp.zero)) ((getD_at Sp.zero om)) rfl))∘Vo (vQ pf) (by rw [hpf0])∘Vc 23 O4) fun a I L HS => ?_)
    refine qj [11, 25] kr rfl ?_
    refine all_cons ?_ ?_
    ·refine qe I (i := 11) rfl rfl ?_
     refine e_is I L [vQ yz.v, vW yz.r, vI wt] (.agg #[vQ yz.v, vW yz.r, vW wt]) rfl rfl (zl yz.v yz.r (wt : Int) om _) fun w48 hbw L a I => ?_
     refine keepS (L.pt 10 [0, 1, 2, 3, 4, 5, 6, 7, 8, 9]) (fun HS => ?_)
     refine qj [24, 25] kr rfl ?_
     refine all_cons ?_ ?_
     ·refine qe I (i := 24) rfl rfl ?_
      refine e_is I L [.agg #[vQ yz.v, vW yz.r, vW wt], vQ pf, vQ cr] (.agg e.cells) rfl rfl (qes (⟨yz.v, yz.r, wt⟩ : En) e hEo pf cr hpf hcr hew _) fun w61 hbw L a I => ?_
      refine keepS (L.pt 10 [0, 1, 2, 3, 4, 5, 6, 7, 8, 9]) (fun HS => ?_)
      refine Vb I L HS ((VA 25 .n #[vQ 0, vW 0, vW 0]) fun w11 g11 => fun a I L HS => ?_)
      refine s_on I 26 rfl (e_sa I L 0 rfl rfl rfl rfl rfl qr rfl rfl (q9 e) ?_)
      clear L; intro w4_26 L
      refine noS kr ?_
      refine qb kr ?_
      exact ⟨g11, I.sub kr, L.pt 11 [0, 1, 2, 3, 4, 5, 6, 7, 8, 9, 10]⟩
     refine all_cons ?_ all_nil
     refine qe I (i := 25) rfl rfl ?_
     refine s_ea I L #[vQ 0, vW 0, vW 0] ?_
     clear I L; intro a w11 g11 I L
     refine keepS (L.pt 11 [1, 2, 3, 4, 5, 6, 7, 8, 9, 10]) (fun HS => ?_)
     refine Vb I L HS ((VI 24 (.f .n) (h:=by exact fun L => qes (⟨yz.v, yz.r, wt⟩ : En) e hEo pf cr hpf hcr hew _)) fun w61 hbw => fun a I L HS => ?_)
     refine s_on I 26 rfl (e_sa I L 0 rfl rfl rfl rfl rfl qr rfl rfl (q9 e) ?_)
     clear L; intro w4_26 L
     refine noS kr ?_
     refine qb kr ?_
     exact ⟨g11, I.sub kr, L.pt 11 [0, 1, 2, 3, 4, 5, 6, 7, 8, 9, 10]⟩
    refine all_cons ?_ all_nil
    refine qe I (i := 25) rfl rfl ?_
    refine s_ea I L #[vQ 0, vW 0, vW 0] ?_
    clear I L; intro a w11 g11 I L
    refine keepS (L.pt 11 [1, 2, 3, 4, 5, 6, 7, 8, 9, 10]) (fun HS => ?_)
    refine Vb I L HS ((VI 11 (.f .n) (h:=by exact fun L => zl yz.v yz.r (wt : Int) om _)) fun w48 hbw => (VI 24 (.f .n) (h:=by exact fun L => qes (⟨yz.v, yz.r, wt⟩ : En) e hEo pf cr hpf hcr hew _)) fun w61 hbw => fun a I L HS => ?_)
    refine s_on I 26 rfl (e_sa I L 0 rfl rfl rfl rfl rfl qr rfl rfl (q9 e) ?_)
    clear L; intro w4_26 L
    refine noS kr ?_
    refine qb kr ?_
    exact ⟨g11, I.sub kr, L.pt 11 [0, 1, 2, 3, 4, 5, 6, 7, 8, 9, 10]⟩
   clear I L; rintro a w4 ⟨g11, I, L⟩
   refine qz (fun aS wS => Fr aS 84 [] [(11, vP g11 0), (10, vP g10 0), (9, vI p), (21, .bool true), (8, vP g8 0), (5, vP g5 0), (4, vP g4 0), (2, vI g), (3, vI c)] ∧ Mem W wS (.blk g11 e.cells 143 :: .blk g10 yz.cells 83 :: .row (.slice A18 mm.length c18) mm.length (mm.flatMap mbrL) 102 3 :: .blk g8 #[vI 0, vQ 0, vN, vN, vN, vN, vN] 45 :: .blk g5 z.cells 45 :: .blk g4 #[vI cp, vQ cr, vS ggA ng gc, .slice lA nl lc, .slice uA nu uc, .slice tA nt tc, vS gsA ns sc] 45 :: fG (some ⟨ggA, 0, none⟩) ng gc gs :: fI lA nl lc cl :: fI uA nu uc cu :: fT tA nt tc ts :: fS (some ⟨gsA, 0, none⟩) ns sc (rsPut rs2 g c ({ yz with v := e.v, r := e.r })) :: (fR (rsPut rs2 g c ({ yz with v := e.v, r := e.r })) ++ (stF z ++ (T))))) ?_ ?_
   ·
    refine qfd L [.blk g11 e.cells 143, .blk g10 yz.cells 83, .row (.slice A18 mm.length c18) mm.length (mm.flatMap mbrL) 102 3, .blk g8 #[vI 0, vQ 0, vN, vN, vN, vN, vN] 45, .blk g5 z.cells 45, .blk g4 #[vI cp, vQ cr, vS ggA ng gc, .slice lA nl lc, .slice uA nu uc, .slice tA nt tc, vS gsA ns sc] 45, fG (some ⟨ggA, 0, none⟩) ng gc gs, fI lA nl lc cl, fI uA nu uc cu, fT tA nt tc ts] [0, 1, 2, 3, 4, 5, 6, 7, 8, 9] [21] fun L HS => ?_
    refine ap I (fun _ => HS) [0, 2, 5, 6, 8, 11, 12, 14] (bf 22 [0, 2, 5, 6, 8, 11, 12, 14]) [(76, vP g11 1), (74, vP g11 0), (73, vI c), (70, vI g), (68, vP g4 6), (67, vI c), (64, vI g), (62, vP g4 6)] fun a I => ?_
    refine s_ac I HS 1 5 fun a I => ?_
    refine s_az I HS 3 rfl (v := vP gsA (g * 1)) (Yl.ix0 gsA g 1 rfl rfl rfl) fun a I => ?_
    refine s_ac I HS 7 5 fun a I => ?_
    refine s_az I HS 9 rfl (v := vP gsA (g * 1)) (Yl.ix0 gsA g 1 rfl rfl rfl) fun a I => ?_
    refine s_ac I HS 13 0 (v := vQ e.v) fun a I => ?_
    refine s_ac I HS 15 0 (v := vW e.r) fun a I => ?_
    refine qj [4, 10] kr rfl ?_
    refine all_cons ?_ ?_
    ·refine qe I (i := 4) rfl rfl ?_
     refine Yl.wp (S := fun wS => Mem W wS _) (v := .slice ((rs2.getD g Rw.zero).A) ((rs2.getD g Rw.zero).l.length) ((rs2.getD g Rw.zero).c)) (Yl.r1 10 g Rw.zero om rfl rfl rfl) I L rfl de fun a I => ?_
     replace I := I.sp 66 (vS gy yl.length yc) rfl (by rw [hy])
     refine keepS HS (fun HS => ?_)
     refine s_on I 10 rfl ?_
     refine Yl.wp (S := fun wS => Mem W wS _) (v := .slice ((rs2.getD g Rw.zero).A) ((rs2.getD g Rw.zero).l.length) ((rs2.getD g Rw.zero).c)) (Yl.r1 10 g Rw.zero om rfl rfl rfl) I L rfl de fun a I => ?_
     replace I := I.sp 72 (vS gy yl.length yc) rfl (by rw [hy])
     refine keepS HS (fun HS => ?_)
     refine s_az I HS 16 rfl (v := vP gy (c * 3)) (Yl.ix0 gy c 3 rfl rfl rfl) fun a I => ?_
     refine ap I (fun _ => HS) [17] (bt 22 [18, 19, 20, 21]) [(79, vP gy (c * 3))] fun a I => ?_
     refine s_on I 18 rfl ?_
     refine zb I L 10 (c := c) 0 ({ yz with v := e.v }) rfl rfl rfl rfl kr rfl rfl om (hy) (hyz) rfl de rfl ?_
     clear L; intro w5_18 L
     replace L : Mem W w5_18 (.blk g11 e.cells 143 :: .blk g10 yz.cells 83 :: .row (.slice A18 mm.length c18) mm.length (mm.flatMap mbrL) 102 3 :: .blk g8 #[vI 0, vQ 0, vN, vN, vN, vN, vN] 45 :: .blk g5 z.cells 45 :: .blk g4 #[vI cp, vQ cr, vS ggA ng gc, .slice lA nl lc, .slice uA nu uc, .slice tA nt tc, vS gsA ns sc] 45 :: fG (some ⟨ggA, 0, none⟩) ng gc gs :: fI lA nl lc cl :: fI uA nu uc cu :: fT tA nt tc ts :: fS (some ⟨gsA, 0, none⟩) ns sc (rsPut rs2 g c ({ yz with v := e.v })) :: (fR (rsPut rs2 g c ({ yz with v := e.v })) ++ (stF z ++ (T)))) := L
     refine keepS (L.pk [0, 1, 2, 3, 4, 5, 6, 7, 8, 9]) (fun HS => ?_)
     refine za I (fun _ => HS) (i := 19) rfl rfl (d := 80) rfl de kr (fun _ _ _ h => h) (v := vP gy (c * 3)) (fun _ => Yl.ix0 gy c 3 rfl rfl rfl) fun a I => ?_
     refine ap I (fun _ => HS) [20] (bt 22 [21]) [(81, vP gy (c * 3 + 1))] fun a I => ?_
     refine s_on I 21 rfl ?_
     refine zb I L 10 (c := c) 1 ({ yz with v := e.v, r := e.r }) rfl rfl rfl rfl kr rfl rfl (by first | omega | (rw [qt]; omega)) (qem om hy) (qbg hyz) rfl de rfl ?_
     clear L; intro w5_21 L
     replace L : Mem W w5_21 (.blk g11 e.cells 143 :: .blk g10 yz.cells 83 :: .row (.slice A18 mm.length c18) mm.length (mm.flatMap mbrL) 102 3 :: .blk g8 #[vI 0, vQ 0, vN, vN, vN, vN, vN] 45 :: .blk g5 z.cells 45 :: .blk g4 #[vI cp, vQ cr, vS ggA ng gc, .slice lA nl lc, .slice uA nu uc, .slice tA nt tc, vS gsA ns sc] 45 :: fG (some ⟨ggA, 0, none⟩) ng gc gs :: fI lA nl lc cl :: fI uA nu uc cu :: fT tA nt tc ts :: fS (some ⟨gsA, 0, none⟩) ns sc (rsPut (rsPut rs2 g c ({ yz with v := e.v })) g c ({ yz with v := e.v, r := e.r })) :: (fR (rsPut (rsPut rs2 g c ({ yz with v := e.v })) g c ({ yz with v := e.v, r := e.r })) ++ (stF z ++ (T)))) := L
     rw [qbf (by first | omega | (rw [qt]; omega))] at L
     refine noS kr ?_
     refine qb kr ?_
     exact ⟨I.sub kr, L.pt 11 [0, 1, 2, 3, 4, 5, 6, 7, 8, 9, 10]⟩
    refine all_cons ?_ all_nil
    refine qe I (i := 10) rfl rfl ?_
    refine Yl.wp (S := fun wS => Mem W wS _) (v := .slice ((rs2.getD g Rw.zero).A) ((rs2.getD g Rw.zero).l.length) ((rs2.getD g Rw.zero).c)) (Yl.r1 10 g Rw.zero om rfl rfl rfl) I L rfl de fun a I => ?_
    replace I := I.sp 72 (vS gy yl.length yc) rfl (by rw [hy])
    refine keepS HS (fun HS => ?_)
    refine s_on I 4 rfl ?_
    refine Yl.wp (S := fun wS => Mem W wS _) (v := .slice ((rs2.getD g Rw.zero).A) ((rs2.getD g Rw.zero).l.length) ((rs2.getD g Rw.zero).c)) (Yl.r1 10 g Rw.zero om rfl rfl rfl) I L rfl de fun a I => ?_
    replace I := I.sp 66 (vS gy yl.length yc) rfl (by rw [hy])
    refine keepS HS (fun HS => ?_)
    refine s_az I HS 16 rfl (v := vP gy (c * 3)) (Yl.ix0 gy c 3 rfl rfl rfl) fun a I => ?_
    refine ap I (fun _ => HS) [17] (bt 22 [18, 19, 20, 21]) [(79, vP gy (c * 3))] fun a I => ?_
    refine s_on I 18 rfl ?_
    refine zb I L 10 (c := c) 0 ({ yz with v := e.v }) rfl rfl rfl rfl kr rfl rfl om (hy) (hyz) rfl de rfl ?_
    clear L; intro w5_18 L
    replace L : Mem W w5_18 (.blk g11 e.cells 143 :: .blk g10 yz.cells 83 :: .row (.slice A18 mm.length c18) mm.length (mm.flatMap mbrL) 102 3 :: .blk g8 #[vI 0, vQ 0, vN, vN, vN, vN, vN] 45 :: .blk g5 z.cells 45 :: .blk g4 #[vI cp, vQ cr, vS ggA ng gc, .slice lA nl lc, .slice uA nu uc, .slice tA nt tc, vS gsA ns sc] 45 :: fG (some ⟨ggA, 0, none⟩) ng gc gs :: fI lA nl lc cl :: fI uA nu uc cu :: fT tA nt tc ts :: fS (some ⟨gsA, 0, none⟩) ns sc (rsPut rs2 g c ({ yz with v := e.v })) :: (fR (rsPut rs2 g c ({ yz with v := e.v })) ++ (stF z ++ (T)))) := L
    refine keepS (L.pk [0, 1, 2, 3, 4, 5, 6, 7, 8, 9]) (fun HS => ?_)
    refine za I (fun _ => HS) (i := 19) rfl rfl (d := 80) rfl de kr (fun _ _ _ h => h) (v := vP gy (c * 3)) (fun _ => Yl.ix0 gy c 3 rfl rfl rfl) fun a I => ?_
    refine ap I (fun _ => HS) [20] (bt 22 [21]) [(81, vP gy (c * 3 + 1))] fun a I => ?_
    refine s_on I 21 rfl ?_
    refine zb I L 10 (c := c) 1 ({ yz with v := e.v, r := e.r }) rfl rfl rfl rfl kr rfl rfl (by first | omega | (rw [qt]; omega)) (qem om hy) (qbg hyz) rfl de rfl ?_
    clear L; intro w5_21 L
    replace L : Mem W w5_21 (.blk g11 e.cells 143 :: .blk g10 yz.cells 83 :: .row (.slice A18 mm.length c18) mm.length (mm.flatMap mbrL) 102 3 :: .blk g8 #[vI 0, vQ 0, vN, vN, vN, vN, vN] 45 :: .blk g5 z.cells 45 :: .blk g4 #[vI cp, vQ cr, vS ggA ng gc, .slice lA nl lc, .slice uA nu uc, .slice tA nt tc, vS gsA ns sc] 45 :: fG (some ⟨ggA, 0, none⟩) ng gc gs :: fI lA nl lc cl :: fI uA nu uc cu :: fT tA nt tc ts :: fS (some ⟨gsA, 0, none⟩) ns sc (rsPut (rsPut rs2 g c ({ yz with v := e.v })) g c ({ yz with v := e.v, r := e.r })) :: (fR (rsPut (rsPut rs2 g c ({ yz with v := e.v })) g c ({ yz with v := e.v, r := e.r })) ++ (stF z ++ (T)))) := L
    rw [qbf (by first | omega | (rw [qt]; omega))] at L
    refine noS kr ?_
    refine qb kr ?_
    exact ⟨I.sub kr, L.pt 11 [0, 1, 2, 3, 4, 5, 6, 7, 8, 9, 10]⟩
   clear I L; rintro a w5 ⟨I, L⟩
   refine Jb I L ((JR∘Jp 2∘Jd1∘Jq) fun a I L => ?_)
   exact ⟨_, om, p, (rsPut rs2 g c { yz with v := e.v, r := e.r }), by omega, by rw [qt]; exact hl2, hsp2.put { yz with v := e.v, r := e.r } ⟨hev, her, hyo.1.floor⟩ (by rw [hwt]; have := heo.1.1; rw [heo.2] at this; exact this), qpp (z := yz) hfl2 om (by rw [hy]; exact hyz) rfl, by rw [← hst2, hes, qpq, qkf (x := (⟨cp, cr, some ⟨ggA, 0, none⟩, gc, gs, lA, lc, cl, uA, uc, cu, tA, tc, ts, some ⟨gsA, 0, none⟩, sc, rs2⟩ : Stm)) (by show g < rs2.length; omega) hy hyz hpp (by show p < rs2.length; omega) hp hpz hwt (by rw [hpz2]; exact hew)], rfl, I.sub kr, L.pt 11 [3, 4, 5, 6, 7, 8, 9, 10]⟩
  intro a I L
  have hd21 := ne_of_beq_false hb21
  refine Jb I L ((JF∘JX∘JG∘JP∘Jy (v := .agg #[vI cp, vQ cr, vS ggA ng gc, .slice lA nl lc, .slice uA nu uc, .slice tA nt tc, vS gsA ns sc]) (h:=by exact Yl.loadS rfl rfl si_st rfl (fun _ h => qa (h.blk (i := 3) rfl)))∘JV si_st O1') fun w7_1 => (Jt1∘Jj∘JZ) fun a I L => ?_)
  exact ret1 rfl I (.cellS (i := 1) I L rfl rfl si_st rfl) (qf5 (y := (⟨cp, cr, some ⟨ggA, 0, none⟩, gc, gs, lA, lc, cl, uA, uc, cu, tA, tc, ts, some ⟨gsA, 0, none⟩, sc, rs2⟩ : Stm)) 4 L rfl ⟨hlg, hll, hlu, hlt, hl2⟩ (by rw [← hst2, show zh z.sta g c = [] from qds (fun e => hd21 (by rw [← hmm, e]; rfl))]; rfl))
 intro a I L
 have hd14 := of_decide_eq_false hb14
 refine Jb I L ((Jp 7∘Jd6∘Jj∘JF∘JX∘JG∘JP∘Jy (v := .agg #[vI cp, vQ cr, vS ggA ng gc, .slice lA nl lc, .slice uA nu uc, .slice tA nt tc, vS gsA ns sc]) (h:=by exact Yl.loadS rfl rfl si_st rfl (fun _ h => qa (h.blk (i := 2) rfl)))∘JV si_st O0') fun w7_1 => (Jt1∘Jj∘JZ) fun a I L => ?_)
 exact ret1 rfl I (.cellS (i := 0) I L rfl rfl si_st rfl) (qf5 (y := (⟨cp, cr, some ⟨ggA, 0, none⟩, gc, gs, lA, lc, cl, uA, uc, cu, tA, tc, ts, some ⟨gsA, 0, none⟩, sc, rs2⟩ : Stm)) 3 L rfl ⟨hlg, hll, hlu, hlt, hl2⟩ (by rw [← hst2, show zh z.sta g c = [] from by rw [show g = 0 by omega]; rfl]; rfl))
theorem qjm {W w : World} {F T : List Fact} {x z : Stm} {g0 c : Nat} {ng nl nu nt ns : Nat} (n : Nat) (L : Mem W w F) (he : F.drop n = sdA x ng nl nu nt ns ++ (stF z ++ T)) (hln : Lns x ng nl nu nt ns) (hz : Shp z.sta) (hgz : x.gs = z.gs) (hcz : x.cpus = z.cpus) (hrg2 : x.rs.length = x.gs.length) (hfl : Floors z.sta x.rs) (hsp : SpsOk x.gs x.cpus x.rs) (hcr : x.credit < 18446744073709551616) (hc : (c : Int) < x.cpus) (hg : g0 < ns) :
  Calls Tryz.prog 113 #[.agg (sdC x ng nl nu nt ns), .agg z.cells, vI g0, vI c] w (fun r w' => ∃ y : Stm, r = .returned (.agg y.cells) ∧ y.sta = wakeS x.sta (zh z.sta g0 c) c ∧ Mem W w' (F.take n ++ (stF y ++ (stF z ++ T)))) :=
 (qs4 W w x z g0 c ng nl nu nt ns hln hz hgz hcz hrg2 hfl hsp hcr hc hg (F.take n ++ T) (L.front2 n he)).mono fun r w' ⟨y, h1, h2, h3⟩ => ⟨y, h1, h2, h3.qyv⟩
end Go.Proofs.YtannicghedpdpaaGreat
