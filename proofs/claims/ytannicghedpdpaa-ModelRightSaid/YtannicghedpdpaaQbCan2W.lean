/- A part of the proof. -/
import Derived.Test.YtannicghedpdpaaQbCan1W
import Derived.Test.YtannicghedpdpaaQbChv
set_option linter.all false
set_option maxRecDepth 100000
set_option maxHeartbeats 1000000
namespace Go.Proofs.Ytannicghedpdpaa
open Go.RowKit
theorem qdi (v r : Nat) (wt : Int) (hv : v < 18446744073709551616) (hr : r < 4294967296) (hw : 0 ≤ wt ∧ wt < 4294967296) (w : World) :
    Calls Try.prog 36 #[.agg #[vQ v, vW r, vW wt]] w (Is w (.bool (entOk v r wt))) := by
 obtain ⟨z, rfl⟩ : ∃ z : Nat, wt = (z : Int) := ⟨wt.toNat, by omega⟩
 refine (JN1 Try.func36 24) ?_
 refine (JP∘JE) fun w1 g1 => (Jp 1∘Jr∘Jg 2 O0∘Jw .i64∘JL (h:=by exact fun I => qdt (z : Int) _)) ?_
 rintro I _ w6 ⟨rfl, hbw⟩
 refine ⟨_, rfl, _, I.call hbw, ?_⟩
 refine (Jp 1) (Ji (fun hd7 => ?_) fun hd7 => ?_)
 ·
  refine (Jg 1 O0∘Jg 2 O0∘Jp 3) (Ji (fun hd14 => ?_) fun hd14 => ?_)
  ·
   refine (Jg 0 O0∘Jp 2) (Ji (fun hd18 => ?_) fun hd18 => ?_)
   ·
    exact (Jp 6∘Jd6∘Jj∘JZ∘Jz1) fun I => qfo om I.below
   exact (Jg 1 O0∘Jp 4∘Jd6∘Jj∘JZ∘Jz1) fun I => qds om I.below
  exact (Jv 10 [(2, .bool false)]∘Jd6∘Jj∘JZ∘Jz1) fun I => is_no om I.below
 exact (Jv 17 [(2, .bool false)]∘Jd4∘Jj∘JZ∘Jz1) fun I => is_no om I.below
theorem qs (v r : Nat) (wt : Int) (hw : 0 ≤ wt ∧ wt < 4294967296) (w : World) :
    Calls Try.prog 67 #[vQ v, vW r, vI wt] w (Is w (.agg #[vQ v, vW r, vW wt])) := by
 obtain ⟨z, rfl⟩ : ∃ z : Nat, wt = (z : Int) := ⟨wt.toNat, by omega⟩
 refine (JN3 Try.func67 12) ?_
 refine (JP∘JA #[vQ 0, vW 0, vW 0]) fun w6 g6 => (Jr∘Jp 3∘Jv 1 [(10, vW (IntKind.u32.wrap (z : Int)))]∘Jo (vW z) (by exact qf7 rfl om)∘Jy (v := .agg #[vQ v, vW r, vW z]) (h:=by exact Yl.build (vs := [(0, vQ v), (1, vW r), (2, vW z)]) rfl kr kr)∘JV qj O0') fun w1_5 => (Jt5∘Jj∘JZ) fun a Z I => ?_
 exact ret1 rfl Z (.cellS (i := 0) Z I rfl rfl qj rfl) (⟨rfl, I.below⟩)
theorem qjz (m n : Nat) (hm : m < 18446744073709551616) (hn : 1 ≤ n ∧ n ≤ 64) (w : World) :
    Calls Try.prog 58 #[vQ m, vI n] w (Is w (.bool (decide (2 ^ n ≤ m)))) := by
 refine (JN2 Try.func58 11) ?_
 exact (JP∘Jp 1∘Jr∘Jp 2∘JsK 1∘Jy (v := vQ (m / 2 ^ (n - 1) : Nat)) (h:=by exact Yl.shrN (m := m) (n := (n - 1)) rfl rfl rfl (by show _ ≤ 64; omega))∘Jp 1∘Jo (vQ ((m / 2 ^ (n - 1)) / 2 : Nat)) (by exact qf8 .u64 (m / 2 ^ (n - 1)) (j := 1) (q := 2) rfl rfl)∘Jp 2∘Jd6∘Jj∘JZ∘Jz1) fun I => is_as (qrt hn.1) I.below
theorem qc0 (x : Stm) (t : Tk) (hok : t.Ok) (hx : 1 ≤ x.cpus ∧ x.cpus ≤ 64) (hf : x.rs.length ≤ 1000000) (w : World) :
    Calls Try.prog 76 #[.agg x.cells, .agg t.cells] w (Is w (.bool (tkOk1 x.sta t))) := by
 obtain ⟨n, hn⟩ : ∃ n : Nat, x.cpus = (n : Int) := ⟨x.cpus.toNat, by omega⟩
 have hn64 : 1 ≤ n ∧ n ≤ 64 := by omega
 have hv := hok.v
 have hr := hok.r
 have hi := hok.id
 have hg := hok.group
 have hc := hok.cpu
 have hw := hok.weight
 have hm := hok.mask
 unfold I64 at hi hg hc hw
 refine (JN2 Try.func76 72) ?_
 refine (JP∘JE) fun w2 g2 => (JE) fun w3 g3 => (Jp 1∘Jr∘Jg 0 O0∘Jp 2) (Ji (fun hd8 => ?_) fun hd8 => ?_)
 ·
  refine (Jg 0 O0∘Jp 3) (Ji (fun hd13 => ?_) fun hd13 => ?_)
  ·
   refine (Jg 1 O0∘Jp 3) (Ji (fun hd18 => ?_) fun hd18 => ?_)
   ·
    refine (Jg 1 O0∘Jg 6 O1∘Jl∘Jp 3) (Ji (fun hd26 => ?_) fun hd26 => ?_)
    ·
     refine (Jg 3 O0∘Jp 3) (Ji (fun hd31 => ?_) fun hd31 => ?_)
     ·
      refine (Jg 3 O0∘Jf 0∘Jg 0 O1∘Jp 3) (Ju (fun hb39 => ?_) fun hb39 => ?_)
      ·
       intro a Z I
       have hd39 := of_decide_eq_true hb39
       obtain ⟨k, hk⟩ : ∃ k : Nat, t.cpu = (k : Int) := ⟨t.cpu.toNat, by omega⟩
       refine Jb Z I ((Jg 2 O0∘JL (h:=by exact fun I => qaw t.weight _)) ?_)
       rintro I _ w42 ⟨rfl, hbw⟩
       refine ⟨_, rfl, _, I.call hbw, ?_⟩
       refine (Jp 2) (Ji (fun hd44 => ?_) fun hd44 => ?_)
       ·
        refine (Jg 4 O0∘Jf 0∘Jf 0∘Jc O1∘Jo (vI n) (by rw [hn])∘JI (h:=by exact fun I => qjz t.mask n hok.mask hn64 _)) fun w50 hbw => (Jp 3) (Ju (fun hb53 => ?_) fun hb53 => ?_)
        ·
         intro a Z I
         have hd53 := of_decide_eq_false ((Bool.not_eq_true' _).mp hb53)
         have hsh := Nat.div_le_self t.mask (2 ^ k)
         refine Jb Z I ((Jg 4 O0∘Jf 3∘Jc O0∘Jo (vI k) (by rw [hk])∘Jy (v := vQ (t.mask / 2 ^ k : Nat)) (h:=by exact Yl.shrN (m := t.mask) (n := k) rfl rfl rfl (by show _ ≤ 64; omega))∘Jp 1∘Jo (vQ ((t.mask / 2 ^ k) % 2 : Nat)) (by exact qd0 (n := 1) (j := 1) rfl de om)∘Jp 3) (Je (fun hd62 => ?_) fun hd62 => ?_))
         ·
          refine (Jg 6 O0∘Jg 7 O0∘Jg 2 O0∘JI (h:=by exact fun I => qs t.v t.r t.weight om _)) fun w69 hbw => (JI (h:=by exact fun I => qdi t.v t.r t.weight om om om _)) fun w70 hbw => (Jp 2∘Jd6∘Jq) fun a Z I => ?_
          replace Z := Z.to [(4, .bool (entOk t.v t.r t.weight))]
          exact Jb Z I ((JG∘JZ∘Jz1) fun I => is_as (qti om om (by rw [hn, Int.toNat_natCast]; simpa using hb53) (by rw [hk, Int.toNat_natCast]; omega)).symm I.below)
         refine (Jv 10 [(4, .bool false)]∘Jd6∘Jq) fun a Z I => ?_
         replace Z := Z.to [(4, .bool false)]
         exact Jb Z I ((JG∘JZ∘Jz1) fun I => is_as (qth (by rw [hk, Int.toNat_natCast]; omega)).symm I.below)
        intro a Z I
        have hd53 := of_decide_eq_true ((Bool.not_eq_false' _).mp hb53)
        exact Jb Z I ((Jv 19 [(4, .bool false)]∘Jd6∘Jj∘JZ∘Jz1) fun I => is_as (qtg (by rw [hn, Int.toNat_natCast]; simpa using hb53)).symm I.below)
       exact (Jv 28 [(4, .bool false)]∘Jd6∘Jj∘JZ∘Jz1) fun I => is_as (qtf om).symm I.below
      intro a Z I
      have hd39 := of_decide_eq_false hb39
      exact Jb Z I ((Jv 33 [(4, .bool false)]∘Jd6∘Jj∘JZ∘Jz1) fun I => is_as (qfp om).symm I.below)
     exact (Jv 41 [(4, .bool false)]∘Jd6∘Jj∘JZ∘Jz1) fun I => is_as (qfp om).symm I.below
    exact (Jv 46 [(4, .bool false)]∘Jd6∘Jj∘JZ∘Jz1) fun I => is_as (qfp om).symm I.below
   exact (Jv 54 [(4, .bool false)]∘Jd6∘Jj∘JZ∘Jz1) fun I => is_as (qfp om).symm I.below
  exact (Jv 59 [(4, .bool false)]∘Jd6∘Jj∘JZ∘Jz1) fun I => is_as (qfp om).symm I.below
 exact (Jv 64 [(4, .bool false)]∘Jd3∘Jj∘JZ∘Jz1) fun I => is_as (qfp om).symm I.below
theorem qbr (x : Stm) (hok : x.sta.Ok) (hf : StFew x) (w : World) (hx : StRd w x) :
    Calls Try.prog 19 #[.agg #[vI x.cpus, vQ (x.credit : Int), .slice x.gA x.gs.length x.gc]] w (Is w (.bool (cfgOk x.sta))) := by
 have hc := hok.cpus
 have hcr := hok.credit
 replace hc : I64 x.cpus := hc
 replace hcr : x.credit < 18446744073709551616 := hcr
 unfold I64 at hc
 refine (JN1 Try.func19 21) ?_
 refine (JP∘JE) fun w1 g1 => (Jp 1∘Jr∘Jg 0 O0∘Jp 2) (Ji (fun hd6 => ?_) fun hd6 => ?_)
 ·
  refine (Jg 0 O0∘Jp 3) (Ji (fun hd11 => ?_) fun hd11 => ?_)
  ·
   refine (Jg 1 O0∘Jp 3) (Ju (fun hb16 => ?_) fun hb16 => ?_)
   ·
    intro a Z I
    have hd16 := of_decide_eq_true hb16
    exact Jb Z I ((Jg 2 O0∘JI (h:=by exact fun I => qla x.gA x.gc x.gs hok.gs _ (I.old hx.g) hf.g)) fun w19 hbw => (Jp 2∘Jd6∘Jj∘JZ∘Jz1) fun I => is_as (qru om).symm I.below)
   intro a Z I
   have hd16 := of_decide_eq_false hb16
   exact Jb Z I ((Jp 5∘Jd6∘Jj∘JZ∘Jz1) fun I => is_as (qm3 om).symm I.below)
  exact (Jv 10 [(2, .bool false)]∘Jd6∘Jj∘JZ∘Jz1) fun I => is_as (qm3 om).symm I.below
 exact (Jv 15 [(2, .bool false)]∘Jd3∘Jj∘JZ∘Jz1) fun I => is_as (qm3 om).symm I.below
theorem qnk (t : Int) (w : World) : Calls Try.prog 75 #[vI t] w (Is w (.bool (!clOk t))) := by
 refine (JN1 Try.func75 9) ?_
 refine (JP∘Jp 1∘Jr∘Jp 3) (Ji (fun hd5 => ?_) fun hd5 => ?_)
 ·
  exact (Jp 4∘Jd6∘Jj∘JZ∘Jz1) fun I => is_as (by first | (unfold clOk; rw [decide_eq_false om]; rfl) | (unfold clOk; rw [← decide_not]; exact decide_eq_decide.2 om)) I.below
 exact (Jp 4∘Jd6∘Jj∘JZ∘Jz1) fun I => is_as (by first | (unfold clOk; rw [decide_eq_false om]; rfl) | (unfold clOk; rw [← decide_not]; exact decide_eq_decide.2 om)) I.below
theorem qiq (A : Option Addr) (c : Nat) (l : List Int) (w : World) (hr : Rd w w.heap.size 1 A l.length (l.map I64i)) (hn : l.length ≤ 1000000) :
    Calls Try.prog 92 #[.slice A l.length c, .func (.func 75) #[] #[]] w (BadAt w l.length (fun c => clOk (l.getD c 0))) := by
 refine (JN2 Try.func92 19) ?_
 refine (JP∘Jp 1∘Jj∘JQ∘JP∘Jp 1∘Jl∘Jp 1∘Jj∘JB) fun a Z I => ?_
 refine qk (fun mS aS wS => ∃ (k : Nat), (k ≤ l.length) ∧ (UpTo k (fun c => clOk (l.getD c 0))) ∧ mS = l.length - k ∧ Fr aS 19 [] [(8, vI k), (7, vI l.length), (4, vI 0), (0, .slice A l.length c), (1, .func (.func 75) #[] #[])] ∧ Mem w wS []) (m := l.length - 0) ⟨0, Nat.zero_le _, UpTo.zero, rfl, Z.sub kr, I.pk []⟩ ?_
 clear Z I; rintro mS a w_ ⟨k, hk, hu, rfl, Z, I⟩
 refine Jb Z I ((JP∘Jp 1∘Jj∘JQ) (Ju (fun hb9 => ?_) fun hb9 => ?_))
 ·
  intro a Z I
  have hd9 := of_decide_eq_true hb9
  have hk9 : k < l.length := by omega
  refine Jb Z I ((JT∘JS'∘JQ∘JB∘JP∘Jp 2∘Jd1∘Jr∘Jp 3) ?_)
  repeat (first | clear Z | clear I)
  intro a Z I
  obtain ⟨gA, oA, rfl, _⟩ := hr.qn (Nat.lt_of_le_of_lt (Nat.zero_le _) (show k < l.length from by omega)) de
  refine Jb Z I ((Jy (h:=by exact Yl.ix gA oA k 1 rfl rfl rfl)∘Jy (h:=by exact Yl.o1 hr k 0 om rfl rfl)) fun a Z I => ?_)
  refine fo Z 5 rfl rfl ?_
  refine qce Z (f := 75) (vs := [vI (l.getD k 0)]) (fst := []) (caps := []) rfl rfl rfl kr rfl de (qnk (l.getD k 0) _) ?_
  rintro _ w16 ⟨rfl, hbw⟩
  refine ⟨_, rfl, ?_⟩
  replace I := I.call hbw
  clear Z; intro a Z
  refine Jb Z I ((Jd5∘Jj) (Ju (fun hb16 => ?_) fun hb16 => ?_))
  ·
   exact (JT∘JP∘Jp 2∘Jd1∘Jj∘JZ∘Jz1) fun I => qk4 hk9 (by simpa using hb16) I.below
  refine (JF∘JS'∘JR∘JaK 1∘Jp 1∘Jd1∘Jq) fun a Z I => ?_
  exact ⟨_, om, k + 1, by omega, hu.succ (by simpa using hb16), rfl, Z.sub kr, I.pk []⟩
 intro a Z I
 have hd9 := of_decide_eq_false hb9
 exact Jb Z I ((JF∘JX∘JG∘JP∘Jp 1∘Jj∘JZ∘Jz1) fun I => qk5 (fun i hi => hu i om) I.below)
theorem qff (A : Option Addr) (c : Nat) (l : List Int) (w : World) (hr : Rd w w.heap.size 1 A l.length (l.map I64i)) (hn : l.length ≤ 1000000) :
    Calls Try.prog 74 #[.slice A l.length c, .func (.func 75) #[] #[]] w (Is w (.bool (!allN l.length (fun c => clOk (l.getD c 0))))) := by
 refine (JN2 Try.func74 9) ?_
 refine (JP∘Jp 1∘Jr∘Jp 2∘JL (h:=by exact fun I => qiq A c l _ (I.old hr) hn)) ?_
 rintro I _ w7 ⟨⟨i, rfl, he⟩, hbw⟩
 refine ⟨_, rfl, _, I.call hbw, ?_⟩
 exact (Jp 2∘Jd4∘Jj∘JZ∘Jz1) fun I => is_as he I.below
end Go.Proofs.Ytannicghedpdpaa
