/- A part of the proof. -/
import Derived.Test.YtannicghedpdpaaQfCan1W
import Derived.Test.YtannicghedpdpaaQfChv
set_option linter.all false
set_option maxRecDepth 100000
set_option maxHeartbeats 1000000
namespace Go.Proofs.Ytannicghedpdpaa
open Go.RowKit
theorem qkw (v r : Nat) (wt : Int) (hv : v < 18446744073709551616) (hr : r < 4294967296) (hw : 0 ≤ wt ∧ wt < 4294967296) (w : World) :
    Calls Try.prog 36 #[.agg #[vQ v, vW r, vW wt]] w (Is w (.bool (entOk v r wt))) := by
 obtain ⟨z, rfl⟩ : ∃ z : Nat, wt = (z : Int) := ⟨wt.toNat, by omega⟩
 refine (JN1 Try.func36 24) ?_
 refine (JP∘JE) fun w1 g1 => (Jp 1∘Jr∘Jg 2 O0∘Jw .i64∘JL (h:=by exact fun I => qdr (z : Int) _)) ?_
 rintro I _ w6 ⟨rfl, hbw⟩
 refine ⟨_, rfl, _, I.call hbw, ?_⟩
 refine (Jp 1) (Ji (fun hd7 => ?_) fun hd7 => ?_)
 ·
  refine (Jg 1 O0∘Jg 2 O0∘Jp 3) (Ji (fun hd14 => ?_) fun hd14 => ?_)
  ·
   refine (Jg 0 O0∘Jp 2) (Ji (fun hd18 => ?_) fun hd18 => ?_)
   ·
    exact (Jp 6∘Jd6∘Jj∘JZ∘Jz1) fun I => qsx om I.below
   exact (Jg 1 O0∘Jp 4∘Jd6∘Jj∘JZ∘Jz1) fun I => qej om I.below
  exact (Jv 10 [(2, .bool false)]∘Jd6∘Jj∘JZ∘Jz1) fun I => is_no om I.below
 exact (Jv 17 [(2, .bool false)]∘Jd4∘Jj∘JZ∘Jz1) fun I => is_no om I.below
theorem qt (v r : Nat) (wt : Int) (hw : 0 ≤ wt ∧ wt < 4294967296) (w : World) :
    Calls Try.prog 67 #[vQ v, vW r, vI wt] w (Is w (.agg #[vQ v, vW r, vW wt])) := by
 obtain ⟨z, rfl⟩ : ∃ z : Nat, wt = (z : Int) := ⟨wt.toNat, by omega⟩
 refine (JN3 Try.func67 12) ?_
 refine (JP∘JA #[vQ 0, vW 0, vW 0]) fun w6 g6 => (Jr∘Jp 3∘Jv 1 [(10, vW (IntKind.u32.wrap (z : Int)))]∘Jo (vW z) (by exact qdc rfl om)∘Jy (v := .agg #[vQ v, vW r, vW z]) (h:=by exact Yl.build (vs := [(0, vQ v), (1, vW r), (2, vW z)]) rfl kr kr)∘JV qi O0') fun w1_5 => (Jt5∘Jj∘JZ) fun a Z I => ?_
 exact ret1 rfl Z (.cellS (i := 0) Z I rfl rfl qi rfl) (⟨rfl, I.below⟩)
theorem qpf (m n : Nat) (hm : m < 18446744073709551616) (hn : 1 ≤ n ∧ n ≤ 64) (w : World) :
    Calls Try.prog 58 #[vQ m, vI n] w (Is w (.bool (decide (2 ^ n ≤ m)))) := by
 refine (JN2 Try.func58 11) ?_
 exact (JP∘Jp 1∘Jr∘Jp 2∘JsK 1∘Jy (v := vQ (m / 2 ^ (n - 1) : Nat)) (h:=by exact Yl.shrN (m := m) (n := (n - 1)) rfl rfl rfl (by show _ ≤ 64; omega))∘Jp 1∘Jo (vQ ((m / 2 ^ (n - 1)) / 2 : Nat)) (by exact qf0 .u64 (m / 2 ^ (n - 1)) (j := 1) (q := 2) rfl rfl)∘Jp 2∘Jd6∘Jj∘JZ∘Jz1) fun I => is_as (qra hn.1) I.below
theorem qem (x : Stm) (hok : x.sta.Ok) (hf : StFew x) (w : World) (hx : StRd w x) :
    Calls Try.prog 19 #[.agg #[vI x.cpus, vQ (x.credit : Int), .slice x.gA x.gs.length x.gc]] w (Is w (.bool (cfgOk x.sta))) := by
 have hc := hok.cpus
 have hcr := hok.credit
 replace hc : I64 x.cpus := hc
 replace hcr : x.credit < 18446744073709551616 := hcr
 unfold I64 at hc
 refine (JN1 Try.func19 21) ?_
 refine (JP∘JE) fun w1 g1 => (Jp 1∘Jr∘Jg 0 O0∘Jp 2) (Ji (fun hd6 => ?_) fun hd6 => ?_)
 ·
  refine (Jg 0 O0∘Jp 3) (Ji (fun hd11 => ?_) fun hd11 => ?_)
  ·
   refine (Jg 1 O0∘Jp 3) (Ju (fun hb16 => ?_) fun hb16 => ?_)
   ·
    intro a Z I
    have hd16 := of_decide_eq_true hb16
    exact Jb Z I ((Jg 2 O0∘JI (h:=by exact fun I => qkv x.gA x.gc x.gs hok.gs _ (I.old hx.g) hf.g)) fun w19 hbw => (Jp 2∘Jd6∘Jj∘JZ∘Jz1) fun I => is_as (qrb om).symm I.below)
   intro a Z I
   have hd16 := of_decide_eq_false hb16
   exact Jb Z I ((Jp 5∘Jd6∘Jj∘JZ∘Jz1) fun I => is_as (qmn om).symm I.below)
  exact (Jv 10 [(2, .bool false)]∘Jd6∘Jj∘JZ∘Jz1) fun I => is_as (qmn om).symm I.below
 exact (Jv 15 [(2, .bool false)]∘Jd3∘Jj∘JZ∘Jz1) fun I => is_as (qmn om).symm I.below
end Go.Proofs.Ytannicghedpdpaa
