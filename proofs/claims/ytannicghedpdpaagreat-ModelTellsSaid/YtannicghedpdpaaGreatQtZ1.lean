/- Parts. -/
import Derived.Test.YtannicghedpdpaaGreatQtSame
import Derived.Test.YtannicghedpdpaaGreatQtStaG
import Derived.Test.YtannicghedpdpaaGreatQtChv
import Derived.Test.YtannicghedpdpaaGreatQtStaH
import Derived.Test.YtannicghedpdpaaGreatQtStaQ
import Derived.Test.YtannicghedpdpaaGreatQtCpy
import Derived.Test.YtannicghedpdpaaGreatQtMdlV
set_option linter.all false
set_option maxRecDepth 100000
set_option maxHeartbeats 1000000
namespace Go.Proofs.YtannicghedpdpaaGreat
open Go.RowKit
theorem qlm {α : Type} {a b : List α} {n : Nat} (h : b.length = n) : a.length + n = (a ++ b).length := by rw [List.length_append, h]
theorem qrj {m n : Nat} : ∀ k, (∀ i, n ≤ i → i < n + k → m / 2 ^ i % 2 = 0) → m % 2 ^ (n + k) = m % 2 ^ n
 | 0, _ => rfl
 | k + 1, h => by
  rw [← Nat.add_assoc, Nat.mod_pow_succ, h (n + k) om om, Nat.mul_zero, Nat.add_zero]
  exact qrj k fun i h1 h2 => h i h1 om
theorem qrk {m n : Nat} (hm : m < 18446744073709551616) (hn : n ≤ 64) (h : ∀ i, n ≤ i → i < 64 → m / 2 ^ i % 2 = 0) : ¬ 2 ^ n ≤ m := by
 have h1 := qrj (m := m) (n := n) (64 - n) fun i h1 h2 => h i h1 om
 rw [show n + (64 - n) = 64 by omega, Nat.mod_eq_of_lt (show m < 2 ^ 64 from hm)] at h1
 have := Nat.mod_lt m (Nat.two_pow_pos n)
 omega
theorem qrl {m n c : Nat} (hc : n ≤ c) (h : m / 2 ^ c % 2 = 1) : 2 ^ n ≤ m := by
 have h1 : 2 ^ n ≤ 2 ^ c := Nat.pow_le_pow_right de hc
 rcases Nat.lt_or_ge m (2 ^ c) with h2 | h2
 ·rw [Nat.div_eq_of_lt h2] at h; omega
 ·omega
structure ShA0 (x : Stm) : Prop where
 cfg : cfgOk x.sta = true
 cl : (x.cl.length : Int) = x.cpus
 cu : (x.cu.length : Int) = x.cpus
 rs : x.rs.length = x.gs.length
 cls : ∀ c, c < x.cl.length → clOk (x.cl.getD c 0) = true
 row : ∀ g, g < x.rs.length → rowOk x.sta g = true
section
variable {x : Stm} {g : Nat}
end
def mbrL (m : Mb) : List Value := [.int .u64 (m.v : Int), .int .i64 (m.k : Int), .int .i64 (m.id : Int)]
theorem qiq (m : Mb) : (mbrL m).length = 3 := rfl
def Mb.rcells (m : Mb) : Array Value := #[.int .u64 (m.v : Int), .int .i64 (m.k : Int), .int .i64 (m.id : Int)]
def Mb.zero : Mb := ⟨0, 0, 0⟩
theorem qir (x : Mb) : ∀ v ∈ x.rcells.toList, v.oneCell' = true := by simp [Mb.rcells, Value.oneCell']
theorem qrm (l : List Mb) : ∀ u ∈ l.flatMap mbrL, u.oneCell' = true := by
 intro u hu
 obtain ⟨x, _, hx⟩ := List.mem_flatMap.1 hu
 simp only [mbrL, List.mem_cons, List.not_mem_nil, or_false] at hx
 rcases hx with rfl | rfl | rfl <;> rfl
def qm0 (l : List Mb) : Mb := bestM (l.getD 0 Mb.zero) (l.drop 1)
theorem qrn {l : List Mb} (h : l ≠ []) (hk : ∀ m ∈ l, m.k ≤ 1 ∧ m.v < 18446744073709551616) : qm0 l = bestM topM l := by
 obtain ⟨m, r, rfl⟩ := List.exists_cons_of_ne_nil h
 have h1 := hk m (by simp)
 have e : m.lt topM = true := by
  unfold Mb.lt topM
  rw [decide_eq_true_eq]
  show m.v < 18446744073709551615 ∨ m.v = 18446744073709551615 ∧ (m.k < 18446744073709551615 ∨ m.k = 18446744073709551615 ∧ m.id < 18446744073709551615)
  omega
 show bestM m r = bestM (if m.lt topM then m else topM) r
 rw [e]; rfl
theorem qkd {l : List Mb} {b : Mb} {k : Nat} (h1 : 1 ≤ k) (hk : k < l.length) : bestM b ((l.take (k + 1)).drop 1) = if (l.getD k Mb.zero).lt (bestM b ((l.take k).drop 1)) then l.getD k Mb.zero else bestM b ((l.take k).drop 1) := by
 rw [qcz Mb.zero hk, List.drop_append_of_le_length (by rw [List.length_take]; omega), qg4]
theorem lt_v {a b : Mb} (h : a.v ≠ b.v) : a.lt b = decide (a.v < b.v) := decide_eq_decide.2 om
theorem lt_k {a b : Mb} (h : a.v = b.v) (h2 : a.k ≠ b.k) : a.lt b = decide (a.k < b.k) := decide_eq_decide.2 om
theorem lt_id {a b : Mb} (h : a.v = b.v) (h2 : a.k = b.k) : a.lt b = decide (a.id < b.id) := decide_eq_decide.2 om
theorem qro {a b : Mb} {m n : Nat} (h : a.lt b = decide (m < n)) {w w' : World} (hb : Below w.heap.size w w') : Is w (.bool (a.lt b)) (.returned (.bool (decide ((m : Int) < (n : Int))))) w' := by
 rw [h]; exact qcl om hb
section
variable {x : Stm} {g i : Nat} {z : Sp} {t : Tk}
end
theorem qtu {s : Sta} (hok : s.Ok) (g c : Nat) : (s.spot g c).Ok := by
 have key : ∀ l : List Sp, (∀ z ∈ l, z.Ok) → (l.getD c Sp.zero).Ok := by
  intro l hl
  rcases Nat.lt_or_ge c l.length with h | h
  ·exact hl _ (qm Sp.zero h)
  ·rw [List.getD_eq_getElem?_getD, List.getElem?_eq_none h]
   exact ⟨by decide, by decide, by decide⟩
 refine key _ ?_
 rcases Nat.lt_or_ge g s.sp.length with h | h
 ·exact hok.sp _ (qm [] h)
 ·rw [List.getD_eq_getElem?_getD, List.getElem?_eq_none h]
  intro z hz
  cases hz
theorem qv9 {x : Stm} (hok : x.sta.Ok) (g c : Nat) : ∀ m ∈ memS x.sta g c, m.k ≤ 1 ∧ m.v < 18446744073709551616 := by
 rw [qdi]
 intro m hm
 rcases List.mem_append.1 hm with h | h
 ·obtain ⟨t, ht, h2⟩ := List.mem_filterMap.1 h
  unfold tkM at h2
  split at h2
  ·injection h2 with h2
   subst h2
   exact ⟨Nat.zero_le _, (hok.ts t ht).v⟩
  ·cases h2
 ·obtain ⟨i, _, h2⟩ := List.mem_filterMap.1 h
  unfold grpM at h2
  split at h2
  ·injection h2 with h2
   subst h2
   exact ⟨Nat.le_refl _, (qtu hok i c).v⟩
  ·cases h2
theorem qtv {β : Type} {f : Nat → Option β} {n g u : Nat} (h2 : u < n) (hf : g + 1 ≤ u → f u = none) : (((List.range n).drop (g + 1)).take (u + 1 - (g + 1))).filterMap f = (((List.range n).drop (g + 1)).take (u - (g + 1))).filterMap f := by
 rcases Nat.lt_or_ge u (g + 1) with h | h
 ·rw [show u + 1 - (g + 1) = u - (g + 1) by omega]
 ·rw [qh6 h h2, hf h]
  simp
def bestU (l : List Mb) (k : Nat) : Mb := bestM (l.getD 0 Mb.zero) ((l.take k).drop 1)
theorem qrp (l : List Mb) : bestU l 1 = l.getD 0 Mb.zero := by
 unfold bestU
 rw [List.drop_of_length_le (by rw [List.length_take]; omega)]
 rfl
theorem qrq {l : List Mb} {k : Nat} (h1 : 1 ≤ k) (hk : k < l.length) (h : (l.getD k Mb.zero).lt (bestU l k) = true) : bestU l (k + 1) = l.getD k Mb.zero := by
 unfold bestU at h ⊢
 rw [qkd h1 hk, if_pos h]
theorem qtw {l : List Mb} {k : Nat} (h1 : 1 ≤ k) (hk : k < l.length) (h : (l.getD k Mb.zero).lt (bestU l k) = false) : bestU l (k + 1) = bestU l k := by
 unfold bestU at h ⊢
 rw [qkd h1 hk, if_neg (by rw [h]; decide)]
theorem qrr {l : List Mb} {k : Nat} (h : l.length ≤ k) : bestU l k = qm0 l := by
 unfold bestU qm0
 rw [List.take_of_length_le h]
def qrs (t : TypeId) (w : World) (R : List Mb) (r : Ending) (w' : World) : Prop :=
 (∃ A c, r = .returned (.slice A R.length c) ∧ w'.ownsRow w.heap.size t 3 (.slice A R.length c) R.length (R.flatMap mbrL) ∧ R.length ≤ c) ∧ Below w.heap.size w w'
theorem qrt {t : TypeId} {w w' : World} {q R : List Mb} {A : Option Addr} {c : Nat} (h : q = R) (ho : w'.ownsRow w.heap.size t 3 (.slice A q.length c) q.length (q.flatMap mbrL)) (hc : q.length ≤ c) (hb : Below w.heap.size w w') : qrs t w R (.returned (.slice A q.length c)) w' := by
 subst h
 exact ⟨⟨A, c, rfl, ho, hc⟩, hb⟩
theorem qm1 (x : Stm) (g c : Nat) : (memS x.sta g c).length ≤ x.ts.length + x.rs.length := by
 rw [qdi, List.length_append]
 have h1 := List.length_filterMap_le (tkM · g c) x.sta.ts
 have h2 := List.length_filterMap_le (grpM x.sta c (fun h => memS x.sta h c) g) ((List.range x.sta.sp.length).drop (g + 1))
 rw [List.length_drop, List.length_range] at h2
 have hl := zl (x := x)
 have h3 : x.sta.ts.length = x.ts.length := rfl
 omega
theorem qvb {l : List Gr} {g : Nat} (h : ∀ i, 0 < i → i ≤ g → ParB l i) : depG l g ≤ g := by
 induction g using Nat.strongRecOn with
 | _ g ih =>
  rcases Nat.eq_zero_or_pos g with h0 | h0
  ·subst h0; exact Nat.le_refl _
  ·have hg := h g h0 (Nat.le_refl _)
   unfold ParB at hg
   have := ih (l.getD g Gr.zero).parent.toNat om (fun i h1 h2 => h i h1 om)
   rw [qfv h h0]
   omega
theorem qjk (x : Int) (w : World) : Calls Tryz.prog 127 #[vI x] w (Is w (.bool (decide (1 ≤ x ∧ x ≤ 65536)))) := by
 refine (JN1 Tryz.func127 9) ?_
 refine (JP∘Jp 1∘Jr∘Jp 3) (Ji (fun hd5 => ?_) fun hd5 => ?_)
 ·
  exact (Jp 4∘Jd6∘Jj∘JZ∘Jz1) fun HM => qcl om HM.below
 exact (Jp 4∘Jd6∘Jj∘JZ∘Jz1) fun HM => is_no om HM.below
theorem qe5 (x : Int) (w : World) : Calls Tryz.prog 124 #[vI x] w (Is w (.bool (decide (1 ≤ x ∧ x ≤ 65536)))) := by
 refine (JN1 Tryz.func124 9) ?_
 refine (JP∘Jp 1∘Jr∘Jp 3) (Ji (fun hd5 => ?_) fun hd5 => ?_)
 ·
  exact (Jp 4∘Jd6∘Jj∘JZ∘Jz1) fun HM => qcl om HM.below
 exact (Jp 4∘Jd6∘Jj∘JZ∘Jz1) fun HM => is_no om HM.below
theorem qcm (x : Int) (w : World) : Calls Tryz.prog 80 #[vI x] w (Is w (.bool (decide (1 ≤ x ∧ x ≤ 65536)))) := by
 refine (JN1 Tryz.func80 9) ?_
 refine (JP∘Jp 1∘Jr∘Jp 3) (Ji (fun hd5 => ?_) fun hd5 => ?_)
 ·
  exact (Jp 4∘Jd6∘Jj∘JZ∘Jz1) fun HM => qcl om HM.below
 exact (Jp 4∘Jd6∘Jj∘JZ∘Jz1) fun HM => is_no om HM.below
theorem qb1 (x : Int) (w : World) : Calls Tryz.prog 46 #[vI x] w (Is w (.bool (decide (1 ≤ x ∧ x ≤ 65536)))) := by
 refine (JN1 Tryz.func46 9) ?_
 refine (JP∘Jp 1∘Jr∘Jp 3) (Ji (fun hd5 => ?_) fun hd5 => ?_)
 ·
  exact (Jp 4∘Jd6∘Jj∘JZ∘Jz1) fun HM => qcl om HM.below
 exact (Jp 4∘Jd6∘Jj∘JZ∘Jz1) fun HM => is_no om HM.below
theorem qvc (W w : World) (gg gl lp : Nat) (A : Option Addr) (c : Nat) (l : List Gr) (g : Nat) (Inv : Nat → List Fact → Prop) (F0 : List Fact) (hr : Rd W W.heap.size 2 A l.length (l.flatMap grL)) (hn : l.length ≤ 1000000) (hg : g < l.length) (hp : ∀ i, 0 < i → i ≤ g → ParB l i)
    (hy : qlw Tryz.prog W lp (depG l g + 1) Inv) (hI0 : Inv 0 F0) (HM : Mem W w (.blk gg #[vI g] 3 :: .blk gl #[.slice A l.length c] 31 :: F0)) :
    Calls Tryz.prog 141 (.func (.yield lp) #[] #[] :: [vP gg 0, vP gl 0]).toArray w (qu4 W (Inv (depG l g + 1))) := by
 refine s_ce Tryz.func141 [.func (.yield lp) #[] #[], vP gg 0, vP gl 0] [(0, .func (.yield lp) #[] #[]), (1, vP gg 0), (2, vP gl 0)] fun a I => ?_
 refine Jb I HM ((JB) fun a I HM => ?_)
 refine qi (fun mS aS wS => ∃ (x : Nat) (i : Nat) (F : List Fact), (Inv i F) ∧ (x ≤ g) ∧ (depG l x + i = depG l g) ∧ mS = 0 + x ∧ Fr aS 16 [] [(0, .func (.yield lp) #[] #[]), (1, vP gg 0), (2, vP gl 0)] ∧ Mem W wS (.blk gg #[vI x] 3 :: .blk gl #[.slice A l.length c] 31 :: F)) (m := 0 + g) ⟨g, 0, F0, hI0, Nat.le_refl _, Nat.add_zero _, rfl, I.sub kr, HM.pt 2 [0, 1]⟩ ?_
 clear I HM; rintro mS a w_ ⟨x, i, F, hI, hxg, hd, rfl, I, HM⟩
 refine Jb I HM ((JQ) fun a I HM => ?_)
 refine wp_seq ?_
 refine qje (i := 2) ?_
 refine Jb I HM ((Jp 1∘Jc O0∘Jq) fun a I HM => ?_)
 refine qsk I (i := 2) (vs := [vI x]) rfl rfl rfl rfl rfl rfl de (hy i F [.blk gg #[vI x] 3, .blk gl #[.slice A l.length c] 31] _ (x : Int) hI om (Mem.qsc (es := F) HM)) qfx ?_
 clear I HM; rintro v w20 a ⟨F2, HM, hv, hI2⟩ I; injection hv with hv; subst hv
 replace HM : Mem W w20 (.blk gg #[vI x] 3 :: .blk gl #[.slice A l.length c] 31 :: F2) := Mem.qsc (es := [.blk gg #[vI x] 3, .blk gl #[.slice A l.length c] 31]) HM
 refine Jb I HM ((Jp 1∘Jc O0∘Jp 2∘Jd6∘Jq) (Ju (fun hb10 => ?_) fun hb10 => ?_))
 ·
  intro a I HM
  have hd10 := of_decide_eq_true hb10
  have hx0 : 0 < x := by omega
  obtain ⟨hp1, hp2⟩ := hp x hx0 hxg
  obtain ⟨y, hy2⟩ : ∃ y : Nat, (l.getD x Gr.zero).parent = (y : Int) := ⟨(l.getD x Gr.zero).parent.toNat, by omega⟩
  have hdx := qfv (l := l) (g := x) (fun i h0 hi => hp i h0 om) hx0
  rw [hy2, Int.toNat_natCast] at hdx
  refine Jb I HM ((JT∘JS'∘JB∘JR∘Jc O1∘Jc O0) ?_)
  repeat (first | clear I | clear HM)
  intro a I HM
  obtain ⟨gA, oA, rfl, _⟩ := hr.qt (Nat.lt_of_le_of_lt (Nat.zero_le _) (show x < l.length from by omega)) de
  refine Jb I HM ((Jy (h:=by exact Yl.ix gA oA x 2 rfl rfl rfl)∘Jf 0∘Jy (v := vI ((l.getD x Gr.zero).parent)) (h:=by exact Yl.qo rfl rfl kr (fun _ h => (by have := (h.old hr).partAt za (k := x) (j := 0) (x := (l.getD x Gr.zero)) ((getD_at Gr.zero om)) rfl; simpa using this)))∘Jo (vI y) (by rw [hy2])∘JW O0' O0') fun w1_5 => (Jt5∘Jq) fun a I HM => ?_)
  exact ⟨_, om, y, i + 1, F2, hI2, by omega, by omega, rfl, I.sub kr, HM.pt 2 [0, 1]⟩
 intro a I HM
 have hd10 := of_decide_eq_false hb10
 revert HM; revert a; repeat (first | clear I | clear HM)
 intro a I HM
 obtain rfl : x = 0 := by omega
 have hd0 := qpb l
 refine Jb I HM ((JF∘JX) fun a I HM => ?_)
 have hin : i + 1 = depG l g + 1 := by omega
 rw [hin] at hI2
 exact norm0 rfl I ⟨_, rfl, F2, Mem.quc [.blk gg #[vI 0] 3, .blk gl #[.slice A l.length c] 31] HM, hI2⟩
theorem qwq (A : Option Addr) (n c : Nat) (g : Int) (w : World) :
    Calls Tryz.prog 138 #[.slice A n c, vI g] w fun r w' => ∃ gg gl, r = .returned (.func (.func 141) #[] #[vP gg 0, vP gl 0]) ∧ Mem w w' [.blk gg #[vI g] 3, .blk gl #[.slice A n c] 31] := by
 refine (JN2 Tryz.func138 6) ?_
 exact (JP∘Je1) fun w2 g2 => (Je1) fun w3 g3 => (Jp 1∘Jr∘Jy (h:=by exact Yl.makeFunc (fst := []) (caps := [vP g3 0, vP g2 0]) rfl rfl rfl)∘Jp 1∘Jd1∘Jj∘JZ∘Jz1) fun HM => by exact ⟨_, _, rfl, HM.pk [0, 1]⟩
theorem qpr (A : Option Addr) (c : Nat) (l : List Gr) (g : Nat) (w : World) (hr : Rd w w.heap.size 2 A l.length (l.flatMap grL)) (hn : l.length ≤ 1000000) (hg : g < l.length) (hp : ∀ i, 0 < i → i ≤ g → ParB l i) :
    Calls Tryz.prog 128 #[.slice A l.length c, vI g] w (Is w (vI (depG l g : Int))) := by
 have hdep := qvb hp
 refine qh2 (vs := [.slice A l.length c, vI g]) Tryz.func128 rfl rfl kr (σ0 := [(0, .slice A l.length c), (1, vI g)]) rfl ?_
 intro a I
 have HM := Mem.start w
 refine Jb I HM ((JP∘Jp 1∘Jr∘JA #[vI 0]) fun w5 g5 => (JW O0' O0') fun w1_1 => (Jj∘JQ∘JP∘Jp 2∘JL (h:=by exact fun HM => qwq A l.length c (g : Int) _)) ?_)
 rintro HM _ w8 ⟨gg, gl, rfl, hm⟩
 refine ⟨_, rfl, _, HM.join hm, ?_⟩
 refine (Jd2∘Jj∘JB) fun a I HM => ?_
 refine qwp I HM (fun F => F = [.blk g5 #[vI (((depG l g + 1) : Int) - 1)] 3]) (fun _ _ => False) rfl kr ?_ ?_ (fun _ _ _ _ _ h => h.elim)
 ·
  clear I HM; intro lp B rec w1 hrec HM
  have hy : qlw Tryz.prog w lp (depG l g + 1) (fun i F => F = (.obj lp (.loop (rec .ready none)) :: .obj B (.deferred (some [])) :: [.blk g5 #[vI ((i : Int) - 1)] 3])) := by
   rintro i F fr w3 x rfl hi HM
   replace HM : Mem w _ (.obj lp (.loop (rec .ready none)) :: .obj B (.deferred (some [])) :: .blk g5 #[vI ((i : Int) - 1)] 3 :: fr) := HM
   refine qjf (v1 := vI x) hrec HM de fun a I => ?_
   refine wpIn_skip ?_
   refine ⟨(.obj B (.deferred (some [])) :: .blk g5 #[vI ((i : Int) - 1)] 3 :: fr), HM.pt (fs' := (.obj lp (.loop (rec .ready none)) :: .obj B (.deferred (some [])) :: .blk g5 #[vI ((i : Int) - 1)] 3 :: fr)) 3 [0, 1, 2], fun w4 HM => ?_⟩
   refine wpIn_block ?_
   refine qjc ?_
   refine Jb I HM ((Jc O2∘Jp 1∘Jo (vI (((i + 1 : Nat) : Int) - 1)) (by have hdl := hdep; exact (qcj ⟨by omega, by omega⟩).trans (congrArg (Value.int .i64) om))∘JW O2' O0') fun w3_2 => (Jt3∘Jq) fun a I HM => ?_)
   refine ⟨(.obj B (.deferred (some [])) :: .blk g5 #[vI (((i + 1 : Nat) : Int) - 1)] 3 :: fr), HM.pt (fs' := (.obj lp (.loop (rec .busy none)) :: .obj B (.deferred (some [])) :: .blk g5 #[vI (((i + 1 : Nat) : Int) - 1)] 3 :: fr)) 3 [0, 1, 2], fun w5 HM => ?_⟩
   exact ⟨(.obj lp (.loop (rec .ready none)) :: .obj B (.deferred (some [])) :: .blk g5 #[vI (((i + 1 : Nat) : Int) - 1)] 3 :: []), HM, rfl, rfl⟩
  refine (qvc w w1 gg gl lp A c l g _ _ hr hn hg hp hy rfl (HM.pk [2, 3, 0, 1, 4])).mono ?_
  rintro r w2 ⟨v, rfl, F2, HM2, rfl⟩
  exact ⟨v, rfl, .inl ⟨_, rfl, HM2⟩⟩
 clear I HM; rintro B a w6 _ rfl I HM
 refine Jb I HM ((JG∘JP∘Jc O1∘Jp 1∘Jd1∘Jj∘JZ) fun a I HM => ?_)
 refine qu3 I HM (i := 0) rfl fun a w7 I HM => ?_
 exact s_rt1 rfl I rfl (⟨by congr 2; omega, HM.below⟩)
theorem qna (A : Option Addr) (c : Nat) (l : List Gr) (hok : ∀ x ∈ l, x.Ok) (w : World) (hr : Rd w w.heap.size 2 A l.length (l.flatMap grL)) (hn : l.length ≤ 1000000) :
    Calls Tryz.prog 96 #[.slice A l.length c] w (qfy w l) := by
 refine (JN1 Tryz.func96 58) ?_
 refine (JP∘Jp 2∘Jj∘JQ∘JB∘JP∘Jp 1∘Jl∘Jp 2∘Jd3∘Jj) (Ji (fun hd5 => ?_) fun hd5 => ?_)
 ·
  exact (JT∘JP∘Jp 2∘Jj∘JZ∘Jz2) fun HM => qak (qh3 om) de HM.below
 refine (JF∘JP∘Jp 1∘Jl∘Jp 2) (Ju (fun hb13 => ?_) fun hb13 => ?_)
 ·
  intro a I HM
  have hd13 := eq_of_beq hb13
  exact Jb I HM ((Jp 7∘Jd6∘Jj∘JT∘JP∘Jp 2∘Jj∘JZ∘Jz2) fun HM => qak (qh3 om) de HM.below)
 intro a I HM
 have hd13 := ne_of_beq_false hb13
 revert HM; revert a; repeat (first | clear I | clear HM)
 intro a I HM
 obtain ⟨gA, oA, rfl, _⟩ := hr.qt (Nat.lt_of_le_of_lt (Nat.zero_le _) (show 0 < l.length from by omega)) de
 refine Jb I HM ((Jp 1∘Jy (v := vP gA oA) (h:=by exact Yl.indexAddr (ad := ⟨gA, oA, none⟩) (y := 0) (sz := 2) rfl rfl rfl om kr)∘Jy (v := .agg ((l.getD 0 Gr.zero).cells)) (h:=by exact Yl.loadS rfl rfl si_gr rfl (fun _ h => (h.old hr).q4 za ((getD_at Gr.zero om))))∘Jy (v := .agg #[vI 0, vI 1]) (h:=by exact Yl.build (vs := [(1, vI 1)]) rfl kr kr)∘Jy (v := .bool (!(decide ((l.getD 0 Gr.zero) = ⟨0, 1⟩)))) (h:=by exact Yl.qm3 rfl rfl rfl (qly (l.getD 0 Gr.zero) ⟨0, 1⟩))∘Jp 2∘Jd6∘Jj) (Ju (fun hb9 => ?_) fun hb9 => ?_))
 ·
  intro a I HM
  have hd9 := of_decide_eq_false ((Bool.not_eq_true' _).mp hb9)
  exact Jb I HM ((JT∘JP∘Jp 2∘Jj∘JZ∘Jz2) fun HM => qak (qh3 (fun h => by rw [h.2.2] at hb9; simp at hb9)) de HM.below)
 intro a I HM
 have hd9 := of_decide_eq_true ((Bool.not_eq_false' _).mp hb9)
 refine Jb I HM ((JF∘JS'∘JQ∘JP∘Jp 1∘Jj∘JB) fun a I HM => ?_)
 refine qi (fun mS aS wS => ∃ (g : Nat), (1 ≤ g) ∧ (g ≤ l.length) ∧ (UpTo g (gOk l)) ∧ mS = l.length - g ∧ Fr aS 58 [] [(4, vI g), (9, .bool false), (5, .bool false), (3, vI 0), (2, vI 0), (0, .slice (some ⟨gA, oA, none⟩) l.length c)] ∧ Mem w wS []) (m := l.length - 1) ⟨1, Nat.le_refl _, by omega, UpTo.zero.succ (qsm l), rfl, I.sub kr, HM.pk []⟩ ?_
 clear I HM; rintro mS a w_ ⟨g, hg1, hgl, hu, rfl, I, HM⟩
 refine Jb I HM ((JQ∘JP∘Jp 2∘Jl∘Jp 1∘Jd3∘Jj) (Ju (fun hb23 => ?_) fun hb23 => ?_))
 ·
  intro a I HM
  have hd23 := of_decide_eq_true hb23
  have hg23 : g < l.length := by omega
  have hOk := hok _ (qm Gr.zero hg23)
  have hOp := hOk.parent
  unfold I64 at hOp
  have hOw := hOk.weight
  unfold I64 at hOw
  refine Jb I HM ((JT∘JS'∘JQ∘JB∘JB∘JP∘Jp 2∘Jy (h:=by exact Yl.ix gA oA g 2 rfl rfl rfl)∘Jf 0∘Jy (v := vI ((l.getD g Gr.zero).parent)) (h:=by exact Yl.qo rfl rfl kr (fun _ h => (by have := (h.old hr).partAt za (k := g) (j := 0) (x := (l.getD g Gr.zero)) ((getD_at Gr.zero om)) rfl; simpa using this)))∘Jp 2) (Ji (fun hd33 => ?_) fun hd33 => ?_))
  ·
   exact (Jv 9 [(26, .bool true)]∘Jd6∘Jj∘JT∘JP∘Jp 3∘Jj∘JZ∘Jz2) fun HM => qak (qh4 hg23 (qlx om om)) de HM.below
  refine (Jp 2∘Jy (h:=by exact Yl.ix gA oA g 2 rfl rfl rfl)∘Jf 0∘Jy (v := vI ((l.getD g Gr.zero).parent)) (h:=by exact Yl.qo rfl rfl kr (fun _ h => (by have := (h.old hr).partAt za (k := g) (j := 0) (x := (l.getD g Gr.zero)) ((getD_at Gr.zero om)) rfl; simpa using this)))∘Jp 4∘Jd6∘Jj) (Ju (fun hb26 => ?_) fun hb26 => ?_)
  ·
   intro a I HM
   have hd26 := of_decide_eq_true hb26
   exact Jb I HM ((JT∘JP∘Jp 3∘Jj∘JZ∘Jz2) fun HM => qak (qh4 hg23 (qlx om om)) de HM.below)
  intro a I HM
  have hd26 := of_decide_eq_false hb26
  have hpg := qpe hu ⟨by omega, by omega⟩
  refine Jb I HM ((JF∘JP∘Jp 2∘Jy (h:=by exact Yl.ix gA oA g 2 rfl rfl rfl)∘Jf 1∘Jy (v := vI ((l.getD g Gr.zero).weight)) (h:=by exact Yl.qo rfl rfl kr (fun _ h => (h.old hr).partAt za (k := g) (j := 1) (x := (l.getD g Gr.zero)) ((getD_at Gr.zero om)) rfl))∘JL (h:=by exact fun HM => qjk ((l.getD g Gr.zero).weight) _)) ?_)
  rintro HM _ w49 ⟨rfl, hbw⟩
  refine ⟨_, rfl, _, HM.call hbw, ?_⟩
  refine (Jp 2∘Jd6∘Jj) (Ji' (fun hd43 => ?_) fun hd43 => ?_)
  ·
   exact (JT∘JP∘Jp 3∘Jj∘JZ∘Jz2) fun HM => qak (qh4 hg23 (qlx om om)) de HM.below
  refine (JF∘JP∘Jp 2∘JI (h:=by exact fun HM => qpr (some ⟨gA, oA, none⟩) c l g _ (HM.old hr) hn om hpg)) fun w55 hbw => (Jp 2∘Jd4∘Jj) (Ji (fun hd52 => ?_) fun hd52 => ?_)
  ·
   exact (JT∘JP∘Jp 3∘Jj∘JZ∘Jz2) fun HM => qak (qh4 hg23 (qlx om om)) de HM.below
  refine (JF∘JS'∘JR∘Jp 1∘JaK 1∘Jp 1∘Jd2∘Jq) fun a I HM => ?_
  exact ⟨_, om, g + 1, by omega, by omega, hu.succ (qu5 ⟨by omega, by omega, by omega, by omega⟩), rfl, I.sub kr, HM.pk []⟩
 intro a I HM
 have hd23 := of_decide_eq_false hb23
 exact Jb I HM ((JF∘JX∘JG∘JP∘Jp 2∘Jj∘JZ∘Jz2) fun HM => by exact qkv (qsl ⟨by omega, by omega, by simpa using hb9⟩ (fun i hi => hu i om)) HM.below)
theorem qnb (A : Option Addr) (c : Nat) (l : List Gr) (hok : ∀ x ∈ l, x.Ok) (w : World) (hr : Rd w w.heap.size 2 A l.length (l.flatMap grL)) (hn : l.length ≤ 1000000) :
    Calls Tryz.prog 48 #[.slice A l.length c] w (Is w (.bool (gsOk l))) := by
 refine (JN1 Tryz.func48 12) ?_
 refine (JP∘Jp 1∘Jr∘Jp 1∘JL (h:=by exact fun HM => qna A c l hok _ (HM.old hr) hn)) ?_
 rintro HM _ w7 ⟨⟨i, e, rfl, he⟩, hbw⟩
 refine ⟨_, rfl, _, HM.call hbw, ?_⟩
 exact (Jp 1∘Jx∘Jx∘Jp 2∘Jd6∘Jr∘Jp 3∘Jd3∘Jj∘JZ∘Jz1) fun HM => is_as he HM.below
theorem qnc (v r : Nat) (wt : Int) (hv : v < 18446744073709551616) (hr : r < 4294967296) (hw : 0 ≤ wt ∧ wt < 4294967296) (w : World) :
    Calls Tryz.prog 99 #[.agg #[vQ v, vW r, vW wt]] w (Is w (.bool (entOk v r wt))) := by
 obtain ⟨z, rfl⟩ : ∃ z : Nat, wt = (z : Int) := ⟨wt.toNat, by omega⟩
 refine (JN1 Tryz.func99 24) ?_
 refine (JP∘JE) fun w1 g1 => (Jp 1∘Jr∘Jg 2 O0∘Jw .i64∘JL (h:=by exact fun HM => qe5 (z : Int) _)) ?_
 rintro HM _ w6 ⟨rfl, hbw⟩
 refine ⟨_, rfl, _, HM.call hbw, ?_⟩
 refine (Jp 1) (Ji (fun hd7 => ?_) fun hd7 => ?_)
 ·
  refine (Jg 1 O0∘Jg 2 O0∘Jp 3) (Ji (fun hd14 => ?_) fun hd14 => ?_)
  ·
   refine (Jg 0 O0∘Jp 2) (Ji (fun hd18 => ?_) fun hd18 => ?_)
   ·
    exact (Jp 6∘Jd6∘Jj∘JZ∘Jz1) fun HM => qd5 om HM.below
   exact (Jg 1 O0∘Jp 4∘Jd6∘Jj∘JZ∘Jz1) fun HM => qcl om HM.below
  exact (Jv 10 [(2, .bool false)]∘Jd6∘Jj∘JZ∘Jz1) fun HM => is_no om HM.below
 exact (Jv 17 [(2, .bool false)]∘Jd4∘Jj∘JZ∘Jz1) fun HM => is_no om HM.below
theorem q7 (v r : Nat) (wt : Int) (hw : 0 ≤ wt ∧ wt < 4294967296) (w : World) :
    Calls Tryz.prog 90 #[vQ v, vW r, vI wt] w (Is w (.agg #[vQ v, vW r, vW wt])) := by
 obtain ⟨z, rfl⟩ : ∃ z : Nat, wt = (z : Int) := ⟨wt.toNat, by omega⟩
 refine (JN3 Tryz.func90 12) ?_
 refine (JP∘JA #[vQ 0, vW 0, vW 0]) fun w6 g6 => (Jr∘Jp 3∘Jv 1 [(10, vW (IntKind.u32.wrap (z : Int)))]∘Jo (vW z) (by exact qen rfl om)∘Jy (v := .agg #[vQ v, vW r, vW z]) (h:=by exact Yl.build (vs := [(0, vQ v), (1, vW r), (2, vW z)]) rfl kr kr)∘JV qp O0') fun w1_5 => (Jt5∘Jj∘JZ) fun a I HM => ?_
 exact ret1 rfl I (.cellS (i := 0) I HM rfl rfl qp rfl) (⟨rfl, HM.below⟩)
theorem qst (m n : Nat) (hm : m < 18446744073709551616) (hn : 1 ≤ n ∧ n ≤ 64) (w : World) :
    Calls Tryz.prog 81 #[vQ m, vI n] w (Is w (.bool (decide (2 ^ n ≤ m)))) := by
 refine (JN2 Tryz.func81 11) ?_
 exact (JP∘Jp 1∘Jr∘Jp 2∘JsK 1∘Jy (v := vQ (m / 2 ^ (n - 1) : Nat)) (h:=by exact Yl.shrN (m := m) (n := (n - 1)) rfl rfl rfl (by show _ ≤ 64; omega))∘Jp 1∘Jo (vQ ((m / 2 ^ (n - 1)) / 2 : Nat)) (by exact qhv .u64 (m / 2 ^ (n - 1)) (j := 1) (q := 2) rfl rfl)∘Jp 2∘Jd6∘Jj∘JZ∘Jz1) fun HM => is_as (qu6 hn.1) HM.below
theorem qf2 (x : Stm) (hok : x.sta.Ok) (hf : StFew x) (w : World) (hx : StRd w x) :
    Calls Tryz.prog 21 #[.agg #[vI x.cpus, vQ (x.credit : Int), .slice x.gA x.gs.length x.gc]] w (Is w (.bool (cfgOk x.sta))) := by
 have hc := hok.cpus
 have hcr := hok.credit
 replace hc : I64 x.cpus := hc
 replace hcr : x.credit < 18446744073709551616 := hcr
 unfold I64 at hc
 refine (JN1 Tryz.func21 21) ?_
 refine (JP∘JE) fun w1 g1 => (Jp 1∘Jr∘Jg 0 O0∘Jp 2) (Ji (fun hd6 => ?_) fun hd6 => ?_)
 ·
  refine (Jg 0 O0∘Jp 3) (Ji (fun hd11 => ?_) fun hd11 => ?_)
  ·
   refine (Jg 1 O0∘Jp 3) (Ju (fun hb16 => ?_) fun hb16 => ?_)
   ·
    intro a I HM
    have hd16 := of_decide_eq_true hb16
    exact Jb I HM ((Jg 2 O0∘JI (h:=by exact fun HM => qnb x.gA x.gc x.gs hok.gs _ (HM.old hx.g) hf.g)) fun w19 hbw => (Jp 2∘Jd6∘Jj∘JZ∘Jz1) fun HM => is_as (qu7 om).symm HM.below)
   intro a I HM
   have hd16 := of_decide_eq_false hb16
   exact Jb I HM ((Jp 5∘Jd6∘Jj∘JZ∘Jz1) fun HM => is_as (qpf om).symm HM.below)
  exact (Jv 10 [(2, .bool false)]∘Jd6∘Jj∘JZ∘Jz1) fun HM => is_as (qpf om).symm HM.below
 exact (Jv 15 [(2, .bool false)]∘Jd3∘Jj∘JZ∘Jz1) fun HM => is_as (qpf om).symm HM.below
theorem qwr {l : List Tk} {id : Int} {m : Nat} (hs : SortT l) (hm : m < l.length) (h : (l.getD m Tk.zero).id < id) : ∀ k, k < m + 1 → (l.getD k Tk.zero).id < id := fun k hk => by
 rcases Nat.lt_or_ge k m with h1 | h1
 ·have := hs k m h1 hm; omega
 ·obtain rfl : k = m := by omega
  exact h
theorem qvd {l : List Tk} {id : Int} {m : Nat} (hs : SortT l) (hm : m < l.length) (h : id ≤ (l.getD m Tk.zero).id) : ∀ k, m ≤ k → k < l.length → id ≤ (l.getD k Tk.zero).id := fun k hk hl => by
 rcases Nat.lt_or_ge m k with h1 | h1
 ·have := hs m k h1 hl; omega
 ·obtain rfl : k = m := by omega
  exact h
theorem qky {w w' : World} {l : List Tk} {id : Int} {i : Nat} (hi : i = l.length) (h1 : ∀ k, k < i → (l.getD k Tk.zero).id < id) (hb : Below w.heap.size w w') : qfe w l id (.returned (.tuple #[vI i, .bool false])) w' := by
 subst hi
 exact search_end h1 hb
theorem qcn : SI Tryz.prog 94 3 := ⟨by kernel_rfl, by kernel_rfl⟩
theorem nan_i (p : Int) (w : World) : Calls Tryz.prog 130 #[vI p] w (Is w (.bool false)) := by
 refine (JN1 Tryz.func130 6) ?_
 exact (JP∘Jp 1∘Jr∘Jp 3∘Jo (.bool false) (by simp)∘Jp 1∘Jd3∘Jj∘JZ) JY1
theorem cmp_i (p q : Int) (w : World) : Calls Tryz.prog 103 #[vI p, vI q] w (Is w (vI (cmpI p q))) := by
 refine (JN2 Tryz.func103 20) ?_
 refine (JP∘Jp 1∘Jr∘Jp 1∘JL (h:=by exact fun HM => nan_i _ _)) ?_
 rintro HM _ w8 ⟨rfl, hbw⟩
 refine ⟨_, rfl, _, HM.call hbw, ?_⟩
 refine (Jp 1∘Jd2∘Jr∘Jp 1∘JL (h:=by exact fun HM => nan_i _ _)) ?_
 rintro HM _ w10 ⟨rfl, hbw⟩
 refine ⟨_, rfl, _, HM.call hbw, ?_⟩
 refine (Jp 1∘Jd2∘Jj∘JQ∘JP∘Jp 1∘Jj∘JF∘JS'∘JQ∘JP∘Jp 1∘Jj∘JF∘JS'∘JQ∘JP∘Jp 3∘Jd2∘Jj) (Ji (fun hd16 => ?_) fun hd16 => ?_)
 ·
  exact (JT∘JP∘Jp 1∘Jj∘JZ∘Jz1) fun HM => by exact ⟨by rw [show cmpI p q = -1 from if_pos om], HM.below⟩
 refine (JF∘JS'∘JQ∘JP∘Jp 3∘Jd2∘Jj) (Ji (fun hd19 => ?_) fun hd19 => ?_)
 ·
  exact (JT∘JP∘Jp 1∘Jj∘JZ∘Jz1) fun HM => by exact ⟨by rw [show cmpI p q = 1 from (if_neg om).trans (if_pos om)], HM.below⟩
 exact (JF∘JS'∘JP∘Jp 1∘Jj∘JZ∘Jz1) fun HM => by exact ⟨by rw [show cmpI p q = 0 from (if_neg om).trans (if_neg om)], HM.below⟩
theorem nan_u (p : Nat) (w : World) : Calls Tryz.prog 139 #[vQ p] w (Is w (.bool false)) := by
 refine (JN1 Tryz.func139 6) ?_
 exact (JP∘Jp 1∘Jr∘Jp 3∘Jo (.bool false) (by simp)∘Jp 1∘Jd3∘Jj∘JZ) JY1
theorem cmp_u (p q : Nat) (w : World) : Calls Tryz.prog 131 #[vQ p, vQ q] w (Is w (vI (cmpI (p : Int) (q : Int)))) := by
 refine (JN2 Tryz.func131 20) ?_
 refine (JP∘Jp 1∘Jr∘Jp 1∘JL (h:=by exact fun HM => nan_u _ _)) ?_
 rintro HM _ w8 ⟨rfl, hbw⟩
 refine ⟨_, rfl, _, HM.call hbw, ?_⟩
 refine (Jp 1∘Jd2∘Jr∘Jp 1∘JL (h:=by exact fun HM => nan_u _ _)) ?_
 rintro HM _ w10 ⟨rfl, hbw⟩
 refine ⟨_, rfl, _, HM.call hbw, ?_⟩
 refine (Jp 1∘Jd2∘Jj∘JQ∘JP∘Jp 1∘Jj∘JF∘JS'∘JQ∘JP∘Jp 1∘Jj∘JF∘JS'∘JQ∘JP∘Jp 3∘Jd2∘Jj) (Ji (fun hd16 => ?_) fun hd16 => ?_)
 ·
  exact (JT∘JP∘Jp 1∘Jj∘JZ∘Jz1) fun HM => by exact ⟨by rw [show cmpI (p : Int) (q : Int) = -1 from if_pos om], HM.below⟩
 refine (JF∘JS'∘JQ∘JP∘Jp 3∘Jd2∘Jj) (Ji (fun hd19 => ?_) fun hd19 => ?_)
 ·
  exact (JT∘JP∘Jp 1∘Jj∘JZ∘Jz1) fun HM => by exact ⟨by rw [show cmpI (p : Int) (q : Int) = 1 from (if_neg om).trans (if_pos om)], HM.below⟩
 exact (JF∘JS'∘JP∘Jp 1∘Jj∘JZ∘Jz1) fun HM => by exact ⟨by rw [show cmpI (p : Int) (q : Int) = 0 from (if_neg om).trans (if_neg om)], HM.below⟩
theorem qjl (t : Tk) (id : Int) (w : World) : Calls Tryz.prog 102 #[.agg t.cells, vI id] w (Is w (vI (cmpI t.id id))) := by
 refine (JN2 Tryz.func102 9) ?_
 refine (JP∘JE) fun w2 g2 => (Jp 1∘Jr∘Jg 0 O0∘Jp 1∘JL (h:=by exact fun HM => cmp_i t.id id _)) ?_
 rintro HM _ w8 ⟨rfl, hbw⟩
 refine ⟨_, rfl, _, HM.call hbw, ?_⟩
 exact (Jp 1∘Jd3∘Jj∘JZ) JY1
theorem qnd (A : Option Addr) (c : Nat) (l : List Tk) (id : Int) (hs : SortT l) (w : World) (hr : Rd w w.heap.size 8 A l.length (l.flatMap tkL)) (hn : l.length ≤ 1000000) :
    Calls Tryz.prog 101 #[.slice A l.length c, vI id, .func (.func 102) #[] #[]] w (qfe w l id) := by
 refine (JN3 Tryz.func101 49) ?_
 refine (JP∘Jp 2∘Jr∘Jp 1∘Jl∘Jp 1∘Jd2∘Jr∘Jp 3∘Jj∘JQ∘JB) fun a I HM => ?_
 refine qi (fun mS aS wS => ∃ (i : Nat) (j : Nat), (i ≤ j) ∧ (j ≤ l.length) ∧ (∀ k, k < i → (l.getD k Tk.zero).id < id) ∧ (∀ k, j ≤ k → k < l.length → id ≤ (l.getD k Tk.zero).id) ∧ mS = j - i ∧ Fr aS 49 [] [(10, vI j), (9, vI i), (8, vI l.length), (7, .bool false), (6, vI 0), (0, .slice A l.length c), (1, vI id), (2, .func (.func 102) #[] #[])] ∧ Mem w wS []) (m := l.length - 0) ⟨0, l.length, Nat.zero_le _, Nat.le_refl _, fun k h => by omega, fun k h1 h2 => by omega, rfl, I.sub kr, HM.pk []⟩ ?_
 clear I HM; rintro mS a w_ ⟨i, j, hij, hj, h1, h2, rfl, I, HM⟩
 refine Jb I HM ((JQ∘JP∘Jp 3∘Jd2∘Jj) (Ju (fun hb17 => ?_) fun hb17 => ?_))
 ·
  intro a I HM
  have hd17 := of_decide_eq_true hb17
  have hmid : i ≤ ((i + j) / 2) ∧ ((i + j) / 2) < j := by omega
  refine Jb I HM ((JT∘JS'∘JB∘JP∘Jp 2∘Ja∘Jw .u64∘Jp 1∘Jo (vQ ((i + j) / 2 : Nat)) (by exact qhv .u64 (i + j) (j := 1) (q := 2) rfl rfl)∘Jw .i64∘Jp 1∘Jd6∘Jr∘Jp 3) ?_)
  repeat (first | clear I | clear HM)
  intro a I HM
  obtain ⟨gA, oA, rfl, _⟩ := hr.qt (Nat.lt_of_le_of_lt (Nat.zero_le _) (show (i + j) / 2 < l.length from by omega)) de
  refine Jb I HM ((Jy (h:=by exact Yl.ix gA oA ((i + j) / 2) 8 rfl rfl rfl)∘Jy (v := .agg ((l.getD ((i + j) / 2) Tk.zero).cells)) (h:=by exact Yl.loadS rfl rfl si_tk rfl (fun _ h => (h.old hr).q4 qd ((getD_at Tk.zero om))))∘Jp 1) fun a I HM => ?_)
  refine fo I 6 rfl rfl ?_
  refine qci I (f := 102) (vs := [.agg ((l.getD ((i + j) / 2) Tk.zero).cells), vI id]) (fst := []) (caps := []) rfl rfl rfl kr rfl de (qjl (l.getD ((i + j) / 2) Tk.zero) id _) ?_
  rintro _ w30 ⟨rfl, hbw⟩
  refine ⟨_, rfl, ?_⟩
  replace HM := HM.call hbw
  clear I; intro a I
  refine Jb I HM ((Jp 1∘Jo (.bool (decide ((l.getD ((i + j) / 2) Tk.zero).id < id))) (by exact congrArg Value.bool qph)∘Jd6∘Jj) (Ju (fun hb31 => ?_) fun hb31 => ?_))
  ·
   intro a I HM
   have hd31 := of_decide_eq_true hb31
   have hlt : (l.getD ((i + j) / 2) Tk.zero).id < id := by simpa using hb31
   refine Jb I HM ((JT∘JR∘Jp 1∘JaK 1∘Jp 1∘Jd2∘Jq) fun a I HM => ?_)
   exact ⟨_, om, (((i + j) / 2) + 1), j, by omega, hj, qwr hs om hlt, h2, rfl, I.sub kr, HM.pk []⟩
  intro a I HM
  have hd31 := of_decide_eq_false hb31
  have hge : ¬ (l.getD ((i + j) / 2) Tk.zero).id < id := by simpa using hb31
  refine Jb I HM ((JF∘JR∘Jp 2∘Jd1∘Jq) fun a I HM => ?_)
  exact ⟨_, om, i, ((i + j) / 2), by omega, by omega, h1, qvd hs om om, rfl, I.sub kr, HM.pk []⟩
 intro a I HM
 have hd17 := of_decide_eq_false hb17
 revert HM; revert a; repeat (first | clear I | clear HM)
 intro a I HM
 obtain rfl : i = j := by omega
 refine Jb I HM ((JF∘JX∘JG∘JP∘Jp 5) (Ji (fun hd39 => ?_) fun hd39 => ?_))
 ·
  refine (Jp 3) ?_
  repeat (first | clear I | clear HM)
  intro a I HM
  obtain ⟨gA, oA, rfl, _⟩ := hr.qt (Nat.lt_of_le_of_lt (Nat.zero_le _) (show i < l.length from by omega)) de
  refine Jb I HM ((Jy (h:=by exact Yl.ix gA oA i 8 rfl rfl rfl)∘Jy (v := .agg ((l.getD i Tk.zero).cells)) (h:=by exact Yl.loadS rfl rfl si_tk rfl (fun _ h => (h.old hr).q4 qd ((getD_at Tk.zero om))))∘Jp 1) fun a I HM => ?_)
  refine fo I 11 rfl rfl ?_
  refine qci I (f := 102) (vs := [.agg ((l.getD i Tk.zero).cells), vI id]) (fst := []) (caps := []) rfl rfl rfl kr rfl de (qjl (l.getD i Tk.zero) id _) ?_
  rintro _ w46 ⟨rfl, hbw⟩
  refine ⟨_, rfl, ?_⟩
  replace HM := HM.call hbw
  clear I; intro a I
  exact Jb I HM ((Jp 1∘Jo (.bool (decide ((l.getD i Tk.zero).id = id))) (by exact congrArg Value.bool qpi)∘Jp 3∘Jj∘JZ∘Jz2) fun HM => qpk hs om h1 h2 HM.below)
 exact (Jv 11 [(7, .bool false), (6, vI i)]∘Jj∘JZ∘Jz2) fun HM => qky om h1 HM.below
theorem qps (x : Stm) (gm : Nat) (id : Int) (hs : SortT x.ts) (w : World) (hm : w.heap[gm]? = some (.cells #[vI x.cpus, vQ x.credit, .slice x.gA x.gs.length x.gc, .slice x.lA x.cl.length x.lc, .slice x.uA x.cu.length x.uc, .slice x.tA x.ts.length x.tc, .slice x.sA x.rs.length x.sc, .bool true] 56 (0, 0))) (ht : Rd w w.heap.size 8 x.tA x.ts.length (x.ts.flatMap tkL)) (hn : x.ts.length ≤ 1000000) :
    Calls Tryz.prog 50 #[vP gm 0, vI id] w (Is w (vI (fidx x.ts id))) := by
 refine (JN2 Tryz.func50 20) ?_
 refine (JP∘Jp 1∘Jr∘Jp 1∘Jn∘Jf 0∘Jf 5∘Jy (v := .slice x.tA x.ts.length x.tc) (h:=by exact Yl.qo rfl rfl kr (fun _ h => h.qay hm rfl))∘Jp 1∘JL (h:=by exact fun HM => qnd x.tA x.tc x.ts id hs _ (HM.old ht) hn)) ?_
 rintro HM _ w14 ⟨⟨i, b, rfl, hil, hib⟩, hbw⟩
 refine ⟨_, rfl, _, HM.call hbw, ?_⟩
 refine (Jp 1∘Jx∘Jx∘Jp 2∘Jj∘JQ∘JP∘Jp 2∘Jd2∘Jj) (Ju (fun hb18 => ?_) fun hb18 => ?_)
 ·
  exact (JT∘JP∘Jp 1∘Jj∘JZ∘Jz1) fun HM => by exact ⟨by rw [← hib, if_neg (by simpa using hb18)], HM.below⟩
 exact (JF∘JS'∘JP∘Jp 2∘Jd1∘Jj∘JZ∘Jz1) fun HM => by exact ⟨by rw [← hib, if_pos (by simpa using hb18)], HM.below⟩
def qkz (x : Stm) (gm c g : Nat) : Prop := ∀ w : World, StRd w x → w.heap[gm]? = some (.cells #[vI x.cpus, vQ x.credit, .slice x.gA x.gs.length x.gc, .slice x.lA x.cl.length x.lc, .slice x.uA x.cu.length x.uc, .slice x.tA x.ts.length x.tc, .slice x.sA x.rs.length x.sc, .bool true] 56 (0, 0)) → Calls Tryz.prog 51 #[vP gm 0, vI g, vI c] w (Is w (.tuple #[.agg (bestM topM (memS x.sta g c)).cells, .bool (!(memS x.sta g c).isEmpty)]))
theorem tk_id {x : Stm} {i : Nat} (h : tkAt x.sta i = true) : 1 ≤ (x.ts.getD i Tk.zero).id ∧ (x.ts.getD i Tk.zero).id ≤ 65535 := by
 have h1 := (qh5 h).2
 unfold tkOk1 at h1
 rw [Bool.and_eq_true, decide_eq_true_eq] at h1
 exact ⟨h1.1.1, h1.1.2.1⟩
theorem qg6 {p : Nat → Prop} {k : Nat} (h : ∀ i, i < k → p i) (hk : p k) : ∀ i, i < k + 1 → p i := fun i hi => by
 rcases Nat.lt_or_ge i k with h1 | h1
 ·exact h i h1
 ·obtain rfl : i = k := by omega
  exact hk
theorem qjm (m n : Mb) (A A2 : Option Addr) (c c2 : Nat) (w : World) (hr : Rd w w.heap.size 1 A 3 (m.nums.map U64)) (hr2 : Rd w w.heap.size 1 A2 3 (n.nums.map U64)) :
    Calls Tryz.prog 105 #[.slice A 3 c, .slice A2 3 c2] w (MbCmp w m n) := by
 refine (JN2 Tryz.func105 36) ?_
 refine (JP∘Jp 1∘Jj∘JQ∘JP∘Jp 1∘Jl∘Jp 1∘Jj∘JB) fun a I HM => ?_
 refine qi (fun mS aS wS => ∃ (k : Nat), (k ≤ 3) ∧ (∀ i, i < k → m.nums.getD i 0 = n.nums.getD i 0) ∧ mS = 3 - k ∧ Fr aS 36 [] [(11, vI k), (10, vI 3), (9, .slice A 3 c), (4, vI 0), (0, .slice A 3 c), (1, .slice A2 3 c2)] ∧ Mem w wS []) (m := 3 - 0) ⟨0, by decide, fun i h => by omega, rfl, I.sub kr, HM.pk []⟩ ?_
 clear I HM; rintro mS a w_ ⟨k, hk, he, rfl, I, HM⟩
 refine Jb I HM ((JP∘Jp 1∘Jj∘JQ) (Ju (fun hb12 => ?_) fun hb12 => ?_))
 ·
  intro a I HM
  have hd12 := of_decide_eq_true hb12
  have hk12 : k < 3 := by omega
  refine Jb I HM ((JT∘JS'∘JQ∘JB∘JP∘Jp 1) ?_)
  repeat (first | clear I | clear HM)
  intro a I HM
  obtain ⟨gA, oA, rfl, _⟩ := hr.qt (Nat.lt_of_le_of_lt (Nat.zero_le _) (show k < 3 from by omega)) de
  refine Jb I HM ((Jy (h:=by exact Yl.ix gA oA k 1 rfl rfl rfl)∘Jy (h:=by exact Yl.o1 hr k 0 (show k < 3 by omega) rfl rfl)∘Jp 2∘Jj∘JQ∘JP∘Jp 2∘Jl∘Jp 1∘Jo (.bool false) (by exact congrArg Value.bool (decide_eq_false om))∘Jd3∘Jj∘JF∘JS'∘JP∘Jp 2) ?_)
  repeat (first | clear I | clear HM)
  intro a I HM
  obtain ⟨gA2, oA2, rfl, _⟩ := hr2.qt (Nat.lt_of_le_of_lt (Nat.zero_le _) (show k < 3 from by omega)) de
  refine Jb I HM ((Jy (h:=by exact Yl.ix gA2 oA2 k 1 rfl rfl rfl)∘Jy (h:=by exact Yl.o1 hr2 k 0 (show k < 3 by omega) rfl rfl)∘Jp 1∘Jd4∘Jr∘Jp 2∘JL (h:=by exact fun HM => cmp_u (m.nums.getD k 0) (n.nums.getD k 0) _)) ?_)
  rintro HM _ w26 ⟨rfl, hbw⟩
  refine ⟨_, rfl, _, HM.call hbw, ?_⟩
  refine (Jp 1∘Jd3∘Jr∘Jp 2∘Jo (.bool (decide (((m.nums.getD k 0) : Int) ≠ ((n.nums.getD k 0) : Int)))) (by exact congrArg Value.bool qu9)∘Jd1∘Jj) (Ji (fun hd28 => ?_) fun hd28 => ?_)
  ·
   exact (JT∘JP∘Jp 2∘Jd1∘Jj∘JZ∘Jz1) fun HM => qsp hk12 he om HM.below
  refine (JF∘JS'∘JR∘JaK 1∘Jp 1∘Jd1∘Jq) fun a I HM => ?_
  exact ⟨_, om, k + 1, by omega, qg6 he om, rfl, I.sub kr, HM.pk []⟩
 intro a I HM
 have hd12 := of_decide_eq_false hb12
 exact Jb I HM ((JF∘JX∘JG∘JQ∘JP∘Jp 1∘Jl∘Jp 1∘Jl∘Jv 1 [(35, .bool false)]∘Jd4∘Jj∘JF∘JS'∘JP∘Jp 1∘Jj∘JZ∘Jz1) fun HM => qsq (fun i hi => he i om) HM.below)
theorem qws (m : Mb) (w : World) : Calls Tryz.prog 52 #[.agg m.cells] w (Is w (vQ (m.v : Int))) := by
 refine (JN1 Tryz.func52 5) ?_
 exact (JP∘JE) fun w1 g1 => (Jp 1∘Jr∘Jy (v := vP g1 0) (h:=by exact Yl.qam (ad := ⟨g1, 0, none⟩) (m := 3) (y := 0) (sz := 1) rfl rfl rfl kr de)∘Jc O0∘Jp 1∘Jd2∘Jj∘JZ) JY1
theorem qve (W w : World) (gs gb : Nat) (sm : Bool) (m n : Mb) (fs : List Fact) (HM : Mem W w (.blk gs #[.bool sm] 4 :: .blk gb n.cells 94 :: fs)) :
    Calls Tryz.prog 104 ([.agg m.cells, vP gs 0, vP gb 0] : List Value).toArray w fun r w' => r = .returned (.tuple #[]) ∧ Mem W w' (.blk gs #[.bool true] 4 :: .blk gb (if m.lt n then m else n).cells 94 :: fs) := by
 refine s_ce Tryz.func104 [.agg m.cells, vP gs 0, vP gb 0] [(0, .agg m.cells), (1, vP gs 0), (2, vP gb 0)] fun a I => ?_
 refine Jb I HM ((JP∘JE) fun w3 g3 => (Jd1∘Jr∘JW O1' O0') fun w1_0 => (Jd1∘Jj) fun a I HM => ?_)
 refine wp_seq ?_
 refine Jb I HM ((Vs .n []) fun wd2 => (Vy 0 (v := vS g3 3 3) (h:=by exact Yl.qm4 (n := 3) (sz := 1) rfl rfl kr)∘Vy 1 (v := vS gb 3 3) (h:=by exact Yl.qm4 (n := 3) (sz := 1) rfl rfl kr)) fun a I HM HS => ?_)
 refine s_on I 2 rfl ?_
 refine e_cl I [vS g3 3 3, vS gb 3 3] rfl rfl (qjm m n (some ⟨g3, 0, none⟩) (some ⟨gb, 0, none⟩) 3 3 _ (HM.rdBlk (i := 0) (n := 3) (size := 1) rfl rfl) (HM.rdBlk (i := 2) (n := 3) (size := 1) rfl rfl)) ?_
 rintro _ w6 ⟨⟨cc, rfl, hcc⟩, hbw⟩
 refine ⟨_, rfl, ?_⟩
 replace HM := HM.call hbw
 clear I; intro a I
 refine keepS (HM.pt 3 [0, 1, 2]) (fun HS => ?_)
 refine Vb I HM HS ((Vq [3] [(7, .bool (decide ((cc : Int) < (0 : Int))))]∘Vo (.bool (m.lt n)) (by exact congrArg Value.bool hcc)∘Vd∘Jd3) (Ju (fun hb7 => ?_) fun hb7 => ?_))
 ·
  refine (JT∘JR∘Jy (v := .agg m.cells) (h:=by exact Yl.loadS rfl rfl qcn rfl (fun _ h => qa (h.blk (i := 0) rfl)))∘JV qcn O2' (h1:=by exact qg3 m)) fun w3_1 => (Jt1∘Jq) fun a I HM => ?_
  refine norm0 rfl I ⟨rfl, ?_⟩
  rw [if_pos hb7]
  exact HM.pt 3 [1, 2]
 refine (JF∘JS) fun a I HM => ?_
 refine norm0 rfl I ⟨rfl, ?_⟩
 rw [if_neg (by rw [hb7]; decide)]
 exact HM.pt 3 [1, 2]
theorem quk (W w : World) (gs gb : Nat) (sm : Bool) (m : Mb) (q : List Mb) (fs : List Fact) (HM : Mem W w (.blk gs #[.bool sm] 4 :: .blk gb (bestM topM q).cells 94 :: fs)) :
  Calls Tryz.prog 104 ([.agg m.cells, vP gs 0, vP gb 0] : List Value).toArray w fun r w' => r = .returned (.tuple #[]) ∧ Mem W w' (.blk gs #[.bool (!(q ++ [m]).isEmpty)] 4 :: .blk gb (bestM topM (q ++ [m])).cells 94 :: fs) := by
 have h1 := qve W w gs gb sm m _ fs HM
 rw [← qg4] at h1
 rw [show (!(q ++ [m]).isEmpty) = true from by simp]
 exact h1
theorem qne (x : Stm) (hok : x.sta.Ok) (hf : StFew x) (hsh : ShAt x) (gm c : Nat) (hc : (c : Int) < x.cpus) (g : Nat) (hg : g < x.rs.length) (ih : ∀ h, g < h → h < x.rs.length → qkz x gm c h) : qkz x gm c g := by
 intro w hx hm
 have hfs := hf.s; have hft := hf.t; have hfg := hf.g; have hrl := hsh.rs; have hto := hok.ts
 obtain ⟨hc1, hc2, _, _⟩ := zf hsh.cfg
 refine (JN3 Tryz.func51 102) ?_
 refine (JP∘JA #[vQ 0, vQ 0, vQ 0]) fun w6 g6 => (Jp 1∘Jr∘Jy (v := .agg #[vQ 18446744073709551615, vQ 18446744073709551615, vQ 18446744073709551615]) (h:=by exact Yl.qkj (n := 3) (sz := 1) (vs := [(0, vQ 18446744073709551615), (1, vQ 18446744073709551615), (2, vQ 18446744073709551615)]) rfl rfl kr kr)∘JA #[vQ 0, vQ 0, vQ 0]) fun w8 g8 => (JA #[.bool false]) fun w9 g9 => (JV qcn O1') fun w1_3 => (JW O0' O0') fun w1_4 => (Jr∘Jy (h:=by exact Yl.makeFunc (fst := []) (caps := [vP g9 0, vP g8 0]) rfl rfl rfl)∘Jp 1∘Jd1∘Jq) fun a I HM => ?_
 replace HM := HM.asBlk (i := 1) (ds := (bestM topM []).cells) rfl rfl
 refine Jb I HM ((JG∘JQ∘JP∘Jp 1∘Jn∘Jf 0∘Jf 5∘Jy (v := .slice x.tA x.ts.length x.tc) (h:=by exact Yl.qo rfl rfl kr (fun _ h => h.qay hm rfl))∘Jl∘Jp 1∘Jj∘JB) fun a I HM => ?_)
 refine qi (fun mS aS wS => ∃ (i : Nat) (q : List Mb), (i ≤ x.ts.length) ∧ (q = (x.ts.take i).filterMap (tkM · g c)) ∧ mS = x.ts.length - i ∧ Fr aS 102 [] [(24, vI i), (23, vI x.ts.length), (22, .slice x.tA x.ts.length x.tc), (10, .func (.func 104) #[] #[vP g9 0, vP g8 0]), (9, vP g9 0), (8, vP g8 0), (7, .bool false), (6, vP g6 0), (0, vP gm 0), (1, vI g), (2, vI c)] ∧ Mem w wS [.blk g9 #[.bool (!q.isEmpty)] 4, .blk g8 ((bestM topM q).cells) 94, .blk g6 #[vQ 0, vQ 0, vQ 0] 94]) (m := x.ts.length - 0) ⟨0, [], Nat.zero_le _, rfl, rfl, I.sub kr, HM.pk [0, 1, 2]⟩ ?_
 clear I HM; rintro mS a w_ ⟨i, q, hi, hq, rfl, I, HM⟩
 refine Jb I HM ((JP∘Jp 1∘Jj∘JQ) (Ju (fun hb25 => ?_) fun hb25 => ?_))
 ·
  intro a I HM
  have hd25 := of_decide_eq_true hb25
  have hi25 : i < x.ts.length := by omega
  obtain ⟨t, ht⟩ : ∃ z, (x.ts.getD i Tk.zero) = z := ⟨_, rfl⟩
  have htid := tk_id (hsh.tk i hi25)
  rw [ht] at htid
  refine Jb I HM ((JT∘JS'∘JQ∘JB∘JP) fun a I HM => ?_)
  obtain ⟨gq1, oq1, hq1, _⟩ := Rd.qt hx.t (Nat.lt_of_le_of_lt (Nat.zero_le _) (show i < x.ts.length from by omega)) de
  have hrq1 := hx.t; rw [hq1] at hrq1
  replace I := I.sp 22 (.slice (some ⟨gq1, oq1, none⟩) x.ts.length x.tc) rfl (by rw [hq1]; try rfl)
  refine Jb I HM ((Jy (h:=by exact Yl.ix gq1 oq1 i 8 rfl rfl rfl)∘Jy (v := .agg ((x.ts.getD i Tk.zero).cells)) (h:=by exact Yl.loadS rfl rfl si_tk rfl (fun _ h => (h.old hrq1).q4 qd ((getD_at Tk.zero hi25))))∘Jo (.agg t.cells) (by rw [ht])∘JA #[vI 0, vI 0, vI 0, vI 0, vQ 0, .bool false, vQ 0, vW 0]) fun w12 g12 => (JV si_tk O0' (h1:=by exact qbi t)) fun w5_3 => (Jd2∘Jj) fun a I HM => ?_)
  refine qy (fun aS wS => Fr aS 102 [] [(41, .bool (t.here g c)), (12, vP g12 0), (22, .slice (some ⟨gq1, oq1, none⟩) x.ts.length x.tc), (25, .bool true), (24, vI i), (23, vI x.ts.length), (10, .func (.func 104) #[] #[vP g9 0, vP g8 0]), (9, vP g9 0), (8, vP g8 0), (7, .bool false), (6, vP g6 0), (0, vP gm 0), (1, vI g), (2, vI c)] ∧ Mem w wS [.blk g12 t.cells 81, .blk g9 #[.bool (!q.isEmpty)] 4, .blk g8 ((bestM topM q).cells) 94, .blk g6 #[vQ 0, vQ 0, vQ 0] 94]) ?_ ?_
  ·
   refine qaj ?_
   refine Jb I HM ((Jg 5 O0∘Jp 1) (Ju (fun hb30 => ?_) fun hb30 => ?_))
   ·
    refine (Jg 1 O0∘Jp 4) (Je (fun hd36 => ?_) fun hd36 => ?_)
    ·
     refine (Jg 3 O0∘Jp 3∘Jd6∘Jq) fun a I HM => ?_
     have I := I.sp 41 (.bool (t.here g c)) rfl (congrArg Value.bool (by unfold Tk.here; rw [hb30, decide_eq_true om, Bool.true_and, Bool.true_and, Bool.eq_iff_iff, beq_iff_eq, decide_eq_true_eq]))
     exact ⟨I.sub kr, HM.pk [0, 1, 2, 3]⟩
    refine (Jp 5∘Jd6∘Jq) fun a I HM => ?_
    have I := I.sp 41 (.bool (t.here g c)) rfl (congrArg Value.bool (by unfold Tk.here; rw [hb30, decide_eq_false om]; rfl))
    exact ⟨I.sub kr, HM.pk [0, 1, 2, 3]⟩
   refine (Jv 11 [(41, .bool false)]∘Jd2∘Jq) fun a I HM => ?_
   have I := I.sp 41 (.bool (t.here g c)) rfl (congrArg Value.bool (by unfold Tk.here; rw [hb30]; rfl))
   exact ⟨I.sub kr, HM.pk [0, 1, 2, 3]⟩
  clear I HM; rintro a w6 ⟨I, HM⟩
  refine Jb I HM (Ju (fun hb41 => ?_) fun hb41 => ?_)
  ·
   intro a I HM
   have hq2 : q ++ [(⟨t.v, 0, t.id.toNat⟩ : Mb)] = (x.ts.take (i + 1)).filterMap (tkM · g c) := by rw [qab Tk.zero hi25, ← hq, ht, tkM, if_pos hb41]; rfl
   refine Jb I HM ((JT∘JR∘Jp 1∘Jg 6 O0∘Jg 0 O0∘Jv 1 [(47, vQ (IntKind.u64.wrap t.id))]∘Jo (vQ t.id.toNat) (by exact qem om om)∘Jy (v := .agg #[vQ t.v, vQ 0, vQ t.id.toNat]) (h:=by exact Yl.qkj (n := 3) (sz := 1) (vs := [(0, vQ t.v), (1, vQ 0), (2, vQ t.id.toNat)]) rfl rfl kr kr)) fun a I HM => ?_)
   refine fo I 7 rfl rfl ?_
   refine qci I (f := 104) (vs := [.agg #[vQ t.v, vQ 0, vQ t.id.toNat]]) (fst := []) (caps := [vP g9 0, vP g8 0]) rfl rfl rfl kr rfl de (quk w _ g9 g8 _ (⟨t.v, 0, t.id.toNat⟩ : Mb) q _ (HM.pk [1, 2, 0, 3])) ?_
   rintro _ w49 ⟨rfl, HM2⟩
   refine ⟨_, rfl, ?_⟩
   replace HM := HM2
   clear I; intro a I
   refine Jb I HM ((Jt6∘Jj∘JR∘JaK 1∘Jp 1∘Jd1∘Jq) fun a I HM => ?_)
   replace I := I.sp 22 (.slice x.tA x.ts.length x.tc) rfl (by rw [hq1])
   exact ⟨_, om, i + 1, (q ++ [(⟨t.v, 0, t.id.toNat⟩ : Mb)]), by omega, hq2, rfl, I.sub kr, HM.pk [0, 1, 3]⟩
  intro a I HM
  have hq2 : q = (x.ts.take (i + 1)).filterMap (tkM · g c) := by rw [qab Tk.zero hi25, ← hq, ht, tkM, if_neg (by rw [hb41]; decide)]; simp
  refine Jb I HM ((JF∘JS'∘JR∘JaK 1∘Jp 1∘Jd1∘Jq) fun a I HM => ?_)
  replace I := I.sp 22 (.slice x.tA x.ts.length x.tc) rfl (by rw [hq1])
  exact ⟨_, om, i + 1, q, by omega, hq2, rfl, I.sub kr, HM.pk [1, 2, 3]⟩
 intro a I HM
 have hd25 := of_decide_eq_false hb25
 rw [List.take_of_length_le (by omega : x.ts.length ≤ i)] at hq
 refine Jb I HM ((JF∘JX∘JG∘JQ∘JP∘Jp 1∘JaK 1∘Jp 1∘Jd2∘Jj∘JB) fun a I HM => ?_)
 refine qi (fun mS aS wS => ∃ (u : Nat) (q : List Mb), (g + 1 ≤ u) ∧ (u ≤ x.rs.length) ∧ (q = x.ts.filterMap (tkM · g c) ++ ((((List.range x.rs.length).drop (g + 1)).take (u - (g + 1))).filterMap (grpM x.sta c (fun u => memS x.sta u c) g))) ∧ mS = x.rs.length - u ∧ Fr aS 102 [] [(13, vI u), (25, .bool false), (24, vI i), (23, vI x.ts.length), (22, .slice x.tA x.ts.length x.tc), (10, .func (.func 104) #[] #[vP g9 0, vP g8 0]), (9, vP g9 0), (8, vP g8 0), (7, .bool false), (6, vP g6 0), (0, vP gm 0), (1, vI g), (2, vI c)] ∧ Mem w wS [.blk g9 #[.bool (!q.isEmpty)] 4, .blk g8 ((bestM topM q).cells) 94, .blk g6 #[vQ 0, vQ 0, vQ 0] 94]) (m := x.rs.length - (g + 1)) ⟨g + 1, q, Nat.le_refl _, by omega, by rw [hq]; simp, rfl, I.sub kr, HM.pk [0, 1, 2]⟩ ?_
 clear I HM; rintro mS a w_ ⟨u, q, hgh, hh, hq, rfl, I, HM⟩
 refine Jb I HM ((JQ∘JP∘Jp 2∘Jn∘Jf 0∘Jf 6∘Jy (v := .slice x.sA x.rs.length x.sc) (h:=by exact Yl.qo rfl rfl kr (fun _ h => h.qay hm rfl))∘Jl∘Jp 1∘Jd6∘Jj) (Ju (fun hb60 => ?_) fun hb60 => ?_))
 ·
  intro a I HM
  have hd60 := of_decide_eq_true hb60
  have hh60 : u < x.rs.length := by omega
  have hgst := qh6 (f := grpM x.sta c (fun u => memS x.sta u c) g) hgh hh60
  refine Jb I HM ((JT∘JS'∘JQ∘JB∘JQ∘JP∘Jp 1∘Jn∘Jf 0∘Jf 0∘Jf 2∘Jy (v := .slice x.gA x.gs.length x.gc) (h:=by exact Yl.qo rfl rfl kr (fun _ h => h.qay hm rfl))∘Jp 1) fun a I HM => ?_)
  obtain ⟨gq2, oq2, hq2, _⟩ := Rd.qt hx.g (Nat.lt_of_le_of_lt (Nat.zero_le _) (show u < x.gs.length from by omega)) de
  have hrq2 := hx.g; rw [hq2] at hrq2
  replace I := I.sp 68 (.slice (some ⟨gq2, oq2, none⟩) x.gs.length x.gc) rfl (by rw [hq2]; try rfl)
  refine Jb I HM ((Jy (h:=by exact Yl.ix gq2 oq2 u 2 rfl rfl rfl)∘Jf 0∘Jy (v := vI ((x.gs.getD u Gr.zero).parent)) (h:=by exact Yl.qo rfl rfl kr (fun _ h => (by have := (h.old hrq2).partAt za (k := u) (j := 0) (x := (x.gs.getD u Gr.zero)) ((getD_at Gr.zero om)) rfl; simpa using this)))∘Jp 2∘Jd4∘Jj) (Ju (fun hb74 => ?_) fun hb74 => ?_))
  ·
   intro a I HM
   have hd74 := bne_iff_ne.1 hb74
   rw [qjh om] at hgst
   refine Jb I HM ((JT∘JX∘JG∘JR∘Jp 1∘JaK 1∘Jp 1∘Jd2∘Jq) fun a I HM => ?_)
   exact ⟨_, om, u + 1, q, by omega, by omega, by rw [hgst, hq]; simp, rfl, I.sub kr, HM.pk [0, 1, 2]⟩
  intro a I HM
  have hd74 := bne_eq_false_iff_eq.1 hb74
  refine Jb I HM ((JF∘JS'∘JP∘Jp 3∘JL (h:=by exact fun HM => ih u om om _ (hx.old HM) (HM.oldBlk hm))) ?_)
  rintro HM _ w79 ⟨rfl, hbw⟩
  refine ⟨_, rfl, _, HM.call hbw, ?_⟩
  refine (Jp 1∘Jx∘Jx∘JA #[vQ 0, vQ 0, vQ 0]) fun w14 g14 => (JV qcn O0' (h1:=by exact qg3 (bestM topM (memS x.sta u c)))) fun w13_8 => (Jp 1∘Jd6∘Jr∘Jp 1∘Jj) (Ju (fun hb82 => ?_) fun hb82 => ?_)
  ·
   intro a I HM
   obtain ⟨y, hy⟩ : ∃ z, x.rs.getD u Rw.zero = z := ⟨_, rfl⟩
   have hyr : Rd w w.heap.size 3 y.A y.l.length (y.l.flatMap spL) := by rw [← hy]; exact hx.row hh60
   have hyl : (y.l.length : Int) = x.cpus := by rw [← hy]; exact (qg2 hh60 (hsh.row u hh60)).1
   have hyo : ∀ z ∈ y.l, z.Ok := by rw [← hy, ← rs_at hh60]; exact hok.sp _ (qm [] (by rw [zl]; exact hh60))
   have hzv := (hyo _ (qm Sp.zero (show c < y.l.length by omega))).v
   rw [ql1 hh60 om (by simpa using hb82), hy] at hgst
   refine Jb I HM ((JT∘JR∘Jp 2∘Jn∘Jf 0∘Jf 6∘Jy (v := .slice x.sA x.rs.length x.sc) (h:=by exact Yl.qo rfl rfl kr (fun _ h => h.qay hm rfl))∘Jp 1) fun a I HM => ?_)
   obtain ⟨gq3, oq3, hq3, _⟩ := Rd.qt hx.s (Nat.lt_of_le_of_lt (Nat.zero_le _) (show u < x.rs.length from by omega)) de
   have hrq3 := hx.s; rw [hq3] at hrq3
   replace I := I.sp 88 (.slice (some ⟨gq3, oq3, none⟩) x.rs.length x.sc) rfl (by rw [hq3]; try rfl)
   refine Jb I HM ((Jy (h:=by exact Yl.ix gq3 oq3 u 1 rfl rfl rfl)∘Jy (v := .slice ((x.rs.getD u Rw.zero).A) ((x.rs.getD u Rw.zero).l.length) ((x.rs.getD u Rw.zero).c)) (h:=by exact Yl.o1 hrq3 u Rw.zero om rfl rfl)∘Jo (.slice y.A y.l.length y.c) (by rw [hy])∘Jp 1) fun a I HM => ?_)
   obtain ⟨gq4, oq4, hq4, _⟩ := Rd.qt hyr (Nat.lt_of_le_of_lt (Nat.zero_le _) (show c < y.l.length from by omega)) de
   have hrq4 := hyr; rw [hq4] at hrq4
   replace I := I.sp 91 (.slice (some ⟨gq4, oq4, none⟩) y.l.length y.c) rfl (by rw [hq4]; try rfl)
   refine Jb I HM ((Jy (h:=by exact Yl.ix gq4 oq4 c 3 rfl rfl rfl)∘Jf 0∘Jy (v := vQ ((y.l.getD c Sp.zero).v)) (h:=by exact Yl.qo rfl rfl kr (fun _ h => (by have := (h.old hrq4).partAt qax (k := c) (j := 0) (x := (y.l.getD c Sp.zero)) ((getD_at Sp.zero om)) rfl; simpa using this)))∘Jp 1∘Jw .u64∘Jy (v := .agg #[vQ ((y.l.getD c Sp.zero).v), vQ 1, vQ u]) (h:=by exact Yl.qkj (n := 3) (sz := 1) (vs := [(0, vQ ((y.l.getD c Sp.zero).v)), (1, vQ 1), (2, vQ u)]) rfl rfl kr kr)) fun a I HM => ?_)
   refine fo I 16 rfl rfl ?_
   refine qci I (f := 104) (vs := [.agg #[vQ ((y.l.getD c Sp.zero).v), vQ 1, vQ u]]) (fst := []) (caps := [vP g9 0, vP g8 0]) rfl rfl rfl kr rfl de (quk w _ g9 g8 _ (⟨(y.l.getD c Sp.zero).v, 1, u⟩ : Mb) q _ (HM.pk [1, 2, 0, 3])) ?_
   rintro _ w99 ⟨rfl, HM2⟩
   refine ⟨_, rfl, ?_⟩
   replace HM := HM2
   clear I; intro a I
   refine Jb I HM ((Jt6∘Jj∘JR∘Jp 1∘JaK 1∘Jp 1∘Jd6∘Jq) fun a I HM => ?_)
   exact ⟨_, om, u + 1, (q ++ [(⟨(y.l.getD c Sp.zero).v, 1, u⟩ : Mb)]), by omega, by omega, by rw [hgst, hq, List.append_assoc]; rfl, rfl, I.sub kr, HM.pk [0, 1, 3]⟩
  intro a I HM
  rw [qji (by simpa using hb82)] at hgst
  refine Jb I HM ((JF∘JS'∘JR∘Jp 1∘JaK 1∘Jp 1∘Jd2∘Jq) fun a I HM => ?_)
  exact ⟨_, om, u + 1, q, by omega, by omega, by rw [hgst, hq]; simp, rfl, I.sub kr, HM.pk [1, 2, 3]⟩
 intro a I HM
 have hd60 := of_decide_eq_false hb60
 have hqm : q = memS x.sta g c := by rw [hq, qdi, zl, show u = x.rs.length by omega, qpl]; rfl
 refine Jb I HM ((JF∘JX) fun a I HM => ?_)
 refine wp_seq ?_
 refine Jb I HM ((Vs (.t (.t (.f .n))) []) fun wd16 => (Vy 0 (v := .agg ((bestM topM q).cells)) (h:=by exact Yl.loadS rfl rfl qcn rfl (fun _ h => qa (h.blk (i := 1) rfl)))∘Vc 1 O0) fun a I HM HS => ?_)
 refine s_on I 2 rfl (e_sa I HM 2 rfl rfl rfl rfl rfl qcn rfl rfl (qg3 (bestM topM q)) fun w16_2 HM => ?_)
 refine keepS (HM.pk [0, 1]) (fun HS => ?_)
 refine Vb I HM HS ((Vp [3]∘Vd∘Jd2∘JZ) fun a I HM => ?_)
 exact ret2 rfl I (.cellS (i := 2) I HM rfl rfl qcn rfl) (.tmp I rfl) (⟨by rw [← hqm], HM.below⟩)
theorem qf3 (x : Stm) (hok : x.sta.Ok) (hf : StFew x) (hsh : ShAt x) (gm c : Nat) (hc : (c : Int) < x.cpus) : ∀ (n g : Nat), x.rs.length - g ≤ n → g < x.rs.length → qkz x gm c g := by
 intro n
 induction n with
 | zero => intro g h1 h2; omega
 | succ n ih => intro g h1 h2; exact qne x hok hf hsh gm c hc g h2 fun h h3 h4 => ih h om h4
theorem qvf {l : List Tk} {id : Int} (h : fidx l id < 0) : findS l id = none := by
 rcases qeq l id with h1 | ⟨i, h1, _⟩
 ·exact h1.2
 ·omega
theorem qsu {l : List Tk} {id : Int} (h : ¬ fidx l id < 0) : ∃ i : Nat, fidx l id = i ∧ findS l id = some i ∧ i < l.length ∧ (l.getD i Tk.zero).id = id := by
 rcases qeq l id with h1 | h1
 ·omega
 ·exact h1
structure En where
 v : Nat
 r : Nat
 w : Nat
abbrev endV : Nat := 18446744073709551615
def En.add (x : En) (d : Nat) : En :=
 if endV - x.v ≤ (d * 1048576 + x.r) / x.w then ⟨endV, 0, x.w⟩ else ⟨x.v + (d * 1048576 + x.r) / x.w, (d * 1048576 + x.r) % x.w, x.w⟩
def En.woken (x : En) (floor credit : Nat) : En := if x.v < floor - credit then ⟨floor - credit, 0, x.w⟩ else x
def qas (v fr to : Nat) : Nat := if fr ≤ v then to + min (v - fr) (endV - to) else to - min to (fr - v)
def En.moved (x : En) (fr to : Nat) : En := ⟨qas x.v fr to, if qas x.v fr to = endV then 0 else x.r, x.w⟩
def Tk.en (t : Tk) : En := ⟨t.v, t.r, t.weight.toNat⟩
def Tk.put (t : Tk) (x : En) : Tk := { t with v := x.v, r := x.r, weight := x.w }
def Sta.spEn (s : Sta) (g c : Nat) : En := ⟨(s.spot g c).v, (s.spot g c).r, (s.gs.getD g Gr.zero).weight.toNat⟩
structure Op30 where
 kind : Nat
 cpu : Int
 task : Int
 group : Int
 weight : Int
 to : Int
 ticks : Int
 mask : Nat
structure Op30.Ok (x : Op30) : Prop where
 kind : x.kind < 256
 cpu : I64 x.cpu
 task : I64 x.task
 group : I64 x.group
 weight : I64 x.weight
 to : I64 x.to
 ticks : I64 x.ticks
 mask : x.mask < 18446744073709551616
def Sta.setT (s : Sta) (i : Nat) (t : Tk) : Sta := { s with ts := s.ts.set i t }
def Sta.qc9 (s : Sta) (g c : Nat) (x : Sp) : Sta := { s with sp := s.sp.set g ((s.sp.getD g []).set c x) }
def Sta.qfd (s : Sta) (g c : Nat) (x : En) : Sta := s.qc9 g c { s.spot g c with v := x.v, r := x.r }
def Sta.qb7 (s : Sta) (c : Int) : Bool := decide (0 ≤ c ∧ c < s.cpus)
def idOk (id : Int) : Bool := decide (1 ≤ id ∧ id ≤ 65535)
def qa8 (s : Sta) (c : Nat) : Nat → Nat → List Nat
 | 0, _ => []
 | f + 1, g => if g = 0 then [] else if (memS s g c).isEmpty then g :: qa8 s c f (s.par g).toNat else []
def q5 (s : Sta) (g c : Nat) : List Nat := qa8 s c g g
def wake1 (c : Nat) (s : Sta) (g : Nat) : Sta := s.qfd g c ((s.spEn g c).woken (s.spot (s.par g).toNat c).floor s.credit)
def wakeS (s : Sta) (l : List Nat) (c : Nat) : Sta := l.foldl (wake1 c) s
def rise1 (s : Sta) (g c : Nat) (x : Sp) : Sp := if (memS s g c).isEmpty then x else { x with floor := max x.floor (bestM topM (memS s g c)).v }
def riseS (s : Sta) : Sta := { s with sp := s.sp.mapIdx fun g l => l.mapIdx fun c x => rise1 s g c x }
def qdd (s : Sta) (c : Nat) : Nat → Nat → Nat
 | 0, _ => 0
 | f + 1, g => if (memS s g c).isEmpty then 0 else if (bestM topM (memS s g c)).k = 0 then (bestM topM (memS s g c)).id else qdd s c f (bestM topM (memS s g c)).id
def q3 (s : Sta) (c : Nat) : Nat := qdd s c s.sp.length 0
def loadS (s : Sta) (c : Nat) : Int := (s.ts.map fun t => if t.ready && decide (t.cpu = (c : Int)) then t.weight else (0 : Int)).sum
def bitOn (m : Nat) (c : Int) : Bool := decide (m / 2 ^ c.toNat % 2 = 1)
abbrev Out30 := Sta × Int × Nat
def qb9 (s : Sta) (o : Op30) : Out30 :=
 if s.qb7 o.cpu = false then (s, 0, 300)
 else if idOk o.task = false then (s, 0, 301)
 else if ¬ (0 ≤ o.group ∧ o.group < s.sp.length) then (s, 0, 302)
 else if wOk o.weight = false ∨ o.mask = 0 ∨ qe4 o.mask s.cpus = true then (s, 0, 2)
 else if 0 ≤ fidx s.ts o.task then (s, 0, 303)
 else if bitOn o.mask o.cpu = false then (s, 0, 305)
 else (wakeS { s with ts := (s.ts.takeWhile fun t => decide (t.id ≤ o.task)) ++ (⟨o.task, o.group, o.weight, o.cpu, o.mask, true, (s.spot o.group.toNat o.cpu.toNat).floor, 0⟩ :: (s.ts.dropWhile fun t => decide (t.id ≤ o.task))) } (q5 s o.group.toNat o.cpu.toNat) o.cpu.toNat, 0, 0)
def tkOf (s : Sta) (id : Int) : Tk := s.ts.getD (fidx s.ts id).toNat Tk.zero
def qca (s : Sta) (o : Op30) : Out30 :=
 if idOk o.task = false then (s, 0, 301)
 else if fidx s.ts o.task < 0 then (s, 0, 6)
 else if (tkOf s o.task).ready = true then (s, 0, 304)
 else
  let t := tkOf s o.task
  (wakeS (s.setT (fidx s.ts o.task).toNat { t.put (t.en.woken (s.spot t.group.toNat t.cpu.toNat).floor s.credit) with ready := true }) (q5 s t.group.toNat t.cpu.toNat) t.cpu.toNat, 0, 0)
def qai (s : Sta) (o : Op30) : Out30 :=
 if s.qb7 o.cpu = false then (s, 0, 300)
 else if s.cu.getD o.cpu.toNat 0 = 0 then (s, 0, 6)
 else
  let id := s.cu.getD o.cpu.toNat 0
  let i := (fidx s.ts id).toNat
  let s1 := { s with cu := s.cu.set o.cpu.toNat 0, ts := s.ts.set i { s.ts.getD i Tk.zero with ready := false } }
  (if o.kind = 4 then { s1 with ts := s1.ts.eraseIdx i } else s1, id, 0)
def zt (c d : Nat) : Nat → Nat → Sta → Sta
 | 0, _, s => s
 | f + 1, g, s => if g = 0 then s else zt c d f (s.par g).toNat (s.qfd g c ((s.spEn g c).add d))
def tickS (s : Sta) (o : Op30) : Out30 :=
 if s.qb7 o.cpu = false then (s, 0, 300)
 else if ¬ (1 ≤ o.ticks ∧ o.ticks ≤ 4294967295) then (s, 0, 2)
 else if 281474976710656 < s.cl.getD o.cpu.toNat 0 + o.ticks then (s, 0, 4)
 else
  let s1 := { s with cl := s.cl.set o.cpu.toNat (s.cl.getD o.cpu.toNat 0 + o.ticks) }
  if s.cu.getD o.cpu.toNat 0 = 0 then (s1, 0, 0)
  else
   let id := s.cu.getD o.cpu.toNat 0
   let t := tkOf s id
   (zt o.cpu.toNat o.ticks.toNat t.group.toNat t.group.toNat (s1.setT (fidx s.ts id).toNat (t.put (t.en.add o.ticks.toNat))), id, 0)
def pickS (s : Sta) (o : Op30) : Out30 :=
 if s.qb7 o.cpu = false then (s, 0, 300)
 else ({ s with cu := s.cu.set o.cpu.toNat (q3 s o.cpu.toNat) }, q3 s o.cpu.toNat, 0)
def zk (s : Sta) (o : Op30) : Out30 :=
 if idOk o.task = false then (s, 0, 301)
 else if wOk o.weight = false then (s, 0, 2)
 else if fidx s.ts o.task < 0 then (s, 0, 6)
 else (s.setT (fidx s.ts o.task).toNat { tkOf s o.task with r := 0, weight := o.weight }, 0, 0)
def z8 (s : Sta) (o : Op30) : Out30 :=
 if ¬ (1 ≤ o.group ∧ o.group < s.sp.length) then (s, 0, 302)
 else if wOk o.weight = false then (s, 0, 2)
 else ({ s with sp := s.sp.set o.group.toNat ((s.sp.getD o.group.toNat []).map fun x => { x with r := 0 }), gs := s.gs.set o.group.toNat { s.gs.getD o.group.toNat Gr.zero with weight := o.weight } }, 0, 0)
def moveS (s : Sta) (i : Nat) (to : Int) : Sta :=
 let t := s.ts.getD i Tk.zero
 let s1 := s.setT i { t.put (t.en.moved (s.spot t.group.toNat t.cpu.toNat).floor (s.spot t.group.toNat to.toNat).floor) with cpu := to }
 if t.ready then wakeS s1 (q5 s t.group.toNat to.toNat) to.toNat else s1
def qad (s : Sta) (o : Op30) : Out30 :=
 if s.qb7 o.to = false then (s, 0, 300)
 else if idOk o.task = false then (s, 0, 301)
 else if fidx s.ts o.task < 0 then (s, 0, 6)
 else if o.task ∈ s.cu then (s, 0, 304)
 else if (tkOf s o.task).cpu = o.to then (s, 0, 2)
 else if bitOn (tkOf s o.task).mask o.to = false then (s, 0, 305)
 else (moveS s (fidx s.ts o.task).toNat o.to, 0, 0)
def busyF (s : Sta) (cpu : Int) : Nat → Int × Int
 | 0 => (-1, -1)
 | c + 1 => if (c : Int) ≠ cpu ∧ (busyF s cpu c).2 < loadS s c then ((c : Int), loadS s c) else busyF s cpu c
def mayB (s : Sta) (o : Op30) (t : Tk) : Bool := t.ready && (decide (t.cpu = (busyF s o.cpu s.cpus.toNat).1) && (bitOn t.mask o.cpu && (decide (s.cu.getD t.cpu.toNat 0 ≠ t.id) && decide (2 * t.weight ≤ (busyF s o.cpu s.cpus.toNat).2 - loadS s o.cpu.toNat))))
def bestF (s : Sta) (o : Op30) : Nat → Option Nat
 | 0 => none
 | n + 1 => if mayB s o (s.ts.getD n Tk.zero) then match bestF s o n with
   | none => some n
   | some b => if (s.ts.getD b Tk.zero).weight < (s.ts.getD n Tk.zero).weight then some n else some b
  else bestF s o n
def zu (s : Sta) (o : Op30) : Out30 :=
 if s.qb7 o.cpu = false then (s, 0, 300)
 else match bestF s o s.ts.length with
  | none => (s, 0, 6)
  | some b => (moveS s b o.cpu, (s.ts.getD b Tk.zero).id, 0)
def stepS (s : Sta) (o : Op30) : Out30 :=
 match o.kind with
 | 1 => qb9 s o
 | 2 => qca s o
 | 3 => qai s o
 | 4 => qai s o
 | 5 => tickS s o
 | 6 => pickS s o
 | 7 => zk s o
 | 8 => z8 s o
 | 9 => qad s o
 | 10 => zu s o
 | _ => (s, 0, 2)
def doS (s : Sta) (o : Op30) : Out30 := if (stepS s o).2.2 ≠ 0 then (s, 0, (stepS s o).2.2) else (riseS (stepS s o).1, (stepS s o).2.1, 0)
def newS (cpus : Int) (credit : Nat) (gs : List Gr) : Sta := ⟨cpus, credit, gs, List.replicate cpus.toNat 0, List.replicate cpus.toNat 0, [], List.replicate gs.length (List.replicate cpus.toNat Sp.zero)⟩
def fG (A : Option Addr) (n c : Nat) (l : List Gr) : Fact := .row (.slice A n c) n (l.flatMap grL) 50 2
def fI (A : Option Addr) (n c : Nat) (l : List Int) : Fact := .row (.slice A n c) n (l.map I64i) 3 1
def fT (A : Option Addr) (n c : Nat) (l : List Tk) : Fact := .row (.slice A n c) n (l.flatMap tkL) 81 8
def fS (A : Option Addr) (n c : Nat) (l : List Rw) : Fact := .row (.slice A n c) n (l.map Rw.val) 63 1
def fR (q : List Rw) : List Fact := rwF 83 q
def fM (gm : Nat) (cp : Int) (cr : Nat) (gA : Option Addr) (ng gc : Nat) (lA : Option Addr) (nl lc : Nat) (uA : Option Addr) (nu uc : Nat) (tA : Option Addr) (nt tc : Nat) (sA : Option Addr) (ns sc : Nat) : Fact :=
 .blk gm #[.int .i64 cp, .int .u64 (cr : Int), .slice gA ng gc, .slice lA nl lc, .slice uA nu uc, .slice tA nt tc, .slice sA ns sc, .bool true] 56
def mdA (gm : Nat) (x : Stm) (ng nl nu nt ns : Nat) : List Fact := fM gm x.cpus x.credit x.gA ng x.gc x.lA nl x.lc x.uA nu x.uc x.tA nt x.tc x.sA ns x.sc :: fG x.gA ng x.gc x.gs :: fI x.lA nl x.lc x.cl :: fI x.uA nu x.uc x.cu :: fT x.tA nt x.tc x.ts :: fS x.sA ns x.sc x.rs :: fR x.rs
structure Lns (x : Stm) (ng nl nu nt ns : Nat) : Prop where
 g : x.gs.length = ng
 l : x.cl.length = nl
 u : x.cu.length = nu
 t : x.ts.length = nt
 s : x.rs.length = ns
structure MdOk (x : Stm) (ng nl nu nt ns : Nat) : Prop where
 ok : x.sta.Ok
 few : StFew x
 sh : ShAt x
 ln : Lns x ng nl nu nt ns
section
variable {W w w' : World} {F A T fs : List Fact} {x : Stm} {ng nl nu nt ns gm g c n : Nat}
theorem qul : mdA gm x x.gs.length x.cl.length x.cu.length x.ts.length x.rs.length = fM gm x.cpus x.credit x.gA x.gs.length x.gc x.lA x.cl.length x.lc x.uA x.cu.length x.uc x.tA x.ts.length x.tc x.sA x.rs.length x.sc :: stF x := rfl
theorem Mem.mdRd (n : Nat) (h : Mem W w F) (he : F.drop n = mdA gm x ng nl nu nt ns ++ T) (hl : Lns x ng nl nu nt ns) : StRd w x := by
 obtain ⟨rfl, rfl, rfl, rfl, rfl⟩ := hl
 exact h.stL (T := T) (n + 1) (by rw [← List.drop_drop, he, qul]; rfl)
theorem Mem.mdBlk (n : Nat) (h : Mem W w F) (he : F.drop n = mdA gm x ng nl nu nt ns ++ T) (hl : Lns x ng nl nu nt ns) : w.heap[gm]? = some (.cells #[.int .i64 x.cpus, .int .u64 (x.credit : Int), .slice x.gA x.gs.length x.gc, .slice x.lA x.cl.length x.lc, .slice x.uA x.cu.length x.uc, .slice x.tA x.ts.length x.tc, .slice x.sA x.rs.length x.sc, .bool true] 56 (0, 0)) := by
 obtain ⟨rfl, rfl, rfl, rfl, rfl⟩ := hl
 have h1 : fM gm x.cpus x.credit x.gA x.gs.length x.gc x.lA x.cl.length x.lc x.uA x.cu.length x.uc x.tA x.ts.length x.tc x.sA x.rs.length x.sc ∈ F := List.mem_of_mem_drop (by rw [he, qul]; exact List.mem_cons_self ..)
 exact (h.holds _ h1).2
theorem Mem.front (n : Nat) (h : Mem W w F) (he : F.drop n = A ++ T) : Mem W w (A ++ (F.take n ++ T)) := by
 have h2 : Mem W w (F.take n ++ (A ++ T)) := by rw [← he, List.take_append_drop]; exact h
 exact h2.perm (List.perm_append_comm_assoc ..)
theorem Mem.back (h : Mem W w (A ++ (F ++ T))) : Mem W w (F ++ (A ++ T)) := h.perm (List.perm_append_comm_assoc ..)
end
def rsPut (rs : List Rw) (g c : Nat) (z : Sp) : List Rw := rs.set g { rs.getD g Rw.zero with l := (rs.getD g Rw.zero).l.set c z }
theorem qr (rs : List Rw) (g c : Nat) (z : Sp) : (rsPut rs g c z).length = rs.length := List.length_set ..
theorem qg {α : Type} {l : List α} {k : Nat} (d x : α) (h : k < l.length) : (l.set k x).getD k d = x := by
 rw [List.getD_eq_getElem?_getD, List.getElem?_set_self h]; rfl
theorem getD_set_ne {α : Type} {l : List α} {j k : Nat} (d x : α) (h : k ≠ j) : (l.set k x).getD j d = l.getD j d := by
 rw [List.getD_eq_getElem?_getD, List.getElem?_set_ne h, List.getD_eq_getElem?_getD]
theorem qb2 {α : Type} {l : List α} {k : Nat} (d : α) (h : k < l.length) : l.set k (l.getD k d) = l := by
 rw [List.getD_eq_getElem?_getD, List.getElem?_eq_getElem h]
 exact List.set_getElem_self h
theorem qpt {rs : List Rw} {g c : Nat} {z : Sp} (hg : g < rs.length) : (rsPut rs g c z).map Rw.val = rs.map Rw.val := by
 unfold rsPut
 rw [List.map_set]
 have h2 : (rs.map Rw.val).getD g (Rw.val Rw.zero) = (rs.getD g Rw.zero).val := by
  rw [List.getD_eq_getElem?_getD, List.getElem?_map, List.getD_eq_getElem?_getD, List.getElem?_eq_getElem hg]
  rfl
 have h1 : Rw.val { rs.getD g Rw.zero with l := (rs.getD g Rw.zero).l.set c z } = (rs.map Rw.val).getD g (Rw.val Rw.zero) := by
  rw [h2]
  show Value.slice _ _ _ = Value.slice _ _ _
  rw [List.length_set]
 rw [h1]
 exact qb2 _ (by rwa [List.length_map])
theorem qvg {rs : List Rw} {g c : Nat} {z : Sp} (hg : g < rs.length) : (rsPut rs g c z).map Rw.l = (rs.map Rw.l).set g (((rs.map Rw.l).getD g []).set c z) := by
 unfold rsPut
 rw [List.map_set]
 congr 1
 show (rs.getD g Rw.zero).l.set c z = _
 rw [qa3 hg]
theorem qb3 {rs : List Rw} {g c : Nat} {z : Sp} (hg : g < rs.length) : (rsPut rs g c z).getD g Rw.zero = { rs.getD g Rw.zero with l := (rs.getD g Rw.zero).l.set c z } := qg _ _ hg
theorem qc0 {rs : List Rw} {g h c : Nat} {z : Sp} (hn : g ≠ h) : (rsPut rs g c z).getD h Rw.zero = rs.getD h Rw.zero := getD_set_ne _ _ hn
theorem qa9 {rs : List Rw} {g c : Nat} {z y : Sp} (hg : g < rs.length) : rsPut (rsPut rs g c z) g c y = rsPut rs g c y := by
 unfold rsPut
 rw [qg _ _ hg, List.set_set]
 simp only [List.set_set]
section
variable {W w w' : World} {F A T fs : List Fact} {rs : List Rw} {n g c : Nat}
theorem Mem.qud (n : Nat) (he : F.drop n = fR rs ++ T) (hg : g < rs.length) : F[n + g]? = some (.row (.slice (rs.getD g Rw.zero).A (rs.getD g Rw.zero).l.length (rs.getD g Rw.zero).c) (rs.getD g Rw.zero).l.length ((rs.getD g Rw.zero).l.flatMap spL) 83 3) := by
 have h1 : F[n + g]? = (F.drop n)[g]? := by rw [List.getElem?_drop]
 have hl : (fR rs).length = rs.length := by unfold fR rwF ownsF; rw [List.length_map, List.length_map]
 rw [h1, he, List.getElem?_append_left om]
 unfold fR rwF ownsF
 rw [List.getElem?_map, List.getElem?_map, List.getElem?_eq_getElem hg, List.getD_eq_getElem?_getD, List.getElem?_eq_getElem hg]
 rfl
theorem Mem.rwSome {yA : Option Addr} {yc : Nat} {yl : List Sp} (n : Nat) (h : Mem W w F) (he : F.drop n = fR rs ++ T) (hg : g < rs.length) (hy : rs.getD g Rw.zero = ⟨yA, yc, yl⟩) (h0 : 0 < yl.length) : ∃ gy, yA = some ⟨gy, 0, none⟩ := by
 have h1 := Mem.qud n he hg
 rw [hy] at h1
 exact qe (h.own h1) h0
theorem Mem.rwRd {yA : Option Addr} {yc : Nat} {yl : List Sp} (n : Nat) (h : Mem W w F) (he : F.drop n = fR rs ++ T) (hg : g < rs.length) (hy : rs.getD g Rw.zero = ⟨yA, yc, yl⟩) : Rd w w.heap.size 3 yA yl.length (yl.flatMap spL) := by
 have h1 := Mem.qud n he hg
 rw [hy] at h1
 exact h.rd h1
theorem Mem.qat {yc gy c j : Nat} {yl : List Sp} {z : Sp} {v : Value} (n : Nat) (h : Mem W w F) (he : F.drop n = fR rs ++ T) (hg : g < rs.length) (hy : rs.getD g Rw.zero = ⟨some ⟨gy, 0, none⟩, yc, yl⟩) (hz : yl[c]? = some z) (hv : (spL z)[j]? = some v) : w.cell? ⟨gy, c * 3 + j, none⟩ = some v := by
 have h1 := Mem.qud n he hg
 rw [hy] at h1
 exact h.qq qax h1 hz hv
theorem Mem.rdT {A : Option Addr} {m k size : Nat} {xs : List Value} {e : TypeId} (n : Nat) (h : Mem W w F) (he : F.drop n = fR rs ++ T) (hT : .row (.slice A m k) m xs e size ∈ T) : Rd w w.heap.size size A m xs :=
 h.rdMem (List.mem_of_mem_drop (i := n) (by rw [he]; exact List.mem_append_right _ hT))
theorem qwt {r : Rw} : (fR rs).set g (.row (.slice r.A r.l.length r.c) r.l.length (r.l.flatMap spL) 83 3) = fR (rs.set g r) := by
 unfold fR rwF ownsF
 rw [List.map_set, List.map_set]
 rfl
variable {P : Program} {Q : Exit → Act → World → Prop} {a : Act} {N d : Nat} {D : List Deferred} {σ : List (Nat × Value)} {o : Oper} {v : Value} {K : Act → World → Prop}
theorem q6 (I : Fr a N D σ) (HM : Mem W w F) (n : Nat) {sA : Option Addr} {ns sc yc gy off : Nat} {yl : List Sp} {t : TypeId} {x y : Operand} (j : Nat) {z : Sp} (z' : Sp) (hop : o.op = .store t x y) (hd : o.dst = none) (hx : look σ x = some (.pointer (some ⟨gy, off, none⟩))) (hv : look σ y = some v) (hs : (P.info? t).map (·.size) = some 1) (h1 : v.oneCell' = true)
  (he : F.drop n = fS sA ns sc rs :: (fR rs ++ T)) (hg : g < rs.length) (hy : rs.getD g Rw.zero = ⟨some ⟨gy, 0, none⟩, yc, yl⟩) (hz : yl[c]? = some z) (ho : off = c * 3 + j) (hj : j < 3) (hz' : spL z' = (spL z).set j v)
  (k : ∀ w', Mem W w' (F.take n ++ (fS sA ns sc (rsPut rs g c z') :: (fR (rsPut rs g c z') ++ T))) → K a w') : o.wp P a w K Q := by
 subst ho
 have hi := Mem.qud (F := F) (T := T) (g := g) (n + 1) (by rw [← List.drop_drop, he]; rfl) hg
 rw [hy] at hi
 have hcl : c < yl.length := (List.getElem?_eq_some_iff.1 hz).1
 refine qv I HM hop hd hx hv hs h1 hi (by rw [q8 spL 3 qax]; show c * 3 + j < yl.length * 3; omega) fun w' HM => k w' ?_
 rw [zc spL 3 qax yl c z z' hz j hj v hz'] at HM
 have h2 : F = F.take n ++ (fS sA ns sc rs :: (fR rs ++ T)) := by rw [← he, List.take_append_drop]
 have hn : (F.take n).length = n := by
  have h3 := congrArg List.length he
  rw [List.length_drop, List.length_cons] at h3
  rw [List.length_take]; omega
 have h4 : F.set (n + 1 + g) (.row (.slice (some ⟨gy, 0, none⟩) yl.length yc) yl.length ((yl.set c z').flatMap spL) 83 3) = F.take n ++ (fS sA ns sc rs :: ((fR rs).set g (.row (.slice (some ⟨gy, 0, none⟩) yl.length yc) yl.length ((yl.set c z').flatMap spL) 83 3) ++ T)) := by
  conv => lhs; rw [h2]
  rw [List.set_append, if_neg (by rw [hn]; omega), hn, show n + 1 + g - n = g + 1 by omega, List.set_cons_succ, List.set_append, if_pos (by unfold fR rwF ownsF; rw [List.length_map, List.length_map]; exact hg)]
 have h5 : rsPut rs g c z' = rs.set g ⟨some ⟨gy, 0, none⟩, yc, yl.set c z'⟩ := by unfold rsPut; rw [hy]
 have h6 := qwt (rs := rs) (g := g) (r := ⟨some ⟨gy, 0, none⟩, yc, yl.set c z'⟩)
 simp only [List.length_set] at h6
 rw [h4, h6, ← h5] at HM
 unfold fS at HM ⊢
 rw [qpt hg]
 exact HM
end
section
variable {P : Program} {W w : World} {fs : List Fact} {f : Nat} {fn : Func} {c : Code} {R : Ending → World → Prop} {u1 u2 u3 u4 : Value}
theorem Jin1 (HM : Mem W w fs) (hf : P.funcs[f]? = some fn) (N : Nat) (hn : fn.ntmps = N := by exact rfl) (hb : fn.body = some c := by exact rfl) (hl : decide (1 ≤ N) = true := by kernel_rfl) (k : JJ W w N [] [(0, u1)] fs (Code.wp P c (bodyPost P fn R))) : Calls P f #[u1] w R :=
 zg (vs := [u1]) hf hb hn hl rfl fun a I => k a I HM
theorem Jin2 (HM : Mem W w fs) (hf : P.funcs[f]? = some fn) (N : Nat) (hn : fn.ntmps = N := by exact rfl) (hb : fn.body = some c := by exact rfl) (hl : decide (2 ≤ N) = true := by kernel_rfl) (k : JJ W w N [] [(0, u1), (1, u2)] fs (Code.wp P c (bodyPost P fn R))) : Calls P f #[u1, u2] w R :=
 zg (vs := [u1, u2]) hf hb hn hl rfl fun a I => k a I HM
theorem Jin3 (HM : Mem W w fs) (hf : P.funcs[f]? = some fn) (N : Nat) (hn : fn.ntmps = N := by exact rfl) (hb : fn.body = some c := by exact rfl) (hl : decide (3 ≤ N) = true := by kernel_rfl) (k : JJ W w N [] [(0, u1), (1, u2), (2, u3)] fs (Code.wp P c (bodyPost P fn R))) : Calls P f #[u1, u2, u3] w R :=
 zg (vs := [u1, u2, u3]) hf hb hn hl rfl fun a I => k a I HM
end
def En.cells (x : En) : Array Value := #[.int .u64 (x.v : Int), .int .u32 (x.r : Int), .int .u32 (x.w : Int)]
theorem qw (x : En) : ∀ v ∈ x.cells.toList, v.oneCell' = true := by simp [En.cells, Value.oneCell']
def En.Ok (x : En) : Prop := entOk x.v x.r x.w = true ∧ x.v < 18446744073709551616
def Op30.cells (x : Op30) : Array Value := #[.int .u8 (x.kind : Int), .int .i64 x.cpu, .int .i64 x.task, .int .i64 x.group, .int .i64 x.weight, .int .i64 x.to, .int .i64 x.ticks, .int .u64 (x.mask : Int)]
theorem qum (x : Op30) : ∀ v ∈ x.cells.toList, v.oneCell' = true := by simp [Op30.cells, Value.oneCell']
theorem si_op : SI Tryz.prog 52 8 := ⟨by kernel_rfl, by kernel_rfl⟩
theorem ei_op : EI Tryz.prog 29 52 (.agg #[.int .u8 0, .int .i64 0, .int .i64 0, .int .i64 0, .int .i64 0, .int .i64 0, .int .i64 0, .int .u64 0]) 8 64 := ⟨by kernel_rfl, by kernel_rfl, rfl, by omega⟩
section
variable {W w : World} {F T : List Fact} {x : Stm} {ng nl nu nt ns gm g c n : Nat}
theorem MdOk.sort (h : MdOk x ng nl nu nt ns) : SortT x.ts := qva h.sh
theorem qea (n : Nat) (HM : Mem W w F) (he : F.drop n = mdA gm x ng nl nu nt ns ++ T) (hx : MdOk x ng nl nu nt ns) (id : Int) : Calls Tryz.prog 50 #[.pointer (some ⟨gm, 0, none⟩), .int .i64 id] w (Is w (.int .i64 (fidx x.ts id))) :=
 qps x gm id hx.sort w (HM.mdBlk n he hx.ln) (HM.mdRd n he hx.ln).t hx.few.t
theorem qsv (n : Nat) (HM : Mem W w F) (he : F.drop n = mdA gm x ng nl nu nt ns ++ T) (hx : MdOk x ng nl nu nt ns) (hc : (c : Int) < x.cpus) (hg : g < ns) : Calls Tryz.prog 51 #[.pointer (some ⟨gm, 0, none⟩), .int .i64 (g : Int), .int .i64 (c : Int)] w (Is w (.tuple #[.agg (bestM topM (memS x.sta g c)).cells, .bool (!(memS x.sta g c).isEmpty)])) :=
 qf3 x hx.ok hx.few hx.sh gm c hc _ g (Nat.le_refl _) (by rw [hx.ln.s]; exact hg) w (HM.mdRd n he hx.ln) (HM.mdBlk n he hx.ln)
end
theorem lapp {α : Type} {a b : List α} {n : Nat} (h : b.length = n) : a.length + n = (a ++ b).length := by rw [List.length_append, h]
section
variable {s : Sta} {c g : Nat}
theorem qk0 {f : Nat} (hp : ∀ i, 0 < i → i ≤ g → ParB s.gs i) (h : g ≤ f) : qa8 s c f g = qa8 s c g g := by
 have key : ∀ (g f f' : Nat), (∀ i, 0 < i → i ≤ g → ParB s.gs i) → g ≤ f → g ≤ f' → qa8 s c f g = qa8 s c f' g := by
  intro g
  induction g using Nat.strongRecOn with
  | _ g ih =>
   intro f f' hp h1 h2
   by_cases h0 : g = 0
   ·subst h0
    cases f <;> cases f' <;> simp [qa8]
   ·obtain ⟨f, rfl⟩ : ∃ k, f = k + 1 := ⟨f - 1, by omega⟩
    obtain ⟨f', rfl⟩ : ∃ k, f' = k + 1 := ⟨f' - 1, by omega⟩
    have hg := hp g om (Nat.le_refl _)
    unfold ParB at hg
    simp only [qa8, if_neg h0]
    have e : (s.par g).toNat < g := by show (s.gs.getD g Gr.zero).parent.toNat < g; omega
    rw [ih (s.par g).toNat e f f' (fun i hi hl => hp i hi om) om om]
 exact key g f g hp h (Nat.le_refl _)
theorem qdj (hp : ∀ i, 0 < i → i ≤ g → ParB s.gs i) (h0 : 0 < g) (hm : memS s g c = []) : q5 s g c = g :: q5 s (s.gs.getD g Gr.zero).parent.toNat c := by
 obtain ⟨k, rfl⟩ : ∃ k, g = k + 1 := ⟨g - 1, by omega⟩
 have hg := hp (k + 1) h0 (Nat.le_refl _)
 unfold ParB at hg
 show qa8 s c (k + 1) (k + 1) = _
 rw [qa8, if_neg om, if_pos (by rw [hm]; rfl)]
 show (k + 1) :: qa8 s c k (s.gs.getD (k + 1) Gr.zero).parent.toNat = _
 rw [qk0 (fun i hi hl => hp i hi om) om]
 rfl
theorem qk1 : q5 s 0 c = [] := rfl
theorem qdk (hm : memS s g c ≠ []) : q5 s g c = [] := by
 cases g with
 | zero => rfl
 | succ k =>
  show qa8 s c (k + 1) (k + 1) = _
  rw [qa8, if_neg om, if_neg (by simpa using hm)]
theorem qg7 (hp : ∀ i, 0 < i → i ≤ g → ParB s.gs i) : ∀ h ∈ q5 s g c, 0 < h ∧ h ≤ g ∧ memS s h c = [] := by
 induction g using Nat.strongRecOn with
 | _ g ih =>
  intro h hh
  rcases Nat.eq_zero_or_pos g with h0 | h0
  ·subst h0; cases hh
  ·by_cases hm : memS s g c = []
   ·rw [qdj hp h0 hm] at hh
    have hg := hp g h0 (Nat.le_refl _)
    unfold ParB at hg
    rcases List.mem_cons.1 hh with rfl | hh
    ·exact ⟨h0, Nat.le_refl _, hm⟩
    ·have := ih (s.gs.getD g Gr.zero).parent.toNat om (fun i hi hl => hp i hi om) h hh
     exact ⟨this.1, by omega, this.2.2⟩
   ·rw [qdk hm] at hh; cases hh
theorem ql6 : ∀ (l : List Mb) (b : Mb), bestM b l = b ∨ bestM b l ∈ l
 | [], b => .inl rfl
 | m :: r, b => by
  show bestM (if m.lt b then m else b) r = b ∨ bestM (if m.lt b then m else b) r ∈ m :: r
  rcases ql6 r (if m.lt b then m else b) with h | h
  ·rw [h]
   split
   ·exact .inr (List.mem_cons_self ..)
   ·exact .inl rfl
  ·exact .inr (List.mem_cons_of_mem _ h)
theorem qsw {l : List Mb} (hn : l ≠ []) (ht : ∀ m ∈ l, m.lt topM = true) : bestM topM l ∈ l := by
 cases l with
 | nil => exact absurd rfl hn
 | cons m r =>
  show bestM (if m.lt topM then m else topM) r ∈ m :: r
  rw [if_pos (ht m (List.mem_cons_self ..))]
  rcases ql6 r m with h | h
  ·rw [h]; exact List.mem_cons_self ..
  ·exact List.mem_cons_of_mem _ h
theorem qc1 {m : Mb} (hm : m ∈ memS s g c) : (∃ t ∈ s.ts, t.here g c = true ∧ m = ⟨t.v, 0, t.id.toNat⟩) ∨ (∃ h, g < h ∧ h < s.sp.length ∧ s.par h = g ∧ memS s h c ≠ [] ∧ m = ⟨(s.spot h c).v, 1, h⟩) := by
 rw [qdi] at hm
 rcases List.mem_append.1 hm with h | h
 ·obtain ⟨t, ht, h1⟩ := List.mem_filterMap.1 h
  unfold tkM at h1
  split at h1
  ·rename_i hh; injection h1 with h1; exact .inl ⟨t, ht, hh, h1.symm⟩
  ·cases h1
 ·obtain ⟨k, hk, h1⟩ := List.mem_filterMap.1 h
  unfold grpM at h1
  split at h1
  ·rename_i hh
   injection h1 with h1
   obtain ⟨i, hi, hik⟩ := List.getElem_of_mem hk
   rw [List.getElem_drop, List.getElem_range] at hik
   have hlen : i < s.sp.length - (g + 1) := by simpa using hi
   exact .inr ⟨k, by omega, by omega, hh.1, hh.2, h1.symm⟩
  ·cases h1
theorem qb4 (hok : s.Ok) (g c : Nat) : (s.spot g c).Ok := by
 unfold Sta.spot
 rcases Nat.lt_or_ge g s.sp.length with h | h
 ·rcases Nat.lt_or_ge c (s.sp.getD g []).length with h2 | h2
  ·exact hok.sp _ (qm [] h) _ (qm Sp.zero h2)
  ·rw [List.getD_eq_getElem?_getD (l := s.sp.getD g []), List.getElem?_eq_none h2]
   exact ⟨by decide, by decide, by decide⟩
 ·rw [List.getD_eq_getElem?_getD (l := s.sp), List.getElem?_eq_none h]
  have e : (Option.none.getD ([] : List Sp)).getD c Sp.zero = Sp.zero := rfl
  rw [e]
  exact ⟨by decide, by decide, by decide⟩
theorem qsx (hok : s.Ok) : ∀ m ∈ memS s g c, m.lt topM = true := by
 intro m hm
 unfold Mb.lt
 rw [decide_eq_true_eq]
 show m.v < 18446744073709551615 ∨ m.v = 18446744073709551615 ∧ (m.k < 18446744073709551615 ∨ _)
 rcases qc1 hm with ⟨t, ht, _, rfl⟩ | ⟨h, _, _, _, _, rfl⟩
 ·have := (hok.ts t ht).v
  show t.v < _ ∨ t.v = _ ∧ (0 < _ ∨ _)
  omega
 ·have := (qb4 hok h c).v
  show (s.spot h c).v < _ ∨ (s.spot h c).v = _ ∧ (1 < _ ∨ _)
  omega
theorem qk2 (hok : s.Ok) (hn : memS s g c ≠ []) : bestM topM (memS s g c) ∈ memS s g c := qsw hn (qsx hok)
theorem qc2 (hok : s.Ok) (hn : memS s g c ≠ []) : ((bestM topM (memS s g c)).k = 0 ∧ ∃ t ∈ s.ts, t.here g c = true ∧ bestM topM (memS s g c) = ⟨t.v, 0, t.id.toNat⟩) ∨ ((bestM topM (memS s g c)).k = 1 ∧ ∃ h, (bestM topM (memS s g c)).id = h ∧ g < h ∧ h < s.sp.length ∧ s.par h = g ∧ memS s h c ≠ [] ∧ (bestM topM (memS s g c)).v = (s.spot h c).v) := by
 rcases qc1 (qk2 hok hn) with ⟨t, ht, h1, h2⟩ | ⟨h, h1, h2, h3, h4, h5⟩
 ·exact .inl ⟨by rw [h2], t, ht, h1, h2⟩
 ·exact .inr ⟨by rw [h5], h, by rw [h5], h1, h2, h3, h4, by rw [h5]⟩
theorem qk3 (hok : s.Ok) : ∀ (n f f' g : Nat), g < s.sp.length → s.sp.length - g ≤ n → n ≤ f → n ≤ f' → qdd s c f g = qdd s c f' g := by
 intro n
 induction n with
 | zero => intro f f' g hg hn; omega
 | succ n ih =>
  intro f f' g hg hn h1 h2
  obtain ⟨f, rfl⟩ : ∃ k, f = k + 1 := ⟨f - 1, by omega⟩
  obtain ⟨f', rfl⟩ : ∃ k, f' = k + 1 := ⟨f' - 1, by omega⟩
  rw [qdd, qdd]
  by_cases hm : memS s g c = []
  ·rw [if_pos (by rw [hm]; rfl), if_pos (by rw [hm]; rfl)]
  ·have hi : ¬ ((memS s g c).isEmpty = true) := by simpa using hm
   rw [if_neg hi, if_neg hi]
   rcases qc2 hok hm with ⟨h, _⟩ | ⟨h, k, h3, h4, h5, _⟩
   ·rw [if_pos h, if_pos h]
   ·rw [if_neg om, if_neg om, h3]
    exact ih f f' k h5 om om om
def qcb (s : Sta) (c g : Nat) : Nat := qdd s c (s.sp.length - g) g
theorem qpu : q3 s c = qcb s c 0 := rfl
theorem qdl (hg : g < s.sp.length) (hm : memS s g c = []) : qcb s c g = 0 := by
 unfold qcb
 obtain ⟨k, hk⟩ : ∃ k, s.sp.length - g = k + 1 := ⟨s.sp.length - g - 1, by omega⟩
 rw [hk, qdd, if_pos (by rw [hm]; rfl)]
theorem qdm (hg : g < s.sp.length) (hm : memS s g c ≠ []) (h0 : (bestM topM (memS s g c)).k = 0) : qcb s c g = (bestM topM (memS s g c)).id := by
 unfold qcb
 obtain ⟨k, hk⟩ : ∃ k, s.sp.length - g = k + 1 := ⟨s.sp.length - g - 1, by omega⟩
 rw [hk, qdd, if_neg (by simpa using hm), if_pos h0]
theorem qdn (hok : s.Ok) (hg : g < s.sp.length) (hm : memS s g c ≠ []) (h0 : (bestM topM (memS s g c)).k ≠ 0) : qcb s c g = qcb s c (bestM topM (memS s g c)).id ∧ g < (bestM topM (memS s g c)).id ∧ (bestM topM (memS s g c)).id < s.sp.length := by
 rcases qc2 hok hm with ⟨h, _⟩ | ⟨h, j, h3, h4, h5, _⟩
 ·exact absurd h h0
 ·rw [h3]
  refine ⟨?_, h4, h5⟩
  unfold qcb
  obtain ⟨k, hk⟩ : ∃ k, s.sp.length - g = k + 1 := ⟨s.sp.length - g - 1, by omega⟩
  rw [hk, qdd, if_neg (by simpa using hm), if_neg h0, h3]
  exact qk3 hok (s.sp.length - j) _ _ j h5 (Nat.le_refl _) om (Nat.le_refl _)
def loadN (l : List Tk) (c : Nat) : Int := (l.map fun t => if t.ready && decide (t.cpu = (c : Int)) then t.weight else (0 : Int)).sum
theorem qg8 {l : List Tk} {k : Nat} (h : k < l.length) : loadN (l.take (k + 1)) c = loadN (l.take k) c + (if (l.getD k Tk.zero).ready && decide ((l.getD k Tk.zero).cpu = (c : Int)) then (l.getD k Tk.zero).weight else (0 : Int)) := by
 unfold loadN
 rw [qcz Tk.zero h, List.map_append, List.sum_append]
 simp
theorem qdo {l : List Tk} (hw : ∀ t ∈ l, 1 ≤ t.weight ∧ t.weight ≤ 65536) : 0 ≤ loadN l c ∧ loadN l c ≤ 65536 * l.length := by
 induction l with
 | nil => exact ⟨Int.le_refl _, Int.le_refl _⟩
 | cons t r ih =>
  have h1 := ih fun x hx => hw x (List.mem_cons_of_mem _ hx)
  have h2 := hw t (List.mem_cons_self ..)
  have e : loadN (t :: r) c = (if t.ready && decide (t.cpu = (c : Int)) then t.weight else (0 : Int)) + loadN r c := rfl
  rw [e, List.length_cons]
  split <;> omega
theorem qc3 {l : List Tk} (hw : ∀ t ∈ l, 1 ≤ t.weight ∧ t.weight ≤ 65536) (k : Nat) : 0 ≤ loadN (l.take k) c ∧ loadN (l.take k) c ≤ 65536 * l.length := by
 have h1 := qdo (c := c) (l := l.take k) fun t ht => hw t (List.mem_of_mem_take ht)
 rw [List.length_take] at h1
 have : min k l.length ≤ l.length := Nat.min_le_right ..
 omega
theorem qnf {l : List Nat} {k : Nat} (h : k < l.length) : wakeS s (l.take (k + 1)) c = wake1 c (wakeS s (l.take k) c) (l.getD k 0) := by
 unfold wakeS
 rw [qcz 0 h, List.foldl_append]
 rfl
end
def SpsOk (gs : List Gr) (cp : Int) (rs : List Rw) : Prop := ∀ g, g < rs.length → ((rs.getD g Rw.zero).l.length : Int) = cp ∧ ∀ z ∈ (rs.getD g Rw.zero).l, z.Ok ∧ entOk z.v z.r (gs.getD g Gr.zero).weight = true
section
variable {x : Stm} {ng nl nu nt ns g c : Nat}
theorem MdOk.spots (h : MdOk x ng nl nu nt ns) : SpsOk x.gs x.cpus x.rs := fun g hg => by
 have h1 := qg2 hg (h.sh.row g hg)
 refine ⟨h1.1, fun z hz => ?_⟩
 obtain ⟨c, hc, rfl⟩ := List.getElem_of_mem hz
 have e : (x.rs.getD g Rw.zero).l.getD c Sp.zero = (x.rs.getD g Rw.zero).l[c] := by rw [List.getD_eq_getElem?_getD, List.getElem?_eq_getElem hc]; rfl
 refine ⟨h.ok.sp _ (by rw [← rs_at hg]; exact qm [] (by rw [zl]; exact hg)) _ (List.getElem_mem hc), ?_⟩
 have h2 := h1.2 c hc
 rw [e] at h2
 unfold spOk at h2
 rw [Bool.and_eq_true] at h2
 exact h2.1
theorem SpsOk.put {gs : List Gr} {cp : Int} {rs : List Rw} (h : SpsOk gs cp rs) (z : Sp) (hz : z.Ok) (he : entOk z.v z.r (gs.getD g Gr.zero).weight = true) : SpsOk gs cp (rsPut rs g c z) := fun k hk => by
 rw [qr] at hk
 by_cases hg : g = k
 ·subst hg
  rw [qb3 hk]
  refine ⟨by show (((rs.getD g Rw.zero).l.set c z).length : Int) = cp; rw [List.length_set]; exact (h g hk).1, fun y hy => ?_⟩
  rcases List.mem_or_eq_of_mem_set hy with h1 | rfl
  ·exact (h g hk).2 y h1
  ·exact ⟨hz, he⟩
 ·rw [qc0 hg]; exact h k hk
theorem qk4 {z : Sp} (hg : g < x.rs.length) : ({ x with rs := rsPut x.rs g c z } : Stm).sta = x.sta.qc9 g c z := by
 unfold Stm.sta Sta.qc9
 simp only [qvg hg]
theorem qag {yA : Option Addr} {yc : Nat} {yl : List Sp} {z : Sp} (hg : g < x.rs.length) (hy : x.rs.getD g Rw.zero = ⟨yA, yc, yl⟩) (hz : yl[c]? = some z) : x.sta.spot g c = z := by
 rw [qpm hg, hy, List.getD_eq_getElem?_getD, hz]
 rfl
theorem qeb {rs : List Rw} {yA : Option Addr} {yc : Nat} {yl : List Sp} {z : Sp} (hg : g < rs.length) (hy : rs.getD g Rw.zero = ⟨yA, yc, yl⟩) : (rsPut rs g c z).getD g Rw.zero = ⟨yA, yc, yl.set c z⟩ := by rw [qb3 hg, hy]
theorem qjn {p wt : Nat} {z pz : Sp} {yA pA : Option Addr} {yc pc : Nat} {yl pl : List Sp} {e : En} (hg : g < x.rs.length) (hy : x.rs.getD g Rw.zero = ⟨yA, yc, yl⟩) (hz : yl[c]? = some z) (hp : (x.gs.getD g Gr.zero).parent = (p : Int)) (hpl : p < x.rs.length) (hpy : x.rs.getD p Rw.zero = ⟨pA, pc, pl⟩) (hpz : pl[c]? = some pz) (hw : (x.gs.getD g Gr.zero).weight = (wt : Int)) (he : (⟨z.v, z.r, wt⟩ : En).woken pz.floor x.credit = e) :
  ({ x with rs := rsPut x.rs g c { z with v := e.v, r := e.r } } : Stm).sta = wake1 c x.sta g := by
 rw [qk4 hg]
 unfold wake1 Sta.qfd
 have e1 : x.sta.spEn g c = ⟨z.v, z.r, wt⟩ := by
  unfold Sta.spEn
  rw [qag hg hy hz, show (x.sta.gs.getD g Gr.zero).weight = (wt : Int) from hw]
  rfl
 have e2 : (x.sta.par g).toNat = p := by rw [show x.sta.par g = (p : Int) from hp]; rfl
 rw [e1, e2, qag hg hy hz, qag hpl hpy hpz, show x.sta.credit = x.credit from rfl, he]
theorem qdp {wt d : Nat} {z : Sp} {yA : Option Addr} {yc : Nat} {yl : List Sp} {e : En} (hg : g < x.rs.length) (hy : x.rs.getD g Rw.zero = ⟨yA, yc, yl⟩) (hz : yl[c]? = some z) (hw : (x.gs.getD g Gr.zero).weight = (wt : Int)) (he : (⟨z.v, z.r, wt⟩ : En).add d = e) :
  ({ x with rs := rsPut x.rs g c { z with v := e.v, r := e.r } } : Stm).sta = x.sta.qfd g c ((x.sta.spEn g c).add d) := by
 rw [qk4 hg]
 unfold Sta.qfd
 have e1 : x.sta.spEn g c = ⟨z.v, z.r, wt⟩ := by
  unfold Sta.spEn
  rw [qag hg hy hz, show (x.sta.gs.getD g Gr.zero).weight = (wt : Int) from hw]
  rfl
 rw [e1, qag hg hy hz, he]
theorem En.qhu {e : En} (h : e.Ok) (d : Nat) : (e.add d).Ok ∧ (e.add d).w = e.w := by
 have h1 : 1 ≤ e.w ∧ e.w ≤ 65536 ∧ e.r < e.w ∧ (e.v < 18446744073709551615 ∨ e.r = 0) := by
  have := h.1
  unfold entOk at this
  rw [decide_eq_true_eq] at this
  omega
 have hv := h.2
 have hm := Nat.mod_lt (d * 1048576 + e.r) (show e.w > 0 by omega)
 unfold En.add
 have hE : endV = 18446744073709551615 := rfl
 split
 ·refine ⟨⟨?_, by show endV < _; omega⟩, rfl⟩
  unfold entOk; rw [decide_eq_true_eq]
  exact ⟨by show (1 : Int) ≤ (e.w : Int); omega, by show (e.w : Int) ≤ _; omega, by show ((0 : Nat) : Int) < (e.w : Int); omega, .inr rfl⟩
 ·refine ⟨⟨?_, by show e.v + _ < _; omega⟩, rfl⟩
  unfold entOk; rw [decide_eq_true_eq]
  exact ⟨by show (1 : Int) ≤ (e.w : Int); omega, by show (e.w : Int) ≤ _; omega, by show (((d * 1048576 + e.r) % e.w : Nat) : Int) < (e.w : Int); omega, .inl (by show e.v + _ < _; omega)⟩
theorem En.qc8 {e : En} (h : e.Ok) (fl cr : Nat) (hf : fl < 18446744073709551616) : (e.woken fl cr).Ok ∧ (e.woken fl cr).w = e.w := by
 unfold En.woken
 split
 ·refine ⟨⟨?_, by show fl - cr < _; omega⟩, rfl⟩
  have h1 := h.1
  unfold entOk at h1 ⊢
  rw [decide_eq_true_eq] at h1 ⊢
  exact ⟨h1.1, h1.2.1, by show ((0 : Nat) : Int) < (e.w : Int); omega, .inr rfl⟩
 ·exact ⟨h, rfl⟩
theorem En.qi2 {e : En} (h : e.Ok) (fr to : Nat) (hto : to < 18446744073709551616) : (e.moved fr to).Ok ∧ (e.moved fr to).w = e.w := by
 have h1 := h.1
 unfold entOk at h1
 rw [decide_eq_true_eq] at h1
 have hv := h.2
 have hE : endV = 18446744073709551615 := rfl
 have hm : qas e.v fr to < 18446744073709551616 := by
  unfold qas
  split
  ·have : min (e.v - fr) (endV - to) ≤ endV - to := Nat.min_le_right ..
   omega
  ·omega
 refine ⟨⟨?_, hm⟩, rfl⟩
 unfold entOk
 rw [decide_eq_true_eq]
 show (1 : Int) ≤ (e.w : Int) ∧ (e.w : Int) ≤ 65536 ∧ (((if qas e.v fr to = endV then 0 else e.r : Nat) : Int)) < (e.w : Int) ∧ (qas e.v fr to < 18446744073709551615 ∨ (if qas e.v fr to = endV then 0 else e.r) = 0)
 split
 ·exact ⟨h1.1, h1.2.1, by omega, .inr rfl⟩
 ·exact ⟨h1.1, h1.2.1, h1.2.2.1, .inl om⟩
theorem qbt {l : List Gr} (h : gsOk l = true) (hg : g < l.length) : ∃ w : Nat, (l.getD g Gr.zero).weight = (w : Int) ∧ 1 ≤ w ∧ w ≤ 65536 := by
 have := wt_at h hg
 exact ⟨(l.getD g Gr.zero).weight.toNat, by omega, by omega, by omega⟩
end
theorem qng {s s' : Sta} {c : Nat} (ht : s.ts = s'.ts) (hg : s.gs = s'.gs) (hl : s.sp.length = s'.sp.length) (hv : ∀ h, (s.spot h c).v = (s'.spot h c).v) (g : Nat) : memS s g c = memS s' g c := by
 have key : ∀ f g, memF s c f g = memF s' c f g := by
  intro f
  induction f with
  | zero => intro g; show s.ts.filterMap _ = s'.ts.filterMap _; rw [ht]
  | succ f ih =>
   intro g
   rw [memF, memF, ht, hl]
   congr 1
   refine qap fun h _ => ?_
   unfold grpM
   rw [ih h, hv h, show s.par h = s'.par h by unfold Sta.par; rw [hg]]
 unfold memS
 rw [hl]
 exact key _ g
section
variable {x : Stm} {ng nl nu nt ns g c h d : Nat} {rs2 : List Rw}
def Risen (x : Stm) (rs2 : List Rw) (g c : Nat) : Prop := rs2.length = x.rs.length ∧ (∀ h, (rs2.getD h Rw.zero).l.length = (x.rs.getD h Rw.zero).l.length) ∧ ∀ h d, h < x.rs.length → d < (x.rs.getD h Rw.zero).l.length → (rs2.getD h Rw.zero).l.getD d Sp.zero = if h < g ∨ h = g ∧ d < c then rise1 x.sta h d ((x.rs.getD h Rw.zero).l.getD d Sp.zero) else (x.rs.getD h Rw.zero).l.getD d Sp.zero
theorem qg9 : Risen x x.rs 0 0 := ⟨rfl, fun _ => rfl, fun h d _ _ => by rw [if_neg om]⟩
theorem qpv (s : Sta) (g c : Nat) (z : Sp) : (rise1 s g c z).v = z.v ∧ (rise1 s g c z).r = z.r := by
 unfold rise1
 split <;> exact ⟨rfl, rfl⟩
theorem qff (y : Stm) (h d : Nat) : y.sta.spot h d = (y.rs.getD h Rw.zero).l.getD d Sp.zero := by
 rcases Nat.lt_or_ge h y.rs.length with h1 | h1
 ·exact qpm h1
 ·unfold Sta.spot
  have e1 : y.sta.sp.getD h [] = [] := by rw [List.getD_eq_getElem?_getD, List.getElem?_eq_none (by rw [zl]; exact h1)]; rfl
  have e2 : y.rs.getD h Rw.zero = Rw.zero := by rw [List.getD_eq_getElem?_getD, List.getElem?_eq_none h1]; rfl
  rw [e1, e2]
  rfl
theorem qvh (hR : Risen x rs2 g c) (h d : Nat) : (({ x with rs := rs2 } : Stm).sta.spot h d).v = (x.sta.spot h d).v := by
 rw [qff, qff]
 show ((rs2.getD h Rw.zero).l.getD d Sp.zero).v = _
 rcases Nat.lt_or_ge h x.rs.length with h1 | h1
 ·rcases Nat.lt_or_ge d (x.rs.getD h Rw.zero).l.length with h2 | h2
  ·rw [hR.2.2 h d h1 h2]
   split
   ·exact (qpv ..).1
   ·rfl
  ·have h3 := hR.2.1 h
   rw [List.getD_eq_getElem?_getD, List.getElem?_eq_none om, List.getD_eq_getElem?_getD, List.getElem?_eq_none h2]
 ·have e1 : rs2.getD h Rw.zero = Rw.zero := by rw [List.getD_eq_getElem?_getD, List.getElem?_eq_none (by rw [hR.1]; exact h1)]; rfl
  have e2 : x.rs.getD h Rw.zero = Rw.zero := by rw [List.getD_eq_getElem?_getD, List.getElem?_eq_none h1]; rfl
  rw [e1, e2]
theorem qjo (hR : Risen x rs2 g c) (h d : Nat) : memS ({ x with rs := rs2 } : Stm).sta h d = memS x.sta h d :=
 qng (s := ({ x with rs := rs2 } : Stm).sta) (s' := x.sta) rfl rfl (by rw [zl, zl]; exact hR.1) (fun k => qvh hR k d) h
theorem qx {α : Type} {l : List α} {k : Nat} {u : α} (d : α) (h : l[k]? = some u) : l.getD k d = u := by rw [List.getD_eq_getElem?_getD, h]; rfl
theorem qha (hR : Risen x rs2 g c) (hg : g < x.rs.length) (hc : c < (x.rs.getD g Rw.zero).l.length) {z z' : Sp} (hz : (rs2.getD g Rw.zero).l[c]? = some z) (hz' : rise1 x.sta g c z = z') : Risen x (rsPut rs2 g c z') g (c + 1) := by
 have h0 := hR.2.2 g c hg hc
 rw [if_neg om, qx Sp.zero hz] at h0
 refine ⟨by rw [qr]; exact hR.1, fun h => ?_, fun h d hh hd => ?_⟩
 ·by_cases e : g = h
  ·subst e
   rw [qb3 (by rw [hR.1]; exact hg)]
   show ((rs2.getD g Rw.zero).l.set c z').length = _
   rw [List.length_set]; exact hR.2.1 g
  ·rw [qc0 e]; exact hR.2.1 h
 ·by_cases e : g = h
  ·subst e
   rw [qb3 (by rw [hR.1]; exact hg)]
   show ((rs2.getD g Rw.zero).l.set c z').getD d Sp.zero = _
   by_cases e2 : c = d
   ·subst e2
    rw [qg _ _ (by rw [hR.2.1 g]; exact hc), if_pos om, ← h0, hz']
   ·rw [getD_set_ne _ _ e2, hR.2.2 g d hh hd]
    by_cases e3 : d < c
    ·rw [if_pos om, if_pos om]
    ·rw [if_neg om, if_neg om]
  ·rw [qc0 e, hR.2.2 h d hh hd]
   by_cases e3 : h < g
   ·rw [if_pos om, if_pos om]
   ·rw [if_neg om, if_neg om]
theorem qnh (hR : Risen x rs2 g c) (hm : memS x.sta g c = []) : Risen x rs2 g (c + 1) := by
 refine ⟨hR.1, hR.2.1, fun h d hh hd => ?_⟩
 rw [hR.2.2 h d hh hd]
 by_cases e : h < g ∨ h = g ∧ d < c
 ·rw [if_pos e, if_pos om]
 ·rw [if_neg e]
  by_cases e2 : h = g ∧ d = c
  ·rw [if_pos om, e2.1, e2.2]
   unfold rise1
   rw [if_pos (by rw [hm]; rfl)]
  ·rw [if_neg om]
theorem qni (hR : Risen x rs2 g c) (hg : g < x.rs.length) (hc : c < (x.rs.getD g Rw.zero).l.length) {z : Sp} (hz : (rs2.getD g Rw.zero).l[c]? = some z) (hz' : rise1 x.sta g c z = z) : Risen x rs2 g (c + 1) := by
 have h0 := hR.2.2 g c hg hc
 rw [if_neg om, qx Sp.zero hz] at h0
 refine ⟨hR.1, hR.2.1, fun h d hh hd => ?_⟩
 rw [hR.2.2 h d hh hd]
 by_cases e : h < g ∨ h = g ∧ d < c
 ·rw [if_pos e, if_pos om]
 ·rw [if_neg e]
  by_cases e2 : h = g ∧ d = c
  ·rw [if_pos om, e2.1, e2.2, ← h0, hz']
  ·rw [if_neg om]
theorem qjp (hR : Risen x rs2 g c) (hc : (x.rs.getD g Rw.zero).l.length ≤ c) : Risen x rs2 (g + 1) 0 := by
 refine ⟨hR.1, hR.2.1, fun h d hh hd => ?_⟩
 rw [hR.2.2 h d hh hd]
 by_cases e : h < g ∨ h = g ∧ d < c
 ·rw [if_pos e, if_pos om]
 ·have : h ≠ g := fun e2 => e (by subst e2; exact .inr ⟨rfl, by omega⟩)
  rw [if_neg e, if_neg om]
theorem qjq (hR : Risen x rs2 g 0) (hg : x.rs.length ≤ g) : ({ x with rs := rs2 } : Stm).sta = riseS x.sta := by
 have h1 : rs2.map Rw.l = (x.rs.map Rw.l).mapIdx fun g l => l.mapIdx fun c z => rise1 x.sta g c z := by
  apply List.ext_getElem
  ·rw [List.length_map, List.length_mapIdx, List.length_map, hR.1]
  ·intro h h2 h3
   rw [List.length_map] at h2
   have hx : h < x.rs.length := by rw [← hR.1]; exact h2
   rw [List.getElem_map, List.getElem_mapIdx, List.getElem_map]
   have e1 : rs2.getD h Rw.zero = rs2[h] := by rw [List.getD_eq_getElem?_getD, List.getElem?_eq_getElem h2]; rfl
   have e2 : x.rs.getD h Rw.zero = x.rs[h] := by rw [List.getD_eq_getElem?_getD, List.getElem?_eq_getElem hx]; rfl
   have hl := hR.2.1 h
   rw [e1, e2] at hl
   apply List.ext_getElem
   ·rw [List.length_mapIdx, hl]
   ·intro d h4 h5
    have hd : d < x.rs[h].l.length := by rw [← hl]; exact h4
    rw [List.getElem_mapIdx]
    have h6 := hR.2.2 h d hx (by rw [e2]; exact hd)
    rw [if_pos om, e1, e2, List.getD_eq_getElem?_getD, List.getElem?_eq_getElem h4, List.getD_eq_getElem?_getD, List.getElem?_eq_getElem hd] at h6
    exact h6
 show (⟨x.cpus, x.credit, x.gs, x.cl, x.cu, x.ts, rs2.map Rw.l⟩ : Sta) = _
 rw [h1]
 rfl
theorem qvi (hf : StFew x) (z : Sp) : StFew ({ x with rs := rsPut x.rs g c z } : Stm) := by
 refine ⟨hf.g, hf.l, hf.u, hf.t, by show (rsPut x.rs g c z).length ≤ _; rw [qr]; exact hf.s, fun y hy => ?_⟩
 rcases Nat.lt_or_ge g x.rs.length with hg | hg
 ·rcases List.mem_or_eq_of_mem_set hy with h1 | rfl
  ·exact hf.r y h1
  ·show ((x.rs.getD g Rw.zero).l.set c z).length ≤ _
   rw [List.length_set]
   exact hf.r _ (qm Rw.zero hg)
 ·have e : rsPut x.rs g c z = x.rs := by unfold rsPut; exact List.set_eq_of_length_le hg
  have hy' : y ∈ rsPut x.rs g c z := hy
  rw [e] at hy'
  exact hf.r y hy'
theorem MdOk.put (h : MdOk x ng nl nu nt ns) (hg : g < x.rs.length) (z : Sp) (hz : z.Ok) (hs : spOk x.sta g z = true) : MdOk ({ x with rs := rsPut x.rs g c z } : Stm) ng nl nu nt ns := by
 have hst := qk4 (x := x) (c := c) (z := z) hg
 have hspl : ({ x with rs := rsPut x.rs g c z } : Stm).sta.sp.length = x.sta.sp.length := by rw [zl, zl]; exact qr ..
 refine ⟨⟨h.ok.cpus, h.ok.credit, h.ok.gs, h.ok.cl, h.ok.cu, h.ok.ts, fun l hl y hy => ?_⟩, qvi h.few z, ⟨h.sh.cfg, h.sh.cl, h.sh.cu, by show (rsPut x.rs g c z).length = _; rw [qr]; exact h.sh.rs, h.sh.cls, fun k hk => ?_, fun i hi => ?_⟩, ⟨h.ln.g, h.ln.l, h.ln.u, h.ln.t, by show (rsPut x.rs g c z).length = _; rw [qr]; exact h.ln.s⟩⟩
 ·rw [hst] at hl
  rcases List.mem_or_eq_of_mem_set (show l ∈ x.sta.sp.set g ((x.sta.sp.getD g []).set c z) from hl) with h1 | rfl
  ·exact h.ok.sp l h1 y hy
  ·rcases List.mem_or_eq_of_mem_set hy with h2 | rfl
   ·exact h.ok.sp _ (qm [] (by rw [zl]; exact hg)) y h2
   ·exact hz
 ·have hk' : k < x.rs.length := by have h1 : k < (rsPut x.rs g c z).length := hk; rwa [qr] at h1
  have h1 := qg2 hk' (h.sh.row k hk')
  refine qu8 hk ?_ fun d hd => ?_
  ·show (((rsPut x.rs g c z).getD k Rw.zero).l.length : Int) = x.cpus
   by_cases e2 : g = k
   ·subst e2
    rw [qb3 hk']
    show (((x.rs.getD g Rw.zero).l.set c z).length : Int) = _
    rw [List.length_set]; exact h1.1
   ·rw [qc0 e2]; exact h1.1
  ·have hd' : d < ((rsPut x.rs g c z).getD k Rw.zero).l.length := hd
   show spOk x.sta k (((rsPut x.rs g c z).getD k Rw.zero).l.getD d Sp.zero) = true
   by_cases e2 : g = k
   ·subst e2
    rw [qb3 hk'] at hd' ⊢
    have hd2 : d < ((x.rs.getD g Rw.zero).l.set c z).length := hd'
    rw [List.length_set] at hd2
    show spOk x.sta g (((x.rs.getD g Rw.zero).l.set c z).getD d Sp.zero) = true
    by_cases e3 : c = d
    ·subst e3; rw [qg _ _ hd2]; exact hs
    ·rw [getD_set_ne _ _ e3]; exact h1.2 d hd2
   ·rw [qc0 e2] at hd' ⊢; exact h1.2 d hd'
 ·have h1 := h.sh.tk i hi
  unfold tkAt tkOk1 at h1 ⊢
  rw [hspl]
  exact h1
end
theorem qbu {v r w : Nat} (h : entOk v r w = true) : 1 ≤ w ∧ w ≤ 65536 ∧ r < w ∧ (v < 18446744073709551615 ∨ r = 0) := by
 unfold entOk at h
 rw [decide_eq_true_eq] at h
 omega
theorem qwu {v r w : Nat} (h : 1 ≤ w ∧ w ≤ 65536 ∧ r < w ∧ (v < 18446744073709551615 ∨ r = 0)) : entOk v r w = true := by
 unfold entOk
 rw [decide_eq_true_eq]
 omega
theorem qpw {fl z : Nat} (hf : fl < 18446744073709551616) (hz : 1 ≤ z ∧ z ≤ 65536) : (⟨fl, 0, z⟩ : En).Ok := ⟨qwu ⟨hz.1, hz.2, by show 0 < z; omega, .inr rfl⟩, hf⟩
theorem qbv (x : En) (hx : x.Ok) (w : World) : Calls Tryz.prog 99 #[.agg x.cells] w (Is w (.bool true)) := by
 have h1 := qbu hx.1
 have h2 := qnc x.v x.r x.w hx.2 om om w
 rw [hx.1] at h2
 exact h2
theorem qnj (z : Nat) (hz : 1 ≤ z ∧ z ≤ 65536) (w : World) : Calls Tryz.prog 124 #[vI z] w (Is w (.bool true)) := by
 have h2 := qe5 z w
 rw [decide_eq_true om] at h2
 exact h2
theorem qpx (x : En) (hx : x.Ok) (d : Nat) (hd : d ≤ 4294967295) (w : World) :
    Calls Tryz.prog 123 #[.agg x.cells, vI d] w (Is w (.agg (x.add d).cells)) := by
 have hxo := qbu hx.1
 have hxv := hx.2
 have hq1 := Nat.div_le_self (d * 1048576 + x.r) x.w
 have hq2 := Nat.mod_lt (d * 1048576 + x.r) (show x.w > 0 by omega)
 refine (JN2 Tryz.func123 42) ?_
 refine (JP∘JE) fun w2 g2 => (JA #[vQ 0, vW 0, vW 0]) fun w4 g4 => (Jr∘Jp 1∘Jw .u64∘Jp 1∘Jo (vQ (d * 1048576 : Nat)) (by exact qem om om)∘Jg 1 O1∘Jw .u64∘Ja∘Jp 1∘Jd6∘Jj) fun a I HM => ?_
 refine wp_seq ?_
 refine Jb I HM ((Vs .n []) fun wd2 => (Vp [0]∘Vf 1 2∘Vp [5]∘Vf 6 2∘Vc 2 O1∘Vw 3 .u64∘Vy 4 (v := vQ ((d * 1048576 + x.r) / x.w : Nat)) (h:=by exact Yl.quoN (m := (d * 1048576 + x.r)) (n := x.w) rfl rfl rfl om (by show _ ≤ 18446744073709551615; omega))∘Vp [10]∘Vc 7 O1∘Vw 8 .u64∘Vy 9 (v := vQ ((d * 1048576 + x.r) % x.w : Nat)) (h:=by exact Yl.remN (m := (d * 1048576 + x.r)) (n := x.w) rfl rfl rfl om)∘Vp [11]∘Vd∘Jd3∘JQ∘JP∘Jp 1∘Jg 0 O1∘Jp 1∘Jo (vQ (18446744073709551615 - x.v : Nat)) (by exact qem om om)∘Jp 1∘Jd3∘Jj) (Ji (fun hd29 => ?_) fun hd29 => ?_))
 ·
  refine (JT∘JP∘Jg 2 O1∘Jy (v := .agg #[vQ 18446744073709551615, vW 0, vW x.w]) (h:=by exact Yl.build (vs := [(0, vQ 18446744073709551615), (1, vW 0), (2, vW x.w)]) rfl kr kr)∘JV qp O0') fun w4_3 => (Jt2∘Jj∘JZ) fun a I HM => ?_
  exact ret1 rfl I (.cellS (i := 0) I HM rfl rfl qp rfl) (⟨by rw [show x.add d = ⟨endV, 0, x.w⟩ from if_pos (by show 18446744073709551615 - x.v ≤ _; omega)]; rfl, HM.below⟩)
 refine (JF∘JS'∘JP∘Jg 0 O1∘Jp 1∘Ja∘Jp 1∘Jv 1 [(38, vW (IntKind.u32.wrap (((d * 1048576 + x.r) % x.w : Nat) : Int)))]∘Jo (vW ((d * 1048576 + x.r) % x.w : Nat)) (by exact qen rfl om)∘Jg 2 O1∘Jy (v := .agg #[vQ (x.v + ((d * 1048576 + x.r) / x.w) : Nat), vW ((d * 1048576 + x.r) % x.w : Nat), vW x.w]) (h:=by exact Yl.build (vs := [(0, vQ (x.v + ((d * 1048576 + x.r) / x.w) : Nat)), (1, vW ((d * 1048576 + x.r) % x.w : Nat)), (2, vW x.w)]) rfl kr kr)∘JV qp O0') fun w5_9 => (Jt6∘Jj∘JZ) fun a I HM => ?_
 exact ret1 rfl I (.cellS (i := 0) I HM rfl rfl qp rfl) (⟨by rw [show x.add d = ⟨x.v + (d * 1048576 + x.r) / x.w, (d * 1048576 + x.r) % x.w, x.w⟩ from if_neg (by show ¬ 18446744073709551615 - x.v ≤ _; omega)]; rfl, HM.below⟩)
theorem qnk (d : Int) (w : World) : Calls Tryz.prog 122 #[vI d] w (Is w (.bool (decide (0 ≤ d ∧ d ≤ 4294967295)))) := by
 refine (JN1 Tryz.func122 9) ?_
 refine (JP∘Jp 1∘Jr∘Jp 3) (Ji (fun hd5 => ?_) fun hd5 => ?_)
 ·
  exact (Jp 4∘Jd6∘Jj∘JZ∘Jz1) fun HM => qcl om HM.below
 exact (Jp 4∘Jd6∘Jj∘JZ∘Jz1) fun HM => is_no om HM.below
theorem qnl (d : Nat) (hd : d ≤ 4294967295) (w : World) : Calls Tryz.prog 122 #[vI d] w (Is w (.bool true)) := by
 have h2 := qnk d w
 rw [decide_eq_true om] at h2
 exact h2
theorem qsy (x : En) (hx : x.Ok) (d : Nat) (hd : d ≤ 4294967295) (w : World) :
    Calls Tryz.prog 92 #[.agg x.cells, vI d] w (Is w (.tuple #[.agg (x.add d).cells, vI 0])) := by
 refine (JN2 Tryz.func92 18) ?_
 refine (JP∘JE) fun w2 g2 => (JA #[vQ 0, vW 0, vW 0]) fun w4 g4 => (Jp 1∘Jj∘JQ∘JP∘Jy (v := .agg x.cells) (h:=by exact Yl.loadS rfl rfl qp rfl (fun _ h => qa (h.blk (i := 1) rfl)))∘JI (h:=by exact fun HM => qbv x hx _)) fun w7 hbw => (Jp 3∘JI (h:=by exact fun HM => qnl d hd _)) fun w11 hbw => (Jp 2∘Jd6∘Jj∘JF∘JS'∘JP∘Jy (v := .agg x.cells) (h:=by exact Yl.loadS rfl rfl qp rfl (fun _ h => qa (h.blk (i := 1) rfl)))∘Jp 1∘JI (h:=by exact fun HM => qpx x hx d hd _)) fun w17 hbw => (JV qp O0' (h1:=by exact qw (x.add d))) fun w3_3 => (Jp 1∘Jd3∘Jj∘JZ) fun a I HM => ?_
 exact ret2 rfl I (.cellS (i := 0) I HM rfl rfl qp rfl) (.tmp I rfl) (⟨rfl, HM.below⟩)
theorem qbw (x : En) (hx : x.Ok) (z : Nat) (hz : 1 ≤ z ∧ z ≤ 65536) (w : World) :
    Calls Tryz.prog 93 #[.agg x.cells, vI z] w (Is w (.tuple #[.agg (⟨x.v, 0, z⟩ : En).cells, vI 0])) := by
 refine (JN2 Tryz.func93 20) ?_
 refine (JP∘JE) fun w2 g2 => (JA #[vQ 0, vW 0, vW 0]) fun w4 g4 => (Jp 1∘Jj∘JQ∘JP∘Jy (v := .agg x.cells) (h:=by exact Yl.loadS rfl rfl qp rfl (fun _ h => qa (h.blk (i := 1) rfl)))∘JI (h:=by exact fun HM => qbv x hx _)) fun w7 hbw => (Jp 3∘JI (h:=by exact fun HM => qnj z hz _)) fun w11 hbw => (Jp 2∘Jd6∘Jj∘JF∘JS'∘JP∘Jg 0 O1∘Jp 1∘Jv 1 [(18, vW (IntKind.u32.wrap (z : Int)))]∘Jo (vW z) (by exact qen rfl om)∘Jy (v := .agg #[vQ x.v, vW 0, vW z]) (h:=by exact Yl.build (vs := [(0, vQ x.v), (1, vW 0), (2, vW z)]) rfl kr kr)∘JV qp O0') fun w3_5 => (Jp 1∘Jd4∘Jj∘JZ) fun a I HM => ?_
 exact ret2 rfl I (.cellS (i := 0) I HM rfl rfl qp rfl) (.tmp I rfl) (⟨rfl, HM.below⟩)
theorem ql7 (a_ b_ : Nat) (ha : a_ < 18446744073709551616) (hb : b_ < 18446744073709551616) (w : World) :
    Calls Tryz.prog 121 #[vQ a_, vQ b_] w (Is w (vQ ((a_ - b_ : Nat) : Int))) := by
 refine (JN2 Tryz.func121 10) ?_
 exact (JP∘Jp 1∘Jr∘Jp 3∘Jy (v := vQ (if (b_ : Int) < (a_ : Int) then (b_ : Int) else (a_ : Int))) (h:=by exact Yl.min rfl rfl rfl)∘Jp 1∘Jo (vQ (a_ - b_ : Nat)) (by split <;> exact (qem (m := a_ - b_) om om))∘Jp 1∘Jd5∘Jj∘JZ) JY1
theorem qvj (a_ b_ : Nat) (ha : a_ < 18446744073709551616) (hb : b_ < 18446744073709551616) (w : World) :
    Calls Tryz.prog 137 #[vQ a_, vQ b_] w (Is w (vQ ((a_ + min b_ (18446744073709551615 - a_) : Nat) : Int))) := by
 refine (JN2 Tryz.func137 11) ?_
 exact (JP∘Jp 1∘Jr∘Jp 4∘Jo (vQ (18446744073709551615 - a_ : Nat)) (by exact qem om om)∘Jy (v := vQ (if ((18446744073709551615 - a_ : Nat) : Int) < (b_ : Int) then ((18446744073709551615 - a_ : Nat) : Int) else (b_ : Int))) (h:=by exact Yl.min rfl rfl rfl)∘Jo (vQ (min b_ (18446744073709551615 - a_) : Nat)) (by rw [Nat.min_def]; split <;> split <;> first | rfl | (congr 1; omega))∘Jp 1∘Jo (vQ (a_ + min b_ (18446744073709551615 - a_) : Nat)) (by exact qem om om)∘Jp 1∘Jd6∘Jj∘JZ) JY1
theorem ql8 (fl z : Nat) (hf : fl < 18446744073709551616) (hz : 1 ≤ z ∧ z ≤ 65536) (w : World) :
    Calls Tryz.prog 83 #[vQ fl, vI z] w (Is w (.tuple #[.agg (⟨fl, 0, z⟩ : En).cells, vI 0])) := by
 refine (JN2 Tryz.func83 23) ?_
 refine (JP∘JA #[vQ 0, vW 0, vW 0]) fun w4 g4 => (Jp 1∘Jr∘Jp 2∘Jv 1 [(9, vW (IntKind.u32.wrap (z : Int)))]∘Jo (vW z) (by exact qen rfl om)∘Jy (v := .agg #[vQ fl, vW 0, vW z]) (h:=by exact Yl.build (vs := [(0, vQ fl), (2, vW z)]) rfl kr kr)∘JA #[vQ 0, vW 0, vW 0]) fun w6 g6 => (JV qp O0') fun w1_5 => (Jd4∘Jj∘JQ∘JP∘Jg 2 O0∘Jw .i64∘Jp 2∘Jo (.bool false) (by simp)∘Jp 1∘Jy (v := .agg #[vQ fl, vW 0, vW z]) (h:=by exact Yl.loadS rfl rfl qp rfl (fun _ h => qa (h.blk (i := 0) rfl)))∘JI (h:=by exact fun HM => qbv (⟨fl, 0, z⟩ : En) (qpw hf hz) _)) fun w18 hbw => (Jp 2∘Jd6∘Jj∘JF∘JS'∘JP∘Jy (v := .agg #[vQ fl, vW 0, vW z]) (h:=by exact Yl.loadS rfl rfl qp rfl (fun _ h => qa (h.blk (i := 0) rfl)))∘JV qp O1') fun w4_1 => (Jp 1∘Jd1∘Jj∘JZ) fun a I HM => ?_
 exact ret2 rfl I (.cellS (i := 1) I HM rfl rfl qp rfl) (.tmp I rfl) (⟨rfl, HM.below⟩)
theorem qpy (x : En) (hx : x.Ok) (fl cr : Nat) (hf : fl < 18446744073709551616) (hc : cr < 18446744073709551616) (w : World) :
    Calls Tryz.prog 89 #[.agg x.cells, vQ fl, vQ cr] w (Is w (.tuple #[.agg (x.woken fl cr).cells, vI 0])) := by
 have hxv := hx.2
 refine (JN3 Tryz.func89 25) ?_
 refine (JP∘JE) fun w3 g3 => (JA #[vQ 0, vW 0, vW 0]) fun w6 g6 => (Jp 1∘Jj∘JQ∘JP∘Jy (v := .agg x.cells) (h:=by exact Yl.loadS rfl rfl qp rfl (fun _ h => qa (h.blk (i := 1) rfl)))∘JI (h:=by exact fun HM => qbv x hx _)) fun w10 hbw => (Jp 1∘Jd2∘Jj∘JF∘JS'∘JQ∘JP∘Jp 2∘JI (h:=by exact fun HM => ql7 fl cr hf hc _)) fun w15 hbw => (Jp 1∘Jd3∘Jr∘Jp 1∘Jg 0 O1∘Jp 1∘Jd2∘Jj) (Ji (fun hd19 => ?_) fun hd19 => ?_)
 ·
  refine (JT∘JP∘Jp 1∘Jg 2 O1∘Jy (v := .agg #[vQ (fl - cr : Nat), vW 0, vW x.w]) (h:=by exact Yl.build (vs := [(0, vQ (fl - cr : Nat)), (2, vW x.w)]) rfl kr kr)∘JV qp O0') fun w5_4 => (Jp 1∘Jd3∘Jj∘JZ) fun a I HM => ?_
  exact ret2 rfl I (.cellS (i := 0) I HM rfl rfl qp rfl) (.tmp I rfl) (⟨by rw [show x.woken fl cr = ⟨fl - cr, 0, x.w⟩ from if_pos om]; rfl, HM.below⟩)
 refine (JF∘JS'∘JP∘Jy (v := .agg x.cells) (h:=by exact Yl.loadS rfl rfl qp rfl (fun _ h => qa (h.blk (i := 1) rfl)))∘JV qp O0' (h1:=by exact qw x)) fun w6_1 => (Jp 1∘Jd1∘Jj∘JZ) fun a I HM => ?_
 exact ret2 rfl I (.cellS (i := 0) I HM rfl rfl qp rfl) (.tmp I rfl) (⟨by rw [show x.woken fl cr = x from if_neg om], HM.below⟩)
theorem qpz (x : En) (hx : x.Ok) (fr to : Nat) (hfr : fr < 18446744073709551616) (hto : to < 18446744073709551616) (w : World) :
    Calls Tryz.prog 126 #[.agg x.cells, vQ fr, vQ to] w (Is w (.tuple #[.agg (x.moved fr to).cells, vI 0])) := by
 have hxv := hx.2
 refine (JN3 Tryz.func126 35) ?_
 refine (JP∘JE) fun w3 g3 => (JA #[vQ 0, vW 0, vW 0]) fun w6 g6 => (Jp 1∘Jj∘JQ∘JP∘Jy (v := .agg x.cells) (h:=by exact Yl.loadS rfl rfl qp rfl (fun _ h => qa (h.blk (i := 1) rfl)))∘JI (h:=by exact fun HM => qbv x hx _)) fun w9 hbw => (Jp 1∘Jd2∘Jj∘JF∘JS'∘JQ∘JP∘Jg 0 O1∘Jp 2∘Jd2∘Jj) (Ju (fun hb15 => ?_) fun hb15 => ?_)
 ·
  intro a I HM
  have hd15 := of_decide_eq_true hb15
  have hmv : qas x.v fr to = to + min (x.v - fr) (18446744073709551615 - to) := if_pos om
  refine Jb I HM ((JT∘JR∘Jp 1∘Jg 0 O1∘Jp 1∘Js∘JI (h:=by exact fun HM => qvj to (x.v - fr) hto om _)) fun w21 hbw => (Jf 0) fun a I HM => ?_)
  refine fo I 7 rfl rfl ?_
  refine zr I HM (i := 1) rfl rfl rfl rfl kr rfl rfl (by simp [En.cells]) fun w4_7 HM => ?_
  refine Jb I HM ((Jt6∘Jj∘JQ∘JP∘Jg 0 O1∘Jp 1∘Jd1∘Jj) (Je (fun hd32 => ?_) fun hd32 => ?_))
  ·
   refine (JT∘JR∘Jf 1∘JW O1' O1') fun w7_1 => (Jt1∘Jr∘Jy (v := .agg #[vQ (to + min (x.v - fr) (18446744073709551615 - to) : Nat), vW 0, vW x.w]) (h:=by exact Yl.loadS rfl rfl qp rfl (fun _ h => qa (h.blk (i := 1) rfl)))∘JV qp O0') fun w8_1 => (Jp 1∘Jd1∘Jj∘JZ) fun a I HM => ?_
   exact ret2 rfl I (.cellS (i := 0) I HM rfl rfl qp rfl) (.tmp I rfl) (⟨by rw [show x.moved fr to = ⟨qas x.v fr to, 0, x.w⟩ from congrArg (fun r => (⟨_, r, _⟩ : En)) (if_pos (by rw [hmv]; show _ = 18446744073709551615; omega)), hmv]; rfl, HM.below⟩)
  refine (JF∘JS'∘JP∘Jy (v := .agg #[vQ (to + min (x.v - fr) (18446744073709551615 - to) : Nat), vW x.r, vW x.w]) (h:=by exact Yl.loadS rfl rfl qp rfl (fun _ h => qa (h.blk (i := 1) rfl)))∘JV qp O0') fun w8_1 => (Jp 1∘Jd1∘Jj∘JZ) fun a I HM => ?_
  exact ret2 rfl I (.cellS (i := 0) I HM rfl rfl qp rfl) (.tmp I rfl) (⟨by rw [show x.moved fr to = ⟨qas x.v fr to, x.r, x.w⟩ from congrArg (fun r => (⟨_, r, _⟩ : En)) (if_neg (by rw [hmv]; show ¬ _ = 18446744073709551615; omega)), hmv]; rfl, HM.below⟩)
 intro a I HM
 have hd15 := of_decide_eq_false hb15
 have hmv : qas x.v fr to = to - (fr - x.v) := (if_neg om).trans om
 refine Jb I HM ((JF∘JR∘Jp 2∘Jg 0 O1∘Js∘JI (h:=by exact fun HM => ql7 to (fr - x.v) hto om _)) fun w28 hbw => (Jf 0) fun a I HM => ?_)
 refine fo I 7 rfl rfl ?_
 refine zr I HM (i := 1) rfl rfl rfl rfl kr rfl rfl (by simp [En.cells]) fun w5_7 HM => ?_
 refine Jb I HM ((Jt6∘Jj∘JQ∘JP∘Jg 0 O1∘Jp 1∘Jd1∘Jj) (Je (fun hd32 => ?_) fun hd32 => ?_))
 ·
  refine (JT∘JR∘Jf 1∘JW O1' O1') fun w7_1 => (Jt1∘Jr∘Jy (v := .agg #[vQ (to - (fr - x.v) : Nat), vW 0, vW x.w]) (h:=by exact Yl.loadS rfl rfl qp rfl (fun _ h => qa (h.blk (i := 1) rfl)))∘JV qp O0') fun w8_1 => (Jp 1∘Jd1∘Jj∘JZ) fun a I HM => ?_
  exact ret2 rfl I (.cellS (i := 0) I HM rfl rfl qp rfl) (.tmp I rfl) (⟨by rw [show x.moved fr to = ⟨qas x.v fr to, 0, x.w⟩ from congrArg (fun r => (⟨_, r, _⟩ : En)) (if_pos (by rw [hmv]; show _ = 18446744073709551615; omega)), hmv]; rfl, HM.below⟩)
 refine (JF∘JS'∘JP∘Jy (v := .agg #[vQ (to - (fr - x.v) : Nat), vW x.r, vW x.w]) (h:=by exact Yl.loadS rfl rfl qp rfl (fun _ h => qa (h.blk (i := 1) rfl)))∘JV qp O0') fun w8_1 => (Jp 1∘Jd1∘Jj∘JZ) fun a I HM => ?_
 exact ret2 rfl I (.cellS (i := 0) I HM rfl rfl qp rfl) (.tmp I rfl) (⟨by rw [show x.moved fr to = ⟨qas x.v fr to, x.r, x.w⟩ from congrArg (fun r => (⟨_, r, _⟩ : En)) (if_neg (by rw [hmv]; show ¬ _ = 18446744073709551615; omega)), hmv]; rfl, HM.below⟩)
theorem qba {α : Type} {l : List α} {i : Nat} {t u : α} (h : l[i]? = some t) : (l.set i u)[i]? = some u := List.getElem?_set_self (List.getElem?_eq_some_iff.1 h).1
theorem Upd.split {α : Type} {a b : α} {l m : List α} (h : Upd a b l m) : ∃ p q, l = p ++ a :: q ∧ m = p ++ b :: q := by
 induction h with
 | z => exact ⟨[], _, rfl, rfl⟩
 | s _ ih => obtain ⟨p, q, rfl, rfl⟩ := ih; exact ⟨_ :: p, q, rfl, rfl⟩
theorem qp0 (W w : World) (g nt tc i : Nat) (ts : List Tk) (t : Tk) (ht : ts[i]? = some t) (hn : ts.length = nt) (x : En) (hx : x.Ok) (fs : List Fact) (HM : Mem W w (fT (some ⟨g, 0, none⟩) nt tc ts :: fs)) :
    Calls Tryz.prog 84 #[.pointer (some ⟨g, i * 8, none⟩), .agg x.cells] w (fun r w' => r = .returned (.tuple #[]) ∧ Mem W w' (fT (some ⟨g, 0, none⟩) nt tc (ts.set i (t.put x)) :: fs)) := by
 have hil := (List.getElem?_eq_some_iff.1 ht).1
 have hxo := qbu hx.1
 refine (Jin2 HM Tryz.func84 20) ?_
 refine (JP∘JE) fun w3 g3 => (Jj∘Vs (.t (.f .n)) [18]) fun wd1 => (Vp [0, 1, 2]∘Vf 3 0∘Vf 5 1∘Vf 7 2∘Vc 4 O0∘Vc 6 O0∘Vc 8 O0∘Vw 9 .i64∘Vn 10∘Vf 11 6) fun a I HM HS => ?_
 refine s_on I 12 rfl ?_
 refine qv I HM (i := 1) rfl rfl rfl rfl kr rfl rfl (by rw [q8 tkL 8 qd]; omega) fun w1_12 HM => ?_
 replace HM := HM.asRow (i := 1) (ys := (ts.set i ({ t with v := x.v })).flatMap tkL) rfl (zc tkL 8 qd ts i t ({ t with v := x.v }) ht 6 de _ rfl)
 refine keepS (HM.pt 2 [0]) (fun HS => ?_)
 refine Vb I HM HS ((Vn 13∘Vf 14 7) fun a I HM HS => ?_)
 refine s_on I 15 rfl ?_
 refine qv I HM (i := 1) rfl rfl rfl rfl kr rfl rfl (by rw [q8 tkL 8 qd, List.length_set]; omega) fun w1_15 HM => ?_
 replace HM := HM.asRow (i := 1) (ys := (ts.set i ({ t with v := x.v, r := x.r })).flatMap tkL) rfl ((zc tkL 8 qd (ts.set i ({ t with v := x.v })) i ({ t with v := x.v }) ({ t with v := x.v, r := x.r }) (qba ht) 7 de _ rfl).trans (by rw [List.set_set]))
 refine keepS (HM.pt 2 [0]) (fun HS => ?_)
 refine Vb I HM HS ((Vn 16∘Vf 17 2) fun a I HM HS => ?_)
 refine s_on I 18 rfl ?_
 refine qv I HM (i := 1) rfl rfl rfl rfl kr rfl rfl (by rw [q8 tkL 8 qd, List.length_set]; omega) fun w1_18 HM => ?_
 replace HM := HM.asRow (i := 1) (ys := (ts.set i (t.put x)).flatMap tkL) rfl ((zc tkL 8 qd (ts.set i ({ t with v := x.v, r := x.r })) i ({ t with v := x.v, r := x.r }) (t.put x) (qba ht) 2 de _ rfl).trans (by rw [List.set_set]))
 refine noS kr ?_
 refine qb kr ?_
 exact norm0 rfl I ⟨rfl, HM.pt 2 [1]⟩
theorem ql9 {W w : World} {g nt tc i : Nat} {ts : List Tk} {F F' : List Fact} (t : Tk) (x : En) (O : Upd (fT (some ⟨g, 0, none⟩) nt tc ts) (fT (some ⟨g, 0, none⟩) nt tc (ts.set i (t.put x))) F F') (HM : Mem W w F) (ht : ts[i]? = some t) (hn : ts.length = nt) (hx : x.Ok) :
  Calls Tryz.prog 84 #[.pointer (some ⟨g, i * 8, none⟩), .agg x.cells] w (fun r w' => r = .returned (.tuple #[]) ∧ Mem W w' F') := by
 obtain ⟨p, q, rfl, rfl⟩ := O.split
 exact (qp0 W w g nt tc i ts t ht hn x hx (p ++ q) (HM.perm List.perm_middle)).mono fun r w' h => ⟨h.1, h.2.perm List.perm_middle.symm⟩
theorem qnm (W w : World) (g : Nat) (t : Tk) (x : En) (hx : x.Ok) (fs : List Fact) (HM : Mem W w (.blk g t.cells 81 :: fs)) :
    Calls Tryz.prog 84 #[vP g 0, .agg x.cells] w (fun r w' => r = .returned (.tuple #[]) ∧ Mem W w' (.blk g (t.put x).cells 81 :: fs)) := by
 have hxo := qbu hx.1
 replace HM : Mem W w (.blk g #[vI t.id, vI t.group, vI t.weight, vI t.cpu, vQ t.mask, .bool t.ready, vQ t.v, vW t.r] 81 :: fs) := HM
 refine (Jin2 HM Tryz.func84 20) ?_
 refine (JP∘JE) fun w3 g3 => (Jj∘Vs (.t (.f .n)) [18]) fun wd1 => (Vp [0, 1, 2]∘Vf 3 0∘Vf 5 1∘Vf 7 2∘Vc 4 O0∘Vc 6 O0∘Vc 8 O0∘Vw 9 .i64∘Vn 10∘Vf 11 6) fun a I HM HS => ?_
 refine s_on I 12 rfl (s_es I HM 1 fun w1_12 HM => ?_)
 refine keepS (HM.pt 2 [0]) (fun HS => ?_)
 refine Vb I HM HS ((Vn 13∘Vf 14 7) fun a I HM HS => ?_)
 refine s_on I 15 rfl (s_es I HM 1 fun w1_15 HM => ?_)
 refine keepS (HM.pt 2 [0]) (fun HS => ?_)
 refine Vb I HM HS ((Vn 16∘Vf 17 2) fun a I HM HS => ?_)
 refine s_on I 18 rfl (s_es I HM 1 fun w1_18 HM => ?_)
 refine noS kr ?_
 refine qb kr ?_
 exact norm0 rfl I ⟨rfl, HM.pt 2 [1]⟩
theorem qvk {W w : World} {g : Nat} {F F' : List Fact} (t : Tk) (x : En) (O : Upd (.blk g t.cells 81) (.blk g (t.put x).cells 81) F F') (HM : Mem W w F) (hx : x.Ok) :
  Calls Tryz.prog 84 #[vP g 0, .agg x.cells] w (fun r w' => r = .returned (.tuple #[]) ∧ Mem W w' F') := by
 obtain ⟨p, q, rfl, rfl⟩ := O.split
 exact (qnm W w g t x hx (p ++ q) (HM.perm List.perm_middle)).mono fun r w' h => ⟨h.1, h.2.perm List.perm_middle.symm⟩
theorem qfg (id : Int) (w : World) : Calls Tryz.prog 79 #[vI id] w (Is w (.bool (decide (1 ≤ id ∧ id ≤ 65535)))) := by
 refine (JN1 Tryz.func79 9) ?_
 refine (JP∘Jp 1∘Jr∘Jp 3) (Ji (fun hd5 => ?_) fun hd5 => ?_)
 ·
  exact (Jp 4∘Jd6∘Jj∘JZ∘Jz1) fun HM => qcl om HM.below
 exact (Jp 4∘Jd6∘Jj∘JZ∘Jz1) fun HM => is_no om HM.below
theorem qk5 (gm : Nat) (cp : Int) (cr : Nat) (gA : Option Addr) (ng gc : Nat) (lA : Option Addr) (nl lc : Nat) (uA : Option Addr) (nu uc : Nat) (tA : Option Addr) (nt tc : Nat) (sA : Option Addr) (ns sc : Nat) (c : Int) (w : World)
    (hm : w.heap[gm]? = some (.cells #[vI cp, vQ cr, .slice gA ng gc, .slice lA nl lc, .slice uA nu uc, .slice tA nt tc, .slice sA ns sc, .bool true] 56 (0, 0))) :
    Calls Tryz.prog 78 #[vP gm 0, vI c] w (Is w (.bool (decide (0 ≤ c ∧ c < cp)))) := by
 refine (JN2 Tryz.func78 17) ?_
 refine (JP∘Jp 1∘Jr∘Jp 3) (Ji (fun hd7 => ?_) fun hd7 => ?_)
 ·
  exact (Jp 2∘Jn∘Jf 0∘Jf 0∘Jf 0∘Jy (v := vI cp) (h:=by exact Yl.qo rfl rfl kr (fun _ h => h.qay hm rfl))∘Jp 3∘Jd6∘Jj∘JZ∘Jz1) fun HM => qcl om HM.below
 exact (Jv 10 [(4, .bool false)]∘Jd3∘Jj∘JZ∘Jz1) fun HM => is_no om HM.below
theorem qhb {W w : World} {F T : List Fact} {x : Stm} {ng nl nu nt ns gm : Nat} (n : Nat) (HM : Mem W w F) (he : F.drop n = mdA gm x ng nl nu nt ns ++ T) (_ : MdOk x ng nl nu nt ns) (c : Int) : Calls Tryz.prog 78 #[vP gm 0, vI c] w (Is w (.bool (decide (0 ≤ c ∧ c < x.cpus)))) := by
 have h1 : fM gm x.cpus x.credit x.gA ng x.gc x.lA nl x.lc x.uA nu x.uc x.tA nt x.tc x.sA ns x.sc ∈ F := List.mem_of_mem_drop (i := n) (by rw [he]; exact List.mem_cons_self ..)
 exact qk5 gm x.cpus x.credit x.gA ng x.gc x.lA nl x.lc x.uA nu x.uc x.tA nt x.tc x.sA ns x.sc c w (HM.holds _ h1).2
def mdB (gm : Nat) (x : Stm) : List Fact := mdA gm x x.gs.length x.cl.length x.cu.length x.ts.length x.rs.length
def OpIs (W : World) (gm : Nat) (T : List Fact) (out : Out30) (r : Ending) (w' : World) : Prop := ∃ y : Stm, r = .returned (.tuple #[.int .i64 out.2.1, .int .i64 (out.2.2 : Int)]) ∧ y.sta = out.1 ∧ Mem W w' (mdB gm y ++ T)
section
variable {W w w' : World} {F A T fs : List Fact} {x y : Stm} {ng nl nu nt ns gm g c n : Nat}
theorem Mem.dropN (n : Nat) (h : Mem W w F) (he : F.drop n = A) : Mem W w A := he ▸ h.subl (List.drop_sublist ..)
theorem Mem.toB (h : Mem W w (mdA gm y ng nl nu nt ns ++ T)) (hl : Lns y ng nl nu nt ns) : Mem W w (mdB gm y ++ T) := by
 obtain ⟨rfl, rfl, rfl, rfl, rfl⟩ := hl
 exact h
theorem qs {out : Out30} {got : Int} {e : Nat} (n : Nat) (HM : Mem W w F) (he : F.drop n = mdA gm y ng nl nu nt ns ++ T) (hl : Lns y ng nl nu nt ns) (hout : out = (y.sta, got, e)) : OpIs W gm T out (.returned (.tuple #[.int .i64 got, .int .i64 (e : Int)])) w := by
 subst hout
 exact ⟨y, rfl, rfl, (HM.dropN n he).toB hl⟩
structure TkGood (t : Tk) (cp : Int) (ns : Nat) : Prop where
 id : 1 ≤ t.id ∧ t.id ≤ 65535
 group : 0 ≤ t.group ∧ t.group < ns
 cpu : 0 ≤ t.cpu ∧ t.cpu < cp
 weight : 1 ≤ t.weight ∧ t.weight ≤ 65536
 mask : qe4 t.mask cp = false
 bit : t.mask / 2 ^ t.cpu.toNat % 2 = 1
 ent : entOk t.v t.r t.weight = true
theorem qf4 {s : Sta} {t : Tk} : tkOk1 s t = true ↔ TkGood t s.cpus s.sp.length := by
 unfold tkOk1 wOk
 simp only [Bool.and_eq_true, decide_eq_true_eq, Bool.not_eq_true']
 constructor
 ·rintro ⟨⟨h1, h2, h3, h4, h5, h6⟩, h7, h8, h9, h10⟩
  exact ⟨⟨h1, h2⟩, ⟨h3, h4⟩, ⟨h5, h6⟩, h7, h8, h9, h10⟩
 ·intro h
  exact ⟨⟨h.id.1, h.id.2, h.group.1, h.group.2, h.cpu.1, h.cpu.2⟩, h.weight, h.mask, h.bit, h.ent⟩
theorem MdOk.task (h : MdOk x ng nl nu nt ns) {k : Nat} {t : Tk} (ht : x.ts[k]? = some t) : TkGood t x.cpus ns ∧ t.Ok := by
 obtain ⟨hk, rfl⟩ := List.getElem?_eq_some_iff.1 ht
 have h1 := (qh5 (h.sh.tk k hk)).2
 rw [List.getD_eq_getElem?_getD, List.getElem?_eq_getElem hk] at h1
 have h2 := qf4.1 h1
 rw [zl, h.ln.s] at h2
 exact ⟨h2, h.ok.ts _ (List.getElem_mem hk)⟩
theorem qco {l : List Tk} {id : Int} (h : ¬ fidx l id < 0) : ∃ (k : Nat) (t : Tk), fidx l id = (k : Int) ∧ l[k]? = some t ∧ k < l.length ∧ t.id = id := by
 obtain ⟨k, h1, _, h3, h4⟩ := qsu h
 exact ⟨k, l.getD k Tk.zero, h1, getD_at Tk.zero h3, h3, h4⟩
theorem qah {s : Sta} {id : Int} {k : Nat} {t : Tk} (h : fidx s.ts id = (k : Int)) (ht : s.ts[k]? = some t) : tkOf s id = t := by
 unfold tkOf
 rw [h]
 exact qx Tk.zero ht
theorem En.qda {v r w : Nat} {wi : Int} (h : entOk v r wi = true) (hw : wi = (w : Int)) (hv : v < 18446744073709551616) : (⟨v, r, w⟩ : En).Ok := ⟨by rw [hw] at h; exact h, hv⟩
theorem tk_en {t : Tk} {w : Nat} (h : t.weight = (w : Int)) : t.en = ⟨t.v, t.r, w⟩ := by unfold Tk.en; rw [h]; rfl
theorem qec {x : Stm} {ts' : List Tk} (h : Lns x ng nl nu nt ns) (ht : ts'.length = nt) : Lns { x with ts := ts' } ng nl nu nt ns := ⟨h.g, h.l, h.u, ht, h.s⟩
theorem qma {x : Stm} {rs' : List Rw} (h : Lns x ng nl nu nt ns) (ht : rs'.length = ns) : Lns { x with rs := rs' } ng nl nu nt ns := ⟨h.g, h.l, h.u, h.t, ht⟩
end
theorem nf {b : Bool} (h : b = true) : ¬ b = false := by rw [h]; decide
theorem nt' {b : Bool} (h : b = false) : ¬ b = true := by rw [h]; decide
section
variable {x : Stm} {o : Op30} {k gt ct wt c d g : Nat} {t : Tk} {e : En} {z : Sp} {em : List Nat}
theorem qe6 (h1 : idOk o.task = true) (h2 : wOk o.weight = true) (hk : fidx x.ts o.task = (k : Int)) (ht : x.ts[k]? = some t) (hw : o.weight = (wt : Int)) : zk x.sta o = (({ x with ts := x.ts.set k (t.put ⟨t.v, 0, wt⟩) } : Stm).sta, 0, 0) := by
 unfold zk
 rw [if_neg (nf h1), if_neg (nf h2), if_neg (by rw [show x.sta.ts = x.ts from rfl, hk]; omega), qah (s := x.sta) hk ht, show x.sta.ts = x.ts from rfl, hk, Int.toNat_natCast, hw]
 rfl
theorem qjr (h1 : idOk o.task = true) (hk : fidx x.ts o.task = (k : Int)) (ht : x.ts[k]? = some t) (hr : t.ready = false) (hg : t.group = (gt : Int)) (hc : t.cpu = (ct : Int)) (hw : t.weight = (wt : Int)) (hz : x.sta.spot gt ct = z) (he : (⟨t.v, t.r, wt⟩ : En).woken z.floor x.credit = e) (hem : q5 x.sta gt ct = em) :
  qca x.sta o = (wakeS ({ x with ts := x.ts.set k { t.put e with ready := true } } : Stm).sta em ct, 0, 0) := by
 unfold qca
 rw [if_neg (nf h1), if_neg (by rw [show x.sta.ts = x.ts from rfl, hk]; omega), qah (s := x.sta) hk ht, if_neg (by rw [hr]; decide)]
 show (wakeS (x.sta.setT (fidx x.ts o.task).toNat { t.put (t.en.woken (x.sta.spot t.group.toNat t.cpu.toNat).floor x.credit) with ready := true }) (q5 x.sta t.group.toNat t.cpu.toNat) t.cpu.toNat, (0 : Int), 0) = _
 rw [hk, Int.toNat_natCast, hg, hc, Int.toNat_natCast, Int.toNat_natCast, hz, tk_en hw, he, hem]
 rfl
theorem qsz (hc : o.cpu = (c : Int)) (hok : x.sta.qb7 o.cpu = true) : pickS x.sta o = (({ x with cu := x.cu.set c (q3 x.sta c) } : Stm).sta, (q3 x.sta c : Int), 0) := by
 unfold pickS
 rw [if_neg (nf hok), hc, Int.toNat_natCast]
 rfl
def qb5 (c d g : Nat) (s : Sta) : Sta := zt c d g g s
theorem qjs {c d g f : Nat} {s : Sta} (hp : ∀ i, 0 < i → i ≤ g → ParB s.gs i) (h : g ≤ f) : zt c d f g s = zt c d g g s := by
 have key : ∀ (g f f' : Nat) (s : Sta), (∀ i, 0 < i → i ≤ g → ParB s.gs i) → g ≤ f → g ≤ f' → zt c d f g s = zt c d f' g s := by
  intro g
  induction g using Nat.strongRecOn with
  | _ g ih =>
   intro f f' s hp h1 h2
   by_cases h0 : g = 0
   ·subst h0
    cases f <;> cases f' <;> simp [zt]
   ·obtain ⟨f, rfl⟩ : ∃ k, f = k + 1 := ⟨f - 1, by omega⟩
    obtain ⟨f', rfl⟩ : ∃ k, f' = k + 1 := ⟨f' - 1, by omega⟩
    have hg := hp g om (Nat.le_refl _)
    unfold ParB at hg
    have e : (s.par g).toNat < g := by show (s.gs.getD g Gr.zero).parent.toNat < g; omega
    rw [zt, zt, if_neg h0, if_neg h0]
    exact ih (s.par g).toNat e f f' _ (fun i hi hl => hp i hi om) om om
 exact key g f g s hp h (Nat.le_refl _)
theorem qcp {s : Sta} (hp : ∀ i, 0 < i → i ≤ g → ParB s.gs i) (h0 : 0 < g) {p : Nat} (hpp : (s.gs.getD g Gr.zero).parent = (p : Int)) : qb5 c d g s = qb5 c d p (s.qfd g c ((s.spEn g c).add d)) := by
 obtain ⟨k, rfl⟩ : ∃ k, g = k + 1 := ⟨g - 1, by omega⟩
 have hg := hp (k + 1) h0 (Nat.le_refl _)
 unfold ParB at hg
 show zt c d (k + 1) (k + 1) s = _
 rw [zt, if_neg om]
 have e : (s.par (k + 1)).toNat = p := by show (s.gs.getD (k + 1) Gr.zero).parent.toNat = p; rw [hpp]; rfl
 rw [e]
 exact qjs (s := s.qfd (k + 1) c ((s.spEn (k + 1) c).add d)) (fun i hi hl => hp i hi om) om
theorem qjt (hok : x.sta.qb7 o.cpu = true) (h1 : 1 ≤ o.ticks ∧ o.ticks ≤ 4294967295) (hc : o.cpu = (c : Int)) {v : Int} (hv : x.cl.getD c 0 = v) (h2 : ¬ 281474976710656 < v + o.ticks) (hcu : x.cu.getD c 0 = 0) : tickS x.sta o = (({ x with cl := x.cl.set c (v + o.ticks) } : Stm).sta, 0, 0) := by
 unfold tickS
 rw [if_neg (nf hok), if_neg om, hc, Int.toNat_natCast, show x.sta.cl = x.cl from rfl, hv, if_neg h2]
 dsimp only
 rw [show x.sta.cu = x.cu from rfl, if_pos hcu]
 rfl
theorem qmb (hok : x.sta.qb7 o.cpu = true) (h1 : 1 ≤ o.ticks ∧ o.ticks ≤ 4294967295) (hc : o.cpu = (c : Int)) (hd : o.ticks = (d : Int)) {v id : Int} (hv : x.cl.getD c 0 = v) (h2 : ¬ 281474976710656 < v + o.ticks) (hcu : x.cu.getD c 0 = id) (hid : id ≠ 0)
  (hk : fidx x.ts id = (k : Int)) (ht : x.ts[k]? = some t) (hg : t.group = (gt : Int)) (hw : t.weight = (wt : Int)) (he : (⟨t.v, t.r, wt⟩ : En).add d = e) :
  tickS x.sta o = (qb5 c d gt ({ x with cl := x.cl.set c (v + d), ts := x.ts.set k (t.put e) } : Stm).sta, id, 0) := by
 unfold tickS
 rw [if_neg (nf hok), if_neg om, hc, Int.toNat_natCast, show x.sta.cl = x.cl from rfl, hv, if_neg h2]
 dsimp only
 rw [show x.sta.cu = x.cu from rfl, hcu, if_neg hid, qah (s := x.sta) hk ht, hg, show x.sta.ts = x.ts from rfl, hk, Int.toNat_natCast, Int.toNat_natCast, hd, Int.toNat_natCast, tk_en hw, he]
 rfl
def upd {α : Type} (f : α → α) (l : List α) (k : Nat) : List α := (l.take k).map f ++ l.drop k
theorem qp1 {α : Type} (f : α → α) (l : List α) (k : Nat) : (upd f l k).length = l.length := by
 unfold upd
 rw [List.length_append, List.length_map, List.length_take, List.length_drop]
 omega
theorem qmc {α : Type} (f : α → α) (l : List α) : upd f l 0 = l := rfl
theorem qp2 {α : Type} (f : α → α) (l : List α) {k : Nat} (h : l.length ≤ k) : upd f l k = l.map f := by
 unfold upd
 rw [List.take_of_length_le h, List.drop_of_length_le h, List.append_nil]
theorem qp3 {α : Type} (f : α → α) {l : List α} {k j : Nat} (h : k ≤ j) : (upd f l k)[j]? = l[j]? := by
 unfold upd
 rcases Nat.lt_or_ge j l.length with h1 | h1
 ·rw [List.getElem?_append_right (by rw [List.length_map, List.length_take]; omega), List.length_map, List.length_take, List.getElem?_drop]
  congr 1
  omega
 ·rw [List.getElem?_eq_none (by rw [List.length_append, List.length_map, List.length_take, List.length_drop]; omega), List.getElem?_eq_none h1]
theorem qvl {α : Type} (f : α → α) {l : List α} {k : Nat} {z : α} (h : l[k]? = some z) : (upd f l k).set k (f z) = upd f l (k + 1) := by
 obtain ⟨hk, rfl⟩ := List.getElem?_eq_some_iff.1 h
 unfold upd
 have h1 : ((l.take k).map f).length = k := by rw [List.length_map, List.length_take]; omega
 rw [List.set_append, if_neg (by rw [h1]; omega), h1, Nat.sub_self, List.drop_eq_getElem_cons hk, List.set_cons_zero, List.take_succ_eq_append_getElem hk, List.map_append, List.append_assoc]
 rfl
def r0 (z : Sp) : Sp := { z with r := 0 }
theorem qf5 (hg : o.group = (g : Int)) (h1 : 1 ≤ o.group ∧ o.group < x.rs.length) (h2 : wOk o.weight = true) {yA : Option Addr} {yc : Nat} {yl : List Sp} (hy : x.rs.getD g Rw.zero = ⟨yA, yc, yl⟩) {gr : Gr} (hgr : x.gs.getD g Gr.zero = gr) :
  z8 x.sta o = (({ x with rs := x.rs.set g ⟨yA, yc, yl.map r0⟩, gs := x.gs.set g { gr with weight := o.weight } } : Stm).sta, 0, 0) := by
 have hgl : g < x.rs.length := by omega
 unfold z8
 rw [if_neg (by rw [zl]; omega), if_neg (nf h2), hg, Int.toNat_natCast]
 unfold Stm.sta
 simp only [List.map_set]
 rw [qa3 hgl, hy, hgr]
 rfl
theorem qs0 {to : Nat} {z1 z2 : Sp} (ht : x.ts[k]? = some t) (hg : t.group = (gt : Int)) (hc : t.cpu = (ct : Int)) (hw : t.weight = (wt : Int)) (hz1 : x.sta.spot gt ct = z1) (hz2 : x.sta.spot gt to = z2) (he : (⟨t.v, t.r, wt⟩ : En).moved z1.floor z2.floor = e) (hem : q5 x.sta gt to = em) :
  moveS x.sta k (to : Int) = if t.ready = true then wakeS ({ x with ts := x.ts.set k { t.put e with cpu := (to : Int) } } : Stm).sta em to else ({ x with ts := x.ts.set k { t.put e with cpu := (to : Int) } } : Stm).sta := by
 have e1 : x.sta.ts.getD k Tk.zero = t := qx Tk.zero ht
 unfold moveS
 rw [e1]
 dsimp only
 rw [hg, hc, Int.toNat_natCast, Int.toNat_natCast, Int.toNat_natCast, hz1, hz2, tk_en hw, he, hem]
 rfl
end
def StIs (W : World) (gm : Nat) (T : List Fact) (s : Sta) (r : Ending) (w' : World) : Prop := ∃ y : Stm, r = .returned (.tuple #[]) ∧ y.sta = s ∧ Mem W w' (mdB gm y ++ T)
section
variable {W w w' : World} {F A T fs : List Fact} {x y : Stm} {ng nl nu nt ns gm g c n : Nat}
theorem qp4 {s : Sta} (n : Nat) (HM : Mem W w F) (he : F.drop n = mdA gm y ng nl nu nt ns ++ T) (hl : Lns y ng nl nu nt ns) (hs : y.sta = s) : StIs W gm T s (.returned (.tuple #[])) w := ⟨y, rfl, hs, (HM.dropN n he).toB hl⟩
theorem qun {out : Out30} {got : Int} {e : Nat} (n : Nat) (HM : Mem W w F) (he : F.drop n = mdB gm y ++ T) (hout : out = (y.sta, got, e)) : OpIs W gm T out (.returned (.tuple #[.int .i64 got, .int .i64 (e : Int)])) w := by
 subst hout
 exact ⟨y, rfl, rfl, HM.dropN n he⟩
theorem qju {rs rs2 : List Rw} {yA : Option Addr} {yc : Nat} {yl : List Sp} {z : Sp} (hg : g < rs.length) (hz : yl[c]? = some z) (hr : rs2 = rs.set g ⟨yA, yc, upd r0 yl c⟩) : rsPut rs2 g c (r0 z) = rs.set g ⟨yA, yc, upd r0 yl (c + 1)⟩ := by
 subst hr
 unfold rsPut
 rw [qg _ _ hg, List.set_set]
 show rs.set g ⟨yA, yc, (upd r0 yl c).set c (r0 z)⟩ = _
 rw [qvl r0 hz]
end
def bestI : Option Nat → Int
 | none => -1
 | some b => (b : Int)
def qbb (s : Sta) (o : Op30) (be : Int) (t : Tk) : Bool := mayB s o t && (decide (be < 0) || decide ((s.ts.getD be.toNat Tk.zero).weight < t.weight))
section
variable {s : Sta} {o : Op30} {n : Nat}
theorem qfh : ∀ {n b : Nat}, bestF s o n = some b → b < n
 | 0, b, h => by cases h
 | n + 1, b, h => by
  rw [bestF] at h
  split at h
  ·split at h
   ·injection h with h; omega
   ·rename_i b' hb
    split at h
    ·injection h with h; omega
    ·injection h with h; have := qfh hb; omega
  ·have := qfh h; omega
theorem qcq {be : Int} (hb : bestI (bestF s o n) = be) : bestI (bestF s o (n + 1)) = if qbb s o be (s.ts.getD n Tk.zero) then (n : Int) else be := by
 subst hb
 rw [bestF]
 unfold qbb
 cases hm : mayB s o (s.ts.getD n Tk.zero) with
 | false => rw [if_neg de, Bool.false_and, if_neg de]
 | true =>
  rw [if_pos rfl, Bool.true_and]
  cases hbf : bestF s o n with
  | none => simp [bestI]
  | some b =>
   have e1 : bestI (some b) = (b : Int) := rfl
   rw [e1, show decide ((b : Int) < 0) = false from decide_eq_false om, Bool.false_or, Int.toNat_natCast]
   dsimp only
   by_cases h : (s.ts.getD b Tk.zero).weight < (s.ts.getD n Tk.zero).weight
   ·rw [if_pos h, if_pos (by rw [decide_eq_true h])]; rfl
   ·rw [if_neg h, if_neg (by rw [decide_eq_false h]; decide)]; rfl
theorem qb6 {be : Int} (hb : bestI (bestF s o n) = be) : -1 ≤ be ∧ be < n := by
 subst hb
 cases h : bestF s o n with
 | none => exact ⟨by decide, by show (-1 : Int) < n; omega⟩
 | some b => have := qfh h; exact ⟨by show (-1 : Int) ≤ (b : Int); omega, by show (b : Int) < n; omega⟩
theorem qer {cpu : Int} {M : Int} (hM : ∀ c, loadS s c ≤ M ∧ 0 ≤ loadS s c) (h0 : 0 ≤ M) : ∀ n : Nat, -1 ≤ (busyF s cpu n).1 ∧ (busyF s cpu n).1 < n ∧ -1 ≤ (busyF s cpu n).2 ∧ (busyF s cpu n).2 ≤ M
 | 0 => ⟨by show (-1 : Int) ≤ -1; decide, by show (-1 : Int) < 0; decide, by show (-1 : Int) ≤ -1; decide, by show (-1 : Int) ≤ M; omega⟩
 | n + 1 => by
  have ih := qer (cpu := cpu) hM h0 n
  have hn := hM n
  rw [busyF]
  split
  ·exact ⟨by show (-1 : Int) ≤ (n : Int); omega, by show (n : Int) < (n + 1 : Nat); omega, by show (-1 : Int) ≤ loadS s n; omega, hn.1⟩
  ·exact ⟨ih.1, by have := ih.2.1; omega, ih.2.2⟩
theorem qcr {cpu fr mo : Int} (hb : busyF s cpu n = (fr, mo)) : busyF s cpu (n + 1) = if (n : Int) ≠ cpu ∧ mo < loadS s n then ((n : Int), loadS s n) else (fr, mo) := by
 rw [busyF, hb]
theorem qe7 {x : Stm} {o : Op30} (hok : x.sta.qb7 o.cpu = true) (hb : bestI (bestF x.sta o x.ts.length) = -1) : zu x.sta o = (x.sta, 0, 6) := by
 unfold zu
 rw [if_neg (nf hok), show x.sta.ts = x.ts from rfl]
 cases h : bestF x.sta o x.ts.length with
 | none => rfl
 | some b => rw [h] at hb; exact absurd hb (by show ((b : Nat) : Int) ≠ -1; omega)
theorem qe8 {x : Stm} {o : Op30} {k : Nat} {t : Tk} (hok : x.sta.qb7 o.cpu = true) (hb : bestI (bestF x.sta o x.ts.length) = (k : Int)) (ht : x.ts[k]? = some t) : zu x.sta o = (moveS x.sta k o.cpu, t.id, 0) := by
 unfold zu
 rw [if_neg (nf hok), show x.sta.ts = x.ts from rfl]
 cases h : bestF x.sta o x.ts.length with
 | none => rw [h] at hb; exact absurd hb (by show (-1 : Int) ≠ (k : Int); omega)
 | some b =>
  rw [h] at hb
  have e : b = k := by have h1 : (b : Int) = (k : Int) := hb; omega
  subst e
  dsimp only
  rw [qx Tk.zero ht]
theorem qf6 {x : Stm} {o : Op30} {k : Nat} {t : Tk} (h1 : x.sta.qb7 o.to = true) (h2 : idOk o.task = true) (hk : fidx x.ts o.task = (k : Int)) (ht : x.ts[k]? = some t) (h3 : o.task ∉ x.cu) (h4 : t.cpu ≠ o.to) (h5 : bitOn t.mask o.to = true) : qad x.sta o = (moveS x.sta k o.to, 0, 0) := by
 unfold qad
 rw [if_neg (nf h1), if_neg (nf h2), if_neg (by rw [show x.sta.ts = x.ts from rfl, hk]; omega), if_neg (show ¬ o.task ∈ x.sta.cu from h3), qah (s := x.sta) hk ht, if_neg h4, if_neg (nf h5), show x.sta.ts = x.ts from rfl, hk, Int.toNat_natCast]
end
theorem qes (t : Tk) : ∀ u ∈ tkL t, u.oneCell' = true := by simp [tkL, Value.oneCell']
theorem qp5 (l : List Tk) (t : Tk) : l.flatMap tkL ++ tkL t = (l ++ [t]).flatMap tkL := by simp
theorem zb (l : List Tk) : (l.flatMap tkL).length = l.length * 8 := q8 tkL 8 qd l
def zT (m : Nat) : List Value := (Builtin.zeroCells (Value.agg Tk.zero.cells).cells m).toList
theorem qmd (m : Nat) : (zT m).length = m * 8 := by unfold zT; rw [Array.length_toList, size_zeroCells]; rfl
theorem qwv (m : Nat) : ∀ v ∈ zT m, v.oneCell' = true := by
 intro v hv
 unfold zT Builtin.zeroCells at hv
 simp only [Array.toList_map, List.mem_map] at hv
 obtain ⟨k, _, rfl⟩ := hv
 have hs : (Value.agg Tk.zero.cells).cells.size = 8 := rfl
 have hk : k % (Value.agg Tk.zero.cells).cells.size < 8 := by rw [hs]; exact Nat.mod_lt _ de
 generalize k % (Value.agg Tk.zero.cells).cells.size = j at hk
 have : ∀ j, j < 8 → ((Value.agg Tk.zero.cells).cells[j]!).oneCell' = true := by decide
 exact this j hk
theorem Mem.tkCells {W w : World} {fs : List Fact} (h : Mem W w fs) {j g n c a : Nat} {l q : List Tk} {ys : List Value} (hi : fs[j]? = some (.row (.slice (some ⟨g, 0, none⟩) n c) n (l.flatMap tkL ++ ys) 81 8)) (hq : ∃ b, (l.drop a).take b = q) (ha : a ≤ l.length) : ∀ k v, (q.flatMap tkL)[k]? = some v → w.cell? ((⟨g, a * 8, none⟩ : Addr).add k) = some v := by
 obtain ⟨b, rfl⟩ := hq
 intro k v hv
 rw [Addr.add_mid]
 refine h.qfm hi (a * 8) (ys := ((l.drop a).take b).flatMap tkL) (fun k v hv => ?_) k v hv
 have h1 : l.flatMap tkL = (l.take a).flatMap tkL ++ (((l.drop a).take b).flatMap tkL ++ ((l.drop a).drop b).flatMap tkL) := by
  rw [← List.flatMap_append, List.take_append_drop, ← List.flatMap_append, List.take_append_drop]
 have h2 : ((l.take a).flatMap tkL).length = a * 8 := by rw [zb, List.length_take]; omega
 have h3 := (List.getElem?_eq_some_iff.1 hv).1
 rw [h1, List.append_assoc, ← h2, List.getElem?_append_right (Nat.le_add_right _ _), Nat.add_sub_cancel_left, List.append_assoc, List.getElem?_append_left h3]
 exact hv
def qcc (l : List Tk) (id : Int) : Nat := (l.takeWhile fun t => decide (t.id ≤ id)).length
theorem qjv (l : List Tk) (id : Int) : qcc l id ≤ l.length := (List.takeWhile_sublist _).length_le
theorem qhc (l : List Tk) (id : Int) : l.take (qcc l id) = (l.takeWhile fun t => decide (t.id ≤ id)) ∧ l.drop (qcc l id) = (l.dropWhile fun t => decide (t.id ≤ id)) := by
 have h1 := List.take_left (l₁ := l.takeWhile fun t => decide (t.id ≤ id)) (l₂ := l.dropWhile fun t => decide (t.id ≤ id))
 have h2 := List.drop_left (l₁ := l.takeWhile fun t => decide (t.id ≤ id)) (l₂ := l.dropWhile fun t => decide (t.id ≤ id))
 rw [List.takeWhile_append_dropWhile] at h1 h2
 exact ⟨h1, h2⟩
theorem qf7 {l : List Tk} {id : Int} {k : Nat} (hk : k ≤ l.length) (h : ∀ j, j < k → (l.getD j Tk.zero).id ≤ id) (hs : k = l.length ∨ id < (l.getD k Tk.zero).id) : qcc l id = k := by
 induction l generalizing k with
 | nil => simp at hk; subst hk; rfl
 | cons t r ih =>
  unfold qcc at *
  cases k with
  | zero =>
   rcases hs with h1 | h1
   ·simp at h1
   ·have h2 : ¬ t.id ≤ id := by have h3 : id < t.id := h1; omega
    rw [List.takeWhile_cons, if_neg (by rw [decide_eq_true_eq]; exact h2)]
    rfl
  | succ k =>
   have h0 : t.id ≤ id := h 0 om
   rw [List.takeWhile_cons, if_pos (by rw [decide_eq_true_eq]; exact h0), List.length_cons]
   rw [ih (k := k) (by simpa using hk) (fun j hj => h (j + 1) om) (by
    rcases hs with h1 | h1
    ·exact .inl (by simpa using h1)
    ·exact .inr h1)]
def InsIs (w : World) (l : List Tk) (id : Int) (r : Ending) (w' : World) : Prop := (∃ i : Int, r = .returned (.int .i64 i) ∧ (if i < 0 then l.length else i.toNat) = qcc l id ∧ -1 ≤ i ∧ i ≤ l.length) ∧ Below w.heap.size w w'
theorem qnn {w w' : World} {l : List Tk} {id : Int} {k : Nat} (hk : k < l.length) (h : ∀ j, j < k → (l.getD j Tk.zero).id ≤ id) (hs : id < (l.getD k Tk.zero).id) (hb : Below w.heap.size w w') : InsIs w l id (.returned (.int .i64 (k : Int))) w' :=
 ⟨⟨k, rfl, by rw [if_neg om, qf7 om h (.inr hs)]; rfl, by omega, by omega⟩, hb⟩
theorem qno {w w' : World} {l : List Tk} {id : Int} (h : ∀ j, j < l.length → (l.getD j Tk.zero).id ≤ id) (hb : Below w.heap.size w w') : InsIs w l id (.returned (.int .i64 (-1))) w' :=
 ⟨⟨-1, rfl, by rw [if_pos de, qf7 (Nat.le_refl _) h (.inl rfl)], by omega, by omega⟩, hb⟩
theorem qhd {l : List Tk} {id : Int} {k : Nat} (h : ∀ j, j < k → (l.getD j Tk.zero).id ≤ id) (hk : (l.getD k Tk.zero).id ≤ id) : ∀ j, j < k + 1 → (l.getD j Tk.zero).id ≤ id := fun j hj => by
 rcases Nat.lt_or_ge j k with h1 | h1
 ·exact h j h1
 ·obtain rfl : j = k := by omega
  exact hk
def insT (l : List Tk) (i : Nat) (t : Tk) : List Tk := l.take i ++ t :: l.drop i
theorem qcs (l : List Tk) (i : Nat) (t : Tk) : (insT l i t).flatMap tkL = (l.take i).flatMap tkL ++ (tkL t ++ (l.drop i).flatMap tkL) := by
 unfold insT
 rw [List.flatMap_append, List.flatMap_cons]
theorem qed {l : List Tk} {i : Nat} {t : Tk} (h : i ≤ l.length) : (insT l i t).length = l.length + 1 := by
 unfold insT
 rw [List.length_append, List.length_cons, List.length_take, List.length_drop]
 omega
theorem qs1 {l : List Tk} {i : Nat} {t : Tk} (h : i = l.length) : l ++ [t] = insT l i t := by
 subst h
 unfold insT
 rw [List.take_length, List.drop_length]
theorem qs2 {l : List Tk} {i : Nat} {t : Tk} (h : i ≤ l.length) : putAt (putAt ((l.take i).flatMap tkL ++ zT (l.length + 1 - i)) (i * 8) (tkL t)) ((i + 1) * 8) ((l.drop i).flatMap tkL) = (insT l i t).flatMap tkL := by
 have h1 : ((l.take i).flatMap tkL).length = i * 8 := by rw [zb, List.length_take]; omega
 have h2 : ((l.take i).flatMap tkL ++ tkL t).length = (i + 1) * 8 := by rw [List.length_append, h1, qd]; omega
 have e : ((zT (l.length + 1 - i)).drop (tkL t).length).drop ((l.drop i).flatMap tkL).length = [] := List.drop_of_length_le (by rw [List.length_drop, qmd, qd, zb, List.length_drop]; omega)
 rw [← h1, qd4, ← h2, qd4, qcs, e, List.append_nil, List.append_assoc]
theorem qp6 {l : List Tk} {i : Nat} {t : Tk} {ys : List Value} (h : i ≤ l.length) (hy : ys.length = 8) : putAt (putAt (l.flatMap tkL ++ ys) ((i + 1) * 8) ((l.drop i).flatMap tkL)) (i * 8) (tkL t) = (insT l i t).flatMap tkL := by
 have h1 : ((l.take i).flatMap tkL).length = i * 8 := by rw [zb, List.length_take]; omega
 have h3 : ((l.drop i).flatMap tkL).length = (l.length - i) * 8 := by rw [zb, List.length_drop]
 have h2 : l.flatMap tkL ++ ys = (l.take i).flatMap tkL ++ ((l.drop i).flatMap tkL ++ ys) := by
  rw [← List.append_assoc, ← List.flatMap_append, List.take_append_drop]
 rw [h2, show (i + 1) * 8 = ((l.take i).flatMap tkL).length + 8 by rw [h1]; omega, qm8, ← h1, qd4, qcs, List.append_assoc]
 congr 2
 rw [qd]
 unfold putAt
 have e : ((l.drop i).flatMap tkL ++ ys).drop (8 + ((l.drop i).flatMap tkL).length) = [] := List.drop_of_length_le (by rw [List.length_append, h3, hy]; omega)
 rw [List.append_assoc, List.drop_left' (by rw [List.length_take, List.length_append, h3, hy]; omega), e, List.append_nil]
theorem qme {l : List Tk} {i : Nat} (h : i < l.length) : (l.take i).flatMap tkL ++ (l.drop (i + 1)).flatMap tkL = (l.eraseIdx i).flatMap tkL := by
 rw [← List.flatMap_append, List.eraseIdx_eq_take_drop_succ]
section
variable {x : Stm} {o : Op30} {k g c z : Nat} {t t1 : Tk} {em : List Nat} {id : Int}
theorem qhe (hok : x.sta.qb7 o.cpu = true) (hc : o.cpu = (c : Int)) (hcu : x.cu.getD c 0 = id) (hid : id ≠ 0) (hk : fidx x.ts id = (k : Int)) (ht : x.ts[k]? = some t) (hkd : o.kind ≠ 4) : qai x.sta o = (({ x with cu := x.cu.set c 0, ts := x.ts.set k { t with ready := false } } : Stm).sta, id, 0) := by
 unfold qai
 rw [if_neg (nf hok), hc, Int.toNat_natCast, show x.sta.cu = x.cu from rfl, hcu, if_neg hid]
 dsimp only
 rw [show x.sta.ts = x.ts from rfl, hk, Int.toNat_natCast, qx Tk.zero ht, if_neg hkd]
 rfl
theorem qmf (hok : x.sta.qb7 o.cpu = true) (hc : o.cpu = (c : Int)) (hcu : x.cu.getD c 0 = id) (hid : id ≠ 0) (hk : fidx x.ts id = (k : Int)) (ht : x.ts[k]? = some t) (hkd : o.kind = 4) : qai x.sta o = (({ x with cu := x.cu.set c 0, ts := (x.ts.set k { t with ready := false }).eraseIdx k } : Stm).sta, id, 0) := by
 unfold qai
 rw [if_neg (nf hok), hc, Int.toNat_natCast, show x.sta.cu = x.cu from rfl, hcu, if_neg hid]
 dsimp only
 rw [show x.sta.ts = x.ts from rfl, hk, Int.toNat_natCast, qx Tk.zero ht, if_pos hkd]
 rfl
theorem qf8 (hok : x.sta.qb7 o.cpu = true) (h1 : idOk o.task = true) (h2 : 0 ≤ o.group ∧ o.group < x.rs.length) (h3 : ¬ (wOk o.weight = false ∨ o.mask = 0 ∨ qe4 o.mask x.cpus = true)) (h4 : fidx x.ts o.task < 0) (h5 : bitOn o.mask o.cpu = true) (hg : o.group = (g : Int)) (hc : o.cpu = (c : Int)) {fl : Nat} (hz : (x.sta.spot g c).floor = fl)
  (ht : (⟨o.task, o.group, o.weight, o.cpu, o.mask, true, fl, 0⟩ : Tk) = t1) (hem : q5 x.sta g c = em) : qb9 x.sta o = (wakeS ({ x with ts := insT x.ts (qcc x.ts o.task) t1 } : Stm).sta em c, 0, 0) := by
 unfold qb9
 rw [if_neg (nf hok), if_neg (nf h1), if_neg (by rw [zl]; omega), if_neg (show ¬ (wOk o.weight = false ∨ o.mask = 0 ∨ qe4 o.mask x.sta.cpus = true) from h3), if_neg (by rw [show x.sta.ts = x.ts from rfl]; omega), if_neg (nf h5), hg, hc, Int.toNat_natCast, Int.toNat_natCast, hem, hz]
 rw [hg, hc] at ht
 rw [show x.sta.ts = x.ts from rfl, ht]
 unfold insT
 rw [(qhc x.ts o.task).1, (qhc x.ts o.task).2]
 rfl
end
structure Shp (s : Sta) : Prop where
 ok : s.Ok
 cpus : 1 ≤ s.cpus ∧ s.cpus ≤ 64
 credit : s.credit ≤ 1099511627776
 gs : gsOk s.gs = true
 cl : (s.cl.length : Int) = s.cpus
 cu : (s.cu.length : Int) = s.cpus
 sp : s.sp.length = s.gs.length
 cls : ∀ c, c < s.cl.length → clOk (s.cl.getD c 0) = true
 rows : ∀ g, g < s.sp.length → ((s.sp.getD g []).length : Int) = s.cpus
 spots : ∀ (g c : Nat), g < s.sp.length → (c : Int) < s.cpus → spOk s g (s.spot g c) = true
 sort : SortT s.ts
 tasks : ∀ t ∈ s.ts, TkGood t s.cpus s.sp.length
def CurS (s : Sta) : Prop := ∀ c, c < s.cu.length → s.cu.getD c 0 = 0 ∨ ∃ t ∈ s.ts, t.id = s.cu.getD c 0 ∧ t.ready = true ∧ t.cpu = (c : Int)
structure GoodS (s : Sta) : Prop where
 sh : Shp s
 cur : CurS s
theorem qmg {s : Sta} : (∀ i, i < s.ts.length → (i = 0 ∨ (s.ts.getD (i - 1) Tk.zero).id < (s.ts.getD i Tk.zero).id)) ↔ SortT s.ts := by
 constructor
 ·intro h i j hij
  induction j with
  | zero => omega
  | succ j ih =>
   intro hj
   have h1 := h (j + 1) hj
   rw [Nat.add_sub_cancel] at h1
   rcases Nat.lt_or_ge i j with h2 | h2
   ·have := ih h2 om; omega
   ·obtain rfl : i = j := by omega
    omega
 ·intro h i hi
  rcases Nat.eq_zero_or_pos i with h0 | h0
  ·exact .inl h0
  ·exact .inr (h (i - 1) i om hi)
theorem zx {α : Type} {l : List α} {x : α} (d : α) (h : x ∈ l) : ∃ i, i < l.length ∧ l.getD i d = x := by
 obtain ⟨i, hi, rfl⟩ := List.getElem_of_mem h
 exact ⟨i, hi, by rw [List.getD_eq_getElem?_getD, List.getElem?_eq_getElem hi]; rfl⟩
theorem qk6 {s : Sta} (hok : s.Ok) : qep s = true ↔ Shp s := by
 unfold qep cfgOk qlu
 simp only [Bool.and_eq_true, decide_eq_true_eq]
 constructor
 ·rintro ⟨⟨⟨⟨h1, h2, h3⟩, h4⟩, h5, h6, h7⟩, h8, h9, h10⟩
  have hr : ∀ g, g < s.sp.length → ((s.sp.getD g []).length : Int) = s.cpus ∧ ∀ c, c < (s.sp.getD g []).length → spOk s g (s.spot g c) = true := fun g hg => by
   have := qbm h9 hg
   unfold rowOk at this
   rw [Bool.and_eq_true, decide_eq_true_eq] at this
   exact ⟨this.1, fun c hc => qbm this.2 hc⟩
  have ht : ∀ i, i < s.ts.length → (i = 0 ∨ (s.ts.getD (i - 1) Tk.zero).id < (s.ts.getD i Tk.zero).id) ∧ tkOk1 s (s.ts.getD i Tk.zero) = true := fun i hi => by
   have := qbm h10 hi
   unfold tkAt at this
   rw [Bool.and_eq_true, Bool.or_eq_true, beq_iff_eq, decide_eq_true_eq] at this
   exact this
  refine ⟨hok, ⟨h1, h2⟩, h3, h4, h5, h6, h7, fun c hc => qbm h8 hc, fun g hg => (hr g hg).1, fun g c hg hc => (hr g hg).2 c (by have := (hr g hg).1; omega), qmg.1 fun i hi => (ht i hi).1, fun t ht' => ?_⟩
  obtain ⟨i, hi, rfl⟩ := zx Tk.zero ht'
  exact qf4.1 (ht i hi).2
 ·intro h
  refine ⟨⟨⟨⟨h.cpus.1, h.cpus.2, h.credit⟩, h.gs⟩, h.cl, h.cu, h.sp⟩, qaw h.cls, qaw fun g hg => ?_, qaw fun i hi => ?_⟩
  ·unfold rowOk
   rw [Bool.and_eq_true, decide_eq_true_eq]
   exact ⟨h.rows g hg, qaw fun c hc => h.spots g c hg (by have := h.rows g hg; omega)⟩
  ·unfold tkAt
   rw [Bool.and_eq_true, Bool.or_eq_true, beq_iff_eq, decide_eq_true_eq]
   exact ⟨qmg.2 h.sort i hi, qf4.2 (h.tasks _ (qm Tk.zero hi))⟩
theorem qp7 {l : List Tk} (hs : SortT l) (h1 : ∀ t ∈ l, 1 ≤ t.id) : ∀ i : Nat, i < l.length → ((i : Nat) : Int) + 1 ≤ (l.getD i Tk.zero).id
 | 0, h => by have := h1 _ (qm Tk.zero h); omega
 | i + 1, h => by
  have := qp7 hs h1 i om
  have := hs i (i + 1) om h
  omega
theorem Shp.few {s : Sta} (h : Shp s) : s.ts.length ≤ 65535 := by
 rcases Nat.eq_zero_or_pos s.ts.length with h0 | h0
 ·omega
 ·have h1 := qp7 h.sort (fun t ht => (h.tasks t ht).id.1) (s.ts.length - 1) om
  have h2 := (h.tasks _ (qm Tk.zero (show s.ts.length - 1 < s.ts.length by omega))).id.2
  omega
theorem qp8 {l : List Tk} (hs : SortT l) {t u : Tk} (ht : t ∈ l) (hu : u ∈ l) (h : t.id = u.id) : t = u := by
 obtain ⟨i, hi, rfl⟩ := zx Tk.zero ht
 obtain ⟨j, hj, rfl⟩ := zx Tk.zero hu
 rcases Nat.lt_or_ge i j with h1 | h1
 ·have := hs i j h1 hj; omega
 ·rcases Nat.lt_or_ge j i with h2 | h2
  ·have := hs j i h2 hi; omega
  ·rw [show i = j by omega]
theorem qp9 {l : List Tk} (hs : SortT l) {i : Nat} (hi : i < l.length) : fidx l (l.getD i Tk.zero).id = (i : Int) := by
 unfold fidx
 rw [qd6 hi rfl (fun k hk => by have := hs k i hk hi; omega)]
theorem qk7 {s : Sta} (hs : SortT s.ts) : (∀ c, c < s.cu.length → curOk s c = true) ↔ CurS s := by
 have key : ∀ c, curOk s c = true ↔ (s.cu.getD c 0 = 0 ∨ ∃ t ∈ s.ts, t.id = s.cu.getD c 0 ∧ t.ready = true ∧ t.cpu = (c : Int)) := by
  intro c
  unfold curOk
  rw [Bool.or_eq_true, decide_eq_true_eq]
  refine or_congr Iff.rfl ?_
  constructor
  ·intro h
   split at h
   ·rename_i i hi
    rw [Bool.and_eq_true, decide_eq_true_eq] at h
    have := qpj hi
    exact ⟨_, qm Tk.zero this.1, this.2, h.1, h.2⟩
   ·cases h
  ·rintro ⟨t, ht, h1, h2, h3⟩
   obtain ⟨i, hi, rfl⟩ := zx Tk.zero ht
   rw [← h1, qd6 hi rfl (fun k hk => by have := hs k i hk hi; omega)]
   dsimp only
   rw [h2, h3, decide_eq_true rfl]
   rfl
 exact ⟨fun h c hc => (key c).1 (h c hc), fun h c hc => (key c).2 (h c hc)⟩
theorem qal {y : Stm} (h : Shp y.sta) : MdOk y y.gs.length y.cl.length y.cu.length y.ts.length y.rs.length := by
 have h1 := (qh h.gs).2.1
 have hg : y.gs.length ≤ 256 := h1
 have h2 : y.rs.length = y.gs.length := by rw [← zl]; exact h.sp
 have h3 : (y.cl.length : Int) = y.cpus := h.cl
 have h4 : (y.cu.length : Int) = y.cpus := h.cu
 have h5 : 1 ≤ y.cpus ∧ y.cpus ≤ 64 := h.cpus
 have h6 : y.ts.length ≤ 65535 := h.few
 refine ⟨h.ok, ⟨by omega, by omega, by omega, by omega, by omega, fun r hr => ?_⟩, sh_at ((qk6 h.ok).2 h), ⟨rfl, rfl, rfl, rfl, rfl⟩⟩
 obtain ⟨g, hg, rfl⟩ := zx Rw.zero hr
 have h7 := h.rows g (by rw [zl]; exact hg)
 rw [rs_at hg] at h7
 have h8 : ((y.rs.getD g Rw.zero).l.length : Int) = y.cpus := h7
 omega
theorem qqa {x : Stm} {ng nl nu nt ns : Nat} (h : MdOk x ng nl nu nt ns) : Shp x.sta := by
 refine (qk6 h.ok).1 ?_
 have hc := h.sh.cfg
 unfold qep
 rw [hc, qpg, decide_eq_true ⟨h.sh.cl, h.sh.cu, h.sh.rs⟩, show allN x.sta.cl.length (fun c => clOk (x.sta.cl.getD c 0)) = true from qaw h.sh.cls, zl, qaw h.sh.row, show allN x.sta.ts.length (tkAt x.sta) = true from qaw h.sh.tk]
 rfl
section
variable {s : Sta} {g c i : Nat} {z : Sp} {t t' : Tk}
theorem qmh (hg : g < s.sp.length) (hc : c < (s.sp.getD g []).length) : ∀ g' c', (s.qc9 g c z).spot g' c' = if g' = g ∧ c' = c then z else s.spot g' c' := by
 intro g' c'
 unfold Sta.spot Sta.qc9
 dsimp only
 by_cases e : g = g'
 ·subst e
  rw [qg _ _ hg]
  by_cases e2 : c = c'
  ·subst e2; rw [qg _ _ hc, if_pos ⟨rfl, rfl⟩]
  ·rw [getD_set_ne _ _ e2, if_neg (fun h => e2 h.2.symm)]
 ·rw [getD_set_ne _ _ e, if_neg (fun h => e h.1.symm)]
theorem qbc : (s.qc9 g c z).sp.length = s.sp.length := List.length_set ..
theorem qf9 (g' : Nat) : ((s.qc9 g c z).sp.getD g' []).length = (s.sp.getD g' []).length := by
 unfold Sta.qc9
 dsimp only
 by_cases e : g = g'
 ·subst e
  rcases Nat.lt_or_ge g s.sp.length with h | h
  ·rw [qg _ _ h, List.length_set]
  ·rw [List.set_eq_of_length_le h]
 ·rw [getD_set_ne _ _ e]
theorem Shp.spot (h : Shp s) (hg : g < s.sp.length) (hc : (c : Int) < s.cpus) (hz : z.Ok) (hs : spOk s g z = true) : Shp (s.qc9 g c z) := by
 have hrow := h.rows g hg
 have hsp := qmh (z := z) hg (show c < (s.sp.getD g []).length by omega)
 refine ⟨⟨h.ok.cpus, h.ok.credit, h.ok.gs, h.ok.cl, h.ok.cu, h.ok.ts, fun l hl y hy => ?_⟩, h.cpus, h.credit, h.gs, h.cl, h.cu, qbc.trans h.sp, h.cls, fun g' hg' => ?_, fun g' c' hg' hc' => ?_, h.sort, fun u hu => ?_⟩
 ·rcases List.mem_or_eq_of_mem_set (show l ∈ s.sp.set g ((s.sp.getD g []).set c z) from hl) with h1 | rfl
  ·exact h.ok.sp l h1 y hy
  ·rcases List.mem_or_eq_of_mem_set hy with h2 | rfl
   ·exact h.ok.sp _ (qm [] hg) y h2
   ·exact hz
 ·rw [qf9]; exact h.rows g' (by rwa [qbc] at hg')
 ·rw [hsp]
  rw [qbc] at hg'
  split
  ·rename_i e; rw [e.1]; exact hs
  ·exact h.spots g' c' hg' hc'
 ·rw [qbc]; exact h.tasks u hu
theorem qs3 {l : List Tk} (hs : SortT l) (ht : l[i]? = some t) (hid : t'.id = t.id) : SortT (l.set i t') := by
 have key : ∀ k, ((l.set i t').getD k Tk.zero).id = (l.getD k Tk.zero).id := by
  intro k
  have hi := (List.getElem?_eq_some_iff.1 ht).1
  by_cases e : i = k
  ·subst e; rw [qg _ _ hi, qx Tk.zero ht, hid]
  ·rw [getD_set_ne _ _ e]
 intro a b hab hb
 rw [List.length_set] at hb
 rw [key, key]
 exact hs a b hab hb
theorem Shp.task (h : Shp s) (ht : s.ts[i]? = some t) (hid : t'.id = t.id) (ho : t'.Ok) (hg : TkGood t' s.cpus s.sp.length) : Shp (s.setT i t') := by
 refine ⟨⟨h.ok.cpus, h.ok.credit, h.ok.gs, h.ok.cl, h.ok.cu, fun u hu => ?_, h.ok.sp⟩, h.cpus, h.credit, h.gs, h.cl, h.cu, h.sp, h.cls, h.rows, h.spots, qs3 h.sort ht hid, fun u hu => ?_⟩
 ·rcases List.mem_or_eq_of_mem_set hu with h1 | rfl
  ·exact h.ok.ts u h1
  ·exact ho
 ·rcases List.mem_or_eq_of_mem_set hu with h1 | rfl
  ·exact h.tasks u h1
  ·exact hg
theorem CurS.task (h : CurS s) (hs : SortT s.ts) (ht : s.ts[i]? = some t) (hid : t'.id = t.id) (hr : t.ready = true → (∃ c, c < s.cu.length ∧ s.cu.getD c 0 = t.id ∧ t.cpu = (c : Int)) → t'.ready = true ∧ t'.cpu = t.cpu) : CurS (s.setT i t') := by
 intro c hc
 rcases h c hc with h1 | ⟨u, hu, h1, h2, h3⟩
 ·exact .inl h1
 ·refine .inr ?_
  have hi := (List.getElem?_eq_some_iff.1 ht).1
  have htm : t ∈ s.ts := List.mem_of_getElem? ht
  by_cases e : u.id = t.id
  ·have e2 := qp8 hs hu htm e
   subst e2
   obtain ⟨h4, h5⟩ := hr h2 ⟨c, hc, h1.symm, h3⟩
   exact ⟨t', List.mem_of_getElem? (List.getElem?_set_self hi), hid.trans h1, h4, h5.trans h3⟩
  ·obtain ⟨j, hj, rfl⟩ := zx Tk.zero hu
   have hij : i ≠ j := fun e2 => e (by subst e2; rw [qx Tk.zero ht])
   refine ⟨s.ts.getD j Tk.zero, ?_, h1, h2, h3⟩
   have h6 : (s.ts.set i t')[j]? = some (s.ts.getD j Tk.zero) := by rw [List.getElem?_set_ne hij]; exact getD_at Tk.zero hj
   exact List.mem_of_getElem? h6
theorem CurS.spot (h : CurS s) : CurS (s.qc9 g c z) := h
end
section
variable {s : Sta} {g c i d : Nat} {z : Sp} {t t' : Tk} {e : En} {o : Op30}
theorem qqb (h : Shp s) (hg : g < s.gs.length) : ∃ w : Nat, (s.gs.getD g Gr.zero).weight = (w : Int) ∧ 1 ≤ w ∧ w ≤ 65536 := qbt h.gs hg
theorem qs4 (h0 : 0 < g) (h : entOk z.v z.r (s.gs.getD g Gr.zero).weight = true) : spOk s g z = true := by
 unfold spOk
 rw [h, show (g != 0) = true from bne_iff_ne.2 om]
 rfl
theorem qs5 (h : Shp s) (hg : g < s.sp.length) (hc : (c : Int) < s.cpus) : entOk (s.spot g c).v (s.spot g c).r (s.gs.getD g Gr.zero).weight = true := by
 have := h.spots g c hg hc
 unfold spOk at this
 rw [Bool.and_eq_true] at this
 exact this.1
theorem qqc (h : Shp s) (hg : g < s.sp.length) (hc : (c : Int) < s.cpus) : (s.spEn g c).Ok ∧ ((s.spEn g c).w : Int) = (s.gs.getD g Gr.zero).weight := by
 obtain ⟨w, hw, _⟩ := qqb h (g := g) (by rw [← h.sp]; exact hg)
 have h1 := qs5 h hg hc
 have e : s.spEn g c = ⟨(s.spot g c).v, (s.spot g c).r, w⟩ := by unfold Sta.spEn; rw [hw]; rfl
 rw [e]
 exact ⟨En.qda h1 hw (qb4 h.ok g c).v, hw.symm⟩
theorem ent_r {v r w : Nat} (h : entOk v r w = true) : r < 65536 := by
 unfold entOk at h
 rw [decide_eq_true_eq] at h
 omega
theorem Shp.run (h : Shp s) (h0 : 0 < g) (hg : g < s.sp.length) (hc : (c : Int) < s.cpus) (he : e.Ok) (hw : (e.w : Int) = (s.gs.getD g Gr.zero).weight) : Shp (s.qfd g c e) := by
 refine h.spot hg hc ⟨he.2, ?_, (qb4 h.ok g c).floor⟩ (qs4 h0 ?_)
 ·show e.r < _
  have := ent_r he.1
  omega
 ·show entOk e.v e.r _ = true
  rw [← hw]; exact he.1
theorem qqd : (s.qfd g c e).sp.length = s.sp.length := qbc
theorem Shp.wake (h : Shp s) (hc : (c : Int) < s.cpus) : ∀ (l : List Nat), (∀ g ∈ l, 0 < g ∧ g < s.sp.length) → Shp (wakeS s l c) := by
 intro l
 induction l generalizing s with
 | nil => intro _; exact h
 | cons g r ih =>
  intro hl
  have hg := hl g (List.mem_cons_self ..)
  have h1 := qqc h hg.2 hc
  have h2 := En.qc8 h1.1 (s.spot (s.par g).toNat c).floor s.credit (qb4 h.ok _ _).floor
  have h3 : Shp (wake1 c s g) := h.run hg.1 hg.2 hc h2.1 (by rw [h2.2]; exact h1.2)
  exact ih (s := wake1 c s g) h3 hc fun g' hg' => ⟨(hl g' (List.mem_cons_of_mem _ hg')).1, by rw [show (wake1 c s g).sp.length = s.sp.length from qqd]; exact (hl g' (List.mem_cons_of_mem _ hg')).2⟩
structure SameBut (s s' : Sta) : Prop where
 cpus : s'.cpus = s.cpus
 credit : s'.credit = s.credit
 gs : s'.gs = s.gs
 cl : s'.cl = s.cl
 cu : s'.cu = s.cu
 ts : s'.ts = s.ts
 len : s'.sp.length = s.sp.length
 row : ∀ g, (s'.sp.getD g []).length = (s.sp.getD g []).length
theorem SameBut.refl (s : Sta) : SameBut s s := ⟨rfl, rfl, rfl, rfl, rfl, rfl, rfl, fun _ => rfl⟩
theorem SameBut.trans {a b c : Sta} (h : SameBut a b) (k : SameBut b c) : SameBut a c := ⟨k.cpus.trans h.cpus, k.credit.trans h.credit, k.gs.trans h.gs, k.cl.trans h.cl, k.cu.trans h.cu, k.ts.trans h.ts, k.len.trans h.len, fun g => (k.row g).trans (h.row g)⟩
theorem SameBut.spot : SameBut s (s.qc9 g c z) := ⟨rfl, rfl, rfl, rfl, rfl, rfl, qbc, qf9⟩
theorem qee (c : Nat) : ∀ (l : List Nat) (s : Sta), SameBut s (wakeS s l c)
 | [], s => SameBut.refl s
 | g :: r, s => (SameBut.spot (s := s)).trans (qee c r (wake1 c s g))
theorem qga (c d : Nat) : ∀ (f g : Nat) (s : Sta), SameBut s (zt c d f g s)
 | 0, _, s => SameBut.refl s
 | f + 1, g, s => by
  rw [zt]
  split
  ·exact SameBut.refl s
  ·exact (SameBut.spot (s := s)).trans (qga c d f _ _)
theorem Shp.charge (h : Shp s) (hc : (c : Int) < s.cpus) (d : Nat) : ∀ (f g : Nat), g < s.sp.length → Shp (zt c d f g s) := by
 intro f
 induction f generalizing s with
 | zero => intro g _; exact h
 | succ f ih =>
  intro g hg
  rw [zt]
  split
  ·exact h
  ·rename_i h0
   have h1 := qqc h hg hc
   have h2 := En.qhu h1.1 d
   have h3 : Shp (s.qfd g c ((s.spEn g c).add d)) := h.run om hg hc h2.1 (by rw [h2.2]; exact h1.2)
   have hp := zy h.gs (g := g) (by rw [← h.sp]; exact hg) g om (Nat.le_refl _)
   unfold ParB at hp
   exact ih (s := s.qfd g c ((s.spEn g c).add d)) h3 hc _ (by rw [qqd]; show (s.gs.getD g Gr.zero).parent.toNat < _; omega)
theorem qh7 (hg : g < s.sp.length) : (riseS s).sp.getD g [] = (s.sp.getD g []).mapIdx fun c x => rise1 s g c x := by
 unfold riseS
 dsimp only
 rw [List.getD_eq_getElem?_getD, List.getElem?_mapIdx, List.getElem?_eq_getElem hg, List.getD_eq_getElem?_getD, List.getElem?_eq_getElem hg]
 rfl
theorem qbk : (riseS s).sp.length = s.sp.length := by unfold riseS; dsimp only; rw [List.length_mapIdx]
theorem qh8 (g : Nat) : ((riseS s).sp.getD g []).length = (s.sp.getD g []).length := by
 rcases Nat.lt_or_ge g s.sp.length with h | h
 ·rw [qh7 h, List.length_mapIdx]
 ·rw [List.getD_eq_getElem?_getD, List.getElem?_eq_none (by rw [qbk]; exact h), List.getD_eq_getElem?_getD, List.getElem?_eq_none h]
theorem qjw (hg : g < s.sp.length) (hc : c < (s.sp.getD g []).length) : (riseS s).spot g c = rise1 s g c (s.spot g c) := by
 unfold Sta.spot
 rw [qh7 hg, List.getD_eq_getElem?_getD (l := List.mapIdx _ _), List.getElem?_mapIdx, List.getElem?_eq_getElem hc, List.getD_eq_getElem?_getD (l := s.sp.getD g []), List.getElem?_eq_getElem hc]
 rfl
theorem qqe (g c : Nat) : ((riseS s).spot g c).v = (s.spot g c).v ∧ ((riseS s).spot g c).r = (s.spot g c).r := by
 rcases Nat.lt_or_ge g s.sp.length with hg | hg
 ·rcases Nat.lt_or_ge c (s.sp.getD g []).length with hc | hc
  ·rw [qjw hg hc]; exact qpv ..
  ·unfold Sta.spot
   rw [List.getD_eq_getElem?_getD (l := (riseS s).sp.getD g []), List.getElem?_eq_none (by rw [qh8]; exact hc), List.getD_eq_getElem?_getD (l := s.sp.getD g []), List.getElem?_eq_none hc]
   exact ⟨rfl, rfl⟩
 ·unfold Sta.spot
  rw [List.getD_eq_getElem?_getD (l := (riseS s).sp), List.getElem?_eq_none (by rw [qbk]; exact hg), List.getD_eq_getElem?_getD (l := s.sp), List.getElem?_eq_none hg]
  exact ⟨rfl, rfl⟩
theorem qww (hok : s.Ok) (hn : memS s g c ≠ []) : (bestM topM (memS s g c)).v < 18446744073709551616 := by
 rcases qc1 (qk2 hok hn) with ⟨t, ht, _, h2⟩ | ⟨h, _, _, _, _, h5⟩
 ·rw [h2]; exact (hok.ts t ht).v
 ·rw [h5]; exact (qb4 hok h c).v
theorem qs6 (hok : s.Ok) (hz : z.Ok) : (rise1 s g c z).Ok := by
 unfold rise1
 split
 ·exact hz
 ·rename_i hn
  have := qww hok (show memS s g c ≠ [] by simpa using hn)
  refine ⟨hz.v, hz.r, ?_⟩
  show max z.floor (bestM topM (memS s g c)).v < _
  have := hz.floor
  rw [Nat.max_def]
  split <;> omega
theorem qvm {s s' : Sta} (hgs : s'.gs = s.gs) {z z' : Sp} (hv : z'.v = z.v) (hr : z'.r = z.r) : spOk s' g z' = spOk s g z := by
 unfold spOk
 rw [hgs, hv, hr]
theorem Shp.rise (h : Shp s) : Shp (riseS s) := by
 refine ⟨⟨h.ok.cpus, h.ok.credit, h.ok.gs, h.ok.cl, h.ok.cu, h.ok.ts, fun l hl y hy => ?_⟩, h.cpus, h.credit, h.gs, h.cl, h.cu, qbk.trans h.sp, h.cls, fun g hg => ?_, fun g c hg hc => ?_, h.sort, fun u hu => ?_⟩
 ·obtain ⟨g, hg, rfl⟩ := zx [] hl
  rw [qbk] at hg
  rw [qh7 hg] at hy
  obtain ⟨c, hc, rfl⟩ := List.getElem_of_mem hy
  rw [List.getElem_mapIdx]
  exact qs6 h.ok (h.ok.sp _ (qm [] hg) _ (List.getElem_mem _))
 ·rw [qh8]; exact h.rows g (by rwa [qbk] at hg)
 ·rw [qbk] at hg
  have e := qvm (s := s) (s' := riseS s) (g := g) rfl (qqe (s := s) g c).1 (qqe (s := s) g c).2
  rw [e]
  exact h.spots g c hg hc
 ·rw [qbk]; exact h.tasks u hu
theorem GoodS.rise (h : GoodS s) : GoodS (riseS s) := ⟨h.sh.rise, h.cur⟩
theorem qgb (h : Shp s) (ht : s.ts[i]? = some t) : TkGood t s.cpus s.sp.length ∧ t.Ok := ⟨h.tasks t (List.mem_of_getElem? ht), h.ok.ts t (List.mem_of_getElem? ht)⟩
theorem qfi (hg : TkGood t s.cpus s.sp.length) (ho : t.Ok) (he : e.Ok) : TkGood (t.put e) s.cpus s.sp.length ∧ (t.put e).Ok := by
 have h1 := he.1
 unfold entOk at h1
 rw [decide_eq_true_eq] at h1
 refine ⟨⟨hg.id, hg.group, hg.cpu, ⟨h1.1, h1.2.1⟩, hg.mask, hg.bit, he.1⟩, ⟨ho.id, ho.group, ?_, ho.cpu, ho.mask, he.2, ?_⟩⟩
 ·show I64 ((e.w : Nat) : Int); unfold I64; omega
 ·show e.r < _; omega
theorem qhf (hg : TkGood t s.cpus s.sp.length) (ho : t.Ok) (b : Bool) : TkGood { t with ready := b } s.cpus s.sp.length ∧ ({ t with ready := b } : Tk).Ok := ⟨⟨hg.id, hg.group, hg.cpu, hg.weight, hg.mask, hg.bit, hg.ent⟩, ⟨ho.id, ho.group, ho.weight, ho.cpu, ho.mask, ho.v, ho.r⟩⟩
theorem qh9 (hg : TkGood t s.cpus s.sp.length) (ho : t.Ok) : t.en.Ok ∧ (t.en.w : Int) = t.weight := by
 have h1 := hg.weight
 have e : t.en = ⟨t.v, t.r, t.weight.toNat⟩ := rfl
 rw [e]
 exact ⟨En.qda hg.ent om ho.v, by show ((t.weight.toNat : Nat) : Int) = t.weight; omega⟩
theorem qia {id : Int} (h : ¬ fidx s.ts id < 0) : ∃ (k : Nat) (t : Tk), fidx s.ts id = (k : Int) ∧ s.ts[k]? = some t ∧ t.id = id ∧ tkOf s id = t := by
 obtain ⟨k, t, h1, h2, _, h3⟩ := qco h
 exact ⟨k, t, h1, h2, h3, qah h1 h2⟩
theorem qet (h : Shp s) (hg : g < s.sp.length) : ∀ k ∈ q5 s g c, 0 < k ∧ k < s.sp.length := fun k hk => by
 have := qg7 (s := s) (c := c) (g := g) (zy h.gs (by rw [← h.sp]; exact hg)) k hk
 exact ⟨this.1, by omega⟩
theorem CurS.but {s s' : Sta} (h : CurS s) (hb : SameBut s s') : CurS s' := by
 unfold CurS
 rw [hb.cu, hb.ts]
 exact h
theorem qnp (h : GoodS s) (he : (qca s o).2.2 = 0) : GoodS (qca s o).1 := by
 unfold qca at he ⊢
 split at he
 ·cases he
 ·split at he
  ·cases he
  ·rename_i h1 h2
   rw [if_neg h1, if_neg h2]
   split at he
   ·cases he
   ·rename_i h3
    rw [if_neg h3]
    obtain ⟨k, t, hk, ht, hid, htk⟩ := qia h2
    rw [htk] at h3
    simp only [htk, hk, Int.toNat_natCast]
    obtain ⟨hg, ho⟩ := qgb h.sh ht
    have hgl : t.group.toNat < s.sp.length := by have := hg.group; omega
    have hen := qh9 hg ho
    have hw := En.qc8 hen.1 (s.spot t.group.toNat t.cpu.toNat).floor s.credit (qb4 h.sh.ok _ _).floor
    have hp := qfi hg ho hw.1
    have hr := qhf hp.1 hp.2 true
    have hs1 : Shp (s.setT k { t.put (t.en.woken (s.spot t.group.toNat t.cpu.toNat).floor s.credit) with ready := true }) := h.sh.task ht rfl hr.2 hr.1
    have hc1 : CurS (s.setT k { t.put (t.en.woken (s.spot t.group.toNat t.cpu.toNat).floor s.credit) with ready := true }) := h.cur.task h.sh.sort ht rfl fun hh _ => absurd hh h3
    exact ⟨hs1.wake (by show ((t.cpu.toNat : Nat) : Int) < s.cpus; have := hg.cpu; omega) _ (qet h.sh hgl), hc1.but (qee ..)⟩
theorem qib (h : GoodS s) (he : (zk s o).2.2 = 0) : GoodS (zk s o).1 := by
 unfold zk at he ⊢
 split at he
 ·cases he
 ·split at he
  ·cases he
  ·rename_i h1 h2
   rw [if_neg h1, if_neg h2]
   split at he
   ·cases he
   ·rename_i h3
    rw [if_neg h3]
    obtain ⟨k, t, hk, ht, hid, htk⟩ := qia h3
    simp only [htk, hk, Int.toNat_natCast]
    obtain ⟨hg, ho⟩ := qgb h.sh ht
    have hw : 1 ≤ o.weight ∧ o.weight ≤ 65536 := by simpa [wOk] using h2
    obtain ⟨z, hz⟩ : ∃ z : Nat, o.weight = (z : Int) := ⟨o.weight.toNat, by omega⟩
    have hp := qfi hg ho (e := ⟨t.v, 0, z⟩) ⟨by unfold entOk; rw [decide_eq_true_eq]; exact ⟨by show (1 : Int) ≤ (z : Int); omega, by show (z : Int) ≤ _; omega, by show ((0 : Nat) : Int) < (z : Int); omega, .inr rfl⟩, ho.v⟩
    have e : ({ t with r := 0, weight := o.weight } : Tk) = t.put ⟨t.v, 0, z⟩ := by rw [hz]; rfl
    rw [e]
    exact ⟨h.sh.task ht rfl hp.2 hp.1, h.cur.task h.sh.sort ht rfl fun hh _ => ⟨hh, rfl⟩⟩
theorem qvn (h : Shp s) {v : Int} (hv : 0 ≤ v ∧ v ≤ 281474976710656) : Shp { s with cl := s.cl.set c v } := by
 refine ⟨⟨h.ok.cpus, h.ok.credit, h.ok.gs, fun z hz => ?_, h.ok.cu, h.ok.ts, h.ok.sp⟩, h.cpus, h.credit, h.gs, by show ((s.cl.set c v).length : Int) = _; rw [List.length_set]; exact h.cl, h.cu, h.sp, fun d hd => ?_, h.rows, h.spots, h.sort, h.tasks⟩
 ·rcases List.mem_or_eq_of_mem_set hz with h1 | rfl
  ·exact h.ok.cl z h1
  ·unfold I64; omega
 ·have hd' : d < (s.cl.set c v).length := hd
  show clOk ((s.cl.set c v).getD d 0) = true
  rw [List.length_set] at hd'
  by_cases e : c = d
  ·subst e
   rw [qg _ _ hd']
   unfold clOk
   rw [decide_eq_true hv]
  ·rw [getD_set_ne _ _ e]
   exact h.cls d hd'
theorem qqf (h : Shp s) {v : Int} (hv : I64 v) : Shp { s with cu := s.cu.set c v } := by
 refine ⟨⟨h.ok.cpus, h.ok.credit, h.ok.gs, h.ok.cl, fun z hz => ?_, h.ok.ts, h.ok.sp⟩, h.cpus, h.credit, h.gs, h.cl, by show ((s.cu.set c v).length : Int) = _; rw [List.length_set]; exact h.cu, h.sp, h.cls, h.rows, h.spots, h.sort, h.tasks⟩
 rcases List.mem_or_eq_of_mem_set hz with h1 | rfl
 ·exact h.ok.cu z h1
 ·exact hv
theorem qhg {x : Int} (h : ¬ s.qb7 x = false) : 0 ≤ x ∧ x < s.cpus := by
 unfold Sta.qb7 at h
 simpa using h
theorem qqg (h : GoodS s) (he : (tickS s o).2.2 = 0) : GoodS (tickS s o).1 := by
 unfold tickS at he ⊢
 split at he
 ·cases he
 ·split at he
  ·cases he
  ·rename_i h1 h2
   rw [if_neg h1, if_neg h2]
   split at he
   ·cases he
   ·rename_i h3
    rw [if_neg h3]
    have hc := qhg h1
    have hcl := h.sh.cls o.cpu.toNat (by have := h.sh.cl; omega)
    have hcl2 : 0 ≤ s.cl.getD o.cpu.toNat 0 ∧ s.cl.getD o.cpu.toNat 0 ≤ 281474976710656 := by unfold clOk at hcl; simpa using hcl
    have hs1 : Shp { s with cl := s.cl.set o.cpu.toNat (s.cl.getD o.cpu.toNat 0 + o.ticks) } := qvn h.sh ⟨by omega, by omega⟩
    dsimp only at he ⊢
    by_cases h4 : s.cu.getD o.cpu.toNat 0 = 0
    ·rw [if_pos h4]; exact ⟨hs1, h.cur⟩
    ·rw [if_neg h4]
     rcases h.cur o.cpu.toNat (by have := h.sh.cu; omega) with h5 | ⟨t, htm, hid, hr, hcp⟩
     ·exact absurd h5 h4
     ·obtain ⟨k, hk, rfl⟩ := zx Tk.zero htm
      have hf := qp9 h.sh.sort hk
      have ht := getD_at Tk.zero hk
      obtain ⟨t, hte⟩ : ∃ t, s.ts.getD k Tk.zero = t := ⟨_, rfl⟩
      rw [hte] at hid hr hcp hf ht
      rw [← hid, hf, qah hf ht, Int.toNat_natCast]
      obtain ⟨hg, ho⟩ := qgb h.sh ht
      have hen := qh9 hg ho
      have ha := En.qhu hen.1 o.ticks.toNat
      have hp := qfi hg ho ha.1
      have hs2 : Shp ({ s with cl := s.cl.set o.cpu.toNat (s.cl.getD o.cpu.toNat 0 + o.ticks) }.setT k (t.put (t.en.add o.ticks.toNat))) := hs1.task ht rfl hp.2 hp.1
      have hc2 : CurS ({ s with cl := s.cl.set o.cpu.toNat (s.cl.getD o.cpu.toNat 0 + o.ticks) }.setT k (t.put (t.en.add o.ticks.toNat))) := CurS.task (s := { s with cl := s.cl.set o.cpu.toNat (s.cl.getD o.cpu.toNat 0 + o.ticks) }) h.cur h.sh.sort ht rfl fun hh _ => ⟨hh, rfl⟩
      exact ⟨hs2.charge (by show ((o.cpu.toNat : Nat) : Int) < s.cpus; omega) _ _ _ (by show t.group.toNat < s.sp.length; have := hg.group; omega), hc2.but (qga ..)⟩
theorem qs7 (hok : s.Ok) : ∀ (n g : Nat), g < s.sp.length → s.sp.length - g ≤ n → qcb s c g = 0 ∨ ∃ t ∈ s.ts, t.ready = true ∧ t.cpu = (c : Int) ∧ qcb s c g = t.id.toNat := by
 intro n
 induction n with
 | zero => intro g hg hn; omega
 | succ n ih =>
  intro g hg hn
  by_cases hm : memS s g c = []
  ·exact .inl (qdl hg hm)
  ·rcases qc2 hok hm with ⟨h0, t, ht, hh, hb⟩ | ⟨h1, k, hk, h2, h3, _⟩
   ·refine .inr ⟨t, ht, ?_⟩
    unfold Tk.here at hh
    rw [Bool.and_eq_true, Bool.and_eq_true, decide_eq_true_eq, decide_eq_true_eq] at hh
    refine ⟨hh.1, hh.2.2, ?_⟩
    rw [qdm hg hm h0, hb]
   ·rw [(qdn hok hg hm om).1, hk]
    exact ih k h3 om
theorem qqh (h : GoodS s) (he : (pickS s o).2.2 = 0) : GoodS (pickS s o).1 := by
 unfold pickS at he ⊢
 split at he
 ·cases he
 ·rename_i h1
  rw [if_neg h1]
  have hc := qhg h1
  have hgl := (qh h.sh.gs).1
  have hf := qs7 (c := o.cpu.toNat) h.sh.ok s.sp.length 0 (by rw [h.sh.sp]; omega) om
  rw [← qpu] at hf
  have hb : I64 ((q3 s o.cpu.toNat : Nat) : Int) := by
   unfold I64
   rcases hf with h2 | ⟨t, ht, _, _, h2⟩
   ·omega
   ·have := (h.sh.tasks t ht).id; omega
  refine ⟨qqf h.sh hb, fun d hd => ?_⟩
  have hd' : d < s.cu.length := by have h3 : d < (s.cu.set o.cpu.toNat (q3 s o.cpu.toNat : Int)).length := hd; rwa [List.length_set] at h3
  show (s.cu.set o.cpu.toNat (q3 s o.cpu.toNat : Int)).getD d 0 = 0 ∨ _
  by_cases e : o.cpu.toNat = d
  ·have e2 : (s.cu.set o.cpu.toNat (q3 s o.cpu.toNat : Int)).getD d 0 = (q3 s o.cpu.toNat : Int) := by rw [← e]; exact qg _ _ (by rw [e]; exact hd')
   show (s.cu.set o.cpu.toNat (q3 s o.cpu.toNat : Int)).getD d 0 = 0 ∨ ∃ t ∈ s.ts, t.id = (s.cu.set o.cpu.toNat (q3 s o.cpu.toNat : Int)).getD d 0 ∧ _
   rw [e2]
   rcases hf with h2 | ⟨t, ht, h3, h4, h2⟩
   ·exact .inl om
   ·exact .inr ⟨t, ht, by have := (h.sh.tasks t ht).id; omega, h3, by rw [h4, e]⟩
  ·show (s.cu.set o.cpu.toNat (q3 s o.cpu.toNat : Int)).getD d 0 = 0 ∨ ∃ t ∈ s.ts, t.id = (s.cu.set o.cpu.toNat (q3 s o.cpu.toNat : Int)).getD d 0 ∧ _
   rw [getD_set_ne _ _ e]
   exact h.cur d hd'
end
section
variable {s : Sta} {g c i d : Nat} {t t' : Tk} {o : Op30}
theorem qhh {l l' : List Gr} (h : ∀ g, (l.getD g Gr.zero).parent = (l'.getD g Gr.zero).parent) : ∀ f g, depF l f g = depF l' f g
 | 0, _ => rfl
 | f + 1, g => by rw [depF, depF, h g, qhh h f]
theorem qs8 {l : List Gr} {w : Int} (h : gsOk l = true) (h0 : 0 < g) (hg : g < l.length) (hw : wOk w = true) : gsOk (l.set g { l.getD g Gr.zero with weight := w }) = true := by
 obtain ⟨h1, h2, h3, h4⟩ := qh h
 have hp : ∀ k, ((l.set g { l.getD g Gr.zero with weight := w }).getD k Gr.zero).parent = (l.getD k Gr.zero).parent := fun k => by
  by_cases e : g = k
  ·subst e; rw [qg _ _ hg]
  ·rw [getD_set_ne _ _ e]
 unfold gsOk
 rw [List.length_set, getD_set_ne _ _ om, decide_eq_true ⟨h1, h2, h3⟩, Bool.true_and]
 refine qaw fun k hk => ?_
 have := h4 k hk
 unfold gOk depG at this ⊢
 rw [hp, qhh hp]
 by_cases e : g = k
 ·subst e
  rw [qg _ _ hg]
  rw [Bool.or_eq_true, beq_iff_eq, decide_eq_true_eq] at this ⊢
  rcases this with h5 | h5
  ·exact .inl h5
  ·exact .inr ⟨h5.1, h5.2.1, hw, h5.2.2.2⟩
 ·rw [getD_set_ne _ _ e]; exact this
theorem qjx (h : GoodS s) (he : (z8 s o).2.2 = 0) : GoodS (z8 s o).1 := by
 unfold z8 at he ⊢
 split at he
 ·cases he
 ·split at he
  ·cases he
  ·rename_i h1 h2
   rw [if_neg h1, if_neg h2]
   obtain ⟨g, hg⟩ : ∃ g : Nat, o.group = (g : Int) := ⟨o.group.toNat, by omega⟩
   rw [hg, Int.toNat_natCast]
   have hw : wOk o.weight = true := by simpa using h2
   have hw2 : 1 ≤ o.weight ∧ o.weight ≤ 65536 := by simpa [wOk] using h2
   have hgl : g < s.sp.length := by omega
   have hgg : g < s.gs.length := by rw [← h.sh.sp]; exact hgl
   have hgr := h.sh.ok.gs _ (qm Gr.zero hgg)
   have hlen : (s.sp.set g ((s.sp.getD g []).map fun x => { x with r := 0 })).length = s.sp.length := List.length_set ..
   have hsp : ∀ k e : Nat, ((s.sp.set g ((s.sp.getD g []).map fun x => { x with r := 0 })).getD k []).getD e Sp.zero = if k = g then r0 (s.spot k e) else s.spot k e := fun k e => by
    by_cases hk : g = k
    ·subst hk
     rw [qg _ _ hgl, if_pos rfl]
     show _ = r0 ((s.sp.getD g []).getD e Sp.zero)
     rw [List.getD_eq_getElem?_getD, List.getElem?_map, List.getD_eq_getElem?_getD (l := s.sp.getD g [])]
     cases (s.sp.getD g [])[e]? <;> rfl
    ·rw [getD_set_ne _ _ hk, if_neg (fun h => hk h.symm)]; rfl
   refine ⟨⟨⟨h.sh.ok.cpus, h.sh.ok.credit, fun x hx => ?_, h.sh.ok.cl, h.sh.ok.cu, h.sh.ok.ts, fun l hl y hy => ?_⟩, h.sh.cpus, h.sh.credit, qs8 h.sh.gs om hgg hw, h.sh.cl, h.sh.cu, ?_, h.sh.cls, fun k hk => ?_, fun k e hk he => ?_, h.sh.sort, fun u hu => ?_⟩, h.cur⟩
   ·rcases List.mem_or_eq_of_mem_set hx with h3 | rfl
    ·exact h.sh.ok.gs x h3
    ·exact ⟨hgr.parent, by show I64 o.weight; unfold I64; omega⟩
   ·rcases List.mem_or_eq_of_mem_set hl with h3 | rfl
    ·exact h.sh.ok.sp l h3 y hy
    ·obtain ⟨z, hz, rfl⟩ := List.mem_map.1 hy
     have := h.sh.ok.sp _ (qm [] hgl) z hz
     exact ⟨this.v, by show 0 < _; omega, this.floor⟩
   ·rw [hlen, List.length_set]; exact h.sh.sp
   ·have hk' : k < s.sp.length := by rw [← hlen]; exact hk
    have := h.sh.rows k hk'
    show (((s.sp.set g ((s.sp.getD g []).map fun x => { x with r := 0 })).getD k []).length : Int) = s.cpus
    by_cases e : g = k
    ·subst e; rw [qg _ _ hgl, List.length_map]; exact this
    ·rw [getD_set_ne _ _ e]; exact this
   ·have hk' : k < s.sp.length := by rw [← hlen]; exact hk
    have h3 := h.sh.spots k e hk' he
    unfold spOk at h3 ⊢
    have e1 := hsp k e
    unfold Sta.spot at h3 ⊢ e1
    dsimp only at h3 ⊢ e1
    rw [e1]
    by_cases e2 : g = k
    ·subst e2
     rw [if_pos rfl, qg _ _ hgg]
     rw [Bool.and_eq_true] at h3 ⊢
     have h4 := h3.1
     unfold entOk at h4 ⊢
     rw [decide_eq_true_eq] at h4 ⊢
     refine ⟨⟨hw2.1, hw2.2, by show ((0 : Nat) : Int) < o.weight; omega, .inr rfl⟩, ?_⟩
     rw [show (g != 0) = true from bne_iff_ne.2 om]
     rfl
    ·rw [if_neg (fun h => e2 h.symm), getD_set_ne _ _ e2]; exact h3
   ·show TkGood u s.cpus (s.sp.set g _).length
    rw [hlen]
    exact h.sh.tasks u hu
theorem qjy (h : GoodS s) (ht : s.ts[i]? = some t) {to : Nat} (hto : (to : Int) < s.cpus) (hb : t.mask / 2 ^ to % 2 = 1) (hn : ∀ d, d < s.cu.length → s.cu.getD d 0 = t.id → t.cpu = (d : Int) → False) : GoodS (moveS s i (to : Int)) := by
 unfold moveS
 rw [qx Tk.zero ht]
 dsimp only
 rw [Int.toNat_natCast]
 obtain ⟨hg, ho⟩ := qgb h.sh ht
 have hen := qh9 hg ho
 have hm := En.qi2 hen.1 (s.spot t.group.toNat t.cpu.toNat).floor (s.spot t.group.toNat to).floor (qb4 h.sh.ok _ _).floor
 have hp := qfi hg ho hm.1
 have hI : I64 (to : Int) := by have := h.sh.cpus; unfold I64; omega
 have hs1 : Shp (s.setT i { t.put (t.en.moved (s.spot t.group.toNat t.cpu.toNat).floor (s.spot t.group.toNat to).floor) with cpu := (to : Int) }) :=
  h.sh.task ht rfl ⟨hp.2.id, hp.2.group, hp.2.weight, hI, hp.2.mask, hp.2.v, hp.2.r⟩ ⟨hp.1.id, hp.1.group, ⟨by show (0 : Int) ≤ (to : Int); omega, hto⟩, hp.1.weight, hp.1.mask, by show t.mask / 2 ^ ((to : Int)).toNat % 2 = 1; rw [Int.toNat_natCast]; exact hb, hp.1.ent⟩
 have hc1 : CurS (s.setT i { t.put (t.en.moved (s.spot t.group.toNat t.cpu.toNat).floor (s.spot t.group.toNat to).floor) with cpu := (to : Int) }) :=
  h.cur.task h.sh.sort ht rfl fun _ ⟨d, h1, h2, h3⟩ => (hn d h1 h2 h3).elim
 have hgl : t.group.toNat < s.sp.length := by have := hg.group; omega
 split
 ·exact ⟨hs1.wake hto _ (qet h.sh hgl), hc1.but (qee ..)⟩
 ·exact ⟨hs1, hc1⟩
theorem qqi {m : Nat} {x : Int} (h : bitOn m x = true) : m / 2 ^ x.toNat % 2 = 1 := of_decide_eq_true h
theorem qjz (h : GoodS s) (he : (qad s o).2.2 = 0) : GoodS (qad s o).1 := by
 unfold qad at he ⊢
 split at he
 ·cases he
 ·split at he
  ·cases he
  ·split at he
   ·cases he
   ·split at he
    ·cases he
    ·split at he
     ·cases he
     ·split at he
      ·cases he
      ·rename_i h1 h2 h3 h4 h5 h6
       rw [if_neg h1, if_neg h2, if_neg h3, if_neg h4, if_neg h5, if_neg h6]
       obtain ⟨k, t, hk, ht, hid, htk⟩ := qia h3
       have hto := qhg h1
       rw [htk] at h6
       rw [hk, Int.toNat_natCast]
       have hb := qqi (by simpa using h6 : bitOn t.mask o.to = true)
       obtain ⟨to, hte⟩ : ∃ to : Nat, o.to = (to : Int) := ⟨o.to.toNat, by omega⟩
       rw [hte] at hto hb ⊢
       rw [Int.toNat_natCast] at hb
       refine qjy h ht hto.2 hb fun d hd hcu _ => h4 ?_
       rw [← hid, ← hcu]
       exact qm 0 hd
theorem qic : ∀ {n b : Nat}, bestF s o n = some b → mayB s o (s.ts.getD b Tk.zero) = true
 | 0, b, h => by cases h
 | n + 1, b, h => by
  rw [bestF] at h
  split at h
  ·rename_i hm
   split at h
   ·injection h with h; subst h; exact hm
   ·rename_i b' hb
    split at h
    ·injection h with h; subst h; exact hm
    ·injection h with h; subst h; exact qic hb
  ·exact qic h
theorem qj0 (h : GoodS s) (he : (zu s o).2.2 = 0) : GoodS (zu s o).1 := by
 unfold zu at he ⊢
 split at he
 ·cases he
 ·rename_i h1
  rw [if_neg h1]
  cases hb : bestF s o s.ts.length with
  | none => rw [hb] at he; cases he
  | some b =>
   dsimp only
   have hl := qfh hb
   have hm := qic hb
   have ht := getD_at Tk.zero hl
   have hto := qhg h1
   unfold mayB at hm
   simp only [Bool.and_eq_true, decide_eq_true_eq] at hm
   obtain ⟨_, h3, h4, h5, _⟩ := hm
   obtain ⟨to, hte⟩ : ∃ to : Nat, o.cpu = (to : Int) := ⟨o.cpu.toNat, by omega⟩
   rw [hte] at hto h4 ⊢
   have h6 := qqi h4
   rw [Int.toNat_natCast] at h6
   refine qjy h ht hto.2 h6 fun d hd hcu hc => h5 ?_
   rw [hc, Int.toNat_natCast]
   exact hcu
theorem qgc {l : List Tk} : SortT l ↔ l.Pairwise fun a b => a.id < b.id := by
 rw [List.pairwise_iff_getElem]
 constructor
 ·intro h i j hi hj hij
  have := h i j hij hj
  rw [List.getD_eq_getElem?_getD, List.getElem?_eq_getElem hi, List.getD_eq_getElem?_getD, List.getElem?_eq_getElem hj] at this
  exact this
 ·intro h i j hij hj
  have := h i j om hj hij
  rw [List.getD_eq_getElem?_getD, List.getElem?_eq_getElem om, List.getD_eq_getElem?_getD, List.getElem?_eq_getElem hj]
  exact this
theorem Shp.ts (h : Shp s) {l : List Tk} (hs : SortT l) (hg : ∀ u ∈ l, TkGood u s.cpus s.sp.length ∧ u.Ok) : Shp { s with ts := l } :=
 ⟨⟨h.ok.cpus, h.ok.credit, h.ok.gs, h.ok.cl, h.ok.cu, fun u hu => (hg u hu).2, h.ok.sp⟩, h.cpus, h.credit, h.gs, h.cl, h.cu, h.sp, h.cls, h.rows, h.spots, hs, fun u hu => (hg u hu).1⟩
theorem qj1 {l : List Tk} {id : Int} (h : ¬ 0 ≤ fidx l id) : ∀ t ∈ l, t.id ≠ id := by
 rcases qeq l id with ⟨_, h2⟩ | ⟨i, h2, _⟩
 ·intro t ht hid
  obtain ⟨k, hk, rfl⟩ := zx Tk.zero ht
  unfold findS at h2
  have := List.findIdx?_eq_none_iff.1 h2 _ (qm Tk.zero hk)
  rw [hid, beq_self_eq_true] at this
  cases this
 ·omega
theorem qde {α : Type} {p : α → Bool} : ∀ {l : List α} {u : α}, u ∈ l.takeWhile p → p u = true
 | [], u, h => by cases h
 | a :: r, u, h => by
  rw [List.takeWhile_cons] at h
  split at h
  ·rename_i ha
   rcases List.mem_cons.1 h with rfl | h
   ·exact ha
   ·exact qde h
  ·cases h
theorem qct {α : Type} {p : α → Bool} : ∀ {l : List α} {a : α} {r : List α}, l.dropWhile p = a :: r → p a = false
 | [], _, _, h => by cases h
 | b :: q, a, r, h => by
  rw [List.dropWhile_cons] at h
  split at h
  ·exact qct h
  ·rename_i hb
   injection h with h1 h2
   subst h1
   simpa using hb
theorem qs9 {l : List Tk} {id : Int} (hs : SortT l) (hn : ∀ t ∈ l, t.id ≠ id) (ht : t.id = id) : SortT ((l.takeWhile fun t => decide (t.id ≤ id)) ++ t :: (l.dropWhile fun t => decide (t.id ≤ id))) := by
 rw [qgc] at hs ⊢
 have hlow : ∀ u ∈ l.takeWhile (fun t => decide (t.id ≤ id)), u.id < id := fun u hu => by
  have h1 := qde hu
  rw [decide_eq_true_eq] at h1
  have := hn u ((List.takeWhile_sublist _).subset hu)
  omega
 have hd := hs.sublist (List.dropWhile_sublist fun t => decide (t.id ≤ id))
 have hhi : ∀ u ∈ l.dropWhile (fun t => decide (t.id ≤ id)), id < u.id := fun u hu => by
  cases hdr : l.dropWhile (fun t => decide (t.id ≤ id)) with
  | nil => rw [hdr] at hu; cases hu
  | cons a r =>
   have h1 : ¬ decide (a.id ≤ id) = true := by
    have := qct hdr
    rw [this]; decide
   rw [decide_eq_true_eq] at h1
   rw [hdr] at hu hd
   rcases List.mem_cons.1 hu with rfl | hu
   ·omega
   ·have := (List.pairwise_cons.1 hd).1 u hu; omega
 rw [List.pairwise_append]
 refine ⟨hs.sublist (List.takeWhile_sublist _), List.pairwise_cons.2 ⟨fun u hu => ?_, hd⟩, fun a ha b hb => ?_⟩
 ·have := hhi u hu; omega
 ·have h1 := hlow a ha
  rcases List.mem_cons.1 hb with rfl | hb
  ·omega
  ·have := hhi b hb; omega
theorem qqj {l : List Tk} {p : Tk → Bool} {u : Tk} : u ∈ l.takeWhile p ++ t :: l.dropWhile p ↔ u = t ∨ u ∈ l := by
 conv => rhs; rw [← List.takeWhile_append_dropWhile (p := p) (l := l)]
 simp only [List.mem_append, List.mem_cons]
 constructor
 ·rintro (h | rfl | h)
  ·exact .inr (.inl h)
  ·exact .inl rfl
  ·exact .inr (.inr h)
 ·rintro (rfl | h | h)
  ·exact .inr (.inl rfl)
  ·exact .inl h
  ·exact .inr (.inr h)
theorem qnq (ho : o.Ok) (h : GoodS s) (he : (qb9 s o).2.2 = 0) : GoodS (qb9 s o).1 := by
 unfold qb9 at he ⊢
 split at he
 ·cases he
 ·split at he
  ·cases he
  ·split at he
   ·cases he
   ·split at he
    ·cases he
    ·split at he
     ·cases he
     ·split at he
      ·cases he
      ·rename_i h1 h2 h3 h4 h5 h6
       rw [if_neg h1, if_neg h2, if_neg h3, if_neg h4, if_neg h5, if_neg h6]
       have hc := qhg h1
       have hgl : o.group.toNat < s.sp.length := by omega
       have hid : 1 ≤ o.task ∧ o.task ≤ 65535 := by simpa [idOk] using h2
       have hg3 : 0 ≤ o.group ∧ o.group < s.sp.length := Classical.not_not.1 h3
       have hw : 1 ≤ o.weight ∧ o.weight ≤ 65536 := by have := fun h => h4 (.inl h); simpa [wOk] using this
       have hm : qe4 o.mask s.cpus = false := by have := fun h => h4 (.inr (.inr h)); simpa using this
       have hb : o.mask / 2 ^ o.cpu.toNat % 2 = 1 := qqi (by simpa using h6)
       have hf := (qb4 h.sh.ok o.group.toNat o.cpu.toNat).floor
       have htg : TkGood (⟨o.task, o.group, o.weight, o.cpu, o.mask, true, (s.spot o.group.toNat o.cpu.toNat).floor, 0⟩ : Tk) s.cpus s.sp.length := ⟨hid, hg3, hc, hw, hm, hb, by unfold entOk; rw [decide_eq_true_eq]; exact ⟨hw.1, hw.2, by show ((0 : Nat) : Int) < o.weight; omega, .inr rfl⟩⟩
       have hto : (⟨o.task, o.group, o.weight, o.cpu, o.mask, true, (s.spot o.group.toNat o.cpu.toNat).floor, 0⟩ : Tk).Ok := ⟨ho.task, ho.group, ho.weight, ho.cpu, ho.mask, hf, by show 0 < _; omega⟩
       have hs1 := h.sh.ts (qs9 h.sh.sort (qj1 h5) (t := ⟨o.task, o.group, o.weight, o.cpu, o.mask, true, (s.spot o.group.toNat o.cpu.toNat).floor, 0⟩) rfl) (fun u hu => by
        rcases qqj.1 hu with rfl | hu
        ·exact ⟨htg, hto⟩
        ·exact ⟨h.sh.tasks u hu, h.sh.ok.ts u hu⟩)
       have hc1 : CurS { s with ts := (s.ts.takeWhile fun t => decide (t.id ≤ o.task)) ++ (⟨o.task, o.group, o.weight, o.cpu, o.mask, true, (s.spot o.group.toNat o.cpu.toNat).floor, 0⟩ :: (s.ts.dropWhile fun t => decide (t.id ≤ o.task))) } := fun d hd => by
        rcases h.cur d hd with h7 | ⟨u, hu, h7⟩
        ·exact .inl h7
        ·exact .inr ⟨u, qqj.2 (.inr hu), h7⟩
       exact ⟨hs1.wake (by show ((o.cpu.toNat : Nat) : Int) < s.cpus; omega) _ (qet h.sh hgl), hc1.but (qee ..)⟩
theorem qhi (h : GoodS s) (he : (qai s o).2.2 = 0) : GoodS (qai s o).1 := by
 unfold qai at he ⊢
 split at he
 ·cases he
 ·split at he
  ·cases he
  ·rename_i h1 h2
   rw [if_neg h1, if_neg h2]
   have hc := qhg h1
   dsimp only
   rcases h.cur o.cpu.toNat (by have := h.sh.cu; omega) with h5 | ⟨t, htm, hid, hr, hcp⟩
   ·exact absurd h5 h2
   ·obtain ⟨k, hk, rfl⟩ := zx Tk.zero htm
    have hf := qp9 h.sh.sort hk
    have ht := getD_at Tk.zero hk
    obtain ⟨t, hte⟩ : ∃ t, s.ts.getD k Tk.zero = t := ⟨_, rfl⟩
    rw [hte] at hid hr hcp hf ht
    rw [← hid, hf, Int.toNat_natCast, hte]
    obtain ⟨hg, hto⟩ := qgb h.sh ht
    have hr2 := qhf hg hto false
    have hs1 : Shp { s with cu := s.cu.set o.cpu.toNat 0 } := qqf h.sh (by unfold I64; omega)
    have hs2 : Shp { s with cu := s.cu.set o.cpu.toNat 0, ts := s.ts.set k { t with ready := false } } := hs1.task (s := { s with cu := s.cu.set o.cpu.toNat 0 }) ht rfl hr2.2 hr2.1
    have hcur : ∀ d, d < (s.cu.set o.cpu.toNat 0).length → (s.cu.set o.cpu.toNat 0).getD d 0 = 0 ∨ ∃ j u, s.ts[j]? = some u ∧ j ≠ k ∧ u.id = (s.cu.set o.cpu.toNat 0).getD d 0 ∧ u.ready = true ∧ u.cpu = (d : Int) := fun d hd => by
     rw [List.length_set] at hd
     by_cases e : o.cpu.toNat = d
     ·subst e; rw [qg _ _ hd]; exact .inl rfl
     ·rw [getD_set_ne _ _ e]
      rcases h.cur d hd with h6 | ⟨u, hu, h6, h7, h8⟩
      ·exact .inl h6
      ·obtain ⟨j, hj, rfl⟩ := zx Tk.zero hu
       refine .inr ⟨j, _, getD_at Tk.zero hj, fun e2 => ?_, h6, h7, h8⟩
       subst e2
       rw [hte, hcp] at h8
       exact e om
    split
    ·refine ⟨hs2.ts (s := { s with cu := s.cu.set o.cpu.toNat 0, ts := s.ts.set k { t with ready := false } }) (l := (s.ts.set k { t with ready := false }).eraseIdx k) (qgc.2 ((qgc.1 hs2.sort).sublist (List.eraseIdx_sublist ..))) (fun u hu => ?_), fun d hd => ?_⟩
     ·have hu2 := (List.eraseIdx_sublist ..).subset hu
      exact ⟨hs2.tasks u hu2, hs2.ok.ts u hu2⟩
     ·rcases hcur d hd with h6 | ⟨j, u, hj, hjk, h6⟩
      ·exact .inl h6
      ·refine .inr ⟨u, ?_, h6⟩
       have h7 : (s.ts.set k { t with ready := false })[j]? = some u := by rw [List.getElem?_set_ne (fun e => hjk e.symm)]; exact hj
       exact List.mem_eraseIdx_iff_getElem?.2 ⟨j, hjk, h7⟩
    ·refine ⟨hs2, fun d hd => ?_⟩
     rcases hcur d hd with h6 | ⟨j, u, hj, hjk, h6⟩
     ·exact .inl h6
     ·refine .inr ⟨u, ?_, h6⟩
      have h7 : (s.ts.set k { t with ready := false })[j]? = some u := by rw [List.getElem?_set_ne (fun e => hjk e.symm)]; exact hj
      exact List.mem_of_getElem? h7
theorem qgd (ho : o.Ok) (h : GoodS s) (he : (stepS s o).2.2 = 0) : GoodS (stepS s o).1 := by
 unfold stepS at he ⊢
 split at he
 ·exact qnq ho h he
 ·exact qnp h he
 ·exact qhi h he
 ·exact qhi h he
 ·exact qqg h he
 ·exact qqh h he
 ·exact qib h he
 ·exact qjx h he
 ·exact qjz h he
 ·exact qj0 h he
 ·cases he
end
def qmi (w : World) (R : List Nat) (r : Ending) (w' : World) : Prop :=
 (∃ A c, r = .returned (.slice A R.length c) ∧ w'.ownsRow w.heap.size 3 1 (.slice A R.length c) R.length (R.map I64v) ∧ R.length ≤ c) ∧ Below w.heap.size w w'
theorem qup {w w' : World} {q R : List Nat} {A : Option Addr} {c : Nat} (hq : q = R) (ho : w'.ownsRow w.heap.size 3 1 (.slice A q.length c) q.length (q.map I64v)) (hc : q.length ≤ c) (hb : Below w.heap.size w w') : qmi w R (.returned (.slice A q.length c)) w' := by
 subst hq
 exact ⟨⟨A, c, rfl, ho, hc⟩, hb⟩
theorem qvo {x : Stm} {g c : Nat} (hok : x.sta.Ok) (hsh : ShAt x) (hn : memS x.sta g c ≠ []) : (bestM topM (memS x.sta g c)).id ≤ 1000000 := by
 rcases qc2 hok hn with ⟨_, t, ht, _, h2⟩ | ⟨_, h, h3, _, h5, _⟩
 ·obtain ⟨i, hi, rfl⟩ := List.getElem_of_mem ht
  have h4 := tk_id (hsh.tk i hi)
  rw [List.getD_eq_getElem?_getD, List.getElem?_eq_getElem (l := x.ts) hi] at h4
  have h5 : 1 ≤ (x.sta.ts[i]).id ∧ (x.sta.ts[i]).id ≤ 65535 := h4
  rw [h2]
  show (x.sta.ts[i]).id.toNat ≤ 1000000
  omega
 ·rw [h3]
  rw [zl, hsh.rs] at h5
  obtain ⟨_, _, _, hgs⟩ := zf hsh.cfg
  have := (qh hgs).2.1
  omega
theorem qc4 {x : Stm} (hsh : ShAt x) : ∀ t ∈ x.ts, 1 ≤ t.weight ∧ t.weight ≤ 65536 := by
 intro t ht
 obtain ⟨i, hi, rfl⟩ := List.getElem_of_mem ht
 have h1 := (qh5 (hsh.tk i hi)).2
 rw [List.getD_eq_getElem?_getD, List.getElem?_eq_getElem hi] at h1
 unfold tkOk1 wOk at h1
 simp only [Bool.and_eq_true, decide_eq_true_eq, Option.getD_some] at h1
 exact h1.2.1
theorem qqk (x : Stm) (gm g c : Nat) (w : World) (hok : x.sta.Ok) (hf : StFew x) (hsh : ShAt x) (hx : StRd w x) (hm : w.heap[gm]? = some (.cells #[vI x.cpus, vQ x.credit, .slice x.gA x.gs.length x.gc, .slice x.lA x.cl.length x.lc, .slice x.uA x.cu.length x.uc, .slice x.tA x.ts.length x.tc, .slice x.sA x.rs.length x.sc, .bool true] 56 (0, 0))) (hc : (c : Int) < x.cpus) (hg : g < x.rs.length) :
    Calls Tryz.prog 82 #[vP gm 0, vI g, vI c] w (qmi w (q5 x.sta g c)) := by
 have hfs_ := hf.s; have hft_ := hf.t; have hfg_ := hf.g; have hrl := hsh.rs
 obtain ⟨hc1, hc2, _, hgs⟩ := zf hsh.cfg
 refine (JN3 Tryz.func82 35) ?_
 refine (JP∘Jp 1∘Jq) fun a I HM => ?_
 replace HM := HM.nil 3 1
 refine Jb I HM ((JG∘JP∘Jp 1∘Jj∘JQ∘JB) fun a I HM => ?_)
 refine qi (fun mS aS wS => ∃ (k : Nat) (q : List Nat) (X : Option Addr) (xc : Nat), (k ≤ g) ∧ (q ++ q5 x.sta k c = q5 x.sta g c) ∧ (q.length ≤ g - k) ∧ (q.length ≤ xc) ∧ mS = 0 + k ∧ Fr aS 35 [] [(7, .slice X q.length xc), (6, vN), (0, vP gm 0), (1, vI k), (2, vI c)] ∧ Mem w wS [.row (.slice X q.length xc) q.length (q.map I64v) 3 1]) (m := 0 + g) ⟨g, [], none, 0, Nat.le_refl _, rfl, Nat.zero_le _, Nat.le_refl _, rfl, I.sub kr, HM.pk [0]⟩ ?_
 clear I HM; rintro mS a w_ ⟨k, q, X, xc, hk, hq, hql, hXc, rfl, I, HM⟩
 refine Jb I HM ((JQ∘JP∘Jp 2∘Jd1∘Jj) (Ju (fun hb11 => ?_) fun hb11 => ?_))
 ·
  intro a I HM
  have hd11 := of_decide_eq_true hb11
  have hk0 : 0 < k := by omega
  have hpk := zy hgs (g := k) om k hk0 (Nat.le_refl _)
  unfold ParB at hpk
  obtain ⟨y, hy⟩ : ∃ y : Nat, (x.gs.getD k Gr.zero).parent = (y : Int) := ⟨(x.gs.getD k Gr.zero).parent.toNat, by omega⟩
  refine Jb I HM ((JT∘JS'∘JQ∘JB∘JQ∘JP∘Jp 3∘JL (h:=by exact fun HM => qf3 x hok hf hsh gm c om _ k (Nat.le_refl _) om _ (hx.old HM) (HM.oldBlk hm))) ?_)
  rintro HM _ w26 ⟨rfl, hbw⟩
  refine ⟨_, rfl, _, HM.call hbw, ?_⟩
  refine (Jp 1∘Jx∘Jx∘JA #[vQ 0, vQ 0, vQ 0]) fun w8 g8 => (JV qcn O0' (h1:=by exact qg3 (bestM topM (memS x.sta k c)))) fun w4_8 => (Jp 1∘Jd6∘Jr∘Jp 1∘Jj) (Ju (fun hb29 => ?_) fun hb29 => ?_)
  ·
   intro a I HM
   have hqm : q = q5 x.sta g c := by rw [← hq, qdk (by simpa using hb29), List.append_nil]
   exact Jb I HM ((JT∘JX∘JG∘JP∘Jp 2∘Jd1∘Jj∘JZ∘Jz1) fun HM => qup hqm (HM.own (i := 1) rfl) hXc HM.below)
  intro a I HM
  have hme : memS x.sta k c = [] := by simpa using hb29
  have hst := qdj (s := x.sta) (c := c) (g := k) (zy hgs om) hk0 hme
  replace hst : q5 x.sta k c = k :: q5 x.sta (x.gs.getD k Gr.zero).parent.toNat c := hst
  rw [hy, Int.toNat_natCast] at hst
  refine Jb I HM ((JF∘JS'∘JR∘Jp 2∘JU zd #[vI k]) fun w32 g32 => (JD ([k].map I64v) 2 (fun _ _ => O2') zd (hr:=by exact fun HM => HM.rdBlk (i := 0) (n := 1) (size := 1) rfl rfl) (h1:=by simp [Value.oneCell', I64v])) fun w33 A33 c33 hc33 => (Jp 1∘Jd4∘Jq) fun a I HM => ?_)
  have hnA33 : q.length + 1 = (q ++ [k]).length := lapp rfl
  replace HM := HM.reRow (i := 2) (ys := (q ++ [k]).map I64v) rfl hnA33 (List.map_append.symm)
  rw [hnA33] at hc33
  replace I := I.sp 7 (.slice A33 ((q ++ [k]).length) c33) rfl (by rw [hnA33])
  refine Jb I HM ((JG∘JR∘Jp 1∘Jn∘Jf 0∘Jf 0∘Jf 2∘Jy (v := .slice x.gA x.gs.length x.gc) (h:=by exact Yl.qo rfl rfl kr (fun _ h => h.qay hm rfl))∘Jp 1) fun a I HM => ?_)
  obtain ⟨gq1, oq1, hq1, _⟩ := Rd.qt hx.g (Nat.lt_of_le_of_lt (Nat.zero_le _) (show k < x.gs.length from by omega)) de
  have hrq1 := hx.g; rw [hq1] at hrq1
  replace I := I.sp 17 (.slice (some ⟨gq1, oq1, none⟩) x.gs.length x.gc) rfl (by rw [hq1]; try rfl)
  refine Jb I HM ((Jy (h:=by exact Yl.ix gq1 oq1 k 2 rfl rfl rfl)∘Jf 0∘Jy (v := vI ((x.gs.getD k Gr.zero).parent)) (h:=by exact Yl.qo rfl rfl kr (fun _ h => (by have := (h.old hrq1).partAt za (k := k) (j := 0) (x := (x.gs.getD k Gr.zero)) ((getD_at Gr.zero om)) rfl; simpa using this)))∘Jo (vI y) (by rw [hy])∘Jp 1∘Jd6∘Jq) fun a I HM => ?_)
  exact ⟨_, om, y, (q ++ [k]), A33, c33, by omega, by rw [← hq, hst, List.append_assoc]; rfl, by rw [List.length_append]; show q.length + 1 ≤ g - y; omega, hc33, rfl, I.sub kr, HM.pk [2]⟩
 intro a I HM
 have hd11 := of_decide_eq_false hb11
 have hqm : q = q5 x.sta g c := by rw [← hq, show k = 0 by omega, qk1, List.append_nil]
 exact Jb I HM ((JF∘JX∘JG∘JP∘Jp 2∘Jd1∘Jj∘JZ∘Jz1) fun HM => qup hqm (HM.own (i := 0) rfl) hXc HM.below)
theorem qj2 (x : Stm) (gm c : Nat) (w : World) (hok : x.sta.Ok) (hf : StFew x) (hsh : ShAt x) (hx : StRd w x) (hm : w.heap[gm]? = some (.cells #[vI x.cpus, vQ x.credit, .slice x.gA x.gs.length x.gc, .slice x.lA x.cl.length x.lc, .slice x.uA x.cu.length x.uc, .slice x.tA x.ts.length x.tc, .slice x.sA x.rs.length x.sc, .bool true] 56 (0, 0))) (hc : (c : Int) < x.cpus) :
    Calls Tryz.prog 42 #[vP gm 0, vI c] w (Is w (vI (q3 x.sta c : Int))) := by
 have hfs_ := hf.s; have hft_ := hf.t; have hfg_ := hf.g; have hrl := hsh.rs
 obtain ⟨hc1, hc2, _, hgs⟩ := zf hsh.cfg
 have hrs0 : 0 < x.rs.length := by have h1 := (qh hgs).1; omega
 refine (JN2 Tryz.func42 28) ?_
 refine (JP∘Jp 1∘Jr∘Jp 1∘Jj∘JB) fun a I HM => ?_
 refine qi (fun mS aS wS => ∃ (g : Nat), (g < x.rs.length) ∧ (qcb x.sta c g = q3 x.sta c) ∧ mS = x.rs.length - g ∧ Fr aS 28 [] [(5, vI g), (4, vI 0), (0, vP gm 0), (1, vI c)] ∧ Mem w wS []) (m := x.rs.length - 0) ⟨0, by omega, rfl, rfl, I.sub kr, HM.pk []⟩ ?_
 clear I HM; rintro mS a w_ ⟨g, hg, hq, rfl, I, HM⟩
 refine Jb I HM ((JB∘JP∘Jp 3∘JL (h:=by exact fun HM => qf3 x hok hf hsh gm c om _ g (Nat.le_refl _) om _ (hx.old HM) (HM.oldBlk hm))) ?_)
 rintro HM _ w12 ⟨rfl, hbw⟩
 refine ⟨_, rfl, _, HM.call hbw, ?_⟩
 refine (Jp 1∘Jx∘Jx∘JA #[vQ 0, vQ 0, vQ 0]) fun w6 g6 => (JV qcn O0' (h1:=by exact qg3 (bestM topM (memS x.sta g c)))) fun w2_8 => (Jp 1∘Jj∘JQ∘JB∘JP∘Jp 3∘Jd2∘Jj) (Ju (fun hb15 => ?_) fun hb15 => ?_)
 ·
  intro a I HM
  have hm0 : memS x.sta g c = [] := by simpa using hb15
  exact Jb I HM ((JT∘JP∘Jp 1∘Jj∘JZ∘Jz1) fun HM => by exact ⟨by rw [← hq, qdl (by rw [zl]; omega) hm0]; rfl, HM.below⟩)
 intro a I HM
 have hm0 : memS x.sta g c ≠ [] := by simpa using hb15
 have hsl : x.sta.sp.length = x.rs.length := zl
 refine Jb I HM ((JF∘JP∘Jy (v := vP g6 1) (h:=by exact Yl.qam (ad := ⟨g6, 0, none⟩) (m := 3) (y := 1) (sz := 1) rfl rfl rfl kr de)∘Jc O0∘Jp 2∘Jd3∘Jj) (Ju (fun hb18 => ?_) fun hb18 => ?_))
 ·
  intro a I HM
  have hd18 := eq_of_beq hb18
  have hk0 : (bestM topM (memS x.sta g c)).k = 0 := by omega
  have hid := qvo hok hsh hm0
  have hft := qdm (s := x.sta) (c := c) (g := g) om hm0 hk0
  exact Jb I HM ((JT∘JP∘Jy (v := vP g6 2) (h:=by exact Yl.qam (ad := ⟨g6, 0, none⟩) (m := 3) (y := 2) (sz := 1) rfl rfl rfl kr de)∘Jc O0∘Jv 1 [(24, vI (IntKind.i64.wrap ((bestM topM (memS x.sta g c)).id : Int)))]∘Jo (vI ((bestM topM (memS x.sta g c)).id)) (by exact qbl rfl om)∘Jp 1∘Jd3∘Jj∘JZ∘Jz1) fun HM => by exact ⟨by rw [← hq, hft], HM.below⟩)
 intro a I HM
 have hd18 := ne_of_beq_false hb18
 have hk0 : (bestM topM (memS x.sta g c)).k ≠ 0 := by omega
 obtain ⟨hdn, hdg, hdl⟩ := qdn (s := x.sta) (c := c) (g := g) hok om hm0 hk0
 refine Jb I HM ((JF∘JS'∘JR∘Jy (v := vP g6 2) (h:=by exact Yl.qam (ad := ⟨g6, 0, none⟩) (m := 3) (y := 2) (sz := 1) rfl rfl rfl kr de)∘Jc O0∘Jv 1 [(27, vI (IntKind.i64.wrap ((bestM topM (memS x.sta g c)).id : Int)))]∘Jo (vI ((bestM topM (memS x.sta g c)).id)) (by exact qbl rfl om)∘Jp 1∘Jd3∘Jq) fun a I HM => ?_)
 exact ⟨_, om, (bestM topM (memS x.sta g c)).id, by omega, by rw [← hdn]; exact hq, rfl, I.sub kr, HM.pk []⟩
theorem qhj (x : Stm) (gm c : Nat) (w : World) (hok : x.sta.Ok) (hf : StFew x) (hsh : ShAt x) (hx : StRd w x) (hm : w.heap[gm]? = some (.cells #[vI x.cpus, vQ x.credit, .slice x.gA x.gs.length x.gc, .slice x.lA x.cl.length x.lc, .slice x.uA x.cu.length x.uc, .slice x.tA x.ts.length x.tc, .slice x.sA x.rs.length x.sc, .bool true] 56 (0, 0))) :
    Calls Tryz.prog 43 #[vP gm 0, vI c] w (Is w (vI (loadS x.sta c))) := by
 have hfs_ := hf.s; have hft_ := hf.t; have hfg_ := hf.g; have hrl := hsh.rs
 obtain ⟨hc1, hc2, _, hgs⟩ := zf hsh.cfg
 have hwt := qc4 hsh
 refine (JN2 Tryz.func43 32) ?_
 refine (JP∘Jp 1∘Jr∘Jp 1∘Jj∘JQ∘JP∘Jp 1∘Jn∘Jf 0∘Jf 5∘Jy (v := .slice x.tA x.ts.length x.tc) (h:=by exact Yl.qo rfl rfl kr (fun _ h => h.qay hm rfl))∘Jl∘Jp 1∘Jj∘JB) fun a I HM => ?_
 refine qi (fun mS aS wS => ∃ (i : Nat), (i ≤ x.ts.length) ∧ mS = x.ts.length - i ∧ Fr aS 32 [] [(14, vI i), (13, vI x.ts.length), (12, .slice x.tA x.ts.length x.tc), (5, vI (loadN (x.ts.take i) c)), (4, vI 0), (1, vI c)] ∧ Mem w wS []) (m := x.ts.length - 0) ⟨0, Nat.zero_le _, rfl, I.sub kr, HM.pk []⟩ ?_
 clear I HM; rintro mS a w_ ⟨i, hi, rfl, I, HM⟩
 refine Jb I HM ((JP∘Jp 1∘Jj∘JQ) (Ju (fun hb15 => ?_) fun hb15 => ?_))
 ·
  intro a I HM
  have hd15 := of_decide_eq_true hb15
  have hi15 : i < x.ts.length := by omega
  obtain ⟨t, ht⟩ : ∃ z, (x.ts.getD i Tk.zero) = z := ⟨_, rfl⟩
  have hls := qg8 (c := c) hi15
  rw [ht] at hls
  have hb1 := qc3 (c := c) hwt i; have hb2 := qc3 (c := c) hwt (i + 1)
  refine Jb I HM ((JT∘JS'∘JQ∘JB∘JP) fun a I HM => ?_)
  obtain ⟨gq1, oq1, hq1, _⟩ := Rd.qt hx.t (Nat.lt_of_le_of_lt (Nat.zero_le _) (show i < x.ts.length from by omega)) de
  have hrq1 := hx.t; rw [hq1] at hrq1
  replace I := I.sp 12 (.slice (some ⟨gq1, oq1, none⟩) x.ts.length x.tc) rfl (by rw [hq1]; try rfl)
  refine Jb I HM ((Jy (h:=by exact Yl.ix gq1 oq1 i 8 rfl rfl rfl)∘Jy (v := .agg ((x.ts.getD i Tk.zero).cells)) (h:=by exact Yl.loadS rfl rfl si_tk rfl (fun _ h => (h.old hrq1).q4 qd ((getD_at Tk.zero om))))∘Jo (.agg t.cells) (by rw [ht])∘JA #[vI 0, vI 0, vI 0, vI 0, vQ 0, .bool false, vQ 0, vW 0]) fun w7 g7 => (JV si_tk O0' (h1:=by exact qbi t)) fun w4_3 => (Jd2∘Jj) fun a I HM => ?_)
  refine qy (fun aS wS => Fr aS 32 [] [(25, .bool (t.ready && decide (t.cpu = (c : Int)))), (7, vP g7 0), (12, .slice (some ⟨gq1, oq1, none⟩) x.ts.length x.tc), (15, .bool true), (14, vI i), (13, vI x.ts.length), (5, vI (loadN (x.ts.take i) c)), (4, vI 0), (1, vI c)] ∧ Mem w wS [.blk g7 t.cells 81]) ?_ ?_
  ·
   refine qaj ?_
   refine Jb I HM ((Jg 5 O0∘Jp 1) (Ju (fun hb20 => ?_) fun hb20 => ?_))
   ·
    refine (Jg 3 O0∘Jp 3∘Jd5∘Jq) fun a I HM => ?_
    have I := I.sp 25 (.bool (t.ready && decide (t.cpu = (c : Int)))) rfl (congrArg Value.bool (by rw [hb20, Bool.true_and, Bool.eq_iff_iff, beq_iff_eq, decide_eq_true_eq]))
    exact ⟨I.sub kr, HM.pk [0]⟩
   refine (Jp 5∘Jd6∘Jq) fun a I HM => ?_
   have I := I.sp 25 (.bool (t.ready && decide (t.cpu = (c : Int)))) rfl (congrArg Value.bool (by rw [hb20]; try rfl))
   exact ⟨I.sub kr, HM.pk [0]⟩
  clear I HM; rintro a w5 ⟨I, HM⟩
  refine Jb I HM (Ju (fun hb25 => ?_) fun hb25 => ?_)
  ·
   intro a I HM
   rw [if_pos hb25] at hls
   refine Jb I HM ((JT∘JR∘Jp 1∘Jg 2 O0∘Jp 1∘Jo (vI (loadN (x.ts.take (i + 1)) c)) (by rw [hls]; exact qcj ⟨by omega, by omega⟩)∘Jp 1∘Jd3∘Jj∘JR∘JaK 1∘Jp 1∘Jd1∘Jq) fun a I HM => ?_)
   replace I := I.sp 12 (.slice x.tA x.ts.length x.tc) rfl (by rw [hq1])
   exact ⟨_, om, i + 1, by omega, rfl, I.sub kr, HM.pk []⟩
  intro a I HM
  rw [if_neg (by rw [hb25]; decide), Int.add_zero] at hls
  replace I := I.sp 5 (vI (loadN (x.ts.take (i + 1)) c)) rfl (by rw [hls])
  refine Jb I HM ((JF∘JS'∘JR∘JaK 1∘Jp 1∘Jd1∘Jq) fun a I HM => ?_)
  replace I := I.sp 12 (.slice x.tA x.ts.length x.tc) rfl (by rw [hq1])
  exact ⟨_, om, i + 1, by omega, rfl, I.sub kr, HM.pk []⟩
 intro a I HM
 have hd15 := of_decide_eq_false hb15
 have hall : loadN (x.ts.take i) c = loadS x.sta c := by rw [List.take_of_length_le om]; rfl
 exact Jb I HM ((JF∘JX∘JG∘JP∘Jp 2∘Jd1∘Jj∘JZ∘Jz1) fun HM => by exact ⟨by rw [hall], HM.below⟩)
theorem qta {W w : World} {F T : List Fact} {x : Stm} {ng nl nu nt ns gm g c : Nat} (n : Nat) (HM : Mem W w F) (he : F.drop n = mdA gm x ng nl nu nt ns ++ T) (hx : MdOk x ng nl nu nt ns) (hc : (c : Int) < x.cpus) (hg : g < ns) : Calls Tryz.prog 82 #[vP gm 0, vI g, vI c] w (qmi w (q5 x.sta g c)) :=
 qqk x gm g c w hx.ok hx.few hx.sh (HM.mdRd n he hx.ln) (HM.mdBlk n he hx.ln) hc (by rw [hx.ln.s]; exact hg)
theorem qtb {W w : World} {F T : List Fact} {x : Stm} {ng nl nu nt ns gm c : Nat} (n : Nat) (HM : Mem W w F) (he : F.drop n = mdA gm x ng nl nu nt ns ++ T) (hx : MdOk x ng nl nu nt ns) (hc : (c : Int) < x.cpus) : Calls Tryz.prog 42 #[vP gm 0, vI c] w (Is w (vI (q3 x.sta c : Int))) :=
 qj2 x gm c w hx.ok hx.few hx.sh (HM.mdRd n he hx.ln) (HM.mdBlk n he hx.ln) hc
theorem qql {W w : World} {F T : List Fact} {x : Stm} {ng nl nu nt ns gm c : Nat} (n : Nat) (HM : Mem W w F) (he : F.drop n = mdA gm x ng nl nu nt ns ++ T) (hx : MdOk x ng nl nu nt ns) : Calls Tryz.prog 43 #[vP gm 0, vI c] w (Is w (vI (loadS x.sta c))) :=
 qhj x gm c w hx.ok hx.few hx.sh (HM.mdRd n he hx.ln) (HM.mdBlk n he hx.ln)
def qqm (W : World) (gm : Nat) (x : Stm) (ng nl nu nt ns : Nat) (T : List Fact) (s : Sta) (r : Ending) (w' : World) : Prop := ∃ rs2, r = .returned (.tuple #[]) ∧ rs2.length = ns ∧ SpsOk x.gs x.cpus rs2 ∧ ({ x with rs := rs2 } : Stm).sta = s ∧ Mem W w' (mdA gm { x with rs := rs2 } ng nl nu nt ns ++ T)
theorem quq {W w' : World} {gm : Nat} {x : Stm} {ng nl nu nt ns : Nat} {T : List Fact} {s : Sta} {rs2 : List Rw} (hl : rs2.length = ns) (hs : SpsOk x.gs x.cpus rs2) (he : ({ x with rs := rs2 } : Stm).sta = s) (hm : Mem W w' (mdA gm { x with rs := rs2 } ng nl nu nt ns ++ T)) : qqm W gm x ng nl nu nt ns T s (.returned (.tuple #[])) w' := ⟨rs2, rfl, hl, hs, he, hm⟩
theorem qc5 (x e : En) (hx : x.Ok) (fl cr : Nat) (hf : fl < 18446744073709551616) (hc : cr < 18446744073709551616) (he : x.woken fl cr = e) (w : World) :
  Calls Tryz.prog 89 #[.agg x.cells, vQ fl, vQ cr] w (Is w (.tuple #[.agg e.cells, vI 0])) := he ▸ qpy x hx fl cr hf hc w
theorem qnr (W w : World) (x : Stm) (gm c : Nat) (ng nl nu nt ns : Nat) (hx : Lns x ng nl nu nt ns) (T : List Fact) (E : Option Addr) (ec : Nat) (l : List Nat) (hT : .row (.slice E l.length ec) l.length (l.map I64v) 3 1 ∈ T) (hlm : ∀ g ∈ l, 0 < g ∧ g < ns) (hln : l.length ≤ 1000000)
    (hgs : gsOk x.gs = true) (hrg : x.rs.length = x.gs.length) (hsp : SpsOk x.gs x.cpus x.rs) (hcr : x.credit < 18446744073709551616) (hcp : x.cpus ≤ 64) (hc : (c : Int) < x.cpus) (HM : Mem W w (mdA gm x ng nl nu nt ns ++ T)) :
    Calls Tryz.prog 88 #[vP gm 0, .slice E l.length ec, vI c] w (qqm W gm x ng nl nu nt ns T (wakeS x.sta l c)) := by
 obtain ⟨cp, cr, gA, gc, gs, lA, lc, cl, uA, uc, cu, tA, tc, ts, sA, sc, rs⟩ := x
 replace HM : Mem W w (fM gm cp cr gA ng gc lA nl lc uA nu uc tA nt tc sA ns sc :: fG gA ng gc gs :: fI lA nl lc cl :: fI uA nu uc cu :: fT tA nt tc ts :: fS sA ns sc rs :: (fR rs ++ (T))) := HM
 obtain ⟨hlg, hll, hlu, hlt, hls⟩ := hx; replace hlg : gs.length = ng := hlg; replace hls : rs.length = ns := hls
 have hrE : Rd w w.heap.size 1 E l.length (l.map I64v) := HM.rdT 6 rfl hT
 replace hgs : gsOk gs = true := hgs; replace hrg : rs.length = gs.length := hrg; replace hcr : cr < 18446744073709551616 := hcr; replace hcp : cp ≤ 64 := hcp; replace hc : (c : Int) < cp := hc; replace hsp : SpsOk gs cp rs := hsp
 have hgl := qh hgs
 have hgl1 := hgl.1; have hgl2 := hgl.2.1
 obtain ⟨ggA, rfl⟩ := qe (HM.own (i := 1) rfl) om
 obtain ⟨gsA, rfl⟩ := qe (HM.own (i := 5) rfl) om
 refine (Jin3 HM Tryz.func88 82) ?_
 refine (JP∘Jp 1∘Jl∘Jp 1∘Jj∘JB) fun a I HM => ?_
 refine qi (fun mS aS wS => ∃ (i : Nat) (rs2 : List Rw), (i ≤ l.length) ∧ (rs2.length = ns) ∧ (SpsOk gs cp rs2) ∧ ((⟨cp, cr, some ⟨ggA, 0, none⟩, gc, gs, lA, lc, cl, uA, uc, cu, tA, tc, ts, some ⟨gsA, 0, none⟩, sc, rs2⟩ : Stm).sta = wakeS (⟨cp, cr, some ⟨ggA, 0, none⟩, gc, gs, lA, lc, cl, uA, uc, cu, tA, tc, ts, some ⟨gsA, 0, none⟩, sc, rs⟩ : Stm).sta (l.take i) c) ∧ mS = l.length - i ∧ Fr aS 82 [] [(14, vI i), (13, vI l.length), (12, .slice E l.length ec), (0, vP gm 0), (2, vI c)] ∧ Mem W wS (fM gm cp cr (some ⟨ggA, 0, none⟩) ng gc lA nl lc uA nu uc tA nt tc (some ⟨gsA, 0, none⟩) ns sc :: fG (some ⟨ggA, 0, none⟩) ng gc gs :: fI lA nl lc cl :: fI uA nu uc cu :: fT tA nt tc ts :: fS (some ⟨gsA, 0, none⟩) ns sc rs2 :: (fR rs2 ++ (T)))) (m := l.length - 0) ⟨0, rs, Nat.zero_le _, hls, hsp, rfl, rfl, I.sub kr, HM.pt 6 [0, 1, 2, 3, 4, 5]⟩ ?_
 clear I HM; rintro mS a w_ ⟨i, rs2, hi, hl2, hsp2, hst2, rfl, I, HM⟩
 refine Jb I HM ((JP∘Jp 1∘Jj∘JQ) (Ju (fun hb15 => ?_) fun hb15 => ?_))
 ·
  intro a I HM
  have hd15 := of_decide_eq_true hb15
  have hi15 : i < l.length := by omega
  obtain ⟨g, hge⟩ : ∃ z, (l.getD i 0) = z := ⟨_, rfl⟩
  have hg0 := hlm g (by rw [← hge]; exact qm 0 hi15)
  obtain ⟨⟨yA, yc, yl⟩, hy⟩ : ∃ y, rs2.getD g Rw.zero = y := ⟨_, rfl⟩
  have hys := hsp2 g om; rw [hy] at hys
  have hyl : (yl.length : Int) = cp := hys.1
  revert HM; revert a; repeat (first | clear I | clear HM)
  intro a I HM
  obtain ⟨gy, rfl⟩ := HM.rwSome 6 rfl om hy om
  obtain ⟨yz, hyz⟩ : ∃ z, yl[c]? = some z := ⟨_, List.getElem?_eq_getElem om⟩
  have hyo := hys.2 yz (List.mem_of_getElem? hyz)
  have hyv := hyo.1.v; have hyr := hyo.1.r; have hyf := hyo.1.floor
  have hpb := zy hgs (g := g) om g hg0.1 (Nat.le_refl _)
  unfold ParB at hpb
  obtain ⟨p, hpp⟩ : ∃ p : Nat, (gs.getD g Gr.zero).parent = (p : Int) := ⟨(gs.getD g Gr.zero).parent.toNat, by omega⟩
  have hpg : p < g := by omega
  obtain ⟨⟨pA, pc, pl⟩, hp⟩ : ∃ y, rs2.getD p Rw.zero = y := ⟨_, rfl⟩
  have hps := hsp2 p om; rw [hp] at hps
  have hpl : (pl.length : Int) = cp := hps.1
  revert HM; revert a; repeat (first | clear I | clear HM)
  intro a I HM
  obtain ⟨gp, rfl⟩ := HM.rwSome 6 rfl om hp om
  obtain ⟨pz, hpz⟩ : ∃ z, pl[c]? = some z := ⟨_, List.getElem?_eq_getElem om⟩
  have hpo := hps.2 pz (List.mem_of_getElem? hpz)
  have hpv := hpo.1.v; have hpr := hpo.1.r; have hpf := hpo.1.floor
  obtain ⟨wt, hwt, hwt1, hwt2⟩ := qbt hgs (g := g) om
  have hEo : (⟨yz.v, yz.r, wt⟩ : En).Ok := ⟨by have := hyo.2; rw [hwt] at this; exact this, hyo.1.v⟩
  obtain ⟨e, hew⟩ : ∃ e, (⟨yz.v, yz.r, wt⟩ : En).woken pz.floor cr = e := ⟨_, rfl⟩
  have heo : e.Ok ∧ e.w = wt := by rw [← hew]; exact En.qc8 hEo _ _ hpf
  have hev := heo.1.2; have her : e.r < 4294967296 := by have := qbu heo.1.1; omega
  refine Jb I HM ((JT∘JS'∘JQ∘JB∘JP) ?_)
  repeat (first | clear I | clear HM)
  intro a I HM
  obtain ⟨gE, oE, rfl, _⟩ := hrE.qt (Nat.lt_of_le_of_lt (Nat.zero_le _) (show i < l.length from by omega)) de
  refine Jb I HM ((Jy (h:=by exact Yl.ix gE oE i 1 rfl rfl rfl)∘Jy (v := vI (l.getD i 0)) (h:=by exact Yl.qo rfl rfl kr (fun _ h => (h.rdT 6 rfl hT).qsb (k := i) (qdc (F := I64v) (k := i) (x := (l.getD i 0)) ((getD_at 0 om)))))∘Jo (vI g) (by rw [hge])∘Jp 1∘Jd2∘Jr∘Jp 1∘Jn∘Jf 0∘Jg 6 O0∘Jp 1∘Jy (h:=by exact Yl.ix0 gsA g 1 rfl rfl rfl)∘Jy (v := .slice ((rs2.getD g Rw.zero).A) ((rs2.getD g Rw.zero).l.length) ((rs2.getD g Rw.zero).c)) (h:=by exact Yl.r1 5 g Rw.zero om rfl rfl rfl)∘Jo (vS gy yl.length yc) (by rw [hy])∘Jp 1∘Jy (h:=by exact Yl.ix0 gy c 3 rfl rfl rfl)∘Jp 1∘Jd6∘Jr∘Jp 1∘Jn∘Jf 0∘Jf 0∘Jg 2 O0∘Jp 1∘Jy (h:=by exact Yl.ix0 ggA g 2 rfl rfl rfl)∘Jy (v := .agg ((gs.getD g Gr.zero).cells)) (h:=by exact Yl.loadS rfl rfl si_gr rfl (fun _ h => h.qbf za (i := 1) rfl ((getD_at Gr.zero om))))∘JA #[vI 0, vI 0]) fun w9 g9 => (JV si_gr O0' (h1:=by exact qwo (gs.getD g Gr.zero))) fun w4_10 => (Jd6∘Jj) fun a I HM => ?_)
  refine qy (fun aS wS => ∃ (g10 : Nat), Fr aS 82 [] [(10, vP g10 0), (9, vP g9 0), (8, vP gy (c * 3)), (7, vI g), (15, .bool true), (14, vI i), (13, vI l.length), (12, .slice (some ⟨gE, oE, none⟩) l.length ec), (0, vP gm 0), (2, vI c)] ∧ Mem W wS (.blk g10 e.cells 117 :: .blk g9 ((gs.getD g Gr.zero).cells) 50 :: fM gm cp cr (some ⟨ggA, 0, none⟩) ng gc lA nl lc uA nu uc tA nt tc (some ⟨gsA, 0, none⟩) ns sc :: fG (some ⟨ggA, 0, none⟩) ng gc gs :: fI lA nl lc cl :: fI uA nu uc cu :: fT tA nt tc ts :: fS (some ⟨gsA, 0, none⟩) ns sc rs2 :: (fR rs2 ++ (T)))) ?_ ?_
  ·
   refine Jb I HM ((Vs .n [35]) fun wd5 => (Vp [0, 4]∘Vf 8 1∘Vp [11]∘Vf 16 0∘Vp [20, 24]∘Vn 1∘Vf 2 0∘Vy 3 (v := vQ yz.v) (h:=by exact Yl.qo rfl rfl kr (fun _ h => h.qat 7 (j := 0) rfl om hy (hyz) rfl))∘Vn 5∘Vf 6 1∘Vy 7 (v := vW yz.r) (h:=by exact Yl.qo rfl rfl kr (fun _ h => h.qat 7 (j := 1) rfl om hy (hyz) rfl))∘Vc 9 O0∘Vo (vI wt) (by rw [hwt])∘Vn 12∘Vf 13 0∘Vf 14 6∘Vc 15 O1∘Vc 17 O0∘Vo (vI p) (by rw [hpp])∘Vy 18 (h:=by exact Yl.ix0 gsA p 1 rfl rfl rfl)∘Vy 19 (v := .slice ((rs2.getD p Rw.zero).A) ((rs2.getD p Rw.zero).l.length) ((rs2.getD p Rw.zero).c)) (h:=by exact Yl.r1 6 p Rw.zero om rfl rfl rfl)∘Vo (vS gp pl.length pc) (by rw [hp])∘Vy 21 (h:=by exact Yl.ix0 gp c 3 rfl rfl rfl)∘Vf 22 2∘Vy 23 (v := vQ pz.floor) (h:=by exact Yl.qo rfl rfl kr (fun _ h => h.qat 7 (j := 2) rfl om hp (hpz) rfl))∘Vn 25∘Vf 26 0∘Vf 27 0∘Vf 28 1∘Vc 29 O1) fun a I HM HS => ?_)
   refine qu [10, 34] kr rfl ?_
   refine all_cons ?_ ?_
   ·refine qk I (i := 10) rfl rfl ?_
    refine e_is I HM [vQ yz.v, vW yz.r, vI wt] (.agg #[vQ yz.v, vW yz.r, vW wt]) rfl rfl (q7 yz.v yz.r (wt : Int) om _) fun w48 hbw HM a I => ?_
    refine keepS (HM.pt 7 [0, 1, 2, 3, 4, 5, 6]) (fun HS => ?_)
    refine qu [30, 34] kr rfl ?_
    refine all_cons ?_ ?_
    ·refine qk I (i := 30) rfl rfl ?_
     refine e_is I HM [.agg #[vQ yz.v, vW yz.r, vW wt], vQ pz.floor, vQ cr] (.tuple #[.agg e.cells, vI 0]) rfl rfl (qc5 (⟨yz.v, yz.r, wt⟩ : En) e hEo pz.floor cr hpf hcr hew _) fun w68 hbw HM a I => ?_
     refine keepS (HM.pt 7 [0, 1, 2, 3, 4, 5, 6]) (fun HS => ?_)
     refine Vb I HM HS ((Vp [31]∘Vx 32∘Vx 33∘VA 34 .n #[vQ 0, vW 0, vW 0]) fun w10 g10 => fun a I HM HS => ?_)
     refine s_on I 35 rfl (e_sa I HM 0 rfl rfl rfl rfl rfl qp rfl rfl (qw e) fun w5_35 HM => ?_)
     refine noS kr ?_
     refine ap I (pastS kr) [36] (bt 37 []) [] fun a I => ?_
     refine qb kr ?_
     exact ⟨g10, I.sub kr, HM.pt 8 [0, 1, 2, 3, 4, 5, 6, 7]⟩
    refine all_cons ?_ all_nil
    refine qk I (i := 34) rfl rfl ?_
    refine s_ea I HM #[vQ 0, vW 0, vW 0] ?_
    clear I HM; intro a w10 g10 I HM
    refine keepS (HM.pt 8 [1, 2, 3, 4, 5, 6, 7]) (fun HS => ?_)
    refine Vb I HM HS ((VI 30 (.f .n) (h:=by exact fun HM => qc5 (⟨yz.v, yz.r, wt⟩ : En) e hEo pz.floor cr hpf hcr hew _)) fun w68 hbw => (Vp [31]∘Vx 32∘Vx 33) fun a I HM HS => ?_)
    refine s_on I 35 rfl (e_sa I HM 0 rfl rfl rfl rfl rfl qp rfl rfl (qw e) fun w5_35 HM => ?_)
    refine noS kr ?_
    refine ap I (pastS kr) [36] (bt 37 []) [] fun a I => ?_
    refine qb kr ?_
    exact ⟨g10, I.sub kr, HM.pt 8 [0, 1, 2, 3, 4, 5, 6, 7]⟩
   refine all_cons ?_ all_nil
   refine qk I (i := 34) rfl rfl ?_
   refine s_ea I HM #[vQ 0, vW 0, vW 0] ?_
   clear I HM; intro a w10 g10 I HM
   refine keepS (HM.pt 8 [1, 2, 3, 4, 5, 6, 7]) (fun HS => ?_)
   refine Vb I HM HS ((VI 10 (.f .n) (h:=by exact fun HM => q7 yz.v yz.r (wt : Int) om _)) fun w48 hbw => (VI 30 (.f .n) (h:=by exact fun HM => qc5 (⟨yz.v, yz.r, wt⟩ : En) e hEo pz.floor cr hpf hcr hew _)) fun w68 hbw => (Vp [31]∘Vx 32∘Vx 33) fun a I HM HS => ?_)
   refine s_on I 35 rfl (e_sa I HM 0 rfl rfl rfl rfl rfl qp rfl rfl (qw e) fun w5_35 HM => ?_)
   refine noS kr ?_
   refine ap I (pastS kr) [36] (bt 37 []) [] fun a I => ?_
   refine qb kr ?_
   exact ⟨g10, I.sub kr, HM.pt 8 [0, 1, 2, 3, 4, 5, 6, 7]⟩
  clear I HM; rintro a w5 ⟨g10, I, HM⟩
  refine qgx HM [.blk g10 e.cells 117, .blk g9 ((gs.getD g Gr.zero).cells) 50, fM gm cp cr (some ⟨ggA, 0, none⟩) ng gc lA nl lc uA nu uc tA nt tc (some ⟨gsA, 0, none⟩) ns sc, fG (some ⟨ggA, 0, none⟩) ng gc gs, fI lA nl lc cl, fI uA nu uc cu, fT tA nt tc ts] [0, 1, 2, 3, 4, 5, 6] [11] fun HM HS => ?_
  refine ap I (fun _ => HS) [0, 1, 2, 4] (bf 12 [0, 1, 2, 4]) [(75, vP g10 1), (73, vP g10 0), (72, vP gy (c * 3)), (71, vP gy (c * 3))] fun a I => ?_
  refine s_ac I HS 3 0 (v := vQ e.v) fun a I => ?_
  refine s_ac I HS 5 0 (v := vW e.r) fun a I => ?_
  refine s_am I HS 6 fun a I => ?_
  refine ap I (fun _ => HS) [7] (bt 12 [8, 9, 10, 11]) [(78, vP gy (c * 3))] fun a I => ?_
  refine s_on I 8 rfl ?_
  refine q6 I HM 7 (c := c) 0 ({ yz with v := e.v }) rfl rfl rfl rfl kr rfl rfl om (hy) (hyz) rfl de rfl fun w6_8 HM => ?_
  replace HM : Mem W w6_8 (.blk g10 e.cells 117 :: .blk g9 ((gs.getD g Gr.zero).cells) 50 :: fM gm cp cr (some ⟨ggA, 0, none⟩) ng gc lA nl lc uA nu uc tA nt tc (some ⟨gsA, 0, none⟩) ns sc :: fG (some ⟨ggA, 0, none⟩) ng gc gs :: fI lA nl lc cl :: fI uA nu uc cu :: fT tA nt tc ts :: fS (some ⟨gsA, 0, none⟩) ns sc (rsPut rs2 g c ({ yz with v := e.v })) :: (fR (rsPut rs2 g c ({ yz with v := e.v })) ++ (T))) := HM
  refine keepS (HM.pk [0, 1, 2, 3, 4, 5, 6]) (fun HS => ?_)
  refine s_an I (fun _ => HS) 9 fun a I => ?_
  refine ap I (fun _ => HS) [10] (bt 12 [11]) [(80, vP gy (c * 3 + 1))] fun a I => ?_
  refine s_on I 11 rfl ?_
  refine q6 I HM 7 (c := c) 1 ({ yz with v := e.v, r := e.r }) rfl rfl rfl rfl kr rfl rfl (by first | omega | (rw [qr]; omega)) (qeb om hy) (qba hyz) rfl de rfl fun w6_11 HM => ?_
  replace HM : Mem W w6_11 (.blk g10 e.cells 117 :: .blk g9 ((gs.getD g Gr.zero).cells) 50 :: fM gm cp cr (some ⟨ggA, 0, none⟩) ng gc lA nl lc uA nu uc tA nt tc (some ⟨gsA, 0, none⟩) ns sc :: fG (some ⟨ggA, 0, none⟩) ng gc gs :: fI lA nl lc cl :: fI uA nu uc cu :: fT tA nt tc ts :: fS (some ⟨gsA, 0, none⟩) ns sc (rsPut (rsPut rs2 g c ({ yz with v := e.v })) g c ({ yz with v := e.v, r := e.r })) :: (fR (rsPut (rsPut rs2 g c ({ yz with v := e.v })) g c ({ yz with v := e.v, r := e.r })) ++ (T))) := HM
  rw [qa9 (by first | omega | (rw [qr]; omega))] at HM
  refine noS kr ?_
  refine qb kr ?_
  refine Jb I HM ((JG∘JR∘JaK 1∘Jp 1∘Jd6∘Jq) fun a I HM => ?_)
  exact ⟨_, om, i + 1, (rsPut rs2 g c { yz with v := e.v, r := e.r }), by omega, by rw [qr]; exact hl2, hsp2.put { yz with v := e.v, r := e.r } ⟨hev, her, hyo.1.floor⟩ (by rw [hwt]; have := heo.1.1; rw [heo.2] at this; exact this), by rw [qnf hi15, ← hst2, hge]; exact qjn (x := (⟨cp, cr, some ⟨ggA, 0, none⟩, gc, gs, lA, lc, cl, uA, uc, cu, tA, tc, ts, some ⟨gsA, 0, none⟩, sc, rs2⟩ : Stm)) (by show g < rs2.length; omega) hy hyz hpp (by show p < rs2.length; omega) hp hpz hwt hew, rfl, I.sub kr, HM.pt 8 [2, 3, 4, 5, 6, 7]⟩
 intro a I HM
 have hd15 := of_decide_eq_false hb15
 refine Jb I HM ((JF∘JX) fun a I HM => ?_)
 exact norm0 rfl I (quq (x := (⟨cp, cr, some ⟨ggA, 0, none⟩, gc, gs, lA, lc, cl, uA, uc, cu, tA, tc, ts, some ⟨gsA, 0, none⟩, sc, rs⟩ : Stm)) hl2 hsp2 (by rw [show ({ (⟨cp, cr, some ⟨ggA, 0, none⟩, gc, gs, lA, lc, cl, uA, uc, cu, tA, tc, ts, some ⟨gsA, 0, none⟩, sc, rs⟩ : Stm) with rs := rs2 } : Stm) = (⟨cp, cr, some ⟨ggA, 0, none⟩, gc, gs, lA, lc, cl, uA, uc, cu, tA, tc, ts, some ⟨gsA, 0, none⟩, sc, rs2⟩ : Stm) from rfl, hst2, List.take_of_length_le om]) HM)
theorem qtc {W w : World} {F T : List Fact} {x : Stm} {ng nl nu nt ns gm g c : Nat} {mm : List Mb} (n : Nat) (HM : Mem W w F) (he : F.drop n = mdA gm x ng nl nu nt ns ++ T) (hx : MdOk x ng nl nu nt ns) (hc : (c : Int) < x.cpus) (hg : g < ns) (hm : memS x.sta g c = mm) : Calls Tryz.prog 51 #[vP gm 0, vI g, vI c] w (Is w (.tuple #[.agg (bestM topM mm).cells, .bool (!mm.isEmpty)])) := hm ▸ qsv n HM he hx hc hg
theorem qmj {x : Stm} (hok : x.sta.Ok) {g c : Nat} (hn : memS x.sta g c ≠ []) : (bestM topM (memS x.sta g c)).v < 18446744073709551616 := by
 rcases qc1 (qk2 hok hn) with ⟨t, ht, _, h2⟩ | ⟨h, _, _, _, _, h5⟩
 ·rw [h2]; exact (hok.ts t ht).v
 ·rw [h5]; exact (qb4 hok h c).v
theorem qns (W w : World) (x : Stm) (gm : Nat) (ng nl nu nt ns : Nat) (hx : MdOk x ng nl nu nt ns) (T : List Fact) (HM : Mem W w (mdA gm x ng nl nu nt ns ++ T)) :
    Calls Tryz.prog 40 #[vP gm 0] w (qqm W gm x ng nl nu nt ns T (riseS x.sta)) := by
 obtain ⟨cp, cr, gA, gc, gs, lA, lc, cl, uA, uc, cu, tA, tc, ts, sA, sc, rs⟩ := x
 replace HM : Mem W w (fM gm cp cr gA ng gc lA nl lc uA nu uc tA nt tc sA ns sc :: fG gA ng gc gs :: fI lA nl lc cl :: fI uA nu uc cu :: fT tA nt tc ts :: fS sA ns sc rs :: (fR rs ++ (T))) := HM
 obtain ⟨hlg, hll, hlu, hlt, hls⟩ := hx.ln
 replace hlg : gs.length = ng := hlg; replace hll : cl.length = nl := hll; replace hlu : cu.length = nu := hlu; replace hlt : ts.length = nt := hlt; replace hls : rs.length = ns := hls
 have hrg := hx.sh.rs; replace hrg : rs.length = gs.length := hrg
 obtain ⟨hcp1, hcp2, _, hgs⟩ := zf hx.sh.cfg
 replace hcp1 : 1 ≤ cp := hcp1; replace hcp2 : cp ≤ 64 := hcp2; replace hgs : gsOk gs = true := hgs
 have hgl1 := (qh hgs).1; have hgl2 := (qh hgs).2.1
 obtain ⟨gsA, rfl⟩ := qe (HM.own (i := 5) rfl) om
 refine (Jin1 HM Tryz.func40 45) ?_
 refine (JP∘Jp 1∘Jn∘Jf 0∘Jg 6 O0∘Jl∘Jp 1∘Jj∘JB) fun a I HM => ?_
 refine qi (fun mS aS wS => ∃ (g : Nat) (rs2 : List Rw), (g ≤ ns) ∧ (rs2.length = ns) ∧ (MdOk (⟨cp, cr, gA, gc, gs, lA, lc, cl, uA, uc, cu, tA, tc, ts, some ⟨gsA, 0, none⟩, sc, rs2⟩ : Stm) ng nl nu nt ns) ∧ (Risen (⟨cp, cr, gA, gc, gs, lA, lc, cl, uA, uc, cu, tA, tc, ts, some ⟨gsA, 0, none⟩, sc, rs⟩ : Stm) rs2 g 0) ∧ mS = ns - g ∧ Fr aS 45 [] [(13, vI g), (12, vI ns), (11, vS gsA ns sc), (0, vP gm 0)] ∧ Mem W wS (fM gm cp cr gA ng gc lA nl lc uA nu uc tA nt tc (some ⟨gsA, 0, none⟩) ns sc :: fG gA ng gc gs :: fI lA nl lc cl :: fI uA nu uc cu :: fT tA nt tc ts :: fS (some ⟨gsA, 0, none⟩) ns sc rs2 :: (fR rs2 ++ (T)))) (m := ns - 0) ⟨0, rs, Nat.zero_le _, hls, hx, qg9, rfl, I.sub kr, HM.pt 6 [0, 1, 2, 3, 4, 5]⟩ ?_
 clear I HM; rintro mS a w_ ⟨g, rs2, hg, hl2, hx2, hR, rfl, I, HM⟩
 refine Jb I HM ((JP∘Jp 1∘Jj∘JQ) (Ju (fun hb14 => ?_) fun hb14 => ?_))
 ·
  intro a I HM
  have hd14 := of_decide_eq_true hb14
  have hg14 : g < ns := by omega
  obtain ⟨⟨yA, yc, yl⟩, hy⟩ : ∃ y, rs2.getD g Rw.zero = y := ⟨_, rfl⟩
  have hys := hx2.spots g (by show g < rs2.length; omega)
  replace hys : ((rs2.getD g Rw.zero).l.length : Int) = cp ∧ _ := hys
  rw [hy] at hys
  have hyl : (yl.length : Int) = cp := hys.1
  revert HM; revert a; repeat (first | clear I | clear HM)
  intro a I HM
  obtain ⟨gy, rfl⟩ := HM.rwSome 6 rfl om hy om
  have hyo := hR.2.1 g
  rw [hy] at hyo
  replace hyo : yl.length = (rs.getD g Rw.zero).l.length := hyo
  refine Jb I HM ((JT∘JS'∘JQ∘JB∘JP∘Jp 1∘Jy (h:=by exact Yl.ix0 gsA g 1 rfl rfl rfl)∘Jy (v := .slice ((rs2.getD g Rw.zero).A) ((rs2.getD g Rw.zero).l.length) ((rs2.getD g Rw.zero).c)) (h:=by exact Yl.r1 5 g Rw.zero om rfl rfl rfl)∘Jo (vS gy yl.length yc) (by rw [hy])∘Jp 2∘Jr∘Jp 1∘Jl∘Jp 1∘Jj∘JB) fun a I HM => ?_)
  refine qi (fun mS aS wS => ∃ (c : Nat) (rs3 : List Rw) (yl3 : List Sp), (rs3.length = ns) ∧ (MdOk (⟨cp, cr, gA, gc, gs, lA, lc, cl, uA, uc, cu, tA, tc, ts, some ⟨gsA, 0, none⟩, sc, rs3⟩ : Stm) ng nl nu nt ns) ∧ (Risen (⟨cp, cr, gA, gc, gs, lA, lc, cl, uA, uc, cu, tA, tc, ts, some ⟨gsA, 0, none⟩, sc, rs⟩ : Stm) rs3 g c) ∧ (rs3.getD g Rw.zero = ⟨some ⟨gy, 0, none⟩, yc, yl3⟩) ∧ (yl3.length = yl.length) ∧ mS = yl.length - c ∧ Fr aS 45 [] [(20, vI c), (19, vI yl.length), (3, vS gy yl.length yc), (2, vI g), (14, .bool true), (13, vI g), (12, vI ns), (11, vS gsA ns sc), (0, vP gm 0)] ∧ Mem W wS (fM gm cp cr gA ng gc lA nl lc uA nu uc tA nt tc (some ⟨gsA, 0, none⟩) ns sc :: fG gA ng gc gs :: fI lA nl lc cl :: fI uA nu uc cu :: fT tA nt tc ts :: fS (some ⟨gsA, 0, none⟩) ns sc rs3 :: (fR rs3 ++ (T)))) (m := yl.length - 0) ⟨0, rs2, yl, hl2, hx2, hR, hy, rfl, rfl, I.sub kr, HM.pt 6 [0, 1, 2, 3, 4, 5]⟩ ?_
  clear I HM; rintro mS a w_ ⟨c, rs3, yl3, hl3, hx3, hR3, hy3, hyl3, rfl, I, HM⟩
  refine Jb I HM ((JP∘Jp 1∘Jj∘JQ) (Ju (fun hb21 => ?_) fun hb21 => ?_))
  ·
   intro a I HM
   have hd21 := of_decide_eq_true hb21
   have hc21 : c < yl.length := by omega
   obtain ⟨zz, hzz⟩ : ∃ z, yl3[c]? = some z := ⟨_, List.getElem?_eq_getElem om⟩
   obtain ⟨mm, hmm⟩ : ∃ z, memS (⟨cp, cr, gA, gc, gs, lA, lc, cl, uA, uc, cu, tA, tc, ts, some ⟨gsA, 0, none⟩, sc, rs⟩ : Stm).sta g c = z := ⟨_, rfl⟩
   have hsp3 := hx3.spots g (by show g < rs3.length; omega)
   replace hsp3 : ((rs3.getD g Rw.zero).l.length : Int) = cp ∧ ∀ z ∈ (rs3.getD g Rw.zero).l, z.Ok ∧ _ := hsp3
   rw [hy3] at hsp3
   have hzo := (hsp3.2 zz (List.mem_of_getElem? hzz)).1
   have hzf := hzo.floor
   have hso := (qg2 (x := (⟨cp, cr, gA, gc, gs, lA, lc, cl, uA, uc, cu, tA, tc, ts, some ⟨gsA, 0, none⟩, sc, rs3⟩ : Stm)) (by show g < rs3.length; omega) (hx3.sh.row g (by show g < rs3.length; omega))).2 c (by show c < (rs3.getD g Rw.zero).l.length; rw [hy3]; show c < yl3.length; omega)
   replace hso : spOk _ g ((rs3.getD g Rw.zero).l.getD c Sp.zero) = true := hso
   rw [hy3, show (⟨some ⟨gy, 0, none⟩, yc, yl3⟩ : Rw).l.getD c Sp.zero = zz from qx Sp.zero hzz] at hso
   refine Jb I HM ((JT∘JS'∘JQ∘JB∘JP∘Jp 2∘Jd1∘Jr∘Jp 3∘JI (h:=by exact fun HM => qtc 0 HM rfl hx3 (by show (c : Int) < cp; omega) om ((qjo hR3 g c).trans hmm))) fun w27 hbw => (Jp 1∘Jx∘Jx∘JA #[vQ 0, vQ 0, vQ 0]) fun w5 g5 => (JV qcn O0' (h1:=by exact qg3 (bestM topM mm))) fun w6_8 => (Jp 1∘Jr∘Jp 1∘Jj) (Ju (fun hb30 => ?_) fun hb30 => ?_))
   ·
    intro a I HM
    have hne : mm ≠ [] := by simpa using hb30
    have hbv := qmj (x := (⟨cp, cr, gA, gc, gs, lA, lc, cl, uA, uc, cu, tA, tc, ts, some ⟨gsA, 0, none⟩, sc, rs⟩ : Stm)) hx.ok (g := g) (c := c) (by rw [hmm]; exact hne)
    rw [hmm] at hbv
    have hr1 : rise1 (⟨cp, cr, gA, gc, gs, lA, lc, cl, uA, uc, cu, tA, tc, ts, some ⟨gsA, 0, none⟩, sc, rs⟩ : Stm).sta g c zz = { zz with floor := max zz.floor (bestM topM mm).v } := by unfold rise1; rw [hmm, if_neg (by simpa using hne)]
    refine Jb I HM ((JT∘Vs .n [12]) fun wd8 => (Vp [0, 1, 2, 3]∘Vy 4 (h:=by exact Yl.ix0 gy c 3 rfl rfl rfl)∘Vf 5 2∘Vy 6 (v := vQ zz.floor) (h:=by exact Yl.qo rfl rfl kr (fun _ h => h.qat 7 (j := 2) rfl om hy3 (hzz) rfl))∘Vy 7 (v := .agg ((bestM topM mm).cells)) (h:=by exact Yl.loadS rfl rfl qcn rfl (fun _ h => qa (h.blk (i := 0) rfl)))∘VI 8 .n (h:=by exact fun HM => qws (bestM topM mm) _)) fun w39 hbw => (Vy 9 (v := vQ (if ((bestM topM mm).v : Int) > (zz.floor : Int) then ((bestM topM mm).v : Int) else (zz.floor : Int))) (h:=by exact Yl.max rfl rfl rfl)∘Vo (vQ (max zz.floor (bestM topM mm).v : Nat)) (by rw [Nat.max_def]; split <;> split <;> first | rfl | (congr 1; omega))∘Vu 10 (h:=by exact fun _ => Yl.ix0 gy c 3 rfl rfl rfl)∘Vf 11 2) fun a I HM HS => ?_)
    refine s_on I 12 rfl ?_
    refine q6 I HM 6 (c := c) 2 ({ zz with floor := max zz.floor (bestM topM mm).v }) rfl rfl rfl rfl kr rfl rfl om (hy3) (hzz) rfl de rfl fun w8_12 HM => ?_
    replace HM : Mem W w8_12 (.blk g5 ((bestM topM mm).cells) 94 :: fM gm cp cr gA ng gc lA nl lc uA nu uc tA nt tc (some ⟨gsA, 0, none⟩) ns sc :: fG gA ng gc gs :: fI lA nl lc cl :: fI uA nu uc cu :: fT tA nt tc ts :: fS (some ⟨gsA, 0, none⟩) ns sc (rsPut rs3 g c ({ zz with floor := max zz.floor (bestM topM mm).v })) :: (fR (rsPut rs3 g c ({ zz with floor := max zz.floor (bestM topM mm).v })) ++ (T))) := HM
    refine noS kr ?_
    refine qb kr ?_
    refine Jb I HM ((JG∘JR∘JaK 1∘Jp 1∘Jd6∘Jq) fun a I HM => ?_)
    exact ⟨_, om, c + 1, (rsPut rs3 g c { zz with floor := max zz.floor (bestM topM mm).v }), (yl3.set c { zz with floor := max zz.floor (bestM topM mm).v }), by rw [qr]; exact hl3, hx3.put (by show g < rs3.length; omega) { zz with floor := max zz.floor (bestM topM mm).v } ⟨hzo.v, hzo.r, by show max _ _ < _; rw [Nat.max_def]; split <;> omega⟩ hso, qha hR3 (by show g < rs.length; omega) (by show c < (rs.getD g Rw.zero).l.length; omega) (by rw [hy3]; exact hzz) hr1, qeb om hy3, by rw [List.length_set]; exact hyl3, rfl, I.sub kr, HM.pt 7 [1, 2, 3, 4, 5, 6]⟩
   intro a I HM
   have hem : memS (⟨cp, cr, gA, gc, gs, lA, lc, cl, uA, uc, cu, tA, tc, ts, some ⟨gsA, 0, none⟩, sc, rs⟩ : Stm).sta g c = [] := by rw [hmm]; simpa using hb30
   refine Jb I HM ((JF∘JS'∘JR∘JaK 1∘Jp 1∘Jd1∘Jq) fun a I HM => ?_)
   exact ⟨_, om, c + 1, rs3, yl3, hl3, hx3, qnh hR3 hem, hy3, hyl3, rfl, I.sub kr, HM.pt 7 [1, 2, 3, 4, 5, 6]⟩
  intro a I HM
  have hd21 := of_decide_eq_false hb21
  refine Jb I HM ((JF∘JX∘JG∘JR∘JaK 1∘Jp 1∘Jd1∘Jq) fun a I HM => ?_)
  exact ⟨_, om, g + 1, rs3, by omega, hl3, hx3, qjp hR3 (by show (rs.getD g Rw.zero).l.length ≤ c; omega), rfl, I.sub kr, HM.pt 6 [0, 1, 2, 3, 4, 5]⟩
 intro a I HM
 have hd14 := of_decide_eq_false hb14
 refine Jb I HM ((JF∘JX) fun a I HM => ?_)
 exact norm0 rfl I (quq (x := (⟨cp, cr, gA, gc, gs, lA, lc, cl, uA, uc, cu, tA, tc, ts, some ⟨gsA, 0, none⟩, sc, rs⟩ : Stm)) hl2 hx2.spots (qjq hR (by show rs.length ≤ g; omega)) HM)
theorem qid {W w : World} {F T : List Fact} {x : Stm} {ng nl nu nt ns gm g c : Nat} {l : List Nat} (n : Nat) (HM : Mem W w F) (he : F.drop n = mdA gm x ng nl nu nt ns ++ T) (hx : MdOk x ng nl nu nt ns) (hc : (c : Int) < x.cpus) (hg : g < ns) (hl : q5 x.sta g c = l) : Calls Tryz.prog 82 #[vP gm 0, vI g, vI c] w (qmi w l) := hl ▸ qta n HM he hx hc hg
theorem qie {x : Stm} {ng nl nu nt ns g c : Nat} {l : List Nat} (hx : MdOk x ng nl nu nt ns) (hg : g < ns) (hl : q5 x.sta g c = l) : ∀ h ∈ l, 0 < h ∧ h < ns := by
 subst hl
 intro h hh
 obtain ⟨_, _, _, hgs⟩ := zf hx.sh.cfg
 have h1 := hx.sh.rs
 have h2 := hx.ln.s
 have h3 := qg7 (s := x.sta) (c := c) (g := g) (zy hgs om) h hh
 exact ⟨h3.1, by omega⟩
theorem qhk {s : Sta} {c : Nat} : ∀ (f g : Nat), (qa8 s c f g).length ≤ f
 | 0, g => Nat.le_refl _
 | f + 1, g => by
  rw [qa8]
  split
  ·exact Nat.zero_le _
  ·split
   ·rw [List.length_cons]; have := qhk (s := s) (c := c) f (s.par g).toNat; omega
   ·exact Nat.zero_le _
theorem qge {x : Stm} {ng nl nu nt ns g c : Nat} {l : List Nat} (hx : MdOk x ng nl nu nt ns) (hg : g < ns) (hl : q5 x.sta g c = l) : l.length ≤ 1000000 := by
 subst hl
 have h1 : (q5 x.sta g c).length ≤ g := qhk (s := x.sta) (c := c) g g
 have h2 := hx.few.s
 have h3 := hx.ln.s
 omega
theorem qif {W w : World} {F T : List Fact} {x : Stm} {ng nl nu nt ns gm c : Nat} {E : Option Addr} {ec : Nat} {l : List Nat} (n : Nat) (HM : Mem W w F) (he : F.drop n = mdA gm x ng nl nu nt ns ++ T) {j : Nat} (hE : F[j]? = some (.row (.slice E l.length ec) l.length (l.map I64v) 3 1)) (hj : j < n) (hx : Lns x ng nl nu nt ns) (hlm : ∀ g ∈ l, 0 < g ∧ g < ns) (hln : l.length ≤ 1000000)
  (hgs : gsOk x.gs = true) (hrg : x.rs.length = x.gs.length) (hsp : SpsOk x.gs x.cpus x.rs) (hcr : x.credit < 18446744073709551616) (hcp : x.cpus ≤ 64) (hc : (c : Int) < x.cpus) :
  Calls Tryz.prog 88 #[vP gm 0, .slice E l.length ec, vI c] w (fun r w' => ∃ rs2, r = .returned (.tuple #[]) ∧ rs2.length = ns ∧ SpsOk x.gs x.cpus rs2 ∧ ({ x with rs := rs2 } : Stm).sta = wakeS x.sta l c ∧ Mem W w' (F.take n ++ (mdA gm { x with rs := rs2 } ng nl nu nt ns ++ T))) :=
 (qnr W w x gm c ng nl nu nt ns hx (F.take n ++ T) E ec l (List.mem_append_left _ (List.mem_of_getElem? (by rw [List.getElem?_take_of_lt hj]; exact hE))) hlm hln hgs hrg hsp hcr hcp hc (HM.front n he)).mono fun r w' ⟨rs2, h1, h2, h3, h4, h5⟩ => ⟨rs2, h1, h2, h3, h4, h5.back⟩
theorem qgv (W w : World) (x : Stm) (gm : Nat) (ng nl nu nt ns : Nat) (hx : MdOk x ng nl nu nt ns) (o : Op30) (ho : o.Ok) (T : List Fact) (HM : Mem W w (mdA gm x ng nl nu nt ns ++ T)) :
    Calls Tryz.prog 36 #[vP gm 0, .agg o.cells] w (OpIs W gm T (zk x.sta o)) := by
 obtain ⟨cp, cr, gA, gc, gs, lA, lc, cl, uA, uc, cu, tA, tc, ts, sA, sc, rs⟩ := x
 replace HM : Mem W w (fM gm cp cr gA ng gc lA nl lc uA nu uc tA nt tc sA ns sc :: fG gA ng gc gs :: fI lA nl lc cl :: fI uA nu uc cu :: fT tA nt tc ts :: fS sA ns sc rs :: (fR rs ++ (T))) := HM
 obtain ⟨hlg, hll, hlu, hlt, hls⟩ := hx.ln
 replace hlg : gs.length = ng := hlg; replace hll : cl.length = nl := hll; replace hlu : cu.length = nu := hlu; replace hlt : ts.length = nt := hlt; replace hls : rs.length = ns := hls
 have hlns := hx.ln
 have hsp : SpsOk gs cp rs := hx.spots
 have hrg : rs.length = gs.length := hx.sh.rs
 have hcr : cr < 18446744073709551616 := hx.ok.credit
 obtain ⟨hcp1, hcp2, _, hgs⟩ := zf hx.sh.cfg
 replace hcp1 : 1 ≤ cp := hcp1; replace hcp2 : cp ≤ 64 := hcp2; replace hgs : gsOk gs = true := hgs
 have hgl1 := (qh hgs).1; have hgl2 := (qh hgs).2.1
 have hcll : (cl.length : Int) = cp := hx.sh.cl; have hcul : (cu.length : Int) = cp := hx.sh.cu
 have hfts : ts.length ≤ 1000000 := hx.few.t
 have hoc := ho.cpu; have hot := ho.task; have hog := ho.group; have how := ho.weight; have hoto := ho.to; have hotk := ho.ticks; have hom := ho.mask; have hok8 := ho.kind; unfold I64 at hoc hot hog how hoto hotk
 refine (Jin2 HM Tryz.func36 55) ?_
 refine (JP∘JE) fun w3 g3 => (Jp 2∘Jr∘Jp 1∘Jj∘JQ∘JB∘JP∘Jg 2 O0∘JI (h:=by exact fun HM => qfg o.task _)) fun w13 hbw => (Jp 2∘Jd3∘Jj) (Ji' (fun hd10 => ?_) fun hd10 => ?_)
 ·
  exact (JT∘JP∘Jp 2∘Jj∘JZ∘Jz2) fun HM => by exact qs (y := (⟨cp, cr, gA, gc, gs, lA, lc, cl, uA, uc, cu, tA, tc, ts, sA, sc, rs⟩ : Stm)) 1 HM rfl hlns (if_pos (decide_eq_false hd10))
 refine (JF∘JP∘Jg 4 O0∘JL (h:=by exact fun HM => qcm o.weight _)) ?_
 rintro HM _ w18 ⟨rfl, hbw⟩
 refine ⟨_, rfl, _, HM.call hbw, ?_⟩
 refine (Jp 2∘Jd3∘Jj) (Ji' (fun hd15 => ?_) fun hd15 => ?_)
 ·
  exact (JT∘JP∘Jp 2∘Jj∘JZ∘Jz2) fun HM => by exact qs (y := (⟨cp, cr, gA, gc, gs, lA, lc, cl, uA, uc, cu, tA, tc, ts, sA, sc, rs⟩ : Stm)) 1 HM rfl hlns ((if_neg (nf (decide_eq_true hd10))).trans (if_pos (decide_eq_false hd15)))
 refine (JF∘JS'∘JQ∘JP∘Jp 1∘Jg 2 O0∘JI (h:=by exact fun HM => qea 1 HM rfl hx o.task)) fun w23 hbw => (Jp 1∘Jd3∘Jr∘Jp 2∘Jd1∘Jj) (Ju (fun hb25 => ?_) fun hb25 => ?_)
 ·
  intro a I HM
  have hd25 := of_decide_eq_true hb25
  exact Jb I HM ((JT∘JP∘Jp 2∘Jj∘JZ∘Jz2) fun HM => by exact qs (y := (⟨cp, cr, gA, gc, gs, lA, lc, cl, uA, uc, cu, tA, tc, ts, sA, sc, rs⟩ : Stm)) 1 HM rfl hlns ((if_neg (nf (decide_eq_true hd10))).trans ((if_neg (nf (decide_eq_true hd15))).trans (if_pos (hd25)))))
 intro a I HM
 have hd25 := of_decide_eq_false hb25
 obtain ⟨k, t, hk, ht, hkl, hkid⟩ := qco hd25
 replace hk : fidx ts o.task = (k : Int) := hk; replace ht : ts[k]? = some t := ht; replace hkl : k < ts.length := hkl
 obtain ⟨htg, hto⟩ := hx.task ht
 have hti := htg.id; have htgr := htg.group; have htc := htg.cpu; have htw := htg.weight; have htv := hto.v; have htr := hto.r; have htm := hto.mask
 replace htc : 0 ≤ t.cpu ∧ t.cpu < cp := htc
 obtain ⟨gt, hgt⟩ : ∃ n : Nat, t.group = (n : Int) := ⟨t.group.toNat, by omega⟩
 obtain ⟨ct, hct⟩ : ∃ n : Nat, t.cpu = (n : Int) := ⟨t.cpu.toNat, by omega⟩
 obtain ⟨wt, hwt⟩ : ∃ n : Nat, t.weight = (n : Int) := ⟨t.weight.toNat, by omega⟩
 have hEo : (⟨t.v, t.r, wt⟩ : En).Ok := En.qda htg.ent hwt htv
 obtain ⟨z, hoz⟩ : ∃ n : Nat, o.weight = (n : Int) := ⟨o.weight.toNat, by omega⟩
 have hz : 1 ≤ z ∧ z ≤ 65536 := by omega
 revert HM; revert a; repeat (first | clear I | clear HM)
 intro a I HM
 obtain ⟨gtA, rfl⟩ := qe (HM.own (i := 5) rfl) (Nat.lt_of_le_of_lt (Nat.zero_le _) (show k < nt from (by omega : k < nt)))
 refine Jb I HM ((JF∘JS'∘JP∘Jp 1∘Jn∘Jf 0∘Jg 5 O1∘Jp 1∘Jo (vI k) (by rw [hk])∘Jy (h:=by exact Yl.ix0 gtA k 8 rfl rfl rfl)∘Jp 1∘Jd6∘Jj) fun a I HM => ?_)
 refine qy (fun aS wS => ∃ (g8 : Nat), Fr aS 55 [] [(8, vP g8 0), (7, vP gtA (k * 8)), (25, .bool false), (6, vI (fidx ts o.task)), (15, .bool false), (10, .bool false), (5, vI 0), (4, vI 0), (3, vP g3 0), (0, vP gm 0)] ∧ Mem W wS (.blk g8 ((⟨t.v, 0, z⟩ : En).cells) 117 :: .blk g3 o.cells 52 :: fM gm cp cr gA ng gc lA nl lc uA nu uc (some ⟨gtA, 0, none⟩) nt tc sA ns sc :: fG gA ng gc gs :: fI lA nl lc cl :: fI uA nu uc cu :: fT (some ⟨gtA, 0, none⟩) nt tc ts :: fS sA ns sc rs :: (fR rs ++ (T)))) ?_ ?_
 ·
  refine Jb I HM ((Vs .n [20]) fun wd10 => (Vp [0, 4, 8]∘Vf 13 4∘Vn 1∘Vf 2 6∘Vy 3 (v := vQ t.v) (h:=by exact Yl.qo rfl rfl kr (fun _ h => h.qq qd (i := 5) rfl (k := k) (off := 6) (x := t) (ht) rfl))∘Vn 5∘Vf 6 7∘Vy 7 (v := vW t.r) (h:=by exact Yl.qo rfl rfl kr (fun _ h => h.qq qd (i := 5) rfl (k := k) (off := 7) (x := t) (ht) rfl))∘Vn 9∘Vf 10 2∘Vy 11 (v := vI t.weight) (h:=by exact Yl.qo rfl rfl kr (fun _ h => h.qq qd (i := 5) rfl (k := k) (off := 2) (x := t) (ht) rfl))∘Vo (vI wt) (by rw [hwt])∘Vc 14 O0∘Vo (vI z) (by rw [hoz])) fun a I HM HS => ?_)
  refine qu [12, 19] kr rfl ?_
  refine all_cons ?_ ?_
  ·refine qk I (i := 12) rfl rfl ?_
   refine e_is I HM [vQ t.v, vW t.r, vI wt] (.agg #[vQ t.v, vW t.r, vW wt]) rfl rfl (q7 t.v t.r (wt : Int) om _) fun w46 hbw HM a I => ?_
   refine keepS (HM.pt 7 [0, 1, 2, 3, 4, 5, 6]) (fun HS => ?_)
   refine qu [15, 19] kr rfl ?_
   refine all_cons ?_ ?_
   ·refine qk I (i := 15) rfl rfl ?_
    refine e_is I HM [.agg #[vQ t.v, vW t.r, vW wt], vI z] (.tuple #[.agg ((⟨t.v, 0, z⟩ : En).cells), vI 0]) rfl rfl (qbw (⟨t.v, t.r, wt⟩ : En) hEo z hz _) fun w49 hbw HM a I => ?_
    refine keepS (HM.pt 7 [0, 1, 2, 3, 4, 5, 6]) (fun HS => ?_)
    refine Vb I HM HS ((Vp [16]∘Vx 17∘Vx 18∘VA 19 .n #[vQ 0, vW 0, vW 0]) fun w8 g8 => fun a I HM HS => ?_)
    refine s_on I 20 rfl (e_sa I HM 0 rfl rfl rfl rfl rfl qp rfl rfl (qw (⟨t.v, 0, z⟩ : En)) fun w10_20 HM => ?_)
    refine noS kr ?_
    refine ap I (pastS kr) [21] (bt 22 []) [] fun a I => ?_
    refine qb kr ?_
    exact ⟨g8, I.sub kr, HM.pt 8 [0, 1, 2, 3, 4, 5, 6, 7]⟩
   refine all_cons ?_ all_nil
   refine qk I (i := 19) rfl rfl ?_
   refine s_ea I HM #[vQ 0, vW 0, vW 0] ?_
   clear I HM; intro a w8 g8 I HM
   refine keepS (HM.pt 8 [1, 2, 3, 4, 5, 6, 7]) (fun HS => ?_)
   refine Vb I HM HS ((VI 15 (.f .n) (h:=by exact fun HM => qbw (⟨t.v, t.r, wt⟩ : En) hEo z hz _)) fun w49 hbw => (Vp [16]∘Vx 17∘Vx 18) fun a I HM HS => ?_)
   refine s_on I 20 rfl (e_sa I HM 0 rfl rfl rfl rfl rfl qp rfl rfl (qw (⟨t.v, 0, z⟩ : En)) fun w10_20 HM => ?_)
   refine noS kr ?_
   refine ap I (pastS kr) [21] (bt 22 []) [] fun a I => ?_
   refine qb kr ?_
   exact ⟨g8, I.sub kr, HM.pt 8 [0, 1, 2, 3, 4, 5, 6, 7]⟩
  refine all_cons ?_ all_nil
  refine qk I (i := 19) rfl rfl ?_
  refine s_ea I HM #[vQ 0, vW 0, vW 0] ?_
  clear I HM; intro a w8 g8 I HM
  refine keepS (HM.pt 8 [1, 2, 3, 4, 5, 6, 7]) (fun HS => ?_)
  refine Vb I HM HS ((VI 12 (.f .n) (h:=by exact fun HM => q7 t.v t.r (wt : Int) om _)) fun w46 hbw => (VI 15 (.f .n) (h:=by exact fun HM => qbw (⟨t.v, t.r, wt⟩ : En) hEo z hz _)) fun w49 hbw => (Vp [16]∘Vx 17∘Vx 18) fun a I HM HS => ?_)
  refine s_on I 20 rfl (e_sa I HM 0 rfl rfl rfl rfl rfl qp rfl rfl (qw (⟨t.v, 0, z⟩ : En)) fun w10_20 HM => ?_)
  refine noS kr ?_
  refine ap I (pastS kr) [21] (bt 22 []) [] fun a I => ?_
  refine qb kr ?_
  exact ⟨g8, I.sub kr, HM.pt 8 [0, 1, 2, 3, 4, 5, 6, 7]⟩
 clear I HM; rintro a w10 ⟨g8, I, HM⟩
 exact Jb I HM ((JP∘Jp 1∘Jy (v := .agg ((⟨t.v, 0, z⟩ : En).cells)) (h:=by exact Yl.loadS rfl rfl qp rfl (fun _ h => qa (h.blk (i := 0) rfl)))∘JO (h:=by exact fun HM => ql9 t (⟨t.v, 0, z⟩ : En) O6' HM ht hlt (qpw htv hz))) fun w54 => (Jt3∘Jr∘Jp 2∘Jj∘JZ∘Jz2) fun HM => by exact qs (y := (⟨cp, cr, gA, gc, gs, lA, lc, cl, uA, uc, cu, some ⟨gtA, 0, none⟩, tc, (ts.set k (t.put (⟨t.v, 0, z⟩ : En))), sA, sc, rs⟩ : Stm)) 2 HM rfl (qec hlns (by rw [List.length_set]; exact hlt)) (qe6 (x := (⟨cp, cr, gA, gc, gs, lA, lc, cl, uA, uc, cu, some ⟨gtA, 0, none⟩, tc, ts, sA, sc, rs⟩ : Stm)) (decide_eq_true hd10) (decide_eq_true hd15) hk ht hoz))
theorem qk8 (W w : World) (x : Stm) (gm : Nat) (ng nl nu nt ns : Nat) (hx : MdOk x ng nl nu nt ns) (o : Op30) (ho : o.Ok) (T : List Fact) (HM : Mem W w (mdA gm x ng nl nu nt ns ++ T)) :
    Calls Tryz.prog 32 #[vP gm 0, .agg o.cells] w (OpIs W gm T (qca x.sta o)) := by
 obtain ⟨cp, cr, gA, gc, gs, lA, lc, cl, uA, uc, cu, tA, tc, ts, sA, sc, rs⟩ := x
 replace HM : Mem W w (fM gm cp cr gA ng gc lA nl lc uA nu uc tA nt tc sA ns sc :: fG gA ng gc gs :: fI lA nl lc cl :: fI uA nu uc cu :: fT tA nt tc ts :: fS sA ns sc rs :: (fR rs ++ (T))) := HM
 obtain ⟨hlg, hll, hlu, hlt, hls⟩ := hx.ln
 replace hlg : gs.length = ng := hlg; replace hll : cl.length = nl := hll; replace hlu : cu.length = nu := hlu; replace hlt : ts.length = nt := hlt; replace hls : rs.length = ns := hls
 have hlns := hx.ln
 have hsp : SpsOk gs cp rs := hx.spots
 have hrg : rs.length = gs.length := hx.sh.rs
 have hcr : cr < 18446744073709551616 := hx.ok.credit
 obtain ⟨hcp1, hcp2, _, hgs⟩ := zf hx.sh.cfg
 replace hcp1 : 1 ≤ cp := hcp1; replace hcp2 : cp ≤ 64 := hcp2; replace hgs : gsOk gs = true := hgs
 have hgl1 := (qh hgs).1; have hgl2 := (qh hgs).2.1
 have hcll : (cl.length : Int) = cp := hx.sh.cl; have hcul : (cu.length : Int) = cp := hx.sh.cu
 have hfts : ts.length ≤ 1000000 := hx.few.t
 have hoc := ho.cpu; have hot := ho.task; have hog := ho.group; have how := ho.weight; have hoto := ho.to; have hotk := ho.ticks; have hom := ho.mask; have hok8 := ho.kind; unfold I64 at hoc hot hog how hoto hotk
 obtain ⟨gsA, rfl⟩ := qe (HM.own (i := 5) rfl) om
 refine (Jin2 HM Tryz.func32 103) ?_
 refine (JP∘JE) fun w3 g3 => (Jp 2∘Jj∘JQ∘JP∘Jg 2 O0∘JI (h:=by exact fun HM => qfg o.task _)) fun w13 hbw => (Jp 1∘Jd2∘Jj) (Ji' (fun hd14 => ?_) fun hd14 => ?_)
 ·
  exact (JT∘JP∘Jp 2∘Jj∘JZ∘Jz2) fun HM => by exact qs (y := (⟨cp, cr, gA, gc, gs, lA, lc, cl, uA, uc, cu, tA, tc, ts, some ⟨gsA, 0, none⟩, sc, rs⟩ : Stm)) 1 HM rfl hlns (if_pos (decide_eq_false hd14))
 refine (JF∘JS'∘JP∘Jp 1∘Jg 2 O0∘JI (h:=by exact fun HM => qea 1 HM rfl hx o.task)) fun w18 hbw => (Jp 1∘Jd3∘Jj∘JQ∘JB∘JP∘Jp 3∘Jd2∘Jj) (Ju (fun hb19 => ?_) fun hb19 => ?_)
 ·
  intro a I HM
  have hd19 := of_decide_eq_true hb19
  exact Jb I HM ((JT∘JP∘Jp 2∘Jj∘JZ∘Jz2) fun HM => by exact qs (y := (⟨cp, cr, gA, gc, gs, lA, lc, cl, uA, uc, cu, tA, tc, ts, some ⟨gsA, 0, none⟩, sc, rs⟩ : Stm)) 1 HM rfl hlns ((if_neg (nf (decide_eq_true hd14))).trans (if_pos (hd19))))
 intro a I HM
 have hd19 := of_decide_eq_false hb19
 obtain ⟨k, t, hk, ht, hkl, hkid⟩ := qco hd19
 replace hk : fidx ts o.task = (k : Int) := hk; replace ht : ts[k]? = some t := ht; replace hkl : k < ts.length := hkl
 obtain ⟨htg, hto⟩ := hx.task ht
 have hti := htg.id; have htgr := htg.group; have htc := htg.cpu; have htw := htg.weight; have htv := hto.v; have htr := hto.r; have htm := hto.mask
 replace htc : 0 ≤ t.cpu ∧ t.cpu < cp := htc
 obtain ⟨gt, hgt⟩ : ∃ n : Nat, t.group = (n : Int) := ⟨t.group.toNat, by omega⟩
 obtain ⟨ct, hct⟩ : ∃ n : Nat, t.cpu = (n : Int) := ⟨t.cpu.toNat, by omega⟩
 obtain ⟨wt, hwt⟩ : ∃ n : Nat, t.weight = (n : Int) := ⟨t.weight.toNat, by omega⟩
 have hEo : (⟨t.v, t.r, wt⟩ : En).Ok := En.qda htg.ent hwt htv
 revert HM; revert a; repeat (first | clear I | clear HM)
 intro a I HM
 obtain ⟨gtA, rfl⟩ := qe (HM.own (i := 5) rfl) (Nat.lt_of_le_of_lt (Nat.zero_le _) (show k < nt from (by omega : k < nt)))
 refine Jb I HM ((JF∘JP∘Jp 1∘Jn∘Jf 0∘Jg 5 O1∘Jp 1∘Jo (vI k) (by rw [hk])∘Jy (h:=by exact Yl.ix0 gtA k 8 rfl rfl rfl)∘Jf 5∘Jy (v := .bool t.ready) (h:=by exact Yl.qo rfl rfl kr (fun _ h => h.qq qd (i := 5) rfl (k := k) (off := 5) (x := t) (ht) rfl))∘Jp 1∘Jd6∘Jj) (Ju (fun hb22 => ?_) fun hb22 => ?_))
 ·
  exact (JT∘JP∘Jp 2∘Jj∘JZ∘Jz2) fun HM => by exact qs (y := (⟨cp, cr, gA, gc, gs, lA, lc, cl, uA, uc, cu, some ⟨gtA, 0, none⟩, tc, ts, some ⟨gsA, 0, none⟩, sc, rs⟩ : Stm)) 1 HM rfl hlns ((if_neg (nf (decide_eq_true hd14))).trans ((if_neg (hd19)).trans (if_pos (by rw [qah (s := Stm.sta (⟨cp, cr, gA, gc, gs, lA, lc, cl, uA, uc, cu, some ⟨gtA, 0, none⟩, tc, ts, some ⟨gsA, 0, none⟩, sc, rs⟩ : Stm)) hk ht]; exact hb22))))
 intro a I HM
 have hnr : t.ready = false := by simpa using hb22
 obtain ⟨em, hem⟩ : ∃ l, q5 (⟨cp, cr, gA, gc, gs, lA, lc, cl, uA, uc, cu, some ⟨gtA, 0, none⟩, tc, ts, some ⟨gsA, 0, none⟩, sc, rs⟩ : Stm).sta gt ct = l := ⟨_, rfl⟩
 have hemm := fun h hh => qie (x := (⟨cp, cr, gA, gc, gs, lA, lc, cl, uA, uc, cu, some ⟨gtA, 0, none⟩, tc, ts, some ⟨gsA, 0, none⟩, sc, rs⟩ : Stm)) hx (by omega : gt < ns) hem h hh
 have hemn := qge (x := (⟨cp, cr, gA, gc, gs, lA, lc, cl, uA, uc, cu, some ⟨gtA, 0, none⟩, tc, ts, some ⟨gsA, 0, none⟩, sc, rs⟩ : Stm)) hx (by omega : gt < ns) hem
 obtain ⟨⟨yA, yc, yl⟩, hy⟩ : ∃ y, rs.getD gt Rw.zero = y := ⟨_, rfl⟩
 have hys := hsp gt om; rw [hy] at hys
 have hyl : (yl.length : Int) = cp := hys.1
 revert HM; revert a; repeat (first | clear I | clear HM)
 intro a I HM
 obtain ⟨gy, rfl⟩ := HM.rwSome 7 rfl om hy om
 obtain ⟨yz, hyz⟩ : ∃ z, yl[ct]? = some z := ⟨_, List.getElem?_eq_getElem om⟩
 have hyo := hys.2 yz (List.mem_of_getElem? hyz)
 have hyv := hyo.1.v; have hyr := hyo.1.r; have hyf := hyo.1.floor
 obtain ⟨e, hew⟩ : ∃ e, (⟨t.v, t.r, wt⟩ : En).woken yz.floor cr = e := ⟨_, rfl⟩
 have heo : e.Ok ∧ e.w = wt := by rw [← hew]; exact En.qc8 hEo _ _ hyf
 have hev := heo.1.2; have her := qbu heo.1.1
 refine Jb I HM ((JF∘JS'∘JP∘Jp 1∘Jn∘Jf 0∘Jg 5 O1∘Jp 1∘Jo (vI k) (by rw [hk])∘Jy (h:=by exact Yl.ix0 gtA k 8 rfl rfl rfl)∘Jp 1∘Jd6∘Jj) fun a I HM => ?_)
 refine wp_seq ?_
 refine Jb I HM ((Vs .n []) fun wd9 => (Vp [0, 1, 5]∘Vn 2∘Vf 3 1∘Vy 4 (v := vI t.group) (h:=by exact Yl.qo rfl rfl kr (fun _ h => h.qq qd (i := 5) rfl (k := k) (off := 1) (x := t) (ht) rfl))∘Vo (vI gt) (by rw [hgt])∘Vn 6∘Vf 7 3∘Vy 8 (v := vI t.cpu) (h:=by exact Yl.qo rfl rfl kr (fun _ h => h.qq qd (i := 5) rfl (k := k) (off := 3) (x := t) (ht) rfl))∘Vo (vI ct) (by rw [hct])∘VK 9 .n (h:=by exact fun HM => qid 1 HM rfl hx (by show ((ct : Nat) : Int) < cp; omega) om hem)) fun A48 c48 w48 hc48 => (Vp [10]∘Vd∘Jd6) fun a I HM => ?_)
 refine qy (fun aS wS => ∃ (g9 : Nat), Fr aS 103 [] [(9, vP g9 0), (8, .slice A48 em.length c48), (7, vP gtA (k * 8)), (22, .bool false), (19, .bool false), (6, vI (fidx ts o.task)), (14, .bool false), (5, vI 0), (4, vI 0), (3, vP g3 0), (0, vP gm 0)] ∧ Mem W wS (.blk g9 e.cells 117 :: .row (.slice A48 em.length c48) em.length (em.map I64v) 3 1 :: .blk g3 o.cells 52 :: fM gm cp cr gA ng gc lA nl lc uA nu uc (some ⟨gtA, 0, none⟩) nt tc (some ⟨gsA, 0, none⟩) ns sc :: fG gA ng gc gs :: fI lA nl lc cl :: fI uA nu uc cu :: fT (some ⟨gtA, 0, none⟩) nt tc ts :: fS (some ⟨gsA, 0, none⟩) ns sc rs :: (fR rs ++ (T)))) ?_ ?_
 ·
  refine Jb I HM ((Vs .n [42]) fun wd10 => (Vp [0, 4, 8, 13, 18, 24, 31]∘Vn 1∘Vf 2 6∘Vy 3 (v := vQ t.v) (h:=by exact Yl.qo rfl rfl kr (fun _ h => h.qq qd (i := 6) rfl (k := k) (off := 6) (x := t) (ht) rfl))∘Vn 5∘Vf 6 7∘Vy 7 (v := vW t.r) (h:=by exact Yl.qo rfl rfl kr (fun _ h => h.qq qd (i := 6) rfl (k := k) (off := 7) (x := t) (ht) rfl))∘Vn 9∘Vf 10 2∘Vy 11 (v := vI t.weight) (h:=by exact Yl.qo rfl rfl kr (fun _ h => h.qq qd (i := 6) rfl (k := k) (off := 2) (x := t) (ht) rfl))∘Vo (vI wt) (by rw [hwt])∘Vn 14∘Vf 15 0∘Vf 16 6∘Vc 17 O2∘Vn 19∘Vf 20 1∘Vy 21 (v := vI t.group) (h:=by exact Yl.qo rfl rfl kr (fun _ h => h.qq qd (i := 6) rfl (k := k) (off := 1) (x := t) (ht) rfl))∘Vo (vI gt) (by rw [hgt])∘Vy 22 (h:=by exact Yl.ix0 gsA gt 1 rfl rfl rfl)∘Vy 23 (v := .slice ((rs.getD gt Rw.zero).A) ((rs.getD gt Rw.zero).l.length) ((rs.getD gt Rw.zero).c)) (h:=by exact Yl.r1 7 gt Rw.zero om rfl rfl rfl)∘Vo (vS gy yl.length yc) (by rw [hy])∘Vn 25∘Vf 26 3∘Vy 27 (v := vI t.cpu) (h:=by exact Yl.qo rfl rfl kr (fun _ h => h.qq qd (i := 6) rfl (k := k) (off := 3) (x := t) (ht) rfl))∘Vo (vI ct) (by rw [hct])∘Vy 28 (h:=by exact Yl.ix0 gy ct 3 rfl rfl rfl)∘Vf 29 2∘Vy 30 (v := vQ yz.floor) (h:=by exact Yl.qo rfl rfl kr (fun _ h => h.qat 8 (j := 2) rfl om hy (hyz) rfl))∘Vn 32∘Vf 33 0∘Vf 34 0∘Vf 35 1∘Vc 36 O2) fun a I HM HS => ?_)
  refine qu [12, 41] kr rfl ?_
  refine all_cons ?_ ?_
  ·refine qk I (i := 12) rfl rfl ?_
   refine e_is I HM [vQ t.v, vW t.r, vI wt] (.agg #[vQ t.v, vW t.r, vW wt]) rfl rfl (q7 t.v t.r (wt : Int) om _) fun w62 hbw HM a I => ?_
   refine keepS (HM.pt 8 [0, 1, 2, 3, 4, 5, 6, 7]) (fun HS => ?_)
   refine qu [37, 41] kr rfl ?_
   refine all_cons ?_ ?_
   ·refine qk I (i := 37) rfl rfl ?_
    refine e_is I HM [.agg #[vQ t.v, vW t.r, vW wt], vQ yz.floor, vQ cr] (.tuple #[.agg e.cells, vI 0]) rfl rfl (qc5 (⟨t.v, t.r, wt⟩ : En) e hEo yz.floor cr hyf hcr hew _) fun w87 hbw HM a I => ?_
    refine keepS (HM.pt 8 [0, 1, 2, 3, 4, 5, 6, 7]) (fun HS => ?_)
    refine Vb I HM HS ((Vp [38]∘Vx 39∘Vx 40∘VA 41 .n #[vQ 0, vW 0, vW 0]) fun w9 g9 => fun a I HM HS => ?_)
    refine s_on I 42 rfl (e_sa I HM 0 rfl rfl rfl rfl rfl qp rfl rfl (qw e) fun w10_42 HM => ?_)
    refine noS kr ?_
    refine ap I (pastS kr) [43] (bt 44 []) [] fun a I => ?_
    refine qb kr ?_
    replace I := I.to [(9, vP g9 0), (8, .slice A48 em.length c48), (7, vP gtA (k * 8)), (22, .bool false), (19, .bool false), (6, vI (fidx ts o.task)), (14, .bool false), (5, vI 0), (4, vI 0), (3, vP g3 0), (0, vP gm 0)]
    exact ⟨g9, I.sub kr, HM.pt 9 [0, 1, 2, 3, 4, 5, 6, 7, 8]⟩
   refine all_cons ?_ all_nil
   refine qk I (i := 41) rfl rfl ?_
   refine s_ea I HM #[vQ 0, vW 0, vW 0] ?_
   clear I HM; intro a w9 g9 I HM
   refine keepS (HM.pt 9 [1, 2, 3, 4, 5, 6, 7, 8]) (fun HS => ?_)
   refine Vb I HM HS ((VI 37 (.f .n) (h:=by exact fun HM => qc5 (⟨t.v, t.r, wt⟩ : En) e hEo yz.floor cr hyf hcr hew _)) fun w87 hbw => (Vp [38]∘Vx 39∘Vx 40) fun a I HM HS => ?_)
   refine s_on I 42 rfl (e_sa I HM 0 rfl rfl rfl rfl rfl qp rfl rfl (qw e) fun w10_42 HM => ?_)
   refine noS kr ?_
   refine ap I (pastS kr) [43] (bt 44 []) [] fun a I => ?_
   refine qb kr ?_
   replace I := I.to [(9, vP g9 0), (8, .slice A48 em.length c48), (7, vP gtA (k * 8)), (22, .bool false), (19, .bool false), (6, vI (fidx ts o.task)), (14, .bool false), (5, vI 0), (4, vI 0), (3, vP g3 0), (0, vP gm 0)]
   exact ⟨g9, I.sub kr, HM.pt 9 [0, 1, 2, 3, 4, 5, 6, 7, 8]⟩
  refine all_cons ?_ all_nil
  refine qk I (i := 41) rfl rfl ?_
  refine s_ea I HM #[vQ 0, vW 0, vW 0] ?_
  clear I HM; intro a w9 g9 I HM
  refine keepS (HM.pt 9 [1, 2, 3, 4, 5, 6, 7, 8]) (fun HS => ?_)
  refine Vb I HM HS ((VI 12 (.f .n) (h:=by exact fun HM => q7 t.v t.r (wt : Int) om _)) fun w62 hbw => (VI 37 (.f .n) (h:=by exact fun HM => qc5 (⟨t.v, t.r, wt⟩ : En) e hEo yz.floor cr hyf hcr hew _)) fun w87 hbw => (Vp [38]∘Vx 39∘Vx 40) fun a I HM HS => ?_)
  refine s_on I 42 rfl (e_sa I HM 0 rfl rfl rfl rfl rfl qp rfl rfl (qw e) fun w10_42 HM => ?_)
  refine noS kr ?_
  refine ap I (pastS kr) [43] (bt 44 []) [] fun a I => ?_
  refine qb kr ?_
  replace I := I.to [(9, vP g9 0), (8, .slice A48 em.length c48), (7, vP gtA (k * 8)), (22, .bool false), (19, .bool false), (6, vI (fidx ts o.task)), (14, .bool false), (5, vI 0), (4, vI 0), (3, vP g3 0), (0, vP gm 0)]
  exact ⟨g9, I.sub kr, HM.pt 9 [0, 1, 2, 3, 4, 5, 6, 7, 8]⟩
 clear I HM; rintro a w10 ⟨g9, I, HM⟩
 refine Jb I HM ((JP∘Jp 1∘Jy (v := .agg e.cells) (h:=by exact Yl.loadS rfl rfl qp rfl (fun _ h => qa (h.blk (i := 0) rfl)))∘JO (h:=by exact fun HM => ql9 t e O7' HM ht hlt heo.1)) fun w92 => (Jt3∘Jr∘Jp 1∘Jn∘Jf 5) fun a I HM => ?_)
 refine fo I 3 rfl rfl ?_
 refine qv I HM (i := 7) rfl rfl rfl rfl kr rfl rfl (by rw [q8 tkL 8 qd, List.length_set]; omega) fun w12_3 HM => ?_
 replace HM := HM.asRow (i := 7) (ys := (ts.set k { t.put e with ready := true }).flatMap tkL) rfl ((zc tkL 8 qd (ts.set k (t.put e)) k (t.put e) { t.put e with ready := true } (qba ht) 5 de _ rfl).trans (by rw [List.set_set]))
 refine Jb I HM ((Jt3∘Jr∘Jp 3∘Jn∘Jf 3∘Jy (v := vI (({ t.put e with ready := true } : Tk).cpu)) (h:=by exact Yl.qo rfl rfl kr (fun _ h => h.qq qd (i := 7) rfl (k := k) (off := 3) (x := ({ t.put e with ready := true } : Tk)) ((qba ht)) rfl))∘Jo (vI ct) (by rw [← hct]; try rfl)∘JL (h:=by exact fun HM => qif 3 HM rfl (j := 1) rfl de (qec (ts' := ts.set k { t.put e with ready := true }) hlns (by rw [List.length_set]; exact hlt)) (hemm) (hemn) hgs hrg hsp hcr hcp2 (by show ((ct : Nat) : Int) < cp; omega))) ?_)
 rintro HM _ w102 ⟨rs2, rfl, hl2, hsp2, hst2, HM2⟩
 refine ⟨_, rfl, _, (show Mem W w102 (.blk g9 e.cells 117 :: .row (.slice A48 em.length c48) em.length (em.map I64v) 3 1 :: .blk g3 o.cells 52 :: fM gm cp cr gA ng gc lA nl lc uA nu uc (some ⟨gtA, 0, none⟩) nt tc (some ⟨gsA, 0, none⟩) ns sc :: fG gA ng gc gs :: fI lA nl lc cl :: fI uA nu uc cu :: fT (some ⟨gtA, 0, none⟩) nt tc (ts.set k { t.put e with ready := true }) :: fS (some ⟨gsA, 0, none⟩) ns sc rs2 :: (fR rs2 ++ (T))) from HM2), ?_⟩
 exact (Jt6∘Jr∘Jp 2∘Jj∘JZ∘Jz2) fun HM => by exact qs (y := (⟨cp, cr, gA, gc, gs, lA, lc, cl, uA, uc, cu, some ⟨gtA, 0, none⟩, tc, (ts.set k { t.put e with ready := true }), some ⟨gsA, 0, none⟩, sc, rs2⟩ : Stm)) 3 HM rfl (qma (qec hlns (by rw [List.length_set]; exact hlt)) hl2) ((qjr (x := (⟨cp, cr, gA, gc, gs, lA, lc, cl, uA, uc, cu, some ⟨gtA, 0, none⟩, tc, ts, some ⟨gsA, 0, none⟩, sc, rs⟩ : Stm)) (decide_eq_true hd14) hk ht hnr hgt hct hwt (qag (x := (⟨cp, cr, gA, gc, gs, lA, lc, cl, uA, uc, cu, some ⟨gtA, 0, none⟩, tc, ts, some ⟨gsA, 0, none⟩, sc, rs⟩ : Stm)) (by show gt < rs.length; omega) hy hyz) hew hem).trans (by rw [← hst2]))
theorem qnt (W w : World) (x : Stm) (gm : Nat) (ng nl nu nt ns : Nat) (hx : MdOk x ng nl nu nt ns) (o : Op30) (ho : o.Ok) (T : List Fact) (HM : Mem W w (mdA gm x ng nl nu nt ns ++ T)) :
    Calls Tryz.prog 35 #[vP gm 0, .agg o.cells] w (OpIs W gm T (pickS x.sta o)) := by
 obtain ⟨cp, cr, gA, gc, gs, lA, lc, cl, uA, uc, cu, tA, tc, ts, sA, sc, rs⟩ := x
 replace HM : Mem W w (fM gm cp cr gA ng gc lA nl lc uA nu uc tA nt tc sA ns sc :: fG gA ng gc gs :: fI lA nl lc cl :: fI uA nu uc cu :: fT tA nt tc ts :: fS sA ns sc rs :: (fR rs ++ (T))) := HM
 obtain ⟨hlg, hll, hlu, hlt, hls⟩ := hx.ln
 replace hlg : gs.length = ng := hlg; replace hll : cl.length = nl := hll; replace hlu : cu.length = nu := hlu; replace hlt : ts.length = nt := hlt; replace hls : rs.length = ns := hls
 have hlns := hx.ln
 have hsp : SpsOk gs cp rs := hx.spots
 have hrg : rs.length = gs.length := hx.sh.rs
 have hcr : cr < 18446744073709551616 := hx.ok.credit
 obtain ⟨hcp1, hcp2, _, hgs⟩ := zf hx.sh.cfg
 replace hcp1 : 1 ≤ cp := hcp1; replace hcp2 : cp ≤ 64 := hcp2; replace hgs : gsOk gs = true := hgs
 have hgl1 := (qh hgs).1; have hgl2 := (qh hgs).2.1
 have hcll : (cl.length : Int) = cp := hx.sh.cl; have hcul : (cu.length : Int) = cp := hx.sh.cu
 have hfts : ts.length ≤ 1000000 := hx.few.t
 have hoc := ho.cpu; have hot := ho.task; have hog := ho.group; have how := ho.weight; have hoto := ho.to; have hotk := ho.ticks; have hom := ho.mask; have hok8 := ho.kind; unfold I64 at hoc hot hog how hoto hotk
 obtain ⟨guA, rfl⟩ := qe (HM.own (i := 3) rfl) om
 refine (Jin2 HM Tryz.func35 32) ?_
 refine (JP∘JE) fun w3 g3 => (Jp 2∘Jj∘JQ∘JP∘Jp 1∘Jg 1 O0∘JI (h:=by exact fun HM => qhb 1 HM rfl hx o.cpu)) fun w9 hbw => (Jp 1∘Jd3∘Jj) (Ju (fun hb10 => ?_) fun hb10 => ?_)
 ·
  intro a I HM
  have hd10 := of_decide_eq_false ((Bool.not_eq_true' _).mp hb10)
  exact Jb I HM ((JT∘JP∘Jp 2∘Jj∘JZ∘Jz2) fun HM => by exact qs (y := (⟨cp, cr, gA, gc, gs, lA, lc, cl, some ⟨guA, 0, none⟩, uc, cu, tA, tc, ts, sA, sc, rs⟩ : Stm)) 1 HM rfl hlns (if_pos (decide_eq_false hd10)))
 intro a I HM
 have hd10 := of_decide_eq_true ((Bool.not_eq_false' _).mp hb10)
 replace hd10 : 0 ≤ o.cpu ∧ o.cpu < cp := hd10
 obtain ⟨c, hcc⟩ : ∃ n : Nat, o.cpu = (n : Int) := ⟨o.cpu.toNat, by omega⟩
 have hccp : ((c : Nat) : Int) < cp := by omega
 refine Jb I HM ((JF∘JS') fun a I HM => ?_)
 refine wp_seq ?_
 refine Jb I HM ((Vs .n [12]) fun wd3 => (Vp [0]∘Vf 5 1∘Vp [7]∘Vf 8 1∘Vn 1∘Vf 2 0∘Vf 3 4∘Vc 4 O1∘Vc 6 O0∘Vo (vI c) (by rw [hcc])∘Vc 9 O0∘Vo (vI c) (by rw [hcc])∘VI 10 .n (h:=by exact fun HM => qtb 1 HM rfl hx (by show ((c : Nat) : Int) < cp; omega))) fun w21 hbw => (Vy 11 (h:=by exact Yl.ix0 guA c 1 rfl rfl rfl)) fun a I HM HS => ?_)
 refine s_on I 12 rfl ?_
 refine qv I HM (i := 4) rfl rfl rfl rfl kr rfl rfl (by rw [List.length_map]; omega) fun w3_12 HM => ?_
 replace HM := HM.asRow (i := 4) (ys := (cu.set c (q3 (⟨cp, cr, gA, gc, gs, lA, lc, cl, some ⟨guA, 0, none⟩, uc, cu, tA, tc, ts, sA, sc, rs⟩ : Stm).sta c : Int)).map I64i) rfl (qa6 I64i cu c (q3 (⟨cp, cr, gA, gc, gs, lA, lc, cl, some ⟨guA, 0, none⟩, uc, cu, tA, tc, ts, sA, sc, rs⟩ : Stm).sta c : Int) om)
 refine noS kr ?_
 refine qb kr ?_
 refine wp_seq ?_
 exact Jb I HM ((Vs .n []) fun wd4 => (Vp [0]∘Vf 5 1∘Vn 1∘Vf 2 0∘Vf 3 4∘Vc 4 O1∘Vc 6 O0∘Vo (vI c) (by rw [hcc])∘Vy 7 (h:=by exact Yl.ix0 guA c 1 rfl rfl rfl)∘Vy 8 (v := vI (q3 (⟨cp, cr, gA, gc, gs, lA, lc, cl, some ⟨guA, 0, none⟩, uc, cu, tA, tc, ts, sA, sc, rs⟩ : Stm).sta c)) (h:=by exact Yl.qo rfl rfl kr (fun _ h => h.qgq (i := 4) rfl (k := c) (qdc (F := I64i) (k := c) (x := (q3 (⟨cp, cr, gA, gc, gs, lA, lc, cl, some ⟨guA, 0, none⟩, uc, cu, tA, tc, ts, sA, sc, rs⟩ : Stm).sta c : Int)) ((List.getElem?_set_self om)))))∘Vp [9, 10]∘Vd∘JZ∘Jz2) fun HM => by exact qs (y := (⟨cp, cr, gA, gc, gs, lA, lc, cl, some ⟨guA, 0, none⟩, uc, (cu.set c (q3 (⟨cp, cr, gA, gc, gs, lA, lc, cl, some ⟨guA, 0, none⟩, uc, cu, tA, tc, ts, sA, sc, rs⟩ : Stm).sta c : Int)), tA, tc, ts, sA, sc, rs⟩ : Stm)) 1 HM rfl ⟨hlns.g, hlns.l, by show (cu.set _ _).length = nu; rw [List.length_set]; exact hlu, hlns.t, hlns.s⟩ (qsz (x := (⟨cp, cr, gA, gc, gs, lA, lc, cl, some ⟨guA, 0, none⟩, uc, cu, tA, tc, ts, sA, sc, rs⟩ : Stm)) hcc (decide_eq_true hd10)))
end Go.Proofs.YtannicghedpdpaaGreat
