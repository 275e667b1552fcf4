/- Parts. -/
import Derived.Test.YtannicghedpdpaaQfChv
import Derived.Test.YtannicghedpdpaaQfZ2
set_option linter.all false
set_option maxRecDepth 100000
set_option maxHeartbeats 1000000
namespace Go.Proofs.Ytannicghedpdpaa
open Go.RowKit
def upF (l : List Gr) (i : Nat) : Nat → Nat → Bool
 | 0, _ => false
 | f + 1, g => if g = 0 then false else g == i || upF l i f (l.getD g Gr.zero).parent.toNat
def upG (l : List Gr) (g i : Nat) : Bool := upF l i g g
section
variable {l : List Gr} {g i p k d : Nat} {s s' : Sta}
theorem qqj {f : Nat} (hp : ∀ i, 0 < i → i ≤ g → ParB l i) (h : g ≤ f) : upF l i f g = upF l i g g := by
 have key : ∀ (g f f' : Nat), (∀ i, 0 < i → i ≤ g → ParB l i) → g ≤ f → g ≤ f' → upF l i f g = upF l i f' g := by
  intro g
  induction g using Nat.strongRecOn with
  | _ g ih =>
   intro f f' hp h1 h2
   by_cases h0 : g = 0
   ·subst h0
    cases f <;> cases f' <;> simp [upF]
   ·obtain ⟨f, rfl⟩ : ∃ k, f = k + 1 := ⟨f - 1, by omega⟩
    obtain ⟨f', rfl⟩ : ∃ k, f' = k + 1 := ⟨f' - 1, by omega⟩
    have hg := hp g om (Nat.le_refl _)
    unfold ParB at hg
    simp only [upF, if_neg h0]
    rw [ih (l.getD g Gr.zero).parent.toNat om f f' (fun i hi hl => hp i hi om) om om]
 exact key g f g hp h (Nat.le_refl _)
theorem qc2 : upG l 0 i = false := rfl
theorem qgw (hp : ∀ i, 0 < i → i ≤ g → ParB l i) (h0 : 0 < g) (hpp : (l.getD g Gr.zero).parent = (p : Int)) : upG l g i = (g == i || upG l p i) := by
 obtain ⟨k, rfl⟩ : ∃ k, g = k + 1 := ⟨g - 1, by omega⟩
 have hg := hp (k + 1) h0 (Nat.le_refl _)
 unfold ParB at hg
 show upF l i (k + 1) (k + 1) = _
 rw [upF, if_neg om, hpp, Int.toNat_natCast]
 congr 1
 exact qqj (fun i hi hl => hp i hi om) om
theorem qtm (hp : ∀ i, 0 < i → i ≤ g → ParB l i) (h : upG l g i = true) : 0 < i ∧ i ≤ g := by
 induction g using Nat.strongRecOn with
 | _ g ih =>
  rcases Nat.eq_zero_or_pos g with rfl | h0
  ·rw [qc2] at h; cases h
  ·have hg := hp g h0 (Nat.le_refl _)
   unfold ParB at hg
   obtain ⟨p, hpp⟩ : ∃ p : Nat, (l.getD g Gr.zero).parent = (p : Int) := ⟨_, (Int.toNat_of_nonneg hg.1).symm⟩
   rw [qgw hp h0 hpp, Bool.or_eq_true, beq_iff_eq] at h
   rcases h with rfl | h
   ·exact ⟨h0, Nat.le_refl _⟩
   ·have := ih p om (fun i hi hl => hp i hi om) h
    omega
def chT (b : Bool) (e : En) (d : Nat) : En := if b then e.add d else e
theorem qjb (hrow : ∀ h, h < s.sp.length → k < (s.sp.getD h []).length) (hg : g < s.sp.length) (hp : ∀ i, 0 < i → i ≤ g → ParB s.gs i) : ∀ i j, ((q7 k d g s).spot i j).v = (chT (upG s.gs g i && decide (j = k)) (s.spEn i j) d).v ∧ ((q7 k d g s).spot i j).r = (chT (upG s.gs g i && decide (j = k)) (s.spEn i j) d).r := by
 induction g using Nat.strongRecOn generalizing s with
 | _ g ih =>
  intro i j
  rcases Nat.eq_zero_or_pos g with rfl | h0
  ·rw [qhj, qc2]; exact ⟨rfl, rfl⟩
  ·have hpg := hp g h0 (Nat.le_refl _)
   unfold ParB at hpg
   obtain ⟨p, hpp⟩ : ∃ p : Nat, (s.gs.getD g Gr.zero).parent = (p : Int) := ⟨_, (Int.toNat_of_nonneg hpg.1).symm⟩
   rw [qdt hp h0 hpp, qgw hp h0 hpp]
   obtain ⟨s1, hs1⟩ : ∃ s1, s.qdi g k ((s.spEn g k).add d) = s1 := ⟨_, rfl⟩
   have hsp : ∀ i j, s1.spot i j = if i = g ∧ j = k then { s.spot g k with v := ((s.spEn g k).add d).v, r := ((s.spEn g k).add d).r } else s.spot i j := by
    intro i j
    rw [← hs1]
    exact qgc hg (hrow g hg) i j
   have hgs : s1.gs = s.gs := by rw [← hs1]; rfl
   have hln : s1.sp.length = s.sp.length := by rw [← hs1]; exact qiz
   have hrw : ∀ h, (s1.sp.getD h []).length = (s.sp.getD h []).length := by rw [← hs1]; exact fun h => qc0 h
   rw [hs1]
   have h1 := ih p om (s := s1) (fun h hh => by rw [hrw]; exact hrow h om) om (fun i hi hl => by rw [hgs]; exact hp i hi om) i j
   rw [hgs] at h1
   have hen : ∀ i j, s1.spEn i j = ⟨(s1.spot i j).v, (s1.spot i j).r, (s.gs.getD i Gr.zero).weight.toNat⟩ := fun i j => by unfold Sta.spEn; rw [hgs]
   rw [h1.1, h1.2, hen, hsp]
   by_cases e : i = g
   ·subst e
    have hno : upG s.gs p i = false := by
     cases hu : upG s.gs p i with
     | false => rfl
     | true => have := qtm (fun i hi hl => hp i hi om) hu; omega
    rw [hno]
    by_cases e2 : j = k
    ·subst e2; rw [if_pos ⟨rfl, rfl⟩]; simp [chT]
    ·rw [if_neg (fun h => e2 h.2)]; simp [chT, e2, Sta.spEn]
   ·rw [if_neg (fun h => e h.1)]
    have : (g == i) = false := by simp; omega
    rw [this, Bool.false_or]
    exact ⟨rfl, rfl⟩
def tickO (k d : Nat) : Op30 := ⟨5, (k : Int), 0, 0, 0, 0, (d : Int), 0⟩
structure TickIs (s s' : Sta) (k d : Nat) (u : Tk) (b : Bool) : Prop where
 at' : atT s.ts (s.cu.getD k 0) = (u, b)
 good : b = true → u ∈ s.ts
 tl : s'.ts.length = s.ts.length
 sl : s'.sp.length = s.sp.length
 row : ∀ g, (s'.sp.getD g []).length = (s.sp.getD g []).length
 tv : ∀ i, i < s.ts.length → ((s'.ts.getD i Tk.zero).v = (chT (decide ((s.ts.getD i Tk.zero).id = s.cu.getD k 0)) (s.ts.getD i Tk.zero).en d).v ∧ (s'.ts.getD i Tk.zero).r = (chT (decide ((s.ts.getD i Tk.zero).id = s.cu.getD k 0)) (s.ts.getD i Tk.zero).en d).r)
 sv : ∀ i j, ((s'.spot i j).v = (chT (upG s.gs (if b then u.group.toNat else 0) i && decide (j = k)) (s.spEn i j) d).v ∧ (s'.spot i j).r = (chT (upG s.gs (if b then u.group.toNat else 0) i && decide (j = k)) (s.spEn i j) d).r)
theorem ql1 (hG : GoodS s) (hk : (k : Int) < s.cpus) (hd : 1 ≤ d ∧ d ≤ 4294967295) (hcl : s.cl.getD k 0 + (d : Int) ≤ 281474976710656) : (doS s (tickO k d)).2.1 = s.cu.getD k 0 ∧ (doS s (tickO k d)).2.2 = 0 ∧ ∃ u b, TickIs s (doS s (tickO k d)).1 k d u b := by
 have hc : s.qbe (k : Int) = true := decide_eq_true ⟨by omega, hk⟩
 have hgl := (qn hG.sh.gs).1
 have hsl := hG.sh.sp
 by_cases h0 : s.cu.getD k 0 = 0
 ·have e : stepS s (tickO k d) = ({ s with cl := s.cl.set k (s.cl.getD k 0 + (d : Int)) }, 0, 0) := by
   show tickS s _ = _
   unfold tickS tickO
   dsimp only
   rw [if_neg (nf hc), if_neg om, Int.toNat_natCast, if_neg om, if_pos h0]
  rw [qch (by rw [e]), e]
  refine ⟨h0.symm, rfl, Tk.zero, false, ?_⟩
  have hnt : ∀ i, i < s.ts.length → (s.ts.getD i Tk.zero).id ≠ s.cu.getD k 0 := fun i hi => by
   have := (hG.sh.tasks _ (qj Tk.zero hi)).id
   omega
  refine ⟨qka hnt, (fun h => by cases h), rfl, z9, fun g => qc1 g, fun i hi => ?_, fun i j => ?_⟩
  ·rw [decide_eq_false (hnt i hi)]; exact ⟨rfl, rfl⟩
  ·show ((riseS _).spot i j).v = _ ∧ _
   rw [(qdf i j).1, (qdf i j).2]
   rw [if_neg de, qc2]
   exact ⟨rfl, rfl⟩
 ·rcases hG.cur k (by have := hG.sh.cu; omega) with h5 | ⟨t, htm, hid, hr, hcp⟩
  ·exact absurd h5 h0
  ·obtain ⟨q, hq, hqt⟩ := q6 Tk.zero htm
   have hf : fidx s.ts t.id = (q : Int) := by rw [← hqt]; exact qix hG.sh.sort hq
   have ht : s.ts[q]? = some t := by rw [← hqt]; exact getD_at Tk.zero hq
   have htg := (hG.sh.tasks t htm).group
   obtain ⟨s1, hs1⟩ : ∃ s1 : Sta, { s with cl := s.cl.set k (s.cl.getD k 0 + (d : Int)), ts := s.ts.set q (t.put (t.en.add d)) } = s1 := ⟨_, rfl⟩
   have e : stepS s (tickO k d) = (q7 k d t.group.toNat s1, t.id, 0) := by
    show tickS s _ = _
    unfold tickS tickO
    dsimp only
    rw [if_neg (nf hc), if_neg om, Int.toNat_natCast, if_neg om, if_neg h0, ← hid, qap hf ht, hf, Int.toNat_natCast, Int.toNat_natCast, ← hs1]
    rfl
   rw [qch (by rw [e]), e]
   refine ⟨hid, rfl, t, true, ?_⟩
   have h1 : s1.gs = s.gs := by rw [← hs1]
   have h2 : s1.sp = s.sp := by rw [← hs1]
   have h3 : ∀ i j, s1.spEn i j = s.spEn i j := fun i j => by rw [← hs1]; rfl
   have hch := qjb (s := s1) (k := k) (d := d) (g := t.group.toNat) (fun h hh => by rw [h2] at hh ⊢; have := hG.sh.rows h hh; omega) (by rw [h2]; omega) (by rw [h1]; exact zo hG.sh.gs om)
   have hbut := qar k d t.group.toNat t.group.toNat s1
   refine ⟨by rw [← hid]; exact qsj hG.sh.sort htm, fun _ => htm, ?_, ?_, fun g => ?_, fun i hi => ?_, fun i j => ?_⟩
   ·show (q7 k d t.group.toNat s1).ts.length = _
    unfold q7
    rw [hbut.ts, ← hs1]
    exact List.length_set ..
   ·rw [z9]
    unfold q7
    rw [hbut.len, h2]
   ·rw [qc1]
    unfold q7
    rw [hbut.row, h2]
   ·show ((q7 k d t.group.toNat s1).ts.getD i Tk.zero).v = _ ∧ ((q7 k d t.group.toNat s1).ts.getD i Tk.zero).r = _
    unfold q7
    rw [hbut.ts, ← hs1]
    dsimp only
    by_cases hqi : q = i
    ·subst hqi
     rw [qd _ _ hq, hqt, decide_eq_true hid]
     exact ⟨rfl, rfl⟩
    ·rw [getD_set_ne _ _ hqi, decide_eq_false]
     ·exact ⟨rfl, rfl⟩
     ·rw [← hid, ← hqt]
      intro h
      rcases Nat.lt_or_ge q i with h6 | h6
      ·have := hG.sh.sort q i h6 hi; omega
      ·have := hG.sh.sort i q om hq; omega
   ·show ((riseS _).spot i j).v = _ ∧ _
    rw [(qdf i j).1, (qdf i j).2, (hch i j).1, (hch i j).2, h1, h3, if_pos rfl]
    exact ⟨rfl, rfl⟩
theorem qh6 {l : List Sml} {most : Nat} : ∀ o ∈ qe l most, 1 ≤ o.ticks ∧ o.ticks ≤ 16777216 := fun o ho => by
 obtain ⟨x, hx, rfl⟩ := List.mem_map.1 ho
 show (1 : Int) ≤ ((1 + x.ticks % 16777216 : Nat) : Int) ∧ ((1 + x.ticks % 16777216 : Nat) : Int) ≤ 16777216
 omega
theorem qqk {o : Op30} {n : Nat} (h : ∀ c, c < s.cl.length → s.cl.getD c 0 ≤ (n : Int) * 16777216) (ho : o.ticks ≤ 16777216) : ∀ c, c < (doS s o).1.cl.length → (doS s o).1.cl.getD c 0 ≤ ((n + 1 : Nat) : Int) * 16777216 := fun c hc => by
 have hl := (qot (s := s) (o := o)).cl
 have h1 := h c om
 by_cases he : (doS s o).2.2 = 0
 ·rw [(do_cl he).cl c om]
  split <;> omega
 ·rw [qsh he]; omega
end
def bV (b : Bool) : Value := .bool b
theorem qsk : EI Try.prog 57 4 (.bool false) 1 1 := ⟨by kernel_rfl, by kernel_rfl, rfl, by omega⟩
theorem ql2 (n : Nat) : (madeCells #[.bool false] (n * 1)).toList = (List.replicate n false).map bV := by
 rw [Nat.mul_one, List.map_replicate]
 unfold madeCells
 simp only [bV, Array.toList_ofFn, List.size_toArray, List.length_cons, List.length_nil, Nat.mod_one, Array.getD_eq_getD_getElem?]
 rw [List.eq_replicate_iff]
 refine ⟨by simp, fun b hb => ?_⟩
 simp [Nat.mod_one] at hb
 exact hb.2.symm
def AbIs (l : List Gr) (G g : Nat) (bs : List Bool) : Prop := ∀ i, i < bs.length → (bs.getD i false || upG l g i) = upG l G i
section
variable {l : List Gr} {G g p n : Nat} {bs : List Bool}
theorem qov (n : Nat) : AbIs l G G (List.replicate n false) := fun i hi => by
 rw [List.length_replicate] at hi
 rw [List.getD_eq_getElem?_getD, List.getElem?_replicate, if_pos hi]
 rfl
theorem qsl (h : G = 0) (n : Nat) : ∀ i, i < (List.replicate n false).length → (List.replicate n false).getD i false = upG l G i := fun i hi => by
 subst h
 have := qov (l := l) (G := 0) n i hi
 rwa [qc2, Bool.or_false] at this
theorem qsm (h : AbIs l G g bs) (hp : ∀ i, 0 < i → i ≤ g → ParB l i) (h0 : 0 < g) (hpp : (l.getD g Gr.zero).parent = (p : Int)) : AbIs l G p (bs.set g true) := fun i hi => by
 rw [List.length_set] at hi
 have h1 := h i hi
 rw [qgw hp h0 hpp] at h1
 rw [← h1]
 by_cases e : g = i
 ·subst e
  rw [qd _ _ hi]
  simp
 ·rw [getD_set_ne _ _ e]
  have : (g == i) = false := by simp; omega
  rw [this, Bool.false_or]
theorem qsn (h : AbIs l G g bs) (h0 : g = 0) {i : Nat} (hi : i < bs.length) : bs.getD i false = upG l G i := by
 subst h0
 have := h i hi
 rwa [qc2, Bool.or_false] at this
end
section
variable {W w : World} {F T : List Fact} {x : Stm} {gm k d : Nat} {s : Sta} {got : Int}
theorem qso (hk : k < 64) (hd : d ≤ 4294967295) : (tickO k d).Ok := by
 have h0 : I64 0 := by unfold I64; decide
 exact ⟨by show 5 < 256; decide, by show I64 (k : Int); unfold I64; omega, h0, h0, h0, h0, by show I64 (d : Int); unfold I64; omega, by show 0 < _; decide⟩
theorem do_tk (n : Nat) (I : Mem W w F) (he : F.drop n = mdB gm x ++ T) (hs : x.sta = s) (hG : GoodS s) (ho : (tickO k d).Ok) (h1 : (doS s (tickO k d)).2.1 = got) (h2 : (doS s (tickO k d)).2.2 = 0) : Calls Try.prog 13 #[.pointer (some ⟨gm, 0, none⟩), .agg (tickO k d).cells] w (fun r w' => ∃ y : Stm, r = .returned (.tuple #[.int .i64 got, .int .i64 0]) ∧ y.sta = (doS s (tickO k d)).1 ∧ Mem W w' (mdB gm y ++ (F.take n ++ T))) :=
 (do_s n I he hs hG ho).mono fun r w' ⟨y, h3, h4, h5⟩ => ⟨y, by rw [h3, h1, h2]; rfl, h4, h5⟩
theorem chAdd {e : En} (he : e.Ok) (hd : d ≤ 4294967295) (w : World) : Calls Try.prog 16 #[.agg e.cells, .int .i64 (d : Int)] w (Is w (.tuple #[.agg (e.add d).cells, .int .i64 0])) := qjt e he d hd w
end
theorem qkj {w : World} {x : Stm} {y : Rw} {k : Nat} {A : Option Addr} (hy : x.rs.getD k Rw.zero = y) (hk : k < x.rs.length) (hx : StRd w x) (e : y.A = A) : Rd w w.heap.size 3 A y.l.length (y.l.flatMap spL) := by
 subst e
 rw [← hy]
 exact hx.row hk
theorem qow (n : Nums) : ∀ c, c < n.new.cl.length → n.new.cl.getD c 0 ≤ ((0 : Nat) : Int) * 16777216 := fun c hc => by
 show (List.replicate _ (0 : Int)).getD c 0 ≤ _
 rw [List.getD_eq_getElem?_getD, List.getElem?_replicate]
 split <;> decide
theorem qjc (n : Nums) (hn : n.Ok) (A : Option Addr) (c_ : Nat) (l : List Sml) (hl : ∀ x ∈ l, x.Ok) (hc : l.length ≤ c_) (hnl : l.length ≤ 9223372036854775807) (b : Nat) (hb : b < 256) (tk : Nat) (htk : tk < 4294967296) (w : World) (hr : Rd w w.heap.size 8 A l.length (l.flatMap sml)) :
    Calls Try.prog 4 #[.agg n.cells, .slice A l.length c_, vB b, vW tk] w (Is w (.bool true)) := by
 have hsl := qom l 80
 have hcp0 : 1 ≤ n.cp ∧ n.cp ≤ 4 := by unfold Nums.cp; omega
 obtain ⟨kk, hkk⟩ : ∃ z, b % n.cp = z := ⟨_, rfl⟩
 have hkc : kk < n.cp := by rw [← hkk]; exact Nat.mod_lt _ om
 refine (JN4 Try.func4 285) ?_
 refine (JP∘JE) fun w4 g4 => (Jp 1∘Jr∘Jy (v := .agg n.cells) (h:=by exact Yl.loadS rfl rfl qsc (qon hn) (fun _ h => qa (h.blk (i := 0) rfl)))∘JK (h:=by exact fun I => qlu n hn _)) fun A37 c37 w37 hc37 => (JA #[vI 0, vQ 0, vN]) fun w9 g9 => (JV qb6 O0') fun w1_3 => (Jd2∘Jr∘Jy (v := .agg #[vI n.cp, vQ n.credit, .slice A37 n.gs.length c37]) (h:=by exact Yl.loadS rfl rfl qb6 rfl (fun _ h => qa (h.blk (i := 0) rfl)))∘JL (h:=by exact fun I => qoi (Nums.cfg hn) (I.rd (i := 1) rfl))) ?_
 rintro I _ w40 ⟨gm, x, rfl, hx, hm⟩
 refine ⟨_, rfl, _, (show Mem w w40 (.blk g9 #[vI n.cp, vQ n.credit, .slice A37 n.gs.length c37] 36 :: .row (.slice A37 n.gs.length c37) n.gs.length (n.gs.flatMap grL) 59 2 :: .blk g4 n.cells 27 :: (mdB gm x ++ ([]))) from I.joinF 3 hm rfl), ?_⟩
 refine (Jp 1∘Jx∘Jx∘Jp 2∘Jj∘JQ∘JP∘Jv 4 [(46, vP gm 0), (45, .bool false)]∘Jy (v := .bool false) (h:=by exact Yl.qkk rfl rfl rfl)∘Jp 1∘Jd4∘Jj∘JF∘JS'∘JQ∘JP∘Jp 1∘JK (h:=by exact fun I => qlv A c_ l 80 _ hl (I.old hr) hc hnl de)) fun A50 c50 w50 hc50 => (Jl∘Jp 1∘Jj∘JB) fun a Z I => ?_
 refine qo (fun mS aS wS => ∃ (k : Nat) (x : Stm) (s : Sta), (k ≤ (qe l 80).length) ∧ (x.sta = s) ∧ (GoodS s) ∧ (s.cpus = (n.cp : Int)) ∧ (∀ c, c < s.cl.length → s.cl.getD c 0 ≤ (k : Int) * 16777216) ∧ mS = (qe l 80).length - k ∧ Fr aS 285 [] [(52, vI k), (51, vI ((qe l 80).length : Nat)), (50, .slice A50 ((qe l 80).length) c50), (48, .bool false), (10, vP gm 0), (9, vP g9 0), (8, .bool false), (2, vB b), (3, vW tk)] ∧ Mem w wS (.row (.slice A50 ((qe l 80).length) c50) ((qe l 80).length) ((qe l 80).flatMap opL) 48 8 :: .blk g9 #[vI n.cp, vQ n.credit, .slice A37 n.gs.length c37] 36 :: (mdB gm x ++ ([])))) (m := (qe l 80).length - 0) ⟨0, x, n.new, Nat.zero_le _, hx, (Nums.good hn).1, rfl, qow n, rfl, Z.sub kr, I.pt 4 [0, 1]⟩ ?_
 clear Z I; rintro mS a w_ ⟨k, x, s, hk, hx, hG, hcp, hclk, rfl, Z, I⟩
 refine Jb Z I ((JP∘Jp 1∘Jj∘JQ) (Ju (fun hb53 => ?_) fun hb53 => ?_))
 ·
  intro a Z I
  have hd53 := of_decide_eq_true hb53
  have hkl : k < (qe l 80).length := by omega
  obtain ⟨o, ho⟩ : ∃ z, (qe l 80).getD k Op30.zero = z := ⟨_, rfl⟩
  have hoo : o.Ok := by rw [← ho]; exact qod hl _ (qj Op30.zero hkl)
  have hot : o.ticks ≤ 16777216 := by rw [← ho]; exact (qh6 _ (qj Op30.zero hkl)).2
  have hG' := qgr hoo hG
  have hcp2 := (qot (s := s) (o := o)).cpus
  refine Jb Z I ((JT∘JS'∘JQ∘JB∘JP) ?_)
  repeat (first | clear Z | clear I)
  intro a Z I
  obtain ⟨gA50, rfl⟩ := qk (I.own (i := 0) rfl) (Nat.lt_of_le_of_lt (Nat.zero_le _) (show k < (qe l 80).length from by omega))
  refine Jb Z I ((Jy (h:=by exact Yl.ix0 gA50 k 8 rfl rfl rfl)∘Jy (v := .agg (((qe l 80).getD k Op30.zero).cells)) (h:=by exact Yl.loadS rfl rfl si_op rfl (fun _ h => h.qc4 qsa (i := 0) rfl ((getD_at Op30.zero hkl))))∘Jo (.agg o.cells) (by rw [ho])∘JA #[vB 0, vI 0, vI 0, vI 0, vI 0, vI 0, vI 0, vQ 0]) fun w13 g13 => (JV si_op O0' (h1:=by exact qqu o)) fun w7_3 => (Jd2∘Jj∘JR∘Jp 1∘Jy (v := .agg o.cells) (h:=by exact Yl.loadS rfl rfl si_op rfl (fun _ h => qa (h.blk (i := 0) rfl)))∘JL (h:=by exact fun I => do_s 3 I rfl hx hG hoo)) ?_)
  rintro I _ w58 ⟨y, rfl, hy, HM2⟩
  refine ⟨_, rfl, _, (show Mem w w58 (.blk g13 o.cells 48 :: .row (vS gA50 ((qe l 80).length) c50) ((qe l 80).length) ((qe l 80).flatMap opL) 48 8 :: .blk g9 #[vI n.cp, vQ n.credit, .slice A37 n.gs.length c37] 36 :: (mdB gm y ++ ([]))) from HM2.back), ?_⟩
  refine (Jt3∘Jj∘JR∘JaK 1∘Jp 1∘Jd1∘Jq) fun a Z I => ?_
  exact ⟨_, om, k + 1, y, (doS s o).1, by omega, hy, hG', hcp2.trans hcp, qqk hclk hot, rfl, Z.sub kr, I.pt 3 [1, 2]⟩
 intro a Z I
 have hd53 := of_decide_eq_false hb53
 refine Jb Z I ((JF∘JX∘JG∘JP∘Jp 1∘JL (h:=by exact fun I => qol 2 I rfl hx hG)) ?_)
 rintro I _ w62 ⟨p, rfl, hp, hcapp, hm⟩
 refine ⟨_, rfl, _, (show Mem w w62 (.row (.slice A50 ((qe l 80).length) c50) ((qe l 80).length) ((qe l 80).flatMap opL) 48 8 :: .blk g9 #[vI n.cp, vQ n.credit, .slice A37 n.gs.length c37] 36 :: (stF p ++ (mdB gm x ++ ([])))) from I.joinF (T := (mdB gm x ++ ([]))) 2 hm rfl), ?_⟩
 refine (Jp 1∘Jx∘Jx∘JA #[vI 0, vQ 0, vN, vN, vN, vN, vN]) fun w14 g14 => (JV si_st O0' (h1:=by exact qii p)) fun w10_6 => (Jp 1∘Jt1∘Jr∘Jp 1∘Jw .i64∘Jg 0 O2∘Jy (v := vI (b % n.cp : Nat)) (h:=by exact Yl.remN (m := b) (n := n.cp) rfl rfl rfl om)∘Jo (vI kk) (by rw [hkk])∘Jp 2∘Jo (vW (tk % 4294967294 : Nat)) (by exact zh .u32 _ 4294967294)∘Jw .i64∘Jp 1∘Jo (vI (1 + (tk % 4294967294) : Nat)) (by exact qau om om)∘Jp 2∘Jq) fun a Z I => ?_
 obtain ⟨dd, hdd⟩ : ∃ z, 1 + tk % 4294967294 = z := ⟨_, rfl⟩
 have hd0 : dd ≤ 4294967295 := by omega
 have hd1 : 1 ≤ dd := by omega
 replace Z := Z.sp 17 (vI dd) rfl (by rw [← hdd])
 have hcl2 := hG.sh.cl
 have hclk2 := hclk kk om
 have hcu2 := hG.sh.cu
 obtain ⟨htg, hte, u, ub, hti⟩ := ql1 (k := kk) (d := dd) hG om ⟨hd1, hd0⟩ om
 obtain ⟨got, hgot⟩ : ∃ z, s.cu.getD kk 0 = z := ⟨_, rfl⟩
 rw [hgot] at htg
 have hat : atT s.ts got = (u, ub) := by rw [← hgot]; exact hti.at'
 have hto1 : (tickO kk dd).Ok := qso om hd0
 have hG2 := qgr hto1 hG
 refine Jb Z I ((JG∘JP∘Jp 3∘Jy (v := .agg #[vB 5, vI kk, vI 0, vI 0, vI 0, vI 0, vI dd, vQ 0]) (h:=by exact Yl.build (vs := [(0, vB 5), (1, vI kk), (6, vI dd)]) rfl kr kr)∘Jo (.agg ((tickO kk dd).cells)) (by exact rfl)∘JL (h:=by exact fun I => do_tk 3 (show Mem w w10_6 (.blk g14 p.cells 42 :: .row (.slice A50 ((qe l 80).length) c50) ((qe l 80).length) ((qe l 80).flatMap opL) 48 8 :: .blk g9 #[vI n.cp, vQ n.credit, .slice A37 n.gs.length c37] 36 :: (mdB gm x ++ (stF p ++ ([])))) from Mem.swapT (A := stF p) (B := mdB gm x) 3 I rfl) rfl hx hG hto1 htg hte)) ?_)
 rintro I _ w79 ⟨y, rfl, hy, HM2⟩
 refine ⟨_, rfl, _, (show Mem w w79 (.blk g14 p.cells 42 :: .row (.slice A50 ((qe l 80).length) c50) ((qe l 80).length) ((qe l 80).flatMap opL) 48 8 :: .blk g9 #[vI n.cp, vQ n.credit, .slice A37 n.gs.length c37] 36 :: (stF p ++ (mdB gm y ++ ([])))) from Mem.swapT (A := mdB gm y) (B := stF p) 3 (show Mem w w79 (.blk g14 p.cells 42 :: .row (.slice A50 ((qe l 80).length) c50) ((qe l 80).length) ((qe l 80).flatMap opL) 48 8 :: .blk g9 #[vI n.cp, vQ n.credit, .slice A37 n.gs.length c37] 36 :: (mdB gm y ++ (stF p ++ ([])))) from HM2.back) rfl), ?_⟩
 refine (Jp 1∘Jx∘Jx∘Jp 2∘Jr∘Jp 1∘JL (h:=by exact fun I => qol 3 (show Mem w w79 (.blk g14 p.cells 42 :: .row (.slice A50 ((qe l 80).length) c50) ((qe l 80).length) ((qe l 80).flatMap opL) 48 8 :: .blk g9 #[vI n.cp, vQ n.credit, .slice A37 n.gs.length c37] 36 :: (mdB gm y ++ ([]))) from Mem.dropT (A := stF p) 3 I rfl) rfl hy hG2)) ?_
 rintro I _ w84 ⟨q, rfl, hq, hcapq, hm⟩
 refine ⟨_, rfl, _, (show Mem w w84 (.blk g14 p.cells 42 :: .row (.slice A50 ((qe l 80).length) c50) ((qe l 80).length) ((qe l 80).flatMap opL) 48 8 :: .blk g9 #[vI n.cp, vQ n.credit, .slice A37 n.gs.length c37] 36 :: (stF q ++ (stF p ++ (mdB gm y ++ ([]))))) from I.joinF (T := (stF p ++ (mdB gm y ++ ([])))) 3 hm rfl), ?_⟩
 refine (Jp 1∘Jx∘Jx∘JA #[vI 0, vQ 0, vN, vN, vN, vN, vN]) fun w20 g20 => (JV si_st O0' (h1:=by exact qii q)) fun w13_6 => (Jp 1∘Jq) fun a Z I => ?_
 have hfp := few_s hp hG
 have hfpl := hfp.l; have hfpu := hfp.u; have hfpt := hfp.t; have hfps := hfp.s; have hfpg := hfp.g
 have hfq := few_s hq hG2
 have hlt : q.ts.length = p.ts.length := by rw [qe5 hp, qe5 hq]; exact hti.tl
 have hls : q.rs.length = p.rs.length := by rw [qkh hp, qkh hq]; exact hti.sl
 have hlu : p.cu.length = n.cp := by rw [qq2 hp]; omega
 have hgl : p.rs.length = p.gs.length := by rw [qkh hp, qh5 hp]; exact hG.sh.sp
 have hsl3 : s.sp.length = p.rs.length := (qkh hp).symm
 obtain ⟨gpu, opu, hgpu, _⟩ := ((I.st2 4 rfl).u).qr (show 0 < p.cu.length by omega) de
 obtain ⟨G, hGu⟩ : ∃ z, (if ub then u.group.toNat else 0) = z := ⟨_, rfl⟩
 have hsv := hti.sv
 rw [hGu] at hsv
 refine Jb Z I ((JG∘JQ∘JP∘Jv 5 [(91, .bool false)]∘Jg 4 O1∘Jl∘Jp 2∘Jo (.bool false) (by simp; omega)∘Jp 3∘Jf 4∘Jc O1∘Jo (.slice (some ⟨gpu, opu, none⟩) p.cu.length p.uc) (by rw [hgpu])∘Jp 1∘Jy (h:=by exact Yl.ix gpu opu kk 1 rfl rfl rfl)∘Jy (v := vI (p.cu.getD kk 0)) (h:=by exact Yl.ql rfl rfl kr (fun _ h => ((Mem.st2 4 h rfl).u.to hgpu).qfz (k := kk) (qa3 (F := I64i) (k := kk) (x := (p.cu.getD kk 0)) ((getD_at 0 om)))))∘Jo (vI got) (by rw [qq2 hp, hgot])∘Jp 1∘Jo (.bool false) (by simp)∘Jp 2∘Jg 5 O0∘Jl∘Jo (vI p.ts.length) (by rw [hlt])∘Jg 5 O1∘Jl∘Jp 1∘Jo (.bool false) (by simp)∘Jp 2∘Jg 6 O0∘Jl∘Jo (vI p.rs.length) (by rw [hls])∘Jg 6 O1∘Jl∘Jp 1∘Jo (.bool false) (by simp)∘Jp 1∘Jd6∘Jq) fun a Z I => ?_)
 replace Z := Z.to [(124, .bool false), (20, vP g20 0), (18, vI got), (17, vI dd), (16, vI kk), (14, vP g14 0), (53, .bool false), (52, vI k), (51, vI ((qe l 80).length : Nat)), (50, .slice A50 ((qe l 80).length) c50), (48, .bool false), (10, vP gm 0), (9, vP g9 0), (8, .bool false)]
 refine Jb Z I ((JG∘JF∘JS'∘JP∘Jg 6 O1∘Jl) fun a Z I => ?_)
 refine fo Z 3 rfl rfl ?_
 refine qal Z I (m := p.rs.length) rfl qsk rfl rfl om om rfl de ?_
 clear Z I; intro a w128 g128 Z I
 refine Jb Z I ((Jp 1∘Jd3∘Jq) fun a Z I => ?_)
 replace I := I.asRow (i := 0) (ys := (List.replicate p.rs.length false).map bV) rfl (ql2 _)
 refine Jb Z I ((JG∘JQ∘JP∘Jy (v := .agg p.cells) (h:=by exact Yl.loadS rfl rfl si_st rfl (fun _ h => qa (h.blk (i := 2) rfl)))∘Jp 1∘JI (h:=by exact fun I => at_is (u := u) (b := ub) (by rw [qe5 hp]; exact hat) (I.st2 5 rfl).t hfp.t)) fun w132 hbw => (Jp 1∘Jx∘Jx∘JA #[vI 0, vI 0, vI 0, vI 0, vQ 0, .bool false, vQ 0, vW 0]) fun w23 g23 => (JV si_tk O0' (h1:=by exact qdq u)) fun w17_7 => (Jp 1∘Jr∘Jp 1∘Jd1∘Jj) fun a Z I => ?_)
 refine qja (fun aS wS => ∃ (bs : List Bool), (bs.length = p.rs.length) ∧ (∀ i, i < bs.length → bs.getD i false = upG s.gs G i) ∧ Fr aS 285 [] [(23, vP g23 0), (22, vS g128 p.rs.length p.rs.length), (124, .bool false), (20, vP g20 0), (18, vI got), (17, vI dd), (16, vI kk), (14, vP g14 0), (53, .bool false), (52, vI k), (51, vI ((qe l 80).length : Nat)), (50, .slice A50 ((qe l 80).length) c50), (48, .bool false), (10, vP gm 0), (9, vP g9 0), (8, .bool false)] ∧ Mem w wS (.blk g23 u.cells 52 :: .row (vS g128 p.rs.length p.rs.length) p.rs.length (bs.map bV) 4 1 :: .blk g20 q.cells 42 :: .blk g14 p.cells 42 :: .row (.slice A50 ((qe l 80).length) c50) ((qe l 80).length) ((qe l 80).flatMap opL) 48 8 :: .blk g9 #[vI n.cp, vQ n.credit, .slice A37 n.gs.length c37] 36 :: (stF q ++ (stF p ++ (mdB gm y ++ ([])))))) ?_ ?_
 ·
  refine Jb Z I (Ju (fun hb135 => ?_) fun hb135 => ?_)
  ·
   intro a Z I
   have hum := hti.good hb135
   rw [hb135, if_pos rfl] at hGu
   have hug := (hG.sh.tasks u hum).group
   refine Jb Z I ((JT∘JP∘Jf 1∘Jc O0∘Jo (vI G) (by rw [← hGu, Int.toNat_of_nonneg hug.1])∘Jp 1∘Jd2∘Jj∘JB) fun a Z I => ?_)
   refine qo (fun mS aS wS => ∃ (g : Nat) (bs : List Bool), (g < p.rs.length) ∧ (bs.length = p.rs.length) ∧ (AbIs s.gs G g bs) ∧ mS = 0 + g ∧ Fr aS 285 [] [(25, vI g), (135, .bool true), (23, vP g23 0), (22, vS g128 p.rs.length p.rs.length), (124, .bool false), (20, vP g20 0), (18, vI got), (17, vI dd), (16, vI kk), (14, vP g14 0), (53, .bool false), (52, vI k), (51, vI ((qe l 80).length : Nat)), (50, .slice A50 ((qe l 80).length) c50), (48, .bool false), (10, vP gm 0), (9, vP g9 0), (8, .bool false)] ∧ Mem w wS (.blk g23 u.cells 52 :: .row (vS g128 p.rs.length p.rs.length) p.rs.length (bs.map bV) 4 1 :: .blk g20 q.cells 42 :: .blk g14 p.cells 42 :: .row (.slice A50 ((qe l 80).length) c50) ((qe l 80).length) ((qe l 80).flatMap opL) 48 8 :: .blk g9 #[vI n.cp, vQ n.credit, .slice A37 n.gs.length c37] 36 :: (stF q ++ (stF p ++ (mdB gm y ++ ([])))))) (m := 0 + G) ⟨G, (List.replicate p.rs.length false), by omega, List.length_replicate .., qov _, rfl, Z.sub kr, I.pt 6 [0, 1, 2, 3, 4, 5]⟩ ?_
   clear Z I; rintro mS a w_ ⟨g, bs, hgl1, hbl, hab, rfl, Z, I⟩
   refine Jb Z I ((JQ∘JP∘Jp 3) (Ju (fun hb140 => ?_) fun hb140 => ?_))
   ·
    intro a Z I
    have hd140 := of_decide_eq_true hb140
    have hpp := zo hG.sh.gs (g := g) (by rw [← hG.sh.sp]; omega)
    have hpg := hpp g om (Nat.le_refl _)
    unfold ParB at hpg
    obtain ⟨pp, hpar⟩ : ∃ pp : Nat, (s.gs.getD g Gr.zero).parent = (pp : Int) := ⟨_, (Int.toNat_of_nonneg hpg.1).symm⟩
    have hgl3 : g < p.gs.length := by omega
    obtain ⟨gpg, opg, hgpg, _⟩ := ((I.st2 6 rfl).g).qr (show 0 < p.gs.length by omega) de
    refine Jb Z I ((Jp 1∘Jf 0∘Jg 2 O3∘Jl∘Jp 1∘Jo (.bool true) (by simp; omega)∘Jp 1∘Jd6∘Jj∘JT∘JS'∘JQ∘JB∘JR∘Jp 2∘Jy (h:=by exact Yl.ix0 g128 g 1 rfl rfl rfl)) fun a Z I => ?_)
    refine fo Z 3 rfl rfl ?_
    refine qu Z I (i := 1) rfl rfl rfl rfl kr rfl rfl (by rw [List.length_map]; omega) ?_
    clear I; intro w22_3 I
    replace I := I.asRow (i := 1) (ys := (bs.set g true).map bV) rfl (qbm bV bs g true om)
    refine Jb Z I ((Jt3∘Jj∘JR∘Jf 0∘Jf 2∘Jc O3∘Jo (.slice (some ⟨gpg, opg, none⟩) p.gs.length p.gc) (by rw [hgpg])∘Jp 1∘Jy (h:=by exact Yl.ix gpg opg g 2 rfl rfl rfl)∘Jf 0∘Jy (v := vI ((p.gs.getD g Gr.zero).parent)) (h:=by exact Yl.ql rfl rfl kr (fun _ h => (by have := ((Mem.st2 6 h rfl).g.to hgpg).partAt zk (k := g) (j := 0) (x := (p.gs.getD g Gr.zero)) ((getD_at Gr.zero hgl3)) rfl; simpa using this)))∘Jo (vI pp) (by rw [qh5 hp]; exact congrArg (Value.int .i64) hpar)∘Jp 1∘Jd6∘Jq) fun a Z I => ?_)
    exact ⟨_, om, pp, (bs.set g true), by omega, by rw [List.length_set]; exact hbl, qsm hab hpp om hpar, rfl, Z.sub kr, I.pt 6 [0, 1, 2, 3, 4, 5]⟩
   intro a Z I
   have hd140 := of_decide_eq_false hb140
   refine Jb Z I ((Jp 7∘Jd6∘Jj∘JF∘JX) fun a Z I => ?_)
   exact ⟨_, hbl, fun i hi => qsn hab om hi, Z.sub kr, I.pt 6 [0, 1, 2, 3, 4, 5]⟩
  intro a Z I
  rw [hb135, if_neg de] at hGu
  have hG0 : G = 0 := hGu.symm
  refine Jb Z I ((JF∘JS) fun a Z I => ?_)
  exact ⟨_, List.length_replicate .., qsl hG0 _, Z.sub kr, I.pt 6 [0, 1, 2, 3, 4, 5]⟩
 clear Z I; rintro a w_ ⟨bs, hbl, hbs, Z, I⟩
 refine Jb Z I ((JG∘JQ∘JP∘Jg 5 O3∘Jl∘Jp 1∘Jj∘JB) fun a Z I => ?_)
 refine qo (fun mS aS wS => ∃ (i : Nat), (i ≤ p.ts.length) ∧ mS = p.ts.length - i ∧ Fr aS 285 [] [(161, vI i), (160, vI p.ts.length), (159, .slice p.tA p.ts.length p.tc), (23, vP g23 0), (22, vS g128 p.rs.length p.rs.length), (124, .bool false), (20, vP g20 0), (18, vI got), (17, vI dd), (16, vI kk), (14, vP g14 0), (53, .bool false), (52, vI k), (51, vI ((qe l 80).length : Nat)), (50, .slice A50 ((qe l 80).length) c50), (48, .bool false), (10, vP gm 0), (9, vP g9 0), (8, .bool false)] ∧ Mem w wS (.row (vS g128 p.rs.length p.rs.length) p.rs.length (bs.map bV) 4 1 :: .blk g20 q.cells 42 :: .blk g14 p.cells 42 :: (stF q ++ (stF p ++ (mdB gm y ++ ([])))))) (m := p.ts.length - 0) ⟨0, Nat.zero_le _, rfl, Z.sub kr, I.pt 6 [1, 2, 3]⟩ ?_
 clear Z I; rintro mS a w_ ⟨i, hzi, rfl, Z, I⟩
 refine Jb Z I ((JP∘Jp 1∘Jj∘JQ) (Ju (fun hb162 => ?_) fun hb162 => ?_))
 ·
  intro a Z I
  have hd162 := of_decide_eq_true hb162
  have hi1 : i < p.ts.length := by omega
  obtain ⟨gpt, opt, hgpt, _⟩ := ((I.st2 3 rfl).t).qr (show 0 < p.ts.length by omega) de
  obtain ⟨gqt, oqt, hgqt, _⟩ := ((I.st1 3 rfl).t).qr (show 0 < q.ts.length by omega) de
  obtain ⟨t, ht⟩ : ∃ z, p.ts.getD i Tk.zero = z := ⟨_, rfl⟩
  obtain ⟨t2, ht2⟩ : ∃ z, q.ts.getD i Tk.zero = z := ⟨_, rfl⟩
  have hum : t ∈ s.ts := by rw [← ht, ← qe5 hp]; exact qj Tk.zero hi1
  have htkv := hti.tv i (by rw [← qe5 hp]; exact hi1)
  rw [hgot, ← qe5 hp, ht, ← qe5 hq, ht2] at htkv
  have htw := (hG.sh.tasks t hum).weight
  have hten := (qd3 (hG.sh.tasks t hum) (hG.sh.ok.ts t hum)).1
  replace Z := Z.sp 159 (.slice (some ⟨gpt, opt, none⟩) p.ts.length p.tc) rfl (by rw [hgpt])
  refine Jb Z I ((JT∘JS'∘JQ∘JB∘JP∘Jp 1∘Jy (h:=by exact Yl.ix gpt opt i 8 rfl rfl rfl)∘Jy (v := .agg ((p.ts.getD i Tk.zero).cells)) (h:=by exact Yl.loadS rfl rfl si_tk rfl (fun _ h => ((Mem.st2 3 h rfl).t.to hgpt).q9 qg ((getD_at Tk.zero hi1))))∘Jo (.agg t.cells) (by rw [ht])∘JA #[vI 0, vI 0, vI 0, vI 0, vQ 0, .bool false, vQ 0, vW 0]) fun w27 g27 => (Jp 1∘JV si_tk O0' (h1:=by exact qdq t)) fun w25_5 => (Jr∘Jg 6 O0∘Jg 7 O0∘Jg 2 O0∘Jv 1 [(172, vW (IntKind.u32.wrap t.weight))]∘Jo (vW t.weight.toNat) (by exact qdc om om)∘Jy (v := .agg #[vQ t.v, vW t.r, vW t.weight.toNat]) (h:=by exact Yl.build (vs := [(0, vQ t.v), (1, vW t.r), (2, vW t.weight.toNat)]) rfl kr kr)∘Jo (.agg t.en.cells) (by exact rfl)∘JA #[vQ 0, vW 0, vW 0]) fun w28 g28 => (JV qi O0' (h1:=by exact qw t.en)) fun w26_9 => (Jd5∘Jj∘JQ∘JP∘Jg 0 O1∘Jp 2∘Jd2∘Jj) fun a Z I => ?_)
  refine qja (fun aS wS => ∃ (z : En), (z = chT (decide (t.id = got)) t.en dd) ∧ Fr aS 285 [] [(28, vP g28 0), (26, vI i), (27, vP g27 0), (159, .slice (some ⟨gpt, opt, none⟩) p.ts.length p.tc), (162, .bool true), (161, vI i), (160, vI p.ts.length), (23, vP g23 0), (22, vS g128 p.rs.length p.rs.length), (124, .bool false), (20, vP g20 0), (18, vI got), (17, vI dd), (16, vI kk), (14, vP g14 0), (53, .bool false), (52, vI k), (51, vI ((qe l 80).length : Nat)), (50, .slice A50 ((qe l 80).length) c50), (48, .bool false), (10, vP gm 0), (9, vP g9 0), (8, .bool false)] ∧ Mem w wS (.blk g28 z.cells 61 :: .blk g27 t.cells 52 :: .row (vS g128 p.rs.length p.rs.length) p.rs.length (bs.map bV) 4 1 :: .blk g20 q.cells 42 :: .blk g14 p.cells 42 :: (stF q ++ (stF p ++ (mdB gm y ++ ([])))))) ?_ ?_
  ·
   refine Jb Z I (Je (fun hd177 => ?_) fun hd177 => ?_)
   ·
    refine (JT∘JR∘Jy (v := .agg t.en.cells) (h:=by exact Yl.loadS rfl rfl qi rfl (fun _ h => qa (h.blk (i := 0) rfl)))∘Jp 1∘JI (h:=by exact fun I => chAdd hten hd0 _)) fun w181 hbw => (Jp 1∘Jx∘Jx∘JV qi O0' (h1:=by exact qw (t.en.add dd))) fun w28_6 => (Jt6∘Jq) fun a Z I => ?_
    exact ⟨_, by rw [decide_eq_true hd177], Z.sub kr, I.pt 5 [0, 1, 2, 3, 4]⟩
   refine (JF∘JS) fun a Z I => ?_
   exact ⟨_, by rw [decide_eq_false hd177], Z.sub kr, I.pt 5 [0, 1, 2, 3, 4]⟩
  clear Z I; rintro a w_ ⟨z, hz, Z, I⟩
  refine Jb Z I ((JG∘JP∘Jf 5∘Jc O3∘Jo (.slice (some ⟨gqt, oqt, none⟩) q.ts.length q.tc) (by rw [hgqt])∘Jp 1∘Jy (h:=by exact Yl.ix gqt oqt i 8 rfl rfl rfl)∘Jy (v := .agg ((q.ts.getD i Tk.zero).cells)) (h:=by exact Yl.loadS rfl rfl si_tk rfl (fun _ h => ((Mem.st1 5 h rfl).t.to hgqt).q9 qg ((getD_at Tk.zero om))))∘Jo (.agg t2.cells) (by rw [ht2])∘JA #[vI 0, vI 0, vI 0, vI 0, vQ 0, .bool false, vQ 0, vW 0]) fun w29 g29 => (JV si_tk O0' (h1:=by exact qdq t2)) fun w29_6 => (Jd5∘Jr∘Jg 6 O0∘Jg 0 O1∘Jp 1∘Jo (.bool false) (by rw [htkv.1, ← hz]; simp)∘Jp 1∘Jg 7 O0∘Jg 1 O1∘Jp 1∘Jo (.bool false) (by rw [htkv.2, ← hz]; simp)∘Jp 1∘Jd6∘Jj∘JF∘JS'∘JR∘JaK 1∘Jp 1∘Jd1∘Jq) fun a Z I => ?_)
  replace Z := Z.sp 159 (.slice p.tA p.ts.length p.tc) rfl (by rw [hgpt])
  exact ⟨_, om, i + 1, by omega, rfl, Z.sub kr, I.pt 6 [3, 4, 5]⟩
 intro a Z I
 have hd162 := of_decide_eq_false hb162
 refine Jb Z I ((JF∘JX∘JG∘JQ∘JP∘Jg 6 O2∘Jl∘Jp 1∘Jj∘JB) fun a Z I => ?_)
 refine qo (fun mS aS wS => ∃ (e : Nat), (e ≤ p.rs.length) ∧ mS = p.rs.length - e ∧ Fr aS 285 [] [(205, vI e), (204, vI p.rs.length), (203, .slice p.sA p.rs.length p.sc), (162, .bool false), (161, vI i), (160, vI p.ts.length), (159, .slice p.tA p.ts.length p.tc), (23, vP g23 0), (22, vS g128 p.rs.length p.rs.length), (124, .bool false), (20, vP g20 0), (18, vI got), (17, vI dd), (16, vI kk), (14, vP g14 0), (53, .bool false), (52, vI k), (51, vI ((qe l 80).length : Nat)), (50, .slice A50 ((qe l 80).length) c50), (48, .bool false), (10, vP gm 0), (9, vP g9 0), (8, .bool false)] ∧ Mem w wS (.row (vS g128 p.rs.length p.rs.length) p.rs.length (bs.map bV) 4 1 :: .blk g20 q.cells 42 :: .blk g14 p.cells 42 :: (stF q ++ (stF p ++ (mdB gm y ++ ([])))))) (m := p.rs.length - 0) ⟨0, Nat.zero_le _, rfl, Z.sub kr, I.pt 3 [0, 1, 2]⟩ ?_
 clear Z I; rintro mS a w_ ⟨e, hze, rfl, Z, I⟩
 refine Jb Z I ((JP∘Jp 1∘Jj∘JQ) (Ju (fun hb206 => ?_) fun hb206 => ?_))
 ·
  intro a Z I
  have hd206 := of_decide_eq_true hb206
  have hi2 : e < p.rs.length := by omega
  have hi3 : e < q.rs.length := by omega
  have heg : e < p.gs.length := by omega
  obtain ⟨gps, ops, hgps, _⟩ := ((I.st2 3 rfl).s).qr (show 0 < p.rs.length by omega) de
  obtain ⟨gqs, oqs, hgqs, _⟩ := ((I.st1 3 rfl).s).qr (show 0 < q.rs.length by omega) de
  obtain ⟨gpg, opg, hgpg, _⟩ := ((I.st2 3 rfl).g).qr (show 0 < p.gs.length by omega) de
  obtain ⟨v, hv⟩ : ∃ z, p.rs.getD e Rw.zero = z := ⟨_, rfl⟩
  obtain ⟨v2, hv2⟩ : ∃ z, q.rs.getD e Rw.zero = z := ⟨_, rfl⟩
  have hvl : (v.l.length : Int) = (n.cp : Int) := by rw [← hv, qgu hp hi2, ← hcp]; exact hG.sh.rows e om
  have hvl2 : v2.l.length = v.l.length := by rw [← hv, ← hv2, qgu hp hi2, qgu hq hi3]; exact hti.row e
  obtain ⟨gr, hgr⟩ : ∃ z, p.gs.getD e Gr.zero = z := ⟨_, rfl⟩
  have hgrw := qhr hG.sh (g := e) (by rw [← qh5 hp]; exact heg)
  rw [← qh5 hp, hgr] at hgrw
  obtain ⟨gw, hgw, hgw1, hgw2⟩ := hgrw
  obtain ⟨gpr, opr, hgpr, _⟩ := ((qkj hv hi2 (I.st2 3 rfl) rfl)).qr (show 0 < v.l.length by omega) de
  obtain ⟨gqr, oqr, hgqr, _⟩ := ((qkj hv2 hi3 (I.st1 3 rfl) rfl)).qr (show 0 < v2.l.length by omega) de
  replace Z := Z.sp 203 (.slice (some ⟨gps, ops, none⟩) p.rs.length p.sc) rfl (by rw [hgps])
  refine Jb Z I ((JT∘JS'∘JQ∘JB∘JP∘Jp 1∘Jy (h:=by exact Yl.ix gps ops e 1 rfl rfl rfl)∘Jy (v := .slice ((p.rs.getD e Rw.zero).A) ((p.rs.getD e Rw.zero).l.length) ((p.rs.getD e Rw.zero).c)) (h:=by exact Yl.ql rfl rfl kr (fun _ h => ((Mem.st2 3 h rfl).s.to hgps).qfz (k := e) (qa3 (F := Rw.val) (k := e) (x := (p.rs.getD e Rw.zero)) ((getD_at Rw.zero hi2)))))∘Jo (.slice (some ⟨gpr, opr, none⟩) v.l.length v.c) (by rw [hv, hgpr])∘Jp 2∘Jj∘JQ∘JP∘Jf 6∘Jc O1∘Jo (.slice (some ⟨gqs, oqs, none⟩) q.rs.length q.sc) (by rw [hgqs])∘Jp 1∘Jy (h:=by exact Yl.ix gqs oqs e 1 rfl rfl rfl)∘Jy (v := .slice ((q.rs.getD e Rw.zero).A) ((q.rs.getD e Rw.zero).l.length) ((q.rs.getD e Rw.zero).c)) (h:=by exact Yl.ql rfl rfl kr (fun _ h => ((Mem.st1 3 h rfl).s.to hgqs).qfz (k := e) (qa3 (F := Rw.val) (k := e) (x := (q.rs.getD e Rw.zero)) ((getD_at Rw.zero hi3)))))∘Jo (.slice (some ⟨gqr, oqr, none⟩) v2.l.length v2.c) (by rw [hv2, hgqr])∘Jl∘Jo (vI v.l.length) (by rw [hvl2])∘Jp 1∘Jl∘Jp 1∘Jo (.bool false) (by simp)∘Jp 2∘Jf 0∘Jg 2 O2∘Jl∘Jp 1∘Jo (.bool false) (by simp; omega)∘Jp 1∘Jd6∘Jj∘JF∘JS'∘JP∘Jp 1∘Jl∘Jp 1∘Jj∘JB) fun a Z I => ?_)
  refine qo (fun mS aS wS => ∃ (j : Nat), (j ≤ v.l.length) ∧ mS = v.l.length - j ∧ Fr aS 285 [] [(229, vI j), (228, vI v.l.length), (227, .slice (some ⟨gpr, opr, none⟩) v.l.length v.c), (226, .bool false), (31, .slice (some ⟨gpr, opr, none⟩) v.l.length v.c), (30, vI e), (203, .slice (some ⟨gps, ops, none⟩) p.rs.length p.sc), (206, .bool true), (205, vI e), (204, vI p.rs.length), (162, .bool false), (161, vI i), (160, vI p.ts.length), (159, .slice p.tA p.ts.length p.tc), (23, vP g23 0), (22, vS g128 p.rs.length p.rs.length), (124, .bool false), (20, vP g20 0), (18, vI got), (17, vI dd), (16, vI kk), (14, vP g14 0), (53, .bool false), (52, vI k), (51, vI ((qe l 80).length : Nat)), (50, .slice A50 ((qe l 80).length) c50), (48, .bool false), (10, vP gm 0), (9, vP g9 0), (8, .bool false)] ∧ Mem w wS (.row (vS g128 p.rs.length p.rs.length) p.rs.length (bs.map bV) 4 1 :: .blk g20 q.cells 42 :: .blk g14 p.cells 42 :: (stF q ++ (stF p ++ (mdB gm y ++ ([])))))) (m := v.l.length - 0) ⟨0, Nat.zero_le _, rfl, Z.sub kr, I.pt 3 [0, 1, 2]⟩ ?_
  clear Z I; rintro mS a w_ ⟨j, hzj, rfl, Z, I⟩
  refine Jb Z I ((JP∘Jp 1∘Jj∘JQ) (Ju (fun hb230 => ?_) fun hb230 => ?_))
  ·
   intro a Z I
   have hd230 := of_decide_eq_true hb230
   have hj1 : j < v.l.length := by omega
   obtain ⟨x1, hx1⟩ : ∃ z, v.l.getD j Sp.zero = z := ⟨_, rfl⟩
   obtain ⟨x2, hx2⟩ : ∃ z, v2.l.getD j Sp.zero = z := ⟨_, rfl⟩
   obtain ⟨E, hE⟩ : ∃ z : En, (⟨x1.v, x1.r, gw⟩ : En) = z := ⟨_, rfl⟩
   have hEs : s.spEn e j = E := by unfold Sta.spEn; rw [← qki hp hi2, hv, hx1, ← qh5 hp, hgr, hgw, ← hE]; rfl
   have hEo : E.Ok := by rw [← hEs]; exact (qiy hG.sh om om).1
   have hsj := hsv e j
   rw [hEs, ← qki hq hi3, hv2, hx2] at hsj
   obtain ⟨ab, hab⟩ : ∃ z, bs.getD e false = z := ⟨_, rfl⟩
   have hab2 := hbs e om
   rw [← hab2, hab] at hsj
   refine Jb Z I ((JT∘JS'∘JQ∘JB∘JP∘Jp 1∘Jy (h:=by exact Yl.ix gpr opr j 3 rfl rfl rfl)∘Jy (v := .agg ((v.l.getD j Sp.zero).cells)) (h:=by exact Yl.loadS rfl rfl si_sp rfl (fun _ h => (qkj hv hi2 (Mem.st2 3 h rfl) hgpr).q9 qbo ((getD_at Sp.zero hj1))))∘Jo (.agg x1.cells) (by rw [hx1])∘JA #[vQ 0, vW 0, vQ 0]) fun w33 g33 => (Jp 1∘JV si_sp O0' (h1:=by exact qqo x1)) fun w40_5 => (Jj) fun a Z I => ?_)
   refine wp_seq ?_
   refine Jb Z I ((Vs .n [14]) fun wd41 => (Vf 0 0∘Vf 2 1∘Vf 4 0∘Vf 5 2∘Vp [7]∘Vc 1 O0∘Vc 3 O0∘Vc 6 O3∘Vo (.slice (some ⟨gpg, opg, none⟩) p.gs.length p.gc) (by rw [hgpg])∘Vy 8 (h:=by exact Yl.ix gpg opg e 2 rfl rfl rfl)∘Vf 9 1∘Vy 10 (v := vI ((p.gs.getD e Gr.zero).weight)) (h:=by exact Yl.ql rfl rfl kr (fun _ h => ((Mem.st2 4 h rfl).g.to hgpg).partAt zk (k := e) (j := 1) (x := (p.gs.getD e Gr.zero)) ((getD_at Gr.zero heg)) rfl))∘Vo (vI gw) (by rw [hgr]; exact congrArg (Value.int .i64) hgw)∘Vq [11] [(245, vW (IntKind.u32.wrap (gw : Int)))]∘Vo (vW gw) (by exact qdc rfl om)∘Vy 12 (v := .agg #[vQ x1.v, vW x1.r, vW gw]) (h:=by exact Yl.build (vs := [(0, vQ x1.v), (1, vW x1.r), (2, vW gw)]) rfl kr kr)∘Vo (.agg E.cells) (by rw [← hE]; try rfl)∘VA 13 .n #[vQ 0, vW 0, vW 0]) fun w34 g34 => fun a Z I HS => ?_)
   refine s_on Z 14 rfl (e_sa Z I 0 rfl rfl rfl rfl rfl qi rfl rfl (qw E) ?_)
   clear I; intro w41_14 I
   refine noS kr ?_
   refine qb kr ?_
   refine Jb Z I ((JQ) fun a Z I => ?_)
   refine zb (fun aS wS => Fr aS 285 [] [(255, .bool (ab && decide (j = kk))), (34, vP g34 0), (32, vI j), (33, vP g33 0), (230, .bool true), (229, vI j), (228, vI v.l.length), (227, .slice (some ⟨gpr, opr, none⟩) v.l.length v.c), (226, .bool false), (31, .slice (some ⟨gpr, opr, none⟩) v.l.length v.c), (30, vI e), (203, .slice (some ⟨gps, ops, none⟩) p.rs.length p.sc), (206, .bool true), (205, vI e), (204, vI p.rs.length), (162, .bool false), (161, vI i), (160, vI p.ts.length), (159, .slice p.tA p.ts.length p.tc), (23, vP g23 0), (22, vS g128 p.rs.length p.rs.length), (124, .bool false), (20, vP g20 0), (18, vI got), (17, vI dd), (16, vI kk), (14, vP g14 0), (53, .bool false), (52, vI k), (51, vI ((qe l 80).length : Nat)), (50, .slice A50 ((qe l 80).length) c50), (48, .bool false), (10, vP gm 0), (9, vP g9 0), (8, .bool false)] ∧ Mem w wS (.blk g34 E.cells 61 :: .blk g33 x1.cells 66 :: .row (vS g128 p.rs.length p.rs.length) p.rs.length (bs.map bV) 4 1 :: .blk g20 q.cells 42 :: .blk g14 p.cells 42 :: (stF q ++ (stF p ++ (mdB gm y ++ ([])))))) ?_ ?_
   ·
    refine qaj ?_
    refine Jb Z I ((Jp 2∘Jy (h:=by exact Yl.ix0 g128 e 1 rfl rfl rfl)∘Jy (v := .bool (bs.getD e false)) (h:=by exact Yl.r1 2 e false om rfl rfl rfl)∘Jo (.bool ab) (by rw [hab])∘Jp 1) (Ju (fun hb251 => ?_) fun hb251 => ?_))
    ·
     refine (Jp 4∘Jd6∘Jq) fun a Z I => ?_
     have Z := Z.sp 255 (.bool (ab && decide (j = kk))) rfl (congrArg Value.bool (by rw [hb251, Bool.eq_iff_iff]; simp; omega))
     exact ⟨Z.sub kr, I.pt 5 [0, 1, 2, 3, 4]⟩
    refine (Jp 4∘Jd6∘Jq) fun a Z I => ?_
    have Z := Z.sp 255 (.bool (ab && decide (j = kk))) rfl (by rw [hb251]; try rfl)
    exact ⟨Z.sub kr, I.pt 5 [0, 1, 2, 3, 4]⟩
   clear Z I; rintro a w42 ⟨Z, I⟩
   refine qja (fun aS wS => ∃ (z2 : En), (z2 = chT (ab && decide (j = kk)) E dd) ∧ Fr aS 285 [] [(34, vP g34 0), (32, vI j), (33, vP g33 0), (230, .bool true), (229, vI j), (228, vI v.l.length), (227, .slice (some ⟨gpr, opr, none⟩) v.l.length v.c), (226, .bool false), (31, .slice (some ⟨gpr, opr, none⟩) v.l.length v.c), (30, vI e), (203, .slice (some ⟨gps, ops, none⟩) p.rs.length p.sc), (206, .bool true), (205, vI e), (204, vI p.rs.length), (162, .bool false), (161, vI i), (160, vI p.ts.length), (159, .slice p.tA p.ts.length p.tc), (23, vP g23 0), (22, vS g128 p.rs.length p.rs.length), (124, .bool false), (20, vP g20 0), (18, vI got), (17, vI dd), (16, vI kk), (14, vP g14 0), (53, .bool false), (52, vI k), (51, vI ((qe l 80).length : Nat)), (50, .slice A50 ((qe l 80).length) c50), (48, .bool false), (10, vP gm 0), (9, vP g9 0), (8, .bool false)] ∧ Mem w wS (.blk g34 z2.cells 61 :: .blk g33 x1.cells 66 :: .row (vS g128 p.rs.length p.rs.length) p.rs.length (bs.map bV) 4 1 :: .blk g20 q.cells 42 :: .blk g14 p.cells 42 :: (stF q ++ (stF p ++ (mdB gm y ++ ([])))))) ?_ ?_
   ·
    refine Jb Z I (Ju (fun hb255 => ?_) fun hb255 => ?_)
    ·
     refine (JT∘JR∘Jy (v := .agg E.cells) (h:=by exact Yl.loadS rfl rfl qi rfl (fun _ h => qa (h.blk (i := 0) rfl)))∘Jp 1∘JI (h:=by exact fun I => chAdd hEo hd0 _)) fun w259 hbw => (Jp 1∘Jx∘Jx∘JV qi O0' (h1:=by exact qw (E.add dd))) fun w43_6 => (Jt6∘Jq) fun a Z I => ?_
     exact ⟨_, by rw [hb255], Z.sub kr, I.pt 5 [0, 1, 2, 3, 4]⟩
    refine (JF∘JS) fun a Z I => ?_
    exact ⟨_, by rw [hb255], Z.sub kr, I.pt 5 [0, 1, 2, 3, 4]⟩
   clear Z I; rintro a w_ ⟨z2, hz2, Z, I⟩
   refine Jb Z I ((JG∘JP∘Jf 6∘Jc O3∘Jo (.slice (some ⟨gqs, oqs, none⟩) q.rs.length q.sc) (by rw [hgqs])∘Jp 1∘Jy (h:=by exact Yl.ix gqs oqs e 1 rfl rfl rfl)∘Jy (v := .slice ((q.rs.getD e Rw.zero).A) ((q.rs.getD e Rw.zero).l.length) ((q.rs.getD e Rw.zero).c)) (h:=by exact Yl.ql rfl rfl kr (fun _ h => ((Mem.st1 5 h rfl).s.to hgqs).qfz (k := e) (qa3 (F := Rw.val) (k := e) (x := (q.rs.getD e Rw.zero)) ((getD_at Rw.zero hi3)))))∘Jo (.slice (some ⟨gqr, oqr, none⟩) v2.l.length v2.c) (by rw [hv2, hgqr])∘Jp 1∘Jy (h:=by exact Yl.ix gqr oqr j 3 rfl rfl rfl)∘Jy (v := .agg ((v2.l.getD j Sp.zero).cells)) (h:=by exact Yl.loadS rfl rfl si_sp rfl (fun _ h => (qkj hv2 hi3 (Mem.st1 5 h rfl) hgqr).q9 qbo ((getD_at Sp.zero om))))∘Jo (.agg x2.cells) (by rw [hx2])∘JA #[vQ 0, vW 0, vQ 0]) fun w35 g35 => (JV si_sp O0' (h1:=by exact qqo x2)) fun w44_9 => (Jd6∘Jr∘Jg 0 O0∘Jg 0 O1∘Jp 1∘Jo (.bool false) (by rw [hsj.1, ← hz2]; simp)∘Jp 1∘Jg 1 O0∘Jg 1 O1∘Jp 1∘Jo (.bool false) (by rw [hsj.2, ← hz2]; simp)∘Jp 1∘Jd6∘Jj∘JF∘JS'∘JR∘JaK 1∘Jp 1∘Jd1∘Jq) fun a Z I => ?_)
   exact ⟨_, om, j + 1, by omega, rfl, Z.sub kr, I.pt 6 [3, 4, 5]⟩
  intro a Z I
  have hd230 := of_decide_eq_false hb230
  refine Jb Z I ((JF∘JX∘JG∘JR∘JaK 1∘Jp 1∘Jd1∘Jq) fun a Z I => ?_)
  replace Z := Z.sp 203 (.slice p.sA p.rs.length p.sc) rfl (by rw [hgps])
  exact ⟨_, om, e + 1, by omega, rfl, Z.sub kr, I.pt 3 [0, 1, 2]⟩
 intro a Z I
 have hd206 := of_decide_eq_false hb206
 exact Jb Z I ((JF∘JX∘JG∘JP∘JI (h:=by exact fun I => qi9 _)) fun w284 hbw => (Jp 1∘Jd1∘Jj∘JZ) JY1)
end Go.Proofs.Ytannicghedpdpaa
