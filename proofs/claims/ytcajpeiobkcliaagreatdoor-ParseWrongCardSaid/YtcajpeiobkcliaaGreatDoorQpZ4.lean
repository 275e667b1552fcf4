/- Parts. -/
import Derived.Test.YtcajpeiobkcliaaGreatDoorQpChv
import Derived.Test.YtcajpeiobkcliaaGreatDoorQpPan
import Derived.Test.YtcajpeiobkcliaaGreatDoorQpSep13
import Derived.Test.YtcajpeiobkcliaaGreatDoorQpSep20
import Derived.Test.YtcajpeiobkcliaaGreatDoorQpSep11
import Derived.Test.YtcajpeiobkcliaaGreatDoorQpRnd2
import Derived.Test.YtcajpeiobkcliaaGreatDoorQpZ3
set_option linter.all false
set_option maxRecDepth 100000
set_option maxHeartbeats 4000000
namespace Go.Proofs.YtcajpeiobkcliaaGreatDoor
open Go.RowKit
theorem qja (x : Int) : -281474976710657 < Int.tmod x 281474976710657 ∧ Int.tmod x 281474976710657 < 281474976710657 := ⟨Int.lt_tmod_of_pos x de, Int.tmod_lt_of_pos x de⟩
def q84 (w : World) (x : Int) (r : Ending) (w' : World) : Prop := (∃ z : Int, r = .returned (vI z) ∧ 0 ≤ z ∧ z < 281474976710657 ∧ (0 ≤ x ∧ x < 281474976710657 → z = x)) ∧ Below w.heap.size w w'
theorem q6y {n : Nums} : IdsIn 12 n.new.ts := fun t ht => by cases ht
theorem qux (x : Int) (hI : I64 x) (w : World) :
    Calls Tryz.prog 22 #[vI x, vI 281474976710657] w (q84 w x) := by
 unfold I64 at hI
 have hbd := qja x
 refine (JN2 Tryz.func22 16) ?_
 refine (JP∘Jp 1∘Jj∘JQ∘JP∘Jv 2 [(6, .bool false)]∘Jj∘JF∘JS'∘JP∘Jp 4∘Jd3∘Jj∘JQ∘JP∘Jp 2∘Jd1∘Jj) (Ji (fun hd11 => ?_) fun hd11 => ?_)
 ·
  exact (JT∘JR∘Jp 3∘Jo (vI ((Int.tmod x 281474976710657) + 281474976710657)) (by exact qdq ⟨by omega, by omega⟩)∘Jp 1∘Jd3∘Jr∘Jp 2∘Jd1∘Jj∘JZ∘Jz1) fun I => by exact ⟨⟨_, rfl, by have := qja x; omega, by have := qja x; omega, fun h => by have := Int.tmod_eq_of_lt h.1 h.2; omega⟩, I.below⟩
 exact (JF∘JS'∘JP∘Jp 2∘Jd1∘Jj∘JZ∘Jz1) fun I => by exact ⟨⟨_, rfl, by have := qja x; omega, by have := qja x; omega, fun h => by have := Int.tmod_eq_of_lt h.1 h.2; omega⟩, I.below⟩
theorem quy (n : Nums) (hn : n.Ok) (A : Option Addr) (c_ : Nat) (l : List Sml) (hl : ∀ x ∈ l, x.Ok) (hc : l.length ≤ c_) (hnl : l.length ≤ 9223372036854775807) (nx : Int) (hIx : I64 nx) (w : World) (hr : Rd w w.heap.size 8 A l.length (l.flatMap sml)) :
    Calls Tryz.prog 12 #[.agg n.cells, .slice A l.length c_, vI nx] w (q3x w nx) := by
 have hsl := qya l 60
 refine (JN3 Tryz.func12 50) ?_
 refine (JP∘JE) fun w3 g3 => (JA #[vI 0, vI 0, vQ 0, vN, vN, vN, vN, vN]) fun w6 g6 => (Jp 1∘Jr∘Jy (v := .agg n.cells) (h:=by exact Yl.loadS rfl rfl qx7 (qnv hn) (fun _ h => qb (h.blk (i := 1) rfl)))∘JK (h:=by exact fun I => qub n hn _)) fun A16 c16 w16 hc16 => (JL (h:=by exact fun I => q5r (Nums.cfg hn) (I.rd (i := 0) rfl))) ?_
 rintro I _ w17 ⟨gm, x, rfl, hx, hm⟩
 refine ⟨_, rfl, _, (show Mem w w17 (.row (.slice A16 n.gs.length c16) n.gs.length (n.gs.flatMap grL) 110 2 :: .blk g6 #[vI 0, vI 0, vQ 0, vN, vN, vN, vN, vN] 40 :: .blk g3 n.cells 27 :: (mdB gm x ++ ([]))) from I.joinF 3 hm rfl), ?_⟩
 refine (Jp 1∘Jx∘Jx∘Jp 2∘Jj∘JQ∘JP∘Jv 4 [(23, vP gm 0), (22, .bool false)]∘Jy (v := .bool false) (h:=by exact Yl.qzq rfl rfl rfl)∘Jp 1∘Jd4∘Jj∘JF∘JS'∘JQ∘JP∘Jp 1∘JK (h:=by exact fun I => quc A c_ l 60 _ hl (I.old hr) hc hnl de)) fun A28 c28 w28 hc28 => (Jl∘Jp 1∘Jj∘JB) fun a Z I => ?_
 refine qe (fun mS aS wS => ∃ (k : Nat) (x : Stm) (s : Sta), (k ≤ (q9 l 60).length) ∧ (x.sta = s) ∧ (GoodS s) ∧ (zl s = true) ∧ (IdsIn 12 s.ts) ∧ mS = (q9 l 60).length - k ∧ Fr aS 50 [] [(30, vI k), (29, vI ((q9 l 60).length : Nat)), (28, .slice A28 ((q9 l 60).length) c28), (25, .bool false), (8, vP gm 0), (7, .bool false), (6, vP g6 0), (2, vI nx)] ∧ Mem w wS (.row (.slice A28 ((q9 l 60).length) c28) ((q9 l 60).length) ((q9 l 60).flatMap opL) 98 8 :: .blk g6 #[vI 0, vI 0, vQ 0, vN, vN, vN, vN, vN] 40 :: (mdB gm x ++ ([])))) (m := (q9 l 60).length - 0) ⟨0, x, n.new, Nat.zero_le _, hx, (Nums.good hn).1, (Nums.good hn).2, q6y, rfl, Z.sub kr, I.pt 4 [0, 2]⟩ ?_
 clear Z I; rintro mS a w_ ⟨k, x, s, hk, hx, hG, hR, hD, rfl, Z, I⟩
 refine Jb Z I ((JP∘Jp 1∘Jj∘JQ) (Ju (fun hb31 => ?_) fun hb31 => ?_))
 ·
  intro a Z I
  have hd31 := of_decide_eq_true hb31
  have hkl : k < (q9 l 60).length := by omega
  obtain ⟨o, ho⟩ : ∃ z, (q9 l 60).getD k Op30.zero = z := ⟨_, rfl⟩
  have hom := qg Op30.zero hkl
  rw [ho] at hom
  have hoo : o.Ok := qx6 hl _ hom
  have hot : o.task ≤ 12 := qp0 _ hom
  refine Jb Z I ((JT∘JS'∘JQ∘JB∘JP) ?_)
  repeat (first | clear Z | clear I)
  intro a Z I
  obtain ⟨gA28, rfl⟩ := qm (I.own (i := 0) rfl) (Nat.lt_of_le_of_lt (Nat.zero_le _) (show k < (q9 l 60).length from by omega))
  refine Jb Z I ((Jy (h:=by exact Yl.ix0 gA28 k 8 rfl rfl rfl)∘Jy (v := .agg (((q9 l 60).getD k Op30.zero).cells)) (h:=by exact Yl.loadS rfl rfl si_op rfl (fun _ h => h.qf7 q5p (i := 0) rfl ((getD_at Op30.zero hkl))))∘Jo (.agg o.cells) (by rw [ho])∘JA #[vB 0, vI 0, vI 0, vI 0, vI 0, vI 0, vI 0, vQ 0]) fun w11 g11 => (JV si_op O0' (h1:=by exact q3n o)) fun w6_3 => (Jd2∘Jj∘JR∘Jp 1∘Jy (v := .agg o.cells) (h:=by exact Yl.loadS rfl rfl si_op rfl (fun _ h => qb (h.blk (i := 0) rfl)))∘JL (h:=by exact fun I => do_s 3 I rfl hx hG hoo)) ?_)
  rintro I _ w36 ⟨y, rfl, hy, HM2⟩
  refine ⟨_, rfl, _, (show Mem w w36 (.blk g11 o.cells 98 :: .row (vS gA28 ((q9 l 60).length) c28) ((q9 l 60).length) ((q9 l 60).flatMap opL) 98 8 :: .blk g6 #[vI 0, vI 0, vQ 0, vN, vN, vN, vN, vN] 40 :: (mdB gm y ++ ([]))) from HM2.back), ?_⟩
  refine (Jt3∘Jj∘JR∘JaK 1∘Jp 1∘Jd1∘Jq) fun a Z I => ?_
  exact ⟨_, om, k + 1, y, (doS s o).1, by omega, hy, q1v hoo hG, q1w hoo hG hR, q8i hot hD, rfl, Z.sub kr, I.pt 3 [1, 2]⟩
 intro a Z I
 have hd31 := of_decide_eq_false hb31
 refine Jb Z I ((JF∘JX∘JG∘JP∘Jp 1∘JL (h:=by exact fun I => q5u 2 I rfl hx hG)) ?_)
 rintro I _ w40 ⟨p, rfl, hp, hcapp, hm⟩
 refine ⟨_, rfl, _, (show Mem w w40 (.row (.slice A28 ((q9 l 60).length) c28) ((q9 l 60).length) ((q9 l 60).flatMap opL) 98 8 :: .blk g6 #[vI 0, vI 0, vQ 0, vN, vN, vN, vN, vN] 40 :: (stF p ++ (mdB gm x ++ ([])))) from I.joinF (T := (mdB gm x ++ ([]))) 2 hm rfl), ?_⟩
 refine (Jp 1∘Jx∘Jx∘JA #[vI 0, vQ 0, vN, vN, vN, vN, vN]) fun w12 g12 => (JV si_st O0' (h1:=by exact qvx p)) fun w9_6 => (Jp 1∘Jj) fun a Z I => ?_
 refine wp_seq ?_
 refine Jb Z I ((Vs .n [7]) fun wd10 => (Vq [0, 5, 6] [(49, .bool true), (43, vI nx)]∘Vy 3 (v := .agg p.cells) (h:=by exact Yl.loadS rfl rfl si_st rfl (fun _ h => qb (h.blk (i := 0) rfl)))) fun a Z I HS => ?_)
 refine s_on Z 1 rfl ?_
 refine e_cl Z [vI nx, vI 281474976710657] rfl rfl (qux nx hIx _) ?_
 rintro _ w44 ⟨⟨z, rfl, hz1, hz2, hz3⟩, hbw⟩
 refine ⟨_, rfl, ?_⟩
 replace I := I.call hbw
 clear Z; intro a Z
 refine keepS (I.pt 3 [0, 1, 2]) (fun HS => ?_)
 refine Vb Z I HS ((Vp [2]∘Vo (vI (1 + z)) (by exact qdq ⟨by omega, by omega⟩)∘Vy 4 (v := .agg #[vI (1 + z), vI p.cpus, vQ p.credit, .slice p.gA p.gs.length p.gc, .slice p.lA p.cl.length p.lc, .slice p.uA p.cu.length p.uc, .slice p.tA p.ts.length p.tc, .slice p.sA p.rs.length p.sc]) (h:=by exact Yl.build (vs := [(0, vI (1 + z)), (1, .agg p.cells)]) rfl kr kr)) fun a Z I HS => ?_)
 refine s_on Z 7 rfl (e_sa Z I 2 rfl rfl rfl rfl rfl q8 rfl rfl (by simp [Value.oneCell']) ?_)
 clear I; intro w10_7 I
 refine noS kr ?_
 refine ap Z (pastS kr) [8] (bt 9 []) [(7, .bool true)] fun a Z => ?_
 refine qc kr ?_
 refine Jb Z I ((JZ) fun a Z I => ?_)
 exact ret2 rfl Z (.cellS (i := 2) Z I rfl rfl q8 rfl) (.tmp Z rfl) (q57 (nx := 1 + z) hp hG hR hD ⟨by omega, by omega⟩ hcapp (fun h => by rw [hz3 h]) ((I.dropN 3 rfl).subl (List.sublist_append_left ..)))
structure Pr where
 nx : Nat
 cp : Nat
 cr : Nat
 gp : Nat
 gs : List Nat
 cl : List Nat
 cu : List Nat
 tk : Nat
 ts : List Nat
 sp : List Nat
 e1 : Nat
 e2 : Nat
 e3 : Nat
 e4 : Nat
 e5 : Nat
 e6 : Nat
 e7 : Nat
section
variable {α : Type} {b : List Nat} {a x n u : Nat} {xs : List Nat}
def num1 (b : List Nat) (a : Nat) (k : Nat → Nat → Except Nat α) : Except Nat α := if (vread (b.drop a)).2.2 ≠ 0 then .error 344 else k (vread (b.drop a)).1 (a + (vread (b.drop a)).2.1)
def numK (b : List Nat) (n a : Nat) (k : List Nat → Nat → Except Nat α) : Except Nat α := if (readN n (b.drop a)).2.2 ≠ 0 then .error 344 else k (readN n (b.drop a)).1 (a + (readN n (b.drop a)).2.1)
def cnt1 (b : List Nat) (a lo hi : Nat) (k : Nat → Nat → Except Nat α) : Except Nat α := num1 b a fun x e => if x < lo ∨ hi < x then .error 345 else k x e
theorem qpy {k : Nat → Nat → Except Nat α} (h : vread (b.drop a) = (x, n, 0)) : num1 b a k = k x (a + n) := by unfold num1; rw [h]; rfl
theorem qly {k : Nat → Nat → Except Nat α} (h : (vread (b.drop a)).2.2 ≠ 0) : num1 b a k = .error 344 := if_pos h
theorem q52 {k : List Nat → Nat → Except Nat α} (h : readN n (b.drop a) = (xs, u, 0)) : numK b n a k = k xs (a + u) := by unfold numK; rw [h]; rfl
theorem qgo {k : List Nat → Nat → Except Nat α} (h : (readN n (b.drop a)).2.2 ≠ 0) : numK b n a k = .error 344 := if_pos h
theorem q53 {k : Nat → Nat → Except Nat α} {lo hi : Nat} (h : vread (b.drop a) = (x, n, 0)) (h2 : ¬ (x < lo ∨ hi < x)) : cnt1 b a lo hi k = k x (a + n) := by unfold cnt1; rw [qpy h, if_neg h2]
theorem q17 {k : Nat → Nat → Except Nat α} {lo hi : Nat} (h : vread (b.drop a) = (x, n, 0)) (h2 : x < lo ∨ hi < x) : cnt1 b a lo hi k = .error 345 := by unfold cnt1; rw [qpy h, if_pos h2]
theorem qlz {k : Nat → Nat → Except Nat α} {lo hi : Nat} (h : (vread (b.drop a)).2.2 ≠ 0) : cnt1 b a lo hi k = .error 344 := qly h
theorem q18 (b : List Nat) (a : Nat) : (vread (b.drop a)).2.2 ≠ 0 ∨ ∃ x n, vread (b.drop a) = (x, n, 0) := by
 by_cases h : (vread (b.drop a)).2.2 = 0
 ·exact .inr ⟨(vread (b.drop a)).1, (vread (b.drop a)).2.1, by rw [← h]⟩
 ·exact .inl h
theorem q19 (b : List Nat) (k a : Nat) : (readN k (b.drop a)).2.2 ≠ 0 ∨ ∃ xs u, readN k (b.drop a) = (xs, u, 0) := by
 by_cases h : (readN k (b.drop a)).2.2 = 0
 ·exact .inr ⟨(readN k (b.drop a)).1, (readN k (b.drop a)).2.1, by rw [← h]⟩
 ·exact .inl h
theorem qrv (ha : a ≤ b.length) (h : vread (b.drop a) = (x, n, 0)) : 0 < n ∧ a + n ≤ b.length := by
 have h1 := qiy (b.drop a)
 have h2 := qny (b.drop a) (by rw [h])
 rw [h] at h1 h2
 rw [List.length_drop] at h1
 exact ⟨h2, by simp only at h1; omega⟩
theorem q2a (ha : a ≤ b.length) (h : readN n (b.drop a) = (xs, u, 0)) : xs.length = n ∧ n ≤ u ∧ a + u ≤ b.length := by
 have h1 := qrt _ _ _ _ h
 rw [List.length_drop] at h1
 omega
theorem qym {l : List Nat} {er : Nat} (h : vread l = (x, n, er)) (h2 : (er : Int) ≠ 0) : (vread l).2.2 ≠ 0 := by rw [h]; show er ≠ 0; omega
theorem qyn (hl : ∀ z ∈ b, z < 256) (h : vread (b.drop a) = (x, n, 0)) : x < 18446744073709551616 := by
 have := qiz (b.drop a) fun z hz => hl z (List.mem_of_mem_drop hz)
 rwa [h] at this
end
def NumAt (b : List Nat) (p x e : Nat) : Prop := vread (b.drop p) = (x, e - p, 0) ∧ p ≤ e
def q7 (b : List Nat) (n p : Nat) (xs : List Nat) (e : Nat) : Prop := readN n (b.drop p) = (xs, e - p, 0) ∧ p ≤ e
section
variable {α : Type} {b : List Nat} {p x e n : Nat} {xs : List Nat}
theorem NumAt.eq (h : NumAt b p x e) : p + (e - p) = e := by have := h.2; omega
theorem q7.eq (h : q7 b n p xs e) : p + (e - p) = e := by have := h.2; omega
theorem NumAt.of {m : Nat} (h : vread (b.drop p) = (x, m, 0)) : NumAt b p x (p + m) := ⟨by rw [h, Nat.add_sub_cancel_left], by omega⟩
theorem q7.of {m : Nat} (h : readN n (b.drop p) = (xs, m, 0)) : q7 b n p xs (p + m) := ⟨by rw [h, Nat.add_sub_cancel_left], by omega⟩
theorem qkn (b : List Nat) (p : Nat) : (vread (b.drop p)).2.2 ≠ 0 ∨ ∃ x e, NumAt b p x e := by
 rcases q18 b p with h | ⟨x, n, h⟩
 ·exact .inl h
 ·exact .inr ⟨x, _, .of h⟩
theorem qgp (b : List Nat) (n p : Nat) : (readN n (b.drop p)).2.2 ≠ 0 ∨ ∃ xs e, q7 b n p xs e := by
 rcases q19 b n p with h | ⟨xs, u, h⟩
 ·exact .inl h
 ·exact .inr ⟨xs, _, .of h⟩
theorem NumAt.go1 {k : Nat → Nat → Except Nat α} (h : NumAt b p x e) : num1 b p k = k x e := by rw [qpy h.1, h.eq]
theorem q7.goK {k : List Nat → Nat → Except Nat α} (h : q7 b n p xs e) : numK b n p k = k xs e := by rw [q52 h.1, h.eq]
theorem NumAt.goC {k : Nat → Nat → Except Nat α} {lo hi : Nat} (h : NumAt b p x e) (h2 : ¬ (x < lo ∨ hi < x)) : cnt1 b p lo hi k = k x e := by rw [q53 h.1 h2, h.eq]
theorem NumAt.bad {k : Nat → Nat → Except Nat α} {lo hi : Nat} (h : NumAt b p x e) (h2 : x < lo ∨ hi < x) : cnt1 b p lo hi k = .error 345 := q17 h.1 h2
theorem NumAt.in (h : NumAt b p x e) (hp : p ≤ b.length) : p < e ∧ e ≤ b.length := by have := qrv hp h.1; have := h.2; omega
theorem q7.in (h : q7 b n p xs e) (hp : p ≤ b.length) : xs.length = n ∧ p + n ≤ e ∧ e ≤ b.length := by have := q2a hp h.1; have := h.2; omega
theorem NumAt.lt (h : NumAt b p x e) (hl : ∀ z ∈ b, z < 256) : x < 18446744073709551616 := qyn hl h.1
theorem NumAt.one {x2 e2 : Nat} (h : NumAt b p x e) (h2 : NumAt b p x2 e2) : x2 = x ∧ e2 = e := by
 have h3 := h.1.symm.trans h2.1
 injection h3 with h3 h4
 injection h4 with h4
 have := h.2
 have := h2.2
 exact ⟨h3.symm, by omega⟩
theorem q7.one {xs2 : List Nat} {e2 : Nat} (h : q7 b n p xs e) (h2 : q7 b n p xs2 e2) : xs2 = xs ∧ e2 = e := by
 have h3 := h.1.symm.trans h2.1
 injection h3 with h3 h4
 injection h4 with h4
 have := h.2
 have := h2.2
 exact ⟨h3.symm, by omega⟩
theorem q7.nil (b : List Nat) (p : Nat) : q7 b 0 p [] p := ⟨by rw [Nat.sub_self]; rfl, Nat.le_refl _⟩
theorem q7.snoc {y f : Nat} (h : q7 b n p xs e) (h2 : NumAt b e y f) : q7 b (n + 1) p (xs ++ [y]) f := by
 have h3 := h.2
 have h4 := h2.2
 have := qkk n _ xs (e - p) y (f - e) h.1 (by rw [List.drop_drop, h.eq]; exact h2.1)
 exact ⟨by rw [this]; congr 2; omega, by omega⟩
theorem q7.stuck {m : Nat} (h : q7 b n p xs e) (hn : n < m) (h2 : (vread (b.drop e)).2.2 ≠ 0) : (readN m (b.drop p)).2.2 ≠ 0 := by
 have := qi0 n (m - (n + 1)) _ xs (e - p) h.1 (by rw [List.drop_drop, h.eq]; exact h2)
 rwa [show n + 1 + (m - (n + 1)) = m by omega] at this
end
theorem q_le1 {q : List Nat} {x p e : Nat} (h : q.length ≤ p) (h2 : p < e) : (q ++ [x]).length ≤ e := by rw [List.length_append]; show q.length + 1 ≤ e; omega
theorem q_leK {q xs : List Nat} {p e n : Nat} (h : q.length ≤ p) (h2 : xs.length = n) (h3 : p + n ≤ e) : (q ++ xs).length ≤ e := by rw [List.length_append]; omega
theorem qrw (b : List Nat) (p lo hi : Nat) : (vread (b.drop p)).2.2 ≠ 0 ∨ (∃ x e, NumAt b p x e ∧ (x < lo ∨ hi < x)) ∨ ∃ x e, NumAt b p x e ∧ ¬ (x < lo ∨ hi < x) := by
 rcases qkn b p with h | ⟨x, e, h⟩
 ·exact .inl h
 ·by_cases h2 : x < lo ∨ hi < x
  ·exact .inr (.inl ⟨x, e, h, h2⟩)
  ·exact .inr (.inr ⟨x, e, h, h2⟩)
theorem qn5 {m n : Nat} (h : m * n ≤ 9223372036854775807) : Value.int .i64 (Go.IntKind.i64.wrap ((m : Int) * (n : Int))) = .int .i64 ((m * n : Nat) : Int) := by
 rw [← Int.natCast_mul]
 exact zq rfl h
def zm (l : List Sec) : Nat := (l.getD (l.length - 1) Sec.zero).to
theorem q2b {l : List Sec} (h : l.length = 0) : zm l = 0 := by rw [List.length_eq_zero_iff] at h; subst h; rfl
def prs10 (b : List Nat) (nx : Nat) (e1 : Nat) (cp : Nat) (a1 : Nat) (cr : Nat) (a2 : Nat) (gp : Nat) (e2 : Nat) (gs : List Nat) (e3 : Nat) (cl : List Nat) (e4 : Nat) (cu : List Nat) (e5 : Nat) (tk : Nat) (a3 : Nat) (ts : List Nat) (e6 : Nat) (sp : List Nat) (e7 : Nat) : Except Nat Pr := if e7 ≠ b.length then .error 346 else .ok ⟨nx, cp, cr, gp, gs, cl, cu, tk, ts, sp, e1, e2, e3, e4, e5, e6, e7⟩
def prs9 (b : List Nat) (nx : Nat) (e1 : Nat) (cp : Nat) (a1 : Nat) (cr : Nat) (a2 : Nat) (gp : Nat) (e2 : Nat) (gs : List Nat) (e3 : Nat) (cl : List Nat) (e4 : Nat) (cu : List Nat) (e5 : Nat) (tk : Nat) (a3 : Nat) (ts : List Nat) (e6 : Nat) : Except Nat Pr := numK b (cp + 3 * cp * (gp - 1)) e6 (prs10 b nx e1 cp a1 cr a2 gp e2 gs e3 cl e4 cu e5 tk a3 ts e6)
def prs8 (b : List Nat) (nx : Nat) (e1 : Nat) (cp : Nat) (a1 : Nat) (cr : Nat) (a2 : Nat) (gp : Nat) (e2 : Nat) (gs : List Nat) (e3 : Nat) (cl : List Nat) (e4 : Nat) (cu : List Nat) (e5 : Nat) (tk : Nat) (a3 : Nat) : Except Nat Pr := numK b (8 * tk) a3 (prs9 b nx e1 cp a1 cr a2 gp e2 gs e3 cl e4 cu e5 tk a3)
def prs7 (b : List Nat) (nx : Nat) (e1 : Nat) (cp : Nat) (a1 : Nat) (cr : Nat) (a2 : Nat) (gp : Nat) (e2 : Nat) (gs : List Nat) (e3 : Nat) (cl : List Nat) (e4 : Nat) (cu : List Nat) (e5 : Nat) : Except Nat Pr := cnt1 b e5 0 65535 (prs8 b nx e1 cp a1 cr a2 gp e2 gs e3 cl e4 cu e5)
def prs6 (b : List Nat) (nx : Nat) (e1 : Nat) (cp : Nat) (a1 : Nat) (cr : Nat) (a2 : Nat) (gp : Nat) (e2 : Nat) (gs : List Nat) (e3 : Nat) (cl : List Nat) (e4 : Nat) : Except Nat Pr := numK b cp e4 (prs7 b nx e1 cp a1 cr a2 gp e2 gs e3 cl e4)
def prs5 (b : List Nat) (nx : Nat) (e1 : Nat) (cp : Nat) (a1 : Nat) (cr : Nat) (a2 : Nat) (gp : Nat) (e2 : Nat) (gs : List Nat) (e3 : Nat) : Except Nat Pr := numK b cp e3 (prs6 b nx e1 cp a1 cr a2 gp e2 gs e3)
def prs4 (b : List Nat) (nx : Nat) (e1 : Nat) (cp : Nat) (a1 : Nat) (cr : Nat) (a2 : Nat) (gp : Nat) (e2 : Nat) : Except Nat Pr := numK b (2 * (gp - 1)) e2 (prs5 b nx e1 cp a1 cr a2 gp e2)
def prs3 (b : List Nat) (nx : Nat) (e1 : Nat) (cp : Nat) (a1 : Nat) (cr : Nat) (a2 : Nat) : Except Nat Pr := cnt1 b a2 1 256 (prs4 b nx e1 cp a1 cr a2)
def prs2 (b : List Nat) (nx : Nat) (e1 : Nat) (cp : Nat) (a1 : Nat) : Except Nat Pr := num1 b a1 (prs3 b nx e1 cp a1)
def prs1 (b : List Nat) (nx : Nat) (e1 : Nat) : Except Nat Pr := cnt1 b e1 1 64 (prs2 b nx e1)
def prs (b : List Nat) : Except Nat Pr := num1 b 3 (prs1 b)
def Pr.nums (p : Pr) : List Nat := [p.nx, p.cp, p.cr, p.gp] ++ p.gs ++ p.cl ++ p.cu ++ [p.tk] ++ p.ts ++ p.sp
def Pr.secs (p : Pr) : List Sec := [qd, ⟨qa 0, 3, p.e1⟩, ⟨qa 1, p.e1, p.e2⟩, ⟨qa 2, p.e2, p.e3⟩, ⟨qa 3, p.e3, p.e4⟩, ⟨qa 4, p.e4, p.e5⟩, ⟨qa 5, p.e5, p.e6⟩, ⟨qa 6, p.e6, p.e7⟩, ⟨⟨#[115, 117, 109]⟩, p.e7, p.e7 + 4⟩]
section
variable {α : Type} {b : List Nat} {a n : Nat} {er : Nat}
theorem ql0 {k : Nat → Nat → Except Nat α} (h : num1 b a k = .error er) : er = 344 ∨ ∃ x e, k x e = .error er := by
 unfold num1 at h
 split at h
 ·injection h with h; exact .inl h.symm
 ·exact .inr ⟨_, _, h⟩
theorem qfw {k : List Nat → Nat → Except Nat α} (h : numK b n a k = .error er) : er = 344 ∨ ∃ x e, k x e = .error er := by
 unfold numK at h
 split at h
 ·injection h with h; exact .inl h.symm
 ·exact .inr ⟨_, _, h⟩
theorem ql1 {lo hi : Nat} {k : Nat → Nat → Except Nat α} (h : cnt1 b a lo hi k = .error er) : (er = 344 ∨ er = 345) ∨ ∃ x e, k x e = .error er := by
 unfold cnt1 at h
 rcases ql0 h with h | ⟨x, e, h⟩
 ·exact .inl (.inl h)
 ·split at h
  ·injection h with h; exact .inl (.inr h.symm)
  ·exact .inr ⟨_, _, h⟩
end
theorem qyo {b : List Nat} {er : Nat} (h : prs b = .error er) : 344 ≤ er ∧ er ≤ 346 := by
 rcases ql0 h with h | ⟨_, _, h⟩; · omega
 rcases ql1 h with h | ⟨_, _, h⟩; · omega
 rcases ql0 h with h | ⟨_, _, h⟩; · omega
 rcases ql1 h with h | ⟨_, _, h⟩; · omega
 rcases qfw h with h | ⟨_, _, h⟩; · omega
 rcases qfw h with h | ⟨_, _, h⟩; · omega
 rcases qfw h with h | ⟨_, _, h⟩; · omega
 rcases ql1 h with h | ⟨_, _, h⟩; · omega
 rcases qfw h with h | ⟨_, _, h⟩; · omega
 rcases qfw h with h | ⟨_, _, h⟩; · omega
 unfold prs10 at h
 split at h
 ·injection h with h; omega
 ·cases h
def opnR (l : List Nat) : Except Nat Pr :=
 if l.length < 15 then .error 340 else if 16777216 < l.length then .error 3 else if zy l = false then .error 341 else
 if ¬ (l.getD 0 0 = 113 ∧ l.getD 1 0 = 115) then .error 342 else if l.getD 2 0 ≠ 1 then .error 343 else prs (l.take (l.length - 4))
section
variable {l : List Nat}
theorem qyp (h : l.length < 15) : opnR l = .error 340 := if_pos h
theorem q2c (h : ¬ l.length < 15) (h2 : 16777216 < l.length) : opnR l = .error 3 := by unfold opnR; rw [if_neg h, if_pos h2]
theorem q54 (h : ¬ l.length < 15) (h2 : ¬ 16777216 < l.length) (h3 : zy l = false) : opnR l = .error 341 := by unfold opnR; rw [if_neg h, if_neg h2, if_pos h3]
theorem qi1 (h : ¬ l.length < 15) (h2 : ¬ 16777216 < l.length) (h3 : zy l = true) (h4 : ¬ (l.getD 0 0 = 113 ∧ l.getD 1 0 = 115)) : opnR l = .error 342 := by unfold opnR; rw [if_neg h, if_neg h2, h3, if_neg de, if_pos h4]
theorem qi2 (h : ¬ l.length < 15) (h2 : ¬ 16777216 < l.length) (h3 : zy l = true) (h4 : l.getD 0 0 = 113 ∧ l.getD 1 0 = 115) (h5 : l.getD 2 0 ≠ 1) : opnR l = .error 343 := by unfold opnR; rw [if_neg h, if_neg h2, h3, if_neg de, if_neg (fun x => x h4), if_pos h5]
theorem qpz (h : ¬ l.length < 15) (h2 : ¬ 16777216 < l.length) (h3 : zy l = true) (h4 : l.getD 0 0 = 113 ∧ l.getD 1 0 = 115) (h5 : l.getD 2 0 = 1) : opnR l = prs (l.take (l.length - 4)) := by unfold opnR; rw [if_neg h, if_neg h2, h3, if_neg de, if_neg (fun x => x h4), if_neg (fun x => x h5)]
theorem qgq {er : Nat} (h : opnR l = .error er) : 1 ≤ er ∧ er ≤ 346 := by
 unfold opnR at h
 split at h
 ·injection h with h; omega
 ·split at h
  ·injection h with h; omega
  ·split at h
   ·injection h with h; omega
   ·split at h
    ·injection h with h; omega
    ·split at h
     ·injection h with h; omega
     ·have := qyo h; omega
end
def errR (l : List Nat) : Nat := match opnR l with
 | .ok _ => 0
 | .error k => k
def pnums (l : List Nat) : List Nat := match opnR l with
 | .ok p => p.nums
 | .error _ => []
def psecs (l : List Nat) : List Sec := match opnR l with
 | .ok p => p.secs
 | .error _ => []
section
variable {l : List Nat} {p : Pr} {k : Nat}
theorem qey (h : opnR l = .ok p) : errR l = 0 := by unfold errR; rw [h]
theorem qdd (h : opnR l = .error k) : errR l = k := by unfold errR; rw [h]
theorem q2d (h : opnR l = .ok p) : pnums l = p.nums := by unfold pnums; rw [h]
theorem qrx (h : opnR l = .error k) : pnums l = [] := by unfold pnums; rw [h]
theorem qry (h : opnR l = .ok p) : psecs l = p.secs := by unfold psecs; rw [h]
theorem ql2 (h : opnR l = .error k) : psecs l = [] := by unfold psecs; rw [h]
end
theorem Mem.reBlk {W w : World} {fs : List Fact} (h : Mem W w fs) {i g : Nat} {cs ds : Array Value} {t : TypeId} (hi : fs[i]? = some (.blk g cs t)) (he : cs = ds) : Mem W w (fs.set i (.blk g ds t)) := by
 subst he
 obtain ⟨hl, h2⟩ := List.getElem?_eq_some_iff.1 hi
 rw [← h2, List.set_getElem_self]
 exact h
theorem rd_at {w : World} {B a c : Nat} {A : Option Addr} {b : List Nat} (h : Rd w B 1 A b.length (b.map B8)) (ha : a ≤ b.length) (hc : b.length ≤ c) : Rd w B 1 (if c = a then A else A.map (·.add (a * 1))) (b.drop a).length ((b.drop a).map B8) := by
 have h1 := h.q89 (i := a) (j := b.length) ha (Nat.le_refl _) hc
 rw [List.take_length] at h1
 rw [List.length_drop]
 exact h1
theorem q2e {A : Option Addr} {c : Nat} {l : List Nat} {w : World} {x n er : Nat} (h : vread l = (x, n, er)) (hr : Rd w w.heap.size 1 A l.length (l.map B8)) (hl : ∀ b ∈ l, b < 256) (hn : l.length ≤ 200000000000000) :
  Calls Tryz.prog 53 #[.slice A l.length c] w (Is w (.tuple #[.int .u64 (x : Int), .int .i64 (n : Int), .int .i64 (er : Int)])) := by
 have := q14 A l.length c l w hr hl hn
 rw [h] at this
 exact this
def errT : TypeId := 44
theorem qhh {W : World} {fs : List Fact} (k : Int) (w : World) (HW : Mem W w fs) : Calls Tryz.prog 138 #[.int .i64 k] w (Dies W fs (pan errT k)) := by
 refine zf (vs := [.int .i64 k]) Tryz.func138 rfl rfl kr (σ0 := [(0, .int .i64 k)]) rfl ?_
 intro a Z
 refine zb ?_
 refine fp Z 1 0 [(2, .int .i64 k)] fun a Z => fy Z HW 1 rfl rfl rfl (Yl.makeInterface rfl rfl) fun a Z => ?_
 refine fo Z 2 rfl rfl ?_
 refine q5z Z rfl rfl ?_
 exact qc1 Z ⟨rfl, HW⟩
theorem qyq {W : World} {fs gs : List Fact} {i g : Nat} (k x : Int) (w : World) (I : Mem W w fs) (hi : fs[i]? = some (.blk g #[.int .i64 x] errT)) (hg : fs.set i (.blk g #[.int .i64 k] errT) = gs) : CallsD Tryz.prog 133 [Value.pointer (some ⟨g, 0, none⟩)].toArray (.panicking (pan errT k)) w (Caught W gs) := by
 subst hg
 refine qg4 Tryz.func133 rfl rfl kr (σ0 := [(0, .pointer (some ⟨g, 0, none⟩))]) rfl fun c₀ cs a hu Z => ?_
 refine wpS_seq (wpS_region ?_)
 refine qg3 (i := 0) (v := .iface errT (.int .i64 k)) (cs' := { c₀ with mode := .panicking [{ v := .iface errT (.int .i64 k), recovered := true }] } :: cs) Z rfl rfl rfl rfl de (.inl (by unfold pan at hu; simp [recoverD, hu])) fun a Z => ?_
 refine qn3 (i := 1) Z rfl rfl rfl rfl de fun a Z => ?_
 refine wpS_of_wp (wp_seq ?_)
 refine zb ?_
 refine fp Z 1 0 [(6, .iface errT (.int .i64 k))] fun a Z => fy Z I 1 rfl rfl rfl (Yl.q26 rfl rfl) fun a Z => ?_
 refine fp Z 5 2 [(2, .int .i64 k), (3, .bool true)] fun a Z => qax rfl ?_
 refine wp_seq (wp_seq ?_)
 refine zb ?_
 refine fp Z 1 0 [(10, .iface errT (.int .i64 k))] fun a Z => fy Z I 1 rfl rfl rfl (Yl.q68 rfl rfl rfl) fun a Z => ?_
 refine fp Z 4 2 [(15, .bool false)] fun a Z => qax rfl ?_
 refine qgc Z rfl (wp_skip ?_)
 refine zb ?_
 refine fp Z 1 0 [(17, .int .i64 k)] fun a Z => fo Z 1 rfl rfl ?_
 refine qcf Z I (i := i) rfl rfl rfl rfl kr rfl hi (by simp) ?_
 clear I; intro w2 I
 refine qax rfl ?_
 exact qn4 rfl Z ⟨rfl, rfl, I⟩
theorem qul {W : World} {fs gs : List Fact} {i g : Nat} (x : Int) (w : World) (I : Mem W w fs) (hi : fs[i]? = some (.blk g #[.int .i64 x] errT)) (hg : fs.set i (.blk g #[.int .i64 0] errT) = gs) : CallsD Tryz.prog 133 [Value.pointer (some ⟨g, 0, none⟩)].toArray .returning w (Caught W gs) := by
 subst hg
 refine qg4 Tryz.func133 rfl rfl kr (σ0 := [(0, .pointer (some ⟨g, 0, none⟩))]) rfl fun c₀ cs a hu Z => ?_
 refine wpS_seq (wpS_region ?_)
 refine qg3 (i := 0) (v := .nilIface) (cs' := c₀ :: cs) Z rfl rfl rfl rfl de (.inr ⟨by simp [recoverD, hu], rfl, rfl⟩) fun a Z => ?_
 refine qn3 (i := 1) Z rfl rfl rfl rfl de fun a Z => ?_
 refine wpS_of_wp (wp_seq ?_)
 refine zb ?_
 refine fp Z 1 0 [(6, .nilIface)] fun a Z => fy Z I 1 rfl rfl rfl (Yl.qzr (z := .int .i64 0) rfl rfl kr) fun a Z => ?_
 refine fp Z 5 2 [(2, .int .i64 0), (3, .bool false)] fun a Z => qax rfl ?_
 refine wp_seq (wp_seq ?_)
 refine zb ?_
 refine fp Z 1 0 [(10, .nilIface)] fun a Z => fy Z I 1 rfl rfl rfl (Yl.q9g rfl rfl) fun a Z => ?_
 refine fp Z 4 2 [(15, .bool false)] fun a Z => qax rfl ?_
 refine qgc Z rfl (wp_skip ?_)
 refine zb ?_
 refine fp Z 1 0 [(17, .int .i64 0)] fun a Z => fo Z 1 rfl rfl ?_
 refine qcf Z I (i := i) rfl rfl rfl rfl kr rfl hi (by simp) ?_
 clear I; intro w2 I
 refine qax rfl ?_
 have hc : c₀ = { c₀ with mode := FrameMode.returning } := by cases c₀; simp at hu; rw [hu]
 rw [hc]
 exact qn4 rfl Z ⟨rfl, rfl, I⟩
section
variable {b rest : List Nat} {p x : Nat} {xs : List Nat}
theorem NumAt.fwd (hx : x < 18446744073709551616) (h : b.drop p = vbytes x ++ rest) : NumAt b p x (p + (vbytes x).length) ∧ b.drop (p + (vbytes x).length) = rest := by
 refine ⟨⟨by rw [h, qfv rest hx, Nat.add_sub_cancel_left], Nat.le_add_right ..⟩, ?_⟩
 rw [← List.drop_drop, h, List.drop_left' rfl]
theorem q7.fwd {n : Nat} (hn : xs.length = n) (hx : ∀ y ∈ xs, y < 18446744073709551616) (h : b.drop p = xs.flatMap vbytes ++ rest) : q7 b n p xs (p + (xs.flatMap vbytes).length) ∧ b.drop (p + (xs.flatMap vbytes).length) = rest := by
 subst hn
 refine ⟨⟨by rw [h, qn0 xs rest hx, Nat.add_sub_cancel_left], Nat.le_add_right ..⟩, ?_⟩
 rw [← List.drop_drop, h, List.drop_left' rfl]
end
theorem qi4 {α : Type} (f : Nat → List α) : ∀ k i, i < k → ∃ R, upF k f = upF i f ++ (f i ++ R)
 | 0, _, h => absurd h (Nat.not_lt_zero _)
 | k + 1, i, h => by
  rw [qu]
  rcases Nat.lt_or_ge i k with h1 | h1
  ·obtain ⟨R, hR⟩ := qi4 f k i h1
   exact ⟨R ++ f k, by rw [hR, List.append_assoc, List.append_assoc]⟩
  ·obtain rfl : i = k := by omega
   exact ⟨[], by rw [List.append_nil]⟩
section
variable {s : Snm} {tail : List Nat}
theorem qdg {i : Nat} (hi : i < 7) : (bodyS s ++ tail).drop (atS s i) = (secN s i).flatMap vbytes ++ (bodyS s ++ tail).drop (atS s (i + 1)) := by
 obtain ⟨R, hR⟩ := qi4 (secN s) 7 i hi
 have hb : bodyS s ++ tail = ([113, 115, 1] ++ (upF i (secN s)).flatMap vbytes) ++ ((secN s i).flatMap vbytes ++ (R.flatMap vbytes ++ tail)) := by
  unfold bodyS numsS
  rw [hR]
  simp only [List.flatMap_append, List.append_assoc]
 have hl : ([113, 115, 1] ++ (upF i (secN s)).flatMap vbytes).length = atS s i := by
  rw [List.length_append]; rfl
 rw [hb, List.drop_left' hl, qcb, ← List.drop_drop, List.drop_left' hl, List.drop_left' rfl]
theorem at_end (s : Snm) : atS s 7 = (bodyS s).length := by
 rw [qhb]; rfl
theorem qr4 {cp : Nat} {rs : List Rw} (h : ∀ g, g < rs.length → (rs.getD g Rw.zero).l.length = cp) : ∀ k, k ≤ rs.length → (upF k fun g => rwN g (rs.getD g Rw.zero).l).length = if k = 0 then 0 else cp + 3 * cp * (k - 1)
 | 0, _ => rfl
 | k + 1, hk => by
  rw [qu, List.length_append, qr4 h k om, if_neg (Nat.succ_ne_zero k), Nat.add_sub_cancel]
  have h1 := h k om
  show _ + (rwN k (rs.getD k Rw.zero).l).length = _
  unfold rwN
  rcases Nat.eq_zero_or_pos k with h0 | h0
  ·subst h0
   rw [qbv (m := 1) (fun i => by rw [qfo de]; rfl), if_pos rfl, h1]
   omega
  ·rw [qbv (m := 3) (fun i => by rw [qk9 h0]; rfl), if_neg om, h1]
   obtain ⟨j, rfl⟩ : ∃ j, k = j + 1 := ⟨k - 1, by omega⟩
   rw [Nat.add_sub_cancel, Nat.mul_succ]
   omega
def prOf (s : Snm) : Pr := ⟨toU s.next, toU s.st.cpus, s.st.credit, s.st.gs.length, secN s 2, secN s 3, secN s 4, s.st.ts.length, upF s.st.ts.length fun i => tkN (qq s.st.ts i) (s.st.ts.getD i Tk.zero), secN s 6, atS s 1, atS s 2, atS s 3, atS s 4, atS s 5, atS s 6, atS s 7⟩
theorem qyx (h : SnRight s) : prs (bodyS s ++ tail) = if tail = [] then .ok (prOf s) else .error 346 := by
 have S := h.sh.sh
 have c1 : 1 ≤ s.st.cpus ∧ s.st.cpus ≤ 64 := S.cpus
 have cl : (s.st.cl.length : Int) = s.st.cpus := S.cl
 have cu : (s.st.cu.length : Int) = s.st.cpus := S.cu
 have g1 := (qo S.gs).1
 have g2 := (qo S.gs).2.1
 replace g1 : 1 ≤ s.st.gs.length := g1
 replace g2 : s.st.gs.length ≤ 256 := g2
 have t1 : s.st.ts.length ≤ 65535 := S.few
 have r1 : s.st.rs.length = s.st.gs.length := by rw [← qac]; exact S.sp
 have hlt := qwh h.ok h.few
 have tc : toU s.st.cpus = s.st.cl.length := by unfold toU; omega
 have l0 := hlt 0; have l1 := hlt 1; have l2 := hlt 2; have l3 := hlt 3; have l4 := hlt 4; have l5 := hlt 5; have l6 := hlt 6
 -- the sections, one after the other
 have d0 := qdg (s := s) (tail := tail) (i := 0) de
 have d1 := qdg (s := s) (tail := tail) (i := 1) de
 have d2 := qdg (s := s) (tail := tail) (i := 2) de
 have d3 := qdg (s := s) (tail := tail) (i := 3) de
 have d4 := qdg (s := s) (tail := tail) (i := 4) de
 have d5 := qdg (s := s) (tail := tail) (i := 5) de
 have d6 := qdg (s := s) (tail := tail) (i := 6) de
 generalize hb : bodyS s ++ tail = b at d0 d1 d2 d3 d4 d5 d6 ⊢
 have e1 : atS s 1 = 3 + (vbytes (toU s.next)).length := by rw [qcb]; show 3 + (vbytes _ ++ []).length = _; rw [List.append_nil]
 have n0 := NumAt.fwd (b := b) (p := 3) (x := toU s.next) (rest := b.drop (atS s 1)) (l0 _ (List.mem_cons_self ..)) (by
  have : b.drop 3 = (vbytes (toU s.next) ++ []) ++ b.drop (atS s 1) := d0
  rwa [List.append_nil] at this)
 rw [← e1] at n0
 have f1 : (secN s 1).flatMap vbytes = vbytes (toU s.st.cpus) ++ (vbytes s.st.credit ++ vbytes s.st.gs.length) := by
  show vbytes _ ++ (vbytes _ ++ (vbytes _ ++ [])) = _
  rw [List.append_nil]
 rw [f1, List.append_assoc, List.append_assoc] at d1
 have n1 := NumAt.fwd (b := b) (l1 _ (List.mem_cons_self ..)) d1
 have n2 := NumAt.fwd (b := b) (l1 s.st.credit (List.mem_cons_of_mem _ (List.mem_cons_self ..))) n1.2
 have n3 := NumAt.fwd (b := b) (l1 s.st.gs.length (List.mem_cons_of_mem _ (List.mem_cons_of_mem _ (List.mem_cons_self ..)))) n2.2
 have e2 : atS s 1 + (vbytes (toU s.st.cpus)).length + (vbytes s.st.credit).length + (vbytes s.st.gs.length).length = atS s 2 := by
  rw [qcb s 1, f1, List.length_append, List.length_append]; omega
 rw [e2] at n3
 have n4 := q7.fwd (n := 2 * (s.st.gs.length - 1)) (by show (upF _ _).length = _; rw [qbv (m := 2) (fun i => rfl)]) l2 d2
 rw [← qcb] at n4
 have n5 := q7.fwd (n := toU s.st.cpus) (by show (List.map _ _).length = _; rw [List.length_map, tc]) l3 d3
 rw [← qcb] at n5
 have n6 := q7.fwd (n := toU s.st.cpus) (by show (List.map _ _).length = _; rw [List.length_map, tc]; omega) l4 d4
 rw [← qcb] at n6
 have f5 : (secN s 5).flatMap vbytes = vbytes s.st.ts.length ++ (prOf s).ts.flatMap vbytes := rfl
 rw [f5, List.append_assoc] at d5
 have n7 := NumAt.fwd (b := b) (l5 s.st.ts.length (List.mem_cons_self ..)) d5
 have n8 := q7.fwd (n := 8 * s.st.ts.length) (xs := (prOf s).ts) (by show (upF _ _).length = _; rw [qbv (m := 8) (fun i => rfl)]) (fun y hy => l5 y (List.mem_cons_of_mem _ hy)) n7.2
 have e6 : atS s 5 + (vbytes s.st.ts.length).length + ((prOf s).ts.flatMap vbytes).length = atS s 6 := by
  rw [qcb s 5, f5, List.length_append]; omega
 rw [e6] at n8
 have ka : ∀ g, g < s.st.rs.length → (s.st.rs.getD g Rw.zero).l.length = toU s.st.cpus := fun g hg => by
  have : ((s.st.rs.getD g Rw.zero).l.length : Int) = s.st.cpus := by rw [← qcl hg]; exact S.rows g (by show g < (rowsL s.st).length; rw [qac]; exact hg)
  rw [tc]; omega
 have n9 := q7.fwd (n := toU s.st.cpus + 3 * toU s.st.cpus * (s.st.gs.length - 1)) (by show (upF _ _).length = _; rw [qr4 ka _ (Nat.le_refl _), if_neg om, r1]) l6 d6
 rw [← qcb] at n9
 have hend : prs b = if atS s 7 ≠ b.length then .error 346 else .ok (prOf s) :=
  n0.1.go1.trans ((n1.1.goC (by rw [tc]; omega)).trans (n2.1.go1.trans ((n3.1.goC om).trans (n4.1.goK.trans (n5.1.goK.trans (n6.1.goK.trans ((n7.1.goC om).trans (n8.1.goK.trans n9.1.goK))))))))
 rw [hend, at_end, ← hb, List.length_append]
 rcases tail with _ | ⟨y, t⟩
 ·rw [if_neg (by simp), if_pos rfl]
 ·rw [if_pos (by simp), if_neg (by simp)]
theorem q58 (h : SnRight s) (hm : (sealL (bodyS s)).length ≤ 16777216) : opnR (sealL (bodyS s)) = .ok (prOf s) := by
 have hl := h.len.1
 have h3 : sealL (bodyS s) = 113 :: 115 :: 1 :: ((numsS s).flatMap vbytes ++ le4 (qp (bodyS s))) := rfl
 have ht : (sealL (bodyS s)).take ((sealL (bodyS s)).length - 4) = bodyS s := by
  rw [zj, Nat.add_sub_cancel]
  unfold sealL
  rw [List.take_left' rfl]
 rw [qpz om om qda (by rw [h3]; exact ⟨rfl, rfl⟩) (by rw [h3]; rfl), ht]
 have := qyx (tail := []) h
 rwa [List.append_nil, if_pos rfl] at this
end
section
variable {α : Type} {b : List Nat} {a n : Nat} {p : α}
theorem qhi {k : Nat → Nat → Except Nat α} (h : num1 b a k = .ok p) : ∃ x e, NumAt b a x e ∧ k x e = .ok p := by
 rcases qkn b a with h2 | ⟨x, e, h2⟩
 ·rw [qly h2] at h; cases h
 ·rw [h2.go1] at h; exact ⟨x, e, h2, h⟩
theorem qbh {k : List Nat → Nat → Except Nat α} (h : numK b n a k = .ok p) : ∃ xs e, q7 b n a xs e ∧ k xs e = .ok p := by
 rcases qgp b n a with h2 | ⟨x, e, h2⟩
 ·rw [qgo h2] at h; cases h
 ·rw [h2.goK] at h; exact ⟨x, e, h2, h⟩
theorem qeg {lo hi : Nat} {k : Nat → Nat → Except Nat α} (h : cnt1 b a lo hi k = .ok p) : ∃ x e, NumAt b a x e ∧ (lo ≤ x ∧ x ≤ hi) ∧ k x e = .ok p := by
 rcases qrw b a lo hi with h2 | ⟨x, e, h2, h3⟩ | ⟨x, e, h2, h3⟩
 ·rw [qlz h2] at h; cases h
 ·rw [h2.bad h3] at h; cases h
 ·rw [h2.goC h3] at h; exact ⟨x, e, h2, by omega, h⟩
end
section
variable {b : List Nat} {p x e n : Nat} {xs : List Nat}
theorem NumAt.bytes (h : NumAt b p x e) (hl : ∀ z ∈ b, z < 256) : b.drop p = vbytes x ++ b.drop e := by
 rw [qki (fun z hz => hl z (List.mem_of_mem_drop hz)) h.1]
 have := List.take_append_drop (e - p) (b.drop p)
 rw [List.drop_drop, h.eq] at this
 exact this.symm
theorem q7.bytes (h : q7 b n p xs e) (hl : ∀ z ∈ b, z < 256) : b.drop p = xs.flatMap vbytes ++ b.drop e ∧ ∀ x ∈ xs, x < 18446744073709551616 := by
 obtain ⟨h1, _, h3, _⟩ := qkj n _ xs _ (fun z hz => hl z (List.mem_of_mem_drop hz)) h.1
 refine ⟨?_, h3⟩
 rw [h1]
 have := List.take_append_drop (e - p) (b.drop p)
 rw [List.drop_drop, h.eq] at this
 exact this.symm
end
structure Pr.Fit (p : Pr) : Prop where
 cp1 : 1 ≤ p.cp
 cp2 : p.cp ≤ 64
 gp1 : 1 ≤ p.gp
 gp2 : p.gp ≤ 256
 tk : p.tk ≤ 65535
 gs : p.gs.length = 2 * (p.gp - 1)
 cl : p.cl.length = p.cp
 cu : p.cu.length = p.cp
 ts : p.ts.length = 8 * p.tk
 sp : p.sp.length = p.cp + 3 * p.cp * (p.gp - 1)
 lt : ∀ x ∈ p.nums, x < 18446744073709551616
theorem q59 {b : List Nat} {p : Pr} (hb : 3 ≤ b.length) (hl : ∀ z ∈ b, z < 256) (h : prs b = .ok p) : p.Fit ∧ b.drop 3 = p.nums.flatMap vbytes := by
 obtain ⟨nx, e1, h1, h⟩ := qhi h
 obtain ⟨cp, a1, h2, c2, h⟩ := qeg h
 obtain ⟨cr, a2, h3, h⟩ := qhi h
 obtain ⟨gp, e2, h4, c4, h⟩ := qeg h
 obtain ⟨gs, e3, h5, h⟩ := qbh h
 obtain ⟨cl, e4, h6, h⟩ := qbh h
 obtain ⟨cu, e5, h7, h⟩ := qbh h
 obtain ⟨tk, a3, h8, c8, h⟩ := qeg h
 obtain ⟨ts, e6, h9, h⟩ := qbh h
 obtain ⟨sp, e7, h10, h⟩ := qbh h
 unfold prs10 at h
 split at h
 ·cases h
 rename_i he
 injection h with h
 subst h
 have i1 := h1.in hb
 have i2 := h2.in i1.2
 have i3 := h3.in i2.2
 have i4 := h4.in i3.2
 have i5 := h5.in i4.2
 have i6 := h6.in i5.2.2
 have i7 := h7.in i6.2.2
 have i8 := h8.in i7.2.2
 have i9 := h9.in i8.2
 have i10 := h10.in i9.2.2
 have b5 := h5.bytes hl
 have b6 := h6.bytes hl
 have b7 := h7.bytes hl
 have b9 := h9.bytes hl
 have b10 := h10.bytes hl
 have hend : b.drop e7 = [] := List.drop_eq_nil_of_le om
 refine ⟨⟨c2.1, c2.2, c4.1, c4.2, c8.2, i5.1, i6.1, i7.1, i9.1, i10.1, fun x hx => ?_⟩, ?_⟩
 ·simp only [Pr.nums, List.mem_append, List.mem_cons, List.not_mem_nil, or_false] at hx
  rcases hx with (((((((rfl | rfl | rfl | rfl) | hx) | hx) | hx) | rfl) | hx) | hx)
  ·exact h1.lt hl
  ·exact h2.lt hl
  ·exact h3.lt hl
  ·exact h4.lt hl
  ·exact b5.2 x hx
  ·exact b6.2 x hx
  ·exact b7.2 x hx
  ·exact h8.lt hl
  ·exact b9.2 x hx
  ·exact b10.2 x hx
 ·rw [h1.bytes hl, h2.bytes hl, h3.bytes hl, h4.bytes hl, b5.1, b6.1, b7.1, h8.bytes hl, b9.1, b10.1, hend]
  simp [Pr.nums]
def toI (x : Nat) : Int := Go.IntKind.i64.wrap (x : Int)
def mostI : Nat := 4611686018427387904
def mapR {α : Type} (n : Nat) (f : Nat → α) : List α := (List.range n).map f
theorem qdh {α : Type} (n : Nat) (f : Nat → α) : (mapR n f).length = n := by simp [mapR]
theorem qa6 {α : Type} (n : Nat) (f : Nat → α) : mapR (n + 1) f = mapR n f ++ [f n] := by unfold mapR; rw [List.range_succ, List.map_append]; rfl
theorem q2j {α β : Type} (n : Nat) (f : Nat → α) (g : α → β) : (mapR n f).map g = mapR n fun i => g (f i) := by unfold mapR; rw [List.map_map]; rfl
theorem qod {l : List Nat} {n : Nat} (h : l.length = n) (f : Nat → Int) : (mapR n fun i => f (l.getD i 0)) = l.map f := by
 subst h
 refine List.ext_getElem (by simp [mapR]) fun i h1 h2 => ?_
 have h3 : i < l.length := by simpa using h2
 simp [mapR, List.getElem?_eq_getElem h3]
def Pr.grp (p : Pr) (g : Nat) : Gr := if g = 0 then ⟨0, 1⟩ else ⟨toI (p.gs.getD (2 * (g - 1)) 0), toI (p.gs.getD (2 * (g - 1) + 1) 0)⟩
def Pr.tn (p : Pr) (i j : Nat) : Nat := p.ts.getD (8 * i + j) 0
def Pr.idB (p : Pr) : Nat → Int
 | 0 => 0
 | i + 1 => if 65535 < Go.IntKind.i64.wrap (p.idB i + toI (p.tn i 0)) then 65535 else Go.IntKind.i64.wrap (p.idB i + toI (p.tn i 0))
def Pr.idA (p : Pr) (i : Nat) : Int := Go.IntKind.i64.wrap (p.idB i + toI (p.tn i 0))
def Pr.tsk (p : Pr) (i : Nat) : Tk := ⟨p.idA i, toI (p.tn i 1), toI (p.tn i 2), toI (p.tn i 3), p.tn i 4, decide (p.tn i 5 = 1), p.tn i 6, p.tn i 7 % 4294967296⟩
def Pr.so (p : Pr) (g c : Nat) : Nat := if g = 0 then c else p.cp + 3 * p.cp * (g - 1) + 3 * c
def Pr.sn (p : Pr) (g c j : Nat) : Nat := p.sp.getD (p.so g c + j) 0
def Pr.spt (p : Pr) (g c : Nat) : Sp := if g = 0 then ⟨0, 0, p.sn g c 0⟩ else ⟨p.sn g c 0, p.sn g c 1 % 4294967296, p.sn g c 2⟩
def Pr.row (p : Pr) (g : Nat) : List Sp := mapR p.cp (p.spt g)
def Pr.snA (p : Pr) : Snm := ⟨toI p.nx, ⟨(p.cp : Int), p.cr, none, 0, mapR p.gp p.grp, none, 0, p.cl.map toI, none, 0, p.cu.map toI, none, 0, mapR p.tk p.tsk, none, 0, mapR p.gp fun g => ⟨none, 0, p.row g⟩⟩⟩
def dle (x m : Nat) : Bool := decide (x ≤ m)
def Pr.ok0 (p : Pr) : Bool := (((true && dle p.nx mostI) && dle p.cp mostI) && dle p.cr 18446744073709551615) && dle p.gp mostI
def Pr.okG (p : Pr) : Nat → Bool
 | 0 => p.ok0
 | g + 1 => if g = 0 then p.ok0 else (p.okG g && dle (p.gs.getD (2 * (g - 1)) 0) mostI) && dle (p.gs.getD (2 * (g - 1) + 1) 0) mostI
def Pr.okC (p : Pr) : Nat → Bool
 | 0 => p.okG p.gp
 | k + 1 => p.okC k && dle (p.cl.getD k 0) mostI
def Pr.okU (p : Pr) : Nat → Bool
 | 0 => p.okC p.cp
 | k + 1 => p.okU k && dle (p.cu.getD k 0) mostI
def Pr.okT (p : Pr) : Nat → Bool
 | 0 => p.okU p.cp && dle p.tk mostI
 | i + 1 => ((((((((p.okT i && dle (p.tn i 0) mostI) && dle (p.tn i 1) mostI) && dle (p.tn i 2) mostI) && dle (p.tn i 3) mostI) && dle (p.tn i 4) 18446744073709551615) && dle (p.tn i 5) 1) && dle (p.tn i 6) 18446744073709551615) && dle (p.tn i 7) 4294967295) && decide (p.idA i ≤ 65535)
def Pr.okR (p : Pr) (base : Bool) (g : Nat) : Nat → Bool
 | 0 => base
 | c + 1 => if g = 0 then p.okR base g c && dle (p.sn g c 0) 18446744073709551615 else ((p.okR base g c && dle (p.sn g c 0) 18446744073709551615) && dle (p.sn g c 1) 4294967295) && dle (p.sn g c 2) 18446744073709551615
def Pr.okS (p : Pr) : Nat → Bool
 | 0 => p.okT p.tk
 | g + 1 => p.okR (p.okS g) g p.cp
def Pr.okB (p : Pr) : Bool := p.okS p.gp
section
variable {p : Pr} (h : p.Fit)
def Pr.oC (p : Pr) : Nat := 4 + 2 * (p.gp - 1)
def Pr.oT (p : Pr) : Nat := p.oC + 2 * p.cp
def Pr.oS (p : Pr) : Nat := p.oT + 1 + 8 * p.tk
theorem qfz {l m : List Nat} {k : Nat} (hk : k < l.length) : (l ++ m).getD k 0 = l.getD k 0 := by
 rw [List.getD_eq_getElem?_getD, List.getElem?_append_left hk, ← List.getD_eq_getElem?_getD]
theorem qc3 {l m : List Nat} {k j : Nat} (hk : k = l.length + j) : (l ++ m).getD k 0 = m.getD j 0 := by
 rw [List.getD_eq_getElem?_getD, List.getElem?_append_right om, ← List.getD_eq_getElem?_getD, hk, Nat.add_sub_cancel_left]
theorem q2k (p : Pr) : p.nums.getD 0 0 = p.nx ∧ p.nums.getD 1 0 = p.cp ∧ p.nums.getD 2 0 = p.cr ∧ p.nums.getD 3 0 = p.gp := by
 unfold Pr.nums
 simp [List.append_assoc]
include h in
theorem q2l : p.nums.length = p.oS + p.sp.length ∧ p.sp.length = p.cp + 3 * p.cp * (p.gp - 1) := by
 unfold Pr.nums Pr.oS Pr.oT Pr.oC
 simp only [List.length_append, List.length_cons, List.length_nil, h.gs, h.cl, h.cu, h.ts]
 exact ⟨by omega, h.sp⟩
include h in
theorem qyy {j : Nat} (hj : j < 2 * (p.gp - 1)) : p.nums.getD (4 + j) 0 = p.gs.getD j 0 := by
 have := h.gs
 unfold Pr.nums
 rw [List.append_assoc, List.append_assoc, List.append_assoc, List.append_assoc, List.append_assoc, qc3 (l := [p.nx, p.cp, p.cr, p.gp]) (k := 4 + j) (j := j) rfl, qfz om]
include h in
theorem q6a {j : Nat} (hj : j < p.cp) : p.nums.getD (p.oC + j) 0 = p.cl.getD j 0 := by
 have := h.gs
 have := h.cl
 unfold Pr.nums Pr.oC
 rw [List.append_assoc, List.append_assoc, List.append_assoc, List.append_assoc, qc3 (j := j) (by simp only [List.length_append, List.length_cons, List.length_nil]; omega), qfz om]
include h in
theorem q6b {j : Nat} (hj : j < p.cp) : p.nums.getD (p.oC + p.cp + j) 0 = p.cu.getD j 0 := by
 have := h.gs
 have := h.cl
 have := h.cu
 unfold Pr.nums Pr.oC
 rw [List.append_assoc, List.append_assoc, List.append_assoc, qc3 (j := j) (by simp only [List.length_append, List.length_cons, List.length_nil]; omega), qfz om]
include h in
theorem q6c : p.nums.getD p.oT 0 = p.tk := by
 have := h.gs
 have := h.cl
 have := h.cu
 unfold Pr.nums Pr.oT Pr.oC
 rw [List.append_assoc, List.append_assoc, qc3 (j := 0) (by simp only [List.length_append, List.length_cons, List.length_nil]; omega)]
 rfl
include h in
theorem qdy {j : Nat} (hj : j < 8 * p.tk) : p.nums.getD (p.oT + 1 + j) 0 = p.ts.getD j 0 := by
 have := h.gs
 have := h.cl
 have := h.cu
 have := h.ts
 unfold Pr.nums Pr.oT Pr.oC
 rw [List.append_assoc, qc3 (j := j) (by simp only [List.length_append, List.length_cons, List.length_nil]; omega), qfz om]
include h in
theorem ql4 (j : Nat) : p.nums.getD (p.oS + j) 0 = p.sp.getD j 0 := by
 have := h.gs
 have := h.cl
 have := h.cu
 have := h.ts
 unfold Pr.nums Pr.oS Pr.oT Pr.oC
 rw [qc3 (j := j) (by simp only [List.length_append, List.length_cons, List.length_nil]; omega)]
theorem ql5 (p : Pr) (c : Nat) : p.so 0 c = c := if_pos rfl
theorem qoe {g : Nat} (hg : 0 < g) (c : Nat) : p.so g c = p.cp + 3 * p.cp * (g - 1) + 3 * c := if_neg om
theorem q6d {g : Nat} : p.so (g + 1) 0 = p.so g p.cp := by
 rw [qoe om]
 rcases Nat.eq_zero_or_pos g with h0 | h0
 ·subst h0; rw [ql5]; omega
 ·rw [qoe h0, show g + 1 - 1 = (g - 1) + 1 by omega, Nat.mul_succ]; omega
include h in
theorem so_in {g c : Nat} (hg : g < p.gp) (hc : c < p.cp) : p.so g c + (if g = 0 then 1 else 3) ≤ p.sp.length := by
 rw [h.sp]
 rcases Nat.eq_zero_or_pos g with h0 | h0
 ·subst h0; rw [ql5, if_pos rfl]; omega
 ·rw [qoe h0, if_neg om]
  have : 3 * p.cp * (g - 1) + 3 * p.cp ≤ 3 * p.cp * (p.gp - 1) := by
   rw [← Nat.mul_succ]
   exact Nat.mul_le_mul_left _ om
  omega
end
def srcA (A : Option Addr) (c : Nat) : Nat → Option Addr
 | 0 => A
 | k + 1 => if c - k = 1 then srcA A c k else (srcA A c k).map (·.add (1 * 1))
theorem qyz {w : World} {B c : Nat} {A : Option Addr} {q : List Nat} (h : Rd w B 1 A q.length (q.map U64)) (hc : q.length ≤ c) : ∀ k, k ≤ q.length → Rd w B 1 (srcA A c k) (q.length - k) ((q.drop k).map U64)
 | 0, _ => h
 | k + 1, hk => by
  have h1 := qyz h hc k om
  have h2 := h1.mid (i := 1) (j := q.length - k) (c := c - k) om (Nat.le_refl _) om
  simp only [Nat.mul_one] at h2
  rw [← List.map_take, ← List.map_drop, List.take_of_length_le (by rw [List.length_drop]; omega), List.drop_drop] at h2
  rw [show q.length - (k + 1) = q.length - k - 1 by omega]
  exact h2
theorem q8l {w : World} {B c k gS oS : Nat} {A : Option Addr} {q : List Nat} (h : Rd w B 1 A q.length (q.map U64)) (hc : q.length ≤ c) (hk : k < q.length) (hA : srcA A c k = some ⟨gS, oS, none⟩) : w.cell? ⟨gS, oS, none⟩ = some (.int .u64 (q.getD k 0 : Int)) := by
 have h1 := qyz h hc k om
 rw [hA] at h1
 have h2 := h1.qzo (k := 0) (qmn (F := U64) (x := q.getD k 0) (by rw [List.getElem?_drop, List.getD_eq_getElem?_getD, Nat.add_zero, List.getElem?_eq_getElem hk]; rfl))
 rwa [Nat.zero_mul, Nat.add_zero] at h2
theorem q6e (x : Nat) : toI x = ((x : Int) + 9223372036854775808) % 18446744073709551616 - 9223372036854775808 := by unfold toI; rw [Go.IntKind.wrap_i64]
theorem qp5 {x : Nat} (h : x ≤ 4611686018427387904) : toI x = x := by rw [q6e]; omega
def Pr.idC (p : Pr) : Nat → Int
 | 0 => 0
 | i + 1 => Go.IntKind.i64.wrap (p.idC i + toI (p.tn i 0))
def Pr.tskB (p : Pr) (i : Nat) : Tk := ⟨p.idC (i + 1), toI (p.tn i 1), toI (p.tn i 2), toI (p.tn i 3), p.tn i 4, decide (0 < p.tn i 5), p.tn i 6, p.tn i 7 % 4294967296⟩
def Pr.snB (p : Pr) : Snm := ⟨toI p.nx, ⟨(p.cp : Int), p.cr, none, 0, mapR p.gp p.grp, none, 0, p.cl.map toI, none, 0, p.cu.map toI, none, 0, mapR p.tk p.tskB, none, 0, mapR p.gp fun g => ⟨none, 0, p.row g⟩⟩⟩
structure Pr.Low (p : Pr) : Prop where
 t5 : ∀ i, i < p.tk → p.tn i 5 ≤ 1
 t7 : ∀ i, i < p.tk → p.tn i 7 ≤ 4294967295
 s1 : ∀ g, g < p.gp → 0 < g → ∀ c, c < p.cp → p.sn g c 1 ≤ 4294967295
section
variable {p : Pr}
theorem q8m (x : Nat) (h : x ∈ p.ts) : x ∈ p.nums := by simp [Pr.nums, h]
theorem q8n (x : Nat) (h : x ∈ p.sp) : x ∈ p.nums := by simp [Pr.nums, h]
theorem qr5 {l : List Nat} {n : Nat} (h : ∀ x ∈ l, x < n) (hn : 0 < n) (k : Nat) : l.getD k 0 < n := by
 rw [List.getD_eq_getElem?_getD]
 rcases Nat.lt_or_ge k l.length with h1 | h1
 ·rw [List.getElem?_eq_getElem h1]; exact h _ (List.getElem_mem h1)
 ·rw [List.getElem?_eq_none h1]; exact hn
variable (h : p.Fit)
include h
theorem tn_lt (i j : Nat) : p.tn i j < 18446744073709551616 := qr5 (fun x hx => h.lt x (q8m x hx)) de _
theorem sn_lt (g c j : Nat) : p.sn g c j < 18446744073709551616 := qr5 (fun x hx => h.lt x (q8n x hx)) de _
theorem cr_lt : p.cr < 18446744073709551616 := h.lt _ (by simp [Pr.nums])
end
section
variable {p : Pr}
end
section
variable {p : Pr} (h : p.Fit)
include h
end
section
variable {p : Pr}
end
theorem qy0 (x : Int) : I64 (Go.IntKind.i64.wrap x) := by rw [Go.IntKind.wrap_i64]; unfold I64; omega
theorem qkp (x : Nat) : I64 (toI x) := qy0 _
theorem qhj {α : Type} {n : Nat} {f : Nat → α} {q : α → Prop} (h : ∀ i, i < n → q (f i)) : ∀ x ∈ mapR n f, q x := by
 intro x hx
 obtain ⟨i, hi, rfl⟩ := List.mem_map.1 hx
 exact h i (List.mem_range.1 hi)
section
variable {p : Pr} (h : p.Fit)
include h
theorem q8o (g : Nat) : (p.grp g).Ok := by
 unfold Pr.grp
 split
 ·exact ⟨by unfold I64; decide, by unfold I64; decide⟩
 ·exact ⟨qkp _, qkp _⟩
theorem q8p (g c : Nat) : (p.spt g c).Ok := by
 have t0 := sn_lt h g c 0
 have t2 := sn_lt h g c 2
 unfold Pr.spt
 split
 ·exact ⟨show 0 < 18446744073709551616 by decide, show 0 < 4294967296 by decide, t0⟩
 ·exact ⟨t0, Nat.mod_lt _ de, t2⟩
theorem cp_in : I64 (p.cp : Int) := by have := h.cp2; unfold I64; omega
theorem qy1 (l : List Nat) : ∀ x ∈ l.map toI, I64 x := by
 intro x hx
 obtain ⟨y, _, rfl⟩ := List.mem_map.1 hx
 exact qkp y
theorem rows_ok : ∀ l ∈ (mapR p.gp fun g => (⟨none, 0, p.row g⟩ : Rw)).map Rw.l, ∀ x ∈ l, Sp.Ok x := by
 intro l hl
 obtain ⟨y, hy, rfl⟩ := List.mem_map.1 hl
 obtain ⟨g, _, rfl⟩ := List.mem_map.1 hy
 exact qhj fun c _ => q8p h g c
theorem q6f (i : Nat) : (p.tsk i).Ok := ⟨qy0 _, qkp _, qkp _, qkp _, tn_lt h i 4, tn_lt h i 6, Nat.mod_lt _ de⟩
theorem q8q : p.snA.st.sta.Ok := ⟨cp_in h, cr_lt h, qhj fun g _ => q8o h g, qy1 h _, qy1 h _, qhj fun i _ => q6f h i, rows_ok h⟩
theorem ql6 {l : List Nat} {n : Nat} (hl : l.length = n) (hn : n ≤ 1000000) : (l.map toI).length ≤ 1000000 := by rw [List.length_map]; omega
theorem qr6 : ∀ y ∈ mapR p.gp fun g => (⟨none, 0, p.row g⟩ : Rw), y.l.length ≤ 1000000 := qhj fun g _ => by
 have := h.cp2
 show (p.row g).length ≤ 1000000
 unfold Pr.row
 rw [qdh]
 omega
theorem q8r (s : Snm) (hs : s = p.snA ∨ s = p.snB) : StFew s.st := by
 have h1 := h.cp2
 have h2 := h.gp2
 have h3 := h.tk
 rcases hs with rfl | rfl
 ·exact ⟨by show (mapR _ _).length ≤ _; rw [qdh]; omega, ql6 h h.cl om, ql6 h h.cu om, by show (mapR _ _).length ≤ _; rw [qdh]; omega, by show (mapR _ _).length ≤ _; rw [qdh]; omega, qr6 h⟩
 ·exact ⟨by show (mapR _ _).length ≤ _; rw [qdh]; omega, ql6 h h.cl om, ql6 h h.cu om, by show (mapR _ _).length ≤ _; rw [qdh]; omega, by show (mapR _ _).length ≤ _; rw [qdh]; omega, qr6 h⟩
end
theorem qy2 {l : List Nat} {p : Pr} (hl : ∀ z ∈ l, z < 256) (h : opnR l = .ok p) : 15 ≤ l.length ∧ l.length ≤ 16777216 ∧ p.Fit ∧ l = sealL ([113, 115, 1] ++ p.nums.flatMap vbytes) := by
 unfold opnR at h
 split at h
 ·cases h
 rename_i h1
 split at h
 ·cases h
 rename_i h2
 split at h
 ·cases h
 rename_i h3
 split at h
 ·cases h
 rename_i h4
 split at h
 ·cases h
 rename_i h5
 have h4 : l.getD 0 0 = 113 ∧ l.getD 1 0 = 115 := Decidable.of_not_not h4
 have h5 : l.getD 2 0 = 1 := Decidable.of_not_not h5
 have hs : zy l = true := by cases hq : zy l with | true => rfl | false => exact absurd hq h3
 have hlen : (l.take (l.length - 4)).length = l.length - 4 := by rw [List.length_take]; omega
 obtain ⟨hf, hd⟩ := q59 om (fun z hz => hl z (List.mem_of_mem_take hz)) h
 refine ⟨by omega, by omega, hf, ?_⟩
 rw [← hd]
 have e : ([113, 115, 1] : List Nat) = (l.take (l.length - 4)).take 3 := by
  rw [List.take_take, show min 3 (l.length - 4) = 3 by omega]
  match l, h1, h4, h5 with
  | a :: b :: c :: r, _, h4, h5 =>
   have h6 : a = 113 := h4.1
   have h7 : b = 115 := h4.2
   have h8 : c = 1 := h5
   subst h6; subst h7; subst h8
   rfl
  | [], h1, _, _ => exact absurd de h1
  | [_], h1, _, _ => exact absurd (by simp) h1
  | [_, _], h1, _, _ => exact absurd (by simp) h1
 rw [e, List.take_append_drop, q4f hl hs]
def rdE (l : List Nat) : Nat := match opnR l with
 | .ok p => if p.okB = true ∧ chkS p.snA = 0 then 0 else 347
 | .error k => k
def qf0 : Snm := ⟨0, ⟨0, 0, none, 0, [], none, 0, [], none, 0, [], none, 0, [], none, 0, []⟩⟩
def rdS (l : List Nat) : Snm := match opnR l with
 | .ok p => if p.okB = true ∧ chkS p.snA = 0 then p.snA else qf0
 | .error _ => qf0
section
variable {l : List Nat} {p : Pr} {k : Nat}
theorem rd_no (h : opnR l = .error k) : rdE l = k ∧ rdS l = qf0 := by unfold rdE rdS; rw [h]; exact ⟨rfl, rfl⟩
theorem qr7 (h : opnR l = .ok p) (h2 : ¬ (p.okB = true ∧ chkS p.snA = 0)) : rdE l = 347 ∧ rdS l = qf0 := by unfold rdE rdS; rw [h]; exact ⟨if_neg h2, if_neg h2⟩
theorem q8s (h : opnR l = .ok p) (h2 : p.okB = true ∧ chkS p.snA = 0) : rdE l = 0 ∧ rdS l = p.snA := by unfold rdE rdS; rw [h]; exact ⟨if_pos h2, if_pos h2⟩
end
theorem q2m {b : List Nat} {p : Pr} (hb : 3 ≤ b.length) (h : prs b = .ok p) : 3 ≤ p.e1 ∧ p.e1 ≤ p.e2 ∧ p.e2 ≤ p.e3 ∧ p.e3 ≤ p.e4 ∧ p.e4 ≤ p.e5 ∧ p.e5 ≤ p.e6 ∧ p.e6 ≤ p.e7 ∧ p.e7 = b.length := by
 obtain ⟨nx, e1, h1, h⟩ := qhi h
 obtain ⟨cp, a1, h2, c2, h⟩ := qeg h
 obtain ⟨cr, a2, h3, h⟩ := qhi h
 obtain ⟨gp, e2, h4, c4, h⟩ := qeg h
 obtain ⟨gs, e3, h5, h⟩ := qbh h
 obtain ⟨cl, e4, h6, h⟩ := qbh h
 obtain ⟨cu, e5, h7, h⟩ := qbh h
 obtain ⟨tk, a3, h8, c8, h⟩ := qeg h
 obtain ⟨ts, e6, h9, h⟩ := qbh h
 obtain ⟨sp, e7, h10, h⟩ := qbh h
 unfold prs10 at h
 split at h
 ·cases h
 rename_i he
 injection h with h
 subst h
 have i1 := h1.2
 have i2 := h2.2
 have i3 := h3.2
 have i4 := h4.2
 have i5 := h5.2
 have i6 := h6.2
 have i7 := h7.2
 have i8 := h8.2
 have i9 := h9.2
 have i10 := h10.2
 refine ⟨i1, ?_, i5, i6, i7, ?_, i10, Decidable.of_not_not he⟩
 ·show e1 ≤ e2; omega
 ·show e5 ≤ e6; omega
theorem q2n {l : List Nat} {p : Pr} (hl : ∀ z ∈ l, z < 256) (h : opnR l = .ok p) : 3 ≤ p.e1 ∧ p.e1 ≤ p.e2 ∧ p.e2 ≤ p.e3 ∧ p.e3 ≤ p.e4 ∧ p.e4 ≤ p.e5 ∧ p.e5 ≤ p.e6 ∧ p.e6 ≤ p.e7 ∧ p.e7 + 4 = l.length := by
 have h0 := qy2 hl h
 unfold opnR at h
 repeat (split at h; · cases h)
 have hlen : (l.take (l.length - 4)).length = l.length - 4 := by rw [List.length_take]; omega
 have := q2m om h
 omega
theorem ql7 (p : Pr) : p.secs.length = 9 := rfl
theorem q3y {l : List Nat} {p : Pr} (hl : ∀ z ∈ l, z < 256) (h : opnR l = .ok p) {i : Nat} (hi : i < p.secs.length) : (p.secs.getD i Sec.zero).fr ≤ (p.secs.getD i Sec.zero).to ∧ (p.secs.getD i Sec.zero).to ≤ l.length := by
 obtain ⟨h1, h2, h3, h4, h5, h6, h7, h8⟩ := q2n hl h
 rw [ql7] at hi
 unfold Pr.secs qd
 match i, hi with
 | 0, _ => exact ⟨Nat.zero_le _, show 3 ≤ l.length by omega⟩
 | 1, _ => exact ⟨h1, show p.e1 ≤ l.length by omega⟩
 | 2, _ => exact ⟨h2, show p.e2 ≤ l.length by omega⟩
 | 3, _ => exact ⟨h3, show p.e3 ≤ l.length by omega⟩
 | 4, _ => exact ⟨h4, show p.e4 ≤ l.length by omega⟩
 | 5, _ => exact ⟨h5, show p.e5 ≤ l.length by omega⟩
 | 6, _ => exact ⟨h6, show p.e6 ≤ l.length by omega⟩
 | 7, _ => exact ⟨h7, show p.e7 ≤ l.length by omega⟩
 | 8, _ => exact ⟨show p.e7 ≤ p.e7 + 4 by omega, show p.e7 + 4 ≤ l.length by omega⟩
def cutB (l : List Nat) (x : Sec) : List Nat := (l.take x.to).drop x.fr
theorem q3z {l : List Nat} (hl : ∀ z ∈ l, z < 256) (x : Sec) : ∀ z ∈ cutB l x, z < 256 := fun z hz => hl z (List.mem_of_mem_take (List.mem_of_mem_drop hz))
theorem q30 {w : World} {B c : Nat} {A : Option Addr} {l : List Nat} {x : Sec} (h : Rd w B 1 A l.length (l.map B8)) (h1 : x.fr ≤ x.to ∧ x.to ≤ l.length) (hc : l.length ≤ c) : Rd w B 1 (if c = x.fr then A else A.map (·.add (x.fr * 1))) (x.to - x.fr) ((cutB l x).map B8) := h.q89 h1.1 h1.2 hc
def difF (a b : List Nat) (X Y : List Sec) : Nat → Nat → ByteArray
 | 0, _ => ⟨#[]⟩
 | f + 1, i => if cutB a (X.getD i Sec.zero) = cutB b (Y.getD i Sec.zero) then difF a b X Y f (i + 1) else (X.getD i Sec.zero).nm
def difE (a b : List Nat) : Nat := if errR a = 0 then errR b else errR a
def difN (a b : List Nat) : ByteArray := match opnR a, opnR b with
 | .ok p, .ok q => difF a b p.secs q.secs 9 0
 | _, _ => ⟨#[]⟩
section
variable {a b : List Nat} {p q : Pr} {k : Nat} {X Y : List Sec} {i : Nat}
theorem q6g (h : opnR a = .error k) : difE a b = k ∧ difN a b = ⟨#[]⟩ := by
 have := qgq h
 unfold difE difN
 rw [qdd h, h, if_neg om]
 exact ⟨rfl, rfl⟩
theorem q6h (h : opnR a = .ok p) (h2 : opnR b = .error k) : difE a b = k ∧ difN a b = ⟨#[]⟩ := by
 unfold difE difN
 rw [qey h, qdd h2, h, h2, if_pos rfl]
 exact ⟨rfl, rfl⟩
theorem q8t (h : opnR a = .ok p) (h2 : opnR b = .ok q) : difE a b = 0 ∧ difN a b = difF a b p.secs q.secs (9 - 0) 0 := by
 unfold difE difN
 rw [qey h, qey h2, h, h2, if_pos rfl]
 exact ⟨rfl, rfl⟩
theorem q2o (hi : i < 9) (h : cutB a (X.getD i Sec.zero) = cutB b (Y.getD i Sec.zero)) : difF a b X Y (9 - i) i = difF a b X Y (9 - (i + 1)) (i + 1) := by
 rw [show 9 - i = (9 - (i + 1)) + 1 by omega]
 exact if_pos h
theorem q2p (hi : i < 9) (h : ¬ cutB a (X.getD i Sec.zero) = cutB b (Y.getD i Sec.zero)) : difF a b X Y (9 - i) i = (X.getD i Sec.zero).nm := by
 rw [show 9 - i = (9 - (i + 1)) + 1 by omega]
 exact if_neg h
theorem q6i (hi : ¬ i < 9) : difF a b X Y (9 - i) i = ⟨#[]⟩ := by
 rw [show 9 - i = 0 by omega]
 rfl
end
theorem Mem.zeroSt {W w : World} (h : Mem W w []) : Mem W w (stF qf0.st) := ((((h.nil 64 1).nil 61 8).nil 3 1).nil 3 1).nil 110 2
theorem q2q : StCap qf0.st := ⟨Nat.le_refl _, Nat.le_refl _, Nat.le_refl _, Nat.le_refl _, Nat.le_refl _, fun y hy => by cases hy⟩
theorem qy3 (s : Snm) : SnEq s s := sn_of rfl (qtg _)
def qr8 (w : World) (er : Nat) (s : Snm) (r : Ending) (w' : World) : Prop := ∃ z : Snm, r = .returned (.tuple #[.agg z.cells, .int .i64 (er : Int)]) ∧ SnEq s z ∧ StCap z.st ∧ Mem w w' (stF z.st)
theorem qe1 {w w' : World} {er k : Nat} {s : Snm} {r : Ending} (h : er = k ∧ s = qf0) (hr : r = .returned (.tuple #[.agg qf0.cells, .int .i64 (k : Int)])) (I : Mem w w' []) : qr8 w er s r w' := by
 obtain ⟨rfl, rfl⟩ := h
 exact ⟨qf0, hr, qy3 _, q2q, I.zeroSt⟩
theorem qy4 {w w' : World} {er : Nat} {s t z : Snm} {r : Ending} (h : er = 0 ∧ s = t) (hr : r = .returned (.tuple #[.agg z.cells, .int .i64 0])) (hz : SnEq t z) (hc : StCap z.st) (I : Mem w w' (stF z.st)) : qr8 w er s r w' := by
 obtain ⟨rfl, rfl⟩ := h
 exact ⟨z, hr, hz, hc, I⟩
theorem q8u {s z : Snm} (h : SnEq s z) (hok : s.st.sta.Ok) : z.st.sta.Ok := by rw [qq0 (qwo h)]; exact hok
theorem qy5 {m k : Nat} (h : 0 < k) : m ^^^ k ≠ m := fun h1 => by
 have h2 : m ^^^ (m ^^^ k) = m ^^^ m := by rw [h1]
 rw [← Nat.xor_assoc, Nat.xor_self, Nat.zero_xor] at h2
 omega
theorem pw_lt {m k : Nat} (hm : m < 256) (hk : k < 256) : m ^^^ k < 256 := Nat.xor_lt_two_pow (n := 8) hm hk
theorem qof {l : List Nat} {k v : Nat} (hl : ∀ b ∈ l, b < 256) (hv : v < 256) : ∀ b ∈ l.set k v, b < 256 := fun b hb => by
 rcases List.mem_or_eq_of_mem_set hb with h | rfl
 ·exact hl b h
 ·exact hv
theorem q6j {w : World} {B : Nat} {A : Option Addr} {l : List Nat} (h : Rd w B 1 A (sealL l).length ((sealL l).map B8)) : Rd w B 1 A ((sealL l).length - 4) (l.map B8) := by
 have h1 := h.toB8 (k := (sealL l).length - 4) om
 rwa [show (sealL l).take ((sealL l).length - 4) = l by rw [zj, Nat.add_sub_cancel]; unfold sealL; rw [List.take_left' rfl]] at h1
structure BadY (y : List Nat) (er : Nat) : Prop where
 err : opnR (sealL y) = .error er
 lt : ∀ b ∈ y, b < 256
 low : 11 ≤ y.length
 most : y.length ≤ 6000100
section
variable {y R : List Nat} {er v k : Nat} {s : Snm}
theorem qog (hl : 11 ≤ y.length) (hm : y.length ≤ 6000100) (hb : ∀ b ∈ y, b < 256) (h : (¬ (y.getD 0 0 = 113 ∧ y.getD 1 0 = 115) ∧ er = 342) ∨ ((y.getD 0 0 = 113 ∧ y.getD 1 0 = 115) ∧ y.getD 2 0 ≠ 1 ∧ er = 343) ∨ ((y.getD 0 0 = 113 ∧ y.getD 1 0 = 115) ∧ y.getD 2 0 = 1 ∧ prs y = .error er)) : BadY y er := by
 have hg : ∀ i, i < 3 → (sealL y).getD i 0 = y.getD i 0 := fun i hi => by
  unfold sealL
  rw [List.getD_eq_getElem?_getD, List.getElem?_append_left om, ← List.getD_eq_getElem?_getD]
 have ht : (sealL y).take ((sealL y).length - 4) = y := by rw [zj, Nat.add_sub_cancel]; unfold sealL; rw [List.take_left' rfl]
 have h1 : ¬ (sealL y).length < 15 := by rw [zj]; omega
 have h2 : ¬ 16777216 < (sealL y).length := by rw [zj]; omega
 refine ⟨?_, hb, hl, hm⟩
 rcases h with ⟨h3, rfl⟩ | ⟨h3, h4, rfl⟩ | ⟨h3, h4, h5⟩
 ·exact qi1 h1 h2 qda (by rw [hg 0 de, hg 1 de]; exact h3)
 ·exact qi2 h1 h2 qda (by rw [hg 0 de, hg 1 de]; exact h3) (by rw [hg 2 de]; exact h4)
 ·rw [qpz h1 h2 qda (by rw [hg 0 de, hg 1 de]; exact h3) (by rw [hg 2 de]; exact h4), ht]
  exact h5
theorem SnRight.body (h : SnRight s) : 11 ≤ (bodyS s).length ∧ (bodyS s).length ≤ 6000003 := by
 have := h.len
 rw [zj] at this
 omega
theorem qdz (s : Snm) : bodyS s = 113 :: 115 :: 1 :: (numsS s).flatMap vbytes := rfl
theorem pw_0 (h : SnRight s) (hv : v ≠ 113) (hv2 : v < 256) : BadY ((bodyS s).set 0 v) 342 := by
 have hb := h.body
 refine qog (by rw [List.length_set]; exact hb.1) (by rw [List.length_set]; omega) (qof (qew s) hv2) (.inl ⟨fun h1 => ?_, rfl⟩)
 rw [qdz] at h1
 exact hv h1.1
theorem pw_1 (h : SnRight s) (hv : v ≠ 115) (hv2 : v < 256) (hk : k < 256) : BadY (((bodyS s).set 1 v).set 2 k) 342 := by
 have hb := h.body
 refine qog (by rw [List.length_set, List.length_set]; exact hb.1) (by rw [List.length_set, List.length_set]; omega) (qof (qof (qew s) hv2) hk) (.inl ⟨fun h1 => ?_, rfl⟩)
 rw [qdz] at h1
 exact hv h1.2
theorem pw_2 (h : SnRight s) (hv : v ≠ 1) (hv2 : v < 256) : BadY ((bodyS s).set 2 v) 343 := by
 have hb := h.body
 exact qog (by rw [List.length_set]; exact hb.1) (by rw [List.length_set]; omega) (qof (qew s) hv2) (.inr (.inl ⟨by rw [qdz]; exact ⟨rfl, rfl⟩, by rw [qdz]; exact hv, rfl⟩))
theorem qr9 {x : Nat} (h : x < 128) : vbytes x = [x] := by
 unfold vbytes
 rw [show (10 : Nat) = 9 + 1 from rfl, grp, if_pos h]
 rfl
theorem pw_3 (h : SnRight s) (hn : s.next = 10) (hv : v < 1 ∨ 64 < v) (hv2 : v < 128) : BadY ((bodyS s).set 4 v) 345 := by
 have hb := h.body
 have c1 : 1 ≤ s.st.cpus ∧ s.st.cpus ≤ 64 := h.sh.sh.cpus
 have hbs : ∃ R, bodyS s = 113 :: 115 :: 1 :: 10 :: toU s.st.cpus :: R := by
  have e : ∃ Q, numsS s = toU s.next :: toU s.st.cpus :: Q := by
   obtain ⟨R, hR⟩ := qi4 (secN s) 7 1 de
   unfold numsS
   rw [hR, qu, qd8, List.nil_append]
   exact ⟨_, rfl⟩
  obtain ⟨Q, hQ⟩ := e
  refine ⟨Q.flatMap vbytes, ?_⟩
  rw [qdz, hQ, List.flatMap_cons, List.flatMap_cons, hn, show toU 10 = 10 from rfl, qr9 (show 10 < 128 by decide), qr9 (show toU s.st.cpus < 128 by unfold toU; omega)]
  rfl
 obtain ⟨R, hR⟩ := hbs
 have hy : (bodyS s).set 4 v = 113 :: 115 :: 1 :: 10 :: v :: R := by rw [hR]; rfl
 refine qog (by rw [List.length_set]; exact hb.1) (by rw [List.length_set]; omega) (qof (qew s) om) (.inr (.inr ⟨by rw [hy]; exact ⟨rfl, rfl⟩, by rw [hy]; rfl, ?_⟩))
 rw [hy]
 have n0 := NumAt.fwd (b := 113 :: 115 :: 1 :: 10 :: v :: R) (p := 3) (x := 10) (rest := v :: R) de (by rw [qr9 (show 10 < 128 by decide)]; rfl)
 have n1 := NumAt.fwd (b := 113 :: 115 :: 1 :: 10 :: v :: R) (p := 3 + (vbytes 10).length) (x := v) (rest := R) om (by rw [n0.2, qr9 hv2]; rfl)
 exact n0.1.go1.trans (n1.1.bad hv)
theorem pw_4 (h : SnRight s) : BadY (bodyS s ++ [0]) 346 := by
 have hb := h.body
 refine qog (by rw [List.length_append]; omega) (by rw [List.length_append]; show _ + 1 ≤ _; omega) (fun b hb => (List.mem_append.1 hb).elim (qew s b) (fun h => by rw [List.mem_singleton.1 h]; decide)) (.inr (.inr ⟨⟨rfl, rfl⟩, rfl, ?_⟩))
 have := qyx (tail := [0]) h
 rwa [if_neg (by simp)] at this
theorem BadY.difA (h : BadY y er) (h0 : er ≠ 0) : difE (sealL y) [] = er := by
 unfold difE
 rw [qdd h.err, if_neg h0]
theorem BadY.difB (h : BadY y er) (hs : SnRight s) : difE (sealL (bodyS s)) (sealL y) = er := by
 unfold difE
 rw [qey (q58 hs (by have := hs.len; omega)), if_pos rfl, qdd h.err]
end
def NumIs (W : World) (g p : Nat) (A : Option Addr) (c : Nat) (b q : List Nat) (sv : Value) (fs : List Fact) (r : Ending) (w' : World) : Prop :=
 (∃ x e NA nc, NumAt b p x e ∧ r = .returned (vQ x) ∧ (q ++ [x]).length ≤ nc ∧ Mem W w' (.blk g #[.slice A b.length c, vI e, .slice NA (q ++ [x]).length nc, sv] 130 :: .row (.slice NA (q ++ [x]).length nc) (q ++ [x]).length ((q ++ [x]).map U64) 30 1 :: fs)) ∨ ((vread (b.drop p)).2.2 ≠ 0 ∧ Dies W fs (pan errT 344) r w')
theorem q2u {W w' : World} {g p : Nat} {A : Option Addr} {c : Nat} {b q : List Nat} {sv : Value} {fs : List Fact} {r : Ending} (h : (vread (b.drop p)).2.2 ≠ 0) (hd : Dies W fs (pan errT 344) r w') : NumIs W g p A c b q sv fs r w' := .inr ⟨h, hd⟩
theorem q2v {W w' : World} {g p : Nat} {A : Option Addr} {c : Nat} {b q : List Nat} {sv : Value} {fs : List Fact} {r : Ending} {x e nc : Nat} {NA : Option Addr} (h : NumAt b p x e) (hr : r = .returned (vQ x)) (hc : (q ++ [x]).length ≤ nc) (hm : Mem W w' (.blk g #[.slice A b.length c, vI e, .slice NA (q ++ [x]).length nc, sv] 130 :: .row (.slice NA (q ++ [x]).length nc) (q ++ [x]).length ((q ++ [x]).map U64) 30 1 :: fs)) : NumIs W g p A c b q sv fs r w' := .inl ⟨x, e, NA, nc, h, hr, hc, hm⟩
theorem qkq (W w : World) (g p : Nat) (A NA : Option Addr) (c nc : Nat) (b q : List Nat) (sv : Value) (fs : List Fact) (HW : Mem W w (.blk g #[.slice A b.length c, vI p, .slice NA q.length nc, sv] 130 :: .row (.slice NA q.length nc) q.length (q.map U64) 30 1 :: fs)) (hin : Rd W W.heap.size 1 A b.length (b.map B8)) (hbc : b.length ≤ c) (hl : ∀ z ∈ b, z < 256) (hb : b.length ≤ 16777216) (ha : p ≤ b.length) (hq : q.length ≤ p) :
    Calls Tryz.prog 135 #[vP g 0] w (NumIs W g p A c b q sv fs) := by
 refine (JN1 Tryz.func135 42) ?_
 intro a Z I
 replace I := HW
 have hv : ∃ x n er, vread (b.drop p) = (x, n, er) := ⟨_, _, _, rfl⟩
 obtain ⟨x, n, er, hv⟩ := hv
 have hl2 : ∀ z ∈ b.drop p, z < 256 := fun z hz => hl z (List.mem_of_mem_drop hz)
 have hdl : (b.drop p).length = b.length - p := List.length_drop
 refine Jb Z I ((JP∘Jp 1∘Jj) fun a Z I => ?_)
 refine wp_seq ?_
 refine Jb Z I ((Vs .n []) fun wd1 => (Vp [0, 4]∘Vn 1∘Vf 2 0∘Vc 3 O0∘Vn 5∘Vf 6 1∘Vc 7 O0∘Vy 8 (v := .slice (if c = p then A else A.map (·.add (p * 1))) (b.length - p) (c - p)) (h:=by exact Yl.sliceFrom ei_u8 (j := p) rfl rfl rfl om)∘Vo (.slice (if c = p then A else A.map (·.add (p * 1))) ((b.drop p).length) (c - p)) (by rw [List.length_drop])∘VI 9 .n (h:=by exact fun I => q2e hv (rd_at (I.old hin) ha hbc) hl2 om)) fun w16 hbw => (Vp [10]∘Vx 11∘Vx 12∘Vx 13∘Vp [14, 15, 16]∘Vd∘JQ∘JP∘Jp 2∘Jd2∘Jj) (Ju (fun hb21 => ?_) fun hb21 => ?_))
 ·
  intro a Z I
  have hd21 := bne_iff_ne.1 hb21
  refine Jb Z I ((JT∘JR) fun a Z I => ?_)
  refine fo Z 0 rfl rfl ?_
  exact qa4 Z [vI 344] rfl (qhh 344 _ (I.pt 2 [])) fun w2 I => qc1 Z (q2u (qym hv hd21) ⟨rfl, I⟩)
 intro a Z I
 have hd21 := bne_eq_false_iff_eq.1 hb21
 have her : er = 0 := by omega
 revert I; revert a; repeat (first | clear Z | clear I)
 intro a Z I
 subst her
 have hin2 := qrv ha hv
 refine Jb Z I ((JF∘JS'∘JP∘Jp 1∘Jn∘Jg 1 O0∘Jp 1∘Ja∘Jn∘Jf 1∘JW O0' O1') fun w4_8 => (Jt6∘Jr∘Jp 2∘Jn∘Jg 2 O0∘Jp 1∘JU qap #[vQ x]) fun w37 g37 => (JD [U64 x] 2 (fun _ _ => O2') qap (hr:=by exact fun I => I.rdBlk (i := 0) (n := 1) (size := 1) rfl rfl) (h1:=by simp [Value.oneCell', U64, B8])) fun w38 A38 c38 hc38 => (Jn∘Jf 2∘JW O1' O2') fun w5_10 => (Jt6∘Jq) fun a Z I => ?_)
 have hnA38 : q.length + 1 = (q ++ [x]).length := zh rfl
 replace I := I.reRow (i := 2) (ys := (q ++ [x]).map U64) rfl hnA38 (by simp)
 rw [hnA38] at hc38
 replace I := I.reBlk (i := 1) (ds := #[.slice A b.length c, vI (p + n : Nat), .slice A38 ((q ++ [x]).length) c38, sv]) rfl (by rw [hnA38]; try rfl)
 exact Jb Z I ((JG∘JP∘Jp 2∘Jd5∘Jj∘JZ∘Jz1) fun I => q2v (.of hv) rfl hc38 (I.pt 3 [1, 2]))
theorem qf1 (W w : World) (g p : Nat) (A NA : Option Addr) (c nc : Nat) (b q : List Nat) (sv : Value) (fs : List Fact) (HW : Mem W w (.blk g #[.slice A b.length c, vI p, .slice NA q.length nc, sv] 130 :: .row (.slice NA q.length nc) q.length (q.map U64) 30 1 :: fs)) (hin : Rd W W.heap.size 1 A b.length (b.map B8)) (hbc : b.length ≤ c) (hl : ∀ z ∈ b, z < 256) (hb : b.length ≤ 16777216) (ha : p ≤ b.length) (hq : q.length ≤ p) {x e : Nat} (h : NumAt b p x e) :
  Calls Tryz.prog 135 #[vP g 0] w (fun r w' => r = .returned (vQ x) ∧ ∃ NA nc, (q ++ [x]).length ≤ nc ∧ Mem W w' (.blk g #[.slice A b.length c, vI e, .slice NA (q ++ [x]).length nc, sv] 130 :: .row (.slice NA (q ++ [x]).length nc) (q ++ [x]).length ((q ++ [x]).map U64) 30 1 :: fs)) :=
 (qkq W w g p A NA c nc b q sv fs HW hin hbc hl hb ha hq).mono fun r w' h1 => by
  rcases h1 with ⟨x2, e2, NA, nc, h2, h3, h4, h5⟩ | ⟨h2, _⟩
  ·obtain ⟨rfl, rfl⟩ := NumAt.one h h2
   exact ⟨h3, NA, nc, h4, h5⟩
  ·rw [h.1] at h2; exact absurd rfl h2
theorem qf2 (W w : World) (g p : Nat) (A NA : Option Addr) (c nc : Nat) (b q : List Nat) (sv : Value) (fs : List Fact) (HW : Mem W w (.blk g #[.slice A b.length c, vI p, .slice NA q.length nc, sv] 130 :: .row (.slice NA q.length nc) q.length (q.map U64) 30 1 :: fs)) (hin : Rd W W.heap.size 1 A b.length (b.map B8)) (hbc : b.length ≤ c) (hl : ∀ z ∈ b, z < 256) (hb : b.length ≤ 16777216) (ha : p ≤ b.length) (hq : q.length ≤ p) (h : (vread (b.drop p)).2.2 ≠ 0) :
  Calls Tryz.prog 135 #[vP g 0] w (Dies W fs (pan errT 344)) :=
 (qkq W w g p A NA c nc b q sv fs HW hin hbc hl hb ha hq).mono fun r w' h1 => by
  rcases h1 with ⟨x2, e2, NA, nc, h2, h3, h4, h5⟩ | ⟨_, h2⟩
  ·rw [h2.1] at h; exact absurd rfl h
  ·exact h2
def CntIs (W : World) (g p : Nat) (A : Option Addr) (c : Nat) (b q : List Nat) (sv : Value) (lo hi : Nat) (fs : List Fact) (r : Ending) (w' : World) : Prop :=
 (∃ x e NA nc, NumAt b p x e ∧ ¬ (x < lo ∨ hi < x) ∧ r = .returned (vI x) ∧ (q ++ [x]).length ≤ nc ∧ Mem W w' (.blk g #[.slice A b.length c, vI e, .slice NA (q ++ [x]).length nc, sv] 130 :: .row (.slice NA (q ++ [x]).length nc) (q ++ [x]).length ((q ++ [x]).map U64) 30 1 :: fs)) ∨ ((∃ x e, NumAt b p x e ∧ (x < lo ∨ hi < x)) ∧ Dies W fs (pan errT 345) r w') ∨ ((vread (b.drop p)).2.2 ≠ 0 ∧ Dies W fs (pan errT 344) r w')
theorem q2w {W w' : World} {g p : Nat} {A : Option Addr} {c : Nat} {b q : List Nat} {sv : Value} {fs : List Fact} {r : Ending} {lo hi : Nat} (h : (vread (b.drop p)).2.2 ≠ 0) (hd : Dies W fs (pan errT 344) r w') : CntIs W g p A c b q sv lo hi fs r w' := .inr (.inr ⟨h, hd⟩)
theorem qoj {W w' : World} {g p : Nat} {A : Option Addr} {c : Nat} {b q : List Nat} {sv : Value} {fs : List Fact} {r : Ending} {lo hi x e : Nat} (h : NumAt b p x e) (h2 : x < lo ∨ hi < x) (hd : Dies W fs (pan errT 345) r w') : CntIs W g p A c b q sv lo hi fs r w' := .inr (.inl ⟨⟨x, e, h, h2⟩, hd⟩)
theorem q2x {W w' : World} {g p : Nat} {A : Option Addr} {c : Nat} {b q : List Nat} {sv : Value} {fs : List Fact} {r : Ending} {lo hi x e nc : Nat} {NA : Option Addr} (h : NumAt b p x e) (h2 : ¬ (x < lo ∨ hi < x)) (hr : r = .returned (vI x)) (hc : (q ++ [x]).length ≤ nc) (hm : Mem W w' (.blk g #[.slice A b.length c, vI e, .slice NA (q ++ [x]).length nc, sv] 130 :: .row (.slice NA (q ++ [x]).length nc) (q ++ [x]).length ((q ++ [x]).map U64) 30 1 :: fs)) : CntIs W g p A c b q sv lo hi fs r w' := .inl ⟨x, e, NA, nc, h, h2, hr, hc, hm⟩
theorem qi5 (W w : World) (g p : Nat) (A NA : Option Addr) (c nc : Nat) (b q : List Nat) (sv : Value) (fs : List Fact) (lo hi : Nat) (hhi : hi < 9223372036854775808) (HW : Mem W w (.blk g #[.slice A b.length c, vI p, .slice NA q.length nc, sv] 130 :: .row (.slice NA q.length nc) q.length (q.map U64) 30 1 :: fs)) (hin : Rd W W.heap.size 1 A b.length (b.map B8)) (hbc : b.length ≤ c) (hl : ∀ z ∈ b, z < 256) (hb : b.length ≤ 16777216) (ha : p ≤ b.length) (hq : q.length ≤ p) :
    Calls Tryz.prog 136 #[vP g 0, vQ lo, vQ hi] w (CntIs W g p A c b q sv lo hi fs) := by
 refine (JN3 Tryz.func136 21) ?_
 intro a Z I
 replace I := HW
 refine Jb Z I ((JP∘Jp 1∘Jj∘JQ) fun a Z I => ?_)
 rcases qkn b p with hv | ⟨x, e, hv⟩
 ·
  refine Jb Z I ((JR∘Jp 1) fun a Z I => ?_)
  refine fo Z 1 rfl rfl ?_
  exact qa4 Z [vP g 0] rfl (qf2 W _ g p A NA c nc b q sv _ (I.pt 2 [0, 1]) hin hbc hl hb ha hq hv) fun w2 I => qc1 Z (q2w hv ⟨rfl, (I)⟩)
 ·
  have hx := hv.lt hl
  refine Jb Z I ((JR∘Jp 1∘JL (h:=by exact fun I => qf1 W _ g p A NA c nc b q sv _ (I.pt 2 [0, 1]) hin hbc hl hb ha hq hv)) ?_)
  rintro I _ w9 ⟨rfl, A9, c9, hc9, HM2⟩
  refine ⟨_, rfl, _, HM2, ?_⟩
  refine (Jp 1∘Jd2∘Jj∘JQ∘JP∘Jp 4) (Ju (fun hb13 => ?_) fun hb13 => ?_)
  ·
   intro a Z I
   have hd13 := of_decide_eq_true hb13
   refine Jb Z I ((Jp 4∘Jd6∘Jj∘JT∘JR) fun a Z I => ?_)
   refine fo Z 0 rfl rfl ?_
   exact qa4 Z [vI 345] rfl (qhh 345 _ (I.pt 2 [])) fun w2 I => qc1 Z (qoj hv (.inl om) ⟨rfl, I⟩)
  intro a Z I
  have hd13 := of_decide_eq_false hb13
  refine Jb Z I ((Jp 4∘Jd6∘Jj) (Ji (fun hd17 => ?_) fun hd17 => ?_))
  ·
   refine (JT∘JR) fun a Z I => ?_
   refine fo Z 0 rfl rfl ?_
   exact qa4 Z [vI 345] rfl (qhh 345 _ (I.pt 2 [])) fun w2 I => qc1 Z (qoj hv (.inr om) ⟨rfl, I⟩)
  exact (JF∘JS'∘JP∘Jp 1∘Jw .i64∘Jp 1∘Jd2∘Jj∘JZ∘Jz1) fun I => q2x hv om rfl hc9 (I.pt 2 [0, 1])
theorem qhk (W w : World) (g p : Nat) (A NA : Option Addr) (c nc : Nat) (b q : List Nat) (sv : Value) (fs : List Fact) (lo hi : Nat) (hhi : hi < 9223372036854775808) (HW : Mem W w (.blk g #[.slice A b.length c, vI p, .slice NA q.length nc, sv] 130 :: .row (.slice NA q.length nc) q.length (q.map U64) 30 1 :: fs)) (hin : Rd W W.heap.size 1 A b.length (b.map B8)) (hbc : b.length ≤ c) (hl : ∀ z ∈ b, z < 256) (hb : b.length ≤ 16777216) (ha : p ≤ b.length) (hq : q.length ≤ p) {x e : Nat} (h : NumAt b p x e) (hh : ¬ (x < lo ∨ hi < x)) :
  Calls Tryz.prog 136 #[vP g 0, vQ lo, vQ hi] w (fun r w' => r = .returned (vI x) ∧ ∃ NA nc, (q ++ [x]).length ≤ nc ∧ Mem W w' (.blk g #[.slice A b.length c, vI e, .slice NA (q ++ [x]).length nc, sv] 130 :: .row (.slice NA (q ++ [x]).length nc) (q ++ [x]).length ((q ++ [x]).map U64) 30 1 :: fs)) :=
 (qi5 W w g p A NA c nc b q sv fs lo hi hhi HW hin hbc hl hb ha hq).mono fun r w' h1 => by
  rcases h1 with ⟨x2, e2, NA, nc, h2, _, h3, h4, h5⟩ | ⟨⟨x2, e2, h2, h3⟩, _⟩ | ⟨h2, _⟩
  ·obtain ⟨rfl, rfl⟩ := NumAt.one h h2
   exact ⟨h3, NA, nc, h4, h5⟩
  ·obtain ⟨rfl, rfl⟩ := NumAt.one h h2
   exact absurd h3 hh
  ·rw [h.1] at h2; exact absurd rfl h2
theorem qi6 (W w : World) (g p : Nat) (A NA : Option Addr) (c nc : Nat) (b q : List Nat) (sv : Value) (fs : List Fact) (lo hi : Nat) (hhi : hi < 9223372036854775808) (HW : Mem W w (.blk g #[.slice A b.length c, vI p, .slice NA q.length nc, sv] 130 :: .row (.slice NA q.length nc) q.length (q.map U64) 30 1 :: fs)) (hin : Rd W W.heap.size 1 A b.length (b.map B8)) (hbc : b.length ≤ c) (hl : ∀ z ∈ b, z < 256) (hb : b.length ≤ 16777216) (ha : p ≤ b.length) (hq : q.length ≤ p) {x e : Nat} (h : NumAt b p x e) (hh : x < lo ∨ hi < x) :
  Calls Tryz.prog 136 #[vP g 0, vQ lo, vQ hi] w (Dies W fs (pan errT 345)) :=
 (qi5 W w g p A NA c nc b q sv fs lo hi hhi HW hin hbc hl hb ha hq).mono fun r w' h1 => by
  rcases h1 with ⟨x2, e2, NA, nc, h2, h3, _⟩ | ⟨_, h2⟩ | ⟨h2, _⟩
  ·obtain ⟨rfl, rfl⟩ := NumAt.one h h2
   exact absurd hh h3
  ·exact h2
  ·rw [h.1] at h2; exact absurd rfl h2
theorem ql8 (W w : World) (g p : Nat) (A NA : Option Addr) (c nc : Nat) (b q : List Nat) (sv : Value) (fs : List Fact) (lo hi : Nat) (hhi : hi < 9223372036854775808) (HW : Mem W w (.blk g #[.slice A b.length c, vI p, .slice NA q.length nc, sv] 130 :: .row (.slice NA q.length nc) q.length (q.map U64) 30 1 :: fs)) (hin : Rd W W.heap.size 1 A b.length (b.map B8)) (hbc : b.length ≤ c) (hl : ∀ z ∈ b, z < 256) (hb : b.length ≤ 16777216) (ha : p ≤ b.length) (hq : q.length ≤ p) (h : (vread (b.drop p)).2.2 ≠ 0) :
  Calls Tryz.prog 136 #[vP g 0, vQ lo, vQ hi] w (Dies W fs (pan errT 344)) :=
 (qi5 W w g p A NA c nc b q sv fs lo hi hhi HW hin hbc hl hb ha hq).mono fun r w' h1 => by
  rcases h1 with ⟨x2, e2, NA, nc, h2, _⟩ | ⟨⟨x2, e2, h2, _⟩, _⟩ | ⟨_, h2⟩
  ·rw [h2.1] at h; exact absurd rfl h
  ·rw [h2.1] at h; exact absurd rfl h
  ·exact h2
def qy8 (W : World) (g p : Nat) (A : Option Addr) (c : Nat) (b q : List Nat) (sv : Value) (n : Nat) (fs : List Fact) (r : Ending) (w' : World) : Prop :=
 (∃ xs e NA nc, q7 b n p xs e ∧ r = .returned (.tuple #[]) ∧ (q ++ xs).length ≤ nc ∧ Mem W w' (.blk g #[.slice A b.length c, vI e, .slice NA (q ++ xs).length nc, sv] 130 :: .row (.slice NA (q ++ xs).length nc) (q ++ xs).length ((q ++ xs).map U64) 30 1 :: fs)) ∨ ((readN n (b.drop p)).2.2 ≠ 0 ∧ Dies W fs (pan errT 344) r w')
theorem qy9 {W w' : World} {g p : Nat} {A : Option Addr} {c : Nat} {b q : List Nat} {sv : Value} {fs : List Fact} {r : Ending} {n : Nat} (h : (readN n (b.drop p)).2.2 ≠ 0) (hd : Dies W fs (pan errT 344) r w') : qy8 W g p A c b q sv n fs r w' := .inr ⟨h, hd⟩
theorem qza {W w' : World} {g p : Nat} {A : Option Addr} {c : Nat} {b q : List Nat} {sv : Value} {fs : List Fact} {r : Ending} {n e nc : Nat} {xs : List Nat} {NA : Option Addr} (h : q7 b n p xs e) (hr : r = .returned (.tuple #[])) (hc : (q ++ xs).length ≤ nc) (hm : Mem W w' (.blk g #[.slice A b.length c, vI e, .slice NA (q ++ xs).length nc, sv] 130 :: .row (.slice NA (q ++ xs).length nc) (q ++ xs).length ((q ++ xs).map U64) 30 1 :: fs)) : qy8 W g p A c b q sv n fs r w' := .inl ⟨xs, e, NA, nc, h, hr, hc, hm⟩
theorem qsb (W w : World) (g p : Nat) (A NA : Option Addr) (c nc : Nat) (b q : List Nat) (sv : Value) (fs : List Fact) (n : Nat) (hnn : n ≤ 1000000) (hnc : q.length ≤ nc) (HW : Mem W w (.blk g #[.slice A b.length c, vI p, .slice NA q.length nc, sv] 130 :: .row (.slice NA q.length nc) q.length (q.map U64) 30 1 :: fs)) (hin : Rd W W.heap.size 1 A b.length (b.map B8)) (hbc : b.length ≤ c) (hl : ∀ z ∈ b, z < 256) (hb : b.length ≤ 16777216) (ha : p ≤ b.length) (hq : q.length ≤ p) :
    Calls Tryz.prog 137 #[vP g 0, vI n] w (qy8 W g p A c b q sv n fs) := by
 refine (JN2 Tryz.func137 10) ?_
 intro a Z I
 replace I := HW
 refine Jb Z I ((JP∘Jp 2∘Jq) fun a Z I => ?_)
 rw [← List.append_nil q] at I
 refine Jb Z I ((JG∘JB) fun a Z I => ?_)
 refine qe (fun mS aS wS => ∃ (k : Nat) (xs : List Nat) (e : Nat) (NA : Option Addr) (nc : Nat), (q7 b k p xs e) ∧ (k ≤ n) ∧ ((q ++ xs).length ≤ nc) ∧ mS = n - k ∧ Fr aS 10 [] [(0, vP g 0), (4, vI n), (5, vI k)] ∧ Mem W wS (.blk g #[.slice A b.length c, vI e, .slice NA ((q ++ xs).length) nc, sv] 130 :: .row (.slice NA ((q ++ xs).length) nc) ((q ++ xs).length) ((q ++ xs).map U64) 30 1 :: fs)) (m := n - 0) ⟨0, [], p, NA, nc, q7.nil b p, Nat.zero_le _, (by rw [List.append_nil]; exact hnc), rfl, Z.sub kr, I.pt 2 [0, 1]⟩ ?_
 clear Z I; rintro mS a w_ ⟨k, xs, e, NA, nc, hxs, hle, hnc, rfl, Z, I⟩
 have hin2 := hxs.in ha
 refine Jb Z I ((JP∘Jp 1∘Jj∘JQ) (Ji (fun hd6 => ?_) fun hd6 => ?_))
 ·
  refine (JT∘JS'∘JQ∘JB) fun a Z I => ?_
  have hkn : k < n := by omega
  rcases qkn b e with hv | ⟨x, e2, hv⟩
  ·
   refine Jb Z I ((JR∘Jp 1) fun a Z I => ?_)
   refine fo Z 1 rfl rfl ?_
   exact qa4 Z [vP g 0] rfl (qf2 W _ g e A NA c nc b (q ++ xs) sv _ (I.pt 2 [0, 1]) hin hbc hl hb om (by rw [List.length_append]; omega) hv) fun w2 I => qc1 Z (qy9 (hxs.stuck hkn hv) ⟨rfl, I⟩)
  ·
   refine Jb Z I ((JR∘Jp 1∘JL (h:=by exact fun I => qf1 W _ g e A NA c nc b (q ++ xs) sv _ (I.pt 2 [0, 1]) hin hbc hl hb om (by rw [List.length_append]; omega) hv)) ?_)
   rintro I _ w8 ⟨rfl, A8, c8, hc8, HM2⟩
   refine ⟨_, rfl, _, HM2, ?_⟩
   refine (Jt2∘Jq) fun a Z I => ?_
   rw [List.append_assoc] at I
   refine Jb Z I ((JG∘JR∘JaK 1∘Jp 1∘Jd1∘Jq) fun a Z I => ?_)
   exact ⟨_, om, k + 1, (xs ++ [x]), e2, A8, c8, hxs.snoc hv, hkn, (by rwa [List.append_assoc] at hc8), rfl, Z.sub kr, I.pt 2 [0, 1]⟩
 refine (JF∘JX) ?_
 repeat (first | clear Z | clear I)
 intro a Z I
 obtain rfl : k = n := by omega
 exact norm0 rfl Z (qza hxs rfl hnc I)
theorem qi7 (W w : World) (g p : Nat) (A NA : Option Addr) (c nc : Nat) (b q : List Nat) (sv : Value) (fs : List Fact) (n : Nat) (hnn : n ≤ 1000000) (hnc : q.length ≤ nc) (HW : Mem W w (.blk g #[.slice A b.length c, vI p, .slice NA q.length nc, sv] 130 :: .row (.slice NA q.length nc) q.length (q.map U64) 30 1 :: fs)) (hin : Rd W W.heap.size 1 A b.length (b.map B8)) (hbc : b.length ≤ c) (hl : ∀ z ∈ b, z < 256) (hb : b.length ≤ 16777216) (ha : p ≤ b.length) (hq : q.length ≤ p) {xs : List Nat} {e : Nat} (h : q7 b n p xs e) :
  Calls Tryz.prog 137 #[vP g 0, vI n] w (fun r w' => r = .returned (.tuple #[]) ∧ ∃ NA nc, (q ++ xs).length ≤ nc ∧ Mem W w' (.blk g #[.slice A b.length c, vI e, .slice NA (q ++ xs).length nc, sv] 130 :: .row (.slice NA (q ++ xs).length nc) (q ++ xs).length ((q ++ xs).map U64) 30 1 :: fs)) :=
 (qsb W w g p A NA c nc b q sv fs n hnn hnc HW hin hbc hl hb ha hq).mono fun r w' h1 => by
  rcases h1 with ⟨x2, e2, NA, nc, h2, h3, h4, h5⟩ | ⟨h2, _⟩
  ·obtain ⟨rfl, rfl⟩ := q7.one h h2
   exact ⟨h3, NA, nc, h4, h5⟩
  ·rw [h.1] at h2; exact absurd rfl h2
theorem qi8 (W w : World) (g p : Nat) (A NA : Option Addr) (c nc : Nat) (b q : List Nat) (sv : Value) (fs : List Fact) (n : Nat) (hnn : n ≤ 1000000) (hnc : q.length ≤ nc) (HW : Mem W w (.blk g #[.slice A b.length c, vI p, .slice NA q.length nc, sv] 130 :: .row (.slice NA q.length nc) q.length (q.map U64) 30 1 :: fs)) (hin : Rd W W.heap.size 1 A b.length (b.map B8)) (hbc : b.length ≤ c) (hl : ∀ z ∈ b, z < 256) (hb : b.length ≤ 16777216) (ha : p ≤ b.length) (hq : q.length ≤ p) (h : (readN n (b.drop p)).2.2 ≠ 0) :
  Calls Tryz.prog 137 #[vP g 0, vI n] w (Dies W fs (pan errT 344)) :=
 (qsb W w g p A NA c nc b q sv fs n hnn hnc HW hin hbc hl hb ha hq).mono fun r w' h1 => by
  rcases h1 with ⟨x2, e2, NA, nc, h2, h3, h4, h5⟩ | ⟨_, h2⟩
  ·rw [h2.1] at h; exact absurd rfl h
  ·exact h2
theorem q8v (W w : World) (g p : Nat) (iv nv : Value) (SA : Option Addr) (sc : Nat) (l : List Sec) (nm : ByteArray) (fs : List Fact) (HW : Mem W w (.blk g #[iv, vI p, nv, .slice SA l.length sc] 130 :: .row (.slice SA l.length sc) l.length (l.flatMap secL) 69 3 :: fs)) (hll : l.length ≤ 1000) :
    Calls Tryz.prog 134 #[vP g 0, .string nm] w (fun r w' => r = .returned (.tuple #[]) ∧ ∃ SA sc, (l ++ [(⟨nm, zm l, p⟩ : Sec)]).length ≤ sc ∧ Mem W w' (.blk g #[iv, vI p, nv, .slice SA (l ++ [(⟨nm, zm l, p⟩ : Sec)]).length sc] 130 :: .row (.slice SA (l ++ [(⟨nm, zm l, p⟩ : Sec)]).length sc) (l ++ [(⟨nm, zm l, p⟩ : Sec)]).length ((l ++ [(⟨nm, zm l, p⟩ : Sec)]).flatMap secL) 69 3 :: fs)) := by
 refine (JN2 Tryz.func134 38) ?_
 intro a Z I
 replace I := HW
 refine Jb Z I ((JP∘Jp 1∘Jj∘JQ∘JP∘Jp 1∘Jn∘Jg 3 O0∘Jl∘Jp 1∘Jd4∘Jr∘Jp 2∘Jd1∘Jj) (Ju (fun hb12 => ?_) fun hb12 => ?_))
 ·
  intro a Z I
  have hd12 := of_decide_eq_true hb12
  refine Jb Z I ((JT∘JR∘Jp 1∘Jn∘Jg 3 O0∘Jp 1∘JsK 1) ?_)
  repeat (first | clear Z | clear I)
  intro a Z I
  obtain ⟨gSA, rfl⟩ := qm (I.own (i := 1) rfl) (Nat.lt_of_le_of_lt (Nat.zero_le _) (show l.length - 1 < l.length from by omega))
  refine Jb Z I ((Jy (h:=by exact Yl.ix0 gSA (l.length - 1) 3 rfl rfl rfl)∘Jf 2∘Jy (v := vI ((l.getD (l.length - 1) Sec.zero).to)) (h:=by exact Yl.qr rfl rfl kr (fun _ h => h.qw qd9 (i := 1) rfl (k := (l.length - 1)) (off := 2) (x := (l.getD (l.length - 1) Sec.zero)) ((getD_at Sec.zero om)) rfl))∘Jo (vI (zm l)) (by exact rfl)∘Jp 1∘Jd6∘Jj∘Vs (.t (.f .n)) [16]) fun wd4 => (Vp [0, 1, 5, 6, 7]∘Vn 2∘Vf 3 3∘Vc 4 O0∘Vn 8∘Vf 9 1∘Vc 10 O0∘Vy 11 (v := .agg #[.string nm, vI (zm l), vI p]) (h:=by exact Yl.build (vs := [(0, .string nm), (1, vI (zm l)), (2, vI p)]) rfl kr kr)) fun a Z I HS => ?_)
  refine s_on Z 12 rfl (s_el Z I qr3 [(0, .agg #[.string nm, vI (zm l), vI p])] #[.string nm, vI (zm l), vI p] ?_)
  clear Z I; intro a w34 g34 Z I
  refine keepS (I.pt 3 [1]) (fun HS => ?_)
  refine s_on Z 13 rfl (qaz Z I (i := 2) rfl qr3 rfl rfl rfl (news := ([(⟨nm, zm l, p⟩ : Sec)].flatMap secL)) (I.rdBlk (i := 0) (n := 1) (size := 3) rfl rfl) (qwl _) om om rfl de ?_)
  clear Z I; intro a w35 A35 c35 Z I hc35
  refine keepS (I.pt 3 [1]) (fun HS => ?_)
  refine Vb Z I HS ((Vn 14∘Vf 15 3) fun a Z I HS => ?_)
  refine s_on Z 16 rfl (s_es Z I 1 ?_)
  clear I; intro w4_16 I
  refine noS kr ?_
  refine qc kr ?_
  have hnA35 : l.length + 1 = (l ++ [(⟨nm, zm l, p⟩ : Sec)]).length := zh rfl
  replace I := I.reRow (i := 2) (ys := (l ++ [(⟨nm, zm l, p⟩ : Sec)]).flatMap secL) rfl hnA35 (List.flatMap_append.symm)
  rw [hnA35] at hc35
  replace Z := Z.sp 35 (.slice A35 ((l ++ [(⟨nm, zm l, p⟩ : Sec)]).length) c35) rfl (by rw [hnA35])
  replace I := I.reBlk (i := 1) (ds := #[iv, vI p, nv, .slice A35 ((l ++ [(⟨nm, zm l, p⟩ : Sec)]).length) c35]) rfl (by rw [hnA35]; try rfl)
  exact norm0 rfl Z ⟨rfl, A35, c35, hc35, I.pt 3 [1, 2]⟩
 intro a Z I
 have hd12 := of_decide_eq_false hb12
 replace Z := Z.sp 4 (vI (zm l)) rfl (by rw [q2b (l := l) om]; rfl)
 refine Jb Z I ((JF∘JS'∘Vs (.t (.f .n)) [16]) fun wd4 => (Vp [0, 1, 5, 6, 7]∘Vn 2∘Vf 3 3∘Vc 4 O0∘Vn 8∘Vf 9 1∘Vc 10 O0∘Vy 11 (v := .agg #[.string nm, vI (zm l), vI p]) (h:=by exact Yl.build (vs := [(0, .string nm), (1, vI (zm l)), (2, vI p)]) rfl kr kr)) fun a Z I HS => ?_)
 refine s_on Z 12 rfl (s_el Z I qr3 [(0, .agg #[.string nm, vI (zm l), vI p])] #[.string nm, vI (zm l), vI p] ?_)
 clear Z I; intro a w34 g34 Z I
 refine keepS (I.pt 3 [1]) (fun HS => ?_)
 refine s_on Z 13 rfl (qaz Z I (i := 2) rfl qr3 rfl rfl rfl (news := ([(⟨nm, zm l, p⟩ : Sec)].flatMap secL)) (I.rdBlk (i := 0) (n := 1) (size := 3) rfl rfl) (qwl _) om om rfl de ?_)
 clear Z I; intro a w35 A35 c35 Z I hc35
 refine keepS (I.pt 3 [1]) (fun HS => ?_)
 refine Vb Z I HS ((Vn 14∘Vf 15 3) fun a Z I HS => ?_)
 refine s_on Z 16 rfl (s_es Z I 1 ?_)
 clear I; intro w4_16 I
 refine noS kr ?_
 refine qc kr ?_
 have hnA35 : l.length + 1 = (l ++ [(⟨nm, zm l, p⟩ : Sec)]).length := zh rfl
 replace I := I.reRow (i := 2) (ys := (l ++ [(⟨nm, zm l, p⟩ : Sec)]).flatMap secL) rfl hnA35 (List.flatMap_append.symm)
 rw [hnA35] at hc35
 replace Z := Z.sp 35 (.slice A35 ((l ++ [(⟨nm, zm l, p⟩ : Sec)]).length) c35) rfl (by rw [hnA35])
 replace I := I.reBlk (i := 1) (ds := #[iv, vI p, nv, .slice A35 ((l ++ [(⟨nm, zm l, p⟩ : Sec)]).length) c35]) rfl (by rw [hnA35]; try rfl)
 exact norm0 rfl Z ⟨rfl, A35, c35, hc35, I.pt 3 [1, 2]⟩
theorem qf3 (W w : World) (g p : Nat) (iv nv : Value) (SA : Option Addr) (sc : Nat) (l : List Sec) (nm : ByteArray) (fs : List Fact) (HW : Mem W w (.blk g #[iv, vI p, nv, .slice SA l.length sc] 130 :: .row (.slice SA l.length sc) l.length (l.flatMap secL) 69 3 :: fs)) (hll : l.length ≤ 1000) {l2 : List Sec} (h : l ++ [(⟨nm, zm l, p⟩ : Sec)] = l2) :
  Calls Tryz.prog 134 #[vP g 0, .string nm] w (fun r w' => r = .returned (.tuple #[]) ∧ ∃ SA sc, l2.length ≤ sc ∧ Mem W w' (.blk g #[iv, vI p, nv, .slice SA l2.length sc] 130 :: .row (.slice SA l2.length sc) l2.length (l2.flatMap secL) 69 3 :: fs)) := by
 subst h
 exact q8v W w g p iv nv SA sc l nm fs HW hll
def qsc (W : World) (g : Nat) (A : Option Addr) (c : Nat) (b : List Nat) (fs : List Fact) (r : Ending) (w' : World) : Prop :=
 (∃ p NA nc SA sc, prs b = .ok p ∧ r = .returned (vI 0) ∧ p.nums.length ≤ nc ∧ p.secs.length ≤ sc ∧ Mem W w' (.blk g #[.slice A b.length c, vI ((b.length + 4 : Nat) : Int), .slice NA p.nums.length nc, .slice SA p.secs.length sc] 130 :: .row (.slice NA p.nums.length nc) p.nums.length (p.nums.map U64) 30 1 :: .row (.slice SA p.secs.length sc) p.secs.length (p.secs.flatMap secL) 69 3 :: fs)) ∨ (∃ k : Nat, prs b = .error k ∧ r = .returned (vI k) ∧ Mem W w' fs)
section
variable {W w : World} {g g2 c k i n : Nat} {A : Option Addr} {b : List Nat} {fs ks : List Fact} {σ : List (Nat × Value)} {a : Act}
theorem zd (Z : Fr a n [{ target := .fn (.func 133) [Value.pointer (some ⟨g2, 0, none⟩)].toArray, args := #[] }] σ) (h2 : σ.lookup 2 = some (vP g2 0)) (I : Mem W w ks) (hi : ks[i]? = some (.blk g2 #[vI 0] errT)) (hp : prs b = .error k) (j : List Nat) (hj : j.Nodup) (he : picks (ks.set i (.blk g2 #[vI k] errT)) j = fs) :
  Leaves Tryz.prog Tryz.f91 a.tmps (qsc W g A c b fs) a.defers (.panicking (pan errT k)) w := by
 refine quk (v := vI k) Z kr (qyq k 0 w I hi rfl) rfl fun w' hm => ⟨?_, .inr ⟨k, hp, rfl, hm.picks j hj he⟩⟩
 have hl := (List.getElem?_eq_some_iff.1 hi).1
 exact qar.cell1 (i := i) Z hm h2 (List.getElem?_set_self hl) kr rfl
theorem q2y (Z : Fr a n [{ target := .fn (.func 133) [Value.pointer (some ⟨g2, 0, none⟩)].toArray, args := #[] }] σ) (h2 : σ.lookup 2 = some (vP g2 0)) (I : Mem W w ks) (hi : ks[i]? = some (.blk g2 #[vI 0] errT)) (hk : ∀ w', Mem W w' (ks.set i (.blk g2 #[vI 0] errT)) → qsc W g A c b fs (.returned (vI 0)) w') :
  Leaves Tryz.prog Tryz.f91 a.tmps (qsc W g A c b fs) a.defers .returning w := by
 refine qyl (v := vI 0) Z kr (qul 0 w I hi rfl) rfl fun w' hm => ⟨?_, hk w' hm⟩
 have hl := (List.getElem?_eq_some_iff.1 hi).1
 exact qar.cell1 (i := i) Z hm h2 (List.getElem?_set_self hl) kr rfl
end
theorem qsd (nx cp cr gp : Nat) (gs cl cu : List Nat) (tk : Nat) (ts sp : List Nat) (e1 e2 e3 e4 e5 e6 e7 : Nat) : (⟨nx, cp, cr, gp, gs, cl, cu, tk, ts, sp, e1, e2, e3, e4, e5, e6, e7⟩ : Pr).nums = ((((((((((([] : List Nat) ++ [nx]) ++ [cp]) ++ [cr]) ++ [gp]) ++ gs) ++ cl) ++ cu) ++ [tk]) ++ ts) ++ sp) := by simp [Pr.nums]
theorem qse (W w : World) (g : Nat) (A : Option Addr) (c : Nat) (b : List Nat) (HW : Mem W w [.blk g #[.slice A b.length c, vI 0, vN, vN] 130]) (hin : Rd W W.heap.size 1 A b.length (b.map B8)) (hbc : b.length ≤ c) (hl : ∀ z ∈ b, z < 256) (hb : b.length ≤ 16777216) (hb3 : 3 ≤ b.length) :
    Calls Tryz.prog 91 #[vP g 0] w (qsc W g A c b []) := by
 refine qn2 (vs := [vP g 0]) Tryz.func91 rfl rfl kr (σ0 := [(0, vP g 0)]) rfl ?_
 intro a Z
 have I := Mem.start w
 replace I := (HW.nil 69 3).nil 30 1
 have hc0 : ([] : List Nat).length ≤ 0 := Nat.le_refl _
 have hp : prs b = prs b := rfl
 have hq0 : ([] : List Nat).length ≤ 3 := Nat.zero_le _
 refine Jb Z I ((JP∘JA #[vI 0]) fun w2 g2 => (Jr∘Jy (h:=by exact Yl.makeFunc (fst := []) (caps := [vP g2 0]) rfl rfl rfl)) fun a Z I => ?_)
 refine fo Z 1 rfl rfl ?_
 refine q51 Z (f := 133) (caps := [vP g2 0]) rfl rfl rfl ?_
 clear Z; intro a Z
 refine Jb Z I ((Jt1∘Jr∘Jp 1∘Jn∘Jf 1∘JW O3' O1') fun w2_3 => (Jt3∘Jr∘Jp 1∘JL (h:=by exact fun I => qf3 (l2 := [qd]) W _ g 3 _ _ none 0 ([] : List Sec) _ _ (I.pk [3, 2, 0, 1]) (Nat.le_of_ble_eq_true rfl) rfl)) ?_)
 rintro I _ w10 ⟨rfl, S10, k10, hk10, HM2⟩
 refine ⟨_, rfl, _, HM2, ?_⟩
 refine (Jt2∘Jq) fun a Z I => ?_
 replace I : Mem W _ [.blk g #[.slice A b.length c, vI 3, .slice none (([] : List Nat).length) 0, .slice S10 ([qd].length) k10] 130, .row (.slice S10 ([qd].length) k10) ([qd].length) ([qd].flatMap secL) 69 3, .blk g2 #[vI 0] 44, .row (.slice none (([] : List Nat).length) 0) (([] : List Nat).length) (([] : List Nat).map U64) 30 1] := I
 refine Jb Z I ((JG∘JQ) fun a Z I => ?_)
 rcases qkn b 3 with hv_e1 | ⟨nx, e1, hv_e1⟩
 ·
  refine Jb Z I ((JR∘Jp 1) fun a Z I => ?_)
  refine fo Z 1 rfl rfl ?_
  exact qa4 Z [vP g 0] rfl (qf2 W _ g 3 A none c 0 b ([] : List Nat) (.slice S10 ([qd].length) k10) _ (I.pk [0, 3, 1, 2]) hin hbc hl hb hb3 hq0 hv_e1) fun w2 I => zd Z rfl I (i := 1) rfl (hp.trans (qly hv_e1)) [] de rfl
 ·
  have hp := hp.trans hv_e1.go1
  have hi_e1 := hv_e1.in hb3
  have hq_e1 := q_le1 (x := nx) hq0 hi_e1.1
  refine Jb Z I ((JR∘Jp 1∘JL (h:=by exact fun I => qf1 W _ g 3 A none c 0 b ([] : List Nat) (.slice S10 ([qd].length) k10) _ (I.pk [0, 3, 1, 2]) hin hbc hl hb hb3 hq0 hv_e1)) ?_)
  rintro I _ w12 ⟨rfl, A12, c12, hc12, HM2⟩
  refine ⟨_, rfl, _, HM2, ?_⟩
  refine (Jt2∘Jr∘Jp 1∘JL (h:=by exact fun I => qf3 (l2 := [qd, ⟨qa 0, 3, e1⟩]) W _ g e1 _ _ S10 k10 ([qd]) _ _ (I.pk [0, 2, 1, 3]) (Nat.le_of_ble_eq_true rfl) rfl)) ?_
  rintro I _ w14 ⟨rfl, S14, k14, hk14, HM2⟩
  refine ⟨_, rfl, _, HM2, ?_⟩
  refine (Jt2∘Jq) fun a Z I => ?_
  replace I : Mem W _ [.blk g #[.slice A b.length c, vI e1, .slice A12 ((([] : List Nat) ++ [nx]).length) c12, .slice S14 ([qd, ⟨qa 0, 3, e1⟩].length) k14] 130, .row (.slice S14 ([qd, ⟨qa 0, 3, e1⟩].length) k14) ([qd, ⟨qa 0, 3, e1⟩].length) ([qd, ⟨qa 0, 3, e1⟩].flatMap secL) 69 3, .row (.slice A12 ((([] : List Nat) ++ [nx]).length) c12) ((([] : List Nat) ++ [nx]).length) ((([] : List Nat) ++ [nx]).map U64) 30 1, .blk g2 #[vI 0] 44] := I
  refine Jb Z I ((JG∘JQ) fun a Z I => ?_)
  rcases qrw b e1 1 64 with hv_a1 | ⟨cp, a1, hv_a1, hr_a1⟩ | ⟨cp, a1, hv_a1, hr_a1⟩
  ·
   refine Jb Z I ((JR∘Jp 1) fun a Z I => ?_)
   refine fo Z 1 rfl rfl ?_
   exact qa4 Z [vP g 0, vQ 1, vQ 64] rfl (ql8 W _ g e1 A A12 c c12 b (([] : List Nat) ++ [nx]) (.slice S14 ([qd, ⟨qa 0, 3, e1⟩].length) k14) _ 1 64 de (I.pk [0, 2, 1, 3]) hin hbc hl hb hi_e1.2 hq_e1 hv_a1) fun w2 I => zd Z rfl I (i := 1) rfl (hp.trans (qlz hv_a1)) [] de rfl
  ·
   refine Jb Z I ((JR∘Jp 1) fun a Z I => ?_)
   refine fo Z 1 rfl rfl ?_
   exact qa4 Z [vP g 0, vQ 1, vQ 64] rfl (qi6 W _ g e1 A A12 c c12 b (([] : List Nat) ++ [nx]) (.slice S14 ([qd, ⟨qa 0, 3, e1⟩].length) k14) _ 1 64 de (I.pk [0, 2, 1, 3]) hin hbc hl hb hi_e1.2 hq_e1 hv_a1 hr_a1) fun w2 I => zd Z rfl I (i := 1) rfl (hp.trans (hv_a1.bad hr_a1)) [] de rfl
  ·
   have hp := hp.trans (hv_a1.goC hr_a1)
   have hi_a1 := hv_a1.in hi_e1.2
   have hq_a1 := q_le1 (x := cp) hq_e1 hi_a1.1
   refine Jb Z I ((JR∘Jp 1∘JL (h:=by exact fun I => qhk W _ g e1 A A12 c c12 b (([] : List Nat) ++ [nx]) (.slice S14 ([qd, ⟨qa 0, 3, e1⟩].length) k14) _ 1 64 de (I.pk [0, 2, 1, 3]) hin hbc hl hb hi_e1.2 hq_e1 hv_a1 hr_a1)) ?_)
   rintro I _ w16 ⟨rfl, A16, c16, hc16, HM2⟩
   refine ⟨_, rfl, _, HM2, ?_⟩
   refine (Jp 1∘Jd2∘Jj∘JQ) fun a Z I => ?_
   rcases qkn b a1 with hv_a2 | ⟨cr, a2, hv_a2⟩
   ·
    refine Jb Z I ((JR∘Jp 1) fun a Z I => ?_)
    refine fo Z 1 rfl rfl ?_
    exact qa4 Z [vP g 0] rfl (qf2 W _ g a1 A A16 c c16 b ((([] : List Nat) ++ [nx]) ++ [cp]) (.slice S14 ([qd, ⟨qa 0, 3, e1⟩].length) k14) _ (I.pk [0, 1, 2, 3]) hin hbc hl hb hi_a1.2 hq_a1 hv_a2) fun w2 I => zd Z rfl I (i := 1) rfl (hp.trans (qly hv_a2)) [] de rfl
   ·
    have hp := hp.trans hv_a2.go1
    have hi_a2 := hv_a2.in hi_a1.2
    have hq_a2 := q_le1 (x := cr) hq_a1 hi_a2.1
    refine Jb Z I ((JR∘Jp 1∘JL (h:=by exact fun I => qf1 W _ g a1 A A16 c c16 b ((([] : List Nat) ++ [nx]) ++ [cp]) (.slice S14 ([qd, ⟨qa 0, 3, e1⟩].length) k14) _ (I.pk [0, 1, 2, 3]) hin hbc hl hb hi_a1.2 hq_a1 hv_a2)) ?_)
    rintro I _ w18 ⟨rfl, A18, c18, hc18, HM2⟩
    refine ⟨_, rfl, _, HM2, ?_⟩
    refine (Jt2∘Jj∘JQ) fun a Z I => ?_
    rcases qrw b a2 1 256 with hv_e2 | ⟨gp, e2, hv_e2, hr_e2⟩ | ⟨gp, e2, hv_e2, hr_e2⟩
    ·
     refine Jb Z I ((JR∘Jp 1) fun a Z I => ?_)
     refine fo Z 1 rfl rfl ?_
     exact qa4 Z [vP g 0, vQ 1, vQ 256] rfl (ql8 W _ g a2 A A18 c c18 b (((([] : List Nat) ++ [nx]) ++ [cp]) ++ [cr]) (.slice S14 ([qd, ⟨qa 0, 3, e1⟩].length) k14) _ 1 256 de (I.pk [0, 1, 2, 3]) hin hbc hl hb hi_a2.2 hq_a2 hv_e2) fun w2 I => zd Z rfl I (i := 1) rfl (hp.trans (qlz hv_e2)) [] de rfl
    ·
     refine Jb Z I ((JR∘Jp 1) fun a Z I => ?_)
     refine fo Z 1 rfl rfl ?_
     exact qa4 Z [vP g 0, vQ 1, vQ 256] rfl (qi6 W _ g a2 A A18 c c18 b (((([] : List Nat) ++ [nx]) ++ [cp]) ++ [cr]) (.slice S14 ([qd, ⟨qa 0, 3, e1⟩].length) k14) _ 1 256 de (I.pk [0, 1, 2, 3]) hin hbc hl hb hi_a2.2 hq_a2 hv_e2 hr_e2) fun w2 I => zd Z rfl I (i := 1) rfl (hp.trans (hv_e2.bad hr_e2)) [] de rfl
    ·
     have hp := hp.trans (hv_e2.goC hr_e2)
     have hi_e2 := hv_e2.in hi_a2.2
     have hq_e2 := q_le1 (x := gp) hq_a2 hi_e2.1
     refine Jb Z I ((JR∘Jp 1∘JL (h:=by exact fun I => qhk W _ g a2 A A18 c c18 b (((([] : List Nat) ++ [nx]) ++ [cp]) ++ [cr]) (.slice S14 ([qd, ⟨qa 0, 3, e1⟩].length) k14) _ 1 256 de (I.pk [0, 1, 2, 3]) hin hbc hl hb hi_a2.2 hq_a2 hv_e2 hr_e2)) ?_)
     rintro I _ w20 ⟨rfl, A20, c20, hc20, HM2⟩
     refine ⟨_, rfl, _, HM2, ?_⟩
     refine (Jp 1∘Jd2∘Jq) fun a Z I => ?_
     have h3 : 3 * cp * (gp - 1) ≤ 192 * 255 := Nat.mul_le_mul om om
     refine Jb Z I ((JG∘JP∘Jp 1∘JL (h:=by exact fun I => qf3 (l2 := [qd, ⟨qa 0, 3, e1⟩, ⟨qa 1, e1, e2⟩]) W _ g e2 _ _ S14 k14 ([qd, ⟨qa 0, 3, e1⟩]) _ _ (I.pk [0, 2, 1, 3]) (Nat.le_of_ble_eq_true rfl) rfl)) ?_)
     rintro I _ w22 ⟨rfl, S22, k22, hk22, HM2⟩
     refine ⟨_, rfl, _, HM2, ?_⟩
     refine (Jt2∘Jq) fun a Z I => ?_
     replace I : Mem W _ [.blk g #[.slice A b.length c, vI e2, .slice A20 (((((([] : List Nat) ++ [nx]) ++ [cp]) ++ [cr]) ++ [gp]).length) c20, .slice S22 ([qd, ⟨qa 0, 3, e1⟩, ⟨qa 1, e1, e2⟩].length) k22] 130, .row (.slice S22 ([qd, ⟨qa 0, 3, e1⟩, ⟨qa 1, e1, e2⟩].length) k22) ([qd, ⟨qa 0, 3, e1⟩, ⟨qa 1, e1, e2⟩].length) ([qd, ⟨qa 0, 3, e1⟩, ⟨qa 1, e1, e2⟩].flatMap secL) 69 3, .row (.slice A20 (((((([] : List Nat) ++ [nx]) ++ [cp]) ++ [cr]) ++ [gp]).length) c20) (((((([] : List Nat) ++ [nx]) ++ [cp]) ++ [cr]) ++ [gp]).length) (((((([] : List Nat) ++ [nx]) ++ [cp]) ++ [cr]) ++ [gp]).map U64) 30 1, .blk g2 #[vI 0] 44] := I
     refine Jb Z I ((JG∘JQ) fun a Z I => ?_)
     rcases qgp b (2 * (gp - 1)) e2 with hv_e3 | ⟨gs, e3, hv_e3⟩
     ·
      refine Jb Z I ((JR∘Jp 2∘JsK 1∘Jp 1∘Jo (vI (2 * (gp - 1) : Nat)) (by exact zq om om)) fun a Z I => ?_)
      refine fo Z 4 rfl rfl ?_
      exact qa4 Z [vP g 0, vI (2 * (gp - 1) : Nat)] rfl (qi8 W _ g e2 A A20 c c20 b ((((([] : List Nat) ++ [nx]) ++ [cp]) ++ [cr]) ++ [gp]) (.slice S22 ([qd, ⟨qa 0, 3, e1⟩, ⟨qa 1, e1, e2⟩].length) k22) _ (2 * (gp - 1)) om hc20 (I.pk [0, 2, 1, 3]) hin hbc hl hb hi_e2.2 hq_e2 hv_e3) fun w2 I => zd Z rfl I (i := 1) rfl (hp.trans (qgo hv_e3)) [] de rfl
     ·
      have hp := hp.trans hv_e3.goK
      have hi_e3 := hv_e3.in hi_e2.2
      have hq_e3 := q_leK (xs := gs) hq_e2 hi_e3.1 hi_e3.2.1
      refine Jb Z I ((JR∘Jp 2∘JsK 1∘Jp 1∘Jo (vI (2 * (gp - 1) : Nat)) (by exact zq om om)∘JL (h:=by exact fun I => qi7 W _ g e2 A A20 c c20 b ((((([] : List Nat) ++ [nx]) ++ [cp]) ++ [cr]) ++ [gp]) (.slice S22 ([qd, ⟨qa 0, 3, e1⟩, ⟨qa 1, e1, e2⟩].length) k22) _ (2 * (gp - 1)) om hc20 (I.pk [0, 2, 1, 3]) hin hbc hl hb hi_e2.2 hq_e2 hv_e3)) ?_)
      rintro I _ w27 ⟨rfl, A27, c27, hc27, HM2⟩
      refine ⟨_, rfl, _, HM2, ?_⟩
      refine (Jt5∘Jr∘Jp 1∘JL (h:=by exact fun I => qf3 (l2 := [qd, ⟨qa 0, 3, e1⟩, ⟨qa 1, e1, e2⟩, ⟨qa 2, e2, e3⟩]) W _ g e3 _ _ S22 k22 ([qd, ⟨qa 0, 3, e1⟩, ⟨qa 1, e1, e2⟩]) _ _ (I.pk [0, 2, 1, 3]) (Nat.le_of_ble_eq_true rfl) rfl)) ?_
      rintro I _ w29 ⟨rfl, S29, k29, hk29, HM2⟩
      refine ⟨_, rfl, _, HM2, ?_⟩
      refine (Jt2∘Jq) fun a Z I => ?_
      replace I : Mem W _ [.blk g #[.slice A b.length c, vI e3, .slice A27 ((((((([] : List Nat) ++ [nx]) ++ [cp]) ++ [cr]) ++ [gp]) ++ gs).length) c27, .slice S29 ([qd, ⟨qa 0, 3, e1⟩, ⟨qa 1, e1, e2⟩, ⟨qa 2, e2, e3⟩].length) k29] 130, .row (.slice S29 ([qd, ⟨qa 0, 3, e1⟩, ⟨qa 1, e1, e2⟩, ⟨qa 2, e2, e3⟩].length) k29) ([qd, ⟨qa 0, 3, e1⟩, ⟨qa 1, e1, e2⟩, ⟨qa 2, e2, e3⟩].length) ([qd, ⟨qa 0, 3, e1⟩, ⟨qa 1, e1, e2⟩, ⟨qa 2, e2, e3⟩].flatMap secL) 69 3, .row (.slice A27 ((((((([] : List Nat) ++ [nx]) ++ [cp]) ++ [cr]) ++ [gp]) ++ gs).length) c27) ((((((([] : List Nat) ++ [nx]) ++ [cp]) ++ [cr]) ++ [gp]) ++ gs).length) ((((((([] : List Nat) ++ [nx]) ++ [cp]) ++ [cr]) ++ [gp]) ++ gs).map U64) 30 1, .blk g2 #[vI 0] 44] := I
      refine Jb Z I ((JG∘JQ) fun a Z I => ?_)
      rcases qgp b cp e3 with hv_e4 | ⟨cl, e4, hv_e4⟩
      ·
       refine Jb Z I ((JR∘Jp 2) fun a Z I => ?_)
       refine fo Z 2 rfl rfl ?_
       exact qa4 Z [vP g 0, vI cp] rfl (qi8 W _ g e3 A A27 c c27 b (((((([] : List Nat) ++ [nx]) ++ [cp]) ++ [cr]) ++ [gp]) ++ gs) (.slice S29 ([qd, ⟨qa 0, 3, e1⟩, ⟨qa 1, e1, e2⟩, ⟨qa 2, e2, e3⟩].length) k29) _ cp om hc27 (I.pk [0, 2, 1, 3]) hin hbc hl hb hi_e3.2.2 hq_e3 hv_e4) fun w2 I => zd Z rfl I (i := 1) rfl (hp.trans (qgo hv_e4)) [] de rfl
      ·
       have hp := hp.trans hv_e4.goK
       have hi_e4 := hv_e4.in hi_e3.2.2
       have hq_e4 := q_leK (xs := cl) hq_e3 hi_e4.1 hi_e4.2.1
       refine Jb Z I ((JR∘Jp 2∘JL (h:=by exact fun I => qi7 W _ g e3 A A27 c c27 b (((((([] : List Nat) ++ [nx]) ++ [cp]) ++ [cr]) ++ [gp]) ++ gs) (.slice S29 ([qd, ⟨qa 0, 3, e1⟩, ⟨qa 1, e1, e2⟩, ⟨qa 2, e2, e3⟩].length) k29) _ cp om hc27 (I.pk [0, 2, 1, 3]) hin hbc hl hb hi_e3.2.2 hq_e3 hv_e4)) ?_)
       rintro I _ w32 ⟨rfl, A32, c32, hc32, HM2⟩
       refine ⟨_, rfl, _, HM2, ?_⟩
       refine (Jt3∘Jr∘Jp 1∘JL (h:=by exact fun I => qf3 (l2 := [qd, ⟨qa 0, 3, e1⟩, ⟨qa 1, e1, e2⟩, ⟨qa 2, e2, e3⟩, ⟨qa 3, e3, e4⟩]) W _ g e4 _ _ S29 k29 ([qd, ⟨qa 0, 3, e1⟩, ⟨qa 1, e1, e2⟩, ⟨qa 2, e2, e3⟩]) _ _ (I.pk [0, 2, 1, 3]) (Nat.le_of_ble_eq_true rfl) rfl)) ?_
       rintro I _ w34 ⟨rfl, S34, k34, hk34, HM2⟩
       refine ⟨_, rfl, _, HM2, ?_⟩
       refine (Jt2∘Jq) fun a Z I => ?_
       replace I : Mem W _ [.blk g #[.slice A b.length c, vI e4, .slice A32 (((((((([] : List Nat) ++ [nx]) ++ [cp]) ++ [cr]) ++ [gp]) ++ gs) ++ cl).length) c32, .slice S34 ([qd, ⟨qa 0, 3, e1⟩, ⟨qa 1, e1, e2⟩, ⟨qa 2, e2, e3⟩, ⟨qa 3, e3, e4⟩].length) k34] 130, .row (.slice S34 ([qd, ⟨qa 0, 3, e1⟩, ⟨qa 1, e1, e2⟩, ⟨qa 2, e2, e3⟩, ⟨qa 3, e3, e4⟩].length) k34) ([qd, ⟨qa 0, 3, e1⟩, ⟨qa 1, e1, e2⟩, ⟨qa 2, e2, e3⟩, ⟨qa 3, e3, e4⟩].length) ([qd, ⟨qa 0, 3, e1⟩, ⟨qa 1, e1, e2⟩, ⟨qa 2, e2, e3⟩, ⟨qa 3, e3, e4⟩].flatMap secL) 69 3, .row (.slice A32 (((((((([] : List Nat) ++ [nx]) ++ [cp]) ++ [cr]) ++ [gp]) ++ gs) ++ cl).length) c32) (((((((([] : List Nat) ++ [nx]) ++ [cp]) ++ [cr]) ++ [gp]) ++ gs) ++ cl).length) (((((((([] : List Nat) ++ [nx]) ++ [cp]) ++ [cr]) ++ [gp]) ++ gs) ++ cl).map U64) 30 1, .blk g2 #[vI 0] 44] := I
       refine Jb Z I ((JG∘JQ) fun a Z I => ?_)
       rcases qgp b cp e4 with hv_e5 | ⟨cu, e5, hv_e5⟩
       ·
        refine Jb Z I ((JR∘Jp 2) fun a Z I => ?_)
        refine fo Z 2 rfl rfl ?_
        exact qa4 Z [vP g 0, vI cp] rfl (qi8 W _ g e4 A A32 c c32 b ((((((([] : List Nat) ++ [nx]) ++ [cp]) ++ [cr]) ++ [gp]) ++ gs) ++ cl) (.slice S34 ([qd, ⟨qa 0, 3, e1⟩, ⟨qa 1, e1, e2⟩, ⟨qa 2, e2, e3⟩, ⟨qa 3, e3, e4⟩].length) k34) _ cp om hc32 (I.pk [0, 2, 1, 3]) hin hbc hl hb hi_e4.2.2 hq_e4 hv_e5) fun w2 I => zd Z rfl I (i := 1) rfl (hp.trans (qgo hv_e5)) [] de rfl
       ·
        have hp := hp.trans hv_e5.goK
        have hi_e5 := hv_e5.in hi_e4.2.2
        have hq_e5 := q_leK (xs := cu) hq_e4 hi_e5.1 hi_e5.2.1
        refine Jb Z I ((JR∘Jp 2∘JL (h:=by exact fun I => qi7 W _ g e4 A A32 c c32 b ((((((([] : List Nat) ++ [nx]) ++ [cp]) ++ [cr]) ++ [gp]) ++ gs) ++ cl) (.slice S34 ([qd, ⟨qa 0, 3, e1⟩, ⟨qa 1, e1, e2⟩, ⟨qa 2, e2, e3⟩, ⟨qa 3, e3, e4⟩].length) k34) _ cp om hc32 (I.pk [0, 2, 1, 3]) hin hbc hl hb hi_e4.2.2 hq_e4 hv_e5)) ?_)
        rintro I _ w37 ⟨rfl, A37, c37, hc37, HM2⟩
        refine ⟨_, rfl, _, HM2, ?_⟩
        refine (Jt3∘Jr∘Jp 1∘JL (h:=by exact fun I => qf3 (l2 := [qd, ⟨qa 0, 3, e1⟩, ⟨qa 1, e1, e2⟩, ⟨qa 2, e2, e3⟩, ⟨qa 3, e3, e4⟩, ⟨qa 4, e4, e5⟩]) W _ g e5 _ _ S34 k34 ([qd, ⟨qa 0, 3, e1⟩, ⟨qa 1, e1, e2⟩, ⟨qa 2, e2, e3⟩, ⟨qa 3, e3, e4⟩]) _ _ (I.pk [0, 2, 1, 3]) (Nat.le_of_ble_eq_true rfl) rfl)) ?_
        rintro I _ w39 ⟨rfl, S39, k39, hk39, HM2⟩
        refine ⟨_, rfl, _, HM2, ?_⟩
        refine (Jt2∘Jq) fun a Z I => ?_
        replace I : Mem W _ [.blk g #[.slice A b.length c, vI e5, .slice A37 ((((((((([] : List Nat) ++ [nx]) ++ [cp]) ++ [cr]) ++ [gp]) ++ gs) ++ cl) ++ cu).length) c37, .slice S39 ([qd, ⟨qa 0, 3, e1⟩, ⟨qa 1, e1, e2⟩, ⟨qa 2, e2, e3⟩, ⟨qa 3, e3, e4⟩, ⟨qa 4, e4, e5⟩].length) k39] 130, .row (.slice S39 ([qd, ⟨qa 0, 3, e1⟩, ⟨qa 1, e1, e2⟩, ⟨qa 2, e2, e3⟩, ⟨qa 3, e3, e4⟩, ⟨qa 4, e4, e5⟩].length) k39) ([qd, ⟨qa 0, 3, e1⟩, ⟨qa 1, e1, e2⟩, ⟨qa 2, e2, e3⟩, ⟨qa 3, e3, e4⟩, ⟨qa 4, e4, e5⟩].length) ([qd, ⟨qa 0, 3, e1⟩, ⟨qa 1, e1, e2⟩, ⟨qa 2, e2, e3⟩, ⟨qa 3, e3, e4⟩, ⟨qa 4, e4, e5⟩].flatMap secL) 69 3, .row (.slice A37 ((((((((([] : List Nat) ++ [nx]) ++ [cp]) ++ [cr]) ++ [gp]) ++ gs) ++ cl) ++ cu).length) c37) ((((((((([] : List Nat) ++ [nx]) ++ [cp]) ++ [cr]) ++ [gp]) ++ gs) ++ cl) ++ cu).length) ((((((((([] : List Nat) ++ [nx]) ++ [cp]) ++ [cr]) ++ [gp]) ++ gs) ++ cl) ++ cu).map U64) 30 1, .blk g2 #[vI 0] 44] := I
        refine Jb Z I ((JG∘JQ) fun a Z I => ?_)
        rcases qrw b e5 0 65535 with hv_a3 | ⟨tk, a3, hv_a3, hr_a3⟩ | ⟨tk, a3, hv_a3, hr_a3⟩
        ·
         refine Jb Z I ((JR∘Jp 2) fun a Z I => ?_)
         refine fo Z 2 rfl rfl ?_
         exact qa4 Z [vP g 0, vQ 0, vQ 65535] rfl (ql8 W _ g e5 A A37 c c37 b (((((((([] : List Nat) ++ [nx]) ++ [cp]) ++ [cr]) ++ [gp]) ++ gs) ++ cl) ++ cu) (.slice S39 ([qd, ⟨qa 0, 3, e1⟩, ⟨qa 1, e1, e2⟩, ⟨qa 2, e2, e3⟩, ⟨qa 3, e3, e4⟩, ⟨qa 4, e4, e5⟩].length) k39) _ 0 65535 de (I.pk [0, 2, 1, 3]) hin hbc hl hb hi_e5.2.2 hq_e5 hv_a3) fun w2 I => zd Z rfl I (i := 1) rfl (hp.trans (qlz hv_a3)) [] de rfl
        ·
         refine Jb Z I ((JR∘Jp 2) fun a Z I => ?_)
         refine fo Z 2 rfl rfl ?_
         exact qa4 Z [vP g 0, vQ 0, vQ 65535] rfl (qi6 W _ g e5 A A37 c c37 b (((((((([] : List Nat) ++ [nx]) ++ [cp]) ++ [cr]) ++ [gp]) ++ gs) ++ cl) ++ cu) (.slice S39 ([qd, ⟨qa 0, 3, e1⟩, ⟨qa 1, e1, e2⟩, ⟨qa 2, e2, e3⟩, ⟨qa 3, e3, e4⟩, ⟨qa 4, e4, e5⟩].length) k39) _ 0 65535 de (I.pk [0, 2, 1, 3]) hin hbc hl hb hi_e5.2.2 hq_e5 hv_a3 hr_a3) fun w2 I => zd Z rfl I (i := 1) rfl (hp.trans (hv_a3.bad hr_a3)) [] de rfl
        ·
         have hp := hp.trans (hv_a3.goC hr_a3)
         have hi_a3 := hv_a3.in hi_e5.2.2
         have hq_a3 := q_le1 (x := tk) hq_e5 hi_a3.1
         rcases qgp b (8 * tk) a3 with hv_e6 | ⟨ts, e6, hv_e6⟩
         ·
          refine Jb Z I ((JR∘Jp 2∘JL (h:=by exact fun I => qhk W _ g e5 A A37 c c37 b (((((((([] : List Nat) ++ [nx]) ++ [cp]) ++ [cr]) ++ [gp]) ++ gs) ++ cl) ++ cu) (.slice S39 ([qd, ⟨qa 0, 3, e1⟩, ⟨qa 1, e1, e2⟩, ⟨qa 2, e2, e3⟩, ⟨qa 3, e3, e4⟩, ⟨qa 4, e4, e5⟩].length) k39) _ 0 65535 de (I.pk [0, 2, 1, 3]) hin hbc hl hb hi_e5.2.2 hq_e5 hv_a3 hr_a3)) ?_)
          rintro I _ w42 ⟨rfl, A42, c42, hc42, HM2⟩
          refine ⟨_, rfl, _, HM2, ?_⟩
          refine (Jp 1∘Jo (vI (8 * tk : Nat)) (by exact zq om om)) fun a Z I => ?_
          refine fo Z 4 rfl rfl ?_
          exact qa4 Z [vP g 0, vI (8 * tk : Nat)] rfl (qi8 W _ g a3 A A42 c c42 b ((((((((([] : List Nat) ++ [nx]) ++ [cp]) ++ [cr]) ++ [gp]) ++ gs) ++ cl) ++ cu) ++ [tk]) (.slice S39 ([qd, ⟨qa 0, 3, e1⟩, ⟨qa 1, e1, e2⟩, ⟨qa 2, e2, e3⟩, ⟨qa 3, e3, e4⟩, ⟨qa 4, e4, e5⟩].length) k39) _ (8 * tk) om hc42 (I.pk [0, 1, 2, 3]) hin hbc hl hb hi_a3.2 hq_a3 hv_e6) fun w2 I => zd Z rfl I (i := 1) rfl (hp.trans (qgo hv_e6)) [] de rfl
         ·
          have hp := hp.trans hv_e6.goK
          have hi_e6 := hv_e6.in hi_a3.2
          have hq_e6 := q_leK (xs := ts) hq_a3 hi_e6.1 hi_e6.2.1
          refine Jb Z I ((JR∘Jp 2∘JL (h:=by exact fun I => qhk W _ g e5 A A37 c c37 b (((((((([] : List Nat) ++ [nx]) ++ [cp]) ++ [cr]) ++ [gp]) ++ gs) ++ cl) ++ cu) (.slice S39 ([qd, ⟨qa 0, 3, e1⟩, ⟨qa 1, e1, e2⟩, ⟨qa 2, e2, e3⟩, ⟨qa 3, e3, e4⟩, ⟨qa 4, e4, e5⟩].length) k39) _ 0 65535 de (I.pk [0, 2, 1, 3]) hin hbc hl hb hi_e5.2.2 hq_e5 hv_a3 hr_a3)) ?_)
          rintro I _ w42 ⟨rfl, A42, c42, hc42, HM2⟩
          refine ⟨_, rfl, _, HM2, ?_⟩
          refine (Jp 1∘Jo (vI (8 * tk : Nat)) (by exact zq om om)∘JL (h:=by exact fun I => qi7 W _ g a3 A A42 c c42 b ((((((((([] : List Nat) ++ [nx]) ++ [cp]) ++ [cr]) ++ [gp]) ++ gs) ++ cl) ++ cu) ++ [tk]) (.slice S39 ([qd, ⟨qa 0, 3, e1⟩, ⟨qa 1, e1, e2⟩, ⟨qa 2, e2, e3⟩, ⟨qa 3, e3, e4⟩, ⟨qa 4, e4, e5⟩].length) k39) _ (8 * tk) om hc42 (I.pk [0, 1, 2, 3]) hin hbc hl hb hi_a3.2 hq_a3 hv_e6)) ?_
          rintro I _ w44 ⟨rfl, A44, c44, hc44, HM2⟩
          refine ⟨_, rfl, _, HM2, ?_⟩
          refine (Jt5∘Jr∘Jp 1∘JL (h:=by exact fun I => qf3 (l2 := [qd, ⟨qa 0, 3, e1⟩, ⟨qa 1, e1, e2⟩, ⟨qa 2, e2, e3⟩, ⟨qa 3, e3, e4⟩, ⟨qa 4, e4, e5⟩, ⟨qa 5, e5, e6⟩]) W _ g e6 _ _ S39 k39 ([qd, ⟨qa 0, 3, e1⟩, ⟨qa 1, e1, e2⟩, ⟨qa 2, e2, e3⟩, ⟨qa 3, e3, e4⟩, ⟨qa 4, e4, e5⟩]) _ _ (I.pk [0, 2, 1, 3]) (Nat.le_of_ble_eq_true rfl) rfl)) ?_
          rintro I _ w46 ⟨rfl, S46, k46, hk46, HM2⟩
          refine ⟨_, rfl, _, HM2, ?_⟩
          refine (Jt2∘Jq) fun a Z I => ?_
          replace I : Mem W _ [.blk g #[.slice A b.length c, vI e6, .slice A44 ((((((((((([] : List Nat) ++ [nx]) ++ [cp]) ++ [cr]) ++ [gp]) ++ gs) ++ cl) ++ cu) ++ [tk]) ++ ts).length) c44, .slice S46 ([qd, ⟨qa 0, 3, e1⟩, ⟨qa 1, e1, e2⟩, ⟨qa 2, e2, e3⟩, ⟨qa 3, e3, e4⟩, ⟨qa 4, e4, e5⟩, ⟨qa 5, e5, e6⟩].length) k46] 130, .row (.slice S46 ([qd, ⟨qa 0, 3, e1⟩, ⟨qa 1, e1, e2⟩, ⟨qa 2, e2, e3⟩, ⟨qa 3, e3, e4⟩, ⟨qa 4, e4, e5⟩, ⟨qa 5, e5, e6⟩].length) k46) ([qd, ⟨qa 0, 3, e1⟩, ⟨qa 1, e1, e2⟩, ⟨qa 2, e2, e3⟩, ⟨qa 3, e3, e4⟩, ⟨qa 4, e4, e5⟩, ⟨qa 5, e5, e6⟩].length) ([qd, ⟨qa 0, 3, e1⟩, ⟨qa 1, e1, e2⟩, ⟨qa 2, e2, e3⟩, ⟨qa 3, e3, e4⟩, ⟨qa 4, e4, e5⟩, ⟨qa 5, e5, e6⟩].flatMap secL) 69 3, .row (.slice A44 ((((((((((([] : List Nat) ++ [nx]) ++ [cp]) ++ [cr]) ++ [gp]) ++ gs) ++ cl) ++ cu) ++ [tk]) ++ ts).length) c44) ((((((((((([] : List Nat) ++ [nx]) ++ [cp]) ++ [cr]) ++ [gp]) ++ gs) ++ cl) ++ cu) ++ [tk]) ++ ts).length) ((((((((((([] : List Nat) ++ [nx]) ++ [cp]) ++ [cr]) ++ [gp]) ++ gs) ++ cl) ++ cu) ++ [tk]) ++ ts).map U64) 30 1, .blk g2 #[vI 0] 44] := I
          refine Jb Z I ((JG∘JQ) fun a Z I => ?_)
          rcases qgp b (cp + 3 * cp * (gp - 1)) e6 with hv_e7 | ⟨sp, e7, hv_e7⟩
          ·
           refine Jb Z I ((JR∘Jp 4∘Jo (vI (3 * cp : Nat)) (by exact zq om om)∘Jp 1∘JsK 1∘Jp 1∘Jo (vI (3 * cp * (gp - 1) : Nat)) (by exact qn5 (m := 3 * cp) (n := gp - 1) (by have := h3; omega))∘Ja) fun a Z I => ?_)
           refine fo Z 8 rfl rfl ?_
           exact qa4 Z [vP g 0, vI (cp + (3 * cp * (gp - 1)) : Nat)] rfl (qi8 W _ g e6 A A44 c c44 b (((((((((([] : List Nat) ++ [nx]) ++ [cp]) ++ [cr]) ++ [gp]) ++ gs) ++ cl) ++ cu) ++ [tk]) ++ ts) (.slice S46 ([qd, ⟨qa 0, 3, e1⟩, ⟨qa 1, e1, e2⟩, ⟨qa 2, e2, e3⟩, ⟨qa 3, e3, e4⟩, ⟨qa 4, e4, e5⟩, ⟨qa 5, e5, e6⟩].length) k46) _ (cp + (3 * cp * (gp - 1))) om hc44 (I.pk [0, 2, 1, 3]) hin hbc hl hb hi_e6.2.2 hq_e6 hv_e7) fun w2 I => zd Z rfl I (i := 1) rfl (hp.trans (qgo hv_e7)) [] de rfl
          ·
           have hp := hp.trans hv_e7.goK
           have hi_e7 := hv_e7.in hi_e6.2.2
           have hq_e7 := q_leK (xs := sp) hq_e6 hi_e7.1 hi_e7.2.1
           refine Jb Z I ((JR∘Jp 4∘Jo (vI (3 * cp : Nat)) (by exact zq om om)∘Jp 1∘JsK 1∘Jp 1∘Jo (vI (3 * cp * (gp - 1) : Nat)) (by exact qn5 (m := 3 * cp) (n := gp - 1) (by have := h3; omega))∘Ja∘JL (h:=by exact fun I => qi7 W _ g e6 A A44 c c44 b (((((((((([] : List Nat) ++ [nx]) ++ [cp]) ++ [cr]) ++ [gp]) ++ gs) ++ cl) ++ cu) ++ [tk]) ++ ts) (.slice S46 ([qd, ⟨qa 0, 3, e1⟩, ⟨qa 1, e1, e2⟩, ⟨qa 2, e2, e3⟩, ⟨qa 3, e3, e4⟩, ⟨qa 4, e4, e5⟩, ⟨qa 5, e5, e6⟩].length) k46) _ (cp + (3 * cp * (gp - 1))) om hc44 (I.pk [0, 2, 1, 3]) hin hbc hl hb hi_e6.2.2 hq_e6 hv_e7)) ?_)
           rintro I _ w55 ⟨rfl, A55, c55, hc55, HM2⟩
           refine ⟨_, rfl, _, HM2, ?_⟩
           refine (Jt6∘Jr∘Jp 1∘JL (h:=by exact fun I => qf3 (l2 := [qd, ⟨qa 0, 3, e1⟩, ⟨qa 1, e1, e2⟩, ⟨qa 2, e2, e3⟩, ⟨qa 3, e3, e4⟩, ⟨qa 4, e4, e5⟩, ⟨qa 5, e5, e6⟩, ⟨qa 6, e6, e7⟩]) W _ g e7 _ _ S46 k46 ([qd, ⟨qa 0, 3, e1⟩, ⟨qa 1, e1, e2⟩, ⟨qa 2, e2, e3⟩, ⟨qa 3, e3, e4⟩, ⟨qa 4, e4, e5⟩, ⟨qa 5, e5, e6⟩]) _ _ (I.pk [0, 2, 1, 3]) (Nat.le_of_ble_eq_true rfl) rfl)) ?_
           rintro I _ w57 ⟨rfl, S57, k57, hk57, HM2⟩
           refine ⟨_, rfl, _, HM2, ?_⟩
           refine (Jt5∘Jq) fun a Z I => ?_
           replace I : Mem W _ [.blk g #[.slice A b.length c, vI e7, .slice A55 (((((((((((([] : List Nat) ++ [nx]) ++ [cp]) ++ [cr]) ++ [gp]) ++ gs) ++ cl) ++ cu) ++ [tk]) ++ ts) ++ sp).length) c55, .slice S57 ([qd, ⟨qa 0, 3, e1⟩, ⟨qa 1, e1, e2⟩, ⟨qa 2, e2, e3⟩, ⟨qa 3, e3, e4⟩, ⟨qa 4, e4, e5⟩, ⟨qa 5, e5, e6⟩, ⟨qa 6, e6, e7⟩].length) k57] 130, .row (.slice S57 ([qd, ⟨qa 0, 3, e1⟩, ⟨qa 1, e1, e2⟩, ⟨qa 2, e2, e3⟩, ⟨qa 3, e3, e4⟩, ⟨qa 4, e4, e5⟩, ⟨qa 5, e5, e6⟩, ⟨qa 6, e6, e7⟩].length) k57) ([qd, ⟨qa 0, 3, e1⟩, ⟨qa 1, e1, e2⟩, ⟨qa 2, e2, e3⟩, ⟨qa 3, e3, e4⟩, ⟨qa 4, e4, e5⟩, ⟨qa 5, e5, e6⟩, ⟨qa 6, e6, e7⟩].length) ([qd, ⟨qa 0, 3, e1⟩, ⟨qa 1, e1, e2⟩, ⟨qa 2, e2, e3⟩, ⟨qa 3, e3, e4⟩, ⟨qa 4, e4, e5⟩, ⟨qa 5, e5, e6⟩, ⟨qa 6, e6, e7⟩].flatMap secL) 69 3, .row (.slice A55 (((((((((((([] : List Nat) ++ [nx]) ++ [cp]) ++ [cr]) ++ [gp]) ++ gs) ++ cl) ++ cu) ++ [tk]) ++ ts) ++ sp).length) c55) (((((((((((([] : List Nat) ++ [nx]) ++ [cp]) ++ [cr]) ++ [gp]) ++ gs) ++ cl) ++ cu) ++ [tk]) ++ ts) ++ sp).length) (((((((((((([] : List Nat) ++ [nx]) ++ [cp]) ++ [cr]) ++ [gp]) ++ gs) ++ cl) ++ cu) ++ [tk]) ++ ts) ++ sp).map U64) 30 1, .blk g2 #[vI 0] 44] := I
           refine Jb Z I ((JG∘JQ) fun a Z I => ?_)
           refine wp_seq ?_
           refine q50 ?_
           refine qmm I [.blk g #[.slice A b.length c, vI e7, .slice A55 (((((((((((([] : List Nat) ++ [nx]) ++ [cp]) ++ [cr]) ++ [gp]) ++ gs) ++ cl) ++ cu) ++ [tk]) ++ ts) ++ sp).length) c55, .slice S57 ([qd, ⟨qa 0, 3, e1⟩, ⟨qa 1, e1, e2⟩, ⟨qa 2, e2, e3⟩, ⟨qa 3, e3, e4⟩, ⟨qa 4, e4, e5⟩, ⟨qa 5, e5, e6⟩, ⟨qa 6, e6, e7⟩].length) k57] 130, .row (.slice S57 ([qd, ⟨qa 0, 3, e1⟩, ⟨qa 1, e1, e2⟩, ⟨qa 2, e2, e3⟩, ⟨qa 3, e3, e4⟩, ⟨qa 4, e4, e5⟩, ⟨qa 5, e5, e6⟩, ⟨qa 6, e6, e7⟩].length) k57) ([qd, ⟨qa 0, 3, e1⟩, ⟨qa 1, e1, e2⟩, ⟨qa 2, e2, e3⟩, ⟨qa 3, e3, e4⟩, ⟨qa 4, e4, e5⟩, ⟨qa 5, e5, e6⟩, ⟨qa 6, e6, e7⟩].length) ([qd, ⟨qa 0, 3, e1⟩, ⟨qa 1, e1, e2⟩, ⟨qa 2, e2, e3⟩, ⟨qa 3, e3, e4⟩, ⟨qa 4, e4, e5⟩, ⟨qa 5, e5, e6⟩, ⟨qa 6, e6, e7⟩].flatMap secL) 69 3, .row (.slice A55 (((((((((((([] : List Nat) ++ [nx]) ++ [cp]) ++ [cr]) ++ [gp]) ++ gs) ++ cl) ++ cu) ++ [tk]) ++ ts) ++ sp).length) c55) (((((((((((([] : List Nat) ++ [nx]) ++ [cp]) ++ [cr]) ++ [gp]) ++ gs) ++ cl) ++ cu) ++ [tk]) ++ ts) ++ sp).length) (((((((((((([] : List Nat) ++ [nx]) ++ [cp]) ++ [cr]) ++ [gp]) ++ gs) ++ cl) ++ cu) ++ [tk]) ++ ts) ++ sp).map U64) 30 1, .blk g2 #[vI 0] 44] [0, 1, 2, 3] [] fun I HS => ?_
           refine ap Z (fun _ => HS) [0, 4] (bf 10 [0, 4]) [(62, vP g 0), (58, vP g 0)] fun a Z => ?_
           refine s_am Z HS 1 fun a Z => ?_
           refine ap Z (fun _ => HS) [2] (bf 10 [0, 1, 2, 4]) [(60, vP g 1)] fun a Z => ?_
           refine s_ac Z HS 3 0 fun a Z => ?_
           refine s_am Z HS 5 fun a Z => ?_
           refine ap Z (fun _ => HS) [6] (bt 10 [7, 8, 9]) [(64, vP g 0)] fun a Z => ?_
           refine s_ac Z HS 7 0 fun a Z => ?_
           refine s_al Z HS 8 fun a Z => ?_
           refine ap Z (fun _ => HS) [9] (bt 10 []) [(67, .bool ((e7 : Int) != (b.length : Int)))] fun a Z => ?_
           refine qc kr ?_
           refine Jb Z I (Ju (fun hb67 => ?_) fun hb67 => ?_)
           ·
            intro a Z I
            have hd67 := bne_iff_ne.1 hb67
            have hne : e7 ≠ b.length := by omega
            refine Jb Z I ((JT∘JR) fun a Z I => ?_)
            refine fo Z 0 rfl rfl ?_
            exact qa4 Z [vI 346] rfl (qhh 346 _ I) fun w2 I => zd Z rfl I (i := 3) rfl (hp.trans (if_pos hne)) [] de rfl
           intro a Z I
           have hd67 := bne_eq_false_iff_eq.1 hb67
           revert I; revert a; repeat (first | clear Z | clear I)
           intro a Z I
           obtain rfl : e7 = b.length := by omega
           have hp := hp.trans (if_neg (fun h => h rfl))
           obtain ⟨qn, hqn⟩ : ∃ qn, ((((((((((([] : List Nat) ++ [nx]) ++ [cp]) ++ [cr]) ++ [gp]) ++ gs) ++ cl) ++ cu) ++ [tk]) ++ ts) ++ sp) = qn := ⟨_, rfl⟩
           rw [hqn] at I hc55
           refine Jb Z I ((JF∘JS'∘JP∘Jp 1∘Jn∘Jg 1 O0∘JaK 4∘Jn∘Jf 1∘JW O0' O1') fun w22_7 => (Jt6∘Jr∘Jp 1∘JL (h:=by exact fun I => qf3 (l2 := [qd, ⟨qa 0, 3, e1⟩, ⟨qa 1, e1, e2⟩, ⟨qa 2, e2, e3⟩, ⟨qa 3, e3, e4⟩, ⟨qa 4, e4, e5⟩, ⟨qa 5, e5, e6⟩, ⟨qa 6, e6, b.length⟩, ⟨⟨#[115, 117, 109]⟩, b.length, b.length + 4⟩]) W _ g (b.length + 4 : Nat) _ _ S57 k57 ([qd, ⟨qa 0, 3, e1⟩, ⟨qa 1, e1, e2⟩, ⟨qa 2, e2, e3⟩, ⟨qa 3, e3, e4⟩, ⟨qa 4, e4, e5⟩, ⟨qa 5, e5, e6⟩, ⟨qa 6, e6, b.length⟩]) _ _ (I.pk [0, 1, 2, 3]) (Nat.le_of_ble_eq_true rfl) rfl)) ?_)
           rintro I _ w77 ⟨rfl, S77, k77, hk77, HM2⟩
           refine ⟨_, rfl, _, HM2, ?_⟩
           refine (Jt2∘Jq) fun a Z I => ?_
           replace I : Mem W _ [.blk g #[.slice A b.length c, vI (b.length + 4 : Nat), .slice A55 qn.length c55, .slice S77 ([qd, ⟨qa 0, 3, e1⟩, ⟨qa 1, e1, e2⟩, ⟨qa 2, e2, e3⟩, ⟨qa 3, e3, e4⟩, ⟨qa 4, e4, e5⟩, ⟨qa 5, e5, e6⟩, ⟨qa 6, e6, b.length⟩, ⟨⟨#[115, 117, 109]⟩, b.length, b.length + 4⟩].length) k77] 130, .row (.slice S77 ([qd, ⟨qa 0, 3, e1⟩, ⟨qa 1, e1, e2⟩, ⟨qa 2, e2, e3⟩, ⟨qa 3, e3, e4⟩, ⟨qa 4, e4, e5⟩, ⟨qa 5, e5, e6⟩, ⟨qa 6, e6, b.length⟩, ⟨⟨#[115, 117, 109]⟩, b.length, b.length + 4⟩].length) k77) ([qd, ⟨qa 0, 3, e1⟩, ⟨qa 1, e1, e2⟩, ⟨qa 2, e2, e3⟩, ⟨qa 3, e3, e4⟩, ⟨qa 4, e4, e5⟩, ⟨qa 5, e5, e6⟩, ⟨qa 6, e6, b.length⟩, ⟨⟨#[115, 117, 109]⟩, b.length, b.length + 4⟩].length) ([qd, ⟨qa 0, 3, e1⟩, ⟨qa 1, e1, e2⟩, ⟨qa 2, e2, e3⟩, ⟨qa 3, e3, e4⟩, ⟨qa 4, e4, e5⟩, ⟨qa 5, e5, e6⟩, ⟨qa 6, e6, b.length⟩, ⟨⟨#[115, 117, 109]⟩, b.length, b.length + 4⟩].flatMap secL) 69 3, .row (.slice A55 qn.length c55) qn.length (qn.map U64) 30 1, .blk g2 #[vI 0] 44] := I
           refine Jb Z I ((JG∘JP∘JW O3' O0') fun w24_0 => (Jd6∘Jj∘JZ) fun a Z I => ?_)
           exact q2y Z rfl I (i := 3) rfl fun w3 I => .inl ⟨(⟨nx, cp, cr, gp, gs, cl, cu, tk, ts, sp, e1, e2, e3, e4, e5, e6, b.length⟩ : Pr), A55, c55, S77, k77, hp, rfl, by subst hqn; rw [qsd]; exact hc55, hk77, by subst hqn; rw [qsd]; exact I.pk [0, 2, 1]⟩
theorem q6l (W w : World) (g : Nat) (A : Option Addr) (c : Nat) (b : List Nat) (HW : Mem W w [.blk g #[.slice A b.length c, vI 0, vN, vN] 130]) (hin : Rd W W.heap.size 1 A b.length (b.map B8)) (hbc : b.length ≤ c) (hl : ∀ z ∈ b, z < 256) (hb : b.length ≤ 16777216) (hb3 : 3 ≤ b.length) {p : Pr} (h : prs b = .ok p) : Calls Tryz.prog 91 #[vP g 0] w (fun r w' => r = .returned (vI 0) ∧ ∃ NA nc SA sc, p.nums.length ≤ nc ∧ p.secs.length ≤ sc ∧ Mem W w' [.blk g #[.slice A b.length c, vI ((b.length + 4 : Nat) : Int), .slice NA p.nums.length nc, .slice SA p.secs.length sc] 130, .row (.slice NA p.nums.length nc) p.nums.length (p.nums.map U64) 30 1, .row (.slice SA p.secs.length sc) p.secs.length (p.secs.flatMap secL) 69 3]) :=
 (qse W w g A c b HW hin hbc hl hb hb3).mono fun r w' h1 => by
  rcases h1 with ⟨p2, NA, nc, SA, sc, h2, h3, h4, h5, h6⟩ | ⟨k, h2, _⟩
  ·obtain rfl : p2 = p := by rw [h] at h2; injection h2 with h2; exact h2.symm
   exact ⟨h3, NA, nc, SA, sc, h4, h5, h6⟩
  ·rw [h] at h2; cases h2
theorem q6m (W w : World) (g : Nat) (A : Option Addr) (c : Nat) (b : List Nat) (HW : Mem W w [.blk g #[.slice A b.length c, vI 0, vN, vN] 130]) (hin : Rd W W.heap.size 1 A b.length (b.map B8)) (hbc : b.length ≤ c) (hl : ∀ z ∈ b, z < 256) (hb : b.length ≤ 16777216) (hb3 : 3 ≤ b.length) {k : Nat} (h : prs b = .error k) : Calls Tryz.prog 91 #[vP g 0] w (fun r w' => r = .returned (vI k) ∧ Mem W w' []) :=
 (qse W w g A c b HW hin hbc hl hb hb3).mono fun r w' h1 => by
  rcases h1 with ⟨p2, NA, nc, SA, sc, h2, _⟩ | ⟨k2, h2, h3, h4⟩
  ·rw [h] at h2; cases h2
  ·obtain rfl : k2 = k := by rw [h] at h2; injection h2 with h2; exact h2.symm
   exact ⟨h3, h4⟩
def OpnIs (w : World) (l : List Nat) (r : Ending) (w' : World) : Prop := (∃ p, opnR l = .ok p ∧ ∃ g iv av NA nc SA sc, r = .returned (.tuple #[vP g 0, vI 0]) ∧ p.nums.length ≤ nc ∧ p.secs.length ≤ sc ∧ Mem w w' [.blk g #[iv, av, .slice NA p.nums.length nc, .slice SA p.secs.length sc] 130, .row (.slice NA p.nums.length nc) p.nums.length (p.nums.map U64) 30 1, .row (.slice SA p.secs.length sc) p.secs.length (p.secs.flatMap secL) 69 3]) ∨ (∃ k : Nat, opnR l = .error k ∧ Is w (.tuple #[.pointer none, vI k]) r w')
theorem qdj {w w' : World} {l : List Nat} {r : Ending} {k : Nat} (n : Int) (h : opnR l = .error k) (hk : n = k) (hr : r = .returned (.tuple #[.pointer none, vI n])) (hb : Below w.heap.size w w') : OpnIs w l r w' := .inr ⟨k, h, by rw [hr, hk], hb⟩
theorem qsf (A : Option Addr) (c : Nat) (l : List Nat) (B : Nat) (w : World) (hL : LaidX B w) (hB : B ≤ w.heap.size) (hr : Rd w w.heap.size 1 A l.length (l.map B8)) (hc : l.length ≤ c) (hn : l.length ≤ 100000000) (hl : ∀ z ∈ l, z < 256) :
    Calls Tryz.prog 57 #[.slice A l.length c] w (OpnIs w l) := by
 refine (JN1 Tryz.func57 47) ?_
 refine (JP∘Jp 2∘Jj∘JQ∘JB∘JP∘Jp 1∘Jl∘Jp 2∘Jd3∘Jj) (Ji (fun hd6 => ?_) fun hd6 => ?_)
 ·
  exact (JT∘JP∘Jp 2∘Jj∘JZ∘Jz2) fun I => qdj _ (qyp om) rfl rfl I.below
 refine (JF∘JP∘Jp 1∘Jl∘Jp 2∘Jd3∘Jj) (Ji (fun hd10 => ?_) fun hd10 => ?_)
 ·
  exact (JT∘JP∘Jp 2∘Jj∘JZ∘Jz2) fun I => qdj _ (q2c om om) rfl rfl I.below
 refine (JF∘JP∘Jp 1∘JI (h:=by exact fun I => qun A l.length c l B _ (hL.mem I hB) (I.le hB) (I.old hr) hc rfl om hl)) fun w16 hbw => (Jp 2∘Jd3∘Jj) (Ju (fun hb14 => ?_) fun hb14 => ?_)
 ·
  intro a Z I
  have hs16 : zy l = false := by simpa using hb14
  exact Jb Z I ((JT∘JP∘Jp 2∘Jj∘JZ∘Jz2) fun I => qdj _ (q54 om om hs16) rfl rfl I.below)
 intro a Z I
 have hs16 : zy l = true := by simpa using hb14
 refine Jb Z I ((JF∘JP∘Jp 1) ?_)
 repeat (first | clear Z | clear I)
 intro a Z I
 obtain ⟨gA, oA, rfl, _⟩ := hr.qt (Nat.lt_of_le_of_lt (Nat.zero_le _) (show 0 < l.length from by omega)) de
 refine Jb Z I ((Jy (v := vP gA oA) (h:=by exact Yl.indexAddr (ad := ⟨gA, oA, none⟩) (y := 0) (sz := 1) rfl rfl rfl om kr)∘Jy (h:=by exact Yl.o1 hr 0 0 (by first | omega | (simp; omega)) rfl rfl)∘Jp 2) (Jh (fun hd23 => ?_) fun hd23 => ?_))
 ·
  exact (Jp 6∘Jd6∘Jj∘JT∘JP∘Jp 2∘Jj∘JZ∘Jz2) fun I => qdj _ (qi1 om om hs16 om) rfl rfl I.below
 refine (Jp 1∘Jy (v := vP gA (oA + 1)) (h:=by exact Yl.indexAddr (ad := ⟨gA, oA, none⟩) (y := 1) (sz := 1) rfl rfl rfl om kr)∘Jy (h:=by exact Yl.o1 hr 1 0 (by first | omega | (simp; omega)) rfl rfl)∘Jp 3∘Jd6∘Jj) (Jh (fun hd18 => ?_) fun hd18 => ?_)
 ·
  exact (JT∘JP∘Jp 2∘Jj∘JZ∘Jz2) fun I => qdj _ (qi1 om om hs16 om) rfl rfl I.below
 refine (JF∘JP∘Jp 1∘Jy (v := vP gA (oA + 2)) (h:=by exact Yl.indexAddr (ad := ⟨gA, oA, none⟩) (y := 2) (sz := 1) rfl rfl rfl om kr)∘Jy (h:=by exact Yl.o1 hr 2 0 (by first | omega | (simp; omega)) rfl rfl)∘Jp 2∘Jd4∘Jj) (Jh (fun hd29 => ?_) fun hd29 => ?_)
 ·
  exact (JT∘JP∘Jp 2∘Jj∘JZ∘Jz2) fun I => qdj _ (qi2 om om hs16 om om) rfl rfl I.below
 refine (JF∘JS'∘JQ) fun a Z I => ?_
 obtain ⟨b, hbd⟩ : ∃ b, l.take (l.length - 4) = b := ⟨_, rfl⟩
 have hbl : b.length = l.length - 4 := by rw [← hbd, List.length_take]; omega
 have hrb : Rd w w.heap.size 1 (some ⟨gA, oA, none⟩) b.length (b.map B8) := by rw [hbl, ← hbd]; exact hr.toB8 om
 have hlb : ∀ z ∈ b, z < 256 := fun z hz => hl z (List.mem_of_mem_take (hbd ▸ hz))
 have hop := qpz om om hs16 om om
 rw [hbd] at hop
 skip
 ·
  refine Jb Z I ((JR∘Jp 2∘Jl∘JsK 4∘Jy (v := .slice (some ⟨gA, oA, none⟩) (l.length - 4) c) (h:=by exact Yl.qab ei_u8 (j := l.length - 4) rfl rfl rfl om)∘Jo (.slice (some ⟨gA, oA, none⟩) b.length c) (by rw [hbl])∘Jy (v := .agg #[.slice (some ⟨gA, oA, none⟩) b.length c, vI 0, vN, vN]) (h:=by exact Yl.build (vs := [(0, .slice (some ⟨gA, oA, none⟩) b.length c)]) rfl kr kr)∘JE) fun w40 g40 => (Jp 1∘Jd6∘Jj∘JQ∘JQ) fun a Z I => ?_)
  rcases hpr : prs b with k | p
  ·
   have hke := qyo hpr
   refine Jb Z I ((JR∘Jp 1∘JO (h:=by exact fun I => q6m w _ g40 (some ⟨gA, oA, none⟩) c b (I.pk [0]) hrb om hlb om om hpr)) fun w42 => (Jp 1∘Jd2∘Jr∘Jp 2∘Jd1∘Jj) (Ju (fun hb44 => ?_) fun hb44 => ?_))
   ·
    intro a Z I
    have hd44 := bne_iff_ne.1 hb44
    exact Jb Z I ((JT∘JP∘Jp 3∘Jj∘JZ∘Jz2) fun I => qdj _ (hop.trans hpr) rfl rfl I.below)
   intro a Z I
   have hd44 := bne_eq_false_iff_eq.1 hb44
   exfalso; omega
  ·
   refine Jb Z I ((JR∘Jp 1∘JL (h:=by exact fun I => q6l w _ g40 (some ⟨gA, oA, none⟩) c b (I.pk [0]) hrb om hlb om om hpr)) ?_)
   rintro I _ w42 ⟨rfl, NA, nc, SA, sc, hnc, hsc, HM2⟩
   refine ⟨_, rfl, _, HM2, ?_⟩
   exact (Jp 1∘Jd2∘Jr∘Jv 2 [(44, .bool false)]∘Jj∘JF∘JS'∘JP∘Jp 3∘Jj∘JZ∘Jz2) fun I => by exact .inl ⟨p, hop.trans hpr, _, _, _, NA, nc, SA, sc, rfl, hnc, hsc, I⟩
theorem qp6 (A : Option Addr) (c : Nat) (l : List Nat) (B : Nat) (w : World) (hL : LaidX B w) (hB : B ≤ w.heap.size) (hr : Rd w w.heap.size 1 A l.length (l.map B8)) (hc : l.length ≤ c) (hn : l.length ≤ 100000000) (hl : ∀ z ∈ l, z < 256) {p : Pr} (h : opnR l = .ok p) : Calls Tryz.prog 57 #[.slice A l.length c] w (fun r w' => ∃ g iv av NA nc SA sc, r = .returned (.tuple #[vP g 0, vI 0]) ∧ p.nums.length ≤ nc ∧ p.secs.length ≤ sc ∧ Mem w w' [.blk g #[iv, av, .slice NA p.nums.length nc, .slice SA p.secs.length sc] 130, .row (.slice NA p.nums.length nc) p.nums.length (p.nums.map U64) 30 1, .row (.slice SA p.secs.length sc) p.secs.length (p.secs.flatMap secL) 69 3]) :=
 (qsf A c l B w hL hB hr hc hn hl).mono fun r w' h1 => by
  rcases h1 with ⟨p2, h2, h3⟩ | ⟨k, h2, _⟩
  ·obtain rfl : p2 = p := by rw [h] at h2; injection h2 with h2; exact h2.symm
   exact h3
  ·rw [h] at h2; cases h2
theorem qp7 (A : Option Addr) (c : Nat) (l : List Nat) (B : Nat) (w : World) (hL : LaidX B w) (hB : B ≤ w.heap.size) (hr : Rd w w.heap.size 1 A l.length (l.map B8)) (hc : l.length ≤ c) (hn : l.length ≤ 100000000) (hl : ∀ z ∈ l, z < 256) {k : Nat} (h : opnR l = .error k) : Calls Tryz.prog 57 #[.slice A l.length c] w (Is w (.tuple #[.pointer none, vI k])) :=
 (qsf A c l B w hL hB hr hc hn hl).mono fun r w' h1 => by
  rcases h1 with ⟨p2, h2, _⟩ | ⟨k2, h2, h3⟩
  ·rw [h] at h2; cases h2
  ·obtain rfl : k2 = k := by rw [h] at h2; injection h2 with h2; exact h2.symm
   exact h3
theorem qg5 (A : Option Addr) (c : Nat) (l : List Nat) (B : Nat) (w : World) (hL : LaidX B w) (hB : B ≤ w.heap.size) (hr : Rd w w.heap.size 1 A l.length (l.map B8)) (hc : l.length ≤ c) (hn : l.length ≤ 100000000) (hl : ∀ z ∈ l, z < 256) :
    Calls Tryz.prog 28 #[.slice A l.length c] w (qlc w (errR l) (pnums l)) := by
 refine (JN1 Tryz.func28 18) ?_
 refine (JP∘Jp 2∘Jj∘JQ) fun a Z I => ?_
 rcases hop : opnR l with k | p
 ·
  have hke := qgq hop
  refine Jb Z I ((JR∘Jp 1∘JI (h:=by exact fun I => qp7 A c l B _ (hL.mem I hB) (I.le hB) (I.old hr) hc hn hl hop)) fun w8 hbw => (Jp 1∘Jx∘Jx∘Jp 2∘Jj∘JQ∘JP∘Jp 2∘Jd1∘Jj) (Ju (fun hb12 => ?_) fun hb12 => ?_))
  ·
   intro a Z I
   have hd12 := bne_iff_ne.1 hb12
   exact Jb Z I ((JT∘JP∘Jp 3∘Jj∘JZ∘Jz2) fun I => qjy _ (by rw [qdd hop]) (qrx hop) I.below)
  intro a Z I
  have hd12 := bne_eq_false_iff_eq.1 hb12
  exfalso; omega
 ·
  refine Jb Z I ((JR∘Jp 1∘JL (h:=by exact fun I => qp6 A c l B _ (hL.mem I hB) (I.le hB) (I.old hr) hc hn hl hop)) ?_)
  rintro I _ w8 ⟨g8, iv, av, NA, nc, SA, sc, rfl, hnc, hsc, hm⟩
  refine ⟨_, rfl, _, I.join hm, ?_⟩
  exact (Jp 1∘Jx∘Jx∘Jp 2∘Jj∘JQ∘JP∘Jv 2 [(12, .bool false)]∘Jj∘JF∘JS'∘JP∘Jp 1∘Jn∘Jg 2 O0∘Jp 2∘Jj∘JZ∘Jz2) fun I => qjx (er' := 0) (qey hop).symm (q2d hop).symm (I.own (i := 1) rfl) hnc I.below
theorem qdk (A : Option Addr) (c : Nat) (l : List Nat) (B : Nat) (w : World) (hL : LaidX B w) (hB : B ≤ w.heap.size) (hr : Rd w w.heap.size 1 A l.length (l.map B8)) (hc : l.length ≤ c) (hn : l.length ≤ 100000000) (hl : ∀ z ∈ l, z < 256) :
    Calls Tryz.prog 29 #[.slice A l.length c] w (qif 69 w (errR l) (psecs l)) := by
 refine (JN1 Tryz.func29 18) ?_
 refine (JP∘Jp 2∘Jj∘JQ) fun a Z I => ?_
 rcases hop : opnR l with k | p
 ·
  have hke := qgq hop
  refine Jb Z I ((JR∘Jp 1∘JI (h:=by exact fun I => qp7 A c l B _ (hL.mem I hB) (I.le hB) (I.old hr) hc hn hl hop)) fun w8 hbw => (Jp 1∘Jx∘Jx∘Jp 2∘Jj∘JQ∘JP∘Jp 2∘Jd1∘Jj) (Ju (fun hb12 => ?_) fun hb12 => ?_))
  ·
   intro a Z I
   have hd12 := bne_iff_ne.1 hb12
   exact Jb Z I ((JT∘JP∘Jp 3∘Jj∘JZ∘Jz2) fun I => qtf _ (by rw [qdd hop]) (ql2 hop) I.below)
  intro a Z I
  have hd12 := bne_eq_false_iff_eq.1 hb12
  exfalso; omega
 ·
  refine Jb Z I ((JR∘Jp 1∘JL (h:=by exact fun I => qp6 A c l B _ (hL.mem I hB) (I.le hB) (I.old hr) hc hn hl hop)) ?_)
  rintro I _ w8 ⟨g8, iv, av, NA, nc, SA, sc, rfl, hnc, hsc, hm⟩
  refine ⟨_, rfl, _, I.join hm, ?_⟩
  exact (Jp 1∘Jx∘Jx∘Jp 2∘Jj∘JQ∘JP∘Jv 2 [(12, .bool false)]∘Jj∘JF∘JS'∘JP∘Jp 1∘Jn∘Jg 3 O0∘Jp 2∘Jj∘JZ∘Jz2) fun I => qte (er' := 0) (qey hop).symm (qry hop).symm (I.own (i := 2) rfl) hsc I.below
def qoh (W : World) (g k : Nat) (NA : Option Addr) (nc : Nat) (q : List Nat) (o : Bool) (fs : List Fact) (v : Value) (r : Ending) (w' : World) : Prop := r = .returned v ∧ Mem W w' (.blk g #[.slice (srcA NA nc k) (q.length - k) (nc - k), .bool o] 132 :: .row (.slice NA q.length nc) q.length (q.map U64) 30 1 :: fs)
theorem qoi {W w' : World} {g k : Nat} {NA : Option Addr} {nc : Nat} {q : List Nat} {o b : Bool} {fs : List Fact} {v : Value} {r : Ending} (hr : r = .returned v) (ho : b = o) (I : Mem W w' (.blk g #[.slice (srcA NA nc k) (q.length - k) (nc - k), .bool b] 132 :: .row (.slice NA q.length nc) q.length (q.map U64) 30 1 :: fs)) : qoh W g k NA nc q o fs v r w' := by subst ho; exact ⟨hr, I⟩
theorem q2r (x m : Nat) : decide ((x : Int) ≤ (m : Int)) = dle x m := decide_eq_decide.2 Int.ofNat_le
theorem qsa (m : Nat) (W w : World) (g k : Nat) (NA : Option Addr) (nc : Nat) (q : List Nat) (o : Bool) (fs : List Fact) (HW : Mem W w (.blk g #[.slice (srcA NA nc k) (q.length - k) (nc - k), .bool o] 132 :: .row (.slice NA q.length nc) q.length (q.map U64) 30 1 :: fs)) (hqc : q.length ≤ nc) (hk : k < q.length) :
    Calls Tryz.prog 93 #[vP g 0, vQ m] w (qoh W g (k + 1) NA nc q (o && dle (q.getD k 0) m) fs (vQ (q.getD k 0 : Int))) := by
 refine (JN2 Tryz.func93 33) ?_
 intro a Z I
 replace I := HW
 obtain ⟨gS, oS, hA, _⟩ := Rd.qt (qyz (I.rd (i := 1) rfl) hqc k om) om de
 refine Jb Z I ((JP∘Jp 1∘Jr∘Jp 1∘Jn∘Jf 0∘Jc O0∘Jo (.slice (some ⟨gS, oS, none⟩) (q.length - k) (nc - k)) (by rw [hA]; try rfl)∘Jy (v := vP gS oS) (h:=by exact Yl.indexAddr (ad := ⟨gS, oS, none⟩) (y := 0) (sz := 1) rfl rfl rfl om kr)∘Jy (v := vQ (q.getD k 0)) (h:=by exact Yl.qr rfl rfl kr (fun _ h => q8l (h.rd (i := 1) rfl) hqc hk hA))∘Jp 1∘Jd6∘Jr∘Jp 2∘Jn∘Jg 0 O0∘Jy (v := .slice (if nc - k = 1 then srcA NA nc k else (srcA NA nc k : Option Addr).map (·.add (1 * 1))) ((q.length - k) - 1) ((nc - k) - 1)) (h:=by exact Yl.sliceFrom qap (j := 1) rfl rfl rfl om)∘Jo (.slice (srcA NA nc (k + 1)) (q.length - (k + 1)) (nc - (k + 1))) (by exact rfl)∘Jn∘Jf 0∘JW O0' O0') fun w2_8 => (Jt6∘Jr∘Jp 2∘Jn∘Jg 1 O0∘Jp 1) (Ju (fun hb25 => ?_) fun hb25 => ?_))
 ·
  exact (Jp 4∘Jn∘Jf 1∘JW O0' O1') fun w3_12 => (Jt6∘Jr∘Jp 2∘Jd6∘Jj∘JZ∘Jz1) fun I => qoi rfl (by rw [hb25, Bool.true_and]; exact q2r _ _) I
 exact (Jp 4∘Jn∘Jf 1∘JW O0' O1') fun w3_12 => (Jt6∘Jr∘Jp 2∘Jd6∘Jj∘JZ∘Jz1) fun I => qoi rfl (by rw [hb25]; rfl) I
theorem qdi (m : Nat) (W w : World) (g k : Nat) (NA : Option Addr) (nc : Nat) (q : List Nat) (o : Bool) (fs : List Fact) (HW : Mem W w (.blk g #[.slice (srcA NA nc k) (q.length - k) (nc - k), .bool o] 132 :: .row (.slice NA q.length nc) q.length (q.map U64) 30 1 :: fs)) (hqc : q.length ≤ nc) (hk : k < q.length) {x k2 : Nat} {o2 : Bool} (hx : q.getD k 0 = x) (h2 : k + 1 = k2) (ho : (o && dle x m) = o2) : Calls Tryz.prog 93 #[vP g 0, vQ m] w (qoh W g k2 NA nc q o2 fs (vQ x)) := by
 subst hx; subst h2; subst ho
 exact qsa m W w g k NA nc q o fs HW hqc hk
theorem qy6 (W w : World) (g k : Nat) (NA : Option Addr) (nc : Nat) (q : List Nat) (o : Bool) (fs : List Fact) (HW : Mem W w (.blk g #[.slice (srcA NA nc k) (q.length - k) (nc - k), .bool o] 132 :: .row (.slice NA q.length nc) q.length (q.map U64) 30 1 :: fs)) (hqc : q.length ≤ nc) (hk : k < q.length) :
    Calls Tryz.prog 92 #[vP g 0] w (qoh W g (k + 1) NA nc q (o && dle (q.getD k 0) mostI) fs (vI (toI (q.getD k 0)))) := by
 refine (JN1 Tryz.func92 6) ?_
 intro a Z I
 replace I := HW
 exact Jb Z I ((JP∘Jp 1∘Jr∘Jp 1∘JO (h:=by exact fun I => qsa mostI W _ g k NA nc q o fs I hqc hk)) fun w4 => (Jv 1 [(5, vI (IntKind.i64.wrap (q.getD k 0 : Int)))]∘Jo (vI (toI (q.getD k 0))) (by exact rfl)∘Jp 1∘Jd3∘Jj∘JZ∘Jz1) fun I => by exact ⟨rfl, I⟩)
theorem qan (W w : World) (g k : Nat) (NA : Option Addr) (nc : Nat) (q : List Nat) (o : Bool) (fs : List Fact) (HW : Mem W w (.blk g #[.slice (srcA NA nc k) (q.length - k) (nc - k), .bool o] 132 :: .row (.slice NA q.length nc) q.length (q.map U64) 30 1 :: fs)) (hqc : q.length ≤ nc) (hk : k < q.length) {x k2 : Nat} {o2 : Bool} {v : Int} (hx : q.getD k 0 = x) (h2 : k + 1 = k2) (ho : (o && dle x mostI) = o2) (hv : toI x = v) : Calls Tryz.prog 92 #[vP g 0] w (qoh W g k2 NA nc q o2 fs (vI v)) := by
 subst hx; subst h2; subst ho; subst hv
 exact qy6 W w g k NA nc q o fs HW hqc hk
theorem Mem.q9h {W w : World} {f r1 r2 r3 r4 r5 : Fact} {fs rs : List Fact} (h : Mem W w (f :: r1 :: r2 :: r3 :: r4 :: r5 :: (fs ++ rs))) : Mem W w (f :: (fs ++ ([r1, r2, r3, r4, r5] ++ rs))) := h.perm ((List.perm_append_comm_assoc [r1, r2, r3, r4, r5] fs rs).cons f)
theorem q6k (x : Nat) : ((x : Int) == (1 : Int)) = decide (x = 1) := by
 rw [Bool.eq_iff_iff, beq_iff_eq, decide_eq_true_eq]
 omega
theorem q2s {p : Pr} {j : Nat} (h : 0 < j) : p.okG (j + 1) = ((p.okG j && dle (p.gs.getD (2 * (j - 1)) 0) mostI) && dle (p.gs.getD (2 * (j - 1) + 1) 0) mostI) := if_neg om
theorem qy7 {p : Pr} {j : Nat} (h : j = 0) : p.okG (j + 1) = p.okG j := by subst h; rfl
theorem so_s0 {p : Pr} {y x : Nat} (h : y = 0) : p.so y (x + 1) = p.so y x + 1 := by subst h; rw [ql5, ql5]
theorem so_s3 {p : Pr} {y x : Nat} (h : 0 < y) : p.so y (x + 1) = p.so y x + 3 := by rw [qoe h, qoe h]; omega
theorem okR_z {p : Pr} {b : Bool} {y x : Nat} (h : y = 0) : p.okR b y (x + 1) = (p.okR b y x && dle (p.sn y x 0) 18446744073709551615) := if_pos h
theorem okR_p {p : Pr} {b : Bool} {y x : Nat} (h : 0 < y) : p.okR b y (x + 1) = (((p.okR b y x && dle (p.sn y x 0) 18446744073709551615) && dle (p.sn y x 1) 4294967295) && dle (p.sn y x 2) 18446744073709551615) := if_neg om
def q2t (W : World) (g : Nat) (p : Pr) (fs : List Fact) (r : Ending) (w' : World) : Prop := ∃ (z : Snm) (A : Option Addr) (n c : Nat), r = .returned (.agg z.cells) ∧ SnEq p.snA z ∧ StCap z.st ∧ Mem W w' (.blk g #[.slice A n c, .bool p.okB] 132 :: (fs ++ stF z.st))
theorem qut (W w : World) (g : Nat) (NA : Option Addr) (nc : Nat) (p : Pr) (h : p.Fit) (fs : List Fact) (HW : Mem W w (.blk g #[.slice NA p.nums.length nc, .bool true] 132 :: .row (.slice NA p.nums.length nc) p.nums.length (p.nums.map U64) 30 1 :: fs)) (hnc : p.nums.length ≤ nc) :
    Calls Tryz.prog 58 #[vP g 0] w (q2t W g p fs) := by
 obtain ⟨hnl, hsl⟩ := q2l h
 have n0 := q2k p
 have eC : p.oC = 4 + 2 * (p.gp - 1) := rfl
 have eT : p.oT = p.oC + 2 * p.cp := rfl
 have eS : p.oS = p.oT + 1 + 8 * p.tk := rfl
 have c1 := h.cp1; have c2 := h.cp2; have c3 := h.gp1; have c4 := h.gp2; have c5 := h.tk
 refine (JN1 Tryz.func58 191) ?_
 intro a Z I
 replace I := HW
 refine Jb Z I ((JP∘JA #[vI 0, vI 0, vQ 0, vN, vN, vN, vN, vN]) fun w2 g2 => (Jr∘Jp 1∘JO (h:=by exact fun I => qan W _ g 0 NA nc p.nums true _ (I.pt 3 [1, 2, 0]) hnc om (x := p.nx) (k2 := 1) (o2 := true && dle p.nx mostI) (n0.1) (rfl) (rfl) (rfl))) fun w13 => (Jy (v := .agg #[vI (toI p.nx), vI 0, vQ 0, vN, vN, vN, vN, vN]) (h:=by exact Yl.build (vs := [(0, vI (toI p.nx))]) rfl kr kr)∘JA #[vI 0, vI 0, vQ 0, vN, vN, vN, vN, vN]) fun w3 g3 => (JV q8 O0') fun w1_4 => (Jd3∘Jr∘Jf 1∘Jp 1∘Jd1∘Jr∘Jp 3∘JO (h:=by exact fun I => qan W _ g 1 NA nc p.nums (true && dle p.nx mostI) _ (I.pt 4 [1, 2, 0, 3]) hnc om (x := p.cp) (k2 := 2) (o2 := (true && dle p.nx mostI) && dle p.cp mostI) (n0.2.1) (rfl) (rfl) (qp5 om))) fun w19 => (Jp 1∘JO (h:=by exact fun I => qdi 18446744073709551615 W _ g 2 NA nc p.nums ((true && dle p.nx mostI) && dle p.cp mostI) _ (I.pt 4 [0, 1, 2, 3]) hnc om (x := p.cr) (k2 := 3) (o2 := ((true && dle p.nx mostI) && dle p.cp mostI) && dle p.cr 18446744073709551615) (n0.2.2.1) (rfl) (rfl))) fun w21 => (Jn∘Jf 0∘Jf 0∘JW O2' O1') fun w3_9 => (Jn∘Jf 0∘Jf 1∘JW O2' O2') fun w3_13 => (Jt6∘Jj∘JQ∘JP∘Jp 1∘JO (h:=by exact fun I => qan W _ g 3 NA nc p.nums (((true && dle p.nx mostI) && dle p.cp mostI) && dle p.cr 18446744073709551615) _ (I.pt 4 [0, 1, 2, 3]) hnc om (x := p.gp) (k2 := 4 + 2 * (0 - 1)) (o2 := p.okG 0) (n0.2.2.2) (rfl) (rfl) (qp5 om))) fun w29 => (Jp 1∘Jq) fun a Z I => ?_)
 replace I := I.nil 110 2
 refine Jb Z I ((JG∘JB) fun a Z I => ?_)
 refine qe (fun mS aS wS => ∃ (j : Nat) (G : List Gr) (Ag : Option Addr) (cg : Nat), (j ≤ p.gp) ∧ (G = mapR j p.grp) ∧ (G.length = j) ∧ (G.length ≤ cg) ∧ mS = p.gp - j ∧ Fr aS 191 [] [(30, vI j), (29, vI p.gp), (4, vP g3 1), (3, vP g3 0), (2, vP g2 0), (0, vP g 0)] ∧ Mem W wS (.row (.slice Ag G.length cg) G.length (G.flatMap grL) 110 2 :: .blk g #[.slice (srcA NA nc (4 + 2 * (j - 1))) (p.nums.length - (4 + 2 * (j - 1))) (nc - (4 + 2 * (j - 1))), .bool (p.okG j)] 132 :: .row (.slice NA p.nums.length nc) p.nums.length (p.nums.map U64) 30 1 :: .blk g3 #[vI (toI p.nx), vI p.cp, vQ p.cr, .slice Ag G.length cg, vN, vN, vN, vN] 40 :: .blk g2 #[vI 0, vI 0, vQ 0, vN, vN, vN, vN, vN] 40 :: fs)) (m := p.gp - 0) ⟨0, [], none, 0, Nat.zero_le _, rfl, rfl, Nat.le_refl _, rfl, Z.sub kr, I.pt 5 [0, 1, 2, 3, 4]⟩ ?_
 clear Z I; rintro mS a w_ ⟨j, G, Ag, cg, hj, hG, hGl, hGc, rfl, Z, I⟩
 refine Jb Z I ((JP∘Jp 1∘Jj∘JQ) (Ji (fun hd31 => ?_) fun hd31 => ?_))
 ·
  refine (JT∘JS'∘JQ∘JB∘JP∘Jp 2∘Jd1∘Jr∘Jy (v := .agg #[vI 0, vI 1]) (h:=by exact Yl.build (vs := [(1, vI 1)]) rfl kr kr)∘JA #[vI 0, vI 0]) fun w6 g6 => (JV si_gr O0') fun w7_2 => (Jd1∘Jj∘JQ∘JP∘Jp 2∘Jd1∘Jj) (Ju (fun hb35 => ?_) fun hb35 => ?_)
  ·
   intro a Z I
   have hd35 := of_decide_eq_true hb35
   have hgr : p.grp j = ⟨toI (p.gs.getD (2 * (j - 1)) 0), toI (p.gs.getD (2 * (j - 1) + 1) 0)⟩ := if_neg om
   refine Jb Z I ((JT∘JR∘Jp 1∘JO (h:=by exact fun I => qan W _ g (4 + 2 * (j - 1)) NA nc p.nums (p.okG j) _ (I.pt 6 [2, 3, 0, 1, 4, 5]) hnc om (x := p.gs.getD (2 * (j - 1)) 0) (k2 := 4 + (2 * (j - 1) + 1)) (o2 := p.okG j && dle (p.gs.getD (2 * (j - 1)) 0) mostI) (qyy h (j := 2 * (j - 1)) om) (rfl) (rfl) (rfl))) fun w37 => (Jp 1∘JO (h:=by exact fun I => qan W _ g (4 + (2 * (j - 1) + 1)) NA nc p.nums (p.okG j && dle (p.gs.getD (2 * (j - 1)) 0) mostI) _ (I.pt 6 [0, 1, 2, 3, 4, 5]) hnc om (x := p.gs.getD (2 * (j - 1) + 1) 0) (k2 := 4 + 2 * (j + 1 - 1)) (o2 := (p.okG j && dle (p.gs.getD (2 * (j - 1)) 0) mostI) && dle (p.gs.getD (2 * (j - 1) + 1) 0) mostI) (qyy h (j := 2 * (j - 1) + 1) om) om (rfl) (rfl))) fun w39 => (Jf 0∘JW O2' O0') fun w9_5 => (Jf 1∘JW O2' O1') fun w9_7 => (Jt6∘Jq) fun a Z I => ?_)
   replace I : Mem W _ (.blk g #[.slice (srcA NA nc (4 + 2 * (j + 1 - 1))) (p.nums.length - (4 + 2 * (j + 1 - 1))) (nc - (4 + 2 * (j + 1 - 1))), .bool ((p.okG j && dle (p.gs.getD (2 * (j - 1)) 0) mostI) && dle (p.gs.getD (2 * (j - 1) + 1) 0) mostI)] 132 :: .row (.slice NA p.nums.length nc) p.nums.length (p.nums.map U64) 30 1 :: .blk g6 #[vI (toI (p.gs.getD (2 * (j - 1)) 0)), vI (toI (p.gs.getD (2 * (j - 1) + 1) 0))] 110 :: .row (.slice Ag G.length cg) G.length (G.flatMap grL) 110 2 :: .blk g3 #[vI (toI p.nx), vI p.cp, vQ p.cr, .slice Ag G.length cg, vN, vN, vN, vN] 40 :: .blk g2 #[vI 0, vI 0, vQ 0, vN, vN, vN, vN, vN] 40 :: fs) := I
   refine Jb Z I ((JG∘Vs (.t (.t (.t (.f .n)))) [12]) fun wd10 => (Vp [0, 1]∘Vn 2∘Vf 3 0∘Vf 4 2∘Vc 5 O3∘Vy 6 (v := .agg #[vI (toI (p.gs.getD (2 * (j - 1)) 0)), vI (toI (p.gs.getD (2 * (j - 1) + 1) 0))]) (h:=by exact Yl.loadS rfl rfl si_gr rfl (fun _ h => qb (h.blk (i := 2) rfl)))) fun a Z I HS => ?_)
   refine s_on Z 7 rfl (s_el Z I ei_gr [(0, .agg #[vI (toI (p.gs.getD (2 * (j - 1)) 0)), vI (toI (p.gs.getD (2 * (j - 1) + 1) 0))])] #[vI (toI (p.gs.getD (2 * (j - 1)) 0)), vI (toI (p.gs.getD (2 * (j - 1) + 1) 0))] ?_)
   clear Z I; intro a w49 g49 Z I
   refine keepS (I.pt 7 [1, 2, 3, 5, 6]) (fun HS => ?_)
   refine s_on Z 8 rfl (qaz Z I (i := 4) rfl ei_gr rfl rfl rfl (news := ([(⟨toI (p.gs.getD (2 * (j - 1)) 0), toI (p.gs.getD (2 * (j - 1) + 1) 0)⟩ : Gr)].flatMap grL)) (I.rdBlk (i := 0) (n := 1) (size := 2) rfl rfl) (qm7 _) om om rfl de ?_)
   clear Z I; intro a w50 A50 c50 Z I hc50
   refine keepS (I.pt 7 [1, 2, 3, 5, 6]) (fun HS => ?_)
   refine Vb Z I HS ((Vn 9∘Vf 10 0∘Vf 11 2) fun a Z I HS => ?_)
   refine s_on Z 12 rfl (s_es Z I 5 ?_)
   clear I; intro w10_12 I
   refine noS kr ?_
   refine qc kr ?_
   have hnA50 : G.length + 1 = (G ++ [p.grp j]).length := zh rfl
   replace I := I.reRow (i := 4) (ys := (G ++ [p.grp j]).flatMap grL) rfl hnA50 (by rw [hgr]; exact List.flatMap_append.symm)
   rw [hnA50] at hc50
   replace Z := Z.sp 50 (.slice A50 ((G ++ [p.grp j]).length) c50) rfl (by rw [hnA50])
   replace I := I.reBlk (i := 5) (ds := #[vI (toI p.nx), vI p.cp, vQ p.cr, .slice A50 ((G ++ [p.grp j]).length) c50, vN, vN, vN, vN]) rfl (by rw [hnA50]; try rfl)
   refine Jb Z I ((JG∘JR∘JaK 1∘Jp 1∘Jd1∘Jq) fun a Z I => ?_)
   replace I := I.reBlk (i := 1) (ds := #[.slice (srcA NA nc (4 + 2 * (j + 1 - 1))) (p.nums.length - (4 + 2 * (j + 1 - 1))) (nc - (4 + 2 * (j + 1 - 1))), .bool (p.okG (j + 1))]) rfl (by rw [q2s om])
   exact ⟨_, om, j + 1, (G ++ [p.grp j]), A50, c50, by omega, by rw [hG, qa6], by rw [List.length_append, hGl]; rfl, hc50, rfl, Z.sub kr, I.pt 7 [4, 1, 2, 5, 6]⟩
  intro a Z I
  have hd35 := of_decide_eq_false hb35
  have hgr : p.grp j = ⟨0, 1⟩ := if_pos om
  refine Jb Z I ((JF∘JS'∘Vs (.t (.f .n)) [12]) fun wd10 => (Vp [0, 1]∘Vn 2∘Vf 3 0∘Vf 4 2∘Vc 5 O3∘Vy 6 (v := .agg #[vI 0, vI 1]) (h:=by exact Yl.loadS rfl rfl si_gr rfl (fun _ h => qb (h.blk (i := 0) rfl)))) fun a Z I HS => ?_)
  refine s_on Z 7 rfl (s_el Z I ei_gr [(0, .agg #[vI 0, vI 1])] #[vI 0, vI 1] ?_)
  clear Z I; intro a w49 g49 Z I
  refine keepS (I.pt 7 [1, 3, 4, 5, 6]) (fun HS => ?_)
  refine s_on Z 8 rfl (qaz Z I (i := 2) rfl ei_gr rfl rfl rfl (news := ([(⟨0, 1⟩ : Gr)].flatMap grL)) (I.rdBlk (i := 0) (n := 1) (size := 2) rfl rfl) (qm7 _) om om rfl de ?_)
  clear Z I; intro a w50 A50 c50 Z I hc50
  refine keepS (I.pt 7 [1, 3, 4, 5, 6]) (fun HS => ?_)
  refine Vb Z I HS ((Vn 9∘Vf 10 0∘Vf 11 2) fun a Z I HS => ?_)
  refine s_on Z 12 rfl (s_es Z I 5 ?_)
  clear I; intro w10_12 I
  refine noS kr ?_
  refine qc kr ?_
  have hnA50 : G.length + 1 = (G ++ [p.grp j]).length := zh rfl
  replace I := I.reRow (i := 2) (ys := (G ++ [p.grp j]).flatMap grL) rfl hnA50 (by rw [hgr]; exact List.flatMap_append.symm)
  rw [hnA50] at hc50
  replace Z := Z.sp 50 (.slice A50 ((G ++ [p.grp j]).length) c50) rfl (by rw [hnA50])
  replace I := I.reBlk (i := 5) (ds := #[vI (toI p.nx), vI p.cp, vQ p.cr, .slice A50 ((G ++ [p.grp j]).length) c50, vN, vN, vN, vN]) rfl (by rw [hnA50]; try rfl)
  refine Jb Z I ((JG∘JR∘JaK 1∘Jp 1∘Jd1∘Jq) fun a Z I => ?_)
  replace I := I.reBlk (i := 3) (ds := #[.slice (srcA NA nc (4 + 2 * (j + 1 - 1))) (p.nums.length - (4 + 2 * (j + 1 - 1))) (nc - (4 + 2 * (j + 1 - 1))), .bool (p.okG (j + 1))]) rfl (by rw [qy7 om, show 4 + 2 * (j + 1 - 1) = 4 + 2 * (j - 1) by omega])
  exact ⟨_, om, j + 1, (G ++ [p.grp j]), A50, c50, by omega, by rw [hG, qa6], by rw [List.length_append, hGl]; rfl, hc50, rfl, Z.sub kr, I.pt 7 [2, 3, 4, 5, 6]⟩
 refine (JF∘JX∘JG∘JQ∘JP∘Jp 1∘Jn∘Jf 0∘Jg 0 O3∘Jp 1∘Jq) fun a Z I => ?_
 replace I := I.nil 3 1
 replace I := I.reBlk (i := 2) (ds := #[.slice (srcA NA nc (p.oC + 0)) (p.nums.length - (p.oC + 0)) (nc - (p.oC + 0)), .bool (p.okC 0)]) rfl (by rw [show j = p.gp by omega]; rfl)
 refine Jb Z I ((JG∘JB) fun a Z I => ?_)
 refine qe (fun mS aS wS => ∃ (k : Nat) (C : List Int) (Al : Option Addr) (cl : Nat), (k ≤ p.cp) ∧ (C = mapR k fun i => toI (p.cl.getD i 0)) ∧ (C.length = k) ∧ (C.length ≤ cl) ∧ mS = p.cp - k ∧ Fr aS 191 [] [(60, vI k), (59, vI p.cp), (31, .bool false), (30, vI j), (29, vI p.gp), (4, vP g3 1), (3, vP g3 0), (2, vP g2 0), (0, vP g 0)] ∧ Mem W wS (.row (.slice Al C.length cl) C.length (C.map I64i) 3 1 :: .row (.slice Ag G.length cg) G.length (G.flatMap grL) 110 2 :: .blk g #[.slice (srcA NA nc (p.oC + k)) (p.nums.length - (p.oC + k)) (nc - (p.oC + k)), .bool (p.okC k)] 132 :: .row (.slice NA p.nums.length nc) p.nums.length (p.nums.map U64) 30 1 :: .blk g3 #[vI (toI p.nx), vI p.cp, vQ p.cr, .slice Ag G.length cg, .slice Al C.length cl, vN, vN, vN] 40 :: .blk g2 #[vI 0, vI 0, vQ 0, vN, vN, vN, vN, vN] 40 :: fs)) (m := p.cp - 0) ⟨0, [], none, 0, Nat.zero_le _, rfl, rfl, Nat.le_refl _, rfl, Z.sub kr, I.pt 6 [0, 1, 2, 3, 4, 5]⟩ ?_
 clear Z I; rintro mS a w_ ⟨k, C, Al, cl, hk, hC, hCl, hCc, rfl, Z, I⟩
 refine Jb Z I ((JP∘Jp 1∘Jj∘JQ) (Ji (fun hd61 => ?_) fun hd61 => ?_))
 ·
  refine (JT∘JS'∘JQ∘JB∘Vs (.f (.t (.f .n))) [11]) fun wd14 => (Vp [0, 1, 5]∘Vn 2∘Vf 3 3∘Vc 4 O2) fun a Z I HS => ?_
  refine s_on Z 6 rfl ?_
  refine s_em Z [vP g 0] (qan W _ g (p.oC + k) NA nc p.nums (p.okC k) _ (I.pt 6 [2, 3, 0, 1, 4, 5]) hnc om (x := p.cl.getD k 0) (k2 := p.oC + (k + 1)) (o2 := p.okC (k + 1)) (q6a h om) (rfl) (rfl) (rfl)) fun w68 I a Z => ?_
  refine keepS (I.pt 6 [3, 1, 4, 5]) (fun HS => ?_)
  refine s_on Z 7 rfl (s_el Z I zn [(0, vI (toI (p.cl.getD k 0)))] #[vI (toI (p.cl.getD k 0))] ?_)
  clear Z I; intro a w69 g69 Z I
  refine keepS (I.pt 7 [4, 2, 5, 6]) (fun HS => ?_)
  refine s_on Z 8 rfl (qaz Z I (i := 3) rfl zn rfl rfl rfl (news := ([toI (p.cl.getD k 0)].map I64i)) (I.rdBlk (i := 0) (n := 1) (size := 1) rfl rfl) (qpa _) om om rfl de ?_)
  clear Z I; intro a w70 A70 c70 Z I hc70
  refine keepS (I.pt 7 [4, 2, 5, 6]) (fun HS => ?_)
  refine Vb Z I HS ((Vn 9∘Vf 10 3) fun a Z I HS => ?_)
  refine s_on Z 11 rfl (s_es Z I 5 ?_)
  clear I; intro w14_11 I
  refine noS kr ?_
  refine qc kr ?_
  have hnA70 : C.length + 1 = (C ++ [toI (p.cl.getD k 0)]).length := zh rfl
  replace I := I.reRow (i := 3) (ys := (C ++ [toI (p.cl.getD k 0)]).map I64i) rfl hnA70 (by exact List.map_append.symm)
  rw [hnA70] at hc70
  replace Z := Z.sp 70 (.slice A70 ((C ++ [toI (p.cl.getD k 0)]).length) c70) rfl (by rw [hnA70])
  replace I := I.reBlk (i := 5) (ds := #[vI (toI p.nx), vI p.cp, vQ p.cr, .slice Ag G.length cg, .slice A70 ((C ++ [toI (p.cl.getD k 0)]).length) c70, vN, vN, vN]) rfl (by rw [hnA70]; try rfl)
  refine Jb Z I ((JG∘JR∘JaK 1∘Jp 1∘Jd1∘Jq) fun a Z I => ?_)
  exact ⟨_, om, k + 1, (C ++ [toI (p.cl.getD k 0)]), A70, c70, by omega, by rw [hC, qa6], by rw [List.length_append, hCl]; rfl, hc70, rfl, Z.sub kr, I.pt 7 [3, 4, 1, 2, 5, 6]⟩
 refine (JF∘JX∘JG∘JQ∘JP∘Jp 1∘Jn∘Jf 0∘Jg 0 O4∘Jp 1∘Jq) fun a Z I => ?_
 replace I := I.nil 3 1
 replace I := I.reBlk (i := 3) (ds := #[.slice (srcA NA nc (p.oC + p.cp + 0)) (p.nums.length - (p.oC + p.cp + 0)) (nc - (p.oC + p.cp + 0)), .bool (p.okU 0)]) rfl (by rw [show k = p.cp by omega]; rfl)
 refine Jb Z I ((JG∘JB) fun a Z I => ?_)
 refine qe (fun mS aS wS => ∃ (u : Nat) (U : List Int) (Au : Option Addr) (cu : Nat), (u ≤ p.cp) ∧ (U = mapR u fun i => toI (p.cu.getD i 0)) ∧ (U.length = u) ∧ (U.length ≤ cu) ∧ mS = p.cp - u ∧ Fr aS 191 [] [(79, vI u), (78, vI p.cp), (61, .bool false), (60, vI k), (59, vI p.cp), (31, .bool false), (30, vI j), (29, vI p.gp), (4, vP g3 1), (3, vP g3 0), (2, vP g2 0), (0, vP g 0)] ∧ Mem W wS (.row (.slice Au U.length cu) U.length (U.map I64i) 3 1 :: .row (.slice Al C.length cl) C.length (C.map I64i) 3 1 :: .row (.slice Ag G.length cg) G.length (G.flatMap grL) 110 2 :: .blk g #[.slice (srcA NA nc (p.oC + p.cp + u)) (p.nums.length - (p.oC + p.cp + u)) (nc - (p.oC + p.cp + u)), .bool (p.okU u)] 132 :: .row (.slice NA p.nums.length nc) p.nums.length (p.nums.map U64) 30 1 :: .blk g3 #[vI (toI p.nx), vI p.cp, vQ p.cr, .slice Ag G.length cg, .slice Al C.length cl, .slice Au U.length cu, vN, vN] 40 :: .blk g2 #[vI 0, vI 0, vQ 0, vN, vN, vN, vN, vN] 40 :: fs)) (m := p.cp - 0) ⟨0, [], none, 0, Nat.zero_le _, rfl, rfl, Nat.le_refl _, rfl, Z.sub kr, I.pt 7 [0, 1, 2, 3, 4, 5, 6]⟩ ?_
 clear Z I; rintro mS a w_ ⟨u, U, Au, cu, hu, hU, hUl, hUc, rfl, Z, I⟩
 refine Jb Z I ((JP∘Jp 1∘Jj∘JQ) (Ji (fun hd80 => ?_) fun hd80 => ?_))
 ·
  refine (JT∘JS'∘JQ∘JB∘Vs (.f (.t (.t (.f .n)))) [11]) fun wd18 => (Vp [0, 1, 5]∘Vn 2∘Vf 3 4∘Vc 4 O3) fun a Z I HS => ?_
  refine s_on Z 6 rfl ?_
  refine s_em Z [vP g 0] (qan W _ g (p.oC + p.cp + u) NA nc p.nums (p.okU u) _ (I.pt 7 [3, 4, 0, 1, 2, 5, 6]) hnc om (x := p.cu.getD u 0) (k2 := p.oC + p.cp + (u + 1)) (o2 := p.okU (u + 1)) (q6b h om) (rfl) (rfl) (rfl)) fun w87 I a Z => ?_
  refine keepS (I.pt 7 [3, 4, 1, 5, 6]) (fun HS => ?_)
  refine s_on Z 7 rfl (s_el Z I zn [(0, vI (toI (p.cu.getD u 0)))] #[vI (toI (p.cu.getD u 0))] ?_)
  clear Z I; intro a w88 g88 Z I
  refine keepS (I.pt 8 [4, 5, 2, 6, 7]) (fun HS => ?_)
  refine s_on Z 8 rfl (qaz Z I (i := 3) rfl zn rfl rfl rfl (news := ([toI (p.cu.getD u 0)].map I64i)) (I.rdBlk (i := 0) (n := 1) (size := 1) rfl rfl) (qpa _) om om rfl de ?_)
  clear Z I; intro a w89 A89 c89 Z I hc89
  refine keepS (I.pt 8 [4, 5, 2, 6, 7]) (fun HS => ?_)
  refine Vb Z I HS ((Vn 9∘Vf 10 4) fun a Z I HS => ?_)
  refine s_on Z 11 rfl (s_es Z I 6 ?_)
  clear I; intro w18_11 I
  refine noS kr ?_
  refine qc kr ?_
  have hnA89 : U.length + 1 = (U ++ [toI (p.cu.getD u 0)]).length := zh rfl
  replace I := I.reRow (i := 3) (ys := (U ++ [toI (p.cu.getD u 0)]).map I64i) rfl hnA89 (by exact List.map_append.symm)
  rw [hnA89] at hc89
  replace Z := Z.sp 89 (.slice A89 ((U ++ [toI (p.cu.getD u 0)]).length) c89) rfl (by rw [hnA89])
  replace I := I.reBlk (i := 6) (ds := #[vI (toI p.nx), vI p.cp, vQ p.cr, .slice Ag G.length cg, .slice Al C.length cl, .slice A89 ((U ++ [toI (p.cu.getD u 0)]).length) c89, vN, vN]) rfl (by rw [hnA89]; try rfl)
  refine Jb Z I ((JG∘JR∘JaK 1∘Jp 1∘Jd1∘Jq) fun a Z I => ?_)
  exact ⟨_, om, u + 1, (U ++ [toI (p.cu.getD u 0)]), A89, c89, by omega, by rw [hU, qa6], by rw [List.length_append, hUl]; rfl, hc89, rfl, Z.sub kr, I.pt 8 [3, 4, 5, 1, 2, 6, 7]⟩
 refine (JF∘JX∘JG∘JP∘Jp 1∘Jq) fun a Z I => ?_
 replace I := I.reBlk (i := 3) (ds := #[.slice (srcA NA nc p.oT) (p.nums.length - p.oT) (nc - p.oT), .bool (p.okU p.cp)]) rfl (by rw [show u = p.cp by omega, show p.oC + p.cp + p.cp = p.oT by omega])
 refine Jb Z I ((JG∘JQ∘JP∘Jp 1∘JO (h:=by exact fun I => qan W _ g p.oT NA nc p.nums (p.okU p.cp) _ (I.pt 7 [3, 4, 0, 1, 2, 5, 6]) hnc om (x := p.tk) (k2 := p.oT + 1 + 8 * 0) (o2 := p.okT 0) (q6c h) (rfl) (rfl) (qp5 om))) fun w94 => (Jp 1∘Jq) fun a Z I => ?_)
 replace I := I.nil 61 8
 refine Jb Z I ((JG∘JB) fun a Z I => ?_)
 refine qe (fun mS aS wS => ∃ (i : Nat) (T : List Tk) (At : Option Addr) (ct : Nat), (i ≤ p.tk) ∧ (T = mapR i p.tsk) ∧ (T.length = i) ∧ (T.length ≤ ct) ∧ mS = p.tk - i ∧ Fr aS 191 [] [(95, vI i), (94, vI p.tk), (7, vI (p.idB i)), (80, .bool false), (79, vI u), (78, vI p.cp), (61, .bool false), (60, vI k), (59, vI p.cp), (31, .bool false), (30, vI j), (29, vI p.gp), (4, vP g3 1), (3, vP g3 0), (2, vP g2 0), (0, vP g 0)] ∧ Mem W wS (.row (.slice At T.length ct) T.length (T.flatMap tkL) 61 8 :: .blk g #[.slice (srcA NA nc (p.oT + 1 + 8 * i)) (p.nums.length - (p.oT + 1 + 8 * i)) (nc - (p.oT + 1 + 8 * i)), .bool (p.okT i)] 132 :: .row (.slice NA p.nums.length nc) p.nums.length (p.nums.map U64) 30 1 :: .row (.slice Au U.length cu) U.length (U.map I64i) 3 1 :: .row (.slice Al C.length cl) C.length (C.map I64i) 3 1 :: .row (.slice Ag G.length cg) G.length (G.flatMap grL) 110 2 :: .blk g3 #[vI (toI p.nx), vI p.cp, vQ p.cr, .slice Ag G.length cg, .slice Al C.length cl, .slice Au U.length cu, .slice At T.length ct, vN] 40 :: .blk g2 #[vI 0, vI 0, vQ 0, vN, vN, vN, vN, vN] 40 :: fs)) (m := p.tk - 0) ⟨0, [], none, 0, Nat.zero_le _, rfl, rfl, Nat.le_refl _, rfl, Z.sub kr, I.pt 8 [0, 1, 2, 3, 4, 5, 6, 7]⟩ ?_
 clear Z I; rintro mS a w_ ⟨i, T, At, ct, hi, hT, hTl, hTc, rfl, Z, I⟩
 refine Jb Z I ((JP∘Jp 1∘Jj∘JQ) (Ji (fun hd96 => ?_) fun hd96 => ?_))
 ·
  refine (JT∘JS'∘JQ∘JB∘JP∘Jp 2∘JO (h:=by exact fun I => qan W _ g (p.oT + 1 + 8 * i) NA nc p.nums (p.okT i) _ (I.pt 8 [1, 2, 0, 3, 4, 5, 6, 7]) hnc om (x := p.tn i 0) (k2 := p.oT + 1 + (8 * i + 1)) (o2 := p.okT i && dle (p.tn i 0) mostI) (qdy h (j := 8 * i) om) (rfl) (rfl) (rfl))) fun w99 => (Jp 1∘Jo (vI (p.idA i)) (by exact rfl)∘Jp 1∘Jd4∘Jr∘Jp 2∘JO (h:=by exact fun I => qan W _ g (p.oT + 1 + (8 * i + 1)) NA nc p.nums (p.okT i && dle (p.tn i 0) mostI) _ (I.pt 8 [0, 1, 2, 3, 4, 5, 6, 7]) hnc om (x := p.tn i 1) (k2 := p.oT + 1 + (8 * i + 2)) (o2 := (p.okT i && dle (p.tn i 0) mostI) && dle (p.tn i 1) mostI) (qdy h (j := 8 * i + 1) om) (rfl) (rfl) (rfl))) fun w103 => (Jp 1∘JO (h:=by exact fun I => qan W _ g (p.oT + 1 + (8 * i + 2)) NA nc p.nums ((p.okT i && dle (p.tn i 0) mostI) && dle (p.tn i 1) mostI) _ (I.pt 8 [0, 1, 2, 3, 4, 5, 6, 7]) hnc om (x := p.tn i 2) (k2 := p.oT + 1 + (8 * i + 3)) (o2 := ((p.okT i && dle (p.tn i 0) mostI) && dle (p.tn i 1) mostI) && dle (p.tn i 2) mostI) (qdy h (j := 8 * i + 2) om) (rfl) (rfl) (rfl))) fun w105 => (Jp 1∘JO (h:=by exact fun I => qan W _ g (p.oT + 1 + (8 * i + 3)) NA nc p.nums (((p.okT i && dle (p.tn i 0) mostI) && dle (p.tn i 1) mostI) && dle (p.tn i 2) mostI) _ (I.pt 8 [0, 1, 2, 3, 4, 5, 6, 7]) hnc om (x := p.tn i 3) (k2 := p.oT + 1 + (8 * i + 4)) (o2 := (((p.okT i && dle (p.tn i 0) mostI) && dle (p.tn i 1) mostI) && dle (p.tn i 2) mostI) && dle (p.tn i 3) mostI) (qdy h (j := 8 * i + 3) om) (rfl) (rfl) (rfl))) fun w107 => (Jp 1∘JO (h:=by exact fun I => qdi 18446744073709551615 W _ g (p.oT + 1 + (8 * i + 4)) NA nc p.nums ((((p.okT i && dle (p.tn i 0) mostI) && dle (p.tn i 1) mostI) && dle (p.tn i 2) mostI) && dle (p.tn i 3) mostI) _ (I.pt 8 [0, 1, 2, 3, 4, 5, 6, 7]) hnc om (x := p.tn i 4) (k2 := p.oT + 1 + (8 * i + 5)) (o2 := ((((p.okT i && dle (p.tn i 0) mostI) && dle (p.tn i 1) mostI) && dle (p.tn i 2) mostI) && dle (p.tn i 3) mostI) && dle (p.tn i 4) 18446744073709551615) (qdy h (j := 8 * i + 4) om) (rfl) (rfl))) fun w109 => (Jy (v := .agg #[vI (p.idA i), vI (toI (p.tn i 1)), vI (toI (p.tn i 2)), vI (toI (p.tn i 3)), vQ (p.tn i 4), .bool false, vQ 0, vW 0]) (h:=by exact Yl.build (vs := [(0, vI (p.idA i)), (1, vI (toI (p.tn i 1))), (2, vI (toI (p.tn i 2))), (3, vI (toI (p.tn i 3))), (4, vQ (p.tn i 4))]) rfl kr kr)∘JA #[vI 0, vI 0, vI 0, vI 0, vQ 0, .bool false, vQ 0, vW 0]) fun w8 g8 => (JV si_tk O0') fun w24_11 => (Jd6∘Jq) fun a Z I => ?_
  replace I : Mem W _ (.blk g8 #[vI (p.idA i), vI (toI (p.tn i 1)), vI (toI (p.tn i 2)), vI (toI (p.tn i 3)), vQ (p.tn i 4), .bool false, vQ 0, vW 0] 61 :: .blk g #[.slice (srcA NA nc (p.oT + 1 + (8 * i + 5))) (p.nums.length - (p.oT + 1 + (8 * i + 5))) (nc - (p.oT + 1 + (8 * i + 5))), .bool (((((p.okT i && dle (p.tn i 0) mostI) && dle (p.tn i 1) mostI) && dle (p.tn i 2) mostI) && dle (p.tn i 3) mostI) && dle (p.tn i 4) 18446744073709551615)] 132 :: .row (.slice NA p.nums.length nc) p.nums.length (p.nums.map U64) 30 1 :: .row (.slice At T.length ct) T.length (T.flatMap tkL) 61 8 :: .row (.slice Au U.length cu) U.length (U.map I64i) 3 1 :: .row (.slice Al C.length cl) C.length (C.map I64i) 3 1 :: .row (.slice Ag G.length cg) G.length (G.flatMap grL) 110 2 :: .blk g3 #[vI (toI p.nx), vI p.cp, vQ p.cr, .slice Ag G.length cg, .slice Al C.length cl, .slice Au U.length cu, .slice At T.length ct, vN] 40 :: .blk g2 #[vI 0, vI 0, vQ 0, vN, vN, vN, vN, vN] 40 :: fs) := I
  refine Jb Z I ((JG∘JP∘Jp 1∘JO (h:=by exact fun I => qdi 1 W _ g (p.oT + 1 + (8 * i + 5)) NA nc p.nums (((((p.okT i && dle (p.tn i 0) mostI) && dle (p.tn i 1) mostI) && dle (p.tn i 2) mostI) && dle (p.tn i 3) mostI) && dle (p.tn i 4) 18446744073709551615) _ (I.pt 9 [1, 2, 0, 3, 4, 5, 6, 7, 8]) hnc om (x := p.tn i 5) (k2 := p.oT + 1 + (8 * i + 6)) (o2 := (((((p.okT i && dle (p.tn i 0) mostI) && dle (p.tn i 1) mostI) && dle (p.tn i 2) mostI) && dle (p.tn i 3) mostI) && dle (p.tn i 4) 18446744073709551615) && dle (p.tn i 5) 1) (qdy h (j := 8 * i + 5) om) (rfl) (rfl))) fun w112 => (Jp 1∘Jo (.bool (decide (p.tn i 5 = 1))) (by exact congrArg Value.bool (q6k _))∘Jp 1∘JO (h:=by exact fun I => qdi 18446744073709551615 W _ g (p.oT + 1 + (8 * i + 6)) NA nc p.nums ((((((p.okT i && dle (p.tn i 0) mostI) && dle (p.tn i 1) mostI) && dle (p.tn i 2) mostI) && dle (p.tn i 3) mostI) && dle (p.tn i 4) 18446744073709551615) && dle (p.tn i 5) 1) _ (I.pt 9 [0, 1, 2, 3, 4, 5, 6, 7, 8]) hnc om (x := p.tn i 6) (k2 := p.oT + 1 + (8 * i + 7)) (o2 := ((((((p.okT i && dle (p.tn i 0) mostI) && dle (p.tn i 1) mostI) && dle (p.tn i 2) mostI) && dle (p.tn i 3) mostI) && dle (p.tn i 4) 18446744073709551615) && dle (p.tn i 5) 1) && dle (p.tn i 6) 18446744073709551615) (qdy h (j := 8 * i + 6) om) (rfl) (rfl))) fun w115 => (Jp 1∘JO (h:=by exact fun I => qdi 4294967295 W _ g (p.oT + 1 + (8 * i + 7)) NA nc p.nums (((((((p.okT i && dle (p.tn i 0) mostI) && dle (p.tn i 1) mostI) && dle (p.tn i 2) mostI) && dle (p.tn i 3) mostI) && dle (p.tn i 4) 18446744073709551615) && dle (p.tn i 5) 1) && dle (p.tn i 6) 18446744073709551615) _ (I.pt 9 [0, 1, 2, 3, 4, 5, 6, 7, 8]) hnc om (x := p.tn i 7) (k2 := p.oT + 1 + 8 * (i + 1)) (o2 := (((((((p.okT i && dle (p.tn i 0) mostI) && dle (p.tn i 1) mostI) && dle (p.tn i 2) mostI) && dle (p.tn i 3) mostI) && dle (p.tn i 4) 18446744073709551615) && dle (p.tn i 5) 1) && dle (p.tn i 6) 18446744073709551615) && dle (p.tn i 7) 4294967295) (qdy h (j := 8 * i + 7) om) om (rfl))) fun w117 => (Jv 1 [(118, vW (IntKind.u32.wrap (p.tn i 7 : Int)))]∘Jo (vW ((p.tn i 7) % 4294967296 : Nat)) (by exact qvc (p.tn i 7))∘Jf 5∘JW O2' O5') fun w25_9 => (Jf 6∘JW O2' O6') fun w25_11 => (Jf 7∘JW O2' O7') fun w25_13 => (Jt6∘Jq) fun a Z I => ?_)
  replace I : Mem W _ (.blk g #[.slice (srcA NA nc (p.oT + 1 + 8 * (i + 1))) (p.nums.length - (p.oT + 1 + 8 * (i + 1))) (nc - (p.oT + 1 + 8 * (i + 1))), .bool ((((((((p.okT i && dle (p.tn i 0) mostI) && dle (p.tn i 1) mostI) && dle (p.tn i 2) mostI) && dle (p.tn i 3) mostI) && dle (p.tn i 4) 18446744073709551615) && dle (p.tn i 5) 1) && dle (p.tn i 6) 18446744073709551615) && dle (p.tn i 7) 4294967295)] 132 :: .row (.slice NA p.nums.length nc) p.nums.length (p.nums.map U64) 30 1 :: .blk g8 #[vI (p.idA i), vI (toI (p.tn i 1)), vI (toI (p.tn i 2)), vI (toI (p.tn i 3)), vQ (p.tn i 4), .bool (decide (p.tn i 5 = 1)), vQ (p.tn i 6), vW ((p.tn i 7) % 4294967296 : Nat)] 61 :: .row (.slice At T.length ct) T.length (T.flatMap tkL) 61 8 :: .row (.slice Au U.length cu) U.length (U.map I64i) 3 1 :: .row (.slice Al C.length cl) C.length (C.map I64i) 3 1 :: .row (.slice Ag G.length cg) G.length (G.flatMap grL) 110 2 :: .blk g3 #[vI (toI p.nx), vI p.cp, vQ p.cr, .slice Ag G.length cg, .slice Al C.length cl, .slice Au U.length cu, .slice At T.length ct, vN] 40 :: .blk g2 #[vI 0, vI 0, vQ 0, vN, vN, vN, vN, vN] 40 :: fs) := I
  refine wp_seq ?_
  refine Jb Z I ((Vs (.t (.t (.t (.f .n)))) [10]) fun wd26 => (Vp [0, 1]∘Vn 2∘Vf 3 5∘Vc 4 O6∘Vy 5 (v := .agg #[vI (p.idA i), vI (toI (p.tn i 1)), vI (toI (p.tn i 2)), vI (toI (p.tn i 3)), vQ (p.tn i 4), .bool (decide (p.tn i 5 = 1)), vQ (p.tn i 6), vW ((p.tn i 7) % 4294967296 : Nat)]) (h:=by exact Yl.loadS rfl rfl si_tk rfl (fun _ h => qb (h.blk (i := 2) rfl)))) fun a Z I HS => ?_)
  refine s_on Z 6 rfl (s_el Z I ei_tk [(0, .agg #[vI (p.idA i), vI (toI (p.tn i 1)), vI (toI (p.tn i 2)), vI (toI (p.tn i 3)), vQ (p.tn i 4), .bool (decide (p.tn i 5 = 1)), vQ (p.tn i 6), vW ((p.tn i 7) % 4294967296 : Nat)])] #[vI (p.idA i), vI (toI (p.tn i 1)), vI (toI (p.tn i 2)), vI (toI (p.tn i 3)), vQ (p.tn i 4), .bool (decide (p.tn i 5 = 1)), vQ (p.tn i 6), vW ((p.tn i 7) % 4294967296 : Nat)] ?_)
  clear Z I; intro a w128 g128 Z I
  refine keepS (I.pt 10 [1, 2, 3, 5, 6, 7, 8, 9]) (fun HS => ?_)
  refine s_on Z 7 rfl (qaz Z I (i := 4) rfl ei_tk rfl rfl rfl (news := ([p.tsk i].flatMap tkL)) (I.rdBlk (i := 0) (n := 1) (size := 8) rfl rfl) (qm8 _) om om rfl de ?_)
  clear Z I; intro a w129 A129 c129 Z I hc129
  refine keepS (I.pt 10 [1, 2, 3, 5, 6, 7, 8, 9]) (fun HS => ?_)
  refine Vb Z I HS ((Vn 8∘Vf 9 5) fun a Z I HS => ?_)
  refine s_on Z 10 rfl (s_es Z I 8 ?_)
  clear I; intro w26_10 I
  refine noS kr ?_
  refine qc kr ?_
  have hnA129 : T.length + 1 = (T ++ [p.tsk i]).length := zh rfl
  replace I := I.reRow (i := 4) (ys := (T ++ [p.tsk i]).flatMap tkL) rfl hnA129 (by exact List.flatMap_append.symm)
  rw [hnA129] at hc129
  replace Z := Z.sp 129 (.slice A129 ((T ++ [p.tsk i]).length) c129) rfl (by rw [hnA129])
  replace I := I.reBlk (i := 8) (ds := #[vI (toI p.nx), vI p.cp, vQ p.cr, .slice Ag G.length cg, .slice Al C.length cl, .slice Au U.length cu, .slice A129 ((T ++ [p.tsk i]).length) c129, vN]) rfl (by rw [hnA129]; try rfl)
  refine Jb Z I ((JP∘Jp 2∘Jn∘Jg 1 O1∘Jp 1) (Ju (fun hb137 => ?_) fun hb137 => ?_))
  ·
   refine (Jp 3∘Jn∘Jf 1∘JW O1' O1') fun w27_11 => (Jt6∘Jj∘JR∘Jp 1∘Jy (v := vI (if (65535 : Int) < (p.idA i : Int) then 65535 else p.idA i)) (h:=by exact Yl.min rfl rfl rfl)∘Jo (vI (p.idB (i + 1))) (by exact rfl)∘Jp 1∘Jd6∘Jj∘JR∘JaK 1∘Jp 1∘Jd1∘Jq) fun a Z I => ?_
   replace I := I.reBlk (i := 1) (ds := #[.slice (srcA NA nc (p.oT + 1 + 8 * (i + 1))) (p.nums.length - (p.oT + 1 + 8 * (i + 1))) (nc - (p.oT + 1 + 8 * (i + 1))), .bool (p.okT (i + 1))]) rfl (by rw [show p.okT (i + 1) = (((((((((p.okT i && dle (p.tn i 0) mostI) && dle (p.tn i 1) mostI) && dle (p.tn i 2) mostI) && dle (p.tn i 3) mostI) && dle (p.tn i 4) 18446744073709551615) && dle (p.tn i 5) 1) && dle (p.tn i 6) 18446744073709551615) && dle (p.tn i 7) 4294967295) && decide (p.idA i ≤ 65535)) from rfl, hb137]; rfl)
   exact ⟨_, om, i + 1, (T ++ [p.tsk i]), A129, c129, by omega, by rw [hT, qa6], by rw [List.length_append, hTl]; rfl, hc129, rfl, Z.sub kr, I.pt 10 [4, 1, 2, 5, 6, 7, 8, 9]⟩
  refine (Jp 3∘Jn∘Jf 1∘JW O1' O1') fun w27_11 => (Jt6∘Jj∘JR∘Jp 1∘Jy (v := vI (if (65535 : Int) < (p.idA i : Int) then 65535 else p.idA i)) (h:=by exact Yl.min rfl rfl rfl)∘Jo (vI (p.idB (i + 1))) (by exact rfl)∘Jp 1∘Jd6∘Jj∘JR∘JaK 1∘Jp 1∘Jd1∘Jq) fun a Z I => ?_
  replace I := I.reBlk (i := 1) (ds := #[.slice (srcA NA nc (p.oT + 1 + 8 * (i + 1))) (p.nums.length - (p.oT + 1 + 8 * (i + 1))) (nc - (p.oT + 1 + 8 * (i + 1))), .bool (p.okT (i + 1))]) rfl (by rw [show p.okT (i + 1) = (((((((((p.okT i && dle (p.tn i 0) mostI) && dle (p.tn i 1) mostI) && dle (p.tn i 2) mostI) && dle (p.tn i 3) mostI) && dle (p.tn i 4) 18446744073709551615) && dle (p.tn i 5) 1) && dle (p.tn i 6) 18446744073709551615) && dle (p.tn i 7) 4294967295) && decide (p.idA i ≤ 65535)) from rfl, hb137]; rfl)
  exact ⟨_, om, i + 1, (T ++ [p.tsk i]), A129, c129, by omega, by rw [hT, qa6], by rw [List.length_append, hTl]; rfl, hc129, rfl, Z.sub kr, I.pt 10 [4, 1, 2, 5, 6, 7, 8, 9]⟩
 refine (JF∘JX∘JG∘JQ∘JP∘Jp 1∘Jn∘Jf 0∘Jg 2 O6∘Jl∘Jp 1∘Jq) fun a Z I => ?_
 replace I := I.reBlk (i := 1) (ds := #[.slice (srcA NA nc (p.oS + p.so 0 0)) (p.nums.length - (p.oS + p.so 0 0)) (nc - (p.oS + p.so 0 0)), .bool (p.okS 0)]) rfl (by rw [show i = p.tk by omega]; rfl)
 replace I := I.nil 64 1
 replace I := I.newTail 63 3
 replace I : Mem W _ (.row (vN) 0 [] 64 1 :: .row (.slice At T.length ct) T.length (T.flatMap tkL) 61 8 :: .blk g #[.slice (srcA NA nc (p.oS + p.so 0 0)) (p.nums.length - (p.oS + p.so 0 0)) (nc - (p.oS + p.so 0 0)), .bool (p.okS 0)] 132 :: .row (.slice NA p.nums.length nc) p.nums.length (p.nums.map U64) 30 1 :: .row (.slice Au U.length cu) U.length (U.map I64i) 3 1 :: .row (.slice Al C.length cl) C.length (C.map I64i) 3 1 :: .row (.slice Ag G.length cg) G.length (G.flatMap grL) 110 2 :: .blk g3 #[vI (toI p.nx), vI p.cp, vQ p.cr, .slice Ag G.length cg, .slice Al C.length cl, .slice Au U.length cu, .slice At T.length ct, vN] 40 :: .blk g2 #[vI 0, vI 0, vQ 0, vN, vN, vN, vN, vN] 40 :: (fs ++ (rwF 63 []))) := I
 refine Jb Z I ((JG∘JB) fun a Z I => ?_)
 refine qe (fun mS aS wS => ∃ (y : Nat) (z : List Rw) (As : Option Addr) (cs : Nat), (y ≤ G.length) ∧ (z.length = y) ∧ (z.map Rw.l = mapR y p.row) ∧ (∀ q ∈ z, q.l.length ≤ q.c) ∧ (z.length ≤ cs) ∧ mS = G.length - y ∧ Fr aS 191 [] [(152, vI y), (151, vI G.length), (96, .bool false), (95, vI i), (94, vI p.tk), (7, vI (p.idB i)), (80, .bool false), (79, vI u), (78, vI p.cp), (61, .bool false), (60, vI k), (59, vI p.cp), (31, .bool false), (30, vI j), (29, vI p.gp), (4, vP g3 1), (3, vP g3 0), (2, vP g2 0), (0, vP g 0)] ∧ Mem W wS (.row (.slice As z.length cs) z.length (z.map Rw.val) 64 1 :: .row (.slice At T.length ct) T.length (T.flatMap tkL) 61 8 :: .blk g #[.slice (srcA NA nc (p.oS + p.so y 0)) (p.nums.length - (p.oS + p.so y 0)) (nc - (p.oS + p.so y 0)), .bool (p.okS y)] 132 :: .row (.slice NA p.nums.length nc) p.nums.length (p.nums.map U64) 30 1 :: .row (.slice Au U.length cu) U.length (U.map I64i) 3 1 :: .row (.slice Al C.length cl) C.length (C.map I64i) 3 1 :: .row (.slice Ag G.length cg) G.length (G.flatMap grL) 110 2 :: .blk g3 #[vI (toI p.nx), vI p.cp, vQ p.cr, .slice Ag G.length cg, .slice Al C.length cl, .slice Au U.length cu, .slice At T.length ct, .slice As z.length cs] 40 :: .blk g2 #[vI 0, vI 0, vQ 0, vN, vN, vN, vN, vN] 40 :: (fs ++ (rwF 63 z)))) (m := G.length - 0) ⟨0, [], none, 0, Nat.zero_le _, rfl, rfl, (fun q h => by cases h), Nat.le_refl _, rfl, Z.sub kr, I.pt 9 [0, 1, 2, 3, 4, 5, 6, 7, 8]⟩ ?_
 clear Z I; rintro mS a w_ ⟨y, z, As, cs, hy, hzl, hz, hzc, hcs, rfl, Z, I⟩
 refine Jb Z I ((JP∘Jp 1∘Jj∘JQ) (Ju (fun hb153 => ?_) fun hb153 => ?_))
 ·
  intro a Z I
  have hd153 := of_decide_eq_true hb153
  have hyg : y < p.gp := by omega
  refine Jb Z I ((JT∘JS'∘JQ∘JB∘JP∘Jp 2∘Jd1∘Jr∘Jp 1∘Jq) fun a Z I => ?_)
  replace I := I.nil 63 3
  refine Jb Z I ((JG∘JQ∘JP∘Jp 1∘Jn∘Jf 0∘Jg 0 O8∘Jp 1∘Jj∘JB) fun a Z I => ?_)
  refine qe (fun mS aS wS => ∃ (x : Nat) (R : List Sp) (Ar : Option Addr) (cr : Nat), (x ≤ p.cp) ∧ (R = mapR x (p.spt y)) ∧ (R.length = x) ∧ (R.length ≤ cr) ∧ mS = p.cp - x ∧ Fr aS 191 [] [(160, vI x), (159, vI p.cp), (10, .slice Ar R.length cr), (9, vI y), (153, .bool true), (152, vI y), (151, vI G.length), (96, .bool false), (95, vI i), (94, vI p.tk), (7, vI (p.idB i)), (80, .bool false), (79, vI u), (78, vI p.cp), (61, .bool false), (60, vI k), (59, vI p.cp), (31, .bool false), (30, vI j), (29, vI p.gp), (4, vP g3 1), (3, vP g3 0), (2, vP g2 0), (0, vP g 0)] ∧ Mem W wS (.row (.slice Ar R.length cr) R.length (R.flatMap spL) 63 3 :: .row (.slice As z.length cs) z.length (z.map Rw.val) 64 1 :: .row (.slice At T.length ct) T.length (T.flatMap tkL) 61 8 :: .blk g #[.slice (srcA NA nc (p.oS + p.so y x)) (p.nums.length - (p.oS + p.so y x)) (nc - (p.oS + p.so y x)), .bool (p.okR (p.okS y) y x)] 132 :: .row (.slice NA p.nums.length nc) p.nums.length (p.nums.map U64) 30 1 :: .row (.slice Au U.length cu) U.length (U.map I64i) 3 1 :: .row (.slice Al C.length cl) C.length (C.map I64i) 3 1 :: .row (.slice Ag G.length cg) G.length (G.flatMap grL) 110 2 :: .blk g3 #[vI (toI p.nx), vI p.cp, vQ p.cr, .slice Ag G.length cg, .slice Al C.length cl, .slice Au U.length cu, .slice At T.length ct, .slice As z.length cs] 40 :: .blk g2 #[vI 0, vI 0, vQ 0, vN, vN, vN, vN, vN] 40 :: (fs ++ (rwF 63 z)))) (m := p.cp - 0) ⟨0, [], none, 0, Nat.zero_le _, rfl, rfl, Nat.le_refl _, rfl, Z.sub kr, I.pt 10 [0, 1, 2, 3, 4, 5, 6, 7, 8, 9]⟩ ?_
  clear Z I; rintro mS a w_ ⟨x, R, Ar, cr, hx, hR, hRl, hRc, rfl, Z, I⟩
  refine Jb Z I ((JP∘Jp 1∘Jj∘JQ) (Ju (fun hb161 => ?_) fun hb161 => ?_))
  ·
   intro a Z I
   have hd161 := of_decide_eq_true hb161
   have hxc : x < p.cp := by omega
   have hin := so_in h hyg hxc
   refine Jb Z I ((JT∘JS'∘JQ∘JB∘JP∘JA #[vQ 0, vW 0, vQ 0]) fun w11 g11 => (Jj∘JQ∘JP∘Jp 2∘Jd1∘Jj) (Ju (fun hb163 => ?_) fun hb163 => ?_))
   ·
    intro a Z I
    have hd163 := of_decide_eq_true hb163
    rw [if_neg om] at hin
    have hsp : p.spt y x = ⟨p.sn y x 0, p.sn y x 1 % 4294967296, p.sn y x 2⟩ := if_neg om
    refine Jb Z I ((JT∘JR∘Jp 1∘JO (h:=by exact fun I => qdi 18446744073709551615 W _ g (p.oS + p.so y x) NA nc p.nums (p.okR (p.okS y) y x) _ (I.pt 11 [4, 5, 0, 1, 2, 3, 6, 7, 8, 9, 10]) hnc om (x := p.sn y x 0) (k2 := p.oS + (p.so y x + 1)) (o2 := p.okR (p.okS y) y x && dle (p.sn y x 0) 18446744073709551615) (ql4 h (p.so y x)) (rfl) (rfl))) fun w165 => (Jp 1∘JO (h:=by exact fun I => qdi 4294967295 W _ g (p.oS + (p.so y x + 1)) NA nc p.nums (p.okR (p.okS y) y x && dle (p.sn y x 0) 18446744073709551615) _ (I.pt 11 [0, 1, 2, 3, 4, 5, 6, 7, 8, 9, 10]) hnc om (x := p.sn y x 1) (k2 := p.oS + (p.so y x + 2)) (o2 := (p.okR (p.okS y) y x && dle (p.sn y x 0) 18446744073709551615) && dle (p.sn y x 1) 4294967295) (ql4 h (p.so y x + 1)) (rfl) (rfl))) fun w167 => (Jv 1 [(168, vW (IntKind.u32.wrap (p.sn y x 1 : Int)))]∘Jo (vW ((p.sn y x 1) % 4294967296 : Nat)) (by exact qvc (p.sn y x 1))∘Jf 0∘JW O2' O0') fun w38_6 => (Jf 1∘JW O2' O1') fun w38_8 => (Jt6∘Jq) fun a Z I => ?_)
    replace I : Mem W _ (.blk g #[.slice (srcA NA nc (p.oS + (p.so y x + 2))) (p.nums.length - (p.oS + (p.so y x + 2))) (nc - (p.oS + (p.so y x + 2))), .bool ((p.okR (p.okS y) y x && dle (p.sn y x 0) 18446744073709551615) && dle (p.sn y x 1) 4294967295)] 132 :: .row (.slice NA p.nums.length nc) p.nums.length (p.nums.map U64) 30 1 :: .blk g11 #[vQ (p.sn y x 0), vW ((p.sn y x 1) % 4294967296 : Nat), vQ 0] 63 :: .row (.slice Ar R.length cr) R.length (R.flatMap spL) 63 3 :: .row (.slice As z.length cs) z.length (z.map Rw.val) 64 1 :: .row (.slice At T.length ct) T.length (T.flatMap tkL) 61 8 :: .row (.slice Au U.length cu) U.length (U.map I64i) 3 1 :: .row (.slice Al C.length cl) C.length (C.map I64i) 3 1 :: .row (.slice Ag G.length cg) G.length (G.flatMap grL) 110 2 :: .blk g3 #[vI (toI p.nx), vI p.cp, vQ p.cr, .slice Ag G.length cg, .slice Al C.length cl, .slice Au U.length cu, .slice At T.length ct, .slice As z.length cs] 40 :: .blk g2 #[vI 0, vI 0, vQ 0, vN, vN, vN, vN, vN] 40 :: (fs ++ (rwF 63 z))) := I
    refine Jb Z I ((JG∘JP∘Jp 1∘JO (h:=by exact fun I => qdi 18446744073709551615 W _ g (p.oS + (p.so y x + 2)) NA nc p.nums ((p.okR (p.okS y) y x && dle (p.sn y x 0) 18446744073709551615) && dle (p.sn y x 1) 4294967295) _ (I.pt 11 [0, 1, 2, 3, 4, 5, 6, 7, 8, 9, 10]) hnc om (x := p.sn y x 2) (k2 := p.oS + p.so y (x + 1)) (o2 := p.okR (p.okS y) y (x + 1)) (ql4 h (p.so y x + 2)) (by rw [so_s3 om]; rfl) ((okR_p om).symm))) fun w172 => (Jf 2∘JW O2' O2') fun w39_3 => (Jt4∘Jq) fun a Z I => ?_)
    replace I : Mem W _ (.blk g #[.slice (srcA NA nc (p.oS + p.so y (x + 1))) (p.nums.length - (p.oS + p.so y (x + 1))) (nc - (p.oS + p.so y (x + 1))), .bool (p.okR (p.okS y) y (x + 1))] 132 :: .row (.slice NA p.nums.length nc) p.nums.length (p.nums.map U64) 30 1 :: .blk g11 #[vQ (p.sn y x 0), vW ((p.sn y x 1) % 4294967296 : Nat), vQ (p.sn y x 2)] 63 :: .row (.slice Ar R.length cr) R.length (R.flatMap spL) 63 3 :: .row (.slice As z.length cs) z.length (z.map Rw.val) 64 1 :: .row (.slice At T.length ct) T.length (T.flatMap tkL) 61 8 :: .row (.slice Au U.length cu) U.length (U.map I64i) 3 1 :: .row (.slice Al C.length cl) C.length (C.map I64i) 3 1 :: .row (.slice Ag G.length cg) G.length (G.flatMap grL) 110 2 :: .blk g3 #[vI (toI p.nx), vI p.cp, vQ p.cr, .slice Ag G.length cg, .slice Al C.length cl, .slice Au U.length cu, .slice At T.length ct, .slice As z.length cs] 40 :: .blk g2 #[vI 0, vI 0, vQ 0, vN, vN, vN, vN, vN] 40 :: (fs ++ (rwF 63 z))) := I
    refine Jb Z I ((JG∘JR∘Jp 1∘Jy (v := .agg #[vQ (p.sn y x 0), vW ((p.sn y x 1) % 4294967296 : Nat), vQ (p.sn y x 2)]) (h:=by exact Yl.loadS rfl rfl si_sp rfl (fun _ h => qb (h.blk (i := 2) rfl)))∘JU ei_sp #[vQ (p.sn y x 0), vW ((p.sn y x 1) % 4294967296 : Nat), vQ (p.sn y x 2)]) fun w176 g176 => (JD ([(⟨p.sn y x 0, p.sn y x 1 % 4294967296, p.sn y x 2⟩ : Sp)].flatMap spL) 4 (fun _ _ => O4') ei_sp (hr:=by exact fun I => I.rdBlk (i := 0) (n := 1) (size := 3) rfl rfl) (h1:=by exact qwn _)) fun w177 A177 c177 hc177 => (Jp 1∘Jd4∘Jq) fun a Z I => ?_)
    have hnA177 : R.length + 1 = (R ++ [p.spt y x]).length := zh rfl
    replace I := I.reRow (i := 4) (ys := (R ++ [p.spt y x]).flatMap spL) rfl hnA177 (by rw [hsp]; exact List.flatMap_append.symm)
    rw [hnA177] at hc177
    replace Z := Z.sp 10 (.slice A177 ((R ++ [p.spt y x]).length) c177) rfl (by rw [hnA177])
    refine Jb Z I ((JG∘JR∘JaK 1∘Jp 1∘Jd1∘Jq) fun a Z I => ?_)
    exact ⟨_, om, x + 1, (R ++ [p.spt y x]), A177, c177, by omega, by rw [hR, qa6], by rw [List.length_append, hRl]; rfl, hc177, rfl, Z.sub kr, I.pt 12 [4, 5, 6, 1, 2, 7, 8, 9, 10, 11]⟩
   intro a Z I
   have hd163 := of_decide_eq_false hb163
   rw [if_pos om] at hin
   have hsp : p.spt y x = ⟨0, 0, p.sn y x 0⟩ := if_pos om
   refine Jb Z I ((JF∘JS'∘JP∘Jp 1∘JO (h:=by exact fun I => qdi 18446744073709551615 W _ g (p.oS + p.so y x) NA nc p.nums (p.okR (p.okS y) y x) _ (I.pt 11 [4, 5, 0, 1, 2, 3, 6, 7, 8, 9, 10]) hnc om (x := p.sn y x 0) (k2 := p.oS + p.so y (x + 1)) (o2 := p.okR (p.okS y) y (x + 1)) (ql4 h (p.so y x)) (by rw [so_s0 om]; rfl) ((okR_z om).symm))) fun w172 => (Jf 2∘JW O2' O2') fun w39_3 => (Jt3∘Jq) fun a Z I => ?_)
   replace I : Mem W _ (.blk g #[.slice (srcA NA nc (p.oS + p.so y (x + 1))) (p.nums.length - (p.oS + p.so y (x + 1))) (nc - (p.oS + p.so y (x + 1))), .bool (p.okR (p.okS y) y (x + 1))] 132 :: .row (.slice NA p.nums.length nc) p.nums.length (p.nums.map U64) 30 1 :: .blk g11 #[vQ 0, vW 0, vQ (p.sn y x 0)] 63 :: .row (.slice Ar R.length cr) R.length (R.flatMap spL) 63 3 :: .row (.slice As z.length cs) z.length (z.map Rw.val) 64 1 :: .row (.slice At T.length ct) T.length (T.flatMap tkL) 61 8 :: .row (.slice Au U.length cu) U.length (U.map I64i) 3 1 :: .row (.slice Al C.length cl) C.length (C.map I64i) 3 1 :: .row (.slice Ag G.length cg) G.length (G.flatMap grL) 110 2 :: .blk g3 #[vI (toI p.nx), vI p.cp, vQ p.cr, .slice Ag G.length cg, .slice Al C.length cl, .slice Au U.length cu, .slice At T.length ct, .slice As z.length cs] 40 :: .blk g2 #[vI 0, vI 0, vQ 0, vN, vN, vN, vN, vN] 40 :: (fs ++ (rwF 63 z))) := I
   refine Jb Z I ((JG∘JR∘Jp 1∘Jy (v := .agg #[vQ 0, vW 0, vQ (p.sn y x 0)]) (h:=by exact Yl.loadS rfl rfl si_sp rfl (fun _ h => qb (h.blk (i := 2) rfl)))∘JU ei_sp #[vQ 0, vW 0, vQ (p.sn y x 0)]) fun w176 g176 => (JD ([(⟨0, 0, p.sn y x 0⟩ : Sp)].flatMap spL) 4 (fun _ _ => O4') ei_sp (hr:=by exact fun I => I.rdBlk (i := 0) (n := 1) (size := 3) rfl rfl) (h1:=by exact qwn _)) fun w177 A177 c177 hc177 => (Jp 1∘Jd4∘Jq) fun a Z I => ?_)
   have hnA177 : R.length + 1 = (R ++ [p.spt y x]).length := zh rfl
   replace I := I.reRow (i := 4) (ys := (R ++ [p.spt y x]).flatMap spL) rfl hnA177 (by rw [hsp]; exact List.flatMap_append.symm)
   rw [hnA177] at hc177
   replace Z := Z.sp 10 (.slice A177 ((R ++ [p.spt y x]).length) c177) rfl (by rw [hnA177])
   refine Jb Z I ((JG∘JR∘JaK 1∘Jp 1∘Jd1∘Jq) fun a Z I => ?_)
   exact ⟨_, om, x + 1, (R ++ [p.spt y x]), A177, c177, by omega, by rw [hR, qa6], by rw [List.length_append, hRl]; rfl, hc177, rfl, Z.sub kr, I.pt 12 [4, 5, 6, 1, 2, 7, 8, 9, 10, 11]⟩
  intro a Z I
  have hd161 := of_decide_eq_false hb161
  refine Jb Z I ((JF∘JX∘JG∘JR∘Jp 2∘Jn∘Jg 6 O8∘Jp 1∘JU ei_rw #[.slice Ar R.length cr]) fun w185 g185 => (JD ([(⟨Ar, cr, R⟩ : Rw)].map Rw.val) 2 (fun _ _ => O2') ei_rw (hr:=by exact fun I => I.rdBlk (i := 0) (n := 1) (size := 1) rfl rfl) (h1:=by exact q3l _)) fun w186 A186 c186 hc186 => (Jn∘Jf 6∘JW O9' O7') fun w42_10 => (Jt6∘Jq) fun a Z I => ?_)
  have hnA186 : z.length + 1 = (z ++ [(⟨Ar, cr, R⟩ : Rw)]).length := zh rfl
  replace I := I.reRow (i := 2) (ys := (z ++ [(⟨Ar, cr, R⟩ : Rw)]).map Rw.val) rfl hnA186 (by exact List.map_append.symm)
  rw [hnA186] at hc186
  replace I := I.reBlk (i := 9) (ds := #[vI (toI p.nx), vI p.cp, vQ p.cr, .slice Ag G.length cg, .slice Al C.length cl, .slice Au U.length cu, .slice At T.length ct, .slice A186 ((z ++ [(⟨Ar, cr, R⟩ : Rw)]).length) c186]) rfl (by rw [hnA186]; try rfl)
  replace I := I.pt (fs' := (.row (.slice Ar R.length cr) R.length (R.flatMap spL) 63 3 :: .row (.slice A186 ((z ++ [(⟨Ar, cr, R⟩ : Rw)]).length) c186) ((z ++ [(⟨Ar, cr, R⟩ : Rw)]).length) ((z ++ [(⟨Ar, cr, R⟩ : Rw)]).map Rw.val) 64 1 :: .row (.slice At T.length ct) T.length (T.flatMap tkL) 61 8 :: .blk g #[.slice (srcA NA nc (p.oS + p.so y x)) (p.nums.length - (p.oS + p.so y x)) (nc - (p.oS + p.so y x)), .bool (p.okR (p.okS y) y x)] 132 :: .row (.slice NA p.nums.length nc) p.nums.length (p.nums.map U64) 30 1 :: .row (.slice Au U.length cu) U.length (U.map I64i) 3 1 :: .row (.slice Al C.length cl) C.length (C.map I64i) 3 1 :: .row (.slice Ag G.length cg) G.length (G.flatMap grL) 110 2 :: .blk g3 #[vI (toI p.nx), vI p.cp, vQ p.cr, .slice Ag G.length cg, .slice Al C.length cl, .slice Au U.length cu, .slice At T.length ct, .slice A186 ((z ++ [(⟨Ar, cr, R⟩ : Rw)]).length) c186] 40 :: .blk g2 #[vI 0, vI 0, vQ 0, vN, vN, vN, vN, vN] 40 :: (fs ++ (rwF 63 z)))) 11 [1, 2, 3, 4, 5, 6, 7, 8, 9, 10]
  replace I := Mem.toRw (fs := (.row (.slice A186 ((z ++ [(⟨Ar, cr, R⟩ : Rw)]).length) c186) ((z ++ [(⟨Ar, cr, R⟩ : Rw)]).length) ((z ++ [(⟨Ar, cr, R⟩ : Rw)]).map Rw.val) 64 1 :: .row (.slice At T.length ct) T.length (T.flatMap tkL) 61 8 :: .blk g #[.slice (srcA NA nc (p.oS + p.so y x)) (p.nums.length - (p.oS + p.so y x)) (nc - (p.oS + p.so y x)), .bool (p.okR (p.okS y) y x)] 132 :: .row (.slice NA p.nums.length nc) p.nums.length (p.nums.map U64) 30 1 :: .row (.slice Au U.length cu) U.length (U.map I64i) 3 1 :: .row (.slice Al C.length cl) C.length (C.map I64i) 3 1 :: .row (.slice Ag G.length cg) G.length (G.flatMap grL) 110 2 :: .blk g3 #[vI (toI p.nx), vI p.cp, vQ p.cr, .slice Ag G.length cg, .slice Al C.length cl, .slice Au U.length cu, .slice At T.length ct, .slice A186 ((z ++ [(⟨Ar, cr, R⟩ : Rw)]).length) c186] 40 :: .blk g2 #[vI 0, vI 0, vQ 0, vN, vN, vN, vN, vN] 40 :: fs)) I
  replace I : Mem W _ (.row (.slice A186 ((z ++ [(⟨Ar, cr, R⟩ : Rw)]).length) c186) ((z ++ [(⟨Ar, cr, R⟩ : Rw)]).length) ((z ++ [(⟨Ar, cr, R⟩ : Rw)]).map Rw.val) 64 1 :: .row (.slice At T.length ct) T.length (T.flatMap tkL) 61 8 :: .blk g #[.slice (srcA NA nc (p.oS + p.so y x)) (p.nums.length - (p.oS + p.so y x)) (nc - (p.oS + p.so y x)), .bool (p.okR (p.okS y) y x)] 132 :: .row (.slice NA p.nums.length nc) p.nums.length (p.nums.map U64) 30 1 :: .row (.slice Au U.length cu) U.length (U.map I64i) 3 1 :: .row (.slice Al C.length cl) C.length (C.map I64i) 3 1 :: .row (.slice Ag G.length cg) G.length (G.flatMap grL) 110 2 :: .blk g3 #[vI (toI p.nx), vI p.cp, vQ p.cr, .slice Ag G.length cg, .slice Al C.length cl, .slice Au U.length cu, .slice At T.length ct, .slice A186 ((z ++ [(⟨Ar, cr, R⟩ : Rw)]).length) c186] 40 :: .blk g2 #[vI 0, vI 0, vQ 0, vN, vN, vN, vN, vN] 40 :: (fs ++ (rwF 63 (z ++ [(⟨Ar, cr, R⟩ : Rw)])))) := I
  refine Jb Z I ((JG∘JR∘JaK 1∘Jp 1∘Jd4∘Jq) fun a Z I => ?_)
  replace I := I.reBlk (i := 2) (ds := #[.slice (srcA NA nc (p.oS + p.so (y + 1) 0)) (p.nums.length - (p.oS + p.so (y + 1) 0)) (nc - (p.oS + p.so (y + 1) 0)), .bool (p.okS (y + 1))]) rfl (by rw [q6d, show x = p.cp by omega]; rfl)
  exact ⟨_, om, y + 1, (z ++ [(⟨Ar, cr, R⟩ : Rw)]), A186, c186, by omega, by rw [List.length_append, hzl]; rfl, by rw [List.map_append, hz, qa6, hR, show x = p.cp by omega]; rfl, fun q h => (List.mem_append.1 h).elim (hzc q) (fun h => by rw [List.mem_singleton] at h; subst h; exact hRc), hc186, rfl, Z.sub kr, I.pt 9 [0, 1, 2, 3, 4, 5, 6, 7, 8]⟩
 intro a Z I
 have hd153 := of_decide_eq_false hb153
 have e0 : y = p.gp := by omega
 have e1 : mapR p.gp p.grp = G := by rw [hG, show j = p.gp by omega]
 have e2 : p.cl.map toI = C := by rw [hC, show k = p.cp by omega]; exact (qod h.cl toI).symm
 have e3 : p.cu.map toI = U := by rw [hU, show u = p.cp by omega]; exact (qod h.cu toI).symm
 have e4 : mapR p.tk p.tsk = T := by rw [hT, show i = p.tk by omega]
 have e5 : (mapR p.gp fun g => (⟨none, 0, p.row g⟩ : Rw)).map Rw.l = z.map Rw.l := by rw [hz, e0]; exact q2j _ _ _
 refine Jb Z I ((JF∘JX∘JG∘JP∘Jy (v := .agg #[vI (toI p.nx), vI p.cp, vQ p.cr, .slice Ag G.length cg, .slice Al C.length cl, .slice Au U.length cu, .slice At T.length ct, .slice As z.length cs]) (h:=by exact Yl.loadS rfl rfl q8 rfl (fun _ h => qb (h.blk (i := 7) rfl)))∘JV q8 O8') fun w44_1 => (Jt1∘Jq) fun a Z I => ?_)
 replace I := I.reBlk (i := 2) (ds := #[.slice (srcA NA nc (p.oS + p.so p.gp 0)) (p.nums.length - (p.oS + p.so p.gp 0)) (nc - (p.oS + p.so p.gp 0)), .bool p.okB]) rfl (by rw [e0]; try rfl)
 refine Jb Z I ((JG∘JZ) fun a Z I => ?_)
 exact ret1 rfl Z (.cellS (i := 8) Z I rfl rfl q8 rfl) (⟨(⟨toI p.nx, ⟨(p.cp : Int), p.cr, Ag, cg, G, Al, cl, C, Au, cu, U, At, ct, T, As, cs, z⟩⟩ : Snm), _, _, _, rfl, sn_of rfl ⟨⟨rfl, rfl, e1⟩, e2, e3, e4, e5⟩, ⟨hGc, hCc, hUc, hTc, hcs, hzc⟩, Mem.q9h (I.pt 9 [2, 6, 5, 4, 1, 0])⟩)
theorem quu (A : Option Addr) (n c : Nat) (l : List Nat) (D : Option Addr) (k c2 : Nat) (m : List Nat) (w : World) (hr : Rd w w.heap.size 1 A n (l.map B8)) (hr2 : Rd w w.heap.size 1 D k (m.map B8)) (hl : ∀ z ∈ l, z < 256) (hm : ∀ z ∈ m, z < 256) :
    Calls Tryz.prog 59 #[.slice A n c, .slice D k c2] w (Is w (.bool (decide (l = m)))) := by
 refine (JN2 Tryz.func59 10) ?_
 exact (JP∘Jp 1∘Jr∘Jp 1∘Jy (h:=by exact Yl.str rfl rfl (fun _ h => h.old hr))∘Jp 1∘Jy (h:=by exact Yl.str rfl rfl (fun _ h => h.old hr2))∘Jp 1∘Jo (.bool (decide (l = m))) (by rw [q4g hl hm])∘Jp 1∘Jd5∘Jj∘JZ) JY1
theorem qok (A : Option Addr) (c : Nat) (l : List Nat) (B : Nat) (w : World) (hL : LaidX B w) (hB : B ≤ w.heap.size) (hr : Rd w w.heap.size 1 A l.length (l.map B8)) (hc : l.length ≤ c) (hn : l.length ≤ 100000000) (hl : ∀ z ∈ l, z < 256) :
    Calls Tryz.prog 27 #[.slice A l.length c] w (qr8 w (rdE l) (rdS l)) := by
 refine (JN1 Tryz.func27 37) ?_
 refine (JP∘JA #[vI 0, vI 0, vQ 0, vN, vN, vN, vN, vN]) fun w2 g2 => (Jp 1∘Jj∘JQ) fun a Z I => ?_
 rcases hop : opnR l with k | p
 ·
  have hke := qgq hop
  refine Jb Z I ((JR∘Jp 1∘JI (h:=by exact fun I => qp7 A c l B _ (hL.mem I hB) (I.le hB) (I.old hr) hc hn hl hop)) fun w10 hbw => (Jp 1∘Jx∘Jx∘Jp 2∘Jj∘JQ∘JP∘Jp 2∘Jd1∘Jj) (Ju (fun hb14 => ?_) fun hb14 => ?_))
  ·
   intro a Z I
   have hd14 := bne_iff_ne.1 hb14
   refine Jb Z I ((JT∘JP∘Jy (v := .agg #[vI 0, vI 0, vQ 0, vN, vN, vN, vN, vN]) (h:=by exact Yl.build (vs := []) rfl kr kr)∘Jp 1∘JV q8 O0') fun w3_2 => (Jp 1∘Jd2∘Jj∘JZ) fun a Z I => ?_)
   exact ret2 rfl Z (.cellS (i := 0) Z I rfl rfl q8 rfl) (.tmp Z rfl) (qe1 (rd_no hop) rfl (I.pk []))
  intro a Z I
  have hd14 := bne_eq_false_iff_eq.1 hb14
  exfalso; omega
 ·
  have hfit := (qy2 hl hop).2.2.1
  refine Jb Z I ((JR∘Jp 1∘JL (h:=by exact fun I => qp6 A c l B _ (hL.mem I hB) (I.le hB) (I.old hr) hc hn hl hop)) ?_)
  rintro I _ w10 ⟨g10, iv, av, NA, nc, SA, sc, rfl, hnc, hsc, hm⟩
  refine ⟨_, rfl, _, I.join hm, ?_⟩
  refine (Jp 1∘Jx∘Jx∘Jp 2∘Jj∘JQ∘JP∘Jv 2 [(14, .bool false)]∘Jj∘JF∘JS'∘JP∘Jp 1∘Jn∘Jg 2 O0∘Jy (v := .agg #[.slice NA p.nums.length nc, .bool true]) (h:=by exact Yl.build (vs := [(0, .slice NA p.nums.length nc), (1, .bool true)]) rfl kr kr)∘JE) fun w22 g22 => (Jp 1∘Jd5∘Jr∘Jp 1∘JL (h:=by exact fun I => qut _ _ g22 NA nc p hfit [.blk g2 #[vI 0, vI 0, vQ 0, vN, vN, vN, vN, vN] 40] (I.pk [0, 2, 4]) hnc)) ?_
  rintro I _ w24 ⟨z, SA2, n2, c2, rfl, hz, hcap, HM2⟩
  refine ⟨_, rfl, _, HM2, ?_⟩
  refine (JA #[vI 0, vI 0, vQ 0, vN, vN, vN, vN, vN]) fun w7 g7 => (JV q8 O0' (h1:=by exact qdt z)) fun w5_3 => (Jd2∘Jj∘JQ∘JP∘Jp 1∘Jn∘Jg 1 O1∘Jp 2) (Ju (fun hb30 => ?_) fun hb30 => ?_)
  ·
   refine (Jp 4∘Jd6∘Jj∘JT∘JP∘Jy (v := .agg #[vI 0, vI 0, vQ 0, vN, vN, vN, vN, vN]) (h:=by exact Yl.build (vs := []) rfl kr kr)∘JV q8 O2') fun w7_1 => (Jp 1∘Jd1∘Jj∘JZ) fun a Z I => ?_
   exact ret2 rfl Z (.cellS (i := 2) Z I rfl rfl q8 rfl) (.tmp Z rfl) (qe1 (qr7 hop (fun h => by rw [h.1] at hb30; cases hb30)) rfl (I.pk []))
  refine (Jy (v := .agg z.cells) (h:=by exact Yl.loadS rfl rfl q8 rfl (fun _ h => qb (h.blk (i := 0) rfl)))∘JI (h:=by exact fun I => qko z (q8u hz (q8q hfit)) (q71 (qwo hz) (q8r hfit _ (.inl rfl))) hcap _ (I.stX 3 rfl))) fun w32 hbw => (Jp 2∘Jd6∘Jj) (Jh (fun hd34 => ?_) fun hd34 => ?_)
  ·
   refine (JT∘JP∘Jy (v := .agg #[vI 0, vI 0, vQ 0, vN, vN, vN, vN, vN]) (h:=by exact Yl.build (vs := []) rfl kr kr)∘JV q8 O2') fun w7_1 => (Jp 1∘Jd1∘Jj∘JZ) fun a Z I => ?_
   exact ret2 rfl Z (.cellS (i := 2) Z I rfl rfl q8 rfl) (.tmp Z rfl) (qe1 (qr7 hop (fun h => by have h2 := h.2; rw [← qwp hz] at h2; omega)) rfl (I.pk []))
  refine (JF∘JS'∘JP∘Jy (v := .agg z.cells) (h:=by exact Yl.loadS rfl rfl q8 rfl (fun _ h => qb (h.blk (i := 0) rfl)))∘JV q8 O2' (h1:=by exact qdt z)) fun w8_1 => (Jp 1∘Jd1∘Jj∘JZ) fun a Z I => ?_
  exact ret2 rfl Z (.cellS (i := 2) Z I rfl rfl q8 rfl) (.tmp Z rfl) (qy4 (q8s hop ⟨by simpa using hb30, by rw [← qwp hz]; omega⟩) rfl hz hcap (I.subl (List.sublist_append_right ([.blk g7 z.cells 40, .blk g22 #[.slice SA2 n2 c2, .bool p.okB] 132, .blk g2 z.cells 40] : List Fact) _)))
theorem qg6 (A : Option Addr) (c : Nat) (l : List Nat) (B : Nat) (w : World) (hL : LaidX B w) (hB : B ≤ w.heap.size) (hr : Rd w w.heap.size 1 A l.length (l.map B8)) (hc : l.length ≤ c) (hn : l.length ≤ 100000000) (hl : ∀ z ∈ l, z < 256) {p : Pr} (h : opnR l = .ok p) : Calls Tryz.prog 29 #[.slice A l.length c] w (qif 69 w 0 p.secs) := by
 have := qdk A c l B w hL hB hr hc hn hl
 rwa [qey h, qry h] at this
theorem qg7 (A : Option Addr) (c : Nat) (l : List Nat) (B : Nat) (w : World) (hL : LaidX B w) (hB : B ≤ w.heap.size) (hr : Rd w w.heap.size 1 A l.length (l.map B8)) (hc : l.length ≤ c) (hn : l.length ≤ 100000000) (hl : ∀ z ∈ l, z < 256) {k : Nat} (h : opnR l = .error k) : Calls Tryz.prog 29 #[.slice A l.length c] w (qif 69 w k []) := by
 have := qdk A c l B w hL hB hr hc hn hl
 rwa [qdd h, ql2 h] at this
theorem qhl {w w' : World} {a b : List Nat} {k : Nat} {s : ByteArray} {r : Ending} (h : difE a b = k ∧ difN a b = s) (hr : r = .returned (.tuple #[.string s, vI k])) (hb : Below w.heap.size w w') : Is w (.tuple #[.string (difN a b), vI (difE a b : Int)]) r w' := by
 obtain ⟨h1, h2⟩ := h
 rw [h1, h2]
 exact ⟨hr, hb⟩
theorem qce (A : Option Addr) (c : Nat) (la : List Nat) (D : Option Addr) (d : Nat) (lb : List Nat) (B : Nat) (w : World) (hL : LaidX B w) (hB : B ≤ w.heap.size) (hr1 : Rd w w.heap.size 1 A la.length (la.map B8)) (hc1 : la.length ≤ c) (hn1 : la.length ≤ 100000000) (hl1 : ∀ z ∈ la, z < 256) (hr2 : Rd w w.heap.size 1 D lb.length (lb.map B8)) (hc2 : lb.length ≤ d) (hn2 : lb.length ≤ 100000000) (hl2 : ∀ z ∈ lb, z < 256) :
    Calls Tryz.prog 31 #[.slice A la.length c, .slice D lb.length d] w (Is w (.tuple #[.string (difN la lb), vI (difE la lb : Int)])) := by
 refine (JN2 Tryz.func31 63) ?_
 refine (JP∘Jp 2∘Jj∘JQ) fun a Z I => ?_
 rcases hoa : opnR la with k | p
 ·
  have hke := qgq hoa
  refine Jb Z I ((JR∘Jp 1∘JK (h:=by exact fun I => qg7 A c la B _ (hL.mem I hB) (I.le hB) (I.old hr1) hc1 hn1 hl1 hoa)) fun X12 c12 w12 hc12 => (Jp 1∘Jx∘Jx∘Jp 2∘Jj∘JQ∘JP∘Jp 2∘Jd1∘Jj) (Ju (fun hb16 => ?_) fun hb16 => ?_))
  ·
   intro a Z I
   have hd16 := bne_iff_ne.1 hb16
   exact Jb Z I ((JT∘JP∘Jp 3∘Jj∘JZ∘Jz2) fun I => qhl (q6g hoa) rfl I.below)
  intro a Z I
  have hd16 := bne_eq_false_iff_eq.1 hb16
  exfalso; omega
 ·
  have hsa := ql7 p
  refine Jb Z I ((JR∘Jp 1∘JK (h:=by exact fun I => qg6 A c la B _ (hL.mem I hB) (I.le hB) (I.old hr1) hc1 hn1 hl1 hoa)) fun X12 c12 w12 hc12 => (Jp 1∘Jx∘Jx∘Jp 2∘Jj∘JQ∘JP∘Jv 2 [(16, .bool false)]∘Jj∘JF∘JS'∘JQ) fun a Z I => ?_)
  rcases hob : opnR lb with k | q
  ·
   have hke := qgq hob
   refine Jb Z I ((JR∘Jp 1∘JK (h:=by exact fun I => qg7 D d lb B _ (hL.mem I hB) (I.le hB) (I.old hr2) hc2 hn2 hl2 hob)) fun X20 c20 w20 hc20 => (Jp 1∘Jx∘Jx∘Jp 2∘Jj∘JQ∘JP∘Jp 2∘Jd1∘Jj) (Ju (fun hb24 => ?_) fun hb24 => ?_))
   ·
    intro a Z I
    have hd24 := bne_iff_ne.1 hb24
    exact Jb Z I ((JT∘JP∘Jp 3∘Jj∘JZ∘Jz2) fun I => qhl (q6h hoa hob) rfl I.below)
   intro a Z I
   have hd24 := bne_eq_false_iff_eq.1 hb24
   exfalso; omega
  ·
   have hsb := ql7 q
   refine Jb Z I ((JR∘Jp 1∘JK (h:=by exact fun I => qg6 D d lb B _ (hL.mem I hB) (I.le hB) (I.old hr2) hc2 hn2 hl2 hob)) fun X20 c20 w20 hc20 => (Jp 1∘Jx∘Jx∘Jp 2∘Jj∘JQ∘JP∘Jv 2 [(24, .bool false)]∘Jj∘JF∘JS'∘JQ∘JP∘Jp 1∘Jl∘Jp 1∘Jj∘JB) fun a Z I => ?_)
   refine qe (fun mS aS wS => ∃ (i : Nat), (i ≤ 9) ∧ (difE la lb = 0 ∧ difN la lb = difF la lb p.secs q.secs (9 - i) i) ∧ mS = 9 - i ∧ Fr aS 63 [] [(28, vI i), (27, vI p.secs.length), (24, .bool false), (7, vI 0), (8, .slice X20 q.secs.length c20), (16, .bool false), (6, .slice X12 p.secs.length c12), (5, vI 0), (4, .string (ByteArray.mk #[])), (0, .slice A la.length c), (1, .slice D lb.length d)] ∧ Mem w wS [.row (.slice X20 q.secs.length c20) q.secs.length (q.secs.flatMap secL) 69 3, .row (.slice X12 p.secs.length c12) p.secs.length (p.secs.flatMap secL) 69 3]) (m := 9 - 0) ⟨0, Nat.zero_le _, q8t hoa hob, rfl, Z.sub kr, I.pk [0, 1]⟩ ?_
   clear Z I; rintro mS a w_ ⟨i, hi, hd, rfl, Z, I⟩
   refine Jb Z I ((JP∘Jp 1∘Jj∘JQ) (Ju (fun hb29 => ?_) fun hb29 => ?_))
   ·
    intro a Z I
    have hd29 := of_decide_eq_true hb29
    have ha1 := q3y hl1 hoa (i := i) om
    have hb1 := q3y hl2 hob (i := i) om
    refine Jb Z I ((JT∘JS'∘JQ∘JB∘JP∘Jp 2∘Jd1∘Jj) fun a Z I => ?_)
    refine wp_seq ?_
    refine Jb Z I ((Vs .n []) fun wd10 => (Vp [0, 1, 2, 6, 7, 12, 13, 14, 18, 19]) ?_)
    repeat (first | clear Z | clear I | clear HS)
    intro a Z I HS
    obtain ⟨gX12, rfl⟩ := qm (I.own (i := 1) rfl) (Nat.lt_of_le_of_lt (Nat.zero_le _) (show i < p.secs.length from by omega))
    refine Vb Z I HS ((Vy 3 (h:=by exact Yl.ix0 gX12 i 3 rfl rfl rfl)∘Vf 4 1∘Vy 5 (v := vI ((p.secs.getD i Sec.zero).fr)) (h:=by exact Yl.qr rfl rfl kr (fun _ h => h.qw qd9 (i := 1) rfl (k := i) (off := 1) (x := (p.secs.getD i Sec.zero)) ((getD_at Sec.zero (k := i) (by first | omega | (simp; omega)))) rfl))∘Vy 8 (h:=by exact Yl.ix0 gX12 i 3 rfl rfl rfl)∘Vf 9 2∘Vy 10 (v := vI ((p.secs.getD i Sec.zero).to)) (h:=by exact Yl.qr rfl rfl kr (fun _ h => h.qw qd9 (i := 1) rfl (k := i) (off := 2) (x := (p.secs.getD i Sec.zero)) ((getD_at Sec.zero (k := i) (by first | omega | (simp; omega)))) rfl))∘Vy 11 (v := .slice (if c = (p.secs.getD i Sec.zero).fr then A else A.map (·.add (((p.secs.getD i Sec.zero).fr) * 1))) (((p.secs.getD i Sec.zero).to) - ((p.secs.getD i Sec.zero).fr)) (c - ((p.secs.getD i Sec.zero).fr))) (h:=by exact Yl.qzp ei_u8 (i := (p.secs.getD i Sec.zero).fr) (j := (p.secs.getD i Sec.zero).to) rfl rfl rfl rfl om om)) ?_)
    repeat (first | clear Z | clear I | clear HS)
    intro a Z I HS
    obtain ⟨gX20, rfl⟩ := qm (I.own (i := 0) rfl) (Nat.lt_of_le_of_lt (Nat.zero_le _) (show i < q.secs.length from by omega))
    refine Vb Z I HS ((Vy 15 (h:=by exact Yl.ix0 gX20 i 3 rfl rfl rfl)∘Vf 16 1∘Vy 17 (v := vI ((q.secs.getD i Sec.zero).fr)) (h:=by exact Yl.qr rfl rfl kr (fun _ h => h.qw qd9 (i := 0) rfl (k := i) (off := 1) (x := (q.secs.getD i Sec.zero)) ((getD_at Sec.zero (k := i) (by first | omega | (simp; omega)))) rfl))∘Vy 20 (h:=by exact Yl.ix0 gX20 i 3 rfl rfl rfl)∘Vf 21 2∘Vy 22 (v := vI ((q.secs.getD i Sec.zero).to)) (h:=by exact Yl.qr rfl rfl kr (fun _ h => h.qw qd9 (i := 0) rfl (k := i) (off := 2) (x := (q.secs.getD i Sec.zero)) ((getD_at Sec.zero (k := i) (by first | omega | (simp; omega)))) rfl))∘Vy 23 (v := .slice (if d = (q.secs.getD i Sec.zero).fr then D else D.map (·.add (((q.secs.getD i Sec.zero).fr) * 1))) (((q.secs.getD i Sec.zero).to) - ((q.secs.getD i Sec.zero).fr)) (d - ((q.secs.getD i Sec.zero).fr))) (h:=by exact Yl.qzp ei_u8 (i := (q.secs.getD i Sec.zero).fr) (j := (q.secs.getD i Sec.zero).to) rfl rfl rfl rfl om om)∘VI 24 .n (h:=by exact fun I => quu _ _ _ (cutB la (p.secs.getD i Sec.zero)) _ _ _ (cutB lb (q.secs.getD i Sec.zero)) _ (q30 (I.old hr1) ha1 hc1) (q30 (I.old hr2) hb1 hc2) (q3z hl1 _) (q3z hl2 _))) fun w55 hbw => (Vp [25]∘Vd∘Jd6) (Ju (fun hb56 => ?_) fun hb56 => ?_))
    ·
     intro a Z I
     have hd56 := of_decide_eq_false ((Bool.not_eq_true' _).mp hb56)
     exact Jb Z I ((JT∘JP∘Jp 2∘Jy (h:=by exact Yl.ix0 gX12 i 3 rfl rfl rfl)∘Jf 0∘Jy (v := .string (p.secs.getD i Sec.zero).nm) (h:=by exact Yl.qr rfl rfl kr (fun _ h => (by have := h.qw qd9 (i := 1) rfl (k := i) (off := 0) (x := (p.secs.getD i Sec.zero)) ((getD_at Sec.zero (k := i) (by first | omega | (simp; omega)))) rfl; simpa using this)))∘Jp 2∘Jj∘JZ∘Jz2) fun I => by exact qhl ⟨hd.1, hd.2.trans (q2p om (of_decide_eq_false (by simpa using hb56)))⟩ rfl I.below)
    intro a Z I
    have hd56 := of_decide_eq_true ((Bool.not_eq_false' _).mp hb56)
    refine Jb Z I ((JF∘JS'∘JR∘JaK 1∘Jp 1∘Jd1∘Jq) fun a Z I => ?_)
    exact ⟨_, om, i + 1, by omega, ⟨hd.1, hd.2.trans (q2o om (of_decide_eq_true (by simpa using hb56)))⟩, rfl, Z.sub kr, I.pk [0, 1]⟩
   intro a Z I
   have hd29 := of_decide_eq_false hb29
   exact Jb Z I ((JF∘JX∘JG∘JP∘Jp 2∘Jj∘JZ∘Jz2) fun I => by exact qhl ⟨hd.1, hd.2.trans (q6i om)⟩ rfl I.below)
section
variable {W w : World} {fs A B l m : List Fact} {x : Stm}
end
theorem q2z (s : ByteArray) : (!(s.toList == s.toList)) = false := by simp
def chX (i v : Nat) : List Nat := sealL (byA.set i v)
def fstX : List Nat := sealL byA
def moreX : List Nat := sealL (byA ++ [0])
def badX : List Nat := fstX.set 12 ((fstX.getD 12 0 + 1) % 256)
theorem qao : fstX.length = 15 := by kernel_rfl
theorem qc4 (i v : Nat) : (chX i v).length = 15 := by unfold chX; rw [zj, List.length_set]; rfl
theorem qsg : moreX.length = 16 := by unfold moreX; rw [zj]; rfl
theorem qsh : ∀ z ∈ byA, z < 256 := by decide
theorem qol : ∀ z ∈ fstX, z < 256 := qch qsh
theorem qzb {l : List Nat} {i v : Nat} (hl : ∀ z ∈ l, z < 256) (hv : v < 256) : ∀ z ∈ l.set i v, z < 256 := by
 intro z hz
 rcases List.mem_or_eq_of_mem_set hz with h | h
 ·exact hl z h
 ·omega
theorem ch_lt {i v : Nat} (hv : v < 256) : ∀ z ∈ chX i v, z < 256 := qch (qzb qsh hv)
theorem q6n : ∀ z ∈ moreX, z < 256 := qch de
theorem q8w : ∀ z ∈ badX, z < 256 := qzb qol (Nat.mod_lt _ de)
theorem q6o : badX.length = 15 := by unfold badX; rw [List.length_set]; exact qao
theorem x_ok : rdE fstX = 0 := by kernel_rfl
theorem q8x : (rdS fstX).next = 1 := by kernel_rfl
theorem q8y : (rdS fstX).st.cpus = 1 := by kernel_rfl
theorem x_cl : (rdS fstX).st.cl.length = 1 := by kernel_rfl
theorem x_err : errR fstX = 0 := by kernel_rfl
theorem q8z : (pnums fstX).length = 8 := by kernel_rfl
theorem q80 : difE fstX (chX 3 2) = 0 := by kernel_rfl
theorem q81 : difN fstX (chX 3 2) = ⟨#[110, 101, 120, 116]⟩ := by kernel_rfl
theorem q6p : rdE (fstX.take 14) = 340 := by kernel_rfl
theorem x_sum : rdE badX = 341 := by kernel_rfl
theorem x1 : rdE (chX 0 112) = 342 := by kernel_rfl
theorem x2 : rdE (chX 2 2) = 343 := by kernel_rfl
theorem x3 : rdE (chX 4 0) = 345 := by kernel_rfl
theorem x4 : rdE (chX 4 65) = 345 := by kernel_rfl
theorem x5 : rdE (chX 6 0) = 345 := by kernel_rfl
theorem x6 : rdE (chX 9 1) = 344 := by kernel_rfl
theorem x7 : rdE moreX = 346 := by kernel_rfl
theorem x8 : rdE (chX 3 0) = 347 := by kernel_rfl
theorem x9 : rdE (chX 8 5) = 347 := by kernel_rfl
theorem q6q {i v : Nat} (hi : i < 11) : ((fstX.set i v).take 11) = byA.set i v := by
 unfold fstX sealL
 rw [List.set_append_left _ _ (show i < byA.length from hi), List.take_append_of_le_length (by rw [List.length_set]; exact Nat.le_refl 11), List.take_of_length_le (by rw [List.length_set]; exact Nat.le_refl 11)]
theorem q20 : fstX.take 11 = byA := by
 unfold fstX sealL
 rw [List.take_append_of_le_length (Nat.le_refl 11)]
 rfl
structure Xb where
 A : Option Addr
 n : Nat
 c : Nat
 l : List Nat
 e : Nat
def Xb.zero : Xb := ⟨none, 0, 0, [], 0⟩
def xbL (x : Xb) : List Value := [.slice x.A x.n x.c, .int .i64 (x.e : Int)]
def Xb.cells (x : Xb) : Array Value := #[.slice x.A x.n x.c, .int .i64 (x.e : Int)]
theorem q6r (x : Xb) : (xbL x).length = 2 := rfl
theorem q82 (x : Xb) : ∀ v ∈ x.cells.toList, v.oneCell' = true := by simp [Xb.cells, Value.oneCell']
def Xb.own (x : Xb) : Own := ⟨x.A, x.n, x.c, x.l.map B8⟩
def xbF (t : TypeId) (q : List Xb) : List Fact := ownsF t 1 (q.map Xb.own)
def Xb.Ok (x : Xb) : Prop := x.l.length = x.n ∧ x.n ≤ x.c ∧ x.n ≤ 100 ∧ (∀ z ∈ x.l, z < 256) ∧ rdE x.l = x.e
theorem q6s {t : TypeId} {q : List Xb} {x : Xb} (hq : x ∈ q) : Fact.row (.slice x.A x.n x.c) x.n (x.l.map B8) t 1 ∈ xbF t q := List.mem_map_of_mem (List.mem_map_of_mem hq)
theorem Mem.xbAt {W w : World} {fs : List Fact} {t : TypeId} {q : List Xb} (n : Nat) (h : Mem W w fs) (he : fs.drop n = xbF t q) {x : Xb} (hx : x ∈ q) : Rd w w.heap.size 1 x.A x.n (x.l.map B8) :=
 h.rdMem (List.mem_of_mem_drop (he ▸ q6s hx))
theorem si_xb : SI Tryz.prog 122 2 := ⟨by kernel_rfl, by kernel_rfl⟩
theorem ei_xb : EI Tryz.prog 124 122 (.agg Xb.zero.cells) 2 32 := ⟨by kernel_rfl, by kernel_rfl, rfl, by omega⟩
theorem q23 (A : Option Addr) (c : Nat) (w : World) (hr : Rd w w.heap.size 1 A 11 (byA.map B8)) : Calls Tryz.prog 56 #[.slice A 11 c] w (fun r w' => (∃ A c, r = .returned (.slice A 15 c) ∧ w'.ownsRow w.heap.size 5 1 (.slice A 15 c) 15 (fstX.map B8) ∧ 15 ≤ c) ∧ Below w.heap.size w w') := by
 have h := qgs A 11 c byA w hr rfl de qsh
 unfold qb8 at h
 rwa [show (sealL byA).length = 15 from qao] at h
theorem q6x (i v : Nat) (hv : v < 256) (A : Option Addr) (c : Nat) (w : World) (hr : Rd w w.heap.size 1 A 11 ((byA.set i v).map B8)) : Calls Tryz.prog 56 #[.slice A 11 c] w (fun r w' => (∃ A c, r = .returned (.slice A 15 c) ∧ w'.ownsRow w.heap.size 5 1 (.slice A 15 c) 15 ((chX i v).map B8) ∧ 15 ≤ c) ∧ Below w.heap.size w w') := by
 have h := qgs A 11 c (byA.set i v) w hr (by rw [List.length_set]; rfl) de (qzb qsh hv)
 unfold qb8 at h
 rwa [show (sealL (byA.set i v)).length = 15 from qc4 i v] at h
theorem qzm (A : Option Addr) (c : Nat) (w : World) (hr : Rd w w.heap.size 1 A 12 ((byA ++ [0]).map B8)) : Calls Tryz.prog 56 #[.slice A 12 c] w (fun r w' => (∃ A c, r = .returned (.slice A 16 c) ∧ w'.ownsRow w.heap.size 5 1 (.slice A 16 c) 16 (moreX.map B8) ∧ 16 ≤ c) ∧ Below w.heap.size w w') := by
 have h := qgs A 12 c (byA ++ [0]) w hr rfl de de
 unfold qb8 at h
 rwa [show (sealL (byA ++ [0])).length = 16 from qsg] at h
theorem qmb (A : Option Addr) (n c : Nat) (l : List Nat) (B : Nat) (w : World) (hL : LaidX B w) (hB : B ≤ w.heap.size) (hr : Rd w w.heap.size 1 A n (l.map B8)) (hc : n ≤ c) (hln : l.length = n) (hn : n ≤ 100000000) (hl : ∀ z ∈ l, z < 256) {e : Nat} (h : rdE l = e) : Calls Tryz.prog 27 #[.slice A n c] w (qr8 w e (rdS l)) := by
 subst hln; subst h
 exact qok A c l B w hL hB hr hc hn hl
theorem numsX (A : Option Addr) (c : Nat) (B : Nat) (w : World) (hL : LaidX B w) (hB : B ≤ w.heap.size) (hr : Rd w w.heap.size 1 A 15 (fstX.map B8)) (hc : 15 ≤ c) : Calls Tryz.prog 28 #[.slice A 15 c] w (fun r w' => (∃ A c, r = .returned (.tuple #[.slice A 8 c, .int .i64 0])) ∧ Below w.heap.size w w') := by
 rw [← qao] at hr hc ⊢
 refine (qg5 A c fstX B w hL hB hr hc (by rw [qao]; decide) qol).mono fun r w' h => ?_
 obtain ⟨⟨A2, c2, h1, _, _⟩, h2⟩ := h
 rw [x_err, q8z] at h1
 exact ⟨⟨A2, c2, h1⟩, h2⟩
theorem difX (A : Option Addr) (c : Nat) (D : Option Addr) (d : Nat) (B : Nat) (w : World) (hL : LaidX B w) (hB : B ≤ w.heap.size) (hr : Rd w w.heap.size 1 A 15 (fstX.map B8)) (hc : 15 ≤ c) (hr2 : Rd w w.heap.size 1 D 15 ((chX 3 2).map B8)) (hd : 15 ≤ d) : Calls Tryz.prog 31 #[.slice A 15 c, .slice D 15 d] w (Is w (.tuple #[.string ⟨#[110, 101, 120, 116]⟩, .int .i64 0])) := by
 have h := qce A c fstX D d (chX 3 2) B w hL hB (by rw [qao]; exact hr) (by rw [qao]; exact hc) (by rw [qao]; decide) qol (by rw [qc4]; exact hr2) (by rw [qc4]; exact hd) (by rw [qc4]; decide) (ch_lt de)
 rw [q80, q81, qao, qc4] at h
 exact h
theorem qgt (w : World) :
    Calls Tryz.prog 54 #[] w (fun r w' => (∃ A c, r = .returned (.slice A 15 c) ∧ w'.ownsRow w.heap.size 5 1 (.slice A 15 c) 15 (fstX.map B8) ∧ 15 ≤ c) ∧ Below w.heap.size w w') := by
 refine (JN0 Tryz.func54 4) ?_
 refine (JP∘Jp 1∘Jr∘JU ei_u8 #[vB 113, vB 115, vB 1, vB 1, vB 1, vB 0, vB 1, vB 0, vB 0, vB 0, vB 0]) fun w1 g1 => fun a Z I => ?_
 refine fo Z 1 rfl rfl ?_
 refine q3h Z I 0 (e := 5) rfl rfl rfl kr kr rfl de ?_
 clear Z I; intro a w2 Z I
 exact Jb Z I ((JK (h:=by exact fun I => q23 (some ⟨g1, 0, none⟩) 11 _ (I.rdMark (i := 0) (size := 1) (n := 11) rfl rfl))) fun A3 c3 w3 hc3 => (Jp 1∘Jd3∘Jj∘JZ∘Jz1) fun I => by exact ⟨⟨_, _, rfl, I.own (i := 0) rfl, hc3⟩, I.below⟩)
theorem zr (i v : Nat) (hi : i < 11) (hv : v < 256) (w : World) :
    Calls Tryz.prog 55 #[.int .i64 (i : Int), .int .u8 (v : Int)] w (fun r w' => (∃ A c, r = .returned (.slice A 15 c) ∧ w'.ownsRow w.heap.size 5 1 (.slice A 15 c) 15 ((chX i v).map B8) ∧ 15 ≤ c) ∧ Below w.heap.size w w') := by
 refine (JN2 Tryz.func55 17) ?_
 refine (JP∘Jp 1∘Jr∘JK (h:=by exact fun I => qgt _)) fun A6 c6 w6 hc6 => (Jp 1∘Jd1∘Jq) ?_
 repeat (first | clear Z | clear I)
 intro a Z I
 obtain ⟨gA6, rfl⟩ := qm (I.own (i := 0) rfl) (Nat.lt_of_le_of_lt (Nat.zero_le _) (show i < 15 from (by omega : i < 15)))
 refine Jb Z I ((JG∘JP∘Jp 3∘Jy (h:=by exact Yl.ix0 gA6 i 1 rfl rfl rfl)) fun a Z I => ?_)
 refine fo Z 4 rfl rfl ?_
 refine qx Z I (i := 0) rfl rfl rfl rfl kr rfl rfl (by rw [List.length_map, qao]; omega) ?_
 clear I; intro w2_4 I
 replace I := I.asRow (i := 0) (ys := (fstX.set i v).map B8) rfl (zt B8 fstX i v (by rw [qao]; omega))
 exact Jb Z I ((Jt4∘Jr∘Jp 2∘Jl∘Jv 1 [(14, vI 11)]∘Jy (h:=by exact Yl.qab ei_u8 (j := 11) rfl rfl rfl om)∘JK (h:=by exact fun I => q6x i v hv (some ⟨gA6, 0, none⟩) c6 _ (by have h1 := (I.rd (i := 0) rfl).toB8 (k := 11) om; rw [q6q hi] at h1; exact h1))) fun A16 c16 w16 hc16 => (Jp 1∘Jd6∘Jj∘JZ∘Jz1) fun I => by exact ⟨⟨_, _, rfl, I.own (i := 0) rfl, hc16⟩, I.below⟩)
theorem qqe (B : Nat) (w : World) (hL : LaidX B w) (hB : B ≤ w.heap.size) :
    Calls Tryz.prog 26 #[] w (Is w (.bool true)) := by
 refine (JN0 Tryz.func26 130) ?_
 refine (JP∘Jp 1∘Jr∘JK (h:=by exact fun I => qgt _)) fun A16 c16 w16 hc16 => (Jp 1∘Jd1∘Jq) ?_
 repeat (first | clear Z | clear I)
 intro a Z I
 obtain ⟨gA16, rfl⟩ := qm (I.own (i := 0) rfl) (Nat.lt_of_le_of_lt (Nat.zero_le _) (show 12 < 15 from (by omega : 12 < 15)))
 refine Jb Z I ((JG∘JP∘Jp 1∘JL (h:=by exact fun I => qmb (some ⟨gA16, 0, none⟩) 15 c16 fstX B _ (hL.mem I hB) (I.le hB) (I.rd (i := 0) rfl) hc16 qao de qol x_ok)) ?_)
 rintro I _ w19 ⟨z19, rfl, hz19, _, hm⟩
 refine ⟨_, rfl, _, I.call hm.below, ?_⟩
 refine (Jp 1∘Jx∘Jx∘JA #[vI 0, vI 0, vQ 0, .slice none 0 0, .slice none 0 0, .slice none 0 0, .slice none 0 0, .slice none 0 0]) fun w2 g2 => (JV q8 O0' (h1:=by exact qdt z19)) fun w2_6 => (Jp 1∘Jr∘Jp 1∘JL (h:=by exact fun I => numsX (some ⟨gA16, 0, none⟩) c16 B _ (hL.mem I hB) (I.le hB) (I.rd (i := 1) rfl) hc16)) ?_
 rintro I _ w24 ⟨⟨AN, cN, rfl⟩, hbw⟩
 refine ⟨_, rfl, _, I.call hbw, ?_⟩
 refine (Jp 1∘Jx∘Jx∘Jp 2∘Jr∘Jp 1∘JK (h:=by exact fun I => zr 3 2 de de _)) fun A29 c29 w29 hc29 => (JI (h:=by exact fun I => difX (some ⟨gA16, 0, none⟩) c16 A29 c29 B _ (hL.mem I hB) (I.le hB) (I.rd (i := 2) rfl) hc16 (I.rd (i := 0) rfl) hc29)) fun w30 hbw => (Jp 1∘Jx∘Jx∘Jp 2∘Jr∘Jp 1∘Jy (h:=by exact Yl.qab ei_u8 (j := 14) rfl rfl rfl om)∘JL (h:=by exact fun I => qmb (some ⟨gA16, 0, none⟩) 14 c16 (fstX.take 14) B _ (hL.mem I hB) (I.le hB) ((I.rd (i := 2) rfl).toB8 (k := 14) de) om (by rw [List.length_take, qao]; rfl) de (qk2 qol _) q6p)) ?_
 rintro I _ w36 ⟨z36, rfl, hz36, _, hm⟩
 refine ⟨_, rfl, _, I.call hm.below, ?_⟩
 refine (Jp 1∘Jx∘Jx∘JA #[vI 0, vI 0, vQ 0, .slice none 0 0, .slice none 0 0, .slice none 0 0, .slice none 0 0, .slice none 0 0]) fun w8 g8 => (JV q8 O0' (h1:=by exact qdt z36)) fun w5_7 => (Jp 1∘Jd6∘Jr∘Jp 1∘Jy (v := vP gA16 12) (h:=by exact Yl.indexAddr (ad := ⟨gA16, 0, none⟩) (y := 12) (sz := 1) rfl rfl rfl om kr)∘Jy (h:=by exact Yl.r1 3 12 0 (by rw [qao]; decide) rfl rfl rfl)∘Jp 1∘Jo (vB ((fstX.getD 12 0 + 1) % 256 : Nat)) (by exact qek _)∘Jy (v := vP gA16 12) (h:=by exact Yl.indexAddr (ad := ⟨gA16, 0, none⟩) (y := 12) (sz := 1) rfl rfl rfl om kr)) fun a Z I => ?_
 refine fo Z 5 rfl rfl ?_
 refine qx Z I (i := 3) rfl rfl rfl rfl kr rfl rfl (by rw [List.length_map, qao]; decide) ?_
 clear I; intro w6_5 I
 replace I := I.asRow (i := 3) (ys := badX.map B8) rfl (zt B8 fstX 12 ((fstX.getD 12 0 + 1) % 256) (by rw [qao]; decide))
 refine Jb Z I ((Jt5∘Jr∘Jp 1∘JL (h:=by exact fun I => qmb (some ⟨gA16, 0, none⟩) 15 c16 badX B _ (hL.mem I hB) (I.le hB) (I.rd (i := 3) rfl) hc16 q6o de q8w x_sum)) ?_)
 rintro I _ w46 ⟨z46, rfl, hz46, _, hm⟩
 refine ⟨_, rfl, _, I.call hm.below, ?_⟩
 refine (Jp 1∘Jx∘Jx∘JA #[vI 0, vI 0, vQ 0, .slice none 0 0, .slice none 0 0, .slice none 0 0, .slice none 0 0, .slice none 0 0]) fun w10 g10 => (JV q8 O0' (h1:=by exact qdt z46)) fun w7_6 => (Jp 1∘Jd6∘Jj∘JQ∘JP∘Jv 7 [(55, .bool false)]∘Jf 0∘Jc O3∘Jo (vI 1) (by rw [← hz19.1, q8x])∘Jv 3 [(60, .bool false)]∘Jf 1∘Jf 0∘Jf 0∘Jc O3∘Jo (vI 1) (by rw [← hz19.2.1, q8y])∘Jv 3 [(67, .bool false)]∘Jf 1∘Jg 3 O3∘Jl∘Jo (vI 1) (by rw [← hz19.2.2.2.2.1, x_cl]; try rfl)∘Jv 4 [(75, .slice AN 8 cN), (74, .bool false)]∘Jl∘Jv 5 [(81, .bool (!(((ByteArray.mk #[110, 101, 120, 116])).toList == ((ByteArray.mk #[110, 101, 120, 116])).toList))), (79, .bool false)]∘Jo (.bool false) (by exact congrArg Value.bool (q2z _))∘Jv 9 [(90, .bool false)]∘Jd6∘Jj∘JF∘JS'∘JQ∘JP∘JK (h:=by exact fun I => zr 0 112 de de _)) fun A91 c91 w91 hc91 => (Jy (v := .agg #[.slice A91 15 c91, vI 342]) (h:=by exact Yl.build (vs := [(0, .slice A91 15 c91), (1, vI 342)]) rfl kr kr)∘JK (h:=by exact fun I => zr 2 2 de de _)) fun A93 c93 w93 hc93 => (Jy (v := .agg #[.slice A93 15 c93, vI 343]) (h:=by exact Yl.build (vs := [(0, .slice A93 15 c93), (1, vI 343)]) rfl kr kr)∘JK (h:=by exact fun I => zr 4 0 de de _)) fun A95 c95 w95 hc95 => (Jy (v := .agg #[.slice A95 15 c95, vI 345]) (h:=by exact Yl.build (vs := [(0, .slice A95 15 c95), (1, vI 345)]) rfl kr kr)∘JK (h:=by exact fun I => zr 4 65 de de _)) fun A97 c97 w97 hc97 => (Jy (v := .agg #[.slice A97 15 c97, vI 345]) (h:=by exact Yl.build (vs := [(0, .slice A97 15 c97), (1, vI 345)]) rfl kr kr)∘JK (h:=by exact fun I => zr 6 0 de de _)) fun A99 c99 w99 hc99 => (Jy (v := .agg #[.slice A99 15 c99, vI 345]) (h:=by exact Yl.build (vs := [(0, .slice A99 15 c99), (1, vI 345)]) rfl kr kr)∘JK (h:=by exact fun I => zr 9 1 de de _)) fun A101 c101 w101 hc101 => (Jy (v := .agg #[.slice A101 15 c101, vI 344]) (h:=by exact Yl.build (vs := [(0, .slice A101 15 c101), (1, vI 344)]) rfl kr kr)∘JK (h:=by exact fun I => qgt _)) fun A103 c103 w103 hc103 => ?_
 repeat (first | clear Z | clear I)
 intro a Z I
 obtain ⟨gA103, rfl⟩ := qm (I.own (i := 0) rfl) (Nat.lt_of_le_of_lt (Nat.zero_le _) (show 0 < 15 from (by omega : 0 < 15)))
 refine Jb Z I ((Jy (v := vS gA103 11 11) (h:=by exact Yl.q69 ei_u8 (j := 11) (q := 11) rfl rfl rfl rfl om om)∘JU ei_u8 #[vB 0]) fun w105 g105 => fun a Z I => ?_)
 refine fo Z 15 rfl rfl ?_
 refine qff Z I (xs := byA.map B8) (news := [0].map B8) rfl ei_u8 rfl rfl ((by have h1 := (I.rd (i := 1) rfl).toB8 (k := 11) de; rw [q20] at h1; exact h1)) (I.rdBlk (i := 0) (size := 1) (n := 1) rfl rfl) om om (fun h => by cases h) om om rfl de ?_
 clear Z I; intro a w106 g106 c106 Z I hc106
 replace I := I.asRow (i := 0) (ys := (byA ++ [0]).map B8) rfl (rfl)
 refine Jb Z I ((JK (h:=by exact fun I => qzm (some ⟨g106, 0, none⟩) c106 _ (I.rd (i := 0) rfl))) fun A107 c107 w107 hc107 => (Jy (v := .agg #[.slice A107 16 c107, vI 346]) (h:=by exact Yl.build (vs := [(0, .slice A107 16 c107), (1, vI 346)]) rfl kr kr)∘JK (h:=by exact fun I => zr 3 0 de de _)) fun A109 c109 w109 hc109 => (Jy (v := .agg #[.slice A109 15 c109, vI 347]) (h:=by exact Yl.build (vs := [(0, .slice A109 15 c109), (1, vI 347)]) rfl kr kr)∘JK (h:=by exact fun I => zr 8 5 de de _)) fun A111 c111 w111 hc111 => (Jy (v := .agg #[.slice A111 15 c111, vI 347]) (h:=by exact Yl.build (vs := [(0, .slice A111 15 c111), (1, vI 347)]) rfl kr kr)∘JU ei_xb #[.slice A91 15 c91, vI 342, .slice A93 15 c93, vI 343, .slice A95 15 c95, vI 345, .slice A97 15 c97, vI 345, .slice A99 15 c99, vI 345, .slice A101 15 c101, vI 344, .slice A107 16 c107, vI 346, .slice A109 15 c109, vI 347, .slice A111 15 c111, vI 347]) fun w113 g113 => (Jl∘Jp 1∘Jq) fun a Z I => ?_)
 replace Z := Z.to [(115, vI 0), (114, vI 9), (113, vS g113 9 9), (90, .bool false), (2, vP g2 0), (1, vS gA16 15 c16), (0, .bool false)]
 replace I := (I.blkRow (i := 0) (n := 9) (size := 2) rfl rfl de).asRow (i := 0) (ys := ([⟨A91, 15, c91, chX 0 112, 342⟩, ⟨A93, 15, c93, chX 2 2, 343⟩, ⟨A95, 15, c95, chX 4 0, 345⟩, ⟨A97, 15, c97, chX 4 65, 345⟩, ⟨A99, 15, c99, chX 6 0, 345⟩, ⟨A101, 15, c101, chX 9 1, 344⟩, ⟨A107, 16, c107, moreX, 346⟩, ⟨A109, 15, c109, chX 3 0, 347⟩, ⟨A111, 15, c111, chX 8 5, 347⟩] : List Xb).flatMap xbL) rfl (rfl)
 replace I := I.pk [0, 12, 11, 10, 9, 8, 7, 3, 2, 1]
 have hok : ∀ x ∈ ([⟨A91, 15, c91, chX 0 112, 342⟩, ⟨A93, 15, c93, chX 2 2, 343⟩, ⟨A95, 15, c95, chX 4 0, 345⟩, ⟨A97, 15, c97, chX 4 65, 345⟩, ⟨A99, 15, c99, chX 6 0, 345⟩, ⟨A101, 15, c101, chX 9 1, 344⟩, ⟨A107, 16, c107, moreX, 346⟩, ⟨A109, 15, c109, chX 3 0, 347⟩, ⟨A111, 15, c111, chX 8 5, 347⟩] : List Xb), x.Ok := by
   intro x hx; simp only [List.mem_cons, List.not_mem_nil, or_false] at hx
   rcases hx with rfl | rfl | rfl | rfl | rfl | rfl | rfl | rfl | rfl
   · exact ⟨qc4 _ _, hc91, (by show 15 ≤ 100; decide), ch_lt de, x1⟩
   · exact ⟨qc4 _ _, hc93, (by show 15 ≤ 100; decide), ch_lt de, x2⟩
   · exact ⟨qc4 _ _, hc95, (by show 15 ≤ 100; decide), ch_lt de, x3⟩
   · exact ⟨qc4 _ _, hc97, (by show 15 ≤ 100; decide), ch_lt de, x4⟩
   · exact ⟨qc4 _ _, hc99, (by show 15 ≤ 100; decide), ch_lt de, x5⟩
   · exact ⟨qc4 _ _, hc101, (by show 15 ≤ 100; decide), ch_lt de, x6⟩
   · exact ⟨qsg, hc107, (by show 16 ≤ 100; decide), q6n, x7⟩
   · exact ⟨qc4 _ _, hc109, (by show 15 ≤ 100; decide), ch_lt de, x8⟩
   · exact ⟨qc4 _ _, hc111, (by show 15 ≤ 100; decide), ch_lt de, x9⟩
 obtain ⟨q, hq⟩ : ∃ q : List Xb, q = [⟨A91, 15, c91, chX 0 112, 342⟩, ⟨A93, 15, c93, chX 2 2, 343⟩, ⟨A95, 15, c95, chX 4 0, 345⟩, ⟨A97, 15, c97, chX 4 65, 345⟩, ⟨A99, 15, c99, chX 6 0, 345⟩, ⟨A101, 15, c101, chX 9 1, 344⟩, ⟨A107, 16, c107, moreX, 346⟩, ⟨A109, 15, c109, chX 3 0, 347⟩, ⟨A111, 15, c111, chX 8 5, 347⟩] := ⟨_, rfl⟩
 have hql : q.length = 9 := by rw [hq]; rfl
 rw [← hq] at hok
 replace I : Mem w w113 (.row (vS g113 9 9) 9 (q.flatMap xbL) 122 2 :: xbF 5 q) := by rw [hq]; exact I
 refine Jb Z I ((JG∘JB) fun a Z I => ?_)
 refine qe (fun mS aS wS => ∃ (k : Nat), (k ≤ 9) ∧ mS = 9 - k ∧ Fr aS 130 [] [(115, vI k), (114, vI 9), (113, vS g113 9 9), (90, .bool false), (2, vP g2 0), (1, vS gA16 15 c16), (0, .bool false)] ∧ Mem w wS (.row (vS g113 9 9) 9 (q.flatMap xbL) 122 2 :: xbF 5 q)) (m := 9 - 0) ⟨0, Nat.zero_le _, rfl, Z.sub kr, I.pt 1 [0]⟩ ?_
 clear Z I; rintro mS a w_ ⟨k, hk, rfl, Z, I⟩
 refine Jb Z I ((JP∘Jp 1∘Jj∘JQ) (Ju (fun hb116 => ?_) fun hb116 => ?_))
 ·
  intro a Z I
  have hd116 := of_decide_eq_true hb116
  obtain ⟨x, hx⟩ : ∃ x, q.getD k Xb.zero = x := ⟨_, rfl⟩
  have hxq : x ∈ q := by rw [← hx]; exact qg Xb.zero om
  obtain ⟨hx1, hx2, hx3, hx4, hx5⟩ := hok x hxq
  refine Jb Z I ((JT∘JS'∘JQ∘JB∘JP∘Jy (h:=by exact Yl.ix0 g113 k 2 rfl rfl rfl)∘Jy (v := .agg ((q.getD k Xb.zero).cells)) (h:=by exact Yl.loadS rfl rfl si_xb rfl (fun _ h => h.qf7 q6r (i := 0) rfl ((getD_at Xb.zero om))))∘Jo (.agg x.cells) (by rw [hx])∘JA #[.slice none 0 0, vI 0]) fun w13 g13 => (JV si_xb O0' (h1:=by exact q82 x)) fun w12_3 => (Jd2∘Jr∘Jg 0 O0∘JL (h:=by exact fun I => qmb _ _ _ _ B _ (hL.mem I hB) (I.le hB) (I.xbAt 2 rfl hxq) hx2 hx1 om hx4 hx5)) ?_)
  rintro I _ w122 ⟨z122, rfl, hz122, _, hm⟩
  refine ⟨_, rfl, _, I.call hm.below, ?_⟩
  refine (Jp 1∘Jx∘Jx∘JA #[vI 0, vI 0, vQ 0, .slice none 0 0, .slice none 0 0, .slice none 0 0, .slice none 0 0, .slice none 0 0]) fun w14 g14 => (JV q8 O0' (h1:=by exact qdt z122)) fun w13_7 => (Jp 1∘Jd6∘Jr∘Jp 1∘Jg 1 O1∘Jp 1∘Jd2∘Jj) (Ju (fun hb128 => ?_) fun hb128 => ?_)
  ·
   intro a Z I
   have hd128 := bne_iff_ne.1 hb128
   exact absurd rfl hd128
  intro a Z I
  have hd128 := bne_eq_false_iff_eq.1 hb128
  refine Jb Z I ((JF∘JS'∘JR∘JaK 1∘Jp 1∘Jd1∘Jq) fun a Z I => ?_)
  exact ⟨_, om, k + 1, by omega, rfl, Z.sub kr, I.pt 3 [2]⟩
 intro a Z I
 have hd116 := of_decide_eq_false hb116
 exact Jb Z I ((JF∘JX∘JG∘JP∘Jp 1∘Jj∘JZ) JY1)
section
variable {y : List Nat} {er c d B : Nat} {A D : Option Addr} {w : World} {s : Snm}
theorem BadY.rd (h : BadY y er) : rdE (sealL y) = er := by
 unfold rdE
 rw [h.err]
theorem BadY.few (h : BadY y er) : (sealL y).length ≤ 100000000 := by have := h.most; rw [zj]; omega
theorem q6z (h : BadY y er) (hL : LaidX B w) (hB : B ≤ w.heap.size) (hr : Rd w w.heap.size 1 A y.length (y.map B8)) : Calls Tryz.prog 30 #[.slice A y.length c] w (qes w 0 (sealL y)) :=
 qrq A y.length c y B w hL hB hr rfl (by have := h.most; omega) h.lt
theorem q60 (h : BadY y er) (hL : LaidX B w) (hB : B ≤ w.heap.size) (hr : Rd w w.heap.size 1 A (sealL y).length ((sealL y).map B8)) (hc : (sealL y).length ≤ c) : Calls Tryz.prog 27 #[.slice A (sealL y).length c] w (fun r w' => (∃ z : Snm, r = .returned (.tuple #[.agg z.cells, .int .i64 (er : Int)])) ∧ Below w.heap.size w w') := by
 have k := qok A c (sealL y) B w hL hB hr hc h.few (qch h.lt)
 rw [h.rd] at k
 exact k.mono fun r w' ⟨z, h1, _, _, hm⟩ => ⟨⟨z, h1⟩, hm.below⟩
theorem q61 (h : BadY y er) (hL : LaidX B w) (hB : B ≤ w.heap.size) (hr : Rd w w.heap.size 1 A (sealL y).length ((sealL y).map B8)) (hc : (sealL y).length ≤ c) : Calls Tryz.prog 28 #[.slice A (sealL y).length c] w (fun r w' => (∃ (A2 : Option Addr) (c2 : Nat), r = .returned (.tuple #[.slice A2 0 c2, .int .i64 (er : Int)])) ∧ Below w.heap.size w w') := by
 have k := qg5 A c (sealL y) B w hL hB hr hc h.few (qch h.lt)
 rw [qdd h.err, qrx h.err] at k
 exact k.mono fun r w' ⟨⟨A2, c2, h1, _, _⟩, h2⟩ => ⟨⟨A2, c2, h1⟩, h2⟩
theorem q62 (h : BadY y er) (hL : LaidX B w) (hB : B ≤ w.heap.size) (hr : Rd w w.heap.size 1 A (sealL y).length ((sealL y).map B8)) (hc : (sealL y).length ≤ c) : Calls Tryz.prog 29 #[.slice A (sealL y).length c] w (fun r w' => (∃ (A2 : Option Addr) (c2 : Nat), r = .returned (.tuple #[.slice A2 0 c2, .int .i64 (er : Int)])) ∧ Below w.heap.size w w') := by
 have k := qdk A c (sealL y) B w hL hB hr hc h.few (qch h.lt)
 rw [qdd h.err, ql2 h.err] at k
 exact k.mono fun r w' ⟨⟨A2, c2, h1, _, _⟩, h2⟩ => ⟨⟨A2, c2, h1⟩, h2⟩
theorem q63 (h : BadY y er) (h0 : er ≠ 0) (hL : LaidX B w) (hB : B ≤ w.heap.size) (hr : Rd w w.heap.size 1 A (sealL y).length ((sealL y).map B8)) (hc : (sealL y).length ≤ c) : Calls Tryz.prog 31 #[.slice A (sealL y).length c, .slice none 0 0] w (Is w (.tuple #[.string (difN (sealL y) []), .int .i64 (er : Int)])) := by
 have k := qce A c (sealL y) none 0 [] B w hL hB hr hc h.few (qch h.lt) Rd.nil (Nat.le_refl _) (Nat.zero_le _) (fun z hz => by cases hz)
 rwa [h.difA h0] at k
theorem q64 (h : BadY y er) (hs : SnRight s) (hL : LaidX B w) (hB : B ≤ w.heap.size) (hr1 : Rd w w.heap.size 1 D (sealL (bodyS s)).length ((sealL (bodyS s)).map B8)) (hd : (sealL (bodyS s)).length ≤ d) (hr : Rd w w.heap.size 1 A (sealL y).length ((sealL y).map B8)) (hc : (sealL y).length ≤ c) : Calls Tryz.prog 31 #[.slice D (sealL (bodyS s)).length d, .slice A (sealL y).length c] w (Is w (.tuple #[.string (difN (sealL (bodyS s)) (sealL y)), .int .i64 (er : Int)])) := by
 have k := qce D d (sealL (bodyS s)) A c (sealL y) B w hL hB hr1 hd (by have := hs.len; omega) (qch (qew s)) hr hc h.few (qch h.lt)
 rwa [h.difB hs] at k
theorem q65 (h : BadY y er) (hL : LaidX B w) (hB : B ≤ w.heap.size) (hr : Rd w w.heap.size 1 A (sealL y).length ((sealL y).map B8)) (hc : (sealL y).length ≤ c) : Calls Tryz.prog 31 #[.slice none 0 0, .slice A (sealL y).length c] w (Is w (.tuple #[.string (difN [] (sealL y)), .int .i64 340])) := by
 have k := qce none 0 [] A c (sealL y) B w hL hB Rd.nil (Nat.le_refl _) (Nat.zero_le _) (fun z hz => by cases hz) hr hc h.few (qch h.lt)
 exact k
end
theorem i64_9 : I64 9 := by unfold I64; decide
theorem q24 {P : Program} {x : Code} {Q : Exit → Act → World → Prop} {a : Act} {w : World} (R : Act → World → Prop) (h : x.wp P (Exit.then R Q) a w) (k : ∀ a w, R a w → Q .normal a w) : x.wp P Q a w :=
 Code.wp_mono (fun e a w hq => by cases e <;> first | exact k _ _ hq | exact hq) h
theorem qzn {j : Nat} (h : j < 3) : (([0, 65, 127] : List Nat).getD j 0 < 1 ∨ 64 < ([0, 65, 127] : List Nat).getD j 0) ∧ ([0, 65, 127] : List Nat).getD j 0 < 128 := by
 match j, h with
 | 0, _ | 1, _ | 2, _ => decide
theorem qjl (n : Nums) (hn : n.Ok) (Al : Option Addr) (cl : Nat) (l : List Sml) (hl : ∀ x ∈ l, x.Ok) (hcl : l.length ≤ cl) (hnl : l.length ≤ 9223372036854775807) (b : Nat) (hb : b < 256) (k : Nat) (hk : k < 256) (B : Nat) (w : World) (hL : LaidX B w) (hB : B ≤ w.heap.size) (hrl : Rd w w.heap.size 8 Al l.length (l.flatMap sml)) :
    Calls Tryz.prog 8 #[.agg n.cells, .slice Al l.length cl, vB b, vB k] w (Is w (.bool true)) := by
 refine (JN4 Tryz.func8 174) ?_
 refine (JP∘JE) fun w4 g4 => (Jp 1∘Jj∘JQ∘JP∘JI (h:=by exact fun I => qqe B _ (hL.mem I hB) (I.le hB))) fun w29 hbw => (Jp 1∘Jd1∘Jq) fun a Z I => ?_
 replace I : Mem w _ (.blk g4 n.cells 27 :: []) := I
 refine Jb Z I ((JG∘JF∘JS'∘JP∘Jy (v := .agg n.cells) (h:=by exact Yl.loadS rfl rfl qx7 (qnv hn) (fun _ h => qb (h.blk (i := 0) rfl)))∘Jp 1∘JL (h:=by exact fun I => quy n hn Al cl l hl hcl hnl 9 i64_9 _ (I.old hrl))) ?_)
 rintro I _ w34 ⟨p, rfl, hsp, hgp, hip, hnp, hm⟩
 refine ⟨_, rfl, _, (show Mem w w34 (.blk g4 n.cells 27 :: (stF p.st ++ ([]))) from I.joinF (T := []) 1 hm rfl), ?_⟩
 refine (Jp 1∘Jx∘Jx∘JA #[vI 0, vI 0, vQ 0, vN, vN, vN, vN, vN]) fun w9 g9 => (JV q8 O0' (h1:=by exact qdt p)) fun w3_7 => (Jp 1∘Jq) fun a Z I => ?_
 have hln0 := hsp.len
 refine Jb Z I ((JG∘JP∘Jy (v := .agg p.cells) (h:=by exact Yl.loadS rfl rfl q8 rfl (fun _ h => qb (h.blk (i := 0) rfl)))∘JK (h:=by exact fun I => cw_ok hsp (hL.mem I hB) (I.le hB) (I.st1 2 rfl))) fun A39 c39 w39 hc39 => (Jp 1∘Jx∘Jx∘Jp 2∘Jj∘JQ∘JP∘Jv 8 [(49, .slice A39 ((sealL (bodyS p)).length) c39), (48, .bool false)]∘Jl∘Jp 1∘Jo (.bool false) (by have := hsp.len; simp; omega)∘Jp 1∘Jd5∘Jj∘JF∘JS'∘JP) fun a Z I => ?_)
 refine fo Z 0 rfl rfl ?_
 refine qd6 Z I rfl ei_u8 rfl de ?_
 clear Z I; intro a w53 g53 Z I
 refine Jb Z I ((Jp 2∘Jl∘JsK 4∘Jy (h:=by exact Yl.qab ei_u8 (j := ((sealL (bodyS p)).length - 4)) rfl rfl rfl (by have := hsp.len; omega))∘JD ((bodyS p).map B8) 0 (fun _ _ => O0') ei_u8 (hr:=by exact fun I => q6j (I.rd (i := 1) rfl)) (h1:=by exact qmo _) (h63:=by have := hsp.len; omega)) fun w59 A59 c59 hc59 => (Jp 1∘Jd6∘Jq) fun a Z I => ?_)
 have hnA59 : 0 + ((sealL (bodyS p)).length - 4) = (bodyS p).length := by rw [zj]; omega
 replace I := I.reRow (i := 0) (ys := (bodyS p).map B8) rfl hnA59 (rfl)
 rw [hnA59] at hc59
 replace Z := Z.sp 13 (.slice A59 ((bodyS p).length) c59) rfl (by rw [hnA59])
 have hbl := hsp.body
 have hp10 : p.next = 10 := hnp de
 revert I; revert a; repeat (first | clear Z | clear I)
 intro a Z I
 obtain ⟨gA, rfl⟩ := qm (I.own (i := 0) rfl) om
 refine Jb Z I ((JG∘JP∘Jp 1∘Jj∘JQ∘JP∘Jp 2∘Jo (vB (b % 5 : Nat)) (by exact qz .u8 _ 5)∘Jd1∘Jj) fun a Z I => ?_)
 refine q24 (fun aS wS => ∃ (y : List Nat) (er : Nat) (Ay : Option Addr) (cy : Nat), (BadY y er) ∧ (er ≠ 0 ∧ er < 1000) ∧ Fr aS 174 [] [(11, .slice A39 ((sealL (bodyS p)).length) c39), (8, .bool false), (13, .slice Ay y.length cy), (14, vI er)] ∧ Mem w wS (.row (.slice Ay y.length cy) y.length (y.map B8) 5 1 :: .row (.slice A39 ((sealL (bodyS p)).length) c39) ((sealL (bodyS p)).length) ((sealL (bodyS p)).map B8) 5 1 :: (stF p.st ++ ([])))) ?_ ?_
 ·
  refine Jb Z I ((JB∘JP∘Jp 2∘Jd1∘Jj) (Ju (fun hb65 => ?_) fun hb65 => ?_))
  ·
   intro a Z I
   have hd65 := eq_of_beq hb65
   have hkb : 1 + k % 255 < 256 := by omega
   obtain ⟨v, hv⟩ : ∃ z : Nat, 113 ^^^ (1 + k % 255) = z := ⟨_, rfl⟩
   have hv1 : v ≠ 113 := by rw [← hv]; exact qy5 om
   have hv2 : v < 256 := by rw [← hv]; exact pw_lt de om
   refine Jb Z I ((JT∘JR∘Jp 1∘Jy (v := vP gA 0) (h:=by exact Yl.indexAddr (ad := ⟨gA, 0, none⟩) (y := 0) (sz := 1) rfl rfl rfl om kr)∘Jy (v := vB ((bodyS p).getD 0 0)) (h:=by exact Yl.r1 0 0 0 om rfl rfl rfl)∘Jo (vB (113 : Nat)) (by exact rfl)∘Jp 2∘Jo (vB (k % 255 : Nat)) (by exact qz .u8 _ 255)∘Jp 1∘Jo (vB (1 + (k % 255) : Nat)) (by exact qvb om om)∘Jp 1∘Jo (vB v) (by exact (qqk (m := 113) (n := 1 + k % 255) de om).trans (by rw [hv]))∘Jy (v := vP gA 0) (h:=by exact Yl.indexAddr (ad := ⟨gA, 0, none⟩) (y := 0) (sz := 1) rfl rfl rfl om kr)) fun a Z I => ?_)
   refine fo Z 8 rfl rfl ?_
   refine qx Z I (i := 0) rfl rfl rfl rfl kr rfl rfl (by rw [List.length_map]; omega) ?_
   clear I; intro w13_8 I
   replace I := I.asRow (i := 0) (ys := ((bodyS p).set 0 v).map B8) rfl (zt B8 (bodyS p) 0 v om)
   refine Jb Z I ((Jt6∘Jq) fun a Z I => ?_)
   have hyN : BadY ((bodyS p).set 0 v) 342 := pw_0 hsp hv1 hv2
   have hnN : (bodyS p).length = ((bodyS p).set 0 v).length := by simp
   replace I := I.reRow (i := 0) (ys := ((bodyS p).set 0 v).map B8) rfl hnN (by simp)
   replace Z := Z.sp 13 (.slice (some ⟨gA, 0, none⟩) ((bodyS p).set 0 v).length c59) rfl (by rw [← hnN])
   exact ⟨((bodyS p).set 0 v), 342, (some ⟨gA, 0, none⟩), c59, hyN, ⟨by decide, by decide⟩, Z.sub kr, I.pt 4 [0, 1]⟩
  intro a Z I
  have hd65 := ne_of_beq_false hb65
  refine Jb Z I ((JF∘JP∘Jp 2∘Jd1∘Jj) (Ju (fun hb75 => ?_) fun hb75 => ?_))
  ·
   intro a Z I
   have hd75 := eq_of_beq hb75
   have hkb : 1 + k % 255 < 256 := by omega
   obtain ⟨v, hv⟩ : ∃ z : Nat, 115 ^^^ (1 + k % 255) = z := ⟨_, rfl⟩
   have hv1 : v ≠ 115 := by rw [← hv]; exact qy5 om
   have hv2 : v < 256 := by rw [← hv]; exact pw_lt de om
   refine Jb Z I ((JT∘JP∘Jp 1∘Jy (v := vP gA 1) (h:=by exact Yl.indexAddr (ad := ⟨gA, 0, none⟩) (y := 1) (sz := 1) rfl rfl rfl om kr)∘Jy (v := vB ((bodyS p).getD 1 0)) (h:=by exact Yl.r1 0 1 0 om rfl rfl rfl)∘Jo (vB (115 : Nat)) (by exact rfl)∘Jp 2∘Jo (vB (k % 255 : Nat)) (by exact qz .u8 _ 255)∘Jp 1∘Jo (vB (1 + (k % 255) : Nat)) (by exact qvb om om)∘Jp 1∘Jo (vB v) (by exact (qqk (m := 115) (n := 1 + k % 255) de om).trans (by rw [hv]))∘Jy (v := vP gA 1) (h:=by exact Yl.indexAddr (ad := ⟨gA, 0, none⟩) (y := 1) (sz := 1) rfl rfl rfl om kr)) fun a Z I => ?_)
   refine fo Z 8 rfl rfl ?_
   refine qx Z I (i := 0) rfl rfl rfl rfl kr rfl rfl (by rw [List.length_map]; omega) ?_
   clear I; intro w15_8 I
   replace I := I.asRow (i := 0) (ys := ((bodyS p).set 1 v).map B8) rfl (zt B8 (bodyS p) 1 v om)
   refine Jb Z I ((Jt6∘Jj∘JR∘Jp 2∘Jy (v := vP gA 2) (h:=by exact Yl.indexAddr (ad := ⟨gA, 0, none⟩) (y := 2) (sz := 1) rfl rfl rfl om kr)) fun a Z I => ?_)
   refine fo Z 3 rfl rfl ?_
   refine qx Z I (i := 0) rfl rfl rfl rfl kr rfl rfl (by rw [List.length_map, List.length_set]; omega) ?_
   clear I; intro w16_3 I
   replace I := I.asRow (i := 0) (ys := (((bodyS p).set 1 v).set 2 k).map B8) rfl (zt B8 ((bodyS p).set 1 v) 2 k (by rw [List.length_set]; omega))
   refine Jb Z I ((Jt5∘Jq) fun a Z I => ?_)
   have hyN : BadY (((bodyS p).set 1 v).set 2 k) 342 := pw_1 hsp hv1 hv2 hk
   have hnN : (bodyS p).length = (((bodyS p).set 1 v).set 2 k).length := by simp
   replace I := I.reRow (i := 0) (ys := (((bodyS p).set 1 v).set 2 k).map B8) rfl hnN (by simp)
   replace Z := Z.sp 13 (.slice (some ⟨gA, 0, none⟩) (((bodyS p).set 1 v).set 2 k).length c59) rfl (by rw [← hnN])
   exact ⟨(((bodyS p).set 1 v).set 2 k), 342, (some ⟨gA, 0, none⟩), c59, hyN, ⟨by decide, by decide⟩, Z.sub kr, I.pt 4 [0, 1]⟩
  intro a Z I
  have hd75 := ne_of_beq_false hb75
  refine Jb Z I ((JF∘JP∘Jp 2∘Jd1∘Jj) (Ju (fun hb88 => ?_) fun hb88 => ?_))
  ·
   intro a Z I
   have hd88 := eq_of_beq hb88
   have hkb : 1 + k % 255 < 256 := by omega
   obtain ⟨v, hv⟩ : ∃ z : Nat, 1 ^^^ (1 + k % 255) = z := ⟨_, rfl⟩
   have hv1 : v ≠ 1 := by rw [← hv]; exact qy5 om
   have hv2 : v < 256 := by rw [← hv]; exact pw_lt de om
   refine Jb Z I ((JT∘JP∘Jp 1∘Jy (v := vP gA 2) (h:=by exact Yl.indexAddr (ad := ⟨gA, 0, none⟩) (y := 2) (sz := 1) rfl rfl rfl om kr)∘Jy (v := vB ((bodyS p).getD 2 0)) (h:=by exact Yl.r1 0 2 0 om rfl rfl rfl)∘Jo (vB (1 : Nat)) (by exact rfl)∘Jp 2∘Jo (vB (k % 255 : Nat)) (by exact qz .u8 _ 255)∘Jp 1∘Jo (vB (1 + (k % 255) : Nat)) (by exact qvb om om)∘Jp 1∘Jo (vB v) (by exact (qqk (m := 1) (n := 1 + k % 255) de om).trans (by rw [hv]))∘Jy (v := vP gA 2) (h:=by exact Yl.indexAddr (ad := ⟨gA, 0, none⟩) (y := 2) (sz := 1) rfl rfl rfl om kr)) fun a Z I => ?_)
   refine fo Z 8 rfl rfl ?_
   refine qx Z I (i := 0) rfl rfl rfl rfl kr rfl rfl (by rw [List.length_map]; omega) ?_
   clear I; intro w18_8 I
   replace I := I.asRow (i := 0) (ys := ((bodyS p).set 2 v).map B8) rfl (zt B8 (bodyS p) 2 v om)
   refine Jb Z I ((Jt6∘Jj∘JR∘Jp 1∘Jd2∘Jq) fun a Z I => ?_)
   have hyN : BadY ((bodyS p).set 2 v) 343 := pw_2 hsp hv1 hv2
   have hnN : (bodyS p).length = ((bodyS p).set 2 v).length := by simp
   replace I := I.reRow (i := 0) (ys := ((bodyS p).set 2 v).map B8) rfl hnN (by simp)
   replace Z := Z.sp 13 (.slice (some ⟨gA, 0, none⟩) ((bodyS p).set 2 v).length c59) rfl (by rw [← hnN])
   exact ⟨((bodyS p).set 2 v), 343, (some ⟨gA, 0, none⟩), c59, hyN, ⟨by decide, by decide⟩, Z.sub kr, I.pt 4 [0, 1]⟩
  intro a Z I
  have hd88 := ne_of_beq_false hb88
  refine Jb Z I ((JF∘JP∘Jp 2∘Jd1∘Jj) (Ju (fun hb98 => ?_) fun hb98 => ?_))
  ·
   intro a Z I
   have hd98 := eq_of_beq hb98
   obtain ⟨v, hv⟩ : ∃ z : Nat, ([0, 65, 127] : List Nat).getD (k % 3) 0 = z := ⟨_, rfl⟩
   have hv1 : (v < 1 ∨ 64 < v) ∧ v < 128 := by rw [← hv]; exact qzn om
   refine Jb Z I ((JT∘JP∘Jp 1∘JU ei_u8 #[vB 0, vB 65, vB 127]) fun w101 g101 => fun a Z I => ?_)
   replace I := I.blkRow (i := 0) (n := 3) (size := 1) rfl rfl de
   replace I : Mem w _ (.row (vS g101 3 3) 3 (([0, 65, 127] : List Nat).map B8) 5 1 :: .row (vS gA ((bodyS p).length) c59) ((bodyS p).length) ((bodyS p).map B8) 5 1 :: .row (.slice A39 ((sealL (bodyS p)).length) c39) ((sealL (bodyS p)).length) ((sealL (bodyS p)).map B8) 5 1 :: .blk g9 p.cells 40 :: .blk g4 n.cells 27 :: (stF p.st ++ ([]))) := I
   refine Jb Z I ((Jp 2∘Jo (vB (k % 3 : Nat)) (by exact qz .u8 _ 3)∘Jy (h:=by exact Yl.ix0 g101 (k % 3) 1 rfl rfl rfl)∘Jy (v := vB (([0, 65, 127] : List Nat).getD (k % 3) 0)) (h:=by exact Yl.r1 0 (k % 3) 0 (by show _ < 3; omega) rfl rfl rfl)∘Jo (vB v) (by rw [hv])∘Jy (v := vP gA 4) (h:=by exact Yl.indexAddr (ad := ⟨gA, 0, none⟩) (y := 4) (sz := 1) rfl rfl rfl om kr)) fun a Z I => ?_)
   refine fo Z 7 rfl rfl ?_
   refine qx Z I (i := 1) rfl rfl rfl rfl kr rfl rfl (by rw [List.length_map]; omega) ?_
   clear I; intro w21_7 I
   replace I := I.asRow (i := 1) (ys := ((bodyS p).set 4 v).map B8) rfl (zt B8 (bodyS p) 4 v om)
   refine Jb Z I ((Jt6∘Jj∘JR∘Jp 1∘Jd1∘Jq) fun a Z I => ?_)
   have hyN : BadY ((bodyS p).set 4 v) 345 := pw_3 hsp hp10 hv1.1 hv1.2
   have hnN : (bodyS p).length = ((bodyS p).set 4 v).length := by simp
   replace I := I.reRow (i := 1) (ys := ((bodyS p).set 4 v).map B8) rfl hnN (by simp)
   replace Z := Z.sp 13 (.slice (some ⟨gA, 0, none⟩) ((bodyS p).set 4 v).length c59) rfl (by rw [← hnN])
   exact ⟨((bodyS p).set 4 v), 345, (some ⟨gA, 0, none⟩), c59, hyN, ⟨by decide, by decide⟩, Z.sub kr, I.pt 5 [1, 2]⟩
  intro a Z I
  have hd98 := ne_of_beq_false hb98
  refine Jb Z I ((JF∘JP∘Jp 1∘JU ei_u8 #[vB 0]) fun w63 g63 => (JD ([0].map B8) 1 (fun _ _ => O1') ei_u8 (hr:=by exact fun I => I.rdBlk (i := 0) (n := 1) (size := 1) rfl rfl) (h1:=by simp [Value.oneCell', B8])) fun w64 A64 c64 hc64 => (Jp 1∘Jd3∘Jj∘JR∘Jp 1∘Jq) fun a Z I => ?_)
  have hyN : BadY (bodyS p ++ [0]) 346 := pw_4 hsp
  have hnN : ((bodyS p).length) + 1 = (bodyS p ++ [0]).length := by simp
  replace I := I.reRow (i := 1) (ys := (bodyS p ++ [0]).map B8) rfl hnN (by simp)
  replace Z := Z.sp 13 (.slice (A64) (bodyS p ++ [0]).length c64) rfl (by rw [← hnN])
  exact ⟨(bodyS p ++ [0]), 346, (A64), c64, hyN, ⟨by decide, by decide⟩, Z.sub kr, I.pt 5 [1, 2]⟩
 clear Z I; rintro a w_ ⟨y, er, Ay, cy, hy, her, Z, I⟩
 refine Jb Z I ((JG∘JP∘Jp 1∘JK (h:=by exact fun I => q6z hy (hL.mem I hB) (I.le hB) (I.rd (i := 0) rfl))) fun A109 c109 w109 hc109 => (Jp 1∘Jx∘Jx∘Jp 2∘Jr∘Jp 1∘JL (h:=by exact fun I => q60 hy (hL.mem I hB) (I.le hB) (I.rd (i := 0) rfl) hc109)) ?_)
 rintro I _ w114 ⟨⟨z114, rfl⟩, hbw⟩
 refine ⟨_, rfl, _, I.call hbw, ?_⟩
 refine (Jp 1∘Jx∘Jx∘JA #[vI 0, vI 0, vQ 0, vN, vN, vN, vN, vN]) fun w17 g17 => (JV q8 O0' (h1:=by exact qdt z114)) fun w24_6 => (Jp 1∘Jd6∘Jr∘Jp 1∘JL (h:=by exact fun I => q61 hy (hL.mem I hB) (I.le hB) (I.rd (i := 1) rfl) hc109)) ?_
 rintro I _ w119 ⟨⟨A119, c119, rfl⟩, hbw⟩
 refine ⟨_, rfl, _, I.call hbw, ?_⟩
 refine (Jp 1∘Jx∘Jx∘Jp 2∘Jd6∘Jr∘Jp 1∘JL (h:=by exact fun I => q62 hy (hL.mem I hB) (I.le hB) (I.rd (i := 1) rfl) hc109)) ?_
 rintro I _ w124 ⟨⟨A124, c124, rfl⟩, hbw⟩
 refine ⟨_, rfl, _, I.call hbw, ?_⟩
 exact (Jp 1∘Jx∘Jx∘Jp 2∘Jd6∘Jr∘Jp 1∘JI (h:=by exact fun I => q63 hy om (hL.mem I hB) (I.le hB) (I.rd (i := 1) rfl) hc109)) fun w129 hbw => (Jp 1∘Jx∘Jx∘Jp 2∘Jd6∘Jr∘Jp 2∘JI (h:=by exact fun I => q64 hy hsp (hL.mem I hB) (I.le hB) (I.rd (i := 3) rfl) hc39 (I.rd (i := 1) rfl) hc109)) fun w135 hbw => (Jp 1∘Jx∘Jx∘Jp 2∘Jd6∘Jr∘Jp 1∘JI (h:=by exact fun I => q65 hy (hL.mem I hB) (I.le hB) (I.rd (i := 1) rfl) hc109)) fun w140 hbw => (Jp 1∘Jx∘Jx∘Jp 2∘Jd6∘Jr∘Jv 6 [(148, .bool ((er : Int) == (er : Int))), (145, .bool true)]∘Jo (.bool true) (by simp)∘Jp 5∘Jo (.bool true) (by simp)∘Jp 5∘Jo (.bool true) (by simp)∘Jp 5∘Jo (.bool true) (by simp)∘Jp 5∘Jo (.bool true) (by simp)∘Jv 6 [(8, .bool true)]∘Jd6∘Jj∘JZ) JY1
end Go.Proofs.YtcajpeiobkcliaaGreatDoor
