/- A part of the proof. -/
import Derived.Test.YtannicghedpdpaaQfStaG
import Derived.Test.YtannicghedpdpaaQfChv
set_option linter.all false
set_option maxRecDepth 100000
set_option maxHeartbeats 1000000
namespace Go.Proofs.Ytannicghedpdpaa
open Go.RowKit
theorem qri {l : List Gr} {g : Nat} (h : ∀ i, 0 < i → i ≤ g → ParB l i) : depG l g ≤ g := by
 induction g using Nat.strongRecOn with
 | _ g ih =>
  rcases Nat.eq_zero_or_pos g with h0 | h0
  ·subst h0; exact Nat.le_refl _
  ·have hg := h g h0 (Nat.le_refl _)
   unfold ParB at hg
   have := ih (l.getD g Gr.zero).parent.toNat om (fun i h1 h2 => h i h1 om)
   rw [qef h h0]
   omega
theorem qhe (x : Int) (w : World) : Calls Try.prog 90 #[vI x] w (Is w (.bool (decide (1 ≤ x ∧ x ≤ 65536)))) := by
 refine (JN1 Try.func90 9) ?_
 refine (JP∘Jp 1∘Jr∘Jp 3) (Ji (fun hd5 => ?_) fun hd5 => ?_)
 ·
  exact (Jp 4∘Jd6∘Jj∘JZ∘Jz1) fun I => qej om I.below
 exact (Jp 4∘Jd6∘Jj∘JZ∘Jz1) fun I => is_no om I.below
theorem qdr (x : Int) (w : World) : Calls Try.prog 72 #[vI x] w (Is w (.bool (decide (1 ≤ x ∧ x ≤ 65536)))) := by
 refine (JN1 Try.func72 9) ?_
 refine (JP∘Jp 1∘Jr∘Jp 3) (Ji (fun hd5 => ?_) fun hd5 => ?_)
 ·
  exact (Jp 4∘Jd6∘Jj∘JZ∘Jz1) fun I => qej om I.below
 exact (Jp 4∘Jd6∘Jj∘JZ∘Jz1) fun I => is_no om I.below
theorem qbp (x : Int) (w : World) : Calls Try.prog 57 #[vI x] w (Is w (.bool (decide (1 ≤ x ∧ x ≤ 65536)))) := by
 refine (JN1 Try.func57 9) ?_
 refine (JP∘Jp 1∘Jr∘Jp 3) (Ji (fun hd5 => ?_) fun hd5 => ?_)
 ·
  exact (Jp 4∘Jd6∘Jj∘JZ∘Jz1) fun I => qej om I.below
 exact (Jp 4∘Jd6∘Jj∘JZ∘Jz1) fun I => is_no om I.below
theorem qrj (W w : World) (gg gl lp : Nat) (A : Option Addr) (c : Nat) (l : List Gr) (g : Nat) (Inv : Nat → List Fact → Prop) (F0 : List Fact) (hr : Rd W W.heap.size 2 A l.length (l.flatMap grL)) (hn : l.length ≤ 1000000) (hg : g < l.length) (hp : ∀ i, 0 < i → i ≤ g → ParB l i)
    (hy : qjk Try.prog W lp (depG l g + 1) Inv) (hI0 : Inv 0 F0) (I : Mem W w (.blk gg #[vI g] 3 :: .blk gl #[.slice A l.length c] 34 :: F0)) :
    Calls Try.prog 101 (.func (.yield lp) #[] #[] :: [vP gg 0, vP gl 0]).toArray w (qq8 W (Inv (depG l g + 1))) := by
 refine s_ce Try.func101 [.func (.yield lp) #[] #[], vP gg 0, vP gl 0] [(0, .func (.yield lp) #[] #[]), (1, vP gg 0), (2, vP gl 0)] fun a Z => ?_
 refine Jb Z I ((JB) fun a Z I => ?_)
 refine qo (fun mS aS wS => ∃ (x : Nat) (i : Nat) (F : List Fact), (Inv i F) ∧ (x ≤ g) ∧ (depG l x + i = depG l g) ∧ mS = 0 + x ∧ Fr aS 16 [] [(0, .func (.yield lp) #[] #[]), (1, vP gg 0), (2, vP gl 0)] ∧ Mem W wS (.blk gg #[vI x] 3 :: .blk gl #[.slice A l.length c] 34 :: F)) (m := 0 + g) ⟨g, 0, F0, hI0, Nat.le_refl _, Nat.add_zero _, rfl, Z.sub kr, I.pt 2 [0, 1]⟩ ?_
 clear Z I; rintro mS a w_ ⟨x, i, F, hI, hxg, hd, rfl, Z, I⟩
 refine Jb Z I ((JQ) fun a Z I => ?_)
 refine wp_seq ?_
 refine qha (i := 2) ?_
 refine Jb Z I ((Jp 1∘Jc O0∘Jq) fun a Z I => ?_)
 refine qo4 Z (i := 2) (vs := [vI x]) rfl rfl rfl rfl rfl rfl de (hy i F [.blk gg #[vI x] 3, .blk gl #[.slice A l.length c] 34] _ (x : Int) hI om (Mem.qox (es := F) I)) qei ?_
 clear Z I; rintro v w20 a ⟨F2, I, hv, hI2⟩ Z; injection hv with hv; subst hv
 replace I : Mem W w20 (.blk gg #[vI x] 3 :: .blk gl #[.slice A l.length c] 34 :: F2) := Mem.qox (es := [.blk gg #[vI x] 3, .blk gl #[.slice A l.length c] 34]) I
 refine Jb Z I ((Jp 1∘Jc O0∘Jp 2∘Jd6∘Jq) (Ju (fun hb10 => ?_) fun hb10 => ?_))
 ·
  intro a Z I
  have hd10 := of_decide_eq_true hb10
  have hx0 : 0 < x := by omega
  obtain ⟨hp1, hp2⟩ := hp x hx0 hxg
  obtain ⟨y, hy2⟩ : ∃ y : Nat, (l.getD x Gr.zero).parent = (y : Int) := ⟨(l.getD x Gr.zero).parent.toNat, by omega⟩
  have hdx := qef (l := l) (g := x) (fun i h0 hi => hp i h0 om) hx0
  rw [hy2, Int.toNat_natCast] at hdx
  refine Jb Z I ((JT∘JS'∘JB∘JR∘Jc O1∘Jc O0) ?_)
  repeat (first | clear Z | clear I)
  intro a Z I
  obtain ⟨gA, oA, rfl, _⟩ := hr.qr (Nat.lt_of_le_of_lt (Nat.zero_le _) (show x < l.length from by omega)) de
  refine Jb Z I ((Jy (h:=by exact Yl.ix gA oA x 2 rfl rfl rfl)∘Jf 0∘Jy (v := vI ((l.getD x Gr.zero).parent)) (h:=by exact Yl.ql rfl rfl kr (fun _ h => (by have := (h.old hr).partAt zk (k := x) (j := 0) (x := (l.getD x Gr.zero)) ((getD_at Gr.zero om)) rfl; simpa using this)))∘Jo (vI y) (by rw [hy2])∘JW O0' O0') fun w1_5 => (Jt5∘Jq) fun a Z I => ?_)
  exact ⟨_, om, y, i + 1, F2, hI2, by omega, by omega, rfl, Z.sub kr, I.pt 2 [0, 1]⟩
 intro a Z I
 have hd10 := of_decide_eq_false hb10
 revert I; revert a; repeat (first | clear Z | clear I)
 intro a Z I
 obtain rfl : x = 0 := by omega
 have hd0 := qmj l
 refine Jb Z I ((JF∘JX) fun a Z I => ?_)
 have hin : i + 1 = depG l g + 1 := by omega
 rw [hin] at hI2
 exact norm0 rfl Z ⟨_, rfl, F2, Mem.qqm [.blk gg #[vI 0] 3, .blk gl #[.slice A l.length c] 34] I, hI2⟩
theorem qs0 (A : Option Addr) (n c : Nat) (g : Int) (w : World) :
    Calls Try.prog 98 #[.slice A n c, vI g] w fun r w' => ∃ gg gl, r = .returned (.func (.func 101) #[] #[vP gg 0, vP gl 0]) ∧ Mem w w' [.blk gg #[vI g] 3, .blk gl #[.slice A n c] 34] := by
 refine (JN2 Try.func98 6) ?_
 exact (JP∘Je1) fun w2 g2 => (Je1) fun w3 g3 => (Jp 1∘Jr∘Jy (h:=by exact Yl.makeFunc (fst := []) (caps := [vP g3 0, vP g2 0]) rfl rfl rfl)∘Jp 1∘Jd1∘Jj∘JZ∘Jz1) fun I => by exact ⟨_, _, rfl, I.pk [0, 1]⟩
theorem qmy (A : Option Addr) (c : Nat) (l : List Gr) (g : Nat) (w : World) (hr : Rd w w.heap.size 2 A l.length (l.flatMap grL)) (hn : l.length ≤ 1000000) (hg : g < l.length) (hp : ∀ i, 0 < i → i ≤ g → ParB l i) :
    Calls Try.prog 91 #[.slice A l.length c, vI g] w (Is w (vI (depG l g : Int))) := by
 have hdep := qri hp
 refine qf7 (vs := [.slice A l.length c, vI g]) Try.func91 rfl rfl kr (σ0 := [(0, .slice A l.length c), (1, vI g)]) rfl ?_
 intro a Z
 have I := Mem.start w
 refine Jb Z I ((JP∘Jp 1∘Jr∘JA #[vI 0]) fun w5 g5 => (JW O0' O0') fun w1_1 => (Jj∘JQ∘JP∘Jp 2∘JL (h:=by exact fun I => qs0 A l.length c (g : Int) _)) ?_)
 rintro I _ w8 ⟨gg, gl, rfl, hm⟩
 refine ⟨_, rfl, _, I.join hm, ?_⟩
 refine (Jd2∘Jj∘JB) fun a Z I => ?_
 refine qsw Z I (fun F => F = [.blk g5 #[vI (((depG l g + 1) : Int) - 1)] 3]) (fun _ _ => False) rfl kr ?_ ?_ (fun _ _ _ _ _ h => h.elim)
 ·
  clear Z I; intro lp B rec w1 hrec I
  have hy : qjk Try.prog w lp (depG l g + 1) (fun i F => F = (.obj lp (.loop (rec .ready none)) :: .obj B (.deferred (some [])) :: [.blk g5 #[vI ((i : Int) - 1)] 3])) := by
   rintro i F fr w3 x rfl hi I
   replace I : Mem w _ (.obj lp (.loop (rec .ready none)) :: .obj B (.deferred (some [])) :: .blk g5 #[vI ((i : Int) - 1)] 3 :: fr) := I
   refine qhb (v1 := vI x) hrec I de fun a Z => ?_
   refine wpIn_skip ?_
   refine ⟨(.obj B (.deferred (some [])) :: .blk g5 #[vI ((i : Int) - 1)] 3 :: fr), I.pt (fs' := (.obj lp (.loop (rec .ready none)) :: .obj B (.deferred (some [])) :: .blk g5 #[vI ((i : Int) - 1)] 3 :: fr)) 3 [0, 1, 2], fun w4 I => ?_⟩
   refine wpIn_block ?_
   refine qg8 ?_
   refine Jb Z I ((Jc O2∘Jp 1∘Jo (vI (((i + 1 : Nat) : Int) - 1)) (by have hdl := hdep; exact (qfg ⟨by omega, by omega⟩).trans (congrArg (Value.int .i64) om))∘JW O2' O0') fun w3_2 => (Jt3∘Jq) fun a Z I => ?_)
   refine ⟨(.obj B (.deferred (some [])) :: .blk g5 #[vI (((i + 1 : Nat) : Int) - 1)] 3 :: fr), I.pt (fs' := (.obj lp (.loop (rec .busy none)) :: .obj B (.deferred (some [])) :: .blk g5 #[vI (((i + 1 : Nat) : Int) - 1)] 3 :: fr)) 3 [0, 1, 2], fun w5 I => ?_⟩
   exact ⟨(.obj lp (.loop (rec .ready none)) :: .obj B (.deferred (some [])) :: .blk g5 #[vI (((i + 1 : Nat) : Int) - 1)] 3 :: []), I, rfl, rfl⟩
  refine (qrj w w1 gg gl lp A c l g _ _ hr hn hg hp hy rfl (I.pk [2, 3, 0, 1, 4])).mono ?_
  rintro r w2 ⟨v, rfl, F2, HM2, rfl⟩
  exact ⟨v, rfl, .inl ⟨_, rfl, HM2⟩⟩
 clear Z I; rintro B a w6 _ rfl Z I
 refine Jb Z I ((JG∘JP∘Jc O1∘Jp 1∘Jd1∘Jj∘JZ) fun a Z I => ?_)
 refine qq7 Z I (i := 0) rfl fun a w7 Z I => ?_
 exact s_rt1 rfl Z rfl (⟨by congr 2; omega, I.below⟩)
theorem qku (A : Option Addr) (c : Nat) (l : List Gr) (hok : ∀ x ∈ l, x.Ok) (w : World) (hr : Rd w w.heap.size 2 A l.length (l.flatMap grL)) (hn : l.length ≤ 1000000) :
    Calls Try.prog 73 #[.slice A l.length c] w (qek w l) := by
 refine (JN1 Try.func73 58) ?_
 refine (JP∘Jp 2∘Jj∘JQ∘JB∘JP∘Jp 1∘Jl∘Jp 2∘Jd3∘Jj) (Ji (fun hd5 => ?_) fun hd5 => ?_)
 ·
  exact (JT∘JP∘Jp 2∘Jj∘JZ∘Jz2) fun I => zq (qf8 om) de I.below
 refine (JF∘JP∘Jp 1∘Jl∘Jp 2) (Ju (fun hb13 => ?_) fun hb13 => ?_)
 ·
  intro a Z I
  have hd13 := eq_of_beq hb13
  exact Jb Z I ((Jp 7∘Jd6∘Jj∘JT∘JP∘Jp 2∘Jj∘JZ∘Jz2) fun I => zq (qf8 om) de I.below)
 intro a Z I
 have hd13 := ne_of_beq_false hb13
 revert I; revert a; repeat (first | clear Z | clear I)
 intro a Z I
 obtain ⟨gA, oA, rfl, _⟩ := hr.qr (Nat.lt_of_le_of_lt (Nat.zero_le _) (show 0 < l.length from by omega)) de
 refine Jb Z I ((Jp 1∘Jy (v := vP gA oA) (h:=by exact Yl.indexAddr (ad := ⟨gA, oA, none⟩) (y := 0) (sz := 2) rfl rfl rfl om kr)∘Jy (v := .agg ((l.getD 0 Gr.zero).cells)) (h:=by exact Yl.loadS rfl rfl si_gr rfl (fun _ h => (h.old hr).q9 zk ((getD_at Gr.zero om))))∘Jy (v := .agg #[vI 0, vI 1]) (h:=by exact Yl.build (vs := [(1, vI 1)]) rfl kr kr)∘Jy (v := .bool (!(decide ((l.getD 0 Gr.zero) = ⟨0, 1⟩)))) (h:=by exact Yl.qtt rfl rfl rfl (qo7 (l.getD 0 Gr.zero) ⟨0, 1⟩))∘Jp 2∘Jd6∘Jj) (Ju (fun hb9 => ?_) fun hb9 => ?_))
 ·
  intro a Z I
  have hd9 := of_decide_eq_false ((Bool.not_eq_true' _).mp hb9)
  exact Jb Z I ((JT∘JP∘Jp 2∘Jj∘JZ∘Jz2) fun I => zq (qf8 (fun h => by rw [h.2.2] at hb9; simp at hb9)) de I.below)
 intro a Z I
 have hd9 := of_decide_eq_true ((Bool.not_eq_false' _).mp hb9)
 refine Jb Z I ((JF∘JS'∘JQ∘JP∘Jp 1∘Jj∘JB) fun a Z I => ?_)
 refine qo (fun mS aS wS => ∃ (g : Nat), (1 ≤ g) ∧ (g ≤ l.length) ∧ (UpTo g (gOk l)) ∧ mS = l.length - g ∧ Fr aS 58 [] [(4, vI g), (9, .bool false), (5, .bool false), (3, vI 0), (2, vI 0), (0, .slice (some ⟨gA, oA, none⟩) l.length c)] ∧ Mem w wS []) (m := l.length - 1) ⟨1, Nat.le_refl _, by omega, UpTo.zero.succ (qo6 l), rfl, Z.sub kr, I.pk []⟩ ?_
 clear Z I; rintro mS a w_ ⟨g, hg1, hgl, hu, rfl, Z, I⟩
 refine Jb Z I ((JQ∘JP∘Jp 2∘Jl∘Jp 1∘Jd3∘Jj) (Ju (fun hb23 => ?_) fun hb23 => ?_))
 ·
  intro a Z I
  have hd23 := of_decide_eq_true hb23
  have hg23 : g < l.length := by omega
  have hOk := hok _ (qj Gr.zero hg23)
  have hOp := hOk.parent
  unfold I64 at hOp
  have hOw := hOk.weight
  unfold I64 at hOw
  refine Jb Z I ((JT∘JS'∘JQ∘JB∘JB∘JP∘Jp 2∘Jy (h:=by exact Yl.ix gA oA g 2 rfl rfl rfl)∘Jf 0∘Jy (v := vI ((l.getD g Gr.zero).parent)) (h:=by exact Yl.ql rfl rfl kr (fun _ h => (by have := (h.old hr).partAt zk (k := g) (j := 0) (x := (l.getD g Gr.zero)) ((getD_at Gr.zero om)) rfl; simpa using this)))∘Jp 2) (Ji (fun hd33 => ?_) fun hd33 => ?_))
  ·
   exact (Jv 9 [(26, .bool true)]∘Jd6∘Jj∘JT∘JP∘Jp 3∘Jj∘JZ∘Jz2) fun I => zq (qf9 hg23 (qjl om om)) de I.below
  refine (Jp 2∘Jy (h:=by exact Yl.ix gA oA g 2 rfl rfl rfl)∘Jf 0∘Jy (v := vI ((l.getD g Gr.zero).parent)) (h:=by exact Yl.ql rfl rfl kr (fun _ h => (by have := (h.old hr).partAt zk (k := g) (j := 0) (x := (l.getD g Gr.zero)) ((getD_at Gr.zero om)) rfl; simpa using this)))∘Jp 4∘Jd6∘Jj) (Ju (fun hb26 => ?_) fun hb26 => ?_)
  ·
   intro a Z I
   have hd26 := of_decide_eq_true hb26
   exact Jb Z I ((JT∘JP∘Jp 3∘Jj∘JZ∘Jz2) fun I => zq (qf9 hg23 (qjl om om)) de I.below)
  intro a Z I
  have hd26 := of_decide_eq_false hb26
  have hpg := qmm hu ⟨by omega, by omega⟩
  refine Jb Z I ((JF∘JP∘Jp 2∘Jy (h:=by exact Yl.ix gA oA g 2 rfl rfl rfl)∘Jf 1∘Jy (v := vI ((l.getD g Gr.zero).weight)) (h:=by exact Yl.ql rfl rfl kr (fun _ h => (h.old hr).partAt zk (k := g) (j := 1) (x := (l.getD g Gr.zero)) ((getD_at Gr.zero om)) rfl))∘JL (h:=by exact fun I => qhe ((l.getD g Gr.zero).weight) _)) ?_)
  rintro I _ w49 ⟨rfl, hbw⟩
  refine ⟨_, rfl, _, I.call hbw, ?_⟩
  refine (Jp 2∘Jd6∘Jj) (Ji' (fun hd43 => ?_) fun hd43 => ?_)
  ·
   exact (JT∘JP∘Jp 3∘Jj∘JZ∘Jz2) fun I => zq (qf9 hg23 (qjl om om)) de I.below
  refine (JF∘JP∘Jp 2∘JI (h:=by exact fun I => qmy (some ⟨gA, oA, none⟩) c l g _ (I.old hr) hn om hpg)) fun w55 hbw => (Jp 2∘Jd4∘Jj) (Ji (fun hd52 => ?_) fun hd52 => ?_)
  ·
   exact (JT∘JP∘Jp 3∘Jj∘JZ∘Jz2) fun I => zq (qf9 hg23 (qjl om om)) de I.below
  refine (JF∘JS'∘JR∘Jp 1∘JaK 1∘Jp 1∘Jd2∘Jq) fun a Z I => ?_
  exact ⟨_, om, g + 1, by omega, by omega, hu.succ (qq9 ⟨by omega, by omega, by omega, by omega⟩), rfl, Z.sub kr, I.pk []⟩
 intro a Z I
 have hd23 := of_decide_eq_false hb23
 exact Jb Z I ((JF∘JX∘JG∘JP∘Jp 2∘Jj∘JZ∘Jz2) fun I => by exact qik (qo5 ⟨by omega, by omega, by simpa using hb9⟩ (fun i hi => hu i om)) I.below)
theorem qkv (A : Option Addr) (c : Nat) (l : List Gr) (hok : ∀ x ∈ l, x.Ok) (w : World) (hr : Rd w w.heap.size 2 A l.length (l.flatMap grL)) (hn : l.length ≤ 1000000) :
    Calls Try.prog 41 #[.slice A l.length c] w (Is w (.bool (gsOk l))) := by
 refine (JN1 Try.func41 12) ?_
 refine (JP∘Jp 1∘Jr∘Jp 1∘JL (h:=by exact fun I => qku A c l hok _ (I.old hr) hn)) ?_
 rintro I _ w7 ⟨⟨i, e, rfl, he⟩, hbw⟩
 refine ⟨_, rfl, _, I.call hbw, ?_⟩
 exact (Jp 1∘Jx∘Jx∘Jp 2∘Jd6∘Jr∘Jp 3∘Jd3∘Jj∘JZ∘Jz1) fun I => is_as he I.below
end Go.Proofs.Ytannicghedpdpaa
