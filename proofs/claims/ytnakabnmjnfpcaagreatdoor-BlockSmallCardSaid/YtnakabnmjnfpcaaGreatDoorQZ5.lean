/- Parts. -/
import Derived.Test.YtnakabnmjnfpcaaGreatDoorQZ4
set_option linter.all false
set_option maxRecDepth 100000
set_option maxHeartbeats 8000000
namespace Go.Proofs.YtnakabnmjnfpcaaGreatDoor
open Go.RowKit
theorem qch (b : Bk) (A : Option Addr) (c : Nat) (w : World) (hr : Rd w w.heap.size 11 A b.evs.length (b.evs.flatMap evL)) (hn : b.evs.length ≤ 1000000) :
    Calls Tryz.prog 8 #[.agg (b.cells A c)] w (qoo w b) := by
 refine qg (vs := [.agg (b.cells A c)]) Tryz.func8 rfl rfl (by kernel_rfl) (σ0 := [(0, .agg (b.cells A c))]) rfl ?_
 intro a HF
 have HM := Mem.start w
 refine wp_seq (qa ?_)
 refine fo HF 0 rfl rfl ?_
 refine e_box HF HM (cs := (b.cells A c)) rfl rfl rfl rfl (by decide) ?_
 clear HF HM; intro a w1 g1 HF HM
 refine fo HF 1 rfl rfl ?_
 refine qz HF HM (cs := #[vB 0, vB 0, vI 0, vI 0, .slice none 0 0]) rfl (by kernel_rfl) rfl (by decide) ?_
 clear HF HM; intro a w2 g2 HF HM
 refine qb rfl (wp_seq (qa ?_))
 refine fp HF 1 0 [(6, vP g1 0)] fun a HF => ?_
 refine fy HF HM 1 rfl rfl rfl (v := vB b.kind) (Yl.qh rfl rfl (by kernel_rfl) (fun _ h => h.cell (i := 1) rfl (rfl))) fun a HF => ?_
 refine fp HF 1 2 [(8, vP g1 1)] fun a HF => ?_
 refine fy HF HM 3 rfl rfl rfl (v := vB b.cpu) (Yl.qh rfl rfl (by kernel_rfl) (fun _ h => h.cell (i := 1) rfl (rfl))) fun a HF => ?_
 refine fp HF 1 4 [(10, vP g1 2)] fun a HF => ?_
 refine fy HF HM 5 rfl rfl rfl (v := vI b.lost) (Yl.qh rfl rfl (by kernel_rfl) (fun _ h => h.cell (i := 1) rfl (rfl))) fun a HF => ?_
 refine fp HF 1 6 [(12, vP g1 3)] fun a HF => ?_
 refine fy HF HM 7 rfl rfl rfl (v := vI b.next) (Yl.qh rfl rfl (by kernel_rfl) (fun _ h => h.cell (i := 1) rfl (rfl))) fun a HF => ?_
 refine fy HF HM 8 rfl rfl rfl (v := .agg #[vB b.kind, vB b.cpu, vI b.lost, vI b.next, .slice none 0 0]) (Yl.build (vs := [(0, vB b.kind), (1, vB b.cpu), (2, vI b.lost), (3, vI b.next)]) rfl (by kernel_rfl) (by kernel_rfl)) fun a HF => ?_
 refine fo HF 9 rfl rfl ?_
 refine qz HF HM (cs := #[vB 0, vB 0, vI 0, vI 0, .slice none 0 0]) rfl (by kernel_rfl) rfl (by decide) ?_
 clear HF HM; intro a w3 g3 HF HM
 refine fo HF 10 rfl rfl ?_
 refine e_sa HF HM 0 rfl rfl rfl rfl rfl qw rfl rfl (by simp [Value.oneCell']) ?_
 clear HM; intro w1_10 HM
 refine qb rfl ?_
 replace HM := HM.nil 58 11
 refine wp_seq (wp_seq (qa ?_))
 refine fp HF 1 0 [(15, vP g1 4)] fun a HF => ?_
 refine fy HF HM 1 rfl rfl rfl (v := .slice A b.evs.length c) (Yl.qh rfl rfl (by kernel_rfl) (fun _ h => h.cell (i := 3) rfl (rfl))) fun a HF => ?_
 refine fy HF HM 2 rfl rfl rfl (Yl.len rfl rfl (by kernel_rfl)) fun a HF => ?_
 refine fp HF 1 3 [(18, vI 0)] fun a HF => ?_
 refine qb rfl (wp_block ?_)
 refine qv (fun mS aS wS => ∃ (k : Nat) (Ak : Option Addr) (ck : Nat), (k ≤ b.evs.length) ∧ (k ≤ ck) ∧ mS = b.evs.length - k ∧ Fr aS 30 [] [(18, vI k), (17, vI b.evs.length), (16, .slice A b.evs.length c), (3, vP g3 0), (2, vP g2 0), (1, vP g1 0)] ∧ Mem w wS [.row (.slice Ak k ck) k ((b.evs.take k).flatMap evL) 58 11, .blk g3 #[vB b.kind, vB b.cpu, vI b.lost, vI b.next, .slice Ak k ck] 37, .blk g2 #[vB 0, vB 0, vI 0, vI 0, .slice none 0 0] 37, .blk g1 (b.cells A c) 28]) (m := b.evs.length - 0) ⟨0, none, 0, Nat.zero_le _, Nat.le_refl _, rfl, HF.sub (by kernel_rfl), HM.picks [0, 1, 2, 3] (by decide) rfl⟩ ?_
 clear HF HM; rintro mS a w_ ⟨k, Ak, ck, hk, hck, rfl, HF, HM⟩
 refine wp_seq (qa ?_)
 refine fp HF 1 0 [(19, .bool (decide ((k : Int) < (b.evs.length : Int))))] fun a HF => ?_
 refine qb rfl (wp_seq ?_)
 rcases HF.tf 19 rfl with ⟨hb19, HF⟩ | ⟨hb19, HF⟩
 ·
  have hd19 := of_decide_eq_true hb19
  have hk19 : k < b.evs.length := by omega
  refine qf HF rfl (wp_skip (wp_seq (wp_block (wp_seq (qa ?_)))))
  obtain ⟨gA, oA, rfl, _⟩ := hr.zl (Nat.lt_of_le_of_lt (Nat.zero_le _) (show k < b.evs.length from by omega)) (by decide)
  refine fy HF HM 0 rfl rfl rfl (v := vP gA (oA + k * 11)) (Yl.ix gA oA k 11 rfl rfl rfl) fun a HF => ?_
  refine fy HF HM 1 rfl rfl rfl (v := .agg ((b.evs.getD k Ev.zero).cells)) (Yl.qx rfl rfl ⟨(by kernel_rfl), (by kernel_rfl)⟩ rfl (fun _ h => (h.old hr).qb8 zf ((getD_at Ev.zero (k := k) (by first | omega | (simp; omega)))))) fun a HF => ?_
  refine fo HF 2 rfl rfl ?_
  refine qz HF HM (cs := #[vI 0, vI 0, vB 0, vB 0, vI 0, vI 0, vI 0, vI 0, vI 0, vQ 0, vI 0]) rfl (by kernel_rfl) rfl (by decide) ?_
  clear HF HM; intro a w5 g5 HF HM
  refine fo HF 3 rfl rfl ?_
  refine e_sa HF HM 0 rfl rfl rfl rfl rfl ⟨(by kernel_rfl), (by kernel_rfl)⟩ rfl rfl (zn (b.evs.getD k Ev.zero)) ?_
  clear HM; intro w4_3 HM
  refine qb rfl (qa ?_)
  refine fp HF 1 0 [(22, vP g3 4)] fun a HF => ?_
  refine fy HF HM 1 rfl rfl rfl (Yl.qh rfl rfl (by kernel_rfl) (fun _ h => h.cell (i := 2) rfl rfl)) fun a HF => ?_
  refine fy HF HM 2 rfl rfl rfl (v := .agg ((b.evs.getD k Ev.zero).cells)) (Yl.qx rfl rfl ⟨(by kernel_rfl), (by kernel_rfl)⟩ rfl (fun _ h => qd (h.blk (i := 0) rfl))) fun a HF => ?_
  refine fo HF 3 rfl rfl ?_
  refine qp HF HM (vs := [(0, .agg ((b.evs.getD k Ev.zero).cells))]) (cs := (b.evs.getD k Ev.zero).cells) rfl ql2 (by decide) rfl (by kernel_rfl) rfl (by decide) ?_
  clear HF HM; intro a w25 g25 HF HM
  refine fo HF 4 rfl rfl ?_
  refine qs HF HM (i := 2) rfl ql2 rfl rfl rfl (news := (evL (b.evs.getD k Ev.zero))) (HM.rdBlk (i := 0) (n := 1) (size := 11) rfl rfl) (zn _) (by omega) (by omega) rfl (by decide) ?_
  clear HF HM; intro a w26 A26 c26 HF HM hc26
  rw [show ((b.evs.take k).flatMap evL) ++ (evL (b.evs.getD k Ev.zero)) = (b.evs.take (k + 1)).flatMap evL from by rw [qnu (by omega)]] at HM
  refine fp HF 1 5 [(27, vP g3 4)] fun a HF => ?_
  refine fo HF 6 rfl rfl ?_
  refine zy HF HM (i := 3) (cs := #[vB b.kind, vB b.cpu, vI b.lost, vI b.next, .slice Ak k ck]) rfl rfl rfl rfl (by kernel_rfl) rfl rfl (by simp) ?_
  clear HM; intro w5_6 HM
  refine qb rfl (qa ?_)
  refine fp HF 1 0 [(28, vI (IntKind.i64.wrap ((k : Int) + 1)))] fun a HF => ?_
  replace HF := HF.sp 28 (vI (k + 1 : Nat)) rfl (qk (by omega) (by omega))
  refine fp HF 1 1 [(18, vI (k + 1 : Nat))] fun a HF => ?_
  refine qb rfl ?_
  exact ⟨_, (by omega), k + 1, A26, c26, by omega, hc26, rfl, HF.sub (by kernel_rfl), HM.picks [2, 3, 4, 5] (by decide) rfl⟩
 have hd19 := of_decide_eq_false hb19
 have hkn : k = b.evs.length := by omega
 refine qe HF rfl (wp_exit (wp_seq (qa ?_)))
 refine fy HF HM 0 rfl rfl rfl (v := .agg #[vB b.kind, vB b.cpu, vI b.lost, vI b.next, .slice Ak k ck]) (Yl.qx rfl rfl qw rfl (fun _ h => qd (h.blk (i := 1) rfl))) fun a HF => ?_
 refine fo HF 1 rfl rfl ?_
 refine e_sa HF HM 2 rfl rfl rfl rfl rfl qw rfl rfl (by simp [Value.oneCell']) ?_
 clear HM; intro w7_1 HM
 refine qb rfl (wp_ret ?_)
 exact ret1 rfl HF (.cellS (i := 2) HF HM rfl rfl qw rfl) (⟨⟨Ak, ck, by rw [hkn]; rfl, by have h := HM.own (i := 0) rfl; rw [hkn, List.take_length] at h; exact h, by omega⟩, HM.below⟩)
theorem qjv (b : Bk) (A : Option Addr) (c : Nat) (w : World) (hr : Rd w w.heap.size 11 A b.evs.length (b.evs.flatMap evL)) (hn : b.evs.length ≤ 1000000) :
    Calls Tryz.prog 6 #[.agg (b.cells A c)] w (qyv w b) := by
 refine qg (vs := [.agg (b.cells A c)]) Tryz.func6 rfl rfl (by kernel_rfl) (σ0 := [(0, .agg (b.cells A c))]) rfl ?_
 intro a HF
 have HM := Mem.start w
 refine wp_seq (qa ?_)
 refine fo HF 0 rfl rfl ?_
 refine e_box HF HM (cs := (b.cells A c)) rfl rfl rfl rfl (by decide) ?_
 clear HF HM; intro a w1 g1 HF HM
 refine fo HF 1 rfl rfl ?_
 refine qz HF HM (cs := #[vB 0, vB 0, vI 0, vI 0, .slice none 0 0]) rfl (by kernel_rfl) rfl (by decide) ?_
 clear HF HM; intro a w2 g2 HF HM
 refine qb rfl (wp_seq (qa ?_))
 refine fo HF 0 rfl rfl ?_
 refine qb5 HF HM rfl ei_ev rfl (by decide) ?_
 clear HF HM; intro a w3 g3 HF HM
 refine fp HF 1 1 [(4, vP g1 4)] fun a HF => ?_
 refine fy HF HM 2 rfl rfl rfl (v := .slice A b.evs.length c) (Yl.qh rfl rfl (by kernel_rfl) (fun _ h => h.cell (i := 2) rfl (rfl))) fun a HF => ?_
 refine fo HF 3 rfl rfl ?_
 refine qs HF HM (i := 0) rfl ei_ev rfl rfl rfl (news := (b.evs.flatMap evL)) (HM.old hr) (qxm _) (by omega) (by omega) rfl (by decide) ?_
 clear HF HM; intro a w6 A6 c6 HF HM hc6
 refine fp HF 1 4 [(7, vP g1 4)] fun a HF => ?_
 refine fo HF 5 rfl rfl ?_
 refine zy HF HM (i := 2) (cs := (b.cells A c)) rfl rfl rfl rfl (by kernel_rfl) rfl rfl (by simp [Bk.cells]) ?_
 clear HM; intro w1_5 HM
 refine qb rfl (wp_seq (qa ?_))
 refine fy HF HM 0 rfl rfl rfl (v := .agg #[vB b.kind, vB b.cpu, vI b.lost, vI b.next, .slice A6 (0 + b.evs.length) c6]) (Yl.qx rfl rfl si_bk rfl (fun _ h => qd (h.blk (i := 2) rfl))) fun a HF => ?_
 refine fo HF 1 rfl rfl ?_
 refine e_sa HF HM 1 rfl rfl rfl rfl rfl si_bk rfl rfl (by simp [Value.oneCell']) ?_
 clear HM; intro w2_1 HM
 refine qb rfl (wp_ret ?_)
 exact ret1 rfl HF (.cellS (i := 1) HF HM rfl rfl si_bk rfl) (⟨⟨A6, c6, by rw [Nat.zero_add]; rfl, by have h := HM.own (i := 0) rfl; rw [Nat.zero_add, List.nil_append] at h; exact h, by omega⟩, HM.below⟩)
theorem qtw (A : Option Addr) (n c : Nat) (l : List Nat) (w : World) (hr : Rd w w.heap.size 1 A n (l.map B8)) (hn : n ≤ 140737488351232) (hln : l.length = n) :
  Calls Tryz.prog 25 #[.slice A n c] w fun r w' => (∃ A c, r = .returned (.slice A n c) ∧ w'.ownsRow w.heap.size 5 1 (.slice A (n + 12) c) (n + 12) ((l ++ marks 12).map B8) ∧ n + 12 ≤ c) ∧ Below w.heap.size w w' := by
 have h := qv5 A n c l w hr hn hln
 unfold qwu at h
 rwa [hln] at h
theorem qqm (A : Option Addr) (n cp : Nat) (l : List Nat) (w : World) (hr : Rd w w.heap.size 1 A n (l.map B8)) (hc : n ≤ cp) (hln : l.length = n) (hn : n ≤ 100000000) (hl : ∀ b ∈ l, b < 256) {b : Bk} {m er : Nat} (h : readB l = (b, m, er)) :
  Calls Tryz.prog 29 #[.slice A n cp] w fun r w' => (∃ A c, r = .returned (.tuple #[.agg (b.cells A c), .int .i64 (m : Int), .int .i64 (er : Int)]) ∧ w'.ownsRow w.heap.size 58 11 (.slice A b.evs.length c) b.evs.length (b.evs.flatMap evL) ∧ b.evs.length ≤ c) ∧ Below w.heap.size w w' := by
 have h1 := qnt A n cp l w hr hc hln hn hl
 rw [qsr hl, h] at h1
 exact h1
theorem qil (b : Bk) (A A2 : Option Addr) (c c2 : Nat) (w : World) (hr : Rd w w.heap.size 11 A b.evs.length (b.evs.flatMap evL)) (hr2 : Rd w w.heap.size 11 A2 b.evs.length (b.evs.flatMap evL)) (hn : b.evs.length ≤ 1000000) :
  Calls Tryz.prog 20 #[.agg (b.cells A c), .agg (b.cells A2 c2)] w (Is w (.bool true)) := by
 have h := qjs b b A A2 c c2 w hr hr2 hn
 rwa [decide_eq_true rfl] at h
theorem qtx (b : Bk) (A A2 : Option Addr) (c c2 : Nat) (w : World) (hr : Rd w w.heap.size 11 A b.evs.length (b.evs.flatMap evL)) (hr2 : Rd w w.heap.size 11 A2 b.evs.length (b.evs.flatMap evL)) (hn : b.evs.length ≤ 1000000) :
  Calls Tryz.prog 21 #[.agg (b.cells A c), .agg (b.cells A2 c2)] w (Is w (.bool true)) := by
 have h := qog b b A A2 c c2 w hr hr2 hn
 rwa [decide_eq_true rfl] at h
theorem qty {l : List Nat} (hl : ∀ x ∈ l, x < 256) {b : Bk} {m er : Nat} (h : readB l = (b, m, er)) : b.evs.length ≤ 1000000 := by
 rw [← qsr hl] at h
 unfold refB at h
 split at h
 ·injection h with h; subst h; simp [Bk.zero]
 ·split at h
  ·rename_i b' hb
   injection h with h; subst h
   unfold refOf at hb
   split at hb
   ·cases hb
   ·split at hb
    ·cases hb
    ·split at hb
     ·cases hb
     ·split at hb
      ·cases hb
      ·split at hb
       ·cases hb
       ·injection hb with hb; subst hb; exact qd2 _ _
  ·injection h with h; subst h; simp [Bk.zero]
theorem qmj (A : Option Addr) (n c : Nat) (l : List Nat) (b : Bk) (m er : Nat) (hq : readB l = (b, m, er)) (hbn : b.evs.length ≤ 1000000) (B : Nat) (w : World) (hL : LaidX B w) (hB : B ≤ w.heap.size) (hr : Rd w w.heap.size 1 A n (l.map B8)) (hc : n ≤ c) (hln : l.length = n) (hn : n ≤ 1000000) (hl : ∀ b ∈ l, b < 256) :
    Calls Tryz.prog 9 #[.slice A n c] w (Is w (.bool true)) := by
 refine qg (vs := [.slice A n c]) Tryz.func9 rfl rfl (by kernel_rfl) (σ0 := [(0, .slice A n c)]) rfl ?_
 intro a HF
 have HM := Mem.start w
 refine wp_seq (qa ?_)
 refine fp HF 1 0 [(2, .bool false)] fun a HF => ?_
 refine qb rfl (wp_seq (qa ?_))
 refine fp HF 1 0 [(15, .slice A n c)] fun a HF => ?_
 refine fo HF 1 rfl rfl ?_
 refine e_cl HF [.slice A n c] rfl rfl (qtw _ n _ l _ (HM.old hr) (by omega) hln) ?_
 rintro _ w16 ⟨⟨A16, c16, rfl, ho, hc16⟩, hbw⟩
 refine ⟨_, rfl, ?_⟩
 replace HM := HM.callRow hbw ho
 clear HF; intro a HF
 refine fp HF 1 2 [(3, .slice A16 n c16)] fun a HF => ?_
 refine qb rfl (wp_seq (qa ?_))
 refine fp HF 1 0 [(18, .slice A16 n c16)] fun a HF => ?_
 refine fo HF 1 rfl rfl ?_
 refine e_is HF HM [.slice A16 n c16] (.tuple #[vI ((lenR l).1), vI ((lenR l).2)]) rfl rfl (qgs _ n _ l _ ((HM.rd (i := 0) rfl).pre hln (by omega)) hln (by omega) hl) fun w19 hbw HM a HF => ?_
 refine fp HF 5 2 [(5, vI ((lenR l).2)), (4, vI ((lenR l).1))] fun a HF => ?_
 refine qb rfl (wp_seq (qa ?_))
 refine fp HF 1 0 [(23, .slice A n c)] fun a HF => ?_
 refine fo HF 1 rfl rfl ?_
 refine e_is HF HM [.slice A n c] (.tuple #[vI ((lenR l).1), vI ((lenR l).2)]) rfl rfl (qhe _ n _ l _ (HM.old hr) hln (by omega) hl) fun w24 hbw HM a HF => ?_
 refine fp HF 5 2 [(7, vI ((lenR l).2)), (6, vI ((lenR l).1))] fun a HF => ?_
 refine qb rfl (wp_seq (qa ?_))
 refine fp HF 1 0 [(28, .slice A16 n c16)] fun a HF => ?_
 refine fo HF 1 rfl rfl ?_
 refine e_cl HF [.slice A16 n c16] rfl rfl (qhm _ n _ l B _ (hL.mem HM hB) (HM.le hB) ((HM.rd (i := 0) rfl).pre hln (by omega)) (by omega) hln (by omega) hl hq) ?_
 rintro _ w29 ⟨⟨A29, c29, rfl, ho, hc29⟩, hbw⟩
 refine ⟨_, rfl, ?_⟩
 replace HM := HM.callRow hbw ho
 clear HF; intro a HF
 refine fp HF 4 2 [(32, vI er), (31, vI m), (30, .agg (b.cells A29 c29))] fun a HF => ?_
 refine fo HF 6 rfl rfl ?_
 refine qz HF HM (cs := #[vB 0, vB 0, vI 0, vI 0, .slice none 0 0]) rfl (by kernel_rfl) rfl (by decide) ?_
 clear HF HM; intro a w8 g8 HF HM
 refine fo HF 7 rfl rfl ?_
 refine e_sa HF HM 0 rfl rfl rfl rfl rfl si_bk rfl rfl (qcd _ _ _) ?_
 clear HM; intro w4_7 HM
 refine fp HF 2 8 [(10, vI er), (9, vI m)] fun a HF => ?_
 refine qb rfl (wp_seq (qa ?_))
 refine fp HF 1 0 [(34, .slice A n c)] fun a HF => ?_
 refine fo HF 1 rfl rfl ?_
 refine e_cl HF [.slice A n c] rfl rfl (qqm _ n _ l _ (HM.old hr) hc hln (by omega) hl hq) ?_
 rintro _ w35 ⟨⟨A35, c35, rfl, ho, hc35⟩, hbw⟩
 refine ⟨_, rfl, ?_⟩
 replace HM := HM.callRow hbw ho
 clear HF; intro a HF
 refine fp HF 4 2 [(38, vI er), (37, vI m), (36, .agg (b.cells A35 c35))] fun a HF => ?_
 refine fo HF 6 rfl rfl ?_
 refine qz HF HM (cs := #[vB 0, vB 0, vI 0, vI 0, .slice none 0 0]) rfl (by kernel_rfl) rfl (by decide) ?_
 clear HF HM; intro a w11 g11 HF HM
 refine fo HF 7 rfl rfl ?_
 refine e_sa HF HM 0 rfl rfl rfl rfl rfl qw rfl rfl (qcd _ _ _) ?_
 clear HM; intro w5_7 HM
 refine fp HF 2 8 [(13, vI er), (12, vI m)] fun a HF => ?_
 refine qb rfl (wp_seq (wp_seq ?_))
 refine zw HM [.blk g11 (b.cells A35 c35) 37, .row (.slice A35 b.evs.length c35) b.evs.length (b.evs.flatMap evL) 58 11, .blk g8 (b.cells A29 c29) 28, .row (.slice A29 b.evs.length c29) b.evs.length (b.evs.flatMap evL) 24 11, .row (.slice A16 (n + 12) c16) (n + 12) ((l ++ marks 12).map B8) 5 1] [0, 1, 2, 3, 4] [] fun HM HS => ?_
 refine ap HF (fun _ => HS) [0, 1] #[true, true, false, false, false, false, false, false, false, false, false, false, false, false, false, false, false, false, false, false, false, false, false, false, false] [(40, vI ((lenR l).1)), (39, vI ((lenR l).1))] fun a HF => ?_
 refine qo HF (fun _ => HS) (i := 2) rfl rfl (d := 41) rfl (by decide) (by kernel_rfl) (fun _ _ _ h => h) (v := .bool (((lenR l).1 : Int) != ((lenR l).1 : Int))) (fun _ => Yl.pure (by kernel_rfl)) fun a HF => ?_
 replace HF := HF.sp 41 (.bool false) rfl (by simp)
 refine ap HF (fun _ => HS) [3, 4, 5] #[true, true, true, true, true, true, false, false, false, false, false, false, false, false, false, false, false, false, false, false, false, false, false, false, false] [(44, vI ((lenR l).2)), (43, vI ((lenR l).2)), (42, .bool false)] fun a HF => ?_
 refine qo HF (fun _ => HS) (i := 6) rfl rfl (d := 45) rfl (by decide) (by kernel_rfl) (fun _ _ _ h => h) (v := .bool (((lenR l).2 : Int) != ((lenR l).2 : Int))) (fun _ => Yl.pure (by kernel_rfl)) fun a HF => ?_
 replace HF := HF.sp 45 (.bool false) rfl (by simp)
 refine ap HF (fun _ => HS) [7, 8, 9, 10] #[true, true, true, true, true, true, true, true, true, true, true, false, false, false, false, false, false, false, false, false, false, false, false, false, false] [(49, vI m), (48, vI m), (47, .bool false)] fun a HF => ?_
 refine qo HF (fun _ => HS) (i := 11) rfl rfl (d := 50) rfl (by decide) (by kernel_rfl) (fun _ _ _ h => h) (v := .bool ((m : Int) != (m : Int))) (fun _ => Yl.pure (by kernel_rfl)) fun a HF => ?_
 replace HF := HF.sp 50 (.bool false) rfl (by simp)
 refine ap HF (fun _ => HS) [12, 13, 14, 15] #[true, true, true, true, true, true, true, true, true, true, true, true, true, true, true, true, false, false, false, false, false, false, false, false, false] [(54, vI er), (53, vI er), (52, .bool false)] fun a HF => ?_
 refine qo HF (fun _ => HS) (i := 16) rfl rfl (d := 55) rfl (by decide) (by kernel_rfl) (fun _ _ _ h => h) (v := .bool ((er : Int) != (er : Int))) (fun _ => Yl.pure (by kernel_rfl)) fun a HF => ?_
 replace HF := HF.sp 55 (.bool false) rfl (by simp)
 refine ap HF (fun _ => HS) [17, 18] #[true, true, true, true, true, true, true, true, true, true, true, true, true, true, true, true, true, true, true, false, false, false, false, false, false] [(57, .bool false)] fun a HF => ?_
 refine ay HF HS 19 rfl rfl rfl (v := .agg (b.cells A29 c29)) (Yl.qx rfl rfl si_bk rfl (fun _ h => qd (h.blk (i := 2) rfl))) fun a HF => ?_
 refine ay HF HS 21 rfl rfl rfl (v := .agg (b.cells A35 c35)) (Yl.qx rfl rfl qw rfl (fun _ h => qd (h.blk (i := 0) rfl))) fun a HF => ?_
 refine qi [20] (by kernel_rfl) rfl ?_
 refine all_cons ?_ all_nil
 refine qj HF (i := 20) rfl rfl ?_
 refine e_cl HF [.agg (b.cells A29 c29)] rfl rfl (qch b A29 c29 _ (HM.rd (i := 3) rfl) hbn) ?_
 rintro _ w59 ⟨⟨A59, c59, rfl, ho, hc59⟩, hbw⟩
 refine ⟨_, rfl, ?_⟩
 replace HM := HM.callRow hbw ho
 clear HF; intro a HF
 refine keepS (HM.picks [1, 2, 3, 4, 5] (by decide) rfl) (fun HS => ?_)
 refine qi [22] (by kernel_rfl) rfl ?_
 refine all_cons ?_ all_nil
 refine qj HF (i := 22) rfl rfl ?_
 refine e_is HF HM [.agg (b.cells A59 c59), .agg (b.cells A35 c35)] (.bool true) rfl rfl (qil b A59 A35 c59 c35 _ (HM.rd (i := 0) rfl) (HM.rd (i := 2) rfl) hbn) fun w61 hbw HM a HF => ?_
 refine keepS (HM.picks [1, 2, 3, 4, 5] (by decide) rfl) (fun HS => ?_)
 refine ap HF (fun _ => HS) [23, 24] #[true, true, true, true, true, true, true, true, true, true, true, true, true, true, true, true, true, true, true, true, true, true, true, true, true] [(63, .bool false)] fun a HF => ?_
 refine qm (by kernel_rfl) ?_
 replace HF := HF.to [(63, .bool false), (11, vP g11 0), (8, vP g8 0), (3, .slice A16 n c16), (2, .bool false), (0, .slice A n c)]
 refine qe HF rfl (wp_skip (wp_seq (wp_seq (qa ?_))))
 refine fp HF 1 0 [(64, vP g8 4)] fun a HF => ?_
 refine fy HF HM 1 rfl rfl rfl (v := .slice A29 b.evs.length c29) (Yl.qh rfl rfl (by kernel_rfl) (fun _ h => h.cell (i := 3) rfl (rfl))) fun a HF => ?_
 refine fy HF HM 2 rfl rfl rfl (Yl.len rfl rfl (by kernel_rfl)) fun a HF => ?_
 refine fp HF 1 3 [(67, vI 0)] fun a HF => ?_
 refine qb rfl ?_
 replace HM := HM.asRow (i := 4) (ys := (updUp qhf b.evs 0).flatMap evL) rfl (by rw [qjt])
 refine wp_block ?_
 refine qv (fun mS aS wS => ∃ (k : Nat), (k ≤ b.evs.length) ∧ mS = b.evs.length - k ∧ Fr aS 79 [] [(67, vI k), (66, vI b.evs.length), (63, .bool false), (11, vP g11 0), (8, vP g8 0), (3, .slice A16 n c16), (2, .bool false), (0, .slice A n c)] ∧ Mem w wS [.row (.slice A59 b.evs.length c59) b.evs.length (b.evs.flatMap evL) 58 11, .blk g11 (b.cells A35 c35) 37, .row (.slice A35 b.evs.length c35) b.evs.length (b.evs.flatMap evL) 58 11, .blk g8 (b.cells A29 c29) 28, .row (.slice A29 b.evs.length c29) b.evs.length ((updUp qhf b.evs k).flatMap evL) 24 11, .row (.slice A16 (n + 12) c16) (n + 12) ((l ++ marks 12).map B8) 5 1]) (m := b.evs.length - 0) ⟨0, Nat.zero_le _, rfl, HF.sub (by kernel_rfl), HM.picks [0, 1, 2, 3, 4, 5] (by decide) rfl⟩ ?_
 clear HF HM; rintro mS a w_ ⟨k, hk, rfl, HF, HM⟩
 refine wp_seq (qa ?_)
 refine fp HF 1 0 [(68, .bool (decide ((k : Int) < (b.evs.length : Int))))] fun a HF => ?_
 refine qb rfl (wp_seq ?_)
 rcases HF.tf 68 rfl with ⟨hb68, HF⟩ | ⟨hb68, HF⟩
 ·
  have hd68 := of_decide_eq_true hb68
  have hk68 : k < b.evs.length := by omega
  refine qf HF rfl (wp_skip (wp_seq (wp_block (wp_seq (qa ?_)))))
  refine fp HF 2 0 [(14, vI k)] fun a HF => ?_
  refine qb rfl (qa ?_)
  refine fp HF 1 0 [(70, vP g8 4)] fun a HF => ?_
  refine fy HF HM 1 rfl rfl rfl (v := .slice A29 b.evs.length c29) (Yl.qh rfl rfl (by kernel_rfl) (fun _ h => h.cell (i := 3) rfl (rfl))) fun a HF => ?_
  refine fp HF 1 2 [(72, vI k)] fun a HF => ?_
  obtain ⟨gA29, rfl⟩ := qa7 (HM.own (i := 4) rfl) (Nat.lt_of_le_of_lt (Nat.zero_le _) (show k < b.evs.length from by omega))
  refine fy HF HM 3 rfl rfl rfl (v := vP gA29 (k * 11)) (Yl.ix0 gA29 k 11 rfl rfl rfl) fun a HF => ?_
  refine fp HF 1 4 [(74, vP gA29 (k * 11))] fun a HF => ?_
  refine fo HF 5 rfl rfl ?_
  refine qdb HF HM (i := 4) rfl rfl rfl rfl (by kernel_rfl) rfl rfl (by simp only [qbi evL 11 zf, qik]; omega) ?_
  clear HM; intro w11_5 HM
  replace HM := HM.asRow (i := 4) (ys := (updUp qhf b.evs (k + 1)).flatMap evL) rfl ((qpf evL 11 zf (updUp qhf b.evs k) k (b.evs.getD k Ev.zero) (qhf (b.evs.getD k Ev.zero)) (qo5 qhf b.evs Ev.zero hk68) 0 (by omega) (.int .i64 (-1)) (qqj _)).trans (by rw [qju qhf b.evs Ev.zero hk68]))
  refine qb rfl (qa ?_)
  refine fp HF 1 0 [(75, vI (IntKind.i64.wrap ((k : Int) + 1)))] fun a HF => ?_
  replace HF := HF.sp 75 (vI (k + 1 : Nat)) rfl (qk (by omega) (by omega))
  refine fp HF 1 1 [(67, vI (k + 1 : Nat))] fun a HF => ?_
  refine qb rfl ?_
  exact ⟨_, (by omega), k + 1, by omega, rfl, HF.sub (by kernel_rfl), HM.picks [0, 1, 2, 3, 4, 5] (by decide) rfl⟩
 have hd68 := of_decide_eq_false hb68
 refine qe HF rfl (wp_exit (wp_seq (qa ?_)))
 refine fp HF 2 0 [(77, .slice A n c), (76, .slice A16 n c16)] fun a HF => ?_
 refine fo HF 2 rfl rfl ?_
 refine e_cl HF [.slice A16 n c16, .slice A n c] rfl rfl (qv6 _ _ n _ _ l _ (HM.rd (i := 5) rfl) hc16 (HM.old hr) (by omega) hln) ?_
 rintro _ w78 ⟨rfl, hbw⟩
 refine ⟨_, rfl, ?_⟩
 replace HM := HM.call hbw
 clear HF; intro a HF
 refine fp HF 1 3 [(2, .bool true)] fun a HF => ?_
 refine qb rfl (wp_ret ?_)
 exact ret1 rfl HF (.tmp HF rfl) (⟨rfl, HM.below⟩)
theorem qnv (A : Option Addr) (n c : Nat) (l : List Nat) (B : Nat) (w : World) (hL : LaidX B w) (hB : B ≤ w.heap.size) (hr : Rd w w.heap.size 1 A n (l.map B8)) (hc : n ≤ c) (hln : l.length = n) (hn : n ≤ 1000000) (hl : ∀ b ∈ l, b < 256) :
  Calls Tryz.prog 9 #[.slice A n c] w (Is w (.bool true)) :=
 qmj A n c l _ _ _ rfl (qty (b := (readB l).1) (m := (readB l).2.1) (er := (readB l).2.2) hl rfl) B w hL hB hr hc hln hn hl
theorem qxo (x : Nat) : Value.int .u8 (Go.IntKind.u8.wrap ((x : Int) + 1)) = .int .u8 ((incB x : Nat) : Int) := by
 have h := qa9 (x + 1)
 rw [show ((x + 1 : Nat) : Int) = (x : Int) + 1 by omega] at h
 exact h
theorem qd3 (b d : Bk) (hok : b.Ok) (hdk : d.Ok) (A A2 : Option Addr) (c c2 B : Nat) (w : World) (hL : LaidX B w) (hB : B ≤ w.heap.size) (hr : Rd w w.heap.size 11 A b.evs.length (b.evs.flatMap evL)) (hr2 : Rd w w.heap.size 11 A2 d.evs.length (d.evs.flatMap evL)) (hbn : b.evs.length ≤ 1000000) (hdn : d.evs.length ≤ 1000000) :
    Calls Tryz.prog 5 #[.agg (b.cells A c), .agg (d.cells A2 c2)] w (Is w (.bool true)) := by
 refine qg (vs := [.agg (b.cells A c), .agg (d.cells A2 c2)]) Tryz.func5 rfl rfl (by kernel_rfl) (σ0 := [(0, .agg (b.cells A c)), (1, .agg (d.cells A2 c2))]) rfl ?_
 intro a HF
 have HM := Mem.start w
 refine wp_seq (qa ?_)
 refine fo HF 0 rfl rfl ?_
 refine e_box HF HM (cs := (b.cells A c)) rfl rfl rfl rfl (by decide) ?_
 clear HF HM; intro a w2 g2 HF HM
 refine fo HF 1 rfl rfl ?_
 refine e_box HF HM (cs := (d.cells A2 c2)) rfl rfl rfl rfl (by decide) ?_
 clear HF HM; intro a w3 g3 HF HM
 refine fp HF 1 2 [(4, .bool false)] fun a HF => ?_
 refine qb rfl (wp_seq (qa ?_))
 refine fy HF HM 0 rfl rfl rfl (v := .agg (b.cells A c)) (Yl.qx rfl rfl si_bk rfl (fun _ h => qd (h.blk (i := 1) rfl))) fun a HF => ?_
 refine fo HF 1 rfl rfl ?_
 refine e_cl HF [.agg (b.cells A c)] rfl rfl (qjv b A c _ (HM.old hr) (by omega)) ?_
 rintro _ w19 ⟨⟨A19, c19, rfl, ho, hc19⟩, hbw⟩
 refine ⟨_, rfl, ?_⟩
 replace HM := HM.callRow hbw ho
 clear HF; intro a HF
 refine fo HF 2 rfl rfl ?_
 refine qz HF HM (cs := #[vB 0, vB 0, vI 0, vI 0, .slice none 0 0]) rfl (by kernel_rfl) rfl (by decide) ?_
 clear HF HM; intro a w5 g5 HF HM
 refine fo HF 3 rfl rfl ?_
 refine e_sa HF HM 0 rfl rfl rfl rfl rfl si_bk rfl rfl (qcd _ _ _) ?_
 clear HM; intro w1_3 HM
 refine qb rfl (wp_seq (qa ?_))
 refine fy HF HM 0 rfl rfl rfl (v := .agg (b.cells A c)) (Yl.qx rfl rfl si_bk rfl (fun _ h => qd (h.blk (i := 3) rfl))) fun a HF => ?_
 refine fo HF 1 rfl rfl ?_
 refine e_cl HF [.agg (b.cells A c)] rfl rfl (qch b A c _ (HM.old hr) (by omega)) ?_
 rintro _ w21 ⟨⟨A21, c21, rfl, ho, hc21⟩, hbw⟩
 refine ⟨_, rfl, ?_⟩
 replace HM := HM.callRow hbw ho
 clear HF; intro a HF
 refine fo HF 2 rfl rfl ?_
 refine qz HF HM (cs := #[vB 0, vB 0, vI 0, vI 0, .slice none 0 0]) rfl (by kernel_rfl) rfl (by decide) ?_
 clear HF HM; intro a w6 g6 HF HM
 refine fo HF 3 rfl rfl ?_
 refine e_sa HF HM 0 rfl rfl rfl rfl rfl qw rfl rfl (qcd _ _ _) ?_
 clear HM; intro w2_3 HM
 refine qb rfl (wp_seq (qa ?_))
 refine fy HF HM 0 rfl rfl rfl (v := .agg (b.cells A19 c19)) (Yl.qx rfl rfl si_bk rfl (fun _ h => qd (h.blk (i := 2) rfl))) fun a HF => ?_
 refine fo HF 1 rfl rfl ?_
 refine e_cl HF [.agg (b.cells A19 c19)] rfl rfl (qia b hok A19 c19 B _ (hL.mem HM hB) (HM.le hB) (HM.rd (i := 3) rfl) (by omega) (rfl) (rfl)) ?_
 rintro _ w24 ⟨⟨A24, c24, rfl, ho, hc24⟩, hbw⟩
 refine ⟨_, rfl, ?_⟩
 replace HM := HM.callRow hbw ho
 clear HF; intro a HF
 refine fp HF 5 2 [(8, vI b.err), (7, .slice A24 ((b.out).length) c24)] fun a HF => ?_
 refine qb rfl (wp_seq (qa ?_))
 refine fy HF HM 0 rfl rfl rfl (v := .agg (b.cells A21 c21)) (Yl.qx rfl rfl qw rfl (fun _ h => qd (h.blk (i := 1) rfl))) fun a HF => ?_
 refine fo HF 1 rfl rfl ?_
 refine e_cl HF [.agg (b.cells A21 c21)] rfl rfl (qns b hok A21 c21 _ (HM.rd (i := 2) rfl) (by omega)) ?_
 rintro _ w29 ⟨⟨A29, c29, rfl, ho, hc29⟩, hbw⟩
 refine ⟨_, rfl, ?_⟩
 replace HM := HM.callRow hbw ho
 clear HF; intro a HF
 refine fp HF 5 2 [(10, vI b.err), (9, .slice A29 ((b.out).length) c29)] fun a HF => ?_
 refine qb rfl (wp_seq (qa ?_))
 refine fy HF HM 0 rfl rfl rfl (v := .agg (b.cells A19 c19)) (Yl.qx rfl rfl si_bk rfl (fun _ h => qd (h.blk (i := 4) rfl))) fun a HF => ?_
 refine fo HF 1 rfl rfl ?_
 refine e_is HF HM [.agg (b.cells A19 c19)] (.tuple #[vI b.out.length, vI b.err]) rfl rfl (qoh b hok A19 c19 B _ (hL.mem HM hB) (HM.le hB) (HM.rd (i := 5) rfl) (by omega) (rfl) (rfl)) fun w34 hbw HM a HF => ?_
 refine fp HF 5 2 [(12, vI b.err), (11, vI b.out.length)] fun a HF => ?_
 refine qb rfl (wp_seq (qa ?_))
 refine fy HF HM 0 rfl rfl rfl (v := .agg (b.cells A19 c19)) (Yl.qx rfl rfl si_bk rfl (fun _ h => qd (h.blk (i := 4) rfl))) fun a HF => ?_
 refine fo HF 1 rfl rfl ?_
 refine e_is HF HM [.agg (b.cells A19 c19)] (.tuple #[vI b.fill.1, vI b.fill.2]) rfl rfl (qtu b hok A19 c19 B _ (hL.mem HM hB) (HM.le hB) (HM.rd (i := 5) rfl) (by omega)) fun w39 hbw HM a HF => ?_
 refine fp HF 5 2 [(14, vI b.fill.2), (13, vI b.fill.1)] fun a HF => ?_
 refine qb rfl (wp_seq (qa ?_))
 refine fy HF HM 0 rfl rfl rfl (v := .agg (b.cells A21 c21)) (Yl.qx rfl rfl qw rfl (fun _ h => qd (h.blk (i := 2) rfl))) fun a HF => ?_
 refine fo HF 1 rfl rfl ?_
 refine e_is HF HM [.agg (b.cells A21 c21)] (.tuple #[vI b.fill.1, vI b.fill.2]) rfl rfl (qqe b hok A21 c21 _ (HM.rd (i := 3) rfl) (by omega) (by omega)) fun w44 hbw HM a HF => ?_
 refine fp HF 5 2 [(16, vI b.fill.2), (15, vI b.fill.1)] fun a HF => ?_
 refine qb rfl (wp_seq (wp_seq (qa ?_)))
 refine fp HF 3 0 [(49, .bool ((b.err : Int) != (b.err : Int)))] fun a HF => ?_
 replace HF := HF.sp 49 (.bool false) rfl (by simp)
 refine fp HF 4 3 [(53, .bool ((b.err : Int) != (b.err : Int))), (50, .bool false)] fun a HF => ?_
 replace HF := HF.sp 53 (.bool false) rfl (by simp)
 refine fp HF 2 7 [(55, .bool false)] fun a HF => ?_
 refine fy HF HM 9 rfl rfl rfl (v := .agg (b.cells A19 c19)) (Yl.qx rfl rfl si_bk rfl (fun _ h => qd (h.blk (i := 4) rfl))) fun a HF => ?_
 refine fo HF 10 rfl rfl ?_
 refine e_is HF HM [.agg (b.cells A19 c19)] (vI b.err) rfl rfl (qib b hok A19 c19 B _ (hL.mem HM hB) (HM.le hB) (HM.rd (i := 5) rfl) (by omega) (rfl)) fun w57 hbw HM a HF => ?_
 refine fp HF 2 11 [(59, .bool ((b.err : Int) != (b.err : Int)))] fun a HF => ?_
 replace HF := HF.sp 59 (.bool false) rfl (by simp)
 refine fp HF 3 13 [(62, .slice A24 ((b.out).length) c24), (61, .bool false)] fun a HF => ?_
 refine fy HF HM 16 rfl rfl rfl (v := .string (bstr b.out)) (Yl.str rfl rfl (fun _ h => h.rd (i := 1) rfl)) fun a HF => ?_
 refine fp HF 1 17 [(64, .slice A29 ((b.out).length) c29)] fun a HF => ?_
 refine fy HF HM 18 rfl rfl rfl (v := .string (bstr b.out)) (Yl.str rfl rfl (fun _ h => h.rd (i := 0) rfl)) fun a HF => ?_
 refine fp HF 1 19 [(66, .bool (!(((bstr b.out)).toList == ((bstr b.out)).toList)))] fun a HF => ?_
 replace HF := HF.sp 66 (.bool false) rfl (by simp)
 refine fp HF 4 20 [(70, .slice A29 ((b.out).length) c29), (69, vI b.out.length), (68, .bool false)] fun a HF => ?_
 refine fy HF HM 24 rfl rfl rfl (Yl.len rfl rfl (by kernel_rfl)) fun a HF => ?_
 refine fp HF 1 25 [(72, .bool ((b.out.length : Int) != (((b.out).length : Nat) : Int)))] fun a HF => ?_
 replace HF := HF.sp 72 (.bool false) rfl (by simp)
 refine fp HF 5 26 [(77, .bool ((b.fill.2 : Int) != (b.fill.2 : Int))), (74, .bool false)] fun a HF => ?_
 replace HF := HF.sp 77 (.bool false) rfl (by simp)
 refine fp HF 5 31 [(82, .bool ((b.fill.1 : Int) != (b.fill.1 : Int))), (79, .bool false)] fun a HF => ?_
 replace HF := HF.sp 82 (.bool false) rfl (by simp)
 refine fp HF 1 36 [(83, .bool false)] fun a HF => ?_
 refine qb rfl ?_
 replace HF := HF.to [(83, .bool false), (7, .slice A24 ((b.out).length) c24), (6, vP g6 0), (5, vP g5 0), (4, .bool false), (3, vP g3 0), (2, vP g2 0)]
 refine qe HF rfl (wp_skip (wp_seq (wp_seq (qa ?_))))
 refine fp HF 1 0 [(84, .slice A24 ((b.out).length) c24)] fun a HF => ?_
 refine fy HF HM 1 rfl rfl rfl (Yl.len rfl rfl (by kernel_rfl)) fun a HF => ?_
 refine fp HF 1 2 [(86, vI 0)] fun a HF => ?_
 refine qb rfl ?_
 replace HM := HM.asRow (i := 1) (ys := (updUp incB b.out 0).map B8) rfl (by rw [qjt])
 refine wp_block ?_
 replace HM := HM.picks (fs' := [.row (.slice A24 ((b.out).length) c24) ((b.out).length) ((updUp incB b.out 0).map B8) 5 1, .blk g6 (b.cells A21 c21) 37, .row (.slice A21 b.evs.length c21) b.evs.length (b.evs.flatMap evL) 58 11, .blk g5 (b.cells A19 c19) 28, .row (.slice A19 b.evs.length c19) b.evs.length (b.evs.flatMap evL) 24 11, .blk g3 (d.cells A2 c2) 28, .blk g2 (b.cells A c) 28]) [1, 2, 3, 4, 5, 6, 7] (by decide) rfl
 refine qv (fun mS aS wS => ∃ (k : Nat), (k ≤ b.out.length) ∧ mS = b.out.length - k ∧ Fr aS 115 [] [(86, vI k), (85, vI ((b.out).length : Nat)), (83, .bool false), (7, .slice A24 ((b.out).length) c24), (6, vP g6 0), (5, vP g5 0), (4, .bool false), (3, vP g3 0), (2, vP g2 0)] ∧ Mem w wS [.row (.slice A24 ((b.out).length) c24) ((b.out).length) ((updUp incB b.out k).map B8) 5 1, .blk g6 (b.cells A21 c21) 37, .row (.slice A21 b.evs.length c21) b.evs.length (b.evs.flatMap evL) 58 11, .blk g5 (b.cells A19 c19) 28, .row (.slice A19 b.evs.length c19) b.evs.length (b.evs.flatMap evL) 24 11, .blk g3 (d.cells A2 c2) 28, .blk g2 (b.cells A c) 28]) (m := b.out.length - 0) ⟨0, Nat.zero_le _, rfl, HF.sub (by kernel_rfl), HM.picks [0, 1, 2, 3, 4, 5, 6] (by decide) rfl⟩ ?_
 clear HF HM; rintro mS a w_ ⟨k, hk, rfl, HF, HM⟩
 refine wp_seq (qa ?_)
 refine fp HF 1 0 [(87, .bool (decide ((k : Int) < (((b.out).length : Nat) : Int))))] fun a HF => ?_
 refine qb rfl (wp_seq ?_)
 rcases HF.tf 87 rfl with ⟨hb87, HF⟩ | ⟨hb87, HF⟩
 ·
  have hd87 := of_decide_eq_true hb87
  have hol := qxa b
  have hk87 : k < b.out.length := by omega
  have hul := qik incB b.out k
  refine qf HF rfl (wp_skip (wp_seq (wp_block (wp_seq (qa ?_)))))
  refine fp HF 2 0 [(17, vI k)] fun a HF => ?_
  refine qb rfl (qa ?_)
  refine fp HF 2 0 [(90, vI k), (89, .slice A24 ((b.out).length) c24)] fun a HF => ?_
  obtain ⟨gA24, rfl⟩ := qa7 (HM.own (i := 0) rfl) (Nat.lt_of_le_of_lt (Nat.zero_le _) (show k < (b.out).length from by omega))
  refine fy HF HM 2 rfl rfl rfl (v := vP gA24 (k * 1)) (Yl.ix0 gA24 k 1 rfl rfl rfl) fun a HF => ?_
  refine fy HF HM 3 rfl rfl rfl (v := vB ((updUp incB b.out k).getD k 0)) (Yl.qh rfl rfl (by kernel_rfl) (fun _ h => h.qa1 (i := 0) rfl (k := k) (za (F := B8) (k := k) (x := ((updUp incB b.out k).getD k 0)) ((getD_at 0 (k := k) (by first | omega | (simp; omega))))))) fun a HF => ?_
  refine fp HF 1 4 [(93, vB (IntKind.u8.wrap ((((updUp incB b.out k).getD k 0) : Int) + 1)))] fun a HF => ?_
  replace HF := HF.sp 93 (vB (incB ((updUp incB b.out k).getD k 0) : Nat)) rfl (qxo _)
  refine fy HF HM 5 rfl rfl rfl (v := vP gA24 (k * 1)) (Yl.ix0 gA24 k 1 rfl rfl rfl) fun a HF => ?_
  refine fo HF 6 rfl rfl ?_
  refine qdb HF HM (i := 0) rfl rfl rfl rfl (by kernel_rfl) rfl rfl (by rw [List.length_map, qik]; omega) ?_
  clear HM; intro w13_6 HM
  replace HM := HM.asRow (i := 0) (ys := (updUp incB b.out (k + 1)).map B8) rfl ((qfu B8 (updUp incB b.out k) k (incB ((updUp incB b.out k).getD k 0)) (by omega)).trans (by rw [qqi incB b.out 0 hk87, qju incB b.out 0 hk87]))
  refine qb rfl (qa ?_)
  refine fp HF 1 0 [(95, vI (IntKind.i64.wrap ((k : Int) + 1)))] fun a HF => ?_
  replace HF := HF.sp 95 (vI (k + 1 : Nat)) rfl (qk (by omega) (by omega))
  refine fp HF 1 1 [(86, vI (k + 1 : Nat))] fun a HF => ?_
  refine qb rfl ?_
  exact ⟨_, (by omega), k + 1, by omega, rfl, HF.sub (by kernel_rfl), HM.picks [0, 1, 2, 3, 4, 5, 6] (by decide) rfl⟩
 have hd87 := of_decide_eq_false hb87
 refine qe HF rfl (wp_exit (wp_seq ?_))
 refine zw HM [.row (.slice A24 ((b.out).length) c24) ((b.out).length) ((updUp incB b.out k).map B8) 5 1, .blk g6 (b.cells A21 c21) 37, .row (.slice A21 b.evs.length c21) b.evs.length (b.evs.flatMap evL) 58 11, .blk g5 (b.cells A19 c19) 28, .row (.slice A19 b.evs.length c19) b.evs.length (b.evs.flatMap evL) 24 11, .blk g3 (d.cells A2 c2) 28, .blk g2 (b.cells A c) 28] [0, 1, 2, 3, 4, 5, 6] [] fun HM HS => ?_
 refine ay HF HS 0 rfl rfl rfl (v := .agg (b.cells A19 c19)) (Yl.qx rfl rfl si_bk rfl (fun _ h => qd (h.blk (i := 3) rfl))) fun a HF => ?_
 refine ay HF HS 2 rfl rfl rfl (v := .agg (b.cells A21 c21)) (Yl.qx rfl rfl qw rfl (fun _ h => qd (h.blk (i := 1) rfl))) fun a HF => ?_
 refine qi [1] (by kernel_rfl) rfl ?_
 refine all_cons ?_ all_nil
 refine qj HF (i := 1) rfl rfl ?_
 refine e_cl HF [.agg (b.cells A19 c19)] rfl rfl (qch b A19 c19 _ (HM.rd (i := 4) rfl) (by omega)) ?_
 rintro _ w97 ⟨⟨A97, c97, rfl, ho, hc97⟩, hbw⟩
 refine ⟨_, rfl, ?_⟩
 replace HM := HM.callRow hbw ho
 clear HF; intro a HF
 refine keepS (HM.picks [1, 2, 3, 4, 5, 6, 7] (by decide) rfl) (fun HS => ?_)
 refine qi [3] (by kernel_rfl) rfl ?_
 refine all_cons ?_ all_nil
 refine qj HF (i := 3) rfl rfl ?_
 refine e_is HF HM [.agg (b.cells A97 c97), .agg (b.cells A21 c21)] (.bool true) rfl rfl (qil b A97 A21 c97 c21 _ (HM.rd (i := 0) rfl) (HM.rd (i := 3) rfl) (by omega)) fun w99 hbw HM a HF => ?_
 refine keepS (HM.picks [1, 2, 3, 4, 5, 6, 7] (by decide) rfl) (fun HS => ?_)
 refine ap HF (fun _ => HS) [4] #[true, true, true, true, true, false, false, false, false, false, false, false, false, false, false, false, false, false, false, false] [(100, .bool true)] fun a HF => ?_
 refine ay HF HS 5 rfl rfl rfl (v := .agg (b.cells A c)) (Yl.qx rfl rfl si_bk rfl (fun _ h => qd (h.blk (i := 6) rfl))) fun a HF => ?_
 refine ay HF HS 6 rfl rfl rfl (v := .agg (d.cells A2 c2)) (Yl.qx rfl rfl si_bk rfl (fun _ h => qd (h.blk (i := 5) rfl))) fun a HF => ?_
 refine ay HF HS 8 rfl rfl rfl (v := .agg (b.cells A21 c21)) (Yl.qx rfl rfl qw rfl (fun _ h => qd (h.blk (i := 1) rfl))) fun a HF => ?_
 refine ay HF HS 9 rfl rfl rfl (v := .agg (d.cells A2 c2)) (Yl.qx rfl rfl si_bk rfl (fun _ h => qd (h.blk (i := 5) rfl))) fun a HF => ?_
 refine qi [7] (by kernel_rfl) rfl ?_
 refine all_cons ?_ all_nil
 refine qj HF (i := 7) rfl rfl ?_
 refine e_is HF HM [.agg (b.cells A c), .agg (d.cells A2 c2)] (.bool (decide (b = d))) rfl rfl (qog b d A A2 c c2 _ (HM.old hr) (HM.old hr2) (by omega)) fun w103 hbw HM a HF => ?_
 refine keepS (HM.picks [1, 2, 3, 4, 5, 6, 7] (by decide) rfl) (fun HS => ?_)
 refine qi [10] (by kernel_rfl) rfl ?_
 refine all_cons ?_ all_nil
 refine qj HF (i := 10) rfl rfl ?_
 refine e_cl HF [.agg (d.cells A2 c2)] rfl rfl (qch d A2 c2 _ (HM.old hr2) (by omega)) ?_
 rintro _ w106 ⟨⟨A106, c106, rfl, ho, hc106⟩, hbw⟩
 refine ⟨_, rfl, ?_⟩
 replace HM := HM.callRow hbw ho
 clear HF; intro a HF
 refine keepS (HM.picks [2, 3, 4, 5, 6, 7, 8] (by decide) rfl) (fun HS => ?_)
 refine qi [11] (by kernel_rfl) rfl ?_
 refine all_cons ?_ all_nil
 refine qj HF (i := 11) rfl rfl ?_
 refine e_is HF HM [.agg (b.cells A21 c21), .agg (d.cells A106 c106)] (.bool (decide (b = d))) rfl rfl (qjs b d A21 A106 c21 c106 _ (HM.rd (i := 4) rfl) (HM.rd (i := 0) rfl) (by omega)) fun w107 hbw HM a HF => ?_
 refine keepS (HM.picks [2, 3, 4, 5, 6, 7, 8] (by decide) rfl) (fun HS => ?_)
 refine ay HF HS 12 rfl rfl rfl (v := .bool ((decide (b = d)) == (decide (b = d)))) (Yl.qxw rfl rfl rfl (by kernel_rfl)) fun a HF => ?_
 replace HF := HF.sp 108 (.bool true) rfl (by simp)
 refine ap HF (fun _ => HS) [13, 14] #[true, true, true, true, true, true, true, true, true, true, true, true, true, true, true, false, false, false, false, false] [(110, .bool true)] fun a HF => ?_
 refine ay HF HS 15 rfl rfl rfl (v := .agg (b.cells A c)) (Yl.qx rfl rfl si_bk rfl (fun _ h => qd (h.blk (i := 6) rfl))) fun a HF => ?_
 refine ay HF HS 16 rfl rfl rfl (v := .agg (b.cells A19 c19)) (Yl.qx rfl rfl si_bk rfl (fun _ h => qd (h.blk (i := 3) rfl))) fun a HF => ?_
 refine qi [17] (by kernel_rfl) rfl ?_
 refine all_cons ?_ all_nil
 refine qj HF (i := 17) rfl rfl ?_
 refine e_is HF HM [.agg (b.cells A c), .agg (b.cells A19 c19)] (.bool true) rfl rfl (qtx b A A19 c c19 _ (HM.old hr) (HM.rd (i := 6) rfl) (by omega)) fun w113 hbw HM a HF => ?_
 refine keepS (HM.picks [2, 3, 4, 5, 6, 7, 8] (by decide) rfl) (fun HS => ?_)
 refine ap HF (fun _ => HS) [18, 19] #[true, true, true, true, true, true, true, true, true, true, true, true, true, true, true, true, true, true, true, true] [(4, .bool true)] fun a HF => ?_
 refine qm (by kernel_rfl) ?_
 replace HM := HM.picks (fs' := [.row (.slice A106 d.evs.length c106) d.evs.length (d.evs.flatMap evL) 58 11, .row (.slice A97 b.evs.length c97) b.evs.length (b.evs.flatMap evL) 58 11, .row (.slice A24 ((b.out).length) c24) ((b.out).length) ((updUp incB b.out k).map B8) 5 1, .blk g6 (b.cells A21 c21) 37, .row (.slice A21 b.evs.length c21) b.evs.length (b.evs.flatMap evL) 58 11, .blk g5 (b.cells A19 c19) 28, .row (.slice A19 b.evs.length c19) b.evs.length (b.evs.flatMap evL) 24 11, .blk g2 (b.cells A c) 28]) [0, 1, 2, 3, 4, 5, 6, 8] (by decide) rfl
 refine wp_ret ?_
 exact ret1 rfl HF (.tmp HF rfl) (⟨rfl, HM.below⟩)
theorem rdLen {w : World} {B n m : Nat} {A : Option Addr} {xs : List Value} (h : Rd w B 11 A n xs) (e : m = n) : Rd w B 11 A m xs := e ▸ h
theorem qmn (h : List Nat) (hh : ∀ b ∈ h, b < 256) (h0 : 0 < h.length) (hh2 : h.length ≤ 1000) (A : Option Addr) (n c : Nat) (l : List Nat) (w : World) (hr : Rd w w.heap.size 1 A n (l.map B8)) (hln : l.length = n) (hn : n ≤ 1000000) (hl : ∀ b ∈ l, b < 256) :
    Calls Tryz.prog 11 #[.string (bstr h), .slice A n c] w (qae w (sealL ([(12 + n) % 256, 0, 0, 0] ++ h ++ l))) := by
 refine qg (vs := [.string (bstr h), .slice A n c]) Tryz.func11 rfl rfl (by kernel_rfl) (σ0 := [(0, .string (bstr h)), (1, .slice A n c)]) rfl ?_
 intro a HF
 have HM := Mem.start w
 refine wp_seq (qa ?_)
 refine fp HF 1 0 [(4, .slice none 0 0)] fun a HF => ?_
 refine qb rfl (wp_seq (qa ?_))
 refine fp HF 1 0 [(6, .slice A n c)] fun a HF => ?_
 refine fy HF HM 1 rfl rfl rfl (Yl.len rfl rfl (by kernel_rfl)) fun a HF => ?_
 refine fp HF 1 2 [(8, vI (IntKind.i64.wrap (12 + (n : Int))))] fun a HF => ?_
 replace HF := HF.sp 8 (vI (12 + n : Nat)) rfl (qk (by omega) (by omega))
 refine fp HF 1 3 [(9, vB (IntKind.u8.wrap ((12 + n : Nat) : Int)))] fun a HF => ?_
 replace HF := HF.sp 9 (vB ((12 + n) % 256 : Nat)) rfl (qa9 (12 + n))
 refine fo HF 4 rfl rfl ?_
 refine qp HF HM (vs := [(0, vB ((12 + n) % 256 : Nat)), (1, vB 0), (2, vB 0), (3, vB 0)]) (cs := #[vB ((12 + n) % 256 : Nat), vB 0, vB 0, vB 0]) rfl ei_u8 (by decide) rfl (by kernel_rfl) rfl (by decide) ?_
 clear HF HM; intro a w10 g10 HF HM
 refine fp HF 1 5 [(11, .string (bstr h))] fun a HF => ?_
 refine fo HF 6 rfl rfl ?_
 refine qmk HF HM (B := _) (l := h) rfl ei_u8 (by kernel_rfl) rfl rfl (hh) (HM.rdBlk (i := 0) (n := 4) (size := 1) rfl rfl) (by omega) (by omega) (by omega) (by omega) rfl (by decide) ?_
 clear HF HM; intro a w12 g12 c12 HF HM hc12
 replace HM := HM.asRow (i := 0) (ys := ([(12 + n) % 256, 0, 0, 0] ++ h).map B8) rfl (by rw [List.map_append]; rfl)
 refine fp HF 1 7 [(5, vS g12 (4 + h.length) c12)] fun a HF => ?_
 refine qb rfl (wp_seq (qa ?_))
 refine fp HF 2 0 [(14, .slice A n c), (13, vS g12 (4 + h.length) c12)] fun a HF => ?_
 refine fo HF 2 rfl rfl ?_
 refine qs HF HM (i := 0) rfl ei_u8 rfl rfl rfl (news := (l.map B8)) (HM.old hr) (qaa _) (by omega) (by omega) rfl (by decide) ?_
 clear HF HM; intro a w15 A15 c15 HF HM hc15
 rw [show (([(12 + n) % 256, 0, 0, 0] ++ h).map B8) ++ (l.map B8) = ([(12 + n) % 256, 0, 0, 0] ++ h ++ l).map B8 from by simp] at HM
 refine fo HF 3 rfl rfl ?_
 refine e_cl HF [.slice A15 ((4 + h.length) + n) c15] rfl rfl (qez _ _ _ ([(12 + n) % 256, 0, 0, 0] ++ h ++ l) _ (HM.rd (i := 0) rfl) (by simp; omega) (by omega) (qaj (qaj (by intro x hx; simp only [List.mem_cons, List.not_mem_nil, or_false] at hx; omega) hh) hl)) ?_
 rintro _ w16 ⟨⟨A16, c16, rfl, ho, hc16⟩, hbw⟩
 refine ⟨_, rfl, ?_⟩
 replace HM := HM.callRow hbw ho
 clear HF; intro a HF
 refine fp HF 1 4 [(4, .slice A16 (((sealL ([(12 + n) % 256, 0, 0, 0] ++ h ++ l))).length) c16)] fun a HF => ?_
 refine qb rfl (wp_ret ?_)
 replace HM := HM.picks (fs' := [.row (.slice A16 (((sealL ([(12 + n) % 256, 0, 0, 0] ++ h ++ l))).length) c16) (((sealL ([(12 + n) % 256, 0, 0, 0] ++ h ++ l))).length) ((sealL ([(12 + n) % 256, 0, 0, 0] ++ h ++ l)).map B8) 5 1]) [0] (by decide) rfl
 exact ret1 rfl HF (.tmp HF rfl) (⟨⟨_, _, rfl, HM.own (i := 0) rfl, hc16⟩, HM.below⟩)
theorem qqp (B : Nat) (w : World) (hL : LaidX B w) (hB : B ≤ w.heap.size) : Calls Tryz.prog 12 #[] w (Is w (.bool true)) := by
 refine qg (vs := []) Tryz.func12 rfl rfl (by kernel_rfl) (σ0 := []) rfl ?_
 intro a HF
 have HM := Mem.start w
 refine wp_seq (qa ?_)
 refine fp HF 1 0 [(0, .bool false)] fun a HF => ?_
 refine qb rfl (wp_seq (qa ?_))
 refine fy HF HM 0 rfl rfl rfl (v := .agg #[vB 1, vB 1, vI 0, vI 0, .slice none 0 0]) (Yl.build (vs := [(0, vB 1), (1, vB 1)]) rfl (by kernel_rfl) (by kernel_rfl)) fun a HF => ?_
 refine fo HF 1 rfl rfl ?_
 refine qz HF HM (cs := #[vB 0, vB 0, vI 0, vI 0, .slice none 0 0]) rfl (by kernel_rfl) rfl (by decide) ?_
 clear HF HM; intro a w1 g1 HF HM
 refine fo HF 2 rfl rfl ?_
 refine e_sa HF HM 0 rfl rfl rfl rfl rfl si_bk rfl rfl (by simp [Value.oneCell']) ?_
 clear HM; intro w1_2 HM
 refine qb rfl ?_
 replace HM := HM.nil 24 11
 refine wp_seq (wp_seq (qa ?_))
 refine fp HF 1 0 [(9, vI 0)] fun a HF => ?_
 refine qb rfl (wp_block ?_)
 refine qv (fun mS aS wS => ∃ (k : Nat) (Ak : Option Addr) (ck : Nat), (k ≤ 1100) ∧ (k ≤ ck) ∧ mS = 1100 - k ∧ Fr aS 59 [] [(9, vI k), (1, vP g1 0), (0, .bool false)] ∧ Mem w wS [.row (.slice Ak k ck) k ((longE k).flatMap evL) 24 11, .blk g1 #[vB 1, vB 1, vI 0, vI 0, .slice Ak k ck] 28]) (m := 1100 - 0) ⟨0, none, 0, Nat.zero_le _, Nat.le_refl _, rfl, HF.sub (by kernel_rfl), HM.picks [0, 1] (by decide) rfl⟩ ?_
 clear HF HM; rintro mS a w_ ⟨k, Ak, ck, hk, hck, rfl, HF, HM⟩
 refine wp_seq (qa ?_)
 refine fp HF 1 0 [(10, .bool (decide ((k : Int) < (1100 : Int))))] fun a HF => ?_
 refine qb rfl (wp_seq ?_)
 rcases HF.tf 10 rfl with ⟨hb10, HF⟩ | ⟨hb10, HF⟩
 ·
  have hd10 := of_decide_eq_true hb10
  refine qf HF rfl (wp_skip (wp_seq (wp_block (wp_seq (qa ?_)))))
  refine fp HF 2 0 [(2, vI k)] fun a HF => ?_
  refine qb rfl (qa ?_)
  refine fp HF 1 0 [(12, vP g1 4)] fun a HF => ?_
  refine fy HF HM 1 rfl rfl rfl (Yl.qh rfl rfl (by kernel_rfl) (fun _ h => h.cell (i := 1) rfl rfl)) fun a HF => ?_
  refine fp HF 2 2 [(15, vI (IntKind.i64.wrap (1 + (k : Int))))] fun a HF => ?_
  replace HF := HF.sp 15 (vI (1 + k : Nat)) rfl (qk (by omega) (by omega))
  refine fy HF HM 4 rfl rfl rfl (v := .agg #[vI (1 + k : Nat), vI 0, vB 1, vB 6, vI 0, vI 0, vI 0, vI 0, vI 0, vQ 0, vI 0]) (Yl.build (vs := [(0, vI (1 + k : Nat)), (2, vB 1), (3, vB 6)]) rfl (by kernel_rfl) (by kernel_rfl)) fun a HF => ?_
  refine fo HF 5 rfl rfl ?_
  refine qp HF HM (vs := [(0, .agg #[vI (1 + k : Nat), vI 0, vB 1, vB 6, vI 0, vI 0, vI 0, vI 0, vI 0, vQ 0, vI 0])]) (cs := #[vI (1 + k : Nat), vI 0, vB 1, vB 6, vI 0, vI 0, vI 0, vI 0, vI 0, vQ 0, vI 0]) rfl ei_ev (by decide) rfl (by kernel_rfl) rfl (by decide) ?_
  clear HF HM; intro a w17 g17 HF HM
  refine fo HF 6 rfl rfl ?_
  refine qs HF HM (i := 1) rfl ei_ev rfl rfl rfl (news := (evL (lev k))) (HM.rdBlk (i := 0) (n := 1) (size := 11) rfl rfl) (zn _) (by omega) (by omega) rfl (by decide) ?_
  clear HF HM; intro a w18 A18 c18 HF HM hc18
  rw [show ((longE k).flatMap evL) ++ (evL (lev k)) = (longE (k + 1)).flatMap evL from by rw [qqo]] at HM
  refine fp HF 1 7 [(19, vP g1 4)] fun a HF => ?_
  refine fo HF 8 rfl rfl ?_
  refine zy HF HM (i := 2) (cs := #[vB 1, vB 1, vI 0, vI 0, .slice Ak k ck]) rfl rfl rfl rfl (by kernel_rfl) rfl rfl (by simp) ?_
  clear HM; intro w5_8 HM
  refine qb rfl (qa ?_)
  refine fp HF 1 0 [(20, vI (IntKind.i64.wrap ((k : Int) + 1)))] fun a HF => ?_
  replace HF := HF.sp 20 (vI (k + 1 : Nat)) rfl (qk (by omega) (by omega))
  refine fp HF 1 1 [(9, vI (k + 1 : Nat))] fun a HF => ?_
  refine qb rfl ?_
  exact ⟨_, (by omega), k + 1, A18, c18, by omega, hc18, rfl, HF.sub (by kernel_rfl), HM.picks [1, 2] (by decide) rfl⟩
 have hd10 := of_decide_eq_false hb10
 obtain rfl : k = 1100 := by omega
 have hll : 1100 = (longE 1100).length := (qgc 1100).symm
 have hck2 : (longE 1100).length ≤ ck := by rw [qgc]; exact hck
 replace HM := HM.reRow (i := 0) (ys := (longE 1100).flatMap evL) rfl hll rfl
 replace HM := HM.asBlk (i := 1) (ds := #[vB 1, vB 1, vI 0, vI 0, .slice Ak ((longE 1100).length) ck]) rfl (by rw [← hll])
 refine qe HF rfl (wp_exit (wp_seq (wp_seq (qa ?_))))
 refine fo HF 0 rfl rfl ?_
 refine qp HF HM (vs := [(0, vI 127), (1, vI 128), (2, vI 1016), (3, vI 1017), (4, vI 1018), (5, vI 1019), (6, vI 1020), (7, vI 1021), (8, vI 1100)]) (cs := #[vI 127, vI 128, vI 1016, vI 1017, vI 1018, vI 1019, vI 1020, vI 1021, vI 1100]) rfl qnw (by decide) rfl (by kernel_rfl) rfl (by decide) ?_
 clear HF HM; intro a w21 g21 HF HM
 refine fy HF HM 1 rfl rfl rfl (Yl.len rfl rfl (by kernel_rfl)) fun a HF => ?_
 refine fp HF 1 2 [(23, vI 0)] fun a HF => ?_
 refine qb rfl ?_
 replace HM := (HM.blkRow (i := 0) (n := 9) (size := 1) rfl rfl (by decide)).asRow (i := 0) (ys := nine.map I64v) rfl (by kernel_rfl)
 refine wp_block ?_
 refine qv (fun mS aS wS => ∃ (k2 : Nat), (k2 ≤ 9) ∧ mS = 9 - k2 ∧ Fr aS 59 [] [(23, vI k2), (22, vI 9), (21, vS g21 9 9), (10, .bool false), (9, vI 1100), (1, vP g1 0), (0, .bool false)] ∧ Mem w wS [.row (vS g21 9 9) 9 (nine.map I64v) 3 1, .row (.slice Ak ((longE 1100).length) ck) ((longE 1100).length) ((longE 1100).flatMap evL) 24 11, .blk g1 #[vB 1, vB 1, vI 0, vI 0, .slice Ak ((longE 1100).length) ck] 28]) (m := 9 - 0) ⟨0, Nat.zero_le _, rfl, HF.sub (by kernel_rfl), HM.picks [0, 1, 2] (by decide) rfl⟩ ?_
 clear HF HM; rintro mS a w_ ⟨k2, hk2, rfl, HF, HM⟩
 refine wp_seq (qa ?_)
 refine fp HF 1 0 [(24, .bool (decide ((k2 : Int) < (9 : Int))))] fun a HF => ?_
 refine qb rfl (wp_seq ?_)
 rcases HF.tf 24 rfl with ⟨hb24, HF⟩ | ⟨hb24, HF⟩
 ·
  have hd24 := of_decide_eq_true hb24
  have hk24 : k2 < 9 := by omega
  have hn9 : nine.length = 9 := rfl
  obtain ⟨nn, hnn⟩ : ∃ nn, nn = nine.getD k2 0 := ⟨_, rfl⟩
  have hn11 : nn < 1101 := by rw [hnn]; exact getD_lt qxr (by omega)
  have hlt := qmm (n := nn) (by omega)
  have hle := qgc 1100
  refine qf HF rfl (wp_skip (wp_seq (wp_block (wp_seq (qa ?_)))))
  refine fy HF HM 0 rfl rfl rfl (v := vP g21 (k2 * 1)) (Yl.ix0 g21 k2 1 rfl rfl rfl) fun a HF => ?_
  refine fy HF HM 1 rfl rfl rfl (v := vI (nine.getD k2 0)) (Yl.qh rfl rfl (by kernel_rfl) (fun _ h => h.qa1 (i := 0) rfl (k := k2) (za (F := I64v) (k := k2) (x := (nine.getD k2 0)) ((getD_at 0 (k := k2) (by first | omega | (simp; omega))))))) fun a HF => ?_
  replace HF := HF.sp 26 (vI nn) rfl (by rw [hnn])
  refine fp HF 1 2 [(4, vI nn)] fun a HF => ?_
  refine qb rfl (wp_seq (qa ?_))
  refine fy HF HM 0 rfl rfl rfl (v := .agg #[vB 1, vB 1, vI 0, vI 0, .slice Ak ((longE 1100).length) ck]) (Yl.qx rfl rfl si_bk rfl (fun _ h => qd (h.blk (i := 2) rfl))) fun a HF => ?_
  refine fo HF 1 rfl rfl ?_
  refine qz HF HM (cs := #[vB 0, vB 0, vI 0, vI 0, .slice none 0 0]) rfl (by kernel_rfl) rfl (by decide) ?_
  clear HF HM; intro a w5 g5 HF HM
  refine fo HF 2 rfl rfl ?_
  refine e_sa HF HM 0 rfl rfl rfl rfl rfl si_bk rfl rfl (by simp [Value.oneCell']) ?_
  clear HM; intro w10_2 HM
  refine qb rfl (wp_seq (qa ?_))
  refine fp HF 1 0 [(28, vP g1 4)] fun a HF => ?_
  refine fy HF HM 1 rfl rfl rfl (Yl.qh rfl rfl (by kernel_rfl) (fun _ h => h.cell (i := 3) rfl rfl)) fun a HF => ?_
  refine fp HF 1 2 [(30, vI nn)] fun a HF => ?_
  refine fy HF HM 3 rfl rfl rfl (v := .slice Ak nn ck) (Yl.zx ei_ev (j := nn) rfl rfl rfl (by omega)) fun a HF => ?_
  replace HF := HF.sp 31 (.slice Ak (((longE 1100).take nn).length) ck) rfl (by rw [hlt])
  refine fp HF 1 4 [(32, vP g5 4)] fun a HF => ?_
  refine fo HF 5 rfl rfl ?_
  refine zy HF HM (i := 0) (cs := #[vB 1, vB 1, vI 0, vI 0, .slice Ak ((longE 1100).length) ck]) rfl rfl rfl rfl (by kernel_rfl) rfl rfl (by simp) ?_
  clear HM; intro w11_5 HM
  refine qb rfl (wp_seq (wp_seq (qa ?_)))
  refine fy HF HM 0 rfl rfl rfl (v := .agg #[vB 1, vB 1, vI 0, vI 0, .slice Ak (((longE 1100).take nn).length) ck]) (Yl.qx rfl rfl si_bk rfl (fun _ h => qd (h.blk (i := 0) rfl))) fun a HF => ?_
  refine fy HF HM 1 rfl rfl rfl (v := .agg #[vB 1, vB 1, vI 0, vI 0, .slice Ak ((longE 1100).length) ck]) (Yl.qx rfl rfl si_bk rfl (fun _ h => qd (h.blk (i := 3) rfl))) fun a HF => ?_
  refine fo HF 2 rfl rfl ?_
  refine e_is HF HM [.agg #[vB 1, vB 1, vI 0, vI 0, .slice Ak (((longE 1100).take nn).length) ck], .agg #[vB 1, vB 1, vI 0, vI 0, .slice Ak ((longE 1100).length) ck]] (.bool true) rfl rfl (qd3 (⟨1, 1, 0, 0, (longE 1100).take nn⟩ : Bk) (⟨1, 1, 0, 0, longE 1100⟩ : Bk) (bkOk (by first | omega | decide) (by first | omega | decide) (by first | exact hnI | (unfold I64; omega) | (unfold I64; decide)) (by first | exact hnI | (unfold I64; omega) | (unfold I64; decide)) (qfj _)) (bkOk (by first | omega | decide) (by first | omega | decide) (by first | exact hnI | (unfold I64; omega) | (unfold I64; decide)) (by first | exact hnI | (unfold I64; omega) | (unfold I64; decide)) (qo6 (Nat.le_refl _))) Ak Ak ck ck B _ (hL.mem HM hB) (HM.le hB) (rdLen (qo4 (HM.rd (i := 2) rfl) (m := nn) (by omega)) hlt) (HM.rd (i := 2) rfl) (by show ((longE 1100).take nn).length ≤ 1000000; omega) (by show (longE 1100).length ≤ 1000000; omega)) fun w35 hbw HM a HF => ?_
  refine fp HF 1 3 [(36, .bool false)] fun a HF => ?_
  refine qb rfl (qe HF rfl (wp_skip (wp_seq (qa ?_))))
  refine fo HF 0 rfl rfl ?_
  refine qp HF HM (vs := [(0, vI 1), (1, vI 128), (2, vI 16384), (3, vI 2097152), (4, vI 281474976710656)]) (cs := #[vI 1, vI 128, vI 16384, vI 2097152, vI 281474976710656]) rfl qnw (by decide) rfl (by kernel_rfl) rfl (by decide) ?_
  clear HF HM; intro a w37 g37 HF HM
  refine fy HF HM 1 rfl rfl rfl (Yl.len rfl rfl (by kernel_rfl)) fun a HF => ?_
  refine fp HF 1 2 [(39, vI 0)] fun a HF => ?_
  refine qb rfl ?_
  replace HM := (HM.blkRow (i := 0) (n := 5) (size := 1) rfl rfl (by decide)).asRow (i := 0) (ys := five.map I64v) rfl (by kernel_rfl)
  refine wp_block ?_
  refine qv (fun mS aS wS => ∃ (k3 : Nat) (lo0 : Int), (k3 ≤ 5) ∧ (I64 lo0) ∧ mS = 5 - k3 ∧ Fr aS 59 [] [(39, vI k3), (38, vI 5), (37, vS g37 5 5), (36, .bool false), (5, vP g5 0), (4, vI nn), (24, .bool true), (23, vI k2), (22, vI 9), (21, vS g21 9 9), (10, .bool false), (9, vI 1100), (1, vP g1 0), (0, .bool false)] ∧ Mem w wS [.row (vS g37 5 5) 5 (five.map I64v) 3 1, .blk g5 #[vB 1, vB 1, vI lo0, vI 0, .slice Ak (((longE 1100).take nn).length) ck] 28, .row (vS g21 9 9) 9 (nine.map I64v) 3 1, .row (.slice Ak ((longE 1100).length) ck) ((longE 1100).length) ((longE 1100).flatMap evL) 24 11, .blk g1 #[vB 1, vB 1, vI 0, vI 0, .slice Ak ((longE 1100).length) ck] 28]) (m := 5 - 0) ⟨0, 0, Nat.zero_le _, (by unfold I64; decide), rfl, HF.sub (by kernel_rfl), HM.picks [0, 1, 2, 3, 4] (by decide) rfl⟩ ?_
  clear HF HM; rintro mS a w_ ⟨k3, lo0, hk3, hl0, rfl, HF, HM⟩
  refine wp_seq (qa ?_)
  refine fp HF 1 0 [(40, .bool (decide ((k3 : Int) < (5 : Int))))] fun a HF => ?_
  refine qb rfl (wp_seq ?_)
  rcases HF.tf 40 rfl with ⟨hb40, HF⟩ | ⟨hb40, HF⟩
  ·
   have hd40 := of_decide_eq_true hb40
   have hk40 : k3 < 5 := by omega
   have hn5 : five.length = 5 := rfl
   obtain ⟨lo, hlo⟩ : ∃ lo, lo = five.getD k3 0 := ⟨_, rfl⟩
   have hlo2 : lo < 281474976710657 := by rw [hlo]; exact getD_lt qxs (by omega)
   refine qf HF rfl (wp_skip (wp_seq (wp_block (wp_seq (qa ?_)))))
   refine fy HF HM 0 rfl rfl rfl (v := vP g37 (k3 * 1)) (Yl.ix0 g37 k3 1 rfl rfl rfl) fun a HF => ?_
   refine fy HF HM 1 rfl rfl rfl (v := vI (five.getD k3 0)) (Yl.qh rfl rfl (by kernel_rfl) (fun _ h => h.qa1 (i := 0) rfl (k := k3) (za (F := I64v) (k := k3) (x := (five.getD k3 0)) ((getD_at 0 (k := k3) (by first | omega | (simp; omega))))))) fun a HF => ?_
   replace HF := HF.sp 42 (vI lo) rfl (by rw [hlo])
   refine fp HF 1 2 [(7, vI lo)] fun a HF => ?_
   refine qb rfl (wp_seq (qa ?_))
   refine fp HF 2 0 [(44, vP g5 2), (43, vI lo)] fun a HF => ?_
   refine fo HF 2 rfl rfl ?_
   refine zy HF HM (i := 1) (cs := #[vB 1, vB 1, vI lo0, vI 0, .slice Ak (((longE 1100).take nn).length) ck]) rfl rfl rfl rfl (by kernel_rfl) rfl rfl (by simp) ?_
   clear HM; intro w17_2 HM
   refine qb rfl (wp_seq (qa ?_))
   refine fp HF 3 0 [(47, .bool (decide ((nn : Int) > (1015 : Int))))] fun a HF => ?_
   rcases HF.tf 47 rfl with ⟨hb47, HF⟩ | ⟨hb47, HF⟩
   ·
    have hd47 := of_decide_eq_true hb47
    refine fp HF 4 3 [(51, .bool (decide ((nn : Int) < (1022 : Int))))] fun a HF => ?_
    rcases HF.tf 51 rfl with ⟨hb51, HF⟩ | ⟨hb51, HF⟩
    ·
     have hd51 := of_decide_eq_true hb51
     refine fy HF HM 7 rfl rfl rfl (v := .agg #[vB 1, vB 1, vI lo, vI 0, .slice Ak (((longE 1100).take nn).length) ck]) (Yl.qx rfl rfl si_bk rfl (fun _ h => qd (h.blk (i := 1) rfl))) fun a HF => ?_
     refine fy HF HM 8 rfl rfl rfl (v := .agg #[vB 1, vB 1, vI lo, vI 0, .slice Ak (((longE 1100).take nn).length) ck]) (Yl.qx rfl rfl si_bk rfl (fun _ h => qd (h.blk (i := 1) rfl))) fun a HF => ?_
     refine fo HF 9 rfl rfl ?_
     refine e_is HF HM [.agg #[vB 1, vB 1, vI lo, vI 0, .slice Ak (((longE 1100).take nn).length) ck], .agg #[vB 1, vB 1, vI lo, vI 0, .slice Ak (((longE 1100).take nn).length) ck]] (.bool true) rfl rfl (qd3 (⟨1, 1, (lo : Int), 0, (longE 1100).take nn⟩ : Bk) (⟨1, 1, (lo : Int), 0, (longE 1100).take nn⟩ : Bk) (bkOk (by first | omega | decide) (by first | omega | decide) (by first | exact hnI | (unfold I64; omega) | (unfold I64; decide)) (by first | exact hnI | (unfold I64; omega) | (unfold I64; decide)) (qfj _)) (bkOk (by first | omega | decide) (by first | omega | decide) (by first | exact hnI | (unfold I64; omega) | (unfold I64; decide)) (by first | exact hnI | (unfold I64; omega) | (unfold I64; decide)) (qfj _)) Ak Ak ck ck B _ (hL.mem HM hB) (HM.le hB) (rdLen (qo4 (HM.rd (i := 3) rfl) (m := nn) (by omega)) hlt) (rdLen (qo4 (HM.rd (i := 3) rfl) (m := nn) (by omega)) hlt) (by show ((longE 1100).take nn).length ≤ 1000000; omega) (by show ((longE 1100).take nn).length ≤ 1000000; omega)) fun w54 hbw HM a HF => ?_
     refine fp HF 2 10 [(56, .bool false)] fun a HF => ?_
     refine qb rfl (qe HF rfl (wp_skip (qa ?_)))
     refine fp HF 1 0 [(57, vI (IntKind.i64.wrap ((k3 : Int) + 1)))] fun a HF => ?_
     replace HF := HF.sp 57 (vI (k3 + 1 : Nat)) rfl (qk (by omega) (by omega))
     refine fp HF 1 1 [(39, vI (k3 + 1 : Nat))] fun a HF => ?_
     refine qb rfl ?_
     exact ⟨_, (by omega), k3 + 1, (lo : Int), by omega, (by unfold I64; omega), rfl, HF.sub (by kernel_rfl), HM.picks [0, 1, 2, 3, 4] (by decide) rfl⟩
    have hd51 := of_decide_eq_false hb51
    refine fp HF 5 7 [(56, .bool false)] fun a HF => ?_
    refine qb rfl (qe HF rfl (wp_skip (qa ?_)))
    refine fp HF 1 0 [(57, vI (IntKind.i64.wrap ((k3 : Int) + 1)))] fun a HF => ?_
    replace HF := HF.sp 57 (vI (k3 + 1 : Nat)) rfl (qk (by omega) (by omega))
    refine fp HF 1 1 [(39, vI (k3 + 1 : Nat))] fun a HF => ?_
    refine qb rfl ?_
    exact ⟨_, (by omega), k3 + 1, (lo : Int), by omega, (by unfold I64; omega), rfl, HF.sub (by kernel_rfl), HM.picks [0, 1, 2, 3, 4] (by decide) rfl⟩
   have hd47 := of_decide_eq_false hb47
   refine fp HF 9 3 [(56, .bool false)] fun a HF => ?_
   refine qb rfl (qe HF rfl (wp_skip (qa ?_)))
   refine fp HF 1 0 [(57, vI (IntKind.i64.wrap ((k3 : Int) + 1)))] fun a HF => ?_
   replace HF := HF.sp 57 (vI (k3 + 1 : Nat)) rfl (qk (by omega) (by omega))
   refine fp HF 1 1 [(39, vI (k3 + 1 : Nat))] fun a HF => ?_
   refine qb rfl ?_
   exact ⟨_, (by omega), k3 + 1, (lo : Int), by omega, (by unfold I64; omega), rfl, HF.sub (by kernel_rfl), HM.picks [0, 1, 2, 3, 4] (by decide) rfl⟩
  have hd40 := of_decide_eq_false hb40
  refine qe HF rfl (wp_exit (qa ?_))
  refine fp HF 1 0 [(58, vI (IntKind.i64.wrap ((k2 : Int) + 1)))] fun a HF => ?_
  replace HF := HF.sp 58 (vI (k2 + 1 : Nat)) rfl (qk (by omega) (by omega))
  refine fp HF 1 1 [(23, vI (k2 + 1 : Nat))] fun a HF => ?_
  refine qb rfl ?_
  exact ⟨_, (by omega), k2 + 1, by omega, rfl, HF.sub (by kernel_rfl), HM.picks [2, 3, 4] (by decide) rfl⟩
 have hd24 := of_decide_eq_false hb24
 refine qe HF rfl (wp_exit (wp_seq (qa ?_)))
 refine fp HF 1 0 [(0, .bool true)] fun a HF => ?_
 refine qb rfl (wp_ret ?_)
 exact ret1 rfl HF (.tmp HF rfl) (⟨rfl, HM.below⟩)
theorem qbs {A : Option Addr} {n c : Nat} (l : List Nat) (B : Nat) (w : World) (hL : LaidX B w) (hB : B ≤ w.heap.size) (hr : Rd w w.heap.size 1 A n (l.map B8)) (hl : ∀ b ∈ l, b < 256) (hc : n ≤ c := by first | omega | (simp; omega)) (hln : l.length = n := by first | rfl | omega | (simp; done) | (simp; omega) | (simp only [List.length_append, List.length_cons, List.length_nil, List.length_take, List.length_drop, List.length_set, qab]; omega)) (hn : n ≤ 1000000 := by first | omega | (simp only [List.length_append, List.length_cons, List.length_nil, List.length_take, List.length_drop, List.length_set, qab]; omega)) :
  Calls Tryz.prog 9 #[.slice A n c] w (Is w (.bool true)) := qnv A n c l B w hL hB hr hc hln hn hl
theorem qt2 {A : Option Addr} {n c : Nat} (l : List Nat) (w : World) (hr : Rd w w.heap.size 1 A n (l.map B8)) (hl : ∀ b ∈ l, b < 256) (hln : l.length = n := by first | rfl | omega | (simp; done) | (simp; omega) | (simp only [List.length_append, List.length_cons, List.length_nil, List.length_take, List.length_drop, List.length_set, qab]; omega)) (hn : n ≤ 100000000 := by omega) :
  Calls Tryz.prog 10 #[.slice A n c] w (qae w (sealL l)) := qez A n c l w hr hln hn hl
theorem qcp (h : List Nat) (hh : ∀ b ∈ h, b < 256) {A : Option Addr} {n c : Nat} (l : List Nat) (w : World) (hr : Rd w w.heap.size 1 A n (l.map B8)) (hl : ∀ b ∈ l, b < 256) (h0 : 0 < h.length := by first | decide | (simp; done) | omega) (hh2 : h.length ≤ 1000 := by first | decide | (simp; done) | omega) (hln : l.length = n := by first | rfl | omega | (simp; done) | (simp; omega) | (simp only [List.length_append, List.length_cons, List.length_nil, List.length_take, List.length_drop, List.length_set, qab]; omega)) (hn : n ≤ 1000000 := by omega) :
  Calls Tryz.prog 11 #[.string (bstr h), .slice A n c] w (qae w (sealL ([(12 + n) % 256, 0, 0, 0] ++ h ++ l))) := qmn h hh h0 hh2 A n c l w hr hln hn hl
theorem qiv (B : Nat) (w : World) (hL : LaidX B w) (hB : B ≤ w.heap.size) : Calls Tryz.prog 3 #[] w (Is w (.bool true)) := by
 refine qg (vs := []) Tryz.func3 rfl rfl (by kernel_rfl) (σ0 := []) rfl ?_
 intro a HF
 have HM := Mem.start w
 refine wp_seq (qa ?_)
 refine fp HF 1 0 [(0, .bool false)] fun a HF => ?_
 refine qb rfl (wp_seq (qa ?_))
 refine fo HF 0 rfl rfl ?_
 refine e_is HF HM [] (.agg tickE.cells) rfl rfl (qks _) fun w16 hbw HM a HF => ?_
 refine fy HF HM 1 rfl rfl rfl (v := .agg #[vI 9, vI 340, vB 2, vB 6, vI 0, vI 0, vI 0, vI 0, vI 0, vQ 0, vI 0]) (Yl.build (vs := [(0, vI 9), (1, vI 340), (2, vB 2), (3, vB 6)]) rfl (by kernel_rfl) (by kernel_rfl)) fun a HF => ?_
 refine fo HF 2 rfl rfl ?_
 refine qp HF HM (vs := [(0, .agg tickE.cells), (1, .agg #[vI 9, vI 340, vB 2, vB 6, vI 0, vI 0, vI 0, vI 0, vI 0, vQ 0, vI 0])]) (cs := #[vI tickE.seq, vI tickE.time, vB tickE.cpu, vB tickE.kind, vI tickE.task, vI tickE.group, vI tickE.to, vI tickE.weight, vI tickE.ticks, vQ tickE.mask, vI tickE.got, vI 9, vI 340, vB 2, vB 6, vI 0, vI 0, vI 0, vI 0, vI 0, vQ 0, vI 0]) rfl ei_ev (by decide) rfl (by kernel_rfl) rfl (by decide) ?_
 clear HF HM; intro a w18 g18 HF HM
 refine fy HF HM 3 rfl rfl rfl (v := .agg #[vB 1, vB 2, vI 300, vI 0, vS g18 2 2]) (Yl.build (vs := [(0, vB 1), (1, vB 2), (2, vI 300), (4, vS g18 2 2)]) rfl (by kernel_rfl) (by kernel_rfl)) fun a HF => ?_
 refine fo HF 4 rfl rfl ?_
 refine qz HF HM (cs := #[vB 0, vB 0, vI 0, vI 0, .slice none 0 0]) rfl (by kernel_rfl) rfl (by decide) ?_
 clear HF HM; intro a w1 g1 HF HM
 refine fo HF 5 rfl rfl ?_
 refine e_sa HF HM 0 rfl rfl rfl rfl rfl si_bk rfl rfl (by simp [Value.oneCell']) ?_
 clear HM; intro w1_5 HM
 refine qb rfl ?_
 replace HM := (HM.blkRow (i := 1) (n := 2) (size := 11) rfl rfl (by decide)).asRow (i := 1) (ys := [tickE, pickB].flatMap evL) rfl (rfl)
 refine wp_seq (wp_seq (qa ?_))
 refine fo HF 0 rfl rfl ?_
 refine qp HF HM (vs := [(0, vI (-9223372036854775808)), (1, vI (-1)), (2, vI 0), (3, vI 1), (4, vI 2), (5, vI 63), (6, vI 64), (7, vI 127), (8, vI 128), (9, vI 281474976710655), (10, vI 281474976710656), (11, vI 281474976710657), (12, vI 281474976710658), (13, vI 9223372036854775807)]) (cs := #[vI (-9223372036854775808), vI (-1), vI 0, vI 1, vI 2, vI 63, vI 64, vI 127, vI 128, vI 281474976710655, vI 281474976710656, vI 281474976710657, vI 281474976710658, vI 9223372036854775807]) rfl qnw (by decide) rfl (by kernel_rfl) rfl (by decide) ?_
 clear HF HM; intro a w20 g20 HF HM
 refine fy HF HM 1 rfl rfl rfl (Yl.len rfl rfl (by kernel_rfl)) fun a HF => ?_
 refine fp HF 1 2 [(22, vI 0)] fun a HF => ?_
 refine qb rfl ?_
 replace HM := (HM.blkRow (i := 0) (n := 14) (size := 1) rfl rfl (by decide)).asRow (i := 0) (ys := qcj.map I64i) rfl (by kernel_rfl)
 refine wp_block ?_
 refine qv (fun mS aS wS => ∃ (k : Nat), (k ≤ 14) ∧ mS = 14 - k ∧ Fr aS 241 [] [(22, vI k), (21, vI 14), (20, vS g20 14 14), (1, vP g1 0), (0, .bool false)] ∧ Mem w wS [.row (vS g20 14 14) 14 (qcj.map I64i) 3 1, .blk g1 #[vB 1, vB 2, vI 300, vI 0, vS g18 2 2] 28, .row (vS g18 2 2) 2 ([tickE, pickB].flatMap evL) 24 11]) (m := 14 - 0) ⟨0, Nat.zero_le _, rfl, HF.sub (by kernel_rfl), HM.picks [0, 1, 2] (by decide) rfl⟩ ?_
 clear HF HM; rintro mS a w_ ⟨k, hk, rfl, HF, HM⟩
 refine wp_seq (qa ?_)
 refine fp HF 1 0 [(23, .bool (decide ((k : Int) < (14 : Int))))] fun a HF => ?_
 refine qb rfl (wp_seq ?_)
 rcases HF.tf 23 rfl with ⟨hb23, HF⟩ | ⟨hb23, HF⟩
 ·
  have hd23 := of_decide_eq_true hb23
  have hk23 : k < 14 := by omega
  have hs14 : qcj.length = 14 := rfl
  obtain ⟨n, hn⟩ : ∃ n, n = qcj.getD k 0 := ⟨_, rfl⟩
  have hnI : I64 n := by rw [hn]; exact qny k
  refine qf HF rfl (wp_skip (wp_seq (wp_block (wp_seq (qa ?_)))))
  refine fy HF HM 0 rfl rfl rfl (v := vP g20 (k * 1)) (Yl.ix0 g20 k 1 rfl rfl rfl) fun a HF => ?_
  refine fy HF HM 1 rfl rfl rfl (v := vI (qcj.getD k 0)) (Yl.qh rfl rfl (by kernel_rfl) (fun _ h => h.qa1 (i := 0) rfl (k := k) (za (F := I64i) (k := k) (x := (qcj.getD k 0)) ((getD_at 0 (k := k) (by first | omega | (simp; omega))))))) fun a HF => ?_
  replace HF := HF.sp 25 (vI n) rfl (by rw [hn])
  refine fp HF 1 2 [(3, vI n)] fun a HF => ?_
  refine qb rfl (wp_seq (qa ?_))
  refine fp HF 1 0 [(26, vI 0)] fun a HF => ?_
  refine qb rfl (wp_block ?_)
  refine qv (fun mS aS wS => ∃ (k2 : Nat), (k2 ≤ 8) ∧ mS = 8 - k2 ∧ Fr aS 241 [] [(26, vI k2), (3, vI n), (23, .bool true), (22, vI k), (21, vI 14), (20, vS g20 14 14), (1, vP g1 0), (0, .bool false)] ∧ Mem w wS [.row (vS g20 14 14) 14 (qcj.map I64i) 3 1, .blk g1 #[vB 1, vB 2, vI 300, vI 0, vS g18 2 2] 28, .row (vS g18 2 2) 2 ([tickE, pickB].flatMap evL) 24 11]) (m := 8 - 0) ⟨0, Nat.zero_le _, rfl, HF.sub (by kernel_rfl), HM.picks [0, 1, 2] (by decide) rfl⟩ ?_
  clear HF HM; rintro mS a w_ ⟨k2, hk2, rfl, HF, HM⟩
  refine wp_seq (qa ?_)
  refine fp HF 1 0 [(27, .bool (decide ((k2 : Int) < (8 : Int))))] fun a HF => ?_
  refine qb rfl (wp_seq ?_)
  rcases HF.tf 27 rfl with ⟨hb27, HF⟩ | ⟨hb27, HF⟩
  ·
   have hd27 := of_decide_eq_true hb27
   refine qf HF rfl (wp_skip (wp_seq (wp_block (wp_seq (qa ?_)))))
   refine fp HF 2 0 [(4, vI k2)] fun a HF => ?_
   refine qb rfl (wp_seq (qa ?_))
   refine fy HF HM 0 rfl rfl rfl (v := .agg #[vB 1, vB 2, vI 300, vI 0, vS g18 2 2]) (Yl.qx rfl rfl si_bk rfl (fun _ h => qd (h.blk (i := 1) rfl))) fun a HF => ?_
   refine fo HF 1 rfl rfl ?_
   refine qz HF HM (cs := #[vB 0, vB 0, vI 0, vI 0, .slice none 0 0]) rfl (by kernel_rfl) rfl (by decide) ?_
   clear HF HM; intro a w5 g5 HF HM
   refine fo HF 2 rfl rfl ?_
   refine e_sa HF HM 0 rfl rfl rfl rfl rfl si_bk rfl rfl (by simp [Value.oneCell']) ?_
   clear HM; intro w8_2 HM
   refine qb rfl ?_
   refine qam (fun aS wS => ∃ (kd : Nat) (cp : Nat) (lo : Int) (nx : Int) (es : List Ev) (Ad : Option Addr) (cd : Nat) (xr : List Ev) (Xr : Option Addr) (cr : Nat), (kd < 256) ∧ (cp < 256) ∧ (I64 lo) ∧ (I64 nx) ∧ (∀ e ∈ es, e.Ok) ∧ (es.length ≤ 1000000) ∧ ((es = [tickE, pickB] ∧ Ad = some ⟨g18, 0, none⟩ ∧ cd = 2) ∨ (es = xr ∧ Ad = Xr ∧ cd = cr)) ∧ Fr aS 241 [] [(5, vP g5 0), (4, vI k2), (27, .bool true), (26, vI k2), (3, vI n), (23, .bool true), (22, vI k), (21, vI 14), (20, vS g20 14 14), (1, vP g1 0), (0, .bool false)] ∧ Mem w wS [.blk g5 #[vB kd, vB cp, vI lo, vI nx, .slice Ad es.length cd] 28, .row (.slice Xr xr.length cr) xr.length (xr.flatMap evL) 24 11, .row (vS g20 14 14) 14 (qcj.map I64i) 3 1, .blk g1 #[vB 1, vB 2, vI 300, vI 0, vS g18 2 2] 28, .row (vS g18 2 2) 2 ([tickE, pickB].flatMap evL) 24 11]) ?_ ?_
   ·
    refine wp_seq (qa ?_)
    refine fp HF 1 0 [(30, vI k2)] fun a HF => ?_
    refine qb rfl (wp_block (wp_seq (qa ?_)))
    refine fp HF 2 0 [(37, .bool ((k2 : Int) == (0 : Int)))] fun a HF => ?_
    refine qb rfl ?_
    rcases HF.tf 37 rfl with ⟨hb37, HF⟩ | ⟨hb37, HF⟩
    ·
     have hd37 := eq_of_beq hb37
     refine qf HF rfl (qa ?_)
     refine fp HF 2 0 [(40, vP g5 2), (39, vI n)] fun a HF => ?_
     refine fo HF 2 rfl rfl ?_
     refine zy HF HM (i := 0) (cs := #[vB 1, vB 2, vI 300, vI 0, vS g18 2 2]) rfl rfl rfl rfl (by kernel_rfl) rfl rfl (by simp) ?_
     clear HM; intro w12_2 HM
     refine qb rfl ?_
     replace HM := HM.nil 24 11
     exact ⟨1, 2, _, _, [tickE, pickB], _, _, [], none, 0, (by first | omega | decide), (by first | omega | decide), (by first | exact hnI | (unfold I64; omega) | (unfold I64; decide)), (by first | exact hnI | (unfold I64; omega) | (unfold I64; decide)), qml, Nat.le_of_ble_eq_true rfl, .inl ⟨rfl, rfl, rfl⟩, HF.sub (by kernel_rfl), HM.picks [1, 0, 2, 3, 4] (by decide) rfl⟩
    have hd37 := ne_of_beq_false hb37
    refine qe HF rfl (wp_seq (qa ?_))
    refine fp HF 2 0 [(41, .bool ((k2 : Int) == (1 : Int)))] fun a HF => ?_
    refine qb rfl ?_
    rcases HF.tf 41 rfl with ⟨hb41, HF⟩ | ⟨hb41, HF⟩
    ·
     have hd41 := eq_of_beq hb41
     refine qf HF rfl (qa ?_)
     refine fp HF 2 0 [(44, vP g5 3), (43, vI n)] fun a HF => ?_
     refine fo HF 2 rfl rfl ?_
     refine zy HF HM (i := 0) (cs := #[vB 1, vB 2, vI 300, vI 0, vS g18 2 2]) rfl rfl rfl rfl (by kernel_rfl) rfl rfl (by simp) ?_
     clear HM; intro w14_2 HM
     refine qb rfl ?_
     replace HM := HM.nil 24 11
     exact ⟨1, 2, _, _, [tickE, pickB], _, _, [], none, 0, (by first | omega | decide), (by first | omega | decide), (by first | exact hnI | (unfold I64; omega) | (unfold I64; decide)), (by first | exact hnI | (unfold I64; omega) | (unfold I64; decide)), qml, Nat.le_of_ble_eq_true rfl, .inl ⟨rfl, rfl, rfl⟩, HF.sub (by kernel_rfl), HM.picks [1, 0, 2, 3, 4] (by decide) rfl⟩
    have hd41 := ne_of_beq_false hb41
    refine qe HF rfl (wp_seq (qa ?_))
    refine fp HF 2 0 [(45, .bool ((k2 : Int) == (2 : Int)))] fun a HF => ?_
    refine qb rfl ?_
    rcases HF.tf 45 rfl with ⟨hb45, HF⟩ | ⟨hb45, HF⟩
    ·
     have hd45 := eq_of_beq hb45
     refine qf HF rfl (qa ?_)
     refine fp HF 2 0 [(48, vB (IntKind.u8.wrap n))] fun a HF => ?_
     replace HF := HF.sp 48 (vB ((n % 256).toNat)) rfl (qtz)
     refine fp HF 1 2 [(49, vP g5 1)] fun a HF => ?_
     refine fo HF 3 rfl rfl ?_
     refine zy HF HM (i := 0) (cs := #[vB 1, vB 2, vI 300, vI 0, vS g18 2 2]) rfl rfl rfl rfl (by kernel_rfl) rfl rfl (by simp) ?_
     clear HM; intro w16_3 HM
     refine qb rfl ?_
     replace HM := HM.nil 24 11
     exact ⟨1, (n % 256).toNat, _, _, [tickE, pickB], _, _, [], none, 0, (by first | omega | decide), (by first | omega | decide), (by first | exact hnI | (unfold I64; omega) | (unfold I64; decide)), (by first | exact hnI | (unfold I64; omega) | (unfold I64; decide)), qml, Nat.le_of_ble_eq_true rfl, .inl ⟨rfl, rfl, rfl⟩, HF.sub (by kernel_rfl), HM.picks [1, 0, 2, 3, 4] (by decide) rfl⟩
    have hd45 := ne_of_beq_false hb45
    refine qe HF rfl (wp_seq (qa ?_))
    refine fp HF 2 0 [(50, .bool ((k2 : Int) == (3 : Int)))] fun a HF => ?_
    refine qb rfl ?_
    rcases HF.tf 50 rfl with ⟨hb50, HF⟩ | ⟨hb50, HF⟩
    ·
     have hd50 := eq_of_beq hb50
     refine qf HF rfl (qa ?_)
     refine fp HF 2 0 [(53, vB (IntKind.u8.wrap n))] fun a HF => ?_
     replace HF := HF.sp 53 (vB ((n % 256).toNat)) rfl (qtz)
     refine fp HF 1 2 [(54, vP g5 0)] fun a HF => ?_
     refine fo HF 3 rfl rfl ?_
     refine zy HF HM (i := 0) (cs := #[vB 1, vB 2, vI 300, vI 0, vS g18 2 2]) rfl rfl rfl rfl (by kernel_rfl) rfl rfl (by simp) ?_
     clear HM; intro w18_3 HM
     refine qb rfl ?_
     replace HM := HM.nil 24 11
     exact ⟨(n % 256).toNat, 2, _, _, [tickE, pickB], _, _, [], none, 0, (by first | omega | decide), (by first | omega | decide), (by first | exact hnI | (unfold I64; omega) | (unfold I64; decide)), (by first | exact hnI | (unfold I64; omega) | (unfold I64; decide)), qml, Nat.le_of_ble_eq_true rfl, .inl ⟨rfl, rfl, rfl⟩, HF.sub (by kernel_rfl), HM.picks [1, 0, 2, 3, 4] (by decide) rfl⟩
    have hd50 := ne_of_beq_false hb50
    refine qe HF rfl (wp_seq (qa ?_))
    refine fp HF 2 0 [(55, .bool ((k2 : Int) == (4 : Int)))] fun a HF => ?_
    refine qb rfl ?_
    rcases HF.tf 55 rfl with ⟨hb55, HF⟩ | ⟨hb55, HF⟩
    ·
     have hd55 := eq_of_beq hb55
     refine qf HF rfl (qa ?_)
     refine fp HF 1 0 [(57, vI n)] fun a HF => ?_
     refine fy HF HM 1 rfl rfl rfl (v := .agg #[vB 2, vB 0, vI 0, vI n, .slice none 0 0]) (Yl.build (vs := [(0, vB 2), (3, vI n)]) rfl (by kernel_rfl) (by kernel_rfl)) fun a HF => ?_
     refine fo HF 2 rfl rfl ?_
     refine e_sa HF HM 0 rfl rfl rfl rfl rfl si_bk rfl rfl (by simp [Value.oneCell']) ?_
     clear HM; intro w20_2 HM
     refine qb rfl ?_
     replace HM := HM.nil 24 11
     exact ⟨2, 0, _, _, [], _, _, [], none, 0, (by first | omega | decide), (by first | omega | decide), (by first | exact hnI | (unfold I64; omega) | (unfold I64; decide)), (by first | exact hnI | (unfold I64; omega) | (unfold I64; decide)), noEvs, Nat.le_of_ble_eq_true rfl, .inr ⟨rfl, rfl, rfl⟩, HF.sub (by kernel_rfl), HM.picks [1, 0, 2, 3, 4] (by decide) rfl⟩
    have hd55 := ne_of_beq_false hb55
    refine qe HF rfl (wp_seq (qa ?_))
    refine fp HF 2 0 [(59, .bool ((k2 : Int) == (5 : Int)))] fun a HF => ?_
    refine qb rfl ?_
    rcases HF.tf 59 rfl with ⟨hb59, HF⟩ | ⟨hb59, HF⟩
    ·
     have hd59 := eq_of_beq hb59
     refine qf HF rfl (qa ?_)
     refine fp HF 1 0 [(61, vI n)] fun a HF => ?_
     refine fy HF HM 1 rfl rfl rfl (v := .agg #[vB 1, vB 0, vI n, vI 0, .slice none 0 0]) (Yl.build (vs := [(0, vB 1), (2, vI n)]) rfl (by kernel_rfl) (by kernel_rfl)) fun a HF => ?_
     refine fo HF 2 rfl rfl ?_
     refine e_sa HF HM 0 rfl rfl rfl rfl rfl si_bk rfl rfl (by simp [Value.oneCell']) ?_
     clear HM; intro w22_2 HM
     refine qb rfl ?_
     replace HM := HM.nil 24 11
     exact ⟨1, 0, _, _, [], _, _, [], none, 0, (by first | omega | decide), (by first | omega | decide), (by first | exact hnI | (unfold I64; omega) | (unfold I64; decide)), (by first | exact hnI | (unfold I64; omega) | (unfold I64; decide)), noEvs, Nat.le_of_ble_eq_true rfl, .inr ⟨rfl, rfl, rfl⟩, HF.sub (by kernel_rfl), HM.picks [1, 0, 2, 3, 4] (by decide) rfl⟩
    have hd59 := ne_of_beq_false hb59
    refine qe HF rfl (wp_seq (qa ?_))
    refine fp HF 2 0 [(63, .bool ((k2 : Int) == (6 : Int)))] fun a HF => ?_
    refine qb rfl ?_
    rcases HF.tf 63 rfl with ⟨hb63, HF⟩ | ⟨hb63, HF⟩
    ·
     have hd63 := eq_of_beq hb63
     refine qf HF rfl (qa ?_)
     refine fp HF 3 0 [(67, vB (IntKind.u8.wrap n)), (65, vI n)] fun a HF => ?_
     replace HF := HF.sp 67 (vB ((n % 256).toNat)) rfl (qtz)
     refine fy HF HM 3 rfl rfl rfl (v := .agg #[vB 2, vB ((n % 256).toNat), vI n, vI 1, .slice none 0 0]) (Yl.build (vs := [(0, vB 2), (3, vI 1), (2, vI n), (1, vB ((n % 256).toNat))]) rfl (by kernel_rfl) (by kernel_rfl)) fun a HF => ?_
     refine fo HF 4 rfl rfl ?_
     refine e_sa HF HM 0 rfl rfl rfl rfl rfl si_bk rfl rfl (by simp [Value.oneCell']) ?_
     clear HM; intro w24_4 HM
     refine qb rfl ?_
     replace HM := HM.nil 24 11
     exact ⟨2, (n % 256).toNat, _, _, [], _, _, [], none, 0, (by first | omega | decide), (by first | omega | decide), (by first | exact hnI | (unfold I64; omega) | (unfold I64; decide)), (by first | exact hnI | (unfold I64; omega) | (unfold I64; decide)), noEvs, Nat.le_of_ble_eq_true rfl, .inr ⟨rfl, rfl, rfl⟩, HF.sub (by kernel_rfl), HM.picks [1, 0, 2, 3, 4] (by decide) rfl⟩
    have hd63 := ne_of_beq_false hb63
    refine qe HF rfl (qa ?_)
    refine fp HF 2 0 [(32, vI n), (31, vI n)] fun a HF => ?_
    refine fy HF HM 2 rfl rfl rfl (v := .agg #[vI n, vI n, vB 2, vB 6, vI 0, vI 0, vI 0, vI 0, vI 0, vQ 0, vI 0]) (Yl.build (vs := [(0, vI n), (1, vI n), (2, vB 2), (3, vB 6)]) rfl (by kernel_rfl) (by kernel_rfl)) fun a HF => ?_
    refine fo HF 3 rfl rfl ?_
    refine e_is HF HM [] (.agg tickE.cells) rfl rfl (qks _) fun w34 hbw HM a HF => ?_
    refine fo HF 4 rfl rfl ?_
    refine qp HF HM (vs := [(0, .agg #[vI n, vI n, vB 2, vB 6, vI 0, vI 0, vI 0, vI 0, vI 0, vQ 0, vI 0]), (1, .agg tickE.cells)]) (cs := #[vI n, vI n, vB 2, vB 6, vI 0, vI 0, vI 0, vI 0, vI 0, vQ 0, vI 0, vI tickE.seq, vI tickE.time, vB tickE.cpu, vB tickE.kind, vI tickE.task, vI tickE.group, vI tickE.to, vI tickE.weight, vI tickE.ticks, vQ tickE.mask, vI tickE.got]) rfl ei_ev (by decide) rfl (by kernel_rfl) rfl (by decide) ?_
    clear HF HM; intro a w35 g35 HF HM
    refine fp HF 1 5 [(36, vP g5 4)] fun a HF => ?_
    refine fo HF 6 rfl rfl ?_
    refine zy HF HM (i := 1) (cs := #[vB 1, vB 2, vI 300, vI 0, vS g18 2 2]) rfl rfl rfl rfl (by kernel_rfl) rfl rfl (by simp) ?_
    clear HM; intro w10_6 HM
    refine qb rfl ?_
    replace HM := (HM.blkRow (i := 0) (n := 2) (size := 11) rfl rfl (by decide)).asRow (i := 0) (ys := [numB n, tickE].flatMap evL) rfl (rfl)
    exact ⟨1, 2, _, _, [numB n, tickE], _, _, [numB n, tickE], _, _, (by first | omega | decide), (by first | omega | decide), (by first | exact hnI | (unfold I64; omega) | (unfold I64; decide)), (by first | exact hnI | (unfold I64; omega) | (unfold I64; decide)), qyx hnI, Nat.le_of_ble_eq_true rfl, .inr ⟨rfl, rfl, rfl⟩, HF.sub (by kernel_rfl), HM.picks [1, 0, 2, 3, 4] (by decide) rfl⟩
   clear HF HM; rintro a w27 ⟨kd, cp, lo, nx, es, Ad, cd, xr, Xr, cr, hkd, hcp, hlo, hnx, hes, hel, hD, HF, HM⟩
   refine wp_seq ?_
   refine zw HM [.blk g5 #[vB kd, vB cp, vI lo, vI nx, .slice Ad es.length cd] 28, .row (.slice Xr xr.length cr) xr.length (xr.flatMap evL) 24 11, .row (vS g20 14 14) 14 (qcj.map I64i) 3 1, .blk g1 #[vB 1, vB 2, vI 300, vI 0, vS g18 2 2] 28, .row (vS g18 2 2) 2 ([tickE, pickB].flatMap evL) 24 11] [0, 1, 2, 3, 4] [] fun HM HS => ?_
   refine ay HF HS 0 rfl rfl rfl (v := .agg #[vB kd, vB cp, vI lo, vI nx, .slice Ad es.length cd]) (Yl.qx rfl rfl si_bk rfl (fun _ h => qd (h.blk (i := 0) rfl))) fun a HF => ?_
   refine ay HF HS 1 rfl rfl rfl (v := .agg #[vB 1, vB 2, vI 300, vI 0, vS g18 2 2]) (Yl.qx rfl rfl si_bk rfl (fun _ h => qd (h.blk (i := 3) rfl))) fun a HF => ?_
   refine qi [2] (by kernel_rfl) rfl ?_
   refine all_cons ?_ all_nil
   refine qj HF (i := 2) rfl rfl ?_
   refine e_is HF HM [.agg #[vB kd, vB cp, vI lo, vI nx, .slice Ad es.length cd], .agg #[vB 1, vB 2, vI 300, vI 0, vS g18 2 2]] (.bool true) rfl rfl (qd3 ⟨kd, cp, lo, nx, es⟩ oneB (bkOk hkd hcp hlo hnx hes) qnx Ad (some ⟨g18, 0, none⟩) cd 2 B _ (hL.mem HM hB) (HM.le hB) (by rcases hD with ⟨rfl, rfl, rfl⟩ | ⟨rfl, rfl, rfl⟩ <;> first | exact HM.rd (i := 4) rfl | exact HM.rd (i := 1) rfl) (HM.rd (i := 4) rfl) hel (Nat.le_of_ble_eq_true rfl)) fun w71 hbw HM a HF => ?_
   refine keepS (HM.picks [0, 1, 2, 3, 4] (by decide) rfl) (fun HS => ?_)
   refine ap HF (fun _ => HS) [3, 4] #[true, true, true, true, true, false, false, false, false, false, false] [(73, .bool false)] fun a HF => ?_
   refine ay HF HS 5 rfl rfl rfl (v := .agg #[vB 1, vB 2, vI 300, vI 0, vS g18 2 2]) (Yl.qx rfl rfl si_bk rfl (fun _ h => qd (h.blk (i := 3) rfl))) fun a HF => ?_
   refine ay HF HS 7 rfl rfl rfl (v := .agg #[vB kd, vB cp, vI lo, vI nx, .slice Ad es.length cd]) (Yl.qx rfl rfl si_bk rfl (fun _ h => qd (h.blk (i := 0) rfl))) fun a HF => ?_
   refine qi [6] (by kernel_rfl) rfl ?_
   refine all_cons ?_ all_nil
   refine qj HF (i := 6) rfl rfl ?_
   refine e_cl HF [.agg #[vB 1, vB 2, vI 300, vI 0, vS g18 2 2]] rfl rfl (qjv oneB (some ⟨g18, 0, none⟩) 2 _ (HM.rd (i := 4) rfl) (by decide)) ?_
   rintro _ w75 ⟨⟨A75, c75, rfl, ho, hc75⟩, hbw⟩
   refine ⟨_, rfl, ?_⟩
   replace HM := HM.callRow hbw ho
   clear HF; intro a HF
   refine keepS (HM.picks [1, 2, 3, 4, 5] (by decide) rfl) (fun HS => ?_)
   refine qi [8] (by kernel_rfl) rfl ?_
   refine all_cons ?_ all_nil
   refine qj HF (i := 8) rfl rfl ?_
   refine e_is HF HM [.agg #[vB 1, vB 2, vI 300, vI 0, .slice A75 2 c75], .agg #[vB kd, vB cp, vI lo, vI nx, .slice Ad es.length cd]] (.bool true) rfl rfl (qd3 oneB ⟨kd, cp, lo, nx, es⟩ qnx (bkOk hkd hcp hlo hnx hes) A75 Ad c75 cd B _ (hL.mem HM hB) (HM.le hB) (HM.rd (i := 0) rfl) (by rcases hD with ⟨rfl, rfl, rfl⟩ | ⟨rfl, rfl, rfl⟩ <;> first | exact HM.rd (i := 5) rfl | exact HM.rd (i := 2) rfl) (Nat.le_of_ble_eq_true rfl) hel) fun w77 hbw HM a HF => ?_
   refine keepS (HM.picks [1, 2, 3, 4, 5] (by decide) rfl) (fun HS => ?_)
   refine ap HF (fun _ => HS) [9, 10] #[true, true, true, true, true, true, true, true, true, true, true] [(79, .bool false)] fun a HF => ?_
   refine qm (by kernel_rfl) ?_
   refine qe HF rfl (wp_skip (qa ?_))
   refine fp HF 1 0 [(80, vI (IntKind.i64.wrap ((k2 : Int) + 1)))] fun a HF => ?_
   replace HF := HF.sp 80 (vI (k2 + 1 : Nat)) rfl (qk (by omega) (by omega))
   refine fp HF 1 1 [(26, vI (k2 + 1 : Nat))] fun a HF => ?_
   refine qb rfl ?_
   exact ⟨_, (by omega), k2 + 1, by omega, rfl, HF.sub (by kernel_rfl), HM.picks [3, 4, 5] (by decide) rfl⟩
  have hd27 := of_decide_eq_false hb27
  refine qe HF rfl (wp_exit (qa ?_))
  refine fp HF 1 0 [(81, vI (IntKind.i64.wrap ((k : Int) + 1)))] fun a HF => ?_
  replace HF := HF.sp 81 (vI (k + 1 : Nat)) rfl (qk (by omega) (by omega))
  refine fp HF 1 1 [(22, vI (k + 1 : Nat))] fun a HF => ?_
  refine qb rfl ?_
  exact ⟨_, (by omega), k + 1, by omega, rfl, HF.sub (by kernel_rfl), HM.picks [0, 1, 2] (by decide) rfl⟩
 have hd23 := of_decide_eq_false hb23
 refine qe HF rfl (wp_exit (wp_seq (wp_seq (qa ?_))))
 refine fy HF HM 0 rfl rfl rfl (v := .agg #[vB 1, vB 2, vI 300, vI 0, vS g18 2 2]) (Yl.qx rfl rfl si_bk rfl (fun _ h => qd (h.blk (i := 1) rfl))) fun a HF => ?_
 refine fy HF HM 1 rfl rfl rfl (v := .agg #[vB 2, vB 0, vI 0, vI 130, .slice none 0 0]) (Yl.build (vs := [(0, vB 2), (3, vI 130)]) rfl (by kernel_rfl) (by kernel_rfl)) fun a HF => ?_
 refine fy HF HM 2 rfl rfl rfl (v := .agg #[vB 1, vB 1, vI 1, vI 0, .slice none 0 0]) (Yl.build (vs := [(0, vB 1), (1, vB 1), (2, vI 1)]) rfl (by kernel_rfl) (by kernel_rfl)) fun a HF => ?_
 refine fo HF 3 rfl rfl ?_
 refine qp HF HM (vs := [(0, .agg #[vB 1, vB 2, vI 300, vI 0, vS g18 2 2]), (1, .agg #[vB 2, vB 0, vI 0, vI 130, .slice none 0 0]), (2, .agg #[vB 1, vB 1, vI 1, vI 0, .slice none 0 0])]) (cs := #[vB 1, vB 2, vI 300, vI 0, vS g18 2 2, vB 2, vB 0, vI 0, vI 130, .slice none 0 0, vB 1, vB 1, vI 1, vI 0, .slice none 0 0]) rfl qyw (by decide) rfl (by kernel_rfl) rfl (by decide) ?_
 clear HF HM; intro a w85 g85 HF HM
 refine fy HF HM 4 rfl rfl rfl (Yl.len rfl rfl (by kernel_rfl)) fun a HF => ?_
 refine fp HF 1 5 [(87, vI 0)] fun a HF => ?_
 refine qb rfl ?_
 replace HM := (HM.blkRow (i := 0) (n := 3) (size := 5) rfl rfl (by decide)).asRow (i := 0) (ys := (blks g18).flatMap kcL) rfl (rfl)
 replace HF := HF.to [(87, vI 0), (86, vI 3), (85, vS g85 3 3), (23, .bool false), (22, vI k), (21, vI 14), (20, vS g20 14 14), (1, vP g1 0), (0, .bool false)]
 replace HM := HM.picks (fs' := [.row (vS g85 3 3) 3 ((blks g18).flatMap kcL) 28 5, .row (vS g18 2 2) 2 ([tickE, pickB].flatMap evL) 24 11]) [0, 3] (by decide) rfl
 refine wp_block ?_
 refine qv (fun mS aS wS => ∃ (k5 : Nat), (k5 ≤ 3) ∧ mS = 3 - k5 ∧ Fr aS 241 [] [(87, vI k5), (86, vI 3), (85, vS g85 3 3), (23, .bool false), (22, vI k), (21, vI 14), (20, vS g20 14 14), (1, vP g1 0), (0, .bool false)] ∧ Mem w wS [.row (vS g85 3 3) 3 ((blks g18).flatMap kcL) 28 5, .row (vS g18 2 2) 2 ([tickE, pickB].flatMap evL) 24 11]) (m := 3 - 0) ⟨0, Nat.zero_le _, rfl, HF.sub (by kernel_rfl), HM.picks [0, 1] (by decide) rfl⟩ ?_
 clear HF HM; rintro mS a w_ ⟨k5, hk5, rfl, HF, HM⟩
 refine wp_seq (qa ?_)
 refine fp HF 1 0 [(88, .bool (decide ((k5 : Int) < (3 : Int))))] fun a HF => ?_
 refine qb rfl (wp_seq ?_)
 rcases HF.tf 88 rfl with ⟨hb88, HF⟩ | ⟨hb88, HF⟩
 ·
  have hd88 := of_decide_eq_true hb88
  have hk88 : k5 < 3 := by omega
  have hb3 : (blks g18).length = 3 := rfl
  obtain ⟨y, hyd⟩ : ∃ y, y = (blks g18).getD k5 Kc.zero := ⟨_, rfl⟩
  have hym : y ∈ blks g18 := by rw [hyd]; exact qds _ (by omega)
  have hyk : (blks g18)[k5]? = some y := by rw [hyd]; exact getD_at _ (by omega)
  have hy := qxt g18 y hym
  obtain ⟨R, hRd⟩ : ∃ R, R = y.b.raw := ⟨_, rfl⟩
  have hRl : ∀ x ∈ R, x < 256 := by rw [hRd]; exact qlq hy.ok
  obtain ⟨hR9, hRm⟩ : 9 ≤ R.length ∧ R.length ≤ 1000 := by rw [hRd]; exact hy.len
  refine qf HF rfl (wp_skip (wp_seq (wp_block (wp_seq (qa ?_)))))
  refine fy HF HM 0 rfl rfl rfl (v := vP g85 (k5 * 5)) (Yl.ix0 g85 k5 5 rfl rfl rfl) fun a HF => ?_
  refine fy HF HM 1 rfl rfl rfl (v := .agg (y.b.cells y.A y.c)) (Yl.qx rfl rfl si_bk rfl (fun _ h => h.qt4 qxp (i := 0) rfl (k := k5) hyk)) fun a HF => ?_
  refine fo HF 2 rfl rfl ?_
  refine qz HF HM (cs := #[vB 0, vB 0, vI 0, vI 0, .slice none 0 0]) rfl (by kernel_rfl) rfl (by decide) ?_
  clear HF HM; intro a w7 g7 HF HM
  refine fo HF 3 rfl rfl ?_
  refine e_sa HF HM 0 rfl rfl rfl rfl rfl si_bk rfl rfl (qcd _ _ _) ?_
  clear HM; intro w31_3 HM
  refine qb rfl (wp_seq (qa ?_))
  refine fy HF HM 0 rfl rfl rfl (v := .agg (y.b.cells y.A y.c)) (Yl.qx rfl rfl si_bk rfl (fun _ h => qd (h.blk (i := 0) rfl))) fun a HF => ?_
  refine fo HF 1 rfl rfl ?_
  refine e_cl HF [.agg (y.b.cells y.A y.c)] rfl rfl (qch y.b y.A y.c _ (qxu (HM.rd (i := 2) rfl) y hym) (by have := hy.few; omega)) ?_
  rintro _ w92 ⟨⟨A92, c92, rfl, ho, hc92⟩, hbw⟩
  refine ⟨_, rfl, ?_⟩
  replace HM := HM.callRow hbw ho
  clear HF; intro a HF
  refine fo HF 2 rfl rfl ?_
  refine e_cl HF [.agg (y.b.cells A92 c92)] rfl rfl ((qb1 y.b hy.ok A92 c92 _ (HM.rd (i := 0) rfl) (by have := hy.few; omega) hy.fits).mono (fun _ _ h => h.as hRd.symm)) ?_
  rintro _ w93 ⟨⟨A93, c93, rfl, ho, hc93⟩, hbw⟩
  refine ⟨_, rfl, ?_⟩
  replace HM := HM.callRow hbw ho
  clear HF; intro a HF
  refine fp HF 1 3 [(8, .slice A93 ((R).length) c93)] fun a HF => ?_
  refine qb rfl ?_
  replace HF := HF.to [(8, .slice A93 ((R).length) c93), (7, vP g7 0), (88, .bool true), (87, vI k5), (86, vI 3), (85, vS g85 3 3), (23, .bool false), (22, vI k), (21, vI 14), (20, vS g20 14 14), (1, vP g1 0), (0, .bool false)]
  replace HM := HM.picks (fs' := [.row (.slice A93 ((R).length) c93) ((R).length) (R.map B8) 5 1, .row (vS g85 3 3) 3 ((blks g18).flatMap kcL) 28 5, .row (vS g18 2 2) 2 ([tickE, pickB].flatMap evL) 24 11]) [0, 3, 4] (by decide) rfl
  have h7 := getD_lt hRl (k := 7) (by omega)
  obtain ⟨gA93, rfl⟩ := qa7 (HM.own (i := 0) rfl) (Nat.lt_of_le_of_lt (Nat.zero_le _) (show 0 < (R).length from by omega))
  refine wp_seq (wp_seq (qa ?_))
  refine fp HF 1 0 [(94, vS gA93 ((R).length) c93)] fun a HF => ?_
  refine fo HF 1 rfl rfl ?_
  refine e_cl HF [vS gA93 ((R).length) c93] rfl rfl (qt2 (R) _ (HM.rd (i := 0) rfl) hRl) ?_
  rintro _ w95 ⟨⟨A95, c95, rfl, ho, hc95⟩, hbw⟩
  refine ⟨_, rfl, ?_⟩
  replace HM := HM.callRow hbw ho
  clear HF; intro a HF
  have hsl95 := qab (R)
  refine fo HF 2 rfl rfl ?_
  refine e_is HF HM [.slice A95 (((sealL (R))).length) c95] (.bool true) rfl rfl (qbs (sealL (R)) B _ (hL.mem HM hB) (HM.le hB) (HM.rd (i := 0) rfl) (qbx hRl)) fun w96 hbw HM a HF => ?_
  refine fp HF 3 3 [(99, vS gA93 ((R).length) c93), (98, .bool false)] fun a HF => ?_
  refine fo HF 6 rfl rfl ?_
  refine e_cl HF [vS gA93 ((R).length) c93] rfl rfl (qt2 (R) _ (HM.rd (i := 1) rfl) hRl) ?_
  rintro _ w100 ⟨⟨A100, c100, rfl, ho, hc100⟩, hbw⟩
  refine ⟨_, rfl, ?_⟩
  replace HM := HM.callRow hbw ho
  clear HF; intro a HF
  have hsl100 := qab (R)
  refine fo HF 7 rfl rfl ?_
  refine qp HF HM (vs := [(0, vB 1), (1, vB 2)]) (cs := #[vB 1, vB 2]) rfl ei_u8 (by decide) rfl (by kernel_rfl) rfl (by decide) ?_
  clear HF HM; intro a w101 g101 HF HM
  refine fo HF 8 rfl rfl ?_
  refine qs HF HM (i := 1) rfl ei_u8 rfl rfl rfl (news := ([1, 2].map B8)) (HM.rdBlk (i := 0) (n := 2) (size := 1) rfl rfl) (qaa _) (by omega) (by omega) rfl (by decide) ?_
  clear HF HM; intro a w102 A102 c102 HF HM hc102
  rw [show ((sealL (R)).map B8) ++ ([1, 2].map B8) = (sealL (R) ++ [1, 2]).map B8 from by simp] at HM
  refine fo HF 9 rfl rfl ?_
  refine e_is HF HM [.slice A102 ((((sealL (R))).length) + 2) c102] (.bool true) rfl rfl (qbs (sealL (R) ++ [1, 2]) B _ (hL.mem HM hB) (HM.le hB) (HM.rd (i := 1) rfl) (qaj (qbx hRl) (by decide))) fun w103 hbw HM a HF => ?_
  refine fp HF 4 10 [(107, vS gA93 ((R).length) c93), (106, .bool false)] fun a HF => ?_
  refine fo HF 14 rfl rfl ?_
  refine e_is HF HM [vS gA93 ((R).length) c93] (.bool true) rfl rfl (qbs (R) B _ (hL.mem HM hB) (HM.le hB) (HM.rd (i := 3) rfl) hRl) fun w108 hbw HM a HF => ?_
  refine fp HF 2 15 [(110, .bool false)] fun a HF => ?_
  refine qb rfl (qe HF rfl (wp_skip (wp_seq (wp_seq (qa ?_)))))
  refine fp HF 1 0 [(111, vS gA93 ((R).length) c93)] fun a HF => ?_
  refine fy HF HM 1 rfl rfl rfl (Yl.len rfl rfl (by kernel_rfl)) fun a HF => ?_
  refine fp HF 1 2 [(113, vI 0)] fun a HF => ?_
  refine qb rfl ?_
  replace HF := HF.to [(113, vI 0), (112, vI ((R).length : Nat)), (110, .bool false), (8, vS gA93 ((R).length) c93), (7, vP g7 0), (88, .bool true), (87, vI k5), (86, vI 3), (85, vS g85 3 3), (23, .bool false), (22, vI k), (21, vI 14), (20, vS g20 14 14), (1, vP g1 0), (0, .bool false)]
  replace HM := HM.picks (fs' := [.row (vS gA93 ((R).length) c93) ((R).length) (R.map B8) 5 1, .row (vS g85 3 3) 3 ((blks g18).flatMap kcL) 28 5, .row (vS g18 2 2) 2 ([tickE, pickB].flatMap evL) 24 11]) [3, 4, 5] (by decide) rfl
  refine wp_block ?_
  refine qv (fun mS aS wS => ∃ (k7 : Nat), (k7 ≤ R.length) ∧ mS = R.length - k7 ∧ Fr aS 241 [] [(113, vI k7), (112, vI ((R).length : Nat)), (110, .bool false), (8, vS gA93 ((R).length) c93), (7, vP g7 0), (88, .bool true), (87, vI k5), (86, vI 3), (85, vS g85 3 3), (23, .bool false), (22, vI k), (21, vI 14), (20, vS g20 14 14), (1, vP g1 0), (0, .bool false)] ∧ Mem w wS [.row (vS gA93 ((R).length) c93) ((R).length) (R.map B8) 5 1, .row (vS g85 3 3) 3 ((blks g18).flatMap kcL) 28 5, .row (vS g18 2 2) 2 ([tickE, pickB].flatMap evL) 24 11]) (m := R.length - 0) ⟨0, Nat.zero_le _, rfl, HF.sub (by kernel_rfl), HM.picks [0, 1, 2] (by decide) rfl⟩ ?_
  clear HF HM; rintro mS a w_ ⟨k7, hk7, rfl, HF, HM⟩
  refine wp_seq (qa ?_)
  refine fp HF 1 0 [(114, .bool (decide ((k7 : Int) < (((R).length : Nat) : Int))))] fun a HF => ?_
  refine qb rfl (wp_seq ?_)
  rcases HF.tf 114 rfl with ⟨hb114, HF⟩ | ⟨hb114, HF⟩
  ·
   have hd114 := of_decide_eq_true hb114
   have hk114 : k7 < R.length := by omega
   obtain ⟨mx, hmx⟩ : ∃ mx, mx = max k7 8 := ⟨_, rfl⟩
   have hm8 : 8 ≤ mx ∧ mx ≤ R.length := by omega
   refine qf HF rfl (wp_skip (wp_seq (wp_block (wp_seq (qa ?_)))))
   refine fp HF 2 0 [(9, vI k7)] fun a HF => ?_
   refine qb rfl (wp_seq (qa ?_))
   refine fo HF 0 rfl rfl ?_
   refine qp HF HM (vs := [(0, vB 0), (1, vB 1), (2, vB 2), (3, vB 64), (4, vB 128), (5, vB 255)]) (cs := #[vB 0, vB 1, vB 2, vB 64, vB 128, vB 255]) rfl ei_u8 (by decide) rfl (by kernel_rfl) rfl (by decide) ?_
   clear HF HM; intro a w116 g116 HF HM
   refine fy HF HM 1 rfl rfl rfl (Yl.len rfl rfl (by kernel_rfl)) fun a HF => ?_
   refine fp HF 1 2 [(118, vI 0)] fun a HF => ?_
   refine qb rfl ?_
   replace HM := (HM.blkRow (i := 0) (n := 6) (size := 1) rfl rfl (by decide)).asRow (i := 0) (ys := six.map B8) rfl (by kernel_rfl)
   refine wp_block ?_
   refine qv (fun mS aS wS => ∃ (k9 : Nat), (k9 ≤ 6) ∧ mS = 6 - k9 ∧ Fr aS 241 [] [(118, vI k9), (117, vI 6), (116, vS g116 6 6), (9, vI k7), (114, .bool true), (113, vI k7), (112, vI ((R).length : Nat)), (110, .bool false), (8, vS gA93 ((R).length) c93), (7, vP g7 0), (88, .bool true), (87, vI k5), (86, vI 3), (85, vS g85 3 3), (23, .bool false), (22, vI k), (21, vI 14), (20, vS g20 14 14), (1, vP g1 0), (0, .bool false)] ∧ Mem w wS [.row (vS g116 6 6) 6 (six.map B8) 5 1, .row (vS gA93 ((R).length) c93) ((R).length) (R.map B8) 5 1, .row (vS g85 3 3) 3 ((blks g18).flatMap kcL) 28 5, .row (vS g18 2 2) 2 ([tickE, pickB].flatMap evL) 24 11]) (m := 6 - 0) ⟨0, Nat.zero_le _, rfl, HF.sub (by kernel_rfl), HM.picks [0, 1, 2, 3] (by decide) rfl⟩ ?_
   clear HF HM; rintro mS a w_ ⟨k9, hk9, rfl, HF, HM⟩
   refine wp_seq (qa ?_)
   refine fp HF 1 0 [(119, .bool (decide ((k9 : Int) < (6 : Int))))] fun a HF => ?_
   refine qb rfl (wp_seq ?_)
   rcases HF.tf 119 rfl with ⟨hb119, HF⟩ | ⟨hb119, HF⟩
   ·
    have hd119 := of_decide_eq_true hb119
    have hk119 : k9 < 6 := by omega
    have h6 : six.length = 6 := rfl
    obtain ⟨cv, hcvd⟩ : ∃ cv, cv = six.getD k9 0 := ⟨_, rfl⟩
    have hcv : cv < 256 := by rw [hcvd]; exact getD_lt qyy (by omega)
    refine qf HF rfl (wp_skip (wp_seq (wp_block (wp_seq (qa ?_)))))
    refine fy HF HM 0 rfl rfl rfl (v := vP g116 (k9 * 1)) (Yl.ix0 g116 k9 1 rfl rfl rfl) fun a HF => ?_
    refine fy HF HM 1 rfl rfl rfl (v := vB (six.getD k9 0)) (Yl.qh rfl rfl (by kernel_rfl) (fun _ h => h.qa1 (i := 0) rfl (k := k9) (za (F := B8) (k := k9) (x := (six.getD k9 0)) ((getD_at 0 (k := k9) (by first | omega | (simp; omega))))))) fun a HF => ?_
    replace HF := HF.sp 121 (vB cv) rfl (by rw [hcvd])
    refine fp HF 1 2 [(11, vB cv)] fun a HF => ?_
    refine qb rfl (wp_seq (qa ?_))
    refine fo HF 0 rfl rfl ?_
    refine qb5 HF HM rfl ei_u8 rfl (by decide) ?_
    clear HF HM; intro a w122 g122 HF HM
    refine fp HF 1 1 [(123, vS gA93 ((R).length) c93)] fun a HF => ?_
    refine fo HF 2 rfl rfl ?_
    refine qs HF HM (i := 0) rfl ei_u8 rfl rfl rfl (news := (R.map B8)) (HM.rd (i := 2) rfl) (qaa _) (by omega) (by omega) rfl (by decide) ?_
    clear HF HM; intro a w124 A124 c124 HF HM hc124
    rw [show [] ++ (R.map B8) = R.map B8 from by simp] at HM
    refine fp HF 1 3 [(12, .slice A124 (0 + R.length) c124)] fun a HF => ?_
    refine qb rfl (wp_seq (qa ?_))
    refine fp HF 3 0 [(127, vB cv), (126, vI k7), (125, .slice A124 (0 + R.length) c124)] fun a HF => ?_
    obtain ⟨gA124, rfl⟩ := qa7 (HM.own (i := 0) rfl) (Nat.lt_of_le_of_lt (Nat.zero_le _) (show k7 < 0 + R.length from by omega))
    refine fy HF HM 3 rfl rfl rfl (v := vP gA124 (k7 * 1)) (Yl.ix0 gA124 k7 1 rfl rfl rfl) fun a HF => ?_
    refine fo HF 4 rfl rfl ?_
    refine qdb HF HM (i := 0) rfl rfl rfl rfl (by kernel_rfl) rfl rfl (by rw [List.length_map]; omega) ?_
    clear HM; intro w42_4 HM
    replace HM := HM.asRow (i := 0) (ys := (R.set k7 cv).map B8) rfl (qfu B8 R k7 cv (by omega))
    refine qb rfl ?_
    replace HF := HF.to [(12, vS gA124 (0 + R.length) c124), (11, vB cv), (119, .bool true), (118, vI k9), (117, vI 6), (116, vS g116 6 6), (9, vI k7), (114, .bool true), (113, vI k7), (112, vI ((R).length : Nat)), (110, .bool false), (8, vS gA93 ((R).length) c93), (7, vP g7 0), (88, .bool true), (87, vI k5), (86, vI 3), (85, vS g85 3 3), (23, .bool false), (22, vI k), (21, vI 14), (20, vS g20 14 14), (1, vP g1 0), (0, .bool false)]
    replace HM := HM.picks (fs' := [.row (vS gA124 (0 + R.length) c124) (0 + R.length) ((R.set k7 cv).map B8) 5 1, .row (vS g116 6 6) 6 (six.map B8) 5 1, .row (vS gA93 ((R).length) c93) ((R).length) (R.map B8) 5 1, .row (vS g85 3 3) 3 ((blks g18).flatMap kcL) 28 5, .row (vS g18 2 2) 2 ([tickE, pickB].flatMap evL) 24 11]) [0, 1, 2, 3, 4] (by decide) rfl
    refine wp_seq ?_
    refine zw HM [.row (vS gA124 (0 + R.length) c124) (0 + R.length) ((R.set k7 cv).map B8) 5 1, .row (vS g116 6 6) 6 (six.map B8) 5 1, .row (vS gA93 ((R).length) c93) ((R).length) (R.map B8) 5 1, .row (vS g85 3 3) 3 ((blks g18).flatMap kcL) 28 5, .row (vS g18 2 2) 2 ([tickE, pickB].flatMap evL) 24 11] [0, 1, 2, 3, 4] [] fun HM HS => ?_
    refine qat (f := 1) (l := #[true, true, true, true, true, true, true, true, true, true, true, true, true, true, true, true, true, true, true, true, true, false]) (fun aS wS => ∃ (g132 : Nat) (g135 : Nat) (A140 : Option Addr) (c140 : Nat) (g142 : Nat) (A143 : Option Addr) (c143 : Nat) (A148 : Option Addr) (c148 : Nat) (A149 : Option Addr) (c149 : Nat), Fr aS 241 [] [(149, .slice A149 (((sealL ([(12 + (0 + (mx - 8) + 1 + (R.length - mx))) % 256, 0, 0, 0] ++ [113, 116, 1, R.getD 7 0] ++ ((R.take mx).drop 8 ++ [cv] ++ R.drop mx)))).length) c149), (148, .slice A148 (0 + (mx - 8) + 1 + (R.length - mx)) c148), (143, .slice A143 (0 + (mx - 8) + 1) c143), (142, vS g142 1 1), (140, .slice A140 (0 + (mx - 8)) c140), (135, vS g135 0 0), (134, .string (bstr [113, 116, 1, R.getD 7 0])), (133, .string (bstr [(R.getD 7 0)])), (132, vS g132 1 1), (147, .slice (if c93 = mx then some ⟨gA93, 0, none⟩ else (some ⟨gA93, 0, none⟩ : Option Addr).map (·.add (mx * 1))) (((R).length) - mx) (c93 - mx)), (146, vI mx), (139, .slice (if c93 = 8 then some ⟨gA93, 0, none⟩ else (some ⟨gA93, 0, none⟩ : Option Addr).map (·.add (8 * 1))) (mx - 8) (c93 - 8)), (138, vI mx), (131, vB (R.getD 7 0)), (130, vP gA93 7), (145, vI k7), (144, vS gA93 ((R).length) c93), (141, vB cv), (137, vI k7), (136, vS gA93 ((R).length) c93), (129, vS gA93 ((R).length) c93), (12, vS gA124 (0 + R.length) c124), (11, vB cv), (119, .bool true), (118, vI k9), (117, vI 6), (116, vS g116 6 6), (9, vI k7), (114, .bool true), (113, vI k7), (112, vI ((R).length : Nat)), (110, .bool false), (8, vS gA93 ((R).length) c93), (7, vP g7 0), (88, .bool true), (87, vI k5), (86, vI 3), (85, vS g85 3 3), (23, .bool false), (22, vI k), (21, vI 14), (20, vS g20 14 14), (1, vP g1 0), (0, .bool false)] ∧ Mem w wS [.row (.slice A149 (((sealL ([(12 + (0 + (mx - 8) + 1 + (R.length - mx))) % 256, 0, 0, 0] ++ [113, 116, 1, R.getD 7 0] ++ ((R.take mx).drop 8 ++ [cv] ++ R.drop mx)))).length) c149) (((sealL ([(12 + (0 + (mx - 8) + 1 + (R.length - mx))) % 256, 0, 0, 0] ++ [113, 116, 1, R.getD 7 0] ++ ((R.take mx).drop 8 ++ [cv] ++ R.drop mx)))).length) ((sealL ([(12 + (0 + (mx - 8) + 1 + (R.length - mx))) % 256, 0, 0, 0] ++ [113, 116, 1, R.getD 7 0] ++ ((R.take mx).drop 8 ++ [cv] ++ R.drop mx))).map B8) 5 1, .blk g142 #[vB cv] 5, .row (.slice A148 (0 + (mx - 8) + 1 + (R.length - mx)) c148) (0 + (mx - 8) + 1 + (R.length - mx)) (((R.take mx).drop 8 ++ [cv] ++ R.drop mx).map B8) 5 1, .blk g132 #[vB (R.getD 7 0)] 5, .row (vS gA124 (0 + R.length) c124) (0 + R.length) ((R.set k7 cv).map B8) 5 1, .row (vS g116 6 6) 6 (six.map B8) 5 1, .row (vS gA93 ((R).length) c93) ((R).length) (R.map B8) 5 1, .row (vS g85 3 3) 3 ((blks g18).flatMap kcL) 28 5, .row (vS g18 2 2) 2 ([tickE, pickB].flatMap evL) 24 11] ∧ (0 + (mx - 8) ≤ c140) ∧ (0 + (mx - 8) + 1 ≤ c143) ∧ (0 + (mx - 8) + 1 + (R.length - mx) ≤ c148) ∧ ((sealL ([(12 + (0 + (mx - 8) + 1 + (R.length - mx))) % 256, 0, 0, 0] ++ [113, 116, 1, R.getD 7 0] ++ ((R.take mx).drop 8 ++ [cv] ++ R.drop mx))).length ≤ c149)) ?_ fun M43_0 => ?_
    ·
     clear HF HM HS; rintro a wM ⟨g132, g135, A140, c140, g142, A143, c143, A148, c148, A149, c149, HF, HM, hc140, hc143, hc148, hc149⟩
     have HS := HM.picks (fs' := [.row (vS gA124 (0 + R.length) c124) (0 + R.length) ((R.set k7 cv).map B8) 5 1, .row (vS g116 6 6) 6 (six.map B8) 5 1, .row (vS gA93 ((R).length) c93) ((R).length) (R.map B8) 5 1, .row (vS g85 3 3) 3 ((blks g18).flatMap kcL) 28 5, .row (vS g18 2 2) 2 ([tickE, pickB].flatMap evL) 24 11]) [4, 5, 6, 7, 8] (by decide) rfl
     refine ap HF (fun _ => HS) [21] #[true, true, true, true, true, true, true, true, true, true, true, true, true, true, true, true, true, true, true, true, true, true] [(13, .slice A149 (((sealL ([(12 + (0 + (mx - 8) + 1 + (R.length - mx))) % 256, 0, 0, 0] ++ [113, 116, 1, R.getD 7 0] ++ ((R.take mx).drop 8 ++ [cv] ++ R.drop mx)))).length) c149)] fun a HF => ?_
     refine qm (by kernel_rfl) ?_
     have hin : (sealL ([(12 + (0 + (mx - 8) + 1 + (R.length - mx))) % 256, 0, 0, 0] ++ [113, 116, 1, R.getD 7 0] ++ ((R.take mx).drop 8 ++ [cv] ++ R.drop mx))).length = R.length + 5 := by rw [qab]; simp only [List.length_append, List.length_cons, List.length_nil, List.length_take, List.length_drop]; omega
     refine wp_seq (qa ?_)
     refine fp HF 1 0 [(150, vS gA124 (0 + R.length) c124)] fun a HF => ?_
     refine fo HF 1 rfl rfl ?_
     refine e_cl HF [vS gA124 (0 + R.length) c124] rfl rfl (qt2 (R.set k7 cv) _ (HM.rd (i := 4) rfl) (qt1 hRl hcv)) ?_
     rintro _ w151 ⟨⟨A151, c151, rfl, ho, hc151⟩, hbw⟩
     refine ⟨_, rfl, ?_⟩
     replace HM := HM.callRow hbw ho
     clear HF; intro a HF
     have hsl151 := qab (R.set k7 cv)
     refine fo HF 2 rfl rfl ?_
     refine e_is HF HM [.slice A151 (((sealL (R.set k7 cv))).length) c151] (.bool true) rfl rfl (qbs (sealL (R.set k7 cv)) B _ (hL.mem HM hB) (HM.le hB) (HM.rd (i := 0) rfl) (qbx (qt1 hRl hcv))) fun w152 hbw HM a HF => ?_
     refine fp HF 3 3 [(155, vS gA124 (0 + R.length) c124), (154, .bool false)] fun a HF => ?_
     refine fo HF 6 rfl rfl ?_
     refine qp HF HM (vs := [(0, vB 1), (1, vB 2), (2, vB 3), (3, vB 4)]) (cs := #[vB 1, vB 2, vB 3, vB 4]) rfl ei_u8 (by decide) rfl (by kernel_rfl) rfl (by decide) ?_
     clear HF HM; intro a w156 g156 HF HM
     refine fo HF 7 rfl rfl ?_
     refine qs HF HM (i := 6) rfl ei_u8 rfl rfl rfl (news := ([1, 2, 3, 4].map B8)) (HM.rdBlk (i := 0) (n := 4) (size := 1) rfl rfl) (qaa _) (by omega) (by omega) rfl (by decide) ?_
     clear HF HM; intro a w157 A157 c157 HF HM hc157
     rw [show ((R.set k7 cv).map B8) ++ ([1, 2, 3, 4].map B8) = (R.set k7 cv ++ [1, 2, 3, 4]).map B8 from by simp] at HM
     refine fo HF 8 rfl rfl ?_
     refine e_is HF HM [.slice A157 ((0 + R.length) + 4) c157] (.bool true) rfl rfl (qbs (R.set k7 cv ++ [1, 2, 3, 4]) B _ (hL.mem HM hB) (HM.le hB) (HM.rd (i := 6) rfl) (qaj (qt1 hRl hcv) (by decide))) fun w158 hbw HM a HF => ?_
     refine fp HF 4 9 [(162, .slice A149 (((sealL ([(12 + (0 + (mx - 8) + 1 + (R.length - mx))) % 256, 0, 0, 0] ++ [113, 116, 1, R.getD 7 0] ++ ((R.take mx).drop 8 ++ [cv] ++ R.drop mx)))).length) c149), (161, .bool false)] fun a HF => ?_
     refine fo HF 13 rfl rfl ?_
     refine e_is HF HM [.slice A149 (((sealL ([(12 + (0 + (mx - 8) + 1 + (R.length - mx))) % 256, 0, 0, 0] ++ [113, 116, 1, R.getD 7 0] ++ ((R.take mx).drop 8 ++ [cv] ++ R.drop mx)))).length) c149] (.bool true) rfl rfl (qbs (sealL ([(12 + (0 + (mx - 8) + 1 + (R.length - mx))) % 256, 0, 0, 0] ++ [113, 116, 1, R.getD 7 0] ++ ((R.take mx).drop 8 ++ [cv] ++ R.drop mx))) B _ (hL.mem HM hB) (HM.le hB) (HM.rd (i := 2) rfl) (qbx (qaj (qaj (by intro x hx; simp only [List.mem_cons, List.not_mem_nil, or_false] at hx; omega) (by intro x hx; simp only [List.mem_cons, List.not_mem_nil, or_false] at hx; omega)) (qaj (qaj (qak (zu hRl _) _) (qo7 hcv)) (qak hRl _))))) fun w163 hbw HM a HF => ?_
     refine fp HF 5 14 [(168, vI k7), (167, .slice A149 (((sealL ([(12 + (0 + (mx - 8) + 1 + (R.length - mx))) % 256, 0, 0, 0] ++ [113, 116, 1, R.getD 7 0] ++ ((R.take mx).drop 8 ++ [cv] ++ R.drop mx)))).length) c149), (166, .bool false)] fun a HF => ?_
     refine fy HF HM 19 rfl rfl rfl (v := .slice A149 k7 c149) (Yl.zx ei_u8 (j := k7) rfl rfl rfl (by omega)) fun a HF => ?_
     refine fo HF 20 rfl rfl ?_
     refine e_is HF HM [.slice A149 k7 c149] (.bool true) rfl rfl (qbs ((sealL ([(12 + (0 + (mx - 8) + 1 + (R.length - mx))) % 256, 0, 0, 0] ++ [113, 116, 1, R.getD 7 0] ++ ((R.take mx).drop 8 ++ [cv] ++ R.drop mx))).take k7) B _ (hL.mem HM hB) (HM.le hB) ((HM.rd (i := 2) rfl).toB8 (by first | omega | (simp; omega))) (zu (qbx (qaj (qaj (by intro x hx; simp only [List.mem_cons, List.not_mem_nil, or_false] at hx; omega) (by intro x hx; simp only [List.mem_cons, List.not_mem_nil, or_false] at hx; omega)) (qaj (qaj (qak (zu hRl _) _) (qo7 hcv)) (qak hRl _)))) _)) fun w170 hbw HM a HF => ?_
     refine fp HF 2 21 [(172, .bool false)] fun a HF => ?_
     refine qb rfl (qe HF rfl (wp_skip (qa ?_)))
     refine fp HF 1 0 [(173, vI (IntKind.i64.wrap ((k9 : Int) + 1)))] fun a HF => ?_
     replace HF := HF.sp 173 (vI (k9 + 1 : Nat)) rfl (qk (by omega) (by omega))
     refine fp HF 1 1 [(118, vI (k9 + 1 : Nat))] fun a HF => ?_
     refine qb rfl ?_
     exact ⟨_, (by omega), k9 + 1, by omega, rfl, HF.sub (by kernel_rfl), HM.picks [7, 8, 9, 10] (by decide) rfl⟩
    refine qat (f := 2) (l := #[true, true, true, true, true, true, true, true, true, true, true, true, true, true, true, true, true, true, true, true, false, false]) (fun aS wS => ∃ (g132 : Nat) (g135 : Nat) (A140 : Option Addr) (c140 : Nat) (g142 : Nat) (A143 : Option Addr) (c143 : Nat) (A148 : Option Addr) (c148 : Nat), Fr aS 241 [] [(148, .slice A148 (0 + (mx - 8) + 1 + (R.length - mx)) c148), (143, .slice A143 (0 + (mx - 8) + 1) c143), (142, vS g142 1 1), (140, .slice A140 (0 + (mx - 8)) c140), (135, vS g135 0 0), (134, .string (bstr [113, 116, 1, R.getD 7 0])), (133, .string (bstr [(R.getD 7 0)])), (132, vS g132 1 1), (147, .slice (if c93 = mx then some ⟨gA93, 0, none⟩ else (some ⟨gA93, 0, none⟩ : Option Addr).map (·.add (mx * 1))) (((R).length) - mx) (c93 - mx)), (146, vI mx), (139, .slice (if c93 = 8 then some ⟨gA93, 0, none⟩ else (some ⟨gA93, 0, none⟩ : Option Addr).map (·.add (8 * 1))) (mx - 8) (c93 - 8)), (138, vI mx), (131, vB (R.getD 7 0)), (130, vP gA93 7), (145, vI k7), (144, vS gA93 ((R).length) c93), (141, vB cv), (137, vI k7), (136, vS gA93 ((R).length) c93), (129, vS gA93 ((R).length) c93), (12, vS gA124 (0 + R.length) c124), (11, vB cv), (119, .bool true), (118, vI k9), (117, vI 6), (116, vS g116 6 6), (9, vI k7), (114, .bool true), (113, vI k7), (112, vI ((R).length : Nat)), (110, .bool false), (8, vS gA93 ((R).length) c93), (7, vP g7 0), (88, .bool true), (87, vI k5), (86, vI 3), (85, vS g85 3 3), (23, .bool false), (22, vI k), (21, vI 14), (20, vS g20 14 14), (1, vP g1 0), (0, .bool false)] ∧ Mem w wS [.blk g142 #[vB cv] 5, .row (.slice A148 (0 + (mx - 8) + 1 + (R.length - mx)) c148) (0 + (mx - 8) + 1 + (R.length - mx)) (((R.take mx).drop 8 ++ [cv] ++ R.drop mx).map B8) 5 1, .blk g132 #[vB (R.getD 7 0)] 5, .row (vS gA124 (0 + R.length) c124) (0 + R.length) ((R.set k7 cv).map B8) 5 1, .row (vS g116 6 6) 6 (six.map B8) 5 1, .row (vS gA93 ((R).length) c93) ((R).length) (R.map B8) 5 1, .row (vS g85 3 3) 3 ((blks g18).flatMap kcL) 28 5, .row (vS g18 2 2) 2 ([tickE, pickB].flatMap evL) 24 11] ∧ (0 + (mx - 8) ≤ c140) ∧ (0 + (mx - 8) + 1 ≤ c143) ∧ (0 + (mx - 8) + 1 + (R.length - mx) ≤ c148)) ?_ fun M43_1 => ?_
    ·
     clear HF HM HS; rintro a wM ⟨g132, g135, A140, c140, g142, A143, c143, A148, c148, HF, HM, hc140, hc143, hc148⟩
     have HS := HM.picks (fs' := [.row (vS gA124 (0 + R.length) c124) (0 + R.length) ((R.set k7 cv).map B8) 5 1, .row (vS g116 6 6) 6 (six.map B8) 5 1, .row (vS gA93 ((R).length) c93) ((R).length) (R.map B8) 5 1, .row (vS g85 3 3) 3 ((blks g18).flatMap kcL) 28 5, .row (vS g18 2 2) 2 ([tickE, pickB].flatMap evL) 24 11]) [3, 4, 5, 6, 7] (by decide) rfl
     refine qi [20] (by kernel_rfl) rfl ?_
     refine all_cons ?_ all_nil
     refine qj HF (i := 20) rfl rfl ?_
     refine e_cl HF [.string (bstr [113, 116, 1, R.getD 7 0]), .slice A148 (0 + (mx - 8) + 1 + (R.length - mx)) c148] rfl rfl (qcp [113, 116, 1, R.getD 7 0] (by intro x hx; simp only [List.mem_cons, List.not_mem_nil, or_false] at hx; omega) ((R.take mx).drop 8 ++ [cv] ++ R.drop mx) _ (HM.rd (i := 1) rfl) (qaj (qaj (qak (zu hRl _) _) (qo7 hcv)) (qak hRl _))) ?_
     rintro _ w149 ⟨⟨A149, c149, rfl, ho, hc149⟩, hbw⟩
     refine ⟨_, rfl, ?_⟩
     replace HM := HM.callRow hbw ho
     clear HF; intro a HF
     have hsl149 := qab ([(12 + (0 + (mx - 8) + 1 + (R.length - mx))) % 256, 0, 0, 0] ++ [113, 116, 1, R.getD 7 0] ++ ((R.take mx).drop 8 ++ [cv] ++ R.drop mx))
     refine keepS (HM.picks [4, 5, 6, 7, 8] (by decide) rfl) (fun HS => ?_)
     exact M43_0 _ _ ⟨g132, g135, A140, c140, g142, A143, c143, A148, c148, A149, c149, HF.sub (by kernel_rfl), HM.picks [0, 1, 2, 3, 4, 5, 6, 7, 8] (by decide) rfl, hc140, hc143, hc148, hc149⟩
    refine qat (f := 3) (l := #[true, true, true, true, true, true, true, true, true, true, true, true, true, true, true, true, true, true, true, false, false, false]) (fun aS wS => ∃ (g132 : Nat) (g135 : Nat) (A140 : Option Addr) (c140 : Nat) (g142 : Nat) (A143 : Option Addr) (c143 : Nat), Fr aS 241 [] [(143, .slice A143 (0 + (mx - 8) + 1) c143), (142, vS g142 1 1), (140, .slice A140 (0 + (mx - 8)) c140), (135, vS g135 0 0), (134, .string (bstr [113, 116, 1, R.getD 7 0])), (133, .string (bstr [(R.getD 7 0)])), (132, vS g132 1 1), (147, .slice (if c93 = mx then some ⟨gA93, 0, none⟩ else (some ⟨gA93, 0, none⟩ : Option Addr).map (·.add (mx * 1))) (((R).length) - mx) (c93 - mx)), (146, vI mx), (139, .slice (if c93 = 8 then some ⟨gA93, 0, none⟩ else (some ⟨gA93, 0, none⟩ : Option Addr).map (·.add (8 * 1))) (mx - 8) (c93 - 8)), (138, vI mx), (131, vB (R.getD 7 0)), (130, vP gA93 7), (145, vI k7), (144, vS gA93 ((R).length) c93), (141, vB cv), (137, vI k7), (136, vS gA93 ((R).length) c93), (129, vS gA93 ((R).length) c93), (12, vS gA124 (0 + R.length) c124), (11, vB cv), (119, .bool true), (118, vI k9), (117, vI 6), (116, vS g116 6 6), (9, vI k7), (114, .bool true), (113, vI k7), (112, vI ((R).length : Nat)), (110, .bool false), (8, vS gA93 ((R).length) c93), (7, vP g7 0), (88, .bool true), (87, vI k5), (86, vI 3), (85, vS g85 3 3), (23, .bool false), (22, vI k), (21, vI 14), (20, vS g20 14 14), (1, vP g1 0), (0, .bool false)] ∧ Mem w wS [.blk g142 #[vB cv] 5, .row (.slice A143 (0 + (mx - 8) + 1) c143) (0 + (mx - 8) + 1) (([] ++ (((R.take mx).drop 8).map B8)) ++ ([cv].map B8)) 5 1, .blk g132 #[vB (R.getD 7 0)] 5, .row (vS gA124 (0 + R.length) c124) (0 + R.length) ((R.set k7 cv).map B8) 5 1, .row (vS g116 6 6) 6 (six.map B8) 5 1, .row (vS gA93 ((R).length) c93) ((R).length) (R.map B8) 5 1, .row (vS g85 3 3) 3 ((blks g18).flatMap kcL) 28 5, .row (vS g18 2 2) 2 ([tickE, pickB].flatMap evL) 24 11] ∧ (0 + (mx - 8) ≤ c140) ∧ (0 + (mx - 8) + 1 ≤ c143)) ?_ fun M43_2 => ?_
    ·
     clear HF HM HS; rintro a wM ⟨g132, g135, A140, c140, g142, A143, c143, HF, HM, hc140, hc143⟩
     have HS := HM.picks (fs' := [.row (vS gA124 (0 + R.length) c124) (0 + R.length) ((R.set k7 cv).map B8) 5 1, .row (vS g116 6 6) 6 (six.map B8) 5 1, .row (vS gA93 ((R).length) c93) ((R).length) (R.map B8) 5 1, .row (vS g85 3 3) 3 ((blks g18).flatMap kcL) 28 5, .row (vS g18 2 2) 2 ([tickE, pickB].flatMap evL) 24 11]) [3, 4, 5, 6, 7] (by decide) rfl
     refine qi [19] (by kernel_rfl) rfl ?_
     refine all_cons ?_ all_nil
     refine qj HF (i := 19) rfl rfl ?_
     refine qs HF HM (i := 1) rfl ei_u8 rfl rfl rfl (news := ((R.drop mx).map B8)) ((HM.rd (i := 5) rfl).qhh (k := mx) (by omega) (by omega)) (qaa _) (by omega) (by omega) rfl (by decide) ?_
     clear HF HM; intro a w148 A148 c148 HF HM hc148
     rw [show (([] ++ (((R.take mx).drop 8).map B8)) ++ ([cv].map B8)) ++ ((R.drop mx).map B8) = ((R.take mx).drop 8 ++ [cv] ++ R.drop mx).map B8 from by simp] at HM
     refine keepS (HM.picks [3, 4, 5, 6, 7] (by decide) rfl) (fun HS => ?_)
     exact M43_1 _ _ ⟨g132, g135, A140, c140, g142, A143, c143, A148, c148, HF.sub (by kernel_rfl), HM.picks [0, 1, 2, 3, 4, 5, 6, 7] (by decide) rfl, hc140, hc143, hc148⟩
    refine qat (f := 4) (l := #[true, true, true, true, true, true, true, true, true, true, true, true, true, true, false, true, true, true, true, false, false, false]) (fun aS wS => ∃ (g132 : Nat) (g135 : Nat) (A140 : Option Addr) (c140 : Nat) (g142 : Nat), Fr aS 241 [] [(142, vS g142 1 1), (140, .slice A140 (0 + (mx - 8)) c140), (135, vS g135 0 0), (134, .string (bstr [113, 116, 1, R.getD 7 0])), (133, .string (bstr [(R.getD 7 0)])), (132, vS g132 1 1), (147, .slice (if c93 = mx then some ⟨gA93, 0, none⟩ else (some ⟨gA93, 0, none⟩ : Option Addr).map (·.add (mx * 1))) (((R).length) - mx) (c93 - mx)), (146, vI mx), (139, .slice (if c93 = 8 then some ⟨gA93, 0, none⟩ else (some ⟨gA93, 0, none⟩ : Option Addr).map (·.add (8 * 1))) (mx - 8) (c93 - 8)), (138, vI mx), (131, vB (R.getD 7 0)), (130, vP gA93 7), (145, vI k7), (144, vS gA93 ((R).length) c93), (141, vB cv), (137, vI k7), (136, vS gA93 ((R).length) c93), (129, vS gA93 ((R).length) c93), (12, vS gA124 (0 + R.length) c124), (11, vB cv), (119, .bool true), (118, vI k9), (117, vI 6), (116, vS g116 6 6), (9, vI k7), (114, .bool true), (113, vI k7), (112, vI ((R).length : Nat)), (110, .bool false), (8, vS gA93 ((R).length) c93), (7, vP g7 0), (88, .bool true), (87, vI k5), (86, vI 3), (85, vS g85 3 3), (23, .bool false), (22, vI k), (21, vI 14), (20, vS g20 14 14), (1, vP g1 0), (0, .bool false)] ∧ Mem w wS [.blk g142 #[vB cv] 5, .row (.slice A140 (0 + (mx - 8)) c140) (0 + (mx - 8)) ([] ++ (((R.take mx).drop 8).map B8)) 5 1, .blk g132 #[vB (R.getD 7 0)] 5, .row (vS gA124 (0 + R.length) c124) (0 + R.length) ((R.set k7 cv).map B8) 5 1, .row (vS g116 6 6) 6 (six.map B8) 5 1, .row (vS gA93 ((R).length) c93) ((R).length) (R.map B8) 5 1, .row (vS g85 3 3) 3 ((blks g18).flatMap kcL) 28 5, .row (vS g18 2 2) 2 ([tickE, pickB].flatMap evL) 24 11] ∧ (0 + (mx - 8) ≤ c140)) ?_ fun M43_3 => ?_
    ·
     clear HF HM HS; rintro a wM ⟨g132, g135, A140, c140, g142, HF, HM, hc140⟩
     have HS := HM.picks (fs' := [.row (vS gA124 (0 + R.length) c124) (0 + R.length) ((R.set k7 cv).map B8) 5 1, .row (vS g116 6 6) 6 (six.map B8) 5 1, .row (vS gA93 ((R).length) c93) ((R).length) (R.map B8) 5 1, .row (vS g85 3 3) 3 ((blks g18).flatMap kcL) 28 5, .row (vS g18 2 2) 2 ([tickE, pickB].flatMap evL) 24 11]) [3, 4, 5, 6, 7] (by decide) rfl
     refine qi [14] (by kernel_rfl) rfl ?_
     refine all_cons ?_ all_nil
     refine qj HF (i := 14) rfl rfl ?_
     refine qs HF HM (i := 1) rfl ei_u8 rfl rfl rfl (news := ([cv].map B8)) (HM.rdBlk (i := 0) (n := 1) (size := 1) rfl rfl) (qaa _) (by omega) (by omega) rfl (by decide) ?_
     clear HF HM; intro a w143 A143 c143 HF HM hc143
     refine keepS (HM.picks [3, 4, 5, 6, 7] (by decide) rfl) (fun HS => ?_)
     exact M43_2 _ _ ⟨g132, g135, A140, c140, g142, A143, c143, HF.sub (by kernel_rfl), HM.picks [0, 1, 2, 3, 4, 5, 6, 7] (by decide) rfl, hc140, hc143⟩
    refine qat (f := 4) (l := #[true, true, true, true, false, false, true, true, true, true, true, true, true, true, true, true, true, true, true, true, false, false]) (fun aS wS => ∃ (g132 : Nat) (g135 : Nat) (A140 : Option Addr) (c140 : Nat) (g142 : Nat) (A143 : Option Addr) (c143 : Nat) (A148 : Option Addr) (c148 : Nat), Fr aS 241 [] [(148, .slice A148 (0 + (mx - 8) + 1 + (R.length - mx)) c148), (143, .slice A143 (0 + (mx - 8) + 1) c143), (142, vS g142 1 1), (140, .slice A140 (0 + (mx - 8)) c140), (135, vS g135 0 0), (132, vS g132 1 1), (147, .slice (if c93 = mx then some ⟨gA93, 0, none⟩ else (some ⟨gA93, 0, none⟩ : Option Addr).map (·.add (mx * 1))) (((R).length) - mx) (c93 - mx)), (146, vI mx), (139, .slice (if c93 = 8 then some ⟨gA93, 0, none⟩ else (some ⟨gA93, 0, none⟩ : Option Addr).map (·.add (8 * 1))) (mx - 8) (c93 - 8)), (138, vI mx), (131, vB (R.getD 7 0)), (130, vP gA93 7), (145, vI k7), (144, vS gA93 ((R).length) c93), (141, vB cv), (137, vI k7), (136, vS gA93 ((R).length) c93), (129, vS gA93 ((R).length) c93), (12, vS gA124 (0 + R.length) c124), (11, vB cv), (119, .bool true), (118, vI k9), (117, vI 6), (116, vS g116 6 6), (9, vI k7), (114, .bool true), (113, vI k7), (112, vI ((R).length : Nat)), (110, .bool false), (8, vS gA93 ((R).length) c93), (7, vP g7 0), (88, .bool true), (87, vI k5), (86, vI 3), (85, vS g85 3 3), (23, .bool false), (22, vI k), (21, vI 14), (20, vS g20 14 14), (1, vP g1 0), (0, .bool false)] ∧ Mem w wS [.blk g142 #[vB cv] 5, .row (.slice A148 (0 + (mx - 8) + 1 + (R.length - mx)) c148) (0 + (mx - 8) + 1 + (R.length - mx)) (((R.take mx).drop 8 ++ [cv] ++ R.drop mx).map B8) 5 1, .blk g132 #[vB (R.getD 7 0)] 5, .row (vS gA124 (0 + R.length) c124) (0 + R.length) ((R.set k7 cv).map B8) 5 1, .row (vS g116 6 6) 6 (six.map B8) 5 1, .row (vS gA93 ((R).length) c93) ((R).length) (R.map B8) 5 1, .row (vS g85 3 3) 3 ((blks g18).flatMap kcL) 28 5, .row (vS g18 2 2) 2 ([tickE, pickB].flatMap evL) 24 11] ∧ (0 + (mx - 8) ≤ c140) ∧ (0 + (mx - 8) + 1 ≤ c143) ∧ (0 + (mx - 8) + 1 + (R.length - mx) ≤ c148)) ?_ fun M43_4 => ?_
    ·
     clear HF HM HS; rintro a wM ⟨g132, g135, A140, c140, g142, A143, c143, A148, c148, HF, HM, hc140, hc143, hc148⟩
     have HS := HM.picks (fs' := [.row (vS gA124 (0 + R.length) c124) (0 + R.length) ((R.set k7 cv).map B8) 5 1, .row (vS g116 6 6) 6 (six.map B8) 5 1, .row (vS gA93 ((R).length) c93) ((R).length) (R.map B8) 5 1, .row (vS g85 3 3) 3 ((blks g18).flatMap kcL) 28 5, .row (vS g18 2 2) 2 ([tickE, pickB].flatMap evL) 24 11]) [3, 4, 5, 6, 7] (by decide) rfl
     refine qi [4] (by kernel_rfl) rfl ?_
     refine all_cons ?_ all_nil
     refine qj HF (i := 4) rfl rfl ?_
     refine Yl.wp (S := fun wS => Mem w wS _) (v := .string (bstr [(R.getD 7 0)])) (Yl.str rfl rfl (fun _ h => h.rdBlk (i := 2) (n := 1) (size := 1) rfl rfl)) HF HM rfl (by decide) fun a HF => ?_
     refine keepS HS (fun HS => ?_)
     refine ay HF HS 5 rfl rfl rfl (v := .string ((ByteArray.mk #[113, 116, 1]) ++ (bstr [(R.getD 7 0)]))) (Yl.qgd rfl rfl rfl (by rw [qbg]; simp [ByteArray.size])) fun a HF => ?_
     replace HF := HF.sp 134 (.string (bstr [113, 116, 1, R.getD 7 0])) rfl (by rw [show ByteArray.mk #[113, 116, 1] = bstr [113, 116, 1] from rfl, qco]; rfl)
     refine qi [20] (by kernel_rfl) rfl ?_
     refine all_cons ?_ all_nil
     refine qj HF (i := 20) rfl rfl ?_
     refine e_cl HF [.string (bstr [113, 116, 1, R.getD 7 0]), .slice A148 (0 + (mx - 8) + 1 + (R.length - mx)) c148] rfl rfl (qcp [113, 116, 1, R.getD 7 0] (by intro x hx; simp only [List.mem_cons, List.not_mem_nil, or_false] at hx; omega) ((R.take mx).drop 8 ++ [cv] ++ R.drop mx) _ (HM.rd (i := 1) rfl) (qaj (qaj (qak (zu hRl _) _) (qo7 hcv)) (qak hRl _))) ?_
     rintro _ w149 ⟨⟨A149, c149, rfl, ho, hc149⟩, hbw⟩
     refine ⟨_, rfl, ?_⟩
     replace HM := HM.callRow hbw ho
     clear HF; intro a HF
     have hsl149 := qab ([(12 + (0 + (mx - 8) + 1 + (R.length - mx))) % 256, 0, 0, 0] ++ [113, 116, 1, R.getD 7 0] ++ ((R.take mx).drop 8 ++ [cv] ++ R.drop mx))
     refine keepS (HM.picks [4, 5, 6, 7, 8] (by decide) rfl) (fun HS => ?_)
     exact M43_0 _ _ ⟨g132, g135, A140, c140, g142, A143, c143, A148, c148, A149, c149, HF.sub (by kernel_rfl), HM.picks [0, 1, 2, 3, 4, 5, 6, 7, 8] (by decide) rfl, hc140, hc143, hc148, hc149⟩
    refine qat (f := 5) (l := #[true, true, true, true, true, true, true, true, true, true, true, true, true, false, false, true, true, true, true, false, false, false]) (fun aS wS => ∃ (g132 : Nat) (g135 : Nat) (A140 : Option Addr) (c140 : Nat), Fr aS 241 [] [(140, .slice A140 (0 + (mx - 8)) c140), (135, vS g135 0 0), (134, .string (bstr [113, 116, 1, R.getD 7 0])), (133, .string (bstr [(R.getD 7 0)])), (132, vS g132 1 1), (147, .slice (if c93 = mx then some ⟨gA93, 0, none⟩ else (some ⟨gA93, 0, none⟩ : Option Addr).map (·.add (mx * 1))) (((R).length) - mx) (c93 - mx)), (146, vI mx), (139, .slice (if c93 = 8 then some ⟨gA93, 0, none⟩ else (some ⟨gA93, 0, none⟩ : Option Addr).map (·.add (8 * 1))) (mx - 8) (c93 - 8)), (138, vI mx), (131, vB (R.getD 7 0)), (130, vP gA93 7), (145, vI k7), (144, vS gA93 ((R).length) c93), (141, vB cv), (137, vI k7), (136, vS gA93 ((R).length) c93), (129, vS gA93 ((R).length) c93), (12, vS gA124 (0 + R.length) c124), (11, vB cv), (119, .bool true), (118, vI k9), (117, vI 6), (116, vS g116 6 6), (9, vI k7), (114, .bool true), (113, vI k7), (112, vI ((R).length : Nat)), (110, .bool false), (8, vS gA93 ((R).length) c93), (7, vP g7 0), (88, .bool true), (87, vI k5), (86, vI 3), (85, vS g85 3 3), (23, .bool false), (22, vI k), (21, vI 14), (20, vS g20 14 14), (1, vP g1 0), (0, .bool false)] ∧ Mem w wS [.row (.slice A140 (0 + (mx - 8)) c140) (0 + (mx - 8)) ([] ++ (((R.take mx).drop 8).map B8)) 5 1, .blk g132 #[vB (R.getD 7 0)] 5, .row (vS gA124 (0 + R.length) c124) (0 + R.length) ((R.set k7 cv).map B8) 5 1, .row (vS g116 6 6) 6 (six.map B8) 5 1, .row (vS gA93 ((R).length) c93) ((R).length) (R.map B8) 5 1, .row (vS g85 3 3) 3 ((blks g18).flatMap kcL) 28 5, .row (vS g18 2 2) 2 ([tickE, pickB].flatMap evL) 24 11] ∧ (0 + (mx - 8) ≤ c140)) ?_ fun M43_5 => ?_
    ·
     clear HF HM HS; rintro a wM ⟨g132, g135, A140, c140, HF, HM, hc140⟩
     have HS := HM.picks (fs' := [.row (vS gA124 (0 + R.length) c124) (0 + R.length) ((R.set k7 cv).map B8) 5 1, .row (vS g116 6 6) 6 (six.map B8) 5 1, .row (vS gA93 ((R).length) c93) ((R).length) (R.map B8) 5 1, .row (vS g85 3 3) 3 ((blks g18).flatMap kcL) 28 5, .row (vS g18 2 2) 2 ([tickE, pickB].flatMap evL) 24 11]) [2, 3, 4, 5, 6] (by decide) rfl
     refine qi [13] (by kernel_rfl) rfl ?_
     refine all_cons ?_ all_nil
     refine qj HF (i := 13) rfl rfl ?_
     refine qp HF HM (vs := [(0, vB cv)]) (cs := #[vB cv]) rfl ei_u8 (by decide) rfl (by kernel_rfl) rfl (by decide) ?_
     clear HF HM; intro a w142 g142 HF HM
     refine keepS (HM.picks [3, 4, 5, 6, 7] (by decide) rfl) (fun HS => ?_)
     exact M43_3 _ _ ⟨g132, g135, A140, c140, g142, HF.sub (by kernel_rfl), HM.picks [0, 1, 2, 3, 4, 5, 6, 7] (by decide) rfl, hc140⟩
    refine qat (f := 5) (l := #[true, true, true, true, true, true, true, true, true, true, true, false, true, true, false, true, true, true, true, false, false, false]) (fun aS wS => ∃ (g132 : Nat) (g135 : Nat) (g142 : Nat), Fr aS 241 [] [(142, vS g142 1 1), (135, vS g135 0 0), (134, .string (bstr [113, 116, 1, R.getD 7 0])), (133, .string (bstr [(R.getD 7 0)])), (132, vS g132 1 1), (147, .slice (if c93 = mx then some ⟨gA93, 0, none⟩ else (some ⟨gA93, 0, none⟩ : Option Addr).map (·.add (mx * 1))) (((R).length) - mx) (c93 - mx)), (146, vI mx), (139, .slice (if c93 = 8 then some ⟨gA93, 0, none⟩ else (some ⟨gA93, 0, none⟩ : Option Addr).map (·.add (8 * 1))) (mx - 8) (c93 - 8)), (138, vI mx), (131, vB (R.getD 7 0)), (130, vP gA93 7), (145, vI k7), (144, vS gA93 ((R).length) c93), (141, vB cv), (137, vI k7), (136, vS gA93 ((R).length) c93), (129, vS gA93 ((R).length) c93), (12, vS gA124 (0 + R.length) c124), (11, vB cv), (119, .bool true), (118, vI k9), (117, vI 6), (116, vS g116 6 6), (9, vI k7), (114, .bool true), (113, vI k7), (112, vI ((R).length : Nat)), (110, .bool false), (8, vS gA93 ((R).length) c93), (7, vP g7 0), (88, .bool true), (87, vI k5), (86, vI 3), (85, vS g85 3 3), (23, .bool false), (22, vI k), (21, vI 14), (20, vS g20 14 14), (1, vP g1 0), (0, .bool false)] ∧ Mem w wS [.blk g142 #[vB cv] 5, .row (vS g135 0 0) 0 [] 5 1, .blk g132 #[vB (R.getD 7 0)] 5, .row (vS gA124 (0 + R.length) c124) (0 + R.length) ((R.set k7 cv).map B8) 5 1, .row (vS g116 6 6) 6 (six.map B8) 5 1, .row (vS gA93 ((R).length) c93) ((R).length) (R.map B8) 5 1, .row (vS g85 3 3) 3 ((blks g18).flatMap kcL) 28 5, .row (vS g18 2 2) 2 ([tickE, pickB].flatMap evL) 24 11]) ?_ fun M43_6 => ?_
    ·
     clear HF HM HS; rintro a wM ⟨g132, g135, g142, HF, HM⟩
     have HS := HM.picks (fs' := [.row (vS gA124 (0 + R.length) c124) (0 + R.length) ((R.set k7 cv).map B8) 5 1, .row (vS g116 6 6) 6 (six.map B8) 5 1, .row (vS gA93 ((R).length) c93) ((R).length) (R.map B8) 5 1, .row (vS g85 3 3) 3 ((blks g18).flatMap kcL) 28 5, .row (vS g18 2 2) 2 ([tickE, pickB].flatMap evL) 24 11]) [3, 4, 5, 6, 7] (by decide) rfl
     refine qi [11] (by kernel_rfl) rfl ?_
     refine all_cons ?_ all_nil
     refine qj HF (i := 11) rfl rfl ?_
     refine qs HF HM (i := 1) rfl ei_u8 rfl rfl rfl (news := (((R.take mx).drop 8).map B8)) ((HM.rd (i := 5) rfl).qd4 (i := 8) (j := mx) (by omega) (by omega) (by omega)) (qaa _) (by omega) (by omega) rfl (by decide) ?_
     clear HF HM; intro a w140 A140 c140 HF HM hc140
     refine keepS (HM.picks [3, 4, 5, 6, 7] (by decide) rfl) (fun HS => ?_)
     exact M43_3 _ _ ⟨g132, g135, A140, c140, g142, HF.sub (by kernel_rfl), HM.picks [0, 1, 2, 3, 4, 5, 6, 7] (by decide) rfl, hc140⟩
    refine qat (f := 5) (l := #[true, true, true, true, false, false, true, true, true, true, true, true, true, true, true, true, true, true, true, false, false, false]) (fun aS wS => ∃ (g132 : Nat) (g135 : Nat) (A140 : Option Addr) (c140 : Nat) (g142 : Nat) (A143 : Option Addr) (c143 : Nat), Fr aS 241 [] [(143, .slice A143 (0 + (mx - 8) + 1) c143), (142, vS g142 1 1), (140, .slice A140 (0 + (mx - 8)) c140), (135, vS g135 0 0), (132, vS g132 1 1), (147, .slice (if c93 = mx then some ⟨gA93, 0, none⟩ else (some ⟨gA93, 0, none⟩ : Option Addr).map (·.add (mx * 1))) (((R).length) - mx) (c93 - mx)), (146, vI mx), (139, .slice (if c93 = 8 then some ⟨gA93, 0, none⟩ else (some ⟨gA93, 0, none⟩ : Option Addr).map (·.add (8 * 1))) (mx - 8) (c93 - 8)), (138, vI mx), (131, vB (R.getD 7 0)), (130, vP gA93 7), (145, vI k7), (144, vS gA93 ((R).length) c93), (141, vB cv), (137, vI k7), (136, vS gA93 ((R).length) c93), (129, vS gA93 ((R).length) c93), (12, vS gA124 (0 + R.length) c124), (11, vB cv), (119, .bool true), (118, vI k9), (117, vI 6), (116, vS g116 6 6), (9, vI k7), (114, .bool true), (113, vI k7), (112, vI ((R).length : Nat)), (110, .bool false), (8, vS gA93 ((R).length) c93), (7, vP g7 0), (88, .bool true), (87, vI k5), (86, vI 3), (85, vS g85 3 3), (23, .bool false), (22, vI k), (21, vI 14), (20, vS g20 14 14), (1, vP g1 0), (0, .bool false)] ∧ Mem w wS [.blk g142 #[vB cv] 5, .row (.slice A143 (0 + (mx - 8) + 1) c143) (0 + (mx - 8) + 1) (([] ++ (((R.take mx).drop 8).map B8)) ++ ([cv].map B8)) 5 1, .blk g132 #[vB (R.getD 7 0)] 5, .row (vS gA124 (0 + R.length) c124) (0 + R.length) ((R.set k7 cv).map B8) 5 1, .row (vS g116 6 6) 6 (six.map B8) 5 1, .row (vS gA93 ((R).length) c93) ((R).length) (R.map B8) 5 1, .row (vS g85 3 3) 3 ((blks g18).flatMap kcL) 28 5, .row (vS g18 2 2) 2 ([tickE, pickB].flatMap evL) 24 11] ∧ (0 + (mx - 8) ≤ c140) ∧ (0 + (mx - 8) + 1 ≤ c143)) ?_ fun M43_7 => ?_
    ·
     clear HF HM HS; rintro a wM ⟨g132, g135, A140, c140, g142, A143, c143, HF, HM, hc140, hc143⟩
     have HS := HM.picks (fs' := [.row (vS gA124 (0 + R.length) c124) (0 + R.length) ((R.set k7 cv).map B8) 5 1, .row (vS g116 6 6) 6 (six.map B8) 5 1, .row (vS gA93 ((R).length) c93) ((R).length) (R.map B8) 5 1, .row (vS g85 3 3) 3 ((blks g18).flatMap kcL) 28 5, .row (vS g18 2 2) 2 ([tickE, pickB].flatMap evL) 24 11]) [3, 4, 5, 6, 7] (by decide) rfl
     refine qi [4, 19] (by kernel_rfl) rfl ?_
     refine all_cons ?_ ?_
     ·refine qj HF (i := 4) rfl rfl ?_
      refine Yl.wp (S := fun wS => Mem w wS _) (v := .string (bstr [(R.getD 7 0)])) (Yl.str rfl rfl (fun _ h => h.rdBlk (i := 2) (n := 1) (size := 1) rfl rfl)) HF HM rfl (by decide) fun a HF => ?_
      refine keepS HS (fun HS => ?_)
      refine ay HF HS 5 rfl rfl rfl (v := .string ((ByteArray.mk #[113, 116, 1]) ++ (bstr [(R.getD 7 0)]))) (Yl.qgd rfl rfl rfl (by rw [qbg]; simp [ByteArray.size])) fun a HF => ?_
      replace HF := HF.sp 134 (.string (bstr [113, 116, 1, R.getD 7 0])) rfl (by rw [show ByteArray.mk #[113, 116, 1] = bstr [113, 116, 1] from rfl, qco]; rfl)
      refine qi [19] (by kernel_rfl) rfl ?_
      refine all_cons ?_ all_nil
      refine qj HF (i := 19) rfl rfl ?_
      refine qs HF HM (i := 1) rfl ei_u8 rfl rfl rfl (news := ((R.drop mx).map B8)) ((HM.rd (i := 5) rfl).qhh (k := mx) (by omega) (by omega)) (qaa _) (by omega) (by omega) rfl (by decide) ?_
      clear HF HM; intro a w148 A148 c148 HF HM hc148
      rw [show (([] ++ (((R.take mx).drop 8).map B8)) ++ ([cv].map B8)) ++ ((R.drop mx).map B8) = ((R.take mx).drop 8 ++ [cv] ++ R.drop mx).map B8 from by simp] at HM
      refine keepS (HM.picks [3, 4, 5, 6, 7] (by decide) rfl) (fun HS => ?_)
      exact M43_1 _ _ ⟨g132, g135, A140, c140, g142, A143, c143, A148, c148, HF.sub (by kernel_rfl), HM.picks [0, 1, 2, 3, 4, 5, 6, 7] (by decide) rfl, hc140, hc143, hc148⟩
     refine all_cons ?_ all_nil
     refine qj HF (i := 19) rfl rfl ?_
     refine qs HF HM (i := 1) rfl ei_u8 rfl rfl rfl (news := ((R.drop mx).map B8)) ((HM.rd (i := 5) rfl).qhh (k := mx) (by omega) (by omega)) (qaa _) (by omega) (by omega) rfl (by decide) ?_
     clear HF HM; intro a w148 A148 c148 HF HM hc148
     rw [show (([] ++ (((R.take mx).drop 8).map B8)) ++ ([cv].map B8)) ++ ((R.drop mx).map B8) = ((R.take mx).drop 8 ++ [cv] ++ R.drop mx).map B8 from by simp] at HM
     refine keepS (HM.picks [3, 4, 5, 6, 7] (by decide) rfl) (fun HS => ?_)
     exact M43_4 _ _ ⟨g132, g135, A140, c140, g142, A143, c143, A148, c148, HF.sub (by kernel_rfl), HM.picks [0, 1, 2, 3, 4, 5, 6, 7] (by decide) rfl, hc140, hc143, hc148⟩
    refine qat (f := 6) (l := #[true, true, true, true, false, false, true, true, true, true, true, true, true, true, false, true, true, true, true, false, false, false]) (fun aS wS => ∃ (g132 : Nat) (g135 : Nat) (A140 : Option Addr) (c140 : Nat) (g142 : Nat), Fr aS 241 [] [(142, vS g142 1 1), (140, .slice A140 (0 + (mx - 8)) c140), (135, vS g135 0 0), (132, vS g132 1 1), (147, .slice (if c93 = mx then some ⟨gA93, 0, none⟩ else (some ⟨gA93, 0, none⟩ : Option Addr).map (·.add (mx * 1))) (((R).length) - mx) (c93 - mx)), (146, vI mx), (139, .slice (if c93 = 8 then some ⟨gA93, 0, none⟩ else (some ⟨gA93, 0, none⟩ : Option Addr).map (·.add (8 * 1))) (mx - 8) (c93 - 8)), (138, vI mx), (131, vB (R.getD 7 0)), (130, vP gA93 7), (145, vI k7), (144, vS gA93 ((R).length) c93), (141, vB cv), (137, vI k7), (136, vS gA93 ((R).length) c93), (129, vS gA93 ((R).length) c93), (12, vS gA124 (0 + R.length) c124), (11, vB cv), (119, .bool true), (118, vI k9), (117, vI 6), (116, vS g116 6 6), (9, vI k7), (114, .bool true), (113, vI k7), (112, vI ((R).length : Nat)), (110, .bool false), (8, vS gA93 ((R).length) c93), (7, vP g7 0), (88, .bool true), (87, vI k5), (86, vI 3), (85, vS g85 3 3), (23, .bool false), (22, vI k), (21, vI 14), (20, vS g20 14 14), (1, vP g1 0), (0, .bool false)] ∧ Mem w wS [.blk g142 #[vB cv] 5, .row (.slice A140 (0 + (mx - 8)) c140) (0 + (mx - 8)) ([] ++ (((R.take mx).drop 8).map B8)) 5 1, .blk g132 #[vB (R.getD 7 0)] 5, .row (vS gA124 (0 + R.length) c124) (0 + R.length) ((R.set k7 cv).map B8) 5 1, .row (vS g116 6 6) 6 (six.map B8) 5 1, .row (vS gA93 ((R).length) c93) ((R).length) (R.map B8) 5 1, .row (vS g85 3 3) 3 ((blks g18).flatMap kcL) 28 5, .row (vS g18 2 2) 2 ([tickE, pickB].flatMap evL) 24 11] ∧ (0 + (mx - 8) ≤ c140)) ?_ fun M43_8 => ?_
    ·
     clear HF HM HS; rintro a wM ⟨g132, g135, A140, c140, g142, HF, HM, hc140⟩
     have HS := HM.picks (fs' := [.row (vS gA124 (0 + R.length) c124) (0 + R.length) ((R.set k7 cv).map B8) 5 1, .row (vS g116 6 6) 6 (six.map B8) 5 1, .row (vS gA93 ((R).length) c93) ((R).length) (R.map B8) 5 1, .row (vS g85 3 3) 3 ((blks g18).flatMap kcL) 28 5, .row (vS g18 2 2) 2 ([tickE, pickB].flatMap evL) 24 11]) [3, 4, 5, 6, 7] (by decide) rfl
     refine qi [4, 14] (by kernel_rfl) rfl ?_
     refine all_cons ?_ ?_
     ·refine qj HF (i := 4) rfl rfl ?_
      refine Yl.wp (S := fun wS => Mem w wS _) (v := .string (bstr [(R.getD 7 0)])) (Yl.str rfl rfl (fun _ h => h.rdBlk (i := 2) (n := 1) (size := 1) rfl rfl)) HF HM rfl (by decide) fun a HF => ?_
      refine keepS HS (fun HS => ?_)
      refine ay HF HS 5 rfl rfl rfl (v := .string ((ByteArray.mk #[113, 116, 1]) ++ (bstr [(R.getD 7 0)]))) (Yl.qgd rfl rfl rfl (by rw [qbg]; simp [ByteArray.size])) fun a HF => ?_
      replace HF := HF.sp 134 (.string (bstr [113, 116, 1, R.getD 7 0])) rfl (by rw [show ByteArray.mk #[113, 116, 1] = bstr [113, 116, 1] from rfl, qco]; rfl)
      refine qi [14] (by kernel_rfl) rfl ?_
      refine all_cons ?_ all_nil
      refine qj HF (i := 14) rfl rfl ?_
      refine qs HF HM (i := 1) rfl ei_u8 rfl rfl rfl (news := ([cv].map B8)) (HM.rdBlk (i := 0) (n := 1) (size := 1) rfl rfl) (qaa _) (by omega) (by omega) rfl (by decide) ?_
      clear HF HM; intro a w143 A143 c143 HF HM hc143
      refine keepS (HM.picks [3, 4, 5, 6, 7] (by decide) rfl) (fun HS => ?_)
      exact M43_2 _ _ ⟨g132, g135, A140, c140, g142, A143, c143, HF.sub (by kernel_rfl), HM.picks [0, 1, 2, 3, 4, 5, 6, 7] (by decide) rfl, hc140, hc143⟩
     refine all_cons ?_ all_nil
     refine qj HF (i := 14) rfl rfl ?_
     refine qs HF HM (i := 1) rfl ei_u8 rfl rfl rfl (news := ([cv].map B8)) (HM.rdBlk (i := 0) (n := 1) (size := 1) rfl rfl) (qaa _) (by omega) (by omega) rfl (by decide) ?_
     clear HF HM; intro a w143 A143 c143 HF HM hc143
     refine keepS (HM.picks [3, 4, 5, 6, 7] (by decide) rfl) (fun HS => ?_)
     exact M43_7 _ _ ⟨g132, g135, A140, c140, g142, A143, c143, HF.sub (by kernel_rfl), HM.picks [0, 1, 2, 3, 4, 5, 6, 7] (by decide) rfl, hc140, hc143⟩
    refine qat (f := 7) (l := #[true, true, true, true, false, false, true, true, true, true, true, true, true, false, false, true, true, true, true, false, false, false]) (fun aS wS => ∃ (g132 : Nat) (g135 : Nat) (A140 : Option Addr) (c140 : Nat), Fr aS 241 [] [(140, .slice A140 (0 + (mx - 8)) c140), (135, vS g135 0 0), (132, vS g132 1 1), (147, .slice (if c93 = mx then some ⟨gA93, 0, none⟩ else (some ⟨gA93, 0, none⟩ : Option Addr).map (·.add (mx * 1))) (((R).length) - mx) (c93 - mx)), (146, vI mx), (139, .slice (if c93 = 8 then some ⟨gA93, 0, none⟩ else (some ⟨gA93, 0, none⟩ : Option Addr).map (·.add (8 * 1))) (mx - 8) (c93 - 8)), (138, vI mx), (131, vB (R.getD 7 0)), (130, vP gA93 7), (145, vI k7), (144, vS gA93 ((R).length) c93), (141, vB cv), (137, vI k7), (136, vS gA93 ((R).length) c93), (129, vS gA93 ((R).length) c93), (12, vS gA124 (0 + R.length) c124), (11, vB cv), (119, .bool true), (118, vI k9), (117, vI 6), (116, vS g116 6 6), (9, vI k7), (114, .bool true), (113, vI k7), (112, vI ((R).length : Nat)), (110, .bool false), (8, vS gA93 ((R).length) c93), (7, vP g7 0), (88, .bool true), (87, vI k5), (86, vI 3), (85, vS g85 3 3), (23, .bool false), (22, vI k), (21, vI 14), (20, vS g20 14 14), (1, vP g1 0), (0, .bool false)] ∧ Mem w wS [.row (.slice A140 (0 + (mx - 8)) c140) (0 + (mx - 8)) ([] ++ (((R.take mx).drop 8).map B8)) 5 1, .blk g132 #[vB (R.getD 7 0)] 5, .row (vS gA124 (0 + R.length) c124) (0 + R.length) ((R.set k7 cv).map B8) 5 1, .row (vS g116 6 6) 6 (six.map B8) 5 1, .row (vS gA93 ((R).length) c93) ((R).length) (R.map B8) 5 1, .row (vS g85 3 3) 3 ((blks g18).flatMap kcL) 28 5, .row (vS g18 2 2) 2 ([tickE, pickB].flatMap evL) 24 11] ∧ (0 + (mx - 8) ≤ c140)) ?_ fun M43_9 => ?_
    ·
     clear HF HM HS; rintro a wM ⟨g132, g135, A140, c140, HF, HM, hc140⟩
     have HS := HM.picks (fs' := [.row (vS gA124 (0 + R.length) c124) (0 + R.length) ((R.set k7 cv).map B8) 5 1, .row (vS g116 6 6) 6 (six.map B8) 5 1, .row (vS gA93 ((R).length) c93) ((R).length) (R.map B8) 5 1, .row (vS g85 3 3) 3 ((blks g18).flatMap kcL) 28 5, .row (vS g18 2 2) 2 ([tickE, pickB].flatMap evL) 24 11]) [2, 3, 4, 5, 6] (by decide) rfl
     refine qi [4, 13] (by kernel_rfl) rfl ?_
     refine all_cons ?_ ?_
     ·refine qj HF (i := 4) rfl rfl ?_
      refine Yl.wp (S := fun wS => Mem w wS _) (v := .string (bstr [(R.getD 7 0)])) (Yl.str rfl rfl (fun _ h => h.rdBlk (i := 1) (n := 1) (size := 1) rfl rfl)) HF HM rfl (by decide) fun a HF => ?_
      refine keepS HS (fun HS => ?_)
      refine ay HF HS 5 rfl rfl rfl (v := .string ((ByteArray.mk #[113, 116, 1]) ++ (bstr [(R.getD 7 0)]))) (Yl.qgd rfl rfl rfl (by rw [qbg]; simp [ByteArray.size])) fun a HF => ?_
      replace HF := HF.sp 134 (.string (bstr [113, 116, 1, R.getD 7 0])) rfl (by rw [show ByteArray.mk #[113, 116, 1] = bstr [113, 116, 1] from rfl, qco]; rfl)
      refine qi [13] (by kernel_rfl) rfl ?_
      refine all_cons ?_ all_nil
      refine qj HF (i := 13) rfl rfl ?_
      refine qp HF HM (vs := [(0, vB cv)]) (cs := #[vB cv]) rfl ei_u8 (by decide) rfl (by kernel_rfl) rfl (by decide) ?_
      clear HF HM; intro a w142 g142 HF HM
      refine keepS (HM.picks [3, 4, 5, 6, 7] (by decide) rfl) (fun HS => ?_)
      exact M43_3 _ _ ⟨g132, g135, A140, c140, g142, HF.sub (by kernel_rfl), HM.picks [0, 1, 2, 3, 4, 5, 6, 7] (by decide) rfl, hc140⟩
     refine all_cons ?_ all_nil
     refine qj HF (i := 13) rfl rfl ?_
     refine qp HF HM (vs := [(0, vB cv)]) (cs := #[vB cv]) rfl ei_u8 (by decide) rfl (by kernel_rfl) rfl (by decide) ?_
     clear HF HM; intro a w142 g142 HF HM
     refine keepS (HM.picks [3, 4, 5, 6, 7] (by decide) rfl) (fun HS => ?_)
     exact M43_8 _ _ ⟨g132, g135, A140, c140, g142, HF.sub (by kernel_rfl), HM.picks [0, 1, 2, 3, 4, 5, 6, 7] (by decide) rfl, hc140⟩
    refine qat (f := 7) (l := #[true, true, true, true, false, false, true, true, true, true, true, false, true, true, false, true, true, true, true, false, false, false]) (fun aS wS => ∃ (g132 : Nat) (g135 : Nat) (g142 : Nat), Fr aS 241 [] [(142, vS g142 1 1), (135, vS g135 0 0), (132, vS g132 1 1), (147, .slice (if c93 = mx then some ⟨gA93, 0, none⟩ else (some ⟨gA93, 0, none⟩ : Option Addr).map (·.add (mx * 1))) (((R).length) - mx) (c93 - mx)), (146, vI mx), (139, .slice (if c93 = 8 then some ⟨gA93, 0, none⟩ else (some ⟨gA93, 0, none⟩ : Option Addr).map (·.add (8 * 1))) (mx - 8) (c93 - 8)), (138, vI mx), (131, vB (R.getD 7 0)), (130, vP gA93 7), (145, vI k7), (144, vS gA93 ((R).length) c93), (141, vB cv), (137, vI k7), (136, vS gA93 ((R).length) c93), (129, vS gA93 ((R).length) c93), (12, vS gA124 (0 + R.length) c124), (11, vB cv), (119, .bool true), (118, vI k9), (117, vI 6), (116, vS g116 6 6), (9, vI k7), (114, .bool true), (113, vI k7), (112, vI ((R).length : Nat)), (110, .bool false), (8, vS gA93 ((R).length) c93), (7, vP g7 0), (88, .bool true), (87, vI k5), (86, vI 3), (85, vS g85 3 3), (23, .bool false), (22, vI k), (21, vI 14), (20, vS g20 14 14), (1, vP g1 0), (0, .bool false)] ∧ Mem w wS [.blk g142 #[vB cv] 5, .row (vS g135 0 0) 0 [] 5 1, .blk g132 #[vB (R.getD 7 0)] 5, .row (vS gA124 (0 + R.length) c124) (0 + R.length) ((R.set k7 cv).map B8) 5 1, .row (vS g116 6 6) 6 (six.map B8) 5 1, .row (vS gA93 ((R).length) c93) ((R).length) (R.map B8) 5 1, .row (vS g85 3 3) 3 ((blks g18).flatMap kcL) 28 5, .row (vS g18 2 2) 2 ([tickE, pickB].flatMap evL) 24 11]) ?_ fun M43_10 => ?_
    ·
     clear HF HM HS; rintro a wM ⟨g132, g135, g142, HF, HM⟩
     have HS := HM.picks (fs' := [.row (vS gA124 (0 + R.length) c124) (0 + R.length) ((R.set k7 cv).map B8) 5 1, .row (vS g116 6 6) 6 (six.map B8) 5 1, .row (vS gA93 ((R).length) c93) ((R).length) (R.map B8) 5 1, .row (vS g85 3 3) 3 ((blks g18).flatMap kcL) 28 5, .row (vS g18 2 2) 2 ([tickE, pickB].flatMap evL) 24 11]) [3, 4, 5, 6, 7] (by decide) rfl
     refine qi [4, 11] (by kernel_rfl) rfl ?_
     refine all_cons ?_ ?_
     ·refine qj HF (i := 4) rfl rfl ?_
      refine Yl.wp (S := fun wS => Mem w wS _) (v := .string (bstr [(R.getD 7 0)])) (Yl.str rfl rfl (fun _ h => h.rdBlk (i := 2) (n := 1) (size := 1) rfl rfl)) HF HM rfl (by decide) fun a HF => ?_
      refine keepS HS (fun HS => ?_)
      refine ay HF HS 5 rfl rfl rfl (v := .string ((ByteArray.mk #[113, 116, 1]) ++ (bstr [(R.getD 7 0)]))) (Yl.qgd rfl rfl rfl (by rw [qbg]; simp [ByteArray.size])) fun a HF => ?_
      replace HF := HF.sp 134 (.string (bstr [113, 116, 1, R.getD 7 0])) rfl (by rw [show ByteArray.mk #[113, 116, 1] = bstr [113, 116, 1] from rfl, qco]; rfl)
      refine qi [11] (by kernel_rfl) rfl ?_
      refine all_cons ?_ all_nil
      refine qj HF (i := 11) rfl rfl ?_
      refine qs HF HM (i := 1) rfl ei_u8 rfl rfl rfl (news := (((R.take mx).drop 8).map B8)) ((HM.rd (i := 5) rfl).qd4 (i := 8) (j := mx) (by omega) (by omega) (by omega)) (qaa _) (by omega) (by omega) rfl (by decide) ?_
      clear HF HM; intro a w140 A140 c140 HF HM hc140
      refine keepS (HM.picks [3, 4, 5, 6, 7] (by decide) rfl) (fun HS => ?_)
      exact M43_3 _ _ ⟨g132, g135, A140, c140, g142, HF.sub (by kernel_rfl), HM.picks [0, 1, 2, 3, 4, 5, 6, 7] (by decide) rfl, hc140⟩
     refine all_cons ?_ all_nil
     refine qj HF (i := 11) rfl rfl ?_
     refine qs HF HM (i := 1) rfl ei_u8 rfl rfl rfl (news := (((R.take mx).drop 8).map B8)) ((HM.rd (i := 5) rfl).qd4 (i := 8) (j := mx) (by omega) (by omega) (by omega)) (qaa _) (by omega) (by omega) rfl (by decide) ?_
     clear HF HM; intro a w140 A140 c140 HF HM hc140
     refine keepS (HM.picks [3, 4, 5, 6, 7] (by decide) rfl) (fun HS => ?_)
     exact M43_8 _ _ ⟨g132, g135, A140, c140, g142, HF.sub (by kernel_rfl), HM.picks [0, 1, 2, 3, 4, 5, 6, 7] (by decide) rfl, hc140⟩
    refine qat (f := 7) (l := #[true, true, true, false, false, false, true, true, true, true, true, true, true, true, false, true, true, true, true, false, false, false]) (fun aS wS => ∃ (g135 : Nat) (A140 : Option Addr) (c140 : Nat) (g142 : Nat), Fr aS 241 [] [(142, vS g142 1 1), (140, .slice A140 (0 + (mx - 8)) c140), (135, vS g135 0 0), (147, .slice (if c93 = mx then some ⟨gA93, 0, none⟩ else (some ⟨gA93, 0, none⟩ : Option Addr).map (·.add (mx * 1))) (((R).length) - mx) (c93 - mx)), (146, vI mx), (139, .slice (if c93 = 8 then some ⟨gA93, 0, none⟩ else (some ⟨gA93, 0, none⟩ : Option Addr).map (·.add (8 * 1))) (mx - 8) (c93 - 8)), (138, vI mx), (131, vB (R.getD 7 0)), (130, vP gA93 7), (145, vI k7), (144, vS gA93 ((R).length) c93), (141, vB cv), (137, vI k7), (136, vS gA93 ((R).length) c93), (129, vS gA93 ((R).length) c93), (12, vS gA124 (0 + R.length) c124), (11, vB cv), (119, .bool true), (118, vI k9), (117, vI 6), (116, vS g116 6 6), (9, vI k7), (114, .bool true), (113, vI k7), (112, vI ((R).length : Nat)), (110, .bool false), (8, vS gA93 ((R).length) c93), (7, vP g7 0), (88, .bool true), (87, vI k5), (86, vI 3), (85, vS g85 3 3), (23, .bool false), (22, vI k), (21, vI 14), (20, vS g20 14 14), (1, vP g1 0), (0, .bool false)] ∧ Mem w wS [.blk g142 #[vB cv] 5, .row (.slice A140 (0 + (mx - 8)) c140) (0 + (mx - 8)) ([] ++ (((R.take mx).drop 8).map B8)) 5 1, .row (vS gA124 (0 + R.length) c124) (0 + R.length) ((R.set k7 cv).map B8) 5 1, .row (vS g116 6 6) 6 (six.map B8) 5 1, .row (vS gA93 ((R).length) c93) ((R).length) (R.map B8) 5 1, .row (vS g85 3 3) 3 ((blks g18).flatMap kcL) 28 5, .row (vS g18 2 2) 2 ([tickE, pickB].flatMap evL) 24 11] ∧ (0 + (mx - 8) ≤ c140)) ?_ fun M43_11 => ?_
    ·
     clear HF HM HS; rintro a wM ⟨g135, A140, c140, g142, HF, HM, hc140⟩
     have HS := HM.picks (fs' := [.row (vS gA124 (0 + R.length) c124) (0 + R.length) ((R.set k7 cv).map B8) 5 1, .row (vS g116 6 6) 6 (six.map B8) 5 1, .row (vS gA93 ((R).length) c93) ((R).length) (R.map B8) 5 1, .row (vS g85 3 3) 3 ((blks g18).flatMap kcL) 28 5, .row (vS g18 2 2) 2 ([tickE, pickB].flatMap evL) 24 11]) [2, 3, 4, 5, 6] (by decide) rfl
     refine qi [3, 14] (by kernel_rfl) rfl ?_
     refine all_cons ?_ ?_
     ·refine qj HF (i := 3) rfl rfl ?_
      refine qp HF HM (vs := [(0, vB (R.getD 7 0))]) (cs := #[vB (R.getD 7 0)]) rfl ei_u8 (by decide) rfl (by kernel_rfl) rfl (by decide) ?_
      clear HF HM; intro a w132 g132 HF HM
      refine keepS (HM.picks [3, 4, 5, 6, 7] (by decide) rfl) (fun HS => ?_)
      exact M43_8 _ _ ⟨g132, g135, A140, c140, g142, HF.sub (by kernel_rfl), HM.picks [1, 2, 0, 3, 4, 5, 6, 7] (by decide) rfl, hc140⟩
     refine all_cons ?_ all_nil
     refine qj HF (i := 14) rfl rfl ?_
     refine qs HF HM (i := 1) rfl ei_u8 rfl rfl rfl (news := ([cv].map B8)) (HM.rdBlk (i := 0) (n := 1) (size := 1) rfl rfl) (qaa _) (by omega) (by omega) rfl (by decide) ?_
     clear HF HM; intro a w143 A143 c143 HF HM hc143
     refine keepS (HM.picks [2, 3, 4, 5, 6] (by decide) rfl) (fun HS => ?_)
     refine qi [3, 19] (by kernel_rfl) rfl ?_
     refine all_cons ?_ ?_
     ·refine qj HF (i := 3) rfl rfl ?_
      refine qp HF HM (vs := [(0, vB (R.getD 7 0))]) (cs := #[vB (R.getD 7 0)]) rfl ei_u8 (by decide) rfl (by kernel_rfl) rfl (by decide) ?_
      clear HF HM; intro a w132 g132 HF HM
      refine keepS (HM.picks [3, 4, 5, 6, 7] (by decide) rfl) (fun HS => ?_)
      exact M43_7 _ _ ⟨g132, g135, A140, c140, g142, A143, c143, HF.sub (by kernel_rfl), HM.picks [1, 2, 0, 3, 4, 5, 6, 7] (by decide) rfl, hc140, hc143⟩
     refine all_cons ?_ all_nil
     refine qj HF (i := 19) rfl rfl ?_
     refine qs HF HM (i := 1) rfl ei_u8 rfl rfl rfl (news := ((R.drop mx).map B8)) ((HM.rd (i := 4) rfl).qhh (k := mx) (by omega) (by omega)) (qaa _) (by omega) (by omega) rfl (by decide) ?_
     clear HF HM; intro a w148 A148 c148 HF HM hc148
     rw [show (([] ++ (((R.take mx).drop 8).map B8)) ++ ([cv].map B8)) ++ ((R.drop mx).map B8) = ((R.take mx).drop 8 ++ [cv] ++ R.drop mx).map B8 from by simp] at HM
     refine keepS (HM.picks [2, 3, 4, 5, 6] (by decide) rfl) (fun HS => ?_)
     refine qi [3] (by kernel_rfl) rfl ?_
     refine all_cons ?_ all_nil
     refine qj HF (i := 3) rfl rfl ?_
     refine qp HF HM (vs := [(0, vB (R.getD 7 0))]) (cs := #[vB (R.getD 7 0)]) rfl ei_u8 (by decide) rfl (by kernel_rfl) rfl (by decide) ?_
     clear HF HM; intro a w132 g132 HF HM
     refine keepS (HM.picks [3, 4, 5, 6, 7] (by decide) rfl) (fun HS => ?_)
     exact M43_4 _ _ ⟨g132, g135, A140, c140, g142, A143, c143, A148, c148, HF.sub (by kernel_rfl), HM.picks [1, 2, 0, 3, 4, 5, 6, 7] (by decide) rfl, hc140, hc143, hc148⟩
    refine qat (f := 8) (l := #[true, true, true, true, false, false, true, true, true, true, true, false, true, false, false, true, true, true, true, false, false, false]) (fun aS wS => ∃ (g132 : Nat) (g135 : Nat), Fr aS 241 [] [(135, vS g135 0 0), (132, vS g132 1 1), (147, .slice (if c93 = mx then some ⟨gA93, 0, none⟩ else (some ⟨gA93, 0, none⟩ : Option Addr).map (·.add (mx * 1))) (((R).length) - mx) (c93 - mx)), (146, vI mx), (139, .slice (if c93 = 8 then some ⟨gA93, 0, none⟩ else (some ⟨gA93, 0, none⟩ : Option Addr).map (·.add (8 * 1))) (mx - 8) (c93 - 8)), (138, vI mx), (131, vB (R.getD 7 0)), (130, vP gA93 7), (145, vI k7), (144, vS gA93 ((R).length) c93), (141, vB cv), (137, vI k7), (136, vS gA93 ((R).length) c93), (129, vS gA93 ((R).length) c93), (12, vS gA124 (0 + R.length) c124), (11, vB cv), (119, .bool true), (118, vI k9), (117, vI 6), (116, vS g116 6 6), (9, vI k7), (114, .bool true), (113, vI k7), (112, vI ((R).length : Nat)), (110, .bool false), (8, vS gA93 ((R).length) c93), (7, vP g7 0), (88, .bool true), (87, vI k5), (86, vI 3), (85, vS g85 3 3), (23, .bool false), (22, vI k), (21, vI 14), (20, vS g20 14 14), (1, vP g1 0), (0, .bool false)] ∧ Mem w wS [.row (vS g135 0 0) 0 [] 5 1, .blk g132 #[vB (R.getD 7 0)] 5, .row (vS gA124 (0 + R.length) c124) (0 + R.length) ((R.set k7 cv).map B8) 5 1, .row (vS g116 6 6) 6 (six.map B8) 5 1, .row (vS gA93 ((R).length) c93) ((R).length) (R.map B8) 5 1, .row (vS g85 3 3) 3 ((blks g18).flatMap kcL) 28 5, .row (vS g18 2 2) 2 ([tickE, pickB].flatMap evL) 24 11]) ?_ fun M43_12 => ?_
    ·
     clear HF HM HS; rintro a wM ⟨g132, g135, HF, HM⟩
     have HS := HM.picks (fs' := [.row (vS gA124 (0 + R.length) c124) (0 + R.length) ((R.set k7 cv).map B8) 5 1, .row (vS g116 6 6) 6 (six.map B8) 5 1, .row (vS gA93 ((R).length) c93) ((R).length) (R.map B8) 5 1, .row (vS g85 3 3) 3 ((blks g18).flatMap kcL) 28 5, .row (vS g18 2 2) 2 ([tickE, pickB].flatMap evL) 24 11]) [2, 3, 4, 5, 6] (by decide) rfl
     refine qi [4, 11, 13] (by kernel_rfl) rfl ?_
     refine all_cons ?_ ?_
     ·refine qj HF (i := 4) rfl rfl ?_
      refine Yl.wp (S := fun wS => Mem w wS _) (v := .string (bstr [(R.getD 7 0)])) (Yl.str rfl rfl (fun _ h => h.rdBlk (i := 1) (n := 1) (size := 1) rfl rfl)) HF HM rfl (by decide) fun a HF => ?_
      refine keepS HS (fun HS => ?_)
      refine ay HF HS 5 rfl rfl rfl (v := .string ((ByteArray.mk #[113, 116, 1]) ++ (bstr [(R.getD 7 0)]))) (Yl.qgd rfl rfl rfl (by rw [qbg]; simp [ByteArray.size])) fun a HF => ?_
      replace HF := HF.sp 134 (.string (bstr [113, 116, 1, R.getD 7 0])) rfl (by rw [show ByteArray.mk #[113, 116, 1] = bstr [113, 116, 1] from rfl, qco]; rfl)
      refine qi [11, 13] (by kernel_rfl) rfl ?_
      refine all_cons ?_ ?_
      ·refine qj HF (i := 11) rfl rfl ?_
       refine qs HF HM (i := 0) rfl ei_u8 rfl rfl rfl (news := (((R.take mx).drop 8).map B8)) ((HM.rd (i := 4) rfl).qd4 (i := 8) (j := mx) (by omega) (by omega) (by omega)) (qaa _) (by omega) (by omega) rfl (by decide) ?_
       clear HF HM; intro a w140 A140 c140 HF HM hc140
       refine keepS (HM.picks [2, 3, 4, 5, 6] (by decide) rfl) (fun HS => ?_)
       exact M43_5 _ _ ⟨g132, g135, A140, c140, HF.sub (by kernel_rfl), HM.picks [0, 1, 2, 3, 4, 5, 6] (by decide) rfl, hc140⟩
      refine all_cons ?_ all_nil
      refine qj HF (i := 13) rfl rfl ?_
      refine qp HF HM (vs := [(0, vB cv)]) (cs := #[vB cv]) rfl ei_u8 (by decide) rfl (by kernel_rfl) rfl (by decide) ?_
      clear HF HM; intro a w142 g142 HF HM
      refine keepS (HM.picks [3, 4, 5, 6, 7] (by decide) rfl) (fun HS => ?_)
      exact M43_6 _ _ ⟨g132, g135, g142, HF.sub (by kernel_rfl), HM.picks [0, 1, 2, 3, 4, 5, 6, 7] (by decide) rfl⟩
     refine all_cons ?_ ?_
     ·refine qj HF (i := 11) rfl rfl ?_
      refine qs HF HM (i := 0) rfl ei_u8 rfl rfl rfl (news := (((R.take mx).drop 8).map B8)) ((HM.rd (i := 4) rfl).qd4 (i := 8) (j := mx) (by omega) (by omega) (by omega)) (qaa _) (by omega) (by omega) rfl (by decide) ?_
      clear HF HM; intro a w140 A140 c140 HF HM hc140
      refine keepS (HM.picks [2, 3, 4, 5, 6] (by decide) rfl) (fun HS => ?_)
      exact M43_9 _ _ ⟨g132, g135, A140, c140, HF.sub (by kernel_rfl), HM.picks [0, 1, 2, 3, 4, 5, 6] (by decide) rfl, hc140⟩
     refine all_cons ?_ all_nil
     refine qj HF (i := 13) rfl rfl ?_
     refine qp HF HM (vs := [(0, vB cv)]) (cs := #[vB cv]) rfl ei_u8 (by decide) rfl (by kernel_rfl) rfl (by decide) ?_
     clear HF HM; intro a w142 g142 HF HM
     refine keepS (HM.picks [3, 4, 5, 6, 7] (by decide) rfl) (fun HS => ?_)
     exact M43_10 _ _ ⟨g132, g135, g142, HF.sub (by kernel_rfl), HM.picks [0, 1, 2, 3, 4, 5, 6, 7] (by decide) rfl⟩
    refine qat (f := 8) (l := #[true, true, true, true, false, false, false, true, true, true, true, false, true, true, false, true, true, true, true, false, false, false]) (fun aS wS => ∃ (g132 : Nat) (g142 : Nat), Fr aS 241 [] [(142, vS g142 1 1), (132, vS g132 1 1), (147, .slice (if c93 = mx then some ⟨gA93, 0, none⟩ else (some ⟨gA93, 0, none⟩ : Option Addr).map (·.add (mx * 1))) (((R).length) - mx) (c93 - mx)), (146, vI mx), (139, .slice (if c93 = 8 then some ⟨gA93, 0, none⟩ else (some ⟨gA93, 0, none⟩ : Option Addr).map (·.add (8 * 1))) (mx - 8) (c93 - 8)), (138, vI mx), (131, vB (R.getD 7 0)), (130, vP gA93 7), (145, vI k7), (144, vS gA93 ((R).length) c93), (141, vB cv), (137, vI k7), (136, vS gA93 ((R).length) c93), (129, vS gA93 ((R).length) c93), (12, vS gA124 (0 + R.length) c124), (11, vB cv), (119, .bool true), (118, vI k9), (117, vI 6), (116, vS g116 6 6), (9, vI k7), (114, .bool true), (113, vI k7), (112, vI ((R).length : Nat)), (110, .bool false), (8, vS gA93 ((R).length) c93), (7, vP g7 0), (88, .bool true), (87, vI k5), (86, vI 3), (85, vS g85 3 3), (23, .bool false), (22, vI k), (21, vI 14), (20, vS g20 14 14), (1, vP g1 0), (0, .bool false)] ∧ Mem w wS [.blk g142 #[vB cv] 5, .blk g132 #[vB (R.getD 7 0)] 5, .row (vS gA124 (0 + R.length) c124) (0 + R.length) ((R.set k7 cv).map B8) 5 1, .row (vS g116 6 6) 6 (six.map B8) 5 1, .row (vS gA93 ((R).length) c93) ((R).length) (R.map B8) 5 1, .row (vS g85 3 3) 3 ((blks g18).flatMap kcL) 28 5, .row (vS g18 2 2) 2 ([tickE, pickB].flatMap evL) 24 11]) ?_ fun M43_13 => ?_
    ·
     clear HF HM HS; rintro a wM ⟨g132, g142, HF, HM⟩
     have HS := HM.picks (fs' := [.row (vS gA124 (0 + R.length) c124) (0 + R.length) ((R.set k7 cv).map B8) 5 1, .row (vS g116 6 6) 6 (six.map B8) 5 1, .row (vS gA93 ((R).length) c93) ((R).length) (R.map B8) 5 1, .row (vS g85 3 3) 3 ((blks g18).flatMap kcL) 28 5, .row (vS g18 2 2) 2 ([tickE, pickB].flatMap evL) 24 11]) [2, 3, 4, 5, 6] (by decide) rfl
     refine qi [4, 6] (by kernel_rfl) rfl ?_
     refine all_cons ?_ ?_
     ·refine qj HF (i := 4) rfl rfl ?_
      refine Yl.wp (S := fun wS => Mem w wS _) (v := .string (bstr [(R.getD 7 0)])) (Yl.str rfl rfl (fun _ h => h.rdBlk (i := 1) (n := 1) (size := 1) rfl rfl)) HF HM rfl (by decide) fun a HF => ?_
      refine keepS HS (fun HS => ?_)
      refine ay HF HS 5 rfl rfl rfl (v := .string ((ByteArray.mk #[113, 116, 1]) ++ (bstr [(R.getD 7 0)]))) (Yl.qgd rfl rfl rfl (by rw [qbg]; simp [ByteArray.size])) fun a HF => ?_
      replace HF := HF.sp 134 (.string (bstr [113, 116, 1, R.getD 7 0])) rfl (by rw [show ByteArray.mk #[113, 116, 1] = bstr [113, 116, 1] from rfl, qco]; rfl)
      refine qi [6] (by kernel_rfl) rfl ?_
      refine all_cons ?_ all_nil
      refine qj HF (i := 6) rfl rfl ?_
      refine qb5 HF HM rfl ei_u8 rfl (by decide) ?_
      clear HF HM; intro a w135 g135 HF HM
      refine keepS (HM.picks [3, 4, 5, 6, 7] (by decide) rfl) (fun HS => ?_)
      exact M43_6 _ _ ⟨g132, g135, g142, HF.sub (by kernel_rfl), HM.picks [1, 0, 2, 3, 4, 5, 6, 7] (by decide) rfl⟩
     refine all_cons ?_ all_nil
     refine qj HF (i := 6) rfl rfl ?_
     refine qb5 HF HM rfl ei_u8 rfl (by decide) ?_
     clear HF HM; intro a w135 g135 HF HM
     refine keepS (HM.picks [3, 4, 5, 6, 7] (by decide) rfl) (fun HS => ?_)
     exact M43_10 _ _ ⟨g132, g135, g142, HF.sub (by kernel_rfl), HM.picks [1, 0, 2, 3, 4, 5, 6, 7] (by decide) rfl⟩
    refine qat (f := 8) (l := #[true, true, true, false, false, false, true, true, true, true, true, false, true, true, false, true, true, true, true, false, false, false]) (fun aS wS => ∃ (g135 : Nat) (g142 : Nat), Fr aS 241 [] [(142, vS g142 1 1), (135, vS g135 0 0), (147, .slice (if c93 = mx then some ⟨gA93, 0, none⟩ else (some ⟨gA93, 0, none⟩ : Option Addr).map (·.add (mx * 1))) (((R).length) - mx) (c93 - mx)), (146, vI mx), (139, .slice (if c93 = 8 then some ⟨gA93, 0, none⟩ else (some ⟨gA93, 0, none⟩ : Option Addr).map (·.add (8 * 1))) (mx - 8) (c93 - 8)), (138, vI mx), (131, vB (R.getD 7 0)), (130, vP gA93 7), (145, vI k7), (144, vS gA93 ((R).length) c93), (141, vB cv), (137, vI k7), (136, vS gA93 ((R).length) c93), (129, vS gA93 ((R).length) c93), (12, vS gA124 (0 + R.length) c124), (11, vB cv), (119, .bool true), (118, vI k9), (117, vI 6), (116, vS g116 6 6), (9, vI k7), (114, .bool true), (113, vI k7), (112, vI ((R).length : Nat)), (110, .bool false), (8, vS gA93 ((R).length) c93), (7, vP g7 0), (88, .bool true), (87, vI k5), (86, vI 3), (85, vS g85 3 3), (23, .bool false), (22, vI k), (21, vI 14), (20, vS g20 14 14), (1, vP g1 0), (0, .bool false)] ∧ Mem w wS [.blk g142 #[vB cv] 5, .row (vS g135 0 0) 0 [] 5 1, .row (vS gA124 (0 + R.length) c124) (0 + R.length) ((R.set k7 cv).map B8) 5 1, .row (vS g116 6 6) 6 (six.map B8) 5 1, .row (vS gA93 ((R).length) c93) ((R).length) (R.map B8) 5 1, .row (vS g85 3 3) 3 ((blks g18).flatMap kcL) 28 5, .row (vS g18 2 2) 2 ([tickE, pickB].flatMap evL) 24 11]) ?_ fun M43_14 => ?_
    ·
     clear HF HM HS; rintro a wM ⟨g135, g142, HF, HM⟩
     have HS := HM.picks (fs' := [.row (vS gA124 (0 + R.length) c124) (0 + R.length) ((R.set k7 cv).map B8) 5 1, .row (vS g116 6 6) 6 (six.map B8) 5 1, .row (vS gA93 ((R).length) c93) ((R).length) (R.map B8) 5 1, .row (vS g85 3 3) 3 ((blks g18).flatMap kcL) 28 5, .row (vS g18 2 2) 2 ([tickE, pickB].flatMap evL) 24 11]) [2, 3, 4, 5, 6] (by decide) rfl
     refine qi [3, 11] (by kernel_rfl) rfl ?_
     refine all_cons ?_ ?_
     ·refine qj HF (i := 3) rfl rfl ?_
      refine qp HF HM (vs := [(0, vB (R.getD 7 0))]) (cs := #[vB (R.getD 7 0)]) rfl ei_u8 (by decide) rfl (by kernel_rfl) rfl (by decide) ?_
      clear HF HM; intro a w132 g132 HF HM
      refine keepS (HM.picks [3, 4, 5, 6, 7] (by decide) rfl) (fun HS => ?_)
      exact M43_10 _ _ ⟨g132, g135, g142, HF.sub (by kernel_rfl), HM.picks [1, 2, 0, 3, 4, 5, 6, 7] (by decide) rfl⟩
     refine all_cons ?_ all_nil
     refine qj HF (i := 11) rfl rfl ?_
     refine qs HF HM (i := 1) rfl ei_u8 rfl rfl rfl (news := (((R.take mx).drop 8).map B8)) ((HM.rd (i := 4) rfl).qd4 (i := 8) (j := mx) (by omega) (by omega) (by omega)) (qaa _) (by omega) (by omega) rfl (by decide) ?_
     clear HF HM; intro a w140 A140 c140 HF HM hc140
     refine keepS (HM.picks [2, 3, 4, 5, 6] (by decide) rfl) (fun HS => ?_)
     exact M43_11 _ _ ⟨g135, A140, c140, g142, HF.sub (by kernel_rfl), HM.picks [0, 1, 2, 3, 4, 5, 6] (by decide) rfl, hc140⟩
    refine ap HF (fun _ => HS) [0, 7, 8, 12, 15, 16] #[true, false, false, false, false, false, false, true, true, false, false, false, true, false, false, true, true, false, false, false, false, false] [(145, vI k7), (144, vS gA93 ((R).length) c93), (141, vB cv), (137, vI k7), (136, vS gA93 ((R).length) c93), (129, vS gA93 ((R).length) c93)] fun a HF => ?_
    refine ay HF HS 1 rfl rfl rfl (v := vP gA93 7) (Yl.indexAddr (ad := ⟨gA93, 0, none⟩) (y := 7) (sz := 1) rfl rfl rfl (by omega) (by kernel_rfl)) fun a HF => ?_
    have hx839 := getD_lt hRl (k := 7) (by first | omega | (simp; omega))
    refine ay HF HS 2 rfl rfl rfl (v := vB (R.getD 7 0)) (Yl.qh rfl rfl (by kernel_rfl) (fun _ h => h.qa1 (i := 2) rfl (k := 7) (za (F := B8) (k := 7) (x := (R.getD 7 0)) ((getD_at 0 (k := 7) (by first | omega | (simp; omega))))))) fun a HF => ?_
    refine ay HF HS 9 rfl rfl rfl (v := vI (if (8 : Int) > (k7 : Int) then 8 else (k7 : Int))) (Yl.max rfl rfl rfl) fun a HF => ?_
    replace HF := HF.sp 138 (vI mx) rfl (by congr 1; subst hmx; rw [Nat.max_def]; split <;> split <;> omega)
    refine ay HF HS 10 rfl rfl rfl (v := .slice (if c93 = 8 then some ⟨gA93, 0, none⟩ else (some ⟨gA93, 0, none⟩ : Option Addr).map (·.add (8 * 1))) (mx - 8) (c93 - 8)) (Yl.qhi ei_u8 (i := 8) (j := mx) rfl rfl rfl rfl (by omega) (by omega)) fun a HF => ?_
    refine ay HF HS 17 rfl rfl rfl (v := vI (if (8 : Int) > (k7 : Int) then 8 else (k7 : Int))) (Yl.max rfl rfl rfl) fun a HF => ?_
    replace HF := HF.sp 146 (vI mx) rfl (by congr 1; subst hmx; rw [Nat.max_def]; split <;> split <;> omega)
    refine ay HF HS 18 rfl rfl rfl (v := .slice (if c93 = mx then some ⟨gA93, 0, none⟩ else (some ⟨gA93, 0, none⟩ : Option Addr).map (·.add (mx * 1))) (((R).length) - mx) (c93 - mx)) (Yl.sliceFrom ei_u8 (j := mx) rfl rfl rfl (by omega)) fun a HF => ?_
    refine qi [3, 6, 13] (by kernel_rfl) rfl ?_
    refine all_cons ?_ ?_
    ·refine qj HF (i := 3) rfl rfl ?_
     refine qp HF HM (vs := [(0, vB (R.getD 7 0))]) (cs := #[vB (R.getD 7 0)]) rfl ei_u8 (by decide) rfl (by kernel_rfl) rfl (by decide) ?_
     clear HF HM; intro a w132 g132 HF HM
     refine keepS (HM.picks [1, 2, 3, 4, 5] (by decide) rfl) (fun HS => ?_)
     refine qi [4, 6, 13] (by kernel_rfl) rfl ?_
     refine all_cons ?_ ?_
     ·refine qj HF (i := 4) rfl rfl ?_
      refine Yl.wp (S := fun wS => Mem w wS _) (v := .string (bstr [(R.getD 7 0)])) (Yl.str rfl rfl (fun _ h => h.rdBlk (i := 0) (n := 1) (size := 1) rfl rfl)) HF HM rfl (by decide) fun a HF => ?_
      refine keepS HS (fun HS => ?_)
      refine ay HF HS 5 rfl rfl rfl (v := .string ((ByteArray.mk #[113, 116, 1]) ++ (bstr [(R.getD 7 0)]))) (Yl.qgd rfl rfl rfl (by rw [qbg]; simp [ByteArray.size])) fun a HF => ?_
      replace HF := HF.sp 134 (.string (bstr [113, 116, 1, R.getD 7 0])) rfl (by rw [show ByteArray.mk #[113, 116, 1] = bstr [113, 116, 1] from rfl, qco]; rfl)
      refine qi [6, 13] (by kernel_rfl) rfl ?_
      refine all_cons ?_ ?_
      ·refine qj HF (i := 6) rfl rfl ?_
       refine qb5 HF HM rfl ei_u8 rfl (by decide) ?_
       clear HF HM; intro a w135 g135 HF HM
       refine keepS (HM.picks [2, 3, 4, 5, 6] (by decide) rfl) (fun HS => ?_)
       refine qi [11, 13] (by kernel_rfl) rfl ?_
       refine all_cons ?_ ?_
       ·refine qj HF (i := 11) rfl rfl ?_
        refine qs HF HM (i := 0) rfl ei_u8 rfl rfl rfl (news := (((R.take mx).drop 8).map B8)) ((HM.rd (i := 4) rfl).qd4 (i := 8) (j := mx) (by omega) (by omega) (by omega)) (qaa _) (by omega) (by omega) rfl (by decide) ?_
        clear HF HM; intro a w140 A140 c140 HF HM hc140
        refine keepS (HM.picks [2, 3, 4, 5, 6] (by decide) rfl) (fun HS => ?_)
        exact M43_5 _ _ ⟨g132, g135, A140, c140, HF.sub (by kernel_rfl), HM.picks [0, 1, 2, 3, 4, 5, 6] (by decide) rfl, hc140⟩
       refine all_cons ?_ all_nil
       refine qj HF (i := 13) rfl rfl ?_
       refine qp HF HM (vs := [(0, vB cv)]) (cs := #[vB cv]) rfl ei_u8 (by decide) rfl (by kernel_rfl) rfl (by decide) ?_
       clear HF HM; intro a w142 g142 HF HM
       refine keepS (HM.picks [3, 4, 5, 6, 7] (by decide) rfl) (fun HS => ?_)
       exact M43_6 _ _ ⟨g132, g135, g142, HF.sub (by kernel_rfl), HM.picks [0, 1, 2, 3, 4, 5, 6, 7] (by decide) rfl⟩
      refine all_cons ?_ all_nil
      refine qj HF (i := 13) rfl rfl ?_
      refine qp HF HM (vs := [(0, vB cv)]) (cs := #[vB cv]) rfl ei_u8 (by decide) rfl (by kernel_rfl) rfl (by decide) ?_
      clear HF HM; intro a w142 g142 HF HM
      refine keepS (HM.picks [2, 3, 4, 5, 6] (by decide) rfl) (fun HS => ?_)
      refine qi [6] (by kernel_rfl) rfl ?_
      refine all_cons ?_ all_nil
      refine qj HF (i := 6) rfl rfl ?_
      refine qb5 HF HM rfl ei_u8 rfl (by decide) ?_
      clear HF HM; intro a w135 g135 HF HM
      refine keepS (HM.picks [3, 4, 5, 6, 7] (by decide) rfl) (fun HS => ?_)
      exact M43_6 _ _ ⟨g132, g135, g142, HF.sub (by kernel_rfl), HM.picks [1, 0, 2, 3, 4, 5, 6, 7] (by decide) rfl⟩
     refine all_cons ?_ ?_
     ·refine qj HF (i := 6) rfl rfl ?_
      refine qb5 HF HM rfl ei_u8 rfl (by decide) ?_
      clear HF HM; intro a w135 g135 HF HM
      refine keepS (HM.picks [2, 3, 4, 5, 6] (by decide) rfl) (fun HS => ?_)
      exact M43_12 _ _ ⟨g132, g135, HF.sub (by kernel_rfl), HM.picks [0, 1, 2, 3, 4, 5, 6] (by decide) rfl⟩
     refine all_cons ?_ all_nil
     refine qj HF (i := 13) rfl rfl ?_
     refine qp HF HM (vs := [(0, vB cv)]) (cs := #[vB cv]) rfl ei_u8 (by decide) rfl (by kernel_rfl) rfl (by decide) ?_
     clear HF HM; intro a w142 g142 HF HM
     refine keepS (HM.picks [2, 3, 4, 5, 6] (by decide) rfl) (fun HS => ?_)
     exact M43_13 _ _ ⟨g132, g142, HF.sub (by kernel_rfl), HM.picks [0, 1, 2, 3, 4, 5, 6] (by decide) rfl⟩
    refine all_cons ?_ ?_
    ·refine qj HF (i := 6) rfl rfl ?_
     refine qb5 HF HM rfl ei_u8 rfl (by decide) ?_
     clear HF HM; intro a w135 g135 HF HM
     refine keepS (HM.picks [1, 2, 3, 4, 5] (by decide) rfl) (fun HS => ?_)
     refine qi [3, 11, 13] (by kernel_rfl) rfl ?_
     refine all_cons ?_ ?_
     ·refine qj HF (i := 3) rfl rfl ?_
      refine qp HF HM (vs := [(0, vB (R.getD 7 0))]) (cs := #[vB (R.getD 7 0)]) rfl ei_u8 (by decide) rfl (by kernel_rfl) rfl (by decide) ?_
      clear HF HM; intro a w132 g132 HF HM
      refine keepS (HM.picks [2, 3, 4, 5, 6] (by decide) rfl) (fun HS => ?_)
      exact M43_12 _ _ ⟨g132, g135, HF.sub (by kernel_rfl), HM.picks [1, 0, 2, 3, 4, 5, 6] (by decide) rfl⟩
     refine all_cons ?_ ?_
     ·refine qj HF (i := 11) rfl rfl ?_
      refine qs HF HM (i := 0) rfl ei_u8 rfl rfl rfl (news := (((R.take mx).drop 8).map B8)) ((HM.rd (i := 3) rfl).qd4 (i := 8) (j := mx) (by omega) (by omega) (by omega)) (qaa _) (by omega) (by omega) rfl (by decide) ?_
      clear HF HM; intro a w140 A140 c140 HF HM hc140
      refine keepS (HM.picks [1, 2, 3, 4, 5] (by decide) rfl) (fun HS => ?_)
      refine qi [3, 13] (by kernel_rfl) rfl ?_
      refine all_cons ?_ ?_
      ·refine qj HF (i := 3) rfl rfl ?_
       refine qp HF HM (vs := [(0, vB (R.getD 7 0))]) (cs := #[vB (R.getD 7 0)]) rfl ei_u8 (by decide) rfl (by kernel_rfl) rfl (by decide) ?_
       clear HF HM; intro a w132 g132 HF HM
       refine keepS (HM.picks [2, 3, 4, 5, 6] (by decide) rfl) (fun HS => ?_)
       exact M43_9 _ _ ⟨g132, g135, A140, c140, HF.sub (by kernel_rfl), HM.picks [1, 0, 2, 3, 4, 5, 6] (by decide) rfl, hc140⟩
      refine all_cons ?_ all_nil
      refine qj HF (i := 13) rfl rfl ?_
      refine qp HF HM (vs := [(0, vB cv)]) (cs := #[vB cv]) rfl ei_u8 (by decide) rfl (by kernel_rfl) rfl (by decide) ?_
      clear HF HM; intro a w142 g142 HF HM
      refine keepS (HM.picks [2, 3, 4, 5, 6] (by decide) rfl) (fun HS => ?_)
      exact M43_11 _ _ ⟨g135, A140, c140, g142, HF.sub (by kernel_rfl), HM.picks [0, 1, 2, 3, 4, 5, 6] (by decide) rfl, hc140⟩
     refine all_cons ?_ all_nil
     refine qj HF (i := 13) rfl rfl ?_
     refine qp HF HM (vs := [(0, vB cv)]) (cs := #[vB cv]) rfl ei_u8 (by decide) rfl (by kernel_rfl) rfl (by decide) ?_
     clear HF HM; intro a w142 g142 HF HM
     refine keepS (HM.picks [2, 3, 4, 5, 6] (by decide) rfl) (fun HS => ?_)
     exact M43_14 _ _ ⟨g135, g142, HF.sub (by kernel_rfl), HM.picks [0, 1, 2, 3, 4, 5, 6] (by decide) rfl⟩
    refine all_cons ?_ all_nil
    refine qj HF (i := 13) rfl rfl ?_
    refine qp HF HM (vs := [(0, vB cv)]) (cs := #[vB cv]) rfl ei_u8 (by decide) rfl (by kernel_rfl) rfl (by decide) ?_
    clear HF HM; intro a w142 g142 HF HM
    refine keepS (HM.picks [1, 2, 3, 4, 5] (by decide) rfl) (fun HS => ?_)
    refine qi [3, 6] (by kernel_rfl) rfl ?_
    refine all_cons ?_ ?_
    ·refine qj HF (i := 3) rfl rfl ?_
     refine qp HF HM (vs := [(0, vB (R.getD 7 0))]) (cs := #[vB (R.getD 7 0)]) rfl ei_u8 (by decide) rfl (by kernel_rfl) rfl (by decide) ?_
     clear HF HM; intro a w132 g132 HF HM
     refine keepS (HM.picks [2, 3, 4, 5, 6] (by decide) rfl) (fun HS => ?_)
     exact M43_13 _ _ ⟨g132, g142, HF.sub (by kernel_rfl), HM.picks [1, 0, 2, 3, 4, 5, 6] (by decide) rfl⟩
    refine all_cons ?_ all_nil
    refine qj HF (i := 6) rfl rfl ?_
    refine qb5 HF HM rfl ei_u8 rfl (by decide) ?_
    clear HF HM; intro a w135 g135 HF HM
    refine keepS (HM.picks [2, 3, 4, 5, 6] (by decide) rfl) (fun HS => ?_)
    exact M43_14 _ _ ⟨g135, g142, HF.sub (by kernel_rfl), HM.picks [1, 0, 2, 3, 4, 5, 6] (by decide) rfl⟩
   have hd119 := of_decide_eq_false hb119
   refine qe HF rfl (wp_exit (qa ?_))
   refine fp HF 1 0 [(174, vI (IntKind.i64.wrap ((k7 : Int) + 1)))] fun a HF => ?_
   replace HF := HF.sp 174 (vI (k7 + 1 : Nat)) rfl (qk (by omega) (by omega))
   refine fp HF 1 1 [(113, vI (k7 + 1 : Nat))] fun a HF => ?_
   refine qb rfl ?_
   exact ⟨_, (by omega), k7 + 1, by omega, rfl, HF.sub (by kernel_rfl), HM.picks [1, 2, 3] (by decide) rfl⟩
  have hd114 := of_decide_eq_false hb114
  refine qe HF rfl (wp_exit (wp_seq ?_))
  refine zw HM [.row (vS gA93 ((R).length) c93) ((R).length) (R.map B8) 5 1, .row (vS g85 3 3) 3 ((blks g18).flatMap kcL) 28 5, .row (vS g18 2 2) 2 ([tickE, pickB].flatMap evL) 24 11] [0, 1, 2] [] fun HM HS => ?_
  refine ap HF (fun _ => HS) [0, 6, 7] #[true, false, false, false, false, false, true, true, false, false, false, false, false, false] [(182, vS gA93 ((R).length) c93), (181, vS gA93 ((R).length) c93), (175, vS gA93 ((R).length) c93)] fun a HF => ?_
  refine ay HF HS 1 rfl rfl rfl (v := vP gA93 7) (Yl.indexAddr (ad := ⟨gA93, 0, none⟩) (y := 7) (sz := 1) rfl rfl rfl (by omega) (by kernel_rfl)) fun a HF => ?_
  have hx973 := getD_lt hRl (k := 7) (by first | omega | (simp; omega))
  refine ay HF HS 2 rfl rfl rfl (v := vB (R.getD 7 0)) (Yl.qh rfl rfl (by kernel_rfl) (fun _ h => h.qa1 (i := 0) rfl (k := 7) (za (F := B8) (k := 7) (x := (R.getD 7 0)) ((getD_at 0 (k := 7) (by first | omega | (simp; omega))))))) fun a HF => ?_
  refine ay HF HS 8 rfl rfl rfl (Yl.len rfl rfl (by kernel_rfl)) fun a HF => ?_
  refine qo HF (fun _ => HS) (i := 9) rfl rfl (d := 184) rfl (by decide) (by kernel_rfl) (fun _ _ _ h => h) (v := vI (IntKind.i64.wrap ((((R).length : Nat) : Int) - 1))) (fun _ => Yl.pure (by kernel_rfl)) fun a HF => ?_
  replace HF := HF.sp 184 (vI ((R).length - 1 : Nat)) rfl (qk (by omega) (by omega))
  refine ay HF HS 10 rfl rfl rfl (v := .slice (if c93 = 8 then some ⟨gA93, 0, none⟩ else (some ⟨gA93, 0, none⟩ : Option Addr).map (·.add (8 * 1))) ((R.length - 1) - 8) (c93 - 8)) (Yl.qhi ei_u8 (i := 8) (j := (R.length - 1)) rfl rfl rfl rfl (by omega) (by omega)) fun a HF => ?_
  refine qi [3] (by kernel_rfl) rfl ?_
  refine all_cons ?_ all_nil
  refine qj HF (i := 3) rfl rfl ?_
  refine qp HF HM (vs := [(0, vB (R.getD 7 0))]) (cs := #[vB (R.getD 7 0)]) rfl ei_u8 (by decide) rfl (by kernel_rfl) rfl (by decide) ?_
  clear HF HM; intro a w178 g178 HF HM
  refine keepS (HM.picks [1, 2, 3] (by decide) rfl) (fun HS => ?_)
  refine qi [4] (by kernel_rfl) rfl ?_
  refine all_cons ?_ all_nil
  refine qj HF (i := 4) rfl rfl ?_
  refine Yl.wp (S := fun wS => Mem w wS _) (v := .string (bstr [(R.getD 7 0)])) (Yl.str rfl rfl (fun _ h => h.rdBlk (i := 0) (n := 1) (size := 1) rfl rfl)) HF HM rfl (by decide) fun a HF => ?_
  refine keepS HS (fun HS => ?_)
  refine ay HF HS 5 rfl rfl rfl (v := .string ((ByteArray.mk #[113, 116, 1]) ++ (bstr [(R.getD 7 0)]))) (Yl.qgd rfl rfl rfl (by rw [qbg]; simp [ByteArray.size])) fun a HF => ?_
  replace HF := HF.sp 180 (.string (bstr [113, 116, 1, R.getD 7 0])) rfl (by rw [show ByteArray.mk #[113, 116, 1] = bstr [113, 116, 1] from rfl, qco]; rfl)
  refine qi [11] (by kernel_rfl) rfl ?_
  refine all_cons ?_ all_nil
  refine qj HF (i := 11) rfl rfl ?_
  refine e_cl HF [.string (bstr [113, 116, 1, R.getD 7 0]), .slice (if c93 = 8 then some ⟨gA93, 0, none⟩ else (some ⟨gA93, 0, none⟩ : Option Addr).map (·.add (8 * 1))) ((R.length - 1) - 8) (c93 - 8)] rfl rfl (qcp [113, 116, 1, R.getD 7 0] (by intro x hx; simp only [List.mem_cons, List.not_mem_nil, or_false] at hx; omega) (((R.take (R.length - 1)).drop 8)) _ ((HM.rd (i := 1) rfl).qd4 (i := 8) (j := R.length - 1) (by omega) (by omega) (by omega)) (qak (zu hRl _) _)) ?_
  rintro _ w186 ⟨⟨A186, c186, rfl, ho, hc186⟩, hbw⟩
  refine ⟨_, rfl, ?_⟩
  replace HM := HM.callRow hbw ho
  clear HF; intro a HF
  have hsl186 := qab ([(12 + ((R.length - 1) - 8)) % 256, 0, 0, 0] ++ [113, 116, 1, R.getD 7 0] ++ ((R.take (R.length - 1)).drop 8))
  refine keepS (HM.picks [2, 3, 4] (by decide) rfl) (fun HS => ?_)
  refine qi [12] (by kernel_rfl) rfl ?_
  refine all_cons ?_ all_nil
  refine qj HF (i := 12) rfl rfl ?_
  refine e_is HF HM [.slice A186 (((sealL ([(12 + ((R.length - 1) - 8)) % 256, 0, 0, 0] ++ [113, 116, 1, R.getD 7 0] ++ ((R.take (R.length - 1)).drop 8)))).length) c186] (.bool true) rfl rfl (qbs (sealL ([(12 + ((R.length - 1) - 8)) % 256, 0, 0, 0] ++ [113, 116, 1, R.getD 7 0] ++ ((R.take (R.length - 1)).drop 8))) B _ (hL.mem HM hB) (HM.le hB) (HM.rd (i := 0) rfl) (qbx (qaj (qaj (by intro x hx; simp only [List.mem_cons, List.not_mem_nil, or_false] at hx; omega) (by intro x hx; simp only [List.mem_cons, List.not_mem_nil, or_false] at hx; omega)) (qak (zu hRl _) _)))) fun w187 hbw HM a HF => ?_
  refine keepS (HM.picks [2, 3, 4] (by decide) rfl) (fun HS => ?_)
  refine ap HF (fun _ => HS) [13] #[true, true, true, true, true, true, true, true, true, true, true, true, true, true] [(188, .bool false)] fun a HF => ?_
  refine qm (by kernel_rfl) ?_
  refine qe HF rfl (wp_skip (qa ?_))
  refine fp HF 1 0 [(189, vI (IntKind.i64.wrap ((k5 : Int) + 1)))] fun a HF => ?_
  replace HF := HF.sp 189 (vI (k5 + 1 : Nat)) rfl (qk (by omega) (by omega))
  refine fp HF 1 1 [(87, vI (k5 + 1 : Nat))] fun a HF => ?_
  refine qb rfl ?_
  exact ⟨_, (by omega), k5 + 1, by omega, rfl, HF.sub (by kernel_rfl), HM.picks [3, 4] (by decide) rfl⟩
 have hd88 := of_decide_eq_false hb88
 refine qe HF rfl (wp_exit (wp_seq (wp_seq (qa ?_))))
 refine fo HF 0 rfl rfl ?_
 refine qp HF HM (vs := [(0, .string (ByteArray.mk #[113, 116, 1, 1])), (1, .string (ByteArray.mk #[113, 116, 1, 2])), (2, .string (ByteArray.mk #[113, 116, 1, 3])), (3, .string (ByteArray.mk #[113, 116, 2, 1])), (4, .string (ByteArray.mk #[81, 116, 1, 1])), (5, .string (ByteArray.mk #[113, 84, 2, 3])), (6, .string (ByteArray.mk #[113, 116, 0, 0])), (7, .string (ByteArray.mk #[116, 113, 1, 2]))]) (cs := #[.string (ByteArray.mk #[113, 116, 1, 1]), .string (ByteArray.mk #[113, 116, 1, 2]), .string (ByteArray.mk #[113, 116, 1, 3]), .string (ByteArray.mk #[113, 116, 2, 1]), .string (ByteArray.mk #[81, 116, 1, 1]), .string (ByteArray.mk #[113, 84, 2, 3]), .string (ByteArray.mk #[113, 116, 0, 0]), .string (ByteArray.mk #[116, 113, 1, 2])]) rfl qxq (by decide) rfl (by kernel_rfl) rfl (by decide) ?_
 clear HF HM; intro a w190 g190 HF HM
 refine fy HF HM 1 rfl rfl rfl (Yl.len rfl rfl (by kernel_rfl)) fun a HF => ?_
 refine fp HF 1 2 [(192, vI 0)] fun a HF => ?_
 refine qb rfl ?_
 replace HM := (HM.blkRow (i := 0) (n := 8) (size := 1) rfl rfl (by decide)).asRow (i := 0) (ys := qek.map StrB) rfl (by kernel_rfl)
 replace HF := HF.to [(192, vI 0), (191, vI 8), (190, vS g190 8 8), (88, .bool false), (87, vI k5), (86, vI 3), (85, vS g85 3 3), (23, .bool false), (22, vI k), (21, vI 14), (20, vS g20 14 14), (1, vP g1 0), (0, .bool false)]
 replace HM := HM.picks (fs' := [.row (vS g190 8 8) 8 (qek.map StrB) 9 1]) [0] (by decide) rfl
 refine wp_block ?_
 refine qv (fun mS aS wS => ∃ (k11 : Nat), (k11 ≤ 8) ∧ mS = 8 - k11 ∧ Fr aS 241 [] [(192, vI k11), (191, vI 8), (190, vS g190 8 8), (88, .bool false), (87, vI k5), (86, vI 3), (85, vS g85 3 3), (23, .bool false), (22, vI k), (21, vI 14), (20, vS g20 14 14), (1, vP g1 0), (0, .bool false)] ∧ Mem w wS [.row (vS g190 8 8) 8 (qek.map StrB) 9 1]) (m := 8 - 0) ⟨0, Nat.zero_le _, rfl, HF.sub (by kernel_rfl), HM.picks [0] (by decide) rfl⟩ ?_
 clear HF HM; rintro mS a w_ ⟨k11, hk11, rfl, HF, HM⟩
 refine wp_seq (qa ?_)
 refine fp HF 1 0 [(193, .bool (decide ((k11 : Int) < (8 : Int))))] fun a HF => ?_
 refine qb rfl (wp_seq ?_)
 rcases HF.tf 193 rfl with ⟨hb193, HF⟩ | ⟨hb193, HF⟩
 ·
  have hd193 := of_decide_eq_true hb193
  have hk193 : k11 < 8 := by omega
  have h8 : qek.length = 8 := rfl
  obtain ⟨hh, hhd⟩ : ∃ hh, hh = qek.getD k11 [] := ⟨_, rfl⟩
  obtain ⟨hh4, hhl⟩ : hh.length = 4 ∧ ∀ b ∈ hh, b < 256 := by rw [hhd]; exact qt0 hk193
  refine qf HF rfl (wp_skip (wp_seq (wp_block (wp_seq (qa ?_)))))
  refine fy HF HM 0 rfl rfl rfl (v := vP g190 (k11 * 1)) (Yl.ix0 g190 k11 1 rfl rfl rfl) fun a HF => ?_
  refine fy HF HM 1 rfl rfl rfl (v := .string (bstr (qek.getD k11 []))) (Yl.qh rfl rfl (by kernel_rfl) (fun _ h => h.qa1 (i := 0) rfl (k := k11) (za (F := StrB) (k := k11) (x := (qek.getD k11 [])) ((getD_at [] (k := k11) (by first | omega | (simp; omega))))))) fun a HF => ?_
  replace HF := HF.sp 195 (.string (bstr hh)) rfl (by rw [hhd])
  refine fp HF 1 2 [(15, .string (bstr hh))] fun a HF => ?_
  refine qb rfl (wp_seq (qa ?_))
  refine fp HF 1 0 [(196, .string (bstr hh))] fun a HF => ?_
  refine fo HF 1 rfl rfl ?_
  refine qp HF HM (vs := [(0, vB 0)]) (cs := #[vB 0]) rfl ei_u8 (by decide) rfl (by kernel_rfl) rfl (by decide) ?_
  clear HF HM; intro a w197 g197 HF HM
  refine fo HF 2 rfl rfl ?_
  refine e_cl HF [.string (bstr hh), vS g197 1 1] rfl rfl (qcp hh hhl ([0]) _ (HM.rdBlk (i := 0) (n := 1) (size := 1) rfl rfl) (by decide)) ?_
  rintro _ w198 ⟨⟨A198, c198, rfl, ho, hc198⟩, hbw⟩
  refine ⟨_, rfl, ?_⟩
  replace HM := HM.callRow hbw ho
  clear HF; intro a HF
  have hsl198 := qab ([(12 + 1) % 256, 0, 0, 0] ++ hh ++ [0])
  refine fo HF 3 rfl rfl ?_
  refine e_is HF HM [.slice A198 (((sealL ([(12 + 1) % 256, 0, 0, 0] ++ hh ++ [0]))).length) c198] (.bool true) rfl rfl (qbs (sealL ([(12 + 1) % 256, 0, 0, 0] ++ hh ++ [0])) B _ (hL.mem HM hB) (HM.le hB) (HM.rd (i := 0) rfl) (qbx (qaj (qaj (by intro x hx; simp only [List.mem_cons, List.not_mem_nil, or_false] at hx; omega) hhl) (by decide)))) fun w199 hbw HM a HF => ?_
  refine fp HF 3 4 [(202, .string (bstr hh)), (201, .bool false)] fun a HF => ?_
  refine fo HF 7 rfl rfl ?_
  refine qp HF HM (vs := [(0, vB 1)]) (cs := #[vB 1]) rfl ei_u8 (by decide) rfl (by kernel_rfl) rfl (by decide) ?_
  clear HF HM; intro a w203 g203 HF HM
  refine fo HF 8 rfl rfl ?_
  refine e_cl HF [.string (bstr hh), vS g203 1 1] rfl rfl (qcp hh hhl ([1]) _ (HM.rdBlk (i := 0) (n := 1) (size := 1) rfl rfl) (by decide)) ?_
  rintro _ w204 ⟨⟨A204, c204, rfl, ho, hc204⟩, hbw⟩
  refine ⟨_, rfl, ?_⟩
  replace HM := HM.callRow hbw ho
  clear HF; intro a HF
  have hsl204 := qab ([(12 + 1) % 256, 0, 0, 0] ++ hh ++ [1])
  refine fo HF 9 rfl rfl ?_
  refine e_is HF HM [.slice A204 (((sealL ([(12 + 1) % 256, 0, 0, 0] ++ hh ++ [1]))).length) c204] (.bool true) rfl rfl (qbs (sealL ([(12 + 1) % 256, 0, 0, 0] ++ hh ++ [1])) B _ (hL.mem HM hB) (HM.le hB) (HM.rd (i := 0) rfl) (qbx (qaj (qaj (by intro x hx; simp only [List.mem_cons, List.not_mem_nil, or_false] at hx; omega) hhl) (by decide)))) fun w205 hbw HM a HF => ?_
  refine fp HF 4 10 [(209, .string (bstr hh)), (208, .bool false)] fun a HF => ?_
  refine fo HF 14 rfl rfl ?_
  refine qp HF HM (vs := [(0, vB 0), (1, vB 1), (2, vB 0)]) (cs := #[vB 0, vB 1, vB 0]) rfl ei_u8 (by decide) rfl (by kernel_rfl) rfl (by decide) ?_
  clear HF HM; intro a w210 g210 HF HM
  refine fo HF 15 rfl rfl ?_
  refine e_cl HF [.string (bstr hh), vS g210 3 3] rfl rfl (qcp hh hhl ([0, 1, 0]) _ (HM.rdBlk (i := 0) (n := 3) (size := 1) rfl rfl) (by decide)) ?_
  rintro _ w211 ⟨⟨A211, c211, rfl, ho, hc211⟩, hbw⟩
  refine ⟨_, rfl, ?_⟩
  replace HM := HM.callRow hbw ho
  clear HF; intro a HF
  have hsl211 := qab ([(12 + 3) % 256, 0, 0, 0] ++ hh ++ [0, 1, 0])
  refine fo HF 16 rfl rfl ?_
  refine e_is HF HM [.slice A211 (((sealL ([(12 + 3) % 256, 0, 0, 0] ++ hh ++ [0, 1, 0]))).length) c211] (.bool true) rfl rfl (qbs (sealL ([(12 + 3) % 256, 0, 0, 0] ++ hh ++ [0, 1, 0])) B _ (hL.mem HM hB) (HM.le hB) (HM.rd (i := 0) rfl) (qbx (qaj (qaj (by intro x hx; simp only [List.mem_cons, List.not_mem_nil, or_false] at hx; omega) hhl) (by decide)))) fun w212 hbw HM a HF => ?_
  refine fp HF 4 17 [(216, .string (bstr hh)), (215, .bool false)] fun a HF => ?_
  refine fo HF 21 rfl rfl ?_
  refine qp HF HM (vs := [(0, vB 0), (1, vB 0), (2, vB 1), (3, vB 1), (4, vB 0), (5, vB 6), (6, vB 0), (7, vB 0), (8, vB 0)]) (cs := #[vB 0, vB 0, vB 1, vB 1, vB 0, vB 6, vB 0, vB 0, vB 0]) rfl ei_u8 (by decide) rfl (by kernel_rfl) rfl (by decide) ?_
  clear HF HM; intro a w217 g217 HF HM
  refine fo HF 22 rfl rfl ?_
  refine e_cl HF [.string (bstr hh), vS g217 9 9] rfl rfl (qcp hh hhl ([0, 0, 1, 1, 0, 6, 0, 0, 0]) _ (HM.rdBlk (i := 0) (n := 9) (size := 1) rfl rfl) (by decide)) ?_
  rintro _ w218 ⟨⟨A218, c218, rfl, ho, hc218⟩, hbw⟩
  refine ⟨_, rfl, ?_⟩
  replace HM := HM.callRow hbw ho
  clear HF; intro a HF
  have hsl218 := qab ([(12 + 9) % 256, 0, 0, 0] ++ hh ++ [0, 0, 1, 1, 0, 6, 0, 0, 0])
  refine fo HF 23 rfl rfl ?_
  refine e_is HF HM [.slice A218 (((sealL ([(12 + 9) % 256, 0, 0, 0] ++ hh ++ [0, 0, 1, 1, 0, 6, 0, 0, 0]))).length) c218] (.bool true) rfl rfl (qbs (sealL ([(12 + 9) % 256, 0, 0, 0] ++ hh ++ [0, 0, 1, 1, 0, 6, 0, 0, 0])) B _ (hL.mem HM hB) (HM.le hB) (HM.rd (i := 0) rfl) (qbx (qaj (qaj (by intro x hx; simp only [List.mem_cons, List.not_mem_nil, or_false] at hx; omega) hhl) (by decide)))) fun w219 hbw HM a HF => ?_
  refine fp HF 4 24 [(223, .string (bstr hh)), (222, .bool false)] fun a HF => ?_
  refine fo HF 28 rfl rfl ?_
  refine qp HF HM (vs := [(0, vB 0), (1, vB 0), (2, vB 1), (3, vB 1), (4, vB 0), (5, vB 6), (6, vB 1), (7, vB 0), (8, vB 0)]) (cs := #[vB 0, vB 0, vB 1, vB 1, vB 0, vB 6, vB 1, vB 0, vB 0]) rfl ei_u8 (by decide) rfl (by kernel_rfl) rfl (by decide) ?_
  clear HF HM; intro a w224 g224 HF HM
  refine fo HF 29 rfl rfl ?_
  refine e_cl HF [.string (bstr hh), vS g224 9 9] rfl rfl (qcp hh hhl ([0, 0, 1, 1, 0, 6, 1, 0, 0]) _ (HM.rdBlk (i := 0) (n := 9) (size := 1) rfl rfl) (by decide)) ?_
  rintro _ w225 ⟨⟨A225, c225, rfl, ho, hc225⟩, hbw⟩
  refine ⟨_, rfl, ?_⟩
  replace HM := HM.callRow hbw ho
  clear HF; intro a HF
  have hsl225 := qab ([(12 + 9) % 256, 0, 0, 0] ++ hh ++ [0, 0, 1, 1, 0, 6, 1, 0, 0])
  refine fo HF 30 rfl rfl ?_
  refine e_is HF HM [.slice A225 (((sealL ([(12 + 9) % 256, 0, 0, 0] ++ hh ++ [0, 0, 1, 1, 0, 6, 1, 0, 0]))).length) c225] (.bool true) rfl rfl (qbs (sealL ([(12 + 9) % 256, 0, 0, 0] ++ hh ++ [0, 0, 1, 1, 0, 6, 1, 0, 0])) B _ (hL.mem HM hB) (HM.le hB) (HM.rd (i := 0) rfl) (qbx (qaj (qaj (by intro x hx; simp only [List.mem_cons, List.not_mem_nil, or_false] at hx; omega) hhl) (by decide)))) fun w226 hbw HM a HF => ?_
  refine fp HF 4 31 [(230, .string (bstr hh)), (229, .bool false)] fun a HF => ?_
  refine fo HF 35 rfl rfl ?_
  refine qp HF HM (vs := [(0, vB 0), (1, vB 0), (2, vB 2), (3, vB 1), (4, vB 0), (5, vB 6), (6, vB 0), (7, vB 0), (8, vB 0), (9, vB 6), (10, vB 0), (11, vB 0), (12, vB 0)]) (cs := #[vB 0, vB 0, vB 2, vB 1, vB 0, vB 6, vB 0, vB 0, vB 0, vB 6, vB 0, vB 0, vB 0]) rfl ei_u8 (by decide) rfl (by kernel_rfl) rfl (by decide) ?_
  clear HF HM; intro a w231 g231 HF HM
  refine fo HF 36 rfl rfl ?_
  refine e_cl HF [.string (bstr hh), vS g231 13 13] rfl rfl (qcp hh hhl ([0, 0, 2, 1, 0, 6, 0, 0, 0, 6, 0, 0, 0]) _ (HM.rdBlk (i := 0) (n := 13) (size := 1) rfl rfl) (by decide)) ?_
  rintro _ w232 ⟨⟨A232, c232, rfl, ho, hc232⟩, hbw⟩
  refine ⟨_, rfl, ?_⟩
  replace HM := HM.callRow hbw ho
  clear HF; intro a HF
  have hsl232 := qab ([(12 + 13) % 256, 0, 0, 0] ++ hh ++ [0, 0, 2, 1, 0, 6, 0, 0, 0, 6, 0, 0, 0])
  refine fo HF 37 rfl rfl ?_
  refine e_is HF HM [.slice A232 (((sealL ([(12 + 13) % 256, 0, 0, 0] ++ hh ++ [0, 0, 2, 1, 0, 6, 0, 0, 0, 6, 0, 0, 0]))).length) c232] (.bool true) rfl rfl (qbs (sealL ([(12 + 13) % 256, 0, 0, 0] ++ hh ++ [0, 0, 2, 1, 0, 6, 0, 0, 0, 6, 0, 0, 0])) B _ (hL.mem HM hB) (HM.le hB) (HM.rd (i := 0) rfl) (qbx (qaj (qaj (by intro x hx; simp only [List.mem_cons, List.not_mem_nil, or_false] at hx; omega) hhl) (by decide)))) fun w233 hbw HM a HF => ?_
  refine fp HF 2 38 [(235, .bool false)] fun a HF => ?_
  refine qb rfl (qe HF rfl (wp_skip (qa ?_)))
  refine fp HF 1 0 [(236, vI (IntKind.i64.wrap ((k11 : Int) + 1)))] fun a HF => ?_
  replace HF := HF.sp 236 (vI (k11 + 1 : Nat)) rfl (qk (by omega) (by omega))
  refine fp HF 1 1 [(192, vI (k11 + 1 : Nat))] fun a HF => ?_
  refine qb rfl ?_
  exact ⟨_, (by omega), k11 + 1, by omega, rfl, HF.sub (by kernel_rfl), HM.picks [12] (by decide) rfl⟩
 have hd193 := of_decide_eq_false hb193
 refine qe HF rfl (wp_exit (wp_seq (qa ?_)))
 refine fo HF 0 rfl rfl ?_
 refine e_is HF HM [] (.bool true) rfl rfl (qqp B _ (hL.mem HM hB) (HM.le hB)) fun w237 hbw HM a HF => ?_
 refine fp HF 1 1 [(238, .bool true)] fun a HF => ?_
 refine fo HF 2 rfl rfl ?_
 refine e_is HF HM [] (.bool true) rfl rfl (qql B _ (hL.mem HM hB) (HM.le hB)) fun w239 hbw HM a HF => ?_
 refine fp HF 2 3 [(0, .bool true)] fun a HF => ?_
 refine qb rfl (wp_ret ?_)
 exact ret1 rfl HF (.tmp HF rfl) (⟨rfl, HM.below⟩)
end Go.Proofs.YtnakabnmjnfpcaaGreatDoor
