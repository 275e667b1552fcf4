/- Texts laid together: Wrong10W. -/
import Derived.Test.YtjpielapplglmaaDoorCardWrongBZ3
/- quantumlaw10.BlockWrong: under way. -/
set_option linter.all false
namespace Go.Proofs.YtjpielapplglmaaDoor
open Go.RowKit
theorem pick_nat (n : Int) : ∃ kq : Nat, pickZ n 253 = (kq : Int) ∧ kq < 253 := by
  have h : 0 ≤ pickZ n 253 ∧ pickZ n 253 < 253 := by unfold pickZ; rw [if_neg (by omega)]; omega
  exact ⟨(pickZ n 253).toNat, by omega, by omega⟩
theorem pick_is (n k : Int) (hn : I64 n) (hk : I64 k) {q : Int} (h : pickZ n k = q) (w : World) : Calls Tryd.prog 23 #[.int .i64 n, .int .i64 k] w fun r w' => r = .returned (.int .i64 q) ∧ w' = w := by rw [← h]; exact pick_any n k hn hk w
theorem ends_bad {n pn : Int} {A27 Ad : Option Addr} {c27 cd g130 : Nat} {D : Bk} (hnI : I64 n) (hpn : 0 ≤ pn ∧ pn ≤ 281474976710656) (hDo : D.Ok) (hDf : D.fits = false) (hDl : D.evs.length ≤ 62) {ls : List Bkc}
    (hls : ls = [⟨⟨2, 0, 0, (if (0 : Int) < n then 0 else n), []⟩, A27, c27⟩, ⟨⟨2, 0, 0, (if (281474976710658 : Int) > n then 281474976710658 else n), []⟩, A27, c27⟩, ⟨⟨2, 1, 0, 1 + pn, []⟩, A27, c27⟩, ⟨⟨2, 0, (if (1 : Int) > n then 1 else n), 1 + pn, []⟩, A27, c27⟩, ⟨⟨2, 0, 0, 1 + pn, [{ Ev.zero with seq := 1, kind := 6 }]⟩, some ⟨g130, 0, none⟩, 1⟩, ⟨D, Ad, cd⟩]) :
    ∀ y ∈ ls, y.b.Ok ∧ y.b.fits = false ∧ y.b.evs.length ≤ 62 := by
  rw [hls]
  unfold I64 at hnI
  intro y hy
  simp only [List.mem_cons, List.not_mem_nil, or_false] at hy
  rcases hy with rfl | rfl | rfl | rfl | rfl | rfl
  · exact ⟨numOk _ _ _ _ (by decide) (by decide) (by unfold I64; decide) (by unfold I64; split <;> omega), end_bad rfl (fun h => by have h1 := h.1; simp only at h1; split at h1 <;> omega), Nat.zero_le _⟩
  · exact ⟨numOk _ _ _ _ (by decide) (by decide) (by unfold I64; decide) (by unfold I64; split <;> omega), end_bad rfl (fun h => by have h1 := h.2.1; simp only at h1; split at h1 <;> omega), Nat.zero_le _⟩
  · exact ⟨numOk _ _ _ _ (by decide) (by decide) (by unfold I64; decide) (by unfold I64; omega), end_bad rfl (fun h => by have h1 := h.2.2.1; simp at h1), Nat.zero_le _⟩
  · exact ⟨numOk _ _ _ _ (by decide) (by decide) (by unfold I64; split <;> omega) (by unfold I64; omega), end_bad rfl (fun h => by have h1 := h.2.2.2.1; simp only at h1; split at h1 <;> omega), Nat.zero_le _⟩
  · exact ⟨oneOk (by decide) (by decide) (by unfold I64; decide) (by unfold I64; omega) ⟨⟨by decide, by decide⟩, ⟨by decide, by decide⟩, by decide, by decide, ⟨by decide, by decide⟩, ⟨by decide, by decide⟩, ⟨by decide, by decide⟩, ⟨by decide, by decide⟩, ⟨by decide, by decide⟩, by decide, ⟨by decide, by decide⟩⟩, end_bad rfl (fun h => by have h1 := h.2.2.2.2; simp at h1), by show 1 ≤ 62; decide⟩
  · exact ⟨hDo, hDf, hDl⟩
theorem ends_rd {n pn : Int} {A27 Ad : Option Addr} {c27 cd g130 : Nat} {D : Bk} {ls : List Bkc}
    (hls : ls = [⟨⟨2, 0, 0, (if (0 : Int) < n then 0 else n), []⟩, A27, c27⟩, ⟨⟨2, 0, 0, (if (281474976710658 : Int) > n then 281474976710658 else n), []⟩, A27, c27⟩, ⟨⟨2, 1, 0, 1 + pn, []⟩, A27, c27⟩, ⟨⟨2, 0, (if (1 : Int) > n then 1 else n), 1 + pn, []⟩, A27, c27⟩, ⟨⟨2, 0, 0, 1 + pn, [{ Ev.zero with seq := 1, kind := 6 }]⟩, some ⟨g130, 0, none⟩, 1⟩, ⟨D, Ad, cd⟩])
    (W : World) (B : Nat) (h1 : Rd W B 11 Ad D.evs.length (D.evs.flatMap evL)) (h2 : Rd W B 11 (some ⟨g130, 0, none⟩) 1 (evL { Ev.zero with seq := 1, kind := 6 })) : ∀ y ∈ ls, Rd W B 11 y.A y.b.evs.length (y.b.evs.flatMap evL) := by
  rw [hls]
  intro y hy
  simp only [List.mem_cons, List.not_mem_nil, or_false] at hy
  rcases hy with rfl | rfl | rfl | rfl | rfl | rfl
  · exact Rd.nil
  · exact Rd.nil
  · exact Rd.nil
  · exact Rd.nil
  · exact h2
  · exact h1
theorem snoc2_ok {k c : Nat} {lo nx : Int} {es : List Ev} {e : Ev} (hk : k < 256) (hc : c < 256) (hl : I64 lo) (hn : I64 nx) (h : ∀ x ∈ es, x.Ok) (he : e.Ok) : Bk.Ok ⟨k, c, lo, nx, es ++ [e, e]⟩ := ⟨hk, hc, hl, hn, fun x hx => by
  rcases List.mem_append.1 hx with h1 | h1
  · exact h x h1
  · simp at h1; subst h1; exact he⟩
theorem put_last (es : List Ev) (e f : Ev) {o : Nat} {v : Value} (h : evL f = (evL e).set o v) (ho : o < 11) : putAt ((es ++ [e]).flatMap evL) (es.length * 11 + o) [v] = (es ++ [f]).flatMap evL := by
  have h1 := putAt_cell evL 11 evL_len (es ++ [e]) es.length e f List.getElem?_concat_length o ho v h
  rwa [List.set_append_right _ _ (Nat.le_refl _), Nat.sub_self] at h1
theorem ei_bk : EI Tryd.prog 57 37 (.agg #[.int .u8 0, .int .u8 0, .int .i64 0, .int .i64 0, .slice none 0 0]) 5 48 := ⟨by kernel_rfl, by kernel_rfl, rfl, by omega⟩
theorem row_none {w : World} {base n c : Nat} {e : TypeId} {size : Nat} {A : Option Addr} {xs : List Value} (h : w.ownsRow base e size (.slice A n c) n xs) : A = none → n = 0 ∧ n = 0 := fun hA => by
  rcases Nat.eq_zero_or_pos n with h0 | h0
  · exact ⟨h0, h0⟩
  · obtain ⟨g, hg⟩ := own_some h h0
    rw [hA] at hg; cases hg
set_option maxRecDepth 100000 in
set_option maxHeartbeats 4000000 in
theorem blockWrong_any (x : Sb) (hx : x.Ok) (A : Option Addr) (c way : Nat) (hway : way < 256) (n : Int) (hnI : I64 n) (B : Nat) (w : World) (hL : LaidX B w) (hB : B ≤ w.heap.size) (hr : Rd w w.heap.size 11 A x.l.length (x.l.flatMap smL)) (hc : x.l.length ≤ c) (hn : x.l.length ≤ 9223372036854775807) :
    Calls Tryd.prog 10 #[.agg (x.cells A c), .int .u8 (way : Int), .int .i64 n] w (Is w (.bool true)) := by
  refine calls_enter (vs := [.agg (x.cells A c), .int .u8 (way : Int), .int .i64 n]) Tryd.func10 rfl rfl (by kernel_rfl) (σ0 := [(0, .agg (x.cells A c)), (1, .int .u8 (way : Int)), (2, .int .i64 n)]) rfl ?_
  intro a HF
  have HM := Mem.start w
  refine wp_seq ?_
  refine from_start ?_
  refine from_op HF (i := 0) rfl rfl ?_
  refine e_box HF HM (cs := (x.cells A c)) rfl rfl rfl rfl (by decide) ?_
  clear HF HM; intro a w3 g3 HF HM
  refine from_pures HF 1 1 (j := 2) [(6, .bool false)] (by kernel_rfl) rfl ?_; clear HF; intro a HF
  refine from_done rfl ?_
  replace HF := HF.sub (σ' := [(6, .bool false), (3, .pointer (some ⟨g3, 0, none⟩)), (1, .int .u8 (way : Int)), (2, .int .i64 n)]) (by kernel_rfl)
  have hx0 : Sb.Ok ⟨false, x.cpu, x.lost, x.b, x.l⟩ := ⟨hx.cpu, hx.lost, hx.b, hx.l⟩
  obtain ⟨lo, es, hmade, hlo, hel, hok⟩ := made_row hx0 rfl
  have hx1 : Sb.Ok ⟨true, 0, 0, x.b, []⟩ := ⟨by show 0 < 256; decide, by show 0 < 4294967296; decide, hx.b, by intro y hy; cases hy⟩
  have hmade1 : Sb.made ⟨true, 0, 0, x.b, []⟩ = ⟨2, 0, 0, (1 + pickZ x.b.seq 281474976710657), []⟩ := by unfold Sb.made; rw [if_pos rfl]
  have hcpu := hx.cpu
  obtain ⟨kq, hkq, hkq2⟩ : ∃ kq : Nat, pickZ n 253 = (kq : Int) ∧ kq < 253 := pick_nat n
  refine wp_seq ?_
  refine wp_seq ?_
  refine from_start ?_
  refine from_op HF (i := 0) rfl rfl ?_
  refine e_call HF (vs := []) rfl (by kernel_rfl) (by kernel_rfl) rfl (by decide) (bawake_any B _ (hL.mem HM hB) (HM.le hB)) ?_
  rintro _ w19 ⟨rfl, hbw⟩
  refine ⟨_, rfl, ?_⟩
  replace HM := HM.call hbw
  clear HF; intro a HF
  refine from_pures HF 1 1 (j := 2) [(20, .bool false)] (by kernel_rfl) rfl ?_; clear HF; intro a HF
  refine from_done rfl ?_
  replace HF := HF.sub (σ' := [(20, .bool false), (6, .bool false), (3, .pointer (some ⟨g3, 0, none⟩)), (1, .int .u8 (way : Int)), (2, .int .i64 n)]) (by kernel_rfl)
  refine cond_false HF rfl ?_
  refine wp_skip ?_
  refine wp_seq ?_
  refine from_start ?_
  refine from_pures HF 1 0 (j := 1) [(21, .pointer (some ⟨g3, 0, none⟩))] (by kernel_rfl) rfl ?_; clear HF; intro a HF
  refine from_op HF (i := 1) rfl rfl ?_
  refine e_store HF HM (i := 0) (cs := (x.cells A c)) rfl rfl rfl rfl (by kernel_rfl) rfl rfl (by simp [Sb.cells]) ?_
  clear HM; intro w3_1 HM
  refine from_done rfl ?_
  replace HF := HF.sub (σ' := [(20, .bool false), (6, .bool false), (3, .pointer (some ⟨g3, 0, none⟩)), (1, .int .u8 (way : Int)), (2, .int .i64 n)]) (by kernel_rfl)
  refine cut_seq (fun aS wS => ∃ (A23 : Option Addr) (c23 : Nat) (A27 : Option Addr) (c27 : Nat) (g7 : Nat) (g8 : Nat), Fr aS 190 [] [(8, .pointer (some ⟨g8, 0, none⟩)), (7, .pointer (some ⟨g7, 0, none⟩)), (20, .bool false), (6, .bool false), (3, .pointer (some ⟨g3, 0, none⟩)), (1, .int .u8 (way : Int)), (2, .int .i64 n)] ∧ Mem w wS [.blk g8 #[.int .u8 2, .int .u8 0, .int .i64 0, .int .i64 (1 + pickZ x.b.seq 281474976710657), .slice A27 0 c27] 37, .blk g7 #[.int .u8 1, .int .u8 ((x.cpu % 64 : Nat) : Int), .int .i64 (lo : Int), .int .i64 0, .slice A23 es.length c23] 37, .row (.slice A23 es.length c23) es.length (es.flatMap evL) 55 11, .blk g3 #[.bool false, .int .u8 (x.cpu : Int), .int .u32 (x.lost : Int), .int .i64 x.b.seq, .int .i64 x.b.time, .slice A x.l.length c] 30] ∧ (es.length ≤ c23)) ?_ ?_
  ·
    refine any_start (by kernel_rfl) (fun wS => Mem w wS [.blk g3 #[.bool false, .int .u8 (x.cpu : Int), .int .u32 (x.lost : Int), .int .i64 x.b.seq, .int .i64 x.b.time, .slice A x.l.length c] 30]) [9] ?_
    replace HM := HM.drew
    have HS := HM.picks (fs' := [.blk g3 #[.bool false, .int .u8 (x.cpu : Int), .int .u32 (x.lost : Int), .int .i64 x.b.seq, .int .i64 x.b.time, .slice A x.l.length c] 30]) [0] (by decide) rfl
    refine any_pures HF (fun _ => HS) (fun _ _ d _ _ h => by cases d <;> exact h) [2] #[false, false, true, false, false, false, false, false, false, false] [(24, .pointer (some ⟨g3, 3, none⟩))] (by kernel_rfl) ?_; clear HF; intro a HF
    refine any_yl HF HS (i := 0) rfl rfl (d := 22) rfl (by decide) (by kernel_rfl) (fun _ _ _ h => h) (v := .agg #[.bool false, .int .u8 (x.cpu : Int), .int .u32 (x.lost : Int), .int .i64 x.b.seq, .int .i64 x.b.time, .slice A x.l.length c]) (Yl.loadS rfl rfl si_sb rfl (fun _ h => range_of_block (h.blk (i := 0) rfl))) ?_; clear HF; intro a HF
    refine any_yl HF HS (i := 3) rfl rfl (d := 25) rfl (by decide) (by kernel_rfl) (fun _ _ _ h => h) (v := .agg #[.int .i64 x.b.seq, .int .i64 x.b.time]) (Yl.loadS rfl rfl ⟨(by kernel_rfl), (by kernel_rfl)⟩ rfl (fun _ h => h.sub (i := 0) rfl 3 rfl)) ?_; clear HF; intro a HF
    refine any_yl HF HS (i := 4) rfl rfl (d := 26) rfl (by decide) (by kernel_rfl) (fun _ _ _ h => h) (v := .agg #[.bool true, .int .u8 0, .int .u32 0, .int .i64 x.b.seq, .int .i64 x.b.time, .slice none 0 0]) (Yl.build (vs := [(0, .bool true), (3, .agg #[.int .i64 x.b.seq, .int .i64 x.b.time])]) rfl (by kernel_rfl) (by kernel_rfl)) ?_; clear HF; intro a HF
    refine any_all [1, 6, 7] (by kernel_rfl) rfl ?_
    refine all_cons ?_ ?_
    · refine any_op HF (i := 1) rfl rfl ?_
      refine e_call HF (vs := [.agg #[.bool false, .int .u8 (x.cpu : Int), .int .u32 (x.lost : Int), .int .i64 x.b.seq, .int .i64 x.b.time, .slice A x.l.length c]]) rfl (by kernel_rfl) (by kernel_rfl) rfl (by decide) (bmade_is ⟨false, x.cpu, x.lost, x.b, x.l⟩ hx0 A c _ (HM.old hr) hc hn hmade) ?_
      rintro _ w23 ⟨⟨A23, c23, rfl, ho, hc23⟩, hbw⟩
      refine ⟨_, rfl, ?_⟩
      replace HM := HM.callRow hbw ho
      clear HF; intro a HF
      refine keepS (HM.picks [1] (by decide) rfl) (fun HS => ?_)
      refine any_all [5, 6, 7] (by kernel_rfl) rfl ?_
      refine all_cons ?_ ?_
      · refine any_op HF (i := 5) rfl rfl ?_
        refine e_call HF (vs := [.agg #[.bool true, .int .u8 0, .int .u32 0, .int .i64 x.b.seq, .int .i64 x.b.time, .slice none 0 0]]) rfl (by kernel_rfl) (by kernel_rfl) rfl (by decide) (bmade_is (b := ⟨2, 0, 0, (1 + pickZ x.b.seq 281474976710657), []⟩) ⟨true, 0, 0, x.b, []⟩ hx1 none 0 _ Rd.nil (Nat.le_refl _) (Nat.zero_le _) hmade1) ?_
        rintro _ w27 ⟨⟨A27, c27, rfl, _, _⟩, hbw⟩
        refine ⟨_, rfl, ?_⟩
        replace HM := HM.call hbw
        clear HF; intro a HF
        refine keepS (HM.picks [1] (by decide) rfl) (fun HS => ?_)
        refine any_all [6, 7] (by kernel_rfl) rfl ?_
        refine all_cons ?_ ?_
        · refine any_op HF (i := 6) rfl rfl ?_
          refine e_alloc HF HM (cs := #[.int .u8 0, .int .u8 0, .int .i64 0, .int .i64 0, .slice none 0 0]) rfl (by kernel_rfl) rfl (by decide) ?_
          clear HF HM; intro a w7 g7 HF HM
          refine keepS (HM.picks [2] (by decide) rfl) (fun HS => ?_)
          refine any_all [7] (by kernel_rfl) rfl ?_
          refine all_cons ?_ all_nil
          refine any_op HF (i := 7) rfl rfl ?_
          refine e_alloc HF HM (cs := #[.int .u8 0, .int .u8 0, .int .i64 0, .int .i64 0, .slice none 0 0]) rfl (by kernel_rfl) rfl (by decide) ?_
          clear HF HM; intro a w8 g8 HF HM
          refine keepS (HM.picks [3] (by decide) rfl) (fun HS => ?_)
          refine any_all [8] (by kernel_rfl) rfl ?_
          refine all_cons ?_ all_nil
          refine any_op HF (i := 8) rfl rfl ?_
          refine e_storeAll HF HM (i := 1) (cs := #[.int .u8 0, .int .u8 0, .int .i64 0, .int .i64 0, .slice none 0 0]) (ds := #[.int .u8 1, .int .u8 ((x.cpu % 64 : Nat) : Int), .int .i64 (lo : Int), .int .i64 0, .slice A23 es.length c23]) rfl rfl rfl rfl si_bk rfl rfl (by simp [Value.oneCell']) rfl ?_
          clear HM; intro w4_8 HM
          refine keepS (HM.picks [3] (by decide) rfl) (fun HS => ?_)
          refine any_all [9] (by kernel_rfl) rfl ?_
          refine all_cons ?_ all_nil
          refine any_op HF (i := 9) rfl rfl ?_
          refine e_storeAll HF HM (i := 0) (cs := #[.int .u8 0, .int .u8 0, .int .i64 0, .int .i64 0, .slice none 0 0]) (ds := #[.int .u8 2, .int .u8 0, .int .i64 0, .int .i64 (1 + pickZ x.b.seq 281474976710657), .slice A27 0 c27]) rfl rfl rfl rfl si_bk rfl rfl (by simp [Value.oneCell']) rfl ?_
          clear HM; intro w4_9 HM
          refine noS (by kernel_rfl) ?_
          refine any_done (by kernel_rfl) ?_
          replace HF := HF.sub (σ' := [(8, .pointer (some ⟨g8, 0, none⟩)), (7, .pointer (some ⟨g7, 0, none⟩)), (20, .bool false), (6, .bool false), (3, .pointer (some ⟨g3, 0, none⟩)), (1, .int .u8 (way : Int)), (2, .int .i64 n)]) (by kernel_rfl)
          exact ⟨A23, c23, A27, c27, g7, g8, HF.sub (by kernel_rfl), HM.picks [0, 1, 2, 3] (by decide) rfl, hc23⟩
        refine all_cons ?_ all_nil
        refine any_op HF (i := 7) rfl rfl ?_
        refine e_alloc HF HM (cs := #[.int .u8 0, .int .u8 0, .int .i64 0, .int .i64 0, .slice none 0 0]) rfl (by kernel_rfl) rfl (by decide) ?_
        clear HF HM; intro a w8 g8 HF HM
        refine keepS (HM.picks [2] (by decide) rfl) (fun HS => ?_)
        refine any_all [6] (by kernel_rfl) rfl ?_
        refine all_cons ?_ all_nil
        refine any_op HF (i := 6) rfl rfl ?_
        refine e_alloc HF HM (cs := #[.int .u8 0, .int .u8 0, .int .i64 0, .int .i64 0, .slice none 0 0]) rfl (by kernel_rfl) rfl (by decide) ?_
        clear HF HM; intro a w7 g7 HF HM
        refine keepS (HM.picks [3] (by decide) rfl) (fun HS => ?_)
        refine any_all [8] (by kernel_rfl) rfl ?_
        refine all_cons ?_ all_nil
        refine any_op HF (i := 8) rfl rfl ?_
        refine e_storeAll HF HM (i := 0) (cs := #[.int .u8 0, .int .u8 0, .int .i64 0, .int .i64 0, .slice none 0 0]) (ds := #[.int .u8 1, .int .u8 ((x.cpu % 64 : Nat) : Int), .int .i64 (lo : Int), .int .i64 0, .slice A23 es.length c23]) rfl rfl rfl rfl si_bk rfl rfl (by simp [Value.oneCell']) rfl ?_
        clear HM; intro w4_8 HM
        refine keepS (HM.picks [3] (by decide) rfl) (fun HS => ?_)
        refine any_all [9] (by kernel_rfl) rfl ?_
        refine all_cons ?_ all_nil
        refine any_op HF (i := 9) rfl rfl ?_
        refine e_storeAll HF HM (i := 1) (cs := #[.int .u8 0, .int .u8 0, .int .i64 0, .int .i64 0, .slice none 0 0]) (ds := #[.int .u8 2, .int .u8 0, .int .i64 0, .int .i64 (1 + pickZ x.b.seq 281474976710657), .slice A27 0 c27]) rfl rfl rfl rfl si_bk rfl rfl (by simp [Value.oneCell']) rfl ?_
        clear HM; intro w4_9 HM
        refine noS (by kernel_rfl) ?_
        refine any_done (by kernel_rfl) ?_
        replace HF := HF.sub (σ' := [(7, .pointer (some ⟨g7, 0, none⟩)), (8, .pointer (some ⟨g8, 0, none⟩)), (20, .bool false), (6, .bool false), (3, .pointer (some ⟨g3, 0, none⟩)), (1, .int .u8 (way : Int)), (2, .int .i64 n)]) (by kernel_rfl)
        exact ⟨A23, c23, A27, c27, g7, g8, HF.sub (by kernel_rfl), HM.picks [1, 0, 2, 3] (by decide) rfl, hc23⟩
      refine all_cons ?_ ?_
      · refine any_op HF (i := 6) rfl rfl ?_
        refine e_alloc HF HM (cs := #[.int .u8 0, .int .u8 0, .int .i64 0, .int .i64 0, .slice none 0 0]) rfl (by kernel_rfl) rfl (by decide) ?_
        clear HF HM; intro a w7 g7 HF HM
        refine keepS (HM.picks [2] (by decide) rfl) (fun HS => ?_)
        refine any_all [5, 7] (by kernel_rfl) rfl ?_
        refine all_cons ?_ ?_
        · refine any_op HF (i := 5) rfl rfl ?_
          refine e_call HF (vs := [.agg #[.bool true, .int .u8 0, .int .u32 0, .int .i64 x.b.seq, .int .i64 x.b.time, .slice none 0 0]]) rfl (by kernel_rfl) (by kernel_rfl) rfl (by decide) (bmade_is (b := ⟨2, 0, 0, (1 + pickZ x.b.seq 281474976710657), []⟩) ⟨true, 0, 0, x.b, []⟩ hx1 none 0 _ Rd.nil (Nat.le_refl _) (Nat.zero_le _) hmade1) ?_
          rintro _ w27 ⟨⟨A27, c27, rfl, _, _⟩, hbw⟩
          refine ⟨_, rfl, ?_⟩
          replace HM := HM.call hbw
          clear HF; intro a HF
          refine keepS (HM.picks [2] (by decide) rfl) (fun HS => ?_)
          refine any_all [7] (by kernel_rfl) rfl ?_
          refine all_cons ?_ all_nil
          refine any_op HF (i := 7) rfl rfl ?_
          refine e_alloc HF HM (cs := #[.int .u8 0, .int .u8 0, .int .i64 0, .int .i64 0, .slice none 0 0]) rfl (by kernel_rfl) rfl (by decide) ?_
          clear HF HM; intro a w8 g8 HF HM
          refine keepS (HM.picks [3] (by decide) rfl) (fun HS => ?_)
          refine any_all [8] (by kernel_rfl) rfl ?_
          refine all_cons ?_ all_nil
          refine any_op HF (i := 8) rfl rfl ?_
          refine e_storeAll HF HM (i := 1) (cs := #[.int .u8 0, .int .u8 0, .int .i64 0, .int .i64 0, .slice none 0 0]) (ds := #[.int .u8 1, .int .u8 ((x.cpu % 64 : Nat) : Int), .int .i64 (lo : Int), .int .i64 0, .slice A23 es.length c23]) rfl rfl rfl rfl si_bk rfl rfl (by simp [Value.oneCell']) rfl ?_
          clear HM; intro w4_8 HM
          refine keepS (HM.picks [3] (by decide) rfl) (fun HS => ?_)
          refine any_all [9] (by kernel_rfl) rfl ?_
          refine all_cons ?_ all_nil
          refine any_op HF (i := 9) rfl rfl ?_
          refine e_storeAll HF HM (i := 0) (cs := #[.int .u8 0, .int .u8 0, .int .i64 0, .int .i64 0, .slice none 0 0]) (ds := #[.int .u8 2, .int .u8 0, .int .i64 0, .int .i64 (1 + pickZ x.b.seq 281474976710657), .slice A27 0 c27]) rfl rfl rfl rfl si_bk rfl rfl (by simp [Value.oneCell']) rfl ?_
          clear HM; intro w4_9 HM
          refine noS (by kernel_rfl) ?_
          refine any_done (by kernel_rfl) ?_
          replace HF := HF.sub (σ' := [(8, .pointer (some ⟨g8, 0, none⟩)), (7, .pointer (some ⟨g7, 0, none⟩)), (20, .bool false), (6, .bool false), (3, .pointer (some ⟨g3, 0, none⟩)), (1, .int .u8 (way : Int)), (2, .int .i64 n)]) (by kernel_rfl)
          exact ⟨A23, c23, A27, c27, g7, g8, HF.sub (by kernel_rfl), HM.picks [0, 1, 2, 3] (by decide) rfl, hc23⟩
        refine all_cons ?_ all_nil
        refine any_op HF (i := 7) rfl rfl ?_
        refine e_alloc HF HM (cs := #[.int .u8 0, .int .u8 0, .int .i64 0, .int .i64 0, .slice none 0 0]) rfl (by kernel_rfl) rfl (by decide) ?_
        clear HF HM; intro a w8 g8 HF HM
        refine keepS (HM.picks [3] (by decide) rfl) (fun HS => ?_)
        refine any_all [5] (by kernel_rfl) rfl ?_
        refine all_cons ?_ all_nil
        refine any_op HF (i := 5) rfl rfl ?_
        refine e_call HF (vs := [.agg #[.bool true, .int .u8 0, .int .u32 0, .int .i64 x.b.seq, .int .i64 x.b.time, .slice none 0 0]]) rfl (by kernel_rfl) (by kernel_rfl) rfl (by decide) (bmade_is (b := ⟨2, 0, 0, (1 + pickZ x.b.seq 281474976710657), []⟩) ⟨true, 0, 0, x.b, []⟩ hx1 none 0 _ Rd.nil (Nat.le_refl _) (Nat.zero_le _) hmade1) ?_
        rintro _ w27 ⟨⟨A27, c27, rfl, _, _⟩, hbw⟩
        refine ⟨_, rfl, ?_⟩
        replace HM := HM.call hbw
        clear HF; intro a HF
        refine keepS (HM.picks [3] (by decide) rfl) (fun HS => ?_)
        refine any_all [8] (by kernel_rfl) rfl ?_
        refine all_cons ?_ all_nil
        refine any_op HF (i := 8) rfl rfl ?_
        refine e_storeAll HF HM (i := 1) (cs := #[.int .u8 0, .int .u8 0, .int .i64 0, .int .i64 0, .slice none 0 0]) (ds := #[.int .u8 1, .int .u8 ((x.cpu % 64 : Nat) : Int), .int .i64 (lo : Int), .int .i64 0, .slice A23 es.length c23]) rfl rfl rfl rfl si_bk rfl rfl (by simp [Value.oneCell']) rfl ?_
        clear HM; intro w4_8 HM
        refine keepS (HM.picks [3] (by decide) rfl) (fun HS => ?_)
        refine any_all [9] (by kernel_rfl) rfl ?_
        refine all_cons ?_ all_nil
        refine any_op HF (i := 9) rfl rfl ?_
        refine e_storeAll HF HM (i := 0) (cs := #[.int .u8 0, .int .u8 0, .int .i64 0, .int .i64 0, .slice none 0 0]) (ds := #[.int .u8 2, .int .u8 0, .int .i64 0, .int .i64 (1 + pickZ x.b.seq 281474976710657), .slice A27 0 c27]) rfl rfl rfl rfl si_bk rfl rfl (by simp [Value.oneCell']) rfl ?_
        clear HM; intro w4_9 HM
        refine noS (by kernel_rfl) ?_
        refine any_done (by kernel_rfl) ?_
        replace HF := HF.sub (σ' := [(8, .pointer (some ⟨g8, 0, none⟩)), (7, .pointer (some ⟨g7, 0, none⟩)), (20, .bool false), (6, .bool false), (3, .pointer (some ⟨g3, 0, none⟩)), (1, .int .u8 (way : Int)), (2, .int .i64 n)]) (by kernel_rfl)
        exact ⟨A23, c23, A27, c27, g7, g8, HF.sub (by kernel_rfl), HM.picks [0, 1, 2, 3] (by decide) rfl, hc23⟩
      refine all_cons ?_ all_nil
      refine any_op HF (i := 7) rfl rfl ?_
      refine e_alloc HF HM (cs := #[.int .u8 0, .int .u8 0, .int .i64 0, .int .i64 0, .slice none 0 0]) rfl (by kernel_rfl) rfl (by decide) ?_
      clear HF HM; intro a w8 g8 HF HM
      refine keepS (HM.picks [2] (by decide) rfl) (fun HS => ?_)
      refine any_all [5, 6] (by kernel_rfl) rfl ?_
      refine all_cons ?_ ?_
      · refine any_op HF (i := 5) rfl rfl ?_
        refine e_call HF (vs := [.agg #[.bool true, .int .u8 0, .int .u32 0, .int .i64 x.b.seq, .int .i64 x.b.time, .slice none 0 0]]) rfl (by kernel_rfl) (by kernel_rfl) rfl (by decide) (bmade_is (b := ⟨2, 0, 0, (1 + pickZ x.b.seq 281474976710657), []⟩) ⟨true, 0, 0, x.b, []⟩ hx1 none 0 _ Rd.nil (Nat.le_refl _) (Nat.zero_le _) hmade1) ?_
        rintro _ w27 ⟨⟨A27, c27, rfl, _, _⟩, hbw⟩
        refine ⟨_, rfl, ?_⟩
        replace HM := HM.call hbw
        clear HF; intro a HF
        refine keepS (HM.picks [2] (by decide) rfl) (fun HS => ?_)
        refine any_all [6] (by kernel_rfl) rfl ?_
        refine all_cons ?_ all_nil
        refine any_op HF (i := 6) rfl rfl ?_
        refine e_alloc HF HM (cs := #[.int .u8 0, .int .u8 0, .int .i64 0, .int .i64 0, .slice none 0 0]) rfl (by kernel_rfl) rfl (by decide) ?_
        clear HF HM; intro a w7 g7 HF HM
        refine keepS (HM.picks [3] (by decide) rfl) (fun HS => ?_)
        refine any_all [8] (by kernel_rfl) rfl ?_
        refine all_cons ?_ all_nil
        refine any_op HF (i := 8) rfl rfl ?_
        refine e_storeAll HF HM (i := 0) (cs := #[.int .u8 0, .int .u8 0, .int .i64 0, .int .i64 0, .slice none 0 0]) (ds := #[.int .u8 1, .int .u8 ((x.cpu % 64 : Nat) : Int), .int .i64 (lo : Int), .int .i64 0, .slice A23 es.length c23]) rfl rfl rfl rfl si_bk rfl rfl (by simp [Value.oneCell']) rfl ?_
        clear HM; intro w4_8 HM
        refine keepS (HM.picks [3] (by decide) rfl) (fun HS => ?_)
        refine any_all [9] (by kernel_rfl) rfl ?_
        refine all_cons ?_ all_nil
        refine any_op HF (i := 9) rfl rfl ?_
        refine e_storeAll HF HM (i := 1) (cs := #[.int .u8 0, .int .u8 0, .int .i64 0, .int .i64 0, .slice none 0 0]) (ds := #[.int .u8 2, .int .u8 0, .int .i64 0, .int .i64 (1 + pickZ x.b.seq 281474976710657), .slice A27 0 c27]) rfl rfl rfl rfl si_bk rfl rfl (by simp [Value.oneCell']) rfl ?_
        clear HM; intro w4_9 HM
        refine noS (by kernel_rfl) ?_
        refine any_done (by kernel_rfl) ?_
        replace HF := HF.sub (σ' := [(7, .pointer (some ⟨g7, 0, none⟩)), (8, .pointer (some ⟨g8, 0, none⟩)), (20, .bool false), (6, .bool false), (3, .pointer (some ⟨g3, 0, none⟩)), (1, .int .u8 (way : Int)), (2, .int .i64 n)]) (by kernel_rfl)
        exact ⟨A23, c23, A27, c27, g7, g8, HF.sub (by kernel_rfl), HM.picks [1, 0, 2, 3] (by decide) rfl, hc23⟩
      refine all_cons ?_ all_nil
      refine any_op HF (i := 6) rfl rfl ?_
      refine e_alloc HF HM (cs := #[.int .u8 0, .int .u8 0, .int .i64 0, .int .i64 0, .slice none 0 0]) rfl (by kernel_rfl) rfl (by decide) ?_
      clear HF HM; intro a w7 g7 HF HM
      refine keepS (HM.picks [3] (by decide) rfl) (fun HS => ?_)
      refine any_all [5] (by kernel_rfl) rfl ?_
      refine all_cons ?_ all_nil
      refine any_op HF (i := 5) rfl rfl ?_
      refine e_call HF (vs := [.agg #[.bool true, .int .u8 0, .int .u32 0, .int .i64 x.b.seq, .int .i64 x.b.time, .slice none 0 0]]) rfl (by kernel_rfl) (by kernel_rfl) rfl (by decide) (bmade_is (b := ⟨2, 0, 0, (1 + pickZ x.b.seq 281474976710657), []⟩) ⟨true, 0, 0, x.b, []⟩ hx1 none 0 _ Rd.nil (Nat.le_refl _) (Nat.zero_le _) hmade1) ?_
      rintro _ w27 ⟨⟨A27, c27, rfl, _, _⟩, hbw⟩
      refine ⟨_, rfl, ?_⟩
      replace HM := HM.call hbw
      clear HF; intro a HF
      refine keepS (HM.picks [3] (by decide) rfl) (fun HS => ?_)
      refine any_all [8] (by kernel_rfl) rfl ?_
      refine all_cons ?_ all_nil
      refine any_op HF (i := 8) rfl rfl ?_
      refine e_storeAll HF HM (i := 0) (cs := #[.int .u8 0, .int .u8 0, .int .i64 0, .int .i64 0, .slice none 0 0]) (ds := #[.int .u8 1, .int .u8 ((x.cpu % 64 : Nat) : Int), .int .i64 (lo : Int), .int .i64 0, .slice A23 es.length c23]) rfl rfl rfl rfl si_bk rfl rfl (by simp [Value.oneCell']) rfl ?_
      clear HM; intro w4_8 HM
      refine keepS (HM.picks [3] (by decide) rfl) (fun HS => ?_)
      refine any_all [9] (by kernel_rfl) rfl ?_
      refine all_cons ?_ all_nil
      refine any_op HF (i := 9) rfl rfl ?_
      refine e_storeAll HF HM (i := 1) (cs := #[.int .u8 0, .int .u8 0, .int .i64 0, .int .i64 0, .slice none 0 0]) (ds := #[.int .u8 2, .int .u8 0, .int .i64 0, .int .i64 (1 + pickZ x.b.seq 281474976710657), .slice A27 0 c27]) rfl rfl rfl rfl si_bk rfl rfl (by simp [Value.oneCell']) rfl ?_
      clear HM; intro w4_9 HM
      refine noS (by kernel_rfl) ?_
      refine any_done (by kernel_rfl) ?_
      replace HF := HF.sub (σ' := [(7, .pointer (some ⟨g7, 0, none⟩)), (8, .pointer (some ⟨g8, 0, none⟩)), (20, .bool false), (6, .bool false), (3, .pointer (some ⟨g3, 0, none⟩)), (1, .int .u8 (way : Int)), (2, .int .i64 n)]) (by kernel_rfl)
      exact ⟨A23, c23, A27, c27, g7, g8, HF.sub (by kernel_rfl), HM.picks [1, 0, 2, 3] (by decide) rfl, hc23⟩
    refine all_cons ?_ ?_
    · refine any_op HF (i := 6) rfl rfl ?_
      refine e_alloc HF HM (cs := #[.int .u8 0, .int .u8 0, .int .i64 0, .int .i64 0, .slice none 0 0]) rfl (by kernel_rfl) rfl (by decide) ?_
      clear HF HM; intro a w7 g7 HF HM
      refine keepS (HM.picks [1] (by decide) rfl) (fun HS => ?_)
      refine any_all [1, 7] (by kernel_rfl) rfl ?_
      refine all_cons ?_ ?_
      · refine any_op HF (i := 1) rfl rfl ?_
        refine e_call HF (vs := [.agg #[.bool false, .int .u8 (x.cpu : Int), .int .u32 (x.lost : Int), .int .i64 x.b.seq, .int .i64 x.b.time, .slice A x.l.length c]]) rfl (by kernel_rfl) (by kernel_rfl) rfl (by decide) (bmade_is ⟨false, x.cpu, x.lost, x.b, x.l⟩ hx0 A c _ (HM.old hr) hc hn hmade) ?_
        rintro _ w23 ⟨⟨A23, c23, rfl, ho, hc23⟩, hbw⟩
        refine ⟨_, rfl, ?_⟩
        replace HM := HM.callRow hbw ho
        clear HF; intro a HF
        refine keepS (HM.picks [2] (by decide) rfl) (fun HS => ?_)
        refine any_all [5, 7] (by kernel_rfl) rfl ?_
        refine all_cons ?_ ?_
        · refine any_op HF (i := 5) rfl rfl ?_
          refine e_call HF (vs := [.agg #[.bool true, .int .u8 0, .int .u32 0, .int .i64 x.b.seq, .int .i64 x.b.time, .slice none 0 0]]) rfl (by kernel_rfl) (by kernel_rfl) rfl (by decide) (bmade_is (b := ⟨2, 0, 0, (1 + pickZ x.b.seq 281474976710657), []⟩) ⟨true, 0, 0, x.b, []⟩ hx1 none 0 _ Rd.nil (Nat.le_refl _) (Nat.zero_le _) hmade1) ?_
          rintro _ w27 ⟨⟨A27, c27, rfl, _, _⟩, hbw⟩
          refine ⟨_, rfl, ?_⟩
          replace HM := HM.call hbw
          clear HF; intro a HF
          refine keepS (HM.picks [2] (by decide) rfl) (fun HS => ?_)
          refine any_all [7] (by kernel_rfl) rfl ?_
          refine all_cons ?_ all_nil
          refine any_op HF (i := 7) rfl rfl ?_
          refine e_alloc HF HM (cs := #[.int .u8 0, .int .u8 0, .int .i64 0, .int .i64 0, .slice none 0 0]) rfl (by kernel_rfl) rfl (by decide) ?_
          clear HF HM; intro a w8 g8 HF HM
          refine keepS (HM.picks [3] (by decide) rfl) (fun HS => ?_)
          refine any_all [8] (by kernel_rfl) rfl ?_
          refine all_cons ?_ all_nil
          refine any_op HF (i := 8) rfl rfl ?_
          refine e_storeAll HF HM (i := 2) (cs := #[.int .u8 0, .int .u8 0, .int .i64 0, .int .i64 0, .slice none 0 0]) (ds := #[.int .u8 1, .int .u8 ((x.cpu % 64 : Nat) : Int), .int .i64 (lo : Int), .int .i64 0, .slice A23 es.length c23]) rfl rfl rfl rfl si_bk rfl rfl (by simp [Value.oneCell']) rfl ?_
          clear HM; intro w4_8 HM
          refine keepS (HM.picks [3] (by decide) rfl) (fun HS => ?_)
          refine any_all [9] (by kernel_rfl) rfl ?_
          refine all_cons ?_ all_nil
          refine any_op HF (i := 9) rfl rfl ?_
          refine e_storeAll HF HM (i := 0) (cs := #[.int .u8 0, .int .u8 0, .int .i64 0, .int .i64 0, .slice none 0 0]) (ds := #[.int .u8 2, .int .u8 0, .int .i64 0, .int .i64 (1 + pickZ x.b.seq 281474976710657), .slice A27 0 c27]) rfl rfl rfl rfl si_bk rfl rfl (by simp [Value.oneCell']) rfl ?_
          clear HM; intro w4_9 HM
          refine noS (by kernel_rfl) ?_
          refine any_done (by kernel_rfl) ?_
          replace HF := HF.sub (σ' := [(8, .pointer (some ⟨g8, 0, none⟩)), (7, .pointer (some ⟨g7, 0, none⟩)), (20, .bool false), (6, .bool false), (3, .pointer (some ⟨g3, 0, none⟩)), (1, .int .u8 (way : Int)), (2, .int .i64 n)]) (by kernel_rfl)
          exact ⟨A23, c23, A27, c27, g7, g8, HF.sub (by kernel_rfl), HM.picks [0, 2, 1, 3] (by decide) rfl, hc23⟩
        refine all_cons ?_ all_nil
        refine any_op HF (i := 7) rfl rfl ?_
        refine e_alloc HF HM (cs := #[.int .u8 0, .int .u8 0, .int .i64 0, .int .i64 0, .slice none 0 0]) rfl (by kernel_rfl) rfl (by decide) ?_
        clear HF HM; intro a w8 g8 HF HM
        refine keepS (HM.picks [3] (by decide) rfl) (fun HS => ?_)
        refine any_all [5] (by kernel_rfl) rfl ?_
        refine all_cons ?_ all_nil
        refine any_op HF (i := 5) rfl rfl ?_
        refine e_call HF (vs := [.agg #[.bool true, .int .u8 0, .int .u32 0, .int .i64 x.b.seq, .int .i64 x.b.time, .slice none 0 0]]) rfl (by kernel_rfl) (by kernel_rfl) rfl (by decide) (bmade_is (b := ⟨2, 0, 0, (1 + pickZ x.b.seq 281474976710657), []⟩) ⟨true, 0, 0, x.b, []⟩ hx1 none 0 _ Rd.nil (Nat.le_refl _) (Nat.zero_le _) hmade1) ?_
        rintro _ w27 ⟨⟨A27, c27, rfl, _, _⟩, hbw⟩
        refine ⟨_, rfl, ?_⟩
        replace HM := HM.call hbw
        clear HF; intro a HF
        refine keepS (HM.picks [3] (by decide) rfl) (fun HS => ?_)
        refine any_all [8] (by kernel_rfl) rfl ?_
        refine all_cons ?_ all_nil
        refine any_op HF (i := 8) rfl rfl ?_
        refine e_storeAll HF HM (i := 2) (cs := #[.int .u8 0, .int .u8 0, .int .i64 0, .int .i64 0, .slice none 0 0]) (ds := #[.int .u8 1, .int .u8 ((x.cpu % 64 : Nat) : Int), .int .i64 (lo : Int), .int .i64 0, .slice A23 es.length c23]) rfl rfl rfl rfl si_bk rfl rfl (by simp [Value.oneCell']) rfl ?_
        clear HM; intro w4_8 HM
        refine keepS (HM.picks [3] (by decide) rfl) (fun HS => ?_)
        refine any_all [9] (by kernel_rfl) rfl ?_
        refine all_cons ?_ all_nil
        refine any_op HF (i := 9) rfl rfl ?_
        refine e_storeAll HF HM (i := 0) (cs := #[.int .u8 0, .int .u8 0, .int .i64 0, .int .i64 0, .slice none 0 0]) (ds := #[.int .u8 2, .int .u8 0, .int .i64 0, .int .i64 (1 + pickZ x.b.seq 281474976710657), .slice A27 0 c27]) rfl rfl rfl rfl si_bk rfl rfl (by simp [Value.oneCell']) rfl ?_
        clear HM; intro w4_9 HM
        refine noS (by kernel_rfl) ?_
        refine any_done (by kernel_rfl) ?_
        replace HF := HF.sub (σ' := [(8, .pointer (some ⟨g8, 0, none⟩)), (7, .pointer (some ⟨g7, 0, none⟩)), (20, .bool false), (6, .bool false), (3, .pointer (some ⟨g3, 0, none⟩)), (1, .int .u8 (way : Int)), (2, .int .i64 n)]) (by kernel_rfl)
        exact ⟨A23, c23, A27, c27, g7, g8, HF.sub (by kernel_rfl), HM.picks [0, 2, 1, 3] (by decide) rfl, hc23⟩
      refine all_cons ?_ all_nil
      refine any_op HF (i := 7) rfl rfl ?_
      refine e_alloc HF HM (cs := #[.int .u8 0, .int .u8 0, .int .i64 0, .int .i64 0, .slice none 0 0]) rfl (by kernel_rfl) rfl (by decide) ?_
      clear HF HM; intro a w8 g8 HF HM
      refine keepS (HM.picks [2] (by decide) rfl) (fun HS => ?_)
      refine any_all [1] (by kernel_rfl) rfl ?_
      refine all_cons ?_ all_nil
      refine any_op HF (i := 1) rfl rfl ?_
      refine e_call HF (vs := [.agg #[.bool false, .int .u8 (x.cpu : Int), .int .u32 (x.lost : Int), .int .i64 x.b.seq, .int .i64 x.b.time, .slice A x.l.length c]]) rfl (by kernel_rfl) (by kernel_rfl) rfl (by decide) (bmade_is ⟨false, x.cpu, x.lost, x.b, x.l⟩ hx0 A c _ (HM.old hr) hc hn hmade) ?_
      rintro _ w23 ⟨⟨A23, c23, rfl, ho, hc23⟩, hbw⟩
      refine ⟨_, rfl, ?_⟩
      replace HM := HM.callRow hbw ho
      clear HF; intro a HF
      refine keepS (HM.picks [3] (by decide) rfl) (fun HS => ?_)
      refine any_all [5] (by kernel_rfl) rfl ?_
      refine all_cons ?_ all_nil
      refine any_op HF (i := 5) rfl rfl ?_
      refine e_call HF (vs := [.agg #[.bool true, .int .u8 0, .int .u32 0, .int .i64 x.b.seq, .int .i64 x.b.time, .slice none 0 0]]) rfl (by kernel_rfl) (by kernel_rfl) rfl (by decide) (bmade_is (b := ⟨2, 0, 0, (1 + pickZ x.b.seq 281474976710657), []⟩) ⟨true, 0, 0, x.b, []⟩ hx1 none 0 _ Rd.nil (Nat.le_refl _) (Nat.zero_le _) hmade1) ?_
      rintro _ w27 ⟨⟨A27, c27, rfl, _, _⟩, hbw⟩
      refine ⟨_, rfl, ?_⟩
      replace HM := HM.call hbw
      clear HF; intro a HF
      refine keepS (HM.picks [3] (by decide) rfl) (fun HS => ?_)
      refine any_all [8] (by kernel_rfl) rfl ?_
      refine all_cons ?_ all_nil
      refine any_op HF (i := 8) rfl rfl ?_
      refine e_storeAll HF HM (i := 2) (cs := #[.int .u8 0, .int .u8 0, .int .i64 0, .int .i64 0, .slice none 0 0]) (ds := #[.int .u8 1, .int .u8 ((x.cpu % 64 : Nat) : Int), .int .i64 (lo : Int), .int .i64 0, .slice A23 es.length c23]) rfl rfl rfl rfl si_bk rfl rfl (by simp [Value.oneCell']) rfl ?_
      clear HM; intro w4_8 HM
      refine keepS (HM.picks [3] (by decide) rfl) (fun HS => ?_)
      refine any_all [9] (by kernel_rfl) rfl ?_
      refine all_cons ?_ all_nil
      refine any_op HF (i := 9) rfl rfl ?_
      refine e_storeAll HF HM (i := 1) (cs := #[.int .u8 0, .int .u8 0, .int .i64 0, .int .i64 0, .slice none 0 0]) (ds := #[.int .u8 2, .int .u8 0, .int .i64 0, .int .i64 (1 + pickZ x.b.seq 281474976710657), .slice A27 0 c27]) rfl rfl rfl rfl si_bk rfl rfl (by simp [Value.oneCell']) rfl ?_
      clear HM; intro w4_9 HM
      refine noS (by kernel_rfl) ?_
      refine any_done (by kernel_rfl) ?_
      replace HF := HF.sub (σ' := [(8, .pointer (some ⟨g8, 0, none⟩)), (7, .pointer (some ⟨g7, 0, none⟩)), (20, .bool false), (6, .bool false), (3, .pointer (some ⟨g3, 0, none⟩)), (1, .int .u8 (way : Int)), (2, .int .i64 n)]) (by kernel_rfl)
      exact ⟨A23, c23, A27, c27, g7, g8, HF.sub (by kernel_rfl), HM.picks [1, 2, 0, 3] (by decide) rfl, hc23⟩
    refine all_cons ?_ all_nil
    refine any_op HF (i := 7) rfl rfl ?_
    refine e_alloc HF HM (cs := #[.int .u8 0, .int .u8 0, .int .i64 0, .int .i64 0, .slice none 0 0]) rfl (by kernel_rfl) rfl (by decide) ?_
    clear HF HM; intro a w8 g8 HF HM
    refine keepS (HM.picks [1] (by decide) rfl) (fun HS => ?_)
    refine any_all [1, 6] (by kernel_rfl) rfl ?_
    refine all_cons ?_ ?_
    · refine any_op HF (i := 1) rfl rfl ?_
      refine e_call HF (vs := [.agg #[.bool false, .int .u8 (x.cpu : Int), .int .u32 (x.lost : Int), .int .i64 x.b.seq, .int .i64 x.b.time, .slice A x.l.length c]]) rfl (by kernel_rfl) (by kernel_rfl) rfl (by decide) (bmade_is ⟨false, x.cpu, x.lost, x.b, x.l⟩ hx0 A c _ (HM.old hr) hc hn hmade) ?_
      rintro _ w23 ⟨⟨A23, c23, rfl, ho, hc23⟩, hbw⟩
      refine ⟨_, rfl, ?_⟩
      replace HM := HM.callRow hbw ho
      clear HF; intro a HF
      refine keepS (HM.picks [2] (by decide) rfl) (fun HS => ?_)
      refine any_all [5, 6] (by kernel_rfl) rfl ?_
      refine all_cons ?_ ?_
      · refine any_op HF (i := 5) rfl rfl ?_
        refine e_call HF (vs := [.agg #[.bool true, .int .u8 0, .int .u32 0, .int .i64 x.b.seq, .int .i64 x.b.time, .slice none 0 0]]) rfl (by kernel_rfl) (by kernel_rfl) rfl (by decide) (bmade_is (b := ⟨2, 0, 0, (1 + pickZ x.b.seq 281474976710657), []⟩) ⟨true, 0, 0, x.b, []⟩ hx1 none 0 _ Rd.nil (Nat.le_refl _) (Nat.zero_le _) hmade1) ?_
        rintro _ w27 ⟨⟨A27, c27, rfl, _, _⟩, hbw⟩
        refine ⟨_, rfl, ?_⟩
        replace HM := HM.call hbw
        clear HF; intro a HF
        refine keepS (HM.picks [2] (by decide) rfl) (fun HS => ?_)
        refine any_all [6] (by kernel_rfl) rfl ?_
        refine all_cons ?_ all_nil
        refine any_op HF (i := 6) rfl rfl ?_
        refine e_alloc HF HM (cs := #[.int .u8 0, .int .u8 0, .int .i64 0, .int .i64 0, .slice none 0 0]) rfl (by kernel_rfl) rfl (by decide) ?_
        clear HF HM; intro a w7 g7 HF HM
        refine keepS (HM.picks [3] (by decide) rfl) (fun HS => ?_)
        refine any_all [8] (by kernel_rfl) rfl ?_
        refine all_cons ?_ all_nil
        refine any_op HF (i := 8) rfl rfl ?_
        refine e_storeAll HF HM (i := 0) (cs := #[.int .u8 0, .int .u8 0, .int .i64 0, .int .i64 0, .slice none 0 0]) (ds := #[.int .u8 1, .int .u8 ((x.cpu % 64 : Nat) : Int), .int .i64 (lo : Int), .int .i64 0, .slice A23 es.length c23]) rfl rfl rfl rfl si_bk rfl rfl (by simp [Value.oneCell']) rfl ?_
        clear HM; intro w4_8 HM
        refine keepS (HM.picks [3] (by decide) rfl) (fun HS => ?_)
        refine any_all [9] (by kernel_rfl) rfl ?_
        refine all_cons ?_ all_nil
        refine any_op HF (i := 9) rfl rfl ?_
        refine e_storeAll HF HM (i := 2) (cs := #[.int .u8 0, .int .u8 0, .int .i64 0, .int .i64 0, .slice none 0 0]) (ds := #[.int .u8 2, .int .u8 0, .int .i64 0, .int .i64 (1 + pickZ x.b.seq 281474976710657), .slice A27 0 c27]) rfl rfl rfl rfl si_bk rfl rfl (by simp [Value.oneCell']) rfl ?_
        clear HM; intro w4_9 HM
        refine noS (by kernel_rfl) ?_
        refine any_done (by kernel_rfl) ?_
        replace HF := HF.sub (σ' := [(7, .pointer (some ⟨g7, 0, none⟩)), (8, .pointer (some ⟨g8, 0, none⟩)), (20, .bool false), (6, .bool false), (3, .pointer (some ⟨g3, 0, none⟩)), (1, .int .u8 (way : Int)), (2, .int .i64 n)]) (by kernel_rfl)
        exact ⟨A23, c23, A27, c27, g7, g8, HF.sub (by kernel_rfl), HM.picks [2, 0, 1, 3] (by decide) rfl, hc23⟩
      refine all_cons ?_ all_nil
      refine any_op HF (i := 6) rfl rfl ?_
      refine e_alloc HF HM (cs := #[.int .u8 0, .int .u8 0, .int .i64 0, .int .i64 0, .slice none 0 0]) rfl (by kernel_rfl) rfl (by decide) ?_
      clear HF HM; intro a w7 g7 HF HM
      refine keepS (HM.picks [3] (by decide) rfl) (fun HS => ?_)
      refine any_all [5] (by kernel_rfl) rfl ?_
      refine all_cons ?_ all_nil
      refine any_op HF (i := 5) rfl rfl ?_
      refine e_call HF (vs := [.agg #[.bool true, .int .u8 0, .int .u32 0, .int .i64 x.b.seq, .int .i64 x.b.time, .slice none 0 0]]) rfl (by kernel_rfl) (by kernel_rfl) rfl (by decide) (bmade_is (b := ⟨2, 0, 0, (1 + pickZ x.b.seq 281474976710657), []⟩) ⟨true, 0, 0, x.b, []⟩ hx1 none 0 _ Rd.nil (Nat.le_refl _) (Nat.zero_le _) hmade1) ?_
      rintro _ w27 ⟨⟨A27, c27, rfl, _, _⟩, hbw⟩
      refine ⟨_, rfl, ?_⟩
      replace HM := HM.call hbw
      clear HF; intro a HF
      refine keepS (HM.picks [3] (by decide) rfl) (fun HS => ?_)
      refine any_all [8] (by kernel_rfl) rfl ?_
      refine all_cons ?_ all_nil
      refine any_op HF (i := 8) rfl rfl ?_
      refine e_storeAll HF HM (i := 0) (cs := #[.int .u8 0, .int .u8 0, .int .i64 0, .int .i64 0, .slice none 0 0]) (ds := #[.int .u8 1, .int .u8 ((x.cpu % 64 : Nat) : Int), .int .i64 (lo : Int), .int .i64 0, .slice A23 es.length c23]) rfl rfl rfl rfl si_bk rfl rfl (by simp [Value.oneCell']) rfl ?_
      clear HM; intro w4_8 HM
      refine keepS (HM.picks [3] (by decide) rfl) (fun HS => ?_)
      refine any_all [9] (by kernel_rfl) rfl ?_
      refine all_cons ?_ all_nil
      refine any_op HF (i := 9) rfl rfl ?_
      refine e_storeAll HF HM (i := 2) (cs := #[.int .u8 0, .int .u8 0, .int .i64 0, .int .i64 0, .slice none 0 0]) (ds := #[.int .u8 2, .int .u8 0, .int .i64 0, .int .i64 (1 + pickZ x.b.seq 281474976710657), .slice A27 0 c27]) rfl rfl rfl rfl si_bk rfl rfl (by simp [Value.oneCell']) rfl ?_
      clear HM; intro w4_9 HM
      refine noS (by kernel_rfl) ?_
      refine any_done (by kernel_rfl) ?_
      replace HF := HF.sub (σ' := [(7, .pointer (some ⟨g7, 0, none⟩)), (8, .pointer (some ⟨g8, 0, none⟩)), (20, .bool false), (6, .bool false), (3, .pointer (some ⟨g3, 0, none⟩)), (1, .int .u8 (way : Int)), (2, .int .i64 n)]) (by kernel_rfl)
      exact ⟨A23, c23, A27, c27, g7, g8, HF.sub (by kernel_rfl), HM.picks [2, 0, 1, 3] (by decide) rfl, hc23⟩
    refine all_cons ?_ all_nil
    refine any_op HF (i := 6) rfl rfl ?_
    refine e_alloc HF HM (cs := #[.int .u8 0, .int .u8 0, .int .i64 0, .int .i64 0, .slice none 0 0]) rfl (by kernel_rfl) rfl (by decide) ?_
    clear HF HM; intro a w7 g7 HF HM
    refine keepS (HM.picks [2] (by decide) rfl) (fun HS => ?_)
    refine any_all [1] (by kernel_rfl) rfl ?_
    refine all_cons ?_ all_nil
    refine any_op HF (i := 1) rfl rfl ?_
    refine e_call HF (vs := [.agg #[.bool false, .int .u8 (x.cpu : Int), .int .u32 (x.lost : Int), .int .i64 x.b.seq, .int .i64 x.b.time, .slice A x.l.length c]]) rfl (by kernel_rfl) (by kernel_rfl) rfl (by decide) (bmade_is ⟨false, x.cpu, x.lost, x.b, x.l⟩ hx0 A c _ (HM.old hr) hc hn hmade) ?_
    rintro _ w23 ⟨⟨A23, c23, rfl, ho, hc23⟩, hbw⟩
    refine ⟨_, rfl, ?_⟩
    replace HM := HM.callRow hbw ho
    clear HF; intro a HF
    refine keepS (HM.picks [3] (by decide) rfl) (fun HS => ?_)
    refine any_all [5] (by kernel_rfl) rfl ?_
    refine all_cons ?_ all_nil
    refine any_op HF (i := 5) rfl rfl ?_
    refine e_call HF (vs := [.agg #[.bool true, .int .u8 0, .int .u32 0, .int .i64 x.b.seq, .int .i64 x.b.time, .slice none 0 0]]) rfl (by kernel_rfl) (by kernel_rfl) rfl (by decide) (bmade_is (b := ⟨2, 0, 0, (1 + pickZ x.b.seq 281474976710657), []⟩) ⟨true, 0, 0, x.b, []⟩ hx1 none 0 _ Rd.nil (Nat.le_refl _) (Nat.zero_le _) hmade1) ?_
    rintro _ w27 ⟨⟨A27, c27, rfl, _, _⟩, hbw⟩
    refine ⟨_, rfl, ?_⟩
    replace HM := HM.call hbw
    clear HF; intro a HF
    refine keepS (HM.picks [3] (by decide) rfl) (fun HS => ?_)
    refine any_all [8] (by kernel_rfl) rfl ?_
    refine all_cons ?_ all_nil
    refine any_op HF (i := 8) rfl rfl ?_
    refine e_storeAll HF HM (i := 1) (cs := #[.int .u8 0, .int .u8 0, .int .i64 0, .int .i64 0, .slice none 0 0]) (ds := #[.int .u8 1, .int .u8 ((x.cpu % 64 : Nat) : Int), .int .i64 (lo : Int), .int .i64 0, .slice A23 es.length c23]) rfl rfl rfl rfl si_bk rfl rfl (by simp [Value.oneCell']) rfl ?_
    clear HM; intro w4_8 HM
    refine keepS (HM.picks [3] (by decide) rfl) (fun HS => ?_)
    refine any_all [9] (by kernel_rfl) rfl ?_
    refine all_cons ?_ all_nil
    refine any_op HF (i := 9) rfl rfl ?_
    refine e_storeAll HF HM (i := 2) (cs := #[.int .u8 0, .int .u8 0, .int .i64 0, .int .i64 0, .slice none 0 0]) (ds := #[.int .u8 2, .int .u8 0, .int .i64 0, .int .i64 (1 + pickZ x.b.seq 281474976710657), .slice A27 0 c27]) rfl rfl rfl rfl si_bk rfl rfl (by simp [Value.oneCell']) rfl ?_
    clear HM; intro w4_9 HM
    refine noS (by kernel_rfl) ?_
    refine any_done (by kernel_rfl) ?_
    replace HF := HF.sub (σ' := [(7, .pointer (some ⟨g7, 0, none⟩)), (8, .pointer (some ⟨g8, 0, none⟩)), (20, .bool false), (6, .bool false), (3, .pointer (some ⟨g3, 0, none⟩)), (1, .int .u8 (way : Int)), (2, .int .i64 n)]) (by kernel_rfl)
    exact ⟨A23, c23, A27, c27, g7, g8, HF.sub (by kernel_rfl), HM.picks [2, 1, 0, 3] (by decide) rfl, hc23⟩
  clear HF HM; rintro a w4 ⟨A23, c23, A27, c27, g7, g8, HF, HM, hc23⟩
  refine wp_seq ?_
  refine any_start (by kernel_rfl) (fun wS => Mem w wS [.blk g8 #[.int .u8 2, .int .u8 0, .int .i64 0, .int .i64 (1 + pickZ x.b.seq 281474976710657), .slice A27 0 c27] 37, .blk g7 #[.int .u8 1, .int .u8 ((x.cpu % 64 : Nat) : Int), .int .i64 (lo : Int), .int .i64 0, .slice A23 es.length c23] 37, .row (.slice A23 es.length c23) es.length (es.flatMap evL) 55 11, .blk g3 #[.bool false, .int .u8 (x.cpu : Int), .int .u32 (x.lost : Int), .int .i64 x.b.seq, .int .i64 x.b.time, .slice A x.l.length c] 30]) [15] ?_
  replace HM := HM.drew
  have HS := HM.picks (fs' := [.blk g8 #[.int .u8 2, .int .u8 0, .int .i64 0, .int .i64 (1 + pickZ x.b.seq 281474976710657), .slice A27 0 c27] 37, .blk g7 #[.int .u8 1, .int .u8 ((x.cpu % 64 : Nat) : Int), .int .i64 (lo : Int), .int .i64 0, .slice A23 es.length c23] 37, .row (.slice A23 es.length c23) es.length (es.flatMap evL) 55 11, .blk g3 #[.bool false, .int .u8 (x.cpu : Int), .int .u32 (x.lost : Int), .int .i64 x.b.seq, .int .i64 x.b.time, .slice A x.l.length c] 30]) [0, 1, 2, 3] (by decide) rfl
  refine any_pures HF (fun _ => HS) (fun _ _ d _ _ h => by cases d <;> exact h) [0, 2, 5, 9] #[true, false, true, false, false, true, false, false, false, true, false, false, false, false, false, false] [(37, .pointer (some ⟨g7, 1, none⟩)), (33, .pointer (some ⟨g7, 4, none⟩)), (30, .pointer (some ⟨g7, 4, none⟩)), (28, .pointer (some ⟨g7, 4, none⟩))] (by kernel_rfl) ?_; clear HF; intro a HF
  refine any_yl HF HS (i := 1) rfl rfl (d := 29) rfl (by decide) (by kernel_rfl) (fun _ _ _ h => h) (v := .slice A23 es.length c23) (Yl.load1 rfl rfl (by kernel_rfl) (fun _ h => h.cell (i := 1) rfl rfl)) ?_; clear HF; intro a HF
  refine any_yl HF HS (i := 3) rfl rfl (d := 31) rfl (by decide) (by kernel_rfl) (fun _ _ _ h => h) (v := .slice A23 es.length c23) (Yl.load1 rfl rfl (by kernel_rfl) (fun _ h => h.cell (i := 1) rfl rfl)) ?_; clear HF; intro a HF
  refine any_yl HF HS (i := 4) rfl rfl (d := 32) rfl (by decide) (by kernel_rfl) (fun _ _ _ h => h) (v := .int .i64 ((es.length : Nat) : Int)) (Yl.len rfl rfl (by kernel_rfl)) ?_; clear HF; intro a HF
  refine any_yl HF HS (i := 6) rfl rfl (d := 34) rfl (by decide) (by kernel_rfl) (fun _ _ _ h => h) (v := .slice A23 es.length c23) (Yl.load1 rfl rfl (by kernel_rfl) (fun _ h => h.cell (i := 1) rfl rfl)) ?_; clear HF; intro a HF
  refine any_yl HF HS (i := 7) rfl rfl (d := 35) rfl (by decide) (by kernel_rfl) (fun _ _ _ h => h) (v := .int .i64 ((es.length : Nat) : Int)) (Yl.len rfl rfl (by kernel_rfl)) ?_; clear HF; intro a HF
  refine any_yl HF HS (i := 8) rfl rfl (d := 36) rfl (by decide) (by kernel_rfl) (fun _ _ _ h => h) (v := .slice A23 es.length es.length) (Yl.slice3 ei_ev rfl rfl rfl rfl (Nat.le_refl _) (by omega)) ?_; clear HF; intro a HF
  refine any_yl HF HS (i := 10) rfl rfl (d := 38) rfl (by decide) (by kernel_rfl) (fun _ _ _ h => h) (v := .int .u8 ((x.cpu % 64 : Nat) : Int)) (Yl.load1 rfl rfl (by kernel_rfl) (fun _ h => h.cell (i := 1) rfl rfl)) ?_; clear HF; intro a HF
  refine any_yl HF HS (i := 11) rfl rfl (d := 39) rfl (by decide) (by kernel_rfl) (fun _ _ _ h => h) (v := .agg #[.int .i64 140737488355328, .int .i64 140737488355328, .int .u8 ((x.cpu % 64 : Nat) : Int), .int .u8 6, .int .i64 0, .int .i64 0, .int .i64 0, .int .i64 0, .int .i64 0, .int .u64 0, .int .i64 0]) (Yl.build (vs := [(0, .int .i64 140737488355328), (1, .int .i64 140737488355328), (2, .int .u8 ((x.cpu % 64 : Nat) : Int)), (3, .int .u8 6)]) rfl (by kernel_rfl) (by kernel_rfl)) ?_; clear HF; intro a HF
  refine any_all [12] (by kernel_rfl) rfl ?_
  refine all_cons ?_ all_nil
  refine any_op HF (i := 12) rfl rfl ?_
  refine e_slice HF HM (vs := [(0, .agg #[.int .i64 140737488355328, .int .i64 140737488355328, .int .u8 ((x.cpu % 64 : Nat) : Int), .int .u8 6, .int .i64 0, .int .i64 0, .int .i64 0, .int .i64 0, .int .i64 0, .int .u64 0, .int .i64 0])]) (cs := #[.int .i64 140737488355328, .int .i64 140737488355328, .int .u8 ((x.cpu % 64 : Nat) : Int), .int .u8 6, .int .i64 0, .int .i64 0, .int .i64 0, .int .i64 0, .int .i64 0, .int .u64 0, .int .i64 0]) rfl ei_ev (by decide) rfl (by kernel_rfl) rfl (by decide) ?_
  clear HF HM; intro a w40 g40 HF HM
  refine keepS (HM.picks [1, 2, 3, 4] (by decide) rfl) (fun HS => ?_)
  refine any_all [13] (by kernel_rfl) rfl ?_
  refine all_cons ?_ all_nil
  refine any_op HF (i := 13) rfl rfl ?_
  refine e_append_full HF HM (xs := (es.flatMap evL)) (news := (evL (pickE (x.cpu % 64)))) rfl ei_ev rfl rfl (HM.rd (i := 3) rfl) (HM.rdBlk (i := 0) (n := 1) (size := 11) rfl rfl) (by omega) (by omega) (row_none (HM.own (i := 3) rfl)) (by omega) (by omega) rfl (by decide) ?_
  clear HF HM; intro a w41 g41 c41 HF HM hc41
  refine keepS (HM.picks [2, 3, 4, 5] (by decide) rfl) (fun HS => ?_)
  refine any_pures HF (fun _ => HS) (fun _ _ d _ _ h => by cases d <;> exact h) [14] #[true, true, true, true, true, true, true, true, true, true, true, true, true, true, true, false] [(42, .pointer (some ⟨g7, 4, none⟩))] (by kernel_rfl) ?_; clear HF; intro a HF
  refine any_all [15] (by kernel_rfl) rfl ?_
  refine all_cons ?_ all_nil
  refine any_op HF (i := 15) rfl rfl ?_
  refine e_store HF HM (i := 3) (cs := #[.int .u8 1, .int .u8 ((x.cpu % 64 : Nat) : Int), .int .i64 (lo : Int), .int .i64 0, .slice A23 es.length c23]) rfl rfl rfl rfl (by kernel_rfl) rfl rfl (by simp) ?_
  clear HM; intro w5_15 HM
  refine noS (by kernel_rfl) ?_
  refine any_done (by kernel_rfl) ?_
  replace HF := HF.sub (σ' := [(8, .pointer (some ⟨g8, 0, none⟩)), (7, .pointer (some ⟨g7, 0, none⟩)), (20, .bool false), (6, .bool false), (3, .pointer (some ⟨g3, 0, none⟩)), (1, .int .u8 (way : Int)), (2, .int .i64 n)]) (by kernel_rfl)
  replace HM := HM.picks (fs' := [.row (.slice (some ⟨g41, 0, none⟩) (es.length + 1) c41) (es.length + 1) ((es.flatMap evL) ++ (evL (pickE (x.cpu % 64)))) 55 11, .blk g8 #[.int .u8 2, .int .u8 0, .int .i64 0, .int .i64 (1 + pickZ x.b.seq 281474976710657), .slice A27 0 c27] 37, .blk g7 #[.int .u8 1, .int .u8 ((x.cpu % 64 : Nat) : Int), .int .i64 (lo : Int), .int .i64 0, .slice (some ⟨g41, 0, none⟩) (es.length + 1) c41] 37, .row (.slice A23 es.length c23) es.length (es.flatMap evL) 55 11, .blk g3 #[.bool false, .int .u8 (x.cpu : Int), .int .u32 (x.lost : Int), .int .i64 x.b.seq, .int .i64 x.b.time, .slice A x.l.length c] 30]) [0, 2, 3, 4, 5] (by decide) rfl
  replace HM := HM.asRow (i := 0) (ys := (es ++ [pickE (x.cpu % 64)]).flatMap evL) rfl (by simp)
  refine wp_seq ?_
  refine from_start ?_
  refine from_pures HF 1 0 (j := 1) [(43, .pointer (some ⟨g7, 4, none⟩))] (by kernel_rfl) rfl ?_; clear HF; intro a HF
  refine from_yl (S := fun wS => Mem w wS _) HF HM (i := 1) rfl rfl (d := 44) rfl (by decide) (v := .slice (some ⟨g41, 0, none⟩) (es.length + 1) c41) (Yl.load1 rfl rfl (by kernel_rfl) (fun _ h => h.cell (i := 2) rfl rfl)) ?_; clear HF; intro a HF
  refine from_yl (S := fun wS => Mem w wS _) HF HM (i := 2) rfl rfl (d := 45) rfl (by decide) (v := .int .i64 ((es.length + 1 : Nat) : Int)) (Yl.len rfl rfl (by kernel_rfl)) ?_; clear HF; intro a HF
  refine from_pures HF 1 3 (j := 4) [(46, .int .i64 (IntKind.i64.wrap (((es.length + 1 : Nat) : Int) - 1)))] (by kernel_rfl) rfl ?_; clear HF; intro a HF
  replace HF := HF.as (t := 46) (u := .int .i64 (es.length : Int)) rfl (i64_nat (by omega) (by omega))
  refine from_pures HF 1 4 (j := 5) [(9, .int .i64 (es.length : Int))] (by kernel_rfl) rfl ?_; clear HF; intro a HF
  refine from_done rfl ?_
  replace HF := HF.sub (σ' := [(9, .int .i64 (es.length : Int)), (8, .pointer (some ⟨g8, 0, none⟩)), (7, .pointer (some ⟨g7, 0, none⟩)), (20, .bool false), (6, .bool false), (3, .pointer (some ⟨g3, 0, none⟩)), (1, .int .u8 (way : Int)), (2, .int .i64 n)]) (by kernel_rfl)
  refine cut_seq (fun aS wS => ∃ (D : Bk) (Ad : Option Addr) (cd : Nat), D.Ok ∧ D.fits = false ∧ D.evs.length ≤ 62 ∧ D.evs.length ≤ cd ∧ Fr aS 190 [] [(8, .pointer (some ⟨g8, 0, none⟩)), (7, .pointer (some ⟨g7, 0, none⟩)), (6, .bool false), (2, .int .i64 n)] ∧ Mem w wS [.blk g7 (D.cells Ad cd) 37, .row (.slice Ad D.evs.length cd) D.evs.length (D.evs.flatMap evL) 55 11, .blk g8 #[.int .u8 2, .int .u8 0, .int .i64 0, .int .i64 (1 + pickZ x.b.seq 281474976710657), .slice A27 0 c27] 37]) ?_ ?_
  ·
    refine wp_seq ?_
    refine from_start ?_
    refine from_pures HF 2 0 (j := 2) [(48, .int .u8 (Int.tmod (way : Int) 10)), (47, .int .u8 (way : Int))] (by kernel_rfl) rfl ?_; clear HF; intro a HF
    replace HF := HF.as (t := 48) (u := .int .u8 ((way % 10 : Nat) : Int)) rfl (tmod_nat .u8 _ 10)
    refine from_done rfl ?_
    replace HF := HF.sub (σ' := [(48, .int .u8 ((way % 10 : Nat) : Int)), (9, .int .i64 (es.length : Int)), (8, .pointer (some ⟨g8, 0, none⟩)), (7, .pointer (some ⟨g7, 0, none⟩)), (20, .bool false), (6, .bool false), (3, .pointer (some ⟨g3, 0, none⟩)), (2, .int .i64 n)]) (by kernel_rfl)
    refine wp_block ?_
    refine wp_seq ?_
    refine from_start ?_
    refine from_pures HF 2 0 (j := 2) [(54, .bool ((((way % 10 : Nat) : Int) : Int) == (0 : Int))), (55, .bool ((((way % 10 : Nat) : Int) : Int) == (0 : Int)))] (by kernel_rfl) rfl ?_; clear HF; intro a HF
    refine from_done rfl ?_
    replace HF := HF.sub (σ' := [(54, .bool ((((way % 10 : Nat) : Int) : Int) == (0 : Int))), (48, .int .u8 ((way % 10 : Nat) : Int)), (9, .int .i64 (es.length : Int)), (8, .pointer (some ⟨g8, 0, none⟩)), (7, .pointer (some ⟨g7, 0, none⟩)), (20, .bool false), (6, .bool false), (3, .pointer (some ⟨g3, 0, none⟩)), (2, .int .i64 n)]) (by kernel_rfl)
    rcases Bool.eq_false_or_eq_true ((((way % 10 : Nat) : Int) : Int) == (0 : Int)) with hb54 | hb54
    · have HF := HF.as (t := 54) (u := .bool true) rfl (by rw [hb54])
      have hd54 := eq_of_beq hb54
      refine cond_true HF rfl ?_
      refine from_start ?_
      refine from_pures HF 1 0 (j := 1) [(56, .int .i64 n)] (by kernel_rfl) rfl ?_; clear HF; intro a HF
      refine from_op HF (i := 1) rfl rfl ?_
      refine e_call HF (vs := [.int .i64 n, .int .i64 253]) rfl (by kernel_rfl) (by kernel_rfl) rfl (by decide) (pick_is n 253 hnI (by unfold I64; omega) hkq _) ?_
      rintro _ w57 ⟨rfl, rfl⟩
      refine ⟨_, rfl, ?_⟩
      replace HM := HM
      clear HF; intro a HF
      refine from_pures HF 1 2 (j := 3) [(58, .int .i64 (IntKind.i64.wrap (3 + (kq : Int))))] (by kernel_rfl) rfl ?_; clear HF; intro a HF
      replace HF := HF.as (t := 58) (u := .int .i64 ((3 + kq : Nat) : Int)) rfl (i64_nat (by omega) (by omega))
      refine from_pures HF 1 3 (j := 4) [(59, .int .u8 (IntKind.u8.wrap ((3 + kq : Nat) : Int)))] (by kernel_rfl) rfl ?_; clear HF; intro a HF
      replace HF := HF.as (t := 59) (u := .int .u8 (((3 + kq) % 256 : Nat) : Int)) rfl (u8_mod (3 + kq))
      refine from_pures HF 1 4 (j := 5) [(60, .pointer (some ⟨g7, 0, none⟩))] (by kernel_rfl) rfl ?_; clear HF; intro a HF
      refine from_op HF (i := 5) rfl rfl ?_
      refine e_store HF HM (i := 2) (cs := #[.int .u8 1, .int .u8 ((x.cpu % 64 : Nat) : Int), .int .i64 (lo : Int), .int .i64 0, .slice (some ⟨g41, 0, none⟩) (es.length + 1) c41]) rfl rfl rfl rfl (by kernel_rfl) rfl rfl (by simp) ?_
      clear HM; intro w10_5 HM
      refine from_done rfl ?_
      replace HF := HF.sub (σ' := [(54, .bool true), (48, .int .u8 ((way % 10 : Nat) : Int)), (9, .int .i64 (es.length : Int)), (8, .pointer (some ⟨g8, 0, none⟩)), (7, .pointer (some ⟨g7, 0, none⟩)), (20, .bool false), (6, .bool false), (3, .pointer (some ⟨g3, 0, none⟩)), (2, .int .i64 n)]) (by kernel_rfl)
      rw [show es.length + 1 = (es ++ [pickE (x.cpu % 64)]).length from by simp] at HM
      exact ⟨⟨(3 + kq) % 256, x.cpu % 64, (lo : Int), 0, es ++ [pickE (x.cpu % 64)]⟩, _, _, (snoc_ok (by omega) (by omega) (by unfold I64; omega) (by unfold I64; omega) hok (pickE_ok (by omega))), kind_bad (by show ¬ (3 + kq) % 256 = 1; omega) (by show ¬ (3 + kq) % 256 = 2; omega), by simp; omega, by simp; omega, HF.sub (by kernel_rfl), HM.picks [2, 0, 1] (by decide) rfl⟩
    · have HF := HF.as (t := 54) (u := .bool false) rfl (by rw [hb54])
      have hd54 := ne_of_beq_false hb54
      refine cond_false HF rfl ?_
      refine wp_seq ?_
      refine from_start ?_
      refine from_pures HF 2 0 (j := 2) [(61, .bool ((((way % 10 : Nat) : Int) : Int) == (1 : Int))), (62, .bool ((((way % 10 : Nat) : Int) : Int) == (1 : Int)))] (by kernel_rfl) rfl ?_; clear HF; intro a HF
      refine from_done rfl ?_
      replace HF := HF.sub (σ' := [(61, .bool ((((way % 10 : Nat) : Int) : Int) == (1 : Int))), (54, .bool false), (48, .int .u8 ((way % 10 : Nat) : Int)), (9, .int .i64 (es.length : Int)), (8, .pointer (some ⟨g8, 0, none⟩)), (7, .pointer (some ⟨g7, 0, none⟩)), (20, .bool false), (6, .bool false), (3, .pointer (some ⟨g3, 0, none⟩)), (2, .int .i64 n)]) (by kernel_rfl)
      rcases Bool.eq_false_or_eq_true ((((way % 10 : Nat) : Int) : Int) == (1 : Int)) with hb61 | hb61
      · have HF := HF.as (t := 61) (u := .bool true) rfl (by rw [hb61])
        have hd61 := eq_of_beq hb61
        refine cond_true HF rfl ?_
        refine from_start ?_
        refine from_pures HF 1 0 (j := 1) [(63, .pointer (some ⟨g7, 0, none⟩))] (by kernel_rfl) rfl ?_; clear HF; intro a HF
        refine from_op HF (i := 1) rfl rfl ?_
        refine e_store HF HM (i := 2) (cs := #[.int .u8 1, .int .u8 ((x.cpu % 64 : Nat) : Int), .int .i64 (lo : Int), .int .i64 0, .slice (some ⟨g41, 0, none⟩) (es.length + 1) c41]) rfl rfl rfl rfl (by kernel_rfl) rfl rfl (by simp) ?_
        clear HM; intro w12_1 HM
        refine from_done rfl ?_
        replace HF := HF.sub (σ' := [(61, .bool true), (54, .bool false), (48, .int .u8 ((way % 10 : Nat) : Int)), (9, .int .i64 (es.length : Int)), (8, .pointer (some ⟨g8, 0, none⟩)), (7, .pointer (some ⟨g7, 0, none⟩)), (20, .bool false), (6, .bool false), (3, .pointer (some ⟨g3, 0, none⟩)), (2, .int .i64 n)]) (by kernel_rfl)
        rw [show es.length + 1 = (es ++ [pickE (x.cpu % 64)]).length from by simp] at HM
        exact ⟨⟨0, x.cpu % 64, (lo : Int), 0, es ++ [pickE (x.cpu % 64)]⟩, _, _, (snoc_ok (by omega) (by omega) (by unfold I64; omega) (by unfold I64; omega) hok (pickE_ok (by omega))), kind_bad (by show ¬ 0 = 1; decide) (by show ¬ 0 = 2; decide), by simp; omega, by simp; omega, HF.sub (by kernel_rfl), HM.picks [2, 0, 1] (by decide) rfl⟩
      · have HF := HF.as (t := 61) (u := .bool false) rfl (by rw [hb61])
        have hd61 := ne_of_beq_false hb61
        refine cond_false HF rfl ?_
        refine wp_seq ?_
        refine from_start ?_
        refine from_pures HF 2 0 (j := 2) [(64, .bool ((((way % 10 : Nat) : Int) : Int) == (2 : Int))), (65, .bool ((((way % 10 : Nat) : Int) : Int) == (2 : Int)))] (by kernel_rfl) rfl ?_; clear HF; intro a HF
        refine from_done rfl ?_
        replace HF := HF.sub (σ' := [(64, .bool ((((way % 10 : Nat) : Int) : Int) == (2 : Int))), (61, .bool false), (54, .bool false), (48, .int .u8 ((way % 10 : Nat) : Int)), (9, .int .i64 (es.length : Int)), (8, .pointer (some ⟨g8, 0, none⟩)), (7, .pointer (some ⟨g7, 0, none⟩)), (20, .bool false), (6, .bool false), (3, .pointer (some ⟨g3, 0, none⟩)), (2, .int .i64 n)]) (by kernel_rfl)
        rcases Bool.eq_false_or_eq_true ((((way % 10 : Nat) : Int) : Int) == (2 : Int)) with hb64 | hb64
        · have HF := HF.as (t := 64) (u := .bool true) rfl (by rw [hb64])
          have hd64 := eq_of_beq hb64
          refine cond_true HF rfl ?_
          refine from_start ?_
          refine from_pures HF 1 0 (j := 1) [(66, .pointer (some ⟨g7, 1, none⟩))] (by kernel_rfl) rfl ?_; clear HF; intro a HF
          refine from_yl (S := fun wS => Mem w wS _) HF HM (i := 1) rfl rfl (d := 67) rfl (by decide) (v := .int .u8 ((x.cpu % 64 : Nat) : Int)) (Yl.load1 rfl rfl (by kernel_rfl) (fun _ h => h.cell (i := 2) rfl rfl)) ?_; clear HF; intro a HF
          refine from_pures HF 1 2 (j := 3) [(68, .int .u8 (IntKind.u8.wrap (64 + ((x.cpu % 64 : Nat) : Int))))] (by kernel_rfl) rfl ?_; clear HF; intro a HF
          replace HF := HF.as (t := 68) (u := .int .u8 ((64 + (x.cpu % 64) : Nat) : Int)) rfl (u8_nat (by omega) (by omega))
          refine from_pures HF 1 3 (j := 4) [(69, .pointer (some ⟨g7, 1, none⟩))] (by kernel_rfl) rfl ?_; clear HF; intro a HF
          refine from_op HF (i := 4) rfl rfl ?_
          refine e_store HF HM (i := 2) (cs := #[.int .u8 1, .int .u8 ((x.cpu % 64 : Nat) : Int), .int .i64 (lo : Int), .int .i64 0, .slice (some ⟨g41, 0, none⟩) (es.length + 1) c41]) rfl rfl rfl rfl (by kernel_rfl) rfl rfl (by simp) ?_
          clear HM; intro w14_4 HM
          refine from_done rfl ?_
          replace HF := HF.sub (σ' := [(64, .bool true), (61, .bool false), (54, .bool false), (48, .int .u8 ((way % 10 : Nat) : Int)), (9, .int .i64 (es.length : Int)), (8, .pointer (some ⟨g8, 0, none⟩)), (7, .pointer (some ⟨g7, 0, none⟩)), (20, .bool false), (6, .bool false), (3, .pointer (some ⟨g3, 0, none⟩)), (2, .int .i64 n)]) (by kernel_rfl)
          rw [show es.length + 1 = (es ++ [pickE (x.cpu % 64)]).length from by simp] at HM
          exact ⟨⟨1, 64 + (x.cpu % 64), (lo : Int), 0, es ++ [pickE (x.cpu % 64)]⟩, _, _, (snoc_ok (by omega) (by omega) (by unfold I64; omega) (by unfold I64; omega) hok (pickE_ok (by omega))), num_bad rfl (fun h => by have h1 : 64 + x.cpu % 64 < 64 := h.1; omega), by simp; omega, by simp; omega, HF.sub (by kernel_rfl), HM.picks [2, 0, 1] (by decide) rfl⟩
        · have HF := HF.as (t := 64) (u := .bool false) rfl (by rw [hb64])
          have hd64 := ne_of_beq_false hb64
          refine cond_false HF rfl ?_
          refine wp_seq ?_
          refine from_start ?_
          refine from_pures HF 2 0 (j := 2) [(70, .bool ((((way % 10 : Nat) : Int) : Int) == (3 : Int))), (71, .bool ((((way % 10 : Nat) : Int) : Int) == (3 : Int)))] (by kernel_rfl) rfl ?_; clear HF; intro a HF
          refine from_done rfl ?_
          replace HF := HF.sub (σ' := [(70, .bool ((((way % 10 : Nat) : Int) : Int) == (3 : Int))), (64, .bool false), (61, .bool false), (54, .bool false), (48, .int .u8 ((way % 10 : Nat) : Int)), (9, .int .i64 (es.length : Int)), (8, .pointer (some ⟨g8, 0, none⟩)), (7, .pointer (some ⟨g7, 0, none⟩)), (20, .bool false), (6, .bool false), (3, .pointer (some ⟨g3, 0, none⟩)), (2, .int .i64 n)]) (by kernel_rfl)
          rcases Bool.eq_false_or_eq_true ((((way % 10 : Nat) : Int) : Int) == (3 : Int)) with hb70 | hb70
          · have HF := HF.as (t := 70) (u := .bool true) rfl (by rw [hb70])
            have hd70 := eq_of_beq hb70
            refine cond_true HF rfl ?_
            refine from_start ?_
            refine from_pures HF 1 0 (j := 1) [(72, .int .i64 n)] (by kernel_rfl) rfl ?_; clear HF; intro a HF
            refine from_yl (S := fun wS => Mem w wS _) HF HM (i := 1) rfl rfl (d := 73) rfl (by decide) (v := .int .i64 (if (-1 : Int) < (n : Int) then -1 else n)) (Yl.min rfl rfl rfl) ?_; clear HF; intro a HF
            refine from_pures HF 1 2 (j := 3) [(74, .pointer (some ⟨g7, 2, none⟩))] (by kernel_rfl) rfl ?_; clear HF; intro a HF
            refine from_op HF (i := 3) rfl rfl ?_
            refine e_store HF HM (i := 2) (cs := #[.int .u8 1, .int .u8 ((x.cpu % 64 : Nat) : Int), .int .i64 (lo : Int), .int .i64 0, .slice (some ⟨g41, 0, none⟩) (es.length + 1) c41]) rfl rfl rfl rfl (by kernel_rfl) rfl rfl (by simp) ?_
            clear HM; intro w16_3 HM
            refine from_done rfl ?_
            replace HF := HF.sub (σ' := [(70, .bool true), (64, .bool false), (61, .bool false), (54, .bool false), (48, .int .u8 ((way % 10 : Nat) : Int)), (9, .int .i64 (es.length : Int)), (8, .pointer (some ⟨g8, 0, none⟩)), (7, .pointer (some ⟨g7, 0, none⟩)), (20, .bool false), (6, .bool false), (3, .pointer (some ⟨g3, 0, none⟩)), (2, .int .i64 n)]) (by kernel_rfl)
            rw [show es.length + 1 = (es ++ [pickE (x.cpu % 64)]).length from by simp] at HM
            exact ⟨⟨1, x.cpu % 64, if (-1 : Int) < (n : Int) then -1 else n, 0, es ++ [pickE (x.cpu % 64)]⟩, _, _, (snoc_ok (by omega) (by omega) (by unfold I64 at hnI ⊢; split <;> omega) (by unfold I64; omega) hok (pickE_ok (by omega))), num_bad rfl (fun h => by have h1 := h.2.1; simp only at h1; split at h1 <;> omega), by simp; omega, by simp; omega, HF.sub (by kernel_rfl), HM.picks [2, 0, 1] (by decide) rfl⟩
          · have HF := HF.as (t := 70) (u := .bool false) rfl (by rw [hb70])
            have hd70 := ne_of_beq_false hb70
            refine cond_false HF rfl ?_
            refine wp_seq ?_
            refine from_start ?_
            refine from_pures HF 2 0 (j := 2) [(75, .bool ((((way % 10 : Nat) : Int) : Int) == (4 : Int))), (76, .bool ((((way % 10 : Nat) : Int) : Int) == (4 : Int)))] (by kernel_rfl) rfl ?_; clear HF; intro a HF
            refine from_done rfl ?_
            replace HF := HF.sub (σ' := [(75, .bool ((((way % 10 : Nat) : Int) : Int) == (4 : Int))), (70, .bool false), (64, .bool false), (61, .bool false), (54, .bool false), (48, .int .u8 ((way % 10 : Nat) : Int)), (9, .int .i64 (es.length : Int)), (8, .pointer (some ⟨g8, 0, none⟩)), (7, .pointer (some ⟨g7, 0, none⟩)), (20, .bool false), (6, .bool false), (3, .pointer (some ⟨g3, 0, none⟩)), (2, .int .i64 n)]) (by kernel_rfl)
            rcases Bool.eq_false_or_eq_true ((((way % 10 : Nat) : Int) : Int) == (4 : Int)) with hb75 | hb75
            · have HF := HF.as (t := 75) (u := .bool true) rfl (by rw [hb75])
              have hd75 := eq_of_beq hb75
              refine cond_true HF rfl ?_
              refine from_start ?_
              refine from_pures HF 1 0 (j := 1) [(77, .int .i64 n)] (by kernel_rfl) rfl ?_; clear HF; intro a HF
              refine from_yl (S := fun wS => Mem w wS _) HF HM (i := 1) rfl rfl (d := 78) rfl (by decide) (v := .int .i64 (if (281474976710657 : Int) > (n : Int) then 281474976710657 else n)) (Yl.max rfl rfl rfl) ?_; clear HF; intro a HF
              refine from_pures HF 1 2 (j := 3) [(79, .pointer (some ⟨g7, 2, none⟩))] (by kernel_rfl) rfl ?_; clear HF; intro a HF
              refine from_op HF (i := 3) rfl rfl ?_
              refine e_store HF HM (i := 2) (cs := #[.int .u8 1, .int .u8 ((x.cpu % 64 : Nat) : Int), .int .i64 (lo : Int), .int .i64 0, .slice (some ⟨g41, 0, none⟩) (es.length + 1) c41]) rfl rfl rfl rfl (by kernel_rfl) rfl rfl (by simp) ?_
              clear HM; intro w18_3 HM
              refine from_done rfl ?_
              replace HF := HF.sub (σ' := [(75, .bool true), (70, .bool false), (64, .bool false), (61, .bool false), (54, .bool false), (48, .int .u8 ((way % 10 : Nat) : Int)), (9, .int .i64 (es.length : Int)), (8, .pointer (some ⟨g8, 0, none⟩)), (7, .pointer (some ⟨g7, 0, none⟩)), (20, .bool false), (6, .bool false), (3, .pointer (some ⟨g3, 0, none⟩)), (2, .int .i64 n)]) (by kernel_rfl)
              rw [show es.length + 1 = (es ++ [pickE (x.cpu % 64)]).length from by simp] at HM
              exact ⟨⟨1, x.cpu % 64, if (281474976710657 : Int) > (n : Int) then 281474976710657 else n, 0, es ++ [pickE (x.cpu % 64)]⟩, _, _, (snoc_ok (by omega) (by omega) (by unfold I64 at hnI ⊢; split <;> omega) (by unfold I64; omega) hok (pickE_ok (by omega))), num_bad rfl (fun h => by have h1 := h.2.2.1; simp only at h1; split at h1 <;> omega), by simp; omega, by simp; omega, HF.sub (by kernel_rfl), HM.picks [2, 0, 1] (by decide) rfl⟩
            · have HF := HF.as (t := 75) (u := .bool false) rfl (by rw [hb75])
              have hd75 := ne_of_beq_false hb75
              refine cond_false HF rfl ?_
              refine wp_seq ?_
              refine from_start ?_
              refine from_pures HF 2 0 (j := 2) [(80, .bool ((((way % 10 : Nat) : Int) : Int) == (5 : Int))), (81, .bool ((((way % 10 : Nat) : Int) : Int) == (5 : Int)))] (by kernel_rfl) rfl ?_; clear HF; intro a HF
              refine from_done rfl ?_
              replace HF := HF.sub (σ' := [(80, .bool ((((way % 10 : Nat) : Int) : Int) == (5 : Int))), (75, .bool false), (70, .bool false), (64, .bool false), (61, .bool false), (54, .bool false), (48, .int .u8 ((way % 10 : Nat) : Int)), (9, .int .i64 (es.length : Int)), (8, .pointer (some ⟨g8, 0, none⟩)), (7, .pointer (some ⟨g7, 0, none⟩)), (20, .bool false), (6, .bool false), (3, .pointer (some ⟨g3, 0, none⟩)), (2, .int .i64 n)]) (by kernel_rfl)
              rcases Bool.eq_false_or_eq_true ((((way % 10 : Nat) : Int) : Int) == (5 : Int)) with hb80 | hb80
              · have HF := HF.as (t := 80) (u := .bool true) rfl (by rw [hb80])
                have hd80 := eq_of_beq hb80
                refine cond_true HF rfl ?_
                refine from_start ?_
                refine from_pures HF 1 0 (j := 1) [(82, .int .i64 n)] (by kernel_rfl) rfl ?_; clear HF; intro a HF
                refine from_yl (S := fun wS => Mem w wS _) HF HM (i := 1) rfl rfl (d := 83) rfl (by decide) (v := .int .i64 (if (1 : Int) > (n : Int) then 1 else n)) (Yl.max rfl rfl rfl) ?_; clear HF; intro a HF
                refine from_pures HF 1 2 (j := 3) [(84, .pointer (some ⟨g7, 3, none⟩))] (by kernel_rfl) rfl ?_; clear HF; intro a HF
                refine from_op HF (i := 3) rfl rfl ?_
                refine e_store HF HM (i := 2) (cs := #[.int .u8 1, .int .u8 ((x.cpu % 64 : Nat) : Int), .int .i64 (lo : Int), .int .i64 0, .slice (some ⟨g41, 0, none⟩) (es.length + 1) c41]) rfl rfl rfl rfl (by kernel_rfl) rfl rfl (by simp) ?_
                clear HM; intro w20_3 HM
                refine from_done rfl ?_
                replace HF := HF.sub (σ' := [(80, .bool true), (75, .bool false), (70, .bool false), (64, .bool false), (61, .bool false), (54, .bool false), (48, .int .u8 ((way % 10 : Nat) : Int)), (9, .int .i64 (es.length : Int)), (8, .pointer (some ⟨g8, 0, none⟩)), (7, .pointer (some ⟨g7, 0, none⟩)), (20, .bool false), (6, .bool false), (3, .pointer (some ⟨g3, 0, none⟩)), (2, .int .i64 n)]) (by kernel_rfl)
                rw [show es.length + 1 = (es ++ [pickE (x.cpu % 64)]).length from by simp] at HM
                exact ⟨⟨1, x.cpu % 64, (lo : Int), if (1 : Int) > (n : Int) then 1 else n, es ++ [pickE (x.cpu % 64)]⟩, _, _, (snoc_ok (by omega) (by omega) (by unfold I64; omega) (by unfold I64 at hnI ⊢; split <;> omega) hok (pickE_ok (by omega))), num_bad rfl (fun h => by have h1 := h.2.2.2; simp only at h1; split at h1 <;> omega), by simp; omega, by simp; omega, HF.sub (by kernel_rfl), HM.picks [2, 0, 1] (by decide) rfl⟩
              · have HF := HF.as (t := 80) (u := .bool false) rfl (by rw [hb80])
                have hd80 := ne_of_beq_false hb80
                refine cond_false HF rfl ?_
                refine wp_seq ?_
                refine from_start ?_
                refine from_pures HF 2 0 (j := 2) [(85, .bool ((((way % 10 : Nat) : Int) : Int) == (6 : Int))), (86, .bool ((((way % 10 : Nat) : Int) : Int) == (6 : Int)))] (by kernel_rfl) rfl ?_; clear HF; intro a HF
                refine from_done rfl ?_
                replace HF := HF.sub (σ' := [(85, .bool ((((way % 10 : Nat) : Int) : Int) == (6 : Int))), (80, .bool false), (75, .bool false), (70, .bool false), (64, .bool false), (61, .bool false), (54, .bool false), (48, .int .u8 ((way % 10 : Nat) : Int)), (9, .int .i64 (es.length : Int)), (8, .pointer (some ⟨g8, 0, none⟩)), (7, .pointer (some ⟨g7, 0, none⟩)), (20, .bool false), (6, .bool false), (3, .pointer (some ⟨g3, 0, none⟩)), (2, .int .i64 n)]) (by kernel_rfl)
                rcases Bool.eq_false_or_eq_true ((((way % 10 : Nat) : Int) : Int) == (6 : Int)) with hb85 | hb85
                · have HF := HF.as (t := 85) (u := .bool true) rfl (by rw [hb85])
                  have hd85 := eq_of_beq hb85
                  refine cond_true HF rfl ?_
                  refine from_start ?_
                  refine from_pures HF 1 0 (j := 1) [(87, .pointer (some ⟨g7, 4, none⟩))] (by kernel_rfl) rfl ?_; clear HF; intro a HF
                  refine from_yl (S := fun wS => Mem w wS _) HF HM (i := 1) rfl rfl (d := 88) rfl (by decide) (v := .slice (some ⟨g41, 0, none⟩) (es.length + 1) c41) (Yl.load1 rfl rfl (by kernel_rfl) (fun _ h => h.cell (i := 2) rfl rfl)) ?_; clear HF; intro a HF
                  refine from_pures HF 2 2 (j := 4) [(90, .pointer (some ⟨g7, 1, none⟩)), (89, .int .i64 (es.length : Int))] (by kernel_rfl) rfl ?_; clear HF; intro a HF
                  refine from_yl (S := fun wS => Mem w wS _) HF HM (i := 4) rfl rfl (d := 91) rfl (by decide) (v := .int .u8 ((x.cpu % 64 : Nat) : Int)) (Yl.load1 rfl rfl (by kernel_rfl) (fun _ h => h.cell (i := 2) rfl rfl)) ?_; clear HF; intro a HF
                  refine from_pures HF 1 5 (j := 6) [(92, .int .u8 (IntKind.u8.wrap (((x.cpu % 64 : Nat) : Int) + 1)))] (by kernel_rfl) rfl ?_; clear HF; intro a HF
                  replace HF := HF.as (t := 92) (u := .int .u8 ((x.cpu % 64 + 1 : Nat) : Int)) rfl (u8_nat (by omega) (by omega))
                  refine from_pures HF 1 6 (j := 7) [(93, .int .u8 (Int.tmod ((x.cpu % 64 + 1 : Nat) : Int) 64))] (by kernel_rfl) rfl ?_; clear HF; intro a HF
                  replace HF := HF.as (t := 93) (u := .int .u8 (((x.cpu % 64 + 1) % 64 : Nat) : Int)) rfl (tmod_nat .u8 _ 64)
                  refine from_yl (S := fun wS => Mem w wS _) HF HM (i := 7) rfl rfl (d := 94) rfl (by decide) (v := .pointer (some ⟨g41, es.length * 11, none⟩)) ((Yl.indexAddr (ad := ⟨g41, 0, none⟩) (y := es.length) (sz := 11) rfl rfl rfl (by omega) (by kernel_rfl)).as (by rw [Addr.add_mid, Nat.zero_add])) ?_; clear HF; intro a HF
                  refine from_pures HF 1 8 (j := 9) [(95, .pointer (some ⟨g41, es.length * 11 + 2, none⟩))] (by kernel_rfl) rfl ?_; clear HF; intro a HF
                  refine from_op HF (i := 9) rfl rfl ?_
                  refine e_storeRow HF HM (i := 0) rfl rfl rfl rfl (by kernel_rfl) rfl rfl (by simp only [flat_len evL 11 evL_len, List.length_append, List.length_cons, List.length_nil]; omega) ?_
                  clear HM; intro w22_9 HM
                  replace HM := HM.asRow (i := 0) (ys := (es ++ [pickE ((x.cpu % 64 + 1) % 64)]).flatMap evL) rfl (put_last es _ _ (by rfl) (by decide))
                  refine from_done rfl ?_
                  replace HF := HF.sub (σ' := [(85, .bool true), (80, .bool false), (75, .bool false), (70, .bool false), (64, .bool false), (61, .bool false), (54, .bool false), (48, .int .u8 ((way % 10 : Nat) : Int)), (9, .int .i64 (es.length : Int)), (8, .pointer (some ⟨g8, 0, none⟩)), (7, .pointer (some ⟨g7, 0, none⟩)), (20, .bool false), (6, .bool false), (3, .pointer (some ⟨g3, 0, none⟩)), (2, .int .i64 n)]) (by kernel_rfl)
                  rw [show es.length + 1 = (es ++ [pickE ((x.cpu % 64 + 1) % 64)]).length from by simp] at HM
                  exact ⟨⟨1, x.cpu % 64, (lo : Int), 0, es ++ [pickE ((x.cpu % 64 + 1) % 64)]⟩, _, _, (snoc_ok (k := 1) (c := (x.cpu % 64)) (lo := (lo : Int)) (nx := 0) (es := es) (by omega) (by omega) (by unfold I64; omega) (by unfold I64; omega) hok (pickE_ok (cpu := ((x.cpu % 64 + 1) % 64)) (by omega))), cpu_bad (snoc_ok (k := 1) (c := (x.cpu % 64)) (lo := (lo : Int)) (nx := 0) (es := es) (by omega) (by omega) (by unfold I64; omega) (by unfold I64; omega) hok (pickE_ok (cpu := ((x.cpu % 64 + 1) % 64)) (by omega))) rfl (e := pickE ((x.cpu % 64 + 1) % 64)) (by simp) (by show ¬ ((x.cpu % 64 + 1) % 64) = x.cpu % 64; omega), by simp; omega, by simp; omega, HF.sub (by kernel_rfl), HM.picks [2, 0, 1] (by decide) rfl⟩
                · have HF := HF.as (t := 85) (u := .bool false) rfl (by rw [hb85])
                  have hd85 := ne_of_beq_false hb85
                  refine cond_false HF rfl ?_
                  refine wp_seq ?_
                  refine from_start ?_
                  refine from_pures HF 2 0 (j := 2) [(96, .bool ((((way % 10 : Nat) : Int) : Int) == (7 : Int))), (97, .bool ((((way % 10 : Nat) : Int) : Int) == (7 : Int)))] (by kernel_rfl) rfl ?_; clear HF; intro a HF
                  refine from_done rfl ?_
                  replace HF := HF.sub (σ' := [(96, .bool ((((way % 10 : Nat) : Int) : Int) == (7 : Int))), (85, .bool false), (80, .bool false), (75, .bool false), (70, .bool false), (64, .bool false), (61, .bool false), (54, .bool false), (48, .int .u8 ((way % 10 : Nat) : Int)), (9, .int .i64 (es.length : Int)), (8, .pointer (some ⟨g8, 0, none⟩)), (7, .pointer (some ⟨g7, 0, none⟩)), (20, .bool false), (6, .bool false), (3, .pointer (some ⟨g3, 0, none⟩)), (2, .int .i64 n)]) (by kernel_rfl)
                  rcases Bool.eq_false_or_eq_true ((((way % 10 : Nat) : Int) : Int) == (7 : Int)) with hb96 | hb96
                  · have HF := HF.as (t := 96) (u := .bool true) rfl (by rw [hb96])
                    have hd96 := eq_of_beq hb96
                    refine cond_true HF rfl ?_
                    refine any_start (by kernel_rfl) (fun wS => Mem w wS [.blk g8 #[.int .u8 2, .int .u8 0, .int .i64 0, .int .i64 (1 + pickZ x.b.seq 281474976710657), .slice A27 0 c27] 37, .blk g7 #[.int .u8 1, .int .u8 ((x.cpu % 64 : Nat) : Int), .int .i64 (lo : Int), .int .i64 0, .slice (some ⟨g41, 0, none⟩) (es.length + 1) c41] 37, .row (.slice A23 es.length c23) es.length (es.flatMap evL) 55 11, .blk g3 #[.bool false, .int .u8 (x.cpu : Int), .int .u32 (x.lost : Int), .int .i64 x.b.seq, .int .i64 x.b.time, .slice A x.l.length c] 30]) [10] ?_
                    replace HM := HM.drew
                    have HS := HM.picks (fs' := [.blk g8 #[.int .u8 2, .int .u8 0, .int .i64 0, .int .i64 (1 + pickZ x.b.seq 281474976710657), .slice A27 0 c27] 37, .blk g7 #[.int .u8 1, .int .u8 ((x.cpu % 64 : Nat) : Int), .int .i64 (lo : Int), .int .i64 0, .slice (some ⟨g41, 0, none⟩) (es.length + 1) c41] 37, .row (.slice A23 es.length c23) es.length (es.flatMap evL) 55 11, .blk g3 #[.bool false, .int .u8 (x.cpu : Int), .int .u32 (x.lost : Int), .int .i64 x.b.seq, .int .i64 x.b.time, .slice A x.l.length c] 30]) [1, 2, 3, 4] (by decide) rfl
                    refine any_pures HF (fun _ => HS) (fun _ _ d _ _ h => by cases d <;> exact h) [0, 2, 4] #[true, false, true, false, true, false, false, false, false, false, false] [(102, .int .i64 (es.length : Int)), (100, .pointer (some ⟨g7, 4, none⟩)), (98, .pointer (some ⟨g7, 4, none⟩))] (by kernel_rfl) ?_; clear HF; intro a HF
                    refine any_yl HF HS (i := 1) rfl rfl (d := 99) rfl (by decide) (by kernel_rfl) (fun _ _ _ h => h) (v := .slice (some ⟨g41, 0, none⟩) (es.length + 1) c41) (Yl.load1 rfl rfl (by kernel_rfl) (fun _ h => h.cell (i := 1) rfl rfl)) ?_; clear HF; intro a HF
                    refine any_yl HF HS (i := 3) rfl rfl (d := 101) rfl (by decide) (by kernel_rfl) (fun _ _ _ h => h) (v := .slice (some ⟨g41, 0, none⟩) (es.length + 1) c41) (Yl.load1 rfl rfl (by kernel_rfl) (fun _ h => h.cell (i := 1) rfl rfl)) ?_; clear HF; intro a HF
                    refine any_yl HF HS (i := 5) rfl rfl (d := 103) rfl (by decide) (by kernel_rfl) (fun _ _ _ h => h) (v := .pointer (some ⟨g41, es.length * 11, none⟩)) ((Yl.indexAddr (ad := ⟨g41, 0, none⟩) (y := es.length) (sz := 11) rfl rfl rfl (by omega) (by kernel_rfl)).as (by rw [Addr.add_mid, Nat.zero_add])) ?_; clear HF; intro a HF
                    refine any_all [6] (by kernel_rfl) rfl ?_
                    refine all_cons ?_ all_nil
                    refine any_op HF (i := 6) rfl rfl ?_
                    refine Yl.wp (S := fun wS => Mem w wS _) (v := .agg ((pickE (x.cpu % 64)).cells)) (Yl.loadS rfl rfl ⟨(by kernel_rfl), (by kernel_rfl)⟩ rfl (fun _ h => h.rowStruct evL_len (i := 0) rfl (k := es.length) List.getElem?_concat_length)) HF HM rfl (by decide) ?_; clear HF; intro a HF
                    refine keepS HS (fun HS => ?_)
                    refine any_all [7] (by kernel_rfl) rfl ?_
                    refine all_cons ?_ all_nil
                    refine any_op HF (i := 7) rfl rfl ?_
                    refine e_slice HF HM (vs := [(0, .agg ((pickE (x.cpu % 64)).cells))]) (cs := (pickE (x.cpu % 64)).cells) rfl ei_ev (by decide) rfl (by kernel_rfl) rfl (by decide) ?_
                    clear HF HM; intro a w105 g105 HF HM
                    refine keepS (HM.picks [2, 3, 4, 5] (by decide) rfl) (fun HS => ?_)
                    refine any_all [8] (by kernel_rfl) rfl ?_
                    refine all_cons ?_ all_nil
                    refine any_op HF (i := 8) rfl rfl ?_
                    refine e_append HF HM (i := 1) rfl ei_ev rfl rfl rfl (news := (evL (pickE (x.cpu % 64)))) (HM.rdBlk (i := 0) (n := 1) (size := 11) rfl rfl) (ev_one _) (by omega) (by omega) rfl (by decide) ?_
                    clear HF HM; intro a w106 A106 c106 HF HM hc106
                    rw [show ((es ++ [pickE (x.cpu % 64)]).flatMap evL) ++ (evL (pickE (x.cpu % 64))) = (es ++ [pickE (x.cpu % 64), pickE (x.cpu % 64)]).flatMap evL from by simp] at HM
                    refine keepS (HM.picks [2, 3, 4, 5] (by decide) rfl) (fun HS => ?_)
                    refine any_pures HF (fun _ => HS) (fun _ _ d _ _ h => by cases d <;> exact h) [9] #[true, true, true, true, true, true, true, true, true, true, false] [(107, .pointer (some ⟨g7, 4, none⟩))] (by kernel_rfl) ?_; clear HF; intro a HF
                    refine any_all [10] (by kernel_rfl) rfl ?_
                    refine all_cons ?_ all_nil
                    refine any_op HF (i := 10) rfl rfl ?_
                    refine e_store HF HM (i := 3) (cs := #[.int .u8 1, .int .u8 ((x.cpu % 64 : Nat) : Int), .int .i64 (lo : Int), .int .i64 0, .slice (some ⟨g41, 0, none⟩) (es.length + 1) c41]) rfl rfl rfl rfl (by kernel_rfl) rfl rfl (by simp) ?_
                    clear HM; intro w24_10 HM
                    refine noS (by kernel_rfl) ?_
                    refine any_done (by kernel_rfl) ?_
                    replace HF := HF.sub (σ' := [(96, .bool true), (85, .bool false), (80, .bool false), (75, .bool false), (70, .bool false), (64, .bool false), (61, .bool false), (54, .bool false), (48, .int .u8 ((way % 10 : Nat) : Int)), (9, .int .i64 (es.length : Int)), (8, .pointer (some ⟨g8, 0, none⟩)), (7, .pointer (some ⟨g7, 0, none⟩)), (20, .bool false), (6, .bool false), (3, .pointer (some ⟨g3, 0, none⟩)), (2, .int .i64 n)]) (by kernel_rfl)
                    replace HM := HM.picks (fs' := [.row (.slice A106 (es.length + 1 + 1) c106) (es.length + 1 + 1) ((es ++ [pickE (x.cpu % 64), pickE (x.cpu % 64)]).flatMap evL) 55 11, .blk g8 #[.int .u8 2, .int .u8 0, .int .i64 0, .int .i64 (1 + pickZ x.b.seq 281474976710657), .slice A27 0 c27] 37, .blk g7 #[.int .u8 1, .int .u8 ((x.cpu % 64 : Nat) : Int), .int .i64 (lo : Int), .int .i64 0, .slice A106 (es.length + 1 + 1) c106] 37, .row (.slice A23 es.length c23) es.length (es.flatMap evL) 55 11, .blk g3 #[.bool false, .int .u8 (x.cpu : Int), .int .u32 (x.lost : Int), .int .i64 x.b.seq, .int .i64 x.b.time, .slice A x.l.length c] 30]) [1, 2, 3, 4, 5] (by decide) rfl
                    rw [show es.length + 1 + 1 = (es ++ [pickE (x.cpu % 64), pickE (x.cpu % 64)]).length from by simp] at HM
                    exact ⟨⟨1, x.cpu % 64, (lo : Int), 0, es ++ [pickE (x.cpu % 64), pickE (x.cpu % 64)]⟩, _, _, (snoc2_ok (k := 1) (c := (x.cpu % 64)) (lo := (lo : Int)) (nx := 0) (es := es) (by omega) (by omega) (by unfold I64; omega) (by unfold I64; omega) hok (pickE_ok (cpu := (x.cpu % 64)) (by omega))), two_bad (snoc2_ok (k := 1) (c := (x.cpu % 64)) (lo := (lo : Int)) (nx := 0) (es := es) (by omega) (by omega) (by unfold I64; omega) (by unfold I64; omega) hok (pickE_ok (cpu := (x.cpu % 64)) (by omega))) rfl rfl (Int.lt_irrefl _), by simp; omega, by simp; omega, HF.sub (by kernel_rfl), HM.picks [2, 0, 1] (by decide) rfl⟩
                  · have HF := HF.as (t := 96) (u := .bool false) rfl (by rw [hb96])
                    have hd96 := ne_of_beq_false hb96
                    refine cond_false HF rfl ?_
                    refine wp_seq ?_
                    refine from_start ?_
                    refine from_pures HF 2 0 (j := 2) [(108, .bool ((((way % 10 : Nat) : Int) : Int) == (8 : Int))), (109, .bool ((((way % 10 : Nat) : Int) : Int) == (8 : Int)))] (by kernel_rfl) rfl ?_; clear HF; intro a HF
                    refine from_done rfl ?_
                    replace HF := HF.sub (σ' := [(108, .bool ((((way % 10 : Nat) : Int) : Int) == (8 : Int))), (96, .bool false), (85, .bool false), (80, .bool false), (75, .bool false), (70, .bool false), (64, .bool false), (61, .bool false), (54, .bool false), (48, .int .u8 ((way % 10 : Nat) : Int)), (9, .int .i64 (es.length : Int)), (8, .pointer (some ⟨g8, 0, none⟩)), (7, .pointer (some ⟨g7, 0, none⟩)), (20, .bool false), (6, .bool false), (3, .pointer (some ⟨g3, 0, none⟩)), (2, .int .i64 n)]) (by kernel_rfl)
                    rcases Bool.eq_false_or_eq_true ((((way % 10 : Nat) : Int) : Int) == (8 : Int)) with hb108 | hb108
                    · have HF := HF.as (t := 108) (u := .bool true) rfl (by rw [hb108])
                      have hd108 := eq_of_beq hb108
                      refine cond_true HF rfl ?_
                      refine from_start ?_
                      refine from_pures HF 1 0 (j := 1) [(110, .pointer (some ⟨g7, 4, none⟩))] (by kernel_rfl) rfl ?_; clear HF; intro a HF
                      refine from_op HF (i := 1) rfl rfl ?_
                      refine e_store HF HM (i := 2) (cs := #[.int .u8 1, .int .u8 ((x.cpu % 64 : Nat) : Int), .int .i64 (lo : Int), .int .i64 0, .slice (some ⟨g41, 0, none⟩) (es.length + 1) c41]) rfl rfl rfl rfl (by kernel_rfl) rfl rfl (by simp) ?_
                      clear HM; intro w26_1 HM
                      refine from_pures HF 1 2 (j := 3) [(111, .pointer (some ⟨g7, 2, none⟩))] (by kernel_rfl) rfl ?_; clear HF; intro a HF
                      refine from_op HF (i := 3) rfl rfl ?_
                      refine e_store HF HM (i := 2) (cs := #[.int .u8 1, .int .u8 ((x.cpu % 64 : Nat) : Int), .int .i64 (lo : Int), .int .i64 0, .slice none 0 0]) rfl rfl rfl rfl (by kernel_rfl) rfl rfl (by simp) ?_
                      clear HM; intro w26_3 HM
                      refine from_done rfl ?_
                      replace HF := HF.sub (σ' := [(108, .bool true), (96, .bool false), (85, .bool false), (80, .bool false), (75, .bool false), (70, .bool false), (64, .bool false), (61, .bool false), (54, .bool false), (48, .int .u8 ((way % 10 : Nat) : Int)), (9, .int .i64 (es.length : Int)), (8, .pointer (some ⟨g8, 0, none⟩)), (7, .pointer (some ⟨g7, 0, none⟩)), (20, .bool false), (6, .bool false), (3, .pointer (some ⟨g3, 0, none⟩)), (2, .int .i64 n)]) (by kernel_rfl)
                      replace HM := HM.nil 55 11
                      exact ⟨⟨1, x.cpu % 64, 0, 0, []⟩, _, _, (numOk 1 (x.cpu % 64) 0 0 (by decide) (by omega) (by unfold I64; omega) (by unfold I64; omega)), nil_bad rfl rfl (Int.le_refl 0), Nat.zero_le _, Nat.zero_le _, HF.sub (by kernel_rfl), HM.picks [3, 0, 2] (by decide) rfl⟩
                    · have HF := HF.as (t := 108) (u := .bool false) rfl (by rw [hb108])
                      have hd108 := ne_of_beq_false hb108
                      refine cond_false HF rfl ?_
                      refine from_start ?_
                      refine from_pures HF 1 0 (j := 1) [(49, .pointer (some ⟨g7, 4, none⟩))] (by kernel_rfl) rfl ?_; clear HF; intro a HF
                      refine from_yl (S := fun wS => Mem w wS _) HF HM (i := 1) rfl rfl (d := 50) rfl (by decide) (v := .slice (some ⟨g41, 0, none⟩) (es.length + 1) c41) (Yl.load1 rfl rfl (by kernel_rfl) (fun _ h => h.cell (i := 2) rfl rfl)) ?_; clear HF; intro a HF
                      refine from_pures HF 1 2 (j := 3) [(51, .int .i64 (es.length : Int))] (by kernel_rfl) rfl ?_; clear HF; intro a HF
                      refine from_yl (S := fun wS => Mem w wS _) HF HM (i := 3) rfl rfl (d := 52) rfl (by decide) (v := .pointer (some ⟨g41, es.length * 11, none⟩)) ((Yl.indexAddr (ad := ⟨g41, 0, none⟩) (y := es.length) (sz := 11) rfl rfl rfl (by omega) (by kernel_rfl)).as (by rw [Addr.add_mid, Nat.zero_add])) ?_; clear HF; intro a HF
                      refine from_pures HF 1 4 (j := 5) [(53, .pointer (some ⟨g41, es.length * 11 + 10, none⟩))] (by kernel_rfl) rfl ?_; clear HF; intro a HF
                      refine from_op HF (i := 5) rfl rfl ?_
                      refine e_storeRow HF HM (i := 0) rfl rfl rfl rfl (by kernel_rfl) rfl rfl (by simp only [flat_len evL 11 evL_len, List.length_append, List.length_cons, List.length_nil]; omega) ?_
                      clear HM; intro w8_5 HM
                      replace HM := HM.asRow (i := 0) (ys := (es ++ [{ pickE (x.cpu % 64) with got := -1 }]).flatMap evL) rfl (put_last es _ _ (by rfl) (by decide))
                      refine from_done rfl ?_
                      replace HF := HF.sub (σ' := [(108, .bool false), (96, .bool false), (85, .bool false), (80, .bool false), (75, .bool false), (70, .bool false), (64, .bool false), (61, .bool false), (54, .bool false), (48, .int .u8 ((way % 10 : Nat) : Int)), (9, .int .i64 (es.length : Int)), (8, .pointer (some ⟨g8, 0, none⟩)), (7, .pointer (some ⟨g7, 0, none⟩)), (20, .bool false), (6, .bool false), (3, .pointer (some ⟨g3, 0, none⟩)), (2, .int .i64 n)]) (by kernel_rfl)
                      rw [show es.length + 1 = (es ++ [{ pickE (x.cpu % 64) with got := -1 }]).length from by simp] at HM
                      exact ⟨⟨1, x.cpu % 64, (lo : Int), 0, es ++ [{ pickE (x.cpu % 64) with got := -1 }]⟩, _, _, (snoc_ok (k := 1) (c := (x.cpu % 64)) (lo := (lo : Int)) (nx := 0) (es := es) (by omega) (by omega) (by unfold I64; omega) (by unfold I64; omega) hok (got_ok (cpu := (x.cpu % 64)) (by omega))), check_bad (snoc_ok (k := 1) (c := (x.cpu % 64)) (lo := (lo : Int)) (nx := 0) (es := es) (by omega) (by omega) (by unfold I64; omega) (by unfold I64; omega) hok (got_ok (cpu := (x.cpu % 64)) (by omega))) rfl (e := { pickE (x.cpu % 64) with got := -1 }) (by simp) (got_check _ (by omega)), by simp; omega, by simp; omega, HF.sub (by kernel_rfl), HM.picks [2, 0, 1] (by decide) rfl⟩
  clear HF HM; rintro a w27 ⟨D, Ad, cd, hDo, hDf, hDl, hDc, HF, HM⟩
  refine wp_seq ?_
  refine from_start ?_
  refine from_yl (S := fun wS => Mem w wS _) HF HM (i := 0) rfl rfl (d := 112) rfl (by decide) (v := .agg #[.int .u8 2, .int .u8 0, .int .i64 0, .int .i64 (1 + pickZ x.b.seq 281474976710657), .slice A27 0 c27]) (Yl.loadS rfl rfl si_bk rfl (fun _ h => range_of_block (h.blk (i := 2) rfl))) ?_; clear HF; intro a HF
  refine from_yl (S := fun wS => Mem w wS _) HF HM (i := 1) rfl rfl (d := 113) rfl (by decide) (v := .agg #[.int .u8 2, .int .u8 0, .int .i64 0, .int .i64 (1 + pickZ x.b.seq 281474976710657), .slice A27 0 c27]) (Yl.loadS rfl rfl si_bk rfl (fun _ h => range_of_block (h.blk (i := 2) rfl))) ?_; clear HF; intro a HF
  refine from_yl (S := fun wS => Mem w wS _) HF HM (i := 2) rfl rfl (d := 114) rfl (by decide) (v := .agg #[.int .u8 2, .int .u8 0, .int .i64 0, .int .i64 (1 + pickZ x.b.seq 281474976710657), .slice A27 0 c27]) (Yl.loadS rfl rfl si_bk rfl (fun _ h => range_of_block (h.blk (i := 2) rfl))) ?_; clear HF; intro a HF
  refine from_yl (S := fun wS => Mem w wS _) HF HM (i := 3) rfl rfl (d := 115) rfl (by decide) (v := .agg #[.int .u8 2, .int .u8 0, .int .i64 0, .int .i64 (1 + pickZ x.b.seq 281474976710657), .slice A27 0 c27]) (Yl.loadS rfl rfl si_bk rfl (fun _ h => range_of_block (h.blk (i := 2) rfl))) ?_; clear HF; intro a HF
  refine from_yl (S := fun wS => Mem w wS _) HF HM (i := 4) rfl rfl (d := 116) rfl (by decide) (v := .agg #[.int .u8 2, .int .u8 0, .int .i64 0, .int .i64 (1 + pickZ x.b.seq 281474976710657), .slice A27 0 c27]) (Yl.loadS rfl rfl si_bk rfl (fun _ h => range_of_block (h.blk (i := 2) rfl))) ?_; clear HF; intro a HF
  refine from_op HF (i := 5) rfl rfl ?_
  refine e_slice HF HM (vs := [(0, .agg #[.int .u8 2, .int .u8 0, .int .i64 0, .int .i64 (1 + pickZ x.b.seq 281474976710657), .slice A27 0 c27]), (1, .agg #[.int .u8 2, .int .u8 0, .int .i64 0, .int .i64 (1 + pickZ x.b.seq 281474976710657), .slice A27 0 c27]), (2, .agg #[.int .u8 2, .int .u8 0, .int .i64 0, .int .i64 (1 + pickZ x.b.seq 281474976710657), .slice A27 0 c27]), (3, .agg #[.int .u8 2, .int .u8 0, .int .i64 0, .int .i64 (1 + pickZ x.b.seq 281474976710657), .slice A27 0 c27]), (4, .agg #[.int .u8 2, .int .u8 0, .int .i64 0, .int .i64 (1 + pickZ x.b.seq 281474976710657), .slice A27 0 c27])]) (cs := #[.int .u8 2, .int .u8 0, .int .i64 0, .int .i64 (1 + pickZ x.b.seq 281474976710657), .slice A27 0 c27, .int .u8 2, .int .u8 0, .int .i64 0, .int .i64 (1 + pickZ x.b.seq 281474976710657), .slice A27 0 c27, .int .u8 2, .int .u8 0, .int .i64 0, .int .i64 (1 + pickZ x.b.seq 281474976710657), .slice A27 0 c27, .int .u8 2, .int .u8 0, .int .i64 0, .int .i64 (1 + pickZ x.b.seq 281474976710657), .slice A27 0 c27, .int .u8 2, .int .u8 0, .int .i64 0, .int .i64 (1 + pickZ x.b.seq 281474976710657), .slice A27 0 c27]) rfl ei_bk (by decide) rfl (by kernel_rfl) rfl (by decide) ?_
  clear HF HM; intro a w117 g117 HF HM
  refine from_pures HF 1 6 (j := 7) [(10, .slice (some ⟨g117, 0, none⟩) 5 5)] (by kernel_rfl) rfl ?_; clear HF; intro a HF
  refine from_done rfl ?_
  replace HF := HF.sub (σ' := [(10, .slice (some ⟨g117, 0, none⟩) 5 5), (8, .pointer (some ⟨g8, 0, none⟩)), (7, .pointer (some ⟨g7, 0, none⟩)), (6, .bool false), (2, .int .i64 n)]) (by kernel_rfl)
  refine wp_seq ?_
  refine from_start ?_
  refine from_pures HF 6 0 (j := 6) [(123, .int .i64 n), (122, .slice (some ⟨g117, 0, none⟩) 5 5), (121, .slice (some ⟨g117, 0, none⟩) 5 5), (120, .slice (some ⟨g117, 0, none⟩) 5 5), (119, .slice (some ⟨g117, 0, none⟩) 5 5), (118, .slice (some ⟨g117, 0, none⟩) 5 5)] (by kernel_rfl) rfl ?_; clear HF; intro a HF
  refine from_yl (S := fun wS => Mem w wS _) HF HM (i := 6) rfl rfl (d := 124) rfl (by decide) (v := .int .i64 (if (0 : Int) < (n : Int) then 0 else n)) (Yl.min rfl rfl rfl) ?_; clear HF; intro a HF
  refine from_pures HF 1 7 (j := 8) [(125, .int .i64 n)] (by kernel_rfl) rfl ?_; clear HF; intro a HF
  refine from_yl (S := fun wS => Mem w wS _) HF HM (i := 8) rfl rfl (d := 126) rfl (by decide) (v := .int .i64 (if (281474976710658 : Int) > (n : Int) then 281474976710658 else n)) (Yl.max rfl rfl rfl) ?_; clear HF; intro a HF
  refine from_pures HF 1 9 (j := 10) [(127, .int .i64 n)] (by kernel_rfl) rfl ?_; clear HF; intro a HF
  refine from_yl (S := fun wS => Mem w wS _) HF HM (i := 10) rfl rfl (d := 128) rfl (by decide) (v := .int .i64 (if (1 : Int) > (n : Int) then 1 else n)) (Yl.max rfl rfl rfl) ?_; clear HF; intro a HF
  refine from_yl (S := fun wS => Mem w wS _) HF HM (i := 11) rfl rfl (d := 129) rfl (by decide) (v := .agg #[.int .i64 1, .int .i64 0, .int .u8 0, .int .u8 6, .int .i64 0, .int .i64 0, .int .i64 0, .int .i64 0, .int .i64 0, .int .u64 0, .int .i64 0]) (Yl.build (vs := [(0, .int .i64 1), (3, .int .u8 6)]) rfl (by kernel_rfl) (by kernel_rfl)) ?_; clear HF; intro a HF
  refine from_op HF (i := 12) rfl rfl ?_
  refine e_slice HF HM (vs := [(0, .agg #[.int .i64 1, .int .i64 0, .int .u8 0, .int .u8 6, .int .i64 0, .int .i64 0, .int .i64 0, .int .i64 0, .int .i64 0, .int .u64 0, .int .i64 0])]) (cs := #[.int .i64 1, .int .i64 0, .int .u8 0, .int .u8 6, .int .i64 0, .int .i64 0, .int .i64 0, .int .i64 0, .int .i64 0, .int .u64 0, .int .i64 0]) rfl ei_ev (by decide) rfl (by kernel_rfl) rfl (by decide) ?_
  clear HF HM; intro a w130 g130 HF HM
  refine from_yl (S := fun wS => Mem w wS _) HF HM (i := 13) rfl rfl (d := 131) rfl (by decide) (v := .pointer (some ⟨g117, 0, none⟩)) (Yl.indexAddr (ad := ⟨g117, 0, none⟩) (y := 0) (sz := 5) rfl rfl rfl (by decide) (by kernel_rfl)) ?_; clear HF; intro a HF
  refine from_pures HF 1 14 (j := 15) [(132, .pointer (some ⟨g117, 3, none⟩))] (by kernel_rfl) rfl ?_; clear HF; intro a HF
  refine from_op HF (i := 15) rfl rfl ?_
  refine e_store HF HM (i := 1) (cs := #[.int .u8 2, .int .u8 0, .int .i64 0, .int .i64 (1 + pickZ x.b.seq 281474976710657), .slice A27 0 c27, .int .u8 2, .int .u8 0, .int .i64 0, .int .i64 (1 + pickZ x.b.seq 281474976710657), .slice A27 0 c27, .int .u8 2, .int .u8 0, .int .i64 0, .int .i64 (1 + pickZ x.b.seq 281474976710657), .slice A27 0 c27, .int .u8 2, .int .u8 0, .int .i64 0, .int .i64 (1 + pickZ x.b.seq 281474976710657), .slice A27 0 c27, .int .u8 2, .int .u8 0, .int .i64 0, .int .i64 (1 + pickZ x.b.seq 281474976710657), .slice A27 0 c27]) rfl rfl rfl rfl (by kernel_rfl) rfl rfl (by simp) ?_
  clear HM; intro w28_15 HM
  refine from_yl (S := fun wS => Mem w wS _) HF HM (i := 16) rfl rfl (d := 133) rfl (by decide) (v := .pointer (some ⟨g117, 5, none⟩)) (Yl.indexAddr (ad := ⟨g117, 0, none⟩) (y := 1) (sz := 5) rfl rfl rfl (by decide) (by kernel_rfl)) ?_; clear HF; intro a HF
  refine from_pures HF 1 17 (j := 18) [(134, .pointer (some ⟨g117, 8, none⟩))] (by kernel_rfl) rfl ?_; clear HF; intro a HF
  refine from_op HF (i := 18) rfl rfl ?_
  refine e_store HF HM (i := 1) (cs := #[.int .u8 2, .int .u8 0, .int .i64 0, .int .i64 (if (0 : Int) < (n : Int) then 0 else n), .slice A27 0 c27, .int .u8 2, .int .u8 0, .int .i64 0, .int .i64 (1 + pickZ x.b.seq 281474976710657), .slice A27 0 c27, .int .u8 2, .int .u8 0, .int .i64 0, .int .i64 (1 + pickZ x.b.seq 281474976710657), .slice A27 0 c27, .int .u8 2, .int .u8 0, .int .i64 0, .int .i64 (1 + pickZ x.b.seq 281474976710657), .slice A27 0 c27, .int .u8 2, .int .u8 0, .int .i64 0, .int .i64 (1 + pickZ x.b.seq 281474976710657), .slice A27 0 c27]) rfl rfl rfl rfl (by kernel_rfl) rfl rfl (by simp) ?_
  clear HM; intro w28_18 HM
  refine from_yl (S := fun wS => Mem w wS _) HF HM (i := 19) rfl rfl (d := 135) rfl (by decide) (v := .pointer (some ⟨g117, 10, none⟩)) (Yl.indexAddr (ad := ⟨g117, 0, none⟩) (y := 2) (sz := 5) rfl rfl rfl (by decide) (by kernel_rfl)) ?_; clear HF; intro a HF
  refine from_pures HF 1 20 (j := 21) [(136, .pointer (some ⟨g117, 11, none⟩))] (by kernel_rfl) rfl ?_; clear HF; intro a HF
  refine from_op HF (i := 21) rfl rfl ?_
  refine e_store HF HM (i := 1) (cs := #[.int .u8 2, .int .u8 0, .int .i64 0, .int .i64 (if (0 : Int) < (n : Int) then 0 else n), .slice A27 0 c27, .int .u8 2, .int .u8 0, .int .i64 0, .int .i64 (if (281474976710658 : Int) > (n : Int) then 281474976710658 else n), .slice A27 0 c27, .int .u8 2, .int .u8 0, .int .i64 0, .int .i64 (1 + pickZ x.b.seq 281474976710657), .slice A27 0 c27, .int .u8 2, .int .u8 0, .int .i64 0, .int .i64 (1 + pickZ x.b.seq 281474976710657), .slice A27 0 c27, .int .u8 2, .int .u8 0, .int .i64 0, .int .i64 (1 + pickZ x.b.seq 281474976710657), .slice A27 0 c27]) rfl rfl rfl rfl (by kernel_rfl) rfl rfl (by simp) ?_
  clear HM; intro w28_21 HM
  refine from_yl (S := fun wS => Mem w wS _) HF HM (i := 22) rfl rfl (d := 137) rfl (by decide) (v := .pointer (some ⟨g117, 15, none⟩)) (Yl.indexAddr (ad := ⟨g117, 0, none⟩) (y := 3) (sz := 5) rfl rfl rfl (by decide) (by kernel_rfl)) ?_; clear HF; intro a HF
  refine from_pures HF 1 23 (j := 24) [(138, .pointer (some ⟨g117, 17, none⟩))] (by kernel_rfl) rfl ?_; clear HF; intro a HF
  refine from_op HF (i := 24) rfl rfl ?_
  refine e_store HF HM (i := 1) (cs := #[.int .u8 2, .int .u8 0, .int .i64 0, .int .i64 (if (0 : Int) < (n : Int) then 0 else n), .slice A27 0 c27, .int .u8 2, .int .u8 0, .int .i64 0, .int .i64 (if (281474976710658 : Int) > (n : Int) then 281474976710658 else n), .slice A27 0 c27, .int .u8 2, .int .u8 1, .int .i64 0, .int .i64 (1 + pickZ x.b.seq 281474976710657), .slice A27 0 c27, .int .u8 2, .int .u8 0, .int .i64 0, .int .i64 (1 + pickZ x.b.seq 281474976710657), .slice A27 0 c27, .int .u8 2, .int .u8 0, .int .i64 0, .int .i64 (1 + pickZ x.b.seq 281474976710657), .slice A27 0 c27]) rfl rfl rfl rfl (by kernel_rfl) rfl rfl (by simp) ?_
  clear HM; intro w28_24 HM
  refine from_yl (S := fun wS => Mem w wS _) HF HM (i := 25) rfl rfl (d := 139) rfl (by decide) (v := .pointer (some ⟨g117, 20, none⟩)) (Yl.indexAddr (ad := ⟨g117, 0, none⟩) (y := 4) (sz := 5) rfl rfl rfl (by decide) (by kernel_rfl)) ?_; clear HF; intro a HF
  refine from_pures HF 1 26 (j := 27) [(140, .pointer (some ⟨g117, 24, none⟩))] (by kernel_rfl) rfl ?_; clear HF; intro a HF
  refine from_op HF (i := 27) rfl rfl ?_
  refine e_store HF HM (i := 1) (cs := #[.int .u8 2, .int .u8 0, .int .i64 0, .int .i64 (if (0 : Int) < (n : Int) then 0 else n), .slice A27 0 c27, .int .u8 2, .int .u8 0, .int .i64 0, .int .i64 (if (281474976710658 : Int) > (n : Int) then 281474976710658 else n), .slice A27 0 c27, .int .u8 2, .int .u8 1, .int .i64 0, .int .i64 (1 + pickZ x.b.seq 281474976710657), .slice A27 0 c27, .int .u8 2, .int .u8 0, .int .i64 (if (1 : Int) > (n : Int) then 1 else n), .int .i64 (1 + pickZ x.b.seq 281474976710657), .slice A27 0 c27, .int .u8 2, .int .u8 0, .int .i64 0, .int .i64 (1 + pickZ x.b.seq 281474976710657), .slice A27 0 c27]) rfl rfl rfl rfl (by kernel_rfl) rfl rfl (by simp) ?_
  clear HM; intro w28_27 HM
  refine from_done rfl ?_
  replace HF := HF.sub (σ' := [(10, .slice (some ⟨g117, 0, none⟩) 5 5), (8, .pointer (some ⟨g8, 0, none⟩)), (7, .pointer (some ⟨g7, 0, none⟩)), (6, .bool false), (2, .int .i64 n)]) (by kernel_rfl)
  refine wp_seq ?_
  refine wp_seq ?_
  refine from_start ?_
  refine from_pures HF 1 0 (j := 1) [(141, .slice (some ⟨g117, 0, none⟩) 5 5)] (by kernel_rfl) rfl ?_; clear HF; intro a HF
  refine from_yl (S := fun wS => Mem w wS _) HF HM (i := 1) rfl rfl (d := 142) rfl (by decide) (v := .agg (D.cells Ad cd)) (Yl.loadS rfl rfl si_bk rfl (fun _ h => range_of_block (h.blk (i := 2) rfl))) ?_; clear HF; intro a HF
  refine from_op HF (i := 2) rfl rfl ?_
  refine e_slice HF HM (vs := [(0, .agg (D.cells Ad cd))]) (cs := (D.cells Ad cd)) rfl ei_bk (by decide) rfl (by kernel_rfl) rfl (by decide) ?_
  clear HF HM; intro a w143 g143 HF HM
  refine from_op HF (i := 3) rfl rfl ?_
  replace HM := HM.blkRow (i := 2) (n := 5) (size := 5) rfl rfl (by decide)
  obtain ⟨ls, hls⟩ : ∃ ls : List Bkc, ls = [⟨⟨2, 0, 0, (if (0 : Int) < n then 0 else n), []⟩, A27, c27⟩, ⟨⟨2, 0, 0, (if (281474976710658 : Int) > n then 281474976710658 else n), []⟩, A27, c27⟩, ⟨⟨2, 1, 0, (1 + pickZ x.b.seq 281474976710657), []⟩, A27, c27⟩, ⟨⟨2, 0, (if (1 : Int) > n then 1 else n), (1 + pickZ x.b.seq 281474976710657), []⟩, A27, c27⟩, ⟨⟨2, 0, 0, (1 + pickZ x.b.seq 281474976710657), [{ Ev.zero with seq := 1, kind := 6 }]⟩, some ⟨g130, 0, none⟩, 1⟩, ⟨D, Ad, cd⟩] := ⟨_, rfl⟩
  have hlen6 : ls.length = 6 := by rw [hls]; rfl
  have hpn := pick_next x.b.seq
  have hbad := ends_bad hnI hpn hDo hDf hDl hls
  have hrd := ends_rd hls
  refine e_append HF HM (i := 2) rfl ei_bk rfl rfl rfl (news := (D.cells Ad cd).toList) (HM.rdBlk (i := 0) (n := 1) (size := 5) rfl rfl) (bk_one _ _ _) (by decide) (by decide) rfl (by decide) ?_
  clear HF HM; intro a w144 A144 c144 HF HM hc144
  replace HM := HM.asRow (i := 2) (ys := ls.flatMap bkcL) rfl (by rw [hls]; rfl)
  refine from_yl (S := fun wS => Mem w wS _) HF HM (i := 4) rfl rfl (d := 145) rfl (by decide) (v := .int .i64 6) (Yl.len rfl rfl (by kernel_rfl)) ?_; clear HF; intro a HF
  refine from_pures HF 1 5 (j := 6) [(146, .int .i64 0)] (by kernel_rfl) rfl ?_; clear HF; intro a HF
  refine from_done rfl ?_
  replace HF := HF.sub (σ' := [(146, .int .i64 0), (145, .int .i64 6), (144, .slice A144 6 c144), (10, .slice (some ⟨g117, 0, none⟩) 5 5), (8, .pointer (some ⟨g8, 0, none⟩)), (7, .pointer (some ⟨g7, 0, none⟩)), (6, .bool false), (2, .int .i64 n)]) (by kernel_rfl)
  replace HM := HM.picks (fs' := [.blk g130 #[.int .i64 1, .int .i64 0, .int .u8 0, .int .u8 6, .int .i64 0, .int .i64 0, .int .i64 0, .int .i64 0, .int .i64 0, .int .u64 0, .int .i64 0] 55, .row (.slice A144 6 c144) 6 (ls.flatMap bkcL) 37 5, .blk g7 (D.cells Ad cd) 37, .row (.slice Ad D.evs.length cd) D.evs.length (D.evs.flatMap evL) 55 11, .blk g8 #[.int .u8 2, .int .u8 0, .int .i64 0, .int .i64 (1 + pickZ x.b.seq 281474976710657), .slice A27 0 c27] 37]) [1, 2, 3, 4, 5] (by decide) rfl
  refine wp_block ?_
  refine loop_nat (fun mS aS wS => ∃ (k : Nat), (k ≤ 6) ∧ mS = 6 - k ∧ Fr aS 190 [] [(146, .int .i64 (k : Int)), (145, .int .i64 6), (144, .slice A144 6 c144), (10, .slice (some ⟨g117, 0, none⟩) 5 5), (8, .pointer (some ⟨g8, 0, none⟩)), (7, .pointer (some ⟨g7, 0, none⟩)), (6, .bool false), (2, .int .i64 n)] ∧ Mem w wS [.blk g130 #[.int .i64 1, .int .i64 0, .int .u8 0, .int .u8 6, .int .i64 0, .int .i64 0, .int .i64 0, .int .i64 0, .int .i64 0, .int .u64 0, .int .i64 0] 55, .row (.slice A144 6 c144) 6 (ls.flatMap bkcL) 37 5, .blk g7 (D.cells Ad cd) 37, .row (.slice Ad D.evs.length cd) D.evs.length (D.evs.flatMap evL) 55 11, .blk g8 #[.int .u8 2, .int .u8 0, .int .i64 0, .int .i64 (1 + pickZ x.b.seq 281474976710657), .slice A27 0 c27] 37]) (m := 6 - 0) ⟨0, Nat.zero_le _, rfl, HF.sub (by kernel_rfl), HM.picks [0, 1, 2, 3, 4] (by decide) rfl⟩ ?_
  clear HF HM; rintro mS a w_ ⟨k, hk, rfl, HF, HM⟩
  refine wp_seq ?_
  refine from_start ?_
  refine from_pures HF 1 0 (j := 1) [(147, .bool (decide (((k : Int) : Int) < (6 : Int))))] (by kernel_rfl) rfl ?_; clear HF; intro a HF
  refine from_done rfl ?_
  refine wp_seq ?_
  rcases Bool.eq_false_or_eq_true (decide (((k : Int) : Int) < (6 : Int))) with hb147 | hb147
  · have HF := HF.as (t := 147) (u := .bool true) rfl (by rw [hb147])
    have hd147 := of_decide_eq_true hb147
    have hk6 : k < 6 := by omega
    obtain ⟨y, hy⟩ : ∃ y, y = ls.getD k Bkc.zero := ⟨_, rfl⟩
    have hym : y ∈ ls := by rw [hy]; exact getD_mem _ (by omega)
    have hyk : ls[k]? = some y := by rw [hy]; exact getD_at _ (by omega)
    obtain ⟨hy1, hy2, hy3⟩ := hbad y hym
    refine cond_true HF rfl ?_
    refine wp_skip ?_
    refine wp_seq ?_
    refine wp_block ?_
    refine wp_seq ?_
    refine from_start ?_
    obtain ⟨gA144, rfl⟩ := own_some (HM.own (i := 1) rfl) (Nat.lt_of_le_of_lt (Nat.zero_le _) (show k < 6 from by omega))
    refine from_yl (S := fun wS => Mem w wS _) HF HM (i := 0) rfl rfl (d := 148) rfl (by decide) (v := .pointer (some ⟨gA144, k * 5, none⟩)) ((Yl.indexAddr (ad := ⟨gA144, 0, none⟩) (y := k) (sz := 5) rfl rfl rfl (by omega) (by kernel_rfl)).as (by rw [Addr.add_mid, Nat.zero_add])) ?_; clear HF; intro a HF
    refine from_yl (S := fun wS => Mem w wS _) HF HM (i := 1) rfl rfl (d := 149) rfl (by decide) (v := .agg (y.b.cells y.A y.c)) (Yl.loadS rfl rfl si_bk rfl (fun _ h => h.rowStruct bkcL_len (i := 1) rfl (k := k) hyk)) ?_; clear HF; intro a HF
    refine from_op HF (i := 2) rfl rfl ?_
    refine e_alloc HF HM (cs := #[.int .u8 0, .int .u8 0, .int .i64 0, .int .i64 0, .slice none 0 0]) rfl (by kernel_rfl) rfl (by decide) ?_
    clear HF HM; intro a w12 g12 HF HM
    refine from_op HF (i := 3) rfl rfl ?_
    refine e_storeAll HF HM (i := 0) (cs := #[.int .u8 0, .int .u8 0, .int .i64 0, .int .i64 0, .slice none 0 0]) (ds := (y.b.cells y.A y.c)) rfl rfl rfl rfl si_bk rfl rfl (bk_one _ _ _) rfl ?_
    clear HM; intro w31_3 HM
    refine from_done rfl ?_
    replace HF := HF.sub (σ' := [(12, .pointer (some ⟨g12, 0, none⟩)), (147, .bool true), (146, .int .i64 (k : Int)), (145, .int .i64 6), (144, .slice (some ⟨gA144, 0, none⟩) 6 c144), (10, .slice (some ⟨g117, 0, none⟩) 5 5), (8, .pointer (some ⟨g8, 0, none⟩)), (7, .pointer (some ⟨g7, 0, none⟩)), (6, .bool false), (2, .int .i64 n)]) (by kernel_rfl)
    refine wp_seq ?_
    refine from_start ?_
    refine from_yl (S := fun wS => Mem w wS _) HF HM (i := 0) rfl rfl (d := 151) rfl (by decide) (v := .agg (y.b.cells y.A y.c)) (Yl.loadS rfl rfl si_bk rfl (fun _ h => range_of_block (h.blk (i := 0) rfl))) ?_; clear HF; intro a HF
    refine from_op HF (i := 1) rfl rfl ?_
    refine e_call HF (vs := [.agg (y.b.cells y.A y.c)]) rfl (by kernel_rfl) (by kernel_rfl) rfl (by decide) (bwrite_is y.b hy1 y.A y.c B _ (hL.mem HM hB) (HM.le hB) (hrd _ _ (HM.rd (i := 4) rfl) (HM.rdBlk (i := 1) (n := 1) (size := 11) rfl rfl) y hym) (by omega) (bad_err hy2) (bad_out hy2)) ?_
    rintro _ w152 ⟨⟨A152, c152, rfl, _, _⟩, hbw⟩
    refine ⟨_, rfl, ?_⟩
    replace HM := HM.call hbw
    clear HF; intro a HF
    refine from_pures HF 5 2 (j := 7) [(14, .int .i64 107), (13, .slice A152 0 c152), (154, .int .i64 107), (153, .slice A152 0 c152), (150, .tuple #[.slice A152 0 c152, .int .i64 107])] (by kernel_rfl) rfl ?_; clear HF; intro a HF
    refine from_done rfl ?_
    replace HF := HF.sub (σ' := [(14, .int .i64 107), (13, .slice A152 0 c152), (12, .pointer (some ⟨g12, 0, none⟩)), (147, .bool true), (146, .int .i64 (k : Int)), (145, .int .i64 6), (144, .slice (some ⟨gA144, 0, none⟩) 6 c144), (10, .slice (some ⟨g117, 0, none⟩) 5 5), (8, .pointer (some ⟨g8, 0, none⟩)), (7, .pointer (some ⟨g7, 0, none⟩)), (6, .bool false), (2, .int .i64 n)]) (by kernel_rfl)
    refine wp_seq ?_
    refine from_start ?_
    refine from_yl (S := fun wS => Mem w wS _) HF HM (i := 0) rfl rfl (d := 156) rfl (by decide) (v := .agg (y.b.cells y.A y.c)) (Yl.loadS rfl rfl si_bk rfl (fun _ h => range_of_block (h.blk (i := 0) rfl))) ?_; clear HF; intro a HF
    refine from_op HF (i := 1) rfl rfl ?_
    refine e_call HF (vs := [.agg (y.b.cells y.A y.c)]) rfl (by kernel_rfl) (by kernel_rfl) rfl (by decide) (bsize_is y.b hy1 y.A y.c B _ (hL.mem HM hB) (HM.le hB) (hrd _ _ (HM.rd (i := 4) rfl) (HM.rdBlk (i := 1) (n := 1) (size := 11) rfl rfl) y hym) (by omega) (bad_err hy2) (n := 0) (by rw [bad_out hy2]; rfl)) ?_
    rintro _ w157 ⟨rfl, hbw⟩
    refine ⟨_, rfl, ?_⟩
    replace HM := HM.call hbw
    clear HF; intro a HF
    refine from_pures HF 5 2 (j := 7) [(16, .int .i64 107), (15, .int .i64 0), (159, .int .i64 107), (158, .int .i64 0), (155, .tuple #[.int .i64 0, .int .i64 107])] (by kernel_rfl) rfl ?_; clear HF; intro a HF
    refine from_done rfl ?_
    replace HF := HF.sub (σ' := [(16, .int .i64 107), (15, .int .i64 0), (14, .int .i64 107), (13, .slice A152 0 c152), (12, .pointer (some ⟨g12, 0, none⟩)), (147, .bool true), (146, .int .i64 (k : Int)), (145, .int .i64 6), (144, .slice (some ⟨gA144, 0, none⟩) 6 c144), (10, .slice (some ⟨g117, 0, none⟩) 5 5), (8, .pointer (some ⟨g8, 0, none⟩)), (7, .pointer (some ⟨g7, 0, none⟩)), (6, .bool false), (2, .int .i64 n)]) (by kernel_rfl)
    refine wp_seq ?_
    refine from_start ?_
    refine from_yl (S := fun wS => Mem w wS _) HF HM (i := 0) rfl rfl (d := 161) rfl (by decide) (v := .agg (y.b.cells y.A y.c)) (Yl.loadS rfl rfl si_bk rfl (fun _ h => range_of_block (h.blk (i := 0) rfl))) ?_; clear HF; intro a HF
    refine from_op HF (i := 1) rfl rfl ?_
    refine e_call HF (vs := [.agg (y.b.cells y.A y.c)]) rfl (by kernel_rfl) (by kernel_rfl) rfl (by decide) (bfill_is y.b hy1 y.A y.c B _ (hL.mem HM hB) (HM.le hB) (hrd _ _ (HM.rd (i := 4) rfl) (HM.rdBlk (i := 1) (n := 1) (size := 11) rfl rfl) y hym) (by omega) (bad_fill hy2)) ?_
    rintro _ w162 ⟨rfl, hbw⟩
    refine ⟨_, rfl, ?_⟩
    replace HM := HM.call hbw
    clear HF; intro a HF
    refine from_pures HF 5 2 (j := 7) [(18, .int .i64 107), (17, .int .i64 0), (164, .int .i64 107), (163, .int .i64 0), (160, .tuple #[.int .i64 0, .int .i64 107])] (by kernel_rfl) rfl ?_; clear HF; intro a HF
    refine from_done rfl ?_
    replace HF := HF.sub (σ' := [(18, .int .i64 107), (17, .int .i64 0), (16, .int .i64 107), (15, .int .i64 0), (14, .int .i64 107), (13, .slice A152 0 c152), (12, .pointer (some ⟨g12, 0, none⟩)), (147, .bool true), (146, .int .i64 (k : Int)), (145, .int .i64 6), (144, .slice (some ⟨gA144, 0, none⟩) 6 c144), (10, .slice (some ⟨g117, 0, none⟩) 5 5), (8, .pointer (some ⟨g8, 0, none⟩)), (7, .pointer (some ⟨g7, 0, none⟩)), (6, .bool false), (2, .int .i64 n)]) (by kernel_rfl)
    refine wp_seq ?_
    refine from_start ?_
    refine from_yl (S := fun wS => Mem w wS _) HF HM (i := 0) rfl rfl (d := 165) rfl (by decide) (v := .agg (y.b.cells y.A y.c)) (Yl.loadS rfl rfl si_bk rfl (fun _ h => range_of_block (h.blk (i := 0) rfl))) ?_; clear HF; intro a HF
    refine from_op HF (i := 1) rfl rfl ?_
    refine e_call HF (vs := [.agg (y.b.cells y.A y.c)]) rfl (by kernel_rfl) (by kernel_rfl) rfl (by decide) (bcheck_is y.b hy1 y.A y.c B _ (hL.mem HM hB) (HM.le hB) (hrd _ _ (HM.rd (i := 4) rfl) (HM.rdBlk (i := 1) (n := 1) (size := 11) rfl rfl) y hym) (by omega) (bad_err hy2)) ?_
    rintro _ w166 ⟨rfl, hbw⟩
    refine ⟨_, rfl, ?_⟩
    replace HM := HM.call hbw
    clear HF; intro a HF
    refine from_pures HF 15 2 (j := 17) [(181, .slice A152 0 c152), (180, .bool false), (179, .bool false), (178, .bool false), (177, .int .i64 107), (176, .bool false), (175, .bool false), (174, .bool false), (173, .int .i64 107), (172, .bool false), (171, .bool false), (170, .bool false), (169, .int .i64 107), (168, .bool false), (167, .bool false)] (by kernel_rfl) rfl ?_; clear HF; intro a HF
    refine from_yl (S := fun wS => Mem w wS _) HF HM (i := 17) rfl rfl (d := 182) rfl (by decide) (v := .int .i64 0) (Yl.len rfl rfl (by kernel_rfl)) ?_; clear HF; intro a HF
    refine from_pures HF 6 18 (j := 24) [(188, .bool false), (187, .bool false), (186, .int .i64 0), (185, .int .i64 0), (184, .int .i64 0), (183, .int .i64 0)] (by kernel_rfl) rfl ?_; clear HF; intro a HF
    refine from_done rfl ?_
    replace HF := HF.sub (σ' := [(188, .bool false), (18, .int .i64 107), (17, .int .i64 0), (16, .int .i64 107), (15, .int .i64 0), (14, .int .i64 107), (13, .slice A152 0 c152), (12, .pointer (some ⟨g12, 0, none⟩)), (147, .bool true), (146, .int .i64 (k : Int)), (145, .int .i64 6), (144, .slice (some ⟨gA144, 0, none⟩) 6 c144), (10, .slice (some ⟨g117, 0, none⟩) 5 5), (8, .pointer (some ⟨g8, 0, none⟩)), (7, .pointer (some ⟨g7, 0, none⟩)), (6, .bool false), (2, .int .i64 n)]) (by kernel_rfl)
    refine cond_false HF rfl ?_
    refine wp_skip ?_
    refine from_start ?_
    refine from_pures HF 1 0 (j := 1) [(189, .int .i64 (IntKind.i64.wrap ((k : Int) + 1)))] (by kernel_rfl) rfl ?_; clear HF; intro a HF
    replace HF := HF.as (t := 189) (u := .int .i64 ((k + 1 : Nat) : Int)) rfl (i64_nat (by omega) (by omega))
    refine from_pures HF 1 1 (j := 2) [(146, .int .i64 ((k + 1 : Nat) : Int))] (by kernel_rfl) rfl ?_; clear HF; intro a HF
    refine from_done rfl ?_
    replace HF := HF.sub (σ' := [(146, .int .i64 ((k + 1 : Nat) : Int)), (188, .bool false), (18, .int .i64 107), (17, .int .i64 0), (16, .int .i64 107), (15, .int .i64 0), (14, .int .i64 107), (13, .slice A152 0 c152), (12, .pointer (some ⟨g12, 0, none⟩)), (147, .bool true), (145, .int .i64 6), (144, .slice (some ⟨gA144, 0, none⟩) 6 c144), (10, .slice (some ⟨g117, 0, none⟩) 5 5), (8, .pointer (some ⟨g8, 0, none⟩)), (7, .pointer (some ⟨g7, 0, none⟩)), (6, .bool false), (2, .int .i64 n)]) (by kernel_rfl)
    exact ⟨_, (by omega), k + 1, by omega, rfl, HF.sub (by kernel_rfl), HM.picks [1, 2, 3, 4, 5] (by decide) rfl⟩
  · have HF := HF.as (t := 147) (u := .bool false) rfl (by rw [hb147])
    have hd147 := of_decide_eq_false hb147
    refine cond_false HF rfl ?_
    refine wp_exit ?_
    refine wp_seq ?_
    refine from_start ?_
    refine from_pures HF 1 0 (j := 1) [(6, .bool true)] (by kernel_rfl) rfl ?_; clear HF; intro a HF
    refine from_done rfl ?_
    replace HF := HF.sub (σ' := [(6, .bool true), (147, .bool false), (146, .int .i64 (k : Int)), (145, .int .i64 6), (144, .slice A144 6 c144), (10, .slice (some ⟨g117, 0, none⟩) 5 5), (8, .pointer (some ⟨g8, 0, none⟩)), (7, .pointer (some ⟨g7, 0, none⟩)), (2, .int .i64 n)]) (by kernel_rfl)
    refine wp_ret ?_
    exact ret1 rfl HF (.tmp HF rfl) (⟨rfl, HM.below⟩)
end Go.Proofs.YtjpielapplglmaaDoor

