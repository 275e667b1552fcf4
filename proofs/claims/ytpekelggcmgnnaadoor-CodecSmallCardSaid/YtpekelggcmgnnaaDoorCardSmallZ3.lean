/- Texts laid together: SmallW. -/
import Derived.Test.YtpekelggcmgnnaaDoorCardSmallZ2
/- quantumlaw07.CodecSmall answers true. -/
set_option linter.all false
namespace Go.Proofs.YtpekelggcmgnnaaDoor
open Go.RowKit
theorem ei_base : EI Tryd.prog 51 23 (.agg #[.int .i64 0, .int .i64 0]) 2 16 := ⟨by kernel_rfl, by kernel_rfl, rfl, by omega⟩
def bsL (b : Bs) : List Value := b.cells.toList
theorem bsL_len (b : Bs) : (bsL b).length = 2 := rfl
def smallNums : List Int := [-9223372036854775808, -1, 0, 1, 2, 5, 6, 340, 341, 281474976710655, 281474976710656, 281474976710657, 9223372036854775807]
theorem smallNums_ok : ∀ n ∈ smallNums, I64 n := by unfold I64; decide
def smallBases (n : Int) : List Bs := [⟨n, 0⟩, ⟨1, n⟩, ⟨1, 0⟩, ⟨5, 340⟩, ⟨n, n⟩]
def smallBytes : List Nat := [0, 1, 2, 127, 128, 129, 255]
theorem smallBytes_ok : ∀ c ∈ smallBytes, c < 256 := by decide
def mostE : Ev := ⟨281474976710656, 281474976710656, 63, 1, 65535, 255, 0, 65536, 0, 18446744073709551615, 0⟩
def someL : List Ev := [exA, exB, ⟨5, 341, 2, 6, 0, 0, 0, 0, 0, 0, 0⟩, ⟨6, 340, 2, 6, 0, 0, 0, 0, 0, 0, 0⟩, ⟨6, 339, 2, 6, 0, 0, 0, 0, 0, 0, 0⟩, ⟨7, 340, 3, 6, 0, 0, 0, 0, 0, 0, 0⟩, ⟨7, 340, 2, 4, 0, 0, 0, 0, 0, 0, 0⟩]
def Ev.okB (e : Ev) : Bool := [e.seq, e.time, e.task, e.group, e.to, e.weight, e.ticks, e.got].all (fun x => decide (-9223372036854775808 ≤ x) && decide (x ≤ 9223372036854775807)) && decide (e.cpu < 256) && decide (e.kind < 256) && decide (e.mask < 18446744073709551616)
theorem Ev.ok_of {e : Ev} (h : e.okB = true) : e.Ok := by
  simp only [Ev.okB, List.all_cons, List.all_nil, Bool.and_eq_true, decide_eq_true_eq, Bool.and_true] at h
  obtain ⟨⟨⟨h1, h2⟩, h3⟩, h4⟩ := h
  exact ⟨h1.1, h1.2.1, h2, h3, h1.2.2.1, h1.2.2.2.1, h1.2.2.2.2.1, h1.2.2.2.2.2.1, h1.2.2.2.2.2.2.1, h4, h1.2.2.2.2.2.2.2⟩
theorem mostE_ok : mostE.Ok := Ev.ok_of (by decide)
theorem zero_ok7 : Ev.zero.Ok := Ev.ok_of (by decide)
theorem someL_ok (e : Ev) (h : e ∈ someL) : e.Ok := Ev.ok_of (List.all_eq_true.1 (show someL.all Ev.okB = true by decide) e h)
theorem ok_two {x y : Ev} (hx : x.Ok) (hy : y.Ok) : ∀ e ∈ [x, y], e.Ok := fun e h => by
  rcases List.mem_cons.1 h with rfl | h
  · exact hx
  · rw [List.mem_singleton.1 h]; exact hy
theorem ok_three {x y z : Ev} (hx : x.Ok) (hy : y.Ok) (hz : z.Ok) : ∀ e ∈ [x, y, z], e.Ok := fun e h => by
  rcases List.mem_cons.1 h with rfl | h
  · exact hx
  · exact ok_two hy hz e h
theorem evx_ok {e : Ev} {n : Int} (h : e.Ok) (hn : I64 n) : Ev.Ok ⟨n, e.time, e.cpu, e.kind, e.task, e.group, e.to, e.weight, e.ticks, e.mask, e.got⟩ := ⟨hn, h.time, h.cpu, h.kind, h.task, h.group, h.to, h.weight, h.ticks, h.mask, h.got⟩
theorem evy_ok {e : Ev} {n : Int} (h : e.Ok) (hn : I64 n) : Ev.Ok ⟨e.seq, n, e.cpu, e.kind, e.task, e.group, e.to, e.weight, e.ticks, e.mask, e.got⟩ := ⟨h.seq, hn, h.cpu, h.kind, h.task, h.group, h.to, h.weight, h.ticks, h.mask, h.got⟩
theorem putOut_256 {b : Bs} {e : Ev} (he : e.Ok) : ∀ x ∈ putOut b e, x < 256 := by
  unfold putOut
  split
  · intro x hx
    unfold recBytes at hx
    rcases List.mem_cons.1 hx with rfl | hx
    · exact he.kind
    · obtain ⟨y, _, hy⟩ := List.mem_flatMap.1 hx
      exact vbytes_256 y x hy
  · intro x hx; cases hx
theorem in_256 {b : Bs} {e : Ev} {c : Nat} (he : e.Ok) (hc : c < 256) (i : Nat) : ∀ x ∈ (putOut b e).take i ++ [c] ++ (putOut b e).drop i, x < 256 := by
  intro x hx
  rcases List.mem_append.1 hx with hx | hx
  · rcases List.mem_append.1 hx with hx | hx
    · exact putOut_256 he x (List.mem_of_mem_take hx)
    · rw [List.mem_singleton.1 hx]; exact hc
  · exact putOut_256 he x (List.mem_of_mem_drop hx)
set_option maxRecDepth 100000 in
set_option maxHeartbeats 16000000 in
theorem codecSmall_any (B : Nat) (w : World) (hL : Laid B w) (hB : B ≤ w.heap.size) : Calls Tryd.prog 9 #[] w (TruePost w) := by
  refine calls_enter (vs := []) Tryd.func9 rfl rfl (by kernel_rfl) (σ0 := []) rfl ?_
  intro a HF
  have HM := Mem.start w
  refine wp_seq ?_
  refine from_start ?_
  refine from_pures HF 1 0 (j := 1) [(0, .bool false)] (by kernel_rfl) rfl ?_; clear HF; intro a HF
  refine from_done rfl ?_
  refine wp_seq ?_
  refine from_start ?_
  refine from_op HF (i := 0) rfl rfl ?_
  refine e_call HF (vs := []) rfl (by kernel_rfl) (by kernel_rfl) rfl (by decide) (example_any _) ?_
  rintro _ w25 ⟨rfl, hbw⟩
  refine ⟨_, rfl, ?_⟩
  replace HM := HM.call hbw
  clear HF; intro a HF
  refine from_pures HF 3 1 (j := 4) [(27, .agg exB.cells), (26, .agg exA.cells), (24, .tuple #[.agg exA.cells, .agg exB.cells])] (by kernel_rfl) rfl ?_; clear HF; intro a HF
  refine from_op HF (i := 4) rfl rfl ?_
  refine e_alloc HF HM (cs := #[.int .i64 0, .int .i64 0, .int .u8 0, .int .u8 0, .int .i64 0, .int .i64 0, .int .i64 0, .int .i64 0, .int .i64 0, .int .u64 0, .int .i64 0]) rfl (by kernel_rfl) rfl (by decide) ?_
  clear HF HM; intro a w1 g1 HF HM
  refine from_op HF (i := 5) rfl rfl ?_
  refine e_alloc HF HM (cs := #[.int .i64 0, .int .i64 0, .int .u8 0, .int .u8 0, .int .i64 0, .int .i64 0, .int .i64 0, .int .i64 0, .int .i64 0, .int .u64 0, .int .i64 0]) rfl (by kernel_rfl) rfl (by decide) ?_
  clear HF HM; intro a w2 g2 HF HM
  refine from_op HF (i := 6) rfl rfl ?_
  refine e_storeAll HF HM (i := 1) (cs := #[.int .i64 0, .int .i64 0, .int .u8 0, .int .u8 0, .int .i64 0, .int .i64 0, .int .i64 0, .int .i64 0, .int .i64 0, .int .u64 0, .int .i64 0]) (ds := exA.cells) rfl rfl rfl rfl ⟨(by kernel_rfl), (by kernel_rfl)⟩ rfl rfl (ev_one exA) rfl ?_
  clear HM; intro w1_6 HM
  refine from_op HF (i := 7) rfl rfl ?_
  refine e_storeAll HF HM (i := 0) (cs := #[.int .i64 0, .int .i64 0, .int .u8 0, .int .u8 0, .int .i64 0, .int .i64 0, .int .i64 0, .int .i64 0, .int .i64 0, .int .u64 0, .int .i64 0]) (ds := exB.cells) rfl rfl rfl rfl ⟨(by kernel_rfl), (by kernel_rfl)⟩ rfl rfl (ev_one exB) rfl ?_
  clear HM; intro w1_7 HM
  refine from_done rfl ?_
  replace HF := HF.sub (σ' := [(2, .pointer (some ⟨g2, 0, none⟩)), (1, .pointer (some ⟨g1, 0, none⟩)), (0, .bool false)]) (by kernel_rfl)
  refine wp_seq ?_
  refine wp_seq ?_
  refine from_start ?_
  refine from_op HF (i := 0) rfl rfl ?_
  refine e_slice HF HM (vs := [(0, .int .i64 (-9223372036854775808)), (1, .int .i64 (-1)), (2, .int .i64 0), (3, .int .i64 1), (4, .int .i64 2), (5, .int .i64 5), (6, .int .i64 6), (7, .int .i64 340), (8, .int .i64 341), (9, .int .i64 281474976710655), (10, .int .i64 281474976710656), (11, .int .i64 281474976710657), (12, .int .i64 9223372036854775807)]) (cs := #[.int .i64 (-9223372036854775808), .int .i64 (-1), .int .i64 0, .int .i64 1, .int .i64 2, .int .i64 5, .int .i64 6, .int .i64 340, .int .i64 341, .int .i64 281474976710655, .int .i64 281474976710656, .int .i64 281474976710657, .int .i64 9223372036854775807]) rfl ei_int (by decide) rfl (by kernel_rfl) rfl (by decide) ?_
  clear HF HM; intro a w28 g28 HF HM
  refine from_yl (S := fun wS => Mem w wS _) HF HM (i := 1) rfl rfl (d := 29) rfl (by decide) (v := .int .i64 13) (Yl.len rfl rfl (by kernel_rfl)) ?_; clear HF; intro a HF
  refine from_pures HF 1 2 (j := 3) [(30, .int .i64 0)] (by kernel_rfl) rfl ?_; clear HF; intro a HF
  refine from_done rfl ?_
  replace HM := (HM.blkRow (i := 0) (n := 13) (size := 1) rfl rfl (by decide)).asRow (i := 0) (ys := smallNums.map I64i) rfl (rfl)
  refine wp_block ?_
  refine loop_nat (fun mS aS wS => ∃ (ja : Nat), (ja ≤ 13) ∧ mS = 13 - ja ∧ Fr aS 259 [] [(30, .int .i64 (ja : Int)), (29, .int .i64 13), (28, .slice (some ⟨g28, 0, none⟩) 13 13), (2, .pointer (some ⟨g2, 0, none⟩)), (1, .pointer (some ⟨g1, 0, none⟩)), (0, .bool false)] ∧ Mem w wS [.row (.slice (some ⟨g28, 0, none⟩) 13 13) 13 (smallNums.map I64i) 3 1, .blk g2 exB.cells 37, .blk g1 exA.cells 37]) (m := 13 - 0) ⟨0, Nat.zero_le _, rfl, HF.sub (by kernel_rfl), HM.picks [0, 1, 2] (by decide) rfl⟩ ?_
  clear HF HM; rintro mS a w_ ⟨ja, h_ja, rfl, HF, HM⟩
  refine wp_seq ?_
  refine from_start ?_
  refine from_pures HF 1 0 (j := 1) [(31, .bool (decide (((ja : Int) : Int) < (13 : Int))))] (by kernel_rfl) rfl ?_; clear HF; intro a HF
  refine from_done rfl ?_
  refine wp_seq ?_
  rcases Bool.eq_false_or_eq_true (decide (((ja : Int) : Int) < (13 : Int))) with hb31 | hb31
  · have HF := HF.as (t := 31) (u := .bool true) rfl (by rw [hb31])
    have ha : ja < 13 := by have := of_decide_eq_true hb31; omega
    obtain ⟨n, hn⟩ : ∃ n, smallNums[ja]? = some n := ⟨_, List.getElem?_eq_getElem (by simpa [smallNums, smallBases, smallBytes, someL] using (by omega : ja < 13))⟩
    have hn64 := smallNums_ok n (List.mem_of_getElem? hn)
    refine cond_true HF rfl ?_
    refine wp_skip ?_
    refine wp_seq ?_
    refine wp_block ?_
    refine wp_seq ?_
    refine from_start ?_
    refine from_yl (S := fun wS => Mem w wS _) HF HM (i := 0) rfl rfl (d := 32) rfl (by decide) (v := .pointer (some ⟨g28, ja * 1, none⟩)) ((Yl.indexAddr (ad := ⟨g28, 0, none⟩) (y := ja) (sz := 1) rfl rfl rfl (ha) (by kernel_rfl)).as (by rw [Addr.add_mid, Nat.zero_add])) ?_; clear HF; intro a HF
    refine from_yl (S := fun wS => Mem w wS _) HF HM (i := 1) rfl rfl (d := 33) rfl (by decide) (v := .int .i64 n) (Yl.load1 rfl rfl (by kernel_rfl) (fun _ h => h.rowOne (i := 0) rfl (k := ja) (map_at (F := I64i) (k := ja) (x := n) (hn)))) ?_; clear HF; intro a HF
    refine from_pures HF 1 2 (j := 3) [(4, .int .i64 n)] (by kernel_rfl) rfl ?_; clear HF; intro a HF
    refine from_done rfl ?_
    replace HF := HF.sub (σ' := [(4, .int .i64 n), (31, .bool true), (30, .int .i64 (ja : Int)), (29, .int .i64 13), (28, .slice (some ⟨g28, 0, none⟩) 13 13), (2, .pointer (some ⟨g2, 0, none⟩)), (1, .pointer (some ⟨g1, 0, none⟩)), (0, .bool false)]) (by kernel_rfl)
    refine wp_seq ?_
    refine from_start ?_
    refine from_yl (S := fun wS => Mem w wS _) HF HM (i := 0) rfl rfl (d := 34) rfl (by decide) (v := .agg exA.cells) (Yl.loadS rfl rfl ⟨(by kernel_rfl), (by kernel_rfl)⟩ rfl (fun _ h => range_of_block (h.blk (i := 2) rfl))) ?_; clear HF; intro a HF
    refine from_yl (S := fun wS => Mem w wS _) HF HM (i := 1) rfl rfl (d := 35) rfl (by decide) (v := .agg exB.cells) (Yl.loadS rfl rfl ⟨(by kernel_rfl), (by kernel_rfl)⟩ rfl (fun _ h => range_of_block (h.blk (i := 1) rfl))) ?_; clear HF; intro a HF
    refine from_op HF (i := 2) rfl rfl ?_
    refine e_slice HF HM (vs := [(0, .agg exA.cells), (1, .agg exB.cells)]) (cs := #[.int .i64 exA.seq, .int .i64 exA.time, .int .u8 (exA.cpu : Int), .int .u8 (exA.kind : Int), .int .i64 exA.task, .int .i64 exA.group, .int .i64 exA.to, .int .i64 exA.weight, .int .i64 exA.ticks, .int .u64 (exA.mask : Int), .int .i64 exA.got, .int .i64 exB.seq, .int .i64 exB.time, .int .u8 (exB.cpu : Int), .int .u8 (exB.kind : Int), .int .i64 exB.task, .int .i64 exB.group, .int .i64 exB.to, .int .i64 exB.weight, .int .i64 exB.ticks, .int .u64 (exB.mask : Int), .int .i64 exB.got]) rfl ei_ev (by decide) rfl (by kernel_rfl) rfl (by decide) ?_
    clear HF HM; intro a w36 g36 HF HM
    refine from_yl (S := fun wS => Mem w wS _) HF HM (i := 3) rfl rfl (d := 37) rfl (by decide) (v := .int .i64 2) (Yl.len rfl rfl (by kernel_rfl)) ?_; clear HF; intro a HF
    refine from_pures HF 1 4 (j := 5) [(38, .int .i64 0)] (by kernel_rfl) rfl ?_; clear HF; intro a HF
    refine from_done rfl ?_
    replace HF := HF.sub (σ' := [(38, .int .i64 0), (37, .int .i64 2), (36, .slice (some ⟨g36, 0, none⟩) 2 2), (4, .int .i64 n), (31, .bool true), (30, .int .i64 (ja : Int)), (29, .int .i64 13), (28, .slice (some ⟨g28, 0, none⟩) 13 13), (2, .pointer (some ⟨g2, 0, none⟩)), (1, .pointer (some ⟨g1, 0, none⟩)), (0, .bool false)]) (by kernel_rfl)
    replace HM := (HM.blkRow (i := 0) (n := 2) (size := 11) rfl rfl (by decide)).asRow (i := 0) (ys := [exA, exB].flatMap evL) rfl (rfl)
    refine wp_block ?_
    refine loop_nat (fun mS aS wS => ∃ (jb : Nat), (jb ≤ 2) ∧ mS = 2 - jb ∧ Fr aS 259 [] [(38, .int .i64 (jb : Int)), (37, .int .i64 2), (36, .slice (some ⟨g36, 0, none⟩) 2 2), (4, .int .i64 n), (31, .bool true), (30, .int .i64 (ja : Int)), (29, .int .i64 13), (28, .slice (some ⟨g28, 0, none⟩) 13 13), (2, .pointer (some ⟨g2, 0, none⟩)), (1, .pointer (some ⟨g1, 0, none⟩)), (0, .bool false)] ∧ Mem w wS [.row (.slice (some ⟨g36, 0, none⟩) 2 2) 2 ([exA, exB].flatMap evL) 37 11, .row (.slice (some ⟨g28, 0, none⟩) 13 13) 13 (smallNums.map I64i) 3 1, .blk g2 exB.cells 37, .blk g1 exA.cells 37]) (m := 2 - 0) ⟨0, Nat.zero_le _, rfl, HF.sub (by kernel_rfl), HM.picks [0, 1, 2, 3] (by decide) rfl⟩ ?_
    clear HF HM; rintro mS a w_ ⟨jb, h_jb, rfl, HF, HM⟩
    refine wp_seq ?_
    refine from_start ?_
    refine from_pures HF 1 0 (j := 1) [(39, .bool (decide (((jb : Int) : Int) < (2 : Int))))] (by kernel_rfl) rfl ?_; clear HF; intro a HF
    refine from_done rfl ?_
    refine wp_seq ?_
    rcases Bool.eq_false_or_eq_true (decide (((jb : Int) : Int) < (2 : Int))) with hb39 | hb39
    · have HF := HF.as (t := 39) (u := .bool true) rfl (by rw [hb39])
      have hbb : jb < 2 := by have := of_decide_eq_true hb39; omega
      obtain ⟨e, he⟩ : ∃ e, [exA, exB][jb]? = some e := ⟨_, List.getElem?_eq_getElem (by simpa [smallNums, smallBases, smallBytes, someL] using (by omega : jb < 2))⟩
      have hee := ok_two exA_ok exB_ok e (List.mem_of_getElem? he)
      refine cond_true HF rfl ?_
      refine wp_skip ?_
      refine wp_seq ?_
      refine wp_block ?_
      refine wp_seq ?_
      refine from_start ?_
      refine from_yl (S := fun wS => Mem w wS _) HF HM (i := 0) rfl rfl (d := 40) rfl (by decide) (v := .pointer (some ⟨g36, jb * 11, none⟩)) ((Yl.indexAddr (ad := ⟨g36, 0, none⟩) (y := jb) (sz := 11) rfl rfl rfl (hbb) (by kernel_rfl)).as (by rw [Addr.add_mid, Nat.zero_add])) ?_; clear HF; intro a HF
      refine from_yl (S := fun wS => Mem w wS _) HF HM (i := 1) rfl rfl (d := 41) rfl (by decide) (v := .agg e.cells) (Yl.loadS rfl rfl ⟨(by kernel_rfl), (by kernel_rfl)⟩ rfl (fun _ h => h.rowStruct evL_len (i := 0) rfl (he))) ?_; clear HF; intro a HF
      refine from_op HF (i := 2) rfl rfl ?_
      refine e_alloc HF HM (cs := #[.int .i64 0, .int .i64 0, .int .u8 0, .int .u8 0, .int .i64 0, .int .i64 0, .int .i64 0, .int .i64 0, .int .i64 0, .int .u64 0, .int .i64 0]) rfl (by kernel_rfl) rfl (by decide) ?_
      clear HF HM; intro a w6 g6 HF HM
      refine from_op HF (i := 3) rfl rfl ?_
      refine e_storeAll HF HM (i := 0) (cs := #[.int .i64 0, .int .i64 0, .int .u8 0, .int .u8 0, .int .i64 0, .int .i64 0, .int .i64 0, .int .i64 0, .int .i64 0, .int .u64 0, .int .i64 0]) (ds := e.cells) rfl rfl rfl rfl ⟨(by kernel_rfl), (by kernel_rfl)⟩ rfl rfl (ev_one e) rfl ?_
      clear HM; intro w7_3 HM
      refine from_done rfl ?_
      replace HF := HF.sub (σ' := [(6, .pointer (some ⟨g6, 0, none⟩)), (39, .bool true), (38, .int .i64 (jb : Int)), (37, .int .i64 2), (36, .slice (some ⟨g36, 0, none⟩) 2 2), (4, .int .i64 n), (31, .bool true), (30, .int .i64 (ja : Int)), (29, .int .i64 13), (28, .slice (some ⟨g28, 0, none⟩) 13 13), (2, .pointer (some ⟨g2, 0, none⟩)), (1, .pointer (some ⟨g1, 0, none⟩)), (0, .bool false)]) (by kernel_rfl)
      refine cut_seq (fun aS wS => ∃ (g7 : Nat) (g8 : Nat), Fr aS 259 [] [(8, .pointer (some ⟨g8, 0, none⟩)), (7, .pointer (some ⟨g7, 0, none⟩)), (6, .pointer (some ⟨g6, 0, none⟩)), (39, .bool true), (38, .int .i64 (jb : Int)), (37, .int .i64 2), (36, .slice (some ⟨g36, 0, none⟩) 2 2), (4, .int .i64 n), (31, .bool true), (30, .int .i64 (ja : Int)), (29, .int .i64 13), (28, .slice (some ⟨g28, 0, none⟩) 13 13), (2, .pointer (some ⟨g2, 0, none⟩)), (1, .pointer (some ⟨g1, 0, none⟩)), (0, .bool false)] ∧ Mem w wS [.blk g8 e.cells 37, .blk g7 e.cells 37, .blk g6 e.cells 37, .row (.slice (some ⟨g36, 0, none⟩) 2 2) 2 ([exA, exB].flatMap evL) 37 11, .row (.slice (some ⟨g28, 0, none⟩) 13 13) 13 (smallNums.map I64i) 3 1, .blk g2 exB.cells 37, .blk g1 exA.cells 37]) ?_ ?_
      ·
        refine any_start (by kernel_rfl) (fun wS => Mem w wS [.blk g6 e.cells 37, .row (.slice (some ⟨g36, 0, none⟩) 2 2) 2 ([exA, exB].flatMap evL) 37 11, .row (.slice (some ⟨g28, 0, none⟩) 13 13) 13 (smallNums.map I64i) 3 1, .blk g2 exB.cells 37, .blk g1 exA.cells 37]) [5] ?_
        replace HM := HM.drew
        have HS := HM.picks (fs' := [.blk g6 e.cells 37, .row (.slice (some ⟨g36, 0, none⟩) 2 2) 2 ([exA, exB].flatMap evL) 37 11, .row (.slice (some ⟨g28, 0, none⟩) 13 13) 13 (smallNums.map I64i) 3 1, .blk g2 exB.cells 37, .blk g1 exA.cells 37]) [0, 1, 2, 3, 4] (by decide) rfl
        refine any_yl HF HS (i := 0) rfl rfl (d := 42) rfl (by decide) (by kernel_rfl) (fun _ _ _ h => h) (v := .agg e.cells) (Yl.loadS rfl rfl ⟨(by kernel_rfl), (by kernel_rfl)⟩ rfl (fun _ h => range_of_block (h.blk (i := 0) rfl))) ?_; clear HF; intro a HF
        refine any_yl HF HS (i := 1) rfl rfl (d := 43) rfl (by decide) (by kernel_rfl) (fun _ _ _ h => h) (v := .agg e.cells) (Yl.loadS rfl rfl ⟨(by kernel_rfl), (by kernel_rfl)⟩ rfl (fun _ h => range_of_block (h.blk (i := 0) rfl))) ?_; clear HF; intro a HF
        refine any_all [2, 3] (by kernel_rfl) rfl ?_
        refine all_cons ?_ ?_
        · refine any_op HF (i := 2) rfl rfl ?_
          refine e_alloc HF HM (cs := #[.int .i64 0, .int .i64 0, .int .u8 0, .int .u8 0, .int .i64 0, .int .i64 0, .int .i64 0, .int .i64 0, .int .i64 0, .int .u64 0, .int .i64 0]) rfl (by kernel_rfl) rfl (by decide) ?_
          clear HF HM; intro a w7 g7 HF HM
          refine keepS (HM.picks [1, 2, 3, 4, 5] (by decide) rfl) (fun HS => ?_)
          refine any_all [3] (by kernel_rfl) rfl ?_
          refine all_cons ?_ all_nil
          refine any_op HF (i := 3) rfl rfl ?_
          refine e_alloc HF HM (cs := #[.int .i64 0, .int .i64 0, .int .u8 0, .int .u8 0, .int .i64 0, .int .i64 0, .int .i64 0, .int .i64 0, .int .i64 0, .int .u64 0, .int .i64 0]) rfl (by kernel_rfl) rfl (by decide) ?_
          clear HF HM; intro a w8 g8 HF HM
          refine keepS (HM.picks [2, 3, 4, 5, 6] (by decide) rfl) (fun HS => ?_)
          refine any_all [4] (by kernel_rfl) rfl ?_
          refine all_cons ?_ all_nil
          refine any_op HF (i := 4) rfl rfl ?_
          refine e_storeAll HF HM (i := 1) (cs := #[.int .i64 0, .int .i64 0, .int .u8 0, .int .u8 0, .int .i64 0, .int .i64 0, .int .i64 0, .int .i64 0, .int .i64 0, .int .u64 0, .int .i64 0]) (ds := e.cells) rfl rfl rfl rfl ⟨(by kernel_rfl), (by kernel_rfl)⟩ rfl rfl (ev_one e) rfl ?_
          clear HM; intro w8_4 HM
          refine keepS (HM.picks [2, 3, 4, 5, 6] (by decide) rfl) (fun HS => ?_)
          refine any_all [5] (by kernel_rfl) rfl ?_
          refine all_cons ?_ all_nil
          refine any_op HF (i := 5) rfl rfl ?_
          refine e_storeAll HF HM (i := 0) (cs := #[.int .i64 0, .int .i64 0, .int .u8 0, .int .u8 0, .int .i64 0, .int .i64 0, .int .i64 0, .int .i64 0, .int .i64 0, .int .u64 0, .int .i64 0]) (ds := e.cells) rfl rfl rfl rfl ⟨(by kernel_rfl), (by kernel_rfl)⟩ rfl rfl (ev_one e) rfl ?_
          clear HM; intro w8_5 HM
          refine noS (by kernel_rfl) ?_
          refine any_done (by kernel_rfl) ?_
          replace HF := HF.sub (σ' := [(8, .pointer (some ⟨g8, 0, none⟩)), (7, .pointer (some ⟨g7, 0, none⟩)), (6, .pointer (some ⟨g6, 0, none⟩)), (39, .bool true), (38, .int .i64 (jb : Int)), (37, .int .i64 2), (36, .slice (some ⟨g36, 0, none⟩) 2 2), (4, .int .i64 n), (31, .bool true), (30, .int .i64 (ja : Int)), (29, .int .i64 13), (28, .slice (some ⟨g28, 0, none⟩) 13 13), (2, .pointer (some ⟨g2, 0, none⟩)), (1, .pointer (some ⟨g1, 0, none⟩)), (0, .bool false)]) (by kernel_rfl)
          exact ⟨g7, g8, HF.sub (by kernel_rfl), HM.picks [0, 1, 2, 3, 4, 5, 6] (by decide) rfl⟩
        refine all_cons ?_ all_nil
        refine any_op HF (i := 3) rfl rfl ?_
        refine e_alloc HF HM (cs := #[.int .i64 0, .int .i64 0, .int .u8 0, .int .u8 0, .int .i64 0, .int .i64 0, .int .i64 0, .int .i64 0, .int .i64 0, .int .u64 0, .int .i64 0]) rfl (by kernel_rfl) rfl (by decide) ?_
        clear HF HM; intro a w8 g8 HF HM
        refine keepS (HM.picks [1, 2, 3, 4, 5] (by decide) rfl) (fun HS => ?_)
        refine any_all [2] (by kernel_rfl) rfl ?_
        refine all_cons ?_ all_nil
        refine any_op HF (i := 2) rfl rfl ?_
        refine e_alloc HF HM (cs := #[.int .i64 0, .int .i64 0, .int .u8 0, .int .u8 0, .int .i64 0, .int .i64 0, .int .i64 0, .int .i64 0, .int .i64 0, .int .u64 0, .int .i64 0]) rfl (by kernel_rfl) rfl (by decide) ?_
        clear HF HM; intro a w7 g7 HF HM
        refine keepS (HM.picks [2, 3, 4, 5, 6] (by decide) rfl) (fun HS => ?_)
        refine any_all [4] (by kernel_rfl) rfl ?_
        refine all_cons ?_ all_nil
        refine any_op HF (i := 4) rfl rfl ?_
        refine e_storeAll HF HM (i := 0) (cs := #[.int .i64 0, .int .i64 0, .int .u8 0, .int .u8 0, .int .i64 0, .int .i64 0, .int .i64 0, .int .i64 0, .int .i64 0, .int .u64 0, .int .i64 0]) (ds := e.cells) rfl rfl rfl rfl ⟨(by kernel_rfl), (by kernel_rfl)⟩ rfl rfl (ev_one e) rfl ?_
        clear HM; intro w8_4 HM
        refine keepS (HM.picks [2, 3, 4, 5, 6] (by decide) rfl) (fun HS => ?_)
        refine any_all [5] (by kernel_rfl) rfl ?_
        refine all_cons ?_ all_nil
        refine any_op HF (i := 5) rfl rfl ?_
        refine e_storeAll HF HM (i := 1) (cs := #[.int .i64 0, .int .i64 0, .int .u8 0, .int .u8 0, .int .i64 0, .int .i64 0, .int .i64 0, .int .i64 0, .int .i64 0, .int .u64 0, .int .i64 0]) (ds := e.cells) rfl rfl rfl rfl ⟨(by kernel_rfl), (by kernel_rfl)⟩ rfl rfl (ev_one e) rfl ?_
        clear HM; intro w8_5 HM
        refine noS (by kernel_rfl) ?_
        refine any_done (by kernel_rfl) ?_
        replace HF := HF.sub (σ' := [(7, .pointer (some ⟨g7, 0, none⟩)), (8, .pointer (some ⟨g8, 0, none⟩)), (6, .pointer (some ⟨g6, 0, none⟩)), (39, .bool true), (38, .int .i64 (jb : Int)), (37, .int .i64 2), (36, .slice (some ⟨g36, 0, none⟩) 2 2), (4, .int .i64 n), (31, .bool true), (30, .int .i64 (ja : Int)), (29, .int .i64 13), (28, .slice (some ⟨g28, 0, none⟩) 13 13), (2, .pointer (some ⟨g2, 0, none⟩)), (1, .pointer (some ⟨g1, 0, none⟩)), (0, .bool false)]) (by kernel_rfl)
        exact ⟨g7, g8, HF.sub (by kernel_rfl), HM.picks [1, 0, 2, 3, 4, 5, 6] (by decide) rfl⟩
      clear HF HM; rintro a w8 ⟨g7, g8, HF, HM⟩
      refine wp_seq ?_
      refine from_start ?_
      refine from_pures HF 3 0 (j := 3) [(46, .pointer (some ⟨g7, 0, none⟩)), (45, .int .i64 n), (44, .int .i64 n)] (by kernel_rfl) rfl ?_; clear HF; intro a HF
      refine from_op HF (i := 3) rfl rfl ?_
      refine e_store HF HM (i := 1) (cs := e.cells) rfl rfl rfl rfl (by kernel_rfl) rfl rfl (by simp [Ev.cells]) ?_
      clear HM; intro w9_3 HM
      refine from_pures HF 1 4 (j := 5) [(47, .pointer (some ⟨g8, 1, none⟩))] (by kernel_rfl) rfl ?_; clear HF; intro a HF
      refine from_op HF (i := 5) rfl rfl ?_
      refine e_store HF HM (i := 0) (cs := e.cells) rfl rfl rfl rfl (by kernel_rfl) rfl rfl (by simp [Ev.cells]) ?_
      clear HM; intro w9_5 HM
      refine from_done rfl ?_
      replace HF := HF.sub (σ' := [(8, .pointer (some ⟨g8, 0, none⟩)), (7, .pointer (some ⟨g7, 0, none⟩)), (6, .pointer (some ⟨g6, 0, none⟩)), (39, .bool true), (38, .int .i64 (jb : Int)), (37, .int .i64 2), (36, .slice (some ⟨g36, 0, none⟩) 2 2), (4, .int .i64 n), (31, .bool true), (30, .int .i64 (ja : Int)), (29, .int .i64 13), (28, .slice (some ⟨g28, 0, none⟩) 13 13), (2, .pointer (some ⟨g2, 0, none⟩)), (1, .pointer (some ⟨g1, 0, none⟩)), (0, .bool false)]) (by kernel_rfl)
      refine wp_seq ?_
      refine from_start ?_
      refine from_pures HF 1 0 (j := 1) [(48, .int .i64 n)] (by kernel_rfl) rfl ?_; clear HF; intro a HF
      refine from_yl (S := fun wS => Mem w wS _) HF HM (i := 1) rfl rfl (d := 49) rfl (by decide) (v := .agg #[.int .i64 n, .int .i64 0]) (Yl.build (vs := [(0, .int .i64 n)]) rfl (by kernel_rfl) (by kernel_rfl)) ?_; clear HF; intro a HF
      refine from_pures HF 1 2 (j := 3) [(50, .int .i64 n)] (by kernel_rfl) rfl ?_; clear HF; intro a HF
      refine from_yl (S := fun wS => Mem w wS _) HF HM (i := 3) rfl rfl (d := 51) rfl (by decide) (v := .agg #[.int .i64 1, .int .i64 n]) (Yl.build (vs := [(0, .int .i64 1), (1, .int .i64 n)]) rfl (by kernel_rfl) (by kernel_rfl)) ?_; clear HF; intro a HF
      refine from_yl (S := fun wS => Mem w wS _) HF HM (i := 4) rfl rfl (d := 52) rfl (by decide) (v := .agg #[.int .i64 1, .int .i64 0]) (Yl.build (vs := [(0, .int .i64 1)]) rfl (by kernel_rfl) (by kernel_rfl)) ?_; clear HF; intro a HF
      refine from_yl (S := fun wS => Mem w wS _) HF HM (i := 5) rfl rfl (d := 53) rfl (by decide) (v := .agg #[.int .i64 5, .int .i64 340]) (Yl.build (vs := [(0, .int .i64 5), (1, .int .i64 340)]) rfl (by kernel_rfl) (by kernel_rfl)) ?_; clear HF; intro a HF
      refine from_pures HF 2 6 (j := 8) [(55, .int .i64 n), (54, .int .i64 n)] (by kernel_rfl) rfl ?_; clear HF; intro a HF
      refine from_yl (S := fun wS => Mem w wS _) HF HM (i := 8) rfl rfl (d := 56) rfl (by decide) (v := .agg #[.int .i64 n, .int .i64 n]) (Yl.build (vs := [(0, .int .i64 n), (1, .int .i64 n)]) rfl (by kernel_rfl) (by kernel_rfl)) ?_; clear HF; intro a HF
      refine from_op HF (i := 9) rfl rfl ?_
      refine e_slice HF HM (vs := [(0, .agg #[.int .i64 n, .int .i64 0]), (1, .agg #[.int .i64 1, .int .i64 n]), (2, .agg #[.int .i64 1, .int .i64 0]), (3, .agg #[.int .i64 5, .int .i64 340]), (4, .agg #[.int .i64 n, .int .i64 n])]) (cs := #[.int .i64 n, .int .i64 0, .int .i64 1, .int .i64 n, .int .i64 1, .int .i64 0, .int .i64 5, .int .i64 340, .int .i64 n, .int .i64 n]) rfl ei_base (by decide) rfl (by kernel_rfl) rfl (by decide) ?_
      clear HF HM; intro a w57 g57 HF HM
      refine from_yl (S := fun wS => Mem w wS _) HF HM (i := 10) rfl rfl (d := 58) rfl (by decide) (v := .int .i64 5) (Yl.len rfl rfl (by kernel_rfl)) ?_; clear HF; intro a HF
      refine from_pures HF 1 11 (j := 12) [(59, .int .i64 0)] (by kernel_rfl) rfl ?_; clear HF; intro a HF
      refine from_done rfl ?_
      replace HF := HF.sub (σ' := [(59, .int .i64 0), (58, .int .i64 5), (57, .slice (some ⟨g57, 0, none⟩) 5 5), (8, .pointer (some ⟨g8, 0, none⟩)), (7, .pointer (some ⟨g7, 0, none⟩)), (6, .pointer (some ⟨g6, 0, none⟩)), (39, .bool true), (38, .int .i64 (jb : Int)), (37, .int .i64 2), (36, .slice (some ⟨g36, 0, none⟩) 2 2), (4, .int .i64 n), (31, .bool true), (30, .int .i64 (ja : Int)), (29, .int .i64 13), (28, .slice (some ⟨g28, 0, none⟩) 13 13), (2, .pointer (some ⟨g2, 0, none⟩)), (1, .pointer (some ⟨g1, 0, none⟩)), (0, .bool false)]) (by kernel_rfl)
      replace HM := (HM.blkRow (i := 0) (n := 5) (size := 2) rfl rfl (by decide)).asRow (i := 0) (ys := (smallBases n).flatMap bsL) rfl (rfl)
      refine wp_block ?_
      refine loop_nat (fun mS aS wS => ∃ (jd : Nat), (jd ≤ 5) ∧ mS = 5 - jd ∧ Fr aS 259 [] [(59, .int .i64 (jd : Int)), (58, .int .i64 5), (57, .slice (some ⟨g57, 0, none⟩) 5 5), (8, .pointer (some ⟨g8, 0, none⟩)), (7, .pointer (some ⟨g7, 0, none⟩)), (6, .pointer (some ⟨g6, 0, none⟩)), (39, .bool true), (38, .int .i64 (jb : Int)), (37, .int .i64 2), (36, .slice (some ⟨g36, 0, none⟩) 2 2), (4, .int .i64 n), (31, .bool true), (30, .int .i64 (ja : Int)), (29, .int .i64 13), (28, .slice (some ⟨g28, 0, none⟩) 13 13), (2, .pointer (some ⟨g2, 0, none⟩)), (1, .pointer (some ⟨g1, 0, none⟩)), (0, .bool false)] ∧ Mem w wS [.row (.slice (some ⟨g57, 0, none⟩) 5 5) 5 ((smallBases n).flatMap bsL) 23 2, .blk g8 #[.int .i64 e.seq, .int .i64 n, .int .u8 (e.cpu : Int), .int .u8 (e.kind : Int), .int .i64 e.task, .int .i64 e.group, .int .i64 e.to, .int .i64 e.weight, .int .i64 e.ticks, .int .u64 (e.mask : Int), .int .i64 e.got] 37, .blk g7 #[.int .i64 n, .int .i64 e.time, .int .u8 (e.cpu : Int), .int .u8 (e.kind : Int), .int .i64 e.task, .int .i64 e.group, .int .i64 e.to, .int .i64 e.weight, .int .i64 e.ticks, .int .u64 (e.mask : Int), .int .i64 e.got] 37, .blk g6 e.cells 37, .row (.slice (some ⟨g36, 0, none⟩) 2 2) 2 ([exA, exB].flatMap evL) 37 11, .row (.slice (some ⟨g28, 0, none⟩) 13 13) 13 (smallNums.map I64i) 3 1, .blk g2 exB.cells 37, .blk g1 exA.cells 37]) (m := 5 - 0) ⟨0, Nat.zero_le _, rfl, HF.sub (by kernel_rfl), HM.picks [0, 1, 2, 3, 4, 5, 6, 7] (by decide) rfl⟩ ?_
      clear HF HM; rintro mS a w_ ⟨jd, h_jd, rfl, HF, HM⟩
      refine wp_seq ?_
      refine from_start ?_
      refine from_pures HF 1 0 (j := 1) [(60, .bool (decide (((jd : Int) : Int) < (5 : Int))))] (by kernel_rfl) rfl ?_; clear HF; intro a HF
      refine from_done rfl ?_
      refine wp_seq ?_
      rcases Bool.eq_false_or_eq_true (decide (((jd : Int) : Int) < (5 : Int))) with hb60 | hb60
      · have HF := HF.as (t := 60) (u := .bool true) rfl (by rw [hb60])
        have hd : jd < 5 := by have := of_decide_eq_true hb60; omega
        obtain ⟨bb, hbs⟩ : ∃ bb, (smallBases n)[jd]? = some bb := ⟨_, List.getElem?_eq_getElem (by simpa [smallNums, smallBases, smallBytes, someL] using (by omega : jd < 5))⟩
        refine cond_true HF rfl ?_
        refine wp_skip ?_
        refine wp_seq ?_
        refine wp_block ?_
        refine wp_seq ?_
        refine from_start ?_
        refine from_yl (S := fun wS => Mem w wS _) HF HM (i := 0) rfl rfl (d := 61) rfl (by decide) (v := .pointer (some ⟨g57, jd * 2, none⟩)) ((Yl.indexAddr (ad := ⟨g57, 0, none⟩) (y := jd) (sz := 2) rfl rfl rfl (hd) (by kernel_rfl)).as (by rw [Addr.add_mid, Nat.zero_add])) ?_; clear HF; intro a HF
        refine from_yl (S := fun wS => Mem w wS _) HF HM (i := 1) rfl rfl (d := 62) rfl (by decide) (v := .agg bb.cells) (Yl.loadS rfl rfl ⟨(by kernel_rfl), (by kernel_rfl)⟩ rfl (fun _ h => h.rowStruct bsL_len (i := 0) rfl (hbs))) ?_; clear HF; intro a HF
        refine from_op HF (i := 2) rfl rfl ?_
        refine e_alloc HF HM (cs := #[.int .i64 0, .int .i64 0]) rfl (by kernel_rfl) rfl (by decide) ?_
        clear HF HM; intro a w10 g10 HF HM
        refine from_op HF (i := 3) rfl rfl ?_
        refine e_storeAll HF HM (i := 0) (cs := #[.int .i64 0, .int .i64 0]) (ds := bb.cells) rfl rfl rfl rfl ⟨(by kernel_rfl), (by kernel_rfl)⟩ rfl rfl (bs_one bb) rfl ?_
        clear HM; intro w12_3 HM
        refine from_done rfl ?_
        replace HF := HF.sub (σ' := [(10, .pointer (some ⟨g10, 0, none⟩)), (60, .bool true), (59, .int .i64 (jd : Int)), (58, .int .i64 5), (57, .slice (some ⟨g57, 0, none⟩) 5 5), (8, .pointer (some ⟨g8, 0, none⟩)), (7, .pointer (some ⟨g7, 0, none⟩)), (6, .pointer (some ⟨g6, 0, none⟩)), (39, .bool true), (38, .int .i64 (jb : Int)), (37, .int .i64 2), (36, .slice (some ⟨g36, 0, none⟩) 2 2), (4, .int .i64 n), (31, .bool true), (30, .int .i64 (ja : Int)), (29, .int .i64 13), (28, .slice (some ⟨g28, 0, none⟩) 13 13), (2, .pointer (some ⟨g2, 0, none⟩)), (1, .pointer (some ⟨g1, 0, none⟩)), (0, .bool false)]) (by kernel_rfl)
        refine wp_seq ?_
        refine from_start ?_
        refine from_yl (S := fun wS => Mem w wS _) HF HM (i := 0) rfl rfl (d := 63) rfl (by decide) (v := .agg bb.cells) (Yl.loadS rfl rfl ⟨(by kernel_rfl), (by kernel_rfl)⟩ rfl (fun _ h => range_of_block (h.blk (i := 0) rfl))) ?_; clear HF; intro a HF
        refine from_yl (S := fun wS => Mem w wS _) HF HM (i := 1) rfl rfl (d := 64) rfl (by decide) (v := .agg #[.int .i64 n, .int .i64 e.time, .int .u8 (e.cpu : Int), .int .u8 (e.kind : Int), .int .i64 e.task, .int .i64 e.group, .int .i64 e.to, .int .i64 e.weight, .int .i64 e.ticks, .int .u64 (e.mask : Int), .int .i64 e.got]) (Yl.loadS rfl rfl ⟨(by kernel_rfl), (by kernel_rfl)⟩ rfl (fun _ h => range_of_block (h.blk (i := 3) rfl))) ?_; clear HF; intro a HF
        refine from_op HF (i := 2) rfl rfl ?_
        refine e_slice HF HM (vs := [(0, .int .u8 5), (1, .int .u8 0), (2, .int .u8 0), (3, .int .u8 1), (4, .int .u8 0)]) (cs := #[.int .u8 5, .int .u8 0, .int .u8 0, .int .u8 1, .int .u8 0]) rfl ei_u8 (by decide) rfl (by kernel_rfl) rfl (by decide) ?_
        clear HF HM; intro a w65 g65 HF HM
        refine from_op HF (i := 3) rfl rfl ?_
        refine e_call HF (vs := [.agg bb.cells, .agg #[.int .i64 n, .int .i64 e.time, .int .u8 (e.cpu : Int), .int .u8 (e.kind : Int), .int .i64 e.task, .int .i64 e.group, .int .i64 e.to, .int .i64 e.weight, .int .i64 e.ticks, .int .u64 (e.mask : Int), .int .i64 e.got], .int .u8 2, .slice (some ⟨g65, 0, none⟩) 5 5]) rfl (by kernel_rfl) (by kernel_rfl) rfl (by decide) (tells_any bb (⟨n, e.time, e.cpu, e.kind, e.task, e.group, e.to, e.weight, e.ticks, e.mask, e.got⟩ : Ev) (evx_ok hee hn64) 2 (by decide) _ (5) _ ([5, 0, 0, 1, 0]) B _ (hL.mem HM hB) (HM.le hB) (HM.rdBlk (i := 0) (n := 5) (size := 1) rfl rfl) (Nat.le_refl _) (by decide) (by omega)) ?_
        rintro _ w66 ⟨rfl, hbw⟩
        refine ⟨_, rfl, ?_⟩
        replace HM := HM.call hbw
        clear HF; intro a HF
        refine from_pures HF 2 4 (j := 6) [(68, .bool false), (67, .bool false)] (by kernel_rfl) rfl ?_; clear HF; intro a HF
        refine from_yl (S := fun wS => Mem w wS _) HF HM (i := 6) rfl rfl (d := 69) rfl (by decide) (v := .agg bb.cells) (Yl.loadS rfl rfl ⟨(by kernel_rfl), (by kernel_rfl)⟩ rfl (fun _ h => range_of_block (h.blk (i := 1) rfl))) ?_; clear HF; intro a HF
        refine from_yl (S := fun wS => Mem w wS _) HF HM (i := 7) rfl rfl (d := 70) rfl (by decide) (v := .agg #[.int .i64 e.seq, .int .i64 n, .int .u8 (e.cpu : Int), .int .u8 (e.kind : Int), .int .i64 e.task, .int .i64 e.group, .int .i64 e.to, .int .i64 e.weight, .int .i64 e.ticks, .int .u64 (e.mask : Int), .int .i64 e.got]) (Yl.loadS rfl rfl ⟨(by kernel_rfl), (by kernel_rfl)⟩ rfl (fun _ h => range_of_block (h.blk (i := 3) rfl))) ?_; clear HF; intro a HF
        refine from_op HF (i := 8) rfl rfl ?_
        refine e_slice HF HM (vs := [(0, .int .u8 6), (1, .int .u8 0), (2, .int .u8 0), (3, .int .u8 0)]) (cs := #[.int .u8 6, .int .u8 0, .int .u8 0, .int .u8 0]) rfl ei_u8 (by decide) rfl (by kernel_rfl) rfl (by decide) ?_
        clear HF HM; intro a w71 g71 HF HM
        refine from_op HF (i := 9) rfl rfl ?_
        refine e_call HF (vs := [.agg bb.cells, .agg #[.int .i64 e.seq, .int .i64 n, .int .u8 (e.cpu : Int), .int .u8 (e.kind : Int), .int .i64 e.task, .int .i64 e.group, .int .i64 e.to, .int .i64 e.weight, .int .i64 e.ticks, .int .u64 (e.mask : Int), .int .i64 e.got], .int .u8 2, .slice (some ⟨g71, 0, none⟩) 4 4]) rfl (by kernel_rfl) (by kernel_rfl) rfl (by decide) (tells_any bb (⟨e.seq, n, e.cpu, e.kind, e.task, e.group, e.to, e.weight, e.ticks, e.mask, e.got⟩ : Ev) (evy_ok hee hn64) 2 (by decide) _ (4) _ ([6, 0, 0, 0]) B _ (hL.mem HM hB) (HM.le hB) (HM.rdBlk (i := 0) (n := 4) (size := 1) rfl rfl) (Nat.le_refl _) (by decide) (by omega)) ?_
        rintro _ w72 ⟨rfl, hbw⟩
        refine ⟨_, rfl, ?_⟩
        replace HM := HM.call hbw
        clear HF; intro a HF
        refine from_pures HF 3 10 (j := 13) [(75, .bool false), (74, .bool false), (73, .bool false)] (by kernel_rfl) rfl ?_; clear HF; intro a HF
        refine from_yl (S := fun wS => Mem w wS _) HF HM (i := 13) rfl rfl (d := 76) rfl (by decide) (v := .agg bb.cells) (Yl.loadS rfl rfl ⟨(by kernel_rfl), (by kernel_rfl)⟩ rfl (fun _ h => range_of_block (h.blk (i := 2) rfl))) ?_; clear HF; intro a HF
        refine from_yl (S := fun wS => Mem w wS _) HF HM (i := 14) rfl rfl (d := 77) rfl (by decide) (v := .agg #[.int .i64 n, .int .i64 e.time, .int .u8 (e.cpu : Int), .int .u8 (e.kind : Int), .int .i64 e.task, .int .i64 e.group, .int .i64 e.to, .int .i64 e.weight, .int .i64 e.ticks, .int .u64 (e.mask : Int), .int .i64 e.got]) (Yl.loadS rfl rfl ⟨(by kernel_rfl), (by kernel_rfl)⟩ rfl (fun _ h => range_of_block (h.blk (i := 5) rfl))) ?_; clear HF; intro a HF
        refine from_yl (S := fun wS => Mem w wS _) HF HM (i := 15) rfl rfl (d := 78) rfl (by decide) (v := .agg #[.int .i64 e.seq, .int .i64 n, .int .u8 (e.cpu : Int), .int .u8 (e.kind : Int), .int .i64 e.task, .int .i64 e.group, .int .i64 e.to, .int .i64 e.weight, .int .i64 e.ticks, .int .u64 (e.mask : Int), .int .i64 e.got]) (Yl.loadS rfl rfl ⟨(by kernel_rfl), (by kernel_rfl)⟩ rfl (fun _ h => range_of_block (h.blk (i := 4) rfl))) ?_; clear HF; intro a HF
        refine from_op HF (i := 16) rfl rfl ?_
        refine e_slice HF HM (vs := [(0, .agg #[.int .i64 n, .int .i64 e.time, .int .u8 (e.cpu : Int), .int .u8 (e.kind : Int), .int .i64 e.task, .int .i64 e.group, .int .i64 e.to, .int .i64 e.weight, .int .i64 e.ticks, .int .u64 (e.mask : Int), .int .i64 e.got]), (1, .agg #[.int .i64 e.seq, .int .i64 n, .int .u8 (e.cpu : Int), .int .u8 (e.kind : Int), .int .i64 e.task, .int .i64 e.group, .int .i64 e.to, .int .i64 e.weight, .int .i64 e.ticks, .int .u64 (e.mask : Int), .int .i64 e.got])]) (cs := #[.int .i64 n, .int .i64 e.time, .int .u8 (e.cpu : Int), .int .u8 (e.kind : Int), .int .i64 e.task, .int .i64 e.group, .int .i64 e.to, .int .i64 e.weight, .int .i64 e.ticks, .int .u64 (e.mask : Int), .int .i64 e.got, .int .i64 e.seq, .int .i64 n, .int .u8 (e.cpu : Int), .int .u8 (e.kind : Int), .int .i64 e.task, .int .i64 e.group, .int .i64 e.to, .int .i64 e.weight, .int .i64 e.ticks, .int .u64 (e.mask : Int), .int .i64 e.got]) rfl ei_ev (by decide) rfl (by kernel_rfl) rfl (by decide) ?_
        clear HF HM; intro a w79 g79 HF HM
        refine from_pures HF 1 17 (j := 18) [(80, .int .i64 n)] (by kernel_rfl) rfl ?_; clear HF; intro a HF
        refine from_yl (S := fun wS => Mem w wS _) HF HM (i := 18) rfl rfl (d := 81) rfl (by decide) (v := .agg #[.int .i64 bb.seq, .int .i64 bb.time, .slice (some ⟨g79, 0, none⟩) 2 2, .int .u8 2, .int .i64 n, .slice none 0 0]) (Yl.build (vs := [(0, .agg bb.cells), (1, .slice (some ⟨g79, 0, none⟩) 2 2), (2, .int .u8 2), (3, .int .i64 n), (4, .slice none 0 0)]) rfl (by kernel_rfl) (by kernel_rfl)) ?_; clear HF; intro a HF
        refine from_op HF (i := 19) rfl rfl ?_
        refine e_call HF (vs := [.agg #[.int .i64 bb.seq, .int .i64 bb.time, .slice (some ⟨g79, 0, none⟩) 2 2, .int .u8 2, .int .i64 n, .slice none 0 0]]) rfl (by kernel_rfl) (by kernel_rfl) rfl (by decide) (rows_any (⟨bb.seq, bb.time⟩ : Bs) (some ⟨g79, 0, none⟩) (2) (2) 2 n (none) (0) (0) [(⟨n, e.time, e.cpu, e.kind, e.task, e.group, e.to, e.weight, e.ticks, e.mask, e.got⟩ : Ev), (⟨e.seq, n, e.cpu, e.kind, e.task, e.group, e.to, e.weight, e.ticks, e.mask, e.got⟩ : Ev)] ([]) (by decide) (hn64) (ok_two (evx_ok hee hn64) (evy_ok hee hn64)) (Nat.le_refl _) (fun _ h => by cases h) (by omega) (by omega) B _ (hL.mem HM hB) (HM.le hB) (HM.rdBlk (i := 0) (n := 2) (size := 11) rfl rfl) (Rd.nil)) ?_
        rintro _ w82 ⟨rfl, hbw⟩
        refine ⟨_, rfl, ?_⟩
        replace HM := HM.call hbw
        clear HF; intro a HF
        refine from_pures HF 3 20 (j := 23) [(85, .bool false), (84, .bool false), (83, .bool false)] (by kernel_rfl) rfl ?_; clear HF; intro a HF
        refine from_yl (S := fun wS => Mem w wS _) HF HM (i := 23) rfl rfl (d := 86) rfl (by decide) (v := .agg bb.cells) (Yl.loadS rfl rfl ⟨(by kernel_rfl), (by kernel_rfl)⟩ rfl (fun _ h => range_of_block (h.blk (i := 3) rfl))) ?_; clear HF; intro a HF
        refine from_yl (S := fun wS => Mem w wS _) HF HM (i := 24) rfl rfl (d := 87) rfl (by decide) (v := .agg #[.int .i64 bb.seq, .int .i64 bb.time, .slice none 0 0, .int .u8 0, .int .i64 0, .slice none 0 0]) (Yl.build (vs := [(0, .agg bb.cells), (1, .slice none 0 0), (2, .int .u8 0), (3, .int .i64 0), (4, .slice none 0 0)]) rfl (by kernel_rfl) (by kernel_rfl)) ?_; clear HF; intro a HF
        refine from_op HF (i := 25) rfl rfl ?_
        refine e_call HF (vs := [.agg #[.int .i64 bb.seq, .int .i64 bb.time, .slice none 0 0, .int .u8 0, .int .i64 0, .slice none 0 0]]) rfl (by kernel_rfl) (by kernel_rfl) rfl (by decide) (rows_any (⟨bb.seq, bb.time⟩ : Bs) (none) (0) (0) 0 0 (none) (0) (0) [] ([]) (by decide) (⟨by decide, by decide⟩) (fun _ h => by cases h) (Nat.le_refl _) (fun _ h => by cases h) (by omega) (by omega) B _ (hL.mem HM hB) (HM.le hB) (Rd.nil) (Rd.nil)) ?_
        rintro _ w88 ⟨rfl, hbw⟩
        refine ⟨_, rfl, ?_⟩
        replace HM := HM.call hbw
        clear HF; intro a HF
        refine from_pures HF 2 26 (j := 28) [(90, .bool false), (89, .bool false)] (by kernel_rfl) rfl ?_; clear HF; intro a HF
        refine from_done rfl ?_
        replace HF := HF.sub (σ' := [(90, .bool false), (10, .pointer (some ⟨g10, 0, none⟩)), (60, .bool true), (59, .int .i64 (jd : Int)), (58, .int .i64 5), (57, .slice (some ⟨g57, 0, none⟩) 5 5), (8, .pointer (some ⟨g8, 0, none⟩)), (7, .pointer (some ⟨g7, 0, none⟩)), (6, .pointer (some ⟨g6, 0, none⟩)), (39, .bool true), (38, .int .i64 (jb : Int)), (37, .int .i64 2), (36, .slice (some ⟨g36, 0, none⟩) 2 2), (4, .int .i64 n), (31, .bool true), (30, .int .i64 (ja : Int)), (29, .int .i64 13), (28, .slice (some ⟨g28, 0, none⟩) 13 13), (2, .pointer (some ⟨g2, 0, none⟩)), (1, .pointer (some ⟨g1, 0, none⟩)), (0, .bool false)]) (by kernel_rfl)
        replace HM := HM.picks (fs' := [.blk g10 bb.cells 23, .row (.slice (some ⟨g57, 0, none⟩) 5 5) 5 ((smallBases n).flatMap bsL) 23 2, .blk g8 #[.int .i64 e.seq, .int .i64 n, .int .u8 (e.cpu : Int), .int .u8 (e.kind : Int), .int .i64 e.task, .int .i64 e.group, .int .i64 e.to, .int .i64 e.weight, .int .i64 e.ticks, .int .u64 (e.mask : Int), .int .i64 e.got] 37, .blk g7 #[.int .i64 n, .int .i64 e.time, .int .u8 (e.cpu : Int), .int .u8 (e.kind : Int), .int .i64 e.task, .int .i64 e.group, .int .i64 e.to, .int .i64 e.weight, .int .i64 e.ticks, .int .u64 (e.mask : Int), .int .i64 e.got] 37, .blk g6 e.cells 37, .row (.slice (some ⟨g36, 0, none⟩) 2 2) 2 ([exA, exB].flatMap evL) 37 11, .row (.slice (some ⟨g28, 0, none⟩) 13 13) 13 (smallNums.map I64i) 3 1, .blk g2 exB.cells 37, .blk g1 exA.cells 37]) [3, 4, 5, 6, 7, 8, 9, 10, 11] (by decide) rfl
        refine cond_false HF rfl ?_
        refine wp_skip ?_
        refine from_start ?_
        refine from_pures HF 1 0 (j := 1) [(91, .int .i64 (IntKind.i64.wrap ((jd : Int) + 1)))] (by kernel_rfl) rfl ?_; clear HF; intro a HF
        replace HF := HF.as (t := 91) (u := .int .i64 ((jd + 1 : Nat) : Int)) rfl (by rw [IntWalk.i64_in _ (by omega)]; simp)
        refine from_pures HF 1 1 (j := 2) [(59, .int .i64 ((jd + 1 : Nat) : Int))] (by kernel_rfl) rfl ?_; clear HF; intro a HF
        refine from_done rfl ?_
        replace HF := HF.sub (σ' := [(59, .int .i64 ((jd + 1 : Nat) : Int)), (90, .bool false), (10, .pointer (some ⟨g10, 0, none⟩)), (60, .bool true), (58, .int .i64 5), (57, .slice (some ⟨g57, 0, none⟩) 5 5), (8, .pointer (some ⟨g8, 0, none⟩)), (7, .pointer (some ⟨g7, 0, none⟩)), (6, .pointer (some ⟨g6, 0, none⟩)), (39, .bool true), (38, .int .i64 (jb : Int)), (37, .int .i64 2), (36, .slice (some ⟨g36, 0, none⟩) 2 2), (4, .int .i64 n), (31, .bool true), (30, .int .i64 (ja : Int)), (29, .int .i64 13), (28, .slice (some ⟨g28, 0, none⟩) 13 13), (2, .pointer (some ⟨g2, 0, none⟩)), (1, .pointer (some ⟨g1, 0, none⟩)), (0, .bool false)]) (by kernel_rfl)
        exact ⟨_, (by omega), jd + 1, by omega, rfl, HF.sub (by kernel_rfl), HM.picks [1, 2, 3, 4, 5, 6, 7, 8] (by decide) rfl⟩
      · have HF := HF.as (t := 60) (u := .bool false) rfl (by rw [hb60])
        refine cond_false HF rfl ?_
        refine wp_exit ?_
        refine from_start ?_
        refine from_pures HF 1 0 (j := 1) [(92, .int .i64 (IntKind.i64.wrap ((jb : Int) + 1)))] (by kernel_rfl) rfl ?_; clear HF; intro a HF
        replace HF := HF.as (t := 92) (u := .int .i64 ((jb + 1 : Nat) : Int)) rfl (by rw [IntWalk.i64_in _ (by omega)]; simp)
        refine from_pures HF 1 1 (j := 2) [(38, .int .i64 ((jb + 1 : Nat) : Int))] (by kernel_rfl) rfl ?_; clear HF; intro a HF
        refine from_done rfl ?_
        replace HF := HF.sub (σ' := [(38, .int .i64 ((jb + 1 : Nat) : Int)), (60, .bool false), (59, .int .i64 (jd : Int)), (58, .int .i64 5), (57, .slice (some ⟨g57, 0, none⟩) 5 5), (8, .pointer (some ⟨g8, 0, none⟩)), (7, .pointer (some ⟨g7, 0, none⟩)), (6, .pointer (some ⟨g6, 0, none⟩)), (39, .bool true), (37, .int .i64 2), (36, .slice (some ⟨g36, 0, none⟩) 2 2), (4, .int .i64 n), (31, .bool true), (30, .int .i64 (ja : Int)), (29, .int .i64 13), (28, .slice (some ⟨g28, 0, none⟩) 13 13), (2, .pointer (some ⟨g2, 0, none⟩)), (1, .pointer (some ⟨g1, 0, none⟩)), (0, .bool false)]) (by kernel_rfl)
        exact ⟨_, (by omega), jb + 1, by omega, rfl, HF.sub (by kernel_rfl), HM.picks [4, 5, 6, 7] (by decide) rfl⟩
    · have HF := HF.as (t := 39) (u := .bool false) rfl (by rw [hb39])
      refine cond_false HF rfl ?_
      refine wp_exit ?_
      refine from_start ?_
      refine from_pures HF 1 0 (j := 1) [(93, .int .i64 (IntKind.i64.wrap ((ja : Int) + 1)))] (by kernel_rfl) rfl ?_; clear HF; intro a HF
      replace HF := HF.as (t := 93) (u := .int .i64 ((ja + 1 : Nat) : Int)) rfl (by rw [IntWalk.i64_in _ (by omega)]; simp)
      refine from_pures HF 1 1 (j := 2) [(30, .int .i64 ((ja + 1 : Nat) : Int))] (by kernel_rfl) rfl ?_; clear HF; intro a HF
      refine from_done rfl ?_
      replace HF := HF.sub (σ' := [(30, .int .i64 ((ja + 1 : Nat) : Int)), (39, .bool false), (38, .int .i64 (jb : Int)), (37, .int .i64 2), (36, .slice (some ⟨g36, 0, none⟩) 2 2), (4, .int .i64 n), (31, .bool true), (29, .int .i64 13), (28, .slice (some ⟨g28, 0, none⟩) 13 13), (2, .pointer (some ⟨g2, 0, none⟩)), (1, .pointer (some ⟨g1, 0, none⟩)), (0, .bool false)]) (by kernel_rfl)
      exact ⟨_, (by omega), ja + 1, by omega, rfl, HF.sub (by kernel_rfl), HM.picks [1, 2, 3] (by decide) rfl⟩
  · have HF := HF.as (t := 31) (u := .bool false) rfl (by rw [hb31])
    refine cond_false HF rfl ?_
    refine wp_exit ?_
    refine wp_seq ?_
    refine from_start ?_
    refine from_yl (S := fun wS => Mem w wS _) HF HM (i := 0) rfl rfl (d := 94) rfl (by decide) (v := .agg mostE.cells) ((Yl.build (vs := [(0, .int .i64 281474976710656), (1, .int .i64 281474976710656), (2, .int .u8 63), (3, .int .u8 1), (4, .int .i64 65535), (5, .int .i64 255), (7, .int .i64 65536), (9, .int .u64 18446744073709551615)]) rfl (by kernel_rfl) (by kernel_rfl))) ?_; clear HF; intro a HF
    refine from_op HF (i := 1) rfl rfl ?_
    refine e_alloc HF HM (cs := #[.int .i64 0, .int .i64 0, .int .u8 0, .int .u8 0, .int .i64 0, .int .i64 0, .int .i64 0, .int .i64 0, .int .i64 0, .int .u64 0, .int .i64 0]) rfl (by kernel_rfl) rfl (by decide) ?_
    clear HF HM; intro a w11 g11 HF HM
    refine from_op HF (i := 2) rfl rfl ?_
    refine e_storeAll HF HM (i := 0) (cs := #[.int .i64 0, .int .i64 0, .int .u8 0, .int .u8 0, .int .i64 0, .int .i64 0, .int .i64 0, .int .i64 0, .int .i64 0, .int .u64 0, .int .i64 0]) (ds := mostE.cells) rfl rfl rfl rfl ⟨(by kernel_rfl), (by kernel_rfl)⟩ rfl rfl (ev_one mostE) rfl ?_
    clear HM; intro w18_2 HM
    refine from_done rfl ?_
    replace HF := HF.sub (σ' := [(11, .pointer (some ⟨g11, 0, none⟩)), (31, .bool false), (30, .int .i64 (ja : Int)), (29, .int .i64 13), (28, .slice (some ⟨g28, 0, none⟩) 13 13), (2, .pointer (some ⟨g2, 0, none⟩)), (1, .pointer (some ⟨g1, 0, none⟩)), (0, .bool false)]) (by kernel_rfl)
    refine wp_seq ?_
    refine wp_seq ?_
    refine from_start ?_
    refine from_yl (S := fun wS => Mem w wS _) HF HM (i := 0) rfl rfl (d := 95) rfl (by decide) (v := .agg exA.cells) (Yl.loadS rfl rfl ⟨(by kernel_rfl), (by kernel_rfl)⟩ rfl (fun _ h => range_of_block (h.blk (i := 3) rfl))) ?_; clear HF; intro a HF
    refine from_yl (S := fun wS => Mem w wS _) HF HM (i := 1) rfl rfl (d := 96) rfl (by decide) (v := .agg exB.cells) (Yl.loadS rfl rfl ⟨(by kernel_rfl), (by kernel_rfl)⟩ rfl (fun _ h => range_of_block (h.blk (i := 2) rfl))) ?_; clear HF; intro a HF
    refine from_yl (S := fun wS => Mem w wS _) HF HM (i := 2) rfl rfl (d := 97) rfl (by decide) (v := .agg mostE.cells) (Yl.loadS rfl rfl ⟨(by kernel_rfl), (by kernel_rfl)⟩ rfl (fun _ h => range_of_block (h.blk (i := 0) rfl))) ?_; clear HF; intro a HF
    refine from_op HF (i := 3) rfl rfl ?_
    refine e_slice HF HM (vs := [(0, .agg exA.cells), (1, .agg exB.cells), (2, .agg mostE.cells)]) (cs := #[.int .i64 exA.seq, .int .i64 exA.time, .int .u8 (exA.cpu : Int), .int .u8 (exA.kind : Int), .int .i64 exA.task, .int .i64 exA.group, .int .i64 exA.to, .int .i64 exA.weight, .int .i64 exA.ticks, .int .u64 (exA.mask : Int), .int .i64 exA.got, .int .i64 exB.seq, .int .i64 exB.time, .int .u8 (exB.cpu : Int), .int .u8 (exB.kind : Int), .int .i64 exB.task, .int .i64 exB.group, .int .i64 exB.to, .int .i64 exB.weight, .int .i64 exB.ticks, .int .u64 (exB.mask : Int), .int .i64 exB.got, .int .i64 mostE.seq, .int .i64 mostE.time, .int .u8 (mostE.cpu : Int), .int .u8 (mostE.kind : Int), .int .i64 mostE.task, .int .i64 mostE.group, .int .i64 mostE.to, .int .i64 mostE.weight, .int .i64 mostE.ticks, .int .u64 (mostE.mask : Int), .int .i64 mostE.got]) rfl ei_ev (by decide) rfl (by kernel_rfl) rfl (by decide) ?_
    clear HF HM; intro a w98 g98 HF HM
    refine from_yl (S := fun wS => Mem w wS _) HF HM (i := 4) rfl rfl (d := 99) rfl (by decide) (v := .int .i64 3) (Yl.len rfl rfl (by kernel_rfl)) ?_; clear HF; intro a HF
    refine from_pures HF 1 5 (j := 6) [(100, .int .i64 0)] (by kernel_rfl) rfl ?_; clear HF; intro a HF
    refine from_done rfl ?_
    replace HF := HF.sub (σ' := [(100, .int .i64 0), (99, .int .i64 3), (98, .slice (some ⟨g98, 0, none⟩) 3 3), (11, .pointer (some ⟨g11, 0, none⟩)), (31, .bool false), (30, .int .i64 (ja : Int)), (29, .int .i64 13), (28, .slice (some ⟨g28, 0, none⟩) 13 13), (2, .pointer (some ⟨g2, 0, none⟩)), (1, .pointer (some ⟨g1, 0, none⟩)), (0, .bool false)]) (by kernel_rfl)
    replace HM := (HM.blkRow (i := 0) (n := 3) (size := 11) rfl rfl (by decide)).asRow (i := 0) (ys := [exA, exB, mostE].flatMap evL) rfl (rfl)
    refine wp_block ?_
    refine loop_nat (fun mS aS wS => ∃ (ma : Nat), (ma ≤ 3) ∧ mS = 3 - ma ∧ Fr aS 259 [] [(100, .int .i64 (ma : Int)), (99, .int .i64 3), (98, .slice (some ⟨g98, 0, none⟩) 3 3), (11, .pointer (some ⟨g11, 0, none⟩)), (31, .bool false), (30, .int .i64 (ja : Int)), (29, .int .i64 13), (28, .slice (some ⟨g28, 0, none⟩) 13 13), (2, .pointer (some ⟨g2, 0, none⟩)), (1, .pointer (some ⟨g1, 0, none⟩)), (0, .bool false)] ∧ Mem w wS [.row (.slice (some ⟨g98, 0, none⟩) 3 3) 3 ([exA, exB, mostE].flatMap evL) 37 11, .blk g11 mostE.cells 37, .row (.slice (some ⟨g28, 0, none⟩) 13 13) 13 (smallNums.map I64i) 3 1, .blk g2 exB.cells 37, .blk g1 exA.cells 37]) (m := 3 - 0) ⟨0, Nat.zero_le _, rfl, HF.sub (by kernel_rfl), HM.picks [0, 1, 2, 3, 4] (by decide) rfl⟩ ?_
    clear HF HM; rintro mS a w_ ⟨ma, h_ma, rfl, HF, HM⟩
    refine wp_seq ?_
    refine from_start ?_
    refine from_pures HF 1 0 (j := 1) [(101, .bool (decide (((ma : Int) : Int) < (3 : Int))))] (by kernel_rfl) rfl ?_; clear HF; intro a HF
    refine from_done rfl ?_
    refine wp_seq ?_
    rcases Bool.eq_false_or_eq_true (decide (((ma : Int) : Int) < (3 : Int))) with hb101 | hb101
    · have HF := HF.as (t := 101) (u := .bool true) rfl (by rw [hb101])
      have ha : ma < 3 := by have := of_decide_eq_true hb101; omega
      obtain ⟨e, he⟩ : ∃ e, [exA, exB, mostE][ma]? = some e := ⟨_, List.getElem?_eq_getElem (by simpa [smallNums, smallBases, smallBytes, someL] using (by omega : ma < 3))⟩
      have hee := ok_three exA_ok exB_ok mostE_ok e (List.mem_of_getElem? he)
      have hle := putOut_le ⟨1, 0⟩ e
      refine cond_true HF rfl ?_
      refine wp_skip ?_
      refine wp_seq ?_
      refine wp_block ?_
      refine wp_seq ?_
      refine from_start ?_
      refine from_yl (S := fun wS => Mem w wS _) HF HM (i := 0) rfl rfl (d := 102) rfl (by decide) (v := .pointer (some ⟨g98, ma * 11, none⟩)) ((Yl.indexAddr (ad := ⟨g98, 0, none⟩) (y := ma) (sz := 11) rfl rfl rfl (ha) (by kernel_rfl)).as (by rw [Addr.add_mid, Nat.zero_add])) ?_; clear HF; intro a HF
      refine from_yl (S := fun wS => Mem w wS _) HF HM (i := 1) rfl rfl (d := 103) rfl (by decide) (v := .agg e.cells) (Yl.loadS rfl rfl ⟨(by kernel_rfl), (by kernel_rfl)⟩ rfl (fun _ h => h.rowStruct evL_len (i := 0) rfl (he))) ?_; clear HF; intro a HF
      refine from_op HF (i := 2) rfl rfl ?_
      refine e_alloc HF HM (cs := #[.int .i64 0, .int .i64 0, .int .u8 0, .int .u8 0, .int .i64 0, .int .i64 0, .int .i64 0, .int .i64 0, .int .i64 0, .int .u64 0, .int .i64 0]) rfl (by kernel_rfl) rfl (by decide) ?_
      clear HF HM; intro a w13 g13 HF HM
      refine from_op HF (i := 3) rfl rfl ?_
      refine e_storeAll HF HM (i := 0) (cs := #[.int .i64 0, .int .i64 0, .int .u8 0, .int .u8 0, .int .i64 0, .int .i64 0, .int .i64 0, .int .i64 0, .int .i64 0, .int .u64 0, .int .i64 0]) (ds := e.cells) rfl rfl rfl rfl ⟨(by kernel_rfl), (by kernel_rfl)⟩ rfl rfl (ev_one e) rfl ?_
      clear HM; intro w21_3 HM
      refine from_done rfl ?_
      replace HF := HF.sub (σ' := [(13, .pointer (some ⟨g13, 0, none⟩)), (101, .bool true), (100, .int .i64 (ma : Int)), (99, .int .i64 3), (98, .slice (some ⟨g98, 0, none⟩) 3 3), (11, .pointer (some ⟨g11, 0, none⟩)), (31, .bool false), (30, .int .i64 (ja : Int)), (29, .int .i64 13), (28, .slice (some ⟨g28, 0, none⟩) 13 13), (2, .pointer (some ⟨g2, 0, none⟩)), (1, .pointer (some ⟨g1, 0, none⟩)), (0, .bool false)]) (by kernel_rfl)
      refine wp_seq ?_
      refine from_start ?_
      refine from_yl (S := fun wS => Mem w wS _) HF HM (i := 0) rfl rfl (d := 105) rfl (by decide) (v := .agg #[.int .i64 1, .int .i64 0]) (Yl.build (vs := [(0, .int .i64 1)]) rfl (by kernel_rfl) (by kernel_rfl)) ?_; clear HF; intro a HF
      refine from_yl (S := fun wS => Mem w wS _) HF HM (i := 1) rfl rfl (d := 106) rfl (by decide) (v := .agg e.cells) (Yl.loadS rfl rfl ⟨(by kernel_rfl), (by kernel_rfl)⟩ rfl (fun _ h => range_of_block (h.blk (i := 0) rfl))) ?_; clear HF; intro a HF
      refine from_op HF (i := 2) rfl rfl ?_
      refine e_call HF (vs := [.agg #[.int .i64 1, .int .i64 0], .agg e.cells]) rfl (by kernel_rfl) (by kernel_rfl) rfl (by decide) (put07_any ⟨1, 0⟩ e hee _) ?_
      rintro _ w107 ⟨⟨A107, c107, rfl, ho, hc107⟩, hbw⟩
      refine ⟨_, rfl, ?_⟩
      replace HM := HM.callRow hbw ho
      clear HF; intro a HF
      refine from_pures HF 5 3 (j := 8) [(15, .int .i64 (putErr ⟨1, 0⟩ e : Int)), (14, .slice A107 ((putOut ⟨1, 0⟩ e).length) c107), (109, .int .i64 (putErr ⟨1, 0⟩ e : Int)), (108, .slice A107 ((putOut ⟨1, 0⟩ e).length) c107), (104, .tuple #[.slice A107 ((putOut ⟨1, 0⟩ e).length) c107, .int .i64 (putErr ⟨1, 0⟩ e : Int)])] (by kernel_rfl) rfl ?_; clear HF; intro a HF
      refine from_done rfl ?_
      replace HF := HF.sub (σ' := [(14, .slice A107 ((putOut ⟨1, 0⟩ e).length) c107), (13, .pointer (some ⟨g13, 0, none⟩)), (101, .bool true), (100, .int .i64 (ma : Int)), (99, .int .i64 3), (98, .slice (some ⟨g98, 0, none⟩) 3 3), (11, .pointer (some ⟨g11, 0, none⟩)), (31, .bool false), (30, .int .i64 (ja : Int)), (29, .int .i64 13), (28, .slice (some ⟨g28, 0, none⟩) 13 13), (2, .pointer (some ⟨g2, 0, none⟩)), (1, .pointer (some ⟨g1, 0, none⟩)), (0, .bool false)]) (by kernel_rfl)
      refine wp_seq ?_
      refine from_start ?_
      refine from_pures HF 1 0 (j := 1) [(16, .int .i64 0)] (by kernel_rfl) rfl ?_; clear HF; intro a HF
      refine from_done rfl ?_
      refine wp_block ?_
      refine loop_nat (fun mS aS wS => ∃ (i : Nat), (i ≤ ((putOut ⟨1, 0⟩ e).length + 1)) ∧ mS = ((putOut ⟨1, 0⟩ e).length + 1) - i ∧ Fr aS 259 [] [(16, .int .i64 (i : Int)), (14, .slice A107 ((putOut ⟨1, 0⟩ e).length) c107), (13, .pointer (some ⟨g13, 0, none⟩)), (101, .bool true), (100, .int .i64 (ma : Int)), (99, .int .i64 3), (98, .slice (some ⟨g98, 0, none⟩) 3 3), (11, .pointer (some ⟨g11, 0, none⟩)), (31, .bool false), (30, .int .i64 (ja : Int)), (29, .int .i64 13), (28, .slice (some ⟨g28, 0, none⟩) 13 13), (2, .pointer (some ⟨g2, 0, none⟩)), (1, .pointer (some ⟨g1, 0, none⟩)), (0, .bool false)] ∧ Mem w wS [.row (.slice A107 ((putOut ⟨1, 0⟩ e).length) c107) ((putOut ⟨1, 0⟩ e).length) ((putOut ⟨1, 0⟩ e).map B8) 5 1, .blk g13 e.cells 37, .row (.slice (some ⟨g98, 0, none⟩) 3 3) 3 ([exA, exB, mostE].flatMap evL) 37 11, .blk g11 mostE.cells 37, .row (.slice (some ⟨g28, 0, none⟩) 13 13) 13 (smallNums.map I64i) 3 1, .blk g2 exB.cells 37, .blk g1 exA.cells 37]) (m := ((putOut ⟨1, 0⟩ e).length + 1) - 0) ⟨0, Nat.zero_le _, rfl, HF.sub (by kernel_rfl), HM.picks [0, 1, 2, 3, 4, 5, 6] (by decide) rfl⟩ ?_
      clear HF HM; rintro mS a w_ ⟨i, h_i, rfl, HF, HM⟩
      refine wp_seq ?_
      refine wp_seq ?_
      refine from_start ?_
      refine from_pures HF 2 0 (j := 2) [(111, .slice A107 ((putOut ⟨1, 0⟩ e).length) c107), (110, .int .i64 (i : Int))] (by kernel_rfl) rfl ?_; clear HF; intro a HF
      refine from_yl (S := fun wS => Mem w wS _) HF HM (i := 2) rfl rfl (d := 112) rfl (by decide) (v := .int .i64 (((putOut ⟨1, 0⟩ e).length : Nat) : Int)) (Yl.len rfl rfl (by kernel_rfl)) ?_; clear HF; intro a HF
      refine from_pures HF 1 3 (j := 4) [(113, .bool (decide (((i : Int) : Int) ≤ ((((putOut ⟨1, 0⟩ e).length : Nat) : Int) : Int))))] (by kernel_rfl) rfl ?_; clear HF; intro a HF
      refine from_done rfl ?_
      replace HF := HF.sub (σ' := [(113, .bool (decide (((i : Int) : Int) ≤ ((((putOut ⟨1, 0⟩ e).length : Nat) : Int) : Int)))), (16, .int .i64 (i : Int)), (14, .slice A107 ((putOut ⟨1, 0⟩ e).length) c107), (13, .pointer (some ⟨g13, 0, none⟩)), (101, .bool true), (100, .int .i64 (ma : Int)), (99, .int .i64 3), (98, .slice (some ⟨g98, 0, none⟩) 3 3), (11, .pointer (some ⟨g11, 0, none⟩)), (31, .bool false), (30, .int .i64 (ja : Int)), (29, .int .i64 13), (28, .slice (some ⟨g28, 0, none⟩) 13 13), (2, .pointer (some ⟨g2, 0, none⟩)), (1, .pointer (some ⟨g1, 0, none⟩)), (0, .bool false)]) (by kernel_rfl)
      rcases Bool.eq_false_or_eq_true (decide (((i : Int) : Int) ≤ ((((putOut ⟨1, 0⟩ e).length : Nat) : Int) : Int))) with hb113 | hb113
      · have HF := HF.as (t := 113) (u := .bool true) rfl (by rw [hb113])
        have hir : i ≤ (putOut ⟨1, 0⟩ e).length := by have := of_decide_eq_true hb113; omega
        refine cond_true HF rfl ?_
        refine wp_skip ?_
        refine wp_seq ?_
        refine wp_block ?_
        refine wp_seq ?_
        refine from_start ?_
        refine from_op HF (i := 0) rfl rfl ?_
        refine e_slice HF HM (vs := [(0, .int .u8 0), (1, .int .u8 1), (2, .int .u8 2), (3, .int .u8 127), (4, .int .u8 128), (5, .int .u8 129), (6, .int .u8 255)]) (cs := #[.int .u8 0, .int .u8 1, .int .u8 2, .int .u8 127, .int .u8 128, .int .u8 129, .int .u8 255]) rfl ei_u8 (by decide) rfl (by kernel_rfl) rfl (by decide) ?_
        clear HF HM; intro a w116 g116 HF HM
        refine from_yl (S := fun wS => Mem w wS _) HF HM (i := 1) rfl rfl (d := 117) rfl (by decide) (v := .int .i64 7) (Yl.len rfl rfl (by kernel_rfl)) ?_; clear HF; intro a HF
        refine from_pures HF 1 2 (j := 3) [(118, .int .i64 0)] (by kernel_rfl) rfl ?_; clear HF; intro a HF
        refine from_done rfl ?_
        replace HF := HF.sub (σ' := [(118, .int .i64 0), (117, .int .i64 7), (116, .slice (some ⟨g116, 0, none⟩) 7 7), (113, .bool true), (16, .int .i64 (i : Int)), (14, .slice A107 ((putOut ⟨1, 0⟩ e).length) c107), (13, .pointer (some ⟨g13, 0, none⟩)), (101, .bool true), (100, .int .i64 (ma : Int)), (99, .int .i64 3), (98, .slice (some ⟨g98, 0, none⟩) 3 3), (11, .pointer (some ⟨g11, 0, none⟩)), (31, .bool false), (30, .int .i64 (ja : Int)), (29, .int .i64 13), (28, .slice (some ⟨g28, 0, none⟩) 13 13), (2, .pointer (some ⟨g2, 0, none⟩)), (1, .pointer (some ⟨g1, 0, none⟩)), (0, .bool false)]) (by kernel_rfl)
        replace HM := (HM.blkRow (i := 0) (n := 7) (size := 1) rfl rfl (by decide)).asRow (i := 0) (ys := smallBytes.map B8) rfl (rfl)
        refine wp_block ?_
        refine loop_nat (fun mS aS wS => ∃ (mb : Nat), (mb ≤ 7) ∧ mS = 7 - mb ∧ Fr aS 259 [] [(118, .int .i64 (mb : Int)), (117, .int .i64 7), (116, .slice (some ⟨g116, 0, none⟩) 7 7), (113, .bool true), (16, .int .i64 (i : Int)), (14, .slice A107 ((putOut ⟨1, 0⟩ e).length) c107), (13, .pointer (some ⟨g13, 0, none⟩)), (101, .bool true), (100, .int .i64 (ma : Int)), (99, .int .i64 3), (98, .slice (some ⟨g98, 0, none⟩) 3 3), (11, .pointer (some ⟨g11, 0, none⟩)), (31, .bool false), (30, .int .i64 (ja : Int)), (29, .int .i64 13), (28, .slice (some ⟨g28, 0, none⟩) 13 13), (2, .pointer (some ⟨g2, 0, none⟩)), (1, .pointer (some ⟨g1, 0, none⟩)), (0, .bool false)] ∧ Mem w wS [.row (.slice (some ⟨g116, 0, none⟩) 7 7) 7 (smallBytes.map B8) 5 1, .row (.slice A107 ((putOut ⟨1, 0⟩ e).length) c107) ((putOut ⟨1, 0⟩ e).length) ((putOut ⟨1, 0⟩ e).map B8) 5 1, .blk g13 e.cells 37, .row (.slice (some ⟨g98, 0, none⟩) 3 3) 3 ([exA, exB, mostE].flatMap evL) 37 11, .blk g11 mostE.cells 37, .row (.slice (some ⟨g28, 0, none⟩) 13 13) 13 (smallNums.map I64i) 3 1, .blk g2 exB.cells 37, .blk g1 exA.cells 37]) (m := 7 - 0) ⟨0, Nat.zero_le _, rfl, HF.sub (by kernel_rfl), HM.picks [0, 1, 2, 3, 4, 5, 6, 7] (by decide) rfl⟩ ?_
        clear HF HM; rintro mS a w_ ⟨mb, h_mb, rfl, HF, HM⟩
        refine wp_seq ?_
        refine from_start ?_
        refine from_pures HF 1 0 (j := 1) [(119, .bool (decide (((mb : Int) : Int) < (7 : Int))))] (by kernel_rfl) rfl ?_; clear HF; intro a HF
        refine from_done rfl ?_
        refine wp_seq ?_
        rcases Bool.eq_false_or_eq_true (decide (((mb : Int) : Int) < (7 : Int))) with hb119 | hb119
        · have HF := HF.as (t := 119) (u := .bool true) rfl (by rw [hb119])
          have hbb : mb < 7 := by have := of_decide_eq_true hb119; omega
          obtain ⟨c, hcc⟩ : ∃ c, smallBytes[mb]? = some c := ⟨_, List.getElem?_eq_getElem (by simpa [smallNums, smallBases, smallBytes, someL] using (by omega : mb < 7))⟩
          have c256 := smallBytes_ok c (List.mem_of_getElem? hcc)
          refine cond_true HF rfl ?_
          refine wp_skip ?_
          refine wp_seq ?_
          refine wp_block ?_
          refine wp_seq ?_
          refine from_start ?_
          refine from_yl (S := fun wS => Mem w wS _) HF HM (i := 0) rfl rfl (d := 120) rfl (by decide) (v := .pointer (some ⟨g116, mb * 1, none⟩)) ((Yl.indexAddr (ad := ⟨g116, 0, none⟩) (y := mb) (sz := 1) rfl rfl rfl (hbb) (by kernel_rfl)).as (by rw [Addr.add_mid, Nat.zero_add])) ?_; clear HF; intro a HF
          refine from_yl (S := fun wS => Mem w wS _) HF HM (i := 1) rfl rfl (d := 121) rfl (by decide) (v := .int .u8 (c : Int)) (Yl.load1 rfl rfl (by kernel_rfl) (fun _ h => h.rowOne (i := 0) rfl (k := mb) (map_at (F := B8) (k := mb) (x := c) (hcc)))) ?_; clear HF; intro a HF
          refine from_pures HF 1 2 (j := 3) [(18, .int .u8 (c : Int))] (by kernel_rfl) rfl ?_; clear HF; intro a HF
          refine from_done rfl ?_
          replace HF := HF.sub (σ' := [(18, .int .u8 (c : Int)), (119, .bool true), (118, .int .i64 (mb : Int)), (117, .int .i64 7), (116, .slice (some ⟨g116, 0, none⟩) 7 7), (113, .bool true), (16, .int .i64 (i : Int)), (14, .slice A107 ((putOut ⟨1, 0⟩ e).length) c107), (13, .pointer (some ⟨g13, 0, none⟩)), (101, .bool true), (100, .int .i64 (ma : Int)), (99, .int .i64 3), (98, .slice (some ⟨g98, 0, none⟩) 3 3), (11, .pointer (some ⟨g11, 0, none⟩)), (31, .bool false), (30, .int .i64 (ja : Int)), (29, .int .i64 13), (28, .slice (some ⟨g28, 0, none⟩) 13 13), (2, .pointer (some ⟨g2, 0, none⟩)), (1, .pointer (some ⟨g1, 0, none⟩)), (0, .bool false)]) (by kernel_rfl)
          refine cut_seq (fun aS wS => ∃ (g122 : Nat) (A126 : Option Addr) (c126 : Nat) (g128 : Nat) (A129 : Option Addr) (c129 : Nat) (A133 : Option Addr) (c133 : Nat), Fr aS 259 [] [(19, .slice A133 ((putOut ⟨1, 0⟩ e).length + 1) c133), (18, .int .u8 (c : Int)), (119, .bool true), (118, .int .i64 (mb : Int)), (117, .int .i64 7), (116, .slice (some ⟨g116, 0, none⟩) 7 7), (113, .bool true), (16, .int .i64 (i : Int)), (14, .slice A107 ((putOut ⟨1, 0⟩ e).length) c107), (13, .pointer (some ⟨g13, 0, none⟩)), (101, .bool true), (100, .int .i64 (ma : Int)), (99, .int .i64 3), (98, .slice (some ⟨g98, 0, none⟩) 3 3), (11, .pointer (some ⟨g11, 0, none⟩)), (31, .bool false), (30, .int .i64 (ja : Int)), (29, .int .i64 13), (28, .slice (some ⟨g28, 0, none⟩) 13 13), (2, .pointer (some ⟨g2, 0, none⟩)), (1, .pointer (some ⟨g1, 0, none⟩)), (0, .bool false)] ∧ Mem w wS [.row (.slice A133 ((putOut ⟨1, 0⟩ e).length + 1) c133) ((putOut ⟨1, 0⟩ e).length + 1) (((putOut ⟨1, 0⟩ e).take i ++ [c] ++ (putOut ⟨1, 0⟩ e).drop i).map B8) 5 1, .row (.slice (some ⟨g116, 0, none⟩) 7 7) 7 (smallBytes.map B8) 5 1, .row (.slice A107 ((putOut ⟨1, 0⟩ e).length) c107) ((putOut ⟨1, 0⟩ e).length) ((putOut ⟨1, 0⟩ e).map B8) 5 1, .blk g13 e.cells 37, .row (.slice (some ⟨g98, 0, none⟩) 3 3) 3 ([exA, exB, mostE].flatMap evL) 37 11, .blk g11 mostE.cells 37, .row (.slice (some ⟨g28, 0, none⟩) 13 13) 13 (smallNums.map I64i) 3 1, .blk g2 exB.cells 37, .blk g1 exA.cells 37] ∧ (0 + i ≤ c126) ∧ (0 + i + 1 ≤ c129) ∧ ((putOut ⟨1, 0⟩ e).length + 1 ≤ c133)) ?_ ?_
          ·
            refine any_start (by kernel_rfl) (fun wS => Mem w wS [.row (.slice (some ⟨g116, 0, none⟩) 7 7) 7 (smallBytes.map B8) 5 1, .row (.slice A107 ((putOut ⟨1, 0⟩ e).length) c107) ((putOut ⟨1, 0⟩ e).length) ((putOut ⟨1, 0⟩ e).map B8) 5 1, .blk g13 e.cells 37, .row (.slice (some ⟨g98, 0, none⟩) 3 3) 3 ([exA, exB, mostE].flatMap evL) 37 11, .blk g11 mostE.cells 37, .row (.slice (some ⟨g28, 0, none⟩) 13 13) 13 (smallNums.map I64i) 3 1, .blk g2 exB.cells 37, .blk g1 exA.cells 37]) [] ?_
            replace HM := HM.drew
            have HS := HM.picks (fs' := [.row (.slice (some ⟨g116, 0, none⟩) 7 7) 7 (smallBytes.map B8) 5 1, .row (.slice A107 ((putOut ⟨1, 0⟩ e).length) c107) ((putOut ⟨1, 0⟩ e).length) ((putOut ⟨1, 0⟩ e).map B8) 5 1, .blk g13 e.cells 37, .row (.slice (some ⟨g98, 0, none⟩) 3 3) 3 ([exA, exB, mostE].flatMap evL) 37 11, .blk g11 mostE.cells 37, .row (.slice (some ⟨g28, 0, none⟩) 13 13) 13 (smallNums.map I64i) 3 1, .blk g2 exB.cells 37, .blk g1 exA.cells 37]) [0, 1, 2, 3, 4, 5, 6, 7] (by decide) rfl
            refine any_pures HF (fun _ => HS) (fun _ _ d _ _ h => by cases d <;> exact h) [1, 2, 5, 8, 9] #[false, true, true, false, false, true, false, false, true, true, false, false, false] [(131, .int .i64 (i : Int)), (130, .slice A107 ((putOut ⟨1, 0⟩ e).length) c107), (127, .int .u8 (c : Int)), (124, .int .i64 (i : Int)), (123, .slice A107 ((putOut ⟨1, 0⟩ e).length) c107)] (by kernel_rfl) ?_; clear HF; intro a HF
            refine any_yl HF HS (i := 3) rfl rfl (d := 125) rfl (by decide) (by kernel_rfl) (fun _ _ _ h => h) (v := .slice A107 i c107) (Yl.sliceUpto ei_u8 (j := i) rfl rfl rfl (by omega)) ?_; clear HF; intro a HF
            refine any_yl HF HS (i := 10) rfl rfl (d := 132) rfl (by decide) (by kernel_rfl) (fun _ _ _ h => h) (v := .slice (if c107 = i then A107 else A107.map (·.add (i * 1))) (((putOut ⟨1, 0⟩ e).length) - i) (c107 - i)) (Yl.sliceFrom ei_u8 (j := i) rfl rfl rfl (by omega)) ?_; clear HF; intro a HF
            refine any_all [0, 6] (by kernel_rfl) rfl ?_
            refine all_cons ?_ ?_
            · refine any_op HF (i := 0) rfl rfl ?_
              refine e_slice0 HF HM rfl ei_u8 rfl (by decide) ?_
              clear HF HM; intro a w122 g122 HF HM
              refine keepS (HM.picks [1, 2, 3, 4, 5, 6, 7, 8] (by decide) rfl) (fun HS => ?_)
              refine any_all [4, 6] (by kernel_rfl) rfl ?_
              refine all_cons ?_ ?_
              · refine any_op HF (i := 4) rfl rfl ?_
                refine e_append HF HM (i := 0) rfl ei_u8 rfl rfl rfl (news := (((putOut ⟨1, 0⟩ e).take i).map B8)) ((HM.rd (i := 2) rfl).toB8 (k := i) (by omega)) (one_B8 _) (by omega) (by omega) rfl (by decide) ?_
                clear HF HM; intro a w126 A126 c126 HF HM hc126
                refine keepS (HM.picks [1, 2, 3, 4, 5, 6, 7, 8] (by decide) rfl) (fun HS => ?_)
                refine any_all [6] (by kernel_rfl) rfl ?_
                refine all_cons ?_ all_nil
                refine any_op HF (i := 6) rfl rfl ?_
                refine e_slice HF HM (vs := [(0, .int .u8 (c : Int))]) (cs := #[.int .u8 (c : Int)]) rfl ei_u8 (by decide) rfl (by kernel_rfl) rfl (by decide) ?_
                clear HF HM; intro a w128 g128 HF HM
                refine keepS (HM.picks [2, 3, 4, 5, 6, 7, 8, 9] (by decide) rfl) (fun HS => ?_)
                refine any_all [7] (by kernel_rfl) rfl ?_
                refine all_cons ?_ all_nil
                refine any_op HF (i := 7) rfl rfl ?_
                refine e_append HF HM (i := 1) rfl ei_u8 rfl rfl rfl (news := [B8 c]) (HM.rdBlk (i := 0) (n := 1) (size := 1) rfl rfl) (by simp [Value.oneCell', U64, B8]) (by omega) (by omega) rfl (by decide) ?_
                clear HF HM; intro a w129 A129 c129 HF HM hc129
                refine keepS (HM.picks [2, 3, 4, 5, 6, 7, 8, 9] (by decide) rfl) (fun HS => ?_)
                refine any_all [11] (by kernel_rfl) rfl ?_
                refine all_cons ?_ all_nil
                refine any_op HF (i := 11) rfl rfl ?_
                refine e_append HF HM (i := 1) rfl ei_u8 rfl rfl rfl (news := (((putOut ⟨1, 0⟩ e).drop i).map B8)) (Rd.fromB8 (HM.rd (i := 3) rfl) (k := i) (by omega) hc107) (one_B8 _) (by omega) (by omega) rfl (by decide) ?_
                clear HF HM; intro a w133 A133 c133 HF HM hc133
                refine keepS (HM.picks [2, 3, 4, 5, 6, 7, 8, 9] (by decide) rfl) (fun HS => ?_)
                refine any_pures HF (fun _ => HS) (fun _ _ d _ _ h => by cases d <;> exact h) [12] #[true, true, true, true, true, true, true, true, true, true, true, true, true] [(19, .slice A133 (0 + i + 1 + ((putOut ⟨1, 0⟩ e).length - i)) c133)] (by kernel_rfl) ?_; clear HF; intro a HF
                refine any_done (by kernel_rfl) ?_
                replace HF := HF.sub (σ' := [(19, .slice A133 (0 + i + 1 + ((putOut ⟨1, 0⟩ e).length - i)) c133), (18, .int .u8 (c : Int)), (119, .bool true), (118, .int .i64 (mb : Int)), (117, .int .i64 7), (116, .slice (some ⟨g116, 0, none⟩) 7 7), (113, .bool true), (16, .int .i64 (i : Int)), (14, .slice A107 ((putOut ⟨1, 0⟩ e).length) c107), (13, .pointer (some ⟨g13, 0, none⟩)), (101, .bool true), (100, .int .i64 (ma : Int)), (99, .int .i64 3), (98, .slice (some ⟨g98, 0, none⟩) 3 3), (11, .pointer (some ⟨g11, 0, none⟩)), (31, .bool false), (30, .int .i64 (ja : Int)), (29, .int .i64 13), (28, .slice (some ⟨g28, 0, none⟩) 13 13), (2, .pointer (some ⟨g2, 0, none⟩)), (1, .pointer (some ⟨g1, 0, none⟩)), (0, .bool false)]) (by kernel_rfl)
                replace HM := HM.picks (fs' := [.row (.slice A133 (0 + i + 1 + ((putOut ⟨1, 0⟩ e).length - i)) c133) (0 + i + 1 + ((putOut ⟨1, 0⟩ e).length - i)) ((([] ++ (((putOut ⟨1, 0⟩ e).take i).map B8)) ++ [B8 c]) ++ (((putOut ⟨1, 0⟩ e).drop i).map B8)) 5 1, .row (.slice (some ⟨g116, 0, none⟩) 7 7) 7 (smallBytes.map B8) 5 1, .row (.slice A107 ((putOut ⟨1, 0⟩ e).length) c107) ((putOut ⟨1, 0⟩ e).length) ((putOut ⟨1, 0⟩ e).map B8) 5 1, .blk g13 e.cells 37, .row (.slice (some ⟨g98, 0, none⟩) 3 3) 3 ([exA, exB, mostE].flatMap evL) 37 11, .blk g11 mostE.cells 37, .row (.slice (some ⟨g28, 0, none⟩) 13 13) 13 (smallNums.map I64i) 3 1, .blk g2 exB.cells 37, .blk g1 exA.cells 37]) [1, 2, 3, 4, 5, 6, 7, 8, 9] (by decide) rfl
                have hnA133 : 0 + i + 1 + ((putOut ⟨1, 0⟩ e).length - i) = (putOut ⟨1, 0⟩ e).length + 1 := by omega
                replace HM := HM.reRow (i := 0) (ys := ((putOut ⟨1, 0⟩ e).take i ++ [c] ++ (putOut ⟨1, 0⟩ e).drop i).map B8) rfl hnA133 (by simp)
                rw [hnA133] at hc133
                replace HF := HF.as (t := 19) (u := .slice A133 ((putOut ⟨1, 0⟩ e).length + 1) c133) rfl (by rw [hnA133])
                exact ⟨g122, A126, c126, g128, A129, c129, A133, c133, HF.sub (by kernel_rfl), HM.picks [0, 1, 2, 3, 4, 5, 6, 7, 8] (by decide) rfl, hc126, hc129, hc133⟩
              refine all_cons ?_ all_nil
              refine any_op HF (i := 6) rfl rfl ?_
              refine e_slice HF HM (vs := [(0, .int .u8 (c : Int))]) (cs := #[.int .u8 (c : Int)]) rfl ei_u8 (by decide) rfl (by kernel_rfl) rfl (by decide) ?_
              clear HF HM; intro a w128 g128 HF HM
              refine keepS (HM.picks [2, 3, 4, 5, 6, 7, 8, 9] (by decide) rfl) (fun HS => ?_)
              refine any_all [4] (by kernel_rfl) rfl ?_
              refine all_cons ?_ all_nil
              refine any_op HF (i := 4) rfl rfl ?_
              refine e_append HF HM (i := 1) rfl ei_u8 rfl rfl rfl (news := (((putOut ⟨1, 0⟩ e).take i).map B8)) ((HM.rd (i := 3) rfl).toB8 (k := i) (by omega)) (one_B8 _) (by omega) (by omega) rfl (by decide) ?_
              clear HF HM; intro a w126 A126 c126 HF HM hc126
              refine keepS (HM.picks [2, 3, 4, 5, 6, 7, 8, 9] (by decide) rfl) (fun HS => ?_)
              refine any_all [7] (by kernel_rfl) rfl ?_
              refine all_cons ?_ all_nil
              refine any_op HF (i := 7) rfl rfl ?_
              refine e_append HF HM (i := 1) rfl ei_u8 rfl rfl rfl (news := [B8 c]) (HM.rdBlk (i := 0) (n := 1) (size := 1) rfl rfl) (by simp [Value.oneCell', U64, B8]) (by omega) (by omega) rfl (by decide) ?_
              clear HF HM; intro a w129 A129 c129 HF HM hc129
              refine keepS (HM.picks [2, 3, 4, 5, 6, 7, 8, 9] (by decide) rfl) (fun HS => ?_)
              refine any_all [11] (by kernel_rfl) rfl ?_
              refine all_cons ?_ all_nil
              refine any_op HF (i := 11) rfl rfl ?_
              refine e_append HF HM (i := 1) rfl ei_u8 rfl rfl rfl (news := (((putOut ⟨1, 0⟩ e).drop i).map B8)) (Rd.fromB8 (HM.rd (i := 3) rfl) (k := i) (by omega) hc107) (one_B8 _) (by omega) (by omega) rfl (by decide) ?_
              clear HF HM; intro a w133 A133 c133 HF HM hc133
              refine keepS (HM.picks [2, 3, 4, 5, 6, 7, 8, 9] (by decide) rfl) (fun HS => ?_)
              refine any_pures HF (fun _ => HS) (fun _ _ d _ _ h => by cases d <;> exact h) [12] #[true, true, true, true, true, true, true, true, true, true, true, true, true] [(19, .slice A133 (0 + i + 1 + ((putOut ⟨1, 0⟩ e).length - i)) c133)] (by kernel_rfl) ?_; clear HF; intro a HF
              refine any_done (by kernel_rfl) ?_
              replace HF := HF.sub (σ' := [(19, .slice A133 (0 + i + 1 + ((putOut ⟨1, 0⟩ e).length - i)) c133), (18, .int .u8 (c : Int)), (119, .bool true), (118, .int .i64 (mb : Int)), (117, .int .i64 7), (116, .slice (some ⟨g116, 0, none⟩) 7 7), (113, .bool true), (16, .int .i64 (i : Int)), (14, .slice A107 ((putOut ⟨1, 0⟩ e).length) c107), (13, .pointer (some ⟨g13, 0, none⟩)), (101, .bool true), (100, .int .i64 (ma : Int)), (99, .int .i64 3), (98, .slice (some ⟨g98, 0, none⟩) 3 3), (11, .pointer (some ⟨g11, 0, none⟩)), (31, .bool false), (30, .int .i64 (ja : Int)), (29, .int .i64 13), (28, .slice (some ⟨g28, 0, none⟩) 13 13), (2, .pointer (some ⟨g2, 0, none⟩)), (1, .pointer (some ⟨g1, 0, none⟩)), (0, .bool false)]) (by kernel_rfl)
              replace HM := HM.picks (fs' := [.row (.slice A133 (0 + i + 1 + ((putOut ⟨1, 0⟩ e).length - i)) c133) (0 + i + 1 + ((putOut ⟨1, 0⟩ e).length - i)) ((([] ++ (((putOut ⟨1, 0⟩ e).take i).map B8)) ++ [B8 c]) ++ (((putOut ⟨1, 0⟩ e).drop i).map B8)) 5 1, .row (.slice (some ⟨g116, 0, none⟩) 7 7) 7 (smallBytes.map B8) 5 1, .row (.slice A107 ((putOut ⟨1, 0⟩ e).length) c107) ((putOut ⟨1, 0⟩ e).length) ((putOut ⟨1, 0⟩ e).map B8) 5 1, .blk g13 e.cells 37, .row (.slice (some ⟨g98, 0, none⟩) 3 3) 3 ([exA, exB, mostE].flatMap evL) 37 11, .blk g11 mostE.cells 37, .row (.slice (some ⟨g28, 0, none⟩) 13 13) 13 (smallNums.map I64i) 3 1, .blk g2 exB.cells 37, .blk g1 exA.cells 37]) [1, 2, 3, 4, 5, 6, 7, 8, 9] (by decide) rfl
              have hnA133 : 0 + i + 1 + ((putOut ⟨1, 0⟩ e).length - i) = (putOut ⟨1, 0⟩ e).length + 1 := by omega
              replace HM := HM.reRow (i := 0) (ys := ((putOut ⟨1, 0⟩ e).take i ++ [c] ++ (putOut ⟨1, 0⟩ e).drop i).map B8) rfl hnA133 (by simp)
              rw [hnA133] at hc133
              replace HF := HF.as (t := 19) (u := .slice A133 ((putOut ⟨1, 0⟩ e).length + 1) c133) rfl (by rw [hnA133])
              exact ⟨g122, A126, c126, g128, A129, c129, A133, c133, HF.sub (by kernel_rfl), HM.picks [0, 1, 2, 3, 4, 5, 6, 7, 8] (by decide) rfl, hc126, hc129, hc133⟩
            refine all_cons ?_ all_nil
            refine any_op HF (i := 6) rfl rfl ?_
            refine e_slice HF HM (vs := [(0, .int .u8 (c : Int))]) (cs := #[.int .u8 (c : Int)]) rfl ei_u8 (by decide) rfl (by kernel_rfl) rfl (by decide) ?_
            clear HF HM; intro a w128 g128 HF HM
            refine keepS (HM.picks [1, 2, 3, 4, 5, 6, 7, 8] (by decide) rfl) (fun HS => ?_)
            refine any_all [0] (by kernel_rfl) rfl ?_
            refine all_cons ?_ all_nil
            refine any_op HF (i := 0) rfl rfl ?_
            refine e_slice0 HF HM rfl ei_u8 rfl (by decide) ?_
            clear HF HM; intro a w122 g122 HF HM
            refine keepS (HM.picks [2, 3, 4, 5, 6, 7, 8, 9] (by decide) rfl) (fun HS => ?_)
            refine any_all [4] (by kernel_rfl) rfl ?_
            refine all_cons ?_ all_nil
            refine any_op HF (i := 4) rfl rfl ?_
            refine e_append HF HM (i := 0) rfl ei_u8 rfl rfl rfl (news := (((putOut ⟨1, 0⟩ e).take i).map B8)) ((HM.rd (i := 3) rfl).toB8 (k := i) (by omega)) (one_B8 _) (by omega) (by omega) rfl (by decide) ?_
            clear HF HM; intro a w126 A126 c126 HF HM hc126
            refine keepS (HM.picks [2, 3, 4, 5, 6, 7, 8, 9] (by decide) rfl) (fun HS => ?_)
            refine any_all [7] (by kernel_rfl) rfl ?_
            refine all_cons ?_ all_nil
            refine any_op HF (i := 7) rfl rfl ?_
            refine e_append HF HM (i := 0) rfl ei_u8 rfl rfl rfl (news := [B8 c]) (HM.rdBlk (i := 1) (n := 1) (size := 1) rfl rfl) (by simp [Value.oneCell', U64, B8]) (by omega) (by omega) rfl (by decide) ?_
            clear HF HM; intro a w129 A129 c129 HF HM hc129
            refine keepS (HM.picks [2, 3, 4, 5, 6, 7, 8, 9] (by decide) rfl) (fun HS => ?_)
            refine any_all [11] (by kernel_rfl) rfl ?_
            refine all_cons ?_ all_nil
            refine any_op HF (i := 11) rfl rfl ?_
            refine e_append HF HM (i := 0) rfl ei_u8 rfl rfl rfl (news := (((putOut ⟨1, 0⟩ e).drop i).map B8)) (Rd.fromB8 (HM.rd (i := 3) rfl) (k := i) (by omega) hc107) (one_B8 _) (by omega) (by omega) rfl (by decide) ?_
            clear HF HM; intro a w133 A133 c133 HF HM hc133
            refine keepS (HM.picks [2, 3, 4, 5, 6, 7, 8, 9] (by decide) rfl) (fun HS => ?_)
            refine any_pures HF (fun _ => HS) (fun _ _ d _ _ h => by cases d <;> exact h) [12] #[true, true, true, true, true, true, true, true, true, true, true, true, true] [(19, .slice A133 (0 + i + 1 + ((putOut ⟨1, 0⟩ e).length - i)) c133)] (by kernel_rfl) ?_; clear HF; intro a HF
            refine any_done (by kernel_rfl) ?_
            replace HF := HF.sub (σ' := [(19, .slice A133 (0 + i + 1 + ((putOut ⟨1, 0⟩ e).length - i)) c133), (18, .int .u8 (c : Int)), (119, .bool true), (118, .int .i64 (mb : Int)), (117, .int .i64 7), (116, .slice (some ⟨g116, 0, none⟩) 7 7), (113, .bool true), (16, .int .i64 (i : Int)), (14, .slice A107 ((putOut ⟨1, 0⟩ e).length) c107), (13, .pointer (some ⟨g13, 0, none⟩)), (101, .bool true), (100, .int .i64 (ma : Int)), (99, .int .i64 3), (98, .slice (some ⟨g98, 0, none⟩) 3 3), (11, .pointer (some ⟨g11, 0, none⟩)), (31, .bool false), (30, .int .i64 (ja : Int)), (29, .int .i64 13), (28, .slice (some ⟨g28, 0, none⟩) 13 13), (2, .pointer (some ⟨g2, 0, none⟩)), (1, .pointer (some ⟨g1, 0, none⟩)), (0, .bool false)]) (by kernel_rfl)
            replace HM := HM.picks (fs' := [.row (.slice A133 (0 + i + 1 + ((putOut ⟨1, 0⟩ e).length - i)) c133) (0 + i + 1 + ((putOut ⟨1, 0⟩ e).length - i)) ((([] ++ (((putOut ⟨1, 0⟩ e).take i).map B8)) ++ [B8 c]) ++ (((putOut ⟨1, 0⟩ e).drop i).map B8)) 5 1, .row (.slice (some ⟨g116, 0, none⟩) 7 7) 7 (smallBytes.map B8) 5 1, .row (.slice A107 ((putOut ⟨1, 0⟩ e).length) c107) ((putOut ⟨1, 0⟩ e).length) ((putOut ⟨1, 0⟩ e).map B8) 5 1, .blk g13 e.cells 37, .row (.slice (some ⟨g98, 0, none⟩) 3 3) 3 ([exA, exB, mostE].flatMap evL) 37 11, .blk g11 mostE.cells 37, .row (.slice (some ⟨g28, 0, none⟩) 13 13) 13 (smallNums.map I64i) 3 1, .blk g2 exB.cells 37, .blk g1 exA.cells 37]) [0, 2, 3, 4, 5, 6, 7, 8, 9] (by decide) rfl
            have hnA133 : 0 + i + 1 + ((putOut ⟨1, 0⟩ e).length - i) = (putOut ⟨1, 0⟩ e).length + 1 := by omega
            replace HM := HM.reRow (i := 0) (ys := ((putOut ⟨1, 0⟩ e).take i ++ [c] ++ (putOut ⟨1, 0⟩ e).drop i).map B8) rfl hnA133 (by simp)
            rw [hnA133] at hc133
            replace HF := HF.as (t := 19) (u := .slice A133 ((putOut ⟨1, 0⟩ e).length + 1) c133) rfl (by rw [hnA133])
            exact ⟨g122, A126, c126, g128, A129, c129, A133, c133, HF.sub (by kernel_rfl), HM.picks [0, 1, 2, 3, 4, 5, 6, 7, 8] (by decide) rfl, hc126, hc129, hc133⟩
          clear HF HM; rintro a w29 ⟨g122, A126, c126, g128, A129, c129, A133, c133, HF, HM, hc126, hc129, hc133⟩
          rcases Nat.lt_or_ge (i + 1) (putOut ⟨1, 0⟩ e).length with hil | hil
          ·
            refine wp_seq ?_
            refine any_start (by kernel_rfl) (fun wS => Mem w wS [.row (.slice (some ⟨g116, 0, none⟩) 7 7) 7 (smallBytes.map B8) 5 1, .row (.slice A107 ((putOut ⟨1, 0⟩ e).length) c107) ((putOut ⟨1, 0⟩ e).length) ((putOut ⟨1, 0⟩ e).map B8) 5 1, .blk g13 e.cells 37, .row (.slice (some ⟨g98, 0, none⟩) 3 3) 3 ([exA, exB, mostE].flatMap evL) 37 11, .blk g11 mostE.cells 37, .row (.slice (some ⟨g28, 0, none⟩) 13 13) 13 (smallNums.map I64i) 3 1, .blk g2 exB.cells 37, .blk g1 exA.cells 37]) [] ?_
            replace HM := HM.drew
            have HS := HM.picks (fs' := [.row (.slice (some ⟨g116, 0, none⟩) 7 7) 7 (smallBytes.map B8) 5 1, .row (.slice A107 ((putOut ⟨1, 0⟩ e).length) c107) ((putOut ⟨1, 0⟩ e).length) ((putOut ⟨1, 0⟩ e).map B8) 5 1, .blk g13 e.cells 37, .row (.slice (some ⟨g98, 0, none⟩) 3 3) 3 ([exA, exB, mostE].flatMap evL) 37 11, .blk g11 mostE.cells 37, .row (.slice (some ⟨g28, 0, none⟩) 13 13) 13 (smallNums.map I64i) 3 1, .blk g2 exB.cells 37, .blk g1 exA.cells 37]) [1, 2, 3, 4, 5, 6, 7, 8] (by decide) rfl
            refine any_pures HF (fun _ => HS) (fun _ _ d _ _ h => by cases d <;> exact h) [2, 4] #[false, false, true, false, true, false, false, false, false, false, false, false, false, false, false, false, false, false, false, false, false, false, false, false, false, false, false, false, false, false, false, false, false, false, false, false, false, false, false, false, false, false, false, false, false, false, false, false, false, false] [(138, .slice A133 ((putOut ⟨1, 0⟩ e).length + 1) c133), (136, .pointer (some ⟨g13, 2, none⟩))] (by kernel_rfl) ?_; clear HF; intro a HF
            refine any_yl HF HS (i := 0) rfl rfl (d := 134) rfl (by decide) (by kernel_rfl) (fun _ _ _ h => h) (v := .agg #[.int .i64 1, .int .i64 0]) (Yl.build (vs := [(0, .int .i64 1)]) rfl (by kernel_rfl) (by kernel_rfl)) ?_; clear HF; intro a HF
            refine any_yl HF HS (i := 1) rfl rfl (d := 135) rfl (by decide) (by kernel_rfl) (fun _ _ _ h => h) (v := .agg e.cells) (Yl.loadS rfl rfl ⟨(by kernel_rfl), (by kernel_rfl)⟩ rfl (fun _ h => range_of_block (h.blk (i := 2) rfl))) ?_; clear HF; intro a HF
            refine any_yl HF HS (i := 3) rfl rfl (d := 137) rfl (by decide) (by kernel_rfl) (fun _ _ _ h => h) (v := .int .u8 (e.cpu : Int)) (Yl.load1 rfl rfl (by kernel_rfl) (fun _ h => h.cell (i := 2) rfl rfl)) ?_; clear HF; intro a HF
            refine any_all [5] (by kernel_rfl) rfl ?_
            refine all_cons ?_ all_nil
            refine any_op HF (i := 5) rfl rfl ?_
            refine e_call HF (vs := [.agg #[.int .i64 1, .int .i64 0], .agg e.cells, .int .u8 (e.cpu : Int), .slice A133 ((putOut ⟨1, 0⟩ e).length + 1) c133]) rfl (by kernel_rfl) (by kernel_rfl) rfl (by decide) (tells_any (⟨1, 0⟩ : Bs) e (hee) e.cpu (hee.cpu) _ ((putOut ⟨1, 0⟩ e).length + 1) _ (((putOut ⟨1, 0⟩ e).take i ++ [c] ++ (putOut ⟨1, 0⟩ e).drop i)) B _ (hL.mem HM hB) (HM.le hB) (HM.rd (i := 0) rfl) (hc133) (in_256 hee c256 i) (by omega)) ?_
            rintro _ w139 ⟨rfl, hbw⟩
            refine ⟨_, rfl, ?_⟩
            replace HM := HM.call hbw
            clear HF; intro a HF
            refine keepS (HM.picks [1, 2, 3, 4, 5, 6, 7, 8] (by decide) rfl) (fun HS => ?_)
            refine any_pures HF (fun _ => HS) (fun _ _ d _ _ h => by cases d <;> exact h) [6, 7, 10, 12, 13, 15, 18, 19, 21] #[true, true, true, true, true, true, true, true, false, false, true, false, true, true, false, true, false, false, true, true, false, true, false, false, false, false, false, false, false, false, false, false, false, false, false, false, false, false, false, false, false, false, false, false, false, false, false, false, false, false] [(155, .slice A107 ((putOut ⟨1, 0⟩ e).length) c107), (153, .int .i64 (i : Int)), (152, .slice A107 ((putOut ⟨1, 0⟩ e).length) c107), (149, .int .i64 (i : Int)), (147, .int .i64 (i : Int)), (146, .slice A133 ((putOut ⟨1, 0⟩ e).length + 1) c133), (144, .pointer (some ⟨g13, 2, none⟩)), (141, .bool false), (140, .bool false)] (by kernel_rfl) ?_; clear HF; intro a HF
            refine any_yl HF HS (i := 8) rfl rfl (d := 142) rfl (by decide) (by kernel_rfl) (fun _ _ _ h => h) (v := .agg #[.int .i64 1, .int .i64 0]) (Yl.build (vs := [(0, .int .i64 1)]) rfl (by kernel_rfl) (by kernel_rfl)) ?_; clear HF; intro a HF
            refine any_yl HF HS (i := 9) rfl rfl (d := 143) rfl (by decide) (by kernel_rfl) (fun _ _ _ h => h) (v := .agg e.cells) (Yl.loadS rfl rfl ⟨(by kernel_rfl), (by kernel_rfl)⟩ rfl (fun _ h => range_of_block (h.blk (i := 2) rfl))) ?_; clear HF; intro a HF
            refine any_yl HF HS (i := 11) rfl rfl (d := 145) rfl (by decide) (by kernel_rfl) (fun _ _ _ h => h) (v := .int .u8 (e.cpu : Int)) (Yl.load1 rfl rfl (by kernel_rfl) (fun _ h => h.cell (i := 2) rfl rfl)) ?_; clear HF; intro a HF
            refine any_pure HF (fun _ => HS) (i := 14) rfl rfl (d := 148) rfl (by decide) (by kernel_rfl) (fun _ _ _ h => h) (v := .int .i64 (IntKind.i64.wrap ((i : Int) + 1))) (fun _ => Yl.pure (by kernel_rfl)) ?_; clear HF; intro a HF
            replace HF := HF.as (t := 148) (u := .int .i64 ((i + 1 : Nat) : Int)) rfl (by rw [IntWalk.i64_in _ (by omega)]; simp)
            refine any_pure HF (fun _ => HS) (i := 16) rfl rfl (d := 150) rfl (by decide) (by kernel_rfl) (fun _ _ _ h => h) (v := .int .i64 (IntKind.i64.wrap ((i : Int) + 1))) (fun _ => Yl.pure (by kernel_rfl)) ?_; clear HF; intro a HF
            replace HF := HF.as (t := 150) (u := .int .i64 ((i + 1 : Nat) : Int)) rfl (by rw [IntWalk.i64_in _ (by omega)]; simp)
            refine any_yl HF HS (i := 17) rfl rfl (d := 151) rfl (by decide) (by kernel_rfl) (fun _ _ _ h => h) (v := .slice A133 (i + 1) (i + 1)) (Yl.slice3 ei_u8 rfl rfl rfl rfl (Nat.le_refl _) (by omega)) ?_; clear HF; intro a HF
            refine any_pure HF (fun _ => HS) (i := 20) rfl rfl (d := 154) rfl (by decide) (by kernel_rfl) (fun _ _ _ h => h) (v := .int .i64 (IntKind.i64.wrap ((i : Int) + 1))) (fun _ => Yl.pure (by kernel_rfl)) ?_; clear HF; intro a HF
            replace HF := HF.as (t := 154) (u := .int .i64 ((i + 1 : Nat) : Int)) rfl (by rw [IntWalk.i64_in _ (by omega)]; simp)
            refine any_yl HF HS (i := 22) rfl rfl (d := 156) rfl (by decide) (by kernel_rfl) (fun _ _ _ h => h) (v := .int .i64 (((putOut ⟨1, 0⟩ e).length : Nat) : Int)) (Yl.len rfl rfl (by kernel_rfl)) ?_; clear HF; intro a HF
            refine any_yl HF HS (i := 23) rfl rfl (d := 157) rfl (by decide) (by kernel_rfl) (fun _ _ _ h => h) (v := .int .i64 (if ((((putOut ⟨1, 0⟩ e).length : Nat) : Int) : Int) < (((i + 1 : Nat) : Int) : Int) then (((putOut ⟨1, 0⟩ e).length : Nat) : Int) else ((i + 1 : Nat) : Int))) (Yl.min rfl rfl rfl) ?_; clear HF; intro a HF
            replace HF := HF.as (t := 157) (u := .int .i64 ((i + 1 : Nat) : Int)) rfl (by rw [if_neg (by omega)])
            refine any_yl HF HS (i := 24) rfl rfl (d := 158) rfl (by decide) (by kernel_rfl) (fun _ _ _ h => h) (v := .slice (if c107 = (i + 1) then A107 else A107.map (·.add ((i + 1) * 1))) (((putOut ⟨1, 0⟩ e).length) - (i + 1)) (c107 - (i + 1))) (Yl.sliceFrom ei_u8 (j := (i + 1)) rfl rfl rfl (by omega)) ?_; clear HF; intro a HF
            refine any_all [25] (by kernel_rfl) rfl ?_
            refine all_cons ?_ all_nil
            refine any_op HF (i := 25) rfl rfl ?_
            refine e_append_full HF HM (xs := (((putOut ⟨1, 0⟩ e).take i ++ [c] ++ (putOut ⟨1, 0⟩ e).drop i).take (i + 1)).map B8) (news := ((putOut ⟨1, 0⟩ e).drop (i + 1)).map B8) rfl ei_u8 rfl rfl ((HM.rd (i := 0) rfl).toB8 (k := i + 1) (by omega)) (Rd.fromB8 (HM.rd (i := 2) rfl) (k := i + 1) (by omega) hc107) (by omega) (by omega) (fun h => (by obtain ⟨g, hg⟩ := own_some (HM.own (i := 0) rfl) (Nat.succ_pos _); rw [h] at hg; cases hg)) (by omega) (by omega) rfl (by decide) ?_
            clear HF HM; intro a w159 g159 c159 HF HM hc159
            refine keepS (HM.picks [2, 3, 4, 5, 6, 7, 8, 9] (by decide) rfl) (fun HS => ?_)
            refine any_all [26] (by kernel_rfl) rfl ?_
            refine all_cons ?_ all_nil
            refine any_op HF (i := 26) rfl rfl ?_
            refine e_call HF (vs := [.agg #[.int .i64 1, .int .i64 0], .agg e.cells, .int .u8 (e.cpu : Int), .slice (some ⟨g159, 0, none⟩) (i + 1 + ((putOut ⟨1, 0⟩ e).length - (i + 1))) c159]) rfl (by kernel_rfl) (by kernel_rfl) rfl (by decide) (tells_any (⟨1, 0⟩ : Bs) e (hee) e.cpu (hee.cpu) _ (i + 1 + ((putOut ⟨1, 0⟩ e).length - (i + 1))) _ (((putOut ⟨1, 0⟩ e).take i ++ [c] ++ (putOut ⟨1, 0⟩ e).drop i).take (i + 1) ++ (putOut ⟨1, 0⟩ e).drop (i + 1)) B _ (hL.mem HM hB) (HM.le hB) (by have h := HM.rd (i := 0) rfl; rw [← List.map_append] at h; exact h) (by omega) (fun x hx => (by first | exact (List.mem_append.1 hx).elim (fun h => in_256 hee c256 i x (List.mem_of_mem_take h)) (fun h => putOut_256 hee x (List.mem_of_mem_drop h)) | exact in_256 hee c256 i x (List.mem_of_mem_take hx))) (by omega)) ?_
            rintro _ w160 ⟨rfl, hbw⟩
            refine ⟨_, rfl, ?_⟩
            replace HM := HM.call hbw
            clear HF; intro a HF
            refine keepS (HM.picks [2, 3, 4, 5, 6, 7, 8, 9] (by decide) rfl) (fun HS => ?_)
            refine any_pures HF (fun _ => HS) (fun _ _ d _ _ h => by cases d <;> exact h) [27, 28, 29, 32, 33, 34] #[true, true, true, true, true, true, true, true, true, true, true, true, true, true, true, true, true, true, true, true, true, true, true, true, true, true, true, true, true, true, false, false, true, true, true, false, false, false, false, false, false, false, false, false, false, false, false, false, false, false] [(168, .int .i64 (i : Int)), (167, .slice A107 ((putOut ⟨1, 0⟩ e).length) c107), (166, .int .u8 (c : Int)), (163, .bool false), (162, .bool false), (161, .bool false)] (by kernel_rfl) ?_; clear HF; intro a HF
            refine any_yl HF HS (i := 30) rfl rfl (d := 164) rfl (by decide) (by kernel_rfl) (fun _ _ _ h => h) (v := .agg #[.int .i64 1, .int .i64 0]) (Yl.build (vs := [(0, .int .i64 1)]) rfl (by kernel_rfl) (by kernel_rfl)) ?_; clear HF; intro a HF
            refine any_yl HF HS (i := 31) rfl rfl (d := 165) rfl (by decide) (by kernel_rfl) (fun _ _ _ h => h) (v := .agg e.cells) (Yl.loadS rfl rfl ⟨(by kernel_rfl), (by kernel_rfl)⟩ rfl (fun _ h => range_of_block (h.blk (i := 2) rfl))) ?_; clear HF; intro a HF
            refine any_yl HF HS (i := 35) rfl rfl (d := 169) rfl (by decide) (by kernel_rfl) (fun _ _ _ h => h) (v := .slice A107 i c107) (Yl.sliceUpto ei_u8 (j := i) rfl rfl rfl (by omega)) ?_; clear HF; intro a HF
            refine any_all [36] (by kernel_rfl) rfl ?_
            refine all_cons ?_ all_nil
            refine any_op HF (i := 36) rfl rfl ?_
            refine e_call HF (vs := [.agg #[.int .i64 1, .int .i64 0], .agg e.cells, .int .u8 (c : Int), .slice A107 i c107]) rfl (by kernel_rfl) (by kernel_rfl) rfl (by decide) (tells_any (⟨1, 0⟩ : Bs) e (hee) c (c256) _ (i) _ ((putOut ⟨1, 0⟩ e).take i) B _ (hL.mem HM hB) (HM.le hB) ((HM.rd (i := 3) rfl).toB8 (k := i) (by omega)) (by omega) (fun x hx => putOut_256 hee x (List.mem_of_mem_take hx)) (by omega)) ?_
            rintro _ w170 ⟨rfl, hbw⟩
            refine ⟨_, rfl, ?_⟩
            replace HM := HM.call hbw
            clear HF; intro a HF
            refine keepS (HM.picks [2, 3, 4, 5, 6, 7, 8, 9] (by decide) rfl) (fun HS => ?_)
            refine any_pures HF (fun _ => HS) (fun _ _ d _ _ h => by cases d <;> exact h) [37, 38, 39, 41, 43, 44] #[true, true, true, true, true, true, true, true, true, true, true, true, true, true, true, true, true, true, true, true, true, true, true, true, true, true, true, true, true, true, true, true, true, true, true, true, true, true, true, true, false, true, false, true, true, false, false, false, false, false] [(178, .slice A133 ((putOut ⟨1, 0⟩ e).length + 1) c133), (177, .slice A133 ((putOut ⟨1, 0⟩ e).length + 1) c133), (175, .pointer (some ⟨g13, 2, none⟩)), (173, .bool false), (172, .bool false), (171, .bool false)] (by kernel_rfl) ?_; clear HF; intro a HF
            refine any_yl HF HS (i := 40) rfl rfl (d := 174) rfl (by decide) (by kernel_rfl) (fun _ _ _ h => h) (v := .agg #[.int .i64 1, .int .i64 0]) (Yl.build (vs := [(0, .int .i64 1)]) rfl (by kernel_rfl) (by kernel_rfl)) ?_; clear HF; intro a HF
            refine any_yl HF HS (i := 42) rfl rfl (d := 176) rfl (by decide) (by kernel_rfl) (fun _ _ _ h => h) (v := .int .u8 (e.cpu : Int)) (Yl.load1 rfl rfl (by kernel_rfl) (fun _ h => h.cell (i := 2) rfl rfl)) ?_; clear HF; intro a HF
            refine any_all [45] (by kernel_rfl) rfl ?_
            refine all_cons ?_ all_nil
            refine any_op HF (i := 45) rfl rfl ?_
            refine e_append HF HM (i := 1) rfl ei_u8 rfl rfl rfl (news := (((putOut ⟨1, 0⟩ e).take i ++ [c] ++ (putOut ⟨1, 0⟩ e).drop i).map B8)) (HM.rd (i := 1) rfl) (one_B8 _) (by omega) (by omega) rfl (by decide) ?_
            clear HF HM; intro a w179 A179 c179 HF HM hc179
            refine keepS (HM.picks [2, 3, 4, 5, 6, 7, 8, 9] (by decide) rfl) (fun HS => ?_)
            refine any_yl HF HS (i := 46) rfl rfl (d := 180) rfl (by decide) (by kernel_rfl) (fun _ _ _ h => h) (v := .agg #[.int .i64 1, .int .i64 0, .slice none 0 0, .int .u8 (e.cpu : Int), .int .i64 2, .slice A179 ((putOut ⟨1, 0⟩ e).length + 1 + ((putOut ⟨1, 0⟩ e).length + 1)) c179]) (Yl.build (vs := [(0, .agg #[.int .i64 1, .int .i64 0]), (1, .slice none 0 0), (2, .int .u8 (e.cpu : Int)), (3, .int .i64 2), (4, .slice A179 ((putOut ⟨1, 0⟩ e).length + 1 + ((putOut ⟨1, 0⟩ e).length + 1)) c179)]) rfl (by kernel_rfl) (by kernel_rfl)) ?_; clear HF; intro a HF
            refine any_all [47] (by kernel_rfl) rfl ?_
            refine all_cons ?_ all_nil
            refine any_op HF (i := 47) rfl rfl ?_
            refine e_call HF (vs := [.agg #[.int .i64 1, .int .i64 0, .slice none 0 0, .int .u8 (e.cpu : Int), .int .i64 2, .slice A179 ((putOut ⟨1, 0⟩ e).length + 1 + ((putOut ⟨1, 0⟩ e).length + 1)) c179]]) rfl (by kernel_rfl) (by kernel_rfl) rfl (by decide) (rows_any (⟨1, 0⟩ : Bs) (none) (0) (0) e.cpu 2 (A179) ((putOut ⟨1, 0⟩ e).length + 1 + ((putOut ⟨1, 0⟩ e).length + 1)) (c179) [] (((putOut ⟨1, 0⟩ e).take i ++ [c] ++ (putOut ⟨1, 0⟩ e).drop i) ++ ((putOut ⟨1, 0⟩ e).take i ++ [c] ++ (putOut ⟨1, 0⟩ e).drop i)) (hee.cpu) (⟨by decide, by decide⟩) (fun _ h => by cases h) (by omega) (fun x hx => (List.mem_append.1 hx).elim (in_256 hee c256 i x) (in_256 hee c256 i x)) (by omega) (by omega) B _ (hL.mem HM hB) (HM.le hB) (Rd.nil) (by have h := HM.rd (i := 1) rfl; rw [← List.map_append] at h; exact h)) ?_
            rintro _ w181 ⟨rfl, hbw⟩
            refine ⟨_, rfl, ?_⟩
            replace HM := HM.call hbw
            clear HF; intro a HF
            refine keepS (HM.picks [2, 3, 4, 5, 6, 7, 8, 9] (by decide) rfl) (fun HS => ?_)
            refine any_pures HF (fun _ => HS) (fun _ _ d _ _ h => by cases d <;> exact h) [48, 49] #[true, true, true, true, true, true, true, true, true, true, true, true, true, true, true, true, true, true, true, true, true, true, true, true, true, true, true, true, true, true, true, true, true, true, true, true, true, true, true, true, true, true, true, true, true, true, true, true, true, true] [(183, .bool false), (182, .bool false)] (by kernel_rfl) ?_; clear HF; intro a HF
            refine any_done (by kernel_rfl) ?_
            replace HF := HF.sub (σ' := [(183, .bool false), (19, .slice A133 ((putOut ⟨1, 0⟩ e).length + 1) c133), (18, .int .u8 (c : Int)), (119, .bool true), (118, .int .i64 (mb : Int)), (117, .int .i64 7), (116, .slice (some ⟨g116, 0, none⟩) 7 7), (113, .bool true), (16, .int .i64 (i : Int)), (14, .slice A107 ((putOut ⟨1, 0⟩ e).length) c107), (13, .pointer (some ⟨g13, 0, none⟩)), (101, .bool true), (100, .int .i64 (ma : Int)), (99, .int .i64 3), (98, .slice (some ⟨g98, 0, none⟩) 3 3), (11, .pointer (some ⟨g11, 0, none⟩)), (31, .bool false), (30, .int .i64 (ja : Int)), (29, .int .i64 13), (28, .slice (some ⟨g28, 0, none⟩) 13 13), (2, .pointer (some ⟨g2, 0, none⟩)), (1, .pointer (some ⟨g1, 0, none⟩)), (0, .bool false)]) (by kernel_rfl)
            replace HM := HM.picks (fs' := [.row (.slice (some ⟨g116, 0, none⟩) 7 7) 7 (smallBytes.map B8) 5 1, .row (.slice A107 ((putOut ⟨1, 0⟩ e).length) c107) ((putOut ⟨1, 0⟩ e).length) ((putOut ⟨1, 0⟩ e).map B8) 5 1, .blk g13 e.cells 37, .row (.slice (some ⟨g98, 0, none⟩) 3 3) 3 ([exA, exB, mostE].flatMap evL) 37 11, .blk g11 mostE.cells 37, .row (.slice (some ⟨g28, 0, none⟩) 13 13) 13 (smallNums.map I64i) 3 1, .blk g2 exB.cells 37, .blk g1 exA.cells 37]) [2, 3, 4, 5, 6, 7, 8, 9] (by decide) rfl
            refine cond_false HF rfl ?_
            refine wp_skip ?_
            refine from_start ?_
            refine from_pures HF 1 0 (j := 1) [(184, .int .i64 (IntKind.i64.wrap ((mb : Int) + 1)))] (by kernel_rfl) rfl ?_; clear HF; intro a HF
            replace HF := HF.as (t := 184) (u := .int .i64 ((mb + 1 : Nat) : Int)) rfl (by rw [IntWalk.i64_in _ (by omega)]; simp)
            refine from_pures HF 1 1 (j := 2) [(118, .int .i64 ((mb + 1 : Nat) : Int))] (by kernel_rfl) rfl ?_; clear HF; intro a HF
            refine from_done rfl ?_
            replace HF := HF.sub (σ' := [(118, .int .i64 ((mb + 1 : Nat) : Int)), (183, .bool false), (19, .slice A133 ((putOut ⟨1, 0⟩ e).length + 1) c133), (18, .int .u8 (c : Int)), (119, .bool true), (117, .int .i64 7), (116, .slice (some ⟨g116, 0, none⟩) 7 7), (113, .bool true), (16, .int .i64 (i : Int)), (14, .slice A107 ((putOut ⟨1, 0⟩ e).length) c107), (13, .pointer (some ⟨g13, 0, none⟩)), (101, .bool true), (100, .int .i64 (ma : Int)), (99, .int .i64 3), (98, .slice (some ⟨g98, 0, none⟩) 3 3), (11, .pointer (some ⟨g11, 0, none⟩)), (31, .bool false), (30, .int .i64 (ja : Int)), (29, .int .i64 13), (28, .slice (some ⟨g28, 0, none⟩) 13 13), (2, .pointer (some ⟨g2, 0, none⟩)), (1, .pointer (some ⟨g1, 0, none⟩)), (0, .bool false)]) (by kernel_rfl)
            exact ⟨_, (by omega), mb + 1, by omega, rfl, HF.sub (by kernel_rfl), HM.picks [0, 1, 2, 3, 4, 5, 6, 7] (by decide) rfl⟩
          ·
            refine wp_seq ?_
            refine any_start (by kernel_rfl) (fun wS => Mem w wS [.row (.slice (some ⟨g116, 0, none⟩) 7 7) 7 (smallBytes.map B8) 5 1, .row (.slice A107 ((putOut ⟨1, 0⟩ e).length) c107) ((putOut ⟨1, 0⟩ e).length) ((putOut ⟨1, 0⟩ e).map B8) 5 1, .blk g13 e.cells 37, .row (.slice (some ⟨g98, 0, none⟩) 3 3) 3 ([exA, exB, mostE].flatMap evL) 37 11, .blk g11 mostE.cells 37, .row (.slice (some ⟨g28, 0, none⟩) 13 13) 13 (smallNums.map I64i) 3 1, .blk g2 exB.cells 37, .blk g1 exA.cells 37]) [] ?_
            replace HM := HM.drew
            have HS := HM.picks (fs' := [.row (.slice (some ⟨g116, 0, none⟩) 7 7) 7 (smallBytes.map B8) 5 1, .row (.slice A107 ((putOut ⟨1, 0⟩ e).length) c107) ((putOut ⟨1, 0⟩ e).length) ((putOut ⟨1, 0⟩ e).map B8) 5 1, .blk g13 e.cells 37, .row (.slice (some ⟨g98, 0, none⟩) 3 3) 3 ([exA, exB, mostE].flatMap evL) 37 11, .blk g11 mostE.cells 37, .row (.slice (some ⟨g28, 0, none⟩) 13 13) 13 (smallNums.map I64i) 3 1, .blk g2 exB.cells 37, .blk g1 exA.cells 37]) [1, 2, 3, 4, 5, 6, 7, 8] (by decide) rfl
            refine any_pures HF (fun _ => HS) (fun _ _ d _ _ h => by cases d <;> exact h) [2, 4] #[false, false, true, false, true, false, false, false, false, false, false, false, false, false, false, false, false, false, false, false, false, false, false, false, false, false, false, false, false, false, false, false, false, false, false, false, false, false, false, false, false, false, false, false, false, false, false, false, false, false] [(138, .slice A133 ((putOut ⟨1, 0⟩ e).length + 1) c133), (136, .pointer (some ⟨g13, 2, none⟩))] (by kernel_rfl) ?_; clear HF; intro a HF
            refine any_yl HF HS (i := 0) rfl rfl (d := 134) rfl (by decide) (by kernel_rfl) (fun _ _ _ h => h) (v := .agg #[.int .i64 1, .int .i64 0]) (Yl.build (vs := [(0, .int .i64 1)]) rfl (by kernel_rfl) (by kernel_rfl)) ?_; clear HF; intro a HF
            refine any_yl HF HS (i := 1) rfl rfl (d := 135) rfl (by decide) (by kernel_rfl) (fun _ _ _ h => h) (v := .agg e.cells) (Yl.loadS rfl rfl ⟨(by kernel_rfl), (by kernel_rfl)⟩ rfl (fun _ h => range_of_block (h.blk (i := 2) rfl))) ?_; clear HF; intro a HF
            refine any_yl HF HS (i := 3) rfl rfl (d := 137) rfl (by decide) (by kernel_rfl) (fun _ _ _ h => h) (v := .int .u8 (e.cpu : Int)) (Yl.load1 rfl rfl (by kernel_rfl) (fun _ h => h.cell (i := 2) rfl rfl)) ?_; clear HF; intro a HF
            refine any_all [5] (by kernel_rfl) rfl ?_
            refine all_cons ?_ all_nil
            refine any_op HF (i := 5) rfl rfl ?_
            refine e_call HF (vs := [.agg #[.int .i64 1, .int .i64 0], .agg e.cells, .int .u8 (e.cpu : Int), .slice A133 ((putOut ⟨1, 0⟩ e).length + 1) c133]) rfl (by kernel_rfl) (by kernel_rfl) rfl (by decide) (tells_any (⟨1, 0⟩ : Bs) e (hee) e.cpu (hee.cpu) _ ((putOut ⟨1, 0⟩ e).length + 1) _ (((putOut ⟨1, 0⟩ e).take i ++ [c] ++ (putOut ⟨1, 0⟩ e).drop i)) B _ (hL.mem HM hB) (HM.le hB) (HM.rd (i := 0) rfl) (hc133) (in_256 hee c256 i) (by omega)) ?_
            rintro _ w139 ⟨rfl, hbw⟩
            refine ⟨_, rfl, ?_⟩
            replace HM := HM.call hbw
            clear HF; intro a HF
            refine keepS (HM.picks [1, 2, 3, 4, 5, 6, 7, 8] (by decide) rfl) (fun HS => ?_)
            refine any_pures HF (fun _ => HS) (fun _ _ d _ _ h => by cases d <;> exact h) [6, 7, 10, 12, 13, 15, 18, 19, 21] #[true, true, true, true, true, true, true, true, false, false, true, false, true, true, false, true, false, false, true, true, false, true, false, false, false, false, false, false, false, false, false, false, false, false, false, false, false, false, false, false, false, false, false, false, false, false, false, false, false, false] [(155, .slice A107 ((putOut ⟨1, 0⟩ e).length) c107), (153, .int .i64 (i : Int)), (152, .slice A107 ((putOut ⟨1, 0⟩ e).length) c107), (149, .int .i64 (i : Int)), (147, .int .i64 (i : Int)), (146, .slice A133 ((putOut ⟨1, 0⟩ e).length + 1) c133), (144, .pointer (some ⟨g13, 2, none⟩)), (141, .bool false), (140, .bool false)] (by kernel_rfl) ?_; clear HF; intro a HF
            refine any_yl HF HS (i := 8) rfl rfl (d := 142) rfl (by decide) (by kernel_rfl) (fun _ _ _ h => h) (v := .agg #[.int .i64 1, .int .i64 0]) (Yl.build (vs := [(0, .int .i64 1)]) rfl (by kernel_rfl) (by kernel_rfl)) ?_; clear HF; intro a HF
            refine any_yl HF HS (i := 9) rfl rfl (d := 143) rfl (by decide) (by kernel_rfl) (fun _ _ _ h => h) (v := .agg e.cells) (Yl.loadS rfl rfl ⟨(by kernel_rfl), (by kernel_rfl)⟩ rfl (fun _ h => range_of_block (h.blk (i := 2) rfl))) ?_; clear HF; intro a HF
            refine any_yl HF HS (i := 11) rfl rfl (d := 145) rfl (by decide) (by kernel_rfl) (fun _ _ _ h => h) (v := .int .u8 (e.cpu : Int)) (Yl.load1 rfl rfl (by kernel_rfl) (fun _ h => h.cell (i := 2) rfl rfl)) ?_; clear HF; intro a HF
            refine any_pure HF (fun _ => HS) (i := 14) rfl rfl (d := 148) rfl (by decide) (by kernel_rfl) (fun _ _ _ h => h) (v := .int .i64 (IntKind.i64.wrap ((i : Int) + 1))) (fun _ => Yl.pure (by kernel_rfl)) ?_; clear HF; intro a HF
            replace HF := HF.as (t := 148) (u := .int .i64 ((i + 1 : Nat) : Int)) rfl (by rw [IntWalk.i64_in _ (by omega)]; simp)
            refine any_pure HF (fun _ => HS) (i := 16) rfl rfl (d := 150) rfl (by decide) (by kernel_rfl) (fun _ _ _ h => h) (v := .int .i64 (IntKind.i64.wrap ((i : Int) + 1))) (fun _ => Yl.pure (by kernel_rfl)) ?_; clear HF; intro a HF
            replace HF := HF.as (t := 150) (u := .int .i64 ((i + 1 : Nat) : Int)) rfl (by rw [IntWalk.i64_in _ (by omega)]; simp)
            refine any_yl HF HS (i := 17) rfl rfl (d := 151) rfl (by decide) (by kernel_rfl) (fun _ _ _ h => h) (v := .slice A133 (i + 1) (i + 1)) (Yl.slice3 ei_u8 rfl rfl rfl rfl (Nat.le_refl _) (by omega)) ?_; clear HF; intro a HF
            refine any_pure HF (fun _ => HS) (i := 20) rfl rfl (d := 154) rfl (by decide) (by kernel_rfl) (fun _ _ _ h => h) (v := .int .i64 (IntKind.i64.wrap ((i : Int) + 1))) (fun _ => Yl.pure (by kernel_rfl)) ?_; clear HF; intro a HF
            replace HF := HF.as (t := 154) (u := .int .i64 ((i + 1 : Nat) : Int)) rfl (by rw [IntWalk.i64_in _ (by omega)]; simp)
            refine any_yl HF HS (i := 22) rfl rfl (d := 156) rfl (by decide) (by kernel_rfl) (fun _ _ _ h => h) (v := .int .i64 (((putOut ⟨1, 0⟩ e).length : Nat) : Int)) (Yl.len rfl rfl (by kernel_rfl)) ?_; clear HF; intro a HF
            refine any_yl HF HS (i := 23) rfl rfl (d := 157) rfl (by decide) (by kernel_rfl) (fun _ _ _ h => h) (v := .int .i64 (if ((((putOut ⟨1, 0⟩ e).length : Nat) : Int) : Int) < (((i + 1 : Nat) : Int) : Int) then (((putOut ⟨1, 0⟩ e).length : Nat) : Int) else ((i + 1 : Nat) : Int))) (Yl.min rfl rfl rfl) ?_; clear HF; intro a HF
            replace HF := HF.as (t := 157) (u := .int .i64 (((putOut ⟨1, 0⟩ e).length : Nat) : Int)) rfl (by congr 1; split <;> omega)
            refine any_yl HF HS (i := 24) rfl rfl (d := 158) rfl (by decide) (by kernel_rfl) (fun _ _ _ h => h) (v := .slice (if c107 = (putOut ⟨1, 0⟩ e).length then A107 else A107.map (·.add ((putOut ⟨1, 0⟩ e).length * 1))) (((putOut ⟨1, 0⟩ e).length) - (putOut ⟨1, 0⟩ e).length) (c107 - (putOut ⟨1, 0⟩ e).length)) (Yl.sliceFrom ei_u8 (j := (putOut ⟨1, 0⟩ e).length) rfl rfl rfl (Nat.le_refl _)) ?_; clear HF; intro a HF
            replace HF := HF.as (t := 158) (u := .slice (if c107 = (putOut ⟨1, 0⟩ e).length then A107 else A107.map (·.add ((putOut ⟨1, 0⟩ e).length * 1))) 0 (c107 - (putOut ⟨1, 0⟩ e).length)) rfl (by rw [Nat.sub_self])
            refine any_yl HF HS (i := 25) rfl rfl (d := 159) rfl (by decide) (by kernel_rfl) (fun _ _ _ h => h) (v := .slice A133 (i + 1) (i + 1)) (Yl.appendNothing rfl ei_u8 rfl rfl (Nat.le_refl _)) ?_; clear HF; intro a HF
            refine any_all [26] (by kernel_rfl) rfl ?_
            refine all_cons ?_ all_nil
            refine any_op HF (i := 26) rfl rfl ?_
            refine e_call HF (vs := [.agg #[.int .i64 1, .int .i64 0], .agg e.cells, .int .u8 (e.cpu : Int), .slice A133 (i + 1) (i + 1)]) rfl (by kernel_rfl) (by kernel_rfl) rfl (by decide) (tells_any (⟨1, 0⟩ : Bs) e (hee) e.cpu (hee.cpu) _ (i + 1) _ (((putOut ⟨1, 0⟩ e).take i ++ [c] ++ (putOut ⟨1, 0⟩ e).drop i).take (i + 1)) B _ (hL.mem HM hB) (HM.le hB) ((HM.rd (i := 0) rfl).toB8 (k := i + 1) (by omega)) (by omega) (fun x hx => (by first | exact (List.mem_append.1 hx).elim (fun h => in_256 hee c256 i x (List.mem_of_mem_take h)) (fun h => putOut_256 hee x (List.mem_of_mem_drop h)) | exact in_256 hee c256 i x (List.mem_of_mem_take hx))) (by omega)) ?_
            rintro _ w160 ⟨rfl, hbw⟩
            refine ⟨_, rfl, ?_⟩
            replace HM := HM.call hbw
            clear HF; intro a HF
            refine keepS (HM.picks [1, 2, 3, 4, 5, 6, 7, 8] (by decide) rfl) (fun HS => ?_)
            refine any_pures HF (fun _ => HS) (fun _ _ d _ _ h => by cases d <;> exact h) [27, 28, 29, 32, 33, 34] #[true, true, true, true, true, true, true, true, true, true, true, true, true, true, true, true, true, true, true, true, true, true, true, true, true, true, true, true, true, true, false, false, true, true, true, false, false, false, false, false, false, false, false, false, false, false, false, false, false, false] [(168, .int .i64 (i : Int)), (167, .slice A107 ((putOut ⟨1, 0⟩ e).length) c107), (166, .int .u8 (c : Int)), (163, .bool false), (162, .bool false), (161, .bool false)] (by kernel_rfl) ?_; clear HF; intro a HF
            refine any_yl HF HS (i := 30) rfl rfl (d := 164) rfl (by decide) (by kernel_rfl) (fun _ _ _ h => h) (v := .agg #[.int .i64 1, .int .i64 0]) (Yl.build (vs := [(0, .int .i64 1)]) rfl (by kernel_rfl) (by kernel_rfl)) ?_; clear HF; intro a HF
            refine any_yl HF HS (i := 31) rfl rfl (d := 165) rfl (by decide) (by kernel_rfl) (fun _ _ _ h => h) (v := .agg e.cells) (Yl.loadS rfl rfl ⟨(by kernel_rfl), (by kernel_rfl)⟩ rfl (fun _ h => range_of_block (h.blk (i := 2) rfl))) ?_; clear HF; intro a HF
            refine any_yl HF HS (i := 35) rfl rfl (d := 169) rfl (by decide) (by kernel_rfl) (fun _ _ _ h => h) (v := .slice A107 i c107) (Yl.sliceUpto ei_u8 (j := i) rfl rfl rfl (by omega)) ?_; clear HF; intro a HF
            refine any_all [36] (by kernel_rfl) rfl ?_
            refine all_cons ?_ all_nil
            refine any_op HF (i := 36) rfl rfl ?_
            refine e_call HF (vs := [.agg #[.int .i64 1, .int .i64 0], .agg e.cells, .int .u8 (c : Int), .slice A107 i c107]) rfl (by kernel_rfl) (by kernel_rfl) rfl (by decide) (tells_any (⟨1, 0⟩ : Bs) e (hee) c (c256) _ (i) _ ((putOut ⟨1, 0⟩ e).take i) B _ (hL.mem HM hB) (HM.le hB) ((HM.rd (i := 2) rfl).toB8 (k := i) (by omega)) (by omega) (fun x hx => putOut_256 hee x (List.mem_of_mem_take hx)) (by omega)) ?_
            rintro _ w170 ⟨rfl, hbw⟩
            refine ⟨_, rfl, ?_⟩
            replace HM := HM.call hbw
            clear HF; intro a HF
            refine keepS (HM.picks [1, 2, 3, 4, 5, 6, 7, 8] (by decide) rfl) (fun HS => ?_)
            refine any_pures HF (fun _ => HS) (fun _ _ d _ _ h => by cases d <;> exact h) [37, 38, 39, 41, 43, 44] #[true, true, true, true, true, true, true, true, true, true, true, true, true, true, true, true, true, true, true, true, true, true, true, true, true, true, true, true, true, true, true, true, true, true, true, true, true, true, true, true, false, true, false, true, true, false, false, false, false, false] [(178, .slice A133 ((putOut ⟨1, 0⟩ e).length + 1) c133), (177, .slice A133 ((putOut ⟨1, 0⟩ e).length + 1) c133), (175, .pointer (some ⟨g13, 2, none⟩)), (173, .bool false), (172, .bool false), (171, .bool false)] (by kernel_rfl) ?_; clear HF; intro a HF
            refine any_yl HF HS (i := 40) rfl rfl (d := 174) rfl (by decide) (by kernel_rfl) (fun _ _ _ h => h) (v := .agg #[.int .i64 1, .int .i64 0]) (Yl.build (vs := [(0, .int .i64 1)]) rfl (by kernel_rfl) (by kernel_rfl)) ?_; clear HF; intro a HF
            refine any_yl HF HS (i := 42) rfl rfl (d := 176) rfl (by decide) (by kernel_rfl) (fun _ _ _ h => h) (v := .int .u8 (e.cpu : Int)) (Yl.load1 rfl rfl (by kernel_rfl) (fun _ h => h.cell (i := 2) rfl rfl)) ?_; clear HF; intro a HF
            refine any_all [45] (by kernel_rfl) rfl ?_
            refine all_cons ?_ all_nil
            refine any_op HF (i := 45) rfl rfl ?_
            refine e_append HF HM (i := 0) rfl ei_u8 rfl rfl rfl (news := (((putOut ⟨1, 0⟩ e).take i ++ [c] ++ (putOut ⟨1, 0⟩ e).drop i).map B8)) (HM.rd (i := 0) rfl) (one_B8 _) (by omega) (by omega) rfl (by decide) ?_
            clear HF HM; intro a w179 A179 c179 HF HM hc179
            refine keepS (HM.picks [1, 2, 3, 4, 5, 6, 7, 8] (by decide) rfl) (fun HS => ?_)
            refine any_yl HF HS (i := 46) rfl rfl (d := 180) rfl (by decide) (by kernel_rfl) (fun _ _ _ h => h) (v := .agg #[.int .i64 1, .int .i64 0, .slice none 0 0, .int .u8 (e.cpu : Int), .int .i64 2, .slice A179 ((putOut ⟨1, 0⟩ e).length + 1 + ((putOut ⟨1, 0⟩ e).length + 1)) c179]) (Yl.build (vs := [(0, .agg #[.int .i64 1, .int .i64 0]), (1, .slice none 0 0), (2, .int .u8 (e.cpu : Int)), (3, .int .i64 2), (4, .slice A179 ((putOut ⟨1, 0⟩ e).length + 1 + ((putOut ⟨1, 0⟩ e).length + 1)) c179)]) rfl (by kernel_rfl) (by kernel_rfl)) ?_; clear HF; intro a HF
            refine any_all [47] (by kernel_rfl) rfl ?_
            refine all_cons ?_ all_nil
            refine any_op HF (i := 47) rfl rfl ?_
            refine e_call HF (vs := [.agg #[.int .i64 1, .int .i64 0, .slice none 0 0, .int .u8 (e.cpu : Int), .int .i64 2, .slice A179 ((putOut ⟨1, 0⟩ e).length + 1 + ((putOut ⟨1, 0⟩ e).length + 1)) c179]]) rfl (by kernel_rfl) (by kernel_rfl) rfl (by decide) (rows_any (⟨1, 0⟩ : Bs) (none) (0) (0) e.cpu 2 (A179) ((putOut ⟨1, 0⟩ e).length + 1 + ((putOut ⟨1, 0⟩ e).length + 1)) (c179) [] (((putOut ⟨1, 0⟩ e).take i ++ [c] ++ (putOut ⟨1, 0⟩ e).drop i) ++ ((putOut ⟨1, 0⟩ e).take i ++ [c] ++ (putOut ⟨1, 0⟩ e).drop i)) (hee.cpu) (⟨by decide, by decide⟩) (fun _ h => by cases h) (by omega) (fun x hx => (List.mem_append.1 hx).elim (in_256 hee c256 i x) (in_256 hee c256 i x)) (by omega) (by omega) B _ (hL.mem HM hB) (HM.le hB) (Rd.nil) (by have h := HM.rd (i := 0) rfl; rw [← List.map_append] at h; exact h)) ?_
            rintro _ w181 ⟨rfl, hbw⟩
            refine ⟨_, rfl, ?_⟩
            replace HM := HM.call hbw
            clear HF; intro a HF
            refine keepS (HM.picks [1, 2, 3, 4, 5, 6, 7, 8] (by decide) rfl) (fun HS => ?_)
            refine any_pures HF (fun _ => HS) (fun _ _ d _ _ h => by cases d <;> exact h) [48, 49] #[true, true, true, true, true, true, true, true, true, true, true, true, true, true, true, true, true, true, true, true, true, true, true, true, true, true, true, true, true, true, true, true, true, true, true, true, true, true, true, true, true, true, true, true, true, true, true, true, true, true] [(183, .bool false), (182, .bool false)] (by kernel_rfl) ?_; clear HF; intro a HF
            refine any_done (by kernel_rfl) ?_
            replace HF := HF.sub (σ' := [(183, .bool false), (19, .slice A133 ((putOut ⟨1, 0⟩ e).length + 1) c133), (18, .int .u8 (c : Int)), (119, .bool true), (118, .int .i64 (mb : Int)), (117, .int .i64 7), (116, .slice (some ⟨g116, 0, none⟩) 7 7), (113, .bool true), (16, .int .i64 (i : Int)), (14, .slice A107 ((putOut ⟨1, 0⟩ e).length) c107), (13, .pointer (some ⟨g13, 0, none⟩)), (101, .bool true), (100, .int .i64 (ma : Int)), (99, .int .i64 3), (98, .slice (some ⟨g98, 0, none⟩) 3 3), (11, .pointer (some ⟨g11, 0, none⟩)), (31, .bool false), (30, .int .i64 (ja : Int)), (29, .int .i64 13), (28, .slice (some ⟨g28, 0, none⟩) 13 13), (2, .pointer (some ⟨g2, 0, none⟩)), (1, .pointer (some ⟨g1, 0, none⟩)), (0, .bool false)]) (by kernel_rfl)
            replace HM := HM.picks (fs' := [.row (.slice (some ⟨g116, 0, none⟩) 7 7) 7 (smallBytes.map B8) 5 1, .row (.slice A107 ((putOut ⟨1, 0⟩ e).length) c107) ((putOut ⟨1, 0⟩ e).length) ((putOut ⟨1, 0⟩ e).map B8) 5 1, .blk g13 e.cells 37, .row (.slice (some ⟨g98, 0, none⟩) 3 3) 3 ([exA, exB, mostE].flatMap evL) 37 11, .blk g11 mostE.cells 37, .row (.slice (some ⟨g28, 0, none⟩) 13 13) 13 (smallNums.map I64i) 3 1, .blk g2 exB.cells 37, .blk g1 exA.cells 37]) [1, 2, 3, 4, 5, 6, 7, 8] (by decide) rfl
            refine cond_false HF rfl ?_
            refine wp_skip ?_
            refine from_start ?_
            refine from_pures HF 1 0 (j := 1) [(184, .int .i64 (IntKind.i64.wrap ((mb : Int) + 1)))] (by kernel_rfl) rfl ?_; clear HF; intro a HF
            replace HF := HF.as (t := 184) (u := .int .i64 ((mb + 1 : Nat) : Int)) rfl (by rw [IntWalk.i64_in _ (by omega)]; simp)
            refine from_pures HF 1 1 (j := 2) [(118, .int .i64 ((mb + 1 : Nat) : Int))] (by kernel_rfl) rfl ?_; clear HF; intro a HF
            refine from_done rfl ?_
            replace HF := HF.sub (σ' := [(118, .int .i64 ((mb + 1 : Nat) : Int)), (183, .bool false), (19, .slice A133 ((putOut ⟨1, 0⟩ e).length + 1) c133), (18, .int .u8 (c : Int)), (119, .bool true), (117, .int .i64 7), (116, .slice (some ⟨g116, 0, none⟩) 7 7), (113, .bool true), (16, .int .i64 (i : Int)), (14, .slice A107 ((putOut ⟨1, 0⟩ e).length) c107), (13, .pointer (some ⟨g13, 0, none⟩)), (101, .bool true), (100, .int .i64 (ma : Int)), (99, .int .i64 3), (98, .slice (some ⟨g98, 0, none⟩) 3 3), (11, .pointer (some ⟨g11, 0, none⟩)), (31, .bool false), (30, .int .i64 (ja : Int)), (29, .int .i64 13), (28, .slice (some ⟨g28, 0, none⟩) 13 13), (2, .pointer (some ⟨g2, 0, none⟩)), (1, .pointer (some ⟨g1, 0, none⟩)), (0, .bool false)]) (by kernel_rfl)
            exact ⟨_, (by omega), mb + 1, by omega, rfl, HF.sub (by kernel_rfl), HM.picks [0, 1, 2, 3, 4, 5, 6, 7] (by decide) rfl⟩
        · have HF := HF.as (t := 119) (u := .bool false) rfl (by rw [hb119])
          refine cond_false HF rfl ?_
          refine wp_exit ?_
          refine from_start ?_
          refine from_pures HF 2 0 (j := 2) [(115, .int .i64 (IntKind.i64.wrap ((i : Int) + 1))), (114, .int .i64 (i : Int))] (by kernel_rfl) rfl ?_; clear HF; intro a HF
          replace HF := HF.as (t := 115) (u := .int .i64 ((i + 1 : Nat) : Int)) rfl (by rw [IntWalk.i64_in _ (by omega)]; simp)
          refine from_pures HF 1 2 (j := 3) [(16, .int .i64 ((i + 1 : Nat) : Int))] (by kernel_rfl) rfl ?_; clear HF; intro a HF
          refine from_done rfl ?_
          replace HF := HF.sub (σ' := [(16, .int .i64 ((i + 1 : Nat) : Int)), (119, .bool false), (118, .int .i64 (mb : Int)), (117, .int .i64 7), (116, .slice (some ⟨g116, 0, none⟩) 7 7), (113, .bool true), (14, .slice A107 ((putOut ⟨1, 0⟩ e).length) c107), (13, .pointer (some ⟨g13, 0, none⟩)), (101, .bool true), (100, .int .i64 (ma : Int)), (99, .int .i64 3), (98, .slice (some ⟨g98, 0, none⟩) 3 3), (11, .pointer (some ⟨g11, 0, none⟩)), (31, .bool false), (30, .int .i64 (ja : Int)), (29, .int .i64 13), (28, .slice (some ⟨g28, 0, none⟩) 13 13), (2, .pointer (some ⟨g2, 0, none⟩)), (1, .pointer (some ⟨g1, 0, none⟩)), (0, .bool false)]) (by kernel_rfl)
          exact ⟨_, (by omega), i + 1, by omega, rfl, HF.sub (by kernel_rfl), HM.picks [1, 2, 3, 4, 5, 6, 7] (by decide) rfl⟩
      · have HF := HF.as (t := 113) (u := .bool false) rfl (by rw [hb113])
        refine cond_false HF rfl ?_
        refine wp_exit ?_
        refine from_start ?_
        refine from_pures HF 1 0 (j := 1) [(185, .int .i64 (IntKind.i64.wrap ((ma : Int) + 1)))] (by kernel_rfl) rfl ?_; clear HF; intro a HF
        replace HF := HF.as (t := 185) (u := .int .i64 ((ma + 1 : Nat) : Int)) rfl (by rw [IntWalk.i64_in _ (by omega)]; simp)
        refine from_pures HF 1 1 (j := 2) [(100, .int .i64 ((ma + 1 : Nat) : Int))] (by kernel_rfl) rfl ?_; clear HF; intro a HF
        refine from_done rfl ?_
        replace HF := HF.sub (σ' := [(100, .int .i64 ((ma + 1 : Nat) : Int)), (113, .bool false), (16, .int .i64 (i : Int)), (14, .slice A107 ((putOut ⟨1, 0⟩ e).length) c107), (13, .pointer (some ⟨g13, 0, none⟩)), (101, .bool true), (99, .int .i64 3), (98, .slice (some ⟨g98, 0, none⟩) 3 3), (11, .pointer (some ⟨g11, 0, none⟩)), (31, .bool false), (30, .int .i64 (ja : Int)), (29, .int .i64 13), (28, .slice (some ⟨g28, 0, none⟩) 13 13), (2, .pointer (some ⟨g2, 0, none⟩)), (1, .pointer (some ⟨g1, 0, none⟩)), (0, .bool false)]) (by kernel_rfl)
        exact ⟨_, (by omega), ma + 1, by omega, rfl, HF.sub (by kernel_rfl), HM.picks [2, 3, 4, 5, 6] (by decide) rfl⟩
    · have HF := HF.as (t := 101) (u := .bool false) rfl (by rw [hb101])
      refine cond_false HF rfl ?_
      refine wp_exit ?_
      refine wp_seq ?_
      refine from_start ?_
      refine from_yl (S := fun wS => Mem w wS _) HF HM (i := 0) rfl rfl (d := 186) rfl (by decide) (v := .agg exA.cells) (Yl.loadS rfl rfl ⟨(by kernel_rfl), (by kernel_rfl)⟩ rfl (fun _ h => range_of_block (h.blk (i := 4) rfl))) ?_; clear HF; intro a HF
      refine from_yl (S := fun wS => Mem w wS _) HF HM (i := 1) rfl rfl (d := 187) rfl (by decide) (v := .agg exB.cells) (Yl.loadS rfl rfl ⟨(by kernel_rfl), (by kernel_rfl)⟩ rfl (fun _ h => range_of_block (h.blk (i := 3) rfl))) ?_; clear HF; intro a HF
      refine from_yl (S := fun wS => Mem w wS _) HF HM (i := 2) rfl rfl (d := 188) rfl (by decide) (v := .agg #[.int .i64 5, .int .i64 341, .int .u8 2, .int .u8 6, .int .i64 0, .int .i64 0, .int .i64 0, .int .i64 0, .int .i64 0, .int .u64 0, .int .i64 0]) (Yl.build (vs := [(0, .int .i64 5), (1, .int .i64 341), (2, .int .u8 2), (3, .int .u8 6)]) rfl (by kernel_rfl) (by kernel_rfl)) ?_; clear HF; intro a HF
      refine from_yl (S := fun wS => Mem w wS _) HF HM (i := 3) rfl rfl (d := 189) rfl (by decide) (v := .agg #[.int .i64 6, .int .i64 340, .int .u8 2, .int .u8 6, .int .i64 0, .int .i64 0, .int .i64 0, .int .i64 0, .int .i64 0, .int .u64 0, .int .i64 0]) (Yl.build (vs := [(0, .int .i64 6), (1, .int .i64 340), (2, .int .u8 2), (3, .int .u8 6)]) rfl (by kernel_rfl) (by kernel_rfl)) ?_; clear HF; intro a HF
      refine from_yl (S := fun wS => Mem w wS _) HF HM (i := 4) rfl rfl (d := 190) rfl (by decide) (v := .agg #[.int .i64 6, .int .i64 339, .int .u8 2, .int .u8 6, .int .i64 0, .int .i64 0, .int .i64 0, .int .i64 0, .int .i64 0, .int .u64 0, .int .i64 0]) (Yl.build (vs := [(0, .int .i64 6), (1, .int .i64 339), (2, .int .u8 2), (3, .int .u8 6)]) rfl (by kernel_rfl) (by kernel_rfl)) ?_; clear HF; intro a HF
      refine from_yl (S := fun wS => Mem w wS _) HF HM (i := 5) rfl rfl (d := 191) rfl (by decide) (v := .agg #[.int .i64 7, .int .i64 340, .int .u8 3, .int .u8 6, .int .i64 0, .int .i64 0, .int .i64 0, .int .i64 0, .int .i64 0, .int .u64 0, .int .i64 0]) (Yl.build (vs := [(0, .int .i64 7), (1, .int .i64 340), (2, .int .u8 3), (3, .int .u8 6)]) rfl (by kernel_rfl) (by kernel_rfl)) ?_; clear HF; intro a HF
      refine from_yl (S := fun wS => Mem w wS _) HF HM (i := 6) rfl rfl (d := 192) rfl (by decide) (v := .agg #[.int .i64 7, .int .i64 340, .int .u8 2, .int .u8 4, .int .i64 0, .int .i64 0, .int .i64 0, .int .i64 0, .int .i64 0, .int .u64 0, .int .i64 0]) (Yl.build (vs := [(0, .int .i64 7), (1, .int .i64 340), (2, .int .u8 2), (3, .int .u8 4)]) rfl (by kernel_rfl) (by kernel_rfl)) ?_; clear HF; intro a HF
      refine from_op HF (i := 7) rfl rfl ?_
      refine e_slice HF HM (vs := [(0, .agg exA.cells), (1, .agg exB.cells), (2, .agg #[.int .i64 5, .int .i64 341, .int .u8 2, .int .u8 6, .int .i64 0, .int .i64 0, .int .i64 0, .int .i64 0, .int .i64 0, .int .u64 0, .int .i64 0]), (3, .agg #[.int .i64 6, .int .i64 340, .int .u8 2, .int .u8 6, .int .i64 0, .int .i64 0, .int .i64 0, .int .i64 0, .int .i64 0, .int .u64 0, .int .i64 0]), (4, .agg #[.int .i64 6, .int .i64 339, .int .u8 2, .int .u8 6, .int .i64 0, .int .i64 0, .int .i64 0, .int .i64 0, .int .i64 0, .int .u64 0, .int .i64 0]), (5, .agg #[.int .i64 7, .int .i64 340, .int .u8 3, .int .u8 6, .int .i64 0, .int .i64 0, .int .i64 0, .int .i64 0, .int .i64 0, .int .u64 0, .int .i64 0]), (6, .agg #[.int .i64 7, .int .i64 340, .int .u8 2, .int .u8 4, .int .i64 0, .int .i64 0, .int .i64 0, .int .i64 0, .int .i64 0, .int .u64 0, .int .i64 0])]) (cs := #[.int .i64 exA.seq, .int .i64 exA.time, .int .u8 (exA.cpu : Int), .int .u8 (exA.kind : Int), .int .i64 exA.task, .int .i64 exA.group, .int .i64 exA.to, .int .i64 exA.weight, .int .i64 exA.ticks, .int .u64 (exA.mask : Int), .int .i64 exA.got, .int .i64 exB.seq, .int .i64 exB.time, .int .u8 (exB.cpu : Int), .int .u8 (exB.kind : Int), .int .i64 exB.task, .int .i64 exB.group, .int .i64 exB.to, .int .i64 exB.weight, .int .i64 exB.ticks, .int .u64 (exB.mask : Int), .int .i64 exB.got, .int .i64 5, .int .i64 341, .int .u8 2, .int .u8 6, .int .i64 0, .int .i64 0, .int .i64 0, .int .i64 0, .int .i64 0, .int .u64 0, .int .i64 0, .int .i64 6, .int .i64 340, .int .u8 2, .int .u8 6, .int .i64 0, .int .i64 0, .int .i64 0, .int .i64 0, .int .i64 0, .int .u64 0, .int .i64 0, .int .i64 6, .int .i64 339, .int .u8 2, .int .u8 6, .int .i64 0, .int .i64 0, .int .i64 0, .int .i64 0, .int .i64 0, .int .u64 0, .int .i64 0, .int .i64 7, .int .i64 340, .int .u8 3, .int .u8 6, .int .i64 0, .int .i64 0, .int .i64 0, .int .i64 0, .int .i64 0, .int .u64 0, .int .i64 0, .int .i64 7, .int .i64 340, .int .u8 2, .int .u8 4, .int .i64 0, .int .i64 0, .int .i64 0, .int .i64 0, .int .i64 0, .int .u64 0, .int .i64 0]) rfl ei_ev (by decide) rfl (by kernel_rfl) rfl (by decide) ?_
      clear HF HM; intro a w193 g193 HF HM
      refine from_pures HF 1 8 (j := 9) [(20, .slice (some ⟨g193, 0, none⟩) 7 7)] (by kernel_rfl) rfl ?_; clear HF; intro a HF
      refine from_done rfl ?_
      replace HF := HF.sub (σ' := [(20, .slice (some ⟨g193, 0, none⟩) 7 7), (101, .bool false), (100, .int .i64 (ma : Int)), (99, .int .i64 3), (98, .slice (some ⟨g98, 0, none⟩) 3 3), (11, .pointer (some ⟨g11, 0, none⟩)), (31, .bool false), (30, .int .i64 (ja : Int)), (29, .int .i64 13), (28, .slice (some ⟨g28, 0, none⟩) 13 13), (2, .pointer (some ⟨g2, 0, none⟩)), (1, .pointer (some ⟨g1, 0, none⟩)), (0, .bool false)]) (by kernel_rfl)
      replace HM := (HM.blkRow (i := 0) (n := 7) (size := 11) rfl rfl (by decide)).asRow (i := 0) (ys := someL.flatMap evL) rfl (rfl)
      refine wp_seq ?_
      refine wp_seq ?_
      refine from_start ?_
      refine from_pures HF 1 0 (j := 1) [(194, .int .i64 0)] (by kernel_rfl) rfl ?_; clear HF; intro a HF
      refine from_done rfl ?_
      refine wp_block ?_
      refine loop_nat (fun mS aS wS => ∃ (k : Nat), (k ≤ 343) ∧ mS = 343 - k ∧ Fr aS 259 [] [(194, .int .i64 (k : Int)), (20, .slice (some ⟨g193, 0, none⟩) 7 7), (101, .bool false), (100, .int .i64 (ma : Int)), (99, .int .i64 3), (98, .slice (some ⟨g98, 0, none⟩) 3 3), (11, .pointer (some ⟨g11, 0, none⟩)), (31, .bool false), (30, .int .i64 (ja : Int)), (29, .int .i64 13), (28, .slice (some ⟨g28, 0, none⟩) 13 13), (2, .pointer (some ⟨g2, 0, none⟩)), (1, .pointer (some ⟨g1, 0, none⟩)), (0, .bool false)] ∧ Mem w wS [.row (.slice (some ⟨g193, 0, none⟩) 7 7) 7 (someL.flatMap evL) 37 11, .row (.slice (some ⟨g98, 0, none⟩) 3 3) 3 ([exA, exB, mostE].flatMap evL) 37 11, .blk g11 mostE.cells 37, .row (.slice (some ⟨g28, 0, none⟩) 13 13) 13 (smallNums.map I64i) 3 1, .blk g2 exB.cells 37, .blk g1 exA.cells 37]) (m := 343 - 0) ⟨0, Nat.zero_le _, rfl, HF.sub (by kernel_rfl), HM.picks [0, 1, 2, 3, 4, 5] (by decide) rfl⟩ ?_
      clear HF HM; rintro mS a w_ ⟨k, h_k, rfl, HF, HM⟩
      refine wp_seq ?_
      refine from_start ?_
      refine from_pures HF 1 0 (j := 1) [(195, .bool (decide (((k : Int) : Int) < (343 : Int))))] (by kernel_rfl) rfl ?_; clear HF; intro a HF
      refine from_done rfl ?_
      refine wp_seq ?_
      rcases Bool.eq_false_or_eq_true (decide (((k : Int) : Int) < (343 : Int))) with hb195 | hb195
      · have HF := HF.as (t := 195) (u := .bool true) rfl (by rw [hb195])
        have hk : k < 343 := by have := of_decide_eq_true hb195; omega
        obtain ⟨e1, he1⟩ : ∃ e1, someL[(k % 7)]? = some e1 := ⟨_, List.getElem?_eq_getElem (by simpa [smallNums, smallBases, smallBytes, someL] using (by omega : (k % 7) < 7))⟩
        obtain ⟨e2, he2⟩ : ∃ e2, someL[(k / 7 % 7)]? = some e2 := ⟨_, List.getElem?_eq_getElem (by simpa [smallNums, smallBases, smallBytes, someL] using (by omega : (k / 7 % 7) < 7))⟩
        obtain ⟨e3, he3⟩ : ∃ e3, someL[(k / 49)]? = some e3 := ⟨_, List.getElem?_eq_getElem (by simpa [smallNums, smallBases, smallBytes, someL] using (by omega : (k / 49) < 7))⟩
        have ho1 := someL_ok e1 (List.mem_of_getElem? he1)
        have ho2 := someL_ok e2 (List.mem_of_getElem? he2)
        have ho3 := someL_ok e3 (List.mem_of_getElem? he3)
        refine cond_true HF rfl ?_
        refine wp_skip ?_
        refine wp_seq ?_
        refine wp_block ?_
        refine wp_seq ?_
        refine from_start ?_
        refine from_pures HF 2 0 (j := 2) [(21, .int .i64 (k : Int)), (196, .int .i64 (k : Int))] (by kernel_rfl) rfl ?_; clear HF; intro a HF
        refine from_done rfl ?_
        replace HF := HF.sub (σ' := [(21, .int .i64 (k : Int)), (195, .bool true), (194, .int .i64 (k : Int)), (20, .slice (some ⟨g193, 0, none⟩) 7 7), (101, .bool false), (100, .int .i64 (ma : Int)), (99, .int .i64 3), (98, .slice (some ⟨g98, 0, none⟩) 3 3), (11, .pointer (some ⟨g11, 0, none⟩)), (31, .bool false), (30, .int .i64 (ja : Int)), (29, .int .i64 13), (28, .slice (some ⟨g28, 0, none⟩) 13 13), (2, .pointer (some ⟨g2, 0, none⟩)), (1, .pointer (some ⟨g1, 0, none⟩)), (0, .bool false)]) (by kernel_rfl)
        refine wp_seq ?_
        refine any_start (by kernel_rfl) (fun wS => Mem w wS [.row (.slice (some ⟨g193, 0, none⟩) 7 7) 7 (someL.flatMap evL) 37 11, .row (.slice (some ⟨g98, 0, none⟩) 3 3) 3 ([exA, exB, mostE].flatMap evL) 37 11, .blk g11 mostE.cells 37, .row (.slice (some ⟨g28, 0, none⟩) 13 13) 13 (smallNums.map I64i) 3 1, .blk g2 exB.cells 37, .blk g1 exA.cells 37]) [] ?_
        replace HM := HM.drew
        have HS := HM.picks (fs' := [.row (.slice (some ⟨g193, 0, none⟩) 7 7) 7 (someL.flatMap evL) 37 11, .row (.slice (some ⟨g98, 0, none⟩) 3 3) 3 ([exA, exB, mostE].flatMap evL) 37 11, .blk g11 mostE.cells 37, .row (.slice (some ⟨g28, 0, none⟩) 13 13) 13 (smallNums.map I64i) 3 1, .blk g2 exB.cells 37, .blk g1 exA.cells 37]) [0, 1, 2, 3, 4, 5] (by decide) rfl
        refine any_pures HF (fun _ => HS) (fun _ _ d _ _ h => by cases d <;> exact h) [0, 1, 5, 6, 11, 12] #[true, true, false, false, false, true, true, false, false, false, false, true, true, false, false, false, false, false] [(209, .int .i64 (k : Int)), (208, .slice (some ⟨g193, 0, none⟩) 7 7), (203, .int .i64 (k : Int)), (202, .slice (some ⟨g193, 0, none⟩) 7 7), (198, .int .i64 (k : Int)), (197, .slice (some ⟨g193, 0, none⟩) 7 7)] (by kernel_rfl) ?_; clear HF; intro a HF
        refine any_pure HF (fun _ => HS) (i := 2) rfl rfl (d := 199) rfl (by decide) (by kernel_rfl) (fun _ _ _ h => h) (v := .int .i64 (Int.tmod (k : Int) 7)) (fun _ => Yl.pure (by kernel_rfl)) ?_; clear HF; intro a HF
        replace HF := HF.as (t := 199) (u := .int .i64 ((k % 7 : Nat) : Int)) rfl (rfl)
        refine any_yl HF HS (i := 3) rfl rfl (d := 200) rfl (by decide) (by kernel_rfl) (fun _ _ _ h => h) (v := .pointer (some ⟨g193, (k % 7) * 11, none⟩)) ((Yl.indexAddr (ad := ⟨g193, 0, none⟩) (y := (k % 7)) (sz := 11) rfl rfl rfl (by omega) (by kernel_rfl)).as (by rw [Addr.add_mid, Nat.zero_add])) ?_; clear HF; intro a HF
        refine any_yl HF HS (i := 4) rfl rfl (d := 201) rfl (by decide) (by kernel_rfl) (fun _ _ _ h => h) (v := .agg e1.cells) (Yl.loadS rfl rfl ⟨(by kernel_rfl), (by kernel_rfl)⟩ rfl (fun _ h => h.rowStruct evL_len (i := 0) rfl (he1))) ?_; clear HF; intro a HF
        refine any_pure HF (fun _ => HS) (i := 7) rfl rfl (d := 204) rfl (by decide) (by kernel_rfl) (fun _ _ _ h => h) (v := .int .i64 (IntKind.i64.wrap (Int.tdiv (k : Int) 7))) (fun _ => Yl.pure (by kernel_rfl)) ?_; clear HF; intro a HF
        replace HF := HF.as (t := 204) (u := .int .i64 ((k / 7 : Nat) : Int)) rfl (by rw [show Int.tdiv (k : Int) 7 = ((k / 7 : Nat) : Int) from rfl, IntWalk.i64_in _ (by omega)])
        refine any_pure HF (fun _ => HS) (i := 8) rfl rfl (d := 205) rfl (by decide) (by kernel_rfl) (fun _ _ _ h => h) (v := .int .i64 (Int.tmod ((k / 7 : Nat) : Int) 7)) (fun _ => Yl.pure (by kernel_rfl)) ?_; clear HF; intro a HF
        replace HF := HF.as (t := 205) (u := .int .i64 ((k / 7 % 7 : Nat) : Int)) rfl (rfl)
        refine any_yl HF HS (i := 9) rfl rfl (d := 206) rfl (by decide) (by kernel_rfl) (fun _ _ _ h => h) (v := .pointer (some ⟨g193, (k / 7 % 7) * 11, none⟩)) ((Yl.indexAddr (ad := ⟨g193, 0, none⟩) (y := (k / 7 % 7)) (sz := 11) rfl rfl rfl (by omega) (by kernel_rfl)).as (by rw [Addr.add_mid, Nat.zero_add])) ?_; clear HF; intro a HF
        refine any_yl HF HS (i := 10) rfl rfl (d := 207) rfl (by decide) (by kernel_rfl) (fun _ _ _ h => h) (v := .agg e2.cells) (Yl.loadS rfl rfl ⟨(by kernel_rfl), (by kernel_rfl)⟩ rfl (fun _ h => h.rowStruct evL_len (i := 0) rfl (he2))) ?_; clear HF; intro a HF
        refine any_pure HF (fun _ => HS) (i := 13) rfl rfl (d := 210) rfl (by decide) (by kernel_rfl) (fun _ _ _ h => h) (v := .int .i64 (IntKind.i64.wrap (Int.tdiv (k : Int) 49))) (fun _ => Yl.pure (by kernel_rfl)) ?_; clear HF; intro a HF
        replace HF := HF.as (t := 210) (u := .int .i64 ((k / 49 : Nat) : Int)) rfl (by rw [show Int.tdiv (k : Int) 49 = ((k / 49 : Nat) : Int) from rfl, IntWalk.i64_in _ (by omega)])
        refine any_yl HF HS (i := 14) rfl rfl (d := 211) rfl (by decide) (by kernel_rfl) (fun _ _ _ h => h) (v := .pointer (some ⟨g193, (k / 49) * 11, none⟩)) ((Yl.indexAddr (ad := ⟨g193, 0, none⟩) (y := (k / 49)) (sz := 11) rfl rfl rfl (by omega) (by kernel_rfl)).as (by rw [Addr.add_mid, Nat.zero_add])) ?_; clear HF; intro a HF
        refine any_yl HF HS (i := 15) rfl rfl (d := 212) rfl (by decide) (by kernel_rfl) (fun _ _ _ h => h) (v := .agg e3.cells) (Yl.loadS rfl rfl ⟨(by kernel_rfl), (by kernel_rfl)⟩ rfl (fun _ h => h.rowStruct evL_len (i := 0) rfl (he3))) ?_; clear HF; intro a HF
        refine any_all [16] (by kernel_rfl) rfl ?_
        refine all_cons ?_ all_nil
        refine any_op HF (i := 16) rfl rfl ?_
        refine e_slice HF HM (vs := [(0, .agg e1.cells), (1, .agg e2.cells), (2, .agg e3.cells)]) (cs := #[.int .i64 e1.seq, .int .i64 e1.time, .int .u8 (e1.cpu : Int), .int .u8 (e1.kind : Int), .int .i64 e1.task, .int .i64 e1.group, .int .i64 e1.to, .int .i64 e1.weight, .int .i64 e1.ticks, .int .u64 (e1.mask : Int), .int .i64 e1.got, .int .i64 e2.seq, .int .i64 e2.time, .int .u8 (e2.cpu : Int), .int .u8 (e2.kind : Int), .int .i64 e2.task, .int .i64 e2.group, .int .i64 e2.to, .int .i64 e2.weight, .int .i64 e2.ticks, .int .u64 (e2.mask : Int), .int .i64 e2.got, .int .i64 e3.seq, .int .i64 e3.time, .int .u8 (e3.cpu : Int), .int .u8 (e3.kind : Int), .int .i64 e3.task, .int .i64 e3.group, .int .i64 e3.to, .int .i64 e3.weight, .int .i64 e3.ticks, .int .u64 (e3.mask : Int), .int .i64 e3.got]) rfl ei_ev (by decide) rfl (by kernel_rfl) rfl (by decide) ?_
        clear HF HM; intro a w213 g213 HF HM
        refine keepS (HM.picks [1, 2, 3, 4, 5, 6] (by decide) rfl) (fun HS => ?_)
        refine any_pures HF (fun _ => HS) (fun _ _ d _ _ h => by cases d <;> exact h) [17] #[true, true, true, true, true, true, true, true, true, true, true, true, true, true, true, true, true, true] [(22, .slice (some ⟨g213, 0, none⟩) 3 3)] (by kernel_rfl) ?_; clear HF; intro a HF
        refine any_done (by kernel_rfl) ?_
        replace HF := HF.sub (σ' := [(22, .slice (some ⟨g213, 0, none⟩) 3 3), (21, .int .i64 (k : Int)), (195, .bool true), (194, .int .i64 (k : Int)), (20, .slice (some ⟨g193, 0, none⟩) 7 7), (101, .bool false), (100, .int .i64 (ma : Int)), (99, .int .i64 3), (98, .slice (some ⟨g98, 0, none⟩) 3 3), (11, .pointer (some ⟨g11, 0, none⟩)), (31, .bool false), (30, .int .i64 (ja : Int)), (29, .int .i64 13), (28, .slice (some ⟨g28, 0, none⟩) 13 13), (2, .pointer (some ⟨g2, 0, none⟩)), (1, .pointer (some ⟨g1, 0, none⟩)), (0, .bool false)]) (by kernel_rfl)
        refine wp_seq ?_
        refine from_start ?_
        refine from_yl (S := fun wS => Mem w wS _) HF HM (i := 0) rfl rfl (d := 214) rfl (by decide) (v := .agg #[.int .i64 1, .int .i64 0]) (Yl.build (vs := [(0, .int .i64 1)]) rfl (by kernel_rfl) (by kernel_rfl)) ?_; clear HF; intro a HF
        refine from_pures HF 1 1 (j := 2) [(215, .slice (some ⟨g213, 0, none⟩) 3 3)] (by kernel_rfl) rfl ?_; clear HF; intro a HF
        refine from_yl (S := fun wS => Mem w wS _) HF HM (i := 2) rfl rfl (d := 216) rfl (by decide) (v := .agg #[.int .i64 1, .int .i64 0, .slice (some ⟨g213, 0, none⟩) 3 3, .int .u8 2, .int .i64 1, .slice none 0 0]) (Yl.build (vs := [(0, .agg #[.int .i64 1, .int .i64 0]), (1, .slice (some ⟨g213, 0, none⟩) 3 3), (2, .int .u8 2), (3, .int .i64 1), (4, .slice none 0 0)]) rfl (by kernel_rfl) (by kernel_rfl)) ?_; clear HF; intro a HF
        refine from_op HF (i := 3) rfl rfl ?_
        refine e_call HF (vs := [.agg #[.int .i64 1, .int .i64 0, .slice (some ⟨g213, 0, none⟩) 3 3, .int .u8 2, .int .i64 1, .slice none 0 0]]) rfl (by kernel_rfl) (by kernel_rfl) rfl (by decide) (rows_any (⟨1, 0⟩ : Bs) (some ⟨g213, 0, none⟩) (3) (3) 2 1 (none) (0) (0) [e1, e2, e3] ([]) (by decide) (⟨by decide, by decide⟩) (ok_three ho1 ho2 ho3) (Nat.le_refl _) (fun _ h => by cases h) (by omega) (by omega) B _ (hL.mem HM hB) (HM.le hB) (HM.rdBlk (i := 0) (n := 3) (size := 11) rfl rfl) (Rd.nil)) ?_
        rintro _ w217 ⟨rfl, hbw⟩
        refine ⟨_, rfl, ?_⟩
        replace HM := HM.call hbw
        clear HF; intro a HF
        refine from_pures HF 2 4 (j := 6) [(219, .bool false), (218, .bool false)] (by kernel_rfl) rfl ?_; clear HF; intro a HF
        refine from_yl (S := fun wS => Mem w wS _) HF HM (i := 6) rfl rfl (d := 220) rfl (by decide) (v := .agg #[.int .i64 5, .int .i64 340]) (Yl.build (vs := [(0, .int .i64 5), (1, .int .i64 340)]) rfl (by kernel_rfl) (by kernel_rfl)) ?_; clear HF; intro a HF
        refine from_pures HF 1 7 (j := 8) [(221, .slice (some ⟨g213, 0, none⟩) 3 3)] (by kernel_rfl) rfl ?_; clear HF; intro a HF
        refine from_yl (S := fun wS => Mem w wS _) HF HM (i := 8) rfl rfl (d := 222) rfl (by decide) (v := .slice (some ⟨g213, 0, none⟩) 2 3) (Yl.sliceUpto ei_ev (j := 2) rfl rfl rfl (by decide)) ?_; clear HF; intro a HF
        refine from_yl (S := fun wS => Mem w wS _) HF HM (i := 9) rfl rfl (d := 223) rfl (by decide) (v := .agg #[.int .i64 5, .int .i64 340, .slice (some ⟨g213, 0, none⟩) 2 3, .int .u8 2, .int .i64 0, .slice none 0 0]) (Yl.build (vs := [(0, .agg #[.int .i64 5, .int .i64 340]), (1, .slice (some ⟨g213, 0, none⟩) 2 3), (2, .int .u8 2), (3, .int .i64 0), (4, .slice none 0 0)]) rfl (by kernel_rfl) (by kernel_rfl)) ?_; clear HF; intro a HF
        refine from_op HF (i := 10) rfl rfl ?_
        refine e_call HF (vs := [.agg #[.int .i64 5, .int .i64 340, .slice (some ⟨g213, 0, none⟩) 2 3, .int .u8 2, .int .i64 0, .slice none 0 0]]) rfl (by kernel_rfl) (by kernel_rfl) rfl (by decide) (rows_any (⟨5, 340⟩ : Bs) (some ⟨g213, 0, none⟩) (2) (3) 2 0 (none) (0) (0) [e1, e2] ([]) (by decide) (⟨by decide, by decide⟩) (ok_two ho1 ho2) (Nat.le_refl _) (fun _ h => by cases h) (by omega) (by omega) B _ (hL.mem HM hB) (HM.le hB) ((HM.rdBlk (i := 0) (n := 3) (size := 11) rfl rfl).upto (k := 2) (by decide)) (Rd.nil)) ?_
        rintro _ w224 ⟨rfl, hbw⟩
        refine ⟨_, rfl, ?_⟩
        replace HM := HM.call hbw
        clear HF; intro a HF
        refine from_pures HF 2 11 (j := 13) [(226, .bool false), (225, .bool false)] (by kernel_rfl) rfl ?_; clear HF; intro a HF
        refine from_done rfl ?_
        replace HF := HF.sub (σ' := [(226, .bool false), (22, .slice (some ⟨g213, 0, none⟩) 3 3), (21, .int .i64 (k : Int)), (195, .bool true), (194, .int .i64 (k : Int)), (20, .slice (some ⟨g193, 0, none⟩) 7 7), (101, .bool false), (100, .int .i64 (ma : Int)), (99, .int .i64 3), (98, .slice (some ⟨g98, 0, none⟩) 3 3), (11, .pointer (some ⟨g11, 0, none⟩)), (31, .bool false), (30, .int .i64 (ja : Int)), (29, .int .i64 13), (28, .slice (some ⟨g28, 0, none⟩) 13 13), (2, .pointer (some ⟨g2, 0, none⟩)), (1, .pointer (some ⟨g1, 0, none⟩)), (0, .bool false)]) (by kernel_rfl)
        refine cond_false HF rfl ?_
        refine wp_skip ?_
        refine from_start ?_
        refine from_pures HF 1 0 (j := 1) [(227, .int .i64 (IntKind.i64.wrap ((k : Int) + 1)))] (by kernel_rfl) rfl ?_; clear HF; intro a HF
        replace HF := HF.as (t := 227) (u := .int .i64 ((k + 1 : Nat) : Int)) rfl (by rw [IntWalk.i64_in _ (by omega)]; simp)
        refine from_pures HF 1 1 (j := 2) [(194, .int .i64 ((k + 1 : Nat) : Int))] (by kernel_rfl) rfl ?_; clear HF; intro a HF
        refine from_done rfl ?_
        replace HF := HF.sub (σ' := [(194, .int .i64 ((k + 1 : Nat) : Int)), (226, .bool false), (22, .slice (some ⟨g213, 0, none⟩) 3 3), (21, .int .i64 (k : Int)), (195, .bool true), (20, .slice (some ⟨g193, 0, none⟩) 7 7), (101, .bool false), (100, .int .i64 (ma : Int)), (99, .int .i64 3), (98, .slice (some ⟨g98, 0, none⟩) 3 3), (11, .pointer (some ⟨g11, 0, none⟩)), (31, .bool false), (30, .int .i64 (ja : Int)), (29, .int .i64 13), (28, .slice (some ⟨g28, 0, none⟩) 13 13), (2, .pointer (some ⟨g2, 0, none⟩)), (1, .pointer (some ⟨g1, 0, none⟩)), (0, .bool false)]) (by kernel_rfl)
        exact ⟨_, (by omega), k + 1, by omega, rfl, HF.sub (by kernel_rfl), HM.picks [1, 2, 3, 4, 5, 6] (by decide) rfl⟩
      · have HF := HF.as (t := 195) (u := .bool false) rfl (by rw [hb195])
        refine cond_false HF rfl ?_
        refine wp_exit ?_
        refine wp_seq ?_
        refine wp_seq ?_
        refine from_start ?_
        refine from_pures HF 1 0 (j := 1) [(228, .int .i64 0)] (by kernel_rfl) rfl ?_; clear HF; intro a HF
        refine from_done rfl ?_
        replace HF := HF.sub (σ' := [(228, .int .i64 0), (195, .bool false), (194, .int .i64 (k : Int)), (20, .slice (some ⟨g193, 0, none⟩) 7 7), (101, .bool false), (100, .int .i64 (ma : Int)), (99, .int .i64 3), (98, .slice (some ⟨g98, 0, none⟩) 3 3), (11, .pointer (some ⟨g11, 0, none⟩)), (31, .bool false), (30, .int .i64 (ja : Int)), (29, .int .i64 13), (28, .slice (some ⟨g28, 0, none⟩) 13 13), (2, .pointer (some ⟨g2, 0, none⟩)), (1, .pointer (some ⟨g1, 0, none⟩)), (0, .bool false)]) (by kernel_rfl)
        refine wp_block ?_
        refine loop_nat (fun mS aS wS => ∃ (kk : Nat), (kk ≤ 3072) ∧ mS = 3072 - kk ∧ Fr aS 259 [] [(228, .int .i64 (kk : Int)), (195, .bool false), (194, .int .i64 (k : Int)), (20, .slice (some ⟨g193, 0, none⟩) 7 7), (101, .bool false), (100, .int .i64 (ma : Int)), (99, .int .i64 3), (98, .slice (some ⟨g98, 0, none⟩) 3 3), (11, .pointer (some ⟨g11, 0, none⟩)), (31, .bool false), (30, .int .i64 (ja : Int)), (29, .int .i64 13), (28, .slice (some ⟨g28, 0, none⟩) 13 13), (2, .pointer (some ⟨g2, 0, none⟩)), (1, .pointer (some ⟨g1, 0, none⟩)), (0, .bool false)] ∧ Mem w wS [.row (.slice (some ⟨g193, 0, none⟩) 7 7) 7 (someL.flatMap evL) 37 11, .row (.slice (some ⟨g98, 0, none⟩) 3 3) 3 ([exA, exB, mostE].flatMap evL) 37 11, .blk g11 mostE.cells 37, .row (.slice (some ⟨g28, 0, none⟩) 13 13) 13 (smallNums.map I64i) 3 1, .blk g2 exB.cells 37, .blk g1 exA.cells 37]) (m := 3072 - 0) ⟨0, Nat.zero_le _, rfl, HF.sub (by kernel_rfl), HM.picks [0, 1, 2, 3, 4, 5] (by decide) rfl⟩ ?_
        clear HF HM; rintro mS a w_ ⟨kk, h_kk, rfl, HF, HM⟩
        refine wp_seq ?_
        refine from_start ?_
        refine from_pures HF 1 0 (j := 1) [(229, .bool (decide (((kk : Int) : Int) < (3072 : Int))))] (by kernel_rfl) rfl ?_; clear HF; intro a HF
        refine from_done rfl ?_
        refine wp_seq ?_
        rcases Bool.eq_false_or_eq_true (decide (((kk : Int) : Int) < (3072 : Int))) with hb229 | hb229
        · have HF := HF.as (t := 229) (u := .bool true) rfl (by rw [hb229])
          have hk : kk < 3072 := by have := of_decide_eq_true hb229; omega
          refine cond_true HF rfl ?_
          refine wp_skip ?_
          refine wp_seq ?_
          refine wp_block ?_
          refine wp_seq ?_
          refine from_start ?_
          refine from_pures HF 2 0 (j := 2) [(23, .int .i64 (kk : Int)), (230, .int .i64 (kk : Int))] (by kernel_rfl) rfl ?_; clear HF; intro a HF
          refine from_done rfl ?_
          replace HF := HF.sub (σ' := [(23, .int .i64 (kk : Int)), (229, .bool true), (228, .int .i64 (kk : Int)), (195, .bool false), (194, .int .i64 (k : Int)), (20, .slice (some ⟨g193, 0, none⟩) 7 7), (101, .bool false), (100, .int .i64 (ma : Int)), (99, .int .i64 3), (98, .slice (some ⟨g98, 0, none⟩) 3 3), (11, .pointer (some ⟨g11, 0, none⟩)), (31, .bool false), (30, .int .i64 (ja : Int)), (29, .int .i64 13), (28, .slice (some ⟨g28, 0, none⟩) 13 13), (2, .pointer (some ⟨g2, 0, none⟩)), (1, .pointer (some ⟨g1, 0, none⟩)), (0, .bool false)]) (by kernel_rfl)
          refine wp_seq ?_
          refine from_start ?_
          refine from_yl (S := fun wS => Mem w wS _) HF HM (i := 0) rfl rfl (d := 231) rfl (by decide) (v := .agg #[.int .i64 9, .int .i64 0]) (Yl.build (vs := [(0, .int .i64 9)]) rfl (by kernel_rfl) (by kernel_rfl)) ?_; clear HF; intro a HF
          refine from_yl (S := fun wS => Mem w wS _) HF HM (i := 1) rfl rfl (d := 232) rfl (by decide) (v := .agg Ev.zero.cells) ((Yl.build (vs := []) rfl (by kernel_rfl) (by kernel_rfl))) ?_; clear HF; intro a HF
          refine from_pures HF 2 2 (j := 4) [(234, .int .i64 (Int.tmod (kk : Int) 12)), (233, .int .i64 (kk : Int))] (by kernel_rfl) rfl ?_; clear HF; intro a HF
          replace HF := HF.as (t := 234) (u := .int .i64 ((kk % 12 : Nat) : Int)) rfl (rfl)
          refine from_pures HF 1 4 (j := 5) [(235, .int .u8 (IntKind.u8.wrap ((kk % 12 : Nat) : Int)))] (by kernel_rfl) rfl ?_; clear HF; intro a HF
          replace HF := HF.as (t := 235) (u := .int .u8 ((kk % 12 : Nat) : Int)) rfl (by rw [IntKind.wrap_u8]; congr 1; omega)
          refine from_pures HF 2 5 (j := 7) [(237, .int .i64 (IntKind.i64.wrap (Int.tdiv (kk : Int) 12))), (236, .int .i64 (kk : Int))] (by kernel_rfl) rfl ?_; clear HF; intro a HF
          replace HF := HF.as (t := 237) (u := .int .i64 ((kk / 12 : Nat) : Int)) rfl (by rw [show Int.tdiv (kk : Int) 12 = ((kk / 12 : Nat) : Int) from rfl, IntWalk.i64_in _ (by omega)])
          refine from_pures HF 1 7 (j := 8) [(238, .int .u8 (IntKind.u8.wrap ((kk / 12 : Nat) : Int)))] (by kernel_rfl) rfl ?_; clear HF; intro a HF
          replace HF := HF.as (t := 238) (u := .int .u8 ((kk / 12 : Nat) : Int)) rfl (by rw [IntKind.wrap_u8]; congr 1; omega)
          refine from_op HF (i := 8) rfl rfl ?_
          refine e_slice HF HM (vs := [(0, .int .u8 ((kk % 12 : Nat) : Int)), (1, .int .u8 ((kk / 12 : Nat) : Int)), (2, .int .u8 0), (3, .int .u8 1)]) (cs := #[.int .u8 ((kk % 12 : Nat) : Int), .int .u8 ((kk / 12 : Nat) : Int), .int .u8 0, .int .u8 1]) rfl ei_u8 (by decide) rfl (by kernel_rfl) rfl (by decide) ?_
          clear HF HM; intro a w239 g239 HF HM
          refine from_op HF (i := 9) rfl rfl ?_
          refine e_call HF (vs := [.agg #[.int .i64 9, .int .i64 0], .agg Ev.zero.cells, .int .u8 0, .slice (some ⟨g239, 0, none⟩) 4 4]) rfl (by kernel_rfl) (by kernel_rfl) rfl (by decide) (tells_any (⟨9, 0⟩ : Bs) Ev.zero (zero_ok7) 0 (by decide) _ (4) _ ([(kk % 12 : Nat), (kk / 12 : Nat), 0, 1]) B _ (hL.mem HM hB) (HM.le hB) (HM.rdBlk (i := 0) (n := 4) (size := 1) rfl rfl) (Nat.le_refl _) (by intro x hx; simp at hx; omega) (by omega)) ?_
          rintro _ w240 ⟨rfl, hbw⟩
          refine ⟨_, rfl, ?_⟩
          replace HM := HM.call hbw
          clear HF; intro a HF
          refine from_pures HF 2 10 (j := 12) [(242, .bool false), (241, .bool false)] (by kernel_rfl) rfl ?_; clear HF; intro a HF
          refine from_yl (S := fun wS => Mem w wS _) HF HM (i := 12) rfl rfl (d := 243) rfl (by decide) (v := .agg #[.int .i64 9, .int .i64 0]) (Yl.build (vs := [(0, .int .i64 9)]) rfl (by kernel_rfl) (by kernel_rfl)) ?_; clear HF; intro a HF
          refine from_yl (S := fun wS => Mem w wS _) HF HM (i := 13) rfl rfl (d := 244) rfl (by decide) (v := .agg Ev.zero.cells) ((Yl.build (vs := []) rfl (by kernel_rfl) (by kernel_rfl))) ?_; clear HF; intro a HF
          refine from_pures HF 2 14 (j := 16) [(246, .int .i64 (Int.tmod (kk : Int) 12)), (245, .int .i64 (kk : Int))] (by kernel_rfl) rfl ?_; clear HF; intro a HF
          replace HF := HF.as (t := 246) (u := .int .i64 ((kk % 12 : Nat) : Int)) rfl (rfl)
          refine from_pures HF 1 16 (j := 17) [(247, .int .u8 (IntKind.u8.wrap ((kk % 12 : Nat) : Int)))] (by kernel_rfl) rfl ?_; clear HF; intro a HF
          replace HF := HF.as (t := 247) (u := .int .u8 ((kk % 12 : Nat) : Int)) rfl (by rw [IntKind.wrap_u8]; congr 1; omega)
          refine from_pures HF 2 17 (j := 19) [(249, .int .i64 (IntKind.i64.wrap (Int.tdiv (kk : Int) 12))), (248, .int .i64 (kk : Int))] (by kernel_rfl) rfl ?_; clear HF; intro a HF
          replace HF := HF.as (t := 249) (u := .int .i64 ((kk / 12 : Nat) : Int)) rfl (by rw [show Int.tdiv (kk : Int) 12 = ((kk / 12 : Nat) : Int) from rfl, IntWalk.i64_in _ (by omega)])
          refine from_pures HF 1 19 (j := 20) [(250, .int .u8 (IntKind.u8.wrap ((kk / 12 : Nat) : Int)))] (by kernel_rfl) rfl ?_; clear HF; intro a HF
          replace HF := HF.as (t := 250) (u := .int .u8 ((kk / 12 : Nat) : Int)) rfl (by rw [IntKind.wrap_u8]; congr 1; omega)
          refine from_pures HF 2 20 (j := 22) [(252, .int .u8 (IntKind.u8.wrap (kk : Int))), (251, .int .i64 (kk : Int))] (by kernel_rfl) rfl ?_; clear HF; intro a HF
          replace HF := HF.as (t := 252) (u := .int .u8 ((kk % 256 : Nat) : Int)) rfl (by rw [IntKind.wrap_u8]; congr 1)
          refine from_op HF (i := 22) rfl rfl ?_
          refine e_slice HF HM (vs := [(0, .int .u8 ((kk % 12 : Nat) : Int)), (1, .int .u8 0), (2, .int .u8 ((kk / 12 : Nat) : Int)), (3, .int .u8 ((kk % 256 : Nat) : Int)), (4, .int .u8 1), (5, .int .u8 3)]) (cs := #[.int .u8 ((kk % 12 : Nat) : Int), .int .u8 0, .int .u8 ((kk / 12 : Nat) : Int), .int .u8 ((kk % 256 : Nat) : Int), .int .u8 1, .int .u8 3]) rfl ei_u8 (by decide) rfl (by kernel_rfl) rfl (by decide) ?_
          clear HF HM; intro a w253 g253 HF HM
          refine from_op HF (i := 23) rfl rfl ?_
          refine e_call HF (vs := [.agg #[.int .i64 9, .int .i64 0], .agg Ev.zero.cells, .int .u8 1, .slice (some ⟨g253, 0, none⟩) 6 6]) rfl (by kernel_rfl) (by kernel_rfl) rfl (by decide) (tells_any (⟨9, 0⟩ : Bs) Ev.zero (zero_ok7) 1 (by decide) _ (6) _ ([(kk % 12 : Nat), 0, (kk / 12 : Nat), (kk % 256 : Nat), 1, 3]) B _ (hL.mem HM hB) (HM.le hB) (HM.rdBlk (i := 0) (n := 6) (size := 1) rfl rfl) (Nat.le_refl _) (by intro x hx; simp at hx; omega) (by omega)) ?_
          rintro _ w254 ⟨rfl, hbw⟩
          refine ⟨_, rfl, ?_⟩
          replace HM := HM.call hbw
          clear HF; intro a HF
          refine from_pures HF 2 24 (j := 26) [(256, .bool false), (255, .bool false)] (by kernel_rfl) rfl ?_; clear HF; intro a HF
          refine from_done rfl ?_
          replace HF := HF.sub (σ' := [(256, .bool false), (23, .int .i64 (kk : Int)), (229, .bool true), (228, .int .i64 (kk : Int)), (195, .bool false), (194, .int .i64 (k : Int)), (20, .slice (some ⟨g193, 0, none⟩) 7 7), (101, .bool false), (100, .int .i64 (ma : Int)), (99, .int .i64 3), (98, .slice (some ⟨g98, 0, none⟩) 3 3), (11, .pointer (some ⟨g11, 0, none⟩)), (31, .bool false), (30, .int .i64 (ja : Int)), (29, .int .i64 13), (28, .slice (some ⟨g28, 0, none⟩) 13 13), (2, .pointer (some ⟨g2, 0, none⟩)), (1, .pointer (some ⟨g1, 0, none⟩)), (0, .bool false)]) (by kernel_rfl)
          replace HM := HM.picks (fs' := [.row (.slice (some ⟨g193, 0, none⟩) 7 7) 7 (someL.flatMap evL) 37 11, .row (.slice (some ⟨g98, 0, none⟩) 3 3) 3 ([exA, exB, mostE].flatMap evL) 37 11, .blk g11 mostE.cells 37, .row (.slice (some ⟨g28, 0, none⟩) 13 13) 13 (smallNums.map I64i) 3 1, .blk g2 exB.cells 37, .blk g1 exA.cells 37]) [2, 3, 4, 5, 6, 7] (by decide) rfl
          refine cond_false HF rfl ?_
          refine wp_skip ?_
          refine from_start ?_
          refine from_pures HF 1 0 (j := 1) [(257, .int .i64 (IntKind.i64.wrap ((kk : Int) + 1)))] (by kernel_rfl) rfl ?_; clear HF; intro a HF
          replace HF := HF.as (t := 257) (u := .int .i64 ((kk + 1 : Nat) : Int)) rfl (by rw [IntWalk.i64_in _ (by omega)]; simp)
          refine from_pures HF 1 1 (j := 2) [(228, .int .i64 ((kk + 1 : Nat) : Int))] (by kernel_rfl) rfl ?_; clear HF; intro a HF
          refine from_done rfl ?_
          replace HF := HF.sub (σ' := [(228, .int .i64 ((kk + 1 : Nat) : Int)), (256, .bool false), (23, .int .i64 (kk : Int)), (229, .bool true), (195, .bool false), (194, .int .i64 (k : Int)), (20, .slice (some ⟨g193, 0, none⟩) 7 7), (101, .bool false), (100, .int .i64 (ma : Int)), (99, .int .i64 3), (98, .slice (some ⟨g98, 0, none⟩) 3 3), (11, .pointer (some ⟨g11, 0, none⟩)), (31, .bool false), (30, .int .i64 (ja : Int)), (29, .int .i64 13), (28, .slice (some ⟨g28, 0, none⟩) 13 13), (2, .pointer (some ⟨g2, 0, none⟩)), (1, .pointer (some ⟨g1, 0, none⟩)), (0, .bool false)]) (by kernel_rfl)
          exact ⟨_, (by omega), kk + 1, by omega, rfl, HF.sub (by kernel_rfl), HM.picks [0, 1, 2, 3, 4, 5] (by decide) rfl⟩
        · have HF := HF.as (t := 229) (u := .bool false) rfl (by rw [hb229])
          refine cond_false HF rfl ?_
          refine wp_exit ?_
          refine wp_seq ?_
          refine from_start ?_
          refine from_op HF (i := 0) rfl rfl ?_
          refine e_call HF (vs := []) rfl (by kernel_rfl) (by kernel_rfl) rfl (by decide) (awake_any B _ (hL.mem HM hB) (HM.le hB)) ?_
          rintro _ w258 ⟨rfl, hbw⟩
          refine ⟨_, rfl, ?_⟩
          replace HM := HM.call hbw
          clear HF; intro a HF
          refine from_pures HF 1 1 (j := 2) [(0, .bool true)] (by kernel_rfl) rfl ?_; clear HF; intro a HF
          refine from_done rfl ?_
          replace HF := HF.sub (σ' := [(0, .bool true), (229, .bool false), (228, .int .i64 (kk : Int)), (195, .bool false), (194, .int .i64 (k : Int)), (20, .slice (some ⟨g193, 0, none⟩) 7 7), (101, .bool false), (100, .int .i64 (ma : Int)), (99, .int .i64 3), (98, .slice (some ⟨g98, 0, none⟩) 3 3), (11, .pointer (some ⟨g11, 0, none⟩)), (31, .bool false), (30, .int .i64 (ja : Int)), (29, .int .i64 13), (28, .slice (some ⟨g28, 0, none⟩) 13 13), (2, .pointer (some ⟨g2, 0, none⟩)), (1, .pointer (some ⟨g1, 0, none⟩))]) (by kernel_rfl)
          refine wp_ret ?_
          exact ret1 rfl HF (.tmp HF rfl) (⟨rfl, HM.below⟩)
end Go.Proofs.YtpekelggcmgnnaaDoor

