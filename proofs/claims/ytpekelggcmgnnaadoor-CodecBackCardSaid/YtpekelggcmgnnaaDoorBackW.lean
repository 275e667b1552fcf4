/- quantumlaw07.CodecBack answers true. -/
import Derived.Test.YtpekelggcmgnnaaDoorEvEq
import Derived.Test.YtpekelggcmgnnaaDoorBackP
import Derived.Test.YtpekelggcmgnnaaDoorMade7
import Derived.Test.YtpekelggcmgnnaaDoorOne
namespace Go.Proofs.YtpekelggcmgnnaaDoor
open Go.RowKit
set_option maxRecDepth 100000 in
set_option maxHeartbeats 4000000 in
theorem back_walk (cpu : Nat) (hcpu : cpu < 256) (b : Bs) (hb : b.Ok) (A : Option Addr) (n c : Nat) (l : List Sm) (hl : ∀ x ∈ l, x.Ok) (A2 : Option Addr) (n2 c2 : Nat) (lt : List Nat) (es : List Ev) (out : List Nat) (q : Nat) (hes : madeL cpu b l = es)
    (hok : ∀ e ∈ es, e.Ok) (hesl : es.length ≤ 200) (hol : out.length ≤ 12200) (hob : ∀ x ∈ out, x < 256) (hrow : rowR es = (-1, 0)) (hw2 : writeErr b.based es = 0) (hw3 : writeOut b.based es = out) (hread : ∀ rest, readR b.based q (es.length : Int) (out ++ rest) = (es, out.length, 0)) (hstart : BackAt q es out 0 b.based 0)
    (hq256 : q < 256) (hqt : Int.tmod (cpu : Int) 64 = (q : Int)) (hesI : I64 (es.length : Int)) (hbytes : ∀ x ∈ out ++ lt, x < 256)
    (B : Nat) (w : World) (hL : Laid B w) (hB : B ≤ w.heap.size) (hr : Rd w w.heap.size 11 A n (l.flatMap smL)) (hc : n ≤ c) (hn : n ≤ 9223372036854775807) (hr2 : Rd w w.heap.size 1 A2 n2 (lt.map B8)) (hn2 : n2 ≤ 140737488351232) :
    Calls Tryd.prog 10 #[.int .u8 (cpu : Int), .agg b.cells, .slice A n c, .slice A2 n2 c2] w (TruePost w) := by
  refine calls_enter (vs := [.int .u8 (cpu : Int), .agg b.cells, .slice A n c, .slice A2 n2 c2]) Tryd.func10 rfl rfl (by kernel_rfl) (σ0 := [(0, .int .u8 (cpu : Int)), (1, .agg b.cells), (2, .slice A n c), (3, .slice A2 n2 c2)]) rfl ?_
  intro a HF
  have HM := Mem.start w
  refine wp_seq ?_
  refine from_start ?_
  refine from_op HF (i := 0) rfl rfl ?_
  refine e_box HF HM (cs := b.cells) rfl rfl rfl rfl (by decide) ?_
  clear HF HM; intro a w5 g5 HF HM
  refine from_pures HF 1 1 (j := 2) [(8, .bool false)] (by kernel_rfl) rfl ?_; clear HF; intro a HF
  refine from_done rfl ?_
  replace HF := HF.sub (σ' := [(8, .bool false), (5, .pointer (some ⟨g5, 0, none⟩)), (0, .int .u8 (cpu : Int)), (2, .slice A n c), (3, .slice A2 n2 c2)]) (by kernel_rfl)
  refine wp_seq ?_
  refine wp_seq ?_
  refine from_start ?_
  refine from_op HF (i := 0) rfl rfl ?_
  refine e_call HF (vs := []) rfl (by kernel_rfl) (by kernel_rfl) rfl (by decide) (awake_any B _ (hL.mem HM hB) (HM.le hB)) ?_
  rintro _ w26 ⟨rfl, hbw⟩
  refine ⟨_, rfl, ?_⟩
  replace HM := HM.call hbw
  clear HF; intro a HF
  refine from_pures HF 1 1 (j := 2) [(27, .bool false)] (by kernel_rfl) rfl ?_; clear HF; intro a HF
  refine from_done rfl ?_
  replace HF := HF.sub (σ' := [(27, .bool false), (8, .bool false), (5, .pointer (some ⟨g5, 0, none⟩)), (0, .int .u8 (cpu : Int)), (2, .slice A n c), (3, .slice A2 n2 c2)]) (by kernel_rfl)
  refine cond_false HF rfl ?_
  refine wp_skip ?_
  refine cut_seq (fun aS wS => ∃ (A31 : Option Addr) (c31 : Nat) (g10 : Nat), Fr aS 151 [] [(9, .slice A31 es.length c31), (10, .pointer (some ⟨g10, 0, none⟩)), (27, .bool false), (8, .bool false), (0, .int .u8 (cpu : Int)), (3, .slice A2 n2 c2)] ∧ Mem w wS [.blk g10 b.based.cells 23, .row (.slice A31 es.length c31) es.length (es.flatMap evL) 37 11] ∧ es.length ≤ c31) ?_ ?_
  ·
    refine any_start (by kernel_rfl) (fun wS => Mem w wS [.blk g5 b.cells 23]) [8] ?_
    replace HM := HM.drew
    have HS := HM.picks (fs' := [.blk g5 b.cells 23]) [0] (by decide) rfl
    refine any_pures HF (fun _ => HS) (fun _ _ d _ _ h => by cases d <;> exact h) [0, 2] #[true, false, true, false, false, false, false, false, false] [(30, .slice A n c), (28, .int .u8 (cpu : Int))] (by kernel_rfl) ?_; clear HF; intro a HF
    refine any_yl HF HS (i := 1) rfl rfl (d := 29) rfl (by decide) (by kernel_rfl) (fun _ _ _ h => h) (v := .agg b.cells) (Yl.loadS rfl rfl ⟨(by kernel_rfl), (by kernel_rfl)⟩ rfl (fun _ h => range_of_block (h.blk (i := 0) rfl))) ?_; clear HF; intro a HF
    refine any_yl HF HS (i := 4) rfl rfl (d := 32) rfl (by decide) (by kernel_rfl) (fun _ _ _ h => h) (v := .agg b.cells) (Yl.loadS rfl rfl ⟨(by kernel_rfl), (by kernel_rfl)⟩ rfl (fun _ h => range_of_block (h.blk (i := 0) rfl))) ?_; clear HF; intro a HF
    refine any_all [3, 6] (by kernel_rfl) rfl ?_
    refine all_cons ?_ ?_
    · refine any_op HF (i := 3) rfl rfl ?_
      refine e_call HF (vs := [.int .u8 (cpu : Int), .agg b.cells, .slice A n c]) rfl (by kernel_rfl) (by kernel_rfl) rfl (by decide) (made7_any cpu hcpu b hb A n c l hl _ (HM.old hr) hc hn) ?_
      rintro _ w31 ⟨⟨v, rfl, ho⟩, hbw⟩
      rw [hes] at ho
      obtain ⟨A31, c31, rfl, hc31⟩ := own_slice ho
      refine ⟨_, rfl, ?_⟩
      replace HM := HM.callRow hbw ho
      clear HF; intro a HF
      refine keepS (HM.picks [1] (by decide) rfl) (fun HS => ?_)
      refine any_all [5, 6] (by kernel_rfl) rfl ?_
      refine all_cons ?_ ?_
      · refine any_op HF (i := 5) rfl rfl ?_
        refine e_call HF (vs := [.agg b.cells]) rfl (by kernel_rfl) (by kernel_rfl) rfl (by decide) ((based_any b hb _)) ?_
        rintro _ w33 ⟨rfl, hbw⟩
        refine ⟨_, rfl, ?_⟩
        replace HM := HM.call hbw
        clear HF; intro a HF
        refine keepS (HM.picks [1] (by decide) rfl) (fun HS => ?_)
        refine any_all [6] (by kernel_rfl) rfl ?_
        refine all_cons ?_ all_nil
        refine any_op HF (i := 6) rfl rfl ?_
        refine e_alloc HF HM (cs := #[.int .i64 0, .int .i64 0]) rfl (by kernel_rfl) rfl (by decide) ?_
        clear HF HM; intro a w10 g10 HF HM
        refine keepS (HM.picks [2] (by decide) rfl) (fun HS => ?_)
        refine any_pures HF (fun _ => HS) (fun _ _ d _ _ h => by cases d <;> exact h) [7] #[true, true, true, true, true, true, true, true, false] [(9, .slice A31 es.length c31)] (by kernel_rfl) ?_; clear HF; intro a HF
        refine any_all [8] (by kernel_rfl) rfl ?_
        refine all_cons ?_ all_nil
        refine any_op HF (i := 8) rfl rfl ?_
        refine e_storeAll HF HM (i := 0) (cs := #[.int .i64 0, .int .i64 0]) (ds := b.based.cells) rfl rfl rfl rfl ⟨(by kernel_rfl), (by kernel_rfl)⟩ rfl rfl (bs_one b.based) rfl ?_
        clear HM; intro w3_8 HM
        refine noS (by kernel_rfl) ?_
        refine any_done (by kernel_rfl) ?_
        replace HF := HF.sub (σ' := [(9, .slice A31 es.length c31), (10, .pointer (some ⟨g10, 0, none⟩)), (27, .bool false), (8, .bool false), (0, .int .u8 (cpu : Int)), (3, .slice A2 n2 c2)]) (by kernel_rfl)
        replace HM := HM.picks (fs' := [.blk g10 b.based.cells 23, .row (.slice A31 es.length c31) es.length (es.flatMap evL) 37 11]) [0, 1] (by decide) rfl
        exact ⟨A31, c31, g10, HF.sub (by kernel_rfl), HM.picks [0, 1] (by decide) rfl, hc31⟩
      refine all_cons ?_ all_nil
      refine any_op HF (i := 6) rfl rfl ?_
      refine e_alloc HF HM (cs := #[.int .i64 0, .int .i64 0]) rfl (by kernel_rfl) rfl (by decide) ?_
      clear HF HM; intro a w10 g10 HF HM
      refine keepS (HM.picks [2] (by decide) rfl) (fun HS => ?_)
      refine any_all [5] (by kernel_rfl) rfl ?_
      refine all_cons ?_ all_nil
      refine any_op HF (i := 5) rfl rfl ?_
      refine e_call HF (vs := [.agg b.cells]) rfl (by kernel_rfl) (by kernel_rfl) rfl (by decide) ((based_any b hb _)) ?_
      rintro _ w33 ⟨rfl, hbw⟩
      refine ⟨_, rfl, ?_⟩
      replace HM := HM.call hbw
      clear HF; intro a HF
      refine keepS (HM.picks [2] (by decide) rfl) (fun HS => ?_)
      refine any_pures HF (fun _ => HS) (fun _ _ d _ _ h => by cases d <;> exact h) [7] #[true, true, true, true, true, true, true, true, false] [(9, .slice A31 es.length c31)] (by kernel_rfl) ?_; clear HF; intro a HF
      refine any_all [8] (by kernel_rfl) rfl ?_
      refine all_cons ?_ all_nil
      refine any_op HF (i := 8) rfl rfl ?_
      refine e_storeAll HF HM (i := 0) (cs := #[.int .i64 0, .int .i64 0]) (ds := b.based.cells) rfl rfl rfl rfl ⟨(by kernel_rfl), (by kernel_rfl)⟩ rfl rfl (bs_one b.based) rfl ?_
      clear HM; intro w3_8 HM
      refine noS (by kernel_rfl) ?_
      refine any_done (by kernel_rfl) ?_
      replace HF := HF.sub (σ' := [(9, .slice A31 es.length c31), (10, .pointer (some ⟨g10, 0, none⟩)), (27, .bool false), (8, .bool false), (0, .int .u8 (cpu : Int)), (3, .slice A2 n2 c2)]) (by kernel_rfl)
      replace HM := HM.picks (fs' := [.blk g10 b.based.cells 23, .row (.slice A31 es.length c31) es.length (es.flatMap evL) 37 11]) [0, 1] (by decide) rfl
      exact ⟨A31, c31, g10, HF.sub (by kernel_rfl), HM.picks [0, 1] (by decide) rfl, hc31⟩
    refine all_cons ?_ all_nil
    refine any_op HF (i := 6) rfl rfl ?_
    refine e_alloc HF HM (cs := #[.int .i64 0, .int .i64 0]) rfl (by kernel_rfl) rfl (by decide) ?_
    clear HF HM; intro a w10 g10 HF HM
    refine keepS (HM.picks [1] (by decide) rfl) (fun HS => ?_)
    refine any_all [3] (by kernel_rfl) rfl ?_
    refine all_cons ?_ all_nil
    refine any_op HF (i := 3) rfl rfl ?_
    refine e_call HF (vs := [.int .u8 (cpu : Int), .agg b.cells, .slice A n c]) rfl (by kernel_rfl) (by kernel_rfl) rfl (by decide) (made7_any cpu hcpu b hb A n c l hl _ (HM.old hr) hc hn) ?_
    rintro _ w31 ⟨⟨v, rfl, ho⟩, hbw⟩
    rw [hes] at ho
    obtain ⟨A31, c31, rfl, hc31⟩ := own_slice ho
    refine ⟨_, rfl, ?_⟩
    replace HM := HM.callRow hbw ho
    clear HF; intro a HF
    refine keepS (HM.picks [2] (by decide) rfl) (fun HS => ?_)
    refine any_all [5] (by kernel_rfl) rfl ?_
    refine all_cons ?_ all_nil
    refine any_op HF (i := 5) rfl rfl ?_
    refine e_call HF (vs := [.agg b.cells]) rfl (by kernel_rfl) (by kernel_rfl) rfl (by decide) ((based_any b hb _)) ?_
    rintro _ w33 ⟨rfl, hbw⟩
    refine ⟨_, rfl, ?_⟩
    replace HM := HM.call hbw
    clear HF; intro a HF
    refine keepS (HM.picks [2] (by decide) rfl) (fun HS => ?_)
    refine any_pures HF (fun _ => HS) (fun _ _ d _ _ h => by cases d <;> exact h) [7] #[true, true, true, true, true, true, true, true, false] [(9, .slice A31 es.length c31)] (by kernel_rfl) ?_; clear HF; intro a HF
    refine any_all [8] (by kernel_rfl) rfl ?_
    refine all_cons ?_ all_nil
    refine any_op HF (i := 8) rfl rfl ?_
    refine e_storeAll HF HM (i := 1) (cs := #[.int .i64 0, .int .i64 0]) (ds := b.based.cells) rfl rfl rfl rfl ⟨(by kernel_rfl), (by kernel_rfl)⟩ rfl rfl (bs_one b.based) rfl ?_
    clear HM; intro w3_8 HM
    refine noS (by kernel_rfl) ?_
    refine any_done (by kernel_rfl) ?_
    replace HF := HF.sub (σ' := [(9, .slice A31 es.length c31), (10, .pointer (some ⟨g10, 0, none⟩)), (27, .bool false), (8, .bool false), (0, .int .u8 (cpu : Int)), (3, .slice A2 n2 c2)]) (by kernel_rfl)
    replace HM := HM.picks (fs' := [.row (.slice A31 es.length c31) es.length (es.flatMap evL) 37 11, .blk g10 b.based.cells 23]) [0, 1] (by decide) rfl
    exact ⟨A31, c31, g10, HF.sub (by kernel_rfl), HM.picks [1, 0] (by decide) rfl, hc31⟩
  clear HF HM; rintro a w3 ⟨A31, c31, g10, HF, HM, hc31⟩
  refine wp_seq ?_
  refine from_start ?_
  refine from_pures HF 1 0 (j := 1) [(35, .slice A31 es.length c31)] (by kernel_rfl) rfl ?_; clear HF; intro a HF
  refine from_op HF (i := 1) rfl rfl ?_
  refine e_call HF (vs := [.slice A31 es.length c31]) rfl (by kernel_rfl) (by kernel_rfl) rfl (by decide) (row_is _ _ _ es hok B _ (hL.mem HM hB) (HM.le hB) (HM.rd (i := 1) rfl) (by omega) hrow) ?_
  rintro _ w36 ⟨rfl, hbw⟩
  refine ⟨_, rfl, ?_⟩
  replace HM := HM.call hbw
  clear HF; intro a HF
  refine from_pures HF 5 2 (j := 7) [(12, .int .i64 0), (11, .int .i64 (-1)), (38, .int .i64 0), (37, .int .i64 (-1)), (34, .tuple #[.int .i64 (-1), .int .i64 0])] (by kernel_rfl) rfl ?_; clear HF; intro a HF
  refine from_done rfl ?_
  replace HF := HF.sub (σ' := [(12, .int .i64 0), (11, .int .i64 (-1)), (9, .slice A31 es.length c31), (10, .pointer (some ⟨g10, 0, none⟩)), (27, .bool false), (8, .bool false), (0, .int .u8 (cpu : Int)), (3, .slice A2 n2 c2)]) (by kernel_rfl)
  refine wp_seq ?_
  refine from_start ?_
  refine from_yl (S := fun wS => Mem w wS _) HF HM (i := 0) rfl rfl (d := 40) rfl (by decide) (v := .agg b.based.cells) (Yl.loadS rfl rfl ⟨(by kernel_rfl), (by kernel_rfl)⟩ rfl (fun _ h => range_of_block (h.blk (i := 0) rfl))) ?_; clear HF; intro a HF
  refine from_pures HF 1 1 (j := 2) [(41, .slice A31 es.length c31)] (by kernel_rfl) rfl ?_; clear HF; intro a HF
  refine from_op HF (i := 2) rfl rfl ?_
  refine e_call HF (vs := [.agg b.based.cells, .slice A31 es.length c31]) rfl (by kernel_rfl) (by kernel_rfl) rfl (by decide) (write_is b.based _ _ _ es hok B _ (hL.mem HM hB) (HM.le hB) (HM.rd (i := 1) rfl) (by omega) hw2 hw3) ?_
  rintro _ w42 ⟨⟨A42, c42, rfl, ho, hc42⟩, hbw⟩
  refine ⟨_, rfl, ?_⟩
  replace HM := HM.callRow hbw ho
  clear HF; intro a HF
  refine from_pures HF 5 3 (j := 8) [(14, .int .i64 0), (13, .slice A42 out.length c42), (44, .int .i64 0), (43, .slice A42 out.length c42), (39, .tuple #[.slice A42 out.length c42, .int .i64 0])] (by kernel_rfl) rfl ?_; clear HF; intro a HF
  refine from_done rfl ?_
  replace HF := HF.sub (σ' := [(14, .int .i64 0), (13, .slice A42 out.length c42), (12, .int .i64 0), (11, .int .i64 (-1)), (9, .slice A31 es.length c31), (10, .pointer (some ⟨g10, 0, none⟩)), (27, .bool false), (8, .bool false), (0, .int .u8 (cpu : Int)), (3, .slice A2 n2 c2)]) (by kernel_rfl)
  refine wp_seq ?_
  refine any_start (by kernel_rfl) (fun wS => Mem w wS [.row (.slice A42 out.length c42) out.length (out.map B8) 5 1, .blk g10 b.based.cells 23, .row (.slice A31 es.length c31) es.length (es.flatMap evL) 37 11]) [] ?_
  replace HM := HM.drew
  have HS := HM.picks (fs' := [.row (.slice A42 out.length c42) out.length (out.map B8) 5 1, .blk g10 b.based.cells 23, .row (.slice A31 es.length c31) es.length (es.flatMap evL) 37 11]) [0, 1, 2] (by decide) rfl
  refine any_pures HF (fun _ => HS) (fun _ _ d _ _ h => by cases d <;> exact h) [1, 3, 6, 8] #[false, true, false, true, false, false, true, false, true, false, false, false, false, false, false, false, false, false] [(54, .slice A2 n2 c2), (52, .slice A42 out.length c42), (49, .slice A31 es.length c31), (47, .int .u8 (cpu : Int))] (by kernel_rfl) ?_; clear HF; intro a HF
  refine any_yl HF HS (i := 0) rfl rfl (d := 46) rfl (by decide) (by kernel_rfl) (fun _ _ _ h => h) (v := .agg b.based.cells) (Yl.loadS rfl rfl ⟨(by kernel_rfl), (by kernel_rfl)⟩ rfl (fun _ h => range_of_block (h.blk (i := 1) rfl))) ?_; clear HF; intro a HF
  refine any_pure HF (fun _ => HS) (i := 2) rfl rfl (d := 48) rfl (by decide) (by kernel_rfl) (fun _ _ _ h => h) (v := .int .u8 (Int.tmod (cpu : Int) 64)) (fun _ => Yl.pure (by kernel_rfl)) ?_; clear HF; intro a HF
  replace HF := HF.as (t := 48) (u := .int .u8 (q : Int)) rfl (by rw [hqt])
  refine any_yl HF HS (i := 4) rfl rfl (d := 50) rfl (by decide) (by kernel_rfl) (fun _ _ _ h => h) (v := .int .i64 ((es.length : Nat) : Int)) (Yl.len rfl rfl (by kernel_rfl)) ?_; clear HF; intro a HF
  refine any_all [5] (by kernel_rfl) rfl ?_
  refine all_cons ?_ all_nil
  refine any_op HF (i := 5) rfl rfl ?_
  refine e_slice0 HF HM rfl ei_u8 rfl (by decide) ?_
  clear HF HM; intro a w51 g51 HF HM
  refine keepS (HM.picks [1, 2, 3] (by decide) rfl) (fun HS => ?_)
  refine any_all [7] (by kernel_rfl) rfl ?_
  refine all_cons ?_ all_nil
  refine any_op HF (i := 7) rfl rfl ?_
  refine e_append HF HM (i := 0) rfl ei_u8 rfl rfl rfl (news := (out.map B8)) (HM.rd (i := 1) rfl) (one_B8 _) (by omega) (by omega) rfl (by decide) ?_
  clear HF HM; intro a w53 A53 c53 HF HM hc53
  refine keepS (HM.picks [1, 2, 3] (by decide) rfl) (fun HS => ?_)
  refine any_all [9] (by kernel_rfl) rfl ?_
  refine all_cons ?_ all_nil
  refine any_op HF (i := 9) rfl rfl ?_
  refine e_append_wide HF HM (i := 0) rfl ei_u8 rfl rfl rfl (news := (lt.map B8)) (HM.old hr2) (one_B8 _) (by omega) (by omega) rfl (by decide) ?_
  clear HF HM; intro a w55 A55 c55 HF HM hc55
  refine keepS (HM.picks [1, 2, 3] (by decide) rfl) (fun HS => ?_)
  refine any_all [10] (by kernel_rfl) rfl ?_
  refine all_cons ?_ all_nil
  refine any_op HF (i := 10) rfl rfl ?_
  refine e_call HF (vs := [.agg b.based.cells, .int .u8 (q : Int), .int .i64 ((es.length : Nat) : Int), .slice A55 (0 + out.length + n2) c55]) rfl (by kernel_rfl) (by kernel_rfl) rfl (by decide) (read_is b.based q hq256 _ _ _ _ hesI (out ++ lt) B _ (hL.mem HM hB) (HM.le hB) (by rw [List.map_append]; exact HM.rd (i := 0) rfl) hc55 hbytes (by omega) (.inl (by omega)) (hread lt)) ?_
  rintro _ w56 ⟨⟨A56, c56, rfl, ho, hc56⟩, hbw⟩
  refine ⟨_, rfl, ?_⟩
  replace HM := HM.callRow hbw ho
  clear HF; intro a HF
  refine keepS (HM.picks [2, 3, 4] (by decide) rfl) (fun HS => ?_)
  refine any_pures HF (fun _ => HS) (fun _ _ d _ _ h => by cases d <;> exact h) [11, 12, 13, 14, 15, 16, 17] #[true, true, true, true, true, true, true, true, true, true, true, true, true, true, true, true, true, true] [(17, .int .i64 0), (16, .int .i64 (out.length : Int)), (15, .slice A56 es.length c56), (59, .int .i64 0), (58, .int .i64 (out.length : Int)), (57, .slice A56 es.length c56), (45, .tuple #[.slice A56 es.length c56, .int .i64 (out.length : Int), .int .i64 0])] (by kernel_rfl) ?_; clear HF; intro a HF
  refine any_done (by kernel_rfl) ?_
  replace HF := HF.sub (σ' := [(17, .int .i64 0), (16, .int .i64 (out.length : Int)), (15, .slice A56 es.length c56), (14, .int .i64 0), (13, .slice A42 out.length c42), (12, .int .i64 0), (11, .int .i64 (-1)), (9, .slice A31 es.length c31), (10, .pointer (some ⟨g10, 0, none⟩)), (27, .bool false), (8, .bool false), (0, .int .u8 (cpu : Int))]) (by kernel_rfl)
  replace HM := HM.picks (fs' := [.row (.slice A56 es.length c56) es.length (es.flatMap evL) 37 11, .row (.slice A42 out.length c42) out.length (out.map B8) 5 1, .blk g10 b.based.cells 23, .row (.slice A31 es.length c31) es.length (es.flatMap evL) 37 11]) [0, 2, 3, 4] (by decide) rfl
  refine wp_seq ?_
  refine wp_seq ?_
  refine from_start ?_
  refine from_pures HF 13 0 (j := 13) [(72, .slice A42 out.length c42), (71, .int .i64 (out.length : Int)), (70, .bool false), (69, .bool false), (68, .bool false), (67, .int .i64 (-1)), (66, .bool false), (65, .bool false), (64, .int .i64 0), (63, .int .i64 0), (62, .int .i64 0), (61, .int .i64 0), (60, .int .i64 0)] (by kernel_rfl) rfl ?_; clear HF; intro a HF
  refine from_yl (S := fun wS => Mem w wS _) HF HM (i := 13) rfl rfl (d := 73) rfl (by decide) (v := .int .i64 ((out.length : Nat) : Int)) (Yl.len rfl rfl (by kernel_rfl)) ?_; clear HF; intro a HF
  refine from_pures HF 1 14 (j := 15) [(74, .bool (((out.length : Int) : Int) != (((out.length : Nat) : Int) : Int)))] (by kernel_rfl) rfl ?_; clear HF; intro a HF
  replace HF := HF.as (t := 74) (u := .bool false) rfl (by simp)
  refine from_pures HF 3 15 (j := 18) [(77, .slice A56 es.length c56), (76, .bool false), (75, .bool false)] (by kernel_rfl) rfl ?_; clear HF; intro a HF
  refine from_yl (S := fun wS => Mem w wS _) HF HM (i := 18) rfl rfl (d := 78) rfl (by decide) (v := .int .i64 ((es.length : Nat) : Int)) (Yl.len rfl rfl (by kernel_rfl)) ?_; clear HF; intro a HF
  refine from_pures HF 1 19 (j := 20) [(79, .slice A31 es.length c31)] (by kernel_rfl) rfl ?_; clear HF; intro a HF
  refine from_yl (S := fun wS => Mem w wS _) HF HM (i := 20) rfl rfl (d := 80) rfl (by decide) (v := .int .i64 ((es.length : Nat) : Int)) (Yl.len rfl rfl (by kernel_rfl)) ?_; clear HF; intro a HF
  refine from_pures HF 1 21 (j := 22) [(81, .bool ((((es.length : Nat) : Int) : Int) != (((es.length : Nat) : Int) : Int)))] (by kernel_rfl) rfl ?_; clear HF; intro a HF
  replace HF := HF.as (t := 81) (u := .bool false) rfl (by simp)
  refine from_pures HF 1 22 (j := 23) [(82, .bool false)] (by kernel_rfl) rfl ?_; clear HF; intro a HF
  refine from_done rfl ?_
  replace HF := HF.sub (σ' := [(82, .bool false), (15, .slice A56 es.length c56), (13, .slice A42 out.length c42), (9, .slice A31 es.length c31), (10, .pointer (some ⟨g10, 0, none⟩)), (27, .bool false), (8, .bool false), (0, .int .u8 (cpu : Int))]) (by kernel_rfl)
  refine cond_false HF rfl ?_
  refine wp_skip ?_
  refine wp_seq ?_
  refine from_start ?_
  refine from_pures HF 1 0 (j := 1) [(18, .int .i64 0)] (by kernel_rfl) rfl ?_; clear HF; intro a HF
  refine from_done rfl ?_
  refine wp_seq ?_
  refine wp_seq ?_
  refine from_start ?_
  refine from_pures HF 1 0 (j := 1) [(83, .slice A31 es.length c31)] (by kernel_rfl) rfl ?_; clear HF; intro a HF
  refine from_yl (S := fun wS => Mem w wS _) HF HM (i := 1) rfl rfl (d := 84) rfl (by decide) (v := .int .i64 ((es.length : Nat) : Int)) (Yl.len rfl rfl (by kernel_rfl)) ?_; clear HF; intro a HF
  refine from_pures HF 1 2 (j := 3) [(85, .int .i64 0)] (by kernel_rfl) rfl ?_; clear HF; intro a HF
  refine from_done rfl ?_
  refine wp_block ?_
  refine loop_nat (fun mS aS wS => ∃ (k : Nat) (bk : Bs) (s : Nat), BackAt q es out k bk s ∧ mS = es.length - k ∧ Fr aS 151 [] [(85, .int .i64 (k : Int)), (84, .int .i64 ((es.length : Nat) : Int)), (83, .slice A31 es.length c31), (18, .int .i64 (s : Int)), (82, .bool false), (15, .slice A56 es.length c56), (13, .slice A42 out.length c42), (9, .slice A31 es.length c31), (10, .pointer (some ⟨g10, 0, none⟩)), (27, .bool false), (8, .bool false), (0, .int .u8 (cpu : Int))] ∧ Mem w wS [.row (.slice A56 es.length c56) es.length (es.flatMap evL) 37 11, .row (.slice A42 out.length c42) out.length (out.map B8) 5 1, .blk g10 bk.cells 23, .row (.slice A31 es.length c31) es.length (es.flatMap evL) 37 11]) (m := es.length - 0) ⟨0, b.based, 0, hstart, rfl, HF.sub (by kernel_rfl), HM.picks [0, 1, 2, 3] (by decide) rfl⟩ ?_
  clear HF HM; rintro mS a w_ ⟨k, bk, s, hBA, rfl, HF, HM⟩
  refine wp_seq ?_
  refine from_start ?_
  refine from_pures HF 1 0 (j := 1) [(86, .bool (decide (((k : Int) : Int) < (((es.length : Nat) : Int) : Int))))] (by kernel_rfl) rfl ?_; clear HF; intro a HF
  refine from_done rfl ?_
  refine wp_seq ?_
  rcases Bool.eq_false_or_eq_true (decide (((k : Int) : Int) < (((es.length : Nat) : Int) : Int))) with hb86 | hb86
  · have HF := HF.as (t := 86) (u := .bool true) rfl (by rw [hb86])
    have hk : k < es.length := by have := of_decide_eq_true hb86; omega
    obtain ⟨e, L, he, heok, hecpu, hput, hlen, hL33, hsL, htake, hnext⟩ := hBA.step hk
    obtain ⟨ga, rfl⟩ := own_some (HM.own (i := 3) rfl) (by omega)
    obtain ⟨gb, rfl⟩ := own_some (HM.own (i := 0) rfl) (by omega)
    refine cond_true HF rfl ?_
    refine wp_skip ?_
    refine wp_seq ?_
    refine wp_block ?_
    refine wp_seq ?_
    refine from_start ?_
    refine from_pures HF 1 0 (j := 1) [(87, .int .i64 (k : Int))] (by kernel_rfl) rfl ?_; clear HF; intro a HF
    refine from_yl (S := fun wS => Mem w wS _) HF HM (i := 1) rfl rfl (d := 88) rfl (by decide) (v := .pointer (some ⟨ga, k * 11, none⟩)) ((Yl.indexAddr (ad := ⟨ga, 0, none⟩) (y := k) (sz := 11) rfl rfl rfl (hk) (by kernel_rfl)).as (by rw [Addr.add_mid, Nat.zero_add])) ?_; clear HF; intro a HF
    refine from_yl (S := fun wS => Mem w wS _) HF HM (i := 2) rfl rfl (d := 89) rfl (by decide) (v := .agg e.cells) (Yl.loadS rfl rfl ⟨(by kernel_rfl), (by kernel_rfl)⟩ rfl (fun _ h => h.rowStruct evL_len (i := 3) rfl he)) ?_; clear HF; intro a HF
    refine from_op HF (i := 3) rfl rfl ?_
    refine e_alloc HF HM (cs := #[.int .i64 0, .int .i64 0, .int .u8 0, .int .u8 0, .int .i64 0, .int .i64 0, .int .i64 0, .int .i64 0, .int .i64 0, .int .u64 0, .int .i64 0]) rfl (by kernel_rfl) rfl (by decide) ?_
    clear HF HM; intro a w20 g20 HF HM
    refine from_pures HF 1 4 (j := 5) [(19, .int .i64 (k : Int))] (by kernel_rfl) rfl ?_; clear HF; intro a HF
    refine from_op HF (i := 5) rfl rfl ?_
    refine e_storeAll HF HM (i := 0) (cs := #[.int .i64 0, .int .i64 0, .int .u8 0, .int .u8 0, .int .i64 0, .int .i64 0, .int .i64 0, .int .i64 0, .int .i64 0, .int .u64 0, .int .i64 0]) (ds := e.cells) rfl rfl rfl rfl ⟨(by kernel_rfl), (by kernel_rfl)⟩ rfl rfl (ev_one e) rfl ?_
    clear HM; intro w12_5 HM
    refine from_done rfl ?_
    replace HF := HF.sub (σ' := [(19, .int .i64 (k : Int)), (20, .pointer (some ⟨g20, 0, none⟩)), (86, .bool true), (85, .int .i64 (k : Int)), (84, .int .i64 ((es.length : Nat) : Int)), (83, .slice (some ⟨ga, 0, none⟩) es.length c31), (18, .int .i64 (s : Int)), (82, .bool false), (15, .slice (some ⟨gb, 0, none⟩) es.length c56), (13, .slice A42 out.length c42), (9, .slice (some ⟨ga, 0, none⟩) es.length c31), (10, .pointer (some ⟨g10, 0, none⟩)), (27, .bool false), (8, .bool false), (0, .int .u8 (cpu : Int))]) (by kernel_rfl)
    refine wp_seq ?_
    refine from_start ?_
    refine from_yl (S := fun wS => Mem w wS _) HF HM (i := 0) rfl rfl (d := 91) rfl (by decide) (v := .agg bk.cells) (Yl.loadS rfl rfl ⟨(by kernel_rfl), (by kernel_rfl)⟩ rfl (fun _ h => range_of_block (h.blk (i := 3) rfl))) ?_; clear HF; intro a HF
    refine from_yl (S := fun wS => Mem w wS _) HF HM (i := 1) rfl rfl (d := 92) rfl (by decide) (v := .agg e.cells) (Yl.loadS rfl rfl ⟨(by kernel_rfl), (by kernel_rfl)⟩ rfl (fun _ h => range_of_block (h.blk (i := 0) rfl))) ?_; clear HF; intro a HF
    refine from_op HF (i := 2) rfl rfl ?_
    refine e_call HF (vs := [.agg bk.cells, .agg e.cells]) rfl (by kernel_rfl) (by kernel_rfl) rfl (by decide) (size_is bk e heok B _ (hL.mem HM hB) (HM.le hB) hlen hput) ?_
    rintro _ w93 ⟨rfl, hbw⟩
    refine ⟨_, rfl, ?_⟩
    replace HM := HM.call hbw
    clear HF; intro a HF
    refine from_pures HF 5 3 (j := 8) [(22, .int .i64 0), (21, .int .i64 (L : Int)), (95, .int .i64 0), (94, .int .i64 (L : Int)), (90, .tuple #[.int .i64 (L : Int), .int .i64 0])] (by kernel_rfl) rfl ?_; clear HF; intro a HF
    refine from_done rfl ?_
    replace HF := HF.sub (σ' := [(22, .int .i64 0), (21, .int .i64 (L : Int)), (19, .int .i64 (k : Int)), (20, .pointer (some ⟨g20, 0, none⟩)), (86, .bool true), (85, .int .i64 (k : Int)), (84, .int .i64 ((es.length : Nat) : Int)), (83, .slice (some ⟨ga, 0, none⟩) es.length c31), (18, .int .i64 (s : Int)), (82, .bool false), (15, .slice (some ⟨gb, 0, none⟩) es.length c56), (13, .slice A42 out.length c42), (9, .slice (some ⟨ga, 0, none⟩) es.length c31), (10, .pointer (some ⟨g10, 0, none⟩)), (27, .bool false), (8, .bool false), (0, .int .u8 (cpu : Int))]) (by kernel_rfl)
    refine cut_seq (fun aS wS => ∃ (g100 : Nat) (A107 : Option Addr) (c107 : Nat) (g23 : Nat), Fr aS 151 [] [(25, .int .i64 0), (24, .int .i64 (L : Int)), (23, .pointer (some ⟨g23, 0, none⟩)), (22, .int .i64 0), (21, .int .i64 (L : Int)), (19, .int .i64 (k : Int)), (20, .pointer (some ⟨g20, 0, none⟩)), (86, .bool true), (85, .int .i64 (k : Int)), (84, .int .i64 ((es.length : Nat) : Int)), (83, .slice (some ⟨ga, 0, none⟩) es.length c31), (18, .int .i64 (s : Int)), (82, .bool false), (15, .slice (some ⟨gb, 0, none⟩) es.length c56), (13, .slice A42 out.length c42), (9, .slice (some ⟨ga, 0, none⟩) es.length c31), (10, .pointer (some ⟨g10, 0, none⟩)), (27, .bool false), (8, .bool false), (0, .int .u8 (cpu : Int))] ∧ Mem w wS [.blk g23 e.cells 37, .blk g20 e.cells 37, .row (.slice (some ⟨gb, 0, none⟩) es.length c56) es.length (es.flatMap evL) 37 11, .row (.slice A42 out.length c42) out.length (out.map B8) 5 1, .blk g10 bk.cells 23, .row (.slice (some ⟨ga, 0, none⟩) es.length c31) es.length (es.flatMap evL) 37 11] ∧ 0 + (out.length - s) ≤ c107) ?_ ?_
    ·
      refine any_start (by kernel_rfl) (fun wS => Mem w wS [.blk g20 e.cells 37, .row (.slice (some ⟨gb, 0, none⟩) es.length c56) es.length (es.flatMap evL) 37 11, .row (.slice A42 out.length c42) out.length (out.map B8) 5 1, .blk g10 bk.cells 23, .row (.slice (some ⟨ga, 0, none⟩) es.length c31) es.length (es.flatMap evL) 37 11]) [17] ?_
      replace HM := HM.drew
      have HS := HM.picks (fs' := [.blk g20 e.cells 37, .row (.slice (some ⟨gb, 0, none⟩) es.length c56) es.length (es.flatMap evL) 37 11, .row (.slice A42 out.length c42) out.length (out.map B8) 5 1, .blk g10 bk.cells 23, .row (.slice (some ⟨ga, 0, none⟩) es.length c31) es.length (es.flatMap evL) 37 11]) [0, 1, 2, 3, 4] (by decide) rfl
      refine any_pures HF (fun _ => HS) (fun _ _ d _ _ h => by cases d <;> exact h) [1, 4, 5, 6] #[false, true, false, false, true, true, true, false, false, false, false, false, false, false, false, false, false, false, false, false] [(103, .slice A42 out.length c42), (102, .int .i64 (s : Int)), (101, .slice A42 out.length c42), (98, .int .u8 (cpu : Int))] (by kernel_rfl) ?_; clear HF; intro a HF
      refine any_yl HF HS (i := 0) rfl rfl (d := 97) rfl (by decide) (by kernel_rfl) (fun _ _ _ h => h) (v := .agg bk.cells) (Yl.loadS rfl rfl ⟨(by kernel_rfl), (by kernel_rfl)⟩ rfl (fun _ h => range_of_block (h.blk (i := 3) rfl))) ?_; clear HF; intro a HF
      refine any_pure HF (fun _ => HS) (i := 2) rfl rfl (d := 99) rfl (by decide) (by kernel_rfl) (fun _ _ _ h => h) (v := .int .u8 (Int.tmod (cpu : Int) 64)) (fun _ => Yl.pure (by kernel_rfl)) ?_; clear HF; intro a HF
      replace HF := HF.as (t := 99) (u := .int .u8 (q : Int)) rfl (by rw [hqt])
      refine any_yl HF HS (i := 7) rfl rfl (d := 104) rfl (by decide) (by kernel_rfl) (fun _ _ _ h => h) (v := .int .i64 ((out.length : Nat) : Int)) (Yl.len rfl rfl (by kernel_rfl)) ?_; clear HF; intro a HF
      refine any_yl HF HS (i := 8) rfl rfl (d := 105) rfl (by decide) (by kernel_rfl) (fun _ _ _ h => h) (v := .int .i64 (if (((out.length : Nat) : Int) : Int) < ((s : Int) : Int) then ((out.length : Nat) : Int) else (s : Int))) (Yl.min rfl rfl rfl) ?_; clear HF; intro a HF
      replace HF := HF.as (t := 105) (u := .int .i64 (s : Int)) rfl (by rw [if_neg (by omega)])
      refine any_yl HF HS (i := 9) rfl rfl (d := 106) rfl (by decide) (by kernel_rfl) (fun _ _ _ h => h) (v := .slice (if c42 = s then A42 else A42.map (·.add (s * 1))) (out.length - s) (c42 - s)) (Yl.sliceFrom ei_u8 (j := s) rfl rfl rfl (by omega)) ?_; clear HF; intro a HF
      refine any_all [3, 16] (by kernel_rfl) rfl ?_
      refine all_cons ?_ ?_
      · refine any_op HF (i := 3) rfl rfl ?_
        refine e_slice0 HF HM rfl ei_u8 rfl (by decide) ?_
        clear HF HM; intro a w100 g100 HF HM
        refine keepS (HM.picks [1, 2, 3, 4, 5] (by decide) rfl) (fun HS => ?_)
        refine any_all [10, 16] (by kernel_rfl) rfl ?_
        refine all_cons ?_ ?_
        · refine any_op HF (i := 10) rfl rfl ?_
          refine e_append HF HM (i := 0) rfl ei_u8 rfl rfl rfl (news := ((out.drop s).map B8)) (Rd.fromB8 (HM.rd (i := 3) rfl) (k := s) (by omega) hc42) (one_B8 _) (by omega) (by omega) rfl (by decide) ?_
          clear HF HM; intro a w107 A107 c107 HF HM hc107
          refine keepS (HM.picks [1, 2, 3, 4, 5] (by decide) rfl) (fun HS => ?_)
          refine any_all [11, 16] (by kernel_rfl) rfl ?_
          refine all_cons ?_ ?_
          · refine any_op HF (i := 11) rfl rfl ?_
            refine e_call HF (vs := [.agg bk.cells, .int .u8 (q : Int), .slice A107 (0 + (out.length - s)) c107]) rfl (by kernel_rfl) (by kernel_rfl) rfl (by decide) (take_is bk q hq256 _ _ _ (out.drop s) B _ (hL.mem HM hB) (HM.le hB) (HM.rd (i := 0) rfl) hc107 (fun y hy => hob y (List.mem_of_mem_drop hy)) (by omega) htake) ?_
            rintro _ w108 ⟨rfl, hbw⟩
            refine ⟨_, rfl, ?_⟩
            replace HM := HM.call hbw
            clear HF; intro a HF
            refine keepS (HM.picks [1, 2, 3, 4, 5] (by decide) rfl) (fun HS => ?_)
            refine any_pures HF (fun _ => HS) (fun _ _ d _ _ h => by cases d <;> exact h) [12, 13, 14, 15] #[true, true, true, true, true, true, true, true, true, true, true, true, true, true, true, true, false, false, false, false] [(111, .int .i64 0), (110, .int .i64 (L : Int)), (109, .agg e.cells), (96, .tuple #[.agg e.cells, .int .i64 (L : Int), .int .i64 0])] (by kernel_rfl) ?_; clear HF; intro a HF
            refine any_all [16] (by kernel_rfl) rfl ?_
            refine all_cons ?_ all_nil
            refine any_op HF (i := 16) rfl rfl ?_
            refine e_alloc HF HM (cs := #[.int .i64 0, .int .i64 0, .int .u8 0, .int .u8 0, .int .i64 0, .int .i64 0, .int .i64 0, .int .i64 0, .int .i64 0, .int .u64 0, .int .i64 0]) rfl (by kernel_rfl) rfl (by decide) ?_
            clear HF HM; intro a w23 g23 HF HM
            refine keepS (HM.picks [2, 3, 4, 5, 6] (by decide) rfl) (fun HS => ?_)
            refine any_all [17] (by kernel_rfl) rfl ?_
            refine all_cons ?_ all_nil
            refine any_op HF (i := 17) rfl rfl ?_
            refine e_storeAll HF HM (i := 0) (cs := #[.int .i64 0, .int .i64 0, .int .u8 0, .int .u8 0, .int .i64 0, .int .i64 0, .int .i64 0, .int .i64 0, .int .i64 0, .int .u64 0, .int .i64 0]) (ds := e.cells) rfl rfl rfl rfl ⟨(by kernel_rfl), (by kernel_rfl)⟩ rfl rfl (ev_one e) rfl ?_
            clear HM; intro w14_17 HM
            refine noS (by kernel_rfl) ?_
            refine any_pures HF (pastS (by kernel_rfl)) (fun _ _ d _ _ h => by cases d <;> exact h) [18, 19] #[true, true, true, true, true, true, true, true, true, true, true, true, true, true, true, true, true, true, true, true] [(25, .int .i64 0), (24, .int .i64 (L : Int))] (by kernel_rfl) ?_; clear HF; intro a HF
            refine any_done (by kernel_rfl) ?_
            replace HF := HF.sub (σ' := [(25, .int .i64 0), (24, .int .i64 (L : Int)), (23, .pointer (some ⟨g23, 0, none⟩)), (22, .int .i64 0), (21, .int .i64 (L : Int)), (19, .int .i64 (k : Int)), (20, .pointer (some ⟨g20, 0, none⟩)), (86, .bool true), (85, .int .i64 (k : Int)), (84, .int .i64 ((es.length : Nat) : Int)), (83, .slice (some ⟨ga, 0, none⟩) es.length c31), (18, .int .i64 (s : Int)), (82, .bool false), (15, .slice (some ⟨gb, 0, none⟩) es.length c56), (13, .slice A42 out.length c42), (9, .slice (some ⟨ga, 0, none⟩) es.length c31), (10, .pointer (some ⟨g10, 0, none⟩)), (27, .bool false), (8, .bool false), (0, .int .u8 (cpu : Int))]) (by kernel_rfl)
            replace HM := HM.picks (fs' := [.blk g23 e.cells 37, .blk g20 e.cells 37, .row (.slice (some ⟨gb, 0, none⟩) es.length c56) es.length (es.flatMap evL) 37 11, .row (.slice A42 out.length c42) out.length (out.map B8) 5 1, .blk g10 bk.cells 23, .row (.slice (some ⟨ga, 0, none⟩) es.length c31) es.length (es.flatMap evL) 37 11]) [0, 2, 3, 4, 5, 6] (by decide) rfl
            exact ⟨g100, A107, c107, g23, HF.sub (by kernel_rfl), HM.picks [0, 1, 2, 3, 4, 5] (by decide) rfl, hc107⟩
          refine all_cons ?_ all_nil
          refine any_op HF (i := 16) rfl rfl ?_
          refine e_alloc HF HM (cs := #[.int .i64 0, .int .i64 0, .int .u8 0, .int .u8 0, .int .i64 0, .int .i64 0, .int .i64 0, .int .i64 0, .int .i64 0, .int .u64 0, .int .i64 0]) rfl (by kernel_rfl) rfl (by decide) ?_
          clear HF HM; intro a w23 g23 HF HM
          refine keepS (HM.picks [2, 3, 4, 5, 6] (by decide) rfl) (fun HS => ?_)
          refine any_all [11] (by kernel_rfl) rfl ?_
          refine all_cons ?_ all_nil
          refine any_op HF (i := 11) rfl rfl ?_
          refine e_call HF (vs := [.agg bk.cells, .int .u8 (q : Int), .slice A107 (0 + (out.length - s)) c107]) rfl (by kernel_rfl) (by kernel_rfl) rfl (by decide) (take_is bk q hq256 _ _ _ (out.drop s) B _ (hL.mem HM hB) (HM.le hB) (HM.rd (i := 1) rfl) hc107 (fun y hy => hob y (List.mem_of_mem_drop hy)) (by omega) htake) ?_
          rintro _ w108 ⟨rfl, hbw⟩
          refine ⟨_, rfl, ?_⟩
          replace HM := HM.call hbw
          clear HF; intro a HF
          refine keepS (HM.picks [2, 3, 4, 5, 6] (by decide) rfl) (fun HS => ?_)
          refine any_pures HF (fun _ => HS) (fun _ _ d _ _ h => by cases d <;> exact h) [12, 13, 14, 15] #[true, true, true, true, true, true, true, true, true, true, true, true, true, true, true, true, true, false, false, false] [(111, .int .i64 0), (110, .int .i64 (L : Int)), (109, .agg e.cells), (96, .tuple #[.agg e.cells, .int .i64 (L : Int), .int .i64 0])] (by kernel_rfl) ?_; clear HF; intro a HF
          refine any_all [17] (by kernel_rfl) rfl ?_
          refine all_cons ?_ all_nil
          refine any_op HF (i := 17) rfl rfl ?_
          refine e_storeAll HF HM (i := 0) (cs := #[.int .i64 0, .int .i64 0, .int .u8 0, .int .u8 0, .int .i64 0, .int .i64 0, .int .i64 0, .int .i64 0, .int .i64 0, .int .u64 0, .int .i64 0]) (ds := e.cells) rfl rfl rfl rfl ⟨(by kernel_rfl), (by kernel_rfl)⟩ rfl rfl (ev_one e) rfl ?_
          clear HM; intro w14_17 HM
          refine noS (by kernel_rfl) ?_
          refine any_pures HF (pastS (by kernel_rfl)) (fun _ _ d _ _ h => by cases d <;> exact h) [18, 19] #[true, true, true, true, true, true, true, true, true, true, true, true, true, true, true, true, true, true, true, true] [(25, .int .i64 0), (24, .int .i64 (L : Int))] (by kernel_rfl) ?_; clear HF; intro a HF
          refine any_done (by kernel_rfl) ?_
          replace HF := HF.sub (σ' := [(25, .int .i64 0), (24, .int .i64 (L : Int)), (23, .pointer (some ⟨g23, 0, none⟩)), (22, .int .i64 0), (21, .int .i64 (L : Int)), (19, .int .i64 (k : Int)), (20, .pointer (some ⟨g20, 0, none⟩)), (86, .bool true), (85, .int .i64 (k : Int)), (84, .int .i64 ((es.length : Nat) : Int)), (83, .slice (some ⟨ga, 0, none⟩) es.length c31), (18, .int .i64 (s : Int)), (82, .bool false), (15, .slice (some ⟨gb, 0, none⟩) es.length c56), (13, .slice A42 out.length c42), (9, .slice (some ⟨ga, 0, none⟩) es.length c31), (10, .pointer (some ⟨g10, 0, none⟩)), (27, .bool false), (8, .bool false), (0, .int .u8 (cpu : Int))]) (by kernel_rfl)
          replace HM := HM.picks (fs' := [.blk g23 e.cells 37, .blk g20 e.cells 37, .row (.slice (some ⟨gb, 0, none⟩) es.length c56) es.length (es.flatMap evL) 37 11, .row (.slice A42 out.length c42) out.length (out.map B8) 5 1, .blk g10 bk.cells 23, .row (.slice (some ⟨ga, 0, none⟩) es.length c31) es.length (es.flatMap evL) 37 11]) [0, 2, 3, 4, 5, 6] (by decide) rfl
          exact ⟨g100, A107, c107, g23, HF.sub (by kernel_rfl), HM.picks [0, 1, 2, 3, 4, 5] (by decide) rfl, hc107⟩
        refine all_cons ?_ all_nil
        refine any_op HF (i := 16) rfl rfl ?_
        refine e_alloc HF HM (cs := #[.int .i64 0, .int .i64 0, .int .u8 0, .int .u8 0, .int .i64 0, .int .i64 0, .int .i64 0, .int .i64 0, .int .i64 0, .int .u64 0, .int .i64 0]) rfl (by kernel_rfl) rfl (by decide) ?_
        clear HF HM; intro a w23 g23 HF HM
        refine keepS (HM.picks [2, 3, 4, 5, 6] (by decide) rfl) (fun HS => ?_)
        refine any_all [10] (by kernel_rfl) rfl ?_
        refine all_cons ?_ all_nil
        refine any_op HF (i := 10) rfl rfl ?_
        refine e_append HF HM (i := 1) rfl ei_u8 rfl rfl rfl (news := ((out.drop s).map B8)) (Rd.fromB8 (HM.rd (i := 4) rfl) (k := s) (by omega) hc42) (one_B8 _) (by omega) (by omega) rfl (by decide) ?_
        clear HF HM; intro a w107 A107 c107 HF HM hc107
        refine keepS (HM.picks [2, 3, 4, 5, 6] (by decide) rfl) (fun HS => ?_)
        refine any_all [11] (by kernel_rfl) rfl ?_
        refine all_cons ?_ all_nil
        refine any_op HF (i := 11) rfl rfl ?_
        refine e_call HF (vs := [.agg bk.cells, .int .u8 (q : Int), .slice A107 (0 + (out.length - s)) c107]) rfl (by kernel_rfl) (by kernel_rfl) rfl (by decide) (take_is bk q hq256 _ _ _ (out.drop s) B _ (hL.mem HM hB) (HM.le hB) (HM.rd (i := 1) rfl) hc107 (fun y hy => hob y (List.mem_of_mem_drop hy)) (by omega) htake) ?_
        rintro _ w108 ⟨rfl, hbw⟩
        refine ⟨_, rfl, ?_⟩
        replace HM := HM.call hbw
        clear HF; intro a HF
        refine keepS (HM.picks [2, 3, 4, 5, 6] (by decide) rfl) (fun HS => ?_)
        refine any_pures HF (fun _ => HS) (fun _ _ d _ _ h => by cases d <;> exact h) [12, 13, 14, 15] #[true, true, true, true, true, true, true, true, true, true, true, true, true, true, true, true, true, false, false, false] [(111, .int .i64 0), (110, .int .i64 (L : Int)), (109, .agg e.cells), (96, .tuple #[.agg e.cells, .int .i64 (L : Int), .int .i64 0])] (by kernel_rfl) ?_; clear HF; intro a HF
        refine any_all [17] (by kernel_rfl) rfl ?_
        refine all_cons ?_ all_nil
        refine any_op HF (i := 17) rfl rfl ?_
        refine e_storeAll HF HM (i := 0) (cs := #[.int .i64 0, .int .i64 0, .int .u8 0, .int .u8 0, .int .i64 0, .int .i64 0, .int .i64 0, .int .i64 0, .int .i64 0, .int .u64 0, .int .i64 0]) (ds := e.cells) rfl rfl rfl rfl ⟨(by kernel_rfl), (by kernel_rfl)⟩ rfl rfl (ev_one e) rfl ?_
        clear HM; intro w14_17 HM
        refine noS (by kernel_rfl) ?_
        refine any_pures HF (pastS (by kernel_rfl)) (fun _ _ d _ _ h => by cases d <;> exact h) [18, 19] #[true, true, true, true, true, true, true, true, true, true, true, true, true, true, true, true, true, true, true, true] [(25, .int .i64 0), (24, .int .i64 (L : Int))] (by kernel_rfl) ?_; clear HF; intro a HF
        refine any_done (by kernel_rfl) ?_
        replace HF := HF.sub (σ' := [(25, .int .i64 0), (24, .int .i64 (L : Int)), (23, .pointer (some ⟨g23, 0, none⟩)), (22, .int .i64 0), (21, .int .i64 (L : Int)), (19, .int .i64 (k : Int)), (20, .pointer (some ⟨g20, 0, none⟩)), (86, .bool true), (85, .int .i64 (k : Int)), (84, .int .i64 ((es.length : Nat) : Int)), (83, .slice (some ⟨ga, 0, none⟩) es.length c31), (18, .int .i64 (s : Int)), (82, .bool false), (15, .slice (some ⟨gb, 0, none⟩) es.length c56), (13, .slice A42 out.length c42), (9, .slice (some ⟨ga, 0, none⟩) es.length c31), (10, .pointer (some ⟨g10, 0, none⟩)), (27, .bool false), (8, .bool false), (0, .int .u8 (cpu : Int))]) (by kernel_rfl)
        replace HM := HM.picks (fs' := [.blk g23 e.cells 37, .blk g20 e.cells 37, .row (.slice (some ⟨gb, 0, none⟩) es.length c56) es.length (es.flatMap evL) 37 11, .row (.slice A42 out.length c42) out.length (out.map B8) 5 1, .blk g10 bk.cells 23, .row (.slice (some ⟨ga, 0, none⟩) es.length c31) es.length (es.flatMap evL) 37 11]) [0, 2, 3, 4, 5, 6] (by decide) rfl
        exact ⟨g100, A107, c107, g23, HF.sub (by kernel_rfl), HM.picks [0, 1, 2, 3, 4, 5] (by decide) rfl, hc107⟩
      refine all_cons ?_ all_nil
      refine any_op HF (i := 16) rfl rfl ?_
      refine e_alloc HF HM (cs := #[.int .i64 0, .int .i64 0, .int .u8 0, .int .u8 0, .int .i64 0, .int .i64 0, .int .i64 0, .int .i64 0, .int .i64 0, .int .u64 0, .int .i64 0]) rfl (by kernel_rfl) rfl (by decide) ?_
      clear HF HM; intro a w23 g23 HF HM
      refine keepS (HM.picks [1, 2, 3, 4, 5] (by decide) rfl) (fun HS => ?_)
      refine any_all [3] (by kernel_rfl) rfl ?_
      refine all_cons ?_ all_nil
      refine any_op HF (i := 3) rfl rfl ?_
      refine e_slice0 HF HM rfl ei_u8 rfl (by decide) ?_
      clear HF HM; intro a w100 g100 HF HM
      refine keepS (HM.picks [2, 3, 4, 5, 6] (by decide) rfl) (fun HS => ?_)
      refine any_all [10] (by kernel_rfl) rfl ?_
      refine all_cons ?_ all_nil
      refine any_op HF (i := 10) rfl rfl ?_
      refine e_append HF HM (i := 0) rfl ei_u8 rfl rfl rfl (news := ((out.drop s).map B8)) (Rd.fromB8 (HM.rd (i := 4) rfl) (k := s) (by omega) hc42) (one_B8 _) (by omega) (by omega) rfl (by decide) ?_
      clear HF HM; intro a w107 A107 c107 HF HM hc107
      refine keepS (HM.picks [2, 3, 4, 5, 6] (by decide) rfl) (fun HS => ?_)
      refine any_all [11] (by kernel_rfl) rfl ?_
      refine all_cons ?_ all_nil
      refine any_op HF (i := 11) rfl rfl ?_
      refine e_call HF (vs := [.agg bk.cells, .int .u8 (q : Int), .slice A107 (0 + (out.length - s)) c107]) rfl (by kernel_rfl) (by kernel_rfl) rfl (by decide) (take_is bk q hq256 _ _ _ (out.drop s) B _ (hL.mem HM hB) (HM.le hB) (HM.rd (i := 0) rfl) hc107 (fun y hy => hob y (List.mem_of_mem_drop hy)) (by omega) htake) ?_
      rintro _ w108 ⟨rfl, hbw⟩
      refine ⟨_, rfl, ?_⟩
      replace HM := HM.call hbw
      clear HF; intro a HF
      refine keepS (HM.picks [2, 3, 4, 5, 6] (by decide) rfl) (fun HS => ?_)
      refine any_pures HF (fun _ => HS) (fun _ _ d _ _ h => by cases d <;> exact h) [12, 13, 14, 15] #[true, true, true, true, true, true, true, true, true, true, true, true, true, true, true, true, true, false, false, false] [(111, .int .i64 0), (110, .int .i64 (L : Int)), (109, .agg e.cells), (96, .tuple #[.agg e.cells, .int .i64 (L : Int), .int .i64 0])] (by kernel_rfl) ?_; clear HF; intro a HF
      refine any_all [17] (by kernel_rfl) rfl ?_
      refine all_cons ?_ all_nil
      refine any_op HF (i := 17) rfl rfl ?_
      refine e_storeAll HF HM (i := 1) (cs := #[.int .i64 0, .int .i64 0, .int .u8 0, .int .u8 0, .int .i64 0, .int .i64 0, .int .i64 0, .int .i64 0, .int .i64 0, .int .u64 0, .int .i64 0]) (ds := e.cells) rfl rfl rfl rfl ⟨(by kernel_rfl), (by kernel_rfl)⟩ rfl rfl (ev_one e) rfl ?_
      clear HM; intro w14_17 HM
      refine noS (by kernel_rfl) ?_
      refine any_pures HF (pastS (by kernel_rfl)) (fun _ _ d _ _ h => by cases d <;> exact h) [18, 19] #[true, true, true, true, true, true, true, true, true, true, true, true, true, true, true, true, true, true, true, true] [(25, .int .i64 0), (24, .int .i64 (L : Int))] (by kernel_rfl) ?_; clear HF; intro a HF
      refine any_done (by kernel_rfl) ?_
      replace HF := HF.sub (σ' := [(25, .int .i64 0), (24, .int .i64 (L : Int)), (23, .pointer (some ⟨g23, 0, none⟩)), (22, .int .i64 0), (21, .int .i64 (L : Int)), (19, .int .i64 (k : Int)), (20, .pointer (some ⟨g20, 0, none⟩)), (86, .bool true), (85, .int .i64 (k : Int)), (84, .int .i64 ((es.length : Nat) : Int)), (83, .slice (some ⟨ga, 0, none⟩) es.length c31), (18, .int .i64 (s : Int)), (82, .bool false), (15, .slice (some ⟨gb, 0, none⟩) es.length c56), (13, .slice A42 out.length c42), (9, .slice (some ⟨ga, 0, none⟩) es.length c31), (10, .pointer (some ⟨g10, 0, none⟩)), (27, .bool false), (8, .bool false), (0, .int .u8 (cpu : Int))]) (by kernel_rfl)
      replace HM := HM.picks (fs' := [.blk g23 e.cells 37, .blk g20 e.cells 37, .row (.slice (some ⟨gb, 0, none⟩) es.length c56) es.length (es.flatMap evL) 37 11, .row (.slice A42 out.length c42) out.length (out.map B8) 5 1, .blk g10 bk.cells 23, .row (.slice (some ⟨ga, 0, none⟩) es.length c31) es.length (es.flatMap evL) 37 11]) [1, 2, 3, 4, 5, 6] (by decide) rfl
      exact ⟨g100, A107, c107, g23, HF.sub (by kernel_rfl), HM.picks [0, 1, 2, 3, 4, 5] (by decide) rfl, hc107⟩
    clear HF HM; rintro a w14 ⟨g100, A107, c107, g23, HF, HM, hc107⟩
    refine wp_seq ?_
    refine wp_seq ?_
    refine any_start (by kernel_rfl) (fun wS => Mem w wS [.blk g23 e.cells 37, .blk g20 e.cells 37, .row (.slice (some ⟨gb, 0, none⟩) es.length c56) es.length (es.flatMap evL) 37 11, .row (.slice A42 out.length c42) out.length (out.map B8) 5 1, .blk g10 bk.cells 23, .row (.slice (some ⟨ga, 0, none⟩) es.length c31) es.length (es.flatMap evL) 37 11]) [] ?_
    replace HM := HM.drew
    have HS := HM.picks (fs' := [.blk g23 e.cells 37, .blk g20 e.cells 37, .row (.slice (some ⟨gb, 0, none⟩) es.length c56) es.length (es.flatMap evL) 37 11, .row (.slice A42 out.length c42) out.length (out.map B8) 5 1, .blk g10 bk.cells 23, .row (.slice (some ⟨ga, 0, none⟩) es.length c31) es.length (es.flatMap evL) 37 11]) [0, 1, 2, 3, 4, 5] (by decide) rfl
    refine any_pures HF (fun _ => HS) (fun _ _ d _ _ h => by cases d <;> exact h) [0, 1, 2, 3, 4] #[true, true, true, true, true, false, false, false, false, false, false, false, false, false, false, false, false, false, false, false, false, false, false, false, false, false] [(116, .bool false), (115, .bool false), (114, .int .i64 0), (113, .int .i64 0), (112, .int .i64 0)] (by kernel_rfl) ?_; clear HF; intro a HF
    refine any_yl HF HS (i := 5) rfl rfl (d := 117) rfl (by decide) (by kernel_rfl) (fun _ _ _ h => h) (v := .agg e.cells) (Yl.loadS rfl rfl ⟨(by kernel_rfl), (by kernel_rfl)⟩ rfl (fun _ h => range_of_block (h.blk (i := 0) rfl))) ?_; clear HF; intro a HF
    refine any_yl HF HS (i := 6) rfl rfl (d := 118) rfl (by decide) (by kernel_rfl) (fun _ _ _ h => h) (v := .agg e.cells) (Yl.loadS rfl rfl ⟨(by kernel_rfl), (by kernel_rfl)⟩ rfl (fun _ h => range_of_block (h.blk (i := 1) rfl))) ?_; clear HF; intro a HF
    refine any_yl HF HS (i := 7) rfl rfl (d := 119) rfl (by decide) (by kernel_rfl) (fun _ _ _ h => h) (v := .bool (!(decide (e = e)))) (Yl.neqEv (x := e) (y := e) rfl rfl rfl ev_type_ok) ?_; clear HF; intro a HF
    replace HF := HF.as (t := 119) (u := .bool false) rfl (by simp)
    refine any_pures HF (fun _ => HS) (fun _ _ d _ _ h => by cases d <;> exact h) [8, 9, 10, 11] #[true, true, true, true, true, true, true, true, true, true, true, true, false, false, false, false, false, false, false, false, false, false, false, false, false, false] [(123, .int .i64 (k : Int)), (122, .slice (some ⟨gb, 0, none⟩) es.length c56), (121, .bool false), (120, .bool false)] (by kernel_rfl) ?_; clear HF; intro a HF
    refine any_yl HF HS (i := 12) rfl rfl (d := 124) rfl (by decide) (by kernel_rfl) (fun _ _ _ h => h) (v := .pointer (some ⟨gb, k * 11, none⟩)) ((Yl.indexAddr (ad := ⟨gb, 0, none⟩) (y := k) (sz := 11) rfl rfl rfl (hk) (by kernel_rfl)).as (by rw [Addr.add_mid, Nat.zero_add])) ?_; clear HF; intro a HF
    refine any_yl HF HS (i := 13) rfl rfl (d := 125) rfl (by decide) (by kernel_rfl) (fun _ _ _ h => h) (v := .agg e.cells) (Yl.loadS rfl rfl ⟨(by kernel_rfl), (by kernel_rfl)⟩ rfl (fun _ h => h.rowStruct evL_len (i := 2) rfl he)) ?_; clear HF; intro a HF
    refine any_yl HF HS (i := 14) rfl rfl (d := 126) rfl (by decide) (by kernel_rfl) (fun _ _ _ h => h) (v := .agg e.cells) (Yl.loadS rfl rfl ⟨(by kernel_rfl), (by kernel_rfl)⟩ rfl (fun _ h => range_of_block (h.blk (i := 1) rfl))) ?_; clear HF; intro a HF
    refine any_yl HF HS (i := 15) rfl rfl (d := 127) rfl (by decide) (by kernel_rfl) (fun _ _ _ h => h) (v := .bool (!(decide (e = e)))) (Yl.neqEv (x := e) (y := e) rfl rfl rfl ev_type_ok) ?_; clear HF; intro a HF
    replace HF := HF.as (t := 127) (u := .bool false) rfl (by simp)
    refine any_pures HF (fun _ => HS) (fun _ _ d _ _ h => by cases d <;> exact h) [16, 17, 18, 19] #[true, true, true, true, true, true, true, true, true, true, true, true, true, true, true, true, true, true, true, true, false, false, false, false, false, false] [(131, .int .i64 (L : Int)), (130, .int .i64 (L : Int)), (129, .bool false), (128, .bool false)] (by kernel_rfl) ?_; clear HF; intro a HF
    refine any_pure HF (fun _ => HS) (i := 20) rfl rfl (d := 132) rfl (by decide) (by kernel_rfl) (fun _ _ _ h => h) (v := .bool (((L : Int) : Int) != ((L : Int) : Int))) (fun _ => Yl.pure (by kernel_rfl)) ?_; clear HF; intro a HF
    replace HF := HF.as (t := 132) (u := .bool false) rfl (by simp)
    refine any_pures HF (fun _ => HS) (fun _ _ d _ _ h => by cases d <;> exact h) [21, 22, 23] #[true, true, true, true, true, true, true, true, true, true, true, true, true, true, true, true, true, true, true, true, true, true, true, true, false, false] [(135, .int .i64 (L : Int)), (134, .bool false), (133, .bool false)] (by kernel_rfl) ?_; clear HF; intro a HF
    refine any_pure HF (fun _ => HS) (i := 24) rfl rfl (d := 136) rfl (by decide) (by kernel_rfl) (fun _ _ _ h => h) (v := .bool (decide (((L : Int) : Int) > (33 : Int)))) (fun _ => Yl.pure (by kernel_rfl)) ?_; clear HF; intro a HF
    replace HF := HF.as (t := 136) (u := .bool false) rfl (by rw [decide_eq_false (by omega)])
    refine any_pures HF (fun _ => HS) (fun _ _ d _ _ h => by cases d <;> exact h) [25] #[true, true, true, true, true, true, true, true, true, true, true, true, true, true, true, true, true, true, true, true, true, true, true, true, true, true] [(137, .bool false)] (by kernel_rfl) ?_; clear HF; intro a HF
    refine any_done (by kernel_rfl) ?_
    replace HF := HF.sub (σ' := [(137, .bool false), (25, .int .i64 0), (24, .int .i64 (L : Int)), (23, .pointer (some ⟨g23, 0, none⟩)), (22, .int .i64 0), (21, .int .i64 (L : Int)), (19, .int .i64 (k : Int)), (20, .pointer (some ⟨g20, 0, none⟩)), (86, .bool true), (85, .int .i64 (k : Int)), (84, .int .i64 ((es.length : Nat) : Int)), (83, .slice (some ⟨ga, 0, none⟩) es.length c31), (18, .int .i64 (s : Int)), (82, .bool false), (15, .slice (some ⟨gb, 0, none⟩) es.length c56), (13, .slice A42 out.length c42), (9, .slice (some ⟨ga, 0, none⟩) es.length c31), (10, .pointer (some ⟨g10, 0, none⟩)), (27, .bool false), (8, .bool false), (0, .int .u8 (cpu : Int))]) (by kernel_rfl)
    refine cond_false HF rfl ?_
    refine wp_skip ?_
    refine wp_seq ?_
    refine from_start ?_
    refine from_pures HF 3 0 (j := 3) [(140, .int .i64 (IntKind.i64.wrap ((s : Int) + (L : Int)))), (139, .int .i64 (L : Int)), (138, .int .i64 (s : Int))] (by kernel_rfl) rfl ?_; clear HF; intro a HF
    replace HF := HF.as (t := 140) (u := .int .i64 ((s + L : Nat) : Int)) rfl (by rw [IntWalk.i64_in _ (by omega)]; simp)
    refine from_pures HF 1 3 (j := 4) [(18, .int .i64 ((s + L : Nat) : Int))] (by kernel_rfl) rfl ?_; clear HF; intro a HF
    refine from_done rfl ?_
    replace HF := HF.sub (σ' := [(18, .int .i64 ((s + L : Nat) : Int)), (137, .bool false), (25, .int .i64 0), (24, .int .i64 (L : Int)), (23, .pointer (some ⟨g23, 0, none⟩)), (22, .int .i64 0), (21, .int .i64 (L : Int)), (19, .int .i64 (k : Int)), (20, .pointer (some ⟨g20, 0, none⟩)), (86, .bool true), (85, .int .i64 (k : Int)), (84, .int .i64 ((es.length : Nat) : Int)), (83, .slice (some ⟨ga, 0, none⟩) es.length c31), (82, .bool false), (15, .slice (some ⟨gb, 0, none⟩) es.length c56), (13, .slice A42 out.length c42), (9, .slice (some ⟨ga, 0, none⟩) es.length c31), (10, .pointer (some ⟨g10, 0, none⟩)), (27, .bool false), (8, .bool false), (0, .int .u8 (cpu : Int))]) (by kernel_rfl)
    refine from_start ?_
    refine from_pures HF 1 0 (j := 1) [(141, .pointer (some ⟨g20, 0, none⟩))] (by kernel_rfl) rfl ?_; clear HF; intro a HF
    refine from_yl (S := fun wS => Mem w wS _) HF HM (i := 1) rfl rfl (d := 142) rfl (by decide) (v := .int .i64 e.seq) (Yl.load1 rfl rfl (by kernel_rfl) (fun _ h => h.cell (i := 1) rfl rfl)) ?_; clear HF; intro a HF
    refine from_pures HF 1 2 (j := 3) [(143, .pointer (some ⟨g20, 1, none⟩))] (by kernel_rfl) rfl ?_; clear HF; intro a HF
    refine from_yl (S := fun wS => Mem w wS _) HF HM (i := 3) rfl rfl (d := 144) rfl (by decide) (v := .int .i64 e.time) (Yl.load1 rfl rfl (by kernel_rfl) (fun _ h => h.cell (i := 1) rfl rfl)) ?_; clear HF; intro a HF
    refine from_yl (S := fun wS => Mem w wS _) HF HM (i := 4) rfl rfl (d := 145) rfl (by decide) (v := .agg #[.int .i64 e.seq, .int .i64 e.time]) (Yl.build (vs := [(0, .int .i64 e.seq), (1, .int .i64 e.time)]) rfl (by kernel_rfl) (by kernel_rfl)) ?_; clear HF; intro a HF
    refine from_op HF (i := 5) rfl rfl ?_
    refine e_storeAll HF HM (i := 4) (cs := bk.cells) (ds := #[.int .i64 e.seq, .int .i64 e.time]) rfl rfl rfl rfl ⟨(by kernel_rfl), (by kernel_rfl)⟩ rfl rfl (by simp [Value.oneCell']) rfl ?_
    clear HM; intro w18_5 HM
    refine from_done rfl ?_
    replace HF := HF.sub (σ' := [(18, .int .i64 ((s + L : Nat) : Int)), (137, .bool false), (25, .int .i64 0), (24, .int .i64 (L : Int)), (23, .pointer (some ⟨g23, 0, none⟩)), (22, .int .i64 0), (21, .int .i64 (L : Int)), (19, .int .i64 (k : Int)), (20, .pointer (some ⟨g20, 0, none⟩)), (86, .bool true), (85, .int .i64 (k : Int)), (84, .int .i64 ((es.length : Nat) : Int)), (83, .slice (some ⟨ga, 0, none⟩) es.length c31), (82, .bool false), (15, .slice (some ⟨gb, 0, none⟩) es.length c56), (13, .slice A42 out.length c42), (9, .slice (some ⟨ga, 0, none⟩) es.length c31), (10, .pointer (some ⟨g10, 0, none⟩)), (27, .bool false), (8, .bool false), (0, .int .u8 (cpu : Int))]) (by kernel_rfl)
    refine from_start ?_
    refine from_pures HF 1 0 (j := 1) [(146, .int .i64 (IntKind.i64.wrap ((k : Int) + 1)))] (by kernel_rfl) rfl ?_; clear HF; intro a HF
    replace HF := HF.as (t := 146) (u := .int .i64 ((k + 1 : Nat) : Int)) rfl (by rw [IntWalk.i64_in _ (by omega)]; simp)
    refine from_pures HF 1 1 (j := 2) [(85, .int .i64 ((k + 1 : Nat) : Int))] (by kernel_rfl) rfl ?_; clear HF; intro a HF
    refine from_done rfl ?_
    replace HF := HF.sub (σ' := [(85, .int .i64 ((k + 1 : Nat) : Int)), (18, .int .i64 ((s + L : Nat) : Int)), (137, .bool false), (25, .int .i64 0), (24, .int .i64 (L : Int)), (23, .pointer (some ⟨g23, 0, none⟩)), (22, .int .i64 0), (21, .int .i64 (L : Int)), (19, .int .i64 (k : Int)), (20, .pointer (some ⟨g20, 0, none⟩)), (86, .bool true), (84, .int .i64 ((es.length : Nat) : Int)), (83, .slice (some ⟨ga, 0, none⟩) es.length c31), (82, .bool false), (15, .slice (some ⟨gb, 0, none⟩) es.length c56), (13, .slice A42 out.length c42), (9, .slice (some ⟨ga, 0, none⟩) es.length c31), (10, .pointer (some ⟨g10, 0, none⟩)), (27, .bool false), (8, .bool false), (0, .int .u8 (cpu : Int))]) (by kernel_rfl)
    exact ⟨_, (by omega), k + 1, e.at, s + L, hnext, rfl, HF.sub (by kernel_rfl), HM.picks [2, 3, 4, 5] (by decide) rfl⟩
  · have HF := HF.as (t := 86) (u := .bool false) rfl (by rw [hb86])
    have hk : es.length ≤ k := by have := of_decide_eq_false hb86; omega
    refine cond_false HF rfl ?_
    refine wp_exit ?_
    refine wp_seq ?_
    refine from_start ?_
    refine from_pures HF 2 0 (j := 2) [(148, .slice A42 out.length c42), (147, .int .i64 (s : Int))] (by kernel_rfl) rfl ?_; clear HF; intro a HF
    refine from_yl (S := fun wS => Mem w wS _) HF HM (i := 2) rfl rfl (d := 149) rfl (by decide) (v := .int .i64 ((out.length : Nat) : Int)) (Yl.len rfl rfl (by kernel_rfl)) ?_; clear HF; intro a HF
    refine from_pures HF 1 3 (j := 4) [(150, .bool (((s : Int) : Int) == (((out.length : Nat) : Int) : Int)))] (by kernel_rfl) rfl ?_; clear HF; intro a HF
    replace HF := HF.as (t := 150) (u := .bool true) rfl (by rw [hBA.done hk]; simp)
    refine from_pures HF 1 4 (j := 5) [(8, .bool true)] (by kernel_rfl) rfl ?_; clear HF; intro a HF
    refine from_done rfl ?_
    replace HF := HF.sub (σ' := [(8, .bool true), (86, .bool false), (85, .int .i64 (k : Int)), (84, .int .i64 ((es.length : Nat) : Int)), (83, .slice A31 es.length c31), (18, .int .i64 (s : Int)), (82, .bool false), (15, .slice A56 es.length c56), (13, .slice A42 out.length c42), (9, .slice A31 es.length c31), (10, .pointer (some ⟨g10, 0, none⟩)), (27, .bool false), (0, .int .u8 (cpu : Int))]) (by kernel_rfl)
    refine wp_ret ?_
    exact ret1 rfl HF (.tmp HF rfl) (⟨rfl, HM.below⟩)
end Go.Proofs.YtpekelggcmgnnaaDoor
