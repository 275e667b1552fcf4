/- quantumlaw07.CodecShifts answers true. -/
import Derived.Test.YtpekelggcmgnnaaDoorSepU
import Derived.Test.YtpekelggcmgnnaaDoorShiftP
import Derived.Test.YtpekelggcmgnnaaDoorMade7
import Derived.Test.YtpekelggcmgnnaaDoorOne
namespace Go.Proofs.YtpekelggcmgnnaaDoor
open Go.RowKit
set_option maxRecDepth 100000 in
set_option maxHeartbeats 4000000 in
theorem shifts_good (b : Bs) (hb : b.Ok) (x : Sm) (hx : x.Ok) (s t : Int) (c : Nat) (hc : c < 256) (e : Ev) (s1 t1 : Int) (SF : ShiftFacts b x e s1 t1 c) (hs1 : 0 ≤ s1 ∧ s1 < 1099511627776) (ht1 : 0 ≤ t1 ∧ t1 < 1099511627776)
    (hps : ∀ w, Calls Tryd.prog 17 #[.int .i64 s, .int .i64 1099511627776] w fun e w' => e = .returned (.int .i64 s1) ∧ w' = w) (hpt : ∀ w, Calls Tryd.prog 17 #[.int .i64 t, .int .i64 1099511627776] w fun e w' => e = .returned (.int .i64 t1) ∧ w' = w)
    (h3 : putErr ⟨b.based.seq + s1, b.based.time + t1⟩ (e.to3 (e.seq + s1) (e.time + t1) c) = 0 ∧ putOut ⟨b.based.seq + s1, b.based.time + t1⟩ (e.to3 (e.seq + s1) (e.time + t1) c) = putOut b.based e) (B : Nat) (w : World) (hL : Laid B w) (hB : B ≤ w.heap.size) :
    Calls Tryd.prog 6 #[.agg b.cells, .agg x.cells, .int .i64 s, .int .i64 t, .int .u8 (c : Int)] w (TruePost w) := by
  obtain ⟨q1, q2, q3, q4, q5, q6, q7, q8⟩ := SF.bnd
  refine calls_enter (vs := [.agg b.cells, .agg x.cells, .int .i64 s, .int .i64 t, .int .u8 (c : Int)]) Tryd.func6 rfl rfl (by kernel_rfl) (σ0 := [(0, .agg b.cells), (1, .agg x.cells), (2, .int .i64 s), (3, .int .i64 t), (4, .int .u8 (c : Int))]) rfl ?_
  intro a HF
  have HM := Mem.start w
  refine wp_seq ?_
  refine from_start ?_
  refine from_op HF (i := 0) rfl rfl ?_
  refine e_box HF HM (cs := b.cells) rfl rfl rfl rfl (by decide) ?_
  clear HF HM; intro a w5 g5 HF HM
  refine from_op HF (i := 1) rfl rfl ?_
  refine e_box HF HM (cs := x.cells) rfl rfl rfl rfl (by decide) ?_
  clear HF HM; intro a w6 g6 HF HM
  refine from_pures HF 1 2 (j := 3) [(10, .bool false)] (by kernel_rfl) rfl ?_; clear HF; intro a HF
  refine from_done rfl ?_
  replace HF := HF.sub (σ' := [(10, .bool false), (6, .pointer (some ⟨g6, 0, none⟩)), (5, .pointer (some ⟨g5, 0, none⟩)), (2, .int .i64 s), (3, .int .i64 t), (4, .int .u8 (c : Int))]) (by kernel_rfl)
  refine wp_seq ?_
  refine wp_seq ?_
  refine from_start ?_
  refine from_op HF (i := 0) rfl rfl ?_
  refine e_call HF rfl (by kernel_rfl) (by kernel_rfl) rfl (by decide) (awake_any B _ (hL.mem HM hB) (HM.le hB)) ?_
  rintro _ w22 ⟨rfl, hbw⟩
  refine ⟨_, rfl, ?_⟩
  replace HM := HM.call hbw
  clear HF; intro a HF
  refine from_pures HF 1 1 (j := 2) [(23, .bool false)] (by kernel_rfl) rfl ?_; clear HF; intro a HF
  refine from_done rfl ?_
  replace HF := HF.sub (σ' := [(23, .bool false), (10, .bool false), (6, .pointer (some ⟨g6, 0, none⟩)), (5, .pointer (some ⟨g5, 0, none⟩)), (2, .int .i64 s), (3, .int .i64 t), (4, .int .u8 (c : Int))]) (by kernel_rfl)
  refine cond_false HF rfl ?_
  refine wp_skip ?_
  refine wp_seq ?_
  refine from_start ?_
  refine from_yl (S := fun wS => Mem w wS _) HF HM (i := 0) rfl rfl (d := 24) rfl (by decide) (v := .agg b.cells) (Yl.loadS rfl rfl ⟨(by kernel_rfl), (by kernel_rfl)⟩ rfl (fun _ h => range_of_block (h.blk (i := 1) rfl))) ?_; clear HF; intro a HF
  refine from_op HF (i := 1) rfl rfl ?_
  refine e_call HF rfl (by kernel_rfl) (by kernel_rfl) rfl (by decide) ((based_any b hb _)) ?_
  rintro _ w25 ⟨rfl, hbw⟩
  refine ⟨_, rfl, ?_⟩
  replace HM := HM.call hbw
  clear HF; intro a HF
  refine from_op HF (i := 2) rfl rfl ?_
  refine e_alloc HF HM (cs := #[.int .i64 0, .int .i64 0]) rfl (by kernel_rfl) rfl (by decide) ?_
  clear HF HM; intro a w11 g11 HF HM
  refine from_op HF (i := 3) rfl rfl ?_
  refine e_storeAll HF HM (i := 0) (cs := #[.int .i64 0, .int .i64 0]) (ds := b.based.cells) rfl rfl rfl rfl ⟨(by kernel_rfl), (by kernel_rfl)⟩ rfl rfl (bs_one b.based) rfl ?_
  clear HM; intro w3_3 HM
  refine from_done rfl ?_
  replace HF := HF.sub (σ' := [(11, .pointer (some ⟨g11, 0, none⟩)), (23, .bool false), (10, .bool false), (6, .pointer (some ⟨g6, 0, none⟩)), (5, .pointer (some ⟨g5, 0, none⟩)), (2, .int .i64 s), (3, .int .i64 t), (4, .int .u8 (c : Int))]) (by kernel_rfl)
  refine wp_seq ?_
  refine from_start ?_
  refine from_pures HF 1 0 (j := 1) [(26, .pointer (some ⟨g6, 1, none⟩))] (by kernel_rfl) rfl ?_; clear HF; intro a HF
  refine from_yl (S := fun wS => Mem w wS _) HF HM (i := 1) rfl rfl (d := 27) rfl (by decide) (v := .int .u8 (x.cpu : Int)) (Yl.load1 rfl rfl (by kernel_rfl) (fun _ h => h.cell (i := 1) rfl rfl)) ?_; clear HF; intro a HF
  refine from_yl (S := fun wS => Mem w wS _) HF HM (i := 2) rfl rfl (d := 28) rfl (by decide) (v := .agg b.cells) (Yl.loadS rfl rfl ⟨(by kernel_rfl), (by kernel_rfl)⟩ rfl (fun _ h => range_of_block (h.blk (i := 2) rfl))) ?_; clear HF; intro a HF
  refine from_yl (S := fun wS => Mem w wS _) HF HM (i := 3) rfl rfl (d := 29) rfl (by decide) (v := .agg x.cells) (Yl.loadS rfl rfl ⟨(by kernel_rfl), (by kernel_rfl)⟩ rfl (fun _ h => range_of_block (h.blk (i := 1) rfl))) ?_; clear HF; intro a HF
  refine from_op HF (i := 4) rfl rfl ?_
  refine e_slice HF HM (vs := [(0, .agg x.cells)]) (cs := #[.int .u8 (x.kind : Int), .int .u8 (x.cpu : Int), .int .u32 (x.seq : Int), .int .u32 (x.time : Int), .int .u32 (x.task : Int), .int .u32 (x.group : Int), .int .u32 (x.to : Int), .int .u32 (x.weight : Int), .int .u32 (x.ticks : Int), .int .u32 (x.got : Int), .int .u64 (x.mask : Int)]) rfl ei_sm (by decide) rfl (by kernel_rfl) rfl (by decide) ?_
  clear HF HM; intro a w30 g30 HF HM
  refine from_op HF (i := 5) rfl rfl ?_
  refine e_call HF rfl (by kernel_rfl) (by kernel_rfl) rfl (by decide) (made7_any x.cpu hx.cpu b hb _ 1 1 [x] (by intro y hy; cases hy with | head => exact hx | tail _ h => cases h) _ (HM.rdBlk (i := 0) (n := 1) (size := 11) rfl rfl) (by decide) (by decide)) ?_
  rintro _ w31 ⟨⟨v, rfl, ho⟩, hbw⟩
  rw [SF.made] at ho
  obtain ⟨gr, cr, rfl, hcr⟩ := own_at ho (Nat.succ_pos 0)
  refine ⟨_, rfl, ?_⟩
  replace HM := HM.callRow hbw ho
  clear HF; intro a HF
  refine from_pures HF 1 6 (j := 7) [(12, .slice (some ⟨gr, 0, none⟩) 1 cr)] (by kernel_rfl) rfl ?_; clear HF; intro a HF
  refine from_done rfl ?_
  replace HF := HF.sub (σ' := [(12, .slice (some ⟨gr, 0, none⟩) 1 cr), (11, .pointer (some ⟨g11, 0, none⟩)), (23, .bool false), (10, .bool false), (5, .pointer (some ⟨g5, 0, none⟩)), (2, .int .i64 s), (3, .int .i64 t), (4, .int .u8 (c : Int))]) (by kernel_rfl)
  replace HM := HM.picks (fs' := [.row (.slice (some ⟨gr, 0, none⟩) 1 cr) 1 (evL e) 37 11, .blk g11 b.based.cells 23, .blk g5 b.cells 23]) [0, 2, 4] (by decide) rfl
  refine wp_seq ?_
  refine from_start ?_
  refine from_pures HF 1 0 (j := 1) [(32, .slice (some ⟨gr, 0, none⟩) 1 cr)] (by kernel_rfl) rfl ?_; clear HF; intro a HF
  refine from_yl (S := fun wS => Mem w wS _) HF HM (i := 1) rfl rfl (d := 33) rfl (by decide) (v := .pointer (some ⟨gr, 0, none⟩)) (Yl.indexAddr (ad := ⟨gr, 0, none⟩) (y := 0) (sz := 11) rfl rfl rfl (by decide) (by kernel_rfl)) ?_; clear HF; intro a HF
  refine from_yl (S := fun wS => Mem w wS _) HF HM (i := 2) rfl rfl (d := 34) rfl (by decide) (v := .agg e.cells) (Yl.loadS rfl rfl ⟨(by kernel_rfl), (by kernel_rfl)⟩ rfl (fun _ h => h.rowAll (i := 0) rfl)) ?_; clear HF; intro a HF
  refine from_op HF (i := 3) rfl rfl ?_
  refine e_alloc HF HM (cs := #[.int .i64 0, .int .i64 0, .int .u8 0, .int .u8 0, .int .i64 0, .int .i64 0, .int .i64 0, .int .i64 0, .int .i64 0, .int .u64 0, .int .i64 0]) rfl (by kernel_rfl) rfl (by decide) ?_
  clear HF HM; intro a w13 g13 HF HM
  refine from_op HF (i := 4) rfl rfl ?_
  refine e_storeAll HF HM (i := 0) (cs := #[.int .i64 0, .int .i64 0, .int .u8 0, .int .u8 0, .int .i64 0, .int .i64 0, .int .i64 0, .int .i64 0, .int .i64 0, .int .u64 0, .int .i64 0]) (ds := e.cells) rfl rfl rfl rfl ⟨(by kernel_rfl), (by kernel_rfl)⟩ rfl rfl (ev_one e) rfl ?_
  clear HM; intro w5_4 HM
  refine from_done rfl ?_
  replace HF := HF.sub (σ' := [(13, .pointer (some ⟨g13, 0, none⟩)), (11, .pointer (some ⟨g11, 0, none⟩)), (23, .bool false), (10, .bool false), (5, .pointer (some ⟨g5, 0, none⟩)), (2, .int .i64 s), (3, .int .i64 t), (4, .int .u8 (c : Int))]) (by kernel_rfl)
  replace HM := HM.picks (fs' := [.blk g13 e.cells 37, .blk g11 b.based.cells 23, .blk g5 b.cells 23]) [0, 2, 3] (by decide) rfl
  refine cut_seq (fun aS wS => ∃ (g14 : Nat) (g15 : Nat), Fr aS 111 [] [(15, .pointer (some ⟨g15, 0, none⟩)), (14, .pointer (some ⟨g14, 0, none⟩)), (13, .pointer (some ⟨g13, 0, none⟩)), (11, .pointer (some ⟨g11, 0, none⟩)), (23, .bool false), (10, .bool false), (5, .pointer (some ⟨g5, 0, none⟩)), (2, .int .i64 s), (3, .int .i64 t), (4, .int .u8 (c : Int))] ∧ Mem w wS [.blk g15 e.cells 37, .blk g14 b.based.cells 23, .blk g13 e.cells 37, .blk g11 b.based.cells 23, .blk g5 b.cells 23]) ?_ ?_
  ·
    refine any_start (by kernel_rfl) (fun wS => Mem w wS [.blk g13 e.cells 37, .blk g11 b.based.cells 23, .blk g5 b.cells 23]) [5] ?_
    replace HM := HM.drew
    have HS := HM.picks (fs' := [.blk g13 e.cells 37, .blk g11 b.based.cells 23, .blk g5 b.cells 23]) [0, 1, 2] (by decide) rfl
    refine any_yl HF HS (i := 0) rfl rfl (d := 35) rfl (by decide) (by kernel_rfl) (fun _ _ _ h => h) (v := .agg b.based.cells) (Yl.loadS rfl rfl ⟨(by kernel_rfl), (by kernel_rfl)⟩ rfl (fun _ h => range_of_block (h.blk (i := 1) rfl))) ?_; clear HF; intro a HF
    refine any_yl HF HS (i := 1) rfl rfl (d := 36) rfl (by decide) (by kernel_rfl) (fun _ _ _ h => h) (v := .agg e.cells) (Yl.loadS rfl rfl ⟨(by kernel_rfl), (by kernel_rfl)⟩ rfl (fun _ h => range_of_block (h.blk (i := 0) rfl))) ?_; clear HF; intro a HF
    refine any_all [2, 3] (by kernel_rfl) rfl ?_
    refine all_cons ?_ ?_
    · refine any_op HF (i := 2) rfl rfl ?_
      refine e_alloc HF HM (cs := #[.int .i64 0, .int .i64 0]) rfl (by kernel_rfl) rfl (by decide) ?_
      clear HF HM; intro a w14 g14 HF HM
      refine keepS (HM.picks [1, 2, 3] (by decide) rfl) (fun HS => ?_)
      refine any_all [3] (by kernel_rfl) rfl ?_
      refine all_cons ?_ all_nil
      refine any_op HF (i := 3) rfl rfl ?_
      refine e_alloc HF HM (cs := #[.int .i64 0, .int .i64 0, .int .u8 0, .int .u8 0, .int .i64 0, .int .i64 0, .int .i64 0, .int .i64 0, .int .i64 0, .int .u64 0, .int .i64 0]) rfl (by kernel_rfl) rfl (by decide) ?_
      clear HF HM; intro a w15 g15 HF HM
      refine keepS (HM.picks [2, 3, 4] (by decide) rfl) (fun HS => ?_)
      refine any_all [4] (by kernel_rfl) rfl ?_
      refine all_cons ?_ all_nil
      refine any_op HF (i := 4) rfl rfl ?_
      refine e_storeAll HF HM (i := 1) (cs := #[.int .i64 0, .int .i64 0]) (ds := b.based.cells) rfl rfl rfl rfl ⟨(by kernel_rfl), (by kernel_rfl)⟩ rfl rfl (bs_one b.based) rfl ?_
      clear HM; intro w6_4 HM
      refine keepS (HM.picks [2, 3, 4] (by decide) rfl) (fun HS => ?_)
      refine any_all [5] (by kernel_rfl) rfl ?_
      refine all_cons ?_ all_nil
      refine any_op HF (i := 5) rfl rfl ?_
      refine e_storeAll HF HM (i := 0) (cs := #[.int .i64 0, .int .i64 0, .int .u8 0, .int .u8 0, .int .i64 0, .int .i64 0, .int .i64 0, .int .i64 0, .int .i64 0, .int .u64 0, .int .i64 0]) (ds := e.cells) rfl rfl rfl rfl ⟨(by kernel_rfl), (by kernel_rfl)⟩ rfl rfl (ev_one e) rfl ?_
      clear HM; intro w6_5 HM
      refine noS (by kernel_rfl) ?_
      refine any_done (by kernel_rfl) ?_
      replace HF := HF.sub (σ' := [(15, .pointer (some ⟨g15, 0, none⟩)), (14, .pointer (some ⟨g14, 0, none⟩)), (13, .pointer (some ⟨g13, 0, none⟩)), (11, .pointer (some ⟨g11, 0, none⟩)), (23, .bool false), (10, .bool false), (5, .pointer (some ⟨g5, 0, none⟩)), (2, .int .i64 s), (3, .int .i64 t), (4, .int .u8 (c : Int))]) (by kernel_rfl)
      exact ⟨g14, g15, HF.sub (by kernel_rfl), HM.picks [0, 1, 2, 3, 4] (by decide) rfl⟩
    refine all_cons ?_ all_nil
    refine any_op HF (i := 3) rfl rfl ?_
    refine e_alloc HF HM (cs := #[.int .i64 0, .int .i64 0, .int .u8 0, .int .u8 0, .int .i64 0, .int .i64 0, .int .i64 0, .int .i64 0, .int .i64 0, .int .u64 0, .int .i64 0]) rfl (by kernel_rfl) rfl (by decide) ?_
    clear HF HM; intro a w15 g15 HF HM
    refine keepS (HM.picks [1, 2, 3] (by decide) rfl) (fun HS => ?_)
    refine any_all [2] (by kernel_rfl) rfl ?_
    refine all_cons ?_ all_nil
    refine any_op HF (i := 2) rfl rfl ?_
    refine e_alloc HF HM (cs := #[.int .i64 0, .int .i64 0]) rfl (by kernel_rfl) rfl (by decide) ?_
    clear HF HM; intro a w14 g14 HF HM
    refine keepS (HM.picks [2, 3, 4] (by decide) rfl) (fun HS => ?_)
    refine any_all [4] (by kernel_rfl) rfl ?_
    refine all_cons ?_ all_nil
    refine any_op HF (i := 4) rfl rfl ?_
    refine e_storeAll HF HM (i := 0) (cs := #[.int .i64 0, .int .i64 0]) (ds := b.based.cells) rfl rfl rfl rfl ⟨(by kernel_rfl), (by kernel_rfl)⟩ rfl rfl (bs_one b.based) rfl ?_
    clear HM; intro w6_4 HM
    refine keepS (HM.picks [2, 3, 4] (by decide) rfl) (fun HS => ?_)
    refine any_all [5] (by kernel_rfl) rfl ?_
    refine all_cons ?_ all_nil
    refine any_op HF (i := 5) rfl rfl ?_
    refine e_storeAll HF HM (i := 1) (cs := #[.int .i64 0, .int .i64 0, .int .u8 0, .int .u8 0, .int .i64 0, .int .i64 0, .int .i64 0, .int .i64 0, .int .i64 0, .int .u64 0, .int .i64 0]) (ds := e.cells) rfl rfl rfl rfl ⟨(by kernel_rfl), (by kernel_rfl)⟩ rfl rfl (ev_one e) rfl ?_
    clear HM; intro w6_5 HM
    refine noS (by kernel_rfl) ?_
    refine any_done (by kernel_rfl) ?_
    replace HF := HF.sub (σ' := [(14, .pointer (some ⟨g14, 0, none⟩)), (15, .pointer (some ⟨g15, 0, none⟩)), (13, .pointer (some ⟨g13, 0, none⟩)), (11, .pointer (some ⟨g11, 0, none⟩)), (23, .bool false), (10, .bool false), (5, .pointer (some ⟨g5, 0, none⟩)), (2, .int .i64 s), (3, .int .i64 t), (4, .int .u8 (c : Int))]) (by kernel_rfl)
    exact ⟨g14, g15, HF.sub (by kernel_rfl), HM.picks [1, 0, 2, 3, 4] (by decide) rfl⟩
  clear HF HM; rintro a w6 ⟨g14, g15, HF, HM⟩
  refine wp_seq ?_
  refine from_start ?_
  refine from_pures HF 1 0 (j := 1) [(37, .int .i64 s)] (by kernel_rfl) rfl ?_; clear HF; intro a HF
  refine from_op HF (i := 1) rfl rfl ?_
  refine e_call HF rfl (by kernel_rfl) (by kernel_rfl) rfl (by decide) (hps _) ?_
  rintro _ w38 ⟨rfl, rfl⟩
  refine ⟨_, rfl, ?_⟩
  replace HM := HM
  clear HF; intro a HF
  refine from_pures HF 1 2 (j := 3) [(39, .int .i64 t)] (by kernel_rfl) rfl ?_; clear HF; intro a HF
  refine from_op HF (i := 3) rfl rfl ?_
  refine e_call HF rfl (by kernel_rfl) (by kernel_rfl) rfl (by decide) (hpt _) ?_
  rintro _ w40 ⟨rfl, rfl⟩
  refine ⟨_, rfl, ?_⟩
  replace HM := HM
  clear HF; intro a HF
  refine from_pures HF 2 4 (j := 6) [(3, .int .i64 t1), (2, .int .i64 s1)] (by kernel_rfl) rfl ?_; clear HF; intro a HF
  refine from_done rfl ?_
  replace HF := HF.sub (σ' := [(3, .int .i64 t1), (2, .int .i64 s1), (15, .pointer (some ⟨g15, 0, none⟩)), (14, .pointer (some ⟨g14, 0, none⟩)), (13, .pointer (some ⟨g13, 0, none⟩)), (11, .pointer (some ⟨g11, 0, none⟩)), (23, .bool false), (10, .bool false), (5, .pointer (some ⟨g5, 0, none⟩)), (4, .int .u8 (c : Int))]) (by kernel_rfl)
  refine cut_seq (fun aS wS => Fr aS 111 [] [(3, .int .i64 t1), (2, .int .i64 s1), (15, .pointer (some ⟨g15, 0, none⟩)), (14, .pointer (some ⟨g14, 0, none⟩)), (13, .pointer (some ⟨g13, 0, none⟩)), (11, .pointer (some ⟨g11, 0, none⟩)), (23, .bool false), (10, .bool false), (5, .pointer (some ⟨g5, 0, none⟩)), (4, .int .u8 (c : Int))] ∧ Mem w wS [.blk g15 #[.int .i64 (e.seq + s1), .int .i64 (e.time + t1), .int .u8 (e.cpu : Int), .int .u8 (e.kind : Int), .int .i64 e.task, .int .i64 e.group, .int .i64 e.to, .int .i64 e.weight, .int .i64 e.ticks, .int .u64 (e.mask : Int), .int .i64 e.got] 37, .blk g14 #[.int .i64 (b.based.seq + s1), .int .i64 (b.based.time + t1)] 23, .blk g13 e.cells 37, .blk g11 b.based.cells 23, .blk g5 b.cells 23]) ?_ ?_
  ·
    refine any_start (by kernel_rfl) (fun wS => Mem w wS [.blk g15 e.cells 37, .blk g13 e.cells 37, .blk g11 b.based.cells 23, .blk g5 b.cells 23]) [21, 23] ?_
    replace HM := HM.drew
    have HS := HM.picks (fs' := [.blk g15 e.cells 37, .blk g13 e.cells 37, .blk g11 b.based.cells 23, .blk g5 b.cells 23]) [0, 2, 3, 4] (by decide) rfl
    refine any_pures HF (fun _ => HS) (fun _ _ d _ _ h => by cases d <;> exact h) [0, 2, 4, 6, 8, 10, 12, 14] #[true, false, true, false, true, false, true, false, true, false, true, false, true, false, true, false, false, false, false, false, false, false, false, false] [(55, .int .i64 t1), (53, .pointer (some ⟨g15, 1, none⟩)), (51, .int .i64 s1), (49, .pointer (some ⟨g15, 0, none⟩)), (47, .int .i64 t1), (45, .pointer (some ⟨g14, 1, none⟩)), (43, .int .i64 s1), (41, .pointer (some ⟨g14, 0, none⟩))] (by kernel_rfl) ?_; clear HF; intro a HF
    refine any_yl HF HS (i := 9) rfl rfl (d := 50) rfl (by decide) (by kernel_rfl) (fun _ _ _ h => h) (v := .int .i64 e.seq) (Yl.load1 rfl rfl (by kernel_rfl) (fun _ h => h.cell (i := 0) rfl rfl)) ?_; clear HF; intro a HF
    refine any_pure HF (fun _ => HS) (i := 11) rfl rfl (d := 52) rfl (by decide) (by kernel_rfl) (fun _ _ _ h => h) (v := .int .i64 (IntKind.i64.wrap (e.seq + s1))) (fun _ => Yl.pure (by kernel_rfl)) ?_; clear HF; intro a HF
    replace HF := HF.as (t := 52) (u := .int .i64 (e.seq + s1)) rfl (i64_as (by omega))
    refine any_yl HF HS (i := 13) rfl rfl (d := 54) rfl (by decide) (by kernel_rfl) (fun _ _ _ h => h) (v := .int .i64 e.time) (Yl.load1 rfl rfl (by kernel_rfl) (fun _ h => h.cell (i := 0) rfl rfl)) ?_; clear HF; intro a HF
    refine any_pure HF (fun _ => HS) (i := 15) rfl rfl (d := 56) rfl (by decide) (by kernel_rfl) (fun _ _ _ h => h) (v := .int .i64 (IntKind.i64.wrap (e.time + t1))) (fun _ => Yl.pure (by kernel_rfl)) ?_; clear HF; intro a HF
    replace HF := HF.as (t := 56) (u := .int .i64 (e.time + t1)) rfl (i64_as (by omega))
    refine any_all [1, 5] (by kernel_rfl) rfl ?_
    refine all_cons ?_ ?_
    · refine any_op HF (i := 1) rfl rfl ?_
      refine Yl.wp (S := fun wS => Mem w wS _) (v := .int .i64 b.based.seq) (Yl.load1 rfl rfl (by kernel_rfl) (fun _ h => h.cell (i := 1) rfl rfl)) HF HM rfl (by decide) ?_; clear HF; intro a HF
      refine keepS HS (fun HS => ?_)
      refine any_pure HF (fun _ => HS) (i := 3) rfl rfl (d := 44) rfl (by decide) (by kernel_rfl) (fun _ _ _ h => h) (v := .int .i64 (IntKind.i64.wrap (b.based.seq + s1))) (fun _ => Yl.pure (by kernel_rfl)) ?_; clear HF; intro a HF
      replace HF := HF.as (t := 44) (u := .int .i64 (b.based.seq + s1)) rfl (i64_as (by omega))
      refine any_all [5] (by kernel_rfl) rfl ?_
      refine all_cons ?_ all_nil
      refine any_op HF (i := 5) rfl rfl ?_
      refine Yl.wp (S := fun wS => Mem w wS _) (v := .int .i64 b.based.time) (Yl.load1 rfl rfl (by kernel_rfl) (fun _ h => h.cell (i := 1) rfl rfl)) HF HM rfl (by decide) ?_; clear HF; intro a HF
      refine keepS HS (fun HS => ?_)
      refine any_pures HF (fun _ => HS) (fun _ _ d _ _ h => by cases d <;> exact h) [16] #[true, true, true, true, true, true, true, false, true, true, true, true, true, true, true, true, true, false, false, false, false, false, false, false] [(57, .pointer (some ⟨g14, 0, none⟩))] (by kernel_rfl) ?_; clear HF; intro a HF
      refine any_pure HF (fun _ => HS) (i := 7) rfl rfl (d := 48) rfl (by decide) (by kernel_rfl) (fun _ _ _ h => h) (v := .int .i64 (IntKind.i64.wrap (b.based.time + t1))) (fun _ => Yl.pure (by kernel_rfl)) ?_; clear HF; intro a HF
      replace HF := HF.as (t := 48) (u := .int .i64 (b.based.time + t1)) rfl (i64_as (by omega))
      refine any_all [17] (by kernel_rfl) rfl ?_
      refine all_cons ?_ all_nil
      refine any_op HF (i := 17) rfl rfl ?_
      refine e_store HF HM (i := 1) (cs := b.based.cells) rfl rfl rfl rfl (by kernel_rfl) rfl rfl (by simp [Bs.cells]) ?_
      clear HM; intro w8_17 HM
      refine keepS (HM.picks [0, 2, 3, 4] (by decide) rfl) (fun HS => ?_)
      refine any_pures HF (fun _ => HS) (fun _ _ d _ _ h => by cases d <;> exact h) [18] #[true, true, true, true, true, true, true, true, true, true, true, true, true, true, true, true, true, true, true, false, false, false, false, false] [(58, .pointer (some ⟨g14, 1, none⟩))] (by kernel_rfl) ?_; clear HF; intro a HF
      refine any_all [19] (by kernel_rfl) rfl ?_
      refine all_cons ?_ all_nil
      refine any_op HF (i := 19) rfl rfl ?_
      refine e_store HF HM (i := 1) (cs := #[.int .i64 (b.based.seq + s1), .int .i64 b.based.time]) rfl rfl rfl rfl (by kernel_rfl) rfl rfl (by simp) ?_
      clear HM; intro w8_19 HM
      refine keepS (HM.picks [0, 2, 3, 4] (by decide) rfl) (fun HS => ?_)
      refine any_pures HF (fun _ => HS) (fun _ _ d _ _ h => by cases d <;> exact h) [20] #[true, true, true, true, true, true, true, true, true, true, true, true, true, true, true, true, true, true, true, true, true, false, false, false] [(59, .pointer (some ⟨g15, 0, none⟩))] (by kernel_rfl) ?_; clear HF; intro a HF
      refine any_all [21] (by kernel_rfl) rfl ?_
      refine all_cons ?_ all_nil
      refine any_op HF (i := 21) rfl rfl ?_
      refine e_store HF HM (i := 0) (cs := e.cells) rfl rfl rfl rfl (by kernel_rfl) rfl rfl (by simp [Ev.cells]) ?_
      clear HM; intro w8_21 HM
      refine noS (by kernel_rfl) ?_
      refine any_pures HF (pastS (by kernel_rfl)) (fun _ _ d _ _ h => by cases d <;> exact h) [22] #[true, true, true, true, true, true, true, true, true, true, true, true, true, true, true, true, true, true, true, true, true, true, true, false] [(60, .pointer (some ⟨g15, 1, none⟩))] (by kernel_rfl) ?_; clear HF; intro a HF
      refine any_all [23] (by kernel_rfl) rfl ?_
      refine all_cons ?_ all_nil
      refine any_op HF (i := 23) rfl rfl ?_
      refine e_store HF HM (i := 0) (cs := #[.int .i64 (e.seq + s1), .int .i64 e.time, .int .u8 (e.cpu : Int), .int .u8 (e.kind : Int), .int .i64 e.task, .int .i64 e.group, .int .i64 e.to, .int .i64 e.weight, .int .i64 e.ticks, .int .u64 (e.mask : Int), .int .i64 e.got]) rfl rfl rfl rfl (by kernel_rfl) rfl rfl (by simp) ?_
      clear HM; intro w8_23 HM
      refine noS (by kernel_rfl) ?_
      refine any_done (by kernel_rfl) ?_
      replace HF := HF.sub (σ' := [(3, .int .i64 t1), (2, .int .i64 s1), (15, .pointer (some ⟨g15, 0, none⟩)), (14, .pointer (some ⟨g14, 0, none⟩)), (13, .pointer (some ⟨g13, 0, none⟩)), (11, .pointer (some ⟨g11, 0, none⟩)), (23, .bool false), (10, .bool false), (5, .pointer (some ⟨g5, 0, none⟩)), (4, .int .u8 (c : Int))]) (by kernel_rfl)
      exact ⟨HF.sub (by kernel_rfl), HM.picks [0, 1, 2, 3, 4] (by decide) rfl⟩
    refine all_cons ?_ all_nil
    refine any_op HF (i := 5) rfl rfl ?_
    refine Yl.wp (S := fun wS => Mem w wS _) (v := .int .i64 b.based.time) (Yl.load1 rfl rfl (by kernel_rfl) (fun _ h => h.cell (i := 1) rfl rfl)) HF HM rfl (by decide) ?_; clear HF; intro a HF
    refine keepS HS (fun HS => ?_)
    refine any_pure HF (fun _ => HS) (i := 7) rfl rfl (d := 48) rfl (by decide) (by kernel_rfl) (fun _ _ _ h => h) (v := .int .i64 (IntKind.i64.wrap (b.based.time + t1))) (fun _ => Yl.pure (by kernel_rfl)) ?_; clear HF; intro a HF
    replace HF := HF.as (t := 48) (u := .int .i64 (b.based.time + t1)) rfl (i64_as (by omega))
    refine any_all [1] (by kernel_rfl) rfl ?_
    refine all_cons ?_ all_nil
    refine any_op HF (i := 1) rfl rfl ?_
    refine Yl.wp (S := fun wS => Mem w wS _) (v := .int .i64 b.based.seq) (Yl.load1 rfl rfl (by kernel_rfl) (fun _ h => h.cell (i := 1) rfl rfl)) HF HM rfl (by decide) ?_; clear HF; intro a HF
    refine keepS HS (fun HS => ?_)
    refine any_pure HF (fun _ => HS) (i := 3) rfl rfl (d := 44) rfl (by decide) (by kernel_rfl) (fun _ _ _ h => h) (v := .int .i64 (IntKind.i64.wrap (b.based.seq + s1))) (fun _ => Yl.pure (by kernel_rfl)) ?_; clear HF; intro a HF
    replace HF := HF.as (t := 44) (u := .int .i64 (b.based.seq + s1)) rfl (i64_as (by omega))
    refine any_pures HF (fun _ => HS) (fun _ _ d _ _ h => by cases d <;> exact h) [16] #[true, true, true, true, true, true, true, true, true, true, true, true, true, true, true, true, true, false, false, false, false, false, false, false] [(57, .pointer (some ⟨g14, 0, none⟩))] (by kernel_rfl) ?_; clear HF; intro a HF
    refine any_all [17] (by kernel_rfl) rfl ?_
    refine all_cons ?_ all_nil
    refine any_op HF (i := 17) rfl rfl ?_
    refine e_store HF HM (i := 1) (cs := b.based.cells) rfl rfl rfl rfl (by kernel_rfl) rfl rfl (by simp [Bs.cells]) ?_
    clear HM; intro w8_17 HM
    refine keepS (HM.picks [0, 2, 3, 4] (by decide) rfl) (fun HS => ?_)
    refine any_pures HF (fun _ => HS) (fun _ _ d _ _ h => by cases d <;> exact h) [18] #[true, true, true, true, true, true, true, true, true, true, true, true, true, true, true, true, true, true, true, false, false, false, false, false] [(58, .pointer (some ⟨g14, 1, none⟩))] (by kernel_rfl) ?_; clear HF; intro a HF
    refine any_all [19] (by kernel_rfl) rfl ?_
    refine all_cons ?_ all_nil
    refine any_op HF (i := 19) rfl rfl ?_
    refine e_store HF HM (i := 1) (cs := #[.int .i64 (b.based.seq + s1), .int .i64 b.based.time]) rfl rfl rfl rfl (by kernel_rfl) rfl rfl (by simp) ?_
    clear HM; intro w8_19 HM
    refine keepS (HM.picks [0, 2, 3, 4] (by decide) rfl) (fun HS => ?_)
    refine any_pures HF (fun _ => HS) (fun _ _ d _ _ h => by cases d <;> exact h) [20] #[true, true, true, true, true, true, true, true, true, true, true, true, true, true, true, true, true, true, true, true, true, false, false, false] [(59, .pointer (some ⟨g15, 0, none⟩))] (by kernel_rfl) ?_; clear HF; intro a HF
    refine any_all [21] (by kernel_rfl) rfl ?_
    refine all_cons ?_ all_nil
    refine any_op HF (i := 21) rfl rfl ?_
    refine e_store HF HM (i := 0) (cs := e.cells) rfl rfl rfl rfl (by kernel_rfl) rfl rfl (by simp [Ev.cells]) ?_
    clear HM; intro w8_21 HM
    refine noS (by kernel_rfl) ?_
    refine any_pures HF (pastS (by kernel_rfl)) (fun _ _ d _ _ h => by cases d <;> exact h) [22] #[true, true, true, true, true, true, true, true, true, true, true, true, true, true, true, true, true, true, true, true, true, true, true, false] [(60, .pointer (some ⟨g15, 1, none⟩))] (by kernel_rfl) ?_; clear HF; intro a HF
    refine any_all [23] (by kernel_rfl) rfl ?_
    refine all_cons ?_ all_nil
    refine any_op HF (i := 23) rfl rfl ?_
    refine e_store HF HM (i := 0) (cs := #[.int .i64 (e.seq + s1), .int .i64 e.time, .int .u8 (e.cpu : Int), .int .u8 (e.kind : Int), .int .i64 e.task, .int .i64 e.group, .int .i64 e.to, .int .i64 e.weight, .int .i64 e.ticks, .int .u64 (e.mask : Int), .int .i64 e.got]) rfl rfl rfl rfl (by kernel_rfl) rfl rfl (by simp) ?_
    clear HM; intro w8_23 HM
    refine noS (by kernel_rfl) ?_
    refine any_done (by kernel_rfl) ?_
    replace HF := HF.sub (σ' := [(3, .int .i64 t1), (2, .int .i64 s1), (15, .pointer (some ⟨g15, 0, none⟩)), (14, .pointer (some ⟨g14, 0, none⟩)), (13, .pointer (some ⟨g13, 0, none⟩)), (11, .pointer (some ⟨g11, 0, none⟩)), (23, .bool false), (10, .bool false), (5, .pointer (some ⟨g5, 0, none⟩)), (4, .int .u8 (c : Int))]) (by kernel_rfl)
    exact ⟨HF.sub (by kernel_rfl), HM.picks [0, 1, 2, 3, 4] (by decide) rfl⟩
  clear HF HM; rintro a w8 ⟨HF, HM⟩
  refine wp_seq ?_
  refine from_start ?_
  refine from_yl (S := fun wS => Mem w wS _) HF HM (i := 0) rfl rfl (d := 62) rfl (by decide) (v := .agg b.based.cells) (Yl.loadS rfl rfl ⟨(by kernel_rfl), (by kernel_rfl)⟩ rfl (fun _ h => range_of_block (h.blk (i := 3) rfl))) ?_; clear HF; intro a HF
  refine from_yl (S := fun wS => Mem w wS _) HF HM (i := 1) rfl rfl (d := 63) rfl (by decide) (v := .agg e.cells) (Yl.loadS rfl rfl ⟨(by kernel_rfl), (by kernel_rfl)⟩ rfl (fun _ h => range_of_block (h.blk (i := 2) rfl))) ?_; clear HF; intro a HF
  refine from_op HF (i := 2) rfl rfl ?_
  refine e_call HF rfl (by kernel_rfl) (by kernel_rfl) rfl (by decide) (put_is b.based e SF.eok B _ (hL.mem HM hB) (HM.le hB) (SF.put1) (rfl)) ?_
  rintro _ w64 ⟨⟨A64, c64, rfl, ho, hc64⟩, hbw⟩
  refine ⟨_, rfl, ?_⟩
  replace HM := HM.callRow hbw ho
  clear HF; intro a HF
  refine from_pures HF 5 3 (j := 8) [(17, .int .i64 0), (16, .slice A64 (((putOut b.based e)).length) c64), (66, .int .i64 0), (65, .slice A64 (((putOut b.based e)).length) c64), (61, .tuple #[.slice A64 (((putOut b.based e)).length) c64, .int .i64 0])] (by kernel_rfl) rfl ?_; clear HF; intro a HF
  refine from_done rfl ?_
  replace HF := HF.sub (σ' := [(17, .int .i64 0), (16, .slice A64 (((putOut b.based e)).length) c64), (3, .int .i64 t1), (2, .int .i64 s1), (15, .pointer (some ⟨g15, 0, none⟩)), (14, .pointer (some ⟨g14, 0, none⟩)), (13, .pointer (some ⟨g13, 0, none⟩)), (11, .pointer (some ⟨g11, 0, none⟩)), (23, .bool false), (10, .bool false), (5, .pointer (some ⟨g5, 0, none⟩)), (4, .int .u8 (c : Int))]) (by kernel_rfl)
  refine wp_seq ?_
  refine from_start ?_
  refine from_yl (S := fun wS => Mem w wS _) HF HM (i := 0) rfl rfl (d := 68) rfl (by decide) (v := .agg #[.int .i64 (b.based.seq + s1), .int .i64 (b.based.time + t1)]) (Yl.loadS rfl rfl ⟨(by kernel_rfl), (by kernel_rfl)⟩ rfl (fun _ h => range_of_block (h.blk (i := 2) rfl))) ?_; clear HF; intro a HF
  refine from_yl (S := fun wS => Mem w wS _) HF HM (i := 1) rfl rfl (d := 69) rfl (by decide) (v := .agg #[.int .i64 (e.seq + s1), .int .i64 (e.time + t1), .int .u8 (e.cpu : Int), .int .u8 (e.kind : Int), .int .i64 e.task, .int .i64 e.group, .int .i64 e.to, .int .i64 e.weight, .int .i64 e.ticks, .int .u64 (e.mask : Int), .int .i64 e.got]) (Yl.loadS rfl rfl ⟨(by kernel_rfl), (by kernel_rfl)⟩ rfl (fun _ h => range_of_block (h.blk (i := 1) rfl))) ?_; clear HF; intro a HF
  refine from_op HF (i := 2) rfl rfl ?_
  refine e_call HF rfl (by kernel_rfl) (by kernel_rfl) rfl (by decide) (put_is ⟨b.based.seq + s1, b.based.time + t1⟩ (e.to3 (e.seq + s1) (e.time + t1) e.cpu) (to3_ok SF.eok ⟨by omega, by omega⟩ ⟨by omega, by omega⟩ SF.eok.cpu) B _ (hL.mem HM hB) (HM.le hB) (SF.put2) (SF.same2)) ?_
  rintro _ w70 ⟨⟨A70, c70, rfl, ho, hc70⟩, hbw⟩
  refine ⟨_, rfl, ?_⟩
  replace HM := HM.callRow hbw ho
  clear HF; intro a HF
  refine from_pures HF 5 3 (j := 8) [(19, .int .i64 0), (18, .slice A70 (((putOut b.based e)).length) c70), (72, .int .i64 0), (71, .slice A70 (((putOut b.based e)).length) c70), (67, .tuple #[.slice A70 (((putOut b.based e)).length) c70, .int .i64 0])] (by kernel_rfl) rfl ?_; clear HF; intro a HF
  refine from_done rfl ?_
  replace HF := HF.sub (σ' := [(19, .int .i64 0), (18, .slice A70 (((putOut b.based e)).length) c70), (17, .int .i64 0), (16, .slice A64 (((putOut b.based e)).length) c64), (3, .int .i64 t1), (2, .int .i64 s1), (15, .pointer (some ⟨g15, 0, none⟩)), (14, .pointer (some ⟨g14, 0, none⟩)), (13, .pointer (some ⟨g13, 0, none⟩)), (11, .pointer (some ⟨g11, 0, none⟩)), (23, .bool false), (10, .bool false), (5, .pointer (some ⟨g5, 0, none⟩)), (4, .int .u8 (c : Int))]) (by kernel_rfl)
  refine wp_seq ?_
  refine wp_seq ?_
  refine from_start ?_
  refine from_pures HF 6 0 (j := 6) [(78, .slice A64 (((putOut b.based e)).length) c64), (77, .bool false), (76, .bool false), (75, .int .i64 0), (74, .int .i64 0), (73, .int .i64 0)] (by kernel_rfl) rfl ?_; clear HF; intro a HF
  refine from_yl (S := fun wS => Mem w wS _) HF HM (i := 6) rfl rfl (d := 79) rfl (by decide) (v := .string (bstr (putOut b.based e))) (Yl.str rfl rfl (fun _ h => h.rd (i := 1) rfl)) ?_; clear HF; intro a HF
  refine from_pures HF 1 7 (j := 8) [(80, .slice A70 (((putOut b.based e)).length) c70)] (by kernel_rfl) rfl ?_; clear HF; intro a HF
  refine from_yl (S := fun wS => Mem w wS _) HF HM (i := 8) rfl rfl (d := 81) rfl (by decide) (v := .string (bstr (putOut b.based e))) (Yl.str rfl rfl (fun _ h => h.rd (i := 0) rfl)) ?_; clear HF; intro a HF
  refine from_pures HF 1 9 (j := 10) [(82, .bool (!(((bstr (putOut b.based e))).toList == ((bstr (putOut b.based e))).toList)))] (by kernel_rfl) rfl ?_; clear HF; intro a HF
  replace HF := HF.as (t := 82) (u := .bool false) rfl (by simp)
  refine from_pures HF 1 10 (j := 11) [(83, .bool false)] (by kernel_rfl) rfl ?_; clear HF; intro a HF
  refine from_done rfl ?_
  replace HF := HF.sub (σ' := [(83, .bool false), (16, .slice A64 (((putOut b.based e)).length) c64), (3, .int .i64 t1), (2, .int .i64 s1), (15, .pointer (some ⟨g15, 0, none⟩)), (14, .pointer (some ⟨g14, 0, none⟩)), (13, .pointer (some ⟨g13, 0, none⟩)), (11, .pointer (some ⟨g11, 0, none⟩)), (23, .bool false), (10, .bool false), (5, .pointer (some ⟨g5, 0, none⟩)), (4, .int .u8 (c : Int))]) (by kernel_rfl)
  replace HM := HM.picks (fs' := [.row (.slice A64 (((putOut b.based e)).length) c64) (((putOut b.based e)).length) (((putOut b.based e)).map B8) 5 1, .blk g15 #[.int .i64 (e.seq + s1), .int .i64 (e.time + t1), .int .u8 (e.cpu : Int), .int .u8 (e.kind : Int), .int .i64 e.task, .int .i64 e.group, .int .i64 e.to, .int .i64 e.weight, .int .i64 e.ticks, .int .u64 (e.mask : Int), .int .i64 e.got] 37, .blk g14 #[.int .i64 (b.based.seq + s1), .int .i64 (b.based.time + t1)] 23, .blk g13 e.cells 37, .blk g11 b.based.cells 23, .blk g5 b.cells 23]) [1, 2, 3, 4, 5, 6] (by decide) rfl
  refine cond_false HF rfl ?_
  refine wp_skip ?_
  refine wp_seq ?_
  refine from_start ?_
  refine from_pures HF 2 0 (j := 2) [(85, .pointer (some ⟨g15, 2, none⟩)), (84, .int .u8 (c : Int))] (by kernel_rfl) rfl ?_; clear HF; intro a HF
  refine from_op HF (i := 2) rfl rfl ?_
  refine e_store HF HM (i := 1) (cs := #[.int .i64 (e.seq + s1), .int .i64 (e.time + t1), .int .u8 (e.cpu : Int), .int .u8 (e.kind : Int), .int .i64 e.task, .int .i64 e.group, .int .i64 e.to, .int .i64 e.weight, .int .i64 e.ticks, .int .u64 (e.mask : Int), .int .i64 e.got]) rfl rfl rfl rfl (by kernel_rfl) rfl rfl (by simp) ?_
  clear HM; intro w13_2 HM
  refine from_done rfl ?_
  replace HF := HF.sub (σ' := [(83, .bool false), (16, .slice A64 (((putOut b.based e)).length) c64), (3, .int .i64 t1), (2, .int .i64 s1), (15, .pointer (some ⟨g15, 0, none⟩)), (14, .pointer (some ⟨g14, 0, none⟩)), (13, .pointer (some ⟨g13, 0, none⟩)), (11, .pointer (some ⟨g11, 0, none⟩)), (23, .bool false), (10, .bool false), (5, .pointer (some ⟨g5, 0, none⟩))]) (by kernel_rfl)
  refine wp_seq ?_
  refine from_start ?_
  refine from_yl (S := fun wS => Mem w wS _) HF HM (i := 0) rfl rfl (d := 87) rfl (by decide) (v := .agg #[.int .i64 (b.based.seq + s1), .int .i64 (b.based.time + t1)]) (Yl.loadS rfl rfl ⟨(by kernel_rfl), (by kernel_rfl)⟩ rfl (fun _ h => range_of_block (h.blk (i := 2) rfl))) ?_; clear HF; intro a HF
  refine from_yl (S := fun wS => Mem w wS _) HF HM (i := 1) rfl rfl (d := 88) rfl (by decide) (v := .agg #[.int .i64 (e.seq + s1), .int .i64 (e.time + t1), .int .u8 (c : Int), .int .u8 (e.kind : Int), .int .i64 e.task, .int .i64 e.group, .int .i64 e.to, .int .i64 e.weight, .int .i64 e.ticks, .int .u64 (e.mask : Int), .int .i64 e.got]) (Yl.loadS rfl rfl ⟨(by kernel_rfl), (by kernel_rfl)⟩ rfl (fun _ h => range_of_block (h.blk (i := 1) rfl))) ?_; clear HF; intro a HF
  refine from_op HF (i := 2) rfl rfl ?_
  refine e_call HF rfl (by kernel_rfl) (by kernel_rfl) rfl (by decide) (put_is ⟨b.based.seq + s1, b.based.time + t1⟩ (e.to3 (e.seq + s1) (e.time + t1) c) (to3_ok SF.eok ⟨by omega, by omega⟩ ⟨by omega, by omega⟩ hc) B _ (hL.mem HM hB) (HM.le hB) (h3.1) (h3.2)) ?_
  rintro _ w89 ⟨⟨A89, c89, rfl, ho, hc89⟩, hbw⟩
  refine ⟨_, rfl, ?_⟩
  replace HM := HM.callRow hbw ho
  clear HF; intro a HF
  refine from_pures HF 5 3 (j := 8) [(21, .int .i64 0), (20, .slice A89 (((putOut b.based e)).length) c89), (91, .int .i64 0), (90, .slice A89 (((putOut b.based e)).length) c89), (86, .tuple #[.slice A89 (((putOut b.based e)).length) c89, .int .i64 0])] (by kernel_rfl) rfl ?_; clear HF; intro a HF
  refine from_done rfl ?_
  replace HF := HF.sub (σ' := [(21, .int .i64 0), (20, .slice A89 (((putOut b.based e)).length) c89), (83, .bool false), (16, .slice A64 (((putOut b.based e)).length) c64), (3, .int .i64 t1), (2, .int .i64 s1), (15, .pointer (some ⟨g15, 0, none⟩)), (14, .pointer (some ⟨g14, 0, none⟩)), (13, .pointer (some ⟨g13, 0, none⟩)), (11, .pointer (some ⟨g11, 0, none⟩)), (23, .bool false), (10, .bool false), (5, .pointer (some ⟨g5, 0, none⟩))]) (by kernel_rfl)
  refine wp_seq ?_
  refine from_start ?_
  refine from_pures HF 13 0 (j := 13) [(104, .slice A89 (((putOut b.based e)).length) c89), (103, .bool true), (102, .bool true), (101, .int .i64 0), (100, .bool false), (99, .bool false), (98, undef), (97, undef), (96, undef), (95, undef), (94, .bool false), (93, .bool false), (92, .int .i64 0)] (by kernel_rfl) rfl ?_; clear HF; intro a HF
  refine from_yl (S := fun wS => Mem w wS _) HF HM (i := 13) rfl rfl (d := 105) rfl (by decide) (v := .string (bstr (putOut b.based e))) (Yl.str rfl rfl (fun _ h => h.rd (i := 0) rfl)) ?_; clear HF; intro a HF
  refine from_pures HF 1 14 (j := 15) [(106, .slice A64 (((putOut b.based e)).length) c64)] (by kernel_rfl) rfl ?_; clear HF; intro a HF
  refine from_yl (S := fun wS => Mem w wS _) HF HM (i := 15) rfl rfl (d := 107) rfl (by decide) (v := .string (bstr (putOut b.based e))) (Yl.str rfl rfl (fun _ h => h.rd (i := 1) rfl)) ?_; clear HF; intro a HF
  refine from_pures HF 1 16 (j := 17) [(108, .bool (((bstr (putOut b.based e))).toList == ((bstr (putOut b.based e))).toList))] (by kernel_rfl) rfl ?_; clear HF; intro a HF
  replace HF := HF.as (t := 108) (u := .bool true) rfl (by simp)
  refine from_pures HF 3 17 (j := 20) [(10, .bool true), (110, .bool true), (109, .bool true)] (by kernel_rfl) rfl ?_; clear HF; intro a HF
  refine from_done rfl ?_
  replace HF := HF.sub (σ' := [(10, .bool true), (83, .bool false), (16, .slice A64 (((putOut b.based e)).length) c64), (3, .int .i64 t1), (2, .int .i64 s1), (15, .pointer (some ⟨g15, 0, none⟩)), (14, .pointer (some ⟨g14, 0, none⟩)), (13, .pointer (some ⟨g13, 0, none⟩)), (11, .pointer (some ⟨g11, 0, none⟩)), (23, .bool false), (5, .pointer (some ⟨g5, 0, none⟩))]) (by kernel_rfl)
  replace HM := HM.picks (fs' := [.row (.slice A64 (((putOut b.based e)).length) c64) (((putOut b.based e)).length) (((putOut b.based e)).map B8) 5 1, .blk g15 #[.int .i64 (e.seq + s1), .int .i64 (e.time + t1), .int .u8 (c : Int), .int .u8 (e.kind : Int), .int .i64 e.task, .int .i64 e.group, .int .i64 e.to, .int .i64 e.weight, .int .i64 e.ticks, .int .u64 (e.mask : Int), .int .i64 e.got] 37, .blk g14 #[.int .i64 (b.based.seq + s1), .int .i64 (b.based.time + t1)] 23, .blk g13 e.cells 37, .blk g11 b.based.cells 23, .blk g5 b.cells 23]) [1, 2, 3, 4, 5, 6] (by decide) rfl
  refine wp_ret ?_
  exact ret1 rfl HF (.tmp HF rfl) (⟨rfl, HM.below⟩)
set_option maxRecDepth 100000 in
set_option maxHeartbeats 4000000 in
theorem shifts_bad (b : Bs) (hb : b.Ok) (x : Sm) (hx : x.Ok) (s t : Int) (c : Nat) (hc : c < 256) (e : Ev) (s1 t1 : Int) (SF : ShiftFacts b x e s1 t1 c) (hs1 : 0 ≤ s1 ∧ s1 < 1099511627776) (ht1 : 0 ≤ t1 ∧ t1 < 1099511627776)
    (hps : ∀ w, Calls Tryd.prog 17 #[.int .i64 s, .int .i64 1099511627776] w fun e w' => e = .returned (.int .i64 s1) ∧ w' = w) (hpt : ∀ w, Calls Tryd.prog 17 #[.int .i64 t, .int .i64 1099511627776] w fun e w' => e = .returned (.int .i64 t1) ∧ w' = w)
    (h3 : (e.to3 (e.seq + s1) (e.time + t1) c).check ≠ 0 ∧ putErr ⟨b.based.seq + s1, b.based.time + t1⟩ (e.to3 (e.seq + s1) (e.time + t1) c) = (e.to3 (e.seq + s1) (e.time + t1) c).check) (B : Nat) (w : World) (hL : Laid B w) (hB : B ≤ w.heap.size) :
    Calls Tryd.prog 6 #[.agg b.cells, .agg x.cells, .int .i64 s, .int .i64 t, .int .u8 (c : Int)] w (TruePost w) := by
  obtain ⟨q1, q2, q3, q4, q5, q6, q7, q8⟩ := SF.bnd
  have h3n : ((((e.to3 (e.seq + s1) (e.time + t1) c).check : Nat) : Int) != 0) = true := by rw [bne_iff_ne]; exact fun h => h3.1 (by omega)
  refine calls_enter (vs := [.agg b.cells, .agg x.cells, .int .i64 s, .int .i64 t, .int .u8 (c : Int)]) Tryd.func6 rfl rfl (by kernel_rfl) (σ0 := [(0, .agg b.cells), (1, .agg x.cells), (2, .int .i64 s), (3, .int .i64 t), (4, .int .u8 (c : Int))]) rfl ?_
  intro a HF
  have HM := Mem.start w
  refine wp_seq ?_
  refine from_start ?_
  refine from_op HF (i := 0) rfl rfl ?_
  refine e_box HF HM (cs := b.cells) rfl rfl rfl rfl (by decide) ?_
  clear HF HM; intro a w5 g5 HF HM
  refine from_op HF (i := 1) rfl rfl ?_
  refine e_box HF HM (cs := x.cells) rfl rfl rfl rfl (by decide) ?_
  clear HF HM; intro a w6 g6 HF HM
  refine from_pures HF 1 2 (j := 3) [(10, .bool false)] (by kernel_rfl) rfl ?_; clear HF; intro a HF
  refine from_done rfl ?_
  replace HF := HF.sub (σ' := [(10, .bool false), (6, .pointer (some ⟨g6, 0, none⟩)), (5, .pointer (some ⟨g5, 0, none⟩)), (2, .int .i64 s), (3, .int .i64 t), (4, .int .u8 (c : Int))]) (by kernel_rfl)
  refine wp_seq ?_
  refine wp_seq ?_
  refine from_start ?_
  refine from_op HF (i := 0) rfl rfl ?_
  refine e_call HF rfl (by kernel_rfl) (by kernel_rfl) rfl (by decide) (awake_any B _ (hL.mem HM hB) (HM.le hB)) ?_
  rintro _ w22 ⟨rfl, hbw⟩
  refine ⟨_, rfl, ?_⟩
  replace HM := HM.call hbw
  clear HF; intro a HF
  refine from_pures HF 1 1 (j := 2) [(23, .bool false)] (by kernel_rfl) rfl ?_; clear HF; intro a HF
  refine from_done rfl ?_
  replace HF := HF.sub (σ' := [(23, .bool false), (10, .bool false), (6, .pointer (some ⟨g6, 0, none⟩)), (5, .pointer (some ⟨g5, 0, none⟩)), (2, .int .i64 s), (3, .int .i64 t), (4, .int .u8 (c : Int))]) (by kernel_rfl)
  refine cond_false HF rfl ?_
  refine wp_skip ?_
  refine wp_seq ?_
  refine from_start ?_
  refine from_yl (S := fun wS => Mem w wS _) HF HM (i := 0) rfl rfl (d := 24) rfl (by decide) (v := .agg b.cells) (Yl.loadS rfl rfl ⟨(by kernel_rfl), (by kernel_rfl)⟩ rfl (fun _ h => range_of_block (h.blk (i := 1) rfl))) ?_; clear HF; intro a HF
  refine from_op HF (i := 1) rfl rfl ?_
  refine e_call HF rfl (by kernel_rfl) (by kernel_rfl) rfl (by decide) ((based_any b hb _)) ?_
  rintro _ w25 ⟨rfl, hbw⟩
  refine ⟨_, rfl, ?_⟩
  replace HM := HM.call hbw
  clear HF; intro a HF
  refine from_op HF (i := 2) rfl rfl ?_
  refine e_alloc HF HM (cs := #[.int .i64 0, .int .i64 0]) rfl (by kernel_rfl) rfl (by decide) ?_
  clear HF HM; intro a w11 g11 HF HM
  refine from_op HF (i := 3) rfl rfl ?_
  refine e_storeAll HF HM (i := 0) (cs := #[.int .i64 0, .int .i64 0]) (ds := b.based.cells) rfl rfl rfl rfl ⟨(by kernel_rfl), (by kernel_rfl)⟩ rfl rfl (bs_one b.based) rfl ?_
  clear HM; intro w3_3 HM
  refine from_done rfl ?_
  replace HF := HF.sub (σ' := [(11, .pointer (some ⟨g11, 0, none⟩)), (23, .bool false), (10, .bool false), (6, .pointer (some ⟨g6, 0, none⟩)), (5, .pointer (some ⟨g5, 0, none⟩)), (2, .int .i64 s), (3, .int .i64 t), (4, .int .u8 (c : Int))]) (by kernel_rfl)
  refine wp_seq ?_
  refine from_start ?_
  refine from_pures HF 1 0 (j := 1) [(26, .pointer (some ⟨g6, 1, none⟩))] (by kernel_rfl) rfl ?_; clear HF; intro a HF
  refine from_yl (S := fun wS => Mem w wS _) HF HM (i := 1) rfl rfl (d := 27) rfl (by decide) (v := .int .u8 (x.cpu : Int)) (Yl.load1 rfl rfl (by kernel_rfl) (fun _ h => h.cell (i := 1) rfl rfl)) ?_; clear HF; intro a HF
  refine from_yl (S := fun wS => Mem w wS _) HF HM (i := 2) rfl rfl (d := 28) rfl (by decide) (v := .agg b.cells) (Yl.loadS rfl rfl ⟨(by kernel_rfl), (by kernel_rfl)⟩ rfl (fun _ h => range_of_block (h.blk (i := 2) rfl))) ?_; clear HF; intro a HF
  refine from_yl (S := fun wS => Mem w wS _) HF HM (i := 3) rfl rfl (d := 29) rfl (by decide) (v := .agg x.cells) (Yl.loadS rfl rfl ⟨(by kernel_rfl), (by kernel_rfl)⟩ rfl (fun _ h => range_of_block (h.blk (i := 1) rfl))) ?_; clear HF; intro a HF
  refine from_op HF (i := 4) rfl rfl ?_
  refine e_slice HF HM (vs := [(0, .agg x.cells)]) (cs := #[.int .u8 (x.kind : Int), .int .u8 (x.cpu : Int), .int .u32 (x.seq : Int), .int .u32 (x.time : Int), .int .u32 (x.task : Int), .int .u32 (x.group : Int), .int .u32 (x.to : Int), .int .u32 (x.weight : Int), .int .u32 (x.ticks : Int), .int .u32 (x.got : Int), .int .u64 (x.mask : Int)]) rfl ei_sm (by decide) rfl (by kernel_rfl) rfl (by decide) ?_
  clear HF HM; intro a w30 g30 HF HM
  refine from_op HF (i := 5) rfl rfl ?_
  refine e_call HF rfl (by kernel_rfl) (by kernel_rfl) rfl (by decide) (made7_any x.cpu hx.cpu b hb _ 1 1 [x] (by intro y hy; cases hy with | head => exact hx | tail _ h => cases h) _ (HM.rdBlk (i := 0) (n := 1) (size := 11) rfl rfl) (by decide) (by decide)) ?_
  rintro _ w31 ⟨⟨v, rfl, ho⟩, hbw⟩
  rw [SF.made] at ho
  obtain ⟨gr, cr, rfl, hcr⟩ := own_at ho (Nat.succ_pos 0)
  refine ⟨_, rfl, ?_⟩
  replace HM := HM.callRow hbw ho
  clear HF; intro a HF
  refine from_pures HF 1 6 (j := 7) [(12, .slice (some ⟨gr, 0, none⟩) 1 cr)] (by kernel_rfl) rfl ?_; clear HF; intro a HF
  refine from_done rfl ?_
  replace HF := HF.sub (σ' := [(12, .slice (some ⟨gr, 0, none⟩) 1 cr), (11, .pointer (some ⟨g11, 0, none⟩)), (23, .bool false), (10, .bool false), (5, .pointer (some ⟨g5, 0, none⟩)), (2, .int .i64 s), (3, .int .i64 t), (4, .int .u8 (c : Int))]) (by kernel_rfl)
  replace HM := HM.picks (fs' := [.row (.slice (some ⟨gr, 0, none⟩) 1 cr) 1 (evL e) 37 11, .blk g11 b.based.cells 23, .blk g5 b.cells 23]) [0, 2, 4] (by decide) rfl
  refine wp_seq ?_
  refine from_start ?_
  refine from_pures HF 1 0 (j := 1) [(32, .slice (some ⟨gr, 0, none⟩) 1 cr)] (by kernel_rfl) rfl ?_; clear HF; intro a HF
  refine from_yl (S := fun wS => Mem w wS _) HF HM (i := 1) rfl rfl (d := 33) rfl (by decide) (v := .pointer (some ⟨gr, 0, none⟩)) (Yl.indexAddr (ad := ⟨gr, 0, none⟩) (y := 0) (sz := 11) rfl rfl rfl (by decide) (by kernel_rfl)) ?_; clear HF; intro a HF
  refine from_yl (S := fun wS => Mem w wS _) HF HM (i := 2) rfl rfl (d := 34) rfl (by decide) (v := .agg e.cells) (Yl.loadS rfl rfl ⟨(by kernel_rfl), (by kernel_rfl)⟩ rfl (fun _ h => h.rowAll (i := 0) rfl)) ?_; clear HF; intro a HF
  refine from_op HF (i := 3) rfl rfl ?_
  refine e_alloc HF HM (cs := #[.int .i64 0, .int .i64 0, .int .u8 0, .int .u8 0, .int .i64 0, .int .i64 0, .int .i64 0, .int .i64 0, .int .i64 0, .int .u64 0, .int .i64 0]) rfl (by kernel_rfl) rfl (by decide) ?_
  clear HF HM; intro a w13 g13 HF HM
  refine from_op HF (i := 4) rfl rfl ?_
  refine e_storeAll HF HM (i := 0) (cs := #[.int .i64 0, .int .i64 0, .int .u8 0, .int .u8 0, .int .i64 0, .int .i64 0, .int .i64 0, .int .i64 0, .int .i64 0, .int .u64 0, .int .i64 0]) (ds := e.cells) rfl rfl rfl rfl ⟨(by kernel_rfl), (by kernel_rfl)⟩ rfl rfl (ev_one e) rfl ?_
  clear HM; intro w5_4 HM
  refine from_done rfl ?_
  replace HF := HF.sub (σ' := [(13, .pointer (some ⟨g13, 0, none⟩)), (11, .pointer (some ⟨g11, 0, none⟩)), (23, .bool false), (10, .bool false), (5, .pointer (some ⟨g5, 0, none⟩)), (2, .int .i64 s), (3, .int .i64 t), (4, .int .u8 (c : Int))]) (by kernel_rfl)
  replace HM := HM.picks (fs' := [.blk g13 e.cells 37, .blk g11 b.based.cells 23, .blk g5 b.cells 23]) [0, 2, 3] (by decide) rfl
  refine cut_seq (fun aS wS => ∃ (g14 : Nat) (g15 : Nat), Fr aS 111 [] [(15, .pointer (some ⟨g15, 0, none⟩)), (14, .pointer (some ⟨g14, 0, none⟩)), (13, .pointer (some ⟨g13, 0, none⟩)), (11, .pointer (some ⟨g11, 0, none⟩)), (23, .bool false), (10, .bool false), (5, .pointer (some ⟨g5, 0, none⟩)), (2, .int .i64 s), (3, .int .i64 t), (4, .int .u8 (c : Int))] ∧ Mem w wS [.blk g15 e.cells 37, .blk g14 b.based.cells 23, .blk g13 e.cells 37, .blk g11 b.based.cells 23, .blk g5 b.cells 23]) ?_ ?_
  ·
    refine any_start (by kernel_rfl) (fun wS => Mem w wS [.blk g13 e.cells 37, .blk g11 b.based.cells 23, .blk g5 b.cells 23]) [5] ?_
    replace HM := HM.drew
    have HS := HM.picks (fs' := [.blk g13 e.cells 37, .blk g11 b.based.cells 23, .blk g5 b.cells 23]) [0, 1, 2] (by decide) rfl
    refine any_yl HF HS (i := 0) rfl rfl (d := 35) rfl (by decide) (by kernel_rfl) (fun _ _ _ h => h) (v := .agg b.based.cells) (Yl.loadS rfl rfl ⟨(by kernel_rfl), (by kernel_rfl)⟩ rfl (fun _ h => range_of_block (h.blk (i := 1) rfl))) ?_; clear HF; intro a HF
    refine any_yl HF HS (i := 1) rfl rfl (d := 36) rfl (by decide) (by kernel_rfl) (fun _ _ _ h => h) (v := .agg e.cells) (Yl.loadS rfl rfl ⟨(by kernel_rfl), (by kernel_rfl)⟩ rfl (fun _ h => range_of_block (h.blk (i := 0) rfl))) ?_; clear HF; intro a HF
    refine any_all [2, 3] (by kernel_rfl) rfl ?_
    refine all_cons ?_ ?_
    · refine any_op HF (i := 2) rfl rfl ?_
      refine e_alloc HF HM (cs := #[.int .i64 0, .int .i64 0]) rfl (by kernel_rfl) rfl (by decide) ?_
      clear HF HM; intro a w14 g14 HF HM
      refine keepS (HM.picks [1, 2, 3] (by decide) rfl) (fun HS => ?_)
      refine any_all [3] (by kernel_rfl) rfl ?_
      refine all_cons ?_ all_nil
      refine any_op HF (i := 3) rfl rfl ?_
      refine e_alloc HF HM (cs := #[.int .i64 0, .int .i64 0, .int .u8 0, .int .u8 0, .int .i64 0, .int .i64 0, .int .i64 0, .int .i64 0, .int .i64 0, .int .u64 0, .int .i64 0]) rfl (by kernel_rfl) rfl (by decide) ?_
      clear HF HM; intro a w15 g15 HF HM
      refine keepS (HM.picks [2, 3, 4] (by decide) rfl) (fun HS => ?_)
      refine any_all [4] (by kernel_rfl) rfl ?_
      refine all_cons ?_ all_nil
      refine any_op HF (i := 4) rfl rfl ?_
      refine e_storeAll HF HM (i := 1) (cs := #[.int .i64 0, .int .i64 0]) (ds := b.based.cells) rfl rfl rfl rfl ⟨(by kernel_rfl), (by kernel_rfl)⟩ rfl rfl (bs_one b.based) rfl ?_
      clear HM; intro w6_4 HM
      refine keepS (HM.picks [2, 3, 4] (by decide) rfl) (fun HS => ?_)
      refine any_all [5] (by kernel_rfl) rfl ?_
      refine all_cons ?_ all_nil
      refine any_op HF (i := 5) rfl rfl ?_
      refine e_storeAll HF HM (i := 0) (cs := #[.int .i64 0, .int .i64 0, .int .u8 0, .int .u8 0, .int .i64 0, .int .i64 0, .int .i64 0, .int .i64 0, .int .i64 0, .int .u64 0, .int .i64 0]) (ds := e.cells) rfl rfl rfl rfl ⟨(by kernel_rfl), (by kernel_rfl)⟩ rfl rfl (ev_one e) rfl ?_
      clear HM; intro w6_5 HM
      refine noS (by kernel_rfl) ?_
      refine any_done (by kernel_rfl) ?_
      replace HF := HF.sub (σ' := [(15, .pointer (some ⟨g15, 0, none⟩)), (14, .pointer (some ⟨g14, 0, none⟩)), (13, .pointer (some ⟨g13, 0, none⟩)), (11, .pointer (some ⟨g11, 0, none⟩)), (23, .bool false), (10, .bool false), (5, .pointer (some ⟨g5, 0, none⟩)), (2, .int .i64 s), (3, .int .i64 t), (4, .int .u8 (c : Int))]) (by kernel_rfl)
      exact ⟨g14, g15, HF.sub (by kernel_rfl), HM.picks [0, 1, 2, 3, 4] (by decide) rfl⟩
    refine all_cons ?_ all_nil
    refine any_op HF (i := 3) rfl rfl ?_
    refine e_alloc HF HM (cs := #[.int .i64 0, .int .i64 0, .int .u8 0, .int .u8 0, .int .i64 0, .int .i64 0, .int .i64 0, .int .i64 0, .int .i64 0, .int .u64 0, .int .i64 0]) rfl (by kernel_rfl) rfl (by decide) ?_
    clear HF HM; intro a w15 g15 HF HM
    refine keepS (HM.picks [1, 2, 3] (by decide) rfl) (fun HS => ?_)
    refine any_all [2] (by kernel_rfl) rfl ?_
    refine all_cons ?_ all_nil
    refine any_op HF (i := 2) rfl rfl ?_
    refine e_alloc HF HM (cs := #[.int .i64 0, .int .i64 0]) rfl (by kernel_rfl) rfl (by decide) ?_
    clear HF HM; intro a w14 g14 HF HM
    refine keepS (HM.picks [2, 3, 4] (by decide) rfl) (fun HS => ?_)
    refine any_all [4] (by kernel_rfl) rfl ?_
    refine all_cons ?_ all_nil
    refine any_op HF (i := 4) rfl rfl ?_
    refine e_storeAll HF HM (i := 0) (cs := #[.int .i64 0, .int .i64 0]) (ds := b.based.cells) rfl rfl rfl rfl ⟨(by kernel_rfl), (by kernel_rfl)⟩ rfl rfl (bs_one b.based) rfl ?_
    clear HM; intro w6_4 HM
    refine keepS (HM.picks [2, 3, 4] (by decide) rfl) (fun HS => ?_)
    refine any_all [5] (by kernel_rfl) rfl ?_
    refine all_cons ?_ all_nil
    refine any_op HF (i := 5) rfl rfl ?_
    refine e_storeAll HF HM (i := 1) (cs := #[.int .i64 0, .int .i64 0, .int .u8 0, .int .u8 0, .int .i64 0, .int .i64 0, .int .i64 0, .int .i64 0, .int .i64 0, .int .u64 0, .int .i64 0]) (ds := e.cells) rfl rfl rfl rfl ⟨(by kernel_rfl), (by kernel_rfl)⟩ rfl rfl (ev_one e) rfl ?_
    clear HM; intro w6_5 HM
    refine noS (by kernel_rfl) ?_
    refine any_done (by kernel_rfl) ?_
    replace HF := HF.sub (σ' := [(14, .pointer (some ⟨g14, 0, none⟩)), (15, .pointer (some ⟨g15, 0, none⟩)), (13, .pointer (some ⟨g13, 0, none⟩)), (11, .pointer (some ⟨g11, 0, none⟩)), (23, .bool false), (10, .bool false), (5, .pointer (some ⟨g5, 0, none⟩)), (2, .int .i64 s), (3, .int .i64 t), (4, .int .u8 (c : Int))]) (by kernel_rfl)
    exact ⟨g14, g15, HF.sub (by kernel_rfl), HM.picks [1, 0, 2, 3, 4] (by decide) rfl⟩
  clear HF HM; rintro a w6 ⟨g14, g15, HF, HM⟩
  refine wp_seq ?_
  refine from_start ?_
  refine from_pures HF 1 0 (j := 1) [(37, .int .i64 s)] (by kernel_rfl) rfl ?_; clear HF; intro a HF
  refine from_op HF (i := 1) rfl rfl ?_
  refine e_call HF rfl (by kernel_rfl) (by kernel_rfl) rfl (by decide) (hps _) ?_
  rintro _ w38 ⟨rfl, rfl⟩
  refine ⟨_, rfl, ?_⟩
  replace HM := HM
  clear HF; intro a HF
  refine from_pures HF 1 2 (j := 3) [(39, .int .i64 t)] (by kernel_rfl) rfl ?_; clear HF; intro a HF
  refine from_op HF (i := 3) rfl rfl ?_
  refine e_call HF rfl (by kernel_rfl) (by kernel_rfl) rfl (by decide) (hpt _) ?_
  rintro _ w40 ⟨rfl, rfl⟩
  refine ⟨_, rfl, ?_⟩
  replace HM := HM
  clear HF; intro a HF
  refine from_pures HF 2 4 (j := 6) [(3, .int .i64 t1), (2, .int .i64 s1)] (by kernel_rfl) rfl ?_; clear HF; intro a HF
  refine from_done rfl ?_
  replace HF := HF.sub (σ' := [(3, .int .i64 t1), (2, .int .i64 s1), (15, .pointer (some ⟨g15, 0, none⟩)), (14, .pointer (some ⟨g14, 0, none⟩)), (13, .pointer (some ⟨g13, 0, none⟩)), (11, .pointer (some ⟨g11, 0, none⟩)), (23, .bool false), (10, .bool false), (5, .pointer (some ⟨g5, 0, none⟩)), (4, .int .u8 (c : Int))]) (by kernel_rfl)
  refine cut_seq (fun aS wS => Fr aS 111 [] [(3, .int .i64 t1), (2, .int .i64 s1), (15, .pointer (some ⟨g15, 0, none⟩)), (14, .pointer (some ⟨g14, 0, none⟩)), (13, .pointer (some ⟨g13, 0, none⟩)), (11, .pointer (some ⟨g11, 0, none⟩)), (23, .bool false), (10, .bool false), (5, .pointer (some ⟨g5, 0, none⟩)), (4, .int .u8 (c : Int))] ∧ Mem w wS [.blk g15 #[.int .i64 (e.seq + s1), .int .i64 (e.time + t1), .int .u8 (e.cpu : Int), .int .u8 (e.kind : Int), .int .i64 e.task, .int .i64 e.group, .int .i64 e.to, .int .i64 e.weight, .int .i64 e.ticks, .int .u64 (e.mask : Int), .int .i64 e.got] 37, .blk g14 #[.int .i64 (b.based.seq + s1), .int .i64 (b.based.time + t1)] 23, .blk g13 e.cells 37, .blk g11 b.based.cells 23, .blk g5 b.cells 23]) ?_ ?_
  ·
    refine any_start (by kernel_rfl) (fun wS => Mem w wS [.blk g15 e.cells 37, .blk g13 e.cells 37, .blk g11 b.based.cells 23, .blk g5 b.cells 23]) [21, 23] ?_
    replace HM := HM.drew
    have HS := HM.picks (fs' := [.blk g15 e.cells 37, .blk g13 e.cells 37, .blk g11 b.based.cells 23, .blk g5 b.cells 23]) [0, 2, 3, 4] (by decide) rfl
    refine any_pures HF (fun _ => HS) (fun _ _ d _ _ h => by cases d <;> exact h) [0, 2, 4, 6, 8, 10, 12, 14] #[true, false, true, false, true, false, true, false, true, false, true, false, true, false, true, false, false, false, false, false, false, false, false, false] [(55, .int .i64 t1), (53, .pointer (some ⟨g15, 1, none⟩)), (51, .int .i64 s1), (49, .pointer (some ⟨g15, 0, none⟩)), (47, .int .i64 t1), (45, .pointer (some ⟨g14, 1, none⟩)), (43, .int .i64 s1), (41, .pointer (some ⟨g14, 0, none⟩))] (by kernel_rfl) ?_; clear HF; intro a HF
    refine any_yl HF HS (i := 9) rfl rfl (d := 50) rfl (by decide) (by kernel_rfl) (fun _ _ _ h => h) (v := .int .i64 e.seq) (Yl.load1 rfl rfl (by kernel_rfl) (fun _ h => h.cell (i := 0) rfl rfl)) ?_; clear HF; intro a HF
    refine any_pure HF (fun _ => HS) (i := 11) rfl rfl (d := 52) rfl (by decide) (by kernel_rfl) (fun _ _ _ h => h) (v := .int .i64 (IntKind.i64.wrap (e.seq + s1))) (fun _ => Yl.pure (by kernel_rfl)) ?_; clear HF; intro a HF
    replace HF := HF.as (t := 52) (u := .int .i64 (e.seq + s1)) rfl (i64_as (by omega))
    refine any_yl HF HS (i := 13) rfl rfl (d := 54) rfl (by decide) (by kernel_rfl) (fun _ _ _ h => h) (v := .int .i64 e.time) (Yl.load1 rfl rfl (by kernel_rfl) (fun _ h => h.cell (i := 0) rfl rfl)) ?_; clear HF; intro a HF
    refine any_pure HF (fun _ => HS) (i := 15) rfl rfl (d := 56) rfl (by decide) (by kernel_rfl) (fun _ _ _ h => h) (v := .int .i64 (IntKind.i64.wrap (e.time + t1))) (fun _ => Yl.pure (by kernel_rfl)) ?_; clear HF; intro a HF
    replace HF := HF.as (t := 56) (u := .int .i64 (e.time + t1)) rfl (i64_as (by omega))
    refine any_all [1, 5] (by kernel_rfl) rfl ?_
    refine all_cons ?_ ?_
    · refine any_op HF (i := 1) rfl rfl ?_
      refine Yl.wp (S := fun wS => Mem w wS _) (v := .int .i64 b.based.seq) (Yl.load1 rfl rfl (by kernel_rfl) (fun _ h => h.cell (i := 1) rfl rfl)) HF HM rfl (by decide) ?_; clear HF; intro a HF
      refine keepS HS (fun HS => ?_)
      refine any_pure HF (fun _ => HS) (i := 3) rfl rfl (d := 44) rfl (by decide) (by kernel_rfl) (fun _ _ _ h => h) (v := .int .i64 (IntKind.i64.wrap (b.based.seq + s1))) (fun _ => Yl.pure (by kernel_rfl)) ?_; clear HF; intro a HF
      replace HF := HF.as (t := 44) (u := .int .i64 (b.based.seq + s1)) rfl (i64_as (by omega))
      refine any_all [5] (by kernel_rfl) rfl ?_
      refine all_cons ?_ all_nil
      refine any_op HF (i := 5) rfl rfl ?_
      refine Yl.wp (S := fun wS => Mem w wS _) (v := .int .i64 b.based.time) (Yl.load1 rfl rfl (by kernel_rfl) (fun _ h => h.cell (i := 1) rfl rfl)) HF HM rfl (by decide) ?_; clear HF; intro a HF
      refine keepS HS (fun HS => ?_)
      refine any_pures HF (fun _ => HS) (fun _ _ d _ _ h => by cases d <;> exact h) [16] #[true, true, true, true, true, true, true, false, true, true, true, true, true, true, true, true, true, false, false, false, false, false, false, false] [(57, .pointer (some ⟨g14, 0, none⟩))] (by kernel_rfl) ?_; clear HF; intro a HF
      refine any_pure HF (fun _ => HS) (i := 7) rfl rfl (d := 48) rfl (by decide) (by kernel_rfl) (fun _ _ _ h => h) (v := .int .i64 (IntKind.i64.wrap (b.based.time + t1))) (fun _ => Yl.pure (by kernel_rfl)) ?_; clear HF; intro a HF
      replace HF := HF.as (t := 48) (u := .int .i64 (b.based.time + t1)) rfl (i64_as (by omega))
      refine any_all [17] (by kernel_rfl) rfl ?_
      refine all_cons ?_ all_nil
      refine any_op HF (i := 17) rfl rfl ?_
      refine e_store HF HM (i := 1) (cs := b.based.cells) rfl rfl rfl rfl (by kernel_rfl) rfl rfl (by simp [Bs.cells]) ?_
      clear HM; intro w8_17 HM
      refine keepS (HM.picks [0, 2, 3, 4] (by decide) rfl) (fun HS => ?_)
      refine any_pures HF (fun _ => HS) (fun _ _ d _ _ h => by cases d <;> exact h) [18] #[true, true, true, true, true, true, true, true, true, true, true, true, true, true, true, true, true, true, true, false, false, false, false, false] [(58, .pointer (some ⟨g14, 1, none⟩))] (by kernel_rfl) ?_; clear HF; intro a HF
      refine any_all [19] (by kernel_rfl) rfl ?_
      refine all_cons ?_ all_nil
      refine any_op HF (i := 19) rfl rfl ?_
      refine e_store HF HM (i := 1) (cs := #[.int .i64 (b.based.seq + s1), .int .i64 b.based.time]) rfl rfl rfl rfl (by kernel_rfl) rfl rfl (by simp) ?_
      clear HM; intro w8_19 HM
      refine keepS (HM.picks [0, 2, 3, 4] (by decide) rfl) (fun HS => ?_)
      refine any_pures HF (fun _ => HS) (fun _ _ d _ _ h => by cases d <;> exact h) [20] #[true, true, true, true, true, true, true, true, true, true, true, true, true, true, true, true, true, true, true, true, true, false, false, false] [(59, .pointer (some ⟨g15, 0, none⟩))] (by kernel_rfl) ?_; clear HF; intro a HF
      refine any_all [21] (by kernel_rfl) rfl ?_
      refine all_cons ?_ all_nil
      refine any_op HF (i := 21) rfl rfl ?_
      refine e_store HF HM (i := 0) (cs := e.cells) rfl rfl rfl rfl (by kernel_rfl) rfl rfl (by simp [Ev.cells]) ?_
      clear HM; intro w8_21 HM
      refine noS (by kernel_rfl) ?_
      refine any_pures HF (pastS (by kernel_rfl)) (fun _ _ d _ _ h => by cases d <;> exact h) [22] #[true, true, true, true, true, true, true, true, true, true, true, true, true, true, true, true, true, true, true, true, true, true, true, false] [(60, .pointer (some ⟨g15, 1, none⟩))] (by kernel_rfl) ?_; clear HF; intro a HF
      refine any_all [23] (by kernel_rfl) rfl ?_
      refine all_cons ?_ all_nil
      refine any_op HF (i := 23) rfl rfl ?_
      refine e_store HF HM (i := 0) (cs := #[.int .i64 (e.seq + s1), .int .i64 e.time, .int .u8 (e.cpu : Int), .int .u8 (e.kind : Int), .int .i64 e.task, .int .i64 e.group, .int .i64 e.to, .int .i64 e.weight, .int .i64 e.ticks, .int .u64 (e.mask : Int), .int .i64 e.got]) rfl rfl rfl rfl (by kernel_rfl) rfl rfl (by simp) ?_
      clear HM; intro w8_23 HM
      refine noS (by kernel_rfl) ?_
      refine any_done (by kernel_rfl) ?_
      replace HF := HF.sub (σ' := [(3, .int .i64 t1), (2, .int .i64 s1), (15, .pointer (some ⟨g15, 0, none⟩)), (14, .pointer (some ⟨g14, 0, none⟩)), (13, .pointer (some ⟨g13, 0, none⟩)), (11, .pointer (some ⟨g11, 0, none⟩)), (23, .bool false), (10, .bool false), (5, .pointer (some ⟨g5, 0, none⟩)), (4, .int .u8 (c : Int))]) (by kernel_rfl)
      exact ⟨HF.sub (by kernel_rfl), HM.picks [0, 1, 2, 3, 4] (by decide) rfl⟩
    refine all_cons ?_ all_nil
    refine any_op HF (i := 5) rfl rfl ?_
    refine Yl.wp (S := fun wS => Mem w wS _) (v := .int .i64 b.based.time) (Yl.load1 rfl rfl (by kernel_rfl) (fun _ h => h.cell (i := 1) rfl rfl)) HF HM rfl (by decide) ?_; clear HF; intro a HF
    refine keepS HS (fun HS => ?_)
    refine any_pure HF (fun _ => HS) (i := 7) rfl rfl (d := 48) rfl (by decide) (by kernel_rfl) (fun _ _ _ h => h) (v := .int .i64 (IntKind.i64.wrap (b.based.time + t1))) (fun _ => Yl.pure (by kernel_rfl)) ?_; clear HF; intro a HF
    replace HF := HF.as (t := 48) (u := .int .i64 (b.based.time + t1)) rfl (i64_as (by omega))
    refine any_all [1] (by kernel_rfl) rfl ?_
    refine all_cons ?_ all_nil
    refine any_op HF (i := 1) rfl rfl ?_
    refine Yl.wp (S := fun wS => Mem w wS _) (v := .int .i64 b.based.seq) (Yl.load1 rfl rfl (by kernel_rfl) (fun _ h => h.cell (i := 1) rfl rfl)) HF HM rfl (by decide) ?_; clear HF; intro a HF
    refine keepS HS (fun HS => ?_)
    refine any_pure HF (fun _ => HS) (i := 3) rfl rfl (d := 44) rfl (by decide) (by kernel_rfl) (fun _ _ _ h => h) (v := .int .i64 (IntKind.i64.wrap (b.based.seq + s1))) (fun _ => Yl.pure (by kernel_rfl)) ?_; clear HF; intro a HF
    replace HF := HF.as (t := 44) (u := .int .i64 (b.based.seq + s1)) rfl (i64_as (by omega))
    refine any_pures HF (fun _ => HS) (fun _ _ d _ _ h => by cases d <;> exact h) [16] #[true, true, true, true, true, true, true, true, true, true, true, true, true, true, true, true, true, false, false, false, false, false, false, false] [(57, .pointer (some ⟨g14, 0, none⟩))] (by kernel_rfl) ?_; clear HF; intro a HF
    refine any_all [17] (by kernel_rfl) rfl ?_
    refine all_cons ?_ all_nil
    refine any_op HF (i := 17) rfl rfl ?_
    refine e_store HF HM (i := 1) (cs := b.based.cells) rfl rfl rfl rfl (by kernel_rfl) rfl rfl (by simp [Bs.cells]) ?_
    clear HM; intro w8_17 HM
    refine keepS (HM.picks [0, 2, 3, 4] (by decide) rfl) (fun HS => ?_)
    refine any_pures HF (fun _ => HS) (fun _ _ d _ _ h => by cases d <;> exact h) [18] #[true, true, true, true, true, true, true, true, true, true, true, true, true, true, true, true, true, true, true, false, false, false, false, false] [(58, .pointer (some ⟨g14, 1, none⟩))] (by kernel_rfl) ?_; clear HF; intro a HF
    refine any_all [19] (by kernel_rfl) rfl ?_
    refine all_cons ?_ all_nil
    refine any_op HF (i := 19) rfl rfl ?_
    refine e_store HF HM (i := 1) (cs := #[.int .i64 (b.based.seq + s1), .int .i64 b.based.time]) rfl rfl rfl rfl (by kernel_rfl) rfl rfl (by simp) ?_
    clear HM; intro w8_19 HM
    refine keepS (HM.picks [0, 2, 3, 4] (by decide) rfl) (fun HS => ?_)
    refine any_pures HF (fun _ => HS) (fun _ _ d _ _ h => by cases d <;> exact h) [20] #[true, true, true, true, true, true, true, true, true, true, true, true, true, true, true, true, true, true, true, true, true, false, false, false] [(59, .pointer (some ⟨g15, 0, none⟩))] (by kernel_rfl) ?_; clear HF; intro a HF
    refine any_all [21] (by kernel_rfl) rfl ?_
    refine all_cons ?_ all_nil
    refine any_op HF (i := 21) rfl rfl ?_
    refine e_store HF HM (i := 0) (cs := e.cells) rfl rfl rfl rfl (by kernel_rfl) rfl rfl (by simp [Ev.cells]) ?_
    clear HM; intro w8_21 HM
    refine noS (by kernel_rfl) ?_
    refine any_pures HF (pastS (by kernel_rfl)) (fun _ _ d _ _ h => by cases d <;> exact h) [22] #[true, true, true, true, true, true, true, true, true, true, true, true, true, true, true, true, true, true, true, true, true, true, true, false] [(60, .pointer (some ⟨g15, 1, none⟩))] (by kernel_rfl) ?_; clear HF; intro a HF
    refine any_all [23] (by kernel_rfl) rfl ?_
    refine all_cons ?_ all_nil
    refine any_op HF (i := 23) rfl rfl ?_
    refine e_store HF HM (i := 0) (cs := #[.int .i64 (e.seq + s1), .int .i64 e.time, .int .u8 (e.cpu : Int), .int .u8 (e.kind : Int), .int .i64 e.task, .int .i64 e.group, .int .i64 e.to, .int .i64 e.weight, .int .i64 e.ticks, .int .u64 (e.mask : Int), .int .i64 e.got]) rfl rfl rfl rfl (by kernel_rfl) rfl rfl (by simp) ?_
    clear HM; intro w8_23 HM
    refine noS (by kernel_rfl) ?_
    refine any_done (by kernel_rfl) ?_
    replace HF := HF.sub (σ' := [(3, .int .i64 t1), (2, .int .i64 s1), (15, .pointer (some ⟨g15, 0, none⟩)), (14, .pointer (some ⟨g14, 0, none⟩)), (13, .pointer (some ⟨g13, 0, none⟩)), (11, .pointer (some ⟨g11, 0, none⟩)), (23, .bool false), (10, .bool false), (5, .pointer (some ⟨g5, 0, none⟩)), (4, .int .u8 (c : Int))]) (by kernel_rfl)
    exact ⟨HF.sub (by kernel_rfl), HM.picks [0, 1, 2, 3, 4] (by decide) rfl⟩
  clear HF HM; rintro a w8 ⟨HF, HM⟩
  refine wp_seq ?_
  refine from_start ?_
  refine from_yl (S := fun wS => Mem w wS _) HF HM (i := 0) rfl rfl (d := 62) rfl (by decide) (v := .agg b.based.cells) (Yl.loadS rfl rfl ⟨(by kernel_rfl), (by kernel_rfl)⟩ rfl (fun _ h => range_of_block (h.blk (i := 3) rfl))) ?_; clear HF; intro a HF
  refine from_yl (S := fun wS => Mem w wS _) HF HM (i := 1) rfl rfl (d := 63) rfl (by decide) (v := .agg e.cells) (Yl.loadS rfl rfl ⟨(by kernel_rfl), (by kernel_rfl)⟩ rfl (fun _ h => range_of_block (h.blk (i := 2) rfl))) ?_; clear HF; intro a HF
  refine from_op HF (i := 2) rfl rfl ?_
  refine e_call HF rfl (by kernel_rfl) (by kernel_rfl) rfl (by decide) (put_is b.based e SF.eok B _ (hL.mem HM hB) (HM.le hB) (SF.put1) (rfl)) ?_
  rintro _ w64 ⟨⟨A64, c64, rfl, ho, hc64⟩, hbw⟩
  refine ⟨_, rfl, ?_⟩
  replace HM := HM.callRow hbw ho
  clear HF; intro a HF
  refine from_pures HF 5 3 (j := 8) [(17, .int .i64 0), (16, .slice A64 (((putOut b.based e)).length) c64), (66, .int .i64 0), (65, .slice A64 (((putOut b.based e)).length) c64), (61, .tuple #[.slice A64 (((putOut b.based e)).length) c64, .int .i64 0])] (by kernel_rfl) rfl ?_; clear HF; intro a HF
  refine from_done rfl ?_
  replace HF := HF.sub (σ' := [(17, .int .i64 0), (16, .slice A64 (((putOut b.based e)).length) c64), (3, .int .i64 t1), (2, .int .i64 s1), (15, .pointer (some ⟨g15, 0, none⟩)), (14, .pointer (some ⟨g14, 0, none⟩)), (13, .pointer (some ⟨g13, 0, none⟩)), (11, .pointer (some ⟨g11, 0, none⟩)), (23, .bool false), (10, .bool false), (5, .pointer (some ⟨g5, 0, none⟩)), (4, .int .u8 (c : Int))]) (by kernel_rfl)
  refine wp_seq ?_
  refine from_start ?_
  refine from_yl (S := fun wS => Mem w wS _) HF HM (i := 0) rfl rfl (d := 68) rfl (by decide) (v := .agg #[.int .i64 (b.based.seq + s1), .int .i64 (b.based.time + t1)]) (Yl.loadS rfl rfl ⟨(by kernel_rfl), (by kernel_rfl)⟩ rfl (fun _ h => range_of_block (h.blk (i := 2) rfl))) ?_; clear HF; intro a HF
  refine from_yl (S := fun wS => Mem w wS _) HF HM (i := 1) rfl rfl (d := 69) rfl (by decide) (v := .agg #[.int .i64 (e.seq + s1), .int .i64 (e.time + t1), .int .u8 (e.cpu : Int), .int .u8 (e.kind : Int), .int .i64 e.task, .int .i64 e.group, .int .i64 e.to, .int .i64 e.weight, .int .i64 e.ticks, .int .u64 (e.mask : Int), .int .i64 e.got]) (Yl.loadS rfl rfl ⟨(by kernel_rfl), (by kernel_rfl)⟩ rfl (fun _ h => range_of_block (h.blk (i := 1) rfl))) ?_; clear HF; intro a HF
  refine from_op HF (i := 2) rfl rfl ?_
  refine e_call HF rfl (by kernel_rfl) (by kernel_rfl) rfl (by decide) (put_is ⟨b.based.seq + s1, b.based.time + t1⟩ (e.to3 (e.seq + s1) (e.time + t1) e.cpu) (to3_ok SF.eok ⟨by omega, by omega⟩ ⟨by omega, by omega⟩ SF.eok.cpu) B _ (hL.mem HM hB) (HM.le hB) (SF.put2) (SF.same2)) ?_
  rintro _ w70 ⟨⟨A70, c70, rfl, ho, hc70⟩, hbw⟩
  refine ⟨_, rfl, ?_⟩
  replace HM := HM.callRow hbw ho
  clear HF; intro a HF
  refine from_pures HF 5 3 (j := 8) [(19, .int .i64 0), (18, .slice A70 (((putOut b.based e)).length) c70), (72, .int .i64 0), (71, .slice A70 (((putOut b.based e)).length) c70), (67, .tuple #[.slice A70 (((putOut b.based e)).length) c70, .int .i64 0])] (by kernel_rfl) rfl ?_; clear HF; intro a HF
  refine from_done rfl ?_
  replace HF := HF.sub (σ' := [(19, .int .i64 0), (18, .slice A70 (((putOut b.based e)).length) c70), (17, .int .i64 0), (16, .slice A64 (((putOut b.based e)).length) c64), (3, .int .i64 t1), (2, .int .i64 s1), (15, .pointer (some ⟨g15, 0, none⟩)), (14, .pointer (some ⟨g14, 0, none⟩)), (13, .pointer (some ⟨g13, 0, none⟩)), (11, .pointer (some ⟨g11, 0, none⟩)), (23, .bool false), (10, .bool false), (5, .pointer (some ⟨g5, 0, none⟩)), (4, .int .u8 (c : Int))]) (by kernel_rfl)
  refine wp_seq ?_
  refine wp_seq ?_
  refine from_start ?_
  refine from_pures HF 6 0 (j := 6) [(78, .slice A64 (((putOut b.based e)).length) c64), (77, .bool false), (76, .bool false), (75, .int .i64 0), (74, .int .i64 0), (73, .int .i64 0)] (by kernel_rfl) rfl ?_; clear HF; intro a HF
  refine from_yl (S := fun wS => Mem w wS _) HF HM (i := 6) rfl rfl (d := 79) rfl (by decide) (v := .string (bstr (putOut b.based e))) (Yl.str rfl rfl (fun _ h => h.rd (i := 1) rfl)) ?_; clear HF; intro a HF
  refine from_pures HF 1 7 (j := 8) [(80, .slice A70 (((putOut b.based e)).length) c70)] (by kernel_rfl) rfl ?_; clear HF; intro a HF
  refine from_yl (S := fun wS => Mem w wS _) HF HM (i := 8) rfl rfl (d := 81) rfl (by decide) (v := .string (bstr (putOut b.based e))) (Yl.str rfl rfl (fun _ h => h.rd (i := 0) rfl)) ?_; clear HF; intro a HF
  refine from_pures HF 1 9 (j := 10) [(82, .bool (!(((bstr (putOut b.based e))).toList == ((bstr (putOut b.based e))).toList)))] (by kernel_rfl) rfl ?_; clear HF; intro a HF
  replace HF := HF.as (t := 82) (u := .bool false) rfl (by simp)
  refine from_pures HF 1 10 (j := 11) [(83, .bool false)] (by kernel_rfl) rfl ?_; clear HF; intro a HF
  refine from_done rfl ?_
  replace HF := HF.sub (σ' := [(83, .bool false), (16, .slice A64 (((putOut b.based e)).length) c64), (3, .int .i64 t1), (2, .int .i64 s1), (15, .pointer (some ⟨g15, 0, none⟩)), (14, .pointer (some ⟨g14, 0, none⟩)), (13, .pointer (some ⟨g13, 0, none⟩)), (11, .pointer (some ⟨g11, 0, none⟩)), (23, .bool false), (10, .bool false), (5, .pointer (some ⟨g5, 0, none⟩)), (4, .int .u8 (c : Int))]) (by kernel_rfl)
  replace HM := HM.picks (fs' := [.row (.slice A64 (((putOut b.based e)).length) c64) (((putOut b.based e)).length) (((putOut b.based e)).map B8) 5 1, .blk g15 #[.int .i64 (e.seq + s1), .int .i64 (e.time + t1), .int .u8 (e.cpu : Int), .int .u8 (e.kind : Int), .int .i64 e.task, .int .i64 e.group, .int .i64 e.to, .int .i64 e.weight, .int .i64 e.ticks, .int .u64 (e.mask : Int), .int .i64 e.got] 37, .blk g14 #[.int .i64 (b.based.seq + s1), .int .i64 (b.based.time + t1)] 23, .blk g13 e.cells 37, .blk g11 b.based.cells 23, .blk g5 b.cells 23]) [1, 2, 3, 4, 5, 6] (by decide) rfl
  refine cond_false HF rfl ?_
  refine wp_skip ?_
  refine wp_seq ?_
  refine from_start ?_
  refine from_pures HF 2 0 (j := 2) [(85, .pointer (some ⟨g15, 2, none⟩)), (84, .int .u8 (c : Int))] (by kernel_rfl) rfl ?_; clear HF; intro a HF
  refine from_op HF (i := 2) rfl rfl ?_
  refine e_store HF HM (i := 1) (cs := #[.int .i64 (e.seq + s1), .int .i64 (e.time + t1), .int .u8 (e.cpu : Int), .int .u8 (e.kind : Int), .int .i64 e.task, .int .i64 e.group, .int .i64 e.to, .int .i64 e.weight, .int .i64 e.ticks, .int .u64 (e.mask : Int), .int .i64 e.got]) rfl rfl rfl rfl (by kernel_rfl) rfl rfl (by simp) ?_
  clear HM; intro w13_2 HM
  refine from_done rfl ?_
  replace HF := HF.sub (σ' := [(83, .bool false), (16, .slice A64 (((putOut b.based e)).length) c64), (3, .int .i64 t1), (2, .int .i64 s1), (15, .pointer (some ⟨g15, 0, none⟩)), (14, .pointer (some ⟨g14, 0, none⟩)), (13, .pointer (some ⟨g13, 0, none⟩)), (11, .pointer (some ⟨g11, 0, none⟩)), (23, .bool false), (10, .bool false), (5, .pointer (some ⟨g5, 0, none⟩))]) (by kernel_rfl)
  refine wp_seq ?_
  refine from_start ?_
  refine from_yl (S := fun wS => Mem w wS _) HF HM (i := 0) rfl rfl (d := 87) rfl (by decide) (v := .agg #[.int .i64 (b.based.seq + s1), .int .i64 (b.based.time + t1)]) (Yl.loadS rfl rfl ⟨(by kernel_rfl), (by kernel_rfl)⟩ rfl (fun _ h => range_of_block (h.blk (i := 2) rfl))) ?_; clear HF; intro a HF
  refine from_yl (S := fun wS => Mem w wS _) HF HM (i := 1) rfl rfl (d := 88) rfl (by decide) (v := .agg #[.int .i64 (e.seq + s1), .int .i64 (e.time + t1), .int .u8 (c : Int), .int .u8 (e.kind : Int), .int .i64 e.task, .int .i64 e.group, .int .i64 e.to, .int .i64 e.weight, .int .i64 e.ticks, .int .u64 (e.mask : Int), .int .i64 e.got]) (Yl.loadS rfl rfl ⟨(by kernel_rfl), (by kernel_rfl)⟩ rfl (fun _ h => range_of_block (h.blk (i := 1) rfl))) ?_; clear HF; intro a HF
  refine from_op HF (i := 2) rfl rfl ?_
  refine e_call HF rfl (by kernel_rfl) (by kernel_rfl) rfl (by decide) (put_is ⟨b.based.seq + s1, b.based.time + t1⟩ (e.to3 (e.seq + s1) (e.time + t1) c) (to3_ok SF.eok ⟨by omega, by omega⟩ ⟨by omega, by omega⟩ hc) B _ (hL.mem HM hB) (HM.le hB) (h3.2) (rfl)) ?_
  rintro _ w89 ⟨⟨A89, c89, rfl, ho, hc89⟩, hbw⟩
  refine ⟨_, rfl, ?_⟩
  replace HM := HM.callRow hbw ho
  clear HF; intro a HF
  refine from_pures HF 5 3 (j := 8) [(21, .int .i64 ((e.to3 (e.seq + s1) (e.time + t1) c).check : Nat)), (20, .slice A89 (((putOut ⟨b.based.seq + s1, b.based.time + t1⟩ (e.to3 (e.seq + s1) (e.time + t1) c))).length) c89), (91, .int .i64 ((e.to3 (e.seq + s1) (e.time + t1) c).check : Nat)), (90, .slice A89 (((putOut ⟨b.based.seq + s1, b.based.time + t1⟩ (e.to3 (e.seq + s1) (e.time + t1) c))).length) c89), (86, .tuple #[.slice A89 (((putOut ⟨b.based.seq + s1, b.based.time + t1⟩ (e.to3 (e.seq + s1) (e.time + t1) c))).length) c89, .int .i64 ((e.to3 (e.seq + s1) (e.time + t1) c).check : Nat)])] (by kernel_rfl) rfl ?_; clear HF; intro a HF
  refine from_done rfl ?_
  replace HF := HF.sub (σ' := [(21, .int .i64 ((e.to3 (e.seq + s1) (e.time + t1) c).check : Nat)), (20, .slice A89 (((putOut ⟨b.based.seq + s1, b.based.time + t1⟩ (e.to3 (e.seq + s1) (e.time + t1) c))).length) c89), (83, .bool false), (16, .slice A64 (((putOut b.based e)).length) c64), (3, .int .i64 t1), (2, .int .i64 s1), (15, .pointer (some ⟨g15, 0, none⟩)), (14, .pointer (some ⟨g14, 0, none⟩)), (13, .pointer (some ⟨g13, 0, none⟩)), (11, .pointer (some ⟨g11, 0, none⟩)), (23, .bool false), (10, .bool false), (5, .pointer (some ⟨g5, 0, none⟩))]) (by kernel_rfl)
  refine wp_seq ?_
  refine from_start ?_
  refine from_pures HF 2 0 (j := 2) [(93, .bool ((((e.to3 (e.seq + s1) (e.time + t1) c).check : Nat) : Int) != (0 : Int))), (92, .int .i64 ((e.to3 (e.seq + s1) (e.time + t1) c).check : Nat))] (by kernel_rfl) rfl ?_; clear HF; intro a HF
  replace HF := HF.as (t := 93) (u := .bool true) rfl (by rw [h3n])
  refine from_pures HF 1 2 (j := 3) [(94, .bool true)] (by kernel_rfl) rfl ?_; clear HF; intro a HF
  refine from_yl (S := fun wS => Mem w wS _) HF HM (i := 3) rfl rfl (d := 95) rfl (by decide) (v := .agg #[.int .i64 (e.seq + s1), .int .i64 (e.time + t1), .int .u8 (c : Int), .int .u8 (e.kind : Int), .int .i64 e.task, .int .i64 e.group, .int .i64 e.to, .int .i64 e.weight, .int .i64 e.ticks, .int .u64 (e.mask : Int), .int .i64 e.got]) (Yl.loadS rfl rfl ⟨(by kernel_rfl), (by kernel_rfl)⟩ rfl (fun _ h => range_of_block (h.blk (i := 2) rfl))) ?_; clear HF; intro a HF
  refine from_op HF (i := 4) rfl rfl ?_
  refine e_call HF rfl (by kernel_rfl) (by kernel_rfl) rfl (by decide) (check_any (e.to3 (e.seq + s1) (e.time + t1) c) (to3_ok SF.eok ⟨by omega, by omega⟩ ⟨by omega, by omega⟩ hc) B _ (hL.mem HM hB) (HM.le hB)) ?_
  rintro _ w96 ⟨rfl, hbw⟩
  refine ⟨_, rfl, ?_⟩
  replace HM := HM.call hbw
  clear HF; intro a HF
  refine from_pures HF 2 5 (j := 7) [(98, .bool (((((e.to3 (e.seq + s1) (e.time + t1) c).check : Nat) : Int) : Int) == (((e.to3 (e.seq + s1) (e.time + t1) c).check : Nat) : Int))), (97, .int .i64 ((e.to3 (e.seq + s1) (e.time + t1) c).check : Nat))] (by kernel_rfl) rfl ?_; clear HF; intro a HF
  replace HF := HF.as (t := 98) (u := .bool true) rfl (by rw [beq_self_eq_true])
  refine from_pures HF 13 7 (j := 20) [(10, .bool true), (110, .bool true), (109, undef), (108, undef), (107, undef), (106, undef), (105, undef), (104, undef), (103, undef), (102, undef), (101, undef), (100, .bool true), (99, .bool true)] (by kernel_rfl) rfl ?_; clear HF; intro a HF
  refine from_done rfl ?_
  replace HF := HF.sub (σ' := [(10, .bool true), (83, .bool false), (16, .slice A64 (((putOut b.based e)).length) c64), (3, .int .i64 t1), (2, .int .i64 s1), (15, .pointer (some ⟨g15, 0, none⟩)), (14, .pointer (some ⟨g14, 0, none⟩)), (13, .pointer (some ⟨g13, 0, none⟩)), (11, .pointer (some ⟨g11, 0, none⟩)), (23, .bool false), (5, .pointer (some ⟨g5, 0, none⟩))]) (by kernel_rfl)
  replace HM := HM.picks (fs' := [.row (.slice A64 (((putOut b.based e)).length) c64) (((putOut b.based e)).length) (((putOut b.based e)).map B8) 5 1, .blk g15 #[.int .i64 (e.seq + s1), .int .i64 (e.time + t1), .int .u8 (c : Int), .int .u8 (e.kind : Int), .int .i64 e.task, .int .i64 e.group, .int .i64 e.to, .int .i64 e.weight, .int .i64 e.ticks, .int .u64 (e.mask : Int), .int .i64 e.got] 37, .blk g14 #[.int .i64 (b.based.seq + s1), .int .i64 (b.based.time + t1)] 23, .blk g13 e.cells 37, .blk g11 b.based.cells 23, .blk g5 b.cells 23]) [1, 2, 3, 4, 5, 6] (by decide) rfl
  refine wp_ret ?_
  exact ret1 rfl HF (.tmp HF rfl) (⟨rfl, HM.below⟩)

theorem shifts_any (b : Bs) (hb : b.Ok) (x : Sm) (hx : x.Ok) (s t : Int) (hs : I64 s) (ht : I64 t) (c : Nat) (hc : c < 256) (B : Nat) (w : World) (hL : Laid B w) (hB : B ≤ w.heap.size) :
    Calls Tryd.prog 6 #[.agg b.cells, .agg x.cells, .int .i64 s, .int .i64 t, .int .u8 (c : Int)] w (TruePost w) := by
  obtain ⟨p1, p2, p3⟩ := pick40 s
  obtain ⟨p4, p5, p6⟩ := pick40 t
  obtain ⟨e, SF⟩ := shift_facts b hx (s := s % 1099511627776) (t := t % 1099511627776) ⟨p2, p3⟩ ⟨p5, p6⟩ c
  have hps := fun w => pick_any s 1099511627776 hs ⟨by decide, by decide⟩ w
  have hpt := fun w => pick_any t 1099511627776 ht ⟨by decide, by decide⟩ w
  rw [p1] at hps
  rw [p4] at hpt
  rcases SF.put3 with h3 | h3
  · exact shifts_bad b hb x hx s t c hc e _ _ SF ⟨p2, p3⟩ ⟨p5, p6⟩ hps hpt h3 B w hL hB
  · exact shifts_good b hb x hx s t c hc e _ _ SF ⟨p2, p3⟩ ⟨p5, p6⟩ hps hpt h3 B w hL hB
end Go.Proofs.YtpekelggcmgnnaaDoor
