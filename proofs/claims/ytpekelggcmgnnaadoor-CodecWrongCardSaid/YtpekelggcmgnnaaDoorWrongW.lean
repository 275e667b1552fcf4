/- quantumlaw07.CodecWrong answers true: the walks, one for each change. -/
import Derived.Test.YtpekelggcmgnnaaDoorEvEq
import Derived.Test.YtpekelggcmgnnaaDoorWrongP
import Derived.Test.YtpekelggcmgnnaaDoorMade7
import Derived.Test.YtpekelggcmgnnaaDoorOne
namespace Go.Proofs.YtpekelggcmgnnaaDoor
open Go.RowKit
def sm1 : Sm := ⟨1, 0, 0, 0, 0, 0, 0, 0, 0, 0, 0⟩
def sm2 : Sm := ⟨2, 0, 0, 0, 0, 0, 0, 0, 0, 0, 0⟩
theorem ei_base : EI Tryd.prog 51 23 (.agg #[.int .i64 0, .int .i64 0]) 2 16 := ⟨by kernel_rfl, by kernel_rfl, rfl, by omega⟩
set_option maxRecDepth 100000 in
set_option maxHeartbeats 8000000 in
theorem wrong_walk (cpu : Nat) (hcpu : cpu < 256) (b : Bs) (hb : b.Ok) (A : Option Addr) (n0 c0 : Nat) (l : List Sm) (way : Nat) (n : Int) (M p k1 k c2 r : Nat) (es : List Ev) (e0 e ep : Ev) (he0 : e0.Ok)
    (hM1 : (if (50 : Int) < (n0 : Int) then (50 : Int) else (n0 : Int)) = (M : Int)) (hM2 : M ≤ 50) (hM3 : M ≤ n0) (hc0 : n0 ≤ c0) (hlm : ∀ x ∈ l.take M ++ [sm1, sm2], x.Ok) (hsml : (l.take M ++ [sm1, sm2]).flatMap smL = (l.take M).flatMap smL ++ (sm1.cells.toList ++ sm2.cells.toList))
    (hAM : A = none → M = 0 ∧ M = 0) (hes : madeL cpu b (l.take M ++ [sm1, sm2]) = es) (hok : ∀ e ∈ es, e.Ok) (hesl : es.length ≤ 200) (hes2 : 2 ≤ es.length) (h00 : es[0]? = some e0) (h01 : (es.set k (e.to3 1 e.time e.cpu))[0]? = some e0) (hkp : es[k - 1]? = some ep) (hke : es[k]? = some e) (hks : (es.set k (e.to3 1 e.time e.cpu))[k]? = some (e.to3 1 e.time e.cpu))
    (hb0 : -1000000000000000 ≤ e0.seq ∧ e0.seq ≤ 1000000000000000 ∧ -1000000000000000 ≤ e0.time ∧ e0.time ≤ 1000000000000000) (bads : List Bs) (hbads : #[.int .i64 (if (0 : Int) < n then 0 else n), .int .i64 b.based.time, .int .i64 (if (281474976710657 : Int) > n then 281474976710657 else n), .int .i64 b.based.time, .int .i64 b.based.seq, .int .i64 (if (-1 : Int) < n then -1 else n), .int .i64 b.based.seq, .int .i64 (if (281474976710657 : Int) > n then 281474976710657 else n), .int .i64 (e0.seq + 1), .int .i64 0, .int .i64 1, .int .i64 (e0.time + 1)].toList = bads.flatMap fun b => b.cells.toList)
    (hbad : ∀ j, j < 6 → ∃ bk, bads[j]? = some bk ∧ putErr bk e0 = 70 ∧ writeErr bk es = 70 ∧ writeOut bk es = [] ∧ putOut bk e0 = []) (hnm : I64 (if (-1 : Int) < (n : Int) then -1 else n)) (hread2 : readR ⟨0, 0⟩ cpu (if (-1 : Int) < (n : Int) then -1 else n) [] = ([], 0, 2))
    (hp245 : ∀ w, Calls Tryd.prog 17 #[.int .i64 n, .int .i64 245] w fun e w' => e = .returned (.int .i64 (p : Int)) ∧ w' = w) (hpk : ∀ w, Calls Tryd.prog 17 #[.int .i64 n, .int .i64 ((es.length - 1 : Nat) : Int)] w fun e w' => e = .returned (.int .i64 (k1 : Int)) ∧ w' = w)
    (hp5 : p < 245) (hk1 : k = 1 + k1) (hkl : k < es.length) (hp4 : ∀ x ∈ [11 + p, 0, 0, 1], x < 256) (htk : takeR b.based cpu [11 + p, 0, 0, 1] = (Ev.zero, 0, 60)) (hw8 : IntKind.u8.wrap ((11 + p : Nat) : Int) = ((11 + p : Nat) : Int)) (hway : Int.tmod (way : Int) 6 = (r : Int)) (hr6 : r < 6)
    (hcw : IntKind.u8.wrap ((e.cpu : Int) + 1) = ((e.cpu + 1 : Nat) : Int)) (hc2t : Int.tmod ((e.cpu + 1 : Nat) : Int) 64 = (c2 : Int)) (hx0 : r = 0 → WrongAt b.based es k (e.to3 ep.seq e.time e.cpu) 71) (hx2 : r = 2 → WrongAt b.based es k (pickEv e.seq e.time c2 0) 71) (hx3 : r = 3 → WrongAt b.based es k e.noKind 60) (hx4 : r = 4 → WrongAt b.based es k (e.to3 0 e.time e.cpu) 61) (hx5 : r = 5 → WrongAt b.based es k (pickEv e.seq e.time e.cpu 1) 62) (hx1a : r = 1 → 1 < k → WrongAt b.based es k (e.to3 1 e.time e.cpu) 71) (hx1b : r = 1 → k = 1 → WrongAt b.based es k (e.to3 e0.seq e.time e.cpu) 71)
    (B : Nat) (w : World) (hL : Laid B w) (hB : B ≤ w.heap.size) (hrM : Rd w w.heap.size 11 A M ((l.take M).flatMap smL)) :
    Calls Tryd.prog 7 #[.int .u8 (cpu : Int), .agg b.cells, .slice A n0 c0, .int .u8 (way : Int), .int .i64 n] w (TruePost w) := by
  refine calls_enter (vs := [.int .u8 (cpu : Int), .agg b.cells, .slice A n0 c0, .int .u8 (way : Int), .int .i64 n]) Tryd.func7 rfl rfl (by kernel_rfl) (σ0 := [(0, .int .u8 (cpu : Int)), (1, .agg b.cells), (2, .slice A n0 c0), (3, .int .u8 (way : Int)), (4, .int .i64 n)]) rfl ?_
  intro a HF
  have HM := Mem.start w
  refine wp_seq ?_
  refine from_start ?_
  refine from_op HF (i := 0) rfl rfl ?_
  refine e_box HF HM (cs := b.cells) rfl rfl rfl rfl (by decide) ?_
  clear HF HM; intro a w6 g6 HF HM
  refine from_pures HF 1 1 (j := 2) [(10, .bool false)] (by kernel_rfl) rfl ?_; clear HF; intro a HF
  refine from_done rfl ?_
  replace HF := HF.sub (σ' := [(10, .bool false), (6, .pointer (some ⟨g6, 0, none⟩)), (0, .int .u8 (cpu : Int)), (2, .slice A n0 c0), (3, .int .u8 (way : Int)), (4, .int .i64 n)]) (by kernel_rfl)
  refine wp_seq ?_
  refine wp_seq ?_
  refine from_start ?_
  refine from_op HF (i := 0) rfl rfl ?_
  refine e_call HF (vs := []) rfl (by kernel_rfl) (by kernel_rfl) rfl (by decide) (awake_any B _ (hL.mem HM hB) (HM.le hB)) ?_
  rintro _ w37 ⟨rfl, hbw⟩
  refine ⟨_, rfl, ?_⟩
  replace HM := HM.call hbw
  clear HF; intro a HF
  refine from_pures HF 1 1 (j := 2) [(38, .bool false)] (by kernel_rfl) rfl ?_; clear HF; intro a HF
  refine from_done rfl ?_
  replace HF := HF.sub (σ' := [(38, .bool false), (10, .bool false), (6, .pointer (some ⟨g6, 0, none⟩)), (0, .int .u8 (cpu : Int)), (2, .slice A n0 c0), (3, .int .u8 (way : Int)), (4, .int .i64 n)]) (by kernel_rfl)
  refine cond_false HF rfl ?_
  refine wp_skip ?_
  refine cut_seq (fun aS wS => ∃ (g51 : Nat) (g52 : Nat) (c52 : Nat) (gr : Nat) (cr : Nat) (g12 : Nat), Fr aS 283 [] [(11, .slice (some ⟨gr, 0, none⟩) es.length cr), (12, .pointer (some ⟨g12, 0, none⟩)), (38, .bool false), (10, .bool false), (0, .int .u8 (cpu : Int)), (3, .int .u8 (way : Int)), (4, .int .i64 n)] ∧ Mem w wS [.blk g12 b.based.cells 23, .row (.slice (some ⟨gr, 0, none⟩) es.length cr) es.length (es.flatMap evL) 37 11] ∧ M + 2 ≤ c52 ∧ es.length ≤ cr) ?_ ?_
  ·
    refine any_start (by kernel_rfl) (fun wS => Mem w wS [.blk g6 b.cells 23]) [19] ?_
    replace HM := HM.drew
    have HS := HM.picks (fs' := [.blk g6 b.cells 23]) [0] (by decide) rfl
    refine any_pures HF (fun _ => HS) (fun _ _ d _ _ h => by cases d <;> exact h) [0, 2, 3, 6] #[true, false, true, true, false, false, true, false, false, false, false, false, false, false, false, false, false, false, false, false] [(45, .slice A n0 c0), (42, .slice A n0 c0), (41, .slice A n0 c0), (39, .int .u8 (cpu : Int))] (by kernel_rfl) ?_; clear HF; intro a HF
    refine any_yl HF HS (i := 1) rfl rfl (d := 40) rfl (by decide) (by kernel_rfl) (fun _ _ _ h => h) (v := .agg b.cells) (Yl.loadS rfl rfl ⟨(by kernel_rfl), (by kernel_rfl)⟩ rfl (fun _ h => range_of_block (h.blk (i := 0) rfl))) ?_; clear HF; intro a HF
    refine any_yl HF HS (i := 4) rfl rfl (d := 43) rfl (by decide) (by kernel_rfl) (fun _ _ _ h => h) (v := .int .i64 ((n0 : Nat) : Int)) (Yl.len rfl rfl (by kernel_rfl)) ?_; clear HF; intro a HF
    refine any_yl HF HS (i := 5) rfl rfl (d := 44) rfl (by decide) (by kernel_rfl) (fun _ _ _ h => h) (v := .int .i64 (if (50 : Int) < (((n0 : Nat) : Int) : Int) then 50 else ((n0 : Nat) : Int))) (Yl.min rfl rfl rfl) ?_; clear HF; intro a HF
    replace HF := HF.as (t := 44) (u := .int .i64 (M : Int)) rfl (by rw [hM1])
    refine any_yl HF HS (i := 7) rfl rfl (d := 46) rfl (by decide) (by kernel_rfl) (fun _ _ _ h => h) (v := .int .i64 ((n0 : Nat) : Int)) (Yl.len rfl rfl (by kernel_rfl)) ?_; clear HF; intro a HF
    refine any_yl HF HS (i := 8) rfl rfl (d := 47) rfl (by decide) (by kernel_rfl) (fun _ _ _ h => h) (v := .int .i64 (if (50 : Int) < (((n0 : Nat) : Int) : Int) then 50 else ((n0 : Nat) : Int))) (Yl.min rfl rfl rfl) ?_; clear HF; intro a HF
    replace HF := HF.as (t := 47) (u := .int .i64 (M : Int)) rfl (by rw [hM1])
    refine any_yl HF HS (i := 9) rfl rfl (d := 48) rfl (by decide) (by kernel_rfl) (fun _ _ _ h => h) (v := .slice A M M) (Yl.slice3 ei_sm rfl rfl rfl rfl (Nat.le_refl _) (by omega)) ?_; clear HF; intro a HF
    refine any_yl HF HS (i := 10) rfl rfl (d := 49) rfl (by decide) (by kernel_rfl) (fun _ _ _ h => h) (v := .agg #[.int .u8 1, .int .u8 0, .int .u32 0, .int .u32 0, .int .u32 0, .int .u32 0, .int .u32 0, .int .u32 0, .int .u32 0, .int .u32 0, .int .u64 0]) (Yl.build (vs := [(0, .int .u8 1)]) rfl (by kernel_rfl) (by kernel_rfl)) ?_; clear HF; intro a HF
    refine any_yl HF HS (i := 11) rfl rfl (d := 50) rfl (by decide) (by kernel_rfl) (fun _ _ _ h => h) (v := .agg #[.int .u8 2, .int .u8 0, .int .u32 0, .int .u32 0, .int .u32 0, .int .u32 0, .int .u32 0, .int .u32 0, .int .u32 0, .int .u32 0, .int .u64 0]) (Yl.build (vs := [(0, .int .u8 2)]) rfl (by kernel_rfl) (by kernel_rfl)) ?_; clear HF; intro a HF
    refine any_yl HF HS (i := 15) rfl rfl (d := 54) rfl (by decide) (by kernel_rfl) (fun _ _ _ h => h) (v := .agg b.cells) (Yl.loadS rfl rfl ⟨(by kernel_rfl), (by kernel_rfl)⟩ rfl (fun _ h => range_of_block (h.blk (i := 0) rfl))) ?_; clear HF; intro a HF
    refine any_all [12, 17] (by kernel_rfl) rfl ?_
    refine all_cons ?_ ?_
    · refine any_op HF (i := 12) rfl rfl ?_
      refine e_slice HF HM (vs := [(0, .agg #[.int .u8 1, .int .u8 0, .int .u32 0, .int .u32 0, .int .u32 0, .int .u32 0, .int .u32 0, .int .u32 0, .int .u32 0, .int .u32 0, .int .u64 0]), (1, .agg #[.int .u8 2, .int .u8 0, .int .u32 0, .int .u32 0, .int .u32 0, .int .u32 0, .int .u32 0, .int .u32 0, .int .u32 0, .int .u32 0, .int .u64 0])]) (cs := #[.int .u8 1, .int .u8 0, .int .u32 0, .int .u32 0, .int .u32 0, .int .u32 0, .int .u32 0, .int .u32 0, .int .u32 0, .int .u32 0, .int .u64 0, .int .u8 2, .int .u8 0, .int .u32 0, .int .u32 0, .int .u32 0, .int .u32 0, .int .u32 0, .int .u32 0, .int .u32 0, .int .u32 0, .int .u64 0]) rfl ei_sm (by decide) rfl (by kernel_rfl) rfl (by decide) ?_
      clear HF HM; intro a w51 g51 HF HM
      refine keepS (HM.picks [1] (by decide) rfl) (fun HS => ?_)
      refine any_all [13, 17] (by kernel_rfl) rfl ?_
      refine all_cons ?_ ?_
      · refine any_op HF (i := 13) rfl rfl ?_
        refine e_append_full HF HM (xs := ((l.take M).flatMap smL)) (news := (sm1.cells.toList ++ sm2.cells.toList)) rfl ei_sm rfl rfl (HM.old hrM) (HM.rdBlk (i := 0) (n := 2) (size := 11) rfl rfl) (by omega) (by omega) (hAM) (by omega) (by omega) rfl (by decide) ?_
        clear HF HM; intro a w52 g52 c52 HF HM hc52
        refine keepS (HM.picks [2] (by decide) rfl) (fun HS => ?_)
        refine any_all [14, 17] (by kernel_rfl) rfl ?_
        refine all_cons ?_ ?_
        · refine any_op HF (i := 14) rfl rfl ?_
          refine e_call HF (vs := [.int .u8 (cpu : Int), .agg b.cells, .slice (some ⟨g52, 0, none⟩) (M + 2) c52]) rfl (by kernel_rfl) (by kernel_rfl) rfl (by decide) (made7_any cpu hcpu b hb _ (M + 2) _ (l.take M ++ [sm1, sm2]) hlm _ (by have h := HM.rd (i := 0) rfl; rw [hsml]; exact h) hc52 (by omega)) ?_
          rintro _ w53 ⟨⟨v, rfl, ho⟩, hbw⟩
          rw [hes] at ho
          obtain ⟨gr, cr, rfl, hcr⟩ := own_at ho (by omega)
          refine ⟨_, rfl, ?_⟩
          replace HM := HM.callRow hbw ho
          clear HF; intro a HF
          refine keepS (HM.picks [3] (by decide) rfl) (fun HS => ?_)
          refine any_all [16, 17] (by kernel_rfl) rfl ?_
          refine all_cons ?_ ?_
          · refine any_op HF (i := 16) rfl rfl ?_
            refine e_call HF (vs := [.agg b.cells]) rfl (by kernel_rfl) (by kernel_rfl) rfl (by decide) ((based_any b hb _)) ?_
            rintro _ w55 ⟨rfl, hbw⟩
            refine ⟨_, rfl, ?_⟩
            replace HM := HM.call hbw
            clear HF; intro a HF
            refine keepS (HM.picks [3] (by decide) rfl) (fun HS => ?_)
            refine any_all [17] (by kernel_rfl) rfl ?_
            refine all_cons ?_ all_nil
            refine any_op HF (i := 17) rfl rfl ?_
            refine e_alloc HF HM (cs := #[.int .i64 0, .int .i64 0]) rfl (by kernel_rfl) rfl (by decide) ?_
            clear HF HM; intro a w12 g12 HF HM
            refine keepS (HM.picks [4] (by decide) rfl) (fun HS => ?_)
            refine any_pures HF (fun _ => HS) (fun _ _ d _ _ h => by cases d <;> exact h) [18] #[true, true, true, true, true, true, true, true, true, true, true, true, true, true, true, true, true, true, true, false] [(11, .slice (some ⟨gr, 0, none⟩) es.length cr)] (by kernel_rfl) ?_; clear HF; intro a HF
            refine any_all [19] (by kernel_rfl) rfl ?_
            refine all_cons ?_ all_nil
            refine any_op HF (i := 19) rfl rfl ?_
            refine e_storeAll HF HM (i := 0) (cs := #[.int .i64 0, .int .i64 0]) (ds := b.based.cells) rfl rfl rfl rfl ⟨(by kernel_rfl), (by kernel_rfl)⟩ rfl rfl (bs_one b.based) rfl ?_
            clear HM; intro w3_19 HM
            refine noS (by kernel_rfl) ?_
            refine any_done (by kernel_rfl) ?_
            replace HF := HF.sub (σ' := [(11, .slice (some ⟨gr, 0, none⟩) es.length cr), (12, .pointer (some ⟨g12, 0, none⟩)), (38, .bool false), (10, .bool false), (0, .int .u8 (cpu : Int)), (3, .int .u8 (way : Int)), (4, .int .i64 n)]) (by kernel_rfl)
            replace HM := HM.picks (fs' := [.blk g12 b.based.cells 23, .row (.slice (some ⟨gr, 0, none⟩) es.length cr) es.length (es.flatMap evL) 37 11]) [0, 1] (by decide) rfl
            exact ⟨g51, g52, c52, gr, cr, g12, HF.sub (by kernel_rfl), HM.picks [0, 1] (by decide) rfl, hc52, hcr⟩
          refine all_cons ?_ all_nil
          refine any_op HF (i := 17) rfl rfl ?_
          refine e_alloc HF HM (cs := #[.int .i64 0, .int .i64 0]) rfl (by kernel_rfl) rfl (by decide) ?_
          clear HF HM; intro a w12 g12 HF HM
          refine keepS (HM.picks [4] (by decide) rfl) (fun HS => ?_)
          refine any_all [16] (by kernel_rfl) rfl ?_
          refine all_cons ?_ all_nil
          refine any_op HF (i := 16) rfl rfl ?_
          refine e_call HF (vs := [.agg b.cells]) rfl (by kernel_rfl) (by kernel_rfl) rfl (by decide) ((based_any b hb _)) ?_
          rintro _ w55 ⟨rfl, hbw⟩
          refine ⟨_, rfl, ?_⟩
          replace HM := HM.call hbw
          clear HF; intro a HF
          refine keepS (HM.picks [4] (by decide) rfl) (fun HS => ?_)
          refine any_pures HF (fun _ => HS) (fun _ _ d _ _ h => by cases d <;> exact h) [18] #[true, true, true, true, true, true, true, true, true, true, true, true, true, true, true, true, true, true, true, false] [(11, .slice (some ⟨gr, 0, none⟩) es.length cr)] (by kernel_rfl) ?_; clear HF; intro a HF
          refine any_all [19] (by kernel_rfl) rfl ?_
          refine all_cons ?_ all_nil
          refine any_op HF (i := 19) rfl rfl ?_
          refine e_storeAll HF HM (i := 0) (cs := #[.int .i64 0, .int .i64 0]) (ds := b.based.cells) rfl rfl rfl rfl ⟨(by kernel_rfl), (by kernel_rfl)⟩ rfl rfl (bs_one b.based) rfl ?_
          clear HM; intro w3_19 HM
          refine noS (by kernel_rfl) ?_
          refine any_done (by kernel_rfl) ?_
          replace HF := HF.sub (σ' := [(11, .slice (some ⟨gr, 0, none⟩) es.length cr), (12, .pointer (some ⟨g12, 0, none⟩)), (38, .bool false), (10, .bool false), (0, .int .u8 (cpu : Int)), (3, .int .u8 (way : Int)), (4, .int .i64 n)]) (by kernel_rfl)
          replace HM := HM.picks (fs' := [.blk g12 b.based.cells 23, .row (.slice (some ⟨gr, 0, none⟩) es.length cr) es.length (es.flatMap evL) 37 11]) [0, 1] (by decide) rfl
          exact ⟨g51, g52, c52, gr, cr, g12, HF.sub (by kernel_rfl), HM.picks [0, 1] (by decide) rfl, hc52, hcr⟩
        refine all_cons ?_ all_nil
        refine any_op HF (i := 17) rfl rfl ?_
        refine e_alloc HF HM (cs := #[.int .i64 0, .int .i64 0]) rfl (by kernel_rfl) rfl (by decide) ?_
        clear HF HM; intro a w12 g12 HF HM
        refine keepS (HM.picks [3] (by decide) rfl) (fun HS => ?_)
        refine any_all [14] (by kernel_rfl) rfl ?_
        refine all_cons ?_ all_nil
        refine any_op HF (i := 14) rfl rfl ?_
        refine e_call HF (vs := [.int .u8 (cpu : Int), .agg b.cells, .slice (some ⟨g52, 0, none⟩) (M + 2) c52]) rfl (by kernel_rfl) (by kernel_rfl) rfl (by decide) (made7_any cpu hcpu b hb _ (M + 2) _ (l.take M ++ [sm1, sm2]) hlm _ (by have h := HM.rd (i := 1) rfl; rw [hsml]; exact h) hc52 (by omega)) ?_
        rintro _ w53 ⟨⟨v, rfl, ho⟩, hbw⟩
        rw [hes] at ho
        obtain ⟨gr, cr, rfl, hcr⟩ := own_at ho (by omega)
        refine ⟨_, rfl, ?_⟩
        replace HM := HM.callRow hbw ho
        clear HF; intro a HF
        refine keepS (HM.picks [4] (by decide) rfl) (fun HS => ?_)
        refine any_all [16] (by kernel_rfl) rfl ?_
        refine all_cons ?_ all_nil
        refine any_op HF (i := 16) rfl rfl ?_
        refine e_call HF (vs := [.agg b.cells]) rfl (by kernel_rfl) (by kernel_rfl) rfl (by decide) ((based_any b hb _)) ?_
        rintro _ w55 ⟨rfl, hbw⟩
        refine ⟨_, rfl, ?_⟩
        replace HM := HM.call hbw
        clear HF; intro a HF
        refine keepS (HM.picks [4] (by decide) rfl) (fun HS => ?_)
        refine any_pures HF (fun _ => HS) (fun _ _ d _ _ h => by cases d <;> exact h) [18] #[true, true, true, true, true, true, true, true, true, true, true, true, true, true, true, true, true, true, true, false] [(11, .slice (some ⟨gr, 0, none⟩) es.length cr)] (by kernel_rfl) ?_; clear HF; intro a HF
        refine any_all [19] (by kernel_rfl) rfl ?_
        refine all_cons ?_ all_nil
        refine any_op HF (i := 19) rfl rfl ?_
        refine e_storeAll HF HM (i := 1) (cs := #[.int .i64 0, .int .i64 0]) (ds := b.based.cells) rfl rfl rfl rfl ⟨(by kernel_rfl), (by kernel_rfl)⟩ rfl rfl (bs_one b.based) rfl ?_
        clear HM; intro w3_19 HM
        refine noS (by kernel_rfl) ?_
        refine any_done (by kernel_rfl) ?_
        replace HF := HF.sub (σ' := [(11, .slice (some ⟨gr, 0, none⟩) es.length cr), (12, .pointer (some ⟨g12, 0, none⟩)), (38, .bool false), (10, .bool false), (0, .int .u8 (cpu : Int)), (3, .int .u8 (way : Int)), (4, .int .i64 n)]) (by kernel_rfl)
        replace HM := HM.picks (fs' := [.row (.slice (some ⟨gr, 0, none⟩) es.length cr) es.length (es.flatMap evL) 37 11, .blk g12 b.based.cells 23]) [0, 1] (by decide) rfl
        exact ⟨g51, g52, c52, gr, cr, g12, HF.sub (by kernel_rfl), HM.picks [1, 0] (by decide) rfl, hc52, hcr⟩
      refine all_cons ?_ all_nil
      refine any_op HF (i := 17) rfl rfl ?_
      refine e_alloc HF HM (cs := #[.int .i64 0, .int .i64 0]) rfl (by kernel_rfl) rfl (by decide) ?_
      clear HF HM; intro a w12 g12 HF HM
      refine keepS (HM.picks [2] (by decide) rfl) (fun HS => ?_)
      refine any_all [13] (by kernel_rfl) rfl ?_
      refine all_cons ?_ all_nil
      refine any_op HF (i := 13) rfl rfl ?_
      refine e_append_full HF HM (xs := ((l.take M).flatMap smL)) (news := (sm1.cells.toList ++ sm2.cells.toList)) rfl ei_sm rfl rfl (HM.old hrM) (HM.rdBlk (i := 1) (n := 2) (size := 11) rfl rfl) (by omega) (by omega) (hAM) (by omega) (by omega) rfl (by decide) ?_
      clear HF HM; intro a w52 g52 c52 HF HM hc52
      refine keepS (HM.picks [3] (by decide) rfl) (fun HS => ?_)
      refine any_all [14] (by kernel_rfl) rfl ?_
      refine all_cons ?_ all_nil
      refine any_op HF (i := 14) rfl rfl ?_
      refine e_call HF (vs := [.int .u8 (cpu : Int), .agg b.cells, .slice (some ⟨g52, 0, none⟩) (M + 2) c52]) rfl (by kernel_rfl) (by kernel_rfl) rfl (by decide) (made7_any cpu hcpu b hb _ (M + 2) _ (l.take M ++ [sm1, sm2]) hlm _ (by have h := HM.rd (i := 0) rfl; rw [hsml]; exact h) hc52 (by omega)) ?_
      rintro _ w53 ⟨⟨v, rfl, ho⟩, hbw⟩
      rw [hes] at ho
      obtain ⟨gr, cr, rfl, hcr⟩ := own_at ho (by omega)
      refine ⟨_, rfl, ?_⟩
      replace HM := HM.callRow hbw ho
      clear HF; intro a HF
      refine keepS (HM.picks [4] (by decide) rfl) (fun HS => ?_)
      refine any_all [16] (by kernel_rfl) rfl ?_
      refine all_cons ?_ all_nil
      refine any_op HF (i := 16) rfl rfl ?_
      refine e_call HF (vs := [.agg b.cells]) rfl (by kernel_rfl) (by kernel_rfl) rfl (by decide) ((based_any b hb _)) ?_
      rintro _ w55 ⟨rfl, hbw⟩
      refine ⟨_, rfl, ?_⟩
      replace HM := HM.call hbw
      clear HF; intro a HF
      refine keepS (HM.picks [4] (by decide) rfl) (fun HS => ?_)
      refine any_pures HF (fun _ => HS) (fun _ _ d _ _ h => by cases d <;> exact h) [18] #[true, true, true, true, true, true, true, true, true, true, true, true, true, true, true, true, true, true, true, false] [(11, .slice (some ⟨gr, 0, none⟩) es.length cr)] (by kernel_rfl) ?_; clear HF; intro a HF
      refine any_all [19] (by kernel_rfl) rfl ?_
      refine all_cons ?_ all_nil
      refine any_op HF (i := 19) rfl rfl ?_
      refine e_storeAll HF HM (i := 2) (cs := #[.int .i64 0, .int .i64 0]) (ds := b.based.cells) rfl rfl rfl rfl ⟨(by kernel_rfl), (by kernel_rfl)⟩ rfl rfl (bs_one b.based) rfl ?_
      clear HM; intro w3_19 HM
      refine noS (by kernel_rfl) ?_
      refine any_done (by kernel_rfl) ?_
      replace HF := HF.sub (σ' := [(11, .slice (some ⟨gr, 0, none⟩) es.length cr), (12, .pointer (some ⟨g12, 0, none⟩)), (38, .bool false), (10, .bool false), (0, .int .u8 (cpu : Int)), (3, .int .u8 (way : Int)), (4, .int .i64 n)]) (by kernel_rfl)
      replace HM := HM.picks (fs' := [.row (.slice (some ⟨gr, 0, none⟩) es.length cr) es.length (es.flatMap evL) 37 11, .blk g12 b.based.cells 23]) [0, 2] (by decide) rfl
      exact ⟨g51, g52, c52, gr, cr, g12, HF.sub (by kernel_rfl), HM.picks [1, 0] (by decide) rfl, hc52, hcr⟩
    refine all_cons ?_ all_nil
    refine any_op HF (i := 17) rfl rfl ?_
    refine e_alloc HF HM (cs := #[.int .i64 0, .int .i64 0]) rfl (by kernel_rfl) rfl (by decide) ?_
    clear HF HM; intro a w12 g12 HF HM
    refine keepS (HM.picks [1] (by decide) rfl) (fun HS => ?_)
    refine any_all [12] (by kernel_rfl) rfl ?_
    refine all_cons ?_ all_nil
    refine any_op HF (i := 12) rfl rfl ?_
    refine e_slice HF HM (vs := [(0, .agg #[.int .u8 1, .int .u8 0, .int .u32 0, .int .u32 0, .int .u32 0, .int .u32 0, .int .u32 0, .int .u32 0, .int .u32 0, .int .u32 0, .int .u64 0]), (1, .agg #[.int .u8 2, .int .u8 0, .int .u32 0, .int .u32 0, .int .u32 0, .int .u32 0, .int .u32 0, .int .u32 0, .int .u32 0, .int .u32 0, .int .u64 0])]) (cs := #[.int .u8 1, .int .u8 0, .int .u32 0, .int .u32 0, .int .u32 0, .int .u32 0, .int .u32 0, .int .u32 0, .int .u32 0, .int .u32 0, .int .u64 0, .int .u8 2, .int .u8 0, .int .u32 0, .int .u32 0, .int .u32 0, .int .u32 0, .int .u32 0, .int .u32 0, .int .u32 0, .int .u32 0, .int .u64 0]) rfl ei_sm (by decide) rfl (by kernel_rfl) rfl (by decide) ?_
    clear HF HM; intro a w51 g51 HF HM
    refine keepS (HM.picks [2] (by decide) rfl) (fun HS => ?_)
    refine any_all [13] (by kernel_rfl) rfl ?_
    refine all_cons ?_ all_nil
    refine any_op HF (i := 13) rfl rfl ?_
    refine e_append_full HF HM (xs := ((l.take M).flatMap smL)) (news := (sm1.cells.toList ++ sm2.cells.toList)) rfl ei_sm rfl rfl (HM.old hrM) (HM.rdBlk (i := 0) (n := 2) (size := 11) rfl rfl) (by omega) (by omega) (hAM) (by omega) (by omega) rfl (by decide) ?_
    clear HF HM; intro a w52 g52 c52 HF HM hc52
    refine keepS (HM.picks [3] (by decide) rfl) (fun HS => ?_)
    refine any_all [14] (by kernel_rfl) rfl ?_
    refine all_cons ?_ all_nil
    refine any_op HF (i := 14) rfl rfl ?_
    refine e_call HF (vs := [.int .u8 (cpu : Int), .agg b.cells, .slice (some ⟨g52, 0, none⟩) (M + 2) c52]) rfl (by kernel_rfl) (by kernel_rfl) rfl (by decide) (made7_any cpu hcpu b hb _ (M + 2) _ (l.take M ++ [sm1, sm2]) hlm _ (by have h := HM.rd (i := 0) rfl; rw [hsml]; exact h) hc52 (by omega)) ?_
    rintro _ w53 ⟨⟨v, rfl, ho⟩, hbw⟩
    rw [hes] at ho
    obtain ⟨gr, cr, rfl, hcr⟩ := own_at ho (by omega)
    refine ⟨_, rfl, ?_⟩
    replace HM := HM.callRow hbw ho
    clear HF; intro a HF
    refine keepS (HM.picks [4] (by decide) rfl) (fun HS => ?_)
    refine any_all [16] (by kernel_rfl) rfl ?_
    refine all_cons ?_ all_nil
    refine any_op HF (i := 16) rfl rfl ?_
    refine e_call HF (vs := [.agg b.cells]) rfl (by kernel_rfl) (by kernel_rfl) rfl (by decide) ((based_any b hb _)) ?_
    rintro _ w55 ⟨rfl, hbw⟩
    refine ⟨_, rfl, ?_⟩
    replace HM := HM.call hbw
    clear HF; intro a HF
    refine keepS (HM.picks [4] (by decide) rfl) (fun HS => ?_)
    refine any_pures HF (fun _ => HS) (fun _ _ d _ _ h => by cases d <;> exact h) [18] #[true, true, true, true, true, true, true, true, true, true, true, true, true, true, true, true, true, true, true, false] [(11, .slice (some ⟨gr, 0, none⟩) es.length cr)] (by kernel_rfl) ?_; clear HF; intro a HF
    refine any_all [19] (by kernel_rfl) rfl ?_
    refine all_cons ?_ all_nil
    refine any_op HF (i := 19) rfl rfl ?_
    refine e_storeAll HF HM (i := 3) (cs := #[.int .i64 0, .int .i64 0]) (ds := b.based.cells) rfl rfl rfl rfl ⟨(by kernel_rfl), (by kernel_rfl)⟩ rfl rfl (bs_one b.based) rfl ?_
    clear HM; intro w3_19 HM
    refine noS (by kernel_rfl) ?_
    refine any_done (by kernel_rfl) ?_
    replace HF := HF.sub (σ' := [(11, .slice (some ⟨gr, 0, none⟩) es.length cr), (12, .pointer (some ⟨g12, 0, none⟩)), (38, .bool false), (10, .bool false), (0, .int .u8 (cpu : Int)), (3, .int .u8 (way : Int)), (4, .int .i64 n)]) (by kernel_rfl)
    replace HM := HM.picks (fs' := [.row (.slice (some ⟨gr, 0, none⟩) es.length cr) es.length (es.flatMap evL) 37 11, .blk g12 b.based.cells 23]) [0, 3] (by decide) rfl
    exact ⟨g51, g52, c52, gr, cr, g12, HF.sub (by kernel_rfl), HM.picks [1, 0] (by decide) rfl, hc52, hcr⟩
  clear HF HM; rintro a w3 ⟨g51, g52, c52, gr, cr, g12, HF, HM, hc52, hcr⟩
  refine wp_seq ?_
  refine wp_seq ?_
  refine any_start (by kernel_rfl) (fun wS => Mem w wS [.blk g12 b.based.cells 23, .row (.slice (some ⟨gr, 0, none⟩) es.length cr) es.length (es.flatMap evL) 37 11]) [] ?_
  replace HM := HM.drew
  have HS := HM.picks (fs' := [.blk g12 b.based.cells 23, .row (.slice (some ⟨gr, 0, none⟩) es.length cr) es.length (es.flatMap evL) 37 11]) [0, 1] (by decide) rfl
  refine any_pures HF (fun _ => HS) (fun _ _ d _ _ h => by cases d <;> exact h) [0, 2, 5, 7, 10, 12, 15, 17, 20, 26, 34] #[true, false, true, false, false, true, false, true, false, false, true, false, true, false, false, true, false, true, false, false, true, false, false, false, false, false, true, false, false, false, false, false, false, false, true] [(90, .int .i64 0), (82, .slice (some ⟨gr, 0, none⟩) es.length cr), (76, .slice (some ⟨gr, 0, none⟩) es.length cr), (73, .int .i64 n), (71, .pointer (some ⟨g12, 0, none⟩)), (68, .int .i64 n), (66, .pointer (some ⟨g12, 0, none⟩)), (63, .pointer (some ⟨g12, 1, none⟩)), (61, .int .i64 n), (58, .pointer (some ⟨g12, 1, none⟩)), (56, .int .i64 n)] (by kernel_rfl) ?_; clear HF; intro a HF
  refine any_yl HF HS (i := 1) rfl rfl (d := 57) rfl (by decide) (by kernel_rfl) (fun _ _ _ h => h) (v := .int .i64 (if (0 : Int) < (n : Int) then 0 else n)) (Yl.min rfl rfl rfl) ?_; clear HF; intro a HF
  refine any_yl HF HS (i := 3) rfl rfl (d := 59) rfl (by decide) (by kernel_rfl) (fun _ _ _ h => h) (v := .int .i64 b.based.time) (Yl.load1 rfl rfl (by kernel_rfl) (fun _ h => h.cell (i := 0) rfl rfl)) ?_; clear HF; intro a HF
  refine any_yl HF HS (i := 4) rfl rfl (d := 60) rfl (by decide) (by kernel_rfl) (fun _ _ _ h => h) (v := .agg #[.int .i64 (if (0 : Int) < (n : Int) then 0 else n), .int .i64 b.based.time]) (Yl.build (vs := [(0, .int .i64 (if (0 : Int) < (n : Int) then 0 else n)), (1, .int .i64 b.based.time)]) rfl (by kernel_rfl) (by kernel_rfl)) ?_; clear HF; intro a HF
  refine any_yl HF HS (i := 6) rfl rfl (d := 62) rfl (by decide) (by kernel_rfl) (fun _ _ _ h => h) (v := .int .i64 (if (281474976710657 : Int) > (n : Int) then 281474976710657 else n)) (Yl.max rfl rfl rfl) ?_; clear HF; intro a HF
  refine any_yl HF HS (i := 8) rfl rfl (d := 64) rfl (by decide) (by kernel_rfl) (fun _ _ _ h => h) (v := .int .i64 b.based.time) (Yl.load1 rfl rfl (by kernel_rfl) (fun _ h => h.cell (i := 0) rfl rfl)) ?_; clear HF; intro a HF
  refine any_yl HF HS (i := 9) rfl rfl (d := 65) rfl (by decide) (by kernel_rfl) (fun _ _ _ h => h) (v := .agg #[.int .i64 (if (281474976710657 : Int) > (n : Int) then 281474976710657 else n), .int .i64 b.based.time]) (Yl.build (vs := [(0, .int .i64 (if (281474976710657 : Int) > (n : Int) then 281474976710657 else n)), (1, .int .i64 b.based.time)]) rfl (by kernel_rfl) (by kernel_rfl)) ?_; clear HF; intro a HF
  refine any_yl HF HS (i := 11) rfl rfl (d := 67) rfl (by decide) (by kernel_rfl) (fun _ _ _ h => h) (v := .int .i64 b.based.seq) (Yl.load1 rfl rfl (by kernel_rfl) (fun _ h => h.cell (i := 0) rfl rfl)) ?_; clear HF; intro a HF
  refine any_yl HF HS (i := 13) rfl rfl (d := 69) rfl (by decide) (by kernel_rfl) (fun _ _ _ h => h) (v := .int .i64 (if (-1 : Int) < (n : Int) then -1 else n)) (Yl.min rfl rfl rfl) ?_; clear HF; intro a HF
  refine any_yl HF HS (i := 14) rfl rfl (d := 70) rfl (by decide) (by kernel_rfl) (fun _ _ _ h => h) (v := .agg #[.int .i64 b.based.seq, .int .i64 (if (-1 : Int) < (n : Int) then -1 else n)]) (Yl.build (vs := [(0, .int .i64 b.based.seq), (1, .int .i64 (if (-1 : Int) < (n : Int) then -1 else n))]) rfl (by kernel_rfl) (by kernel_rfl)) ?_; clear HF; intro a HF
  refine any_yl HF HS (i := 16) rfl rfl (d := 72) rfl (by decide) (by kernel_rfl) (fun _ _ _ h => h) (v := .int .i64 b.based.seq) (Yl.load1 rfl rfl (by kernel_rfl) (fun _ h => h.cell (i := 0) rfl rfl)) ?_; clear HF; intro a HF
  refine any_yl HF HS (i := 18) rfl rfl (d := 74) rfl (by decide) (by kernel_rfl) (fun _ _ _ h => h) (v := .int .i64 (if (281474976710657 : Int) > (n : Int) then 281474976710657 else n)) (Yl.max rfl rfl rfl) ?_; clear HF; intro a HF
  refine any_yl HF HS (i := 19) rfl rfl (d := 75) rfl (by decide) (by kernel_rfl) (fun _ _ _ h => h) (v := .agg #[.int .i64 b.based.seq, .int .i64 (if (281474976710657 : Int) > (n : Int) then 281474976710657 else n)]) (Yl.build (vs := [(0, .int .i64 b.based.seq), (1, .int .i64 (if (281474976710657 : Int) > (n : Int) then 281474976710657 else n))]) rfl (by kernel_rfl) (by kernel_rfl)) ?_; clear HF; intro a HF
  refine any_yl HF HS (i := 21) rfl rfl (d := 77) rfl (by decide) (by kernel_rfl) (fun _ _ _ h => h) (v := .pointer (some ⟨gr, 0, none⟩)) (Yl.indexAddr (ad := ⟨gr, 0, none⟩) (y := 0) (sz := 11) rfl rfl rfl (by omega) (by kernel_rfl)) ?_; clear HF; intro a HF
  refine any_pures HF (fun _ => HS) (fun _ _ d _ _ h => by cases d <;> exact h) [22] #[true, true, true, true, true, true, true, true, true, true, true, true, true, true, true, true, true, true, true, true, true, true, true, false, false, false, true, false, false, false, false, false, false, false, true] [(78, .pointer (some ⟨gr, 0, none⟩))] (by kernel_rfl) ?_; clear HF; intro a HF
  refine any_yl HF HS (i := 23) rfl rfl (d := 79) rfl (by decide) (by kernel_rfl) (fun _ _ _ h => h) (v := .int .i64 e0.seq) (Yl.load1 rfl rfl (by kernel_rfl) (fun _ h => h.rowCell evL_len (i := 1) rfl (k := 0) (off := 0) (x := e0) h00 rfl)) ?_; clear HF; intro a HF
  refine any_pure HF (fun _ => HS) (i := 24) rfl rfl (d := 80) rfl (by decide) (by kernel_rfl) (fun _ _ _ h => h) (v := .int .i64 (IntKind.i64.wrap (e0.seq + 1))) (fun _ => Yl.pure (by kernel_rfl)) ?_; clear HF; intro a HF
  replace HF := HF.as (t := 80) (u := .int .i64 (e0.seq + 1)) rfl (i64_as (by omega))
  refine any_yl HF HS (i := 25) rfl rfl (d := 81) rfl (by decide) (by kernel_rfl) (fun _ _ _ h => h) (v := .agg #[.int .i64 (e0.seq + 1), .int .i64 0]) (Yl.build (vs := [(0, .int .i64 (e0.seq + 1)), (1, .int .i64 0)]) rfl (by kernel_rfl) (by kernel_rfl)) ?_; clear HF; intro a HF
  refine any_yl HF HS (i := 27) rfl rfl (d := 83) rfl (by decide) (by kernel_rfl) (fun _ _ _ h => h) (v := .pointer (some ⟨gr, 0, none⟩)) (Yl.indexAddr (ad := ⟨gr, 0, none⟩) (y := 0) (sz := 11) rfl rfl rfl (by omega) (by kernel_rfl)) ?_; clear HF; intro a HF
  refine any_pures HF (fun _ => HS) (fun _ _ d _ _ h => by cases d <;> exact h) [28] #[true, true, true, true, true, true, true, true, true, true, true, true, true, true, true, true, true, true, true, true, true, true, true, true, true, true, true, true, true, false, false, false, false, false, true] [(84, .pointer (some ⟨gr, 1, none⟩))] (by kernel_rfl) ?_; clear HF; intro a HF
  refine any_yl HF HS (i := 29) rfl rfl (d := 85) rfl (by decide) (by kernel_rfl) (fun _ _ _ h => h) (v := .int .i64 e0.time) (Yl.load1 rfl rfl (by kernel_rfl) (fun _ h => h.rowCell evL_len (i := 1) rfl (k := 0) (off := 1) (x := e0) h00 rfl)) ?_; clear HF; intro a HF
  refine any_pure HF (fun _ => HS) (i := 30) rfl rfl (d := 86) rfl (by decide) (by kernel_rfl) (fun _ _ _ h => h) (v := .int .i64 (IntKind.i64.wrap (e0.time + 1))) (fun _ => Yl.pure (by kernel_rfl)) ?_; clear HF; intro a HF
  replace HF := HF.as (t := 86) (u := .int .i64 (e0.time + 1)) rfl (i64_as (by omega))
  refine any_yl HF HS (i := 31) rfl rfl (d := 87) rfl (by decide) (by kernel_rfl) (fun _ _ _ h => h) (v := .agg #[.int .i64 1, .int .i64 (e0.time + 1)]) (Yl.build (vs := [(0, .int .i64 1), (1, .int .i64 (e0.time + 1))]) rfl (by kernel_rfl) (by kernel_rfl)) ?_; clear HF; intro a HF
  refine any_all [32] (by kernel_rfl) rfl ?_
  refine all_cons ?_ all_nil
  refine any_op HF (i := 32) rfl rfl ?_
  refine e_slice HF HM (vs := [(0, .agg #[.int .i64 (if (0 : Int) < (n : Int) then 0 else n), .int .i64 b.based.time]), (1, .agg #[.int .i64 (if (281474976710657 : Int) > (n : Int) then 281474976710657 else n), .int .i64 b.based.time]), (2, .agg #[.int .i64 b.based.seq, .int .i64 (if (-1 : Int) < (n : Int) then -1 else n)]), (3, .agg #[.int .i64 b.based.seq, .int .i64 (if (281474976710657 : Int) > (n : Int) then 281474976710657 else n)]), (4, .agg #[.int .i64 (e0.seq + 1), .int .i64 0]), (5, .agg #[.int .i64 1, .int .i64 (e0.time + 1)])]) (cs := #[.int .i64 (if (0 : Int) < (n : Int) then 0 else n), .int .i64 b.based.time, .int .i64 (if (281474976710657 : Int) > (n : Int) then 281474976710657 else n), .int .i64 b.based.time, .int .i64 b.based.seq, .int .i64 (if (-1 : Int) < (n : Int) then -1 else n), .int .i64 b.based.seq, .int .i64 (if (281474976710657 : Int) > (n : Int) then 281474976710657 else n), .int .i64 (e0.seq + 1), .int .i64 0, .int .i64 1, .int .i64 (e0.time + 1)]) rfl ei_base (by decide) rfl (by kernel_rfl) rfl (by decide) ?_
  clear HF HM; intro a w88 g88 HF HM
  refine keepS (HM.picks [1, 2] (by decide) rfl) (fun HS => ?_)
  refine any_yl HF HS (i := 33) rfl rfl (d := 89) rfl (by decide) (by kernel_rfl) (fun _ _ _ h => h) (v := .int .i64 6) (Yl.len rfl rfl (by kernel_rfl)) ?_; clear HF; intro a HF
  refine any_done (by kernel_rfl) ?_
  replace HF := HF.sub (σ' := [(89, .int .i64 6), (88, .slice (some ⟨g88, 0, none⟩) 6 6), (90, .int .i64 0), (11, .slice (some ⟨gr, 0, none⟩) es.length cr), (12, .pointer (some ⟨g12, 0, none⟩)), (38, .bool false), (10, .bool false), (0, .int .u8 (cpu : Int)), (3, .int .u8 (way : Int)), (4, .int .i64 n)]) (by kernel_rfl)
  replace HM := (HM.blkRow (i := 0) (n := 6) (size := 2) rfl rfl (by decide)).asRow (i := 0) (ys := bads.flatMap fun b => b.cells.toList) rfl hbads
  refine wp_block ?_
  refine loop_nat (fun mS aS wS => ∃ (j : Nat), j ≤ 6 ∧ mS = 6 - j ∧ Fr aS 283 [] [(89, .int .i64 6), (88, .slice (some ⟨g88, 0, none⟩) 6 6), (90, .int .i64 (j : Int)), (11, .slice (some ⟨gr, 0, none⟩) es.length cr), (12, .pointer (some ⟨g12, 0, none⟩)), (38, .bool false), (10, .bool false), (0, .int .u8 (cpu : Int)), (3, .int .u8 (way : Int)), (4, .int .i64 n)] ∧ Mem w wS [.row (.slice (some ⟨g88, 0, none⟩) 6 6) 6 (bads.flatMap fun b => b.cells.toList) 23 2, .blk g12 b.based.cells 23, .row (.slice (some ⟨gr, 0, none⟩) es.length cr) es.length (es.flatMap evL) 37 11]) (m := 6 - 0) ⟨0, by omega, rfl, HF.sub (by kernel_rfl), HM.picks [0, 1, 2] (by decide) rfl⟩ ?_
  clear HF HM; rintro mS a w_ ⟨j, hj, rfl, HF, HM⟩
  refine wp_seq ?_
  refine from_start ?_
  refine from_pures HF 1 0 (j := 1) [(91, .bool (decide (((j : Int) : Int) < (6 : Int))))] (by kernel_rfl) rfl ?_; clear HF; intro a HF
  refine from_done rfl ?_
  refine wp_seq ?_
  rcases Bool.eq_false_or_eq_true (decide (((j : Int) : Int) < (6 : Int))) with hb91 | hb91
  · have HF := HF.as (t := 91) (u := .bool true) rfl (by rw [hb91])
    have hk6 : j < 6 := by have := of_decide_eq_true hb91; omega
    obtain ⟨bk, hbk, hb1, hb2, hb3, hb4⟩ := hbad j hk6
    refine cond_true HF rfl ?_
    refine wp_skip ?_
    refine wp_seq ?_
    refine wp_block ?_
    refine wp_seq ?_
    refine from_start ?_
    refine from_yl (S := fun wS => Mem w wS _) HF HM (i := 0) rfl rfl (d := 92) rfl (by decide) (v := .pointer (some ⟨g88, j * 2, none⟩)) ((Yl.indexAddr (ad := ⟨g88, 0, none⟩) (y := j) (sz := 2) rfl rfl rfl (hk6) (by kernel_rfl)).as (by rw [Addr.add_mid, Nat.zero_add])) ?_; clear HF; intro a HF
    refine from_yl (S := fun wS => Mem w wS _) HF HM (i := 1) rfl rfl (d := 93) rfl (by decide) (v := .agg bk.cells) (Yl.loadS rfl rfl ⟨(by kernel_rfl), (by kernel_rfl)⟩ rfl (fun _ h => h.rowStruct (fun _ => rfl) (f := fun b : Bs => b.cells.toList) (sz := 2) (i := 0) rfl hbk)) ?_; clear HF; intro a HF
    refine from_op HF (i := 2) rfl rfl ?_
    refine e_alloc HF HM (cs := #[.int .i64 0, .int .i64 0]) rfl (by kernel_rfl) rfl (by decide) ?_
    clear HF HM; intro a w14 g14 HF HM
    refine from_op HF (i := 3) rfl rfl ?_
    refine e_storeAll HF HM (i := 0) (cs := #[.int .i64 0, .int .i64 0]) (ds := bk.cells) rfl rfl rfl rfl ⟨(by kernel_rfl), (by kernel_rfl)⟩ rfl rfl (bs_one bk) rfl ?_
    clear HM; intro w6_3 HM
    refine from_done rfl ?_
    replace HF := HF.sub (σ' := [(14, .pointer (some ⟨g14, 0, none⟩)), (91, .bool true), (89, .int .i64 6), (88, .slice (some ⟨g88, 0, none⟩) 6 6), (90, .int .i64 (j : Int)), (11, .slice (some ⟨gr, 0, none⟩) es.length cr), (12, .pointer (some ⟨g12, 0, none⟩)), (38, .bool false), (10, .bool false), (0, .int .u8 (cpu : Int)), (3, .int .u8 (way : Int)), (4, .int .i64 n)]) (by kernel_rfl)
    refine wp_seq ?_
    refine any_start (by kernel_rfl) (fun wS => Mem w wS [.blk g14 bk.cells 23, .row (.slice (some ⟨g88, 0, none⟩) 6 6) 6 (bads.flatMap fun b => b.cells.toList) 23 2, .blk g12 b.based.cells 23, .row (.slice (some ⟨gr, 0, none⟩) es.length cr) es.length (es.flatMap evL) 37 11]) [] ?_
    replace HM := HM.drew
    have HS := HM.picks (fs' := [.blk g14 bk.cells 23, .row (.slice (some ⟨g88, 0, none⟩) 6 6) 6 (bads.flatMap fun b => b.cells.toList) 23 2, .blk g12 b.based.cells 23, .row (.slice (some ⟨gr, 0, none⟩) es.length cr) es.length (es.flatMap evL) 37 11]) [0, 1, 2, 3] (by decide) rfl
    refine any_pures HF (fun _ => HS) (fun _ _ d _ _ h => by cases d <;> exact h) [1] #[false, true, false, false, false, false, false, false, false, false] [(96, .slice (some ⟨gr, 0, none⟩) es.length cr)] (by kernel_rfl) ?_; clear HF; intro a HF
    refine any_yl HF HS (i := 0) rfl rfl (d := 95) rfl (by decide) (by kernel_rfl) (fun _ _ _ h => h) (v := .agg bk.cells) (Yl.loadS rfl rfl ⟨(by kernel_rfl), (by kernel_rfl)⟩ rfl (fun _ h => range_of_block (h.blk (i := 0) rfl))) ?_; clear HF; intro a HF
    refine any_yl HF HS (i := 2) rfl rfl (d := 97) rfl (by decide) (by kernel_rfl) (fun _ _ _ h => h) (v := .pointer (some ⟨gr, 0, none⟩)) (Yl.indexAddr (ad := ⟨gr, 0, none⟩) (y := 0) (sz := 11) rfl rfl rfl (by omega) (by kernel_rfl)) ?_; clear HF; intro a HF
    refine any_yl HF HS (i := 3) rfl rfl (d := 98) rfl (by decide) (by kernel_rfl) (fun _ _ _ h => h) (v := .agg e0.cells) (Yl.loadS rfl rfl ⟨(by kernel_rfl), (by kernel_rfl)⟩ rfl (fun _ h => h.rowStruct evL_len (i := 3) rfl (k := 0) h00)) ?_; clear HF; intro a HF
    refine any_all [4] (by kernel_rfl) rfl ?_
    refine all_cons ?_ all_nil
    refine any_op HF (i := 4) rfl rfl ?_
    refine e_call HF (vs := [.agg bk.cells, .agg e0.cells]) rfl (by kernel_rfl) (by kernel_rfl) rfl (by decide) (put_is bk e0 he0 B _ (hL.mem HM hB) (HM.le hB) (er := 70) (R := []) hb1 hb4) ?_
    rintro _ w99 ⟨⟨A99, c99, rfl, ho, hc99⟩, hbw⟩
    refine ⟨_, rfl, ?_⟩
    replace HM := HM.callRow hbw ho
    clear HF; intro a HF
    refine keepS (HM.picks [1, 2, 3, 4] (by decide) rfl) (fun HS => ?_)
    refine any_pures HF (fun _ => HS) (fun _ _ d _ _ h => by cases d <;> exact h) [5, 6, 7, 8, 9] #[true, true, true, true, true, true, true, true, true, true] [(16, .int .i64 70), (15, .slice A99 0 c99), (101, .int .i64 70), (100, .slice A99 0 c99), (94, .tuple #[.slice A99 0 c99, .int .i64 70])] (by kernel_rfl) ?_; clear HF; intro a HF
    refine any_done (by kernel_rfl) ?_
    replace HF := HF.sub (σ' := [(16, .int .i64 70), (14, .pointer (some ⟨g14, 0, none⟩)), (91, .bool true), (89, .int .i64 6), (88, .slice (some ⟨g88, 0, none⟩) 6 6), (90, .int .i64 (j : Int)), (11, .slice (some ⟨gr, 0, none⟩) es.length cr), (12, .pointer (some ⟨g12, 0, none⟩)), (38, .bool false), (10, .bool false), (0, .int .u8 (cpu : Int)), (3, .int .u8 (way : Int)), (4, .int .i64 n)]) (by kernel_rfl)
    replace HM := HM.picks (fs' := [.blk g14 bk.cells 23, .row (.slice (some ⟨g88, 0, none⟩) 6 6) 6 (bads.flatMap fun b => b.cells.toList) 23 2, .blk g12 b.based.cells 23, .row (.slice (some ⟨gr, 0, none⟩) es.length cr) es.length (es.flatMap evL) 37 11]) [1, 2, 3, 4] (by decide) rfl
    refine wp_seq ?_
    refine from_start ?_
    refine from_yl (S := fun wS => Mem w wS _) HF HM (i := 0) rfl rfl (d := 103) rfl (by decide) (v := .agg bk.cells) (Yl.loadS rfl rfl ⟨(by kernel_rfl), (by kernel_rfl)⟩ rfl (fun _ h => range_of_block (h.blk (i := 0) rfl))) ?_; clear HF; intro a HF
    refine from_pures HF 1 1 (j := 2) [(104, .slice (some ⟨gr, 0, none⟩) es.length cr)] (by kernel_rfl) rfl ?_; clear HF; intro a HF
    refine from_op HF (i := 2) rfl rfl ?_
    refine e_call HF (vs := [.agg bk.cells, .slice (some ⟨gr, 0, none⟩) es.length cr]) rfl (by kernel_rfl) (by kernel_rfl) rfl (by decide) (write_is bk _ _ _ es hok B _ (hL.mem HM hB) (HM.le hB) (HM.rd (i := 3) rfl) (by omega) (er := 70) (R := []) hb2 hb3) ?_
    rintro _ w105 ⟨⟨A105, c105, rfl, ho, hc105⟩, hbw⟩
    refine ⟨_, rfl, ?_⟩
    replace HM := HM.callRow hbw ho
    clear HF; intro a HF
    refine from_pures HF 5 3 (j := 8) [(18, .int .i64 70), (17, .slice A105 0 c105), (107, .int .i64 70), (106, .slice A105 0 c105), (102, .tuple #[.slice A105 0 c105, .int .i64 70])] (by kernel_rfl) rfl ?_; clear HF; intro a HF
    refine from_done rfl ?_
    replace HF := HF.sub (σ' := [(18, .int .i64 70), (16, .int .i64 70), (14, .pointer (some ⟨g14, 0, none⟩)), (91, .bool true), (89, .int .i64 6), (88, .slice (some ⟨g88, 0, none⟩) 6 6), (90, .int .i64 (j : Int)), (11, .slice (some ⟨gr, 0, none⟩) es.length cr), (12, .pointer (some ⟨g12, 0, none⟩)), (38, .bool false), (10, .bool false), (0, .int .u8 (cpu : Int)), (3, .int .u8 (way : Int)), (4, .int .i64 n)]) (by kernel_rfl)
    replace HM := HM.picks (fs' := [.blk g14 bk.cells 23, .row (.slice (some ⟨g88, 0, none⟩) 6 6) 6 (bads.flatMap fun b => b.cells.toList) 23 2, .blk g12 b.based.cells 23, .row (.slice (some ⟨gr, 0, none⟩) es.length cr) es.length (es.flatMap evL) 37 11]) [1, 2, 3, 4] (by decide) rfl
    refine wp_seq ?_
    refine from_start ?_
    refine from_pures HF 6 0 (j := 6) [(113, .bool false), (112, .bool false), (111, .int .i64 70), (110, .bool false), (109, .bool false), (108, .int .i64 70)] (by kernel_rfl) rfl ?_; clear HF; intro a HF
    refine from_done rfl ?_
    replace HF := HF.sub (σ' := [(113, .bool false), (18, .int .i64 70), (16, .int .i64 70), (14, .pointer (some ⟨g14, 0, none⟩)), (91, .bool true), (89, .int .i64 6), (88, .slice (some ⟨g88, 0, none⟩) 6 6), (90, .int .i64 (j : Int)), (11, .slice (some ⟨gr, 0, none⟩) es.length cr), (12, .pointer (some ⟨g12, 0, none⟩)), (38, .bool false), (10, .bool false), (0, .int .u8 (cpu : Int)), (3, .int .u8 (way : Int)), (4, .int .i64 n)]) (by kernel_rfl)
    refine cond_false HF rfl ?_
    refine wp_skip ?_
    refine from_start ?_
    refine from_pures HF 1 0 (j := 1) [(114, .int .i64 (IntKind.i64.wrap ((j : Int) + 1)))] (by kernel_rfl) rfl ?_; clear HF; intro a HF
    replace HF := HF.as (t := 114) (u := .int .i64 ((j + 1 : Nat) : Int)) rfl (by rw [IntWalk.i64_in _ (by omega)]; simp)
    refine from_pures HF 1 1 (j := 2) [(90, .int .i64 ((j + 1 : Nat) : Int))] (by kernel_rfl) rfl ?_; clear HF; intro a HF
    refine from_done rfl ?_
    replace HF := HF.sub (σ' := [(90, .int .i64 ((j + 1 : Nat) : Int)), (113, .bool false), (18, .int .i64 70), (16, .int .i64 70), (14, .pointer (some ⟨g14, 0, none⟩)), (91, .bool true), (89, .int .i64 6), (88, .slice (some ⟨g88, 0, none⟩) 6 6), (11, .slice (some ⟨gr, 0, none⟩) es.length cr), (12, .pointer (some ⟨g12, 0, none⟩)), (38, .bool false), (10, .bool false), (0, .int .u8 (cpu : Int)), (3, .int .u8 (way : Int)), (4, .int .i64 n)]) (by kernel_rfl)
    exact ⟨_, (by omega), j + 1, by omega, rfl, HF.sub (by kernel_rfl), HM.picks [1, 2, 3] (by decide) rfl⟩
  · have HF := HF.as (t := 91) (u := .bool false) rfl (by rw [hb91])
    refine cond_false HF rfl ?_
    refine wp_exit ?_
    refine wp_seq ?_
    refine from_start ?_
    refine from_yl (S := fun wS => Mem w wS _) HF HM (i := 0) rfl rfl (d := 116) rfl (by decide) (v := .agg #[.int .i64 0, .int .i64 0]) (Yl.build (vs := []) rfl (by kernel_rfl) (by kernel_rfl)) ?_; clear HF; intro a HF
    refine from_pures HF 1 1 (j := 2) [(117, .int .u8 (cpu : Int))] (by kernel_rfl) rfl ?_; clear HF; intro a HF
    refine from_op HF (i := 2) rfl rfl ?_
    refine e_call HF (vs := [.agg #[.int .i64 0, .int .i64 0], .int .u8 (cpu : Int), .int .i64 0, .slice none 0 0]) rfl (by kernel_rfl) (by kernel_rfl) rfl (by decide) (read_is ⟨0, 0⟩ cpu hcpu none 0 0 0 ⟨by decide, by decide⟩ [] B _ (hL.mem HM hB) (HM.le hB) Rd.nil (Nat.le_refl _) (by simp) (by omega) (.inr (by simp)) (es := []) (L := 0) (er := 70) rfl) ?_
    rintro _ w118 ⟨⟨A118, c118, rfl, ho, hc118⟩, hbw⟩
    refine ⟨_, rfl, ?_⟩
    replace HM := HM.callRow hbw ho
    clear HF; intro a HF
    refine from_pures HF 7 3 (j := 10) [(21, .int .i64 70), (20, .int .i64 0), (19, .slice A118 0 c118), (121, .int .i64 70), (120, .int .i64 0), (119, .slice A118 0 c118), (115, .tuple #[.slice A118 0 c118, .int .i64 0, .int .i64 70])] (by kernel_rfl) rfl ?_; clear HF; intro a HF
    refine from_done rfl ?_
    replace HF := HF.sub (σ' := [(21, .int .i64 70), (91, .bool false), (89, .int .i64 6), (88, .slice (some ⟨g88, 0, none⟩) 6 6), (90, .int .i64 (j : Int)), (11, .slice (some ⟨gr, 0, none⟩) es.length cr), (12, .pointer (some ⟨g12, 0, none⟩)), (38, .bool false), (10, .bool false), (0, .int .u8 (cpu : Int)), (3, .int .u8 (way : Int)), (4, .int .i64 n)]) (by kernel_rfl)
    replace HM := HM.picks (fs' := [.row (.slice (some ⟨g88, 0, none⟩) 6 6) 6 (bads.flatMap fun b => b.cells.toList) 23 2, .blk g12 b.based.cells 23, .row (.slice (some ⟨gr, 0, none⟩) es.length cr) es.length (es.flatMap evL) 37 11]) [1, 2, 3] (by decide) rfl
    refine wp_seq ?_
    refine from_start ?_
    refine from_yl (S := fun wS => Mem w wS _) HF HM (i := 0) rfl rfl (d := 123) rfl (by decide) (v := .agg #[.int .i64 0, .int .i64 0]) (Yl.build (vs := []) rfl (by kernel_rfl) (by kernel_rfl)) ?_; clear HF; intro a HF
    refine from_pures HF 2 1 (j := 3) [(125, .int .i64 n), (124, .int .u8 (cpu : Int))] (by kernel_rfl) rfl ?_; clear HF; intro a HF
    refine from_yl (S := fun wS => Mem w wS _) HF HM (i := 3) rfl rfl (d := 126) rfl (by decide) (v := .int .i64 (if (-1 : Int) < (n : Int) then -1 else n)) (Yl.min rfl rfl rfl) ?_; clear HF; intro a HF
    refine from_op HF (i := 4) rfl rfl ?_
    refine e_call HF (vs := [.agg #[.int .i64 0, .int .i64 0], .int .u8 (cpu : Int), .int .i64 (if (-1 : Int) < (n : Int) then -1 else n), .slice none 0 0]) rfl (by kernel_rfl) (by kernel_rfl) rfl (by decide) (read_is ⟨0, 0⟩ cpu hcpu none 0 0 (if (-1 : Int) < (n : Int) then -1 else n) hnm [] B _ (hL.mem HM hB) (HM.le hB) Rd.nil (Nat.le_refl _) (by simp) (by omega) (.inr (by simp)) (es := []) (L := 0) (er := 2) hread2) ?_
    rintro _ w127 ⟨⟨A127, c127, rfl, ho, hc127⟩, hbw⟩
    refine ⟨_, rfl, ?_⟩
    replace HM := HM.callRow hbw ho
    clear HF; intro a HF
    refine from_pures HF 7 5 (j := 12) [(24, .int .i64 2), (23, .int .i64 0), (22, .slice A127 0 c127), (130, .int .i64 2), (129, .int .i64 0), (128, .slice A127 0 c127), (122, .tuple #[.slice A127 0 c127, .int .i64 0, .int .i64 2])] (by kernel_rfl) rfl ?_; clear HF; intro a HF
    refine from_done rfl ?_
    replace HF := HF.sub (σ' := [(24, .int .i64 2), (21, .int .i64 70), (91, .bool false), (89, .int .i64 6), (88, .slice (some ⟨g88, 0, none⟩) 6 6), (90, .int .i64 (j : Int)), (11, .slice (some ⟨gr, 0, none⟩) es.length cr), (12, .pointer (some ⟨g12, 0, none⟩)), (38, .bool false), (10, .bool false), (0, .int .u8 (cpu : Int)), (3, .int .u8 (way : Int)), (4, .int .i64 n)]) (by kernel_rfl)
    replace HM := HM.picks (fs' := [.row (.slice (some ⟨g88, 0, none⟩) 6 6) 6 (bads.flatMap fun b => b.cells.toList) 23 2, .blk g12 b.based.cells 23, .row (.slice (some ⟨gr, 0, none⟩) es.length cr) es.length (es.flatMap evL) 37 11]) [1, 2, 3] (by decide) rfl
    refine wp_seq ?_
    refine from_start ?_
    refine from_yl (S := fun wS => Mem w wS _) HF HM (i := 0) rfl rfl (d := 132) rfl (by decide) (v := .agg #[.int .i64 0, .int .i64 0]) (Yl.build (vs := []) rfl (by kernel_rfl) (by kernel_rfl)) ?_; clear HF; intro a HF
    refine from_pures HF 1 1 (j := 2) [(133, .int .u8 (cpu : Int))] (by kernel_rfl) rfl ?_; clear HF; intro a HF
    refine from_op HF (i := 2) rfl rfl ?_
    refine e_call HF (vs := [.agg #[.int .i64 0, .int .i64 0], .int .u8 (cpu : Int), .slice none 0 0]) rfl (by kernel_rfl) (by kernel_rfl) rfl (by decide) (take_is ⟨0, 0⟩ cpu hcpu none 0 0 [] B _ (hL.mem HM hB) (HM.le hB) Rd.nil (Nat.le_refl _) (by simp) (by omega) (e := Ev.zero) (L := 0) (er := 70) rfl) ?_
    rintro _ w134 ⟨rfl, hbw⟩
    refine ⟨_, rfl, ?_⟩
    replace HM := HM.call hbw
    clear HF; intro a HF
    refine from_pures HF 4 3 (j := 7) [(137, .int .i64 70), (136, .int .i64 0), (135, .agg Ev.zero.cells), (131, .tuple #[.agg Ev.zero.cells, .int .i64 0, .int .i64 70])] (by kernel_rfl) rfl ?_; clear HF; intro a HF
    refine from_op HF (i := 7) rfl rfl ?_
    refine e_alloc HF HM (cs := #[.int .i64 0, .int .i64 0, .int .u8 0, .int .u8 0, .int .i64 0, .int .i64 0, .int .i64 0, .int .i64 0, .int .i64 0, .int .u64 0, .int .i64 0]) rfl (by kernel_rfl) rfl (by decide) ?_
    clear HF HM; intro a w25 g25 HF HM
    refine from_op HF (i := 8) rfl rfl ?_
    refine e_storeAll HF HM (i := 0) (cs := #[.int .i64 0, .int .i64 0, .int .u8 0, .int .u8 0, .int .i64 0, .int .i64 0, .int .i64 0, .int .i64 0, .int .i64 0, .int .u64 0, .int .i64 0]) (ds := Ev.zero.cells) rfl rfl rfl rfl ⟨(by kernel_rfl), (by kernel_rfl)⟩ rfl rfl (ev_one Ev.zero) rfl ?_
    clear HM; intro w14_8 HM
    refine from_pures HF 2 9 (j := 11) [(27, .int .i64 70), (26, .int .i64 0)] (by kernel_rfl) rfl ?_; clear HF; intro a HF
    refine from_done rfl ?_
    replace HF := HF.sub (σ' := [(27, .int .i64 70), (24, .int .i64 2), (21, .int .i64 70), (91, .bool false), (89, .int .i64 6), (88, .slice (some ⟨g88, 0, none⟩) 6 6), (90, .int .i64 (j : Int)), (11, .slice (some ⟨gr, 0, none⟩) es.length cr), (12, .pointer (some ⟨g12, 0, none⟩)), (38, .bool false), (10, .bool false), (0, .int .u8 (cpu : Int)), (3, .int .u8 (way : Int)), (4, .int .i64 n)]) (by kernel_rfl)
    replace HM := HM.picks (fs' := [.row (.slice (some ⟨g88, 0, none⟩) 6 6) 6 (bads.flatMap fun b => b.cells.toList) 23 2, .blk g12 b.based.cells 23, .row (.slice (some ⟨gr, 0, none⟩) es.length cr) es.length (es.flatMap evL) 37 11]) [1, 2, 3] (by decide) rfl
    refine cut_seq (fun aS wS => ∃ (g145 : Nat) (g28 : Nat), Fr aS 283 [] [(30, .int .i64 60), (27, .int .i64 70), (24, .int .i64 2), (21, .int .i64 70), (91, .bool false), (89, .int .i64 6), (88, .slice (some ⟨g88, 0, none⟩) 6 6), (90, .int .i64 (j : Int)), (11, .slice (some ⟨gr, 0, none⟩) es.length cr), (12, .pointer (some ⟨g12, 0, none⟩)), (38, .bool false), (10, .bool false), (0, .int .u8 (cpu : Int)), (3, .int .u8 (way : Int)), (4, .int .i64 n)] ∧ Mem w wS [.row (.slice (some ⟨g88, 0, none⟩) 6 6) 6 (bads.flatMap fun b => b.cells.toList) 23 2, .blk g12 b.based.cells 23, .row (.slice (some ⟨gr, 0, none⟩) es.length cr) es.length (es.flatMap evL) 37 11]) ?_ ?_
    ·
      refine any_start (by kernel_rfl) (fun wS => Mem w wS [.row (.slice (some ⟨g88, 0, none⟩) 6 6) 6 (bads.flatMap fun b => b.cells.toList) 23 2, .blk g12 b.based.cells 23, .row (.slice (some ⟨gr, 0, none⟩) es.length cr) es.length (es.flatMap evL) 37 11]) [13] ?_
      replace HM := HM.drew
      have HS := HM.picks (fs' := [.row (.slice (some ⟨g88, 0, none⟩) 6 6) 6 (bads.flatMap fun b => b.cells.toList) 23 2, .blk g12 b.based.cells 23, .row (.slice (some ⟨gr, 0, none⟩) es.length cr) es.length (es.flatMap evL) 37 11]) [0, 1, 2] (by decide) rfl
      refine any_pures HF (fun _ => HS) (fun _ _ d _ _ h => by cases d <;> exact h) [1, 2] #[false, true, true, false, false, false, false, false, false, false, false, false, false, false, false, false] [(141, .int .i64 n), (140, .int .u8 (cpu : Int))] (by kernel_rfl) ?_; clear HF; intro a HF
      refine any_yl HF HS (i := 0) rfl rfl (d := 139) rfl (by decide) (by kernel_rfl) (fun _ _ _ h => h) (v := .agg b.based.cells) (Yl.loadS rfl rfl ⟨(by kernel_rfl), (by kernel_rfl)⟩ rfl (fun _ h => range_of_block (h.blk (i := 1) rfl))) ?_; clear HF; intro a HF
      refine any_all [3, 12] (by kernel_rfl) rfl ?_
      refine all_cons ?_ ?_
      · refine any_op HF (i := 3) rfl rfl ?_
        refine e_call HF (vs := [.int .i64 n, .int .i64 245]) rfl (by kernel_rfl) (by kernel_rfl) rfl (by decide) (hp245 _) ?_
        rintro _ w142 ⟨rfl, rfl⟩
        refine ⟨_, rfl, ?_⟩
        replace HM := HM
        clear HF; intro a HF
        refine keepS (HM.picks [0, 1, 2] (by decide) rfl) (fun HS => ?_)
        refine any_pure HF (fun _ => HS) (i := 4) rfl rfl (d := 143) rfl (by decide) (by kernel_rfl) (fun _ _ _ h => h) (v := .int .i64 (IntKind.i64.wrap (11 + (p : Int)))) (fun _ => Yl.pure (by kernel_rfl)) ?_; clear HF; intro a HF
        replace HF := HF.as (t := 143) (u := .int .i64 ((11 + p : Nat) : Int)) rfl (by rw [IntWalk.i64_in _ (by omega)]; simp)
        refine any_pure HF (fun _ => HS) (i := 5) rfl rfl (d := 144) rfl (by decide) (by kernel_rfl) (fun _ _ _ h => h) (v := .int .u8 (IntKind.u8.wrap ((11 + p : Nat) : Int))) (fun _ => Yl.pure (by kernel_rfl)) ?_; clear HF; intro a HF
        replace HF := HF.as (t := 144) (u := .int .u8 ((11 + p : Nat) : Int)) rfl (by rw [hw8])
        refine any_all [6, 12] (by kernel_rfl) rfl ?_
        refine all_cons ?_ ?_
        · refine any_op HF (i := 6) rfl rfl ?_
          refine e_slice HF HM (vs := [(0, .int .u8 ((11 + p : Nat) : Int)), (1, .int .u8 0), (2, .int .u8 0), (3, .int .u8 1)]) (cs := #[.int .u8 ((11 + p : Nat) : Int), .int .u8 0, .int .u8 0, .int .u8 1]) rfl ei_u8 (by decide) rfl (by kernel_rfl) rfl (by decide) ?_
          clear HF HM; intro a w145 g145 HF HM
          refine keepS (HM.picks [1, 2, 3] (by decide) rfl) (fun HS => ?_)
          refine any_all [7, 12] (by kernel_rfl) rfl ?_
          refine all_cons ?_ ?_
          · refine any_op HF (i := 7) rfl rfl ?_
            refine e_call HF (vs := [.agg b.based.cells, .int .u8 (cpu : Int), .slice (some ⟨g145, 0, none⟩) 4 4]) rfl (by kernel_rfl) (by kernel_rfl) rfl (by decide) (take_is b.based cpu hcpu _ 4 4 [11 + p, 0, 0, 1] B _ (hL.mem HM hB) (HM.le hB) (HM.rdBlk (i := 0) (n := 4) (size := 1) rfl rfl) (Nat.le_refl _) hp4 (by omega) (e := Ev.zero) (L := 0) (er := 60) htk) ?_
            rintro _ w146 ⟨rfl, hbw⟩
            refine ⟨_, rfl, ?_⟩
            replace HM := HM.call hbw
            clear HF; intro a HF
            refine keepS (HM.picks [1, 2, 3] (by decide) rfl) (fun HS => ?_)
            refine any_pures HF (fun _ => HS) (fun _ _ d _ _ h => by cases d <;> exact h) [8, 9, 10, 11] #[true, true, true, true, true, true, true, true, true, true, true, true, false, false, false, false] [(149, .int .i64 60), (148, .int .i64 0), (147, .agg Ev.zero.cells), (138, .tuple #[.agg Ev.zero.cells, .int .i64 0, .int .i64 60])] (by kernel_rfl) ?_; clear HF; intro a HF
            refine any_all [12] (by kernel_rfl) rfl ?_
            refine all_cons ?_ all_nil
            refine any_op HF (i := 12) rfl rfl ?_
            refine e_alloc HF HM (cs := #[.int .i64 0, .int .i64 0, .int .u8 0, .int .u8 0, .int .i64 0, .int .i64 0, .int .i64 0, .int .i64 0, .int .i64 0, .int .u64 0, .int .i64 0]) rfl (by kernel_rfl) rfl (by decide) ?_
            clear HF HM; intro a w28 g28 HF HM
            refine keepS (HM.picks [2, 3, 4] (by decide) rfl) (fun HS => ?_)
            refine any_all [13] (by kernel_rfl) rfl ?_
            refine all_cons ?_ all_nil
            refine any_op HF (i := 13) rfl rfl ?_
            refine e_storeAll HF HM (i := 0) (cs := #[.int .i64 0, .int .i64 0, .int .u8 0, .int .u8 0, .int .i64 0, .int .i64 0, .int .i64 0, .int .i64 0, .int .i64 0, .int .u64 0, .int .i64 0]) (ds := Ev.zero.cells) rfl rfl rfl rfl ⟨(by kernel_rfl), (by kernel_rfl)⟩ rfl rfl (ev_one Ev.zero) rfl ?_
            clear HM; intro w15_13 HM
            refine noS (by kernel_rfl) ?_
            refine any_pures HF (pastS (by kernel_rfl)) (fun _ _ d _ _ h => by cases d <;> exact h) [14, 15] #[true, true, true, true, true, true, true, true, true, true, true, true, true, true, true, true] [(30, .int .i64 60), (29, .int .i64 0)] (by kernel_rfl) ?_; clear HF; intro a HF
            refine any_done (by kernel_rfl) ?_
            replace HF := HF.sub (σ' := [(30, .int .i64 60), (27, .int .i64 70), (24, .int .i64 2), (21, .int .i64 70), (91, .bool false), (89, .int .i64 6), (88, .slice (some ⟨g88, 0, none⟩) 6 6), (90, .int .i64 (j : Int)), (11, .slice (some ⟨gr, 0, none⟩) es.length cr), (12, .pointer (some ⟨g12, 0, none⟩)), (38, .bool false), (10, .bool false), (0, .int .u8 (cpu : Int)), (3, .int .u8 (way : Int)), (4, .int .i64 n)]) (by kernel_rfl)
            replace HM := HM.picks (fs' := [.row (.slice (some ⟨g88, 0, none⟩) 6 6) 6 (bads.flatMap fun b => b.cells.toList) 23 2, .blk g12 b.based.cells 23, .row (.slice (some ⟨gr, 0, none⟩) es.length cr) es.length (es.flatMap evL) 37 11]) [2, 3, 4] (by decide) rfl
            exact ⟨g145, g28, HF.sub (by kernel_rfl), HM.picks [0, 1, 2] (by decide) rfl⟩
          refine all_cons ?_ all_nil
          refine any_op HF (i := 12) rfl rfl ?_
          refine e_alloc HF HM (cs := #[.int .i64 0, .int .i64 0, .int .u8 0, .int .u8 0, .int .i64 0, .int .i64 0, .int .i64 0, .int .i64 0, .int .i64 0, .int .u64 0, .int .i64 0]) rfl (by kernel_rfl) rfl (by decide) ?_
          clear HF HM; intro a w28 g28 HF HM
          refine keepS (HM.picks [2, 3, 4] (by decide) rfl) (fun HS => ?_)
          refine any_all [7] (by kernel_rfl) rfl ?_
          refine all_cons ?_ all_nil
          refine any_op HF (i := 7) rfl rfl ?_
          refine e_call HF (vs := [.agg b.based.cells, .int .u8 (cpu : Int), .slice (some ⟨g145, 0, none⟩) 4 4]) rfl (by kernel_rfl) (by kernel_rfl) rfl (by decide) (take_is b.based cpu hcpu _ 4 4 [11 + p, 0, 0, 1] B _ (hL.mem HM hB) (HM.le hB) (HM.rdBlk (i := 1) (n := 4) (size := 1) rfl rfl) (Nat.le_refl _) hp4 (by omega) (e := Ev.zero) (L := 0) (er := 60) htk) ?_
          rintro _ w146 ⟨rfl, hbw⟩
          refine ⟨_, rfl, ?_⟩
          replace HM := HM.call hbw
          clear HF; intro a HF
          refine keepS (HM.picks [2, 3, 4] (by decide) rfl) (fun HS => ?_)
          refine any_pures HF (fun _ => HS) (fun _ _ d _ _ h => by cases d <;> exact h) [8, 9, 10, 11] #[true, true, true, true, true, true, true, true, true, true, true, true, true, false, false, false] [(149, .int .i64 60), (148, .int .i64 0), (147, .agg Ev.zero.cells), (138, .tuple #[.agg Ev.zero.cells, .int .i64 0, .int .i64 60])] (by kernel_rfl) ?_; clear HF; intro a HF
          refine any_all [13] (by kernel_rfl) rfl ?_
          refine all_cons ?_ all_nil
          refine any_op HF (i := 13) rfl rfl ?_
          refine e_storeAll HF HM (i := 0) (cs := #[.int .i64 0, .int .i64 0, .int .u8 0, .int .u8 0, .int .i64 0, .int .i64 0, .int .i64 0, .int .i64 0, .int .i64 0, .int .u64 0, .int .i64 0]) (ds := Ev.zero.cells) rfl rfl rfl rfl ⟨(by kernel_rfl), (by kernel_rfl)⟩ rfl rfl (ev_one Ev.zero) rfl ?_
          clear HM; intro w15_13 HM
          refine noS (by kernel_rfl) ?_
          refine any_pures HF (pastS (by kernel_rfl)) (fun _ _ d _ _ h => by cases d <;> exact h) [14, 15] #[true, true, true, true, true, true, true, true, true, true, true, true, true, true, true, true] [(30, .int .i64 60), (29, .int .i64 0)] (by kernel_rfl) ?_; clear HF; intro a HF
          refine any_done (by kernel_rfl) ?_
          replace HF := HF.sub (σ' := [(30, .int .i64 60), (27, .int .i64 70), (24, .int .i64 2), (21, .int .i64 70), (91, .bool false), (89, .int .i64 6), (88, .slice (some ⟨g88, 0, none⟩) 6 6), (90, .int .i64 (j : Int)), (11, .slice (some ⟨gr, 0, none⟩) es.length cr), (12, .pointer (some ⟨g12, 0, none⟩)), (38, .bool false), (10, .bool false), (0, .int .u8 (cpu : Int)), (3, .int .u8 (way : Int)), (4, .int .i64 n)]) (by kernel_rfl)
          replace HM := HM.picks (fs' := [.row (.slice (some ⟨g88, 0, none⟩) 6 6) 6 (bads.flatMap fun b => b.cells.toList) 23 2, .blk g12 b.based.cells 23, .row (.slice (some ⟨gr, 0, none⟩) es.length cr) es.length (es.flatMap evL) 37 11]) [2, 3, 4] (by decide) rfl
          exact ⟨g145, g28, HF.sub (by kernel_rfl), HM.picks [0, 1, 2] (by decide) rfl⟩
        refine all_cons ?_ all_nil
        refine any_op HF (i := 12) rfl rfl ?_
        refine e_alloc HF HM (cs := #[.int .i64 0, .int .i64 0, .int .u8 0, .int .u8 0, .int .i64 0, .int .i64 0, .int .i64 0, .int .i64 0, .int .i64 0, .int .u64 0, .int .i64 0]) rfl (by kernel_rfl) rfl (by decide) ?_
        clear HF HM; intro a w28 g28 HF HM
        refine keepS (HM.picks [1, 2, 3] (by decide) rfl) (fun HS => ?_)
        refine any_all [6] (by kernel_rfl) rfl ?_
        refine all_cons ?_ all_nil
        refine any_op HF (i := 6) rfl rfl ?_
        refine e_slice HF HM (vs := [(0, .int .u8 ((11 + p : Nat) : Int)), (1, .int .u8 0), (2, .int .u8 0), (3, .int .u8 1)]) (cs := #[.int .u8 ((11 + p : Nat) : Int), .int .u8 0, .int .u8 0, .int .u8 1]) rfl ei_u8 (by decide) rfl (by kernel_rfl) rfl (by decide) ?_
        clear HF HM; intro a w145 g145 HF HM
        refine keepS (HM.picks [2, 3, 4] (by decide) rfl) (fun HS => ?_)
        refine any_all [7] (by kernel_rfl) rfl ?_
        refine all_cons ?_ all_nil
        refine any_op HF (i := 7) rfl rfl ?_
        refine e_call HF (vs := [.agg b.based.cells, .int .u8 (cpu : Int), .slice (some ⟨g145, 0, none⟩) 4 4]) rfl (by kernel_rfl) (by kernel_rfl) rfl (by decide) (take_is b.based cpu hcpu _ 4 4 [11 + p, 0, 0, 1] B _ (hL.mem HM hB) (HM.le hB) (HM.rdBlk (i := 0) (n := 4) (size := 1) rfl rfl) (Nat.le_refl _) hp4 (by omega) (e := Ev.zero) (L := 0) (er := 60) htk) ?_
        rintro _ w146 ⟨rfl, hbw⟩
        refine ⟨_, rfl, ?_⟩
        replace HM := HM.call hbw
        clear HF; intro a HF
        refine keepS (HM.picks [2, 3, 4] (by decide) rfl) (fun HS => ?_)
        refine any_pures HF (fun _ => HS) (fun _ _ d _ _ h => by cases d <;> exact h) [8, 9, 10, 11] #[true, true, true, true, true, true, true, true, true, true, true, true, true, false, false, false] [(149, .int .i64 60), (148, .int .i64 0), (147, .agg Ev.zero.cells), (138, .tuple #[.agg Ev.zero.cells, .int .i64 0, .int .i64 60])] (by kernel_rfl) ?_; clear HF; intro a HF
        refine any_all [13] (by kernel_rfl) rfl ?_
        refine all_cons ?_ all_nil
        refine any_op HF (i := 13) rfl rfl ?_
        refine e_storeAll HF HM (i := 1) (cs := #[.int .i64 0, .int .i64 0, .int .u8 0, .int .u8 0, .int .i64 0, .int .i64 0, .int .i64 0, .int .i64 0, .int .i64 0, .int .u64 0, .int .i64 0]) (ds := Ev.zero.cells) rfl rfl rfl rfl ⟨(by kernel_rfl), (by kernel_rfl)⟩ rfl rfl (ev_one Ev.zero) rfl ?_
        clear HM; intro w15_13 HM
        refine noS (by kernel_rfl) ?_
        refine any_pures HF (pastS (by kernel_rfl)) (fun _ _ d _ _ h => by cases d <;> exact h) [14, 15] #[true, true, true, true, true, true, true, true, true, true, true, true, true, true, true, true] [(30, .int .i64 60), (29, .int .i64 0)] (by kernel_rfl) ?_; clear HF; intro a HF
        refine any_done (by kernel_rfl) ?_
        replace HF := HF.sub (σ' := [(30, .int .i64 60), (27, .int .i64 70), (24, .int .i64 2), (21, .int .i64 70), (91, .bool false), (89, .int .i64 6), (88, .slice (some ⟨g88, 0, none⟩) 6 6), (90, .int .i64 (j : Int)), (11, .slice (some ⟨gr, 0, none⟩) es.length cr), (12, .pointer (some ⟨g12, 0, none⟩)), (38, .bool false), (10, .bool false), (0, .int .u8 (cpu : Int)), (3, .int .u8 (way : Int)), (4, .int .i64 n)]) (by kernel_rfl)
        replace HM := HM.picks (fs' := [.row (.slice (some ⟨g88, 0, none⟩) 6 6) 6 (bads.flatMap fun b => b.cells.toList) 23 2, .blk g12 b.based.cells 23, .row (.slice (some ⟨gr, 0, none⟩) es.length cr) es.length (es.flatMap evL) 37 11]) [2, 3, 4] (by decide) rfl
        exact ⟨g145, g28, HF.sub (by kernel_rfl), HM.picks [0, 1, 2] (by decide) rfl⟩
      refine all_cons ?_ all_nil
      refine any_op HF (i := 12) rfl rfl ?_
      refine e_alloc HF HM (cs := #[.int .i64 0, .int .i64 0, .int .u8 0, .int .u8 0, .int .i64 0, .int .i64 0, .int .i64 0, .int .i64 0, .int .i64 0, .int .u64 0, .int .i64 0]) rfl (by kernel_rfl) rfl (by decide) ?_
      clear HF HM; intro a w28 g28 HF HM
      refine keepS (HM.picks [1, 2, 3] (by decide) rfl) (fun HS => ?_)
      refine any_all [3] (by kernel_rfl) rfl ?_
      refine all_cons ?_ all_nil
      refine any_op HF (i := 3) rfl rfl ?_
      refine e_call HF (vs := [.int .i64 n, .int .i64 245]) rfl (by kernel_rfl) (by kernel_rfl) rfl (by decide) (hp245 _) ?_
      rintro _ w142 ⟨rfl, rfl⟩
      refine ⟨_, rfl, ?_⟩
      replace HM := HM
      clear HF; intro a HF
      refine keepS (HM.picks [1, 2, 3] (by decide) rfl) (fun HS => ?_)
      refine any_pure HF (fun _ => HS) (i := 4) rfl rfl (d := 143) rfl (by decide) (by kernel_rfl) (fun _ _ _ h => h) (v := .int .i64 (IntKind.i64.wrap (11 + (p : Int)))) (fun _ => Yl.pure (by kernel_rfl)) ?_; clear HF; intro a HF
      replace HF := HF.as (t := 143) (u := .int .i64 ((11 + p : Nat) : Int)) rfl (by rw [IntWalk.i64_in _ (by omega)]; simp)
      refine any_pure HF (fun _ => HS) (i := 5) rfl rfl (d := 144) rfl (by decide) (by kernel_rfl) (fun _ _ _ h => h) (v := .int .u8 (IntKind.u8.wrap ((11 + p : Nat) : Int))) (fun _ => Yl.pure (by kernel_rfl)) ?_; clear HF; intro a HF
      replace HF := HF.as (t := 144) (u := .int .u8 ((11 + p : Nat) : Int)) rfl (by rw [hw8])
      refine any_all [6] (by kernel_rfl) rfl ?_
      refine all_cons ?_ all_nil
      refine any_op HF (i := 6) rfl rfl ?_
      refine e_slice HF HM (vs := [(0, .int .u8 ((11 + p : Nat) : Int)), (1, .int .u8 0), (2, .int .u8 0), (3, .int .u8 1)]) (cs := #[.int .u8 ((11 + p : Nat) : Int), .int .u8 0, .int .u8 0, .int .u8 1]) rfl ei_u8 (by decide) rfl (by kernel_rfl) rfl (by decide) ?_
      clear HF HM; intro a w145 g145 HF HM
      refine keepS (HM.picks [2, 3, 4] (by decide) rfl) (fun HS => ?_)
      refine any_all [7] (by kernel_rfl) rfl ?_
      refine all_cons ?_ all_nil
      refine any_op HF (i := 7) rfl rfl ?_
      refine e_call HF (vs := [.agg b.based.cells, .int .u8 (cpu : Int), .slice (some ⟨g145, 0, none⟩) 4 4]) rfl (by kernel_rfl) (by kernel_rfl) rfl (by decide) (take_is b.based cpu hcpu _ 4 4 [11 + p, 0, 0, 1] B _ (hL.mem HM hB) (HM.le hB) (HM.rdBlk (i := 0) (n := 4) (size := 1) rfl rfl) (Nat.le_refl _) hp4 (by omega) (e := Ev.zero) (L := 0) (er := 60) htk) ?_
      rintro _ w146 ⟨rfl, hbw⟩
      refine ⟨_, rfl, ?_⟩
      replace HM := HM.call hbw
      clear HF; intro a HF
      refine keepS (HM.picks [2, 3, 4] (by decide) rfl) (fun HS => ?_)
      refine any_pures HF (fun _ => HS) (fun _ _ d _ _ h => by cases d <;> exact h) [8, 9, 10, 11] #[true, true, true, true, true, true, true, true, true, true, true, true, true, false, false, false] [(149, .int .i64 60), (148, .int .i64 0), (147, .agg Ev.zero.cells), (138, .tuple #[.agg Ev.zero.cells, .int .i64 0, .int .i64 60])] (by kernel_rfl) ?_; clear HF; intro a HF
      refine any_all [13] (by kernel_rfl) rfl ?_
      refine all_cons ?_ all_nil
      refine any_op HF (i := 13) rfl rfl ?_
      refine e_storeAll HF HM (i := 1) (cs := #[.int .i64 0, .int .i64 0, .int .u8 0, .int .u8 0, .int .i64 0, .int .i64 0, .int .i64 0, .int .i64 0, .int .i64 0, .int .u64 0, .int .i64 0]) (ds := Ev.zero.cells) rfl rfl rfl rfl ⟨(by kernel_rfl), (by kernel_rfl)⟩ rfl rfl (ev_one Ev.zero) rfl ?_
      clear HM; intro w15_13 HM
      refine noS (by kernel_rfl) ?_
      refine any_pures HF (pastS (by kernel_rfl)) (fun _ _ d _ _ h => by cases d <;> exact h) [14, 15] #[true, true, true, true, true, true, true, true, true, true, true, true, true, true, true, true] [(30, .int .i64 60), (29, .int .i64 0)] (by kernel_rfl) ?_; clear HF; intro a HF
      refine any_done (by kernel_rfl) ?_
      replace HF := HF.sub (σ' := [(30, .int .i64 60), (27, .int .i64 70), (24, .int .i64 2), (21, .int .i64 70), (91, .bool false), (89, .int .i64 6), (88, .slice (some ⟨g88, 0, none⟩) 6 6), (90, .int .i64 (j : Int)), (11, .slice (some ⟨gr, 0, none⟩) es.length cr), (12, .pointer (some ⟨g12, 0, none⟩)), (38, .bool false), (10, .bool false), (0, .int .u8 (cpu : Int)), (3, .int .u8 (way : Int)), (4, .int .i64 n)]) (by kernel_rfl)
      replace HM := HM.picks (fs' := [.row (.slice (some ⟨g88, 0, none⟩) 6 6) 6 (bads.flatMap fun b => b.cells.toList) 23 2, .blk g12 b.based.cells 23, .row (.slice (some ⟨gr, 0, none⟩) es.length cr) es.length (es.flatMap evL) 37 11]) [2, 3, 4] (by decide) rfl
      exact ⟨g145, g28, HF.sub (by kernel_rfl), HM.picks [0, 1, 2] (by decide) rfl⟩
    clear HF HM; rintro a w15 ⟨g145, g28, HF, HM⟩
    refine wp_seq ?_
    refine wp_seq ?_
    refine from_start ?_
    refine from_pures HF 14 0 (j := 14) [(163, .bool false), (162, .bool false), (161, .int .i64 60), (160, .bool false), (159, .bool false), (158, .bool false), (157, .int .i64 70), (156, .bool false), (155, .bool false), (154, .bool false), (153, .int .i64 2), (152, .bool false), (151, .bool false), (150, .int .i64 70)] (by kernel_rfl) rfl ?_; clear HF; intro a HF
    refine from_done rfl ?_
    replace HF := HF.sub (σ' := [(163, .bool false), (91, .bool false), (89, .int .i64 6), (88, .slice (some ⟨g88, 0, none⟩) 6 6), (90, .int .i64 (j : Int)), (11, .slice (some ⟨gr, 0, none⟩) es.length cr), (12, .pointer (some ⟨g12, 0, none⟩)), (38, .bool false), (10, .bool false), (0, .int .u8 (cpu : Int)), (3, .int .u8 (way : Int)), (4, .int .i64 n)]) (by kernel_rfl)
    refine cond_false HF rfl ?_
    refine wp_skip ?_
    refine wp_seq ?_
    refine from_start ?_
    refine from_pures HF 2 0 (j := 2) [(165, .slice (some ⟨gr, 0, none⟩) es.length cr), (164, .int .i64 n)] (by kernel_rfl) rfl ?_; clear HF; intro a HF
    refine from_yl (S := fun wS => Mem w wS _) HF HM (i := 2) rfl rfl (d := 166) rfl (by decide) (v := .int .i64 ((es.length : Nat) : Int)) (Yl.len rfl rfl (by kernel_rfl)) ?_; clear HF; intro a HF
    refine from_pures HF 1 3 (j := 4) [(167, .int .i64 (IntKind.i64.wrap (((es.length : Nat) : Int) - 1)))] (by kernel_rfl) rfl ?_; clear HF; intro a HF
    replace HF := HF.as (t := 167) (u := .int .i64 ((es.length - 1 : Nat) : Int)) rfl (by rw [IntWalk.i64_in _ (by omega)]; congr 1; omega)
    refine from_op HF (i := 4) rfl rfl ?_
    refine e_call HF (vs := [.int .i64 n, .int .i64 ((es.length - 1 : Nat) : Int)]) rfl (by kernel_rfl) (by kernel_rfl) rfl (by decide) (hpk _) ?_
    rintro _ w168 ⟨rfl, rfl⟩
    refine ⟨_, rfl, ?_⟩
    replace HM := HM
    clear HF; intro a HF
    refine from_pures HF 1 5 (j := 6) [(169, .int .i64 (IntKind.i64.wrap (1 + (k1 : Int))))] (by kernel_rfl) rfl ?_; clear HF; intro a HF
    replace HF := HF.as (t := 169) (u := .int .i64 (k : Int)) rfl (by rw [IntWalk.i64_in _ (by omega)]; congr 1; omega)
    refine from_pures HF 1 6 (j := 7) [(31, .int .i64 (k : Int))] (by kernel_rfl) rfl ?_; clear HF; intro a HF
    refine from_done rfl ?_
    replace HF := HF.sub (σ' := [(31, .int .i64 (k : Int)), (163, .bool false), (91, .bool false), (89, .int .i64 6), (88, .slice (some ⟨g88, 0, none⟩) 6 6), (90, .int .i64 (j : Int)), (11, .slice (some ⟨gr, 0, none⟩) es.length cr), (12, .pointer (some ⟨g12, 0, none⟩)), (38, .bool false), (10, .bool false), (0, .int .u8 (cpu : Int)), (3, .int .u8 (way : Int)), (4, .int .i64 n)]) (by kernel_rfl)
    refine wp_seq ?_
    refine from_start ?_
    refine from_pures HF 1 0 (j := 1) [(32, .int .i64 71)] (by kernel_rfl) rfl ?_; clear HF; intro a HF
    refine from_done rfl ?_
    refine wp_seq ?_
    refine wp_seq ?_
    refine from_start ?_
    refine from_pures HF 2 0 (j := 2) [(171, .int .u8 (Int.tmod (way : Int) 6)), (170, .int .u8 (way : Int))] (by kernel_rfl) rfl ?_; clear HF; intro a HF
    replace HF := HF.as (t := 171) (u := .int .u8 (r : Int)) rfl (by rw [hway])
    refine from_done rfl ?_
    replace HF := HF.sub (σ' := [(171, .int .u8 (r : Int)), (32, .int .i64 71), (31, .int .i64 (k : Int)), (163, .bool false), (91, .bool false), (89, .int .i64 6), (88, .slice (some ⟨g88, 0, none⟩) 6 6), (90, .int .i64 (j : Int)), (11, .slice (some ⟨gr, 0, none⟩) es.length cr), (12, .pointer (some ⟨g12, 0, none⟩)), (38, .bool false), (10, .bool false), (0, .int .u8 (cpu : Int)), (4, .int .i64 n)]) (by kernel_rfl)
    rcases (by omega : r = 0 ∨ r = 1 ∨ r = 2 ∨ r = 3 ∨ r = 4 ∨ r = 5) with rfl | rfl | rfl | rfl | rfl | rfl
    ·
      have hx := hx0 rfl
      refine wp_block ?_
      refine wp_seq ?_
      refine from_start ?_
      refine from_pures HF 2 0 (j := 2) [(191, .bool true), (192, .bool true)] (by kernel_rfl) rfl ?_; clear HF; intro a HF
      refine from_done rfl ?_
      replace HF := HF.sub (σ' := [(191, .bool true), (171, .int .u8 0), (32, .int .i64 71), (31, .int .i64 (k : Int)), (163, .bool false), (91, .bool false), (89, .int .i64 6), (88, .slice (some ⟨g88, 0, none⟩) 6 6), (90, .int .i64 (j : Int)), (11, .slice (some ⟨gr, 0, none⟩) es.length cr), (12, .pointer (some ⟨g12, 0, none⟩)), (38, .bool false), (10, .bool false), (0, .int .u8 (cpu : Int)), (4, .int .i64 n)]) (by kernel_rfl)
      refine cond_true HF rfl ?_
      refine from_start ?_
      refine from_pures HF 5 0 (j := 5) [(197, .int .i64 (IntKind.i64.wrap ((k : Int) - 1))), (196, .int .i64 (k : Int)), (195, .slice (some ⟨gr, 0, none⟩) es.length cr), (194, .int .i64 (k : Int)), (193, .slice (some ⟨gr, 0, none⟩) es.length cr)] (by kernel_rfl) rfl ?_; clear HF; intro a HF
      replace HF := HF.as (t := 197) (u := .int .i64 ((k - 1 : Nat) : Int)) rfl (by rw [IntWalk.i64_in _ (by omega)]; congr 1; omega)
      refine from_yl (S := fun wS => Mem w wS _) HF HM (i := 5) rfl rfl (d := 198) rfl (by decide) (v := .pointer (some ⟨gr, (k - 1) * 11, none⟩)) ((Yl.indexAddr (ad := ⟨gr, 0, none⟩) (y := (k - 1)) (sz := 11) rfl rfl rfl (by omega) (by kernel_rfl)).as (by rw [Addr.add_mid, Nat.zero_add])) ?_; clear HF; intro a HF
      refine from_pures HF 1 6 (j := 7) [(199, .pointer (some ⟨gr, (k - 1) * 11, none⟩))] (by kernel_rfl) rfl ?_; clear HF; intro a HF
      refine from_yl (S := fun wS => Mem w wS _) HF HM (i := 7) rfl rfl (d := 200) rfl (by decide) (v := .int .i64 ep.seq) (Yl.load1 rfl rfl (by kernel_rfl) (fun _ h => h.rowCell evL_len (i := 2) rfl (k := (k - 1)) (off := 0) (x := ep) hkp rfl)) ?_; clear HF; intro a HF
      refine from_yl (S := fun wS => Mem w wS _) HF HM (i := 8) rfl rfl (d := 201) rfl (by decide) (v := .pointer (some ⟨gr, k * 11, none⟩)) ((Yl.indexAddr (ad := ⟨gr, 0, none⟩) (y := k) (sz := 11) rfl rfl rfl (by omega) (by kernel_rfl)).as (by rw [Addr.add_mid, Nat.zero_add])) ?_; clear HF; intro a HF
      refine from_pures HF 1 9 (j := 10) [(202, .pointer (some ⟨gr, k * 11, none⟩))] (by kernel_rfl) rfl ?_; clear HF; intro a HF
      refine from_op HF (i := 10) rfl rfl ?_
      refine e_storeRow HF HM (i := 2) rfl rfl rfl rfl (by kernel_rfl) rfl rfl (by simp only [flat_len evL 11 evL_len]; omega) ?_
      clear HM; intro w24_10 HM
      replace HM := HM.asRow (i := 2) (ys := (es.set k (e.to3 ep.seq e.time e.cpu)).flatMap evL) rfl (putAt_cell evL 11 evL_len es k e (e.to3 ep.seq e.time e.cpu) hke 0 (by decide) _ rfl)
      refine from_done rfl ?_
      replace HF := HF.sub (σ' := [(191, .bool true), (171, .int .u8 0), (32, .int .i64 71), (31, .int .i64 (k : Int)), (163, .bool false), (91, .bool false), (89, .int .i64 6), (88, .slice (some ⟨g88, 0, none⟩) 6 6), (90, .int .i64 (j : Int)), (11, .slice (some ⟨gr, 0, none⟩) es.length cr), (12, .pointer (some ⟨g12, 0, none⟩)), (38, .bool false), (10, .bool false), (0, .int .u8 (cpu : Int)), (4, .int .i64 n)]) (by kernel_rfl)
      refine wp_seq ?_
      refine from_start ?_
      refine from_pures HF 1 0 (j := 1) [(255, .slice (some ⟨gr, 0, none⟩) es.length cr)] (by kernel_rfl) rfl ?_; clear HF; intro a HF
      refine from_op HF (i := 1) rfl rfl ?_
      refine e_call HF (vs := [.slice (some ⟨gr, 0, none⟩) es.length cr]) rfl (by kernel_rfl) (by kernel_rfl) rfl (by decide) (row_is _ _ _ _ hx.ok B _ (hL.mem HM hB) (HM.le hB) (HM.rd (i := 2) rfl) (by omega) hx.row) ?_
      rintro _ w256 ⟨rfl, hbw⟩
      refine ⟨_, rfl, ?_⟩
      replace HM := HM.call hbw
      clear HF; intro a HF
      refine from_pures HF 5 2 (j := 7) [(34, .int .i64 71), (33, .int .i64 (k : Int)), (258, .int .i64 71), (257, .int .i64 (k : Int)), (254, .tuple #[.int .i64 (k : Int), .int .i64 71])] (by kernel_rfl) rfl ?_; clear HF; intro a HF
      refine from_done rfl ?_
      replace HF := HF.sub (σ' := [(34, .int .i64 71), (33, .int .i64 (k : Int)), (191, .bool true), (171, .int .u8 0), (32, .int .i64 71), (31, .int .i64 (k : Int)), (163, .bool false), (91, .bool false), (89, .int .i64 6), (88, .slice (some ⟨g88, 0, none⟩) 6 6), (90, .int .i64 (j : Int)), (11, .slice (some ⟨gr, 0, none⟩) es.length cr), (12, .pointer (some ⟨g12, 0, none⟩)), (38, .bool false), (10, .bool false), (0, .int .u8 (cpu : Int)), (4, .int .i64 n)]) (by kernel_rfl)
      refine wp_seq ?_
      refine from_start ?_
      refine from_yl (S := fun wS => Mem w wS _) HF HM (i := 0) rfl rfl (d := 260) rfl (by decide) (v := .agg b.based.cells) (Yl.loadS rfl rfl ⟨(by kernel_rfl), (by kernel_rfl)⟩ rfl (fun _ h => range_of_block (h.blk (i := 1) rfl))) ?_; clear HF; intro a HF
      refine from_pures HF 1 1 (j := 2) [(261, .slice (some ⟨gr, 0, none⟩) es.length cr)] (by kernel_rfl) rfl ?_; clear HF; intro a HF
      refine from_op HF (i := 2) rfl rfl ?_
      refine e_call HF (vs := [.agg b.based.cells, .slice (some ⟨gr, 0, none⟩) es.length cr]) rfl (by kernel_rfl) (by kernel_rfl) rfl (by decide) (write_is b.based _ _ _ _ hx.ok B _ (hL.mem HM hB) (HM.le hB) (HM.rd (i := 2) rfl) (by omega) hx.err hx.out) ?_
      rintro _ w262 ⟨⟨A262, c262, rfl, ho, hc262⟩, hbw⟩
      refine ⟨_, rfl, ?_⟩
      replace HM := HM.callRow hbw ho
      clear HF; intro a HF
      refine from_pures HF 5 3 (j := 8) [(36, .int .i64 71), (35, .slice A262 0 c262), (264, .int .i64 71), (263, .slice A262 0 c262), (259, .tuple #[.slice A262 0 c262, .int .i64 71])] (by kernel_rfl) rfl ?_; clear HF; intro a HF
      refine from_done rfl ?_
      replace HF := HF.sub (σ' := [(36, .int .i64 71), (35, .slice A262 0 c262), (34, .int .i64 71), (33, .int .i64 (k : Int)), (191, .bool true), (171, .int .u8 0), (32, .int .i64 71), (31, .int .i64 (k : Int)), (163, .bool false), (91, .bool false), (89, .int .i64 6), (88, .slice (some ⟨g88, 0, none⟩) 6 6), (90, .int .i64 (j : Int)), (11, .slice (some ⟨gr, 0, none⟩) es.length cr), (12, .pointer (some ⟨g12, 0, none⟩)), (38, .bool false), (10, .bool false), (0, .int .u8 (cpu : Int)), (4, .int .i64 n)]) (by kernel_rfl)
      refine wp_seq ?_
      refine from_start ?_
      refine from_pures HF 3 0 (j := 3) [(267, .bool (((k : Int) : Int) == ((k : Int) : Int))), (266, .int .i64 (k : Int)), (265, .int .i64 (k : Int))] (by kernel_rfl) rfl ?_; clear HF; intro a HF
      replace HF := HF.as (t := 267) (u := .bool true) rfl (by simp)
      refine from_pures HF 12 3 (j := 15) [(279, .slice A262 0 c262), (278, .bool true), (277, .bool true), (276, .bool true), (275, .int .i64 71), (274, .int .i64 71), (273, .bool true), (272, .bool true), (271, .bool true), (270, .int .i64 71), (269, .int .i64 71), (268, .bool true)] (by kernel_rfl) rfl ?_; clear HF; intro a HF
      refine from_yl (S := fun wS => Mem w wS _) HF HM (i := 15) rfl rfl (d := 280) rfl (by decide) (v := .int .i64 0) (Yl.len rfl rfl (by kernel_rfl)) ?_; clear HF; intro a HF
      refine from_pures HF 3 16 (j := 19) [(10, .bool true), (282, .bool true), (281, .bool true)] (by kernel_rfl) rfl ?_; clear HF; intro a HF
      refine from_done rfl ?_
      replace HF := HF.sub (σ' := [(10, .bool true), (191, .bool true), (171, .int .u8 0), (31, .int .i64 (k : Int)), (163, .bool false), (91, .bool false), (89, .int .i64 6), (88, .slice (some ⟨g88, 0, none⟩) 6 6), (90, .int .i64 (j : Int)), (11, .slice (some ⟨gr, 0, none⟩) es.length cr), (12, .pointer (some ⟨g12, 0, none⟩)), (38, .bool false), (0, .int .u8 (cpu : Int)), (4, .int .i64 n)]) (by kernel_rfl)
      replace HM := HM.picks (fs' := [.row (.slice (some ⟨g88, 0, none⟩) 6 6) 6 (bads.flatMap fun b => b.cells.toList) 23 2, .blk g12 b.based.cells 23, .row (.slice (some ⟨gr, 0, none⟩) es.length cr) es.length ((es.set k (e.to3 ep.seq e.time e.cpu)).flatMap evL) 37 11]) [1, 2, 3] (by decide) rfl
      refine wp_ret ?_
      exact ret1 rfl HF (.tmp HF rfl) (⟨rfl, HM.below⟩)
    ·
      refine wp_block ?_
      refine wp_seq ?_
      refine from_start ?_
      refine from_pures HF 2 0 (j := 2) [(191, .bool false), (192, .bool false)] (by kernel_rfl) rfl ?_; clear HF; intro a HF
      refine from_done rfl ?_
      replace HF := HF.sub (σ' := [(191, .bool false), (171, .int .u8 1), (32, .int .i64 71), (31, .int .i64 (k : Int)), (163, .bool false), (91, .bool false), (89, .int .i64 6), (88, .slice (some ⟨g88, 0, none⟩) 6 6), (90, .int .i64 (j : Int)), (11, .slice (some ⟨gr, 0, none⟩) es.length cr), (12, .pointer (some ⟨g12, 0, none⟩)), (38, .bool false), (10, .bool false), (0, .int .u8 (cpu : Int)), (4, .int .i64 n)]) (by kernel_rfl)
      refine cond_false HF rfl ?_
      refine wp_seq ?_
      refine from_start ?_
      refine from_pures HF 2 0 (j := 2) [(203, .bool true), (204, .bool true)] (by kernel_rfl) rfl ?_; clear HF; intro a HF
      refine from_done rfl ?_
      replace HF := HF.sub (σ' := [(203, .bool true), (191, .bool false), (171, .int .u8 1), (32, .int .i64 71), (31, .int .i64 (k : Int)), (163, .bool false), (91, .bool false), (89, .int .i64 6), (88, .slice (some ⟨g88, 0, none⟩) 6 6), (90, .int .i64 (j : Int)), (11, .slice (some ⟨gr, 0, none⟩) es.length cr), (12, .pointer (some ⟨g12, 0, none⟩)), (38, .bool false), (10, .bool false), (0, .int .u8 (cpu : Int)), (4, .int .i64 n)]) (by kernel_rfl)
      refine cond_true HF rfl ?_
      refine wp_seq ?_
      refine from_start ?_
      refine from_pures HF 2 0 (j := 2) [(206, .int .i64 (k : Int)), (205, .slice (some ⟨gr, 0, none⟩) es.length cr)] (by kernel_rfl) rfl ?_; clear HF; intro a HF
      refine from_yl (S := fun wS => Mem w wS _) HF HM (i := 2) rfl rfl (d := 207) rfl (by decide) (v := .pointer (some ⟨gr, k * 11, none⟩)) ((Yl.indexAddr (ad := ⟨gr, 0, none⟩) (y := k) (sz := 11) rfl rfl rfl (by omega) (by kernel_rfl)).as (by rw [Addr.add_mid, Nat.zero_add])) ?_; clear HF; intro a HF
      refine from_pures HF 1 3 (j := 4) [(208, .pointer (some ⟨gr, k * 11, none⟩))] (by kernel_rfl) rfl ?_; clear HF; intro a HF
      refine from_op HF (i := 4) rfl rfl ?_
      refine e_storeRow HF HM (i := 2) rfl rfl rfl rfl (by kernel_rfl) rfl rfl (by simp only [flat_len evL 11 evL_len]; omega) ?_
      clear HM; intro w26_4 HM
      replace HM := HM.asRow (i := 2) (ys := (es.set k (e.to3 1 e.time e.cpu)).flatMap evL) rfl (putAt_cell evL 11 evL_len es k e (e.to3 1 e.time e.cpu) hke 0 (by decide) _ rfl)
      refine from_done rfl ?_
      replace HF := HF.sub (σ' := [(203, .bool true), (191, .bool false), (171, .int .u8 1), (32, .int .i64 71), (31, .int .i64 (k : Int)), (163, .bool false), (91, .bool false), (89, .int .i64 6), (88, .slice (some ⟨g88, 0, none⟩) 6 6), (90, .int .i64 (j : Int)), (11, .slice (some ⟨gr, 0, none⟩) es.length cr), (12, .pointer (some ⟨g12, 0, none⟩)), (38, .bool false), (10, .bool false), (0, .int .u8 (cpu : Int)), (4, .int .i64 n)]) (by kernel_rfl)
      refine wp_seq ?_
      refine from_start ?_
      refine from_pures HF 2 0 (j := 2) [(210, .bool (((k : Int) : Int) == (1 : Int))), (209, .int .i64 (k : Int))] (by kernel_rfl) rfl ?_; clear HF; intro a HF
      refine from_done rfl ?_
      replace HF := HF.sub (σ' := [(210, .bool (((k : Int) : Int) == (1 : Int))), (203, .bool true), (191, .bool false), (171, .int .u8 1), (32, .int .i64 71), (31, .int .i64 (k : Int)), (163, .bool false), (91, .bool false), (89, .int .i64 6), (88, .slice (some ⟨g88, 0, none⟩) 6 6), (90, .int .i64 (j : Int)), (11, .slice (some ⟨gr, 0, none⟩) es.length cr), (12, .pointer (some ⟨g12, 0, none⟩)), (38, .bool false), (10, .bool false), (0, .int .u8 (cpu : Int)), (4, .int .i64 n)]) (by kernel_rfl)
      rcases Bool.eq_false_or_eq_true (((k : Int) : Int) == (1 : Int)) with hb210 | hb210
      · have HF := HF.as (t := 210) (u := .bool true) rfl (by rw [hb210])
        have hkf : k = 1 := by rw [beq_iff_eq] at hb210; omega
        have hx := hx1b rfl hkf
        refine cond_true HF rfl ?_
        refine from_start ?_
        refine from_pures HF 3 0 (j := 3) [(213, .slice (some ⟨gr, 0, none⟩) es.length cr), (212, .int .i64 (k : Int)), (211, .slice (some ⟨gr, 0, none⟩) es.length cr)] (by kernel_rfl) rfl ?_; clear HF; intro a HF
        refine from_yl (S := fun wS => Mem w wS _) HF HM (i := 3) rfl rfl (d := 214) rfl (by decide) (v := .pointer (some ⟨gr, 0, none⟩)) (Yl.indexAddr (ad := ⟨gr, 0, none⟩) (y := 0) (sz := 11) rfl rfl rfl (by omega) (by kernel_rfl)) ?_; clear HF; intro a HF
        refine from_pures HF 1 4 (j := 5) [(215, .pointer (some ⟨gr, 0, none⟩))] (by kernel_rfl) rfl ?_; clear HF; intro a HF
        refine from_yl (S := fun wS => Mem w wS _) HF HM (i := 5) rfl rfl (d := 216) rfl (by decide) (v := .int .i64 e0.seq) (Yl.load1 rfl rfl (by kernel_rfl) (fun _ h => h.rowCell evL_len (i := 2) rfl (k := 0) (off := 0) (x := e0) h01 rfl)) ?_; clear HF; intro a HF
        refine from_yl (S := fun wS => Mem w wS _) HF HM (i := 6) rfl rfl (d := 217) rfl (by decide) (v := .pointer (some ⟨gr, k * 11, none⟩)) ((Yl.indexAddr (ad := ⟨gr, 0, none⟩) (y := k) (sz := 11) rfl rfl rfl (by omega) (by kernel_rfl)).as (by rw [Addr.add_mid, Nat.zero_add])) ?_; clear HF; intro a HF
        refine from_pures HF 1 7 (j := 8) [(218, .pointer (some ⟨gr, k * 11, none⟩))] (by kernel_rfl) rfl ?_; clear HF; intro a HF
        refine from_op HF (i := 8) rfl rfl ?_
        refine e_storeRow HF HM (i := 2) rfl rfl rfl rfl (by kernel_rfl) rfl rfl (by simp only [flat_len evL 11 evL_len, List.length_set]; omega) ?_
        clear HM; intro w28_8 HM
        replace HM := HM.asRow (i := 2) (ys := (es.set k (e.to3 e0.seq e.time e.cpu)).flatMap evL) rfl ((putAt_cell evL 11 evL_len (es.set k (e.to3 1 e.time e.cpu)) k (e.to3 1 e.time e.cpu) (e.to3 e0.seq e.time e.cpu) hks 0 (by decide) _ rfl).trans (by rw [List.set_set]))
        refine from_done rfl ?_
        replace HF := HF.sub (σ' := [(210, .bool true), (203, .bool true), (191, .bool false), (171, .int .u8 1), (32, .int .i64 71), (31, .int .i64 (k : Int)), (163, .bool false), (91, .bool false), (89, .int .i64 6), (88, .slice (some ⟨g88, 0, none⟩) 6 6), (90, .int .i64 (j : Int)), (11, .slice (some ⟨gr, 0, none⟩) es.length cr), (12, .pointer (some ⟨g12, 0, none⟩)), (38, .bool false), (10, .bool false), (0, .int .u8 (cpu : Int)), (4, .int .i64 n)]) (by kernel_rfl)
        refine wp_seq ?_
        refine from_start ?_
        refine from_pures HF 1 0 (j := 1) [(255, .slice (some ⟨gr, 0, none⟩) es.length cr)] (by kernel_rfl) rfl ?_; clear HF; intro a HF
        refine from_op HF (i := 1) rfl rfl ?_
        refine e_call HF (vs := [.slice (some ⟨gr, 0, none⟩) es.length cr]) rfl (by kernel_rfl) (by kernel_rfl) rfl (by decide) (row_is _ _ _ _ hx.ok B _ (hL.mem HM hB) (HM.le hB) (HM.rd (i := 2) rfl) (by omega) hx.row) ?_
        rintro _ w256 ⟨rfl, hbw⟩
        refine ⟨_, rfl, ?_⟩
        replace HM := HM.call hbw
        clear HF; intro a HF
        refine from_pures HF 5 2 (j := 7) [(34, .int .i64 71), (33, .int .i64 (k : Int)), (258, .int .i64 71), (257, .int .i64 (k : Int)), (254, .tuple #[.int .i64 (k : Int), .int .i64 71])] (by kernel_rfl) rfl ?_; clear HF; intro a HF
        refine from_done rfl ?_
        replace HF := HF.sub (σ' := [(34, .int .i64 71), (33, .int .i64 (k : Int)), (210, .bool true), (203, .bool true), (191, .bool false), (171, .int .u8 1), (32, .int .i64 71), (31, .int .i64 (k : Int)), (163, .bool false), (91, .bool false), (89, .int .i64 6), (88, .slice (some ⟨g88, 0, none⟩) 6 6), (90, .int .i64 (j : Int)), (11, .slice (some ⟨gr, 0, none⟩) es.length cr), (12, .pointer (some ⟨g12, 0, none⟩)), (38, .bool false), (10, .bool false), (0, .int .u8 (cpu : Int)), (4, .int .i64 n)]) (by kernel_rfl)
        refine wp_seq ?_
        refine from_start ?_
        refine from_yl (S := fun wS => Mem w wS _) HF HM (i := 0) rfl rfl (d := 260) rfl (by decide) (v := .agg b.based.cells) (Yl.loadS rfl rfl ⟨(by kernel_rfl), (by kernel_rfl)⟩ rfl (fun _ h => range_of_block (h.blk (i := 1) rfl))) ?_; clear HF; intro a HF
        refine from_pures HF 1 1 (j := 2) [(261, .slice (some ⟨gr, 0, none⟩) es.length cr)] (by kernel_rfl) rfl ?_; clear HF; intro a HF
        refine from_op HF (i := 2) rfl rfl ?_
        refine e_call HF (vs := [.agg b.based.cells, .slice (some ⟨gr, 0, none⟩) es.length cr]) rfl (by kernel_rfl) (by kernel_rfl) rfl (by decide) (write_is b.based _ _ _ _ hx.ok B _ (hL.mem HM hB) (HM.le hB) (HM.rd (i := 2) rfl) (by omega) hx.err hx.out) ?_
        rintro _ w262 ⟨⟨A262, c262, rfl, ho, hc262⟩, hbw⟩
        refine ⟨_, rfl, ?_⟩
        replace HM := HM.callRow hbw ho
        clear HF; intro a HF
        refine from_pures HF 5 3 (j := 8) [(36, .int .i64 71), (35, .slice A262 0 c262), (264, .int .i64 71), (263, .slice A262 0 c262), (259, .tuple #[.slice A262 0 c262, .int .i64 71])] (by kernel_rfl) rfl ?_; clear HF; intro a HF
        refine from_done rfl ?_
        replace HF := HF.sub (σ' := [(36, .int .i64 71), (35, .slice A262 0 c262), (34, .int .i64 71), (33, .int .i64 (k : Int)), (210, .bool true), (203, .bool true), (191, .bool false), (171, .int .u8 1), (32, .int .i64 71), (31, .int .i64 (k : Int)), (163, .bool false), (91, .bool false), (89, .int .i64 6), (88, .slice (some ⟨g88, 0, none⟩) 6 6), (90, .int .i64 (j : Int)), (11, .slice (some ⟨gr, 0, none⟩) es.length cr), (12, .pointer (some ⟨g12, 0, none⟩)), (38, .bool false), (10, .bool false), (0, .int .u8 (cpu : Int)), (4, .int .i64 n)]) (by kernel_rfl)
        refine wp_seq ?_
        refine from_start ?_
        refine from_pures HF 3 0 (j := 3) [(267, .bool (((k : Int) : Int) == ((k : Int) : Int))), (266, .int .i64 (k : Int)), (265, .int .i64 (k : Int))] (by kernel_rfl) rfl ?_; clear HF; intro a HF
        replace HF := HF.as (t := 267) (u := .bool true) rfl (by simp)
        refine from_pures HF 12 3 (j := 15) [(279, .slice A262 0 c262), (278, .bool true), (277, .bool true), (276, .bool true), (275, .int .i64 71), (274, .int .i64 71), (273, .bool true), (272, .bool true), (271, .bool true), (270, .int .i64 71), (269, .int .i64 71), (268, .bool true)] (by kernel_rfl) rfl ?_; clear HF; intro a HF
        refine from_yl (S := fun wS => Mem w wS _) HF HM (i := 15) rfl rfl (d := 280) rfl (by decide) (v := .int .i64 0) (Yl.len rfl rfl (by kernel_rfl)) ?_; clear HF; intro a HF
        refine from_pures HF 3 16 (j := 19) [(10, .bool true), (282, .bool true), (281, .bool true)] (by kernel_rfl) rfl ?_; clear HF; intro a HF
        refine from_done rfl ?_
        replace HF := HF.sub (σ' := [(10, .bool true), (210, .bool true), (203, .bool true), (191, .bool false), (171, .int .u8 1), (31, .int .i64 (k : Int)), (163, .bool false), (91, .bool false), (89, .int .i64 6), (88, .slice (some ⟨g88, 0, none⟩) 6 6), (90, .int .i64 (j : Int)), (11, .slice (some ⟨gr, 0, none⟩) es.length cr), (12, .pointer (some ⟨g12, 0, none⟩)), (38, .bool false), (0, .int .u8 (cpu : Int)), (4, .int .i64 n)]) (by kernel_rfl)
        replace HM := HM.picks (fs' := [.row (.slice (some ⟨g88, 0, none⟩) 6 6) 6 (bads.flatMap fun b => b.cells.toList) 23 2, .blk g12 b.based.cells 23, .row (.slice (some ⟨gr, 0, none⟩) es.length cr) es.length ((es.set k (e.to3 e0.seq e.time e.cpu)).flatMap evL) 37 11]) [1, 2, 3] (by decide) rfl
        refine wp_ret ?_
        exact ret1 rfl HF (.tmp HF rfl) (⟨rfl, HM.below⟩)
      · have HF := HF.as (t := 210) (u := .bool false) rfl (by rw [hb210])
        have hkf : 1 < k := by rw [beq_eq_false_iff_ne] at hb210; omega
        have hx := hx1a rfl hkf
        refine cond_false HF rfl ?_
        refine wp_skip ?_
        refine wp_seq ?_
        refine from_start ?_
        refine from_pures HF 1 0 (j := 1) [(255, .slice (some ⟨gr, 0, none⟩) es.length cr)] (by kernel_rfl) rfl ?_; clear HF; intro a HF
        refine from_op HF (i := 1) rfl rfl ?_
        refine e_call HF (vs := [.slice (some ⟨gr, 0, none⟩) es.length cr]) rfl (by kernel_rfl) (by kernel_rfl) rfl (by decide) (row_is _ _ _ _ hx.ok B _ (hL.mem HM hB) (HM.le hB) (HM.rd (i := 2) rfl) (by omega) hx.row) ?_
        rintro _ w256 ⟨rfl, hbw⟩
        refine ⟨_, rfl, ?_⟩
        replace HM := HM.call hbw
        clear HF; intro a HF
        refine from_pures HF 5 2 (j := 7) [(34, .int .i64 71), (33, .int .i64 (k : Int)), (258, .int .i64 71), (257, .int .i64 (k : Int)), (254, .tuple #[.int .i64 (k : Int), .int .i64 71])] (by kernel_rfl) rfl ?_; clear HF; intro a HF
        refine from_done rfl ?_
        replace HF := HF.sub (σ' := [(34, .int .i64 71), (33, .int .i64 (k : Int)), (210, .bool false), (203, .bool true), (191, .bool false), (171, .int .u8 1), (32, .int .i64 71), (31, .int .i64 (k : Int)), (163, .bool false), (91, .bool false), (89, .int .i64 6), (88, .slice (some ⟨g88, 0, none⟩) 6 6), (90, .int .i64 (j : Int)), (11, .slice (some ⟨gr, 0, none⟩) es.length cr), (12, .pointer (some ⟨g12, 0, none⟩)), (38, .bool false), (10, .bool false), (0, .int .u8 (cpu : Int)), (4, .int .i64 n)]) (by kernel_rfl)
        refine wp_seq ?_
        refine from_start ?_
        refine from_yl (S := fun wS => Mem w wS _) HF HM (i := 0) rfl rfl (d := 260) rfl (by decide) (v := .agg b.based.cells) (Yl.loadS rfl rfl ⟨(by kernel_rfl), (by kernel_rfl)⟩ rfl (fun _ h => range_of_block (h.blk (i := 1) rfl))) ?_; clear HF; intro a HF
        refine from_pures HF 1 1 (j := 2) [(261, .slice (some ⟨gr, 0, none⟩) es.length cr)] (by kernel_rfl) rfl ?_; clear HF; intro a HF
        refine from_op HF (i := 2) rfl rfl ?_
        refine e_call HF (vs := [.agg b.based.cells, .slice (some ⟨gr, 0, none⟩) es.length cr]) rfl (by kernel_rfl) (by kernel_rfl) rfl (by decide) (write_is b.based _ _ _ _ hx.ok B _ (hL.mem HM hB) (HM.le hB) (HM.rd (i := 2) rfl) (by omega) hx.err hx.out) ?_
        rintro _ w262 ⟨⟨A262, c262, rfl, ho, hc262⟩, hbw⟩
        refine ⟨_, rfl, ?_⟩
        replace HM := HM.callRow hbw ho
        clear HF; intro a HF
        refine from_pures HF 5 3 (j := 8) [(36, .int .i64 71), (35, .slice A262 0 c262), (264, .int .i64 71), (263, .slice A262 0 c262), (259, .tuple #[.slice A262 0 c262, .int .i64 71])] (by kernel_rfl) rfl ?_; clear HF; intro a HF
        refine from_done rfl ?_
        replace HF := HF.sub (σ' := [(36, .int .i64 71), (35, .slice A262 0 c262), (34, .int .i64 71), (33, .int .i64 (k : Int)), (210, .bool false), (203, .bool true), (191, .bool false), (171, .int .u8 1), (32, .int .i64 71), (31, .int .i64 (k : Int)), (163, .bool false), (91, .bool false), (89, .int .i64 6), (88, .slice (some ⟨g88, 0, none⟩) 6 6), (90, .int .i64 (j : Int)), (11, .slice (some ⟨gr, 0, none⟩) es.length cr), (12, .pointer (some ⟨g12, 0, none⟩)), (38, .bool false), (10, .bool false), (0, .int .u8 (cpu : Int)), (4, .int .i64 n)]) (by kernel_rfl)
        refine wp_seq ?_
        refine from_start ?_
        refine from_pures HF 3 0 (j := 3) [(267, .bool (((k : Int) : Int) == ((k : Int) : Int))), (266, .int .i64 (k : Int)), (265, .int .i64 (k : Int))] (by kernel_rfl) rfl ?_; clear HF; intro a HF
        replace HF := HF.as (t := 267) (u := .bool true) rfl (by simp)
        refine from_pures HF 12 3 (j := 15) [(279, .slice A262 0 c262), (278, .bool true), (277, .bool true), (276, .bool true), (275, .int .i64 71), (274, .int .i64 71), (273, .bool true), (272, .bool true), (271, .bool true), (270, .int .i64 71), (269, .int .i64 71), (268, .bool true)] (by kernel_rfl) rfl ?_; clear HF; intro a HF
        refine from_yl (S := fun wS => Mem w wS _) HF HM (i := 15) rfl rfl (d := 280) rfl (by decide) (v := .int .i64 0) (Yl.len rfl rfl (by kernel_rfl)) ?_; clear HF; intro a HF
        refine from_pures HF 3 16 (j := 19) [(10, .bool true), (282, .bool true), (281, .bool true)] (by kernel_rfl) rfl ?_; clear HF; intro a HF
        refine from_done rfl ?_
        replace HF := HF.sub (σ' := [(10, .bool true), (210, .bool false), (203, .bool true), (191, .bool false), (171, .int .u8 1), (31, .int .i64 (k : Int)), (163, .bool false), (91, .bool false), (89, .int .i64 6), (88, .slice (some ⟨g88, 0, none⟩) 6 6), (90, .int .i64 (j : Int)), (11, .slice (some ⟨gr, 0, none⟩) es.length cr), (12, .pointer (some ⟨g12, 0, none⟩)), (38, .bool false), (0, .int .u8 (cpu : Int)), (4, .int .i64 n)]) (by kernel_rfl)
        replace HM := HM.picks (fs' := [.row (.slice (some ⟨g88, 0, none⟩) 6 6) 6 (bads.flatMap fun b => b.cells.toList) 23 2, .blk g12 b.based.cells 23, .row (.slice (some ⟨gr, 0, none⟩) es.length cr) es.length ((es.set k (e.to3 1 e.time e.cpu)).flatMap evL) 37 11]) [1, 2, 3] (by decide) rfl
        refine wp_ret ?_
        exact ret1 rfl HF (.tmp HF rfl) (⟨rfl, HM.below⟩)
    ·
      have hx := hx2 rfl
      refine wp_block ?_
      refine wp_seq ?_
      refine from_start ?_
      refine from_pures HF 2 0 (j := 2) [(191, .bool false), (192, .bool false)] (by kernel_rfl) rfl ?_; clear HF; intro a HF
      refine from_done rfl ?_
      replace HF := HF.sub (σ' := [(191, .bool false), (171, .int .u8 2), (32, .int .i64 71), (31, .int .i64 (k : Int)), (163, .bool false), (91, .bool false), (89, .int .i64 6), (88, .slice (some ⟨g88, 0, none⟩) 6 6), (90, .int .i64 (j : Int)), (11, .slice (some ⟨gr, 0, none⟩) es.length cr), (12, .pointer (some ⟨g12, 0, none⟩)), (38, .bool false), (10, .bool false), (0, .int .u8 (cpu : Int)), (4, .int .i64 n)]) (by kernel_rfl)
      refine cond_false HF rfl ?_
      refine wp_seq ?_
      refine from_start ?_
      refine from_pures HF 2 0 (j := 2) [(203, .bool false), (204, .bool false)] (by kernel_rfl) rfl ?_; clear HF; intro a HF
      refine from_done rfl ?_
      replace HF := HF.sub (σ' := [(203, .bool false), (191, .bool false), (171, .int .u8 2), (32, .int .i64 71), (31, .int .i64 (k : Int)), (163, .bool false), (91, .bool false), (89, .int .i64 6), (88, .slice (some ⟨g88, 0, none⟩) 6 6), (90, .int .i64 (j : Int)), (11, .slice (some ⟨gr, 0, none⟩) es.length cr), (12, .pointer (some ⟨g12, 0, none⟩)), (38, .bool false), (10, .bool false), (0, .int .u8 (cpu : Int)), (4, .int .i64 n)]) (by kernel_rfl)
      refine cond_false HF rfl ?_
      refine wp_seq ?_
      refine from_start ?_
      refine from_pures HF 2 0 (j := 2) [(219, .bool true), (220, .bool true)] (by kernel_rfl) rfl ?_; clear HF; intro a HF
      refine from_done rfl ?_
      replace HF := HF.sub (σ' := [(219, .bool true), (203, .bool false), (191, .bool false), (171, .int .u8 2), (32, .int .i64 71), (31, .int .i64 (k : Int)), (163, .bool false), (91, .bool false), (89, .int .i64 6), (88, .slice (some ⟨g88, 0, none⟩) 6 6), (90, .int .i64 (j : Int)), (11, .slice (some ⟨gr, 0, none⟩) es.length cr), (12, .pointer (some ⟨g12, 0, none⟩)), (38, .bool false), (10, .bool false), (0, .int .u8 (cpu : Int)), (4, .int .i64 n)]) (by kernel_rfl)
      refine cond_true HF rfl ?_
      refine any_start (by kernel_rfl) (fun wS => Mem w wS [.row (.slice (some ⟨g88, 0, none⟩) 6 6) 6 (bads.flatMap fun b => b.cells.toList) 23 2, .blk g12 b.based.cells 23, .row (.slice (some ⟨gr, 0, none⟩) es.length cr) es.length (es.flatMap evL) 37 11]) [21] ?_
      replace HM := HM.drew
      have HS := HM.picks (fs' := [.row (.slice (some ⟨g88, 0, none⟩) 6 6) 6 (bads.flatMap fun b => b.cells.toList) 23 2, .blk g12 b.based.cells 23, .row (.slice (some ⟨gr, 0, none⟩) es.length cr) es.length (es.flatMap evL) 37 11]) [0, 1, 2] (by decide) rfl
      refine any_pures HF (fun _ => HS) (fun _ _ d _ _ h => by cases d <;> exact h) [0, 1, 2, 3, 7, 8, 12, 13] #[true, true, true, true, false, false, false, true, true, false, false, false, true, true, false, false, false, false, false, false, false, false] [(234, .int .i64 (k : Int)), (233, .slice (some ⟨gr, 0, none⟩) es.length cr), (229, .int .i64 (k : Int)), (228, .slice (some ⟨gr, 0, none⟩) es.length cr), (224, .int .i64 (k : Int)), (223, .slice (some ⟨gr, 0, none⟩) es.length cr), (222, .int .i64 (k : Int)), (221, .slice (some ⟨gr, 0, none⟩) es.length cr)] (by kernel_rfl) ?_; clear HF; intro a HF
      refine any_yl HF HS (i := 4) rfl rfl (d := 225) rfl (by decide) (by kernel_rfl) (fun _ _ _ h => h) (v := .pointer (some ⟨gr, k * 11, none⟩)) ((Yl.indexAddr (ad := ⟨gr, 0, none⟩) (y := k) (sz := 11) rfl rfl rfl (by omega) (by kernel_rfl)).as (by rw [Addr.add_mid, Nat.zero_add])) ?_; clear HF; intro a HF
      refine any_pures HF (fun _ => HS) (fun _ _ d _ _ h => by cases d <;> exact h) [5] #[true, true, true, true, true, true, false, true, true, false, false, false, true, true, false, false, false, false, false, false, false, false] [(226, .pointer (some ⟨gr, k * 11, none⟩))] (by kernel_rfl) ?_; clear HF; intro a HF
      refine any_yl HF HS (i := 6) rfl rfl (d := 227) rfl (by decide) (by kernel_rfl) (fun _ _ _ h => h) (v := .int .i64 e.seq) (Yl.load1 rfl rfl (by kernel_rfl) (fun _ h => h.rowCell evL_len (i := 2) rfl (k := k) (off := 0) (x := e) hke rfl)) ?_; clear HF; intro a HF
      refine any_yl HF HS (i := 9) rfl rfl (d := 230) rfl (by decide) (by kernel_rfl) (fun _ _ _ h => h) (v := .pointer (some ⟨gr, k * 11, none⟩)) ((Yl.indexAddr (ad := ⟨gr, 0, none⟩) (y := k) (sz := 11) rfl rfl rfl (by omega) (by kernel_rfl)).as (by rw [Addr.add_mid, Nat.zero_add])) ?_; clear HF; intro a HF
      refine any_pures HF (fun _ => HS) (fun _ _ d _ _ h => by cases d <;> exact h) [10] #[true, true, true, true, true, true, true, true, true, true, true, false, true, true, false, false, false, false, false, false, false, false] [(231, .pointer (some ⟨gr, k * 11 + 1, none⟩))] (by kernel_rfl) ?_; clear HF; intro a HF
      refine any_yl HF HS (i := 11) rfl rfl (d := 232) rfl (by decide) (by kernel_rfl) (fun _ _ _ h => h) (v := .int .i64 e.time) (Yl.load1 rfl rfl (by kernel_rfl) (fun _ h => h.rowCell evL_len (i := 2) rfl (k := k) (off := 1) (x := e) hke rfl)) ?_; clear HF; intro a HF
      refine any_yl HF HS (i := 14) rfl rfl (d := 235) rfl (by decide) (by kernel_rfl) (fun _ _ _ h => h) (v := .pointer (some ⟨gr, k * 11, none⟩)) ((Yl.indexAddr (ad := ⟨gr, 0, none⟩) (y := k) (sz := 11) rfl rfl rfl (by omega) (by kernel_rfl)).as (by rw [Addr.add_mid, Nat.zero_add])) ?_; clear HF; intro a HF
      refine any_pures HF (fun _ => HS) (fun _ _ d _ _ h => by cases d <;> exact h) [15] #[true, true, true, true, true, true, true, true, true, true, true, true, true, true, true, true, false, false, false, false, false, false] [(236, .pointer (some ⟨gr, k * 11 + 2, none⟩))] (by kernel_rfl) ?_; clear HF; intro a HF
      refine any_yl HF HS (i := 16) rfl rfl (d := 237) rfl (by decide) (by kernel_rfl) (fun _ _ _ h => h) (v := .int .u8 (e.cpu : Int)) (Yl.load1 rfl rfl (by kernel_rfl) (fun _ h => h.rowCell evL_len (i := 2) rfl (k := k) (off := 2) (x := e) hke rfl)) ?_; clear HF; intro a HF
      refine any_pure HF (fun _ => HS) (i := 17) rfl rfl (d := 238) rfl (by decide) (by kernel_rfl) (fun _ _ _ h => h) (v := .int .u8 (IntKind.u8.wrap ((e.cpu : Int) + 1))) (fun _ => Yl.pure (by kernel_rfl)) ?_; clear HF; intro a HF
      replace HF := HF.as (t := 238) (u := .int .u8 ((e.cpu + 1 : Nat) : Int)) rfl (by rw [hcw])
      refine any_pure HF (fun _ => HS) (i := 18) rfl rfl (d := 239) rfl (by decide) (by kernel_rfl) (fun _ _ _ h => h) (v := .int .u8 (Int.tmod ((e.cpu + 1 : Nat) : Int) 64)) (fun _ => Yl.pure (by kernel_rfl)) ?_; clear HF; intro a HF
      replace HF := HF.as (t := 239) (u := .int .u8 (c2 : Int)) rfl (by rw [hc2t])
      refine any_yl HF HS (i := 19) rfl rfl (d := 240) rfl (by decide) (by kernel_rfl) (fun _ _ _ h => h) (v := .agg #[.int .i64 e.seq, .int .i64 e.time, .int .u8 (c2 : Int), .int .u8 6, .int .i64 0, .int .i64 0, .int .i64 0, .int .i64 0, .int .i64 0, .int .u64 0, .int .i64 0]) (Yl.build (vs := [(0, .int .i64 e.seq), (1, .int .i64 e.time), (2, .int .u8 (c2 : Int)), (3, .int .u8 6)]) rfl (by kernel_rfl) (by kernel_rfl)) ?_; clear HF; intro a HF
      refine any_yl HF HS (i := 20) rfl rfl (d := 241) rfl (by decide) (by kernel_rfl) (fun _ _ _ h => h) (v := .pointer (some ⟨gr, k * 11, none⟩)) ((Yl.indexAddr (ad := ⟨gr, 0, none⟩) (y := k) (sz := 11) rfl rfl rfl (by omega) (by kernel_rfl)).as (by rw [Addr.add_mid, Nat.zero_add])) ?_; clear HF; intro a HF
      refine any_all [21] (by kernel_rfl) rfl ?_
      refine all_cons ?_ all_nil
      refine any_op HF (i := 21) rfl rfl ?_
      refine e_storeRowS HF HM (i := 2) (sz := 11) rfl rfl rfl rfl ⟨(by kernel_rfl), (by kernel_rfl)⟩ rfl (by simp [Value.oneCell']) rfl (by simp only [flat_len evL 11 evL_len]; omega) ?_
      clear HM; intro w30_21 HM
      replace HM := HM.asRow (i := 2) (ys := (es.set k (pickEv e.seq e.time c2 0)).flatMap evL) rfl (putAt_flat evL 11 evL_len es k (pickEv e.seq e.time c2 0) (by omega))
      refine noS (by kernel_rfl) ?_
      refine any_done (by kernel_rfl) ?_
      replace HF := HF.sub (σ' := [(219, .bool true), (203, .bool false), (191, .bool false), (171, .int .u8 2), (32, .int .i64 71), (31, .int .i64 (k : Int)), (163, .bool false), (91, .bool false), (89, .int .i64 6), (88, .slice (some ⟨g88, 0, none⟩) 6 6), (90, .int .i64 (j : Int)), (11, .slice (some ⟨gr, 0, none⟩) es.length cr), (12, .pointer (some ⟨g12, 0, none⟩)), (38, .bool false), (10, .bool false), (0, .int .u8 (cpu : Int)), (4, .int .i64 n)]) (by kernel_rfl)
      refine wp_seq ?_
      refine from_start ?_
      refine from_pures HF 1 0 (j := 1) [(255, .slice (some ⟨gr, 0, none⟩) es.length cr)] (by kernel_rfl) rfl ?_; clear HF; intro a HF
      refine from_op HF (i := 1) rfl rfl ?_
      refine e_call HF (vs := [.slice (some ⟨gr, 0, none⟩) es.length cr]) rfl (by kernel_rfl) (by kernel_rfl) rfl (by decide) (row_is _ _ _ _ hx.ok B _ (hL.mem HM hB) (HM.le hB) (HM.rd (i := 2) rfl) (by omega) hx.row) ?_
      rintro _ w256 ⟨rfl, hbw⟩
      refine ⟨_, rfl, ?_⟩
      replace HM := HM.call hbw
      clear HF; intro a HF
      refine from_pures HF 5 2 (j := 7) [(34, .int .i64 71), (33, .int .i64 (k : Int)), (258, .int .i64 71), (257, .int .i64 (k : Int)), (254, .tuple #[.int .i64 (k : Int), .int .i64 71])] (by kernel_rfl) rfl ?_; clear HF; intro a HF
      refine from_done rfl ?_
      replace HF := HF.sub (σ' := [(34, .int .i64 71), (33, .int .i64 (k : Int)), (219, .bool true), (203, .bool false), (191, .bool false), (171, .int .u8 2), (32, .int .i64 71), (31, .int .i64 (k : Int)), (163, .bool false), (91, .bool false), (89, .int .i64 6), (88, .slice (some ⟨g88, 0, none⟩) 6 6), (90, .int .i64 (j : Int)), (11, .slice (some ⟨gr, 0, none⟩) es.length cr), (12, .pointer (some ⟨g12, 0, none⟩)), (38, .bool false), (10, .bool false), (0, .int .u8 (cpu : Int)), (4, .int .i64 n)]) (by kernel_rfl)
      refine wp_seq ?_
      refine from_start ?_
      refine from_yl (S := fun wS => Mem w wS _) HF HM (i := 0) rfl rfl (d := 260) rfl (by decide) (v := .agg b.based.cells) (Yl.loadS rfl rfl ⟨(by kernel_rfl), (by kernel_rfl)⟩ rfl (fun _ h => range_of_block (h.blk (i := 1) rfl))) ?_; clear HF; intro a HF
      refine from_pures HF 1 1 (j := 2) [(261, .slice (some ⟨gr, 0, none⟩) es.length cr)] (by kernel_rfl) rfl ?_; clear HF; intro a HF
      refine from_op HF (i := 2) rfl rfl ?_
      refine e_call HF (vs := [.agg b.based.cells, .slice (some ⟨gr, 0, none⟩) es.length cr]) rfl (by kernel_rfl) (by kernel_rfl) rfl (by decide) (write_is b.based _ _ _ _ hx.ok B _ (hL.mem HM hB) (HM.le hB) (HM.rd (i := 2) rfl) (by omega) hx.err hx.out) ?_
      rintro _ w262 ⟨⟨A262, c262, rfl, ho, hc262⟩, hbw⟩
      refine ⟨_, rfl, ?_⟩
      replace HM := HM.callRow hbw ho
      clear HF; intro a HF
      refine from_pures HF 5 3 (j := 8) [(36, .int .i64 71), (35, .slice A262 0 c262), (264, .int .i64 71), (263, .slice A262 0 c262), (259, .tuple #[.slice A262 0 c262, .int .i64 71])] (by kernel_rfl) rfl ?_; clear HF; intro a HF
      refine from_done rfl ?_
      replace HF := HF.sub (σ' := [(36, .int .i64 71), (35, .slice A262 0 c262), (34, .int .i64 71), (33, .int .i64 (k : Int)), (219, .bool true), (203, .bool false), (191, .bool false), (171, .int .u8 2), (32, .int .i64 71), (31, .int .i64 (k : Int)), (163, .bool false), (91, .bool false), (89, .int .i64 6), (88, .slice (some ⟨g88, 0, none⟩) 6 6), (90, .int .i64 (j : Int)), (11, .slice (some ⟨gr, 0, none⟩) es.length cr), (12, .pointer (some ⟨g12, 0, none⟩)), (38, .bool false), (10, .bool false), (0, .int .u8 (cpu : Int)), (4, .int .i64 n)]) (by kernel_rfl)
      refine wp_seq ?_
      refine from_start ?_
      refine from_pures HF 3 0 (j := 3) [(267, .bool (((k : Int) : Int) == ((k : Int) : Int))), (266, .int .i64 (k : Int)), (265, .int .i64 (k : Int))] (by kernel_rfl) rfl ?_; clear HF; intro a HF
      replace HF := HF.as (t := 267) (u := .bool true) rfl (by simp)
      refine from_pures HF 12 3 (j := 15) [(279, .slice A262 0 c262), (278, .bool true), (277, .bool true), (276, .bool true), (275, .int .i64 71), (274, .int .i64 71), (273, .bool true), (272, .bool true), (271, .bool true), (270, .int .i64 71), (269, .int .i64 71), (268, .bool true)] (by kernel_rfl) rfl ?_; clear HF; intro a HF
      refine from_yl (S := fun wS => Mem w wS _) HF HM (i := 15) rfl rfl (d := 280) rfl (by decide) (v := .int .i64 0) (Yl.len rfl rfl (by kernel_rfl)) ?_; clear HF; intro a HF
      refine from_pures HF 3 16 (j := 19) [(10, .bool true), (282, .bool true), (281, .bool true)] (by kernel_rfl) rfl ?_; clear HF; intro a HF
      refine from_done rfl ?_
      replace HF := HF.sub (σ' := [(10, .bool true), (219, .bool true), (203, .bool false), (191, .bool false), (171, .int .u8 2), (31, .int .i64 (k : Int)), (163, .bool false), (91, .bool false), (89, .int .i64 6), (88, .slice (some ⟨g88, 0, none⟩) 6 6), (90, .int .i64 (j : Int)), (11, .slice (some ⟨gr, 0, none⟩) es.length cr), (12, .pointer (some ⟨g12, 0, none⟩)), (38, .bool false), (0, .int .u8 (cpu : Int)), (4, .int .i64 n)]) (by kernel_rfl)
      replace HM := HM.picks (fs' := [.row (.slice (some ⟨g88, 0, none⟩) 6 6) 6 (bads.flatMap fun b => b.cells.toList) 23 2, .blk g12 b.based.cells 23, .row (.slice (some ⟨gr, 0, none⟩) es.length cr) es.length ((es.set k (pickEv e.seq e.time c2 0)).flatMap evL) 37 11]) [1, 2, 3] (by decide) rfl
      refine wp_ret ?_
      exact ret1 rfl HF (.tmp HF rfl) (⟨rfl, HM.below⟩)
    ·
      have hx := hx3 rfl
      refine wp_block ?_
      refine wp_seq ?_
      refine from_start ?_
      refine from_pures HF 2 0 (j := 2) [(191, .bool false), (192, .bool false)] (by kernel_rfl) rfl ?_; clear HF; intro a HF
      refine from_done rfl ?_
      replace HF := HF.sub (σ' := [(191, .bool false), (171, .int .u8 3), (32, .int .i64 71), (31, .int .i64 (k : Int)), (163, .bool false), (91, .bool false), (89, .int .i64 6), (88, .slice (some ⟨g88, 0, none⟩) 6 6), (90, .int .i64 (j : Int)), (11, .slice (some ⟨gr, 0, none⟩) es.length cr), (12, .pointer (some ⟨g12, 0, none⟩)), (38, .bool false), (10, .bool false), (0, .int .u8 (cpu : Int)), (4, .int .i64 n)]) (by kernel_rfl)
      refine cond_false HF rfl ?_
      refine wp_seq ?_
      refine from_start ?_
      refine from_pures HF 2 0 (j := 2) [(203, .bool false), (204, .bool false)] (by kernel_rfl) rfl ?_; clear HF; intro a HF
      refine from_done rfl ?_
      replace HF := HF.sub (σ' := [(203, .bool false), (191, .bool false), (171, .int .u8 3), (32, .int .i64 71), (31, .int .i64 (k : Int)), (163, .bool false), (91, .bool false), (89, .int .i64 6), (88, .slice (some ⟨g88, 0, none⟩) 6 6), (90, .int .i64 (j : Int)), (11, .slice (some ⟨gr, 0, none⟩) es.length cr), (12, .pointer (some ⟨g12, 0, none⟩)), (38, .bool false), (10, .bool false), (0, .int .u8 (cpu : Int)), (4, .int .i64 n)]) (by kernel_rfl)
      refine cond_false HF rfl ?_
      refine wp_seq ?_
      refine from_start ?_
      refine from_pures HF 2 0 (j := 2) [(219, .bool false), (220, .bool false)] (by kernel_rfl) rfl ?_; clear HF; intro a HF
      refine from_done rfl ?_
      replace HF := HF.sub (σ' := [(219, .bool false), (203, .bool false), (191, .bool false), (171, .int .u8 3), (32, .int .i64 71), (31, .int .i64 (k : Int)), (163, .bool false), (91, .bool false), (89, .int .i64 6), (88, .slice (some ⟨g88, 0, none⟩) 6 6), (90, .int .i64 (j : Int)), (11, .slice (some ⟨gr, 0, none⟩) es.length cr), (12, .pointer (some ⟨g12, 0, none⟩)), (38, .bool false), (10, .bool false), (0, .int .u8 (cpu : Int)), (4, .int .i64 n)]) (by kernel_rfl)
      refine cond_false HF rfl ?_
      refine wp_seq ?_
      refine from_start ?_
      refine from_pures HF 2 0 (j := 2) [(242, .bool true), (243, .bool true)] (by kernel_rfl) rfl ?_; clear HF; intro a HF
      refine from_done rfl ?_
      replace HF := HF.sub (σ' := [(242, .bool true), (219, .bool false), (203, .bool false), (191, .bool false), (171, .int .u8 3), (32, .int .i64 71), (31, .int .i64 (k : Int)), (163, .bool false), (91, .bool false), (89, .int .i64 6), (88, .slice (some ⟨g88, 0, none⟩) 6 6), (90, .int .i64 (j : Int)), (11, .slice (some ⟨gr, 0, none⟩) es.length cr), (12, .pointer (some ⟨g12, 0, none⟩)), (38, .bool false), (10, .bool false), (0, .int .u8 (cpu : Int)), (4, .int .i64 n)]) (by kernel_rfl)
      refine cond_true HF rfl ?_
      refine from_start ?_
      refine from_pures HF 2 0 (j := 2) [(245, .int .i64 (k : Int)), (244, .slice (some ⟨gr, 0, none⟩) es.length cr)] (by kernel_rfl) rfl ?_; clear HF; intro a HF
      refine from_yl (S := fun wS => Mem w wS _) HF HM (i := 2) rfl rfl (d := 246) rfl (by decide) (v := .pointer (some ⟨gr, k * 11, none⟩)) ((Yl.indexAddr (ad := ⟨gr, 0, none⟩) (y := k) (sz := 11) rfl rfl rfl (by omega) (by kernel_rfl)).as (by rw [Addr.add_mid, Nat.zero_add])) ?_; clear HF; intro a HF
      refine from_pures HF 1 3 (j := 4) [(247, .pointer (some ⟨gr, k * 11 + 3, none⟩))] (by kernel_rfl) rfl ?_; clear HF; intro a HF
      refine from_op HF (i := 4) rfl rfl ?_
      refine e_storeRow HF HM (i := 2) rfl rfl rfl rfl (by kernel_rfl) rfl rfl (by simp only [flat_len evL 11 evL_len]; omega) ?_
      clear HM; intro w32_4 HM
      replace HM := HM.asRow (i := 2) (ys := (es.set k e.noKind).flatMap evL) rfl (putAt_cell evL 11 evL_len es k e e.noKind hke 3 (by decide) _ rfl)
      refine from_pures HF 1 5 (j := 6) [(32, .int .i64 60)] (by kernel_rfl) rfl ?_; clear HF; intro a HF
      refine from_done rfl ?_
      replace HF := HF.sub (σ' := [(32, .int .i64 60), (242, .bool true), (219, .bool false), (203, .bool false), (191, .bool false), (171, .int .u8 3), (31, .int .i64 (k : Int)), (163, .bool false), (91, .bool false), (89, .int .i64 6), (88, .slice (some ⟨g88, 0, none⟩) 6 6), (90, .int .i64 (j : Int)), (11, .slice (some ⟨gr, 0, none⟩) es.length cr), (12, .pointer (some ⟨g12, 0, none⟩)), (38, .bool false), (10, .bool false), (0, .int .u8 (cpu : Int)), (4, .int .i64 n)]) (by kernel_rfl)
      refine wp_seq ?_
      refine from_start ?_
      refine from_pures HF 1 0 (j := 1) [(255, .slice (some ⟨gr, 0, none⟩) es.length cr)] (by kernel_rfl) rfl ?_; clear HF; intro a HF
      refine from_op HF (i := 1) rfl rfl ?_
      refine e_call HF (vs := [.slice (some ⟨gr, 0, none⟩) es.length cr]) rfl (by kernel_rfl) (by kernel_rfl) rfl (by decide) (row_is _ _ _ _ hx.ok B _ (hL.mem HM hB) (HM.le hB) (HM.rd (i := 2) rfl) (by omega) hx.row) ?_
      rintro _ w256 ⟨rfl, hbw⟩
      refine ⟨_, rfl, ?_⟩
      replace HM := HM.call hbw
      clear HF; intro a HF
      refine from_pures HF 5 2 (j := 7) [(34, .int .i64 60), (33, .int .i64 (k : Int)), (258, .int .i64 60), (257, .int .i64 (k : Int)), (254, .tuple #[.int .i64 (k : Int), .int .i64 60])] (by kernel_rfl) rfl ?_; clear HF; intro a HF
      refine from_done rfl ?_
      replace HF := HF.sub (σ' := [(34, .int .i64 60), (33, .int .i64 (k : Int)), (32, .int .i64 60), (242, .bool true), (219, .bool false), (203, .bool false), (191, .bool false), (171, .int .u8 3), (31, .int .i64 (k : Int)), (163, .bool false), (91, .bool false), (89, .int .i64 6), (88, .slice (some ⟨g88, 0, none⟩) 6 6), (90, .int .i64 (j : Int)), (11, .slice (some ⟨gr, 0, none⟩) es.length cr), (12, .pointer (some ⟨g12, 0, none⟩)), (38, .bool false), (10, .bool false), (0, .int .u8 (cpu : Int)), (4, .int .i64 n)]) (by kernel_rfl)
      refine wp_seq ?_
      refine from_start ?_
      refine from_yl (S := fun wS => Mem w wS _) HF HM (i := 0) rfl rfl (d := 260) rfl (by decide) (v := .agg b.based.cells) (Yl.loadS rfl rfl ⟨(by kernel_rfl), (by kernel_rfl)⟩ rfl (fun _ h => range_of_block (h.blk (i := 1) rfl))) ?_; clear HF; intro a HF
      refine from_pures HF 1 1 (j := 2) [(261, .slice (some ⟨gr, 0, none⟩) es.length cr)] (by kernel_rfl) rfl ?_; clear HF; intro a HF
      refine from_op HF (i := 2) rfl rfl ?_
      refine e_call HF (vs := [.agg b.based.cells, .slice (some ⟨gr, 0, none⟩) es.length cr]) rfl (by kernel_rfl) (by kernel_rfl) rfl (by decide) (write_is b.based _ _ _ _ hx.ok B _ (hL.mem HM hB) (HM.le hB) (HM.rd (i := 2) rfl) (by omega) hx.err hx.out) ?_
      rintro _ w262 ⟨⟨A262, c262, rfl, ho, hc262⟩, hbw⟩
      refine ⟨_, rfl, ?_⟩
      replace HM := HM.callRow hbw ho
      clear HF; intro a HF
      refine from_pures HF 5 3 (j := 8) [(36, .int .i64 60), (35, .slice A262 0 c262), (264, .int .i64 60), (263, .slice A262 0 c262), (259, .tuple #[.slice A262 0 c262, .int .i64 60])] (by kernel_rfl) rfl ?_; clear HF; intro a HF
      refine from_done rfl ?_
      replace HF := HF.sub (σ' := [(36, .int .i64 60), (35, .slice A262 0 c262), (34, .int .i64 60), (33, .int .i64 (k : Int)), (32, .int .i64 60), (242, .bool true), (219, .bool false), (203, .bool false), (191, .bool false), (171, .int .u8 3), (31, .int .i64 (k : Int)), (163, .bool false), (91, .bool false), (89, .int .i64 6), (88, .slice (some ⟨g88, 0, none⟩) 6 6), (90, .int .i64 (j : Int)), (11, .slice (some ⟨gr, 0, none⟩) es.length cr), (12, .pointer (some ⟨g12, 0, none⟩)), (38, .bool false), (10, .bool false), (0, .int .u8 (cpu : Int)), (4, .int .i64 n)]) (by kernel_rfl)
      refine wp_seq ?_
      refine from_start ?_
      refine from_pures HF 3 0 (j := 3) [(267, .bool (((k : Int) : Int) == ((k : Int) : Int))), (266, .int .i64 (k : Int)), (265, .int .i64 (k : Int))] (by kernel_rfl) rfl ?_; clear HF; intro a HF
      replace HF := HF.as (t := 267) (u := .bool true) rfl (by simp)
      refine from_pures HF 12 3 (j := 15) [(279, .slice A262 0 c262), (278, .bool true), (277, .bool true), (276, .bool true), (275, .int .i64 60), (274, .int .i64 60), (273, .bool true), (272, .bool true), (271, .bool true), (270, .int .i64 60), (269, .int .i64 60), (268, .bool true)] (by kernel_rfl) rfl ?_; clear HF; intro a HF
      refine from_yl (S := fun wS => Mem w wS _) HF HM (i := 15) rfl rfl (d := 280) rfl (by decide) (v := .int .i64 0) (Yl.len rfl rfl (by kernel_rfl)) ?_; clear HF; intro a HF
      refine from_pures HF 3 16 (j := 19) [(10, .bool true), (282, .bool true), (281, .bool true)] (by kernel_rfl) rfl ?_; clear HF; intro a HF
      refine from_done rfl ?_
      replace HF := HF.sub (σ' := [(10, .bool true), (242, .bool true), (219, .bool false), (203, .bool false), (191, .bool false), (171, .int .u8 3), (31, .int .i64 (k : Int)), (163, .bool false), (91, .bool false), (89, .int .i64 6), (88, .slice (some ⟨g88, 0, none⟩) 6 6), (90, .int .i64 (j : Int)), (11, .slice (some ⟨gr, 0, none⟩) es.length cr), (12, .pointer (some ⟨g12, 0, none⟩)), (38, .bool false), (0, .int .u8 (cpu : Int)), (4, .int .i64 n)]) (by kernel_rfl)
      replace HM := HM.picks (fs' := [.row (.slice (some ⟨g88, 0, none⟩) 6 6) 6 (bads.flatMap fun b => b.cells.toList) 23 2, .blk g12 b.based.cells 23, .row (.slice (some ⟨gr, 0, none⟩) es.length cr) es.length ((es.set k e.noKind).flatMap evL) 37 11]) [1, 2, 3] (by decide) rfl
      refine wp_ret ?_
      exact ret1 rfl HF (.tmp HF rfl) (⟨rfl, HM.below⟩)
    ·
      have hx := hx4 rfl
      refine wp_block ?_
      refine wp_seq ?_
      refine from_start ?_
      refine from_pures HF 2 0 (j := 2) [(191, .bool false), (192, .bool false)] (by kernel_rfl) rfl ?_; clear HF; intro a HF
      refine from_done rfl ?_
      replace HF := HF.sub (σ' := [(191, .bool false), (171, .int .u8 4), (32, .int .i64 71), (31, .int .i64 (k : Int)), (163, .bool false), (91, .bool false), (89, .int .i64 6), (88, .slice (some ⟨g88, 0, none⟩) 6 6), (90, .int .i64 (j : Int)), (11, .slice (some ⟨gr, 0, none⟩) es.length cr), (12, .pointer (some ⟨g12, 0, none⟩)), (38, .bool false), (10, .bool false), (0, .int .u8 (cpu : Int)), (4, .int .i64 n)]) (by kernel_rfl)
      refine cond_false HF rfl ?_
      refine wp_seq ?_
      refine from_start ?_
      refine from_pures HF 2 0 (j := 2) [(203, .bool false), (204, .bool false)] (by kernel_rfl) rfl ?_; clear HF; intro a HF
      refine from_done rfl ?_
      replace HF := HF.sub (σ' := [(203, .bool false), (191, .bool false), (171, .int .u8 4), (32, .int .i64 71), (31, .int .i64 (k : Int)), (163, .bool false), (91, .bool false), (89, .int .i64 6), (88, .slice (some ⟨g88, 0, none⟩) 6 6), (90, .int .i64 (j : Int)), (11, .slice (some ⟨gr, 0, none⟩) es.length cr), (12, .pointer (some ⟨g12, 0, none⟩)), (38, .bool false), (10, .bool false), (0, .int .u8 (cpu : Int)), (4, .int .i64 n)]) (by kernel_rfl)
      refine cond_false HF rfl ?_
      refine wp_seq ?_
      refine from_start ?_
      refine from_pures HF 2 0 (j := 2) [(219, .bool false), (220, .bool false)] (by kernel_rfl) rfl ?_; clear HF; intro a HF
      refine from_done rfl ?_
      replace HF := HF.sub (σ' := [(219, .bool false), (203, .bool false), (191, .bool false), (171, .int .u8 4), (32, .int .i64 71), (31, .int .i64 (k : Int)), (163, .bool false), (91, .bool false), (89, .int .i64 6), (88, .slice (some ⟨g88, 0, none⟩) 6 6), (90, .int .i64 (j : Int)), (11, .slice (some ⟨gr, 0, none⟩) es.length cr), (12, .pointer (some ⟨g12, 0, none⟩)), (38, .bool false), (10, .bool false), (0, .int .u8 (cpu : Int)), (4, .int .i64 n)]) (by kernel_rfl)
      refine cond_false HF rfl ?_
      refine wp_seq ?_
      refine from_start ?_
      refine from_pures HF 2 0 (j := 2) [(242, .bool false), (243, .bool false)] (by kernel_rfl) rfl ?_; clear HF; intro a HF
      refine from_done rfl ?_
      replace HF := HF.sub (σ' := [(242, .bool false), (219, .bool false), (203, .bool false), (191, .bool false), (171, .int .u8 4), (32, .int .i64 71), (31, .int .i64 (k : Int)), (163, .bool false), (91, .bool false), (89, .int .i64 6), (88, .slice (some ⟨g88, 0, none⟩) 6 6), (90, .int .i64 (j : Int)), (11, .slice (some ⟨gr, 0, none⟩) es.length cr), (12, .pointer (some ⟨g12, 0, none⟩)), (38, .bool false), (10, .bool false), (0, .int .u8 (cpu : Int)), (4, .int .i64 n)]) (by kernel_rfl)
      refine cond_false HF rfl ?_
      refine wp_seq ?_
      refine from_start ?_
      refine from_pures HF 2 0 (j := 2) [(248, .bool true), (249, .bool true)] (by kernel_rfl) rfl ?_; clear HF; intro a HF
      refine from_done rfl ?_
      replace HF := HF.sub (σ' := [(248, .bool true), (242, .bool false), (219, .bool false), (203, .bool false), (191, .bool false), (171, .int .u8 4), (32, .int .i64 71), (31, .int .i64 (k : Int)), (163, .bool false), (91, .bool false), (89, .int .i64 6), (88, .slice (some ⟨g88, 0, none⟩) 6 6), (90, .int .i64 (j : Int)), (11, .slice (some ⟨gr, 0, none⟩) es.length cr), (12, .pointer (some ⟨g12, 0, none⟩)), (38, .bool false), (10, .bool false), (0, .int .u8 (cpu : Int)), (4, .int .i64 n)]) (by kernel_rfl)
      refine cond_true HF rfl ?_
      refine from_start ?_
      refine from_pures HF 2 0 (j := 2) [(251, .int .i64 (k : Int)), (250, .slice (some ⟨gr, 0, none⟩) es.length cr)] (by kernel_rfl) rfl ?_; clear HF; intro a HF
      refine from_yl (S := fun wS => Mem w wS _) HF HM (i := 2) rfl rfl (d := 252) rfl (by decide) (v := .pointer (some ⟨gr, k * 11, none⟩)) ((Yl.indexAddr (ad := ⟨gr, 0, none⟩) (y := k) (sz := 11) rfl rfl rfl (by omega) (by kernel_rfl)).as (by rw [Addr.add_mid, Nat.zero_add])) ?_; clear HF; intro a HF
      refine from_pures HF 1 3 (j := 4) [(253, .pointer (some ⟨gr, k * 11, none⟩))] (by kernel_rfl) rfl ?_; clear HF; intro a HF
      refine from_op HF (i := 4) rfl rfl ?_
      refine e_storeRow HF HM (i := 2) rfl rfl rfl rfl (by kernel_rfl) rfl rfl (by simp only [flat_len evL 11 evL_len]; omega) ?_
      clear HM; intro w34_4 HM
      replace HM := HM.asRow (i := 2) (ys := (es.set k (e.to3 0 e.time e.cpu)).flatMap evL) rfl (putAt_cell evL 11 evL_len es k e (e.to3 0 e.time e.cpu) hke 0 (by decide) _ rfl)
      refine from_pures HF 1 5 (j := 6) [(32, .int .i64 61)] (by kernel_rfl) rfl ?_; clear HF; intro a HF
      refine from_done rfl ?_
      replace HF := HF.sub (σ' := [(32, .int .i64 61), (248, .bool true), (242, .bool false), (219, .bool false), (203, .bool false), (191, .bool false), (171, .int .u8 4), (31, .int .i64 (k : Int)), (163, .bool false), (91, .bool false), (89, .int .i64 6), (88, .slice (some ⟨g88, 0, none⟩) 6 6), (90, .int .i64 (j : Int)), (11, .slice (some ⟨gr, 0, none⟩) es.length cr), (12, .pointer (some ⟨g12, 0, none⟩)), (38, .bool false), (10, .bool false), (0, .int .u8 (cpu : Int)), (4, .int .i64 n)]) (by kernel_rfl)
      refine wp_seq ?_
      refine from_start ?_
      refine from_pures HF 1 0 (j := 1) [(255, .slice (some ⟨gr, 0, none⟩) es.length cr)] (by kernel_rfl) rfl ?_; clear HF; intro a HF
      refine from_op HF (i := 1) rfl rfl ?_
      refine e_call HF (vs := [.slice (some ⟨gr, 0, none⟩) es.length cr]) rfl (by kernel_rfl) (by kernel_rfl) rfl (by decide) (row_is _ _ _ _ hx.ok B _ (hL.mem HM hB) (HM.le hB) (HM.rd (i := 2) rfl) (by omega) hx.row) ?_
      rintro _ w256 ⟨rfl, hbw⟩
      refine ⟨_, rfl, ?_⟩
      replace HM := HM.call hbw
      clear HF; intro a HF
      refine from_pures HF 5 2 (j := 7) [(34, .int .i64 61), (33, .int .i64 (k : Int)), (258, .int .i64 61), (257, .int .i64 (k : Int)), (254, .tuple #[.int .i64 (k : Int), .int .i64 61])] (by kernel_rfl) rfl ?_; clear HF; intro a HF
      refine from_done rfl ?_
      replace HF := HF.sub (σ' := [(34, .int .i64 61), (33, .int .i64 (k : Int)), (32, .int .i64 61), (248, .bool true), (242, .bool false), (219, .bool false), (203, .bool false), (191, .bool false), (171, .int .u8 4), (31, .int .i64 (k : Int)), (163, .bool false), (91, .bool false), (89, .int .i64 6), (88, .slice (some ⟨g88, 0, none⟩) 6 6), (90, .int .i64 (j : Int)), (11, .slice (some ⟨gr, 0, none⟩) es.length cr), (12, .pointer (some ⟨g12, 0, none⟩)), (38, .bool false), (10, .bool false), (0, .int .u8 (cpu : Int)), (4, .int .i64 n)]) (by kernel_rfl)
      refine wp_seq ?_
      refine from_start ?_
      refine from_yl (S := fun wS => Mem w wS _) HF HM (i := 0) rfl rfl (d := 260) rfl (by decide) (v := .agg b.based.cells) (Yl.loadS rfl rfl ⟨(by kernel_rfl), (by kernel_rfl)⟩ rfl (fun _ h => range_of_block (h.blk (i := 1) rfl))) ?_; clear HF; intro a HF
      refine from_pures HF 1 1 (j := 2) [(261, .slice (some ⟨gr, 0, none⟩) es.length cr)] (by kernel_rfl) rfl ?_; clear HF; intro a HF
      refine from_op HF (i := 2) rfl rfl ?_
      refine e_call HF (vs := [.agg b.based.cells, .slice (some ⟨gr, 0, none⟩) es.length cr]) rfl (by kernel_rfl) (by kernel_rfl) rfl (by decide) (write_is b.based _ _ _ _ hx.ok B _ (hL.mem HM hB) (HM.le hB) (HM.rd (i := 2) rfl) (by omega) hx.err hx.out) ?_
      rintro _ w262 ⟨⟨A262, c262, rfl, ho, hc262⟩, hbw⟩
      refine ⟨_, rfl, ?_⟩
      replace HM := HM.callRow hbw ho
      clear HF; intro a HF
      refine from_pures HF 5 3 (j := 8) [(36, .int .i64 61), (35, .slice A262 0 c262), (264, .int .i64 61), (263, .slice A262 0 c262), (259, .tuple #[.slice A262 0 c262, .int .i64 61])] (by kernel_rfl) rfl ?_; clear HF; intro a HF
      refine from_done rfl ?_
      replace HF := HF.sub (σ' := [(36, .int .i64 61), (35, .slice A262 0 c262), (34, .int .i64 61), (33, .int .i64 (k : Int)), (32, .int .i64 61), (248, .bool true), (242, .bool false), (219, .bool false), (203, .bool false), (191, .bool false), (171, .int .u8 4), (31, .int .i64 (k : Int)), (163, .bool false), (91, .bool false), (89, .int .i64 6), (88, .slice (some ⟨g88, 0, none⟩) 6 6), (90, .int .i64 (j : Int)), (11, .slice (some ⟨gr, 0, none⟩) es.length cr), (12, .pointer (some ⟨g12, 0, none⟩)), (38, .bool false), (10, .bool false), (0, .int .u8 (cpu : Int)), (4, .int .i64 n)]) (by kernel_rfl)
      refine wp_seq ?_
      refine from_start ?_
      refine from_pures HF 3 0 (j := 3) [(267, .bool (((k : Int) : Int) == ((k : Int) : Int))), (266, .int .i64 (k : Int)), (265, .int .i64 (k : Int))] (by kernel_rfl) rfl ?_; clear HF; intro a HF
      replace HF := HF.as (t := 267) (u := .bool true) rfl (by simp)
      refine from_pures HF 12 3 (j := 15) [(279, .slice A262 0 c262), (278, .bool true), (277, .bool true), (276, .bool true), (275, .int .i64 61), (274, .int .i64 61), (273, .bool true), (272, .bool true), (271, .bool true), (270, .int .i64 61), (269, .int .i64 61), (268, .bool true)] (by kernel_rfl) rfl ?_; clear HF; intro a HF
      refine from_yl (S := fun wS => Mem w wS _) HF HM (i := 15) rfl rfl (d := 280) rfl (by decide) (v := .int .i64 0) (Yl.len rfl rfl (by kernel_rfl)) ?_; clear HF; intro a HF
      refine from_pures HF 3 16 (j := 19) [(10, .bool true), (282, .bool true), (281, .bool true)] (by kernel_rfl) rfl ?_; clear HF; intro a HF
      refine from_done rfl ?_
      replace HF := HF.sub (σ' := [(10, .bool true), (248, .bool true), (242, .bool false), (219, .bool false), (203, .bool false), (191, .bool false), (171, .int .u8 4), (31, .int .i64 (k : Int)), (163, .bool false), (91, .bool false), (89, .int .i64 6), (88, .slice (some ⟨g88, 0, none⟩) 6 6), (90, .int .i64 (j : Int)), (11, .slice (some ⟨gr, 0, none⟩) es.length cr), (12, .pointer (some ⟨g12, 0, none⟩)), (38, .bool false), (0, .int .u8 (cpu : Int)), (4, .int .i64 n)]) (by kernel_rfl)
      replace HM := HM.picks (fs' := [.row (.slice (some ⟨g88, 0, none⟩) 6 6) 6 (bads.flatMap fun b => b.cells.toList) 23 2, .blk g12 b.based.cells 23, .row (.slice (some ⟨gr, 0, none⟩) es.length cr) es.length ((es.set k (e.to3 0 e.time e.cpu)).flatMap evL) 37 11]) [1, 2, 3] (by decide) rfl
      refine wp_ret ?_
      exact ret1 rfl HF (.tmp HF rfl) (⟨rfl, HM.below⟩)
    ·
      have hx := hx5 rfl
      refine wp_block ?_
      refine wp_seq ?_
      refine from_start ?_
      refine from_pures HF 2 0 (j := 2) [(191, .bool false), (192, .bool false)] (by kernel_rfl) rfl ?_; clear HF; intro a HF
      refine from_done rfl ?_
      replace HF := HF.sub (σ' := [(191, .bool false), (171, .int .u8 5), (32, .int .i64 71), (31, .int .i64 (k : Int)), (163, .bool false), (91, .bool false), (89, .int .i64 6), (88, .slice (some ⟨g88, 0, none⟩) 6 6), (90, .int .i64 (j : Int)), (11, .slice (some ⟨gr, 0, none⟩) es.length cr), (12, .pointer (some ⟨g12, 0, none⟩)), (38, .bool false), (10, .bool false), (0, .int .u8 (cpu : Int)), (4, .int .i64 n)]) (by kernel_rfl)
      refine cond_false HF rfl ?_
      refine wp_seq ?_
      refine from_start ?_
      refine from_pures HF 2 0 (j := 2) [(203, .bool false), (204, .bool false)] (by kernel_rfl) rfl ?_; clear HF; intro a HF
      refine from_done rfl ?_
      replace HF := HF.sub (σ' := [(203, .bool false), (191, .bool false), (171, .int .u8 5), (32, .int .i64 71), (31, .int .i64 (k : Int)), (163, .bool false), (91, .bool false), (89, .int .i64 6), (88, .slice (some ⟨g88, 0, none⟩) 6 6), (90, .int .i64 (j : Int)), (11, .slice (some ⟨gr, 0, none⟩) es.length cr), (12, .pointer (some ⟨g12, 0, none⟩)), (38, .bool false), (10, .bool false), (0, .int .u8 (cpu : Int)), (4, .int .i64 n)]) (by kernel_rfl)
      refine cond_false HF rfl ?_
      refine wp_seq ?_
      refine from_start ?_
      refine from_pures HF 2 0 (j := 2) [(219, .bool false), (220, .bool false)] (by kernel_rfl) rfl ?_; clear HF; intro a HF
      refine from_done rfl ?_
      replace HF := HF.sub (σ' := [(219, .bool false), (203, .bool false), (191, .bool false), (171, .int .u8 5), (32, .int .i64 71), (31, .int .i64 (k : Int)), (163, .bool false), (91, .bool false), (89, .int .i64 6), (88, .slice (some ⟨g88, 0, none⟩) 6 6), (90, .int .i64 (j : Int)), (11, .slice (some ⟨gr, 0, none⟩) es.length cr), (12, .pointer (some ⟨g12, 0, none⟩)), (38, .bool false), (10, .bool false), (0, .int .u8 (cpu : Int)), (4, .int .i64 n)]) (by kernel_rfl)
      refine cond_false HF rfl ?_
      refine wp_seq ?_
      refine from_start ?_
      refine from_pures HF 2 0 (j := 2) [(242, .bool false), (243, .bool false)] (by kernel_rfl) rfl ?_; clear HF; intro a HF
      refine from_done rfl ?_
      replace HF := HF.sub (σ' := [(242, .bool false), (219, .bool false), (203, .bool false), (191, .bool false), (171, .int .u8 5), (32, .int .i64 71), (31, .int .i64 (k : Int)), (163, .bool false), (91, .bool false), (89, .int .i64 6), (88, .slice (some ⟨g88, 0, none⟩) 6 6), (90, .int .i64 (j : Int)), (11, .slice (some ⟨gr, 0, none⟩) es.length cr), (12, .pointer (some ⟨g12, 0, none⟩)), (38, .bool false), (10, .bool false), (0, .int .u8 (cpu : Int)), (4, .int .i64 n)]) (by kernel_rfl)
      refine cond_false HF rfl ?_
      refine wp_seq ?_
      refine from_start ?_
      refine from_pures HF 2 0 (j := 2) [(248, .bool false), (249, .bool false)] (by kernel_rfl) rfl ?_; clear HF; intro a HF
      refine from_done rfl ?_
      replace HF := HF.sub (σ' := [(248, .bool false), (242, .bool false), (219, .bool false), (203, .bool false), (191, .bool false), (171, .int .u8 5), (32, .int .i64 71), (31, .int .i64 (k : Int)), (163, .bool false), (91, .bool false), (89, .int .i64 6), (88, .slice (some ⟨g88, 0, none⟩) 6 6), (90, .int .i64 (j : Int)), (11, .slice (some ⟨gr, 0, none⟩) es.length cr), (12, .pointer (some ⟨g12, 0, none⟩)), (38, .bool false), (10, .bool false), (0, .int .u8 (cpu : Int)), (4, .int .i64 n)]) (by kernel_rfl)
      refine cond_false HF rfl ?_
      refine wp_seq ?_
      refine any_start (by kernel_rfl) (fun wS => Mem w wS [.row (.slice (some ⟨g88, 0, none⟩) 6 6) 6 (bads.flatMap fun b => b.cells.toList) 23 2, .blk g12 b.based.cells 23, .row (.slice (some ⟨gr, 0, none⟩) es.length cr) es.length (es.flatMap evL) 37 11]) [19] ?_
      replace HM := HM.drew
      have HS := HM.picks (fs' := [.row (.slice (some ⟨g88, 0, none⟩) 6 6) 6 (bads.flatMap fun b => b.cells.toList) 23 2, .blk g12 b.based.cells 23, .row (.slice (some ⟨gr, 0, none⟩) es.length cr) es.length (es.flatMap evL) 37 11]) [0, 1, 2] (by decide) rfl
      refine any_pures HF (fun _ => HS) (fun _ _ d _ _ h => by cases d <;> exact h) [0, 1, 2, 3, 7, 8, 12, 13] #[true, true, true, true, false, false, false, true, true, false, false, false, true, true, false, false, false, false, false, false] [(185, .int .i64 (k : Int)), (184, .slice (some ⟨gr, 0, none⟩) es.length cr), (180, .int .i64 (k : Int)), (179, .slice (some ⟨gr, 0, none⟩) es.length cr), (175, .int .i64 (k : Int)), (174, .slice (some ⟨gr, 0, none⟩) es.length cr), (173, .int .i64 (k : Int)), (172, .slice (some ⟨gr, 0, none⟩) es.length cr)] (by kernel_rfl) ?_; clear HF; intro a HF
      refine any_yl HF HS (i := 4) rfl rfl (d := 176) rfl (by decide) (by kernel_rfl) (fun _ _ _ h => h) (v := .pointer (some ⟨gr, k * 11, none⟩)) ((Yl.indexAddr (ad := ⟨gr, 0, none⟩) (y := k) (sz := 11) rfl rfl rfl (by omega) (by kernel_rfl)).as (by rw [Addr.add_mid, Nat.zero_add])) ?_; clear HF; intro a HF
      refine any_pures HF (fun _ => HS) (fun _ _ d _ _ h => by cases d <;> exact h) [5] #[true, true, true, true, true, true, false, true, true, false, false, false, true, true, false, false, false, false, false, false] [(177, .pointer (some ⟨gr, k * 11, none⟩))] (by kernel_rfl) ?_; clear HF; intro a HF
      refine any_yl HF HS (i := 6) rfl rfl (d := 178) rfl (by decide) (by kernel_rfl) (fun _ _ _ h => h) (v := .int .i64 e.seq) (Yl.load1 rfl rfl (by kernel_rfl) (fun _ h => h.rowCell evL_len (i := 2) rfl (k := k) (off := 0) (x := e) hke rfl)) ?_; clear HF; intro a HF
      refine any_yl HF HS (i := 9) rfl rfl (d := 181) rfl (by decide) (by kernel_rfl) (fun _ _ _ h => h) (v := .pointer (some ⟨gr, k * 11, none⟩)) ((Yl.indexAddr (ad := ⟨gr, 0, none⟩) (y := k) (sz := 11) rfl rfl rfl (by omega) (by kernel_rfl)).as (by rw [Addr.add_mid, Nat.zero_add])) ?_; clear HF; intro a HF
      refine any_pures HF (fun _ => HS) (fun _ _ d _ _ h => by cases d <;> exact h) [10] #[true, true, true, true, true, true, true, true, true, true, true, false, true, true, false, false, false, false, false, false] [(182, .pointer (some ⟨gr, k * 11 + 1, none⟩))] (by kernel_rfl) ?_; clear HF; intro a HF
      refine any_yl HF HS (i := 11) rfl rfl (d := 183) rfl (by decide) (by kernel_rfl) (fun _ _ _ h => h) (v := .int .i64 e.time) (Yl.load1 rfl rfl (by kernel_rfl) (fun _ h => h.rowCell evL_len (i := 2) rfl (k := k) (off := 1) (x := e) hke rfl)) ?_; clear HF; intro a HF
      refine any_yl HF HS (i := 14) rfl rfl (d := 186) rfl (by decide) (by kernel_rfl) (fun _ _ _ h => h) (v := .pointer (some ⟨gr, k * 11, none⟩)) ((Yl.indexAddr (ad := ⟨gr, 0, none⟩) (y := k) (sz := 11) rfl rfl rfl (by omega) (by kernel_rfl)).as (by rw [Addr.add_mid, Nat.zero_add])) ?_; clear HF; intro a HF
      refine any_pures HF (fun _ => HS) (fun _ _ d _ _ h => by cases d <;> exact h) [15] #[true, true, true, true, true, true, true, true, true, true, true, true, true, true, true, true, false, false, false, false] [(187, .pointer (some ⟨gr, k * 11 + 2, none⟩))] (by kernel_rfl) ?_; clear HF; intro a HF
      refine any_yl HF HS (i := 16) rfl rfl (d := 188) rfl (by decide) (by kernel_rfl) (fun _ _ _ h => h) (v := .int .u8 (e.cpu : Int)) (Yl.load1 rfl rfl (by kernel_rfl) (fun _ h => h.rowCell evL_len (i := 2) rfl (k := k) (off := 2) (x := e) hke rfl)) ?_; clear HF; intro a HF
      refine any_yl HF HS (i := 17) rfl rfl (d := 189) rfl (by decide) (by kernel_rfl) (fun _ _ _ h => h) (v := .agg #[.int .i64 e.seq, .int .i64 e.time, .int .u8 (e.cpu : Int), .int .u8 6, .int .i64 1, .int .i64 0, .int .i64 0, .int .i64 0, .int .i64 0, .int .u64 0, .int .i64 0]) (Yl.build (vs := [(0, .int .i64 e.seq), (1, .int .i64 e.time), (2, .int .u8 (e.cpu : Int)), (3, .int .u8 6), (4, .int .i64 1)]) rfl (by kernel_rfl) (by kernel_rfl)) ?_; clear HF; intro a HF
      refine any_yl HF HS (i := 18) rfl rfl (d := 190) rfl (by decide) (by kernel_rfl) (fun _ _ _ h => h) (v := .pointer (some ⟨gr, k * 11, none⟩)) ((Yl.indexAddr (ad := ⟨gr, 0, none⟩) (y := k) (sz := 11) rfl rfl rfl (by omega) (by kernel_rfl)).as (by rw [Addr.add_mid, Nat.zero_add])) ?_; clear HF; intro a HF
      refine any_all [19] (by kernel_rfl) rfl ?_
      refine all_cons ?_ all_nil
      refine any_op HF (i := 19) rfl rfl ?_
      refine e_storeRowS HF HM (i := 2) (sz := 11) rfl rfl rfl rfl ⟨(by kernel_rfl), (by kernel_rfl)⟩ rfl (by simp [Value.oneCell']) rfl (by simp only [flat_len evL 11 evL_len]; omega) ?_
      clear HM; intro w21_19 HM
      replace HM := HM.asRow (i := 2) (ys := (es.set k (pickEv e.seq e.time e.cpu 1)).flatMap evL) rfl (putAt_flat evL 11 evL_len es k (pickEv e.seq e.time e.cpu 1) (by omega))
      refine noS (by kernel_rfl) ?_
      refine any_done (by kernel_rfl) ?_
      replace HF := HF.sub (σ' := [(248, .bool false), (242, .bool false), (219, .bool false), (203, .bool false), (191, .bool false), (171, .int .u8 5), (32, .int .i64 71), (31, .int .i64 (k : Int)), (163, .bool false), (91, .bool false), (89, .int .i64 6), (88, .slice (some ⟨g88, 0, none⟩) 6 6), (90, .int .i64 (j : Int)), (11, .slice (some ⟨gr, 0, none⟩) es.length cr), (12, .pointer (some ⟨g12, 0, none⟩)), (38, .bool false), (10, .bool false), (0, .int .u8 (cpu : Int)), (4, .int .i64 n)]) (by kernel_rfl)
      refine from_start ?_
      refine from_pures HF 1 0 (j := 1) [(32, .int .i64 62)] (by kernel_rfl) rfl ?_; clear HF; intro a HF
      refine from_done rfl ?_
      replace HF := HF.sub (σ' := [(32, .int .i64 62), (248, .bool false), (242, .bool false), (219, .bool false), (203, .bool false), (191, .bool false), (171, .int .u8 5), (31, .int .i64 (k : Int)), (163, .bool false), (91, .bool false), (89, .int .i64 6), (88, .slice (some ⟨g88, 0, none⟩) 6 6), (90, .int .i64 (j : Int)), (11, .slice (some ⟨gr, 0, none⟩) es.length cr), (12, .pointer (some ⟨g12, 0, none⟩)), (38, .bool false), (10, .bool false), (0, .int .u8 (cpu : Int)), (4, .int .i64 n)]) (by kernel_rfl)
      refine wp_seq ?_
      refine from_start ?_
      refine from_pures HF 1 0 (j := 1) [(255, .slice (some ⟨gr, 0, none⟩) es.length cr)] (by kernel_rfl) rfl ?_; clear HF; intro a HF
      refine from_op HF (i := 1) rfl rfl ?_
      refine e_call HF (vs := [.slice (some ⟨gr, 0, none⟩) es.length cr]) rfl (by kernel_rfl) (by kernel_rfl) rfl (by decide) (row_is _ _ _ _ hx.ok B _ (hL.mem HM hB) (HM.le hB) (HM.rd (i := 2) rfl) (by omega) hx.row) ?_
      rintro _ w256 ⟨rfl, hbw⟩
      refine ⟨_, rfl, ?_⟩
      replace HM := HM.call hbw
      clear HF; intro a HF
      refine from_pures HF 5 2 (j := 7) [(34, .int .i64 62), (33, .int .i64 (k : Int)), (258, .int .i64 62), (257, .int .i64 (k : Int)), (254, .tuple #[.int .i64 (k : Int), .int .i64 62])] (by kernel_rfl) rfl ?_; clear HF; intro a HF
      refine from_done rfl ?_
      replace HF := HF.sub (σ' := [(34, .int .i64 62), (33, .int .i64 (k : Int)), (32, .int .i64 62), (248, .bool false), (242, .bool false), (219, .bool false), (203, .bool false), (191, .bool false), (171, .int .u8 5), (31, .int .i64 (k : Int)), (163, .bool false), (91, .bool false), (89, .int .i64 6), (88, .slice (some ⟨g88, 0, none⟩) 6 6), (90, .int .i64 (j : Int)), (11, .slice (some ⟨gr, 0, none⟩) es.length cr), (12, .pointer (some ⟨g12, 0, none⟩)), (38, .bool false), (10, .bool false), (0, .int .u8 (cpu : Int)), (4, .int .i64 n)]) (by kernel_rfl)
      refine wp_seq ?_
      refine from_start ?_
      refine from_yl (S := fun wS => Mem w wS _) HF HM (i := 0) rfl rfl (d := 260) rfl (by decide) (v := .agg b.based.cells) (Yl.loadS rfl rfl ⟨(by kernel_rfl), (by kernel_rfl)⟩ rfl (fun _ h => range_of_block (h.blk (i := 1) rfl))) ?_; clear HF; intro a HF
      refine from_pures HF 1 1 (j := 2) [(261, .slice (some ⟨gr, 0, none⟩) es.length cr)] (by kernel_rfl) rfl ?_; clear HF; intro a HF
      refine from_op HF (i := 2) rfl rfl ?_
      refine e_call HF (vs := [.agg b.based.cells, .slice (some ⟨gr, 0, none⟩) es.length cr]) rfl (by kernel_rfl) (by kernel_rfl) rfl (by decide) (write_is b.based _ _ _ _ hx.ok B _ (hL.mem HM hB) (HM.le hB) (HM.rd (i := 2) rfl) (by omega) hx.err hx.out) ?_
      rintro _ w262 ⟨⟨A262, c262, rfl, ho, hc262⟩, hbw⟩
      refine ⟨_, rfl, ?_⟩
      replace HM := HM.callRow hbw ho
      clear HF; intro a HF
      refine from_pures HF 5 3 (j := 8) [(36, .int .i64 62), (35, .slice A262 0 c262), (264, .int .i64 62), (263, .slice A262 0 c262), (259, .tuple #[.slice A262 0 c262, .int .i64 62])] (by kernel_rfl) rfl ?_; clear HF; intro a HF
      refine from_done rfl ?_
      replace HF := HF.sub (σ' := [(36, .int .i64 62), (35, .slice A262 0 c262), (34, .int .i64 62), (33, .int .i64 (k : Int)), (32, .int .i64 62), (248, .bool false), (242, .bool false), (219, .bool false), (203, .bool false), (191, .bool false), (171, .int .u8 5), (31, .int .i64 (k : Int)), (163, .bool false), (91, .bool false), (89, .int .i64 6), (88, .slice (some ⟨g88, 0, none⟩) 6 6), (90, .int .i64 (j : Int)), (11, .slice (some ⟨gr, 0, none⟩) es.length cr), (12, .pointer (some ⟨g12, 0, none⟩)), (38, .bool false), (10, .bool false), (0, .int .u8 (cpu : Int)), (4, .int .i64 n)]) (by kernel_rfl)
      refine wp_seq ?_
      refine from_start ?_
      refine from_pures HF 3 0 (j := 3) [(267, .bool (((k : Int) : Int) == ((k : Int) : Int))), (266, .int .i64 (k : Int)), (265, .int .i64 (k : Int))] (by kernel_rfl) rfl ?_; clear HF; intro a HF
      replace HF := HF.as (t := 267) (u := .bool true) rfl (by simp)
      refine from_pures HF 12 3 (j := 15) [(279, .slice A262 0 c262), (278, .bool true), (277, .bool true), (276, .bool true), (275, .int .i64 62), (274, .int .i64 62), (273, .bool true), (272, .bool true), (271, .bool true), (270, .int .i64 62), (269, .int .i64 62), (268, .bool true)] (by kernel_rfl) rfl ?_; clear HF; intro a HF
      refine from_yl (S := fun wS => Mem w wS _) HF HM (i := 15) rfl rfl (d := 280) rfl (by decide) (v := .int .i64 0) (Yl.len rfl rfl (by kernel_rfl)) ?_; clear HF; intro a HF
      refine from_pures HF 3 16 (j := 19) [(10, .bool true), (282, .bool true), (281, .bool true)] (by kernel_rfl) rfl ?_; clear HF; intro a HF
      refine from_done rfl ?_
      replace HF := HF.sub (σ' := [(10, .bool true), (248, .bool false), (242, .bool false), (219, .bool false), (203, .bool false), (191, .bool false), (171, .int .u8 5), (31, .int .i64 (k : Int)), (163, .bool false), (91, .bool false), (89, .int .i64 6), (88, .slice (some ⟨g88, 0, none⟩) 6 6), (90, .int .i64 (j : Int)), (11, .slice (some ⟨gr, 0, none⟩) es.length cr), (12, .pointer (some ⟨g12, 0, none⟩)), (38, .bool false), (0, .int .u8 (cpu : Int)), (4, .int .i64 n)]) (by kernel_rfl)
      replace HM := HM.picks (fs' := [.row (.slice (some ⟨g88, 0, none⟩) 6 6) 6 (bads.flatMap fun b => b.cells.toList) 23 2, .blk g12 b.based.cells 23, .row (.slice (some ⟨gr, 0, none⟩) es.length cr) es.length ((es.set k (pickEv e.seq e.time e.cpu 1)).flatMap evL) 37 11]) [1, 2, 3] (by decide) rfl
      refine wp_ret ?_
      exact ret1 rfl HF (.tmp HF rfl) (⟨rfl, HM.below⟩)
end Go.Proofs.YtpekelggcmgnnaaDoor
