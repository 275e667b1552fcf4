/- Texts laid together: Blk4W, Blk5W, BlkV, Aw10W, BlkW, DoorSb, DoorA3, Made10W. -/
import Derived.Test.YtjpielapplglmaaDoorBlkR
import Derived.Test.YtjpielapplglmaaDoorMade7
import Derived.Test.YtjpielapplglmaaDoorDoor5
import Derived.Test.YtjpielapplglmaaDoorDoor2
import Derived.OpenShut
import Derived.Test.YtjpielapplglmaaDoorCardFindsZ2
/- Blocks: parse: the walk. -/
set_option linter.all false
namespace Go.Proofs.YtjpielapplglmaaDoor
open Go.RowKit
theorem parseR1 {l : List Nat} {es : List Ev} {L er : Nat} (h3 : parse3 l = true) (h0 : 0 < tkVal 4096 (tkRest (tkRest l)))
    (hq : readR ⟨(tkVal 281474976710656 (tkRest (tkRest (tkRest l))) : Int), (tkVal 281474976710656 (tkRest (tkRest (tkRest (tkRest l)))) : Int)⟩ (tkVal 63 l) (tkVal 4096 (tkRest (tkRest l)) : Int) (tkRest (tkRest (tkRest (tkRest (tkRest l))))) = (es, L, er)) (her : er = 0) :
    parseEvs l = parseRows (tkVal 63 l) (tkVal 281474976710656 (tkRest l)) (tkRest (tkRest (tkRest l))) (es, L, 0) := by
  rw [parseEvs_full h3 h0 hq, her]
set_option maxRecDepth 100000 in
set_option maxHeartbeats 4000000 in
theorem parse_any (k : Nat) (hk : k = 1 ∨ k = 2) (A : Option Addr) (n c : Nat) (l : List Nat) (B : Nat) (w : World) (hL : LaidX B w) (hB : B ≤ w.heap.size) (hr : Rd w w.heap.size 1 A n (l.map B8)) (hc : n ≤ c) (hln : n = l.length) (hn : n ≤ 100000000) (hl : ∀ b ∈ l, b < 256) :
    Calls Tryd.prog 36 #[.int .u8 (k : Int), .slice A n c] w (ParseIs w (parseR k l)) := by
  refine calls_enter (vs := [.int .u8 (k : Int), .slice A n c]) Tryd.func36 rfl rfl (by kernel_rfl) (σ0 := [(0, .int .u8 (k : Int)), (1, .slice A n c)]) rfl ?_
  intro a HF
  have HM := Mem.start w
  refine wp_seq ?_
  refine from_start ?_
  refine from_op HF (i := 0) rfl rfl ?_
  refine e_box HF HM (cs := #[.slice A n c]) rfl rfl rfl rfl (by decide) ?_
  clear HF HM; intro a w3 g3 HF HM
  refine from_op HF (i := 1) rfl rfl ?_
  refine e_alloc HF HM (cs := #[.int .u8 0, .int .u8 0, .int .i64 0, .int .i64 0, .slice none 0 0]) rfl (by kernel_rfl) rfl (by decide) ?_
  clear HF HM; intro a w4 g4 HF HM
  refine from_pures HF 1 2 (j := 3) [(5, .bool false)] (by kernel_rfl) rfl ?_; clear HF; intro a HF
  refine from_done rfl ?_
  replace HF := HF.sub (σ' := [(5, .bool false), (4, .pointer (some ⟨g4, 0, none⟩)), (3, .pointer (some ⟨g3, 0, none⟩)), (0, .int .u8 (k : Int))]) (by kernel_rfl)
  refine wp_seq ?_
  refine from_start ?_
  refine from_op HF (i := 0) rfl rfl ?_
  refine e_alloc HF HM (cs := #[.bool false]) rfl (by kernel_rfl) rfl (by decide) ?_
  clear HF HM; intro a w6 g6 HF HM
  refine from_op HF (i := 1) rfl rfl ?_
  refine e_store HF HM (i := 0) (cs := #[.bool false]) rfl rfl rfl rfl (by kernel_rfl) rfl rfl (by simp) ?_
  clear HM; intro w1_1 HM
  refine from_done rfl ?_
  refine wp_seq ?_
  refine from_start ?_
  refine from_yl (S := fun wS => Mem w wS _) HF HM (i := 0) rfl rfl (d := 14) rfl (by decide) (v := .func (.func 59) #[] #[.pointer (some ⟨g3, 0, none⟩), .pointer (some ⟨g6, 0, none⟩)]) (Yl.makeFunc (fst := []) (caps := [.pointer (some ⟨g3, 0, none⟩), .pointer (some ⟨g6, 0, none⟩)]) rfl rfl rfl) ?_; clear HF; intro a HF
  refine from_pures HF 1 1 (j := 2) [(7, .func (.func 59) #[] #[.pointer (some ⟨g3, 0, none⟩), .pointer (some ⟨g6, 0, none⟩)])] (by kernel_rfl) rfl ?_; clear HF; intro a HF
  refine from_done rfl ?_
  replace HF := HF.sub (σ' := [(7, .func (.func 59) #[] #[.pointer (some ⟨g3, 0, none⟩), .pointer (some ⟨g6, 0, none⟩)]), (6, .pointer (some ⟨g6, 0, none⟩)), (5, .bool false), (4, .pointer (some ⟨g4, 0, none⟩)), (3, .pointer (some ⟨g3, 0, none⟩)), (0, .int .u8 (k : Int))]) (by kernel_rfl)
  refine wp_seq ?_
  refine from_start ?_
  refine from_pures HF 1 0 (j := 1) [(15, .int .u8 (k : Int))] (by kernel_rfl) rfl ?_; clear HF; intro a HF
  refine from_yl (S := fun wS => Mem w wS _) HF HM (i := 1) rfl rfl (d := 16) rfl (by decide) (v := .agg #[.int .u8 (k : Int), .int .u8 0, .int .i64 0, .int .i64 0, .slice none 0 0]) (Yl.build (vs := [(0, .int .u8 (k : Int))]) rfl (by kernel_rfl) (by kernel_rfl)) ?_; clear HF; intro a HF
  refine from_op HF (i := 2) rfl rfl ?_
  refine e_alloc HF HM (cs := #[.int .u8 0, .int .u8 0, .int .i64 0, .int .i64 0, .slice none 0 0]) rfl (by kernel_rfl) rfl (by decide) ?_
  clear HF HM; intro a w8 g8 HF HM
  refine from_op HF (i := 3) rfl rfl ?_
  refine e_storeAll HF HM (i := 0) (cs := #[.int .u8 0, .int .u8 0, .int .i64 0, .int .i64 0, .slice none 0 0]) (ds := #[.int .u8 (k : Int), .int .u8 0, .int .i64 0, .int .i64 0, .slice none 0 0]) rfl rfl rfl rfl si_bk rfl rfl (by simp [Value.oneCell']) rfl ?_
  clear HM; intro w3_3 HM
  refine from_done rfl ?_
  replace HF := HF.sub (σ' := [(8, .pointer (some ⟨g8, 0, none⟩)), (7, .func (.func 59) #[] #[.pointer (some ⟨g3, 0, none⟩), .pointer (some ⟨g6, 0, none⟩)]), (6, .pointer (some ⟨g6, 0, none⟩)), (5, .bool false), (4, .pointer (some ⟨g4, 0, none⟩)), (3, .pointer (some ⟨g3, 0, none⟩)), (0, .int .u8 (k : Int))]) (by kernel_rfl)
  refine wp_seq ?_
  refine wp_seq ?_
  refine from_start ?_
  refine from_pures HF 2 0 (j := 2) [(18, .bool (((k : Int) : Int) == (2 : Int))), (17, .int .u8 (k : Int))] (by kernel_rfl) rfl ?_; clear HF; intro a HF
  refine from_done rfl ?_
  replace HF := HF.sub (σ' := [(18, .bool (((k : Int) : Int) == (2 : Int))), (8, .pointer (some ⟨g8, 0, none⟩)), (7, .func (.func 59) #[] #[.pointer (some ⟨g3, 0, none⟩), .pointer (some ⟨g6, 0, none⟩)]), (6, .pointer (some ⟨g6, 0, none⟩)), (5, .bool false), (4, .pointer (some ⟨g4, 0, none⟩)), (3, .pointer (some ⟨g3, 0, none⟩)), (0, .int .u8 (k : Int))]) (by kernel_rfl)
  rcases Bool.eq_false_or_eq_true (((k : Int) : Int) == (2 : Int)) with hb18 | hb18
  · have HF := HF.as (t := 18) (u := .bool true) rfl (by rw [hb18])
    have hd18 := eq_of_beq hb18
    obtain rfl : k = 2 := by omega
    refine cond_true HF rfl ?_
    refine wp_seq ?_
    refine from_start ?_
    refine from_pures HF 1 0 (j := 1) [(19, .func (.func 59) #[] #[.pointer (some ⟨g3, 0, none⟩), .pointer (some ⟨g6, 0, none⟩)])] (by kernel_rfl) rfl ?_; clear HF; intro a HF
    refine from_op HF (i := 1) rfl rfl ?_
    replace HM := HM.picks (fs' := [.blk g3 #[.slice A n c] 22, .blk g6 #[.bool true] 4, .blk g8 #[.int .u8 ((2 : Nat) : Int), .int .u8 0, .int .i64 0, .int .i64 0, .slice none 0 0] 37, .blk g4 #[.int .u8 0, .int .u8 0, .int .i64 0, .int .i64 0, .slice none 0 0] 37]) [3, 1, 0, 2] (by decide) rfl
    have hl1 := tk_rest_lt hl
    refine e_callv HF (f := 59) (vs := [.int .i64 281474976710657]) (fst := []) (caps := [.pointer (some ⟨g3, 0, none⟩), .pointer (some ⟨g6, 0, none⟩)]) rfl rfl rfl (by kernel_rfl) rfl (by decide) (ptake_any w _ g3 g6 A n c l true 281474976710657 [.blk g8 #[.int .u8 ((2 : Nat) : Int), .int .u8 0, .int .i64 0, .int .i64 0, .slice none 0 0] 37, .blk g4 #[.int .u8 0, .int .u8 0, .int .i64 0, .int .i64 0, .slice none 0 0] 37] hl hln (by omega) hr hc (by omega) HM) ?_
    rintro _ w20 ⟨rfl, Aq1, cq1, hr1, hc1, hm⟩
    refine ⟨_, rfl, ?_⟩
    replace HM := hm
    clear HF; intro a HF
    have ht0 := tkVal_le 281474976710657 l
    have hs0 := tkRest_le l
    refine from_pures HF 1 2 (j := 3) [(21, .pointer (some ⟨g8, 3, none⟩))] (by kernel_rfl) rfl ?_; clear HF; intro a HF
    refine from_op HF (i := 3) rfl rfl ?_
    refine e_store HF HM (i := 2) (cs := #[.int .u8 ((2 : Nat) : Int), .int .u8 0, .int .i64 0, .int .i64 0, .slice none 0 0]) rfl rfl rfl rfl (by kernel_rfl) rfl rfl (by simp) ?_
    clear HM; intro w5_3 HM
    refine from_done rfl ?_
    replace HF := HF.sub (σ' := [(18, .bool true), (8, .pointer (some ⟨g8, 0, none⟩)), (7, .func (.func 59) #[] #[.pointer (some ⟨g3, 0, none⟩), .pointer (some ⟨g6, 0, none⟩)]), (6, .pointer (some ⟨g6, 0, none⟩)), (5, .bool false), (4, .pointer (some ⟨g4, 0, none⟩)), (3, .pointer (some ⟨g3, 0, none⟩)), (0, .int .u8 ((2 : Nat) : Int))]) (by kernel_rfl)
    refine cut_seq (fun aS wS => Fr aS 99 [] [(5, .bool ((parseEnd l).isSome)), (18, .bool true), (8, .pointer (some ⟨g8, 0, none⟩)), (7, .func (.func 59) #[] #[.pointer (some ⟨g3, 0, none⟩), .pointer (some ⟨g6, 0, none⟩)]), (6, .pointer (some ⟨g6, 0, none⟩)), (4, .pointer (some ⟨g4, 0, none⟩)), (3, .pointer (some ⟨g3, 0, none⟩)), (0, .int .u8 ((2 : Nat) : Int))] ∧ Mem w wS [.blk g3 #[.slice Aq1 ((tkRest l).length) cq1] 22, .blk g6 #[.bool (true && tkOk 281474976710657 l)] 4, .blk g8 #[.int .u8 ((2 : Nat) : Int), .int .u8 0, .int .i64 0, .int .i64 (tkVal 281474976710657 l : Int), .slice none 0 0] 37, .blk g4 #[.int .u8 ((2 : Nat) : Int), .int .u8 0, .int .i64 0, .int .i64 (tkVal 281474976710657 l : Int), .slice none 0 0] 37]) ?_ ?_
    ·
      refine any_start (by kernel_rfl) (fun wS => Mem w wS [.blk g3 #[.slice Aq1 ((tkRest l).length) cq1] 22, .blk g6 #[.bool (true && tkOk 281474976710657 l)] 4, .blk g8 #[.int .u8 ((2 : Nat) : Int), .int .u8 0, .int .i64 0, .int .i64 (tkVal 281474976710657 l : Int), .slice none 0 0] 37]) [] ?_
      replace HM := HM.drew
      have HS := HM.picks (fs' := [.blk g3 #[.slice Aq1 ((tkRest l).length) cq1] 22, .blk g6 #[.bool (true && tkOk 281474976710657 l)] 4, .blk g8 #[.int .u8 ((2 : Nat) : Int), .int .u8 0, .int .i64 0, .int .i64 (tkVal 281474976710657 l : Int), .slice none 0 0] 37]) [0, 1, 2] (by decide) rfl
      refine any_yl HF HS (i := 0) rfl rfl (d := 22) rfl (by decide) (by kernel_rfl) (fun _ _ _ h => h) (v := .agg #[.int .u8 ((2 : Nat) : Int), .int .u8 0, .int .i64 0, .int .i64 (tkVal 281474976710657 l : Int), .slice none 0 0]) (Yl.loadS rfl rfl si_bk rfl (fun _ h => range_of_block (h.blk (i := 2) rfl))) ?_; clear HF; intro a HF
      refine any_yl HF HS (i := 1) rfl rfl (d := 23) rfl (by decide) (by kernel_rfl) (fun _ _ _ h => h) (v := .bool (true && tkOk 281474976710657 l)) (Yl.load1 rfl rfl (by kernel_rfl) (fun _ h => h.cell (i := 1) rfl rfl)) ?_; clear HF; intro a HF
      refine any_pures HF (fun _ => HS) (fun _ _ d _ _ h => by cases d <;> exact h) [2] #[true, true, true, false, false, false, false, false, false, false, false, false, false] [(24, .bool (true && tkOk 281474976710657 l))] (by kernel_rfl) ?_; clear HF; intro a HF
      rcases Bool.eq_false_or_eq_true ((true && tkOk 281474976710657 l)) with hb24 | hb24
      · have HF := HF.as (t := 24) (u := .bool true) rfl (by rw [hb24])
        refine any_yl HF HS (i := 3) rfl rfl (d := 25) rfl (by decide) (by kernel_rfl) (fun _ _ _ h => h) (v := .slice Aq1 ((tkRest l).length) cq1) (Yl.load1 rfl rfl (by kernel_rfl) (fun _ h => h.cell (i := 0) rfl rfl)) ?_; clear HF; intro a HF
        refine any_yl HF HS (i := 4) rfl rfl (d := 26) rfl (by decide) (by kernel_rfl) (fun _ _ _ h => h) (v := .int .i64 (((tkRest l).length : Nat) : Int)) (Yl.len rfl rfl (by kernel_rfl)) ?_; clear HF; intro a HF
        refine any_pures HF (fun _ => HS) (fun _ _ d _ _ h => by cases d <;> exact h) [5, 6, 7] #[true, true, true, true, true, true, true, true, false, false, false, false, false] [(29, .bool (((((tkRest l).length : Nat) : Int) : Int) == (0 : Int))), (28, .bool (((((tkRest l).length : Nat) : Int) : Int) == (0 : Int))), (27, .bool (((((tkRest l).length : Nat) : Int) : Int) == (0 : Int)))] (by kernel_rfl) ?_; clear HF; intro a HF
        rcases Bool.eq_false_or_eq_true (((((tkRest l).length : Nat) : Int) : Int) == (0 : Int)) with hb29 | hb29
        · have HF := HF.as (t := 29) (u := .bool true) rfl (by rw [hb29])
          have hd29 := eq_of_beq hb29
          refine any_yl HF HS (i := 8) rfl rfl (d := 30) rfl (by decide) (by kernel_rfl) (fun _ _ _ h => h) (v := .agg #[.int .u8 ((2 : Nat) : Int), .int .u8 0, .int .i64 0, .int .i64 (tkVal 281474976710657 l : Int), .slice none 0 0]) (Yl.loadS rfl rfl si_bk rfl (fun _ h => range_of_block (h.blk (i := 2) rfl))) ?_; clear HF; intro a HF
          refine any_all [9] (by kernel_rfl) rfl ?_
          refine all_cons ?_ all_nil
          refine any_op HF (i := 9) rfl rfl ?_
          refine e_call HF (vs := [.agg #[.int .u8 ((2 : Nat) : Int), .int .u8 0, .int .i64 0, .int .i64 (tkVal 281474976710657 l : Int), .slice none 0 0]]) rfl (by kernel_rfl) (by kernel_rfl) rfl (by decide) (fits_any ⟨2, 0, 0, (tkVal 281474976710657 l : Int), []⟩ (endOk ht0) none 0 B _ (hL.mem HM hB) (HM.le hB) Rd.nil (by show 0 ≤ _; omega)) ?_
          rintro _ w31 ⟨rfl, hbw⟩
          refine ⟨_, rfl, ?_⟩
          replace HM := HM.call hbw
          clear HF; intro a HF
          refine keepS (HM.picks [0, 1, 2] (by decide) rfl) (fun HS => ?_)
          refine any_pures HF (fun _ => HS) (fun _ _ d _ _ h => by cases d <;> exact h) [10] #[true, true, true, true, true, true, true, true, true, true, true, false, false] [(32, .bool (Bk.fits ⟨2, 0, 0, (tkVal 281474976710657 l : Int), []⟩))] (by kernel_rfl) ?_; clear HF; intro a HF
          refine any_all [11] (by kernel_rfl) rfl ?_
          refine all_cons ?_ all_nil
          refine any_op HF (i := 11) rfl rfl ?_
          refine e_storeAll HF HM (i := 3) (cs := #[.int .u8 0, .int .u8 0, .int .i64 0, .int .i64 0, .slice none 0 0]) (ds := #[.int .u8 ((2 : Nat) : Int), .int .u8 0, .int .i64 0, .int .i64 (tkVal 281474976710657 l : Int), .slice none 0 0]) rfl rfl rfl rfl si_bk rfl rfl (by simp [Value.oneCell']) rfl ?_
          clear HM; intro w6_11 HM
          refine keepS (HM.picks [0, 1, 2] (by decide) rfl) (fun HS => ?_)
          refine any_pures HF (fun _ => HS) (fun _ _ d _ _ h => by cases d <;> exact h) [12] #[true, true, true, true, true, true, true, true, true, true, true, true, true] [(5, .bool (Bk.fits ⟨2, 0, 0, (tkVal 281474976710657 l : Int), []⟩))] (by kernel_rfl) ?_; clear HF; intro a HF
          refine any_done (by kernel_rfl) ?_
          replace HF := HF.sub (σ' := [(5, .bool (Bk.fits ⟨2, 0, 0, (tkVal 281474976710657 l : Int), []⟩)), (18, .bool true), (8, .pointer (some ⟨g8, 0, none⟩)), (7, .func (.func 59) #[] #[.pointer (some ⟨g3, 0, none⟩), .pointer (some ⟨g6, 0, none⟩)]), (6, .pointer (some ⟨g6, 0, none⟩)), (4, .pointer (some ⟨g4, 0, none⟩)), (3, .pointer (some ⟨g3, 0, none⟩)), (0, .int .u8 ((2 : Nat) : Int))]) (by kernel_rfl)
          have HF := HF.as (t := 5) (u := .bool ((parseEnd l).isSome)) rfl (congrArg Value.bool (by rw [parseEnd_is, show tkOk 281474976710657 l = true by simpa using hb24, decide_eq_true (by omega), Bool.true_and, Bool.true_and]))
          exact ⟨HF.sub (by kernel_rfl), HM.picks [0, 1, 2, 3] (by decide) rfl⟩
        · have HF := HF.as (t := 29) (u := .bool false) rfl (by rw [hb29])
          have hd29 := ne_of_beq_false hb29
          refine any_pures HF (fun _ => HS) (fun _ _ d _ _ h => by cases d <;> exact h) [8, 9, 10] #[true, true, true, true, true, true, true, true, true, true, true, false, false] [(32, .bool false), (31, undef), (30, undef)] (by kernel_rfl) ?_; clear HF; intro a HF
          refine any_all [11] (by kernel_rfl) rfl ?_
          refine all_cons ?_ all_nil
          refine any_op HF (i := 11) rfl rfl ?_
          refine e_storeAll HF HM (i := 3) (cs := #[.int .u8 0, .int .u8 0, .int .i64 0, .int .i64 0, .slice none 0 0]) (ds := #[.int .u8 ((2 : Nat) : Int), .int .u8 0, .int .i64 0, .int .i64 (tkVal 281474976710657 l : Int), .slice none 0 0]) rfl rfl rfl rfl si_bk rfl rfl (by simp [Value.oneCell']) rfl ?_
          clear HM; intro w6_11 HM
          refine keepS (HM.picks [0, 1, 2] (by decide) rfl) (fun HS => ?_)
          refine any_pures HF (fun _ => HS) (fun _ _ d _ _ h => by cases d <;> exact h) [12] #[true, true, true, true, true, true, true, true, true, true, true, true, true] [(5, .bool false)] (by kernel_rfl) ?_; clear HF; intro a HF
          refine any_done (by kernel_rfl) ?_
          replace HF := HF.sub (σ' := [(5, .bool false), (18, .bool true), (8, .pointer (some ⟨g8, 0, none⟩)), (7, .func (.func 59) #[] #[.pointer (some ⟨g3, 0, none⟩), .pointer (some ⟨g6, 0, none⟩)]), (6, .pointer (some ⟨g6, 0, none⟩)), (4, .pointer (some ⟨g4, 0, none⟩)), (3, .pointer (some ⟨g3, 0, none⟩)), (0, .int .u8 ((2 : Nat) : Int))]) (by kernel_rfl)
          have HF := HF.as (t := 5) (u := .bool ((parseEnd l).isSome)) rfl (congrArg Value.bool (by rw [parseEnd_is, decide_eq_false (by omega), Bool.false_and, Bool.and_false]))
          exact ⟨HF.sub (by kernel_rfl), HM.picks [0, 1, 2, 3] (by decide) rfl⟩
      · have HF := HF.as (t := 24) (u := .bool false) rfl (by rw [hb24])
        refine any_pures HF (fun _ => HS) (fun _ _ d _ _ h => by cases d <;> exact h) [3, 4, 5, 6, 7, 8, 9, 10] #[true, true, true, true, true, true, true, true, true, true, true, false, false] [(32, .bool false), (31, undef), (30, undef), (29, .bool false), (28, .bool false), (27, undef), (26, undef), (25, undef)] (by kernel_rfl) ?_; clear HF; intro a HF
        refine any_all [11] (by kernel_rfl) rfl ?_
        refine all_cons ?_ all_nil
        refine any_op HF (i := 11) rfl rfl ?_
        refine e_storeAll HF HM (i := 3) (cs := #[.int .u8 0, .int .u8 0, .int .i64 0, .int .i64 0, .slice none 0 0]) (ds := #[.int .u8 ((2 : Nat) : Int), .int .u8 0, .int .i64 0, .int .i64 (tkVal 281474976710657 l : Int), .slice none 0 0]) rfl rfl rfl rfl si_bk rfl rfl (by simp [Value.oneCell']) rfl ?_
        clear HM; intro w6_11 HM
        refine keepS (HM.picks [0, 1, 2] (by decide) rfl) (fun HS => ?_)
        refine any_pures HF (fun _ => HS) (fun _ _ d _ _ h => by cases d <;> exact h) [12] #[true, true, true, true, true, true, true, true, true, true, true, true, true] [(5, .bool false)] (by kernel_rfl) ?_; clear HF; intro a HF
        refine any_done (by kernel_rfl) ?_
        replace HF := HF.sub (σ' := [(5, .bool false), (18, .bool true), (8, .pointer (some ⟨g8, 0, none⟩)), (7, .func (.func 59) #[] #[.pointer (some ⟨g3, 0, none⟩), .pointer (some ⟨g6, 0, none⟩)]), (6, .pointer (some ⟨g6, 0, none⟩)), (4, .pointer (some ⟨g4, 0, none⟩)), (3, .pointer (some ⟨g3, 0, none⟩)), (0, .int .u8 ((2 : Nat) : Int))]) (by kernel_rfl)
        have HF := HF.as (t := 5) (u := .bool ((parseEnd l).isSome)) rfl (congrArg Value.bool (by rw [parseEnd_is, show tkOk 281474976710657 l = false by simpa using hb24]; rfl))
        exact ⟨HF.sub (by kernel_rfl), HM.picks [0, 1, 2, 3] (by decide) rfl⟩
    clear HF HM; rintro a w6 ⟨HF, HM⟩
    refine wp_ret ?_
    rcases Bool.eq_false_or_eq_true ((parseEnd l).isSome) with hb5 | hb5
    · have HF := HF.as (t := 5) (u := .bool true) rfl (by rw [hb5])
      have hfin := hb5
      exact ret2 rfl HF (.cellS (i := 3) HF HM rfl rfl si_bk rfl) (.tmp HF rfl) (parseIs_some (b := ⟨2, 0, 0, (tkVal 281474976710657 l : Int), []⟩) (A := none) (c := 0) (by rw [parseR_end]; exact parseEnd_val hfin) (World.ownsRow_nil _ _ _ _) (Nat.le_refl _) HM.below)
    · have HF := HF.as (t := 5) (u := .bool false) rfl (by rw [hb5])
      have hfin := hb5
      exact ret2 rfl HF (.cellS (i := 3) HF HM rfl rfl si_bk rfl) (.tmp HF rfl) (parseIs_none (by rw [parseR_end]; exact Option.not_isSome_iff_eq_none.1 (by rw [hfin]; decide)) rfl (by simp [Value.oneCell']) HM.below)
  · have HF := HF.as (t := 18) (u := .bool false) rfl (by rw [hb18])
    have hd18 := ne_of_beq_false hb18
    obtain rfl : k = 1 := by omega
    refine cond_false HF rfl ?_
    refine wp_skip ?_
    refine wp_seq ?_
    refine from_start ?_
    refine from_pures HF 1 0 (j := 1) [(33, .func (.func 59) #[] #[.pointer (some ⟨g3, 0, none⟩), .pointer (some ⟨g6, 0, none⟩)])] (by kernel_rfl) rfl ?_; clear HF; intro a HF
    refine from_op HF (i := 1) rfl rfl ?_
    replace HM := HM.picks (fs' := [.blk g3 #[.slice A n c] 22, .blk g6 #[.bool true] 4, .blk g8 #[.int .u8 ((1 : Nat) : Int), .int .u8 0, .int .i64 0, .int .i64 0, .slice none 0 0] 37, .blk g4 #[.int .u8 0, .int .u8 0, .int .i64 0, .int .i64 0, .slice none 0 0] 37]) [3, 1, 0, 2] (by decide) rfl
    have hl1 := tk_rest_lt hl
    refine e_callv HF (f := 59) (vs := [.int .i64 63]) (fst := []) (caps := [.pointer (some ⟨g3, 0, none⟩), .pointer (some ⟨g6, 0, none⟩)]) rfl rfl rfl (by kernel_rfl) rfl (by decide) (ptake_any w _ g3 g6 A n c l true 63 [.blk g8 #[.int .u8 ((1 : Nat) : Int), .int .u8 0, .int .i64 0, .int .i64 0, .slice none 0 0] 37, .blk g4 #[.int .u8 0, .int .u8 0, .int .i64 0, .int .i64 0, .slice none 0 0] 37] hl hln (by omega) hr hc (by omega) HM) ?_
    rintro _ w34 ⟨rfl, Aq1, cq1, hr1, hc1, hm⟩
    refine ⟨_, rfl, ?_⟩
    replace HM := hm
    clear HF; intro a HF
    have ht0 := tkVal_le 63 l
    have hs0 := tkRest_le l
    refine from_pures HF 1 2 (j := 3) [(35, .int .u8 (IntKind.u8.wrap (tkVal 63 l : Int)))] (by kernel_rfl) rfl ?_; clear HF; intro a HF
    replace HF := HF.as (t := 35) (u := .int .u8 (tkVal 63 l : Int)) rfl (u8_nat rfl (by omega))
    refine from_pures HF 1 3 (j := 4) [(36, .func (.func 59) #[] #[.pointer (some ⟨g3, 0, none⟩), .pointer (some ⟨g6, 0, none⟩)])] (by kernel_rfl) rfl ?_; clear HF; intro a HF
    refine from_op HF (i := 4) rfl rfl ?_
    replace HM := HM.picks (fs' := [.blk g3 #[.slice Aq1 ((tkRest l).length) cq1] 22, .blk g6 #[.bool (true && tkOk 63 l)] 4, .blk g8 #[.int .u8 ((1 : Nat) : Int), .int .u8 0, .int .i64 0, .int .i64 0, .slice none 0 0] 37, .blk g4 #[.int .u8 0, .int .u8 0, .int .i64 0, .int .i64 0, .slice none 0 0] 37]) [0, 1, 2, 3] (by decide) rfl
    have hl2 := tk_rest_lt hl1
    refine e_callv HF (f := 59) (vs := [.int .i64 281474976710656]) (fst := []) (caps := [.pointer (some ⟨g3, 0, none⟩), .pointer (some ⟨g6, 0, none⟩)]) rfl rfl rfl (by kernel_rfl) rfl (by decide) (ptake_any w _ g3 g6 Aq1 ((tkRest l).length) cq1 (tkRest l) (true && tkOk 63 l) 281474976710656 [.blk g8 #[.int .u8 ((1 : Nat) : Int), .int .u8 0, .int .i64 0, .int .i64 0, .slice none 0 0] 37, .blk g4 #[.int .u8 0, .int .u8 0, .int .i64 0, .int .i64 0, .slice none 0 0] 37] hl1 rfl (by omega) hr1 hc1 (by omega) HM) ?_
    rintro _ w37 ⟨rfl, Aq2, cq2, hr2, hc2, hm⟩
    refine ⟨_, rfl, ?_⟩
    replace HM := hm
    clear HF; intro a HF
    have ht1 := tkVal_le 281474976710656 (tkRest l)
    have hs1 := tkRest_le (tkRest l)
    refine from_pures HF 1 5 (j := 6) [(38, .pointer (some ⟨g8, 1, none⟩))] (by kernel_rfl) rfl ?_; clear HF; intro a HF
    refine from_op HF (i := 6) rfl rfl ?_
    refine e_store HF HM (i := 2) (cs := #[.int .u8 ((1 : Nat) : Int), .int .u8 0, .int .i64 0, .int .i64 0, .slice none 0 0]) rfl rfl rfl rfl (by kernel_rfl) rfl rfl (by simp) ?_
    clear HM; intro w7_6 HM
    refine from_pures HF 1 7 (j := 8) [(39, .pointer (some ⟨g8, 2, none⟩))] (by kernel_rfl) rfl ?_; clear HF; intro a HF
    refine from_op HF (i := 8) rfl rfl ?_
    refine e_store HF HM (i := 2) (cs := #[.int .u8 ((1 : Nat) : Int), .int .u8 (tkVal 63 l : Int), .int .i64 0, .int .i64 0, .slice none 0 0]) rfl rfl rfl rfl (by kernel_rfl) rfl rfl (by simp) ?_
    clear HM; intro w7_8 HM
    refine from_done rfl ?_
    replace HF := HF.sub (σ' := [(18, .bool false), (8, .pointer (some ⟨g8, 0, none⟩)), (7, .func (.func 59) #[] #[.pointer (some ⟨g3, 0, none⟩), .pointer (some ⟨g6, 0, none⟩)]), (6, .pointer (some ⟨g6, 0, none⟩)), (5, .bool false), (4, .pointer (some ⟨g4, 0, none⟩)), (3, .pointer (some ⟨g3, 0, none⟩)), (0, .int .u8 ((1 : Nat) : Int))]) (by kernel_rfl)
    refine wp_seq ?_
    refine from_start ?_
    refine from_pures HF 1 0 (j := 1) [(40, .func (.func 59) #[] #[.pointer (some ⟨g3, 0, none⟩), .pointer (some ⟨g6, 0, none⟩)])] (by kernel_rfl) rfl ?_; clear HF; intro a HF
    refine from_op HF (i := 1) rfl rfl ?_
    replace HM := HM.picks (fs' := [.blk g3 #[.slice Aq2 ((tkRest (tkRest l)).length) cq2] 22, .blk g6 #[.bool ((true && tkOk 63 l) && tkOk 281474976710656 (tkRest l))] 4, .blk g8 #[.int .u8 ((1 : Nat) : Int), .int .u8 (tkVal 63 l : Int), .int .i64 (tkVal 281474976710656 (tkRest l) : Int), .int .i64 0, .slice none 0 0] 37, .blk g4 #[.int .u8 0, .int .u8 0, .int .i64 0, .int .i64 0, .slice none 0 0] 37]) [0, 1, 2, 3] (by decide) rfl
    have hl3 := tk_rest_lt hl2
    refine e_callv HF (f := 59) (vs := [.int .i64 4096]) (fst := []) (caps := [.pointer (some ⟨g3, 0, none⟩), .pointer (some ⟨g6, 0, none⟩)]) rfl rfl rfl (by kernel_rfl) rfl (by decide) (ptake_any w _ g3 g6 Aq2 ((tkRest (tkRest l)).length) cq2 (tkRest (tkRest l)) ((true && tkOk 63 l) && tkOk 281474976710656 (tkRest l)) 4096 [.blk g8 #[.int .u8 ((1 : Nat) : Int), .int .u8 (tkVal 63 l : Int), .int .i64 (tkVal 281474976710656 (tkRest l) : Int), .int .i64 0, .slice none 0 0] 37, .blk g4 #[.int .u8 0, .int .u8 0, .int .i64 0, .int .i64 0, .slice none 0 0] 37] hl2 rfl (by omega) hr2 hc2 (by omega) HM) ?_
    rintro _ w41 ⟨rfl, Aq3, cq3, hr3, hc3, hm⟩
    refine ⟨_, rfl, ?_⟩
    replace HM := hm
    clear HF; intro a HF
    have ht2 := tkVal_le 4096 (tkRest (tkRest l))
    have hs2 := tkRest_le (tkRest (tkRest l))
    refine from_pures HF 1 2 (j := 3) [(9, .int .i64 (tkVal 4096 (tkRest (tkRest l)) : Int))] (by kernel_rfl) rfl ?_; clear HF; intro a HF
    refine from_done rfl ?_
    replace HF := HF.sub (σ' := [(9, .int .i64 (tkVal 4096 (tkRest (tkRest l)) : Int)), (18, .bool false), (8, .pointer (some ⟨g8, 0, none⟩)), (7, .func (.func 59) #[] #[.pointer (some ⟨g3, 0, none⟩), .pointer (some ⟨g6, 0, none⟩)]), (6, .pointer (some ⟨g6, 0, none⟩)), (5, .bool false), (4, .pointer (some ⟨g4, 0, none⟩)), (3, .pointer (some ⟨g3, 0, none⟩)), (0, .int .u8 ((1 : Nat) : Int))]) (by kernel_rfl)
    refine wp_seq ?_
    refine wp_seq ?_
    refine from_start ?_
    refine from_yl (S := fun wS => Mem w wS _) HF HM (i := 0) rfl rfl (d := 42) rfl (by decide) (v := .bool (((true && tkOk 63 l) && tkOk 281474976710656 (tkRest l)) && tkOk 4096 (tkRest (tkRest l)))) (Yl.load1 rfl rfl (by kernel_rfl) (fun _ h => h.cell (i := 1) rfl rfl)) ?_; clear HF; intro a HF
    refine from_pures HF 1 1 (j := 2) [(43, .bool (((true && tkOk 63 l) && tkOk 281474976710656 (tkRest l)) && tkOk 4096 (tkRest (tkRest l))))] (by kernel_rfl) rfl ?_; clear HF; intro a HF
    rcases Bool.eq_false_or_eq_true ((((true && tkOk 63 l) && tkOk 281474976710656 (tkRest l)) && tkOk 4096 (tkRest (tkRest l)))) with hb43 | hb43
    · have HF := HF.as (t := 43) (u := .bool true) rfl (by rw [hb43])
      have h3 : parse3 l = true := by rw [← tk3]; exact hb43
      refine from_pures HF 3 2 (j := 5) [(46, .bool (decide (((tkVal 4096 (tkRest (tkRest l)) : Int) : Int) > (0 : Int)))), (45, .bool (decide (((tkVal 4096 (tkRest (tkRest l)) : Int) : Int) > (0 : Int)))), (44, .int .i64 (tkVal 4096 (tkRest (tkRest l)) : Int))] (by kernel_rfl) rfl ?_; clear HF; intro a HF
      refine from_done rfl ?_
      replace HF := HF.sub (σ' := [(46, .bool (decide (((tkVal 4096 (tkRest (tkRest l)) : Int) : Int) > (0 : Int)))), (9, .int .i64 (tkVal 4096 (tkRest (tkRest l)) : Int)), (18, .bool false), (8, .pointer (some ⟨g8, 0, none⟩)), (7, .func (.func 59) #[] #[.pointer (some ⟨g3, 0, none⟩), .pointer (some ⟨g6, 0, none⟩)]), (6, .pointer (some ⟨g6, 0, none⟩)), (5, .bool false), (4, .pointer (some ⟨g4, 0, none⟩)), (3, .pointer (some ⟨g3, 0, none⟩)), (0, .int .u8 ((1 : Nat) : Int))]) (by kernel_rfl)
      rcases Bool.eq_false_or_eq_true (decide (((tkVal 4096 (tkRest (tkRest l)) : Int) : Int) > (0 : Int))) with hb46 | hb46
      · have HF := HF.as (t := 46) (u := .bool true) rfl (by rw [hb46])
        have hd46 := of_decide_eq_true hb46
        refine cond_true HF rfl ?_
        refine wp_seq ?_
        refine from_start ?_
        refine from_pures HF 1 0 (j := 1) [(47, .func (.func 59) #[] #[.pointer (some ⟨g3, 0, none⟩), .pointer (some ⟨g6, 0, none⟩)])] (by kernel_rfl) rfl ?_; clear HF; intro a HF
        refine from_op HF (i := 1) rfl rfl ?_
        replace HM := HM.picks (fs' := [.blk g3 #[.slice Aq3 ((tkRest (tkRest (tkRest l))).length) cq3] 22, .blk g6 #[.bool (((true && tkOk 63 l) && tkOk 281474976710656 (tkRest l)) && tkOk 4096 (tkRest (tkRest l)))] 4, .blk g8 #[.int .u8 ((1 : Nat) : Int), .int .u8 (tkVal 63 l : Int), .int .i64 (tkVal 281474976710656 (tkRest l) : Int), .int .i64 0, .slice none 0 0] 37, .blk g4 #[.int .u8 0, .int .u8 0, .int .i64 0, .int .i64 0, .slice none 0 0] 37]) [0, 1, 2, 3] (by decide) rfl
        have hl4 := tk_rest_lt hl3
        refine e_callv HF (f := 59) (vs := [.int .i64 281474976710656]) (fst := []) (caps := [.pointer (some ⟨g3, 0, none⟩), .pointer (some ⟨g6, 0, none⟩)]) rfl rfl rfl (by kernel_rfl) rfl (by decide) (ptake_any w _ g3 g6 Aq3 ((tkRest (tkRest (tkRest l))).length) cq3 (tkRest (tkRest (tkRest l))) (((true && tkOk 63 l) && tkOk 281474976710656 (tkRest l)) && tkOk 4096 (tkRest (tkRest l))) 281474976710656 [.blk g8 #[.int .u8 ((1 : Nat) : Int), .int .u8 (tkVal 63 l : Int), .int .i64 (tkVal 281474976710656 (tkRest l) : Int), .int .i64 0, .slice none 0 0] 37, .blk g4 #[.int .u8 0, .int .u8 0, .int .i64 0, .int .i64 0, .slice none 0 0] 37] hl3 rfl (by omega) hr3 hc3 (by omega) HM) ?_
        rintro _ w48 ⟨rfl, Aq4, cq4, hr4, hc4, hm⟩
        refine ⟨_, rfl, ?_⟩
        replace HM := hm
        clear HF; intro a HF
        have ht3 := tkVal_le 281474976710656 (tkRest (tkRest (tkRest l)))
        have hs3 := tkRest_le (tkRest (tkRest (tkRest l)))
        refine from_pures HF 1 2 (j := 3) [(49, .func (.func 59) #[] #[.pointer (some ⟨g3, 0, none⟩), .pointer (some ⟨g6, 0, none⟩)])] (by kernel_rfl) rfl ?_; clear HF; intro a HF
        refine from_op HF (i := 3) rfl rfl ?_
        replace HM := HM.picks (fs' := [.blk g3 #[.slice Aq4 ((tkRest (tkRest (tkRest (tkRest l)))).length) cq4] 22, .blk g6 #[.bool ((((true && tkOk 63 l) && tkOk 281474976710656 (tkRest l)) && tkOk 4096 (tkRest (tkRest l))) && tkOk 281474976710656 (tkRest (tkRest (tkRest l))))] 4, .blk g8 #[.int .u8 ((1 : Nat) : Int), .int .u8 (tkVal 63 l : Int), .int .i64 (tkVal 281474976710656 (tkRest l) : Int), .int .i64 0, .slice none 0 0] 37, .blk g4 #[.int .u8 0, .int .u8 0, .int .i64 0, .int .i64 0, .slice none 0 0] 37]) [0, 1, 2, 3] (by decide) rfl
        have hl5 := tk_rest_lt hl4
        refine e_callv HF (f := 59) (vs := [.int .i64 281474976710656]) (fst := []) (caps := [.pointer (some ⟨g3, 0, none⟩), .pointer (some ⟨g6, 0, none⟩)]) rfl rfl rfl (by kernel_rfl) rfl (by decide) (ptake_any w _ g3 g6 Aq4 ((tkRest (tkRest (tkRest (tkRest l)))).length) cq4 (tkRest (tkRest (tkRest (tkRest l)))) ((((true && tkOk 63 l) && tkOk 281474976710656 (tkRest l)) && tkOk 4096 (tkRest (tkRest l))) && tkOk 281474976710656 (tkRest (tkRest (tkRest l)))) 281474976710656 [.blk g8 #[.int .u8 ((1 : Nat) : Int), .int .u8 (tkVal 63 l : Int), .int .i64 (tkVal 281474976710656 (tkRest l) : Int), .int .i64 0, .slice none 0 0] 37, .blk g4 #[.int .u8 0, .int .u8 0, .int .i64 0, .int .i64 0, .slice none 0 0] 37] hl4 rfl (by omega) hr4 hc4 (by omega) HM) ?_
        rintro _ w50 ⟨rfl, Aq5, cq5, hr5, hc5, hm⟩
        refine ⟨_, rfl, ?_⟩
        replace HM := hm
        clear HF; intro a HF
        have ht4 := tkVal_le 281474976710656 (tkRest (tkRest (tkRest (tkRest l))))
        have hs4 := tkRest_le (tkRest (tkRest (tkRest (tkRest l))))
        refine from_yl (S := fun wS => Mem w wS _) HF HM (i := 4) rfl rfl (d := 51) rfl (by decide) (v := .agg #[.int .i64 (tkVal 281474976710656 (tkRest (tkRest (tkRest l))) : Int), .int .i64 (tkVal 281474976710656 (tkRest (tkRest (tkRest (tkRest l)))) : Int)]) (Yl.build (vs := [(0, .int .i64 (tkVal 281474976710656 (tkRest (tkRest (tkRest l))) : Int)), (1, .int .i64 (tkVal 281474976710656 (tkRest (tkRest (tkRest (tkRest l)))) : Int))]) rfl (by kernel_rfl) (by kernel_rfl)) ?_; clear HF; intro a HF
        refine from_op HF (i := 5) rfl rfl ?_
        refine e_alloc HF HM (cs := #[.int .i64 0, .int .i64 0]) rfl (by kernel_rfl) rfl (by decide) ?_
        clear HF HM; intro a w10 g10 HF HM
        refine from_op HF (i := 6) rfl rfl ?_
        refine e_storeAll HF HM (i := 0) (cs := #[.int .i64 0, .int .i64 0]) (ds := #[.int .i64 (tkVal 281474976710656 (tkRest (tkRest (tkRest l))) : Int), .int .i64 (tkVal 281474976710656 (tkRest (tkRest (tkRest (tkRest l)))) : Int)]) rfl rfl rfl rfl ⟨(by kernel_rfl), (by kernel_rfl)⟩ rfl rfl (by simp [Value.oneCell']) rfl ?_
        clear HM; intro w10_6 HM
        refine from_done rfl ?_
        replace HF := HF.sub (σ' := [(10, .pointer (some ⟨g10, 0, none⟩)), (46, .bool true), (9, .int .i64 (tkVal 4096 (tkRest (tkRest l)) : Int)), (18, .bool false), (8, .pointer (some ⟨g8, 0, none⟩)), (7, .func (.func 59) #[] #[.pointer (some ⟨g3, 0, none⟩), .pointer (some ⟨g6, 0, none⟩)]), (6, .pointer (some ⟨g6, 0, none⟩)), (5, .bool false), (4, .pointer (some ⟨g4, 0, none⟩)), (3, .pointer (some ⟨g3, 0, none⟩)), (0, .int .u8 ((1 : Nat) : Int))]) (by kernel_rfl)
        obtain ⟨es, L, er, hq⟩ : ∃ es L er, readR ⟨(tkVal 281474976710656 (tkRest (tkRest (tkRest l))) : Int), (tkVal 281474976710656 (tkRest (tkRest (tkRest (tkRest l)))) : Int)⟩ (tkVal 63 l) (tkVal 4096 (tkRest (tkRest l)) : Int) (tkRest (tkRest (tkRest (tkRest (tkRest l))))) = (es, L, er) := ⟨_, _, _, rfl⟩
        refine wp_seq ?_
        refine from_start ?_
        refine from_yl (S := fun wS => Mem w wS _) HF HM (i := 0) rfl rfl (d := 53) rfl (by decide) (v := .agg #[.int .i64 (tkVal 281474976710656 (tkRest (tkRest (tkRest l))) : Int), .int .i64 (tkVal 281474976710656 (tkRest (tkRest (tkRest (tkRest l)))) : Int)]) (Yl.loadS rfl rfl ⟨(by kernel_rfl), (by kernel_rfl)⟩ rfl (fun _ h => range_of_block (h.blk (i := 0) rfl))) ?_; clear HF; intro a HF
        refine from_pures HF 1 1 (j := 2) [(54, .pointer (some ⟨g8, 1, none⟩))] (by kernel_rfl) rfl ?_; clear HF; intro a HF
        refine from_yl (S := fun wS => Mem w wS _) HF HM (i := 2) rfl rfl (d := 55) rfl (by decide) (v := .int .u8 (tkVal 63 l : Int)) (Yl.load1 rfl rfl (by kernel_rfl) (fun _ h => h.cell (i := 3) rfl rfl)) ?_; clear HF; intro a HF
        refine from_pures HF 1 3 (j := 4) [(56, .int .i64 (tkVal 4096 (tkRest (tkRest l)) : Int))] (by kernel_rfl) rfl ?_; clear HF; intro a HF
        refine from_yl (S := fun wS => Mem w wS _) HF HM (i := 4) rfl rfl (d := 57) rfl (by decide) (v := .slice Aq5 ((tkRest (tkRest (tkRest (tkRest (tkRest l))))).length) cq5) (Yl.load1 rfl rfl (by kernel_rfl) (fun _ h => h.cell (i := 1) rfl rfl)) ?_; clear HF; intro a HF
        refine from_op HF (i := 5) rfl rfl ?_
        refine e_call HF (vs := [.agg #[.int .i64 (tkVal 281474976710656 (tkRest (tkRest (tkRest l))) : Int), .int .i64 (tkVal 281474976710656 (tkRest (tkRest (tkRest (tkRest l)))) : Int)], .int .u8 (tkVal 63 l : Int), .int .i64 (tkVal 4096 (tkRest (tkRest l)) : Int), .slice Aq5 ((tkRest (tkRest (tkRest (tkRest (tkRest l))))).length) cq5]) rfl (by kernel_rfl) (by kernel_rfl) rfl (by decide) (read_is ⟨(tkVal 281474976710656 (tkRest (tkRest (tkRest l))) : Int), (tkVal 281474976710656 (tkRest (tkRest (tkRest (tkRest l)))) : Int)⟩ (tkVal 63 l) (by omega) Aq5 ((tkRest (tkRest (tkRest (tkRest (tkRest l))))).length) cq5 (tkVal 4096 (tkRest (tkRest l)) : Int) (by unfold I64; omega) (tkRest (tkRest (tkRest (tkRest (tkRest l))))) B _ (hL.mem HM hB).laid (HM.le hB) (HM.old hr5) hc5 hl5 (by omega) (.inl (by omega)) hq) ?_
        rintro _ w58 ⟨⟨A58, c58, rfl, ho, hc58⟩, hbw⟩
        refine ⟨_, rfl, ?_⟩
        replace HM := HM.callRow hbw ho
        clear HF; intro a HF
        refine from_pures HF 7 6 (j := 13) [(13, .int .i64 (er : Int)), (12, .int .i64 (L : Int)), (11, .slice A58 es.length c58), (61, .int .i64 (er : Int)), (60, .int .i64 (L : Int)), (59, .slice A58 es.length c58), (52, .tuple #[.slice A58 es.length c58, .int .i64 (L : Int), .int .i64 (er : Int)])] (by kernel_rfl) rfl ?_; clear HF; intro a HF
        refine from_done rfl ?_
        replace HF := HF.sub (σ' := [(13, .int .i64 (er : Int)), (12, .int .i64 (L : Int)), (11, .slice A58 es.length c58), (10, .pointer (some ⟨g10, 0, none⟩)), (46, .bool true), (9, .int .i64 (tkVal 4096 (tkRest (tkRest l)) : Int)), (18, .bool false), (8, .pointer (some ⟨g8, 0, none⟩)), (7, .func (.func 59) #[] #[.pointer (some ⟨g3, 0, none⟩), .pointer (some ⟨g6, 0, none⟩)]), (6, .pointer (some ⟨g6, 0, none⟩)), (5, .bool false), (4, .pointer (some ⟨g4, 0, none⟩)), (3, .pointer (some ⟨g3, 0, none⟩)), (0, .int .u8 ((1 : Nat) : Int))]) (by kernel_rfl)
        refine wp_seq ?_
        refine cut_seq (fun aS wS => Fr aS 99 [] [(81, .bool (!(decide (er = 0 ∧ (es.getD 0 Ev.zero).seq = (tkVal 281474976710656 (tkRest (tkRest (tkRest l))) : Int) ∧ (es.getD 0 Ev.zero).time = (tkVal 281474976710656 (tkRest (tkRest (tkRest (tkRest l)))) : Int))))), (12, .int .i64 (L : Int)), (11, .slice A58 es.length c58), (10, .pointer (some ⟨g10, 0, none⟩)), (46, .bool true), (9, .int .i64 (tkVal 4096 (tkRest (tkRest l)) : Int)), (18, .bool false), (8, .pointer (some ⟨g8, 0, none⟩)), (7, .func (.func 59) #[] #[.pointer (some ⟨g3, 0, none⟩), .pointer (some ⟨g6, 0, none⟩)]), (6, .pointer (some ⟨g6, 0, none⟩)), (5, .bool false), (4, .pointer (some ⟨g4, 0, none⟩)), (3, .pointer (some ⟨g3, 0, none⟩)), (0, .int .u8 ((1 : Nat) : Int))] ∧ Mem w wS [.row (.slice A58 es.length c58) es.length (es.flatMap evL) 55 11, .blk g10 #[.int .i64 (tkVal 281474976710656 (tkRest (tkRest (tkRest l))) : Int), .int .i64 (tkVal 281474976710656 (tkRest (tkRest (tkRest (tkRest l)))) : Int)] 27, .blk g3 #[.slice Aq5 ((tkRest (tkRest (tkRest (tkRest (tkRest l))))).length) cq5] 22, .blk g6 #[.bool (((((true && tkOk 63 l) && tkOk 281474976710656 (tkRest l)) && tkOk 4096 (tkRest (tkRest l))) && tkOk 281474976710656 (tkRest (tkRest (tkRest l)))) && tkOk 281474976710656 (tkRest (tkRest (tkRest (tkRest l)))))] 4, .blk g8 #[.int .u8 ((1 : Nat) : Int), .int .u8 (tkVal 63 l : Int), .int .i64 (tkVal 281474976710656 (tkRest l) : Int), .int .i64 0, .slice none 0 0] 37, .blk g4 #[.int .u8 0, .int .u8 0, .int .i64 0, .int .i64 0, .slice none 0 0] 37]) ?_ ?_
        ·
          refine any_start (by kernel_rfl) (fun wS => Mem w wS [.row (.slice A58 es.length c58) es.length (es.flatMap evL) 55 11, .blk g10 #[.int .i64 (tkVal 281474976710656 (tkRest (tkRest (tkRest l))) : Int), .int .i64 (tkVal 281474976710656 (tkRest (tkRest (tkRest (tkRest l)))) : Int)] 27, .blk g3 #[.slice Aq5 ((tkRest (tkRest (tkRest (tkRest (tkRest l))))).length) cq5] 22, .blk g6 #[.bool (((((true && tkOk 63 l) && tkOk 281474976710656 (tkRest l)) && tkOk 4096 (tkRest (tkRest l))) && tkOk 281474976710656 (tkRest (tkRest (tkRest l)))) && tkOk 281474976710656 (tkRest (tkRest (tkRest (tkRest l)))))] 4, .blk g8 #[.int .u8 ((1 : Nat) : Int), .int .u8 (tkVal 63 l : Int), .int .i64 (tkVal 281474976710656 (tkRest l) : Int), .int .i64 0, .slice none 0 0] 37, .blk g4 #[.int .u8 0, .int .u8 0, .int .i64 0, .int .i64 0, .slice none 0 0] 37]) [] ?_
          replace HM := HM.drew
          have HS := HM.picks (fs' := [.row (.slice A58 es.length c58) es.length (es.flatMap evL) 55 11, .blk g10 #[.int .i64 (tkVal 281474976710656 (tkRest (tkRest (tkRest l))) : Int), .int .i64 (tkVal 281474976710656 (tkRest (tkRest (tkRest (tkRest l)))) : Int)] 27, .blk g3 #[.slice Aq5 ((tkRest (tkRest (tkRest (tkRest (tkRest l))))).length) cq5] 22, .blk g6 #[.bool (((((true && tkOk 63 l) && tkOk 281474976710656 (tkRest l)) && tkOk 4096 (tkRest (tkRest l))) && tkOk 281474976710656 (tkRest (tkRest (tkRest l)))) && tkOk 281474976710656 (tkRest (tkRest (tkRest (tkRest l)))))] 4, .blk g8 #[.int .u8 ((1 : Nat) : Int), .int .u8 (tkVal 63 l : Int), .int .i64 (tkVal 281474976710656 (tkRest l) : Int), .int .i64 0, .slice none 0 0] 37, .blk g4 #[.int .u8 0, .int .u8 0, .int .i64 0, .int .i64 0, .slice none 0 0] 37]) [0, 1, 2, 3, 4, 5] (by decide) rfl
          refine any_pures HF (fun _ => HS) (fun _ _ d _ _ h => by cases d <;> exact h) [0, 1, 2] #[true, true, true, false, false, false, false, false, false, false, false, false, false, false, false, false, false, false, false, false] [(64, .bool (((er : Int) : Int) != (0 : Int))), (63, .bool (((er : Int) : Int) != (0 : Int))), (62, .int .i64 (er : Int))] (by kernel_rfl) ?_; clear HF; intro a HF
          rcases Bool.eq_false_or_eq_true (((er : Int) : Int) != (0 : Int)) with hb64 | hb64
          · have HF := HF.as (t := 64) (u := .bool true) rfl (by rw [hb64])
            have hd64 := bne_iff_ne.1 hb64
            refine any_pures HF (fun _ => HS) (fun _ _ d _ _ h => by cases d <;> exact h) [3, 4, 5, 6, 7, 8, 9, 10, 11, 12, 13, 14, 15, 16, 17, 18, 19] #[true, true, true, true, true, true, true, true, true, true, true, true, true, true, true, true, true, true, true, true] [(81, .bool true), (80, undef), (79, undef), (78, undef), (77, undef), (76, undef), (75, undef), (74, undef), (73, .bool true), (72, .bool true), (71, undef), (70, undef), (69, undef), (68, undef), (67, undef), (66, undef), (65, undef)] (by kernel_rfl) ?_; clear HF; intro a HF
            refine any_done (by kernel_rfl) ?_
            replace HF := HF.sub (σ' := [(81, .bool true), (12, .int .i64 (L : Int)), (11, .slice A58 es.length c58), (10, .pointer (some ⟨g10, 0, none⟩)), (46, .bool true), (9, .int .i64 (tkVal 4096 (tkRest (tkRest l)) : Int)), (18, .bool false), (8, .pointer (some ⟨g8, 0, none⟩)), (7, .func (.func 59) #[] #[.pointer (some ⟨g3, 0, none⟩), .pointer (some ⟨g6, 0, none⟩)]), (6, .pointer (some ⟨g6, 0, none⟩)), (5, .bool false), (4, .pointer (some ⟨g4, 0, none⟩)), (3, .pointer (some ⟨g3, 0, none⟩)), (0, .int .u8 ((1 : Nat) : Int))]) (by kernel_rfl)
            have HF := HF.as (t := 81) (u := .bool (!(decide (er = 0 ∧ (es.getD 0 Ev.zero).seq = (tkVal 281474976710656 (tkRest (tkRest (tkRest l))) : Int) ∧ (es.getD 0 Ev.zero).time = (tkVal 281474976710656 (tkRest (tkRest (tkRest (tkRest l)))) : Int))))) rfl (congrArg Value.bool (by rw [decide_eq_false (by omega)]; rfl))
            exact ⟨HF.sub (by kernel_rfl), HM.picks [0, 1, 2, 3, 4, 5] (by decide) rfl⟩
          · have HF := HF.as (t := 64) (u := .bool false) rfl (by rw [hb64])
            have hd64 := bne_eq_false_iff_eq.1 hb64
            have her : er = 0 := by omega
            have hq0 := hq; rw [her] at hq0; obtain ⟨rw1, rw2, rw3, rw4, rw5⟩ := read_write (cpu := tkVal 63 l) (by omega) hl5 hq0
            refine any_pures HF (fun _ => HS) (fun _ _ d _ _ h => by cases d <;> exact h) [3, 7] #[true, true, true, true, false, false, false, true, false, false, false, false, false, false, false, false, false, false, false, false] [(69, .pointer (some ⟨g10, 0, none⟩)), (65, .slice A58 es.length c58)] (by kernel_rfl) ?_; clear HF; intro a HF
            obtain ⟨gA58, rfl⟩ := own_some (HM.own (i := 0) rfl) (Nat.lt_of_le_of_lt (Nat.zero_le _) (show 0 < es.length from by omega))
            refine any_yl HF HS (i := 4) rfl rfl (d := 66) rfl (by decide) (by kernel_rfl) (fun _ _ _ h => h) (v := .pointer (some ⟨gA58, 0, none⟩)) (Yl.indexAddr (ad := ⟨gA58, 0, none⟩) (y := 0) (sz := 11) rfl rfl rfl (by omega) (by kernel_rfl)) ?_; clear HF; intro a HF
            refine any_pures HF (fun _ => HS) (fun _ _ d _ _ h => by cases d <;> exact h) [5] #[true, true, true, true, true, true, false, true, false, false, false, false, false, false, false, false, false, false, false, false] [(67, .pointer (some ⟨gA58, 0, none⟩))] (by kernel_rfl) ?_; clear HF; intro a HF
            refine any_yl HF HS (i := 6) rfl rfl (d := 68) rfl (by decide) (by kernel_rfl) (fun _ _ _ h => h) (v := .int .i64 ((es.getD 0 Ev.zero).seq)) (Yl.load1 rfl rfl (by kernel_rfl) (fun _ h => (by have := h.rowCell evL_len (i := 0) rfl (k := 0) (off := 0) (x := (es.getD 0 Ev.zero)) ((getD_at Ev.zero (k := 0) (by first | omega | (simp; omega)))) rfl; simpa using this))) ?_; clear HF; intro a HF
            refine any_yl HF HS (i := 8) rfl rfl (d := 70) rfl (by decide) (by kernel_rfl) (fun _ _ _ h => h) (v := .int .i64 (tkVal 281474976710656 (tkRest (tkRest (tkRest l))) : Int)) (Yl.load1 rfl rfl (by kernel_rfl) (fun _ h => h.cell (i := 1) rfl rfl)) ?_; clear HF; intro a HF
            refine any_pures HF (fun _ => HS) (fun _ _ d _ _ h => by cases d <;> exact h) [9, 10, 11] #[true, true, true, true, true, true, true, true, true, true, true, true, false, false, false, false, false, false, false, false] [(73, .bool (((es.getD 0 Ev.zero).seq : Int) != ((tkVal 281474976710656 (tkRest (tkRest (tkRest l))) : Int) : Int))), (72, .bool (((es.getD 0 Ev.zero).seq : Int) != ((tkVal 281474976710656 (tkRest (tkRest (tkRest l))) : Int) : Int))), (71, .bool (((es.getD 0 Ev.zero).seq : Int) != ((tkVal 281474976710656 (tkRest (tkRest (tkRest l))) : Int) : Int)))] (by kernel_rfl) ?_; clear HF; intro a HF
            rcases Bool.eq_false_or_eq_true (((es.getD 0 Ev.zero).seq : Int) != ((tkVal 281474976710656 (tkRest (tkRest (tkRest l))) : Int) : Int)) with hb73 | hb73
            · have HF := HF.as (t := 73) (u := .bool true) rfl (by rw [hb73])
              have hd73 := bne_iff_ne.1 hb73
              refine any_pures HF (fun _ => HS) (fun _ _ d _ _ h => by cases d <;> exact h) [12, 13, 14, 15, 16, 17, 18, 19] #[true, true, true, true, true, true, true, true, true, true, true, true, true, true, true, true, true, true, true, true] [(81, .bool true), (80, undef), (79, undef), (78, undef), (77, undef), (76, undef), (75, undef), (74, undef)] (by kernel_rfl) ?_; clear HF; intro a HF
              refine any_done (by kernel_rfl) ?_
              replace HF := HF.sub (σ' := [(81, .bool true), (12, .int .i64 (L : Int)), (11, .slice (some ⟨gA58, 0, none⟩) es.length c58), (10, .pointer (some ⟨g10, 0, none⟩)), (46, .bool true), (9, .int .i64 (tkVal 4096 (tkRest (tkRest l)) : Int)), (18, .bool false), (8, .pointer (some ⟨g8, 0, none⟩)), (7, .func (.func 59) #[] #[.pointer (some ⟨g3, 0, none⟩), .pointer (some ⟨g6, 0, none⟩)]), (6, .pointer (some ⟨g6, 0, none⟩)), (5, .bool false), (4, .pointer (some ⟨g4, 0, none⟩)), (3, .pointer (some ⟨g3, 0, none⟩)), (0, .int .u8 ((1 : Nat) : Int))]) (by kernel_rfl)
              have HF := HF.as (t := 81) (u := .bool (!(decide (er = 0 ∧ (es.getD 0 Ev.zero).seq = (tkVal 281474976710656 (tkRest (tkRest (tkRest l))) : Int) ∧ (es.getD 0 Ev.zero).time = (tkVal 281474976710656 (tkRest (tkRest (tkRest (tkRest l)))) : Int))))) rfl (congrArg Value.bool (by rw [decide_eq_false (by omega)]; rfl))
              exact ⟨HF.sub (by kernel_rfl), HM.picks [0, 1, 2, 3, 4, 5] (by decide) rfl⟩
            · have HF := HF.as (t := 73) (u := .bool false) rfl (by rw [hb73])
              have hd73 := bne_eq_false_iff_eq.1 hb73
              refine any_pures HF (fun _ => HS) (fun _ _ d _ _ h => by cases d <;> exact h) [12, 16] #[true, true, true, true, true, true, true, true, true, true, true, true, true, false, false, false, true, false, false, false] [(78, .pointer (some ⟨g10, 1, none⟩)), (74, .slice (some ⟨gA58, 0, none⟩) es.length c58)] (by kernel_rfl) ?_; clear HF; intro a HF
              refine any_yl HF HS (i := 13) rfl rfl (d := 75) rfl (by decide) (by kernel_rfl) (fun _ _ _ h => h) (v := .pointer (some ⟨gA58, 0, none⟩)) (Yl.indexAddr (ad := ⟨gA58, 0, none⟩) (y := 0) (sz := 11) rfl rfl rfl (by omega) (by kernel_rfl)) ?_; clear HF; intro a HF
              refine any_pures HF (fun _ => HS) (fun _ _ d _ _ h => by cases d <;> exact h) [14] #[true, true, true, true, true, true, true, true, true, true, true, true, true, true, true, false, true, false, false, false] [(76, .pointer (some ⟨gA58, 1, none⟩))] (by kernel_rfl) ?_; clear HF; intro a HF
              refine any_yl HF HS (i := 15) rfl rfl (d := 77) rfl (by decide) (by kernel_rfl) (fun _ _ _ h => h) (v := .int .i64 ((es.getD 0 Ev.zero).time)) (Yl.load1 rfl rfl (by kernel_rfl) (fun _ h => h.rowCell evL_len (i := 0) rfl (k := 0) (off := 1) (x := (es.getD 0 Ev.zero)) ((getD_at Ev.zero (k := 0) (by first | omega | (simp; omega)))) rfl)) ?_; clear HF; intro a HF
              refine any_yl HF HS (i := 17) rfl rfl (d := 79) rfl (by decide) (by kernel_rfl) (fun _ _ _ h => h) (v := .int .i64 (tkVal 281474976710656 (tkRest (tkRest (tkRest (tkRest l)))) : Int)) (Yl.load1 rfl rfl (by kernel_rfl) (fun _ h => h.cell (i := 1) rfl rfl)) ?_; clear HF; intro a HF
              refine any_pures HF (fun _ => HS) (fun _ _ d _ _ h => by cases d <;> exact h) [18, 19] #[true, true, true, true, true, true, true, true, true, true, true, true, true, true, true, true, true, true, true, true] [(81, .bool (((es.getD 0 Ev.zero).time : Int) != ((tkVal 281474976710656 (tkRest (tkRest (tkRest (tkRest l)))) : Int) : Int))), (80, .bool (((es.getD 0 Ev.zero).time : Int) != ((tkVal 281474976710656 (tkRest (tkRest (tkRest (tkRest l)))) : Int) : Int)))] (by kernel_rfl) ?_; clear HF; intro a HF
              refine any_done (by kernel_rfl) ?_
              replace HF := HF.sub (σ' := [(81, .bool (((es.getD 0 Ev.zero).time : Int) != ((tkVal 281474976710656 (tkRest (tkRest (tkRest (tkRest l)))) : Int) : Int))), (12, .int .i64 (L : Int)), (11, .slice (some ⟨gA58, 0, none⟩) es.length c58), (10, .pointer (some ⟨g10, 0, none⟩)), (46, .bool true), (9, .int .i64 (tkVal 4096 (tkRest (tkRest l)) : Int)), (18, .bool false), (8, .pointer (some ⟨g8, 0, none⟩)), (7, .func (.func 59) #[] #[.pointer (some ⟨g3, 0, none⟩), .pointer (some ⟨g6, 0, none⟩)]), (6, .pointer (some ⟨g6, 0, none⟩)), (5, .bool false), (4, .pointer (some ⟨g4, 0, none⟩)), (3, .pointer (some ⟨g3, 0, none⟩)), (0, .int .u8 ((1 : Nat) : Int))]) (by kernel_rfl)
              have HF := HF.as (t := 81) (u := .bool (!(decide (er = 0 ∧ (es.getD 0 Ev.zero).seq = (tkVal 281474976710656 (tkRest (tkRest (tkRest l))) : Int) ∧ (es.getD 0 Ev.zero).time = (tkVal 281474976710656 (tkRest (tkRest (tkRest (tkRest l)))) : Int))))) rfl (congrArg Value.bool (by rw [Bool.eq_iff_iff, bne_iff_ne, Bool.not_eq_true', decide_eq_false_iff_not]; omega))
              exact ⟨HF.sub (by kernel_rfl), HM.picks [0, 1, 2, 3, 4, 5] (by decide) rfl⟩
        clear HF HM; rintro a w12 ⟨HF, HM⟩
        rcases Bool.eq_false_or_eq_true (!(decide (er = 0 ∧ (es.getD 0 Ev.zero).seq = (tkVal 281474976710656 (tkRest (tkRest (tkRest l))) : Int) ∧ (es.getD 0 Ev.zero).time = (tkVal 281474976710656 (tkRest (tkRest (tkRest (tkRest l)))) : Int)))) with hb81 | hb81
        · have HF := HF.as (t := 81) (u := .bool true) rfl (by rw [hb81])
          have hz : ¬ (er = 0 ∧ (es.getD 0 Ev.zero).seq = (tkVal 281474976710656 (tkRest (tkRest (tkRest l))) : Int) ∧ (es.getD 0 Ev.zero).time = (tkVal 281474976710656 (tkRest (tkRest (tkRest (tkRest l)))) : Int)) := fun hh => by rw [decide_eq_true hh] at hb81; cases hb81
          refine cond_true HF rfl ?_
          refine wp_seq ?_
          refine from_start ?_
          refine from_yl (S := fun wS => Mem w wS _) HF HM (i := 0) rfl rfl (d := 82) rfl (by decide) (v := .agg #[.int .u8 0, .int .u8 0, .int .i64 0, .int .i64 0, .slice none 0 0]) (Yl.build (vs := []) rfl (by kernel_rfl) (by kernel_rfl)) ?_; clear HF; intro a HF
          refine from_op HF (i := 1) rfl rfl ?_
          refine e_storeAll HF HM (i := 5) (cs := #[.int .u8 0, .int .u8 0, .int .i64 0, .int .i64 0, .slice none 0 0]) (ds := #[.int .u8 0, .int .u8 0, .int .i64 0, .int .i64 0, .slice none 0 0]) rfl rfl rfl rfl si_bk rfl rfl (by simp [Value.oneCell']) rfl ?_
          clear HM; intro w13_1 HM
          refine from_pures HF 1 2 (j := 3) [(5, .bool false)] (by kernel_rfl) rfl ?_; clear HF; intro a HF
          refine from_done rfl ?_
          replace HF := HF.sub (σ' := [(5, .bool false), (81, .bool true), (12, .int .i64 (L : Int)), (11, .slice A58 es.length c58), (10, .pointer (some ⟨g10, 0, none⟩)), (46, .bool true), (9, .int .i64 (tkVal 4096 (tkRest (tkRest l)) : Int)), (18, .bool false), (8, .pointer (some ⟨g8, 0, none⟩)), (7, .func (.func 59) #[] #[.pointer (some ⟨g3, 0, none⟩), .pointer (some ⟨g6, 0, none⟩)]), (6, .pointer (some ⟨g6, 0, none⟩)), (4, .pointer (some ⟨g4, 0, none⟩)), (3, .pointer (some ⟨g3, 0, none⟩)), (0, .int .u8 ((1 : Nat) : Int))]) (by kernel_rfl)
          refine wp_ret ?_
          exact ret2 rfl HF (.cellS (i := 5) HF HM rfl rfl si_bk rfl) (.tmp HF rfl) (parseIs_none (by rw [parseR_evs, parseEvs_full h3 (by omega) hq]; exact parseRows_none (fun hh => hz ⟨hh.1, hh.2.1, hh.2.2.1⟩)) rfl (by simp [Value.oneCell']) HM.below)
        · have HF := HF.as (t := 81) (u := .bool false) rfl (by rw [hb81])
          have hz : er = 0 ∧ (es.getD 0 Ev.zero).seq = (tkVal 281474976710656 (tkRest (tkRest (tkRest l))) : Int) ∧ (es.getD 0 Ev.zero).time = (tkVal 281474976710656 (tkRest (tkRest (tkRest (tkRest l)))) : Int) := Decidable.byContradiction fun hh => by rw [decide_eq_false hh] at hb81; cases hb81
          have her := hz.1
          have hq0 := hq; rw [her] at hq0; obtain ⟨rw1, rw2, rw3, rw4, rw5⟩ := read_write (cpu := tkVal 63 l) (by omega) hl5 hq0
          refine cond_false HF rfl ?_
          refine wp_skip ?_
          refine any_start (by kernel_rfl) (fun wS => Mem w wS [.row (.slice A58 es.length c58) es.length (es.flatMap evL) 55 11, .blk g10 #[.int .i64 (tkVal 281474976710656 (tkRest (tkRest (tkRest l))) : Int), .int .i64 (tkVal 281474976710656 (tkRest (tkRest (tkRest (tkRest l)))) : Int)] 27, .blk g3 #[.slice Aq5 ((tkRest (tkRest (tkRest (tkRest (tkRest l))))).length) cq5] 22, .blk g6 #[.bool (((((true && tkOk 63 l) && tkOk 281474976710656 (tkRest l)) && tkOk 4096 (tkRest (tkRest l))) && tkOk 281474976710656 (tkRest (tkRest (tkRest l)))) && tkOk 281474976710656 (tkRest (tkRest (tkRest (tkRest l)))))] 4, .blk g4 #[.int .u8 0, .int .u8 0, .int .i64 0, .int .i64 0, .slice none 0 0] 37]) [6] ?_
          replace HM := HM.drew
          have HS := HM.picks (fs' := [.row (.slice A58 es.length c58) es.length (es.flatMap evL) 55 11, .blk g10 #[.int .i64 (tkVal 281474976710656 (tkRest (tkRest (tkRest l))) : Int), .int .i64 (tkVal 281474976710656 (tkRest (tkRest (tkRest (tkRest l)))) : Int)] 27, .blk g3 #[.slice Aq5 ((tkRest (tkRest (tkRest (tkRest (tkRest l))))).length) cq5] 22, .blk g6 #[.bool (((((true && tkOk 63 l) && tkOk 281474976710656 (tkRest l)) && tkOk 4096 (tkRest (tkRest l))) && tkOk 281474976710656 (tkRest (tkRest (tkRest l)))) && tkOk 281474976710656 (tkRest (tkRest (tkRest (tkRest l)))))] 4, .blk g4 #[.int .u8 0, .int .u8 0, .int .i64 0, .int .i64 0, .slice none 0 0] 37]) [0, 1, 2, 3, 5] (by decide) rfl
          refine any_pures HF (fun _ => HS) (fun _ _ d _ _ h => by cases d <;> exact h) [0, 2, 4] #[true, false, true, false, true, false, false] [(87, .pointer (some ⟨g8, 4, none⟩)), (85, .int .i64 (L : Int)), (83, .slice A58 es.length c58)] (by kernel_rfl) ?_; clear HF; intro a HF
          refine any_yl HF HS (i := 1) rfl rfl (d := 84) rfl (by decide) (by kernel_rfl) (fun _ _ _ h => h) (v := .slice Aq5 ((tkRest (tkRest (tkRest (tkRest (tkRest l))))).length) cq5) (Yl.load1 rfl rfl (by kernel_rfl) (fun _ h => h.cell (i := 2) rfl rfl)) ?_; clear HF; intro a HF
          refine any_yl HF HS (i := 3) rfl rfl (d := 86) rfl (by decide) (by kernel_rfl) (fun _ _ _ h => h) (v := .slice (if cq5 = L then Aq5 else Aq5.map (·.add (L * 1))) (((tkRest (tkRest (tkRest (tkRest (tkRest l))))).length) - L) (cq5 - L)) (Yl.sliceFrom ei_u8 (j := L) rfl rfl rfl (by omega)) ?_; clear HF; intro a HF
          refine any_all [5] (by kernel_rfl) rfl ?_
          refine all_cons ?_ all_nil
          refine any_op HF (i := 5) rfl rfl ?_
          refine e_store HF HM (i := 4) (cs := #[.int .u8 ((1 : Nat) : Int), .int .u8 (tkVal 63 l : Int), .int .i64 (tkVal 281474976710656 (tkRest l) : Int), .int .i64 0, .slice none 0 0]) rfl rfl rfl rfl (by kernel_rfl) rfl rfl (by simp) ?_
          clear HM; intro w14_5 HM
          refine keepS (HM.picks [0, 1, 2, 3, 5] (by decide) rfl) (fun HS => ?_)
          refine any_all [6] (by kernel_rfl) rfl ?_
          refine all_cons ?_ all_nil
          refine any_op HF (i := 6) rfl rfl ?_
          refine e_store HF HM (i := 2) (cs := #[.slice Aq5 ((tkRest (tkRest (tkRest (tkRest (tkRest l))))).length) cq5]) rfl rfl rfl rfl (by kernel_rfl) rfl rfl (by simp) ?_
          clear HM; intro w14_6 HM
          refine noS (by kernel_rfl) ?_
          refine any_done (by kernel_rfl) ?_
          replace HF := HF.sub (σ' := [(81, .bool false), (11, .slice A58 es.length c58), (10, .pointer (some ⟨g10, 0, none⟩)), (46, .bool true), (9, .int .i64 (tkVal 4096 (tkRest (tkRest l)) : Int)), (18, .bool false), (8, .pointer (some ⟨g8, 0, none⟩)), (7, .func (.func 59) #[] #[.pointer (some ⟨g3, 0, none⟩), .pointer (some ⟨g6, 0, none⟩)]), (6, .pointer (some ⟨g6, 0, none⟩)), (5, .bool false), (4, .pointer (some ⟨g4, 0, none⟩)), (3, .pointer (some ⟨g3, 0, none⟩)), (0, .int .u8 ((1 : Nat) : Int))]) (by kernel_rfl)
          refine cut_seq (fun aS wS => Fr aS 99 [] [(5, .bool ((parseEvs l).isSome)), (81, .bool false), (11, .slice A58 es.length c58), (10, .pointer (some ⟨g10, 0, none⟩)), (46, .bool true), (9, .int .i64 (tkVal 4096 (tkRest (tkRest l)) : Int)), (18, .bool false), (8, .pointer (some ⟨g8, 0, none⟩)), (7, .func (.func 59) #[] #[.pointer (some ⟨g3, 0, none⟩), .pointer (some ⟨g6, 0, none⟩)]), (6, .pointer (some ⟨g6, 0, none⟩)), (4, .pointer (some ⟨g4, 0, none⟩)), (3, .pointer (some ⟨g3, 0, none⟩)), (0, .int .u8 ((1 : Nat) : Int))] ∧ Mem w wS [.row (.slice A58 es.length c58) es.length (es.flatMap evL) 55 11, .blk g10 #[.int .i64 (tkVal 281474976710656 (tkRest (tkRest (tkRest l))) : Int), .int .i64 (tkVal 281474976710656 (tkRest (tkRest (tkRest (tkRest l)))) : Int)] 27, .blk g3 #[.slice (if cq5 = L then Aq5 else Aq5.map (·.add (L * 1))) (((tkRest (tkRest (tkRest (tkRest (tkRest l))))).length) - L) (cq5 - L)] 22, .blk g6 #[.bool (((((true && tkOk 63 l) && tkOk 281474976710656 (tkRest l)) && tkOk 4096 (tkRest (tkRest l))) && tkOk 281474976710656 (tkRest (tkRest (tkRest l)))) && tkOk 281474976710656 (tkRest (tkRest (tkRest (tkRest l)))))] 4, .blk g8 #[.int .u8 ((1 : Nat) : Int), .int .u8 (tkVal 63 l : Int), .int .i64 (tkVal 281474976710656 (tkRest l) : Int), .int .i64 0, .slice A58 es.length c58] 37, .blk g4 #[.int .u8 ((1 : Nat) : Int), .int .u8 (tkVal 63 l : Int), .int .i64 (tkVal 281474976710656 (tkRest l) : Int), .int .i64 0, .slice A58 es.length c58] 37]) ?_ ?_
          ·
            refine any_start (by kernel_rfl) (fun wS => Mem w wS [.row (.slice A58 es.length c58) es.length (es.flatMap evL) 55 11, .blk g10 #[.int .i64 (tkVal 281474976710656 (tkRest (tkRest (tkRest l))) : Int), .int .i64 (tkVal 281474976710656 (tkRest (tkRest (tkRest (tkRest l)))) : Int)] 27, .blk g3 #[.slice (if cq5 = L then Aq5 else Aq5.map (·.add (L * 1))) (((tkRest (tkRest (tkRest (tkRest (tkRest l))))).length) - L) (cq5 - L)] 22, .blk g6 #[.bool (((((true && tkOk 63 l) && tkOk 281474976710656 (tkRest l)) && tkOk 4096 (tkRest (tkRest l))) && tkOk 281474976710656 (tkRest (tkRest (tkRest l)))) && tkOk 281474976710656 (tkRest (tkRest (tkRest (tkRest l)))))] 4, .blk g8 #[.int .u8 ((1 : Nat) : Int), .int .u8 (tkVal 63 l : Int), .int .i64 (tkVal 281474976710656 (tkRest l) : Int), .int .i64 0, .slice A58 es.length c58] 37]) [] ?_
            replace HM := HM.drew
            have HS := HM.picks (fs' := [.row (.slice A58 es.length c58) es.length (es.flatMap evL) 55 11, .blk g10 #[.int .i64 (tkVal 281474976710656 (tkRest (tkRest (tkRest l))) : Int), .int .i64 (tkVal 281474976710656 (tkRest (tkRest (tkRest (tkRest l)))) : Int)] 27, .blk g3 #[.slice (if cq5 = L then Aq5 else Aq5.map (·.add (L * 1))) (((tkRest (tkRest (tkRest (tkRest (tkRest l))))).length) - L) (cq5 - L)] 22, .blk g6 #[.bool (((((true && tkOk 63 l) && tkOk 281474976710656 (tkRest l)) && tkOk 4096 (tkRest (tkRest l))) && tkOk 281474976710656 (tkRest (tkRest (tkRest l)))) && tkOk 281474976710656 (tkRest (tkRest (tkRest (tkRest l)))))] 4, .blk g8 #[.int .u8 ((1 : Nat) : Int), .int .u8 (tkVal 63 l : Int), .int .i64 (tkVal 281474976710656 (tkRest l) : Int), .int .i64 0, .slice A58 es.length c58] 37]) [0, 1, 2, 3, 4] (by decide) rfl
            refine any_yl HF HS (i := 0) rfl rfl (d := 88) rfl (by decide) (by kernel_rfl) (fun _ _ _ h => h) (v := .agg #[.int .u8 ((1 : Nat) : Int), .int .u8 (tkVal 63 l : Int), .int .i64 (tkVal 281474976710656 (tkRest l) : Int), .int .i64 0, .slice A58 es.length c58]) (Yl.loadS rfl rfl si_bk rfl (fun _ h => range_of_block (h.blk (i := 4) rfl))) ?_; clear HF; intro a HF
            refine any_yl HF HS (i := 1) rfl rfl (d := 89) rfl (by decide) (by kernel_rfl) (fun _ _ _ h => h) (v := .bool (((((true && tkOk 63 l) && tkOk 281474976710656 (tkRest l)) && tkOk 4096 (tkRest (tkRest l))) && tkOk 281474976710656 (tkRest (tkRest (tkRest l)))) && tkOk 281474976710656 (tkRest (tkRest (tkRest (tkRest l)))))) (Yl.load1 rfl rfl (by kernel_rfl) (fun _ h => h.cell (i := 3) rfl rfl)) ?_; clear HF; intro a HF
            refine any_pures HF (fun _ => HS) (fun _ _ d _ _ h => by cases d <;> exact h) [2] #[true, true, true, false, false, false, false, false, false, false, false, false, false] [(90, .bool (((((true && tkOk 63 l) && tkOk 281474976710656 (tkRest l)) && tkOk 4096 (tkRest (tkRest l))) && tkOk 281474976710656 (tkRest (tkRest (tkRest l)))) && tkOk 281474976710656 (tkRest (tkRest (tkRest (tkRest l))))))] (by kernel_rfl) ?_; clear HF; intro a HF
            rcases Bool.eq_false_or_eq_true ((((((true && tkOk 63 l) && tkOk 281474976710656 (tkRest l)) && tkOk 4096 (tkRest (tkRest l))) && tkOk 281474976710656 (tkRest (tkRest (tkRest l)))) && tkOk 281474976710656 (tkRest (tkRest (tkRest (tkRest l)))))) with hb90 | hb90
            · have HF := HF.as (t := 90) (u := .bool true) rfl (by rw [hb90])
              refine any_yl HF HS (i := 3) rfl rfl (d := 91) rfl (by decide) (by kernel_rfl) (fun _ _ _ h => h) (v := .slice (if cq5 = L then Aq5 else Aq5.map (·.add (L * 1))) (((tkRest (tkRest (tkRest (tkRest (tkRest l))))).length) - L) (cq5 - L)) (Yl.load1 rfl rfl (by kernel_rfl) (fun _ h => h.cell (i := 2) rfl rfl)) ?_; clear HF; intro a HF
              refine any_yl HF HS (i := 4) rfl rfl (d := 92) rfl (by decide) (by kernel_rfl) (fun _ _ _ h => h) (v := .int .i64 ((((tkRest (tkRest (tkRest (tkRest (tkRest l))))).length) - L : Nat) : Int)) (Yl.len rfl rfl (by kernel_rfl)) ?_; clear HF; intro a HF
              refine any_pures HF (fun _ => HS) (fun _ _ d _ _ h => by cases d <;> exact h) [5, 6, 7] #[true, true, true, true, true, true, true, true, false, false, false, false, false] [(95, .bool ((((((tkRest (tkRest (tkRest (tkRest (tkRest l))))).length) - L : Nat) : Int) : Int) == (0 : Int))), (94, .bool ((((((tkRest (tkRest (tkRest (tkRest (tkRest l))))).length) - L : Nat) : Int) : Int) == (0 : Int))), (93, .bool ((((((tkRest (tkRest (tkRest (tkRest (tkRest l))))).length) - L : Nat) : Int) : Int) == (0 : Int)))] (by kernel_rfl) ?_; clear HF; intro a HF
              rcases Bool.eq_false_or_eq_true ((((((tkRest (tkRest (tkRest (tkRest (tkRest l))))).length) - L : Nat) : Int) : Int) == (0 : Int)) with hb95 | hb95
              · have HF := HF.as (t := 95) (u := .bool true) rfl (by rw [hb95])
                have hd95 := eq_of_beq hb95
                refine any_yl HF HS (i := 8) rfl rfl (d := 96) rfl (by decide) (by kernel_rfl) (fun _ _ _ h => h) (v := .agg #[.int .u8 ((1 : Nat) : Int), .int .u8 (tkVal 63 l : Int), .int .i64 (tkVal 281474976710656 (tkRest l) : Int), .int .i64 0, .slice A58 es.length c58]) (Yl.loadS rfl rfl si_bk rfl (fun _ h => range_of_block (h.blk (i := 4) rfl))) ?_; clear HF; intro a HF
                refine any_all [9] (by kernel_rfl) rfl ?_
                refine all_cons ?_ all_nil
                refine any_op HF (i := 9) rfl rfl ?_
                refine e_call HF (vs := [.agg #[.int .u8 ((1 : Nat) : Int), .int .u8 (tkVal 63 l : Int), .int .i64 (tkVal 281474976710656 (tkRest l) : Int), .int .i64 0, .slice A58 es.length c58]]) rfl (by kernel_rfl) (by kernel_rfl) rfl (by decide) (fits_any ⟨1, tkVal 63 l, (tkVal 281474976710656 (tkRest l) : Int), 0, es⟩ (evsOk (by omega) (by omega) (fun e he => (rw5 e he).1)) A58 c58 B _ (hL.mem HM hB) (HM.le hB) (HM.rd (i := 0) rfl) (by show es.length ≤ _; omega)) ?_
                rintro _ w97 ⟨rfl, hbw⟩
                refine ⟨_, rfl, ?_⟩
                replace HM := HM.call hbw
                clear HF; intro a HF
                refine keepS (HM.picks [0, 1, 2, 3, 4] (by decide) rfl) (fun HS => ?_)
                refine any_pures HF (fun _ => HS) (fun _ _ d _ _ h => by cases d <;> exact h) [10] #[true, true, true, true, true, true, true, true, true, true, true, false, false] [(98, .bool (Bk.fits ⟨1, tkVal 63 l, (tkVal 281474976710656 (tkRest l) : Int), 0, es⟩))] (by kernel_rfl) ?_; clear HF; intro a HF
                refine any_all [11] (by kernel_rfl) rfl ?_
                refine all_cons ?_ all_nil
                refine any_op HF (i := 11) rfl rfl ?_
                refine e_storeAll HF HM (i := 5) (cs := #[.int .u8 0, .int .u8 0, .int .i64 0, .int .i64 0, .slice none 0 0]) (ds := #[.int .u8 ((1 : Nat) : Int), .int .u8 (tkVal 63 l : Int), .int .i64 (tkVal 281474976710656 (tkRest l) : Int), .int .i64 0, .slice A58 es.length c58]) rfl rfl rfl rfl si_bk rfl rfl (by simp [Value.oneCell']) rfl ?_
                clear HM; intro w15_11 HM
                refine keepS (HM.picks [0, 1, 2, 3, 4] (by decide) rfl) (fun HS => ?_)
                refine any_pures HF (fun _ => HS) (fun _ _ d _ _ h => by cases d <;> exact h) [12] #[true, true, true, true, true, true, true, true, true, true, true, true, true] [(5, .bool (Bk.fits ⟨1, tkVal 63 l, (tkVal 281474976710656 (tkRest l) : Int), 0, es⟩))] (by kernel_rfl) ?_; clear HF; intro a HF
                refine any_done (by kernel_rfl) ?_
                replace HF := HF.sub (σ' := [(5, .bool (Bk.fits ⟨1, tkVal 63 l, (tkVal 281474976710656 (tkRest l) : Int), 0, es⟩)), (81, .bool false), (11, .slice A58 es.length c58), (10, .pointer (some ⟨g10, 0, none⟩)), (46, .bool true), (9, .int .i64 (tkVal 4096 (tkRest (tkRest l)) : Int)), (18, .bool false), (8, .pointer (some ⟨g8, 0, none⟩)), (7, .func (.func 59) #[] #[.pointer (some ⟨g3, 0, none⟩), .pointer (some ⟨g6, 0, none⟩)]), (6, .pointer (some ⟨g6, 0, none⟩)), (4, .pointer (some ⟨g4, 0, none⟩)), (3, .pointer (some ⟨g3, 0, none⟩)), (0, .int .u8 ((1 : Nat) : Int))]) (by kernel_rfl)
                have HF := HF.as (t := 5) (u := .bool ((parseEvs l).isSome)) rfl (congrArg Value.bool (by rw [parseR1 h3 (by omega) hq her, rows_is ⟨hz.2.1, hz.2.2⟩, show (tkOk 281474976710656 (tkRest (tkRest (tkRest l))) && tkOk 281474976710656 (tkRest (tkRest (tkRest (tkRest l))))) = true by have h9 := hb90; rw [tk5 (l := l), tk3, h3, Bool.true_and] at h9; exact h9, decide_eq_true (by omega), Bool.true_and, Bool.true_and]))
                exact ⟨HF.sub (by kernel_rfl), HM.picks [0, 1, 2, 3, 4, 5] (by decide) rfl⟩
              · have HF := HF.as (t := 95) (u := .bool false) rfl (by rw [hb95])
                have hd95 := ne_of_beq_false hb95
                refine any_pures HF (fun _ => HS) (fun _ _ d _ _ h => by cases d <;> exact h) [8, 9, 10] #[true, true, true, true, true, true, true, true, true, true, true, false, false] [(98, .bool false), (97, undef), (96, undef)] (by kernel_rfl) ?_; clear HF; intro a HF
                refine any_all [11] (by kernel_rfl) rfl ?_
                refine all_cons ?_ all_nil
                refine any_op HF (i := 11) rfl rfl ?_
                refine e_storeAll HF HM (i := 5) (cs := #[.int .u8 0, .int .u8 0, .int .i64 0, .int .i64 0, .slice none 0 0]) (ds := #[.int .u8 ((1 : Nat) : Int), .int .u8 (tkVal 63 l : Int), .int .i64 (tkVal 281474976710656 (tkRest l) : Int), .int .i64 0, .slice A58 es.length c58]) rfl rfl rfl rfl si_bk rfl rfl (by simp [Value.oneCell']) rfl ?_
                clear HM; intro w15_11 HM
                refine keepS (HM.picks [0, 1, 2, 3, 4] (by decide) rfl) (fun HS => ?_)
                refine any_pures HF (fun _ => HS) (fun _ _ d _ _ h => by cases d <;> exact h) [12] #[true, true, true, true, true, true, true, true, true, true, true, true, true] [(5, .bool false)] (by kernel_rfl) ?_; clear HF; intro a HF
                refine any_done (by kernel_rfl) ?_
                replace HF := HF.sub (σ' := [(5, .bool false), (81, .bool false), (11, .slice A58 es.length c58), (10, .pointer (some ⟨g10, 0, none⟩)), (46, .bool true), (9, .int .i64 (tkVal 4096 (tkRest (tkRest l)) : Int)), (18, .bool false), (8, .pointer (some ⟨g8, 0, none⟩)), (7, .func (.func 59) #[] #[.pointer (some ⟨g3, 0, none⟩), .pointer (some ⟨g6, 0, none⟩)]), (6, .pointer (some ⟨g6, 0, none⟩)), (4, .pointer (some ⟨g4, 0, none⟩)), (3, .pointer (some ⟨g3, 0, none⟩)), (0, .int .u8 ((1 : Nat) : Int))]) (by kernel_rfl)
                have HF := HF.as (t := 5) (u := .bool ((parseEvs l).isSome)) rfl (congrArg Value.bool (by rw [parseR1 h3 (by omega) hq her, rows_is ⟨hz.2.1, hz.2.2⟩, decide_eq_false (by omega), Bool.false_and, Bool.and_false]))
                exact ⟨HF.sub (by kernel_rfl), HM.picks [0, 1, 2, 3, 4, 5] (by decide) rfl⟩
            · have HF := HF.as (t := 90) (u := .bool false) rfl (by rw [hb90])
              refine any_pures HF (fun _ => HS) (fun _ _ d _ _ h => by cases d <;> exact h) [3, 4, 5, 6, 7, 8, 9, 10] #[true, true, true, true, true, true, true, true, true, true, true, false, false] [(98, .bool false), (97, undef), (96, undef), (95, .bool false), (94, .bool false), (93, undef), (92, undef), (91, undef)] (by kernel_rfl) ?_; clear HF; intro a HF
              refine any_all [11] (by kernel_rfl) rfl ?_
              refine all_cons ?_ all_nil
              refine any_op HF (i := 11) rfl rfl ?_
              refine e_storeAll HF HM (i := 5) (cs := #[.int .u8 0, .int .u8 0, .int .i64 0, .int .i64 0, .slice none 0 0]) (ds := #[.int .u8 ((1 : Nat) : Int), .int .u8 (tkVal 63 l : Int), .int .i64 (tkVal 281474976710656 (tkRest l) : Int), .int .i64 0, .slice A58 es.length c58]) rfl rfl rfl rfl si_bk rfl rfl (by simp [Value.oneCell']) rfl ?_
              clear HM; intro w15_11 HM
              refine keepS (HM.picks [0, 1, 2, 3, 4] (by decide) rfl) (fun HS => ?_)
              refine any_pures HF (fun _ => HS) (fun _ _ d _ _ h => by cases d <;> exact h) [12] #[true, true, true, true, true, true, true, true, true, true, true, true, true] [(5, .bool false)] (by kernel_rfl) ?_; clear HF; intro a HF
              refine any_done (by kernel_rfl) ?_
              replace HF := HF.sub (σ' := [(5, .bool false), (81, .bool false), (11, .slice A58 es.length c58), (10, .pointer (some ⟨g10, 0, none⟩)), (46, .bool true), (9, .int .i64 (tkVal 4096 (tkRest (tkRest l)) : Int)), (18, .bool false), (8, .pointer (some ⟨g8, 0, none⟩)), (7, .func (.func 59) #[] #[.pointer (some ⟨g3, 0, none⟩), .pointer (some ⟨g6, 0, none⟩)]), (6, .pointer (some ⟨g6, 0, none⟩)), (4, .pointer (some ⟨g4, 0, none⟩)), (3, .pointer (some ⟨g3, 0, none⟩)), (0, .int .u8 ((1 : Nat) : Int))]) (by kernel_rfl)
              have HF := HF.as (t := 5) (u := .bool ((parseEvs l).isSome)) rfl (congrArg Value.bool (by rw [parseR1 h3 (by omega) hq her, rows_is ⟨hz.2.1, hz.2.2⟩, show (tkOk 281474976710656 (tkRest (tkRest (tkRest l))) && tkOk 281474976710656 (tkRest (tkRest (tkRest (tkRest l))))) = false by have h9 := hb90; rw [tk5 (l := l), tk3, h3, Bool.true_and] at h9; exact h9, Bool.false_and]))
              exact ⟨HF.sub (by kernel_rfl), HM.picks [0, 1, 2, 3, 4, 5] (by decide) rfl⟩
          clear HF HM; rintro a w15 ⟨HF, HM⟩
          refine wp_ret ?_
          rcases Bool.eq_false_or_eq_true ((parseEvs l).isSome) with hb5 | hb5
          · have HF := HF.as (t := 5) (u := .bool true) rfl (by rw [hb5])
            have hfin := hb5
            exact ret2 rfl HF (.cellS (i := 5) HF HM rfl rfl si_bk rfl) (.tmp HF rfl) (parseIs_some (b := ⟨1, tkVal 63 l, (tkVal 281474976710656 (tkRest l) : Int), 0, es⟩) (A := A58) (c := c58) (by rw [parseR_evs]; rw [parseR1 h3 (by omega) hq her] at hfin ⊢; exact rows_val hfin) (HM.own (i := 0) rfl) hc58 HM.below)
          · have HF := HF.as (t := 5) (u := .bool false) rfl (by rw [hb5])
            have hfin := hb5
            exact ret2 rfl HF (.cellS (i := 5) HF HM rfl rfl si_bk rfl) (.tmp HF rfl) (parseIs_none (by rw [parseR_evs]; exact Option.not_isSome_iff_eq_none.1 (by rw [hfin]; decide)) rfl (by simp [Value.oneCell']) HM.below)
      · have HF := HF.as (t := 46) (u := .bool false) rfl (by rw [hb46])
        have hd46 := of_decide_eq_false hb46
        refine cond_false HF rfl ?_
        refine wp_skip ?_
        refine cut_seq (fun aS wS => Fr aS 99 [] [(5, .bool ((parseEvs l).isSome)), (46, .bool false), (9, .int .i64 (tkVal 4096 (tkRest (tkRest l)) : Int)), (18, .bool false), (8, .pointer (some ⟨g8, 0, none⟩)), (7, .func (.func 59) #[] #[.pointer (some ⟨g3, 0, none⟩), .pointer (some ⟨g6, 0, none⟩)]), (6, .pointer (some ⟨g6, 0, none⟩)), (4, .pointer (some ⟨g4, 0, none⟩)), (3, .pointer (some ⟨g3, 0, none⟩)), (0, .int .u8 ((1 : Nat) : Int))] ∧ Mem w wS [.blk g3 #[.slice Aq3 ((tkRest (tkRest (tkRest l))).length) cq3] 22, .blk g6 #[.bool (((true && tkOk 63 l) && tkOk 281474976710656 (tkRest l)) && tkOk 4096 (tkRest (tkRest l)))] 4, .blk g8 #[.int .u8 ((1 : Nat) : Int), .int .u8 (tkVal 63 l : Int), .int .i64 (tkVal 281474976710656 (tkRest l) : Int), .int .i64 0, .slice none 0 0] 37, .blk g4 #[.int .u8 ((1 : Nat) : Int), .int .u8 (tkVal 63 l : Int), .int .i64 (tkVal 281474976710656 (tkRest l) : Int), .int .i64 0, .slice none 0 0] 37]) ?_ ?_
        ·
          refine any_start (by kernel_rfl) (fun wS => Mem w wS [.blk g3 #[.slice Aq3 ((tkRest (tkRest (tkRest l))).length) cq3] 22, .blk g6 #[.bool (((true && tkOk 63 l) && tkOk 281474976710656 (tkRest l)) && tkOk 4096 (tkRest (tkRest l)))] 4, .blk g8 #[.int .u8 ((1 : Nat) : Int), .int .u8 (tkVal 63 l : Int), .int .i64 (tkVal 281474976710656 (tkRest l) : Int), .int .i64 0, .slice none 0 0] 37]) [] ?_
          replace HM := HM.drew
          have HS := HM.picks (fs' := [.blk g3 #[.slice Aq3 ((tkRest (tkRest (tkRest l))).length) cq3] 22, .blk g6 #[.bool (((true && tkOk 63 l) && tkOk 281474976710656 (tkRest l)) && tkOk 4096 (tkRest (tkRest l)))] 4, .blk g8 #[.int .u8 ((1 : Nat) : Int), .int .u8 (tkVal 63 l : Int), .int .i64 (tkVal 281474976710656 (tkRest l) : Int), .int .i64 0, .slice none 0 0] 37]) [0, 1, 2] (by decide) rfl
          refine any_yl HF HS (i := 0) rfl rfl (d := 88) rfl (by decide) (by kernel_rfl) (fun _ _ _ h => h) (v := .agg #[.int .u8 ((1 : Nat) : Int), .int .u8 (tkVal 63 l : Int), .int .i64 (tkVal 281474976710656 (tkRest l) : Int), .int .i64 0, .slice none 0 0]) (Yl.loadS rfl rfl si_bk rfl (fun _ h => range_of_block (h.blk (i := 2) rfl))) ?_; clear HF; intro a HF
          refine any_yl HF HS (i := 1) rfl rfl (d := 89) rfl (by decide) (by kernel_rfl) (fun _ _ _ h => h) (v := .bool (((true && tkOk 63 l) && tkOk 281474976710656 (tkRest l)) && tkOk 4096 (tkRest (tkRest l)))) (Yl.load1 rfl rfl (by kernel_rfl) (fun _ h => h.cell (i := 1) rfl rfl)) ?_; clear HF; intro a HF
          refine any_pures HF (fun _ => HS) (fun _ _ d _ _ h => by cases d <;> exact h) [2] #[true, true, true, false, false, false, false, false, false, false, false, false, false] [(90, .bool (((true && tkOk 63 l) && tkOk 281474976710656 (tkRest l)) && tkOk 4096 (tkRest (tkRest l))))] (by kernel_rfl) ?_; clear HF; intro a HF
          rcases Bool.eq_false_or_eq_true ((((true && tkOk 63 l) && tkOk 281474976710656 (tkRest l)) && tkOk 4096 (tkRest (tkRest l)))) with hb90 | hb90
          · have HF := HF.as (t := 90) (u := .bool true) rfl (by rw [hb90])
            refine any_yl HF HS (i := 3) rfl rfl (d := 91) rfl (by decide) (by kernel_rfl) (fun _ _ _ h => h) (v := .slice Aq3 ((tkRest (tkRest (tkRest l))).length) cq3) (Yl.load1 rfl rfl (by kernel_rfl) (fun _ h => h.cell (i := 0) rfl rfl)) ?_; clear HF; intro a HF
            refine any_yl HF HS (i := 4) rfl rfl (d := 92) rfl (by decide) (by kernel_rfl) (fun _ _ _ h => h) (v := .int .i64 (((tkRest (tkRest (tkRest l))).length : Nat) : Int)) (Yl.len rfl rfl (by kernel_rfl)) ?_; clear HF; intro a HF
            refine any_pures HF (fun _ => HS) (fun _ _ d _ _ h => by cases d <;> exact h) [5, 6, 7] #[true, true, true, true, true, true, true, true, false, false, false, false, false] [(95, .bool (((((tkRest (tkRest (tkRest l))).length : Nat) : Int) : Int) == (0 : Int))), (94, .bool (((((tkRest (tkRest (tkRest l))).length : Nat) : Int) : Int) == (0 : Int))), (93, .bool (((((tkRest (tkRest (tkRest l))).length : Nat) : Int) : Int) == (0 : Int)))] (by kernel_rfl) ?_; clear HF; intro a HF
            rcases Bool.eq_false_or_eq_true (((((tkRest (tkRest (tkRest l))).length : Nat) : Int) : Int) == (0 : Int)) with hb95 | hb95
            · have HF := HF.as (t := 95) (u := .bool true) rfl (by rw [hb95])
              have hd95 := eq_of_beq hb95
              refine any_yl HF HS (i := 8) rfl rfl (d := 96) rfl (by decide) (by kernel_rfl) (fun _ _ _ h => h) (v := .agg #[.int .u8 ((1 : Nat) : Int), .int .u8 (tkVal 63 l : Int), .int .i64 (tkVal 281474976710656 (tkRest l) : Int), .int .i64 0, .slice none 0 0]) (Yl.loadS rfl rfl si_bk rfl (fun _ h => range_of_block (h.blk (i := 2) rfl))) ?_; clear HF; intro a HF
              refine any_all [9] (by kernel_rfl) rfl ?_
              refine all_cons ?_ all_nil
              refine any_op HF (i := 9) rfl rfl ?_
              refine e_call HF (vs := [.agg #[.int .u8 ((1 : Nat) : Int), .int .u8 (tkVal 63 l : Int), .int .i64 (tkVal 281474976710656 (tkRest l) : Int), .int .i64 0, .slice none 0 0]]) rfl (by kernel_rfl) (by kernel_rfl) rfl (by decide) (fits_any ⟨1, tkVal 63 l, (tkVal 281474976710656 (tkRest l) : Int), 0, []⟩ (evsOk (by omega) (by omega) (by simp)) none 0 B _ (hL.mem HM hB) (HM.le hB) Rd.nil (by show 0 ≤ _; omega)) ?_
              rintro _ w97 ⟨rfl, hbw⟩
              refine ⟨_, rfl, ?_⟩
              replace HM := HM.call hbw
              clear HF; intro a HF
              refine keepS (HM.picks [0, 1, 2] (by decide) rfl) (fun HS => ?_)
              refine any_pures HF (fun _ => HS) (fun _ _ d _ _ h => by cases d <;> exact h) [10] #[true, true, true, true, true, true, true, true, true, true, true, false, false] [(98, .bool (Bk.fits ⟨1, tkVal 63 l, (tkVal 281474976710656 (tkRest l) : Int), 0, []⟩))] (by kernel_rfl) ?_; clear HF; intro a HF
              refine any_all [11] (by kernel_rfl) rfl ?_
              refine all_cons ?_ all_nil
              refine any_op HF (i := 11) rfl rfl ?_
              refine e_storeAll HF HM (i := 3) (cs := #[.int .u8 0, .int .u8 0, .int .i64 0, .int .i64 0, .slice none 0 0]) (ds := #[.int .u8 ((1 : Nat) : Int), .int .u8 (tkVal 63 l : Int), .int .i64 (tkVal 281474976710656 (tkRest l) : Int), .int .i64 0, .slice none 0 0]) rfl rfl rfl rfl si_bk rfl rfl (by simp [Value.oneCell']) rfl ?_
              clear HM; intro w15_11 HM
              refine keepS (HM.picks [0, 1, 2] (by decide) rfl) (fun HS => ?_)
              refine any_pures HF (fun _ => HS) (fun _ _ d _ _ h => by cases d <;> exact h) [12] #[true, true, true, true, true, true, true, true, true, true, true, true, true] [(5, .bool (Bk.fits ⟨1, tkVal 63 l, (tkVal 281474976710656 (tkRest l) : Int), 0, []⟩))] (by kernel_rfl) ?_; clear HF; intro a HF
              refine any_done (by kernel_rfl) ?_
              replace HF := HF.sub (σ' := [(5, .bool (Bk.fits ⟨1, tkVal 63 l, (tkVal 281474976710656 (tkRest l) : Int), 0, []⟩)), (46, .bool false), (9, .int .i64 (tkVal 4096 (tkRest (tkRest l)) : Int)), (18, .bool false), (8, .pointer (some ⟨g8, 0, none⟩)), (7, .func (.func 59) #[] #[.pointer (some ⟨g3, 0, none⟩), .pointer (some ⟨g6, 0, none⟩)]), (6, .pointer (some ⟨g6, 0, none⟩)), (4, .pointer (some ⟨g4, 0, none⟩)), (3, .pointer (some ⟨g3, 0, none⟩)), (0, .int .u8 ((1 : Nat) : Int))]) (by kernel_rfl)
              have HF := HF.as (t := 5) (u := .bool ((parseEvs l).isSome)) rfl (congrArg Value.bool (by rw [few_is (l := l) (fun hh => by have h0 := hh.2; omega), h3, decide_eq_true (by omega), Bool.true_and, Bool.true_and]))
              exact ⟨HF.sub (by kernel_rfl), HM.picks [0, 1, 2, 3] (by decide) rfl⟩
            · have HF := HF.as (t := 95) (u := .bool false) rfl (by rw [hb95])
              have hd95 := ne_of_beq_false hb95
              refine any_pures HF (fun _ => HS) (fun _ _ d _ _ h => by cases d <;> exact h) [8, 9, 10] #[true, true, true, true, true, true, true, true, true, true, true, false, false] [(98, .bool false), (97, undef), (96, undef)] (by kernel_rfl) ?_; clear HF; intro a HF
              refine any_all [11] (by kernel_rfl) rfl ?_
              refine all_cons ?_ all_nil
              refine any_op HF (i := 11) rfl rfl ?_
              refine e_storeAll HF HM (i := 3) (cs := #[.int .u8 0, .int .u8 0, .int .i64 0, .int .i64 0, .slice none 0 0]) (ds := #[.int .u8 ((1 : Nat) : Int), .int .u8 (tkVal 63 l : Int), .int .i64 (tkVal 281474976710656 (tkRest l) : Int), .int .i64 0, .slice none 0 0]) rfl rfl rfl rfl si_bk rfl rfl (by simp [Value.oneCell']) rfl ?_
              clear HM; intro w15_11 HM
              refine keepS (HM.picks [0, 1, 2] (by decide) rfl) (fun HS => ?_)
              refine any_pures HF (fun _ => HS) (fun _ _ d _ _ h => by cases d <;> exact h) [12] #[true, true, true, true, true, true, true, true, true, true, true, true, true] [(5, .bool false)] (by kernel_rfl) ?_; clear HF; intro a HF
              refine any_done (by kernel_rfl) ?_
              replace HF := HF.sub (σ' := [(5, .bool false), (46, .bool false), (9, .int .i64 (tkVal 4096 (tkRest (tkRest l)) : Int)), (18, .bool false), (8, .pointer (some ⟨g8, 0, none⟩)), (7, .func (.func 59) #[] #[.pointer (some ⟨g3, 0, none⟩), .pointer (some ⟨g6, 0, none⟩)]), (6, .pointer (some ⟨g6, 0, none⟩)), (4, .pointer (some ⟨g4, 0, none⟩)), (3, .pointer (some ⟨g3, 0, none⟩)), (0, .int .u8 ((1 : Nat) : Int))]) (by kernel_rfl)
              have HF := HF.as (t := 5) (u := .bool ((parseEvs l).isSome)) rfl (congrArg Value.bool (by rw [few_is (l := l) (fun hh => by have h0 := hh.2; omega), decide_eq_false (by omega), Bool.false_and, Bool.and_false]))
              exact ⟨HF.sub (by kernel_rfl), HM.picks [0, 1, 2, 3] (by decide) rfl⟩
          · have HF := HF.as (t := 90) (u := .bool false) rfl (by rw [hb90])
            refine any_pures HF (fun _ => HS) (fun _ _ d _ _ h => by cases d <;> exact h) [3, 4, 5, 6, 7, 8, 9, 10] #[true, true, true, true, true, true, true, true, true, true, true, false, false] [(98, .bool false), (97, undef), (96, undef), (95, .bool false), (94, .bool false), (93, undef), (92, undef), (91, undef)] (by kernel_rfl) ?_; clear HF; intro a HF
            refine any_all [11] (by kernel_rfl) rfl ?_
            refine all_cons ?_ all_nil
            refine any_op HF (i := 11) rfl rfl ?_
            refine e_storeAll HF HM (i := 3) (cs := #[.int .u8 0, .int .u8 0, .int .i64 0, .int .i64 0, .slice none 0 0]) (ds := #[.int .u8 ((1 : Nat) : Int), .int .u8 (tkVal 63 l : Int), .int .i64 (tkVal 281474976710656 (tkRest l) : Int), .int .i64 0, .slice none 0 0]) rfl rfl rfl rfl si_bk rfl rfl (by simp [Value.oneCell']) rfl ?_
            clear HM; intro w15_11 HM
            refine keepS (HM.picks [0, 1, 2] (by decide) rfl) (fun HS => ?_)
            refine any_pures HF (fun _ => HS) (fun _ _ d _ _ h => by cases d <;> exact h) [12] #[true, true, true, true, true, true, true, true, true, true, true, true, true] [(5, .bool false)] (by kernel_rfl) ?_; clear HF; intro a HF
            refine any_done (by kernel_rfl) ?_
            replace HF := HF.sub (σ' := [(5, .bool false), (46, .bool false), (9, .int .i64 (tkVal 4096 (tkRest (tkRest l)) : Int)), (18, .bool false), (8, .pointer (some ⟨g8, 0, none⟩)), (7, .func (.func 59) #[] #[.pointer (some ⟨g3, 0, none⟩), .pointer (some ⟨g6, 0, none⟩)]), (6, .pointer (some ⟨g6, 0, none⟩)), (4, .pointer (some ⟨g4, 0, none⟩)), (3, .pointer (some ⟨g3, 0, none⟩)), (0, .int .u8 ((1 : Nat) : Int))]) (by kernel_rfl)
            have HF := HF.as (t := 5) (u := .bool ((parseEvs l).isSome)) rfl (congrArg Value.bool (by have h9 := hb90; rw [tk3] at h9; rw [few_is (l := l) (fun hh => by have h0 := hh.2; omega), h9, Bool.false_and]))
            exact ⟨HF.sub (by kernel_rfl), HM.picks [0, 1, 2, 3] (by decide) rfl⟩
        clear HF HM; rintro a w15 ⟨HF, HM⟩
        refine wp_ret ?_
        rcases Bool.eq_false_or_eq_true ((parseEvs l).isSome) with hb5 | hb5
        · have HF := HF.as (t := 5) (u := .bool true) rfl (by rw [hb5])
          have hfin := hb5
          exact ret2 rfl HF (.cellS (i := 3) HF HM rfl rfl si_bk rfl) (.tmp HF rfl) (parseIs_some (b := ⟨1, tkVal 63 l, (tkVal 281474976710656 (tkRest l) : Int), 0, []⟩) (A := none) (c := 0) (by rw [parseR_evs]; exact few_val (fun hh => by have h0 := hh.2; omega) hfin) (World.ownsRow_nil _ _ _ _) (Nat.le_refl _) HM.below)
        · have HF := HF.as (t := 5) (u := .bool false) rfl (by rw [hb5])
          have hfin := hb5
          exact ret2 rfl HF (.cellS (i := 3) HF HM rfl rfl si_bk rfl) (.tmp HF rfl) (parseIs_none (by rw [parseR_evs]; exact Option.not_isSome_iff_eq_none.1 (by rw [hfin]; decide)) rfl (by simp [Value.oneCell']) HM.below)
    · have HF := HF.as (t := 43) (u := .bool false) rfl (by rw [hb43])
      have h3 : parse3 l = false := by rw [← tk3]; exact hb43
      refine from_pures HF 3 2 (j := 5) [(46, .bool false), (45, undef), (44, undef)] (by kernel_rfl) rfl ?_; clear HF; intro a HF
      refine from_done rfl ?_
      replace HF := HF.sub (σ' := [(46, .bool false), (9, .int .i64 (tkVal 4096 (tkRest (tkRest l)) : Int)), (18, .bool false), (8, .pointer (some ⟨g8, 0, none⟩)), (7, .func (.func 59) #[] #[.pointer (some ⟨g3, 0, none⟩), .pointer (some ⟨g6, 0, none⟩)]), (6, .pointer (some ⟨g6, 0, none⟩)), (5, .bool false), (4, .pointer (some ⟨g4, 0, none⟩)), (3, .pointer (some ⟨g3, 0, none⟩)), (0, .int .u8 ((1 : Nat) : Int))]) (by kernel_rfl)
      refine cond_false HF rfl ?_
      refine wp_skip ?_
      refine cut_seq (fun aS wS => Fr aS 99 [] [(5, .bool ((parseEvs l).isSome)), (46, .bool false), (9, .int .i64 (tkVal 4096 (tkRest (tkRest l)) : Int)), (18, .bool false), (8, .pointer (some ⟨g8, 0, none⟩)), (7, .func (.func 59) #[] #[.pointer (some ⟨g3, 0, none⟩), .pointer (some ⟨g6, 0, none⟩)]), (6, .pointer (some ⟨g6, 0, none⟩)), (4, .pointer (some ⟨g4, 0, none⟩)), (3, .pointer (some ⟨g3, 0, none⟩)), (0, .int .u8 ((1 : Nat) : Int))] ∧ Mem w wS [.blk g3 #[.slice Aq3 ((tkRest (tkRest (tkRest l))).length) cq3] 22, .blk g6 #[.bool (((true && tkOk 63 l) && tkOk 281474976710656 (tkRest l)) && tkOk 4096 (tkRest (tkRest l)))] 4, .blk g8 #[.int .u8 ((1 : Nat) : Int), .int .u8 (tkVal 63 l : Int), .int .i64 (tkVal 281474976710656 (tkRest l) : Int), .int .i64 0, .slice none 0 0] 37, .blk g4 #[.int .u8 ((1 : Nat) : Int), .int .u8 (tkVal 63 l : Int), .int .i64 (tkVal 281474976710656 (tkRest l) : Int), .int .i64 0, .slice none 0 0] 37]) ?_ ?_
      ·
        refine any_start (by kernel_rfl) (fun wS => Mem w wS [.blk g3 #[.slice Aq3 ((tkRest (tkRest (tkRest l))).length) cq3] 22, .blk g6 #[.bool (((true && tkOk 63 l) && tkOk 281474976710656 (tkRest l)) && tkOk 4096 (tkRest (tkRest l)))] 4, .blk g8 #[.int .u8 ((1 : Nat) : Int), .int .u8 (tkVal 63 l : Int), .int .i64 (tkVal 281474976710656 (tkRest l) : Int), .int .i64 0, .slice none 0 0] 37]) [] ?_
        replace HM := HM.drew
        have HS := HM.picks (fs' := [.blk g3 #[.slice Aq3 ((tkRest (tkRest (tkRest l))).length) cq3] 22, .blk g6 #[.bool (((true && tkOk 63 l) && tkOk 281474976710656 (tkRest l)) && tkOk 4096 (tkRest (tkRest l)))] 4, .blk g8 #[.int .u8 ((1 : Nat) : Int), .int .u8 (tkVal 63 l : Int), .int .i64 (tkVal 281474976710656 (tkRest l) : Int), .int .i64 0, .slice none 0 0] 37]) [0, 1, 2] (by decide) rfl
        refine any_yl HF HS (i := 0) rfl rfl (d := 88) rfl (by decide) (by kernel_rfl) (fun _ _ _ h => h) (v := .agg #[.int .u8 ((1 : Nat) : Int), .int .u8 (tkVal 63 l : Int), .int .i64 (tkVal 281474976710656 (tkRest l) : Int), .int .i64 0, .slice none 0 0]) (Yl.loadS rfl rfl si_bk rfl (fun _ h => range_of_block (h.blk (i := 2) rfl))) ?_; clear HF; intro a HF
        refine any_yl HF HS (i := 1) rfl rfl (d := 89) rfl (by decide) (by kernel_rfl) (fun _ _ _ h => h) (v := .bool (((true && tkOk 63 l) && tkOk 281474976710656 (tkRest l)) && tkOk 4096 (tkRest (tkRest l)))) (Yl.load1 rfl rfl (by kernel_rfl) (fun _ h => h.cell (i := 1) rfl rfl)) ?_; clear HF; intro a HF
        refine any_pures HF (fun _ => HS) (fun _ _ d _ _ h => by cases d <;> exact h) [2] #[true, true, true, false, false, false, false, false, false, false, false, false, false] [(90, .bool (((true && tkOk 63 l) && tkOk 281474976710656 (tkRest l)) && tkOk 4096 (tkRest (tkRest l))))] (by kernel_rfl) ?_; clear HF; intro a HF
        rcases Bool.eq_false_or_eq_true ((((true && tkOk 63 l) && tkOk 281474976710656 (tkRest l)) && tkOk 4096 (tkRest (tkRest l)))) with hb90 | hb90
        · have HF := HF.as (t := 90) (u := .bool true) rfl (by rw [hb90])
          refine any_yl HF HS (i := 3) rfl rfl (d := 91) rfl (by decide) (by kernel_rfl) (fun _ _ _ h => h) (v := .slice Aq3 ((tkRest (tkRest (tkRest l))).length) cq3) (Yl.load1 rfl rfl (by kernel_rfl) (fun _ h => h.cell (i := 0) rfl rfl)) ?_; clear HF; intro a HF
          refine any_yl HF HS (i := 4) rfl rfl (d := 92) rfl (by decide) (by kernel_rfl) (fun _ _ _ h => h) (v := .int .i64 (((tkRest (tkRest (tkRest l))).length : Nat) : Int)) (Yl.len rfl rfl (by kernel_rfl)) ?_; clear HF; intro a HF
          refine any_pures HF (fun _ => HS) (fun _ _ d _ _ h => by cases d <;> exact h) [5, 6, 7] #[true, true, true, true, true, true, true, true, false, false, false, false, false] [(95, .bool (((((tkRest (tkRest (tkRest l))).length : Nat) : Int) : Int) == (0 : Int))), (94, .bool (((((tkRest (tkRest (tkRest l))).length : Nat) : Int) : Int) == (0 : Int))), (93, .bool (((((tkRest (tkRest (tkRest l))).length : Nat) : Int) : Int) == (0 : Int)))] (by kernel_rfl) ?_; clear HF; intro a HF
          rcases Bool.eq_false_or_eq_true (((((tkRest (tkRest (tkRest l))).length : Nat) : Int) : Int) == (0 : Int)) with hb95 | hb95
          · have HF := HF.as (t := 95) (u := .bool true) rfl (by rw [hb95])
            have hd95 := eq_of_beq hb95
            refine any_yl HF HS (i := 8) rfl rfl (d := 96) rfl (by decide) (by kernel_rfl) (fun _ _ _ h => h) (v := .agg #[.int .u8 ((1 : Nat) : Int), .int .u8 (tkVal 63 l : Int), .int .i64 (tkVal 281474976710656 (tkRest l) : Int), .int .i64 0, .slice none 0 0]) (Yl.loadS rfl rfl si_bk rfl (fun _ h => range_of_block (h.blk (i := 2) rfl))) ?_; clear HF; intro a HF
            refine any_all [9] (by kernel_rfl) rfl ?_
            refine all_cons ?_ all_nil
            refine any_op HF (i := 9) rfl rfl ?_
            refine e_call HF (vs := [.agg #[.int .u8 ((1 : Nat) : Int), .int .u8 (tkVal 63 l : Int), .int .i64 (tkVal 281474976710656 (tkRest l) : Int), .int .i64 0, .slice none 0 0]]) rfl (by kernel_rfl) (by kernel_rfl) rfl (by decide) (fits_any ⟨1, tkVal 63 l, (tkVal 281474976710656 (tkRest l) : Int), 0, []⟩ (evsOk (by omega) (by omega) (by simp)) none 0 B _ (hL.mem HM hB) (HM.le hB) Rd.nil (by show 0 ≤ _; omega)) ?_
            rintro _ w97 ⟨rfl, hbw⟩
            refine ⟨_, rfl, ?_⟩
            replace HM := HM.call hbw
            clear HF; intro a HF
            refine keepS (HM.picks [0, 1, 2] (by decide) rfl) (fun HS => ?_)
            refine any_pures HF (fun _ => HS) (fun _ _ d _ _ h => by cases d <;> exact h) [10] #[true, true, true, true, true, true, true, true, true, true, true, false, false] [(98, .bool (Bk.fits ⟨1, tkVal 63 l, (tkVal 281474976710656 (tkRest l) : Int), 0, []⟩))] (by kernel_rfl) ?_; clear HF; intro a HF
            refine any_all [11] (by kernel_rfl) rfl ?_
            refine all_cons ?_ all_nil
            refine any_op HF (i := 11) rfl rfl ?_
            refine e_storeAll HF HM (i := 3) (cs := #[.int .u8 0, .int .u8 0, .int .i64 0, .int .i64 0, .slice none 0 0]) (ds := #[.int .u8 ((1 : Nat) : Int), .int .u8 (tkVal 63 l : Int), .int .i64 (tkVal 281474976710656 (tkRest l) : Int), .int .i64 0, .slice none 0 0]) rfl rfl rfl rfl si_bk rfl rfl (by simp [Value.oneCell']) rfl ?_
            clear HM; intro w15_11 HM
            refine keepS (HM.picks [0, 1, 2] (by decide) rfl) (fun HS => ?_)
            refine any_pures HF (fun _ => HS) (fun _ _ d _ _ h => by cases d <;> exact h) [12] #[true, true, true, true, true, true, true, true, true, true, true, true, true] [(5, .bool (Bk.fits ⟨1, tkVal 63 l, (tkVal 281474976710656 (tkRest l) : Int), 0, []⟩))] (by kernel_rfl) ?_; clear HF; intro a HF
            refine any_done (by kernel_rfl) ?_
            replace HF := HF.sub (σ' := [(5, .bool (Bk.fits ⟨1, tkVal 63 l, (tkVal 281474976710656 (tkRest l) : Int), 0, []⟩)), (46, .bool false), (9, .int .i64 (tkVal 4096 (tkRest (tkRest l)) : Int)), (18, .bool false), (8, .pointer (some ⟨g8, 0, none⟩)), (7, .func (.func 59) #[] #[.pointer (some ⟨g3, 0, none⟩), .pointer (some ⟨g6, 0, none⟩)]), (6, .pointer (some ⟨g6, 0, none⟩)), (4, .pointer (some ⟨g4, 0, none⟩)), (3, .pointer (some ⟨g3, 0, none⟩)), (0, .int .u8 ((1 : Nat) : Int))]) (by kernel_rfl)
            have HF := HF.as (t := 5) (u := .bool ((parseEvs l).isSome)) rfl (congrArg Value.bool (by have h9 := hb90; rw [tk3, h3] at h9; cases h9))
            exact ⟨HF.sub (by kernel_rfl), HM.picks [0, 1, 2, 3] (by decide) rfl⟩
          · have HF := HF.as (t := 95) (u := .bool false) rfl (by rw [hb95])
            have hd95 := ne_of_beq_false hb95
            refine any_pures HF (fun _ => HS) (fun _ _ d _ _ h => by cases d <;> exact h) [8, 9, 10] #[true, true, true, true, true, true, true, true, true, true, true, false, false] [(98, .bool false), (97, undef), (96, undef)] (by kernel_rfl) ?_; clear HF; intro a HF
            refine any_all [11] (by kernel_rfl) rfl ?_
            refine all_cons ?_ all_nil
            refine any_op HF (i := 11) rfl rfl ?_
            refine e_storeAll HF HM (i := 3) (cs := #[.int .u8 0, .int .u8 0, .int .i64 0, .int .i64 0, .slice none 0 0]) (ds := #[.int .u8 ((1 : Nat) : Int), .int .u8 (tkVal 63 l : Int), .int .i64 (tkVal 281474976710656 (tkRest l) : Int), .int .i64 0, .slice none 0 0]) rfl rfl rfl rfl si_bk rfl rfl (by simp [Value.oneCell']) rfl ?_
            clear HM; intro w15_11 HM
            refine keepS (HM.picks [0, 1, 2] (by decide) rfl) (fun HS => ?_)
            refine any_pures HF (fun _ => HS) (fun _ _ d _ _ h => by cases d <;> exact h) [12] #[true, true, true, true, true, true, true, true, true, true, true, true, true] [(5, .bool false)] (by kernel_rfl) ?_; clear HF; intro a HF
            refine any_done (by kernel_rfl) ?_
            replace HF := HF.sub (σ' := [(5, .bool false), (46, .bool false), (9, .int .i64 (tkVal 4096 (tkRest (tkRest l)) : Int)), (18, .bool false), (8, .pointer (some ⟨g8, 0, none⟩)), (7, .func (.func 59) #[] #[.pointer (some ⟨g3, 0, none⟩), .pointer (some ⟨g6, 0, none⟩)]), (6, .pointer (some ⟨g6, 0, none⟩)), (4, .pointer (some ⟨g4, 0, none⟩)), (3, .pointer (some ⟨g3, 0, none⟩)), (0, .int .u8 ((1 : Nat) : Int))]) (by kernel_rfl)
            have HF := HF.as (t := 5) (u := .bool ((parseEvs l).isSome)) rfl (congrArg Value.bool (by have h9 := hb90; rw [tk3, h3] at h9; cases h9))
            exact ⟨HF.sub (by kernel_rfl), HM.picks [0, 1, 2, 3] (by decide) rfl⟩
        · have HF := HF.as (t := 90) (u := .bool false) rfl (by rw [hb90])
          refine any_pures HF (fun _ => HS) (fun _ _ d _ _ h => by cases d <;> exact h) [3, 4, 5, 6, 7, 8, 9, 10] #[true, true, true, true, true, true, true, true, true, true, true, false, false] [(98, .bool false), (97, undef), (96, undef), (95, .bool false), (94, .bool false), (93, undef), (92, undef), (91, undef)] (by kernel_rfl) ?_; clear HF; intro a HF
          refine any_all [11] (by kernel_rfl) rfl ?_
          refine all_cons ?_ all_nil
          refine any_op HF (i := 11) rfl rfl ?_
          refine e_storeAll HF HM (i := 3) (cs := #[.int .u8 0, .int .u8 0, .int .i64 0, .int .i64 0, .slice none 0 0]) (ds := #[.int .u8 ((1 : Nat) : Int), .int .u8 (tkVal 63 l : Int), .int .i64 (tkVal 281474976710656 (tkRest l) : Int), .int .i64 0, .slice none 0 0]) rfl rfl rfl rfl si_bk rfl rfl (by simp [Value.oneCell']) rfl ?_
          clear HM; intro w15_11 HM
          refine keepS (HM.picks [0, 1, 2] (by decide) rfl) (fun HS => ?_)
          refine any_pures HF (fun _ => HS) (fun _ _ d _ _ h => by cases d <;> exact h) [12] #[true, true, true, true, true, true, true, true, true, true, true, true, true] [(5, .bool false)] (by kernel_rfl) ?_; clear HF; intro a HF
          refine any_done (by kernel_rfl) ?_
          replace HF := HF.sub (σ' := [(5, .bool false), (46, .bool false), (9, .int .i64 (tkVal 4096 (tkRest (tkRest l)) : Int)), (18, .bool false), (8, .pointer (some ⟨g8, 0, none⟩)), (7, .func (.func 59) #[] #[.pointer (some ⟨g3, 0, none⟩), .pointer (some ⟨g6, 0, none⟩)]), (6, .pointer (some ⟨g6, 0, none⟩)), (4, .pointer (some ⟨g4, 0, none⟩)), (3, .pointer (some ⟨g3, 0, none⟩)), (0, .int .u8 ((1 : Nat) : Int))]) (by kernel_rfl)
          have HF := HF.as (t := 5) (u := .bool ((parseEvs l).isSome)) rfl (congrArg Value.bool (by have h9 := hb90; rw [tk3] at h9; rw [few_is (l := l) (fun hh => by rw [h3] at hh; cases hh.1), h9, Bool.false_and]))
          exact ⟨HF.sub (by kernel_rfl), HM.picks [0, 1, 2, 3] (by decide) rfl⟩
      clear HF HM; rintro a w15 ⟨HF, HM⟩
      refine wp_ret ?_
      rcases Bool.eq_false_or_eq_true ((parseEvs l).isSome) with hb5 | hb5
      · have HF := HF.as (t := 5) (u := .bool true) rfl (by rw [hb5])
        have hfin := hb5
        exact ret2 rfl HF (.cellS (i := 3) HF HM rfl rfl si_bk rfl) (.tmp HF rfl) (parseIs_some (b := ⟨1, tkVal 63 l, (tkVal 281474976710656 (tkRest l) : Int), 0, []⟩) (A := none) (c := 0) (by rw [parseR_evs]; exact few_val (fun hh => by rw [h3] at hh; cases hh.1) hfin) (World.ownsRow_nil _ _ _ _) (Nat.le_refl _) HM.below)
      · have HF := HF.as (t := 5) (u := .bool false) rfl (by rw [hb5])
        have hfin := hb5
        exact ret2 rfl HF (.cellS (i := 3) HF HM rfl rfl si_bk rfl) (.tmp HF rfl) (parseIs_none (by rw [parseR_evs]; exact Option.not_isSome_iff_eq_none.1 (by rw [hfin]; decide)) rfl (by simp [Value.oneCell']) HM.below)
end Go.Proofs.YtjpielapplglmaaDoor

/- Blocks: Read, Same: the walks. -/
set_option linter.all false
namespace Go.Proofs.YtjpielapplglmaaDoor
open Go.RowKit
set_option maxRecDepth 100000 in
set_option maxHeartbeats 4000000 in
theorem bread_any (A : Option Addr) (n cp : Nat) (l : List Nat) (B : Nat) (w : World) (hL : LaidX B w) (hB : B ≤ w.heap.size) (hr : Rd w w.heap.size 1 A n (l.map B8)) (hc : n ≤ cp) (hln : l.length = n) (hn : n ≤ 9223372036854775807) (hl : ∀ b ∈ l, b < 256) :
    Calls Tryd.prog 16 #[.slice A n cp] w (BReadIs 55 w (readB l)) := by
  refine calls_enter (vs := [.slice A n cp]) Tryd.func16 rfl rfl (by kernel_rfl) (σ0 := [(0, .slice A n cp)]) rfl ?_
  intro a HF
  have HM := Mem.start w
  refine wp_seq ?_
  refine from_start ?_
  refine from_op HF (i := 0) rfl rfl ?_
  refine e_alloc HF HM (cs := #[.int .u8 0, .int .u8 0, .int .i64 0, .int .i64 0, .slice none 0 0]) rfl (by kernel_rfl) rfl (by decide) ?_
  clear HF HM; intro a w2 g2 HF HM
  refine from_pures HF 2 1 (j := 3) [(4, .int .i64 0), (3, .int .i64 0)] (by kernel_rfl) rfl ?_; clear HF; intro a HF
  refine from_done rfl ?_
  refine wp_seq ?_
  refine from_start ?_
  refine from_pures HF 1 0 (j := 1) [(10, .slice A n cp)] (by kernel_rfl) rfl ?_; clear HF; intro a HF
  refine from_op HF (i := 1) rfl rfl ?_
  refine e_call HF (vs := [.slice A n cp]) rfl (by kernel_rfl) (by kernel_rfl) rfl (by decide) (length_any A n cp l _ (HM.old hr) hln hn hl) ?_
  rintro _ w11 ⟨rfl, hbw⟩
  refine ⟨_, rfl, ?_⟩
  replace HM := HM.call hbw
  clear HF; intro a HF
  refine from_pures HF 5 2 (j := 7) [(6, .int .i64 ((lenR l).2 : Int)), (5, .int .i64 ((lenR l).1 : Int)), (13, .int .i64 ((lenR l).2 : Int)), (12, .int .i64 ((lenR l).1 : Int)), (9, .tuple #[.int .i64 ((lenR l).1 : Int), .int .i64 ((lenR l).2 : Int)])] (by kernel_rfl) rfl ?_; clear HF; intro a HF
  refine from_done rfl ?_
  replace HF := HF.sub (σ' := [(6, .int .i64 ((lenR l).2 : Int)), (5, .int .i64 ((lenR l).1 : Int)), (4, .int .i64 0), (3, .int .i64 0), (2, .pointer (some ⟨g2, 0, none⟩)), (0, .slice A n cp)]) (by kernel_rfl)
  refine wp_seq ?_
  refine wp_seq ?_
  refine from_start ?_
  refine from_pures HF 2 0 (j := 2) [(15, .bool ((((lenR l).2 : Int) : Int) != (0 : Int))), (14, .int .i64 ((lenR l).2 : Int))] (by kernel_rfl) rfl ?_; clear HF; intro a HF
  refine from_done rfl ?_
  replace HF := HF.sub (σ' := [(15, .bool ((((lenR l).2 : Int) : Int) != (0 : Int))), (6, .int .i64 ((lenR l).2 : Int)), (5, .int .i64 ((lenR l).1 : Int)), (4, .int .i64 0), (3, .int .i64 0), (2, .pointer (some ⟨g2, 0, none⟩)), (0, .slice A n cp)]) (by kernel_rfl)
  rcases Bool.eq_false_or_eq_true ((((lenR l).2 : Int) : Int) != (0 : Int)) with hb15 | hb15
  · have HF := HF.as (t := 15) (u := .bool true) rfl (by rw [hb15])
    have hd15 := bne_iff_ne.1 hb15
    refine cond_true HF rfl ?_
    refine wp_seq ?_
    refine from_start ?_
    refine from_yl (S := fun wS => Mem w wS _) HF HM (i := 0) rfl rfl (d := 16) rfl (by decide) (v := .agg #[.int .u8 0, .int .u8 0, .int .i64 0, .int .i64 0, .slice none 0 0]) (Yl.build (vs := []) rfl (by kernel_rfl) (by kernel_rfl)) ?_; clear HF; intro a HF
    refine from_pures HF 1 1 (j := 2) [(17, .int .i64 ((lenR l).2 : Int))] (by kernel_rfl) rfl ?_; clear HF; intro a HF
    refine from_op HF (i := 2) rfl rfl ?_
    refine e_storeAll HF HM (i := 0) (cs := #[.int .u8 0, .int .u8 0, .int .i64 0, .int .i64 0, .slice none 0 0]) (ds := #[.int .u8 0, .int .u8 0, .int .i64 0, .int .i64 0, .slice none 0 0]) rfl rfl rfl rfl si_bk rfl rfl (by simp [Value.oneCell']) rfl ?_
    clear HM; intro w3_2 HM
    refine from_pures HF 2 3 (j := 5) [(4, .int .i64 ((lenR l).2 : Int)), (3, .int .i64 0)] (by kernel_rfl) rfl ?_; clear HF; intro a HF
    refine from_done rfl ?_
    replace HF := HF.sub (σ' := [(4, .int .i64 ((lenR l).2 : Int)), (3, .int .i64 0), (15, .bool true), (6, .int .i64 ((lenR l).2 : Int)), (5, .int .i64 ((lenR l).1 : Int)), (2, .pointer (some ⟨g2, 0, none⟩)), (0, .slice A n cp)]) (by kernel_rfl)
    refine wp_ret ?_
    exact ret3 rfl HF (.cellS (i := 0) HF HM rfl rfl si_bk rfl) (.tmp HF rfl) (.tmp HF rfl) (breadIs_bad (readB_len (by omega)) HM.below)
  · have HF := HF.as (t := 15) (u := .bool false) rfl (by rw [hb15])
    have hd15 := bne_eq_false_iff_eq.1 hb15
    have hl0 : (lenR l).2 = 0 := by omega
    obtain ⟨v1, v2, v3, v4⟩ := lenR_ok hl0
    obtain ⟨Lb, hLb⟩ : ∃ x, x = l.take (lenR l).1 := ⟨_, rfl⟩
    have hrL : Rd w w.heap.size 1 A (lenR l).1 (Lb.map B8) := by rw [hLb]; exact hr.toB8 (by omega)
    have hlL : ∀ b ∈ Lb, b < 256 := by rw [hLb]; exact take_lt hl _
    have hnL : Lb.length = (lenR l).1 := by rw [hLb, List.length_take]; omega
    refine cond_false HF rfl ?_
    refine wp_skip ?_
    refine wp_seq ?_
    refine from_start ?_
    refine from_pures HF 2 0 (j := 2) [(19, .int .i64 ((lenR l).1 : Int)), (18, .slice A n cp)] (by kernel_rfl) rfl ?_; clear HF; intro a HF
    refine from_yl (S := fun wS => Mem w wS _) HF HM (i := 2) rfl rfl (d := 20) rfl (by decide) (v := .slice A ((lenR l).1) cp) (Yl.sliceUpto ei_u8 (j := (lenR l).1) rfl rfl rfl (by omega)) ?_; clear HF; intro a HF
    refine from_pures HF 1 3 (j := 4) [(0, .slice A ((lenR l).1) cp)] (by kernel_rfl) rfl ?_; clear HF; intro a HF
    refine from_done rfl ?_
    replace HF := HF.sub (σ' := [(0, .slice A ((lenR l).1) cp), (15, .bool false), (6, .int .i64 ((lenR l).2 : Int)), (5, .int .i64 ((lenR l).1 : Int)), (4, .int .i64 0), (3, .int .i64 0), (2, .pointer (some ⟨g2, 0, none⟩))]) (by kernel_rfl)
    obtain ⟨gA, oA, rfl, _⟩ := hrL.some_at (Nat.lt_of_le_of_lt (Nat.zero_le _) (show 0 < (lenR l).1 from by omega)) (by decide)
    refine wp_seq ?_
    refine wp_block ?_
    refine wp_seq ?_
    refine from_start ?_
    refine from_pures HF 1 0 (j := 1) [(22, .slice (some ⟨gA, oA, none⟩) ((lenR l).1) cp)] (by kernel_rfl) rfl ?_; clear HF; intro a HF
    refine from_op HF (i := 1) rfl rfl ?_
    refine e_call HF (vs := [.slice (some ⟨gA, oA, none⟩) ((lenR l).1) cp]) rfl (by kernel_rfl) (by kernel_rfl) rfl (by decide) (sealed_any _ (lenR l).1 cp Lb B _ (hL.mem HM hB) (HM.le hB) (HM.old hrL) (by omega) hnL (by omega) hlL) ?_
    rintro _ w23 ⟨rfl, hbw⟩
    refine ⟨_, rfl, ?_⟩
    replace HM := HM.call hbw
    clear HF; intro a HF
    refine from_pures HF 2 2 (j := 4) [(21, .bool (!(sealedR Lb))), (24, .bool (!(sealedR Lb)))] (by kernel_rfl) rfl ?_; clear HF; intro a HF
    refine from_done rfl ?_
    replace HF := HF.sub (σ' := [(21, .bool (!(sealedR Lb))), (0, .slice (some ⟨gA, oA, none⟩) ((lenR l).1) cp), (15, .bool false), (6, .int .i64 ((lenR l).2 : Int)), (5, .int .i64 ((lenR l).1 : Int)), (4, .int .i64 0), (3, .int .i64 0), (2, .pointer (some ⟨g2, 0, none⟩))]) (by kernel_rfl)
    rcases Bool.eq_false_or_eq_true (!(sealedR Lb)) with hb21 | hb21
    · have HF := HF.as (t := 21) (u := .bool true) rfl (by rw [hb21])
      have hs : sealedR Lb = false := by simpa using hb21
      refine cond_true HF rfl ?_
      refine wp_seq ?_
      refine from_start ?_
      refine from_yl (S := fun wS => Mem w wS _) HF HM (i := 0) rfl rfl (d := 25) rfl (by decide) (v := .agg #[.int .u8 0, .int .u8 0, .int .i64 0, .int .i64 0, .slice none 0 0]) (Yl.build (vs := []) rfl (by kernel_rfl) (by kernel_rfl)) ?_; clear HF; intro a HF
      refine from_op HF (i := 1) rfl rfl ?_
      refine e_storeAll HF HM (i := 0) (cs := #[.int .u8 0, .int .u8 0, .int .i64 0, .int .i64 0, .slice none 0 0]) (ds := #[.int .u8 0, .int .u8 0, .int .i64 0, .int .i64 0, .slice none 0 0]) rfl rfl rfl rfl si_bk rfl rfl (by simp [Value.oneCell']) rfl ?_
      clear HM; intro w6_1 HM
      refine from_pures HF 2 2 (j := 4) [(4, .int .i64 102), (3, .int .i64 0)] (by kernel_rfl) rfl ?_; clear HF; intro a HF
      refine from_done rfl ?_
      replace HF := HF.sub (σ' := [(4, .int .i64 102), (3, .int .i64 0), (21, .bool true), (0, .slice (some ⟨gA, oA, none⟩) ((lenR l).1) cp), (15, .bool false), (6, .int .i64 ((lenR l).2 : Int)), (5, .int .i64 ((lenR l).1 : Int)), (2, .pointer (some ⟨g2, 0, none⟩))]) (by kernel_rfl)
      refine wp_ret ?_
      exact ret3 rfl HF (.cellS (i := 0) HF HM rfl rfl si_bk rfl) (.tmp HF rfl) (.tmp HF rfl) (breadIs_bad (readB_none hl0 hLb (by unfold blkOf; rw [if_pos hs])) HM.below)
    · have HF := HF.as (t := 21) (u := .bool false) rfl (by rw [hb21])
      have hs : sealedR Lb = true := by simpa using hb21
      refine cond_false HF rfl ?_
      refine wp_seq ?_
      refine any_start (by kernel_rfl) (fun wS => Mem w wS [.blk g2 #[.int .u8 0, .int .u8 0, .int .i64 0, .int .i64 0, .slice none 0 0] 37]) [] ?_
      replace HM := HM.drew
      have HS := HM.picks (fs' := [.blk g2 #[.int .u8 0, .int .u8 0, .int .i64 0, .int .i64 0, .slice none 0 0] 37]) [0] (by decide) rfl
      refine any_pures HF (fun _ => HS) (fun _ _ d _ _ h => by cases d <;> exact h) [0] #[true, false, false, false, false, false, false] [(27, .slice (some ⟨gA, oA, none⟩) ((lenR l).1) cp)] (by kernel_rfl) ?_; clear HF; intro a HF
      refine any_yl HF HS (i := 1) rfl rfl (d := 28) rfl (by decide) (by kernel_rfl) (fun _ _ _ h => h) (v := .slice (if cp = 4 then some ⟨gA, oA, none⟩ else (some ⟨gA, oA, none⟩ : Option Addr).map (·.add (4 * 1))) (6 - 4) (cp - 4)) (Yl.slice2 ei_u8 (i := 4) (j := 6) rfl rfl rfl rfl (by omega) (by omega)) ?_; clear HF; intro a HF
      replace HF := HF.as (t := 28) (u := .slice (some ⟨gA, oA + 4, none⟩) (6 - 4) (cp - 4)) rfl (by simp only [if_neg (show ¬ cp = 4 by omega), Option.map_some, Addr.add_mid, Nat.mul_one])
      refine any_yl HF HS (i := 2) rfl rfl (d := 29) rfl (by decide) (by kernel_rfl) (fun _ _ _ h => h) (v := .pointer (some ⟨gA, oA + 4, none⟩)) (Yl.arrayAt (k := 2) rfl rfl (by kernel_rfl) (by omega)) ?_; clear HF; intro a HF
      refine any_yl HF HS (i := 3) rfl rfl (d := 30) rfl (by decide) (by kernel_rfl) (fun _ _ _ h => h) (v := .agg #[.int .u8 (Lb.getD 4 0 : Int), .int .u8 (Lb.getD 5 0 : Int)]) (Yl.loadS rfl rfl si_a2 rfl (fun _ h => arr2At (k := 4) (l := Lb) (h.old hrL) (by omega))) ?_; clear HF; intro a HF
      refine any_yl HF HS (i := 4) rfl rfl (d := 31) rfl (by decide) (by kernel_rfl) (fun _ _ _ h => h) (v := .agg #[.int .u8 113, .int .u8 116]) (Yl.loadS rfl rfl si_a2 rfl (fun _ h => magicAll hL h hB)) ?_; clear HF; intro a HF
      refine any_yl HF HS (i := 5) rfl rfl (d := 32) rfl (by decide) (by kernel_rfl) (fun _ _ _ h => h) (v := .bool (!((((Lb.getD 4 0 : Int) : Int) == (113 : Int)) && (((Lb.getD 5 0 : Int) : Int) == (116 : Int))))) (Yl.neqArr2 rfl rfl rfl (by kernel_rfl) (by kernel_rfl)) ?_; clear HF; intro a HF
      refine any_pures HF (fun _ => HS) (fun _ _ d _ _ h => by cases d <;> exact h) [6] #[true, true, true, true, true, true, true] [(26, .bool (!((((Lb.getD 4 0 : Int) : Int) == (113 : Int)) && (((Lb.getD 5 0 : Int) : Int) == (116 : Int)))))] (by kernel_rfl) ?_; clear HF; intro a HF
      refine any_done (by kernel_rfl) ?_
      replace HF := HF.sub (σ' := [(26, .bool (!((((Lb.getD 4 0 : Int) : Int) == (113 : Int)) && (((Lb.getD 5 0 : Int) : Int) == (116 : Int))))), (21, .bool false), (0, .slice (some ⟨gA, oA, none⟩) ((lenR l).1) cp), (15, .bool false), (6, .int .i64 ((lenR l).2 : Int)), (5, .int .i64 ((lenR l).1 : Int)), (4, .int .i64 0), (3, .int .i64 0), (2, .pointer (some ⟨g2, 0, none⟩))]) (by kernel_rfl)
      rcases Bool.eq_false_or_eq_true (!((((Lb.getD 4 0 : Int) : Int) == (113 : Int)) && (((Lb.getD 5 0 : Int) : Int) == (116 : Int)))) with hb26 | hb26
      · have HF := HF.as (t := 26) (u := .bool true) rfl (by rw [hb26])
        simp only [Bool.not_eq_true', Bool.and_eq_false_iff, beq_eq_false_iff_ne] at hb26
        have hmg : ¬ (Lb.getD 4 0 = 113 ∧ Lb.getD 5 0 = 116) := by omega
        refine cond_true HF rfl ?_
        refine wp_seq ?_
        refine from_start ?_
        refine from_yl (S := fun wS => Mem w wS _) HF HM (i := 0) rfl rfl (d := 33) rfl (by decide) (v := .agg #[.int .u8 0, .int .u8 0, .int .i64 0, .int .i64 0, .slice none 0 0]) (Yl.build (vs := []) rfl (by kernel_rfl) (by kernel_rfl)) ?_; clear HF; intro a HF
        refine from_op HF (i := 1) rfl rfl ?_
        refine e_storeAll HF HM (i := 0) (cs := #[.int .u8 0, .int .u8 0, .int .i64 0, .int .i64 0, .slice none 0 0]) (ds := #[.int .u8 0, .int .u8 0, .int .i64 0, .int .i64 0, .slice none 0 0]) rfl rfl rfl rfl si_bk rfl rfl (by simp [Value.oneCell']) rfl ?_
        clear HM; intro w8_1 HM
        refine from_pures HF 2 2 (j := 4) [(4, .int .i64 103), (3, .int .i64 0)] (by kernel_rfl) rfl ?_; clear HF; intro a HF
        refine from_done rfl ?_
        replace HF := HF.sub (σ' := [(4, .int .i64 103), (3, .int .i64 0), (26, .bool true), (21, .bool false), (0, .slice (some ⟨gA, oA, none⟩) ((lenR l).1) cp), (15, .bool false), (6, .int .i64 ((lenR l).2 : Int)), (5, .int .i64 ((lenR l).1 : Int)), (2, .pointer (some ⟨g2, 0, none⟩))]) (by kernel_rfl)
        refine wp_ret ?_
        exact ret3 rfl HF (.cellS (i := 0) HF HM rfl rfl si_bk rfl) (.tmp HF rfl) (.tmp HF rfl) (breadIs_bad (readB_none hl0 hLb (by unfold blkOf; rw [if_neg (by rw [hs]; decide), if_pos hmg])) HM.below)
      · have HF := HF.as (t := 26) (u := .bool false) rfl (by rw [hb26])
        simp only [Bool.not_eq_false', Bool.and_eq_true, beq_iff_eq] at hb26
        have hmg : Lb.getD 4 0 = 113 ∧ Lb.getD 5 0 = 116 := by omega
        refine cond_false HF rfl ?_
        refine wp_seq ?_
        refine from_start ?_
        refine from_pures HF 1 0 (j := 1) [(35, .slice (some ⟨gA, oA, none⟩) ((lenR l).1) cp)] (by kernel_rfl) rfl ?_; clear HF; intro a HF
        refine from_yl (S := fun wS => Mem w wS _) HF HM (i := 1) rfl rfl (d := 36) rfl (by decide) (v := .pointer (some ⟨gA, oA + 6, none⟩)) (Yl.indexAddr (ad := ⟨gA, oA, none⟩) (y := 6) (sz := 1) rfl rfl rfl (by omega) (by kernel_rfl)) ?_; clear HF; intro a HF
        have hx132 := getD_lt hlL (k := 6) (by first | omega | (simp; omega))
        refine from_yl (S := fun wS => Mem w wS _) HF HM (i := 2) rfl rfl (d := 37) rfl (by decide) (v := .int .u8 ((Lb.getD 6 0) : Int)) (Yl.load1 rfl rfl (by kernel_rfl) (fun _ h => (h.old hrL).oneAt1 (k := 6) (map_at (F := B8) (k := 6) (x := (Lb.getD 6 0)) ((getD_at 0 (k := 6) (by first | omega | (simp; omega))))))) ?_; clear HF; intro a HF
        refine from_pures HF 2 3 (j := 5) [(34, .bool ((((Lb.getD 6 0) : Int) : Int) != (1 : Int))), (38, .bool ((((Lb.getD 6 0) : Int) : Int) != (1 : Int)))] (by kernel_rfl) rfl ?_; clear HF; intro a HF
        refine from_done rfl ?_
        replace HF := HF.sub (σ' := [(34, .bool ((((Lb.getD 6 0) : Int) : Int) != (1 : Int))), (26, .bool false), (21, .bool false), (0, .slice (some ⟨gA, oA, none⟩) ((lenR l).1) cp), (15, .bool false), (6, .int .i64 ((lenR l).2 : Int)), (5, .int .i64 ((lenR l).1 : Int)), (4, .int .i64 0), (3, .int .i64 0), (2, .pointer (some ⟨g2, 0, none⟩))]) (by kernel_rfl)
        rcases Bool.eq_false_or_eq_true ((((Lb.getD 6 0) : Int) : Int) != (1 : Int)) with hb34 | hb34
        · have HF := HF.as (t := 34) (u := .bool true) rfl (by rw [hb34])
          have hd34 := bne_iff_ne.1 hb34
          refine cond_true HF rfl ?_
          refine wp_seq ?_
          refine from_start ?_
          refine from_yl (S := fun wS => Mem w wS _) HF HM (i := 0) rfl rfl (d := 39) rfl (by decide) (v := .agg #[.int .u8 0, .int .u8 0, .int .i64 0, .int .i64 0, .slice none 0 0]) (Yl.build (vs := []) rfl (by kernel_rfl) (by kernel_rfl)) ?_; clear HF; intro a HF
          refine from_op HF (i := 1) rfl rfl ?_
          refine e_storeAll HF HM (i := 0) (cs := #[.int .u8 0, .int .u8 0, .int .i64 0, .int .i64 0, .slice none 0 0]) (ds := #[.int .u8 0, .int .u8 0, .int .i64 0, .int .i64 0, .slice none 0 0]) rfl rfl rfl rfl si_bk rfl rfl (by simp [Value.oneCell']) rfl ?_
          clear HM; intro w10_1 HM
          refine from_pures HF 2 2 (j := 4) [(4, .int .i64 104), (3, .int .i64 0)] (by kernel_rfl) rfl ?_; clear HF; intro a HF
          refine from_done rfl ?_
          replace HF := HF.sub (σ' := [(4, .int .i64 104), (3, .int .i64 0), (34, .bool true), (26, .bool false), (21, .bool false), (0, .slice (some ⟨gA, oA, none⟩) ((lenR l).1) cp), (15, .bool false), (6, .int .i64 ((lenR l).2 : Int)), (5, .int .i64 ((lenR l).1 : Int)), (2, .pointer (some ⟨g2, 0, none⟩))]) (by kernel_rfl)
          refine wp_ret ?_
          exact ret3 rfl HF (.cellS (i := 0) HF HM rfl rfl si_bk rfl) (.tmp HF rfl) (.tmp HF rfl) (breadIs_bad (readB_none hl0 hLb (by unfold blkOf; rw [if_neg (by rw [hs]; decide), if_neg (fun hh => hh hmg), if_pos (by omega)])) HM.below)
        · have HF := HF.as (t := 34) (u := .bool false) rfl (by rw [hb34])
          have hd34 := bne_eq_false_iff_eq.1 hb34
          refine cond_false HF rfl ?_
          refine wp_seq ?_
          refine from_start ?_
          refine from_pures HF 1 0 (j := 1) [(41, .slice (some ⟨gA, oA, none⟩) ((lenR l).1) cp)] (by kernel_rfl) rfl ?_; clear HF; intro a HF
          refine from_yl (S := fun wS => Mem w wS _) HF HM (i := 1) rfl rfl (d := 42) rfl (by decide) (v := .pointer (some ⟨gA, oA + 7, none⟩)) (Yl.indexAddr (ad := ⟨gA, oA, none⟩) (y := 7) (sz := 1) rfl rfl rfl (by omega) (by kernel_rfl)) ?_; clear HF; intro a HF
          have hx159 := getD_lt hlL (k := 7) (by first | omega | (simp; omega))
          refine from_yl (S := fun wS => Mem w wS _) HF HM (i := 2) rfl rfl (d := 43) rfl (by decide) (v := .int .u8 ((Lb.getD 7 0) : Int)) (Yl.load1 rfl rfl (by kernel_rfl) (fun _ h => (h.old hrL).oneAt1 (k := 7) (map_at (F := B8) (k := 7) (x := (Lb.getD 7 0)) ((getD_at 0 (k := 7) (by first | omega | (simp; omega))))))) ?_; clear HF; intro a HF
          refine from_pures HF 2 3 (j := 5) [(45, .bool ((((Lb.getD 7 0) : Int) : Int) != (1 : Int))), (44, .bool ((((Lb.getD 7 0) : Int) : Int) != (1 : Int)))] (by kernel_rfl) rfl ?_; clear HF; intro a HF
          rcases Bool.eq_false_or_eq_true ((((Lb.getD 7 0) : Int) : Int) != (1 : Int)) with hb45 | hb45
          · have HF := HF.as (t := 45) (u := .bool true) rfl (by rw [hb45])
            have hd45 := bne_iff_ne.1 hb45
            refine from_pures HF 1 5 (j := 6) [(46, .slice (some ⟨gA, oA, none⟩) ((lenR l).1) cp)] (by kernel_rfl) rfl ?_; clear HF; intro a HF
            refine from_yl (S := fun wS => Mem w wS _) HF HM (i := 6) rfl rfl (d := 47) rfl (by decide) (v := .pointer (some ⟨gA, oA + 7, none⟩)) (Yl.indexAddr (ad := ⟨gA, oA, none⟩) (y := 7) (sz := 1) rfl rfl rfl (by omega) (by kernel_rfl)) ?_; clear HF; intro a HF
            have hx167 := getD_lt hlL (k := 7) (by first | omega | (simp; omega))
            refine from_yl (S := fun wS => Mem w wS _) HF HM (i := 7) rfl rfl (d := 48) rfl (by decide) (v := .int .u8 ((Lb.getD 7 0) : Int)) (Yl.load1 rfl rfl (by kernel_rfl) (fun _ h => (h.old hrL).oneAt1 (k := 7) (map_at (F := B8) (k := 7) (x := (Lb.getD 7 0)) ((getD_at 0 (k := 7) (by first | omega | (simp; omega))))))) ?_; clear HF; intro a HF
            refine from_pures HF 3 8 (j := 11) [(40, .bool ((((Lb.getD 7 0) : Int) : Int) != (2 : Int))), (50, .bool ((((Lb.getD 7 0) : Int) : Int) != (2 : Int))), (49, .bool ((((Lb.getD 7 0) : Int) : Int) != (2 : Int)))] (by kernel_rfl) rfl ?_; clear HF; intro a HF
            refine from_done rfl ?_
            replace HF := HF.sub (σ' := [(40, .bool ((((Lb.getD 7 0) : Int) : Int) != (2 : Int))), (34, .bool false), (26, .bool false), (21, .bool false), (0, .slice (some ⟨gA, oA, none⟩) ((lenR l).1) cp), (15, .bool false), (6, .int .i64 ((lenR l).2 : Int)), (5, .int .i64 ((lenR l).1 : Int)), (4, .int .i64 0), (3, .int .i64 0), (2, .pointer (some ⟨g2, 0, none⟩))]) (by kernel_rfl)
            rcases hp : parseR (Lb.getD 7 0) ((Lb.take (Lb.length - 4)).drop 8) with _ | b
            ·
              rcases Bool.eq_false_or_eq_true ((((Lb.getD 7 0) : Int) : Int) != (2 : Int)) with hb40 | hb40
              · have HF := HF.as (t := 40) (u := .bool true) rfl (by rw [hb40])
                have hd40 := bne_iff_ne.1 hb40
                have hkd : Lb.getD 7 0 ≠ 1 ∧ Lb.getD 7 0 ≠ 2 := by omega
                refine cond_true HF rfl ?_
                refine wp_seq ?_
                refine from_start ?_
                refine from_yl (S := fun wS => Mem w wS _) HF HM (i := 0) rfl rfl (d := 51) rfl (by decide) (v := .agg #[.int .u8 0, .int .u8 0, .int .i64 0, .int .i64 0, .slice none 0 0]) (Yl.build (vs := []) rfl (by kernel_rfl) (by kernel_rfl)) ?_; clear HF; intro a HF
                refine from_op HF (i := 1) rfl rfl ?_
                refine e_storeAll HF HM (i := 0) (cs := #[.int .u8 0, .int .u8 0, .int .i64 0, .int .i64 0, .slice none 0 0]) (ds := #[.int .u8 0, .int .u8 0, .int .i64 0, .int .i64 0, .slice none 0 0]) rfl rfl rfl rfl si_bk rfl rfl (by simp [Value.oneCell']) rfl ?_
                clear HM; intro w12_1 HM
                refine from_pures HF 2 2 (j := 4) [(4, .int .i64 105), (3, .int .i64 0)] (by kernel_rfl) rfl ?_; clear HF; intro a HF
                refine from_done rfl ?_
                replace HF := HF.sub (σ' := [(4, .int .i64 105), (3, .int .i64 0), (40, .bool true), (34, .bool false), (26, .bool false), (21, .bool false), (0, .slice (some ⟨gA, oA, none⟩) ((lenR l).1) cp), (15, .bool false), (6, .int .i64 ((lenR l).2 : Int)), (5, .int .i64 ((lenR l).1 : Int)), (2, .pointer (some ⟨g2, 0, none⟩))]) (by kernel_rfl)
                refine wp_ret ?_
                exact ret3 rfl HF (.cellS (i := 0) HF HM rfl rfl si_bk rfl) (.tmp HF rfl) (.tmp HF rfl) (breadIs_bad (readB_none hl0 hLb (by unfold blkOf; rw [if_neg (by rw [hs]; decide), if_neg (fun hh => hh hmg), if_neg (by omega), if_pos hkd])) HM.below)
              · have HF := HF.as (t := 40) (u := .bool false) rfl (by rw [hb40])
                have hd40 := bne_eq_false_iff_eq.1 hb40
                have hkd : Lb.getD 7 0 = 1 ∨ Lb.getD 7 0 = 2 := by omega
                refine cond_false HF rfl ?_
                refine wp_skip ?_
                refine cut_seq (fun aS wS => ∃ (cs : Array Value) (g7 : Nat), Fr aS 68 [] [(8, .bool false), (7, .pointer (some ⟨g7, 0, none⟩)), (40, .bool false), (34, .bool false), (26, .bool false), (21, .bool false), (0, .slice (some ⟨gA, oA, none⟩) ((lenR l).1) cp), (15, .bool false), (6, .int .i64 ((lenR l).2 : Int)), (5, .int .i64 ((lenR l).1 : Int)), (4, .int .i64 0), (3, .int .i64 0), (2, .pointer (some ⟨g2, 0, none⟩))] ∧ Mem w wS [.blk g7 cs 37, .blk g2 #[.int .u8 0, .int .u8 0, .int .i64 0, .int .i64 0, .slice none 0 0] 37] ∧ (cs.size = 5) ∧ (∀ v ∈ cs.toList, v.oneCell' = true)) ?_ ?_
                ·
                  refine any_start (by kernel_rfl) (fun wS => Mem w wS [.blk g2 #[.int .u8 0, .int .u8 0, .int .i64 0, .int .i64 0, .slice none 0 0] 37]) [12] ?_
                  replace HM := HM.drew
                  have HS := HM.picks (fs' := [.blk g2 #[.int .u8 0, .int .u8 0, .int .i64 0, .int .i64 0, .slice none 0 0] 37]) [0] (by decide) rfl
                  refine any_pures HF (fun _ => HS) (fun _ _ d _ _ h => by cases d <;> exact h) [0, 3, 4] #[true, false, false, true, true, false, false, false, false, false, false, false, false, false] [(57, .int .i64 ((lenR l).1 : Int)), (56, .slice (some ⟨gA, oA, none⟩) ((lenR l).1) cp), (53, .slice (some ⟨gA, oA, none⟩) ((lenR l).1) cp)] (by kernel_rfl) ?_; clear HF; intro a HF
                  refine any_yl HF HS (i := 1) rfl rfl (d := 54) rfl (by decide) (by kernel_rfl) (fun _ _ _ h => h) (v := .pointer (some ⟨gA, oA + 7, none⟩)) (Yl.indexAddr (ad := ⟨gA, oA, none⟩) (y := 7) (sz := 1) rfl rfl rfl (by omega) (by kernel_rfl)) ?_; clear HF; intro a HF
                  have hx202 := getD_lt hlL (k := 7) (by first | omega | (simp; omega))
                  refine any_yl HF HS (i := 2) rfl rfl (d := 55) rfl (by decide) (by kernel_rfl) (fun _ _ _ h => h) (v := .int .u8 ((Lb.getD 7 0) : Int)) (Yl.load1 rfl rfl (by kernel_rfl) (fun _ h => (h.old hrL).oneAt1 (k := 7) (map_at (F := B8) (k := 7) (x := (Lb.getD 7 0)) ((getD_at 0 (k := 7) (by first | omega | (simp; omega))))))) ?_; clear HF; intro a HF
                  refine any_pure HF (fun _ => HS) (i := 5) rfl rfl (d := 58) rfl (by decide) (by kernel_rfl) (fun _ _ _ h => h) (v := .int .i64 (IntKind.i64.wrap (((lenR l).1 : Int) - 4))) (fun _ => Yl.pure (by kernel_rfl)) ?_; clear HF; intro a HF
                  replace HF := HF.as (t := 58) (u := .int .i64 (((lenR l).1 - 4 : Nat) : Int)) rfl (i64_nat (by omega) (by omega))
                  refine any_yl HF HS (i := 6) rfl rfl (d := 59) rfl (by decide) (by kernel_rfl) (fun _ _ _ h => h) (v := .slice (if cp = 8 then some ⟨gA, oA, none⟩ else (some ⟨gA, oA, none⟩ : Option Addr).map (·.add (8 * 1))) (((lenR l).1 - 4) - 8) (cp - 8)) (Yl.slice2 ei_u8 (i := 8) (j := (lenR l).1 - 4) rfl rfl rfl rfl (by omega) (by omega)) ?_; clear HF; intro a HF
                  refine any_all [7, 11] (by kernel_rfl) rfl ?_
                  refine all_cons ?_ ?_
                  · refine any_op HF (i := 7) rfl rfl ?_
                    refine e_call HF (vs := [.int .u8 ((Lb.getD 7 0) : Int), .slice (if cp = 8 then some ⟨gA, oA, none⟩ else (some ⟨gA, oA, none⟩ : Option Addr).map (·.add (8 * 1))) (((lenR l).1 - 4) - 8) (cp - 8)]) rfl (by kernel_rfl) (by kernel_rfl) rfl (by decide) ((parse_any (Lb.getD 7 0) hkd _ (((lenR l).1 - 4) - 8) (cp - 8) ((Lb.take (Lb.length - 4)).drop 8) B _ (hL.mem HM hB) (HM.le hB) (HM.old (by rw [hnL]; exact hrL.midB8 (i := 8) (j := (lenR l).1 - 4) (by omega) (by omega) (by omega))) (by omega) (by rw [List.length_drop, List.length_take]; omega) (by omega) (drop_lt (take_lt hlL _) _)).mono (fun _ _ h => h.none hp)) ?_
                    rintro _ w60 ⟨⟨cs, rfl, hs5, h1⟩, hbw⟩
                    refine ⟨_, rfl, ?_⟩
                    replace HM := HM.call hbw
                    clear HF; intro a HF
                    refine keepS (HM.picks [0] (by decide) rfl) (fun HS => ?_)
                    refine any_pures HF (fun _ => HS) (fun _ _ d _ _ h => by cases d <;> exact h) [8, 9, 10] #[true, true, true, true, true, true, true, true, true, true, true, false, false, false] [(62, .bool false), (61, .agg cs), (52, .tuple #[.agg cs, .bool false])] (by kernel_rfl) ?_; clear HF; intro a HF
                    refine any_all [11] (by kernel_rfl) rfl ?_
                    refine all_cons ?_ all_nil
                    refine any_op HF (i := 11) rfl rfl ?_
                    refine e_alloc HF HM (cs := #[.int .u8 0, .int .u8 0, .int .i64 0, .int .i64 0, .slice none 0 0]) rfl (by kernel_rfl) rfl (by decide) ?_
                    clear HF HM; intro a w7 g7 HF HM
                    refine keepS (HM.picks [1] (by decide) rfl) (fun HS => ?_)
                    refine any_all [12] (by kernel_rfl) rfl ?_
                    refine all_cons ?_ all_nil
                    refine any_op HF (i := 12) rfl rfl ?_
                    refine e_storeAll HF HM (i := 0) (cs := #[.int .u8 0, .int .u8 0, .int .i64 0, .int .i64 0, .slice none 0 0]) (ds := cs) rfl rfl rfl rfl si_bk rfl hs5 (h1) rfl ?_
                    clear HM; intro w13_12 HM
                    refine noS (by kernel_rfl) ?_
                    refine any_pures HF (pastS (by kernel_rfl)) (fun _ _ d _ _ h => by cases d <;> exact h) [13] #[true, true, true, true, true, true, true, true, true, true, true, true, true, true] [(8, .bool false)] (by kernel_rfl) ?_; clear HF; intro a HF
                    refine any_done (by kernel_rfl) ?_
                    replace HF := HF.sub (σ' := [(8, .bool false), (7, .pointer (some ⟨g7, 0, none⟩)), (40, .bool false), (34, .bool false), (26, .bool false), (21, .bool false), (0, .slice (some ⟨gA, oA, none⟩) ((lenR l).1) cp), (15, .bool false), (6, .int .i64 ((lenR l).2 : Int)), (5, .int .i64 ((lenR l).1 : Int)), (4, .int .i64 0), (3, .int .i64 0), (2, .pointer (some ⟨g2, 0, none⟩))]) (by kernel_rfl)
                    exact ⟨cs, g7, HF.sub (by kernel_rfl), HM.picks [0, 1] (by decide) rfl, hs5, h1⟩
                  refine all_cons ?_ all_nil
                  refine any_op HF (i := 11) rfl rfl ?_
                  refine e_alloc HF HM (cs := #[.int .u8 0, .int .u8 0, .int .i64 0, .int .i64 0, .slice none 0 0]) rfl (by kernel_rfl) rfl (by decide) ?_
                  clear HF HM; intro a w7 g7 HF HM
                  refine keepS (HM.picks [1] (by decide) rfl) (fun HS => ?_)
                  refine any_all [7] (by kernel_rfl) rfl ?_
                  refine all_cons ?_ all_nil
                  refine any_op HF (i := 7) rfl rfl ?_
                  refine e_call HF (vs := [.int .u8 ((Lb.getD 7 0) : Int), .slice (if cp = 8 then some ⟨gA, oA, none⟩ else (some ⟨gA, oA, none⟩ : Option Addr).map (·.add (8 * 1))) (((lenR l).1 - 4) - 8) (cp - 8)]) rfl (by kernel_rfl) (by kernel_rfl) rfl (by decide) ((parse_any (Lb.getD 7 0) hkd _ (((lenR l).1 - 4) - 8) (cp - 8) ((Lb.take (Lb.length - 4)).drop 8) B _ (hL.mem HM hB) (HM.le hB) (HM.old (by rw [hnL]; exact hrL.midB8 (i := 8) (j := (lenR l).1 - 4) (by omega) (by omega) (by omega))) (by omega) (by rw [List.length_drop, List.length_take]; omega) (by omega) (drop_lt (take_lt hlL _) _)).mono (fun _ _ h => h.none hp)) ?_
                  rintro _ w60 ⟨⟨cs, rfl, hs5, h1⟩, hbw⟩
                  refine ⟨_, rfl, ?_⟩
                  replace HM := HM.call hbw
                  clear HF; intro a HF
                  refine keepS (HM.picks [1] (by decide) rfl) (fun HS => ?_)
                  refine any_pures HF (fun _ => HS) (fun _ _ d _ _ h => by cases d <;> exact h) [8, 9, 10] #[true, true, true, true, true, true, true, true, true, true, true, true, false, false] [(62, .bool false), (61, .agg cs), (52, .tuple #[.agg cs, .bool false])] (by kernel_rfl) ?_; clear HF; intro a HF
                  refine any_all [12] (by kernel_rfl) rfl ?_
                  refine all_cons ?_ all_nil
                  refine any_op HF (i := 12) rfl rfl ?_
                  refine e_storeAll HF HM (i := 0) (cs := #[.int .u8 0, .int .u8 0, .int .i64 0, .int .i64 0, .slice none 0 0]) (ds := cs) rfl rfl rfl rfl si_bk rfl hs5 (h1) rfl ?_
                  clear HM; intro w13_12 HM
                  refine noS (by kernel_rfl) ?_
                  refine any_pures HF (pastS (by kernel_rfl)) (fun _ _ d _ _ h => by cases d <;> exact h) [13] #[true, true, true, true, true, true, true, true, true, true, true, true, true, true] [(8, .bool false)] (by kernel_rfl) ?_; clear HF; intro a HF
                  refine any_done (by kernel_rfl) ?_
                  replace HF := HF.sub (σ' := [(8, .bool false), (7, .pointer (some ⟨g7, 0, none⟩)), (40, .bool false), (34, .bool false), (26, .bool false), (21, .bool false), (0, .slice (some ⟨gA, oA, none⟩) ((lenR l).1) cp), (15, .bool false), (6, .int .i64 ((lenR l).2 : Int)), (5, .int .i64 ((lenR l).1 : Int)), (4, .int .i64 0), (3, .int .i64 0), (2, .pointer (some ⟨g2, 0, none⟩))]) (by kernel_rfl)
                  exact ⟨cs, g7, HF.sub (by kernel_rfl), HM.picks [0, 1] (by decide) rfl, hs5, h1⟩
                clear HF HM; rintro a w13 ⟨cs, g7, HF, HM, hs5, h1⟩
                refine wp_seq ?_
                refine wp_seq ?_
                refine from_start ?_
                refine from_pures HF 2 0 (j := 2) [(64, .bool true), (63, .bool false)] (by kernel_rfl) rfl ?_; clear HF; intro a HF
                refine from_done rfl ?_
                replace HF := HF.sub (σ' := [(64, .bool true), (7, .pointer (some ⟨g7, 0, none⟩)), (40, .bool false), (34, .bool false), (26, .bool false), (21, .bool false), (0, .slice (some ⟨gA, oA, none⟩) ((lenR l).1) cp), (15, .bool false), (6, .int .i64 ((lenR l).2 : Int)), (5, .int .i64 ((lenR l).1 : Int)), (4, .int .i64 0), (3, .int .i64 0), (2, .pointer (some ⟨g2, 0, none⟩))]) (by kernel_rfl)
                refine cond_true HF rfl ?_
                refine wp_seq ?_
                refine from_start ?_
                refine from_yl (S := fun wS => Mem w wS _) HF HM (i := 0) rfl rfl (d := 65) rfl (by decide) (v := .agg #[.int .u8 0, .int .u8 0, .int .i64 0, .int .i64 0, .slice none 0 0]) (Yl.build (vs := []) rfl (by kernel_rfl) (by kernel_rfl)) ?_; clear HF; intro a HF
                refine from_op HF (i := 1) rfl rfl ?_
                refine e_storeAll HF HM (i := 1) (cs := #[.int .u8 0, .int .u8 0, .int .i64 0, .int .i64 0, .slice none 0 0]) (ds := #[.int .u8 0, .int .u8 0, .int .i64 0, .int .i64 0, .slice none 0 0]) rfl rfl rfl rfl si_bk rfl rfl (by simp [Value.oneCell']) rfl ?_
                clear HM; intro w15_1 HM
                refine from_pures HF 2 2 (j := 4) [(4, .int .i64 106), (3, .int .i64 0)] (by kernel_rfl) rfl ?_; clear HF; intro a HF
                refine from_done rfl ?_
                replace HF := HF.sub (σ' := [(4, .int .i64 106), (3, .int .i64 0), (64, .bool true), (7, .pointer (some ⟨g7, 0, none⟩)), (40, .bool false), (34, .bool false), (26, .bool false), (21, .bool false), (0, .slice (some ⟨gA, oA, none⟩) ((lenR l).1) cp), (15, .bool false), (6, .int .i64 ((lenR l).2 : Int)), (5, .int .i64 ((lenR l).1 : Int)), (2, .pointer (some ⟨g2, 0, none⟩))]) (by kernel_rfl)
                refine wp_ret ?_
                exact ret3 rfl HF (.cellS (i := 1) HF HM rfl rfl si_bk rfl) (.tmp HF rfl) (.tmp HF rfl) (breadIs_bad (readB_none hl0 hLb (by unfold blkOf; rw [if_neg (by rw [hs]; decide), if_neg (fun hh => hh hmg), if_neg (by omega), if_neg (by omega), hp])) HM.below)
            ·
              rcases Bool.eq_false_or_eq_true ((((Lb.getD 7 0) : Int) : Int) != (2 : Int)) with hb40 | hb40
              · have HF := HF.as (t := 40) (u := .bool true) rfl (by rw [hb40])
                have hd40 := bne_iff_ne.1 hb40
                have hkd : Lb.getD 7 0 ≠ 1 ∧ Lb.getD 7 0 ≠ 2 := by omega
                refine cond_true HF rfl ?_
                refine wp_seq ?_
                refine from_start ?_
                refine from_yl (S := fun wS => Mem w wS _) HF HM (i := 0) rfl rfl (d := 51) rfl (by decide) (v := .agg #[.int .u8 0, .int .u8 0, .int .i64 0, .int .i64 0, .slice none 0 0]) (Yl.build (vs := []) rfl (by kernel_rfl) (by kernel_rfl)) ?_; clear HF; intro a HF
                refine from_op HF (i := 1) rfl rfl ?_
                refine e_storeAll HF HM (i := 0) (cs := #[.int .u8 0, .int .u8 0, .int .i64 0, .int .i64 0, .slice none 0 0]) (ds := #[.int .u8 0, .int .u8 0, .int .i64 0, .int .i64 0, .slice none 0 0]) rfl rfl rfl rfl si_bk rfl rfl (by simp [Value.oneCell']) rfl ?_
                clear HM; intro w12_1 HM
                refine from_pures HF 2 2 (j := 4) [(4, .int .i64 105), (3, .int .i64 0)] (by kernel_rfl) rfl ?_; clear HF; intro a HF
                refine from_done rfl ?_
                replace HF := HF.sub (σ' := [(4, .int .i64 105), (3, .int .i64 0), (40, .bool true), (34, .bool false), (26, .bool false), (21, .bool false), (0, .slice (some ⟨gA, oA, none⟩) ((lenR l).1) cp), (15, .bool false), (6, .int .i64 ((lenR l).2 : Int)), (5, .int .i64 ((lenR l).1 : Int)), (2, .pointer (some ⟨g2, 0, none⟩))]) (by kernel_rfl)
                refine wp_ret ?_
                exact ret3 rfl HF (.cellS (i := 0) HF HM rfl rfl si_bk rfl) (.tmp HF rfl) (.tmp HF rfl) (breadIs_bad (readB_none hl0 hLb (by unfold blkOf; rw [if_neg (by rw [hs]; decide), if_neg (fun hh => hh hmg), if_neg (by omega), if_pos hkd])) HM.below)
              · have HF := HF.as (t := 40) (u := .bool false) rfl (by rw [hb40])
                have hd40 := bne_eq_false_iff_eq.1 hb40
                have hkd : Lb.getD 7 0 = 1 ∨ Lb.getD 7 0 = 2 := by omega
                refine cond_false HF rfl ?_
                refine wp_skip ?_
                refine cut_seq (fun aS wS => ∃ (Ab : Option Addr) (cb : Nat) (g7 : Nat), Fr aS 68 [] [(8, .bool true), (7, .pointer (some ⟨g7, 0, none⟩)), (40, .bool false), (34, .bool false), (26, .bool false), (21, .bool false), (0, .slice (some ⟨gA, oA, none⟩) ((lenR l).1) cp), (15, .bool false), (6, .int .i64 ((lenR l).2 : Int)), (5, .int .i64 ((lenR l).1 : Int)), (4, .int .i64 0), (3, .int .i64 0), (2, .pointer (some ⟨g2, 0, none⟩))] ∧ Mem w wS [.blk g7 (b.cells Ab cb) 37, .row (.slice Ab b.evs.length cb) b.evs.length (b.evs.flatMap evL) 55 11, .blk g2 #[.int .u8 0, .int .u8 0, .int .i64 0, .int .i64 0, .slice none 0 0] 37] ∧ (b.evs.length ≤ cb)) ?_ ?_
                ·
                  refine any_start (by kernel_rfl) (fun wS => Mem w wS [.blk g2 #[.int .u8 0, .int .u8 0, .int .i64 0, .int .i64 0, .slice none 0 0] 37]) [12] ?_
                  replace HM := HM.drew
                  have HS := HM.picks (fs' := [.blk g2 #[.int .u8 0, .int .u8 0, .int .i64 0, .int .i64 0, .slice none 0 0] 37]) [0] (by decide) rfl
                  refine any_pures HF (fun _ => HS) (fun _ _ d _ _ h => by cases d <;> exact h) [0, 3, 4] #[true, false, false, true, true, false, false, false, false, false, false, false, false, false] [(57, .int .i64 ((lenR l).1 : Int)), (56, .slice (some ⟨gA, oA, none⟩) ((lenR l).1) cp), (53, .slice (some ⟨gA, oA, none⟩) ((lenR l).1) cp)] (by kernel_rfl) ?_; clear HF; intro a HF
                  refine any_yl HF HS (i := 1) rfl rfl (d := 54) rfl (by decide) (by kernel_rfl) (fun _ _ _ h => h) (v := .pointer (some ⟨gA, oA + 7, none⟩)) (Yl.indexAddr (ad := ⟨gA, oA, none⟩) (y := 7) (sz := 1) rfl rfl rfl (by omega) (by kernel_rfl)) ?_; clear HF; intro a HF
                  have hx306 := getD_lt hlL (k := 7) (by first | omega | (simp; omega))
                  refine any_yl HF HS (i := 2) rfl rfl (d := 55) rfl (by decide) (by kernel_rfl) (fun _ _ _ h => h) (v := .int .u8 ((Lb.getD 7 0) : Int)) (Yl.load1 rfl rfl (by kernel_rfl) (fun _ h => (h.old hrL).oneAt1 (k := 7) (map_at (F := B8) (k := 7) (x := (Lb.getD 7 0)) ((getD_at 0 (k := 7) (by first | omega | (simp; omega))))))) ?_; clear HF; intro a HF
                  refine any_pure HF (fun _ => HS) (i := 5) rfl rfl (d := 58) rfl (by decide) (by kernel_rfl) (fun _ _ _ h => h) (v := .int .i64 (IntKind.i64.wrap (((lenR l).1 : Int) - 4))) (fun _ => Yl.pure (by kernel_rfl)) ?_; clear HF; intro a HF
                  replace HF := HF.as (t := 58) (u := .int .i64 (((lenR l).1 - 4 : Nat) : Int)) rfl (i64_nat (by omega) (by omega))
                  refine any_yl HF HS (i := 6) rfl rfl (d := 59) rfl (by decide) (by kernel_rfl) (fun _ _ _ h => h) (v := .slice (if cp = 8 then some ⟨gA, oA, none⟩ else (some ⟨gA, oA, none⟩ : Option Addr).map (·.add (8 * 1))) (((lenR l).1 - 4) - 8) (cp - 8)) (Yl.slice2 ei_u8 (i := 8) (j := (lenR l).1 - 4) rfl rfl rfl rfl (by omega) (by omega)) ?_; clear HF; intro a HF
                  refine any_all [7, 11] (by kernel_rfl) rfl ?_
                  refine all_cons ?_ ?_
                  · refine any_op HF (i := 7) rfl rfl ?_
                    refine e_call HF (vs := [.int .u8 ((Lb.getD 7 0) : Int), .slice (if cp = 8 then some ⟨gA, oA, none⟩ else (some ⟨gA, oA, none⟩ : Option Addr).map (·.add (8 * 1))) (((lenR l).1 - 4) - 8) (cp - 8)]) rfl (by kernel_rfl) (by kernel_rfl) rfl (by decide) ((parse_any (Lb.getD 7 0) hkd _ (((lenR l).1 - 4) - 8) (cp - 8) ((Lb.take (Lb.length - 4)).drop 8) B _ (hL.mem HM hB) (HM.le hB) (HM.old (by rw [hnL]; exact hrL.midB8 (i := 8) (j := (lenR l).1 - 4) (by omega) (by omega) (by omega))) (by omega) (by rw [List.length_drop, List.length_take]; omega) (by omega) (drop_lt (take_lt hlL _) _)).mono (fun _ _ h => h.some hp)) ?_
                    rintro _ w60 ⟨⟨Ab, cb, rfl, ho, hcb⟩, hbw⟩
                    refine ⟨_, rfl, ?_⟩
                    replace HM := HM.callRow hbw ho
                    clear HF; intro a HF
                    refine keepS (HM.picks [1] (by decide) rfl) (fun HS => ?_)
                    refine any_pures HF (fun _ => HS) (fun _ _ d _ _ h => by cases d <;> exact h) [8, 9, 10] #[true, true, true, true, true, true, true, true, true, true, true, false, false, false] [(62, .bool true), (61, .agg (b.cells Ab cb)), (52, .tuple #[.agg (b.cells Ab cb), .bool true])] (by kernel_rfl) ?_; clear HF; intro a HF
                    refine any_all [11] (by kernel_rfl) rfl ?_
                    refine all_cons ?_ all_nil
                    refine any_op HF (i := 11) rfl rfl ?_
                    refine e_alloc HF HM (cs := #[.int .u8 0, .int .u8 0, .int .i64 0, .int .i64 0, .slice none 0 0]) rfl (by kernel_rfl) rfl (by decide) ?_
                    clear HF HM; intro a w7 g7 HF HM
                    refine keepS (HM.picks [2] (by decide) rfl) (fun HS => ?_)
                    refine any_all [12] (by kernel_rfl) rfl ?_
                    refine all_cons ?_ all_nil
                    refine any_op HF (i := 12) rfl rfl ?_
                    refine e_storeAll HF HM (i := 0) (cs := #[.int .u8 0, .int .u8 0, .int .i64 0, .int .i64 0, .slice none 0 0]) (ds := (b.cells Ab cb)) rfl rfl rfl rfl si_bk rfl rfl (bk_one _ _ _) rfl ?_
                    clear HM; intro w13_12 HM
                    refine noS (by kernel_rfl) ?_
                    refine any_pures HF (pastS (by kernel_rfl)) (fun _ _ d _ _ h => by cases d <;> exact h) [13] #[true, true, true, true, true, true, true, true, true, true, true, true, true, true] [(8, .bool true)] (by kernel_rfl) ?_; clear HF; intro a HF
                    refine any_done (by kernel_rfl) ?_
                    replace HF := HF.sub (σ' := [(8, .bool true), (7, .pointer (some ⟨g7, 0, none⟩)), (40, .bool false), (34, .bool false), (26, .bool false), (21, .bool false), (0, .slice (some ⟨gA, oA, none⟩) ((lenR l).1) cp), (15, .bool false), (6, .int .i64 ((lenR l).2 : Int)), (5, .int .i64 ((lenR l).1 : Int)), (4, .int .i64 0), (3, .int .i64 0), (2, .pointer (some ⟨g2, 0, none⟩))]) (by kernel_rfl)
                    exact ⟨Ab, cb, g7, HF.sub (by kernel_rfl), HM.picks [0, 1, 2] (by decide) rfl, hcb⟩
                  refine all_cons ?_ all_nil
                  refine any_op HF (i := 11) rfl rfl ?_
                  refine e_alloc HF HM (cs := #[.int .u8 0, .int .u8 0, .int .i64 0, .int .i64 0, .slice none 0 0]) rfl (by kernel_rfl) rfl (by decide) ?_
                  clear HF HM; intro a w7 g7 HF HM
                  refine keepS (HM.picks [1] (by decide) rfl) (fun HS => ?_)
                  refine any_all [7] (by kernel_rfl) rfl ?_
                  refine all_cons ?_ all_nil
                  refine any_op HF (i := 7) rfl rfl ?_
                  refine e_call HF (vs := [.int .u8 ((Lb.getD 7 0) : Int), .slice (if cp = 8 then some ⟨gA, oA, none⟩ else (some ⟨gA, oA, none⟩ : Option Addr).map (·.add (8 * 1))) (((lenR l).1 - 4) - 8) (cp - 8)]) rfl (by kernel_rfl) (by kernel_rfl) rfl (by decide) ((parse_any (Lb.getD 7 0) hkd _ (((lenR l).1 - 4) - 8) (cp - 8) ((Lb.take (Lb.length - 4)).drop 8) B _ (hL.mem HM hB) (HM.le hB) (HM.old (by rw [hnL]; exact hrL.midB8 (i := 8) (j := (lenR l).1 - 4) (by omega) (by omega) (by omega))) (by omega) (by rw [List.length_drop, List.length_take]; omega) (by omega) (drop_lt (take_lt hlL _) _)).mono (fun _ _ h => h.some hp)) ?_
                  rintro _ w60 ⟨⟨Ab, cb, rfl, ho, hcb⟩, hbw⟩
                  refine ⟨_, rfl, ?_⟩
                  replace HM := HM.callRow hbw ho
                  clear HF; intro a HF
                  refine keepS (HM.picks [2] (by decide) rfl) (fun HS => ?_)
                  refine any_pures HF (fun _ => HS) (fun _ _ d _ _ h => by cases d <;> exact h) [8, 9, 10] #[true, true, true, true, true, true, true, true, true, true, true, true, false, false] [(62, .bool true), (61, .agg (b.cells Ab cb)), (52, .tuple #[.agg (b.cells Ab cb), .bool true])] (by kernel_rfl) ?_; clear HF; intro a HF
                  refine any_all [12] (by kernel_rfl) rfl ?_
                  refine all_cons ?_ all_nil
                  refine any_op HF (i := 12) rfl rfl ?_
                  refine e_storeAll HF HM (i := 1) (cs := #[.int .u8 0, .int .u8 0, .int .i64 0, .int .i64 0, .slice none 0 0]) (ds := (b.cells Ab cb)) rfl rfl rfl rfl si_bk rfl rfl (bk_one _ _ _) rfl ?_
                  clear HM; intro w13_12 HM
                  refine noS (by kernel_rfl) ?_
                  refine any_pures HF (pastS (by kernel_rfl)) (fun _ _ d _ _ h => by cases d <;> exact h) [13] #[true, true, true, true, true, true, true, true, true, true, true, true, true, true] [(8, .bool true)] (by kernel_rfl) ?_; clear HF; intro a HF
                  refine any_done (by kernel_rfl) ?_
                  replace HF := HF.sub (σ' := [(8, .bool true), (7, .pointer (some ⟨g7, 0, none⟩)), (40, .bool false), (34, .bool false), (26, .bool false), (21, .bool false), (0, .slice (some ⟨gA, oA, none⟩) ((lenR l).1) cp), (15, .bool false), (6, .int .i64 ((lenR l).2 : Int)), (5, .int .i64 ((lenR l).1 : Int)), (4, .int .i64 0), (3, .int .i64 0), (2, .pointer (some ⟨g2, 0, none⟩))]) (by kernel_rfl)
                  exact ⟨Ab, cb, g7, HF.sub (by kernel_rfl), HM.picks [1, 0, 2] (by decide) rfl, hcb⟩
                clear HF HM; rintro a w13 ⟨Ab, cb, g7, HF, HM, hcb⟩
                refine wp_seq ?_
                refine wp_seq ?_
                refine from_start ?_
                refine from_pures HF 2 0 (j := 2) [(64, .bool false), (63, .bool true)] (by kernel_rfl) rfl ?_; clear HF; intro a HF
                refine from_done rfl ?_
                replace HF := HF.sub (σ' := [(64, .bool false), (7, .pointer (some ⟨g7, 0, none⟩)), (40, .bool false), (34, .bool false), (26, .bool false), (21, .bool false), (0, .slice (some ⟨gA, oA, none⟩) ((lenR l).1) cp), (15, .bool false), (6, .int .i64 ((lenR l).2 : Int)), (5, .int .i64 ((lenR l).1 : Int)), (4, .int .i64 0), (3, .int .i64 0), (2, .pointer (some ⟨g2, 0, none⟩))]) (by kernel_rfl)
                refine cond_false HF rfl ?_
                refine wp_skip ?_
                refine wp_seq ?_
                refine from_start ?_
                refine from_yl (S := fun wS => Mem w wS _) HF HM (i := 0) rfl rfl (d := 66) rfl (by decide) (v := .agg (b.cells Ab cb)) (Yl.loadS rfl rfl si_bk rfl (fun _ h => range_of_block (h.blk (i := 0) rfl))) ?_; clear HF; intro a HF
                refine from_pures HF 1 1 (j := 2) [(67, .int .i64 ((lenR l).1 : Int))] (by kernel_rfl) rfl ?_; clear HF; intro a HF
                refine from_op HF (i := 2) rfl rfl ?_
                refine e_storeAll HF HM (i := 2) (cs := #[.int .u8 0, .int .u8 0, .int .i64 0, .int .i64 0, .slice none 0 0]) (ds := (b.cells Ab cb)) rfl rfl rfl rfl si_bk rfl rfl (bk_one _ _ _) rfl ?_
                clear HM; intro w16_2 HM
                refine from_pures HF 2 3 (j := 5) [(4, .int .i64 0), (3, .int .i64 ((lenR l).1 : Int))] (by kernel_rfl) rfl ?_; clear HF; intro a HF
                refine from_done rfl ?_
                replace HF := HF.sub (σ' := [(4, .int .i64 0), (3, .int .i64 ((lenR l).1 : Int)), (64, .bool false), (7, .pointer (some ⟨g7, 0, none⟩)), (40, .bool false), (34, .bool false), (26, .bool false), (21, .bool false), (0, .slice (some ⟨gA, oA, none⟩) ((lenR l).1) cp), (15, .bool false), (6, .int .i64 ((lenR l).2 : Int)), (5, .int .i64 ((lenR l).1 : Int)), (2, .pointer (some ⟨g2, 0, none⟩))]) (by kernel_rfl)
                refine wp_ret ?_
                exact ret3 rfl HF (.cellS (i := 2) HF HM rfl rfl si_bk rfl) (.tmp HF rfl) (.tmp HF rfl) (breadIs_ok (readB_some (e := 0) hl0 hLb (by unfold blkOf; rw [if_neg (by rw [hs]; decide), if_neg (fun hh => hh hmg), if_neg (by omega), if_neg (by omega), hp])) (HM.own (i := 1) rfl) hcb HM.below)
          · have HF := HF.as (t := 45) (u := .bool false) rfl (by rw [hb45])
            have hd45 := bne_eq_false_iff_eq.1 hb45
            have hkd : Lb.getD 7 0 = 1 ∨ Lb.getD 7 0 = 2 := by omega
            refine from_pures HF 6 5 (j := 11) [(40, .bool false), (50, .bool false), (49, undef), (48, undef), (47, undef), (46, undef)] (by kernel_rfl) rfl ?_; clear HF; intro a HF
            refine from_done rfl ?_
            replace HF := HF.sub (σ' := [(40, .bool false), (34, .bool false), (26, .bool false), (21, .bool false), (0, .slice (some ⟨gA, oA, none⟩) ((lenR l).1) cp), (15, .bool false), (6, .int .i64 ((lenR l).2 : Int)), (5, .int .i64 ((lenR l).1 : Int)), (4, .int .i64 0), (3, .int .i64 0), (2, .pointer (some ⟨g2, 0, none⟩))]) (by kernel_rfl)
            rcases hp : parseR (Lb.getD 7 0) ((Lb.take (Lb.length - 4)).drop 8) with _ | b
            ·
              refine cond_false HF rfl ?_
              refine wp_skip ?_
              refine cut_seq (fun aS wS => ∃ (cs : Array Value) (g7 : Nat), Fr aS 68 [] [(8, .bool false), (7, .pointer (some ⟨g7, 0, none⟩)), (40, .bool false), (34, .bool false), (26, .bool false), (21, .bool false), (0, .slice (some ⟨gA, oA, none⟩) ((lenR l).1) cp), (15, .bool false), (6, .int .i64 ((lenR l).2 : Int)), (5, .int .i64 ((lenR l).1 : Int)), (4, .int .i64 0), (3, .int .i64 0), (2, .pointer (some ⟨g2, 0, none⟩))] ∧ Mem w wS [.blk g7 cs 37, .blk g2 #[.int .u8 0, .int .u8 0, .int .i64 0, .int .i64 0, .slice none 0 0] 37] ∧ (cs.size = 5) ∧ (∀ v ∈ cs.toList, v.oneCell' = true)) ?_ ?_
              ·
                refine any_start (by kernel_rfl) (fun wS => Mem w wS [.blk g2 #[.int .u8 0, .int .u8 0, .int .i64 0, .int .i64 0, .slice none 0 0] 37]) [12] ?_
                replace HM := HM.drew
                have HS := HM.picks (fs' := [.blk g2 #[.int .u8 0, .int .u8 0, .int .i64 0, .int .i64 0, .slice none 0 0] 37]) [0] (by decide) rfl
                refine any_pures HF (fun _ => HS) (fun _ _ d _ _ h => by cases d <;> exact h) [0, 3, 4] #[true, false, false, true, true, false, false, false, false, false, false, false, false, false] [(57, .int .i64 ((lenR l).1 : Int)), (56, .slice (some ⟨gA, oA, none⟩) ((lenR l).1) cp), (53, .slice (some ⟨gA, oA, none⟩) ((lenR l).1) cp)] (by kernel_rfl) ?_; clear HF; intro a HF
                refine any_yl HF HS (i := 1) rfl rfl (d := 54) rfl (by decide) (by kernel_rfl) (fun _ _ _ h => h) (v := .pointer (some ⟨gA, oA + 7, none⟩)) (Yl.indexAddr (ad := ⟨gA, oA, none⟩) (y := 7) (sz := 1) rfl rfl rfl (by omega) (by kernel_rfl)) ?_; clear HF; intro a HF
                have hx400 := getD_lt hlL (k := 7) (by first | omega | (simp; omega))
                refine any_yl HF HS (i := 2) rfl rfl (d := 55) rfl (by decide) (by kernel_rfl) (fun _ _ _ h => h) (v := .int .u8 ((Lb.getD 7 0) : Int)) (Yl.load1 rfl rfl (by kernel_rfl) (fun _ h => (h.old hrL).oneAt1 (k := 7) (map_at (F := B8) (k := 7) (x := (Lb.getD 7 0)) ((getD_at 0 (k := 7) (by first | omega | (simp; omega))))))) ?_; clear HF; intro a HF
                refine any_pure HF (fun _ => HS) (i := 5) rfl rfl (d := 58) rfl (by decide) (by kernel_rfl) (fun _ _ _ h => h) (v := .int .i64 (IntKind.i64.wrap (((lenR l).1 : Int) - 4))) (fun _ => Yl.pure (by kernel_rfl)) ?_; clear HF; intro a HF
                replace HF := HF.as (t := 58) (u := .int .i64 (((lenR l).1 - 4 : Nat) : Int)) rfl (i64_nat (by omega) (by omega))
                refine any_yl HF HS (i := 6) rfl rfl (d := 59) rfl (by decide) (by kernel_rfl) (fun _ _ _ h => h) (v := .slice (if cp = 8 then some ⟨gA, oA, none⟩ else (some ⟨gA, oA, none⟩ : Option Addr).map (·.add (8 * 1))) (((lenR l).1 - 4) - 8) (cp - 8)) (Yl.slice2 ei_u8 (i := 8) (j := (lenR l).1 - 4) rfl rfl rfl rfl (by omega) (by omega)) ?_; clear HF; intro a HF
                refine any_all [7, 11] (by kernel_rfl) rfl ?_
                refine all_cons ?_ ?_
                · refine any_op HF (i := 7) rfl rfl ?_
                  refine e_call HF (vs := [.int .u8 ((Lb.getD 7 0) : Int), .slice (if cp = 8 then some ⟨gA, oA, none⟩ else (some ⟨gA, oA, none⟩ : Option Addr).map (·.add (8 * 1))) (((lenR l).1 - 4) - 8) (cp - 8)]) rfl (by kernel_rfl) (by kernel_rfl) rfl (by decide) ((parse_any (Lb.getD 7 0) hkd _ (((lenR l).1 - 4) - 8) (cp - 8) ((Lb.take (Lb.length - 4)).drop 8) B _ (hL.mem HM hB) (HM.le hB) (HM.old (by rw [hnL]; exact hrL.midB8 (i := 8) (j := (lenR l).1 - 4) (by omega) (by omega) (by omega))) (by omega) (by rw [List.length_drop, List.length_take]; omega) (by omega) (drop_lt (take_lt hlL _) _)).mono (fun _ _ h => h.none hp)) ?_
                  rintro _ w60 ⟨⟨cs, rfl, hs5, h1⟩, hbw⟩
                  refine ⟨_, rfl, ?_⟩
                  replace HM := HM.call hbw
                  clear HF; intro a HF
                  refine keepS (HM.picks [0] (by decide) rfl) (fun HS => ?_)
                  refine any_pures HF (fun _ => HS) (fun _ _ d _ _ h => by cases d <;> exact h) [8, 9, 10] #[true, true, true, true, true, true, true, true, true, true, true, false, false, false] [(62, .bool false), (61, .agg cs), (52, .tuple #[.agg cs, .bool false])] (by kernel_rfl) ?_; clear HF; intro a HF
                  refine any_all [11] (by kernel_rfl) rfl ?_
                  refine all_cons ?_ all_nil
                  refine any_op HF (i := 11) rfl rfl ?_
                  refine e_alloc HF HM (cs := #[.int .u8 0, .int .u8 0, .int .i64 0, .int .i64 0, .slice none 0 0]) rfl (by kernel_rfl) rfl (by decide) ?_
                  clear HF HM; intro a w7 g7 HF HM
                  refine keepS (HM.picks [1] (by decide) rfl) (fun HS => ?_)
                  refine any_all [12] (by kernel_rfl) rfl ?_
                  refine all_cons ?_ all_nil
                  refine any_op HF (i := 12) rfl rfl ?_
                  refine e_storeAll HF HM (i := 0) (cs := #[.int .u8 0, .int .u8 0, .int .i64 0, .int .i64 0, .slice none 0 0]) (ds := cs) rfl rfl rfl rfl si_bk rfl hs5 (h1) rfl ?_
                  clear HM; intro w13_12 HM
                  refine noS (by kernel_rfl) ?_
                  refine any_pures HF (pastS (by kernel_rfl)) (fun _ _ d _ _ h => by cases d <;> exact h) [13] #[true, true, true, true, true, true, true, true, true, true, true, true, true, true] [(8, .bool false)] (by kernel_rfl) ?_; clear HF; intro a HF
                  refine any_done (by kernel_rfl) ?_
                  replace HF := HF.sub (σ' := [(8, .bool false), (7, .pointer (some ⟨g7, 0, none⟩)), (40, .bool false), (34, .bool false), (26, .bool false), (21, .bool false), (0, .slice (some ⟨gA, oA, none⟩) ((lenR l).1) cp), (15, .bool false), (6, .int .i64 ((lenR l).2 : Int)), (5, .int .i64 ((lenR l).1 : Int)), (4, .int .i64 0), (3, .int .i64 0), (2, .pointer (some ⟨g2, 0, none⟩))]) (by kernel_rfl)
                  exact ⟨cs, g7, HF.sub (by kernel_rfl), HM.picks [0, 1] (by decide) rfl, hs5, h1⟩
                refine all_cons ?_ all_nil
                refine any_op HF (i := 11) rfl rfl ?_
                refine e_alloc HF HM (cs := #[.int .u8 0, .int .u8 0, .int .i64 0, .int .i64 0, .slice none 0 0]) rfl (by kernel_rfl) rfl (by decide) ?_
                clear HF HM; intro a w7 g7 HF HM
                refine keepS (HM.picks [1] (by decide) rfl) (fun HS => ?_)
                refine any_all [7] (by kernel_rfl) rfl ?_
                refine all_cons ?_ all_nil
                refine any_op HF (i := 7) rfl rfl ?_
                refine e_call HF (vs := [.int .u8 ((Lb.getD 7 0) : Int), .slice (if cp = 8 then some ⟨gA, oA, none⟩ else (some ⟨gA, oA, none⟩ : Option Addr).map (·.add (8 * 1))) (((lenR l).1 - 4) - 8) (cp - 8)]) rfl (by kernel_rfl) (by kernel_rfl) rfl (by decide) ((parse_any (Lb.getD 7 0) hkd _ (((lenR l).1 - 4) - 8) (cp - 8) ((Lb.take (Lb.length - 4)).drop 8) B _ (hL.mem HM hB) (HM.le hB) (HM.old (by rw [hnL]; exact hrL.midB8 (i := 8) (j := (lenR l).1 - 4) (by omega) (by omega) (by omega))) (by omega) (by rw [List.length_drop, List.length_take]; omega) (by omega) (drop_lt (take_lt hlL _) _)).mono (fun _ _ h => h.none hp)) ?_
                rintro _ w60 ⟨⟨cs, rfl, hs5, h1⟩, hbw⟩
                refine ⟨_, rfl, ?_⟩
                replace HM := HM.call hbw
                clear HF; intro a HF
                refine keepS (HM.picks [1] (by decide) rfl) (fun HS => ?_)
                refine any_pures HF (fun _ => HS) (fun _ _ d _ _ h => by cases d <;> exact h) [8, 9, 10] #[true, true, true, true, true, true, true, true, true, true, true, true, false, false] [(62, .bool false), (61, .agg cs), (52, .tuple #[.agg cs, .bool false])] (by kernel_rfl) ?_; clear HF; intro a HF
                refine any_all [12] (by kernel_rfl) rfl ?_
                refine all_cons ?_ all_nil
                refine any_op HF (i := 12) rfl rfl ?_
                refine e_storeAll HF HM (i := 0) (cs := #[.int .u8 0, .int .u8 0, .int .i64 0, .int .i64 0, .slice none 0 0]) (ds := cs) rfl rfl rfl rfl si_bk rfl hs5 (h1) rfl ?_
                clear HM; intro w13_12 HM
                refine noS (by kernel_rfl) ?_
                refine any_pures HF (pastS (by kernel_rfl)) (fun _ _ d _ _ h => by cases d <;> exact h) [13] #[true, true, true, true, true, true, true, true, true, true, true, true, true, true] [(8, .bool false)] (by kernel_rfl) ?_; clear HF; intro a HF
                refine any_done (by kernel_rfl) ?_
                replace HF := HF.sub (σ' := [(8, .bool false), (7, .pointer (some ⟨g7, 0, none⟩)), (40, .bool false), (34, .bool false), (26, .bool false), (21, .bool false), (0, .slice (some ⟨gA, oA, none⟩) ((lenR l).1) cp), (15, .bool false), (6, .int .i64 ((lenR l).2 : Int)), (5, .int .i64 ((lenR l).1 : Int)), (4, .int .i64 0), (3, .int .i64 0), (2, .pointer (some ⟨g2, 0, none⟩))]) (by kernel_rfl)
                exact ⟨cs, g7, HF.sub (by kernel_rfl), HM.picks [0, 1] (by decide) rfl, hs5, h1⟩
              clear HF HM; rintro a w13 ⟨cs, g7, HF, HM, hs5, h1⟩
              refine wp_seq ?_
              refine wp_seq ?_
              refine from_start ?_
              refine from_pures HF 2 0 (j := 2) [(64, .bool true), (63, .bool false)] (by kernel_rfl) rfl ?_; clear HF; intro a HF
              refine from_done rfl ?_
              replace HF := HF.sub (σ' := [(64, .bool true), (7, .pointer (some ⟨g7, 0, none⟩)), (40, .bool false), (34, .bool false), (26, .bool false), (21, .bool false), (0, .slice (some ⟨gA, oA, none⟩) ((lenR l).1) cp), (15, .bool false), (6, .int .i64 ((lenR l).2 : Int)), (5, .int .i64 ((lenR l).1 : Int)), (4, .int .i64 0), (3, .int .i64 0), (2, .pointer (some ⟨g2, 0, none⟩))]) (by kernel_rfl)
              refine cond_true HF rfl ?_
              refine wp_seq ?_
              refine from_start ?_
              refine from_yl (S := fun wS => Mem w wS _) HF HM (i := 0) rfl rfl (d := 65) rfl (by decide) (v := .agg #[.int .u8 0, .int .u8 0, .int .i64 0, .int .i64 0, .slice none 0 0]) (Yl.build (vs := []) rfl (by kernel_rfl) (by kernel_rfl)) ?_; clear HF; intro a HF
              refine from_op HF (i := 1) rfl rfl ?_
              refine e_storeAll HF HM (i := 1) (cs := #[.int .u8 0, .int .u8 0, .int .i64 0, .int .i64 0, .slice none 0 0]) (ds := #[.int .u8 0, .int .u8 0, .int .i64 0, .int .i64 0, .slice none 0 0]) rfl rfl rfl rfl si_bk rfl rfl (by simp [Value.oneCell']) rfl ?_
              clear HM; intro w15_1 HM
              refine from_pures HF 2 2 (j := 4) [(4, .int .i64 106), (3, .int .i64 0)] (by kernel_rfl) rfl ?_; clear HF; intro a HF
              refine from_done rfl ?_
              replace HF := HF.sub (σ' := [(4, .int .i64 106), (3, .int .i64 0), (64, .bool true), (7, .pointer (some ⟨g7, 0, none⟩)), (40, .bool false), (34, .bool false), (26, .bool false), (21, .bool false), (0, .slice (some ⟨gA, oA, none⟩) ((lenR l).1) cp), (15, .bool false), (6, .int .i64 ((lenR l).2 : Int)), (5, .int .i64 ((lenR l).1 : Int)), (2, .pointer (some ⟨g2, 0, none⟩))]) (by kernel_rfl)
              refine wp_ret ?_
              exact ret3 rfl HF (.cellS (i := 1) HF HM rfl rfl si_bk rfl) (.tmp HF rfl) (.tmp HF rfl) (breadIs_bad (readB_none hl0 hLb (by unfold blkOf; rw [if_neg (by rw [hs]; decide), if_neg (fun hh => hh hmg), if_neg (by omega), if_neg (by omega), hp])) HM.below)
            ·
              refine cond_false HF rfl ?_
              refine wp_skip ?_
              refine cut_seq (fun aS wS => ∃ (Ab : Option Addr) (cb : Nat) (g7 : Nat), Fr aS 68 [] [(8, .bool true), (7, .pointer (some ⟨g7, 0, none⟩)), (40, .bool false), (34, .bool false), (26, .bool false), (21, .bool false), (0, .slice (some ⟨gA, oA, none⟩) ((lenR l).1) cp), (15, .bool false), (6, .int .i64 ((lenR l).2 : Int)), (5, .int .i64 ((lenR l).1 : Int)), (4, .int .i64 0), (3, .int .i64 0), (2, .pointer (some ⟨g2, 0, none⟩))] ∧ Mem w wS [.blk g7 (b.cells Ab cb) 37, .row (.slice Ab b.evs.length cb) b.evs.length (b.evs.flatMap evL) 55 11, .blk g2 #[.int .u8 0, .int .u8 0, .int .i64 0, .int .i64 0, .slice none 0 0] 37] ∧ (b.evs.length ≤ cb)) ?_ ?_
              ·
                refine any_start (by kernel_rfl) (fun wS => Mem w wS [.blk g2 #[.int .u8 0, .int .u8 0, .int .i64 0, .int .i64 0, .slice none 0 0] 37]) [12] ?_
                replace HM := HM.drew
                have HS := HM.picks (fs' := [.blk g2 #[.int .u8 0, .int .u8 0, .int .i64 0, .int .i64 0, .slice none 0 0] 37]) [0] (by decide) rfl
                refine any_pures HF (fun _ => HS) (fun _ _ d _ _ h => by cases d <;> exact h) [0, 3, 4] #[true, false, false, true, true, false, false, false, false, false, false, false, false, false] [(57, .int .i64 ((lenR l).1 : Int)), (56, .slice (some ⟨gA, oA, none⟩) ((lenR l).1) cp), (53, .slice (some ⟨gA, oA, none⟩) ((lenR l).1) cp)] (by kernel_rfl) ?_; clear HF; intro a HF
                refine any_yl HF HS (i := 1) rfl rfl (d := 54) rfl (by decide) (by kernel_rfl) (fun _ _ _ h => h) (v := .pointer (some ⟨gA, oA + 7, none⟩)) (Yl.indexAddr (ad := ⟨gA, oA, none⟩) (y := 7) (sz := 1) rfl rfl rfl (by omega) (by kernel_rfl)) ?_; clear HF; intro a HF
                have hx485 := getD_lt hlL (k := 7) (by first | omega | (simp; omega))
                refine any_yl HF HS (i := 2) rfl rfl (d := 55) rfl (by decide) (by kernel_rfl) (fun _ _ _ h => h) (v := .int .u8 ((Lb.getD 7 0) : Int)) (Yl.load1 rfl rfl (by kernel_rfl) (fun _ h => (h.old hrL).oneAt1 (k := 7) (map_at (F := B8) (k := 7) (x := (Lb.getD 7 0)) ((getD_at 0 (k := 7) (by first | omega | (simp; omega))))))) ?_; clear HF; intro a HF
                refine any_pure HF (fun _ => HS) (i := 5) rfl rfl (d := 58) rfl (by decide) (by kernel_rfl) (fun _ _ _ h => h) (v := .int .i64 (IntKind.i64.wrap (((lenR l).1 : Int) - 4))) (fun _ => Yl.pure (by kernel_rfl)) ?_; clear HF; intro a HF
                replace HF := HF.as (t := 58) (u := .int .i64 (((lenR l).1 - 4 : Nat) : Int)) rfl (i64_nat (by omega) (by omega))
                refine any_yl HF HS (i := 6) rfl rfl (d := 59) rfl (by decide) (by kernel_rfl) (fun _ _ _ h => h) (v := .slice (if cp = 8 then some ⟨gA, oA, none⟩ else (some ⟨gA, oA, none⟩ : Option Addr).map (·.add (8 * 1))) (((lenR l).1 - 4) - 8) (cp - 8)) (Yl.slice2 ei_u8 (i := 8) (j := (lenR l).1 - 4) rfl rfl rfl rfl (by omega) (by omega)) ?_; clear HF; intro a HF
                refine any_all [7, 11] (by kernel_rfl) rfl ?_
                refine all_cons ?_ ?_
                · refine any_op HF (i := 7) rfl rfl ?_
                  refine e_call HF (vs := [.int .u8 ((Lb.getD 7 0) : Int), .slice (if cp = 8 then some ⟨gA, oA, none⟩ else (some ⟨gA, oA, none⟩ : Option Addr).map (·.add (8 * 1))) (((lenR l).1 - 4) - 8) (cp - 8)]) rfl (by kernel_rfl) (by kernel_rfl) rfl (by decide) ((parse_any (Lb.getD 7 0) hkd _ (((lenR l).1 - 4) - 8) (cp - 8) ((Lb.take (Lb.length - 4)).drop 8) B _ (hL.mem HM hB) (HM.le hB) (HM.old (by rw [hnL]; exact hrL.midB8 (i := 8) (j := (lenR l).1 - 4) (by omega) (by omega) (by omega))) (by omega) (by rw [List.length_drop, List.length_take]; omega) (by omega) (drop_lt (take_lt hlL _) _)).mono (fun _ _ h => h.some hp)) ?_
                  rintro _ w60 ⟨⟨Ab, cb, rfl, ho, hcb⟩, hbw⟩
                  refine ⟨_, rfl, ?_⟩
                  replace HM := HM.callRow hbw ho
                  clear HF; intro a HF
                  refine keepS (HM.picks [1] (by decide) rfl) (fun HS => ?_)
                  refine any_pures HF (fun _ => HS) (fun _ _ d _ _ h => by cases d <;> exact h) [8, 9, 10] #[true, true, true, true, true, true, true, true, true, true, true, false, false, false] [(62, .bool true), (61, .agg (b.cells Ab cb)), (52, .tuple #[.agg (b.cells Ab cb), .bool true])] (by kernel_rfl) ?_; clear HF; intro a HF
                  refine any_all [11] (by kernel_rfl) rfl ?_
                  refine all_cons ?_ all_nil
                  refine any_op HF (i := 11) rfl rfl ?_
                  refine e_alloc HF HM (cs := #[.int .u8 0, .int .u8 0, .int .i64 0, .int .i64 0, .slice none 0 0]) rfl (by kernel_rfl) rfl (by decide) ?_
                  clear HF HM; intro a w7 g7 HF HM
                  refine keepS (HM.picks [2] (by decide) rfl) (fun HS => ?_)
                  refine any_all [12] (by kernel_rfl) rfl ?_
                  refine all_cons ?_ all_nil
                  refine any_op HF (i := 12) rfl rfl ?_
                  refine e_storeAll HF HM (i := 0) (cs := #[.int .u8 0, .int .u8 0, .int .i64 0, .int .i64 0, .slice none 0 0]) (ds := (b.cells Ab cb)) rfl rfl rfl rfl si_bk rfl rfl (bk_one _ _ _) rfl ?_
                  clear HM; intro w13_12 HM
                  refine noS (by kernel_rfl) ?_
                  refine any_pures HF (pastS (by kernel_rfl)) (fun _ _ d _ _ h => by cases d <;> exact h) [13] #[true, true, true, true, true, true, true, true, true, true, true, true, true, true] [(8, .bool true)] (by kernel_rfl) ?_; clear HF; intro a HF
                  refine any_done (by kernel_rfl) ?_
                  replace HF := HF.sub (σ' := [(8, .bool true), (7, .pointer (some ⟨g7, 0, none⟩)), (40, .bool false), (34, .bool false), (26, .bool false), (21, .bool false), (0, .slice (some ⟨gA, oA, none⟩) ((lenR l).1) cp), (15, .bool false), (6, .int .i64 ((lenR l).2 : Int)), (5, .int .i64 ((lenR l).1 : Int)), (4, .int .i64 0), (3, .int .i64 0), (2, .pointer (some ⟨g2, 0, none⟩))]) (by kernel_rfl)
                  exact ⟨Ab, cb, g7, HF.sub (by kernel_rfl), HM.picks [0, 1, 2] (by decide) rfl, hcb⟩
                refine all_cons ?_ all_nil
                refine any_op HF (i := 11) rfl rfl ?_
                refine e_alloc HF HM (cs := #[.int .u8 0, .int .u8 0, .int .i64 0, .int .i64 0, .slice none 0 0]) rfl (by kernel_rfl) rfl (by decide) ?_
                clear HF HM; intro a w7 g7 HF HM
                refine keepS (HM.picks [1] (by decide) rfl) (fun HS => ?_)
                refine any_all [7] (by kernel_rfl) rfl ?_
                refine all_cons ?_ all_nil
                refine any_op HF (i := 7) rfl rfl ?_
                refine e_call HF (vs := [.int .u8 ((Lb.getD 7 0) : Int), .slice (if cp = 8 then some ⟨gA, oA, none⟩ else (some ⟨gA, oA, none⟩ : Option Addr).map (·.add (8 * 1))) (((lenR l).1 - 4) - 8) (cp - 8)]) rfl (by kernel_rfl) (by kernel_rfl) rfl (by decide) ((parse_any (Lb.getD 7 0) hkd _ (((lenR l).1 - 4) - 8) (cp - 8) ((Lb.take (Lb.length - 4)).drop 8) B _ (hL.mem HM hB) (HM.le hB) (HM.old (by rw [hnL]; exact hrL.midB8 (i := 8) (j := (lenR l).1 - 4) (by omega) (by omega) (by omega))) (by omega) (by rw [List.length_drop, List.length_take]; omega) (by omega) (drop_lt (take_lt hlL _) _)).mono (fun _ _ h => h.some hp)) ?_
                rintro _ w60 ⟨⟨Ab, cb, rfl, ho, hcb⟩, hbw⟩
                refine ⟨_, rfl, ?_⟩
                replace HM := HM.callRow hbw ho
                clear HF; intro a HF
                refine keepS (HM.picks [2] (by decide) rfl) (fun HS => ?_)
                refine any_pures HF (fun _ => HS) (fun _ _ d _ _ h => by cases d <;> exact h) [8, 9, 10] #[true, true, true, true, true, true, true, true, true, true, true, true, false, false] [(62, .bool true), (61, .agg (b.cells Ab cb)), (52, .tuple #[.agg (b.cells Ab cb), .bool true])] (by kernel_rfl) ?_; clear HF; intro a HF
                refine any_all [12] (by kernel_rfl) rfl ?_
                refine all_cons ?_ all_nil
                refine any_op HF (i := 12) rfl rfl ?_
                refine e_storeAll HF HM (i := 1) (cs := #[.int .u8 0, .int .u8 0, .int .i64 0, .int .i64 0, .slice none 0 0]) (ds := (b.cells Ab cb)) rfl rfl rfl rfl si_bk rfl rfl (bk_one _ _ _) rfl ?_
                clear HM; intro w13_12 HM
                refine noS (by kernel_rfl) ?_
                refine any_pures HF (pastS (by kernel_rfl)) (fun _ _ d _ _ h => by cases d <;> exact h) [13] #[true, true, true, true, true, true, true, true, true, true, true, true, true, true] [(8, .bool true)] (by kernel_rfl) ?_; clear HF; intro a HF
                refine any_done (by kernel_rfl) ?_
                replace HF := HF.sub (σ' := [(8, .bool true), (7, .pointer (some ⟨g7, 0, none⟩)), (40, .bool false), (34, .bool false), (26, .bool false), (21, .bool false), (0, .slice (some ⟨gA, oA, none⟩) ((lenR l).1) cp), (15, .bool false), (6, .int .i64 ((lenR l).2 : Int)), (5, .int .i64 ((lenR l).1 : Int)), (4, .int .i64 0), (3, .int .i64 0), (2, .pointer (some ⟨g2, 0, none⟩))]) (by kernel_rfl)
                exact ⟨Ab, cb, g7, HF.sub (by kernel_rfl), HM.picks [1, 0, 2] (by decide) rfl, hcb⟩
              clear HF HM; rintro a w13 ⟨Ab, cb, g7, HF, HM, hcb⟩
              refine wp_seq ?_
              refine wp_seq ?_
              refine from_start ?_
              refine from_pures HF 2 0 (j := 2) [(64, .bool false), (63, .bool true)] (by kernel_rfl) rfl ?_; clear HF; intro a HF
              refine from_done rfl ?_
              replace HF := HF.sub (σ' := [(64, .bool false), (7, .pointer (some ⟨g7, 0, none⟩)), (40, .bool false), (34, .bool false), (26, .bool false), (21, .bool false), (0, .slice (some ⟨gA, oA, none⟩) ((lenR l).1) cp), (15, .bool false), (6, .int .i64 ((lenR l).2 : Int)), (5, .int .i64 ((lenR l).1 : Int)), (4, .int .i64 0), (3, .int .i64 0), (2, .pointer (some ⟨g2, 0, none⟩))]) (by kernel_rfl)
              refine cond_false HF rfl ?_
              refine wp_skip ?_
              refine wp_seq ?_
              refine from_start ?_
              refine from_yl (S := fun wS => Mem w wS _) HF HM (i := 0) rfl rfl (d := 66) rfl (by decide) (v := .agg (b.cells Ab cb)) (Yl.loadS rfl rfl si_bk rfl (fun _ h => range_of_block (h.blk (i := 0) rfl))) ?_; clear HF; intro a HF
              refine from_pures HF 1 1 (j := 2) [(67, .int .i64 ((lenR l).1 : Int))] (by kernel_rfl) rfl ?_; clear HF; intro a HF
              refine from_op HF (i := 2) rfl rfl ?_
              refine e_storeAll HF HM (i := 2) (cs := #[.int .u8 0, .int .u8 0, .int .i64 0, .int .i64 0, .slice none 0 0]) (ds := (b.cells Ab cb)) rfl rfl rfl rfl si_bk rfl rfl (bk_one _ _ _) rfl ?_
              clear HM; intro w16_2 HM
              refine from_pures HF 2 3 (j := 5) [(4, .int .i64 0), (3, .int .i64 ((lenR l).1 : Int))] (by kernel_rfl) rfl ?_; clear HF; intro a HF
              refine from_done rfl ?_
              replace HF := HF.sub (σ' := [(4, .int .i64 0), (3, .int .i64 ((lenR l).1 : Int)), (64, .bool false), (7, .pointer (some ⟨g7, 0, none⟩)), (40, .bool false), (34, .bool false), (26, .bool false), (21, .bool false), (0, .slice (some ⟨gA, oA, none⟩) ((lenR l).1) cp), (15, .bool false), (6, .int .i64 ((lenR l).2 : Int)), (5, .int .i64 ((lenR l).1 : Int)), (2, .pointer (some ⟨g2, 0, none⟩))]) (by kernel_rfl)
              refine wp_ret ?_
              exact ret3 rfl HF (.cellS (i := 2) HF HM rfl rfl si_bk rfl) (.tmp HF rfl) (.tmp HF rfl) (breadIs_ok (readB_some (e := 0) hl0 hLb (by unfold blkOf; rw [if_neg (by rw [hs]; decide), if_neg (fun hh => hh hmg), if_neg (by omega), if_neg (by omega), hp])) (HM.own (i := 1) rfl) hcb HM.below)
theorem same_false {b d : Bk} (h : (b.kind : Int) ≠ d.kind ∨ (b.cpu : Int) ≠ d.cpu ∨ b.lost ≠ d.lost ∨ b.next ≠ d.next) : decide (b = d) = false := by
  rw [decide_eq_false]
  rintro rfl
  omega
theorem same_evs {b d : Bk} (h1 : b.kind = d.kind) (h2 : b.cpu = d.cpu) (h3 : b.lost = d.lost) (h4 : b.next = d.next) : decide (b.evs = d.evs) = decide (b = d) := by
  rw [Bool.eq_iff_iff, decide_eq_true_eq, decide_eq_true_eq]
  cases b; cases d
  simp only at h1 h2 h3 h4
  subst h1; subst h2; subst h3; subst h4
  simp
set_option maxRecDepth 100000 in
set_option maxHeartbeats 4000000 in
theorem same_any (b d : Bk) (A A2 : Option Addr) (c c2 : Nat) (w : World) (hr : Rd w w.heap.size 11 A b.evs.length (b.evs.flatMap evL)) (hr2 : Rd w w.heap.size 11 A2 d.evs.length (d.evs.flatMap evL)) (hn : b.evs.length ≤ 1000000) :
    Calls Tryd.prog 20 #[.agg (b.cells A c), .agg (d.cells A2 c2)] w (Is w (.bool (decide (b = d)))) := by
  refine calls_enter (vs := [.agg (b.cells A c), .agg (d.cells A2 c2)]) Tryd.func20 rfl rfl (by kernel_rfl) (σ0 := [(0, .agg (b.cells A c)), (1, .agg (d.cells A2 c2))]) rfl ?_
  intro a HF
  have HM := Mem.start w
  refine wp_seq ?_
  refine from_start ?_
  refine from_op HF (i := 0) rfl rfl ?_
  refine e_box HF HM (cs := (b.cells A c)) rfl rfl rfl rfl (by decide) ?_
  clear HF HM; intro a w2 g2 HF HM
  refine from_op HF (i := 1) rfl rfl ?_
  refine e_box HF HM (cs := (d.cells A2 c2)) rfl rfl rfl rfl (by decide) ?_
  clear HF HM; intro a w3 g3 HF HM
  refine from_pures HF 1 2 (j := 3) [(4, .bool false)] (by kernel_rfl) rfl ?_; clear HF; intro a HF
  refine from_done rfl ?_
  replace HF := HF.sub (σ' := [(4, .bool false), (3, .pointer (some ⟨g3, 0, none⟩)), (2, .pointer (some ⟨g2, 0, none⟩))]) (by kernel_rfl)
  refine wp_seq ?_
  refine from_start ?_
  refine from_pures HF 1 0 (j := 1) [(5, .pointer (some ⟨g2, 0, none⟩))] (by kernel_rfl) rfl ?_; clear HF; intro a HF
  refine from_yl (S := fun wS => Mem w wS _) HF HM (i := 1) rfl rfl (d := 6) rfl (by decide) (v := .int .u8 (b.kind : Int)) (Yl.load1 rfl rfl (by kernel_rfl) (fun _ h => h.cell (i := 1) rfl rfl)) ?_; clear HF; intro a HF
  refine from_pures HF 1 2 (j := 3) [(7, .pointer (some ⟨g3, 0, none⟩))] (by kernel_rfl) rfl ?_; clear HF; intro a HF
  refine from_yl (S := fun wS => Mem w wS _) HF HM (i := 3) rfl rfl (d := 8) rfl (by decide) (v := .int .u8 (d.kind : Int)) (Yl.load1 rfl rfl (by kernel_rfl) (fun _ h => h.cell (i := 0) rfl rfl)) ?_; clear HF; intro a HF
  refine from_pures HF 2 4 (j := 6) [(10, .bool (((b.kind : Int) : Int) == ((d.kind : Int) : Int))), (9, .bool (((b.kind : Int) : Int) == ((d.kind : Int) : Int)))] (by kernel_rfl) rfl ?_; clear HF; intro a HF
  rcases Bool.eq_false_or_eq_true (((b.kind : Int) : Int) == ((d.kind : Int) : Int)) with hb10 | hb10
  · have HF := HF.as (t := 10) (u := .bool true) rfl (by rw [hb10])
    have hd10 := eq_of_beq hb10
    refine from_pures HF 1 6 (j := 7) [(11, .pointer (some ⟨g2, 1, none⟩))] (by kernel_rfl) rfl ?_; clear HF; intro a HF
    refine from_yl (S := fun wS => Mem w wS _) HF HM (i := 7) rfl rfl (d := 12) rfl (by decide) (v := .int .u8 (b.cpu : Int)) (Yl.load1 rfl rfl (by kernel_rfl) (fun _ h => h.cell (i := 1) rfl rfl)) ?_; clear HF; intro a HF
    refine from_pures HF 1 8 (j := 9) [(13, .pointer (some ⟨g3, 1, none⟩))] (by kernel_rfl) rfl ?_; clear HF; intro a HF
    refine from_yl (S := fun wS => Mem w wS _) HF HM (i := 9) rfl rfl (d := 14) rfl (by decide) (v := .int .u8 (d.cpu : Int)) (Yl.load1 rfl rfl (by kernel_rfl) (fun _ h => h.cell (i := 0) rfl rfl)) ?_; clear HF; intro a HF
    refine from_pures HF 3 10 (j := 13) [(17, .bool (((b.cpu : Int) : Int) == ((d.cpu : Int) : Int))), (16, .bool (((b.cpu : Int) : Int) == ((d.cpu : Int) : Int))), (15, .bool (((b.cpu : Int) : Int) == ((d.cpu : Int) : Int)))] (by kernel_rfl) rfl ?_; clear HF; intro a HF
    rcases Bool.eq_false_or_eq_true (((b.cpu : Int) : Int) == ((d.cpu : Int) : Int)) with hb17 | hb17
    · have HF := HF.as (t := 17) (u := .bool true) rfl (by rw [hb17])
      have hd17 := eq_of_beq hb17
      refine from_pures HF 1 13 (j := 14) [(18, .pointer (some ⟨g2, 2, none⟩))] (by kernel_rfl) rfl ?_; clear HF; intro a HF
      refine from_yl (S := fun wS => Mem w wS _) HF HM (i := 14) rfl rfl (d := 19) rfl (by decide) (v := .int .i64 b.lost) (Yl.load1 rfl rfl (by kernel_rfl) (fun _ h => h.cell (i := 1) rfl rfl)) ?_; clear HF; intro a HF
      refine from_pures HF 1 15 (j := 16) [(20, .pointer (some ⟨g3, 2, none⟩))] (by kernel_rfl) rfl ?_; clear HF; intro a HF
      refine from_yl (S := fun wS => Mem w wS _) HF HM (i := 16) rfl rfl (d := 21) rfl (by decide) (v := .int .i64 d.lost) (Yl.load1 rfl rfl (by kernel_rfl) (fun _ h => h.cell (i := 0) rfl rfl)) ?_; clear HF; intro a HF
      refine from_pures HF 3 17 (j := 20) [(24, .bool ((b.lost : Int) == (d.lost : Int))), (23, .bool ((b.lost : Int) == (d.lost : Int))), (22, .bool ((b.lost : Int) == (d.lost : Int)))] (by kernel_rfl) rfl ?_; clear HF; intro a HF
      rcases Bool.eq_false_or_eq_true ((b.lost : Int) == (d.lost : Int)) with hb24 | hb24
      · have HF := HF.as (t := 24) (u := .bool true) rfl (by rw [hb24])
        have hd24 := eq_of_beq hb24
        refine from_pures HF 1 20 (j := 21) [(25, .pointer (some ⟨g2, 3, none⟩))] (by kernel_rfl) rfl ?_; clear HF; intro a HF
        refine from_yl (S := fun wS => Mem w wS _) HF HM (i := 21) rfl rfl (d := 26) rfl (by decide) (v := .int .i64 b.next) (Yl.load1 rfl rfl (by kernel_rfl) (fun _ h => h.cell (i := 1) rfl rfl)) ?_; clear HF; intro a HF
        refine from_pures HF 1 22 (j := 23) [(27, .pointer (some ⟨g3, 3, none⟩))] (by kernel_rfl) rfl ?_; clear HF; intro a HF
        refine from_yl (S := fun wS => Mem w wS _) HF HM (i := 23) rfl rfl (d := 28) rfl (by decide) (v := .int .i64 d.next) (Yl.load1 rfl rfl (by kernel_rfl) (fun _ h => h.cell (i := 0) rfl rfl)) ?_; clear HF; intro a HF
        refine from_pures HF 3 24 (j := 27) [(31, .bool ((b.next : Int) == (d.next : Int))), (30, .bool ((b.next : Int) == (d.next : Int))), (29, .bool ((b.next : Int) == (d.next : Int)))] (by kernel_rfl) rfl ?_; clear HF; intro a HF
        rcases Bool.eq_false_or_eq_true ((b.next : Int) == (d.next : Int)) with hb31 | hb31
        · have HF := HF.as (t := 31) (u := .bool true) rfl (by rw [hb31])
          have hd31 := eq_of_beq hb31
          refine from_pures HF 1 27 (j := 28) [(32, .pointer (some ⟨g2, 4, none⟩))] (by kernel_rfl) rfl ?_; clear HF; intro a HF
          refine from_yl (S := fun wS => Mem w wS _) HF HM (i := 28) rfl rfl (d := 33) rfl (by decide) (v := .slice A b.evs.length c) (Yl.load1 rfl rfl (by kernel_rfl) (fun _ h => h.cell (i := 1) rfl rfl)) ?_; clear HF; intro a HF
          refine from_pures HF 1 29 (j := 30) [(34, .pointer (some ⟨g3, 4, none⟩))] (by kernel_rfl) rfl ?_; clear HF; intro a HF
          refine from_yl (S := fun wS => Mem w wS _) HF HM (i := 30) rfl rfl (d := 35) rfl (by decide) (v := .slice A2 d.evs.length c2) (Yl.load1 rfl rfl (by kernel_rfl) (fun _ h => h.cell (i := 0) rfl rfl)) ?_; clear HF; intro a HF
          refine from_op HF (i := 31) rfl rfl ?_
          refine e_call HF (vs := [.slice A b.evs.length c, .slice A2 d.evs.length c2]) rfl (by kernel_rfl) (by kernel_rfl) rfl (by decide) (equal_any _ _ _ _ _ _ b.evs d.evs _ (HM.old hr) (HM.old hr2) rfl rfl (by omega)) ?_
          rintro _ w36 ⟨rfl, hbw⟩
          refine ⟨_, rfl, ?_⟩
          replace HM := HM.call hbw
          clear HF; intro a HF
          refine from_pures HF 2 32 (j := 34) [(4, .bool (decide (b.evs = d.evs))), (37, .bool (decide (b.evs = d.evs)))] (by kernel_rfl) rfl ?_; clear HF; intro a HF
          refine from_done rfl ?_
          replace HF := HF.sub (σ' := [(4, .bool (decide (b.evs = d.evs)))]) (by kernel_rfl)
          replace HM := HM.picks (fs' := []) [] (by decide) rfl
          refine wp_ret ?_
          exact ret1 rfl HF (.tmp HF rfl) (⟨by rw [same_evs (by omega) (by omega) (by omega) (by omega)], HM.below⟩)
        · have HF := HF.as (t := 31) (u := .bool false) rfl (by rw [hb31])
          have hd31 := ne_of_beq_false hb31
          refine from_pures HF 7 27 (j := 34) [(4, .bool false), (37, .bool false), (36, undef), (35, undef), (34, undef), (33, undef), (32, undef)] (by kernel_rfl) rfl ?_; clear HF; intro a HF
          refine from_done rfl ?_
          replace HF := HF.sub (σ' := [(4, .bool false)]) (by kernel_rfl)
          replace HM := HM.picks (fs' := []) [] (by decide) rfl
          refine wp_ret ?_
          exact ret1 rfl HF (.tmp HF rfl) (⟨by rw [same_false (by omega)], HM.below⟩)
      · have HF := HF.as (t := 24) (u := .bool false) rfl (by rw [hb24])
        have hd24 := ne_of_beq_false hb24
        refine from_pures HF 14 20 (j := 34) [(4, .bool false), (37, .bool false), (36, undef), (35, undef), (34, undef), (33, undef), (32, undef), (31, .bool false), (30, .bool false), (29, undef), (28, undef), (27, undef), (26, undef), (25, undef)] (by kernel_rfl) rfl ?_; clear HF; intro a HF
        refine from_done rfl ?_
        replace HF := HF.sub (σ' := [(4, .bool false)]) (by kernel_rfl)
        replace HM := HM.picks (fs' := []) [] (by decide) rfl
        refine wp_ret ?_
        exact ret1 rfl HF (.tmp HF rfl) (⟨by rw [same_false (by omega)], HM.below⟩)
    · have HF := HF.as (t := 17) (u := .bool false) rfl (by rw [hb17])
      have hd17 := ne_of_beq_false hb17
      refine from_pures HF 21 13 (j := 34) [(4, .bool false), (37, .bool false), (36, undef), (35, undef), (34, undef), (33, undef), (32, undef), (31, .bool false), (30, .bool false), (29, undef), (28, undef), (27, undef), (26, undef), (25, undef), (24, .bool false), (23, .bool false), (22, undef), (21, undef), (20, undef), (19, undef), (18, undef)] (by kernel_rfl) rfl ?_; clear HF; intro a HF
      refine from_done rfl ?_
      replace HF := HF.sub (σ' := [(4, .bool false)]) (by kernel_rfl)
      replace HM := HM.picks (fs' := []) [] (by decide) rfl
      refine wp_ret ?_
      exact ret1 rfl HF (.tmp HF rfl) (⟨by rw [same_false (by omega)], HM.below⟩)
  · have HF := HF.as (t := 10) (u := .bool false) rfl (by rw [hb10])
    have hd10 := ne_of_beq_false hb10
    refine from_pures HF 28 6 (j := 34) [(4, .bool false), (37, .bool false), (36, undef), (35, undef), (34, undef), (33, undef), (32, undef), (31, .bool false), (30, .bool false), (29, undef), (28, undef), (27, undef), (26, undef), (25, undef), (24, .bool false), (23, .bool false), (22, undef), (21, undef), (20, undef), (19, undef), (18, undef), (17, .bool false), (16, .bool false), (15, undef), (14, undef), (13, undef), (12, undef), (11, undef)] (by kernel_rfl) rfl ?_; clear HF; intro a HF
    refine from_done rfl ?_
    replace HF := HF.sub (σ' := [(4, .bool false)]) (by kernel_rfl)
    replace HM := HM.picks (fs' := []) [] (by decide) rfl
    refine wp_ret ?_
    exact ret1 rfl HF (.tmp HF rfl) (⟨by rw [same_false (by omega)], HM.below⟩)
end Go.Proofs.YtjpielapplglmaaDoor

/- Blocks: contracts in the form that the laws take; the examples. -/
namespace Go.Proofs.YtjpielapplglmaaDoor
open Go.RowKit

theorem BytesIs.as {w w' : World} {er er' : Nat} {R R' : List Nat} {r : Ending} (h : BytesIs w er R r w') (h1 : er = er') (h2 : R = R') : BytesIs w er' R' r w' := by subst h1; subst h2; exact h
theorem bwrite_is (b : Bk) (hok : b.Ok) (A : Option Addr) (c B : Nat) (w : World) (hL : LaidX B w) (hB : B ≤ w.heap.size) (hr : Rd w w.heap.size 11 A b.evs.length (b.evs.flatMap evL)) (hn : b.evs.length ≤ 1000000) {er : Nat} {R : List Nat} (h1 : b.err = er) (h2 : b.out = R) : Calls Tryd.prog 14 #[.agg (b.cells A c)] w (BytesIs w er R) :=
  (bwrite_any b hok A c B w hL hB hr hn).mono fun _ _ h => h.as h1 h2
theorem bsize_is (b : Bk) (hok : b.Ok) (A : Option Addr) (c B : Nat) (w : World) (hL : LaidX B w) (hB : B ≤ w.heap.size) (hr : Rd w w.heap.size 11 A b.evs.length (b.evs.flatMap evL)) (hn : b.evs.length ≤ 1000000) {er n : Nat} (h1 : b.err = er) (h2 : b.out.length = n) : Calls Tryd.prog 18 #[.agg (b.cells A c)] w (Is w (.tuple #[.int .i64 (n : Int), .int .i64 (er : Int)])) :=
  (bsize_any b hok A c B w hL hB hr hn).mono fun _ _ h => by rw [h1, h2] at h; exact h
theorem bcheck_is (b : Bk) (hok : b.Ok) (A : Option Addr) (c B : Nat) (w : World) (hL : LaidX B w) (hB : B ≤ w.heap.size) (hr : Rd w w.heap.size 11 A b.evs.length (b.evs.flatMap evL)) (hn : b.evs.length ≤ 1000000) {er : Nat} (h1 : b.err = er) : Calls Tryd.prog 19 #[.agg (b.cells A c)] w (Is w (.int .i64 (er : Int))) :=
  (bcheck_any b hok A c B w hL hB hr hn).mono fun _ _ h => by rw [h1] at h; exact h
theorem bread_is (A : Option Addr) (n cp : Nat) (l : List Nat) (B : Nat) (w : World) (hL : LaidX B w) (hB : B ≤ w.heap.size) (hr : Rd w w.heap.size 1 A n (l.map B8)) (hc : n ≤ cp) (hln : l.length = n) (hn : n ≤ 9223372036854775807) (hl : ∀ b ∈ l, b < 256) {b : Bk} {m er : Nat} (h : readB l = (b, m, er)) :
    Calls Tryd.prog 16 #[.slice A n cp] w fun r w' => (∃ A c, r = .returned (.tuple #[.agg (b.cells A c), .int .i64 (m : Int), .int .i64 (er : Int)]) ∧ w'.ownsRow w.heap.size 55 11 (.slice A b.evs.length c) b.evs.length (b.evs.flatMap evL) ∧ b.evs.length ≤ c) ∧ Below w.heap.size w w' :=
  (bread_any A n cp l B w hL hB hr hc hln hn hl).mono fun _ _ hh => by rw [h] at hh; exact hh
theorem length_is (A : Option Addr) (n cp : Nat) (l : List Nat) (w : World) (hr : Rd w w.heap.size 1 A n (l.map B8)) (hln : l.length = n) (hn : n ≤ 9223372036854775807) (hl : ∀ b ∈ l, b < 256) {m er : Nat} (h : lenR l = (m, er)) :
    Calls Tryd.prog 17 #[.slice A n cp] w (Is w (.tuple #[.int .i64 (m : Int), .int .i64 (er : Int)])) :=
  (length_any A n cp l w hr hln hn hl).mono fun _ _ hh => by rw [h] at hh; exact hh
theorem str_lit {l : List Nat} {d : Array UInt8} (h : (l.map fun b => UInt8.ofNat b).toArray = d) : ((bstr l).toList == (ByteArray.mk d).toList) = true := by subst h; unfold bstr; simp
theorem bstr_ne {l m : List Nat} (hl : ∀ b ∈ l, b < 256) (hm : ∀ b ∈ m, b < 256) : ((bstr l).toList == (bstr m).toList) = decide (l = m) := by
  rw [Bool.eq_iff_iff, beq_iff_eq, decide_eq_true_eq]
  constructor
  · intro h
    refine bstr_inj hl hm ?_
    rw [ByteArray.toList_eq, ByteArray.toList_eq] at h
    cases hx : bstr l; cases hy : bstr m
    rw [hx, hy] at h
    simpa using h
  · rintro rfl; rfl
def tickE : Ev := { Ev.zero with seq := 5, time := 340, cpu := 2, kind := 5, ticks := 40, got := 7 }
def awX : List Nat := [13, 0, 0, 0, 113, 116, 1, 2, 7, 91, 144, 57, 154]
def awY : List Nat := [23, 0, 0, 0, 113, 116, 1, 1, 2, 0, 1, 5, 212, 2, 5, 0, 0, 40, 7, 28, 64, 73, 151]
def awZ : List Nat := [13, 0, 0, 0, 113, 116, 1, 2, 6, 91, 144, 57, 154]
theorem zeroOk : Bk.Ok Bk.zero := ⟨by decide, by decide, by unfold I64; decide, by unfold I64; decide, by intro e he; cases he⟩
theorem numOk (k c : Nat) (lo nx : Int) (hk : k < 256) (hc : c < 256) (hl : I64 lo) (hn : I64 nx) : Bk.Ok ⟨k, c, lo, nx, []⟩ := ⟨hk, hc, hl, hn, by intro e he; cases he⟩
theorem tickOk : tickE.Ok := ⟨⟨by decide, by decide⟩, ⟨by decide, by decide⟩, by decide, by decide, ⟨by decide, by decide⟩, ⟨by decide, by decide⟩, ⟨by decide, by decide⟩, ⟨by decide, by decide⟩, ⟨by decide, by decide⟩, by decide, ⟨by decide, by decide⟩⟩
theorem oneOk {k c : Nat} {lo nx : Int} {e : Ev} (hk : k < 256) (hc : c < 256) (hl : I64 lo) (hn : I64 nx) (he : e.Ok) : Bk.Ok ⟨k, c, lo, nx, [e]⟩ := ⟨hk, hc, hl, hn, by intro x hx; simp at hx; subst hx; exact he⟩
theorem ba1 : Bk.err ⟨2, 0, 0, 7, []⟩ = 0 ∧ Bk.out ⟨2, 0, 0, 7, []⟩ = awX := by decide +kernel
theorem ba2 : Bk.err ⟨1, 2, 0, 0, [tickE]⟩ = 0 ∧ Bk.out ⟨1, 2, 0, 0, [tickE]⟩ = awY := by decide +kernel
theorem ba3 : Bk.err ⟨1, 2, 3, 0, []⟩ = 0 ∧ (Bk.out ⟨1, 2, 3, 0, []⟩).length = 15 := by decide +kernel
theorem ba4 : readB awX = (⟨2, 0, 0, 7, []⟩, 13, 0) := by decide +kernel
theorem ba5 : readB awZ = (Bk.zero, 0, 102) := by decide +kernel
theorem ba6 : readB (awZ.take 4) = (Bk.zero, 0, 100) := by decide +kernel
theorem ba7 : lenR [12, 0, 0, 0] = (0, 101) := by decide +kernel
theorem ba8 : Bk.err ⟨1, 2, 0, 0, []⟩ = 107 := by decide +kernel
theorem ba9 : Bk.err ⟨2, 0, 0, 0, []⟩ = 107 := by decide +kernel
theorem awX_lt : ∀ b ∈ awX, b < 256 := by decide
theorem awZ_lt : ∀ b ∈ awZ, b < 256 := by decide
end Go.Proofs.YtjpielapplglmaaDoor

/- quantumlaw10: tick, awake: the walks. -/
set_option linter.all false
namespace Go.Proofs.YtjpielapplglmaaDoor
open Go.RowKit
set_option maxRecDepth 100000 in
set_option maxHeartbeats 4000000 in
theorem tick_any (w : World) : Calls Tryd.prog 31 #[] w (Is w (.agg tickE.cells)) := by
  refine calls_enter (vs := []) Tryd.func31 rfl rfl (by kernel_rfl) (σ0 := []) rfl ?_
  intro a HF
  have HM := Mem.start w
  refine wp_seq ?_
  refine from_start ?_
  refine from_op HF (i := 0) rfl rfl ?_
  refine e_alloc HF HM (cs := #[.int .i64 0, .int .i64 0, .int .u8 0, .int .u8 0, .int .i64 0, .int .i64 0, .int .i64 0, .int .i64 0, .int .i64 0, .int .u64 0, .int .i64 0]) rfl (by kernel_rfl) rfl (by decide) ?_
  clear HF HM; intro a w0 g0 HF HM
  refine from_done rfl ?_
  refine wp_seq ?_
  refine from_start ?_
  refine from_yl (S := fun wS => Mem w wS _) HF HM (i := 0) rfl rfl (d := 1) rfl (by decide) (v := .agg #[.int .i64 5, .int .i64 340, .int .u8 2, .int .u8 5, .int .i64 0, .int .i64 0, .int .i64 0, .int .i64 0, .int .i64 40, .int .u64 0, .int .i64 7]) (Yl.build (vs := [(0, .int .i64 5), (1, .int .i64 340), (2, .int .u8 2), (3, .int .u8 5), (8, .int .i64 40), (10, .int .i64 7)]) rfl (by kernel_rfl) (by kernel_rfl)) ?_; clear HF; intro a HF
  refine from_op HF (i := 1) rfl rfl ?_
  refine e_storeAll HF HM (i := 0) (cs := #[.int .i64 0, .int .i64 0, .int .u8 0, .int .u8 0, .int .i64 0, .int .i64 0, .int .i64 0, .int .i64 0, .int .i64 0, .int .u64 0, .int .i64 0]) (ds := #[.int .i64 5, .int .i64 340, .int .u8 2, .int .u8 5, .int .i64 0, .int .i64 0, .int .i64 0, .int .i64 0, .int .i64 40, .int .u64 0, .int .i64 7]) rfl rfl rfl rfl ⟨(by kernel_rfl), (by kernel_rfl)⟩ rfl rfl (by simp [Value.oneCell']) rfl ?_
  clear HM; intro w1_1 HM
  refine from_done rfl ?_
  replace HF := HF.sub (σ' := [(0, .pointer (some ⟨g0, 0, none⟩))]) (by kernel_rfl)
  refine wp_ret ?_
  exact ret1 rfl HF (.cellS (i := 0) HF HM rfl rfl ⟨(by kernel_rfl), (by kernel_rfl)⟩ rfl) (⟨rfl, HM.below⟩)
set_option maxRecDepth 100000 in
set_option maxHeartbeats 4000000 in
theorem bawake_any (B : Nat) (w : World) (hL : LaidX B w) (hB : B ≤ w.heap.size) : Calls Tryd.prog 13 #[] w (Is w (.bool true)) := by
  refine calls_enter (vs := []) Tryd.func13 rfl rfl (by kernel_rfl) (σ0 := []) rfl ?_
  intro a HF
  have HM := Mem.start w
  refine wp_seq ?_
  refine from_start ?_
  refine from_pures HF 1 0 (j := 1) [(0, .bool false)] (by kernel_rfl) rfl ?_; clear HF; intro a HF
  refine from_done rfl ?_
  refine wp_seq ?_
  refine from_start ?_
  refine from_yl (S := fun wS => Mem w wS _) HF HM (i := 0) rfl rfl (d := 19) rfl (by decide) (v := .agg #[.int .u8 2, .int .u8 0, .int .i64 0, .int .i64 7, .slice none 0 0]) (Yl.build (vs := [(0, .int .u8 2), (3, .int .i64 7)]) rfl (by kernel_rfl) (by kernel_rfl)) ?_; clear HF; intro a HF
  refine from_op HF (i := 1) rfl rfl ?_
  refine e_call HF (vs := [.agg #[.int .u8 2, .int .u8 0, .int .i64 0, .int .i64 7, .slice none 0 0]]) rfl (by kernel_rfl) (by kernel_rfl) rfl (by decide) (bwrite_is (⟨2, 0, 0, 7, []⟩ : Bk) (numOk 2 0 0 7 (by decide) (by decide) (by unfold I64; decide) (by unfold I64; decide)) none 0 B _ (hL.mem HM hB) (HM.le hB) (Rd.nil) (by decide) (ba1.1) (ba1.2)) ?_
  rintro _ w20 ⟨⟨A20, c20, rfl, ho, hc20⟩, hbw⟩
  refine ⟨_, rfl, ?_⟩
  replace HM := HM.callRow hbw ho
  clear HF; intro a HF
  have hcn20 : 13 ≤ c20 := hc20
  refine from_pures HF 5 2 (j := 7) [(2, .int .i64 0), (1, .slice A20 13 c20), (22, .int .i64 0), (21, .slice A20 13 c20), (18, .tuple #[.slice A20 13 c20, .int .i64 0])] (by kernel_rfl) rfl ?_; clear HF; intro a HF
  refine from_done rfl ?_
  replace HF := HF.sub (σ' := [(2, .int .i64 0), (1, .slice A20 13 c20), (0, .bool false)]) (by kernel_rfl)
  refine wp_seq ?_
  refine from_start ?_
  refine from_op HF (i := 0) rfl rfl ?_
  refine e_call HF (vs := []) rfl (by kernel_rfl) (by kernel_rfl) rfl (by decide) (tick_any _) ?_
  rintro _ w24 ⟨rfl, hbw⟩
  refine ⟨_, rfl, ?_⟩
  replace HM := HM.call hbw
  clear HF; intro a HF
  refine from_op HF (i := 1) rfl rfl ?_
  refine e_slice HF HM (vs := [(0, .agg #[.int .i64 5, .int .i64 340, .int .u8 2, .int .u8 5, .int .i64 0, .int .i64 0, .int .i64 0, .int .i64 0, .int .i64 40, .int .u64 0, .int .i64 7])]) (cs := #[.int .i64 5, .int .i64 340, .int .u8 2, .int .u8 5, .int .i64 0, .int .i64 0, .int .i64 0, .int .i64 0, .int .i64 40, .int .u64 0, .int .i64 7]) rfl ei_ev (by decide) rfl (by kernel_rfl) rfl (by decide) ?_
  clear HF HM; intro a w25 g25 HF HM
  refine from_yl (S := fun wS => Mem w wS _) HF HM (i := 2) rfl rfl (d := 26) rfl (by decide) (v := .agg #[.int .u8 1, .int .u8 2, .int .i64 0, .int .i64 0, .slice (some ⟨g25, 0, none⟩) 1 1]) (Yl.build (vs := [(0, .int .u8 1), (1, .int .u8 2), (4, .slice (some ⟨g25, 0, none⟩) 1 1)]) rfl (by kernel_rfl) (by kernel_rfl)) ?_; clear HF; intro a HF
  refine from_op HF (i := 3) rfl rfl ?_
  refine e_call HF (vs := [.agg #[.int .u8 1, .int .u8 2, .int .i64 0, .int .i64 0, .slice (some ⟨g25, 0, none⟩) 1 1]]) rfl (by kernel_rfl) (by kernel_rfl) rfl (by decide) (bwrite_is (⟨1, 2, 0, 0, [tickE]⟩ : Bk) (oneOk (by decide) (by decide) (by unfold I64; decide) (by unfold I64; decide) tickOk) (some ⟨g25, 0, none⟩) 1 B _ (hL.mem HM hB) (HM.le hB) (HM.rdBlk (i := 0) (n := 1) (size := 11) rfl rfl) (by decide) (ba2.1) (ba2.2)) ?_
  rintro _ w27 ⟨⟨A27, c27, rfl, ho, hc27⟩, hbw⟩
  refine ⟨_, rfl, ?_⟩
  replace HM := HM.callRow hbw ho
  clear HF; intro a HF
  have hcn27 : 23 ≤ c27 := hc27
  refine from_pures HF 5 4 (j := 9) [(4, .int .i64 0), (3, .slice A27 23 c27), (29, .int .i64 0), (28, .slice A27 23 c27), (23, .tuple #[.slice A27 23 c27, .int .i64 0])] (by kernel_rfl) rfl ?_; clear HF; intro a HF
  refine from_done rfl ?_
  replace HF := HF.sub (σ' := [(4, .int .i64 0), (3, .slice A27 23 c27), (2, .int .i64 0), (1, .slice A20 13 c20), (0, .bool false)]) (by kernel_rfl)
  replace HM := HM.picks (fs' := [.row (.slice A27 23 c27) 23 (awY.map B8) 5 1, .row (.slice A20 13 c20) 13 (awX.map B8) 5 1]) [0, 2] (by decide) rfl
  refine wp_seq ?_
  refine from_start ?_
  refine from_yl (S := fun wS => Mem w wS _) HF HM (i := 0) rfl rfl (d := 31) rfl (by decide) (v := .agg #[.int .u8 1, .int .u8 2, .int .i64 3, .int .i64 0, .slice none 0 0]) (Yl.build (vs := [(0, .int .u8 1), (1, .int .u8 2), (2, .int .i64 3)]) rfl (by kernel_rfl) (by kernel_rfl)) ?_; clear HF; intro a HF
  refine from_op HF (i := 1) rfl rfl ?_
  refine e_call HF (vs := [.agg #[.int .u8 1, .int .u8 2, .int .i64 3, .int .i64 0, .slice none 0 0]]) rfl (by kernel_rfl) (by kernel_rfl) rfl (by decide) (bsize_is (⟨1, 2, 3, 0, []⟩ : Bk) (numOk 1 2 3 0 (by decide) (by decide) (by unfold I64; decide) (by unfold I64; decide)) none 0 B _ (hL.mem HM hB) (HM.le hB) (Rd.nil) (by decide) (ba3.1) (ba3.2)) ?_
  rintro _ w32 ⟨rfl, hbw⟩
  refine ⟨_, rfl, ?_⟩
  replace HM := HM.call hbw
  clear HF; intro a HF
  refine from_pures HF 5 2 (j := 7) [(6, .int .i64 0), (5, .int .i64 15), (34, .int .i64 0), (33, .int .i64 15), (30, .tuple #[.int .i64 15, .int .i64 0])] (by kernel_rfl) rfl ?_; clear HF; intro a HF
  refine from_done rfl ?_
  replace HF := HF.sub (σ' := [(6, .int .i64 0), (5, .int .i64 15), (4, .int .i64 0), (3, .slice A27 23 c27), (2, .int .i64 0), (1, .slice A20 13 c20), (0, .bool false)]) (by kernel_rfl)
  refine wp_seq ?_
  refine wp_seq ?_
  refine from_start ?_
  refine from_pures HF 8 0 (j := 8) [(42, .slice A20 13 c20), (41, .bool false), (40, .bool false), (39, .int .i64 0), (38, .int .i64 0), (37, .int .i64 0), (36, .int .i64 0), (35, .int .i64 0)] (by kernel_rfl) rfl ?_; clear HF; intro a HF
  refine from_yl (S := fun wS => Mem w wS _) HF HM (i := 8) rfl rfl (d := 43) rfl (by decide) (v := .int .i64 13) (Yl.len rfl rfl (by kernel_rfl)) ?_; clear HF; intro a HF
  refine from_pures HF 4 9 (j := 13) [(47, .slice A20 13 c20), (46, .bool false), (45, .bool false), (44, .bool false)] (by kernel_rfl) rfl ?_; clear HF; intro a HF
  refine from_yl (S := fun wS => Mem w wS _) HF HM (i := 13) rfl rfl (d := 48) rfl (by decide) (v := .slice A20 9 c20) (Yl.sliceUpto ei_u8 (j := 9) rfl rfl rfl (by omega)) ?_; clear HF; intro a HF
  refine from_yl (S := fun wS => Mem w wS _) HF HM (i := 14) rfl rfl (d := 49) rfl (by decide) (v := .string (bstr (awX.take 9))) (Yl.str rfl rfl (fun _ h => (h.rd (i := 1) rfl).toB8 (k := 9) (by decide))) ?_; clear HF; intro a HF
  refine from_pures HF 1 15 (j := 16) [(50, .bool (!(((bstr (awX.take 9))).toList == ((ByteArray.mk #[13, 0, 0, 0, 113, 116, 1, 2, 7])).toList)))] (by kernel_rfl) rfl ?_; clear HF; intro a HF
  replace HF := HF.as (t := 50) (u := .bool false) rfl (by rw [str_lit (by kernel_rfl)]; rfl)
  refine from_pures HF 3 16 (j := 19) [(53, .slice A27 23 c27), (52, .bool false), (51, .bool false)] (by kernel_rfl) rfl ?_; clear HF; intro a HF
  refine from_yl (S := fun wS => Mem w wS _) HF HM (i := 19) rfl rfl (d := 54) rfl (by decide) (v := .int .i64 23) (Yl.len rfl rfl (by kernel_rfl)) ?_; clear HF; intro a HF
  refine from_pures HF 4 20 (j := 24) [(58, .slice A27 23 c27), (57, .bool false), (56, .bool false), (55, .bool false)] (by kernel_rfl) rfl ?_; clear HF; intro a HF
  refine from_yl (S := fun wS => Mem w wS _) HF HM (i := 24) rfl rfl (d := 59) rfl (by decide) (v := .slice A27 19 c27) (Yl.sliceUpto ei_u8 (j := 19) rfl rfl rfl (by omega)) ?_; clear HF; intro a HF
  refine from_yl (S := fun wS => Mem w wS _) HF HM (i := 25) rfl rfl (d := 60) rfl (by decide) (v := .string (bstr (awY.take 19))) (Yl.str rfl rfl (fun _ h => (h.rd (i := 0) rfl).toB8 (k := 19) (by decide))) ?_; clear HF; intro a HF
  refine from_pures HF 1 26 (j := 27) [(61, .bool (!(((bstr (awY.take 19))).toList == ((ByteArray.mk #[23, 0, 0, 0, 113, 116, 1, 1, 2, 0, 1, 5, 212, 2, 5, 0, 0, 40, 7])).toList)))] (by kernel_rfl) rfl ?_; clear HF; intro a HF
  replace HF := HF.as (t := 61) (u := .bool false) rfl (by rw [str_lit (by kernel_rfl)]; rfl)
  refine from_pures HF 5 27 (j := 32) [(66, .bool false), (65, .bool false), (64, .int .i64 15), (63, .bool false), (62, .bool false)] (by kernel_rfl) rfl ?_; clear HF; intro a HF
  refine from_done rfl ?_
  replace HF := HF.sub (σ' := [(66, .bool false), (1, .slice A20 13 c20), (0, .bool false)]) (by kernel_rfl)
  replace HM := HM.picks (fs' := [.row (.slice A20 13 c20) 13 (awX.map B8) 5 1]) [1] (by decide) rfl
  refine cond_false HF rfl ?_
  refine wp_skip ?_
  refine wp_seq ?_
  refine from_start ?_
  refine from_pures HF 1 0 (j := 1) [(68, .slice A20 13 c20)] (by kernel_rfl) rfl ?_; clear HF; intro a HF
  refine from_op HF (i := 1) rfl rfl ?_
  refine e_call HF (vs := [.slice A20 13 c20]) rfl (by kernel_rfl) (by kernel_rfl) rfl (by decide) (bread_is A20 13 c20 awX B _ (hL.mem HM hB) (HM.le hB) (HM.rd (i := 0) rfl) (by omega) (rfl) (by decide) (awX_lt) (ba4)) ?_
  rintro _ w69 ⟨⟨A69, c69, rfl, ho, hc69⟩, hbw⟩
  refine ⟨_, rfl, ?_⟩
  replace HM := HM.callRow hbw ho
  clear HF; intro a HF
  refine from_pures HF 4 2 (j := 6) [(72, .int .i64 0), (71, .int .i64 13), (70, .agg #[.int .u8 2, .int .u8 0, .int .i64 0, .int .i64 7, .slice A69 0 c69]), (67, .tuple #[.agg #[.int .u8 2, .int .u8 0, .int .i64 0, .int .i64 7, .slice A69 0 c69], .int .i64 13, .int .i64 0])] (by kernel_rfl) rfl ?_; clear HF; intro a HF
  refine from_op HF (i := 6) rfl rfl ?_
  refine e_alloc HF HM (cs := #[.int .u8 0, .int .u8 0, .int .i64 0, .int .i64 0, .slice none 0 0]) rfl (by kernel_rfl) rfl (by decide) ?_
  clear HF HM; intro a w7 g7 HF HM
  refine from_op HF (i := 7) rfl rfl ?_
  refine e_storeAll HF HM (i := 0) (cs := #[.int .u8 0, .int .u8 0, .int .i64 0, .int .i64 0, .slice none 0 0]) (ds := #[.int .u8 2, .int .u8 0, .int .i64 0, .int .i64 7, .slice A69 0 c69]) rfl rfl rfl rfl si_bk rfl rfl (by simp [Value.oneCell']) rfl ?_
  clear HM; intro w6_7 HM
  refine from_pures HF 2 8 (j := 10) [(9, .int .i64 0), (8, .int .i64 13)] (by kernel_rfl) rfl ?_; clear HF; intro a HF
  refine from_done rfl ?_
  replace HF := HF.sub (σ' := [(9, .int .i64 0), (8, .int .i64 13), (7, .pointer (some ⟨g7, 0, none⟩)), (66, .bool false), (1, .slice A20 13 c20), (0, .bool false)]) (by kernel_rfl)
  replace HM := HM.picks (fs' := [.blk g7 #[.int .u8 2, .int .u8 0, .int .i64 0, .int .i64 7, .slice A69 0 c69] 37, .row (.slice A20 13 c20) 13 (awX.map B8) 5 1]) [0, 2] (by decide) rfl
  refine wp_seq ?_
  refine from_start ?_
  refine from_pures HF 1 0 (j := 1) [(73, .slice A20 13 c20)] (by kernel_rfl) rfl ?_; clear HF; intro a HF
  obtain ⟨gA20, rfl⟩ := own_some (HM.own (i := 1) rfl) (Nat.lt_of_le_of_lt (Nat.zero_le _) (show 8 < 13 from by decide))
  refine from_yl (S := fun wS => Mem w wS _) HF HM (i := 1) rfl rfl (d := 74) rfl (by decide) (v := .pointer (some ⟨gA20, 8, none⟩)) (Yl.indexAddr (ad := ⟨gA20, 0, none⟩) (y := 8) (sz := 1) rfl rfl rfl (by decide) (by kernel_rfl)) ?_; clear HF; intro a HF
  refine from_yl (S := fun wS => Mem w wS _) HF HM (i := 2) rfl rfl (d := 75) rfl (by decide) (v := .int .u8 (7 : Int)) (Yl.load1 rfl rfl (by kernel_rfl) (fun _ h => h.rowOne (i := 1) rfl (k := 8) (map_at (F := B8) (k := 8) (x := 7) (rfl)))) ?_; clear HF; intro a HF
  refine from_pures HF 1 3 (j := 4) [(76, .int .u8 (IntKind.u8.wrap (BitVec.ofInt (IntKind.u8).bits (7 : Int) ^^^ BitVec.ofInt (IntKind.u8).bits 1).toNat))] (by kernel_rfl) rfl ?_; clear HF; intro a HF
  replace HF := HF.as (t := 76) (u := .int .u8 6) rfl (by kernel_rfl)
  refine from_yl (S := fun wS => Mem w wS _) HF HM (i := 4) rfl rfl (d := 77) rfl (by decide) (v := .pointer (some ⟨gA20, 8, none⟩)) (Yl.indexAddr (ad := ⟨gA20, 0, none⟩) (y := 8) (sz := 1) rfl rfl rfl (by decide) (by kernel_rfl)) ?_; clear HF; intro a HF
  refine from_op HF (i := 5) rfl rfl ?_
  refine e_storeRow HF HM (i := 1) rfl rfl rfl rfl (by kernel_rfl) rfl rfl (by decide) ?_
  clear HM; intro w7_5 HM
  replace HM := HM.asRow (i := 1) (ys := awZ.map B8) rfl (putAt_one B8 awX 8 6 (by decide))
  refine from_done rfl ?_
  replace HF := HF.sub (σ' := [(9, .int .i64 0), (8, .int .i64 13), (7, .pointer (some ⟨g7, 0, none⟩)), (66, .bool false), (1, .slice (some ⟨gA20, 0, none⟩) 13 c20), (0, .bool false)]) (by kernel_rfl)
  refine wp_seq ?_
  refine from_start ?_
  refine from_pures HF 1 0 (j := 1) [(79, .slice (some ⟨gA20, 0, none⟩) 13 c20)] (by kernel_rfl) rfl ?_; clear HF; intro a HF
  refine from_op HF (i := 1) rfl rfl ?_
  refine e_call HF (vs := [.slice (some ⟨gA20, 0, none⟩) 13 c20]) rfl (by kernel_rfl) (by kernel_rfl) rfl (by decide) (bread_is (some ⟨gA20, 0, none⟩) 13 c20 awZ B _ (hL.mem HM hB) (HM.le hB) (HM.rd (i := 1) rfl) (by omega) (rfl) (by decide) (awZ_lt) (ba5)) ?_
  rintro _ w80 ⟨⟨A80, c80, rfl, ho, hc80⟩, hbw⟩
  refine ⟨_, rfl, ?_⟩
  replace HM := HM.callRow hbw ho
  clear HF; intro a HF
  refine from_pures HF 4 2 (j := 6) [(83, .int .i64 102), (82, .int .i64 0), (81, .agg #[.int .u8 0, .int .u8 0, .int .i64 0, .int .i64 0, .slice A80 0 c80]), (78, .tuple #[.agg #[.int .u8 0, .int .u8 0, .int .i64 0, .int .i64 0, .slice A80 0 c80], .int .i64 0, .int .i64 102])] (by kernel_rfl) rfl ?_; clear HF; intro a HF
  refine from_op HF (i := 6) rfl rfl ?_
  refine e_alloc HF HM (cs := #[.int .u8 0, .int .u8 0, .int .i64 0, .int .i64 0, .slice none 0 0]) rfl (by kernel_rfl) rfl (by decide) ?_
  clear HF HM; intro a w10 g10 HF HM
  refine from_op HF (i := 7) rfl rfl ?_
  refine e_storeAll HF HM (i := 0) (cs := #[.int .u8 0, .int .u8 0, .int .i64 0, .int .i64 0, .slice none 0 0]) (ds := #[.int .u8 0, .int .u8 0, .int .i64 0, .int .i64 0, .slice A80 0 c80]) rfl rfl rfl rfl si_bk rfl rfl (by simp [Value.oneCell']) rfl ?_
  clear HM; intro w8_7 HM
  refine from_pures HF 2 8 (j := 10) [(12, .int .i64 102), (11, .int .i64 0)] (by kernel_rfl) rfl ?_; clear HF; intro a HF
  refine from_done rfl ?_
  replace HF := HF.sub (σ' := [(12, .int .i64 102), (9, .int .i64 0), (8, .int .i64 13), (7, .pointer (some ⟨g7, 0, none⟩)), (66, .bool false), (1, .slice (some ⟨gA20, 0, none⟩) 13 c20), (0, .bool false)]) (by kernel_rfl)
  replace HM := HM.picks (fs' := [.blk g7 #[.int .u8 2, .int .u8 0, .int .i64 0, .int .i64 7, .slice A69 0 c69] 37, .row (.slice (some ⟨gA20, 0, none⟩) 13 c20) 13 (awZ.map B8) 5 1]) [2, 3] (by decide) rfl
  refine wp_seq ?_
  refine from_start ?_
  refine from_pures HF 1 0 (j := 1) [(85, .slice (some ⟨gA20, 0, none⟩) 13 c20)] (by kernel_rfl) rfl ?_; clear HF; intro a HF
  refine from_yl (S := fun wS => Mem w wS _) HF HM (i := 1) rfl rfl (d := 86) rfl (by decide) (v := .slice (some ⟨gA20, 0, none⟩) 4 c20) (Yl.sliceUpto ei_u8 (j := 4) rfl rfl rfl (by omega)) ?_; clear HF; intro a HF
  refine from_op HF (i := 2) rfl rfl ?_
  refine e_call HF (vs := [.slice (some ⟨gA20, 0, none⟩) 4 c20]) rfl (by kernel_rfl) (by kernel_rfl) rfl (by decide) (bread_is (some ⟨gA20, 0, none⟩) 4 c20 (awZ.take 4) B _ (hL.mem HM hB) (HM.le hB) (((HM.rd (i := 1) rfl).toB8 (k := 4) (by decide))) (by omega) (rfl) (by decide) ((take_lt awZ_lt 4)) (ba6)) ?_
  rintro _ w87 ⟨⟨A87, c87, rfl, ho, hc87⟩, hbw⟩
  refine ⟨_, rfl, ?_⟩
  replace HM := HM.callRow hbw ho
  clear HF; intro a HF
  refine from_pures HF 4 3 (j := 7) [(90, .int .i64 100), (89, .int .i64 0), (88, .agg #[.int .u8 0, .int .u8 0, .int .i64 0, .int .i64 0, .slice A87 0 c87]), (84, .tuple #[.agg #[.int .u8 0, .int .u8 0, .int .i64 0, .int .i64 0, .slice A87 0 c87], .int .i64 0, .int .i64 100])] (by kernel_rfl) rfl ?_; clear HF; intro a HF
  refine from_op HF (i := 7) rfl rfl ?_
  refine e_alloc HF HM (cs := #[.int .u8 0, .int .u8 0, .int .i64 0, .int .i64 0, .slice none 0 0]) rfl (by kernel_rfl) rfl (by decide) ?_
  clear HF HM; intro a w13 g13 HF HM
  refine from_op HF (i := 8) rfl rfl ?_
  refine e_storeAll HF HM (i := 0) (cs := #[.int .u8 0, .int .u8 0, .int .i64 0, .int .i64 0, .slice none 0 0]) (ds := #[.int .u8 0, .int .u8 0, .int .i64 0, .int .i64 0, .slice A87 0 c87]) rfl rfl rfl rfl si_bk rfl rfl (by simp [Value.oneCell']) rfl ?_
  clear HM; intro w9_8 HM
  refine from_pures HF 2 9 (j := 11) [(15, .int .i64 100), (14, .int .i64 0)] (by kernel_rfl) rfl ?_; clear HF; intro a HF
  refine from_done rfl ?_
  replace HF := HF.sub (σ' := [(15, .int .i64 100), (12, .int .i64 102), (9, .int .i64 0), (8, .int .i64 13), (7, .pointer (some ⟨g7, 0, none⟩)), (66, .bool false), (1, .slice (some ⟨gA20, 0, none⟩) 13 c20), (0, .bool false)]) (by kernel_rfl)
  replace HM := HM.picks (fs' := [.blk g7 #[.int .u8 2, .int .u8 0, .int .i64 0, .int .i64 7, .slice A69 0 c69] 37, .row (.slice (some ⟨gA20, 0, none⟩) 13 c20) 13 (awZ.map B8) 5 1]) [2, 3] (by decide) rfl
  refine wp_seq ?_
  refine from_start ?_
  refine from_op HF (i := 0) rfl rfl ?_
  refine e_slice HF HM (vs := [(0, .int .u8 12), (1, .int .u8 0), (2, .int .u8 0), (3, .int .u8 0)]) (cs := #[.int .u8 12, .int .u8 0, .int .u8 0, .int .u8 0]) rfl ei_u8 (by decide) rfl (by kernel_rfl) rfl (by decide) ?_
  clear HF HM; intro a w92 g92 HF HM
  refine from_op HF (i := 1) rfl rfl ?_
  refine e_call HF (vs := [.slice (some ⟨g92, 0, none⟩) 4 4]) rfl (by kernel_rfl) (by kernel_rfl) rfl (by decide) (length_is _ 4 _ [12, 0, 0, 0] _ (HM.rdBlk (i := 0) (n := 4) (size := 1) rfl rfl) rfl (by decide) (by decide) ba7) ?_
  rintro _ w93 ⟨rfl, hbw⟩
  refine ⟨_, rfl, ?_⟩
  replace HM := HM.call hbw
  clear HF; intro a HF
  refine from_pures HF 5 2 (j := 7) [(17, .int .i64 101), (16, .int .i64 0), (95, .int .i64 101), (94, .int .i64 0), (91, .tuple #[.int .i64 0, .int .i64 101])] (by kernel_rfl) rfl ?_; clear HF; intro a HF
  refine from_done rfl ?_
  replace HF := HF.sub (σ' := [(17, .int .i64 101), (15, .int .i64 100), (12, .int .i64 102), (9, .int .i64 0), (8, .int .i64 13), (7, .pointer (some ⟨g7, 0, none⟩)), (66, .bool false), (1, .slice (some ⟨gA20, 0, none⟩) 13 c20), (0, .bool false)]) (by kernel_rfl)
  replace HM := HM.picks (fs' := [.blk g7 #[.int .u8 2, .int .u8 0, .int .i64 0, .int .i64 7, .slice A69 0 c69] 37, .row (.slice (some ⟨gA20, 0, none⟩) 13 c20) 13 (awZ.map B8) 5 1]) [1, 2] (by decide) rfl
  refine wp_seq ?_
  refine from_start ?_
  refine from_pures HF 8 0 (j := 8) [(103, .pointer (some ⟨g7, 0, none⟩)), (102, .bool true), (101, .bool true), (100, .bool true), (99, .int .i64 13), (98, .bool true), (97, .bool true), (96, .int .i64 0)] (by kernel_rfl) rfl ?_; clear HF; intro a HF
  refine from_yl (S := fun wS => Mem w wS _) HF HM (i := 8) rfl rfl (d := 104) rfl (by decide) (v := .int .u8 2) (Yl.load1 rfl rfl (by kernel_rfl) (fun _ h => h.cell (i := 0) rfl rfl)) ?_; clear HF; intro a HF
  refine from_pures HF 4 9 (j := 13) [(108, .pointer (some ⟨g7, 3, none⟩)), (107, .bool true), (106, .bool true), (105, .bool true)] (by kernel_rfl) rfl ?_; clear HF; intro a HF
  refine from_yl (S := fun wS => Mem w wS _) HF HM (i := 13) rfl rfl (d := 109) rfl (by decide) (v := .int .i64 7) (Yl.load1 rfl rfl (by kernel_rfl) (fun _ h => h.cell (i := 0) rfl rfl)) ?_; clear HF; intro a HF
  refine from_pures HF 15 14 (j := 29) [(124, .bool true), (123, .bool true), (122, .bool true), (121, .int .i64 101), (120, .bool true), (119, .bool true), (118, .bool true), (117, .int .i64 100), (116, .bool true), (115, .bool true), (114, .bool true), (113, .int .i64 102), (112, .bool true), (111, .bool true), (110, .bool true)] (by kernel_rfl) rfl ?_; clear HF; intro a HF
  refine from_yl (S := fun wS => Mem w wS _) HF HM (i := 29) rfl rfl (d := 125) rfl (by decide) (v := .agg #[.int .u8 1, .int .u8 2, .int .i64 0, .int .i64 0, .slice none 0 0]) (Yl.build (vs := [(0, .int .u8 1), (1, .int .u8 2)]) rfl (by kernel_rfl) (by kernel_rfl)) ?_; clear HF; intro a HF
  refine from_op HF (i := 30) rfl rfl ?_
  refine e_call HF (vs := [.agg #[.int .u8 1, .int .u8 2, .int .i64 0, .int .i64 0, .slice none 0 0]]) rfl (by kernel_rfl) (by kernel_rfl) rfl (by decide) (bcheck_is (⟨1, 2, 0, 0, []⟩ : Bk) (numOk 1 2 0 0 (by decide) (by decide) (by unfold I64; decide) (by unfold I64; decide)) none 0 B _ (hL.mem HM hB) (HM.le hB) (Rd.nil) (by decide) (ba8)) ?_
  rintro _ w126 ⟨rfl, hbw⟩
  refine ⟨_, rfl, ?_⟩
  replace HM := HM.call hbw
  clear HF; intro a HF
  refine from_pures HF 3 31 (j := 34) [(129, .bool true), (128, .bool true), (127, .bool true)] (by kernel_rfl) rfl ?_; clear HF; intro a HF
  refine from_yl (S := fun wS => Mem w wS _) HF HM (i := 34) rfl rfl (d := 130) rfl (by decide) (v := .agg #[.int .u8 2, .int .u8 0, .int .i64 0, .int .i64 0, .slice none 0 0]) (Yl.build (vs := [(0, .int .u8 2)]) rfl (by kernel_rfl) (by kernel_rfl)) ?_; clear HF; intro a HF
  refine from_op HF (i := 35) rfl rfl ?_
  refine e_call HF (vs := [.agg #[.int .u8 2, .int .u8 0, .int .i64 0, .int .i64 0, .slice none 0 0]]) rfl (by kernel_rfl) (by kernel_rfl) rfl (by decide) (bcheck_is (⟨2, 0, 0, 0, []⟩ : Bk) (numOk 2 0 0 0 (by decide) (by decide) (by unfold I64; decide) (by unfold I64; decide)) none 0 B _ (hL.mem HM hB) (HM.le hB) (Rd.nil) (by decide) (ba9)) ?_
  rintro _ w131 ⟨rfl, hbw⟩
  refine ⟨_, rfl, ?_⟩
  replace HM := HM.call hbw
  clear HF; intro a HF
  refine from_pures HF 3 36 (j := 39) [(0, .bool true), (133, .bool true), (132, .bool true)] (by kernel_rfl) rfl ?_; clear HF; intro a HF
  refine from_done rfl ?_
  replace HF := HF.sub (σ' := [(0, .bool true), (7, .pointer (some ⟨g7, 0, none⟩)), (66, .bool false), (1, .slice (some ⟨gA20, 0, none⟩) 13 c20)]) (by kernel_rfl)
  refine wp_ret ?_
  exact ret1 rfl HF (.tmp HF rfl) (⟨rfl, HM.below⟩)
end Go.Proofs.YtjpielapplglmaaDoor

/- The blocks that numbers make: plain, and in memory. -/
namespace Go.Proofs.YtjpielapplglmaaDoor
open Go.RowKit

structure Sb where
  e : Bool
  cpu : Nat
  lost : Nat
  b : Bs
  l : List Sm
structure Sb.Ok (x : Sb) : Prop where
  cpu : x.cpu < 256
  lost : x.lost < 4294967296
  b : x.b.Ok
  l : ∀ y ∈ x.l, y.Ok
def Sb.cells (x : Sb) (A : Option Addr) (c : Nat) : Array Value := #[.bool x.e, .int .u8 (x.cpu : Int), .int .u32 (x.lost : Int), .int .i64 x.b.seq, .int .i64 x.b.time, .slice A x.l.length c]
theorem sb_one (x : Sb) (A : Option Addr) (c : Nat) : ∀ v ∈ (x.cells A c).toList, v.oneCell' = true := by intro v hv; simp [Sb.cells] at hv; rcases hv with rfl | rfl | rfl | rfl | rfl | rfl <;> rfl
theorem si_sb : SI Tryd.prog 30 6 := ⟨by kernel_rfl, by kernel_rfl⟩
def Sb.es (x : Sb) : List Ev := madeL x.cpu x.b (x.l.take 60)
def Sb.made (x : Sb) : Bk := if x.e = true then ⟨2, 0, 0, 1 + pickZ x.b.seq 281474976710657, []⟩ else ⟨1, x.cpu % 64, if x.es.length = 0 ∧ x.lost = 0 then 1 else (x.lost : Int), 0, x.es⟩
def MadeIs (w : World) (b : Bk) (r : Ending) (w' : World) : Prop :=
  (∃ A c, r = .returned (.agg (b.cells A c)) ∧ w'.ownsRow w.heap.size 55 11 (.slice A b.evs.length c) b.evs.length (b.evs.flatMap evL) ∧ b.evs.length ≤ c) ∧ Below w.heap.size w w'
theorem madeIs_of {w w' : World} {b d : Bk} {A : Option Addr} {c : Nat} (h : b = d) (ho : w'.ownsRow w.heap.size 55 11 (.slice A d.evs.length c) d.evs.length (d.evs.flatMap evL)) (hc : d.evs.length ≤ c) (hb : Below w.heap.size w w') : MadeIs w b (.returned (.agg (d.cells A c))) w' := by
  subst h; exact ⟨⟨A, c, rfl, ho, hc⟩, hb⟩
theorem pick_next (x : Int) : 0 ≤ pickZ x 281474976710657 ∧ pickZ x 281474976710657 ≤ 281474976710656 := by unfold pickZ; rw [if_neg (by omega)]; omega
theorem take_smOk {x : Sb} (h : x.Ok) : ∀ y ∈ x.l.take 60, y.Ok := fun y hy => h.l y (List.mem_of_mem_take hy)
theorem es_chain {x : Sb} (h : x.Ok) : Chain (x.cpu % 64) none x.b.based x.es := madeL_chain h.cpu x.b (take_smOk h)
theorem es_len (x : Sb) : x.es.length ≤ 60 := by
  unfold Sb.es madeL
  rw [madeGo_len, List.length_take, List.length_take]
  omega
theorem chain_ev : ∀ (es : List Ev) (cpu : Nat) (p : Option Ev) (b : Bs), Chain cpu p b es → ∀ e ∈ es, e.Ok ∧ e.cpu = cpu
  | [], _, _, _, _, e, he => by cases he
  | x :: r, cpu, p, b, h, e, he => by
    obtain ⟨h1, h2, h3, h4⟩ := h
    rcases List.mem_cons.1 he with rfl | he
    · exact ⟨h1.ok, h2⟩
    · exact chain_ev r cpu _ _ h4 e he
theorem made_good {x : Sb} (h : x.Ok) : x.made.Ok ∧ x.made.err = 0 ∧ x.made.evs.length ≤ 60 := by
  unfold Sb.made
  split
  · have hp := pick_next x.b.seq
    have hok : Bk.Ok ⟨2, 0, 0, 1 + pickZ x.b.seq 281474976710657, []⟩ := ⟨by show 2 < 256; decide, by show 0 < 256; decide, by unfold I64; simp, by unfold I64; show _ ≤ 1 + pickZ _ _ ∧ 1 + pickZ _ _ ≤ _; omega, by intro e he; cases he⟩
    have hf : Bk.fits ⟨2, 0, 0, 1 + pickZ x.b.seq 281474976710657, []⟩ = true := by
      unfold Bk.fits
      rw [if_neg (by show ¬ 2 = 1; omega), if_pos rfl]
      unfold Bk.fitsN
      rw [decide_eq_true_eq]
      exact ⟨by show 1 ≤ 1 + pickZ _ _; omega, by show 1 + pickZ _ _ ≤ _; omega, rfl, rfl, rfl⟩
    exact ⟨hok, err_is hf (by have := body_length ⟨2, 0, 0, 1 + pickZ x.b.seq 281474976710657, []⟩; simp only [List.length_nil] at this; omega), by show 0 ≤ 60; omega⟩
  · have hch := es_chain h
    have hev := chain_ev _ _ _ _ hch
    have hl := es_len x
    have hlost := h.lost
    have hb := based_right x.b
    have hrow := (write_fwd hb.1 hch).1
    obtain ⟨lo, hlo, hlo1, hlo2⟩ : ∃ lo : Int, (if x.es.length = 0 ∧ x.lost = 0 then 1 else (x.lost : Int)) = lo ∧ (0 ≤ lo ∧ lo ≤ 4294967296) ∧ (x.es.length = 0 → 0 < lo) := by
      refine ⟨_, rfl, ?_, ?_⟩
      · split <;> omega
      · intro h0; split <;> omega
    rw [hlo]
    have hok : Bk.Ok ⟨1, x.cpu % 64, lo, 0, x.es⟩ := ⟨by show 1 < 256; decide, by show x.cpu % 64 < 256; omega, by unfold I64; show _ ≤ lo ∧ lo ≤ _; omega, by unfold I64; simp, fun e he => (hev e he).1⟩
    have hf : Bk.fits ⟨1, x.cpu % 64, lo, 0, x.es⟩ = true := by
      unfold Bk.fits
      rw [if_pos rfl]
      unfold Bk.fitsE
      rw [decide_eq_true_eq]
      refine ⟨by show (rowR x.es).2 = 0; rw [hrow], by show x.cpu % 64 < 64; omega, hlo1.1, by show lo ≤ _; omega, rfl, ?_⟩
      by_cases h0 : x.es.length = 0
      · rw [headOk_nil h0, decide_eq_true_eq]; exact hlo2 h0
      · rw [headOk_cons h0, decide_eq_true_eq]
        exact (hev _ (getD_mem Ev.zero (by omega))).2
    exact ⟨hok, err_is hf (by have := body_length ⟨1, x.cpu % 64, lo, 0, x.es⟩; simp only at this; omega), hl⟩
theorem made_out (x : Sb) (h : x.Ok) : 13 ≤ x.made.out.length ∧ x.made.out.length ≤ 4096 := by
  have h1 := out_length (made_good h).2.1
  have h2 := body_pos x.made
  have h3 := out_len x.made
  omega
theorem take60 (l : List Sm) : l.take (l.take 60).length = l.take 60 := by
  rw [List.length_take]
  rcases Nat.le_total 60 l.length with h | h
  · rw [Nat.min_eq_left h]
  · rw [Nat.min_eq_right h, List.take_of_length_le (Nat.le_refl _), List.take_of_length_le h]
theorem min60 (n : Nat) (l : List Sm) (h : l.length = n) : Value.int .i64 (if ((60 : Int) < (n : Int)) then 60 else (n : Int)) = .int .i64 (((l.take 60).length : Nat) : Int) := by
  congr 1
  rw [List.length_take]
  split <;> omega
end Go.Proofs.YtjpielapplglmaaDoor

/- What the reading of an argument gives: blocks, and blocks in numbers. -/
namespace Go.Proofs.YtjpielapplglmaaDoor
open Go.RowKit Go.ChangeShapes Go.WideShapes Go.ChangeAt

section
variable {H : Type} {enc : TypeId × Value → H} {W : World} {b0 : Nat} {v : Value} {d : DataW H} {p : List MemPlace}
theorem und_bool : Tryd.prog.underlying 4 = some .bool := by kernel_rfl
theorem cells_bool : Tryd.prog.cellsOf 4 = 1 := by kernel_rfl
theorem cells_u32 : Tryd.prog.cellsOf 25 = 1 := by kernel_rfl
theorem cells_sms : Tryd.prog.cellsOf 28 = 1 := by kernel_rfl
theorem sb_f0 : fieldAt Tryd.prog 30 0 0 4 = true := by kernel_rfl
theorem sb_f1 : fieldAt Tryd.prog 30 1 1 5 = true := by kernel_rfl
theorem sb_f2 : fieldAt Tryd.prog 30 2 2 25 = true := by kernel_rfl
theorem sb_f3 : fieldAt Tryd.prog 30 3 3 27 = true := by kernel_rfl
theorem sb_f4 : fieldAt Tryd.prog 30 4 5 28 = true := by kernel_rfl
theorem sb_cells : Tryd.prog.cellsOf 30 = 6 := by kernel_rfl
theorem bk_f0 : fieldAt Tryd.prog 37 0 0 5 = true := by kernel_rfl
theorem bk_f1 : fieldAt Tryd.prog 37 1 1 5 = true := by kernel_rfl
theorem bk_f2 : fieldAt Tryd.prog 37 2 2 3 = true := by kernel_rfl
theorem bk_f3 : fieldAt Tryd.prog 37 3 3 3 = true := by kernel_rfl
theorem bk_f4 : fieldAt Tryd.prog 37 4 4 35 = true := by kernel_rfl
theorem bk_cells : Tryd.prog.cellsOf 37 = 5 := by kernel_rfl
set_option maxRecDepth 100000 in
theorem arg_u32 (hval : Value.okWide Tryd.prog W .any b0 25 v) (h : DataW.Trod enc Tryd.prog W 0 (fun _ => true) true 25 v d p) : ∃ m : Nat, v = .int .u32 (m : Int) ∧ m < 4294967296 := by
  obtain ⟨m, rfl, _, _, wf⟩ := open_int und_u32 hval h
  have := u32_wf wf
  exact ⟨m.toNat, by rw [Int.toNat_of_nonneg this.1], by omega⟩
set_option maxRecDepth 100000 in
theorem trod_smalls {fuel : Nat} {cs : List Value} {x : DataW H × List MemPlace} (hf : DataW.trod enc Tryd.prog W 0 (fun _ => true) true fuel 28 cs = some x) :
    ∃ (A : Option Addr) (n c : Nat) (l : List Sm), cs = [.slice A n c] ∧ n ≤ c ∧ c ≤ maxLen ∧ (∀ x ∈ l, x.Ok) ∧ Rd W W.heap.size 11 A n (l.flatMap smL) := by
  obtain ⟨A, n, c, css, hcs, h1, h2, _, h3, h4⟩ := slice_structs und_smalls sm_fields (by decide) hf
  obtain ⟨l, h5, h6⟩ := exists_sms css h3
  exact ⟨A, n, c, l, hcs, h1, h2, h6, by rw [h5]; exact h4⟩
theorem six_list {cs : List Value} {a b c d e f : Value} (hl : cs.length = 6) (h0 : cs[0]? = some a) (h1 : cs[1]? = some b) (h2 : cs[2]? = some c) (h3 : cs[3]? = some d) (h4 : cs[4]? = some e) (h5 : cs[5]? = some f) : cs = [a, b, c, d, e, f] := by
  refine list_eq hl fun i hi => ?_
  have hi' : i < 6 := hi
  have hc : i = 0 ∨ i = 1 ∨ i = 2 ∨ i = 3 ∨ i = 4 ∨ i = 5 := by omega
  rcases hc with rfl | rfl | rfl | rfl | rfl | rfl <;> assumption
theorem five_list {cs : List Value} {a b c d e : Value} (hl : cs.length = 5) (h0 : cs[0]? = some a) (h1 : cs[1]? = some b) (h2 : cs[2]? = some c) (h3 : cs[3]? = some d) (h4 : cs[4]? = some e) : cs = [a, b, c, d, e] := by
  refine list_eq hl fun i hi => ?_
  have hi' : i < 5 := hi
  have hc : i = 0 ∨ i = 1 ∨ i = 2 ∨ i = 3 ∨ i = 4 := by omega
  rcases hc with rfl | rfl | rfl | rfl | rfl <;> assumption
theorem smL_lenN {A : Option Addr} {n : Nat} {l : List Sm} (h : Rd W W.heap.size 11 A n (l.flatMap smL)) : l.length = n := by
  have h1 := h.len
  rw [flat_len smL 11 smL_len] at h1
  omega
theorem evL_lenN {A : Option Addr} {n : Nat} {l : List Ev} (h : Rd W W.heap.size 11 A n (l.flatMap evL)) : l.length = n := by
  have h1 := h.len
  rw [flat_len evL 11 evL_len] at h1
  omega
set_option maxRecDepth 100000 in
theorem arg_sb (hval : Value.okWide Tryd.prog W .any b0 30 v) (h : DataW.Trod enc Tryd.prog W 0 (fun _ => true) true 30 v d p) :
    ∃ (x : Sb) (A : Option Addr) (c : Nat), v = .agg (x.cells A c) ∧ x.Ok ∧ x.l.length ≤ c ∧ c ≤ maxLen ∧ Rd W W.heap.size 11 A x.l.length (x.l.flatMap smL) := by
  obtain ⟨fs, hu⟩ := of_isStructT (show isStructT Tryd.prog 30 = true by kernel_rfl)
  obtain ⟨cs, rfl, hs⟩ := okWide_struct hu hval
  obtain ⟨fuel, hf⟩ := h
  have hf : DataW.trod enc Tryd.prog W 0 (fun _ => true) true fuel 30 cs.toList = some (d, p) := hf
  obtain ⟨hl, _, y0, g0⟩ := struct_field sb_f0 hf
  obtain ⟨_, _, y1, g1⟩ := struct_field sb_f1 hf
  obtain ⟨_, _, y2, g2⟩ := struct_field sb_f2 hf
  obtain ⟨_, _, y3, g3⟩ := struct_field sb_f3 hf
  obtain ⟨_, _, y4, g4⟩ := struct_field sb_f4 hf
  have hl6 : cs.toList.length = 6 := by rw [← sb_cells]; exact hl
  obtain ⟨e, e0, _⟩ := DataW.trod_bool und_bool g0
  obtain ⟨cpu, e1, _, w1⟩ := DataW.trod_int und_u8 g1
  obtain ⟨lo, e2, _, w2⟩ := DataW.trod_int und_u32 g2
  obtain ⟨_, h0⟩ := struct_ints bs_fields g3
  obtain ⟨s, hs0, ws⟩ := h0 0 .i64 rfl
  obtain ⟨t, ht0, wt⟩ := h0 1 .i64 rfl
  obtain ⟨A, n, c, l, e4, k1, k2, k3, k4⟩ := trod_smalls g4
  rw [cells_bool] at e0
  rw [cells_u8] at e1
  rw [cells_u32] at e2
  rw [cells_sms] at e4
  have a0 := one_of_take e0
  have a1 := one_of_take e1
  have a2 := one_of_take e2
  have a4 := one_of_take e4
  rw [cells_base, List.getElem?_take, List.getElem?_drop] at hs0 ht0
  simp only [Nat.reduceLT, if_true] at hs0 ht0
  have u1 := u8_wf w1
  have u2 := u32_wf w2
  have hn := smL_lenN k4
  subst hn
  refine ⟨⟨e, cpu.toNat, lo.toNat, ⟨s, t⟩, l⟩, A, c, ?_, ⟨by show cpu.toNat < 256; omega, by show lo.toNat < _; omega, ⟨i64_wf ws, i64_wf wt⟩, k3⟩, k1, k2, k4⟩
  congr 1
  apply Array.toList_inj.1
  refine (six_list hl6 a0 a1 a2 hs0 ht0 a4).trans ?_
  show _ = [Value.bool e, .int .u8 ((cpu.toNat : Nat) : Int), .int .u32 ((lo.toNat : Nat) : Int), .int .i64 s, .int .i64 t, .slice A l.length c]
  rw [Int.toNat_of_nonneg u1.1, Int.toNat_of_nonneg u2.1]
set_option maxRecDepth 100000 in
theorem arg_bk (hval : Value.okWide Tryd.prog W .any b0 37 v) (h : DataW.Trod enc Tryd.prog W 0 (fun _ => true) true 37 v d p) :
    ∃ (x : Bk) (A : Option Addr) (c : Nat), v = .agg (x.cells A c) ∧ x.Ok ∧ x.evs.length ≤ c ∧ c ≤ maxLen ∧ Rd W W.heap.size 11 A x.evs.length (x.evs.flatMap evL) := by
  obtain ⟨fs, hu⟩ := of_isStructT (show isStructT Tryd.prog 37 = true by kernel_rfl)
  obtain ⟨cs, rfl, hs⟩ := okWide_struct hu hval
  obtain ⟨fuel, hf⟩ := h
  have hf : DataW.trod enc Tryd.prog W 0 (fun _ => true) true fuel 37 cs.toList = some (d, p) := hf
  obtain ⟨hl, _, y0, g0⟩ := struct_field bk_f0 hf
  obtain ⟨_, _, y1, g1⟩ := struct_field bk_f1 hf
  obtain ⟨_, _, y2, g2⟩ := struct_field bk_f2 hf
  obtain ⟨_, _, y3, g3⟩ := struct_field bk_f3 hf
  obtain ⟨_, _, y4, g4⟩ := struct_field bk_f4 hf
  have hl5 : cs.toList.length = 5 := by rw [← bk_cells]; exact hl
  obtain ⟨kd, e0, _, w0⟩ := DataW.trod_int und_u8 g0
  obtain ⟨cpu, e1, _, w1⟩ := DataW.trod_int und_u8 g1
  obtain ⟨lo, e2, _, w2⟩ := DataW.trod_int und_int g2
  obtain ⟨nx, e3, _, w3⟩ := DataW.trod_int und_int g3
  obtain ⟨A, n, c, l, e4, k1, k2, k3, k4⟩ := trod_events g4
  rw [cells_u8] at e0 e1
  rw [cells_int] at e2 e3
  rw [cells_evs] at e4
  have a0 := one_of_take e0
  have a1 := one_of_take e1
  have a2 := one_of_take e2
  have a3 := one_of_take e3
  have a4 := one_of_take e4
  have u0 := u8_wf w0
  have u1 := u8_wf w1
  have hn := evL_lenN k4
  subst hn
  refine ⟨⟨kd.toNat, cpu.toNat, lo, nx, l⟩, A, c, ?_, ⟨by show kd.toNat < 256; omega, by show cpu.toNat < 256; omega, i64_wf w2, i64_wf w3, k3⟩, k1, k2, k4⟩
  congr 1
  apply Array.toList_inj.1
  refine (five_list hl5 a0 a1 a2 a3 a4).trans ?_
  show _ = [Value.int .u8 ((kd.toNat : Nat) : Int), .int .u8 ((cpu.toNat : Nat) : Int), .int .i64 lo, .int .i64 nx, .slice A l.length c]
  rw [Int.toNat_of_nonneg u0.1, Int.toNat_of_nonneg u1.1]
end
end Go.Proofs.YtjpielapplglmaaDoor

/- What the reading of an argument gives: an array of three numbers. -/
namespace Go.Proofs.YtjpielapplglmaaDoor
open Go.RowKit Go.ChangeShapes Go.WideShapes Go.ChangeAt

section
variable {H : Type} {enc : TypeId × Value → H} {W : World} {b0 : Nat} {v : Value} {d : DataW H} {p : List MemPlace}
theorem okWide_arrN {P : Program} {w : World} {r : Reach} {base : Nat} {t e : TypeId} {n : Nat} (ht : P.underlying t = some (.array n e)) (h : Value.okWide P w r base t v) : ∃ cs, v = .agg cs := by
  unfold Value.okWide at h
  rw [ht] at h
  obtain ⟨cs, rfl, _⟩ := h
  exact ⟨cs, rfl⟩
theorem und_a3 : Tryd.prog.underlying 48 = some (.array 3 31) := by kernel_rfl
theorem a3_cells : Tryd.prog.cellsOf 48 = 3 := by kernel_rfl
theorem cells_h16 : Tryd.prog.cellsOf 31 = 1 := by kernel_rfl
theorem three_list {cs : List Value} {a b c : Value} (hl : cs.length = 3) (h0 : cs[0]? = some a) (h1 : cs[1]? = some b) (h2 : cs[2]? = some c) : cs = [a, b, c] := by
  refine list_eq hl fun i hi => ?_
  have hi' : i < 3 := hi
  have hc : i = 0 ∨ i = 1 ∨ i = 2 := by omega
  rcases hc with rfl | rfl | rfl <;> assumption
set_option maxRecDepth 100000 in
theorem arg_a3 (hval : Value.okWide Tryd.prog W .any b0 48 v) (h : DataW.Trod enc Tryd.prog W 0 (fun _ => true) true 48 v d p) : ∃ ks : List Nat, v = .agg (a3L ks) ∧ ks.length = 3 ∧ ∀ i, ks.getD i 0 < 65536 := by
  obtain ⟨cs, rfl⟩ := okWide_arrN und_a3 hval
  obtain ⟨fuel, hf⟩ := h
  have hf : DataW.trod enc Tryd.prog W 0 (fun _ => true) true fuel 48 cs.toList = some (d, p) := hf
  obtain ⟨xs, m, _, _, hl, hx, hg⟩ := DataW.trod_array und_a3 hf
  have hl3 : cs.toList.length = 3 := by rw [← a3_cells]; exact hl
  have el : ∀ i, i < 3 → ∃ k : Nat, cs.toList[i]? = some (.int .u16 (k : Int)) ∧ k < 65536 := fun i hi => by
    have g := hg i hi
    rw [cells_h16, Nat.mul_one, List.getElem?_eq_getElem (by omega)] at g
    obtain ⟨n, e0, _, w0⟩ := DataW.trod_int und_u16 g
    have u := u16_wf w0
    have a0 := one_of_take e0
    exact ⟨n.toNat, by rw [a0, Int.toNat_of_nonneg u.1], by omega⟩
  obtain ⟨k0, a0, u0⟩ := el 0 (by decide)
  obtain ⟨k1, a1, u1⟩ := el 1 (by decide)
  obtain ⟨k2, a2, u2⟩ := el 2 (by decide)
  refine ⟨[k0, k1, k2], ?_, rfl, ?_⟩
  · congr 1
    apply Array.toList_inj.1
    exact three_list hl3 a0 a1 a2
  · intro i
    match i with
    | 0 => exact u0
    | 1 => exact u1
    | 2 => exact u2
    | _ + 3 => show (0 : Nat) < 65536; decide
end
end Go.Proofs.YtjpielapplglmaaDoor

/- quantumlaw10.Made: the walk. -/
set_option linter.all false
namespace Go.Proofs.YtjpielapplglmaaDoor
open Go.RowKit
set_option maxRecDepth 100000 in
set_option maxHeartbeats 4000000 in
theorem bmade_any (x : Sb) (hx : x.Ok) (A : Option Addr) (c : Nat) (w : World) (hr : Rd w w.heap.size 11 A x.l.length (x.l.flatMap smL)) (hc : x.l.length ≤ c) (hn : x.l.length ≤ 9223372036854775807) :
    Calls Tryd.prog 15 #[.agg (x.cells A c)] w (MadeIs w x.made) := by
  refine calls_enter (vs := [.agg (x.cells A c)]) Tryd.func15 rfl rfl (by kernel_rfl) (σ0 := [(0, .agg (x.cells A c))]) rfl ?_
  intro a HF
  have HM := Mem.start w
  refine wp_seq ?_
  refine from_start ?_
  refine from_op HF (i := 0) rfl rfl ?_
  refine e_box HF HM (cs := (x.cells A c)) rfl rfl rfl rfl (by decide) ?_
  clear HF HM; intro a w1 g1 HF HM
  refine from_op HF (i := 1) rfl rfl ?_
  refine e_alloc HF HM (cs := #[.int .u8 0, .int .u8 0, .int .i64 0, .int .i64 0, .slice none 0 0]) rfl (by kernel_rfl) rfl (by decide) ?_
  clear HF HM; intro a w2 g2 HF HM
  refine from_done rfl ?_
  replace HF := HF.sub (σ' := [(2, .pointer (some ⟨g2, 0, none⟩)), (1, .pointer (some ⟨g1, 0, none⟩))]) (by kernel_rfl)
  have hlost := hx.lost
  have hcpu := hx.cpu
  obtain ⟨es, hes⟩ : ∃ es, es = x.es := ⟨_, rfl⟩
  refine wp_seq ?_
  refine wp_seq ?_
  refine from_start ?_
  refine from_pures HF 1 0 (j := 1) [(4, .pointer (some ⟨g1, 0, none⟩))] (by kernel_rfl) rfl ?_; clear HF; intro a HF
  refine from_yl (S := fun wS => Mem w wS _) HF HM (i := 1) rfl rfl (d := 5) rfl (by decide) (v := .bool x.e) (Yl.load1 rfl rfl (by kernel_rfl) (fun _ h => h.cell (i := 1) rfl rfl)) ?_; clear HF; intro a HF
  refine from_done rfl ?_
  replace HF := HF.sub (σ' := [(5, .bool x.e), (2, .pointer (some ⟨g2, 0, none⟩)), (1, .pointer (some ⟨g1, 0, none⟩))]) (by kernel_rfl)
  rcases Bool.eq_false_or_eq_true (x.e) with hb5 | hb5
  · have HF := HF.as (t := 5) (u := .bool true) rfl (by rw [hb5])
    refine cond_true HF rfl ?_
    refine wp_seq ?_
    refine from_start ?_
    refine from_pures HF 2 0 (j := 2) [(7, .pointer (some ⟨g1, 3, none⟩)), (6, .pointer (some ⟨g1, 3, none⟩))] (by kernel_rfl) rfl ?_; clear HF; intro a HF
    refine from_yl (S := fun wS => Mem w wS _) HF HM (i := 2) rfl rfl (d := 8) rfl (by decide) (v := .int .i64 x.b.seq) (Yl.load1 rfl rfl (by kernel_rfl) (fun _ h => h.cell (i := 1) rfl rfl)) ?_; clear HF; intro a HF
    refine from_op HF (i := 3) rfl rfl ?_
    refine e_call HF (vs := [.int .i64 x.b.seq, .int .i64 281474976710657]) rfl (by kernel_rfl) (by kernel_rfl) rfl (by decide) (pick_any x.b.seq 281474976710657 hx.b.seq (by unfold I64; omega) _) ?_
    rintro _ w9 ⟨rfl, rfl⟩
    refine ⟨_, rfl, ?_⟩
    replace HM := HM
    clear HF; intro a HF
    refine from_pures HF 1 4 (j := 5) [(10, .int .i64 (IntKind.i64.wrap (1 + (pickZ x.b.seq 281474976710657))))] (by kernel_rfl) rfl ?_; clear HF; intro a HF
    replace HF := HF.as (t := 10) (u := .int .i64 (1 + pickZ x.b.seq 281474976710657)) rfl (by have h := pick_next x.b.seq; rw [IntWalk.i64_in _ (by omega)])
    refine from_yl (S := fun wS => Mem w wS _) HF HM (i := 5) rfl rfl (d := 11) rfl (by decide) (v := .agg #[.int .u8 2, .int .u8 0, .int .i64 0, .int .i64 (1 + pickZ x.b.seq 281474976710657), .slice none 0 0]) (Yl.build (vs := [(0, .int .u8 2), (3, .int .i64 (1 + pickZ x.b.seq 281474976710657))]) rfl (by kernel_rfl) (by kernel_rfl)) ?_; clear HF; intro a HF
    refine from_op HF (i := 6) rfl rfl ?_
    refine e_storeAll HF HM (i := 0) (cs := #[.int .u8 0, .int .u8 0, .int .i64 0, .int .i64 0, .slice none 0 0]) (ds := #[.int .u8 2, .int .u8 0, .int .i64 0, .int .i64 (1 + pickZ x.b.seq 281474976710657), .slice none 0 0]) rfl rfl rfl rfl si_bk rfl rfl (by simp [Value.oneCell']) rfl ?_
    clear HM; intro w2_6 HM
    refine from_done rfl ?_
    replace HF := HF.sub (σ' := [(5, .bool true), (2, .pointer (some ⟨g2, 0, none⟩)), (1, .pointer (some ⟨g1, 0, none⟩))]) (by kernel_rfl)
    refine wp_ret ?_
    exact ret1 rfl HF (.cellS (i := 0) HF HM rfl rfl si_bk rfl) (madeIs_of (b := x.made) (d := ⟨2, 0, 0, 1 + pickZ x.b.seq 281474976710657, []⟩) (A := none) (c := 0) (by unfold Sb.made; rw [if_pos hb5]) (World.ownsRow_nil _ _ _ _) (Nat.le_refl _) HM.below)
  · have HF := HF.as (t := 5) (u := .bool false) rfl (by rw [hb5])
    refine cond_false HF rfl ?_
    refine wp_skip ?_
    refine cut_seq (fun aS wS => ∃ (A29 : Option Addr) (c29 : Nat) (g3 : Nat), Fr aS 42 [] [(3, .pointer (some ⟨g3, 0, none⟩)), (5, .bool false), (2, .pointer (some ⟨g2, 0, none⟩)), (1, .pointer (some ⟨g1, 0, none⟩))] ∧ Mem w wS [.blk g3 #[.int .u8 1, .int .u8 ((x.cpu % 64 : Nat) : Int), .int .i64 (x.lost : Int), .int .i64 0, .slice A29 es.length c29] 37, .row (.slice A29 es.length c29) es.length (es.flatMap evL) 55 11, .blk g2 #[.int .u8 0, .int .u8 0, .int .i64 0, .int .i64 0, .slice none 0 0] 37, .blk g1 (x.cells A c) 30] ∧ (es.length ≤ c29)) ?_ ?_
    ·
      refine any_start (by kernel_rfl) (fun wS => Mem w wS [.blk g2 #[.int .u8 0, .int .u8 0, .int .i64 0, .int .i64 0, .slice none 0 0] 37, .blk g1 (x.cells A c) 30]) [20] ?_
      replace HM := HM.drew
      have HS := HM.picks (fs' := [.blk g2 #[.int .u8 0, .int .u8 0, .int .i64 0, .int .i64 0, .slice none 0 0] 37, .blk g1 (x.cells A c) 30]) [0, 1] (by decide) rfl
      refine any_pures HF (fun _ => HS) (fun _ _ d _ _ h => by cases d <;> exact h) [0, 3, 6, 8, 10, 12] #[true, false, false, true, false, false, true, false, true, false, true, false, true, false, false, false, false, false, false, false, false] [(24, .pointer (some ⟨g1, 5, none⟩)), (22, .pointer (some ⟨g1, 5, none⟩)), (20, .pointer (some ⟨g1, 3, none⟩)), (18, .pointer (some ⟨g1, 1, none⟩)), (15, .pointer (some ⟨g1, 2, none⟩)), (12, .pointer (some ⟨g1, 1, none⟩))] (by kernel_rfl) ?_; clear HF; intro a HF
      refine any_yl HF HS (i := 1) rfl rfl (d := 13) rfl (by decide) (by kernel_rfl) (fun _ _ _ h => h) (v := .int .u8 (x.cpu : Int)) (Yl.load1 rfl rfl (by kernel_rfl) (fun _ h => h.cell (i := 1) rfl rfl)) ?_; clear HF; intro a HF
      refine any_pure HF (fun _ => HS) (i := 2) rfl rfl (d := 14) rfl (by decide) (by kernel_rfl) (fun _ _ _ h => h) (v := .int .u8 (Int.tmod (x.cpu : Int) 64)) (fun _ => Yl.pure (by kernel_rfl)) ?_; clear HF; intro a HF
      replace HF := HF.as (t := 14) (u := .int .u8 ((x.cpu % 64 : Nat) : Int)) rfl (tmod_nat .u8 _ 64)
      refine any_yl HF HS (i := 4) rfl rfl (d := 16) rfl (by decide) (by kernel_rfl) (fun _ _ _ h => h) (v := .int .u32 (x.lost : Int)) (Yl.load1 rfl rfl (by kernel_rfl) (fun _ h => h.cell (i := 1) rfl rfl)) ?_; clear HF; intro a HF
      refine any_pure HF (fun _ => HS) (i := 5) rfl rfl (d := 17) rfl (by decide) (by kernel_rfl) (fun _ _ _ h => h) (v := .int .i64 (IntKind.i64.wrap (x.lost : Int))) (fun _ => Yl.pure (by kernel_rfl)) ?_; clear HF; intro a HF
      replace HF := HF.as (t := 17) (u := .int .i64 (x.lost : Int)) rfl (i64_nat rfl (by omega))
      refine any_yl HF HS (i := 7) rfl rfl (d := 19) rfl (by decide) (by kernel_rfl) (fun _ _ _ h => h) (v := .int .u8 (x.cpu : Int)) (Yl.load1 rfl rfl (by kernel_rfl) (fun _ h => h.cell (i := 1) rfl rfl)) ?_; clear HF; intro a HF
      refine any_yl HF HS (i := 9) rfl rfl (d := 21) rfl (by decide) (by kernel_rfl) (fun _ _ _ h => h) (v := .agg #[.int .i64 x.b.seq, .int .i64 x.b.time]) (Yl.loadS rfl rfl ⟨(by kernel_rfl), (by kernel_rfl)⟩ rfl (fun _ h => h.sub (i := 1) rfl 3 rfl)) ?_; clear HF; intro a HF
      refine any_yl HF HS (i := 11) rfl rfl (d := 23) rfl (by decide) (by kernel_rfl) (fun _ _ _ h => h) (v := .slice A x.l.length c) (Yl.load1 rfl rfl (by kernel_rfl) (fun _ h => h.cell (i := 1) rfl rfl)) ?_; clear HF; intro a HF
      refine any_yl HF HS (i := 13) rfl rfl (d := 25) rfl (by decide) (by kernel_rfl) (fun _ _ _ h => h) (v := .slice A x.l.length c) (Yl.load1 rfl rfl (by kernel_rfl) (fun _ h => h.cell (i := 1) rfl rfl)) ?_; clear HF; intro a HF
      refine any_yl HF HS (i := 14) rfl rfl (d := 26) rfl (by decide) (by kernel_rfl) (fun _ _ _ h => h) (v := .int .i64 ((x.l.length : Nat) : Int)) (Yl.len rfl rfl (by kernel_rfl)) ?_; clear HF; intro a HF
      refine any_yl HF HS (i := 15) rfl rfl (d := 27) rfl (by decide) (by kernel_rfl) (fun _ _ _ h => h) (v := .int .i64 (if (60 : Int) < (((x.l.length : Nat) : Int) : Int) then 60 else ((x.l.length : Nat) : Int))) (Yl.min rfl rfl rfl) ?_; clear HF; intro a HF
      replace HF := HF.as (t := 27) (u := .int .i64 ((x.l.take 60).length : Int)) rfl (min60 _ _ rfl)
      refine any_yl HF HS (i := 16) rfl rfl (d := 28) rfl (by decide) (by kernel_rfl) (fun _ _ _ h => h) (v := .slice A ((x.l.take 60).length) c) (Yl.sliceUpto ei_sm (j := (x.l.take 60).length) rfl rfl rfl (by rw [List.length_take]; omega)) ?_; clear HF; intro a HF
      refine any_all [17, 19] (by kernel_rfl) rfl ?_
      refine all_cons ?_ ?_
      · refine any_op HF (i := 17) rfl rfl ?_
        refine e_call HF (vs := [.int .u8 (x.cpu : Int), .agg #[.int .i64 x.b.seq, .int .i64 x.b.time], .slice A ((x.l.take 60).length) c]) rfl (by kernel_rfl) (by kernel_rfl) rfl (by decide) (made7_any x.cpu hx.cpu x.b hx.b _ _ _ (x.l.take 60) (take_smOk hx) _ (by have h := (HM.old hr).upto (k := (x.l.take 60).length) (by rw [List.length_take]; omega); rw [flat_take smL 11 smL_len] at h; rwa [take60] at h) (by rw [List.length_take]; omega) (by rw [List.length_take]; omega)) ?_
        rintro _ w29 ⟨⟨v, rfl, ho⟩, hbw⟩
        rw [show madeL x.cpu x.b (x.l.take 60) = x.es from rfl, ← hes] at ho
        obtain ⟨A29, c29, rfl, hc29⟩ := own_slice ho
        refine ⟨_, rfl, ?_⟩
        replace HM := HM.callRow hbw ho
        clear HF; intro a HF
        refine keepS (HM.picks [1, 2] (by decide) rfl) (fun HS => ?_)
        refine any_yl HF HS (i := 18) rfl rfl (d := 30) rfl (by decide) (by kernel_rfl) (fun _ _ _ h => h) (v := .agg #[.int .u8 1, .int .u8 ((x.cpu % 64 : Nat) : Int), .int .i64 (x.lost : Int), .int .i64 0, .slice A29 es.length c29]) (Yl.build (vs := [(0, .int .u8 1), (1, .int .u8 ((x.cpu % 64 : Nat) : Int)), (2, .int .i64 (x.lost : Int)), (4, .slice A29 es.length c29)]) rfl (by kernel_rfl) (by kernel_rfl)) ?_; clear HF; intro a HF
        refine any_all [19] (by kernel_rfl) rfl ?_
        refine all_cons ?_ all_nil
        refine any_op HF (i := 19) rfl rfl ?_
        refine e_alloc HF HM (cs := #[.int .u8 0, .int .u8 0, .int .i64 0, .int .i64 0, .slice none 0 0]) rfl (by kernel_rfl) rfl (by decide) ?_
        clear HF HM; intro a w3 g3 HF HM
        refine keepS (HM.picks [2, 3] (by decide) rfl) (fun HS => ?_)
        refine any_all [20] (by kernel_rfl) rfl ?_
        refine all_cons ?_ all_nil
        refine any_op HF (i := 20) rfl rfl ?_
        refine e_storeAll HF HM (i := 0) (cs := #[.int .u8 0, .int .u8 0, .int .i64 0, .int .i64 0, .slice none 0 0]) (ds := #[.int .u8 1, .int .u8 ((x.cpu % 64 : Nat) : Int), .int .i64 (x.lost : Int), .int .i64 0, .slice A29 es.length c29]) rfl rfl rfl rfl si_bk rfl rfl (by simp [Value.oneCell']) rfl ?_
        clear HM; intro w3_20 HM
        refine noS (by kernel_rfl) ?_
        refine any_done (by kernel_rfl) ?_
        replace HF := HF.sub (σ' := [(3, .pointer (some ⟨g3, 0, none⟩)), (5, .bool false), (2, .pointer (some ⟨g2, 0, none⟩)), (1, .pointer (some ⟨g1, 0, none⟩))]) (by kernel_rfl)
        exact ⟨A29, c29, g3, HF.sub (by kernel_rfl), HM.picks [0, 1, 2, 3] (by decide) rfl, hc29⟩
      refine all_cons ?_ all_nil
      refine any_op HF (i := 19) rfl rfl ?_
      refine e_alloc HF HM (cs := #[.int .u8 0, .int .u8 0, .int .i64 0, .int .i64 0, .slice none 0 0]) rfl (by kernel_rfl) rfl (by decide) ?_
      clear HF HM; intro a w3 g3 HF HM
      refine keepS (HM.picks [1, 2] (by decide) rfl) (fun HS => ?_)
      refine any_all [17] (by kernel_rfl) rfl ?_
      refine all_cons ?_ all_nil
      refine any_op HF (i := 17) rfl rfl ?_
      refine e_call HF (vs := [.int .u8 (x.cpu : Int), .agg #[.int .i64 x.b.seq, .int .i64 x.b.time], .slice A ((x.l.take 60).length) c]) rfl (by kernel_rfl) (by kernel_rfl) rfl (by decide) (made7_any x.cpu hx.cpu x.b hx.b _ _ _ (x.l.take 60) (take_smOk hx) _ (by have h := (HM.old hr).upto (k := (x.l.take 60).length) (by rw [List.length_take]; omega); rw [flat_take smL 11 smL_len] at h; rwa [take60] at h) (by rw [List.length_take]; omega) (by rw [List.length_take]; omega)) ?_
      rintro _ w29 ⟨⟨v, rfl, ho⟩, hbw⟩
      rw [show madeL x.cpu x.b (x.l.take 60) = x.es from rfl, ← hes] at ho
      obtain ⟨A29, c29, rfl, hc29⟩ := own_slice ho
      refine ⟨_, rfl, ?_⟩
      replace HM := HM.callRow hbw ho
      clear HF; intro a HF
      refine keepS (HM.picks [2, 3] (by decide) rfl) (fun HS => ?_)
      refine any_yl HF HS (i := 18) rfl rfl (d := 30) rfl (by decide) (by kernel_rfl) (fun _ _ _ h => h) (v := .agg #[.int .u8 1, .int .u8 ((x.cpu % 64 : Nat) : Int), .int .i64 (x.lost : Int), .int .i64 0, .slice A29 es.length c29]) (Yl.build (vs := [(0, .int .u8 1), (1, .int .u8 ((x.cpu % 64 : Nat) : Int)), (2, .int .i64 (x.lost : Int)), (4, .slice A29 es.length c29)]) rfl (by kernel_rfl) (by kernel_rfl)) ?_; clear HF; intro a HF
      refine any_all [20] (by kernel_rfl) rfl ?_
      refine all_cons ?_ all_nil
      refine any_op HF (i := 20) rfl rfl ?_
      refine e_storeAll HF HM (i := 1) (cs := #[.int .u8 0, .int .u8 0, .int .i64 0, .int .i64 0, .slice none 0 0]) (ds := #[.int .u8 1, .int .u8 ((x.cpu % 64 : Nat) : Int), .int .i64 (x.lost : Int), .int .i64 0, .slice A29 es.length c29]) rfl rfl rfl rfl si_bk rfl rfl (by simp [Value.oneCell']) rfl ?_
      clear HM; intro w3_20 HM
      refine noS (by kernel_rfl) ?_
      refine any_done (by kernel_rfl) ?_
      replace HF := HF.sub (σ' := [(3, .pointer (some ⟨g3, 0, none⟩)), (5, .bool false), (2, .pointer (some ⟨g2, 0, none⟩)), (1, .pointer (some ⟨g1, 0, none⟩))]) (by kernel_rfl)
      exact ⟨A29, c29, g3, HF.sub (by kernel_rfl), HM.picks [1, 0, 2, 3] (by decide) rfl, hc29⟩
    clear HF HM; rintro a w3 ⟨A29, c29, g3, HF, HM, hc29⟩
    refine wp_seq ?_
    refine wp_seq ?_
    refine from_start ?_
    refine from_pures HF 1 0 (j := 1) [(31, .pointer (some ⟨g3, 4, none⟩))] (by kernel_rfl) rfl ?_; clear HF; intro a HF
    refine from_yl (S := fun wS => Mem w wS _) HF HM (i := 1) rfl rfl (d := 32) rfl (by decide) (v := .slice A29 es.length c29) (Yl.load1 rfl rfl (by kernel_rfl) (fun _ h => h.cell (i := 0) rfl rfl)) ?_; clear HF; intro a HF
    refine from_yl (S := fun wS => Mem w wS _) HF HM (i := 2) rfl rfl (d := 33) rfl (by decide) (v := .int .i64 ((es.length : Nat) : Int)) (Yl.len rfl rfl (by kernel_rfl)) ?_; clear HF; intro a HF
    refine from_pures HF 2 3 (j := 5) [(35, .bool ((((es.length : Nat) : Int) : Int) == (0 : Int))), (34, .bool ((((es.length : Nat) : Int) : Int) == (0 : Int)))] (by kernel_rfl) rfl ?_; clear HF; intro a HF
    rcases Bool.eq_false_or_eq_true ((((es.length : Nat) : Int) : Int) == (0 : Int)) with hb35 | hb35
    · have HF := HF.as (t := 35) (u := .bool true) rfl (by rw [hb35])
      have hd35 := eq_of_beq hb35
      refine from_pures HF 1 5 (j := 6) [(36, .pointer (some ⟨g3, 2, none⟩))] (by kernel_rfl) rfl ?_; clear HF; intro a HF
      refine from_yl (S := fun wS => Mem w wS _) HF HM (i := 6) rfl rfl (d := 37) rfl (by decide) (v := .int .i64 (x.lost : Int)) (Yl.load1 rfl rfl (by kernel_rfl) (fun _ h => h.cell (i := 0) rfl rfl)) ?_; clear HF; intro a HF
      refine from_pures HF 2 7 (j := 9) [(39, .bool (((x.lost : Int) : Int) == (0 : Int))), (38, .bool (((x.lost : Int) : Int) == (0 : Int)))] (by kernel_rfl) rfl ?_; clear HF; intro a HF
      refine from_done rfl ?_
      replace HF := HF.sub (σ' := [(39, .bool (((x.lost : Int) : Int) == (0 : Int))), (3, .pointer (some ⟨g3, 0, none⟩)), (5, .bool false), (2, .pointer (some ⟨g2, 0, none⟩)), (1, .pointer (some ⟨g1, 0, none⟩))]) (by kernel_rfl)
      rcases Bool.eq_false_or_eq_true (((x.lost : Int) : Int) == (0 : Int)) with hb39 | hb39
      · have HF := HF.as (t := 39) (u := .bool true) rfl (by rw [hb39])
        have hd39 := eq_of_beq hb39
        refine cond_true HF rfl ?_
        refine from_start ?_
        refine from_pures HF 1 0 (j := 1) [(40, .pointer (some ⟨g3, 2, none⟩))] (by kernel_rfl) rfl ?_; clear HF; intro a HF
        refine from_op HF (i := 1) rfl rfl ?_
        refine e_store HF HM (i := 0) (cs := #[.int .u8 1, .int .u8 ((x.cpu % 64 : Nat) : Int), .int .i64 (x.lost : Int), .int .i64 0, .slice A29 es.length c29]) rfl rfl rfl rfl (by kernel_rfl) rfl rfl (by simp) ?_
        clear HM; intro w5_1 HM
        refine from_done rfl ?_
        replace HF := HF.sub (σ' := [(39, .bool true), (3, .pointer (some ⟨g3, 0, none⟩)), (5, .bool false), (2, .pointer (some ⟨g2, 0, none⟩)), (1, .pointer (some ⟨g1, 0, none⟩))]) (by kernel_rfl)
        refine wp_seq ?_
        refine from_start ?_
        refine from_yl (S := fun wS => Mem w wS _) HF HM (i := 0) rfl rfl (d := 41) rfl (by decide) (v := .agg #[.int .u8 1, .int .u8 ((x.cpu % 64 : Nat) : Int), .int .i64 1, .int .i64 0, .slice A29 es.length c29]) (Yl.loadS rfl rfl si_bk rfl (fun _ h => range_of_block (h.blk (i := 0) rfl))) ?_; clear HF; intro a HF
        refine from_op HF (i := 1) rfl rfl ?_
        refine e_storeAll HF HM (i := 2) (cs := #[.int .u8 0, .int .u8 0, .int .i64 0, .int .i64 0, .slice none 0 0]) (ds := #[.int .u8 1, .int .u8 ((x.cpu % 64 : Nat) : Int), .int .i64 1, .int .i64 0, .slice A29 es.length c29]) rfl rfl rfl rfl si_bk rfl rfl (by simp [Value.oneCell']) rfl ?_
        clear HM; intro w6_1 HM
        refine from_done rfl ?_
        replace HF := HF.sub (σ' := [(39, .bool true), (3, .pointer (some ⟨g3, 0, none⟩)), (5, .bool false), (2, .pointer (some ⟨g2, 0, none⟩)), (1, .pointer (some ⟨g1, 0, none⟩))]) (by kernel_rfl)
        refine wp_ret ?_
        exact ret1 rfl HF (.cellS (i := 2) HF HM rfl rfl si_bk rfl) (madeIs_of (b := x.made) (d := ⟨1, x.cpu % 64, 1, 0, es⟩) (by unfold Sb.made; rw [if_neg (by rw [hb5]; decide), ← hes, if_pos ⟨by omega, by omega⟩]) (HM.own (i := 1) rfl) hc29 HM.below)
      · have HF := HF.as (t := 39) (u := .bool false) rfl (by rw [hb39])
        have hd39 := ne_of_beq_false hb39
        refine cond_false HF rfl ?_
        refine wp_skip ?_
        refine wp_seq ?_
        refine from_start ?_
        refine from_yl (S := fun wS => Mem w wS _) HF HM (i := 0) rfl rfl (d := 41) rfl (by decide) (v := .agg #[.int .u8 1, .int .u8 ((x.cpu % 64 : Nat) : Int), .int .i64 (x.lost : Int), .int .i64 0, .slice A29 es.length c29]) (Yl.loadS rfl rfl si_bk rfl (fun _ h => range_of_block (h.blk (i := 0) rfl))) ?_; clear HF; intro a HF
        refine from_op HF (i := 1) rfl rfl ?_
        refine e_storeAll HF HM (i := 2) (cs := #[.int .u8 0, .int .u8 0, .int .i64 0, .int .i64 0, .slice none 0 0]) (ds := #[.int .u8 1, .int .u8 ((x.cpu % 64 : Nat) : Int), .int .i64 (x.lost : Int), .int .i64 0, .slice A29 es.length c29]) rfl rfl rfl rfl si_bk rfl rfl (by simp [Value.oneCell']) rfl ?_
        clear HM; intro w6_1 HM
        refine from_done rfl ?_
        replace HF := HF.sub (σ' := [(39, .bool false), (3, .pointer (some ⟨g3, 0, none⟩)), (5, .bool false), (2, .pointer (some ⟨g2, 0, none⟩)), (1, .pointer (some ⟨g1, 0, none⟩))]) (by kernel_rfl)
        refine wp_ret ?_
        exact ret1 rfl HF (.cellS (i := 2) HF HM rfl rfl si_bk rfl) (madeIs_of (b := x.made) (d := ⟨1, x.cpu % 64, (x.lost : Int), 0, es⟩) (by unfold Sb.made; rw [if_neg (by rw [hb5]; decide), ← hes, if_neg (by omega)]) (HM.own (i := 1) rfl) hc29 HM.below)
    · have HF := HF.as (t := 35) (u := .bool false) rfl (by rw [hb35])
      have hd35 := ne_of_beq_false hb35
      refine from_pures HF 4 5 (j := 9) [(39, .bool false), (38, undef), (37, undef), (36, undef)] (by kernel_rfl) rfl ?_; clear HF; intro a HF
      refine from_done rfl ?_
      replace HF := HF.sub (σ' := [(39, .bool false), (3, .pointer (some ⟨g3, 0, none⟩)), (5, .bool false), (2, .pointer (some ⟨g2, 0, none⟩)), (1, .pointer (some ⟨g1, 0, none⟩))]) (by kernel_rfl)
      refine cond_false HF rfl ?_
      refine wp_skip ?_
      refine wp_seq ?_
      refine from_start ?_
      refine from_yl (S := fun wS => Mem w wS _) HF HM (i := 0) rfl rfl (d := 41) rfl (by decide) (v := .agg #[.int .u8 1, .int .u8 ((x.cpu % 64 : Nat) : Int), .int .i64 (x.lost : Int), .int .i64 0, .slice A29 es.length c29]) (Yl.loadS rfl rfl si_bk rfl (fun _ h => range_of_block (h.blk (i := 0) rfl))) ?_; clear HF; intro a HF
      refine from_op HF (i := 1) rfl rfl ?_
      refine e_storeAll HF HM (i := 2) (cs := #[.int .u8 0, .int .u8 0, .int .i64 0, .int .i64 0, .slice none 0 0]) (ds := #[.int .u8 1, .int .u8 ((x.cpu % 64 : Nat) : Int), .int .i64 (x.lost : Int), .int .i64 0, .slice A29 es.length c29]) rfl rfl rfl rfl si_bk rfl rfl (by simp [Value.oneCell']) rfl ?_
      clear HM; intro w6_1 HM
      refine from_done rfl ?_
      replace HF := HF.sub (σ' := [(39, .bool false), (3, .pointer (some ⟨g3, 0, none⟩)), (5, .bool false), (2, .pointer (some ⟨g2, 0, none⟩)), (1, .pointer (some ⟨g1, 0, none⟩))]) (by kernel_rfl)
      refine wp_ret ?_
      exact ret1 rfl HF (.cellS (i := 2) HF HM rfl rfl si_bk rfl) (madeIs_of (b := x.made) (d := ⟨1, x.cpu % 64, (x.lost : Int), 0, es⟩) (by unfold Sb.made; rw [if_neg (by rw [hb5]; decide), ← hes, if_neg (by omega)]) (HM.own (i := 1) rfl) hc29 HM.below)
end Go.Proofs.YtjpielapplglmaaDoor

