/- Parts. -/
import Derived.Test.YtannicghedpdpaaQcChv
import Derived.Test.YtannicghedpdpaaQcZ2
set_option linter.all false
set_option maxRecDepth 100000
set_option maxHeartbeats 1000000
namespace Go.Proofs.Ytannicghedpdpaa
open Go.RowKit
theorem qpl (cp : Int) (cr : Nat) (gA : Option Addr) (gc : Nat) (gs : List Gr) (w : World) (hr : Rd w w.heap.size 2 gA gs.length (gs.flatMap grL)) (hn : gs.length ≤ 1000000) : Calls Try.prog 18 #[.agg #[vI cp, vQ cr, .slice gA gs.length gc]] w (MkCfg w cp cr gs) :=
 qex ⟨cp, cr, gA, gc, gs, none, 0, [], none, 0, [], none, 0, [], none, 0, []⟩ w (qng hr) hn
theorem qir (n : Nums) (hn : n.Ok) (how : Nat) (hhow : how < 256) (x0 : Int) (hx0 : I64 x0) (b : Nat) (hb2 : b < 256) (w : World) :
    Calls Try.prog 6 #[.agg n.cells, vB how, vI x0, vB b] w (Is w (.bool true)) := by
 have hgc := Nums.qrm hn
 have hgn := (Nums.right hn).2
 have hx0_ := hx0; unfold I64 at hx0_
 have hncr := hn.credit
 refine (JN4 Try.func6 273) ?_
 refine (JP∘JE) fun w4 g4 => (Jp 1∘Jr∘Jy (v := .agg n.cells) (h:=by exact Yl.loadS rfl rfl qq9 (qnn hn) (fun _ h => qa (h.blk (i := 0) rfl)))∘JK (h:=by exact fun I => qk2 n hn _)) fun A42 c42 w42 hc42 => (JA #[vI 0, vQ 0, vN]) fun w9 g9 => (JV z0 O0') fun w1_3 => (Jd2∘Jr∘Jy (v := .agg #[vI n.cp, vQ n.credit, .slice A42 n.gs.length c42]) (h:=by exact Yl.loadS rfl rfl z0 rfl (fun _ h => qa (h.blk (i := 0) rfl)))∘JL (h:=by exact fun I => qnk (Nums.cfg hn) (I.rd (i := 1) rfl))) ?_
 rintro I _ w45 ⟨gm, x, rfl, hx, hm⟩
 refine ⟨_, rfl, _, (show Mem w w45 (.blk g9 #[vI n.cp, vQ n.credit, .slice A42 n.gs.length c42] 36 :: .row (.slice A42 n.gs.length c42) n.gs.length (n.gs.flatMap grL) 59 2 :: .blk g4 n.cells 27 :: (mdB gm x ++ ([]))) from I.joinF 3 hm rfl), ?_⟩
 refine (Jp 1∘Jx∘Jx∘Jp 2∘Jj∘JQ∘JP∘Jv 4 [(51, vP gm 0), (50, .bool false)]∘Jy (v := .bool false) (h:=by exact Yl.qfp rfl rfl rfl)∘Jp 1∘Jd4∘Jj∘JF∘JS'∘JP∘Jy (v := .agg #[vI n.cp, vQ n.credit, .slice A42 n.gs.length c42]) (h:=by exact Yl.loadS rfl rfl z0 rfl (fun _ h => qa (h.blk (i := 0) rfl)))∘JK (h:=by exact fun I => qpl _ _ _ _ _ _ (I.rd (i := 1) rfl) (Nums.cfg (gA := none) (gc := 0) hn).2.1)) fun A55 c55 w55 hc55 => (JA #[vI 0, vQ 0, vN]) fun w12 g12 => (JV z0 O0') fun w5_3 => (Jd2∘Jj∘JQ∘JP∘Jp 2∘Jo (vB (how % 7 : Nat)) (by exact qck .u8 _ 7)∘Jd1∘Jj) fun a Z I => ?_
 refine qrf (fun aS wS => ∃ (bcp : Int) (bcr : Nat) (bA : Option Addr) (bc : Nat) (bgs : List Gr) (bl : Nat), (BadCfg bcp bcr bgs) ∧ (bgs.length = bl) ∧ Fr aS 273 [] [(57, vB (how % 7 : Nat)), (12, vP g12 0), (53, .bool false), (10, vP gm 0), (9, vP g9 0), (8, .bool false), (2, vI x0), (3, vB b)] ∧ Mem w wS (.blk g12 #[vI bcp, vQ bcr, .slice bA bl bc] 36 :: .row (.slice bA bl bc) bl (bgs.flatMap grL) 59 2 :: .blk g9 #[vI n.cp, vQ n.credit, .slice A42 n.gs.length c42] 36 :: .row (.slice A42 n.gs.length c42) n.gs.length (n.gs.flatMap grL) 59 2 :: .blk g4 n.cells 27 :: (mdB gm x ++ ([])))) ?_ ?_
 ·
  refine Jb Z I ((JB∘JP∘Jp 2∘Jd1∘Jj) (Je (fun hd58 => ?_) fun hd58 => ?_))
  ·
   refine (JT∘JR∘Jp 1∘Jy (v := vI (if (0 : Int) < (x0 : Int) then 0 else x0)) (h:=by exact Yl.min rfl rfl rfl)∘Jo (vI (min x0 0)) (by congr 1; rw [Int.min_def]; split <;> omega)∘Jf 0∘JW O0' O0') fun w8_3 => (Jt3∘Jq) fun a Z I => ?_
   exact ⟨(min x0 0), n.credit, A55, c55, n.gs, n.gs.length, qp1 hgc (by unfold I64; omega) (.inl om), rfl, Z.sub kr, I.pt 5 [0, 1, 2, 3, 4]⟩
  refine (JF∘JP∘Jp 2∘Jd1∘Jj) (Je (fun hd63 => ?_) fun hd63 => ?_)
  ·
   refine (JT∘JR∘Jp 1∘Jy (v := vI (if (65 : Int) > (x0 : Int) then 65 else x0)) (h:=by exact Yl.max rfl rfl rfl)∘Jo (vI (max x0 65)) (by congr 1; rw [Int.max_def]; split <;> omega)∘Jf 0∘JW O0' O0') fun w10_3 => (Jt3∘Jq) fun a Z I => ?_
   exact ⟨(max x0 65), n.credit, A55, c55, n.gs, n.gs.length, qp1 hgc (by unfold I64; omega) (.inr om), rfl, Z.sub kr, I.pt 5 [0, 1, 2, 3, 4]⟩
  refine (JF∘JP∘Jp 2∘Jd1∘Jj) (Je (fun hd68 => ?_) fun hd68 => ?_)
  ·
   refine (JT∘JR∘Jp 1∘Jw .u64∘Jp 1∘Jo (vQ (1099511627777 + b : Nat)) (by exact qb5 om om)∘Jf 1∘JW O0' O1') fun w12_4 => (Jt4∘Jq) fun a Z I => ?_
   exact ⟨(n.cp : Int), (1099511627777 + b : Nat), A55, c55, n.gs, n.gs.length, qsh hgc om om, rfl, Z.sub kr, I.pt 5 [0, 1, 2, 3, 4]⟩
  refine (JF∘JP∘Jp 2∘Jd1∘Jj) (Je (fun hd74 => ?_) fun hd74 => ?_)
  ·
   refine (JT∘JR∘Jf 2∘JW O0' O2') fun w14_1 => (Jt1∘Jq) fun a Z I => ?_
   replace I := I.nil 59 2
   exact ⟨(n.cp : Int), n.credit, none, 0, [], 0, qrh hgc, rfl, Z.sub kr, I.pt 6 [1, 0, 3, 4, 5]⟩
  refine (JF∘JP∘Jp 2∘Jd1∘Jj) (Je (fun hd77 => ?_) fun hd77 => ?_)
  ·
   refine (JT∘JR∘Jg 2 O0∘Jp 1∘Jw .i64∘Jp 1∘Jo (vI (2 + b : Nat)) (by exact qb4 om om)) ?_
   repeat (first | clear Z | clear I)
   intro a Z I
   obtain ⟨gA55, rfl⟩ := qi (I.own (i := 1) rfl) (Nat.lt_of_le_of_lt (Nat.zero_le _) (show 0 < n.gs.length from by omega))
   refine Jb Z I ((Jy (v := vP gA55 0) (h:=by exact Yl.indexAddr (ad := ⟨gA55, 0, none⟩) (y := 0) (sz := 2) rfl rfl rfl om kr)∘Jf 1) fun a Z I => ?_)
   refine fo Z 7 rfl rfl ?_
   refine qu Z I (i := 1) rfl rfl rfl rfl kr rfl rfl (by rw [q7 grL 2 zi]; omega) ?_
   clear I; intro w16_7 I
   replace I := I.asRow (i := 1) (ys := (n.gs.set 0 ({ n.gs.getD 0 Gr.zero with weight := ((2 + b : Nat) : Int) } : Gr)).flatMap grL) rfl (q8 grL 2 zi n.gs 0 (n.gs.getD 0 Gr.zero) ({ n.gs.getD 0 Gr.zero with weight := ((2 + b : Nat) : Int) } : Gr) (getD_at Gr.zero om) 1 de _ rfl)
   refine Jb Z I ((Jt6∘Jq) fun a Z I => ?_)
   exact ⟨(n.cp : Int), n.credit, (some ⟨gA55, 0, none⟩), c55, (n.gs.set 0 ({ n.gs.getD 0 Gr.zero with weight := ((2 + b : Nat) : Int) } : Gr)), n.gs.length, qnt hgc hb2, (by simp), Z.sub kr, I.pt 5 [0, 1, 2, 3, 4]⟩
  refine (JF∘JP∘Jp 2∘Jd1∘Jj) (Je (fun hd86 => ?_) fun hd86 => ?_)
  ·
   refine (JT∘JR∘Jg 2 O0∘Jg 2 O0∘Jl∘Jp 1∘Jw .i64∘Ja∘Jy (v := .agg #[vI (n.gs.length + b : Nat), vI 1]) (h:=by exact Yl.build (vs := [(0, vI (n.gs.length + b : Nat)), (1, vI 1)]) rfl kr kr)∘JU ei_gr #[vI (n.gs.length + b : Nat), vI 1]) fun w97 g97 => (JD ([(⟨((n.gs.length + b : Nat) : Int), 1⟩ : Gr)].flatMap grL) 2 (fun _ _ => O2') ei_gr (hr:=by exact fun I => I.rdBlk (i := 0) (n := 1) (size := 2) rfl rfl) (h1:=by exact qe7 _)) fun w98 A98 c98 hc98 => (Jf 2∘JW O1' O2') fun w18_12 => (Jt6∘Jq) fun a Z I => ?_
   replace I := I.asRow (i := 2) (ys := (n.gs ++ [(⟨((n.gs.length + b : Nat) : Int), 1⟩ : Gr)]).flatMap grL) rfl (by rw [List.flatMap_append])
   replace I : Mem w _ (.blk g97 #[vI (n.gs.length + b : Nat), vI 1] 59 :: .blk g12 #[vI n.cp, vQ n.credit, .slice A98 (n.gs.length + 1) c98] 36 :: .row (.slice A98 (n.gs.length + 1) c98) (n.gs.length + 1) ((n.gs ++ [(⟨((n.gs.length + b : Nat) : Int), 1⟩ : Gr)]).flatMap grL) 59 2 :: .blk g9 #[vI n.cp, vQ n.credit, .slice A42 n.gs.length c42] 36 :: .row (.slice A42 n.gs.length c42) n.gs.length (n.gs.flatMap grL) 59 2 :: .blk g4 n.cells 27 :: (mdB gm x ++ ([]))) := I
   exact ⟨(n.cp : Int), n.credit, A98, c98, (n.gs ++ [(⟨((n.gs.length + b : Nat) : Int), 1⟩ : Gr)]), (n.gs.length + 1), qnu hgc (by unfold I64; omega) (by unfold I64; omega) om, (by simp), Z.sub kr, I.pt 6 [1, 2, 3, 4, 5]⟩
  refine (JF∘JP∘Jp 2∘Jd1∘Jj) (Je (fun hd100 => ?_) fun hd100 => ?_)
  ·
   refine (JT∘JR∘Jg 2 O0∘Jp 1∘Jy (v := vI (if (65537 : Int) > (x0 : Int) then 65537 else x0)) (h:=by exact Yl.max rfl rfl rfl)∘Jo (vI (max x0 65537)) (by congr 1; rw [Int.max_def]; split <;> omega)∘Jy (v := .agg #[vI 0, vI (max x0 65537)]) (h:=by exact Yl.build (vs := [(1, vI (max x0 65537))]) rfl kr kr)∘JU ei_gr #[vI 0, vI (max x0 65537)]) fun w107 g107 => (JD ([(⟨0, max x0 65537⟩ : Gr)].flatMap grL) 2 (fun _ _ => O2') ei_gr (hr:=by exact fun I => I.rdBlk (i := 0) (n := 1) (size := 2) rfl rfl) (h1:=by exact qe7 _)) fun w108 A108 c108 hc108 => (Jf 2∘JW O1' O2') fun w20_8 => (Jt6∘Jq) fun a Z I => ?_
   replace I := I.asRow (i := 2) (ys := (n.gs ++ [(⟨0, max x0 65537⟩ : Gr)]).flatMap grL) rfl (by rw [List.flatMap_append])
   replace I : Mem w _ (.blk g107 #[vI 0, vI (max x0 65537)] 59 :: .blk g12 #[vI n.cp, vQ n.credit, .slice A108 (n.gs.length + 1) c108] 36 :: .row (.slice A108 (n.gs.length + 1) c108) (n.gs.length + 1) ((n.gs ++ [(⟨0, max x0 65537⟩ : Gr)]).flatMap grL) 59 2 :: .blk g9 #[vI n.cp, vQ n.credit, .slice A42 n.gs.length c42] 36 :: .row (.slice A42 n.gs.length c42) n.gs.length (n.gs.flatMap grL) 59 2 :: .blk g4 n.cells 27 :: (mdB gm x ++ ([]))) := I
   exact ⟨(n.cp : Int), n.credit, A108, c108, (n.gs ++ [(⟨0, max x0 65537⟩ : Gr)]), (n.gs.length + 1), qnu hgc (by unfold I64; omega) (by unfold I64; omega) om, (by simp), Z.sub kr, I.pt 6 [1, 2, 3, 4, 5]⟩
  refine (JF∘JS) fun a Z I => ?_
  exact ⟨(n.cp : Int), n.credit, A55, c55, n.gs, n.gs.length, absurd hd100 om, rfl, Z.sub kr, I.pt 5 [0, 1, 2, 3, 4]⟩
 clear Z I; rintro a w_ ⟨bcp, bcr, bA, bc, bgs, bl, hbad, hbl, Z, I⟩
 refine Jb Z I ((JG∘JP∘Jy (v := .agg #[vI bcp, vQ bcr, .slice bA bl bc]) (h:=by exact Yl.loadS rfl rfl z0 rfl (fun _ h => qa (h.blk (i := 0) rfl)))∘JL (h:=by exact fun I => qrg hbad hbl (I.rd (i := 1) rfl))) ?_)
 rintro I _ w112 ⟨rfl, hbw⟩
 refine ⟨_, rfl, _, I.call hbw, ?_⟩
 refine (Jp 1∘Jx∘Jx∘Jp 2∘Jj∘JQ∘JP∘Jy (v := .agg #[vI bcp, vQ bcr, .slice bA bl bc]) (h:=by exact Yl.loadS rfl rfl z0 rfl (fun _ h => qa (h.blk (i := 0) rfl)))∘JI (h:=by exact fun I => qk4 hbad hbl (I.rd (i := 1) rfl))) fun w116 hbw => (Jp 2∘Jy (v := .bool false) (h:=by exact Yl.qsq rfl rfl rfl)∘Jv 5 [(124, .bool false)]∘Jd6∘Jj∘JF∘JS'∘JQ∘JP∘Jp 1∘Jy (v := vI (if (-1 : Int) < (x0 : Int) then -1 else x0)) (h:=by exact Yl.min rfl rfl rfl)∘Jo (vI (min x0 (-1))) (by congr 1; rw [Int.min_def]; split <;> omega)∘Jp 1∘Jg 0 O2∘Jy (v := vI (if (n.cp : Int) > (x0 : Int) then (n.cp : Int) else x0)) (h:=by exact Yl.max rfl rfl rfl)∘Jo (vI (max x0 (n.cp : Int))) (by congr 1; rw [Int.max_def]; split <;> omega)∘JU zj #[vI (min x0 (-1)), vI (max x0 (n.cp : Int))]) fun w131 g131 => (Jl∘Jp 1∘Jq) fun a Z I => ?_
 replace I := I.blkRow (i := 0) (n := 2) (size := 1) rfl rfl de
 obtain ⟨cs, hcs⟩ : ∃ l : List Int, [min x0 (-1), max x0 (n.cp : Int)] = l := ⟨_, rfl⟩
 replace I := I.asRow (i := 0) (ys := cs.map I64i) rfl (by rw [← hcs]; rfl)
 have hcsl : cs.length = 2 := by rw [← hcs]; rfl
 have hcsp : ∀ i, i < 2 → (cs.getD i 0 < 0 ∨ (n.cp : Int) ≤ cs.getD i 0) ∧ I64 (cs.getD i 0) := fun i hi => by rw [← hcs]; exact qnv (P := fun z => (z < 0 ∨ (n.cp : Int) ≤ z) ∧ I64 z) ⟨by omega, by unfold I64; omega⟩ ⟨by omega, by unfold I64; unfold Nums.cp; omega⟩ hi
 replace I : Mem w _ (.row (vS g131 2 2) 2 (cs.map I64i) 3 1 :: .blk g12 #[vI bcp, vQ bcr, .slice bA bl bc] 36 :: .row (.slice bA bl bc) bl (bgs.flatMap grL) 59 2 :: .blk g9 #[vI n.cp, vQ n.credit, .slice A42 n.gs.length c42] 36 :: .row (.slice A42 n.gs.length c42) n.gs.length (n.gs.flatMap grL) 59 2 :: .blk g4 n.cells 27 :: (mdB gm x ++ ([]))) := I
 refine Jb Z I ((JG∘JB) fun a Z I => ?_)
 refine qo (fun mS aS wS => ∃ (i : Nat) (x : Stm), (i ≤ 2) ∧ (x.sta = n.new) ∧ mS = 2 - i ∧ Fr aS 273 [] [(133, vI i), (132, vI 2), (131, vS g131 2 2), (124, .bool false), (57, vB (how % 7 : Nat)), (12, vP g12 0), (53, .bool false), (10, vP gm 0), (9, vP g9 0), (8, .bool false), (2, vI x0), (3, vB b)] ∧ Mem w wS (.row (vS g131 2 2) 2 (cs.map I64i) 3 1 :: .blk g9 #[vI n.cp, vQ n.credit, .slice A42 n.gs.length c42] 36 :: (mdB gm x ++ ([])))) (m := 2 - 0) ⟨0, x, Nat.zero_le _, hx, rfl, Z.sub kr, I.pt 6 [0, 3]⟩ ?_
 clear Z I; rintro mS a w_ ⟨i, x, hli, hx, rfl, Z, I⟩
 refine Jb Z I ((JP∘Jp 1∘Jj∘JQ) (Ju (fun hb134 => ?_) fun hb134 => ?_))
 ·
  intro a Z I
  have hd134 := of_decide_eq_true hb134
  have hvi : i < 2 := by omega
  obtain ⟨z, hz⟩ : ∃ z, cs.getD i 0 = z := ⟨_, rfl⟩
  have hzc := (hcsp i hvi).1; have hzI := (hcsp i hvi).2; rw [hz] at hzc hzI
  have hzn : ¬ (0 ≤ z ∧ z < (n.cp : Int)) := by omega
  refine Jb Z I ((JT∘JS'∘JQ∘JB∘JP∘Jy (h:=by exact Yl.ix0 g131 i 1 rfl rfl rfl)∘Jy (v := vI (cs.getD i 0)) (h:=by exact Yl.r1 0 i 0 om rfl rfl rfl)∘Jo (vI z) (by rw [hz])∘Jp 1∘Jd2∘Jj∘JQ∘JP∘JU ei_u8 #[vB 1, vB 3, vB 4, vB 5, vB 6, vB 10]) fun w137 g137 => (Jl∘Jp 1∘Jq) fun a Z I => ?_)
  replace I := I.blkRow (i := 0) (n := 6) (size := 1) rfl rfl de
  obtain ⟨ks, hks⟩ : ∃ l : List Nat, [1, 3, 4, 5, 6, 10] = l := ⟨_, rfl⟩
  replace I := I.asRow (i := 0) (ys := ks.map B8) rfl (by rw [← hks]; rfl)
  have hksl : ks.length = 6 := by rw [← hks]; rfl
  have hkp : ∀ j, j < 6 → (ks.getD j 0 = 1 ∨ ks.getD j 0 = 3 ∨ ks.getD j 0 = 4 ∨ ks.getD j 0 = 5 ∨ ks.getD j 0 = 6 ∨ ks.getD j 0 = 10) := by rw [← hks]; decide
  replace I : Mem w _ (.row (vS g137 6 6) 6 (ks.map B8) 5 1 :: .row (vS g131 2 2) 2 (cs.map I64i) 3 1 :: .blk g9 #[vI n.cp, vQ n.credit, .slice A42 n.gs.length c42] 36 :: (mdB gm x ++ ([]))) := I
  refine Jb Z I ((JG∘JB) fun a Z I => ?_)
  refine qo (fun mS aS wS => ∃ (j : Nat) (x : Stm), (j ≤ 6) ∧ (x.sta = n.new) ∧ mS = 6 - j ∧ Fr aS 273 [] [(139, vI j), (138, vI 6), (137, vS g137 6 6), (16, vI z), (134, .bool true), (133, vI i), (132, vI 2), (131, vS g131 2 2), (124, .bool false), (57, vB (how % 7 : Nat)), (12, vP g12 0), (53, .bool false), (10, vP gm 0), (9, vP g9 0), (8, .bool false), (2, vI x0), (3, vB b)] ∧ Mem w wS (.row (vS g137 6 6) 6 (ks.map B8) 5 1 :: .row (vS g131 2 2) 2 (cs.map I64i) 3 1 :: .blk g9 #[vI n.cp, vQ n.credit, .slice A42 n.gs.length c42] 36 :: (mdB gm x ++ ([])))) (m := 6 - 0) ⟨0, x, Nat.zero_le _, hx, rfl, Z.sub kr, I.pt 3 [0, 1, 2]⟩ ?_
  clear Z I; rintro mS a w_ ⟨j, x, hlj, hx, rfl, Z, I⟩
  refine Jb Z I ((JP∘Jp 1∘Jj∘JQ) (Ju (fun hb140 => ?_) fun hb140 => ?_))
  ·
   intro a Z I
   have hd140 := of_decide_eq_true hb140
   have hvj : j < 6 := by omega
   obtain ⟨kd, hkd⟩ : ∃ z, ks.getD j 0 = z := ⟨_, rfl⟩
   have hkk := hkp j hvj; rw [hkd] at hkk
   refine Jb Z I ((JT∘JS'∘JQ∘JB∘JP∘Jy (h:=by exact Yl.ix0 g137 j 1 rfl rfl rfl)∘Jy (v := vB (ks.getD j 0)) (h:=by exact Yl.r1 0 j 0 om rfl rfl rfl)∘Jo (vB kd) (by rw [hkd])∘Jp 1∘Jd2∘Jr∘Jp 3∘Jy (v := .agg #[vB kd, vI z, vI 0, vI 0, vI 0, vI 0, vI 0, vQ 0]) (h:=by exact Yl.build (vs := [(0, vB kd), (1, vI z)]) rfl kr kr)∘JL (h:=by exact fun I => do_is (o := (⟨kd, z, 0, 0, 0, 0, 0, 0⟩ : Op30)) 3 I rfl hx (Nums.good hn).1 (qbw om hzI qq qq qq qq) (qsi (Nums.qsu hzc) hkk) (ei := 300) rfl)) ?_)
   rintro I _ w148 ⟨y, rfl, hy, HM2⟩
   refine ⟨_, rfl, _, (show Mem w w148 (.row (vS g137 6 6) 6 (ks.map B8) 5 1 :: .row (vS g131 2 2) 2 (cs.map I64i) 3 1 :: .blk g9 #[vI n.cp, vQ n.credit, .slice A42 n.gs.length c42] 36 :: (mdB gm y ++ ([]))) from HM2.back), ?_⟩
   refine (Jp 1∘Jx∘Jx∘Jp 2∘Jr∘Jv 6 [(156, .bool false)]∘Jj∘JF∘JS'∘JR∘JaK 1∘Jp 1∘Jd1∘Jq) fun a Z I => ?_
   exact ⟨_, om, j + 1, y, by omega, hy, rfl, Z.sub kr, I.pt 3 [0, 1, 2]⟩
  intro a Z I
  have hd140 := of_decide_eq_false hb140
  refine Jb Z I ((JF∘JX∘JG∘JP∘Jp 2∘Jy (v := .agg #[vB 9, vI 0, vI 0, vI 0, vI 0, vI z, vI 0, vQ 0]) (h:=by exact Yl.build (vs := [(0, vB 9), (5, vI z)]) rfl kr kr)∘JL (h:=by exact fun I => do_is (o := (⟨9, 0, 0, 0, 0, z, 0, 0⟩ : Op30)) 3 I rfl hx (Nums.good hn).1 (qbw de qq qq qq qq hzI) (do_to (Nums.qsu hzc) rfl) (ei := 300) rfl)) ?_)
  rintro I _ w162 ⟨y9, rfl, hy9, HM2⟩
  refine ⟨_, rfl, _, (show Mem w w162 (.row (vS g137 6 6) 6 (ks.map B8) 5 1 :: .row (vS g131 2 2) 2 (cs.map I64i) 3 1 :: .blk g9 #[vI n.cp, vQ n.credit, .slice A42 n.gs.length c42] 36 :: (mdB gm y9 ++ ([]))) from HM2.back), ?_⟩
  refine (Jp 1∘Jx∘Jx∘Jp 2∘Jd6∘Jr∘Jp 2∘JL (h:=by exact fun I => (qpe 3 I rfl hy9 (Nums.good hn).1 z).mono fun r w2 k => z5.no k hzn)) ?_
  rintro I _ w168 ⟨rfl, hbw⟩
  refine ⟨_, rfl, _, I.call hbw, ?_⟩
  refine (Jp 1∘Jx∘Jx∘Jp 2∘Jd6∘Jr∘Jp 2∘JL (h:=by exact fun I => (qpf 3 I rfl hy9 (Nums.good hn).1 z).mono fun r w2 k => z5.no k hzn)) ?_
  rintro I _ w174 ⟨rfl, hbw⟩
  refine ⟨_, rfl, _, I.call hbw, ?_⟩
  refine (Jp 1∘Jx∘Jx∘Jp 2∘Jd6∘Jr∘Jv 10 [(186, .bool false)]∘Jj∘JF∘JS'∘JR∘JaK 1∘Jp 1∘Jd1∘Jq) fun a Z I => ?_
  exact ⟨_, om, i + 1, y9, by omega, hy9, rfl, Z.sub kr, I.pt 3 [1, 2]⟩
 intro a Z I
 have hd134 := of_decide_eq_false hb134
 refine Jb Z I ((JF∘JX∘JG∘JQ∘JP∘Jp 1∘Jy (v := vI (if (0 : Int) < (x0 : Int) then 0 else x0)) (h:=by exact Yl.min rfl rfl rfl)∘Jo (vI (min x0 0)) (by congr 1; rw [Int.min_def]; split <;> omega)∘Jp 1∘Jy (v := vI (if (65536 : Int) > (x0 : Int) then 65536 else x0)) (h:=by exact Yl.max rfl rfl rfl)∘Jo (vI (max x0 65536)) (by congr 1; rw [Int.max_def]; split <;> omega)∘JU zj #[vI (min x0 0), vI (max x0 65536)]) fun w192 g192 => (Jl∘Jp 1∘Jq) fun a Z I => ?_)
 replace I := I.blkRow (i := 0) (n := 2) (size := 1) rfl rfl de
 obtain ⟨ids, hids⟩ : ∃ l : List Int, [min x0 0, max x0 65536] = l := ⟨_, rfl⟩
 replace I := I.asRow (i := 0) (ys := ids.map I64i) rfl (by rw [← hids]; rfl)
 have hidsl : ids.length = 2 := by rw [← hids]; rfl
 have hidp : ∀ i, i < 2 → (ids.getD i 0 < 1 ∨ 65535 < ids.getD i 0) ∧ I64 (ids.getD i 0) := fun i hi => by rw [← hids]; exact qnv (P := fun z => (z < 1 ∨ 65535 < z) ∧ I64 z) ⟨by omega, by unfold I64; omega⟩ ⟨by omega, by unfold I64; omega⟩ hi
 replace I : Mem w _ (.row (vS g192 2 2) 2 (ids.map I64i) 3 1 :: .row (vS g131 2 2) 2 (cs.map I64i) 3 1 :: .blk g9 #[vI n.cp, vQ n.credit, .slice A42 n.gs.length c42] 36 :: (mdB gm x ++ ([]))) := I
 refine Jb Z I ((JG∘JB) fun a Z I => ?_)
 refine qo (fun mS aS wS => ∃ (i2 : Nat) (x : Stm), (i2 ≤ 2) ∧ (x.sta = n.new) ∧ mS = 2 - i2 ∧ Fr aS 273 [] [(194, vI i2), (193, vI 2), (192, vS g192 2 2), (134, .bool false), (133, vI i), (132, vI 2), (131, vS g131 2 2), (124, .bool false), (57, vB (how % 7 : Nat)), (12, vP g12 0), (53, .bool false), (10, vP gm 0), (9, vP g9 0), (8, .bool false), (2, vI x0), (3, vB b)] ∧ Mem w wS (.row (vS g192 2 2) 2 (ids.map I64i) 3 1 :: .blk g9 #[vI n.cp, vQ n.credit, .slice A42 n.gs.length c42] 36 :: (mdB gm x ++ ([])))) (m := 2 - 0) ⟨0, x, Nat.zero_le _, hx, rfl, Z.sub kr, I.pt 3 [0, 2]⟩ ?_
 clear Z I; rintro mS a w_ ⟨i2, x, hli2, hx, rfl, Z, I⟩
 refine Jb Z I ((JP∘Jp 1∘Jj∘JQ) (Ju (fun hb195 => ?_) fun hb195 => ?_))
 ·
  intro a Z I
  have hd195 := of_decide_eq_true hb195
  have hvi2 : i2 < 2 := by omega
  obtain ⟨z, hz⟩ : ∃ z, ids.getD i2 0 = z := ⟨_, rfl⟩
  have hzc := (hidp i2 hvi2).1; have hzI := (hidp i2 hvi2).2; rw [hz] at hzc hzI
  refine Jb Z I ((JT∘JS'∘JQ∘JB∘JP∘Jy (h:=by exact Yl.ix0 g192 i2 1 rfl rfl rfl)∘Jy (v := vI (ids.getD i2 0)) (h:=by exact Yl.r1 0 i2 0 om rfl rfl rfl)∘Jo (vI z) (by rw [hz])∘Jp 1∘Jd2∘Jr∘JU ei_u8 #[vB 1, vB 2, vB 7, vB 9]) fun w198 g198 => (Jl∘Jp 1∘Jq) fun a Z I => ?_)
  replace I := I.blkRow (i := 0) (n := 4) (size := 1) rfl rfl de
  obtain ⟨qs, hqs⟩ : ∃ l : List Nat, [1, 2, 7, 9] = l := ⟨_, rfl⟩
  replace I := I.asRow (i := 0) (ys := qs.map B8) rfl (by rw [← hqs]; rfl)
  have hqsl : qs.length = 4 := by rw [← hqs]; rfl
  have hqp : ∀ j, j < 4 → (qs.getD j 0 = 1 ∨ qs.getD j 0 = 2 ∨ qs.getD j 0 = 7 ∨ qs.getD j 0 = 9) := by rw [← hqs]; decide
  replace I : Mem w _ (.row (vS g198 4 4) 4 (qs.map B8) 5 1 :: .row (vS g192 2 2) 2 (ids.map I64i) 3 1 :: .blk g9 #[vI n.cp, vQ n.credit, .slice A42 n.gs.length c42] 36 :: (mdB gm x ++ ([]))) := I
  refine Jb Z I ((JG∘JB) fun a Z I => ?_)
  refine qo (fun mS aS wS => ∃ (j2 : Nat) (x : Stm), (j2 ≤ 4) ∧ (x.sta = n.new) ∧ mS = 4 - j2 ∧ Fr aS 273 [] [(200, vI j2), (199, vI 4), (198, vS g198 4 4), (28, vI z), (195, .bool true), (194, vI i2), (193, vI 2), (192, vS g192 2 2), (134, .bool false), (133, vI i), (132, vI 2), (131, vS g131 2 2), (124, .bool false), (57, vB (how % 7 : Nat)), (12, vP g12 0), (53, .bool false), (10, vP gm 0), (9, vP g9 0), (8, .bool false), (2, vI x0), (3, vB b)] ∧ Mem w wS (.row (vS g198 4 4) 4 (qs.map B8) 5 1 :: .row (vS g192 2 2) 2 (ids.map I64i) 3 1 :: .blk g9 #[vI n.cp, vQ n.credit, .slice A42 n.gs.length c42] 36 :: (mdB gm x ++ ([])))) (m := 4 - 0) ⟨0, x, Nat.zero_le _, hx, rfl, Z.sub kr, I.pt 3 [0, 1, 2]⟩ ?_
  clear Z I; rintro mS a w_ ⟨j2, x, hlj2, hx, rfl, Z, I⟩
  refine Jb Z I ((JP∘Jp 1∘Jj∘JQ) (Ju (fun hb201 => ?_) fun hb201 => ?_))
  ·
   intro a Z I
   have hd201 := of_decide_eq_true hb201
   have hvj2 : j2 < 4 := by omega
   obtain ⟨kd, hkd⟩ : ∃ z, qs.getD j2 0 = z := ⟨_, rfl⟩
   have hkk := hqp j2 hvj2; rw [hkd] at hkk
   refine Jb Z I ((JT∘JS'∘JQ∘JB∘JP∘Jy (h:=by exact Yl.ix0 g198 j2 1 rfl rfl rfl)∘Jy (v := vB (qs.getD j2 0)) (h:=by exact Yl.r1 0 j2 0 om rfl rfl rfl)∘Jo (vB kd) (by rw [hkd])∘Jp 1∘Jd2∘Jr∘Jp 3∘Jy (v := .agg #[vB kd, vI 0, vI z, vI 0, vI 0, vI 0, vI 0, vQ 0]) (h:=by exact Yl.build (vs := [(0, vB kd), (2, vI z)]) rfl kr kr)∘JL (h:=by exact fun I => do_is (o := (⟨kd, 0, z, 0, 0, 0, 0, 0⟩ : Op30)) 3 I rfl hx (Nums.good hn).1 (qbw om qq hzI qq qq qq) ((Decidable.em (kd = 7)).elim (fun h => qpk (idNo hzc) h) (fun h => qri (idNo hzc) (Nums.cpu0 n) (Nums.cpu0 n) (by show kd = 1 ∨ kd = 2 ∨ kd = 9; omega))) (ei := 301) rfl)) ?_)
   rintro I _ w209 ⟨y, rfl, hy, HM2⟩
   refine ⟨_, rfl, _, (show Mem w w209 (.row (vS g198 4 4) 4 (qs.map B8) 5 1 :: .row (vS g192 2 2) 2 (ids.map I64i) 3 1 :: .blk g9 #[vI n.cp, vQ n.credit, .slice A42 n.gs.length c42] 36 :: (mdB gm y ++ ([]))) from HM2.back), ?_⟩
   refine (Jp 1∘Jx∘Jx∘Jp 2∘Jd6∘Jr∘Jv 2 [(213, .bool false)]∘Jj∘JF∘JS'∘JR∘JaK 1∘Jp 1∘Jd1∘Jq) fun a Z I => ?_
   exact ⟨_, om, j2 + 1, y, by omega, hy, rfl, Z.sub kr, I.pt 3 [0, 1, 2]⟩
  intro a Z I
  have hd201 := of_decide_eq_false hb201
  refine Jb Z I ((JF∘JX∘JG∘JR∘JaK 1∘Jp 1∘Jd1∘Jq) fun a Z I => ?_)
  exact ⟨_, om, i2 + 1, x, by omega, hx, rfl, Z.sub kr, I.pt 3 [1, 2]⟩
 intro a Z I
 have hd195 := of_decide_eq_false hb195
 refine Jb Z I ((JF∘JX∘JG∘JP∘Jp 3∘Jo (vB (b % 245 : Nat)) (by exact qck .u8 _ 245)∘Jp 1∘Jo (vB (11 + (b % 245) : Nat)) (by exact qrq om om)∘Jy (v := .agg #[vB (11 + (b % 245) : Nat), vI 0, vI 0, vI 0, vI 0, vI 0, vI 0, vQ 0]) (h:=by exact Yl.build (vs := [(0, vB (11 + (b % 245) : Nat))]) rfl kr kr)∘JL (h:=by exact fun I => do_is (o := (⟨(11 + b % 245), 0, 0, 0, 0, 0, 0, 0⟩ : Op30)) 2 I rfl hx (Nums.good hn).1 (qbw om qq qq qq qq qq) (qik (.inr (by show 10 < 11 + b % 245; omega))) (ei := 2) rfl)) ?_)
 rintro I _ w222 ⟨ya, rfl, hya, HM2⟩
 refine ⟨_, rfl, _, (show Mem w w222 (.row (vS g192 2 2) 2 (ids.map I64i) 3 1 :: .blk g9 #[vI n.cp, vQ n.credit, .slice A42 n.gs.length c42] 36 :: (mdB gm ya ++ ([]))) from HM2.back), ?_⟩
 refine (Jp 1∘Jx∘Jx∘Jp 2∘Jd6∘Jr∘Jp 2∘Jg 2 O1∘Jl∘Jy (v := vI (if (n.gs.length : Int) > (x0 : Int) then (n.gs.length : Int) else x0)) (h:=by exact Yl.max rfl rfl rfl)∘Jo (vI (max x0 (n.gs.length : Int))) (by congr 1; rw [Int.max_def]; split <;> omega)∘Jy (v := .agg #[vB 8, vI 0, vI 0, vI (max x0 (n.gs.length : Int)), vI 1, vI 0, vI 0, vQ 0]) (h:=by exact Yl.build (vs := [(0, vB 8), (3, vI (max x0 (n.gs.length : Int))), (4, vI 1)]) rfl kr kr)∘JL (h:=by exact fun I => do_is (o := (⟨8, 0, 0, (max x0 (n.gs.length : Int)), 1, 0, 0, 0⟩ : Op30)) 2 I rfl hya (Nums.good hn).1 (qbw de qq qq (by unfold I64; omega) (by unfold I64; decide) qq) (qsj (by rw [Nums.spl]; show ¬ (1 ≤ max x0 (n.gs.length : Int) ∧ max x0 (n.gs.length : Int) < n.gs.length); omega) rfl) (ei := 302) rfl)) ?_
 rintro I _ w233 ⟨yb, rfl, hyb, HM2⟩
 refine ⟨_, rfl, _, (show Mem w w233 (.row (vS g192 2 2) 2 (ids.map I64i) 3 1 :: .blk g9 #[vI n.cp, vQ n.credit, .slice A42 n.gs.length c42] 36 :: (mdB gm yb ++ ([]))) from HM2.back), ?_⟩
 refine (Jp 1∘Jx∘Jx∘Jp 2∘Jd6∘Jr∘Jp 2∘Jw .i64∘Jp 1∘Jo (vI (1 + b : Nat)) (by exact qb4 om om)∘Jy (v := .agg #[vB 2, vI 0, vI (1 + b : Nat), vI 0, vI 0, vI 0, vI 0, vQ 0]) (h:=by exact Yl.build (vs := [(0, vB 2), (2, vI (1 + b : Nat))]) rfl kr kr)∘JL (h:=by exact fun I => do_is (o := (⟨2, 0, ((1 + b : Nat) : Int), 0, 0, 0, 0, 0⟩ : Op30)) 2 I rfl hyb (Nums.good hn).1 (qbw de qq (by unfold I64; omega) qq qq qq) (qrj (idYes (by show 1 ≤ ((1 + b : Nat) : Int) ∧ ((1 + b : Nat) : Int) ≤ 65535; omega)) rfl rfl) (ei := 6) rfl)) ?_
 rintro I _ w242 ⟨yc, rfl, hyc, HM2⟩
 refine ⟨_, rfl, _, (show Mem w w242 (.row (vS g192 2 2) 2 (ids.map I64i) 3 1 :: .blk g9 #[vI n.cp, vQ n.credit, .slice A42 n.gs.length c42] 36 :: (mdB gm yc ++ ([]))) from HM2.back), ?_⟩
 refine (Jp 1∘Jx∘Jx∘Jp 2∘Jd6∘Jr∘Jp 1∘JL (h:=by exact fun I => qrc 2 I rfl hyc (Nums.good hn).1)) ?_
 rintro I _ w247 ⟨q, rfl, hq, hcapq, hm⟩
 refine ⟨_, rfl, _, (show Mem w w247 (.row (vS g192 2 2) 2 (ids.map I64i) 3 1 :: .blk g9 #[vI n.cp, vQ n.credit, .slice A42 n.gs.length c42] 36 :: (stF q ++ (mdB gm yc ++ ([])))) from I.joinF (T := (mdB gm yc ++ ([]))) 2 hm rfl), ?_⟩
 exact (Jp 1∘Jx∘Jx∘JA #[vI 0, vQ 0, vN, vN, vN, vN, vN]) fun w39 g39 => (JV si_st O0' (h1:=by exact qlm q)) fun w54_6 => (Jp 1∘Jr∘Jv 15 [(264, .bool true)]∘Jg 5 O0∘Jl∘Jo (vI 0) (by rw [qsf hq]; try rfl)∘Jv 3 [(270, .bool true)]∘JI (h:=by exact fun I => qiq _)) fun w271 hbw => (Jp 2∘Jd6∘Jj∘JZ) JY1
end Go.Proofs.Ytannicghedpdpaa
