/- Parts. -/
import Derived.Test.YtcajpeiobkcliaaGreatDoorQbZ4
set_option linter.all false
set_option maxRecDepth 100000
set_option maxHeartbeats 4000000
namespace Go.Proofs.YtcajpeiobkcliaaGreatDoor
open Go.RowKit
theorem qv4 (A : Option Addr) (n c : Nat) (l : List Nat) (D : Option Addr) (k c2 : Nat) (m : List Nat) (w : World) (hr : Rd w w.heap.size 1 A n (l.map B8)) (hr2 : Rd w w.heap.size 1 D k (m.map B8)) (hl : ∀ z ∈ l, z < 256) (hm : ∀ z ∈ m, z < 256) :
    Calls Tryz.prog 59 #[.slice A n c, .slice D k c2] w (Is w (.bool (decide (l = m)))) := by
 refine (JN2 Tryz.func59 10) ?_
 exact (JP∘Jp 1∘Jr∘Jp 1∘Jy (h:=by exact Yl.str rfl rfl (fun _ h => h.old hr))∘Jp 1∘Jy (h:=by exact Yl.str rfl rfl (fun _ h => h.old hr2))∘Jp 1∘Jo (.bool (decide (l = m))) (by rw [q6q hl hm])∘Jp 1∘Jd5∘Jj∘JZ) JY1
theorem qpo (A : Option Addr) (c : Nat) (l : List Nat) (B : Nat) (w : World) (hL : LaidX B w) (hB : B ≤ w.heap.size) (hr : Rd w w.heap.size 1 A l.length (l.map B8)) (hc : l.length ≤ c) (hn : l.length ≤ 100000000) (hl : ∀ z ∈ l, z < 256) :
    Calls Tryz.prog 27 #[.slice A l.length c] w (qtj w (rdE l) (rdS l)) := by
 refine (JN1 Tryz.func27 37) ?_
 refine (JP∘JA #[vI 0, vI 0, vQ 0, vN, vN, vN, vN, vN]) fun w2 g2 => (Jp 1∘Jj∘JQ) fun a Z I => ?_
 rcases hop : opnR l with k | p
 ·
  have hke := qhd hop
  refine Jb Z I ((JR∘Jp 1∘JI (h:=by exact fun I => qrk A c l B _ (hL.mem I hB) (I.le hB) (I.old hr) hc hn hl hop)) fun w10 hbw => (Jp 1∘Jx∘Jx∘Jp 2∘Jj∘JQ∘JP∘Jp 2∘Jd1∘Jj) (Ju (fun hb14 => ?_) fun hb14 => ?_))
  ·
   intro a Z I
   have hd14 := bne_iff_ne.1 hb14
   refine Jb Z I ((JT∘JP∘Jy (v := .agg #[vI 0, vI 0, vQ 0, vN, vN, vN, vN, vN]) (h:=by exact Yl.build (vs := []) rfl kr kr)∘Jp 1∘JV qz O0') fun w3_2 => (Jp 1∘Jd2∘Jj∘JZ) fun a Z I => ?_)
   exact ret2 rfl Z (.cellS (i := 0) Z I rfl rfl qz rfl) (.tmp Z rfl) (qfl (rd_no hop) rfl (I.pk []))
  intro a Z I
  have hd14 := bne_eq_false_iff_eq.1 hb14
  exfalso; omega
 ·
  have hfit := (qri hl hop).2.2.1
  refine Jb Z I ((JR∘Jp 1∘JL (h:=by exact fun I => qrj A c l B _ (hL.mem I hB) (I.le hB) (I.old hr) hc hn hl hop)) ?_)
  rintro I _ w10 ⟨g10, iv, av, NA, nc, SA, sc, rfl, hnc, hsc, hm⟩
  refine ⟨_, rfl, _, I.join hm, ?_⟩
  refine (Jp 1∘Jx∘Jx∘Jp 2∘Jj∘JQ∘JP∘Jv 2 [(14, .bool false)]∘Jj∘JF∘JS'∘JP∘Jp 1∘Jn∘Jg 2 O0∘Jy (v := .agg #[.slice NA p.nums.length nc, .bool true]) (h:=by exact Yl.build (vs := [(0, .slice NA p.nums.length nc), (1, .bool true)]) rfl kr kr)∘JE) fun w22 g22 => (Jp 1∘Jd5∘Jr∘Jp 1∘JL (h:=by exact fun I => qv3 _ _ g22 NA nc p hfit [.blk g2 #[vI 0, vI 0, vQ 0, vN, vN, vN, vN, vN] 40] (I.pk [0, 2, 4]) hnc)) ?_
  rintro I _ w24 ⟨z, SA2, n2, c2, rfl, hz, hcap, HM2⟩
  refine ⟨_, rfl, _, HM2, ?_⟩
  refine (JA #[vI 0, vI 0, vQ 0, vN, vN, vN, vN, vN]) fun w7 g7 => (JV qz O0' (h1:=by exact qeb z)) fun w5_3 => (Jd2∘Jj∘JQ∘JP∘Jp 1∘Jn∘Jg 1 O1∘Jp 2) (Ju (fun hb30 => ?_) fun hb30 => ?_)
  ·
   refine (Jp 4∘Jd6∘Jj∘JT∘JP∘Jy (v := .agg #[vI 0, vI 0, vQ 0, vN, vN, vN, vN, vN]) (h:=by exact Yl.build (vs := []) rfl kr kr)∘JV qz O2') fun w7_1 => (Jp 1∘Jd1∘Jj∘JZ) fun a Z I => ?_
   exact ret2 rfl Z (.cellS (i := 2) Z I rfl rfl qz rfl) (.tmp Z rfl) (qfl (qti hop (fun h => by rw [h.1] at hb30; cases hb30)) rfl (I.pk []))
  refine (Jy (v := .agg z.cells) (h:=by exact Yl.loadS rfl rfl qz rfl (fun _ h => qb (h.blk (i := 0) rfl)))∘JI (h:=by exact fun I => qhe z (zaz hz (zay hfit)) (q5c (qky hz) (q54 hfit _ (.inl rfl))) hcap _ (I.stX 3 rfl))) fun w32 hbw => (Jp 2∘Jd6∘Jj) (Jh (fun hd34 => ?_) fun hd34 => ?_)
  ·
   refine (JT∘JP∘Jy (v := .agg #[vI 0, vI 0, vQ 0, vN, vN, vN, vN, vN]) (h:=by exact Yl.build (vs := []) rfl kr kr)∘JV qz O2') fun w7_1 => (Jp 1∘Jd1∘Jj∘JZ) fun a Z I => ?_
   exact ret2 rfl Z (.cellS (i := 2) Z I rfl rfl qz rfl) (.tmp Z rfl) (qfl (qti hop (fun h => by have h2 := h.2; rw [← qoc hz] at h2; omega)) rfl (I.pk []))
  refine (JF∘JS'∘JP∘Jy (v := .agg z.cells) (h:=by exact Yl.loadS rfl rfl qz rfl (fun _ h => qb (h.blk (i := 0) rfl)))∘JV qz O2' (h1:=by exact qeb z)) fun w8_1 => (Jp 1∘Jd1∘Jj∘JZ) fun a Z I => ?_
  exact ret2 rfl Z (.cellS (i := 2) Z I rfl rfl qz rfl) (.tmp Z rfl) (q0k (q55 hop ⟨by simpa using hb30, by rw [← qoc hz]; omega⟩) rfl hz hcap (I.subl (List.sublist_append_right ([.blk g7 z.cells 40, .blk g22 #[.slice SA2 n2 c2, .bool p.okB] 132, .blk g2 z.cells 40] : List Fact) _)))
theorem qhy (A : Option Addr) (c : Nat) (l : List Nat) (B : Nat) (w : World) (hL : LaidX B w) (hB : B ≤ w.heap.size) (hr : Rd w w.heap.size 1 A l.length (l.map B8)) (hc : l.length ≤ c) (hn : l.length ≤ 100000000) (hl : ∀ z ∈ l, z < 256) {p : Pr} (h : opnR l = .ok p) : Calls Tryz.prog 29 #[.slice A l.length c] w (qee 69 w 0 p.secs) := by
 have := qd3 A c l B w hL hB hr hc hn hl
 rwa [qfh h, qmz h] at this
theorem qhz (A : Option Addr) (c : Nat) (l : List Nat) (B : Nat) (w : World) (hL : LaidX B w) (hB : B ≤ w.heap.size) (hr : Rd w w.heap.size 1 A l.length (l.map B8)) (hc : l.length ≤ c) (hn : l.length ≤ 100000000) (hl : ∀ z ∈ l, z < 256) {k : Nat} (h : opnR l = .error k) : Calls Tryz.prog 29 #[.slice A l.length c] w (qee 69 w k []) := by
 have := qd3 A c l B w hL hB hr hc hn hl
 rwa [qjx h, qta h] at this
theorem qii {w w' : World} {a b : List Nat} {k : Nat} {s : ByteArray} {r : Ending} (h : difE a b = k ∧ difN a b = s) (hr : r = .returned (.tuple #[.string s, vI k])) (hb : Below w.heap.size w w') : Is w (.tuple #[.string (difN a b), vI (difE a b : Int)]) r w' := by
 obtain ⟨h1, h2⟩ := h
 rw [h1, h2]
 exact ⟨hr, hb⟩
theorem qh0 (A : Option Addr) (c : Nat) (la : List Nat) (D : Option Addr) (d : Nat) (lb : List Nat) (B : Nat) (w : World) (hL : LaidX B w) (hB : B ≤ w.heap.size) (hr1 : Rd w w.heap.size 1 A la.length (la.map B8)) (hc1 : la.length ≤ c) (hn1 : la.length ≤ 100000000) (hl1 : ∀ z ∈ la, z < 256) (hr2 : Rd w w.heap.size 1 D lb.length (lb.map B8)) (hc2 : lb.length ≤ d) (hn2 : lb.length ≤ 100000000) (hl2 : ∀ z ∈ lb, z < 256) :
    Calls Tryz.prog 31 #[.slice A la.length c, .slice D lb.length d] w (Is w (.tuple #[.string (difN la lb), vI (difE la lb : Int)])) := by
 refine (JN2 Tryz.func31 63) ?_
 refine (JP∘Jp 2∘Jj∘JQ) fun a Z I => ?_
 rcases hoa : opnR la with k | p
 ·
  have hke := qhd hoa
  refine Jb Z I ((JR∘Jp 1∘JK (h:=by exact fun I => qhz A c la B _ (hL.mem I hB) (I.le hB) (I.old hr1) hc1 hn1 hl1 hoa)) fun X12 c12 w12 hc12 => (Jp 1∘Jx∘Jx∘Jp 2∘Jj∘JQ∘JP∘Jp 2∘Jd1∘Jj) (Ju (fun hb16 => ?_) fun hb16 => ?_))
  ·
   intro a Z I
   have hd16 := bne_iff_ne.1 hb16
   exact Jb Z I ((JT∘JP∘Jp 3∘Jj∘JZ∘Jz2) fun I => qii (q8q hoa) rfl I.below)
  intro a Z I
  have hd16 := bne_eq_false_iff_eq.1 hb16
  exfalso; omega
 ·
  have hsa := qm9 p
  refine Jb Z I ((JR∘Jp 1∘JK (h:=by exact fun I => qhy A c la B _ (hL.mem I hB) (I.le hB) (I.old hr1) hc1 hn1 hl1 hoa)) fun X12 c12 w12 hc12 => (Jp 1∘Jx∘Jx∘Jp 2∘Jj∘JQ∘JP∘Jv 2 [(16, .bool false)]∘Jj∘JF∘JS'∘JQ) fun a Z I => ?_)
  rcases hob : opnR lb with k | q
  ·
   have hke := qhd hob
   refine Jb Z I ((JR∘Jp 1∘JK (h:=by exact fun I => qhz D d lb B _ (hL.mem I hB) (I.le hB) (I.old hr2) hc2 hn2 hl2 hob)) fun X20 c20 w20 hc20 => (Jp 1∘Jx∘Jx∘Jp 2∘Jj∘JQ∘JP∘Jp 2∘Jd1∘Jj) (Ju (fun hb24 => ?_) fun hb24 => ?_))
   ·
    intro a Z I
    have hd24 := bne_iff_ne.1 hb24
    exact Jb Z I ((JT∘JP∘Jp 3∘Jj∘JZ∘Jz2) fun I => qii (q8r hoa hob) rfl I.below)
   intro a Z I
   have hd24 := bne_eq_false_iff_eq.1 hb24
   exfalso; omega
  ·
   have hsb := qm9 q
   refine Jb Z I ((JR∘Jp 1∘JK (h:=by exact fun I => qhy D d lb B _ (hL.mem I hB) (I.le hB) (I.old hr2) hc2 hn2 hl2 hob)) fun X20 c20 w20 hc20 => (Jp 1∘Jx∘Jx∘Jp 2∘Jj∘JQ∘JP∘Jv 2 [(24, .bool false)]∘Jj∘JF∘JS'∘JQ∘JP∘Jp 1∘Jl∘Jp 1∘Jj∘JB) fun a Z I => ?_)
   refine qf (fun mS aS wS => ∃ (i : Nat), (i ≤ 9) ∧ (difE la lb = 0 ∧ difN la lb = difF la lb p.secs q.secs (9 - i) i) ∧ mS = 9 - i ∧ Fr aS 63 [] [(28, vI i), (27, vI p.secs.length), (24, .bool false), (7, vI 0), (8, .slice X20 q.secs.length c20), (16, .bool false), (6, .slice X12 p.secs.length c12), (5, vI 0), (4, .string (ByteArray.mk #[])), (0, .slice A la.length c), (1, .slice D lb.length d)] ∧ Mem w wS [.row (.slice X20 q.secs.length c20) q.secs.length (q.secs.flatMap secL) 69 3, .row (.slice X12 p.secs.length c12) p.secs.length (p.secs.flatMap secL) 69 3]) (m := 9 - 0) ⟨0, Nat.zero_le _, q59 hoa hob, rfl, Z.sub kr, I.pk [0, 1]⟩ ?_
   clear Z I; rintro mS a w_ ⟨i, hi, hd, rfl, Z, I⟩
   refine Jb Z I ((JP∘Jp 1∘Jj∘JQ) (Ju (fun hb29 => ?_) fun hb29 => ?_))
   ·
    intro a Z I
    have hd29 := of_decide_eq_true hb29
    have ha1 := q56 hl1 hoa (i := i) om
    have hb1 := q56 hl2 hob (i := i) om
    refine Jb Z I ((JT∘JS'∘JQ∘JB∘JP∘Jp 2∘Jd1∘Jj) fun a Z I => ?_)
    refine wp_seq ?_
    refine Jb Z I ((Vs .n []) fun wd10 => (Vp [0, 1, 2, 6, 7, 12, 13, 14, 18, 19]) ?_)
    repeat (first | clear Z | clear I | clear HS)
    intro a Z I HS
    obtain ⟨gX12, rfl⟩ := qq (I.own (i := 1) rfl) (Nat.lt_of_le_of_lt (Nat.zero_le _) (show i < p.secs.length from by omega))
    refine Vb Z I HS ((Vy 3 (h:=by exact Yl.ix0 gX12 i 3 rfl rfl rfl)∘Vf 4 1∘Vy 5 (v := vI ((p.secs.getD i Sec.zero).fr)) (h:=by exact Yl.qt rfl rfl kr (fun _ h => h.qw qcs (i := 1) rfl (k := i) (off := 1) (x := (p.secs.getD i Sec.zero)) ((getD_at Sec.zero (k := i) (by first | omega | (simp; omega)))) rfl))∘Vy 8 (h:=by exact Yl.ix0 gX12 i 3 rfl rfl rfl)∘Vf 9 2∘Vy 10 (v := vI ((p.secs.getD i Sec.zero).to)) (h:=by exact Yl.qt rfl rfl kr (fun _ h => h.qw qcs (i := 1) rfl (k := i) (off := 2) (x := (p.secs.getD i Sec.zero)) ((getD_at Sec.zero (k := i) (by first | omega | (simp; omega)))) rfl))∘Vy 11 (v := .slice (if c = (p.secs.getD i Sec.zero).fr then A else A.map (·.add (((p.secs.getD i Sec.zero).fr) * 1))) (((p.secs.getD i Sec.zero).to) - ((p.secs.getD i Sec.zero).fr)) (c - ((p.secs.getD i Sec.zero).fr))) (h:=by exact Yl.q08 ei_u8 (i := (p.secs.getD i Sec.zero).fr) (j := (p.secs.getD i Sec.zero).to) rfl rfl rfl rfl om om)) ?_)
    repeat (first | clear Z | clear I | clear HS)
    intro a Z I HS
    obtain ⟨gX20, rfl⟩ := qq (I.own (i := 0) rfl) (Nat.lt_of_le_of_lt (Nat.zero_le _) (show i < q.secs.length from by omega))
    refine Vb Z I HS ((Vy 15 (h:=by exact Yl.ix0 gX20 i 3 rfl rfl rfl)∘Vf 16 1∘Vy 17 (v := vI ((q.secs.getD i Sec.zero).fr)) (h:=by exact Yl.qt rfl rfl kr (fun _ h => h.qw qcs (i := 0) rfl (k := i) (off := 1) (x := (q.secs.getD i Sec.zero)) ((getD_at Sec.zero (k := i) (by first | omega | (simp; omega)))) rfl))∘Vy 20 (h:=by exact Yl.ix0 gX20 i 3 rfl rfl rfl)∘Vf 21 2∘Vy 22 (v := vI ((q.secs.getD i Sec.zero).to)) (h:=by exact Yl.qt rfl rfl kr (fun _ h => h.qw qcs (i := 0) rfl (k := i) (off := 2) (x := (q.secs.getD i Sec.zero)) ((getD_at Sec.zero (k := i) (by first | omega | (simp; omega)))) rfl))∘Vy 23 (v := .slice (if d = (q.secs.getD i Sec.zero).fr then D else D.map (·.add (((q.secs.getD i Sec.zero).fr) * 1))) (((q.secs.getD i Sec.zero).to) - ((q.secs.getD i Sec.zero).fr)) (d - ((q.secs.getD i Sec.zero).fr))) (h:=by exact Yl.q08 ei_u8 (i := (q.secs.getD i Sec.zero).fr) (j := (q.secs.getD i Sec.zero).to) rfl rfl rfl rfl om om)∘VI 24 .n (h:=by exact fun I => qv4 _ _ _ (cutB la (p.secs.getD i Sec.zero)) _ _ _ (cutB lb (q.secs.getD i Sec.zero)) _ (q58 (I.old hr1) ha1 hc1) (q58 (I.old hr2) hb1 hc2) (q57 hl1 _) (q57 hl2 _))) fun w55 hbw => (Vp [25]∘Vd∘Jd6) (Ju (fun hb56 => ?_) fun hb56 => ?_))
    ·
     intro a Z I
     have hd56 := of_decide_eq_false ((Bool.not_eq_true' _).mp hb56)
     exact Jb Z I ((JT∘JP∘Jp 2∘Jy (h:=by exact Yl.ix0 gX12 i 3 rfl rfl rfl)∘Jf 0∘Jy (v := .string (p.secs.getD i Sec.zero).nm) (h:=by exact Yl.qt rfl rfl kr (fun _ h => (by have := h.qw qcs (i := 1) rfl (k := i) (off := 0) (x := (p.secs.getD i Sec.zero)) ((getD_at Sec.zero (k := i) (by first | omega | (simp; omega)))) rfl; simpa using this)))∘Jp 2∘Jj∘JZ∘Jz2) fun I => by exact qii ⟨hd.1, hd.2.trans (q4g om (of_decide_eq_false (by simpa using hb56)))⟩ rfl I.below)
    intro a Z I
    have hd56 := of_decide_eq_true ((Bool.not_eq_false' _).mp hb56)
    refine Jb Z I ((JF∘JS'∘JR∘JaK 1∘Jp 1∘Jd1∘Jq) fun a Z I => ?_)
    exact ⟨_, om, i + 1, by omega, ⟨hd.1, hd.2.trans (q4f om (of_decide_eq_true (by simpa using hb56)))⟩, rfl, Z.sub kr, I.pk [0, 1]⟩
   intro a Z I
   have hd29 := of_decide_eq_false hb29
   exact Jb Z I ((JF∘JX∘JG∘JP∘Jp 2∘Jj∘JZ∘Jz2) fun I => by exact qii ⟨hd.1, hd.2.trans (q8s om)⟩ rfl I.below)
section
variable {W w : World} {fs A B l m : List Fact} {x : Stm}
end
theorem q4q (s : ByteArray) : (!(s.toList == s.toList)) = false := by simp
def chX (i v : Nat) : List Nat := sealL (byA.set i v)
def fstX : List Nat := sealL byA
def moreX : List Nat := sealL (byA ++ [0])
def badX : List Nat := fstX.set 12 ((fstX.getD 12 0 + 1) % 256)
theorem qaw : fstX.length = 15 := by kernel_rfl
theorem qdk (i v : Nat) : (chX i v).length = 15 := by unfold chX; rw [qar, List.length_set]; rfl
theorem qtq : moreX.length = 16 := by unfold moreX; rw [qar]; rfl
theorem qtr : ∀ z ∈ byA, z < 256 := by decide
theorem qpp : ∀ z ∈ fstX, z < 256 := qds qtr
theorem q0t {l : List Nat} {i v : Nat} (hl : ∀ z ∈ l, z < 256) (hv : v < 256) : ∀ z ∈ l.set i v, z < 256 := by
 intro z hz
 rcases List.mem_or_eq_of_mem_set hz with h | h
 ·exact hl z h
 ·omega
theorem ch_lt {i v : Nat} (hv : v < 256) : ∀ z ∈ chX i v, z < 256 := qds (q0t qtr hv)
theorem q8y : ∀ z ∈ moreX, z < 256 := qds de
theorem za3 : ∀ z ∈ badX, z < 256 := q0t qpp (Nat.mod_lt _ de)
theorem q8z : badX.length = 15 := by unfold badX; rw [List.length_set]; exact qaw
theorem x_ok : rdE fstX = 0 := by kernel_rfl
theorem za4 : (rdS fstX).next = 1 := by kernel_rfl
theorem za5 : (rdS fstX).st.cpus = 1 := by kernel_rfl
theorem x_cl : (rdS fstX).st.cl.length = 1 := by kernel_rfl
theorem x_err : errR fstX = 0 := by kernel_rfl
theorem za6 : (pnums fstX).length = 8 := by kernel_rfl
theorem za7 : difE fstX (chX 3 2) = 0 := by kernel_rfl
theorem za8 : difN fstX (chX 3 2) = ⟨#[110, 101, 120, 116]⟩ := by kernel_rfl
theorem q80 : rdE (fstX.take 14) = 340 := by kernel_rfl
theorem x_sum : rdE badX = 341 := by kernel_rfl
theorem x1 : rdE (chX 0 112) = 342 := by kernel_rfl
theorem x2 : rdE (chX 2 2) = 343 := by kernel_rfl
theorem x3 : rdE (chX 4 0) = 345 := by kernel_rfl
theorem x4 : rdE (chX 4 65) = 345 := by kernel_rfl
theorem x5 : rdE (chX 6 0) = 345 := by kernel_rfl
theorem x6 : rdE (chX 9 1) = 344 := by kernel_rfl
theorem x7 : rdE moreX = 346 := by kernel_rfl
theorem x8 : rdE (chX 3 0) = 347 := by kernel_rfl
theorem x9 : rdE (chX 8 5) = 347 := by kernel_rfl
theorem q81 {i v : Nat} (hi : i < 11) : ((fstX.set i v).take 11) = byA.set i v := by
 unfold fstX sealL
 rw [List.set_append_left _ _ (show i < byA.length from hi), List.take_append_of_le_length (by rw [List.length_set]; exact Nat.le_refl 11), List.take_of_length_le (by rw [List.length_set]; exact Nat.le_refl 11)]
theorem q4r : fstX.take 11 = byA := by
 unfold fstX sealL
 rw [List.take_append_of_le_length (Nat.le_refl 11)]
 rfl
structure Xb where
 A : Option Addr
 n : Nat
 c : Nat
 l : List Nat
 e : Nat
def Xb.zero : Xb := ⟨none, 0, 0, [], 0⟩
def xbL (x : Xb) : List Value := [.slice x.A x.n x.c, .int .i64 (x.e : Int)]
def Xb.cells (x : Xb) : Array Value := #[.slice x.A x.n x.c, .int .i64 (x.e : Int)]
theorem q82 (x : Xb) : (xbL x).length = 2 := rfl
theorem za9 (x : Xb) : ∀ v ∈ x.cells.toList, v.oneCell' = true := by simp [Xb.cells, Value.oneCell']
def Xb.own (x : Xb) : Own := ⟨x.A, x.n, x.c, x.l.map B8⟩
def xbF (t : TypeId) (q : List Xb) : List Fact := ownsF t 1 (q.map Xb.own)
def Xb.Ok (x : Xb) : Prop := x.l.length = x.n ∧ x.n ≤ x.c ∧ x.n ≤ 100 ∧ (∀ z ∈ x.l, z < 256) ∧ rdE x.l = x.e
theorem q83 {t : TypeId} {q : List Xb} {x : Xb} (hq : x ∈ q) : Fact.row (.slice x.A x.n x.c) x.n (x.l.map B8) t 1 ∈ xbF t q := List.mem_map_of_mem (List.mem_map_of_mem hq)
theorem Mem.xbAt {W w : World} {fs : List Fact} {t : TypeId} {q : List Xb} (n : Nat) (h : Mem W w fs) (he : fs.drop n = xbF t q) {x : Xb} (hx : x ∈ q) : Rd w w.heap.size 1 x.A x.n (x.l.map B8) :=
 h.rdMem (List.mem_of_mem_drop (he ▸ q83 hx))
theorem si_xb : SI Tryz.prog 122 2 := ⟨by kernel_rfl, by kernel_rfl⟩
theorem ei_xb : EI Tryz.prog 124 122 (.agg Xb.zero.cells) 2 32 := ⟨by kernel_rfl, by kernel_rfl, rfl, by omega⟩
theorem q4u (A : Option Addr) (c : Nat) (w : World) (hr : Rd w w.heap.size 1 A 11 (byA.map B8)) : Calls Tryz.prog 56 #[.slice A 11 c] w (fun r w' => (∃ A c, r = .returned (.slice A 15 c) ∧ w'.ownsRow w.heap.size 5 1 (.slice A 15 c) 15 (fstX.map B8) ∧ 15 ≤ c) ∧ Below w.heap.size w w') := by
 have h := qhh A 11 c byA w hr rfl de qtr
 unfold qcp at h
 rwa [show (sealL byA).length = 15 from qaw] at h
theorem q88 (i v : Nat) (hv : v < 256) (A : Option Addr) (c : Nat) (w : World) (hr : Rd w w.heap.size 1 A 11 ((byA.set i v).map B8)) : Calls Tryz.prog 56 #[.slice A 11 c] w (fun r w' => (∃ A c, r = .returned (.slice A 15 c) ∧ w'.ownsRow w.heap.size 5 1 (.slice A 15 c) 15 ((chX i v).map B8) ∧ 15 ≤ c) ∧ Below w.heap.size w w') := by
 have h := qhh A 11 c (byA.set i v) w hr (by rw [List.length_set]; rfl) de (q0t qtr hv)
 unfold qcp at h
 rwa [show (sealL (byA.set i v)).length = 15 from qdk i v] at h
theorem q04 (A : Option Addr) (c : Nat) (w : World) (hr : Rd w w.heap.size 1 A 12 ((byA ++ [0]).map B8)) : Calls Tryz.prog 56 #[.slice A 12 c] w (fun r w' => (∃ A c, r = .returned (.slice A 16 c) ∧ w'.ownsRow w.heap.size 5 1 (.slice A 16 c) 16 (moreX.map B8) ∧ 16 ≤ c) ∧ Below w.heap.size w w') := by
 have h := qhh A 12 c (byA ++ [0]) w hr rfl de de
 unfold qcp at h
 rwa [show (sealL (byA ++ [0])).length = 16 from qtq] at h
theorem qnd (A : Option Addr) (n c : Nat) (l : List Nat) (B : Nat) (w : World) (hL : LaidX B w) (hB : B ≤ w.heap.size) (hr : Rd w w.heap.size 1 A n (l.map B8)) (hc : n ≤ c) (hln : l.length = n) (hn : n ≤ 100000000) (hl : ∀ z ∈ l, z < 256) {e : Nat} (h : rdE l = e) : Calls Tryz.prog 27 #[.slice A n c] w (qtj w e (rdS l)) := by
 subst hln; subst h
 exact qpo A c l B w hL hB hr hc hn hl
theorem numsX (A : Option Addr) (c : Nat) (B : Nat) (w : World) (hL : LaidX B w) (hB : B ≤ w.heap.size) (hr : Rd w w.heap.size 1 A 15 (fstX.map B8)) (hc : 15 ≤ c) : Calls Tryz.prog 28 #[.slice A 15 c] w (fun r w' => (∃ A c, r = .returned (.tuple #[.slice A 8 c, .int .i64 0])) ∧ Below w.heap.size w w') := by
 rw [← qaw] at hr hc ⊢
 refine (qhx A c fstX B w hL hB hr hc (by rw [qaw]; decide) qpp).mono fun r w' h => ?_
 obtain ⟨⟨A2, c2, h1, _, _⟩, h2⟩ := h
 rw [x_err, za6] at h1
 exact ⟨⟨A2, c2, h1⟩, h2⟩
theorem difX (A : Option Addr) (c : Nat) (D : Option Addr) (d : Nat) (B : Nat) (w : World) (hL : LaidX B w) (hB : B ≤ w.heap.size) (hr : Rd w w.heap.size 1 A 15 (fstX.map B8)) (hc : 15 ≤ c) (hr2 : Rd w w.heap.size 1 D 15 ((chX 3 2).map B8)) (hd : 15 ≤ d) : Calls Tryz.prog 31 #[.slice A 15 c, .slice D 15 d] w (Is w (.tuple #[.string ⟨#[110, 101, 120, 116]⟩, .int .i64 0])) := by
 have h := qh0 A c fstX D d (chX 3 2) B w hL hB (by rw [qaw]; exact hr) (by rw [qaw]; exact hc) (by rw [qaw]; decide) qpp (by rw [qdk]; exact hr2) (by rw [qdk]; exact hd) (by rw [qdk]; decide) (ch_lt de)
 rw [za7, za8, qaw, qdk] at h
 exact h
theorem qhi (w : World) :
    Calls Tryz.prog 54 #[] w (fun r w' => (∃ A c, r = .returned (.slice A 15 c) ∧ w'.ownsRow w.heap.size 5 1 (.slice A 15 c) 15 (fstX.map B8) ∧ 15 ≤ c) ∧ Below w.heap.size w w') := by
 refine (JN0 Tryz.func54 4) ?_
 refine (JP∘Jp 1∘Jr∘JU ei_u8 #[vB 113, vB 115, vB 1, vB 1, vB 1, vB 0, vB 1, vB 0, vB 0, vB 0, vB 0]) fun w1 g1 => fun a Z I => ?_
 refine fo Z 1 rfl rfl ?_
 refine q47 Z I 0 (e := 5) rfl rfl rfl kr kr rfl de ?_
 clear Z I; intro a w2 Z I
 exact Jb Z I ((JK (h:=by exact fun I => q4u (some ⟨g1, 0, none⟩) 11 _ (I.rdMark (i := 0) (size := 1) (n := 11) rfl rfl))) fun A3 c3 w3 hc3 => (Jp 1∘Jd3∘Jj∘JZ∘Jz1) fun I => by exact ⟨⟨_, _, rfl, I.own (i := 0) rfl, hc3⟩, I.below⟩)
theorem z9 (i v : Nat) (hi : i < 11) (hv : v < 256) (w : World) :
    Calls Tryz.prog 55 #[.int .i64 (i : Int), .int .u8 (v : Int)] w (fun r w' => (∃ A c, r = .returned (.slice A 15 c) ∧ w'.ownsRow w.heap.size 5 1 (.slice A 15 c) 15 ((chX i v).map B8) ∧ 15 ≤ c) ∧ Below w.heap.size w w') := by
 refine (JN2 Tryz.func55 17) ?_
 refine (JP∘Jp 1∘Jr∘JK (h:=by exact fun I => qhi _)) fun A6 c6 w6 hc6 => (Jp 1∘Jd1∘Jq) ?_
 repeat (first | clear Z | clear I)
 intro a Z I
 obtain ⟨gA6, rfl⟩ := qq (I.own (i := 0) rfl) (Nat.lt_of_le_of_lt (Nat.zero_le _) (show i < 15 from (by omega : i < 15)))
 refine Jb Z I ((JG∘JP∘Jp 3∘Jy (h:=by exact Yl.ix0 gA6 i 1 rfl rfl rfl)) fun a Z I => ?_)
 refine fo Z 4 rfl rfl ?_
 refine q4 Z I (i := 0) rfl rfl rfl rfl kr rfl rfl (by rw [List.length_map, qaw]; omega) ?_
 clear I; intro w2_4 I
 replace I := I.asRow (i := 0) (ys := (fstX.set i v).map B8) rfl (qce B8 fstX i v (by rw [qaw]; omega))
 exact Jb Z I ((Jt4∘Jr∘Jp 2∘Jl∘Jv 1 [(14, vI 11)]∘Jy (h:=by exact Yl.qap ei_u8 (j := 11) rfl rfl rfl om)∘JK (h:=by exact fun I => q88 i v hv (some ⟨gA6, 0, none⟩) c6 _ (by have h1 := (I.rd (i := 0) rfl).toB8 (k := 11) om; rw [q81 hi] at h1; exact h1))) fun A16 c16 w16 hc16 => (Jp 1∘Jd6∘Jj∘JZ∘Jz1) fun I => by exact ⟨⟨_, _, rfl, I.own (i := 0) rfl, hc16⟩, I.below⟩)
theorem qrr (B : Nat) (w : World) (hL : LaidX B w) (hB : B ≤ w.heap.size) :
    Calls Tryz.prog 26 #[] w (Is w (.bool true)) := by
 refine (JN0 Tryz.func26 130) ?_
 refine (JP∘Jp 1∘Jr∘JK (h:=by exact fun I => qhi _)) fun A16 c16 w16 hc16 => (Jp 1∘Jd1∘Jq) ?_
 repeat (first | clear Z | clear I)
 intro a Z I
 obtain ⟨gA16, rfl⟩ := qq (I.own (i := 0) rfl) (Nat.lt_of_le_of_lt (Nat.zero_le _) (show 12 < 15 from (by omega : 12 < 15)))
 refine Jb Z I ((JG∘JP∘Jp 1∘JL (h:=by exact fun I => qnd (some ⟨gA16, 0, none⟩) 15 c16 fstX B _ (hL.mem I hB) (I.le hB) (I.rd (i := 0) rfl) hc16 qaw de qpp x_ok)) ?_)
 rintro I _ w19 ⟨z19, rfl, hz19, _, hm⟩
 refine ⟨_, rfl, _, I.call hm.below, ?_⟩
 refine (Jp 1∘Jx∘Jx∘JA #[vI 0, vI 0, vQ 0, .slice none 0 0, .slice none 0 0, .slice none 0 0, .slice none 0 0, .slice none 0 0]) fun w2 g2 => (JV qz O0' (h1:=by exact qeb z19)) fun w2_6 => (Jp 1∘Jr∘Jp 1∘JL (h:=by exact fun I => numsX (some ⟨gA16, 0, none⟩) c16 B _ (hL.mem I hB) (I.le hB) (I.rd (i := 1) rfl) hc16)) ?_
 rintro I _ w24 ⟨⟨AN, cN, rfl⟩, hbw⟩
 refine ⟨_, rfl, _, I.call hbw, ?_⟩
 refine (Jp 1∘Jx∘Jx∘Jp 2∘Jr∘Jp 1∘JK (h:=by exact fun I => z9 3 2 de de _)) fun A29 c29 w29 hc29 => (JI (h:=by exact fun I => difX (some ⟨gA16, 0, none⟩) c16 A29 c29 B _ (hL.mem I hB) (I.le hB) (I.rd (i := 2) rfl) hc16 (I.rd (i := 0) rfl) hc29)) fun w30 hbw => (Jp 1∘Jx∘Jx∘Jp 2∘Jr∘Jp 1∘Jy (h:=by exact Yl.qap ei_u8 (j := 14) rfl rfl rfl om)∘JL (h:=by exact fun I => qnd (some ⟨gA16, 0, none⟩) 14 c16 (fstX.take 14) B _ (hL.mem I hB) (I.le hB) ((I.rd (i := 2) rfl).toB8 (k := 14) de) om (by rw [List.length_take, qaw]; rfl) de (ql2 qpp _) q80)) ?_
 rintro I _ w36 ⟨z36, rfl, hz36, _, hm⟩
 refine ⟨_, rfl, _, I.call hm.below, ?_⟩
 refine (Jp 1∘Jx∘Jx∘JA #[vI 0, vI 0, vQ 0, .slice none 0 0, .slice none 0 0, .slice none 0 0, .slice none 0 0, .slice none 0 0]) fun w8 g8 => (JV qz O0' (h1:=by exact qeb z36)) fun w5_7 => (Jp 1∘Jd6∘Jr∘Jp 1∘Jy (v := vP gA16 12) (h:=by exact Yl.indexAddr (ad := ⟨gA16, 0, none⟩) (y := 12) (sz := 1) rfl rfl rfl om kr)∘Jy (h:=by exact Yl.r1 3 12 0 (by rw [qaw]; decide) rfl rfl rfl)∘Jp 1∘Jo (vB ((fstX.getD 12 0 + 1) % 256 : Nat)) (by exact qe6 _)∘Jy (v := vP gA16 12) (h:=by exact Yl.indexAddr (ad := ⟨gA16, 0, none⟩) (y := 12) (sz := 1) rfl rfl rfl om kr)) fun a Z I => ?_
 refine fo Z 5 rfl rfl ?_
 refine q4 Z I (i := 3) rfl rfl rfl rfl kr rfl rfl (by rw [List.length_map, qaw]; decide) ?_
 clear I; intro w6_5 I
 replace I := I.asRow (i := 3) (ys := badX.map B8) rfl (qce B8 fstX 12 ((fstX.getD 12 0 + 1) % 256) (by rw [qaw]; decide))
 refine Jb Z I ((Jt5∘Jr∘Jp 1∘JL (h:=by exact fun I => qnd (some ⟨gA16, 0, none⟩) 15 c16 badX B _ (hL.mem I hB) (I.le hB) (I.rd (i := 3) rfl) hc16 q8z de za3 x_sum)) ?_)
 rintro I _ w46 ⟨z46, rfl, hz46, _, hm⟩
 refine ⟨_, rfl, _, I.call hm.below, ?_⟩
 refine (Jp 1∘Jx∘Jx∘JA #[vI 0, vI 0, vQ 0, .slice none 0 0, .slice none 0 0, .slice none 0 0, .slice none 0 0, .slice none 0 0]) fun w10 g10 => (JV qz O0' (h1:=by exact qeb z46)) fun w7_6 => (Jp 1∘Jd6∘Jj∘JQ∘JP∘Jv 7 [(55, .bool false)]∘Jf 0∘Jc O3∘Jo (vI 1) (by rw [← hz19.1, za4])∘Jv 3 [(60, .bool false)]∘Jf 1∘Jf 0∘Jf 0∘Jc O3∘Jo (vI 1) (by rw [← hz19.2.1, za5])∘Jv 3 [(67, .bool false)]∘Jf 1∘Jg 3 O3∘Jl∘Jo (vI 1) (by rw [← hz19.2.2.2.2.1, x_cl]; try rfl)∘Jv 4 [(75, .slice AN 8 cN), (74, .bool false)]∘Jl∘Jv 5 [(81, .bool (!(((ByteArray.mk #[110, 101, 120, 116])).toList == ((ByteArray.mk #[110, 101, 120, 116])).toList))), (79, .bool false)]∘Jo (.bool false) (by exact congrArg Value.bool (q4q _))∘Jv 9 [(90, .bool false)]∘Jd6∘Jj∘JF∘JS'∘JQ∘JP∘JK (h:=by exact fun I => z9 0 112 de de _)) fun A91 c91 w91 hc91 => (Jy (v := .agg #[.slice A91 15 c91, vI 342]) (h:=by exact Yl.build (vs := [(0, .slice A91 15 c91), (1, vI 342)]) rfl kr kr)∘JK (h:=by exact fun I => z9 2 2 de de _)) fun A93 c93 w93 hc93 => (Jy (v := .agg #[.slice A93 15 c93, vI 343]) (h:=by exact Yl.build (vs := [(0, .slice A93 15 c93), (1, vI 343)]) rfl kr kr)∘JK (h:=by exact fun I => z9 4 0 de de _)) fun A95 c95 w95 hc95 => (Jy (v := .agg #[.slice A95 15 c95, vI 345]) (h:=by exact Yl.build (vs := [(0, .slice A95 15 c95), (1, vI 345)]) rfl kr kr)∘JK (h:=by exact fun I => z9 4 65 de de _)) fun A97 c97 w97 hc97 => (Jy (v := .agg #[.slice A97 15 c97, vI 345]) (h:=by exact Yl.build (vs := [(0, .slice A97 15 c97), (1, vI 345)]) rfl kr kr)∘JK (h:=by exact fun I => z9 6 0 de de _)) fun A99 c99 w99 hc99 => (Jy (v := .agg #[.slice A99 15 c99, vI 345]) (h:=by exact Yl.build (vs := [(0, .slice A99 15 c99), (1, vI 345)]) rfl kr kr)∘JK (h:=by exact fun I => z9 9 1 de de _)) fun A101 c101 w101 hc101 => (Jy (v := .agg #[.slice A101 15 c101, vI 344]) (h:=by exact Yl.build (vs := [(0, .slice A101 15 c101), (1, vI 344)]) rfl kr kr)∘JK (h:=by exact fun I => qhi _)) fun A103 c103 w103 hc103 => ?_
 repeat (first | clear Z | clear I)
 intro a Z I
 obtain ⟨gA103, rfl⟩ := qq (I.own (i := 0) rfl) (Nat.lt_of_le_of_lt (Nat.zero_le _) (show 0 < 15 from (by omega : 0 < 15)))
 refine Jb Z I ((Jy (v := vS gA103 11 11) (h:=by exact Yl.q9g ei_u8 (j := 11) (q := 11) rfl rfl rfl rfl om om)∘JU ei_u8 #[vB 0]) fun w105 g105 => fun a Z I => ?_)
 refine fo Z 15 rfl rfl ?_
 refine qfz Z I (xs := byA.map B8) (news := [0].map B8) rfl ei_u8 rfl rfl ((by have h1 := (I.rd (i := 1) rfl).toB8 (k := 11) de; rw [q4r] at h1; exact h1)) (I.rdBlk (i := 0) (size := 1) (n := 1) rfl rfl) om om (fun h => by cases h) om om rfl de ?_
 clear Z I; intro a w106 g106 c106 Z I hc106
 replace I := I.asRow (i := 0) (ys := (byA ++ [0]).map B8) rfl (rfl)
 refine Jb Z I ((JK (h:=by exact fun I => q04 (some ⟨g106, 0, none⟩) c106 _ (I.rd (i := 0) rfl))) fun A107 c107 w107 hc107 => (Jy (v := .agg #[.slice A107 16 c107, vI 346]) (h:=by exact Yl.build (vs := [(0, .slice A107 16 c107), (1, vI 346)]) rfl kr kr)∘JK (h:=by exact fun I => z9 3 0 de de _)) fun A109 c109 w109 hc109 => (Jy (v := .agg #[.slice A109 15 c109, vI 347]) (h:=by exact Yl.build (vs := [(0, .slice A109 15 c109), (1, vI 347)]) rfl kr kr)∘JK (h:=by exact fun I => z9 8 5 de de _)) fun A111 c111 w111 hc111 => (Jy (v := .agg #[.slice A111 15 c111, vI 347]) (h:=by exact Yl.build (vs := [(0, .slice A111 15 c111), (1, vI 347)]) rfl kr kr)∘JU ei_xb #[.slice A91 15 c91, vI 342, .slice A93 15 c93, vI 343, .slice A95 15 c95, vI 345, .slice A97 15 c97, vI 345, .slice A99 15 c99, vI 345, .slice A101 15 c101, vI 344, .slice A107 16 c107, vI 346, .slice A109 15 c109, vI 347, .slice A111 15 c111, vI 347]) fun w113 g113 => (Jl∘Jp 1∘Jq) fun a Z I => ?_)
 replace Z := Z.to [(115, vI 0), (114, vI 9), (113, vS g113 9 9), (90, .bool false), (2, vP g2 0), (1, vS gA16 15 c16), (0, .bool false)]
 replace I := (I.blkRow (i := 0) (n := 9) (size := 2) rfl rfl de).asRow (i := 0) (ys := ([⟨A91, 15, c91, chX 0 112, 342⟩, ⟨A93, 15, c93, chX 2 2, 343⟩, ⟨A95, 15, c95, chX 4 0, 345⟩, ⟨A97, 15, c97, chX 4 65, 345⟩, ⟨A99, 15, c99, chX 6 0, 345⟩, ⟨A101, 15, c101, chX 9 1, 344⟩, ⟨A107, 16, c107, moreX, 346⟩, ⟨A109, 15, c109, chX 3 0, 347⟩, ⟨A111, 15, c111, chX 8 5, 347⟩] : List Xb).flatMap xbL) rfl (rfl)
 replace I := I.pk [0, 12, 11, 10, 9, 8, 7, 3, 2, 1]
 have hok : ∀ x ∈ ([⟨A91, 15, c91, chX 0 112, 342⟩, ⟨A93, 15, c93, chX 2 2, 343⟩, ⟨A95, 15, c95, chX 4 0, 345⟩, ⟨A97, 15, c97, chX 4 65, 345⟩, ⟨A99, 15, c99, chX 6 0, 345⟩, ⟨A101, 15, c101, chX 9 1, 344⟩, ⟨A107, 16, c107, moreX, 346⟩, ⟨A109, 15, c109, chX 3 0, 347⟩, ⟨A111, 15, c111, chX 8 5, 347⟩] : List Xb), x.Ok := by
   intro x hx; simp only [List.mem_cons, List.not_mem_nil, or_false] at hx
   rcases hx with rfl | rfl | rfl | rfl | rfl | rfl | rfl | rfl | rfl
   · exact ⟨qdk _ _, hc91, (by show 15 ≤ 100; decide), ch_lt de, x1⟩
   · exact ⟨qdk _ _, hc93, (by show 15 ≤ 100; decide), ch_lt de, x2⟩
   · exact ⟨qdk _ _, hc95, (by show 15 ≤ 100; decide), ch_lt de, x3⟩
   · exact ⟨qdk _ _, hc97, (by show 15 ≤ 100; decide), ch_lt de, x4⟩
   · exact ⟨qdk _ _, hc99, (by show 15 ≤ 100; decide), ch_lt de, x5⟩
   · exact ⟨qdk _ _, hc101, (by show 15 ≤ 100; decide), ch_lt de, x6⟩
   · exact ⟨qtq, hc107, (by show 16 ≤ 100; decide), q8y, x7⟩
   · exact ⟨qdk _ _, hc109, (by show 15 ≤ 100; decide), ch_lt de, x8⟩
   · exact ⟨qdk _ _, hc111, (by show 15 ≤ 100; decide), ch_lt de, x9⟩
 obtain ⟨q, hq⟩ : ∃ q : List Xb, q = [⟨A91, 15, c91, chX 0 112, 342⟩, ⟨A93, 15, c93, chX 2 2, 343⟩, ⟨A95, 15, c95, chX 4 0, 345⟩, ⟨A97, 15, c97, chX 4 65, 345⟩, ⟨A99, 15, c99, chX 6 0, 345⟩, ⟨A101, 15, c101, chX 9 1, 344⟩, ⟨A107, 16, c107, moreX, 346⟩, ⟨A109, 15, c109, chX 3 0, 347⟩, ⟨A111, 15, c111, chX 8 5, 347⟩] := ⟨_, rfl⟩
 have hql : q.length = 9 := by rw [hq]; rfl
 rw [← hq] at hok
 replace I : Mem w w113 (.row (vS g113 9 9) 9 (q.flatMap xbL) 122 2 :: xbF 5 q) := by rw [hq]; exact I
 refine Jb Z I ((JG∘JB) fun a Z I => ?_)
 refine qf (fun mS aS wS => ∃ (k : Nat), (k ≤ 9) ∧ mS = 9 - k ∧ Fr aS 130 [] [(115, vI k), (114, vI 9), (113, vS g113 9 9), (90, .bool false), (2, vP g2 0), (1, vS gA16 15 c16), (0, .bool false)] ∧ Mem w wS (.row (vS g113 9 9) 9 (q.flatMap xbL) 122 2 :: xbF 5 q)) (m := 9 - 0) ⟨0, Nat.zero_le _, rfl, Z.sub kr, I.pt 1 [0]⟩ ?_
 clear Z I; rintro mS a w_ ⟨k, hk, rfl, Z, I⟩
 refine Jb Z I ((JP∘Jp 1∘Jj∘JQ) (Ju (fun hb116 => ?_) fun hb116 => ?_))
 ·
  intro a Z I
  have hd116 := of_decide_eq_true hb116
  obtain ⟨x, hx⟩ : ∃ x, q.getD k Xb.zero = x := ⟨_, rfl⟩
  have hxq : x ∈ q := by rw [← hx]; exact qe Xb.zero om
  obtain ⟨hx1, hx2, hx3, hx4, hx5⟩ := hok x hxq
  refine Jb Z I ((JT∘JS'∘JQ∘JB∘JP∘Jy (h:=by exact Yl.ix0 g113 k 2 rfl rfl rfl)∘Jy (v := .agg ((q.getD k Xb.zero).cells)) (h:=by exact Yl.loadS rfl rfl si_xb rfl (fun _ h => h.qdl q82 (i := 0) rfl ((getD_at Xb.zero om))))∘Jo (.agg x.cells) (by rw [hx])∘JA #[.slice none 0 0, vI 0]) fun w13 g13 => (JV si_xb O0' (h1:=by exact za9 x)) fun w12_3 => (Jd2∘Jr∘Jg 0 O0∘JL (h:=by exact fun I => qnd _ _ _ _ B _ (hL.mem I hB) (I.le hB) (I.xbAt 2 rfl hxq) hx2 hx1 om hx4 hx5)) ?_)
  rintro I _ w122 ⟨z122, rfl, hz122, _, hm⟩
  refine ⟨_, rfl, _, I.call hm.below, ?_⟩
  refine (Jp 1∘Jx∘Jx∘JA #[vI 0, vI 0, vQ 0, .slice none 0 0, .slice none 0 0, .slice none 0 0, .slice none 0 0, .slice none 0 0]) fun w14 g14 => (JV qz O0' (h1:=by exact qeb z122)) fun w13_7 => (Jp 1∘Jd6∘Jr∘Jp 1∘Jg 1 O1∘Jp 1∘Jd2∘Jj) (Ju (fun hb128 => ?_) fun hb128 => ?_)
  ·
   intro a Z I
   have hd128 := bne_iff_ne.1 hb128
   exact absurd rfl hd128
  intro a Z I
  have hd128 := bne_eq_false_iff_eq.1 hb128
  refine Jb Z I ((JF∘JS'∘JR∘JaK 1∘Jp 1∘Jd1∘Jq) fun a Z I => ?_)
  exact ⟨_, om, k + 1, by omega, rfl, Z.sub kr, I.pt 3 [2]⟩
 intro a Z I
 have hd116 := of_decide_eq_false hb116
 exact Jb Z I ((JF∘JX∘JG∘JP∘Jp 1∘Jj∘JZ) JY1)
theorem qpu (l : List Nat) (X : List Sec) : ∀ f i, difF l l X X f i = ⟨#[]⟩
 | 0, _ => rfl
 | f + 1, i => by rw [difF, if_pos rfl, qpu l X f (i + 1)]
section
variable {s : Snm} {c d B : Nat} {A D : Option Addr} {w : World}
theorem SnRight.mill (h : SnRight s) : (sealL (bodyS s)).length ≤ 100000000 := by have := h.len; omega
theorem q9a (h : SnRight s) (hL : LaidX B w) (hB : B ≤ w.heap.size) (hr : Rd w w.heap.size 1 A (sealL (bodyS s)).length ((sealL (bodyS s)).map B8)) (hc : (sealL (bodyS s)).length ≤ c) : Calls Tryz.prog 27 #[.slice A (sealL (bodyS s)).length c] w (fun r w' => ∃ z : Snm, r = .returned (.tuple #[.agg z.cells, .int .i64 0]) ∧ SnEq s z ∧ Mem w w' (stF z.st)) := by
 have k := qpo A c (sealL (bodyS s)) B w hL hB hr hc h.mill (qds (qed s))
 have h2 := za1 h
 rw [h2.1] at k
 exact k.mono fun r w' ⟨z, h3, h4, _, hm⟩ => ⟨z, h3, qup h2.2 h4, hm⟩
theorem q9b (h : SnRight s) (hL : LaidX B w) (hB : B ≤ w.heap.size) (hr : Rd w w.heap.size 1 A (sealL (bodyS s)).length ((sealL (bodyS s)).map B8)) (hc : (sealL (bodyS s)).length ≤ c) : Calls Tryz.prog 28 #[.slice A (sealL (bodyS s)).length c] w (qg6 w 0 (numsS s)) := by
 have k := qhx A c (sealL (bodyS s)) B w hL hB hr hc h.mill (qds (qed s))
 have h2 := q0n h
 rwa [h2.1, h2.2.1] at k
theorem q9c (h : SnRight s) (hL : LaidX B w) (hB : B ≤ w.heap.size) (hr : Rd w w.heap.size 1 A (sealL (bodyS s)).length ((sealL (bodyS s)).map B8)) (hc : (sealL (bodyS s)).length ≤ c) : Calls Tryz.prog 29 #[.slice A (sealL (bodyS s)).length c] w (qee 69 w 0 (secsS s)) := by
 have k := qd3 A c (sealL (bodyS s)) B w hL hB hr hc h.mill (qds (qed s))
 have h2 := q0n h
 rwa [h2.1, h2.2.2] at k
theorem zbc (h : SnRight s) {m : Nat} (hm : (sealL (bodyS s)).length = m) (hL : LaidX B w) (hB : B ≤ w.heap.size) (hr : Rd w w.heap.size 1 A (sealL (bodyS s)).length ((sealL (bodyS s)).map B8)) (hc : (sealL (bodyS s)).length ≤ c) (hr2 : Rd w w.heap.size 1 D m ((sealL (bodyS s)).map B8)) (hd : m ≤ d) : Calls Tryz.prog 31 #[.slice A (sealL (bodyS s)).length c, .slice D m d] w (Is w (.tuple #[.string ⟨#[]⟩, .int .i64 0])) := by
 subst hm
 have k := qh0 A c (sealL (bodyS s)) D d (sealL (bodyS s)) B w hL hB hr hc h.mill (qds (qed s)) hr2 hd h.mill (qds (qed s))
 have h1 := qrf h (by have := h.len; omega)
 have h2 := q59 h1 h1
 rw [h2.1, h2.2, qpu] at k
 exact k
theorem q05 (s : Snm) : (secsS s).length = 9 := rfl
end
theorem q4v {a b : Snm} (h : SnEq a b) (hf : StFew a.st) : StFew b.st := q5c (qky h) hf
theorem is_b2 {P : Program} {f : Nat} {args : Array Value} {w : World} {b c : Bool} (h : Calls P f args w (Is w (.bool b))) (e : b = c) : Calls P f args w (Is w (.bool c)) := e ▸ h
theorem qne (n : Nums) (hn : n.Ok) (Al : Option Addr) (cl : Nat) (l : List Sml) (hl : ∀ x ∈ l, x.Ok) (hcl : l.length ≤ cl) (hnl : l.length ≤ 9223372036854775807) (x : Int) (hIx : I64 x) (B : Nat) (w : World) (hL : LaidX B w) (hB : B ≤ w.heap.size) (hrl : Rd w w.heap.size 8 Al l.length (l.flatMap sml)) :
    Calls Tryz.prog 9 #[.agg n.cells, .slice Al l.length cl, vI x] w (Is w (.bool true)) := by
 refine (JN3 Tryz.func9 127) ?_
 refine (JP∘JE) fun w3 g3 => (Jp 1∘Jj∘JQ∘JP∘JI (h:=by exact fun I => qrr B _ (hL.mem I hB) (I.le hB))) fun w24 hbw => (Jp 1∘Jd1∘Jq) fun a Z I => ?_
 replace I : Mem w _ (.blk g3 n.cells 27 :: []) := I
 refine Jb Z I ((JG∘JF∘JS'∘JP∘Jy (v := .agg n.cells) (h:=by exact Yl.loadS rfl rfl qzf (qoz hn) (fun _ h => qb (h.blk (i := 0) rfl)))∘Jp 2∘JL (h:=by exact fun I => qv8 n hn Al cl l hl hcl hnl x hIx _ (I.old hrl))) ?_)
 rintro I _ w30 ⟨p, rfl, hsp, hgp, hip, hnp, hm⟩
 refine ⟨_, rfl, _, (show Mem w w30 (.blk g3 n.cells 27 :: (stF p.st ++ ([]))) from I.joinF (T := []) 1 hm rfl), ?_⟩
 refine (Jp 1∘Jx∘Jx∘JA #[vI 0, vI 0, vQ 0, vN, vN, vN, vN, vN]) fun w7 g7 => (JV qz O0' (h1:=by exact qeb p)) fun w3_8 => (Jp 1∘Jq) fun a Z I => ?_
 have hln0 := hsp.len
 have hs9 := q05 p
 refine Jb Z I ((JG∘JP∘Jy (v := .agg p.cells) (h:=by exact Yl.loadS rfl rfl qz rfl (fun _ h => qb (h.blk (i := 0) rfl)))∘JK (h:=by exact fun I => cw_ok hsp (hL.mem I hB) (I.le hB) (I.st1 2 rfl))) fun A35 c35 w35 hc35 => (Jp 1∘Jx∘Jx∘Jp 2∘Jr∘Jp 1∘JL (h:=by exact fun I => q9a hsp (hL.mem I hB) (I.le hB) (I.rd (i := 0) rfl) hc35)) ?_)
 rintro I _ w40 ⟨z, rfl, hpz, hm⟩
 refine ⟨_, rfl, _, (show Mem w w40 (.row (.slice A35 ((sealL (bodyS p)).length) c35) ((sealL (bodyS p)).length) ((sealL (bodyS p)).map B8) 5 1 :: .blk g7 p.cells 40 :: .blk g3 n.cells 27 :: (stF z.st ++ (stF p.st ++ ([])))) from I.joinF (T := (stF p.st ++ ([]))) 3 hm rfl), ?_⟩
 refine (Jp 1∘Jx∘Jx∘JA #[vI 0, vI 0, vQ 0, vN, vN, vN, vN, vN]) fun w11 g11 => (JV qz O0' (h1:=by exact qeb z)) fun w5_6 => (Jp 1∘Jr∘Jy (v := .agg p.cells) (h:=by exact Yl.loadS rfl rfl qz rfl (fun _ h => qb (h.blk (i := 2) rfl)))∘JK (h:=by exact fun I => cn_ok hsp (I.st2 4 rfl))) fun A45 c45 w45 hc45 => (Jp 1∘Jx∘Jx∘Jp 2∘Jr∘Jp 1∘JK (h:=by exact fun I => q9b hsp (hL.mem I hB) (I.le hB) (I.rd (i := 2) rfl) hc35)) fun A50 c50 w50 hc50 => (Jp 1∘Jx∘Jx∘Jp 2∘Jr∘Jy (v := .agg p.cells) (h:=by exact Yl.loadS rfl rfl qz rfl (fun _ h => qb (h.blk (i := 4) rfl)))∘JK (h:=by exact fun I => q8h hsp (I.st2 6 rfl))) fun A55 c55 w55 hc55 => (Jp 1∘Jx∘Jx∘Jp 2∘Jr∘Jp 1∘JK (h:=by exact fun I => q9c hsp (hL.mem I hB) (I.le hB) (I.rd (i := 4) rfl) hc35)) fun A60 c60 w60 hc60 => (Jp 1∘Jx∘Jx∘Jp 2∘Jq) fun a Z I => ?_
 replace Z := Z.to [(20, vI 0), (19, .slice A60 ((secsS p).length) c60), (18, vI 0), (17, .slice A55 ((secsS p).length) c55), (16, vI 0), (15, .slice A50 ((numsS p).length) c50), (14, vI 0), (13, .slice A45 ((numsS p).length) c45), (12, vI 0), (11, vP g11 0), (10, vI 0), (9, .slice A35 ((sealL (bodyS p)).length) c35), (8, .bool true), (7, vP g7 0), (25, .bool false), (6, .bool false)]
 refine Jb Z I ((JG∘JP∘Jp 1) fun a Z I => ?_)
 refine fo Z 1 rfl rfl ?_
 refine qep Z I rfl ei_u8 rfl de ?_
 clear Z I; intro a w65 g65 Z I
 refine Jb Z I ((Jp 1∘JD ((sealL (bodyS p)).map B8) 0 (fun _ _ => O0') ei_u8 (hr:=by exact fun I => (I.rd (i := 6) rfl)) (h1:=by exact qns _)) fun w67 A67 c67 hc67 => (JI (h:=by exact fun I => zbc hsp om (hL.mem I hB) (I.le hB) (I.rd (i := 6) rfl) hc35 (I.rd (i := 0) rfl) hc67)) fun w68 hbw => (Jp 1∘Jx∘Jx∘Jp 2∘Jj∘JQ∘JP∘Jv 19 [(89, .bool false)]∘Jy (v := .agg p.cells) (h:=by exact Yl.loadS rfl rfl qz rfl (fun _ h => qb (h.blk (i := 7) rfl)))∘Jy (v := .agg z.cells) (h:=by exact Yl.loadS rfl rfl qz rfl (fun _ h => qb (h.blk (i := 5) rfl)))∘JI (h:=by exact fun I => is_b2 (qz1 p z _ (I.st2 9 rfl) (I.st1 9 rfl) hsp.few (q4v hpz hsp.few)) (decide_eq_true hpz))) fun w92 hbw => (Jp 5∘JI (h:=by exact fun I => qv2 A45 c45 (numsS p) A50 c50 _ (I.rd (i := 4) rfl) (I.rd (i := 3) rfl) (by have := qf9 (qks hsp.chk); omega))) fun w98 hbw => (Jp 4∘Jl∘Jp 1∘Jl∘Jp 1∘Jo (.bool false) (by simp)∘Jp 4∘Jo (.bool false) (by simp)∘Jp 1∘Jd6∘Jj∘JF∘JS'∘JQ∘JP∘Jp 1∘Jl∘Jp 1∘Jj∘JB) fun a Z I => ?_)
 refine qf (fun mS aS wS => ∃ (i : Nat), (i ≤ (secsS p).length) ∧ mS = (secsS p).length - i ∧ Fr aS 127 [] [(114, vI i), (113, vI ((secsS p).length : Nat)), (111, .bool false), (19, .slice A60 ((secsS p).length) c60), (17, .slice A55 ((secsS p).length) c55), (11, vP g11 0), (9, .slice A35 ((sealL (bodyS p)).length) c35), (7, vP g7 0), (25, .bool false), (6, .bool false)] ∧ Mem w wS (.row (.slice A67 (0 + ((sealL (bodyS p)).length)) c67) (0 + ((sealL (bodyS p)).length)) ([] ++ ((sealL (bodyS p)).map B8)) 5 1 :: .row (.slice A60 ((secsS p).length) c60) ((secsS p).length) ((secsS p).flatMap secL) 69 3 :: .row (.slice A55 ((secsS p).length) c55) ((secsS p).length) ((secsS p).flatMap secL) 69 3 :: .row (.slice A50 ((numsS p).length) c50) ((numsS p).length) ((numsS p).map U64) 30 1 :: .row (.slice A45 ((numsS p).length) c45) ((numsS p).length) ((numsS p).map U64) 30 1 :: .blk g11 z.cells 40 :: .row (.slice A35 ((sealL (bodyS p)).length) c35) ((sealL (bodyS p)).length) ((sealL (bodyS p)).map B8) 5 1 :: .blk g7 p.cells 40 :: .blk g3 n.cells 27 :: (stF z.st ++ (stF p.st ++ ([]))))) (m := (secsS p).length - 0) ⟨0, Nat.zero_le _, rfl, Z.sub kr, I.pt 9 [0, 1, 2, 3, 4, 5, 6, 7, 8]⟩ ?_
 clear Z I; rintro mS a w_ ⟨i, hi, rfl, Z, I⟩
 refine Jb Z I ((JP∘Jp 1∘Jj∘JQ) (Ju (fun hb115 => ?_) fun hb115 => ?_))
 ·
  intro a Z I
  have hd115 := of_decide_eq_true hb115
  obtain ⟨sx, hsx⟩ : ∃ z, (secsS p).getD i Sec.zero = z := ⟨_, rfl⟩
  refine Jb Z I ((JT∘JS'∘JQ∘JB∘JP∘Jp 2∘Jd1∘Jj) fun a Z I => ?_)
  refine wp_seq ?_
  refine Jb Z I ((Vs .n []) fun wd16 => (Vp [0, 1, 4, 5]) ?_)
  repeat (first | clear Z | clear I | clear HS)
  intro a Z I HS
  obtain ⟨gA55, rfl⟩ := qq (I.own (i := 2) rfl) (Nat.lt_of_le_of_lt (Nat.zero_le _) (show i < (secsS p).length from by omega))
  refine Vb Z I HS ((Vy 2 (h:=by exact Yl.ix0 gA55 i 3 rfl rfl rfl)∘Vy 3 (v := .agg (((secsS p).getD i Sec.zero).cells)) (h:=by exact Yl.loadS rfl rfl q5p rfl (fun _ h => h.qdl qcs (i := 2) rfl ((getD_at Sec.zero om))))∘Vo (.agg sx.cells) (by rw [hsx])) ?_)
  repeat (first | clear Z | clear I | clear HS)
  intro a Z I HS
  obtain ⟨gA60, rfl⟩ := qq (I.own (i := 1) rfl) (Nat.lt_of_le_of_lt (Nat.zero_le _) (show i < (secsS p).length from by omega))
  refine Vb Z I HS ((Vy 6 (h:=by exact Yl.ix0 gA60 i 3 rfl rfl rfl)∘Vy 7 (v := .agg (((secsS p).getD i Sec.zero).cells)) (h:=by exact Yl.loadS rfl rfl q5p rfl (fun _ h => h.qdl qcs (i := 1) rfl ((getD_at Sec.zero om))))∘Vo (.agg sx.cells) (by rw [hsx])∘Vy 8 (v := .bool (!(secEq sx sx))) (h:=by exact Yl.qpv rfl rfl rfl (qxx sx sx))∘Vo (.bool false) (by rw [quq]; try rfl)∘Vd∘Jd6∘JF∘JS'∘JR∘JaK 1∘Jp 1∘Jd1∘Jq) fun a Z I => ?_)
  exact ⟨_, om, i + 1, by omega, rfl, Z.sub kr, I.pt 9 [0, 1, 2, 3, 4, 5, 6, 7, 8]⟩
 intro a Z I
 have hd115 := of_decide_eq_false hb115
 exact Jb Z I ((JF∘JX∘JG∘JP∘Jp 1∘Jj∘JZ) JY1)
end Go.Proofs.YtcajpeiobkcliaaGreatDoor
