/- Texts laid together: One, Short, Door, Door2, Door3, Door4, Door5, Sep, Sep2, Sep3, Sep4, Sep5, Sep6, Sep7, Sep8, Sep9, SepU, EvEq, Ref06i, RWithW, Ref07P, Ref07Q, KitP, KitW, RightW. -/
import Derived.Test.YtpekelggcmgnnaaDoorAwake
import Derived.Test.YtpekelggcmgnnaaDoorOneWay
import Derived.Test.YtpekelggcmgnnaaDoorMade7
import Derived.Deep.CutRange
import Derived.ProofKit
import Derived.Below
import Derived.Carry
import Derived.LaidMore
import Derived.Lib.LaidU8
import Derived.Lib.SmallJoins
import Derived.Test.YtpekelggcmgnnaaDoorCod4
import Derived.Test.YtpekelggcmgnnaaDoorRnd
import Derived.Deep.DeepAppendWide
import Derived.Deep.Upon
import Derived.Test.YtpekelggcmgnnaaDoorConv
import Derived.IntWalk
import Derived.Laws.StructEq
import Derived.Test.YtpekelggcmgnnaaDoorRef06f
import Derived.Test.YtpekelggcmgnnaaDoorRWith
/- quantumlaw07.CodecOne answers true. -/
namespace Go.Proofs.YtpekelggcmgnnaaDoor
open Go.RowKit

def OneRel (w : World) (n : Nat) (i : Value) (wr : World) : Prop := ∃ k : Nat, k ≤ n ∧ i = .int .i64 (k : Int) ∧ Below w.heap.size w wr
theorem recs_len : ∀ (b : Bs) (es : List Ev), es.length ≤ (recs b es).length
  | _, [] => by simp
  | b, e :: r => by
    have := recs_len e.at r
    rw [recs, List.length_append, List.length_cons]
    unfold recBytes
    rw [List.length_cons]
    omega
structure TruePost (w : World) (r : Ending) (w' : World) : Prop where
  ret : r = .returned (.bool true)
  below : Below w.heap.size w w'

set_option maxRecDepth 100000 in
set_option maxHeartbeats 2000000 in
theorem codecOne_any (b : Bs) (cpu : Nat) (hcpu : cpu < 256) (m : Int) (hm : I64 m) (A : Option Addr) (n c : Nat) (l : List Nat) (B : Nat) (w : World) (hL : Laid B w) (hB : B ≤ w.heap.size) (hr : Rd w w.heap.size 1 A n (l.map B8)) (hc : n ≤ c) (hl : ∀ b ∈ l, b < 256) :
    Calls Tryd.prog 4 #[.agg b.cells, .int .u8 (cpu : Int), .int .i64 m, .slice A n c] w (TruePost w) := by
  have hlen : l.length = n := by simpa using hr.len
  have hb1 : Below w.heap.size w (w.alloc (.cells b.cells 23)) := (Below.refl _ _).alloc (Nat.le_refl _) _
  have HAW := hide (awake_any B _ (hL.below hb1 hB) (by simp; omega))
  have HX := hide (range_of_block (World.alloc_heap_new w (.cells b.cells 23)))
  have HB2 := hide (bs_cells2 b)
  by_cases hbig : 2000 < n
  · have hbi : decide ((2000 : Int) < (n : Int)) = true := by rw [decide_eq_true_eq]; omega
    clear hbig hlen
    go_enter Tryd.func4, Tryd.ntmps4
    go_wp2_with (go_at_call 12; refine HAW.out.mono ?_; rintro r w1 ⟨rfl, hb2⟩)
    go_ret
    exact ⟨rfl, hb1.trans (hb2.mono (by simp))⟩
  · have hbi : decide ((2000 : Int) < (n : Int)) = false := by rw [decide_eq_false_iff_not]; omega
    have HRE := hide (fun W (h : Below w.heap.size w W) => cread_any b cpu hcpu A n c m hm l B W (hL.below h hB) (by have := h.size; omega) ((hr.below h).more h.size) hc hl (by omega) (.inr (by omega)))
    obtain ⟨q, hq⟩ : ∃ q, readR b cpu m l = q := ⟨_, rfl⟩
    obtain ⟨es, u, er⟩ := q
    rw [hq] at HRE
    have HLN := hide hlen
    have hnn : n ≤ 2000 := by omega
    by_cases her : er = 0
    · subst her
      obtain ⟨g1, g2, g3, g4, g5⟩ := read_write hcpu hl hq
      have HWR := hide (fun A' n' c' W (h : Below w.heap.size w W) (hr' : Rd W W.heap.size 11 A' n' (es.flatMap evL)) (hn' : n' ≤ 1000000000000) => write_any b A' n' c' es (fun e he => (g5 e he).1) B W (hL.below h hB) (by have := h.size; omega) hr' hn')
      rw [g2, g3] at HWR
      have hek : es.length ≤ 1000000000000 := by
        have h1 := recs_len b es
        have h2 : recs b es = l.take u := by rw [← g3]; unfold writeOut; rw [if_pos g2]
        rw [h2, List.length_take] at h1
        omega
      obtain ⟨T, hT⟩ : ∃ T, l.take u = T := ⟨_, rfl⟩
      rw [hT] at HWR
      have hTl : T.length = u := by rw [← hT, List.length_take]; omega
      have hRT : Rd w w.heap.size 1 A u (T.map B8) := by
        have h := hr.upto (k := u) (by omega)
        rw [Nat.mul_one, ← List.map_take, hT] at h; exact h
      have HRT := hide hRT
      have hHT := hide hTl
      have hui : (0 : Int) ≤ (u : Int) := by omega
      have huc : (u : Int) ≤ (c : Int) := by omega
      have hu : u ≤ n := by omega
      have HCPU := hide (fun e he => (g5 e he).2)
      have hbm : ((es.length : Int) != m) = false := by rw [bne_eq_false_iff_eq]; exact g1
      have hu0 : decide ((u : Int) < 0) = false := by rw [decide_eq_false_iff_not]; omega
      have hun : decide ((n : Int) < (u : Int)) = false := by rw [decide_eq_false_iff_not]; omega
      clear hq g1 g2 g3 g4 g5 hlen hbig hT hTl hRT
      go_enter Tryd.func4, Tryd.ntmps4
      go_wp2_with (first
        | (go_at_call 12; refine HAW.out.mono ?_; rintro r w1 ⟨rfl, hb2⟩; have hB2 := hb1.trans (hb2.mono (by simp)); have hz2 := hb2.size; simp only [World.size_alloc] at hz2; have HX2 := hide (range_below HX.out hb2 (by simp)))
        | (with_reducible refine load_wp HX2.out rfl rfl rfl si_bs HB2.out ?_)
        | (go_at_call 13; refine (HRE.out _ hB2).mono ?_; rintro r w3 ⟨⟨v3, rfl, hown3⟩, hb3⟩; obtain ⟨A3, c3, rfl⟩ := own_form hown3; have hB3 := hB2.trans (hb3.mono (by omega)); have hz3 := hb3.size; have HX3 := hide (range_below HX2.out hb3 (by omega)); have HR3 := hide (Rd.of_own hown3 rfl); clear hown3; simp only at HR3)
        | (with_reducible refine load_wp HX3.out rfl rfl rfl si_bs HB2.out ?_)
        | (go_at_call 14; refine (HWR.out _ _ _ _ hB3 HR3.out hek).mono ?_; rintro r w4 ⟨⟨v4, rfl, hown4⟩, hb4⟩; obtain ⟨A4, c4, rfl⟩ := own_form hown4; have hB4 := hB3.trans (hb4.mono (by omega)); have hz4 := hb4.size; have HR4 := hide (Rd.of_own hown4 rfl); clear hown4))
      have j4 := fun k => conv_u8 (c := c4) (HR4.out.drewN k)
      have j5 := fun k => conv_u8 (c := c) (((HRT.out.below hB4).more hB4.size).drewN k)
      generalize bstr T = S at j4 j5
      have j4' := j4 0
      have j5' := j5 0
      rw [World.drewN_zero] at j4' j5'
      go_quiet (fail)
      go_wp2
      have HRE4 := hide (HR3.out.below hb4)
      go_loopw [74] (OneRel w4 es.length) (fun i _ => es.length - (intOf i).toNat)
      case atStart => exact ⟨0, by omega, rfl, below_drewN (Below.refl _ _) nq⟩
      case round =>
        obtain ⟨k, hk, rfl, hbr⟩ := hrel
        have hzr := hbr.size
        by_cases hlt : k < es.length
        · obtain ⟨g, o, hA3, hgb, _, hcells⟩ := (HRE4.out.below (hbr.mono hz4)).struct evL_len (by omega) (by omega)
          subst hA3
          have hcp := HCPU.out es[k] (List.getElem_mem _)
          have hE0 := hcells k hlt
          obtain ⟨e, he⟩ : ∃ e, es[k] = e := ⟨_, rfl⟩
          rw [he] at hcp hE0
          have hE := hide (show wr.rangeAt g (o + k * 11) e.cells.toList from hE0)
          have hne : ((e.cpu : Int) != (cpu : Int)) = false := by rw [bne_eq_false_iff_eq]; omega
          have hEN := EvAt.new wr e 37
          have hcpu2 := hEN.cpu
          clear hcells he hE0 hcp hEN
          go_wp2_with (first
            | (with_reducible refine load_wp hE.out rfl rfl rfl si_ev (ev_cells11 e) ?_)
            | (refine store_new rfl rfl rfl rfl si_ev rfl (ev_cells11 e) (ev_one e) ?_))
          refine ⟨?_, by simp [intOf]; omega⟩
          refine ⟨_, _, _, ⟨k + 1, by omega, by go_num, hbr.alloc hzr _⟩, rfl, rfl, rfl⟩
        · have hge : (es.length : Int) ≤ (k : Int) := by omega
          go_wp2
          go_ret
          exact ⟨rfl, hB4.trans (hbr.mono hB4.size)⟩
    · obtain ⟨h1, h2⟩ := readR_bad (b := b) (cpu := cpu) (m := m) (l := l) (by rw [hq]; exact her)
      rw [hq] at h1 h2
      simp only at h1 h2
      subst h1
      subst h2
      have hne : ((er : Int) != 0) = true := by rw [bne_iff_ne]; omega
      clear hq her hlen hbig
      go_enter Tryd.func4, Tryd.ntmps4
      go_wp2_with (first
        | (go_at_call 12; refine HAW.out.mono ?_; rintro r w1 ⟨rfl, hb2⟩; have hB2 := hb1.trans (hb2.mono (by simp)); have hz2 := hb2.size; simp only [World.size_alloc] at hz2; have HX2 := hide (range_below HX.out hb2 (by simp)))
        | (with_reducible refine load_wp HX2.out rfl rfl rfl si_bs HB2.out ?_)
        | (go_at_call 13; refine (HRE.out _ hB2).mono ?_; rintro r w3 ⟨⟨v3, rfl, hown3⟩, hb3⟩; obtain ⟨A3, c3, rfl⟩ := own_form hown3; have hB3 := hB2.trans (hb3.mono (by omega))))
      go_ret
      exact ⟨rfl, hB3⟩
end Go.Proofs.YtpekelggcmgnnaaDoor

/- quantumlaw07.CodecShort answers true. -/
namespace Go.Proofs.YtpekelggcmgnnaaDoor
open Go.RowKit

theorem bcell {W w1 : World} (hb : Below W.heap.size W w1) : (∀ b o, b < W.heap.size → w1.cell? ⟨b, o, none⟩ = W.cell? ⟨b, o, none⟩) ∧ (∀ b o, b < W.heap.size → w1.frozen? ⟨b, o, none⟩ = W.frozen? ⟨b, o, none⟩) :=
  ⟨fun b o h => hb.cell (p := ⟨b, o, none⟩) h, fun b o h => hb.frozen (p := ⟨b, o, none⟩) h⟩
theorem own_cap {w : World} {base : Nat} {e : TypeId} {size : Nat} {A : Option Addr} {n c : Nat} {xs : List Value} (h : w.ownsRow base e size (.slice A n c) n xs) : n ≤ c := by
  rcases h.2 with ⟨h1, h2⟩ | ⟨g, cap, cur, h1, _, _, h2, _⟩
  · omega
  · injection h1 with _ _ h3; omega
theorem chain_ok {cpu : Nat} : ∀ (es : List Ev) (p : Option Ev) (b : Bs), Chain cpu p b es → ∀ e ∈ es, e.Ok
  | [], _, _, _, e, he => by cases he
  | x :: r, p, b, h, e, he => by
    rcases List.mem_cons.1 he with rfl | he
    · exact h.1.ok
    · exact chain_ok r _ _ h.2.2.2 e he
theorem readR_shape {b : Bs} {cpu : Nat} {m : Int} {l : List Nat} {er : Nat} (h : (readR b cpu m l).2.2 = er + 1) : readR b cpu m l = ([], 0, er + 1) := by
  obtain ⟨h1, h2⟩ := readR_bad (b := b) (cpu := cpu) (m := m) (l := l) (by omega)
  rw [← h1, ← h2, ← h]
theorem recs_most : ∀ (es : List Ev) (b : Bs), es.length ≤ 200 → (recs b es).length ≤ 61 * 200 := by
  have key : ∀ (es : List Ev) (b : Bs), (recs b es).length ≤ 61 * es.length := by
    intro es
    induction es with
    | nil => intro b; simp [recs]
    | cons e r ih =>
      intro b
      have h1 := rec_len b e
      have h2 := ih e.at
      rw [recs, List.length_append, List.length_cons]
      omega
  intro es b h
  have := key es b
  omega
theorem vbytes_256 (x : Nat) : ∀ y ∈ vbytes x, y < 256 := by
  intro y hy
  obtain ⟨p, hp, rfl⟩ := List.mem_map.1 hy
  have := grp_lt 10 x p hp
  unfold vbyte
  split <;> omega
theorem recs_bytes : ∀ (es : List Ev) (b : Bs), (∀ e ∈ es, e.Ok) → ∀ x ∈ recs b es, x < 256
  | [], _, _, x, hx => by simp [recs] at hx
  | e :: r, b, h, x, hx => by
    rw [recs] at hx
    rcases List.mem_append.1 hx with hx | hx
    · unfold recBytes at hx
      rcases List.mem_cons.1 hx with rfl | hx
      · exact (h e (by simp)).kind
      · obtain ⟨y, _, hy⟩ := List.mem_flatMap.1 hx
        exact vbytes_256 y x hy
    · exact recs_bytes r e.at (fun y hy => h y (by simp [hy])) x hx
/-- A row and its base lie ready: the row in a slice, the base in block g. -/
structure RowAt (w : World) (es : List Ev) (bs : Array Value) (v p : Value) (W : World) : Prop where
  row : ∃ A c, v = .slice A es.length c ∧ Rd W W.heap.size 11 A es.length (es.flatMap evL)
  base : ∃ g, p = .pointer (some ⟨g, 0, none⟩) ∧ W.heap[g]? = some (.cells bs 23 (0, 0)) ∧ w.heap.size ≤ g
  below : Below w.heap.size w W

structure EndAt (w : World) (v : Value) (W : World) : Prop where
  num : v = .int .i64 10
  below : Below w.heap.size w W
theorem lt_of_alloc {W w3 : World} {O : Obj} (h : ((W.alloc O).drew).heap.size ≤ w3.heap.size) : W.heap.size < w3.heap.size := by
  have h1 : (W.alloc O).heap.size ≤ w3.heap.size := h
  rw [World.size_alloc] at h1
  exact h1
theorem lt_of_alloc' {W w3 : World} {O : Obj} (h : (W.alloc O).heap.size ≤ w3.heap.size) : W.heap.size < w3.heap.size := by
  rw [World.size_alloc] at h
  exact h
section
variable {w w1 w3 w4 : World} {base : Nat} {es : List Ev} {s t : Int} {A3 : Option Addr} {c3 : Nat}
theorem close_new (hB2 : Below w.heap.size w w1) (hb31 : Below w1.heap.size w1 w3) (hb43 : Below w3.heap.size w3 w4) (hown3 : w3.ownsRow base 37 11 (.slice A3 es.length c3) es.length (es.flatMap evL)) :
    RowAt w es #[.int .i64 s, .int .i64 t] (.slice A3 es.length c3) (.pointer (some ⟨w4.heap.size, 0, none⟩)) (w4.alloc (.cells #[.int .i64 s, .int .i64 t] 23)) := by
  have h1 := hB2.size
  have h2 := hb31.size
  have h3 := hb43.size
  have hB4 : Below w.heap.size w w4 := (hB2.trans (hb31.mono h1)).trans (hb43.mono (by omega))
  refine ⟨⟨A3, c3, rfl, ?_⟩, ⟨_, rfl, World.alloc_heap_new w4 _, by omega⟩, hB4.alloc (by omega) _⟩
  have hr := ((Rd.of_own hown3 rfl).below hb43).alloc h3 (.cells #[.int .i64 s, .int .i64 t] 23)
  exact hr.more (by rw [World.size_alloc]; omega)
theorem close_set (hB2 : Below w.heap.size w w1) (hb31 : Below w1.heap.size w1 w3) (hb43 : Below w3.heap.size w3 w4) (hown3 : w3.ownsRow base 37 11 (.slice A3 es.length c3) es.length (es.flatMap evL))
    {g : Nat} {x y : Value} (hg : w4.heap[g]? = some (.cells #[x, y] 23 (0, 0))) (hgb : w3.heap.size ≤ g ∨ g < base) (hgw : w1.heap.size ≤ g) :
    RowAt w es #[.int .i64 s, .int .i64 t] (.slice A3 es.length c3) (.pointer (some ⟨g, 0, none⟩)) ((w4.setCell ⟨g, 0, none⟩ (.int .i64 s)).setCell ⟨g, 1, none⟩ (.int .i64 t)) := by
  have h1 := hB2.size
  have h2 := hb31.size
  have h3 := hb43.size
  have hB4 : Below w.heap.size w w4 := (hB2.trans (hb31.mono h1)).trans (hb43.mono (by omega))
  have hs : ((w4.setCell ⟨g, 0, none⟩ (.int .i64 s)).setCell ⟨g, 1, none⟩ (.int .i64 t)).heap.size = w4.heap.size := by simp [World.setCell]
  refine ⟨⟨A3, c3, rfl, ?_⟩, ⟨_, rfl, by simp [World.setCell, Array.getElem?_modify, hg], by omega⟩, (hB4.setCell (by show w.heap.size ≤ g; omega) _).setCell (by show w.heap.size ≤ g; omega) _⟩
  have hch : Chg [g] w3 ((w4.setCell ⟨g, 0, none⟩ (.int .i64 s)).setCell ⟨g, 1, none⟩ (.int .i64 t)) :=
    (((Chg.of_below hb43).mono (by simp)).setCell (p := ⟨g, 0, none⟩) (.inl (by simp)) _).setCell (p := ⟨g, 1, none⟩) (.inl (by simp)) _
  have ho := (hch.keep (Nat.zero_le _)).ownsRow hown3 (fun k hk => by
    have h4 := hown3.lt k hk
    simp only [List.mem_singleton]
    omega)
  exact Rd.of_own ho rfl
end

set_option maxRecDepth 100000 in
set_option maxHeartbeats 4000000 in
theorem short_any (cpu : Nat) (hcpu : cpu < 256) (b : Bs) (hb : b.Ok) (A : Option Addr) (n c : Nat) (l : List Sm) (hl : ∀ x ∈ l, x.Ok) (cut : Nat) (hcut0 : cut < 65536) (B : Nat) (w : World) (hL : Laid B w) (hB : B ≤ w.heap.size) (hr : Rd w w.heap.size 11 A n (l.flatMap smL)) (hc : n ≤ c) (hn : n ≤ 9223372036854775807) :
    Calls Tryd.prog 5 #[.int .u8 (cpu : Int), .agg b.cells, .slice A n c, .int .u16 (cut : Int)] w (TruePost w) := by
  have hb1 : Below w.heap.size w (w.alloc (.cells b.cells 23)) := (Below.refl _ _).alloc (Nat.le_refl _) _
  have HAW := hide (awake_any B _ (hL.below hb1 hB) (by simp; omega))
  have HMA := hide (fun W (h : Below w.heap.size w W) => (made7_any cpu hcpu b hb A n c l hl W ((hr.below h).more h.size) hc hn).mono (R' := fun r w' => (∃ A c, r = .returned (.slice A (madeL cpu b l).length c) ∧ w'.ownsRow W.heap.size 37 11 (.slice A (madeL cpu b l).length c) (madeL cpu b l).length ((madeL cpu b l).flatMap evL)) ∧ Below W.heap.size W w') fun r w' h => ⟨by obtain ⟨v, h1, h2⟩ := h.ret; obtain ⟨A, c, rfl⟩ := own_form h2; exact ⟨A, c, h1, h2⟩, h.below⟩)
  obtain ⟨s, hs⟩ : ∃ s, b.based.seq = s := ⟨_, rfl⟩
  obtain ⟨t, ht⟩ : ∃ t, b.based.time = t := ⟨_, rfl⟩
  have hbc : b.based.cells = #[.int .i64 s, .int .i64 t] := by rw [← hs, ← ht]; rfl
  have HBA := hide (fun W => (based_any b hb W).mono (R' := fun r w' => r = .returned (.agg #[.int .i64 s, .int .i64 t]) ∧ Below W.heap.size W w') fun r w' h => ⟨by rw [h.ret, hbc], h.below⟩)
  have HBC := hide hbc
  clear hs ht hbc
  obtain ⟨es, hes⟩ : ∃ es, madeL cpu b l = es := ⟨_, rfl⟩
  rw [hes] at HMA
  have HES := hide hes
  clear hes
  simp only [Bs.cells] at *
  go_enter Tryd.func5, Tryd.ntmps5
  go_wp2_with (first
    | (go_at_call 12; refine HAW.out.mono ?_; rintro r w1 ⟨rfl, hb2⟩; have hB2 := hb1.trans (hb2.mono (by simp)); have hz2 := hb2.size; simp only [World.size_alloc] at hz2))
  have k0 : w1.cell? ⟨w.heap.size, 0, none⟩ = some (.int .i64 b.seq) := (hb2.cell (p := ⟨w.heap.size, 0, none⟩) (by simp)).trans (by rw [World.cell?_alloc_new]; rfl)
  have k1 : w1.cell? ⟨w.heap.size, 1, none⟩ = some (.int .i64 b.time) := (hb2.cell (p := ⟨w.heap.size, 1, none⟩) (by simp)).trans (by rw [World.cell?_alloc_new]; rfl)
  have hlt1 : w.heap.size < w1.heap.size := by omega
  have hlt2 : w.heap.size < w1.heap.size + 1 := by omega
  have h0 : Below w1.heap.size w1 w1 := Below.refl _ _
  have hm0 : w1.heap.size ≤ w1.heap.size := Nat.le_refl _
  have HK := hide (fun W (h : Below w1.heap.size w1 W) => And.intro ((h.cell (p := ⟨w.heap.size, 0, none⟩) hlt1).trans k0) ((h.cell (p := ⟨w.heap.size, 1, none⟩) hlt1).trans k1))
  go_cut [9, 10] from 21 to 26 (fun v p wx => RowAt w es #[.int .i64 s, .int .i64 t] v p wx)
  case first =>
    go_region_with (first
      | (go_at_call 15; refine (HMA.out _ (by first | exact hB2.drew | exact (hB2.alloc (by omega) _).drew)).mono ?_; rintro r w3 ⟨⟨A3, c3, rfl, hown3⟩, hb3⟩; have hz3 := hb3.size; have hb31 : Below w1.heap.size w1 w3 := (by first | exact h0.drew.trans hb3 | exact (h0.alloc hm0 _).drew.trans (hb3.mono (by simp))); have hlt3 : w.heap.size < w3.heap.size := Nat.lt_of_lt_of_le hlt1 hb31.size; obtain ⟨k03, k13⟩ := HK.out _ hb31; obtain ⟨hc3, hf3⟩ := bcell hb3; (try have hlt5 := lt_of_alloc hz3))
      | (go_at_call 16; refine (HBA.out _).mono ?_; rintro r w4 ⟨rfl, hb4⟩; obtain ⟨hc4, hf4⟩ := bcell hb4; have hz4 := hb4.size; (try have hlt6 := lt_of_alloc' hz4); have hb43 : Below w3.heap.size w3 w4 := (by first | exact hb4 | exact ((Below.refl w3.heap.size w3).alloc (Nat.le_refl _) _).trans (hb4.mono (by simp)))))
    all_goals
      (go_wp2_with fail; go_meet)
      first
        | exact close_new hB2 hb31 hb43 hown3
        | exact close_set hB2 hb31 hb43 hown3 ((hb4.block w3.heap.size (by simp)).trans (World.alloc_heap_new w3 _)) (.inl (Nat.le_refl _)) hb31.size
        | exact close_set hB2 hb31 hb43 hown3 ((hb43.block w1.heap.size hlt5).trans ((hb3.block w1.heap.size (by simp)).trans (World.alloc_heap_new w1 _))) (.inr (by simp)) (Nat.le_refl _)
  clear HMA HBA HK k0 k1 h0 hm0 hlt1 hlt2 HAW hb2 hB2 hz2 hb1 hr
  obtain ⟨⟨A5, c5, rfl, hrow⟩, ⟨g, rfl, hbg, hgw⟩, hBc⟩ := hcut
  have hzc := hBc.size
  have hgc := blk_lt hbg
  have g0 : wc.cell? ⟨g, 0, none⟩ = some (.int .i64 s) := by simp [World.cell?, hbg]
  have g1 : wc.cell? ⟨g, 1, none⟩ = some (.int .i64 t) := by simp [World.cell?, hbg]
  have hcpu' : cpu % 64 < 256 := by omega
  obtain ⟨q, hq⟩ : ∃ q, cpu % 64 = q := ⟨_, rfl⟩
  have hqi : (cpu : Int) % 64 = (q : Int) := by omega
  have hch := madeL_chain hcpu b hl
  rw [HES.out, hq] at hch
  have hok : ∀ e ∈ es, e.Ok := chain_ok es none b.based hch
  obtain ⟨hbr, _⟩ := based_right b
  obtain ⟨_, hw2, hw3⟩ := write_fwd hbr hch
  have hesl : es.length ≤ 200 := by rw [← HES.out]; unfold madeL; rw [madeGo_len, List.length_take]; omega
  obtain ⟨out, hout⟩ : ∃ out, recs b.based es = out := ⟨_, rfl⟩
  rw [hout] at hw3
  have hmore := readR_more hbr hch
  rw [hout] at hmore
  have hmr := readR_shape hmore
  have hshort : ∀ k, k < out.length → ∃ x y, readR b.based q (es.length : Int) (out.take k) = (x, y, 10) := fun k hk => by
    have h := readR_short hbr hch (k := k) (by rw [hout]; exact hk)
    rw [hout] at h
    exact ⟨_, _, by rw [← h]⟩
  have hol : out.length ≤ 61 * 200 := by rw [← hout]; exact recs_most es b.based hesl
  have hob : ∀ x ∈ out, x < 256 := by rw [← hout]; exact recs_bytes es b.based (fun e he => hok e he)
  have hempty : out.length = 0 → es.length = 0 := fun h => by have := recs_len b.based es; rw [hout] at this; omega
  have HWR := hide (fun W (h : Below wc.heap.size wc W) => write_any b.based A5 es.length c5 es hok B W ((hL.below hBc hB).below h (by omega)) (by have := h.size; omega) ((hrow.below h).more h.size) (by omega))
  have hbc' : b.based.cells = #[.int .i64 s, .int .i64 t] := HBC.out
  rw [hw2, hw3, hbc'] at HWR
  have HRD := hide (fun W (h : Below wc.heap.size wc W) A' n' c' (m : Int) (hm : I64 m) (l' : List Nat) (hr' : Rd W W.heap.size 1 A' n' (l'.map B8)) (hc' : n' ≤ c') (hl' : ∀ b ∈ l', b < 256) (hn' : n' ≤ 200000000000000) (hlim : ReadLim m l') => cread_any b.based q (by omega) A' n' c' m hm l' B W ((hL.below hBc hB).below h (by omega)) (by have := h.size; omega) hr' hc' hl' hn' hlim)
  rw [hbc'] at HRD
  have HF := hide (And.intro hmr (And.intro hshort (And.intro hob hempty)))
  clear hmr hmore hshort hob hw2 hw3 hout hch hempty hbr hq hok hrow hbc'
  have hmI : I64 ((es.length : Int) + 1) := ⟨by omega, by omega⟩
  have HR1 := hide (fun W (h : Below wc.heap.size wc W) A' c' (hr' : Rd W W.heap.size 1 A' out.length (out.map B8)) (hc' : out.length ≤ c') => (HRD.out W h A' out.length c' ((es.length : Int) + 1) hmI out hr' hc' HF.out.2.2.1 (by omega) (.inl (by omega))).mono (R' := fun r w' => (∃ A c, r = .returned (.tuple #[.slice A 0 c, .int .i64 0, .int .i64 10])) ∧ Below W.heap.size W w') fun r w' h => ⟨by obtain ⟨v, h1, h2⟩ := h.ret; rw [HF.out.1] at h1 h2; obtain ⟨A, c, rfl⟩ := own_form h2; exact ⟨A, c, h1⟩, h.below⟩)
  by_cases hz0 : out.length = 0
  · have e1 : ((out.length : Int) == 0) = true := by rw [beq_iff_eq]; omega
    have e2 : ((es.length : Int) == 0) = true := by rw [beq_iff_eq]; have := HF.out.2.2.2 hz0; omega
    clear hz0
    go_wp2_with (first
      | (go_at_call 14; refine (HWR.out _ (Below.refl _ _)).mono ?_; rintro r w5 ⟨⟨v5, rfl, hown5⟩, hb5⟩; obtain ⟨A6, c6, rfl⟩ := own_form hown5; have hz5 := hb5.size; have g05 := (hb5.cell (p := ⟨g, 0, none⟩) hgc).trans g0; have g15 := (hb5.cell (p := ⟨g, 1, none⟩) hgc).trans g1; have hcap := own_cap hown5; have hrd5 := Rd.of_own hown5 rfl)
      | (go_at_call 13; refine (HR1.out _ hb5 _ _ hrd5 hcap).mono ?_; rintro r w6 ⟨⟨A7, c7, rfl⟩, hb6⟩))
    go_ret
    exact ⟨rfl, (hBc.trans (hb5.mono hzc)).trans (hb6.mono (by omega))⟩
  · have e1 : ((out.length : Int) == 0) = false := by rw [beq_eq_false_iff_ne]; omega
    go_wp2_with (first
      | (go_at_call 14; refine (HWR.out _ (Below.refl _ _)).mono ?_; rintro r w5 ⟨⟨v5, rfl, hown5⟩, hb5⟩; obtain ⟨A6, c6, rfl⟩ := own_form hown5; have hz5 := hb5.size; have g05 := (hb5.cell (p := ⟨g, 0, none⟩) hgc).trans g0; have g15 := (hb5.cell (p := ⟨g, 1, none⟩) hgc).trans g1; have hcap := own_cap hown5; have hrd5 := Rd.of_own hown5 rfl)
      | (go_at_call 13; refine (HR1.out _ hb5 _ _ hrd5 hcap).mono ?_; rintro r w6 ⟨⟨A7, c7, rfl⟩, hb6⟩; have hz6 := hb6.size))
    have hgc6 : g < w5.heap.size := by omega
    have hgc7 : g < w6.heap.size := by omega
    have g06 := (hb6.cell (p := ⟨g, 0, none⟩) hgc6).trans g05
    have g16 := (hb6.cell (p := ⟨g, 1, none⟩) hgc6).trans g15
    obtain ⟨Q, hQ⟩ : ∃ Q, cut % out.length = Q := ⟨_, rfl⟩
    have hQl : Q < out.length := by rw [← hQ]; exact Nat.mod_lt _ (by omega)
    have hQt : ((cut : Int)).tmod (out.length : Int) = (Q : Int) := by rw [Int.tmod_eq_emod_of_nonneg (by omega), ← hQ]; simp
    have hqt : ((cpu : Int)).tmod 64 = (q : Int) := by rw [Int.tmod_eq_emod_of_nonneg (by omega)]; exact hqi
    have hwc : IntKind.i64.wrap (cut : Int) = (cut : Int) := IntWalk.i64_in _ (by omega)
    have hwq : IntKind.i64.wrap (Q : Int) = (Q : Int) := IntWalk.i64_in _ (by omega)
    have hQ0 : 0 ≤ (Q : Int) := by omega
    have hQc : (Q : Int) ≤ (c6 : Int) := by omega
    have hou : (0 : Int) < (out.length : Int) := by omega
    have hB6 : Below w.heap.size w w6 := (hBc.trans (hb5.mono hzc)).trans (hb6.mono (by omega))
    have hrd6 : Rd w6 w6.heap.size 1 A6 Q ((out.take Q).map B8) := by
      have h := (((hrd5.below hb6).more hz6).upto (k := Q) (by omega))
      rwa [Nat.mul_one, ← List.map_take] at h
    obtain ⟨x9, y9, hx9⟩ := HF.out.2.1 Q hQl
    have hmI2 : I64 (es.length : Int) := ⟨by omega, by omega⟩
    have hbc6 : Below wc.heap.size wc w6 := hb5.trans (hb6.mono hz5)
    have HR2 := hide (fun W (h : Below w6.heap.size w6 W) => (HRD.out W (hbc6.trans (h.mono (by omega))) A6 Q c6 (es.length : Int) hmI2 (out.take Q) ((hrd6.below h).more h.size) (by omega) (fun b hb => HF.out.2.2.1 b (List.mem_of_mem_take hb)) (by omega) (.inl (by omega))).mono (R' := fun r w' => (∃ v u, r = .returned (.tuple #[v, .int .i64 u, .int .i64 10])) ∧ Below W.heap.size W w') fun r w' h => ⟨by obtain ⟨v, h1, h2⟩ := h.ret; rw [hx9] at h1; exact ⟨v, _, h1⟩, h.below⟩)
    have h0 : Below w6.heap.size w6 w6 := Below.refl _ _
    have HK6 := hide (fun W (h : Below w6.heap.size w6 W) => And.intro ((h.cell (p := ⟨g, 0, none⟩) hgc7).trans g06) (And.intro ((h.cell (p := ⟨g, 1, none⟩) hgc7).trans g16) h))
    clear hQ hx9 hmI2 hrd6
    go_cut [18] from 64 to 80 (fun v wx => EndAt w v wx)
    case first =>
      go_region_held3 (fun w' => w'.cell? ⟨g, 0, none⟩ = some (.int .i64 s) ∧ w'.cell? ⟨g, 1, none⟩ = some (.int .i64 t) ∧ Below w6.heap.size w6 w')
        (first
          | (with_reducible exact HK6.out _ h0.drew)
          | (with_reducible exact HK6.out _ hS7))
        (first
          | (go_at_call 13; have hS := ‹_ ∧ _ ∧ Below w6.heap.size w6 _›; refine (HR2.out _ hS.2.2).mono ?_; rintro r w7 ⟨⟨v7, u7, rfl⟩, hb7⟩; have hS7 := hS.2.2.trans (hb7.mono hS.2.2.size)))
      all_goals
        (go_wp2_with fail; go_meet)
        exact ⟨rfl, hB6.trans (hS7.mono hB6.size)⟩
    obtain ⟨rfl, hB7⟩ := hcut
    go_wp2
    go_ret
    exact ⟨rfl, hB7⟩
end Go.Proofs.YtpekelggcmgnnaaDoor

/- What a row gives and asks: the listed variables, the arguments, and the answer true with every input as it was. -/
namespace Go.Proofs.YtpekelggcmgnnaaDoor
open Go.RowKit Go.ChangeShapes Go.WideShapes

section
variable {H : Type} {enc : TypeId × Value → H} {P : Program}
theorem trodAll_stays (hl : laidOutB P = true) {W W' : World} (hb : Below W.heap.size W W') : ∀ {ts : List TypeId} {vs : List Value} {ds : List (DataW H)} {ps : List MemPlace},
    (ts.all fun t => P.readableRec t && decide (t < P.types.size)) = true → DataW.TrodAll enc P W 0 (fun _ => true) true ts vs ds ps → (∀ x ∈ ps, x.block < W.heap.size) →
    DataW.TrodAll enc P W' 0 (fun b => decide (b < W.heap.size)) true ts vs ds ps
  | [], vs, ds, ps, _, h, _ => by
    obtain ⟨rfl, rfl, rfl⟩ := trodAll_nil h
    rfl
  | t :: ts, vs, ds, ps, ht, h, hlt => by
    obtain ⟨v, vs', d, ds', p, q, rfl, rfl, rfl, h1, h2⟩ := trodAll_cons h
    simp only [List.all_cons, Bool.and_eq_true, decide_eq_true_eq] at ht
    exact ⟨p, q, Below.trod hl ht.1.1 ht.1.2 h1 hb (fun x hx => hlt x (List.mem_append_left _ hx)), trodAll_stays hl hb (by simpa using ht.2) h2 (fun x hx => hlt x (List.mem_append_right _ hx)), rfl⟩

theorem post_true {f : Func} {s : ChangeSpec} {W W' : World} {args : Array Value} {ds gs : List (DataW H)} {before : List MemPlace} {tb : TypeId}
    (hl : laidOutB P = true) (hts : (f.params.toList.all fun t => P.readableRec t && decide (t < P.types.size)) = true)
    (hr : f.resultTypes = #[tb]) (hbt : P.underlying tb = some .bool) (hv : s.vars = [])
    (hW : DataW.Whole enc P f.params.toList s.vars false W args.toList ds gs before) (hs : s.fn H ds = { results := [.lit (.bool true)], args := ds }) (hb : Below W.heap.size W W') :
    s.post enc P f false true false false W args (.bool true) W' := by
  have hlt : ∀ x ∈ before, x.block < W.heap.size := fun p hp => hW.lt p hp
  have hW' := hW
  obtain ⟨p, q, hA, hV, e, hfz, hnd⟩ := hW
  rw [hv] at hV
  obtain ⟨rfl, rfl⟩ := trodVars_none hV
  rw [List.append_nil] at e
  subst e
  refine ⟨ds, [], before, [], before, [], hW', ?_, ?_, ?_, hb.frame _, fun h => by cases h⟩
  · rw [List.append_nil, hs, hr]
    exact trodAll_mk1 (shut_bool hbt _)
  · rw [List.append_nil, hs]
    exact trodAll_stays hl hb hts hA hlt
  · rw [List.append_nil, hs, hv]
    rfl
end

theorem uses_row {W : World} {fuel : Nat} {cs : List Value} {zs : List Nat} {p : List MemPlace}
    (h : DataW.trod (fun _ => ()) Tryd.prog W 0 (fun _ => true) false fuel 60 cs = some (.slice (zs.map fun z : Nat => .lit (.int .i64 (z : Int))) [], p)) :
    ∃ A c, cs = [.slice A zs.length c] ∧ Rd W W.heap.size 1 A zs.length (zs.map I64v) := by
  obtain ⟨a, cap, hcs, hl, hall⟩ := open_row (e := 3) (by kernel_rfl) (by kernel_rfl) h
  have hcell : ∀ i z, zs[i]? = some z → W.cell? (a.add i) = some (I64v z) := by
    intro i z hz
    obtain ⟨v, n, q, hc, ht⟩ := hall i (.lit (.int .i64 (z : Int))) (by rw [List.getElem?_map, hz]; rfl)
    obtain ⟨z', e1, e2, _⟩ := DataW.trod_int (k := .i64) (by kernel_rfl) ht
    injection e1 with e1
    injection e2 with e2
    subst e1
    simp only [DataW.lit.injEq, Lit.int.injEq, true_and] at e2
    rw [hc, ← e2]
    rfl
  refine ⟨some a, cap, by rw [hcs, List.length_map], by simp, fun hn => ⟨a, rfl, ?_, ?_⟩⟩
  · cases zs with
    | nil => simp at hn
    | cons z zs =>
      have := World.block_lt_of_cell? W _ (hcell 0 z rfl)
      simpa [Addr.add] using this
  · intro j u hu
    rw [List.getElem?_map] at hu
    cases hz : zs[j]? with
    | none => simp [hz] at hu
    | some z => rw [hz] at hu; cases hu; exact hcell j z hz
theorem laid_of_row {W : World} (h : laidMetH Tryd.prog Rows.codecOneRow.laid W) : Laid W.heap.size W := by
  rw [MakeChecks.laidMetH_plain _ _ _ (by kernel_rfl)] at h
  obtain ⟨g1, t1, cs1, f1, p1, hg1, ht1, hv1, hd1⟩ := Lib.laidMet.reads h (n := "quantum/event.fields") (d := Rows.laid_quantum_event_fields) (List.mem_cons_self ..)
  obtain ⟨g2, t2, cs2, f2, p2, hg2, ht2, hv2, hd2⟩ := Lib.laidMet.reads h (n := "quantum/event.uses") (d := Rows.laid_quantum_event_uses) (List.mem_cons_of_mem _ (List.mem_cons_self ..))
  have gg1 : Tryd.prog.globalNamed "quantum/event.fields" = some 1 := by kernel_rfl
  have gg2 : Tryd.prog.globalNamed "quantum/event.uses" = some 0 := by kernel_rfl
  obtain rfl := Option.some.inj (gg1.symm.trans hg1)
  obtain rfl := Option.some.inj (gg2.symm.trans hg2)
  have ty1 : (Tryd.prog.globals[1]?).map (·.type) = some 122 := by kernel_rfl
  have ty2 : (Tryd.prog.globals[0]?).map (·.type) = some 90 := by kernel_rfl
  obtain rfl := Option.some.inj (ty1.symm.trans ht1)
  obtain rfl := Option.some.inj (ty2.symm.trans ht2)
  have one1 : Tryd.prog.cellsOf 9 = 1 := by kernel_rfl
  have one2 : Tryd.prog.cellsOf 60 = 1 := by kernel_rfl
  have c1 : ∀ i v, cs1.toList[i]? = some v → W.cell? ⟨1, i, none⟩ = some v := fun i v hv => by
    rw [World.var?_cell gg1 hv1 i]; simpa using hv
  have c2 : ∀ i v, cs2.toList[i]? = some v → W.cell? ⟨0, i, none⟩ = some v := fun i v hv => by
    rw [World.var?_cell gg2 hv2 i]; simpa using hv
  have at1 : ∀ (cs : List Value) (i : Nat) (v : Value), (cs.drop (i * 1)).take 1 = [v] → cs[i]? = some v := by
    intro cs i v h
    have := congrArg (·[0]?) h
    simpa [List.getElem?_take, List.getElem?_drop] using this
  have str : ∀ i, i < 7 → ∃ s : ByteArray, W.cell? ⟨1, i, none⟩ = some (.string s) := by
    intro i hi
    obtain ⟨f', d, q, _, ht⟩ := Lib.array_elem (n := 7) (e := 9) (by kernel_rfl) hd1 i hi
    rw [one1] at ht
    obtain ⟨s, hs, _⟩ := DataW.trod_string (by kernel_rfl) ht
    exact ⟨s, c1 i _ (at1 _ _ _ hs)⟩
  have row : ∀ k, k < 11 → ∃ A c, W.cell? ⟨0, k, none⟩ = some (.slice A (usesL k).length c) ∧ Rd W W.heap.size 1 A (usesL k).length ((usesL k).map I64v) := by
    intro k hk
    obtain ⟨f', d, q, hd, ht⟩ := Lib.array_elem (n := 11) (e := 60) (by kernel_rfl) hd2 k hk
    rw [one2] at ht
    by_cases h0 : k = 0
    · subst h0
      simp only [List.getElem?_cons_zero, Option.some.injEq] at hd
      subst hd
      rcases DataW.trod_slice (e := 3) (by kernel_rfl) ht with ⟨hc, _⟩ | ⟨a, len, cap, elems, rest, n, _, _, hx, _⟩
      · exact ⟨none, 0, c2 0 _ (at1 _ _ _ hc), Rd.nil⟩
      · simp at hx
    · have hd' : d = .slice ((usesL k).map fun z : Nat => .lit (.int .i64 (z : Int))) [] := by
        have hk' : k = 1 ∨ k = 2 ∨ k = 3 ∨ k = 4 ∨ k = 5 ∨ k = 6 ∨ k = 7 ∨ k = 8 ∨ k = 9 ∨ k = 10 := by omega
        rcases hk' with rfl | rfl | rfl | rfl | rfl | rfl | rfl | rfl | rfl | rfl <;> exact (Option.some.inj hd).symm
      subst hd'
      obtain ⟨A, c, hc, hr⟩ := uses_row ht
      exact ⟨A, c, c2 k _ (at1 _ _ _ hc), hr⟩
  refine ⟨row, ?_, str, ?_⟩
  · obtain ⟨A, c, h1, _⟩ := row 0 (by omega)
    exact World.block_lt_of_cell? W _ h1
  · obtain ⟨s, h1⟩ := str 0 (by omega)
    exact World.block_lt_of_cell? W _ h1

/-! ### the arguments -/
theorem und_int : Tryd.prog.underlying 3 = some (.int .i64) := by kernel_rfl
theorem und_u8 : Tryd.prog.underlying 5 = some (.int .u8) := by kernel_rfl
theorem und_bytes : Tryd.prog.underlying 25 = some (.slice 5) := by kernel_rfl
def twoOf (P : Program) (t u : TypeId) : Bool := match P.underlying t with
  | some (.struct fs) => match fs.toList with
    | [f0, f1] => Deep.oneCellFields P #[f0, f1] && decide (f0.type = u) && decide (f1.type = u)
    | _ => false
  | _ => false
theorem of_twoOf {P : Program} {t u : TypeId} (h : twoOf P t u = true) : ∃ f0 f1 : Field, P.underlying t = some (.struct #[f0, f1]) ∧ Deep.oneCellFields P #[f0, f1] = true ∧ f0.type = u ∧ f1.type = u := by
  unfold twoOf at h
  split at h
  · rename_i fs hu
    split at h
    · rename_i f0 f1 hfs
      simp only [Bool.and_eq_true, decide_eq_true_eq] at h
      refine ⟨f0, f1, ?_, h.1.1, h.1.2, h.2⟩
      rw [hu, ← Array.toArray_toList (xs := fs), hfs]
    · cases h
  · cases h
theorem und_base : twoOf Tryd.prog 23 3 = true := by kernel_rfl
theorem cells_u8 : Tryd.prog.cellsOf 5 = 1 := by kernel_rfl
theorem cells_base : Tryd.prog.cellsOf 23 = 2 := by kernel_rfl
section
variable {H : Type} {enc : TypeId × Value → H} {W : World} {b0 : Nat} {v : Value} {d : DataW H} {p : List MemPlace}
theorem i64_wf {a : Int} (h : (Lit.int .i64 a).wf = true) : I64 a := by
  simpa [Lit.wf, IntKind.min, IntKind.max, IntKind.signed, IntKind.bits, I64] using h
theorem u8_wf {a : Int} (h : (Lit.int .u8 a).wf = true) : 0 ≤ a ∧ a ≤ 255 := by
  simpa [Lit.wf, IntKind.min, IntKind.max, IntKind.signed, IntKind.bits] using h
set_option maxRecDepth 100000 in
theorem arg_int (hval : Value.okWide Tryd.prog W .any b0 3 v) (h : DataW.Trod enc Tryd.prog W 0 (fun _ => true) true 3 v d p) : ∃ m : Int, v = .int .i64 m ∧ I64 m := by
  obtain ⟨m, rfl, _, _, wf⟩ := open_int und_int hval h
  exact ⟨m, rfl, i64_wf wf⟩
set_option maxRecDepth 100000 in
theorem arg_u8 (hval : Value.okWide Tryd.prog W .any b0 5 v) (h : DataW.Trod enc Tryd.prog W 0 (fun _ => true) true 5 v d p) : ∃ m : Nat, v = .int .u8 (m : Int) ∧ m < 256 := by
  obtain ⟨m, rfl, _, _, wf⟩ := open_int und_u8 hval h
  have := u8_wf wf
  exact ⟨m.toNat, by rw [Int.toNat_of_nonneg this.1], by omega⟩
set_option maxRecDepth 100000 in
theorem arg_base (hval : Value.okWide Tryd.prog W .any b0 23 v) (h : DataW.Trod enc Tryd.prog W 0 (fun _ => true) true 23 v d p) : ∃ b : Bs, v = .agg b.cells ∧ b.Ok := by
  obtain ⟨f0, f1, hu, hone, ht0, ht1⟩ := of_twoOf und_base
  obtain ⟨c0, c1, y0, y1, m, rfl, rfl, rfl, hy0, hy1⟩ := Joins.open_agg2 hu hone cells_base hval h
  rw [ht0] at hy0
  rw [ht1] at hy1
  obtain ⟨a, e0, rfl, wa⟩ := DataW.trod_int und_int hy0
  obtain ⟨b, e1, rfl, wb⟩ := DataW.trod_int und_int hy1
  simp at e0 e1
  subst e0 e1
  exact ⟨⟨a, b⟩, rfl, i64_wf wa, i64_wf wb⟩
set_option maxRecDepth 100000 in
theorem arg_bytes (hval : Value.okWide Tryd.prog W .any b0 25 v) (h : DataW.Trod enc Tryd.prog W 0 (fun _ => true) true 25 v d p) :
    ∃ (A : Option Addr) (n c : Nat) (l : List Nat), v = .slice A n c ∧ n ≤ c ∧ c ≤ maxLen ∧ (∀ b ∈ l, b < 256) ∧ Rd W W.heap.size 1 A n (l.map B8) := by
  obtain ⟨a0, len, cap, rfl⟩ := okWide_slice und_bytes hval
  obtain ⟨fuel, hf⟩ := h
  rcases open_ints und_bytes und_u8 cells_u8 hf with ⟨hcs, hx⟩ | ⟨a, len', cap', zs, hcs, _, hl, hm, hz, hx, hcell, hwz⟩
  · simp only [Value.cells, List.cons.injEq, and_true, Value.slice.injEq] at hcs
    obtain ⟨rfl, rfl, rfl⟩ := hcs
    exact ⟨none, 0, 0, [], rfl, Nat.le_refl _, by unfold maxLen; omega, by simp, Rd.nil⟩
  · simp only [Value.cells, List.cons.injEq, and_true, Value.slice.injEq] at hcs
    obtain ⟨rfl, rfl, rfl⟩ := hcs
    simp only [if_true] at hz
    have hat : ∀ i z, zs[i]? = some z → W.cell? (a.add i) = some (.int .u8 z) ∧ 0 ≤ z ∧ z ≤ 255 := by
      intro i z hi
      obtain ⟨hlt, e⟩ := List.getElem?_eq_some_iff.1 hi
      refine ⟨by rw [hcell i hlt, List.getD_eq_getElem?_getD, hi]; rfl, u8_wf (hwz z (List.mem_of_getElem? hi))⟩
    refine ⟨some a, len, cap, (zs.take len).map Int.toNat, rfl, hl, hm, ?_, by simp; omega, fun hn => ⟨a, rfl, ?_, ?_⟩⟩
    · intro b hb
      obtain ⟨z, hz', rfl⟩ := List.mem_map.1 hb
      have := u8_wf (hwz z (List.mem_of_mem_take hz'))
      omega
    · have h0 : 0 < zs.length := by omega
      have := (hat 0 zs[0] (by simp [h0])).1
      have := World.block_lt_of_cell? W _ this
      simpa [Addr.add] using this
    · intro j u hu
      rw [List.map_map, List.getElem?_map] at hu
      cases hz' : (zs.take len)[j]? with
      | none => simp [hz'] at hu
      | some z =>
        rw [hz'] at hu
        have hj : zs[j]? = some z := by
          rw [List.getElem?_take] at hz'
          split at hz'
          · exact hz'
          · cases hz'
        obtain ⟨h1, h2, h3⟩ := hat j z hj
        rw [h1, ← hu]
        simp [B8]
        omega
end
end Go.Proofs.YtpekelggcmgnnaaDoor

/- What an argument's reading gives: structs of numbers, slices of such structs. -/
namespace Go.Proofs.YtpekelggcmgnnaaDoor
open Go.RowKit Go.ChangeShapes Go.WideShapes

/-- A struct whose fields are numbers of such kinds, a cell each. -/
def intFields (P : Program) (t : TypeId) (ks : List Go.IntKind) : Bool := match P.underlying t with
  | some (.struct fs) => decide (fs.size = ks.length) && decide (P.cellsOf t = ks.length) && (List.range ks.length).all fun i => match fs[i]?, ks[i]? with
    | some f, some k => decide (f.offset = i) && decide (P.cellsOf f.type = 1) && (match P.underlying f.type with | some (TypeDesc.int k') => decide (k' = k) | _ => false)
    | _, _ => false
  | _ => false
section
variable {H : Type} {enc : TypeId × Value → H} {P : Program} {W : World} {b0 : Nat} {sp : Nat → Bool} {held : Bool}
theorem struct_ints {t : TypeId} {ks : List Go.IntKind} (hf : intFields P t ks = true) {fuel : Nat} {cs : List Value} {x : DataW H × List MemPlace} (h : DataW.trod enc P W b0 sp held fuel t cs = some x) :
    cs.length = ks.length ∧ ∀ (i : Nat) (k : Go.IntKind), ks[i]? = some k → ∃ z : Int, cs[i]? = some (Value.int k z) ∧ (Lit.int k z).wf = true := by
  unfold intFields at hf
  split at hf
  · rename_i fs hu
    simp only [Bool.and_eq_true, decide_eq_true_eq, List.all_eq_true, List.mem_range] at hf
    obtain ⟨⟨h1, h2⟩, h3⟩ := hf
    obtain ⟨xs, n, _, _, hl, hx, he⟩ := DataW.trod_struct hu h
    refine ⟨by omega, fun i k hk => ?_⟩
    have hi : i < ks.length := (List.getElem?_eq_some_iff.1 hk).1
    have h4 := h3 i hi
    rw [hk] at h4
    split at h4
    · rename_i f k' hfi hk'
      cases hk'
      simp only [Bool.and_eq_true, decide_eq_true_eq] at h4
      obtain ⟨⟨ho, hc⟩, hty⟩ := h4
      split at hty
      · rename_i k'' hu'
        simp only [decide_eq_true_eq] at hty
        subst hty
        have h5 := he i f hfi
        rw [ho, hc] at h5
        have hxi : i < xs.length := by omega
        rw [List.getElem?_eq_getElem hxi] at h5
        obtain ⟨z, hz, _, hw⟩ := DataW.trod_int hu' h5
        refine ⟨z, ?_, hw⟩
        have := congrArg (·[0]?) hz
        simpa [List.getElem?_take, List.getElem?_drop] using this
      · cases hty
    · cases h4
  · cases hf
theorem intFields_cells {t : TypeId} {ks : List Go.IntKind} (hf : intFields P t ks = true) : P.cellsOf t = ks.length := by
  unfold intFields at hf
  split at hf
  · simp only [Bool.and_eq_true, decide_eq_true_eq] at hf
    exact hf.1.2
  · cases hf
/-- A slice of such structs. -/
theorem slice_structs {t e : TypeId} {ks : List Go.IntKind} (ht : P.underlying t = some (.slice e)) (hf : intFields P e ks = true) (hk : 0 < ks.length) {fuel : Nat} {cs : List Value} {x : DataW H × List MemPlace}
    (h : DataW.trod enc P W 0 sp held fuel t cs = some x) :
    ∃ (A : Option Addr) (n c : Nat) (css : List (List Value)), cs = [.slice A n c] ∧ n ≤ c ∧ c ≤ maxLen ∧ css.length = n ∧
      (∀ l ∈ css, l.length = ks.length ∧ ∀ (i : Nat) (k : Go.IntKind), ks[i]? = some k → ∃ z : Int, l[i]? = some (Value.int k z) ∧ (Lit.int k z).wf = true) ∧ Rd W W.heap.size ks.length A n (css.flatMap id) := by
  have hsz := intFields_cells hf
  rcases DataW.trod_slice ht h with ⟨hc, _⟩ | ⟨a, len, cap, elems, rest, m, _, hc, _, _, hl, hm, hlen, hel, _⟩
  · exact ⟨none, 0, 0, [], hc, Nat.le_refl _, by unfold maxLen; omega, rfl, by simp, Rd.nil⟩
  · have hall : ∀ i, i < len → ∃ l : List Value, W.cells? 0 (a.add (i * ks.length)) ks.length = some l ∧ ∃ y, DataW.trod enc P W 0 sp held m e l = some y := by
      intro i hi
      have h1 := hel i hi
      rw [hsz, List.getElem?_eq_getElem (by omega : i < elems.length)] at h1
      obtain ⟨l, h2, h3⟩ := Option.bind_eq_some_iff.1 h1
      exact ⟨l, h2, _, h3⟩
    have key : ∀ k, k ≤ len → ∃ css : List (List Value), css.length = k ∧ (∀ i (hi : i < css.length), W.cells? 0 (a.add (i * ks.length)) ks.length = some css[i] ∧ ∃ y, DataW.trod enc P W 0 sp held m e css[i] = some y) := by
      intro k
      induction k with
      | zero => intro _; exact ⟨[], rfl, fun i hi => by simp at hi⟩
      | succ k ih =>
        intro hk
        obtain ⟨css, h1, h2⟩ := ih (by omega)
        obtain ⟨l, h3, h4⟩ := hall k (by omega)
        refine ⟨css ++ [l], by simp [h1], fun i hi => ?_⟩
        by_cases hik : i < css.length
        · rw [List.getElem_append_left hik]; exact h2 i hik
        · obtain rfl : i = css.length := by simp at hi; omega
          rw [List.getElem_append_right (Nat.le_refl _)]
          simp only [Nat.sub_self, List.getElem_cons_zero, h1]
          exact ⟨h3, h4⟩
    obtain ⟨css, h1, h2⟩ := key len (Nat.le_refl _)
    have hin : ∀ l ∈ css, l.length = ks.length ∧ ∀ (i : Nat) (k : Go.IntKind), ks[i]? = some k → ∃ z : Int, l[i]? = some (Value.int k z) ∧ (Lit.int k z).wf = true := by
      intro l hl'
      obtain ⟨i, hi, rfl⟩ := List.getElem_of_mem hl'
      obtain ⟨_, y, hy⟩ := h2 i hi
      exact struct_ints hf hy
    have hat : ∀ i (hi : i < css.length) j, j < ks.length → W.cell? (a.add (i * ks.length + j)) = css[i][j]? := by
      intro i hi j hj
      have := (World.cells?_some (h2 i hi).1).2.2 j hj
      rwa [add_twice] at this
    have hflat : ∀ (css : List (List Value)), (∀ l ∈ css, l.length = ks.length) → (css.flatMap id).length = css.length * ks.length := by
      intro css
      induction css with
      | nil => simp
      | cons l r ih => intro h; rw [List.flatMap_cons, List.length_append, ih (fun y hy => h y (by simp [hy])), List.length_cons, Nat.succ_mul]; have := h l (by simp); simp only [id]; omega
    have hget : ∀ (css : List (List Value)), (∀ l ∈ css, l.length = ks.length) → ∀ p u, (css.flatMap id)[p]? = some u → ∃ i j, ∃ hi : i < css.length, j < ks.length ∧ p = i * ks.length + j ∧ css[i][j]? = some u := by
      intro css
      induction css with
      | nil => intro _ p u h; simp at h
      | cons l r ih =>
        intro h p u hu
        have hll := h l (by simp)
        rw [List.flatMap_cons] at hu
        by_cases hp : p < ks.length
        · rw [List.getElem?_append_left (by simp only [id]; omega)] at hu
          exact ⟨0, p, by simp, hp, by omega, hu⟩
        · rw [List.getElem?_append_right (by simp only [id]; omega)] at hu
          simp only [id] at hu
          rw [hll] at hu
          obtain ⟨i, j, hi, hj, hpj, hu'⟩ := ih (fun y hy => h y (by simp [hy])) _ u hu
          exact ⟨i + 1, j, by simp; omega, hj, by rw [Nat.succ_mul]; omega, by simpa using hu'⟩
    have hll : ∀ l ∈ css, l.length = ks.length := fun l hl' => (hin l hl').1
    refine ⟨some a, len, cap, css, hc, hl, hm, h1, hin, ⟨by rw [hflat css hll, h1], fun hn => ⟨a, rfl, ?_, ?_⟩⟩⟩
    · have h0 : 0 < css.length := by omega
      have h3 := hat 0 h0 0 hk
      have h4 := hll _ (List.getElem_mem h0)
      rw [List.getElem?_eq_getElem (by omega)] at h3
      have := World.block_lt_of_cell? W _ h3
      simpa [Addr.add] using this
    · intro p u hu
      obtain ⟨i, j, hi, hj, rfl, hu'⟩ := hget css hll p u hu
      rw [hat i hi j hj, hu']
end
theorem u16_wf {a : Int} (h : (Lit.int .u16 a).wf = true) : 0 ≤ a ∧ a ≤ 65535 := by
  simpa [Lit.wf, IntKind.min, IntKind.max, IntKind.signed, IntKind.bits] using h
theorem u32_wf {a : Int} (h : (Lit.int .u32 a).wf = true) : 0 ≤ a ∧ a ≤ 4294967295 := by
  simpa [Lit.wf, IntKind.min, IntKind.max, IntKind.signed, IntKind.bits] using h
theorem u64_wf {a : Int} (h : (Lit.int .u64 a).wf = true) : 0 ≤ a ∧ a ≤ 18446744073709551615 := by
  simpa [Lit.wf, IntKind.min, IntKind.max, IntKind.signed, IntKind.bits] using h
def smKinds : List Go.IntKind := [.u8, .u8, .u32, .u32, .u32, .u32, .u32, .u32, .u32, .u32, .u64]
theorem sm_fields : intFields Tryd.prog 46 smKinds = true := by kernel_rfl
theorem und_smalls : Tryd.prog.underlying 39 = some (.slice 46) := by kernel_rfl
theorem list_eq {α : Type} {l m : List α} (h1 : l.length = m.length) (h : ∀ i, i < m.length → l[i]? = m[i]?) : l = m := by
  refine List.ext_getElem? fun i => ?_
  by_cases hi : i < m.length
  · exact h i hi
  · rw [List.getElem?_eq_none (by omega), List.getElem?_eq_none (by omega)]
theorem exists_sm {cs : List Value} (hl : cs.length = smKinds.length) (h : ∀ (i : Nat) (k : Go.IntKind), smKinds[i]? = some k → ∃ z : Int, cs[i]? = some (Value.int k z) ∧ (Lit.int k z).wf = true) : ∃ x : Sm, smL x = cs ∧ x.Ok := by
  obtain ⟨z0, h0, w0⟩ := h 0 .u8 rfl
  have w0 := u8_wf w0
  obtain ⟨z1, h1, w1⟩ := h 1 .u8 rfl
  have w1 := u8_wf w1
  obtain ⟨z2, h2, w2⟩ := h 2 .u32 rfl
  have w2 := u32_wf w2
  obtain ⟨z3, h3, w3⟩ := h 3 .u32 rfl
  have w3 := u32_wf w3
  obtain ⟨z4, h4, w4⟩ := h 4 .u32 rfl
  have w4 := u32_wf w4
  obtain ⟨z5, h5, w5⟩ := h 5 .u32 rfl
  have w5 := u32_wf w5
  obtain ⟨z6, h6, w6⟩ := h 6 .u32 rfl
  have w6 := u32_wf w6
  obtain ⟨z7, h7, w7⟩ := h 7 .u32 rfl
  have w7 := u32_wf w7
  obtain ⟨z8, h8, w8⟩ := h 8 .u32 rfl
  have w8 := u32_wf w8
  obtain ⟨z9, h9, w9⟩ := h 9 .u32 rfl
  have w9 := u32_wf w9
  obtain ⟨z10, h10, w10⟩ := h 10 .u64 rfl
  have w10 := u64_wf w10
  refine ⟨⟨z0.toNat, z1.toNat, z2.toNat, z3.toNat, z4.toNat, z5.toNat, z6.toNat, z7.toNat, z8.toNat, z9.toNat, z10.toNat⟩, ?_, ⟨by show z0.toNat < _; omega, by show z1.toNat < _; omega, by show z2.toNat < _; omega, by show z3.toNat < _; omega, by show z4.toNat < _; omega, by show z5.toNat < _; omega, by show z6.toNat < _; omega, by show z7.toNat < _; omega, by show z8.toNat < _; omega, by show z9.toNat < _; omega, by show z10.toNat < _; omega⟩⟩
  refine list_eq (by rw [hl]; rfl) fun i hi => ?_
  have hi' : i < 11 := by rw [hl] at hi; exact hi
  have hc : i = 0 ∨ i = 1 ∨ i = 2 ∨ i = 3 ∨ i = 4 ∨ i = 5 ∨ i = 6 ∨ i = 7 ∨ i = 8 ∨ i = 9 ∨ i = 10 := by omega
  rcases hc with rfl | rfl | rfl | rfl | rfl | rfl | rfl | rfl | rfl | rfl | rfl
  · rw [h0]; show some (Value.int .u8 ((z0.toNat : Nat) : Int)) = _; rw [Int.toNat_of_nonneg w0.1]
  · rw [h1]; show some (Value.int .u8 ((z1.toNat : Nat) : Int)) = _; rw [Int.toNat_of_nonneg w1.1]
  · rw [h2]; show some (Value.int .u32 ((z2.toNat : Nat) : Int)) = _; rw [Int.toNat_of_nonneg w2.1]
  · rw [h3]; show some (Value.int .u32 ((z3.toNat : Nat) : Int)) = _; rw [Int.toNat_of_nonneg w3.1]
  · rw [h4]; show some (Value.int .u32 ((z4.toNat : Nat) : Int)) = _; rw [Int.toNat_of_nonneg w4.1]
  · rw [h5]; show some (Value.int .u32 ((z5.toNat : Nat) : Int)) = _; rw [Int.toNat_of_nonneg w5.1]
  · rw [h6]; show some (Value.int .u32 ((z6.toNat : Nat) : Int)) = _; rw [Int.toNat_of_nonneg w6.1]
  · rw [h7]; show some (Value.int .u32 ((z7.toNat : Nat) : Int)) = _; rw [Int.toNat_of_nonneg w7.1]
  · rw [h8]; show some (Value.int .u32 ((z8.toNat : Nat) : Int)) = _; rw [Int.toNat_of_nonneg w8.1]
  · rw [h9]; show some (Value.int .u32 ((z9.toNat : Nat) : Int)) = _; rw [Int.toNat_of_nonneg w9.1]
  · rw [h10]; show some (Value.int .u64 ((z10.toNat : Nat) : Int)) = _; rw [Int.toNat_of_nonneg w10.1]
theorem exists_sms : ∀ (css : List (List Value)), (∀ l ∈ css, l.length = smKinds.length ∧ ∀ (i : Nat) (k : Go.IntKind), smKinds[i]? = some k → ∃ z : Int, l[i]? = some (Value.int k z) ∧ (Lit.int k z).wf = true) → ∃ l : List Sm, l.flatMap smL = css.flatMap id ∧ ∀ x ∈ l, x.Ok
  | [], _ => ⟨[], rfl, by simp⟩
  | c :: r, h => by
    obtain ⟨l, h1, h2⟩ := exists_sms r (fun y hy => h y (by simp [hy]))
    obtain ⟨x, h3, h4⟩ := exists_sm (h c (by simp)).1 (h c (by simp)).2
    refine ⟨x :: l, by rw [List.flatMap_cons, List.flatMap_cons, h1, h3]; rfl, fun y hy => ?_⟩
    rcases List.mem_cons.1 hy with rfl | hy
    · exact h4
    · exact h2 y hy
section
variable {H : Type} {enc : TypeId × Value → H} {W : World} {b0 : Nat} {v : Value} {d : DataW H} {p : List MemPlace}
theorem und_u16 : Tryd.prog.underlying 40 = some (.int .u16) := by kernel_rfl
set_option maxRecDepth 100000 in
theorem arg_u16 (hval : Value.okWide Tryd.prog W .any b0 40 v) (h : DataW.Trod enc Tryd.prog W 0 (fun _ => true) true 40 v d p) : ∃ m : Nat, v = .int .u16 (m : Int) ∧ m < 65536 := by
  obtain ⟨m, rfl, _, _, wf⟩ := open_int und_u16 hval h
  have := u16_wf wf
  exact ⟨m.toNat, by rw [Int.toNat_of_nonneg this.1], by omega⟩
set_option maxRecDepth 100000 in
theorem arg_smalls (hval : Value.okWide Tryd.prog W .any b0 39 v) (h : DataW.Trod enc Tryd.prog W 0 (fun _ => true) true 39 v d p) :
    ∃ (A : Option Addr) (n c : Nat) (l : List Sm), v = .slice A n c ∧ n ≤ c ∧ c ≤ maxLen ∧ (∀ x ∈ l, x.Ok) ∧ Rd W W.heap.size 11 A n (l.flatMap smL) := by
  obtain ⟨a0, len, cap, rfl⟩ := okWide_slice und_smalls hval
  obtain ⟨fuel, hf⟩ := h
  obtain ⟨A, n, c, css, hcs, h1, h2, _, h3, h4⟩ := slice_structs und_smalls sm_fields (by decide) hf
  simp only [Value.cells, List.cons.injEq, and_true, Value.slice.injEq] at hcs
  obtain ⟨rfl, rfl, rfl⟩ := hcs
  obtain ⟨l, h5, h6⟩ := exists_sms css h3
  exact ⟨_, _, _, l, rfl, h1, h2, h6, by rw [h5]; exact h4⟩
end
end Go.Proofs.YtpekelggcmgnnaaDoor

/- What the reading of an argument gives: a struct of numbers by value. -/
namespace Go.Proofs.YtpekelggcmgnnaaDoor
open Go.RowKit Go.ChangeShapes Go.WideShapes Go.ChangeAt
section
variable {H : Type} {enc : TypeId × Value → H} {P : Program} {w : World} {base : Nat} {spare : Nat → Bool} {held : Bool}
theorem trodAll_five {t0 t1 t2 t3 t4 : TypeId} {args : Array Value} {ds : List (DataW H)} {ps : List MemPlace} (h : DataW.TrodAll enc P w base spare held [t0, t1, t2, t3, t4] args.toList ds ps) :
    ∃ v0 v1 v2 v3 v4 d0 d1 d2 d3 d4 p0 p1 p2 p3 p4, args = #[v0, v1, v2, v3, v4] ∧ ds = [d0, d1, d2, d3, d4] ∧ ps = p0 ++ p1 ++ p2 ++ p3 ++ p4 ∧ DataW.Trod enc P w base spare held t0 v0 d0 p0 ∧ DataW.Trod enc P w base spare held t1 v1 d1 p1 ∧ DataW.Trod enc P w base spare held t2 v2 d2 p2 ∧ DataW.Trod enc P w base spare held t3 v3 d3 p3 ∧ DataW.Trod enc P w base spare held t4 v4 d4 p4 := by
  obtain ⟨v0, vs0, d0, ds0, p0, q0, ha, rfl, rfl, h0, hr0⟩ := trodAll_cons h
  obtain ⟨v1, vs1, d1, ds1, p1, q1, rfl, rfl, rfl, h1, hr1⟩ := trodAll_cons hr0
  obtain ⟨v2, vs2, d2, ds2, p2, q2, rfl, rfl, rfl, h2, hr2⟩ := trodAll_cons hr1
  obtain ⟨v3, vs3, d3, ds3, p3, q3, rfl, rfl, rfl, h3, hr3⟩ := trodAll_cons hr2
  obtain ⟨v4, vs4, d4, ds4, p4, q4, rfl, rfl, rfl, h4, hr4⟩ := trodAll_cons hr3
  obtain ⟨rfl, rfl, rfl⟩ := trodAll_nil hr4
  exact ⟨v0, v1, v2, v3, v4, d0, d1, d2, d3, d4, p0, p1, p2, p3, p4, by cases args; simp_all, rfl, by simp, h0, h1, h2, h3, h4⟩
end
section
variable {H : Type} {enc : TypeId × Value → H} {W : World} {b0 : Nat} {v : Value} {d : DataW H} {p : List MemPlace}
theorem und_of_fields {P : Program} {t : TypeId} {ks : List Go.IntKind} (hf : intFields P t ks = true) : ∃ fs, P.underlying t = some (.struct fs) := by
  unfold intFields at hf
  split at hf
  · rename_i fs hu; exact ⟨fs, hu⟩
  · cases hf
set_option maxRecDepth 100000 in
theorem arg_small (hval : Value.okWide Tryd.prog W .any b0 46 v) (h : DataW.Trod enc Tryd.prog W 0 (fun _ => true) true 46 v d p) : ∃ x : Sm, v = .agg x.cells ∧ x.Ok := by
  obtain ⟨fs, hu⟩ := und_of_fields sm_fields
  obtain ⟨cs, rfl, hs⟩ := okWide_struct hu hval
  obtain ⟨fuel, hf⟩ := h
  obtain ⟨h1, h2⟩ := struct_ints sm_fields hf
  obtain ⟨x, hx, ho⟩ := exists_sm h1 h2
  refine ⟨x, ?_, ho⟩
  have : x.cells.toList = cs.toList := hx
  rw [show x.cells = cs from Array.toList_inj.1 this]
set_option maxRecDepth 100000 in
theorem bytes_size {A : Option Addr} {n c : Nat} (h : DataW.Trod enc Tryd.prog W 0 (fun _ => true) true 25 (.slice A n c) d p) : c = 0 ∨ ∃ elems spare, d = .slice elems spare ∧ elems.length + spare.length = c := by
  obtain ⟨fuel, hf⟩ := h
  rcases open_ints und_bytes und_u8 cells_u8 hf with ⟨hcs, hx⟩ | ⟨a, len', cap', zs, hcs, _, hl, hm, hz, hx, hcell, hwz⟩
  · simp only [Value.cells, List.cons.injEq, and_true, Value.slice.injEq] at hcs
    exact .inl hcs.2.2
  · simp only [Value.cells, List.cons.injEq, and_true, Value.slice.injEq] at hcs
    obtain ⟨rfl, rfl, rfl⟩ := hcs
    simp only [if_true] at hz
    injection hx with hx _
    refine .inr ⟨_, _, hx, ?_⟩
    simp [lits]
    omega
end
end Go.Proofs.YtpekelggcmgnnaaDoor

/- What the reading of an argument gives: events. -/
namespace Go.Proofs.YtpekelggcmgnnaaDoor
open Go.RowKit Go.ChangeShapes Go.WideShapes Go.ChangeAt
def evKinds : List Go.IntKind := [.i64, .i64, .u8, .u8, .i64, .i64, .i64, .i64, .i64, .u64, .i64]
theorem exists_ev {cs : List Value} (hl : cs.length = evKinds.length) (h : ∀ (i : Nat) (k : Go.IntKind), evKinds[i]? = some k → ∃ z : Int, cs[i]? = some (Value.int k z) ∧ (Lit.int k z).wf = true) : ∃ x : Ev, evL x = cs ∧ x.Ok := by
  obtain ⟨z0, h0, w0⟩ := h 0 .i64 rfl
  have w0 := i64_wf w0
  obtain ⟨z1, h1, w1⟩ := h 1 .i64 rfl
  have w1 := i64_wf w1
  obtain ⟨z2, h2, w2⟩ := h 2 .u8 rfl
  have w2 := u8_wf w2
  obtain ⟨z3, h3, w3⟩ := h 3 .u8 rfl
  have w3 := u8_wf w3
  obtain ⟨z4, h4, w4⟩ := h 4 .i64 rfl
  have w4 := i64_wf w4
  obtain ⟨z5, h5, w5⟩ := h 5 .i64 rfl
  have w5 := i64_wf w5
  obtain ⟨z6, h6, w6⟩ := h 6 .i64 rfl
  have w6 := i64_wf w6
  obtain ⟨z7, h7, w7⟩ := h 7 .i64 rfl
  have w7 := i64_wf w7
  obtain ⟨z8, h8, w8⟩ := h 8 .i64 rfl
  have w8 := i64_wf w8
  obtain ⟨z9, h9, w9⟩ := h 9 .u64 rfl
  have w9 := u64_wf w9
  obtain ⟨z10, h10, w10⟩ := h 10 .i64 rfl
  have w10 := i64_wf w10
  refine ⟨⟨z0, z1, z2.toNat, z3.toNat, z4, z5, z6, z7, z8, z9.toNat, z10⟩, ?_, ⟨w0, w1, (by show z2.toNat < _; omega), (by show z3.toNat < _; omega), w4, w5, w6, w7, w8, (by show z9.toNat < _; omega), w10⟩⟩
  refine list_eq (by rw [hl]; rfl) fun i hi => ?_
  have hi' : i < 11 := by rw [hl] at hi; exact hi
  have hc : i = 0 ∨ i = 1 ∨ i = 2 ∨ i = 3 ∨ i = 4 ∨ i = 5 ∨ i = 6 ∨ i = 7 ∨ i = 8 ∨ i = 9 ∨ i = 10 := by omega
  rcases hc with rfl | rfl | rfl | rfl | rfl | rfl | rfl | rfl | rfl | rfl | rfl
  · rw [h0]; rfl
  · rw [h1]; rfl
  · rw [h2]; show some (Value.int .u8 ((z2.toNat : Nat) : Int)) = _; rw [Int.toNat_of_nonneg w2.1]
  · rw [h3]; show some (Value.int .u8 ((z3.toNat : Nat) : Int)) = _; rw [Int.toNat_of_nonneg w3.1]
  · rw [h4]; rfl
  · rw [h5]; rfl
  · rw [h6]; rfl
  · rw [h7]; rfl
  · rw [h8]; rfl
  · rw [h9]; show some (Value.int .u64 ((z9.toNat : Nat) : Int)) = _; rw [Int.toNat_of_nonneg w9.1]
  · rw [h10]; rfl
theorem ev_fields : intFields Tryd.prog 37 evKinds = true := by kernel_rfl
theorem exists_evs : ∀ (css : List (List Value)), (∀ l ∈ css, l.length = evKinds.length ∧ ∀ (i : Nat) (k : Go.IntKind), evKinds[i]? = some k → ∃ z : Int, l[i]? = some (Value.int k z) ∧ (Lit.int k z).wf = true) → ∃ l : List Ev, l.flatMap evL = css.flatMap id ∧ ∀ x ∈ l, x.Ok
  | [], _ => ⟨[], rfl, by simp⟩
  | c :: r, h => by
    obtain ⟨l, h1, h2⟩ := exists_evs r (fun y hy => h y (by simp [hy]))
    obtain ⟨x, h3, h4⟩ := exists_ev (h c (by simp)).1 (h c (by simp)).2
    refine ⟨x :: l, by rw [List.flatMap_cons, List.flatMap_cons, h1, h3]; rfl, fun y hy => ?_⟩
    rcases List.mem_cons.1 hy with rfl | hy
    · exact h4
    · exact h2 y hy
section
variable {H : Type} {enc : TypeId × Value → H} {W : World} {b0 : Nat} {v : Value} {d : DataW H} {p : List MemPlace}
set_option maxRecDepth 100000 in
theorem arg_event (hval : Value.okWide Tryd.prog W .any b0 37 v) (h : DataW.Trod enc Tryd.prog W 0 (fun _ => true) true 37 v d p) : ∃ x : Ev, v = .agg x.cells ∧ x.Ok := by
  obtain ⟨fs, hu⟩ := und_of_fields ev_fields
  obtain ⟨cs, rfl, hs⟩ := okWide_struct hu hval
  obtain ⟨fuel, hf⟩ := h
  obtain ⟨h1, h2⟩ := struct_ints ev_fields hf
  obtain ⟨x, hx, ho⟩ := exists_ev h1 h2
  refine ⟨x, ?_, ho⟩
  have : x.cells.toList = cs.toList := hx
  rw [show x.cells = cs from Array.toList_inj.1 this]
end
end Go.Proofs.YtpekelggcmgnnaaDoor

/- What the reading of an argument gives: quantumlaw07.Rows. -/
namespace Go.Proofs.YtpekelggcmgnnaaDoor
open Go.RowKit Go.ChangeShapes Go.WideShapes Go.ChangeAt

/-- Field i of a struct lies at off and is of such a type. -/
def fieldAt (P : Program) (t : TypeId) (i off : Nat) (u : TypeId) : Bool := match P.underlying t with
  | some (.struct fs) => match fs[i]? with
    | some f => decide (f.offset = off) && decide (f.type = u)
    | none => false
  | _ => false
section
variable {H : Type} {enc : TypeId × Value → H} {P : Program} {W : World} {b0 : Nat} {sp : Nat → Bool} {held : Bool}
theorem struct_field {t u : TypeId} {i off : Nat} (hf : fieldAt P t i off u = true) {fuel : Nat} {cs : List Value} {x : DataW H × List MemPlace} (h : DataW.trod enc P W b0 sp held fuel t cs = some x) :
    cs.length = P.cellsOf t ∧ ∃ n y, DataW.trod enc P W b0 sp held n u ((cs.drop off).take (P.cellsOf u)) = some y := by
  unfold fieldAt at hf
  split at hf
  · rename_i fs hu
    split at hf
    · rename_i f hfi
      simp only [Bool.and_eq_true, decide_eq_true_eq] at hf
      obtain ⟨xs, n, _, _, hl, hx, he⟩ := DataW.trod_struct hu h
      refine ⟨hl, n, ?_⟩
      have h5 := he i f hfi
      have hi : i < fs.size := (Array.getElem?_eq_some_iff.1 hfi).1
      rw [List.getElem?_eq_getElem (by omega), hf.1, hf.2] at h5
      exact ⟨_, h5⟩
    · cases hf
  · cases hf
end
section
variable {H : Type} {enc : TypeId × Value → H} {W : World} {b0 : Nat} {v : Value} {d : DataW H} {p : List MemPlace}
def bsKinds : List Go.IntKind := [.i64, .i64]
theorem bs_fields : intFields Tryd.prog 23 bsKinds = true := by kernel_rfl
theorem und_events : Tryd.prog.underlying 24 = some (.slice 37) := by kernel_rfl
set_option maxRecDepth 100000 in
theorem trod_bytes {fuel : Nat} {cs : List Value} {x : DataW H × List MemPlace} (hf : DataW.trod enc Tryd.prog W 0 (fun _ => true) true fuel 25 cs = some x) :
    ∃ (A : Option Addr) (n c : Nat) (l : List Nat), cs = [.slice A n c] ∧ n ≤ c ∧ c ≤ maxLen ∧ (∀ b ∈ l, b < 256) ∧ Rd W W.heap.size 1 A n (l.map B8) := by
  rcases open_ints und_bytes und_u8 cells_u8 hf with ⟨hcs, hx⟩ | ⟨a, len', cap', zs, hcs, _, hl, hm, hz, hx, hcell, hwz⟩
  · exact ⟨none, 0, 0, [], hcs, Nat.le_refl _, by unfold maxLen; omega, by simp, Rd.nil⟩
  · simp only [if_true] at hz
    have hat : ∀ i z, zs[i]? = some z → W.cell? (a.add i) = some (.int .u8 z) ∧ 0 ≤ z ∧ z ≤ 255 := by
      intro i z hi
      obtain ⟨hlt, e⟩ := List.getElem?_eq_some_iff.1 hi
      refine ⟨by rw [hcell i hlt, List.getD_eq_getElem?_getD, hi]; rfl, u8_wf (hwz z (List.mem_of_getElem? hi))⟩
    refine ⟨some a, len', cap', (zs.take len').map Int.toNat, hcs, hl, hm, ?_, by simp; omega, fun hn => ⟨a, rfl, ?_, ?_⟩⟩
    · intro b hb
      obtain ⟨z, hz', rfl⟩ := List.mem_map.1 hb
      have := u8_wf (hwz z (List.mem_of_mem_take hz'))
      omega
    · have h0 : 0 < zs.length := by omega
      have := (hat 0 zs[0] (by simp [h0])).1
      have := World.block_lt_of_cell? W _ this
      simpa [Addr.add] using this
    · intro j u hu
      rw [List.map_map, List.getElem?_map] at hu
      cases hz' : (zs.take len')[j]? with
      | none => simp [hz'] at hu
      | some z =>
        rw [hz'] at hu
        simp only [Option.map_some, Option.some.injEq] at hu
        have hz'' : zs[j]? = some z := by
          rw [List.getElem?_take] at hz'
          split at hz'
          · exact hz'
          · cases hz'
        have h3 := hat j z hz''
        rw [h3.1, ← hu]
        simp [B8, Int.toNat_of_nonneg h3.2.1]
set_option maxRecDepth 100000 in
theorem trod_events {fuel : Nat} {cs : List Value} {x : DataW H × List MemPlace} (hf : DataW.trod enc Tryd.prog W 0 (fun _ => true) true fuel 24 cs = some x) :
    ∃ (A : Option Addr) (n c : Nat) (l : List Ev), cs = [.slice A n c] ∧ n ≤ c ∧ c ≤ maxLen ∧ (∀ x ∈ l, x.Ok) ∧ Rd W W.heap.size 11 A n (l.flatMap evL) := by
  obtain ⟨A, n, c, css, hcs, h1, h2, _, h3, h4⟩ := slice_structs und_events ev_fields (by decide) hf
  obtain ⟨l, h5, h6⟩ := exists_evs css h3
  exact ⟨A, n, c, l, hcs, h1, h2, h6, by rw [h5]; exact h4⟩
def rowsCells (b : Bs) (A : Option Addr) (n c cpu : Nat) (m : Int) (A2 : Option Addr) (n2 c2 : Nat) : Array Value := #[.int .i64 b.seq, .int .i64 b.time, .slice A n c, .int .u8 (cpu : Int), .int .i64 m, .slice A2 n2 c2]
theorem one_of_take {cs : List Value} {off : Nat} {u : Value} (h : (cs.drop off).take 1 = [u]) : cs[off]? = some u := by
  have := congrArg (·[0]?) h
  simpa [List.getElem?_take, List.getElem?_drop] using this
theorem rows_f0 : fieldAt Tryd.prog 27 0 0 23 = true := by kernel_rfl
theorem rows_f1 : fieldAt Tryd.prog 27 1 2 24 = true := by kernel_rfl
theorem rows_f2 : fieldAt Tryd.prog 27 2 3 5 = true := by kernel_rfl
theorem rows_f3 : fieldAt Tryd.prog 27 3 4 3 = true := by kernel_rfl
theorem rows_f4 : fieldAt Tryd.prog 27 4 5 25 = true := by kernel_rfl
theorem rows_cells : Tryd.prog.cellsOf 27 = 6 := by kernel_rfl
theorem cells_evs : Tryd.prog.cellsOf 24 = 1 := by kernel_rfl
theorem cells_bytes : Tryd.prog.cellsOf 25 = 1 := by kernel_rfl
theorem cells_int : Tryd.prog.cellsOf 3 = 1 := by kernel_rfl
def isStructT (P : Program) (t : TypeId) : Bool := match P.underlying t with | some (.struct _) => true | _ => false
theorem of_isStructT {P : Program} {t : TypeId} (h : isStructT P t = true) : ∃ fs, P.underlying t = some (.struct fs) := by
  unfold isStructT at h
  split at h
  · rename_i fs hu; exact ⟨fs, hu⟩
  · cases h
set_option maxRecDepth 100000 in
theorem arg_rows (hval : Value.okWide Tryd.prog W .any b0 27 v) (h : DataW.Trod enc Tryd.prog W 0 (fun _ => true) true 27 v d p) :
    ∃ (b : Bs) (A : Option Addr) (n c cpu : Nat) (m : Int) (A2 : Option Addr) (n2 c2 : Nat) (es : List Ev) (l : List Nat), v = .agg (rowsCells b A n c cpu m A2 n2 c2) ∧ b.Ok ∧ cpu < 256 ∧ I64 m ∧ n ≤ c ∧ (∀ x ∈ es, x.Ok) ∧ Rd W W.heap.size 11 A n (es.flatMap evL) ∧ n2 ≤ c2 ∧ (∀ b ∈ l, b < 256) ∧ Rd W W.heap.size 1 A2 n2 (l.map B8) := by
  obtain ⟨fs, hu⟩ := of_isStructT (show isStructT Tryd.prog 27 = true by kernel_rfl)
  obtain ⟨cs, rfl, hs⟩ := okWide_struct hu hval
  obtain ⟨fuel, hf⟩ := h
  have hf : DataW.trod enc Tryd.prog W 0 (fun _ => true) true fuel 27 cs.toList = some (d, p) := hf
  obtain ⟨hl, _, y0, g0⟩ := struct_field rows_f0 hf
  obtain ⟨_, _, y1, g1⟩ := struct_field rows_f1 hf
  obtain ⟨_, _, y2, g2⟩ := struct_field rows_f2 hf
  obtain ⟨_, _, y3, g3⟩ := struct_field rows_f3 hf
  obtain ⟨_, _, y4, g4⟩ := struct_field rows_f4 hf
  have hl6 : cs.toList.length = 6 := by rw [← rows_cells]; exact hl
  obtain ⟨_, h0⟩ := struct_ints bs_fields g0
  obtain ⟨s, hs0, ws⟩ := h0 0 .i64 rfl
  obtain ⟨t, ht0, wt⟩ := h0 1 .i64 rfl
  obtain ⟨A, n, c, es, e1, k1, _, k2, k3⟩ := trod_events g1
  obtain ⟨cpu, e2, _, w2⟩ := DataW.trod_int und_u8 g2
  obtain ⟨m, e3, _, w3⟩ := DataW.trod_int und_int g3
  obtain ⟨A2, n2, c2, l, e4, k4, _, k5, k6⟩ := trod_bytes g4
  rw [cells_evs] at e1
  rw [cells_u8] at e2
  rw [cells_int] at e3
  rw [cells_bytes] at e4
  have a1 := one_of_take e1
  have a2 := one_of_take e2
  have a3 := one_of_take e3
  have a4 := one_of_take e4
  rw [cells_base, List.drop_zero, List.getElem?_take] at hs0 ht0
  simp only [Nat.reduceLT, if_true] at hs0 ht0
  have u2 := u8_wf w2
  refine ⟨⟨s, t⟩, A, n, c, cpu.toNat, m, A2, n2, c2, es, l, ?_, ⟨i64_wf ws, i64_wf wt⟩, by omega, i64_wf w3, k1, k2, k3, k4, k5, k6⟩
  congr 1
  apply Array.toList_inj.1
  refine list_eq (by rw [hl6]; rfl) fun i hi => ?_
  have hi' : i < 6 := hi
  have hc : i = 0 ∨ i = 1 ∨ i = 2 ∨ i = 3 ∨ i = 4 ∨ i = 5 := by omega
  rcases hc with rfl | rfl | rfl | rfl | rfl | rfl
  · rw [hs0]; rfl
  · rw [ht0]; rfl
  · rw [a1]; rfl
  · rw [a2]; show some (Value.int .u8 cpu) = some (Value.int .u8 ((cpu.toNat : Nat) : Int)); rw [Int.toNat_of_nonneg u2.1]
  · rw [a3]; rfl
  · rw [a4]; rfl
end
end Go.Proofs.YtpekelggcmgnnaaDoor

/- Generic: a frame known by its slots, memory known by facts on separate blocks; one law for each operation. No program is in sight. -/
namespace Go.Proofs.YtpekelggcmgnnaaDoor
open Go.RowKit

/-! The frame. -/
def look (σ : List (Nat × Value)) : Operand → Option Value
  | .tmp t => σ.lookup t
  | .const v => some v
  | .global g => some (.pointer (some ⟨g, 0, none⟩))
  | .func f => some (.func (.func f) #[] #[])
/-- What is known of a frame of n slots: its deferred calls, and what the slots of σ hold (an earlier entry hides a later one). -/
structure Fr (a : Act) (n : Nat) (D : List Deferred) (σ : List (Nat × Value)) : Prop where
  size : a.tmps.size = n
  defers : a.defers = D
  slot : ∀ t v, σ.lookup t = some v → a.tmps.getD t undef = v

section
variable {a : Act} {n : Nat} {D : List Deferred} {σ σ' : List (Nat × Value)}
theorem Fr.eval (h : Fr a n D σ) {x : Operand} {v : Value} (hx : look σ x = some v) : a.eval x = v := by
  cases x with
  | tmp t => exact h.slot t v hx
  | const u => injection hx
  | global g => injection hx
  | func f => injection hx
theorem Fr.put (h : Fr a n D σ) {d : Nat} (hd : d < n) (v : Value) : Fr (a.put (some d) v) n D ((d, v) :: σ) := by
  refine ⟨by simpa [Act.put] using h.size, h.defers, fun t u hu => ?_⟩
  have hs := h.size
  by_cases e : t = d
  · subst e
    simp only [List.lookup_cons, beq_self_eq_true, Option.some.injEq] at hu
    subst hu
    simp [Act.put, hs, hd]
  · have hb : (t == d) = false := by simpa using e
    simp only [List.lookup_cons, hb] at hu
    have h2 := h.slot t u hu
    simp only [Act.put, Array.getD_eq_getD_getElem?, Array.getElem?_setIfInBounds_ne (Ne.symm e)]
    simpa using h2
/-- A part of what is known: the slots named, with their values. -/
theorem Fr.sub (h : Fr a n D σ) (hs : σ'.map (fun p => σ.lookup p.1) = σ'.map (fun p => some p.2)) : Fr a n D σ' := by
  refine ⟨h.size, h.defers, fun t v hv => h.slot t v ?_⟩
  induction σ' with
  | nil => cases hv
  | cons p r ih =>
    simp only [List.map_cons, List.cons.injEq] at hs
    obtain ⟨k, u⟩ := p
    simp only [List.lookup_cons] at hv
    split at hv
    · rename_i hk
      rw [beq_iff_eq] at hk
      subst hk
      rw [hs.1, ← hv]
    · exact ih hs.2 hv
end

/-- Is the operation carried out? -/
def wantB (ops : Array Oper) (σ : List (Nat × Value)) (o : Oper) : Option Bool :=
  match o.guard with
  | none => some true
  | some (j, b) => match (ops[j]?).bind (·.dst) with
    | none => none
    | some t => match σ.lookup t with
      | some (.bool c) => some (c == b)
      | some (.tuple _) => some false
      | _ => none
theorem undef_tuple : undef = .tuple #[] := rfl
theorem wanted_of {a : Act} {n : Nat} {D : List Deferred} {σ : List (Nat × Value)} {ops : Array Oper} {o : Oper} {c : Bool} (h : Fr a n D σ) (hw : wantB ops σ o = some c) : Region.wanted o (yielded ops a.tmps) = c := by
  unfold wantB at hw
  unfold Region.wanted
  cases hg : o.guard with
  | none => rw [hg] at hw; simpa using hw
  | some jb =>
    obtain ⟨j, b⟩ := jb
    rw [hg] at hw
    simp only at hw ⊢
    cases ht : (ops[j]?).bind (·.dst) with
    | none => rw [ht] at hw; cases hw
    | some t =>
      rw [ht] at hw
      simp only at hw
      unfold yielded
      rw [ht]
      simp only [Option.bind_some]
      cases hl : σ.lookup t with
      | none => rw [hl] at hw; cases hw
      | some v =>
        rw [hl] at hw
        have hs := h.slot t v hl
        rw [Array.getD_eq_getD_getElem?] at hs
        cases hx : a.tmps[t]? with
        | none =>
          rw [hx] at hs
          simp only [Option.getD_none] at hs
          subst hs
          rw [undef_tuple] at hw
          simp only [Option.some.injEq] at hw
          subst hw
          rfl
        | some u =>
          rw [hx] at hs
          simp only [Option.getD_some] at hs
          subst hs
          cases u <;> simp only [Option.some.injEq, reduceCtorEq] at hw
          · subst hw; rfl
          · subst hw; rfl

/-! Operations that only compute. -/
def intBin (op : BinOp) (k : IntKind) (a b : Int) : Option Value :=
  match op with
  | .add => some (.int k (k.wrap (a + b)))
  | .sub => some (.int k (k.wrap (a - b)))
  | .mul => some (.int k (k.wrap (a * b)))
  | .quo => if b = 0 then none else some (.int k (k.wrap (a.tdiv b)))
  | .rem => if b = 0 then none else some (.int k (a.tmod b))
  | .and => some (.int k (k.wrap (BitVec.ofInt k.bits a &&& BitVec.ofInt k.bits b).toNat))
  | .or => some (.int k (k.wrap (BitVec.ofInt k.bits a ||| BitVec.ofInt k.bits b).toNat))
  | .xor => some (.int k (k.wrap (BitVec.ofInt k.bits a ^^^ BitVec.ofInt k.bits b).toNat))
  | .eql => some (.bool (a == b))
  | .neq => some (.bool (a != b))
  | .lss => some (.bool (a < b))
  | .leq => some (.bool (a ≤ b))
  | .gtr => some (.bool (a > b))
  | .geq => some (.bool (a ≥ b))
  | _ => none
def binVal (op : BinOp) : Value → Value → Option Value
  | .int k a, .int k' b => match op with
    | .shl => if b < 0 then none else some (.int k (k.wrap (a * 2 ^ (min b.toNat k.bits))))
    | .shr => if b < 0 then none else some (.int k (a.fdiv (2 ^ (min b.toNat k.bits))))
    | _ => if k = k' then intBin op k a b else none
  | .string a, .string b => match op with
    | .eql => some (.bool (a.toList == b.toList))
    | .neq => some (.bool !(a.toList == b.toList))
    | _ => none
  | _, _ => none
theorem binVal_run {P : Program} {op : BinOp} {x y v : Value} (h : binVal op x y = some v) (t : TypeId) (w : World) : (binOp op t x y).run P w = .ok v w := by
  unfold binVal at h
  split at h
  · split at h
    · split at h
      · cases h
      · rename_i hb; injection h with h; subst h; simp [binOp, Op.shift, hb]
    · split at h
      · cases h
      · rename_i hb; injection h with h; subst h; simp [binOp, Op.shift, hb]
    · split at h
      · rename_i hk
        subst hk
        unfold intBin at h
        split at h <;> first
          | (injection h with h; subst h; simp [binOp, Op.intArith, Op.intBits, Op.intCmp]; done)
          | (split at h
             · cases h
             · rename_i hb; injection h with h; subst h; simp [binOp, Op.intDiv, hb])
          | cases h
      · cases h
  · split at h
    · injection h with h; subst h; simp [binOp, Op.stringOp]
    · injection h with h; subst h; simp [binOp, Op.stringOp]
    · cases h
  · cases h
def notAgg : Value → Bool
  | .agg _ => false
  | .nilIface => false
  | _ => true
theorem eqGuard_run {P : Program} (op : BinOp) (t : TypeId) (x y : Operand) {a b : Value} (ha : notAgg a = true) (w : World) : (eqGuard op t x y a b).run P w = .ok () w := by
  unfold eqGuard
  cases a <;> first | exact absurd ha (by decide) | (split <;> simp; done) | exact absurd ha (by simp [notAgg])
def fieldOff (P : Program) (s f : Nat) : Option Nat :=
  match P.underlying s with
  | some (.struct fs) => match fs[f]? with
    | some fl => match P.info? fl.type with
      | some i => if i.size = 0 then none else some fl.offset
      | none => none
    | none => none
  | _ => none
theorem fieldOff_run {P : Program} {s f off : Nat} (h : fieldOff P s f = some off) (a : Addr) (w : World) : (Instr.fieldAt s (.pointer (some a)) f).run P w = .ok (.pointer (some (a.add off))) w := by
  unfold fieldOff at h
  split at h
  · rename_i fs hu
    split at h
    · rename_i fl hf
      split at h
      · rename_i i hi
        split at h
        · cases h
        · rename_i hz
          injection h with h; subst h
          simp [Instr.fieldAt, run_underlying hu, hf, Instr.sureAddr, fieldPlace, sizeOf, typeInfo, hi, hz]
      · cases h
    · cases h
  · cases h
/-- The value of an operation that only computes. -/
def pureVal (P : Program) (σ : List (Nat × Value)) : Op → Option Value
  | .move x => look σ x
  | .assign x => look σ x
  | .pick c a b => match look σ c with
    | some (.bool true) => look σ a
    | some (.bool false) => look σ b
    | _ => none
  | .extract t i => match look σ t with
    | some (.tuple vs) => vs[i]?
    | _ => none
  | .unOp .not _ x => match look σ x with
    | some (.bool b) => some (.bool !b)
    | _ => none
  | .binOp op _ x y _ => match look σ x, look σ y with
    | some a, some b => if notAgg a then binVal op a b else none
    | _, _ => none
  | .convert src dst x => match P.underlying src, P.underlying dst, look σ x with
    | some _, some (.int k), some (.int _ m) => some (.int k (k.wrap m))
    | _, _, _ => none
  | .fieldAddr s x f => match look σ x, fieldOff P s f with
    | some (.pointer (some a)), some off => some (.pointer (some (a.add off)))
    | _, _ => none
  | _ => none
theorem pureVal_run {P : Program} {a : Act} {n : Nat} {D : List Deferred} {σ : List (Nat × Value)} (h : Fr a n D σ) {o : Oper} {v : Value} (hv : pureVal P σ o.op = some v) (w : World) : (execOp a.eval o).run P w = .ok (.value v) w := by
  unfold execOp
  unfold pureVal at hv
  split at hv
  · rename_i x hop; simp only [hop, h.eval hv]; rfl
  · rename_i x hop; simp only [hop, h.eval hv]; rfl
  · rename_i c x y hop
    split at hv
    · rename_i hc; simp only [hop, h.eval hc, h.eval hv]; rfl
    · rename_i hc; simp only [hop, h.eval hc, h.eval hv]; rfl
    · cases hv
  · rename_i t i hop
    split at hv
    · rename_i vs ht; simp only [hop, h.eval ht, Instr.extract, hv]; rfl
    · cases hv
  · rename_i t x hop
    split at hv
    · rename_i b hx; injection hv with hv; subst hv; simp only [hop, h.eval hx, Op.unary]; rfl
    · cases hv
  · rename_i op t x y u hop
    split at hv
    · rename_i p q hx hy
      split at hv
      · rename_i hn
        simp [hop, h.eval hx, h.eval hy, eqGuard_run op t x y hn, binVal_run hv t]
      · cases hv
    · cases hv
  · rename_i src dst x hop
    split at hv
    · rename_i ds k k' m hs hu hx
      injection hv with hv; subst hv
      simp [hop, h.eval hx, convert, run_underlying hs, run_underlying hu, Conv.intToInt]
    · cases hv
  · rename_i s x f hop
    split at hv
    · rename_i ad off hx hf
      injection hv with hv; subst hv
      simp [hop, h.eval hx, fieldOff_run hf]
    · cases hv
  · cases hv
end Go.Proofs.YtpekelggcmgnnaaDoor

/- Generic: memory known by facts on separate blocks; laws for the operations that touch memory, in a region of one order and in one that draws its order. No program is in sight. -/
namespace Go.Proofs.YtpekelggcmgnnaaDoor
open Go.RowKit

/-- A block known whole, or a row of the call's own. -/
inductive Fact
  | blk (g : Nat) (cs : Array Value) (t : TypeId)
  | row (v : Value) (n : Nat) (xs : List Value) (e : TypeId) (size : Nat)
def Fact.block : Fact → Option Nat
  | .blk g _ _ => some g
  | .row v _ _ _ _ => v.ownBlock
def Fact.holds (base : Nat) (w : World) : Fact → Prop
  | .blk g cs t => base ≤ g ∧ w.heap[g]? = some (.cells cs t (0, 0))
  | .row v n xs e size => w.ownsRow base e size v n xs
def Fact.apart (f g : Fact) : Prop := ∀ x, f.block = some x → g.block ≠ some x
/-- Since W nothing that lay has turned; the facts fs hold, on separate blocks. -/
structure Mem (W w : World) (fs : List Fact) : Prop where
  below : Below W.heap.size W w
  holds : ∀ f ∈ fs, f.holds W.heap.size w
  apart : fs.Pairwise Fact.apart

theorem Fact.apart.symm {f g : Fact} (h : f.apart g) : g.apart f := fun x hx hf => h x hf hx
theorem own_block {w : World} {base : Nat} {e : TypeId} {size : Nat} {v : Value} {n : Nat} {xs : List Value} (h : w.ownsRow base e size v n xs) {g : Nat} (hg : v.ownBlock = some g) : base ≤ g ∧ g < w.heap.size := by
  rcases h.2 with ⟨rfl, _⟩ | ⟨g', cap, cur, rfl, hb, hg', _⟩
  · cases hg
  · cases hg; exact ⟨hb, blk_lt hg'⟩
theorem Fact.holds.lt {base : Nat} {w : World} {f : Fact} (h : f.holds base w) {g : Nat} (hg : f.block = some g) : base ≤ g ∧ g < w.heap.size := by
  cases f with
  | blk g' cs t => injection hg with hg; subst hg; exact ⟨h.1, blk_lt h.2⟩
  | row v n xs e size => exact own_block h hg
/-- A fact holds as long as its block lies as it lay. -/
theorem Fact.holds.keep {base : Nat} {w w' : World} {f : Fact} (h : f.holds base w) (hk : ∀ g, f.block = some g → w'.heap[g]? = w.heap[g]?) : f.holds base w' := by
  cases f with
  | blk g cs t => exact ⟨h.1, (hk g rfl).trans h.2⟩
  | row v n xs e size =>
    refine ⟨h.1, ?_⟩
    rcases h.2 with h1 | ⟨g, cap, cur, rfl, hb, hg, r⟩
    · exact .inl h1
    · exact .inr ⟨g, cap, cur, rfl, hb, (hk g rfl).trans hg, r⟩

section
variable {W w w' : World} {fs fs' : List Fact}
theorem Mem.start (W : World) : Mem W W [] := ⟨Below.refl _ _, by simp, .nil⟩
theorem Mem.size (h : Mem W w fs) : W.heap.size ≤ w.heap.size := h.below.size
theorem Mem.call (h : Mem W w fs) (hb : Below w.heap.size w w') : Mem W w' fs :=
  ⟨h.below.trans (hb.mono h.size), fun f hf => (h.holds f hf).keep fun g hg => hb.block g ((h.holds f hf).lt hg).2, h.apart⟩
theorem Mem.drew (h : Mem W w fs) : Mem W w.drew fs := h.call (Below.refl _ _).drew
theorem Mem.cons (h : Mem W w fs) {f : Fact} (hf : f.holds W.heap.size w) (hn : ∀ g, f.block = some g → ∀ k ∈ fs, k.block ≠ some g) : Mem W w (f :: fs) :=
  ⟨h.below, fun k hk => by
    rcases List.mem_cons.1 hk with rfl | hk
    · exact hf
    · exact h.holds k hk, List.pairwise_cons.2 ⟨fun k hk g hg => hn g hg k hk, h.apart⟩⟩
theorem Mem.nil (h : Mem W w fs) (e : TypeId) (size : Nat) : Mem W w (.row (.slice none 0 0) 0 [] e size :: fs) :=
  h.cons (World.ownsRow_nil _ _ _ _) (fun g hg => by cases hg)
/-- A callee hands over a row of its own. -/
theorem Mem.callRow (h : Mem W w fs) (hb : Below w.heap.size w w') {e : TypeId} {size n : Nat} {v : Value} {xs : List Value} (hr : w'.ownsRow w.heap.size e size v n xs) : Mem W w' (.row v n xs e size :: fs) :=
  (h.call hb).cons (own_base hr h.size) (fun g hg k hk hkg => by
    have h1 := (own_block hr hg).1
    have h2 := ((h.holds k hk).lt hkg).2
    omega)
theorem Mem.alloc (h : Mem W w fs) (cs : Array Value) (t : TypeId) : Mem W (w.alloc (.cells cs t)) (.blk w.heap.size cs t :: fs) :=
  (h.call ((Below.refl _ _).alloc (Nat.le_refl _) _)).cons ⟨h.size, World.alloc_heap_new w _⟩ (fun g hg k hk hkg => by
    injection hg with hg
    have h2 := ((h.holds k hk).lt hkg).2
    omega)
def picks (fs : List Fact) (is : List Nat) : List Fact := is.filterMap (fs[·]?)
theorem pairwise_picks (h : fs.Pairwise Fact.apart) : ∀ {is : List Nat}, is.Nodup → (picks fs is).Pairwise Fact.apart
  | [], _ => .nil
  | i :: is, hn => by
    rw [List.nodup_cons] at hn
    unfold picks
    rw [List.filterMap_cons]
    cases hi : fs[i]? with
    | none => exact pairwise_picks h hn.2
    | some f =>
      refine List.pairwise_cons.2 ⟨fun k hk => ?_, pairwise_picks h hn.2⟩
      obtain ⟨j, hj, hjk⟩ := List.mem_filterMap.1 hk
      have hij : i ≠ j := fun e => hn.1 (e ▸ hj)
      obtain ⟨hil, hif⟩ := List.getElem?_eq_some_iff.1 hi
      obtain ⟨hjl, hjf⟩ := List.getElem?_eq_some_iff.1 hjk
      rcases Nat.lt_or_gt_of_ne hij with h1 | h1
      · have := List.pairwise_iff_getElem.1 h i j hil hjl h1
        rwa [hif, hjf] at this
      · have := List.pairwise_iff_getElem.1 h j i hjl hil h1
        rw [hif, hjf] at this
        exact this.symm
theorem Mem.picks (h : Mem W w fs) (is : List Nat) (hn : is.Nodup) (he : picks fs is = fs') : Mem W w fs' := by
  subst he
  refine ⟨h.below, fun f hf => ?_, pairwise_picks h.apart hn⟩
  obtain ⟨j, _, hj⟩ := List.mem_filterMap.1 hf
  exact h.holds f (List.mem_of_getElem? hj)
theorem Mem.tail {f : Fact} (h : Mem W w (f :: fs)) : Mem W w fs := ⟨h.below, fun k hk => h.holds k (List.mem_cons_of_mem _ hk), (List.pairwise_cons.1 h.apart).2⟩
/-- One fact gives way to another on the same block or a new one; all other blocks lie as they lay. -/
theorem Mem.turn (h : Mem W w fs) {i : Nat} {f f' : Fact} (hi : fs[i]? = some f) (hb : Below W.heap.size W w') (hk : ∀ g, g < w.heap.size → f.block ≠ some g → w'.heap[g]? = w.heap[g]?)
    (hf : f'.holds W.heap.size w') (hn : ∀ g, f'.block = some g → f.block = some g ∨ w.heap.size ≤ g) : Mem W w' (fs.set i f') := by
  obtain ⟨hil, hif⟩ := List.getElem?_eq_some_iff.1 hi
  have hother : ∀ j (hj : j < fs.length), j ≠ i → Fact.apart fs[j] f ∧ Fact.apart f fs[j] := fun j hj hji => by
    rcases Nat.lt_or_gt_of_ne hji with h1 | h1
    · have := List.pairwise_iff_getElem.1 h.apart j i hj hil h1
      rw [hif] at this
      exact ⟨this, this.symm⟩
    · have := List.pairwise_iff_getElem.1 h.apart i j hil hj h1
      rw [hif] at this
      exact ⟨this.symm, this⟩
  have hnew : ∀ j (hj : j < fs.length), j ≠ i → Fact.apart f' fs[j] := fun j hj hji g hg hg' => by
    rcases hn g hg with h1 | h1
    · exact (hother j hj hji).2 g h1 hg'
    · have := ((h.holds _ (List.getElem_mem hj)).lt hg').2
      omega
  refine ⟨hb, fun k hkm => ?_, ?_⟩
  · obtain ⟨j, hj, hjk⟩ := List.getElem_of_mem hkm
    rw [List.getElem_set] at hjk
    rw [List.length_set] at hj
    split at hjk
    · subst hjk; exact hf
    · rename_i hne
      subst hjk
      have hh := h.holds _ (List.getElem_mem hj)
      exact hh.keep fun g hg => hk g (hh.lt hg).2 (fun e => (hother j hj (Ne.symm hne)).1 g hg e)
  · rw [List.pairwise_iff_getElem]
    intro p q hp hq hpq
    rw [List.length_set] at hp hq
    rw [List.getElem_set, List.getElem_set]
    split
    · rename_i e
      subst e
      rw [if_neg (by omega)]
      exact hnew q hq (by omega)
    · split
      · rename_i e
        subst e
        exact (hnew p hp (by omega)).symm
      · exact List.pairwise_iff_getElem.1 h.apart p q hp hq hpq
/-- What a cell of a block known holds. -/
theorem Mem.blk (h : Mem W w fs) {i g : Nat} {cs : Array Value} {t : TypeId} (hi : fs[i]? = some (.blk g cs t)) : w.heap[g]? = some (.cells cs t (0, 0)) := (h.holds _ (List.mem_of_getElem? hi)).2
theorem Mem.cell (h : Mem W w fs) {i g o : Nat} {cs : Array Value} {t : TypeId} {v : Value} (hi : fs[i]? = some (.blk g cs t)) (hc : cs[o]? = some v) : w.cell? ⟨g, o, none⟩ = some v := by
  simp [World.cell?, h.blk hi, hc]
theorem Mem.own (h : Mem W w fs) {i : Nat} {v : Value} {n : Nat} {xs : List Value} {e : TypeId} {size : Nat} (hi : fs[i]? = some (.row v n xs e size)) : w.ownsRow W.heap.size e size v n xs := h.holds _ (List.mem_of_getElem? hi)
theorem Mem.rd (h : Mem W w fs) {i : Nat} {A : Option Addr} {n c : Nat} {xs : List Value} {e : TypeId} {size : Nat} (hi : fs[i]? = some (.row (.slice A n c) n xs e size)) : Rd w w.heap.size size A n xs := Rd.of_own (h.own hi) rfl
theorem Mem.old (h : Mem W w fs) {size : Nat} {A : Option Addr} {n : Nat} {xs : List Value} (hr : Rd W W.heap.size size A n xs) : Rd w w.heap.size size A n xs := (hr.below h.below).more h.size
/-- A block read as a slice. -/
theorem Rd.of_blk {w : World} {g : Nat} {cs : Array Value} {t : TypeId} (hb : w.heap[g]? = some (.cells cs t (0, 0))) {size n : Nat} (hn : cs.size = n * size) : Rd w w.heap.size size (some ⟨g, 0, none⟩) n cs.toList :=
  ⟨by simpa using hn, fun _ => ⟨_, rfl, blk_lt hb, fun j u hu => by
    rw [Addr.add_mid, Nat.zero_add]
    simp only [World.cell?, hb]
    simpa using hu⟩⟩
theorem Mem.rdBlk (h : Mem W w fs) {i g : Nat} {cs : Array Value} {t : TypeId} {size n : Nat} (hi : fs[i]? = some (.blk g cs t)) (hn : cs.size = n * size) : Rd w w.heap.size size (some ⟨g, 0, none⟩) n cs.toList := Rd.of_blk (h.blk hi) hn
/-- A block just built is a row of the call's own. -/
theorem Mem.blkRow (h : Mem W w fs) {i g : Nat} {cs : Array Value} {e : TypeId} {size n : Nat} (hi : fs[i]? = some (.blk g cs e)) (hn : cs.size = n * size) (hm : n ≤ 9223372036854775807) : Mem W w (fs.set i (.row (.slice (some ⟨g, 0, none⟩) n n) n cs.toList e size)) := by
  have hb := h.holds _ (List.mem_of_getElem? hi)
  refine h.turn hi h.below (fun _ _ _ => rfl) ⟨by simpa using hn, .inr ⟨g, n, cs, rfl, hb.1, hb.2, Nat.le_refl _, by unfold maxLen; exact hm, hn, ?_⟩⟩ (fun g' hg' => .inl hg')
  rw [← hn, ← Array.length_toList, List.take_length]
/-- A store of one cell into a block known. -/
theorem Mem.set (h : Mem W w fs) {i g o : Nat} {cs : Array Value} {t : TypeId} (hi : fs[i]? = some (.blk g cs t)) (v : Value) : Mem W (w.setCell ⟨g, o, none⟩ v) (fs.set i (.blk g (cs.setIfInBounds o v) t)) := by
  have hb := h.holds _ (List.mem_of_getElem? hi)
  refine h.turn hi (h.below.setCell (p := ⟨g, o, none⟩) hb.1 v) (fun k hk hne => ?_) ⟨hb.1, ?_⟩ (fun g' hg' => .inl hg')
  · exact Below.heap_setCell _ _ _ _ (fun e => hne (by rw [e]; rfl))
  · simp [World.setCell, Array.getElem?_modify, hb.2]
/-- A store of a whole block. -/
theorem Mem.setAll (h : Mem W w fs) {i g : Nat} {cs ds : Array Value} {t : TypeId} (hi : fs[i]? = some (.blk g cs t)) (hs : cs.size = ds.size) : Mem W (w.setCells g 0 ds.toList) (fs.set i (.blk g ds t)) := by
  have hb := h.holds _ (List.mem_of_getElem? hi)
  refine h.turn hi (below_setCells h.below hb.1 0 _) (fun k hk hne => ?_) ⟨hb.1, ?_⟩ (fun g' hg' => .inl hg')
  · exact heap_setCells_far _ _ _ _ _ (fun e => hne (by rw [e]; rfl))
  · have := heap_setCells_same hb.2 ds.toList (by simpa using hs)
    simpa using this
/-- An append onto a row of the call's own. -/
theorem Mem.append (h : Mem W w fs) {i n : Nat} {v v' : Value} {xs ys : List Value} {e : TypeId} {size n' : Nat} (hi : fs[i]? = some (.row v n xs e size)) (ho : w'.ownsRow W.heap.size e size v' n' ys) (hg : w.grownBy w' v.ownBlock)
    (hb : v'.ownBlock = v.ownBlock ∨ v'.ownBlock = some w.heap.size) : Mem W w' (fs.set i (.row v' n' ys e size)) := by
  have hv := h.own hi
  refine h.turn hi (h.below.grown hg h.size (fun g hgb => (own_block hv hgb).1)) (fun g hgl hne => hg.block g hgl (fun e => hne e.symm)) ho (fun g hgb => ?_)
  have hgb' : v'.ownBlock = some g := hgb
  rcases hb with h1 | h1
  · exact .inl (show v.ownBlock = some g by rw [← h1]; exact hgb')
  · rw [h1] at hgb'; injection hgb' with e; exact .inr (by omega)
end
end Go.Proofs.YtpekelggcmgnnaaDoor

/- Generic: the steps of a walk over frames known by slots and memory known by facts. No program is in sight. -/
namespace Go.Proofs.YtpekelggcmgnnaaDoor
open Go.RowKit

/-- From operation i on. -/
def wpFrom (P : Program) (ops : Array Oper) (Q : Exit → Act → World → Prop) (i : Nat) (a : Act) (w : World) : Prop := wpList P ops Q (ops.toList.drop i) a w
/-- o yields v in every world that meets S. -/
def Yl (P : Program) (S : World → Prop) (σ : List (Nat × Value)) (o : Oper) (v : Value) : Prop := ∀ (a : Act) (n : Nat) (D : List Deferred), Fr a n D σ → ∀ w, S w → (execOp a.eval o).run P w = .ok (.value v) w

section
variable {P : Program} {ops : Array Oper} {Q : Exit → Act → World → Prop} {a : Act} {w : World} {n i j d fuel : Nat} {D : List Deferred} {σ σ' : List (Nat × Value)} {o : Oper} {v : Value} {md : Region.Mode} {S : World → Prop} {K : Act → World → Prop} {listed : Array Bool}
theorem from_start {id : Nat} (h : wpFrom P ops Q 0 a w) : (Code.region id ops false).wp P Q a w := wp_region_list (by simpa [wpFrom] using h)
theorem from_done (hi : ops.size = i) (h : Q .normal a w) : wpFrom P ops Q i a w := by
  unfold wpFrom
  rw [List.drop_of_length_le (by simp [hi])]
  exact h
theorem from_op (HF : Fr a n D σ) (ho : ops[i]? = some o) (hw : wantB ops σ o = some true) (h : o.wp P a w (wpFrom P ops Q (i + 1)) Q) : wpFrom P ops Q i a w := by
  obtain ⟨hl, he⟩ := Array.getElem?_eq_some_iff.1 ho
  unfold wpFrom
  rw [List.drop_eq_getElem_cons (by simpa using hl), Array.getElem_toList, he]
  unfold wpList
  rw [if_pos (wanted_of HF hw)]
  exact .inl h
theorem from_skip (HF : Fr a n D σ) (ho : ops[i]? = some o) (hw : wantB ops σ o = some false) (hd : o.dst = some d) (hdn : d < n) (k : ∀ a', Fr a' n D ((d, undef) :: σ) → wpFrom P ops Q (i + 1) a' w) : wpFrom P ops Q i a w := by
  obtain ⟨hl, he⟩ := Array.getElem?_eq_some_iff.1 ho
  unfold wpFrom
  rw [List.drop_eq_getElem_cons (by simpa using hl), Array.getElem_toList, he]
  unfold wpList
  rw [if_neg (by rw [wanted_of HF hw]; simp), hd]
  exact k _ (HF.put hdn _)
theorem Yl.wp (hy : Yl P S σ o v) (HF : Fr a n D σ) (hS : S w) (hd : o.dst = some d) (hdn : d < n) (k : ∀ a', Fr a' n D ((d, v) :: σ) → K a' w) : o.wp P a w K Q := by
  unfold Oper.wp
  rw [hy a n D HF w hS, Oper.upon_value, hd]
  exact k _ (HF.put hdn _)
theorem from_yl (HF : Fr a n D σ) (hS : S w) (ho : ops[i]? = some o) (hw : wantB ops σ o = some true) (hd : o.dst = some d) (hdn : d < n) (hy : Yl P S σ o v) (k : ∀ a', Fr a' n D ((d, v) :: σ) → wpFrom P ops Q (i + 1) a' w) : wpFrom P ops Q i a w :=
  from_op HF ho hw (hy.wp HF hS hd hdn k)
theorem Yl.pure (h : pureVal P σ o.op = some v) : Yl P S σ o v := fun _ _ _ HF w _ => pureVal_run HF h w
def pureStep (P : Program) (ops : Array Oper) (n i : Nat) (σ : List (Nat × Value)) : Option (List (Nat × Value)) :=
  match ops[i]? with
  | none => none
  | some o => match wantB ops σ o, o.dst with
    | some true, some d => if d < n then match pureVal P σ o.op with
      | some v => some ((d, v) :: σ)
      | none => none else none
    | some false, some d => if d < n then some ((d, undef) :: σ) else none
    | _, _ => none
def pureSteps (P : Program) (ops : Array Oper) (n : Nat) : Nat → Nat → List (Nat × Value) → Option (List (Nat × Value))
  | 0, _, σ => some σ
  | m + 1, i, σ => match pureStep P ops n i σ with
    | none => none
    | some σ' => pureSteps P ops n m (i + 1) σ'
/-- m operations that only compute, at once. -/
theorem from_pures' : ∀ (m i : Nat) {j : Nat} {a : Act} {σ : List (Nat × Value)}, Fr a n D σ → pureSteps P ops n m i σ = some σ' → i + m = j → (∀ a', Fr a' n D σ' → wpFrom P ops Q j a' w) → wpFrom P ops Q i a w
  | 0, i, j, a, σ, HF, h, hj, k => by
    injection h with h
    subst h
    have e : i = j := hj
    subst e
    exact k a HF
  | m + 1, i, j, a, σ, HF, h, hj, k => by
    unfold pureSteps at h
    split at h
    · cases h
    · rename_i σ1 h1
      have rest := fun a' HF' => from_pures' m (i + 1) (a := a') (σ := σ1) HF' h (by omega) k
      unfold pureStep at h1
      split at h1
      · cases h1
      · rename_i o ho
        split at h1
        · rename_i d hw hd
          split at h1
          · rename_i hdn
            split at h1
            · rename_i v hv
              injection h1 with h1
              subst h1
              exact from_yl (S := fun _ => True) HF trivial ho hw hd hdn (Yl.pure hv) rest
            · cases h1
          · cases h1
        · rename_i d hw hd
          split at h1
          · rename_i hdn
            injection h1 with h1
            subst h1
            exact from_skip HF ho hw hd hdn rest
          · cases h1
        · cases h1

/-- m operations that only compute, at once: what they add to the frame. -/
theorem from_pures (HF : Fr a n D σ) (m i : Nat) {j : Nat} (new : List (Nat × Value)) (h : pureSteps P ops n m i σ = some (new ++ σ)) (hj : i + m = j) (k : ∀ a', Fr a' n D (new ++ σ) → wpFrom P ops Q j a' w) : wpFrom P ops Q i a w := from_pures' m i HF h hj k

/-! A region that draws its order. S is kept until an operation of 'ex' has come up; these wait for all that reads. -/
def pastB (ex : List Nat) (listed : Array Bool) : Bool := ex.any fun j => listed.getD j false
def wpAnyN (P : Program) (md : Region.Mode) (ops : Array Oper) (Q : Exit → Act → World → Prop) (S : World → Prop) (ex : List Nat) : Nat → Array Bool → Act → World → Prop
  | 0, listed, a, w => Region.ready md ops listed = [] ∧ Q .normal a w
  | fuel + 1, listed, a, w =>
    (Region.ready md ops listed = [] → Q .normal a w) ∧
    ∀ i ∈ Region.ready md ops listed, wpOp P ops Q i (fun a' w' => (pastB ex (listed.setIfInBounds i true) = false → S w') ∧ wpAnyN P md ops Q S ex fuel (listed.setIfInBounds i true) a' w') a w
theorem wpAny_of_anyN {ex : List Nat} : ∀ (fuel : Nat) (listed : Array Bool) (a : Act) (w : World), wpAnyN P md ops Q S ex fuel listed a w → wpAny P md ops Q fuel listed a w
  | 0, _, _, _, h => h
  | fuel + 1, _, _, _, h => ⟨h.1, fun i hi => wpOp_mono (fun a' w' h' => wpAny_of_anyN fuel _ a' w' h'.2) (h.2 i hi)⟩
/-- Those of 'ex' wait for i. -/
def exOk (md : Region.Mode) (ops : Array Oper) (ex : List Nat) (i : Nat) : Bool := ex.all fun j => match ops[j]? with
  | some o => o.after.any fun e => Region.binds md e && e.on == i
  | none => true
theorem pastB_set {ex : List Nat} {l : Array Bool} {i : Nat} (h : ex.contains i = false) : pastB ex (l.setIfInBounds i true) = pastB ex l := by
  unfold pastB
  rw [Bool.eq_iff_iff, List.any_eq_true, List.any_eq_true]
  have hne : ∀ j ∈ ex, i ≠ j := fun j hj e => by
    subst e
    have : ex.contains i = true := by simpa using hj
    rw [h] at this; cases this
  constructor
  · rintro ⟨j, hj, hl⟩; exact ⟨j, hj, by rwa [getD_set_ne false (hne j hj)] at hl⟩
  · rintro ⟨j, hj, hl⟩; exact ⟨j, hj, by rwa [getD_set_ne false (hne j hj)]⟩
theorem pastB_mono {ex : List Nat} {l : Array Bool} {i : Nat} (h : pastB ex (l.setIfInBounds i true) = false) : pastB ex l = false := by
  cases hp : pastB ex l with
  | false => rfl
  | true =>
    unfold pastB at h hp
    obtain ⟨j, hj, hl⟩ := List.any_eq_true.1 hp
    rw [List.any_eq_false] at h
    exact absurd (getD_set_true (i := i) hl) (h j hj)
theorem anyN_first {ex : List Nat} {oi : Oper} {T : World → Prop} (hi : ops[i]? = some oi) (hsel : ∀ (j : Nat) (o : Oper) cs b, ops[j]? = some o → o.op ≠ .select cs b)
    (hQ : ∀ c (a : Act) w, Q (.panic c) (a.put oi.dst v) w → Q (.panic c) a w) (hiex : ex.contains i = false) :
    ∀ (fuel : Nat) (listed : Array Bool) (a : Act) (w : World), ((∀ w, T w) ∨ (T = S ∧ exOk md ops ex i = true ∧ pastB ex listed = false)) →
      (∀ j oj, ops[j]? = some oj → j ≠ i → listed.getD j true = false → (∀ e ∈ oj.after, Region.binds md e = true → e.on ≠ i) → oi.apart ops oj = true) →
      i ∈ Region.ready md ops listed → YieldsIf P ops T oi v a → (pastB ex listed = false → S w) →
      wpAnyN P md ops Q S ex fuel (listed.setIfInBounds i true) (a.put oi.dst v) w → wpAnyN P md ops Q S ex (fuel + 1) listed a w := by
  intro fuel
  induction fuel with
  | zero =>
    intro listed a w hx _ hr hy hS H
    have hT : T w := by rcases hx with h | ⟨h, _, hp⟩ <;> first | exact h w | (rw [h]; exact hS hp)
    refine ⟨fun h => (by rw [h] at hr; cases hr), fun j hj => ?_⟩
    by_cases hji : j = i
    · subst hji; exact hy.wpOp hi hT ⟨fun hp => hS (pastB_mono hp), H⟩
    · have := ready_mono hj hji
      rw [H.1] at this
      cases this
  | succ fuel ih =>
    intro listed a w hx hfree hr hy hS H
    have hT : T w := by rcases hx with h | ⟨h, _, hp⟩ <;> first | exact h w | (rw [h]; exact hS hp)
    refine ⟨fun h => (by rw [h] at hr; cases hr), fun j hj => ?_⟩
    by_cases hji : j = i
    · subst hji; exact hy.wpOp hi hT ⟨fun hp => hS (pastB_mono hp), H⟩
    · have h1 := H.2 j (ready_mono hj hji)
      obtain ⟨hjun, oj, hoj, hall⟩ := mem_ready.1 hj
      have hnot : ∀ e ∈ oj.after, Region.binds md e = true → e.on ≠ i := fun e he hb heq => by
        have h1 := hall e he hb
        have h0 := (mem_ready.1 hr).1
        rw [heq] at h1
        rcases Nat.lt_or_ge i listed.size with h' | h'
        · simp [h'] at h0 h1; rw [h0] at h1; cases h1
        · simp [Array.getElem?_eq_none h'] at h1
      have hx' : (∀ w, T w) ∨ (T = S ∧ exOk md ops ex i = true ∧ pastB ex (listed.setIfInBounds j true) = false) := by
        rcases hx with h | ⟨h, h2, h3⟩
        · exact .inl h
        · refine .inr ⟨h, h2, ?_⟩
          rw [pastB_set ?_]
          · exact h3
          · cases hc : ex.contains j with
            | false => rfl
            | true =>
              have hm : j ∈ ex := by simpa using hc
              have h2 := List.all_eq_true.1 h2 j hm
              rw [hoj] at h2
              obtain ⟨e, he, hb⟩ := Array.any_eq_true'.1 h2
              rw [Bool.and_eq_true, beq_iff_eq] at hb
              exact absurd hb.2 (hnot e he hb.1)
      have h2 := wpOp_putIf hoj (hfree j oj hoj hji hjun hnot) (fun cs b => hsel i oi cs b hi) (fun cs b => hsel j oj cs b hoj) hQ hy h1
      have hfree' : ∀ k ok, ops[k]? = some ok → k ≠ i → (listed.setIfInBounds j true).getD k true = false →
          (∀ e ∈ ok.after, Region.binds md e = true → e.on ≠ i) → oi.apart ops ok = true := fun k ok hk hki hun hno => by
        refine hfree k ok hk hki ?_ hno
        by_cases hjk : j = k
        · subst hjk; exact hjun
        · rw [getD_set_ne true hjk] at hun; exact hun
      refine wpOp_mono (fun a' w' h3 => ?_) h2
      have hS' : pastB ex (listed.setIfInBounds j true) = false → S w' := fun hp => h3.2.1 (by rw [Array.setIfInBounds_comm _ _ (Ne.symm hji), pastB_set hiex]; exact hp)
      refine ⟨hS', ih (listed.setIfInBounds j true) a' w' hx' hfree' (ready_mono hr (Ne.symm hji)) h3.1 hS' ?_⟩
      rw [Array.setIfInBounds_comm _ _ hji]
      exact h3.2.2
section
variable {ex : List Nat}
theorem any_start {id : Nat} (hm : P.follows .mixedOrders = true) (S : World → Prop) (ex : List Nat) (h : wpAnyN P .any ops Q S ex ops.size (Array.replicate ops.size false) a w.drew) : (Code.region id ops true).wp P Q a w :=
  wp_region_any hm (wpAny_of_anyN _ _ _ _ h)
/-- What reads may be taken first, as long as none of 'ex' has come up. -/
def readOk (md : Region.Mode) (ops : Array Oper) (ex : List Nat) (listed : Array Bool) (i : Nat) : Bool :=
  Region.noSelect ops && (Region.free md ops listed i && ((Region.ready md ops listed).contains i && (!ex.contains i && (exOk md ops ex i && !pastB ex listed))))
def pureOk (md : Region.Mode) (ops : Array Oper) (ex : List Nat) (listed : Array Bool) (i : Nat) : Bool :=
  Region.noSelect ops && (Region.free md ops listed i && ((Region.ready md ops listed).contains i && !ex.contains i))
theorem any_yl (HF : Fr a n D σ) (hS : S w) (ho : ops[i]? = some o) (hw : wantB ops σ o = some true) (hd : o.dst = some d) (hdn : d < n) (hok : readOk md ops ex listed i = true) (hQ : ∀ c (a : Act) w, Q (.panic c) (a.put o.dst v) w → Q (.panic c) a w) (hy : Yl P S σ o v)
    (k : ∀ a', Fr a' n D ((d, v) :: σ) → wpAnyN P md ops Q S ex fuel (listed.setIfInBounds i true) a' w) : wpAnyN P md ops Q S ex (fuel + 1) listed a w := by
  simp only [readOk, Bool.and_eq_true, Bool.not_eq_true'] at hok
  obtain ⟨h1, h2, h3, h4, h5, h6⟩ := hok
  exact anyN_first (T := S) ho (Region.noSelect_spec h1) hQ h4 fuel listed a w (.inr ⟨rfl, h5, h6⟩) (Region.free_spec ho h2) (by simpa using h3) (.inl ⟨wanted_of HF hw, fun w hw => hy a n D HF w hw⟩) (fun _ => hS) (by rw [hd]; exact k _ (HF.put hdn _))
theorem any_pure (HF : Fr a n D σ) (hS : pastB ex listed = false → S w) (ho : ops[i]? = some o) (hw : wantB ops σ o = some true) (hd : o.dst = some d) (hdn : d < n) (hok : pureOk md ops ex listed i = true) (hQ : ∀ c (a : Act) w, Q (.panic c) (a.put o.dst v) w → Q (.panic c) a w) (hy : ∀ S', Yl P S' σ o v)
    (k : ∀ a', Fr a' n D ((d, v) :: σ) → wpAnyN P md ops Q S ex fuel (listed.setIfInBounds i true) a' w) : wpAnyN P md ops Q S ex (fuel + 1) listed a w := by
  simp only [pureOk, Bool.and_eq_true, Bool.not_eq_true'] at hok
  obtain ⟨h1, h2, h3, h4⟩ := hok
  exact anyN_first (T := fun _ => True) ho (Region.noSelect_spec h1) hQ h4 fuel listed a w (.inl fun _ => trivial) (Region.free_spec ho h2) (by simpa using h3) (.inl ⟨wanted_of HF hw, fun w _ => hy (fun _ => True) a n D HF w trivial⟩) hS (by rw [hd]; exact k _ (HF.put hdn _))
theorem any_skip (HF : Fr a n D σ) (hS : pastB ex listed = false → S w) (ho : ops[i]? = some o) (hw : wantB ops σ o = some false) (hd : o.dst = some d) (hdn : d < n) (hok : pureOk md ops ex listed i = true) (hQ : ∀ c (a : Act) w, Q (.panic c) (a.put o.dst undef) w → Q (.panic c) a w)
    (k : ∀ a', Fr a' n D ((d, undef) :: σ) → wpAnyN P md ops Q S ex fuel (listed.setIfInBounds i true) a' w) : wpAnyN P md ops Q S ex (fuel + 1) listed a w := by
  simp only [pureOk, Bool.and_eq_true, Bool.not_eq_true'] at hok
  obtain ⟨h1, h2, h3, h4⟩ := hok
  exact anyN_first (T := fun _ => True) ho (Region.noSelect_spec h1) hQ h4 fuel listed a w (.inl fun _ => trivial) (Region.free_spec ho h2) (by simpa using h3) (.inr ⟨wanted_of HF hw, rfl⟩) hS (by rw [hd]; exact k _ (HF.put hdn _))
/-- Operations that only compute, taken first, at once. -/
def anySteps (P : Program) (md : Region.Mode) (ops : Array Oper) (n : Nat) (ex : List Nat) : List Nat → Array Bool → List (Nat × Value) → Option (Array Bool × List (Nat × Value))
  | [], l, σ => some (l, σ)
  | i :: is, l, σ => if pureOk md ops ex l i then match pureStep P ops n i σ with
      | some σ' => anySteps P md ops n ex is (l.setIfInBounds i true) σ'
      | none => none
    else none
theorem any_pures' {listed' : Array Bool} (hQ : ∀ c (a : Act) d v w, Q (.panic c) (a.put d v) w → Q (.panic c) a w) :
    ∀ (is : List Nat) {a : Act} {σ : List (Nat × Value)} {listed : Array Bool}, Fr a n D σ → (pastB ex listed = false → S w) → anySteps P md ops n ex is listed σ = some (listed', σ') → (∀ a', Fr a' n D σ' → wpAnyN P md ops Q S ex fuel listed' a' w) → wpAnyN P md ops Q S ex (fuel + is.length) listed a w
  | [], a, σ, listed, HF, _, h, k => by
    injection h with h
    injection h with h1 h2
    subst h1; subst h2
    exact k a HF
  | i :: is, a, σ, listed, HF, hS, h, k => by
    unfold anySteps at h
    split at h
    · rename_i hc
      split at h
      · rename_i σ1 h1
        have rest := fun a' HF' => any_pures' hQ is (a := a') (σ := σ1) HF' (fun hp => hS (pastB_mono hp)) h k
        unfold pureStep at h1
        split at h1
        · cases h1
        · rename_i o ho
          split at h1
          · rename_i d hw hd
            split at h1
            · rename_i hdn
              split at h1
              · rename_i v hv
                injection h1 with h1
                subst h1
                exact any_pure HF hS ho hw hd hdn hc (fun c a w => hQ c a _ _ w) (fun _ => Yl.pure hv) rest
              · cases h1
            · cases h1
          · rename_i d hw hd
            split at h1
            · rename_i hdn
              injection h1 with h1
              subst h1
              exact any_skip HF hS ho hw hd hdn hc (fun c a w => hQ c a _ _ w) rest
            · cases h1
          · cases h1
      · cases h
    · cases h
theorem any_pures (HF : Fr a n D σ) (hS : pastB ex listed = false → S w) (hQ : ∀ c (a : Act) d v w, Q (.panic c) (a.put d v) w → Q (.panic c) a w) (is : List Nat) (listed' : Array Bool) (new : List (Nat × Value))
    (h : anySteps P md ops n ex is listed σ = some (listed', new ++ σ)) (k : ∀ a', Fr a' n D (new ++ σ) → wpAnyN P md ops Q S ex fuel listed' a' w) : wpAnyN P md ops Q S ex (fuel + is.length) listed a w := any_pures' hQ is HF hS h k
theorem any_done (hr : Region.ready md ops listed = []) (h : Q .normal a w) : wpAnyN P md ops Q S ex fuel listed a w := by
  cases fuel with
  | zero => exact ⟨hr, h⟩
  | succ f => exact ⟨fun _ => h, by rw [hr]; simp⟩
theorem all_nil {X : Nat → Prop} : ∀ i ∈ ([] : List Nat), X i := fun _ h => by cases h
theorem all_cons {X : Nat → Prop} {r : List Nat} (h : X i) (t : ∀ i ∈ r, X i) : ∀ j ∈ i :: r, X j := fun j hj => by
  rcases List.mem_cons.1 hj with rfl | hj
  · exact h
  · exact t j hj
theorem any_all (rs : List Nat) (hr : Region.ready md ops listed = rs) (hne : rs.isEmpty = false) (h : ∀ i ∈ rs, wpOp P ops Q i (fun a' w' => (pastB ex (listed.setIfInBounds i true) = false → S w') ∧ wpAnyN P md ops Q S ex fuel (listed.setIfInBounds i true) a' w') a w) : wpAnyN P md ops Q S ex (fuel + 1) listed a w :=
  ⟨fun e => (by rw [hr] at e; subst e; cases hne), hr ▸ h⟩
theorem pastS {p : Prop} {l : Array Bool} (h : pastB ex l = true) : pastB ex l = false → p := fun e => by rw [h] at e; cases e
theorem keepS {c p X : Prop} (h : p) (k : p → X) : (c → p) ∧ X := ⟨fun _ => h, k h⟩
theorem noS {p X : Prop} {l : Array Bool} (h : pastB ex l = true) (k : X) : (pastB ex l = false → p) ∧ X := ⟨fun e => (by rw [h] at e; cases e), k⟩
theorem any_op (HF : Fr a n D σ) (ho : ops[i]? = some o) (hw : wantB ops σ o = some true) (h : o.wp P a w K Q) : wpOp P ops Q i K a w := by
  unfold wpOp
  rw [ho]
  simp only [wanted_of HF hw, if_true]
  exact .inl h
end

/-! What reads memory. -/
def isOne (P : Program) (t : TypeId) : Bool := match P.underlying t with
  | some (.struct _) => false
  | some (.array _ _) => false
  | some _ => true
  | none => false
def elemSz (P : Program) (t : TypeId) : Option Nat := match P.underlying t with
  | some (.slice e) => (P.info? e).map (·.size)
  | _ => none
theorem isAgg_one {t : TypeId} (h : isOne P t = true) (w : World) : (isAgg t).run P w = .ok false w := by
  unfold isOne at h
  cases hu : P.underlying t with
  | none => rw [hu] at h; cases h
  | some d => rw [hu] at h; simp only [isAgg, Sem.run_bind, run_underlying hu, Result.andThen_ok]; cases d <;> first | rfl | cases h
theorem Yl.load1 {t : TypeId} {x : Operand} {p : Addr} (hop : o.op = .load t x) (hx : look σ x = some (.pointer (some p))) (ht : isOne P t = true) (hc : ∀ w, S w → w.cell? p = some v) : Yl P S σ o v := fun a n D HF w hS => by
  unfold execOp
  simp [hop, HF.eval hx, Instr.loadAt, Instr.sureAddr, loadVar, isAgg_one ht, load, Sem.run, hc w hS]
theorem Yl.loadS {t : TypeId} {x : Operand} {b off m : Nat} {cs : Array Value} (hop : o.op = .load t x) (hx : look σ x = some (.pointer (some ⟨b, off, none⟩))) (si : SI P t m) (hm : cs.size = m) (hc : ∀ w, S w → w.rangeAt b off cs.toList) : Yl P S σ o (.agg cs) := fun a n D HF w hS => by
  obtain ⟨ds, hu, hd⟩ := si.desc
  have hl := run_loadVar_mid (P := P) w b off t cs.toList ds (hc w hS) hu hd (by rw [si.size, ← hm]; simp)
  unfold execOp
  simp [hop, HF.eval hx, Instr.loadAt, Instr.sureAddr, hl]
theorem Yl.indexAddr {t : TypeId} {x ix : Operand} {ad : Addr} {m c y sz : Nat} {k : IntKind} (hop : o.op = .indexAddr t x ix) (hx : look σ x = some (.slice (some ad) m c)) (hi : look σ ix = some (.int k (y : Int))) (hy : y < m) (he : elemSz P t = some sz) : Yl P S σ o (.pointer (some (ad.add (y * sz)))) := fun a n D HF w hS => by
  unfold elemSz at he
  split at he
  · rename_i e hu
    obtain ⟨i, hi', rfl⟩ := Option.map_eq_some_iff.1 he
    unfold execOp
    have h1 : ¬ m ≤ y := by omega
    simp [hop, HF.eval hx, HF.eval hi, Instr.indexAt, asIntOf, run_underlying hu, hy, sizeOf, typeInfo, hi']
  · cases he
def isSl (P : Program) (t : TypeId) : Bool := match P.underlying t with
  | some (.slice _) => true
  | _ => false
theorem Yl.len {x : Operand} {t : TypeId} {A : Option Addr} {m c : Nat} (hop : o.op = .call { callee := .builtin .len, args := #[x], argTypes := #[t] }) (hx : look σ x = some (.slice A m c)) (ht : isSl P t = true) : Yl P S σ o (.int .i64 (m : Int)) := fun a n D HF w hS => by
  unfold isSl at ht
  split at ht
  · rename_i e hu
    unfold execOp
    simp [hop, resolve, invoke, builtin, HF.eval hx, Builtin.len_, run_underlying hu, goInt]
  · cases ht
theorem Yl.min {x y : Operand} {ts : Array TypeId} {k : IntKind} {p q : Int} (hop : o.op = .call { callee := .builtin .min, args := #[x, y], argTypes := ts }) (hx : look σ x = some (.int k p)) (hy : look σ y = some (.int k q)) : Yl P S σ o (.int k (if q < p then q else p)) := fun a n D HF w hS => by
  unfold execOp
  simp [hop, resolve, invoke, builtin, HF.eval hx, HF.eval hy, Builtin.min_, Builtin.min2]
theorem Yl.max {x y : Operand} {ts : Array TypeId} {k : IntKind} {p q : Int} (hop : o.op = .call { callee := .builtin .max, args := #[x, y], argTypes := ts }) (hx : look σ x = some (.int k p)) (hy : look σ y = some (.int k q)) : Yl P S σ o (.int k (if q > p then q else p)) := fun a n D HF w hS => by
  unfold execOp
  simp [hop, resolve, invoke, builtin, HF.eval hx, HF.eval hy, Builtin.max_, Builtin.max2]
/-- Another spelling of the value. -/
theorem Yl.as {u : Value} (h : Yl P S σ o v) (e : v = u) : Yl P S σ o u := e ▸ h
end
end Go.Proofs.YtpekelggcmgnnaaDoor

/- Generic: the steps that turn memory, calls, and how a function begins and ends. No program is in sight. -/
namespace Go.Proofs.YtpekelggcmgnnaaDoor
open Go.RowKit

section
variable {P : Program} {Q : Exit → Act → World → Prop} {a : Act} {W w : World} {n d : Nat} {D : List Deferred} {σ : List (Nat × Value)} {o : Oper} {v : Value} {K : Act → World → Prop} {fs : List Fact}

def zeroCells' (P : Program) (e : TypeId) : Option (Array Value) := ((P.info? e).bind (·.zero)).map Value.cells
theorem wp_new {b : Value} {e : TypeId} {cs : Array Value} (hr : (execOp a.eval o).run P w = .ok (.value (.pointer (some ⟨w.heap.size, 0, none⟩))) (w.alloc (.cells cs e))) (HF : Fr a n D σ) (HM : Mem W w fs) (hd : o.dst = some d) (hdn : d < n)
    (k : ∀ a' w' g, Fr a' n D ((d, .pointer (some ⟨g, 0, none⟩)) :: σ) → Mem W w' (.blk g cs e :: fs) → K a' w') : o.wp P a w K Q := by
  have _ := b
  unfold Oper.wp
  rw [hr, Oper.upon_value, hd]
  exact k _ _ _ (HF.put hdn _) (HM.alloc cs e)
theorem e_alloc (HF : Fr a n D σ) (HM : Mem W w fs) {e : TypeId} {cs : Array Value} (hop : o.op = .alloc e) (hz : zeroCells' P e = some cs) (hd : o.dst = some d) (hdn : d < n)
    (k : ∀ a' w' g, Fr a' n D ((d, .pointer (some ⟨g, 0, none⟩)) :: σ) → Mem W w' (.blk g cs e :: fs) → K a' w') : o.wp P a w K Q := by
  refine wp_new (b := undef) ?_ HF HM hd hdn k
  unfold zeroCells' at hz
  obtain ⟨z, hz1, rfl⟩ := Option.map_eq_some_iff.1 hz
  obtain ⟨i, hi, hz2⟩ := Option.bind_eq_some_iff.1 hz1
  unfold execOp
  simp [hop, Instr.alloc, zeroValue, typeInfo, hi, hz2, newVar, newRow, newObj]
  rfl
theorem e_box (HF : Fr a n D σ) (HM : Mem W w fs) {e : TypeId} {x : Operand} (hop : o.op = .box e x) (hx : look σ x = some v) {cs : Array Value} (hc : v.cells = cs) (hd : o.dst = some d) (hdn : d < n)
    (k : ∀ a' w' g, Fr a' n D ((d, .pointer (some ⟨g, 0, none⟩)) :: σ) → Mem W w' (.blk g cs e :: fs) → K a' w') : o.wp P a w K Q := by
  subst hc
  refine wp_new (b := undef) ?_ HF HM hd hdn k
  unfold execOp
  simp [hop, HF.eval hx, Instr.box, newVar, newRow, newObj]
  rfl
theorem run_storeCell {t : TypeId} {g off : Nat} (hs : (P.info? t).map (·.size) = some 1) (hv : v.oneCell' = true) {u : Value} (hc : w.cell? ⟨g, off, none⟩ = some u) (hf : w.frozen? ⟨g, off, none⟩ = false) :
    (Instr.storeAt t (.pointer (some ⟨g, off, none⟩)) v).run P w = .ok () (w.setCell ⟨g, off, none⟩ v) := by
  have ht : w.there g off 1 := fun j hj => by
    obtain rfl : j = 0 := by omega
    simp [hc, hf]
  have hv1 : v.cells = #[v] := by cases v <;> first | rfl | cases hv
  have := run_storeVar_mid (P := P) w g off t #[v] (by simpa using ht) (by simpa using hs) (by simp [hv])
  have e2 : storeVar t ⟨g, off, none⟩ v = storeVar t ⟨g, off, none⟩ (.agg #[v]) := by
    unfold storeVar
    rw [hv1]
    rfl
  simp only [Instr.storeAt, Instr.sureAddr, Sem.run_bind, Sem.run_pure, Result.andThen_ok, e2, this]
  rfl
/-- A store of one cell. -/
theorem e_store (HF : Fr a n D σ) (HM : Mem W w fs) {t : TypeId} {x y : Operand} {i g off : Nat} {cs : Array Value} {tb : TypeId} (hop : o.op = .store t x y) (hd : o.dst = none) (hx : look σ x = some (.pointer (some ⟨g, off, none⟩))) (hy : look σ y = some v) (hs : (P.info? t).map (·.size) = some 1) (hv : v.oneCell' = true)
    (hi : fs[i]? = some (.blk g cs tb)) (ho : off < cs.size) (k : ∀ w', Mem W w' (fs.set i (.blk g (cs.setIfInBounds off v) tb)) → K a w') : o.wp P a w K Q := by
  have hb := HM.blk hi
  have hc : w.cell? ⟨g, off, none⟩ = some cs[off] := HM.cell hi (Array.getElem?_eq_getElem ho)
  have hf : w.frozen? ⟨g, off, none⟩ = false := by simp [World.frozen?, hb]
  unfold Oper.wp execOp
  simp only [hop, HF.eval hx, HF.eval hy, Sem.run_bind, run_storeCell hs hv hc hf, Result.andThen_ok, Sem.run_pure, Oper.upon_skip, hd]
  exact k _ (HM.set hi v)
/-- A store of a whole block. -/
theorem e_storeAll (HF : Fr a n D σ) (HM : Mem W w fs) {t : TypeId} {x y : Operand} {i g m : Nat} {cs ds : Array Value} {tb : TypeId} (hop : o.op = .store t x y) (hd : o.dst = none) (hx : look σ x = some (.pointer (some ⟨g, 0, none⟩))) (hy : look σ y = some (.agg ds)) (si : SI P t m) (hc : cs.size = m) (hm : ds.size = m) (h1 : ∀ u ∈ ds.toList, u.oneCell' = true)
    (hi : fs[i]? = some (.blk g cs tb)) (k : ∀ w', Mem W w' (fs.set i (.blk g ds tb)) → K a w') : o.wp P a w K Q := by
  have hb := HM.blk hi
  have hl := run_storeVar_mid (P := P) w g 0 t ds (by rw [hm]; exact there_of_block hb 0 m (by omega)) (by rw [hm]; exact si.size) (by simpa using all_oneCell_toArray h1)
  unfold Oper.wp execOp
  simp only [hop, HF.eval hx, HF.eval hy, Sem.run_bind, Instr.storeAt, Instr.sureAddr, Sem.run_pure, hl, Result.andThen_ok, Oper.upon_skip, hd]
  exact k _ (HM.setAll hi (by omega))
def callable (P : Program) (f : FuncId) : Bool := match P.funcs[f]? with
  | some fn => fn.name != "runtime.NumGoroutine" && fn.body.isSome
  | none => false
theorem callable_run {f : FuncId} (h : callable P f = true) (args : Array Value) (w : World) : (callFunc f args).run P w = .ok (.enter f args) w := by
  unfold callable at h
  split at h
  · rename_i fn hf
    rw [Bool.and_eq_true, bne_iff_ne] at h
    have hb : fn.body ≠ none := by intro e; rw [e] at h; simp at h
    simp [callFunc, hf, h.1, hb, program, Sem.run, Sem.run_bind]
  · cases h
def looks (σ : List (Nat × Value)) : List Operand → Option (List Value)
  | [] => some []
  | x :: r => match look σ x, looks σ r with
    | some v, some vs => some (v :: vs)
    | _, _ => none
theorem looks_map (HF : Fr a n D σ) : ∀ {xs : List Operand} {vs : List Value}, looks σ xs = some vs → xs.map a.eval = vs
  | [], vs, h => by cases h; rfl
  | x :: r, vs, h => by
    unfold looks at h
    split at h
    · rename_i v us hx hr
      injection h with h
      subst h
      rw [List.map_cons, HF.eval hx, looks_map HF hr]
    · cases h
/-- A call of a function of the program, by its contract. -/
theorem e_call (HF : Fr a n D σ) {f : FuncId} {xs : Array Operand} {ts : Array TypeId} {vs : List Value} {R : Ending → World → Prop} (hop : o.op = .call { callee := .value (.func f), args := xs, argTypes := ts }) (hv : looks σ xs.toList = some vs) (hf : callable P f = true) (hd : o.dst = some d) (hdn : d < n)
    (hC : Calls P f vs.toArray w R) (k : ∀ e w', R e w' → ∃ v, e = .returned v ∧ ∀ a', Fr a' n D ((d, v) :: σ) → K a' w') : o.wp P a w K Q := by
  have e1 : xs.map a.eval = vs.toArray := by
    have := looks_map HF hv
    rw [← this, ← Array.toList_map, Array.toArray_toList]
  unfold Oper.wp execOp
  simp only [hop, resolve, Act.eval, Deferred.ofValue, invoke, Sem.run_bind, Sem.run_pure, Result.andThen_ok]
  have e2 : xs.map (fun x => a.eval x) = vs.toArray := e1
  have e3 : #[] ++ Array.map a.eval xs ++ #[] = vs.toArray := by simp [e1]
  show Oper.upon P o a K Q (((callFunc f (#[] ++ Array.map a.eval xs ++ #[])).run P w))
  rw [e3, callable_run hf, Oper.upon_enter]
  refine hC.mono fun e w' he => ?_
  obtain ⟨v, rfl, h2⟩ := k e w' he
  show K (a.put o.dst v) w'
  rw [hd]
  exact h2 _ (HF.put hdn v)
end
end Go.Proofs.YtpekelggcmgnnaaDoor

/- Generic: more steps: append, literals, how a function begins and ends, branches, loops. No program is in sight. -/
namespace Go.Proofs.YtpekelggcmgnnaaDoor
open Go.RowKit

section
variable {P : Program} {Q : Exit → Act → World → Prop} {a : Act} {W w : World} {n d : Nat} {D : List Deferred} {σ : List (Nat × Value)} {o : Oper} {v : Value} {K : Act → World → Prop} {fs : List Fact}

theorem own_at {base : Nat} {e : TypeId} {size m : Nat} {xs : List Value} (h : w.ownsRow base e size v m xs) (hm : 0 < m) : ∃ g c, v = .slice (some ⟨g, 0, none⟩) m c ∧ m ≤ c := by
  rcases h.2 with ⟨_, h2⟩ | ⟨g, cap, cur, h1, _, _, h2, _⟩
  · omega
  · exact ⟨g, cap, h1, h2⟩
theorem own_slice {base : Nat} {e : TypeId} {size m : Nat} {xs : List Value} (h : w.ownsRow base e size v m xs) : ∃ A c, v = .slice A m c ∧ m ≤ c := by
  rcases h.2 with ⟨h1, h2⟩ | ⟨g, cap, cur, h1, _, _, h2, _⟩
  · subst h2; exact ⟨_, _, h1, Nat.le_refl _⟩
  · exact ⟨_, cap, h1, h2⟩
theorem e_append (HF : Fr a n D σ) (HM : Mem W w fs) {s x : Operand} {t e : TypeId} {z : Value} {size bytes i m0 m c B : Nat} {A : Option Addr} {xs news : List Value} (hop : o.op = .call { callee := .builtin .append, args := #[s, x], argTypes := #[t, t] }) (ei : EI P t e z size bytes)
    (hs : look σ s = some v) (hx : look σ x = some (.slice A m c)) (hi : fs[i]? = some (.row v m0 xs e size)) (hr : Rd w B size A m news) (h1 : ∀ u ∈ news, u.oneCell' = true) (hb : (m0 + m) * bytes ≤ 140737488355328) (h63 : m0 + m ≤ 9223372036854775807)
    (hd : o.dst = some d) (hdn : d < n) (k : ∀ a' w' A' c', Fr a' n D ((d, .slice A' (m0 + m) c') :: σ) → Mem W w' (fs.set i (.row (.slice A' (m0 + m) c') (m0 + m) (xs ++ news) e size)) → m0 + m ≤ c' → K a' w') : o.wp P a w K Q :=
  append_op hop ei (HM.own hi) (HF.eval hs) hr (HF.eval hx) h1 hb h63 HM.size fun A' c' w' ho hg hbl => by
    rw [hd]
    refine k _ _ _ _ (HF.put hdn _) (HM.append hi ho hg hbl) ?_
    rcases ho.2 with ⟨h2, h3⟩ | ⟨g, cap, cur, h2, _, _, h3, _⟩
    · omega
    · injection h2 with _ _ h4; omega

/-- append, with growslice's own bound. -/
theorem append_run_wide {t e : TypeId} {z : Value} {size bytes : Nat} (ei : EI P t e z size bytes) (ty : TypeId) {v : Value} {m0 : Nat} {xs : List Value} {base : Nat} (hown : w.ownsRow base e size v m0 xs)
    {B : Nat} {A : Option Addr} {m c : Nat} {news : List Value} (hr : Rd w B size A m news) (h1 : ∀ u ∈ news, u.oneCell' = true)
    (hb : ((m0 + m) + (m0 + m) / 4 + 192) * bytes ≤ 281474976710656) (h63 : m0 + m ≤ 9223372036854775807) (hbase : base ≤ w.heap.size) :
    ∃ A' c' w', (Builtin.append_ #[t, t] ty #[v, .slice A m c]).run P w = .ok (.slice A' (m0 + m) c') w' ∧ w'.ownsRow base e size (.slice A' (m0 + m) c') (m0 + m) (xs ++ news) ∧ w.grownBy w' v.ownBlock ∧
      ((Value.slice A' (m0 + m) c').ownBlock = v.ownBlock ∨ (Value.slice A' (m0 + m) c').ownBlock = some w.heap.size) := by
  by_cases hA : A = none ∨ m = 0
  · have hm : m = 0 := by
      rcases hA with h | h
      · rcases Nat.eq_zero_or_pos m with h0 | h0
        · exact h0
        · obtain ⟨ad, h2, _⟩ := hr.row h0
          rw [h] at h2; cases h2
      · exact h
    subst hm
    have hn : news = [] := List.eq_nil_of_length_eq_zero (by simpa using hr.len)
    subst hn
    obtain ⟨A', c', rfl, _⟩ := own_slice hown
    refine ⟨A', c', w, ?_, by simpa using hown, World.grownBy.refl w _, .inl rfl⟩
    cases A with
    | none => exact append_nil_run ei ty hown c
    | some ad =>
      obtain ⟨i, hi, _⟩ := info_parts ei.hi
      rcases hown.2 with ⟨h2, h3⟩ | ⟨g, cap, cur, h2, _, _, hnc, _⟩
      · injection h2 with h2 h4 h5
        subst h2; subst h4; subst h5
        simp [Builtin.append_, run_underlying ei.ht, sizeOf, typeInfo, hi, Builtin.lenOf, Builtin.firstCells, loadCells, loadCellsFrom]
      · injection h2 with h2 h4 h5
        subst h2; subst h5
        simp [Builtin.append_, run_underlying ei.ht, sizeOf, typeInfo, hi, Builtin.lenOf, Builtin.firstCells, hnc, storeCells, loadCells, loadCellsFrom]
  · have hm : 0 < m := by
      rcases Nat.eq_zero_or_pos m with h | h
      · exact absurd (.inr h) hA
      · exact h
    obtain ⟨ad, hAe, _, hcells⟩ := hr.row hm
    subst hAe
    obtain ⟨i, hi, hz, hsz, hby⟩ := info_parts ei.hi
    obtain ⟨v', w', hrun, h2, h3, _⟩ := run_append_own_wide (P := P) w base t ty e i z size bytes ei.ht hi hz hsz hby ei.hz ei.hs v m0 xs hown ad m c news hr.len hcells h1 (by unfold maxLen; exact h63) hb hbase
    obtain ⟨A', c', rfl, _⟩ := own_slice h2
    refine ⟨A', c', w', hrun, h2, h3, ?_⟩
    rcases hown.2 with ⟨rfl, rfl⟩ | ⟨g, cap, cur, rfl, hbg, hg, hnc, hcm, hcs, htake⟩
    · have hx : xs = [] := List.eq_nil_of_length_eq_zero (by simpa using hown.1)
      subst hx
      have hr2 := run_append_nil (P := P) w t ty e i z ei.ht hi hz ad m c news (by rw [hsz]; exact hr.len) hcells (by omega) (by omega) (by rw [hby]; have hb' := hb; simp only [Nat.zero_add] at hb'; exact Nat.le_trans (Nat.mul_le_mul_right _ (by omega)) hb')
      rw [hrun] at hr2
      injection hr2 with hr2 _
      injection hr2 with hr2 _ _
      exact .inr (by rw [hr2]; rfl)
    · by_cases hroom : m0 + m ≤ cap
      · have hfit : m0 * i.size + news.length ≤ cur.size := by rw [hsz, hr.len, hcs, ← Nat.add_mul]; exact Nat.mul_le_mul_right _ hroom
        have hr2 := run_append_room (P := P) w t ty e i ei.ht hi g m0 cap cur hg ad m c news (by rw [hsz]; exact hr.len) hcells h1 hroom hfit
        rw [hrun] at hr2
        injection hr2 with hr2 _
        injection hr2 with hr2 _ _
        exact .inl (by rw [hr2]; rfl)
      · have holds : ∀ j u, xs[j]? = some u → w.cell? ((⟨g, 0, none⟩ : Addr).add j) = some u := hown.cells (g := g) rfl
        have hr2 := run_append_grow (P := P) w t ty e i z ei.ht hi hz ⟨g, 0, none⟩ m0 cap xs (by rw [hsz]; exact hown.1) holds ad m c news (by rw [hsz]; exact hr.len) hcells (by omega) (by omega) (growslice_fits_wide (by omega) (by rw [hby]; exact hb))
        rw [hrun] at hr2
        injection hr2 with hr2 _
        injection hr2 with hr2 _ _
        exact .inr (by rw [hr2]; rfl)
theorem e_append_wide (HF : Fr a n D σ) (HM : Mem W w fs) {s x : Operand} {t e : TypeId} {z : Value} {size bytes i m0 m c B : Nat} {A : Option Addr} {xs news : List Value} (hop : o.op = .call { callee := .builtin .append, args := #[s, x], argTypes := #[t, t] }) (ei : EI P t e z size bytes)
    (hs : look σ s = some v) (hx : look σ x = some (.slice A m c)) (hi : fs[i]? = some (.row v m0 xs e size)) (hr : Rd w B size A m news) (h1 : ∀ u ∈ news, u.oneCell' = true) (hb : ((m0 + m) + (m0 + m) / 4 + 192) * bytes ≤ 281474976710656) (h63 : m0 + m ≤ 9223372036854775807)
    (hd : o.dst = some d) (hdn : d < n) (k : ∀ a' w' A' c', Fr a' n D ((d, .slice A' (m0 + m) c') :: σ) → Mem W w' (fs.set i (.row (.slice A' (m0 + m) c') (m0 + m) (xs ++ news) e size)) → m0 + m ≤ c' → K a' w') : o.wp P a w K Q := by
  obtain ⟨A', c', w', hrun, ho, hg, hbl⟩ := append_run_wide (P := P) ei o.type (HM.own hi) hr h1 (c := c) hb h63 HM.size
  unfold Oper.wp execOp
  simp only [hop, resolve, invoke, builtin, Sem.run_bind, Sem.run_pure, Result.andThen_ok, List.map_toArray, List.map_cons, List.map_nil, HF.eval hs, HF.eval hx, hrun]
  rw [Oper.upon_value, hd]
  refine k _ _ _ _ (HF.put hdn _) (HM.append hi ho hg hbl) ?_
  rcases ho.2 with ⟨h2, h3⟩ | ⟨g, cap, cur, h2, _, _, h3, _⟩
  · omega
  · injection h2 with _ _ h4; omega

def partVals (σ : List (Nat × Value)) : List (Nat × Operand) → Option (List (Nat × Value))
  | [] => some []
  | (i, x) :: r => match look σ x, partVals σ r with
    | some v, some vs => some ((i, v) :: vs)
    | _, _ => none
theorem partVals_map (HF : Fr a n D σ) : ∀ {ps : List (Nat × Operand)} {vs : List (Nat × Value)}, partVals σ ps = some vs → ps.map (fun p => (p.1, a.eval p.2)) = vs
  | [], vs, h => by cases h; rfl
  | (i, x) :: r, vs, h => by
    unfold partVals at h
    split at h
    · rename_i v us hx hr
      injection h with h
      subst h
      rw [List.map_cons, HF.eval hx, partVals_map HF hr]
    · cases h
theorem partVals_arr (HF : Fr a n D σ) {ps : Array (Nat × Operand)} {vs : List (Nat × Value)} (h : partVals σ ps.toList = some vs) : ps.map (fun p => (p.1, a.eval p.2)) = vs.toArray := by
  rw [← partVals_map HF h, ← Array.toList_map, Array.toArray_toList]
def blankCells (z : Array Value) (m : Nat) : Array Value := (Array.range m).map (z[· % z.size]!)
/-- A slice written out. -/
theorem e_slice (HF : Fr a n D σ) (HM : Mem W w fs) {t len e : Nat} {ps : Array (Nat × Operand)} {vs : List (Nat × Value)} {z : Value} {size bytes : Nat} {cs : Array Value} (hop : o.op = .buildSlice t len ps) (ei : EI P t e z size bytes) (hl : decide (0 < len ∧ len * size ≤ 16777216) = true) (hv : partVals σ ps.toList = some vs)
    (hf : Instr.fill (fun i => some (i * size, size)) (blankCells z.cells (len * size)) vs = some cs) (hd : o.dst = some d) (hdn : d < n)
    (k : ∀ a' w' g, Fr a' n D ((d, .slice (some ⟨g, 0, none⟩) len len) :: σ) → Mem W w' (.blk g cs e :: fs) → K a' w') : o.wp P a w K Q := by
  obtain ⟨i, hi, hz, hsz, _⟩ := info_parts ei.hi
  have hpos := ei.hs
  simp only [decide_eq_true_eq] at hl
  have h0 : ¬ len * size = 0 := by
    have := Nat.mul_pos hl.1 hpos
    omega
  have h2 : ¬ len * size > 2 ^ 24 := by omega
  have hrun : (execOp a.eval o).run P w = .ok (.value (.slice (some ⟨w.heap.size, 0, none⟩) len len)) (w.alloc (.cells cs e)) := by
    unfold execOp
    have hpm := partVals_arr HF hv
    unfold blankCells at hf
    simp only [hop]
    have e1 : (Instr.buildSlice t len (ps.map fun p => (p.1, a.eval p.2))).run P w = .ok (.slice (some ⟨w.heap.size, 0, none⟩) len len) (w.alloc (.cells cs e)) := by
      rw [hpm]
      unfold Instr.buildSlice
      simp only [Sem.run_bind, run_underlying ei.ht, Result.andThen_ok, sizeOf, typeInfo, program, Sem.run, hi, Sem.run_pure, hsz, if_neg h2, if_neg h0, zeroValue, hz, hf, newRow, newObj]
      rfl
    simp only [Sem.run_bind, Sem.run_pure]
    show ((Instr.buildSlice t len (ps.map fun p => (p.1, a.eval p.2))).run P w).andThen _ = _
    rw [e1]
    rfl
  unfold Oper.wp
  rw [hrun, Oper.upon_value, hd]
  exact k _ _ _ (HF.put hdn _) (HM.alloc cs e)

/-- Cells of a row of the call's own. -/
theorem Mem.rowRange (h : Mem W w fs) {i g m c : Nat} {e : TypeId} {size : Nat} {xs : List Value} (hi : fs[i]? = some (.row (.slice (some ⟨g, 0, none⟩) m c) m xs e size)) (off : Nat) {ys : List Value} (hy : ∀ j u, ys[j]? = some u → xs[off + j]? = some u) : w.rangeAt g off ys := fun j u hu => by
  have ho := h.own hi
  have := ho.cells (g := g) rfl (off + j) u (hy j u hu)
  rw [Addr.add_mid, Nat.zero_add] at this
  exact this
theorem Mem.rowAll (h : Mem W w fs) {i g m c : Nat} {e : TypeId} {size : Nat} {xs : List Value} (hi : fs[i]? = some (.row (.slice (some ⟨g, 0, none⟩) m c) m xs e size)) : w.rangeAt g 0 xs := h.rowRange hi 0 (fun j u hu => by rw [Nat.zero_add]; exact hu)

/-- An empty slice written out. -/
theorem e_slice0 (HF : Fr a n D σ) (HM : Mem W w fs) {t e : Nat} {z : Value} {size bytes : Nat} (hop : o.op = .buildSlice t 0 #[]) (ei : EI P t e z size bytes) (hd : o.dst = some d) (hdn : d < n)
    (k : ∀ a' w' g, Fr a' n D ((d, .slice (some ⟨g, 0, none⟩) 0 0) :: σ) → Mem W w' (.row (.slice (some ⟨g, 0, none⟩) 0 0) 0 [] e size :: fs) → K a' w') : o.wp P a w K Q := by
  obtain ⟨i, hi, hz, hsz, _⟩ := info_parts ei.hi
  have hrun : (execOp a.eval o).run P w = .ok (.value (.slice (some ⟨w.heap.size, 0, none⟩) 0 0)) (w.alloc (.cells #[] e)) := by
    unfold execOp
    simp only [hop]
    have e1 : (Instr.buildSlice t 0 #[]).run P w = .ok (.slice (some ⟨w.heap.size, 0, none⟩) 0 0) (w.alloc (.cells #[] e)) := by
      unfold Instr.buildSlice
      simp only [Sem.run_bind, run_underlying ei.ht, Result.andThen_ok, sizeOf, typeInfo, program, Sem.run, hi, Sem.run_pure, newRow, newObj]
      simp [Instr.fill, show Array.range 0 = #[] from rfl]
      rfl
    simp only [Sem.run_bind, Sem.run_pure, List.map_toArray, List.map_nil]
    show ((Instr.buildSlice t 0 #[]).run P w).andThen _ = _
    rw [e1]
    rfl
  unfold Oper.wp
  rw [hrun, Oper.upon_value, hd]
  refine k _ _ w.heap.size (HF.put hdn _) ?_
  have := (HM.alloc #[] e).blkRow (i := 0) (size := size) (n := 0) rfl (by simp) (by omega)
  exact this

/-! How a function begins and ends. -/
def argSlots : Nat → List Value → List (Nat × Value)
  | _, [] => []
  | i, v :: r => (i, v) :: argSlots (i + 1) r
theorem argSlots_get : ∀ (vs : List Value) (i t : Nat) (v : Value), (argSlots i vs).lookup t = some v → i ≤ t ∧ vs[t - i]? = some v
  | [], _, _, _, h => by cases h
  | u :: r, i, t, v, h => by
    rw [argSlots, List.lookup_cons] at h
    split at h
    · rename_i e
      rw [beq_iff_eq] at e
      subst e
      exact ⟨Nat.le_refl _, by simpa using h⟩
    · obtain ⟨h1, h2⟩ := argSlots_get r (i + 1) t v h
      refine ⟨by omega, ?_⟩
      rw [show t - i = (t - (i + 1)) + 1 by omega, List.getElem?_cons_succ]
      exact h2
theorem calls_enter {f N : Nat} {fn : Func} {c : Code} {vs : List Value} {R : Ending → World → Prop} (hf : P.funcs[f]? = some fn) (hb : fn.body = some c) (hn : fn.ntmps = N) (hl : decide (vs.length ≤ N) = true) {σ0 : List (Nat × Value)} (h0 : argSlots 0 vs = σ0)
    (k : ∀ a, Fr a N [] σ0 → c.wp P (bodyPost P fn R) a w) : Calls P f vs.toArray w R := by
  subst h0
  rw [decide_eq_true_eq] at hl
  refine calls_of_wp hf hb (k _ ⟨by simp [hn]; omega, rfl, fun t v hv => ?_⟩)
  obtain ⟨_, h1⟩ := argSlots_get vs 0 t v hv
  rw [Nat.sub_zero] at h1
  have hlt := (List.getElem?_eq_some_iff.1 h1).1
  simp only [Array.getD_eq_getD_getElem?, Array.getElem?_append, List.size_toArray, if_pos hlt]
  simp [h1]
def resSem (tmps : Array Value) : ResultVar → Sem Value
  | .tmp t => pure (tmps.getD t undef)
  | .cell b t => do loadVar t (← asAddr (tmps.getD b undef))
/-- What a result reads as at the end. -/
def ResRun (P : Program) (a : Act) (w : World) (r : ResultVar) (v : Value) : Prop := (resSem a.tmps r).run P w = .ok v w
theorem results_sem (fn : Func) (tmps : Array Value) : results fn tmps = (do
  let vs ← fn.results.mapM (resSem tmps)
  pure (if h : vs.size = 1 then vs[0] else .tuple vs)) := by
  unfold results
  have : resSem tmps = (fun | .tmp t => pure (tmps.getD t undef) | .cell a t => do loadVar t (← asAddr (tmps.getD a undef))) := by
    funext r; cases r <;> rfl
  rw [this]
  rfl
theorem ResRun.tmp {t : Nat} (HF : Fr a n D σ) (h : σ.lookup t = some v) : ResRun P a w (.tmp t) v := by
  unfold ResRun resSem
  simp only [HF.slot t v h]
  rfl
theorem ResRun.cellS {b i g m : Nat} {t tb : TypeId} {cs : Array Value} (HF : Fr a n D σ) (HM : Mem W w fs) (h : σ.lookup b = some (.pointer (some ⟨g, 0, none⟩))) (hi : fs[i]? = some (.blk g cs tb)) (si : SI P t m) (hm : cs.size = m) : ResRun P a w (.cell b t) (.agg cs) := by
  obtain ⟨ds, hu, hd⟩ := si.desc
  have hl := run_loadVar_mid (P := P) w g 0 t cs.toList ds (range_of_block (HM.blk hi)) hu hd (by rw [si.size, ← hm]; simp)
  unfold ResRun resSem
  simp only [HF.slot b _ h]
  simp [asAddr, hl]
theorem ResRun.cell1 {b i g : Nat} {t tb : TypeId} {cs : Array Value} (HF : Fr a n D σ) (HM : Mem W w fs) (h : σ.lookup b = some (.pointer (some ⟨g, 0, none⟩))) (hi : fs[i]? = some (.blk g cs tb)) (ht : isOne P t = true) (hc : cs[0]? = some v) : ResRun P a w (.cell b t) v := by
  unfold ResRun resSem
  simp only [HF.slot b _ h]
  simp [asAddr, loadVar, isAgg_one ht, load, Sem.run, HM.cell hi hc]
section
variable {fn : Func} {R : Ending → World → Prop}
theorem ret1 {r1 : ResultVar} {v1 : Value} (hr : fn.results = #[r1]) (HF : Fr a n [] σ) (h1 : ResRun P a w r1 v1) (hR : R (.returned v1) w) : bodyPost P fn R .ret a w :=
  bodyPost_ret (v := v1) (by
    unfold ResRun at h1
    rw [results_sem, hr]
    generalize resSem a.tmps = f at *
    simp [h1]) HF.defers hR
theorem ret2 {r1 r2 : ResultVar} {v1 v2 : Value} (hr : fn.results = #[r1, r2]) (HF : Fr a n [] σ) (h1 : ResRun P a w r1 v1) (h2 : ResRun P a w r2 v2) (hR : R (.returned (.tuple #[v1, v2])) w) : bodyPost P fn R .ret a w :=
  bodyPost_ret (v := .tuple #[v1, v2]) (by
    unfold ResRun at h1 h2
    rw [results_sem, hr]
    generalize resSem a.tmps = f at *
    simp [h1, h2]) HF.defers hR
theorem ret3 {r1 r2 r3 : ResultVar} {v1 v2 v3 : Value} (hr : fn.results = #[r1, r2, r3]) (HF : Fr a n [] σ) (h1 : ResRun P a w r1 v1) (h2 : ResRun P a w r2 v2) (h3 : ResRun P a w r3 v3) (hR : R (.returned (.tuple #[v1, v2, v3])) w) : bodyPost P fn R .ret a w :=
  bodyPost_ret (v := .tuple #[v1, v2, v3]) (by
    unfold ResRun at h1 h2 h3
    rw [results_sem, hr]
    generalize resSem a.tmps = f at *
    simp [h1, h2, h3]) HF.defers hR
end
theorem cond_true {c : Operand} {x y : Code} (HF : Fr a n D σ) (hc : look σ c = some (.bool true)) (h : x.wp P Q a w) : (Code.cond c x y).wp P Q a w := wp_cond_true (HF.eval hc) h
theorem cond_false {c : Operand} {x y : Code} (HF : Fr a n D σ) (hc : look σ c = some (.bool false)) (h : y.wp P Q a w) : (Code.cond c x y).wp P Q a w := wp_cond_false (HF.eval hc) h
/-- Another spelling of what a slot holds. -/
theorem Fr.as {u : Value} {t : Nat} (h : Fr a n D σ) (hl : σ.lookup t = some v) (e : v = u) : Fr a n D ((t, u) :: σ) := by
  subst e
  refine ⟨h.size, h.defers, fun s x hx => ?_⟩
  rw [List.lookup_cons] at hx
  split at hx
  · rename_i hs
    rw [beq_iff_eq] at hs
    subst hs
    injection hx with hx
    subst hx
    exact h.slot s v hl
  · exact h.slot s x hx
/-- The rest under what all ways here have in common. -/
theorem cut_seq {x y : Code} (R : Act → World → Prop) (h : x.wp P (Exit.then R Q) a w) (k : ∀ a w, R a w → y.wp P Q a w) : (Code.seq x y).wp P Q a w :=
  wp_seq (Code.wp_mono (fun e a w hq => by cases e <;> first | exact k _ _ hq | exact hq) h)
/-- A loop whose rounds lower a number. -/
theorem loop_nat {c : Code} (J : Nat → Act → World → Prop) {m : Nat} (h0 : J m a w) (round : ∀ k a w, J k a w → c.wp P (Exit.then (fun a' w' => ∃ k', k' < k ∧ J k' a' w') Q) a w) : (Code.loop c).wp P Q a w := by
  intro b ks cs
  have key : ∀ m a w, J m a w → ∃ e a' w', Q e a' w' ∧ Arrives P (lone (b.at a (.code c :: .inLoop c :: ks)) cs w) b ks cs e a' w' := by
    intro m
    induction m using Nat.strongRecOn with
    | _ m ih =>
      intro a w hJ
      obtain ⟨e, a1, w1, hq, harr⟩ := round m a w hJ b (.inLoop c :: ks) cs
      cases e with
      | normal =>
        obtain ⟨m', hlt, hJ'⟩ := hq
        obtain ⟨e2, a2, w2, hq2, harr2⟩ := ih m' hlt a1 w1 hJ'
        exact ⟨e2, a2, w2, hq2, .of_steps (Steps.trans harr (.one step_inLoop)) harr2⟩
      | exit id => exact ⟨_, a1, w1, hq, .pass (x := .inLoop c) rfl (fun _ _ => .inl (by simp)) harr⟩
      | goto l => exact ⟨_, a1, w1, hq, .pass (x := .inLoop c) rfl (fun _ _ => .inl (by simp)) harr⟩
      | ret => exact ⟨_, a1, w1, hq, .pass (x := .inLoop c) rfl (fun _ _ => .inl (by simp)) harr⟩
      | panic ch => exact ⟨_, a1, w1, hq, .pass (x := .inLoop c) rfl (fun _ _ => .inl (by simp)) harr⟩
      | outgrown => exact ⟨_, a1, w1, hq, .pass (x := .inLoop c) rfl (fun _ _ => .inl (by simp)) harr⟩
  obtain ⟨e, a', w', hq, harr⟩ := key m a w h0
  exact ⟨e, a', w', hq, .of_steps (.one step_loop) harr⟩
end
end Go.Proofs.YtpekelggcmgnnaaDoor

/- Generic: stores into a row of the call's own; an append onto a full slice that came in. No program is in sight. -/
namespace Go.Proofs.YtpekelggcmgnnaaDoor
open Go.RowKit

/-- Cells put at a place of a list. -/
def putAt (xs : List Value) (off : Nat) (vs : List Value) : List Value := xs.take off ++ vs ++ xs.drop (off + vs.length)
theorem putAt_len {xs : List Value} {off : Nat} {vs : List Value} (h : off + vs.length ≤ xs.length) : (putAt xs off vs).length = xs.length := by
  unfold putAt
  simp only [List.length_append, List.length_take, List.length_drop]
  omega
theorem putAt_get {xs : List Value} {off : Nat} {vs : List Value} (h : off + vs.length ≤ xs.length) (j : Nat) : (putAt xs off vs)[j]? = if off ≤ j ∧ j < off + vs.length then vs[j - off]? else xs[j]? := by
  unfold putAt
  have h1 : (xs.take off).length = off := by rw [List.length_take]; omega
  rw [List.append_assoc]
  rcases Nat.lt_or_ge j off with h2 | h2
  · rw [if_neg (by omega), List.getElem?_append_left (by omega), List.getElem?_take, if_pos h2]
  · rw [List.getElem?_append_right (by omega), h1]
    rcases Nat.lt_or_ge j (off + vs.length) with h3 | h3
    · rw [if_pos ⟨h2, h3⟩, List.getElem?_append_left (by omega)]
    · rw [if_neg (by omega), List.getElem?_append_right (by omega), List.getElem?_drop]
      congr 1
      omega
theorem setCells_heap_mid {w : World} {g : Nat} {cur : Array Value} {e : TypeId} (hb : w.heap[g]? = some (.cells cur e (0, 0))) (off : Nat) (vs : List Value) (hl : off + vs.length ≤ cur.size) :
    (w.setCells g off vs).heap[g]? = some (.cells (putAt cur.toList off vs).toArray e (0, 0)) := by
  have h1 : cur = (cur.toList.take off ++ (cur.toList.drop off).take vs.length ++ cur.toList.drop (off + vs.length)).toArray := by
    apply Array.toList_inj.1
    simp only [List.append_assoc]
    rw [← List.drop_drop, List.take_append_drop, List.take_append_drop]
  have h2 := heap_setCells_go g e vs w (cur.toList.take off) (cur.toList.drop (off + vs.length)) ((cur.toList.drop off).take vs.length) (by rw [← h1]; exact hb) (by simp only [List.length_take, List.length_drop, Array.length_toList]; omega)
  rw [List.length_take, Array.length_toList, Nat.min_eq_left (by omega)] at h2
  exact h2
section
variable {P : Program} {Q : Exit → Act → World → Prop} {a : Act} {W w : World} {n d : Nat} {D : List Deferred} {σ : List (Nat × Value)} {o : Oper} {v : Value} {K : Act → World → Prop} {fs : List Fact}
/-- Cells stored into a row. -/
theorem Mem.rowSet (h : Mem W w fs) {i g m c : Nat} {e : TypeId} {size : Nat} {xs : List Value} (hi : fs[i]? = some (.row (.slice (some ⟨g, 0, none⟩) m c) m xs e size)) {off : Nat} {vs : List Value} (hl : off + vs.length ≤ xs.length) :
    Mem W (w.setCells g off vs) (fs.set i (.row (.slice (some ⟨g, 0, none⟩) m c) m (putAt xs off vs) e size)) := by
  have ho := h.own hi
  obtain ⟨hlen, h2⟩ := ho
  rcases h2 with ⟨h3, _⟩ | ⟨g', cap, cur, hv, hb, hg, hnc, hcm, hcs, ht⟩
  · cases h3
  · injection hv with hv hv2 hv3
    injection hv with hv
    injection hv with hv
    subst hv; subst hv3
    have hcur : m * size ≤ cur.size := by rw [hcs]; exact Nat.mul_le_mul_right _ hnc
    refine h.turn hi (below_setCells h.below hb off vs) (fun k hk hne => heap_setCells_far _ _ _ _ _ (fun e => hne (by rw [e]; rfl))) ?_ (fun g' hg' => .inl hg')
    refine ⟨by rw [putAt_len hl]; exact hlen, .inr ⟨g, c, _, rfl, hb, setCells_heap_mid hg off vs (by omega), hnc, hcm, ?_, ?_⟩⟩
    · rw [List.size_toArray, putAt_len (by simpa using (by omega : off + vs.length ≤ cur.size)), Array.length_toList, hcs]
    · show (putAt cur.toList off vs).take (m * size) = putAt xs off vs
      subst ht
      have hl' : off + vs.length ≤ cur.toList.length ∧ off + vs.length ≤ m * size := by
        rw [List.length_take, Array.length_toList] at hl
        rw [Array.length_toList]
        omega
      apply List.ext_getElem?
      intro j
      rw [putAt_get hl, List.getElem?_take, List.getElem?_take, putAt_get hl'.1]
      by_cases h3 : off ≤ j ∧ j < off + vs.length
      · rw [if_pos h3, if_pos (by omega), if_pos h3]
      · rw [if_neg h3, if_neg h3]
theorem setCells_one (w : World) (g off : Nat) (v : Value) : w.setCells g off [v] = w.setCell ⟨g, off, none⟩ v := rfl
theorem row_cell_there (h : Mem W w fs) {i g m c : Nat} {e : TypeId} {size : Nat} {xs : List Value} (hi : fs[i]? = some (.row (.slice (some ⟨g, 0, none⟩) m c) m xs e size)) (off k : Nat) (hl : off + k ≤ xs.length) : w.there g off k := by
  have ho := h.own hi
  obtain ⟨hlen, h2⟩ := ho
  rcases h2 with ⟨h3, _⟩ | ⟨g', cap, cur, hv, hb, hg, hnc, hcm, hcs, ht⟩
  · cases h3
  · injection hv with hv hv2 hv3
    injection hv with hv
    injection hv with hv
    subst hv; subst hv3
    have hcur : m * size ≤ cur.size := by rw [hcs]; exact Nat.mul_le_mul_right _ hnc
    exact there_of_block hg off k (by omega)
/-- A store of one cell into a row. -/
theorem e_storeRow (HF : Fr a n D σ) (HM : Mem W w fs) {t : TypeId} {x y : Operand} {i g off m c : Nat} {xs : List Value} {e : TypeId} {size : Nat} (hop : o.op = .store t x y) (hd : o.dst = none) (hx : look σ x = some (.pointer (some ⟨g, off, none⟩))) (hy : look σ y = some v) (hs : (P.info? t).map (·.size) = some 1) (hv : v.oneCell' = true)
    (hi : fs[i]? = some (.row (.slice (some ⟨g, 0, none⟩) m c) m xs e size)) (ho : off < xs.length) (k : ∀ w', Mem W w' (fs.set i (.row (.slice (some ⟨g, 0, none⟩) m c) m (putAt xs off [v]) e size)) → K a w') : o.wp P a w K Q := by
  have ht := row_cell_there HM hi off 1 (by omega) 0 (by omega)
  rw [Nat.add_zero] at ht
  obtain ⟨u, hu⟩ := Option.isSome_iff_exists.1 ht.1
  unfold Oper.wp execOp
  simp only [hop, HF.eval hx, HF.eval hy, Sem.run_bind, run_storeCell hs hv hu ht.2, Result.andThen_ok, Sem.run_pure, Oper.upon_skip, hd]
  exact k _ (HM.rowSet hi (vs := [v]) ho)
/-- A store of a struct into a row. -/
theorem e_storeRowS (HF : Fr a n D σ) (HM : Mem W w fs) {t : TypeId} {x y : Operand} {i g off m c sz : Nat} {xs : List Value} {ds : Array Value} {e : TypeId} {size : Nat} (hop : o.op = .store t x y) (hd : o.dst = none) (hx : look σ x = some (.pointer (some ⟨g, off, none⟩))) (hy : look σ y = some (.agg ds)) (si : SI P t sz) (hm : ds.size = sz) (h1 : ∀ u ∈ ds.toList, u.oneCell' = true)
    (hi : fs[i]? = some (.row (.slice (some ⟨g, 0, none⟩) m c) m xs e size)) (ho : off + sz ≤ xs.length) (k : ∀ w', Mem W w' (fs.set i (.row (.slice (some ⟨g, 0, none⟩) m c) m (putAt xs off ds.toList) e size)) → K a w') : o.wp P a w K Q := by
  have hl := run_storeVar_mid (P := P) w g off t ds (by rw [hm]; exact row_cell_there HM hi off sz ho) (by rw [hm]; exact si.size) (by simpa using all_oneCell_toArray h1)
  unfold Oper.wp execOp
  simp only [hop, HF.eval hx, HF.eval hy, Sem.run_bind, Instr.storeAt, Instr.sureAddr, Sem.run_pure, hl, Result.andThen_ok, Oper.upon_skip, hd]
  exact k _ (HM.rowSet hi (by simpa [hm] using ho))
/-- An append that must grow: onto a slice of whatever memory. -/
theorem e_append_full (HF : Fr a n D σ) (HM : Mem W w fs) {s x : Operand} {t e : TypeId} {z : Value} {size bytes m0 cap m c B B' : Nat} {A A2 : Option Addr} {xs news : List Value} (hop : o.op = .call { callee := .builtin .append, args := #[s, x], argTypes := #[t, t] }) (ei : EI P t e z size bytes)
    (hs : look σ s = some (.slice A m0 cap)) (hx : look σ x = some (.slice A2 m c)) (hrs : Rd w B size A m0 xs) (hr : Rd w B' size A2 m news) (hm : 0 < m) (hg : cap < m0 + m) (hnone : A = none → m0 = 0 ∧ cap = 0) (hb : (m0 + m) * bytes ≤ 140737488355328) (h63 : m0 + m ≤ 9223372036854775807)
    (hd : o.dst = some d) (hdn : d < n) (k : ∀ a' w' g c', Fr a' n D ((d, .slice (some ⟨g, 0, none⟩) (m0 + m) c') :: σ) → Mem W w' (.row (.slice (some ⟨g, 0, none⟩) (m0 + m) c') (m0 + m) (xs ++ news) e size :: fs) → m0 + m ≤ c' → K a' w') : o.wp P a w K Q := by
  obtain ⟨i, hi, hz, hsz, hby⟩ := info_parts ei.hi
  obtain ⟨ad, hA2, _, hcells⟩ := hr.row hm
  subst hA2
  have hlen : (xs ++ news).length = (m0 + m) * size := by rw [List.length_append, hrs.len, hr.len, Nat.add_mul]
  obtain ⟨c', w', hrun, hw'⟩ : ∃ c' w', (Builtin.append_ #[t, t] o.type #[.slice A m0 cap, .slice (some ad) m c]).run P w = .ok (.slice (some ⟨w.heap.size, 0, none⟩) (m0 + m) c') w' ∧
      (m0 + m ≤ c' ∧ c' ≤ maxLen ∧ w' = w.drew.alloc (.cells (xs.toArray ++ news.toArray ++ Builtin.zeroCells z.cells (c' - (m0 + m))) e)) := by
    cases A with
    | none =>
      obtain ⟨rfl, rfl⟩ := hnone rfl
      have hx0 : xs = [] := List.eq_nil_of_length_eq_zero (by simpa using hrs.len)
      subst hx0
      have hr2 := run_append_nil (P := P) w t o.type e i z ei.ht hi hz ad m c news (by rw [hsz]; exact hr.len) hcells hm (by omega) (by rw [hby]; rw [Nat.zero_add] at hb; omega)
      refine ⟨_, _, by rw [Nat.zero_add]; exact hr2, ?_, ?_, ?_⟩
      · rw [Nat.zero_add]; exact grownCap_ge w m 0 e
      · exact grownCap_le_maxLen w m 0 e (by unfold maxLen; omega)
      · simp
    | some b =>
      have holds : ∀ j u, xs[j]? = some u → w.cell? (b.add j) = some u := by
        intro j u hu
        rcases Nat.eq_zero_or_pos m0 with h0 | h0
        · have hl0 := hrs.len
          rw [h0, Nat.zero_mul] at hl0
          rw [List.eq_nil_of_length_eq_zero hl0] at hu
          simp at hu
        · obtain ⟨ad', h1, _, h2⟩ := hrs.row h0
          injection h1 with h1
          subst h1
          exact h2 j u hu
      have hr2 := run_append_grow (P := P) w t o.type e i z ei.ht hi hz b m0 cap xs (by rw [hsz]; exact hrs.len) holds ad m c news (by rw [hsz]; exact hr.len) hcells hg (by omega) (by rw [hby]; exact growslice_fits hg hb)
      exact ⟨_, _, hr2, grownCap_ge w (m0 + m) cap e, grownCap_le_maxLen w (m0 + m) cap e (by unfold maxLen; omega), rfl⟩
  obtain ⟨h1, h2, rfl⟩ := hw'
  have hown : (w.drew.alloc (.cells (xs.toArray ++ news.toArray ++ Builtin.zeroCells z.cells (c' - (m0 + m))) e)).ownsRow w.heap.size e size (.slice (some ⟨w.heap.size, 0, none⟩) (m0 + m) c') (m0 + m) (xs ++ news) := by
    refine ⟨hlen, .inr ⟨w.heap.size, _, _, rfl, Nat.le_refl _, World.alloc_heap_new w.drew _, h1, h2, ?_, ?_⟩⟩
    · simp only [Array.size_append, List.size_toArray, size_zeroCells, ei.hz, hrs.len, hr.len, ← Nat.add_mul]
      congr 1
      omega
    · simp only [Array.toList_append, List.append_assoc]
      rw [← List.append_assoc, ← hlen]
      exact List.take_left
  unfold Oper.wp execOp
  simp only [hop, resolve, invoke, builtin, Sem.run_bind, Sem.run_pure, Result.andThen_ok, List.map_toArray, List.map_cons, List.map_nil, HF.eval hs, HF.eval hx, hrun]
  rw [Oper.upon_value, hd]
  exact k _ _ w.heap.size c' (HF.put hdn _) (HM.callRow ((Below.refl _ _).drew.alloc (by simp) _) hown) h1
/-- Another spelling of what a row holds. -/
theorem Mem.asRow (h : Mem W w fs) {i m : Nat} {e : TypeId} {size : Nat} {xs ys : List Value} (hi : fs[i]? = some (.row v m xs e size)) (he : xs = ys) : Mem W w (fs.set i (.row v m ys e size)) := by
  subst he
  obtain ⟨hl, hg⟩ := List.getElem?_eq_some_iff.1 hi
  rw [← hg, List.set_getElem_self]
  exact h
end
/-- An element of a list of structs is replaced. -/
theorem putAt_flat {α : Type} (f : α → List Value) (sz : Nat) (hf : ∀ x, (f x).length = sz) : ∀ (l : List α) (k : Nat) (x : α), k < l.length → putAt (l.flatMap f) (k * sz) (f x) = (l.set k x).flatMap f
  | [], k, x, h => by simp at h
  | y :: r, 0, x, h => by
    unfold putAt
    rw [Nat.zero_mul, Nat.zero_add, hf, List.flatMap_cons, List.set_cons_zero, List.flatMap_cons, List.take_zero, List.nil_append, List.drop_append_of_le_length (by rw [hf]; exact Nat.le_refl _), List.drop_of_length_le (by rw [hf]; exact Nat.le_refl _), List.nil_append]
  | y :: r, k + 1, x, h => by
    have ih := putAt_flat f sz hf r k x (by simpa using h)
    unfold putAt at ih ⊢
    rw [List.flatMap_cons, List.set_cons_succ, List.flatMap_cons, ← ih, Nat.succ_mul]
    have e1 : (f y ++ r.flatMap f).take (k * sz + sz) = f y ++ (r.flatMap f).take (k * sz) := by
      rw [List.take_append, List.take_of_length_le (by rw [hf]; omega), hf, Nat.add_sub_cancel]
    have e2 : (f y ++ r.flatMap f).drop (k * sz + sz + (f x).length) = (r.flatMap f).drop (k * sz + (f x).length) := by
      rw [List.drop_append, List.drop_of_length_le (by rw [hf]; omega), List.nil_append, hf y]
      congr 1
      omega
    rw [e1, e2]
    simp only [List.append_assoc]
/-- A cell of an element is replaced. -/
theorem putAt_cell {α : Type} (f : α → List Value) (sz : Nat) (hf : ∀ x, (f x).length = sz) (l : List α) (k : Nat) (y x : α) (hk : l[k]? = some y) (off : Nat) (ho : off < sz) (v : Value) (hx : f x = (f y).set off v) : putAt (l.flatMap f) (k * sz + off) [v] = (l.set k x).flatMap f := by
  obtain ⟨hl, he⟩ := List.getElem?_eq_some_iff.1 hk
  rw [← putAt_flat f sz hf l k x hl, hx]
  have hlen := flat_len f sz hf l
  have hsz : k * sz + sz ≤ l.length * sz := by rw [← Nat.succ_mul]; exact Nat.mul_le_mul_right _ hl
  have hfl : ((f y).set off v).length = sz := by rw [List.length_set, hf]
  apply List.ext_getElem?
  intro j
  rw [putAt_get (by rw [List.length_singleton]; omega), putAt_get (by rw [hfl]; omega), hfl, List.length_singleton]
  by_cases h1 : k * sz ≤ j ∧ j < k * sz + sz
  · rw [if_pos h1]
    have hat := flat_at f sz hf l k (j - k * sz) hl (by omega)
    rw [he, show k * sz + (j - k * sz) = j by omega] at hat
    by_cases h2 : k * sz + off ≤ j ∧ j < k * sz + off + 1
    · obtain rfl : j = k * sz + off := by omega
      rw [if_pos h2, Nat.sub_self, show k * sz + off - k * sz = off by omega, List.getElem?_set_self (by rw [hf]; exact ho)]
      rfl
    · rw [if_neg h2, hat, List.getElem?_set_ne (by omega)]
  · rw [if_neg h1, if_neg (by omega)]
theorem Yl.slice3 {P : Program} {S : World → Prop} {σ : List (Nat × Value)} {o : Oper} {t e : TypeId} {z : Value} {size bytes : Nat} (ei : EI P t e z size bytes) {x hi mx : Operand} {A : Option Addr} {m c j i : Nat} {k k' : IntKind} (hop : o.op = .slice t x none (some hi) (some mx)) (hx : look σ x = some (.slice A m c)) (hh : look σ hi = some (.int k (j : Int))) (hm : look σ mx = some (.int k' (i : Int))) (hj : j ≤ i) (hi' : i ≤ c) :
    Yl P S σ o (.slice A j i) := fun a n D HF w hS => by
  obtain ⟨inf, hinf, _, hs, _⟩ := info_parts ei.hi
  have h0 : A.map (·.add 0) = A := by cases A <;> simp [Addr.add]
  have e1 : (Instr.sliceAt t (.slice A m c) none (some (.int k (j : Int))) (some (.int k' (i : Int)))).run P w = .ok (.slice A j i) w := by
    simp [Instr.sliceAt, run_underlying ei.ht, Instr.slice, Instr.sliceBounds, Instr.sliceBound, asIntOf, hj, hi', sizeOf, typeInfo, hinf, h0]
  unfold execOp
  simp only [hop, HF.eval hx, HF.eval hh, HF.eval hm, Option.map_some, Option.map_none, Sem.run_bind, e1, Result.andThen_ok]
  rfl
/-- A cell of the struct at k of a row of the call's own. -/
theorem Mem.rowCell {W w : World} {fs : List Fact} (h : Mem W w fs) {α : Type} {f : α → List Value} {sz : Nat} (hf : ∀ x, (f x).length = sz) {i g m c : Nat} {e : TypeId} {l : List α} (hi : fs[i]? = some (.row (.slice (some ⟨g, 0, none⟩) m c) m (l.flatMap f) e sz)) {k off : Nat} {x : α} {v : Value} (hk : l[k]? = some x) (hv : (f x)[off]? = some v) : w.cell? ⟨g, k * sz + off, none⟩ = some v := by
  obtain ⟨hl, he⟩ := List.getElem?_eq_some_iff.1 hk
  have ho : off < sz := by have := (List.getElem?_eq_some_iff.1 hv).1; rwa [hf] at this
  have := h.rowRange hi (k * sz + off) (ys := [v]) (fun j u hu => by
    cases j with
    | zero =>
      injection hu with hu
      subst hu
      rw [Nat.add_zero, flat_at f sz hf l k off hl ho, he]
      exact hv
    | succ j => cases hu)
  exact this 0 v rfl
end Go.Proofs.YtpekelggcmgnnaaDoor

/- Generic: reads through a slice that came in, or of a row of the call's own, element by element. No program is in sight. -/
namespace Go.Proofs.YtpekelggcmgnnaaDoor
open Go.RowKit

section
variable {w : World} {B size n : Nat} {A : Option Addr} {xs : List Value} {g o : Nat}
theorem Rd.some_at (h : Rd w B size A n xs) (hn : 0 < n) (hs : 0 < size) : ∃ g o, A = some ⟨g, o, none⟩ ∧ g < B := by
  obtain ⟨ad, rfl, hb, hc⟩ := h.row hn
  have hl := h.len
  have h1 : n * size ≥ 1 * 1 := Nat.mul_le_mul hn hs
  have hsp := spot_none (hc 0 _ (List.getElem?_eq_getElem (by omega)))
  have hs' : ad.spot = none := by simpa [Addr.add] using hsp
  obtain ⟨g, o, sp⟩ := ad
  cases hs'
  exact ⟨g, o, rfl, hb⟩
theorem Rd.range (h : Rd w B size (some ⟨g, o, none⟩) n xs) : w.rangeAt g o xs := fun j u hu => by
  have hj := (List.getElem?_eq_some_iff.1 hu).1
  rcases Nat.eq_zero_or_pos n with rfl | hn
  · have := h.len; omega
  · obtain ⟨ad, e, hb, hc⟩ := h.row hn
    injection e with e
    subst e
    have := hc j u hu
    rwa [Addr.add_mid] at this
theorem Rd.oneAt1 (h : Rd w B 1 (some ⟨g, o, none⟩) n xs) {k : Nat} {u : Value} (hu : xs[k]? = some u) : w.cell? ⟨g, o + k * 1, none⟩ = some u := by rw [Nat.mul_one]; exact h.range k u hu
theorem Rd.structAt {α : Type} {f : α → List Value} (hf : ∀ x, (f x).length = size) {l : List α} (h : Rd w B size (some ⟨g, o, none⟩) n (l.flatMap f)) {k : Nat} {x : α} (hk : l[k]? = some x) : w.rangeAt g (o + k * size) (f x) := fun j u hu => by
  obtain ⟨hl, he⟩ := List.getElem?_eq_some_iff.1 hk
  have hj : j < size := by have := (List.getElem?_eq_some_iff.1 hu).1; rwa [hf] at this
  have h1 := h.range (k * size + j) u ((flat_at f size hf l k j hl hj).trans (by rw [he]; exact hu))
  rw [← Nat.add_assoc] at h1
  exact h1
theorem Rd.partAt {α : Type} {f : α → List Value} (hf : ∀ x, (f x).length = size) {l : List α} (h : Rd w B size (some ⟨g, o, none⟩) n (l.flatMap f)) {k j : Nat} {x : α} {u : Value} (hk : l[k]? = some x) (hu : (f x)[j]? = some u) : w.cell? ⟨g, o + k * size + j, none⟩ = some u := h.structAt hf hk j u hu
end
section
variable {W w : World} {fs : List Fact}
theorem Mem.rowOne (h : Mem W w fs) {i g m c : Nat} {e : TypeId} {xs : List Value} (hi : fs[i]? = some (.row (.slice (some ⟨g, 0, none⟩) m c) m xs e 1)) {k : Nat} {u : Value} (hu : xs[k]? = some u) : w.cell? ⟨g, k * 1, none⟩ = some u := by
  have h1 := h.rowAll hi k u hu
  rwa [Nat.zero_add, ← Nat.mul_one k] at h1
/-- A row under another spelling. -/
theorem Mem.reRow (h : Mem W w fs) {i n n' : Nat} {A : Option Addr} {c size : Nat} {e : TypeId} {xs ys : List Value} (hi : fs[i]? = some (.row (.slice A n c) n xs e size)) (hn : n = n') (hx : xs = ys) : Mem W w (fs.set i (.row (.slice A n' c) n' ys e size)) := by
  subst hn; subst hx
  obtain ⟨hl, he⟩ := List.getElem?_eq_some_iff.1 hi
  rw [← he, List.set_getElem_self]
  exact h
end
theorem map_at {α : Type} {F : α → Value} {l : List α} {k : Nat} {x : α} (h : l[k]? = some x) : (l.map F)[k]? = some (F x) := by rw [List.getElem?_map, h]; rfl
/-- A string against the empty one. -/
theorem str_empty {s : ByteArray} {b : Bool} (h : s.toList.isEmpty = b) : (s.toList == (ByteArray.mk #[]).toList) = b := by
  rw [← h, show (ByteArray.mk #[]).toList = [] from by rw [ByteArray.toList_eq]]
  cases s.toList <;> rfl
section
variable {P : Program} {Q : Exit → Act → World → Prop} {a : Act} {W w : World} {n d : Nat} {D : List Deferred} {σ : List (Nat × Value)} {o : Oper} {K : Act → World → Prop} {fs : List Fact}
/-- make of an empty slice with room. -/
theorem e_make0 (HF : Fr a n D σ) (HM : Mem W w fs) {t e : Nat} {l c : Operand} {z : Value} {size bytes m : Nat} {kl kc : IntKind} (hop : o.op = .makeSlice t l c) (ei : EI P t e z size bytes) (hl : look σ l = some (.int kl 0)) (hc : look σ c = some (.int kc (m : Int))) (hb : bytes * m ≤ 281474976710656) (h63 : m ≤ 9223372036854775807) (hd : o.dst = some d) (hdn : d < n)
    (k : ∀ a' w' g, Fr a' n D ((d, .slice (some ⟨g, 0, none⟩) 0 m) :: σ) → Mem W w' (.row (.slice (some ⟨g, 0, none⟩) 0 m) 0 [] e size :: fs) → K a' w') : o.wp P a w K Q := by
  obtain ⟨i, hi, hz, hsz, hby⟩ := info_parts ei.hi
  obtain ⟨w', hrun, hown, hgr⟩ := run_make_own (P := P) w w.heap.size t e i z size ei.ht hi hz hsz kl kc m (by rw [hby]; exact hb) h63 (Nat.le_refl _)
  have e1 : (execOp a.eval o).run P w = .ok (.value (.slice (some ⟨w.heap.size, 0, none⟩) 0 m)) w' := by
    unfold execOp
    simp only [hop, HF.eval hl, HF.eval hc, Sem.run_bind]
    rw [hrun]
    rfl
  unfold Oper.wp
  rw [e1, Oper.upon_value, hd]
  exact k _ _ _ (HF.put hdn _) (HM.callRow ((Below.refl _ _).grown hgr (Nat.le_refl _) (fun _ h => by cases h)) hown)
/-- make of a slice of so many zeros. -/
theorem e_makeN (HF : Fr a n D σ) (HM : Mem W w fs) {t e : Nat} {l c : Operand} {z : Value} {size bytes m : Nat} {kl kc : IntKind} (hop : o.op = .makeSlice t l c) (ei : EI P t e z size bytes) (hl : look σ l = some (.int kl (m : Int))) (hc : look σ c = some (.int kc (m : Int))) (hb : bytes * m ≤ 281474976710656) (h63 : m ≤ 9223372036854775807) (hd : o.dst = some d) (hdn : d < n)
    (k : ∀ a' w' g, Fr a' n D ((d, .slice (some ⟨g, 0, none⟩) m m) :: σ) → Mem W w' (.row (.slice (some ⟨g, 0, none⟩) m m) m (madeCells z.cells (m * size)).toList e size :: fs) → K a' w') : o.wp P a w K Q := by
  obtain ⟨i, hi, hz, hsz, hby⟩ := info_parts ei.hi
  obtain ⟨w', hrun, hown, hgr⟩ := run_make_full (P := P) w w.heap.size t e i z size ei.ht hi hz hsz kl kc m (by rw [hby]; exact hb) h63 (Nat.le_refl _)
  have e1 : (execOp a.eval o).run P w = .ok (.value (.slice (some ⟨w.heap.size, 0, none⟩) m m)) w' := by
    unfold execOp
    simp only [hop, HF.eval hl, HF.eval hc, Sem.run_bind]
    rw [hrun]
    rfl
  unfold Oper.wp
  rw [e1, Oper.upon_value, hd]
  exact k _ _ _ (HF.put hdn _) (HM.callRow ((Below.refl _ _).grown hgr (Nat.le_refl _) (fun _ h => by cases h)) hown)
end
/-- The first elements of a longer row. -/
theorem Rd.pre {w : World} {B n m : Nat} {A : Option Addr} {l r : List Nat} (h : Rd w B 1 A m ((l ++ r).map B8)) (hl : l.length = n) (hm : n ≤ m) : Rd w B 1 A n (l.map B8) := by
  have h1 := h.upto hm
  rwa [Nat.mul_one, List.map_append, List.take_append_of_le_length (by simp [hl]), List.take_of_length_le (by simp [hl])] at h1
end Go.Proofs.YtpekelggcmgnnaaDoor

/- Generic: a part of a block read as a struct; one cell of a row of numbers put. No program is in sight. -/
namespace Go.Proofs.YtpekelggcmgnnaaDoor
open Go.RowKit

theorem Mem.sub {W w : World} {fs : List Fact} (h : Mem W w fs) {i g : Nat} {cs : Array Value} {t : TypeId} (hi : fs[i]? = some (.blk g cs t)) (off : Nat) {ds : Array Value} (he : (cs.toList.drop off).take ds.size = ds.toList) : w.rangeAt g off ds.toList := fun j u hu => by
  have hr : w.rangeAt g 0 cs.toList := range_of_block (h.blk hi)
  have hc : cs.toList[off + j]? = some u := by
    rw [← he, List.getElem?_take] at hu
    split at hu
    · rwa [List.getElem?_drop] at hu
    · cases hu
  have := hr (off + j) u hc
  rwa [Nat.zero_add] at this
theorem putAt_one {α : Type} (F : α → Value) (l : List α) (k : Nat) (x : α) (hk : k < l.length) : putAt (l.map F) (k * 1) [F x] = (l.set k x).map F := by
  have h1 : ∀ l : List α, l.map F = l.flatMap fun x => [F x] := fun l => by induction l with
    | nil => rfl
    | cons a r ih => rw [List.map_cons, List.flatMap_cons, ih]; rfl
  rw [h1, h1, ← putAt_flat (fun x => [F x]) 1 (fun _ => rfl) l k x hk]
end Go.Proofs.YtpekelggcmgnnaaDoor

/- Generic: an append of nothing; a prefix of a row of bytes; numbers as cells. No program is in sight. -/
namespace Go.Proofs.YtpekelggcmgnnaaDoor
open Go.RowKit

theorem src_none {P : Program} (w : World) {size : Nat} {tx e' : TypeId} (hk : P.underlying tx = some (.slice e')) (A : Option Addr) (c : Nat) : Src P size tx (.slice A 0 c) 0 [] w := by
  cases A with
  | none => exact Src.ofNil w hk c
  | some a => exact Src.ofSlice w hk a 0 c [] (by simp) (fun j u h => by simp at h) (by simp)
section
variable {P : Program} {S : World → Prop} {σ : List (Nat × Value)} {o : Oper}
theorem Yl.appendNothing {t e : TypeId} {z : Value} {size bytes m cap c : Nat} {A A2 : Option Addr} {s x : Operand} (hop : o.op = .call { callee := .builtin .append, args := #[s, x], argTypes := #[t, t] }) (ei : EI P t e z size bytes) (hs : look σ s = some (.slice A m cap)) (hx : look σ x = some (.slice A2 0 c)) (hm : m ≤ cap) :
    Yl P S σ o (.slice A m cap) := fun a n D HF w hS => by
  obtain ⟨i, hi, hz, hsz, hby⟩ := info_parts ei.hi
  have hrun := run_append_nothing (P := P) w t t o.type e i ei.ht hi A m cap hm (.slice A2 0 c) (src_none w ei.ht A2 c)
  unfold execOp
  simp only [hop, resolve, invoke, builtin, Sem.run_bind, Sem.run_pure, Result.andThen_ok, List.map_toArray, List.map_cons, List.map_nil, HF.eval hs, HF.eval hx, hrun]
end
theorem Rd.toB8 {w : World} {B n k : Nat} {A : Option Addr} {l : List Nat} (h : Rd w B 1 A n (l.map B8)) (hk : k ≤ n) : Rd w B 1 A k ((l.take k).map B8) := by
  have h1 := h.upto hk
  rwa [Nat.mul_one, ← List.map_take] at h1
def I64i (x : Int) : Value := .int .i64 x
end Go.Proofs.YtpekelggcmgnnaaDoor

/- The steps at bytes and strings; contracts of the codec in the form that the walks take. -/
namespace Go.Proofs.YtpekelggcmgnnaaDoor
open Go.RowKit

theorem Yl.str {S : World → Prop} {σ : List (Nat × Value)} {o : Oper} {x : Operand} {A : Option Addr} {n c : Nat} {l : List Nat} (hop : o.op = .convert 25 9 x) (hx : look σ x = some (.slice A n c)) (hr : ∀ w, S w → Rd w w.heap.size 1 A n (l.map B8)) : Yl Tryd.prog S σ o (.string (bstr l)) := fun a m D HF w hS => by
  unfold execOp
  simp [hop, HF.eval hx, conv_u8 (hr w hS)]
theorem one_B8 (l : List Nat) : ∀ u ∈ l.map B8, u.oneCell' = true := by
  intro u hu
  obtain ⟨x, _, rfl⟩ := List.mem_map.1 hu
  rfl
theorem Rd.fromB8 {w : World} {B n k cap : Nat} {A : Option Addr} {l : List Nat} (h : Rd w B 1 A n (l.map B8)) (hk : k ≤ n) (hc : n ≤ cap) : Rd w B 1 (if cap = k then A else A.map (·.add (k * 1))) (n - k) ((l.drop k).map B8) := by
  have h1 := h.from hk hc
  rw [List.map_drop]
  have e : (l.map B8).drop (k * 1) = (l.map B8).drop k := by rw [Nat.mul_one]
  rw [← e]
  exact h1
theorem bstr_eq (l : List Nat) : ((bstr l).toList == (bstr l).toList) = true := by simp
theorem Laid.mem {B : Nat} {W w : World} {fs : List Fact} (h : Laid B W) (hM : Mem W w fs) (hB : B ≤ W.heap.size) : Laid B w := h.below hM.below hB
theorem Mem.le {W w : World} {fs : List Fact} (h : Mem W w fs) {B : Nat} (hB : B ≤ W.heap.size) : B ≤ w.heap.size := Nat.le_trans hB h.size
theorem i64_as {x : Int} (h : -9223372036854775808 ≤ x ∧ x ≤ 9223372036854775807) : Value.int .i64 (IntKind.i64.wrap x) = .int .i64 x := by rw [IntWalk.i64_in x h]
/-- Bytes that a callee hands over, and a number beside them. -/
def BytesIs (w : World) (er : Nat) (R : List Nat) (r : Ending) (w' : World) : Prop :=
  (∃ A c, r = .returned (.tuple #[.slice A R.length c, .int .i64 (er : Int)]) ∧ w'.ownsRow w.heap.size 5 1 (.slice A R.length c) R.length (R.map B8) ∧ R.length ≤ c) ∧ Below w.heap.size w w'
theorem BytesPost.is {w w' : World} {r : Ending} {er er' : Nat} {R R' : List Nat} (h : BytesPost w er R r w') (h1 : er = er') (h2 : R = R') : BytesIs w er' R' r w' := by
  subst h1; subst h2
  obtain ⟨⟨v, rfl, ho⟩, hb⟩ := h
  obtain ⟨A, c, rfl, hc⟩ := own_slice ho
  exact ⟨⟨A, c, rfl, ho, hc⟩, hb⟩
theorem put_is (b : Bs) (e : Ev) (he : e.Ok) (B : Nat) (w : World) (hL : Laid B w) (hB : B ≤ w.heap.size) {er : Nat} {R : List Nat} (h1 : putErr b e = er) (h2 : putOut b e = R) :
    Calls Tryd.prog 18 #[.agg b.cells, .agg e.cells] w (BytesIs w er R) :=
  (put1_any b e he B w hL hB).mono fun _ _ h => h.is h1 h2
theorem write_is (b : Bs) (A : Option Addr) (n c : Nat) (l : List Ev) (hok : ∀ e ∈ l, e.Ok) (B : Nat) (w : World) (hL : Laid B w) (hB : B ≤ w.heap.size) (hr : Rd w w.heap.size 11 A n (l.flatMap evL)) (hn : n ≤ 1000000000000) {er : Nat} {R : List Nat} (h1 : writeErr b l = er) (h2 : writeOut b l = R) :
    Calls Tryd.prog 14 #[.agg b.cells, .slice A n c] w (BytesIs w er R) :=
  (write_any b A n c l hok B w hL hB hr hn).mono fun _ _ h => h.is h1 h2
section
variable {P : Program} {S : World → Prop} {σ : List (Nat × Value)} {o : Oper} {t e : TypeId} {z : Value} {size bytes : Nat}
theorem Yl.sliceFrom (ei : EI P t e z size bytes) {x lo : Operand} {A : Option Addr} {m c j : Nat} {k : IntKind} (hop : o.op = .slice t x (some lo) none none) (hx : look σ x = some (.slice A m c)) (hl : look σ lo = some (.int k (j : Int))) (hj : j ≤ m) :
    Yl P S σ o (.slice (if c = j then A else A.map (·.add (j * size))) (m - j) (c - j)) := fun a n D HF w hS => by
  unfold execOp
  simp only [hop, HF.eval hx, HF.eval hl, Option.map_some, Option.map_none, Sem.run_bind, Sem.run_pure, slice_from_run (P := P) ei hj, Result.andThen_ok]
theorem Yl.sliceUpto (ei : EI P t e z size bytes) {x hi : Operand} {A : Option Addr} {m c j : Nat} {k : IntKind} (hop : o.op = .slice t x none (some hi) none) (hx : look σ x = some (.slice A m c)) (hl : look σ hi = some (.int k (j : Int))) (hj : j ≤ c) :
    Yl P S σ o (.slice A j c) := fun a n D HF w hS => by
  unfold execOp
  simp only [hop, HF.eval hx, HF.eval hl, Option.map_some, Option.map_none, Sem.run_bind, Sem.run_pure, slice_upto_run (P := P) ei hj, Result.andThen_ok]
end
section
variable {P : Program} {S : World → Prop} {σ : List (Nat × Value)} {o : Oper}
def placesOf (P : Program) : List Field → Option (List (Nat × Nat))
  | [] => some []
  | f :: r => match P.info? f.type, placesOf P r with
    | some i, some l => some ((f.offset, i.size) :: l)
    | _, _ => none
theorem placesOf_run : ∀ {fs : List Field} {l : List (Nat × Nat)}, placesOf P fs = some l → ∀ w, (fs.mapM fun f => (do pure (f.offset, ← sizeOf f.type) : Sem (Nat × Nat))).run P w = .ok l w
  | [], l, h, w => by cases h; rfl
  | f :: r, l, h, w => by
    unfold placesOf at h
    split at h
    · rename_i i l' hi hr
      injection h with h
      subst h
      simp [List.mapM_cons, sizeOf, typeInfo, hi]
      have := placesOf_run hr w
      simp [sizeOf, typeInfo] at this
      simp [this]
    · cases h
def buildCells (P : Program) (t : TypeId) (vs : List (Nat × Value)) : Option (Array Value) := match P.underlying t, zeroCells' P t with
  | some (.struct fs), some z => match placesOf P fs.toList with
    | some l => Instr.fill (l.toArray[·]?) z vs
    | none => none
  | _, _ => none
/-- A struct written out. -/
theorem Yl.build {t : TypeId} {ps : Array (Nat × Operand)} {vs : List (Nat × Value)} {cs : Array Value} (hop : o.op = .build t ps) (hv : partVals σ ps.toList = some vs) (hb : buildCells P t vs = some cs) : Yl P S σ o (.agg cs) := fun a n D HF w hS => by
  have hpm := partVals_arr HF hv
  have e1 : (Instr.build t (ps.map fun p => (p.1, a.eval p.2))).run P w = .ok (.agg cs) w := by
    rw [hpm]
    unfold buildCells at hb
    split at hb
    · rename_i fs z hu hz
      split at hb
      · rename_i l hl
        unfold zeroCells' at hz
        obtain ⟨zv, hz1, rfl⟩ := Option.map_eq_some_iff.1 hz
        obtain ⟨i, hi, hz2⟩ := Option.bind_eq_some_iff.1 hz1
        have hm : (fs.mapM fun f => (do Pure.pure (f.offset, ← sizeOf f.type) : Sem (Nat × Nat))).run P w = .ok l.toArray w := by
          rw [← Array.toArray_toList (xs := fs), List.mapM_toArray]
          simp only [Sem.run_map, placesOf_run hl]
          rfl
        unfold Instr.build
        simp only [Sem.run_bind, zeroValue, typeInfo, program, Sem.run, hi, hz2, Sem.run_pure, Result.andThen_ok, run_underlying hu, hm, hb]
      · cases hb
    · cases hb
  unfold execOp
  simp only [hop, Sem.run_bind, Sem.run_pure]
  show ((Instr.build t (ps.map fun p => (p.1, a.eval p.2))).run P w).andThen _ = _
  rw [e1]
  rfl
end
theorem own_some {w : World} {base : Nat} {e : TypeId} {size n c : Nat} {A : Option Addr} {xs : List Value} (h : w.ownsRow base e size (.slice A n c) n xs) (hn : 0 < n) : ∃ g, A = some ⟨g, 0, none⟩ := by
  obtain ⟨g, c', h1, _⟩ := own_at h hn
  injection h1 with h1 _ _
  exact ⟨g, h1⟩
/-- The struct at k of a row of the call's own. -/
theorem Mem.rowStruct {W w : World} {fs : List Fact} (h : Mem W w fs) {α : Type} {f : α → List Value} {sz : Nat} (hf : ∀ x, (f x).length = sz) {i g m c : Nat} {e : TypeId} {l : List α} (hi : fs[i]? = some (.row (.slice (some ⟨g, 0, none⟩) m c) m (l.flatMap f) e sz)) {k : Nat} {x : α} (hk : l[k]? = some x) : w.rangeAt g (k * sz) (f x) :=
  h.rowRange hi (k * sz) fun j u hu => by
    obtain ⟨hl, he⟩ := List.getElem?_eq_some_iff.1 hk
    have hj : j < sz := by have := (List.getElem?_eq_some_iff.1 hu).1; rwa [hf] at this
    rw [flat_at f sz hf l k j hl hj, he]
    exact hu
theorem row_is (A : Option Addr) (n c : Nat) (l : List Ev) (hok : ∀ e ∈ l, e.Ok) (B : Nat) (w : World) (hL : Laid B w) (hB : B ≤ w.heap.size) (hr : Rd w w.heap.size 11 A n (l.flatMap evL)) (hn : n ≤ 140737488355328) {i : Int} {er : Nat} (h : rowR l = (i, er)) :
    Calls Tryd.prog 21 #[.slice A n c] w fun r w' => r = .returned (.tuple #[.int .i64 i, .int .i64 (er : Int)]) ∧ Below w.heap.size w w' :=
  (row_any A n c l hok B w hL hB hr hn).mono fun _ _ p => ⟨by rw [p.ret, h], p.below⟩
theorem size_is (b : Bs) (e : Ev) (he : e.Ok) (B : Nat) (w : World) (hL : Laid B w) (hB : B ≤ w.heap.size) {L er : Nat} (h1 : (putOut b e).length = L) (h2 : putErr b e = er) :
    Calls Tryd.prog 25 #[.agg b.cells, .agg e.cells] w fun r w' => r = .returned (.tuple #[.int .i64 (L : Int), .int .i64 (er : Int)]) ∧ Below w.heap.size w w' :=
  (size_any b e he B w hL hB).mono fun _ _ p => ⟨by rw [p.1, h1, h2], p.2⟩
theorem take_is (b : Bs) (cpu : Nat) (hcpu : cpu < 256) (A : Option Addr) (n c : Nat) (l : List Nat) (B : Nat) (w : World) (hL : Laid B w) (hB : B ≤ w.heap.size) (hr : Rd w w.heap.size 1 A n (l.map B8)) (hc : n ≤ c) (hl : ∀ b ∈ l, b < 256) (hn : n ≤ 200000000000000) {e : Ev} {L er : Nat} (h : takeR b cpu l = (e, L, er)) :
    Calls Tryd.prog 20 #[.agg b.cells, .int .u8 (cpu : Int), .slice A n c] w fun r w' => r = .returned (.tuple #[.agg e.cells, .int .i64 (L : Int), .int .i64 (er : Int)]) ∧ Below w.heap.size w w' :=
  (take_any b cpu hcpu A n c l B w hL hB hr hc hl hn).mono fun _ _ p => ⟨by rw [p.ret, h], p.below⟩
theorem read_is (b : Bs) (cpu : Nat) (hcpu : cpu < 256) (A : Option Addr) (n c : Nat) (m : Int) (hm : I64 m) (l : List Nat) (B : Nat) (w : World) (hL : Laid B w) (hB : B ≤ w.heap.size) (hr : Rd w w.heap.size 1 A n (l.map B8)) (hc : n ≤ c) (hl : ∀ b ∈ l, b < 256) (hn : n ≤ 200000000000000) (hlim : ReadLim m l) {es : List Ev} {L er : Nat} (h : readR b cpu m l = (es, L, er)) :
    Calls Tryd.prog 13 #[.agg b.cells, .int .u8 (cpu : Int), .int .i64 m, .slice A n c] w fun r w' => (∃ A c, r = .returned (.tuple #[.slice A es.length c, .int .i64 (L : Int), .int .i64 (er : Int)]) ∧ w'.ownsRow w.heap.size 37 11 (.slice A es.length c) es.length (es.flatMap evL) ∧ es.length ≤ c) ∧ Below w.heap.size w w' :=
  (cread_any b cpu hcpu A n c m hm l B w hL hB hr hc hl hn hlim).mono fun r w' p => by
    rw [h] at p
    obtain ⟨⟨v, rfl, ho⟩, hb⟩ := p
    obtain ⟨A, c, rfl, hc⟩ := own_slice ho
    exact ⟨⟨A, c, rfl, ho, hc⟩, hb⟩
end Go.Proofs.YtpekelggcmgnnaaDoor

/- Two events are compared. -/
namespace Go.Proofs.YtpekelggcmgnnaaDoor
open Go.RowKit

def intAt (xs : Array Value) (i : Nat) : Int := match xs[i]? with
  | some (.int _ n) => n
  | _ => 0
def eqFieldB (P : Program) (f : Field) (i : Nat) : Bool := f.name != "_" && (f.offset == i && (isOne P f.type && match P.underlying f.type with
  | some (.int _) => true
  | _ => false))
theorem eqFields_ints {P : Program} (d : Nat) (xs ys : Array Value) : ∀ (fs : List Field) (i : Nat) (w : World), (∀ j, j < fs.length → ∃ f k a b, fs[j]? = some f ∧ eqFieldB P f (i + j) = true ∧ xs[i + j]? = some (.int k a) ∧ ys[i + j]? = some (.int k b)) →
    (Op.eqFields (d + 1) xs ys fs).run P w = .ok ((List.range fs.length).all fun j => intAt xs (i + j) == intAt ys (i + j)) w
  | [], i, w, _ => rfl
  | f :: fs, i, w, h => by
    obtain ⟨f', k, a, b, hf, hb, hx, hy⟩ := h 0 (by simp)
    simp only [List.getElem?_cons_zero, Option.some.injEq] at hf
    subst hf
    simp only [eqFieldB, Bool.and_eq_true, bne_iff_ne, beq_iff_eq, Nat.add_zero] at hb
    obtain ⟨h1, h2, h3, h4⟩ := hb
    rw [Nat.add_zero] at hx hy
    have ih := eqFields_ints d xs ys fs (i + 1) w (fun j hj => by
      obtain ⟨f, k, a, b, hf, hb, hx, hy⟩ := h (j + 1) (by simpa using hj)
      refine ⟨f, k, a, b, by simpa using hf, ?_, ?_, ?_⟩
      · rw [show i + 1 + j = i + (j + 1) by omega]; exact hb
      · rw [show i + 1 + j = i + (j + 1) by omega]; exact hx
      · rw [show i + 1 + j = i + (j + 1) by omega]; exact hy)
    have hu : ∃ k', P.underlying f.type = some (.int k') := by
      split at h4
      · rename_i k' hk; exact ⟨k', hk⟩
      · cases h4
    obtain ⟨k', hu⟩ := hu
    have hxi : intAt xs i = a := by simp [intAt, hx]
    have hyi : intAt ys i = b := by simp [intAt, hy]
    have e : (List.range (f :: fs).length).all (fun j => intAt xs (i + j) == intAt ys (i + j)) = ((a == b) && (List.range fs.length).all fun j => intAt xs (i + 1 + j) == intAt ys (i + 1 + j)) := by
      rw [List.length_cons, List.range_succ_eq_map, List.all_cons, Nat.add_zero, hxi, hyi, List.all_map]
      congr 2
      funext j
      simp only [Function.comp_apply, Nat.succ_eq_add_one]
      rw [show i + (j + 1) = i + 1 + j by omega]
    rw [e]
    unfold Op.eqFields
    rw [if_pos h1]
    simp only [Sem.run_bind, part, isAgg_one h3, Result.andThen_ok, Bool.false_eq_true, if_false, h2, hx, hy, Sem.run_pure, run_equalIn_int w d f.type k k' a b hu]
    cases hab : (a == b)
    · simp
    · simp [ih]
def evTypeOk (P : Program) (t : TypeId) : Bool := !P.stoodInHeld t && (!P.eqGuardType P.depth t && ((P.fieldsOf t).size == 11 && ((List.range 11).all fun i => match (P.fieldsOf t).toList[i]? with
  | some f => eqFieldB P f i
  | none => false)))
theorem isStruct_of {P : Program} {t : TypeId} (h : (P.fieldsOf t).size = 11) : P.underlying t = some (.struct (P.fieldsOf t)) := by
  unfold Program.fieldsOf at h ⊢
  split at h
  · rename_i fs hu; rw [hu]
  · cases h
theorem ev_at_int (e : Ev) : ∀ i, i < 11 → ∃ k, e.cells[i]? = some (.int k (intAt e.cells i)) ∧ ∀ e' : Ev, e'.cells[i]? = some (.int k (intAt e'.cells i)) := by
  intro i hi
  have h : i = 0 ∨ i = 1 ∨ i = 2 ∨ i = 3 ∨ i = 4 ∨ i = 5 ∨ i = 6 ∨ i = 7 ∨ i = 8 ∨ i = 9 ∨ i = 10 := by omega
  rcases h with rfl | rfl | rfl | rfl | rfl | rfl | rfl | rfl | rfl | rfl | rfl <;> exact ⟨_, rfl, fun _ => rfl⟩
instance evDec : DecidableEq Ev := fun ⟨a0, a1, a2, a3, a4, a5, a6, a7, a8, a9, a10⟩ ⟨b0, b1, b2, b3, b4, b5, b6, b7, b8, b9, b10⟩ =>
  decidable_of_iff (a0 = b0 ∧ a1 = b1 ∧ a2 = b2 ∧ a3 = b3 ∧ a4 = b4 ∧ a5 = b5 ∧ a6 = b6 ∧ a7 = b7 ∧ a8 = b8 ∧ a9 = b9 ∧ a10 = b10) (by rw [Ev.mk.injEq])
theorem ev_all (x y : Ev) : ((List.range 11).all fun j => intAt x.cells (0 + j) == intAt y.cells (0 + j)) = decide (x = y) := by
  rw [Bool.eq_iff_iff, decide_eq_true_eq]
  constructor
  · intro h
    have g : ∀ j, j < 11 → intAt x.cells j = intAt y.cells j := fun j hj => by
      have := List.all_eq_true.1 h j (List.mem_range.2 hj)
      simpa using this
    obtain ⟨a0, a1, a2, a3, a4, a5, a6, a7, a8, a9, a10⟩ := x
    obtain ⟨b0, b1, b2, b3, b4, b5, b6, b7, b8, b9, b10⟩ := y
    have g0 : a0 = b0 := g 0 (by decide)
    have g1 : a1 = b1 := g 1 (by decide)
    have g2 : (a2 : Int) = b2 := g 2 (by decide)
    have g3 : (a3 : Int) = b3 := g 3 (by decide)
    have g4 : a4 = b4 := g 4 (by decide)
    have g5 : a5 = b5 := g 5 (by decide)
    have g6 : a6 = b6 := g 6 (by decide)
    have g7 : a7 = b7 := g 7 (by decide)
    have g8 : a8 = b8 := g 8 (by decide)
    have g9 : (a9 : Int) = b9 := g 9 (by decide)
    have g10 : a10 = b10 := g 10 (by decide)
    have g2' : a2 = b2 := by omega
    have g3' : a3 = b3 := by omega
    have g9' : a9 = b9 := by omega
    subst g0 g1 g2' g3' g4 g5 g6 g7 g8 g9' g10
    rfl
  · rintro rfl
    simp
theorem evEq_run {P : Program} {t : TypeId} (ht : evTypeOk P t = true) (x y : Ev) (w : World) : (Op.equal t (.agg x.cells) (.agg y.cells)).run P w = .ok (decide (x = y)) w := by
  simp only [evTypeOk, Bool.and_eq_true, Bool.not_eq_true', beq_iff_eq] at ht
  obtain ⟨h1, _, h3, h4⟩ := ht
  unfold Op.equal
  rw [show Op.maxDepth = 9998 + 1 + 1 from rfl, run_equalIn_struct w 9999 t _ _ (isStruct_of h3) h1, eqFields_ints 9998 _ _ _ 0 w]
  · rw [Array.length_toList, h3, ev_all]
  · intro j hj
    rw [Array.length_toList, h3] at hj
    have := List.all_eq_true.1 h4 j (List.mem_range.2 hj)
    split at this
    · rename_i f hf
      obtain ⟨k, hk, hk'⟩ := ev_at_int x j hj
      rw [Nat.zero_add]
      exact ⟨f, k, _, _, hf, this, hk, hk' y⟩
    · cases this
theorem eqGuard_ev {P : Program} {t : TypeId} (ht : evTypeOk P t = true) (op : BinOp) (x y : Operand) (a b : Array Value) (w : World) : (eqGuard op t x y (.agg a) (.agg b)).run P w = .ok () w := by
  simp only [evTypeOk, Bool.and_eq_true, Bool.not_eq_true', beq_iff_eq] at ht
  obtain ⟨_, h2, _⟩ := ht
  unfold eqGuard
  cases op <;> simp <;> simp [h2]
section
variable {P : Program} {S : World → Prop} {σ : List (Nat × Value)} {o : Oper}
theorem Yl.neqEv {t u : TypeId} {p q : Operand} {x y : Ev} (hop : o.op = .binOp .neq t p q u) (hx : look σ p = some (.agg x.cells)) (hy : look σ q = some (.agg y.cells)) (ht : evTypeOk P t = true) : Yl P S σ o (.bool (!decide (x = y))) := fun a n D HF w hS => by
  unfold execOp
  have e : (binOp .neq t (.agg x.cells) (.agg y.cells)).run P w = .ok (.bool (!decide (x = y))) w := by
    show ((do Pure.pure (.bool (!(← Op.equal t (.agg x.cells) (.agg y.cells)))) : Sem Value)).run P w = _
    simp [evEq_run ht]
  simp only [hop, HF.eval hx, HF.eval hy, Sem.run_bind, eqGuard_ev ht, Result.andThen_ok, e, Sem.run_pure]
theorem Yl.eqlEv {t u : TypeId} {p q : Operand} {x y : Ev} (hop : o.op = .binOp .eql t p q u) (hx : look σ p = some (.agg x.cells)) (hy : look σ q = some (.agg y.cells)) (ht : evTypeOk P t = true) : Yl P S σ o (.bool (decide (x = y))) := fun a n D HF w hS => by
  unfold execOp
  have e : (binOp .eql t (.agg x.cells) (.agg y.cells)).run P w = .ok (.bool (decide (x = y))) w := by
    show ((do Pure.pure (.bool (← Op.equal t (.agg x.cells) (.agg y.cells))) : Sem Value)).run P w = _
    simp [evEq_run ht]
  simp only [hop, HF.eval hx, HF.eval hy, Sem.run_bind, eqGuard_ev ht, Result.andThen_ok, e, Sem.run_pure]
end
theorem ev_type_ok : evTypeOk Tryd.prog 37 = true := by kernel_rfl
end Go.Proofs.YtpekelggcmgnnaaDoor

/- The reference's events: what With's loop keeps. No walk. -/
namespace Go.Proofs.YtpekelggcmgnnaaDoor
open Go.RowKit

/-- So many values are used up when k fields have been looked at. -/
def usedUp (e : Ev) (vs : List Nat) (k : Nat) : Ev := e.base.rfill ((upTo e.kind k).zip vs)
theorem rput_ok {e : Ev} (h : e.Ok) (i x : Nat) (hx : x < 18446744073709551616) : (e.rput i x).Ok := by
  have hv : I64 (Ev.rval x) := by unfold Ev.rval I64; split <;> omega
  unfold Ev.rput Ev.putV
  split
  · exact { h with task := hv }
  · exact { h with group := hv }
  · exact ⟨h.seq, h.time, h.cpu, h.kind, h.task, h.group, hv, h.weight, h.ticks, h.mask, h.got⟩
  · exact { h with weight := hv }
  · exact { h with ticks := hv }
  · exact { h with mask := hx }
  · exact { h with got := hv }
theorem rfill_ok : ∀ (l : List (Nat × Nat)) (e : Ev), e.Ok → (∀ p ∈ l, p.2 < 18446744073709551616) → (e.rfill l).Ok
  | [], _, h, _ => h
  | p :: l, e, h, hl => rfill_ok l (e.rput p.1 p.2) (rput_ok h p.1 p.2 (hl p (by simp))) (fun q hq => hl q (by simp [hq]))
theorem rfill_snoc (e : Ev) (l : List (Nat × Nat)) (p : Nat × Nat) : e.rfill (l ++ [p]) = (e.rfill l).rput p.1 p.2 := by unfold Ev.rfill; rw [List.foldl_append]; rfl
theorem upTo_pre (kd k : Nat) : ∃ r, usesL kd = upTo kd k ++ r ∨ 7 ≤ k := by
  by_cases h : 7 ≤ k
  · exact ⟨[], .inr h⟩
  · refine ⟨((List.range 7).drop k).filter fun i => (usesL kd).contains i, .inl ?_⟩
    have h1 : List.range 7 = List.range k ++ (List.range 7).drop k := by
      rw [← List.take_append_drop k (List.range 7)]
      congr 1
      · rw [List.take_range]; congr 1; omega
      · rw [List.take_append_drop]
    conv => lhs; rw [← filter_usesL kd, h1, List.filter_append]
    rfl
theorem upTo_len_le (kd k : Nat) (hk : k ≤ 7) : (upTo kd k).length ≤ (usesL kd).length := by
  obtain ⟨r, h | h⟩ := upTo_pre kd k
  · rw [h, List.length_append]; omega
  · rw [show k = 7 by omega, upTo_7]; omega
theorem zip_snoc {l : List Nat} {a n : Nat} {vs : List Nat} (hl : l.length = n) (hn : n < vs.length) : (l ++ [a]).zip vs = l.zip vs ++ [(a, vs[n])] := by
  have h1 : vs = vs.take n ++ vs.drop n := (List.take_append_drop n vs).symm
  have h2 : vs.drop n = vs[n] :: vs.drop (n + 1) := List.drop_eq_getElem_cons hn
  have h3 : (vs.take n).length = n := by rw [List.length_take]; omega
  have h4 : l.zip vs = l.zip (vs.take n) := by
    conv => lhs; rw [h1, ← List.append_nil l]
    rw [List.zip_append (by omega)]; simp
  rw [h4]
  conv => lhs; rw [h1]
  rw [List.zip_append (by omega), h2]
  rfl

theorem usedUp_zero (e : Ev) (vs : List Nat) : usedUp e vs 0 = e.base := rfl
theorem usedUp_seven (e : Ev) (vs : List Nat) : usedUp e vs 7 = e.rmade vs := by unfold usedUp Ev.rmade; rw [upTo_7]
theorem usedUp_yes {e : Ev} {vs : List Nat} {k x : Nat} (h : (usesL e.kind).contains k = true) (hx : vs[(upTo e.kind k).length]? = some x) : (usedUp e vs k).rput k x = usedUp e vs (k + 1) := by
  obtain ⟨hl, he⟩ := List.getElem?_eq_some_iff.1 hx
  unfold usedUp
  rw [upTo_yes h, zip_snoc rfl hl, rfill_snoc, he]
theorem usedUp_no {e : Ev} {vs : List Nat} {k : Nat} (h : (usesL e.kind).contains k = false) : usedUp e vs (k + 1) = usedUp e vs k := by unfold usedUp; rw [upTo_no h]
theorem upTo_grow {kd k : Nat} (h : (usesL kd).contains k = true) : (upTo kd (k + 1)).length = (upTo kd k).length + 1 := by rw [upTo_yes h, List.length_append]; rfl
theorem upTo_room {kd k : Nat} (h : (usesL kd).contains k = true) (hk : k < 7) : (upTo kd k).length < (usesL kd).length := by
  have h1 := upTo_len_le kd (k + 1) (by omega)
  rw [upTo_grow h] at h1
  omega
theorem usedUp_ok {e : Ev} (he : e.Ok) {vs : List Nat} (hv : ∀ x ∈ vs, x < 18446744073709551616) (k : Nat) : (usedUp e vs k).Ok := by
  have z : I64 0 := ⟨by decide, by decide⟩
  have zm : (0 : Nat) < 18446744073709551616 := by decide
  refine rfill_ok _ _ ?_ (fun p hp => hv _ (List.of_mem_zip hp).2)
  exact ⟨he.seq, he.time, he.cpu, he.kind, z, z, z, z, z, zm, z⟩
def Ev.rErr (e : Ev) (vs : List Nat) : Nat := if e.kind = 0 ∨ 10 < e.kind then 60 else if vs.length ≠ (usesL e.kind).length then 2 else if (e.rmade vs).check ≠ 0 then 61 else 0
def Ev.rEv (e : Ev) (vs : List Nat) : Ev := if e.rErr vs = 0 then e.rmade vs else Ev.zero
theorem rErr_eq (e : Ev) (vs : List Nat) (hv : ∀ x ∈ vs, x < 18446744073709551616) : e.rErr vs = e.withErr vs ∧ e.rEv vs = e.withEv vs := by
  have h : e.rErr vs = e.withErr vs ∧ (e.rErr vs = 0 → e.rmade vs = e.made vs) := by
    unfold Ev.rErr Ev.withErr
    split
    · exact ⟨rfl, fun h => by omega⟩
    · split
      · exact ⟨rfl, fun h => by omega⟩
      · rename_i h1 h2
        rcases rmade_made e vs (by omega) hv with h | ⟨h3, h4⟩
        · rw [h]; exact ⟨rfl, fun _ => rfl⟩
        · rw [if_pos h3, if_pos h4]; exact ⟨rfl, fun h => by omega⟩
  refine ⟨h.1, ?_⟩
  unfold Ev.rEv Ev.withEv
  rw [← h.1]
  split
  · exact h.2 ‹_›
  · rfl
theorem has06_is (k i : Nat) (hi : i < 7) (hk : k < 256) (w : World) : Calls Tryd.prog 64 #[.int .u8 (k : Int), .int .i64 (i : Int)] w (BoolPost w ((usesL k).contains i)) :=
  (has06_any k i hi hk w).mono fun _ _ h => ⟨h.1, by rw [h.2]; exact Below.refl _ _⟩
end Go.Proofs.YtpekelggcmgnnaaDoor

/- quantumref06.With is what the program's With is. -/
namespace Go.Proofs.YtpekelggcmgnnaaDoor
open Go.RowKit
set_option maxRecDepth 100000 in
set_option maxHeartbeats 4000000 in
theorem rwith_walk (e : Ev) (he : e.Ok) (A : Option Addr) (n c : Nat) (vs : List Nat) (w : World) (hr : Rd w w.heap.size 1 A n (vs.map U64)) (hvs : ∀ x ∈ vs, x < 18446744073709551616) (hn : vs.length = n) :
    Calls Tryd.prog 63 #[.agg e.cells, .slice A n c] w (WithPost w (e.rEv vs) (e.rErr vs)) := by
  refine calls_enter (vs := [.agg e.cells, .slice A n c]) Tryd.func63 rfl rfl (by kernel_rfl) (σ0 := [(0, .agg e.cells), (1, .slice A n c)]) rfl ?_
  intro a HF
  have HM := Mem.start w
  refine wp_seq ?_
  refine from_start ?_
  refine from_op HF (i := 0) rfl rfl ?_
  refine e_box HF HM (cs := e.cells) rfl rfl rfl rfl (by decide) ?_
  clear HF HM; intro a w2 g2 HF HM
  refine from_op HF (i := 1) rfl rfl ?_
  refine e_alloc HF HM (cs := #[.int .i64 0, .int .i64 0, .int .u8 0, .int .u8 0, .int .i64 0, .int .i64 0, .int .i64 0, .int .i64 0, .int .i64 0, .int .u64 0, .int .i64 0]) rfl (by kernel_rfl) rfl (by decide) ?_
  clear HF HM; intro a w4 g4 HF HM
  refine from_pures HF 1 2 (j := 3) [(5, .int .i64 0)] (by kernel_rfl) rfl ?_; clear HF; intro a HF
  refine from_done rfl ?_
  replace HF := HF.sub (σ' := [(5, .int .i64 0), (4, .pointer (some ⟨g4, 0, none⟩)), (2, .pointer (some ⟨g2, 0, none⟩)), (1, .slice A n c)]) (by kernel_rfl)
  refine wp_seq ?_
  refine wp_seq ?_
  refine from_start ?_
  refine from_pures HF 1 0 (j := 1) [(9, .pointer (some ⟨g2, 3, none⟩))] (by kernel_rfl) rfl ?_; clear HF; intro a HF
  refine from_yl (S := fun wS => Mem w wS _) HF HM (i := 1) rfl rfl (d := 10) rfl (by decide) (v := .int .u8 (e.kind : Int)) (Yl.load1 rfl rfl (by kernel_rfl) (fun _ h => h.cell (i := 1) rfl rfl)) ?_; clear HF; intro a HF
  refine from_op HF (i := 2) rfl rfl ?_
  refine e_call HF (vs := [.int .u8 (e.kind : Int)]) rfl (by kernel_rfl) (by kernel_rfl) rfl (by decide) (name06_any e.kind he.kind _) ?_
  rintro _ w11 ⟨⟨s, rfl, hs⟩, hbw⟩
  refine ⟨_, rfl, ?_⟩
  replace HM := HM.call hbw
  clear HF; intro a HF
  refine from_pures HF 1 3 (j := 4) [(12, .bool ((s).toList == ((ByteArray.mk #[])).toList))] (by kernel_rfl) rfl ?_; clear HF; intro a HF
  replace HF := HF.as (t := 12) (u := .bool (!decide (1 ≤ e.kind ∧ e.kind ≤ 10))) rfl (by rw [str_empty hs])
  refine from_done rfl ?_
  replace HF := HF.sub (σ' := [(12, .bool (!decide (1 ≤ e.kind ∧ e.kind ≤ 10))), (5, .int .i64 0), (4, .pointer (some ⟨g4, 0, none⟩)), (2, .pointer (some ⟨g2, 0, none⟩)), (1, .slice A n c)]) (by kernel_rfl)
  rcases Bool.eq_false_or_eq_true (!decide (1 ≤ e.kind ∧ e.kind ≤ 10)) with hb12 | hb12
  · have HF := HF.as (t := 12) (u := .bool true) rfl (by rw [hb12])
    have hbad : e.kind = 0 ∨ 10 < e.kind := by simp only [Bool.not_eq_true', decide_eq_false_iff_not] at hb12; omega
    refine cond_true HF rfl ?_
    refine wp_seq ?_
    refine from_start ?_
    refine from_yl (S := fun wS => Mem w wS _) HF HM (i := 0) rfl rfl (d := 13) rfl (by decide) (v := .agg Ev.zero.cells) ((Yl.build (vs := []) rfl (by kernel_rfl) (by kernel_rfl))) ?_; clear HF; intro a HF
    refine from_op HF (i := 1) rfl rfl ?_
    refine e_storeAll HF HM (i := 0) (cs := #[.int .i64 0, .int .i64 0, .int .u8 0, .int .u8 0, .int .i64 0, .int .i64 0, .int .i64 0, .int .i64 0, .int .i64 0, .int .u64 0, .int .i64 0]) (ds := Ev.zero.cells) rfl rfl rfl rfl ⟨(by kernel_rfl), (by kernel_rfl)⟩ rfl rfl (ev_one Ev.zero) rfl ?_
    clear HM; intro w2_1 HM
    refine from_pures HF 1 2 (j := 3) [(5, .int .i64 60)] (by kernel_rfl) rfl ?_; clear HF; intro a HF
    refine from_done rfl ?_
    replace HF := HF.sub (σ' := [(5, .int .i64 60), (12, .bool true), (4, .pointer (some ⟨g4, 0, none⟩)), (2, .pointer (some ⟨g2, 0, none⟩)), (1, .slice A n c)]) (by kernel_rfl)
    refine wp_ret ?_
    exact ret2 rfl HF (.cellS (i := 0) HF HM rfl rfl ⟨(by kernel_rfl), (by kernel_rfl)⟩ rfl) (.tmp HF rfl) (⟨by rw [Ev.rEv, Ev.rErr, if_pos hbad]; rfl, HM.below⟩)
  · have HF := HF.as (t := 12) (u := .bool false) rfl (by rw [hb12])
    have hgood : ¬ (e.kind = 0 ∨ 10 < e.kind) := by simp only [Bool.not_eq_false', decide_eq_true_eq] at hb12; omega
    refine cond_false HF rfl ?_
    refine wp_skip ?_
    refine wp_seq ?_
    refine wp_seq ?_
    refine from_start ?_
    refine from_pures HF 1 0 (j := 1) [(14, .slice A n c)] (by kernel_rfl) rfl ?_; clear HF; intro a HF
    refine from_yl (S := fun wS => Mem w wS _) HF HM (i := 1) rfl rfl (d := 15) rfl (by decide) (v := .int .i64 ((n : Nat) : Int)) (Yl.len rfl rfl (by kernel_rfl)) ?_; clear HF; intro a HF
    refine from_pures HF 1 2 (j := 3) [(16, .pointer (some ⟨g2, 3, none⟩))] (by kernel_rfl) rfl ?_; clear HF; intro a HF
    refine from_yl (S := fun wS => Mem w wS _) HF HM (i := 3) rfl rfl (d := 17) rfl (by decide) (v := .int .u8 (e.kind : Int)) (Yl.load1 rfl rfl (by kernel_rfl) (fun _ h => h.cell (i := 1) rfl rfl)) ?_; clear HF; intro a HF
    refine from_op HF (i := 4) rfl rfl ?_
    refine e_call HF (vs := [.int .u8 (e.kind : Int)]) rfl (by kernel_rfl) (by kernel_rfl) rfl (by decide) (fields06_any e.kind he.kind _) ?_
    rintro _ w18 ⟨⟨v, xs18, rfl, ho⟩, hbw⟩
    obtain ⟨A18, c18, rfl, hc18⟩ := own_slice ho
    refine ⟨_, rfl, ?_⟩
    replace HM := HM.callRow hbw ho
    clear HF; intro a HF
    refine from_yl (S := fun wS => Mem w wS _) HF HM (i := 5) rfl rfl (d := 19) rfl (by decide) (v := .int .i64 (((usesL e.kind).length : Nat) : Int)) (Yl.len rfl rfl (by kernel_rfl)) ?_; clear HF; intro a HF
    refine from_pures HF 1 6 (j := 7) [(20, .bool ((((n : Nat) : Int) : Int) != ((((usesL e.kind).length : Nat) : Int) : Int)))] (by kernel_rfl) rfl ?_; clear HF; intro a HF
    refine from_done rfl ?_
    replace HF := HF.sub (σ' := [(20, .bool ((((n : Nat) : Int) : Int) != ((((usesL e.kind).length : Nat) : Int) : Int))), (12, .bool false), (5, .int .i64 0), (4, .pointer (some ⟨g4, 0, none⟩)), (2, .pointer (some ⟨g2, 0, none⟩)), (1, .slice A n c)]) (by kernel_rfl)
    replace HM := HM.picks (fs' := [.blk g4 #[.int .i64 0, .int .i64 0, .int .u8 0, .int .u8 0, .int .i64 0, .int .i64 0, .int .i64 0, .int .i64 0, .int .i64 0, .int .u64 0, .int .i64 0] 64, .blk g2 e.cells 64]) [1, 2] (by decide) rfl
    rcases Bool.eq_false_or_eq_true ((((n : Nat) : Int) : Int) != ((((usesL e.kind).length : Nat) : Int) : Int)) with hb20 | hb20
    · have HF := HF.as (t := 20) (u := .bool true) rfl (by rw [hb20])
      have hlb : vs.length ≠ (usesL e.kind).length := by rw [bne_iff_ne] at hb20; omega
      refine cond_true HF rfl ?_
      refine wp_seq ?_
      refine from_start ?_
      refine from_yl (S := fun wS => Mem w wS _) HF HM (i := 0) rfl rfl (d := 21) rfl (by decide) (v := .agg Ev.zero.cells) ((Yl.build (vs := []) rfl (by kernel_rfl) (by kernel_rfl))) ?_; clear HF; intro a HF
      refine from_op HF (i := 1) rfl rfl ?_
      refine e_storeAll HF HM (i := 0) (cs := #[.int .i64 0, .int .i64 0, .int .u8 0, .int .u8 0, .int .i64 0, .int .i64 0, .int .i64 0, .int .i64 0, .int .i64 0, .int .u64 0, .int .i64 0]) (ds := Ev.zero.cells) rfl rfl rfl rfl ⟨(by kernel_rfl), (by kernel_rfl)⟩ rfl rfl (ev_one Ev.zero) rfl ?_
      clear HM; intro w4_1 HM
      refine from_pures HF 1 2 (j := 3) [(5, .int .i64 2)] (by kernel_rfl) rfl ?_; clear HF; intro a HF
      refine from_done rfl ?_
      replace HF := HF.sub (σ' := [(5, .int .i64 2), (20, .bool true), (12, .bool false), (4, .pointer (some ⟨g4, 0, none⟩)), (2, .pointer (some ⟨g2, 0, none⟩)), (1, .slice A n c)]) (by kernel_rfl)
      refine wp_ret ?_
      exact ret2 rfl HF (.cellS (i := 0) HF HM rfl rfl ⟨(by kernel_rfl), (by kernel_rfl)⟩ rfl) (.tmp HF rfl) (⟨by rw [Ev.rEv, Ev.rErr, if_neg hgood, if_pos hlb]; rfl, HM.below⟩)
    · have HF := HF.as (t := 20) (u := .bool false) rfl (by rw [hb20])
      have hlg : n = (usesL e.kind).length := by rw [bne_eq_false_iff_eq] at hb20; omega
      have hlg2 : ¬ vs.length ≠ (usesL e.kind).length := by omega
      refine cond_false HF rfl ?_
      refine wp_skip ?_
      refine wp_seq ?_
      refine from_start ?_
      refine from_pures HF 1 0 (j := 1) [(22, .pointer (some ⟨g2, 0, none⟩))] (by kernel_rfl) rfl ?_; clear HF; intro a HF
      refine from_yl (S := fun wS => Mem w wS _) HF HM (i := 1) rfl rfl (d := 23) rfl (by decide) (v := .int .i64 e.seq) (Yl.load1 rfl rfl (by kernel_rfl) (fun _ h => h.cell (i := 1) rfl rfl)) ?_; clear HF; intro a HF
      refine from_pures HF 1 2 (j := 3) [(24, .pointer (some ⟨g2, 1, none⟩))] (by kernel_rfl) rfl ?_; clear HF; intro a HF
      refine from_yl (S := fun wS => Mem w wS _) HF HM (i := 3) rfl rfl (d := 25) rfl (by decide) (v := .int .i64 e.time) (Yl.load1 rfl rfl (by kernel_rfl) (fun _ h => h.cell (i := 1) rfl rfl)) ?_; clear HF; intro a HF
      refine from_pures HF 1 4 (j := 5) [(26, .pointer (some ⟨g2, 2, none⟩))] (by kernel_rfl) rfl ?_; clear HF; intro a HF
      refine from_yl (S := fun wS => Mem w wS _) HF HM (i := 5) rfl rfl (d := 27) rfl (by decide) (v := .int .u8 (e.cpu : Int)) (Yl.load1 rfl rfl (by kernel_rfl) (fun _ h => h.cell (i := 1) rfl rfl)) ?_; clear HF; intro a HF
      refine from_pures HF 1 6 (j := 7) [(28, .pointer (some ⟨g2, 3, none⟩))] (by kernel_rfl) rfl ?_; clear HF; intro a HF
      refine from_yl (S := fun wS => Mem w wS _) HF HM (i := 7) rfl rfl (d := 29) rfl (by decide) (v := .int .u8 (e.kind : Int)) (Yl.load1 rfl rfl (by kernel_rfl) (fun _ h => h.cell (i := 1) rfl rfl)) ?_; clear HF; intro a HF
      refine from_yl (S := fun wS => Mem w wS _) HF HM (i := 8) rfl rfl (d := 30) rfl (by decide) (v := .agg e.base.cells) ((Yl.build (vs := [(0, .int .i64 e.seq), (1, .int .i64 e.time), (2, .int .u8 (e.cpu : Int)), (3, .int .u8 (e.kind : Int))]) rfl (by kernel_rfl) (by kernel_rfl))) ?_; clear HF; intro a HF
      refine from_op HF (i := 9) rfl rfl ?_
      refine e_alloc HF HM (cs := #[.int .i64 0, .int .i64 0, .int .u8 0, .int .u8 0, .int .i64 0, .int .i64 0, .int .i64 0, .int .i64 0, .int .i64 0, .int .u64 0, .int .i64 0]) rfl (by kernel_rfl) rfl (by decide) ?_
      clear HF HM; intro a w6 g6 HF HM
      refine from_op HF (i := 10) rfl rfl ?_
      refine e_storeAll HF HM (i := 0) (cs := #[.int .i64 0, .int .i64 0, .int .u8 0, .int .u8 0, .int .i64 0, .int .i64 0, .int .i64 0, .int .i64 0, .int .i64 0, .int .u64 0, .int .i64 0]) (ds := e.base.cells) rfl rfl rfl rfl ⟨(by kernel_rfl), (by kernel_rfl)⟩ rfl rfl (ev_one e.base) rfl ?_
      clear HM; intro w5_10 HM
      refine from_done rfl ?_
      replace HF := HF.sub (σ' := [(6, .pointer (some ⟨g6, 0, none⟩)), (20, .bool false), (12, .bool false), (5, .int .i64 0), (4, .pointer (some ⟨g4, 0, none⟩)), (2, .pointer (some ⟨g2, 0, none⟩)), (1, .slice A n c)]) (by kernel_rfl)
      refine wp_seq ?_
      refine from_start ?_
      refine from_pures HF 1 0 (j := 1) [(7, .int .i64 0)] (by kernel_rfl) rfl ?_; clear HF; intro a HF
      refine from_done rfl ?_
      refine wp_seq ?_
      refine wp_seq ?_
      refine from_start ?_
      refine from_pures HF 1 0 (j := 1) [(8, .int .i64 0)] (by kernel_rfl) rfl ?_; clear HF; intro a HF
      refine from_done rfl ?_
      refine wp_block ?_
      refine loop_nat (fun mS aS wS => ∃ (k : Nat), k ≤ 7 ∧ mS = 7 - k ∧ Fr aS 53 [] [(8, .int .i64 (k : Int)), (7, .int .i64 (((upTo e.kind k).length : Nat) : Int)), (6, .pointer (some ⟨g6, 0, none⟩)), (20, .bool false), (12, .bool false), (5, .int .i64 0), (4, .pointer (some ⟨g4, 0, none⟩)), (2, .pointer (some ⟨g2, 0, none⟩)), (1, .slice A n c)] ∧ Mem w wS [.blk g6 ((usedUp e vs k).cells) 64, .blk g4 #[.int .i64 0, .int .i64 0, .int .u8 0, .int .u8 0, .int .i64 0, .int .i64 0, .int .i64 0, .int .i64 0, .int .i64 0, .int .u64 0, .int .i64 0] 64, .blk g2 e.cells 64]) (m := 7 - 0) ⟨0, by omega, rfl, HF.sub (by kernel_rfl), HM.picks [0, 1, 2] (by decide) rfl⟩ ?_
      clear HF HM; rintro mS a w_ ⟨k, hk, rfl, HF, HM⟩
      refine wp_seq ?_
      refine wp_seq ?_
      refine from_start ?_
      refine from_pures HF 2 0 (j := 2) [(32, .bool (decide (((k : Int) : Int) < (7 : Int)))), (31, .int .i64 (k : Int))] (by kernel_rfl) rfl ?_; clear HF; intro a HF
      refine from_done rfl ?_
      replace HF := HF.sub (σ' := [(32, .bool (decide (((k : Int) : Int) < (7 : Int)))), (8, .int .i64 (k : Int)), (7, .int .i64 (((upTo e.kind k).length : Nat) : Int)), (6, .pointer (some ⟨g6, 0, none⟩)), (20, .bool false), (12, .bool false), (5, .int .i64 0), (4, .pointer (some ⟨g4, 0, none⟩)), (2, .pointer (some ⟨g2, 0, none⟩)), (1, .slice A n c)]) (by kernel_rfl)
      rcases Bool.eq_false_or_eq_true (decide (((k : Int) : Int) < (7 : Int))) with hb32 | hb32
      · have HF := HF.as (t := 32) (u := .bool true) rfl (by rw [hb32])
        have hk7 : k < 7 := by have := of_decide_eq_true hb32; omega
        refine cond_true HF rfl ?_
        refine wp_skip ?_
        refine wp_seq ?_
        refine wp_block ?_
        refine wp_seq ?_
        refine from_start ?_
        refine from_pures HF 1 0 (j := 1) [(35, .pointer (some ⟨g2, 3, none⟩))] (by kernel_rfl) rfl ?_; clear HF; intro a HF
        refine from_yl (S := fun wS => Mem w wS _) HF HM (i := 1) rfl rfl (d := 36) rfl (by decide) (v := .int .u8 (e.kind : Int)) (Yl.load1 rfl rfl (by kernel_rfl) (fun _ h => h.cell (i := 2) rfl rfl)) ?_; clear HF; intro a HF
        refine from_pures HF 1 2 (j := 3) [(37, .int .i64 (k : Int))] (by kernel_rfl) rfl ?_; clear HF; intro a HF
        refine from_op HF (i := 3) rfl rfl ?_
        refine e_call HF (vs := [.int .u8 (e.kind : Int), .int .i64 (k : Int)]) rfl (by kernel_rfl) (by kernel_rfl) rfl (by decide) (has06_is e.kind k hk7 he.kind _) ?_
        rintro _ w38 ⟨rfl, hbw⟩
        refine ⟨_, rfl, ?_⟩
        replace HM := HM.call hbw
        clear HF; intro a HF
        refine from_done rfl ?_
        replace HF := HF.sub (σ' := [(38, .bool ((usesL e.kind).contains k)), (32, .bool true), (8, .int .i64 (k : Int)), (7, .int .i64 (((upTo e.kind k).length : Nat) : Int)), (6, .pointer (some ⟨g6, 0, none⟩)), (20, .bool false), (12, .bool false), (5, .int .i64 0), (4, .pointer (some ⟨g4, 0, none⟩)), (2, .pointer (some ⟨g2, 0, none⟩)), (1, .slice A n c)]) (by kernel_rfl)
        rcases Bool.eq_false_or_eq_true ((usesL e.kind).contains k) with hb38 | hb38
        · have HF := HF.as (t := 38) (u := .bool true) rfl (by rw [hb38])
          have hroom : (upTo e.kind k).length < n := by have := upTo_room hb38 hk7; omega
          obtain ⟨x, hx⟩ : ∃ x, vs[(upTo e.kind k).length]? = some x := ⟨_, List.getElem?_eq_getElem (by omega)⟩
          refine cond_true HF rfl ?_
          refine wp_seq ?_
          refine any_start (by kernel_rfl) (fun wS => Mem w wS [.blk g6 ((usedUp e vs k).cells) 64, .blk g4 #[.int .i64 0, .int .i64 0, .int .u8 0, .int .u8 0, .int .i64 0, .int .i64 0, .int .i64 0, .int .i64 0, .int .i64 0, .int .u64 0, .int .i64 0] 64, .blk g2 e.cells 64]) [7] ?_
          replace HM := HM.drew
          have HS := HM.picks (fs' := [.blk g6 ((usedUp e vs k).cells) 64, .blk g4 #[.int .i64 0, .int .i64 0, .int .u8 0, .int .u8 0, .int .i64 0, .int .i64 0, .int .i64 0, .int .i64 0, .int .i64 0, .int .u64 0, .int .i64 0] 64, .blk g2 e.cells 64]) [0, 1, 2] (by decide) rfl
          refine any_pures HF (fun _ => HS) (fun _ _ d _ _ h => by cases d <;> exact h) [1, 2, 3] #[false, true, true, true, false, false, false, false] [(42, .int .i64 (((upTo e.kind k).length : Nat) : Int)), (41, .slice A n c), (40, .int .i64 (k : Int))] (by kernel_rfl) ?_; clear HF; intro a HF
          refine any_yl HF HS (i := 0) rfl rfl (d := 39) rfl (by decide) (by kernel_rfl) (fun _ _ _ h => h) (v := .agg ((usedUp e vs k).cells)) (Yl.loadS rfl rfl ⟨(by kernel_rfl), (by kernel_rfl)⟩ rfl (fun _ h => range_of_block (h.blk (i := 0) rfl))) ?_; clear HF; intro a HF
          obtain ⟨gA, oA, rfl, _⟩ := hr.some_at (Nat.lt_of_le_of_lt (Nat.zero_le _) (hroom)) (by decide)
          refine any_yl HF HS (i := 4) rfl rfl (d := 43) rfl (by decide) (by kernel_rfl) (fun _ _ _ h => h) (v := .pointer (some ⟨gA, oA + ((upTo e.kind k).length) * 1, none⟩)) ((Yl.indexAddr (ad := ⟨gA, oA, none⟩) (y := (upTo e.kind k).length) (sz := 1) rfl rfl rfl (hroom) (by kernel_rfl)).as (by rw [Addr.add_mid])) ?_; clear HF; intro a HF
          refine any_yl HF HS (i := 5) rfl rfl (d := 44) rfl (by decide) (by kernel_rfl) (fun _ _ _ h => h) (v := .int .u64 (x : Int)) (Yl.load1 rfl rfl (by kernel_rfl) (fun _ h => (h.old hr).oneAt1 (map_at (hx)))) ?_; clear HF; intro a HF
          refine any_all [6] (by kernel_rfl) rfl ?_
          refine all_cons ?_ all_nil
          refine any_op HF (i := 6) rfl rfl ?_
          refine e_call HF (vs := [.agg ((usedUp e vs k).cells), .int .i64 (k : Int), .int .u64 (x : Int)]) rfl (by kernel_rfl) (by kernel_rfl) rfl (by decide) (with06_any (usedUp e vs k) k x hk7 (hvs x (List.mem_of_getElem? hx)) _) ?_
          rintro _ w45 ⟨rfl, hbw⟩
          refine ⟨_, rfl, ?_⟩
          replace HM := HM.call hbw
          clear HF; intro a HF
          refine keepS (HM.picks [0, 1, 2] (by decide) rfl) (fun HS => ?_)
          refine any_all [7] (by kernel_rfl) rfl ?_
          refine all_cons ?_ all_nil
          refine any_op HF (i := 7) rfl rfl ?_
          refine e_storeAll HF HM (i := 0) (cs := (usedUp e vs k).cells) (ds := ((usedUp e vs k).rput k x).cells) rfl rfl rfl rfl ⟨(by kernel_rfl), (by kernel_rfl)⟩ rfl rfl (ev_one ((usedUp e vs k).rput k x)) rfl ?_
          clear HM; intro w11_7 HM
          refine noS (by kernel_rfl) ?_
          refine any_done (by kernel_rfl) ?_
          replace HF := HF.sub (σ' := [(38, .bool true), (32, .bool true), (8, .int .i64 (k : Int)), (7, .int .i64 (((upTo e.kind k).length : Nat) : Int)), (6, .pointer (some ⟨g6, 0, none⟩)), (20, .bool false), (12, .bool false), (5, .int .i64 0), (4, .pointer (some ⟨g4, 0, none⟩)), (2, .pointer (some ⟨g2, 0, none⟩)), (1, .slice (some ⟨gA, oA, none⟩) n c)]) (by kernel_rfl)
          rw [usedUp_yes hb38 hx] at HM
          refine from_start ?_
          refine from_pures HF 2 0 (j := 2) [(47, .int .i64 (IntKind.i64.wrap ((((upTo e.kind k).length : Nat) : Int) + 1))), (46, .int .i64 (((upTo e.kind k).length : Nat) : Int))] (by kernel_rfl) rfl ?_; clear HF; intro a HF
          replace HF := HF.as (t := 47) (u := .int .i64 (((upTo e.kind (k + 1)).length : Nat) : Int)) rfl (by rw [IntWalk.i64_in _ (by have := upTo_len e.kind k (by omega); omega), upTo_grow hb38]; simp)
          refine from_pures HF 1 2 (j := 3) [(7, .int .i64 (((upTo e.kind (k + 1)).length : Nat) : Int))] (by kernel_rfl) rfl ?_; clear HF; intro a HF
          refine from_done rfl ?_
          replace HF := HF.sub (σ' := [(7, .int .i64 (((upTo e.kind (k + 1)).length : Nat) : Int)), (38, .bool true), (32, .bool true), (8, .int .i64 (k : Int)), (6, .pointer (some ⟨g6, 0, none⟩)), (20, .bool false), (12, .bool false), (5, .int .i64 0), (4, .pointer (some ⟨g4, 0, none⟩)), (2, .pointer (some ⟨g2, 0, none⟩)), (1, .slice (some ⟨gA, oA, none⟩) n c)]) (by kernel_rfl)
          refine from_start ?_
          refine from_pures HF 2 0 (j := 2) [(34, .int .i64 (IntKind.i64.wrap ((k : Int) + 1))), (33, .int .i64 (k : Int))] (by kernel_rfl) rfl ?_; clear HF; intro a HF
          replace HF := HF.as (t := 34) (u := .int .i64 ((k + 1 : Nat) : Int)) rfl (by rw [IntWalk.i64_in _ (by omega)]; simp)
          refine from_pures HF 1 2 (j := 3) [(8, .int .i64 ((k + 1 : Nat) : Int))] (by kernel_rfl) rfl ?_; clear HF; intro a HF
          refine from_done rfl ?_
          replace HF := HF.sub (σ' := [(8, .int .i64 ((k + 1 : Nat) : Int)), (7, .int .i64 (((upTo e.kind (k + 1)).length : Nat) : Int)), (38, .bool true), (32, .bool true), (6, .pointer (some ⟨g6, 0, none⟩)), (20, .bool false), (12, .bool false), (5, .int .i64 0), (4, .pointer (some ⟨g4, 0, none⟩)), (2, .pointer (some ⟨g2, 0, none⟩)), (1, .slice (some ⟨gA, oA, none⟩) n c)]) (by kernel_rfl)
          exact ⟨_, (by omega), k + 1, by omega, rfl, HF.sub (by kernel_rfl), HM.picks [0, 1, 2] (by decide) rfl⟩
        · have HF := HF.as (t := 38) (u := .bool false) rfl (by rw [hb38])
          rw [← usedUp_no hb38] at HM
          have HF := HF.as (t := 7) (u := .int .i64 (((upTo e.kind (k + 1)).length : Nat) : Int)) rfl (by rw [upTo_no hb38])
          refine cond_false HF rfl ?_
          refine wp_skip ?_
          refine from_start ?_
          refine from_pures HF 2 0 (j := 2) [(34, .int .i64 (IntKind.i64.wrap ((k : Int) + 1))), (33, .int .i64 (k : Int))] (by kernel_rfl) rfl ?_; clear HF; intro a HF
          replace HF := HF.as (t := 34) (u := .int .i64 ((k + 1 : Nat) : Int)) rfl (by rw [IntWalk.i64_in _ (by omega)]; simp)
          refine from_pures HF 1 2 (j := 3) [(8, .int .i64 ((k + 1 : Nat) : Int))] (by kernel_rfl) rfl ?_; clear HF; intro a HF
          refine from_done rfl ?_
          replace HF := HF.sub (σ' := [(8, .int .i64 ((k + 1 : Nat) : Int)), (7, .int .i64 (((upTo e.kind (k + 1)).length : Nat) : Int)), (38, .bool false), (32, .bool true), (6, .pointer (some ⟨g6, 0, none⟩)), (20, .bool false), (12, .bool false), (5, .int .i64 0), (4, .pointer (some ⟨g4, 0, none⟩)), (2, .pointer (some ⟨g2, 0, none⟩)), (1, .slice A n c)]) (by kernel_rfl)
          exact ⟨_, (by omega), k + 1, by omega, rfl, HF.sub (by kernel_rfl), HM.picks [0, 1, 2] (by decide) rfl⟩
      · have HF := HF.as (t := 32) (u := .bool false) rfl (by rw [hb32])
        obtain rfl : k = 7 := by have := of_decide_eq_false hb32; omega
        refine cond_false HF rfl ?_
        refine wp_exit ?_
        refine wp_seq ?_
        refine wp_seq ?_
        refine from_start ?_
        refine from_yl (S := fun wS => Mem w wS _) HF HM (i := 0) rfl rfl (d := 48) rfl (by decide) (v := .agg ((usedUp e vs 7).cells)) (Yl.loadS rfl rfl ⟨(by kernel_rfl), (by kernel_rfl)⟩ rfl (fun _ h => range_of_block (h.blk (i := 0) rfl))) ?_; clear HF; intro a HF
        refine from_op HF (i := 1) rfl rfl ?_
        refine e_call HF (vs := [.agg ((usedUp e vs 7).cells)]) rfl (by kernel_rfl) (by kernel_rfl) rfl (by decide) (check06_any (usedUp e vs 7) (usedUp_ok he hvs 7) _) ?_
        rintro _ w49 ⟨rfl, hbw⟩
        refine ⟨_, rfl, ?_⟩
        replace HM := HM.call hbw
        clear HF; intro a HF
        refine from_pures HF 1 2 (j := 3) [(50, .bool ((((usedUp e vs 7).check : Int) : Int) != (0 : Int)))] (by kernel_rfl) rfl ?_; clear HF; intro a HF
        refine from_done rfl ?_
        replace HF := HF.sub (σ' := [(50, .bool ((((usedUp e vs 7).check : Int) : Int) != (0 : Int))), (32, .bool false), (8, .int .i64 (7 : Int)), (7, .int .i64 (((upTo e.kind 7).length : Nat) : Int)), (6, .pointer (some ⟨g6, 0, none⟩)), (20, .bool false), (12, .bool false), (5, .int .i64 0), (4, .pointer (some ⟨g4, 0, none⟩)), (2, .pointer (some ⟨g2, 0, none⟩)), (1, .slice A n c)]) (by kernel_rfl)
        rcases Bool.eq_false_or_eq_true ((((usedUp e vs 7).check : Int) : Int) != (0 : Int)) with hb50 | hb50
        · have HF := HF.as (t := 50) (u := .bool true) rfl (by rw [hb50])
          have hcb : (e.rmade vs).check ≠ 0 := by rw [bne_iff_ne, usedUp_seven] at hb50; omega
          refine cond_true HF rfl ?_
          refine wp_seq ?_
          refine from_start ?_
          refine from_yl (S := fun wS => Mem w wS _) HF HM (i := 0) rfl rfl (d := 51) rfl (by decide) (v := .agg Ev.zero.cells) ((Yl.build (vs := []) rfl (by kernel_rfl) (by kernel_rfl))) ?_; clear HF; intro a HF
          refine from_op HF (i := 1) rfl rfl ?_
          refine e_storeAll HF HM (i := 1) (cs := #[.int .i64 0, .int .i64 0, .int .u8 0, .int .u8 0, .int .i64 0, .int .i64 0, .int .i64 0, .int .i64 0, .int .i64 0, .int .u64 0, .int .i64 0]) (ds := Ev.zero.cells) rfl rfl rfl rfl ⟨(by kernel_rfl), (by kernel_rfl)⟩ rfl rfl (ev_one Ev.zero) rfl ?_
          clear HM; intro w14_1 HM
          refine from_pures HF 1 2 (j := 3) [(5, .int .i64 61)] (by kernel_rfl) rfl ?_; clear HF; intro a HF
          refine from_done rfl ?_
          replace HF := HF.sub (σ' := [(5, .int .i64 61), (50, .bool true), (32, .bool false), (8, .int .i64 (7 : Int)), (7, .int .i64 (((upTo e.kind 7).length : Nat) : Int)), (6, .pointer (some ⟨g6, 0, none⟩)), (20, .bool false), (12, .bool false), (4, .pointer (some ⟨g4, 0, none⟩)), (2, .pointer (some ⟨g2, 0, none⟩)), (1, .slice A n c)]) (by kernel_rfl)
          refine wp_ret ?_
          exact ret2 rfl HF (.cellS (i := 1) HF HM rfl rfl ⟨(by kernel_rfl), (by kernel_rfl)⟩ rfl) (.tmp HF rfl) (⟨by rw [Ev.rEv, Ev.rErr, if_neg hgood, if_neg hlg2, if_pos hcb]; rfl, HM.below⟩)
        · have HF := HF.as (t := 50) (u := .bool false) rfl (by rw [hb50])
          have hcg : (e.rmade vs).check = 0 := by rw [bne_eq_false_iff_eq, usedUp_seven] at hb50; omega
          have hcg2 : ¬ (e.rmade vs).check ≠ 0 := by omega
          refine cond_false HF rfl ?_
          refine wp_skip ?_
          refine wp_seq ?_
          refine from_start ?_
          refine from_yl (S := fun wS => Mem w wS _) HF HM (i := 0) rfl rfl (d := 52) rfl (by decide) (v := .agg ((usedUp e vs 7).cells)) (Yl.loadS rfl rfl ⟨(by kernel_rfl), (by kernel_rfl)⟩ rfl (fun _ h => range_of_block (h.blk (i := 0) rfl))) ?_; clear HF; intro a HF
          refine from_op HF (i := 1) rfl rfl ?_
          refine e_storeAll HF HM (i := 1) (cs := #[.int .i64 0, .int .i64 0, .int .u8 0, .int .u8 0, .int .i64 0, .int .i64 0, .int .i64 0, .int .i64 0, .int .i64 0, .int .u64 0, .int .i64 0]) (ds := (usedUp e vs 7).cells) rfl rfl rfl rfl ⟨(by kernel_rfl), (by kernel_rfl)⟩ rfl rfl (ev_one (usedUp e vs 7)) rfl ?_
          clear HM; intro w15_1 HM
          refine from_pures HF 1 2 (j := 3) [(5, .int .i64 0)] (by kernel_rfl) rfl ?_; clear HF; intro a HF
          refine from_done rfl ?_
          replace HF := HF.sub (σ' := [(5, .int .i64 0), (50, .bool false), (32, .bool false), (8, .int .i64 (7 : Int)), (7, .int .i64 (((upTo e.kind 7).length : Nat) : Int)), (6, .pointer (some ⟨g6, 0, none⟩)), (20, .bool false), (12, .bool false), (4, .pointer (some ⟨g4, 0, none⟩)), (2, .pointer (some ⟨g2, 0, none⟩)), (1, .slice A n c)]) (by kernel_rfl)
          refine wp_ret ?_
          exact ret2 rfl HF (.cellS (i := 1) HF HM rfl rfl ⟨(by kernel_rfl), (by kernel_rfl)⟩ rfl) (.tmp HF rfl) (⟨by rw [Ev.rEv, Ev.rErr, if_neg hgood, if_neg hlg2, if_neg hcg2, usedUp_seven]; rfl, HM.below⟩)
theorem rwith_any (e : Ev) (he : e.Ok) (A : Option Addr) (n c : Nat) (vs : List Nat) (w : World) (hr : Rd w w.heap.size 1 A n (vs.map U64)) (hvs : ∀ x ∈ vs, x < 18446744073709551616) :
    Calls Tryd.prog 63 #[.agg e.cells, .slice A n c] w (WithPost w (e.withEv vs) (e.withErr vs)) := by
  rw [← (rErr_eq e vs hvs).1, ← (rErr_eq e vs hvs).2]
  exact rwith_walk e he A n c vs w hr hvs (by simpa using hr.len)
end Go.Proofs.YtpekelggcmgnnaaDoor

/- The reference's records: what the loops keep. No walk. -/
namespace Go.Proofs.YtpekelggcmgnnaaDoor
open Go.RowKit

theorem ei_rev : EI Tryd.prog 70 64 (.agg Ev.zero.cells) 11 80 := ⟨by kernel_rfl, by kernel_rfl, rfl, by omega⟩

/-- The record as far as k values are written. -/
def putUp (b : Bs) (e : Ev) (k : Nat) : List Nat := [e.kind] ++ vbytes (e.seq - b.seq).toNat ++ vbytes (e.time - b.time).toNat ++ (e.vals.take k).flatMap vbytes
theorem putUp_zero (b : Bs) (e : Ev) : putUp b e 0 = [e.kind] ++ vbytes (e.seq - b.seq).toNat ++ vbytes (e.time - b.time).toNat := by simp [putUp]
theorem putUp_succ {b : Bs} {e : Ev} {k x : Nat} (h : e.vals[k]? = some x) : putUp b e (k + 1) = putUp b e k ++ vbytes x := by
  unfold putUp
  rw [List.take_add_one, h]
  simp
theorem putUp_all (b : Bs) (e : Ev) : putUp b e e.vals.length = recBytes b e := by
  unfold putUp recBytes recNums
  rw [List.take_length]
  simp
theorem putUp_len (b : Bs) (e : Ev) (k : Nat) : (putUp b e k).length ≤ 61 := by
  unfold putUp
  simp only [List.length_append, List.length_cons, List.length_nil]
  have h1 := vbytes_length (e.seq - b.seq).toNat
  have h2 := vbytes_length (e.time - b.time).toNat
  have h3 : ∀ l : List Nat, (l.flatMap vbytes).length ≤ l.length * 10 := by
    intro l
    induction l with
    | nil => simp
    | cons x r ih => rw [List.flatMap_cons, List.length_append, List.length_cons]; have := vbytes_length x; omega
  have h4 := h3 (e.vals.take k)
  have h5 := vals_len e
  rw [List.length_take] at h4
  omega
theorem takeR_kind {b : Bs} {cpu kd : Nat} {r : List Nat} (hb : b.right = true) (hu : (usesL kd).length ≠ 0) : takeR b cpu (kd :: r) = takeEv b cpu kd (readN (2 + (usesL kd).length) r) := by
  unfold takeR
  rw [if_neg (by simp [hb]), if_neg (by simp), if_neg (by simpa using hu)]
  rfl
theorem takeR_kindless {b : Bs} {cpu kd : Nat} {r : List Nat} (hb : b.right = true) (hu : (usesL kd).length = 0) : takeR b cpu (kd :: r) = (Ev.zero, 0, 60) := by
  unfold takeR
  rw [if_neg (by simp [hb]), if_neg (by simp), if_pos (by simpa using hu)]
theorem takeR_unread {b : Bs} {cpu kd u : Nat} {r xs : List Nat} {q : Nat × Nat × Nat} (hb : b.right = true) (hu : (usesL kd).length ≠ 0) (hj : readN (2 + (usesL kd).length) r = joinR xs u (readN (2 + (usesL kd).length - xs.length) (r.drop u))) (hlt : xs.length < 2 + (usesL kd).length) (hq : vread (r.drop u) = q) (hq2 : q.2.2 ≠ 0) : takeR b cpu (kd :: r) = (Ev.zero, 0, q.2.2) := by
  rw [takeR_kind hb hu, hj, show 2 + (usesL kd).length - xs.length = (2 + (usesL kd).length - xs.length - 1) + 1 by omega, joinR_bad (by rw [hq]; exact hq2)]
  unfold takeEv
  rw [if_pos (by simpa [hq] using hq2), hq]
theorem readN_on {kd u : Nat} {r xs : List Nat} {q : Nat × Nat × Nat} (hj : readN (2 + (usesL kd).length) r = joinR xs u (readN (2 + (usesL kd).length - xs.length) (r.drop u))) (hlt : xs.length < 2 + (usesL kd).length) (hq : vread (r.drop u) = q) (hq2 : q.2.2 = 0) :
    readN (2 + (usesL kd).length) r = joinR (xs ++ [q.1]) (u + q.2.1) (readN (2 + (usesL kd).length - (xs ++ [q.1]).length) (r.drop (u + q.2.1))) := by
  rw [hj, show 2 + (usesL kd).length - xs.length = (2 + (usesL kd).length - xs.length - 1) + 1 by omega, joinR_good (by rw [hq]; exact hq2), hq, List.drop_drop]
  congr 2
  simp; omega
theorem takeR_read {b : Bs} {cpu kd u x0 x1 : Nat} {r vs : List Nat} (hb : b.right = true) (hu : (usesL kd).length ≠ 0) (hj : readN (2 + (usesL kd).length) r = joinR (x0 :: x1 :: vs) u (readN (2 + (usesL kd).length - (x0 :: x1 :: vs).length) (r.drop u))) (hl : (x0 :: x1 :: vs).length = 2 + (usesL kd).length) :
    takeR b cpu (kd :: r) = takeEv b cpu kd (x0 :: x1 :: vs, u, 0) := by
  rw [takeR_kind hb hu, hj, hl, Nat.sub_self]
  unfold joinR readN
  simp
theorem takeEv_far {b : Bs} {cpu kd u x0 x1 : Nat} {vs : List Nat} (hb : 1 ≤ b.seq ∧ 0 ≤ b.time) (h : 281474976710656 < x0 ∨ 281474976710656 < x1) : takeEv b cpu kd (x0 :: x1 :: vs, u, 0) = (Ev.zero, 0, 61) := by
  unfold takeEv
  rw [if_neg (by simp), if_pos (by simp; omega)]
theorem takeEv_bad {b : Bs} {cpu kd u x0 x1 : Nat} {vs : List Nat} (h : (b.ev cpu kd x0 x1).withErr vs ≠ 0) : takeEv b cpu kd (x0 :: x1 :: vs, u, 0) = (Ev.zero, 0, 61) := by
  unfold takeEv
  rw [if_neg (by simp)]
  split
  · rfl
  · rw [if_pos (by simpa using h)]
theorem takeEv_good {b : Bs} {cpu kd u x0 x1 : Nat} {vs : List Nat} (h : (b.ev cpu kd x0 x1).withErr vs = 0) : takeEv b cpu kd (x0 :: x1 :: vs, u, 0) = ((b.ev cpu kd x0 x1).withEv vs, 1 + u, 0) := by
  have hm : ((b.ev cpu kd x0 x1).made vs).check = 0 := by
    unfold Ev.withErr at h
    split at h
    · cases h
    · split at h
      · cases h
      · split at h
        · cases h
        · rename_i h3; exact Decidable.not_not.1 h3
  have hv := ok_vals hm
  have hk := made_kind (b.ev cpu kd x0 x1) vs
  rw [hk.2.1, hk.2.2.1] at hv
  obtain ⟨_, _, _, h1, h2, h3, h4⟩ := hv
  have h5 : b.seq + (x0 : Int) ≤ 281474976710656 := h2
  have h6 : b.time + (x1 : Int) ≤ 281474976710656 := h4
  unfold takeEv Ev.withEv
  rw [if_neg (by simp), if_neg (by simp; omega), if_neg (by simpa using h), if_pos h]
  rfl
theorem bev_ok {b : Bs} {cpu kd x0 x1 : Nat} (hb : 1 ≤ b.seq ∧ b.seq ≤ 281474976710656 ∧ 0 ≤ b.time ∧ b.time ≤ 281474976710656) (hc : cpu < 256) (hk : kd < 256) (h : ¬ (281474976710656 < x0 ∨ 281474976710656 < x1)) : (b.ev cpu kd x0 x1).Ok := by
  have z : I64 0 := ⟨by decide, by decide⟩
  have zm : (0 : Nat) < 18446744073709551616 := by decide
  exact ⟨⟨by show _ ≤ b.seq + (x0 : Int); omega, by show b.seq + (x0 : Int) ≤ _; omega⟩, ⟨by show _ ≤ b.time + (x1 : Int); omega, by show b.time + (x1 : Int) ≤ _; omega⟩, hc, hk, z, z, z, z, z, zm, z⟩
theorem right_bnd {b : Bs} (h : b.right = true) : 1 ≤ b.seq ∧ b.seq ≤ 281474976710656 ∧ 0 ≤ b.time ∧ b.time ≤ 281474976710656 := by simpa [Bs.right] using h
theorem uses_kind {kd : Nat} (h : 1 ≤ kd ∧ kd ≤ 10) : (usesL kd).length ≠ 0 := by
  obtain rfl | rfl | rfl | rfl | rfl | rfl | rfl | rfl | rfl | rfl : kd = 1 ∨ kd = 2 ∨ kd = 3 ∨ kd = 4 ∨ kd = 5 ∨ kd = 6 ∨ kd = 7 ∨ kd = 8 ∨ kd = 9 ∨ kd = 10 := by omega
  all_goals decide
theorem uses_kindless {kd : Nat} (h : ¬ (1 ≤ kd ∧ kd ≤ 10)) : (usesL kd).length = 0 := by
  unfold usesL
  split <;> first | omega | rfl
theorem rowGo_next {l : List Ev} {k : Nat} {e : Ev} (hk : l[k]? = some e) : rowGo (prevOf l k) k (l.drop k) = if e.check ≠ 0 then ((k : Int), e.check) else if (prevOf l k).all (fun q => e.after q) = false then ((k : Int), 71) else rowGo (prevOf l (k + 1)) (k + 1) (l.drop (k + 1)) := by
  obtain ⟨hl, he⟩ := List.getElem?_eq_some_iff.1 hk
  rw [List.drop_eq_getElem_cons hl, he, show prevOf l (k + 1) = some e from hk]
  rfl
end Go.Proofs.YtpekelggcmgnnaaDoor

/- The reference's rows: what Write's and Read's loops keep. No walk. -/
namespace Go.Proofs.YtpekelggcmgnnaaDoor
open Go.RowKit

theorem bytesIs_none {w w' : World} {b : Bs} {l : List Ev} {er : Nat} (h : writeErr b l = er) (he : er ≠ 0) (hb : Below w.heap.size w w') : BytesIs w (writeErr b l) (writeOut b l) (.returned (.tuple #[.slice none 0 0, .int .i64 (er : Int)])) w' := by
  have ho : writeOut b l = [] := by unfold writeOut; rw [if_neg (by omega)]
  rw [ho, h]
  exact ⟨⟨none, 0, rfl, World.ownsRow_nil _ _ _ _, Nat.le_refl _⟩, hb⟩
theorem writeErr_row {b : Bs} {l : List Ev} (h : (rowR l).2 ≠ 0) : writeErr b l = (rowR l).2 := by unfold writeErr; rw [if_pos h]
theorem writeErr_base {b : Bs} {l : List Ev} (h : (rowR l).2 = 0) (hb : ¬ b.right = true) : writeErr b l = 70 := by unfold writeErr; rw [if_neg (by omega), if_neg (by simp [hb])]
theorem recsSnoc7 : ∀ (l : List Ev) (b : Bs) (e : Ev), recs b (l ++ [e]) = recs b l ++ recBytes (match l.getLast? with | some q => q.at | none => b) e
  | [], b, e => by simp [recs]
  | x :: l, b, e => by
    rw [List.cons_append, recs, recs, recsSnoc7 l x.at e, List.append_assoc]
    congr 2
    cases l with
    | nil => rfl
    | cons y r => simp only [List.getLast?_cons, Option.getD_some]
def writeUp (b : Bs) (l : List Ev) (k : Nat) : List Nat := recs b (l.take k)
theorem recsLen7 : ∀ (l : List Ev) (b : Bs), (recs b l).length ≤ 61 * l.length
  | [], _ => by simp [recs]
  | e :: l, b => by
    rw [recs, List.length_append, List.length_cons]
    have h1 := recsLen7 l e.at
    have h2 := rec_len b e
    omega
theorem writeUp_len (b : Bs) (l : List Ev) (k : Nat) : (writeUp b l k).length ≤ 61 * k := by
  have h1 := recsLen7 (l.take k) b
  have h2 : (l.take k).length ≤ k := by rw [List.length_take]; omega
  unfold writeUp
  omega
theorem putOut_le (b : Bs) (e : Ev) : (putOut b e).length ≤ 61 := by
  unfold putOut
  split
  · exact rec_len b e
  · simp
/-- What is known when k records are written. -/
structure WriteAt (b : Bs) (l : List Ev) (k : Nat) (bk : Bs) : Prop where
  base : bk = baseAt b l k
  head : 0 < k → l.head?.all b.behind = true
theorem WriteAt.start (b : Bs) (l : List Ev) : WriteAt b l 0 b := ⟨rfl, fun h => by omega⟩
section
variable {b bk : Bs} {l : List Ev} {k : Nat} {e : Ev}
theorem WriteAt.bad (h : WriteAt b l k bk) (hr : (rowR l).2 = 0) (hb : b.right = true) (hk : l[k]? = some e) (hp : putErr bk e ≠ 0) : k = 0 := by
  rcases Nat.eq_zero_or_pos k with h0 | h0
  · exact h0
  · obtain ⟨hl, he⟩ := List.getElem?_eq_some_iff.1 hk
    have := put_good hr hb (h.head h0) k hl
    rw [he, ← h.base] at this
    exact absurd this hp
theorem WriteAt.fail (h : WriteAt b l k bk) (hr : (rowR l).2 = 0) (hb : b.right = true) (hk : l[k]? = some e) (h0 : k = 0) (hp : putErr bk e ≠ 0) : writeErr b l = putErr bk e := by
  subst h0
  have hbk : bk = b := h.base
  subst hbk
  obtain ⟨g1, _, _⟩ := rowGo_good l none 0 hr
  have hc := g1 e (List.mem_of_getElem? hk)
  have hbh : ¬ bk.behind e = true := by
    intro h1
    unfold putErr at hp
    rw [if_neg (by simp [hc]), if_pos ⟨hb, h1⟩] at hp
    exact hp rfl
  have hh : l.head? = some e := by rw [List.head?_eq_getElem?]; exact hk
  unfold writeErr putErr
  rw [if_neg (by omega), if_neg (by simp [hh, hbh]), if_neg (by simp [hc]), if_neg (by simp [hbh])]
theorem WriteAt.up (h : WriteAt b l k bk) (hk : l[k]? = some e) (hp : putErr bk e = 0) : writeUp b l (k + 1) = writeUp b l k ++ putOut bk e := by
  obtain ⟨hl, he⟩ := List.getElem?_eq_some_iff.1 hk
  unfold writeUp putOut
  rw [List.take_add_one, hk, if_pos hp, h.base]
  show recs b (l.take k ++ [e]) = _
  rw [recsSnoc7]
  congr 2
  cases k with
  | zero => simp [baseAt]
  | succ j =>
    rw [show (l.take (j + 1)).getLast? = l[j]? from by rw [List.getLast?_take]; simp [List.getElem?_eq_getElem (show j < l.length by omega)]]
    rfl
theorem WriteAt.next (h : WriteAt b l k bk) (hk : l[k]? = some e) (hp : putErr bk e = 0) : WriteAt b l (k + 1) e.at := by
  refine ⟨by show e.at = (match l[k]? with | some e => e.at | none => b); rw [hk], fun _ => ?_⟩
  rcases Nat.eq_zero_or_pos k with h0 | h0
  · subst h0
    have hbk : bk = b := h.base
    subst hbk
    have hh : l.head? = some e := by rw [List.head?_eq_getElem?]; exact hk
    rw [hh]
    unfold putErr at hp
    split at hp
    · omega
    · split at hp
      · rename_i h1; exact h1.2
      · omega
  · exact h.head h0
theorem WriteAt.done {w w' : World} {n c : Nat} {A : Option Addr} (h : WriteAt b l n bk) (hr : (rowR l).2 = 0) (hb : b.right = true) (hln : l.length = n) (ho : w'.ownsRow w.heap.size 5 1 (.slice A (writeUp b l n).length c) (writeUp b l n).length ((writeUp b l n).map B8)) (hc : (writeUp b l n).length ≤ c) (hw : Below w.heap.size w w') :
    BytesIs w (writeErr b l) (writeOut b l) (.returned (.tuple #[.slice A (writeUp b l n).length c, .int .i64 0])) w' := by
  have hh : l.head?.all b.behind = true := by
    rcases Nat.eq_zero_or_pos n with h0 | h0
    · subst h0; rw [List.length_eq_zero_iff.1 hln]; rfl
    · exact h.head h0
  have he : writeErr b l = 0 := by unfold writeErr; rw [if_neg (by omega), if_pos ⟨hb, hh⟩]
  have hout : writeOut b l = writeUp b l n := by unfold writeOut writeUp; rw [if_pos he, ← hln, List.take_length]
  rw [he, hout]
  exact ⟨⟨A, c, rfl, ho, hc⟩, hw⟩
end
/-- Events, how many bytes, the error's number; the events' row is the call's own. -/
def EvsIs (T : TypeId) (w : World) (q : List Ev × Nat × Nat) (r : Ending) (w' : World) : Prop :=
  (∃ A c, r = .returned (.tuple #[.slice A q.1.length c, .int .i64 (q.2.1 : Int), .int .i64 (q.2.2 : Int)]) ∧ w'.ownsRow w.heap.size T 11 (.slice A q.1.length c) q.1.length (q.1.flatMap evL) ∧ q.1.length ≤ c) ∧ Below w.heap.size w w'
theorem evsIs_none {T : TypeId} {w w' : World} {q : List Ev × Nat × Nat} {er : Nat} (h : q = ([], 0, er)) (hb : Below w.heap.size w w') : EvsIs T w q (.returned (.tuple #[.slice none 0 0, .int .i64 0, .int .i64 (er : Int)])) w' := by
  subst h
  exact ⟨⟨none, 0, rfl, World.ownsRow_nil _ _ _ _, Nat.le_refl _⟩, hb⟩
theorem evsIs_row {T : TypeId} {w w' : World} {q : List Ev × Nat × Nat} {es : List Ev} {u c : Nat} {A : Option Addr} (h : q = (es, u, 0)) (ho : w'.ownsRow w.heap.size T 11 (.slice A es.length c) es.length (es.flatMap evL)) (hc : es.length ≤ c) (hb : Below w.heap.size w w') : EvsIs T w q (.returned (.tuple #[.slice A es.length c, .int .i64 (u : Int), .int .i64 0])) w' := by
  subst h
  exact ⟨⟨A, c, rfl, ho, hc⟩, hb⟩
/-- What is known when some events are read. -/
structure ReadJn (b : Bs) (cpu : Nat) (m : Nat) (l : List Nat) (es : List Ev) (u : Nat) (bk : Bs) : Prop where
  fits : u ≤ l.length
  most : es.length ≤ u
  few : es.length ≤ m
  last : ∀ q, es.getLast? = some q → bk = q.at
  said : readGo cpu m b none l = joinE es u (readGo cpu (m - es.length) bk es.getLast? (l.drop u))
section
variable {b bk : Bs} {cpu m u L er : Nat} {l : List Nat} {es : List Ev} {e : Ev}
theorem ReadJn.start (b : Bs) (cpu m : Nat) (l : List Nat) : ReadJn b cpu m l [] 0 b := ⟨Nat.zero_le _, Nat.le_refl _, Nat.zero_le _, fun q h => by simp at h, (joinE_nil cpu m b none l).symm⟩
theorem ReadJn.bad (h : ReadJn b cpu m l es u bk) (hm : es.length < m) (hq : takeR bk cpu (l.drop u) = (e, L, er)) (he : er ≠ 0) : readGo cpu m b none l = ([], 0, er) := by
  rw [h.said, show m - es.length = (m - es.length - 1) + 1 by omega]
  exact joinE_bad hq he es u
theorem ReadJn.same (h : ReadJn b cpu m l es u bk) (hm : es.length < m) (hq : takeR bk cpu (l.drop u) = (e, L, 0)) (he : es.getLast?.any (fun q => decide (e.seq = q.seq)) = true) : readGo cpu m b none l = ([], 0, 71) := by
  rw [h.said, show m - es.length = (m - es.length - 1) + 1 by omega]
  exact joinE_same hq he es u
theorem ReadJn.next (h : ReadJn b cpu m l es u bk) (hm : es.length < m) (hq : takeR bk cpu (l.drop u) = (e, L, 0)) (he : es.getLast?.any (fun q => decide (e.seq = q.seq)) = false) : ReadJn b cpu m l (es ++ [e]) (u + L) e.at := by
  have h1 := takeR_len bk cpu (l.drop u)
  rw [hq, List.length_drop] at h1
  simp only at h1
  have h2 := h1.2 trivial
  have h3 := h.fits
  have h4 := h.most
  refine ⟨by omega, by simp; omega, by simp; omega, fun q hq => ?_, ?_⟩
  · simp at hq; rw [hq]
  · rw [h.said, show m - es.length = (m - es.length - 1) + 1 by omega, joinE_good hq he es u, List.drop_drop]
    simp [Nat.sub_sub]
theorem ReadJn.done (h : ReadJn b cpu m l es u bk) (hm : m ≤ es.length) : readGo cpu m b none l = (es, u, 0) := by
  rw [h.said, show m - es.length = 0 by omega]
  simp [readGo, joinE]
theorem readR_go {n : Int} (h : ¬ n < 0) (hb : b.right = true) : readR b cpu n l = readGo cpu n.toNat b none l := by unfold readR; rw [if_neg h, if_neg (by simp [hb])]
end
end Go.Proofs.YtpekelggcmgnnaaDoor

/- quantumkit: the marks behind a lent list. No walk. -/
namespace Go.Proofs.YtpekelggcmgnnaaDoor
open Go.RowKit

def markB (k : Nat) : Nat := (8000024 + k) * 11400714819323198485 % 18446744073709551616 / 72057594037927936
def marks (k : Nat) : List Nat := (List.range k).map markB
theorem marks_succ (k : Nat) : marks (k + 1) = marks k ++ [markB k] := by unfold marks; rw [List.range_succ, List.map_append]; rfl
theorem marks_len (k : Nat) : (marks k).length = k := by simp [marks]
theorem markB_lt (k : Nat) : markB k < 256 := by unfold markB; omega
/-- A list that is lent: twelve marks lie behind it. -/
def LentIs (w : World) (l : List Nat) (r : Ending) (w' : World) : Prop :=
  (∃ A c, r = .returned (.slice A l.length c) ∧ w'.ownsRow w.heap.size 5 1 (.slice A (l.length + 12) c) (l.length + 12) ((l ++ marks 12).map B8) ∧ l.length + 12 ≤ c) ∧ Below w.heap.size w w'
theorem mark_u64 (k : Nat) (hk : k ≤ 1000) : IntKind.u64.wrap ((8000024 + k : Nat) : Int) = ((8000024 + k : Nat) : Int) := by rw [IntKind.wrap_u64]; omega
theorem mark_mul (k : Nat) : IntKind.u64.wrap (((8000024 + k : Nat) : Int) * 11400714819323198485) = (((8000024 + k) * 11400714819323198485 % 18446744073709551616 : Nat) : Int) := by rw [IntKind.wrap_u64]; omega
theorem mark_shr (x : Nat) : Int.fdiv (x : Int) (2 ^ (min (56 : Int).toNat (IntKind.u64).bits)) = ((x / 72057594037927936 : Nat) : Int) := by
  rw [show (2 : Int) ^ (min (56 : Int).toNat (IntKind.u64).bits) = 72057594037927936 from by decide, Int.fdiv_eq_ediv_of_nonneg _ (by decide)]
  rfl
theorem mark_u8 (k : Nat) : IntKind.u8.wrap (((8000024 + k) * 11400714819323198485 % 18446744073709551616 / 72057594037927936 : Nat) : Int) = (markB k : Int) := by
  have := markB_lt k
  unfold markB at *
  rw [IntKind.wrap_u8]
  omega
theorem lent_at {l : List Nat} {n k : Nat} (hl : l.length = n) (h : k < n + 12) : (k < n → ∃ x, l[k]? = some x ∧ (l ++ marks 12)[k]? = some x) ∧ (n ≤ k → (l ++ marks 12)[k]? = some (markB (k - n))) := by
  refine ⟨fun hk => ⟨l[k], List.getElem?_eq_getElem (by omega), ?_⟩, fun hk => ?_⟩
  · rw [List.getElem?_append_left (by omega)]; exact List.getElem?_eq_getElem (by omega)
  · rw [List.getElem?_append_right (by omega), hl]
    unfold marks
    rw [List.getElem?_map, List.getElem?_range (by omega)]
    rfl
end Go.Proofs.YtpekelggcmgnnaaDoor

/- quantumkit: LentBytes, KeptBytes. -/
set_option linter.all false
namespace Go.Proofs.YtpekelggcmgnnaaDoor
open Go.RowKit
set_option maxRecDepth 100000 in
set_option maxHeartbeats 4000000 in
theorem mark_any (k : Nat) (hk : k ≤ 1000) (w : World) : Calls Tryd.prog 66 #[.int .i64 1, .int .i64 (k : Int)] w fun r w' => r = .returned (.int .i64 ((8000024 + k : Nat) : Int)) ∧ Below w.heap.size w w' := by
  refine calls_enter (vs := [.int .i64 1, .int .i64 (k : Int)]) Tryd.func66 rfl rfl (by kernel_rfl) (σ0 := [(0, .int .i64 1), (1, .int .i64 (k : Int))]) rfl ?_
  intro a HF
  have HM := Mem.start w
  refine wp_seq ?_
  refine from_start ?_
  refine from_pures HF 1 0 (j := 1) [(4, .int .i64 0)] (by kernel_rfl) rfl ?_; clear HF; intro a HF
  refine from_done rfl ?_
  refine wp_seq ?_
  refine from_start ?_
  refine from_pures HF 5 0 (j := 5) [(9, .int .i64 (IntKind.i64.wrap (8000024 + (k : Int)))), (8, .int .i64 (k : Int)), (7, .int .i64 8000024), (6, .int .i64 8), (5, .int .i64 1)] (by kernel_rfl) rfl ?_; clear HF; intro a HF
  replace HF := HF.as (t := 9) (u := .int .i64 ((8000024 + k : Nat) : Int)) rfl (by rw [IntWalk.i64_in _ (by omega)]; simp)
  refine from_pures HF 1 5 (j := 6) [(4, .int .i64 ((8000024 + k : Nat) : Int))] (by kernel_rfl) rfl ?_; clear HF; intro a HF
  refine from_done rfl ?_
  replace HF := HF.sub (σ' := [(4, .int .i64 ((8000024 + k : Nat) : Int))]) (by kernel_rfl)
  refine wp_ret ?_
  exact ret1 rfl HF (.tmp HF rfl) (⟨rfl, HM.below⟩)
set_option maxRecDepth 100000 in
set_option maxHeartbeats 4000000 in
theorem markByte_any (k : Nat) (hk : k ≤ 1000) (w : World) : Calls Tryd.prog 51 #[.int .i64 1, .int .i64 (k : Int)] w fun r w' => r = .returned (.int .u8 (markB k : Int)) ∧ Below w.heap.size w w' := by
  refine calls_enter (vs := [.int .i64 1, .int .i64 (k : Int)]) Tryd.func51 rfl rfl (by kernel_rfl) (σ0 := [(0, .int .i64 1), (1, .int .i64 (k : Int))]) rfl ?_
  intro a HF
  have HM := Mem.start w
  refine wp_seq ?_
  refine from_start ?_
  refine from_pures HF 1 0 (j := 1) [(4, .int .u8 0)] (by kernel_rfl) rfl ?_; clear HF; intro a HF
  refine from_done rfl ?_
  refine wp_seq ?_
  refine from_start ?_
  refine from_pures HF 2 0 (j := 2) [(6, .int .i64 (k : Int)), (5, .int .i64 1)] (by kernel_rfl) rfl ?_; clear HF; intro a HF
  refine from_op HF (i := 2) rfl rfl ?_
  refine e_call HF (vs := [.int .i64 1, .int .i64 (k : Int)]) rfl (by kernel_rfl) (by kernel_rfl) rfl (by decide) (mark_any k hk _) ?_
  rintro _ w7 ⟨rfl, hbw⟩
  refine ⟨_, rfl, ?_⟩
  replace HM := HM.call hbw
  clear HF; intro a HF
  refine from_pures HF 1 3 (j := 4) [(8, .int .u64 (IntKind.u64.wrap ((8000024 + k : Nat) : Int)))] (by kernel_rfl) rfl ?_; clear HF; intro a HF
  replace HF := HF.as (t := 8) (u := .int .u64 ((8000024 + k : Nat) : Int)) rfl (by rw [mark_u64 k hk])
  refine from_pures HF 1 4 (j := 5) [(9, .int .u64 (IntKind.u64.wrap (((8000024 + k : Nat) : Int) * 11400714819323198485)))] (by kernel_rfl) rfl ?_; clear HF; intro a HF
  replace HF := HF.as (t := 9) (u := .int .u64 (((8000024 + k) * 11400714819323198485 % 18446744073709551616 : Nat) : Int)) rfl (by rw [mark_mul k])
  refine from_pures HF 1 5 (j := 6) [(10, .int .u64 (Int.fdiv (((8000024 + k) * 11400714819323198485 % 18446744073709551616 : Nat) : Int) (2 ^ (min (56 : Int).toNat (IntKind.u64).bits))))] (by kernel_rfl) rfl ?_; clear HF; intro a HF
  replace HF := HF.as (t := 10) (u := .int .u64 (((8000024 + k) * 11400714819323198485 % 18446744073709551616 / 72057594037927936 : Nat) : Int)) rfl (by rw [mark_shr])
  refine from_pures HF 1 6 (j := 7) [(11, .int .u8 (IntKind.u8.wrap (((8000024 + k) * 11400714819323198485 % 18446744073709551616 / 72057594037927936 : Nat) : Int)))] (by kernel_rfl) rfl ?_; clear HF; intro a HF
  replace HF := HF.as (t := 11) (u := .int .u8 (markB k : Int)) rfl (by rw [mark_u8 k])
  refine from_pures HF 1 7 (j := 8) [(4, .int .u8 (markB k : Int))] (by kernel_rfl) rfl ?_; clear HF; intro a HF
  refine from_done rfl ?_
  replace HF := HF.sub (σ' := [(4, .int .u8 (markB k : Int))]) (by kernel_rfl)
  refine wp_ret ?_
  exact ret1 rfl HF (.tmp HF rfl) (⟨rfl, HM.below⟩)
set_option maxRecDepth 100000 in
set_option maxHeartbeats 4000000 in
theorem lent_any (A : Option Addr) (n c : Nat) (l : List Nat) (w : World) (hr : Rd w w.heap.size 1 A n (l.map B8)) (hn : n ≤ 140737488351232) (hln : l.length = n) :
    Calls Tryd.prog 26 #[.slice A n c] w (LentIs w l) := by
  refine calls_enter (vs := [.slice A n c]) Tryd.func26 rfl rfl (by kernel_rfl) (σ0 := [(0, .slice A n c)]) rfl ?_
  intro a HF
  have HM := Mem.start w
  refine wp_seq ?_
  refine from_start ?_
  refine from_pures HF 1 0 (j := 1) [(2, .slice none 0 0)] (by kernel_rfl) rfl ?_; clear HF; intro a HF
  refine from_done rfl ?_
  refine wp_seq ?_
  refine from_start ?_
  refine from_pures HF 1 0 (j := 1) [(5, .slice A n c)] (by kernel_rfl) rfl ?_; clear HF; intro a HF
  refine from_yl (S := fun wS => Mem w wS _) HF HM (i := 1) rfl rfl (d := 6) rfl (by decide) (v := .int .i64 ((n : Nat) : Int)) (Yl.len rfl rfl (by kernel_rfl)) ?_; clear HF; intro a HF
  refine from_pures HF 1 2 (j := 3) [(7, .int .i64 (IntKind.i64.wrap (((n : Nat) : Int) + 12)))] (by kernel_rfl) rfl ?_; clear HF; intro a HF
  replace HF := HF.as (t := 7) (u := .int .i64 ((n + 12 : Nat) : Int)) rfl (by rw [IntWalk.i64_in _ (by omega)]; simp)
  refine from_op HF (i := 3) rfl rfl ?_
  refine e_make0 HF HM (m := (n + 12)) rfl ei_u8 rfl rfl (by omega) (by omega) rfl (by decide) ?_
  clear HF HM; intro a w8 g8 HF HM
  refine from_pures HF 1 4 (j := 5) [(3, .slice (some ⟨g8, 0, none⟩) 0 (n + 12))] (by kernel_rfl) rfl ?_; clear HF; intro a HF
  refine from_done rfl ?_
  replace HF := HF.sub (σ' := [(3, .slice (some ⟨g8, 0, none⟩) 0 (n + 12)), (2, .slice none 0 0), (0, .slice A n c)]) (by kernel_rfl)
  refine wp_seq ?_
  refine from_start ?_
  refine from_pures HF 2 0 (j := 2) [(10, .slice A n c), (9, .slice (some ⟨g8, 0, none⟩) 0 (n + 12))] (by kernel_rfl) rfl ?_; clear HF; intro a HF
  refine from_op HF (i := 2) rfl rfl ?_
  refine e_append_wide HF HM (i := 0) rfl ei_u8 rfl rfl rfl (news := (l.map B8)) (HM.old hr) (one_B8 _) (by omega) (by omega) rfl (by decide) ?_
  clear HF HM; intro a w11 A11 c11 HF HM hc11
  refine from_pures HF 1 3 (j := 4) [(3, .slice A11 (0 + n) c11)] (by kernel_rfl) rfl ?_; clear HF; intro a HF
  refine from_done rfl ?_
  replace HF := HF.sub (σ' := [(3, .slice A11 (0 + n) c11), (2, .slice none 0 0), (0, .slice A n c)]) (by kernel_rfl)
  have hnA11 : 0 + n = n + 0 := by omega
  replace HM := HM.reRow (i := 0) (ys := (l ++ marks 0).map B8) rfl hnA11 (by simp [marks])
  rw [hnA11] at hc11
  replace HF := HF.as (t := 3) (u := .slice A11 (n + 0) c11) rfl (by rw [hnA11])
  refine wp_seq ?_
  refine wp_seq ?_
  refine from_start ?_
  refine from_pures HF 1 0 (j := 1) [(4, .int .i64 0)] (by kernel_rfl) rfl ?_; clear HF; intro a HF
  refine from_done rfl ?_
  replace HF := HF.sub (σ' := [(4, .int .i64 0), (3, .slice A11 (n + 0) c11), (2, .slice none 0 0), (0, .slice A n c)]) (by kernel_rfl)
  refine wp_block ?_
  refine loop_nat (fun mS aS wS => ∃ (k : Nat) (Ak : Option Addr) (ck : Nat), (k ≤ 12) ∧ (n + k ≤ ck) ∧ mS = 12 - k ∧ Fr aS 25 [] [(4, .int .i64 (k : Int)), (3, .slice Ak (n + k) ck), (2, .slice none 0 0), (0, .slice A n c)] ∧ Mem w wS [.row (.slice Ak (n + k) ck) (n + k) ((l ++ marks k).map B8) 5 1]) (m := 12 - 0) ⟨0, A11, c11, by omega, hc11, rfl, HF.sub (by kernel_rfl), HM.picks [0] (by decide) rfl⟩ ?_
  clear HF HM; rintro mS a w_ ⟨k, Ak, ck, hk, hck, rfl, HF, HM⟩
  refine wp_seq ?_
  refine wp_seq ?_
  refine from_start ?_
  refine from_pures HF 2 0 (j := 2) [(13, .bool (decide (((k : Int) : Int) < (12 : Int)))), (12, .int .i64 (k : Int))] (by kernel_rfl) rfl ?_; clear HF; intro a HF
  refine from_done rfl ?_
  replace HF := HF.sub (σ' := [(13, .bool (decide (((k : Int) : Int) < (12 : Int)))), (4, .int .i64 (k : Int)), (3, .slice Ak (n + k) ck), (2, .slice none 0 0), (0, .slice A n c)]) (by kernel_rfl)
  rcases Bool.eq_false_or_eq_true (decide (((k : Int) : Int) < (12 : Int))) with hb13 | hb13
  · have HF := HF.as (t := 13) (u := .bool true) rfl (by rw [hb13])
    have hk13 : k < 12 := by have := of_decide_eq_true hb13; omega
    refine cond_true HF rfl ?_
    refine wp_skip ?_
    refine wp_seq ?_
    refine wp_block ?_
    refine from_start ?_
    refine from_pures HF 2 0 (j := 2) [(17, .int .i64 (k : Int)), (16, .slice Ak (n + k) ck)] (by kernel_rfl) rfl ?_; clear HF; intro a HF
    refine from_op HF (i := 2) rfl rfl ?_
    refine e_call HF (vs := [.int .i64 1, .int .i64 (k : Int)]) rfl (by kernel_rfl) (by kernel_rfl) rfl (by decide) (markByte_any k (by omega) _) ?_
    rintro _ w18 ⟨rfl, hbw⟩
    refine ⟨_, rfl, ?_⟩
    replace HM := HM.call hbw
    clear HF; intro a HF
    refine from_op HF (i := 3) rfl rfl ?_
    refine e_slice HF HM (vs := [(0, .int .u8 (markB k : Int))]) (cs := #[.int .u8 (markB k : Int)]) rfl ei_u8 (by decide) rfl (by kernel_rfl) rfl (by decide) ?_
    clear HF HM; intro a w19 g19 HF HM
    refine from_op HF (i := 4) rfl rfl ?_
    refine e_append HF HM (i := 1) rfl ei_u8 rfl rfl rfl (news := [B8 (markB k)]) (HM.rdBlk (i := 0) (n := 1) (size := 1) rfl rfl) (by simp [Value.oneCell', U64, B8]) (by omega) (by omega) rfl (by decide) ?_
    clear HF HM; intro a w20 A20 c20 HF HM hc20
    refine from_pures HF 1 5 (j := 6) [(3, .slice A20 (n + k + 1) c20)] (by kernel_rfl) rfl ?_; clear HF; intro a HF
    refine from_done rfl ?_
    replace HF := HF.sub (σ' := [(3, .slice A20 (n + k + 1) c20), (13, .bool true), (4, .int .i64 (k : Int)), (2, .slice none 0 0), (0, .slice A n c)]) (by kernel_rfl)
    replace HM := HM.picks (fs' := [.row (.slice A20 (n + k + 1) c20) (n + k + 1) (((l ++ marks k).map B8) ++ [B8 (markB k)]) 5 1]) [1] (by decide) rfl
    have hnA20 : n + k + 1 = n + (k + 1) := by omega
    replace HM := HM.reRow (i := 0) (ys := (l ++ marks (k + 1)).map B8) rfl hnA20 (by rw [marks_succ]; simp)
    rw [hnA20] at hc20
    replace HF := HF.as (t := 3) (u := .slice A20 (n + (k + 1)) c20) rfl (by rw [hnA20])
    refine from_start ?_
    refine from_pures HF 2 0 (j := 2) [(15, .int .i64 (IntKind.i64.wrap ((k : Int) + 1))), (14, .int .i64 (k : Int))] (by kernel_rfl) rfl ?_; clear HF; intro a HF
    replace HF := HF.as (t := 15) (u := .int .i64 ((k + 1 : Nat) : Int)) rfl (by rw [IntWalk.i64_in _ (by omega)]; simp)
    refine from_pures HF 1 2 (j := 3) [(4, .int .i64 ((k + 1 : Nat) : Int))] (by kernel_rfl) rfl ?_; clear HF; intro a HF
    refine from_done rfl ?_
    replace HF := HF.sub (σ' := [(4, .int .i64 ((k + 1 : Nat) : Int)), (3, .slice A20 (n + (k + 1)) c20), (13, .bool true), (2, .slice none 0 0), (0, .slice A n c)]) (by kernel_rfl)
    exact ⟨_, (by omega), k + 1, A20, c20, by omega, hc20, rfl, HF.sub (by kernel_rfl), HM.picks [0] (by decide) rfl⟩
  · have HF := HF.as (t := 13) (u := .bool false) rfl (by rw [hb13])
    obtain rfl : k = 12 := by have := of_decide_eq_false hb13; omega
    refine cond_false HF rfl ?_
    refine wp_exit ?_
    refine wp_seq ?_
    refine from_start ?_
    refine from_pures HF 2 0 (j := 2) [(22, .slice A n c), (21, .slice Ak (n + 12) ck)] (by kernel_rfl) rfl ?_; clear HF; intro a HF
    refine from_yl (S := fun wS => Mem w wS _) HF HM (i := 2) rfl rfl (d := 23) rfl (by decide) (v := .int .i64 ((n : Nat) : Int)) (Yl.len rfl rfl (by kernel_rfl)) ?_; clear HF; intro a HF
    refine from_yl (S := fun wS => Mem w wS _) HF HM (i := 3) rfl rfl (d := 24) rfl (by decide) (v := .slice Ak n ck) (Yl.sliceUpto ei_u8 (j := n) rfl rfl rfl (by omega)) ?_; clear HF; intro a HF
    refine from_pures HF 1 4 (j := 5) [(2, .slice Ak n ck)] (by kernel_rfl) rfl ?_; clear HF; intro a HF
    refine from_done rfl ?_
    replace HF := HF.sub (σ' := [(2, .slice Ak n ck), (13, .bool false), (4, .int .i64 (12 : Int)), (3, .slice Ak (n + 12) ck), (0, .slice A n c)]) (by kernel_rfl)
    refine wp_ret ?_
    exact ret1 rfl HF (.tmp HF rfl) (⟨⟨Ak, ck, by rw [hln], by rw [hln]; exact HM.own (i := 0) rfl, by omega⟩, HM.below⟩)
set_option maxRecDepth 100000 in
set_option maxHeartbeats 4000000 in
theorem kept_any (A A2 : Option Addr) (n c c2 : Nat) (l : List Nat) (w : World) (hr : Rd w w.heap.size 1 A (n + 12) ((l ++ marks 12).map B8)) (hc : n + 12 ≤ c) (hr2 : Rd w w.heap.size 1 A2 n (l.map B8)) (hn : n ≤ 140737488351232) (hln : l.length = n) :
    Calls Tryd.prog 32 #[.slice A n c, .slice A2 n c2] w (BoolPost w true) := by
  refine calls_enter (vs := [.slice A n c, .slice A2 n c2]) Tryd.func32 rfl rfl (by kernel_rfl) (σ0 := [(0, .slice A n c), (1, .slice A2 n c2)]) rfl ?_
  intro a HF
  have HM := Mem.start w
  refine wp_seq ?_
  refine from_start ?_
  refine from_pures HF 1 0 (j := 1) [(4, .bool false)] (by kernel_rfl) rfl ?_; clear HF; intro a HF
  refine from_done rfl ?_
  refine wp_seq ?_
  refine wp_seq ?_
  refine from_start ?_
  refine from_pures HF 1 0 (j := 1) [(7, .slice A n c)] (by kernel_rfl) rfl ?_; clear HF; intro a HF
  refine from_yl (S := fun wS => Mem w wS _) HF HM (i := 1) rfl rfl (d := 8) rfl (by decide) (v := .int .i64 ((n : Nat) : Int)) (Yl.len rfl rfl (by kernel_rfl)) ?_; clear HF; intro a HF
  refine from_pures HF 1 2 (j := 3) [(9, .slice A2 n c2)] (by kernel_rfl) rfl ?_; clear HF; intro a HF
  refine from_yl (S := fun wS => Mem w wS _) HF HM (i := 3) rfl rfl (d := 10) rfl (by decide) (v := .int .i64 ((n : Nat) : Int)) (Yl.len rfl rfl (by kernel_rfl)) ?_; clear HF; intro a HF
  refine from_pures HF 1 4 (j := 5) [(11, .bool ((((n : Nat) : Int) : Int) != (((n : Nat) : Int) : Int)))] (by kernel_rfl) rfl ?_; clear HF; intro a HF
  replace HF := HF.as (t := 11) (u := .bool false) rfl (by simp)
  refine from_done rfl ?_
  replace HF := HF.sub (σ' := [(11, .bool false), (4, .bool false), (0, .slice A n c), (1, .slice A2 n c2)]) (by kernel_rfl)
  refine cond_false HF rfl ?_
  refine wp_skip ?_
  refine wp_seq ?_
  refine from_start ?_
  refine from_pures HF 2 0 (j := 2) [(13, .slice A2 n c2), (12, .slice A n c)] (by kernel_rfl) rfl ?_; clear HF; intro a HF
  refine from_yl (S := fun wS => Mem w wS _) HF HM (i := 2) rfl rfl (d := 14) rfl (by decide) (v := .int .i64 ((n : Nat) : Int)) (Yl.len rfl rfl (by kernel_rfl)) ?_; clear HF; intro a HF
  refine from_pures HF 1 3 (j := 4) [(15, .int .i64 (IntKind.i64.wrap (((n : Nat) : Int) + 12)))] (by kernel_rfl) rfl ?_; clear HF; intro a HF
  replace HF := HF.as (t := 15) (u := .int .i64 ((n + 12 : Nat) : Int)) rfl (by rw [IntWalk.i64_in _ (by omega)]; simp)
  refine from_yl (S := fun wS => Mem w wS _) HF HM (i := 4) rfl rfl (d := 16) rfl (by decide) (v := .slice A (n + 12) c) (Yl.sliceUpto ei_u8 (j := (n + 12)) rfl rfl rfl (hc)) ?_; clear HF; intro a HF
  refine from_pures HF 1 5 (j := 6) [(5, .slice A (n + 12) c)] (by kernel_rfl) rfl ?_; clear HF; intro a HF
  refine from_done rfl ?_
  replace HF := HF.sub (σ' := [(5, .slice A (n + 12) c), (11, .bool false), (4, .bool false), (0, .slice A n c), (1, .slice A2 n c2)]) (by kernel_rfl)
  refine wp_seq ?_
  refine wp_seq ?_
  refine from_start ?_
  refine from_pures HF 1 0 (j := 1) [(6, .int .i64 0)] (by kernel_rfl) rfl ?_; clear HF; intro a HF
  refine from_done rfl ?_
  refine wp_block ?_
  refine loop_nat (fun mS aS wS => ∃ (k : Nat), (k ≤ n + 12) ∧ mS = n + 12 - k ∧ Fr aS 58 [] [(6, .int .i64 (k : Int)), (5, .slice A (n + 12) c), (11, .bool false), (4, .bool false), (0, .slice A n c), (1, .slice A2 n c2)] ∧ Mem w wS []) (m := n + 12 - 0) ⟨0, Nat.zero_le _, rfl, HF.sub (by kernel_rfl), HM.picks [] (by decide) rfl⟩ ?_
  clear HF HM; rintro mS a w_ ⟨k, hk, rfl, HF, HM⟩
  refine wp_seq ?_
  refine wp_seq ?_
  refine from_start ?_
  refine from_pures HF 2 0 (j := 2) [(18, .slice A (n + 12) c), (17, .int .i64 (k : Int))] (by kernel_rfl) rfl ?_; clear HF; intro a HF
  refine from_yl (S := fun wS => Mem w wS _) HF HM (i := 2) rfl rfl (d := 19) rfl (by decide) (v := .int .i64 (((n + 12) : Nat) : Int)) (Yl.len rfl rfl (by kernel_rfl)) ?_; clear HF; intro a HF
  refine from_pures HF 1 3 (j := 4) [(20, .bool (decide (((k : Int) : Int) < ((((n + 12) : Nat) : Int) : Int))))] (by kernel_rfl) rfl ?_; clear HF; intro a HF
  refine from_done rfl ?_
  replace HF := HF.sub (σ' := [(20, .bool (decide (((k : Int) : Int) < ((((n + 12) : Nat) : Int) : Int)))), (6, .int .i64 (k : Int)), (5, .slice A (n + 12) c), (11, .bool false), (4, .bool false), (0, .slice A n c), (1, .slice A2 n c2)]) (by kernel_rfl)
  rcases Bool.eq_false_or_eq_true (decide (((k : Int) : Int) < ((((n + 12) : Nat) : Int) : Int))) with hb20 | hb20
  · have HF := HF.as (t := 20) (u := .bool true) rfl (by rw [hb20])
    have hk20 : k < n + 12 := by have := of_decide_eq_true hb20; omega
    refine cond_true HF rfl ?_
    refine wp_skip ?_
    refine wp_seq ?_
    refine wp_block ?_
    refine cut_seq (fun aS wS => Fr aS 58 [] [(57, .bool false), (20, .bool true), (6, .int .i64 (k : Int)), (5, .slice A (n + 12) c), (11, .bool false), (4, .bool false), (0, .slice A n c), (1, .slice A2 n c2)] ∧ Mem w wS []) ?_ ?_
    ·
      refine any_start (by kernel_rfl) (fun wS => Mem w wS []) [] ?_
      replace HM := HM.drew
      have HS := HM.picks (fs' := []) [] (by decide) rfl
      refine any_pures HF (fun _ => HS) (fun _ _ d _ _ h => by cases d <;> exact h) [0, 1] #[true, true, false, false, false, false, false, false, false, false, false, false, false, false, false, false, false, false, false, false, false, false, false, false, false, false, false, false, false, false, false, false, false, false, false] [(24, .slice A2 n c2), (23, .int .i64 (k : Int))] (by kernel_rfl) ?_; clear HF; intro a HF
      refine any_yl HF HS (i := 2) rfl rfl (d := 25) rfl (by decide) (by kernel_rfl) (fun _ _ _ h => h) (v := .int .i64 ((n : Nat) : Int)) (Yl.len rfl rfl (by kernel_rfl)) ?_; clear HF; intro a HF
      refine any_pures HF (fun _ => HS) (fun _ _ d _ _ h => by cases d <;> exact h) [3, 4] #[true, true, true, true, true, false, false, false, false, false, false, false, false, false, false, false, false, false, false, false, false, false, false, false, false, false, false, false, false, false, false, false, false, false, false] [(27, .bool (decide (((k : Int) : Int) < (((n : Nat) : Int) : Int)))), (26, .bool (decide (((k : Int) : Int) < (((n : Nat) : Int) : Int))))] (by kernel_rfl) ?_; clear HF; intro a HF
      rcases Bool.eq_false_or_eq_true (decide (((k : Int) : Int) < (((n : Nat) : Int) : Int))) with hb27 | hb27
      · have HF := HF.as (t := 27) (u := .bool true) rfl (by rw [hb27])
        have hk26 : k < n := by have := of_decide_eq_true hb27; omega
        obtain ⟨x, hx1, hx2⟩ := (lent_at hln hk20).1 hk26
        refine any_pures HF (fun _ => HS) (fun _ _ d _ _ h => by cases d <;> exact h) [5, 6, 9, 10] #[true, true, true, true, true, true, true, false, false, true, true, false, false, false, false, false, false, false, false, false, false, false, false, false, false, false, false, false, false, false, false, false, false, false, false] [(33, .int .i64 (k : Int)), (32, .slice A2 n c2), (29, .int .i64 (k : Int)), (28, .slice A (n + 12) c)] (by kernel_rfl) ?_; clear HF; intro a HF
        obtain ⟨gA, oA, rfl, _⟩ := hr.some_at (Nat.lt_of_le_of_lt (Nat.zero_le _) (show k < (n + 12) from hk20)) (by decide)
        refine any_yl HF HS (i := 7) rfl rfl (d := 30) rfl (by decide) (by kernel_rfl) (fun _ _ _ h => h) (v := .pointer (some ⟨gA, oA + k * 1, none⟩)) ((Yl.indexAddr (ad := ⟨gA, oA, none⟩) (y := k) (sz := 1) rfl rfl rfl (hk20) (by kernel_rfl)).as (by rw [Addr.add_mid])) ?_; clear HF; intro a HF
        refine any_yl HF HS (i := 8) rfl rfl (d := 31) rfl (by decide) (by kernel_rfl) (fun _ _ _ h => h) (v := .int .u8 (x : Int)) (Yl.load1 rfl rfl (by kernel_rfl) (fun _ h => (h.old hr).oneAt1 (k := k) (map_at (F := B8) (k := k) (x := x) (hx2)))) ?_; clear HF; intro a HF
        obtain ⟨gA2, oA2, rfl, _⟩ := hr2.some_at (Nat.lt_of_le_of_lt (Nat.zero_le _) (show k < n from hk26)) (by decide)
        refine any_yl HF HS (i := 11) rfl rfl (d := 34) rfl (by decide) (by kernel_rfl) (fun _ _ _ h => h) (v := .pointer (some ⟨gA2, oA2 + k * 1, none⟩)) ((Yl.indexAddr (ad := ⟨gA2, oA2, none⟩) (y := k) (sz := 1) rfl rfl rfl (hk26) (by kernel_rfl)).as (by rw [Addr.add_mid])) ?_; clear HF; intro a HF
        refine any_yl HF HS (i := 12) rfl rfl (d := 35) rfl (by decide) (by kernel_rfl) (fun _ _ _ h => h) (v := .int .u8 (x : Int)) (Yl.load1 rfl rfl (by kernel_rfl) (fun _ h => (h.old hr2).oneAt1 (k := k) (map_at (F := B8) (k := k) (x := x) (hx1)))) ?_; clear HF; intro a HF
        refine any_pure HF (fun _ => HS) (i := 13) rfl rfl (d := 36) rfl (by decide) (by kernel_rfl) (fun _ _ _ h => h) (v := .bool (((x : Int) : Int) == ((x : Int) : Int))) (fun _ => Yl.pure (by kernel_rfl)) ?_; clear HF; intro a HF
        replace HF := HF.as (t := 36) (u := .bool true) rfl (by simp)
        refine any_pures HF (fun _ => HS) (fun _ _ d _ _ h => by cases d <;> exact h) [14, 15, 16, 17, 18] #[true, true, true, true, true, true, true, true, true, true, true, true, true, true, true, true, true, true, true, false, false, false, false, false, false, false, false, false, false, false, false, false, false, false, false] [(41, .slice (some ⟨gA2, oA2, none⟩) n c2), (40, .int .i64 (k : Int)), (39, .bool false), (38, .bool false), (37, .bool false)] (by kernel_rfl) ?_; clear HF; intro a HF
        refine any_yl HF HS (i := 19) rfl rfl (d := 42) rfl (by decide) (by kernel_rfl) (fun _ _ _ h => h) (v := .int .i64 ((n : Nat) : Int)) (Yl.len rfl rfl (by kernel_rfl)) ?_; clear HF; intro a HF
        refine any_pure HF (fun _ => HS) (i := 20) rfl rfl (d := 43) rfl (by decide) (by kernel_rfl) (fun _ _ _ h => h) (v := .bool (decide (((k : Int) : Int) ≥ (((n : Nat) : Int) : Int)))) (fun _ => Yl.pure (by kernel_rfl)) ?_; clear HF; intro a HF
        replace HF := HF.as (t := 43) (u := .bool false) rfl (by rw [decide_eq_false (by omega)])
        refine any_pures HF (fun _ => HS) (fun _ _ d _ _ h => by cases d <;> exact h) [21, 22, 23, 24, 25, 26, 27, 28, 29, 30, 31, 32, 33, 34] #[true, true, true, true, true, true, true, true, true, true, true, true, true, true, true, true, true, true, true, true, true, true, true, true, true, true, true, true, true, true, true, true, true, true, true] [(57, .bool false), (56, .bool false), (55, undef), (54, undef), (53, undef), (52, undef), (51, undef), (50, undef), (49, undef), (48, undef), (47, undef), (46, undef), (45, undef), (44, .bool false)] (by kernel_rfl) ?_; clear HF; intro a HF
        refine any_done (by kernel_rfl) ?_
        replace HF := HF.sub (σ' := [(57, .bool false), (20, .bool true), (6, .int .i64 (k : Int)), (5, .slice (some ⟨gA, oA, none⟩) (n + 12) c), (11, .bool false), (4, .bool false), (0, .slice (some ⟨gA, oA, none⟩) n c), (1, .slice (some ⟨gA2, oA2, none⟩) n c2)]) (by kernel_rfl)
        exact ⟨HF.sub (by kernel_rfl), HM.picks [] (by decide) rfl⟩
      · have HF := HF.as (t := 27) (u := .bool false) rfl (by rw [hb27])
        have hk26 : n ≤ k := by have := of_decide_eq_false hb27; omega
        have hx3 := (lent_at hln hk20).2 hk26
        refine any_pures HF (fun _ => HS) (fun _ _ d _ _ h => by cases d <;> exact h) [5, 6, 7, 8, 9, 10, 11, 12, 13, 14, 15, 16, 17, 18] #[true, true, true, true, true, true, true, true, true, true, true, true, true, true, true, true, true, true, true, false, false, false, false, false, false, false, false, false, false, false, false, false, false, false, false] [(41, .slice A2 n c2), (40, .int .i64 (k : Int)), (39, .bool false), (38, .bool false), (37, undef), (36, undef), (35, undef), (34, undef), (33, undef), (32, undef), (31, undef), (30, undef), (29, undef), (28, undef)] (by kernel_rfl) ?_; clear HF; intro a HF
        refine any_yl HF HS (i := 19) rfl rfl (d := 42) rfl (by decide) (by kernel_rfl) (fun _ _ _ h => h) (v := .int .i64 ((n : Nat) : Int)) (Yl.len rfl rfl (by kernel_rfl)) ?_; clear HF; intro a HF
        refine any_pure HF (fun _ => HS) (i := 20) rfl rfl (d := 43) rfl (by decide) (by kernel_rfl) (fun _ _ _ h => h) (v := .bool (decide (((k : Int) : Int) ≥ (((n : Nat) : Int) : Int)))) (fun _ => Yl.pure (by kernel_rfl)) ?_; clear HF; intro a HF
        replace HF := HF.as (t := 43) (u := .bool true) rfl (by rw [decide_eq_true (by omega)])
        refine any_pures HF (fun _ => HS) (fun _ _ d _ _ h => by cases d <;> exact h) [21, 22, 23, 26, 27] #[true, true, true, true, true, true, true, true, true, true, true, true, true, true, true, true, true, true, true, true, true, true, true, true, false, false, true, true, false, false, false, false, false, false, false] [(50, .slice A2 n c2), (49, .int .i64 (k : Int)), (46, .int .i64 (k : Int)), (45, .slice A (n + 12) c), (44, .bool true)] (by kernel_rfl) ?_; clear HF; intro a HF
        obtain ⟨gA, oA, rfl, _⟩ := hr.some_at (Nat.lt_of_le_of_lt (Nat.zero_le _) (show k < (n + 12) from hk20)) (by decide)
        refine any_yl HF HS (i := 24) rfl rfl (d := 47) rfl (by decide) (by kernel_rfl) (fun _ _ _ h => h) (v := .pointer (some ⟨gA, oA + k * 1, none⟩)) ((Yl.indexAddr (ad := ⟨gA, oA, none⟩) (y := k) (sz := 1) rfl rfl rfl (hk20) (by kernel_rfl)).as (by rw [Addr.add_mid])) ?_; clear HF; intro a HF
        refine any_yl HF HS (i := 25) rfl rfl (d := 48) rfl (by decide) (by kernel_rfl) (fun _ _ _ h => h) (v := .int .u8 ((markB (k - n)) : Int)) (Yl.load1 rfl rfl (by kernel_rfl) (fun _ h => (h.old hr).oneAt1 (k := k) (map_at (F := B8) (k := k) (x := (markB (k - n))) (hx3)))) ?_; clear HF; intro a HF
        refine any_yl HF HS (i := 28) rfl rfl (d := 51) rfl (by decide) (by kernel_rfl) (fun _ _ _ h => h) (v := .int .i64 ((n : Nat) : Int)) (Yl.len rfl rfl (by kernel_rfl)) ?_; clear HF; intro a HF
        refine any_pure HF (fun _ => HS) (i := 29) rfl rfl (d := 52) rfl (by decide) (by kernel_rfl) (fun _ _ _ h => h) (v := .int .i64 (IntKind.i64.wrap ((k : Int) - ((n : Nat) : Int)))) (fun _ => Yl.pure (by kernel_rfl)) ?_; clear HF; intro a HF
        replace HF := HF.as (t := 52) (u := .int .i64 ((k - n : Nat) : Int)) rfl (by rw [IntWalk.i64_in _ (by omega)]; congr 1; omega)
        refine any_all [30] (by kernel_rfl) rfl ?_
        refine all_cons ?_ all_nil
        refine any_op HF (i := 30) rfl rfl ?_
        refine e_call HF (vs := [.int .i64 1, .int .i64 ((k - n : Nat) : Int)]) rfl (by kernel_rfl) (by kernel_rfl) rfl (by decide) (markByte_any (k - n) (by omega) _) ?_
        rintro _ w53 ⟨rfl, hbw⟩
        refine ⟨_, rfl, ?_⟩
        replace HM := HM.call hbw
        clear HF; intro a HF
        refine keepS (HM.picks [] (by decide) rfl) (fun HS => ?_)
        refine any_pure HF (fun _ => HS) (i := 31) rfl rfl (d := 54) rfl (by decide) (by kernel_rfl) (fun _ _ _ h => h) (v := .bool ((((markB (k - n)) : Int) : Int) == ((markB (k - n) : Int) : Int))) (fun _ => Yl.pure (by kernel_rfl)) ?_; clear HF; intro a HF
        replace HF := HF.as (t := 54) (u := .bool true) rfl (by simp)
        refine any_pures HF (fun _ => HS) (fun _ _ d _ _ h => by cases d <;> exact h) [32, 33, 34] #[true, true, true, true, true, true, true, true, true, true, true, true, true, true, true, true, true, true, true, true, true, true, true, true, true, true, true, true, true, true, true, true, true, true, true] [(57, .bool false), (56, .bool false), (55, .bool false)] (by kernel_rfl) ?_; clear HF; intro a HF
        refine any_done (by kernel_rfl) ?_
        replace HF := HF.sub (σ' := [(57, .bool false), (20, .bool true), (6, .int .i64 (k : Int)), (5, .slice (some ⟨gA, oA, none⟩) (n + 12) c), (11, .bool false), (4, .bool false), (0, .slice (some ⟨gA, oA, none⟩) n c), (1, .slice A2 n c2)]) (by kernel_rfl)
        exact ⟨HF.sub (by kernel_rfl), HM.picks [] (by decide) rfl⟩
    clear HF HM; rintro a w7 ⟨HF, HM⟩
    refine cond_false HF rfl ?_
    refine wp_skip ?_
    refine from_start ?_
    refine from_pures HF 2 0 (j := 2) [(22, .int .i64 (IntKind.i64.wrap ((k : Int) + 1))), (21, .int .i64 (k : Int))] (by kernel_rfl) rfl ?_; clear HF; intro a HF
    replace HF := HF.as (t := 22) (u := .int .i64 ((k + 1 : Nat) : Int)) rfl (by rw [IntWalk.i64_in _ (by omega)]; simp)
    refine from_pures HF 1 2 (j := 3) [(6, .int .i64 ((k + 1 : Nat) : Int))] (by kernel_rfl) rfl ?_; clear HF; intro a HF
    refine from_done rfl ?_
    replace HF := HF.sub (σ' := [(6, .int .i64 ((k + 1 : Nat) : Int)), (57, .bool false), (20, .bool true), (5, .slice A (n + 12) c), (11, .bool false), (4, .bool false), (0, .slice A n c), (1, .slice A2 n c2)]) (by kernel_rfl)
    exact ⟨_, (by omega), k + 1, by omega, rfl, HF.sub (by kernel_rfl), HM.picks [] (by decide) rfl⟩
  · have HF := HF.as (t := 20) (u := .bool false) rfl (by rw [hb20])
    refine cond_false HF rfl ?_
    refine wp_exit ?_
    refine wp_seq ?_
    refine from_start ?_
    refine from_pures HF 1 0 (j := 1) [(4, .bool true)] (by kernel_rfl) rfl ?_; clear HF; intro a HF
    refine from_done rfl ?_
    replace HF := HF.sub (σ' := [(4, .bool true), (20, .bool false), (6, .int .i64 (k : Int)), (5, .slice A (n + 12) c), (11, .bool false), (0, .slice A n c), (1, .slice A2 n c2)]) (by kernel_rfl)
    refine wp_ret ?_
    exact ret1 rfl HF (.tmp HF rfl) (⟨rfl, HM.below⟩)
end Go.Proofs.YtpekelggcmgnnaaDoor

/- quantumref07.right. -/
namespace Go.Proofs.YtpekelggcmgnnaaDoor
open Go.RowKit
set_option maxRecDepth 100000 in
set_option maxHeartbeats 4000000 in
theorem right07_any (b : Bs) (w : World) : Calls Tryd.prog 49 #[.agg b.cells] w (BoolPost w b.right) := by
  refine calls_enter (vs := [.agg b.cells]) Tryd.func49 rfl rfl (by kernel_rfl) (σ0 := [(0, .agg b.cells)]) rfl ?_
  intro a HF
  have HM := Mem.start w
  refine wp_seq ?_
  refine from_start ?_
  refine from_op HF (i := 0) rfl rfl ?_
  refine e_box HF HM (cs := b.cells) rfl rfl rfl rfl (by decide) ?_
  clear HF HM; intro a w1 g1 HF HM
  refine from_pures HF 1 1 (j := 2) [(2, .bool false)] (by kernel_rfl) rfl ?_; clear HF; intro a HF
  refine from_done rfl ?_
  replace HF := HF.sub (σ' := [(2, .bool false), (1, .pointer (some ⟨g1, 0, none⟩))]) (by kernel_rfl)
  refine wp_seq ?_
  refine from_start ?_
  refine from_pures HF 1 0 (j := 1) [(3, .pointer (some ⟨g1, 0, none⟩))] (by kernel_rfl) rfl ?_; clear HF; intro a HF
  refine from_yl (S := fun wS => Mem w wS _) HF HM (i := 1) rfl rfl (d := 4) rfl (by decide) (v := .int .i64 b.seq) (Yl.load1 rfl rfl (by kernel_rfl) (fun _ h => h.cell (i := 0) rfl rfl)) ?_; clear HF; intro a HF
  refine from_pures HF 2 2 (j := 4) [(6, .bool (decide ((b.seq : Int) ≥ (1 : Int)))), (5, .bool (decide ((b.seq : Int) ≥ (1 : Int))))] (by kernel_rfl) rfl ?_; clear HF; intro a HF
  rcases Bool.eq_false_or_eq_true (decide ((b.seq : Int) ≥ (1 : Int))) with hb6 | hb6
  · have HF := HF.as (t := 6) (u := .bool true) rfl (by rw [hb6])
    refine from_pures HF 1 4 (j := 5) [(7, .pointer (some ⟨g1, 0, none⟩))] (by kernel_rfl) rfl ?_; clear HF; intro a HF
    refine from_yl (S := fun wS => Mem w wS _) HF HM (i := 5) rfl rfl (d := 8) rfl (by decide) (v := .int .i64 b.seq) (Yl.load1 rfl rfl (by kernel_rfl) (fun _ h => h.cell (i := 0) rfl rfl)) ?_; clear HF; intro a HF
    refine from_pures HF 3 6 (j := 9) [(11, .bool (decide ((b.seq : Int) ≤ (281474976710656 : Int)))), (10, .bool (decide ((b.seq : Int) ≤ (281474976710656 : Int)))), (9, .bool (decide ((b.seq : Int) ≤ (281474976710656 : Int))))] (by kernel_rfl) rfl ?_; clear HF; intro a HF
    rcases Bool.eq_false_or_eq_true (decide ((b.seq : Int) ≤ (281474976710656 : Int))) with hb11 | hb11
    · have HF := HF.as (t := 11) (u := .bool true) rfl (by rw [hb11])
      refine from_pures HF 1 9 (j := 10) [(12, .pointer (some ⟨g1, 1, none⟩))] (by kernel_rfl) rfl ?_; clear HF; intro a HF
      refine from_yl (S := fun wS => Mem w wS _) HF HM (i := 10) rfl rfl (d := 13) rfl (by decide) (v := .int .i64 b.time) (Yl.load1 rfl rfl (by kernel_rfl) (fun _ h => h.cell (i := 0) rfl rfl)) ?_; clear HF; intro a HF
      refine from_pures HF 3 11 (j := 14) [(16, .bool (decide ((b.time : Int) ≥ (0 : Int)))), (15, .bool (decide ((b.time : Int) ≥ (0 : Int)))), (14, .bool (decide ((b.time : Int) ≥ (0 : Int))))] (by kernel_rfl) rfl ?_; clear HF; intro a HF
      rcases Bool.eq_false_or_eq_true (decide ((b.time : Int) ≥ (0 : Int))) with hb16 | hb16
      · have HF := HF.as (t := 16) (u := .bool true) rfl (by rw [hb16])
        refine from_pures HF 1 14 (j := 15) [(17, .pointer (some ⟨g1, 1, none⟩))] (by kernel_rfl) rfl ?_; clear HF; intro a HF
        refine from_yl (S := fun wS => Mem w wS _) HF HM (i := 15) rfl rfl (d := 18) rfl (by decide) (v := .int .i64 b.time) (Yl.load1 rfl rfl (by kernel_rfl) (fun _ h => h.cell (i := 0) rfl rfl)) ?_; clear HF; intro a HF
        refine from_pures HF 3 16 (j := 19) [(2, .bool (decide ((b.time : Int) ≤ (281474976710656 : Int)))), (20, .bool (decide ((b.time : Int) ≤ (281474976710656 : Int)))), (19, .bool (decide ((b.time : Int) ≤ (281474976710656 : Int))))] (by kernel_rfl) rfl ?_; clear HF; intro a HF
        refine from_done rfl ?_
        replace HF := HF.sub (σ' := [(2, .bool (decide ((b.time : Int) ≤ (281474976710656 : Int))))]) (by kernel_rfl)
        replace HM := HM.picks (fs' := []) [] (by decide) rfl
        refine wp_ret ?_
        exact ret1 rfl HF (.tmp HF rfl) (⟨congrArg (fun b => Ending.returned (.bool b)) (by unfold Bs.right; rw [Bool.eq_iff_iff]; (try simp at hb6); (try simp at hb11); (try simp at hb16); (try simp); (try omega)), HM.below⟩)
      · have HF := HF.as (t := 16) (u := .bool false) rfl (by rw [hb16])
        refine from_pures HF 5 14 (j := 19) [(2, .bool false), (20, .bool false), (19, undef), (18, undef), (17, undef)] (by kernel_rfl) rfl ?_; clear HF; intro a HF
        refine from_done rfl ?_
        replace HF := HF.sub (σ' := [(2, .bool false)]) (by kernel_rfl)
        replace HM := HM.picks (fs' := []) [] (by decide) rfl
        refine wp_ret ?_
        exact ret1 rfl HF (.tmp HF rfl) (⟨congrArg (fun b => Ending.returned (.bool b)) (by unfold Bs.right; rw [Bool.eq_iff_iff]; (try simp at hb6); (try simp at hb11); (try simp at hb16); (try simp); (try omega)), HM.below⟩)
    · have HF := HF.as (t := 11) (u := .bool false) rfl (by rw [hb11])
      refine from_pures HF 10 9 (j := 19) [(2, .bool false), (20, .bool false), (19, undef), (18, undef), (17, undef), (16, .bool false), (15, .bool false), (14, undef), (13, undef), (12, undef)] (by kernel_rfl) rfl ?_; clear HF; intro a HF
      refine from_done rfl ?_
      replace HF := HF.sub (σ' := [(2, .bool false)]) (by kernel_rfl)
      replace HM := HM.picks (fs' := []) [] (by decide) rfl
      refine wp_ret ?_
      exact ret1 rfl HF (.tmp HF rfl) (⟨congrArg (fun b => Ending.returned (.bool b)) (by unfold Bs.right; rw [Bool.eq_iff_iff]; (try simp at hb6); (try simp at hb11); (try simp); (try omega)), HM.below⟩)
  · have HF := HF.as (t := 6) (u := .bool false) rfl (by rw [hb6])
    refine from_pures HF 15 4 (j := 19) [(2, .bool false), (20, .bool false), (19, undef), (18, undef), (17, undef), (16, .bool false), (15, .bool false), (14, undef), (13, undef), (12, undef), (11, .bool false), (10, .bool false), (9, undef), (8, undef), (7, undef)] (by kernel_rfl) rfl ?_; clear HF; intro a HF
    refine from_done rfl ?_
    replace HF := HF.sub (σ' := [(2, .bool false)]) (by kernel_rfl)
    replace HM := HM.picks (fs' := []) [] (by decide) rfl
    refine wp_ret ?_
    exact ret1 rfl HF (.tmp HF rfl) (⟨congrArg (fun b => Ending.returned (.bool b)) (by unfold Bs.right; rw [Bool.eq_iff_iff]; (try simp at hb6); (try simp); (try omega)), HM.below⟩)
end Go.Proofs.YtpekelggcmgnnaaDoor

