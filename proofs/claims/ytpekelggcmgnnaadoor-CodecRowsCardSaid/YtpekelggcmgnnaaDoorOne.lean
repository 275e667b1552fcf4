/- quantumlaw07.CodecOne answers true. -/
import Derived.Test.YtpekelggcmgnnaaDoorAwake
import Derived.Test.YtpekelggcmgnnaaDoorOneWay
namespace Go.Proofs.YtpekelggcmgnnaaDoor
open Go.RowKit

def OneRel (w : World) (n : Nat) (i : Value) (wr : World) : Prop := ∃ k : Nat, k ≤ n ∧ i = .int .i64 (k : Int) ∧ Below w.heap.size w wr
theorem recs_len : ∀ (b : Bs) (es : List Ev), es.length ≤ (recs b es).length
  | _, [] => by simp
  | b, e :: r => by
    have := recs_len e.at r
    rw [recs, List.length_append, List.length_cons]
    unfold recBytes
    rw [List.length_cons]
    omega
structure TruePost (w : World) (r : Ending) (w' : World) : Prop where
  ret : r = .returned (.bool true)
  below : Below w.heap.size w w'

set_option maxRecDepth 100000 in
set_option maxHeartbeats 2000000 in
theorem codecOne_any (b : Bs) (cpu : Nat) (hcpu : cpu < 256) (m : Int) (hm : I64 m) (A : Option Addr) (n c : Nat) (l : List Nat) (B : Nat) (w : World) (hL : Laid B w) (hB : B ≤ w.heap.size) (hr : Rd w w.heap.size 1 A n (l.map B8)) (hc : n ≤ c) (hl : ∀ b ∈ l, b < 256) :
    Calls Tryd.prog 4 #[.agg b.cells, .int .u8 (cpu : Int), .int .i64 m, .slice A n c] w (TruePost w) := by
  have hlen : l.length = n := by simpa using hr.len
  have hb1 : Below w.heap.size w (w.alloc (.cells b.cells 23)) := (Below.refl _ _).alloc (Nat.le_refl _) _
  have HAW := hide (awake_any B _ (hL.below hb1 hB) (by simp; omega))
  have HX := hide (range_of_block (World.alloc_heap_new w (.cells b.cells 23)))
  have HB2 := hide (bs_cells2 b)
  by_cases hbig : 2000 < n
  · have hbi : decide ((2000 : Int) < (n : Int)) = true := by rw [decide_eq_true_eq]; omega
    clear hbig hlen
    go_enter Tryd.func4, Tryd.ntmps4
    go_wp2_with (go_at_call 12; refine HAW.out.mono ?_; rintro r w1 ⟨rfl, hb2⟩)
    go_ret
    exact ⟨rfl, hb1.trans (hb2.mono (by simp))⟩
  · have hbi : decide ((2000 : Int) < (n : Int)) = false := by rw [decide_eq_false_iff_not]; omega
    have HRE := hide (fun W (h : Below w.heap.size w W) => cread_any b cpu hcpu A n c m hm l B W (hL.below h hB) (by have := h.size; omega) ((hr.below h).more h.size) hc hl (by omega) (.inr (by omega)))
    obtain ⟨q, hq⟩ : ∃ q, readR b cpu m l = q := ⟨_, rfl⟩
    obtain ⟨es, u, er⟩ := q
    rw [hq] at HRE
    have HLN := hide hlen
    have hnn : n ≤ 2000 := by omega
    by_cases her : er = 0
    · subst her
      obtain ⟨g1, g2, g3, g4, g5⟩ := read_write hcpu hl hq
      have HWR := hide (fun A' n' c' W (h : Below w.heap.size w W) (hr' : Rd W W.heap.size 11 A' n' (es.flatMap evL)) (hn' : n' ≤ 1000000000000) => write_any b A' n' c' es (fun e he => (g5 e he).1) B W (hL.below h hB) (by have := h.size; omega) hr' hn')
      rw [g2, g3] at HWR
      have hek : es.length ≤ 1000000000000 := by
        have h1 := recs_len b es
        have h2 : recs b es = l.take u := by rw [← g3]; unfold writeOut; rw [if_pos g2]
        rw [h2, List.length_take] at h1
        omega
      obtain ⟨T, hT⟩ : ∃ T, l.take u = T := ⟨_, rfl⟩
      rw [hT] at HWR
      have hTl : T.length = u := by rw [← hT, List.length_take]; omega
      have hRT : Rd w w.heap.size 1 A u (T.map B8) := by
        have h := hr.upto (k := u) (by omega)
        rw [Nat.mul_one, ← List.map_take, hT] at h; exact h
      have HRT := hide hRT
      have hHT := hide hTl
      have hui : (0 : Int) ≤ (u : Int) := by omega
      have huc : (u : Int) ≤ (c : Int) := by omega
      have hu : u ≤ n := by omega
      have HCPU := hide (fun e he => (g5 e he).2)
      have hbm : ((es.length : Int) != m) = false := by rw [bne_eq_false_iff_eq]; exact g1
      have hu0 : decide ((u : Int) < 0) = false := by rw [decide_eq_false_iff_not]; omega
      have hun : decide ((n : Int) < (u : Int)) = false := by rw [decide_eq_false_iff_not]; omega
      clear hq g1 g2 g3 g4 g5 hlen hbig hT hTl hRT
      go_enter Tryd.func4, Tryd.ntmps4
      go_wp2_with (first
        | (go_at_call 12; refine HAW.out.mono ?_; rintro r w1 ⟨rfl, hb2⟩; have hB2 := hb1.trans (hb2.mono (by simp)); have hz2 := hb2.size; simp only [World.size_alloc] at hz2; have HX2 := hide (range_below HX.out hb2 (by simp)))
        | (with_reducible refine load_wp HX2.out rfl rfl rfl si_bs HB2.out ?_)
        | (go_at_call 13; refine (HRE.out _ hB2).mono ?_; rintro r w3 ⟨⟨v3, rfl, hown3⟩, hb3⟩; obtain ⟨A3, c3, rfl⟩ := own_form hown3; have hB3 := hB2.trans (hb3.mono (by omega)); have hz3 := hb3.size; have HX3 := hide (range_below HX2.out hb3 (by omega)); have HR3 := hide (Rd.of_own hown3 rfl); clear hown3; simp only at HR3)
        | (with_reducible refine load_wp HX3.out rfl rfl rfl si_bs HB2.out ?_)
        | (go_at_call 14; refine (HWR.out _ _ _ _ hB3 HR3.out hek).mono ?_; rintro r w4 ⟨⟨v4, rfl, hown4⟩, hb4⟩; obtain ⟨A4, c4, rfl⟩ := own_form hown4; have hB4 := hB3.trans (hb4.mono (by omega)); have hz4 := hb4.size; have HR4 := hide (Rd.of_own hown4 rfl); clear hown4))
      have j4 := fun k => conv_u8 (c := c4) (HR4.out.drewN k)
      have j5 := fun k => conv_u8 (c := c) (((HRT.out.below hB4).more hB4.size).drewN k)
      generalize bstr T = S at j4 j5
      have j4' := j4 0
      have j5' := j5 0
      rw [World.drewN_zero] at j4' j5'
      go_quiet (fail)
      go_wp2
      have HRE4 := hide (HR3.out.below hb4)
      go_loopw [74] (OneRel w4 es.length) (fun i _ => es.length - (intOf i).toNat)
      case atStart => exact ⟨0, by omega, rfl, below_drewN (Below.refl _ _) nq⟩
      case round =>
        obtain ⟨k, hk, rfl, hbr⟩ := hrel
        have hzr := hbr.size
        by_cases hlt : k < es.length
        · obtain ⟨g, o, hA3, hgb, _, hcells⟩ := (HRE4.out.below (hbr.mono hz4)).struct evL_len (by omega) (by omega)
          subst hA3
          have hcp := HCPU.out es[k] (List.getElem_mem _)
          have hE0 := hcells k hlt
          obtain ⟨e, he⟩ : ∃ e, es[k] = e := ⟨_, rfl⟩
          rw [he] at hcp hE0
          have hE := hide (show wr.rangeAt g (o + k * 11) e.cells.toList from hE0)
          have hne : ((e.cpu : Int) != (cpu : Int)) = false := by rw [bne_eq_false_iff_eq]; omega
          have hEN := EvAt.new wr e 37
          have hcpu2 := hEN.cpu
          clear hcells he hE0 hcp hEN
          go_wp2_with (first
            | (with_reducible refine load_wp hE.out rfl rfl rfl si_ev (ev_cells11 e) ?_)
            | (refine store_new rfl rfl rfl rfl si_ev rfl (ev_cells11 e) (ev_one e) ?_))
          refine ⟨?_, by simp [intOf]; omega⟩
          refine ⟨_, _, _, ⟨k + 1, by omega, by go_num, hbr.alloc hzr _⟩, rfl, rfl, rfl⟩
        · have hge : (es.length : Int) ≤ (k : Int) := by omega
          go_wp2
          go_ret
          exact ⟨rfl, hB4.trans (hbr.mono hB4.size)⟩
    · obtain ⟨h1, h2⟩ := readR_bad (b := b) (cpu := cpu) (m := m) (l := l) (by rw [hq]; exact her)
      rw [hq] at h1 h2
      simp only at h1 h2
      subst h1
      subst h2
      have hne : ((er : Int) != 0) = true := by rw [bne_iff_ne]; omega
      clear hq her hlen hbig
      go_enter Tryd.func4, Tryd.ntmps4
      go_wp2_with (first
        | (go_at_call 12; refine HAW.out.mono ?_; rintro r w1 ⟨rfl, hb2⟩; have hB2 := hb1.trans (hb2.mono (by simp)); have hz2 := hb2.size; simp only [World.size_alloc] at hz2; have HX2 := hide (range_below HX.out hb2 (by simp)))
        | (with_reducible refine load_wp HX2.out rfl rfl rfl si_bs HB2.out ?_)
        | (go_at_call 13; refine (HRE.out _ hB2).mono ?_; rintro r w3 ⟨⟨v3, rfl, hown3⟩, hb3⟩; obtain ⟨A3, c3, rfl⟩ := own_form hown3; have hB3 := hB2.trans (hb3.mono (by omega))))
      go_ret
      exact ⟨rfl, hB3⟩
end Go.Proofs.YtpekelggcmgnnaaDoor
