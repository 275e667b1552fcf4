/- quantumlaw07.CodecShort answers true. -/
import Derived.Test.YtpekelggcmgnnaaDoorMade7
import Derived.Test.YtpekelggcmgnnaaDoorOne
import Derived.Deep.CutRange
namespace Go.Proofs.YtpekelggcmgnnaaDoor
open Go.RowKit

theorem bcell {W w1 : World} (hb : Below W.heap.size W w1) : (∀ b o, b < W.heap.size → w1.cell? ⟨b, o, none⟩ = W.cell? ⟨b, o, none⟩) ∧ (∀ b o, b < W.heap.size → w1.frozen? ⟨b, o, none⟩ = W.frozen? ⟨b, o, none⟩) :=
  ⟨fun b o h => hb.cell (p := ⟨b, o, none⟩) h, fun b o h => hb.frozen (p := ⟨b, o, none⟩) h⟩
theorem own_cap {w : World} {base : Nat} {e : TypeId} {size : Nat} {A : Option Addr} {n c : Nat} {xs : List Value} (h : w.ownsRow base e size (.slice A n c) n xs) : n ≤ c := by
  rcases h.2 with ⟨h1, h2⟩ | ⟨g, cap, cur, h1, _, _, h2, _⟩
  · omega
  · injection h1 with _ _ h3; omega
theorem chain_ok {cpu : Nat} : ∀ (es : List Ev) (p : Option Ev) (b : Bs), Chain cpu p b es → ∀ e ∈ es, e.Ok
  | [], _, _, _, e, he => by cases he
  | x :: r, p, b, h, e, he => by
    rcases List.mem_cons.1 he with rfl | he
    · exact h.1.ok
    · exact chain_ok r _ _ h.2.2.2 e he
theorem readR_shape {b : Bs} {cpu : Nat} {m : Int} {l : List Nat} {er : Nat} (h : (readR b cpu m l).2.2 = er + 1) : readR b cpu m l = ([], 0, er + 1) := by
  obtain ⟨h1, h2⟩ := readR_bad (b := b) (cpu := cpu) (m := m) (l := l) (by omega)
  rw [← h1, ← h2, ← h]
theorem recs_most : ∀ (es : List Ev) (b : Bs), es.length ≤ 200 → (recs b es).length ≤ 61 * 200 := by
  have key : ∀ (es : List Ev) (b : Bs), (recs b es).length ≤ 61 * es.length := by
    intro es
    induction es with
    | nil => intro b; simp [recs]
    | cons e r ih =>
      intro b
      have h1 := rec_len b e
      have h2 := ih e.at
      rw [recs, List.length_append, List.length_cons]
      omega
  intro es b h
  have := key es b
  omega
theorem vbytes_256 (x : Nat) : ∀ y ∈ vbytes x, y < 256 := by
  intro y hy
  obtain ⟨p, hp, rfl⟩ := List.mem_map.1 hy
  have := grp_lt 10 x p hp
  unfold vbyte
  split <;> omega
theorem recs_bytes : ∀ (es : List Ev) (b : Bs), (∀ e ∈ es, e.Ok) → ∀ x ∈ recs b es, x < 256
  | [], _, _, x, hx => by simp [recs] at hx
  | e :: r, b, h, x, hx => by
    rw [recs] at hx
    rcases List.mem_append.1 hx with hx | hx
    · unfold recBytes at hx
      rcases List.mem_cons.1 hx with rfl | hx
      · exact (h e (by simp)).kind
      · obtain ⟨y, _, hy⟩ := List.mem_flatMap.1 hx
        exact vbytes_256 y x hy
    · exact recs_bytes r e.at (fun y hy => h y (by simp [hy])) x hx
/-- A row and its base lie ready: the row in a slice, the base in block g. -/
structure RowAt (w : World) (es : List Ev) (bs : Array Value) (v p : Value) (W : World) : Prop where
  row : ∃ A c, v = .slice A es.length c ∧ Rd W W.heap.size 11 A es.length (es.flatMap evL)
  base : ∃ g, p = .pointer (some ⟨g, 0, none⟩) ∧ W.heap[g]? = some (.cells bs 23 (0, 0)) ∧ w.heap.size ≤ g
  below : Below w.heap.size w W

structure EndAt (w : World) (v : Value) (W : World) : Prop where
  num : v = .int .i64 10
  below : Below w.heap.size w W
theorem lt_of_alloc {W w3 : World} {O : Obj} (h : ((W.alloc O).drew).heap.size ≤ w3.heap.size) : W.heap.size < w3.heap.size := by
  have h1 : (W.alloc O).heap.size ≤ w3.heap.size := h
  rw [World.size_alloc] at h1
  exact h1
theorem lt_of_alloc' {W w3 : World} {O : Obj} (h : (W.alloc O).heap.size ≤ w3.heap.size) : W.heap.size < w3.heap.size := by
  rw [World.size_alloc] at h
  exact h
section
variable {w w1 w3 w4 : World} {base : Nat} {es : List Ev} {s t : Int} {A3 : Option Addr} {c3 : Nat}
theorem close_new (hB2 : Below w.heap.size w w1) (hb31 : Below w1.heap.size w1 w3) (hb43 : Below w3.heap.size w3 w4) (hown3 : w3.ownsRow base 37 11 (.slice A3 es.length c3) es.length (es.flatMap evL)) :
    RowAt w es #[.int .i64 s, .int .i64 t] (.slice A3 es.length c3) (.pointer (some ⟨w4.heap.size, 0, none⟩)) (w4.alloc (.cells #[.int .i64 s, .int .i64 t] 23)) := by
  have h1 := hB2.size
  have h2 := hb31.size
  have h3 := hb43.size
  have hB4 : Below w.heap.size w w4 := (hB2.trans (hb31.mono h1)).trans (hb43.mono (by omega))
  refine ⟨⟨A3, c3, rfl, ?_⟩, ⟨_, rfl, World.alloc_heap_new w4 _, by omega⟩, hB4.alloc (by omega) _⟩
  have hr := ((Rd.of_own hown3 rfl).below hb43).alloc h3 (.cells #[.int .i64 s, .int .i64 t] 23)
  exact hr.more (by rw [World.size_alloc]; omega)
theorem close_set (hB2 : Below w.heap.size w w1) (hb31 : Below w1.heap.size w1 w3) (hb43 : Below w3.heap.size w3 w4) (hown3 : w3.ownsRow base 37 11 (.slice A3 es.length c3) es.length (es.flatMap evL))
    {g : Nat} {x y : Value} (hg : w4.heap[g]? = some (.cells #[x, y] 23 (0, 0))) (hgb : w3.heap.size ≤ g ∨ g < base) (hgw : w1.heap.size ≤ g) :
    RowAt w es #[.int .i64 s, .int .i64 t] (.slice A3 es.length c3) (.pointer (some ⟨g, 0, none⟩)) ((w4.setCell ⟨g, 0, none⟩ (.int .i64 s)).setCell ⟨g, 1, none⟩ (.int .i64 t)) := by
  have h1 := hB2.size
  have h2 := hb31.size
  have h3 := hb43.size
  have hB4 : Below w.heap.size w w4 := (hB2.trans (hb31.mono h1)).trans (hb43.mono (by omega))
  have hs : ((w4.setCell ⟨g, 0, none⟩ (.int .i64 s)).setCell ⟨g, 1, none⟩ (.int .i64 t)).heap.size = w4.heap.size := by simp [World.setCell]
  refine ⟨⟨A3, c3, rfl, ?_⟩, ⟨_, rfl, by simp [World.setCell, Array.getElem?_modify, hg], by omega⟩, (hB4.setCell (by show w.heap.size ≤ g; omega) _).setCell (by show w.heap.size ≤ g; omega) _⟩
  have hch : Chg [g] w3 ((w4.setCell ⟨g, 0, none⟩ (.int .i64 s)).setCell ⟨g, 1, none⟩ (.int .i64 t)) :=
    (((Chg.of_below hb43).mono (by simp)).setCell (p := ⟨g, 0, none⟩) (.inl (by simp)) _).setCell (p := ⟨g, 1, none⟩) (.inl (by simp)) _
  have ho := (hch.keep (Nat.zero_le _)).ownsRow hown3 (fun k hk => by
    have h4 := hown3.lt k hk
    simp only [List.mem_singleton]
    omega)
  exact Rd.of_own ho rfl
end

set_option maxRecDepth 100000 in
set_option maxHeartbeats 4000000 in
theorem short_any (cpu : Nat) (hcpu : cpu < 256) (b : Bs) (hb : b.Ok) (A : Option Addr) (n c : Nat) (l : List Sm) (hl : ∀ x ∈ l, x.Ok) (cut : Nat) (hcut0 : cut < 65536) (B : Nat) (w : World) (hL : Laid B w) (hB : B ≤ w.heap.size) (hr : Rd w w.heap.size 11 A n (l.flatMap smL)) (hc : n ≤ c) (hn : n ≤ 9223372036854775807) :
    Calls Tryd.prog 5 #[.int .u8 (cpu : Int), .agg b.cells, .slice A n c, .int .u16 (cut : Int)] w (TruePost w) := by
  have hb1 : Below w.heap.size w (w.alloc (.cells b.cells 23)) := (Below.refl _ _).alloc (Nat.le_refl _) _
  have HAW := hide (awake_any B _ (hL.below hb1 hB) (by simp; omega))
  have HMA := hide (fun W (h : Below w.heap.size w W) => (made7_any cpu hcpu b hb A n c l hl W ((hr.below h).more h.size) hc hn).mono (R' := fun r w' => (∃ A c, r = .returned (.slice A (madeL cpu b l).length c) ∧ w'.ownsRow W.heap.size 37 11 (.slice A (madeL cpu b l).length c) (madeL cpu b l).length ((madeL cpu b l).flatMap evL)) ∧ Below W.heap.size W w') fun r w' h => ⟨by obtain ⟨v, h1, h2⟩ := h.ret; obtain ⟨A, c, rfl⟩ := own_form h2; exact ⟨A, c, h1, h2⟩, h.below⟩)
  obtain ⟨s, hs⟩ : ∃ s, b.based.seq = s := ⟨_, rfl⟩
  obtain ⟨t, ht⟩ : ∃ t, b.based.time = t := ⟨_, rfl⟩
  have hbc : b.based.cells = #[.int .i64 s, .int .i64 t] := by rw [← hs, ← ht]; rfl
  have HBA := hide (fun W => (based_any b hb W).mono (R' := fun r w' => r = .returned (.agg #[.int .i64 s, .int .i64 t]) ∧ Below W.heap.size W w') fun r w' h => ⟨by rw [h.ret, hbc], h.below⟩)
  have HBC := hide hbc
  clear hs ht hbc
  obtain ⟨es, hes⟩ : ∃ es, madeL cpu b l = es := ⟨_, rfl⟩
  rw [hes] at HMA
  have HES := hide hes
  clear hes
  simp only [Bs.cells] at *
  go_enter Tryd.func5, Tryd.ntmps5
  go_wp2_with (first
    | (go_at_call 12; refine HAW.out.mono ?_; rintro r w1 ⟨rfl, hb2⟩; have hB2 := hb1.trans (hb2.mono (by simp)); have hz2 := hb2.size; simp only [World.size_alloc] at hz2))
  have k0 : w1.cell? ⟨w.heap.size, 0, none⟩ = some (.int .i64 b.seq) := (hb2.cell (p := ⟨w.heap.size, 0, none⟩) (by simp)).trans (by rw [World.cell?_alloc_new]; rfl)
  have k1 : w1.cell? ⟨w.heap.size, 1, none⟩ = some (.int .i64 b.time) := (hb2.cell (p := ⟨w.heap.size, 1, none⟩) (by simp)).trans (by rw [World.cell?_alloc_new]; rfl)
  have hlt1 : w.heap.size < w1.heap.size := by omega
  have hlt2 : w.heap.size < w1.heap.size + 1 := by omega
  have h0 : Below w1.heap.size w1 w1 := Below.refl _ _
  have hm0 : w1.heap.size ≤ w1.heap.size := Nat.le_refl _
  have HK := hide (fun W (h : Below w1.heap.size w1 W) => And.intro ((h.cell (p := ⟨w.heap.size, 0, none⟩) hlt1).trans k0) ((h.cell (p := ⟨w.heap.size, 1, none⟩) hlt1).trans k1))
  go_cut [9, 10] from 21 to 26 (fun v p wx => RowAt w es #[.int .i64 s, .int .i64 t] v p wx)
  case first =>
    go_region_with (first
      | (go_at_call 15; refine (HMA.out _ (by first | exact hB2.drew | exact (hB2.alloc (by omega) _).drew)).mono ?_; rintro r w3 ⟨⟨A3, c3, rfl, hown3⟩, hb3⟩; have hz3 := hb3.size; have hb31 : Below w1.heap.size w1 w3 := (by first | exact h0.drew.trans hb3 | exact (h0.alloc hm0 _).drew.trans (hb3.mono (by simp))); have hlt3 : w.heap.size < w3.heap.size := Nat.lt_of_lt_of_le hlt1 hb31.size; obtain ⟨k03, k13⟩ := HK.out _ hb31; obtain ⟨hc3, hf3⟩ := bcell hb3; (try have hlt5 := lt_of_alloc hz3))
      | (go_at_call 16; refine (HBA.out _).mono ?_; rintro r w4 ⟨rfl, hb4⟩; obtain ⟨hc4, hf4⟩ := bcell hb4; have hz4 := hb4.size; (try have hlt6 := lt_of_alloc' hz4); have hb43 : Below w3.heap.size w3 w4 := (by first | exact hb4 | exact ((Below.refl w3.heap.size w3).alloc (Nat.le_refl _) _).trans (hb4.mono (by simp)))))
    all_goals
      (go_wp2_with fail; go_meet)
      first
        | exact close_new hB2 hb31 hb43 hown3
        | exact close_set hB2 hb31 hb43 hown3 ((hb4.block w3.heap.size (by simp)).trans (World.alloc_heap_new w3 _)) (.inl (Nat.le_refl _)) hb31.size
        | exact close_set hB2 hb31 hb43 hown3 ((hb43.block w1.heap.size hlt5).trans ((hb3.block w1.heap.size (by simp)).trans (World.alloc_heap_new w1 _))) (.inr (by simp)) (Nat.le_refl _)
  clear HMA HBA HK k0 k1 h0 hm0 hlt1 hlt2 HAW hb2 hB2 hz2 hb1 hr
  obtain ⟨⟨A5, c5, rfl, hrow⟩, ⟨g, rfl, hbg, hgw⟩, hBc⟩ := hcut
  have hzc := hBc.size
  have hgc := blk_lt hbg
  have g0 : wc.cell? ⟨g, 0, none⟩ = some (.int .i64 s) := by simp [World.cell?, hbg]
  have g1 : wc.cell? ⟨g, 1, none⟩ = some (.int .i64 t) := by simp [World.cell?, hbg]
  have hcpu' : cpu % 64 < 256 := by omega
  obtain ⟨q, hq⟩ : ∃ q, cpu % 64 = q := ⟨_, rfl⟩
  have hqi : (cpu : Int) % 64 = (q : Int) := by omega
  have hch := madeL_chain hcpu b hl
  rw [HES.out, hq] at hch
  have hok : ∀ e ∈ es, e.Ok := chain_ok es none b.based hch
  obtain ⟨hbr, _⟩ := based_right b
  obtain ⟨_, hw2, hw3⟩ := write_fwd hbr hch
  have hesl : es.length ≤ 200 := by rw [← HES.out]; unfold madeL; rw [madeGo_len, List.length_take]; omega
  obtain ⟨out, hout⟩ : ∃ out, recs b.based es = out := ⟨_, rfl⟩
  rw [hout] at hw3
  have hmore := readR_more hbr hch
  rw [hout] at hmore
  have hmr := readR_shape hmore
  have hshort : ∀ k, k < out.length → ∃ x y, readR b.based q (es.length : Int) (out.take k) = (x, y, 10) := fun k hk => by
    have h := readR_short hbr hch (k := k) (by rw [hout]; exact hk)
    rw [hout] at h
    exact ⟨_, _, by rw [← h]⟩
  have hol : out.length ≤ 61 * 200 := by rw [← hout]; exact recs_most es b.based hesl
  have hob : ∀ x ∈ out, x < 256 := by rw [← hout]; exact recs_bytes es b.based (fun e he => hok e he)
  have hempty : out.length = 0 → es.length = 0 := fun h => by have := recs_len b.based es; rw [hout] at this; omega
  have HWR := hide (fun W (h : Below wc.heap.size wc W) => write_any b.based A5 es.length c5 es hok B W ((hL.below hBc hB).below h (by omega)) (by have := h.size; omega) ((hrow.below h).more h.size) (by omega))
  have hbc' : b.based.cells = #[.int .i64 s, .int .i64 t] := HBC.out
  rw [hw2, hw3, hbc'] at HWR
  have HRD := hide (fun W (h : Below wc.heap.size wc W) A' n' c' (m : Int) (hm : I64 m) (l' : List Nat) (hr' : Rd W W.heap.size 1 A' n' (l'.map B8)) (hc' : n' ≤ c') (hl' : ∀ b ∈ l', b < 256) (hn' : n' ≤ 200000000000000) (hlim : ReadLim m l') => cread_any b.based q (by omega) A' n' c' m hm l' B W ((hL.below hBc hB).below h (by omega)) (by have := h.size; omega) hr' hc' hl' hn' hlim)
  rw [hbc'] at HRD
  have HF := hide (And.intro hmr (And.intro hshort (And.intro hob hempty)))
  clear hmr hmore hshort hob hw2 hw3 hout hch hempty hbr hq hok hrow hbc'
  have hmI : I64 ((es.length : Int) + 1) := ⟨by omega, by omega⟩
  have HR1 := hide (fun W (h : Below wc.heap.size wc W) A' c' (hr' : Rd W W.heap.size 1 A' out.length (out.map B8)) (hc' : out.length ≤ c') => (HRD.out W h A' out.length c' ((es.length : Int) + 1) hmI out hr' hc' HF.out.2.2.1 (by omega) (.inl (by omega))).mono (R' := fun r w' => (∃ A c, r = .returned (.tuple #[.slice A 0 c, .int .i64 0, .int .i64 10])) ∧ Below W.heap.size W w') fun r w' h => ⟨by obtain ⟨v, h1, h2⟩ := h.ret; rw [HF.out.1] at h1 h2; obtain ⟨A, c, rfl⟩ := own_form h2; exact ⟨A, c, h1⟩, h.below⟩)
  by_cases hz0 : out.length = 0
  · have e1 : ((out.length : Int) == 0) = true := by rw [beq_iff_eq]; omega
    have e2 : ((es.length : Int) == 0) = true := by rw [beq_iff_eq]; have := HF.out.2.2.2 hz0; omega
    clear hz0
    go_wp2_with (first
      | (go_at_call 14; refine (HWR.out _ (Below.refl _ _)).mono ?_; rintro r w5 ⟨⟨v5, rfl, hown5⟩, hb5⟩; obtain ⟨A6, c6, rfl⟩ := own_form hown5; have hz5 := hb5.size; have g05 := (hb5.cell (p := ⟨g, 0, none⟩) hgc).trans g0; have g15 := (hb5.cell (p := ⟨g, 1, none⟩) hgc).trans g1; have hcap := own_cap hown5; have hrd5 := Rd.of_own hown5 rfl)
      | (go_at_call 13; refine (HR1.out _ hb5 _ _ hrd5 hcap).mono ?_; rintro r w6 ⟨⟨A7, c7, rfl⟩, hb6⟩))
    go_ret
    exact ⟨rfl, (hBc.trans (hb5.mono hzc)).trans (hb6.mono (by omega))⟩
  · have e1 : ((out.length : Int) == 0) = false := by rw [beq_eq_false_iff_ne]; omega
    go_wp2_with (first
      | (go_at_call 14; refine (HWR.out _ (Below.refl _ _)).mono ?_; rintro r w5 ⟨⟨v5, rfl, hown5⟩, hb5⟩; obtain ⟨A6, c6, rfl⟩ := own_form hown5; have hz5 := hb5.size; have g05 := (hb5.cell (p := ⟨g, 0, none⟩) hgc).trans g0; have g15 := (hb5.cell (p := ⟨g, 1, none⟩) hgc).trans g1; have hcap := own_cap hown5; have hrd5 := Rd.of_own hown5 rfl)
      | (go_at_call 13; refine (HR1.out _ hb5 _ _ hrd5 hcap).mono ?_; rintro r w6 ⟨⟨A7, c7, rfl⟩, hb6⟩; have hz6 := hb6.size))
    have hgc6 : g < w5.heap.size := by omega
    have hgc7 : g < w6.heap.size := by omega
    have g06 := (hb6.cell (p := ⟨g, 0, none⟩) hgc6).trans g05
    have g16 := (hb6.cell (p := ⟨g, 1, none⟩) hgc6).trans g15
    obtain ⟨Q, hQ⟩ : ∃ Q, cut % out.length = Q := ⟨_, rfl⟩
    have hQl : Q < out.length := by rw [← hQ]; exact Nat.mod_lt _ (by omega)
    have hQt : ((cut : Int)).tmod (out.length : Int) = (Q : Int) := by rw [Int.tmod_eq_emod_of_nonneg (by omega), ← hQ]; simp
    have hqt : ((cpu : Int)).tmod 64 = (q : Int) := by rw [Int.tmod_eq_emod_of_nonneg (by omega)]; exact hqi
    have hwc : IntKind.i64.wrap (cut : Int) = (cut : Int) := IntWalk.i64_in _ (by omega)
    have hwq : IntKind.i64.wrap (Q : Int) = (Q : Int) := IntWalk.i64_in _ (by omega)
    have hQ0 : 0 ≤ (Q : Int) := by omega
    have hQc : (Q : Int) ≤ (c6 : Int) := by omega
    have hou : (0 : Int) < (out.length : Int) := by omega
    have hB6 : Below w.heap.size w w6 := (hBc.trans (hb5.mono hzc)).trans (hb6.mono (by omega))
    have hrd6 : Rd w6 w6.heap.size 1 A6 Q ((out.take Q).map B8) := by
      have h := (((hrd5.below hb6).more hz6).upto (k := Q) (by omega))
      rwa [Nat.mul_one, ← List.map_take] at h
    obtain ⟨x9, y9, hx9⟩ := HF.out.2.1 Q hQl
    have hmI2 : I64 (es.length : Int) := ⟨by omega, by omega⟩
    have hbc6 : Below wc.heap.size wc w6 := hb5.trans (hb6.mono hz5)
    have HR2 := hide (fun W (h : Below w6.heap.size w6 W) => (HRD.out W (hbc6.trans (h.mono (by omega))) A6 Q c6 (es.length : Int) hmI2 (out.take Q) ((hrd6.below h).more h.size) (by omega) (fun b hb => HF.out.2.2.1 b (List.mem_of_mem_take hb)) (by omega) (.inl (by omega))).mono (R' := fun r w' => (∃ v u, r = .returned (.tuple #[v, .int .i64 u, .int .i64 10])) ∧ Below W.heap.size W w') fun r w' h => ⟨by obtain ⟨v, h1, h2⟩ := h.ret; rw [hx9] at h1; exact ⟨v, _, h1⟩, h.below⟩)
    have h0 : Below w6.heap.size w6 w6 := Below.refl _ _
    have HK6 := hide (fun W (h : Below w6.heap.size w6 W) => And.intro ((h.cell (p := ⟨g, 0, none⟩) hgc7).trans g06) (And.intro ((h.cell (p := ⟨g, 1, none⟩) hgc7).trans g16) h))
    clear hQ hx9 hmI2 hrd6
    go_cut [18] from 64 to 80 (fun v wx => EndAt w v wx)
    case first =>
      go_region_held3 (fun w' => w'.cell? ⟨g, 0, none⟩ = some (.int .i64 s) ∧ w'.cell? ⟨g, 1, none⟩ = some (.int .i64 t) ∧ Below w6.heap.size w6 w')
        (first
          | (with_reducible exact HK6.out _ h0.drew)
          | (with_reducible exact HK6.out _ hS7))
        (first
          | (go_at_call 13; have hS := ‹_ ∧ _ ∧ Below w6.heap.size w6 _›; refine (HR2.out _ hS.2.2).mono ?_; rintro r w7 ⟨⟨v7, u7, rfl⟩, hb7⟩; have hS7 := hS.2.2.trans (hb7.mono hS.2.2.size)))
      all_goals
        (go_wp2_with fail; go_meet)
        exact ⟨rfl, hB6.trans (hS7.mono hB6.size)⟩
    obtain ⟨rfl, hB7⟩ := hcut
    go_wp2
    go_ret
    exact ⟨rfl, hB7⟩
end Go.Proofs.YtpekelggcmgnnaaDoor
